/-
  Texts Mh, Mi, Mj, Mk, Ml, one behind the other.
-/
import Derived.Test.YthkabaiamcjdbaaGreatJ1
import Derived.LoopNIn
import Derived.Deep.AppendSrc
import Derived.Great.BuildSlice
import Derived.Great.FillDense
set_option linter.unusedVariables false
set_option linter.unusedSimpArgs false
set_option maxHeartbeats 16000000
namespace Go.Abs
open Go.RowKit
section
variable {κ:Ctx} {P:Program} {φ:List Res} {g:Nat→Nat} {w:World} {rd:Option Nat}
theorem Post.mono {g':Nat→Nat}{w':World}{Q:Exit→St→Prop}{e:Exit}{a:Act}{w2:World} (h:Post κ φ g' w' Q e a w2) (hg:GE g w g' w'):Post κ φ g w Q e a w2:=by
 obtain ⟨g2,s,h1,h2,h3⟩:=h;exact ⟨g2,s,h1,hg.trans h2,h3⟩
theorem SR.skip {s:St}{a:Act} (h:SR κ φ g s a w) (dst:Option Tmp):SR κ φ g { s with t:=bP s.t dst U } (a.put dst undef) w:=by
 obtain ⟨ds,hd,hfr,hR,ht⟩:=h;refine ⟨ds, ?_,hfr,hR, ?_⟩
 ·have:(a.put dst undef).defers=a.defers:=by cases dst<;>rfl
  rw [this];exact hd
 ·obtain ⟨tm,df⟩:=a
  exact TR.put ht dst (.raw undef) df
theorem jG {dm:Bool}{all:List Oper}{Q:Exit→St→Prop}{g0:Nat→Nat}{w0:World}:∀ (l:List Oper) (s:St) (g:Nat→Nat) (a:Act) (w:World),bA κ dm P all Q l s→SR κ φ g s a w→GE g0 w0 g w→wpListIn (FD rd) 0 P all.toArray (Post κ φ g0 w0 Q) l a w
 | [],s,g,a,w,h,hs,hg=>⟨g,s,hs,hg,h⟩
 | o::rest,s,g,a,w,h,hs,hg=>by
  have yes:eZ κ dm P o s (fun x σ'=>bA κ dm P all Q rest { s with t:=bP s.t o.dst x,σ:=σ' }) (fun c σ'=>Q (.panic c) { s with σ:=σ' })→o.wpIn (FD rd) 0 P a w (wpListIn (FD rd) 0 P all.toArray (Post κ φ g0 w0 Q) rest) (Post κ φ g0 w0 Q):=by
   intro h;refine w8 h hs (fun g' a' w' x σ' hs' hge hk=>?_) (fun g' w' c σ' hs' hge hk=>?_)
   ·exact jG rest _ g' a' w' hk hs' (hg.trans hge)
   ·exact ⟨g',_,hs',hg.trans hge,hk⟩
  have no:bA κ dm P all Q rest { s with t:=bP s.t o.dst U }→(∀ f,o.about P w a.eval=some f→(FD rd).fn f)∧wpListIn (FD rd) 0 P all.toArray (Post κ φ g0 w0 Q) rest (a.put o.dst undef) w :=
   fun h=>⟨fun f _=>rQ rd f,jG rest _ g _ w h (hs.skip o.dst) hg⟩
  simp only [bA,de] at h;simp only [wpListIn];split at h
  ·rename_i hgd
   have:Region.wanted o (yielded all.toArray a.tmps)=true:=by simp [Region.wanted,hgd]
   rw [if_pos this];exact yes h
  ·rename_i j want hgd
   split at h
   ·rename_i d hd
    split at h
    ·rename_i b hb
     have hv:=du hs.tr (.tmp d)
     have hv':VR g w (.raw (.bool b)) (a.tmps.getD d undef):=by rw [← hb];exact hv
     have he:=hv'.raw_eq
     have hy:yielded all.toArray a.tmps j=some b:=by
      have h1:(all.toArray[j]?).bind (·.dst)=some d:=by simpa using hd
      have h2:a.tmps[d]? = some (.bool b):=by
       rw [Array.getD_eq_getD_getElem?] at he;cases hx:a.tmps[d]? with
       | none=>rw [hx] at he;cases he
       | some u=>rw [hx] at he;simp at he;rw [he]
      unfold yielded;rw [h1];simp only [Option.bind_some,h2]
     have hw:Region.wanted o (yielded all.toArray a.tmps)=(b == want):=by
      simp only [Region.wanted,hgd,hy];cases b<;>cases want<;>rfl
     rw [hw];cases hbw:(b == want) with
     | true=>rw [if_pos rfl];exact yes (h.1 hbw)
     | false=>rw [if_neg (by simp)];exact no (h.2 hbw)
    ·rename_i vs hb
     have hv:=du hs.tr (.tmp d)
     have hv':VR g w (.raw (.tuple vs)) (a.tmps.getD d undef):=by rw [← hb];exact hv
     have he:=hv'.raw_eq
     have hy:yielded all.toArray a.tmps j=none:=by
      have h1:(all.toArray[j]?).bind (·.dst)=some d:=by simpa using hd
      unfold yielded;rw [h1];simp only [Option.bind_some];rw [Array.getD_eq_getD_getElem?] at he;cases hx:a.tmps[d]? with
      | none=>rfl
      | some u=>rw [hx] at he;simp at he;rw [he]
     have hw:Region.wanted o (yielded all.toArray a.tmps)=false:=by
      simp only [Region.wanted,hgd,hy];cases want<;>rfl
     rw [hw,if_neg (by simp)];exact no h
    ·exact h.elim
   ·exact h.elim
theorem VR.le {x y:AV}{v:Value} (h:x.le y) (hv:VR g w x v):VR g w y v:=by
 rcases h with rfl|rfl|⟨sz,o,l,rfl,rfl⟩|⟨sz,o,rfl,hsz,rfl⟩
 ·exact .any v
 ·exact hv
 ·rcases hv.sl_inv with ⟨rfl,⟨ad,cp,rfl,hcp,hcpm⟩,_,h3⟩|⟨b,off,cap,rfl,h1,h2,h3,h4,h5,h6,h7⟩
  ·cases ad with
   | none=>rw [hcp rfl];exact .slnil h3
   | some ad=>exact .slzero hcpm h3
  ·exact VR.sl_mk rfl h1 h2 h3 h4 h5 h6 (fun t ht=>by cases ht)
 ·cases hv.raw_eq
  exact .slnil hsz
theorem SR.le {s s':St}{a:Act} (h:SR κ φ g s a w) (hl:s.le s'):SR κ φ g s' a w:=by
 obtain ⟨ds,hd,hfr,hR,ht⟩:=h;obtain ⟨h1,h2,h3,h5,h6⟩:=hl;refine ⟨ds,by rw [h6];exact hd,fun e=>hfr (h5 e), ?_,⟨by rw [ht.size,h1],fun k y hk=>?_⟩⟩
 ·exact (h3.app (ds.map gk)) κ φ g w hR
 ·have hlt:k < s.t.length:=by rw [← h1];exact aL hk
  have h0:s.t[k]? = some (s.t[k]'hlt):=List.getElem?_eq_getElem hlt
  exact (ht.get k _ h0).le (h2 k _ _ h0 hk)
theorem cE:∀ (c:Code) (Q:Exit→St→Prop) (s:St),run κ P rd c Q s→AW κ rd P c Q s
 | .skip,Q,s,h=>fun φ g a w hs=>wpIn_skip ⟨g,s,hs,GE.refl _ _,h⟩
 | .label _,Q,s,h=>fun φ g a w hs=>wpIn_label ⟨g,s,hs,GE.refl _ _,h⟩
 | .seq x y,Q,s,h=>fun φ g a w hs=>by
  refine wpIn_seq (wpIn_mono (cE x _ s h φ g a w hs) ?_);rintro e a' w' ⟨g',s',hs',hge,hq⟩;cases e with
  | normal=>exact wpIn_mono (cE y Q s' hq φ g' a' w' hs') (fun e a2 w2 hp=>hp.mono hge)
  | exit id=>exact ⟨g',s',hs',hge,hq⟩
  | goto id=>exact ⟨g',s',hs',hge,hq⟩
  | ret=>exact ⟨g',s',hs',hge,hq⟩
  | panic ch=>exact ⟨g',s',hs',hge,hq⟩
  | outgrown=>exact ⟨g',s',hs',hge,hq⟩
 | .cond c x y,Q,s,h=>fun φ g a w hs=>by
  simp only [run] at h;split at h
  ·rename_i b hb
   have hv:=du hs.tr c
   rw [hb] at hv;have hv':=hv.raw_eq
   refine wpIn_cond hv' ?_;cases b with
   | true=>exact cE x Q s (h.1 rfl) φ g a w hs
   | false=>exact cE y Q s (h.2 rfl) φ g a w hs
  ·exact h.elim
 | .block id c,Q,s,h=>fun φ g a w hs=>by
  refine wpIn_block (wpIn_mono (cE c _ s h φ g a w hs) ?_);rintro e a' w' ⟨g',s',hs',hge,hq⟩;cases e with
  | exit id' =>
   simp only [gu] at hq;simp only [Exit.inBlock];split at hq
   ·rename_i e;rw [if_pos e];exact ⟨g',s',hs',hge,hq⟩
   ·rename_i e;rw [if_neg e];exact ⟨g',s',hs',hge,hq⟩
  | normal=>exact ⟨g',s',hs',hge,hq⟩
  | goto id=>exact ⟨g',s',hs',hge,hq⟩
  | ret=>exact ⟨g',s',hs',hge,hq⟩
  | panic ch=>exact ⟨g',s',hs',hge,hq⟩
  | outgrown=>exact ⟨g',s',hs',hge,hq⟩
 | .loop c,Q,s,h=>fun φ g a w hs=>by
  obtain ⟨X,st,C,μ,x0,hle0,hC0,hround⟩:=h;have key:∀ (m:Nat) (x:X) (g1:Nat→Nat) (a1:Act) (w1:World),C x→μ x < m→SR κ φ g1 (st x) a1 w1→GE g w g1 w1→Code.roundsIn (FD rd) 0 P c (Post κ φ g w Q) m a1 w1:=by
   intro m;induction m with
   | zero=>intro x g1 a1 w1 _ h0;omega
   | succ m ih =>
    intro x g1 a1 w1 hC hm hs1 hg1;rw [roundsIn_succ];refine wpIn_mono (cE c _ _ (hround x hC) φ g1 a1 w1 hs1) ?_;rintro e a' w' ⟨g',s',hs',hge,hq⟩;cases e with
    | normal =>
     obtain ⟨y,hle,hCy,hlt⟩:=hq;exact ih y g' a' w' hCy (by omega) (hs'.le hle) (hg1.trans hge)
    | exit id=>exact ⟨g',s',hs',hg1.trans hge,hq⟩
    | goto id=>exact ⟨g',s',hs',hg1.trans hge,hq⟩
    | ret=>exact ⟨g',s',hs',hg1.trans hge,hq⟩
    | panic ch=>exact ⟨g',s',hs',hg1.trans hge,hq⟩
    | outgrown=>exact ⟨g',s',hs',hg1.trans hge,hq⟩
  exact wpIn_loop_rounds (μ x0+1) (key (μ x0+1) x0 g a w hC0 (Nat.lt_succ_self _) (hs.le hle0) (GE.refl _ _))
 | .region id ops false,Q,s,h=>fun φ g a w hs=>by
  refine wpIn_region_list ?_;have:=jG (rd:=rd) (φ:=φ) ops.toList s g a w h hs (GE.refl g w)
  simpa using this
 | .region id ops true,Q,s,h=>h
 | .exit id,Q,s,h=>fun φ g a w hs=>wpIn_exit ⟨g,s,hs,GE.refl _ _,h⟩
 | .ret,Q,s,h=>fun φ g a w hs=>wpIn_ret ⟨g,s,hs,GE.refl _ _,h⟩
 | .rangeFunc f ps x y,Q,s,h=>h
 | .scope c,Q,s,h=>h
 | .goto l,Q,s,h=>h
 | .refuse m,Q,s,h=>h
/-! ### Rules for what a piece of code comes to, where a walk is cut -/
theorem oW {c:Code}{Q:Exit→St→Prop}{s:St} (h:run κ P rd c Q s):AW κ rd P c Q s:=cE c Q s h
theorem Xp {c:Code}{Q:Exit→St→Prop}{s s':St} (hle:s.le s') (h:AW κ rd P c Q s'):AW κ rd P c Q s:=fun φ g a w hs=>h φ g a w (hs.le hle)
theorem al {x y:Code}{Q:Exit→St→Prop}{s:St} (h:AW κ rd P x (eY (AW κ rd P y Q) Q) s):AW κ rd P (.seq x y) Q s:=fun φ g a w hs=>by
 refine wpIn_seq (wpIn_mono (h φ g a w hs) ?_);rintro e a' w' ⟨g',s',hs',hge,hq⟩;cases e with
 | normal=>exact wpIn_mono (hq φ g' a' w' hs') (fun e a2 w2 hp=>hp.mono hge)
 | exit id=>exact ⟨g',s',hs',hge,hq⟩
 | goto id=>exact ⟨g',s',hs',hge,hq⟩
 | ret=>exact ⟨g',s',hs',hge,hq⟩
 | panic ch=>exact ⟨g',s',hs',hge,hq⟩
 | outgrown=>exact ⟨g',s',hs',hge,hq⟩
theorem aG {x y:Code}{Q:Exit→St→Prop}{s:St} (h:run κ P rd x (eY (AW κ rd P y Q) Q) s):AW κ rd P (.seq x y) Q s:=al (cE x _ s h)
theorem Ol {c:Code}{Q Q':Exit→St→Prop}{s:St} (h:AW κ rd P c Q s) (hq:∀ e s',Q e s'→Q' e s'):AW κ rd P c Q' s:=fun φ g a w hs =>
 wpIn_mono (h φ g a w hs) (fun _ _ _ ⟨g',s',h1,h2,h3⟩=>⟨g',s',h1,h2,hq _ _ h3⟩)
theorem NR {X:Type} (st:X→St) (C:X→Prop) {x y:Code}{Q:Exit→St→Prop}{s:St} (h1:AW κ rd P x (eY (fun s'=>∃ z,s'.le (st z)∧C z) Q) s) (h2:∀ z,C z→AW κ rd P y Q (st z)):AW κ rd P (.seq x y) Q s :=
 al (Ol h1 (fun e s' hq=>by
  cases e with
  | normal=>obtain ⟨z,hle,hC⟩:=hq;exact Xp hle (h2 z hC)
  | exit id=>exact hq
  | goto id=>exact hq
  | ret=>exact hq
  | panic ch=>exact hq
  | outgrown=>exact hq))
theorem aC {id:Nat}{c:Code}{Q:Exit→St→Prop}{s:St} (h:AW κ rd P c (gu id Q) s):AW κ rd P (.block id c) Q s:=fun φ g a w hs=>by
 refine wpIn_block (wpIn_mono (h φ g a w hs) ?_);rintro e a' w' ⟨g',s',hs',hge,hq⟩;cases e with
 | exit id' =>
  simp only [gu] at hq;simp only [Exit.inBlock];split at hq
  ·rename_i e;rw [if_pos e];exact ⟨g',s',hs',hge,hq⟩
  ·rename_i e;rw [if_neg e];exact ⟨g',s',hs',hge,hq⟩
 | normal=>exact ⟨g',s',hs',hge,hq⟩
 | goto id=>exact ⟨g',s',hs',hge,hq⟩
 | ret=>exact ⟨g',s',hs',hge,hq⟩
 | panic ch=>exact ⟨g',s',hs',hge,hq⟩
 | outgrown=>exact ⟨g',s',hs',hge,hq⟩
theorem NP {X:Type} (st:X→St) (C:X→Prop) (μ:X→Nat) {c:Code}{Q:Exit→St→Prop}{s:St} (x0:X) (hle0:s.le (st x0)) (hC0:C x0)
  (hround:∀ x,C x→AW κ rd P c (eY (fun s'=>∃ y,s'.le (st y)∧C y∧μ y < μ x) Q) (st x)):AW κ rd P (.loop c) Q s:=fun φ g a w hs=>by
 have key:∀ (m:Nat) (x:X) (g1:Nat→Nat) (a1:Act) (w1:World),C x→μ x < m→SR κ φ g1 (st x) a1 w1→GE g w g1 w1→Code.roundsIn (FD rd) 0 P c (Post κ φ g w Q) m a1 w1:=by
  intro m;induction m with
  | zero=>intro x g1 a1 w1 _ h0;omega
  | succ m ih =>
   intro x g1 a1 w1 hC hm hs1 hg1;rw [roundsIn_succ];refine wpIn_mono (hround x hC φ g1 a1 w1 hs1) ?_;rintro e a' w' ⟨g',s',hs',hge,hq⟩;cases e with
   | normal =>
    obtain ⟨y,hle,hCy,hlt⟩:=hq;exact ih y g' a' w' hCy (by omega) (hs'.le hle) (hg1.trans hge)
   | exit id=>exact ⟨g',s',hs',hg1.trans hge,hq⟩
   | goto id=>exact ⟨g',s',hs',hg1.trans hge,hq⟩
   | ret=>exact ⟨g',s',hs',hg1.trans hge,hq⟩
   | panic ch=>exact ⟨g',s',hs',hg1.trans hge,hq⟩
   | outgrown=>exact ⟨g',s',hs',hg1.trans hge,hq⟩
 exact wpIn_loop_rounds (μ x0+1) (key (μ x0+1) x0 g a w hC0 (Nat.lt_succ_self _) (hs.le hle0) (GE.refl _ _))
/-! ### A function -/
def Rt (κ:Ctx) (P:Program) (fn:Func) (s:St) (K:Ret→List Res→Prop):Prop :=
 ∀ (φ:List Res) (g:Nat→Nat) (w:World) (tmps:Array Value),Rel κ g (φ++s.σ) w→TR g w s.t tmps→∃ v x,(results fn tmps).run P w=.ok v w∧VR g w x v∧K (.ret x) s.σ
def qL (κ:Ctx) (P:Program) (fn:Func) (s:St) (K:Ret→List Res→Prop):Prop :=
 match fn.results.toList with
 | []=>K (.ret (.tup [])) s.σ
 | [.tmp a]=>K (.ret (s.ev (.tmp a))) s.σ
 | [.tmp a,.tmp b]=>K (.ret (.tup [s.ev (.tmp a),s.ev (.tmp b)])) s.σ
 | [.tmp a,.tmp b,.tmp c]=>K (.ret (.tup [s.ev (.tmp a),s.ev (.tmp b),s.ev (.tmp c)])) s.σ
 | [.tmp a,.tmp b,.tmp c,.tmp d]=>K (.ret (.tup [s.ev (.tmp a),s.ev (.tmp b),s.ev (.tmp c),s.ev (.tmp d)])) s.σ
 | _=>Rt κ P fn s K
def qC (κ:Ctx) (P:Program) (fn:Func) (K:Ret→List Res→Prop):Exit→St→Prop
 | .normal,s=>s.df=[]∧qL κ P fn s K
 | .ret,s=>s.df=[]∧qL κ P fn s K
 | .panic c,s=>s.df=[]∧K (.pan c) s.σ
 | _,_=>False
theorem oz {fn:Func}{s:St}{K:Ret→List Res→Prop} (h:qL κ P fn s K):Rt κ P fn s K:=by
 unfold qL at h;have hres:fn.results=fn.results.toList.toArray:=by simp
 have tup:∀ {g:Nat→Nat} {w:World} (xs:List AV) (vs:List Value),TR g w xs vs.toArray→VR g w (.tup xs) (.tuple vs.toArray):=fun xs vs h=>.tup _ h.size h.get
 intro φ g w tmps hR ht;have hev:∀ k,VR g w (s.ev (.tmp k)) (tmps.getD k undef):=fun k=>du (a:=⟨tmps,[]⟩) ht (.tmp k)
 split at h
 ·rename_i e;rw [e] at hres
  exact ⟨.tuple #[],.tup [],by simp [results,hres],tup [] [] TR.nil,h⟩
 ·rename_i a e;rw [e] at hres
  exact ⟨tmps.getD a undef,_,by simp [results,hres],hev a,h⟩
 ·rename_i a b e;rw [e] at hres
  exact ⟨.tuple #[tmps.getD a undef,tmps.getD b undef],_,by simp [results,hres],tup _ [_,_] (TR.two (hev a) (hev b)),h⟩
 ·rename_i a b c e;rw [e] at hres
  exact ⟨.tuple #[tmps.getD a undef,tmps.getD b undef,tmps.getD c undef],_,by simp [results,hres],tup _ [_,_,_] (TR.cons (hev a) (TR.two (hev b) (hev c))),h⟩
 ·rename_i a b c d e;rw [e] at hres
  exact ⟨.tuple #[tmps.getD a undef,tmps.getD b undef,tmps.getD c undef,tmps.getD d undef],_,by simp [results,hres],tup _ [_,_,_,_] (TR.cons (hev a) (TR.cons (hev b) (TR.two (hev c) (hev d)))),h⟩
 ·exact h φ g w tmps hR ht
theorem iJ {fn:Func}{tmps:Array Value}{R:Ending→World→Prop}{σ:List Res} (u:FrameMode) (hu:u≠.run) :
  ∀ (ds:List Nat) (g:Nat→Nat) (w:World),Rel κ g (φ++(ds.map gk++σ)) w→(∀ w',Rel κ g (φ++σ) w'→GE g w g w'→LeavesIn Fence.wide 0 P fn tmps R [] u w')→LeavesInM Fence.wide 0 P fn tmps R (ds.map kF) u w
 | [],g,w,hR,h=>h w hR (GE.refl _ _)
 | r::ds,g,w,hR,h=>by
  have hp:(φ++((r::ds).map gk++σ)).Perm (gk r::(φ++(ds.map gk++σ))):=by
   simp only [List.map_cons,List.cons_append];exact List.perm_middle
  have hR':=hR.perm hp
  have hr:=hR'.holds (gk r) (by simp)
  obtain ⟨h0,h1,_⟩:=hr;have hlt:r < w.heap.size:=(hR'.bnd (gk r) (by simp) r rfl).2
  refine ⟨hu,.inl ⟨r,{ w with heap:=w.heap.setIfInBounds r (.deferred none) },rfl, ?_, ?_⟩⟩
  ·simp [Instr.takeDeferred,getObj,setObj,Sem.run,h1,bind,Sem.bind,pure]
  ·have hsame:∀ b,b≠r→({ w with heap:=w.heap.setIfInBounds r (.deferred none) }:World).heap[b]? = w.heap[b]?:=fun b hb=>by
    simp only [Array.getElem?_setIfInBounds];rw [if_neg (fun e=>hb e.symm)]
   have hge:GE g w g { w with heap:=w.heap.setIfInBounds r (.deferred none) }:=by
    refine ⟨by simp,fun _=>Nat.le_refl _,fun b o ho=>?_,fun b=>?_⟩
    ·have hb:b≠r:=fun e=>by subst e;rw [h0] at ho;omega
     simp only [World.cell?];rw [hsame b hb]
    ·by_cases hb:b=r
     ·subst hb;simp [bu,h1]
     ·simp only [bu];rw [hsame b hb];exact Nat.le_refl _
   have hR2:Rel κ g (.blk r (.deferred none)::(φ++(ds.map gk++σ))) { w with heap:=w.heap.setIfInBounds r (.deferred none) } :=
    hR'.change hge rfl rfl rfl (by simp) (fun b hb=>hsame b hb) (fun b _=>rfl) rfl rfl ⟨h0,by simp [hlt],trivial⟩
   exact iJ u hu ds g _ (hR2.sub (List.sublist_cons_self _ _)) (fun w' h2 h3=>h w' h2 (hge.trans h3))
theorem aN {f:FuncId}{fn:Func}{c:Code}{args:List AV}{σ:List Res}{K:Ret→List Res→Prop} (hf:P.funcs[f]? = some fn) (hb:fn.body=some c)
  (h:AW κ none P c (qC κ P fn K) { t:=args++List.replicate (fn.ntmps - args.length) .any,σ:=σ }):ACallF κ P f args σ K:=by
 intro φ g w vs hR hv;refine callsIn_of_wp_marks hf hb trivial ?_;have hs:SR κ φ g { t:=args++List.replicate (fn.ntmps - args.length) .any,σ:=σ } { tmps:=vs++Array.replicate (fn.ntmps - vs.size) undef,defers:=[] } w:=by
  refine ⟨[],rfl,fun _=>rfl,hR,hv.append ⟨by simp [hv.size],fun k x hk=>?_⟩⟩;rw [List.getElem?_replicate] at hk;split at hk
  ·cases hk;exact .any _
  ·cases hk
 refine wpIn_mono (h φ g _ w hs) ?_;have leave:∀ (g':Nat→Nat) (s':St) (a':Act) (w':World),SR κ φ g' s' a' w'→GE g w g' w'→s'.df=[]→qL κ P fn s' K→LeavesInM Fence.wide 0 P fn a'.tmps (fL κ φ g w K) a'.defers .returning w':=by
  intro g' s' a' w' hs' hge hdf hk;obtain ⟨ds,hd,hfr,hR',ht'⟩:=hs';rw [hd,hdf,List.append_nil];refine iJ (κ:=κ) (φ:=φ) (σ:=s'.σ) .returning (by simp) ds g' w' hR' (fun w2 hR2 hge2=>?_);obtain ⟨v,x,h1,h2,h3⟩:=oz hk φ g' w2 a'.tmps hR2 (ht'.mono hge2);exact ⟨v,h1,g',s'.σ,.ret x,hR2,hge.trans hge2,h2,h3⟩
 rintro e a' w' ⟨g',s',hs',hge,hq⟩;cases e with
 | normal=>exact leave g' s' a' w' hs' hge hq.1 hq.2
 | ret=>exact leave g' s' a' w' hs' hge hq.1 hq.2
 | panic ch =>
  obtain ⟨hdf,hk⟩:=hq;obtain ⟨ds,hd,hfr,hR',ht'⟩:=hs';show LeavesInM Fence.wide 0 P fn a'.tmps (fL κ φ g w K) a'.defers (.panicking ch) w'
  rw [hd,hdf,List.append_nil];refine iJ (κ:=κ) (φ:=φ) (σ:=s'.σ) (.panicking ch) (by simp) ds g' w' hR' (fun w2 hR2 hge2=>?_);exact ⟨g',s'.σ,.pan ch,hR2,hge.trans hge2,rfl,hk⟩
 | exit id=>exact hq.elim
 | goto id=>exact hq.elim
 | outgrown=>exact hq.elim
theorem aa {f:FuncId}{fn:Func}{c:Code}{args:List AV}{σ:List Res}{K:Ret→List Res→Prop} (hf:P.funcs[f]? = some fn) (hb:fn.body=some c)
  (h:run κ P none c (qC κ P fn K) { t:=args++List.replicate (fn.ntmps - args.length) .any,σ:=σ }):ACallF κ P f args σ K:=aN hf hb (cE c _ _ h)
theorem ACallF.mono {f:FuncId}{args:List AV}{σ:List Res}{K K':Ret→List Res→Prop} (h:ACallF κ P f args σ K) (hk:∀ r σ',K r σ'→K' r σ'):ACallF κ P f args σ K' :=
 fun φ g w vs hR hv=>CallsIn.mono (h φ g w vs hR hv) (fun _ _ ⟨g',σ',r,h1,h2,h3,h4⟩=>⟨g',σ',r,h1,h2,h3,hk r σ' h4⟩)
theorem ACallF.perm {f:FuncId}{args:List AV}{σ σ2:List Res}{K:Ret→List Res→Prop} (p:σ.Perm σ2) (h:ACallF κ P f args σ2 K):ACallF κ P f args σ K :=
 fun φ g w vs hR hv=>h φ g w vs (hR.perm ((List.Perm.refl φ).append p)) hv
end
def iL:AV→Bool
 | .raw v=>v.oneCell'
 | .sl _ _ _=>true
 | .cp _=>true
 | .ifc _ _=>true
 | _=>false
section
variable {κ:Ctx} {P:Program} {σ:List Res} {K:AV→List Res→Prop}
theorem ns {g:Nat→Nat}{w:World}{x:AV}{v:Value} (hv:VR g w x v) (h:iL x=true):v.oneCell'=true:=by
 cases hv<;>first|exact h|rfl|cases h
theorem jU {g:Nat→Nat}{w:World}{x:AV}{vs:List Value} (h:TR g w [x] vs.toArray):∃ v,vs=[v]∧VR g w x v:=by
 have h1:=h.size
 match vs,h1 with
 | [v],_=>exact ⟨v,rfl,by simpa using h.get 0 x rfl⟩
theorem dA {g:Nat→Nat}{w:World}{x y:AV}{vs:List Value} (h:TR g w [x,y] vs.toArray):∃ v u,vs=[v,u]∧VR g w x v∧VR g w y u:=by
 have h1:=h.size
 match vs,h1 with
 | [v,u],_=>exact ⟨v,u,rfl,by simpa using h.get 0 x rfl,by simpa using h.get 1 y rfl⟩
theorem mE {g:Nat→Nat}{w:World}{vs:List Value} (h:TR g w [] vs.toArray):vs=[]:=by
 have h1:=h.size
 simpa using h1
theorem AAct.mono {m:MA}{xs:List AV}{K':AV→List Res→Prop} (h:AAct κ P m xs σ K) (hk:∀ x σ',K x σ'→K' x σ'):AAct κ P m xs σ K' :=
 fun φ g w vs hR hv=>by
  obtain ⟨v,w',g',x,σ',h1,h2,h3,h4,h5⟩:=h φ g w vs hR hv;exact ⟨v,w',g',x,σ',h1,h2,h3,h4,hk _ _ h5⟩
theorem cN {φ:List Res}{r:Res}{i:Nat} (h:σ[i]? = some r):r∈φ++σ:=List.mem_append.2 (.inr (List.mem_of_getElem? h))
theorem H1 {t b k:Nat}{cs:List AV}{x:AV} (i:Nat) (h:σ[i]? = some (.obj b cs)) (ha:aggT P t=some false) (hc:cs[k]? = some x) (hk:K x σ):AAct κ P (.load t) [.raw (.pointer (some ⟨b,k,none⟩))] σ K:=by
 intro φ g w vs hR hv;obtain ⟨v,rfl,hv1⟩:=jU hv;cases hv1.raw_eq
 obtain ⟨_,arr,ty,hh,hcs⟩:=hR.holds _ (cN h);have hx:=hcs.get k x hc
 have hlt:k < arr.size:=by rw [hcs.size];exact aL hc
 have hcell:w.cell? ⟨b,k,none⟩=some (arr.getD k undef):=by
  simp [World.cell?,hh,hlt]
 exact ⟨_,w,g,x,σ,by simp [MA.sem,nth,Instr.loadAt,Instr.sureAddr,loadVar,dC ha,hcell],hR,GE.refl _ _,hx,hk⟩
theorem yD {t b k:Nat}{cs:List AV}{n:Nat} (i:Nat) (h:σ[i]? = some (.obj b cs)) (ha:aggT P t=some true) (hs:dj P t=some n) (hn:k+n≤cs.length) (hk:K (.agg ((cs.drop k).take n)) σ):AAct κ P (.load t) [.raw (.pointer (some ⟨b,k,none⟩))] σ K:=by
 intro φ g w vs hR hv;obtain ⟨v,rfl,hv1⟩:=jU hv;cases hv1.raw_eq
 obtain ⟨_,arr,ty,hh,hcs⟩:=hR.holds _ (cN h);have hsz:=hcs.size
 obtain ⟨arr2,h1,h2,h3⟩:=ig (P:=P) (w:=w) b k n (fun j hj=>⟨arr.getD (k+j) undef,by
  have:k+j < arr.size:=by omega
  simp [World.cell?,hh,this]⟩)
 refine ⟨.agg arr2,w,g,_,σ,by simp [MA.sem,nth,Instr.loadAt,Instr.sureAddr,loadVar,dC ha,dI hs,h1],hR,GE.refl _ _, ?_,hk⟩;refine .agg arr2 (by simp [h2];omega) (fun j y hy=>?_);have hjn:j < n:=by have:=aL hy;simp at this;omega
 rw [List.getElem?_take_of_lt hjn,List.getElem?_drop] at hy;have h4:=h3 j hjn
 have:k+j < arr.size:=by omega
 have h5:w.cell? ⟨b,k+j,none⟩=some (arr.getD (k+j) undef):=by simp [World.cell?,hh,this]
 rw [h5] at h4;rw [← Option.some.inj h4];exact hcs.get _ y hy
theorem jo (w:World) (b k:Nat) (v:Value) (arr:Array Value) (ty:TypeId) (h:w.heap[b]? = some (.cells arr ty (0,0))):(w.setCell ⟨b,k,none⟩ v).heap[b]? = some (.cells (arr.setIfInBounds k v) ty (0,0)):=by
 simp [World.setCell,Array.getElem?_modify,h]
theorem iz (w:World) (b k c:Nat) (v:Value) (h:c≠b):(w.setCell ⟨b,k,none⟩ v).heap[c]? = w.heap[c]?:=by
 simp only [World.setCell,Array.getElem?_modify];rw [if_neg (fun e=>h e.symm)]
theorem DH {g:Nat→Nat}{w:World}{b k:Nat}{v:Value}{arr:Array Value}{ty:TypeId} (h:w.heap[b]? = some (.cells arr ty (0,0))) (hg:g b≤k):GE g w g (w.setCell ⟨b,k,none⟩ v):=by
 refine ⟨by simp [World.setCell],fun _=>Nat.le_refl _,fun c o ho=>?_,fun c=>?_⟩
 ·by_cases e:c=b
  ·subst e
   simp only [World.cell?];rw [jo w c k v arr ty h,h];simp only [Option.isSome_none,Bool.false_eq_true,if_false];exact Array.getElem?_setIfInBounds_ne (by omega)
  ·simp only [World.cell?];rw [iz w b k c v e]
 ·by_cases e:c=b
  ·subst e
   simp only [bu];rw [jo w c k v arr ty h,h];simp
  ·simp only [bu];rw [iz w b k c v e];exact Nat.le_refl _
theorem tS {φ:List Res}{g:Nat→Nat}{w:World}{b k i:Nat}{cs:List AV}{x:AV}{v:Value} (hR:Rel κ g (φ++σ) w) (h:σ[i]? = some (.obj b cs)) (hk:k < cs.length) (hv:VR g w x v) (h1:iL x=true) :
  (store ⟨b,k,none⟩ v).run P w=.ok () (w.setCell ⟨b,k,none⟩ v)∧Rel κ g (φ++σ.set i (.obj b (cs.set k x))) (w.setCell ⟨b,k,none⟩ v)∧GE g w g (w.setCell ⟨b,k,none⟩ v):=by
 obtain ⟨h0,arr,ty,hh,hcs⟩:=hR.holds _ (cN h);have hlt:k < arr.size:=by rw [hcs.size];exact hk
 have hge:GE g w g (w.setCell ⟨b,k,none⟩ v):=DH hh (by omega)
 refine ⟨?_, ?_,hge⟩
 ·rw [run_store P w _ v _ (ns hv h1)]
  have:w.cell? ⟨b,k,none⟩=some (arr.getD k undef):=by simp [World.cell?,hh,hlt]
  simp [this,World.frozen?,hh]
 ·have hR':=hR.perm (c6 (φ:=φ) (dE h))
  have hR2:Rel κ g (.obj b (cs.set k x)::(φ++σ.eraseIdx i)) (w.setCell ⟨b,k,none⟩ v):=by
   refine hR'.change hge rfl rfl rfl (by simp [World.setCell]) (fun c hc=>iz w b k c v hc) (fun _ _=>rfl) rfl rfl ?_;refine ⟨h0,_,ty,jo w b k v arr ty hh,⟨by simp [hcs.size],fun j y hy=>?_⟩⟩;rw [List.getElem?_set] at hy;by_cases e:k=j
   ·subst e
    rw [if_pos rfl,if_pos hk] at hy;cases hy
    have:(arr.setIfInBounds k v).getD k undef=v:=by simp [Array.getD_eq_getD_getElem?,hlt]
    rw [this];exact hv.mono hge
   ·rw [if_neg e] at hy
    have:(arr.setIfInBounds k v).getD j undef=arr.getD j undef:=by
     rw [Array.getD_eq_getD_getElem?,Array.getElem?_setIfInBounds_ne e,← Array.getD_eq_getD_getElem?]
    rw [this];exact (hcs.get j y hy).mono hge
  exact hR2.perm (List.perm_middle.symm.trans ((fq h).append_left φ))
theorem q7 {v:Value} (h:v.oneCell'=true):v.cells = #[v]:=by cases v<;>first|rfl|cases h
theorem F3 {t b k:Nat}{cs:List AV}{x:AV} (i:Nat) (h:σ[i]? = some (.obj b cs)) (hs:dj P t=some 1) (hk:k < cs.length) (h1:iL x=true) (hK:K .any (σ.set i (.obj b (cs.set k x)))):AAct κ P (.store t) [.raw (.pointer (some ⟨b,k,none⟩)),x] σ K:=by
 intro φ g w vs hR hv;obtain ⟨v,u,rfl,hv1,hu⟩:=dA hv;cases hv1.raw_eq
 obtain ⟨a1,a2,a3⟩:=tS (P:=P) hR h hk hu h1;refine ⟨undef,_,g,.any,_, ?_,a2,a3,.any _,hK⟩;have hc:=q7 (ns hu h1)
 simp only [MA.sem,nth,List.getD_cons_zero,List.getD_cons_succ,Instr.storeAt,Instr.sureAddr,Sem.run_bind,Sem.run_pure,Result.andThen_ok,storeVar,hc,dI hs];simp [storeCells,Addr.add_zero',a1]
def setCells (cs:List AV):Nat→List AV→List AV
 | _,[]=>cs
 | k,x::xs=>setCells (cs.set k x) (k+1) xs
theorem Be {α:Type} (l:List α) (i:Nat) (x y:α):(l.set i x).set i y=l.set i y:=by simp
theorem rX {φ:List Res}{b i:Nat}:∀ (xs:List AV) (us:List Value) (cs:List AV) (k j:Nat) (σ:List Res) (g:Nat→Nat) (w:World),Rel κ g (φ++σ) w→σ[i]? = some (.obj b cs)→k+j+xs.length≤cs.length →
  TR g w xs us.toArray→(∀ x∈xs,iL x=true)→∃ w',(storeCells ⟨b,k,none⟩ us j).run P w=.ok () w'∧Rel κ g (φ++σ.set i (.obj b (setCells cs (k+j) xs))) w'∧GE g w g w'
 | [],us,cs,k,j,σ,g,w,hR,h,hle,ht,h1=>by
  have:us=[]:=mE ht
  subst this;refine ⟨w,rfl, ?_,GE.refl _ _⟩;have e:σ.set i (.obj b cs)=σ:=by
   apply List.ext_getElem?
   intro m;rw [List.getElem?_set];split
   ·rename_i e;subst e;split
    ·rw [h]
    ·rename_i hlt;exact (hlt (aL h)).elim
   ·rfl
  simp only [setCells];rw [e];exact hR
 | x::xs,us,cs,k,j,σ,g,w,hR,h,hle,ht,h1=>by
  match us,ht.size with
  | u::us,hsz =>
   have hx:VR g w x u:=by simpa using ht.get 0 x rfl
   have hxs:TR g w xs us.toArray:=⟨by simpa using hsz,fun m y hm=>by
    have:=ht.get (m+1) y (by simpa using hm)
    simpa [Array.getD_eq_getD_getElem?] using this⟩
   simp only [List.length_cons] at hle;obtain ⟨a1,a2,a3⟩:=tS (P:=P) (k:=k+j) hR h (by omega) hx (h1 x (by simp));have h':(σ.set i (.obj b (cs.set (k+j) x)))[i]? = some (.obj b (cs.set (k+j) x)):=by
    rw [List.getElem?_set,if_pos rfl,if_pos (aL h)]
   obtain ⟨w',b1,b2,b3⟩:=rX xs us (cs.set (k+j) x) k (j+1) _ g _ a2 h' (by simp;omega) (hxs.mono a3) (fun y hy=>h1 y (by simp [hy]));refine ⟨w', ?_, ?_,a3.trans b3⟩
   ·simp only [storeCells,Sem.run_bind,Addr.add_lit,a1,Result.andThen_ok,b1]
   ·rw [Be] at b2
    simpa [setCells,Nat.add_assoc] using b2
theorem vo {t b k:Nat}{cs xs:List AV} (i:Nat) (h:σ[i]? = some (.obj b cs)) (hs:dj P t=some xs.length) (hk:k+xs.length≤cs.length) (h1:xs.all iL=true) (hK:K .any (σ.set i (.obj b (setCells cs k xs)))):AAct κ P (.store t) [.raw (.pointer (some ⟨b,k,none⟩)),.agg xs] σ K:=by
 intro φ g w vs hR hv;obtain ⟨v,u,rfl,hv1,hu⟩:=dA hv;cases hv1.raw_eq
 cases hu with
 | agg us hsz hus =>
 have ht:TR g w xs us.toList.toArray:=by simpa using (⟨hsz,hus⟩:TR g w xs us)
 obtain ⟨w',a1,a2,a3⟩:=rX (P:=P) (κ:=κ) xs us.toList cs k 0 σ g w hR h (by omega) ht (fun x hx=>List.all_eq_true.1 h1 x hx);refine ⟨undef,w',g,.any,_, ?_,by simpa using a2,a3,.any _,hK⟩;have hc:(Value.agg us).cells=us:=rfl
 simp only [MA.sem,nth,List.getD_cons_zero,List.getD_cons_succ,Instr.storeAt,Instr.sureAddr,Sem.run_bind,Sem.run_pure,Result.andThen_ok,storeVar,hc,dI hs,hsz];simp [a1]
theorem TR.cells {g:Nat→Nat}{w:World}{x:AV}{v:Value} (h:VR g w x v) (h1:x.cells.all iL=true):TR g w x.cells v.cells:=by
 cases h with
 | agg vs hs hv=>exact ⟨hs,hv⟩
 | raw v =>
  simp only [AV.cells] at h1 ⊢;have:iL (.raw v)=true:=by simpa using h1
  rw [q7 this];exact TR.one (.raw v)
 | any v=>simp [AV.cells,iL] at h1
 | slnil hsz=>exact TR.one (.slnil hsz)
 | slzero h2 hsz=>exact TR.one (.slzero h2 hsz)
 | sl u a1 a2 a3 a4 a5 a6 a7 a8=>exact TR.one (.sl u a1 a2 a3 a4 a5 a6 a7 a8)
 | cp u a1 a2 a3=>exact TR.one (.cp u a1 a2 a3)
 | tup vs hs hv=>simp [AV.cells,iL] at h1
 | ifc h=>exact TR.one (.ifc h)
theorem OX {t:TypeId}{z:Value} (hz:dP P t=some z) (h1:(rU z).cells.all iL=true) (hK:∀ b,K (.raw (.pointer (some ⟨b,0,none⟩))) (.obj b (rU z).cells::σ)):AAct κ P (.new t) [] σ K:=by
 intro φ g w vs hR hv;have:=mE hv
 subst this;have hc:=TR.cells (g:=g) (w:=w) (nK z) h1
 obtain ⟨a1,a2⟩:=hR.new_obj t hc;refine ⟨.pointer (some ⟨w.heap.size,0,none⟩),_,g,_,_, ?_,a1.perm List.perm_middle.symm,a2,.raw _,hK _⟩;have hzi:∃ i,P.info? t=some i∧i.zero=some z:=by
  unfold dP at hz;cases hi:P.info? t with
  | none=>simp [hi] at hz
  | some i=>exact ⟨i,rfl,by simpa [hi] using hz⟩
 obtain ⟨inf,hi,hzz⟩:=hzi;simp [MA.sem,Instr.alloc,zeroValue,kJ hi,hzz,newVar,newRow]
theorem Og {t:TypeId}{x:AV} (h1:x.cells.all iL=true) (hK:∀ b,K (.raw (.pointer (some ⟨b,0,none⟩))) (.obj b x.cells::σ)):AAct κ P (.box t) [x] σ K:=by
 intro φ g w vs hR hv;obtain ⟨v,rfl,hv1⟩:=jU hv;have hc:=TR.cells hv1 h1
 obtain ⟨a1,a2⟩:=hR.new_obj t hc;refine ⟨.pointer (some ⟨w.heap.size,0,none⟩),_,g,_,_, ?_,a1.perm List.perm_middle.symm,a2,.raw _,hK _⟩;simp [MA.sem,nth,Instr.box,newVar,newRow]
end
def cY (l:List AV):Bool:=l.all fun x=>x.cells.all iL
structure FR (g:Nat→Nat) (w:World) (sz:Nat) (l:List AV) (us:List Value):Prop where
 len:us.length=l.length * sz
 el:∀ (i:Nat) (x:AV),l[i]? = some x→x.cells.length=sz
 cell:∀ (i:Nat) (x:AV) (k:Nat) (y:AV),l[i]? = some x→x.cells[k]? = some y→∃ u,us[i * sz+k]? = some u∧VR g w y u
section
variable {g g':Nat→Nat} {w w':World} {sz:Nat}
theorem FR.mono (H:GE g w g' w') {l:List AV}{us:List Value} (h:FR g w sz l us):FR g' w' sz l us :=
 ⟨h.len,h.el,fun i x k y hi hk=>by obtain ⟨u,h1,h2⟩:=h.cell i x k y hi hk;exact ⟨u,h1,h2.mono H⟩⟩
theorem FR.nil:FR g w sz [] []:=⟨by simp,fun i x h=>by simp at h,fun i x k y h=>by simp at h⟩
theorem FR.append {l1 l2:List AV}{u1 u2:List Value} (h1:FR g w sz l1 u1) (h2:FR g w sz l2 u2):FR g w sz (l1++l2) (u1++u2):=by
 refine ⟨by simp [h1.len,h2.len,Nat.add_mul],fun i x hi=>?_,fun i x k y hi hk=>?_⟩
 ·by_cases hlt:i < l1.length
  ·rw [List.getElem?_append_left hlt] at hi;exact h1.el i x hi
  ·rw [List.getElem?_append_right (by omega)] at hi;exact h2.el _ x hi
 ·by_cases hlt:i < l1.length
  ·rw [List.getElem?_append_left hlt] at hi
   obtain ⟨u,a1,a2⟩:=h1.cell i x k y hi hk;exact ⟨u,by rw [List.getElem?_append_left (aL a1)];exact a1,a2⟩
  ·rw [List.getElem?_append_right (by omega)] at hi
   obtain ⟨u,a1,a2⟩:=h2.cell _ x k y hi hk;refine ⟨u, ?_,a2⟩;have hle:l1.length * sz≤i * sz:=Nat.mul_le_mul_right sz (by omega)
   have hsub:(i - l1.length) * sz=i * sz - l1.length * sz:=Nat.sub_mul _ _ _
   rw [List.getElem?_append_right (by rw [h1.len];omega),h1.len,← a1];congr 1
   omega
theorem FR.one {l:List AV}{us:List Value} (h:FR g w sz l us) (hg:cY l=true):∀ u∈us,u.oneCell'=true:=by
  intro u hu;obtain ⟨j,hj,rfl⟩:=List.getElem_of_mem hu;rw [h.len] at hj
  have hsz : 0 < sz := by rcases Nat.eq_zero_or_pos sz with e | e; · subst e; omega
                          · exact e
  have hi:j / sz < l.length:=by
    rw [Nat.div_lt_iff_lt_mul hsz];exact hj
  have hk:j % sz < sz:=Nat.mod_lt _ hsz
  have e:j / sz * sz+j % sz=j:=by rw [Nat.mul_comm];exact Nat.div_add_mod j sz
  have hx:l[j / sz]? = some (l[j / sz]'hi):=List.getElem?_eq_getElem hi
  have hl:=h.el _ _ hx
  have hy:(l[j / sz]'hi).cells[j % sz]? = some ((l[j / sz]'hi).cells[j % sz]'(by omega)):=List.getElem?_eq_getElem (by omega)
  obtain ⟨u,a1,a2⟩:=h.cell _ _ _ _ hx hy;rw [e,List.getElem?_eq_getElem (by rw [h.len];exact hj)] at a1;have hu':=Option.some.inj a1
  rw [hu'];refine ns a2 ?_;have h1:=List.all_eq_true.1 hg _ (List.getElem_mem hi)
  exact List.all_eq_true.1 h1 _ (List.getElem_mem _)
theorem VR.flat {own:Option (Option (Nat × Nat))}{l:List AV}{b off cap:Nat} (h:VR g w (.sl sz own l) (.slice (some ⟨b,off,none⟩) l.length cap)) :
  ∃ us,FR g w sz l us∧∀ j u,us[j]? = some u→w.cell? ⟨b,off+j,none⟩=some u:=by
 rcases h.sl_inv with ⟨rfl,_⟩|⟨b',off',cap',e,h1,h2,h3,h4,h5,h6,h7⟩
 ·exact ⟨[],FR.nil,fun j u hj=>by simp at hj⟩
 cases e
 refine ⟨(List.range (l.length * sz)).map fun j=>(w.cell? ⟨b,off+j,none⟩).getD undef,⟨by simp,h4,fun i x k y hi hk=>?_⟩,fun j u hj=>?_⟩
 ·obtain ⟨u,a1,a2⟩:=h5 i x k y hi hk
  have hlt:i * sz+k < l.length * sz:=tv (aL hi) (by have:=aL hk;rw [h4 i x hi] at this;exact this)
  refine ⟨u, ?_,a2⟩;rw [List.getElem?_map,List.getElem?_range hlt];simp only [Option.map_some,← Nat.add_assoc,a1,Option.getD_some]
 ·have hlt:=aL hj
  simp only [List.length_map,List.length_range] at hlt;rw [List.getElem?_map,List.getElem?_range hlt] at hj;simp only [Option.map_some,Option.some.injEq] at hj;have hi:j / sz < l.length:=by rw [Nat.div_lt_iff_lt_mul h3];exact hlt
  have hk:j % sz < sz:=Nat.mod_lt _ h3
  have e:j / sz * sz+j % sz=j:=by rw [Nat.mul_comm];exact Nat.div_add_mod j sz
  have hx:l[j / sz]? = some (l[j / sz]'hi):=List.getElem?_eq_getElem hi
  have hl:=h4 _ _ hx
  have hy:(l[j / sz]'hi).cells[j % sz]? = some ((l[j / sz]'hi).cells[j % sz]'(by omega)):=List.getElem?_eq_getElem (by omega)
  obtain ⟨u',a1,_⟩:=h5 _ _ _ _ hx hy;rw [Nat.add_assoc,e] at a1;rw [a1] at hj ⊢;simpa using hj
theorem FR.slice {own:Option (Option (Nat × Nat))}{l:List AV}{us:List Value}{b off n cap:Nat} (h:FR g w sz l us) (hsz:0 < sz) (hn:n=l.length) (h1:l.length≤cap) (h2:cap≤maxLen)
  (hc:∀ j u,us[j]? = some u→w.cell? ⟨b,off+j,none⟩=some u) (hg:off+l.length * sz≤g b) (ho:∀ t,own=some t→t=some (b,off+l.length * sz)∧off+cap * sz≤bu w b) :
  VR g w (.sl sz own l) (.slice (some ⟨b,off,none⟩) n cap) :=
 VR.sl_mk hn h1 h2 hsz h.el (fun i x k y hi hk=>by
  obtain ⟨u,a1,a2⟩:=h.cell i x k y hi hk;exact ⟨u,by rw [Nat.add_assoc];exact hc _ u a1,a2⟩) hg ho
end
section
variable {κ:Ctx} {P:Program} {σ:List Res} {K:AV→List Res→Prop}
theorem CN {g:Nat→Nat}{w:World}{sz:Nat}{o:Option (Option (Nat × Nat))}{l:List AV}{v:Value}{t e:TypeId} (ht:P.underlying t=some (.slice e)) (hv:VR g w (.sl sz o l) v) (hgood:cY l=true) :
  ∃ us,FR g w sz l us∧Src P sz t v l.length us w:=by
 rcases hv.sl_inv with ⟨rfl,⟨ad,cp,rfl,hcp,_⟩,_⟩|⟨b,off,cap,rfl,_⟩
 ·cases ad with
  | none=>rw [hcp rfl];exact ⟨[],FR.nil,Src.ofNil w ht 0⟩
  | some ad=>exact ⟨[],FR.nil,Src.ofSlice w ht _ _ _ [] (by simp) (fun j u hj=>by simp at hj) (fun u hu=>by cases hu)⟩
 ·obtain ⟨us,h1,h2⟩:=hv.flat
  exact ⟨us,h1,Src.ofSlice w ht _ _ _ us h1.len (fun j u hj=>by rw [Addr.add_lit];exact h2 j u hj) (h1.one hgood)⟩
theorem sJ {φ:List Res}{g:Nat→Nat}{w:World} (hR:Rel κ g (φ++σ) w) {sz:Nat}{l:List AV}{us:List Value} (hf:FR g w sz l us) (hsz:0 < sz) (rest:Array Value) (e:TypeId) {cap:Nat} (h1:l.length≤cap) (h2:cap≤maxLen) (h3:rest.size=(cap - l.length) * sz) :
  Rel κ (zk g w.heap.size (l.length * sz)) (φ++(.tip (some (w.heap.size,l.length * sz))::σ)) (w.alloc (.cells (us.toArray++rest) e))∧GE g w (zk g w.heap.size (l.length * sz)) (w.alloc (.cells (us.toArray++rest) e)) ∧
  VR (zk g w.heap.size (l.length * sz)) (w.alloc (.cells (us.toArray++rest) e)) (.sl sz (some (some (w.heap.size,l.length * sz))) l) (.slice (some ⟨w.heap.size,0,none⟩) l.length cap):=by
 obtain ⟨a1,a2⟩:=hR.new_row (us.toArray++rest) e (l.length * sz);refine ⟨a1.perm List.perm_middle.symm,a2,(hf.mono a2).slice hsz rfl h1 h2 (fun j u hj=>?_) (by simp [eL]) (fun t ht=>?_)⟩
 ·rw [Nat.zero_add,Nn]
  have:=aL hj
  rw [Array.getElem?_append_left (by simpa using this)];simpa using hj
 ·cases ht
  refine ⟨by simp, ?_⟩;rw [yk];have:cap * sz=l.length * sz+(cap - l.length) * sz:=by rw [← Nat.add_mul];congr 1;omega
  simp only [Array.size_append,List.size_toArray,hf.len,h3];omega
theorem iG (b:Nat) (ty:TypeId):∀ (vs:List Value) (o:Nat) (w:World) (arr:Array Value),w.heap[b]? = some (.cells arr ty (0,0))→∃ arr',(w.setCells b o vs).heap[b]? = some (.cells arr' ty (0,0))∧arr'.size=arr.size ∧
  (w.setCells b o vs).heap.size=w.heap.size∧(w.setCells b o vs).os=w.os∧(w.setCells b o vs).tape=w.tape∧(w.setCells b o vs).output=w.output∧∀ c,c≠b→(w.setCells b o vs).heap[c]? = w.heap[c]?
 | [],o,w,arr,h=>⟨arr,h,rfl,rfl,rfl,rfl,rfl,fun _ _=>rfl⟩
 | v::vs,o,w,arr,h=>by
  obtain ⟨arr',h1,h2,h3,h4,h5,h6,h7⟩:=iG b ty vs (o+1) (w.setCell ⟨b,o,none⟩ v) _ (jo w b o v arr ty h);exact ⟨arr',h1,by rw [h2];simp,by simpa [World.setCells,World.setCell] using h3,h4,h5,h6,fun c hc=>(h7 c hc).trans (iz w b o c v hc)⟩
theorem Cx {t e:TypeId}{sz:Nat}{tk:Option (Nat × Nat)}{l1 l2:List AV}{o2:Option (Option (Nat × Nat))}{z:Value}{by_:Nat} (i:Nat) (h:σ[i]? = some (.tip tk)) (he:jg P t=some e) (hs:dj P e=some sz) (hb:mg P e=some by_) (hz:dP P e=some z) (hzs:z.cells.size=sz)
  (hgood:cY l2=true) (hlen:(l1.length+l2.length) * by_≤140737488355328) (hmax:l1.length+l2.length≤maxLen) (hK:∀ tk',K (.sl sz (some tk') (l1++l2)) (σ.set i (.tip tk'))):AAct κ P (.append t) [.sl sz (some tk) l1,.sl sz o2 l2] σ K:=by
 intro φ g w vs hR hvs;obtain ⟨v,u,rfl,hv,hu⟩:=dA hvs;have ht:=aR he
 obtain ⟨inf,hi,hisz,hiby,hizr⟩:∃ inf,P.info? e=some inf∧inf.size=sz∧inf.bytes=by_∧inf.zero=some z:=by
  unfold dj mg dP at *;cases hi:P.info? e with
  | none=>simp [hi] at hs
  | some inf=>exact ⟨inf,rfl,by simpa [hi] using hs,by simpa [hi] using hb,by simpa [hi] using hz⟩
 obtain ⟨us2,hf2,hsrc⟩:=CN ht hu hgood;have hset:∀ tk',(φ++σ.set i (.tip tk')).Perm (.tip tk'::(φ++σ.eraseIdx i)):=fun tk'=>((fq h).symm.append_left φ).trans List.perm_middle
 have hR0:=hR.perm (c6 (φ:=φ) (dE h))
 have hRd:Rel κ g (φ++σ.eraseIdx i) w:=hR0.sub (List.sublist_cons_self _ _)
 have hm63:((l1.length+l2.length:Nat):Int)≤9223372036854775807:=by unfold maxLen at hmax;omega
 have grow:∀ (base:Option Addr) (cap:Nat) (us1:List Value),v=.slice base l1.length cap→FR g w sz l1 us1→(Builtin.firstCells inf.size l1.length (.slice base l1.length cap)).run P w.drew=.ok us1.toArray w.drew→cap < l1.length+l2.length →
   ∃ v_1 w' g' x σ',Sem.run P ((MA.append t).sem [v,u]) w=Result.ok v_1 w'∧Rel κ g' (φ++σ') w'∧GE g w g' w'∧VR g' w' x v_1∧K x σ':=by
  intro base cap us1 hv1 hf1 hold hlt;subst hv1;have hsz:0 < sz:=by
   rcases hv.sl_inv with ⟨_,_,_,h3⟩|⟨_,_,_,_,_,_,h3,_⟩<;>exact h3
  have hrun:=run_append_grow_src (P:=P) w t t t e inf z ht hi hizr base l1.length cap us1 hold u l2.length us2 (hisz ▸ hsrc) hlt hm63 (by rw [hiby];exact growslice_fits hlt hlen)
  have hcapge:=grownCap_ge w (l1.length+l2.length) cap e
  have hcapmax:=grownCap_le_maxLen w (l1.length+l2.length) cap e hmax
  have hRdr:Rel κ g (φ++σ.eraseIdx i) w.drew:=hRd.of_heap rfl rfl rfl rfl
  have hfa:FR g w.drew sz (l1++l2) (us1++us2):=FR.mono (GE.of_heap (g:=g) (w:=w) (w':=w.drew) rfl) (hf1.append hf2)
  have hll:(l1++l2).length=l1.length+l2.length:=by simp
  obtain ⟨b1,b2,b3⟩:=sJ hRdr hfa hsz (Builtin.zeroCells z.cells (grownCap w (l1.length+l2.length) cap e - (l1.length+l2.length))) e (cap:=grownCap w (l1.length+l2.length) cap e) (by rw [hll];exact hcapge) hcapmax (by rw [size_zeroCells,hzs,hll]);rw [hll] at b1 b2 b3;refine ⟨_,_,_,_,_,hrun,(b1.perm (List.perm_middle.trans (hset _).symm)),(GE.of_heap (g:=g) (w:=w) (w':=w.drew) rfl).trans b2,b3,hK _⟩
 rcases hv.sl_inv with ⟨rfl,_,hnil,hsz⟩|⟨b,off,cap,rfl,hcap,hmaxc,hsz,_,_,hgle,hown⟩
 ·-- the destination is nil
  obtain rfl:=hnil rfl;by_cases hl2:l2=[]
  ·subst hl2
   have hus:us2=[]:=by have:=hf2.len;simpa using this
   subst hus;refine ⟨.slice none 0 0,w,g,.sl sz (some none) ([]++[]),σ.set i (.tip none), ?_, ?_,GE.refl _ _,.slnil hsz,hK none⟩
   ·have hc0:(Builtin.firstCells sz 0 u).run P w=.ok #[] w:=hsrc.cells
    have hl0:∀ w':World,(Builtin.lenOf u).run P w'=.ok 0 w':=hsrc.len
    simp [MA.sem,nth,Builtin.append_,bE ht,sizeOf,kJ hi,hl0,hc0,hisz]
   ·exact (hRd.void).perm (hset none).symm
  ·refine grow none 0 [] rfl FR.nil ?_ ?_
   ·simpa using run_firstCells_none w.drew inf.size 0 0 0
   ·have:0 < l2.length:=List.length_pos_iff.2 hl2
    simpa using this
 ·obtain ⟨us1,hf1,hc1⟩:=hv.flat
  by_cases hroom:l1.length+l2.length≤cap
  ·-- in place
   obtain ⟨htk,hblk⟩:=hown tk rfl;subst htk;obtain ⟨hgb,arr,ty,hh⟩:=hR.holds _ (cN h);simp only at hgb hh;have hlenb:bu w b=arr.size:=by simp [bu,hh]
   have hmul:(l1.length+l2.length) * sz≤cap * sz:=Nat.mul_le_mul_right sz hroom
   have hadd:(l1.length+l2.length) * sz=l1.length * sz+l2.length * sz:=Nat.add_mul _ _ _
   have hrun:=run_append_room_src (P:=P) w t t t e inf ht hi b off l1.length cap u l2.length us2 (hisz ▸ hsrc) hroom (fun j hj=>by
     have hj':=hf2.len
     have:off+l1.length * inf.size+j < arr.size:=by rw [hisz];omega
     simp [World.cell?,hh,this]) (fun j hj=>by simp [World.frozen?,hh])
   rw [hisz] at hrun;obtain ⟨arr',k1,k2,k3,k4,k5,k6,k7⟩:=iG b ty us2 (off+l1.length * sz) w arr hh;generalize hw':w.setCells b (off+l1.length * sz) us2=w' at *;have hin:=fun j (hj:j < us2.length)=>World.cell?_setCells_in b us2 (off+l1.length * sz) w (fun j hj=>by
     have hj':=hf2.len
     have:off+l1.length * sz+j < arr.size:=by omega
     simp [World.cell?,hh,this]) j hj
   have hout:∀ o,o < off+l1.length * sz→w'.cell? ⟨b,o,none⟩=w.cell? ⟨b,o,none⟩:=fun o ho=>by
    rw [← hw'];exact World.cell?_setCells_out b us2 _ w ⟨b,o,none⟩ (fun _ _=>.inl ho)
   have hge:GE g w (zk g b (off+(l1.length+l2.length) * sz)) w':=by
    refine ⟨by rw [k3];exact Nat.le_refl _,fun c=>?_,fun c o ho=>?_,fun c=>?_⟩
    ·by_cases ec:c=b
     ·subst ec;rw [eL,hgb];omega
     ·rw [eR ec];exact Nat.le_refl _
    ·by_cases ec:c=b
     ·subst ec;exact hout o (by omega)
     ·simp only [World.cell?];rw [k7 c ec]
    ·by_cases ec:c=b
     ·subst ec;simp only [bu,k1,hh];omega
     ·simp only [bu];rw [k7 c ec];exact Nat.le_refl _
   have hR2:Rel κ (zk g b (off+(l1.length+l2.length) * sz)) (.tip (some (b,off+(l1.length+l2.length) * sz))::(φ++σ.eraseIdx i)) w' :=
    hR0.change hge k4 k5 k6 k3 k7 (fun c hc=>eR hc) rfl rfl ⟨eL _ _ _,arr',ty,k1⟩
   refine ⟨_,w',_,_,_,hrun,hR2.perm (hset _).symm,hge, ?_,hK _⟩;have hll:(l1++l2).length=l1.length+l2.length:=by simp
   refine ((hf1.append hf2).mono hge).slice hsz hll.symm (by rw [hll];exact hroom) hmaxc (fun j x hj=>?_) (by rw [hll,eL];exact Nat.le_refl _) (fun t' ht'=>?_)
   ·by_cases hlt:j < us1.length
    ·rw [List.getElem?_append_left hlt] at hj
     rw [hout _ (by have:=hf1.len;omega)];exact hc1 j x hj
    ·rw [List.getElem?_append_right (by omega)] at hj
     have hlt2:=aL hj
     have h5:=hin (j - us1.length) hlt2
     rw [hw'] at h5;have h6:=hf1.len
     have h7:off+j=off+l1.length * sz+(j - us1.length):=by omega
     rw [h7,h5,← hj,List.getElem?_eq_getElem hlt2]
   ·cases ht'
    refine ⟨by rw [hll], ?_⟩;simp only [bu,k1,k2];omega
  ·exact grow (some ⟨b,off,none⟩) cap us1 rfl hf1 (run_firstCells_some w.drew inf.size _ _ _ _ us1 (by rw [hisz];exact hf1.len) (fun j u hj=>by rw [Addr.add_lit];simpa using hc1 j u hj)) (by omega)
end
def kL (P:Program) (t:TypeId):Option (List (Nat × Nat)):=match P.underlying t with|some (.struct fs)=>fs.toList.mapM (fun f=>(P.info? f.type).map fun i=>(f.offset,i.size))|_=>none
def mH (places:List (Nat × Nat)):List AV→List (Nat × AV)→Option (List AV)
 | cs,[]=>some cs
 | cs,(i,x)::r =>
  match places[i]? with
  | some (off,n)=>if x.cells.length=n∧off+n≤cs.length∧x.cells.all iL=true then mH places (setCells cs off x.cells) r else none
  | none=>none
section
variable {κ:Ctx} {P:Program} {σ:List Res} {K:AV→List Res→Prop}
theorem TR.le {g:Nat→Nat}{w:World}{xs ys:List AV}{vs:Array Value} (h:TR g w xs vs) (hl:ys.length=xs.length) (hle:∀ (k:Nat) (x y:AV),xs[k]? = some x→ys[k]? = some y→x.le y):TR g w ys vs :=
 ⟨by rw [h.size,hl],fun k y hy=>by
  have hlt:k < xs.length:=by rw [← hl];exact aL hy
  have hx:xs[k]? = some (xs[k]'hlt):=List.getElem?_eq_getElem hlt
  exact (h.get k _ hx).le (hle k _ _ hx hy)⟩
theorem uK {t sz:Nat}{y:AV} (hsz:0 < sz) (h:AAct κ P (.append t) [.sl sz (some none) [],y] (.tip none::σ) K):AAct κ P (.append t) [nilS,y] σ K:=by
 intro φ g w vs hR hv;have hR':Rel κ g (φ++(.tip none::σ)) w:=hR.void.perm List.perm_middle.symm
 refine h φ g w vs hR' (hv.le (by simp) (fun k x y' hx hy=>?_))
 match k,hx,hy with
 | 0,hx,hy=>simp at hx hy;subst hx;subst hy;exact .inr (.inr (.inr ⟨sz,_,rfl,hsz,rfl⟩))
 | 1,hx,hy=>simp at hx hy;subst hx;subst hy;exact .inr (.inl rfl)
theorem tO {α:Type}:∀ (vs:List α) (k:Nat),(List.range' k vs.length).zip vs=(vs.zipIdx k).map fun x=>(x.2,x.1)
 | [],_=>rfl
 | v::vs,k=>by
  simp only [List.length_cons,List.range'_succ,List.zip_cons_cons,List.zipIdx_cons,List.map_cons,tO vs (k+1)]
theorem E7 {g:Nat→Nat}{w:World}{sz:Nat}:∀ (xs:List AV) (vs:List Value),vs.length=xs.length→(∀ x∈xs,x.cells.length=sz)→(∀ (i:Nat) (x:AV),xs[i]? = some x→∃ v,vs[i]? = some v∧TR g w x.cells v.cells)→FR g w sz xs (vs.flatMap fun v=>v.cells.toList)
 | [],[],_,_,_=>FR.nil
 | [],_::_,h,_,_=>by simp at h
 | _::_,[],h,_,_=>by simp at h
 | x::xs,v::vs,h,hc,hcell=>by
  have ih:=E7 xs vs (by simpa using h) (fun y hy=>hc y (by simp [hy])) (fun i y hy=>by
   obtain ⟨u,h1,h2⟩:=hcell (i+1) y (by simpa using hy);exact ⟨u,by simpa using h1,h2⟩)
  obtain ⟨u,h1,h2⟩:=hcell 0 x rfl;simp at h1;subst h1;have hx:FR g w sz [x] v.cells.toList:=by
   refine ⟨by simp [h2.size,hc x],fun i y hy=>?_,fun i y k z hy hz=>?_⟩
   ·match i,hy with
    | 0,hy=>simp at hy;subst hy;exact hc _ (by simp)
   ·match i,hy with
    | 0,hy =>
     simp at hy;subst hy;have h3:=h2.get k z hz
     have hlt:k < v.cells.size:=by rw [h2.size];exact aL hz
     refine ⟨v.cells.getD k undef, ?_,h3⟩;simp [hlt]
  exact hx.append ih
theorem ng {t e n sz:Nat}{ix:List Nat}{xs:List AV}{z:Value} (he:jg P t=some e) (hs:dj P e=some sz) (hz:dP P e=some z) (hsz:0 < sz) (hn:0 < n) (hsm:n * sz≤16777216) (hix:ix=List.range n) (hlen:xs.length=n)
  (hgood:cY xs=true) (hc:∀ x∈xs,x.cells.length=sz) (hK:∀ b,K (.sl sz (some (some (b,n * sz))) xs) (.tip (some (b,n * sz))::σ)):AAct κ P (.bslice t n ix) xs σ K:=by
 intro φ g w vs hR hv;subst hix;have ht:=aR he
 obtain ⟨inf,hi,hisz,hizr⟩:∃ inf,P.info? e=some inf∧inf.size=sz∧inf.zero=some z:=by
  unfold dj dP at *;cases hi:P.info? e with
  | none=>simp [hi] at hs
  | some inf=>exact ⟨inf,rfl,by simpa [hi] using hs,by simpa [hi] using hz⟩
 have hvl:vs.length=n:=by have:=hv.size;simpa [hlen] using this
 have hcell:∀ (i:Nat) (x:AV),xs[i]? = some x→∃ v,vs[i]? = some v∧TR g w x.cells v.cells:=by
  intro i x hx;have hlt:i < vs.length:=by rw [hvl,← hlen];exact aL hx
  have h1:=hv.get i x hx
  have h2:vs[i]? = some (vs[i]'hlt):=List.getElem?_eq_getElem hlt
  have h3:vs.toArray.getD i undef=vs[i]'hlt:=by simp [Array.getD_eq_getD_getElem?,h2]
  rw [h3] at h1;exact ⟨_,h2,TR.cells h1 (List.all_eq_true.1 hgood x (List.mem_of_getElem? hx))⟩
 have hvc:∀ v∈vs,v.cells.size=sz:=by
  intro v hvm;obtain ⟨j,hj,rfl⟩:=List.getElem_of_mem hvm;have hx:xs[j]? = some (xs[j]'(by rw [hlen,← hvl];exact hj)):=List.getElem?_eq_getElem _
  obtain ⟨v',h1,h2⟩:=hcell j _ hx;rw [List.getElem?_eq_getElem hj] at h1;have:=Option.some.inj h1
  rw [this,h2.size];exact hc _ (List.getElem_mem _)
 have hparts:(((List.range n).zip vs).toArray).toList=((vs.zipIdx 0).map fun x=>(x.2,x.1)):=by
  rw [List.range_eq_range',← hvl,tO]
 have hfill:=Great.fill_whole hsz vs ((Array.range (n * inf.size)).map (z.cells[· % z.cells.size]!)) hvc (by simp [hvl,hisz])
 have hrun:=run_buildSlice (P:=P) w t e n ((List.range n).zip vs).toArray _ inf z ht hi hizr (by rw [hisz];omega) (by rw [hisz];have:=Nat.mul_pos hn hsz;omega) (by rw [hisz] at hfill ⊢;rw [hparts];exact hfill)
 have hf:FR g w sz xs (vs.flatMap fun v=>v.cells.toList):=E7 xs vs (by rw [hvl,hlen]) hc hcell
 obtain ⟨b1,b2,b3⟩:=sJ hR hf hsz #[] e (cap:=xs.length) (Nat.le_refl _) (by unfold maxLen;have h1:xs.length * 1≤xs.length * sz:=Nat.mul_le_mul_left _ hsz;rw [hlen] at h1 ⊢;omega) (by simp);rw [hlen] at b1 b2 b3;simp only [Array.append_empty] at b1 b2 b3;exact ⟨_,_,_,_,_,hrun,b1,b2,b3,hK _⟩
theorem DD {t e n sz:Nat}{ix:List Nat}{xs:List AV}{z:Value} (he:jg P t=some e) (hs:dj P e=some sz) (hz:dP P e=some z) (hsz:0 < sz) (hn:0 < n) (hsm:n * sz≤16777216) (hix:ix=List.range n) (hlen:xs.length=n)
  (hgood:cY xs=true) (hc:∀ x∈xs,x.cells.length=sz) (hK:K (.sl sz none xs) σ):AAct κ P (.bslice t n ix) xs σ K:=by
 have h:=ng (κ:=κ) (P:=P) (σ:=σ) (K:=fun x σ'=>∃ b,x=.sl sz (some (some (b,n * sz))) xs∧σ'=.tip (some (b,n * sz))::σ) he hs hz hsz hn hsm hix hlen hgood hc (fun b=>⟨b,rfl,rfl⟩)
 intro φ g w vs hR hv;obtain ⟨v,w',g',x,σ',h1,h2,h3,h4,b,rfl,rfl⟩:=h φ g w vs hR hv;exact ⟨v,w',g',_,σ,h1,h2.sub ((List.Sublist.refl φ).append (List.sublist_cons_self _ _)),h3,h4.le (.inr (.inr (.inl ⟨_,_,_,rfl,rfl⟩))),hK⟩
end
open Go.RowKit
section
variable (κ:Ctx) (dm:Bool) (P:Program) (all:List Oper) (Q:Exit→St→Prop) (d:Option Tmp) (rest:List Oper) (s:St)
def dw:AV→List Res→Prop:=fun x σ'=>bA κ dm P all Q rest ⟨bP s.t d x,σ',s.fr,s.df⟩
def N7:List PanicEntry→List Res→Prop:=fun c σ'=>Q (.panic c) ⟨s.t,σ',s.fr,s.df⟩
def vm (v:AV) (want:Bool) (o:Oper):Prop:=match v with | .raw (.bool b)=>p5 (b == want) (eZ κ dm P o s (dw κ dm P all Q o.dst rest s) (N7 Q s)) (bA κ dm P all Q rest ⟨bP s.t o.dst U,s.σ,s.fr,s.df⟩) | .raw (.tuple _)=>bA κ dm P all Q rest ⟨bP s.t o.dst U,s.σ,s.fr,s.df⟩|_=>False
def ZY (d:Option Tmp) (want:Bool) (o:Oper):Prop:=match d with|some k=>vm κ dm P all Q rest s (s.t.getD k .any) want o|none=>False
def ij (op:BinOp) (xt:TypeId) (a b:AV):Prop:=jT P xt a b=true∧mn κ dm P op xt a b s.σ (dw κ dm P all Q d rest s)
def Pq (v:Option Value):Prop:=Rz v fun x=>dw κ dm P all Q d rest s x s.σ
def ZA (op:UnOp) (a:AV):Prop:=Yp op a fun x=>dw κ dm P all Q d rest s x s.σ
def PV (a b c:AV):Prop:=E4 a b c fun x=>dw κ dm P all Q d rest s x s.σ
def V5 (a:AV) (i:Nat):Prop:=OF a i fun x=>dw κ dm P all Q d rest s x s.σ
def Ii (xt:TypeId) (a:AV):Prop:=uT κ dm P xt a s.σ (dw κ dm P all Q d rest s)
def CP (l:List AV) (ag:Option Bool) (n:Option Nat):Prop:=match ag,n with
 | some true,some n=>n≤l.length∧dw κ dm P all Q d rest s (.agg (l.take n)) s.σ
 | some false,some _=>0 < l.length∧dw κ dm P all Q d rest s (l.getD 0 .any) s.σ
 | _,_=>False
def cu (m:MA) (xs:List AV):Prop:=actM κ dm P m xs s.σ (dw κ dm P all Q d rest s)
def yh (xt:TypeId) (a x:AV):Prop:=actM κ dm P (.store xt) [a,x] s.σ (fun _ σ'=>dw κ dm P all Q d rest s .any σ')
def jJ (xt:TypeId) (a:AV) (f:Nat):Prop:=eo κ dm P xt a f s.σ (dw κ dm P all Q d rest s)
def Dl (xt:TypeId) (a:AV) (f:Nat):Prop:=mh κ dm P xt a f s.σ (dw κ dm P all Q d rest s)
def RW (xt:TypeId) (a b:AV):Prop:=Cd κ dm P xt a b s.σ (dw κ dm P all Q d rest s)
def Ff (xt:TypeId) (a b:AV):Prop:=ln κ dm P xt a b s.σ (dw κ dm P all Q d rest s)
def qX (xt:TypeId) (a:AV) (lo hi mx:Option AV):Prop:=oH κ dm P xt a lo hi mx s.σ (dw κ dm P all Q d rest s)
def As (a b:TypeId) (x:AV):Prop:=rz κ dm P a b x s.σ (dw κ dm P all Q d rest s)
def lT (f:Fn) (a b:List AV):Prop:=sg f a b fun x=>dw κ dm P all Q d rest s x s.σ
def KK (a:AV):Prop:=Pn a fun x=>dw κ dm P all Q d rest s x s.σ
def U6 (a:AV):Prop:=OV a fun c=>N7 Q s c s.σ
def oh (f:AV) (xs:List AV):Prop:=callM κ dm P f xs s.σ (dw κ dm P all Q d rest s) (N7 Q s)
def Yq (x:AV) (σ:List Res) (r:Ret) (σ':List Res):Prop:=r=.ret x∧σ'=σ
def Z0 (x:AV) (σ:List Res) (y:AV) (σ':List Res):Prop:=y=x∧σ'=σ
def ri (f:FuncId) (xs:List AV):Prop:=match dm with|false=>ACallF κ P f xs s.σ (Aj (dw κ dm P all Q d rest s) (N7 Q s))|true=>∃ x,ACallF κ P f xs s.σ (Yq x s.σ)∧dw κ dm P all Q d rest s x s.σ
def vg (l:Nat) (xs:List AV):Prop:=match dm with|false=>ACallY κ P l xs s.σ (Aj (dw κ dm P all Q d rest s) (N7 Q s))|true=>∃ x,ACallY κ P l xs s.σ (Yq x s.σ)∧dw κ dm P all Q d rest s x s.σ
def ao (f : FuncId) : Prop := ∃ fn, P.funcs[f]? = some fn ∧ (fn.name == "runtime.NumGoroutine") = false ∧ fn.body.isNone = false
def vZ (l:List AV) (v:Bool):Prop:=(0 < l.length∧dw κ dm P all Q d rest s (B v) s.σ)∨(dm=false∧l.length=0∧∀ b,dw κ dm P all Q d rest s (B b) s.σ)
def Gu (xt:TypeId) (a:AV):Prop:=DW κ dm P xt a s.σ (dw κ dm P all Q d rest s)
end
def xw (κ:Ctx) (P:Program) (rd:Option Nat) (v:AV) (x y:Code) (Q:Exit→St→Prop) (s:St):Prop:=match v with | .raw (.bool b)=>p5 b (run κ P rd x Q s) (run κ P rd y Q s)|_=>False
def Qg (κ:Ctx) (P:Program) (rd:Option Nat) (c:Code) (Q:Exit→St→Prop) (s:St):Prop:=Qj (run κ P rd c) Q s
def nY (κ:Ctx) (P:Program) (fn:Func) (k:Ret→List Res→Prop) (s:St):List ResultVar→Prop
 | []=>k (.ret (.tup [])) s.σ
 | [.tmp a]=>k (.ret (s.ev (.tmp a))) s.σ
 | [.tmp a,.tmp b]=>k (.ret (.tup [s.ev (.tmp a),s.ev (.tmp b)])) s.σ
 | [.tmp a,.tmp b,.tmp c]=>k (.ret (.tup [s.ev (.tmp a),s.ev (.tmp b),s.ev (.tmp c)])) s.σ
 | [.tmp a,.tmp b,.tmp c,.tmp d]=>k (.ret (.tup [s.ev (.tmp a),s.ev (.tmp b),s.ev (.tmp c),s.ev (.tmp d)])) s.σ
 | _=>Rt κ P fn s k
section
variable {κ:Ctx} {dm:Bool} {P:Program} {rd:Option Nat} {Q:Exit→St→Prop} {s:St} {all rest:List Oper} {K:AV→List Res→Prop} {KP:List PanicEntry→List Res→Prop} {t:List AV} {σ σ2:List Res} {fr:Bool} {df:List Deferred}
theorem run_seq {a b:Code}:run κ P rd (.seq a b) Q s=run κ P rd a (eY (run κ P rd b Q) Q) s:=propext Iff.rfl
theorem AI {c:Operand}{x y:Code}:run κ P rd (.cond c x y) Q s=xw κ P rd (s.ev c) x y Q s:=propext Iff.rfl
theorem wC {id:Nat}{c:Code}:run κ P rd (.block id c) Q s=run κ P rd c (gu id Q) s:=propext Iff.rfl
theorem A3 {c:Code}:run κ P rd (.loop c) Q s=Qg κ P rd c Q s:=propext Iff.rfl
theorem uH {id:Nat}{l:List Oper}:run κ P rd (.region id l.toArray false) Q s=bA κ false P l Q l s:=propext Iff.rfl
theorem Av {id:Nat}{l:List Oper}:run κ P rd (.region id l.toArray true) Q s=AW κ rd P (.region id l.toArray true) Q s:=propext Iff.rfl
theorem oc {f:Operand}{ps:Array Tmp}{x y:Code}:run κ P rd (.rangeFunc f ps x y) Q s=AW κ rd P (.rangeFunc f ps x y) Q s:=propext Iff.rfl
theorem AO {id:Nat}:run κ P rd (.exit id) Q s=Q (.exit id) s:=propext Iff.rfl
theorem Ed:run κ P rd .ret Q s=Q .ret s:=propext Iff.rfl
theorem Ae:run κ P rd .skip Q s=Q .normal s:=propext Iff.rfl
theorem vV {l:Nat}:run κ P rd (.label l) Q s=Q .normal s:=propext Iff.rfl
theorem ud {x y:Code}:xw κ P rd (.raw (.bool true)) x y Q s=run κ P rd x Q s:=by simp [xw,p5]
theorem rH {x y:Code}:xw κ P rd (.raw (.bool false)) x y Q s=run κ P rd y Q s:=by simp [xw,p5]
theorem ab {b:Bool}{x y:Code} (h1:b=true→run κ P rd x Q s) (h2:b=false→run κ P rd y Q s):xw κ P rd (.raw (.bool b)) x y Q s:=⟨h1,h2⟩
def zn:List AV→List AV→Prop
 | [],[]=>True
 | x::xs,y::ys=>x.le y∧zn xs ys
 | _,_=>False
theorem lD:∀ {xs ys:List AV},zn xs ys→ys.length=xs.length
 | [],[],_=>rfl
 | _::_,_::_,h=>by simp [lD h.2]
 | [],_::_,h=>h.elim
 | _::_,[],h=>h.elim
theorem lM:∀ {xs ys:List AV},zn xs ys→∀ (k:Nat) (x y:AV),xs[k]? = some x→ys[k]? = some y→x.le y
 | [],[],_,k,x,y,h,_=>by simp at h
 | _::_,_::_,h,0,x,y,h1,h2=>by simp at h1 h2;subst h1;subst h2;exact h.1
 | _::_,_::_,h,k+1,x,y,h1,h2=>lM h.2 k x y (by simpa using h1) (by simpa using h2)
 | [],_::_,h,_,_,_,_,_=>h.elim
 | _::_,[],h,_,_,_,_,_=>h.elim
theorem UT {x:AV}:x.le .any:=.inl rfl
theorem le_rfl {x:AV}:x.le x:=.inr (.inl rfl)
theorem le_eq {x y:AV} (h:y=x):x.le y:=.inr (.inl h)
theorem le_ro {sz:Nat}{o:Option (Option (Nat × Nat))}{l:List AV}:(AV.sl sz o l).le (.sl sz none l):=.inr (.inr (.inl ⟨_,_,_,rfl,rfl⟩))
theorem le_nil {sz:Nat}{o:Option (Option (Nat × Nat))} (h:0 < sz):nilS.le (.sl sz o []):=.inr (.inr (.inr ⟨_,_,rfl,h,rfl⟩))
theorem XL {t t':List AV}{σ τ:List Res}{fr fr':Bool}{df:List Deferred} (n:Nat) (ρ:List Res) (h:zn t t') (h1:ρ.Sublist σ) (h2:(List.replicate n (Res.tip none)++ρ).Perm τ) (h3:fr'=true→fr=true):(⟨t,σ,fr,df⟩:St).le ⟨t',τ,fr',df⟩ :=
 ⟨lD h,lM h,((ResW.sub h1).trans (ResW.voids n)).trans (ResW.perm h2),h3,rfl⟩
theorem aM {t t':List AV}{σ τ:List Res}{fr fr':Bool}{df:List Deferred} (h:zn t t') (h1:ResW σ τ) (h3:fr'=true→fr=true):(⟨t,σ,fr,df⟩:St).le ⟨t',τ,fr',df⟩ :=
 ⟨lD h,lM h,h1,h3,rfl⟩
theorem aq {t t':List AV}{σ:List Res}{fr fr':Bool}{df:List Deferred} (h:zn t t') (h3:fr'=true→fr=true):(⟨t,σ,fr,df⟩:St).le ⟨t',σ,fr',df⟩ :=
 XL 0 σ h (List.Sublist.refl _) (List.Perm.refl _) h3
theorem bF {X:Type} (st:X→St) (C:X→Prop) (μ:X→Nat) {c:Code} (x0:X) (h0:s.le (st x0)) (hC:C x0)
  (round:∀ x,C x→run κ P rd c (eY (fun s'=>∃ y,s'.le (st y)∧C y∧μ y < μ x) Q) (st x)):Qg κ P rd c Q s:=⟨X,st,C,μ,x0,h0,hC,round⟩
variable {N:St→Prop} {id id':Nat} {pc:List PanicEntry}
theorem rr:eY N Q .normal s=N s:=propext Iff.rfl
theorem wt:eY N Q (.exit id) s=Q (.exit id) s:=propext Iff.rfl
theorem BU:eY N Q .ret s=Q .ret s:=propext Iff.rfl
theorem uB:eY N Q (.panic pc) s=Q (.panic pc) s:=propext Iff.rfl
theorem qn:gu id Q .normal s=Q .normal s:=propext Iff.rfl
theorem uk:gu id Q (.exit id) s=Q .normal s:=by simp [gu]
theorem tU:gu id Q (.exit id') s=if id'=id then Q .normal s else Q (.exit id') s:=propext Iff.rfl
theorem xk:gu id Q .ret s=Q .ret s:=propext Iff.rfl
theorem rD:gu id Q (.panic pc) s=Q (.panic pc) s:=propext Iff.rfl
theorem FF:bA κ dm P all Q [] s=Q .normal s:=propext Iff.rfl
variable {d:Option Tmp} {op:Op} {ty:TypeId} {pos:String} {af:Array Edge} {j:Nat} {want:Bool}
theorem A2:bA κ dm P all Q (⟨d,op,ty,pos,af,some (j,want)⟩::rest) ⟨t,σ,fr,df⟩=ZY κ dm P all Q rest ⟨t,σ,fr,df⟩ ((all[j]?).bind (·.dst)) want ⟨d,op,ty,pos,af,none⟩:=propext Iff.rfl
theorem Bg {k:Tmp}{o:Oper}:ZY κ dm P all Q rest ⟨t,σ,fr,df⟩ (some k) want o=vm κ dm P all Q rest ⟨t,σ,fr,df⟩ (t.getD k .any) want o:=propext Iff.rfl
theorem Io {x:AV}:dw κ dm P all Q d rest ⟨t,σ,fr,df⟩ x σ2=bA κ dm P all Q rest ⟨bP t d x,σ2,fr,df⟩:=propext Iff.rfl
theorem KU:N7 Q ⟨t,σ,fr,df⟩ pc σ2=Q (.panic pc) ⟨t,σ2,fr,df⟩:=propext Iff.rfl
theorem US {b:Bool}{o:Oper} (h:b=want) (h1:bA κ dm P all Q (⟨o.dst,o.op,o.type,o.pos,o.after,none⟩::rest) s):vm κ dm P all Q rest s (.raw (.bool b)) want o:=by
 subst h;refine ⟨fun _=>h1,fun e=>?_⟩;cases b<;>cases e
theorem QU {b:Bool}{o:Oper} (h:b = !want) (h1:bA κ dm P all Q rest ⟨bP s.t o.dst U,s.σ,s.fr,s.df⟩):vm κ dm P all Q rest s (.raw (.bool b)) want o:=by
 subst h;refine ⟨fun e=>?_,fun _=>h1⟩;cases want<;>cases e
theorem ai {b:Bool}{o:Oper} (h1:b=want→bA κ dm P all Q (⟨o.dst,o.op,o.type,o.pos,o.after,none⟩::rest) s) (h2:b=(!want)→bA κ dm P all Q rest ⟨bP s.t o.dst U,s.σ,s.fr,s.df⟩):vm κ dm P all Q rest s (.raw (.bool b)) want o:=by
 by_cases e:b=want
 ·exact US e (h1 e)
 ·have e':b = !want:=by cases b<;>cases want<;>simp_all
  exact QU e' (h2 e')
theorem Ee {d:Option Tmp}:vm κ dm P all Q rest s (.raw (.bool true)) true ⟨d,op,ty,pos,af,none⟩=bA κ dm P all Q (⟨d,op,ty,pos,af,none⟩::rest) s:=by
 show p5 true _ _=_
 simp only [p5];simp;rfl
theorem EG {d:Option Tmp}:vm κ dm P all Q rest s (.raw (.bool false)) false ⟨d,op,ty,pos,af,none⟩=bA κ dm P all Q (⟨d,op,ty,pos,af,none⟩::rest) s:=by
 show p5 true _ _=_
 simp only [p5];simp;rfl
theorem Fj {d:Option Tmp}:vm κ dm P all Q rest ⟨t,σ,fr,df⟩ (.raw (.bool true)) false ⟨d,op,ty,pos,af,none⟩=bA κ dm P all Q rest ⟨bP t d U,σ,fr,df⟩:=by
 show p5 false _ _=_
 simp only [p5];simp
theorem Fb {d:Option Tmp}:vm κ dm P all Q rest ⟨t,σ,fr,df⟩ (.raw (.bool false)) true ⟨d,op,ty,pos,af,none⟩=bA κ dm P all Q rest ⟨bP t d U,σ,fr,df⟩:=by
 show p5 false _ _=_
 simp only [p5];simp
theorem Lj {d:Option Tmp}:vm κ dm P all Q rest ⟨t,σ,fr,df⟩ U want ⟨d,op,ty,pos,af,none⟩=bA κ dm P all Q rest ⟨bP t d U,σ,fr,df⟩:=propext Iff.rfl
theorem wk {d:Tmp}{x:AV}:bP t (some d) x=t.set d x:=id rfl
theorem wj {x:AV}:bP t none x=t:=id rfl
theorem KR {k:Nat}:St.ev ⟨t,σ,fr,df⟩ (.tmp k)=t.getD k .any:=id rfl
theorem IV {k:IntKind}{n:Int}:s.ev (.const (.int k n))=.raw (.int k n):=id rfl
theorem Eh {b:Bool}:s.ev (.const (.bool b))=.raw (.bool b):=id rfl
theorem vK {b:ByteArray}:s.ev (.const (.string b))=.raw (.string b):=id rfl
theorem A8 {a:Option Addr}{n c:Nat}:s.ev (.const (.slice a n c))=.raw (.slice a n c):=id rfl
theorem MS {a:Option Addr}:s.ev (.const (.pointer a))=.raw (.pointer a):=id rfl
theorem tN:s.ev (.const .nilFunc)=.raw .nilFunc:=id rfl
theorem rh:s.ev (.const .nilIface)=.raw .nilIface:=id rfl
theorem LH {r:Option Nat}:s.ev (.const (.map r))=.raw (.map r):=id rfl
theorem JA {cs:List Value}:s.ev (.const (.agg cs.toArray))=.agg (cs.map .raw):=id rfl
theorem DZ {f:FuncId}:s.ev (.func f)=.raw (.func (.func f) #[] #[]):=id rfl
theorem xo {g:Nat}:s.ev (.global g)=.raw (.pointer (some ⟨g,0,none⟩)):=id rfl
variable {x y z:Operand}
theorem FW:bA κ dm P all Q (⟨d,.move x,ty,pos,af,none⟩::rest) ⟨t,σ,fr,df⟩=bA κ dm P all Q rest ⟨bP t d (St.ev ⟨t,σ,fr,df⟩ x),σ,fr,df⟩:=propext Iff.rfl
theorem vU:bA κ dm P all Q (⟨d,.assign x,ty,pos,af,none⟩::rest) ⟨t,σ,fr,df⟩=bA κ dm P all Q rest ⟨bP t d (St.ev ⟨t,σ,fr,df⟩ x),σ,fr,df⟩:=propext Iff.rfl
theorem Em:bA κ dm P all Q (⟨d,.pick x y z,ty,pos,af,none⟩::rest) ⟨t,σ,fr,df⟩=PV κ dm P all Q d rest ⟨t,σ,fr,df⟩ (St.ev ⟨t,σ,fr,df⟩ x) (St.ev ⟨t,σ,fr,df⟩ y) (St.ev ⟨t,σ,fr,df⟩ z):=propext Iff.rfl
theorem Jh {o:BinOp}{xt yt:TypeId}:bA κ dm P all Q (⟨d,.binOp o xt x y yt,ty,pos,af,none⟩::rest) ⟨t,σ,fr,df⟩=ij κ dm P all Q d rest ⟨t,σ,fr,df⟩ o xt (St.ev ⟨t,σ,fr,df⟩ x) (St.ev ⟨t,σ,fr,df⟩ y):=propext Iff.rfl
theorem PS {o:UnOp}{xt:TypeId}:bA κ dm P all Q (⟨d,.unOp o xt x,ty,pos,af,none⟩::rest) ⟨t,σ,fr,df⟩=ZA κ dm P all Q d rest ⟨t,σ,fr,df⟩ o (St.ev ⟨t,σ,fr,df⟩ x):=propext Iff.rfl
theorem sV {i:Nat}:bA κ dm P all Q (⟨d,.extract x i,ty,pos,af,none⟩::rest) ⟨t,σ,fr,df⟩=V5 κ dm P all Q d rest ⟨t,σ,fr,df⟩ (St.ev ⟨t,σ,fr,df⟩ x) i:=propext Iff.rfl
theorem Eu {xt:TypeId}:bA κ dm P all Q (⟨d,.load xt x,ty,pos,af,none⟩::rest) ⟨t,σ,fr,df⟩=Ii κ dm P all Q d rest ⟨t,σ,fr,df⟩ xt (St.ev ⟨t,σ,fr,df⟩ x):=propext Iff.rfl
theorem A5 {xt:TypeId}:bA κ dm P all Q (⟨d,.store xt x y,ty,pos,af,none⟩::rest) ⟨t,σ,fr,df⟩=yh κ dm P all Q d rest ⟨t,σ,fr,df⟩ xt (St.ev ⟨t,σ,fr,df⟩ x) (St.ev ⟨t,σ,fr,df⟩ y):=propext Iff.rfl
theorem Ah {xt:TypeId}:bA κ dm P all Q (⟨d,.alloc xt,ty,pos,af,none⟩::rest) ⟨t,σ,fr,df⟩=cu κ dm P all Q d rest ⟨t,σ,fr,df⟩ (.new xt) []:=propext Iff.rfl
theorem Ja {xt:TypeId}:bA κ dm P all Q (⟨d,.box xt x,ty,pos,af,none⟩::rest) ⟨t,σ,fr,df⟩=cu κ dm P all Q d rest ⟨t,σ,fr,df⟩ (.box xt) [(St.ev ⟨t,σ,fr,df⟩ x)]:=propext Iff.rfl
theorem zx {xt:TypeId}{ps:List (Nat × Operand)}:bA κ dm P all Q (⟨d,.build xt ps.toArray,ty,pos,af,none⟩::rest) ⟨t,σ,fr,df⟩=cu κ dm P all Q d rest ⟨t,σ,fr,df⟩ (.build xt (ps.map (·.1))) (ps.map fun p=>St.ev ⟨t,σ,fr,df⟩ p.2):=propext Iff.rfl
theorem vH {xt:TypeId}{n:Nat}{ps:List (Nat × Operand)}:bA κ dm P all Q (⟨d,.buildSlice xt n ps.toArray,ty,pos,af,none⟩::rest) ⟨t,σ,fr,df⟩=cu κ dm P all Q d rest ⟨t,σ,fr,df⟩ (.bslice xt n (ps.map (·.1))) (ps.map fun p=>St.ev ⟨t,σ,fr,df⟩ p.2):=propext Iff.rfl
theorem p9 {xt:TypeId}{f:Nat}:bA κ dm P all Q (⟨d,.fieldAddr xt x f,ty,pos,af,none⟩::rest) ⟨t,σ,fr,df⟩=jJ κ dm P all Q d rest ⟨t,σ,fr,df⟩ xt (St.ev ⟨t,σ,fr,df⟩ x) f:=propext Iff.rfl
theorem AB {xt:TypeId}{f:Nat}:bA κ dm P all Q (⟨d,.field xt x f,ty,pos,af,none⟩::rest) ⟨t,σ,fr,df⟩=Dl κ dm P all Q d rest ⟨t,σ,fr,df⟩ xt (St.ev ⟨t,σ,fr,df⟩ x) f:=propext Iff.rfl
theorem o9 {xt:TypeId}:bA κ dm P all Q (⟨d,.indexAddr xt x y,ty,pos,af,none⟩::rest) ⟨t,σ,fr,df⟩=RW κ dm P all Q d rest ⟨t,σ,fr,df⟩ xt (St.ev ⟨t,σ,fr,df⟩ x) (St.ev ⟨t,σ,fr,df⟩ y):=propext Iff.rfl
theorem zw {xt:TypeId}:bA κ dm P all Q (⟨d,.index xt x y,ty,pos,af,none⟩::rest) ⟨t,σ,fr,df⟩=Ff κ dm P all Q d rest ⟨t,σ,fr,df⟩ xt (St.ev ⟨t,σ,fr,df⟩ x) (St.ev ⟨t,σ,fr,df⟩ y):=propext Iff.rfl
theorem Au {xt:TypeId}{lo hi mx:Option Operand}:bA κ dm P all Q (⟨d,.slice xt x lo hi mx,ty,pos,af,none⟩::rest) ⟨t,σ,fr,df⟩=qX κ dm P all Q d rest ⟨t,σ,fr,df⟩ xt (St.ev ⟨t,σ,fr,df⟩ x) (lo.map (St.ev ⟨t,σ,fr,df⟩)) (hi.map (St.ev ⟨t,σ,fr,df⟩)) (mx.map (St.ev ⟨t,σ,fr,df⟩)):=propext Iff.rfl
theorem El {a b:TypeId}:bA κ dm P all Q (⟨d,.convert a b x,ty,pos,af,none⟩::rest) ⟨t,σ,fr,df⟩=As κ dm P all Q d rest ⟨t,σ,fr,df⟩ a b (St.ev ⟨t,σ,fr,df⟩ x):=propext Iff.rfl
theorem rZ {fn:Fn}{a b:List Operand}:bA κ dm P all Q (⟨d,.makeFunc fn a.toArray b.toArray,ty,pos,af,none⟩::rest) ⟨t,σ,fr,df⟩=lT κ dm P all Q d rest ⟨t,σ,fr,df⟩ fn (a.map (St.ev ⟨t,σ,fr,df⟩)) (b.map (St.ev ⟨t,σ,fr,df⟩)):=propext Iff.rfl
theorem qj {xt:TypeId}:bA κ dm P all Q (⟨d,.makeSlice xt x y,ty,pos,af,none⟩::rest) ⟨t,σ,fr,df⟩=cu κ dm P all Q d rest ⟨t,σ,fr,df⟩ (.mkslice xt) [(St.ev ⟨t,σ,fr,df⟩ x),(St.ev ⟨t,σ,fr,df⟩ y)]:=propext Iff.rfl
theorem rM:bA κ dm P all Q (⟨d,.nilCheck x,ty,pos,af,none⟩::rest) ⟨t,σ,fr,df⟩=KK κ dm P all Q d rest ⟨t,σ,fr,df⟩ (St.ev ⟨t,σ,fr,df⟩ x):=propext Iff.rfl
theorem zz:bA κ dm P all Q (⟨d,.panic x,ty,pos,af,none⟩::rest) ⟨t,σ,fr,df⟩=U6 Q ⟨t,σ,fr,df⟩ (St.ev ⟨t,σ,fr,df⟩ x):=propext Iff.rfl
theorem pX {xt:TypeId}:bA κ dm P all Q (⟨d,.makeInterface xt x,ty,pos,af,none⟩::rest) ⟨t,σ,fr,df⟩=cu κ dm P all Q d rest ⟨t,σ,fr,df⟩ (.makeIface xt) [(St.ev ⟨t,σ,fr,df⟩ x)]:=propext Iff.rfl
theorem Ay {xt:TypeId}:bA κ dm P all Q (⟨d,.range xt x,ty,pos,af,none⟩::rest) ⟨t,σ,fr,df⟩=cu κ dm P all Q d rest ⟨t,σ,fr,df⟩ (.range xt) [(St.ev ⟨t,σ,fr,df⟩ x)]:=propext Iff.rfl
theorem E6 {b:Bool}:bA κ dm P all Q (⟨d,.next x b,ty,pos,af,none⟩::rest) ⟨t,σ,fr,df⟩=cu κ dm P all Q d rest ⟨t,σ,fr,df⟩ (.next b ty) [(St.ev ⟨t,σ,fr,df⟩ x)]:=propext Iff.rfl
theorem Fl {f:Operand}{xs:List Operand}{ts:Array TypeId}:bA κ dm P all Q (⟨d,.call ⟨.value f,xs.toArray,ts⟩,ty,pos,af,none⟩::rest) ⟨t,σ,fr,df⟩=oh κ dm P all Q d rest ⟨t,σ,fr,df⟩ (St.ev ⟨t,σ,fr,df⟩ f) (xs.map (St.ev ⟨t,σ,fr,df⟩)):=propext Iff.rfl
theorem LI {a:TypeId}:bA κ dm P all Q (⟨d,.call ⟨.builtin .len,#[x],#[a]⟩,ty,pos,af,none⟩::rest) ⟨t,σ,fr,df⟩=Gu κ dm P all Q d rest ⟨t,σ,fr,df⟩ a (St.ev ⟨t,σ,fr,df⟩ x):=by simp only [bA,de,eZ];simp [Gu];exact Iff.rfl
theorem wD {a:TypeId}:bA κ dm P all Q (⟨d,.call ⟨.builtin .append,#[x,y],#[a,a]⟩,ty,pos,af,none⟩::rest) ⟨t,σ,fr,df⟩=cu κ dm P all Q d rest ⟨t,σ,fr,df⟩ (.append a) [(St.ev ⟨t,σ,fr,df⟩ x),(St.ev ⟨t,σ,fr,df⟩ y)]:=by simp only [bA,de,eZ];simp [cu];exact Iff.rfl
theorem I1 {xs:List Operand}{ts:Array TypeId}:bA κ dm P all Q (⟨d,.call ⟨.builtin .max,xs.toArray,ts⟩,ty,pos,af,none⟩::rest) ⟨t,σ,fr,df⟩=cu κ dm P all Q d rest ⟨t,σ,fr,df⟩ (.minmax true ts ty) (xs.map (St.ev ⟨t,σ,fr,df⟩)):=propext Iff.rfl
theorem Lc {xs:List Operand}{ts:Array TypeId}:bA κ dm P all Q (⟨d,.call ⟨.builtin .min,xs.toArray,ts⟩,ty,pos,af,none⟩::rest) ⟨t,σ,fr,df⟩=cu κ dm P all Q d rest ⟨t,σ,fr,df⟩ (.minmax false ts ty) (xs.map (St.ev ⟨t,σ,fr,df⟩)):=propext Iff.rfl
variable {a b c:AV} {xt:TypeId} {k k':IntKind} {m n:Int} {l:List AV} {sz:Nat} {own:Option (Option (Nat × Nat))} {v:Value} {bb cc:Bool}
theorem AP:Aj K KP (.ret a) σ=K a σ:=propext Iff.rfl
theorem B1:Aj K KP (.pan pc) σ=KP pc σ:=propext Iff.rfl
theorem zO:Pq κ dm P all Q d rest ⟨t,σ,fr,df⟩ (some v)=bA κ dm P all Q rest ⟨bP t d (.raw v),σ,fr,df⟩:=propext Iff.rfl
theorem A9 {o:BinOp} (h1:o≠.shl) (h2:o≠.shr):ij κ dm P all Q d rest ⟨t,σ,fr,df⟩ o xt (.raw (.int k m)) (.raw (.int k n))=Pq κ dm P all Q d rest ⟨t,σ,fr,df⟩ (ay o k m n):=by
 simp only [ij,mn,jT,ia,Bool.or_self,Bool.true_or,true_and];cases o<;>first|exact (h1 rfl).elim|exact (h2 rfl).elim|simp [Pq]
theorem AR:ij κ dm P all Q d rest ⟨t,σ,fr,df⟩ .shl xt (.raw (.int k m)) (.raw (.int k' n))=Pq κ dm P all Q d rest ⟨t,σ,fr,df⟩ (Ow .shl k m n):=by simp [ij,mn,jT,ia,Pq]
theorem z6:ij κ dm P all Q d rest ⟨t,σ,fr,df⟩ .shr xt (.raw (.int k m)) (.raw (.int k' n))=Pq κ dm P all Q d rest ⟨t,σ,fr,df⟩ (Ow .shr k m n):=by simp [ij,mn,jT,ia,Pq]
theorem Bo {o:BinOp}{p q:ByteArray}:ij κ dm P all Q d rest ⟨t,σ,fr,df⟩ o xt (.raw (.string p)) (.raw (.string q))=Pq κ dm P all Q d rest ⟨t,σ,fr,df⟩ (dx o p q):=by simp [ij,mn,jT,ia,Pq]
theorem wI:ij κ dm P all Q d rest ⟨t,σ,fr,df⟩ .eql xt (.raw (.bool bb)) (.raw (.bool cc))=(P.underlying xt=some .bool∧bA κ dm P all Q rest ⟨bP t d (B (bb == cc)),σ,fr,df⟩):=by simp [ij,mn,jT,ia,dw]
theorem w5:ij κ dm P all Q d rest ⟨t,σ,fr,df⟩ .neq xt (.raw (.bool bb)) (.raw (.bool cc))=(P.underlying xt=some .bool∧bA κ dm P all Q rest ⟨bP t d (B (!(bb == cc))),σ,fr,df⟩):=by simp [ij,mn,jT,ia,dw]
theorem xI:ij κ dm P all Q d rest ⟨t,σ,fr,df⟩ .eql xt (.sl sz own l) (.raw (.slice none 0 0))=((jg P xt).isSome=true∧vZ κ dm P all Q d rest ⟨t,σ,fr,df⟩ l false):=by simp [ij,mn,jT,ia,dw,vZ]
theorem B2:ij κ dm P all Q d rest ⟨t,σ,fr,df⟩ .neq xt (.sl sz own l) (.raw (.slice none 0 0))=((jg P xt).isSome=true∧vZ κ dm P all Q d rest ⟨t,σ,fr,df⟩ l true):=by simp [ij,mn,jT,ia,dw,vZ]
theorem xE:ij κ dm P all Q d rest ⟨t,σ,fr,df⟩ .eql xt (.raw (.slice none 0 0)) (.raw (.slice none 0 0))=((jg P xt).isSome=true∧bA κ dm P all Q rest ⟨bP t d (B true),σ,fr,df⟩):=by simp [ij,mn,jT,ia,dw]
theorem AU:ij κ dm P all Q d rest ⟨t,σ,fr,df⟩ .neq xt (.raw (.slice none 0 0)) (.raw (.slice none 0 0))=((jg P xt).isSome=true∧bA κ dm P all Q rest ⟨bP t d (B false),σ,fr,df⟩):=by simp [ij,mn,jT,ia,dw]
theorem Fa:ZA κ dm P all Q d rest ⟨t,σ,fr,df⟩ .not (.raw (.bool bb))=bA κ dm P all Q rest ⟨bP t d (B (!bb)),σ,fr,df⟩:=propext Iff.rfl
theorem FN:ZA κ dm P all Q d rest ⟨t,σ,fr,df⟩ .neg (.raw (.int k m))=bA κ dm P all Q rest ⟨bP t d (.raw (.int k (k.wrap (0 - m)))),σ,fr,df⟩:=propext Iff.rfl
theorem tp:PV κ dm P all Q d rest ⟨t,σ,fr,df⟩ (.raw (.bool bb)) a b=bA κ dm P all Q rest ⟨bP t d (if bb then a else b),σ,fr,df⟩:=propext Iff.rfl
theorem zL {i:Nat}:V5 κ dm P all Q d rest ⟨t,σ,fr,df⟩ (.tup l) i=(i < l.length∧bA κ dm P all Q rest ⟨bP t d (l.getD i .any),σ,fr,df⟩):=propext Iff.rfl
theorem Bd:Ii κ dm P all Q d rest ⟨t,σ,fr,df⟩ xt (.cp l)=CP κ dm P all Q d rest ⟨t,σ,fr,df⟩ l (aggT P xt) (dj P xt):=propext Iff.rfl
theorem tE {n:Nat}:CP κ dm P all Q d rest ⟨t,σ,fr,df⟩ l (some true) (some n)=(n≤l.length∧bA κ dm P all Q rest ⟨bP t d (.agg (l.take n)),σ,fr,df⟩):=propext Iff.rfl
theorem uy {n:Nat}:CP κ dm P all Q d rest ⟨t,σ,fr,df⟩ l (some false) (some n)=(0 < l.length∧bA κ dm P all Q rest ⟨bP t d (l.getD 0 .any),σ,fr,df⟩):=propext Iff.rfl
theorem wB {p:Option Addr}:Ii κ dm P all Q d rest ⟨t,σ,fr,df⟩ xt (.raw (.pointer p))=cu κ dm P all Q d rest ⟨t,σ,fr,df⟩ (.load xt) [.raw (.pointer p)]:=propext Iff.rfl
theorem fieldAddrC_cp {f o:Nat}{ft:TypeId} (h:cH P xt f=some (o,ft)):jJ κ dm P all Q d rest ⟨t,σ,fr,df⟩ xt (.cp l) f=((∃ n,dj P ft=some (n+1))∧o≤l.length∧bA κ dm P all Q rest ⟨bP t d (.cp (l.drop o)),σ,fr,df⟩):=by simp [jJ,eo,h,dw]
theorem fieldAddrC_raw {f o bk off:Nat}{ft:TypeId} (h:cH P xt f=some (o,ft)):jJ κ dm P all Q d rest ⟨t,σ,fr,df⟩ xt (.raw (.pointer (some ⟨bk,off,none⟩))) f=((∃ n,dj P ft=some (n+1))∧bA κ dm P all Q rest ⟨bP t d (.raw (.pointer (some ⟨bk,off+o,none⟩))),σ,fr,df⟩):=by simp [jJ,eo,h,dw]
theorem fieldC_agg {f o n:Nat}{ft:TypeId} (h:cH P xt f=some (o,ft)) (h1:aggT P ft=some true) (h2:dj P ft=some n):Dl κ dm P all Q d rest ⟨t,σ,fr,df⟩ xt (.agg l) f=bA κ dm P all Q rest ⟨bP t d (.agg ((l.drop o).take n)),σ,fr,df⟩:=by simp [Dl,mh,h,h1,h2,dw]
theorem E0:RW κ dm P all Q d rest ⟨t,σ,fr,df⟩ xt (.sl sz own l) (.raw (.int k m))=((∃ e,jg P xt=some e∧dj P e=some sz)∧0≤m∧m < l.length∧bA κ dm P all Q rest ⟨bP t d (.cp (l.getD m.toNat .any).cells),σ,fr,df⟩):=propext Iff.rfl
theorem rV {p:ByteArray}:Ff κ dm P all Q d rest ⟨t,σ,fr,df⟩ xt (.raw (.string p)) (.raw (.int k m))=(isStr P xt=true∧0≤m∧m < p.size∧bA κ dm P all Q rest ⟨bP t d (.raw (.int .u8 (p.data.toList.getD m.toNat 0).toNat)),σ,fr,df⟩):=propext Iff.rfl
def Vj (κ:Ctx) (dm:Bool) (P:Program) (all:List Oper) (Q:Exit→St→Prop) (d:Option Tmp) (rest:List Oper) (s:St) (xt:TypeId) (sz:Nat) (l:List AV) (a b:Option Int):Prop:=match a,b with
 | some a,some b=>(∃ e,jg P xt=some e∧dj P e=some sz)∧0≤a∧a≤b∧b≤l.length∧dw κ dm P all Q d rest s (.sl sz none ((l.take b.toNat).drop a.toNat)) s.σ
 | _,_=>False
theorem wc {lo hi:Option AV}:qX κ dm P all Q d rest ⟨t,σ,fr,df⟩ xt (.sl sz own l) lo hi none=Vj κ dm P all Q d rest ⟨t,σ,fr,df⟩ xt sz l (E2 lo) (FU l.length hi):=by
 rfl
theorem D5:Vj κ dm P all Q d rest ⟨t,σ,fr,df⟩ xt sz l (some m) (some n)=((∃ e,jg P xt=some e∧dj P e=some sz)∧0≤m∧m≤n∧n≤l.length∧bA κ dm P all Q rest ⟨bP t d (.sl sz none ((l.take n.toNat).drop m.toNat)),σ,fr,df⟩):=propext Iff.rfl
def XG (κ:Ctx) (dm:Bool) (P:Program) (all:List Oper) (Q:Exit→St→Prop) (d:Option Tmp) (rest:List Oper) (s:St) (xt:TypeId) (p:ByteArray) (a b:Option Int):Prop:=match a,b with
 | some a,some b=>isStr P xt=true∧0≤a∧a≤b∧b≤p.size∧dw κ dm P all Q d rest s (.raw (.string (p.extract a.toNat b.toNat))) s.σ
 | _,_=>False
theorem uo {lo hi:Option AV}{p:ByteArray}:qX κ dm P all Q d rest ⟨t,σ,fr,df⟩ xt (.raw (.string p)) lo hi none=XG κ dm P all Q d rest ⟨t,σ,fr,df⟩ xt p (E2 lo) (FU p.size hi):=by
 rfl
theorem Ea {p:ByteArray}:XG κ dm P all Q d rest ⟨t,σ,fr,df⟩ xt p (some m) (some n)=(isStr P xt=true∧0≤m∧m≤n∧n≤p.size∧bA κ dm P all Q rest ⟨bP t d (.raw (.string (p.extract m.toNat n.toNat))),σ,fr,df⟩):=propext Iff.rfl
theorem zR:E2 none=some 0:=id rfl
theorem D4:E2 (some (.raw (.int k m)))=some m:=id rfl
theorem zU {N:Nat}:FU N none=some (N:Int):=id rfl
theorem FY {N:Nat}:FU N (some (.raw (.int k m)))=some m:=id rfl
theorem convC_int {x2:TypeId} (h:mo P x2=some k'):As κ dm P all Q d rest ⟨t,σ,fr,df⟩ xt x2 (.raw (.int k m))=((P.underlying xt).isSome=true∧bA κ dm P all Q rest ⟨bP t d (.raw (.int k' (k'.wrap m))),σ,fr,df⟩):=by simp [As,rz,h,dw]
theorem xD {f:Fn}:lT κ dm P all Q d rest ⟨t,σ,fr,df⟩ f [] []=bA κ dm P all Q rest ⟨bP t d (.raw (.func f #[] #[])),σ,fr,df⟩:=propext Iff.rfl
theorem wG {f:Fn}{u:Value}:lT κ dm P all Q d rest ⟨t,σ,fr,df⟩ f [] [.raw u]=bA κ dm P all Q rest ⟨bP t d (.raw (.func f #[] #[u])),σ,fr,df⟩:=propext Iff.rfl
theorem vI {f:Fn}{u w:Value}:lT κ dm P all Q d rest ⟨t,σ,fr,df⟩ f [] [.raw u,.raw w]=bA κ dm P all Q rest ⟨bP t d (.raw (.func f #[] #[u,w])),σ,fr,df⟩:=propext Iff.rfl
theorem wQ {f:Fn}{u w x:Value}:lT κ dm P all Q d rest ⟨t,σ,fr,df⟩ f [] [.raw u,.raw w,.raw x]=bA κ dm P all Q rest ⟨bP t d (.raw (.func f #[] #[u,w,x])),σ,fr,df⟩:=propext Iff.rfl
theorem xB {f:Fn}{u:Value}:lT κ dm P all Q d rest ⟨t,σ,fr,df⟩ f [.raw u] []=bA κ dm P all Q rest ⟨bP t d (.raw (.func f #[u] #[])),σ,fr,df⟩:=propext Iff.rfl
theorem E9:KK κ dm P all Q d rest ⟨t,σ,fr,df⟩ (.cp l)=bA κ dm P all Q rest ⟨bP t d (.cp l),σ,fr,df⟩:=propext Iff.rfl
theorem zy {p:Addr}:KK κ dm P all Q d rest ⟨t,σ,fr,df⟩ (.raw (.pointer (some p)))=bA κ dm P all Q rest ⟨bP t d (.raw (.pointer (some p))),σ,fr,df⟩:=propext Iff.rfl
theorem v8 {f:FuncId}{u w:Array Value}:KK κ dm P all Q d rest ⟨t,σ,fr,df⟩ (.raw (.func (.func f) u w))=bA κ dm P all Q rest ⟨bP t d (.raw (.func (.func f) u w)),σ,fr,df⟩:=propext Iff.rfl
theorem tJ {f:Nat}{u w:Array Value}:KK κ dm P all Q d rest ⟨t,σ,fr,df⟩ (.raw (.func (.yield f) u w))=bA κ dm P all Q rest ⟨bP t d (.raw (.func (.yield f) u w)),σ,fr,df⟩:=propext Iff.rfl
theorem sO {tt:TypeId}:U6 Q ⟨t,σ,fr,df⟩ (.raw (.iface tt v))=Q (.panic [{ v:=.iface tt v,recovered:=false }]) ⟨t,σ,fr,df⟩:=propext Iff.rfl
theorem Fc:Gu κ dm P all Q d rest ⟨t,σ,fr,df⟩ xt (.sl sz own l)=((jg P xt).isSome=true∧bA κ dm P all Q rest ⟨bP t d (I l.length),σ,fr,df⟩):=propext Iff.rfl
theorem zu {p:Option Addr}{i j:Nat}:Gu κ dm P all Q d rest ⟨t,σ,fr,df⟩ xt (.raw (.slice p i j))=((jg P xt).isSome=true∧bA κ dm P all Q rest ⟨bP t d (I i),σ,fr,df⟩):=propext Iff.rfl
theorem Br {p:ByteArray}:Gu κ dm P all Q d rest ⟨t,σ,fr,df⟩ xt (.raw (.string p))=(isStr P xt=true∧bA κ dm P all Q rest ⟨bP t d (I p.size),σ,fr,df⟩):=propext Iff.rfl
theorem tD {f:FuncId}{xs:List AV}:oh κ dm P all Q d rest ⟨t,σ,fr,df⟩ (.raw (.func (.func f) #[] #[])) xs=(ao P f∧ri κ dm P all Q d rest ⟨t,σ,fr,df⟩ f xs):=by
 cases dm
 ·simp only [oh,callM,il,ri,ao,Array.toList_empty,List.map_nil,List.nil_append,List.append_nil]
 ·simp only [oh,callM,il,ri,ao,Array.toList_empty,List.map_nil,List.nil_append,List.append_nil,eq_iff_iff]
  exact ⟨fun ⟨x,⟨h1,h2⟩,h3⟩=>⟨h1,x,h2,h3⟩,fun ⟨h1,x,h2,h3⟩=>⟨x,⟨h1,h2⟩,h3⟩⟩
theorem uQ {f:FuncId}{xs:List AV}{va vb:List Value}:oh κ dm P all Q d rest ⟨t,σ,fr,df⟩ (.raw (.func (.func f) va.toArray vb.toArray)) xs=(ao P f∧ri κ dm P all Q d rest ⟨t,σ,fr,df⟩ f (va.map .raw++xs++vb.map .raw)):=by
 cases dm
 ·simp only [oh,callM,il,ri,ao]
 ·simp only [oh,callM,il,ri,ao,eq_iff_iff]
  exact ⟨fun ⟨x,⟨h1,h2⟩,h3⟩=>⟨h1,x,h2,h3⟩,fun ⟨h1,x,h2,h3⟩=>⟨x,⟨h1,h2⟩,h3⟩⟩
theorem rJ {f:Nat}{xs:List AV}{vb:Array Value}:oh κ dm P all Q d rest ⟨t,σ,fr,df⟩ (.raw (.func (.yield f) #[] vb)) xs=vg κ dm P all Q d rest ⟨t,σ,fr,df⟩ f xs:=by
 cases dm
 ·simp only [oh,callM,il,vg,Array.toList_empty,List.map_nil,List.nil_append]
 ·simp only [oh,callM,il,vg,Array.toList_empty,List.map_nil,List.nil_append]
  rfl
theorem GJ {v:Bool} (h:0 < l.length) (hk:dw κ dm P all Q d rest ⟨t,σ,fr,df⟩ (B v) σ):vZ κ dm P all Q d rest ⟨t,σ,fr,df⟩ l v:=.inl ⟨h,hk⟩
theorem callD_mk {f:FuncId}{xs:List AV} (h:ACallF κ P f xs σ (Aj (dw κ false P all Q d rest ⟨t,σ,fr,df⟩) (N7 Q ⟨t,σ,fr,df⟩))):ri κ false P all Q d rest ⟨t,σ,fr,df⟩ f xs:=h
theorem Gt {f:Nat}{xs:List AV} (h:ACallY κ P f xs σ (Aj (dw κ false P all Q d rest ⟨t,σ,fr,df⟩) (N7 Q ⟨t,σ,fr,df⟩))):vg κ false P all Q d rest ⟨t,σ,fr,df⟩ f xs:=h
theorem callD_q {f:FuncId}{xs:List AV}{x:AV} (h:ACallF κ P f xs σ (Yq x σ)) (hk:dw κ true P all Q d rest ⟨t,σ,fr,df⟩ x σ):ri κ true P all Q d rest ⟨t,σ,fr,df⟩ f xs:=⟨x,h,hk⟩
theorem aT {x:AV}:Yq x σ (.ret x) σ:=⟨rfl,rfl⟩
theorem iY {x:AV}:Z0 x σ x σ:=⟨rfl,rfl⟩
theorem cl {mm:MA}{xs:List AV} (h:AAct κ P mm xs σ (dw κ false P all Q d rest ⟨t,σ,fr,df⟩)):cu κ false P all Q d rest ⟨t,σ,fr,df⟩ mm xs:=h
theorem wa {x y:AV} (h:AAct κ P (.store xt) [x,y] σ (fun _ σ'=>dw κ false P all Q d rest ⟨t,σ,fr,df⟩ .any σ')):yh κ false P all Q d rest ⟨t,σ,fr,df⟩ xt x y:=h
theorem iZ {mm:MA}{xs:List AV}{x:AV} (h:AAct κ P mm xs σ (Z0 x σ)) (hk:dw κ dm P all Q d rest ⟨t,σ,fr,df⟩ x σ):cu κ dm P all Q d rest ⟨t,σ,fr,df⟩ mm xs:=by
 cases dm with
 | true=>exact ⟨x,h,hk⟩
 | false =>
  intro φ g w vs hR hv;obtain ⟨v,w',g',y,σ',a,b,c,d,rfl,rfl⟩:=h φ g w vs hR hv;exact ⟨v,w',g',_,_,a,b,c,d,hk⟩
variable {fn:Func} {kk:Ret→List Res→Prop}
theorem ko:qL κ P fn s kk=nY κ P fn kk s fn.results.toList:=by
 unfold qL nY;rfl
theorem wJ:qC κ P fn kk .ret ⟨t,σ,fr,df⟩=(df=[]∧nY κ P fn kk ⟨t,σ,fr,df⟩ fn.results.toList):=by rw [← ko];rfl
theorem pw:qC κ P fn kk .normal ⟨t,σ,fr,df⟩=(df=[]∧nY κ P fn kk ⟨t,σ,fr,df⟩ fn.results.toList):=by rw [← ko];rfl
theorem rK:qC κ P fn kk (.panic pc) ⟨t,σ,fr,df⟩=(df=[]∧kk (.pan pc) σ):=propext Iff.rfl
variable {i1 i2 i3 i4:Nat}
theorem QF:nY κ P fn kk ⟨t,σ,fr,df⟩ []=kk (.ret (.tup [])) σ:=propext Iff.rfl
theorem QI:nY κ P fn kk ⟨t,σ,fr,df⟩ [.tmp i1]=kk (.ret (t.getD i1 .any)) σ:=propext Iff.rfl
theorem PG:nY κ P fn kk ⟨t,σ,fr,df⟩ [.tmp i1,.tmp i2]=kk (.ret (.tup [t.getD i1 .any,t.getD i2 .any])) σ:=propext Iff.rfl
theorem Qy:nY κ P fn kk ⟨t,σ,fr,df⟩ [.tmp i1,.tmp i2,.tmp i3]=kk (.ret (.tup [t.getD i1 .any,t.getD i2 .any,t.getD i3 .any])) σ:=propext Iff.rfl
theorem QQ:nY κ P fn kk ⟨t,σ,fr,df⟩ [.tmp i1,.tmp i2,.tmp i3,.tmp i4]=kk (.ret (.tup [t.getD i1 .any,t.getD i2 .any,t.getD i3 .any,t.getD i4 .any])) σ:=propext Iff.rfl
end
end Go.Abs
