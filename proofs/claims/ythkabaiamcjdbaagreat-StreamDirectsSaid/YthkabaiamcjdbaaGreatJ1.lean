/-
  Texts Ma, Mb, Mc, Md, Me, Mf, Mg, one behind the other.
-/
import Derived.WalkKit
import Derived.WalkSpells
import Derived.OrdersIn
import Derived.RangeFuncLeaves
set_option linter.unusedVariables false
set_option linter.unusedSimpArgs false
set_option maxHeartbeats 16000000
namespace Go.Abs
open Go.RowKit
inductive AV where
 | any
 | raw (v:Value)
 | sl (sz:Nat) (own:Option (Option (Nat × Nat))) (l:List AV)
 | cp (l:List AV)
 | agg (l:List AV)
 | tup (l:List AV)
 | ifc (t:TypeId) (x:AV)
 deriving Inhabited
def AV.cells:AV→List AV
 | .agg l=>l
 | x=>[x]
def bu (w:World) (b:Nat):Nat :=
 match w.heap[b]? with
 | some (.cells c _ _)=>c.size
 | _=>0
inductive VR (g:Nat→Nat) (w:World):AV→Value→Prop where
 | any (v:Value):VR g w .any v
 | raw (v:Value):VR g w (.raw v) v
 | slnil {sz:Nat} {own:Option (Option (Nat × Nat))} (hsz:0 < sz):VR g w (.sl sz own []) (.slice none 0 0)
 | slzero {sz cap:Nat} {a:Addr} (h2:cap≤maxLen) (hsz:0 < sz):VR g w (.sl sz none []) (.slice (some a) 0 cap)
 | sl {sz:Nat} {own:Option (Option (Nat × Nat))} {l:List AV} {b off cap:Nat} (u:Nat→Nat→Value) (h1:l.length≤cap) (h2:cap≤maxLen) (hsz:0 < sz)
   (hc:∀ (i:Nat) (x:AV),l[i]? = some x→x.cells.length=sz)
   (hr:∀ (i:Nat) (x:AV) (k:Nat) (y:AV),l[i]? = some x→x.cells[k]? = some y→w.cell? ⟨b,off+i * sz+k,none⟩=some (u i k))
   (hv:∀ (i:Nat) (x:AV) (k:Nat) (y:AV),l[i]? = some x→x.cells[k]? = some y→VR g w y (u i k))
   (hg:off+l.length * sz≤g b)
   (ho:∀ t,own=some t→t=some (b,off+l.length * sz)∧off+cap * sz≤bu w b) :
   VR g w (.sl sz own l) (.slice (some ⟨b,off,none⟩) l.length cap)
 | cp {l:List AV} {b off:Nat} (u:Nat→Value)
   (hr:∀ (k:Nat) (y:AV),l[k]? = some y→w.cell? ⟨b,off+k,none⟩=some (u k))
   (hv:∀ (k:Nat) (y:AV),l[k]? = some y→VR g w y (u k))
   (hg:off+l.length≤g b):VR g w (.cp l) (.pointer (some ⟨b,off,none⟩))
 | agg {l:List AV} (vs:Array Value) (hs:vs.size=l.length) (hv:∀ (k:Nat) (y:AV),l[k]? = some y→VR g w y (vs.getD k undef)):VR g w (.agg l) (.agg vs)
 | tup {l:List AV} (vs:Array Value) (hs:vs.size=l.length) (hv:∀ (k:Nat) (y:AV),l[k]? = some y→VR g w y (vs.getD k undef)):VR g w (.tup l) (.tuple vs)
 | ifc {t:TypeId} {x:AV} {v:Value} (h:VR g w x v):VR g w (.ifc t x) (.iface t v)
structure GE (g:Nat→Nat) (w:World) (g':Nat→Nat) (w':World):Prop where
 size:w.heap.size≤w'.heap.size
 mono:∀ b,g b≤g' b
 cell:∀ b o,o < g b→w'.cell? ⟨b,o,none⟩=w.cell? ⟨b,o,none⟩
 len:∀ b,bu w b≤bu w' b
theorem GE.refl (g:Nat→Nat) (w:World):GE g w g w:=⟨Nat.le_refl _,fun _=>Nat.le_refl _,fun _ _ _=>rfl,fun _=>Nat.le_refl _⟩
theorem GE.trans {g g' g'':Nat→Nat}{w w' w'':World} (h:GE g w g' w') (k:GE g' w' g'' w''):GE g w g'' w'' :=
 ⟨Nat.le_trans h.size k.size,fun b=>Nat.le_trans (h.mono b) (k.mono b),fun b o ho=>(k.cell b o (Nat.lt_of_lt_of_le ho (h.mono b))).trans (h.cell b o ho),fun b=>Nat.le_trans (h.len b) (k.len b)⟩
theorem tv {i n k sz:Nat} (hi:i < n) (hk:k < sz):i * sz+k < n * sz:=by
 have:(i+1) * sz≤n * sz:=Nat.mul_le_mul_right sz hi
 rw [Nat.add_mul] at this;omega
theorem aL {α:Type}{l:List α}{i:Nat}{x:α} (h:l[i]? = some x):i < l.length:=by
 rcases Nat.lt_or_ge i l.length with h'|h'
 ·exact h'
 ·rw [List.getElem?_eq_none h'] at h;cases h
theorem VR.mono {g g':Nat→Nat}{w w':World} (H:GE g w g' w') {x:AV}{v:Value} (h:VR g w x v):VR g' w' x v:=by
 induction h with
 | any v=>exact .any v
 | raw v=>exact .raw v
 | slnil hsz=>exact .slnil hsz
 | slzero h2 hsz=>exact .slzero h2 hsz
 | @sl sz own l b off cap u h1 h2 hsz hc hr hv hg ho ih =>
  refine .sl u h1 h2 hsz hc (fun i x k y hi hk=>?_) ih (Nat.le_trans hg (H.mono b)) (fun t ht=>⟨(ho t ht).1,Nat.le_trans (ho t ht).2 (H.len b)⟩);rw [H.cell _ _ ?_]
  ·exact hr i x k y hi hk
  ·have h3:=hc i x hi
   have h4:=aL hi
   have h5:=aL hk
   have h6:=tv h4 (h3 ▸ h5)
   omega
 | @cp l b off u hr hv hg ih =>
  refine .cp u (fun k y hk=>?_) ih (Nat.le_trans hg (H.mono b));rw [H.cell _ _ ?_]
  ·exact hr k y hk
  ·have:=aL hk;omega
 | agg vs hs hv ih=>exact .agg vs hs ih
 | tup vs hs hv ih=>exact .tup vs hs ih
 | ifc h ih=>exact .ifc ih
inductive Res where
 | obj (b:Nat) (cs:List AV)
 | tip (t:Option (Nat × Nat))
 | blk (b:Nat) (o:Obj)
 | loop (l:Nat) (st:LoopState) (pend:Option Code) (t:List AV) (ps:Array Tmp) (assign body:Code) (d:Nat × Nat)
def Res.block:Res→Option Nat
 | .obj b _=>some b
 | .tip t=>t.map (·.1)
 | .blk b _=>some b
 | .loop l ..=>some l
def uC:Obj→Prop
 | .cells ..=>False
 | _=>True
structure TR (g:Nat→Nat) (w:World) (t:List AV) (tmps:Array Value):Prop where
 size:tmps.size=t.length
 get:∀ (k:Nat) (x:AV),t[k]? = some x→VR g w x (tmps.getD k undef)
theorem TR.mono {g g':Nat→Nat}{w w':World} (H:GE g w g' w') {t:List AV}{tmps:Array Value} (h:TR g w t tmps):TR g' w' t tmps :=
 ⟨h.size,fun k x hk=>(h.get k x hk).mono H⟩
def Res.holds (g:Nat→Nat) (w:World):Res→Prop
 | .obj b cs=>g b=0∧∃ arr t,w.heap[b]? = some (.cells arr t (0,0))∧TR g w cs arr
 | .tip none=>True
 | .tip (some t)=>g t.1=t.2∧∃ arr ty,w.heap[t.1]? = some (.cells arr ty (0,0))
 | .blk b o=>g b=0∧w.heap[b]? = some o∧uC o
 | .loop l st pend t ps assign body d=>g l=0∧∃ r,w.heap[l]? = some (.loop r)∧r.state=st∧r.pending=pend∧r.params=ps∧r.assign=assign∧r.body=body∧(r.defers,r.fn)=d∧TR g w t r.tmps
structure Ctx where
 B:Nat
 w0:World
structure Rel (κ:Ctx) (g:Nat→Nat) (σ:List Res) (w:World):Prop where
 below:Below κ.B κ.w0 w
 hB:κ.B≤w.heap.size
 nodup:(σ.filterMap Res.block).Nodup
 bnd:∀ r∈σ,∀ b,r.block=some b→κ.B≤b∧b < w.heap.size
 holds:∀ r∈σ,r.holds g w
 new:∀ b,w.heap.size≤b→g b=0
theorem Rel.perm {κ:Ctx}{g:Nat→Nat}{σ σ':List Res}{w:World} (h:Rel κ g σ w) (p:σ.Perm σ'):Rel κ g σ' w :=
 ⟨h.below,h.hB,(p.filterMap _).nodup_iff.1 h.nodup,fun r hr=>h.bnd r (p.mem_iff.2 hr),fun r hr=>h.holds r (p.mem_iff.2 hr),h.new⟩
theorem Rel.sub {κ:Ctx}{g:Nat→Nat}{σ σ':List Res}{w:World} (h:Rel κ g σ w) (p:σ'.Sublist σ):Rel κ g σ' w :=
 ⟨h.below,h.hB,(p.filterMap _).nodup h.nodup,fun r hr=>h.bnd r (p.mem hr),fun r hr=>h.holds r (p.mem hr),h.new⟩
theorem dE {α:Type}{r:α}:∀ {σ:List α}{i:Nat},σ[i]? = some r→σ.Perm (r::σ.eraseIdx i)
 | [],_,h=>by simp at h
 | x::σ,0,h=>by simp at h;subst h;exact List.Perm.refl _
 | x::σ,i+1,h=>by
  simp at h;exact ((dE h).cons x).trans (List.Perm.swap _ _ _)
theorem fq {α:Type}{r r':α}:∀ {σ:List α}{i:Nat},σ[i]? = some r→(r'::σ.eraseIdx i).Perm (σ.set i r')
 | [],_,h=>by simp at h
 | x::σ,0,h=>by exact List.Perm.refl _
 | x::σ,i+1,h=>by
  simp at h;exact (List.Perm.swap _ _ _).trans ((fq h).cons x)
theorem c6 {α:Type}{φ σ ρ:List α}{r:α} (h:σ.Perm (r::ρ)):(φ++σ).Perm (r::(φ++ρ)) :=
 (h.append_left φ).trans List.perm_middle
theorem Res.holds_keep {g g':Nat→Nat}{w w':World} (H:GE g w g' w') {r:Res} (hb:∀ b,r.block=some b→w'.heap[b]? = w.heap[b]?) (hg:∀ b,r.block=some b→g' b=g b) (h:r.holds g w):r.holds g' w':=by
 cases r with
 | obj b cs=>obtain ⟨h0,arr,t,h1,h2⟩:=h;exact ⟨(hg _ rfl).trans h0,arr,t,(hb _ rfl).trans h1,h2.mono H⟩
 | tip t =>
  cases t with
  | none=>exact trivial
  | some t=>obtain ⟨h0,arr,ty,h1⟩:=h;exact ⟨(hg _ rfl).trans h0,arr,ty,(hb _ rfl).trans h1⟩
 | blk b o=>obtain ⟨h0,h1,h2⟩:=h;exact ⟨(hg _ rfl).trans h0,(hb _ rfl).trans h1,h2⟩
 | loop l st pend t ps assign body d =>
  obtain ⟨h0,r,h1,a1,a2,a3,a4,a5,a6,h2⟩:=h;exact ⟨(hg _ rfl).trans h0,r,(hb _ rfl).trans h1,a1,a2,a3,a4,a5,a6,h2.mono H⟩
theorem pB {r:Res}{ρ:List Res}{b:Nat} (h:r.block=some b):(r::ρ).filterMap Res.block=b::ρ.filterMap Res.block:=by simp [h]
theorem N5 {r:Res}{ρ:List Res} (h:r.block=none):(r::ρ).filterMap Res.block=ρ.filterMap Res.block:=by simp [h]
theorem Rel.change {κ:Ctx}{g g':Nat→Nat}{r r':Res}{ρ:List Res}{w w':World}{c:Nat} (h:Rel κ g (r::ρ) w) (H:GE g w g' w')
  (hos:w'.os=w.os) (htape:w'.tape=w.tape) (hout:w'.output=w.output) (hsize:w'.heap.size=w.heap.size)
  (hsame:∀ b,b≠c→w'.heap[b]? = w.heap[b]?) (hg:∀ b,b≠c→g' b=g b) (hc:r.block=some c) (hb:r'.block=some c) (hr:r'.holds g' w'):Rel κ g' (r'::ρ) w':=by
 have hnd:=h.nodup
 rw [pB hc] at hnd;have hn:∀ x∈ρ,∀ b,x.block=some b→b≠c:=by
  intro x hx b hxb e;subst e;exact (List.nodup_cons.1 hnd).1 (List.mem_filterMap.2 ⟨x,hx,hxb⟩)
 obtain ⟨hB,hlt⟩:=h.bnd r (by simp) c hc;refine ⟨h.below.trans ⟨hos,htape,hout,by omega,fun k hk=>hsame k (by omega)⟩,by rw [hsize];exact h.hB, ?_, ?_, ?_, ?_⟩
 ·rw [pB hb];exact hnd
 ·intro x hx b hxb
  rcases List.mem_cons.1 hx with rfl|hx
  ·rw [hb] at hxb;cases hxb;rw [hsize];exact ⟨hB,hlt⟩
  ·rw [hsize];exact h.bnd x (by simp [hx]) b hxb
 ·intro x hx
  rcases List.mem_cons.1 hx with rfl|hx
  ·exact hr
  ·exact Res.holds_keep H (fun b hxb=>hsame _ (hn x hx b hxb)) (fun b hxb=>hg _ (hn x hx b hxb)) (h.holds x (by simp [hx]))
 ·intro b hb'
  rw [hsize] at hb';rw [hg b (by omega)];exact h.new b hb'
theorem Rel.fresh {κ:Ctx}{g g':Nat→Nat}{r':Res}{ρ:List Res}{w w':World} (h:Rel κ g ρ w) (H:GE g w g' w')
  (hos:w'.os=w.os) (htape:w'.tape=w.tape) (hout:w'.output=w.output) (hsize:w'.heap.size=w.heap.size+1)
  (hsame:∀ b,b < w.heap.size→w'.heap[b]? = w.heap[b]?) (hg:∀ b,b≠w.heap.size→g' b=g b) (hb:r'.block=some w.heap.size) (hr:r'.holds g' w'):Rel κ g' (r'::ρ) w':=by
 refine ⟨h.below.trans ⟨hos,htape,hout,by omega,fun k hk=>hsame k (by have:=h.hB;omega)⟩,by have:=h.hB;omega, ?_, ?_, ?_, ?_⟩
 ·rw [pB hb]
  refine List.nodup_cons.2 ⟨fun hm=>?_,h.nodup⟩;obtain ⟨x,hx,hxb⟩:=List.mem_filterMap.1 hm;have:=(h.bnd x hx _ hxb).2
  omega
 ·intro x hx b hxb
  rcases List.mem_cons.1 hx with rfl|hx
  ·rw [hb] at hxb;cases hxb;rw [hsize];exact ⟨h.hB,by omega⟩
  ·have:=h.bnd x hx b hxb;rw [hsize];exact ⟨this.1,by omega⟩
 ·intro x hx
  rcases List.mem_cons.1 hx with rfl|hx
  ·exact hr
  ·refine Res.holds_keep H (fun b hxb=>hsame _ (h.bnd x hx b hxb).2) (fun b hxb=>hg _ ?_) (h.holds x hx)
   have:=(h.bnd x hx b hxb).2
   omega
 ·intro b hb'
  rw [hg b (by omega)];exact h.new b (by omega)
theorem Rel.lost {κ:Ctx}{g g':Nat→Nat}{ρ:List Res}{w w':World} (h:Rel κ g ρ w) (H:GE g w g' w')
  (hos:w'.os=w.os) (htape:w'.tape=w.tape) (hout:w'.output=w.output) (hsize:w'.heap.size=w.heap.size+1)
  (hsame:∀ b,b < w.heap.size→w'.heap[b]? = w.heap[b]?) (hg:∀ b,b≠w.heap.size→g' b=g b):Rel κ g' ρ w':=by
 refine ⟨h.below.trans ⟨hos,htape,hout,by omega,fun k hk=>hsame k (by have:=h.hB;omega)⟩,by have:=h.hB;omega,h.nodup, ?_, ?_, ?_⟩
 ·intro x hx b hxb
  have:=h.bnd x hx b hxb;rw [hsize];exact ⟨this.1,by omega⟩
 ·intro x hx
  refine Res.holds_keep H (fun b hxb=>hsame _ (h.bnd x hx b hxb).2) (fun b hxb=>hg _ ?_) (h.holds x hx);have:=(h.bnd x hx b hxb).2
  omega
 ·intro b hb'
  rw [hg b (by omega)];exact h.new b (by omega)
theorem Rel.void {κ:Ctx}{g:Nat→Nat}{ρ:List Res}{w:World} (h:Rel κ g ρ w):Rel κ g (.tip none::ρ) w:=by
 refine ⟨h.below,h.hB,by rw [N5 rfl];exact h.nodup, ?_, ?_,h.new⟩
 ·intro x hx b hxb
  rcases List.mem_cons.1 hx with rfl|hx
  ·cases hxb
  ·exact h.bnd x hx b hxb
 ·intro x hx
  rcases List.mem_cons.1 hx with rfl|hx
  ·exact trivial
  ·exact h.holds x hx
theorem GE.of_heap {g:Nat→Nat}{w w':World} (h:w'.heap=w.heap):GE g w g w' :=
 ⟨by rw [h];exact Nat.le_refl _,fun _=>Nat.le_refl _,fun _ _ _=>by simp [World.cell?,h],fun _=>by simp [bu,h]⟩
theorem Rel.of_heap {κ:Ctx}{g:Nat→Nat}{ρ:List Res}{w w':World} (h:Rel κ g ρ w) (hh:w'.heap=w.heap) (hos:w'.os=w.os) (htape:w'.tape=w.tape) (hout:w'.output=w.output):Rel κ g ρ w':=by
 refine ⟨h.below.trans ⟨hos,htape,hout,by rw [hh];exact Nat.le_refl _,fun k _=>by rw [hh]⟩,by rw [hh];exact h.hB,h.nodup,by rw [hh];exact h.bnd,fun r hr=>?_,by rw [hh];exact h.new⟩;exact Res.holds_keep (GE.of_heap hh) (fun _ _=>by rw [hh]) (fun _ _=>rfl) (h.holds r hr)
theorem Rel.drew {κ:Ctx}{g:Nat→Nat}{ρ:List Res}{w:World} (h:Rel κ g ρ w) (n:Nat):Rel κ g ρ { w with drawn:=n }:=h.of_heap rfl rfl rfl rfl
theorem GE.drew {g:Nat→Nat}{w:World} (n:Nat):GE g w g { w with drawn:=n }:=GE.of_heap rfl
def zk (g:Nat→Nat) (b n:Nat):Nat→Nat:=fun x=>if x=b then n else g x
theorem eL (g:Nat→Nat) (b n:Nat):zk g b n b=n:=by simp [zk]
theorem eR {g:Nat→Nat}{b n x:Nat} (h:x≠b):zk g b n x=g x:=by simp [zk,h]
theorem fp (w:World) (o:Obj) (b:Nat) (h:b < w.heap.size):(w.alloc o).heap[b]? = w.heap[b]?:=by
 show (w.heap.push o)[b]? = _
 rw [Array.getElem?_push,if_neg (by omega)]
theorem fj (w:World) (o:Obj):(w.alloc o).heap[w.heap.size]? = some o:=by
 show (w.heap.push o)[w.heap.size]? = _
 rw [Array.getElem?_push,if_pos rfl]
theorem GE.alloc {κ:Ctx}{g:Nat→Nat}{ρ:List Res}{w:World} (h:Rel κ g ρ w) (o:Obj) (n:Nat):GE g w (zk g w.heap.size n) (w.alloc o):=by
 refine ⟨by simp,fun b=>?_,fun b k hk=>?_,fun b=>?_⟩
 ·by_cases e:b=w.heap.size
  ·subst e;rw [h.new _ (Nat.le_refl _)];exact Nat.zero_le _
  ·rw [eR e];exact Nat.le_refl _
 ·have hlt:b < w.heap.size:=by
   rcases Nat.lt_or_ge b w.heap.size with h'|h'
   ·exact h'
   ·rw [h.new _ h'] at hk;omega
  simp only [World.cell?];rw [fp w o b hlt]
 ·rcases Nat.lt_or_ge b w.heap.size with h'|h'
  ·simp only [bu];rw [fp w o b h'];exact Nat.le_refl _
  ·have:w.heap[b]? = none:=Array.getElem?_eq_none h'
   simp [bu,this]
theorem tA {κ:Ctx}{g:Nat→Nat}{ρ:List Res}{w:World} (h:Rel κ g ρ w):zk g w.heap.size 0=g:=by
 funext x
 by_cases e:x=w.heap.size
 ·subst e;rw [eL,h.new _ (Nat.le_refl _)]
 ·rw [eR e]
theorem Rel.new_obj {κ:Ctx}{g:Nat→Nat}{ρ:List Res}{w:World} (h:Rel κ g ρ w) {cs:List AV}{arr:Array Value} (t:TypeId) (hc:TR g w cs arr) :
  Rel κ g (.obj w.heap.size cs::ρ) (w.alloc (.cells arr t))∧GE g w g (w.alloc (.cells arr t)):=by
 have H:=GE.alloc h (.cells arr t) 0
 rw [tA h] at H;refine ⟨h.fresh H rfl rfl rfl (by simp) (fun b hb=>fp w _ b hb) (fun b _=>rfl) rfl ?_,H⟩;exact ⟨h.new _ (Nat.le_refl _),arr,t,fj w _,hc.mono H⟩
theorem Rel.new_blk {κ:Ctx}{g:Nat→Nat}{ρ:List Res}{w:World} (h:Rel κ g ρ w) (o:Obj) (ho:uC o) :
  Rel κ g (.blk w.heap.size o::ρ) (w.alloc o)∧GE g w g (w.alloc o):=by
 have H:=GE.alloc h o 0
 rw [tA h] at H;exact ⟨h.fresh H rfl rfl rfl (by simp) (fun b hb=>fp w _ b hb) (fun b _=>rfl) rfl ⟨h.new _ (Nat.le_refl _),fj w _,ho⟩,H⟩
theorem Nn (w:World) (arr:Array Value) (t:TypeId) (k:Nat):(w.alloc (.cells arr t)).cell? ⟨w.heap.size,k,none⟩=arr[k]?:=by
 simp only [World.cell?];rw [fj];simp
theorem yk (w:World) (arr:Array Value) (t:TypeId):bu (w.alloc (.cells arr t)) w.heap.size=arr.size:=by
 simp only [bu];rw [fj]
theorem Rel.new_row {κ:Ctx}{g:Nat→Nat}{ρ:List Res}{w:World} (h:Rel κ g ρ w) (arr:Array Value) (t:TypeId) (n:Nat) :
  Rel κ (zk g w.heap.size n) (.tip (some (w.heap.size,n))::ρ) (w.alloc (.cells arr t))∧GE g w (zk g w.heap.size n) (w.alloc (.cells arr t)):=by
 have H:=GE.alloc h (.cells arr t) n
 exact ⟨h.fresh H rfl rfl rfl (by simp) (fun b hb=>fp w _ b hb) (fun b hb=>eR hb) rfl ⟨eL _ _ _,arr,t,fj w _⟩,H⟩
/-! ### Resources told weaker -/
def ResW (σ σ':List Res):Prop:=∀ (κ:Ctx) (φ:List Res) (g:Nat→Nat) (w:World),Rel κ g (φ++σ) w→Rel κ g (φ++σ') w
theorem ResW.refl (σ:List Res):ResW σ σ:=fun _ _ _ _ h=>h
theorem ResW.trans {σ σ' σ'':List Res} (h:ResW σ σ') (k:ResW σ' σ''):ResW σ σ'':=fun κ φ g w hR=>k κ φ g w (h κ φ g w hR)
theorem ResW.perm {σ σ':List Res} (p:σ.Perm σ'):ResW σ σ':=fun _ φ _ _ h=>h.perm (p.append_left φ)
theorem ResW.sub {σ σ':List Res} (p:σ'.Sublist σ):ResW σ σ':=fun _ φ _ _ h=>h.sub ((List.Sublist.refl φ).append p)
theorem ResW.void {σ:List Res}:ResW σ (.tip none::σ):=fun _ _ _ _ h=>h.void.perm List.perm_middle.symm
theorem ResW.cons {σ σ':List Res} (r:Res) (h:ResW σ σ'):ResW (r::σ) (r::σ'):=fun κ φ g w hR=>by
 have:=h κ (φ++[r]) g w (by simpa using hR)
 simpa using this
theorem ResW.app {σ σ':List Res} (ρ:List Res) (h:ResW σ σ'):ResW (ρ++σ) (ρ++σ'):=fun κ φ g w hR=>by
 have:=h κ (φ++ρ) g w (by simpa using hR)
 simpa using this
theorem ResW.voids {σ:List Res}:∀ n,ResW σ (List.replicate n (Res.tip none)++σ)
 | 0=>by simpa using ResW.refl σ
 | n+1=>by rw [List.replicate_succ,List.cons_append];exact (ResW.voids n).trans ResW.void
def jg (P:Program) (t:TypeId):Option TypeId:=match P.underlying t with|some (.slice e)=>some e|_=>none
def isStr (P:Program) (t:TypeId):Bool:=match P.underlying t with|some .string=>true|_=>false
def dj (P:Program) (t:TypeId):Option Nat:=(P.info? t).map (·.size)
def mg (P:Program) (t:TypeId):Option Nat:=(P.info? t).map (·.bytes)
def dP (P:Program) (t:TypeId):Option Value:=(P.info? t).bind (·.zero)
def V8:TypeDesc→Bool | .struct _=>true | .array _ _=>true|_=>false
def aggT (P:Program) (t:TypeId):Option Bool:=(P.underlying t).map V8
def cH (P:Program) (t:TypeId) (f:Nat):Option (Nat × TypeId):=match P.underlying t with|some (.struct fs)=>(fs[f]?).map fun x=>(x.offset,x.type)|_=>none
def Y2 (P:Program) (t:TypeId):Option (Nat × TypeId):=match P.underlying t with|some (.array n e)=>some (n,e)|_=>none
def mo (P:Program) (t:TypeId):Option IntKind:=match P.underlying t with|some (.int k)=>some k|_=>none
def Ys (P:Program) (t:TypeId):Option TypeId:=match P.underlying t with|some (.pointer e)=>some e|_=>none
/-! ### States -/
def rU:Value→AV
 | .agg cs=>.agg (cs.toList.map .raw)
 | .tuple _=>.any
 | v=>.raw v
abbrev I (n:Int):AV:=.raw (.int .i64 n)
abbrev B (b:Bool):AV:=.raw (.bool b)
abbrev nilS:AV:=.raw (.slice none 0 0)
structure St where
 t:List AV
 σ:List Res
 fr:Bool:=true
 df:List Deferred:=[]
def St.ev (s:St):Operand→AV
 | .tmp k=>s.t.getD k .any
 | .const v=>rU v
 | .global g=>.raw (.pointer (some ⟨g,0,none⟩))
 | .func f=>.raw (.func (.func f) #[] #[])
def U:AV:=.raw undef
def bP (t:List AV) (dst:Option Tmp) (x:AV):List AV :=
 match dst with
 | some d=>t.set d x
 | none=>t
def kF (r:Nat):Deferred:={ target:=.collected r,args:=#[] }
def gk (r:Nat):Res:=.blk r (.deferred (some []))
def SR (κ:Ctx) (φ:List Res) (g:Nat→Nat) (s:St) (a:Act) (w:World):Prop :=
 ∃ ds:List Nat,a.defers=ds.map kF++s.df∧(s.fr=true→ds=[])∧Rel κ g (φ++(ds.map gk++s.σ)) w∧TR g w s.t a.tmps
def FD:Option Nat→Fence
 | none=>Fence.wide
 | some l=>Fence.wide.inRound l
inductive Ret where
 | ret (x:AV)
 | pan (c:List PanicEntry)
def ER (g:Nat→Nat) (w:World):Ret→Ending→Prop
 | .ret x,.returned v=>VR g w x v
 | .pan c,.panicked c'=>c'=c
 | _,_=>False
def fL (κ:Ctx) (φ:List Res) (g:Nat→Nat) (w:World) (K:Ret→List Res→Prop) (e:Ending) (w':World):Prop :=
 ∃ g' σ' r,Rel κ g' (φ++σ') w'∧GE g w g' w'∧ER g' w' r e∧K r σ'
def ACallF (κ:Ctx) (P:Program) (f:FuncId) (args:List AV) (σ:List Res) (K:Ret→List Res→Prop):Prop :=
 ∀ (φ:List Res) (g:Nat→Nat) (w:World) (vs:Array Value),Rel κ g (φ++σ) w→TR g w args vs→CallsIn Fence.wide 0 P f vs w (fL κ φ g w K)
def ACallY (κ:Ctx) (P:Program) (l:Nat) (args:List AV) (σ:List Res) (K:Ret→List Res→Prop):Prop :=
 ∀ (φ:List Res) (g:Nat→Nat) (w:World) (vs:Array Value),Rel κ g (φ++σ) w→TR g w args vs →
  ∃ f tmps assign body,(Instr.yield l vs).run P w=.ok (.round l f tmps assign body) w∧RoundIn Fence.wide 0 P l f tmps assign body w (fL κ φ g w K)
def il (κ:Ctx) (P:Program) (f:AV) (args:List AV) (σ:List Res) (K:Ret→List Res→Prop):Prop :=
 match f with
 | .raw (.func (.func f) first cap) => (∃ fn, P.funcs[f]? = some fn ∧ (fn.name == "runtime.NumGoroutine") = false ∧ fn.body.isNone = false) ∧ ACallF κ P f (first.toList.map .raw ++ args ++ cap.toList.map .raw) σ K
 | .raw (.func (.yield l) first _)=>ACallY κ P l (first.toList.map .raw++args) σ K
 | _=>False
inductive MA where
 | load (t:TypeId)
 | store (t:TypeId)
 | new (t:TypeId)
 | box (t:TypeId)
 | append (st:TypeId)
 | bslice (t:TypeId) (n:Nat) (ix:List Nat)
 | build (t:TypeId) (ix:List Nat)
 | bin (op:BinOp) (t:TypeId)
 | conv (src dst:TypeId)
 | slice (t:TypeId) (lo hi mx:Bool)
 | indexAddr (t:TypeId)
 | index (t:TypeId)
 | fieldAddr (t:TypeId) (f:Nat)
 | field (t:TypeId) (f:Nat)
 | mkslice (t:TypeId)
 | copy (ts:Array TypeId) (t:TypeId)
 | len (t:TypeId)
 | cap (t:TypeId)
 | lookup (t:TypeId) (ok:Bool)
 | mapUpdate (t:TypeId)
 | makeMap (t:TypeId)
 | typeAssert (xt at_:TypeId) (ok:Bool)
 | range (t:TypeId)
 | next (str:Bool) (t:TypeId)
 | makeIface (t:TypeId)
 | minmax (mx:Bool) (ts:Array TypeId) (t:TypeId)
def nth (vs:List Value) (k:Nat):Value:=vs.getD k undef
def MA.sem (m:MA) (vs:List Value):Sem Value :=
 match m with
 | .load t=>Instr.loadAt t (nth vs 0)
 | .store t=>do Instr.storeAt t (nth vs 0) (nth vs 1);pure undef
 | .new t=>Instr.alloc t true (.tuple #[])
 | .box t=>Instr.box t (nth vs 0)
 | .append st=>Builtin.append_ #[st,st] st #[nth vs 0,nth vs 1]
 | .bslice t n ix=>Instr.buildSlice t n (ix.zip vs).toArray
 | .build t ix=>Instr.build t (ix.zip vs).toArray
 | .bin op t=>binOp op t (nth vs 0) (nth vs 1)
 | .conv s d=>convert s d (nth vs 0)
 | .slice t lo hi mx=>Instr.sliceAt t (nth vs 0) (if lo then some (nth vs 1) else none) (if hi then some (nth vs 2) else none) (if mx then some (nth vs 3) else none)
 | .indexAddr t=>Instr.indexAt t (nth vs 0) (nth vs 1)
 | .index t=>Instr.index t (nth vs 0) (nth vs 1)
 | .fieldAddr t f=>Instr.fieldAt t (nth vs 0) f
 | .field t f=>Instr.field t (nth vs 0) f
 | .mkslice t=>Instr.makeSlice t (nth vs 0) (nth vs 1)
 | .copy ts t=>Builtin.copy_ ts t #[nth vs 0,nth vs 1]
 | .len t=>Builtin.len_ #[t] t #[nth vs 0]
 | .cap t=>Builtin.cap_ #[t] t #[nth vs 0]
 | .lookup t ok=>Instr.lookup t (nth vs 0) (nth vs 1) ok
 | .mapUpdate t=>do Instr.mapUpdate t (nth vs 0) (nth vs 1) (nth vs 2);pure undef
 | .makeMap t=>Instr.makeMap t none
 | .typeAssert xt at_ ok=>Instr.typeAssert (nth vs 0) xt at_ ok
 | .range t=>Instr.range t (nth vs 0)
 | .next str t=>Instr.next (nth vs 0) str t
 | .makeIface t=>Instr.makeInterface t (nth vs 0)
 | .minmax mx ts t=>if mx then Builtin.max_ ts t vs.toArray else Builtin.min_ ts t vs.toArray
def AAct (κ:Ctx) (P:Program) (m:MA) (xs:List AV) (σ:List Res) (K:AV→List Res→Prop):Prop :=
 ∀ (φ:List Res) (g:Nat→Nat) (w:World) (vs:List Value),Rel κ g (φ++σ) w→TR g w xs vs.toArray →
  ∃ v w' g' x σ',(m.sem vs).run P w=.ok v w'∧Rel κ g' (φ++σ') w'∧GE g w g' w'∧VR g' w' x v∧K x σ'
def Aj (K:AV→List Res→Prop) (KP:List PanicEntry→List Res→Prop) (r:Ret) (σ:List Res):Prop:=match r with | .ret x=>K x σ | .pan c=>KP c σ
def actM (κ:Ctx) (dm:Bool) (P:Program) (m:MA) (xs:List AV) (σ:List Res) (K:AV→List Res→Prop):Prop :=
 match dm with
 | false=>AAct κ P m xs σ K
 | true=>∃ x,AAct κ P m xs σ (fun y σ'=>y=x∧σ'=σ)∧K x σ
def callM (κ:Ctx) (dm:Bool) (P:Program) (f:AV) (xs:List AV) (σ:List Res) (K:AV→List Res→Prop) (KP:List PanicEntry→List Res→Prop):Prop :=
 match dm with
 | false=>il κ P f xs σ (Aj K KP)
 | true=>∃ x,il κ P f xs σ (fun r σ'=>r=.ret x∧σ'=σ)∧K x σ
def p5 (b:Bool) (X Y:Prop):Prop:=(b=true→X)∧(b=false→Y)
/-! ### Pure operations -/
def ay (op:BinOp) (k:IntKind) (a b:Int):Option Value :=
 match op with
 | .add=>some (.int k (k.wrap (a+b)))
 | .sub=>some (.int k (k.wrap (a - b)))
 | .mul=>some (.int k (k.wrap (a * b)))
 | .quo=>if b=0 then none else some (.int k (k.wrap (a.tdiv b)))
 | .rem=>if b=0 then none else some (.int k (a.tmod b))
 | .and=>some (.int k (k.wrap (BitVec.ofInt k.bits a &&& BitVec.ofInt k.bits b).toNat))
 | .or=>some (.int k (k.wrap (BitVec.ofInt k.bits a ||| BitVec.ofInt k.bits b).toNat))
 | .xor=>some (.int k (k.wrap (BitVec.ofInt k.bits a ^^^ BitVec.ofInt k.bits b).toNat))
 | .eql=>some (.bool (a == b))
 | .neq=>some (.bool (a != b))
 | .lss=>some (.bool (decide (a < b)))
 | .leq=>some (.bool (decide (a≤b)))
 | .gtr=>some (.bool (decide (a > b)))
 | .geq=>some (.bool (decide (a ≥ b)))
 | _=>none
def Ow (op:BinOp) (k:IntKind) (a b:Int):Option Value :=
 if b < 0 then none else
 match op with
 | .shl=>some (.int k (k.wrap (a * 2 ^ (min b.toNat k.bits))))
 | .shr=>some (.int k (a.fdiv (2 ^ (min b.toNat k.bits))))
 | _=>none
def dx (op:BinOp) (x y:ByteArray):Option Value :=
 match op with
 | .add=>if ((x.size+y.size:Nat):Int) > IntKind.i64.max then none else some (.string (x++y))
 | .eql=>some (.bool (x.toList == y.toList))
 | .neq=>some (.bool (!(x.toList == y.toList)))
 | .lss=>some (.bool (Op.bytesLess x.toList y.toList))
 | _=>none
def Rz (v:Option Value) (K:AV→Prop):Prop :=
 match v with
 | some v=>K (.raw v)
 | none=>False
def mn (κ:Ctx) (dm:Bool) (P:Program) (op:BinOp) (t:TypeId) (x y:AV) (σ:List Res) (K:AV→List Res→Prop):Prop :=
 match x,y with
 | .raw (.int k a),.raw (.int k' b) =>
  match op with
  | .shl | .shr=>Rz (Ow op k a b) fun v=>K v σ
  | _=>k=k'∧Rz (ay op k a b) fun v=>K v σ
 | .raw (.string a),.raw (.string b)=>Rz (dx op a b) fun v=>K v σ
 | .raw (.bool a),.raw (.bool b) =>
  match op with
  | .eql=>(P.underlying t=some .bool)∧K (B (a == b)) σ
  | .neq=>(P.underlying t=some .bool)∧K (B (!(a == b))) σ
  | _=>False
 | .sl _ _ l,.raw (.slice none 0 0) =>
  match op with
  | .eql=>(jg P t).isSome=true∧((0 < l.length∧K (B false) σ)∨(dm=false∧l.length=0∧∀ b,K (B b) σ))
  | .neq=>(jg P t).isSome=true∧((0 < l.length∧K (B true) σ)∨(dm=false∧l.length=0∧∀ b,K (B b) σ))
  | _=>False
 | .raw (.slice none 0 0),.raw (.slice none 0 0) =>
  match op with
  | .eql=>(jg P t).isSome=true∧K (B true) σ
  | .neq=>(jg P t).isSome=true∧K (B false) σ
  | _=>False
 | x,y=>actM κ dm P (.bin op t) [x,y] σ K
def Yp (op:UnOp) (x:AV) (K:AV→Prop):Prop :=
 match op,x with
 | .not,.raw (.bool b)=>K (B (!b))
 | .neg,.raw (.int k n)=>K (.raw (.int k (k.wrap (0 - n))))
 | _,_=>False
def E4 (c a b:AV) (K:AV→Prop):Prop :=
 match c with
 | .raw (.bool c)=>K (if c then a else b)
 | _=>False
def OF (x:AV) (i:Nat) (K:AV→Prop):Prop :=
 match x with
 | .tup l=>i < l.length∧K (l.getD i .any)
 | _=>False
def DW (κ:Ctx) (dm:Bool) (P:Program) (t:TypeId) (x:AV) (σ:List Res) (K:AV→List Res→Prop):Prop :=
 match x with
 | .sl _ _ l=>(jg P t).isSome=true∧K (I l.length) σ
 | .raw (.slice _ n _)=>(jg P t).isSome=true∧K (I n) σ
 | .raw (.string s)=>isStr P t=true∧K (I s.size) σ
 | x=>actM κ dm P (.len t) [x] σ K
def uT (κ:Ctx) (dm:Bool) (P:Program) (t:TypeId) (x:AV) (σ:List Res) (K:AV→List Res→Prop):Prop :=
 match x with
 | .cp l =>
  match aggT P t,dj P t with
  | some true,some n=>n≤l.length∧K (.agg (l.take n)) σ
  | some false,some _=>0 < l.length∧K (l.getD 0 .any) σ
  | _,_=>False
 | x=>actM κ dm P (.load t) [x] σ K
def eo (κ:Ctx) (dm:Bool) (P:Program) (t:TypeId) (x:AV) (f:Nat) (σ:List Res) (K:AV→List Res→Prop):Prop :=
 match x with
 | .cp l =>
  match cH P t f with
  | some (off,ft)=>(∃ n,dj P ft=some (n+1))∧off≤l.length∧K (.cp (l.drop off)) σ
  | none=>False
 | .raw (.pointer (some ⟨b,o,none⟩)) =>
  match cH P t f with
  | some (off,ft)=>(∃ n,dj P ft=some (n+1))∧K (.raw (.pointer (some ⟨b,o+off,none⟩))) σ
  | none=>False
 | x=>actM κ dm P (.fieldAddr t f) [x] σ K
def mh (κ:Ctx) (dm:Bool) (P:Program) (t:TypeId) (x:AV) (f:Nat) (σ:List Res) (K:AV→List Res→Prop):Prop :=
 match x with
 | .agg l =>
  match cH P t f with
  | some (off,ft) =>
   match aggT P ft,dj P ft with
   | some true,some n=>K (.agg ((l.drop off).take n)) σ
   | some false,some _=>off < l.length∧K (l.getD off .any) σ
   | _,_=>False
  | none=>False
 | x=>actM κ dm P (.field t f) [x] σ K
def Cd (κ:Ctx) (dm:Bool) (P:Program) (t:TypeId) (x i:AV) (σ:List Res) (K:AV→List Res→Prop):Prop :=
 match x,i with
 | .sl sz _ l,.raw (.int _ i)=>(∃ e,jg P t=some e∧dj P e=some sz)∧0≤i∧i < l.length∧K (.cp (l.getD i.toNat .any).cells) σ
 | x,i=>actM κ dm P (.indexAddr t) [x,i] σ K
def ln (κ:Ctx) (dm:Bool) (P:Program) (t:TypeId) (x i:AV) (σ:List Res) (K:AV→List Res→Prop):Prop :=
 match x,i with
 | .raw (.string s),.raw (.int _ i)=>isStr P t=true∧0≤i∧i < s.size∧K (.raw (.int .u8 (s.data.toList.getD i.toNat 0).toNat)) σ
 | x,i=>actM κ dm P (.index t) [x,i] σ K
def E2:Option AV→Option Int
 | none=>some 0
 | some (.raw (.int _ i))=>some i
 | _=>none
def FU (n:Nat):Option AV→Option Int
 | none=>some n
 | some (.raw (.int _ i))=>some i
 | _=>none
def oH (κ:Ctx) (dm:Bool) (P:Program) (t:TypeId) (x:AV) (lo hi mx:Option AV) (σ:List Res) (K:AV→List Res→Prop):Prop :=
 match x,mx with
 | .sl sz _ l,none =>
  match E2 lo,FU l.length hi with
  | some a,some b=>(∃ e,jg P t=some e∧dj P e=some sz)∧0≤a∧a≤b∧b≤l.length∧K (.sl sz none ((l.take b.toNat).drop a.toNat)) σ
  | _,_=>False
 | .raw (.slice none 0 0),none =>
  match E2 lo,FU 0 hi with
  | some a,some b=>(∃ e n,jg P t=some e∧dj P e=some n)∧a=0∧b=0∧K nilS σ
  | _,_=>False
 | .raw (.string s),none =>
  match E2 lo,FU s.size hi with
  | some a,some b=>isStr P t=true∧0≤a∧a≤b∧b≤s.size∧K (.raw (.string (s.extract a.toNat b.toNat))) σ
  | _,_=>False
 | x,mx=>actM κ dm P (.slice t lo.isSome hi.isSome mx.isSome) [x,lo.getD .any,hi.getD .any,mx.getD .any] σ K
def rz (κ:Ctx) (dm:Bool) (P:Program) (src dst:TypeId) (x:AV) (σ:List Res) (K:AV→List Res→Prop):Prop :=
 match x with
 | .raw (.int k n) =>
  match mo P dst with
  | some k'=>(P.underlying src).isSome=true∧K (.raw (.int k' (k'.wrap n))) σ
  | none=>actM κ dm P (.conv src dst) [.raw (.int k n)] σ K
 | x=>actM κ dm P (.conv src dst) [x] σ K
def Xb:AV→Option Value
 | .raw v=>some v
 | _=>none
def OE (xs:List AV):Option (List Value):=xs.mapM Xb
def sg (fn:Fn) (first cap:List AV) (K:AV→Prop):Prop :=
 match OE first,OE cap with
 | some f,some c=>K (.raw (.func fn f.toArray c.toArray))
 | _,_=>False
def OV (x:AV) (KP:List PanicEntry→Prop):Prop :=
 match x with
 | .raw (.iface t v)=>KP [{ v:=.iface t v,recovered:=false }]
 | _=>False
def Pn (x:AV) (K:AV→Prop):Prop :=
 match x with
 | .cp l=>K (.cp l)
 | .raw (.pointer (some a))=>K (.raw (.pointer (some a)))
 | .raw (.func (.func f) a b)=>K (.raw (.func (.func f) a b))
 | .raw (.func (.yield f) a b)=>K (.raw (.func (.yield f) a b))
 | _=>False
def ia:AV→Bool
 | .raw .nilIface=>false
 | .raw (.agg _)=>false
 | .any=>false
 | .agg _=>false
 | _=>true
def IU:AV→Bool
 | .agg _=>true
 | _=>false
def jT (P:Program) (t:TypeId) (x y:AV):Bool:=ia x || ia y || (IU x && IU y && !(P.eqGuardType P.depth t))
def eZ (κ:Ctx) (dm:Bool) (P:Program) (o:Oper) (s:St) (K:AV→List Res→Prop) (KP:List PanicEntry→List Res→Prop):Prop :=
 match o.op with
 | .move x=>K (s.ev x) s.σ
 | .assign x=>K (s.ev x) s.σ
 | .pick c a b=>E4 (s.ev c) (s.ev a) (s.ev b) fun x=>K x s.σ
 | .binOp op t x y _=>jT P t (s.ev x) (s.ev y)=true∧mn κ dm P op t (s.ev x) (s.ev y) s.σ K
 | .unOp op _ x=>Yp op (s.ev x) fun x=>K x s.σ
 | .extract x i=>OF (s.ev x) i fun x=>K x s.σ
 | .load t x=>uT κ dm P t (s.ev x) s.σ K
 | .store t a x=>actM κ dm P (.store t) [s.ev a,s.ev x] s.σ fun _ σ'=>K .any σ'
 | .alloc t=>actM κ dm P (.new t) [] s.σ K
 | .box t x=>actM κ dm P (.box t) [s.ev x] s.σ K
 | .build t ps=>actM κ dm P (.build t (ps.toList.map (·.1))) (ps.toList.map fun p=>s.ev p.2) s.σ K
 | .buildSlice t n ps=>actM κ dm P (.bslice t n (ps.toList.map (·.1))) (ps.toList.map fun p=>s.ev p.2) s.σ K
 | .fieldAddr t x f=>eo κ dm P t (s.ev x) f s.σ K
 | .field t x f=>mh κ dm P t (s.ev x) f s.σ K
 | .indexAddr t x i=>Cd κ dm P t (s.ev x) (s.ev i) s.σ K
 | .index t x i=>ln κ dm P t (s.ev x) (s.ev i) s.σ K
 | .slice t x lo hi mx=>oH κ dm P t (s.ev x) (lo.map s.ev) (hi.map s.ev) (mx.map s.ev) s.σ K
 | .convert src dst x=>rz κ dm P src dst (s.ev x) s.σ K
 | .makeFunc fn first cap=>sg fn (first.toList.map s.ev) (cap.toList.map s.ev) fun x=>K x s.σ
 | .makeSlice t n c=>actM κ dm P (.mkslice t) [s.ev n,s.ev c] s.σ K
 | .lookup t x i ok=>actM κ dm P (.lookup t ok) [s.ev x,s.ev i] s.σ K
 | .mapUpdate t m k x=>actM κ dm P (.mapUpdate t) [s.ev m,s.ev k,s.ev x] s.σ fun _ σ'=>K .any σ'
 | .makeMap t none=>actM κ dm P (.makeMap t) [] s.σ K
 | .typeAssert x xt at_ ok=>actM κ dm P (.typeAssert xt at_ ok) [s.ev x] s.σ K
 | .range t x=>actM κ dm P (.range t) [s.ev x] s.σ K
 | .next it str=>actM κ dm P (.next str o.type) [s.ev it] s.σ K
 | .makeInterface t x=>actM κ dm P (.makeIface t) [s.ev x] s.σ K
 | .nilCheck x=>Pn (s.ev x) fun x=>K x s.σ
 | .panic x=>OV (s.ev x) fun c=>KP c s.σ
 | .call { callee:=.value f,args:=xs,.. }=>callM κ dm P (s.ev f) (xs.toList.map s.ev) s.σ K KP
 | .call { callee:=.builtin .len,args:=xs,argTypes:=ts }=>ts.size=1∧xs.size=1∧DW κ dm P (ts.getD 0 0) (s.ev (xs.getD 0 (.tmp 0))) s.σ K
 | .call { callee:=.builtin .cap,args:=xs,argTypes:=ts }=>ts.size=1∧xs.size=1∧actM κ dm P (.cap (ts.getD 0 0)) [s.ev (xs.getD 0 (.tmp 0))] s.σ K
 | .call { callee:=.builtin .append,args:=xs,argTypes:=ts }=>ts.size=2∧xs.size=2∧ts.getD 0 0=ts.getD 1 0∧actM κ dm P (.append (ts.getD 0 0)) [s.ev (xs.getD 0 (.tmp 0)),s.ev (xs.getD 1 (.tmp 0))] s.σ K
 | .call { callee:=.builtin .copy,args:=xs,argTypes:=ts }=>xs.size=2∧actM κ dm P (.copy ts o.type) [s.ev (xs.getD 0 (.tmp 0)),s.ev (xs.getD 1 (.tmp 0))] s.σ K
 | .call { callee:=.builtin .max,args:=xs,argTypes:=ts }=>actM κ dm P (.minmax true ts o.type) (xs.toList.map s.ev) s.σ K
 | .call { callee:=.builtin .min,args:=xs,argTypes:=ts }=>actM κ dm P (.minmax false ts o.type) (xs.toList.map s.ev) s.σ K
 | _=>False
def de (all:List Oper) (o:Oper) (s:St) (X Y:Prop):Prop :=
 match o.guard with
 | none=>X
 | some (j,want) =>
  match (all[j]?).bind (·.dst) with
  | some d =>
   match s.t.getD d .any with
   | .raw (.bool b)=>p5 (b == want) X Y
   | .raw (.tuple _)=>Y
   | _=>False
  | none=>False
def bA (κ:Ctx) (dm:Bool) (P:Program) (all:List Oper) (Q:Exit→St→Prop):List Oper→St→Prop
 | [],s=>Q .normal s
 | o::rest,s=>de all o s
   (eZ κ dm P o s (fun x σ'=>bA κ dm P all Q rest { s with t:=bP s.t o.dst x,σ:=σ' }) (fun c σ'=>Q (.panic c) { s with σ:=σ' }))
   (bA κ dm P all Q rest { s with t:=bP s.t o.dst U })
/-! ### Weaker states -/
def AV.le (x y:AV):Prop:=y=.any∨y=x∨(∃ sz o l,x=.sl sz o l∧y=.sl sz none l)∨∃ sz o,x=nilS∧0 < sz∧y=.sl sz o []
structure St.le (s s':St):Prop where
 len:s'.t.length=s.t.length
 get:∀ (k:Nat) (x y:AV),s.t[k]? = some x→s'.t[k]? = some y→x.le y
 res:ResW s.σ s'.σ
 fr:s'.fr=true→s.fr=true
 df:s'.df=s.df
def eY (N:St→Prop) (Q:Exit→St→Prop):Exit→St→Prop
 | .normal,s=>N s
 | e,s=>Q e s
def gu (id:Nat) (Q:Exit→St→Prop):Exit→St→Prop
 | .exit id',s=>if id'=id then Q .normal s else Q (.exit id') s
 | e,s=>Q e s
def Post (κ:Ctx) (φ:List Res) (g:Nat→Nat) (w:World) (Q:Exit→St→Prop):Exit→Act→World→Prop :=
 fun e a' w'=>∃ g' s',SR κ φ g' s' a' w'∧GE g w g' w'∧Q e s'
def AW (κ:Ctx) (rd:Option Nat) (P:Program) (c:Code) (Q:Exit→St→Prop) (s:St):Prop :=
 ∀ φ g a w,SR κ φ g s a w→c.wpIn (FD rd) 0 P (Post κ φ g w Q) a w
def Qj (body:(Exit→St→Prop)→St→Prop) (Q:Exit→St→Prop) (s:St):Prop :=
 ∃ (X:Type) (st:X→St) (C:X→Prop) (μ:X→Nat) (x0:X),s.le (st x0)∧C x0∧∀ x,C x→body (eY (fun s'=>∃ y,s'.le (st y)∧C y∧μ y < μ x) Q) (st x)
def run (κ:Ctx) (P:Program) (rd:Option Nat):Code→(Exit→St→Prop)→St→Prop
 | .skip,Q,s=>Q .normal s
 | .label _,Q,s=>Q .normal s
 | .seq a b,Q,s=>run κ P rd a (eY (run κ P rd b Q) Q) s
 | .cond c x y,Q,s=>match s.ev c with | .raw (.bool b)=>p5 b (run κ P rd x Q s) (run κ P rd y Q s)|_=>False
 | .block id c,Q,s=>run κ P rd c (gu id Q) s
 | .loop c,Q,s=>Qj (run κ P rd c) Q s
 | .region _ ops false,Q,s=>bA κ false P ops.toList Q ops.toList s
 | .exit id,Q,s=>Q (.exit id) s
 | .ret,Q,s=>Q .ret s
 | c,Q,s=>AW κ rd P c Q s
def Does (κ:Ctx) (P:Program) (φ σ0:List Res) (g:Nat→Nat) (w:World) (sem:Sem Value) (K:AV→List Res→Prop):Prop :=
 Rel κ g (φ++σ0) w→∃ v w' g' x σ',sem.run P w=.ok v w'∧Rel κ g' (φ++σ') w'∧GE g w g' w'∧VR g' w' x v∧K x σ'
section
variable {κ:Ctx} {P:Program} {φ σ:List Res} {g:Nat→Nat} {w:World} {K:AV→List Res→Prop}
theorem Does.pure {sem:Sem Value}{v:Value}{x:AV} (h:sem.run P w=.ok v w) (hv:VR g w x v) (hk:K x σ):Does κ P φ σ g w sem K :=
 fun hR=>⟨v,w,g,x,σ,h,hR,GE.refl _ _,hv,hk⟩
theorem actM.act {dm:Bool}{m:MA}{xs:List AV} (h:actM κ dm P m xs σ K):AAct κ P m xs σ K:=by
 cases dm with
 | false=>exact h
 | true =>
  obtain ⟨x,h1,h2⟩:=h;intro φ g w vs hR hv;obtain ⟨v,w',g',y,σ',a,b,c,d,rfl,rfl⟩:=h1 φ g w vs hR hv;exact ⟨v,w',g',_,_,a,b,c,d,h2⟩
theorem Does.of_act {dm:Bool}{m:MA}{xs:List AV}{vs:List Value} (h:actM κ dm P m xs σ K) (hv:TR g w xs vs.toArray) {sem:Sem Value} (e:m.sem vs=sem):Does κ P φ σ g w sem K :=
 fun hR=>e ▸ h.act φ g w vs hR hv
theorem TR.nil:TR g w [] #[]:=⟨rfl,fun k x h=>by simp at h⟩
theorem TR.one {x:AV}{v:Value} (h:VR g w x v):TR g w [x] #[v]:=⟨rfl,fun k y hk=>by
 cases k with
 | zero=>simp at hk;subst hk;exact h
 | succ k=>simp at hk⟩
theorem TR.two {x y:AV}{v u:Value} (h:VR g w x v) (h2:VR g w y u):TR g w [x,y] #[v,u]:=⟨rfl,fun k z hk=>by
 match k,hk with
 | 0,hk=>simp at hk;subst hk;exact h
 | 1,hk=>simp at hk;subst hk;exact h2⟩
theorem TR.cons {x:AV}{v:Value}{xs:List AV}{vs:List Value} (h:VR g w x v) (h2:TR g w xs vs.toArray):TR g w (x::xs) (v::vs).toArray:=⟨by simp [← h2.size],fun k z hk=>by
 cases k with
 | zero=>simp at hk;subst hk;simpa using h
 | succ k=>simp at hk;have:=h2.get k z hk;simpa [Array.getD_eq_getD_getElem?] using this⟩
theorem VR.raw_eq {v u:Value} (h:VR g w (.raw v) u):u=v:=by cases h;rfl
theorem dI {t:TypeId}{n:Nat} (h:dj P t=some n) (w:World):(sizeOf t).run P w=.ok n w:=by
 unfold dj at h;cases hi:P.info? t with
 | none=>simp [hi] at h
 | some i=>simp [hi] at h;simp [sizeOf,typeInfo,hi,h]
theorem kJ {t:TypeId}{i:TypeInfo} (h:P.info? t=some i) (w:World):(typeInfo t).run P w=.ok i w:=by simp [typeInfo,h]
theorem bE {t:TypeId}{d:TypeDesc} (h:P.underlying t=some d) (w:World):(underlying t).run P w=.ok d w:=run_underlying h w
theorem aR {t e:TypeId} (h:jg P t=some e):P.underlying t=some (.slice e):=by
 unfold jg at h;split at h
 ·rename_i h';cases h;exact h'
 ·cases h
theorem eC {t:TypeId} (h:isStr P t=true):P.underlying t=some .string:=by
 unfold isStr at h;split at h
 ·assumption
 ·cases h
theorem iE {t:TypeId}{k:IntKind} (h:mo P t=some k):P.underlying t=some (.int k):=by
 unfold mo at h;split at h
 ·rename_i h';cases h;exact h'
 ·cases h
theorem dC {t:TypeId}{b:Bool} (h:aggT P t=some b) (w:World):(isAgg t).run P w=.ok b w:=by
 unfold aggT at h;cases hu:P.underlying t with
 | none=>simp [hu] at h
 | some d =>
  simp [hu] at h;simp only [isAgg,Sem.run_bind,bE hu,Result.andThen_ok];cases d<;>simp [V8] at h<;>simp [h]
theorem mP {t:TypeId}{f off:Nat}{ft:TypeId} (h:cH P t f=some (off,ft)):∃ fs x,P.underlying t=some (.struct fs)∧fs[f]? = some x∧x.offset=off∧x.type=ft:=by
 unfold cH at h;split at h
 ·rename_i fs h'
  cases hx:fs[f]? with
  | none=>simp [hx] at h
  | some x=>simp [hx] at h;exact ⟨fs,x,h',hx,h.1,h.2⟩
 ·cases h
theorem VR.cp_inv {l:List AV}{v:Value} (h:VR g w (.cp l) v):∃ b off,v=.pointer (some ⟨b,off,none⟩)∧off+l.length≤g b∧∀ (k:Nat) (y:AV),l[k]? = some y→∃ u,w.cell? ⟨b,off+k,none⟩=some u∧VR g w y u:=by
 cases h with
 | cp u hr hv hg=>exact ⟨_,_,rfl,hg,fun k y hk=>⟨u k,hr k y hk,hv k y hk⟩⟩
theorem VR.cp_mk {l:List AV}{b off:Nat} (hg:off+l.length≤g b) (h:∀ (k:Nat) (y:AV),l[k]? = some y→∃ u,w.cell? ⟨b,off+k,none⟩=some u∧VR g w y u):VR g w (.cp l) (.pointer (some ⟨b,off,none⟩)):=by
 refine .cp (fun k=>(w.cell? ⟨b,off+k,none⟩).getD undef) (fun k y hk=>?_) (fun k y hk=>?_) hg
 ·obtain ⟨u,h1,h2⟩:=h k y hk;simp [h1]
 ·obtain ⟨u,h1,h2⟩:=h k y hk;simpa [h1] using h2
theorem ig (b off n:Nat) (h:∀ j,j < n→∃ u,w.cell? ⟨b,off+j,none⟩=some u) :
  ∃ arr:Array Value,(loadCells ⟨b,off,none⟩ n).run P w=.ok arr w∧arr.size=n∧∀ j,j < n→w.cell? ⟨b,off+j,none⟩=some (arr.getD j undef):=by
 have h1:=run_loadCells (P:=P) (w:=w) ⟨b,off,none⟩ n (fun j=>(w.cell? ⟨b,off+j,none⟩).getD undef) (fun j hj=>by
  obtain ⟨u,hu⟩:=h j hj;rw [Addr.add_lit,hu];rfl)
 refine ⟨_,h1,by simp,fun j hj=>?_⟩;obtain ⟨u,hu⟩:=h j hj;simp [hu,hj]
theorem BJ {dm:Bool}{t:TypeId}{x:AV}{v:Value} (h:uT κ dm P t x σ K) (hv:VR g w x v):Does κ P φ σ g w (Instr.loadAt t v) K:=by
 unfold uT at h;split at h
 ·rename_i l
  obtain ⟨b,off,rfl,hg,hc⟩:=hv.cp_inv;split at h
  ·rename_i n ha hn
   obtain ⟨hle,hk⟩:=h;obtain ⟨arr,h1,h2,h3⟩:=ig (P:=P) (w:=w) b off n (fun j hj=>by
    have:l[j]? = some (l[j]'(by omega)):=List.getElem?_eq_getElem (by omega)
    obtain ⟨u,hu,_⟩:=hc j _ this;exact ⟨u,hu⟩)
   refine Does.pure (v:=.agg arr) (x:=.agg (l.take n)) ?_ ?_ hk
   ·simp [Instr.loadAt,Instr.sureAddr,loadVar,dC ha,dI hn,h1]
   ·refine .agg arr (by simp [h2];omega) (fun k y hk'=>?_)
    have hkn:k < n:=by have:=aL hk';simp at this;omega
    rw [List.getElem?_take_of_lt hkn] at hk';obtain ⟨u,hu,hy⟩:=hc k y hk';have:=h3 k hkn
    rw [hu] at this;cases this
    exact hy
  ·rename_i n ha hn
   obtain ⟨hle,hk⟩:=h;have h0:l[0]? = some (l[0]'(by omega)):=List.getElem?_eq_getElem (by omega)
   obtain ⟨u,hu,hy⟩:=hc 0 _ h0;refine Does.pure (v:=u) (x:=l.getD 0 .any) ?_ ?_ hk
   ·have hu':w.cell? ⟨b,off,none⟩=some u:=hu
    simp [Instr.loadAt,Instr.sureAddr,loadVar,dC ha,hu']
   ·simpa [List.getD_eq_getElem?_getD,h0] using hy
  ·exact h.elim
 ·exact Does.of_act h (TR.one hv) rfl
theorem nk {a:Addr}{f:Field}{n:Nat} (hn:dj P f.type=some (n+1)):(fieldPlace a f).run P w=.ok (a.add f.offset) w:=by
 simp [fieldPlace,dI hn]
theorem q9 {dm:Bool}{t:TypeId}{x:AV}{f:Nat}{v:Value} (h:eo κ dm P t x f σ K) (hv:VR g w x v):Does κ P φ σ g w (Instr.fieldAt t v f) K:=by
 unfold eo at h;split at h
 ·rename_i l
  obtain ⟨b,off,rfl,hg,hc⟩:=hv.cp_inv;split at h
  ·rename_i fo ft hf
   obtain ⟨⟨n,hn⟩,hle,hk⟩:=h;obtain ⟨fs,y,hu,hy,rfl,rfl⟩:=mP hf;refine Does.pure (v:=.pointer (some ⟨b,off+y.offset,none⟩)) (x:=.cp (l.drop y.offset)) ?_ ?_ hk
   ·simp [Instr.fieldAt,Instr.sureAddr,bE hu,hy,nk hn,Addr.add_lit]
   ·refine VR.cp_mk (by simp;omega) (fun k z hz=>?_)
    rw [List.getElem?_drop] at hz;obtain ⟨u,h1,h2⟩:=hc _ z hz;exact ⟨u,by rw [← h1];congr 2;omega,h2⟩
  ·exact h.elim
 ·rename_i b o
  cases hv.raw_eq
  split at h
  ·rename_i fo ft hf
   obtain ⟨⟨n,hn⟩,hk⟩:=h;obtain ⟨fs,y,hu,hy,rfl,rfl⟩:=mP hf;refine Does.pure (v:=.pointer (some ⟨b,o+y.offset,none⟩)) (x:=.raw (.pointer (some ⟨b,o+y.offset,none⟩))) ?_ (.raw _) hk;simp [Instr.fieldAt,Instr.sureAddr,bE hu,hy,nk hn,Addr.add_lit]
  ·exact h.elim
 ·exact Does.of_act h (TR.one hv) rfl
theorem yR {dm:Bool}{t:TypeId}{x:AV}{f:Nat}{v:Value} (h:mh κ dm P t x f σ K) (hv:VR g w x v):Does κ P φ σ g w (Instr.field t v f) K:=by
 unfold mh at h;split at h
 ·rename_i l
  cases hv with
  | agg vs hs hv =>
  split at h
  ·rename_i fo ft hf
   obtain ⟨fs,y,hu,hy,rfl,rfl⟩:=mP hf;split at h
   ·rename_i n ha hn
    refine Does.pure (v:=.agg (vs.extract y.offset (y.offset+n))) (x:=.agg ((l.drop y.offset).take n)) ?_ ?_ h
    ·simp [Instr.field,bE hu,hy,asAgg,part,dC ha,dI hn]
    ·refine .agg _ (by simp [hs];omega) (fun k z hz=>?_)
     have hkn:k < n:=by have:=aL hz;simp at this;omega
     rw [List.getElem?_take_of_lt hkn,List.getElem?_drop] at hz;have hlt:=aL hz
     have:=hv _ z hz
     have e:(vs.extract y.offset (y.offset+n)).getD k undef=vs.getD (y.offset+k) undef:=by
      simp only [Array.getD_eq_getD_getElem?,Array.getElem?_extract];rw [if_pos (by omega)]
     rw [e];exact this
   ·rename_i n ha hn
    obtain ⟨hlt,hk⟩:=h;have h0:l[y.offset]? = some (l[y.offset]'hlt):=List.getElem?_eq_getElem hlt
    have hv0:=hv _ _ h0
    have hsz:y.offset < vs.size:=by omega
    refine Does.pure (v:=vs.getD y.offset undef) (x:=l.getD y.offset .any) ?_ ?_ hk
    ·simp [Instr.field,bE hu,hy,asAgg,part,dC ha,Array.getElem?_eq_getElem hsz]
    ·simpa [List.getD_eq_getElem?_getD,h0] using hv0
   ·exact h.elim
  ·exact h.elim
 ·exact Does.of_act h (TR.one hv) rfl
theorem Di {dm:Bool}{t:TypeId}{x:AV}{v:Value} (ty:TypeId) (h:DW κ dm P t x σ K) (hv:VR g w x v):Does κ P φ σ g w (Builtin.len_ #[t] ty #[v]) K:=by
 unfold DW at h;split at h
 ·obtain ⟨ht,hk⟩:=h
  obtain ⟨e,he⟩:=Option.isSome_iff_exists.1 ht;cases hv
  ·exact Does.pure (by simp [Builtin.len_,bE (aR he),goInt]) (.raw _) hk
  ·exact Does.pure (by simp [Builtin.len_,bE (aR he),goInt]) (.raw _) hk
  ·exact Does.pure (by simp [Builtin.len_,bE (aR he),goInt]) (.raw _) hk
 ·obtain ⟨ht,hk⟩:=h
  obtain ⟨e,he⟩:=Option.isSome_iff_exists.1 ht;cases hv.raw_eq
  exact Does.pure (by simp [Builtin.len_,bE (aR he),goInt]) (.raw _) hk
 ·obtain ⟨ht,hk⟩:=h
  cases hv.raw_eq
  exact Does.pure (by simp [Builtin.len_,bE (eC ht),goInt]) (.raw _) hk
 ·exact Does.of_act h (TR.one hv) rfl
theorem VR.sl_inv {sz:Nat}{own:Option (Option (Nat × Nat))}{l:List AV}{v:Value} (h:VR g w (.sl sz own l) v):(l=[]∧(∃ a n,v=.slice a 0 n∧(a=none→n=0)∧n≤maxLen)∧(own.isSome=true→v=.slice none 0 0)∧0 < sz)∨∃ b off cap,v=.slice (some ⟨b,off,none⟩) l.length cap∧l.length≤cap∧cap≤maxLen∧0 < sz ∧
  (∀ (i:Nat) (x:AV),l[i]? = some x→x.cells.length=sz) ∧
  (∀ (i:Nat) (x:AV) (k:Nat) (y:AV),l[i]? = some x→x.cells[k]? = some y→∃ u,w.cell? ⟨b,off+i * sz+k,none⟩=some u∧VR g w y u) ∧
  off+l.length * sz≤g b∧(∀ t,own=some t→t=some (b,off+l.length * sz)∧off+cap * sz≤bu w b):=by
 cases h with
 | slnil hsz=>exact .inl ⟨rfl,⟨_,_,rfl,fun _=>rfl,Nat.zero_le _⟩,fun _=>rfl,hsz⟩
 | slzero h2 hsz=>exact .inl ⟨rfl,⟨_,_,rfl,fun h=>(by cases h),h2⟩,fun h=>(by cases h),hsz⟩
 | sl u h1 h2 hsz hc hr hv hg ho=>exact .inr ⟨_,_,_,rfl,h1,h2,hsz,hc,fun i x k y hi hk=>⟨u i k,hr i x k y hi hk,hv i x k y hi hk⟩,hg,ho⟩
theorem VR.sl_mk {sz:Nat}{own:Option (Option (Nat × Nat))}{l:List AV}{b off n cap:Nat} (hn:n=l.length) (h1:l.length≤cap) (h2:cap≤maxLen) (hsz:0 < sz)
  (hc:∀ (i:Nat) (x:AV),l[i]? = some x→x.cells.length=sz)
  (hr:∀ (i:Nat) (x:AV) (k:Nat) (y:AV),l[i]? = some x→x.cells[k]? = some y→∃ u,w.cell? ⟨b,off+i * sz+k,none⟩=some u∧VR g w y u)
  (hg:off+l.length * sz≤g b) (ho:∀ t,own=some t→t=some (b,off+l.length * sz)∧off+cap * sz≤bu w b) :
  VR g w (.sl sz own l) (.slice (some ⟨b,off,none⟩) n cap):=by
 subst hn;refine .sl (fun i k=>(w.cell? ⟨b,off+i * sz+k,none⟩).getD undef) h1 h2 hsz hc (fun i x k y hi hk=>?_) (fun i x k y hi hk=>?_) hg ho
 ·obtain ⟨u,e1,e2⟩:=hr i x k y hi hk;simp [e1]
 ·obtain ⟨u,e1,e2⟩:=hr i x k y hi hk;simpa [e1] using e2
theorem Dv {dm:Bool}{t:TypeId}{x i:AV}{v u:Value} (h:Cd κ dm P t x i σ K) (hv:VR g w x v) (hu:VR g w i u):Does κ P φ σ g w (Instr.indexAt t v u) K:=by
 unfold Cd at h;split at h
 ·rename_i sz own l k i
  obtain ⟨⟨e,he,hsz⟩,h0,h1,hk⟩:=h;cases hu.raw_eq
  rcases hv.sl_inv with ⟨rfl,_⟩|⟨b,off,cap,rfl,_,_,_,hc,hr,hg,_⟩
  ·simp at h1;omega
  obtain ⟨n,rfl⟩:=Int.eq_ofNat_of_zero_le h0;have hn:n < l.length:=by omega
  have hx:l[n]? = some (l[n]'hn):=List.getElem?_eq_getElem hn
  refine Does.pure (v:=.pointer (some ⟨b,off+n * sz,none⟩)) (x:=.cp (l.getD n .any).cells) ?_ ?_ (by simpa using hk)
  ·simp [Instr.indexAt,asIntOf,bE (aR he),dI hsz,hn,Addr.add_lit]
  ·rw [List.getD_eq_getElem?_getD,hx]
   refine VR.cp_mk ?_ (fun k y hy=>hr n _ k y hx hy);have:=hc n _ hx
   have h2:(n+1) * sz≤l.length * sz:=Nat.mul_le_mul_right sz hn
   rw [Nat.add_mul] at h2;simp only [Option.getD_some];omega
 ·exact Does.of_act h (TR.two hv hu) rfl
theorem vE {dm:Bool}{t:TypeId}{x i:AV}{v u:Value} (h:ln κ dm P t x i σ K) (hv:VR g w x v) (hu:VR g w i u):Does κ P φ σ g w (Instr.index t v u) K:=by
 unfold ln at h;split at h
 ·rename_i s k i
  obtain ⟨ht,h0,h1,hk⟩:=h;cases hu.raw_eq
  cases hv.raw_eq
  obtain ⟨n,rfl⟩:=Int.eq_ofNat_of_zero_le h0;have hn:n < s.size:=by omega
  refine Does.pure (v:=.int .u8 (s.data.toList.getD n 0).toNat) ?_ (.raw _) (by simpa using hk);have e:s[n]? = some (s.data.toList.getD n 0):=by
   have:n < s.data.toList.length:=by simpa using hn
   rw [List.getD_eq_getElem?_getD,List.getElem?_eq_getElem this];simp only [Option.getD_some];rw [getElem?_pos s n hn];rfl
  simp [Instr.index,asIntOf,bE (eC ht),e]
 ·exact Does.of_act h (TR.two hv hu) rfl
end
section
variable {κ:Ctx} {P:Program} {φ σ:List Res} {g:Nat→Nat} {w:World} {K:AV→List Res→Prop}
def OptR (g:Nat→Nat) (w:World):Option AV→Option Value→Prop
 | none,none=>True
 | some x,some v=>VR g w x v
 | _,_=>False
theorem gJ {x:Value}{k:IntKind}{i:Int}{y:Nat}{code:BoundsCode} (hx:x=.int k i) (h0:0≤i) (h1:i≤y) (w:World):(Instr.sliceBound x y code).run P w=.ok i.toNat w:=by
 subst hx;simp [Instr.sliceBound,asIntOf,h0,h1]
theorem OZ {lo:Option AV}{lv:Option Value}{a:Int} (hl:OptR g w lo lv) (ha:E2 lo=some a):(lv=none∧a=0)∨∃ k,lv=some (.int k a):=by
 cases lo with
 | none =>
  cases lv with
  | none=>simp [E2] at ha;exact .inl ⟨rfl,ha.symm⟩
  | some v=>exact hl.elim
 | some x =>
  cases lv with
  | none=>exact hl.elim
  | some v =>
   cases x<;>simp [E2] at ha
   rename_i u;cases u<;>simp at ha
   subst ha;cases (VR.raw_eq hl)
   exact .inr ⟨_,rfl⟩
theorem Oc {n:Nat}{lo:Option AV}{lv:Option Value}{a:Int} (hl:OptR g w lo lv) (ha:FU n lo=some a):(lv=none∧a=n)∨∃ k,lv=some (.int k a):=by
 cases lo with
 | none =>
  cases lv with
  | none=>simp [FU] at ha;exact .inl ⟨rfl,ha.symm⟩
  | some v=>exact hl.elim
 | some x =>
  cases lv with
  | none=>exact hl.elim
  | some v =>
   cases x<;>simp [FU] at ha
   rename_i u;cases u<;>simp at ha
   subst ha;cases (VR.raw_eq hl)
   exact .inr ⟨_,rfl⟩
theorem cF {isS:Bool}{len cap:Nat}{lo hi:Option AV}{lv hv:Option Value}{a b:Int} (hl:OptR g w lo lv) (hh:OptR g w hi hv) (ha:E2 lo=some a) (hb:FU len hi=some b)
  (h0:0≤a) (h1:a≤b) (h2:b≤cap):(Instr.sliceBounds isS len cap lv hv none).run P w=.ok (a.toNat,b.toNat,cap) w:=by
 rcases OZ hl ha with ⟨rfl,rfl⟩|⟨k,rfl⟩<;>rcases Oc hh hb with ⟨rfl,rfl⟩|⟨k',rfl⟩
 ·simp [Instr.sliceBounds]
 ·simp [Instr.sliceBounds,gJ rfl h1 h2]
 ·simp [Instr.sliceBounds,gJ (y:=len) rfl h0 h1]
 ·obtain ⟨m,rfl⟩:=Int.eq_ofNat_of_zero_le (show 0≤b by omega)
  simp [Instr.sliceBounds,gJ (y:=cap) rfl (show (0:Int)≤(m:Int) by omega) h2,gJ (y:=m) rfl h0 h1]
theorem yH {dm:Bool}{t:TypeId}{x:AV}{lo hi mx:Option AV}{v:Value}{lv hv mv:Option Value} (h:oH κ dm P t x lo hi mx σ K) (hx:VR g w x v) (hl:OptR g w lo lv) (hh:OptR g w hi hv) (hm:OptR g w mx mv) :
  Does κ P φ σ g w (Instr.sliceAt t v lv hv mv) K:=by
 unfold oH at h;split at h
 ·rename_i sz own l
  cases mv with
  | some v=>exact hm.elim
  | none =>
  split at h
  ·rename_i a b ha hb
   obtain ⟨⟨e,he,hsz⟩,h0,h1,h2,hk⟩:=h;have hu:=aR he
   rcases hx.sl_inv with ⟨rfl,⟨ad,cp,rfl,hcp,hcpm⟩,_,hpos⟩|⟨blk,off,cap,rfl,hcap,hmax,hpos,hc,hr,hg,_⟩
   ·have hb0:b=0:=by simp at h2;omega
    have ha0:a=0:=by omega
    subst hb0;subst ha0;have hsb:=cF (P:=P) (isS:=true) (cap:=cp) hl hh ha hb (Int.le_refl 0) (Int.le_refl 0) (Int.natCast_nonneg _)
    have hvr:VR g w (.sl sz none []) (.slice ad 0 cp):=by
     cases ad with
     | none=>rw [hcp rfl];exact .slnil hpos
     | some ad=>exact .slzero hcpm hpos
    refine Does.pure (v:=.slice ad 0 cp) (x:=.sl sz none []) ?_ hvr (by simpa using hk);have hsb':∀ n,n=0→Sem.run P (Instr.sliceBounds true n cp lv hv none) w=.ok (Int.toNat 0,Int.toNat 0,cp) w:=fun n hn=>by subst hn;simpa using hsb
    simp only [Instr.sliceAt,Sem.run_bind,bE hu,Result.andThen_ok,Instr.slice,hsb' 0 rfl,dI hsz,Sem.run_pure];cases ad<;>simp [Addr.add]
   have hsb:=cF (P:=P) (isS:=true) (cap:=cap) hl hh ha hb h0 h1 (by omega)
   obtain ⟨a',rfl⟩:=Int.eq_ofNat_of_zero_le h0;obtain ⟨b',rfl⟩:=Int.eq_ofNat_of_zero_le (show 0≤b by omega);have hab:a'≤b':=by omega
   have hbl:b'≤l.length:=by omega
   simp only [Int.toNat_natCast] at hsb hk;have hlen:((l.take b').drop a').length=b' - a':=by simp;omega
   refine Does.pure (v:=.slice (if cap=a' then some ⟨blk,off,none⟩ else some ⟨blk,off+a' * sz,none⟩) (b' - a') (cap - a')) (x:=.sl sz none ((l.take b').drop a')) ?_ ?_ hk
   ·simp only [Instr.sliceAt,Sem.run_bind,bE hu,Result.andThen_ok,Instr.slice,hsb,dI hsz,Sem.run_pure,Option.map_some,Addr.add_lit]
   ·have hget:∀ (i:Nat) (y:AV),((l.take b').drop a')[i]? = some y→l[a'+i]? = some y:=by
     intro i y hi;have hlt:=aL hi
     rw [hlen] at hlt;rw [List.getElem?_drop,List.getElem?_take_of_lt (by omega)] at hi;exact hi
    have hb2:b' * sz≤l.length * sz:=Nat.mul_le_mul_right sz hbl
    have hsub:(b' - a') * sz=b' * sz - a' * sz:=Nat.sub_mul _ _ _
    have ha2:a' * sz≤b' * sz:=Nat.mul_le_mul_right sz hab
    split
    ·rename_i hca
     refine VR.sl_mk hlen.symm (by rw [hlen];omega) (by omega) hpos (fun i y hi=>hc _ y (hget i y hi)) (fun i y k z hi hz=>?_) ?_ (fun t ht=>by cases ht)
     ·have hlt:=aL hi
      rw [hlen] at hlt;omega
     ·rw [hlen];rw [show b' - a'=0 by omega];simp;omega
    ·refine VR.sl_mk hlen.symm (by rw [hlen];omega) (by omega) hpos (fun i y hi=>hc _ y (hget i y hi)) (fun i y k z hi hz=>?_) ?_ (fun t ht=>by cases ht)
     ·obtain ⟨u,h5,h6⟩:=hr _ y k z (hget i y hi) hz
      refine ⟨u, ?_,h6⟩;rw [← h5,Nat.add_mul];congr 2
      omega
     ·rw [hlen];omega
  ·exact h.elim
 ·cases mv with
  | some v=>exact hm.elim
  | none =>
  cases hx.raw_eq
  split at h
  ·rename_i a b ha hb
   obtain ⟨⟨e,n,he,hsz⟩,rfl,rfl,hk⟩:=h;have hsb:=cF (P:=P) (isS:=true) (cap:=0) hl hh ha hb (Int.le_refl 0) (Int.le_refl 0) (Int.le_refl 0)
   have hu:=aR he
   refine Does.pure (v:=.slice none 0 0) (x:=nilS) ?_ (.raw _) hk;simp only [Instr.sliceAt,Sem.run_bind,bE hu,Result.andThen_ok,Instr.slice,hsb,dI hsz,Sem.run_pure];simp
  ·exact h.elim
 ·cases mv with
  | some v=>exact hm.elim
  | none =>
  cases hx.raw_eq
  rename_i s;split at h
  ·rename_i a b ha hb
   obtain ⟨ht,h0,h1,h2,hk⟩:=h;have hsb:=cF (P:=P) (isS:=false) (cap:=s.size) hl hh ha hb h0 h1 h2
   have hu:=eC ht
   refine Does.pure (v:=.string (s.extract a.toNat b.toNat)) (x:=.raw (.string (s.extract a.toNat b.toNat))) ?_ (.raw _) hk;simp only [Instr.sliceAt,Sem.run_bind,bE hu,Result.andThen_ok,Instr.slice,hsb,Sem.run_pure,Option.isSome_none,Bool.false_eq_true,if_false]
  ·exact h.elim
 ·have hopt:∀ {o:Option AV} {ov:Option Value},OptR g w o ov→VR g w (o.getD .any) (ov.getD undef):=by
   intro o ov ho;cases o<;>cases ov<;>first|exact ho.elim|exact .any _|exact ho
  have hsome:∀ {o:Option AV} {ov:Option Value},OptR g w o ov→(if o.isSome then some (ov.getD undef) else none)=ov:=by
   intro o ov ho;cases o<;>cases ov<;>first|exact ho.elim|rfl
  refine Does.of_act h (vs:=[v,lv.getD undef,hv.getD undef,mv.getD undef]) (TR.cons hx (TR.cons (hopt hl) (TR.cons (hopt hh) (TR.cons (hopt hm) TR.nil)))) ?_;show Instr.sliceAt t v (if lo.isSome then some (lv.getD undef) else none) (if hi.isSome then some (hv.getD undef) else none) (if mx.isSome then some (mv.getD undef) else none)=_
  rw [hsome hl,hsome hh,hsome hm]
theorem AN {dm:Bool}{src dst:TypeId}{x:AV}{v:Value} (h:rz κ dm P src dst x σ K) (hv:VR g w x v):Does κ P φ σ g w (convert src dst v) K:=by
 unfold rz at h;split at h
 ·rename_i k n
  split at h
  ·rename_i k' hk'
   obtain ⟨hs,hk⟩:=h;obtain ⟨d,hd⟩:=Option.isSome_iff_exists.1 hs;cases hv.raw_eq
   refine Does.pure (v:=.int k' (k'.wrap n)) ?_ (.raw _) hk;simp [convert,bE hd,bE (iE hk'),Conv.intToInt]
  ·exact Does.of_act h (TR.one hv) rfl
 ·exact Does.of_act h (TR.one hv) rfl
theorem JZ {op:BinOp}{t:TypeId}{k:IntKind}{a b:Int}{v:Value} (h:ay op k a b=some v) (hs:op≠.shl∧op≠.shr) (w:World):(binOp op t (.int k a) (.int k b)).run P w=.ok v w:=by
 cases op<;>simp [ay] at h<;>first
  | (subst h;simp [binOp,Op.intArith,Op.intBits,Op.intCmp];done)
  | (obtain ⟨h0,rfl⟩:=h;simp [binOp,Op.intDiv,h0];done)
theorem D9 {op:BinOp}{t:TypeId}{k k':IntKind}{a b:Int}{v:Value} (h:Ow op k a b=some v) (w:World):(binOp op t (.int k a) (.int k' b)).run P w=.ok v w:=by
 unfold Ow at h;split at h
 ·cases h
 ·rename_i h0
  cases op<;>simp at h
  all_goals (subst h;simp [binOp,Op.shift,h0])
theorem JD {op:BinOp}{t:TypeId}{x y:ByteArray}{v:Value} (h:dx op x y=some v) (w:World):(binOp op t (.string x) (.string y)).run P w=.ok v w:=by
 cases op<;>simp only [dx,Option.some.injEq,reduceCtorEq] at h
 case add =>
  split at h
  ·cases h
  ·rename_i h0;cases h;simp only [binOp,Op.stringOp,if_neg h0,Sem.run_pure]
 all_goals (subst h;simp [binOp,Op.stringOp])
theorem so {v:Option Value}{K:AV→Prop} (h:Rz v K):∃ u,v=some u∧K (.raw u):=by
 cases v with
 | none=>exact h.elim
 | some u=>exact ⟨u,rfl,h⟩
theorem zf (d:Nat) {t:TypeId} (hu:P.underlying t=some .bool) (a b:Bool):(Op.equalIn (d+1) t (.bool a) (.bool b)).run P w=.ok (a == b) w:=by
 simp only [Op.equalIn,Sem.run_bind,bE hu,Result.andThen_ok,Sem.run_pure]
theorem ta {t:TypeId} (hu:P.underlying t=some .bool) (a b:Bool):(Op.equal t (.bool a) (.bool b)).run P w=.ok (a == b) w:=zf 9999 hu a b
theorem vk (d:Nat) {t e:TypeId} (hu:P.underlying t=some (.slice e)) (a:Addr) (n c:Nat):(Op.equalIn (d+1) t (.slice (some a) n c) (.slice none 0 0)).run P w=.ok false w:=by
 simp only [Op.equalIn,Sem.run_bind,bE hu,Result.andThen_ok,Sem.run_pure]
theorem gB {t e:TypeId} (hu:P.underlying t=some (.slice e)) (a:Addr) (n c:Nat):(Op.equal t (.slice (some a) n c) (.slice none 0 0)).run P w=.ok false w:=vk 9999 hu a n c
theorem ze (d:Nat) {t e:TypeId} (hu:P.underlying t=some (.slice e)):(Op.equalIn (d+1) t (.slice none 0 0) (.slice none 0 0)).run P w=.ok true w:=by
 simp only [Op.equalIn,Sem.run_bind,bE hu,Result.andThen_ok,Sem.run_pure,Option.isNone_none]
theorem lW {t e:TypeId} (hu:P.underlying t=some (.slice e)):(Op.equal t (.slice none 0 0) (.slice none 0 0)).run P w=.ok true w:=ze 9999 hu
theorem DA {dm:Bool}{op:BinOp}{t:TypeId}{x y:AV}{v u:Value} (h:mn κ dm P op t x y σ K) (hv:VR g w x v) (hu:VR g w y u):Does κ P φ σ g w (binOp op t v u) K:=by
 unfold mn at h;split at h
 ·rename_i k a k' b
  cases hv.raw_eq;cases hu.raw_eq
  split at h
  ·obtain ⟨r,h1,h2⟩:=so h
   exact Does.pure (D9 h1 w) (.raw _) h2
  ·obtain ⟨r,h1,h2⟩:=so h
   exact Does.pure (D9 h1 w) (.raw _) h2
  ·rename_i hs1 hs2
   obtain ⟨rfl,h⟩:=h;obtain ⟨r,h1,h2⟩:=so h;exact Does.pure (JZ h1 ⟨fun e=>hs1 e,fun e=>hs2 e⟩ w) (.raw _) h2
 ·cases hv.raw_eq;cases hu.raw_eq
  obtain ⟨r,h1,h2⟩:=so h;exact Does.pure (JD h1 w) (.raw _) h2
 ·cases hv.raw_eq;cases hu.raw_eq
  split at h
  ·obtain ⟨ht,hk⟩:=h
   exact Does.pure (by simp only [binOp,Sem.run_bind,ta ht,Result.andThen_ok,Sem.run_pure]) (.raw _) hk
  ·obtain ⟨ht,hk⟩:=h
   exact Does.pure (by simp only [binOp,Sem.run_bind,ta ht,Result.andThen_ok,Sem.run_pure]) (.raw _) hk
  ·exact h.elim
 ·rename_i l
  cases hu.raw_eq
  split at h
  ·obtain ⟨ht,h⟩:=h
   obtain ⟨e,he⟩:=Option.isSome_iff_exists.1 ht;rcases h with ⟨hl,h⟩|⟨_,hl,h⟩
   ·rcases hv.sl_inv with ⟨rfl,_⟩|⟨b,off,cap,rfl,_⟩
    ·simp at hl
    exact Does.pure (by simp only [binOp,Sem.run_bind,gB (aR he),Result.andThen_ok,Sem.run_pure]) (.raw _) h
   ·rcases hv.sl_inv with ⟨_,⟨ad,cp,rfl,hcp,_⟩,_⟩|⟨b,off,cap,rfl,_⟩
    ·cases ad with
     | none=>rw [hcp rfl];exact Does.pure (by simp only [binOp,Sem.run_bind,lW (aR he),Result.andThen_ok,Sem.run_pure]) (.raw _) (h true)
     | some ad=>exact Does.pure (by simp only [binOp,Sem.run_bind,gB (aR he),Result.andThen_ok,Sem.run_pure]) (.raw _) (h false)
    ·exact Does.pure (by simp only [binOp,Sem.run_bind,gB (aR he),Result.andThen_ok,Sem.run_pure]) (.raw _) (h false)
  ·obtain ⟨ht,h⟩:=h
   obtain ⟨e,he⟩:=Option.isSome_iff_exists.1 ht;rcases h with ⟨hl,h⟩|⟨_,hl,h⟩
   ·rcases hv.sl_inv with ⟨rfl,_⟩|⟨b,off,cap,rfl,_⟩
    ·simp at hl
    exact Does.pure (by simp only [binOp,Sem.run_bind,gB (aR he),Result.andThen_ok,Sem.run_pure,Bool.not_false]) (.raw _) h
   ·rcases hv.sl_inv with ⟨_,⟨ad,cp,rfl,hcp,_⟩,_⟩|⟨b,off,cap,rfl,_⟩
    ·cases ad with
     | none=>rw [hcp rfl];exact Does.pure (by simp only [binOp,Sem.run_bind,lW (aR he),Result.andThen_ok,Sem.run_pure,Bool.not_true]) (.raw _) (h false)
     | some ad=>exact Does.pure (by simp only [binOp,Sem.run_bind,gB (aR he),Result.andThen_ok,Sem.run_pure,Bool.not_false]) (.raw _) (h true)
    ·exact Does.pure (by simp only [binOp,Sem.run_bind,gB (aR he),Result.andThen_ok,Sem.run_pure,Bool.not_false]) (.raw _) (h true)
  ·exact h.elim
 ·cases hu.raw_eq;cases hv.raw_eq
  split at h
  ·obtain ⟨ht,hk⟩:=h
   obtain ⟨e,he⟩:=Option.isSome_iff_exists.1 ht;exact Does.pure (by simp only [binOp,Sem.run_bind,lW (aR he),Result.andThen_ok,Sem.run_pure]) (.raw _) hk
  ·obtain ⟨ht,hk⟩:=h
   obtain ⟨e,he⟩:=Option.isSome_iff_exists.1 ht;exact Does.pure (by simp only [binOp,Sem.run_bind,lW (aR he),Result.andThen_ok,Sem.run_pure,Bool.not_true]) (.raw _) hk
  ·exact h.elim
 ·exact Does.of_act h (TR.two hv hu) rfl
/-! ### Operands -/
theorem nK (v:Value):VR g w (rU v) v:=by
 unfold rU;split
 ·rename_i cs
  refine .agg cs (by simp) (fun k y hk=>?_);rw [List.getElem?_map] at hk;cases hx:cs.toList[k]? with
  | none=>simp [hx] at hk
  | some u =>
   simp [hx] at hk;subst hk;have:cs.getD k undef=u:=by
    have:cs[k]? = some u:=by simpa using hx
    simp [Array.getD_eq_getD_getElem?,this]
   rw [this];exact .raw _
 ·exact .any _
 ·exact .raw _
theorem du {s:St}{a:Act} (ht:TR g w s.t a.tmps) (x:Operand):VR g w (s.ev x) (a.eval x):=by
 cases x with
 | tmp k =>
  show VR g w (s.t.getD k .any) (a.tmps.getD k undef)
  cases hk:s.t[k]? with
  | none=>simp [List.getD_eq_getElem?_getD,hk];exact .any _
  | some y=>simpa [List.getD_eq_getElem?_getD,hk] using ht.get k y hk
 | const v=>exact nK v
 | global b=>exact .raw _
 | func f=>exact .raw _
theorem TR.map_ev {s:St}{a:Act} (ht:TR g w s.t a.tmps) (xs:List Operand):TR g w (xs.map s.ev) (xs.map a.eval).toArray:=by
 refine ⟨by simp,fun k x hk=>?_⟩;rw [List.getElem?_map] at hk;cases hx:xs[k]? with
 | none=>simp [hx] at hk
 | some o =>
  simp [hx] at hk;subst hk;have:((xs.map a.eval).toArray).getD k undef=a.eval o:=by simp [Array.getD_eq_getD_getElem?,hx]
  rw [this];exact du ht o
theorem OptR.map_ev {s:St}{a:Act} (ht:TR g w s.t a.tmps) (o:Option Operand):OptR g w (o.map s.ev) (o.map a.eval):=by
 cases o with
 | none=>exact trivial
 | some x=>exact du ht x
theorem TR.put {t:List AV}{tmps:Array Value} (ht:TR g w t tmps) (dst:Option Tmp) {x:AV}{v:Value} (hv:VR g w x v) (ds:List Deferred):TR g w (bP t dst x) (({ tmps:=tmps,defers:=ds }:Act).put dst v).tmps:=by
 cases dst with
 | none=>exact ht
 | some d =>
  refine ⟨by simp [Act.put,bP,ht.size],fun k y hk=>?_⟩;simp only [bP] at hk;simp only [Act.put];rw [List.getElem?_set] at hk;by_cases e:d=k
  ·subst e
   rw [if_pos rfl] at hk;split at hk
   ·cases hk
    rename_i hlt;have:d < tmps.size:=by rw [ht.size];exact hlt
    simpa [Array.getD_eq_getD_getElem?,this] using hv
   ·cases hk
  ·rw [if_neg e] at hk
   have:=ht.get k y hk
   rw [Array.getD_eq_getD_getElem?,Array.getElem?_setIfInBounds_ne e,← Array.getD_eq_getD_getElem?];exact this
end
section
variable {κ:Ctx} {P:Program} {φ:List Res} {g:Nat→Nat} {w:World} {K:AV→List Res→Prop} {KP:List PanicEntry→List Res→Prop} {rd:Option Nat}
theorem rQ (rd:Option Nat) (f:FuncId):(FD rd).fn f:=by cases rd<;>exact trivial
theorem Ad (rd:Option Nat):(FD rd).depth=none:=by cases rd<;>rfl
theorem yX {rd:Option Nat}{p:Prop}:(FD rd).depth.isSome=true→p:=by rw [Ad];intro h;cases h
theorem oM {f:FuncId}{args:Array Value}{R:Ending→World→Prop} (h:CallsIn Fence.wide 0 P f args w R) (rd:Option Nat) (n:Nat):CallsIn (FD rd) n P f args w R:=by
 have h':CallsIn Fence.wide n P f args w R:=callsIn_wide.2 (callsIn_wide.1 h)
 cases rd with
 | none=>exact h'
 | some l=>exact h'
theorem CR {l:Nat}{f:FuncId}{tmps:Array Value}{assign body:Code}{R:Ending→World→Prop} (h:RoundIn Fence.wide 0 P l f tmps assign body w R) (rd:Option Nat) (n:Nat):RoundIn (FD rd) n P l f tmps assign body w R:=by
 have h':RoundIn Fence.wide n P l f tmps assign body w R:=⟨trivial,fun c cs hr=>h.2 c cs (room_wide _)⟩
 cases rd with
 | none=>exact h'
 | some l=>exact h'
theorem MR {o:Oper} (hd:∀ c,o.op≠.defer c) (rd:Option Nat) (ρ:Operand→Value):o.semAt (FD rd).round ρ=execOp ρ o:=by
 cases rd with
 | none=>rfl
 | some l=>exact Oper.semAt_some l ρ o hd
theorem pF {o:Oper}{a:Act}{next:Act→World→Prop}{Q:Exit→Act→World→Prop} (hd:∀ c,o.op≠.defer c) (h:o.uponIn (FD rd) 0 P a next Q ((execOp a.eval o).run P w)):o.wpIn (FD rd) 0 P a w next Q:=by
 refine ⟨fun f _=>rQ rd f, ?_⟩;rw [MR hd];exact h
def sP (κ:Ctx) (φ:List Res) (g:Nat→Nat) (w:World) (s:St) (dst:Option Tmp) (K:AV→List Res→Prop) (next:Act→World→Prop):Prop :=
 ∀ g' a' w' x σ',SR κ φ g' { s with t:=bP s.t dst x,σ:=σ' } a' w'→GE g w g' w'→K x σ'→next a' w'
theorem pf {s:St}{a:Act}{o:Oper}{sem:Sem Value}{next:Act→World→Prop} (hs:SR κ φ g s a w) (h:∀ φ,Does κ P φ s.σ g w sem K) (hn:sP κ φ g w s o.dst K next) :
  ∃ v w',sem.run P w=.ok v w'∧next (a.put o.dst v) w':=by
 obtain ⟨ds,hd,hfr,hR,ht⟩:=hs;rw [← List.append_assoc] at hR;obtain ⟨v,w',g',x,σ',hrun,hR',hge,hv,hk⟩:=h _ hR;refine ⟨v,w',hrun,hn g' _ w' x σ' ⟨ds, ?_,hfr,by rw [← List.append_assoc];exact hR', ?_⟩ hge hk⟩
 ·show (a.put o.dst v).defers=_
  have:(a.put o.dst v).defers=a.defers:=by cases o.dst<;>rfl
  rw [this];exact hd
 ·obtain ⟨tm,df⟩:=a
  exact (TR.put (ht.mono hge) o.dst hv df)
theorem bm {s:St}{a:Act}{o:Oper}{sem:Sem Value}{next:Act→World→Prop}{Q:Exit→Act→World→Prop} (hd:∀ c,o.op≠.defer c) (he:execOp a.eval o=(do pure (.value (← sem)))) (hs:SR κ φ g s a w)
  (h:∀ φ,Does κ P φ s.σ g w sem K) (hn:sP κ φ g w s o.dst K next):o.wpIn (FD rd) 0 P a w next Q:=by
 obtain ⟨v,w',hrun,hnx⟩:=pf hs h hn;refine pF hd ?_;rw [he];simp only [Sem.run_bind,hrun,Result.andThen_ok,Sem.run_pure,Oper.uponIn_value];exact hnx
theorem nj {s:St}{a:Act}{o:Oper}{sem:Sem Unit}{next:Act→World→Prop}{Q:Exit→Act→World→Prop} (hd:∀ c,o.op≠.defer c) (he:execOp a.eval o=(do sem;pure .skip)) (hs:SR κ φ g s a w)
  (h:∀ φ,Does κ P φ s.σ g w (do sem;pure undef) (fun _ σ'=>K .any σ')) (hn:sP κ φ g w s o.dst K next):o.wpIn (FD rd) 0 P a w next Q:=by
 have h':∀ φ,Does κ P φ s.σ g w (do sem;pure undef) K:=fun φ hR=>by
  obtain ⟨v,w',g',x,σ',h1,h2,h3,h4,h5⟩:=h φ hR;exact ⟨v,w',g',.any,σ',h1,h2,h3,.any _,h5⟩
 obtain ⟨v,w',hrun,hnx⟩:=pf hs h' hn;refine pF hd ?_;rw [he];simp only [Sem.run_bind] at hrun ⊢;cases hr:sem.run P w with
 | halt x w1=>rw [hr] at hrun;cases hrun
 | ok u w1 =>
  rw [hr] at hrun;simp only [Result.andThen_ok,Sem.run_pure,Result.ok.injEq] at hrun ⊢;obtain ⟨rfl,rfl⟩:=hrun;exact hnx
theorem SR.tr {s:St}{a:Act} (hs:SR κ φ g s a w):TR g w s.t a.tmps:=by obtain ⟨_,_,_,_,h⟩:=hs;exact h
theorem TR.append {xs ys:List AV}{vs us:Array Value} (h:TR g w xs vs) (h2:TR g w ys us):TR g w (xs++ys) (vs++us):=by
 refine ⟨by simp [h.size,h2.size],fun k z hk=>?_⟩;by_cases hlt:k < xs.length
 ·rw [List.getElem?_append_left hlt] at hk
  have:=h.get k z hk
  rw [Array.getD_eq_getD_getElem?,Array.getElem?_append_left (by rw [h.size];exact hlt),← Array.getD_eq_getD_getElem?];exact this
 ·rw [List.getElem?_append_right (by omega)] at hk
  have:=h2.get _ z hk
  rw [Array.getD_eq_getD_getElem?,Array.getElem?_append_right (by rw [h.size];omega),h.size,← Array.getD_eq_getD_getElem?];exact this
theorem TR.raws (vs:Array Value):TR g w (vs.toList.map .raw) vs:=by
 refine ⟨by simp,fun k z hk=>?_⟩;rw [List.getElem?_map] at hk;cases hx:vs.toList[k]? with
 | none=>simp [hx] at hk
 | some u =>
  simp [hx] at hk;subst hk;have:vs.getD k undef=u:=by
   have:vs[k]? = some u:=by simpa using hx
   simp [Array.getD_eq_getD_getElem?,this]
  rw [this];exact .raw _
theorem BB {s:St}{a:Act}{dst:Option Tmp}{x:AV}{v:Value}{next:Act→World→Prop}{σ':List Res}{g':Nat→Nat}{w':World}{ds:List Nat} (hd:a.defers=ds.map kF++s.df) (hfr:s.fr=true→ds=[])
  (ht:TR g w s.t a.tmps) (hn:sP κ φ g w s dst K next) (hR:Rel κ g' ((φ++ds.map gk)++σ') w') (hge:GE g w g' w') (hv:VR g' w' x v) (hk:K x σ'):next (a.put dst v) w':=by
 refine hn g' _ w' x σ' ⟨ds, ?_,hfr,by rw [← List.append_assoc];exact hR, ?_⟩ hge hk
 ·show (a.put dst v).defers=_
  have:(a.put dst v).defers=a.defers:=by cases dst<;>rfl
  rw [this];exact hd
 ·obtain ⟨tm,df⟩:=a
  exact (TR.put (ht.mono hge) dst hv df)
theorem jA {f : FuncId} {fn : Func} (hf : P.funcs[f]? = some fn) (h1 : (fn.name == "runtime.NumGoroutine") = false) (h2 : fn.body.isNone = false) (args : Array Value) (w : World) : (callFunc f args).run P w = .ok (.enter f args) w := by
 simp only [callFunc,Sem.run_bind,run_program,Result.andThen_ok,hf,h1,h2,Bool.false_eq_true,if_false,Sem.run_pure]
theorem DM {s:St}{a:Act}{o:Oper}{f:Operand}{xs:Array Operand}{ts:Array TypeId}{next:Act→World→Prop}{Q:Exit→Act→World→Prop} (ho:o.op=.call { callee:=.value f,args:=xs,argTypes:=ts }) (hs:SR κ φ g s a w)
  (h:il κ P (s.ev f) (xs.toList.map s.ev) s.σ fun r σ'=>match r with | .ret x=>K x σ' | .pan c=>KP c σ') (hn:sP κ φ g w s o.dst K next)
  (hp:∀ g' w' c σ',SR κ φ g' { s with σ:=σ' } a w'→GE g w g' w'→KP c σ'→Q (.panic c) a w'):o.wpIn (FD rd) 0 P a w next Q:=by
 refine pF (by rw [ho];simp) ?_;obtain ⟨ds,hd,hfr,hR,ht⟩:=hs;have hR0:=hR
 rw [← List.append_assoc] at hR;have hf:=du ht f
 have hxs:=ht.map_ev xs.toList
 have e:((xs.toList.map a.eval).toArray)=xs.map a.eval:=by apply Array.ext';simp
 rw [e] at hxs;have hexec:execOp a.eval o=(do let d ← resolve a.eval { callee:=.value f,args:=xs,argTypes:=ts } o.type;invoke d.target d.args):=by
  simp only [execOp,ho]
 rw [hexec];unfold il at h;split at h
 ·rename_i fid first cap hev
  rw [hev] at hf;have hf':=hf.raw_eq
  obtain ⟨⟨fn,hfn,hn1,hn2⟩,hcall⟩:=h;have hrun:(do let d ← resolve a.eval { callee:=.value f,args:=xs,argTypes:=ts } o.type;invoke d.target d.args:Sem Next).run P w=.ok (.enter fid (first++xs.map a.eval++cap)) w:=by
   simp only [resolve,hf',Deferred.ofValue,Sem.run_bind,Sem.run_pure,Result.andThen_ok,invoke];exact jA hfn hn1 hn2 _ _
  rw [hrun,Oper.uponIn_enter];refine ⟨yX,oM (CallsIn.mono (hcall _ g w _ hR (((TR.raws first).append hxs).append (TR.raws cap))) ?_) rd _⟩;rintro e w' ⟨g',σ',r,hR',hge,her,hk⟩;cases r with
  | ret x =>
   cases e with
   | returned v=>exact BB hd hfr ht hn hR' hge her hk
   | panicked c=>exact her.elim
   | outgrown=>exact her.elim
  | pan c =>
   cases e with
   | returned v=>exact her.elim
   | panicked c' =>
    cases (show c'=c from her)
    exact hp g' w' c σ' ⟨ds,hd,hfr,by rw [← List.append_assoc];exact hR',ht.mono hge⟩ hge hk
   | outgrown=>exact her.elim
 ·rename_i l first cap hev
  rw [hev] at hf;have hf':=hf.raw_eq
  obtain ⟨f',tmps,assign,body,hy,hround⟩:=h _ g w (first++xs.map a.eval) hR ((TR.raws first).append hxs);have hrun:(do let d ← resolve a.eval { callee:=.value f,args:=xs,argTypes:=ts } o.type;invoke d.target d.args:Sem Next).run P w=.ok (.round l f' tmps assign body) w:=by
   simp only [resolve,hf',Deferred.ofValue,Sem.run_bind,Sem.run_pure,Result.andThen_ok,invoke];exact hy
  rw [hrun,Oper.uponIn_round];refine ⟨yX,CR (RoundIn.mono hround ?_) rd _⟩;rintro e w' ⟨g',σ',r,hR',hge,her,hk⟩;cases r with
  | ret x =>
   cases e with
   | returned v=>exact BB hd hfr ht hn hR' hge her hk
   | panicked c=>exact her.elim
   | outgrown=>exact her.elim
  | pan c =>
   cases e with
   | returned v=>exact her.elim
   | panicked c' =>
    cases (show c'=c from her)
    exact hp g' w' c σ' ⟨ds,hd,hfr,by rw [← List.append_assoc];exact hR',ht.mono hge⟩ hge hk
   | outgrown=>exact her.elim
 ·exact h.elim
theorem y5 {a:Act}{o:Oper}{b:Builtin}{xs:Array Operand}{ts:Array TypeId} (ho:o.op=.call { callee:=.builtin b,args:=xs,argTypes:=ts }):execOp a.eval o=builtin b ts o.type (xs.map fun | .const _=>true|_=>false) (xs.map a.eval):=by
 simp only [execOp,ho,resolve];rfl
theorem kb {α:Type}{xs:Array α} (h:xs.size=1) (d:α):xs = #[xs.getD 0 d]:=by
 match xs,h with
 | ⟨[x]⟩,_=>rfl
theorem mV {α:Type}{xs:Array α} (h:xs.size=2) (d:α):xs = #[xs.getD 0 d,xs.getD 1 d]:=by
 match xs,h with
 | ⟨[x,y]⟩,_=>rfl
theorem parts_eq (ps:Array (Nat × Operand)) (ρ:Operand→Value):(((ps.toList.map (·.1)).zip (ps.toList.map fun p=>ρ p.2)).toArray)=ps.map fun (i,x)=>(i,ρ x):=by
 rw [List.zip_map'];apply Array.ext'
 simp
theorem TR.map_ev2 {s:St}{a:Act} (ht:TR g w s.t a.tmps) (ps:Array (Nat × Operand)):TR g w (ps.toList.map fun p=>s.ev p.2) ((ps.toList.map fun p=>a.eval p.2).toArray):=by
 have:=ht.map_ev (ps.toList.map (·.2))
 simpa [List.map_map,Function.comp_def] using this
theorem BX {xs:List AV}{vs:List Value} (h:OE xs=some vs) (us:Array Value) (hu:TR g w xs us):us=vs.toArray:=by
 unfold OE at h;have:∀ (xs:List AV) (vs:List Value) (us:List Value),xs.mapM Xb=some vs→TR g w xs us.toArray→us=vs:=by
  intro xs;induction xs with
  | nil =>
   intro vs us h hu;simp at h;subst h;have:=hu.size
   simpa using this
  | cons x xs ih =>
   intro vs us h hu;cases us with
   | nil=>have:=hu.size;simp at this
   | cons u us =>
    rw [List.mapM_cons] at h;cases hx:Xb x with
    | none=>simp [hx] at h
    | some v =>
     cases hxs:xs.mapM Xb with
     | none=>simp [hx,hxs] at h
     | some vs' =>
      simp [hx,hxs] at h;subst h;have h0:=hu.get 0 x (by simp)
      have hrest:TR g w xs us.toArray:=⟨by have:=hu.size;simpa using this,fun k z hk=>by
       have:=hu.get (k+1) z (by simpa using hk)
       simpa [Array.getD_eq_getD_getElem?] using this⟩
      rw [ih vs' us hxs hrest];cases x<;>simp [Xb] at hx
      subst hx;have:=h0.raw_eq
      simp at this;rw [this]
 have h3:=this xs vs us.toList h (by simpa using hu)
 rw [← h3]
end
section
variable {κ:Ctx} {P:Program} {φ:List Res} {g:Nat→Nat} {w:World} {rd:Option Nat}
theorem rW {op:BinOp}{t:TypeId}{x y:Operand}{a b:Value} (h1:a≠.nilIface∨b≠.nilIface) (h2:(∀ cs,a≠.agg cs)∨(∀ cs,b≠.agg cs)) (w:World):(eqGuard op t x y a b).run P w=.ok () w:=by
 unfold eqGuard;split
 ·simp only [Bool.not_true,Bool.false_eq_true,if_false]
  split
  ·exact (h1.elim (fun h=>h rfl) (fun h=>h rfl)).elim
  ·exact (h2.elim (fun h=>h _ rfl) (fun h=>h _ rfl)).elim
  ·rfl
 ·simp only [Bool.not_true,Bool.false_eq_true,if_false]
  split
  ·exact (h1.elim (fun h=>h rfl) (fun h=>h rfl)).elim
  ·exact (h2.elim (fun h=>h _ rfl) (fun h=>h _ rfl)).elim
  ·rfl
 ·rfl
theorem Ar {op:BinOp}{t:TypeId}{x y:Operand}{cs ds:Array Value} (h:P.eqGuardType P.depth t=false) (w:World):(eqGuard op t x y (.agg cs) (.agg ds)).run P w=.ok () w:=by
 have hp:(program).run P w=.ok P w:=rfl
 unfold eqGuard;split<;>simp [hp,h]
theorem tX {x:AV}{v:Value} (hv:VR g w x v) (h:IU x=true):∃ cs,v=.agg cs:=by
 cases hv with
 | agg vs=>exact ⟨vs,rfl⟩
 | any v=>cases h
 | raw v=>cases h
 | slnil=>cases h
 | slzero=>cases h
 | sl=>cases h
 | cp=>cases h
 | tup=>cases h
 | ifc=>cases h
theorem nz {x:AV}{v:Value} (hv:VR g w x v) (h:ia x=true):v≠.nilIface∧∀ cs,v≠.agg cs:=by
 cases hv with
 | any v=>cases h
 | raw v=>cases v<;>first|(cases h;done)|exact ⟨by simp,by simp⟩
 | slnil=>exact ⟨by simp,by simp⟩
 | slzero=>exact ⟨by simp,by simp⟩
 | sl=>exact ⟨by simp,by simp⟩
 | cp=>exact ⟨by simp,by simp⟩
 | agg=>cases h
 | tup=>exact ⟨by simp,by simp⟩
 | ifc=>exact ⟨by simp,by simp⟩
theorem callM.call {dm:Bool}{f:AV}{xs:List AV}{σ:List Res}{K:AV→List Res→Prop}{KP:List PanicEntry→List Res→Prop} (h:callM κ dm P f xs σ K KP):il κ P f xs σ fun r σ'=>match r with | .ret x=>K x σ' | .pan c=>KP c σ':=by
 cases dm with
 | false=>exact h
 | true =>
  obtain ⟨x,h1,h2⟩:=h;unfold il at h1 ⊢;split at h1
  ·refine ⟨h1.1,fun φ g w vs hR hv=>CallsIn.mono (h1.2 φ g w vs hR hv) ?_⟩
   rintro e w' ⟨g',σ',r,a,b,c,rfl,rfl⟩;exact ⟨g',_,_,a,b,c,h2⟩
  ·intro φ g w vs hR hv
   obtain ⟨f,tmps,assign,body,k1,k2⟩:=h1 φ g w vs hR hv;refine ⟨f,tmps,assign,body,k1,RoundIn.mono k2 ?_⟩;rintro e w' ⟨g',σ',r,a,b,c,rfl,rfl⟩;exact ⟨g',_,_,a,b,c,h2⟩
  ·exact h1.elim
theorem w8 {dm:Bool}{o:Oper}{s:St}{a:Act}{K:AV→List Res→Prop}{KP:List PanicEntry→List Res→Prop}{next:Act→World→Prop}{Q:Exit→Act→World→Prop}
  (h:eZ κ dm P o s K KP) (hs:SR κ φ g s a w) (hn:sP κ φ g w s o.dst K next)
  (hp:∀ g' w' c σ',SR κ φ g' { s with σ:=σ' } a w'→GE g w g' w'→KP c σ'→Q (.panic c) a w'):o.wpIn (FD rd) 0 P a w next Q:=by
 have ht:=hs.tr
 have hev:=du ht
 obtain ⟨dst,op,ty,pos,af,gd⟩:=o;cases op with
 | move x=>exact bm (sem:=pure (a.eval x)) (by simp) (by simp [execOp]) hs (fun φ=>Does.pure (by rfl) (hev x) h) hn
 | assign x=>exact bm (sem:=pure (a.eval x)) (by simp) (by simp [execOp]) hs (fun φ=>Does.pure (by rfl) (hev x) h) hn
 | pick c x y =>
  simp only [eZ,E4] at h;split at h
  ·rename_i b hc
   have hb:=hev c
   rw [hc] at hb;have hb':=hb.raw_eq
   refine bm (sem:=pure (if b then a.eval x else a.eval y)) (by simp) (by simp [execOp,hb',asBool]) hs (fun φ=>Does.pure (by rfl) ?_ h) hn;cases b
   ·exact hev y
   ·exact hev x
  ·exact h.elim
 | alloc t=>exact bm (sem:=Instr.alloc t true (.tuple #[])) (by simp) rfl hs (fun φ=>Does.of_act h TR.nil rfl) hn
 | box t x=>exact bm (sem:=Instr.box t (a.eval x)) (by simp) rfl hs (fun φ=>Does.of_act h (TR.one (hev x)) rfl) hn
 | build t ps =>
  refine bm (sem:=Instr.build t (ps.map fun (i,x)=>(i,a.eval x))) (by simp) rfl hs (fun φ=>Does.of_act h (ht.map_ev2 ps) ?_) hn;simp only [MA.sem];rw [parts_eq]
 | buildSlice t n ps =>
  refine bm (sem:=Instr.buildSlice t n (ps.map fun (i,x)=>(i,a.eval x))) (by simp) rfl hs (fun φ=>Does.of_act h (ht.map_ev2 ps) ?_) hn;simp only [MA.sem];rw [parts_eq]
 | insert t m k x=>exact h.elim
 | load t x=>exact bm (sem:=Instr.loadAt t (a.eval x)) (by simp) rfl hs (fun φ=>BJ h (hev x)) hn
 | store t x y =>
  refine nj (K:=K) (sem:=Instr.storeAt t (a.eval x) (a.eval y)) (by simp) rfl hs (fun φ=>Does.of_act h (TR.two (hev x) (hev y)) rfl) hn
 | ready b=>exact h.elim
 | waits b=>exact h.elim
 | nilCheck x =>
  have hx:=hev x
  simp only [eZ,Pn] at h;split at h
  ·rename_i l hc
   rw [hc] at hx;obtain ⟨b,off,hv,_⟩:=hx.cp_inv;exact bm (sem:=pure (a.eval x)) (by simp) (by simp [execOp,hv]) hs (fun φ=>Does.pure (by rfl) hx h) hn
  ·rename_i ad hc
   rw [hc] at hx;have hv:=hx.raw_eq
   exact bm (sem:=pure (a.eval x)) (by simp) (by simp [execOp,hv]) hs (fun φ=>Does.pure (by rfl) hx h) hn
  ·rename_i f c d hc
   rw [hc] at hx;have hv:=hx.raw_eq
   exact bm (sem:=pure (a.eval x)) (by simp) (by simp [execOp,hv]) hs (fun φ=>Does.pure (by rfl) hx h) hn
  ·rename_i f c d hc
   rw [hc] at hx;have hv:=hx.raw_eq
   exact bm (sem:=pure (a.eval x)) (by simp) (by simp [execOp,hv]) hs (fun φ=>Does.pure (by rfl) hx h) hn
  ·exact h.elim
 | binOp op t x y yt =>
  have hx:=hev x
  have hy:=hev y
  obtain ⟨hG,h⟩:=h;have hc:∀ w,(eqGuard op t x y (a.eval x) (a.eval y)).run P w=.ok () w:=by
   intro w;rcases (Bool.or_eq_true _ _).mp hG with hG|hG
   ·rcases (Bool.or_eq_true _ _).mp hG with hG|hG
    ·exact rW (.inl (nz hx hG).1) (.inl (nz hx hG).2) w
    ·exact rW (.inr (nz hy hG).1) (.inr (nz hy hG).2) w
   ·simp only [Bool.and_eq_true,Bool.not_eq_true'] at hG
    obtain ⟨cs,h1⟩:=tX hx hG.1.1;obtain ⟨ds,h2⟩:=tX hy hG.1.2;rw [h1,h2];exact Ar hG.2 w
  have he:execOp a.eval (Oper.mk dst (.binOp op t x y yt) ty pos af gd)=(do pure (.value (← (do eqGuard op t x y (a.eval x) (a.eval y);binOp op t (a.eval x) (a.eval y))))):=rfl
  refine bm (by simp) he hs (fun φ=>?_) hn;have hd:Does κ P φ s.σ g w (binOp op t (a.eval x) (a.eval y)) K:=DA h hx hy
  intro hR;obtain ⟨v,w',g',z,σ',h1,h2⟩:=hd hR;refine ⟨v,w',g',z,σ', ?_,h2⟩;rw [Sem.run_bind,hc,Result.andThen_ok];exact h1
 | unOp op t x =>
  have hx:=hev x
  simp only [eZ,Yp] at h;split at h
  ·rename_i b hc
   rw [hc] at hx;have hv:=hx.raw_eq
   exact bm (sem:=Op.unary .not (a.eval x)) (by simp) rfl hs (fun φ=>Does.pure (v:=.bool (!b)) (by rw [hv];rfl) (.raw _) h) hn
  ·rename_i k n hc
   rw [hc] at hx;have hv:=hx.raw_eq
   exact bm (sem:=Op.unary .neg (a.eval x)) (by simp) rfl hs (fun φ=>Does.pure (v:=.int k (k.wrap (0 - n))) (by rw [hv];simp [Op.unary,Op.intArith]) (.raw _) h) hn
  ·exact h.elim
 | convert src dt x=>exact bm (sem:=convert src dt (a.eval x)) (by simp) rfl hs (fun φ=>AN h (hev x)) hn
 | sliceToArrayPointer t x=>exact h.elim
 | makeInterface t x=>exact bm (sem:=Instr.makeInterface t (a.eval x)) (by simp) rfl hs (fun φ=>Does.of_act h (TR.one (hev x)) rfl) hn
 | makeFunc fn first cap =>
  simp only [eZ,sg] at h;split at h
  ·rename_i f c hf hc
   have e1:=BX hf _ (ht.map_ev first.toList)
   have e2:=BX hc _ (ht.map_ev cap.toList)
   have e1':first.map a.eval=f.toArray:=by rw [← e1];apply Array.ext';simp
   have e2':cap.map a.eval=c.toArray:=by rw [← e2];apply Array.ext';simp
   exact bm (sem:=Instr.makeFunc fn (first.map a.eval) (cap.map a.eval)) (by simp) rfl hs (fun φ=>Does.pure (v:=.func fn f.toArray c.toArray) (by rw [e1',e2'];rfl) (.raw _) h) hn
  ·exact h.elim
 | makeMap t r =>
  cases r with
  | none=>exact bm (sem:=Instr.makeMap t none) (by simp) rfl hs (fun φ=>Does.of_act h TR.nil rfl) hn
  | some r=>exact h.elim
 | makeChan t x=>exact h.elim
 | makeSlice t n c=>exact bm (sem:=Instr.makeSlice t (a.eval n) (a.eval c)) (by simp) rfl hs (fun φ=>Does.of_act h (TR.two (hev n) (hev c)) rfl) hn
 | slice t x lo hi mx=>exact bm (sem:=Instr.sliceAt t (a.eval x) (lo.map a.eval) (hi.map a.eval) (mx.map a.eval)) (by simp) rfl hs (fun φ=>yH h (hev x) (OptR.map_ev ht lo) (OptR.map_ev ht hi) (OptR.map_ev ht mx)) hn
 | fieldAddr t x f=>exact bm (sem:=Instr.fieldAt t (a.eval x) f) (by simp) rfl hs (fun φ=>q9 h (hev x)) hn
 | field t x f=>exact bm (sem:=Instr.field t (a.eval x) f) (by simp) rfl hs (fun φ=>yR h (hev x)) hn
 | indexAddr t x i=>exact bm (sem:=Instr.indexAt t (a.eval x) (a.eval i)) (by simp) rfl hs (fun φ=>Dv h (hev x) (hev i)) hn
 | index t x i=>exact bm (sem:=Instr.index t (a.eval x) (a.eval i)) (by simp) rfl hs (fun φ=>vE h (hev x) (hev i)) hn
 | lookup t x i ok=>exact bm (sem:=Instr.lookup t (a.eval x) (a.eval i) ok) (by simp) rfl hs (fun φ=>Does.of_act h (TR.two (hev x) (hev i)) rfl) hn
 | mapUpdate t m k x =>
  exact nj (K:=K) (sem:=Instr.mapUpdate t (a.eval m) (a.eval k) (a.eval x)) (by simp) rfl hs (fun φ=>Does.of_act h (TR.cons (hev m) (TR.two (hev k) (hev x))) rfl) hn
 | mapEntry t m k=>exact h.elim
 | entryStore t m k x=>exact h.elim
 | range t x=>exact bm (sem:=Instr.range t (a.eval x)) (by simp) rfl hs (fun φ=>Does.of_act h (TR.one (hev x)) rfl) hn
 | next it str=>exact bm (sem:=Instr.next (a.eval it) str ty) (by simp) rfl hs (fun φ=>Does.of_act h (TR.one (hev it)) rfl) hn
 | entry it=>exact h.elim
 | typeAssert x xt at_ ok=>exact bm (sem:=Instr.typeAssert (a.eval x) xt at_ ok) (by simp) rfl hs (fun φ=>Does.of_act h (TR.one (hev x)) rfl) hn
 | extract x i =>
  have hx:=hev x
  simp only [eZ,OF] at h;split at h
  ·rename_i l hc
   obtain ⟨hlt,hk⟩:=h;rw [hc] at hx;generalize hv:a.eval x=v at hx;cases hx with
   | tup vs hsz hvv =>
   have h0:l[i]? = some (l[i]'hlt):=List.getElem?_eq_getElem hlt
   have:=hvv i _ h0
   have hlt':i < vs.size:=by omega
   refine bm (sem:=Instr.extract (a.eval x) i) (by simp) rfl hs (fun φ=>Does.pure (v:=vs.getD i undef) (x:=l.getD i .any) ?_ ?_ hk) hn
   ·simp [hv,Instr.extract,hlt']
   ·simpa [List.getD_eq_getElem?_getD,h0] using this
  ·exact h.elim
 | call c =>
  obtain ⟨callee,xs,ts⟩:=c;cases callee with
  | value f=>exact DM rfl hs h.call hn hp
  | invoke r m=>exact h.elim
  | builtin b =>
   have hbx:=fun b=>y5 (a:=a) (o:=Oper.mk dst (.call { callee:=.builtin b,args:=xs,argTypes:=ts }) ty pos af gd) (b:=b) (xs:=xs) (ts:=ts) rfl
   have hxs:=ht.map_ev xs.toList
   have exs:((xs.toList.map a.eval).toArray)=xs.map a.eval:=by apply Array.ext';simp
   cases b with
   | len =>
    obtain ⟨h1,h2,h3⟩:=h;have e1:=kb h1 0
    have e2:=kb h2 (.tmp 0)
    refine bm (sem:=Builtin.len_ #[ts.getD 0 0] ty #[a.eval (xs.getD 0 (.tmp 0))]) (by simp) ?_ hs (fun φ=>Di ty h3 (hev _)) hn;rw [hbx];have e3:xs.map a.eval = #[a.eval (xs.getD 0 (.tmp 0))]:=(congrArg (Array.map a.eval) e2).trans (by simp)
    rw [e3,← e1];rfl
   | cap =>
    obtain ⟨h1,h2,h3⟩:=h;have e1:=kb h1 0
    have e2:=kb h2 (.tmp 0)
    refine bm (sem:=Builtin.cap_ #[ts.getD 0 0] ty #[a.eval (xs.getD 0 (.tmp 0))]) (by simp) ?_ hs (fun φ=>Does.of_act h3 (TR.one (hev _)) rfl) hn;rw [hbx];have e3:xs.map a.eval = #[a.eval (xs.getD 0 (.tmp 0))]:=(congrArg (Array.map a.eval) e2).trans (by simp)
    rw [e3,← e1];rfl
   | append =>
    obtain ⟨h1,h2,h4,h3⟩:=h;have e1:=mV h1 0
    have e2:=mV h2 (.tmp 0)
    refine bm (sem:=Builtin.append_ #[ts.getD 0 0,ts.getD 0 0] ty #[a.eval (xs.getD 0 (.tmp 0)),a.eval (xs.getD 1 (.tmp 0))]) (by simp) ?_ hs (fun φ=>Does.of_act h3 (TR.two (hev _) (hev _)) rfl) hn;rw [hbx];have e3:xs.map a.eval = #[a.eval (xs.getD 0 (.tmp 0)),a.eval (xs.getD 1 (.tmp 0))]:=(congrArg (Array.map a.eval) e2).trans (by simp)
    have e5:(#[ts.getD 0 0,ts.getD 0 0]:Array TypeId)=ts:=(e1.trans (by rw [← h4])).symm
    rw [e3,e5];rfl
   | copy =>
    obtain ⟨h2,h3⟩:=h;have e2:=mV h2 (.tmp 0)
    refine bm (sem:=Builtin.copy_ ts ty #[a.eval (xs.getD 0 (.tmp 0)),a.eval (xs.getD 1 (.tmp 0))]) (by simp) ?_ hs (fun φ=>Does.of_act h3 (TR.two (hev _) (hev _)) rfl) hn;rw [hbx];have e3:xs.map a.eval = #[a.eval (xs.getD 0 (.tmp 0)),a.eval (xs.getD 1 (.tmp 0))]:=(congrArg (Array.map a.eval) e2).trans (by simp)
    rw [e3];rfl
   | max =>
    refine bm (sem:=Builtin.max_ ts ty (xs.map a.eval)) (by simp) ?_ hs (fun φ=>Does.of_act h hxs ?_) hn
    ·rw [hbx];rfl
    ·simp only [MA.sem,if_true];rw [exs]
   | min =>
    refine bm (sem:=Builtin.min_ ts ty (xs.map a.eval)) (by simp) ?_ hs (fun φ=>Does.of_act h hxs ?_) hn
    ·rw [hbx];rfl
    ·simp only [MA.sem,Bool.false_eq_true,if_false];rw [exs]
   | _=>exact h.elim
 | go c=>exact h.elim
 | defer c=>exact h.elim
 | panic x =>
  have hx:=hev x
  simp only [eZ,OV] at h;split at h
  ·rename_i t v hc
   rw [hc] at hx;have hv:=hx.raw_eq
   refine pF (by simp) ?_;have:(execOp a.eval (Oper.mk dst (.panic x) ty pos af gd)).run P w=.halt (.panic (.iface t v)) w:=by
    simp [execOp,hv,Instr.panic]
   rw [this,Oper.uponIn_panic];obtain ⟨ds,hd,hfr,hR,htt⟩:=hs;exact hp g w _ s.σ ⟨ds,hd,hfr,hR,htt⟩ (GE.refl _ _) h
  ·exact h.elim
 | send x y=>exact h.elim
 | recv t x b=>exact h.elim
 | select cs b=>exact h.elim
end
end Go.Abs
