/-
  Texts Ng, one behind the other.
-/
import Derived.Test.YthkabaiamcjdbaaGreatG31
set_option linter.unusedVariables false
set_option linter.unusedSimpArgs false
set_option maxHeartbeats 16000000
/-
 Chapter 14: ParserBehind (plain).
-/

namespace Go.Proofs.YthkabaiamcjdbaaGreat
open Go.Abs
abbrev pdL (n:Nat):List Int:=List.replicate n 32
def bhV (v:Nat):List Int:=match v with
 | 0=>[97]
 | 1=>[34,98,34]
 | 2=>[91,99,93]
 | 3=>[123,100,58,32,101,125]
 | 4=>[39,102,39]
 | 5=>[38,103,32,104]
 | 6=>[33,105,32,106]
 | _=>[]
abbrev scE (s:Int) (l:List Int):EvV:=⟨7,textI l,.empty,.empty,s,false⟩
def bhE (v:Nat):List EvV:=match v with
 | 0=>[scE 1 [97]]
 | 1=>[scE 3 [98]]
 | 2=>[openE 3 tr0,scE 1 [99],shutE 4]
 | 3=>[openE 5 tr0,scE 1 [100],scE 1 [101],shutE 6]
 | 4=>[scE 2 [102]]
 | 5=>[⟨7,textI [104],.empty,textI [103],1,false⟩]
 | 6=>[⟨7,textI [106],textI [33,105],.empty,1,false⟩]
 | _=>[emptyP tp0]
def bhT (n t:Nat):List Int:=match t with
 | 0=>[]
 | 1=>[32,35,32,120]
 | 2=>[10,35,32,120]
 | 3=>[10,10]
 | _=>[32,32,32,35,32,121,10]++pdL n++pdL n++[32,35,32,122]
def bhR (n v t:Nat):List (List Int):=match t with
 | 0=>[pdL n++[45,32]++bhV v]
 | 1=>[pdL n++[45,32]++bhV v++[32,35,32,120]]
 | 2=>[pdL n++[45,32]++bhV v,[35,32,120]]
 | 3=>[pdL n++[45,32]++bhV v,[],[]]
 | _=>[pdL n++[45,32]++bhV v++[32,32,32,35,32,121],pdL n++pdL n++[32,35,32,122]]
theorem bhR_text (n v t:Nat):(bhR n v t).flatMap (· ++ [10])=pdL n++[45,32]++bhV v++bhT n t++[10]:=by
 unfold bhR bhT
 split<;>simp
abbrev bhL (n v t:Nat):List Ln:=(bhR n v t).map lineOf
abbrev bhEnd:List Ln:=[(0,[]),(2,[35,32,101,110,100])]
def bhOk (n v t:Nat):Bool:=okPart n (entF n) (bhL n v t) (bhE v) && (okLast n (entF n) (bhL n v t) (bhE v) && (okLast n (entF n) (bhL n v t++bhEnd) (bhE v) && (sgL ((bhL n v t).headD (0,[])) n 45 && !blankI (((bhL n v t).headD (0,[])).2.getD 0 0))))
theorem bh_ok0:((List.range 9).all fun n=>(List.range 8).all fun v=>(List.range 5).all fun t=>bhOk n v t)=true:=by decide +kernel
theorem bh_ok {n v t:Nat} (h1:n < 9) (h2:v < 8) (h3:t < 5):bhOk n v t=true:=all_range (all_range (all_range bh_ok0 h1) h2) h3
abbrev Bh:=Nat × Nat
abbrev bhP (n:Nat) (e:Bh):Part:=(bhL n e.1 e.2,bhE e.1)
theorem bh_doc {n:Nat}{b:Bool}{tl:List Ln} (htl:tl=[]∨tl=bhEnd) (hn:n < 9) {l:List Bh}{last:Bh} (hl:∀ e∈l++[last],e.1 < 8∧e.2 < 5) (hs:Small (headL b++(allL ((l++[last]).map (bhP n))++tl))) :
  ∃ k,docP (headL b++(allL ((l++[last]).map (bhP n))++tl)) 0 0=.ok (openP 3 tp0::(allE ((l++[last]).map (bhP n))++[shutE 4]),k):=by
 generalize hls:headL b++(allL ((l++[last]).map (bhP n))++tl)=ls at *
 have hk:∀ e∈l++[last],PartOk n (entF n) (bhP n e)∧LastOk n (entF n) (bhP n e)∧LastOk n (entF n) (bhL n e.1 e.2++bhEnd,bhE e.1)∧sgL ((bhL n e.1 e.2).headD (0,[])) n 45=true∧blankI (((bhL n e.1 e.2).headD (0,[])).2.getD 0 0)=false:=fun e he=>by
  obtain ⟨h1,h2⟩:=hl e he
  have h:=bh_ok hn h1 h2
  unfold bhOk at h
  simp only [Bool.and_eq_true,Bool.not_eq_true'] at h
  exact ⟨okPart_s h.1,okLast_s h.2.1,okLast_s h.2.2.1,h.2.2.2.1,h.2.2.2.2⟩
 have hhd:∀ e:Bh,∀ tl:List Ln,((bhL n e.1 e.2)++tl).headD (0,[])=(bhL n e.1 e.2).headD (0,[]):=fun e tl=>by
  unfold bhL bhR
  split<;>rfl
 have hL:LastOk n (entF n) (bhL n last.1 last.2++tl,bhE last.1):=by
  rcases htl with rfl|rfl
  ·rw [List.append_nil];exact (hk last (by simp)).2.1
  ·exact (hk last (by simp)).2.2.1
 have hP:∀ e∈l.map (bhP n),PartOk n (entF n) e:=fun e he=>by
  obtain ⟨e0,h0,rfl⟩:=List.mem_map.1 he
  exact (hk e0 (by simp [h0])).1
 have hd:∀ e∈l.map (bhP n)++[(bhL n last.1 last.2++tl,bhE last.1)],sgL (e.1.headD (0,[])) n 45=true:=fun e he=>by
  rcases List.mem_append.1 he with he|he
  ·obtain ⟨e0,h0,rfl⟩:=List.mem_map.1 he
   exact (hk e0 (by simp [h0])).2.2.2.1
  ·rw [List.mem_singleton.1 he]
   show sgL ((bhL n last.1 last.2++tl).headD (0,[])) n 45=true
   rw [hhd]
   exact (hk last (by simp)).2.2.2.1
 have hls2:ls=headL b++allL (l.map (bhP n)++[(bhL n last.1 last.2++tl,bhE last.1)]):=by
  rw [← hls];simp [allL]
 have hev:allE (l.map (bhP n)++[(bhL n last.1 last.2++tl,bhE last.1)])=allE ((l++[last]).map (bhP n)):=by simp [allE]
 have hlen:(l.map (bhP n)).length≤ls.length:=by
  have h1:∀ l:List Part,(∀ e∈l,0 < e.1.length)→l.length≤(allL l).length:=fun l=>by
   induction l with
   | nil=>intro _;simp
   | cons e l ih =>
    intro h
    have a1:=ih (fun x hx=>h x (by simp [hx]))
    have a2:=h e (by simp)
    show l.length+1≤(e.1++allL l).length
    rw [List.length_append];omega
  have h2:=h1 _ fun e he=>(hP e he).1
  rw [hls2,List.length_append]
  unfold allL at h2 ⊢
  rw [List.flatMap_append,List.length_append]
  omega
 obtain ⟨k,a1,a2⟩:=seq_parts (t:=tp0) ⟨by omega,by omega⟩ hs hL hP hd hls2 hlen
 obtain ⟨x,r,hx,hst,hbl,hsg⟩:=parts_head (T:=fun x=>blankI (x.2.getD 0 0)=false∧sgL x n 45=true) hP hL (fun e he=>⟨by
  rcases List.mem_append.1 he with he|he
  ·obtain ⟨e0,h0,rfl⟩:=List.mem_map.1 he
   exact (hk e0 (by simp [h0])).2.2.2.2
  ·rw [List.mem_singleton.1 he]
   show blankI (((bhL n last.1 last.2++tl).headD (0,[])).2.getD 0 0)=false
   rw [hhd]
   exact (hk last (by simp)).2.2.2.2,hd e he⟩)
 rw [hev] at a1
 refine ⟨_,doc_head (b:=b) (x:=x) (r:=r) (s:=n) (by omega) (by rw [hls2,hx]) hst hbl ?_ a2⟩
 have hl0:lineP ls (((headL b).length:Nat):Int)=x:=by
  have:=line_at (pre:=headL b) (a:=[]) (x:=x) (r:=r) (by rw [hls2,hx];rfl:ls=headL b++([]++x::r))
  simpa using this
 unfold atP
 rw [sgL_eq,hl0,hsg,if_pos rfl,if_pos rfl]
 exact a1
end Go.Proofs.YthkabaiamcjdbaaGreat
