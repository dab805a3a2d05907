/-
  Texts Nm, Iz, one behind the other.
-/
import Derived.Test.YthkabaiamcjdbaaGreatG31
import Derived.Test.YthkabaiamcjdbaaGreatG32
set_option linter.unusedVariables false
set_option linter.unusedSimpArgs false
set_option maxHeartbeats 16000000
/-
 Chapter 14: texts of rows;ParserBehind's texts (plain).
-/


namespace Go.Proofs.YthkabaiamcjdbaaGreat
open Go.Abs
theorem str_addT2 {a b:List Int}{v:Option Value} (h:a.length+b.length≤200000000):(if (((textI a).size+(textI b).size:Nat):Int) > IntKind.i64.max then none else v)=v:=by
 have h1:=encL_len a
 have h2:=encL_len b
 rw [← bytesI_text,bytesI_len] at h1 h2
 exact str_add3 (by omega)
def rowsOk (m:Nat) (rows:List (List Int)):Prop:=rows.length≤m∧∀ r∈rows,r.length≤100∧GoodR r
theorem rowsOk.app {m m':Nat}{a b:List (List Int)} (ha:rowsOk m a) (hb:rowsOk m' b):rowsOk (m+m') (a++b):=⟨by rw [List.length_append];have:=ha.1;have:=hb.1;omega,fun r hr=>by
 rcases List.mem_append.1 hr with h|h
 ·exact ha.2 r h
 ·exact hb.2 r h⟩
theorem rowsOk.len {m:Nat}:∀ {rows:List (List Int)},(∀ r∈rows,r.length≤100)→rows.length≤m→(rows.flatMap (· ++ [(10:Int)])).length≤101 * m
 | [],_,_=>by simp
 | r::rs,h,hl=>by
  have ih:=rowsOk.len (m:=m - 1) (rows:=rs) (fun x hx=>h x (by simp [hx])) (by simp at hl;omega)
  have:=h r (by simp)
  show ((r++[10])++rs.flatMap (· ++ [10])).length≤_
  rw [List.length_append,List.length_append,List.length_singleton]
  simp only [List.length_cons] at hl
  omega
theorem rowsOk.small {m:Nat}{rows:List (List Int)} (h:rowsOk m rows) (hm:m≤2000):Small (rows.map lineOf):=⟨by rw [List.length_map];have:=h.1;omega,fun x hx=>by
 obtain ⟨r,hr,rfl⟩:=List.mem_map.1 hx
 have h1:=(h.2 r hr).1
 have h2:=(List.takeWhile_prefix (· == (32:Int)) (l:=r)).length_le
 have h3:=(List.dropWhile_suffix (· == (32:Int)) (l:=r)).length_le
 exact ⟨Nat.le_trans h3 (by omega),by show (0:Int)≤((r.takeWhile (· == 32)).length:Nat);omega,by show (((r.takeWhile (· == 32)).length:Nat):Int)≤2000;omega⟩⟩
theorem rowsOk.flat {α:Type}{f:α→List (List Int)}{m:Nat}:∀ {l:List α},(∀ e∈l,rowsOk m (f e))→rowsOk (m * l.length) (l.flatMap f)
 | [],_=>⟨by simp,fun r hr=>by simp at hr⟩
 | e::l,h=>by
  have h1:=h e (by simp)
  have h2:=rowsOk.flat (l:=l) (fun x hx=>h x (by simp [hx]))
  have:=h1.app h2
  rw [Nat.add_comm] at this
  exact this
def rowsB9 (rows:List (List Int)):Bool:=Nat.ble rows.length 3 && rows.all fun r=>Nat.ble r.length 100 && r.all fun c=>decide (32≤c) && decide (c≤126)
theorem rowsB9_s {rows:List (List Int)} (h:rowsB9 rows=true):rowsOk 3 rows:=by
 unfold rowsB9 at h
 simp only [Bool.and_eq_true,Nat.ble_eq,List.all_eq_true,decide_eq_true_eq] at h
 exact ⟨h.1,fun r hr=>⟨(h.2 r hr).1,fun c hc=>.inr ((h.2 r hr).2 c hc)⟩⟩
theorem bh_rows0:((List.range 9).all fun n=>(List.range 8).all fun v=>(List.range 5).all fun t=>rowsB9 (bhR n v t))=true:=by decide +kernel
theorem bh_rows {n v t:Nat} (h1:n < 9) (h2:v < 8) (h3:t < 5):rowsOk 3 (bhR n v t):=rowsB9_s (all_range (all_range (all_range bh_rows0 h1) h2) h3)
abbrev bV (a:Int):Nat:=(a % 8).toNat
abbrev bT (a:Int):Nat:=(a / 8 % 8 % 5).toNat
abbrev bhs (l:List Int):List Bh:=l.map fun a=>(bV a,bT a)
abbrev bhs0 (l:List Int):List Bh:=l.map fun a=>(bV a,0)
abbrev bhX (n:Nat) (l:List Bh):List Int:=(l.flatMap fun e=>bhR n e.1 e.2).flatMap (· ++ [10])
theorem bhX_snoc {n:Nat}{l:List Bh}{e:Bh}:bhX n (l++[e])=bhX n l++(pdL n++[45,32]++bhV e.1++bhT n e.2++[10]):=by
 unfold bhX
 rw [List.flatMap_append,List.flatMap_append,List.flatMap_singleton,bhR_text]
theorem take_snoc {l:List Int}{i:Nat} (h:i < l.length):l.take (i+1)=l.take i++[l.getD i 0]:=by
 rw [List.take_add_one,List.getD_eq_getElem?_getD,List.getElem?_eq_getElem h];rfl
theorem bhs_ok {l:List Int}{n:Nat} (hn:n < 9):(∀ e∈bhs l,e.1 < 8∧e.2 < 5)∧(∀ e∈bhs0 l,e.1 < 8∧e.2 < 5):=⟨fun e he=>by
 obtain ⟨a,-,rfl⟩:=List.mem_map.1 he
 dsimp only [bV,bT];omega,fun e he=>by
 obtain ⟨a,-,rfl⟩:=List.mem_map.1 he
 dsimp only [bV];omega⟩
theorem bhX_rows {l:List Bh}{n:Nat} (hn:n < 9) (h:∀ e∈l,e.1 < 8∧e.2 < 5):rowsOk (3 * l.length) (l.flatMap fun e=>bhR n e.1 e.2):=rowsOk.flat fun e he=>bh_rows hn (h e he).1 (h e he).2
theorem bhX_len {l:List Bh}{n:Nat} (hn:n < 9) (h:∀ e∈l,e.1 < 8∧e.2 < 5) (hl:l.length≤15):(bhX n l).length≤5000:=by
 have h1:=bhX_rows hn h
 have h2:=rowsOk.len (m:=45) (fun r hr=>(h1.2 r hr).1) (by have:=h1.1;omega)
 exact Nat.le_trans h2 (by decide)
theorem bhX_lines {l:List Bh}{n:Nat}:(l.flatMap fun e=>bhR n e.1 e.2).map lineOf=allL (l.map (bhP n)):=by
 unfold allL
 rw [List.map_flatMap,List.flatMap_map]
theorem bh_evs {l:List Int}{n:Nat}:allE ((bhs0 l).map (bhP n))=allE ((bhs l).map (bhP n)):=by
 unfold allE bhs bhs0
 rw [List.flatMap_map,List.flatMap_map,List.flatMap_map,List.flatMap_map]
abbrev bhF (n:Nat) (l:List Int):List Int:=[35,32,104,101,97,100,10,10]++bhX n (bhs l)++[10,32,32,35,32,101,110,100]
theorem bh_all {l:List Int}{n:Nat} (hn:n < 9) (h0:0 < l.length) (hl:l.length≤15):∃ ev k k2,docP (readR (bhX n (bhs0 l))).1 0 0=.ok (ev,k)∧docP (readR (bhF n l)).1 0 0=.ok (ev,k2)∧ev.length≤1000∧Asc (bhX n (bhs0 l))∧Asc (bhF n l)∧Small (readR (bhX n (bhs0 l))).1∧Small (readR (bhF n l)).1∧(0:Int) < (readR (bhX n (bhs0 l))).1.length∧(0:Int) < (readR (bhF n l)).1.length:=by
 have hbl:(bhs l).length=l.length:=List.length_map _
 have hbl0:(bhs0 l).length=l.length:=List.length_map _
 obtain ⟨g1,g2⟩:=bhs_ok (l:=l) hn
 have r1:=bhX_rows hn g1
 have r2:=bhX_rows hn g2
 have q1:=bhX_len hn g1 (by simpa using hl)
 have q2:=bhX_len hn g2 (by simpa using hl)
 have rr:rowsOk 2 [[35,32,104,101,97,100],[]]:=⟨by decide,fun r hr=>by
  simp at hr
  rcases hr with rfl|rfl
  ·exact ⟨by decide,fun c hc=>by simp at hc;omega⟩
  ·exact ⟨by decide,fun c hc=>by simp at hc⟩⟩
 have re:rowsOk 1 [[]]:=⟨by decide,fun r hr=>by simp at hr;subst hr;exact ⟨by decide,fun c hc=>by simp at hc⟩⟩
 have re2:rowsOk 1 [[32,32,35,32,101,110,100]]:=⟨by decide,fun r hr=>by simp at hr;subst hr;exact ⟨by decide,fun c hc=>by simp at hc;omega⟩⟩
 have rF:=(rr.app r1).app re
 have e1:(readR (bhX n (bhs0 l))).1=headL false++(allL ((bhs0 l).map (bhP n))++[]):=by
  rw [List.append_nil]
  show _=allL ((bhs0 l).map (bhP n))
  rw [← bhX_lines]
  exact rows_lines fun r hr=>(r2.2 r hr).2
 have e2:bhF n l=([[35,32,104,101,97,100],[]]++(bhs l).flatMap (fun e:Bh=>bhR n e.1 e.2)++[([]:List Int)]).flatMap (· ++ [10])++[32,32,35,32,101,110,100]:=by
  unfold bhF bhX
  simp
 have e3:(readR (bhF n l)).1=headL true++(allL ((bhs l).map (bhP n))++bhEnd):=by
  rw [e2,rows_lines_end (fun r hr=>(rF.2 r hr).2) (re2.2 _ (by simp)).2 (by decide),List.map_append,List.map_append,List.map_append,bhX_lines,List.append_assoc,List.append_assoc]
  rfl
 have s1:Small (readR (bhX n (bhs0 l))).1:=by
  have:=r2.small (by rw [hbl0];omega)
  rw [bhX_lines] at this
  rw [e1,List.append_nil]
  exact this
 have s2:Small (readR (bhF n l)).1:=by
  have:=((rr.app r1).app (re.app re2)).small (by rw [hbl];omega)
  rw [List.map_append,List.map_append,bhX_lines] at this
  rw [e3]
  rw [List.append_assoc] at this
  exact this
 have hsn:∀ f:Int→Bh,∃ (l':List Bh) (x:Bh),l.map f=l'++[x]:=fun f=>by
  refine ⟨(l.map f).dropLast,(l.map f).getLast (by intro h;have:=congrArg List.length h;rw [List.length_map,List.length_nil] at this;omega), ?_⟩
  rw [List.dropLast_concat_getLast]
 have hE:(allE ((bhs l).map (bhP n))).length≤4 * l.length:=by
  clear e1 e2 e3 s1 s2 hsn r1 r2 rF g1 g2 q1 q2
  clear h0 hl hbl hbl0
  induction l with
  | nil=>simp
  | cons a l ih =>
   show (bhE (bV a)++allE ((bhs l).map (bhP n))).length≤_
   rw [List.length_append,List.length_cons]
   have:(bhE (bV a)).length≤4:=by unfold bhE;split<;>simp
   omega
 obtain ⟨l1,x1,hx1⟩:=hsn fun a=>(bV a,0)
 obtain ⟨l2,x2,hx2⟩:=hsn fun a=>(bV a,bT a)
 have g3:∀ e∈l1++[x1],e.1 < 8∧e.2 < 5:=by rw [← hx1];exact g2
 have g4:∀ e∈l2++[x2],e.1 < 8∧e.2 < 5:=by rw [← hx2];exact g1
 obtain ⟨k1,d1⟩:=bh_doc (b:=false) (tl:=[]) (.inl rfl) hn g3 (by rw [← hx1,← e1];exact s1)
 obtain ⟨k2,d2⟩:=bh_doc (b:=true) (tl:=bhEnd) (.inr rfl) hn g4 (by rw [← hx2,← e3];exact s2)
 rw [← hx1,← e1,bh_evs] at d1
 rw [← hx2,← e3] at d2
 refine ⟨_,k1,k2,d1,d2,by simp only [List.length_cons,List.length_append,List.length_nil];omega,⟨by omega,fun c hc=>?_⟩,⟨?_,fun c hc=>?_⟩,s1,s2, ?_, ?_⟩
 ·have:=rows_good (fun r hr=>(r2.2 r hr).2) c hc
  omega
 ·unfold bhF
  rw [List.length_append,List.length_append]
  simp only [List.length_cons,List.length_nil]
  omega
 ·rw [e2] at hc
  rcases List.mem_append.1 hc with hc|hc
  ·have:=rows_good (fun r hr=>(rF.2 r hr).2) c hc
   omega
  ·simp at hc;omega
 ·have:=(bh_ok hn (g3 x1 (by simp)).1 (g3 x1 (by simp)).2)
  rw [e1,List.append_nil]
  show (0:Int) < ((allL ((bhs0 l).map (bhP n))).length:Nat)
  rw [← bhX_lines,List.length_map,show bhs0 l=l1++[x1] from hx1,List.flatMap_append,List.length_append]
  have:0 < (bhR n x1.1 x1.2).length:=by unfold bhR;split<;>simp
  simp
  omega
 ·rw [e3]
  simp
  omega
end Go.Proofs.YthkabaiamcjdbaaGreat
/-
 Walks: chapter 13's laws: events that are the same.
-/



namespace Go.Proofs.YthkabaiamcjdbaaGreat
open Go.Abs
variable {κ:Ctx} {σ:List Res} {K:Ret→List Res→Prop} {o o':Option (Option (Nat × Nat))}
instance:TSix Tryz.prog 26:=⟨⟨_,_,_,_,_,_,_,_,Tryz.underlying26,⟨rfl,rfl,rfl,rfl,rfl,rfl⟩,⟨Tryz.underlying3,Tryz.underlying9,Tryz.underlying9,Tryz.underlying9,Tryz.underlying3,Tryz.underlying4⟩,⟨ag3,ag9,ag9,ag9,ag3,ag4⟩⟩,by decide +kernel,by decide +kernel⟩
theorem ev_at {l:List EvV}{i:Nat} (h:i < l.length) (cs:List AV):((cellsL (l.map EVA)++cs).drop (i * 6)).take 6=[I (l.getD i ev0).k,.raw (.string (l.getD i ev0).x),.raw (.string (l.getD i ev0).t),.raw (.string (l.getD i ev0).a),I (l.getD i ev0).s,B (l.getD i ev0).f]:=by
 have:=cells_at (sz:=6) (by decide) (l.map EVA) cs (evs_el l) i (EVA (l.getD i ev0)) (by rw [List.getElem?_map,List.getElem?_eq_getElem h,List.getD_eq_getElem?_getD,List.getElem?_eq_getElem h];rfl)
 rw [this];rfl
end Go.Proofs.YthkabaiamcjdbaaGreat
