/-
  Texts Se, Nj, Nk, Nl, Nn, one behind the other.
-/
import Derived.Test.YthkabaiamcjdbaaGreatG33
set_option linter.unusedVariables false
set_option linter.unusedSimpArgs false
set_option maxHeartbeats 16000000
/-
 Plain facts for chapter 7's laws. No program in sight.
-/

namespace Go.Abs
/-! ### Texts without escapes -/
def plainG (c:Int):Int × Bool:=(c,false)
theorem readGo_plain (last:Bool):∀ (f:Nat) (acc:List (Int × Bool)) (l:List Int),l.length≤f→(∀ c∈l,¬c=92)→readGo last f acc l=(acc++l.map plainG,false,0)
 | 0,acc,l,h,_=>by
  obtain rfl:=List.eq_nil_of_length_eq_zero (by omega:l.length=0)
  simp [readGo]
 | f+1,acc,[],_,_=>by simp [readGo]
 | f+1,acc,c::r,h,hc=>by
  simp only [readGo]
  rw [if_pos (hc c (by simp)),readGo_plain last f _ r (by simpa using h) (fun x hx=>hc x (by simp [hx]))]
  simp [plainG]
theorem readLine_plain {last:Bool}{l:List Int} (h:∀ c∈l,¬c=92):readLine last l=(l.map plainG,false,0):=by
 unfold readLine
 rw [readGo_plain last _ _ _ (Nat.le_refl _) h];rfl
theorem linesD_plain:∀ {l:List (List Int)},(∀ t∈l,∀ c∈t,¬c=92)→linesD l=(l.map (fun t=>(t.map plainG,false)),0)
 | [],_=>rfl
 | t::r,h=>by
  simp only [linesD]
  rw [readLine_plain (h t (by simp)),linesD_plain (fun x hx=>h x (by simp [hx]))]
  simp
theorem soft_plain (c:Int):softG (plainG c)=blankI c:=by simp [softG,plainG]
theorem dw_plain (t:List Int):(t.map plainG).dropWhile softG=(t.dropWhile blankI).map plainG:=by
 induction t with
 | nil=>rfl
 | cons c r ih =>
  rw [List.map_cons,List.dropWhile_cons,List.dropWhile_cons,soft_plain]
  split
  ·exact ih
  ·rfl
theorem back_plain (t:List Int):((t.map plainG).reverse.dropWhile softG).reverse=(backI t).map plainG:=by
 rw [← List.map_reverse,dw_plain,← List.map_reverse];rfl
theorem trimG_plain (i n:Nat) (t:List Int):trimG i n (t.map plainG,false)=(trimAt n i t).map plainG:=by
 unfold trimG trimAt backG frontG
 by_cases h1:0 < i<;>by_cases h2:i+1 < n<;>simp [h1,h2,dw_plain,back_plain]
theorem map_plain_fst (t:List Int):(t.map plainG).map (·.1)=t:=by rw [List.map_map];exact List.map_id t
theorem map_plain_nil (t:List Int):t.map plainG=[]↔t=[]:=by simp
theorem between_sep (e:Nat):(if e=0 then [(32:Int)] else [])++List.replicate e 10=between e:=by
 unfold between
 split
 ·rename_i h;rw [h];rfl
 ·rfl
theorem foldG_plain (n:Nat):∀ (l:List (List Int)) (i e:Nat),n=i+l.length→foldG n i false e (l.map (fun t=>(t.map plainG,false)))=flowGo false e (trims n i l)
 | [],i,e,_=>rfl
 | t::r,i,e,h=>by
  simp only [List.length_cons] at h
  have hr:(i+1 < n)↔trims n (i+1) r≠[]:=by
   rw [Ne,← List.length_eq_zero_iff,trims_len];omega
  simp only [List.map_cons,foldG,trims,trimG_plain,map_plain_nil,map_plain_fst]
  by_cases hs:trimAt n i t=[]∧i+1 < n
  ·rw [if_pos ⟨hs.1,trivial,trivial,hs.2⟩,flowGo_empty hs.1 (hr.1 hs.2),foldG_plain n r (i+1) (e+1) (by omega)]
  ·rw [if_neg (fun h2=>hs ⟨h2.1,h2.2.2.2⟩),flowGo_cons (fun h2=>hs ⟨h2.1,hr.2 h2.2⟩),foldG_plain n r (i+1) 0 (by omega)]
   simp only [true_and]
   rw [← between_sep e]
theorem foldD_plain (l:List (List Int)):foldD (l.map (fun t=>(t.map plainG,false)))=flowF l:=by
 unfold foldD flowF
 rw [List.length_map]
 cases l with
 | nil=>rfl
 | cons t r =>
  simp only [List.map_cons,foldG,trims,trimG_plain,map_plain_fst,flowGo_first]
  rw [if_neg (fun h=>by cases h.2.2.1),foldG_plain _ r 1 0 (by simp;omega)]
  simp
theorem readD_plain {l:List (List Int)} (h:∀ t∈l,∀ c∈t,¬c=92):readD l=(flowF l,0):=by
 rw [readD_ok (by rw [linesD_plain h]),linesD_plain h,foldD_plain]
end Go.Abs
/-
 Chapter 14: ParserScalars (plain): what is folded,and how it stands on lines.
-/


namespace Go.Proofs.YthkabaiamcjdbaaGreat
open Go.Abs
abbrev Gp:=Nat × Int
abbrev Ltr (c:Int):Prop:=97≤c∧c≤112
def gpB (r:List Gp):List (List Int):=r.flatMap fun g=>List.replicate g.1 []++[[g.2]]
def gpT (r:List Gp):List Int:=r.flatMap fun g=>between g.1++[g.2]
abbrev txT (w:Int) (r:List Gp):List Int:=w::gpT r
def lnS (n:Int) (q:List Int):List Gp→List Ln
 | []=>[]
 | g::r=>List.replicate g.1 (0,[])++(n,g.2::(if r.isEmpty then q else []))::lnS n q r
theorem gpB_cons (g:Gp) (r:List Gp):gpB (g::r)=List.replicate g.1 []++[g.2]::gpB r:=by simp [gpB]
theorem gpT_cons (g:Gp) (r:List Gp):gpT (g::r)=between g.1++g.2::gpT r:=by simp [gpT]
theorem ltr_blank {c:Int} (h:Ltr c):blankI c=false:=by unfold blankI;simp;omega
theorem flowGo_rep {t:List Int}{r:List (List Int)} (ht:t≠[]):∀ k e,flowGo false e (List.replicate k []++t::r)=between (e+k)++t++flowGo false 0 r
 | 0,e=>by
  rw [List.replicate_zero,List.nil_append,flowGo_cons (fun h=>ht h.1),Nat.add_zero]
 | k+1,e=>by
  rw [List.replicate_succ,List.cons_append,flowGo_empty rfl (by simp),flowGo_rep ht k (e+1),show e+1+k=e+(k+1) by omega]
theorem flowGo_gp:∀ r,flowGo false 0 (gpB r)=gpT r
 | []=>rfl
 | g::r=>by rw [gpB_cons,gpT_cons,flowGo_rep (by simp),flowGo_gp r,Nat.zero_add];simp
theorem backI_one {c:Int} (h:blankI c=false):backI [c]=[c]:=by simp [backI,List.dropWhile_cons,h]
theorem trims_id:∀ (l:List (List Int)) (n i:Nat),(∀ t∈l,t=[]∨∃ c,blankI c=false∧t=[c])→trims n i l=l
 | [],_,_,_=>rfl
 | t::l,n,i,h=>by
  have ht:trimAt n i t=t:=by
   rcases h t (by simp) with rfl|⟨c,hc,rfl⟩
   ·unfold trimAt;split<;>split<;>rfl
   ·have hd:[c].dropWhile blankI=[c]:=by simp [List.dropWhile_cons,hc]
    unfold trimAt
    rw [hd]
    split<;>split<;>first|rfl|exact backI_one hc
  rw [trims,ht,trims_id l n (i+1) (fun t ht=>h t (by simp [ht]))]
theorem gpB_mem:∀ {r:List Gp},(∀ g∈r,Ltr g.2)→∀ t∈gpB r,t=[]∨∃ c,Ltr c∧t=[c]
 | [],_,t,ht=>by simp [gpB] at ht
 | g::r,h,t,ht=>by
  rw [gpB_cons] at ht
  rcases List.mem_append.1 ht with ht|ht
  ·exact .inl (List.eq_of_mem_replicate ht)
  ·rcases List.mem_cons.1 ht with rfl|ht
   ·exact .inr ⟨g.2,h g (by simp),rfl⟩
   ·exact gpB_mem (fun x hx=>h x (by simp [hx])) t ht
theorem all_gp {w:Int}{r:List Gp} (hw:Ltr w) (hr:∀ g∈r,Ltr g.2):∀ t∈[w]::gpB r,t=[]∨∃ c,Ltr c∧t=[c]:=fun t ht=>by
 rcases List.mem_cons.1 ht with rfl|ht
 ·exact .inr ⟨w,hw,rfl⟩
 ·exact gpB_mem hr t ht
theorem flow_gp {w:Int}{r:List Gp} (hw:Ltr w) (hr:∀ g∈r,Ltr g.2):flowF ([w]::gpB r)=txT w r:=by
 unfold flowF
 rw [trims_id _ _ _ (fun t ht=>by
  rcases all_gp hw hr t ht with h|⟨c,hc,h⟩
  ·exact .inl h
  ·exact .inr ⟨c,ltr_blank hc,h⟩),flowGo_first,flowGo_gp]
 rfl
theorem read_gp {w:Int}{r:List Gp} (hw:Ltr w) (hr:∀ g∈r,Ltr g.2):readD ([w]::gpB r)=(txT w r,0):=by
 rw [readD_plain (fun t ht c hc=>by
  rcases all_gp hw hr t ht with rfl|⟨x,hx,rfl⟩
  ·simp at hc
  ·simp at hc;omega),flow_gp hw hr]
theorem und_gp {w:Int}{r:List Gp} (hw:Ltr w) (hr:∀ g∈r,Ltr g.2):([w]::gpB r).map und=[w]::gpB r:=by
 have:∀ l:List (List Int),(∀ t∈l,t=[]∨∃ c,Ltr c∧t=[c])→l.map und=l:=fun l=>by
  induction l with
  | nil=>intro _;rfl
  | cons t l ih =>
   intro h
   rw [List.map_cons,ih (fun t ht=>h t (by simp [ht]))]
   rcases h t (by simp) with rfl|⟨c,-,rfl⟩<;>rfl
 exact this _ (all_gp hw hr)
theorem blkGo_rep {c0 c:Int}{r:List (List Int)} (h0:blankI c0=false) (h:blankI c=false):∀ k e,blkGo (some [c0]) e (List.replicate k []++[c]::r)=between (e+k)++[c]++blkGo (some [c]) 0 r
 | 0,e=>by
  rw [List.replicate_zero,List.nil_append,blkGo_cons (by simp),Nat.add_zero]
  have:sep (some [c0]) e [c]=between e:=by
   unfold sep spacedI
   dsimp only
   rw [List.getD_cons_zero,List.getD_cons_zero,h0,h]
   rfl
  rw [this]
 | k+1,e=>by
  rw [List.replicate_succ,List.cons_append,blkGo_empty rfl,blkGo_rep h0 h k (e+1),show e+1+k=e+(k+1) by omega]
theorem blkGo_gp:∀ (r:List Gp) (c0:Int),blankI c0=false→(∀ g∈r,Ltr g.2)→blkGo (some [c0]) 0 (gpB r)=gpT r
 | [],_,_,_=>rfl
 | g::r,c0,h0,h=>by
  have hg:=ltr_blank (h g (by simp))
  rw [gpB_cons,gpT_cons,blkGo_rep h0 hg,blkGo_gp r g.2 hg (fun x hx=>h x (by simp [hx])),Nat.zero_add]
  simp
theorem last_gp:∀ (r:List Gp) (w:Int),∃ l c,[w]::gpB r=l++[[c]]
 | [],w=>⟨[],w,rfl⟩
 | g::r,w=>by
  obtain ⟨l,c,h⟩:=last_gp r g.2
  refine ⟨[w]::List.replicate g.1 []++l,c, ?_⟩
  rw [gpB_cons,h]
  simp
theorem full_gp (w:Int) (r:List Gp):fullN ([w]::gpB r)=([w]::gpB r).length:=by
 obtain ⟨l,c,h⟩:=last_gp r w
 rw [h]
 unfold fullN
 rw [List.reverse_append,List.reverse_singleton,List.singleton_append,List.dropWhile_cons]
 simp
theorem blk_gp {w:Int}{r:List Gp} (hw:Ltr w) (hr:∀ g∈r,Ltr g.2):blkF ([w]::gpB r) 1=txT w r∧blkF ([w]::gpB r) 0=txT w r++[10]:=by
 have e:blkGo none 0 ([w]::gpB r)=txT w r:=by
  rw [blkGo_cons (by simp),blkGo_gp r w (ltr_blank hw) hr]
  rfl
 unfold blkF
 rw [full_gp,List.take_length,e]
 unfold endsC
 constructor
 ·simp
 ·simp
theorem line_in {ls l:List Ln}{i:Int}{x:Ln} (h0:0≤i) (h:ls.drop i.toNat=x::l):ls.getD i.toNat (0,[])=x∧i < ls.length∧ls.drop (i+1).toNat=l:=line_drop h0 h
theorem over_nm {ls:List Ln}{i:Int}{x:Ln} (hl:ls.getD i.toNat (0,[])=x) (hi:i < ls.length) (hx:0 < x.1∨x.2.length < 3):overF ls i=false:=by
 have hm:markerI x.1 x.2=0:=by unfold markerI;rw [if_neg (by rintro ⟨h1,h2,-⟩;omega)]
 unfold overF
 rw [hl,hm,decide_eq_false (by omega)]
 rfl
theorem nextL_gp {ls:List Ln}{n c:Int}{t:List Int}{R:List Ln} (hc:blankI c=false):∀ (k f:Nat) (i:Int),0≤i→ls.drop i.toNat=List.replicate k (0,[])++(n,c::t)::R→k≤f→nextL ls f i=i+k
 | 0,f,i,h0,hd,_=>by
  obtain ⟨l1,l2,-⟩:=line_in h0 hd
  rw [nextL_end (by
   rintro ⟨-,h2⟩
   rw [l1,List.all_cons,hc] at h2
   cases h2)]
  simp
 | k+1,0,i,h0,hd,h=>by omega
 | k+1,f+1,i,h0,hd,h=>by
  rw [List.replicate_succ,List.cons_append] at hd
  obtain ⟨l1,l2,l3⟩:=line_in h0 hd
  rw [nextL,if_pos ⟨over_nm l1 l2 (.inr (by decide)),by rw [l1];rfl⟩,nextL_gp hc k f (i+1) (by omega) l3 (by omega)]
  omega
theorem at_gp {ls:List Ln}{n:Int}{t:List Int}{R:List Ln} (hn:0≤n):∀ (k:Nat) (i:Int),0≤i→ls.drop i.toNat=List.replicate k (0,[])++(n,t)::R→At ls (i+k,n) t∧ls.drop (i+k+1).toNat=R∧i+k < ls.length
 | 0,i,h0,hd=>by
  obtain ⟨l1,l2,l3⟩:=line_in h0 hd
  rw [show i+(0:Nat)=i by omega]
  exact ⟨at_mk h0 l2 l1 hn,l3,l2⟩
 | k+1,i,h0,hd=>by
  rw [List.replicate_succ,List.cons_append] at hd
  obtain ⟨l1,l2,l3⟩:=line_in h0 hd
  obtain ⟨a1,a2,a3⟩:=at_gp hn k (i+1) (by omega) l3
  rw [show i+((k+1:Nat):Int)=i+1+k by omega]
  exact ⟨a1,a2,a3⟩
theorem ltr_16 {c:Int} (h:Ltr c):∃ k:Nat,k < 16∧c=97+(k:Int):=⟨(c - 97).toNat,by omega,by omega⟩
theorem ltr_ev0:((List.range 16).all fun k=>endI [97+(k:Int)] false == 1 && (keyI [97+(k:Int)] false == -1 && (beginsI [97+(k:Int)] false && (closeI [97+(k:Int)] 34 == (0,false) && (closeI [97+(k:Int)] 39 == (0,false) && (closeI [97+(k:Int),34] 34 == (1,true) && closeI [97+(k:Int),39] 39 == (1,true)))))))=true:=by decide +kernel
theorem ltr_ev {c:Int} (h:Ltr c):endI [c] false=1∧keyI [c] false = -1∧beginsI [c] false=true∧(∀ q,q=34∨q=39→(closeI [c] q).2=false∧closeI [c,q] q=(1,true)):=by
 obtain ⟨k,hk,rfl⟩:=ltr_16 h
 have:=all_range ltr_ev0 hk
 simp only [Bool.and_eq_true,beq_iff_eq] at this
 obtain ⟨h1,h2,h3,h4,h5,h6,h7⟩:=this
 refine ⟨h1,h2,h3,fun q hq=>?_⟩
 rcases hq with rfl|rfl
 ·rw [h4];exact ⟨rfl,h6⟩
 ·rw [h5];exact ⟨rfl,h7⟩
theorem further_gp {ls:List Ln}{i nn n c:Int}{k:Nat}{R:List Ln} (h0:0≤i) (hd:ls.drop (i+1).toNat=List.replicate k (0,[])++(n,[c])::R) (hn0:0 < n) (hn:nn < n) (hc:Ltr c):furtherF ls nn true i=((i+1+k,n),true):=by
 obtain ⟨a1,a2,a3⟩:=at_gp (by omega) k (i+1) (by omega) hd
 have hk:k≤ls.length:=by omega
 have hl:ls.getD (i+1+k).toNat (0,[])=(n,[c]):=by
  have:=congrArg (fun l=>l[k]?) hd
  simp only [List.getElem?_drop] at this
  rw [List.getElem?_append_right (by simp)] at this
  simp at this
  rw [List.getD_eq_getElem?_getD,show (i+1+(k:Int)).toNat=(i+1).toNat+k by omega,this]
  rfl
 have hp:=past_line (ls:=ls) (i:=i+1+k) (k:=n) (t:=[c]) (by omega) a3 hl (by omega)
 have hp2:=At.past (ls:=ls) (p:=(i+1+k,n)) (b:=[]) (r:=[c]) a1 (fun c hc=>by simp at hc) (.inr (ltr_blank hc))
 unfold furtherF
 rw [nextL_gp (ltr_blank hc) k ls.length (i+1) (by omega) hd hk,over_nm hl a3 (.inl hn0),if_neg (by
  rintro (h|h)
  ·cases h
  ·rw [hl] at h;dsimp only at h;omega),hp,hp2]
 dsimp only
 rw [show (!true)=false from rfl,(ltr_ev hc).1]
 refine Prod.ext (Prod.ext rfl (by simp)) ?_
 show (!(c == 35) && decide (0 < 1))=true
 have:¬c=35:=by omega
 simp [this]
theorem further_end {ls:List Ln}{i nn:Int} (h:ls.drop (i+1).toNat=[]) (h0:0≤i):(furtherF ls nn true i).2=false:=by
 have hl:(ls.length:Int)≤i+1:=by
  have:=congrArg List.length h
  rw [List.length_drop,List.length_nil] at this
  omega
 have ho:overF ls (i+1)=true:=by unfold overF;rw [decide_eq_true hl];rfl
 unfold furtherF
 rw [nextL_end (by rintro ⟨h1,-⟩;rw [ho] at h1;cases h1),if_pos (.inl ho)]
theorem plain_gp {ls:List Ln}{nn n:Int} (hn0:0 < n) (hn:nn < n):∀ (r:List Gp) (f:Nat) (i col c:Int) (all:List (List Int)),At ls (i,col) [c]→ls.drop (i+1).toNat=lnS n [] r→Ltr c→(∀ g∈r,Ltr g.2)→r.length≤f →
  ∃ j e,plainN ls nn true f (i,col) [c] all=.ok (all++[c]::gpB r,(j,e))∧At ls (j,e) []∧ls.drop (j+1).toNat=[]
 | [],f,i,col,c,all,hA,hd,hc,hr,hf=>by
  obtain ⟨e1,e2,-,-⟩:=ltr_ev hc
  have hs:=At.step (a:=[c]) (l:=[]) hA
  rw [plainN_eq,e2,if_neg (by rintro ⟨-,-,h⟩;omega),further_end hd hA.1,if_neg (by rintro ⟨-,h⟩;cases h),show (!true)=false from rfl,e1]
  exact ⟨i,col+1,rfl,hs,hd⟩
 | g::r,0,i,col,c,all,hA,hd,hc,hr,hf=>by simp at hf
 | g::r,f+1,i,col,c,all,hA,hd,hc,hr,hf=>by
  obtain ⟨e1,e2,-,-⟩:=ltr_ev hc
  have hs:=At.step (a:=[c]) (l:=[]) hA
  have hp:=At.past (b:=[]) (r:=[]) hs (fun c hc=>by simp at hc) (.inl rfl)
  have hg:=hr g (by simp)
  have hdd:lnS n [] (g::r)=List.replicate g.1 (0,[])++(n,[g.2])::lnS n [] r:=by rw [lnS];split<;>rfl
  rw [hdd] at hd
  have hfu:=further_gp hA.1 hd hn0 hn hg
  obtain ⟨a1,a2,a3⟩:=at_gp (by omega) g.1 (i+1) (by have:=hA.1;dsimp only at this;omega) hd
  obtain ⟨j,e,b1,b2,b3⟩:=plain_gp hn0 hn r f (i+1+g.1) n g.2 (all++[[c]]++List.replicate g.1 []) a1 a2 hg (fun x hx=>hr x (by simp [hx])) (by simp at hf;omega)
  refine ⟨j,e, ?_,b2,b3⟩
  rw [plainN_eq,e2,if_neg (by rintro ⟨-,-,h⟩;omega)]
  dsimp only
  rw [hfu,show (!true)=false from rfl,e1]
  dsimp only at hp ⊢
  have e9:(pastF ls (i,col+((1:Nat):Int))).2.length=0:=by
   have:(i,col+((1:Nat):Int))=((i,col+(([c]:List Int).length:Nat)):Int × Int):=rfl
   rw [this,hp];rfl
  rw [if_pos ⟨e9,rfl⟩,show (i+1+(g.1:Int) - i - 1).toNat=g.1 by omega,a1.2.2.2.2.2,show ([c]:List Int).take 1=[c] from rfl,b1,gpB_cons]
  simp
theorem quoted_skip {ls:List Ln}{nn n c0:Int}{t:List Int}{R:List Ln} (hn0:0 < n) (hn:nn < n) (hq:(closeI [] c0).2=false):∀ (k f:Nat) (i col:Int) (l:List Int) (all:List (List Int)),0≤i→ls.drop (i+1).toNat=List.replicate k (0,[])++(n,t)::R→(closeI l c0).2=false→k+1≤f →
  quotedN ls nn c0 f (i,col) l all=quotedN ls nn c0 (f - (k+1)) (i+1+k,n) t (all++l::List.replicate k [])
 | 0,f,i,col,l,all,h0,hd,hc,hf=>by
  obtain ⟨l1,l2,l3⟩:=line_in (by omega) hd
  obtain ⟨f',rfl⟩:∃ f',f=f'+1:=⟨f - 1,by omega⟩
  rw [quotedN_eq,if_neg (by rw [hc];simp)]
  dsimp only
  rw [l1,over_nm l1 l2 (.inl hn0),if_neg (by simp),if_neg (by rintro ⟨-,h⟩;dsimp only at h;omega)]
  simp
 | k+1,f,i,col,l,all,h0,hd,hc,hf=>by
  rw [List.replicate_succ,List.cons_append] at hd
  obtain ⟨l1,l2,l3⟩:=line_in (by omega) hd
  obtain ⟨f',rfl⟩:∃ f',f=f'+1:=⟨f - 1,by omega⟩
  rw [quotedN_eq,if_neg (by rw [hc];simp)]
  dsimp only
  rw [l1,over_nm l1 l2 (.inr (by decide)),if_neg (by simp),if_neg (by rintro ⟨h,-⟩;cases h)]
  dsimp only
  rw [quoted_skip hn0 hn hq k f' (i+1) 0 [] (all++[l]) (by omega) l3 hq (by omega),show f' - (k+1)=f'+1 - (k+1+1) by omega,show i+1+1+(k:Int)=i+1+((k+1:Nat):Int) by omega,List.replicate_succ]
  simp
theorem quotedN_gp {ls:List Ln}{nn n c0:Int} (hn0:0 < n) (hn:nn < n) (h0:c0=34∨c0=39):∀ (r:List Gp) (f:Nat) (i col c:Int) (all:List (List Int)),At ls (i,col) (c::(if r.isEmpty then [c0] else []))→ls.drop (i+1).toNat=lnS n [c0] r→Ltr c→(∀ g∈r,Ltr g.2)→(lnS n [c0] r).length≤f →
  ∃ j e,quotedN ls nn c0 f (i,col) (c::(if r.isEmpty then [c0] else [])) all=.ok ((j,e),all++[c]::gpB r,1)∧At ls (j,e+2) []∧ls.drop (j+1).toNat=[]
 | [],f,i,col,c,all,hA,hd,hc,hr,hf=>by
  have hq:=((ltr_ev hc).2.2.2 c0 h0).2
  have hs:=At.step (a:=[c,c0]) (l:=[]) hA
  refine ⟨i,col, ?_,hs,hd⟩
  rw [quotedN_eq]
  simp only [List.isEmpty_nil,if_true,hq]
  rfl
 | g::r,f,i,col,c,all,hA,hd,hc,hr,hf=>by
  have hq:=((ltr_ev hc).2.2.2 c0 h0).1
  have hq0:(closeI [] c0).2=false:=by rcases h0 with rfl|rfl<;>rfl
  have hg:=hr g (by simp)
  simp only [lnS] at hd hf
  rw [List.length_append,List.length_replicate,List.length_cons] at hf
  have hi0:0≤i:=hA.1
  obtain ⟨a1,a2,a3⟩:=at_gp (by omega) g.1 (i+1) (by omega) hd
  obtain ⟨j,e,b1,b2,b3⟩:=quotedN_gp hn0 hn h0 r (f - (g.1+1)) (i+1+g.1) n g.2 (all++[c]::List.replicate g.1 []) a1 a2 hg (fun x hx=>hr x (by simp [hx])) (by omega)
  refine ⟨j,e, ?_,b2,b3⟩
  simp only [List.isEmpty_cons,Bool.false_eq_true,if_false]
  rw [quoted_skip hn0 hn hq0 g.1 f i col [c] all hi0 hd hq (by omega),b1,gpB_cons]
  simp
theorem contB_gp {n:Int} (hn:0≤n):∀ r:List Gp,(lnS n [] r).map (contB n)=gpB r∧∀ x∈lnS n [] r,overB n x=overB n x
 | []=>⟨rfl,fun _ _=>rfl⟩
 | g::r=>by
  refine ⟨?_,fun _ _=>rfl⟩
  have hdd:lnS n [] (g::r)=List.replicate g.1 (0,[])++(n,[g.2])::lnS n [] r:=by rw [lnS];split<;>rfl
  rw [hdd,gpB_cons,List.map_append,List.map_cons,(contB_gp hn r).1,List.map_replicate]
  have e1:contB n (0,[])=[]:=by unfold contB;dsimp only;rw [show (0 - n).toNat=0 by omega];rfl
  have e2:contB n (n,[g.2])=[g.2]:=by unfold contB;dsimp only;rw [show (n - n).toNat=0 by omega];rfl
  rw [e1,e2]
theorem lnS_mem {n:Int}:∀ {r:List Gp},∀ x∈lnS n [] r,x=(0,[])∨∃ c,x=(n,[c])
 | [],x,h=>by simp [lnS] at h
 | g::r,x,h=>by
  have hdd:lnS n [] (g::r)=List.replicate g.1 (0,[])++(n,[g.2])::lnS n [] r:=by rw [lnS];split<;>rfl
  rw [hdd] at h
  rcases List.mem_append.1 h with h|h
  ·exact .inl (List.eq_of_mem_replicate h)
  ·rcases List.mem_cons.1 h with rfl|h
   ·exact .inr ⟨_,rfl⟩
   ·exact lnS_mem x h
theorem tw_all {α:Type}{p:α→Bool}:∀ {l:List α},(∀ x∈l,p x=true)→l.takeWhile p=l
 | [],_=>rfl
 | a::l,h=>by rw [List.takeWhile_cons,if_pos (h a (by simp)),tw_all (fun x hx=>h x (by simp [hx]))]
theorem block_gp {n w ch:Int}{r:List Gp} (hn:0 < n):blockB ((n,[w])::lnS n [] r) (true,ch,0) 0=((textI (blkF ([w]::gpB r) ch),((((n,[w])::lnS n [] r).length:Nat):Int),0):ByteArray × Int × Int):=by
 have hm:∀ (k:Int) (t:List Int),t.length < 3→markerI k t=0:=fun k t ht=>by unfold markerI;rw [if_neg (by rintro ⟨-,h2,-⟩;omega)]
 have hI:indI ((n,[w])::lnS n [] r) 0 (min (max (-1) 0) 1099511627776)=(n,0):=by
  have hs:scanI 0 ((n,[w])::lnS n [] r)=(0,some n):=by
   unfold scanI
   rw [if_neg (by simp),hm _ _ (by simp),if_pos rfl]
  unfold indI
  rw [if_neg (by omega),hs]
  dsimp only
  rw [show (some n).getD (min (max (-1) 0) 1099511627776)=n from rfl,if_neg (by omega),if_neg (by omega)]
 have ho:∀ x∈(n,[w])::lnS n [] r,(!overB n x)=true:=fun x hx=>by
  have:x=(0,[])∨∃ c,x=(n,[c]):=by
   rcases List.mem_cons.1 hx with rfl|hx
   ·exact .inr ⟨_,rfl⟩
   ·exact lnS_mem x hx
  rw [Bool.not_eq_true']
  unfold overB
  refine decide_eq_false ?_
  rcases this with rfl|⟨c,rfl⟩
  ·rw [hm _ _ (by simp)];simp
  ·rw [hm _ _ (by simp)];simp
 have hR:rowsB n ((n,[w])::lnS n [] r)=[w]::gpB r:=by
  unfold rowsB
  rw [tw_all ho,List.map_cons,(contB_gp (by omega) r).1]
  have e2:contB n (n,[w])=[w]:=by unfold contB;dsimp only;rw [show (n - n).toNat=0 by omega];rfl
  rw [e2]
 have hL:(((n,[w])::lnS n [] r).length:Nat)=([w]::gpB r).length:=by rw [← hR];unfold rowsB;rw [tw_all ho,List.length_map]
 unfold blockB
 dsimp only
 rw [hI,if_neg (by simp),hR,hL,if_pos rfl]
theorem head_f {c x:Int}{t:List Int} (h:¬c=x):headF (c::t) x=false:=headF_f (by rw [List.getD_cons_zero];exact h)
theorem sign_traits {ls:List Ln}{n c:Int}{q:Int × Int}{t:List Int} (h:At ls q (c::t)) (hb:blankI c=false) (h1:¬c=35) (h2:¬c=38) (h3:¬c=33):traitsF ls n q=.ok (tr0,q,true):=by
 have hr:restF ls q=c::t:=h.2.2.2.2.2
 have hon:onF ls n q=some (some q):=by
  have:=on_some (n:=n) (some_here (b:=[]) (by exact h) (fun c hc=>by simp at hc) (by simp) (by rw [List.getD_cons_zero];exact hb) (by rw [List.getD_cons_zero];exact h1)) rfl
  rw [this];simp
 unfold traitsF
 rw [hon]
 dsimp only
 exact traitsG_end (traitF_no (by rw [hr];exact head_f h2) (by rw [hr];exact head_f h3))
def valOk (x:Ln) (c:Int):Bool:=!sgL x c 45 && (!sgL x c 63 && ((keyF [x] c).isNone && match propsP [x] 0 c with
 | .ok (t,c2)=>sameB t.1 .empty && (sameB t.2 .empty && c2 == c)
 | .error _=>false))
def headOk (x:Ln):Bool:=!sgL x 0 45 && (!sgL x 0 63 && (keyF [x] 0 == some 1 && (Nat.blt 0 (restP [x] 0 0).1.length && ((restP [x] 0 0).2 == 0 && match wholeF [x] (-1) 1 true (0,0) with
 | .ok (ev,_,_)=>evsSame ev [scE 1 [107]]
 | .error _=>false))))
theorem alone_x {ls:List Ln}{i:Int}{x:Ln} (hi:0≤i∧i < ls.length) (hl:lineP ls i=x):aloneF ls i=[x]:=by
 unfold aloneF
 rw [if_pos hi]
 exact congrArg (fun x=>[x]) hl
theorem restP_x {ls:List Ln}{i c:Int}{x:Ln} (hl:lineP ls i=x):restP ls i c=restP [x] 0 c:=by
 have h0:lineP [x] 0=x:=rfl
 unfold restP cutP blankP
 rw [hl,h0]
theorem at_leaf {ls:List Ln}{i c d n:Int}{x:Ln}{lead:Bool}{S:Int→Int→Bool→TP→PR}{M:Int→Int→TP→PR}{R:Int→Int→Bool→TP→PR} (hi:0≤i∧i < ls.length) (hl:lineP ls i=x) (hv:valOk x c=true) (hr:0 < (restP ls i c).1.length):atP ls S M R d n i c lead tp0=leafD ls i c n d tp0:=by
 have hal:=alone_x hi hl
 unfold valOk at hv
 simp only [Bool.and_eq_true,Bool.not_eq_true'] at hv
 obtain ⟨v1,v2,v3,v4⟩:=hv
 have hp:propsP ls i c=propsP [x] 0 c:=by
  unfold propsP
  rw [hal]
  rfl
 unfold atP asksP
 rw [sgL_eq,sgL_eq,hl,v1,v2,hal,hp,if_neg (by simp)]
 have v3':(keyF [x] c).isSome=false:=by cases h:keyF [x] c<;>simp_all
 rw [v3',if_neg (by simp)]
 split at v4
 ·rename_i t c2 hpp
  simp only [Bool.and_eq_true,beq_iff_eq] at v4
  obtain ⟨w1,w2,w3⟩:=v4
  obtain ⟨a,b⟩:=t
  obtain rfl:a=.empty:=sameB_eq w1
  obtain rfl:b=.empty:=sameB_eq w2
  subst w3
  rw [hpp]
  dsimp only
  rw [show joinP tp0 (ByteArray.empty,ByteArray.empty)=some tp0 by kernel_rfl]
  dsimp only
  rw [if_pos hr]
 ·cases v4
theorem next_end {ls:List Ln}:nextP ls (ls.length:Nat)=.ok (((ls.length:Nat):Int),false):=by
 have hB:∀ f,nextB ls f (ls.length:Nat)=(ls.length:Nat):=fun f=>by
  cases f with
  | zero=>rfl
  | succ f=>unfold nextB;rw [if_neg (by rintro ⟨h,-⟩;omega)]
 unfold nextP
 rw [hB,if_pos (by unfold overF;rw [decide_eq_true (by omega)];rfl)]
theorem key_doc {ls L:List Ln}{x:Ln}{ev:EvV} (hls:ls=x::L) (hx:headOk x=true) (hN:levB ls 0 2 0 true=.ok ([ev],(ls.length:Nat))):docP ls 0 0=.ok ([openP 5 tp0,scE 1 [107],ev,shutE 6],(ls.length:Nat)):=by
 have hl:lineP ls 0=x:=by rw [hls];rfl
 have hal:aloneF ls 0=[x]:=alone_x ⟨by decide,by rw [hls];simp only [List.length_cons];omega⟩ hl
 unfold headOk at hx
 simp only [Bool.and_eq_true,Bool.not_eq_true',beq_iff_eq,Nat.blt_eq] at hx
 obtain ⟨h1,h2,h3,h4,h5,h6⟩:=hx
 refine doc_first (e:=(ls.length:Nat)) (by rw [restP_x hl];exact h4) ?_ next_end
 rw [restP_x hl,h5]
 unfold atP asksP
 rw [sgL_eq,sgL_eq,hl,h1,h2,hal,h3,if_neg (by simp),if_pos (by rfl),if_pos rfl]
 unfold mapP
 rw [pairsP,sgL_eq,hl,h2,if_neg (by simp)]
 unfold pairP
 rw [hal,h3]
 dsimp only
 split at h6
 ·rename_i ev0 _ _ hw
  rw [hw]
  dsimp only
  rw [evsSame_eq h6,show (1:Int)+1=2 from rfl,hN]
  dsimp only
  unfold furP
  rw [next_end]
  dsimp only
  rw [if_pos (.inl rfl)]
  simp
 ·cases h6
theorem beh_end {ls:List Ln}{j e:Int}{ev:List EvV} (hA:At ls (j,e) []) (hd:ls.drop (j+1).toNat=[]):behP ls j e ev=.ok (ev,(ls.length:Nat)):=by
 obtain ⟨h1,h2,h3,h4,h5,h6⟩:=hA
 dsimp only at h1 h2 h3 h4 h5
 have h4:0≤(lineP ls j).1:=h4
 have h5:(lineP ls j).1≤e:=h5
 rw [restF_in (by dsimp only;omega) (by dsimp only;omega) (by dsimp only;omega)] at h6
 dsimp only at h6
 have h6:(if e < (lineP ls j).1 then [32] else (lineP ls j).2.drop (min (e - max 0 (lineP ls j).1) (((lineP ls j).2.length:Nat):Int)).toNat)=[]:=h6
 rw [if_neg (by omega)] at h6
 have hc:cutP ls j e=[]:=by
  unfold cutP
  rw [show max e (lineP ls j).1 - (lineP ls j).1=e - max 0 (lineP ls j).1 by omega]
  exact h6
 have hr:(restP ls j e).1=[]:=by
  unfold restP
  rw [hc]
  split<;>rfl
 have hl:((ls.length:Nat):Int)=j+1:=by
  have:=congrArg List.length hd
  rw [List.length_drop,List.length_nil] at this
  omega
 unfold behP
 rw [hr,if_neg (by simp),hl]
theorem setP_tp0 {e:EvV} (h:¬e.k=8):setP tp0 [e]=some [e]:=by
 unfold setP
 dsimp only
 rw [if_neg h,show noneP tp0=true by kernel_rfl]
 rfl
theorem leaf_end {ls:List Ln}{i c n d:Int}{l:List Int}{e:EvV}{q:Int × Int}{b:Bool} (hr:restP ls i c=(l,c)) (h1:headF l 124=false) (h2:headF l 62=false) (hk:¬e.k=8) (hw:wholeF ls n d true (i,c)=.ok ([e],q,b)) (hA:At ls q []) (hd:ls.drop (q.1+1).toNat=[]):leafD ls i c n d tp0=.ok ([e],(ls.length:Nat)):=by
 unfold leafD
 rw [hr]
 dsimp only
 rw [h1,h2,if_neg (by simp),hw]
 dsimp only
 rw [setP_tp0 hk]
 exact beh_end hA hd
theorem plain_leaf {ls:List Ln}{i col c n nn d:Int}{r:List Gp} (hn0:0 < n) (hn:nn < n) (hA:At ls (i,col) [c]) (hd:ls.drop (i+1).toNat=lnS n [] r) (hc:Ltr c) (hr:∀ g∈r,Ltr g.2) (hre:restP ls i col=([c],col)):leafD ls i col nn d tp0=.ok ([scE 1 (txT c r)],(ls.length:Nat)):=by
 obtain ⟨-,-,e3,-⟩:=ltr_ev hc
 have hlen:r.length≤ls.length:=by
  have h1:∀ r:List Gp,r.length≤(lnS n [] r).length:=fun r=>by
   induction r with
   | nil=>simp
   | cons g r ih=>rw [lnS,List.length_append,List.length_cons,List.length_cons];omega
  have h2:=congrArg List.length hd
  rw [List.length_drop] at h2
  have:=h1 r
  omega
 obtain ⟨j,e,b1,b2,b3⟩:=plain_gp hn0 hn r ls.length i col c [] hA hd hc hr hlen
 have hh:∀ x:Int,¬(97≤x∧x≤112)→headF [c] x=false:=fun x hx=>head_f (by omega)
 refine leaf_end (q:=(j,e)) (b:=false) hre (hh _ (by decide)) (hh _ (by decide)) (by show ¬(7:Int)=8;decide) ?_ b2 b3
 show nodeS ls nn d true (nodeF ls nn d true 199) 0 (i,col)=_
 unfold nodeS
 rw [sign_traits hA (ltr_blank hc) (by omega) (by omega) (by omega)]
 dsimp only
 rw [if_pos rfl,hA.2.2.2.2.2]
 unfold bodyF
 rw [hh 42 (by decide),hh 34 (by decide),hh 39 (by decide),hh 91 (by decide),hh 123 (by decide)]
 rw [if_neg Bool.false_ne_true,if_neg (by simp),if_neg (by simp),show (true && decide ((0:Nat)=0))=true from rfl,show (!true)=false from rfl,if_pos ⟨by simp,e3⟩]
 unfold plainF
 rw [b1]
 dsimp only
 rw [List.nil_append,flow_gp hc hr]
theorem quoted_leaf {ls:List Ln}{i col c c0 n nn d:Int}{r:List Gp} (hn0:0 < n) (hn:nn < n) (h0:c0=34∨c0=39) (hA:At ls (i,col) (c0::c::(if r.isEmpty then [c0] else []))) (hd:ls.drop (i+1).toNat=lnS n [c0] r) (hc:Ltr c) (hr:∀ g∈r,Ltr g.2) (hre:restP ls i col=(c0::c::(if r.isEmpty then [c0] else []),col)):leafD ls i col nn d tp0=.ok ([scE (if c0=34 then 3 else 2) (txT c r)],(ls.length:Nat)):=by
 have hlen:(lnS n [c0] r).length≤ls.length:=by
  have h2:=congrArg List.length hd
  rw [List.length_drop] at h2
  omega
 have hA2:=At.step (a:=[c0]) hA
 obtain ⟨j,e,b1,b2,b3⟩:=quotedN_gp hn0 hn h0 r ls.length i (col+1) c [] hA2 hd hc hr hlen
 have hh:∀ x:Int,¬(x=34∨x=39)→headF (c0::c::(if r.isEmpty then [c0] else [])) x=false:=fun x hx=>head_f (by rintro rfl;exact hx h0)
 refine leaf_end (q:=(j,e+2)) (b:=true) hre (hh _ (by decide)) (hh _ (by decide)) (by show ¬(7:Int)=8;decide) ?_ b2 b3
 show nodeS ls nn d true (nodeF ls nn d true 199) 0 (i,col)=_
 unfold nodeS
 rw [sign_traits hA (by rcases h0 with rfl|rfl<;>decide) (by omega) (by omega) (by omega)]
 dsimp only
 rw [if_pos rfl,hA.2.2.2.2.2]
 unfold bodyF
 rw [hh 42 (by decide),if_neg Bool.false_ne_true,if_pos (by
  unfold headF
  rw [List.getD_cons_zero,decide_eq_true (by simp)]
  rcases h0 with rfl|rfl
  ·exact .inl rfl
  ·exact .inr rfl),List.getD_cons_zero]
 have hq:quotedF ls nn c0 (i,col)=.ok (txT c r,(if c0=34 then 3 else 2),(j,e+2)):=by
  unfold quotedF
  dsimp only
  have hr2:=hA2.2.2.2.2.2
  rw [show restF ls (i,col+1)=c::(if r.isEmpty then [c0] else []) from hr2,b1]
  dsimp only
  rw [List.nil_append,read_gp hc hr,und_gp hc hr,flow_gp hc hr]
  dsimp only
  rcases h0 with rfl|rfl
  ·rw [if_pos rfl,if_pos rfl,if_pos rfl];rfl
  ·rw [if_neg (by decide),if_neg (by decide)];rfl
 rw [hq]
theorem block_leaf {ls:List Ln}{w n d ch:Int}{x:Ln}{l:List Int}{r:List Gp} (hn:0 < n) (hls:ls=x::(n,[w])::lnS n [] r) (hre:restP ls 0 3=(l,3)) (hh:headF l 62=true) (hl:headI l=((true,ch,0),2,0)∨headI l=((true,ch,0),1,0)):leafD ls 0 3 0 d tp0=.ok ([scE 5 (blkF ([w]::gpB r) ch)],(ls.length:Nat)):=by
 unfold leafD
 rw [hre]
 dsimp only
 rw [if_pos (.inr hh)]
 have hb:=block_gp (w:=w) (ch:=ch) (r:=r) hn
 have hd:ls.drop (0+1:Int).toNat=(n,[w])::lnS n [] r:=by rw [hls];rfl
 unfold textP
 rw [hd]
 have hl1:(headI l).1=(true,ch,0)∧(headI l).2.2=0:=by rcases hl with h|h<;>rw [h]<;>exact ⟨rfl,rfl⟩
 rw [hl1.1,hl1.2,hb,if_neg (by simp),if_neg (by simp)]
 dsimp only
 rw [if_pos rfl,hls]
 simp only [List.length_cons]
 congr 2
 omega
def scL (f:Nat) (n w:Int) (r:List Gp):List Ln:=match f with
 | 0=>(0,[107,58,32,w])::lnS n [] r
 | 1=>(0,107::58::32::34::w::(if r.isEmpty then [34] else []))::lnS n [34] r
 | 2=>(0,107::58::32::39::w::(if r.isEmpty then [39] else []))::lnS n [39] r
 | 3=>(0,[107,58,32,62,45])::(n,[w])::lnS n [] r
 | 4=>(0,[107,58])::(n,[w])::lnS n [] r
 | _=>(0,[107,58,32,62])::(n,[w])::lnS n [] r
def scT (f:Nat) (w:Int) (r:List Gp):List Int:=if f=5 then txT w r++[10] else txT w r
def scS (f:Nat):Int:=match f with
 | 0=>1
 | 1=>3
 | 2=>2
 | 3=>5
 | 4=>1
 | _=>5
def scHd (x:Ln) (l:List Int):Bool:=headOk x && (valOk x 3 && (restP [x] 0 2 == (l,3) && restP [x] 0 3 == (l,3)))
theorem sc_hd0:((List.range 16).all fun k=>scHd (0,[107,58,32,97+(k:Int)]) [97+(k:Int)] && (scHd (0,[107,58,32,34,97+(k:Int)]) [34,97+(k:Int)] && (scHd (0,[107,58,32,34,97+(k:Int),34]) [34,97+(k:Int),34] && (scHd (0,[107,58,32,39,97+(k:Int)]) [39,97+(k:Int)] && scHd (0,[107,58,32,39,97+(k:Int),39]) [39,97+(k:Int),39]))))=true:=by decide +kernel
theorem sc_hd1:(scHd (0,[107,58,32,62,45]) [62,45] && (scHd (0,[107,58,32,62]) [62] && (headOk (0,[107,58]) && (restP [(0,[107,58])] 0 2).1 == [])))=true:=by decide +kernel
theorem sc_hd2:((List.range 10).all fun n=>(List.range 16).all fun k=>valOk ((n:Int),[97+(k:Int)]) n && restP [((n:Int),[97+(k:Int)])] 0 n == ([97+(k:Int)],(n:Int)))=true:=by decide +kernel
theorem scHd_s {x:Ln}{l:List Int} (h:scHd x l=true):headOk x=true∧valOk x 3=true∧restP [x] 0 2=(l,3)∧restP [x] 0 3=(l,3):=by
 unfold scHd at h
 simp only [Bool.and_eq_true,beq_iff_eq] at h
 exact h
theorem lev_here {ls L:List Ln}{x:Ln}{l:List Int} (hls:ls=x::L) (hx:scHd x l=true) (h0:0 < l.length):levB ls 0 2 0 true=leafD ls 0 3 0 1 tp0:=by
 obtain ⟨h1,h2,h3,h4⟩:=scHd_s hx
 have hl:lineP ls 0=x:=by rw [hls];rfl
 show levP ls 199 1 0 true 0 2 false tp0=_
 unfold levP
 rw [nodeP,restP_x hl,h3,if_pos h0]
 exact at_leaf ⟨by decide,by rw [hls];simp only [List.length_cons];omega⟩ hl h2 (by rw [restP_x hl,h4];exact h0)
theorem sc_doc {f:Nat}{n w:Int}{r:List Gp} (hf:f < 6) (hn:1≤n∧n≤9) (hw:Ltr w) (hr:∀ g∈r,Ltr g.2):docP (scL f n w r) 0 0=.ok ([openP 5 tp0,scE 1 [107],scE (scS f) (scT f w r),shutE 6],((scL f n w r).length:Nat)):=by
 obtain ⟨k,hk,rfl⟩:=ltr_16 hw
 have e0:=all_range sc_hd0 hk
 simp only [Bool.and_eq_true] at e0
 obtain ⟨e1,e2,e3,e4,e5⟩:=e0
 have e6:=sc_hd1
 simp only [Bool.and_eq_true,beq_iff_eq] at e6
 obtain ⟨f1,f2,f3,f4⟩:=e6
 have hat:∀ {T t:List Int} {a:List Int} {L:List Ln},T=a++t→At ((0,T)::L) (0,((a.length:Nat):Int)) t:=fun {T t a L} h=>by
  have h1:At ((0,T)::L) (0,0) T:=at_mk (by decide) (by simp only [List.length_cons];omega) rfl (by decide)
  rw [h] at h1
  have:=At.step (a:=a) h1
  rw [← h] at this
  simpa using this
 match f,hf with
 | 0,_ =>
  refine key_doc rfl (scHd_s e1).1 ?_
  refine (lev_here rfl e1 (by simp)).trans ?_
  exact plain_leaf (n:=n) (by omega) (by omega) (hat (a:=[107,58,32]) rfl) rfl hw hr ((restP_x rfl).trans (scHd_s e1).2.2.2)
 | 1,_ =>
  have e:scHd (0,107::58::32::34::(97+(k:Int))::(if r.isEmpty then [34] else [])) (34::(97+(k:Int))::(if r.isEmpty then [34] else []))=true:=by split;exact e3;exact e2
  refine key_doc rfl (scHd_s e).1 ?_
  refine (lev_here rfl e (by simp)).trans ?_
  exact quoted_leaf (n:=n) (c0:=34) (by omega) (by omega) (.inl rfl) (hat (a:=[107,58,32]) rfl) rfl hw hr ((restP_x rfl).trans (scHd_s e).2.2.2)
 | 2,_ =>
  have e:scHd (0,107::58::32::39::(97+(k:Int))::(if r.isEmpty then [39] else [])) (39::(97+(k:Int))::(if r.isEmpty then [39] else []))=true:=by split;exact e5;exact e4
  refine key_doc rfl (scHd_s e).1 ?_
  refine (lev_here rfl e (by simp)).trans ?_
  exact quoted_leaf (n:=n) (c0:=39) (by omega) (by omega) (.inr rfl) (hat (a:=[107,58,32]) rfl) rfl hw hr ((restP_x rfl).trans (scHd_s e).2.2.2)
 | 3,_ =>
  refine key_doc rfl (scHd_s f1).1 ?_
  refine (lev_here rfl f1 (by simp)).trans ?_
  have:=block_leaf (n:=n) (d:=1) (ch:=1) (r:=r) (w:=97+(k:Int)) (by omega) rfl ((restP_x (x:=(0,[107,58,32,62,45])) rfl).trans (scHd_s f1).2.2.2) rfl (.inl (by decide))
  rw [(blk_gp hw hr).1] at this
  exact this
 | 4,_ =>
  obtain ⟨m,rfl⟩:∃ m:Nat,n=m:=⟨n.toNat,by omega⟩
  have e9:=all_range (all_range sc_hd2 (show m < 10 by omega)) hk
  simp only [Bool.and_eq_true,beq_iff_eq] at e9
  refine key_doc rfl f3 ?_
  generalize hls:scL 4 (m:Int) (97+(k:Int)) r=ls at *
  have hls2:ls=(0,[107,58])::((m:Int),[97+(k:Int)])::lnS m [] r:=hls.symm
  have hl0:lineP ls 0=(0,[107,58]):=by rw [hls2];rfl
  have hl1:lineP ls 1=((m:Int),[97+(k:Int)]):=by rw [hls2];rfl
  have hlen:1 < ls.length:=by rw [hls2];simp only [List.length_cons];omega
  have hov:overF ls 1=false:=over_nm (x:=((m:Int),[97+(k:Int)])) hl1 (by omega) (.inl (by dsimp only;omega))
  have hnx:nextP ls (0+1)=.ok (1,true):=by
   have hB:∀ f,nextB ls f 1=1:=fun f=>by
    cases f with
    | zero=>rfl
    | succ f =>
     unfold nextB
     rw [hl1,if_neg]
     rintro ⟨-,h⟩
     unfold bareI at h
     have hb:=ltr_blank hw
     rw [List.all_cons,hb,List.dropWhile_cons,hb] at h
     simp at h
     omega
   unfold nextP
   rw [show (0:Int)+1=1 from rfl,hB,hov,if_neg (by simp),hl1,if_neg (by show ¬(97+(k:Int))=9;omega)]
  show levP ls 199 1 0 true 0 2 false tp0=_
  unfold levP
  rw [nodeP,restP_x hl0,f4,if_neg (by simp),hnx]
  dsimp only
  rw [hl1]
  dsimp only
  rw [if_neg (by rintro (h|h|⟨h,-⟩)<;>first|(cases h;done)|omega),if_neg (by omega)]
  have hre:restP ls 1 m=([97+(k:Int)],(m:Int)):=(restP_x hl1).trans e9.2
  rw [at_leaf ⟨by decide,by omega⟩ hl1 e9.1 (by rw [hre];simp)]
  exact plain_leaf (n:=m) (by omega) (by omega) (at_mk (by decide) (by omega) hl1 (by omega)) (by rw [hls2];rfl) hw hr hre
 | 5,_ =>
  refine key_doc rfl (scHd_s f2).1 ?_
  refine (lev_here rfl f2 (by simp)).trans ?_
  have:=block_leaf (n:=n) (d:=1) (ch:=0) (r:=r) (w:=97+(k:Int)) (by omega) rfl ((restP_x (x:=(0,[107,58,32,62])) rfl).trans (scHd_s f2).2.2.2) rfl (.inr (by decide))
  rw [(blk_gp hw hr).2] at this
  exact this
theorem lines_small {T:List Int} (h:T.length≤2000):Small (readR T).1:=by
 unfold readR
 split
 ·refine ⟨?_,fun x hx=>?_⟩
  ·show (linesOf T).length≤2000
   unfold linesOf
   rw [List.length_map]
   have:=tx_length T []
   simp at this
   omega
  ·have hx:x∈linesOf T:=hx
   unfold linesOf at hx
   obtain ⟨r,hr,rfl⟩:=List.mem_map.1 hx
   have h1:=tx_each T [] r hr
   simp at h1
   have h2:=(List.takeWhile_prefix (· == (32:Int)) (l:=r)).length_le
   have h3:=(List.dropWhile_suffix (· == (32:Int)) (l:=r)).length_le
   exact ⟨Nat.le_trans h3 (by omega),by show (0:Int)≤((r.takeWhile (· == 32)).length:Nat);omega,by show (((r.takeWhile (· == 32)).length:Nat):Int)≤2000;omega⟩
 ·exact ⟨by simp,fun x hx=>by simp at hx⟩
abbrev GoodT (T:List Int):Prop:=∀ c∈T,c=10∨32≤c∧c≤126
theorem good_ok {T:List Int} (h:GoodT T):readOk T=true:=by
 unfold readOk
 rw [List.all_eq_true]
 intro c hc
 have:=h c hc
 refine goodC_yes ?_ (by omega)
 unfold printI
 simp;omega
theorem cut_lines {T:List Int} (h:GoodT T) (h0:0 < T.length) (hl:¬T.getD (T.length - 1) 0=10):(readR T).1=((cutL T).1::(cutL T).2).map lineOf:=by
 unfold readR
 rw [if_pos (good_ok h)]
 show linesOf T=_
 unfold linesOf
 rw [tx_cut T [] (fun c hc=>by have:=h c hc;omega) h0 hl,List.nil_append]
theorem cut_back:∀ T:List Int,((cutL T).1::(cutL T).2).flatMap (· ++ [(10:Int)])=T++[10]
 | []=>rfl
 | c::T=>by
  have ih:=cut_back T
  by_cases hc:c=10
  ·subst hc
   rw [cut_nl]
   show []++[10]++((cutL T).1::(cutL T).2).flatMap (· ++ [(10:Int)])=_
   rw [ih];rfl
  ·rw [cut_c hc]
   show (c::(cutL T).1)++[10]++(cutL T).2.flatMap (· ++ [(10:Int)])=_
   rw [List.flatMap_cons] at ih
   rw [List.cons_append,List.cons_append,ih];rfl
theorem cut_mem:∀ {T:List Int},∀ r∈(cutL T).1::(cutL T).2,∀ c∈r,c∈T∧¬c=10
 | [],r,hr,c,hc=>by
  rcases List.mem_cons.1 hr with rfl|hr
  ·simp [cutL] at hc
  ·simp [cutL] at hr
 | d::T,r,hr,c,hc=>by
  by_cases hd:d=10
  ·subst hd
   rw [cut_nl] at hr
   rcases List.mem_cons.1 hr with rfl|hr
   ·simp at hc
   ·have:=cut_mem r hr c hc
    exact ⟨List.mem_cons_of_mem _ this.1,this.2⟩
  ·rw [cut_c hd] at hr
   rcases List.mem_cons.1 hr with rfl|hr
   ·rcases List.mem_cons.1 hc with rfl|hc
    ·exact ⟨by simp,hd⟩
    ·have:=cut_mem (T:=T) (cutL T).1 (by simp) c hc
     exact ⟨List.mem_cons_of_mem _ this.1,this.2⟩
   ·have:=cut_mem (T:=T) r (List.mem_cons_of_mem _ hr) c hc
    exact ⟨List.mem_cons_of_mem _ this.1,this.2⟩
theorem cut_lines_end {T:List Int} (h:GoodT T):(readR (T++[10])).1=((cutL T).1::(cutL T).2).map lineOf:=by
 rw [← cut_back]
 exact rows_lines fun r hr c hc=>by
  have h1:=cut_mem r hr c hc
  have:=h c h1.1
  omega
def gpL (n:Nat) (r:List Gp):List Int:=r.flatMap fun g=>10::(List.replicate g.1 10++(pdL n++[g.2]))
def gR (n:Nat) (q:List Int):List Gp→List (List Int)
 | []=>[]
 | g::r=>List.replicate g.1 []++(pdL n++g.2::(if r.isEmpty then q else []))::gR n q r
theorem gpL_cons (n:Nat) (g:Gp) (r:List Gp):gpL n (g::r)=10::(List.replicate g.1 10++((pdL n++[g.2])++gpL n r)):=by simp [gpL]
theorem cut_rep (Z:List Int):∀ k,(cutL (List.replicate k 10++Z)).1::(cutL (List.replicate k 10++Z)).2=List.replicate k []++((cutL Z).1::(cutL Z).2)
 | 0=>rfl
 | k+1=>by rw [List.replicate_succ,List.cons_append,cut_nl,cut_rep Z k,List.replicate_succ,List.cons_append]
theorem pd_10 {n:Nat}:∀ c∈pdL n,¬c=10:=fun c hc=>by have:=List.eq_of_mem_replicate hc;omega
theorem cut_gp {n:Nat}{q:List Int} (hq:∀ c∈q,¬c=10):∀ (r:List Gp) (x:List Int),(∀ g∈r,Ltr g.2)→(∀ c∈x,¬c=10)→cutL (x++(gpL n r++q))=(x++(if r.isEmpty then q else []),gR n q r)
 | [],x,_,hx=>by
  have:cutL (q++[])=(q++(cutL []).1,(cutL []).2):=cut_app hq
  rw [List.append_nil] at this
  show cutL (x++q)=_
  rw [cut_app hx,this]
  simp [cutL,gR]
 | g::r,x,hr,hx=>by
  have hg:=hr g (by simp)
  have ih:=cut_gp (n:=n) hq r (pdL n++[g.2]) (fun y hy=>hr y (by simp [hy])) (fun c hc=>by
   rcases List.mem_append.1 hc with hc|hc
   ·exact pd_10 c hc
   ·rw [List.mem_singleton.1 hc];omega)
  have h1:=cut_rep ((pdL n++[g.2])++(gpL n r++q)) g.1
  rw [ih] at h1
  rw [gpL_cons,cut_app hx,List.cons_append,cut_nl]
  rw [show List.replicate g.1 (10:Int)++((pdL n++[g.2])++gpL n r)++q=List.replicate g.1 10++((pdL n++[g.2])++(gpL n r++q)) by simp,h1]
  simp [gR]
theorem row_line {n:Nat}{c:Int}{t:List Int} (h:¬c=32):lineOf (pdL n++c::t)=((n:Int),c::t):=lineOf_in (.inr (by rw [List.getD_cons_zero];exact h))
theorem gR_lines {n:Nat}{q:List Int}:∀ {r:List Gp},(∀ g∈r,Ltr g.2)→(gR n q r).map lineOf=lnS n q r
 | [],_=>rfl
 | g::r,h=>by
  have hg:=h g (by simp)
  rw [gR,lnS,List.map_append,List.map_cons,gR_lines (fun x hx=>h x (by simp [hx])),row_line (by omega),List.map_replicate]
  rfl
theorem gpL_last {n:Nat}:∀ (r:List Gp) (w:Int),Ltr w→(∀ g∈r,Ltr g.2)→∃ l c,w::gpL n r=l++[c]∧Ltr c
 | [],w,hw,_=>⟨[],w,rfl,hw⟩
 | g::r,w,hw,h=>by
  obtain ⟨l,c,e,hc⟩:=gpL_last r g.2 (h g (by simp)) (fun x hx=>h x (by simp [hx]))
  refine ⟨w::10::(List.replicate g.1 10++(pdL n++l)),c, ?_,hc⟩
  rw [gpL_cons,List.append_assoc (pdL n),List.singleton_append,e]
  simp
theorem gpL_good {n:Nat}{r:List Gp} (h:∀ g∈r,Ltr g.2):GoodT (gpL n r):=fun c hc=>by
 obtain ⟨g,hg,hc⟩:=List.mem_flatMap.1 hc
 have:=h g hg
 rcases List.mem_cons.1 hc with rfl|hc
 ·exact .inl rfl
 ·rcases List.mem_append.1 hc with hc|hc
  ·exact .inl (List.eq_of_mem_replicate hc)
  ·rcases List.mem_append.1 hc with hc|hc
   ·have:=List.eq_of_mem_replicate hc;omega
   ·rw [List.mem_singleton.1 hc];omega
theorem gpL_len {n:Nat}{r:List Gp} (hn:n≤9) (h:∀ g∈r,g.1≤3):(gpL n r).length≤14 * r.length:=by
 induction r with
 | nil=>simp [gpL]
 | cons g r ih =>
  have h1:=ih (fun x hx=>h x (by simp [hx]))
  have h2:=h g (by simp)
  rw [gpL_cons]
  simp only [List.length_cons,List.length_append,List.length_replicate,List.length_nil]
  omega
def scX (f n:Nat) (w:Int) (r:List Gp):List Int:=match f with
 | 0=>[107,58,32]++(w::gpL n r)
 | 1=>[107,58,32,34]++(w::gpL n r)++[34]
 | 2=>[107,58,32,39]++(w::gpL n r)++[39]
 | 3=>[107,58,32,62,45,10]++pdL n++(w::gpL n r)
 | 4=>[107,58,10]++pdL n++(w::gpL n r)
 | _=>[107,58,32,62,10]++pdL n++(w::gpL n r)++[10]
theorem good_app {a b:List Int} (ha:GoodT a) (hb:GoodT b):GoodT (a++b):=fun c hc=>by
 rcases List.mem_append.1 hc with h|h
 ·exact ha c h
 ·exact hb c h
theorem good_pd {n:Nat}:GoodT (pdL n):=fun c hc=>by have:=List.eq_of_mem_replicate hc;omega
theorem scX_good {f n:Nat}{w:Int}{r:List Gp} (hw:Ltr w) (hr:∀ g∈r,Ltr g.2):GoodT (scX f n w r):=by
 have h1:GoodT (w::gpL n r):=fun c hc=>by
  rcases List.mem_cons.1 hc with rfl|hc
  ·omega
  ·exact gpL_good hr c hc
 have hl:∀ l:List Int,l.all (fun c=>c == 10 || decide (32≤c) && decide (c≤126))=true→GoodT l:=fun l h c hc=>by
  have:=List.all_eq_true.1 h c hc
  simp at this
  omega
 unfold scX
 split
 ·exact good_app (hl _ (by decide)) h1
 ·exact good_app (good_app (hl _ (by decide)) h1) (hl _ (by decide))
 ·exact good_app (good_app (hl _ (by decide)) h1) (hl _ (by decide))
 ·exact good_app (good_app (hl _ (by decide)) good_pd) h1
 ·exact good_app (good_app (hl _ (by decide)) good_pd) h1
 ·exact good_app (good_app (good_app (hl _ (by decide)) good_pd) h1) (hl _ (by decide))
theorem last_no {a l:List Int}{c:Int} (h:Ltr c∨c=34∨c=39):¬(a++(l++[c])).getD ((a++(l++[c])).length - 1) 0=10:=by
 rw [← List.append_assoc,List.length_append,List.length_singleton,List.getD_eq_getElem?_getD]
 simp
 omega
theorem sc_lines {f n:Nat}{w:Int}{r:List Gp} (hf:f < 6) (hw:Ltr w) (hr:∀ g∈r,Ltr g.2):(readR (scX f n w r)).1=scL f n w r:=by
 have hg:=scX_good (f:=f) (n:=n) hw hr
 obtain ⟨l,c,hlc,hc⟩:=gpL_last (n:=n) r w hw hr
 have hnl:∀ q:List Int,(∀ c∈q,¬c=10)→∀ x:List Int,(∀ c∈x,¬c=10)→cutL (x++(gpL n r++q))=(x++(if r.isEmpty then q else []),gR n q r):=fun q hq x hx=>cut_gp hq r x hr hx
 have hx:∀ a:List Int,a.all (fun c=>!(c == 10))=true→∀ c∈a++[w],¬c=10:=fun a ha c hc=>by
  rcases List.mem_append.1 hc with hc|hc
  ·have:=List.all_eq_true.1 ha c hc
   simpa using this
  ·rw [List.mem_singleton.1 hc];omega
 have hpw:∀ c∈pdL n++[w],¬c=10:=fun c hc=>by
  rcases List.mem_append.1 hc with hc|hc
  ·exact pd_10 c hc
  ·rw [List.mem_singleton.1 hc];omega
 have hq0:∀ c∈([]:List Int),¬c=10:=fun c hc=>by simp at hc
 have hR:=fun q=>gR_lines (n:=n) (q:=q) hr
 have hw32:¬w=32:=by omega
 have hrow:lineOf (pdL n++[w])=((n:Int),[w]):=row_line hw32
 match f,hf with
 | 0,_ =>
  rw [cut_lines hg (by simp [scX]) (by show ¬([107,58,32]++(w::gpL n r)).getD _ 0=10;unfold scX;rw [hlc];exact last_no (.inl hc))]
  have:=hnl [] hq0 ([107,58,32]++[w]) (hx _ (by decide))
  rw [List.append_nil] at this
  rw [show scX 0 n w r=[107,58,32]++[w]++gpL n r by simp [scX],this,List.map_cons,hR]
  simp [scL,lineOf]
 | 1,_ =>
  rw [cut_lines hg (by simp [scX]) (by show ¬([107,58,32,34]++(w::gpL n r)++[34]).getD (([107,58,32,34]++(w::gpL n r)++[34]).length - 1) 0=10;rw [List.append_assoc];exact last_no (.inr (.inl rfl)))]
  have:=hnl [34] (fun c hc=>by simp at hc;omega) ([107,58,32,34]++[w]) (hx _ (by decide))
  rw [show scX 1 n w r=[107,58,32,34]++[w]++(gpL n r++[34]) by simp [scX],this,List.map_cons,hR]
  simp [scL,lineOf]
 | 2,_ =>
  rw [cut_lines hg (by simp [scX]) (by show ¬([107,58,32,39]++(w::gpL n r)++[39]).getD (([107,58,32,39]++(w::gpL n r)++[39]).length - 1) 0=10;rw [List.append_assoc];exact last_no (.inr (.inr rfl)))]
  have:=hnl [39] (fun c hc=>by simp at hc;omega) ([107,58,32,39]++[w]) (hx _ (by decide))
  rw [show scX 2 n w r=[107,58,32,39]++[w]++(gpL n r++[39]) by simp [scX],this,List.map_cons,hR]
  simp [scL,lineOf]
 | 3,_ =>
  rw [cut_lines hg (by simp [scX]) (by unfold scX;rw [hlc];exact last_no (.inl hc))]
  have:=hnl [] hq0 (pdL n++[w]) hpw
  rw [List.append_nil] at this
  have hfst:cutL ([107,58,32,62,45]++(10::((pdL n++[w])++gpL n r)))=([107,58,32,62,45],(pdL n++[w])::gR n [] r):=by
   rw [cut_app (by decide),cut_nl,this];simp
  rw [show scX 3 n w r=[107,58,32,62,45]++(10::((pdL n++[w])++gpL n r)) by simp [scX],hfst,List.map_cons,List.map_cons,hR,hrow]
  simp [scL,lineOf]
 | 4,_ =>
  rw [cut_lines hg (by simp [scX]) (by unfold scX;rw [hlc];exact last_no (.inl hc))]
  have:=hnl [] hq0 (pdL n++[w]) hpw
  rw [List.append_nil] at this
  have hfst:cutL ([107,58]++(10::((pdL n++[w])++gpL n r)))=([107,58],(pdL n++[w])::gR n [] r):=by
   rw [cut_app (by decide),cut_nl,this];simp
  rw [show scX 4 n w r=[107,58]++(10::((pdL n++[w])++gpL n r)) by simp [scX],hfst,List.map_cons,List.map_cons,hR,hrow]
  simp [scL,lineOf]
 | 5,_ =>
  have hT:scX 5 n w r=([107,58,32,62]++(10::((pdL n++[w])++gpL n r)))++[10]:=by simp [scX]
  have:=hnl [] hq0 (pdL n++[w]) hpw
  rw [List.append_nil] at this
  have hfst:cutL ([107,58,32,62]++(10::((pdL n++[w])++gpL n r)))=([107,58,32,62],(pdL n++[w])::gR n [] r):=by
   rw [cut_app (by decide),cut_nl,this];simp
  rw [hT,cut_lines_end (fun c hc=>hg c (by rw [hT];exact List.mem_append_left _ hc)),hfst,List.map_cons,List.map_cons,hR,hrow]
  simp [scL,lineOf]
theorem scX_len {f n:Nat}{w:Int}{r:List Gp} (hn:n≤9) (hr:∀ g∈r,g.1≤3) (hl:r.length≤11):(scX f n w r).length≤200:=by
 have:=gpL_len hn hr
 unfold scX
 split<;>simp only [List.length_cons,List.length_append,List.length_replicate,List.length_nil]<;>omega
theorem sc_all {f n:Nat}{w:Int}{r:List Gp} (hf:f < 6) (hn:1≤n∧n≤9) (hw:Ltr w) (hr:∀ g∈r,Ltr g.2) (hk:∀ g∈r,g.1≤3) (hl:r.length≤11):∃ k,docP (readR (scX f n w r)).1 0 0=.ok ([openP 5 tp0,scE 1 [107],scE (scS f) (scT f w r),shutE 6],k)∧Asc (scX f n w r)∧Small (readR (scX f n w r)).1∧(0:Int) < (readR (scX f n w r)).1.length:=by
 have h1:=scX_len (f:=f) (w:=w) hn.2 hk hl
 have h2:=scX_good (f:=f) (n:=n) hw hr
 have h3:=lines_small (T:=scX f n w r) (by omega)
 have h4:=sc_lines (n:=n) hf hw hr
 rw [h4] at h3 ⊢
 refine ⟨_,sc_doc hf (by omega) hw hr,⟨by omega,fun c hc=>by have:=h2 c hc;omega⟩,h3, ?_⟩
 unfold scL
 split<;>simp only [List.length_cons]<;>omega
end Go.Proofs.YthkabaiamcjdbaaGreat
/-
 Walks: chapter 14's law ParserScalars.
-/


namespace Go.Proofs.YthkabaiamcjdbaaGreat
open Go.Abs
variable {κ:Ctx} {σ:List Res} {K:Ret→List Res→Prop} {o o':Option (Option (Nat × Nat))}
def scG (ws gs:List Int) (m:Nat):List Gp:=(List.range (m - 1)).map fun j=>((gs.getD (j+1) 0 % 4).toNat,97+ws.getD (j+1) 0 % 16)
def scTx (ws gs:List Int) (m:Nat):List Int:=if m=0 then [] else txT (97+ws.getD 0 0 % 16) (scG ws gs m)
def scLn (n:Nat) (ws gs:List Int) (m:Nat):List Int:=if m=0 then [] else (97+ws.getD 0 0 % 16)::gpL n (scG ws gs m)
set_option maxRecDepth 4000 in
theorem scG_succ {ws gs:List Int}{m:Nat} (h:0 < m):scG ws gs (m+1)=scG ws gs m++[((gs.getD m 0 % 4).toNat,97+ws.getD m 0 % 16)]:=by
 obtain ⟨k,rfl⟩:∃ k,m=k+1:=⟨m - 1,by omega⟩
 unfold scG
 rw [show k+1+1 - 1=(k+1 - 1)+1 by omega,List.range_succ,List.map_append,show k+1 - 1=k by omega]
 rfl
set_option maxRecDepth 4000 in
theorem scTx_succ {ws gs:List Int}{m:Nat} (h:0 < m):scTx ws gs (m+1)=scTx ws gs m++(between (gs.getD m 0 % 4).toNat++[97+ws.getD m 0 % 16]):=by
 unfold scTx
 rw [if_neg (by omega),if_neg (by omega),scG_succ h]
 simp [txT,gpT]
set_option maxRecDepth 4000 in
theorem scLn_succ {n:Nat}{ws gs:List Int}{m:Nat} (h:0 < m):scLn n ws gs (m+1)=scLn n ws gs m++10::(List.replicate (gs.getD m 0 % 4).toNat 10++(pdL n++[97+ws.getD m 0 % 16])):=by
 unfold scLn
 rw [if_neg (by omega),if_neg (by omega),scG_succ h]
 simp [gpL]
set_option maxRecDepth 4000 in
theorem scG_mem {ws gs:List Int}{m:Nat}:∀ g∈scG ws gs m,Ltr g.2∧g.1≤3:=fun g hg=>by
 unfold scG at hg
 obtain ⟨j,-,rfl⟩:=List.mem_map.1 hg
 dsimp only
 omega
set_option maxRecDepth 4000 in
theorem scG_len {ws gs:List Int}{m:Nat}:(scG ws gs m).length=m - 1:=by unfold scG;rw [List.length_map,List.length_range]
set_option maxRecDepth 4000 in
theorem gpT_len {r:List Gp} (h:∀ g∈r,g.1≤3):(gpT r).length≤4 * r.length:=by
 induction r with
 | nil=>simp [gpT]
 | cons g r ih =>
  have h1:=ih (fun x hx=>h x (by simp [hx]))
  have h2:=h g (by simp)
  have h3:(between g.1).length≤3:=by unfold between;split<;>simp<;>omega
  rw [gpT_cons]
  simp only [List.length_cons,List.length_append]
  omega
set_option maxRecDepth 4000 in
theorem sc_lens {n:Nat}{ws gs:List Int}{m:Nat} (hn:n≤9) (hm:m≤12):(scTx ws gs m).length≤60∧(scLn n ws gs m).length≤200:=by
 have h1:=gpT_len (r:=scG ws gs m) (fun g hg=>(scG_mem g hg).2)
 have h2:=gpL_len (n:=n) (r:=scG ws gs m) hn (fun g hg=>(scG_mem g hg).2)
 rw [scG_len] at h1 h2
 unfold scTx scLn
 constructor
 ·split<;>simp only [List.length_cons,List.length_nil]<;>omega
 ·split<;>simp only [List.length_cons,List.length_nil]<;>omega
set_option maxRecDepth 4000 in
theorem ps_addT {a b:List Int}{v:Option Value} (h:a.length+b.length≤200000000):(if (((textI a).size+(textI b).size:Nat):Int) > IntKind.i64.max then none else v)=v:=str_addT2 h
set_option maxRecDepth 4000 in
theorem ps_and15 {a:Int}:andI a 15=a % 16:=andI_mod (a:=a) 4 (by decide)
set_option maxRecDepth 4000 in
theorem ps_and3 {a:Int}:andI a 3=a % 4:=andI_mod (a:=a) 2 (by decide)
set_option maxRecDepth 4000 in
theorem ps_let {d:Nat} (h:d < 16):({ data:=#[97,98,99,100,101,102,103,104,105,106,107,108,109,110,111,112] }:ByteArray).extract d (d+1)=textI [97+(d:Int)]:=by
 rcases (show d=0∨d=1∨d=2∨d=3∨d=4∨d=5∨d=6∨d=7∨d=8∨d=9∨d=10∨d=11∨d=12∨d=13∨d=14∨d=15 by omega) with rfl|rfl|rfl|rfl|rfl|rfl|rfl|rfl|rfl|rfl|rfl|rfl|rfl|rfl|rfl|rfl<;>decide +kernel
set_option maxRecDepth 4000 in
theorem ps_let_size:({ data:=#[97,98,99,100,101,102,103,104,105,106,107,108,109,110,111,112] }:ByteArray).size=16:=by decide +kernel
set_option maxRecDepth 4000 in
theorem ps_32:({ data:=#[32] }:ByteArray)=textI [32]:=by decide +kernel
set_option maxRecDepth 4000 in
theorem ps_10:({ data:=#[10] }:ByteArray)=textI [10]:=by decide +kernel
set_option maxRecDepth 4000 in
theorem ps_34:({ data:=#[34] }:ByteArray)=textI [34]:=by decide +kernel
set_option maxRecDepth 4000 in
theorem ps_39:({ data:=#[39] }:ByteArray)=textI [39]:=by decide +kernel
set_option maxRecDepth 4000 in
theorem ps_a:({ data:=#[107,58,32] }:ByteArray)=textI [107,58,32]:=by decide +kernel
set_option maxRecDepth 4000 in
theorem ps_b:({ data:=#[107,58,32,34] }:ByteArray)=textI [107,58,32,34]:=by decide +kernel
set_option maxRecDepth 4000 in
theorem ps_c:({ data:=#[107,58,32,39] }:ByteArray)=textI [107,58,32,39]:=by decide +kernel
set_option maxRecDepth 4000 in
theorem ps_d:({ data:=#[107,58,32,62,45,10] }:ByteArray)=textI [107,58,32,62,45,10]:=by decide +kernel
set_option maxRecDepth 4000 in
theorem ps_e:({ data:=#[107,58,10] }:ByteArray)=textI [107,58,10]:=by decide +kernel
set_option maxRecDepth 4000 in
theorem ps_f:({ data:=#[107,58,32,62,10] }:ByteArray)=textI [107,58,32,62,10]:=by decide +kernel
abbrev scA (n:Nat) (L:List Int):List AV:=[.raw (.string (textI (107::58::32::L))),.raw (.string (textI (107::58::32::34::(L++[34])))),.raw (.string (textI (107::58::32::39::(L++[39])))),.raw (.string (textI (107::58::32::62::45::10::(pdL n++L)))),.raw (.string (textI (107::58::10::(pdL n++L)))),.raw (.string (textI (107::58::32::62::10::(pdL n++L++[10]))))]
set_option maxRecDepth 4000 in
theorem getS {f n:Nat}{w:Int}{r:List Gp} (h:f < 6):(scA n (w::gpL n r)).getD f .any=.raw (.string (textI (scX f n w r))):=by
 match f,h with
 | 0,_=>rfl
 | 1,_=>rfl
 | 2,_=>rfl
 | 3,_=>rfl
 | 4,_=>rfl
 | 5,_=>rfl
abbrev scY:List AV:=[I 1,I 3,I 2,I 5,I 1,I 5]
set_option maxRecDepth 4000 in
theorem getY {f:Nat} (h:f < 6):scY.getD f .any=I (scS f):=by
 match f,h with
 | 0,_=>rfl
 | 1,_=>rfl
 | 2,_=>rfl
 | 3,_=>rfl
 | 4,_=>rfl
 | 5,_=>rfl
set_option maxRecDepth 4000 in
theorem law_ParserScalars (κ:Ctx) (ws:List Int) (hws:ws.length≤maxLen∧∀ a∈ws,IntKind.i64.min≤a∧a≤IntKind.i64.max) (gs:List Int) (hgs:gs.length≤maxLen∧∀ a∈gs,IntKind.i64.min≤a∧a≤IntKind.i64.max) (n:Int) (hn:IntKind.i64.min≤n∧n≤IntKind.i64.max):ACallF κ Tryz.prog 6 [.sl 1 none (ws.map fun n=>I n),.sl 1 none (gs.map fun n=>I n),I n] [] (fun r _=>r=.ret (B true)):=by
 have hmin:IntKind.i64.min = -9223372036854775808:=by decide
 have hmax:IntKind.i64.max=9223372036854775807:=by decide
 have hml:maxLen=9223372036854775807:=by decide
 have hw0:=hws.1
 have hg0:=hgs.1
 rw [hmin,hmax] at hn
 rw [hml] at hw0 hg0
 clear hws hgs
 by_cases hr:((1≤ws.length∧ws.length≤12)∧ws.length≤gs.length)∧1≤n∧n≤9
 ·obtain ⟨n,rfl⟩:∃ k:Nat,n=k:=⟨n.toNat,by omega⟩
  obtain ⟨⟨⟨r0,r1⟩,r2⟩,r3,r4⟩:=hr
  refine ACallF.dropL (ACallF_introA Tryz.func6 rfl ?_)
  simp only [Tryz.ntmps6]
  repeat' (first|(with_reducible first|refine AW_block ?_|refine cut_loop ?_|refine AW_seqA (AW_seqA ?_)|refine AW_seq ?_|refine AW_runReg ?_|refine AW_runCond ?_)|simp only [WL,intF,WM,reduceCtorEq,WLb,Nat.reduceAdd,Nat.reduceSub,Bool.not_true,Bool.not_false,true_and,reduceIte,Bool.false_eq_true,T22,cok10,Tryz.results6,lf_e]|with_reducible refine cD (lAlive4 ?_)|((with_reducible first|refine grd_cases (fun h=>?_) (fun h=>?_)|refine condC_split (fun h=>?_) (fun h=>?_))<;>(try simp only [h])<;>(try simp only [NR_,NRb] at h))|omega)
  refine loopA (fun i:Nat=>⟨(.sl 1 none (ws.map fun n=>I n)::.sl 1 none (gs.map fun n=>I n)::I n::.any::.any::.any::.any::B true::.raw (.string (textI (pdL i)))::I i::.any::.any::.any::.any::.any::.any::.any::.any::.any::.any::.any::.any::.any::.any::.any::.any::.any::.any::.any::.any::.any::.any::.any::.any::.any::.any::.any::.any::.any::.any::.any::.any::.any::.any::.any::.any::.any::.any::.any::.any::.any::.any::.any::.any::.any::.any::.any::.any::.any::.any::.any::.any::.any::.any::.any::.any::.any::.any::.any::.any::.any::.any::.any::.any::.any::.any::.any::.any::.any::.any::.any::.any::.any::.any::.any::.any::.any::.any::.any::.any::.any::.any::.any::.any::.any::.any::.any::.any::.any::.any::.any::.any::.any::.any::.any::.any::.any::.any::.any::.any::.any::.any::.any::.any::.any::.any::.any::.any::.any::.any::.any::.any::.any::.any::.any::.any::.any::.any::.any::.any::.any::.any::.any::.any::.any::.any::.any::.any::.any::.any::.any::.any::.any::.any::.any::.any::.any::.any::.any::.any::.any::.any::.any::.any::.any::.any::.any::.any::.any::.any::.any::.any::.any::.any::.any::.any::.any::.any::.any::.any::.any::.any::.any::.any::.any::.any::.any::.any::.any::[]),[],true,[]⟩) (fun i=>i≤n) (fun i=>n - i) 0 (St_le_same leA id) (Nat.zero_le _) ?_
  intro i hi
  have hpl:(pdL i).length=i:=List.length_replicate
  rcases Nat.lt_or_ge i n with hin|hin
  ·skip
   repeat' (first|(with_reducible first|refine AW_seqA (AW_block ?_)|refine AW_block ?_|refine cut_loop ?_|refine AW_seqA (AW_seqA ?_)|refine AW_seq ?_|refine AW_runReg ?_|refine AW_runCond ?_)|simp only [WL,intF,strF,WM,ne_eq,reduceCtorEq,not_false_eq_true,ps_32,textI_app]|simp (disch:=first|omega|(simp only [LN_];omega)) only [wrap_id,ps_addT]|((with_reducible first|refine grd_cases (fun h=>?_) (fun h=>?_)|refine condC_split (fun h=>?_) (fun h=>?_))<;>(try simp only [h])<;>(try simp only [NR_,NRb] at h))|omega)
   exact ⟨i+1,St_le_same (by simp only [pdL,List.replicate_succ'];exact leA) id,hin,by omega⟩
  ·obtain rfl:i=n:=by omega
   repeat' (first|(with_reducible first|refine AW_seqA (AW_block ?_)|refine AW_block ?_|refine cut_loop ?_|refine AW_seqA (AW_seqA ?_)|refine AW_seq ?_|refine AW_runReg ?_|refine AW_runCond ?_)|simp only [WL,intF,strF,WM,ne_eq,reduceCtorEq,not_false_eq_true]|((with_reducible first|refine grd_cases (fun h=>?_) (fun h=>?_)|refine condC_split (fun h=>?_) (fun h=>?_))<;>(try simp only [h])<;>(try simp only [NR_,NRb] at h))|omega)
   refine loopA (fun m:Nat=>⟨(.sl 1 none (ws.map fun n=>I n)::.sl 1 none (gs.map fun n=>I n)::I i::.any::.any::.any::.any::B true::.raw (.string (textI (pdL i)))::.any::.raw (.string (textI (scTx ws gs m)))::.raw (.string (textI (scLn i ws gs m)))::I m::.any::.any::.any::.any::.any::.any::.any::.any::.any::.any::.any::.any::.any::.any::.any::.any::.any::.any::.any::.any::.any::.any::.any::.any::.any::.any::.any::.any::.any::.any::.any::.any::.any::.any::.any::.any::.any::.any::.any::.any::.any::.any::.any::.any::.any::.any::.any::.any::.any::.any::.any::.any::.any::.any::.any::.any::.any::.any::.any::.any::.any::.any::.any::.any::.any::.any::.any::.any::.any::.any::.any::.any::.any::.any::.any::.any::.any::.any::.any::.any::.any::.any::.any::.any::.any::.any::.any::.any::.any::.any::.any::.any::.any::.any::.any::.any::.any::.any::.any::.any::.any::.any::.any::.any::.any::.any::.any::.any::.any::.any::.any::.any::.any::.any::.any::.any::.any::.any::.any::.any::.any::.any::.any::.any::.any::.any::.any::.any::.any::.any::.any::.any::.any::.any::.any::.any::.any::.any::.any::.any::.any::.any::.any::.any::.any::.any::.any::.any::.any::.any::.any::.any::.any::.any::.any::.any::.any::.any::.any::.any::.any::.any::.any::.any::.any::.any::[]),[],true,[]⟩) (fun m=>m≤ws.length) (fun m=>ws.length - m) 0 (St_le_same leA id) (Nat.zero_le _) ?_
   intro m hm
   obtain ⟨q1,q2⟩:=sc_lens (n:=i) (ws:=ws) (gs:=gs) (m:=m) (by omega) (by omega)
   rcases Nat.lt_or_ge m ws.length with hmn|hmn
   ·obtain ⟨d,hd⟩:∃ d:Nat,ws.getD m 0 % 16=d:=⟨(ws.getD m 0 % 16).toNat,by omega⟩
    obtain ⟨k,hk⟩:∃ k:Nat,gs.getD m 0 % 4=k:=⟨(gs.getD m 0 % 4).toNat,by omega⟩
    have hd16:d < 16:=by omega
    have hk4:k≤3:=by omega
    have l1:=ps_let hd16
    have l2:((d:Int)+1).toNat=d+1:=by omega
    rcases Nat.eq_zero_or_pos m with h0|h0
    ·subst h0
     have t1:scTx ws gs (0+1)=[97+(d:Int)]:=by unfold scTx;rw [if_neg (by decide),hd];rfl
     have t2:scLn i ws gs (0+1)=[97+(d:Int)]:=by unfold scLn;rw [if_neg (by decide),hd];rfl
     have t3:scTx ws gs 0=[]:=rfl
     have t4:scLn i ws gs 0=[]:=rfl
     repeat' (first|(with_reducible first|refine AW_seqA (AW_block ?_)|refine AW_seqA (AW_seqA ?_)|refine AW_seq ?_|refine AW_runReg ?_|refine AW_runCond ?_)|simp only [WL,intF,strF,WM,reduceCtorEq,WLb,Nat.reduceAdd,true_and,T3,T9,T22,l1,l2,ps_let_size,fold_and,ps_and15,ps_and3,hd,hk,t3,t4,textI_app]|simp (disch:=first|omega|(simp only [LN_];omega)) only [wrap_id,getI,getI,ps_addT]|with_reducible refine andA (hb:=?_)|((with_reducible refine AW_drawM (id:=14) 13 mixed ?_ ?_);kernel_rfl)|(with_reducible refine dmQ_mk ?_)|((with_reducible first|refine grd_cases (fun h=>?_) (fun h=>?_)|refine condC_split (fun h=>?_) (fun h=>?_))<;>(try simp only [h])<;>(try simp only [NR_,NRb] at h))|omega)
     exact ⟨0+1,St_le_same (by rw [t1,t2];exact leA) id,hmn,by omega⟩
    ·have t1:scTx ws gs (m+1)=scTx ws gs m++(between k++[97+(d:Int)]):=by rw [scTx_succ h0,hd,hk];rfl
     have t2:scLn i ws gs (m+1)=scLn i ws gs m++10::(List.replicate k 10++(pdL i++[97+(d:Int)])):=by rw [scLn_succ h0,hd,hk];rfl
     generalize scTx ws gs m=TX at *
     generalize scLn i ws gs m=LN at *
     have hj:∀ q:Nat,(List.replicate q (10:Int)).length=q:=fun q=>List.length_replicate
     have hj1:∀ q:Nat,List.replicate q (10:Int)++[10]=List.replicate (q+1) 10:=fun q=>List.replicate_succ'.symm
     repeat' (first|(with_reducible first|refine AW_seqA (AW_block ?_)|refine AW_seqA (AW_seqA ?_)|refine AW_seq ?_|refine AW_runReg ?_|refine AW_runCond ?_)|simp only [WL,intF,strF,WM,reduceCtorEq,WLb,Nat.reduceAdd,true_and,T3,T9,T22,l1,l2,ps_let_size,fold_and,ps_and15,ps_and3,hd,hk,ps_10,textI_app]|simp (disch:=first|omega|(simp only [LN_];omega)) only [wrap_id,getI,getI,ps_addT]|with_reducible refine andA (hb:=?_)|((with_reducible refine AW_drawM (id:=14) 13 mixed ?_ ?_);kernel_rfl)|(with_reducible refine dmQ_mk ?_)|((with_reducible first|refine grd_cases (fun h=>?_) (fun h=>?_)|refine condC_split (fun h=>?_) (fun h=>?_))<;>(try simp only [h])<;>(try simp only [NR_,NRb] at h))|omega)
     refine loop_by (fun j:Nat=>⟨(.sl 1 none (ws.map fun n=>I n)::.sl 1 none (gs.map fun n=>I n)::I i::.any::.any::.any::.any::B true::.raw (.string (textI (pdL i)))::.any::.raw (.string (textI (TX++List.replicate j 10)))::.raw (.string (textI (LN++[10]++List.replicate j 10)))::I m::.raw (.string (textI [97+(d:Int)]))::I k::I j::.any::.any::.any::.any::.any::.any::.any::.any::.any::.any::.any::.any::.any::.any::.any::.any::.any::.any::.any::.any::.any::.any::.any::.any::.any::.any::.any::.any::.any::.any::.any::.any::.any::.any::.any::.any::.any::.any::.any::.any::.any::.any::.any::.any::.any::.any::.any::.any::.any::.any::.any::.any::.any::.any::.any::.any::.any::.any::.any::.any::.any::.any::.any::.any::.any::.any::.any::.any::.any::.any::.any::.any::.any::.any::.any::.any::.any::.any::.any::.any::.any::.any::.any::.any::.any::.any::.any::.any::.any::.any::.any::.any::.any::.any::.any::.any::.any::.any::.any::.any::.any::.any::.any::.any::.any::.any::.any::.any::.any::.any::.any::.any::.any::.any::.any::.any::.any::.any::.any::.any::.any::.any::.any::.any::.any::.any::.any::.any::.any::.any::.any::.any::.any::.any::.any::.any::.any::.any::.any::.any::.any::.any::.any::.any::.any::.any::.any::.any::.any::.any::.any::.any::.any::.any::.any::.any::.any::.any::.any::.any::.any::.any::.any::[]),[],true,[]⟩) (fun j=>j≤k) (fun j=>k - j) 0 (St_le_same (by rw [List.replicate_zero,List.append_nil,List.append_nil];exact leA) id) (Nat.zero_le _) ?_
     intro j hjk
     have hjl:=hj j
     rcases Nat.lt_or_ge j k with hjn|hjn
     ·skip
      repeat' (first|simp only [WL,intF,strF,WM,ne_eq,reduceCtorEq,not_false_eq_true,textI_app]|simp (disch:=first|omega|(simp only [LN_];omega)) only [wrap_id,ps_addT]|((with_reducible first|refine grd_cases (fun h=>?_) (fun h=>?_)|refine condC_split (fun h=>?_) (fun h=>?_))<;>(try simp only [h])<;>(try simp only [NR_,NRb] at h))|omega)
      exact ⟨j+1,St_le_same (by rw [← hj1,← List.append_assoc,← List.append_assoc];exact leA) id,hjn,by omega⟩
     ·obtain rfl:j=k:=by omega
      rcases Nat.eq_zero_or_pos j with hz|hz
      ·subst hz
       have t1:scTx ws gs (m+1)=TX++[32]++[97+(d:Int)]:=by rw [t1];simp [between]
       have t2:scLn i ws gs (m+1)=LN++[10]++pdL i++[97+(d:Int)]:=by rw [t2];simp
       have t5:∀ X:List Int,X++List.replicate 0 10=X:=fun X=>by simp
       repeat' (first|simp only [WL,intF,strF,WM,ne_eq,reduceCtorEq,not_false_eq_true,Nat.reduceSub,ps_32,textI_app]|simp (disch:=first|omega|(simp only [LN_];omega)) only [wrap_id,ps_addT]|((with_reducible first|refine grd_cases (fun h=>?_) (fun h=>?_)|refine condC_split (fun h=>?_) (fun h=>?_))<;>(try simp only [h])<;>(try simp only [NR_,NRb] at h))|omega)
       repeat' (first|(with_reducible first|refine AW_seq ?_|refine AW_runReg ?_)|simp only [WL,intF,strF,WM,ne_eq,reduceCtorEq,not_false_eq_true,textI_app]|simp (disch:=first|omega|(simp only [LN_];omega)) only [wrap_id,ps_addT])
       exact ⟨m+1,St_le_same (by rw [t1,t2];exact leA) id,hmn,by omega⟩
      ·have t1:scTx ws gs (m+1)=TX++List.replicate j 10++[97+(d:Int)]:=by rw [t1];unfold between;rw [if_neg (by omega)];simp
       have t2:scLn i ws gs (m+1)=LN++[10]++List.replicate j 10++pdL i++[97+(d:Int)]:=by rw [t2];simp
       repeat' (first|simp only [WL,intF,strF,WM,ne_eq,reduceCtorEq,not_false_eq_true,ps_32,textI_app]|simp (disch:=first|omega|(simp only [LN_];omega)) only [wrap_id,ps_addT]|((with_reducible first|refine grd_cases (fun h=>?_) (fun h=>?_)|refine condC_split (fun h=>?_) (fun h=>?_))<;>(try simp only [h])<;>(try simp only [NR_,NRb] at h))|omega)
       repeat' (first|(with_reducible first|refine AW_seq ?_|refine AW_runReg ?_)|simp only [WL,intF,strF,WM,ne_eq,reduceCtorEq,not_false_eq_true,textI_app]|simp (disch:=first|omega|(simp only [LN_];omega)) only [wrap_id,ps_addT])
       exact ⟨m+1,St_le_same (by rw [t1,t2];exact leA) id,hmn,by omega⟩
   ·obtain rfl:m=ws.length:=by omega
    have hLN:scLn i ws gs ws.length=(97+ws.getD 0 0 % 16)::gpL i (scG ws gs ws.length):=if_neg (by omega)
    have hTX:scTx ws gs ws.length=txT (97+ws.getD 0 0 % 16) (scG ws gs ws.length):=if_neg (by omega)
    have hw:Ltr (97+ws.getD 0 0 % 16):=by omega
    have hall:=fun f (hf:f < 6)=>sc_all (f:=f) (n:=i) (r:=scG ws gs ws.length) hf (by omega) hw (fun g hg=>(scG_mem g hg).1) (fun g hg=>(scG_mem g hg).2) (by rw [scG_len];omega)
    have hgS:=fun f (hf:f < 6)=>getS (n:=i) (w:=97+ws.getD 0 0 % 16) (r:=scG ws gs ws.length) hf
    rw [← hLN] at hgS
    have hsT:∀ f,scT f (97+ws.getD 0 0 % 16) (scG ws gs ws.length)=if f=5 then scTx ws gs ws.length++[10] else scTx ws gs ws.length:=fun f=>by rw [hTX];rfl
    generalize 97+ws.getD 0 0 % 16=w at *
    generalize scG ws gs ws.length=G at *
    generalize scTx ws gs ws.length=TX at *
    generalize scLn i ws gs ws.length=LN at *
    clear hLN hTX
    repeat' (first|(with_reducible first|refine AW_seqA (AW_block ?_)|refine AW_block ?_|refine cut_loop ?_|refine AW_seqA (AW_seqA ?_)|refine AW_seq ?_|refine AW_runReg ?_|refine AW_runCond ?_)|simp only [WL,intF,strF,WM,reduceCtorEq,WLb,Nat.reduceAdd,true_and,T3,T9,T22,ps_34,ps_39,ps_a,ps_b,ps_c,ps_d,ps_e,ps_f,ps_10,textI_app]|simp (disch:=first|omega|(simp only [LN_];omega)) only [wrap_id,getI,ps_addT]|(with_reducible first|refine andA (hb:=?_)|refine y_bs (hK:=?_))|((with_reducible refine AW_drawM (id:=14) 13 mixed ?_ ?_);kernel_rfl)|(with_reducible refine dmQ_mk ?_)|((with_reducible first|refine grd_cases (fun h=>?_) (fun h=>?_)|refine condC_split (fun h=>?_) (fun h=>?_))<;>(try simp only [h])<;>(try simp only [NR_,NRb] at h))|omega)
    refine loopA (fun f:Nat=>⟨(.sl 1 none (ws.map fun n=>I n)::.sl 1 none (gs.map fun n=>I n)::I i::.any::.any::.any::.any::B true::.raw (.string (textI (pdL i)))::.any::.raw (.string (textI TX))::.raw (.string (textI LN))::.any::.any::.any::.any::.sl 1 none (scA i LN)::.sl 1 none scY::I f::.any::.any::.any::.any::.any::.any::.any::.any::.any::.any::.any::.any::.any::.any::.any::.any::.any::.any::.any::.any::.any::.any::.any::.any::.any::.any::.any::.any::.any::.any::.any::.any::.any::.any::.any::.any::.any::.any::.any::.any::.any::.any::.any::.any::.any::.any::.any::.any::.any::.any::.any::.any::.any::.any::.any::.any::.any::.any::.any::.any::.any::.any::.any::.any::.any::.any::.any::.any::.any::.any::.any::.any::.any::.any::.any::.any::.any::.any::.any::.any::.any::.any::.any::.any::.any::.any::.any::.any::.any::.any::.any::.any::.any::.any::.any::.any::.any::.any::.any::.any::.any::.any::.any::.any::.any::.any::.any::.any::.any::.any::.any::.any::.any::.any::.any::.any::.any::.any::.any::.any::.any::.any::.any::.any::.any::.any::.any::.any::.any::.any::.any::.any::.any::.any::.any::.any::.any::.any::.any::.any::.any::.any::.any::.any::.any::.any::.any::.any::.any::.any::.any::.any::.any::.any::.any::.any::.any::.any::.any::.any::[]),[],true,[]⟩) (fun f=>f≤6) (fun f=>6 - f) 0 (St_le_same leA id) (Nat.zero_le _) ?_
    intro f hf
    rcases Nat.lt_or_ge f 6 with hfn|hfn
    ·obtain ⟨k,d1,hA,hsm,hp⟩:=hall f hfn
     have hgf:=hgS f hfn
     have hgy:=getY hfn
     have hb1:=asc_text hA
     have hB1:Asc (bytesI (textI (scX f i w G))):=by rw [hb1];exact hA
     have c1:(0:Int)≤0∧0 - (lineP (readR (scX f i w G)).1 0).1≤(lineP (readR (scX f i w G)).1 0).2.length:=by
      have:=(hsm.at_ (i:=0) (by omega)).2.1
      refine ⟨by decide, ?_⟩
      show 0 - ((readR (scX f i w G)).1.getD 0 (0,[])).1≤_
      omega
     rw [hsT] at d1
     generalize scX f i w G=X at *
     generalize hLS:(readR X).1=LS at *
     clear hall hgS hsT
     by_cases h5:f=5
     ·subst h5
      rw [if_pos rfl] at d1
      have h59:(((5:Nat):Int) == 5)=true:=rfl
      repeat' (first|( with_reducible refine y_idx_row (hK:=?_))|(with_reducible first|refine AW_seqA (AW_block ?_)|refine AW_seqA (AW_seqA ?_)|refine AW_seq ?_|refine AW_runReg ?_|refine AW_runCond ?_|refine AW_runRet ?_)|simp only [WL,intF,strF,WM,Int.reduceToNat,reduceCtorEq,WLb,Nat.reduceAdd,Nat.reduceSub,Nat.reduceLT,Nat.reduceEqDiff,Bool.not_true,Bool.not_false,beq_self_eq_true,true_and,reduceIte,Bool.false_eq_true,T3,T9,T22,T24,T39,fR fl26_1,fR fl26_4,cok12,cok13,cok14,Tryz.results6,hgf,hgy,hb1,hLS,h59,textI_app]|simp (disch:=first|omega|(simp only [LN_];omega)) only [wrap_id,ps_addT]|(with_reducible first|refine andA (hb:=?_)|refine y_load (hK:=?_)|refine cD (lLines hB1 ?_)|refine callD_mk (zNodeOk0 d1 hsm ⟨by decide,hp⟩ c1 (fun rb rc cs hrc=>?_))|refine cQ (lNum4 isR_mk) ?_)|((with_reducible refine AW_drawM (id:=37) 27 mixed ?_ ?_);kernel_rfl)|(with_reducible refine dmQ_mk ?_)|((with_reducible first|refine grd_cases (fun h=>?_) (fun h=>?_)|refine condC_split (fun h=>?_) (fun h=>?_))<;>(try simp only [h])<;>(try simp only [NR_,NRb] at h))|omega)
      all_goals first
       | exact ⟨5+1,St_leW leA (ResW.sub (List.nil_sublist _)) id,by omega,by omega⟩
       | exact absurd trivial (by assumption)
       | (exfalso;omega)
     ·rw [if_neg h5] at d1
      have h59:((f:Int) == 5)=false:=by rw [beq_eq_false_iff_ne];omega
      repeat' (first|( with_reducible refine y_idx_row (hK:=?_))|(with_reducible first|refine AW_seqA (AW_block ?_)|refine AW_seqA (AW_seqA ?_)|refine AW_seq ?_|refine AW_runReg ?_|refine AW_runCond ?_|refine AW_runRet ?_)|simp only [WL,intF,strF,WM,Int.reduceToNat,reduceCtorEq,WLb,Nat.reduceAdd,Nat.reduceLT,Nat.reduceEqDiff,Bool.not_true,Bool.not_false,beq_self_eq_true,true_and,reduceIte,Bool.false_eq_true,T3,T9,T22,T24,T39,fR fl26_1,fR fl26_4,cok12,cok13,cok14,Tryz.results6,hgf,hgy,hb1,hLS,h59]|simp (disch:=first|omega|(simp only [LN_];omega)) only [wrap_id]|(with_reducible first|refine andA (hb:=?_)|refine y_load (hK:=?_)|refine cD (lLines hB1 ?_)|refine callD_mk (zNodeOk0 d1 hsm ⟨by decide,hp⟩ c1 (fun rb rc cs hrc=>?_))|refine cQ (lNum4 isR_mk) ?_)|((with_reducible refine AW_drawM (id:=37) 27 mixed ?_ ?_);kernel_rfl)|(with_reducible refine dmQ_mk ?_)|((with_reducible first|refine grd_cases (fun h=>?_) (fun h=>?_)|refine condC_split (fun h=>?_) (fun h=>?_))<;>(try simp only [h])<;>(try simp only [NR_,NRb] at h))|omega)
      all_goals first
       | exact ⟨f+1,St_leW leA (ResW.sub (List.nil_sublist _)) id,by omega,by omega⟩
       | exact absurd trivial (by assumption)
       | (exfalso;omega)
    ·obtain rfl:f=6:=by omega
     repeat' (first|(with_reducible first|refine AW_seqA (AW_block ?_)|refine AW_seqA (AW_seqA ?_)|refine AW_seq ?_|refine AW_runReg ?_|refine AW_runCond ?_|refine AW_runRet ?_)|simp only [WL,intF,WM,reduceCtorEq,WLb,Nat.reduceAdd,Nat.reduceSub,true_and,T9,T39,cok13,Tryz.results6]|with_reducible refine andA (hb:=?_)|((with_reducible first|refine grd_cases (fun h=>?_) (fun h=>?_)|refine condC_split (fun h=>?_) (fun h=>?_))<;>(try simp only [h])<;>(try simp only [NR_,NRb] at h))|omega)
     exact leafL sub_rfl (leT_eq rfl) rfl
 ·skip
  refine ACallF.dropL (ACallF_intro Tryz.func6 rfl ?_)
  simp only [Tryz.ntmps6]
  repeat' (first|simp only [WL,intF,WM,reduceCtorEq,WLb,Nat.reduceAdd,Nat.reduceSub,Bool.not_true,Bool.not_false,true_and,reduceIte,Bool.false_eq_true,T22,cok10,Tryz.results6]|with_reducible refine cD (lAlive4 ?_)|((with_reducible first|refine grd_cases (fun h=>?_) (fun h=>?_)|refine condC_split (fun h=>?_) (fun h=>?_))<;>(try simp only [h])<;>(try simp only [NR_,NRb] at h))|omega)
  all_goals first
   | exact leafL sub_rfl (leT_eq rfl) rfl
   | (exfalso;omega)
end Go.Proofs.YthkabaiamcjdbaaGreat
