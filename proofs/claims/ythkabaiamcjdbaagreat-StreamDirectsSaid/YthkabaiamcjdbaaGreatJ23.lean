/-
  Texts Bl, Bm, Bn, Kl, Km, one behind the other.
-/
import Derived.Test.YthkabaiamcjdbaaGreatJ21
import Derived.Test.YthkabaiamcjdbaaGreatJ22
set_option linter.unusedVariables false
set_option linter.unusedSimpArgs false
set_option maxHeartbeats 16000000
namespace Go.Proofs.YthkabaiamcjdbaaGreat
open Go.Abs
variable {κ:Ctx} {σ:List Res} {K:Ret→List Res→Prop} {o o':Option (Option (Nat × Nat))}
theorem len_nil {l:List Int} (h:(l.length:Int)=0):l=[]:=List.eq_nil_of_length_eq_zero (by omega)
theorem BD {l:List Int} (h:¬(l.length:Int)=0):¬l=[]:=fun e=>h (by rw [e];rfl)
theorem Je {n:Int}{t:List Int} (hK:K (.ret (B ((t.length:Int) == 0))) σ):ACallF κ Tryz.prog 155 [.agg [I n,SI o t]] σ K:=by
 refine ACallF.dropL (aa Tryz.func155 rfl ?_);simp only [Tryz.ntmps155]
 repeat' (first|simp only [WL,ay,WM,reduceCtorEq,bg,Nat.reduceAdd,Nat.reduceSub,Nat.reduceEqDiff,true_and,cb,fR c9,Tryz.results155]|(with_reducible first|refine ax (hb:=?_)|refine au (hK:=?_)|refine aQ (hK:=fun b=>?_)))
 exact ak (ah ae) (aj rfl) hK
theorem OY {l:List Ln}{h0:HD}{n:Int} (hl:l.length≤1000000000) (ht:∀ x∈l,x.2.length≤1000000000) (hn:-1≤n∧n≤1099511627776) (hK:K (.ret (.tup [I (lL l h0.2.2 n).1,I (lL l h0.2.2 n).2])) σ):ACallF κ Tryz.prog 127 [SL o l,ZU h0,I n] σ K:=by
 refine ACallF.dropL (aN Tryz.func127 rfl ?_);simp only [Tryz.ntmps127]
 repeat' (first|(with_reducible first|refine jS (id:=4) ?_|refine al (al ?_)|refine aG ?_|refine aB ?_|refine aw ?_)|simp only [WL,ay,WM,reduceCtorEq,bg,Nat.reduceAdd,Nat.reduceSub,Nat.reduceEqDiff,true_and,T3,fR yT,Tryz.results127]|simp (disch:=first|omega|(simp only [aU];omega)) only [an]|(with_reducible first|refine ax (hb:=?_)|refine au (hK:=?_)|refine aQ (hK:=fun b=>?_)|refine mS ?_|refine Fk ?_)|((with_reducible first|refine ai (fun h=>?_) (fun h=>?_)|refine ab (fun h=>?_) (fun h=>?_))<;>(try simp only [h])<;>(try simp only [bf,ba] at h)))
 ·exact ak (ah ae) (aj (by unfold lL;rw [if_pos (by omega)])) hK
 refine nW (fun x:Int × Option Int=>⟨(SL o l::.any::I n::.any::.raw (.pointer (some ⟨b,0,none⟩))::.any::.any::.any::I x.1::I (x.2.getD n)::.any::.any::.any::.any::.any::.any::.any::.any::.any::.any::.any::.any::.any::.any::.any::.any::.any::.any::.any::.any::.any::.any::.any::.any::.any::.any::.any::.any::.any::.any::.any::.any::.any::.any::.any::.any::.any::.any::.any::.any::.any::.any::.any::[]),.obj b [B h0.1,I h0.2.1,I h0.2.2]::σ,true,[]⟩) (fun x=>eh 0 l=x) ?_ ?_
 ·skip
  repeat' (first|(with_reducible first|refine aC ?_|refine bO ?_|refine aG ?_)|simp only [WL,WM,true_and,gg])
  refine dq (fun x:Nat × Int=>⟨(SL o l::.any::I n::.any::.raw (.pointer (some ⟨b,0,none⟩))::.any::.any::.any::I x.2::I n::.any::.any::.any::.any::.any::.any::.any::.any::.any::.any::.any::.any::SL o l::I l.length::I x.1::.any::.any::.any::.any::.any::.any::.any::.any::.any::.any::.any::.any::.any::.any::.any::.any::.any::.any::.any::.any::.any::.any::.any::.any::.any::.any::.any::.any::[]),.obj b [B h0.1,I h0.2.1,I h0.2.2]::σ,true,[]⟩) (fun x=>x.1≤l.length∧eh 0 l=eh x.2 (l.drop x.1)) (fun x=>l.length - x.1) (0,0) (aM bH (ResW.refl _) id) ⟨Nat.zero_le _,rfl⟩ ?_;rintro ⟨k,w⟩ hx;dsimp only at hx ⊢;have h1:=hx.1
  have h2:=hx.2
  rcases Nat.lt_or_ge k l.length with hk|hk
  ·have hmem:l.getD k (0,[])∈l:=by rw [List.getD_eq_getElem?_getD,List.getElem?_eq_getElem hk];exact List.getElem_mem hk
   have htk:=ht _ hmem
   repeat' (first|(with_reducible first|refine al (aC ?_)|refine al (al ?_)|refine aG ?_|refine aB ?_|refine aw ?_|refine DR ?_)|simp only [WL,ay,WM,reduceCtorEq,bg,Nat.reduceAdd,Nat.reduceEqDiff,true_and,reduceIte,T3,gg,jm,fR db,fY,Dg]|simp (disch:=first|omega|(simp only [aU];omega)) only [an,dO]|(with_reducible first|refine ax (hb:=?_)|refine au (hK:=?_)|refine aA (hK:=?_)|refine az (hK:=?_)|refine aV (hK:=fun b=>?_)|refine mS ?_|refine cD (cZ ?_ ?_)|refine cD (Je ?_))|((with_reducible first|refine ai (fun h=>?_) (fun h=>?_)|refine ab (fun h=>?_) (fun h=>?_))<;>(try simp only [h])<;>(try simp only [bf,ba] at h))|omega)
   all_goals first
    | exact ⟨(k+1,max w (l.getD k (0,[])).1),aM bH (ResW.sub (List.sublist_cons_self _ _)) id,⟨by dsimp only;omega,h2.trans (F6 hk (len_nil (by assumption)))⟩,by dsimp only;omega⟩
    | exact ⟨(w,some (l.getD k (0,[])).1),aM bH (ResW.sub (List.sublist_cons_self _ _)) id,h2.trans (Gf hk (BD (by assumption)) (by assumption))⟩
    | exact ⟨(w,none),aM bH (ResW.sub (List.sublist_cons_self _ _)) id,h2.trans (HR hk (BD (by assumption)) (by assumption))⟩
  ·skip
   repeat' (first|(with_reducible first|refine al (aC ?_)|refine aG ?_)|simp only [WL,ay,WM,ne_eq,reduceCtorEq,not_false_eq_true,true_and,gg,jm]|(with_reducible first|refine ax (hb:=?_)|refine aV (hK:=fun b=>?_))|((with_reducible first|refine ai (fun h=>?_) (fun h=>?_)|refine ab (fun h=>?_) (fun h=>?_))<;>(try simp only [h])<;>(try simp only [bf,ba] at h))|omega)
   exact ⟨(w,none),aM bH (ResW.refl _) id,h2.trans (BF hk)⟩
 ·rintro ⟨w,f⟩ hx
  dsimp only at hx ⊢;have hi:¬0 < h0.2.2:=by omega
  have hu:lL l h0.2.2 n=if f.getD n≤n then (max w (n+1),0) else if f.getD n < w then (0,7) else (f.getD n,0):=by unfold lL;rw [if_neg hi,hx]
  generalize f.getD n=g at *
  repeat' (first|(with_reducible first|refine al (aC ?_)|refine aG ?_|refine aw ?_|refine aO ?_)|simp only [WL,ay,WM,ne_eq,reduceCtorEq,not_false_eq_true,true_and,Tryz.results127]|simp (disch:=first|omega|(simp only [aU];omega)) only [an]|with_reducible refine mS ?_|((with_reducible first|refine ai (fun h=>?_) (fun h=>?_)|refine ab (fun h=>?_) (fun h=>?_))<;>(try simp only [h])<;>(try simp only [bf,ba] at h)))
  all_goals first
   | (rw [if_pos (by omega)] at hu;exact ak (ah ae) (aj (by rw [hu])) hK)
   | (rw [if_neg (by omega),if_pos (by omega)] at hu;exact ak (ah ae) (aj (by rw [hu])) hK)
   | (rw [if_neg (by omega),if_neg (by omega)] at hu;exact ak (ah ae) (aj (by rw [hu])) hK)
theorem zI {x:Ln}{d:Int} (ht:x.2.length≤1000000000) (hd:-1000000000000000≤x.1 - d∧x.1 - d≤1000000) (hK:K (.ret (SI none (xz d x))) σ):ACallF κ Tryz.prog 157 [LN x,I d] σ K:=by
 refine ACallF.dropL (aN Tryz.func157 rfl ?_);simp only [Tryz.ntmps157]
 repeat' (first|(with_reducible first|refine aC ?_|refine bO ?_|refine al (al ?_)|refine aG ?_|refine aB ?_)|simp only [WL,ay,WM,reduceCtorEq,bg,Nat.reduceAdd,Nat.reduceSub,Nat.reduceEqDiff,T3,fR db]|simp (disch:=first|omega|(simp only [aU];omega)) only [an]|(with_reducible first|refine ax (hb:=?_)|refine au (hK:=?_)|refine aQ (hK:=fun b=>?_)))
 refine dq (fun y:Nat × Option (Nat × Nat)=>⟨(.any::I d::.raw (.pointer (some ⟨b,0,none⟩))::.any::.any::SI (some y.2) (List.replicate y.1 32)::.any::.any::.any::I (x.1 - d)::I y.1::.any::.any::.any::.any::.any::.any::.any::.any::.any::[]),.tip y.2::.obj b [I x.1,SI none x.2]::σ,true,[]⟩) (fun y=>(y.1:Int)≤max 0 (x.1 - d)) (fun y=>(x.1 - d).toNat - y.1) (0,none) (aM bH ResW.void id) (by dsimp only;omega) ?_;rintro ⟨k,tk⟩ hx;dsimp only at hx ⊢;rcases Int.lt_or_le (k:Int) (x.1 - d) with hk|hk
 ·skip
  repeat' (first|(with_reducible first|refine al (aC ?_)|refine aG ?_|refine aB ?_|refine aO ?_)|simp only [WL,ay,WM,reduceCtorEq,bg,Nat.reduceAdd,Nat.reduceEqDiff,true_and,cb,fR c9,Tryz.results157]|simp (disch:=first|omega|(simp only [aU];omega)) only [an]|(with_reducible first|refine ax (hb:=?_)|refine au (hK:=?_)|refine cX (hlen:=?_) (hmax:=?_) (hK:=fun tk=>?_)|refine dp (hK:=?_))|((with_reducible first|refine ai (fun h=>?_) (fun h=>?_)|refine ab (fun h=>?_) (fun h=>?_))<;>(try simp only [h])<;>(try simp only [bf,ba] at h))|omega|(simp only [aU];omega)|(refine bq ?_;(first|omega|(simp only [aU];omega))))
  exact ⟨(k+1,tk),aM (by simp only [List.replicate_succ'];exact bH) (ResW.refl _) id,by dsimp only;omega,by dsimp only;omega⟩
 ·have e:xz d x=List.replicate k 32++x.2:=by unfold xz;rw [show (x.1 - d).toNat=k by omega]
  repeat' (first|(with_reducible first|refine al (aC ?_)|refine aG ?_|refine aB ?_|refine aO ?_)|simp only [WL,ay,WM,reduceCtorEq,bg,Nat.reduceAdd,Nat.reduceEqDiff,true_and,cb,fR c9,Tryz.results157]|simp (disch:=first|omega|(simp only [aU];omega)) only [an]|(with_reducible first|refine ax (hb:=?_)|refine au (hK:=?_)|refine cX (hlen:=?_) (hmax:=?_) (hK:=fun tk=>?_)|refine dp (hK:=?_))|((with_reducible first|refine ai (fun h=>?_) (fun h=>?_)|refine ab (fun h=>?_) (fun h=>?_))<;>(try simp only [h])<;>(try simp only [bf,ba] at h))|omega|(simp only [aU];omega)|(refine bq ?_;(first|omega|(simp only [aU];omega))))
  exact ak (ah (ah ae)) (eI (by rw [e];simp only [SI,List.map_append];exact le_ro)) hK
theorem WX {l:List Ln}{d:Int} (hK:∀ b1 b2,K (.ret (.raw (.func (.func 156) #[] #[.pointer (some ⟨b1,0,none⟩),.pointer (some ⟨b2,0,none⟩)]))) (.obj b2 [I d]::.obj b1 [SL o l]::σ)):ACallF κ Tryz.prog 128 [SL o l,I d] σ K:=by
 refine ACallF.dropL (aa Tryz.func128 rfl ?_);simp only [Tryz.ntmps128]
 repeat' (first|simp only [WL,WM,Nat.reduceAdd,Nat.reduceSub,true_and,Tryz.results128]|with_reducible refine aQ (hK:=fun b=>?_))
 exact ak ae (aj rfl) (hK _ _)
theorem NT {b1 b2 L:Nat}{l:List Ln}{d:Int} (hl:l.length≤1000000000) (ht:∀ x∈l,x.2.length≤1000000000∧-1000000000000000≤x.1 - d∧x.1 - d≤1000000) (hI:Iter κ Tryz.prog L K ((fx d l).map fun t=>[SI none t]) σ) :
  ACallF κ Tryz.prog 156 [.raw (.func (.yield L) #[] #[]),.raw (.pointer (some ⟨b1,0,none⟩)),.raw (.pointer (some ⟨b2,0,none⟩))] (.obj b2 [I d]::.obj b1 [SL o l]::σ) K:=by
 refine ACallF.dropL (aa Tryz.func156 rfl ?_);simp only [Tryz.ntmps156]
 repeat' (first|simp only [WL,WM,Nat.reduceAdd,Nat.reduceSub,true_and,gg]|with_reducible refine au (hK:=?_))
 refine bF (fun x:Nat × List Res=>⟨(.raw (.func (.yield L) #[] #[])::.raw (.pointer (some ⟨b1,0,none⟩))::.raw (.pointer (some ⟨b2,0,none⟩))::.any::.any::.any::SL o l::I l.length::I x.1::.any::.any::.any::.any::.any::.any::.any::.any::.any::.any::.any::.any::.any::.any::.any::.any::.any::.any::.any::.any::.any::.any::.any::.any::.any::.any::[]),.obj b2 [I d]::.obj b1 [SL o l]::x.2,true,[]⟩) (fun x=>x.1≤l.length∧Iter κ Tryz.prog L K ((fx d (l.drop x.1)).map fun t=>[SI none t]) x.2) (fun x=>l.length - x.1) (0,σ) (aq bH id) ⟨Nat.zero_le _,hI⟩ ?_;rintro ⟨k,σ'⟩ hx;dsimp only at hx ⊢;have h1:=hx.1
 have h2:=hx.2
 rcases Nat.lt_or_ge k l.length with hk|hk
 ·have hmem:l.getD k (0,[])∈l:=by rw [List.getD_eq_getElem?_getD,List.getElem?_eq_getElem hk];exact List.getElem_mem hk
  have htk:=ht _ hmem
  cases ho:rp d (l.getD k (0,[]))
  ·have hnm:aZ (l.getD k (0,[])).1 (l.getD k (0,[])).2=0:=by
    unfold rp at ho;have:=of_decide_eq_false ho
    omega
   have hnv:(l.getD k (0,[])).2.length=0∨d≤(l.getD k (0,[])).1:=by
    unfold rp at ho;have h9:=of_decide_eq_false ho
    by_cases he:(l.getD k (0,[])).2=[]
    ·exact .inl (by rw [he];rfl)
    ·refine .inr ?_
     rcases Int.lt_or_le (l.getD k (0,[])).1 d with h8|h8
     ·exact absurd (.inl ⟨he,h8⟩) h9
     ·exact h8
   rw [GY hk ho] at h2
   repeat' (first|simp only [WL,ay,WM,reduceCtorEq,bg,Nat.reduceAdd,Nat.reduceEqDiff,Bool.not_true,Bool.not_false,true_and,reduceIte,Bool.false_eq_true,T3,gg,jm,fR db,fY,Dg,Ih,Tryz.results156,hnm]|simp (disch:=first|omega|(simp only [aU];omega)) only [dO]|(with_reducible first|refine ax (hb:=?_)|refine au (hK:=?_)|refine aA (hK:=?_)|refine az (hK:=?_)|refine aV (hK:=fun b=>?_)|refine cD (cZ ?_ ?_)|refine cD (Je ?_)|refine cD (zI ?_ ?_ ?_))|((with_reducible first|refine ai (fun h=>?_) (fun h=>?_)|refine ab (fun h=>?_) (fun h=>?_))<;>(try simp only [h])<;>(try simp only [bf,ba] at h))|omega)
   all_goals first
    | (rename_i h;exact absurd trivial h)
    | skip
   all_goals
    refine cR [.obj b [I (l.getD k (0,[])).1,SI none (l.getD k (0,[])).2],.obj b2 [I d],.obj b1 [SL o l]] (jy le_rfl) h2 (fun σ3 h=>?_) (fun σ3 h=>?_) (fun c σ3 h=>?_)
    ·skip
     repeat' (first|simp only [WL,ay,WM,ne_eq,reduceCtorEq,not_false_eq_true,Bool.not_true,reduceIte,Bool.false_eq_true]|simp (disch:=first|omega|(simp only [aU];omega)) only [an])
     exact ⟨(k+1,σ3),aM bH (ResW.sub (List.sublist_cons_self _ _)) id,⟨by dsimp only;omega,h⟩,by dsimp only;omega⟩
    ·skip
     repeat' (first|simp only [WL,WM,Bool.not_false,true_and,reduceIte,Bool.false_eq_true,Tryz.results156])
     exact ak (ah (ah (ah ae))) (aj rfl) h
    ·skip
     repeat' (first|simp only [WL,WM,true_and])
     exact aS (ah (ah (ah ae))) rfl h
  ·rw [Gw hk ho] at h2
   repeat' (first|simp only [WL,ay,WM,reduceCtorEq,bg,Nat.reduceAdd,Nat.reduceEqDiff,Bool.not_true,Bool.not_false,true_and,reduceIte,Bool.false_eq_true,T3,gg,jm,fR db,fY,Dg,Ih,Tryz.results156]|simp (disch:=first|omega|(simp only [aU];omega)) only [dO]|(with_reducible first|refine ax (hb:=?_)|refine au (hK:=?_)|refine aA (hK:=?_)|refine az (hK:=?_)|refine aV (hK:=fun b=>?_)|refine cD (cZ ?_ ?_)|refine cD (Je ?_)|refine cD (zI ?_ ?_ ?_))|((with_reducible first|refine ai (fun h=>?_) (fun h=>?_)|refine ab (fun h=>?_) (fun h=>?_))<;>(try simp only [h])<;>(try simp only [bf,ba] at h))|omega)
   all_goals first
    | exact ak (ah (ah (ah ae))) (aj rfl) h2
    | exact absurd ho (by rw [FV (by first|exact .inl (by omega)|exact .inr (by omega)) (by assumption)];decide)
 ·rw [H7 hk] at h2
  repeat' (first|simp only [WL,ay,WM,ne_eq,reduceCtorEq,not_false_eq_true,true_and,gg,jm,Tryz.results156]|(with_reducible first|refine ax (hb:=?_)|refine aV (hK:=fun b=>?_))|((with_reducible first|refine ai (fun h=>?_) (fun h=>?_)|refine ab (fun h=>?_) (fun h=>?_))<;>(try simp only [h])<;>(try simp only [bf,ba] at h))|omega)
  exact ak (ah (ah ae)) (aj rfl) h2
theorem rS:∀ (l:List Ln) (w:Int),0≤w→w≤2000→(∀ x∈l,0≤x.1∧x.1≤2000)→(0≤(eh w l).1∧(eh w l).1≤2000)∧∀ f,(eh w l).2=some f→0≤f∧f≤2000
 | [],w,h,h2,_=>by simp [eh,h,h2]
 | x::r,w,h,h2,hb=>by
  have hx:=hb x (by simp)
  simp only [eh];split
  ·exact rS r _ (by omega) (by omega) (fun y hy=>hb y (by simp [hy]))
  ·refine ⟨⟨h,h2⟩,fun f hf=>?_⟩
   simp only at hf;split at hf
   ·cases hf;exact hx
   ·cases hf
theorem Ds {l:List Ln}{ind n:Int} (hb:∀ x∈l,0≤x.1∧x.1≤2000) (hn:-1≤n∧n≤1099511627776):0≤(lL l ind n).1∧(lL l ind n).1≤2199023255552:=by
 have h1:=rS l 0 (by decide) (by decide) hb
 unfold lL;split
 ·simp only;omega
 ·have h2:=h1.2
  cases hf:(eh 0 l).2 with
  | none=>
   simp only [Option.getD_none]
   (repeat' split)<;>simp only<;>omega
  | some f =>
   have h3:=h2 f hf
   simp only [Option.getD_some]
   (repeat' split)<;>simp only<;>omega
theorem AQ {d:Int} (hd:0≤d):∀ {l:List Ln},(∀ x∈l,x.2.length≤2000∧0≤x.1∧x.1≤2000)→gm (fx d l)≤l.length * 4001
 | [],_=>by simp [fx,gm]
 | x::r,hb=>by
  have ih:=AQ hd (l:=r) (fun y hy=>hb y (by simp [hy]))
  have hx:=hb x (by simp)
  simp only [fx,List.takeWhile_cons] at *;split
  ·simp only [List.map_cons,gm,List.sum_cons,xz,List.length_append,List.length_replicate,List.length_cons] at *
   rw [Nat.add_mul];have:(x.1 - d).toNat≤2000:=by omega
   omega
  ·simp [gm]
theorem PN {l:List Ln}{h0:HD}{n:Int} (hl:l.length≤2000) (ht:∀ x∈l,x.2.length≤2000∧0≤x.1∧x.1≤2000) (hK:K (.ret (.tup [.raw (.string (dK l h0 n).1),I (dK l h0 n).2.1,I (dK l h0 n).2.2])) σ):ACallF κ Tryz.prog 106 [SL o l,ZU h0,I n] σ K:=by
 have hl2:l.length≤1000000000:=by omega
 have ht2:∀ x∈l,x.2.length≤1000000000:=fun x hx=>by have:=ht x hx;omega
 have hmn:-1≤min (max (-1) n) 1099511627776∧min (max (-1) n) 1099511627776≤1099511627776:=by omega
 refine ACallF.dropL (aN Tryz.func106 rfl ?_);simp only [Tryz.ntmps106]
 repeat' (first|(with_reducible first|refine aC ?_|refine al (al ?_)|refine aG ?_|refine aB ?_|refine aw ?_)|simp only [WL,ay,WM,reduceCtorEq,bg,Nat.reduceAdd,Nat.reduceSub,Nat.reduceLT,true_and,Uy,SM,Tryz.results106]|(with_reducible first|refine aA (hK:=?_)|refine aQ (hK:=fun b=>?_)|refine aV (hK:=fun b=>?_)|refine mS ?_|refine Fk ?_|refine callD_mk (OY (h0:=h0) hl2 ht2 hmn ?_)|refine cD (WX (fun br1 br2=>?_)))|((with_reducible first|refine ai (fun h=>?_) (fun h=>?_)|refine ab (fun h=>?_) (fun h=>?_))<;>(try simp only [h])<;>(try simp only [bf,ba] at h)))
 ·exact ak (ah ae) (aj (by unfold dK;rw [if_pos (by assumption)];rfl)) hK
 rename_i bh;have hdb:=Ds (ind:=h0.2.2) (fun x hx=>(ht x hx).2) hmn
 have hu:dK l h0 n=((aK (if h0.1 then F9 (fx (lL l h0.2.2 (min (max (-1) n) 1099511627776)).1 l) h0.2.1 else GC (fx (lL l h0.2.2 (min (max (-1) n) 1099511627776)).1 l) h0.2.1),((fx (lL l h0.2.2 (min (max (-1) n) 1099511627776)).1 l).length:Nat),0):ByteArray × Int × Int):=by unfold dK;rw [if_neg (by simpa using h)]
 generalize (lL l h0.2.2 (min (max (-1) n) 1099511627776)).1=d at *;have htot:=AQ hdb.1 ht
 have ht3:∀ x∈l,x.2.length≤1000000000∧-1000000000000000≤x.1 - d∧x.1 - d≤1000000:=fun x hx=>by have:=ht x hx;omega
 refine pH 156 [] [.pointer (some ⟨br1,0,none⟩),.pointer (some ⟨br2,0,none⟩)] ((fx d l).map fun t=>[SI none t]) [.obj br2 [I d],.obj br1 [SL o l]] (.obj b [nB (some none) []]::.tip none::.obj bh [B h0.1,I h0.2.1,I h0.2.2]::σ)
  (fun xs τ=>∃ (dn rest:List (List Int)) (tk:Option (Nat × Nat)),fx d l=dn++rest∧xs=rest.map (fun t=>[SI none t])∧τ=.obj b [nB (some tk) dn]::.tip tk::.obj bh [B h0.1,I h0.2.1,I h0.2.2]::σ)
  rfl TM (ResW.cons _ (ResW.cons _ ((ResW.void.cons _).trans (ResW.obj (jy (le_nil (by decide))))))) (fun L K σ' h=>NT hl2 ht3 h) ⟨[],fx d l,none,rfl,rfl,rfl⟩ ?_ ?_
 ·rintro τ ⟨dn,rest,tk,h1,h2,rfl⟩
  obtain rfl:rest=[]:=by cases rest with
   | nil=>rfl
   | cons=>simp at h2
  rw [List.append_nil] at h1;rw [h1] at hu htot;have q1:=Jl dn h0.2.1
  have q2:=KO dn h0.2.1
  have q3:=gF dn
  cases hf:h0.1
  ·rw [hf] at hu
   simp only [Bool.false_eq_true,if_false] at hu
   repeat' (first|(with_reducible first|refine al (al ?_)|refine aG ?_|refine aB ?_|refine aw ?_|refine aO ?_)|simp only [WL,WM,Nat.reduceAdd,Nat.reduceEqDiff,true_and,ml,T3,T4,js,fR yZ,fR se,RL,yv,Tryz.results106]|(with_reducible first|refine ax (hb:=?_)|refine au (hK:=?_)|refine sy ?_|refine cQ (KI ?_ aT) ?_|refine cQ (y8 ?_ aT) ?_)|((with_reducible refine aE (id:=11) 12 mixed ?_ ?_);kernel_rfl)|(with_reducible refine bK ?_)|omega)
   exact ak (ah (ah (ah ae))) (aj (by rw [hu];rfl)) hK
  ·rw [hf] at hu
   simp only [if_true] at hu
   repeat' (first|(with_reducible first|refine al (al ?_)|refine aG ?_|refine aB ?_|refine aw ?_|refine aO ?_)|simp only [WL,WM,Nat.reduceAdd,Nat.reduceEqDiff,true_and,ml,T3,T4,js,fR yZ,fR se,UB,yv,Tryz.results106]|(with_reducible first|refine ax (hb:=?_)|refine au (hK:=?_)|refine sy ?_|refine cQ (TX ?_ aT) ?_|refine cQ (y8 ?_ aT) ?_)|((with_reducible refine aE (id:=11) 12 mixed ?_ ?_);kernel_rfl)|(with_reducible refine bK ?_)|omega)
   exact ak (ah (ah (ah ae))) (aj (by rw [hu];rfl)) hK
 ·rintro dd L Rr Rb hR x xs τ ⟨dn,rest,tk,h1,h2,rfl⟩
  cases rest with
  | nil=>simp at h2
  | cons t rest =>
  simp only [List.map_cons,List.cons.injEq] at h2;obtain ⟨rfl,rfl⟩:=h2;have hln:=congrArg List.length h1
  have q3:=gF (fx d l)
  simp only [List.length_append,List.length_cons] at hln;refine ⟨rfl, ?_⟩
  repeat' (first|simp only [WL,WM])
  refine sC ?_
  repeat' (first|simp only [WL,WM,Nat.reduceAdd]|(with_reducible first|refine au (hK:=?_)|refine aP (hK:=?_)|refine cX (hlen:=?_) (hmax:=?_) (hK:=fun tk=>?_)|refine dp (hK:=?_))|omega|(refine bq ?_;(first|omega|(simp only [aU];omega))))
  exact ⟨_,iU,dn++[t],rest,tk,by rw [h1];simp,rfl,by simp⟩
theorem JX.hold {x y:AV}{op:List Int}{l:List EvV}{τ σ0:List Res}{b:Nat}{cs:List AV} (h:JX x y op l τ σ0) (hb:Res.obj b cs∈σ0):∃ ix,Hold τ b ix cs:=by
 obtain ⟨ρx,ρy,r1,r2,hp⟩:=h;have hm:Res.obj b cs∈τ:=hp.mem_iff.2 (by simp [hb])
 obtain ⟨ix,hix⟩:=List.getElem?_of_mem hm;exact ⟨ix,⟨hix⟩⟩
theorem AJ {br ix:Nat}{ls:List Ln}{i k n d:Int} [hR:Hold σ br ix [SL none ls]] {ev:List EvV}{e:Int × Int}{t:Bool} (hw:ct ls n d true (i,k)=.ok (ev,e,t)) (hs:Small ls) (hd:0≤d∧d≤1000000000) (hp64:bW i∧bW k) (hn:bW n) (hi:0≤i∧i < ls.length∧0≤k) (h0:0 < ev.length)
  (h1:∀ rb rc cs,ev.length≤rc→K (.ret (.tup [bT rb 0 ev.length rc,I e.1,I e.2,I 0])) (.obj rb (aD (ev.map EVA)++cs)::σ)):ACallF κ Tryz.prog 90 [JP br,I i,I k,I n,I d] σ K:=by
 refine ACallF.dropL (FL hs hd hp64 hn (fun bj hc=>by omega) (fun ev' e' t' hw' bj x' y' τ' hJ'=>?_) (fun e' hw'=>by rw [hw] at hw';cases hw'));rw [hw] at hw';cases hw'
 obtain ⟨ρx,ρy,r1,r2,hp⟩:=hJ';generalize hm:ev.map EVA=m at r2;have hml:m.length=ev.length:=by rw [← hm,List.length_map]
 cases r2 with
 | nil=>exfalso;rw [List.length_nil] at hml;omega
 | @row rb rc cs _ k0 kn kc kt =>
 rw [hml] at kn kt ⊢;have hcs:cs=aD m++cs.drop (ev.length * 6):=by rw [← kt,List.take_append_drop]
 have h2:=h1 rb rc (cs.drop (ev.length * 6)) kn
 rw [hm,← hcs] at h2;have hsub:Sub (.obj rb cs::σ) (.obj bj (JC ls n true d x' (bT rb 0 ev.length rc))::τ'):=ah (pQ hp.symm ⟨_,List.Perm.refl _,List.sublist_append_right _ _⟩)
 exact ak hsub (aj rfl) h2
theorem Lk {br ix:Nat}{ls:List Ln}{i k n d e:Int} [hR:Hold σ br ix [SL none ls]] (hw:ct ls n d true (i,k)=.error e) (hs:Small ls) (hd:0≤d∧d≤1000000000) (hp64:bW i∧bW k) (hn:bW n) (hi:0≤i∧i < ls.length∧0≤k)
  (h1:K (.ret (.tup [nilS,I 0,I 0,I e])) σ):ACallF κ Tryz.prog 90 [JP br,I i,I k,I n,I d] σ K:=by
 refine ACallF.dropL (FL hs hd hp64 hn (fun bj hc=>by omega) (fun ev' e' t' hw'=>by rw [hw] at hw';cases hw') (fun e' hw' bj x' y' op' l' τ' hJ'=>?_));rw [hw] at hw';cases hw'
 exact ak (ah hJ'.sub) (aj rfl) h1
theorem KS {pr br:Nat}{ls:List Ln}{x y:AV}{op:List Int}{l:List EvV}{τ σ0:List Res}{i n:Int}{t:List Int}{p:TP} (hJ:JX x y op l τ σ0) (hll:l.length≤100000000000) (hs:Small ls) (hi:0≤i∧i < ls.length) (ht:t.length≤2000)
  (h1:∀ ev i2,l6 ls i t n p=.ok (ev,i2)→∀ y' τ',JX x y' op (l++ev) τ' σ0→K (.ret (I i2)) (.obj pr (RC ls br x y')::τ'))
  (h2:∀ e,l6 ls i t n p=.error e→K (.pan (bI e)) (.obj pr (RC ls br x y)::τ)):ACallF κ Tryz.prog 89 [JP pr,I i,SI o t,I n,kH p] (.obj pr (RC ls br x y)::τ) K:=by
 have hl:=hs.1
 have hd:∀ z∈ls.drop (i+1).toNat,z.2.length≤2000∧0≤z.1∧z.1≤2000:=fun z hz=>hs.2 z (List.mem_of_mem_drop hz)
 have hdl:(ls.drop (i+1).toNat).length≤2000:=by rw [List.length_drop];omega
 have hb2:∀ h,0≤(dK (ls.drop (i+1).toNat) h n).2.1∧(dK (ls.drop (i+1).toNat) h n).2.1≤2000:=fun h=>by
  unfold dK;split
  ·simp
  ·have:=BQ (lL (ls.drop (i+1).toNat) h.2.2 (min (max (-1) n) 1099511627776)).1 (ls.drop (i+1).toNat)
   dsimp only;omega
 unfold l6 at h1 h2;generalize hD:ls.drop (i+1).toNat=D at *;generalize hH:gV t=H at *;obtain ⟨⟨fo,ch,ind⟩,cn,e⟩:=H;dsimp only at h1 h2;have hb3:=hb2 (fo,ch,ind)
 have f1:∀ h:¬e=0,K (.pan (bI e)) (.obj pr (RC ls br x y)::τ):=fun h=>h2 _ (by rw [if_pos h])
 have f2:∀ (_:e=0) (h:¬(dK D (fo,ch,ind) n).2.2=0),K (.pan (bI (dK D (fo,ch,ind) n).2.2)) (.obj pr (RC ls br x y)::τ):=fun h h'=>h2 _ (by rw [if_neg (not_not_intro h),if_pos h'])
 have f3:∀ (_:e=0) (_:(dK D (fo,ch,ind) n).2.2=0) y' τ',JX x y' op (l++[⟨7,(dK D (fo,ch,ind) n).1,p.2,p.1,if fo=true then 5 else 4,false⟩]) τ' σ0→K (.ret (I (i+1+(dK D (fo,ch,ind) n).2.1))) (.obj pr (RC ls br x y')::τ'):=fun h h'=>h1 _ _ (by rw [if_neg (not_not_intro h),if_neg (not_not_intro h')])
 clear h1 h2 hb2;cases fo
 all_goals
  simp only [Bool.false_eq_true,if_false,if_true] at f3;refine ACallF.dropL (aa Tryz.func89 rfl ?_);simp only [Tryz.ntmps89]
  repeat' (first|simp only [WL,ay,WM,reduceCtorEq,bg,Nat.reduceAdd,Nat.reduceSub,Nat.reduceLT,Nat.reduceEqDiff,true_and,T3,T4,T9,gg,jm,fR CU,fR gL,fR oN,fR oX,fR yZ,j5,zo,Up,S2,Tryz.results89,hH,hD]|simp (disch:=first|omega|(simp only [aU];omega)) only [an]|(with_reducible first|refine ax (hb:=?_)|refine au (hK:=?_)|refine aA (hK:=?_)|refine aP (hK:=?_)|refine az (hK:=?_)|refine aQ (hK:=fun b=>?_)|refine aV (hK:=fun b=>?_)|refine aI (hK:=?_)|refine callD_mk (V2 (l:=t) (by omega) ?_)|refine callD_q (PN (l:=D) (h0:=(false,ch,ind)) hdl hd aT) ?_|refine callD_q (PN (l:=D) (h0:=(true,ch,ind)) hdl hd aT) ?_|refine cD (L4 (fun h=>?_) (fun h=>?_))|refine callD_mk (FP hJ hll (fun y' τ' hJ'=>?_)))|((with_reducible refine aE (id:=3) 17 mixed ?_ ?_);kernel_rfl)|(with_reducible refine bK ?_))
  all_goals first
   | exact ak bC (aj rfl) (f3 (by assumption) (by assumption) _ _ (by assumption))
   | exact aS bC rfl (f2 (by assumption) (by assumption))
   | exact aS bC rfl (f1 (by assumption))
theorem ND {pr br:Nat}{ls:List Ln}{x y:AV}{op:List Int}{l ev:List EvV}{ρ τ σ0:List Res}{i i2 n:Int}{t:List Int}{p:TP} [hS:Split σ pr ρ (RC ls br x y) τ] (hw:l6 ls i t n p=.ok (ev,i2)) (hJ:JX x y op l τ σ0) (hll:l.length≤100000000000) (hs:Small ls) (hi:0≤i∧i < ls.length) (ht:t.length≤2000)
  (h1:∀ y' τ',JX x y' op (l++ev) τ' σ0→K (.ret (I i2)) (ρ ++ .obj pr (RC ls br x y')::τ')):ACallF κ Tryz.prog 89 [JP pr,I i,SI o t,I n,kH p] σ K :=
 ACallF.at_ (b:=pr) (KS hJ hll hs hi ht (fun ev' i' h=>by rw [hw] at h;cases h;exact h1) (fun e h=>by rw [hw] at h;cases h))
theorem OR {pr br:Nat}{ls:List Ln}{x y:AV}{op:List Int}{l:List EvV}{ρ τ σ0:List Res}{i n e:Int}{t:List Int}{p:TP} [hS:Split σ pr ρ (RC ls br x y) τ] (hw:l6 ls i t n p=.error e) (hJ:JX x y op l τ σ0) (hll:l.length≤100000000000) (hs:Small ls) (hi:0≤i∧i < ls.length) (ht:t.length≤2000)
  (h1:K (.pan (bI e)) σ):ACallF κ Tryz.prog 89 [JP pr,I i,SI o t,I n,kH p] σ K :=
 ACallF.at_ (b:=pr) (KS hJ hll hs hi ht (fun ev' i' h=>by rw [hw] at h;cases h) (fun e' h=>by rw [hw] at h;cases h;rwa [hS.is] at h1))
instance:TTwoS Tryz.prog 99:=⟨⟨_,_,Tryz.underlying99,by decide,by decide,rfl,rfl,Tryz.underlying9,Tryz.underlying9,QP,QP⟩,by decide +kernel,by decide +kernel⟩
theorem empty_eq (a:ByteArray):(a == ByteArray.empty)=cf a:=by
 unfold cf;rw [hU];cases a with
 | mk d =>
  show (d == #[])=decide (ByteArray.mk d=ByteArray.mk #[])
  rw [Bool.eq_iff_iff,beq_iff_eq,decide_eq_true_eq];constructor
  ·rintro rfl;rfl
  ·intro h;injection h
theorem EN (p:TP):(p.1 == ByteArray.empty && p.2 == ByteArray.empty)=rN p:=by
 unfold rN;rw [empty_eq,empty_eq]
theorem fh (l:List EvV):∀ (i:Nat) (x:AV),(l.map EVA)[i]? = some x→x.cells.length=6:=by
 intro i x h;rw [List.getElem?_map] at h;cases hl:l[i]? with
 | none=>rw [hl] at h;cases h
 | some e=>rw [hl] at h;cases h;rfl
theorem nr (e:EvV) (l cs:List AV):aD (EVA e::l)++cs=I e.k::.raw (.string e.x)::.raw (.string e.t)::.raw (.string e.a)::I e.s::B e.f::(aD l++cs):=rfl
theorem iq {l:List EvV}{cs:List AV}{n:Nat} (hn:n=l.length):((aD (l.map EVA)++cs).drop 0).take (n * 6)=aD (l.map EVA):=by
 subst hn;have:=da (l.map EVA) (fh l)
 rw [List.length_map] at this;rw [List.drop_zero,← this,List.take_left]
theorem Ex {r0 r1:Res}{σ:List Res}:Has [r1] (r0::r1::σ):=me (by simp)
theorem iB (l:List EvV):cY (l.map EVA)=true:=by
 unfold cY;rw [List.all_map,List.all_eq_true];intro e _;rfl
theorem RV {pr br ix:Nat}{ls:List Ln}{x:AV}{op:List Int}{evr:List EvV}{e0:EvV}{ρx:List Res}{i c n:Int}{p:TP}{e:Int × Int}{t:Bool} (hx:RowR 1 x (op.map I) ρx) [hB:Hold σ br ix [SL none ls]] (hs:Small ls) (hop:op.length≤1000) (hi:0≤i∧i < ls.length) (h0:0 < (bz ls i c).1.length) (hc:-1000000000≤c∧c≤1000000000) (hn:-1000000000≤n∧n≤1000000000)
  (hnt:¬(bz ls i c).1.getD 0 0=124∧¬(bz ls i c).1.getD 0 0=62) (hw:ct ls n op.length true (i,(bz ls i c).2)=.ok (e0::evr,e,t))
  (h1:∀ ev',nX p (e0::evr)=some ev'→¬0 < (bz ls e.1 e.2).1.length→∀ y' ρ',RowR 6 y' (ev'.map EVA) ρ'→K (.ret (I (e.1+1))) (.obj pr (RC ls br x y')::(ρ'++σ)))
  (h2:nX p (e0::evr)=none→K (.pan (bI 2)) (.obj pr (RC ls br x nilS)::σ))
  (h3:∀ ev',nX p (e0::evr)=some ev'→0 < (bz ls e.1 e.2).1.length→∀ y' ρ',RowR 6 y' (ev'.map EVA) ρ'→K (.pan (bI 2)) (.obj pr (RC ls br x y')::(ρ'++σ))) :
  ACallF κ Tryz.prog 70 [JP pr,I i,I c,I n,kH p] (.obj pr (RC ls br x nilS)::σ) K:=by
 have hrs:=ez (c:=c) hs hi
 have hP:=hrs.2.2.2 h0
 have hg:=cM hs 200 0 (i,(bz ls i c).2) _ e t hP hw
 have hbh:∀ {r:List Int},0 < r.length→¬r.getD 0 0=124→¬r.getD 0 0=62→True:=fun _ _ _=>trivial
 obtain ⟨he1,he2,he3,he4⟩:=hg.2.1;obtain ⟨hp1,hp2,hp3,hp4⟩:=hP;dsimp only at hp1 hp2 hp3 hp4;have hxl:(op.map I).length=op.length:=List.length_map _
 have hevl:=hg.2.2.1
 have hmu:mu (i,(bz ls i c).2)≤10009999:=zQ ⟨hp1,hp3⟩
 have hlen:(e0::evr).length≤100000000:=by omega
 simp only [List.length_cons] at hlen;have hne:=EN p
 have hpos:0 < (e0::evr).length:=by simp
 have hL:∀ z:EvV,((z::evr).map EVA).length=evr.length+1:=fun z=>by simp
 have hG:∀ z:EvV,0 < ((z::evr).map EVA).length:=fun z=>by simp
 have hB1:∀ z:EvV,((z::evr).map EVA).length * 72≤140737488355328:=fun z=>by rw [hL];omega
 have hB2:∀ z:EvV,((z::evr).map EVA).length≤maxLen:=fun z=>by rw [hL];unfold maxLen;omega
 have hdd:0≤(op.length:Int)∧(op.length:Int)≤1000000000:=by omega
 have hl:=hs.1
 have h64:bW i∧bW (bz ls i c).2:=⟨by omega,by omega⟩
 have hn64:bW n:=by omega
 rw [nX] at h1 h2 h3;have hrow:∀ (z:EvV) {b' c':Nat} {cs':List AV},cs'.length=c' * 6→((z::evr).map EVA).length≤c'→cs'.take (((z::evr).map EVA).length * 6)=aD ((z::evr).map EVA)→RowR 6 (bT b' 0 (evr.length+1) c') ((z::evr).map EVA) [.obj b' cs']:=fun z b' c' cs' q1 q2 q3=>by
  have:=RowR.row (sz:=6) (b:=b') (c:=c') (cs:=cs') (l:=(z::evr).map EVA) (by rw [hL] at q2;omega) q2 q1 q3
  rwa [hL] at this
 by_cases h8:e0.k=8<;>cases hnp:rN p
 all_goals
  simp only [h8,hnp,if_true,if_false,Bool.false_eq_true] at h1 h2 h3 hne;refine ACallF.dropL (aa Tryz.func70 rfl ?_);simp only [Tryz.ntmps70]
  repeat' (first|( with_reducible refine dU hx ?_)|( with_reducible refine vO ?_)|( with_reducible refine xh ?_)|( with_reducible refine fI (hK:=?_))|( ((with_reducible refine J9 [_] Ex (id:=9) [0,1,2,3,4,5,6,7] (some 8) [([9,10],some 11),([],none)] mixed ?_ ?_);kernel_rfl))|( with_reducible refine bV Ex ?_)|simp only [WL,ay,WM,Int.reduceToNat,reduceCtorEq,bg,Nat.reduceAdd,Nat.reduceSub,Nat.reduceLT,Nat.reduceEqDiff,Bool.not_true,Bool.not_false,true_and,reduceIte,Bool.false_eq_true,T3,T9,cb,mf,DO,OO,fR q6,fR lH,fR xX,fR gW,fR gq,fR lX,fR o4,fR oN,fR oX,kX,j7,j5,BC,Ly,Qi,Tryz.results70,hne,hxl,nr]|simp (disch:=first|omega|(simp only [aU];omega)) only [bL,bL]|(with_reducible first|refine ax (hb:=?_)|refine au (hK:=?_)|refine aA (hK:=?_)|refine aP (hK:=?_)|refine aQ (hK:=fun b=>?_)|refine aI (hK:=?_)|refine cD (kN hs hi hc ?_)|refine callD_mk (AJ hw hs hdd h64 hn64 ⟨hp1,hp2,hp3⟩ hpos (fun rb rc cs hrc=>?_))|refine callD_mk (ET (ls:=ls) (i:=e.1) (c:=e.2) hs ⟨he1,he2⟩ (by omega) (fun hr=>?_) (fun hr=>?_))|refine callD_mk (nb ?_)|refine callD_mk (my ?_)|refine callD_mk (qM ?_))|( refine lg ((e0::evr).map EVA) (n:=evr.length+1) (hL e0) (fh _) (iq (l:=e0::evr) rfl) (iB _) (hG e0) (hB1 e0) (hB2 e0) (fun b' c' cs' q1 q2 q3=>?_))|( refine lg (((⟨e0.k,e0.x,p.2,p.1,e0.s,e0.f⟩:EvV)::evr).map EVA) (n:=evr.length+1) (hL _) (fh _) (iq (l:=(⟨e0.k,e0.x,p.2,p.1,e0.s,e0.f⟩:EvV)::evr) rfl) (iB _) (hG _) (hB1 _) (hB2 _) (fun b' c' cs' q1 q2 q3=>?_))|((with_reducible refine eE (id:=4) [0,1,2,3,4,5,6,7,8,9,10,11,12] (some 13) [([14,15,16,17,18,19],some 20),([],some 21),([22],none)] mixed ?_ ?_);kernel_rfl)|((with_reducible apply aW);intro σq hq;have hqi:=cy hq;clear hq)|(with_reducible exact b9)|((with_reducible apply bD);rfl;rfl)|(with_reducible refine bV (nZ (by first|(simp;done)|fail) (by first|(simp;done)|fail)) ?_)|((with_reducible first|refine ai (fun h=>?_) (fun h=>?_)|refine ab (fun h=>?_) (fun h=>?_))<;>(try simp only [h])<;>(try simp only [bf,ba] at h))|omega)
 all_goals first
  | exact aS bC rfl (h2 trivial)
  | exact ak ⟨_,List.Perm.swap _ _ _,(((List.Sublist.refl _).cons _).cons _).cons_cons _⟩ (aj rfl) (h1 _ rfl hr _ _ (hrow _ q1 q2 q3))
  | exact aS ⟨_,List.Perm.swap _ _ _,(((List.Sublist.refl _).cons _).cons _).cons_cons _⟩ rfl (h3 _ rfl hr _ _ (hrow _ q1 q2 q3))
end Go.Proofs.YthkabaiamcjdbaaGreat
