/-
  Texts Hi, Fe, St, Sv, Si, Sd, Db, Dc, one behind the other.
-/
import Derived.Test.YthkabaiamcjdbaaGreatJ8
set_option linter.unusedVariables false
set_option linter.unusedSimpArgs false
set_option maxHeartbeats 16000000
namespace Go.Proofs.YthkabaiamcjdbaaGreat
open Go.Abs
variable {κ:Ctx} {σ:List Res} {K:Ret→List Res→Prop} {o o':Option (Option (Nat × Nat))}
def QT:List Int:=[45,63,58,44,91,93,123,125,35,38,42,33,124,62,39,34,37,64,96]
def Ax (c:Int):Bool:=decide (c∈QT)
theorem Jm {s:ByteArray} (h:aJ s=QT) (c:Int):decide (c∈aJ s)=Ax c:=by rw [h];rfl
theorem Xx {c:Int} (hK:K (.ret (B (Ax c))) σ):ACallF κ Tryz.prog 184 [I c] σ K:=by
 refine ACallF.dropL (aa Tryz.func184 rfl ?_);simp only [Tryz.ntmps184]
 repeat' (first|simp only [WL,WM,Nat.reduceAdd,Nat.reduceSub,true_and,KJ,Tryz.results184]|with_reducible refine cD (Qh ?_ ?_))
 ·decide
 ·exact ak ae (aj (congrArg B (Jm (by decide) c))) hK
def rP (c:Int) (fl:Bool):Bool:=kD c && !blankI c && c != 10 && c != 13 && c != 65279 && !(fl && kf c)
theorem Xk {c:Int}{fl:Bool} (hK:K (.ret (B (rP c fl))) σ):ACallF κ Tryz.prog 211 [I c,B fl] σ K:=by
 unfold rP at hK;refine ACallF.dropL (aa Tryz.func211 rfl ?_);simp only [Tryz.ntmps211]
 repeat' (first|simp only [WL,ay,WM,reduceCtorEq,bg,Nat.reduceAdd,Nat.reduceSub,Bool.not_true,Bool.not_false,true_and,reduceIte,Bool.false_eq_true,fM,qy,Lr,Tryz.results211]|(with_reducible first|refine cD (Blank ?_)|refine cD (wU ?_)|refine cD (QG ?_))|((with_reducible first|refine ai (fun h=>?_) (fun h=>?_)|refine ab (fun h=>?_) (fun h=>?_))<;>(try simp only [h])<;>(try simp only [bf,ba] at h)))
 all_goals exact ak ae (aj (congrArg B (by simp [*]))) hK
def eW (l:List Int) (i:Nat) (fl:Bool):Bool:=decide (i < l.length) && rP (l.getD i 0) fl
theorem p8 {l:List Int}{i:Nat}{fl:Bool} (hl:l.length≤1000000000) (hi:i≤1000000000) (hK:K (.ret (B (eW l i fl))) σ):ACallF κ Tryz.prog 183 [SI o l,I i,B fl] σ K:=by
 unfold eW at hK;refine ACallF.dropL (aa Tryz.func183 rfl ?_);simp only [Tryz.ntmps183]
 repeat' (first|simp only [WL,ay,WM,reduceCtorEq,bg,Nat.reduceAdd,Nat.reduceSub,Bool.not_true,true_and,reduceIte,Bool.false_eq_true,T3,cb,Tf,Tryz.results183]|simp (disch:=first|omega|(simp only [aU];omega)) only [bL]|(with_reducible first|refine ax (hb:=?_)|refine cD (Xk ?_))|((with_reducible first|refine ai (fun h=>?_) (fun h=>?_)|refine ab (fun h=>?_) (fun h=>?_))<;>(try simp only [h])<;>(try simp only [bf,ba] at h)))
 all_goals exact ak ae (aj (congrArg B (by simp;try omega))) hK
def fJ (l:List Int) (fl:Bool):Bool :=
 eW l 0 fl && (if l.getD 0 0=45∨l.getD 0 0=63∨l.getD 0 0=58 then eW l 1 fl else !Ax (l.getD 0 0))
theorem Px {l:List Int}{i:Nat}{fl:Bool} (h:eW l i fl=true):i < l.length:=by
 unfold eW at h;simp only [Bool.and_eq_true,decide_eq_true_eq] at h;exact h.1
theorem jr {l:List Int}{fl:Bool} (hl:l.length≤1000000000) (hK:K (.ret (B (fJ l fl))) σ):ACallF κ Tryz.prog 145 [SI o l,B fl] σ K:=by
 unfold fJ at hK;cases h0:eW l 0 fl
 ·rw [h0] at hK
  refine ACallF.dropL (aa Tryz.func145 rfl ?_);simp only [Tryz.ntmps145]
  repeat' (first|simp only [WL,WM,Nat.reduceAdd,Nat.reduceSub,Nat.reduceLeDiff,Bool.not_false,true_and,yA,Tryz.results145,h0]|with_reducible refine cD (p8 (i:=0) ?_ ?_ ?_)|omega)
  all_goals exact ak ae (aj rfl) hK
 ·rw [h0] at hK
  have h1:=Px h0
  refine ACallF.dropL (aa Tryz.func145 rfl ?_);simp only [Tryz.ntmps145]
  repeat' (first|simp only [WL,ay,WM,Int.reduceToNat,reduceCtorEq,bg,Nat.reduceAdd,Nat.reduceSub,Nat.reduceLeDiff,Bool.not_true,true_and,T3,cb,yA,Tx,Tryz.results145,h0]|simp (disch:=first|omega|(simp only [aU];omega)) only [bL,bL]|(with_reducible first|refine ax (hb:=?_)|refine cD (p8 (i:=0) ?_ ?_ ?_)|refine cD (p8 (i:=1) ?_ ?_ ?_)|refine cD (Xx ?_))|((with_reducible first|refine ai (fun h=>?_) (fun h=>?_)|refine ab (fun h=>?_) (fun h=>?_))<;>(try simp only [h])<;>(try simp only [bf,ba] at h))|omega)
  all_goals first
   | (rw [if_pos (by first|exact .inl (by assumption)|exact .inr (.inl (by assumption))|exact .inr (.inr (by assumption)))] at hK;exact ak ae (aj rfl) hK)
   | (rw [if_neg (by simp only [*];decide)] at hK;exact ak ae (aj (congrArg B (by simp [*]))) hK)
def oq (fl:Bool) (c:Int):Bool:=c == 58 || c == 35 || (fl && kf c)
theorem sD {fl:Bool}{c:Int} (h1:¬c=58) (h2:¬c=35) (h3:fl=false∨kf c=false):oq fl c=false:=by
 unfold oq;rcases h3 with h|h<;>simp [h1,h2,h]
theorem Ek {fl:Bool}{c:Int} (h:c=58∨c=35∨(fl=true∧kf c=true)):oq fl c=true:=by
 unfold oq;rcases h with h|h|⟨h1,h2⟩<;>simp [*]
def jL (fl:Bool):Nat→List Int→List Nat
 | _,[]=>[]
 | i,c::l=>if oq fl c then i::jL fl (i+1) l else jL fl (i+1) l
abbrev gj (l:List Int) (fl:Bool) (i:Nat):List Nat:=jL fl i (l.drop i)
theorem GZ {l:List Int}{fl:Bool}{i:Nat} (h:l.length≤i):gj l fl i=[]:=by
 rw [gj,List.drop_eq_nil_of_le h];rfl
theorem I6 {l:List Int}{fl:Bool}{i:Nat} (h:i < l.length):gj l fl i=if oq fl (l.getD i 0) then i::gj l fl (i+1) else gj l fl (i+1):=by
 rw [gj,List.drop_eq_getElem_cons h,List.getD_eq_getElem?_getD,List.getElem?_eq_getElem h];rfl
abbrev um (l:List Int) (fl:Bool) (i:Nat):List (List AV):=(gj l fl i).map fun (i:Nat)=>[I i]
theorem NN {l:List Int}{fl:Bool} (hK:∀ b1 b2,K (.ret (.raw (.func (.func 228) #[] #[.pointer (some ⟨b1,0,none⟩),.pointer (some ⟨b2,0,none⟩)]))) (.obj b2 [B fl]::.obj b1 [SI o l]::σ)):ACallF κ Tryz.prog 220 [SI o l,B fl] σ K:=by
 refine ACallF.dropL (aa Tryz.func220 rfl ?_);simp only [Tryz.ntmps220]
 repeat' (first|simp only [WL,WM,Nat.reduceAdd,Nat.reduceSub,true_and,Tryz.results220]|with_reducible refine aQ (hK:=fun b=>?_))
 exact ak ae (aj rfl) (hK _ _)
theorem GD        {b1 b2 L : Nat} {l : List Int} {fl : Bool} (hl : l.length ≤ 1000000000) (hI : Iter κ Tryz.prog L K (um     l fl 0) σ) :
    ACallF κ Tryz.prog 228 [.raw (.func (.yield L) #[] #[]),.raw (.pointer (some ⟨b1,0,none⟩)),.raw (.pointer (some ⟨b2,0,none⟩))] (.obj b2 [B fl]::.obj b1 [SI o l]::σ) K:=by
  refine ACallF.dropL (aa Tryz.func228 rfl ?_);simp only [Tryz.ntmps228]
  repeat' (first|simp only [WL,WM,Nat.reduceAdd,Nat.reduceSub,true_and,cb]|with_reducible refine au (hK:=?_))
  refine bF (fun x:Nat × List Res=>⟨(.raw (.func (.yield L) #[] #[])::.raw (.pointer (some ⟨b1,0,none⟩))::.raw (.pointer (some ⟨b2,0,none⟩))::.any::.any::.any::SI o l::I l.length::I x.1::.any::.any::.any::.any::.any::.any::.any::.any::.any::.any::.any::.any::.any::.any::.any::.any::.any::.any::.any::.any::.any::.any::.any::.any::[]),.obj b2 [B fl]::.obj b1 [SI o l]::x.2,true,[]⟩) (fun x=>x.1≤l.length∧Iter κ Tryz.prog L K (um l fl x.1) x.2) (fun x=>l.length - x.1) (0,σ) (aq bH id) ⟨Nat.zero_le _,hI⟩ ?_;rintro ⟨k,σ'⟩ ⟨h1,h2⟩;dsimp only at h1 h2 ⊢;rcases Nat.lt_or_ge k l.length with hk|hk
  · rw [um,I6 hk] at h2
    cases fl
    all_goals
      repeat' (first|simp only [WL,ay,WM,reduceCtorEq,bg,Nat.reduceAdd,Bool.not_true,Bool.not_false,true_and,reduceIte,Bool.false_eq_true,T3,cb,qy,Tryz.results228]|simp (disch:=first|omega|(simp only [aU];omega)) only [an,bL,bL]|(with_reducible first|refine ax (hb:=?_)|refine au (hK:=?_)|refine cD (wU ?_))|((with_reducible first|refine ai (fun h=>?_) (fun h=>?_)|refine ab (fun h=>?_) (fun h=>?_))<;>(try simp only [h])<;>(try simp only [bf,ba] at h))|omega)
    all_goals first
      | (rw [sD (by assumption) (by assumption) (by first|exact .inl rfl|exact .inr (by assumption)),if_neg Bool.false_ne_true] at h2
         exact ⟨(k+1,σ'),aq bH id,⟨hk,h2⟩,by dsimp only;omega⟩)
      | skip
    all_goals
      rw [Ek (by first|exact .inl (by assumption)|exact .inr (.inl (by assumption))|exact .inr (.inr ⟨rfl,by assumption⟩)),if_pos rfl,List.map_cons] at h2;refine cR [.obj b2 [B _],.obj b1 [SI o l]] (jy le_rfl) h2 (fun σ3 h=>?_) (fun σ3 h=>?_) (fun c σ3 h=>?_)
      · skip
        repeat' (first|simp only [WL,ay,WM,ne_eq,reduceCtorEq,not_false_eq_true,Bool.not_true,reduceIte]|simp (disch:=first|omega|(simp only [aU];omega)) only [an])
        exact ⟨(k+1,σ3),aq bH id,⟨hk,h⟩,by dsimp only;omega⟩
      · skip
        repeat' (first|simp only [WL,WM,Bool.not_false,true_and,reduceIte,Tryz.results228])
        exact ak (ah (ah ae)) (aj rfl) h
      · skip
        repeat' (first|simp only [WL,WM,true_and])
        exact aS (ah (ah ae)) rfl h
  · rw [um,GZ hk] at h2
    repeat' (first|simp only [WL,ay,WM,reduceCtorEq,bg,Nat.reduceAdd,Bool.not_true,Bool.not_false,true_and,reduceIte,Bool.false_eq_true,T3,cb,qy,Tryz.results228]|simp (disch:=first|omega|(simp only [aU];omega)) only [an,bL,bL]|(with_reducible first|refine ax (hb:=?_)|refine au (hK:=?_)|refine cD (wU ?_))|((with_reducible first|refine ai (fun h=>?_) (fun h=>?_)|refine ab (fun h=>?_) (fun h=>?_))<;>(try simp only [h])<;>(try simp only [bf,ba] at h))|omega)
    exact ak (ah (ah ae)) (aj rfl) h2
def oC (l:List Int) (fl:Bool) (i:Nat):Bool:=(l.getD i 0 == 58 && eW l (i+1) fl) || (l.getD i 0 == 35 && (i == 0 || !blankI (l.getD (i - 1) 0)))
def qb (l:List Int) (fl:Bool):List Nat→Nat
 | []=>l.length
 | i::r=>if oC l fl i then qb l fl r else i
def iR (l:List Int) (fl:Bool):Nat:=qb l fl (gj l fl 0)
theorem nI {fl:Bool}:∀ {l:List Int}{i j:Nat},j∈jL fl i l→i≤j∧j < i+l.length
 | [],_,_,h=>by cases h
 | c::l,i,j,h=>by
  unfold jL at h;split at h
  ·rcases List.mem_cons.1 h with rfl|h
   ·simp
   ·have:=nI h;simp only [List.length_cons];omega
  ·have:=nI h;simp only [List.length_cons];omega
theorem A7 {l:List Int}{fl:Bool}:∀ {r:List Nat},(∀ j∈r,j < l.length)→qb l fl r≤l.length
 | [],_=>Nat.le_refl _
 | i::r,h=>by
  unfold qb;split
  ·exact A7 (fun j hj=>h j (List.mem_cons_of_mem _ hj))
  ·exact Nat.le_of_lt (h i List.mem_cons_self)
theorem vf {fl:Bool}{l:List Int}{j:Nat} (h:j∈gj l fl 0):j < l.length:=by
 have:=nI h;simpa using this.2
theorem By {l:List Int}{fl:Bool}:iR l fl≤l.length:=A7 (fun _ h=>vf h)
theorem Dk {l:List Int}{fl:Bool}{i:Nat} (h:(l.getD i 0=58∧eW l (i+1) fl=true)∨(l.getD i 0=35∧(i=0∨blankI (l.getD (i - 1) 0)=false))):oC l fl i=true:=by
 unfold oC;rcases h with ⟨h1,h2⟩|⟨h1,h2|h2⟩<;>rw [h1,h2]<;>simp
theorem JE {l:List Int}{fl:Bool}{i:Nat} (h1:¬l.getD i 0=58∨eW l (i+1) fl=false) (h2:¬l.getD i 0=35∨(¬i=0∧blankI (l.getD (i - 1) 0)=true)):oC l fl i=false:=by
 unfold oC;rw [Bool.or_eq_false_iff];refine ⟨?_, ?_⟩
 ·rcases h1 with h|h
  ·rw [beq_eq_false_iff_ne.2 h];rfl
  ·rw [h,Bool.and_false]
 ·rcases h2 with h|⟨h,h'⟩
  ·rw [beq_eq_false_iff_ne.2 h];rfl
  ·rw [h',beq_eq_false_iff_ne.2 h,Bool.not_true,Bool.or_false,Bool.and_false]
theorem Qb {l:List Int}{fl:Bool} (hl:l.length≤1000000) (hK:K (.ret (I (iR l fl))) σ):ACallF κ Tryz.prog 212 [SI o l,B fl] σ K:=by
 have hl2:l.length≤1000000000:=by omega
 refine ACallF.dropL (aN Tryz.func212 rfl ?_);simp only [Tryz.ntmps212]
 repeat' (first|(with_reducible first|refine aC ?_|refine al (al ?_)|refine aG ?_|refine aB ?_)|simp only [WL,WM,Nat.reduceAdd,Nat.reduceSub,true_and,S4]|(with_reducible first|refine au (hK:=?_)|refine aQ (hK:=fun b=>?_)|refine aV (hK:=fun b=>?_)|refine cD (NN (fun pb1 pb2=>?_))))
 rename_i b1 b2;refine pH 228 [] [.pointer (some ⟨pb1,0,none⟩),.pointer (some ⟨pb2,0,none⟩)] (um l fl 0) [.obj pb2 [B fl],.obj pb1 [SI o l]] (.obj b [I 0]::.obj b2 [B fl]::.obj b1 [SI o l]::σ)
  (fun xs τ=>∃ r:List Nat,xs=r.map (fun (i:Nat)=>[I i])∧(∀ i∈r,i < l.length)∧iR l fl=qb l fl r∧τ=.obj b [I 0]::.obj b2 [B fl]::.obj b1 [SI o l]::σ)
  rfl Tz (ResW.refl _) (fun L K σ' h=>GD hl2 h) ⟨gj l fl 0,rfl,fun i h=>vf h,rfl,rfl⟩ ?_ ?_
 ·rintro τ ⟨r,h1,h2,h3,rfl⟩
  obtain rfl:r=[]:=by cases r with
   | nil=>rfl
   | cons=>simp at h1
  repeat' (first|(with_reducible first|refine aG ?_|refine aO ?_)|simp only [WL,WM,true_and,cb,Tryz.results212]|(with_reducible first|refine au (hK:=?_)|refine aP (hK:=?_))|((with_reducible refine aY ?_);apply di (hf:=Tryz.results212);exact dT))
  exact ak (ah (ah (ah ae))) (aj (by rw [h3];rfl)) hK
 ·rintro dd L Rr Rb hR x xs τ ⟨r,h1,h2,h3,rfl⟩
  cases r with
  | nil=>simp at h1
  | cons i r =>
  rw [List.map_cons,List.cons.injEq] at h1;obtain ⟨rfl,rfl⟩:=h1;have hi:=h2 i List.mem_cons_self
  refine ⟨rfl, ?_⟩
  repeat' (first|simp only [WL,WM])
  refine sC ?_
  repeat' (first|simp only [WL,ay,WM,reduceCtorEq,bg,Nat.reduceAdd,Nat.reduceLeDiff,Bool.not_true,Bool.not_false,true_and,reduceIte,Bool.false_eq_true,T3,cb,fM,yA,Tryz.results212]|simp (disch:=first|omega|(simp only [aU];omega)) only [an,bL,bL]|(with_reducible first|refine ax (hb:=?_)|refine au (hK:=?_)|refine aP (hK:=?_)|refine cD (p8 (i:=i+1) ?_ ?_ ?_)|refine cD (Blank ?_))|((with_reducible first|refine ai (fun h=>?_) (fun h=>?_)|refine ab (fun h=>?_) (fun h=>?_))<;>(try simp only [h])<;>(try simp only [bf,ba] at h))|omega)
  all_goals
   have e1:((i:Int) - 1).toNat=i - 1:=by omega
   try simp only [e1] at h
  all_goals first
   | exact ⟨_,iU,r,rfl,fun j hj=>h2 j (List.mem_cons_of_mem _ hj),h3.trans (if_pos (Dk (by first|exact .inl ⟨by assumption,by assumption⟩|exact .inr ⟨by assumption,.inl (by omega)⟩|exact .inr ⟨by assumption,.inr (by assumption)⟩))),rfl⟩
   | skip
  all_goals
   have h4:oC l fl i=false:=JE (by first|exact .inl (by assumption)|exact .inr (by assumption)) (by first|exact .inl (by assumption)|exact .inr ⟨by omega,by assumption⟩)
   have h5:iR l fl=i:=h3.trans (if_neg (by rw [h4];exact Bool.false_ne_true))
   refine ⟨_,iU, ?_⟩
   repeat' (first|((with_reducible refine aY ?_);apply di (hf:=Tryz.results212);exact dT))
   exact ak (ah (ah (ah ae))) (aj (by rw [h5])) hK
def gG (l:List Int) (fl:Bool):Nat:=(iI (l.take (iR l fl))).length
theorem Ei {l:List Int}{fl:Bool}:gG l fl≤l.length:=by
 unfold gG;have:=tP (l.take (iR l fl))
 rw [List.length_take] at this;omega
theorem Ws {l:List Int}{fl:Bool} (hl:l.length≤1000000) (hK:K (.ret (I (gG l fl))) σ):ACallF κ Tryz.prog 186 [SI o l,B fl] σ K:=by
 have hst:=By (l:=l) (fl:=fl)
 refine ACallF.dropL (aN Tryz.func186 rfl ?_);simp only [Tryz.ntmps186]
 repeat' (first|(with_reducible first|refine al (aC ?_)|refine bO ?_|refine aG ?_)|simp only [WL,WM,Nat.reduceAdd,Nat.reduceSub,true_and,JT]|with_reducible refine cD (Qb ?_ ?_)|omega)
 refine dq (fun k:Nat=>⟨(SI o l::B fl::.any::.any::.any::I k::.any::.any::.any::.any::.any::.any::.any::.any::.any::.any::.any::.any::.any::.any::.any::.any::[]),σ,true,[]⟩) (fun k=>k≤iR l fl∧gG l fl=(iI (l.take k)).length) (fun k=>k) (iR l fl) (aq bH id) ⟨Nat.le_refl _,rfl⟩ ?_;rintro k ⟨h1,h2⟩;have e1:0 < k→((k:Int) - 1).toNat=k - 1:=fun _=>by omega
 have e2:(l.take k).length=k:=by rw [List.length_take];omega
 have e3:0 < k→(l.take k).getD (k - 1) 0=l.getD (k - 1) 0:=fun h=>by
  simp only [List.getD_eq_getElem?_getD];rw [List.getElem?_take_of_lt (by omega)]
 repeat' (first|(with_reducible first|refine aC ?_|refine al (al ?_)|refine aG ?_|refine aB ?_|refine aw ?_|refine aO ?_)|simp only [WL,ay,WM,reduceCtorEq,bg,Nat.reduceAdd,Bool.not_true,true_and,reduceIte,Bool.false_eq_true,T3,cb,fM,Tryz.results186]|simp (disch:=first|omega|(simp only [aU];omega)) only [an,bL,bL]|(with_reducible first|refine ax (hb:=?_)|refine cD (Blank ?_))|((with_reducible first|refine ai (fun h=>?_) (fun h=>?_)|refine ab (fun h=>?_) (fun h=>?_))<;>(try simp only [h])<;>(try simp only [bf,ba] at h)))
 ·rw [e1 (by omega)] at h
  refine ⟨k - 1,aq bH id,⟨by omega, ?_⟩,by omega⟩;rw [h2,uI (by omega) (by rw [e2,e3 (by omega)];exact h),e2,List.take_take];congr 3;omega
 ·rw [e1 (by omega)] at h
  exact ak ae (aj (by rw [h2,u7 (by omega) (by rw [e2,e3 (by omega)];exact h),e2])) hK
 ·obtain rfl:k=0:=by omega
  exact ak ae (aj (by rw [h2];rfl)) hK
def BW (l:List Int) (fl:Bool):Int:=if iR l fl < l.length∧l.getD (iR l fl) 0=58 then iR l fl else -1
theorem ZQ {l:List Int}{fl:Bool} (hl:l.length≤1000000) (hK:K (.ret (I (BW l fl))) σ):ACallF κ Tryz.prog 187 [SI o l,B fl] σ K:=by
 have hst:=By (l:=l) (fl:=fl)
 unfold BW at hK;refine ACallF.dropL (aa Tryz.func187 rfl ?_);simp only [Tryz.ntmps187]
 repeat' (first|simp only [WL,ay,WM,reduceCtorEq,bg,Nat.reduceAdd,Nat.reduceSub,Bool.not_true,true_and,reduceIte,Bool.false_eq_true,T3,cb,JT,Tryz.results187]|simp (disch:=first|omega|(simp only [aU];omega)) only [bL,bL]|(with_reducible first|refine ax (hb:=?_)|refine cD (Qb ?_ ?_))|((with_reducible first|refine ai (fun h=>?_) (fun h=>?_)|refine ab (fun h=>?_) (fun h=>?_))<;>(try simp only [h])<;>(try simp only [bf,ba] at h))|omega)
 all_goals first
  | (rw [if_pos ⟨by omega,by assumption⟩] at hK;exact ak ae (aj rfl) hK)
  | (rw [if_neg (by omega)] at hK;exact ak ae (aj rfl) hK)
end Go.Proofs.YthkabaiamcjdbaaGreat
namespace Go.Abs
def o8:List Int→List Int
 | []=>[]
 | [c]=>[c]
 | c::d::r=>if c=39∧d=39 then 39::o8 r else c::o8 (d::r)
def jx:Nat→List Int→Int × Bool
 | _,[]=>(0,false)
 | k,[c]=>if c=39 then (k,true) else (0,false)
 | k,c::d::r=>if c=39 then (if d=39 then jx (k+2) r else (k,true)) else jx (k+1) (d::r)
theorem NW {r:List Int}:o8 (39::39::r)=39::o8 r:=by simp [o8]
theorem Jj {c d:Int}{r:List Int} (h:¬(c=39∧d=39)):o8 (c::d::r)=c::o8 (d::r):=by simp [o8,h]
theorem y6:∀ l:List Int,(o8 l).length≤l.length
 | []=>by simp [o8]
 | [c]=>by simp [o8]
 | c::d::r=>by
  have h1:=y6 r
  have h2:=y6 (d::r)
  unfold o8;split<;>simp only [List.length_cons] at *<;>omega
theorem B7 {l:List Int}{k:Nat} (h:k+1 < l.length) (h1:l.getD k 0=39) (h2:l.getD (k+1) 0=39):o8 (l.drop k)=39::o8 (l.drop (k+2)):=by
 rw [aX (show k < l.length by omega),aX h,h1,h2,NW]
theorem Dt {l:List Int}{k:Nat} (h:k < l.length) (hn:¬(l.getD k 0=39∧k+1 < l.length∧l.getD (k+1) 0=39)):o8 (l.drop k)=l.getD k 0::o8 (l.drop (k+1)):=by
 rw [aX h];by_cases hk:k+1 < l.length
 ·rw [aX hk,Jj (fun h3=>hn ⟨h3.1,hk,h3.2⟩)]
 ·rw [List.drop_eq_nil_of_le (by omega)];rfl
theorem Do {l:List Int}{k n:Nat} (h:k < l.length) (hn:¬l.getD k 0=39):jx n (l.drop k)=jx (n+1) (l.drop (k+1)):=by
 rw [aX h];by_cases hk:k+1 < l.length
 ·rw [aX hk];simp only [jx];rw [if_neg hn]
 ·rw [List.drop_eq_nil_of_le (by omega)];simp only [jx];rw [if_neg hn]
theorem BZ {l:List Int}{k n:Nat} (h:k+1 < l.length) (h1:l.getD k 0=39) (h2:l.getD (k+1) 0=39):jx n (l.drop k)=jx (n+2) (l.drop (k+2)):=by
 rw [aX (show k < l.length by omega),aX h,h1,h2];simp [jx]
theorem ru {l:List Int}{k n:Nat} (h:k < l.length) (h1:l.getD k 0=39) (h2:¬(k+1 < l.length∧l.getD (k+1) 0=39)):jx n (l.drop k)=((n:Int),true):=by
 rw [aX h,h1];by_cases hk:k+1 < l.length
 ·rw [aX hk];simp only [jx];rw [if_pos trivial,if_neg (fun e=>h2 ⟨hk,e⟩)]
 ·rw [List.drop_eq_nil_of_le (by omega)];simp [jx]
theorem JJ {n:Nat}:jx n []=(0,false):=rfl
theorem sH:∀ l:List (List Int),gm (l.map o8)≤gm l
 | []=>Nat.le_refl _
 | t::r=>by
  have h1:=sH r
  have h2:=y6 t
  simp only [gm,List.map_cons,List.sum_cons] at *;omega
theorem w6 (t:List Int):kS [t]=t:=by simp [kS,eO,lz,dL]
theorem Ix {l:List (List Int)}{k:Nat} (h:k < l.length):(l.take (k+1)).map o8=(l.take k).map o8++[o8 (l.getD k [])]:=by
 rw [List.take_succ_eq_append_getElem h,List.map_append,List.map_cons,List.map_nil,List.getD_eq_getElem?_getD,List.getElem?_eq_getElem h];rfl
end Go.Abs
namespace Go.Proofs.YthkabaiamcjdbaaGreat
open Go.Abs
variable {κ:Ctx} {σ:List Res} {K:Ret→List Res→Prop} {o o':Option (Option (Nat × Nat))}
theorem YT {l:List Int} (hl:l.length≤1000000000) (hK:K (.ret (.tup [I (jx 0 l).1,B (jx 0 l).2])) σ):ACallF κ Tryz.prog 199 [SI o l] σ K:=by
 have PM:∀ k:Nat,((k:Int)+1).toNat=k+1:=fun k=>by omega
 refine ACallF.dropL (aa Tryz.func199 rfl ?_);simp only [Tryz.ntmps199]
 repeat' (first|simp only [WL,WM,Nat.reduceAdd,Nat.reduceSub])
 refine bF (fun k:Nat=>⟨(SI o l::.any::.any::.any::I k::.any::.any::.any::.any::.any::.any::.any::.any::.any::.any::.any::.any::.any::.any::.any::.any::.any::.any::.any::.any::.any::.any::.any::.any::.any::.any::.any::.any::.any::[]),σ,true,[]⟩) (fun k=>k≤l.length∧jx 0 l=jx k (l.drop k)) (fun k=>l.length - k) 0 (aq bH id) ⟨Nat.zero_le _,by simp⟩ ?_;rintro k ⟨h1,h2⟩
 repeat' (first|simp only [WL,ay,WM,reduceCtorEq,bg,Nat.reduceAdd,Bool.not_true,true_and,reduceIte,Bool.false_eq_true,T3,cb,Tryz.results199,PM]|simp (disch:=first|omega|(simp only [aU];omega)) only [an,bL]|with_reducible refine ax (hb:=?_)|((with_reducible first|refine ai (fun h=>?_) (fun h=>?_)|refine ab (fun h=>?_) (fun h=>?_))<;>(try simp only [h])<;>(try simp only [bf,ba] at h)))
 ·exact ⟨k+1,aq bH id,⟨by omega,by rw [h2,Do (by omega) (by assumption)]⟩,by omega⟩
 ·exact ⟨k+2,aq bH id,⟨by omega,by rw [h2,BZ (by omega) (by assumption) (by assumption)]⟩,by omega⟩
 ·exact ak ae (aj (by rw [h2,ru (by omega) (by assumption) (fun e=>by rename_i h9 _;first|exact absurd e.2 (by assumption)|exact absurd e.1 (by omega))])) hK
 ·exact ak ae (aj (by rw [h2,ru (by omega) (by assumption) (fun e=>absurd e.1 (by omega))])) hK
 ·exact ak ae (aj (by rw [h2,List.drop_eq_nil_of_le (by omega),JJ])) hK
theorem Gi {l:List Int} (hl:l.length≤1000000000) (hK:K (.ret (SI none (o8 l))) σ):ACallF κ Tryz.prog 202 [SI o l] σ K:=by
 have PM:∀ k:Nat,((k:Int)+1).toNat=k+1:=fun k=>by omega
 refine ACallF.dropL (aa Tryz.func202 rfl ?_);simp only [Tryz.ntmps202]
 repeat' (first|simp only [WL,WM,Nat.reduceAdd,Nat.reduceSub])
 refine bF (fun x:Nat × List Int × Option (Nat × Nat)=>⟨(SI o l::.any::.any::SI (some x.2.2) x.2.1::I x.1::.any::.any::.any::.any::.any::.any::.any::.any::.any::.any::.any::.any::.any::.any::.any::.any::.any::.any::.any::.any::.any::.any::.any::.any::.any::.any::.any::.any::.any::.any::.any::.any::.any::.any::.any::.any::[]),.tip x.2.2::σ,true,[]⟩) (fun x=>x.1≤l.length∧o8 l=x.2.1++o8 (l.drop x.1)∧x.2.1.length≤x.1) (fun x=>l.length - x.1) (0,[],none) (aM bH ResW.void id) ⟨Nat.zero_le _,by simp,Nat.le_refl _⟩ ?_;rintro ⟨k,out,tk⟩ ⟨h1,h2,h3⟩;dsimp only at h1 h2 h3 ⊢
 repeat' (first|simp only [WL,ay,WM,reduceCtorEq,bg,Nat.reduceAdd,Bool.not_true,true_and,reduceIte,Bool.false_eq_true,T3,cb,Tryz.results202,PM]|simp (disch:=first|omega|(simp only [aU];omega)) only [an,bL]|(with_reducible first|refine ax (hb:=?_)|refine cX (hlen:=?_) (hmax:=?_) (hK:=fun tk=>?_)|refine dp (hK:=?_))|((with_reducible first|refine ai (fun h=>?_) (fun h=>?_)|refine ab (fun h=>?_) (fun h=>?_))<;>(try simp only [h])<;>(try simp only [bf,ba] at h))|omega|(refine bq ?_;(first|omega|(simp only [aU];omega))))
 ·exact ⟨(k+2,out++[39],_),aM (by rw [show l.getD k 0=39 by assumption];exact bH) (ResW.refl _) id,⟨by dsimp only;omega,by dsimp only;rw [h2,B7 (by omega) (by assumption) (by assumption)];simp,by simp;omega⟩,by dsimp only;omega⟩
 all_goals first
  | exact ⟨(k+1,out++[l.getD k 0],_),aM bH (ResW.refl _) id,⟨by dsimp only;omega,by dsimp only;rw [h2,Dt (by omega) (fun e=>by first|exact absurd e.1 (by assumption)|exact absurd e.2.2 (by assumption)|exact absurd e.2.1 (by omega))];simp,by simp;omega⟩,by dsimp only;omega⟩
  | exact ak (ah ae) (eI (by rw [h2,List.drop_eq_nil_of_le (by omega)];simp only [o8,List.append_nil];exact le_ro)) hK
theorem VX {l:List (List Int)} (hl:gm l≤1000000000) (hK:K (.ret (SI none (kS (l.map o8)))) σ):ACallF κ Tryz.prog 176 [nB o l] σ K:=by
 have hlen:=gF l
 have hz:∀ k,gm ((l.take k).map o8)≤gm l:=fun k=>Nat.le_trans (sH _) (mO l k)
 have hw:=sH l
 refine ACallF.dropL (aa Tryz.func176 rfl ?_);simp only [Tryz.ntmps176]
 repeat' (first|simp only [WL,WM,Nat.reduceAdd,Nat.reduceSub,true_and,js])
 refine bF (fun x:Nat × Option (Nat × Nat)=>⟨(nB o l::.any::.any::nB (some x.2) ((l.take x.1).map o8)::.any::.any::nB o l::I l.length::I x.1::.any::.any::.any::.any::.any::.any::.any::.any::.any::.any::.any::[]),.tip x.2::σ,true,[]⟩) (fun x=>x.1≤l.length) (fun x=>l.length - x.1) (0,none) (aM bH ResW.void id) (Nat.zero_le _) ?_;rintro ⟨k,tk⟩ h1;dsimp only at h1 ⊢;have e2:=pn (l:=l) k
 repeat' (first|simp only [WL,ay,WM,reduceCtorEq,bg,Nat.reduceAdd,true_and,cb,js,IP,SX,Tryz.results176]|simp (disch:=first|omega|(simp only [aU];omega)) only [an,xK]|(with_reducible first|refine ax (hb:=?_)|refine cX (hlen:=?_) (hmax:=?_) (hK:=fun tk=>?_)|refine dp (hK:=?_)|refine cD (U0 ?_ ?_)|refine cD (Gi ?_ ?_))|((with_reducible first|refine ai (fun h=>?_) (fun h=>?_)|refine ab (fun h=>?_) (fun h=>?_))<;>(try simp only [h])<;>(try simp only [bf,ba] at h))|omega|(simp only [aU];omega)|(refine bq ?_;(first|omega|(simp only [aU];omega))))
 ·exact ⟨(k+1,_),aM (by dsimp only;rw [Ix (by omega)];exact bH) (ResW.refl _) id,by dsimp only;omega,by dsimp only;omega⟩
 ·have:=hz k;omega
 ·exact ak (ah ae) (aj (by rw [List.take_of_length_le (by omega)])) hK
end Go.Proofs.YthkabaiamcjdbaaGreat
namespace Go.Abs
def iW:Nat→List Int→Int × Bool
 | _,[]=>(0,false)
 | k,[c]=>if c=34 then (k,true) else (0,false)
 | k,c::d::r=>if c=92 then iW (k+2) r else if c=34 then (k,true) else iW (k+1) (d::r)
theorem AX {l:List Int}{k n:Nat} (h:k < l.length) (h1:l.getD k 0=92):iW n (l.drop k)=iW (n+2) (l.drop (k+2)):=by
 rw [aX h,h1];by_cases hk:k+1 < l.length
 ·rw [aX hk];simp only [iW];rw [if_pos trivial]
 ·rw [List.drop_eq_nil_of_le (show l.length≤k+1 by omega),List.drop_eq_nil_of_le (show l.length≤k+2 by omega)];simp [iW]
theorem Bw {l:List Int}{k n:Nat} (h:k < l.length) (h1:l.getD k 0=34):iW n (l.drop k)=((n:Int),true):=by
 rw [aX h,h1];by_cases hk:k+1 < l.length
 ·rw [aX hk];simp only [iW];rw [if_neg (by decide),if_pos trivial]
 ·rw [List.drop_eq_nil_of_le (show l.length≤k+1 by omega)];simp [iW]
theorem Dp {l:List Int}{k n:Nat} (h:k < l.length) (h1:¬l.getD k 0=92) (h2:¬l.getD k 0=34):iW n (l.drop k)=iW (n+1) (l.drop (k+1)):=by
 rw [aX h];by_cases hk:k+1 < l.length
 ·rw [aX hk];simp only [iW];rw [if_neg h1,if_neg h2]
 ·rw [List.drop_eq_nil_of_le (show l.length≤k+1 by omega)];simp only [iW];rw [if_neg h2]
theorem K4 {n:Nat}:iW n []=(0,false):=rfl
abbrev Ym (x:Int × Bool):AV:=.agg [I x.1,B x.2]
abbrev SG (o:Option (Option (Nat × Nat))) (l:List (Int × Bool)):AV:=.sl 2 o (l.map Ym)
theorem TU {l:List (Int × Bool)}{k:Nat} (h:k < l.length):(l.map Ym).getD k .any=Ym (l.getD k (0,false)):=by
 simp [List.getD_eq_getElem?_getD,h]
def pL (x:Int × Bool):Bool:=!x.2 && blankI x.1
def gZ (c:Int):Int × Bool :=
 if c=48 then (0,true) else if c=97 then (7,true) else if c=98 then (8,true) else if c=116∨c=9 then (9,true) else if c=110 then (10,true)
 else if c=118 then (11,true) else if c=102 then (12,true) else if c=114 then (13,true) else if c=101 then (27,true) else if c=32∨c=34∨c=47∨c=92 then (c,true)
 else if c=78 then (133,true) else if c=95 then (160,true) else if c=76 then (8232,true) else if c=80 then (8233,true) else (0,false)
def l9 (c:Int):Nat:=if c=120 then 2 else if c=117 then 4 else if c=85 then 8 else 0
theorem A1 (c:Int):l9 c≤8:=by unfold l9;(repeat' split)<;>omega
def rG:Int→List Int→Option Int
 | a,[]=>some a
 | a,d::r=>if iN d < 0 then none else rG (a * 16+iN d) r
def xR:Option Int→Int × Int
 | none=>(0,2)
 | some c=>if ek c then (c,0) else (0,4)
def ju (l:List Int) (n:Nat):Int × Int:=if l.length < n then (0,2) else xR (rG 0 (l.take n))
theorem M7 {α:Type}{p:α→Bool}{d:α}:∀ {l:List α},0 < l.length→p (l.getD 0 d)=true→l.dropWhile p=(l.drop 1).dropWhile p
 | [],h,_=>by simp at h
 | x::l,_,h=>by
  have:p x=true:=by simpa using h
  simp [List.dropWhile_cons,this]
theorem J0 {α:Type}{p:α→Bool}{d:α}:∀ {l:List α},0 < l.length→p (l.getD 0 d)=false→l.dropWhile p=l
 | [],h,_=>by simp at h
 | x::l,_,h=>by
  have:p x=false:=by simpa using h
  simp [List.dropWhile_cons,this]
theorem ra {α:Type}{d:α}{l:List α} (h:0 < l.length):l=l.take (l.length - 1)++[l.getD (l.length - 1) d]:=by
 have h2:l.length - 1 < l.length:=by omega
 conv=>lhs;rw [← List.take_length (l:=l),show l.length=l.length - 1+1 by omega]
 rw [List.take_succ_eq_append_getElem h2,List.getD_eq_getElem?_getD,List.getElem?_eq_getElem h2];rfl
theorem Lq {α:Type}{p:α→Bool}{d:α}{l:List α} (h:0 < l.length) (hb:p (l.getD (l.length - 1) d)=true):(l.reverse.dropWhile p).reverse=((l.take (l.length - 1)).reverse.dropWhile p).reverse:=by
 conv=>lhs;rw [ra (d:=d) h]
 rw [List.reverse_append];simp only [List.reverse_cons,List.reverse_nil,List.nil_append,List.cons_append,List.dropWhile_cons,hb,if_true]
theorem Ji {α:Type}{p:α→Bool}{d:α}{l:List α} (h:0 < l.length) (hb:p (l.getD (l.length - 1) d)=false):(l.reverse.dropWhile p).reverse=l:=by
 conv=>lhs;rw [ra (d:=d) h]
 rw [List.reverse_append];simp only [List.reverse_cons,List.reverse_nil,List.nil_append,List.cons_append,List.dropWhile_cons,hb,Bool.false_eq_true,if_false];rw [List.reverse_reverse];exact (ra h).symm
def jV (l:List Int):Int × Int × Int :=
 match l with
 | []=>(0,0,2)
 | c::r=>if (gZ c).2 then ((gZ c).1,1,0) else if l9 c=0 then (0,0,2) else ((ju r (l9 c)).1,(l9 c:Int)+1,(ju r (l9 c)).2)
theorem u6 {l:List Int} (h:0 < l.length):jV l=if (gZ (l.getD 0 0)).2 then ((gZ (l.getD 0 0)).1,1,0) else if l9 (l.getD 0 0)=0 then (0,0,2) else ((ju (l.drop 1) (l9 (l.getD 0 0))).1,(l9 (l.getD 0 0):Int)+1,(ju (l.drop 1) (l9 (l.getD 0 0))).2):=by
 cases l with
 | nil=>simp at h
 | cons c r=>rfl
theorem J1 {l:List Int} (h:l.length=0):jV l=(0,0,2):=by
 obtain rfl:=List.eq_nil_of_length_eq_zero h;rfl
theorem AT {m:List Int}{a:Int}{k:Nat} (h:k < m.length):rG a (m.drop k)=if iN (m.getD k 0) < 0 then none else rG (a * 16+iN (m.getD k 0)) (m.drop (k+1)):=by
 rw [aX h];rfl
theorem Xt {k:Nat} (h:k≤8):2 ^ (4 * k)≤4294967296∧2 ^ (4 * (k+1))=16 * 2 ^ (4 * k):=by
 refine ⟨Nat.le_trans (Nat.pow_le_pow_right (by decide) (show 4 * k≤32 by omega)) (by decide), ?_⟩;rw [show 4 * (k+1)=4 * k+4 by omega,Nat.pow_add];omega
theorem Ro (l:List Int):0≤(jV l).2.1∧(jV l).2.1≤9:=by
 unfold jV;split
 ·decide
 ·rename_i c r
  have:=A1 c
  (repeat' split)<;>(try simp only)<;>omega
def gv (last:Bool):Nat→List (Int × Bool)→List Int→List (Int × Bool) × Bool × Int
 | 0,acc,_=>(acc,false,0)
 | _+1,acc,[]=>(acc,false,0)
 | f+1,acc,c::r =>
  if ¬c=92 then gv last f (acc++[(c,false)]) r
  else if r=[]∧last=false then (acc,true,0)
  else if ¬(jV r).2.2=0 then ([],false,(jV r).2.2)
  else gv last f (acc++[((jV r).1,true)]) (r.drop (jV r).2.1.toNat)
def dG (last:Bool) (l:List Int):List (Int × Bool) × Bool × Int:=gv last l.length [] l
theorem ox (last:Bool):∀ (f:Nat) (acc:List (Int × Bool)) (l:List Int),(gv last f acc l).1.length≤acc.length+l.length
 | 0,acc,l=>by simp [gv]
 | f+1,acc,[]=>by simp [gv]
 | f+1,acc,c::r=>by
  have h1:=ox last f (acc++[(c,false)]) r
  have h2:=ox last f (acc++[((jV r).1,true)]) (r.drop (jV r).2.1.toNat)
  simp only [List.length_append,List.length_cons,List.length_nil,List.length_drop] at h1 h2 ⊢;unfold gv
  (repeat' split)
  all_goals first|omega|(simp;done)|(simp;omega)
theorem yr (last:Bool) (l:List Int):(dG last l).1.length≤l.length:=by
 have:=ox last l.length [] l
 simpa [dG] using this
theorem mG (last:Bool):∀ (f f':Nat) (acc:List (Int × Bool)) (l:List Int),l.length≤f→l.length≤f'→gv last f acc l=gv last f' acc l
 | 0,0,_,_,_,_=>rfl
 | 0,f'+1,acc,l,h,_=>by
  obtain rfl:=List.eq_nil_of_length_eq_zero (by omega:l.length=0);rfl
 | f+1,0,acc,l,_,h=>by
  obtain rfl:=List.eq_nil_of_length_eq_zero (by omega:l.length=0);rfl
 | f+1,f'+1,acc,[],_,_=>rfl
 | f+1,f'+1,acc,c::r,h,h'=>by
  simp only [List.length_cons] at h h';have h1:=mG last f f' (acc++[(c,false)]) r (by omega) (by omega)
  have h2:=mG last f f' (acc++[((jV r).1,true)]) (r.drop (jV r).2.1.toNat) (by simp;omega) (by simp;omega)
  unfold gv;rw [h1,h2]
def fT (last:Bool) (l:List Int) (acc:List (Int × Bool)) (k:Nat):List (Int × Bool) × Bool × Int:=gv last (l.length - k) acc (l.drop k)
theorem DB {last:Bool}{l:List Int}{acc:List (Int × Bool)}{k:Nat} (h:l.length≤k):fT last l acc k=(acc,false,0):=by
 unfold fT;rw [show l.length - k=0 by omega];rfl
theorem y7 {last:Bool}{l:List Int}{acc:List (Int × Bool)}{k:Nat} (h:k < l.length) (h1:¬l.getD k 0=92):fT last l acc k=fT last l (acc++[(l.getD k 0,false)]) (k+1):=by
 unfold fT;rw [show l.length - k=(l.length - (k+1))+1 by omega,aX h];simp only [gv];rw [if_pos h1]
theorem Ba {last:Bool}{l:List Int}{acc:List (Int × Bool)}{k:Nat} (h:k+1=l.length) (h1:l.getD k 0=92) (h2:last=false):fT last l acc k=(acc,true,0):=by
 unfold fT;rw [show l.length - k=(l.length - (k+1))+1 by omega,aX (show k < l.length by omega)];simp only [gv];rw [if_neg (by simpa using h1),if_pos ⟨List.drop_eq_nil_of_le (by omega),h2⟩]
theorem tH {last:Bool}{l:List Int}{acc:List (Int × Bool)}{k:Nat} (h:k < l.length) (h1:l.getD k 0=92) (h2:¬(k+1=l.length∧last=false)) (h3:¬(jV (l.drop (k+1))).2.2=0):fT last l acc k=([],false,(jV (l.drop (k+1))).2.2):=by
 unfold fT;rw [show l.length - k=(l.length - (k+1))+1 by omega,aX h];simp only [gv];rw [if_neg (by simpa using h1),if_neg (fun e=>h2 ⟨by have:=e.1;simp at this;omega,e.2⟩),if_pos h3]
theorem uz {last:Bool}{l:List Int}{acc:List (Int × Bool)}{k:Nat}{n:Nat} (h:k < l.length) (h1:l.getD k 0=92) (h2:¬(k+1=l.length∧last=false)) (h3:(jV (l.drop (k+1))).2.2=0) (hn:(jV (l.drop (k+1))).2.1=(n:Int)):fT last l acc k=fT last l (acc++[((jV (l.drop (k+1))).1,true)]) (k+1+n):=by
 unfold fT;rw [show l.length - k=(l.length - (k+1))+1 by omega,aX h];simp only [gv];rw [if_neg (by simpa using h1),if_neg (fun e=>h2 ⟨by have:=e.1;simp at this;omega,e.2⟩),if_neg (by simpa using h3),hn];rw [Int.toNat_natCast,List.drop_drop];exact mG last _ _ _ _ (by simp;omega) (by simp)
def qH (b:Bool) (t:List (Int × Bool)):List (Int × Bool):=if b then t.dropWhile pL else t
def rL (b:Bool) (t:List (Int × Bool)):List (Int × Bool):=if b then (t.reverse.dropWhile pL).reverse else t
def pN (i n:Nat) (x:List (Int × Bool) × Bool):List (Int × Bool):=rL (decide (i+1 < n) && !x.2) (qH (decide (0 < i)) x.1)
def kq (n:Nat):Nat→Bool→Nat→List (List (Int × Bool) × Bool)→List Int
 | _,_,_,[]=>[]
 | i,j,e,x::r =>
  if pN i n x=[]∧x.2=false∧j=false∧i+1 < n then kq n (i+1) j (e+1) r
  else (if j=false∧e=0 then [32] else [])++List.replicate e 10++(pN i n x).map (·.1)++kq n (i+1) x.2 0 r
def vS (l:List (List (Int × Bool) × Bool)):List Int:=kq l.length 0 true 0 l
def cS:List (List Int)→List (List (Int × Bool) × Bool) × Int
 | []=>([],0)
 | t::r=>let x:=dG r.isEmpty t
  if ¬x.2.2=0 then ([],x.2.2) else if ¬(cS r).2=0 then ([],(cS r).2) else ((x.1,x.2.1)::(cS r).1,0)
def kj (l:List (List Int)):List Int × Int:=if ¬(cS l).2=0 then ([],(cS l).2) else (vS (cS l).1,0)
/-! ### Lines -/
abbrev ZX (x:List (Int × Bool) × Bool):AV:=.agg [SG none x.1,B x.2]
abbrev B5 (o:Option (Option (Nat × Nat))) (l:List (List (Int × Bool) × Bool)):AV:=.sl 2 o (l.map ZX)
theorem S9 {l:List (List (Int × Bool) × Bool)}{k:Nat} (h:k < l.length):(l.map ZX).getD k .any=ZX (l.getD k ([],false)):=by
 simp [List.getD_eq_getElem?_getD,h]
def oQ (l:List (List (Int × Bool) × Bool)):Nat:=(l.map fun t=>t.1.length+1).sum
theorem KE (l:List (List (Int × Bool) × Bool)):l.length≤oQ l:=by
 induction l with
 | nil=>simp [oQ]
 | cons x r ih=>simp only [oQ,List.map_cons,List.sum_cons,List.length_cons] at *;omega
theorem L0 {l:List (List (Int × Bool) × Bool)} (k:Nat):(l.getD k ([],false)).1.length≤oQ l:=by
 induction l generalizing k with
 | nil=>simp [oQ]
 | cons x r ih =>
  cases k with
  | zero=>simp [oQ];omega
  | succ k=>have:=ih k;simp only [oQ,List.map_cons,List.sum_cons,List.getD_cons_succ] at *;omega
theorem K9 (b:Bool) (t:List (Int × Bool)):(rL b t).length≤t.length:=by
 unfold rL;split
 ·have:=(List.dropWhile_suffix pL (l:=t.reverse)).length_le
  simpa using this
 ·exact Nat.le_refl _
theorem wK (b:Bool) (t:List (Int × Bool)):(qH b t).length≤t.length:=by
 unfold qH;split
 ·exact (List.dropWhile_suffix pL).length_le
 ·exact Nat.le_refl _
theorem AF (i n:Nat) (x:List (Int × Bool) × Bool):(pN i n x).length≤x.1.length:=Nat.le_trans (K9 _ _) (wK _ _)
theorem qx (n:Nat):∀ (l:List (List (Int × Bool) × Bool)) (i:Nat) (j:Bool) (e:Nat),(kq n i j e l).length≤e+oQ l
 | [],i,j,e=>by simp [kq]
 | x::r,i,j,e=>by
  have h1:=qx n r (i+1) j (e+1)
  have h2:=qx n r (i+1) x.2 0
  have h3:=AF i n x
  simp only [oQ,List.map_cons,List.sum_cons] at *;unfold kq;split
  ·omega
  ·simp only [List.length_append,List.length_replicate,List.length_map]
   split<;>simp<;>omega
theorem vG (l:List (List (Int × Bool) × Bool)):(vS l).length≤oQ l:=by have:=qx l.length l 0 true 0;unfold vS;omega
theorem wi {l:List (List (Int × Bool) × Bool)}{k:Nat} (h:k < l.length):l.drop k=l.getD k ([],false)::l.drop (k+1):=by
 rw [List.drop_eq_getElem_cons h];simp [List.getD_eq_getElem?_getD,h]
theorem Da {n i:Nat}{j:Bool}{e:Nat}{l:List (List (Int × Bool) × Bool)}{T:List (Int × Bool)} (h:i < l.length) (hT:pN i n (l.getD i ([],false))=T) (h1:T.length=0) (h2:(l.getD i ([],false)).2=false) (h3:j=false) (h4:i+1 < n) :
  kq n i j e (l.drop i)=kq n (i+1) j (e+1) (l.drop (i+1)):=by
 rw [wi h];simp only [kq];rw [if_pos ⟨by rw [hT];exact List.eq_nil_of_length_eq_zero h1,h2,h3,h4⟩]
theorem Ce {n i:Nat}{j:Bool}{e:Nat}{l:List (List (Int × Bool) × Bool)}{T:List (Int × Bool)}{s:List Int} (h:i < l.length) (hT:pN i n (l.getD i ([],false))=T) (h1:¬(T.length=0∧(l.getD i ([],false)).2=false∧j=false∧i+1 < n))
  (hs:s=if j=false∧e=0 then [32] else []):kq n i j e (l.drop i)=s++List.replicate e 10++T.map (·.1)++kq n (i+1) (l.getD i ([],false)).2 0 (l.drop (i+1)):=by
 rw [wi h];simp only [kq];rw [if_neg (fun e=>h1 ⟨by rw [← hT,e.1];rfl,e.2⟩),hT,hs]
theorem Bj {T:List (Int × Bool)}{m:Nat} (h:m < T.length):(T.take (m+1)).map (·.1)=(T.take m).map (·.1)++[(T.getD m (0,false)).1]:=by
 rw [List.take_succ_eq_append_getElem h,List.map_append,List.getD_eq_getElem?_getD,List.getElem?_eq_getElem h];rfl
theorem DQ {t:List Int}{r:List (List Int)} (h:¬(dG r.isEmpty t).2.2=0):cS (t::r)=([],(dG r.isEmpty t).2.2):=by
 simp only [cS];rw [if_pos h]
theorem Gy {t:List Int}{r:List (List Int)} (h:(dG r.isEmpty t).2.2=0):(cS (t::r)).2=(cS r).2∧((cS r).2=0→(cS (t::r)).1=((dG r.isEmpty t).1,(dG r.isEmpty t).2.1)::(cS r).1):=by
 simp only [cS];rw [if_neg (by simpa using h)];split
 ·rename_i h2;exact ⟨rfl,fun h3=>(h2 h3).elim⟩
 ·rename_i h2;exact ⟨by simp only [Decidable.not_not] at h2;exact h2.symm,fun _=>rfl⟩
theorem oS:∀ l:List (List Int),oQ (cS l).1≤gm l
 | []=>by simp [cS,oQ]
 | t::r=>by
  have h1:=oS r
  have h2:=yr r.isEmpty t
  simp only [gm,oQ,List.map_cons,List.sum_cons] at *;simp only [cS]
  (repeat' split)<;>simp<;>omega
theorem O3 {l:List (List Int)}{i:Nat} (h:i < l.length):(((i:Int)+1) == (l.length:Int))=(l.drop (i+1)).isEmpty:=by
 rw [Bool.eq_iff_iff,beq_iff_eq,List.isEmpty_iff,List.drop_eq_nil_iff];omega
theorem F8 {l:List (List Int)}{e:Int} (h:(cS l).2=e) (h0:¬e=0):kj l=([],e):=by unfold kj;rw [h,if_pos h0]
theorem L5 {l:List (List Int)} (h:(cS l).2=0):kj l=(vS (cS l).1,0):=by unfold kj;rw [h,if_neg (by decide)]
end Go.Abs
namespace Go.Proofs.YthkabaiamcjdbaaGreat
open Go.Abs
variable {κ:Ctx} {σ:List Res} {K:Ret→List Res→Prop} {o o':Option (Option (Nat × Nat))}
theorem ZM {l:List Int} (hl:l.length≤1000000000) (hK:K (.ret (.tup [I (iW 0 l).1,B (iW 0 l).2])) σ):ACallF κ Tryz.prog 198 [SI o l] σ K:=by
 refine ACallF.dropL (aa Tryz.func198 rfl ?_);simp only [Tryz.ntmps198]
 repeat' (first|simp only [WL,WM,Nat.reduceAdd,Nat.reduceSub])
 refine bF (fun k:Nat=>⟨(SI o l::.any::.any::.any::I k::.any::.any::.any::.any::.any::.any::.any::.any::.any::.any::.any::.any::.any::.any::.any::.any::.any::[]),σ,true,[]⟩) (fun k=>k≤l.length+1∧iW 0 l=iW k (l.drop k)) (fun k=>l.length+2 - k) 0 (aq bH id) ⟨Nat.zero_le _,by simp⟩ ?_;rintro k ⟨h1,h2⟩
 repeat' (first|simp only [WL,ay,WM,reduceCtorEq,bg,Nat.reduceAdd,true_and,T3,cb,Tryz.results198]|simp (disch:=first|omega|(simp only [aU];omega)) only [an,bL]|with_reducible refine ax (hb:=?_)|((with_reducible first|refine ai (fun h=>?_) (fun h=>?_)|refine ab (fun h=>?_) (fun h=>?_))<;>(try simp only [h])<;>(try simp only [bf,ba] at h)))
 ·exact ⟨k+2,aq bH id,⟨by omega,by rw [h2,AX (by omega) (by assumption)]⟩,by omega⟩
 ·exact ak ae (aj (by rw [h2,Bw (by omega) (by assumption)])) hK
 ·exact ⟨k+1,aq bH id,⟨by omega,by rw [h2,Dp (by omega) (by assumption) (by assumption)]⟩,by omega⟩
 ·exact ak ae (aj (by rw [h2,List.drop_eq_nil_of_le (by omega),K4])) hK
theorem Z9 {c:Int} (hK:K (.ret (B (ek c))) σ):ACallF κ Tryz.prog 229 [I c] σ K:=by
 refine ACallF.dropL (aa Tryz.func229 rfl ?_);simp only [Tryz.ntmps229]
 repeat' (first|simp only [WL,ay,WM,reduceCtorEq,bg,Nat.reduceAdd,Nat.reduceSub,Bool.not_true,Bool.not_false,true_and,reduceIte,Bool.false_eq_true,Tryz.results229]|((with_reducible first|refine ai (fun h=>?_) (fun h=>?_)|refine ab (fun h=>?_) (fun h=>?_))<;>(try simp only [h])<;>(try simp only [bf,ba] at h)))
 all_goals (refine ak ae (aj (congrArg B ?_)) hK;rw [Bool.eq_iff_iff];simp only [fw,decide_eq_true_eq,Bool.false_eq_true,false_iff,true_iff,eq_self];omega)
theorem TC {c:Int} (hK:K (.ret (.tup [I (gZ c).1,B (gZ c).2])) σ):ACallF κ Tryz.prog 224 [I c] σ K:=by
 refine ACallF.dropL (aa Tryz.func224 rfl ?_);simp only [Tryz.ntmps224]
 repeat' (first|simp only [WL,ay,WM,reduceCtorEq,bg,Nat.reduceAdd,Nat.reduceSub,true_and,Tryz.results224]|((with_reducible first|refine ai (fun h=>?_) (fun h=>?_)|refine ab (fun h=>?_) (fun h=>?_))<;>(try simp only [h])<;>(try simp only [bf,ba] at h)))
 all_goals (refine ak ae (aj ?_) hK;simp [gZ, *])
theorem Wk {c:Int} (hK:K (.ret (I (l9 c:Nat))) σ):ACallF κ Tryz.prog 225 [I c] σ K:=by
 refine ACallF.dropL (aa Tryz.func225 rfl ?_);simp only [Tryz.ntmps225]
 repeat' (first|simp only [WL,ay,WM,reduceCtorEq,bg,Nat.reduceAdd,Nat.reduceSub,true_and,Tryz.results225]|((with_reducible first|refine ai (fun h=>?_) (fun h=>?_)|refine ab (fun h=>?_) (fun h=>?_))<;>(try simp only [h])<;>(try simp only [bf,ba] at h)))
 all_goals (refine ak ae (aj ?_) hK;simp [l9, *])
theorem Ob {l:List Int}{n:Nat} (hl:l.length≤1000000000) (hn:n≤8) (hK:K (.ret (.tup [I (ju l n).1,I (ju l n).2])) σ):ACallF κ Tryz.prog 226 [SI o l,I n] σ K:=by
 refine ACallF.dropL (aa Tryz.func226 rfl ?_);simp only [Tryz.ntmps226]
 repeat' (first|simp only [WL,ay,WM,Int.reduceToNat,reduceCtorEq,bg,Nat.reduceAdd,Nat.reduceSub,true_and,T3,cb,Tryz.results226]|with_reducible refine ax (hb:=?_)|((with_reducible first|refine ai (fun h=>?_) (fun h=>?_)|refine ab (fun h=>?_) (fun h=>?_))<;>(try simp only [h])<;>(try simp only [bf,ba] at h)))
 ·exact ak ae (aj (by unfold ju;rw [if_pos (by omega)])) hK
 have hm:(l.take n).length=n:=by simp;omega
 have hu:ju l n=xR (rG 0 (l.take n)):=by unfold ju;rw [if_neg (by omega)]
 generalize l.take n=m at *;refine bF (fun x:Nat × Nat=>⟨(SI o l::I n::.any::.any::.any::.any::I x.2::.any::.any::.any::.any::.any::.any::.any::.any::.any::SI none m::I m.length::I x.1::.any::.any::.any::.any::.any::.any::.any::.any::.any::.any::.any::.any::.any::.any::.any::.any::[]),σ,true,[]⟩) (fun x=>x.1≤m.length∧rG 0 m=rG x.2 (m.drop x.1)∧x.2 < 2 ^ (4 * x.1)) (fun x=>m.length - x.1) (0,0) (aq bH id) ⟨Nat.zero_le _,by simp,by decide⟩ ?_;rintro ⟨k,a⟩ ⟨h1,h2,h3⟩;dsimp only at h1 h2 h3 ⊢;have hp:=Xt (k:=k) (by omega)
 have hx:=NV (m.getD k 0)
 repeat' (first|simp only [WL,ay,WM,reduceCtorEq,bg,Nat.reduceAdd,true_and,T3,cb,H2,S7,Tryz.results226]|simp (disch:=first|omega|(simp only [aU];omega)) only [an,bL]|(with_reducible first|refine ax (hb:=?_)|refine cD (Xr ?_)|refine cD (Z9 ?_))|((with_reducible first|refine ai (fun h=>?_) (fun h=>?_)|refine ab (fun h=>?_) (fun h=>?_))<;>(try simp only [h])<;>(try simp only [bf,ba] at h)))
 ·rw [AT (by omega),if_pos (by omega)] at h2
  exact ak ae (aj (by rw [hu,h2];rfl)) hK
 ·rw [AT (by omega),if_neg (by omega)] at h2
  exact ⟨(k+1,a * 16+(iN (m.getD k 0)).toNat),aq bH id,⟨by dsimp only;omega,by dsimp only;rw [h2];congr 1;omega,by dsimp only;omega⟩,by dsimp only;omega⟩
 all_goals
  rw [List.drop_eq_nil_of_le (by omega)] at h2;simp only [rG] at h2
 ·exact ak ae (aj (by rw [hu,h2];unfold xR;simp only;rw [if_neg (by simp [*])])) hK
 ·exact ak ae (aj (by rw [hu,h2];unfold xR;simp only;rw [if_pos (by assumption)])) hK
theorem NJ {l:List Int} (hl:l.length≤1000000000) (hK:K (.ret (.tup [I (jV l).1,I (jV l).2.1,I (jV l).2.2])) σ):ACallF κ Tryz.prog 217 [SI o l] σ K:=by
 have hb:=A1 (l.getD 0 0)
 refine ACallF.dropL (aa Tryz.func217 rfl ?_);simp only [Tryz.ntmps217]
 repeat' (first|simp only [WL,ay,WM,Int.reduceToNat,reduceCtorEq,bg,Nat.reduceAdd,Nat.reduceSub,Nat.reduceLT,true_and,T3,cb,TG,TO,RZ,Tryz.results217]|simp (disch:=first|omega|(simp only [aU];omega)) only [an,bL]|(with_reducible first|refine ax (hb:=?_)|refine cD (TC ?_)|refine cD (Wk ?_)|refine cD (Ob ?_ ?_ ?_))|((with_reducible first|refine ai (fun h=>?_) (fun h=>?_)|refine ab (fun h=>?_) (fun h=>?_))<;>(try simp only [h])<;>(try simp only [bf,ba] at h))|omega|(simp only [aU];omega))
 all_goals first
  | exact ak ae (aj (by rw [J1 (by omega)])) hK
  | exact ak ae (aj (by rw [u6 (by omega),if_pos (by assumption)])) hK
  | exact ak ae (aj (by rw [u6 (by omega),if_neg (by simp only [*];decide),if_pos (by omega)])) hK
  | exact ak ae (aj (by rw [u6 (by omega),if_neg (by simp only [*];decide),if_neg (by omega)])) hK
theorem Ls {x:Int × Bool} (hK:K (.ret (B (pL x))) σ):ACallF κ Tryz.prog 227 [Ym x] σ K:=by
 refine ACallF.dropL (aa Tryz.func227 rfl ?_);simp only [Tryz.ntmps227]
 repeat' (first|simp only [WL,WM,Nat.reduceAdd,Nat.reduceSub,Nat.reduceEqDiff,Bool.not_true,true_and,reduceIte,Bool.false_eq_true,T3,T4,fR sv,fR x6,fM,Tryz.results227]|(with_reducible first|refine ax (hb:=?_)|refine au (hK:=?_)|refine aQ (hK:=fun b=>?_)|refine cD (Blank ?_))|((with_reducible first|refine ai (fun h=>?_) (fun h=>?_)|refine ab (fun h=>?_) (fun h=>?_))<;>(try simp only [h])<;>(try simp only [bf,ba] at h)))
 all_goals exact ak (ah ae) (aj (congrArg B (by simp [pL, *]))) hK
theorem UF {b:Nat}{l:List (Int × Bool)}{j:Bool} (hl:l.length≤1000000000) (hK:∀ o',K (.ret (.tup [])) (.obj b [SG o' (l.dropWhile pL),B j]::σ)):ACallF κ Tryz.prog 218 [.raw (.pointer (some ⟨b,0,none⟩))] (.obj b [SG o l,B j]::σ) K:=by
 refine ACallF.dropL (aa Tryz.func218 rfl ?_);simp only [Tryz.ntmps218]
 repeat' (first|simp only [WL,WM,Nat.reduceAdd,Nat.reduceSub])
 refine bF (fun x:Option (Option (Nat × Nat)) × List (Int × Bool)=>⟨(.raw (.pointer (some ⟨b,0,none⟩))::.any::.any::.any::.any::.any::.any::.any::.any::.any::.any::.any::.any::.any::.any::.any::.any::.any::.any::.any::.any::.any::.any::.any::.any::[]),.obj b [SG x.1 x.2,B j]::σ,true,[]⟩) (fun x=>x.2.dropWhile pL=l.dropWhile pL∧x.2.length≤l.length) (fun x=>x.2.length) (o,l) (aq bH id) ⟨rfl,Nat.le_refl _⟩ ?_;rintro ⟨o',l'⟩ hx;dsimp only at hx ⊢;have h1:=hx.1
 have h2:=hx.2
 repeat' (first|simp only [WL,ay,WM,Int.reduceToNat,reduceCtorEq,bg,Nat.reduceAdd,Nat.reduceEqDiff,Bool.not_true,true_and,reduceIte,Bool.false_eq_true,Ge,Sj,fR lV,JS,Tryz.results218]|simp (disch:=first|omega|(simp only [aU];omega)) only [TU]|(with_reducible first|refine ax (hb:=?_)|refine au (hK:=?_)|refine aP (hK:=?_)|refine cD (Ls ?_))|((with_reducible first|refine ai (fun h=>?_) (fun h=>?_)|refine ab (fun h=>?_) (fun h=>?_))<;>(try simp only [h])<;>(try simp only [bf,ba] at h)))
 ·exact ⟨(none,l'.drop 1),aM bH (ResW.refl _) id,⟨(M7 (d:=(0,false)) (by omega) (by assumption)).symm.trans h1,by simp;omega⟩,by simp;omega⟩
 ·exact ak ae (aj rfl) (by rw [← h1,J0 (d:=(0,false)) (by omega) (by assumption)] at hK;exact hK _)
 ·obtain rfl:l'=[]:=List.eq_nil_of_length_eq_zero (by omega)
  exact ak ae (aj rfl) (by rw [← h1] at hK;exact hK _)
theorem X0 {b:Nat}{l:List (Int × Bool)}{j:Bool} (hl:l.length≤1000000000) (hK:∀ o',K (.ret (.tup [])) (.obj b [SG o' (rL (!j) l),B j]::σ)):ACallF κ Tryz.prog 219 [.raw (.pointer (some ⟨b,0,none⟩))] (.obj b [SG o l,B j]::σ) K:=by
 refine ACallF.dropL (aa Tryz.func219 rfl ?_);simp only [Tryz.ntmps219]
 repeat' (first|simp only [WL,WM,Nat.reduceAdd,Nat.reduceSub])
 refine bF (fun x:Option (Option (Nat × Nat)) × List (Int × Bool)=>⟨(.raw (.pointer (some ⟨b,0,none⟩))::.any::.any::.any::.any::.any::.any::.any::.any::.any::.any::.any::.any::.any::.any::.any::.any::.any::.any::.any::.any::.any::.any::.any::.any::.any::.any::.any::.any::.any::.any::.any::.any::.any::.any::.any::.any::.any::.any::.any::.any::.any::.any::.any::[]),.obj b [SG x.1 x.2,B j]::σ,true,[]⟩) (fun x=>rL (!j) x.2=rL (!j) l∧x.2.length≤l.length) (fun x=>x.2.length) (o,l) (aq bH id) ⟨rfl,Nat.le_refl _⟩ ?_;rintro ⟨o',l'⟩ ⟨h1,h2⟩;dsimp only at h1 h2 ⊢;have e1:0 < l'.length→((l'.length:Int) - 1).toNat=l'.length - 1:=fun _=>by omega
 repeat' (first|simp only [WL,ay,WM,Int.reduceToNat,reduceCtorEq,bg,Nat.reduceAdd,Nat.reduceEqDiff,Bool.not_true,true_and,reduceIte,Bool.false_eq_true,T4,Ge,Sj,fR lV,fR nM,JS,Tryz.results219]|simp (disch:=first|omega|(simp only [aU];omega)) only [an,TU,e1]|(with_reducible first|refine ax (hb:=?_)|refine au (hK:=?_)|refine aP (hK:=?_)|refine cQ (Ls aT) ?_)|((with_reducible refine aE (id:=0) 28 mixed ?_ ?_);kernel_rfl)|((with_reducible refine aE (id:=1) 14 mixed ?_ ?_);kernel_rfl)|(with_reducible refine bK ?_)|((with_reducible first|refine ai (fun h=>?_) (fun h=>?_)|refine ab (fun h=>?_) (fun h=>?_))<;>(try simp only [h])<;>(try simp only [bf,ba] at h)))
 ·subst_vars
  exact ⟨(none,l'.take (l'.length - 1)),aM bH (ResW.refl _) id,⟨Eq.trans (Lq (d:=(0,false)) (by omega) (by assumption)).symm h1,by simp;omega⟩,by simp;omega⟩
 ·subst_vars
  exact ak ae (aj rfl) (by rw [← h1] at hK;unfold rL at hK;simp only [Bool.not_false,if_true] at hK;rw [Ji (d:=(0,false)) (by omega) (by assumption)] at hK;exact hK _)
 ·subst_vars
  obtain rfl:l'=[]:=List.eq_nil_of_length_eq_zero (by omega);exact ak ae (aj rfl) (by rw [← h1] at hK;exact hK _)
 ·subst_vars
  exact ak ae (aj rfl) (hK _)
theorem Xw {l:List Int}{last:Bool} (hl:l.length≤100000000) (hK:K (.ret (.tup [.agg [SG none (dG last l).1,B (dG last l).2.1],I (dG last l).2.2])) σ):ACallF κ Tryz.prog 200 [SI o l,B last] σ K:=by
 refine ACallF.dropS ?_;have hz:dG last l=fT last l [] 0:=by simp [dG,fT]
 refine ACallF.dropL (aa Tryz.func200 rfl ?_);simp only [Tryz.ntmps200]
 repeat' (first|simp only [WL,WM,Nat.reduceAdd,Nat.reduceSub]|with_reducible refine aV (hK:=fun b=>?_))
 rename_i b0;refine bF (fun x:Nat × List (Int × Bool) × Option (Nat × Nat)=>⟨(SI o l::B last::.any::.any::.raw (.pointer (some ⟨b0,0,none⟩))::.any::.raw (.pointer (some ⟨b,0,none⟩))::I x.1::.any::.any::.any::.any::.any::.any::.any::.any::.any::.any::.any::.any::.any::.any::.any::.any::.any::.any::.any::.any::.any::.any::.any::.any::.any::.any::.any::.any::.any::.any::.any::.any::.any::.any::.any::.any::.any::.any::.any::.any::.any::.any::.any::.any::.any::.any::.any::.any::.any::.any::.any::.any::.any::.any::.any::.any::.any::.any::.any::[]),.obj b [SG (some x.2.2) x.2.1,B false]::.tip x.2.2::.obj b0 [nilS,B false]::σ,true,[]⟩)
  (fun x=>x.2.1.length≤x.1∧fT last l [] 0=fT last l x.2.1 x.1∧x.1≤l.length+9) (fun x=>l.length+10 - x.1) (0,[],none) (aM bH (((ResW.void).cons _).trans (ResW.obj (fF (le_nil (by decide)) le_rfl))) id) ⟨Nat.le_refl _,rfl,by omega⟩ ?_
 rintro ⟨k,out,tk⟩ ⟨h1,h2,h3⟩;dsimp only at h1 h2 h3 ⊢;rw [hz,h2] at hK;have hn:=Ro (l.drop (k+1))
 obtain ⟨n,hn2⟩:=Int.eq_ofNat_of_zero_le hn.1
 repeat' (first|simp only [WL,ay,WM,reduceCtorEq,bg,Nat.reduceAdd,Nat.reduceLT,Nat.reduceEqDiff,Bool.not_true,true_and,reduceIte,Bool.false_eq_true,T3,T4,cb,Ge,fR lV,fR nM,T7,Tryz.results200,PM]|simp (disch:=first|omega|(simp only [aU];omega)) only [an,bL]|(with_reducible first|refine ax (hb:=?_)|refine au (hK:=?_)|refine aA (hK:=?_)|refine aP (hK:=?_)|refine az (hK:=?_)|refine cX (hlen:=?_) (hmax:=?_) (hK:=fun tk=>?_)|refine dp (hK:=?_)|refine aI (hK:=?_)|refine cD (NJ ?_ ?_))|((with_reducible refine aY ?_);apply xM (hf:=Tryz.results200);exact bn)|((with_reducible refine aE (id:=6) 8 mixed ?_ ?_);kernel_rfl)|(with_reducible refine bK ?_)|((with_reducible first|refine ai (fun h=>?_) (fun h=>?_)|refine ab (fun h=>?_) (fun h=>?_))<;>(try simp only [h])<;>(try simp only [bf,ba] at h))|omega|(simp only [aU];omega)|(refine bq ?_;(first|omega|(simp only [aU];omega))))
 ·exact ⟨(k+1,out++[(l.getD k 0,false)],tk),aM bH (ResW.of_eq (by simp)) id,⟨by simp;omega,by dsimp only;rw [h2,y7 (by omega) (by assumption)],by dsimp only;omega⟩,by dsimp only;omega⟩
 ·rw [Ba (by omega) (by assumption) (by assumption)] at hK
  exact ak (ah (ah (ah ae))) (aj rfl) (FH ae (sd (cC (sA (cC (dJ le_ro) (cC cw iH))) (cC cw iH))) hK)
 ·rw [tH (by omega) (by assumption) (fun e=>by have e1:=e.1;have e2:=e.2;first|omega|simp_all) (by assumption)] at hK
  exact ak (ah (ah (ah ae))) (aj rfl) (FH ae (sd (cC (sA (cC (dJ (fg (by decide))) (cC cw iH))) (cC cw iH))) hK)
 ·exact ⟨(k+1+n,out++[((jV (l.drop (k+1))).1,true)],tk),aM bH (ResW.of_eq (by simp)) id,⟨by simp;omega,by dsimp only;rw [h2,uz (by omega) (by assumption) (fun e=>by have e1:=e.1;have e2:=e.2;first|omega|simp_all) (by assumption) hn2],by dsimp only;omega⟩,by dsimp only;omega⟩
 ·rw [tH (by omega) (by assumption) (fun e=>by have e1:=e.1;have e2:=e.2;first|omega|simp_all) (by assumption)] at hK
  exact ak (ah (ah (ah ae))) (aj rfl) (FH ae (sd (cC (sA (cC (dJ (fg (by decide))) (cC cw iH))) (cC cw iH))) hK)
 ·exact ⟨(k+1+n,out++[((jV (l.drop (k+1))).1,true)],tk),aM bH (ResW.of_eq (by simp)) id,⟨by simp;omega,by dsimp only;rw [h2,uz (by omega) (by assumption) (fun e=>by have e1:=e.1;have e2:=e.2;first|omega|simp_all) (by assumption) hn2],by dsimp only;omega⟩,by dsimp only;omega⟩
 ·rw [DB (by omega)] at hK
  exact ak (ah (ah (ah ae))) (aj rfl) (FH ae (sd (cC (sA (cC (dJ le_ro) (cC cw iH))) (cC cw iH))) hK)
theorem Eo {l:List (List (Int × Bool) × Bool)} (hl:oQ l≤1000000000) (hK:K (.ret (SI none (vS l))) σ):ACallF κ Tryz.prog 201 [B5 o l] σ K:=by
 have hlen:=KE l
 have hfl:=vG l
 refine ACallF.dropL (aN Tryz.func201 rfl ?_);simp only [Tryz.ntmps201]
 repeat' (first|(with_reducible first|refine aC ?_|refine bO ?_|refine al (al ?_)|refine aG ?_|refine aB ?_)|simp only [WL,WM,Nat.reduceAdd,Nat.reduceSub,true_and,PC])
 refine dq (fun x:Nat × List Int × Nat × Bool × Option (Nat × Nat)=>⟨(B5 o l::.any::.any::SI (some x.2.2.2.2) x.2.1::I x.2.2.1::B x.2.2.2.1::.any::.any::.any::.any::B5 o l::I l.length::I x.1::.any::.any::.any::.any::.any::.any::.any::.any::.any::.any::.any::.any::.any::.any::.any::.any::.any::.any::.any::.any::.any::.any::.any::.any::.any::.any::.any::.any::.any::.any::.any::.any::.any::.any::.any::.any::.any::.any::.any::.any::.any::.any::.any::.any::.any::.any::.any::.any::.any::.any::.any::.any::.any::.any::.any::.any::.any::.any::.any::.any::.any::.any::.any::.any::.any::.any::.any::[]),.tip x.2.2.2.2::σ,true,[]⟩)
  (fun x=>x.1≤l.length∧vS l=x.2.1++kq l.length x.1 x.2.2.2.1 x.2.2.1 (l.drop x.1)∧x.2.2.1≤x.1∧(x.2.2.2.1=true→x.2.2.1=0)) (fun x=>l.length - x.1) (0,[],0,true,none) (aM bH ResW.void id) ⟨Nat.zero_le _,rfl,Nat.le_refl _,fun _=>rfl⟩ ?_
 rintro ⟨i,out,e,j,tk⟩ hx;dsimp only at hx ⊢;have h1:=hx.1
 have h2:=hx.2.1
 have h3:=hx.2.2.1
 have h4:=hx.2.2.2
 have ol:out.length≤oQ l:=by have:=congrArg List.length h2;simp only [List.length_append] at this;omega
 have tl:=AF i l.length (l.getD i ([],false))
 have tf:=wK (decide (0 < i)) (l.getD i ([],false)).1
 have tg:=L0 (l:=l) i
 repeat' (first|(with_reducible first|refine jS (id:=7) ?_|refine al (aC ?_)|refine aG ?_|refine aO ?_)|simp only [WL,ay,WM,reduceCtorEq,bg,Nat.reduceAdd,true_and,PC,Yw,Tryz.results201]|simp (disch:=first|omega|(simp only [aU];omega)) only [S9]|(with_reducible first|refine ax (hb:=?_)|refine az (hK:=?_)|refine aV (hK:=fun b=>?_))|((with_reducible first|refine ai (fun h=>?_) (fun h=>?_)|refine ab (fun h=>?_) (fun h=>?_))<;>(try simp only [h])<;>(try simp only [bf,ba] at h)))
 ·refine nW (fun of:Option (Option (Nat × Nat))=>⟨(B5 o l::.any::.any::SI (some tk) out::I e::B j::I i::.raw (.pointer (some ⟨b,0,none⟩))::.any::.any::B5 o l::I l.length::I i::.any::.any::.any::.any::.any::.any::.any::.any::.any::.any::.any::.any::.any::.any::.any::.any::.any::.any::.any::.any::.any::.any::.any::.any::.any::.any::.any::.any::.any::.any::.any::.any::.any::.any::.any::.any::.any::.any::.any::.any::.any::.any::.any::.any::.any::.any::.any::.any::.any::.any::.any::.any::.any::.any::.any::.any::.any::.any::.any::.any::.any::.any::.any::.any::.any::.any::.any::[]),.obj b [SG of (qH (decide (0 < i)) (l.getD i ([],false)).1),B (l.getD i ([],false)).2]::.tip tk::σ,true,[]⟩) (fun _=>True) ?_ ?_
  ·
   repeat' (first|(with_reducible first|refine aG ?_|refine aw ?_)|simp only [WL,ay,WM,ne_eq,reduceCtorEq,not_false_eq_true,true_and,and_true,Tu]|with_reducible refine cD (UF ?_ (fun of=>?_))|((with_reducible first|refine ai (fun h=>?_) (fun h=>?_)|refine ab (fun h=>?_) (fun h=>?_))<;>(try simp only [h])<;>(try simp only [bf,ba] at h))|omega)
   ·exact ⟨of,aM bH (ResW.of_eq (by simp [qH,show 0 < i by omega])) id⟩
   ·exact ⟨none,aM bH (ResW.of_eq (by simp [qH,show ¬0 < i by omega])) id⟩
  ·intro of _
   refine nW (fun of:Option (Option (Nat × Nat))=>⟨(B5 o l::.any::.any::SI (some tk) out::I e::B j::I i::.raw (.pointer (some ⟨b,0,none⟩))::.any::.any::B5 o l::I l.length::I i::.any::.any::.any::.any::.any::.any::.any::.any::.any::.any::.any::.any::.any::.any::.any::.any::.any::.any::.any::.any::.any::.any::.any::.any::.any::.any::.any::.any::.any::.any::.any::.any::.any::.any::.any::.any::.any::.any::.any::.any::.any::.any::.any::.any::.any::.any::.any::.any::.any::.any::.any::.any::.any::.any::.any::.any::.any::.any::.any::.any::.any::.any::.any::.any::.any::.any::.any::[]),.obj b [SG of (pN i l.length (l.getD i ([],false))),B (l.getD i ([],false)).2]::.tip tk::σ,true,[]⟩) (fun _=>True) ?_ ?_
   ·
    repeat' (first|(with_reducible first|refine aG ?_|refine aw ?_)|simp only [WL,ay,WM,ne_eq,reduceCtorEq,not_false_eq_true,true_and,and_true,PC,SP]|simp (disch:=first|omega|(simp only [aU];omega)) only [an]|with_reducible refine cD (X0 ?_ (fun of=>?_))|((with_reducible first|refine ai (fun h=>?_) (fun h=>?_)|refine ab (fun h=>?_) (fun h=>?_))<;>(try simp only [h])<;>(try simp only [bf,ba] at h))|omega)
    ·exact ⟨of,aM bH (ResW.of_eq (by simp [pN,show i+1 < l.length by omega])) id⟩
    ·exact ⟨of,aM bH (ResW.of_eq (by simp [pN,rL,show ¬i+1 < l.length by omega])) id⟩
   ·intro of _
    have hsk:=fun h=>Da (n:=l.length) (i:=i) (j:=j) (e:=e) (l:=l) h rfl
    have htk:=fun h=>Ce (n:=l.length) (i:=i) (j:=j) (e:=e) (l:=l) (s:=if j=false∧e=0 then [32] else []) h rfl
    generalize hT:pN i l.length (l.getD i ([],false))=T at *;generalize hL:l.getD i ([],false)=L at *;obtain ⟨L1,L2⟩:=L;dsimp only at tl tg hsk htk ⊢;generalize hS:(if j=false∧e=0 then [(32:Int)] else [])=S at *;refine al ?_;refine nW (fun z:Bool=>⟨(B5 o l::.any::.any::SI (some tk) out::I e::B j::I i::.raw (.pointer (some ⟨b,0,none⟩))::.any::.any::B5 o l::I l.length::I i::.any::.any::.any::.any::.any::.any::.any::.any::.any::.any::.any::.any::.any::.any::.any::.any::.any::.any::.any::.any::.any::.any::.any::.any::.any::.any::.any::.any::.any::.any::.any::.any::B z::.any::.any::.any::.any::.any::.any::.any::.any::.any::.any::.any::.any::.any::.any::.any::.any::.any::.any::.any::.any::.any::.any::.any::.any::.any::.any::.any::.any::.any::.any::.any::.any::.any::.any::[]),.obj b [SG of T,B L2]::.tip tk::σ,true,[]⟩) (fun z=>z=true↔(T.length=0∧L2=false∧j=false∧i+1 < l.length)) ?_ ?_
    ·
     repeat' (first|with_reducible refine aB ?_|simp only [WL,ay,WM,reduceCtorEq,bg,Nat.reduceAdd,Nat.reduceEqDiff,Bool.not_true,true_and,reduceIte,Bool.false_eq_true,T4,PC,Ge,fR lV,fR nM]|simp (disch:=first|omega|(simp only [aU];omega)) only [an]|(with_reducible first|refine ax (hb:=?_)|refine au (hK:=?_))|((with_reducible first|refine ai (fun h=>?_) (fun h=>?_)|refine ab (fun h=>?_) (fun h=>?_))<;>(try simp only [h])<;>(try simp only [bf,ba] at h)))
     all_goals exact ⟨_,aM bH (ResW.refl _) id,by first|exact ⟨fun h9=>⟨by omega,by assumption,by assumption,by have:=of_decide_eq_true h9;omega⟩,fun h9=>decide_eq_true (by omega)⟩|exact ⟨fun _=>⟨by omega,by assumption,by assumption,by omega⟩,fun _=>by first|rfl|assumption|(simp;omega)⟩|exact ⟨fun h9=>(by cases h9),fun h9=>(by exfalso;obtain ⟨a1,a2,a3,a4⟩:=h9;first|omega|(simp_all;done))⟩⟩
    ·intro z hz
     repeat' (first|(with_reducible first|refine yq (id:=2) ?_|refine aB ?_|refine aw ?_)|simp only [WL,ay,WM,ne_eq,reduceCtorEq,not_false_eq_true]|simp (disch:=first|omega|(simp only [aU];omega)) only [an]|((with_reducible first|refine ai (fun h=>?_) (fun h=>?_)|refine ab (fun h=>?_) (fun h=>?_))<;>(try simp only [h])<;>(try simp only [bf,ba] at h)))
     ·have hz2:=hz.1 (by assumption)
      exact ⟨(i+1,out,e+1,j,tk),aM bH (ResW.sub (List.sublist_cons_self _ _)) id,⟨by dsimp only;omega,by dsimp only;rw [h2,hsk (by omega) hz2.1 hz2.2.1 hz2.2.2.1 hz2.2.2.2],by dsimp only;omega,fun e1=>by rw [hz2.2.2.1] at e1;cases e1⟩,by dsimp only;omega⟩
     have hz2:¬(T.length=0∧L2=false∧j=false∧i+1 < l.length):=fun e1=>by rw [hz.2 e1] at *;contradiction
     rw [htk (by omega) hz2 rfl] at h2;have ol2:=congrArg List.length h2
     simp only [List.length_append,List.length_replicate,List.length_map] at ol2;refine nW (fun tk:Option (Nat × Nat)=>⟨(B5 o l::.any::.any::SI (some tk) (out++S)::I e::B j::I i::.raw (.pointer (some ⟨b,0,none⟩))::.any::.any::B5 o l::I l.length::I i::.any::.any::.any::.any::.any::.any::.any::.any::.any::.any::.any::.any::.any::.any::.any::.any::.any::.any::.any::.any::.any::.any::.any::.any::.any::.any::.any::.any::.any::.any::.any::.any::.any::.any::.any::.any::.any::.any::.any::.any::.any::.any::.any::.any::.any::.any::.any::.any::.any::.any::.any::.any::.any::.any::.any::.any::.any::.any::.any::.any::.any::.any::.any::.any::.any::.any::.any::[]),.obj b [SG of T,B L2]::.tip tk::σ,true,[]⟩) (fun _=>True) ?_ ?_
     ·
      repeat' (first|(with_reducible first|refine aC ?_|refine aG ?_|refine aw ?_)|simp only [WL,ay,WM,reduceCtorEq,bg,Nat.reduceAdd,and_true]|(with_reducible first|refine cX (hlen:=?_) (hmax:=?_) (hK:=fun tk=>?_)|refine dp (hK:=?_))|((with_reducible first|refine ai (fun h=>?_) (fun h=>?_)|refine ab (fun h=>?_) (fun h=>?_))<;>(try simp only [h])<;>(try simp only [bf,ba] at h))|omega|(refine bq ?_;(first|omega|(simp only [aU];omega))))
      ·obtain rfl:S=[]:=by rw [← hS,if_neg (by simp [*])]
       exact ⟨tk,aM (by simp only [List.append_nil];exact bH) (ResW.refl _) id⟩
      ·obtain rfl:S=[32]:=by rw [← hS,if_pos ⟨by assumption,by omega⟩]
       exact ⟨tk,aM bH (ResW.refl _) id⟩
      ·obtain rfl:S=[]:=by rw [← hS,if_neg (by omega)]
       exact ⟨tk,aM (by simp only [List.append_nil];exact bH) (ResW.refl _) id⟩
     ·intro tk _
      repeat' (first|(with_reducible first|refine aC ?_|refine bO ?_|refine al (al ?_)|refine aB ?_)|simp only [WL,WM])
      refine dq (fun x:Nat × Option (Nat × Nat)=>⟨(B5 o l::.any::.any::SI (some x.2) (out++S++List.replicate x.1 10)::I e::B j::I i::.raw (.pointer (some ⟨b,0,none⟩))::.any::.any::B5 o l::I l.length::I i::.any::.any::.any::.any::.any::.any::.any::.any::.any::.any::.any::.any::.any::.any::.any::.any::.any::.any::.any::.any::.any::.any::.any::.any::.any::.any::.any::.any::.any::.any::.any::.any::.any::.any::.any::.any::.any::.any::.any::.any::.any::.any::.any::I e::I x.1::.any::.any::.any::.any::.any::.any::.any::.any::.any::.any::.any::.any::.any::.any::.any::.any::.any::.any::.any::.any::.any::.any::[]),.obj b [SG of T,B L2]::.tip x.2::σ,true,[]⟩) (fun x=>x.1≤e) (fun x=>e - x.1) (0,tk) (aM (by simp only [List.replicate_zero,List.append_nil];exact bH) (ResW.refl _) id) (Nat.zero_le _) ?_;rintro ⟨m,tk⟩ h9;dsimp only at h9 ⊢
      repeat' (first|(with_reducible first|refine al (aC ?_)|refine aC ?_|refine bO ?_|refine al (al ?_)|refine aG ?_|refine aB ?_)|simp only [WL,ay,WM,reduceCtorEq,bg,Nat.reduceAdd,Nat.reduceEqDiff,true_and,Ge,fR lV]|simp (disch:=first|omega|(simp only [aU];omega)) only [an]|(with_reducible first|refine ax (hb:=?_)|refine au (hK:=?_)|refine cX (hlen:=?_) (hmax:=?_) (hK:=fun tk=>?_)|refine dp (hK:=?_))|((with_reducible first|refine ai (fun h=>?_) (fun h=>?_)|refine ab (fun h=>?_) (fun h=>?_))<;>(try simp only [h])<;>(try simp only [bf,ba] at h))|(simp only [aU];omega)|(refine bq ?_;(first|omega|(simp only [aU];omega))))
      ·exact ⟨(m+1,tk),aM (by simp only [List.replicate_succ',← List.append_assoc];exact bH) (ResW.refl _) id,by dsimp only;omega,by dsimp only;omega⟩
      obtain rfl:m=e:=by omega
      refine dq (fun x:Nat × Option (Nat × Nat)=>⟨(B5 o l::.any::.any::SI (some x.2) (out++S++List.replicate m 10++(T.take x.1).map (·.1))::I m::B j::I i::.raw (.pointer (some ⟨b,0,none⟩))::.any::.any::B5 o l::I l.length::I i::.any::.any::.any::.any::.any::.any::.any::.any::.any::.any::.any::.any::.any::.any::.any::.any::.any::.any::.any::.any::.any::.any::.any::.any::.any::.any::.any::.any::.any::.any::.any::.any::.any::.any::.any::.any::.any::.any::.any::.any::.any::.any::.any::.any::.any::.any::.any::.any::.any::.any::.any::SG none T::I T.length::I x.1::.any::.any::.any::.any::.any::.any::.any::.any::.any::.any::.any::.any::.any::[]),.obj b [SG of T,B L2]::.tip x.2::σ,true,[]⟩) (fun x=>x.1≤T.length) (fun x=>T.length - x.1) (0,tk) (aM (by simp only [List.take_zero,List.map_nil,List.append_nil];exact bH) (ResW.refl _) id) (Nat.zero_le _) ?_;rintro ⟨k,tk⟩ h9;dsimp only at h9 ⊢
      repeat' (first|(with_reducible first|refine al (aC ?_)|refine aG ?_|refine aB ?_)|simp only [WL,ay,WM,reduceCtorEq,bg,Nat.reduceAdd,Nat.reduceEqDiff,true_and,T3,T4,Ge,Sj,fR nM,fR sv]|simp (disch:=first|omega|(simp only [aU];omega)) only [an,TU]|(with_reducible first|refine ax (hb:=?_)|refine au (hK:=?_)|refine az (hK:=?_)|refine aV (hK:=fun b=>?_)|refine cX (hlen:=?_) (hmax:=?_) (hK:=fun tk=>?_)|refine dp (hK:=?_))|((with_reducible first|refine ai (fun h=>?_) (fun h=>?_)|refine ab (fun h=>?_) (fun h=>?_))<;>(try simp only [h])<;>(try simp only [bf,ba] at h))|(simp only [aU];omega)|(refine bq ?_;(first|omega|(simp only [aU];omega))))
      ·exact ⟨(k+1,tk),aM (by dsimp only;rw [Bj (by omega)];exact bH) (ResW.sub (List.sublist_cons_self _ _)) id,by dsimp only;omega,by dsimp only;omega⟩
      ·exact ⟨(i+1,out++S++List.replicate m 10++T.map (·.1),0,L2,tk),aM (by dsimp only;rw [List.take_of_length_le (show T.length≤k by omega)];exact bH) (ResW.sub (List.sublist_cons_self _ _)) id,⟨by dsimp only;omega,by dsimp only;rw [h2];simp only [List.append_assoc],Nat.zero_le _,fun _=>rfl⟩,by dsimp only;omega⟩
 ·rw [List.drop_eq_nil_of_le (by omega)] at h2
  exact ak (ah ae) (eI (by rw [h2];simp only [kq,List.append_nil];exact le_ro)) hK
theorem HZ {l:List (List Int)} (hl:gm l≤100000000) (hK:K (.ret (.tup [SI none (kj l).1,I (kj l).2])) σ):ACallF κ Tryz.prog 173 [nB o l] σ K:=by
 have hlen:=gF l
 refine ACallF.dropL (aN Tryz.func173 rfl ?_);simp only [Tryz.ntmps173]
 repeat' (first|(with_reducible first|refine aC ?_|refine bO ?_|refine al (al ?_)|refine aG ?_|refine aB ?_)|simp only [WL,WM,Nat.reduceAdd,Nat.reduceSub,true_and,js])
 refine dq (fun x:Nat × List (List (Int × Bool) × Bool) × Option (Nat × Nat)=>⟨(nB o l::.any::.any::.any::B5 (some x.2.2) x.2.1::.any::.any::.any::.any::nB o l::I l.length::I x.1::.any::.any::.any::.any::.any::.any::.any::.any::.any::.any::.any::.any::.any::.any::.any::.any::.any::.any::.any::.any::.any::.any::.any::.any::[]),.tip x.2.2::σ,true,[]⟩)
  (fun x=>x.1≤l.length∧x.2.1.length=x.1∧(cS l).2=(cS (l.drop x.1)).2∧((cS (l.drop x.1)).2=0→(cS l).1=x.2.1++(cS (l.drop x.1)).1)) (fun x=>l.length - x.1) (0,[],none) (aM bH ResW.void id) ⟨Nat.zero_le _,rfl,rfl,fun _=>rfl⟩ ?_
 rintro ⟨i,acc,tk⟩ hx;dsimp only at hx ⊢;have h1:=hx.1
 have h2:=hx.2.1
 have h3:=hx.2.2.1
 have h4:=hx.2.2.2
 have tg:=pn (l:=l) i
 rcases Nat.lt_or_ge i l.length with hi|hi
 ·have hla:=O3 hi
  have hd:=gp hi
  rw [hd] at h3 h4;have hbad:=DQ (t:=l.getD i []) (r:=l.drop (i+1))
  have hok:=Gy (t:=l.getD i []) (r:=l.drop (i+1))
  rw [← hla] at hbad hok;generalize hX:dG ((i:Int)+1 == (l.length:Int)) (l.getD i [])=X at *
  repeat' (first|(with_reducible first|refine al (aC ?_)|refine al (al ?_)|refine aG ?_|refine aB ?_|refine aw ?_|refine aO ?_)|simp only [WL,ay,WM,reduceCtorEq,bg,Nat.reduceAdd,Nat.reduceLT,true_and,cb,js,LP,La,Tryz.results173,hX]|simp (disch:=first|omega|(simp only [aU];omega)) only [an,xK]|(with_reducible first|refine ax (hb:=?_)|refine aA (hK:=?_)|refine az (hK:=?_)|refine aV (hK:=fun b=>?_)|refine cX (hlen:=?_) (hmax:=?_) (hK:=fun tk=>?_)|refine dp (hK:=?_)|refine cD (Xw ?_ ?_)|refine cD (Eo ?_ ?_))|((with_reducible first|refine ai (fun h=>?_) (fun h=>?_)|refine ab (fun h=>?_) (fun h=>?_))<;>(try simp only [h])<;>(try simp only [bf,ba] at h))|omega|(refine bq ?_;(first|omega|(simp only [aU];omega))))
  ·rw [F8 (h3.trans (by rw [hbad (by assumption)])) (by assumption)] at hK
   exact ak (ah (ah ae)) (iA (fF (fg (by decide)) le_rfl)) hK
  ·obtain ⟨k1,k2⟩:=hok (by assumption)
   exact ⟨(i+1,acc++[(X.1,X.2.1)],tk),aM bH (ResW.sub (List.sublist_cons_self _ _)) id,⟨by dsimp only;omega,by simp [h2],h3.trans k1,fun h9=>by dsimp only at h9 ⊢;rw [h4 (by rw [k1];exact h9),k2 h9];simp⟩,by dsimp only;omega⟩
 ·rw [List.drop_eq_nil_of_le hi] at h3 h4
  have hr:=L5 h3
  have ha:=h4 rfl
  have ht:=oS l
  simp only [cS,List.append_nil] at ha;rw [ha] at hr ht
  repeat' (first|(with_reducible first|refine al (aC ?_)|refine aG ?_|refine aO ?_)|simp only [WL,ay,WM,ne_eq,reduceCtorEq,not_false_eq_true,true_and,cb,js,LP,La,Tryz.results173]|simp (disch:=first|omega|(simp only [aU];omega)) only [an]|(with_reducible first|refine ax (hb:=?_)|refine cD (Eo ?_ ?_))|((with_reducible first|refine ai (fun h=>?_) (fun h=>?_)|refine ab (fun h=>?_) (fun h=>?_))<;>(try simp only [h])<;>(try simp only [bf,ba] at h))|omega)
  exact ak (ah ae) (aj (by rw [hr])) hK
end Go.Proofs.YthkabaiamcjdbaaGreat
