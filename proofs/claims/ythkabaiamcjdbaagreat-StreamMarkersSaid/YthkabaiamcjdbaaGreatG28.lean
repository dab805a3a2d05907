/-
  Texts Id, one behind the other.
-/
import Derived.Test.YthkabaiamcjdbaaGreatG27
set_option linter.unusedVariables false
set_option linter.unusedSimpArgs false
set_option maxHeartbeats 16000000
/-
 Walks: chapter 1,the form of texts of small bytes.
-/

namespace Go.Proofs.YthkabaiamcjdbaaGreat
open Go.Abs
variable {κ:Ctx} {σ:List Res} {K:Ret→List Res→Prop} {o o':Option (Option (Nat × Nat))}
theorem Qf {b:List Int} (hb:Asc b) (h3:3 < b.length) (hK:K (.ret (.tup [I 1,I 0])) σ):ACallF κ Tryz.prog 36 [SU o b] σ K:=by
 have hbl:=hb.1
 have z:∀ k,k < b.length→(b.getD k 0 == 0)=false∧(b.getD k 0 != 0)=true:=fun k h=>by
  have:=hb.at_ h
  have e:(b.getD k 0 == 0)=false:=beq_eq_false_iff_ne.2 (by omega)
  exact ⟨e,by unfold bne;rw [e];rfl⟩
 obtain ⟨x0,y0⟩:=z 0 (by omega)
 obtain ⟨x1,y1⟩:=z 1 (by omega)
 refine ACallF.dropL (aa Tryz.func36 rfl ?_)
 simp only [Tryz.ntmps36]
 repeat' (first|simp only [WL,aD,WM,Int.reduceToNat,reduceCtorEq,ba,Nat.reduceAdd,Nat.reduceSub,Bool.not_true,true_and,reduceIte,Bool.false_eq_true,T5,BC,Gb,Tryz.results36,x0,y0,x1]|simp (disch:=first|omega|(simp only [aT];omega)) only [D3]|(with_reducible first|refine aC (hb:=?_)|refine cF (hK:=?_))|( refine callD_mk (ACallF.argsS (ys:=[SU o b,SU none [0,0,254,255]]) ⟨cr,dF le_ro,trivial⟩ (iQ hb (by decide) (by decide) ?_)))|( refine callD_mk (ACallF.argsS (ys:=[SU o b,SU none [255,254,0,0]]) ⟨cr,dF le_ro,trivial⟩ (iQ hb (by decide) (by decide) ?_)))|( refine callD_mk (ACallF.argsS (ys:=[SU o b,SU none [254,255]]) ⟨cr,dF le_ro,trivial⟩ (iQ hb (by decide) (by decide) ?_)))|( refine callD_mk (ACallF.argsS (ys:=[SU o b,SU none [255,254]]) ⟨cr,dF le_ro,trivial⟩ (iQ hb (by decide) (by decide) ?_)))|( refine callD_mk (ACallF.argsS (ys:=[SU o b,SU none [239,187,191]]) ⟨cr,dF le_ro,trivial⟩ (iQ hb (by decide) (by decide) ?_)))|((with_reducible first|refine ai (fun h=>?_) (fun h=>?_)|refine ab (fun h=>?_) (fun h=>?_))<;>(try simp only [h])<;>(try simp only [bg,bm] at h))|omega)
 all_goals first
  | exact ak ah (aj rfl) hK
  | (exfalso;omega)
end Go.Proofs.YthkabaiamcjdbaaGreat
