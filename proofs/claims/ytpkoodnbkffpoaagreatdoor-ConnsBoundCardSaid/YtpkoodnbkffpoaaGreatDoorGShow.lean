/- What is shown of a part of a host's name, plain; what a part that may be asked for is. -/
import Derived.Test.YtpkoodnbkffpoaaGreatDoorGLab
set_option linter.unusedVariables false
set_option linter.unusedSimpArgs false
set_option maxHeartbeats 16000000
namespace Go.Proofs.YtpkoodnbkffpoaaGreatDoor
open Go.RowKit
theorem low_plain (c:UInt8):(lowB c).toNat<128↔c.toNat<128:=by
 rw[lowB_nat];unfold lowN;split<;>omega
theorem plain_lower (s:List UInt8):plainL (lowerL s)=plainL s:=by
 unfold plainL lowerL;rw[List.all_map];congr 1
 funext c
 rw[Bool.eq_iff_iff];simp[low_plain]
theorem labelL_zero {s:List UInt8} (h:(labelL s).2=0):s≠[]∧Lib.validD s=true∧
 ((plainL s=false∧(encodeL (lowerL s)).2=0∧labelL s=(fewB++(encodeL (lowerL s)).1,0)∧(fewB++(encodeL (lowerL s)).1).length≤63)∨
  (plainL s=true∧fewL (lowerL s)=true∧(decode ((lowerL s).drop 4)).2=0∧plainL (decode ((lowerL s).drop 4)).1=false∧(encodeL (decode ((lowerL s).drop 4)).1).1=(lowerL s).drop 4∧labelL s=(lowerL s,0)∧s.length≤63)∨
  (plainL s=true∧fewL (lowerL s)=false∧labelL s=(lowerL s,0)∧s.length≤63)):=by
 have hfin:∀ {u},(finL u).2=0→finL u=(u,0)∧u.length≤63:=fun {u} h=>by
  unfold finL at h⊢;split
  ·rename_i c;rw[if_pos c]at h;cases h
  ·exact⟨rfl,by omega⟩
 have hul:(lowerL s).length=s.length:=by simp[lowerL]
 by_cases h0:s=[]∨Lib.validD s=false
 ·unfold labelL at h;rw[if_pos h0]at h;cases h
 have h1:s≠[]:=fun h=>h0 (.inl h)
 have hv:Lib.validD s=true:=by cases h:Lib.validD s with|true=>rfl|false=>exact absurd (.inr h) h0
 refine⟨h1,hv, ?_⟩
 rw[labelL_else h1 hv,plain_lower]at h⊢
 by_cases hp:plainL s=false
 ·rw[if_pos hp]at h⊢
  by_cases he:(encodeL (lowerL s)).2≠0
  ·rw[if_pos he]at h;cases h
  ·rw[if_neg he]at h⊢
   exact .inl ⟨hp,by omega,(hfin h).1,(hfin h).2⟩
 ·rw[if_neg hp]at h⊢
  have hp':plainL s=true:=by simpa using hp
  by_cases hf:fewL (lowerL s)=true
  ·rw[if_pos hf]at h⊢
   by_cases hd:(decode ((lowerL s).drop 4)).2≠0∨plainL (decode ((lowerL s).drop 4)).1=true
   ·rw[if_pos hd]at h;cases h
   ·rw[if_neg hd]at h⊢
    by_cases he:(encodeL (decode ((lowerL s).drop 4)).1).1≠(lowerL s).drop 4
    ·rw[if_pos he]at h;cases h
    ·rw[if_neg he]at h⊢
     obtain⟨a,b⟩:=hfin h;refine .inr (.inl ⟨hp',hf, ?_, ?_,Classical.byContradiction he,a,by omega⟩)
     ·exact Classical.byContradiction fun h=>hd (.inl h)
     ·cases h:plainL (decode ((lowerL s).drop 4)).1 with|false=>rfl|true=>exact absurd (.inr h) hd
  ·rw[if_neg hf]at h⊢
   obtain⟨a,b⟩:=hfin h;exact .inr (.inr ⟨hp',by simpa using hf,a,by omega⟩)
theorem labelL_err {s:List UInt8} (h:(labelL s).2≠0):labelL s=([],5):=by
 have hfin:∀ {u},(finL u).2≠0→finL u=([],5):=fun {u} h=>by
  unfold finL at h⊢;split
  ·rfl
  ·rename_i c;rw[if_neg c]at h;exact absurd rfl h
 unfold labelL at h⊢
 repeat' split
 all_goals first|rfl|(simp_all;done)|skip
 all_goals(simp only[*,if_true,if_false]at h;exact hfin (by simpa using h))
end Go.Proofs.YtpkoodnbkffpoaaGreatDoor
