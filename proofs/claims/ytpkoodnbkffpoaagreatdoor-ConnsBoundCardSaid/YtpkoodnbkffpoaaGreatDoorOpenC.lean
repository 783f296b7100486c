/- Parameters that are slices of bytes, and a byte, opened. -/
import Derived.Test.YtpkoodnbkffpoaaGreatDoorConnOldL
set_option linter.unusedVariables false
set_option linter.unusedSimpArgs false
set_option maxHeartbeats 16000000
namespace Go.Proofs.YtpkoodnbkffpoaaGreatDoor
open Go.RowKit Go.WideShapes Go.ChangeShapes
section
variable {H:Type} {enc:TypeId×Value→H} {P:Program}
theorem open_u8s {W:World} {t e:TypeId} {v:Value} {d:DataW H} {p:List MemPlace} (ht:P.underlying t=some (.slice e)) (he:P.underlying e=some (.int .u8)) (hc:P.cellsOf e=1)
 (hv:∃a n c,v= .slice a n c) (h:DataW.Trod enc P W 0 (fun _=>true) true t v d p):∃L:List Int,RowS 1 encU W v L∧∀x∈L,0≤x∧x≤255:=by
 obtain⟨ad,n0,c0,rfl⟩:=hv
 obtain⟨fuel,hf⟩:=h
 rcases open_ints ht he hc hf with ⟨hcs,hx⟩|⟨a,len,cap,zs,hcs,_,hl,hm,hz,hx,hcell,hwf⟩
 ·simp[Value.cells]at hcs
  obtain⟨rfl,rfl,rfl⟩:=hcs;exact⟨[], .inl ⟨rfl,rfl⟩,by simp⟩
 ·simp[Value.cells]at hcs
  obtain⟨rfl,rfl,rfl⟩:=hcs;simp only[if_true]at hz;have hll:(zs.take n0).length=n0:=by simp;omega
  refine⟨zs.take n0, .inr ⟨a,c0,by rw[hll],by rw[hll];exact hl,fun h0=> ?_,fun k hk j u hj=> ?_⟩,fun x hx=> ?_⟩
  ·rw[hll]at h0
   have:=hcell 0 (by omega);have:=World.block_lt_of_cell? _ _ this;rwa[block_add]at this
  ·rw[hll]at hk
   obtain rfl:j=0:=by
    have:=(List.getElem?_eq_some_iff.1 hj).1;simp[encU]at this;omega
   have hu:u= .int .u8 (zs[k]'(by omega)):=by
    simp[encU]at hj;exact hj.symm
   rw[Nat.mul_one,Nat.add_zero,hcell k (by omega),List.getD_eq_getElem?_getD,List.getElem?_eq_getElem (by omega),hu];rfl
  ·have:=hwf x (List.mem_of_mem_take hx)
   simp[Lit.wf,IntKind.min,IntKind.max,IntKind.signed,IntKind.bits]at this;omega
end
end Go.Proofs.YtpkoodnbkffpoaaGreatDoor
