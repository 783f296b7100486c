/- Parameters opened: texts in a slice. -/
import Derived.Test.YtlcnknlmdaochaaGreatDoorSupB
import Derived.Test.YtlcnknlmdaochaaGreatDoorGOpen
set_option linter.unusedVariables false
set_option linter.unusedSimpArgs false
set_option maxHeartbeats 16000000
namespace Go.Proofs.YtlcnknlmdaochaaGreatDoor
open Go.RowKit Go.WideShapes Go.ChangeShapes
section
variable {H:Type} {enc:TypeId×Value→H} {P:Program}
theorem open_txt {W:World} {t e:TypeId} {v:Value} {d:DataW H} {p:List MemPlace} (ht:P.underlying t=some (.slice e)) (he:P.underlying e=some .string) (hc:P.cellsOf e=1) (hbe:P.bytesOf e=16)
 (hv:∃a n c,v= .slice a n c) (h:DataW.Trod enc P W 0 (fun _=>true) true t v d p) (hw:∀n∈d.weights P t,n≤140737488351232):
 ∃L,Txt W v L∧L.length≤140737488351232∧∀q∈L,q.length≤140737488351232:=by
 obtain⟨ad,n0,c0,rfl⟩:=hv
 obtain⟨fuel,hf⟩:=h
 rcases open_strings ht he hc hf with ⟨hcs,hx⟩|⟨a,len,cap,ss,hcs,_,hl,hm,hz,hx,hcell,hsz⟩
 ·simp[Value.cells]at hcs
  obtain⟨rfl,rfl,rfl⟩:=hcs;exact⟨[], .inl ⟨rfl,rfl⟩,by simp,by simp⟩
 ·simp[Value.cells]at hcs
  obtain⟨rfl,rfl,rfl⟩:=hcs;simp only[Prod.mk.injEq]at hx;obtain⟨rfl,rfl⟩:=hx;simp only[if_true]at hz;have hll:((ss.take n0).map fun s=>s.data.toList).length=n0:=by simp;omega
  have hw1:(n0+(ss.length-n0))*16≤140737488351232:=by
   refine hw _ ?_;simp only[DataW.weights,ht,hbe];refine List.mem_cons.2 (.inl ?_);simp[Go.ChangeShapes.strs];omega
  refine⟨(ss.take n0).map fun s=>s.data.toList, .inr ⟨a,c0,by rw[hll],by omega,fun h0=> ?_,fun k hk=> ?_⟩,by omega,fun q hq=> ?_⟩
  ·have:=hcell 0 (by omega)
   have:=World.block_lt_of_cell? _ _ this;rwa[block_add]at this
  ·rw[hll]at hk
   rw[hcell k (by omega)];congr 2;rw[List.getElem_map,List.getElem_take,List.getD_eq_getElem?_getD,List.getElem?_eq_getElem (by omega)];exact(Lib.mk_data _).symm
  ·obtain⟨s,hs,rfl⟩:=List.mem_map.1 hq
   refine hw _ ?_;simp only[DataW.weights,ht];refine List.mem_cons.2 (.inr (List.mem_append_left _ (weightsAll_mem (d:= .lit (.string s.data.toList)) ?_ (by simp[DataW.weights]))));exact List.mem_map.2 ⟨s,hs,rfl⟩
end
end Go.Proofs.YtlcnknlmdaochaaGreatDoor
namespace Go.Proofs.YtlcnknlmdaochaaGreatDoor
open Go.RowKit Go.WideShapes Go.ChangeShapes
section
variable {H:Type} {enc:TypeId×Value→H} {P:Program}
theorem open_three {W:World} {t e:TypeId} {v:Value} {d:DataW H} {p:List MemPlace} {r:Reach} {b0:Nat} (ht:P.underlying t=some (.array 3 e)) (he:P.underlying e=some .string) (hc:P.cellsOf e=1) (hct:P.cellsOf t=3)
 (hval:Value.okWide P W r b0 t v) (h:DataW.Trod enc P W 0 (fun _=>true) true t v d p) (hw:∀n∈d.weights P t,n≤140737488351232):
 ∃a b c:List UInt8,v= .agg #[.string ⟨a.toArray⟩, .string ⟨b.toArray⟩, .string ⟨c.toArray⟩]∧a.length≤140737488351232∧b.length≤140737488351232∧c.length≤140737488351232:=by
 unfold Value.okWide at hval
 rw[ht]at hval
 obtain⟨cs,rfl,hsz,_⟩:=hval
 obtain⟨fuel,hf⟩:=h
 obtain⟨xs⟩:=cs
 simp only[Value.cells]at hf
 have hl:xs.length=3:=by rw[hct]at hsz;simpa using hsz
 match xs,hl with
 |[c0,c1,c2],_=>
  obtain⟨y0,y1,y2,n,hx,g0,g1,g2⟩:=trod_array3 ht hc hf;obtain⟨s0,e0,x0,_⟩:=DataW.trod_string he g0;obtain⟨s1,e1,x1,_⟩:=DataW.trod_string he g1;obtain⟨s2,e2,x2,_⟩:=DataW.trod_string he g2;simp only[List.cons.injEq,and_true]at e0 e1 e2;subst e0 e1 e2 x0 x1 x2;have hd:=congrArg Prod.fst hx;simp only at hd;subst hd;have hwt:∀s:ByteArray,s=s0∨s=s1∨s=s2→s.data.toList.length≤140737488351232:=fun s hs=>by
   refine hw _ ?_;simp only[DataW.weights,ht,DataW.weightsAll,List.mem_append,List.mem_singleton];rcases hs with rfl|rfl|rfl<;>simp
  exact⟨s0.data.toList,s1.data.toList,s2.data.toList,rfl,hwt _ (.inl rfl),hwt _ (.inr (.inl rfl)),hwt _ (.inr (.inr rfl))⟩
end
end Go.Proofs.YtlcnknlmdaochaaGreatDoor
