/- Parameters opened: all of them read as before, from 'Below' alone. -/
import Derived.Test.YtlcnknlmdaochaaGreatDoorGUrl0
import Derived.Lib.SmallJoins
set_option linter.unusedVariables false
set_option linter.unusedSimpArgs false
set_option maxHeartbeats 16000000
namespace Go.Proofs.YtlcnknlmdaochaaGreatDoor
open Go.RowKit Go.WideShapes Go.ChangeShapes
section
variable {H:Type} {enc:TypeId×Value→H} {P:Program}
theorem trodAll_stays (hl:laidOutB P=true) {W W':World} {sp':Nat→Bool}:∀ {ts:List TypeId} {vs:List Value} {ds:List (DataW H)} {ps:List MemPlace},(∀t∈ts,P.readableRec t=true∧t<P.types.size)→
 DataW.TrodAll enc P W 0 (fun _=>true) true ts vs ds ps→(∀p∈ps,W.sameAt W' p)→(∀p∈ps,sp' p.block=true)→DataW.TrodAll enc P W' 0 sp' true ts vs ds ps
 |[],[],[],_,_,h,_,_=>h
 |_::_,_::_,_::_,_,hT,⟨p,q,h1,h2,e⟩,hw,hs=>⟨p,q,WideElems.Trod_stays hl (hT _ (List.mem_cons.2 (Or.inl rfl))).1 (hT _ (List.mem_cons.2 (Or.inl rfl))).2 h1 (fun x hx=>hw x (by rw[e];exact List.mem_append_left _ hx)) (fun x hx=>hs x (by rw[e];exact List.mem_append_left _ hx)),
  trodAll_stays hl (fun t ht=>hT t (List.mem_cons.2 (Or.inr ht))) h2 (fun x hx=>hw x (by rw[e];exact List.mem_append_right _ hx)) (fun x hx=>hs x (by rw[e];exact List.mem_append_right _ hx)),e⟩
theorem weights_one {ts:List TypeId} {ds:List (DataW H)} (h:(DataW.weightsEach P ts ds).all (·≤reachBytes)=true) {j:Nat} {t:TypeId} {d:DataW H} (ht:ts[j]?=some t) (hd:ds[j]?=some d):∀n∈d.weights P t,n≤140737488351232:=fun n hn=>by
 have:=List.all_eq_true.1 h _ (DataW.weights_mem_each ht hd n hn);exact of_decide_eq_true this
theorem weightsAll_mem {e:TypeId}:∀ {l:List (DataW H)} {d:DataW H} {n:Nat},d∈l→n∈d.weights P e→n∈DataW.weightsAll P e l
 |[],_,_,h,_=>by simp at h
 |x::l,d,n,h,hn=>by
  unfold DataW.weightsAll;rcases List.mem_cons.1 h with rfl|h
  ·exact List.mem_append_left _ hn
  ·exact List.mem_append_right _ (weightsAll_mem h hn)
end
end Go.Proofs.YtlcnknlmdaochaaGreatDoor
namespace Go.Proofs.YtlcnknlmdaochaaGreatDoor
open Go.RowKit Go.WideShapes Go.ChangeShapes Go.Deep
theorem array10 {α:Type} {cs:Array α} (h:cs.size=10):∃c0 c1 c2 c3 c4 c5 c6 c7 c8 c9,cs= #[c0,c1,c2,c3,c4,c5,c6,c7,c8,c9]:=by
 obtain⟨l⟩:=cs
 match l,h with
 |[c0,c1,c2,c3,c4,c5,c6,c7,c8,c9],_=>exact⟨c0,c1,c2,c3,c4,c5,c6,c7,c8,c9,rfl⟩
structure SizedU (u:UrlL):Prop where
 scheme:u.scheme.length≤140737488351232
 user:u.user.length≤140737488351232
 pass:u.pass.length≤140737488351232
 host:u.host.length≤140737488351232
 path:u.path.length≤140737488351232
 query:u.query.length≤140737488351232
 mark:u.mark.length≤140737488351232
 low: -9223372036854775808≤u.port
 high:u.port≤9223372036854775807
section
variable {H:Type} {enc:TypeId×Value→H} {P:Program}
theorem open_url {W:World} {t:TypeId} {f0 f1 f2 f3 f4 f5 f6 f7 f8 f9:Field} {v:Value} {d:DataW H} {p:List MemPlace} {r:Reach} {b0:Nat}
 (hs:P.underlying t=some (.struct #[f0,f1,f2,f3,f4,f5,f6,f7,f8,f9])) (hone:oneCellFields P #[f0,f1,f2,f3,f4,f5,f6,f7,f8,f9]=true) (hC:P.cellsOf t=10)
 (k0:P.underlying f0.type=some .string) (k1:P.underlying f1.type=some .string) (k2:P.underlying f2.type=some .string) (k3:P.underlying f3.type=some .string)
 (k4:P.underlying f4.type=some (.int .i64)) (k5:P.underlying f5.type=some .string) (k6:P.underlying f6.type=some .string) (k7:P.underlying f7.type=some .bool)
 (k8:P.underlying f8.type=some .string) (k9:P.underlying f9.type=some .bool)
 (hv:Value.okWide P W r b0 t v) (h:DataW.Trod enc P W 0 (fun _=>true) true t v d p) (hw:∀n∈d.weights P t,n≤140737488351232):
 ∃u:UrlL,v=urlV u∧SizedU u:=by
 obtain⟨cs,rfl,hsz⟩:=okWide_struct hs hv
 obtain⟨c0,c1,c2,c3,c4,c5,c6,c7,c8,c9,rfl⟩:=array10 (hsz.trans hC)
 obtain⟨fuel,hf⟩:=h
 obtain⟨xs,n,_,hx,hl,hlen,hfi⟩:=DataW.trod_struct hs hf
 have hg:∀(i:Nat) (f:Field), #[f0,f1,f2,f3,f4,f5,f6,f7,f8,f9][i]?=some f→∀c,[c0,c1,c2,c3,c4,c5,c6,c7,c8,c9][i]?=some c→DataW.trod enc P W 0 (fun _=>true) true n f.type [c]=xs[i]?:=fun i f hi c hc=>by
  obtain⟨o,k⟩:=hone_of hone i f hi;rw[←hfi i f hi,o,k];congr 1;have hlt:=(List.getElem?_eq_some_iff.1 hc).1;show [c]=List.take 1 (List.drop i [c0,c1,c2,c3,c4,c5,c6,c7,c8,c9]);rw[List.drop_eq_getElem_cons hlt,(List.getElem?_eq_some_iff.1 hc).2];rfl
 match xs,hlen with
 |[y0,y1,y2,y3,y4,y5,y6,y7,y8,y9],_=>
  obtain⟨s0,e0,x0,_⟩:=DataW.trod_string k0 (hg 0 f0 rfl c0 rfl);obtain⟨s1,e1,x1,_⟩:=DataW.trod_string k1 (hg 1 f1 rfl c1 rfl);obtain⟨s2,e2,x2,_⟩:=DataW.trod_string k2 (hg 2 f2 rfl c2 rfl);obtain⟨s3,e3,x3,_⟩:=DataW.trod_string k3 (hg 3 f3 rfl c3 rfl);obtain⟨n4,e4,x4,w4⟩:=DataW.trod_int k4 (hg 4 f4 rfl c4 rfl);obtain⟨s5,e5,x5,_⟩:=DataW.trod_string k5 (hg 5 f5 rfl c5 rfl);obtain⟨s6,e6,x6,_⟩:=DataW.trod_string k6 (hg 6 f6 rfl c6 rfl);obtain⟨b7,e7,x7⟩:=DataW.trod_bool k7 (hg 7 f7 rfl c7 rfl);obtain⟨s8,e8,x8,_⟩:=DataW.trod_string k8 (hg 8 f8 rfl c8 rfl);obtain⟨b9,e9,x9⟩:=DataW.trod_bool k9 (hg 9 f9 rfl c9 rfl);injection e0 with e0;injection e1 with e1;injection e2 with e2;injection e3 with e3;injection e4 with e4;injection e5 with e5;injection e6 with e6;injection e7 with e7;injection e8 with e8;injection e9 with e9;subst e0;subst e1;subst e2;subst e3;subst e4;subst e5;subst e6;subst e7;subst e8;subst e9;subst x0;subst x1;subst x2;subst x3;subst x4;subst x5;subst x6;subst x7;subst x8;subst x9;simp only[Prod.mk.injEq]at hx;rw[hx.1]at hw;simp[DataW.weights,hs,DataW.weightsEach]at hw;have hb: -9223372036854775808≤n4∧n4≤9223372036854775807:=by
   simp[Lit.wf,IntKind.min,IntKind.max,IntKind.signed,IntKind.bits]at w4;omega
  obtain⟨h0,h1,h2,h3,h5,h6,h8⟩:=hw;exact⟨⟨s0.data.toList,s1.data.toList,s2.data.toList,s3.data.toList,n4,s5.data.toList,s6.data.toList,b7,s8.data.toList,b9⟩,by simp only[urlV,Lib.mk_data],by simpa using h0,by simpa using h1,by simpa using h2,by simpa using h3,by simpa using h5,by simpa using h6,by simpa using h8,hb.1,hb.2⟩
theorem open_wide {W:World} {t e:TypeId} {v:Value} {d:DataW H} {p:List MemPlace} {r:Reach} {b0:Nat} (ht:P.underlying t=some (.array 4 e)) (he:P.underlying e=some (.int .u16)) (hc:P.cellsOf e=1) (hct:P.cellsOf t=4)
 (hval:Value.okWide P W r b0 t v) (h:DataW.Trod enc P W 0 (fun _=>true) true t v d p):
 ∃x0 x1 x2 x3:Nat,v= .agg #[.int .u16 (x0:Int), .int .u16 (x1:Int), .int .u16 (x2:Int), .int .u16 (x3:Int)]∧x0≤65535∧x1≤65535∧x2≤65535∧x3≤65535:=by
 have two:∀ {fuel:Nat} {c:Value} {x:DataW H×List MemPlace},DataW.trod enc P W 0 (fun _=>true) true fuel e [c]=some x→∃u:Nat,c= .int .u16 (u:Int)∧u≤65535:=fun {fuel c x} hx=>by
  obtain⟨n,h1,_,h3⟩:=DataW.trod_int he hx;have hb:0≤n∧n≤65535:=by
   simp[Lit.wf,IntKind.min,IntKind.max,IntKind.signed,IntKind.bits]at h3;omega
  refine⟨n.toNat, ?_,by omega⟩;rw[Int.toNat_of_nonneg hb.1];simpa using h1
 unfold Value.okWide at hval
 rw[ht]at hval
 obtain⟨cs,rfl,hsz,_⟩:=hval
 obtain⟨fuel,hf⟩:=h
 obtain⟨xs⟩:=cs
 simp only[Value.cells]at hf
 have hl:xs.length=4:=by rw[hct]at hsz;simpa using hsz
 match xs,hl with
 |[c0,c1,c2,c3],_=>
  obtain⟨y0,y1,y2,y3,n,_,g0,g1,g2,g3⟩:=trod_array4 ht hc hf;obtain⟨x0,rfl,h0⟩:=two g0;obtain⟨x1,rfl,h1⟩:=two g1;obtain⟨x2,rfl,h2⟩:=two g2;obtain⟨x3,rfl,h3⟩:=two g3;exact⟨x0,x1,x2,x3,rfl,h0,h1,h2,h3⟩
end
end Go.Proofs.YtlcnknlmdaochaaGreatDoor
