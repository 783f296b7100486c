/- Parameters opened: all of them read as before, from 'Below' alone. -/
import Derived.Test.YtjkipdoebkhkaaaGreatDoorGRow
import Derived.Test.YtjkipdoebkhkaaaGreatDoorGUrl1
set_option linter.unusedVariables false
set_option linter.unusedSimpArgs false
set_option maxHeartbeats 16000000
namespace Go.Proofs.YtjkipdoebkhkaaaGreatDoor
open Go.RowKit Go.WideShapes Go.ChangeShapes
section
variable {H:Type} {enc:TypeId×Value→H} {P:Program}
theorem trodAll_stays (hl:laidOutB P=true) {W W':World} {sp':Nat→Bool}:∀ {ts:List TypeId} {vs:List Value} {ds:List (DataW H)} {ps:List MemPlace},(∀t∈ts,P.readableRec t=true∧t<P.types.size)→
 DataW.TrodAll enc P W 0 (fun _=>true) true ts vs ds ps→(∀p∈ps,W.sameAt W' p)→(∀p∈ps,sp' p.block=true)→DataW.TrodAll enc P W' 0 sp' true ts vs ds ps
 |[],[],[],_,_,h,_,_=>h
 |_::_,_::_,_::_,_,hT,⟨p,q,h1,h2,e⟩,hw,hs=>⟨p,q,WideElems.Trod_stays hl (hT _ (List.mem_cons.2 (Or.inl rfl))).1 (hT _ (List.mem_cons.2 (Or.inl rfl))).2 h1 (fun x hx=>hw x (by rw[e];exact List.mem_append_left _ hx)) (fun x hx=>hs x (by rw[e];exact List.mem_append_left _ hx)),
  trodAll_stays hl (fun t ht=>hT t (List.mem_cons.2 (Or.inr ht))) h2 (fun x hx=>hw x (by rw[e];exact List.mem_append_right _ hx)) (fun x hx=>hs x (by rw[e];exact List.mem_append_right _ hx)),e⟩
theorem weights_one {ts:List TypeId} {ds:List (DataW H)} (h:(DataW.weightsEach P ts ds).all (·≤reachBytes)=true) {j:Nat} {t:TypeId} {d:DataW H} (ht:ts[j]?=some t) (hd:ds[j]?=some d):∀n∈d.weights P t,n≤140737488351232:=fun n hn=>by
 have:=List.all_eq_true.1 h _ (DataW.weights_mem_each ht hd n hn);exact of_decide_eq_true this
theorem weightsAll_mem {e:TypeId}:∀ {l:List (DataW H)} {d:DataW H} {n:Nat},d∈l→n∈d.weights P e→n∈DataW.weightsAll P e l
 |[],_,_,h,_=>by simp at h
 |x::l,d,n,h,hn=>by
  unfold DataW.weightsAll;rcases List.mem_cons.1 h with rfl|h
  ·exact List.mem_append_left _ hn
  ·exact List.mem_append_right _ (weightsAll_mem h hn)
end
end Go.Proofs.YtjkipdoebkhkaaaGreatDoor
namespace Go.Proofs.YtjkipdoebkhkaaaGreatDoor
open Go.RowKit Go.WideShapes Go.ChangeShapes
section
variable {H:Type} {enc:TypeId×Value→H} {P:Program} {W:World} {K:Nat}
structure Fits (P:Program) (K:Nat) (t:TypeId) (d:DataW H):Prop where
 each:∀n∈d.weights P t,n≤140737488351232
 all:Rows.uptoBulk d≤K
def Opens (enc:TypeId×Value→H) (P:Program) (W:World) (K:Nat) (t:TypeId) (R:List Value→Prop):Prop:=
 ∀(fuel:Nat) (cs:List Value) (x:DataW H×List MemPlace),DataW.trod enc P W 0 (fun _=>true) true fuel t cs=some x→Fits P K t x.1→R cs
theorem Opens.mono {t:TypeId} {R S:List Value→Prop} (h:Opens enc P W K t R) (k:∀cs,R cs→S cs):Opens enc P W K t S:=fun f cs x hx hw=>k _ (h f cs x hx hw)
theorem bulk_mem {d:DataW H}:∀ {l:List (DataW H)},d∈l→Rows.uptoBulk d≤Rows.uptoBulkAll l
 |x::l,h=>by
  unfold Rows.uptoBulkAll;rcases List.mem_cons.1 h with rfl|h
  ·exact Nat.le_add_right _ _
  ·exact Nat.le_trans (bulk_mem h) (Nat.le_add_left _ _)
theorem bulk_len:∀(l:List (DataW H)),l.length≤Rows.uptoBulkAll l
 |[]=>Nat.zero_le _
 |x::l=>by
  have h1:1≤Rows.uptoBulk x:=by
   cases x with
   |lit l=>cases l<;>simp[Rows.uptoBulk]
   |_=>simp[Rows.uptoBulk]
  have:=bulk_len l;unfold Rows.uptoBulkAll;rw[List.length_cons];omega
def StrR (K:Nat) (cs:List Value):Prop:=∃s:List UInt8,cs=[.string ⟨s.toArray⟩]∧s.length≤140737488351232∧s.length≤K
def BoolR (cs:List Value):Prop:=∃b:Bool,cs=[.bool b]
def IntR (k:IntKind) (cs:List Value):Prop:=∃n:Int,cs=[.int k n]∧(Lit.int k n).wf=true
theorem i64_wf {n:Int} (h:(Lit.int .i64 n).wf=true): -9223372036854775808≤n∧n≤9223372036854775807:=by
 simp[Lit.wf,IntKind.min,IntKind.max,IntKind.signed,IntKind.bits]at h;omega
theorem opens_string {t:TypeId} (h:P.underlying t=some .string):Opens enc P W K t (StrR K):=fun fuel cs x hx hw=>by
 obtain⟨s,rfl,rfl,_⟩:=DataW.trod_string h hx;refine⟨s.data.toList,by rw[Lib.mk_data],by simpa[DataW.weights]using hw.each, ?_⟩;have:=hw.all;simp only[Rows.uptoBulk]at this;omega
theorem opens_bool {t:TypeId} (h:P.underlying t=some .bool):Opens enc P W K t BoolR:=fun fuel cs x hx hw=>by
 obtain⟨b,rfl,_⟩:=DataW.trod_bool h hx;exact⟨b,rfl⟩
theorem opens_int {t:TypeId} {k:IntKind} (h:P.underlying t=some (.int k)):Opens enc P W K t (IntR k):=fun fuel cs x hx hw=>by
 obtain⟨n,rfl,_,h3⟩:=DataW.trod_int h hx;exact⟨n,rfl,h3⟩
theorem opens_struct {t:TypeId} {fs:Array Field} (hs:P.underlying t=some (.struct fs)) (R:Nat→List Value→Prop) (hR:∀i f,fs[i]?=some f→Opens enc P W K f.type (R i)):
 Opens enc P W K t (fun cs=>cs.length=P.cellsOf t∧∀i f,fs[i]?=some f→R i ((cs.drop f.offset).take (P.cellsOf f.type))):=fun fuel cs x hx hw=>by
 obtain⟨xs,n,_,rfl,hl,hlen,hfi⟩:=DataW.trod_struct hs hx
 refine⟨hl,fun i f hi=> ?_⟩
 have h1:=hfi i f hi
 have hlt:i<xs.length:=by rw[hlen];exact(Array.getElem?_eq_some_iff.1 hi).1
 rw[List.getElem?_eq_getElem hlt]at h1
 refine hR i f hi n _ _ h1 ⟨fun m hm=>hw.each m ?_, ?_⟩
 ·simp only[DataW.weights,hs]
  exact DataW.weights_mem_each (ts:=fs.toList.map (·.type)) (j:=i) (t:=f.type) (d:=xs[i].1) (by rw[List.getElem?_map,Array.getElem?_toList,hi];rfl) (by rw[List.getElem?_map,List.getElem?_eq_getElem hlt];rfl) m hm
 ·have:=hw.all
  simp only[Rows.uptoBulk]at this;have:=bulk_mem (d:=xs[i].1) (l:=xs.map (·.1)) (List.mem_map.2 ⟨_,List.getElem_mem hlt,rfl⟩);omega
theorem opens_slice {t e:TypeId} {α:Type} {z:Nat} {en:α→List Value} {S:α→Prop} (ht:P.underlying t=some (.slice e)) (hc:P.cellsOf e=z) (hz:0<z) (hen:∀x,(en x).length=z) (hR:Opens enc P W K e (fun cs=>∃x,cs=en x∧S x)):
 Opens enc P W K t (fun cs=>∃v X,cs=[v]∧RowS z en W v X∧(∀x∈X,S x)∧X.length*P.bytesOf e≤140737488351232∧X.length≤K):=fun fuel cs x hx hw=>by
 rcases Go.Deep.open_slice ht hx with ⟨rfl,_⟩|⟨a,len,cap,m,n,D,Pl,rfl,hb,hlc,hcm,rfl,rfl,hcell⟩
 ·exact⟨_,[],rfl, .inl ⟨rfl,rfl⟩,by simp,by simp,by simp⟩
 ·have hw1:=hw.each
  have hw2:=hw.all;simp only[Rows.uptoBulk]at hw2;have hweigh:∀i,i<len→Fits P K e (D i):=fun i hi=>⟨fun k hk=>by
   refine hw1 k ?_;simp only[DataW.weights,ht];refine List.mem_cons.2 (.inr (List.mem_append_left _ (weightsAll_mem (d:=D i) ?_ hk)));exact List.mem_map.2 ⟨i,List.mem_range.2 hi,rfl⟩,by
   have:=bulk_mem (d:=D i) (l:=(List.range len).map D) (List.mem_map.2 ⟨i,List.mem_range.2 hi,rfl⟩);omega⟩
  have hlen:len*P.bytesOf e≤140737488351232:=by
   refine Nat.le_trans (Nat.mul_le_mul_right _ (show len≤((List.range len).map D).length+((List.range (m-len)).map fun j=>D (len+j)).length by simp)) (hw1 _ ?_);simp only[DataW.weights,ht];exact List.mem_cons.2 (.inl rfl)
  have hlk:len≤K:=by
   have:=bulk_len ((List.range len).map D);rw[List.length_map,List.length_range]at this;omega
  have hpick:∀i,i<len→∃y:α,S y∧∀j u,(en y)[j]?=some u→W.cell? (a.add (i*z+j))=some u:=fun i hi=>by
   obtain⟨cs',h1,h2⟩:=hcell i (by omega);obtain⟨y,rfl,hy⟩:=hR _ _ _ h2 (hweigh i hi);obtain⟨_,h3,h4⟩:=World.cells?_some h1;refine⟨y,hy,fun j u hj=> ?_⟩;have hjl:=(List.getElem?_eq_some_iff.1 hj).1;rw[←hj,←h4 j (by omega),Go.Deep.add_add,hc]
  by_cases h0:len=0
  ·subst h0
   refine⟨_,[],rfl, .inr ⟨a,m,rfl,Nat.zero_le _,fun h=>absurd h (by simp),fun k hk=>absurd hk (by simp)⟩,by simp,by simp,by simp⟩
  ·obtain⟨y0,_⟩:=hpick 0 (by omega)
   haveI:Inhabited α:=⟨y0⟩;obtain⟨F,hF⟩:=Go.Deep.choose_lt hpick;have hl:((List.range len).map F).length=len:=by simp
   have hg:∀(k:Nat) (hk:k<((List.range len).map F).length),((List.range len).map F)[k]=F k:=fun k hk=>by simp
   refine⟨_,(List.range len).map F,rfl, .inr ⟨a,m,by rw[hl],by rw[hl];exact hlc,fun _=> ?_,fun k hk j u hj=> ?_⟩,fun y hy=> ?_,by rw[hl];exact hlen,by rw[hl];exact hlk⟩
   ·obtain⟨u,hu⟩:∃u,(en (F 0))[0]?=some u:=⟨_,List.getElem?_eq_getElem (by rw[hen];exact hz)⟩
    have:=World.block_lt_of_cell? _ _ ((hF 0 (by omega)).2 0 u hu);rwa[block_add]at this
   ·rw[hg]at hj
    rw[hl]at hk;exact(hF k hk).2 j u hj
   ·obtain⟨k,hk,rfl⟩:=List.mem_map.1 hy
    exact(hF k (List.mem_range.1 hk)).1
theorem take_two (cs:List Value) (o n m:Nat):(cs.drop o).take (n+m)=(cs.drop o).take n++(cs.drop (o+n)).take m:=by
 rw[List.take_add,List.drop_drop]
end
end Go.Proofs.YtjkipdoebkhkaaaGreatDoor
namespace Go.Proofs.YtjkipdoebkhkaaaGreatDoor
open Go.RowKit Go.WideShapes Go.ChangeShapes
section
variable {H:Type} {enc:TypeId×Value→H} {W:World} {K:Nat}
def LenK (K:Nat) (s:List UInt8):Prop:=s.length≤140737488351232∧s.length≤K
structure SizU (K:Nat) (u:UrlL):Prop where
 scheme:LenK K u.scheme
 user:LenK K u.user
 pass:LenK K u.pass
 host:LenK K u.host
 path:LenK K u.path
 query:LenK K u.query
 mark:LenK K u.mark
 low: -9223372036854775808≤u.port
 high:u.port≤9223372036854775807
theorem SizU.size {u:UrlL} (h:SizU 1048576 u):u.scheme.length+u.user.length+u.pass.length+u.host.length+u.path.length+u.query.length+u.mark.length≤1000000000:=by
 have h1:=h.scheme.2;have h2:=h.user.2;have h3:=h.pass.2;have h4:=h.host.2;have h5:=h.path.2;have h6:=h.query.2;have h7:=h.mark.2;omega
def UrlR (K:Nat) (cs:List Value):Prop:=∃u:UrlL,cs=cellsU u∧SizU K u
set_option maxRecDepth 20000 in
theorem opens_UrlR:Opens enc Tryz.prog W K 29 (UrlR K):=by
 refine(opens_struct Tryz.underlying29 (fun i=>match i with|0=>StrR K|1=>StrR K|2=>StrR K|3=>StrR K|4=>IntR .i64|5=>StrR K|6=>StrR K|7=>BoolR|8=>StrR K|_=>BoolR) (fun i f hi=> ?_)).mono fun cs ⟨hl,h⟩=> ?_
 ·match i,hi with
  |0,hi=>injection hi with hi;subst hi;exact opens_string Tryz.underlying9
  |1,hi=>injection hi with hi;subst hi;exact opens_string Tryz.underlying9
  |2,hi=>injection hi with hi;subst hi;exact opens_string Tryz.underlying9
  |3,hi=>injection hi with hi;subst hi;exact opens_string Tryz.underlying9
  |4,hi=>injection hi with hi;subst hi;exact opens_int Tryz.underlying3
  |5,hi=>injection hi with hi;subst hi;exact opens_string Tryz.underlying9
  |6,hi=>injection hi with hi;subst hi;exact opens_string Tryz.underlying9
  |7,hi=>injection hi with hi;subst hi;exact opens_bool Tryz.underlying4
  |8,hi=>injection hi with hi;subst hi;exact opens_string Tryz.underlying9
  |9,hi=>injection hi with hi;subst hi;exact opens_bool Tryz.underlying4
  |_+10,hi=>simp at hi
 ·have l0:Tryz.prog.cellsOf 9=1:=by kernel_rfl
  have l1:Tryz.prog.cellsOf 3=1:=by kernel_rfl
  have l2:Tryz.prog.cellsOf 4=1:=by kernel_rfl
  have q0:StrR K ((cs.drop 0).take (Tryz.prog.cellsOf 9)):=h 0 _ rfl;rw[l0]at q0;obtain⟨s0,e0,z0⟩:=q0;have q1:StrR K ((cs.drop 1).take (Tryz.prog.cellsOf 9)):=h 1 _ rfl;rw[l0]at q1;obtain⟨s1,e1,z1⟩:=q1;have q2:StrR K ((cs.drop 2).take (Tryz.prog.cellsOf 9)):=h 2 _ rfl;rw[l0]at q2;obtain⟨s2,e2,z2⟩:=q2;have q3:StrR K ((cs.drop 3).take (Tryz.prog.cellsOf 9)):=h 3 _ rfl;rw[l0]at q3;obtain⟨s3,e3,z3⟩:=q3;have q4:IntR .i64 ((cs.drop 4).take (Tryz.prog.cellsOf 3)):=h 4 _ rfl;rw[l1]at q4;obtain⟨s4,e4,z4⟩:=q4;have q5:StrR K ((cs.drop 5).take (Tryz.prog.cellsOf 9)):=h 5 _ rfl;rw[l0]at q5;obtain⟨s5,e5,z5⟩:=q5;have q6:StrR K ((cs.drop 6).take (Tryz.prog.cellsOf 9)):=h 6 _ rfl;rw[l0]at q6;obtain⟨s6,e6,z6⟩:=q6;have q7:BoolR ((cs.drop 7).take (Tryz.prog.cellsOf 4)):=h 7 _ rfl;rw[l2]at q7;obtain⟨s7,e7⟩:=q7;have q8:StrR K ((cs.drop 8).take (Tryz.prog.cellsOf 9)):=h 8 _ rfl;rw[l0]at q8;obtain⟨s8,e8,z8⟩:=q8;have q9:BoolR ((cs.drop 9).take (Tryz.prog.cellsOf 4)):=h 9 _ rfl;rw[l2]at q9;obtain⟨s9,e9⟩:=q9;have hc:Tryz.prog.cellsOf 29=10:=by kernel_rfl
  rw[hc]at hl;have e:cs=(cs.drop 0).take (1+(1+(1+(1+(1+(1+(1+(1+(1+(1)))))))))):=by rw[List.drop_zero];exact(List.take_of_length_le (by rw[hl];decide)).symm
  rw[take_two,take_two,take_two,take_two,take_two,take_two,take_two,take_two,take_two]at e;simp only[Nat.zero_add,Nat.reduceAdd]at e;rw[e0,e1,e2,e3,e4,e5,e6,e7,e8,e9]at e;rw[e];exact⟨⟨s0,s1,s2,s3,s4,s5,s6,s7,s8,s9⟩,rfl,z0,z1,z2,z3,z5,z6,z8,(i64_wf z4).1,(i64_wf z4).2⟩
end
end Go.Proofs.YtjkipdoebkhkaaaGreatDoor
