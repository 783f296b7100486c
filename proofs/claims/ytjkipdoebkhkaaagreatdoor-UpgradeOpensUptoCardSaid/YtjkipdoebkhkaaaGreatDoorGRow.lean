/- Rows of things of several cells each, wherever a slice of them lies. -/
import Derived.Test.YtjkipdoebkhkaaaGreatDoorGMath
import Derived.Deep.MidRow
import Derived.Deep.Slices
set_option linter.unusedVariables false
set_option linter.unusedSimpArgs false
set_option maxHeartbeats 16000000
namespace Go.Proofs.YtjkipdoebkhkaaaGreatDoor
open Go.RowKit
def RowS {α:Type} (z:Nat) (enc:α→List Value) (w:World) (v:Value) (X:List α):Prop:=
 (v= .slice none 0 0∧X=[])∨∃(a:Addr) (c:Nat),v= .slice (some a) X.length c∧X.length≤c∧(0<X.length→a.block<w.heap.size)∧∀(k:Nat) (hk:k<X.length) (j:Nat) (u:Value),(enc X[k])[j]?=some u→w.cell? (a.add (k*z+j))=some u
theorem RowS.below {α:Type} {z:Nat} {enc:α→List Value} {w W:World} {v:Value} {X:List α} (h:RowS z enc w v X) {B:Nat} (hb:Below B w W) (hB:w.heap.size≤B):RowS z enc W v X:=by
 rcases h with h|⟨a,c,h1,h2,h3,h4⟩
 ·exact .inl h
 ·exact .inr ⟨a,c,h1,h2,fun h0=>by have:=hb.size;have:=h3 h0;omega,fun k hk j u hj=>(hb.cell (p:=a.add (k*z+j)) (by rw[Go.ChangeShapes.block_add];have:=h3 (by omega);omega)).trans (h4 k hk j u hj)⟩
theorem RowS.nil {α:Type} {z:Nat} {enc:α→List Value} {w:World}:RowS z enc w (.slice none 0 0) ([]:List α):= .inl ⟨rfl,rfl⟩
theorem RowS.part {α:Type} {z:Nat} {enc:α→List Value} {w:World} {a:Addr} {n c:Nat} {X:List α} (h:RowS z enc w (.slice (some a) n c) X) (i m:Nat) (him:i+m≤X.length):RowS z enc w (.slice (some (a.add (i*z))) m (c-i)) ((X.drop i).take m):=by
 rcases h with ⟨h1,_⟩|⟨a',c',h1,h2,h3,h4⟩
 ·cases h1
 ·injection h1 with e1 e2 e3
  injection e1 with e1;subst e1 e2 e3;have hl:((X.drop i).take m).length=m:=by rw[List.length_take,List.length_drop];omega
  refine .inr ⟨a.add (i*z),c-i,by rw[hl],by omega,fun h0=>by rw[Go.ChangeShapes.block_add];exact h3 (by omega),fun k hk j u hj=> ?_⟩;rw[hl]at hk;rw[Go.Deep.add_add,show i*z+(k*z+j)=(i+k)*z+j by rw[Nat.add_mul];omega];refine h4 (i+k) (by omega) j u ?_;rw[←hj,List.getElem_take,List.getElem_drop]
theorem RowS.conc {α:Type} {z:Nat} {enc:α→List Value} {w:World} {v:Value} {X:List α} (h:RowS z enc w v X):∃a n c,v= .slice a n c∧n=X.length∧n≤c:=by
 rcases h with ⟨h1,h2⟩|⟨a,c,h1,h2,_⟩
 ·exact⟨_,_,_,h1,by rw[h2];rfl,Nat.le_refl _⟩
 ·exact⟨_,_,_,h1,rfl,h2⟩
theorem run_loadVar_at {P:Program} (w:World) (a:Addr) (ty:TypeId) (cs:List Value) (d:TypeDesc) (hc:∀j v,cs[j]?=some v→w.cell? (a.add j)=some v)
 (hu:P.underlying ty=some d) (hd:d.isRow=true) (hi:(P.info? ty).map (·.size)=some cs.length):(loadVar ty a).run P w= .ok (.agg cs.toArray) w:=by
 have hl:(loadCells a cs.length).run P w= .ok cs.toArray w:=run_loadCells_list (P:=P) w a cs hc
 cases hq:P.info? ty with
 |none=>simp[hq]at hi
 |some i=>
  have hs:i.size=cs.length:=by simpa[hq]using hi
  have hagg:(isAgg ty).run P w= .ok true w:=by
   unfold isAgg;rw[Sem.run_bind,run_underlying hu w]
   cases d<;>simp_all
  simp[loadVar,Sem.run_bind,hagg,sizeOf,typeInfo,hq,hs,hl]
theorem wp_load_at {P:Program} {op:Oper} {a:Act} {w:World} {K:Act→World→Prop} {Q:Exit→Act→World→Prop} (ty:TypeId) (x:Operand) (ho:op.op= .load ty x)
 (p:Addr) (hx:a.eval x= .pointer (some p)) (cs:List Value) (d:TypeDesc) (hc:∀j v,cs[j]?=some v→w.cell? (p.add j)=some v)
 (hu:P.underlying ty=some d) (hd:d.isRow=true) (hi:(P.info? ty).map (·.size)=some cs.length)
 (h:K (a.put op.dst (.agg cs.toArray)) w):op.wp P a w K Q:=by
 unfold Oper.wp execOp
 simp only[ho,hx,Instr.loadAt,Instr.sureAddr,Sem.run_bind,Sem.run_pure,Result.andThen_ok,run_loadVar_at w p ty cs d hc hu hd hi]
 exact h
theorem wpList_load_at {P:Program} {ops:Array Oper} {rest:List Oper} {o:Oper} {a:Act} {w:World} {Q:Exit→Act→World→Prop} (hw:Region.wanted o (yielded ops a.tmps)=true) (ty:TypeId) (x:Operand) (ho:o.op= .load ty x)
 (p:Addr) (hx:a.eval x= .pointer (some p)) (cs:List Value) (d:TypeDesc) (hc:∀j v,cs[j]?=some v→w.cell? (p.add j)=some v)
 (hu:P.underlying ty=some d) (hd:d.isRow=true) (hi:(P.info? ty).map (·.size)=some cs.length)
 (h:wpList P ops Q rest (a.put o.dst (.agg cs.toArray)) w):wpList P ops Q (o::rest) a w:=
 wpList_step fun K hK=>by
  rw[if_pos hw];exact wp_load_at ty x ho p hx cs d hc hu hd hi (hK _ _ h)
theorem RowS.each {α:Type} {z:Nat} {enc:α→List Value} {w:World} {a:Addr} {n c:Nat} {X:List α} (h:RowS z enc w (.slice (some a) n c) X) (k:Nat) (hk:k<X.length):∀W,Below w.heap.size w W→∀j u,(enc X[k])[j]?=some u→W.cell? ((a.add (k*z)).add j)=some u:=by
 rcases h with ⟨h1,_⟩|⟨a',c',h1,h2,h3,h4⟩
 ·cases h1
 ·injection h1 with e1 e2 e3
  injection e1 with e1;subst e1;intro W hW j u hj;rw[Go.Deep.add_add];exact(hW.cell (p:=a.add (k*z+j)) (by rw[Go.ChangeShapes.block_add];exact h3 (by omega))).trans (h4 k hk j u hj)
theorem flatS_len {α:Type} {z:Nat} {en:α→List Value} (hen:∀x,(en x).length=z):∀(X:List α),(X.flatMap en).length=X.length*z
 |[]=>by simp
 |x::X=>by rw[List.flatMap_cons,List.length_append,hen,flatS_len hen X,List.length_cons,Nat.add_mul];omega
theorem flatS_at {α:Type} {z:Nat} {en:α→List Value} (hen:∀x,(en x).length=z):∀(X:List α) (k:Nat) (hk:k<X.length) (j:Nat) (u:Value),(en X[k])[j]?=some u→(X.flatMap en)[k*z+j]?=some u
 |x::X,0,_,j,u,h=>by
  have h:(en x)[j]?=some u:=h;have hj:=(List.getElem?_eq_some_iff.1 h).1;rw[List.flatMap_cons,Nat.zero_mul,Nat.zero_add,List.getElem?_append_left hj];exact h
 |x::X,k+1,hk,j,u,h=>by
  rw[List.flatMap_cons,List.getElem?_append_right (by rw[hen,Nat.add_mul];omega),hen,show(k+1)*z+j-z=k*z+j by rw[Nat.add_mul];omega];exact flatS_at hen X k (by simpa using hk) j u h
theorem flatS_get {α:Type} {z:Nat} {en:α→List Value} (hen:∀x,(en x).length=z):∀(X:List α) (i:Nat) (u:Value),(X.flatMap en)[i]?=some u→∃(k j:Nat) (hk:k<X.length),i=k*z+j∧(en X[k])[j]?=some u
 |[],i,u,h=>by simp at h
 |x::X,i,u,h=>by
  rw[List.flatMap_cons]at h;by_cases hi:i<z
  ·rw[List.getElem?_append_left (by rw[hen];exact hi)]at h
   exact⟨0,i,by simp,by simp,h⟩
  ·rw[List.getElem?_append_right (by rw[hen];omega),hen]at h
   obtain⟨k,j,hk,e,hj⟩:=flatS_get hen X (i-z) u h;exact⟨k+1,j,by simpa using hk,by rw[Nat.add_mul];omega,hj⟩
theorem RowS.own {α:Type} {z:Nat} {en:α→List Value} {w:World} {base n:Nat} {e:TypeId} {v:Value} {X:List α} (hz:0<z) (hen:∀x,(en x).length=z) (h:w.ownsRow base e z v n (X.flatMap en)) (hn:n=X.length):RowS z en w v X:=by
 subst hn;rcases h.2 with ⟨rfl,h0⟩|⟨g,cap,cur,rfl,hb,hg,hc,hm,hs,ht⟩
 ·exact .inl ⟨rfl,List.length_eq_zero_iff.1 h0⟩
 ·refine .inr ⟨⟨g,0,none⟩,cap,rfl,hc,fun _=>(Array.getElem?_eq_some_iff.1 hg).1,fun k hk j u hj=> ?_⟩
  have h1:=flatS_at hen X k hk j u hj;have hl:=(List.getElem?_eq_some_iff.1 h1).1;rw[flatS_len hen]at hl;rw[Addr.add_lit,Nat.zero_add,Lib.cell_of_heap hg];rw[←ht,List.getElem?_take_of_lt hl]at h1;simpa using h1
theorem RowS.news {α:Type} {z:Nat} {en:α→List Value} {w:World} {a:Addr} {n c:Nat} {X:List α} (hen:∀x,(en x).length=z) (h:RowS z en w (.slice (some a) n c) X):∀j u,(X.flatMap en)[j]?=some u→w.cell? (a.add j)=some u:=fun j u hj=>by
 obtain⟨k,i,hk,rfl,hi⟩:=flatS_get hen X j u hj;rcases h with ⟨h1,_⟩|⟨a',c',h1,h2,h3,h4⟩
 ·cases h1
 ·injection h1 with e1 e2 e3
  injection e1 with e1;subst e1;exact h4 k hk i u hi
structure ElemZ (P:Program) (t e:TypeId) (zv:Value) (z bytes:Nat):Prop where
 ht:P.underlying t=some (.slice e)
 hi:∃i,P.info? e=some i∧i.zero=some zv∧i.size=z∧i.bytes=bytes
 hz:zv.cells.size=z
 h0:0<z
theorem wpList_append_z {P:Program} {t e:TypeId} {zv:Value} {z bytes:Nat} (E:ElemZ P t e zv z bytes) (w0:World) {ops:Array Oper} {rest:List Oper} {o:Oper} {a:Act} {Q:Exit→Act→World→Prop} (hgd:o.guard=none) (s x:Operand)
 (ho:o.op= .call {callee:= .builtin .append,args:= #[s,x],argTypes:= #[t,t]})
 (base:Nat) (v:Value) (n:Nat) (xs:List Value) (hs:a.eval s=v) (hown:w0.ownsRow base e z v n xs)
 (news:List Value) (e':TypeId) (hx:a.eval x= .slice (some ⟨w0.heap.size,0,none⟩) 1 1) (hl:news.length=z) (h1:∀u∈news,u.oneCell'=true)
 (hbytes:(n+1)*bytes≤140737488355328) (h63:n+1≤140737488355328) (hbase:base≤w0.heap.size)
 (h:∀v' w',w'.ownsRow base e z v' (n+1) (xs++news)→w0.grownBy w' v.ownBlock→wpList P ops Q rest (a.put o.dst v') w'):
 wpList P ops Q (o::rest) a (w0.alloc (.cells news.toArray e')):=by
 obtain⟨i,hi,hz,hsize,hby⟩:=E.hi
 refine wpList_append_own _ hgd s x t ho base e i zv z bytes E.ht hi hz hsize hby E.hz E.h0 v n xs hs (hown.alloc _) ⟨w0.heap.size,0,none⟩ 1 1 news hx (by rw[hl];omega) ?_ h1 (by unfold maxLen;omega) hbytes (by simp;omega) ?_
 ·intro j u hj
  rw[Addr.add_lit,Nat.zero_add,World.cell?_alloc_at _ _ _ j rfl];simpa using hj
 ·intro v' w' h2 h3 h4
  exact h v' w' h2 (grown_trans2 (World.grownBy_alloc w0 _ _) h3)
def TwinR {α:Type} (z:Nat) (en:α→List Value) (w:World) (B:Nat) (v:Value) (X:List α) (sp:α):Prop:=
 ∃g c,v= .slice (some ⟨g,0,none⟩) X.length c∧X.length<c∧B≤g∧RowS z en w (.slice (some ⟨g,0,none⟩) (X.length+1) c) (X++[sp])
theorem TwinR.row {α:Type} {z:Nat} {en:α→List Value} {w:World} {B:Nat} {v:Value} {X:List α} {sp:α} (h:TwinR z en w B v X sp):RowS z en w v X:=by
 obtain⟨g,c,rfl,hc,_,hr⟩:=h;have:=hr.part 0 X.length (by simp);rw[List.drop_zero,List.take_left,Nat.zero_mul]at this;exact this
theorem TwinR.below {α:Type} {z:Nat} {en:α→List Value} {w W:World} {B:Nat} {v:Value} {X:List α} {sp:α} (h:TwinR z en w B v X sp) (hb:Below w.heap.size w W):TwinR z en W B v X sp:=by
 obtain⟨g,c,h1,h2,h3,h4⟩:=h;exact⟨g,c,h1,h2,h3,h4.below hb (Nat.le_refl _)⟩
theorem yieldsIf_load_at {P:Program} {ops:Array Oper} {S:World→Prop} {op:Oper} {a:Act} (hw:Region.wanted op (yielded ops a.tmps)=true) (ty:TypeId) (x:Operand) (ho:op.op= .load ty x)
 (p:Addr) (hx:a.eval x= .pointer (some p)) (cs:List Value) (d:TypeDesc) (hS:∀w,S w→∀j v,cs[j]?=some v→w.cell? (p.add j)=some v)
 (hu:P.underlying ty=some d) (hd:d.isRow=true) (hi:(P.info? ty).map (·.size)=some cs.length):YieldsIf P ops S op (.agg cs.toArray) a:=
 .inl ⟨hw,fun w hw'=>by
  unfold execOp;simp only[ho,hx,Instr.loadAt,Instr.sureAddr,Sem.run_bind,Sem.run_pure,Result.andThen_ok,run_loadVar_at w p ty cs d (hS w hw') hu hd hi]⟩
end Go.Proofs.YtjkipdoebkhkaaaGreatDoor
