/- Rows of things of several cells each, wherever a slice of them lies. -/
import Derived.Test.YtlhcfmcbpljbiaaGreatDoorGSit1
import Derived.Test.YtlhcfmcbpljbiaaGreatDoorGCtx1
import Derived.Test.YtlhcfmcbpljbiaaGreatDoorGUrl5
set_option linter.unusedVariables false
set_option linter.unusedSimpArgs false
set_option maxHeartbeats 16000000
namespace Go.Proofs.YtlhcfmcbpljbiaaGreatDoor
open Go.RowKit
def RowS {α:Type} (z:Nat) (enc:α→List Value) (w:World) (v:Value) (X:List α):Prop:=
 (v= .slice none 0 0∧X=[])∨∃(a:Addr) (c:Nat),v= .slice (some a) X.length c∧X.length≤c∧(0<X.length→a.block<w.heap.size)∧∀(k:Nat) (hk:k<X.length) (j:Nat) (u:Value),(enc X[k])[j]?=some u→w.cell? (a.add (k*z+j))=some u
theorem RowS.below {α:Type} {z:Nat} {enc:α→List Value} {w W:World} {v:Value} {X:List α} (h:RowS z enc w v X) {B:Nat} (hb:Below B w W) (hB:w.heap.size≤B):RowS z enc W v X:=by
 rcases h with h|⟨a,c,h1,h2,h3,h4⟩
 ·exact .inl h
 ·exact .inr ⟨a,c,h1,h2,fun h0=>by have:=hb.size;have:=h3 h0;omega,fun k hk j u hj=>(hb.cell (p:=a.add (k*z+j)) (by rw[Go.ChangeShapes.block_add];have:=h3 (by omega);omega)).trans (h4 k hk j u hj)⟩
theorem RowS.nil {α:Type} {z:Nat} {enc:α→List Value} {w:World}:RowS z enc w (.slice none 0 0) ([]:List α):= .inl ⟨rfl,rfl⟩
theorem RowS.part {α:Type} {z:Nat} {enc:α→List Value} {w:World} {a:Addr} {n c:Nat} {X:List α} (h:RowS z enc w (.slice (some a) n c) X) (i m:Nat) (him:i+m≤X.length):RowS z enc w (.slice (some (a.add (i*z))) m (c-i)) ((X.drop i).take m):=by
 rcases h with ⟨h1,_⟩|⟨a',c',h1,h2,h3,h4⟩
 ·cases h1
 ·injection h1 with e1 e2 e3
  injection e1 with e1;subst e1 e2 e3;have hl:((X.drop i).take m).length=m:=by rw[List.length_take,List.length_drop];omega
  refine .inr ⟨a.add (i*z),c-i,by rw[hl],by omega,fun h0=>by rw[Go.ChangeShapes.block_add];exact h3 (by omega),fun k hk j u hj=> ?_⟩;rw[hl]at hk;rw[Go.Deep.add_add,show i*z+(k*z+j)=(i+k)*z+j by rw[Nat.add_mul];omega];refine h4 (i+k) (by omega) j u ?_;rw[←hj,List.getElem_take,List.getElem_drop]
theorem RowS.conc {α:Type} {z:Nat} {enc:α→List Value} {w:World} {v:Value} {X:List α} (h:RowS z enc w v X):∃a n c,v= .slice a n c∧n=X.length∧n≤c:=by
 rcases h with ⟨h1,h2⟩|⟨a,c,h1,h2,_⟩
 ·exact⟨_,_,_,h1,by rw[h2];rfl,Nat.le_refl _⟩
 ·exact⟨_,_,_,h1,rfl,h2⟩
theorem run_loadVar_at {P:Program} (w:World) (a:Addr) (ty:TypeId) (cs:List Value) (d:TypeDesc) (hc:∀j v,cs[j]?=some v→w.cell? (a.add j)=some v)
 (hu:P.underlying ty=some d) (hd:d.isRow=true) (hi:(P.info? ty).map (·.size)=some cs.length):(loadVar ty a).run P w= .ok (.agg cs.toArray) w:=by
 have hl:(loadCells a cs.length).run P w= .ok cs.toArray w:=run_loadCells_list (P:=P) w a cs hc
 cases hq:P.info? ty with
 |none=>simp[hq]at hi
 |some i=>
  have hs:i.size=cs.length:=by simpa[hq]using hi
  have hagg:(isAgg ty).run P w= .ok true w:=by
   unfold isAgg;rw[Sem.run_bind,run_underlying hu w]
   cases d<;>simp_all
  simp[loadVar,Sem.run_bind,hagg,sizeOf,typeInfo,hq,hs,hl]
theorem wp_load_at {P:Program} {op:Oper} {a:Act} {w:World} {K:Act→World→Prop} {Q:Exit→Act→World→Prop} (ty:TypeId) (x:Operand) (ho:op.op= .load ty x)
 (p:Addr) (hx:a.eval x= .pointer (some p)) (cs:List Value) (d:TypeDesc) (hc:∀j v,cs[j]?=some v→w.cell? (p.add j)=some v)
 (hu:P.underlying ty=some d) (hd:d.isRow=true) (hi:(P.info? ty).map (·.size)=some cs.length)
 (h:K (a.put op.dst (.agg cs.toArray)) w):op.wp P a w K Q:=by
 unfold Oper.wp execOp
 simp only[ho,hx,Instr.loadAt,Instr.sureAddr,Sem.run_bind,Sem.run_pure,Result.andThen_ok,run_loadVar_at w p ty cs d hc hu hd hi]
 exact h
theorem wpList_load_at {P:Program} {ops:Array Oper} {rest:List Oper} {o:Oper} {a:Act} {w:World} {Q:Exit→Act→World→Prop} (hw:Region.wanted o (yielded ops a.tmps)=true) (ty:TypeId) (x:Operand) (ho:o.op= .load ty x)
 (p:Addr) (hx:a.eval x= .pointer (some p)) (cs:List Value) (d:TypeDesc) (hc:∀j v,cs[j]?=some v→w.cell? (p.add j)=some v)
 (hu:P.underlying ty=some d) (hd:d.isRow=true) (hi:(P.info? ty).map (·.size)=some cs.length)
 (h:wpList P ops Q rest (a.put o.dst (.agg cs.toArray)) w):wpList P ops Q (o::rest) a w:=
 wpList_step fun K hK=>by
  rw[if_pos hw];exact wp_load_at ty x ho p hx cs d hc hu hd hi (hK _ _ h)
theorem RowS.each {α:Type} {z:Nat} {enc:α→List Value} {w:World} {a:Addr} {n c:Nat} {X:List α} (h:RowS z enc w (.slice (some a) n c) X) (k:Nat) (hk:k<X.length):∀W,Below w.heap.size w W→∀j u,(enc X[k])[j]?=some u→W.cell? ((a.add (k*z)).add j)=some u:=by
 rcases h with ⟨h1,_⟩|⟨a',c',h1,h2,h3,h4⟩
 ·cases h1
 ·injection h1 with e1 e2 e3
  injection e1 with e1;subst e1;intro W hW j u hj;rw[Go.Deep.add_add];exact(hW.cell (p:=a.add (k*z+j)) (by rw[Go.ChangeShapes.block_add];exact h3 (by omega))).trans (h4 k hk j u hj)
theorem flatS_len {α:Type} {z:Nat} {en:α→List Value} (hen:∀x,(en x).length=z):∀(X:List α),(X.flatMap en).length=X.length*z
 |[]=>by simp
 |x::X=>by rw[List.flatMap_cons,List.length_append,hen,flatS_len hen X,List.length_cons,Nat.add_mul];omega
theorem flatS_at {α:Type} {z:Nat} {en:α→List Value} (hen:∀x,(en x).length=z):∀(X:List α) (k:Nat) (hk:k<X.length) (j:Nat) (u:Value),(en X[k])[j]?=some u→(X.flatMap en)[k*z+j]?=some u
 |x::X,0,_,j,u,h=>by
  have h:(en x)[j]?=some u:=h;have hj:=(List.getElem?_eq_some_iff.1 h).1;rw[List.flatMap_cons,Nat.zero_mul,Nat.zero_add,List.getElem?_append_left hj];exact h
 |x::X,k+1,hk,j,u,h=>by
  rw[List.flatMap_cons,List.getElem?_append_right (by rw[hen,Nat.add_mul];omega),hen,show(k+1)*z+j-z=k*z+j by rw[Nat.add_mul];omega];exact flatS_at hen X k (by simpa using hk) j u h
theorem flatS_get {α:Type} {z:Nat} {en:α→List Value} (hen:∀x,(en x).length=z):∀(X:List α) (i:Nat) (u:Value),(X.flatMap en)[i]?=some u→∃(k j:Nat) (hk:k<X.length),i=k*z+j∧(en X[k])[j]?=some u
 |[],i,u,h=>by simp at h
 |x::X,i,u,h=>by
  rw[List.flatMap_cons]at h;by_cases hi:i<z
  ·rw[List.getElem?_append_left (by rw[hen];exact hi)]at h
   exact⟨0,i,by simp,by simp,h⟩
  ·rw[List.getElem?_append_right (by rw[hen];omega),hen]at h
   obtain⟨k,j,hk,e,hj⟩:=flatS_get hen X (i-z) u h;exact⟨k+1,j,by simpa using hk,by rw[Nat.add_mul];omega,hj⟩
theorem RowS.own {α:Type} {z:Nat} {en:α→List Value} {w:World} {base n:Nat} {e:TypeId} {v:Value} {X:List α} (hz:0<z) (hen:∀x,(en x).length=z) (h:w.ownsRow base e z v n (X.flatMap en)) (hn:n=X.length):RowS z en w v X:=by
 subst hn;rcases h.2 with ⟨rfl,h0⟩|⟨g,cap,cur,rfl,hb,hg,hc,hm,hs,ht⟩
 ·exact .inl ⟨rfl,List.length_eq_zero_iff.1 h0⟩
 ·refine .inr ⟨⟨g,0,none⟩,cap,rfl,hc,fun _=>(Array.getElem?_eq_some_iff.1 hg).1,fun k hk j u hj=> ?_⟩
  have h1:=flatS_at hen X k hk j u hj;have hl:=(List.getElem?_eq_some_iff.1 h1).1;rw[flatS_len hen]at hl;rw[Addr.add_lit,Nat.zero_add,Lib.cell_of_heap hg];rw[←ht,List.getElem?_take_of_lt hl]at h1;simpa using h1
theorem RowS.news {α:Type} {z:Nat} {en:α→List Value} {w:World} {a:Addr} {n c:Nat} {X:List α} (hen:∀x,(en x).length=z) (h:RowS z en w (.slice (some a) n c) X):∀j u,(X.flatMap en)[j]?=some u→w.cell? (a.add j)=some u:=fun j u hj=>by
 obtain⟨k,i,hk,rfl,hi⟩:=flatS_get hen X j u hj;rcases h with ⟨h1,_⟩|⟨a',c',h1,h2,h3,h4⟩
 ·cases h1
 ·injection h1 with e1 e2 e3
  injection e1 with e1;subst e1;exact h4 k hk i u hi
theorem step_append_none {P:Program} {w:World} {ops:Array Oper} {o:Oper} {a:Act} {K:Act→World→Prop} {Q:Exit→Act→World→Prop} {F:Prop} (hgd:o.guard=none) (s x:Operand) (t:TypeId)
 (ho:o.op= .call {callee:= .builtin .append,args:= #[s,x],argTypes:= #[t,t]})
 (base:Nat) (e:TypeId) (i:TypeInfo) (size:Nat) (ht:P.underlying t=some (.slice e)) (hi:P.info? e=some i)
 (v:Value) (n:Nat) (xs:List Value) (hs:a.eval s=v) (hown:w.ownsRow base e size v n xs) (hx:a.eval x= .slice none 0 0)
 (h:∀w',w'=w→K (a.put o.dst v) w'):if Region.wanted o (yielded ops a.tmps)=true then Oper.wp P o a w K Q else F:=by
 have hw:Region.wanted o (yielded ops a.tmps)=true:=by simp[Region.wanted,hgd]
 rw[if_pos hw]
 have hrun:=run_append_owned_none (P:=P) (w:=w) base t o.type e i size ht hi v n xs hown
 unfold Oper.wp
 simp[execOp,ho,resolve,invoke,builtin,hs,hx,hrun,Result.andThen]
 exact h _ rfl
def askB (k:Int) (f t:UrlL) (m:List UInt8):Bool:=tokL m&&((k==1&&(eqU f zeroU&&eqU t zeroU))||((k==2&&(checkU f&&eqU t zeroU))||(k==3&&(checkU f&&checkU t))))
def baseN (L:List (List UInt8)) (k:Int) (f t:UrlL) (m:List UInt8):Bool:=checkL L&&(askB k f t m&&(if k=3 then sameL L t f else true))
def siteN (L:List (List UInt8)) (k:Int) (f t u:UrlL):Bool:=if k=1 then true else if k=3 then sameL L t u else sameL L f u
def nearL (L:List (List UInt8)) (k:Int) (f t:UrlL) (m:List UInt8) (X:List UrlL):Bool:=baseN L k f t m&&X.all fun u=>checkU u&&siteN L k f t u
theorem near_take {L:List (List UInt8)} {k:Int} {f t:UrlL} {m:List UInt8} {X:List UrlL} {i:Nat} (hi:i<X.length):nearL L k f t m (X.take (i+1))=(nearL L k f t m (X.take i)&&nearL L k f t m [X[i]]):=by
 unfold nearL;rw[List.take_succ_eq_append_getElem hi,List.all_append]
 cases baseN L k f t m<;>simp
theorem near_no1 {L:List (List UInt8)} {k:Int} {f t:UrlL} {m:List UInt8} {X:List UrlL} (h:checkL L=false):nearL L k f t m X=false:=by
 unfold nearL baseN;rw[h];rfl
theorem near_no2 {L:List (List UInt8)} {k:Int} {f t:UrlL} {m:List UInt8} {X:List UrlL} (h:askB k f t m=false):nearL L k f t m X=false:=by
 unfold nearL baseN;rw[h];cases checkL L<;>rfl
theorem near_no3 {L:List (List UInt8)} {k:Int} {f t:UrlL} {m:List UInt8} {X:List UrlL} (h:(X.any fun u=> !checkU u)=true):nearL L k f t m X=false:=by
 unfold nearL;obtain⟨u,hu,hc⟩:=List.any_eq_true.1 h;have:(X.all fun u=>checkU u&&siteN L k f t u)=false:=List.all_eq_false.2 ⟨u,hu,by
  have:checkU u=false:=by simpa using hc
  rw[this];simp⟩
 rw[this];simp
theorem near_go {L:List (List UInt8)} {k:Int} {f t:UrlL} {m:List UInt8} {X:List UrlL} (h1:checkL L=true) (h2:askB k f t m=true) (h3:(X.any fun u=> !checkU u)=false):
 nearL L k f t m X=((if k=3 then sameL L t f else true)&&X.all (siteN L k f t)):=by
 unfold nearL baseN
 rw[h1,h2]
 have:(X.all fun u=>checkU u&&siteN L k f t u)=X.all (siteN L k f t):=by
  rw[Bool.eq_iff_iff,List.all_eq_true,List.all_eq_true];refine⟨fun h u hu=> ?_,fun h u hu=> ?_⟩
  ·have:=h u hu
   simp only[Bool.and_eq_true]at this;exact this.2
  ·have hc:checkU u=true:=by
    have:=List.any_eq_false.1 h3 u hu;simpa using this
   rw[hc,h u hu];rfl
 rw[this];rfl
theorem all_not {X:List UrlL} {p:UrlL→Bool}:X.all p= !(X.any fun u=> !p u):=by
 induction X with
 |nil=>rfl
 |cons x X ih=>simp only[List.all_cons,List.any_cons,ih];cases p x<;>simp
theorem nearL_visit {L:List (List UInt8)} {f t:UrlL} {m:List UInt8} {X:List UrlL} (h1:checkL L=true) (h2:askB 1 f t m=true) (h3:(X.any fun u=> !checkU u)=false):nearL L 1 f t m X=true:=by
 rw[near_go h1 h2 h3];simp[siteN]
theorem nearL_link {L:List (List UInt8)} {f t:UrlL} {m:List UInt8} {X:List UrlL} (h1:checkL L=true) (h2:askB 2 f t m=true) (h3:(X.any fun u=> !checkU u)=false):nearL L 2 f t m X= !(X.any fun u=> !sameL L f u):=by
 rw[near_go h1 h2 h3,←all_not];exact Bool.true_and _
theorem nearL_part {L:List (List UInt8)} {f t:UrlL} {m:List UInt8} {X:List UrlL} (h1:checkL L=true) (h2:askB 3 f t m=true) (h3:(X.any fun u=> !checkU u)=false):nearL L 3 f t m X= !((f::X).any fun u=> !sameL L t u):=by
 rw[near_go h1 h2 h3,←all_not,List.all_cons];rfl
theorem ask_kind {k:Int} {f t:UrlL} {m:List UInt8} (h:askB k f t m=true):k=1∨k=2∨k=3:=by
 unfold askB at h;simp only[Bool.and_eq_true,Bool.or_eq_true,beq_iff_eq]at h;omega
set_option maxRecDepth 100000 in
theorem idx_url (fn:FuncId) (hen:∀args W,(callFunc fn args).run Tryz.prog W= .ok (.enter fn args) W) (cap:Array Value) (p:UrlL→Bool) (X:List UrlL) (v:Value) (w:World) (ht:RowS 10 cellsU w v X) (hl:X.length≤140737488351232)
 (hf:∀x∈X,∀W,Below w.heap.size w W→Calls Tryz.prog fn (#[urlV x]++cap) W fun e W'=>e= .returned (.bool (p x))∧Below W.heap.size W W'):
 Calls Tryz.prog 98 #[v, .func (.func fn) #[] cap] w fun e w'=>∃r:Int,e= .returned (.int .i64 r)∧decide (0≤r)=X.any p∧Below w.heap.size w w':=by
 have hbw:=Below.refl w.heap.size w
 have hiU:∀x,(Tryz.prog.info? 24).map (·.size)=some (cellsU x).length:=fun x=>by kernel_rfl
 rcases ht with ⟨rfl,rfl⟩|⟨a,c,rfl,hc,hab,hcell⟩
 ·clear hf hen
  go_enter Tryz.func98,Tryz.ntmps98;go_wp2_with fail;go_loop [5,8] (fun _ i=>i= .int .i64 0) (fun _ _=>0)
  case atStart=>exact rfl
  case round=>
   obtain rfl:=hrel;go_wp2_with fail;go_ret;exact⟨-1,rfl,by simp,hbw⟩
 ·have hrow:RowS 10 cellsU w (.slice (some a) X.length c) X:= .inr ⟨a,c,rfl,hc,hab,hcell⟩
  have HF:=Lib.hid hf;have HC:=Lib.hid fun (k:Nat) (hk:k<X.length) W (hW:Below w.heap.size w W)=>hrow.each k hk W hW
  have HA:Hid (∀k,(∀(j:Nat) (h:j<X.length),j<k→p X[j]=false)→(X.take k).any p=false):=fun k h=>by
   rw[List.any_eq_false];intro x hx;obtain⟨j,hj,e⟩:=List.getElem_of_mem hx;rw[List.length_take]at hj;rw[←e,List.getElem_take,h j (by omega) (by omega)];simp
  clear hf hcell hrow;go_enter Tryz.func98,Tryz.ntmps98;go_wp2_with fail;go_loopw [5,8] (fun _ i wr=>∃k:Nat,k≤X.length∧i= .int .i64 k∧Hid (∀(j:Nat) (h:j<X.length),j<k→p X[j]=false)∧Below w.heap.size w wr) (fun _ i _=>X.length-(intOf i).toNat)
  case atStart=>exact⟨0,Nat.zero_le _,rfl,Lib.hid (fun j _ h=>absurd h (by omega)),hbw⟩
  case round=>
   obtain⟨k,hk,rfl,HP,hbr⟩:=hrel;by_cases hlt:k<X.length
   ·have hck:=HC.out k hlt _ hbr
    have cf:=HF.out _ (List.getElem_mem hlt);have hik:=hiU X[k]
    cases hp:p X[k]with
    |true=>
     have hany:Hid (X.any p=true):=List.any_eq_true.2 ⟨_,List.getElem_mem hlt,hp⟩;rw[hp]at cf;clear hp HP;generalize X[k]=x at*;have cf2:∀W,Below w.heap.size w W→Calls Tryz.prog fn (#[.agg (cellsU x).toArray]++cap) W fun e W'=>e= .returned (.bool true)∧Below W.heap.size W W':=cf
     clear cf;go_wp2_with(refine wpList_load_at (o:=⟨some 15, .load 24 (.tmp 14),_,_,_,_⟩) rfl 24 (.tmp 14) rfl (a.add (k*10)) rfl (cellsU x) _ hck Tryz.underlying24 rfl hik ?_);go_at_fn fn;refine(cf2 _ hbr).mono ?_;rintro e w1 ⟨rfl,hb1⟩;have hb2:=hbr.trans (hb1.mono hbr.size);go_wp2_with fail;go_ret;exact⟨k,rfl,by rw[hany.out];simp,hb2⟩
    |false=>
     have HP2:Hid (∀(j:Nat) (h:j<X.length),j<k+1→p X[j]=false):=fun j h h1=>by
      by_cases hj:j<k
      ·exact HP.out j h hj
      ·obtain rfl:j=k:=by omega
       exact hp
     rw[hp]at cf;clear hp HP;generalize X[k]=x at*;have cf2:∀W,Below w.heap.size w W→Calls Tryz.prog fn (#[.agg (cellsU x).toArray]++cap) W fun e W'=>e= .returned (.bool false)∧Below W.heap.size W W':=cf
     clear cf;go_wp2_with(refine wpList_load_at (o:=⟨some 15, .load 24 (.tmp 14),_,_,_,_⟩) rfl 24 (.tmp 14) rfl (a.add (k*10)) rfl (cellsU x) _ hck Tryz.underlying24 rfl hik ?_);go_at_fn fn;refine(cf2 _ hbr).mono ?_;rintro e w1 ⟨rfl,hb1⟩;have hb2:=hbr.trans (hb1.mono hbr.size);go_wp2_with fail;go_roundw
     case rel=>exact⟨k+1,by omega,by go_num,HP2,hb2⟩
     case measure=>simp[intOf];omega
   ·obtain rfl:k=X.length:=by omega
    have hany:=HA.out X.length HP.out;rw[List.take_length]at hany;go_wp2_with fail;go_ret;exact⟨-1,rfl,by rw[hany];rfl,hbr⟩
set_option maxRecDepth 100000 in
theorem has_url (fn:FuncId) (hen:∀args W,(callFunc fn args).run Tryz.prog W= .ok (.enter fn args) W) (cap:Array Value) (p:UrlL→Bool) (X:List UrlL) (v:Value) (w:World) (ht:RowS 10 cellsU w v X) (hl:X.length≤140737488351232)
 (hf:∀x∈X,∀W,Below w.heap.size w W→Calls Tryz.prog fn (#[urlV x]++cap) W fun e W'=>e= .returned (.bool (p x))∧Below W.heap.size W W'):
 Calls Tryz.prog 54 #[v, .func (.func fn) #[] cap] w fun e w'=>e= .returned (.bool (X.any p))∧Below w.heap.size w w':=by
 have ci:=idx_url fn hen cap p X v w ht hl hf
 clear hf ht hen
 generalize X.any p=B at*
 go_enter Tryz.func54,Tryz.ntmps54
 go_wp2_with fail
 go_at_call 98
 refine ci.mono ?_
 rintro e w1 ⟨r,rfl,hr,hb1⟩
 go_wp2_with fail
 go_ret
 exact⟨ret_bool (by rw[←hr]),hb1⟩
def AskAt (B:Nat) (k:Int) (f t:UrlL) (m:List UInt8) (w:World):Prop:=w.heap[B]?=some (.cells (askC k f t m) 33 (0,0))
theorem AskAt.lt {B:Nat} {k:Int} {f t:UrlL} {m:List UInt8} {w:World} (h:AskAt B k f t m w):B<w.heap.size:=(Array.getElem?_eq_some_iff.1 h).1
theorem AskAt.on {B:Nat} {k:Int} {f t:UrlL} {m:List UInt8} {w w':World} (h:AskAt B k f t m w) (hb:Below w.heap.size w w'):AskAt B k f t m w':=(hb.block _ h.lt).trans h
theorem AskAt.cells {B:Nat} {k:Int} {f t:UrlL} {m:List UInt8} {w:World} (h:AskAt B k f t m w):
 w.cell? ⟨B,0,none⟩=some (.int .u8 k)∧
 w.cell? ⟨B,1,none⟩=some (.string ⟨f.scheme.toArray⟩)∧
 w.cell? ⟨B,2,none⟩=some (.string ⟨f.user.toArray⟩)∧
 w.cell? ⟨B,3,none⟩=some (.string ⟨f.pass.toArray⟩)∧
 w.cell? ⟨B,4,none⟩=some (.string ⟨f.host.toArray⟩)∧
 w.cell? ⟨B,5,none⟩=some (.int .i64 f.port)∧
 w.cell? ⟨B,6,none⟩=some (.string ⟨f.path.toArray⟩)∧
 w.cell? ⟨B,7,none⟩=some (.string ⟨f.query.toArray⟩)∧
 w.cell? ⟨B,8,none⟩=some (.bool f.hasQ)∧
 w.cell? ⟨B,9,none⟩=some (.string ⟨f.mark.toArray⟩)∧
 w.cell? ⟨B,10,none⟩=some (.bool f.hasM)∧
 w.cell? ⟨B,11,none⟩=some (.string ⟨t.scheme.toArray⟩)∧
 w.cell? ⟨B,12,none⟩=some (.string ⟨t.user.toArray⟩)∧
 w.cell? ⟨B,13,none⟩=some (.string ⟨t.pass.toArray⟩)∧
 w.cell? ⟨B,14,none⟩=some (.string ⟨t.host.toArray⟩)∧
 w.cell? ⟨B,15,none⟩=some (.int .i64 t.port)∧
 w.cell? ⟨B,16,none⟩=some (.string ⟨t.path.toArray⟩)∧
 w.cell? ⟨B,17,none⟩=some (.string ⟨t.query.toArray⟩)∧
 w.cell? ⟨B,18,none⟩=some (.bool t.hasQ)∧
 w.cell? ⟨B,19,none⟩=some (.string ⟨t.mark.toArray⟩)∧
 w.cell? ⟨B,20,none⟩=some (.bool t.hasM)∧
 w.cell? ⟨B,21,none⟩=some (.string ⟨m.toArray⟩):=
 ⟨by rw[Lib.cell_of_heap h];rfl,by rw[Lib.cell_of_heap h];rfl,by rw[Lib.cell_of_heap h];rfl,by rw[Lib.cell_of_heap h];rfl,by rw[Lib.cell_of_heap h];rfl,by rw[Lib.cell_of_heap h];rfl,by rw[Lib.cell_of_heap h];rfl,by rw[Lib.cell_of_heap h];rfl,by rw[Lib.cell_of_heap h];rfl,by rw[Lib.cell_of_heap h];rfl,by rw[Lib.cell_of_heap h];rfl,by rw[Lib.cell_of_heap h];rfl,by rw[Lib.cell_of_heap h];rfl,by rw[Lib.cell_of_heap h];rfl,by rw[Lib.cell_of_heap h];rfl,by rw[Lib.cell_of_heap h];rfl,by rw[Lib.cell_of_heap h];rfl,by rw[Lib.cell_of_heap h];rfl,by rw[Lib.cell_of_heap h];rfl,by rw[Lib.cell_of_heap h];rfl,by rw[Lib.cell_of_heap h];rfl,by rw[Lib.cell_of_heap h];rfl⟩
theorem at_results {B:Nat} {W:World} {v:UrlL} {tmps:Array Value} (h2:tmps[4]?.getD undef= .pointer (some ⟨B,0,none⟩)) (hU:UrlAt B v W):
 (results Tryz.f49 tmps).run Tryz.prog W= .ok (urlV v) W:=by
 obtain⟨c0,c1,c2,c3,c4,c5,c6,c7,c8,c9⟩:=hU.cells
 simp[results,Tryz.results49,go_sem,h2,c0,c1,c2,c3,c4,c5,c6,c7,c8,c9]
 rfl
theorem at_any (s h:List UInt8) (w:World):
 Calls Tryz.prog 49 #[.string ⟨s.toArray⟩, .string ⟨h.toArray⟩] w fun e w'=>e= .returned (urlV (atU s [] h (-1) [47] [] false))∧Below w.heap.size w w':=by
 have hU:UrlAt w.heap.size (atU s [] h (-1) [47] [] false) (w.alloc (.cells (cellsU (atU s [] h (-1) [47] [] false)).toArray 24)):=heap_alloc_new w _
 have hb:Below w.heap.size w (w.alloc (.cells (cellsU (atU s [] h (-1) [47] [] false)).toArray 24)):=below_alloc w _
 go_enter Tryz.func49,Tryz.ntmps49
 go_wp2_with fail
 exact⟨rfl,_,at_results rfl hU,rfl,hb⟩
theorem near_one1 (x:UrlL) (w:World) (hE:EnvH w) (hs:sizeU x≤1000000000) (hp:x.port≤9223372036854775807):
 Calls Tryz.prog 55 #[urlV x] w fun e w'=>e= .returned (.bool (!checkU x))∧Below w.heap.size w w':=by
 obtain⟨wa,hwa⟩:∃W,w.alloc (.cells #[.string ⟨x.scheme.toArray⟩, .string ⟨x.user.toArray⟩, .string ⟨x.pass.toArray⟩, .string ⟨x.host.toArray⟩, .int .i64 x.port, .string ⟨x.path.toArray⟩, .string ⟨x.query.toArray⟩, .bool x.hasQ, .string ⟨x.mark.toArray⟩, .bool x.hasM] 24)=W:=⟨_,rfl⟩
 have hba:Below w.heap.size w wa:=by rw[←hwa];exact below_alloc w _
 have hA:UrlAt w.heap.size x wa:=by rw[←hwa];exact heap_alloc_new w _
 have cc:=check_u x wa (hE.below hba) hs hp
 obtain⟨p0,p1,p2,p3,p4,p5,p6,p7,p8,p9⟩:=hA.cells
 generalize checkU x=b at*
 unfold urlV at cc⊢
 clear hE
 go_enter Tryz.func55,Tryz.ntmps55
 go_wp2_with(go_at_call 40;refine cc.mono ?_;rintro e w1 ⟨rfl,hb1⟩)
 go_ret
 exact⟨rfl,below_next hba hb1⟩
set_option maxRecDepth 100000 in
theorem near_two1 (L:List (List UInt8)) (v:Value) (t x:UrlL) (A B:Nat) (w:World) (hE:EnvH w) (hT:Txt w v L) (hv:w.cell? ⟨A,0,none⟩=some v) (hAl:A<w.heap.size) (hB:UrlAt B t w) (r:Bool)
 (cs:∀W,Below w.heap.size w W→Calls Tryz.prog 12 #[v,urlV t,urlV x] W fun e W'=>e= .returned (.bool r)∧Below W.heap.size W W'):
 Calls Tryz.prog 56 #[urlV x, .pointer (some ⟨A,0,none⟩), .pointer (some ⟨B,0,none⟩)] w fun e w'=>e= .returned (.bool (!r))∧Below w.heap.size w w':=by
 obtain⟨wa,hwa⟩:∃W,w.alloc (.cells #[.string ⟨x.scheme.toArray⟩, .string ⟨x.user.toArray⟩, .string ⟨x.pass.toArray⟩, .string ⟨x.host.toArray⟩, .int .i64 x.port, .string ⟨x.path.toArray⟩, .string ⟨x.query.toArray⟩, .bool x.hasQ, .string ⟨x.mark.toArray⟩, .bool x.hasM] 24)=W:=⟨_,rfl⟩
 have hba:Below w.heap.size w wa:=by rw[←hwa];exact below_alloc w _
 have hA:UrlAt w.heap.size x wa:=by rw[←hwa];exact heap_alloc_new w _
 have hB1:=hB.on hba
 have hv1:wa.cell? ⟨A,0,none⟩=some v:=(hba.cell (p:=⟨A,0,none⟩) hAl).trans hv
 have cc:=cs wa hba
 obtain⟨p0,p1,p2,p3,p4,p5,p6,p7,p8,p9⟩:=hA.cells
 obtain⟨q0,q1,q2,q3,q4,q5,q6,q7,q8,q9⟩:=hB1.cells
 have hv2:∃p n c,v= .slice p n c:=by
  rcases hT with ⟨h1,_⟩|⟨a,c,h1,_⟩<;>exact⟨_,_,_,h1⟩
 obtain⟨p,n,c,rfl⟩:=hv2
 unfold urlV at cc⊢
 clear hE cs hT hB hv
 go_enter Tryz.func56,Tryz.ntmps56
 go_wp2_with(go_at_call 12;refine cc.mono ?_;rintro e w1 ⟨rfl,hb1⟩)
 go_ret
 exact⟨rfl,below_next hba hb1⟩
theorem enters_near1:∀args W,(callFunc 55 args).run Tryz.prog W= .ok (.enter 55 args) W:=enters_of Tryz.func55 (by kernel_rfl) rfl
theorem enters_near2:∀args W,(callFunc 56 args).run Tryz.prog W= .ok (.enter 56 args) W:=enters_of Tryz.func56 (by kernel_rfl) rfl
theorem url_info:(Tryz.prog.info? 24).map (fun i=>(i.zero,i.size,i.bytes))=some (some (.agg #[.string ⟨#[]⟩, .string ⟨#[]⟩, .string ⟨#[]⟩, .string ⟨#[]⟩, .int .i64 0, .string ⟨#[]⟩, .string ⟨#[]⟩, .bool false, .string ⟨#[]⟩, .bool false]),10,136):=by kernel_rfl
theorem own_url (W:World) (f:UrlL):(W.alloc (.cells (cellsU f).toArray 24)).ownsRow W.heap.size 24 10 (.slice (some ⟨W.heap.size,0,none⟩) 1 1) 1 (cellsU f):=
 ⟨rfl, .inr ⟨W.heap.size,1,_,rfl,Nat.le_refl _,World.alloc_heap_new W _,Nat.le_refl _,by unfold maxLen;omega,rfl,rfl⟩⟩
theorem one_url (x:UrlL):∀u∈cellsU x,u.oneCell'=true:=fun u hu=>by
 simp only[cellsU,List.mem_cons,List.not_mem_nil,or_false]at hu;rcases hu with rfl|rfl|rfl|rfl|rfl|rfl|rfl|rfl|rfl|rfl<;>rfl
theorem one_urls (X:List UrlL):∀u∈X.flatMap cellsU,u.oneCell'=true:=fun u hu=>by
 obtain⟨x,_,hx⟩:=List.mem_flatMap.1 hu;exact one_url x u hx
end Go.Proofs.YtlhcfmcbpljbiaaGreatDoor
