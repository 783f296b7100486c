/- Encoding in few letters, plain: the passes, their bounds; the sorted distinct signs. -/
import Derived.Test.YtjkipdoebkhkaaaGreatDoorGTell
import Derived.Lib.SlicesCompact
import Derived.Shelf.Unicode.ValidAny
set_option linter.unusedVariables false
set_option linter.unusedSimpArgs false
set_option maxHeartbeats 16000000
namespace Go.Proofs.YtjkipdoebkhkaaaGreatDoor
theorem toldL_le:∀(j n b k:Nat),n<2^j→(toldL n b k).length≤j+1
 |0,n,b,k,h=>by
  have hb:=bnd_bd b k;rw[told_last (by simp at h;omega)];simp
 |j+1,n,b,k,h=>by
  have hb:=bnd_bd b k;by_cases hl:n<bnd b k
  ·rw[told_last hl];simp
  ·rw[told_more (by omega),List.length_cons]
   have h1:(n-bnd b k)/(36-bnd b k)≤n/2:=Nat.le_trans (Nat.div_le_div_left (by omega) (by omega)) (Nat.div_le_div_right (by omega));have:=toldL_le j ((n-bnd b k)/(36-bnd b k)) b (k+36) (by rw[Nat.pow_succ]at h;omega);omega
theorem toldL_bd {n b k:Nat} (h:n≤137438953472):(toldL n b k).length≤39:=toldL_le 38 n b k (by omega)
structure ES where
 b:Nat
 n:Nat
 many:Nat
 out:List UInt8
def stepS (m p:Nat) (st:ES) (c:Nat):ES:=
 if c<m then ⟨st.b,st.n+1,st.many,st.out⟩else if c=m then ⟨nextL st.n (st.many+1) (decide (st.many=p)),0,st.many+1,st.out++toldL st.n st.b 36⟩else st
def passS (m p:Nat) (pre:List Nat) (st:ES):ES:=pre.foldl (stepS m p) st
theorem passS_cons (m p c:Nat) (pre:List Nat) (st:ES):passS m p (c::pre) st=passS m p pre (stepS m p st c):=rfl
theorem passS_snoc (m p c:Nat) (pre:List Nat) (st:ES):passS m p (pre++[c]) st=stepS m p (passS m p pre st) c:=by simp[passS]
structure PassOk (st0 st:ES) (m:Nat) (pre:List Nat):Prop where
 b:st.b≤288
 n:st.n≤st0.n+pre.length
 n0:m∈pre→st.n≤pre.length
 many:st.many=st0.many+pre.count m
 out:st.out.length+39*st0.many≤st0.out.length+39*st.many
theorem stepS_ok (m p c:Nat) (st:ES) (hb:st.b≤288) (hn:st.n≤137438953472):PassOk st (stepS m p st c) m [c]:=by
 unfold stepS;split
 ·rename_i h
  exact⟨hb,by simp,fun hm=>by simp at hm;omega,by simp[List.count_cons];omega,by simp⟩
 ·split
  ·rename_i h
   subst h;have:=toldL_bd (b:=st.b) (k:=36) hn;exact⟨nextL_le _ _ _ hn,by simp,fun _=>by simp,by simp,by simp;omega⟩
  ·rename_i h h'
   exact⟨hb,by simp,fun hm=>by simp at hm;omega,by simp[List.count_cons];omega,by simp⟩
theorem passS_ok (m p:Nat):∀(pre:List Nat) (st:ES),st.b≤288→st.n+pre.length≤137438953472→PassOk st (passS m p pre st) m pre
 |[],st,hb,_=>⟨hb,by simp[passS],fun h=>by simp at h,by simp[passS],by simp[passS]⟩
 |c::pre,st,hb,hn=>by
  simp only[List.length_cons]at hn;have h1:=stepS_ok m p c st hb (by omega);have hn1:=h1.n;simp only[List.length_singleton]at hn1;have h2:=passS_ok m p pre (stepS m p st c) h1.b (by omega);rw[passS_cons];refine⟨h2.b,by have:=h2.n;simp only[List.length_cons];omega,fun hm=> ?_, ?_,by have:=h1.out;have:=h2.out;omega⟩
  ·simp only[List.mem_cons]at hm
   simp only[List.length_cons];by_cases h:m∈pre
   ·have:=h2.n0 h;omega
   ·have hc:m=c:=hm.resolve_right h
    have:=h1.n0 (by simp[hc]);simp only[List.length_singleton]at this;have:=h2.n;have h0:(stepS m p st c).n=0:=by unfold stepS;rw[if_neg (by omega),if_pos hc.symm]
    omega
  ·have e1:(c::pre).count m=pre.count m+if (c==m)=true then 1 else 0:=List.count_cons
   have e2:[c].count m=if (c==m)=true then 1 else 0:=by rw[List.count_cons];simp
   rw[h2.many,h1.many,e1,e2];omega
def outS (R:List Nat) (p:Nat) (x:Nat×ES) (m:Nat):Nat×ES:=
 (m+1,⟨(passS m p R ⟨x.2.b,x.2.n+(m-x.1)*(x.2.many+1),x.2.many,x.2.out⟩).b,(passS m p R ⟨x.2.b,x.2.n+(m-x.1)*(x.2.many+1),x.2.many,x.2.out⟩).n+1,
  (passS m p R ⟨x.2.b,x.2.n+(m-x.1)*(x.2.many+1),x.2.many,x.2.out⟩).many,(passS m p R ⟨x.2.b,x.2.n+(m-x.1)*(x.2.many+1),x.2.many,x.2.out⟩).out⟩)
def runS (R:List Nat) (p:Nat) (ms:List Nat) (x:Nat×ES):Nat×ES:=ms.foldl (outS R p) x
theorem runS_snoc (R:List Nat) (p m:Nat) (ms:List Nat) (x:Nat×ES):runS R p (ms++[m]) x=outS R p (runS R p ms x) m:=by simp[runS]
structure OutOk (R:List Nat) (p:Nat) (x:Nat×ES) (rest:List Nat):Prop where
 lo:128≤x.1
 hi:x.1≤1114112
 sorted:rest.Pairwise (·< ·)
 mem:∀m∈rest,m∈R∧x.1≤m∧m≤1114111
 compl:∀c∈R,x.1≤c→c∈rest
 b:x.2.b≤288
 n:x.2.n≤R.length+1
 many:x.2.many=R.countP (·<x.1)
 plain:p≤x.2.many
 out:x.2.out.length≤39*x.2.many+1
theorem countP_split (a m:Nat) (h:a≤m):∀R:List Nat,(∀c∈R,a≤c→m≤c)→R.countP (·<m+1)=R.countP (·<a)+R.count m
 |[],_=>rfl
 |c::R,hc=>by
  have ih:=countP_split a m h R (fun c hm=>hc c (List.mem_cons_of_mem _ hm));have h1:=hc c List.mem_cons_self;rw[List.countP_cons,List.countP_cons,List.count_cons,ih];by_cases h2:c<a
  ·have h3:c<m+1:=by omega
   have h4:¬c=m:=by omega
   simp[h2,h3,h4];omega
  ·have h5:=h1 (by omega)
   by_cases h6:c=m
   ·subst h6
    have h4:¬c<a:=h2;simp[h4];omega
   ·have h3:¬c<m+1:=by omega
    simp[h2,h3,h6]
theorem OutOk.start_n {R:List Nat} {p:Nat} {x:Nat×ES} {m:Nat} {rest:List Nat} (h:OutOk R p x (m::rest)) (hR:R.length≤65536):
 (m-x.1)*(x.2.many+1)≤73007103871∧x.2.many≤65536∧x.2.n≤65537∧x.1≤m∧m≤1114111:=by
 have hm:=h.mem m List.mem_cons_self
 have h1:x.2.many≤R.length:=by rw[h.many];exact List.countP_le_length
 have h2:=Nat.mul_le_mul (show m-x.1≤1113983 by have:=h.lo;omega) (show x.2.many+1≤65537 by omega)
 have:=h.n
 exact⟨h2,by omega,by omega,hm.2.1,hm.2.2⟩
theorem OutOk.pass {R:List Nat} {p:Nat} {x:Nat×ES} {m:Nat} {rest:List Nat} (h:OutOk R p x (m::rest)) (hR:R.length≤65536) (pre post:List Nat) (e:R=pre++post):
 PassOk ⟨x.2.b,x.2.n+(m-x.1)*(x.2.many+1),x.2.many,x.2.out⟩ (passS m p pre ⟨x.2.b,x.2.n+(m-x.1)*(x.2.many+1),x.2.many,x.2.out⟩) m pre:=by
 obtain⟨h1,h2,h3,_⟩:=h.start_n hR
 refine passS_ok m p pre _ h.b ?_
 have:pre.length≤R.length:=by rw[e];simp
 show x.2.n+(m-x.1)*(x.2.many+1)+pre.length≤_
 omega
theorem OutOk.pass_bd {R:List Nat} {p:Nat} {x:Nat×ES} {m:Nat} {rest:List Nat} (h:OutOk R p x (m::rest)) (hR:R.length≤65536) (pre post:List Nat) (e:R=pre++post) {st:ES}
 (hst:passS m p pre ⟨x.2.b,x.2.n+(m-x.1)*(x.2.many+1),x.2.many,x.2.out⟩=st):st.b≤288∧st.n≤73007300000∧st.many≤65536∧p≤st.many∧st.out.length≤2555905:=by
 have hp:=h.pass hR pre post e
 rw[hst]at hp
 obtain⟨h1,h2,h3,h4,h5⟩:=h.start_n hR
 have hl:pre.length≤R.length:=by rw[e];simp
 have hn:=hp.n
 have hm:=hp.many
 have ho:=hp.out
 have hpl:=h.plain
 have hxo:=h.out
 simp only at hn hm ho
 have hc:pre.count m≤R.count m:=by rw[e,List.count_append];omega
 have hk:=countP_split x.1 m h4 R (fun c hc hx=>by
  have:=h.compl c hc hx;rcases List.mem_cons.1 this with h6|h6
  ·omega
  ·exact Nat.le_of_lt ((List.pairwise_cons.1 h.sorted).1 c h6))
 have hk2:R.countP (·<m+1)≤R.length:=List.countP_le_length
 have hx:=h.many
 exact⟨hp.b,by omega,by omega,by omega,by omega⟩
theorem OutOk.next {R:List Nat} {p:Nat} {x:Nat×ES} {m:Nat} {rest:List Nat} (h:OutOk R p x (m::rest)) (hR:R.length≤65536):OutOk R p (outS R p x m) rest:=by
 have hp:=h.pass hR R [] (by simp);obtain⟨h1,h2,h3,h4,h5⟩:=h.start_n hR;have hm:=h.mem m List.mem_cons_self;have hs:=List.pairwise_cons.1 h.sorted;have hge:∀c∈R,x.1≤c→m≤c:=fun c hc hx=>by
  rcases List.mem_cons.1 (h.compl c hc hx)with h6|h6
  ·omega
  ·exact Nat.le_of_lt (hs.1 c h6)
 have hk:=countP_split x.1 m h4 R hge;have hmany:=hp.many;have ho:=hp.out;have hxo:=h.out;have hx:=h.many;have hn:=hp.n0 hm.1;have hpl:=h.plain;simp only at hmany ho;refine⟨?_, ?_,hs.2,fun k hk=>⟨(h.mem k (List.mem_cons_of_mem _ hk)).1,hs.1 k hk,(h.mem k (List.mem_cons_of_mem _ hk)).2.2⟩,fun c hc hx'=> ?_,hp.b, ?_, ?_, ?_, ?_⟩
 ·show 128≤m+1
  have:=h.lo;omega
 ·show m+1≤_
  omega
 ·have hx'':m+1≤c:=hx'
  rcases List.mem_cons.1 (h.compl c hc (by omega))with h6|h6
  ·omega
  ·exact h6
 ·show _+1≤R.length+1
  omega
 ·show _=R.countP (·<m+1)
  rw[hk,←hx];exact hmany
 ·show p≤_
  show p≤(passS m p R _).many;omega
 ·show(passS m p R _).out.length≤39*(passS m p R _).many+1
  omega
theorem OutOk.done {R:List Nat} {p:Nat} {x:Nat×ES} (h:OutOk R p x []):x.2.many=R.length:=by
 rw[h.many,List.countP_eq_length];intro c hc;have:=h.compl c hc;simp at this⊢;omega
theorem OutOk.more {R:List Nat} {p:Nat} {x:Nat×ES} {m:Nat} {rest:List Nat} (h:OutOk R p x (m::rest)):x.2.many<R.length:=by
 have hm:=h.mem m List.mem_cons_self;have h1:R.countP (·<x.1)≤R.length:=List.countP_le_length;rw[h.many];rcases Nat.lt_or_ge (R.countP (·<x.1)) R.length with h2|h2
 ·exact h2
 ·have:=List.countP_eq_length.1 (Nat.le_antisymm h1 h2) m hm.1
  simp at this;omega
def plainB (R:List Nat):List UInt8:=(R.filter (·<128)).map UInt8.ofNat
def startOut (R:List Nat):List UInt8:=plainB R++if 0<(plainB R).length then [45]else []
def start (R:List Nat):Nat×ES:=(128,⟨72,0,(plainB R).length,startOut R⟩)
def othersI (R:List Nat):List Int:=(R.filter (128≤ ·)).map Int.ofNat
def sortedI (R:List Nat):List Int:=(othersI R).mergeSort fun x y=>decide (x≤y)
def msI (R:List Nat):List Int:=Lib.compact (sortedI R)
def msN (R:List Nat):List Nat:=(msI R).map Int.toNat
def encR (R:List Nat):List UInt8:=(runS R (plainB R).length (msN R) (start R)).2.out
theorem compact_sorted (d:Array Int) (hd:∀i j,i≤j→j<d.size→d[i]!≤d[j]!):∀m,m≤d.size→(Lib.compactUpTo d m).Pairwise (·< ·)∧∀x,x∈Lib.compactUpTo d m↔∃j,j<m∧d[j]! =x
 |0,_=>⟨by simp[Lib.compactUpTo],fun x=>by simp[Lib.compactUpTo]⟩
 |m+1,hm=>by
  obtain⟨h1,h2⟩:=compact_sorted d hd m (by omega);rw[Lib.compactUpTo_succ];by_cases hk:Lib.keeps d m=true
  ·rw[if_pos hk]
   refine⟨List.pairwise_append.2 ⟨h1,List.pairwise_singleton _ _,fun x hx y hy=> ?_⟩,fun x=> ?_⟩
   ·obtain⟨j,hj,rfl⟩:=(h2 x).1 hx
    rw[List.mem_singleton.1 hy];have ha:=hd j (m-1) (by omega) (by omega);have hb:=hd (m-1) m (by omega) (by omega);have hc:d[m]!≠d[m-1]!:=fun e=>by rw[Lib.keeps_neg (by omega) e]at hk;cases hk
    omega
   ·rw[List.mem_append,h2,List.mem_singleton]
    refine⟨fun h=> ?_,fun ⟨j,hj,e⟩=> ?_⟩
    ·rcases h with ⟨j,hj,e⟩|e
     ·exact⟨j,by omega,e⟩
     ·exact⟨m,by omega,e.symm⟩
    ·rcases Nat.lt_or_ge j m with h|h
     ·exact .inl ⟨j,h,e⟩
     ·have:j=m:=by omega
      exact .inr (by rw[←e,this])
  ·rw[if_neg hk,List.append_nil]
   refine⟨h1,fun x=> ?_⟩;rw[h2];refine⟨fun ⟨j,hj,e⟩=>⟨j,by omega,e⟩,fun ⟨j,hj,e⟩=> ?_⟩;rcases Nat.lt_or_ge j m with h|h
   ·exact⟨j,h,e⟩
   ·have hjm:j=m:=by omega
    subst hjm;have h0:0<j:=Nat.pos_of_ne_zero (fun e0=>hk (Lib.keeps_lt_one d j (by omega)));have hee:d[j]! =d[j-1]!:=Classical.byContradiction fun hne=>hk (Lib.keeps_pos hne)
    exact⟨j-1,by omega,by rw[←hee,e]⟩
theorem msI_spec (R:List Nat):(msI R).Pairwise (·< ·)∧∀x,x∈msI R↔x∈othersI R:=by
 have hs:(sortedI R).Pairwise (·≤ ·):=by
  have:=List.pairwise_mergeSort (le:=fun x y:Int=>decide (x≤y)) (by intro a b c;simp;omega) (by intro a b;simp;omega) (othersI R);exact this.imp (by intro a b;simp)
 have:=compact_sorted (sortedI R).toArray (fun i j hij hj=>by
  have hj':j<(sortedI R).length:=by simpa using hj
  rw[getElem!_pos _ i (by simp;omega),getElem!_pos _ j (by simpa using hj')];simp only[List.getElem_toArray];rcases Nat.lt_or_ge i j with h|h
  ·exact List.pairwise_iff_getElem.1 hs i j (by omega) hj' h
  ·have:i=j:=by omega
   subst this;exact Int.le_refl _) (sortedI R).length (by simp)
 refine⟨this.1,fun x=>(this.2 x).trans ?_⟩;rw[show(x∈othersI R↔x∈sortedI R)from(List.mem_mergeSort).symm,List.mem_iff_getElem];refine⟨fun ⟨j,hj,e⟩=>⟨j,hj, ?_⟩,fun ⟨j,hj,e⟩=>⟨j,hj, ?_⟩⟩
 ·rw[getElem!_pos _ j (by simpa using hj)]at e;simpa using e
 ·rw[getElem!_pos _ j (by simpa using hj)];simpa using e
theorem msI_nat (R:List Nat):msI R=(msN R).map Int.ofNat:=by
 rw[msN,List.map_map]
 conv=>lhs;rw[←List.map_id (msI R)]
 refine List.map_congr_left fun x hx=> ?_
 obtain⟨c,_,rfl⟩:=List.mem_map.1 (((msI_spec R).2 x).1 hx);simp
theorem msN_spec (R:List Nat):(msN R).Pairwise (·< ·)∧∀m,m∈msN R↔m∈R∧128≤m:=by
 obtain⟨h1,h2⟩:=msI_spec R;refine⟨?_,fun m=> ?_⟩
 ·have:=h1
  rw[msI_nat,List.pairwise_map]at this;exact this.imp (by intro a b;simp)
 ·have h3:(m:Int)∈msI R↔m∈msN R:=by
   rw[msI_nat,List.mem_map];exact⟨fun ⟨a,ha,e⟩=>by rwa[←Int.ofNat_inj.1 e],fun h=>⟨m,h,rfl⟩⟩
  rw[←h3,h2,othersI,List.mem_map];constructor
  ·rintro⟨a,ha,e⟩
   have:a=m:=Int.ofNat_inj.1 e;subst this;simpa using ha
  ·intro h
   exact⟨m,by simpa using h,rfl⟩
theorem start_ok (R:List Nat) (hR:∀c∈R,c≤1114111):OutOk R (plainB R).length (start R) (msN R):=by
 obtain⟨h1,h2⟩:=msN_spec R;refine⟨Nat.le_refl _,by simp[start],h1,fun m hm=>⟨((h2 m).1 hm).1,((h2 m).1 hm).2,hR m ((h2 m).1 hm).1⟩,fun c hc hx=>(h2 c).2 ⟨hc,hx⟩,by simp[start],by simp[start], ?_,Nat.le_refl _, ?_⟩
 ·show(plainB R).length=_
  simp[plainB,start,List.countP_eq_length_filter]
 ·show(startOut R).length≤39*(plainB R).length+1
  simp only[startOut,List.length_append];split<;>simp<;>omega
open Go.RowKit
abbrev intVs (l:List Int):List Value:=l.map (Value.int .i64)
theorem putRow_heap (enc:Int→Value) (w:World) (blk off:Nat) (d:Array Int) (cur:Array Value) (e:TypeId) (fz:Nat×Nat) (h:w.heap[blk]?=some (.cells cur e fz)):(Go.Sort.putRow enc w blk off d).heap[blk]?=some (.cells (Go.Sort.putCells enc off d cur) e fz):=by
 unfold Go.Sort.putRow Go.Sort.mapBlock;simp only[Array.getElem?_modify,if_true,h];rfl
theorem putRow_other (enc:Int→Value) (w:World) (blk off:Nat) (d:Array Int) (k:Nat) (h:k≠blk):(Go.Sort.putRow enc w blk off d).heap[k]?=w.heap[k]?:=by
 unfold Go.Sort.putRow Go.Sort.mapBlock;simp only[Array.getElem?_modify];rw[if_neg (fun e=>h e.symm)]
theorem putRow_size (enc:Int→Value) (w:World) (blk off:Nat) (d:Array Int):(Go.Sort.putRow enc w blk off d).heap.size=w.heap.size:=by
 unfold Go.Sort.putRow Go.Sort.mapBlock;simp
theorem putRow_grown (enc:Int→Value) (w:World) (blk off:Nat) (d:Array Int) (n:Nat):w.grownBy (Go.Sort.putRow enc (Go.Sort.ahead w n) blk off d) (some blk):=
 ⟨rfl,rfl,rfl,by rw[putRow_size];exact Nat.le_refl _,fun k hk hne=>putRow_other _ _ _ _ _ _ (fun e=>hne (by rw[e]))⟩
theorem grow_grown {w w':World} {row:Option Nat} (h:w.grownBy w' row) (os:Array Obj):w.grownBy (Go.Sort.grow w' os) row:=by
 refine⟨h.os,h.tape,h.output, ?_,fun k hk hne=> ?_⟩
 ·have:=h.size
  simp only[Go.Sort.grow,Array.size_append];omega
 ·refine Eq.trans ?_ (h.block k hk hne)
  have:=h.size;simp only[Go.Sort.grow];rw[Array.getElem?_append_left (by omega)]
theorem grow_heap {w:World} {k:Nat} {o:Obj} (h:w.heap[k]?=some o) (os:Array Obj):(Go.Sort.grow w os).heap[k]?=some o:=by
 have:=(Array.getElem?_eq_some_iff.1 h).1;simp only[Go.Sort.grow];rw[Array.getElem?_append_left this];exact h
theorem putCells_size (enc:Int→Value) (off:Nat) (d:Array Int) (c:Array Value):(Go.Sort.putCells enc off d c).size=c.size:=by simp[Go.Sort.putCells]
theorem putCells_get (enc:Int→Value) (d:Array Int) (c:Array Value) (k:Nat) (hk:k<c.size) (hd:k<d.size):(Go.Sort.putCells enc 0 d c)[k]?=some (enc d[k]!):=by
 simp[Go.Sort.putCells,hk,hd]
theorem putCells_take (l:List Int) (c:Array Value) (n:Nat) (hn:l.length=n) (hc:n≤c.size):(Go.Sort.putCells (Value.int .i64) 0 l.toArray c).toList.take n=intVs l:=by
 apply List.ext_getElem?;intro k;by_cases hk:k<n
 ·rw[List.getElem?_take_of_lt hk,Array.getElem?_toList,putCells_get _ _ _ _ (by omega) (by simp;omega)]
  have:k<l.length:=by omega
  simp[this]
 ·rw[List.getElem?_take,if_neg hk,List.getElem?_eq_none (by simp;omega)]
theorem own_holds {w:World} {base g cap:Nat} {n:Nat} {l:List Int} (h:w.ownsRow base 3 1 (.slice (some ⟨g,0,none⟩) n cap) n (intVs l)):Go.Sort.Holds (Value.int .i64) w g 0 l.toArray:=by
 intro j hj;have hj':j<l.length:=by simpa using hj
 have hc:=h.cells (g:=g) rfl j (.int .i64 l[j]) (by simp[hj']);refine⟨?_, ?_⟩
 ·rw[Addr.add_lit,Nat.zero_add]at hc
  rw[Nat.zero_add,hc];simp[hj']
 ·rcases h.2 with ⟨hv,_⟩|⟨g',cap',cur,hv,_,hg,_⟩
  ·cases hv
  ·cases hv;simp[World.frozen?,hg]
theorem sort_any (base:Nat) (v:Value) (l:List Int) (w:World) (h:w.ownsRow base 3 1 v l.length (intVs l)) (hl:l.length≤1000000):
 Calls Tryz.prog 304 #[v] w fun e w'=>e= .returned (.tuple #[])∧w'.ownsRow base 3 1 v l.length (intVs (l.mergeSort fun x y=>decide (x≤y)))∧w.grownBy w' v.ownBlock:=by
 rcases h.2 with ⟨rfl,h0⟩|⟨g,cap,cur,rfl,hb,hg,hn,hm,hsz,htake⟩
 ·refine(Tryz.slices_Sort_int_none none 0 w).mono ?_
  rintro e w' ⟨rfl,rfl⟩;have:l=[]:=List.length_eq_zero_iff.1 h0;subst this;exact⟨rfl,by simpa using h,grown_refl _ _⟩
 ·refine(Tryz.slices_Sort_int g 0 cap l w (own_holds h) (Array.getElem?_eq_some_iff.1 hg).1 (by omega)).mono ?_
  rintro e w' ⟨rfl,n,os,rfl⟩;refine⟨rfl,⟨by simp, .inr ⟨g,cap,_,rfl,hb,grow_heap (putRow_heap _ (Go.Sort.ahead w n) g 0 _ cur _ _ hg) os,hn,hm, ?_, ?_⟩⟩,grow_grown (putRow_grown _ _ _ _ _ _) _⟩
  ·rw[putCells_size];exact hsz
  ·rw[Nat.mul_one];exact putCells_take _ _ _ (by simp) (by omega)
theorem compact_any (base:Nat) (v:Value) (l:List Int) (w:World) (h:w.ownsRow base 3 1 v l.length (intVs l)) (hl:l.length≤1000000):
 Calls Tryz.prog 305 #[v] w fun e w'=>∃ad c,e= .returned (.slice ad (Lib.compact l).length c)∧w.grownBy w' v.ownBlock∧
  ((Lib.compact l=[]∧v.ownBlock=none)∨∃g cur,ad=some ⟨g,0,none⟩∧base≤g∧v.ownBlock=some g∧w'.heap[g]?=some (.cells cur 3 (0,0))∧cur.toList.take (Lib.compact l).length=intVs (Lib.compact l)):=by
 rcases h.2 with ⟨rfl,h0⟩|⟨g,cap,cur,rfl,hb,hg,hn,hm,hsz,htake⟩
 ·refine(Tryz.slices_Compact_int_empty none 0 w).mono ?_
  rintro e w' ⟨rfl,rfl⟩;have:l=[]:=List.length_eq_zero_iff.1 h0;subst this;exact⟨none,0,rfl,grown_refl _ _, .inl ⟨rfl,rfl⟩⟩
 ·refine(Tryz.slices_Compact_int g 0 cap l w (own_holds h) (by omega) (by omega)).mono ?_
  rintro e w' ⟨rfl,q,rfl⟩;have hle:=Lib.compact_length_le l;refine⟨_,_,rfl,putRow_grown _ _ _ _ _ _, .inr ⟨g,_,rfl,hb,rfl,putRow_heap _ (Go.Sort.ahead w q) g 0 _ cur _ _ hg, ?_⟩⟩;have:=putCells_take (Lib.compact l++List.replicate (l.length-(Lib.compact l).length) 0) cur l.length (by simp;omega) (by omega);have h2:=congrArg (List.take (Lib.compact l).length) this;rw[List.take_take,Nat.min_eq_left hle]at h2;rw[h2];simp[intVs,List.map_append,List.take_append_of_le_length]
def runesF:Nat→List UInt8→List Nat
 |0,_=>[]
 |f+1,l=>if l=[]then []else (Lib.decodeL l).1::runesF f (l.drop (Lib.decodeL l).2)
theorem runesF_any:∀(f g:Nat) (l:List UInt8),l.length≤f→l.length≤g→runesF f l=runesF g l
 |0,0,_,_,_=>rfl
 |0,g+1,l,h,_=>by
  have:l=[]:=List.length_eq_zero_iff.1 (by omega);subst this;simp[runesF]
 |f+1,0,l,_,h=>by
  have:l=[]:=List.length_eq_zero_iff.1 (by omega);subst this;simp[runesF]
 |f+1,g+1,l,h1,h2=>by
  unfold runesF;split
  ·rfl
  ·have:=Lib.decodeL_width l
   rw[runesF_any f g _ (by simp;omega) (by simp;omega)]
def runes (l:List UInt8):List Nat:=runesF l.length l
theorem runes_nil:runes []=[]:=rfl
theorem runes_step {l:List UInt8} (h:l≠[]):runes l=(Lib.decodeL l).1::runes (l.drop (Lib.decodeL l).2):=by
 unfold runes;have hl:0<l.length:=List.length_pos_iff.2 h;have hw:=Lib.decodeL_width l;rw[show runesF l.length l=runesF (l.length-1+1) l from by rw[Nat.sub_add_cancel hl]]
 conv=>lhs;unfold runesF
 rw[if_neg h,runesF_any _ _ _ (by simp;omega) (Nat.le_refl _)]
theorem runes_len:∀(n:Nat) (l:List UInt8),l.length≤n→(runes l).length≤l.length
 |0,l,h=>by
  have:l=[]:=List.length_eq_zero_iff.1 (by omega);subst this;simp[runes_nil]
 |n+1,l,h=>by
  by_cases hne:l=[]
  ·subst hne;simp[runes_nil]
  ·have hw:=Lib.decodeL_width l
   have hl:0<l.length:=List.length_pos_iff.2 hne;rw[runes_step hne,List.length_cons];have:=runes_len n (l.drop (Lib.decodeL l).2) (by simp;omega);simp only[List.length_drop]at this;omega
theorem runes_le:∀(n:Nat) (l:List UInt8),l.length≤n→∀c∈runes l,c≤1114111
 |0,l,h=>by
  have:l=[]:=List.length_eq_zero_iff.1 (by omega);subst this;simp[runes_nil]
 |n+1,l,h=>by
  by_cases hne:l=[]
  ·subst hne;simp[runes_nil]
  ·have hw:=Lib.decodeL_width l
   have hl:0<l.length:=List.length_pos_iff.2 hne;rw[runes_step hne];intro c hc;rcases List.mem_cons.1 hc with rfl|hc
   ·exact Lib.decodeL_rune l
   ·exact runes_le n (l.drop (Lib.decodeL l).2) (by simp;omega) c hc
def Thru (s:List UInt8) (pre:List Nat) (pos:Nat):Prop:=runes s=pre++runes (s.drop pos)∧pre.length≤pos
theorem thru_start (s:List UInt8):Thru s [] 0:=⟨by simp,Nat.le_refl _⟩
theorem thru_step {s:List UInt8} {pre:List Nat} {pos:Nat} (h:Thru s pre pos) (hp:pos<s.length):Thru s (pre++[(Utf8.decode ⟨s.toArray⟩ pos).1]) (pos+(Utf8.decode ⟨s.toArray⟩ pos).2):=by
 have hne:s.drop pos≠[]:=by intro e;have:=congrArg List.length e;simp at this;omega
 have hd:Lib.decodeL (s.drop pos)=Utf8.decode ⟨s.toArray⟩ pos:=Lib.decodeL_drop ⟨s.toArray⟩ pos;have hw:=Lib.decodeL_width (s.drop pos);have h1:=h.1;have h2:=h.2;rw[runes_step hne,hd]at h1;rw[hd]at hw;refine⟨?_,by simp;omega⟩;rw[h1,List.drop_drop];simp
theorem thru_end {s:List UInt8} {pre:List Nat} {pos:Nat} (h:Thru s pre pos) (hp:¬pos<s.length):runes s=pre:=by
 have h1:=h.1;rw[List.drop_eq_nil_of_le (by omega),runes_nil,List.append_nil]at h1;exact h1
theorem thru_len {s:List UInt8} {pre:List Nat} {pos:Nat} (h:Thru s pre pos):pre.length≤s.length:=by
 have:=runes_len _ s (Nat.le_refl _);rw[h.1,List.length_append]at this;omega
open Go.RowKit Go.Shelf
noncomputable def validRen:Go.Shelf.Ren:=⟨fun|196=>267|259=>299|n=>n,fun|0=>0|3=>3|4=>4|5=>5|9=>9|12=>12|46=>136|53=>258|119=>310|138=>330|139=>331|n=>n,fun|3=>(Tryz.prog.globals.findIdx? (·.name== "unicode/utf8.first")).getD 0|4=>(Tryz.prog.globals.findIdx? (·.name== "unicode/utf8.acceptRanges")).getD 0|n=>n⟩
theorem validLays:Go.Proofs.Lays.n196 Tryz.prog validRen:= {
 mixed:=by kernel_rfl
 f196:=Tryz.func267.trans (congrArg some (by kernel_rfl))
 f259:=Tryz.func299.trans (congrArg some (by kernel_rfl))
 t0:=Tryz.underlying0
 a0:=Tryz.isAgg0
 z0:=Tryz.sizeOf0
 v0:=Tryz.zeroValue0
 t3:=Tryz.underlying3
 a3:=Tryz.isAgg3
 z3:=Tryz.sizeOf3
 v3:=Tryz.zeroValue3
 t4:=Tryz.underlying4
 a4:=Tryz.isAgg4
 z4:=Tryz.sizeOf4
 v4:=Tryz.zeroValue4
 t5:=Tryz.underlying5
 a5:=Tryz.isAgg5
 z5:=Tryz.sizeOf5
 v5:=Tryz.zeroValue5
 t9:=Tryz.underlying9
 a9:=Tryz.isAgg9
 z9:=Tryz.sizeOf9
 v9:=Tryz.zeroValue9
 t12:=Tryz.underlying12
 a12:=Tryz.isAgg12
 z12:=Tryz.sizeOf12
 v12:=Tryz.zeroValue12
 t46:=Tryz.underlying136
 a46:=Tryz.isAgg136
 z46:=Tryz.sizeOf136
 v46:=Tryz.zeroValue136
 t53:=Tryz.underlying258
 a53:=Tryz.isAgg258
 z53:=Tryz.sizeOf258
 v53:=Tryz.zeroValue258
 t119:=Tryz.underlying310
 a119:=Tryz.isAgg310
 z119:=Tryz.sizeOf310
 t138:=Tryz.underlying330
 a138:=Tryz.isAgg330
 z138:=Tryz.sizeOf330
 v138:=Tryz.zeroValue330
 t139:=Tryz.underlying331
 a139:=Tryz.isAgg331
 z139:=Tryz.sizeOf331
 v139:=Tryz.zeroValue331
 g3:=by kernel_rfl
 g4:=by kernel_rfl}
theorem valid_any (s:List UInt8) (w:World) (hs:s.length≤9223372036854775807) (hT:Lib.Utf8Tabs (validRen.g 3) (validRen.g 4) w):
 Calls Tryz.prog 267 #[.string ⟨s.toArray⟩] w fun e w'=>e= .returned (.bool (Lib.validD s))∧Below w.heap.size w w':=by
 have:=Any.utf8_ValidString validLays ⟨s.toArray⟩ w hs hT
 exact this
def Marks (B:Nat) (w:World) (ds:List Deferred):Prop:=
 ∃Ds:List Nat,ds=Ds.map (fun D=> {target:= .collected D,args:= #[]})∧Ds.Nodup∧∀D∈Ds,B≤D∧w.heap[D]?=some (.deferred (some []))
theorem marks_nil (B:Nat) (w:World):Marks B w []:=⟨[],rfl,List.nodup_nil,fun D h=>by simp at h⟩
theorem Marks.push {B:Nat} {w W:World} {ds:List Deferred} {D:Nat} (h:Marks B w ds) (hD:w.heap.size≤D) (hB:B≤w.heap.size) (hk:∀(D':Nat) (o:Option (List Deferred)),w.heap[D']?=some (Obj.deferred o)→W.heap[D']?=some (Obj.deferred o)) (hd:W.heap[D]?=some (.deferred (some []))):
 Marks B W ({target:= .collected D,args:= #[]}::ds):=by
 obtain⟨Ds,rfl,hn,hm⟩:=h
 refine⟨D::Ds,rfl,List.nodup_cons.2 ⟨fun hi=> ?_,hn⟩,fun D' hD'=> ?_⟩
 ·have:=(Array.getElem?_eq_some_iff.1 (hm D hi).2).1
  omega
 ·rcases List.mem_cons.1 hD' with rfl|hi
  ·exact⟨by omega,hd⟩
  ·exact⟨(hm D' hi).1,hk _ _ (hm D' hi).2⟩
theorem Marks.kept {B:Nat} {w W:World} {ds:List Deferred} (h:Marks B w ds) (hk:∀(D':Nat) (o:Option (List Deferred)),w.heap[D']?=some (Obj.deferred o)→W.heap[D']?=some (Obj.deferred o)):Marks B W ds:=by
 obtain⟨Ds,rfl,hn,hm⟩:=h;exact⟨Ds,rfl,hn,fun D' hD'=>⟨(hm D' hD').1,hk _ _ (hm D' hD').2⟩⟩
theorem leaves_marks {F:Fence} {n:Nat} {P:Program} {fn:Func} {tmps:Array Value} {R:Ending→World→Prop} {B:Nat} {v:Value} (hv:∀w,(results fn tmps).run P w= .ok v w):∀(Ds:List Nat) (w:World),Ds.Nodup→(∀D∈Ds,B≤D∧w.heap[D]?=some (.deferred (some [])))→B≤w.heap.size→
 (∀W,Below B w W→R (.returned v) W)→LeavesInM F n P fn tmps R (Ds.map (fun D=> {target:= .collected D,args:= #[]})) .returning w
 |[],w,_,_,_,h=>⟨v,hv w,h w (Below.refl _ _)⟩
 |D::Ds,w,hn,hm,hB,h=>by
  have h1:=hm D List.mem_cons_self;have hn':=List.nodup_cons.1 hn;refine⟨by simp, .inl ⟨D,_,rfl,run_takeDeferred h1.2, ?_⟩⟩;have hsz:∀o,(w.putObj D o).heap.size=w.heap.size:=fun o=>by simp[World.putObj]
  have hbl:∀o,Below B w (w.putObj D o):=fun o=>(Below.refl B w).grown (grownBy_putObj' w D o) hB (fun k e=>by cases e;exact h1.1)
  refine leaves_marks hv Ds _ hn'.2 (fun D' hD'=>⟨(hm D' (List.mem_cons_of_mem _ hD')).1,(World.putObj_heap_other (fun e=>hn'.1 (by rw[←e];exact hD'))).trans (hm D' (List.mem_cons_of_mem _ hD')).2⟩) (by rw[hsz];exact hB) (fun W hW=>h W ((hbl _).trans hW))
structure Mem (B:Nat) (w0:World) (row:Option (Nat×Array Value)) (ds:List Deferred) (out:List UInt8) (wr:World):Prop where
 bld:Lib.IsBuilderF 171 5 B B (Lib.byteCells out) wr
 low:Below B w0 wr
 sz:B<wr.heap.size
 marks:Marks B wr ds
 row:∀g cur,row=some (g,cur)→B<g∧wr.heap[g]?=some (.cells cur 3 (0,0))
variable {B:Nat} {w0:World} {row:Option (Nat×Array Value)} {ds:List Deferred} {out:List UInt8} {wr:World}
theorem Mem.alloc (h:Mem B w0 row ds out wr) (o:Obj):Mem B w0 row ds out (wr.alloc o):=by
 have hk:∀k x,wr.heap[k]?=some x→(wr.alloc o).heap[k]?=some x:=fun k x hk=>(Lib.alloc_old wr o k (Array.getElem?_eq_some_iff.1 hk).1).trans hk
 exact⟨h.bld.alloc o,h.low.alloc (Nat.le_of_lt h.sz) o,by have:=h.sz;simp;omega,h.marks.kept (fun D o' h'=>hk D _ h'),fun g cur e=>⟨(h.row g cur e).1,hk _ _ (h.row g cur e).2⟩⟩
theorem Mem.drew (h:Mem B w0 row ds out wr):Mem B w0 row ds out wr.drew:=⟨h.bld,h.low.drew,h.sz,h.marks,h.row⟩
theorem Mem.iterAt (h:Mem B w0 row ds out wr) {k:Nat} {s:ByteArray} {pos:Nat} (hk:wr.heap[k]?=some (.stringIter s pos)) (hB:B≤k) (pos':Nat):Mem B w0 row ds out (wr.iterAt k s pos'):=by
 have ho:∀j x,wr.heap[j]?=some x→(∀s p,x≠Obj.stringIter s p)→(wr.iterAt k s pos').heap[j]?=some x:=fun j x hj hx=>
  (Lib.iterAt_other wr k j s pos' (fun e=>by subst e;rw[hk]at hj;exact hx s pos (Option.some.inj hj).symm)).trans hj
 exact⟨h.bld.iterAt hk pos',Lib.below_iterAt h.low hB s pos',by rw[Lib.iterAt_size];exact h.sz,h.marks.kept (fun D o h'=>ho D _ h' (fun _ _ e=>by cases e)),fun g cur e=>⟨(h.row g cur e).1,ho _ _ (h.row g cur e).2 (fun _ _ e=>by cases e)⟩⟩
theorem Mem.told (h:Mem B w0 row ds out wr) {Bn D:Nat} {W:World} {more:List UInt8} (hBn:∃c t fz,wr.heap[Bn]?=some (.cells c t fz)) (hrow:∀g cur,row=some (g,cur)→g≠Bn) (hD:wr.heap.size≤D)
 (hb:Lib.IsBuilderF 171 5 B B (Lib.byteCells (out++more)) W) (hl:Below B wr W) (hk:KeptBut B Bn wr W) (hd:W.heap[D]?=some (.deferred (some []))):
 Mem B w0 row ({target:= .collected D,args:= #[]}::ds) (out++more) W:=by
 obtain⟨c,t,fz,hBn⟩:=hBn
 have hB:∃c t fz,wr.heap[B]?=some (.cells c t fz):=by
  rcases h.bld with ⟨_,v,hb,_⟩|⟨_,v,hb,_⟩
  ·exact⟨_,_,_,hb⟩
  ·exact⟨_,_,_,hb⟩
 obtain⟨c',t',fz',hB⟩:=hB
 refine⟨hb,h.low.trans hl,Nat.lt_of_lt_of_le h.sz hl.size,h.marks.push hD (Nat.le_of_lt h.sz) (fun D' o hD'=> ?_) hd,fun g cur e=>⟨(h.row g cur e).1,hk g _ (h.row g cur e).2 (by have:=(h.row g cur e).1;omega) (hrow g cur e) (fun c fz e=>by cases e)⟩⟩
 exact hk D' _ hD' (fun e=>by subst e;rw[hB]at hD';cases hD') (fun e=>by subst e;rw[hBn]at hD';cases hD') (fun c fz e=>by cases e)
theorem Mem.wrote (h:Mem B w0 row ds out wr) {W:World} {c:UInt8} (hb:Lib.BuilderAtF 171 5 B B (.pointer (some ⟨B,0,none⟩)) (Lib.byteCells out++[.int .u8 (c.toNat:Int)]) W) (hl:Below B wr W) (hk:Lib.OthersKept 5 (some B) wr W):
 Mem B w0 row ds (out++[c]) W:=by
 have hB:∃c t fz,wr.heap[B]?=some (.cells c t fz):=by
  rcases h.bld with ⟨_,v,hb,_⟩|⟨_,v,hb,_⟩
  ·exact⟨_,_,_,hb⟩
  ·exact⟨_,_,_,hb⟩
 obtain⟨c',t',fz',hB⟩:=hB
 refine⟨Or.inr (by rw[Lib.byteCells_append];exact hb),h.low.trans hl,Nat.lt_of_lt_of_le h.sz hl.size,h.marks.kept (fun D' o hD'=>hk D' _ hD' (fun e=> ?_) (fun c fz e=>by cases e)),fun g cur e=>⟨(h.row g cur e).1,hk g _ (h.row g cur e).2 (fun e'=> ?_) (fun c fz e=>by cases e)⟩⟩
 ·have:=Option.some.inj e
  subst this;rw[hB]at hD';cases hD'
 ·have:=(h.row g cur e).1
  have:=Option.some.inj e';omega
theorem Mem.grown (h:Mem B w0 none ds out wr) {W:World} {g:Option Nat} (hg:wr.grownBy W g) (hr:∀k,g=some k→B<k∧∃c fz,wr.heap[k]?=some (.cells c 3 fz)):Mem B w0 none ds out W:=by
 have hk:∀k o,wr.heap[k]?=some o→(∀c fz,o≠Obj.cells c 3 fz)→W.heap[k]?=some o:=fun k o hk ho=>by
  refine(hg.block k (Array.getElem?_eq_some_iff.1 hk).1 (fun e=> ?_)).trans hk;obtain⟨_,c,fz,h'⟩:=hr k e.symm;rw[hk]at h';exact ho c fz (Option.some.inj h')
 refine⟨builder_same h.bld ?_ (fun k c fz hc=>hk k _ hc (fun c' fz' e=>by cases e)),h.low.grown hg (Nat.le_of_lt h.sz) (fun k e=>Nat.le_of_lt (hr k e).1),Nat.lt_of_lt_of_le h.sz hg.size,h.marks.kept (fun D' o hD'=>hk D' _ hD' (fun c fz e=>by cases e)),fun g cur e=>by cases e⟩;exact hg.block B h.sz (fun e=>by have:=(hr B e.symm).1;omega)
theorem own_same {w W:World} {base e:Nat} {v:Value} {n:Nat} {xs:List Value} (h:w.ownsRow base e 1 v n xs) (hk:∀(k:Nat) (c:Array Value),base≤k→w.heap[k]?=some (Obj.cells c e (0,0))→W.heap[k]?=some (Obj.cells c e (0,0))):W.ownsRow base e 1 v n xs:=by
 refine⟨h.1, ?_⟩;rcases h.2 with h0|⟨g,cap,cur,hv,hb,hg,rest⟩
 ·exact .inl h0
 ·exact .inr ⟨g,cap,cur,hv,hb,hk g cur hb hg,rest⟩
theorem own_iterAt {w:World} {base e:Nat} {v:Value} {n:Nat} {xs:List Value} (h:w.ownsRow base e 1 v n xs) {k:Nat} {s:ByteArray} {pos:Nat} (hk:w.heap[k]?=some (.stringIter s pos)) (pos':Nat):(w.iterAt k s pos').ownsRow base e 1 v n xs:=
 own_same h (fun j c _ hj=>(Lib.iterAt_other w k j s pos' (fun e=>by rw[e,hk]at hj;cases hj)).trans hj)
theorem own_wrote {w W:World} {B:Nat} {v:Value} {n:Nat} {xs:List Value} (h:w.ownsRow (B+1) 3 1 v n xs) (hk:Lib.OthersKept 5 (some B) w W):W.ownsRow (B+1) 3 1 v n xs:=
 own_same h (fun j c hj hc=>hk j _ hc (fun e=>by have:=Option.some.inj e;omega) (fun c' fz e=>by cases e))
theorem own_kind {w:World} {base e:Nat} {v:Value} {n:Nat} {xs:List Value} (h:w.ownsRow base e 1 v n xs):∀k,v.ownBlock=some k→base≤k∧∃c fz,w.heap[k]?=some (.cells c e fz):=by
 intro k hk;rcases h.2 with ⟨rfl,_⟩|⟨g,cap,cur,rfl,hb,hg,_⟩
 ·simp[Value.ownBlock]at hk
 ·simp[Value.ownBlock]at hk
  subst hk;exact⟨hb,cur,_,hg⟩
theorem iter_grown {w W:World} {row:Option Nat} {k:Nat} {s:ByteArray} {pos:Nat} (hk:w.heap[k]?=some (.stringIter s pos)) (hg:w.grownBy W row) (hr:∀j,row=some j→∃c t fz,w.heap[j]?=some (.cells c t fz)):W.heap[k]?=some (.stringIter s pos):=
 (hg.block k (Array.getElem?_eq_some_iff.1 hk).1 (fun e=>by obtain⟨c,t,fz,h⟩:=hr k e.symm;rw[hk]at h;cases h)).trans hk
end Go.Proofs.YtjkipdoebkhkaaaGreatDoor
namespace Go.Proofs.YtjkipdoebkhkaaaGreatDoor
open Go.RowKit
theorem lit101 (A:Array Value) (h:A.size=101):A=[A.getD 0 undef,A.getD 1 undef,A.getD 2 undef,A.getD 3 undef,A.getD 4 undef,A.getD 5 undef,A.getD 6 undef,A.getD 7 undef,A.getD 8 undef,A.getD 9 undef,A.getD 10 undef,A.getD 11 undef,A.getD 12 undef,A.getD 13 undef,A.getD 14 undef,A.getD 15 undef,A.getD 16 undef,A.getD 17 undef,A.getD 18 undef,A.getD 19 undef,A.getD 20 undef,A.getD 21 undef,A.getD 22 undef,A.getD 23 undef,A.getD 24 undef,A.getD 25 undef,A.getD 26 undef,A.getD 27 undef,A.getD 28 undef,A.getD 29 undef,A.getD 30 undef,A.getD 31 undef,A.getD 32 undef,A.getD 33 undef,A.getD 34 undef,A.getD 35 undef,A.getD 36 undef,A.getD 37 undef,A.getD 38 undef,A.getD 39 undef,A.getD 40 undef,A.getD 41 undef,A.getD 42 undef,A.getD 43 undef,A.getD 44 undef,A.getD 45 undef,A.getD 46 undef,A.getD 47 undef,A.getD 48 undef,A.getD 49 undef,A.getD 50 undef,A.getD 51 undef,A.getD 52 undef,A.getD 53 undef,A.getD 54 undef,A.getD 55 undef,A.getD 56 undef,A.getD 57 undef,A.getD 58 undef,A.getD 59 undef,A.getD 60 undef,A.getD 61 undef,A.getD 62 undef,A.getD 63 undef,A.getD 64 undef,A.getD 65 undef,A.getD 66 undef,A.getD 67 undef,A.getD 68 undef,A.getD 69 undef,A.getD 70 undef,A.getD 71 undef,A.getD 72 undef,A.getD 73 undef,A.getD 74 undef,A.getD 75 undef,A.getD 76 undef,A.getD 77 undef,A.getD 78 undef,A.getD 79 undef,A.getD 80 undef,A.getD 81 undef,A.getD 82 undef,A.getD 83 undef,A.getD 84 undef,A.getD 85 undef,A.getD 86 undef,A.getD 87 undef,A.getD 88 undef,A.getD 89 undef,A.getD 90 undef,A.getD 91 undef,A.getD 92 undef,A.getD 93 undef,A.getD 94 undef,A.getD 95 undef,A.getD 96 undef,A.getD 97 undef,A.getD 98 undef,A.getD 99 undef,A.getD 100 undef].toArray:=by
 obtain⟨l⟩:=A;have h':l.length=101:=h;have e:l=(List.range 101).map (fun i=>(Array.mk l).getD i undef):=by
  apply List.ext_getElem
  ·simp[h']
  ·intro i h1 h2
   simp[Array.getD,h1]
 exact congrArg Array.mk e
structure OuterI (s:List UInt8) (R:List Nat) (w1:World) (ad:Option Addr) (cp:Nat) (row:Option (Nat×Array Value)) (gk:Nat) (a:Act) (wx:World):Prop where
 size:a.tmps.size=101
 h0:a.tmps.getD 0 undef= .string ⟨s.toArray⟩
 h4:a.tmps.getD 4 undef= .pointer (some ⟨w1.heap.size,0,none⟩)
 h8:a.tmps.getD 8 undef= .int .i64 ((plainB R).length:Int)
 h49:a.tmps.getD 49 undef= .slice ad (msI R).length cp
 h50:a.tmps.getD 50 undef= .int .i64 ((msN R).length:Int)
 rel:∃(mpre mrest:List Nat) (x:Nat×ES),(Hid (msN R=mpre++mrest)∧Hid (runS R (plainB R).length mpre (start R)=x)∧OutOk R (plainB R).length x mrest∧gk=mrest.length∧Mem w1.heap.size w1 row a.defers x.2.out wx)∧a.tmps.getD 9 undef= .int .i64 (x.2.b:Int)∧a.tmps.getD 10 undef= .int .i64 (x.2.n:Int)∧a.tmps.getD 11 undef= .int .i64 (x.2.many:Int)∧a.tmps.getD 12 undef= .int .i64 (x.1:Int)∧a.tmps.getD 51 undef= .int .i64 (mpre.length:Int)
theorem OuterI.opened (s:List UInt8) (R:List Nat) (w1:World) (ad:Option Addr) (cp:Nat) (row:Option (Nat×Array Value)) {gk:Nat} {a:Act} {wx:World} (h:OuterI s R w1 ad cp row gk a wx):∃(u:Nat→Value) (ds:List Deferred) (mpre mrest:List Nat) (x:Nat×ES),(Hid (msN R=mpre++mrest)∧Hid (runS R (plainB R).length mpre (start R)=x)∧OutOk R (plainB R).length x mrest∧gk=mrest.length∧Mem w1.heap.size w1 row ds x.2.out wx)∧a= {tmps:=[.string ⟨s.toArray⟩,u 1,u 2,u 3, .pointer (some ⟨w1.heap.size,0,none⟩),u 5,u 6,u 7, .int .i64 ((plainB R).length:Int), .int .i64 (x.2.b:Int), .int .i64 (x.2.n:Int), .int .i64 (x.2.many:Int), .int .i64 (x.1:Int),u 13,u 14,u 15,u 16,u 17,u 18,u 19,u 20,u 21,u 22,u 23,u 24,u 25,u 26,u 27,u 28,u 29,u 30,u 31,u 32,u 33,u 34,u 35,u 36,u 37,u 38,u 39,u 40,u 41,u 42,u 43,u 44,u 45,u 46,u 47,u 48, .slice ad (msI R).length cp, .int .i64 ((msN R).length:Int), .int .i64 (mpre.length:Int),u 52,u 53,u 54,u 55,u 56,u 57,u 58,u 59,u 60,u 61,u 62,u 63,u 64,u 65,u 66,u 67,u 68,u 69,u 70,u 71,u 72,u 73,u 74,u 75,u 76,u 77,u 78,u 79,u 80,u 81,u 82,u 83,u 84,u 85,u 86,u 87,u 88,u 89,u 90,u 91,u 92,u 93,u 94,u 95,u 96,u 97,u 98,u 99,u 100].toArray,defers:=ds}:=by
 obtain⟨mpre,mrest,x,hrel,v9,v10,v11,v12,v51⟩:=h.rel;refine⟨fun i=>a.tmps.getD i undef,a.defers,mpre,mrest,x,hrel, ?_⟩;have e:=lit101 a.tmps h.size;rw[h.h0,h.h4,h.h8,h.h49,h.h50,v9,v10,v11,v12,v51]at e;obtain⟨t,d⟩:=a;exact congrArg (fun t=>Act.mk t d) e
structure InnerI (s:List UInt8) (R:List Nat) (w1:World) (ad:Option Addr) (cp:Nat) (row:Option (Nat×Array Value)) (mpre:List Nat) (x:Nat×ES) (m kk:Nat) (gk:Nat) (a:Act) (wx:World):Prop where
 size:a.tmps.size=101
 h0:a.tmps.getD 0 undef= .string ⟨s.toArray⟩
 h4:a.tmps.getD 4 undef= .pointer (some ⟨w1.heap.size,0,none⟩)
 h8:a.tmps.getD 8 undef= .int .i64 ((plainB R).length:Int)
 h49:a.tmps.getD 49 undef= .slice ad (msI R).length cp
 h50:a.tmps.getD 50 undef= .int .i64 ((msN R).length:Int)
 h12:a.tmps.getD 12 undef= .int .i64 (x.1:Int)
 h14:a.tmps.getD 14 undef= .int .i64 (m:Int)
 h51:a.tmps.getD 51 undef= .int .i64 (mpre.length:Int)
 h64:a.tmps.getD 64 undef= .pointer (some ⟨kk,0,none⟩)
 rel:∃(pos:Nat) (pre:List Nat) (st:ES),(Thru s pre pos∧Hid (passS m (plainB R).length pre ⟨x.2.b,x.2.n+(m-x.1)*(x.2.many+1),x.2.many,x.2.out⟩=st)∧Mem w1.heap.size w1 row a.defers st.out wx∧wx.heap[kk]?=some (.stringIter ⟨s.toArray⟩ pos)∧gk=s.length-pos)∧a.tmps.getD 9 undef= .int .i64 (st.b:Int)∧a.tmps.getD 10 undef= .int .i64 (st.n:Int)∧a.tmps.getD 11 undef= .int .i64 (st.many:Int)
theorem InnerI.opened (s:List UInt8) (R:List Nat) (w1:World) (ad:Option Addr) (cp:Nat) (row:Option (Nat×Array Value)) (mpre:List Nat) (x:Nat×ES) (m kk:Nat) {gk:Nat} {a:Act} {wx:World} (h:InnerI s R w1 ad cp row mpre x m kk gk a wx):∃(u:Nat→Value) (ds:List Deferred) (pos:Nat) (pre:List Nat) (st:ES),(Thru s pre pos∧Hid (passS m (plainB R).length pre ⟨x.2.b,x.2.n+(m-x.1)*(x.2.many+1),x.2.many,x.2.out⟩=st)∧Mem w1.heap.size w1 row ds st.out wx∧wx.heap[kk]?=some (.stringIter ⟨s.toArray⟩ pos)∧gk=s.length-pos)∧a= {tmps:=[.string ⟨s.toArray⟩,u 1,u 2,u 3, .pointer (some ⟨w1.heap.size,0,none⟩),u 5,u 6,u 7, .int .i64 ((plainB R).length:Int), .int .i64 (st.b:Int), .int .i64 (st.n:Int), .int .i64 (st.many:Int), .int .i64 (x.1:Int),u 13, .int .i64 (m:Int),u 15,u 16,u 17,u 18,u 19,u 20,u 21,u 22,u 23,u 24,u 25,u 26,u 27,u 28,u 29,u 30,u 31,u 32,u 33,u 34,u 35,u 36,u 37,u 38,u 39,u 40,u 41,u 42,u 43,u 44,u 45,u 46,u 47,u 48, .slice ad (msI R).length cp, .int .i64 ((msN R).length:Int), .int .i64 (mpre.length:Int),u 52,u 53,u 54,u 55,u 56,u 57,u 58,u 59,u 60,u 61,u 62,u 63, .pointer (some ⟨kk,0,none⟩),u 65,u 66,u 67,u 68,u 69,u 70,u 71,u 72,u 73,u 74,u 75,u 76,u 77,u 78,u 79,u 80,u 81,u 82,u 83,u 84,u 85,u 86,u 87,u 88,u 89,u 90,u 91,u 92,u 93,u 94,u 95,u 96,u 97,u 98,u 99,u 100].toArray,defers:=ds}:=by
 obtain⟨pos,pre,st,hrel,v9,v10,v11⟩:=h.rel;refine⟨fun i=>a.tmps.getD i undef,a.defers,pos,pre,st,hrel, ?_⟩;have e:=lit101 a.tmps h.size;rw[h.h0,h.h4,h.h8,h.h49,h.h50,h.h12,h.h14,h.h51,h.h64,v9,v10,v11]at e;obtain⟨t,d⟩:=a;exact congrArg (fun t=>Act.mk t d) e
attribute [local go_sem] Oper.semAt_some
def othersN (R:List Nat):List Nat:=R.filter (128≤ ·)
theorem i64s_int (l:List Nat):i64s l=intVs (l.map Int.ofNat):=by simp[i64s,intVs,List.map_map]
theorem othersI_eq (R:List Nat):othersI R=(othersN R).map Int.ofNat:=rfl
theorem msN_len (R:List Nat):(msN R).length≤R.length:=by
 have h1:(msI R).length≤(sortedI R).length:=Lib.compact_length_le _;have h2:(sortedI R).length=(othersI R).length:=by simp[sortedI]
 have h3:(othersI R).length≤R.length:=by rw[othersI,List.length_map];exact List.length_filter_le _ _
 simp only[msN,List.length_map];omega
set_option maxRecDepth 1000000 in
theorem encode_walk (s:List UInt8) (w:World) (hs:s.length≤65536) (hT:Lib.Utf8Tabs (validRen.g 3) (validRen.g 4) w) (hv:Lib.validD s=true):
 Calls Tryz.prog 270 #[.string ⟨s.toArray⟩] w fun e w'=>e= .returned (.tuple #[.string ⟨(encR (runes s)).toArray⟩, .int .i64 0])∧Below w.heap.size w w':=by
 have cv:=valid_any s w (by omega) hT
 rw[hv]at cv
 clear hv
 have hb:decide (65536<(s.length:Int))=false:=by simp;omega
 refine(callsIn_wide (n:=4)).1 (callsIn_of_wp_marks Tryz.func270 rfl trivial (wpIn_wide.2 ?_) rfl)
 simp only[Tryz.ntmps270,List.size_toArray,List.length_cons,List.length_nil,Nat.reduceAdd,Nat.reduceSub,Array.replicate_succ,Array.replicate_zero,List.push_toArray,List.append_toArray,List.nil_append,List.cons_append]
 iterate 12 go_step
 go_wp2_with(go_at_call 267;refine cv.mono ?_;rintro e w1 ⟨rfl,hb1⟩)
 go_loopw [5] (fun o wr=>∃(pos:Nat) (pre:List Nat),Thru s pre pos∧Mem w1.heap.size w1 none [] (plainB pre) wr∧wr.ownsRow (w1.heap.size+1) 3 1 o (othersN pre).length (i64s (othersN pre))∧wr.heap[w1.heap.size+1]?=some (.stringIter ⟨s.toArray⟩ pos)) (fun o wr=>s.length-wr.iterPos (w1.heap.size+1))
 case atStart=>
  refine⟨0,[],thru_start s, ?_,World.ownsRow_nil _ _ _ _, ?_⟩
  ·exact⟨(Lib.IsBuilderF.of (Lib.fresh_isBuilder _ _ w1)).alloc _,((Below.refl _ w1).alloc (Nat.le_refl _) _).alloc (by rw[World.size_alloc];omega) _,by show _<(World.alloc _ _).heap.size;rw[World.size_alloc,World.size_alloc];omega,marks_nil _ _,fun g cur e=>by cases e⟩
  ·have:=World.iter_heap (w1.alloc (.cells #[.pointer none, .slice none 0 0] 171)) ⟨s.toArray⟩ 0
   simpa using this
 case round=>
  obtain⟨pos,pre,hth,hmem,hown,hit⟩:=hrel;have hpl:=thru_len hth;have hol:(othersN pre).length≤pre.length:=List.length_filter_le _ _;have hpb:(plainB pre).length≤pre.length:=by simp only[plainB,List.length_map];exact List.length_filter_le _ _
  by_cases hp:pos<s.length
  ·have hth2:=thru_step hth hp
   have hwd:1≤(Utf8.decode ⟨s.toArray⟩ pos).2:=by have:=Lib.decodeL_drop ⟨s.toArray⟩ pos;rw[←this];exact Lib.decodeL_width _
   have hc:(Utf8.decode ⟨s.toArray⟩ pos).1≤1114111:=by have:=Lib.decodeL_drop ⟨s.toArray⟩ pos;rw[←this];exact Lib.decodeL_rune _
   have hnx:∀ty,(Instr.next (.pointer (some ⟨w1.heap.size+1,0,none⟩)) true ty).run Tryz.prog wr=_:=fun ty=>Lib.run_next_any_at wr (w1.heap.size+1) ⟨s.toArray⟩ pos ty hit hp
   obtain⟨d,hd⟩:∃d,Utf8.decode ⟨s.toArray⟩ pos=d:=⟨_,rfl⟩;rw[hd]at hth2 hwd hc hnx;clear hd;obtain⟨c,z⟩:=d;simp only at hth2 hwd hc hnx;have hmem2:=hmem.iterAt hit (by omega) (pos+z);have hit2:=Lib.iterAt_heap wr (w1.heap.size+1) ⟨s.toArray⟩ pos (pos+z) hit;have hown2:=own_iterAt hown hit (pos+z);have hTh:=Lib.hid hth2;clear hth2 hth;by_cases h128:c<128
   ·have hci:(c:Int) % 256=(c:Int):=by omega
    go_wp2_with(go_at_call 134;refine(writeByte_k w1.heap.size w1.heap.size _ (c:Int) _ hmem2.bld (by rw[Lib.byteCells_length];omega) (Nat.le_of_lt hmem2.sz)).mono ?_);rintro e W1 ⟨rfl,h1,b1,k1⟩;go_wp2;go_roundw
    case rel=>
     refine⟨pos+z,pre++[c],hTh, ?_, ?_,k1.iter hit2 (by omega)⟩
     ·have e1:plainB (pre++[c])=plainB pre++[UInt8.ofNat c]:=by simp[plainB,h128]
      rw[e1];exact hmem2.wrote (by rw[u8_of (by omega)];exact h1) b1 k1
     ·have e1:othersN (pre++[c])=othersN pre:=by simp[othersN];omega
      rw[e1];exact own_wrote hown2 k1
    case measure=>
     simp only[World.iterPos,k1.iter hit2 (by omega),hit];omega
   ·go_wp2_with(at_builtin;refine wpList_append_vals e_int _ rfl _ _ rfl (w1.heap.size+1) _ _ _ rfl hown2 _ _ _ rfl rfl ?c1 ?c2 ?c3 ?c4 ?_)
    case c1=>(intro u hu;simp only[List.mem_cons,List.not_mem_nil,or_false]at hu;rcases hu with rfl;all_goals rfl)
    case c2=>simp;omega
    case c3=>simp;omega
    case c4=>have:=hmem2.sz;omega
    intro v' w2 hown3 hgr _;have hkd:=own_kind hown2;go_wp2;go_roundw
    case rel=>
     refine⟨pos+z,pre++[c],hTh, ?_, ?_,iter_grown hit2 hgr (fun j e=>by obtain⟨_,c,fz,h⟩:=hkd j e;exact⟨_,_,_,h⟩)⟩
     ·have e1:plainB (pre++[c])=plainB pre:=by simp[plainB,h128]
      rw[e1];exact hmem2.grown hgr (fun k e=>⟨by have:=(hkd k e).1;omega,(hkd k e).2⟩)
     ·have e1:othersN (pre++[c])=othersN pre++[c]:=by simp[othersN];omega
      rw[e1,List.length_append,i64s,List.map_append];exact hown3
    case measure=>
     simp only[World.iterPos,iter_grown hit2 hgr (fun j e=>by obtain⟨_,c,fz,h⟩:=hkd j e;exact⟨_,_,_,h⟩),hit];omega
  ·have hnx:∀ty,(Instr.next (.pointer (some ⟨w1.heap.size+1,0,none⟩)) true ty).run Tryz.prog wr=_:=fun ty=>Lib.run_next_end_at wr (w1.heap.size+1) ⟨s.toArray⟩ pos ty hit hp
   have hR:=thru_end hth hp;have hth':=Lib.hid hth;have hRR:=Lib.hid hR;clear hth hR;have cl:Calls Tryz.prog 303 #[.pointer (some ⟨w1.heap.size,0,none⟩)] wr fun e w'=>e= .returned (.int .i64 (plainB pre).length)∧w'=wr:=by
    have:=Tryz.Builder_Len_f w1.heap.size w1.heap.size _ _ hmem.bld;rwa[Lib.byteCells_length]at this
   go_upto_if 43 with (go_at_call 303;refine cl.mono ?_;rintro e w' ⟨rfl,rfl⟩);go_cut []from 18 to 44 (fun wx=>Mem w1.heap.size w1 none [] (startOut pre) wx∧wx.ownsRow (w1.heap.size+1) 3 1 u5 (othersN pre).length (i64s (othersN pre)))
   case first=>
    by_cases h0:0<(plainB pre).length
    ·have h0i:decide ((0:Int)<((plainB pre).length:Int))=true:=by simp;omega
     go_wp2_with(go_at_call 134;refine(writeByte_k w1.heap.size w1.heap.size _ 45 _ hmem.bld (by rw[Lib.byteCells_length];omega) (Nat.le_of_lt hmem.sz)).mono ?_);rintro e W1 ⟨rfl,h1,b1,k1⟩;go_wp2;go_meet
     case rel=>
      refine⟨?_,own_wrote hown k1⟩;have e1:startOut pre=plainB pre++[45]:=by unfold startOut;rw[if_pos h0]
      rw[e1];exact hmem.wrote (c:=45) h1 b1 k1
    ·go_wp2_with fail
     go_meet
     case rel=>
      refine⟨?_,hown⟩;have e1:startOut pre=plainB pre:=by unfold startOut;rw[if_neg h0,List.append_nil]
      rw[e1];exact hmem
   case rest=>
    obtain⟨hmem3,hown3⟩:=hcut;clear hmem hown hit hnx cl hp hth';obtain⟨R,rfl⟩:∃R,R=pre:=⟨_,rfl⟩;have hi:i64s (othersN R)=intVs (othersI R):=i64s_int _;have hil:(othersN R).length=(othersI R).length:=by rw[othersI_eq,List.length_map]
    rw[hi,hil]at hown3;have cs:=sort_any _ _ _ _ hown3 (by omega);clear hi;go_upto_region 18 with (go_at_call 304;refine cs.mono ?_;rintro e W2 ⟨rfl,hown4,hgr⟩);have hkd:=own_kind hown3;have hmem4:=hmem3.grown hgr (fun k e=>⟨by have:=(hkd k e).1;omega,(hkd k e).2⟩);have hkd4:=own_kind hown4;have hsl:((othersI R).mergeSort fun x y=>decide (x≤y)).length=(othersI R).length:=by simp
    have hown5:W2.ownsRow (w1.heap.size+1) 3 1 u5 (sortedI R).length (intVs (sortedI R)):=by rw[show(sortedI R).length=(othersI R).length from hsl];exact hown4
    have cc:=compact_any _ _ _ _ hown5 (by rw[show(sortedI R).length=(othersI R).length from hsl];omega);clear hgr hown3 hown4 hown5 hmem3 cs hkd;have hil':=Lib.hid hil;clear hil hsl;go_wp2_with(go_at_call 305;refine cc.mono ?_;rintro e W3 ⟨ad,cp,rfl,hgr,hrow⟩);obtain⟨row,hmem5,HR⟩:∃row,Mem w1.heap.size w1 row [] (startOut R) W3∧∀(j m:Nat),(msN R)[j]?=some m→∃gb cur,ad=some ⟨gb,0,none⟩∧row=some (gb,cur)∧cur[j]?=some (.int .i64 (m:Int)):=by
     have hmsI:=msI_nat R;rcases hrow with ⟨he,hno⟩|⟨g,cur,rfl,hgB,hob,hcur,htk⟩
     ·refine⟨none,hmem4.grown hgr (fun k e=>by rw[hno]at e;cases e),fun j m hj=> ?_⟩
      have he':msI R=[]:=he;rw[msN,he']at hj;simp at hj
     ·have hm:=hmem4.grown hgr (fun k e=>⟨by have:=(hkd4 k e).1;omega,(hkd4 k e).2⟩)
      refine⟨some (g,cur),⟨hm.bld,hm.low,hm.sz,hm.marks,fun g' cur' e=>by cases e;exact⟨by omega,hcur⟩⟩,fun j m hj=>⟨g,cur,rfl,rfl, ?_⟩⟩;have htk':cur.toList.take (msI R).length=intVs (msI R):=htk;have hjl:j<(msN R).length:=(List.getElem?_eq_some_iff.1 hj).1;have hjl2:j<(msI R).length:=by rw[hmsI,List.length_map];exact hjl
      have h1:=congrArg (fun l=>l[j]?) htk';simp only[List.getElem?_take_of_lt hjl2,Array.getElem?_toList]at h1;rw[h1,hmsI];simp[intVs,hj]
    have hms:(Lib.compact (sortedI R)).length=(msN R).length:=by simp[msN,msI]
    have hHR:=Lib.hid HR;clear HR hrow hgr hmem4 cc;refine wp_loop_ghost_k (OuterI s R w1 ad cp row) (msN R).length ?start ?round
    case start=>
     exact⟨rfl,rfl,rfl,rfl,rfl,congrArg (fun k:Nat=>Value.int .i64 (k:Int)) hms,[],msN R,start R,⟨rfl,rfl,start_ok R (fun c hc=>runes_le _ s (Nat.le_refl _) c (by rw[hRR.out];exact hc)),rfl,hmem5⟩,rfl,rfl,rfl,rfl,rfl⟩
    case round=>
     intro gk _ wo hinv;obtain⟨u,ds,mpre,mrest,x,⟨hmsr,hrun,hok,rfl,hmem⟩,rfl⟩:=hinv.opened;clear hinv;intro J K hJ hK
     cases mrest with
     |nil=>
      have hmo:Hid (msN R=mpre):=by have:=hmsr.out;rw[List.append_nil]at this;exact this
      have hml:¬mpre.length<(msN R).length:=by rw[hmo.out];omega
      have hmle:(msN R).length=mpre.length:=by rw[hmo.out]
      have hmlH:=Lib.hid hmle;clear hmle hms hHR hmem5 hkd4 hil' hol hpl;go_wp2_with(go_at_call 136;refine(Tryz.Builder_String_any_k w1.heap.size w1.heap.size x.2.out _ hmem.bld (Nat.le_of_lt hmem.sz)).mono ?_);rintro e W4 ⟨rfl,h1,b1,k1⟩;go_wp2;have hmk:Marks w1.heap.size W4 ds:=hmem.marks.kept (fun D o hD=>k1 D _ hD (fun e=>by
       have e:=Option.some.inj e;subst e;rcases hmem.bld with ⟨_,v,hb,_⟩|⟨_,v,hb,_⟩
       ·rw[hb]at hD;cases hD
       ·rw[hb]at hD;cases hD) (fun c fz e=>by cases e))
      obtain⟨Ds,rfl,hnd,hm⟩:=hmk;have hlow:=hmem.low.trans b1;refine leaves_marks (v:= .tuple #[.string ⟨x.2.out.toArray⟩, .int .i64 0]) (fun w=>results_tmp2 (fn:=Tryz.f270) (t:=2) (u:=3) rfl _ _ _) Ds W4 hnd hm hlow.size ?_;intro W hW;have hres:encR (runes s)=x.2.out:=by
       rw[hRR.out,encR,hmo.out,hrun.out]
      rw[hres];exact⟨rfl,hb1.trans ((hlow.trans hW).mono hb1.size)⟩
     |cons m mrest=>
      obtain⟨gb,cur,rfl,rfl,hcur⟩:=hHR.out mpre.length m (by rw[hmsr.out];simp);have hR7:R.length≤65536:=by omega
      obtain⟨hq1,hm7,hn7,hx1,hm1⟩:=hok.start_n hR7;have hlo:=hok.lo;have hbb:=hok.b;have hml:mpre.length<(msN R).length:=by rw[hmsr.out];simp
      have hms':(msI R).length=(msN R).length:=hms;have hrb:=hmem.row gb cur rfl;have hcell:wo.cell? ⟨gb,mpre.length,none⟩=some (.int .i64 (m:Int)):=by
       simp only[World.cell?,hrb.2];simpa using hcur
      have hP2:((m:Int)-(x.1:Int))*((x.2.many:Int)+1)=(((m-x.1)*(x.2.many+1):Nat):Int):=by
       rw[Int.natCast_mul,Int.natCast_sub (by omega)];rfl
      have hP0:(0:Int)≤((m:Int)-(x.1:Int))*((x.2.many:Int)+1):=by rw[hP2];omega
      have hP1:((m:Int)-(x.1:Int))*((x.2.many:Int)+1)≤73007103871:=by rw[hP2];omega
      have hPH:=Lib.hid hP2;clear hP2 hq1 hcur hms hHR hmem5 hkd4 hil' hol;have hmlen:(msI R).length=(msN R).length:=hms';have hidx:mpre.length<(msI R).length:=by omega
      have hmlenH:=Lib.hid hmlen;have hmb:mpre.length≤65536:=by have:=msN_len R;omega
      have hkB:w1.heap.size<wo.heap.size:=hmem.sz;clear hms' hmlen;go_wp2_with fail;refine wp_loop_ghost_k (InnerI s R w1 (some ⟨gb,0,none⟩) cp (some (gb,cur)) mpre x m wo.heap.size) s.length ?istart ?iround
      case istart=>
       refine⟨rfl,rfl,rfl,rfl,rfl,rfl,rfl,rfl,rfl,rfl,0,[],⟨x.2.b,x.2.n+(m-x.1)*(x.2.many+1),x.2.many,x.2.out⟩,⟨thru_start s,rfl,hmem.alloc _,World.iter_heap wo _ 0,by simp⟩,rfl, ?_,rfl⟩;show Value.int _ _=_;rw[Int.natCast_add,←hPH.out]
      case iround=>
       intro gi _ wr hinv;obtain⟨u',ds',pos,pre,st,⟨hth,hpass,hmem',hit,rfl⟩,rfl⟩:=hinv.opened;clear hinv hmem hrb hcell;intro J' K' hJ' hK';have hsplit:R=pre++runes (s.drop pos):=by rw[←hRR.out];exact hth.1
       obtain⟨sb,sn,sm,sp,so⟩:=hok.pass_bd hR7 pre _ hsplit hpass.out;by_cases hp:pos<s.length
       ·have hth2:=thru_step hth hp
        have hwd:1≤(Utf8.decode ⟨s.toArray⟩ pos).2:=by have:=Lib.decodeL_drop ⟨s.toArray⟩ pos;rw[←this];exact Lib.decodeL_width _
        have hc:(Utf8.decode ⟨s.toArray⟩ pos).1≤1114111:=by have:=Lib.decodeL_drop ⟨s.toArray⟩ pos;rw[←this];exact Lib.decodeL_rune _
        have hnx:∀ty,(Instr.next (.pointer (some ⟨wo.heap.size,0,none⟩)) true ty).run Tryz.prog wr=_:=fun ty=>Lib.run_next_any_at wr wo.heap.size ⟨s.toArray⟩ pos ty hit hp
        obtain⟨d,hd⟩:∃d,Utf8.decode ⟨s.toArray⟩ pos=d:=⟨_,rfl⟩;rw[hd]at hth2 hwd hc hnx;clear hd;obtain⟨c,z⟩:=d;simp only at hth2 hwd hc hnx;have hmem2:=hmem'.iterAt hit (Nat.le_of_lt hkB) (pos+z);have hit2:=Lib.iterAt_heap wr wo.heap.size ⟨s.toArray⟩ pos (pos+z) hit;have hTh:=Lib.hid hth2;have hsp:=Lib.hid hsplit;clear hth2 hth hsplit;rcases Nat.lt_trichotomy c m with hcm|hcm|hcm
        ·go_wp2_with fail
         refine Handed.intro (s.length-(pos+z)) (by omega) (hJ' _ _ _ ⟨rfl,rfl,rfl,rfl,rfl,rfl,rfl,rfl,rfl,rfl,pos+z,pre++[c],⟨st.b,st.n+1,st.many,st.out⟩,⟨hTh, ?_,hmem2,hit2,rfl⟩,rfl,rfl,rfl⟩);show _=_;rw[passS_snoc,hpass.out,stepS,if_pos hcm]
        ·subst hcm
         go_wp2_with(go_at_call 306;refine(tell_any st.b st.n _).mono ?_;rintro e w' ⟨rfl,rfl⟩);obtain⟨WW,hWW⟩:∃WW,wr.iterAt wo.heap.size ⟨s.toArray⟩ (pos+z)=WW:=⟨_,rfl⟩;rw[hWW]at hmem2 hit2⊢;clear hWW;have hb1':=Boxed.new WW 335 (.int .i64 (st.b:Int));have hmemA:=(hmem2.alloc (.cells #[.int .i64 (st.b:Int)] 335)).alloc (.cells #[.int .i64 (st.n:Int)] 3);have hbB:=hb1'.alloc (.cells #[.int .i64 (st.n:Int)] 3);have hbN:=Boxed.new (WW.alloc (.cells #[.int .i64 (st.b:Int)] 335)) 3 (.int .i64 (st.n:Int));rw[World.size_alloc]at hbN;have hsz2:=hmem2.sz;have hkk:wo.heap.size<WW.heap.size:=(Array.getElem?_eq_some_iff.1 hit2).1;have hrw:=(hmem2.row gb cur rfl).2;have hgk:gb<WW.heap.size:=(Array.getElem?_eq_some_iff.1 hrw).1;refine tell_range st.b st.n WW.heap.size (WW.heap.size+1) w1.heap.size w1.heap.size st.out rfl rfl (by omega) (by omega) (by omega) hbB hbN hmemA.bld (Nat.le_of_lt hmemA.sz) (by omega) (by omega) (by omega) hmemA.sz ?len ?round ?done
         case len=>have:=toldL_bd (n:=st.n) (b:=st.b) (k:=36) (by omega);omega
         case round=>
          intro l x W;gi_wp2;refine⟨trivial, ?_⟩;intro W2 post hw;have fw:Fence.wide.fn 134:=trivial;gi_wp2_with (gi_at_call 134;refine(CallsIn.inRound l (callsIn_wide.2 hw)).mono ?_;rintro e w' ⟨rfl,hpost⟩);exact hpost
         case done=>
          intro D W hD hbd hlow hkept hmark;have hit3:W.heap[wo.heap.size]?=some (.stringIter ⟨s.toArray⟩ (pos+z)):=hkept _ _ ((Lib.alloc_old _ _ _ (by simp;omega)).trans ((Lib.alloc_old _ _ _ hkk).trans hit2)) (by omega) (by omega) (fun c fz e=>by cases e);have hmem3:=hmemA.told ⟨_,_,_,hbN⟩ (fun g cur' e=>by cases e;omega) hD hbd hlow hkept hmark;clear hkept hmark hbd hlow hbN hbB hb1' hmemA hrw;have cn:∀w,Calls Tryz.prog 301 #[.int .i64 (st.n:Int), .int .i64 ((st.many:Int)+1), .bool ((st.many:Int)==((plainB R).length:Int))] w fun e w'=>e= .returned (.int .i64 ((nextL st.n (st.many+1) (decide (st.many=(plainB R).length)):Nat):Int))∧w=w':=fun w=>by
           have:=next_any st.n (st.many+1) (decide (st.many=(plainB R).length)) w (by omega) (by omega) (by omega);have e:((st.many:Int)==((plainB R).length:Int))=decide (st.many=(plainB R).length):=by rw[Bool.eq_iff_iff];simp;omega
           rw[e];exact this
          simp only[Exit.inBlock,Exit.then];go_wp2_with(go_at_call 301;refine(cn _).mono ?_;rintro e w' ⟨rfl,rfl⟩);refine Handed.intro (s.length-(pos+z)) (by omega) (hJ' _ _ _ ⟨rfl,rfl,rfl,rfl,rfl,rfl,rfl,rfl,rfl,rfl,pos+z,pre++[c],⟨nextL st.n (st.many+1) (decide (st.many=(plainB R).length)),0,st.many+1,st.out++toldL st.n st.b 36⟩,⟨hTh, ?_,hmem3,hit3,rfl⟩,rfl,rfl,rfl⟩);show _=_;rw[passS_snoc,hpass.out,stepS,if_neg (by omega),if_pos rfl]
        ·go_wp2_with fail
         refine Handed.intro (s.length-(pos+z)) (by omega) (hJ' _ _ _ ⟨rfl,rfl,rfl,rfl,rfl,rfl,rfl,rfl,rfl,rfl,pos+z,pre++[c],st,⟨hTh, ?_,hmem2,hit2,rfl⟩,rfl,rfl,rfl⟩);show _=_;rw[passS_snoc,hpass.out,stepS,if_neg (by omega),if_neg (by omega)]
       ·have hnx:∀ty,(Instr.next (.pointer (some ⟨wo.heap.size,0,none⟩)) true ty).run Tryz.prog wr=_:=fun ty=>Lib.run_next_end_at wr wo.heap.size ⟨s.toArray⟩ pos ty hit hp
        have hpre:Hid (pre=R):=by rw[←hRR.out];exact(thru_end hth hp).symm
        clear hsplit hth;go_wp2_with fail;have hst:passS m (plainB R).length R ⟨x.2.b,x.2.n+(m-x.1)*(x.2.many+1),x.2.many,x.2.out⟩=st:=by
         have:=hpass.out;rw[hpre.out]at this;exact this
        have ho:outS R (plainB R).length x m=(m+1,⟨st.b,st.n+1,st.many,st.out⟩):=by simp only[outS,hst]
        refine Handed.intro mrest.length (by simp) (hJ _ _ _ ⟨rfl,rfl,rfl,rfl,rfl,rfl,mpre++[m],mrest,(m+1,⟨st.b,st.n+1,st.many,st.out⟩),⟨?_, ?_, ?_,rfl,hmem'⟩,rfl,rfl,rfl,rfl, ?_⟩)
        ·show _=_
         rw[hmsr.out];simp
        ·show _=_
         rw[runS_snoc,hrun.out,ho]
        ·rw[←ho];exact hok.next hR7
        ·show Value.int _ _=_
         simp only[List.length_append,List.length_singleton,Int.natCast_add];rfl
end Go.Proofs.YtjkipdoebkhkaaaGreatDoor
namespace Go.Proofs.YtjkipdoebkhkaaaGreatDoor
open Go.RowKit
set_option maxRecDepth 100000 in
theorem encode_long (s:List UInt8) (w:World) (hs:65536<s.length) (hm:s.length≤140737488351232):
 Calls Tryz.prog 270 #[.string ⟨s.toArray⟩] w fun e w'=>e= .returned (.tuple #[.string ⟨#[]⟩, .int .i64 3])∧w=w':=by
 have hb:decide (65536<(s.length:Int))=true:=by simp;omega
 clear hs
 refine(callsIn_wide (n:=4)).1 (callsIn_of_wp_marks Tryz.func270 rfl trivial (wpIn_wide.2 ?_) rfl)
 simp only[Tryz.ntmps270,List.size_toArray,List.length_cons,List.length_nil,Nat.reduceAdd,Nat.reduceSub,Array.replicate_succ,Array.replicate_zero,List.push_toArray,List.append_toArray,List.nil_append,List.cons_append]
 iterate 12 go_step
 go_wp2_with fail
 exact⟨_,results_tmp2 (fn:=Tryz.f270) (t:=2) (u:=3) rfl _ _ _,rfl,rfl⟩
set_option maxRecDepth 100000 in
theorem encode_bad (s:List UInt8) (w:World) (hs:s.length≤65536) (hT:Lib.Utf8Tabs (validRen.g 3) (validRen.g 4) w) (hv:Lib.validD s=false):
 Calls Tryz.prog 270 #[.string ⟨s.toArray⟩] w fun e w'=>e= .returned (.tuple #[.string ⟨#[]⟩, .int .i64 4])∧Below w.heap.size w w':=by
 have cv:=valid_any s w (by omega) hT
 rw[hv]at cv
 clear hv
 have hb:decide (65536<(s.length:Int))=false:=by simp;omega
 refine(callsIn_wide (n:=4)).1 (callsIn_of_wp_marks Tryz.func270 rfl trivial (wpIn_wide.2 ?_) rfl)
 simp only[Tryz.ntmps270,List.size_toArray,List.length_cons,List.length_nil,Nat.reduceAdd,Nat.reduceSub,Array.replicate_succ,Array.replicate_zero,List.push_toArray,List.append_toArray,List.nil_append,List.cons_append]
 clear hs
 iterate 12 go_step
 go_wp2_with(go_at_call 267;refine cv.mono ?_;rintro e w1 ⟨rfl,hb1⟩)
 exact⟨_,results_tmp2 (fn:=Tryz.f270) (t:=2) (u:=3) rfl _ _ _,rfl,hb1⟩
def encodeL (s:List UInt8):List UInt8×Nat:=if 65536<s.length then ([],3)else if Lib.validD s then (encR (runes s),0)else ([],4)
def encV (r:List UInt8×Nat):Value:= .tuple #[.string ⟨r.1.toArray⟩, .int .i64 (r.2:Int)]
theorem encode_any (s:List UInt8) (w:World) (hs:s.length≤65536∨65536<s.length) (hm:s.length≤140737488351232) (hT:Lib.Utf8Tabs (validRen.g 3) (validRen.g 4) w):
 Calls Tryz.prog 270 #[.string ⟨s.toArray⟩] w fun e w'=>e= .returned (encV (encodeL s))∧Below w.heap.size w w':=by
 unfold encodeL
 rcases hs with hs|hs
 ·rw[if_neg (by omega)]
  cases hv:Lib.validD s with
  |true=>exact encode_walk s w hs hT hv
  |false=>exact encode_bad s w (by omega) hT hv
 ·rw[if_pos hs]
  refine(encode_long s w hs hm).mono ?_;rintro e w' ⟨he,rfl⟩;exact⟨he,Below.refl _ _⟩
end Go.Proofs.YtjkipdoebkhkaaaGreatDoor
