/- What a user keeps: cookies, seals; how much it is. -/
import Derived.Test.YtlhcfmcbpljbiaaGreatDoorUpSup
import Derived.Test.YtlhcfmcbpljbiaaGreatDoorGCtx2
set_option linter.unusedVariables false
set_option linter.unusedSimpArgs false
set_option maxHeartbeats 16000000
namespace Go.Proofs.YtlhcfmcbpljbiaaGreatDoor
open Go.RowKit
structure CookieL where
 name:List UInt8
 value:List UInt8
 host:List UInt8
 bare:Bool
 path:List UInt8
 secure:Bool
 hidden:Bool
 site:Int
 made:Int
 last:Int
 till:Int
 order:Int
structure SealL where
 host:List UInt8
 subs:Bool
 till:Int
def cellsK (c:CookieL):List Value:=[.string ⟨c.name.toArray⟩, .string ⟨c.value.toArray⟩, .string ⟨c.host.toArray⟩, .bool c.bare, .string ⟨c.path.toArray⟩, .bool c.secure, .bool c.hidden, .int .u8 c.site, .int .i64 c.made, .int .i64 c.last, .int .i64 c.till, .int .i64 c.order]
def cellsS (s:SealL):List Value:=[.string ⟨s.host.toArray⟩, .bool s.subs, .int .i64 s.till]
def sizeG {α:Type} (f:α→Nat):Nat→List α→Nat
 |n,[]=>n
 |n,x::l=>if n≤1048576 then sizeG f (n+f x) l else n
theorem sizeG_ge {α:Type} (f:α→Nat):∀(l:List α) (n:Nat),n≤sizeG f n l
 |[],n=>Nat.le_refl _
 |x::l,n=>by
  unfold sizeG;split
  ·exact Nat.le_trans (Nat.le_add_right _ _) (sizeG_ge f l _)
  ·exact Nat.le_refl _
theorem sizeG_drop {α:Type} (f:α→Nat) {l:List α} {n k:Nat} (hk:k<l.length):sizeG f n (l.drop k)=if n≤1048576 then sizeG f (n+f l[k]) (l.drop (k+1))else n:=by
 rw[List.drop_eq_getElem_cons hk];rfl
theorem sizeG_le {α:Type} (f:α→Nat) {B:Nat}:∀(l:List α) (n:Nat),(∀x∈l,f x≤B)→n≤1048576+B→sizeG f n l≤1048576+B
 |[],n,_,h=>h
 |x::l,n,hf,h=>by
  unfold sizeG;split
  ·exact sizeG_le f l _ (fun y hy=>hf y (List.mem_cons.2 (.inr hy))) (by have:=hf x (List.mem_cons.2 (.inl rfl));omega)
  ·exact h
def ckN (c:CookieL):Nat:=c.name.length+c.value.length+c.host.length+c.path.length
def slN (s:SealL):Nat:=s.host.length
def keepV (a b:Value) (n:Int):Value:= .agg #[a,b, .int .i64 n]
def keepN (J:List CookieL) (S:List SealL):Nat:=let n:=1+sizeG ckN J.length J;if n≤1048576 then n+sizeG slN S.length S else n
theorem below_nx {w W W':World} (h:Below w.heap.size w W) (k:Below W.heap.size W W'):Below w.heap.size w W':=h.trans (k.mono h.size)
theorem RowS.field {α:Type} {z:Nat} {enc:α→List Value} {w:World} {a:Addr} {n c:Nat} {X:List α} (h:RowS z enc w (.slice (some a) n c) X) {W:World} (hW:Below w.heap.size w W) (k:Nat) (hk:k<X.length):
 (∀u,(enc X[k])[0]?=some u→W.cell? (a.add (k*z))=some u)∧∀j u,(enc X[k])[j+1]?=some u→W.cell? ⟨(a.add (k*z)).block,(a.add (k*z)).off+(j+1),none⟩=some u:=
 ⟨fun u hu=>h.each k hk W hW 0 u hu,fun j u hu=>h.each k hk W hW (j+1) u hu⟩
theorem below_dnk {B:Nat} {a w:World} (h:Below B a w) (k:Nat):Below B a (w.drewN k):=⟨h.os,h.tape,h.output,h.size,h.block⟩
set_option maxRecDepth 100000 in
theorem sealssize_any (X:List SealL) (v:Value) (w:World) (h:RowS 3 cellsS w v X) (hl:X.length≤140737488351232) (hs:∀x∈X,slN x≤562949953404928):
 Calls Tryz.prog 100 #[v] w fun e w'=>e= .returned (.int .i64 (sizeG slN X.length X:Nat))∧Below w.heap.size w w':=by
 have hm:sizeG slN X.length X=sizeG slN X.length (X.drop 0):=rfl
 have HM:=Lib.hid hm
 have hbw:=Below.refl w.heap.size w
 rcases h with ⟨rfl,rfl⟩|⟨a,c,rfl,hc,hab,hcell⟩
 ·clear hm
  go_enter Tryz.func100,Tryz.ntmps100;go_wp2_with fail;go_loop [3,4] (fun n i=>n= .int .i64 0∧i= .int .i64 0) (fun _ _=>0)
  case atStart=>exact⟨rfl,rfl⟩
  case round=>
   obtain⟨rfl,rfl⟩:=hrel;go_wp2_with fail;go_ret;exact⟨rfl,hbw⟩
 ·have hrow:RowS 3 cellsS w (.slice (some a) X.length c) X:= .inr ⟨a,c,rfl,hc,hab,hcell⟩
  have HC:=Lib.hid hrow;have HS:=Lib.hid hs;clear hcell hm hs hrow;go_enter Tryz.func100,Tryz.ntmps100;go_wp2_with fail;go_loopw [3,4] (fun n i wr=>∃k m:Nat,k≤X.length∧i= .int .i64 k∧n= .int .i64 m∧m≤562949953404928+140737488351232+1048576∧Hid (sizeG slN X.length X=sizeG slN m (X.drop k))∧Below w.heap.size w wr) (fun _ i _=>X.length-(intOf i).toNat)
  case atStart=>exact⟨0,X.length,Nat.zero_le _,rfl,rfl,by omega,HM,hbw⟩
  case round=>
   obtain⟨k,m,hk,rfl,rfl,hm8,HK,hbr⟩:=hrel;by_cases hlt:k<X.length
   ·obtain⟨h0,h1⟩:=HC.out.field hbr k hlt
    have hsk:=HS.out _ (List.getElem_mem hlt);have hstep:=sizeG_drop slN (n:=m) hlt;by_cases h8:m≤1048576
    ·have HN:Hid (sizeG slN X.length X=sizeG slN (m+slN X[k]) (X.drop (k+1))):=by
      show _=_;rw[HK.out,hstep,if_pos h8]
     clear hstep;generalize X[k]=x at*;have e0:=h0 _ rfl;have hxn:slN x=x.host.length:=rfl;have HXN:=Lib.hid hxn;rw[hxn]at hsk;clear h0 h1 hxn;go_wp2_with fail;go_roundw
     case rel=>exact⟨k+1,m+slN x,by omega,by go_num,by rw[HXN.out];go_num,by rw[HXN.out];omega,HN,by first|exact hbr|exact hbr.drew|exact below_dnk hbr _⟩
     case measure=>simp[intOf];omega
    ·have HN:Hid (sizeG slN X.length X=m):=by
      show _=_;rw[HK.out,hstep,if_neg h8]
     clear hstep hsk h0 h1;go_wp2_with fail;go_ret;exact⟨ret_int (by rw[HN.out]),hbr⟩
   ·obtain rfl:k=X.length:=by omega
    have HN:Hid (sizeG slN X.length X=m):=by
     show _=_;rw[HK.out,List.drop_length];rfl
    go_wp2_with fail;go_ret;exact⟨ret_int (by rw[HN.out]),hbr⟩
set_option maxRecDepth 100000 in
theorem cookiessize_any (X:List CookieL) (v:Value) (w:World) (h:RowS 12 cellsK w v X) (hl:X.length≤140737488351232) (hs:∀x∈X,ckN x≤562949953404928):
 Calls Tryz.prog 99 #[v] w fun e w'=>e= .returned (.int .i64 (sizeG ckN X.length X:Nat))∧Below w.heap.size w w':=by
 have hm:sizeG ckN X.length X=sizeG ckN X.length (X.drop 0):=rfl
 have HM:=Lib.hid hm
 have hbw:=Below.refl w.heap.size w
 rcases h with ⟨rfl,rfl⟩|⟨a,c,rfl,hc,hab,hcell⟩
 ·clear hm
  go_enter Tryz.func99,Tryz.ntmps99;go_wp2_with fail;go_loop [3,4] (fun n i=>n= .int .i64 0∧i= .int .i64 0) (fun _ _=>0)
  case atStart=>exact⟨rfl,rfl⟩
  case round=>
   obtain⟨rfl,rfl⟩:=hrel;go_wp2_with fail;go_ret;exact⟨rfl,hbw⟩
 ·have hrow:RowS 12 cellsK w (.slice (some a) X.length c) X:= .inr ⟨a,c,rfl,hc,hab,hcell⟩
  have HC:=Lib.hid hrow;have HS:=Lib.hid hs;clear hcell hm hs hrow;go_enter Tryz.func99,Tryz.ntmps99;go_wp2_with fail;go_loopw [3,4] (fun n i wr=>∃k m:Nat,k≤X.length∧i= .int .i64 k∧n= .int .i64 m∧m≤562949953404928+140737488351232+1048576∧Hid (sizeG ckN X.length X=sizeG ckN m (X.drop k))∧Below w.heap.size w wr) (fun _ i _=>X.length-(intOf i).toNat)
  case atStart=>exact⟨0,X.length,Nat.zero_le _,rfl,rfl,by omega,HM,hbw⟩
  case round=>
   obtain⟨k,m,hk,rfl,rfl,hm8,HK,hbr⟩:=hrel;by_cases hlt:k<X.length
   ·obtain⟨h0,h1⟩:=HC.out.field hbr k hlt
    have hsk:=HS.out _ (List.getElem_mem hlt);have hstep:=sizeG_drop ckN (n:=m) hlt;by_cases h8:m≤1048576
    ·have HN:Hid (sizeG ckN X.length X=sizeG ckN (m+ckN X[k]) (X.drop (k+1))):=by
      show _=_;rw[HK.out,hstep,if_pos h8]
     clear hstep;generalize X[k]=x at*;have e0:=h0 _ rfl;have e1:=h1 0 _ rfl;have e2:=h1 1 _ rfl;have e3:=h1 3 _ rfl;have hxn:ckN x=x.name.length+x.value.length+x.host.length+x.path.length:=rfl;have HXN:=Lib.hid hxn;rw[hxn]at hsk;clear h0 h1 hxn;go_wp2_with fail;go_quiet (fail);go_wp2_with fail;go_roundw
     case rel=>exact⟨k+1,m+ckN x,by omega,by go_num,by rw[HXN.out];go_num,by rw[HXN.out];omega,HN,by first|exact hbr|exact hbr.drew|exact below_dnk hbr _⟩
     case measure=>simp[intOf];omega
    ·have HN:Hid (sizeG ckN X.length X=m):=by
      show _=_;rw[HK.out,hstep,if_neg h8]
     clear hstep hsk h0 h1;go_wp2_with fail;go_ret;exact⟨ret_int (by rw[HN.out]),hbr⟩
   ·obtain rfl:k=X.length:=by omega
    have HN:Hid (sizeG ckN X.length X=m):=by
     show _=_;rw[HK.out,List.drop_length];rfl
    go_wp2_with fail;go_ret;exact⟨ret_int (by rw[HN.out]),hbr⟩
set_option maxRecDepth 100000 in
theorem keepsize_any (a b:Value) (n:Int) (J:List CookieL) (S:List SealL) (w:World) (hJ:RowS 12 cellsK w a J) (hS:RowS 3 cellsS w b S) (lJ:J.length≤140737488351232) (lS:S.length≤140737488351232) (zJ:∀x∈J,ckN x≤562949953404928) (zS:∀x∈S,slN x≤562949953404928):
 Calls Tryz.prog 57 #[keepV a b n] w fun e w'=>e= .returned (.int .i64 (keepN J S:Nat))∧Below w.heap.size w w':=by
 have hg:=sizeG_ge ckN J J.length
 have hu:sizeG ckN J.length J≤1048576+703687441756160:=sizeG_le ckN J _ (fun x hx=>by have:=zJ x hx;omega) (by omega)
 have hv:sizeG slN S.length S≤1048576+703687441756160:=sizeG_le slN S _ (fun x hx=>by have:=zS x hx;omega) (by omega)
 obtain⟨W0,hW0⟩:∃W,w.alloc (.cells #[a,b, .int .i64 n] 44)=W:=⟨_,rfl⟩
 have hb0:Below w.heap.size w W0:=by rw[←hW0];exact below_alloc w _
 have hB0:W0.heap[w.heap.size]?=some (.cells #[a,b, .int .i64 n] 44 (0,0)):=by rw[←hW0];exact heap_alloc_new w _
 have hl0:=(Array.getElem?_eq_some_iff.1 hB0).1
 have c0:∀W,Below W0.heap.size W0 W→W.cell? ⟨w.heap.size,0,none⟩=some a:=fun W hW=>by rw[Lib.cell_of_heap ((hW.block _ hl0).trans hB0)];rfl
 have c1:∀W,Below W0.heap.size W0 W→W.cell? ⟨w.heap.size,1,none⟩=some b:=fun W hW=>by rw[Lib.cell_of_heap ((hW.block _ hl0).trans hB0)];rfl
 have cj:=fun W (hW:Below W0.heap.size W0 W)=>cookiessize_any J a W (hJ.below (hb0.trans (hW.mono hb0.size)) (Nat.le_refl _)) lJ zJ
 have cs:=fun W (hW:Below W0.heap.size W0 W)=>sealssize_any S b W (hS.below (hb0.trans (hW.mono hb0.size)) (Nat.le_refl _)) lS zS
 obtain⟨a1,a2,a3,rfl, -⟩:=hJ.conc
 obtain⟨b1,b2,b3,rfl, -⟩:=hS.conc
 have hk:keepN J S=if 1+sizeG ckN J.length J≤1048576 then 1+sizeG ckN J.length J+sizeG slN S.length S else 1+sizeG ckN J.length J:=rfl
 have HK:=Lib.hid hk
 have hbw:=Below.refl W0.heap.size W0
 have p0:=c0 W0 hbw
 have q:=c1
 have HW0:=Lib.hid hW0
 clear hk hJ hS zJ zS hB0 c0 hW0
 generalize sizeG ckN J.length J=nj at*
 generalize sizeG slN S.length S=ns at*
 unfold keepV
 by_cases h1:1+nj≤1048576
 ·have h1i:(1:Int)+(nj:Int)≤1048576:=by omega
  go_enter Tryz.func57,Tryz.ntmps57;go_upto_region 1 with fail;rw[HW0.out];clear HW0;go_wp2_with fail;go_at_call 99;refine(cj _ hbw).mono ?_;rintro e w1 ⟨rfl,hb1⟩;have p1:=q w1 hb1;go_wp2_with fail;go_at_call 100;refine(cs _ hb1).mono ?_;rintro e w2 ⟨rfl,hb2⟩;clear p0 p1 q c1 cj cs;go_wp2_with fail;go_ret;exact⟨ret_int (by rw[HK.out,if_pos h1];first|(push_cast;simp;done)|(push_cast;simp[IntKind.wrap_i64];done)|(push_cast;simp[IntKind.wrap_i64];omega)),hb0.trans ((hb1.trans (hb2.mono hb1.size)).mono hb0.size)⟩
 ·have h1i:(1048576:Int)<(1:Int)+(nj:Int):=by omega
  go_enter Tryz.func57,Tryz.ntmps57;go_upto_region 1 with fail;rw[HW0.out];clear HW0;go_wp2_with fail;go_at_call 99;refine(cj _ hbw).mono ?_;rintro e w1 ⟨rfl,hb1⟩;clear p0 q c1 cj cs;go_wp2_with fail;go_ret;exact⟨ret_int (by rw[HK.out,if_neg h1];first|(push_cast;simp;done)|(push_cast;simp[IntKind.wrap_i64];done)|(push_cast;simp[IntKind.wrap_i64];omega)),hb0.trans (hb1.mono hb0.size)⟩
structure ElemZ (P:Program) (t e:TypeId) (zv:Value) (z bytes:Nat):Prop where
 ht:P.underlying t=some (.slice e)
 hi:∃i,P.info? e=some i∧i.zero=some zv∧i.size=z∧i.bytes=bytes
 hz:zv.cells.size=z
 h0:0<z
theorem wpList_append_z {P:Program} {t e:TypeId} {zv:Value} {z bytes:Nat} (E:ElemZ P t e zv z bytes) (w0:World) {ops:Array Oper} {rest:List Oper} {o:Oper} {a:Act} {Q:Exit→Act→World→Prop} (hgd:o.guard=none) (s x:Operand)
 (ho:o.op= .call {callee:= .builtin .append,args:= #[s,x],argTypes:= #[t,t]})
 (base:Nat) (v:Value) (n:Nat) (xs:List Value) (hs:a.eval s=v) (hown:w0.ownsRow base e z v n xs)
 (news:List Value) (e':TypeId) (hx:a.eval x= .slice (some ⟨w0.heap.size,0,none⟩) 1 1) (hl:news.length=z) (h1:∀u∈news,u.oneCell'=true)
 (hbytes:(n+1)*bytes≤140737488355328) (h63:n+1≤140737488355328) (hbase:base≤w0.heap.size)
 (h:∀v' w',w'.ownsRow base e z v' (n+1) (xs++news)→w0.grownBy w' v.ownBlock→wpList P ops Q rest (a.put o.dst v') w'):
 wpList P ops Q (o::rest) a (w0.alloc (.cells news.toArray e')):=by
 obtain⟨i,hi,hz,hsize,hby⟩:=E.hi
 refine wpList_append_own _ hgd s x t ho base e i zv z bytes E.ht hi hz hsize hby E.hz E.h0 v n xs hs (hown.alloc _) ⟨w0.heap.size,0,none⟩ 1 1 news hx (by rw[hl];omega) ?_ h1 (by unfold maxLen;omega) hbytes (by simp;omega) ?_
 ·intro j u hj
  rw[Addr.add_lit,Nat.zero_add,World.cell?_alloc_at _ _ _ j rfl];simpa using hj
 ·intro v' w' h2 h3 h4
  exact h v' w' h2 (grown_trans2 (World.grownBy_alloc w0 _ _) h3)
theorem make_z {P:Program} {t e:TypeId} {zv:Value} {z bytes:Nat} (E:ElemZ P t e zv z bytes) (w:World) (n:Nat) (hn:(n+1)*bytes≤140737488355328) (h63:n≤140737488355328):∃w',(Instr.makeSlice t (.int .i64 0) (.int .i64 ((n:Int)+1))).run P w= .ok (.slice (some ⟨w.heap.size,0,none⟩) 0 (n+1)) w'∧
 w'.ownsRow w.heap.size e z (.slice (some ⟨w.heap.size,0,none⟩) 0 (n+1)) 0 []∧Below w.heap.size w w':=by
 obtain⟨i,hi,hz,hsize,hby⟩:=E.hi
 obtain⟨w',h1,h2,h3⟩:=run_make_own (P:=P) w w.heap.size t e i zv z E.ht hi hz hsize .i64 .i64 (n+1) (by rw[hby,Nat.mul_comm];exact Nat.le_trans hn (by omega)) (by unfold maxLen;omega) (Nat.le_refl _)
 exact⟨w',h1,h2,(Below.refl _ _).grown h3 (Nat.le_refl _) (fun k hk=>by cases hk)⟩
theorem flatS_snoc {α:Type} (en:α→List Value) {X:List α} {k:Nat} (hk:k<X.length):(X.take (k+1)).flatMap en=(X.take k).flatMap en++en X[k]:=by
 rw[List.take_succ_eq_append_getElem hk,List.flatMap_append];simp
def TwinR {α:Type} (z:Nat) (en:α→List Value) (w:World) (B:Nat) (v:Value) (X:List α) (sp:α):Prop:=
 ∃g c,v= .slice (some ⟨g,0,none⟩) X.length c∧X.length<c∧B≤g∧RowS z en w (.slice (some ⟨g,0,none⟩) (X.length+1) c) (X++[sp])
theorem TwinR.row {α:Type} {z:Nat} {en:α→List Value} {w:World} {B:Nat} {v:Value} {X:List α} {sp:α} (h:TwinR z en w B v X sp):RowS z en w v X:=by
 obtain⟨g,c,rfl,hc,_,hr⟩:=h;have:=hr.part 0 X.length (by simp);rw[List.drop_zero,List.take_left,Nat.zero_mul]at this;exact this
theorem TwinR.below {α:Type} {z:Nat} {en:α→List Value} {w W:World} {B:Nat} {v:Value} {X:List α} {sp:α} (h:TwinR z en w B v X sp) (hb:Below w.heap.size w W):TwinR z en W B v X sp:=by
 obtain⟨g,c,h1,h2,h3,h4⟩:=h;exact⟨g,c,h1,h2,h3,h4.below hb (Nat.le_refl _)⟩
theorem twin_of {α:Type} {z:Nat} {en:α→List Value} {w:World} {B n:Nat} {e:TypeId} {v:Value} {X:List α} {sp:α} (hz:0<z) (hen:∀x,(en x).length=z) (h:w.ownsRow B e z v n (X.flatMap en++en sp)) (hn:n=X.length+1):
 ∃g c,v= .slice (some ⟨g,0,none⟩) (X.length+1) c∧X.length<c∧TwinR z en w B (.slice (some ⟨g,0,none⟩) X.length c) X sp:=by
 subst hn
 have hr:RowS z en w v (X++[sp]):=RowS.own hz hen (by rw[List.flatMap_append];simpa using h) (by simp)
 rcases h.2 with ⟨_,h1⟩|⟨g,c,cur,rfl,hb,hg,hc,_⟩
 ·omega
 ·exact⟨g,c,rfl,by omega,g,c,rfl,by omega,hb,hr⟩
theorem yieldsIf_load_at {P:Program} {ops:Array Oper} {S:World→Prop} {op:Oper} {a:Act} (hw:Region.wanted op (yielded ops a.tmps)=true) (ty:TypeId) (x:Operand) (ho:op.op= .load ty x)
 (p:Addr) (hx:a.eval x= .pointer (some p)) (cs:List Value) (d:TypeDesc) (hS:∀w,S w→∀j v,cs[j]?=some v→w.cell? (p.add j)=some v)
 (hu:P.underlying ty=some d) (hd:d.isRow=true) (hi:(P.info? ty).map (·.size)=some cs.length):YieldsIf P ops S op (.agg cs.toArray) a:=
 .inl ⟨hw,fun w hw'=>by
  unfold execOp;simp only[ho,hx,Instr.loadAt,Instr.sureAddr,Sem.run_bind,Sem.run_pure,Result.andThen_ok,run_loadVar_at w p ty cs d (hS w hw') hu hd hi]⟩
end Go.Proofs.YtlhcfmcbpljbiaaGreatDoor
