/- ConnsOld walked. -/
import Derived.Test.YtpkoodnbkffpoaaGreatDoorConnLv
set_option linter.unusedVariables false
set_option linter.unusedSimpArgs false
set_option maxHeartbeats 16000000
namespace Go.Proofs.YtpkoodnbkffpoaaGreatDoor
open Go.RowKit
def encU (n:Int):List Value:=[.int .u8 n]
theorem ConnsAt.grown {w w':World} {B:Nat} {v:Value} {S:ConnsL} {row:Option Nat} (h:ConnsAt w B v S) (hg:w.grownBy w' row) (hB:∀k,row=some k→k≠B∧v.ownBlock≠some k):ConnsAt w' B v S:=by
 refine⟨(hg.block B h.lt (fun e=>(hB B e.symm).1 rfl)).trans h.at_,h.row.kept hg ?_⟩
 cases hr:row with
 |none=>cases hv:v.ownBlock with
  |none=>exact .inl rfl
  |some k=>exact .inr (by simp)
 |some k=>exact .inr (hB k hr).2
theorem row_turn {B base e z n:Nat} {cv cv' v:Value} {a b:World} {xs:List Value} (h:Turn B cv a b cv') (hr:a.ownsRow base e z v n xs) (hB:B<base) (hap:∀k,v.ownBlock=some k→cv.ownBlock≠some k):b.ownsRow base e z v n xs∧∀k,v.ownBlock=some k→cv'.ownBlock≠some k:=by
 refine⟨⟨hr.1, ?_⟩,fun k hk e2=> ?_⟩
 ·rcases hr.2 with hn|⟨g,cap,cur,rfl,hb,hg,rest⟩
  ·exact .inl hn
  ·exact .inr ⟨g,cap,cur,rfl,hb,(h.block g (Array.getElem?_eq_some_iff.1 hg).1 (by omega) (hap g rfl)).trans hg,rest⟩
 ·have hlt:=(hr.lt k hk).2
  rcases h.own k e2 with h1|h1
  ·exact hap k hk h1
  ·omega
theorem wpList_append_int (w0:World) {ops:Array Oper} {rest:List Oper} {o:Oper} {a:Act} {Q:Exit→Act→World→Prop} (hgd:o.guard=none) (s x:Operand)
 (ho:o.op= .call {callee:= .builtin .append,args:= #[s,x],argTypes:= #[26,26]})
 (base:Nat) (v:Value) (n:Nat) (xs:List Value) (hs:a.eval s=v) (hown:w0.ownsRow base 3 1 v n xs)
 (m:Int) (e':TypeId) (hx:a.eval x= .slice (some ⟨w0.heap.size,0,none⟩) 1 1) (hn:n≤1000000) (hbase:base≤w0.heap.size)
 (h:∀v' w',w'.ownsRow base 3 1 v' (n+1) (xs++[.int .i64 m])→w0.grownBy w' v.ownBlock→(∀k,v'.ownBlock=some k→v.ownBlock=some k∨w0.heap.size≤k)→wpList Tryz.prog ops Q rest (a.put o.dst v') w'):
 wpList Tryz.prog ops Q (o::rest) a (w0.alloc (.cells #[.int .i64 m] e')):=by
 obtain⟨i,hi,hz,hsize,hby⟩:=int_elem.hi
 refine wpList_append_lies _ hgd s x 26 ho base 3 i (.int .i64 0) 1 8 Tryz.underlying26 hi hz hsize hby rfl (by omega) v n xs hs (hown.alloc _) ⟨w0.heap.size,0,none⟩ 1 1 [.int .i64 m] hx rfl ?_ (by simp[Value.oneCell']) (by omega) (by unfold maxLen;omega) (by omega) (by simp;omega) (w0.heap.size+1) (by simp) ?_
 ·intro j u hj
  rw[Addr.add_lit,Nat.zero_add,World.cell?_alloc_at _ _ _ j rfl];simpa using hj
 ·intro g cap w' h2 h3 h4 h5
  refine h _ w' h2 (grown_trans2 (World.grownBy_alloc w0 _ _) h3) (fun k hk=> ?_);have hk:some g=some k:=hk;injection hk with hk;subst hk;rcases h4 with h4|h4
  ·exact .inl h4
  ·exact .inr (by omega)
def givO (T:List Int) (kp:Int) (j:Nat):Bool:=match T[j]? with|none=>false|some x=>decide (x<kp)
def gL (T:List Int) (kp:Int) (i:Nat):List Nat:=(List.range i).filter (givO T kp)
def oL (T:List Int) (kp:Int) (i:Nat):List Nat:=(List.range i).filter (fun j=> !givO T kp j)
theorem gL_succ (T:List Int) (kp:Int) (i:Nat):gL T kp (i+1)=gL T kp i++(if givO T kp i then [i]else []):=by
 unfold gL;rw[List.range_succ,List.filter_append];congr 1
 cases h:givO T kp i<;>simp[h]
theorem oL_succ (T:List Int) (kp:Int) (i:Nat):oL T kp (i+1)=oL T kp i++(if givO T kp i then []else [i]):=by
 unfold oL;rw[List.range_succ,List.filter_append];congr 1
 cases h:givO T kp i<;>simp[h]
theorem gL_len (T:List Int) (kp:Int) (i:Nat):(gL T kp i).length≤i:=Nat.le_trans (List.length_filter_le _ _) (by simp)
theorem oL_len (T:List Int) (kp:Int) (i:Nat):(oL T kp i).length≤i:=Nat.le_trans (List.length_filter_le _ _) (by simp)
theorem flat_snoc (l:List Nat) (m:Nat):(l++[m]).flatMap encI=l.flatMap encI++[.int .i64 m]:=by rw[List.flatMap_append];rfl
structure OldAt (w:World) (wr:World) (cv gv ov:Value) (S:ConnsL) (G O:List Nat):Prop where
 c:ConnsAt wr w.heap.size cv S
 g:wr.ownsRow (w.heap.size+1) 3 1 gv G.length (G.flatMap encI)
 o:wr.ownsRow (w.heap.size+1) 3 1 ov O.length (O.flatMap encI)
 cg:∀k,gv.ownBlock=some k→cv.ownBlock≠some k
 co:∀k,ov.ownBlock=some k→cv.ownBlock≠some k
 go:∀k,gv.ownBlock=some k→ov.ownBlock≠some k
 b:Below w.heap.size w wr
theorem OldAt.turn {w wr wr':World} {cv cv' g o:Value} {S S':ConnsL} {G O:List Nat} (h:OldAt w wr cv g o S G O) (hc:ConnsAt wr' w.heap.size cv' S') (ht:Turn w.heap.size cv wr wr' cv'):OldAt w wr' cv' g o S' G O:=by
 have h1:=row_turn ht h.g (Nat.lt_succ_self _) h.cg;have h2:=row_turn ht h.o (Nat.lt_succ_self _) h.co;exact⟨hc,h1.1,h2.1,h1.2,h2.2,h.go,h.b.trans (ht.to (Nat.le_refl _) h.b.size (fun k hk=>by have:=(h.c.own k hk).1;omega))⟩
theorem OldAt.below {w wr wr':World} {cv g o:Value} {S:ConnsL} {G O:List Nat} (h:OldAt w wr cv g o S G O) (hb:Below wr.heap.size wr wr'):OldAt w wr' cv g o S G O:=h.turn (h.c.below hb) (Turn.of hb)
theorem OldAt.gput {w wr wr':World} {cv g g' o:Value} {S:ConnsL} {G O:List Nat} (h:OldAt w wr cv g o S G O) (m:Nat) (hown:wr'.ownsRow (w.heap.size+1) 3 1 g' (G.length+1) (G.flatMap encI++[.int .i64 m])) (hg:wr.grownBy wr' g.ownBlock) (hn:∀k,g'.ownBlock=some k→g.ownBlock=some k∨wr.heap.size≤k):OldAt w wr' cv g' o S (G++[m]) O:=by
 refine⟨h.c.grown hg (fun k hk=>⟨by have:=(h.g.lt k hk).1;omega,h.cg k hk⟩),by rw[List.length_append,flat_snoc];exact hown,h.o.kept hg ?_,fun k hk e=> ?_,h.co,fun k hk e=> ?_,h.b.grown hg h.b.size (fun k hk=>by have:=(h.g.lt k hk).1;omega)⟩
 ·cases ho:o.ownBlock with
  |none=>exact .inl rfl
  |some k=>exact .inr (fun e=>h.go k e.symm ho)
 ·rcases hn k hk with h1|h1
  ·exact h.cg k h1 e
  ·have:=(h.c.own k e).2;omega
 ·rcases hn k hk with h1|h1
  ·exact h.go k h1 e
  ·have:=(h.o.lt k e).2;omega
theorem OldAt.oput {w wr wr':World} {cv g o o':Value} {S:ConnsL} {G O:List Nat} (h:OldAt w wr cv g o S G O) (m:Nat) (hown:wr'.ownsRow (w.heap.size+1) 3 1 o' (O.length+1) (O.flatMap encI++[.int .i64 m])) (hg:wr.grownBy wr' o.ownBlock) (hn:∀k,o'.ownBlock=some k→o.ownBlock=some k∨wr.heap.size≤k):OldAt w wr' cv g o' S G (O++[m]):=by
 refine⟨h.c.grown hg (fun k hk=>⟨by have:=(h.o.lt k hk).1;omega,h.co k hk⟩),h.g.kept hg ?_,by rw[List.length_append,flat_snoc];exact hown,h.cg,fun k hk e=> ?_,fun k hk e=> ?_,h.b.grown hg h.b.size (fun k hk=>by have:=(h.o.lt k hk).1;omega)⟩
 ·cases hgo:g.ownBlock with
  |none=>exact .inl rfl
  |some k=>exact .inr (fun e=>h.go k hgo e.symm)
 ·rcases hn k hk with h1|h1
  ·exact h.co k h1 e
  ·have:=(h.c.own k e).2;omega
 ·rcases hn k e with h1|h1
  ·exact h.go k hk h1
  ·have:=(h.g.lt k hk).2;omega
theorem own1C (w:World) (c:UInt8):(w.alloc (.cells #[.int .u8 c.toNat] 5)).ownsRow w.heap.size 5 1 (.slice (some ⟨w.heap.size,0,none⟩) 1 1) 1 ([c].map fun c=> .int .u8 c.toNat):=
 ⟨rfl, .inr ⟨w.heap.size,1,_,rfl,Nat.le_refl _,heap_alloc_new w _,Nat.le_refl _,by unfold maxLen;omega,rfl,rfl⟩⟩
theorem conv1 (w:World) (c:UInt8):(convert 22 9 (.slice (some ⟨w.heap.size,0,none⟩) 1 1)).run Tryz.prog (w.alloc (.cells #[.int .u8 c.toNat] 5))= .ok (.string ⟨#[c]⟩) (w.alloc (.cells #[.int .u8 c.toNat] 5)):=
 convert_bytes_own (P:=Tryz.prog) (src:=22) (dst:=9) (e:=5) (l:=[c]) Tryz.underlying22 Tryz.underlying5 Tryz.underlying9 (own1C w c)
theorem oldtake {w W:World} {cv g o:Value} {G O:List Nat} {i:Nat} (hE:EnvH w) (hi:i<20) (h:OldAt w W cv g o (stO i fun _=>false) G O):
 Calls Tryz.prog 10 #[.pointer (some ⟨w.heap.size,0,none⟩), .agg #[.bool false, .string ⟨#[UInt8.ofNat (97+i),46,116,101,115,116]⟩, .int .i64 80], .int .i64 0] W fun e W'=>e= .returned (.tuple #[.int .i64 i, .bool true, .int .i64 0])∧∃cv',OldAt w W' cv' g o (stO (i+1) fun _=>false) G O:=by
 have hl:(stO i fun _=>false).l.length≤1000:=by simp[stO];omega
 have ht:=ctake_any (stO i fun _=>false) w.heap.size cv (keyO i) 0 W h.c hl (by show i≤1000000;omega) (fun x hx=>by obtain⟨j,_,rfl⟩:=stO_mem hx;show(-1:Int)≤_;omega) (by omega) (by omega) (by show(0:Int)≤80;omega) (by show(80:Int)≤65535;omega) (parse_ok i hi W (hE.below h.b))
 rw[stO_take hi]at ht
 refine ht.mono ?_
 rintro e W' ⟨he,cv',hc,htu⟩
 exact⟨he,cv',h.turn hc htu⟩
theorem oldgive {w W:World} {cv g o:Value} {G O:List Nat} {m id:Nat} {gf:Nat→Bool} (hm:m≤20) (hi:id<m) (hg:gf id=false) (h:OldAt w W cv g o (stO m gf) G O):
 Calls Tryz.prog 12 #[.pointer (some ⟨w.heap.size,0,none⟩), .int .i64 id, .int .i64 7] W fun e W'=>e= .returned (.int .i64 0)∧OldAt w W' cv g o (stO m fun j=>gf j||j==id) G O:=by
 have hl:(stO m gf).l.length≤1000:=by simp[stO];omega
 have ht:=give_any (stO m gf) (stO_sorted m gf) w.heap.size cv id 7 W h.c hl (found_of (stO_sorted m gf).inc (stO_get hi)) (by omega) (by omega)
 rw[stO_give hi hg]at ht
 refine ht.mono ?_
 rintro e W' ⟨he,hc,htu⟩
 exact⟨he,h.turn hc htu⟩
theorem stO_given {m:Nat} {gf:Nat→Bool}:∀x∈(stO m gf).l,x.given≤1000000:=fun x hx=>by
 obtain⟨j,_,rfl⟩:=stO_mem hx;show(if gf j then (7:Int)else -1)≤_;split<;>omega
theorem int_form {w:World} {base:Nat} {v:Value} {L:List Nat} (h:w.ownsRow base 3 1 v L.length (L.flatMap encI)) (h0:0<L.length):∃b c,v= .slice (some ⟨b,0,none⟩) L.length c∧∀(j:Nat) (hj:j<L.length),w.cell? ⟨b,j,none⟩=some (.int .i64 L[j]):=by
 have hr:=RowS.own (z:=1) (by omega) encI_len h rfl;rcases h.2 with ⟨_,h1⟩|⟨b,c,cur,rfl,_⟩
 ·omega
 ·refine⟨b,c,rfl,fun j hj=> ?_⟩
  have:=hr.each j hj w (Below.refl _ _) 0 _ rfl;rw[Addr.add_lit,Addr.add_lit]at this;simpa using this
theorem gL_mem {T:List Int} {kp:Int} {m x:Nat} (h:x∈gL T kp m):x<m∧givO T kp x=true:=by
 obtain⟨h1,h2⟩:=List.mem_filter.1 h;exact⟨List.mem_range.1 h1,h2⟩
theorem gL_nodup (T:List Int) (kp:Int) (m:Nat):(gL T kp m).Nodup:=List.nodup_range.filter _
theorem ogl_new {G:List Nat} (hd:G.Nodup) {j:Nat} (hj:j<G.length):decide (G[j]∈G.take j)=false:=by
 rw[decide_eq_false_iff_not];intro hm;obtain⟨i,hi,he⟩:=List.getElem_of_mem hm;rw[List.length_take]at hi;rw[List.getElem_take]at he;exact List.pairwise_iff_getElem.1 hd i j (by omega) hj (by omega) he
theorem ogl_next {G:List Nat} {j:Nat} (hj:j<G.length):(fun x=>decide (x∈G.take j)||x==G[j])=fun x=>decide (x∈G.take (j+1)):=by
 funext x
 have h0:(x∈G.take (j+1))↔(x∈G.take j∨x=G[j]):=by rw[List.take_succ_eq_append_getElem hj,List.mem_append,List.mem_singleton]
 rw[decide_eq_decide.2 h0,Bool.decide_or];congr 1
theorem all_given {T:List Int} {kp:Int} {m:Nat}:(List.range m).filter (fun x=>decide (x∈gL T kp m))=gL T kp m:=by
 refine List.filter_congr fun x hx=> ?_
 cases h:givO T kp x with
 |true=>exact decide_eq_true (List.mem_filter.2 ⟨hx,h⟩)
 |false=>exact decide_eq_false (fun e=>by rw[(gL_mem e).2]at h;cases h)
theorem none_given {T:List Int} {kp:Int} {m:Nat}:(List.range m).filter (fun x=> !decide (x∈gL T kp m))=oL T kp m:=by
 refine List.filter_congr fun x hx=> ?_
 cases h:givO T kp x with
 |true=>rw[show decide (x∈gL T kp m)=true from decide_eq_true (List.mem_filter.2 ⟨hx,h⟩)]
 |false=>rw[show decide (x∈gL T kp m)=false from decide_eq_false (fun e=>by rw[(gL_mem e).2]at h;cases h)]
theorem oldold {w W:World} {cv g o:Value} {S:ConnsL} {G O:List Nat} (now:Int) (h:OldAt w W cv g o S G O) (hl:S.l.length≤1000) (hg:∀x∈S.l,x.given≤1000000) (h0:0≤now) (h1:now≤1000000):
 Calls Tryz.prog 14 #[.pointer (some ⟨w.heap.size,0,none⟩), .int .i64 now] W fun e W'=>(∃a c,e= .returned (.slice a (oldR S now).1.length c))∧∃cv',OldAt w W' cv' g o (oldR S now).2 G O:=by
 refine(old_any S w.heap.size cv now W h.c hl hg h0 h1).mono ?_
 rintro e W' ⟨t,v',rfl,hr,hc,ht⟩
 obtain⟨a,n,c,rfl,rfl,_⟩:=hr.conc
 exact⟨⟨a,c,rfl⟩,v',h.turn hc ht⟩
set_option maxRecDepth 100000 in
theorem connsold_law (T:List Int) (v:Value) (kp:Int) (w:World) (hT:RowS 1 encU w v T) (hTb:∀x∈T,0≤x∧x≤255) (hk0:0≤kp) (hk1:kp≤255) (hE:EnvH w):
 Calls Tryz.prog 4 #[v, .int .u8 kp] w fun e w'=>e= .returned (.bool true)∧Below w.heap.size w w':=by
 have cl:=fun W (hW:Below w.heap.size w W)=>lives19 W (hE.below hW)
 clear hTb hk0 hk1
 have hbw:=Below.refl w.heap.size w
 by_cases hlen:20<T.length
 ·obtain⟨a,n,c,rfl,hn,hc⟩:=hT.conc
  have hni:(20:Int)<(n:Int):=by omega
  have cc:=cl w hbw;clear hT hn cl;go_enter Tryz.func4,Tryz.ntmps4;go_wp2_with(go_at_call 7;refine cc.mono ?_;rintro e w1 ⟨rfl,hb⟩);go_ret;exact⟨rfl,hb⟩
 ·obtain⟨w1,hw1⟩:∃W,w.alloc (.cells #[.int .i64 1, .slice none 0 0, .int .i64 0] 69)=W:=⟨_,rfl⟩
  have hb1:Below w.heap.size w w1:=by rw[←hw1];exact below_alloc w _
  have hB1:w1.heap[w.heap.size]?=some (.cells #[.int .i64 1, .slice none 0 0, .int .i64 0] 69 (0,0)):=by rw[←hw1];exact heap_alloc_new w _
  have hL0:OldAt w w1 (.slice none 0 0) (.slice none 0 0) (.slice none 0 0) (stO 0 fun _=>false) (gL T kp 0) (oL T kp 0):=⟨⟨hB1,rfl, .inl ⟨rfl,rfl⟩⟩,⟨rfl, .inl ⟨rfl,rfl⟩⟩,⟨rfl, .inl ⟨rfl,rfl⟩⟩,fun k hk=>(by cases hk),fun k hk=>(by cases hk),fun k hk=>(by cases hk),hb1⟩;have hcn:=new_any w;rw[hw1]at hcn;have hTc:=hT.conc;have HT:Hid (∀(i:Nat) (hi:i<T.length) W,Below w.heap.size w W→∃a c,v= .slice (some a) T.length c∧W.cell? (a.add i)=some (.int .u8 T[i])):=fun i hi W hW=>by
   rcases hT with ⟨_,h0⟩|⟨a,c,rfl,hc,hb,hcell⟩
   ·rw[h0]at hi;simp at hi
   ·refine⟨a,c,rfl, ?_⟩
    have:=(hW.cell (p:=a.add (i*1+0)) (by rw[Go.ChangeShapes.block_add];exact hb (by omega))).trans (hcell i hi 0 _ rfl);simpa using this
  obtain⟨a,n,c,rfl,hn,hc⟩:=hTc;subst hn;have h20:T.length≤20:=by omega
  have h20i:(T.length:Int)≤20:=by omega
  have HL0:=Lib.hid hL0;have CL:=Lib.hid cl;clear hT hL0 hw1 hB1 hb1 cl;go_enter Tryz.func4,Tryz.ntmps4;go_wp2_with(go_at_call 8;refine hcn.mono ?_;rintro e w9 ⟨rfl,rfl⟩);go_loopw [6,7,8] (fun gs os is wr=>∃(i:Nat) (cv:Value),i≤T.length∧is= .int .i64 i∧Hid (OldAt w wr cv gs os (stO i fun _=>false) (gL T kp i) (oL T kp i))) (fun _ _ i _=>T.length-(intOf i).toNat)
  case atStart=>exact⟨0,_,Nat.zero_le _,rfl,HL0⟩
  case round=>
   obtain⟨i,cv,hi,rfl,HL⟩:=hrel;by_cases hlt:i<T.length
   ·have hii:(i:Int)<(T.length:Int):=by omega
    have hi20:(i:Int)<20:=by omega
    obtain⟨ta,tc,hta,_⟩:=HT.out i hlt w hbw;injection hta with hta _ htc;subst hta htc;have HX:=Lib.hid fun W (hW:Below w.heap.size w W)=>(by
     obtain⟨ta2,tc2,h1,h2⟩:=HT.out i hlt W hW;injection h1 with h1;injection h1 with h1;subst h1;exact h2:W.cell? (ta.add i)=some (.int .u8 T[i]))
    have hgi:givO T kp i=decide (T[i]<kp):=by unfold givO;rw[List.getElem?_eq_getElem hlt]
    have hgs:=gL_succ T kp i;have hos:=oL_succ T kp i;rw[hgi]at hgs hos;have hgl:=gL_len T kp i;have hol:=oL_len T kp i;generalize T[i]=x at*;have HGS:=Lib.hid hgs;have HOS:=Lib.hid hos;clear hgi hgs hos;have hcu:((97:Int)+(i:Int))=((UInt8.ofNat (97+i)).toNat:Int):=by
     have:(UInt8.ofNat (97+i)).toNat=97+i:=by simp;omega
     omega
    have hcv:=conv1 wr (UInt8.ofNat (97+i));have hb4:=below_alloc wr (.cells #[.int .u8 ((UInt8.ofNat (97+i)).toNat:Int)] 5);have ct:=oldtake hE (by omega) (HL.out.below hb4);have CT:=Lib.hid ct;clear ct hb4;generalize hcc:UInt8.ofNat (97+i)=cc at*;go_upto_region 11 with (go_at_call 10;refine CT.out.mono ?_;rintro e w2 ⟨rfl,cv2,hL2⟩);have hx:=HX.out w2 hL2.b;by_cases hxk:x<kp
    ·have hgw:=hL2.g
     have hbs:w.heap.size+1≤w2.heap.size:=hL2.c.lt;have HL2:=Lib.hid hL2;rw[decide_eq_true hxk,if_pos rfl]at HGS HOS;clear hL2 CT hcv HX;generalize hgg:gL T kp i=G at*;go_wp2_with(at_builtin;refine wpList_append_int _ rfl _ _ rfl (w.heap.size+1) _ _ _ rfl hgw (i:Int) _ rfl (by omega) hbs ?_);intro v' w3 hown hgr hnew;have hL3:=HL2.out.gput i hown hgr hnew;have HL3:Hid (OldAt w w3 cv2 v' u7 (stO (i+1) fun _=>false) (gL T kp (i+1)) (oL T kp (i+1))):=by
      show OldAt _ _ _ _ _ _ _ _;rw[HGS.out,HOS.out,List.append_nil];exact hL3
     clear hL3 hown hgr hnew;go_wp2_with fail;go_roundw
     case rel=>exact⟨i+1,cv2,by omega,by go_num,HL3⟩
     case measure=>simp[intOf];omega
    ·have hgw:=hL2.o
     have hbs:w.heap.size+1≤w2.heap.size:=hL2.c.lt;have HL2:=Lib.hid hL2;have hxk2:kp≤x:=by omega
     rw[decide_eq_false hxk,if_neg (by decide)]at HGS HOS;clear hL2 CT hcv HX hxk;generalize hgg:oL T kp i=O at*;go_wp2_with(at_builtin;refine wpList_append_int _ rfl _ _ rfl (w.heap.size+1) _ _ _ rfl hgw (i:Int) _ rfl (by omega) hbs ?_);intro v' w3 hown hgr hnew;have hL3:=HL2.out.oput i hown hgr hnew;have HL3:Hid (OldAt w w3 cv2 u6 v' (stO (i+1) fun _=>false) (gL T kp (i+1)) (oL T kp (i+1))):=by
      show OldAt _ _ _ _ _ _ _ _;rw[HGS.out,HOS.out,List.append_nil];exact hL3
     clear hL3 hown hgr hnew;go_wp2_with fail;go_roundw
     case rel=>exact⟨i+1,cv2,by omega,by go_num,HL3⟩
     case measure=>simp[intOf];omega
   ·obtain rfl:i=T.length:=by omega
    have hGn:=gL_nodup T kp T.length;have hGm:=fun x (hx:x∈gL T kp T.length)=>(gL_mem hx).1
    have hGl:=gL_len T kp T.length;have hOl:=oL_len T kp T.length;have hAG:=all_given (T:=T) (kp:=kp) (m:=T.length);have hNG:=none_given (T:=T) (kp:=kp) (m:=T.length);generalize gL T kp T.length=G at*;generalize oL T kp T.length=O at*;have HGN:=Lib.hid hGn;have HGM:=Lib.hid hGm;have HAG:=Lib.hid hAG;have HNG:=Lib.hid hNG;obtain⟨ga,gn,gc,rfl,rfl,hgc⟩:=(RowS.own (z:=1) (by omega) encI_len HL.out.g rfl).conc;obtain⟨oa,on,oc,rfl,rfl,hoc⟩:=(RowS.own (z:=1) (by omega) encI_len HL.out.o rfl).conc;have HL1:Hid (OldAt w wr cv (.slice ga G.length gc) (.slice oa O.length oc) (stO T.length fun x=>decide (x∈G.take 0)) G O):=by
     have:=HL.out;rw[show(fun _:Nat=>false)=fun x=>decide (x∈G.take 0)by funext x;simp]at this;exact this
    clear hGn hGm hAG hNG HT;have hgm:G.length≤20:=by omega
    go_wp2_with fail;go_loopw [12] (fun js wx=>∃j:Nat,j≤G.length∧js= .int .i64 j∧Hid (OldAt w wx cv (.slice ga G.length gc) (.slice oa O.length oc) (stO T.length fun x=>decide (x∈G.take j)) G O)) (fun j _=>G.length-(intOf j).toNat)
    case atStart=>exact⟨0,Nat.zero_le _,rfl,HL1⟩
    case round=>
     obtain⟨j,hj,rfl,HJ⟩:=hrel;by_cases hjl:j<G.length
     ·obtain⟨gb,gc2,hge,hgcell⟩:=int_form HJ.out.g (by omega)
      injection hge with hge _ hgc2;subst hge hgc2;have hx:=hgcell j hjl;have hji:(j:Int)<(G.length:Int):=by omega
      have cg:=oldgive h20 (HGM.out _ (List.getElem_mem hjl)) (ogl_new HGN.out hjl) HJ.out;rw[ogl_next hjl]at cg;have CG:=Lib.hid cg;clear cg hgcell;generalize G[j]=id at*;go_wp2_with(go_at_call 12;refine CG.out.mono ?_;rintro e w4 ⟨rfl,hL4⟩);have HL4:=Lib.hid hL4;clear hL4;go_roundw
      case rel=>exact⟨j+1,by omega,by go_num,HL4⟩
      case measure=>simp[intOf];omega
     ·obtain rfl:j=G.length:=by omega
      have hJ:=HJ.out;rw[List.take_length]at hJ;have HJ2:=Lib.hid hJ;have hsl:∀gf,(stO T.length gf).l.length≤1000:=fun gf=>by simp[stO];omega
      have hco:=stO_old T.length fun x=>decide (x∈G)
      rw[HAG.out,HNG.out]at hco;have c7:=oldold 307 hJ (hsl _) stO_given (by omega) (by omega);rw[stO_none]at c7;have c7:Calls Tryz.prog 14 #[.pointer (some ⟨w.heap.size,0,none⟩), .int .i64 307] _ fun e W'=>(∃a c,e= .returned (.slice a 0 c))∧∃cv',OldAt w W' cv' (.slice ga G.length gc) (.slice oa O.length oc) (stO T.length fun x=>decide (x∈G)) G O:=c7
      have c8:=fun W cv' (h:OldAt w W cv' (.slice ga G.length gc) (.slice oa O.length oc) (stO T.length fun x=>decide (x∈G)) G O)=>oldold 308 h (hsl _) stO_given (by omega) (by omega)
      rw[hco.1]at c8;have hids:=hco.2;have hl8:(oldR (stO T.length fun x=>decide (x∈G)) 308).2.l.length≤1000:=by
       have:=congrArg List.length hids;rw[List.length_map]at this;omega
      generalize (oldR (stO T.length fun x=>decide (x∈G)) 308).2=S8 at*;have ca:=fun W cv' (h:OldAt w W cv' (.slice ga G.length gc) (.slice oa O.length oc) S8 G O)=>all_any S8 w.heap.size cv' W h.c hl8
      rw[hids]at ca;have C7:=Lib.hid c7;have C8:=Lib.hid c8;have CA:=Lib.hid ca;clear c7 c8 ca hids hl8 hco hJ hsl HAG HNG HJ;go_upto_region 20 with (first|(go_at_call 14;((with_reducible refine C7.out.mono ?_);rintro e w5 ⟨⟨a5,c5,rfl⟩,cv5,hL5⟩;have HL5:=Lib.hid hL5;clear hL5))|(go_at_call 14;((with_reducible refine(C8.out _ _ HL5.out).mono ?_);rintro e w6 ⟨⟨a6,c6,rfl⟩,cv6,hL6⟩;have HL6:=Lib.hid hL6;clear hL6)));refine(CA.out _ _ HL6.out).mono ?_;rintro e w7 ⟨⟨t7,rfl,ht7⟩,hb7⟩;obtain⟨a7,n7,c7,rfl,hn7,_⟩:=ht7.conc;subst hn7;have HT7:=Lib.hid ht7;have HL7:=Lib.hid (HL6.out.below hb7);clear ht7 hb7 HL6 HL5 HL1 HL0 HL C7 C8 CA HJ2;go_wp2_with fail;go_loopw [14] (fun js wy=>∃j:Nat,j≤O.length∧js= .int .i64 j∧Hid (OldAt w wy cv6 (.slice ga G.length gc) (.slice oa O.length oc) S8 G O)∧Hid (RowS 1 encI wy (.slice a7 O.length c7) O)) (fun j _=>O.length-(intOf j).toNat)
      case atStart=>exact⟨0,Nat.zero_le _,rfl,HL7,HT7⟩
      case round=>
       obtain⟨j,hj,rfl,HJ,HR⟩:=hrel;by_cases hjl:j<O.length
       ·obtain⟨gb,gc2,hge,hgcell⟩:=int_form HJ.out.o (by omega)
        injection hge with hge _ hgc2;subst hge hgc2;have hx:=hgcell j hjl;obtain⟨b7,hb7⟩:∃b,a7=some b:=by
         rcases HR.out with ⟨h1,h2⟩|⟨b,c,h1,_⟩
         ·rw[h2]at hjl;simp at hjl
         ·injection h1 with h1;exact⟨b,h1⟩
        subst hb7;have hy:=HR.out.each j hjl _ (Below.refl _ _) 0 _ rfl;rw[addr_add0,Nat.mul_one]at hy;have hji:(j:Int)<(O.length:Int):=by omega
        clear hgcell;generalize O[j]=id at*;go_wp2_with fail;go_region
        all_goals
         go_wp2_with fail;go_roundw
         case rel=>exact⟨j+1,by omega,by go_num,Lib.hid (HJ.out.below (Below.refl _ _).drew),Lib.hid (HR.out.below (Below.refl _ _).drew (Nat.le_refl _))⟩
         case measure=>simp[intOf];omega
       ·obtain rfl:j=O.length:=by omega
        have cz:=CL.out _ HJ.out.b;go_wp2_with(go_at_call 7;refine cz.mono ?_;rintro e w8 ⟨rfl,hb8⟩);go_ret;exact⟨rfl,HJ.out.b.trans (hb8.mono HJ.out.b.size)⟩
end Go.Proofs.YtpkoodnbkffpoaaGreatDoor
