/- Connections: a number's place, Give, Key, Drop, Old walked. -/
import Derived.Test.YtpkoodnbkffpoaaGreatDoorConnOld
set_option linter.unusedVariables false
set_option linter.unusedSimpArgs false
set_option maxHeartbeats 16000000
namespace Go.Proofs.YtpkoodnbkffpoaaGreatDoor
open Go.RowKit
theorem RowS.same {α:Type} {z:Nat} {en:α→List Value} {w w':World} {v:Value} {X:List α} (h:RowS z en w v X) (hk:∀k,v.ownBlock=some k→k<w.heap.size→w'.heap[k]?=w.heap[k]?) (hs:w.heap.size≤w'.heap.size):RowS z en w' v X:=by
 rcases h with h|⟨a,c,rfl,h2,h3,h4⟩
 ·exact .inl h
 ·exact .inr ⟨a,c,rfl,h2,fun h0=>Nat.lt_of_lt_of_le (h3 h0) hs,fun k hk2 j u hj=>by
   have hb:a.block<w.heap.size:=h3 (by omega);exact(World.cell?_of_block (w:=w) (a:=a.add (k*z+j)) (by rw[Go.ChangeShapes.block_add];exact hk _ rfl hb)).trans (h4 k hk2 j u hj)⟩
theorem place_any (S:ConnsL) (hs:Sorted S) (B:Nat) (v:Value) (n:Nat) (w:World) (h:ConnsAt w B v S) (hl:S.l.length≤1000):
 Calls Tryz.prog 32 #[.pointer (some ⟨B,0,none⟩), .int .i64 n] w fun e w'=>e= .returned (.tuple #[.int .i64 (placeL S.l n), .bool (foundL S.l n)])∧Below w.heap.size w w':=by
 obtain⟨c0,c1,c2⟩:=h.cells
 have hr:=RowS.own (z:=5) (by omega) cellsC_len h.row rfl
 have cb:=bsearch_any S.l hs.inc v n w hr hl
 obtain⟨a,m,c,rfl⟩:∃a m c,v= .slice a m c:=by
  rcases h.form with ⟨h1,_⟩|⟨g,c,h1,_⟩<;>exact⟨_,_,_,h1⟩
 generalize placeL S.l n=r at*
 generalize foundL S.l n=f at*
 clear h hr hs
 go_enter Tryz.func32,Tryz.ntmps32
 go_wp2_with(go_at_call 69;refine cb.mono ?_;rintro e w1 ⟨rfl,hb⟩)
 go_ret2
 exact⟨rfl,hb⟩
theorem drop_no (S:ConnsL) (hs:Sorted S) (B:Nat) (v:Value) (n:Nat) (w:World) (h:ConnsAt w B v S) (hl:S.l.length≤1000) (hf:foundL S.l n=false):
 Calls Tryz.prog 22 #[.pointer (some ⟨B,0,none⟩), .int .i64 n] w fun e w'=>e= .returned (.int .i64 1)∧Below w.heap.size w w':=by
 obtain⟨c0,c1,c2⟩:=h.cells
 have cp:=place_any S hs B v n w h hl
 have ct:=there_yes B w c0
 rw[hf]at cp
 clear h hs hf c0 c1 c2
 go_enter Tryz.func22,Tryz.ntmps22
 go_wp2_with(first|(go_at_call 23;refine ct.mono ?_;rintro e w1 ⟨rfl,rfl⟩)|(go_at_call 32;refine cp.mono ?_;rintro e w1 ⟨rfl,hb⟩))
 go_ret
 exact⟨rfl,hb⟩
theorem give_none (n m:Int) (w:World):Calls Tryz.prog 12 #[.pointer none, .int .i64 n, .int .i64 m] w fun e w'=>e= .returned (.int .i64 2)∧w=w':=by
 go_enter Tryz.func12,Tryz.ntmps12;go_wp2_with(go_at_call 23;refine(there_no w).mono ?_;rintro e w1 ⟨rfl,rfl⟩);go_ret;exact⟨rfl,rfl⟩
theorem ConnsAt.given {w:World} {B g cap:Nat} {S:ConnsL} (h:ConnsAt w B (.slice (some ⟨g,0,none⟩) S.l.length cap) S) (i:Nat) (hi:i<S.l.length) (n:Int):
 ConnsAt (w.setCell ⟨g,i*5+4,none⟩ (.int .i64 n)) B (.slice (some ⟨g,0,none⟩) S.l.length cap) ⟨setG S.l i n,S.next⟩∧Turn B (.slice (some ⟨g,0,none⟩) S.l.length cap) w (w.setCell ⟨g,i*5+4,none⟩ (.int .i64 n)) (.slice (some ⟨g,0,none⟩) S.l.length cap):=by
 have hst:=h.row.stored (i*5+4) (.int .i64 n)
 have hBg:=(h.own g rfl).1
 have hset:setG S.l i n=S.l.set i {S.l[i]with given:=n}:=by unfold setG;rw[List.getElem?_eq_getElem hi]
 have hfl:=flatS_set (en:=cellsC) cellsC_len S.l i {S.l[i]with given:=n} hi 4 (.int .i64 n) (by omega) rfl
 refine⟨⟨?_, ?_⟩,⟨hst.2.os,hst.2.tape,hst.2.output,hst.2.size,fun k hk _ hne=>hst.2.block k hk (fun e=>hne (by rw[e];rfl)),fun k hk=> .inl hk⟩⟩
 ·show(w.setCell ⟨g,i*5+4,none⟩ (.int .i64 n)).heap[B]?=_
  rw[Below.heap_setCell _ _ _ _ (by show B≠g;omega)];exact h.at_
 ·have h1:=hst.1
  rw[hfl,←hset]at h1;show World.ownsRow _ _ _ _ _ (setG S.l i n).length ((setG S.l i n).flatMap cellsC);rw[setG_len];exact h1
theorem nth_form {w:World} {B:Nat} {v:Value} {S:ConnsL} (h:ConnsAt w B v S) (i:Nat) (hi:i<S.l.length):∃g cap,v= .slice (some ⟨g,0,none⟩) S.l.length cap∧S.l.length≤cap∧cap≤maxLen∧B+1≤g∧g<w.heap.size∧RowS 5 cellsC w (.slice (some ⟨g,0,none⟩) S.l.length cap) S.l:=by
 rcases h.form with ⟨_,h2⟩|h2
 ·rw[h2]at hi;simp at hi
 ·exact h2
theorem found_lt {l:List ConnL} {n:Nat} (h:foundL l n=true):∃hi:placeL l n<l.length,l[placeL l n].id=n:=by
 unfold foundL at h;split at h
 ·cases h
 ·rename_i x hx
  obtain⟨h1,h2⟩:=List.getElem?_eq_some_iff.1 hx;exact⟨h1,by rw[h2];exact beq_iff_eq.1 h⟩
set_option maxRecDepth 100000 in
theorem give_any (S:ConnsL) (hs:Sorted S) (B:Nat) (v:Value) (n:Nat) (now:Int) (w:World) (h:ConnsAt w B v S) (hl:S.l.length≤1000) (hf:foundL S.l n=true) (h0:0≤now) (h1:now≤1000000):
 Calls Tryz.prog 12 #[.pointer (some ⟨B,0,none⟩), .int .i64 n, .int .i64 now] w fun e w'=>e= .returned (.int .i64 (giveR S n now).1)∧ConnsAt w' B v (giveR S n now).2∧Turn B v w w' v:=by
 obtain⟨c0,c1,c2⟩:=h.cells
 have cp:=place_any S hs B v n w h hl
 have ct:=there_yes B w c0
 have ctm:=fun W=>ctime_any now W h0 h1
 have CTM:=Lib.hid ctm
 obtain⟨hi,hid⟩:=found_lt hf
 obtain⟨g,cap,rfl,hcp,hcx,hBg,hg,hrow⟩:=nth_form h _ hi
 rw[hf]at cp
 have hgive:giveR S n now=(if keptB S.l[placeL S.l n]then (14,S)else (0,⟨setG S.l (placeL S.l n) now,S.next⟩)):=by
  unfold giveR;rw[if_pos hf];unfold keptAt;rw[List.getElem?_eq_getElem hi]
 generalize placeL S.l n=i at*
 have hii:(i:Int)<(S.l.length:Int):=by omega
 have hlB:=h.lt
 have HH:=Lib.hid h
 have HR:=Lib.hid hrow
 have ck:=fun W=>kept_any S.l[i] W
 have CK:=Lib.hid ck
 have HGV:=Lib.hid hgive
 clear h hs hf ctm hrow ck hgive hid
 cases hk:keptB S.l[i]with
 |true=>
  have CK2:=CK.out;rw[hk]at CK2;have CK3:=Lib.hid CK2;have HG2:Hid (giveR S n now=(14,S)):=by
   show _=_;rw[HGV.out,hk];rfl
  clear CK2 hk HGV CK;go_enter Tryz.func12,Tryz.ntmps12;go_upto_region 4 with (first|(go_at_call 23;refine ct.mono ?_;rintro e w1 ⟨rfl,rfl⟩)|(go_at_call 32;refine cp.mono ?_;rintro e w1 ⟨rfl,hb⟩));have hC1:=HH.out.below hb;obtain⟨d0,d1,d2⟩:=hC1.cells;obtain⟨e0,e1,e2,e3,e4⟩:=conn_cells (HR.out.each i hi w1 hb);have HC1:=Lib.hid hC1;have HX:=CK3;clear hC1 HH HR c0 c1 c2 CK3;generalize S.l[i]=x at*;go_wp2_with(first|(go_at_call 25;refine(CTM.out _).mono ?_;rintro e w2 ⟨rfl,rfl⟩)|(go_at_call 27;refine(HX.out _).mono ?_;rintro e w2 ⟨rfl,hb2⟩));go_ret;rw[HG2.out];exact⟨rfl,HC1.out.below hb2,(Turn.of hb).below hb2⟩
 |false=>
  have CK2:=CK.out;rw[hk]at CK2;have CK3:=Lib.hid CK2;have HG2:Hid (giveR S n now=(0,⟨setG S.l i now,S.next⟩)):=by
   show _=_;rw[HGV.out,hk];rfl
  clear CK2 hk HGV CK;go_enter Tryz.func12,Tryz.ntmps12;go_upto_region 4 with (first|(go_at_call 23;refine ct.mono ?_;rintro e w1 ⟨rfl,rfl⟩)|(go_at_call 32;refine cp.mono ?_;rintro e w1 ⟨rfl,hb⟩));have hC1:=HH.out.below hb;obtain⟨d0,d1,d2⟩:=hC1.cells;obtain⟨e0,e1,e2,e3,e4⟩:=conn_cells (HR.out.each i hi w1 hb);have HC1:=Lib.hid hC1;have HR2:=HR;have HX:=CK3;clear hC1 HH HR c0 c1 c2 CK3;have hgl:g<w1.heap.size:=Nat.lt_of_lt_of_le hg hb.size;have hBl:B<w1.heap.size:=Nat.lt_of_lt_of_le hlB hb.size;go_upto_region 8 with (first|(go_at_call 25;refine(CTM.out _).mono ?_;rintro e w2 ⟨rfl,rfl⟩)|(go_at_call 27;refine(HX.out _).mono ?_;rintro e w2 ⟨rfl,hb2⟩));have hC2:=HC1.out.below hb2;have f4:w2.frozen? ⟨g,i*5+4,none⟩=false:=(own_at hC2.row).2 _;replace e4:w2.cell? ⟨g,i*5+4,none⟩=some (.int .i64 S.l[i].given):=(conn_cells (HR2.out.each i hi w2 (hb.trans (hb2.mono hb.size)))).2.2.2.2;replace d1:w2.cell? ⟨B,1,none⟩=some (.slice (some ⟨g,0,none⟩) S.l.length cap):=hC2.cells.2.1;have HC2:=Lib.hid hC2;have HT2:=Lib.hid ((Turn.of (B:=B) (v:= .slice (some ⟨g,0,none⟩) S.l.length cap) hb).below hb2);clear hC2 HC1 HR2 e0 e1 e2 e3 d0 d2;go_wp2_with fail;go_ret;rw[HG2.out];have hgv:=HC2.out.given i hi now;exact⟨rfl,hgv.1,HT2.out.trans hgv.2⟩
theorem key_results {B:Nat} {W:World} {k:KeyL} {b:Bool} {tmps:Array Value} (h2:tmps[4]?.getD undef= .pointer (some ⟨B,0,none⟩)) (h5:tmps[5]?.getD undef= .bool b) (hU:W.heap[B]?=some (.cells (keyA_ k) 28 (0,0))):
 (results Tryz.f11 tmps).run Tryz.prog W= .ok (.tuple #[keyVal k, .bool b]) W:=by
 have c0:W.cell? ⟨B,0,none⟩=some (.bool k.safe):=by rw[Lib.cell_of_heap hU];rfl
 have c1:W.cell? ⟨B,1,none⟩=some (.string ⟨k.host.toArray⟩):=by rw[Lib.cell_of_heap hU];rfl
 have c2:W.cell? ⟨B,2,none⟩=some (.int .i64 k.port):=by rw[Lib.cell_of_heap hU];rfl
 simp[results,Tryz.results11,go_sem,h2,h5,c0,c1,c2]
theorem key_set {W:World} {B:Nat} {a b c x y z:Value} (h:W.heap[B]?=some (.cells #[a,b,c] 28 (0,0))):
 (((W.setCell ⟨B,0,none⟩ x).setCell ⟨B,1,none⟩ y).setCell ⟨B,2,none⟩ z).heap[B]?=some (.cells #[x,y,z] 28 (0,0)):=
 heap_setCell_same _ B 2 _ _ z (heap_setCell_same _ B 1 _ _ y (heap_setCell_same W B 0 _ _ x h))
theorem enters_place:∀args W,(callFunc 32 args).run Tryz.prog W= .ok (.enter 32 args) W:=Go.Proofs.enters_of Tryz.func32 (by kernel_rfl) rfl
set_option maxRecDepth 100000 in
theorem key_any (S:ConnsL) (hs:Sorted S) (B:Nat) (v:Value) (n:Nat) (k:KeyL) (w:World) (h:ConnsAt w B v S) (hl:S.l.length≤1000) (hk:keyR S n=(k,true)):
 Calls Tryz.prog 11 #[.pointer (some ⟨B,0,none⟩), .int .i64 n] w fun e w'=>e= .returned (.tuple #[keyVal k, .bool true])∧Below w.heap.size w w':=by
 have hf:foundL S.l n=true:=by
  unfold keyR at hk;split at hk
  ·assumption
  ·cases hk
 obtain⟨hi,hid⟩:=found_lt hf
 have hkk:S.l[placeL S.l n].key=k:=by
  unfold keyR at hk;rw[if_pos hf,List.getElem?_eq_getElem hi]at hk;injection hk
 obtain⟨W0,hW0⟩:∃W,w.alloc (.cells #[.bool false, .string ⟨#[]⟩, .int .i64 0] 28)=W:=⟨_,rfl⟩
 have hb0:Below w.heap.size w W0:=by rw[←hW0];exact below_alloc w _
 have hB0:W0.heap[w.heap.size]?=some (.cells #[.bool false, .string ⟨#[]⟩, .int .i64 0] 28 (0,0)):=by rw[←hW0];exact heap_alloc_new w _
 have h0:=h.below hb0
 obtain⟨c0,c1,c2⟩:=h0.cells
 have cp:=place_any S hs B v n W0 h0 hl
 have ct:=there_yes B W0 c0
 obtain⟨g,cap,rfl,hcp,hcx,hBg,hg,hrow⟩:=nth_form h0 _ hi
 rw[hf]at cp
 generalize placeL S.l n=i at*
 have hii:(i:Int)<(S.l.length:Int):=by omega
 have hlB:=h0.lt
 have HH:=Lib.hid h0
 have HR:=Lib.hid hrow
 have HK:=Lib.hid hkk
 have HW:=Lib.hid hW0
 have HB0:=Lib.hid hB0
 have hl0:=(Array.getElem?_eq_some_iff.1 hB0).1
 clear h h0 hs hf hrow hid hk hkk hW0 hB0 c0 c1 c2
 go_enter Tryz.func11,Tryz.ntmps11
 go_upto_region 1 with fail
 rw[HW.out]
 clear HW
 go_upto_region 5 with (first|(go_at_call 23;refine ct.mono ?_;rintro e w1 ⟨rfl,rfl⟩)|(go_at_call 32;refine cp.mono ?_;rintro e w1 ⟨rfl,hb⟩))
 have hC1:=HH.out.below hb
 obtain⟨d0,d1,d2⟩:=hC1.cells
 obtain⟨e0,e1,e2,e3,e4⟩:=conn_cells (HR.out.each i hi w1 hb)
 have hk1:w1.heap[w.heap.size]?=some (.cells #[.bool false, .string ⟨#[]⟩, .int .i64 0] 28 (0,0)):=(hb.block _ hl0).trans HB0.out
 have f0:w1.frozen? ⟨w.heap.size,0,none⟩=false:=by simp[World.frozen?,hk1]
 have f1:w1.frozen? ⟨w.heap.size,1,none⟩=false:=by simp[World.frozen?,hk1]
 have f2:w1.frozen? ⟨w.heap.size,2,none⟩=false:=by simp[World.frozen?,hk1]
 have k0:w1.cell? ⟨w.heap.size,0,none⟩=some (.bool false):=by rw[Lib.cell_of_heap hk1];rfl
 have k1:w1.cell? ⟨w.heap.size,1,none⟩=some (.string ⟨#[]⟩):=by rw[Lib.cell_of_heap hk1];rfl
 have k2:w1.cell? ⟨w.heap.size,2,none⟩=some (.int .i64 0):=by rw[Lib.cell_of_heap hk1];rfl
 have HKN:=Lib.hid hk1
 have hbb:=hb0.trans (hb.mono hb0.size)
 rw[HK.out]at e1 e2 e3
 clear hC1 HH HR hk1 HK
 go_wp2_with fail
 exact bodyPost_ret (key_results rfl rfl (key_set HKN.out)) rfl ⟨rfl,((hbb.setCell (p:=⟨w.heap.size,0,none⟩) (Nat.le_refl _) _).setCell (p:=⟨w.heap.size,1,none⟩) (Nat.le_refl _) _).setCell (p:=⟨w.heap.size,2,none⟩) (Nat.le_refl _) _⟩
theorem conns_store {w0 w2:World} {B:Nat} {v0 v':Value} {S:ConnsL} {l':List ConnL} (h:ConnsAt w0 B v0 S) (hgr:w0.grownBy w2 v0.ownBlock) (hown:w2.ownsRow (B+1) 73 5 v' l'.length (l'.flatMap cellsC)) (hv:∀k,v'.ownBlock=some k→v0.ownBlock=some k∨w0.heap.size≤k):
 ConnsAt (w2.setCell ⟨B,1,none⟩ v') B v' ⟨l',S.next⟩∧Turn B v0 w0 (w2.setCell ⟨B,1,none⟩ v') v':=by
 have hB2:w2.heap[B]?=w0.heap[B]?:=hgr.block B h.lt (fun e=>by have:=(h.own B e.symm).1;omega)
 refine⟨⟨heap_setCell_same w2 B 1 _ _ v' (hB2.trans h.at_),ownsRow_setCell_below hown (by show B<B+1;omega) _⟩,⟨hgr.os,hgr.tape,hgr.output,by simpa[World.setCell]using hgr.size,fun k hk hkB hne=> ?_,hv⟩⟩
 rw[Below.heap_setCell _ _ _ _ (by exact hkB)]
 exact hgr.block k hk (fun e=>hne e.symm)
theorem conns_next {w0:World} {B:Nat} {v0:Value} {S:ConnsL} (h:ConnsAt w0 B v0 S) (n:Nat):
 ConnsAt (w0.setCell ⟨B,2,none⟩ (.int .i64 n)) B v0 ⟨S.l,n⟩∧Turn B v0 w0 (w0.setCell ⟨B,2,none⟩ (.int .i64 n)) v0:=by
 refine⟨⟨heap_setCell_same w0 B 2 _ _ _ h.at_,ownsRow_setCell_below h.row (by show B<B+1;omega) _⟩,⟨rfl,rfl,rfl,by simp[World.setCell],fun k hk hkB hne=>Below.heap_setCell _ _ _ _ (by exact hkB),fun k hk=> .inl hk⟩⟩
theorem Below.blockOf {w w':World} (h:Below w.heap.size w w') {k:Nat} {o:Obj} (hk:w.heap[k]?=some o):w'.heap[k]?=some o:=(h.block k (Array.getElem?_eq_some_iff.1 hk).1).trans hk
set_option maxRecDepth 100000 in
theorem old_any (S:ConnsL) (B:Nat) (v:Value) (now:Int) (w:World) (h:ConnsAt w B v S) (hl:S.l.length≤1000) (h1:∀x∈S.l,x.given≤1000000) (h2:0≤now) (h3:now≤1000000):
 Calls Tryz.prog 14 #[.pointer (some ⟨B,0,none⟩), .int .i64 now] w fun e w'=>∃t v',e= .returned t∧RowS 1 encI w' t (oldR S now).1∧ConnsAt w' B v' (oldR S now).2∧Turn B v w w' v':=by
 obtain⟨W0,hW0⟩:∃W,w.alloc (.cells #[.int .i64 now] 3)=W:=⟨_,rfl⟩
 have hb0:Below w.heap.size w W0:=by rw[←hW0];exact below_alloc w _
 have hB0:W0.heap[w.heap.size]?=some (.cells #[.int .i64 now] 3 (0,0)):=by rw[←hW0];exact heap_alloc_new w _
 have hq:W0.cell? ⟨w.heap.size,0,none⟩=some (.int .i64 now):=by rw[Lib.cell_of_heap hB0];rfl
 have hlq:=World.block_lt_of_cell? _ _ hq
 have h0:=h.below hb0
 have cn:=numbers_any 35 enters_old #[.pointer (some ⟨w.heap.size,0,none⟩)] (oldB now) S B v W0 h0 hl (fun x hx W hW=>old1_any x now w.heap.size W ((hW.cell (p:=⟨w.heap.size,0,none⟩) hlq).trans hq) (h1 x hx) h2 h3)
 have hlB:=h.lt
 have hlen:(numsL (oldB now) S.l).length=(S.l.filter (oldB now)).length:=by unfold numsL;rw[List.length_map]
 have HW:=Lib.hid hW0
 have HH:=Lib.hid h0
 have HQ:=Lib.hid hq
 have H1:=Lib.hid h1
 have HL:=Lib.hid hlen
 clear hW0 hB0 hq h0 h1 hlen
 by_cases hany:∃x∈S.l,oldB now x=true
 ·have hpos:0<(S.l.filter (oldB now)).length:=by
   obtain⟨x,hx,hp⟩:=hany;exact List.length_pos_of_mem (List.mem_filter.2 ⟨hx,hp⟩)
  have hXl:0<S.l.length:=by
   obtain⟨x,hx,hp⟩:=hany;exact List.length_pos_of_mem hx
  obtain⟨g,cap,rfl,hcp,hcx,hBg,hg,hrow⟩:=nth_form h 0 hXl;have HA:=Lib.hid hany;have HO:=Lib.hid h.row;clear hany h hrow;go_enter Tryz.func14,Tryz.ntmps14;go_upto_region 1 with fail;rw[HW.out];go_upto_region 3 with (go_at_call 33;refine cn.mono ?_;rintro e w1 ⟨⟨t,rfl,ht,hto⟩,hb⟩);have hC1:=HH.out.below hb;have hq1:w1.cell? ⟨w.heap.size,0,none⟩=some (.int .i64 now):=(hb.cell (p:=⟨w.heap.size,0,none⟩) hlq).trans HQ.out;have cd:=delf_old (B+1) now w.heap.size g cap S.l w1 HA.out hC1.row hl hq1 (by omega) hcp hcx H1.out h2 h3;obtain⟨d0,d1,d2⟩:=hC1.cells;have dz:w1.frozen? ⟨B,1,none⟩=false:=hC1.free 1;have HT:=Lib.hid ht;have HTO:=Lib.hid hto;have HC1:=Lib.hid hC1;have HB1:=Lib.hid hb;obtain⟨a,m,c,rfl,hm,hmc⟩:=ht.conc;have hmp:0<m:=by rw[hm,HL.out];exact hpos
  have hmi:(0:Int)<(m:Int):=by omega
  have HM:=Lib.hid hm;have hlB1:B<w1.heap.size:=hC1.lt;clear ht hto hC1 hq1 hb hm cn;go_upto_region 5 with (go_at_call 36;refine cd.mono ?_;rintro e w2 ⟨m2,hm2,rfl,hown2,hgr⟩;have d1b:=hgr.cell d1 (by simp;omega);have dzb:w2.frozen? ⟨B,1,none⟩=false:=(World.frozen?_of_block (w:=w1) (a:=⟨B,1,none⟩) (hgr.block B hlB1 (by simp;omega))).trans dz;have HM2:=Lib.hid hm2;have HO2:=Lib.hid hown2;have HG2:=Lib.hid hgr;clear hm2 hown2 hgr d1 dz cd);go_wp2_with fail;go_ret;have hR:oldR S now=(numsL (oldB now) S.l,⟨S.l.filter fun x=> !oldB now x,S.next⟩):=rfl;rw[hR];have hown2:=HO2.out;rw[HM2.out]at hown2;have hst:=conns_store (l':=S.l.filter fun x=> !oldB now x) HC1.out HG2.out hown2 (fun k hk=> .inl hk);have hT2:RowS 1 encI w2 (.slice a m c) (numsL (oldB now) S.l):=HT.out.same (fun k hk hk2=>HG2.out.block k hk2 (fun e=>by
   have:=HTO.out k hk;simp at e;omega)) HG2.out.size
  have hT3:=RowS.same (w':=w2.setCell ⟨B,1,none⟩ (.slice (some ⟨g,0,none⟩) (S.l.filter fun x=> !oldB now x).length cap)) hT2 (fun k hk hk2=>Below.heap_setCell _ _ _ _ (by
   have:=HTO.out k hk;show k≠B;omega)) (by simp[World.setCell])
  rw[HM2.out];exact⟨_,_,rfl,hT3,hst.1,((Turn.of hb0).below HB1.out).trans hst.2⟩
 ·have hnone:∀x∈S.l,oldB now x=false:=fun x hx=>by
   cases hp:oldB now x with
   |false=>rfl
   |true=>exact absurd ⟨x,hx,hp⟩ hany
  have hf1:S.l.filter (oldB now)=[]:=by rw[List.filter_eq_nil_iff];intro x hx;rw[hnone x hx];simp
  have hf2:S.l.filter (fun x=> !oldB now x)=S.l:=by rw[List.filter_eq_self];intro x hx;rw[hnone x hx];rfl
  have hR:oldR S now=([],S):=by unfold oldR numsL;rw[hf1,hf2];rfl
  have hN:numsL (oldB now) S.l=[]:=by unfold numsL;rw[hf1];rfl
  rw[hN]at cn;have HR:=Lib.hid hR;clear hany hnone hf1 hf2 hR hN h;go_enter Tryz.func14,Tryz.ntmps14;go_upto_region 1 with fail;rw[HW.out];go_upto_region 3 with (go_at_call 33;refine cn.mono ?_;rintro e w1 ⟨⟨t,rfl,ht,hto⟩,hb⟩);have HT:=Lib.hid ht;obtain⟨a,m,c,rfl,hm,hmc⟩:=ht.conc;simp only[List.length_nil]at hm;subst hm;clear ht hto;go_wp2_with fail;go_ret;rw[HR.out];exact⟨_,_,rfl,HT.out,HH.out.below hb,(Turn.of hb0).below hb⟩
end Go.Proofs.YtpkoodnbkffpoaaGreatDoor
