/- jar.Apply of a change of a seal: walked. -/
import Derived.Test.YtjkipdoebkhkaaaGreatDoorJarChk
import Derived.Test.YtjkipdoebkhkaaaGreatDoorGUp6
set_option linter.unusedVariables false
set_option linter.unusedSimpArgs false
set_option maxHeartbeats 16000000
namespace Go.Proofs.YtjkipdoebkhkaaaGreatDoor
open Go.RowKit
structure ApW (w:World) (a b:Value) (n kd:Int) (s:SealL) (wr:World):Prop where
 low:Below w.heap.size w wr
 kp:wr.heap[w.heap.size]?=some (.cells #[a,b, .int .i64 n] 25 (0,0))
 ch:wr.heap[w.heap.size+1]?=some (.cells (changeC kd s).toArray 46 (0,0))
 rs:wr.heap[w.heap.size+2]?=some (.cells #[.slice none 0 0, .slice none 0 0, .int .i64 0] 25 (0,0))
theorem ApW.below {w wr wx:World} {a b:Value} {n kd:Int} {s:SealL} (h:ApW w a b n kd s wr) (k:Below wr.heap.size wr wx):ApW w a b n kd s wx:=
 ⟨below_nx h.low k,(k.block _ (Array.getElem?_eq_some_iff.1 h.kp).1).trans h.kp,(k.block _ (Array.getElem?_eq_some_iff.1 h.ch).1).trans h.ch,(k.block _ (Array.getElem?_eq_some_iff.1 h.rs).1).trans h.rs⟩
theorem ApW.size {w wr:World} {a b:Value} {n kd:Int} {s:SealL} (h:ApW w a b n kd s wr):w.heap.size+2<wr.heap.size:=(Array.getElem?_eq_some_iff.1 h.rs).1
theorem ApW.set {w wr:World} {a b:Value} {n kd:Int} {s:SealL} (h:ApW w a b n kd s wr) (va vb:Value):ApW w va vb n kd s ((wr.setCell ⟨w.heap.size,0,none⟩ va).setCell ⟨w.heap.size,1,none⟩ vb):=by
 have ho:∀k,k≠w.heap.size→((wr.setCell ⟨w.heap.size,0,none⟩ va).setCell ⟨w.heap.size,1,none⟩ vb).heap[k]?=wr.heap[k]?:=fun k hk=>(heap_setCell_other _ ⟨w.heap.size,1,none⟩ k vb hk).trans (heap_setCell_other _ ⟨w.heap.size,0,none⟩ k va hk)
 exact⟨(h.low.setCell (p:=⟨w.heap.size,0,none⟩) (Nat.le_refl _) _).setCell (p:=⟨w.heap.size,1,none⟩) (Nat.le_refl _) _,heap_setCell_same _ w.heap.size 1 _ _ vb (heap_setCell_same wr w.heap.size 0 _ _ va h.kp),(ho _ (by omega)).trans h.ch,(ho _ (by omega)).trans h.rs⟩
theorem ApW.cells {w wr:World} {a b:Value} {n kd:Int} {s:SealL} (h:ApW w a b n kd s wr):wr.cell? ⟨w.heap.size,0,none⟩=some a∧wr.cell? ⟨w.heap.size,1,none⟩=some b∧wr.cell? ⟨w.heap.size,2,none⟩=some (.int .i64 n)∧wr.frozen? ⟨w.heap.size,0,none⟩=false∧wr.frozen? ⟨w.heap.size,1,none⟩=false:=
 ⟨by rw[Lib.cell_of_heap h.kp];rfl,by rw[Lib.cell_of_heap h.kp];rfl,by rw[Lib.cell_of_heap h.kp];rfl,by simp[World.frozen?,h.kp],by simp[World.frozen?,h.kp]⟩
theorem ApW.setb {w wr:World} {a b:Value} {n kd:Int} {s:SealL} (h:ApW w a b n kd s wr) (vb:Value):ApW w a vb n kd s (wr.setCell ⟨w.heap.size,1,none⟩ vb):=by
 have ho:∀k,k≠w.heap.size→(wr.setCell ⟨w.heap.size,1,none⟩ vb).heap[k]?=wr.heap[k]?:=fun k hk=>heap_setCell_other _ ⟨w.heap.size,1,none⟩ k vb hk
 exact⟨h.low.setCell (p:=⟨w.heap.size,1,none⟩) (Nat.le_refl _) _,heap_setCell_same wr w.heap.size 1 _ _ vb h.kp,(ho _ (by omega)).trans h.ch,(ho _ (by omega)).trans h.rs⟩
theorem ApW.grown {w wr wx:World} {a b:Value} {n kd:Int} {s:SealL} {row:Option Nat} (h:ApW w a b n kd s wr) (hg:wr.grownBy wx row) (hr:∀k,row=some k→w.heap.size+3≤k):ApW w a b n kd s wx:=by
 have hs:=h.size;have hb:Below (w.heap.size+3) wr wx:=below_of_grown hg (by omega) hr;exact⟨h.low.trans (below_of_grown hg (by omega) fun k hk=>by have:=hr k hk;omega),(hb.block _ (by omega)).trans h.kp,(hb.block _ (by omega)).trans h.ch,(hb.block _ (by omega)).trans h.rs⟩
theorem own_set1 {w wr:World} {base e z:Nat} {v:Value} {n:Nat} {xs:List Value} (h:wr.ownsRow base e z v n xs) (hb:w.heap.size+1≤base) (o:Nat) (va:Value):(wr.setCell ⟨w.heap.size,o,none⟩ va).ownsRow base e z v n xs:=by
 refine h.kept (grown_setCell wr w.heap.size o va) ?_;rcases hv:v.ownBlock with _|k
 ·exact .inl rfl
 ·right
  intro e;injection e with e;have:=(h.lt k hv).1;omega
theorem own_conc2 {w:World} {base e z:Nat} {v:Value} {n:Nat} {xs:List Value} (h:w.ownsRow base e z v n xs) (hn:0<n):∃g cap,v= .slice (some ⟨g,0,none⟩) n cap∧n≤cap∧cap≤maxLen:=by
 rcases h.2 with ⟨_,h0⟩|⟨g,cap,cur,rfl,hbg,hg,hnc,hcm,hcs,hcu⟩
 ·omega
 ·exact⟨_,_,rfl,hnc,hcm⟩
theorem ApW.cells2 {w wr:World} {a b:Value} {n kd:Int} {s:SealL} (h:ApW w a b n kd s wr):wr.cell? ⟨w.heap.size+1+1,0,none⟩=some (.slice none 0 0)∧wr.cell? ⟨w.heap.size+1+1,1,none⟩=some (.slice none 0 0)∧wr.cell? ⟨w.heap.size+1+1,2,none⟩=some (.int .i64 0)∧wr.frozen? ⟨w.heap.size+1+1,0,none⟩=false∧wr.frozen? ⟨w.heap.size+1+1,1,none⟩=false∧wr.frozen? ⟨w.heap.size+1+1,2,none⟩=false:=by
 have hr:=h.rs;exact⟨by rw[Lib.cell_of_heap hr];rfl,by rw[Lib.cell_of_heap hr];rfl,by rw[Lib.cell_of_heap hr];rfl,by simp[World.frozen?,hr],by simp[World.frozen?,hr],by simp[World.frozen?,hr]⟩
theorem own_set2 {w wr:World} {base e z:Nat} {v:Value} {n:Nat} {xs:List Value} (h:wr.ownsRow base e z v n xs) (hb:w.heap.size+1≤base) (va vb:Value):((wr.setCell ⟨w.heap.size,0,none⟩ va).setCell ⟨w.heap.size,1,none⟩ vb).ownsRow base e z v n xs:=by
 have hg:wr.grownBy ((wr.setCell ⟨w.heap.size,0,none⟩ va).setCell ⟨w.heap.size,1,none⟩ vb) (some w.heap.size):=⟨rfl,rfl,rfl,by simp[World.setCell],fun k _ hne=>(heap_setCell_other _ ⟨w.heap.size,1,none⟩ k vb (fun e=>hne (by rw[e]))).trans (heap_setCell_other _ ⟨w.heap.size,0,none⟩ k va (fun e=>hne (by rw[e])))⟩;refine h.kept hg ?_;rcases hv:v.ownBlock with _|k
 ·exact .inl rfl
 ·right
  intro e;injection e with e;have:=(h.lt k hv).1;omega
theorem rowS_same2 {α:Type} {z:Nat} {en:α→List Value} {w w':World} {v:Value} {X:List α} (h:RowS z en w v X) (hk:∀k,v.ownBlock=some k→k<w.heap.size→w'.heap[k]?=w.heap[k]?) (hs:w.heap.size≤w'.heap.size):RowS z en w' v X:=by
 rcases h with h|⟨a,c,rfl,h2,h3,h4⟩
 ·exact .inl h
 ·exact .inr ⟨a,c,rfl,h2,fun h0=>Nat.lt_of_lt_of_le (h3 h0) hs,fun k hk2 j u hj=>by
   have hb:a.block<w.heap.size:=h3 (by omega);exact(World.cell?_of_block (w:=w) (a:=a.add (k*z+j)) (by rw[Go.ChangeShapes.block_add];exact hk _ rfl hb)).trans (h4 k hk2 j u hj)⟩
theorem rowS_set2 {α:Type} {z:Nat} {en:α→List Value} {w wr:World} {v:Value} {X:List α} (h:RowS z en wr v X) (hb:∀k,v.ownBlock=some k→w.heap.size+3≤k) (va vb:Value):RowS z en ((wr.setCell ⟨w.heap.size,0,none⟩ va).setCell ⟨w.heap.size,1,none⟩ vb) v X:=
 rowS_same2 h (fun k hk _=>by
  have:=hb k hk;exact(heap_setCell_other _ ⟨w.heap.size,1,none⟩ k vb (by simp only;omega)).trans (heap_setCell_other _ ⟨w.heap.size,0,none⟩ k va (by simp only;omega))) (by simp[World.setCell])
theorem rowS_set3 {α:Type} {z:Nat} {en:α→List Value} {w wr:World} {v:Value} {X:List α} (h:RowS z en wr v X) (hb:∀k,v.ownBlock=some k→w.heap.size+3≤k) (va vb vc:Value):RowS z en (((wr.setCell ⟨w.heap.size+1+1,0,none⟩ va).setCell ⟨w.heap.size+1+1,1,none⟩ vb).setCell ⟨w.heap.size+1+1,2,none⟩ vc) v X:=
 rowS_same2 h (fun k hk _=>by
  have:=hb k hk;exact(heap_setCell_other _ ⟨w.heap.size+1+1,2,none⟩ k vc (by simp only;omega)).trans ((heap_setCell_other _ ⟨w.heap.size+1+1,1,none⟩ k vb (by simp only;omega)).trans (heap_setCell_other _ ⟨w.heap.size+1+1,0,none⟩ k va (by simp only;omega)))) (by simp[World.setCell])
theorem appS_host {S:List SealL} {s:SealL} {d:Bool} (zS:∀x∈S,x.host.length≤1048576) (zs:s.host.length≤1048576):∀x∈appS S (d,s),x.host.length≤1048576:=by
 have ho:∀h,∀x∈sealOut S h,x.host.length≤1048576:=fun h x hx=>by
  unfold sealOut at hx;split at hx
  ·exact zS x (List.mem_of_mem_eraseIdx hx)
  ·exact zS x hx
 intro x hx;unfold appS at hx
 cases d with
 |false=>exact ho _ x hx
 |true=>
  have hx:x∈sealIn S s:=hx;unfold sealIn at hx;rcases List.mem_append.1 hx with h|h
  ·exact ho _ x (List.mem_of_mem_take h)
  ·rcases List.mem_cons.1 h with rfl|h
   ·exact zs
   ·exact ho _ x (List.mem_of_mem_drop h)
theorem own_conc {w:World} {base e z:Nat} {v:Value} {n:Nat} {xs:List Value} (h:w.ownsRow base e z v n xs):∃a n' c,v= .slice a n' c:=by
 rcases h.2 with ⟨rfl,_⟩|⟨g,cap,cur,rfl,_⟩<;>exact⟨_,_,_,rfl⟩
abbrev keepCells (a b:Value) (n:Int):Array Value:= #[a,b, .int .i64 n]
set_option maxRecDepth 100000 in
theorem apply_seal (a b:Value) (n:Int) (J:List CookieL) (S:List SealL) (kd:Int) (hk:kd=3∨kd=4) (s:SealL) (w:World) (hE:EnvH w) (hJ:RowS 12 cellsK w a J) (hS:RowS 3 cellsS w b S) (zJ:∀x∈J,SizK x) (zS:∀x∈S,x.host.length≤1048576) (zs:s.host.length≤1048576)
 (hok:sealOk s=true) (hK:keepB J S n=true) (hK2:keepB J (appS S (decide (kd=3),s)) n=true):
 Calls Tryz.prog 12 #[keepV a b n,changeV kd s] w fun e w'=>∃a' b',e= .returned (.tuple #[keepV a' b' n, .int .i64 0])∧RowS 12 cellsK w' a' J∧RowS 3 cellsS w' b' (appS S (decide (kd=3),s))∧Below w.heap.size w w':=by
 obtain⟨hss,hs200,hj300⟩:=keepB_parts hK
 obtain⟨a1,a2,a3,rfl,ha2,ha3⟩:=hJ.conc
 obtain⟨b1,b2,b3,rfl,hb2,hb3⟩:=hS.conc
 subst ha2 hb2
 obtain⟨W1,hW1⟩:∃W,w.alloc (.cells (keepCells (.slice a1 J.length a3) (.slice b1 S.length b3) n) 25)=W:=⟨_,rfl⟩
 obtain⟨W2,hW2⟩:∃W,W1.alloc (.cells (changeC kd s).toArray 46)=W:=⟨_,rfl⟩
 obtain⟨W0,hW0⟩:∃W,W2.alloc (.cells (keepCells (.slice none 0 0) (.slice none 0 0) 0) 25)=W:=⟨_,rfl⟩
 have hb01:Below w.heap.size w W1:=by rw[←hW1];exact below_alloc w _
 have hb12:Below W1.heap.size W1 W2:=by rw[←hW2];exact below_alloc W1 _
 have hb20:Below W2.heap.size W2 W0:=by rw[←hW0];exact below_alloc W2 _
 have hs1:W1.heap.size=w.heap.size+1:=by rw[←hW1,World.size_alloc]
 have hs2:W2.heap.size=w.heap.size+2:=by rw[←hW2,World.size_alloc,hs1]
 have hs0:W0.heap.size=w.heap.size+3:=by rw[←hW0,World.size_alloc,hs2]
 have hb10:=below_nx hb12 hb20
 have hb0:=below_nx hb01 hb10
 have hKp:W0.heap[w.heap.size]?=some (.cells (keepCells (.slice a1 J.length a3) (.slice b1 S.length b3) n) 25 (0,0)):=(hb10.block _ (by omega)).trans (by rw[←hW1];exact heap_alloc_new w _)
 have hCh:W0.heap[w.heap.size+1]?=some (.cells (changeC kd s).toArray 46 (0,0)):=(hb20.block _ (by omega)).trans (by rw[←hs1,←hW2];exact heap_alloc_new W1 _)
 have hRs:W0.heap[w.heap.size+2]?=some (.cells (keepCells (.slice none 0 0) (.slice none 0 0) 0) 25 (0,0)):=by rw[←hs2,←hW0];exact heap_alloc_new W2 _
 have hr:=Below.refl W0.heap.size W0
 have HKp:=Lib.hid hKp
 have HCh:=Lib.hid hCh
 have HRs:=Lib.hid hRs
 have FC:=Lib.hid (fun (j:Nat) (v:Value) (hv:(changeC kd s)[j]?=some v) (W:World) (hW:Below W0.heap.size W0 W)=>blk_cell hCh hv hW)
 have FK:=Lib.hid (fun (j:Nat) (v:Value) (hv:([.slice a1 J.length a3, .slice b1 S.length b3, .int .i64 n]:List Value)[j]?=some v) (W:World) (hW:Below W0.heap.size W0 W)=>blk_cell (l:=[.slice a1 J.length a3, .slice b1 S.length b3, .int .i64 n]) hKp hv hW)
 have k0:=FK.out 0 _ rfl W0 hr
 have k1:=FK.out 1 _ rfl W0 hr
 have k2:=FK.out 2 _ rfl W0 hr
 have hJ0:=hJ.below hb0 (Nat.le_refl _)
 have hS0:=hS.below hb0 (Nat.le_refl _)
 have cc:=jcheck_any (.slice a1 J.length a3) (.slice b1 S.length b3) n J S W0 (hE.below hb0) hJ0 hS0 zJ zS (by omega) (by omega)
 rw[hK]at cc
 unfold keepV at cc
 have cv:=fun W (hW:Below W0.heap.size W0 W)=>valid_seal kd hk s W (hE.below (below_nx hb0 hW)) (by omega) hok
 unfold changeV changeC at cv
 have CV:=Lib.hid cv
 have HW:Hid (((w.alloc (.cells #[.slice a1 J.length a3, .slice b1 S.length b3, .int .i64 n] 25)).alloc (.cells #[.int .u8 kd, .string ⟨#[]⟩, .string ⟨#[]⟩, .string ⟨#[]⟩, .bool false, .string ⟨#[]⟩, .bool false, .bool false, .int .u8 0, .int .i64 0, .int .i64 0, .int .i64 0, .int .i64 0, .string ⟨s.host.toArray⟩, .bool s.subs, .int .i64 s.till] 46)).alloc (.cells #[.slice none 0 0, .slice none 0 0, .int .i64 0] 25)=W0):=by
  show _=_;rw[←hW0,←hW2,←hW1];rfl
 have HS0:=Lib.hid hS0
 have HJ0:=Lib.hid hJ0
 clear hW0 hW1 hW2 hb01 hb12 hb20 hb10 hKp hCh hRs cv hJ hS hJ0 hS0 hs1 hs2
 unfold keepV changeV changeC
 go_enter Tryz.func12,Tryz.ntmps12
 go_upto_region 1 with fail
 rw[HW.out]
 go_upto_region 3 with (first
  |(go_at_call 9;refine cc.mono ?_;rintro e z1 ⟨rfl,hz1⟩;have y0:=FC.out 0 _ rfl z1 hz1;have y1:=FC.out 1 _ rfl z1 hz1;have y2:=FC.out 2 _ rfl z1 hz1;have y3:=FC.out 3 _ rfl z1 hz1;have y4:=FC.out 4 _ rfl z1 hz1;have y5:=FC.out 5 _ rfl z1 hz1;have y6:=FC.out 6 _ rfl z1 hz1;have y7:=FC.out 7 _ rfl z1 hz1;have y8:=FC.out 8 _ rfl z1 hz1;have y9:=FC.out 9 _ rfl z1 hz1;have y10:=FC.out 10 _ rfl z1 hz1;have y11:=FC.out 11 _ rfl z1 hz1;have y12:=FC.out 12 _ rfl z1 hz1;have y13:=FC.out 13 _ rfl z1 hz1;have y14:=FC.out 14 _ rfl z1 hz1;have y15:=FC.out 15 _ rfl z1 hz1)
  |(go_at_call 37;refine(CV.out _ hz1).mono ?_;rintro e z2 ⟨rfl,hz2⟩))
 have hz02:=below_nx hz1 hz2
 have hA2:ApW w (.slice a1 J.length a3) (.slice b1 S.length b3) n kd s z2:=(ApW.mk hb0 HKp.out HCh.out HRs.out).below hz02
 have HA2:=Lib.hid hA2
 have hJ2:=HJ0.out.below hz02 (Nat.le_refl _)
 have hS2:=HS0.out.below hz02 (Nat.le_refl _)
 have hz2s:=HA2.out.size
 have CJ:Hid (∀W,Below z2.heap.size z2 W→Calls Tryz.prog 38 #[.slice a1 J.length a3] W fun e W'=>∃v',e= .returned v'∧(W'.ownsRow (w.heap.size+3) 42 12 v' J.length (J.flatMap cellsK)∧∀k,v'.ownBlock=some k→W.heap.size≤k)∧Below W.heap.size W W'∧Below z2.heap.size z2 W'):=fun W hW=>by
  refine(clone_cooks J _ W (hJ2.below hW (Nat.le_refl _)) (by omega)).mono ?_;rintro e W' ⟨v',rfl,h1,h2⟩;exact⟨v',rfl,⟨own_base h1 (by have:=hW.size;omega),fun k hk=>(h1.lt k hk).1⟩,h2,below_nx hW h2⟩
 have CSl:Hid (∀W,Below z2.heap.size z2 W→Calls Tryz.prog 39 #[.slice b1 S.length b3] W fun e W'=>∃v',e= .returned v'∧(W'.ownsRow (w.heap.size+3) 44 3 v' S.length (S.flatMap cellsS)∧∀k,v'.ownBlock=some k→W.heap.size≤k)∧Below W.heap.size W W'∧Below z2.heap.size z2 W'):=fun W hW=>by
  refine(clone_seals S _ W (hS2.below hW (Nat.le_refl _)) (by omega)).mono ?_;rintro e W' ⟨v',rfl,h1,h2⟩;exact⟨v',rfl,⟨own_base h1 (by have:=hW.size;omega),fun k hk=>(h1.lt k hk).1⟩,h2,below_nx hW h2⟩
 have FA:Hid (∀W,Below z2.heap.size z2 W→W.cell? ⟨w.heap.size,0,none⟩=some (.slice a1 J.length a3)∧W.cell? ⟨w.heap.size,1,none⟩=some (.slice b1 S.length b3)∧W.cell? ⟨w.heap.size,2,none⟩=some (.int .i64 n)∧W.frozen? ⟨w.heap.size,0,none⟩=false∧W.frozen? ⟨w.heap.size,1,none⟩=false):=fun W hW=>(HA2.out.below hW).cells
 have hd2:=(Below.refl z2.heap.size z2).drew
 obtain⟨p0,p1,p2,p3,p4⟩:=FA.out _ hd2
 clear hz1 hz2 hz02 hA2 hJ2 hS2 y0 y1 y2 y3 y4 y5 y6 y7 y8 y9 y10 y11 y12 y13 y14 y15 k0 k1 k2 cc hr
 go_cut []from 19 to 26 (fun wx=>∃va vb,Hid (ApW w va vb n kd s wx)∧Hid (wx.ownsRow (w.heap.size+3) 42 12 va J.length (J.flatMap cellsK))∧Hid (wx.ownsRow (w.heap.size+3) 44 3 vb S.length (S.flatMap cellsS))∧Hid (∀k,va.ownBlock=some k→vb.ownBlock≠some k))
 case first=>
  go_region_law (first
   |(go_simp;go_at_call 38;refine(CJ.out _ (by assumption)).mono ?_;rintro e c1 ⟨va,rfl,⟨hoa,hna⟩,hba,hla⟩;obtain⟨a4,a5,a6,rfl⟩:=own_conc hoa;obtain⟨q0,q1,q2,q3,q4⟩:=FA.out c1 hla;(try have hob2:=own_below hob hba))
   |(go_simp;go_at_call 39;refine(CSl.out _ (by assumption)).mono ?_;rintro e c2 ⟨vb,rfl,⟨hob,hnb⟩,hbb,hlb⟩;obtain⟨b4,b5,b6,rfl⟩:=own_conc hob;obtain⟨r0,r1,r2,r3,r4⟩:=FA.out c2 hlb;(try have hoa2:=own_below hoa hbb)))
  all_goals
   go_wp2_with fail;go_meet;exact⟨_,_,Lib.hid ((HA2.out.below (by assumption)).set _ _),Lib.hid (own_set2 (by assumption) (by omega) _ _),Lib.hid (own_set2 (by assumption) (by omega) _ _),Lib.hid (by first|exact fun k e1 e2=>Nat.lt_irrefl _ (Nat.lt_of_lt_of_le (hoa.lt k e1).2 (hnb k e2))|exact fun k e1 e2=>Nat.lt_irrefl _ (Nat.lt_of_lt_of_le (hob.lt k e2).2 (hna k e1)))⟩
 case rest=>
  obtain⟨va,vb,HA,HO1,HO2,HNE⟩:=hcut;clear FA CJ CSl p0 p1 p2 p3 p4 hd2;obtain⟨q0,q1,q2,q3,q4⟩:=HA.out.cells;obtain⟨a4,a5,a6,rfl⟩:=own_conc HO1.out;obtain⟨b4,b5,b6,rfl⟩:=own_conc HO2.out;have x0:=blk_cell HA.out.ch (j:=0) rfl (Below.refl _ _);go_upto_block 0 with fail;clear q0 q1 q2 q3 q4 x0;go_cut [8,9]from 29 to 97 (fun _ _ wx=>∃vb',Hid (ApW w (.slice a4 a5 a6) vb' n kd s wx)∧Hid (wx.ownsRow (w.heap.size+3) 42 12 (.slice a4 a5 a6) J.length (J.flatMap cellsK))∧Hid (wx.ownsRow (w.heap.size+3) 44 3 vb' (appS S (decide (kd=3),s)).length ((appS S (decide (kd=3),s)).flatMap cellsS)))
  case first=>
   have hrow:RowS 3 cellsS wc (.slice b4 b5 b6) S:=RowS.own (by omega) cellsS_len HO2.out rfl;have BS:=Lib.hid (fun W (hW:Below wc.heap.size wc W)=>bsearchS_any S (sealsB_iff.1 hss).2 (.slice b4 b5 b6) s.host W (hrow.below hW (Nat.le_refl _)) (by omega));have hr:=Below.refl wc.heap.size wc;have HC:=Lib.hid (fun (j:Nat) (v:Value) (hv:(changeC kd s)[j]?=some v) (W:World) (hW:Below wc.heap.size wc W)=>blk_cell HA.out.ch hv hW);have x0:=HC.out 0 _ rfl wc hr;have x13:=HC.out 13 _ rfl wc hr;obtain⟨q0,q1,q2,q3,q4⟩:=HA.out.cells;clear hrow;rcases hk with rfl|rfl
   ·go_upto_if 79 with (go_at_call 45;refine(BS.out _ hr).mono ?_;rintro e z3 ⟨rfl,hz3⟩)
    have hz3s:=hz3.size;clear x0 x13 q0 q1 q2 q3 q4 BS HC hr;go_cut [9]from 70 to 86 (fun _ wx=>∃vc,Hid (ApW w (.slice a4 a5 a6) vc n 3 s wx)∧Hid (wx.ownsRow (w.heap.size+3) 42 12 (.slice a4 a5 a6) J.length (J.flatMap cellsK))∧Hid (wx.ownsRow (w.heap.size+3) 44 3 vc (sealOut S s.host).length ((sealOut S s.host).flatMap cellsS))∧Hid (∀k,(Value.slice a4 a5 a6).ownBlock=some k→vc.ownBlock≠some k))
    case first=>
     cases hf:foundS S s.host
     ·have e:sealOut S s.host=S:=by unfold sealOut;rw[hf];rfl
      have HE:=Lib.hid e;clear hf e;go_wp2_with fail;go_meet;rw[HE.out];exact⟨_,Lib.hid (HA.out.below hz3),Lib.hid (own_below HO1.out hz3),Lib.hid (own_below HO2.out hz3),HNE⟩
     ·have e:sealOut S s.host=S.eraseIdx (placeS S s.host):=by unfold sealOut;rw[hf];rfl
      have HE:=Lib.hid e;have hi:placeS S s.host<S.length:=by
       unfold foundS at hf
       cases hx:S[placeS S s.host]? with
       |none=>rw[hx]at hf;cases hf
       |some x=>exact(List.getElem?_eq_some_iff.1 hx).1
      clear hf e;generalize placeS S s.host=i at*;obtain⟨g,cap,eg,hnc,hcm⟩:=own_conc2 HO2.out (by omega);injection eg with e1 e2 e3;subst e1 e2 e3;have hwr:IntKind.i64.wrap ((i:Int)+1)=(i:Int)+1:=by rw[IntKind.wrap_i64];omega
      have SD:=Lib.hid (sdelete_any (w.heap.size+3) g b6 i S z3 (own_below HO2.out hz3) hi (by omega) hnc hcm);have HA3:=Lib.hid (HA.out.below hz3);have HO3:=Lib.hid (own_below HO1.out hz3);obtain⟨q0,q1,q2,q3,q4⟩:=HA3.out.cells;clear hcm hnc;have hgb:=(HO2.out.lt g rfl).1;go_wp2_with(go_at_call 47;refine SD.out.mono ?_;rintro e z5 ⟨rfl,ho5,hg5⟩;obtain⟨r0,r1,r2,r3,r4⟩:=(HA3.out.grown hg5 (fun k hk=>by injection hk with hk;omega)).cells);go_meet;rw[HE.out];refine⟨_,Lib.hid ((HA3.out.grown hg5 (fun k hk=>by injection hk with hk;omega)).setb _),Lib.hid (own_set1 (HO3.out.kept hg5 ?_) (by omega) _ _),Lib.hid (own_set1 (by rw[List.length_eraseIdx,if_pos hi];exact ho5) (by omega) _ _),HNE⟩
      cases hv:(Value.slice a4 a5 a6).ownBlock with
      |none=>exact .inl rfl
      |some k=>exact .inr fun e=>HNE.out k hv (by injection e with e;rw[e];rfl)
    case rest=>
     obtain⟨vc,HA2,HO3,HO4,HN2⟩:=hcut;obtain⟨c4,c5,c6,rfl⟩:=own_conc HO4.out;have x0:=blk_cell HA2.out.ch (j:=0) rfl (Below.refl _ _);have x13:=blk_cell HA2.out.ch (j:=13) rfl (Below.refl _ _);have x14:=blk_cell HA2.out.ch (j:=14) rfl (Below.refl _ _);have x15:=blk_cell HA2.out.ch (j:=15) rfl (Below.refl _ _);obtain⟨q0,q1,q2,q3,q4⟩:=HA2.out.cells;have hsl:=sealOut_len (sealsB_iff.1 hss).2 s.host;have hpi:placeS S s.host≤(sealOut S s.host).length:=by
      have hpl:=placeS_le S s.host
      cases hf:foundS S s.host with
      |false=>rw[hf]at hsl;simp at hsl;omega
      |true=>
       unfold foundS at hf
       cases hx:S[placeS S s.host]? with
       |none=>rw[hx]at hf;cases hf
       |some x=>
        have:=(List.getElem?_eq_some_iff.1 hx).1;have h1:(sealOut S s.host).length+1≥S.length:=by split at hsl<;>omega
        omega
     have hs2:=HA2.out.size;have hba:=below_alloc wc (.cells #[.string ⟨s.host.toArray⟩, .bool s.subs, .int .i64 s.till] 44);have SI:=Lib.hid (sinsert_any (w.heap.size+3) wc.heap.size (placeS S s.host) (.slice c4 c5 c6) (sealOut S s.host) s _ (own_below HO4.out hba) hpi (heap_alloc_new wc _) (fun e=>Nat.lt_irrefl _ (HO4.out.lt _ e).2) (by omega) (by rw[World.size_alloc];omega));have HO5:=Lib.hid (own_below HO3.out hba);have HA5:=Lib.hid (HA2.out.below hba);have H4:=Lib.hid (fun k (hk:(Value.slice c4 c5 c6).ownBlock=some k)=>(HO4.out.lt k hk).1);have HSI:Hid (appS S (decide ((3:Int)=3),s)=(sealOut S s.host).take (placeS S s.host)++s::(sealOut S s.host).drop (placeS S s.host)∧(appS S (decide ((3:Int)=3),s)).length=(sealOut S s.host).length+1):=by
      refine⟨rfl, ?_⟩;show((sealOut S s.host).take (placeS S s.host)++s::(sealOut S s.host).drop (placeS S s.host)).length=_;rw[List.length_append,List.length_cons,List.length_take,List.length_drop];omega
     clear hba hsl hpi;generalize placeS S s.host=i at*;go_wp2_with(go_at_call 48;refine SI.out.mono ?_;rintro e z6 ⟨vd,rfl,ho6,hg6⟩;obtain⟨d4,d5,d6,rfl⟩:=own_conc ho6;obtain⟨r0,r1,r2,r3,r4⟩:=(HA5.out.grown hg6 H4.out).cells);go_meet;rw[HSI.out.1,←HSI.out.1,HSI.out.2,HSI.out.1];refine⟨_,Lib.hid ((HA5.out.grown hg6 H4.out).setb _),Lib.hid (own_set1 (HO5.out.kept hg6 ?_) (by omega) _ _),Lib.hid (own_set1 ho6 (by omega) _ _)⟩
     cases hv:(Value.slice a4 a5 a6).ownBlock with
     |none=>exact .inl rfl
     |some k=>exact .inr fun e=>HN2.out k hv e.symm
   ·go_upto_if 79 with (go_at_call 45;refine(BS.out _ hr).mono ?_;rintro e z3 ⟨rfl,hz3⟩)
    have hz3s:=hz3.size;clear x0 x13 q0 q1 q2 q3 q4 BS HC hr;go_cut [9]from 70 to 86 (fun _ wx=>∃vc,Hid (ApW w (.slice a4 a5 a6) vc n 4 s wx)∧Hid (wx.ownsRow (w.heap.size+3) 42 12 (.slice a4 a5 a6) J.length (J.flatMap cellsK))∧Hid (wx.ownsRow (w.heap.size+3) 44 3 vc (sealOut S s.host).length ((sealOut S s.host).flatMap cellsS))∧Hid (∀k,(Value.slice a4 a5 a6).ownBlock=some k→vc.ownBlock≠some k))
    case first=>
     cases hf:foundS S s.host
     ·have e:sealOut S s.host=S:=by unfold sealOut;rw[hf];rfl
      have HE:=Lib.hid e;clear hf e;go_wp2_with fail;go_meet;rw[HE.out];exact⟨_,Lib.hid (HA.out.below hz3),Lib.hid (own_below HO1.out hz3),Lib.hid (own_below HO2.out hz3),HNE⟩
     ·have e:sealOut S s.host=S.eraseIdx (placeS S s.host):=by unfold sealOut;rw[hf];rfl
      have HE:=Lib.hid e;have hi:placeS S s.host<S.length:=by
       unfold foundS at hf
       cases hx:S[placeS S s.host]? with
       |none=>rw[hx]at hf;cases hf
       |some x=>exact(List.getElem?_eq_some_iff.1 hx).1
      clear hf e;generalize placeS S s.host=i at*;obtain⟨g,cap,eg,hnc,hcm⟩:=own_conc2 HO2.out (by omega);injection eg with e1 e2 e3;subst e1 e2 e3;have hwr:IntKind.i64.wrap ((i:Int)+1)=(i:Int)+1:=by rw[IntKind.wrap_i64];omega
      have SD:=Lib.hid (sdelete_any (w.heap.size+3) g b6 i S z3 (own_below HO2.out hz3) hi (by omega) hnc hcm);have HA3:=Lib.hid (HA.out.below hz3);have HO3:=Lib.hid (own_below HO1.out hz3);obtain⟨q0,q1,q2,q3,q4⟩:=HA3.out.cells;clear hcm hnc;have hgb:=(HO2.out.lt g rfl).1;go_wp2_with(go_at_call 47;refine SD.out.mono ?_;rintro e z5 ⟨rfl,ho5,hg5⟩;obtain⟨r0,r1,r2,r3,r4⟩:=(HA3.out.grown hg5 (fun k hk=>by injection hk with hk;omega)).cells);go_meet;rw[HE.out];refine⟨_,Lib.hid ((HA3.out.grown hg5 (fun k hk=>by injection hk with hk;omega)).setb _),Lib.hid (own_set1 (HO3.out.kept hg5 ?_) (by omega) _ _),Lib.hid (own_set1 (by rw[List.length_eraseIdx,if_pos hi];exact ho5) (by omega) _ _),HNE⟩
      cases hv:(Value.slice a4 a5 a6).ownBlock with
      |none=>exact .inl rfl
      |some k=>exact .inr fun e=>HNE.out k hv (by injection e with e;rw[e];rfl)
    case rest=>
     obtain⟨vc,HA2,HO3,HO4,HN2⟩:=hcut;obtain⟨c4,c5,c6,rfl⟩:=own_conc HO4.out;have x0:=blk_cell HA2.out.ch (j:=0) rfl (Below.refl _ _);go_wp2_with fail;go_meet;exact⟨_,HA2,HO3,HO4⟩
  case rest=>
   obtain⟨vd,HA6,HO7,HO8⟩:=hcut;obtain⟨d4,d5,d6,rfl⟩:=own_conc HO8.out;have hlS:=(keepB_parts hK2).2.1;have HT:=Lib.hid (appS_host zS zs (d:=decide (kd=3)));generalize hTe:appS S (decide (kd=3),s)=T at*;have HTe:=Lib.hid hTe;clear hTe;have hR7:RowS 12 cellsK wc (.slice a4 a5 a6) J:=RowS.own (by omega) cellsK_len HO7.out rfl;have hR8:RowS 3 cellsS wc (.slice d4 d5 d6) T:=RowS.own (by omega) cellsS_len HO8.out rfl;have C2:=jcheck_any (.slice a4 a5 a6) (.slice d4 d5 d6) n J T wc (hE.below HA6.out.low) hR7 hR8 zJ HT.out (by omega) (by omega);rw[hK2]at C2;unfold keepV at C2;have HC2:=Lib.hid C2;obtain⟨q0,q1,q2,q3,q4⟩:=HA6.out.cells;have HR7:=Lib.hid hR7;have HR8:=Lib.hid hR8;clear C2 hR7 hR8 hK2;go_upto_region 22 with (go_at_call 9;refine HC2.out.mono ?_;rintro e z9 ⟨rfl,hz9⟩);have HA9:=Lib.hid (HA6.out.below hz9);have K7:=Lib.hid (fun W (hW:Below z9.heap.size z9 W)=>clip_cooks (.slice a4 a5 a6) J W (HR7.out.below (below_nx hz9 hW) (Nat.le_refl _)) (by omega));have K8:=Lib.hid (fun W (hW:Below z9.heap.size z9 W)=>clip_seals (.slice d4 d5 d6) T W (HR8.out.below (below_nx hz9 hW) (Nat.le_refl _)) (by omega));have HB7:=Lib.hid (fun k (hk:(Value.slice a4 a5 a6).ownBlock=some k)=>(HO7.out.lt k hk).1);have HB8:=Lib.hid (fun k (hk:(Value.slice d4 d5 d6).ownBlock=some k)=>(HO8.out.lt k hk).1);clear q0 q1 q2 q3 q4 hz9;have hd9:=(Below.refl z9.heap.size z9).drew;obtain⟨q0,q1,q2,q3,q4⟩:=HA9.out.cells;go_cut []from 102 to 109 (fun wx=>∃va vb,Hid (ApW w va vb n kd s wx)∧Hid (RowS 12 cellsK wx va J)∧Hid (RowS 3 cellsS wx vb T)∧Hid (∀k,va.ownBlock=some k→w.heap.size+3≤k)∧Hid (∀k,vb.ownBlock=some k→w.heap.size+3≤k))
   case first=>
    go_region_law (first
     |(go_simp;go_at_call 49;refine(K7.out _ (by assumption)).mono ?_;rintro e c1 ⟨⟨va,rfl,hva,hoa⟩,rfl⟩;obtain⟨e4,e5,e6,rfl,rfl,_⟩:=hva.conc)
     |(go_simp;go_at_call 50;refine(K8.out _ (by assumption)).mono ?_;rintro e c2 ⟨⟨vb,rfl,hvb,hob⟩,rfl⟩;obtain⟨f4,f5,f6,rfl,rfl,_⟩:=hvb.conc))
    all_goals
     go_wp2_with fail;go_meet;exact⟨_,_,Lib.hid (ApW.below (HA9.out.set _ _) (Below.refl _ _).drew),Lib.hid (rowS_set2 (w:=w) (wr:=z9) hva (fun k hk=>HB7.out k (by rw[←hoa];exact hk)) _ _),Lib.hid (rowS_set2 (w:=w) (wr:=z9) hvb (fun k hk=>HB8.out k (by rw[←hob];exact hk)) _ _),Lib.hid (fun k hk=>HB7.out k (by rw[←hoa];exact hk)),Lib.hid (fun k hk=>HB8.out k (by rw[←hob];exact hk))⟩
   case rest=>
    obtain⟨va,vb,HAe,HRa,HRb,HBA,HBB⟩:=hcut;obtain⟨e4,e5,e6,rfl,rfl,_⟩:=HRa.out.conc;obtain⟨f4,f5,f6,rfl,rfl,_⟩:=HRb.out.conc;obtain⟨q0,q1,q2,q3,q4⟩:=HAe.out.cells;obtain⟨t0,t1,t2,t3,t4,t5⟩:=HAe.out.cells2;go_wp2_with fail;have hset:=heap_setCell_same _ (w.heap.size+1+1) 2 _ _ (.int .i64 n) (heap_setCell_same _ (w.heap.size+1+1) 1 _ _ (.slice f4 T.length f6) (heap_setCell_same wc (w.heap.size+1+1) 0 _ _ (.slice e4 J.length e6) HAe.out.rs));have hb3:Below w.heap.size w (((wc.setCell ⟨w.heap.size+1+1,0,none⟩ (.slice e4 J.length e6)).setCell ⟨w.heap.size+1+1,1,none⟩ (.slice f4 T.length f6)).setCell ⟨w.heap.size+1+1,2,none⟩ (.int .i64 n)):=((HAe.out.low.setCell (p:=⟨w.heap.size+1+1,0,none⟩) (by simp only;omega) _).setCell (p:=⟨w.heap.size+1+1,1,none⟩) (by simp only;omega) _).setCell (p:=⟨w.heap.size+1+1,2,none⟩) (by simp only;omega) _;refine bodyPost_ret (results_row2 (fn:=Tryz.f12) (p:=4) (q:=5) (ty:=25) rfl _ _ (w.heap.size+1+1) 25 _ (0,0) _ rfl hset Tryz.underlying25 rfl (by show _=some 3;kernel_rfl)) rfl ⟨_,_,rfl,rowS_set3 HRa.out HBA.out _ _ _, ?_,hb3⟩;rw[HTe.out];exact rowS_set3 HRb.out HBB.out _ _ _
end Go.Proofs.YtjkipdoebkhkaaaGreatDoor
