/- Connections: one taken. -/
import Derived.Test.YtpkoodnbkffpoaaGreatDoorConnEld
import Derived.Test.YtpkoodnbkffpoaaGreatDoorConnInv
set_option linter.unusedVariables false
set_option linter.unusedSimpArgs false
set_option maxHeartbeats 16000000
namespace Go.Proofs.YtpkoodnbkffpoaaGreatDoor
open Go.RowKit
theorem may_any (k:KeyL) (w:World) (h0:0≤k.port) (h1:k.port≤65535) (cp:∀W,Below w.heap.size w W→Calls Tryz.prog 68 #[.string ⟨k.host.toArray⟩] W fun e W'=>e= .returned (.tuple #[.string ⟨k.host.toArray⟩, .int .i64 0])∧Below W.heap.size W W'):
 Calls Tryz.prog 24 #[keyVal k] w fun e w'=>e= .returned (.bool true)∧Below w.heap.size w w':=by
 obtain⟨W0,hW0⟩:∃W,w.alloc (.cells (keyA_ k) 28)=W:=⟨_,rfl⟩
 have hb0:Below w.heap.size w W0:=by rw[←hW0];exact below_alloc w _
 have hK:W0.heap[w.heap.size]?=some (.cells (keyA_ k) 28 (0,0)):=by rw[←hW0];exact heap_alloc_new w _
 have hlK:=(Array.getElem?_eq_some_iff.1 hK).1
 have d1:∀W,Below W0.heap.size W0 W→W.cell? ⟨w.heap.size,1,none⟩=some (.string ⟨k.host.toArray⟩):=fun W hW=>by rw[Lib.cell_of_heap ((hW.block _ hlK).trans hK)];rfl
 have d2:∀W,Below W0.heap.size W0 W→W.cell? ⟨w.heap.size,2,none⟩=some (.int .i64 k.port):=fun W hW=>by rw[Lib.cell_of_heap ((hW.block _ hlK).trans hK)];rfl
 have c1:=d1 W0 (Below.refl _ _)
 have cc:=cp W0 hb0
 have D1:=Lib.hid d1
 have D2:=Lib.hid d2
 have HW:=Lib.hid hW0
 clear hK hW0 d1 d2 cp
 go_enter Tryz.func24,Tryz.ntmps24
 go_upto_region 1 with fail
 rw[HW.out]
 go_wp2_with(go_at_call 68;refine cc.mono ?_;rintro e w1 ⟨rfl,hb1⟩;have e1:=D1.out w1 hb1;have e2:=D2.out w1 hb1;clear c1)
 all_goals
  go_ret;exact⟨by simp[*],hb0.trans (hb1.mono hb0.size)⟩
def HasC (w:World) (B:Nat) (v:Value) (n:Nat):Prop:=w.heap[B]?=some (.cells #[.int .i64 1,v, .int .i64 n] 69 (0,0))
theorem HasC.lt {w:World} {B n:Nat} {v:Value} (h:HasC w B v n):B<w.heap.size:=(Array.getElem?_eq_some_iff.1 h).1
theorem HasC.alloc {w:World} {B n:Nat} {v:Value} (h:HasC w B v n) (o:Obj):HasC (w.alloc o) B v n:=((below_alloc w o).block B h.lt).trans h
theorem HasC.drew {w:World} {B n:Nat} {v:Value} (h:HasC w B v n):HasC w.drew B v n:=h
theorem HasC.grown {w w':World} {B n:Nat} {v:Value} {row:Option Nat} (h:HasC w B v n) (hg:w.grownBy w' row) (hr:row≠some B):HasC w' B v n:=(hg.block B h.lt (fun e=>hr e.symm)).trans h
theorem HasC.cell1 {w:World} {B n:Nat} {v:Value} (h:HasC w B v n):w.cell? ⟨B,1,none⟩=some v:=by rw[Lib.cell_of_heap (show w.heap[B]?=_ from h)];rfl
theorem HasC.free {w:World} {B n:Nat} {v:Value} (h:HasC w B v n):w.frozen? ⟨B,1,none⟩=false:=by
 have h:w.heap[B]?=some (.cells #[.int .i64 1,v, .int .i64 n] 69 (0,0)):=h;simp[World.frozen?,h]
theorem filter_take {l:List ConnL} (k:KeyL) {n:Nat} (hn:n<l.length):((l.take (n+1)).filter (mineB k)).length=((l.take n).filter (mineB k)).length+(if mineB k l[n]then 1 else 0):=by
 rw[List.take_succ_eq_append_getElem hn,List.filter_append,List.length_append];congr 1
 cases h:mineB k l[n]<;>simp[h]
theorem enters_take1:∀args W,(callFunc 26 args).run Tryz.prog W= .ok (.enter 26 args) W:=Go.Proofs.enters_of Tryz.func26 (by kernel_rfl) rfl
theorem enters_take2:∀args W,(callFunc 30 args).run Tryz.prog W= .ok (.enter 30 args) W:=Go.Proofs.enters_of Tryz.func30 (by kernel_rfl) rfl
def qFree (k:KeyL) (now:Int) (x:ConnL):Bool:=mineB k x&&keptB x&& !idleB x now
def takeV (r:Nat×Bool×Int):Value:= .tuple #[.int .i64 r.1, .bool r.2.1, .int .i64 r.2.2]
theorem ctake_free {S:ConnsL} {k:KeyL} {now:Int} {a:Nat} (h:bestN (qFree k now) moreB S.l S.l.length=some a) (ha:a<S.l.length):takeR S k now=((S.l[a].id,false,0),⟨setG S.l a (-1),S.next⟩):=by
 have h2:freeL k now S.l=some a:=h;unfold takeR;rw[h2];simp only[Option.bind_some,List.getElem?_eq_getElem ha,Option.map_some]
theorem ctake_none {S:ConnsL} {k:KeyL} {now:Int} (h:bestN (qFree k now) moreB S.l S.l.length=none):takeR S k now=match goesC S k with|none=>((0,false,12),S)|some c=>((S.next,true,0),addL S c k):=by
 have h2:freeL k now S.l=none:=h;unfold takeR;rw[h2];rfl
theorem ctake_full {S:ConnsL} {k:KeyL} {now:Int} (h:bestN (qFree k now) moreB S.l S.l.length=none) (hc:goesC S k=none):takeR S k now=((0,false,12),S):=by rw[ctake_none h,hc]
theorem ctake_new {S:ConnsL} {k:KeyL} {now:Int} {c:Option Nat} (h:bestN (qFree k now) moreB S.l S.l.length=none) (hc:goesC S k=some c):takeR S k now=((S.next,true,0),addL S c k):=by rw[ctake_none h,hc]
set_option maxRecDepth 100000 in
theorem ctake_any (S:ConnsL) (B:Nat) (v:Value) (k:KeyL) (now:Int) (w:World) (h:ConnsAt w B v S) (hl:S.l.length≤1000) (hn:S.next≤1000000) (hgv:∀x∈S.l,x.given≤1000000) (h0:0≤now) (h1:now≤1000000) (hp0:0≤k.port) (hp1:k.port≤65535)
 (cp:∀W,Below w.heap.size w W→Calls Tryz.prog 68 #[.string ⟨k.host.toArray⟩] W fun e W'=>e= .returned (.tuple #[.string ⟨k.host.toArray⟩, .int .i64 0])∧Below W.heap.size W W'):
 Calls Tryz.prog 10 #[.pointer (some ⟨B,0,none⟩),keyVal k, .int .i64 now] w fun e w'=>e= .returned (takeV (takeR S k now).1)∧∃v',ConnsAt w' B v' (takeR S k now).2∧Turn B v w w' v':=by
 obtain⟨q,hq⟩:∃q,w.heap.size=q:=⟨_,rfl⟩
 obtain⟨W0,hW0⟩:∃W,w.alloc (.cells (keyA_ k) 28)=W:=⟨_,rfl⟩
 have hb0:Below w.heap.size w W0:=by rw[←hW0];exact below_alloc w _
 have hK:W0.heap[q]?=some (.cells (keyA_ k) 28 (0,0)):=by rw[←hW0,←hq];exact heap_alloc_new w _
 have hlK:=(Array.getElem?_eq_some_iff.1 hK).1
 have hC0:=h.below hb0
 have ct:=there_yes B W0 hC0.cells.1
 have ctm:=fun W=>ctime_any now W h0 h1
 have cm:=may_any k W0 hp0 hp1 (fun W hW=>cp W (hb0.trans (hW.mono hb0.size)))
 have k0:W0.cell? ⟨q,0,none⟩=some (.bool k.safe):=by rw[Lib.cell_of_heap hK];rfl
 have k1:W0.cell? ⟨q,1,none⟩=some (.string ⟨k.host.toArray⟩):=by rw[Lib.cell_of_heap hK];rfl
 have k2:W0.cell? ⟨q,2,none⟩=some (.int .i64 k.port):=by rw[Lib.cell_of_heap hK];rfl
 have HGQ:Hid (∀r,v.ownBlock=some r→r≠q):=fun r hr=>by
  have:=(h.own r hr).2;omega
 have hqB:B<q:=by rw[←hq];exact h.lt
 have HQ:=Lib.hid hq
 have HW:Hid (w.alloc (.cells (keyA_ k) 28)=W0):=hW0
 have CTM:=Lib.hid ctm
 have HGV:=Lib.hid hgv
 have HC0:=Lib.hid hC0
 have HK:=Lib.hid hK
 have HT0:Hid (Turn B v w W0 v):=Turn.of hb0
 have CT:=Lib.hid ct
 have CM:=Lib.hid cm
 clear hW0 hK hC0 ctm hgv h cp hb0 ct cm
 go_enter Tryz.func10,Tryz.ntmps10
 go_upto_region 1 with fail
 rw[HW.out]
 clear HQ HW hq
 go_upto_region 5 with (first|(go_at_call 23;refine CT.out.mono ?_;rintro e w1 ⟨rfl,rfl⟩)|(go_at_call 24;refine CM.out.mono ?_;rintro e w2 ⟨rfl,hb2⟩)|(go_at_call 25;refine(CTM.out _).mono ?_;rintro e w3 ⟨rfl,rfl⟩))
 have HK2:Hid (w2.heap[q]?=some (.cells (keyA_ k) 28 (0,0))):=(hb2.block _ hlK).trans HK.out
 have hC2:=HC0.out.below hb2
 have HT2:Hid (Turn B v w w2 v):=HT0.out.below hb2
 have hlK2:q<w2.heap.size:=Nat.lt_of_lt_of_le hlK hb2.size
 clear HK HC0 HT0 CT CM k0 k1 k2 hlK hb2
 obtain⟨c0,c1,c2⟩:=hC2.cells
 have hlB:=hC2.lt
 have hbw:=Below.refl w2.heap.size w2
 have hform:=hC2.form
 have HC2:=Lib.hid hC2
 clear hC2
 rcases hform with ⟨rfl,hX⟩|⟨g,cp,rfl,hcp,hmx,hBg,hg,hrow⟩
 ·have hR:takeR S k now=((S.next,true,0),addL S none k):=ctake_new (by rw[hX];rfl) (by unfold goesC manyL;rw[hX];rfl)
  have HR:=Lib.hid hR;clear hR;go_wp2_with fail;go_loop [10,11,34] (fun a m i=>a= .int .i64 (-1)∧m= .int .i64 0∧i= .int .i64 0) (fun _ _ _=>0)
  case atStart=>exact⟨rfl,rfl,rfl⟩
  case round=>
   obtain⟨rfl,rfl,rfl⟩:=hrel;go_upto_region 29 with fail;have HCx:Hid (ConnsAt w2 B (.slice none 0 0) ⟨dropO S.l none,S.next⟩):=HC2.out;obtain⟨vx,hvx⟩:∃x,Value.slice none 0 0=x:=⟨_,rfl⟩;have HTx:Hid (Turn B (.slice none 0 0) w w2 vx):=by rw[←hvx];exact HT2
   replace HCx:Hid (ConnsAt w2 B vx ⟨dropO S.l none,S.next⟩):=by rw[←hvx];exact HCx
   have HKx:=HK2;clear HC2 HT2 HK2 c0 c1 c2 hX hvx;generalize w2=wx at*;obtain⟨d0,d1,d2⟩:=HCx.out.cells;have hownx:=HCx.out.row;have hHC:HasC wx B vx S.next:=HCx.out.at_;have hBx:=HCx.out.lt;have hlx:(dropO S.l none).length≤1000:=Nat.le_trans (dropO_sub S.l none).length_le hl;have kx0:wx.cell? ⟨q,0,none⟩=some (.bool k.safe):=by rw[Lib.cell_of_heap HKx.out];rfl
   have kx1:wx.cell? ⟨q,1,none⟩=some (.string ⟨k.host.toArray⟩):=by rw[Lib.cell_of_heap HKx.out];rfl
   have kx2:wx.cell? ⟨q,2,none⟩=some (.int .i64 k.port):=by rw[Lib.cell_of_heap HKx.out];rfl
   have hqx:=World.block_lt_of_cell? _ _ kx0;dsimp only at hownx d1 d2;generalize hLx:dropO S.l none=L at*;have HLX:=Lib.hid hLx;clear hLx;obtain⟨i0,hi,hz0,hz1,hz2⟩:=conn_elem.hi;go_region_law ((refine step_append_lies _ (by rfl) (.tmp 127) (.tmp 134) 67 (by rfl) (B+1) 73 i0 zeroC 5 48 Tryz.underlying67 hi hz0 hz1 hz2 rfl (by omega) vx L.length (L.flatMap cellsC) (by rfl) (by first|exact hownx.alloc _|exact(hownx.alloc _).drew|exact hownx.drew.alloc _) ⟨wx.heap.size,0,none⟩ 1 1 [.int .i64 S.next, .bool k.safe, .string ⟨k.host.toArray⟩, .int .i64 k.port, .int .i64 (-1)] (by rfl) rfl (fun j u hj=>World.news_of_block (cs:= #[.int .i64 S.next, .bool k.safe, .string ⟨k.host.toArray⟩, .int .i64 k.port, .int .i64 (-1)]) (heap_alloc_new _ _) j u hj) (one_conn ⟨S.next,k, -1⟩) (by omega) (by unfold maxLen;omega) (by omega) (by simp;omega) (wx.heap.size+1) (by simp) ?_;intro g2 cap2 w3 hown3 hgr hat hlt;have hBn:vx.ownBlock≠some B:=(fun e=>by have:=(hownx.lt B e).1;omega);have hBr:HasC w3 B vx S.next:=HasC.grown (by first|exact hHC.alloc _|exact(hHC.alloc _).drew|exact hHC.drew.alloc _) hgr hBn;have q3:w3.cell? ⟨B,1,none⟩=some vx:=hBr.cell1;have q4:w3.frozen? ⟨B,1,none⟩=false:=hBr.free;have hB3:=hBr.lt))
   all_goals
    have hgrT:wx.grownBy w3 vx.ownBlock:=grown_trans2 (grown_drew (World.grownBy_alloc wx _ _)) hgr;have hst:=conns_store (l':=L++[⟨S.next,k, -1⟩]) (v':= .slice (some ⟨g2,0,none⟩) (L.length+1) cap2) HCx.out hgrT (by
     rw[List.flatMap_append,List.length_append];exact hown3) (fun r hr=>by
      have hr:some g2=some r:=hr;injection hr with hr;subst hr;rcases hat with hat|hat
      ·exact .inl hat
      ·exact .inr (by omega))
    clear hown3 hgr hgrT hat hownx hHC q3 q4 hBr d0 d1 d2 kx0 kx1 kx2 hBn;generalize w3.setCell ⟨B,1,none⟩ (.slice (some ⟨g2,0,none⟩) (L.length+1) cap2)=w10 at*;obtain⟨d0,d1,d2⟩:=hst.1.cells;have f2:=hst.1.free 2;have hB10:=hst.1.lt;have HST:=Lib.hid hst;dsimp only at d2;clear hst;go_upto_region 31 with fail;have hnx:=conns_next HST.out.1 (S.next+1);have hcn:((S.next:Int)+1)=((S.next+1:Nat):Int):=by omega
    rw[hcn];dsimp only at hnx;clear d0 d1 d2 f2 hcn;generalize w10.setCell ⟨B,2,none⟩ (.int .i64 ((S.next+1:Nat):Int))=w11 at*;obtain⟨d0,d1,d2⟩:=hnx.1.cells;have HNX:=Lib.hid hnx;dsimp only at d2;clear hnx;go_wp2_with fail;go_ret3;rw[HR.out];refine⟨?_,_, ?_,HTx.out.trans (HST.out.2.trans HNX.out.2)⟩
    ·unfold takeV
     simp
    ·unfold addL
     rw[HLX.out];exact HNX.out.1
 ·have HC:=Lib.hid fun (n:Nat) (hn:n<S.l.length) W (hW:Below w2.heap.size w2 W)=>hrow.each n hn W hW
  clear hrow;go_wp2_with fail;go_loopw [10,11,34] (fun a m i wr=>∃(n:Nat) (o:Option Nat) (mm:Nat),n≤S.l.length∧i= .int .i64 n∧a= .int .i64 (optI o)∧m= .int .i64 mm∧mm≤n∧Hid (bestN (qFree k now) moreB S.l n=o)∧Hid (((S.l.take n).filter (mineB k)).length=mm)∧Below w2.heap.size w2 wr) (fun _ _ i _=>S.l.length-(intOf i).toNat)
  case atStart=>exact⟨0,none,0,Nat.zero_le _,rfl,rfl,rfl,Nat.le_refl _,Lib.hid rfl,Lib.hid rfl,hbw⟩
  case round=>
   obtain⟨n,o,mm,hnn,rfl,rfl,rfl,hmm,HB,HM,hbr⟩:=hrel;by_cases hlt:n<S.l.length
   ·have hki:(n:Int)<(S.l.length:Int):=by omega
    obtain⟨e0,e1,e2,e3,e4⟩:=conn_cells (HC.out n hlt _ hbr);have hsu:=bestN_succ (q:=qFree k now) (b:=moreB) hlt;rw[HB.out]at hsu;have HSU:=Lib.hid hsu;have hft:=filter_take k hlt;rw[HM.out]at hft;have HFT:=Lib.hid hft;have hba:Below wr.heap.size wr (wr.alloc (.cells (connA S.l[n]) 73)):=below_alloc wr _;have hbra:=hbr.trans (hba.mono hbr.size);have hBx:(wr.alloc (.cells (connA S.l[n]) 73)).heap[wr.heap.size]?=some (.cells (connA S.l[n]) 73 (0,0)):=heap_alloc_new wr _;have hoX:∀a,o=some a→a<S.l.length:=fun a ha=>by
     rw[←HB.out]at ha;have:=(bestN_some ha).1;omega
    have HOX:=Lib.hid hoX;have hgx:=HGV.out S.l[n] (List.getElem_mem hlt);clear hsu hft hoX HB HM;generalize hx:S.l[n]=x at*;have hik:=conn_size x;clear hx;go_upto_region 10 with fail;generalize wr.alloc (.cells (connA x) 73)=wa at*;have hbKa:∀W,Below wa.heap.size wa W→W.heap[q]?=some (.cells (keyA_ k) 28 (0,0)):=fun W hW=>(hW.block _ (Nat.lt_of_lt_of_le hlK2 hbra.size)).trans ((hbra.block _ hlK2).trans HK2.out)
    have hma:=take1_any x k q wa (hbKa wa (Below.refl _ _));have hX3a:=(fun W (hW:Below wa.heap.size wa W)=>(hW.block _ (Array.getElem?_eq_some_iff.1 hBx).1).trans hBx:∀W,Below wa.heap.size wa W→W.heap[wr.heap.size]?=some (.cells (connA x) 73 (0,0)));obtain⟨x0,x1,x2,x3,x4⟩:wa.cell? ⟨wr.heap.size,0,none⟩=some (.int .i64 x.id)∧wa.cell? ⟨wr.heap.size,1,none⟩=some (.bool x.key.safe)∧wa.cell? ⟨wr.heap.size,2,none⟩=some (.string ⟨x.key.host.toArray⟩)∧wa.cell? ⟨wr.heap.size,3,none⟩=some (.int .i64 x.key.port)∧wa.cell? ⟨wr.heap.size,4,none⟩=some (.int .i64 x.given):=⟨by rw[Lib.cell_of_heap hBx];rfl,by rw[Lib.cell_of_heap hBx];rfl,by rw[Lib.cell_of_heap hBx];rfl,by rw[Lib.cell_of_heap hBx];rfl,by rw[Lib.cell_of_heap hBx];rfl⟩;have HbKa:=Lib.hid hbKa;have HX3a:=Lib.hid hX3a;have hlBx:=(Array.getElem?_eq_some_iff.1 hBx).1;clear hba hBx e0 e1 e2 e3 e4 hbKa hX3a
    cases hmi:mineB k x with
    |false=>
     have HN:Hid (bestN (qFree k now) moreB S.l (n+1)=o):=by
      show _=_;rw[HSU.out];unfold qFree;rw[hmi];rfl
     have HM2:Hid (((S.l.take (n+1)).filter (mineB k)).length=mm):=by
      show _=_;rw[HFT.out,hmi];rfl
     rw[hmi]at hma;go_upto_region 12 with (go_at_call 26;refine hma.mono ?_;rintro e w4 ⟨rfl,hb4⟩);have hbr4:=hbra.trans (hb4.mono hbra.size);have hX3:∀W,Below w4.heap.size w4 W→W.heap[wr.heap.size]?=some (.cells (connA x) 73 (0,0)):=fun W hW=>HX3a.out W (hb4.trans (hW.mono hb4.size))
     have hX4:∀W,Below w4.heap.size w4 W→∀j v,[.int .i64 x.id, .bool x.key.safe, .string ⟨x.key.host.toArray⟩, .int .i64 x.key.port, .int .i64 x.given][j]?=some v→W.cell? ((⟨wr.heap.size,0,none⟩:Addr).add j)=some v:=fun W hW j v hv=>by
      rw[Addr.add_lit,Nat.zero_add,Lib.cell_of_heap (hX3 W hW)];simpa using hv
     have hX5:∀W,Below w4.heap.size w4 W→W.cell? ⟨wr.heap.size,4,none⟩=some (.int .i64 x.given):=fun W hW=>by rw[Lib.cell_of_heap (hX3 W hW)];rfl
     have hB5:∀W,Below w4.heap.size w4 W→W.cell? ⟨B,1,none⟩=some (.slice (some ⟨g,0,none⟩) S.l.length cp):=fun W hW=>((hbr4.trans (hW.mono hbr4.size)).cell (p:=⟨B,1,none⟩) hlB).trans c1
     have hm4:=fun W (hW:Below w4.heap.size w4 W)=>take1_any x k q W (HbKa.out W (hb4.trans (hW.mono hb4.size)))
     have hk4:=fun W=>kept_any x W
     clear hX3 x0 x1 x2 x3 x4 hb4;rw[hmi]at hm4;clear hmi HSU HFT hma HOX;have hS:=(Below.refl w4.heap.size w4).drew;refine wp_region_held_drew (S:=fun W=>Below w4.heap.size w4 W) (by kernel_rfl) hS (fun _=> ?_);refine wpAnyH_take (i:=0) (oi:=⟨some 44, .move (.tmp 9),_,_,_,_⟩) (v:= .func (.func 26) #[] #[.pointer (some ⟨q,0,none⟩)]) rfl (by kernel_rfl) (by kernel_rfl) (by kernel_rfl) (fun _ _ _ h=>h) (.inl ⟨by rfl,fun W hW=>by go_simp⟩) hS ?_
     try simp only[Act.put,List.setIfInBounds_toArray,List.set_cons_zero,List.set_cons_succ]
     refine wpAnyH_take (i:=1) (oi:=⟨some 45, .load 73 (.tmp 13),_,_,_,_⟩) (v:= .agg #[.int .i64 x.id, .bool x.key.safe, .string ⟨x.key.host.toArray⟩, .int .i64 x.key.port, .int .i64 x.given]) rfl (by kernel_rfl) (by kernel_rfl) (by kernel_rfl) (fun _ _ _ h=>h) (yieldsIf_load_at (by rfl) 73 (.tmp 13) rfl ⟨wr.heap.size,0,none⟩ rfl [.int .i64 x.id, .bool x.key.safe, .string ⟨x.key.host.toArray⟩, .int .i64 x.key.port, .int .i64 x.given] _ hX4 Tryz.underlying73 rfl hik) hS ?_
     try simp only[Act.put,List.setIfInBounds_toArray,List.set_cons_zero,List.set_cons_succ]
     refine wpAnyH_ready (rs:=[2]) (by kernel_rfl) (by simp) ?_;refine AllReadyH.cons (o:=⟨some 46, .call {callee:= .value (.tmp 44),args:= #[.tmp 45],argTypes:= #[73]},_,_,_,_⟩) rfl (fun K hK=> ?_) AllReadyH.nil;go_simp;go_at_call 26;refine(hm4 _ hS).mono ?_;rintro e z1 ⟨rfl,hn⟩;go_wp2_with fail;have hS1:=hS.trans (hn.mono hS.size);refine hK.out _ _ hS1 (fun _=> ?_);clear hK hS hn K;have hS:=hS1;clear hS1
     try simp only[Act.put,List.setIfInBounds_toArray,List.set_cons_zero,List.set_cons_succ]
     refine wpAnyH_take (i:=3) (oi:=⟨some 47, .move (.tmp 46),_,_,_,_⟩) (v:= .bool false) rfl (by kernel_rfl) (by kernel_rfl) (by kernel_rfl) (fun _ _ _ h=>h) (.inl ⟨by rfl,fun W hW=>by go_simp⟩) hS ?_
     try simp only[Act.put,List.setIfInBounds_toArray,List.set_cons_zero,List.set_cons_succ]
     refine wpAnyH_take (i:=4) (oi:=⟨some 48, .load 73 (.tmp 13),_,_,_,_⟩) (v:=undef) rfl (by kernel_rfl) (by kernel_rfl) (by kernel_rfl) (fun _ _ _ h=>h) (.inr ⟨by rfl,rfl⟩) hS ?_
     try simp only[Act.put,List.setIfInBounds_toArray,List.set_cons_zero,List.set_cons_succ]
     refine wpAnyH_take (i:=5) (oi:=⟨some 49, .call {callee:= .value (.func 27),args:= #[.tmp 48],argTypes:= #[73]},_,_,_,_⟩) (v:=undef) rfl (by kernel_rfl) (by kernel_rfl) (by kernel_rfl) (fun _ _ _ h=>h) (.inr ⟨by rfl,rfl⟩) hS ?_
     try simp only[Act.put,List.setIfInBounds_toArray,List.set_cons_zero,List.set_cons_succ]
     refine wpAnyH_take (i:=6) (oi:=⟨some 50, .pick (.tmp 47) (.tmp 49) (.const (.bool false)),_,_,_,_⟩) (v:= .bool false) rfl (by kernel_rfl) (by kernel_rfl) (by kernel_rfl) (fun _ _ _ h=>h) (.inl ⟨by rfl,fun W hW=>by go_simp⟩) hS ?_
     try simp only[Act.put,List.setIfInBounds_toArray,List.set_cons_zero,List.set_cons_succ]
     refine wpAnyH_take (i:=7) (oi:=⟨some 51, .move (.tmp 50),_,_,_,_⟩) (v:= .bool false) rfl (by kernel_rfl) (by kernel_rfl) (by kernel_rfl) (fun _ _ _ h=>h) (.inl ⟨by rfl,fun W hW=>by go_simp⟩) hS ?_
     try simp only[Act.put,List.setIfInBounds_toArray,List.set_cons_zero,List.set_cons_succ]
     refine wpAnyH_take (i:=8) (oi:=⟨some 52, .load 73 (.tmp 13),_,_,_,_⟩) (v:=undef) rfl (by kernel_rfl) (by kernel_rfl) (by kernel_rfl) (fun _ _ _ h=>h) (.inr ⟨by rfl,rfl⟩) hS ?_
     try simp only[Act.put,List.setIfInBounds_toArray,List.set_cons_zero,List.set_cons_succ]
     refine wpAnyH_take (i:=9) (oi:=⟨some 53, .move (.tmp 2),_,_,_,_⟩) (v:=undef) rfl (by kernel_rfl) (by kernel_rfl) (by kernel_rfl) (fun _ _ _ h=>h) (.inr ⟨by rfl,rfl⟩) hS ?_
     try simp only[Act.put,List.setIfInBounds_toArray,List.set_cons_zero,List.set_cons_succ]
     refine wpAnyH_take (i:=10) (oi:=⟨some 54, .call {callee:= .value (.func 28),args:= #[.tmp 52, .tmp 53],argTypes:= #[73,3]},_,_,_,_⟩) (v:=undef) rfl (by kernel_rfl) (by kernel_rfl) (by kernel_rfl) (fun _ _ _ h=>h) (.inr ⟨by rfl,rfl⟩) hS ?_
     try simp only[Act.put,List.setIfInBounds_toArray,List.set_cons_zero,List.set_cons_succ]
     refine wpAnyH_take (i:=11) (oi:=⟨some 55, .unOp .not 4 (.tmp 54),_,_,_,_⟩) (v:=undef) rfl (by kernel_rfl) (by kernel_rfl) (by kernel_rfl) (fun _ _ _ h=>h) (.inr ⟨by rfl,rfl⟩) hS ?_
     try simp only[Act.put,List.setIfInBounds_toArray,List.set_cons_zero,List.set_cons_succ]
     refine wpAnyH_take (i:=12) (oi:=⟨some 56, .pick (.tmp 51) (.tmp 55) (.const (.bool false)),_,_,_,_⟩) (v:= .bool false) rfl (by kernel_rfl) (by kernel_rfl) (by kernel_rfl) (fun _ _ _ h=>h) (.inl ⟨by rfl,fun W hW=>by go_simp⟩) hS ?_
     try simp only[Act.put,List.setIfInBounds_toArray,List.set_cons_zero,List.set_cons_succ]
     refine wpAnyH_take (i:=13) (oi:=⟨some 57, .move (.tmp 56),_,_,_,_⟩) (v:= .bool false) rfl (by kernel_rfl) (by kernel_rfl) (by kernel_rfl) (fun _ _ _ h=>h) (.inl ⟨by rfl,fun W hW=>by go_simp⟩) hS ?_
     try simp only[Act.put,List.setIfInBounds_toArray,List.set_cons_zero,List.set_cons_succ]
     refine wpAnyH_take (i:=14) (oi:=⟨some 58, .move (.tmp 10),_,_,_,_⟩) (v:=undef) rfl (by kernel_rfl) (by kernel_rfl) (by kernel_rfl) (fun _ _ _ h=>h) (.inr ⟨by rfl,rfl⟩) hS ?_
     try simp only[Act.put,List.setIfInBounds_toArray,List.set_cons_zero,List.set_cons_succ]
     refine wpAnyH_take (i:=15) (oi:=⟨some 59, .binOp .lss 3 (.tmp 58) (.const (.int .i64 0)) 3,_,_,_,_⟩) (v:=undef) rfl (by kernel_rfl) (by kernel_rfl) (by kernel_rfl) (fun _ _ _ h=>h) (.inr ⟨by rfl,rfl⟩) hS ?_
     try simp only[Act.put,List.setIfInBounds_toArray,List.set_cons_zero,List.set_cons_succ]
     refine wpAnyH_take (i:=16) (oi:=⟨some 60, .move (.tmp 59),_,_,_,_⟩) (v:=undef) rfl (by kernel_rfl) (by kernel_rfl) (by kernel_rfl) (fun _ _ _ h=>h) (.inr ⟨by rfl,rfl⟩) hS ?_
     try simp only[Act.put,List.setIfInBounds_toArray,List.set_cons_zero,List.set_cons_succ]
     refine wpAnyH_take (i:=17) (oi:=⟨some 61, .fieldAddr 73 (.tmp 13) 2,_,_,_,_⟩) (v:=undef) rfl (by kernel_rfl) (by kernel_rfl) (by kernel_rfl) (fun _ _ _ h=>h) (.inr ⟨by rfl,rfl⟩) hS ?_
     try simp only[Act.put,List.setIfInBounds_toArray,List.set_cons_zero,List.set_cons_succ]
     refine wpAnyH_take (i:=18) (oi:=⟨some 62, .load 3 (.tmp 61),_,_,_,_⟩) (v:=undef) rfl (by kernel_rfl) (by kernel_rfl) (by kernel_rfl) (fun _ _ _ h=>h) (.inr ⟨by rfl,rfl⟩) hS ?_
     try simp only[Act.put,List.setIfInBounds_toArray,List.set_cons_zero,List.set_cons_succ]
     refine wpAnyH_take (i:=19) (oi:=⟨some 63, .move (.tmp 0),_,_,_,_⟩) (v:=undef) rfl (by kernel_rfl) (by kernel_rfl) (by kernel_rfl) (fun _ _ _ h=>h) (.inr ⟨by rfl,rfl⟩) hS ?_
     try simp only[Act.put,List.setIfInBounds_toArray,List.set_cons_zero,List.set_cons_succ]
     refine wpAnyH_take (i:=20) (oi:=⟨some 64, .nilCheck (.tmp 63),_,_,_,_⟩) (v:=undef) rfl (by kernel_rfl) (by kernel_rfl) (by kernel_rfl) (fun _ _ _ h=>h) (.inr ⟨by rfl,rfl⟩) hS ?_
     try simp only[Act.put,List.setIfInBounds_toArray,List.set_cons_zero,List.set_cons_succ]
     refine wpAnyH_take (i:=21) (oi:=⟨some 65, .fieldAddr 69 (.tmp 64) 1,_,_,_,_⟩) (v:=undef) rfl (by kernel_rfl) (by kernel_rfl) (by kernel_rfl) (fun _ _ _ h=>h) (.inr ⟨by rfl,rfl⟩) hS ?_
     try simp only[Act.put,List.setIfInBounds_toArray,List.set_cons_zero,List.set_cons_succ]
     refine wpAnyH_take (i:=22) (oi:=⟨some 66, .load 67 (.tmp 65),_,_,_,_⟩) (v:=undef) rfl (by kernel_rfl) (by kernel_rfl) (by kernel_rfl) (fun _ _ _ h=>h) (.inr ⟨by rfl,rfl⟩) hS ?_
     try simp only[Act.put,List.setIfInBounds_toArray,List.set_cons_zero,List.set_cons_succ]
     refine wpAnyH_take (i:=23) (oi:=⟨some 67, .move (.tmp 10),_,_,_,_⟩) (v:=undef) rfl (by kernel_rfl) (by kernel_rfl) (by kernel_rfl) (fun _ _ _ h=>h) (.inr ⟨by rfl,rfl⟩) hS ?_
     try simp only[Act.put,List.setIfInBounds_toArray,List.set_cons_zero,List.set_cons_succ]
     refine wpAnyH_take (i:=24) (oi:=⟨some 68, .indexAddr 67 (.tmp 66) (.tmp 67),_,_,_,_⟩) (v:=undef) rfl (by kernel_rfl) (by kernel_rfl) (by kernel_rfl) (fun _ _ _ h=>h) (.inr ⟨by rfl,rfl⟩) hS ?_
     try simp only[Act.put,List.setIfInBounds_toArray,List.set_cons_zero,List.set_cons_succ]
     refine wpAnyH_take (i:=25) (oi:=⟨some 69, .fieldAddr 73 (.tmp 68) 2,_,_,_,_⟩) (v:=undef) rfl (by kernel_rfl) (by kernel_rfl) (by kernel_rfl) (fun _ _ _ h=>h) (.inr ⟨by rfl,rfl⟩) hS ?_
     try simp only[Act.put,List.setIfInBounds_toArray,List.set_cons_zero,List.set_cons_succ]
     refine wpAnyH_take (i:=26) (oi:=⟨some 70, .load 3 (.tmp 69),_,_,_,_⟩) (v:=undef) rfl (by kernel_rfl) (by kernel_rfl) (by kernel_rfl) (fun _ _ _ h=>h) (.inr ⟨by rfl,rfl⟩) hS ?_
     try simp only[Act.put,List.setIfInBounds_toArray,List.set_cons_zero,List.set_cons_succ]
     refine wpAnyH_take (i:=27) (oi:=⟨some 71, .binOp .geq 3 (.tmp 62) (.tmp 70) 3,_,_,_,_⟩) (v:=undef) rfl (by kernel_rfl) (by kernel_rfl) (by kernel_rfl) (fun _ _ _ h=>h) (.inr ⟨by rfl,rfl⟩) hS ?_
     try simp only[Act.put,List.setIfInBounds_toArray,List.set_cons_zero,List.set_cons_succ]
     refine wpAnyH_take (i:=28) (oi:=⟨some 72, .pick (.tmp 60) (.const (.bool true)) (.tmp 71),_,_,_,_⟩) (v:=undef) rfl (by kernel_rfl) (by kernel_rfl) (by kernel_rfl) (fun _ _ _ h=>h) (.inr ⟨by rfl,rfl⟩) hS ?_
     try simp only[Act.put,List.setIfInBounds_toArray,List.set_cons_zero,List.set_cons_succ]
     refine wpAnyH_take (i:=29) (oi:=⟨some 73, .pick (.tmp 57) (.tmp 72) (.const (.bool false)),_,_,_,_⟩) (v:= .bool false) rfl (by kernel_rfl) (by kernel_rfl) (by kernel_rfl) (fun _ _ _ h=>h) (.inl ⟨by rfl,fun W hW=>by go_simp⟩) hS ?_
     try simp only[Act.put,List.setIfInBounds_toArray,List.set_cons_zero,List.set_cons_succ]
     refine wpAnyH_done (by kernel_rfl) ?_ _;have hbr5:=hbr4.trans (hS.mono hbr4.size);clear hS hbr4;go_wp2_with fail;go_roundw
     case rel=>exact⟨n+1,o,mm,by omega,by go_num,rfl,rfl,by omega,HN,HM2,hbr5⟩
     case measure=>simp[intOf];omega
    |true=>
     have HM2:Hid (((S.l.take (n+1)).filter (mineB k)).length=mm+1):=by
      show _=_;rw[HFT.out,hmi];rfl
     rw[hmi]at hma;go_upto_region 12 with (go_at_call 26;refine hma.mono ?_;rintro e w4 ⟨rfl,hb4⟩);have hbr4:=hbra.trans (hb4.mono hbra.size);have hX3:∀W,Below w4.heap.size w4 W→W.heap[wr.heap.size]?=some (.cells (connA x) 73 (0,0)):=fun W hW=>HX3a.out W (hb4.trans (hW.mono hb4.size))
     have hX4:∀W,Below w4.heap.size w4 W→∀j v,[.int .i64 x.id, .bool x.key.safe, .string ⟨x.key.host.toArray⟩, .int .i64 x.key.port, .int .i64 x.given][j]?=some v→W.cell? ((⟨wr.heap.size,0,none⟩:Addr).add j)=some v:=fun W hW j v hv=>by
      rw[Addr.add_lit,Nat.zero_add,Lib.cell_of_heap (hX3 W hW)];simpa using hv
     have hX5:∀W,Below w4.heap.size w4 W→W.cell? ⟨wr.heap.size,4,none⟩=some (.int .i64 x.given):=fun W hW=>by rw[Lib.cell_of_heap (hX3 W hW)];rfl
     have hB5:∀W,Below w4.heap.size w4 W→W.cell? ⟨B,1,none⟩=some (.slice (some ⟨g,0,none⟩) S.l.length cp):=fun W hW=>((hbr4.trans (hW.mono hbr4.size)).cell (p:=⟨B,1,none⟩) hlB).trans c1
     have hm4:=fun W (hW:Below w4.heap.size w4 W)=>take1_any x k q W (HbKa.out W (hb4.trans (hW.mono hb4.size)))
     have hk4:=fun W=>kept_any x W
     clear hX3 x0 x1 x2 x3 x4 hb4;rw[hmi]at hm4;clear HFT hma;by_cases hkb:0≤x.given
     ·have hkt:keptB x=true:=decide_eq_true hkb
      have hi4:=fun W=>idle_any2 x now W hkb hgx h0 h1
      rw[hkt]at hk4
      cases hid:idleB x now with
      |true=>
       have HN:Hid (bestN (qFree k now) moreB S.l (n+1)=o):=by
        show _=_;rw[HSU.out];unfold qFree;rw[hmi,hkt,hid];rfl
       rw[hid]at hi4;clear hmi HSU HOX hkt hid;have hS:=(Below.refl w4.heap.size w4).drew;refine wp_region_held_drew (S:=fun W=>Below w4.heap.size w4 W) (by kernel_rfl) hS (fun _=> ?_);refine wpAnyH_take (i:=0) (oi:=⟨some 44, .move (.tmp 9),_,_,_,_⟩) (v:= .func (.func 26) #[] #[.pointer (some ⟨q,0,none⟩)]) rfl (by kernel_rfl) (by kernel_rfl) (by kernel_rfl) (fun _ _ _ h=>h) (.inl ⟨by rfl,fun W hW=>by go_simp⟩) hS ?_
       try simp only[Act.put,List.setIfInBounds_toArray,List.set_cons_zero,List.set_cons_succ]
       refine wpAnyH_take (i:=1) (oi:=⟨some 45, .load 73 (.tmp 13),_,_,_,_⟩) (v:= .agg #[.int .i64 x.id, .bool x.key.safe, .string ⟨x.key.host.toArray⟩, .int .i64 x.key.port, .int .i64 x.given]) rfl (by kernel_rfl) (by kernel_rfl) (by kernel_rfl) (fun _ _ _ h=>h) (yieldsIf_load_at (by rfl) 73 (.tmp 13) rfl ⟨wr.heap.size,0,none⟩ rfl [.int .i64 x.id, .bool x.key.safe, .string ⟨x.key.host.toArray⟩, .int .i64 x.key.port, .int .i64 x.given] _ hX4 Tryz.underlying73 rfl hik) hS ?_
       try simp only[Act.put,List.setIfInBounds_toArray,List.set_cons_zero,List.set_cons_succ]
       refine wpAnyH_ready (rs:=[2]) (by kernel_rfl) (by simp) ?_;refine AllReadyH.cons (o:=⟨some 46, .call {callee:= .value (.tmp 44),args:= #[.tmp 45],argTypes:= #[73]},_,_,_,_⟩) rfl (fun K hK=> ?_) AllReadyH.nil;go_simp;go_at_call 26;refine(hm4 _ hS).mono ?_;rintro e z1 ⟨rfl,hn⟩;go_wp2_with fail;have hS1:=hS.trans (hn.mono hS.size);refine hK.out _ _ hS1 (fun _=> ?_);clear hK hS hn K;have hS:=hS1;clear hS1
       try simp only[Act.put,List.setIfInBounds_toArray,List.set_cons_zero,List.set_cons_succ]
       refine wpAnyH_take (i:=3) (oi:=⟨some 47, .move (.tmp 46),_,_,_,_⟩) (v:= .bool true) rfl (by kernel_rfl) (by kernel_rfl) (by kernel_rfl) (fun _ _ _ h=>h) (.inl ⟨by rfl,fun W hW=>by go_simp⟩) hS ?_
       try simp only[Act.put,List.setIfInBounds_toArray,List.set_cons_zero,List.set_cons_succ]
       refine wpAnyH_take (i:=4) (oi:=⟨some 48, .load 73 (.tmp 13),_,_,_,_⟩) (v:= .agg #[.int .i64 x.id, .bool x.key.safe, .string ⟨x.key.host.toArray⟩, .int .i64 x.key.port, .int .i64 x.given]) rfl (by kernel_rfl) (by kernel_rfl) (by kernel_rfl) (fun _ _ _ h=>h) (yieldsIf_load_at (by rfl) 73 (.tmp 13) rfl ⟨wr.heap.size,0,none⟩ rfl [.int .i64 x.id, .bool x.key.safe, .string ⟨x.key.host.toArray⟩, .int .i64 x.key.port, .int .i64 x.given] _ hX4 Tryz.underlying73 rfl hik) hS ?_
       try simp only[Act.put,List.setIfInBounds_toArray,List.set_cons_zero,List.set_cons_succ]
       refine wpAnyH_ready (rs:=[5]) (by kernel_rfl) (by simp) ?_;refine AllReadyH.cons (o:=⟨some 49, .call {callee:= .value (.func 27),args:= #[.tmp 48],argTypes:= #[73]},_,_,_,_⟩) rfl (fun K hK=> ?_) AllReadyH.nil;go_simp;go_at_call 27;refine(hk4 _).mono ?_;rintro e z2 ⟨rfl,hn⟩;go_wp2_with fail;have hS1:=hS.trans (hn.mono hS.size);refine hK.out _ _ hS1 (fun _=> ?_);clear hK hS hn K;have hS:=hS1;clear hS1
       try simp only[Act.put,List.setIfInBounds_toArray,List.set_cons_zero,List.set_cons_succ]
       refine wpAnyH_take (i:=6) (oi:=⟨some 50, .pick (.tmp 47) (.tmp 49) (.const (.bool false)),_,_,_,_⟩) (v:= .bool true) rfl (by kernel_rfl) (by kernel_rfl) (by kernel_rfl) (fun _ _ _ h=>h) (.inl ⟨by rfl,fun W hW=>by go_simp⟩) hS ?_
       try simp only[Act.put,List.setIfInBounds_toArray,List.set_cons_zero,List.set_cons_succ]
       refine wpAnyH_take (i:=7) (oi:=⟨some 51, .move (.tmp 50),_,_,_,_⟩) (v:= .bool true) rfl (by kernel_rfl) (by kernel_rfl) (by kernel_rfl) (fun _ _ _ h=>h) (.inl ⟨by rfl,fun W hW=>by go_simp⟩) hS ?_
       try simp only[Act.put,List.setIfInBounds_toArray,List.set_cons_zero,List.set_cons_succ]
       refine wpAnyH_take (i:=8) (oi:=⟨some 52, .load 73 (.tmp 13),_,_,_,_⟩) (v:= .agg #[.int .i64 x.id, .bool x.key.safe, .string ⟨x.key.host.toArray⟩, .int .i64 x.key.port, .int .i64 x.given]) rfl (by kernel_rfl) (by kernel_rfl) (by kernel_rfl) (fun _ _ _ h=>h) (yieldsIf_load_at (by rfl) 73 (.tmp 13) rfl ⟨wr.heap.size,0,none⟩ rfl [.int .i64 x.id, .bool x.key.safe, .string ⟨x.key.host.toArray⟩, .int .i64 x.key.port, .int .i64 x.given] _ hX4 Tryz.underlying73 rfl hik) hS ?_
       try simp only[Act.put,List.setIfInBounds_toArray,List.set_cons_zero,List.set_cons_succ]
       refine wpAnyH_take (i:=9) (oi:=⟨some 53, .move (.tmp 2),_,_,_,_⟩) (v:= .int .i64 now) rfl (by kernel_rfl) (by kernel_rfl) (by kernel_rfl) (fun _ _ _ h=>h) (.inl ⟨by rfl,fun W hW=>by go_simp⟩) hS ?_
       try simp only[Act.put,List.setIfInBounds_toArray,List.set_cons_zero,List.set_cons_succ]
       refine wpAnyH_ready (rs:=[10]) (by kernel_rfl) (by simp) ?_;refine AllReadyH.cons (o:=⟨some 54, .call {callee:= .value (.func 28),args:= #[.tmp 52, .tmp 53],argTypes:= #[73,3]},_,_,_,_⟩) rfl (fun K hK=> ?_) AllReadyH.nil;go_simp;go_at_call 28;refine(hi4 _).mono ?_;rintro e z3 ⟨rfl,hn⟩;go_wp2_with fail;have hS1:=hS.trans (hn.mono hS.size);refine hK.out _ _ hS1 (fun _=> ?_);clear hK hS hn K;have hS:=hS1;clear hS1
       try simp only[Act.put,List.setIfInBounds_toArray,List.set_cons_zero,List.set_cons_succ]
       refine wpAnyH_take (i:=11) (oi:=⟨some 55, .unOp .not 4 (.tmp 54),_,_,_,_⟩) (v:= .bool false) rfl (by kernel_rfl) (by kernel_rfl) (by kernel_rfl) (fun _ _ _ h=>h) (.inl ⟨by rfl,fun W hW=>by go_simp⟩) hS ?_
       try simp only[Act.put,List.setIfInBounds_toArray,List.set_cons_zero,List.set_cons_succ]
       refine wpAnyH_take (i:=12) (oi:=⟨some 56, .pick (.tmp 51) (.tmp 55) (.const (.bool false)),_,_,_,_⟩) (v:= .bool false) rfl (by kernel_rfl) (by kernel_rfl) (by kernel_rfl) (fun _ _ _ h=>h) (.inl ⟨by rfl,fun W hW=>by go_simp⟩) hS ?_
       try simp only[Act.put,List.setIfInBounds_toArray,List.set_cons_zero,List.set_cons_succ]
       refine wpAnyH_take (i:=13) (oi:=⟨some 57, .move (.tmp 56),_,_,_,_⟩) (v:= .bool false) rfl (by kernel_rfl) (by kernel_rfl) (by kernel_rfl) (fun _ _ _ h=>h) (.inl ⟨by rfl,fun W hW=>by go_simp⟩) hS ?_
       try simp only[Act.put,List.setIfInBounds_toArray,List.set_cons_zero,List.set_cons_succ]
       refine wpAnyH_take (i:=14) (oi:=⟨some 58, .move (.tmp 10),_,_,_,_⟩) (v:=undef) rfl (by kernel_rfl) (by kernel_rfl) (by kernel_rfl) (fun _ _ _ h=>h) (.inr ⟨by rfl,rfl⟩) hS ?_
       try simp only[Act.put,List.setIfInBounds_toArray,List.set_cons_zero,List.set_cons_succ]
       refine wpAnyH_take (i:=15) (oi:=⟨some 59, .binOp .lss 3 (.tmp 58) (.const (.int .i64 0)) 3,_,_,_,_⟩) (v:=undef) rfl (by kernel_rfl) (by kernel_rfl) (by kernel_rfl) (fun _ _ _ h=>h) (.inr ⟨by rfl,rfl⟩) hS ?_
       try simp only[Act.put,List.setIfInBounds_toArray,List.set_cons_zero,List.set_cons_succ]
       refine wpAnyH_take (i:=16) (oi:=⟨some 60, .move (.tmp 59),_,_,_,_⟩) (v:=undef) rfl (by kernel_rfl) (by kernel_rfl) (by kernel_rfl) (fun _ _ _ h=>h) (.inr ⟨by rfl,rfl⟩) hS ?_
       try simp only[Act.put,List.setIfInBounds_toArray,List.set_cons_zero,List.set_cons_succ]
       refine wpAnyH_take (i:=17) (oi:=⟨some 61, .fieldAddr 73 (.tmp 13) 2,_,_,_,_⟩) (v:=undef) rfl (by kernel_rfl) (by kernel_rfl) (by kernel_rfl) (fun _ _ _ h=>h) (.inr ⟨by rfl,rfl⟩) hS ?_
       try simp only[Act.put,List.setIfInBounds_toArray,List.set_cons_zero,List.set_cons_succ]
       refine wpAnyH_take (i:=18) (oi:=⟨some 62, .load 3 (.tmp 61),_,_,_,_⟩) (v:=undef) rfl (by kernel_rfl) (by kernel_rfl) (by kernel_rfl) (fun _ _ _ h=>h) (.inr ⟨by rfl,rfl⟩) hS ?_
       try simp only[Act.put,List.setIfInBounds_toArray,List.set_cons_zero,List.set_cons_succ]
       refine wpAnyH_take (i:=19) (oi:=⟨some 63, .move (.tmp 0),_,_,_,_⟩) (v:=undef) rfl (by kernel_rfl) (by kernel_rfl) (by kernel_rfl) (fun _ _ _ h=>h) (.inr ⟨by rfl,rfl⟩) hS ?_
       try simp only[Act.put,List.setIfInBounds_toArray,List.set_cons_zero,List.set_cons_succ]
       refine wpAnyH_take (i:=20) (oi:=⟨some 64, .nilCheck (.tmp 63),_,_,_,_⟩) (v:=undef) rfl (by kernel_rfl) (by kernel_rfl) (by kernel_rfl) (fun _ _ _ h=>h) (.inr ⟨by rfl,rfl⟩) hS ?_
       try simp only[Act.put,List.setIfInBounds_toArray,List.set_cons_zero,List.set_cons_succ]
       refine wpAnyH_take (i:=21) (oi:=⟨some 65, .fieldAddr 69 (.tmp 64) 1,_,_,_,_⟩) (v:=undef) rfl (by kernel_rfl) (by kernel_rfl) (by kernel_rfl) (fun _ _ _ h=>h) (.inr ⟨by rfl,rfl⟩) hS ?_
       try simp only[Act.put,List.setIfInBounds_toArray,List.set_cons_zero,List.set_cons_succ]
       refine wpAnyH_take (i:=22) (oi:=⟨some 66, .load 67 (.tmp 65),_,_,_,_⟩) (v:=undef) rfl (by kernel_rfl) (by kernel_rfl) (by kernel_rfl) (fun _ _ _ h=>h) (.inr ⟨by rfl,rfl⟩) hS ?_
       try simp only[Act.put,List.setIfInBounds_toArray,List.set_cons_zero,List.set_cons_succ]
       refine wpAnyH_take (i:=23) (oi:=⟨some 67, .move (.tmp 10),_,_,_,_⟩) (v:=undef) rfl (by kernel_rfl) (by kernel_rfl) (by kernel_rfl) (fun _ _ _ h=>h) (.inr ⟨by rfl,rfl⟩) hS ?_
       try simp only[Act.put,List.setIfInBounds_toArray,List.set_cons_zero,List.set_cons_succ]
       refine wpAnyH_take (i:=24) (oi:=⟨some 68, .indexAddr 67 (.tmp 66) (.tmp 67),_,_,_,_⟩) (v:=undef) rfl (by kernel_rfl) (by kernel_rfl) (by kernel_rfl) (fun _ _ _ h=>h) (.inr ⟨by rfl,rfl⟩) hS ?_
       try simp only[Act.put,List.setIfInBounds_toArray,List.set_cons_zero,List.set_cons_succ]
       refine wpAnyH_take (i:=25) (oi:=⟨some 69, .fieldAddr 73 (.tmp 68) 2,_,_,_,_⟩) (v:=undef) rfl (by kernel_rfl) (by kernel_rfl) (by kernel_rfl) (fun _ _ _ h=>h) (.inr ⟨by rfl,rfl⟩) hS ?_
       try simp only[Act.put,List.setIfInBounds_toArray,List.set_cons_zero,List.set_cons_succ]
       refine wpAnyH_take (i:=26) (oi:=⟨some 70, .load 3 (.tmp 69),_,_,_,_⟩) (v:=undef) rfl (by kernel_rfl) (by kernel_rfl) (by kernel_rfl) (fun _ _ _ h=>h) (.inr ⟨by rfl,rfl⟩) hS ?_
       try simp only[Act.put,List.setIfInBounds_toArray,List.set_cons_zero,List.set_cons_succ]
       refine wpAnyH_take (i:=27) (oi:=⟨some 71, .binOp .geq 3 (.tmp 62) (.tmp 70) 3,_,_,_,_⟩) (v:=undef) rfl (by kernel_rfl) (by kernel_rfl) (by kernel_rfl) (fun _ _ _ h=>h) (.inr ⟨by rfl,rfl⟩) hS ?_
       try simp only[Act.put,List.setIfInBounds_toArray,List.set_cons_zero,List.set_cons_succ]
       refine wpAnyH_take (i:=28) (oi:=⟨some 72, .pick (.tmp 60) (.const (.bool true)) (.tmp 71),_,_,_,_⟩) (v:=undef) rfl (by kernel_rfl) (by kernel_rfl) (by kernel_rfl) (fun _ _ _ h=>h) (.inr ⟨by rfl,rfl⟩) hS ?_
       try simp only[Act.put,List.setIfInBounds_toArray,List.set_cons_zero,List.set_cons_succ]
       refine wpAnyH_take (i:=29) (oi:=⟨some 73, .pick (.tmp 57) (.tmp 72) (.const (.bool false)),_,_,_,_⟩) (v:= .bool false) rfl (by kernel_rfl) (by kernel_rfl) (by kernel_rfl) (fun _ _ _ h=>h) (.inl ⟨by rfl,fun W hW=>by go_simp⟩) hS ?_
       try simp only[Act.put,List.setIfInBounds_toArray,List.set_cons_zero,List.set_cons_succ]
       refine wpAnyH_done (by kernel_rfl) ?_ _;have hbr5:=hbr4.trans (hS.mono hbr4.size);clear hS hbr4;go_wp2_with fail;go_roundw
       case rel=>exact⟨n+1,o,mm+1,by omega,by go_num,rfl,by go_num,by omega,HN,HM2,hbr5⟩
       case measure=>simp[intOf];omega
      |false=>
       rw[hid]at hi4
       cases o with
       |none=>
        have HN:Hid (bestN (qFree k now) moreB S.l (n+1)=some n):=by
         show _=_;rw[HSU.out];unfold qFree;rw[hmi,hkt,hid];rfl
        clear hmi HSU HOX hkt hid;have hS:=(Below.refl w4.heap.size w4).drew;refine wp_region_held_drew (S:=fun W=>Below w4.heap.size w4 W) (by kernel_rfl) hS (fun _=> ?_);refine wpAnyH_take (i:=0) (oi:=⟨some 44, .move (.tmp 9),_,_,_,_⟩) (v:= .func (.func 26) #[] #[.pointer (some ⟨q,0,none⟩)]) rfl (by kernel_rfl) (by kernel_rfl) (by kernel_rfl) (fun _ _ _ h=>h) (.inl ⟨by rfl,fun W hW=>by go_simp⟩) hS ?_
        try simp only[Act.put,List.setIfInBounds_toArray,List.set_cons_zero,List.set_cons_succ]
        refine wpAnyH_take (i:=1) (oi:=⟨some 45, .load 73 (.tmp 13),_,_,_,_⟩) (v:= .agg #[.int .i64 x.id, .bool x.key.safe, .string ⟨x.key.host.toArray⟩, .int .i64 x.key.port, .int .i64 x.given]) rfl (by kernel_rfl) (by kernel_rfl) (by kernel_rfl) (fun _ _ _ h=>h) (yieldsIf_load_at (by rfl) 73 (.tmp 13) rfl ⟨wr.heap.size,0,none⟩ rfl [.int .i64 x.id, .bool x.key.safe, .string ⟨x.key.host.toArray⟩, .int .i64 x.key.port, .int .i64 x.given] _ hX4 Tryz.underlying73 rfl hik) hS ?_
        try simp only[Act.put,List.setIfInBounds_toArray,List.set_cons_zero,List.set_cons_succ]
        refine wpAnyH_ready (rs:=[2]) (by kernel_rfl) (by simp) ?_;refine AllReadyH.cons (o:=⟨some 46, .call {callee:= .value (.tmp 44),args:= #[.tmp 45],argTypes:= #[73]},_,_,_,_⟩) rfl (fun K hK=> ?_) AllReadyH.nil;go_simp;go_at_call 26;refine(hm4 _ hS).mono ?_;rintro e z1 ⟨rfl,hn⟩;go_wp2_with fail;have hS1:=hS.trans (hn.mono hS.size);refine hK.out _ _ hS1 (fun _=> ?_);clear hK hS hn K;have hS:=hS1;clear hS1
        try simp only[Act.put,List.setIfInBounds_toArray,List.set_cons_zero,List.set_cons_succ]
        refine wpAnyH_take (i:=3) (oi:=⟨some 47, .move (.tmp 46),_,_,_,_⟩) (v:= .bool true) rfl (by kernel_rfl) (by kernel_rfl) (by kernel_rfl) (fun _ _ _ h=>h) (.inl ⟨by rfl,fun W hW=>by go_simp⟩) hS ?_
        try simp only[Act.put,List.setIfInBounds_toArray,List.set_cons_zero,List.set_cons_succ]
        refine wpAnyH_take (i:=4) (oi:=⟨some 48, .load 73 (.tmp 13),_,_,_,_⟩) (v:= .agg #[.int .i64 x.id, .bool x.key.safe, .string ⟨x.key.host.toArray⟩, .int .i64 x.key.port, .int .i64 x.given]) rfl (by kernel_rfl) (by kernel_rfl) (by kernel_rfl) (fun _ _ _ h=>h) (yieldsIf_load_at (by rfl) 73 (.tmp 13) rfl ⟨wr.heap.size,0,none⟩ rfl [.int .i64 x.id, .bool x.key.safe, .string ⟨x.key.host.toArray⟩, .int .i64 x.key.port, .int .i64 x.given] _ hX4 Tryz.underlying73 rfl hik) hS ?_
        try simp only[Act.put,List.setIfInBounds_toArray,List.set_cons_zero,List.set_cons_succ]
        refine wpAnyH_ready (rs:=[5]) (by kernel_rfl) (by simp) ?_;refine AllReadyH.cons (o:=⟨some 49, .call {callee:= .value (.func 27),args:= #[.tmp 48],argTypes:= #[73]},_,_,_,_⟩) rfl (fun K hK=> ?_) AllReadyH.nil;go_simp;go_at_call 27;refine(hk4 _).mono ?_;rintro e z2 ⟨rfl,hn⟩;go_wp2_with fail;have hS1:=hS.trans (hn.mono hS.size);refine hK.out _ _ hS1 (fun _=> ?_);clear hK hS hn K;have hS:=hS1;clear hS1
        try simp only[Act.put,List.setIfInBounds_toArray,List.set_cons_zero,List.set_cons_succ]
        refine wpAnyH_take (i:=6) (oi:=⟨some 50, .pick (.tmp 47) (.tmp 49) (.const (.bool false)),_,_,_,_⟩) (v:= .bool true) rfl (by kernel_rfl) (by kernel_rfl) (by kernel_rfl) (fun _ _ _ h=>h) (.inl ⟨by rfl,fun W hW=>by go_simp⟩) hS ?_
        try simp only[Act.put,List.setIfInBounds_toArray,List.set_cons_zero,List.set_cons_succ]
        refine wpAnyH_take (i:=7) (oi:=⟨some 51, .move (.tmp 50),_,_,_,_⟩) (v:= .bool true) rfl (by kernel_rfl) (by kernel_rfl) (by kernel_rfl) (fun _ _ _ h=>h) (.inl ⟨by rfl,fun W hW=>by go_simp⟩) hS ?_
        try simp only[Act.put,List.setIfInBounds_toArray,List.set_cons_zero,List.set_cons_succ]
        refine wpAnyH_take (i:=8) (oi:=⟨some 52, .load 73 (.tmp 13),_,_,_,_⟩) (v:= .agg #[.int .i64 x.id, .bool x.key.safe, .string ⟨x.key.host.toArray⟩, .int .i64 x.key.port, .int .i64 x.given]) rfl (by kernel_rfl) (by kernel_rfl) (by kernel_rfl) (fun _ _ _ h=>h) (yieldsIf_load_at (by rfl) 73 (.tmp 13) rfl ⟨wr.heap.size,0,none⟩ rfl [.int .i64 x.id, .bool x.key.safe, .string ⟨x.key.host.toArray⟩, .int .i64 x.key.port, .int .i64 x.given] _ hX4 Tryz.underlying73 rfl hik) hS ?_
        try simp only[Act.put,List.setIfInBounds_toArray,List.set_cons_zero,List.set_cons_succ]
        refine wpAnyH_take (i:=9) (oi:=⟨some 53, .move (.tmp 2),_,_,_,_⟩) (v:= .int .i64 now) rfl (by kernel_rfl) (by kernel_rfl) (by kernel_rfl) (fun _ _ _ h=>h) (.inl ⟨by rfl,fun W hW=>by go_simp⟩) hS ?_
        try simp only[Act.put,List.setIfInBounds_toArray,List.set_cons_zero,List.set_cons_succ]
        refine wpAnyH_ready (rs:=[10]) (by kernel_rfl) (by simp) ?_;refine AllReadyH.cons (o:=⟨some 54, .call {callee:= .value (.func 28),args:= #[.tmp 52, .tmp 53],argTypes:= #[73,3]},_,_,_,_⟩) rfl (fun K hK=> ?_) AllReadyH.nil;go_simp;go_at_call 28;refine(hi4 _).mono ?_;rintro e z3 ⟨rfl,hn⟩;go_wp2_with fail;have hS1:=hS.trans (hn.mono hS.size);refine hK.out _ _ hS1 (fun _=> ?_);clear hK hS hn K;have hS:=hS1;clear hS1
        try simp only[Act.put,List.setIfInBounds_toArray,List.set_cons_zero,List.set_cons_succ]
        refine wpAnyH_take (i:=11) (oi:=⟨some 55, .unOp .not 4 (.tmp 54),_,_,_,_⟩) (v:= .bool true) rfl (by kernel_rfl) (by kernel_rfl) (by kernel_rfl) (fun _ _ _ h=>h) (.inl ⟨by rfl,fun W hW=>by go_simp⟩) hS ?_
        try simp only[Act.put,List.setIfInBounds_toArray,List.set_cons_zero,List.set_cons_succ]
        refine wpAnyH_take (i:=12) (oi:=⟨some 56, .pick (.tmp 51) (.tmp 55) (.const (.bool false)),_,_,_,_⟩) (v:= .bool true) rfl (by kernel_rfl) (by kernel_rfl) (by kernel_rfl) (fun _ _ _ h=>h) (.inl ⟨by rfl,fun W hW=>by go_simp⟩) hS ?_
        try simp only[Act.put,List.setIfInBounds_toArray,List.set_cons_zero,List.set_cons_succ]
        refine wpAnyH_take (i:=13) (oi:=⟨some 57, .move (.tmp 56),_,_,_,_⟩) (v:= .bool true) rfl (by kernel_rfl) (by kernel_rfl) (by kernel_rfl) (fun _ _ _ h=>h) (.inl ⟨by rfl,fun W hW=>by go_simp⟩) hS ?_
        try simp only[Act.put,List.setIfInBounds_toArray,List.set_cons_zero,List.set_cons_succ]
        refine wpAnyH_take (i:=14) (oi:=⟨some 58, .move (.tmp 10),_,_,_,_⟩) (v:= .int .i64 (-1)) rfl (by kernel_rfl) (by kernel_rfl) (by kernel_rfl) (fun _ _ _ h=>h) (.inl ⟨by rfl,fun W hW=>by go_simp;rfl⟩) hS ?_
        try simp only[Act.put,List.setIfInBounds_toArray,List.set_cons_zero,List.set_cons_succ]
        refine wpAnyH_take (i:=15) (oi:=⟨some 59, .binOp .lss 3 (.tmp 58) (.const (.int .i64 0)) 3,_,_,_,_⟩) (v:= .bool true) rfl (by kernel_rfl) (by kernel_rfl) (by kernel_rfl) (fun _ _ _ h=>h) (.inl ⟨by rfl,fun W hW=>by go_simp⟩) hS ?_
        try simp only[Act.put,List.setIfInBounds_toArray,List.set_cons_zero,List.set_cons_succ]
        refine wpAnyH_take (i:=16) (oi:=⟨some 60, .move (.tmp 59),_,_,_,_⟩) (v:= .bool true) rfl (by kernel_rfl) (by kernel_rfl) (by kernel_rfl) (fun _ _ _ h=>h) (.inl ⟨by rfl,fun W hW=>by go_simp⟩) hS ?_
        try simp only[Act.put,List.setIfInBounds_toArray,List.set_cons_zero,List.set_cons_succ]
        refine wpAnyH_take (i:=17) (oi:=⟨some 61, .fieldAddr 73 (.tmp 13) 2,_,_,_,_⟩) (v:=undef) rfl (by kernel_rfl) (by kernel_rfl) (by kernel_rfl) (fun _ _ _ h=>h) (.inr ⟨by rfl,rfl⟩) hS ?_
        try simp only[Act.put,List.setIfInBounds_toArray,List.set_cons_zero,List.set_cons_succ]
        refine wpAnyH_take (i:=18) (oi:=⟨some 62, .load 3 (.tmp 61),_,_,_,_⟩) (v:=undef) rfl (by kernel_rfl) (by kernel_rfl) (by kernel_rfl) (fun _ _ _ h=>h) (.inr ⟨by rfl,rfl⟩) hS ?_
        try simp only[Act.put,List.setIfInBounds_toArray,List.set_cons_zero,List.set_cons_succ]
        refine wpAnyH_take (i:=19) (oi:=⟨some 63, .move (.tmp 0),_,_,_,_⟩) (v:=undef) rfl (by kernel_rfl) (by kernel_rfl) (by kernel_rfl) (fun _ _ _ h=>h) (.inr ⟨by rfl,rfl⟩) hS ?_
        try simp only[Act.put,List.setIfInBounds_toArray,List.set_cons_zero,List.set_cons_succ]
        refine wpAnyH_take (i:=20) (oi:=⟨some 64, .nilCheck (.tmp 63),_,_,_,_⟩) (v:=undef) rfl (by kernel_rfl) (by kernel_rfl) (by kernel_rfl) (fun _ _ _ h=>h) (.inr ⟨by rfl,rfl⟩) hS ?_
        try simp only[Act.put,List.setIfInBounds_toArray,List.set_cons_zero,List.set_cons_succ]
        refine wpAnyH_take (i:=21) (oi:=⟨some 65, .fieldAddr 69 (.tmp 64) 1,_,_,_,_⟩) (v:=undef) rfl (by kernel_rfl) (by kernel_rfl) (by kernel_rfl) (fun _ _ _ h=>h) (.inr ⟨by rfl,rfl⟩) hS ?_
        try simp only[Act.put,List.setIfInBounds_toArray,List.set_cons_zero,List.set_cons_succ]
        refine wpAnyH_take (i:=22) (oi:=⟨some 66, .load 67 (.tmp 65),_,_,_,_⟩) (v:=undef) rfl (by kernel_rfl) (by kernel_rfl) (by kernel_rfl) (fun _ _ _ h=>h) (.inr ⟨by rfl,rfl⟩) hS ?_
        try simp only[Act.put,List.setIfInBounds_toArray,List.set_cons_zero,List.set_cons_succ]
        refine wpAnyH_take (i:=23) (oi:=⟨some 67, .move (.tmp 10),_,_,_,_⟩) (v:=undef) rfl (by kernel_rfl) (by kernel_rfl) (by kernel_rfl) (fun _ _ _ h=>h) (.inr ⟨by rfl,rfl⟩) hS ?_
        try simp only[Act.put,List.setIfInBounds_toArray,List.set_cons_zero,List.set_cons_succ]
        refine wpAnyH_take (i:=24) (oi:=⟨some 68, .indexAddr 67 (.tmp 66) (.tmp 67),_,_,_,_⟩) (v:=undef) rfl (by kernel_rfl) (by kernel_rfl) (by kernel_rfl) (fun _ _ _ h=>h) (.inr ⟨by rfl,rfl⟩) hS ?_
        try simp only[Act.put,List.setIfInBounds_toArray,List.set_cons_zero,List.set_cons_succ]
        refine wpAnyH_take (i:=25) (oi:=⟨some 69, .fieldAddr 73 (.tmp 68) 2,_,_,_,_⟩) (v:=undef) rfl (by kernel_rfl) (by kernel_rfl) (by kernel_rfl) (fun _ _ _ h=>h) (.inr ⟨by rfl,rfl⟩) hS ?_
        try simp only[Act.put,List.setIfInBounds_toArray,List.set_cons_zero,List.set_cons_succ]
        refine wpAnyH_take (i:=26) (oi:=⟨some 70, .load 3 (.tmp 69),_,_,_,_⟩) (v:=undef) rfl (by kernel_rfl) (by kernel_rfl) (by kernel_rfl) (fun _ _ _ h=>h) (.inr ⟨by rfl,rfl⟩) hS ?_
        try simp only[Act.put,List.setIfInBounds_toArray,List.set_cons_zero,List.set_cons_succ]
        refine wpAnyH_take (i:=27) (oi:=⟨some 71, .binOp .geq 3 (.tmp 62) (.tmp 70) 3,_,_,_,_⟩) (v:=undef) rfl (by kernel_rfl) (by kernel_rfl) (by kernel_rfl) (fun _ _ _ h=>h) (.inr ⟨by rfl,rfl⟩) hS ?_
        try simp only[Act.put,List.setIfInBounds_toArray,List.set_cons_zero,List.set_cons_succ]
        refine wpAnyH_take (i:=28) (oi:=⟨some 72, .pick (.tmp 60) (.const (.bool true)) (.tmp 71),_,_,_,_⟩) (v:= .bool true) rfl (by kernel_rfl) (by kernel_rfl) (by kernel_rfl) (fun _ _ _ h=>h) (.inl ⟨by rfl,fun W hW=>by go_simp⟩) hS ?_
        try simp only[Act.put,List.setIfInBounds_toArray,List.set_cons_zero,List.set_cons_succ]
        refine wpAnyH_take (i:=29) (oi:=⟨some 73, .pick (.tmp 57) (.tmp 72) (.const (.bool false)),_,_,_,_⟩) (v:= .bool true) rfl (by kernel_rfl) (by kernel_rfl) (by kernel_rfl) (fun _ _ _ h=>h) (.inl ⟨by rfl,fun W hW=>by go_simp⟩) hS ?_
        try simp only[Act.put,List.setIfInBounds_toArray,List.set_cons_zero,List.set_cons_succ]
        refine wpAnyH_done (by kernel_rfl) ?_ _;have hbr5:=hbr4.trans (hS.mono hbr4.size);clear hS hbr4;go_wp2_with fail;go_roundw
        case rel=>exact⟨n+1,some n,mm+1,by omega,by go_num,rfl,by go_num,by omega,HN,HM2,hbr5⟩
        case measure=>simp[intOf];omega
       |some a=>
        have haX:=HOX.out a rfl;have hai:(a:Int)<(S.l.length:Int):=by omega
        have hlow:∀W,Below w4.heap.size w4 W→W.cell? ⟨g,a*5+4,none⟩=some (.int .i64 S.l[a].given):=fun W hW=>(conn_cells (HC.out a haX _ (hbr4.trans (hW.mono hbr4.size)))).2.2.2.2
        have hN:bestN (qFree k now) moreB S.l (n+1)=if moreB x S.l[a]then some n else some a:=by
         rw[HSU.out];unfold qFree;rw[hmi,hkt,hid];show(if (true&&freeB moreB x (S.l[a]?))=true then some n else some a)=_;rw[List.getElem?_eq_getElem haX];rfl
        generalize S.l[a]=y at*;by_cases hlo:y.given≤x.given
        ·have HN:Hid (bestN (qFree k now) moreB S.l (n+1)=some n):=by
          show _=_;rw[hN];unfold moreB;rw[decide_eq_true hlo];rfl
         clear hmi HSU HOX hkt hid hN;have hS:=(Below.refl w4.heap.size w4).drew;refine wp_region_held_drew (S:=fun W=>Below w4.heap.size w4 W) (by kernel_rfl) hS (fun _=> ?_);refine wpAnyH_take (i:=0) (oi:=⟨some 44, .move (.tmp 9),_,_,_,_⟩) (v:= .func (.func 26) #[] #[.pointer (some ⟨q,0,none⟩)]) rfl (by kernel_rfl) (by kernel_rfl) (by kernel_rfl) (fun _ _ _ h=>h) (.inl ⟨by rfl,fun W hW=>by go_simp⟩) hS ?_
         try simp only[Act.put,List.setIfInBounds_toArray,List.set_cons_zero,List.set_cons_succ]
         refine wpAnyH_take (i:=1) (oi:=⟨some 45, .load 73 (.tmp 13),_,_,_,_⟩) (v:= .agg #[.int .i64 x.id, .bool x.key.safe, .string ⟨x.key.host.toArray⟩, .int .i64 x.key.port, .int .i64 x.given]) rfl (by kernel_rfl) (by kernel_rfl) (by kernel_rfl) (fun _ _ _ h=>h) (yieldsIf_load_at (by rfl) 73 (.tmp 13) rfl ⟨wr.heap.size,0,none⟩ rfl [.int .i64 x.id, .bool x.key.safe, .string ⟨x.key.host.toArray⟩, .int .i64 x.key.port, .int .i64 x.given] _ hX4 Tryz.underlying73 rfl hik) hS ?_
         try simp only[Act.put,List.setIfInBounds_toArray,List.set_cons_zero,List.set_cons_succ]
         refine wpAnyH_ready (rs:=[2]) (by kernel_rfl) (by simp) ?_;refine AllReadyH.cons (o:=⟨some 46, .call {callee:= .value (.tmp 44),args:= #[.tmp 45],argTypes:= #[73]},_,_,_,_⟩) rfl (fun K hK=> ?_) AllReadyH.nil;go_simp;go_at_call 26;refine(hm4 _ hS).mono ?_;rintro e z1 ⟨rfl,hn⟩;go_wp2_with fail;have hS1:=hS.trans (hn.mono hS.size);refine hK.out _ _ hS1 (fun _=> ?_);clear hK hS hn K;have hS:=hS1;clear hS1
         try simp only[Act.put,List.setIfInBounds_toArray,List.set_cons_zero,List.set_cons_succ]
         refine wpAnyH_take (i:=3) (oi:=⟨some 47, .move (.tmp 46),_,_,_,_⟩) (v:= .bool true) rfl (by kernel_rfl) (by kernel_rfl) (by kernel_rfl) (fun _ _ _ h=>h) (.inl ⟨by rfl,fun W hW=>by go_simp⟩) hS ?_
         try simp only[Act.put,List.setIfInBounds_toArray,List.set_cons_zero,List.set_cons_succ]
         refine wpAnyH_take (i:=4) (oi:=⟨some 48, .load 73 (.tmp 13),_,_,_,_⟩) (v:= .agg #[.int .i64 x.id, .bool x.key.safe, .string ⟨x.key.host.toArray⟩, .int .i64 x.key.port, .int .i64 x.given]) rfl (by kernel_rfl) (by kernel_rfl) (by kernel_rfl) (fun _ _ _ h=>h) (yieldsIf_load_at (by rfl) 73 (.tmp 13) rfl ⟨wr.heap.size,0,none⟩ rfl [.int .i64 x.id, .bool x.key.safe, .string ⟨x.key.host.toArray⟩, .int .i64 x.key.port, .int .i64 x.given] _ hX4 Tryz.underlying73 rfl hik) hS ?_
         try simp only[Act.put,List.setIfInBounds_toArray,List.set_cons_zero,List.set_cons_succ]
         refine wpAnyH_ready (rs:=[5]) (by kernel_rfl) (by simp) ?_;refine AllReadyH.cons (o:=⟨some 49, .call {callee:= .value (.func 27),args:= #[.tmp 48],argTypes:= #[73]},_,_,_,_⟩) rfl (fun K hK=> ?_) AllReadyH.nil;go_simp;go_at_call 27;refine(hk4 _).mono ?_;rintro e z2 ⟨rfl,hn⟩;go_wp2_with fail;have hS1:=hS.trans (hn.mono hS.size);refine hK.out _ _ hS1 (fun _=> ?_);clear hK hS hn K;have hS:=hS1;clear hS1
         try simp only[Act.put,List.setIfInBounds_toArray,List.set_cons_zero,List.set_cons_succ]
         refine wpAnyH_take (i:=6) (oi:=⟨some 50, .pick (.tmp 47) (.tmp 49) (.const (.bool false)),_,_,_,_⟩) (v:= .bool true) rfl (by kernel_rfl) (by kernel_rfl) (by kernel_rfl) (fun _ _ _ h=>h) (.inl ⟨by rfl,fun W hW=>by go_simp⟩) hS ?_
         try simp only[Act.put,List.setIfInBounds_toArray,List.set_cons_zero,List.set_cons_succ]
         refine wpAnyH_take (i:=7) (oi:=⟨some 51, .move (.tmp 50),_,_,_,_⟩) (v:= .bool true) rfl (by kernel_rfl) (by kernel_rfl) (by kernel_rfl) (fun _ _ _ h=>h) (.inl ⟨by rfl,fun W hW=>by go_simp⟩) hS ?_
         try simp only[Act.put,List.setIfInBounds_toArray,List.set_cons_zero,List.set_cons_succ]
         refine wpAnyH_take (i:=8) (oi:=⟨some 52, .load 73 (.tmp 13),_,_,_,_⟩) (v:= .agg #[.int .i64 x.id, .bool x.key.safe, .string ⟨x.key.host.toArray⟩, .int .i64 x.key.port, .int .i64 x.given]) rfl (by kernel_rfl) (by kernel_rfl) (by kernel_rfl) (fun _ _ _ h=>h) (yieldsIf_load_at (by rfl) 73 (.tmp 13) rfl ⟨wr.heap.size,0,none⟩ rfl [.int .i64 x.id, .bool x.key.safe, .string ⟨x.key.host.toArray⟩, .int .i64 x.key.port, .int .i64 x.given] _ hX4 Tryz.underlying73 rfl hik) hS ?_
         try simp only[Act.put,List.setIfInBounds_toArray,List.set_cons_zero,List.set_cons_succ]
         refine wpAnyH_take (i:=9) (oi:=⟨some 53, .move (.tmp 2),_,_,_,_⟩) (v:= .int .i64 now) rfl (by kernel_rfl) (by kernel_rfl) (by kernel_rfl) (fun _ _ _ h=>h) (.inl ⟨by rfl,fun W hW=>by go_simp⟩) hS ?_
         try simp only[Act.put,List.setIfInBounds_toArray,List.set_cons_zero,List.set_cons_succ]
         refine wpAnyH_ready (rs:=[10]) (by kernel_rfl) (by simp) ?_;refine AllReadyH.cons (o:=⟨some 54, .call {callee:= .value (.func 28),args:= #[.tmp 52, .tmp 53],argTypes:= #[73,3]},_,_,_,_⟩) rfl (fun K hK=> ?_) AllReadyH.nil;go_simp;go_at_call 28;refine(hi4 _).mono ?_;rintro e z3 ⟨rfl,hn⟩;go_wp2_with fail;have hS1:=hS.trans (hn.mono hS.size);refine hK.out _ _ hS1 (fun _=> ?_);clear hK hS hn K;have hS:=hS1;clear hS1
         try simp only[Act.put,List.setIfInBounds_toArray,List.set_cons_zero,List.set_cons_succ]
         refine wpAnyH_take (i:=11) (oi:=⟨some 55, .unOp .not 4 (.tmp 54),_,_,_,_⟩) (v:= .bool true) rfl (by kernel_rfl) (by kernel_rfl) (by kernel_rfl) (fun _ _ _ h=>h) (.inl ⟨by rfl,fun W hW=>by go_simp⟩) hS ?_
         try simp only[Act.put,List.setIfInBounds_toArray,List.set_cons_zero,List.set_cons_succ]
         refine wpAnyH_take (i:=12) (oi:=⟨some 56, .pick (.tmp 51) (.tmp 55) (.const (.bool false)),_,_,_,_⟩) (v:= .bool true) rfl (by kernel_rfl) (by kernel_rfl) (by kernel_rfl) (fun _ _ _ h=>h) (.inl ⟨by rfl,fun W hW=>by go_simp⟩) hS ?_
         try simp only[Act.put,List.setIfInBounds_toArray,List.set_cons_zero,List.set_cons_succ]
         refine wpAnyH_take (i:=13) (oi:=⟨some 57, .move (.tmp 56),_,_,_,_⟩) (v:= .bool true) rfl (by kernel_rfl) (by kernel_rfl) (by kernel_rfl) (fun _ _ _ h=>h) (.inl ⟨by rfl,fun W hW=>by go_simp⟩) hS ?_
         try simp only[Act.put,List.setIfInBounds_toArray,List.set_cons_zero,List.set_cons_succ]
         refine wpAnyH_take (i:=14) (oi:=⟨some 58, .move (.tmp 10),_,_,_,_⟩) (v:= .int .i64 a) rfl (by kernel_rfl) (by kernel_rfl) (by kernel_rfl) (fun _ _ _ h=>h) (.inl ⟨by rfl,fun W hW=>by go_simp;rfl⟩) hS ?_
         try simp only[Act.put,List.setIfInBounds_toArray,List.set_cons_zero,List.set_cons_succ]
         refine wpAnyH_take (i:=15) (oi:=⟨some 59, .binOp .lss 3 (.tmp 58) (.const (.int .i64 0)) 3,_,_,_,_⟩) (v:= .bool false) rfl (by kernel_rfl) (by kernel_rfl) (by kernel_rfl) (fun _ _ _ h=>h) (.inl ⟨by rfl,fun W hW=>by go_simp⟩) hS ?_
         try simp only[Act.put,List.setIfInBounds_toArray,List.set_cons_zero,List.set_cons_succ]
         refine wpAnyH_take (i:=16) (oi:=⟨some 60, .move (.tmp 59),_,_,_,_⟩) (v:= .bool false) rfl (by kernel_rfl) (by kernel_rfl) (by kernel_rfl) (fun _ _ _ h=>h) (.inl ⟨by rfl,fun W hW=>by go_simp⟩) hS ?_
         try simp only[Act.put,List.setIfInBounds_toArray,List.set_cons_zero,List.set_cons_succ]
         refine wpAnyH_take (i:=17) (oi:=⟨some 61, .fieldAddr 73 (.tmp 13) 2,_,_,_,_⟩) (v:= .pointer (some ⟨wr.heap.size,4,none⟩)) rfl (by kernel_rfl) (by kernel_rfl) (by kernel_rfl) (fun _ _ _ h=>h) (.inl ⟨by rfl,fun W hW=>by go_simp⟩) hS ?_
         try simp only[Act.put,List.setIfInBounds_toArray,List.set_cons_zero,List.set_cons_succ]
         refine wpAnyH_take (i:=18) (oi:=⟨some 62, .load 3 (.tmp 61),_,_,_,_⟩) (v:= .int .i64 x.given) rfl (by kernel_rfl) (by kernel_rfl) (by kernel_rfl) (fun _ _ _ h=>h) (.inl ⟨by rfl,fun W hW=>by have:=hX5 W hW;go_simp⟩) hS ?_
         try simp only[Act.put,List.setIfInBounds_toArray,List.set_cons_zero,List.set_cons_succ]
         refine wpAnyH_take (i:=19) (oi:=⟨some 63, .move (.tmp 0),_,_,_,_⟩) (v:= .pointer (some ⟨B,0,none⟩)) rfl (by kernel_rfl) (by kernel_rfl) (by kernel_rfl) (fun _ _ _ h=>h) (.inl ⟨by rfl,fun W hW=>by go_simp⟩) hS ?_
         try simp only[Act.put,List.setIfInBounds_toArray,List.set_cons_zero,List.set_cons_succ]
         refine wpAnyH_take (i:=20) (oi:=⟨some 64, .nilCheck (.tmp 63),_,_,_,_⟩) (v:= .pointer (some ⟨B,0,none⟩)) rfl (by kernel_rfl) (by kernel_rfl) (by kernel_rfl) (fun _ _ _ h=>h) (.inl ⟨by rfl,fun W hW=>by go_simp⟩) hS ?_
         try simp only[Act.put,List.setIfInBounds_toArray,List.set_cons_zero,List.set_cons_succ]
         refine wpAnyH_take (i:=21) (oi:=⟨some 65, .fieldAddr 69 (.tmp 64) 1,_,_,_,_⟩) (v:= .pointer (some ⟨B,1,none⟩)) rfl (by kernel_rfl) (by kernel_rfl) (by kernel_rfl) (fun _ _ _ h=>h) (.inl ⟨by rfl,fun W hW=>by go_simp⟩) hS ?_
         try simp only[Act.put,List.setIfInBounds_toArray,List.set_cons_zero,List.set_cons_succ]
         refine wpAnyH_take (i:=22) (oi:=⟨some 66, .load 67 (.tmp 65),_,_,_,_⟩) (v:= .slice (some ⟨g,0,none⟩) S.l.length cp) rfl (by kernel_rfl) (by kernel_rfl) (by kernel_rfl) (fun _ _ _ h=>h) (.inl ⟨by rfl,fun W hW=>by have:=hB5 W hW;go_simp⟩) hS ?_
         try simp only[Act.put,List.setIfInBounds_toArray,List.set_cons_zero,List.set_cons_succ]
         refine wpAnyH_take (i:=23) (oi:=⟨some 67, .move (.tmp 10),_,_,_,_⟩) (v:= .int .i64 a) rfl (by kernel_rfl) (by kernel_rfl) (by kernel_rfl) (fun _ _ _ h=>h) (.inl ⟨by rfl,fun W hW=>by go_simp;rfl⟩) hS ?_
         try simp only[Act.put,List.setIfInBounds_toArray,List.set_cons_zero,List.set_cons_succ]
         refine wpAnyH_take (i:=24) (oi:=⟨some 68, .indexAddr 67 (.tmp 66) (.tmp 67),_,_,_,_⟩) (v:= .pointer (some ⟨g,a*5,none⟩)) rfl (by kernel_rfl) (by kernel_rfl) (by kernel_rfl) (fun _ _ _ h=>h) (.inl ⟨by rfl,fun W hW=>by go_simp⟩) hS ?_
         try simp only[Act.put,List.setIfInBounds_toArray,List.set_cons_zero,List.set_cons_succ]
         refine wpAnyH_take (i:=25) (oi:=⟨some 69, .fieldAddr 73 (.tmp 68) 2,_,_,_,_⟩) (v:= .pointer (some ⟨g,a*5+4,none⟩)) rfl (by kernel_rfl) (by kernel_rfl) (by kernel_rfl) (fun _ _ _ h=>h) (.inl ⟨by rfl,fun W hW=>by go_simp⟩) hS ?_
         try simp only[Act.put,List.setIfInBounds_toArray,List.set_cons_zero,List.set_cons_succ]
         refine wpAnyH_take (i:=26) (oi:=⟨some 70, .load 3 (.tmp 69),_,_,_,_⟩) (v:= .int .i64 y.given) rfl (by kernel_rfl) (by kernel_rfl) (by kernel_rfl) (fun _ _ _ h=>h) (.inl ⟨by rfl,fun W hW=>by have:=hlow W hW;go_simp⟩) hS ?_
         try simp only[Act.put,List.setIfInBounds_toArray,List.set_cons_zero,List.set_cons_succ]
         refine wpAnyH_take (i:=27) (oi:=⟨some 71, .binOp .geq 3 (.tmp 62) (.tmp 70) 3,_,_,_,_⟩) (v:= .bool true) rfl (by kernel_rfl) (by kernel_rfl) (by kernel_rfl) (fun _ _ _ h=>h) (.inl ⟨by rfl,fun W hW=>by go_simp⟩) hS ?_
         try simp only[Act.put,List.setIfInBounds_toArray,List.set_cons_zero,List.set_cons_succ]
         refine wpAnyH_take (i:=28) (oi:=⟨some 72, .pick (.tmp 60) (.const (.bool true)) (.tmp 71),_,_,_,_⟩) (v:= .bool true) rfl (by kernel_rfl) (by kernel_rfl) (by kernel_rfl) (fun _ _ _ h=>h) (.inl ⟨by rfl,fun W hW=>by go_simp⟩) hS ?_
         try simp only[Act.put,List.setIfInBounds_toArray,List.set_cons_zero,List.set_cons_succ]
         refine wpAnyH_take (i:=29) (oi:=⟨some 73, .pick (.tmp 57) (.tmp 72) (.const (.bool false)),_,_,_,_⟩) (v:= .bool true) rfl (by kernel_rfl) (by kernel_rfl) (by kernel_rfl) (fun _ _ _ h=>h) (.inl ⟨by rfl,fun W hW=>by go_simp⟩) hS ?_
         try simp only[Act.put,List.setIfInBounds_toArray,List.set_cons_zero,List.set_cons_succ]
         refine wpAnyH_done (by kernel_rfl) ?_ _;have hbr5:=hbr4.trans (hS.mono hbr4.size);clear hS hbr4;go_wp2_with fail;go_roundw
         case rel=>exact⟨n+1,some n,mm+1,by omega,by go_num,rfl,by go_num,by omega,HN,HM2,hbr5⟩
         case measure=>simp[intOf];omega
        ·have HN:Hid (bestN (qFree k now) moreB S.l (n+1)=some a):=by
          show _=_;rw[hN];unfold moreB;rw[decide_eq_false hlo];rfl
         have hlo2:x.given<y.given:=by omega
         clear hmi HSU HOX hkt hid hN hlo;have hS:=(Below.refl w4.heap.size w4).drew;refine wp_region_held_drew (S:=fun W=>Below w4.heap.size w4 W) (by kernel_rfl) hS (fun _=> ?_);refine wpAnyH_take (i:=0) (oi:=⟨some 44, .move (.tmp 9),_,_,_,_⟩) (v:= .func (.func 26) #[] #[.pointer (some ⟨q,0,none⟩)]) rfl (by kernel_rfl) (by kernel_rfl) (by kernel_rfl) (fun _ _ _ h=>h) (.inl ⟨by rfl,fun W hW=>by go_simp⟩) hS ?_
         try simp only[Act.put,List.setIfInBounds_toArray,List.set_cons_zero,List.set_cons_succ]
         refine wpAnyH_take (i:=1) (oi:=⟨some 45, .load 73 (.tmp 13),_,_,_,_⟩) (v:= .agg #[.int .i64 x.id, .bool x.key.safe, .string ⟨x.key.host.toArray⟩, .int .i64 x.key.port, .int .i64 x.given]) rfl (by kernel_rfl) (by kernel_rfl) (by kernel_rfl) (fun _ _ _ h=>h) (yieldsIf_load_at (by rfl) 73 (.tmp 13) rfl ⟨wr.heap.size,0,none⟩ rfl [.int .i64 x.id, .bool x.key.safe, .string ⟨x.key.host.toArray⟩, .int .i64 x.key.port, .int .i64 x.given] _ hX4 Tryz.underlying73 rfl hik) hS ?_
         try simp only[Act.put,List.setIfInBounds_toArray,List.set_cons_zero,List.set_cons_succ]
         refine wpAnyH_ready (rs:=[2]) (by kernel_rfl) (by simp) ?_;refine AllReadyH.cons (o:=⟨some 46, .call {callee:= .value (.tmp 44),args:= #[.tmp 45],argTypes:= #[73]},_,_,_,_⟩) rfl (fun K hK=> ?_) AllReadyH.nil;go_simp;go_at_call 26;refine(hm4 _ hS).mono ?_;rintro e z1 ⟨rfl,hn⟩;go_wp2_with fail;have hS1:=hS.trans (hn.mono hS.size);refine hK.out _ _ hS1 (fun _=> ?_);clear hK hS hn K;have hS:=hS1;clear hS1
         try simp only[Act.put,List.setIfInBounds_toArray,List.set_cons_zero,List.set_cons_succ]
         refine wpAnyH_take (i:=3) (oi:=⟨some 47, .move (.tmp 46),_,_,_,_⟩) (v:= .bool true) rfl (by kernel_rfl) (by kernel_rfl) (by kernel_rfl) (fun _ _ _ h=>h) (.inl ⟨by rfl,fun W hW=>by go_simp⟩) hS ?_
         try simp only[Act.put,List.setIfInBounds_toArray,List.set_cons_zero,List.set_cons_succ]
         refine wpAnyH_take (i:=4) (oi:=⟨some 48, .load 73 (.tmp 13),_,_,_,_⟩) (v:= .agg #[.int .i64 x.id, .bool x.key.safe, .string ⟨x.key.host.toArray⟩, .int .i64 x.key.port, .int .i64 x.given]) rfl (by kernel_rfl) (by kernel_rfl) (by kernel_rfl) (fun _ _ _ h=>h) (yieldsIf_load_at (by rfl) 73 (.tmp 13) rfl ⟨wr.heap.size,0,none⟩ rfl [.int .i64 x.id, .bool x.key.safe, .string ⟨x.key.host.toArray⟩, .int .i64 x.key.port, .int .i64 x.given] _ hX4 Tryz.underlying73 rfl hik) hS ?_
         try simp only[Act.put,List.setIfInBounds_toArray,List.set_cons_zero,List.set_cons_succ]
         refine wpAnyH_ready (rs:=[5]) (by kernel_rfl) (by simp) ?_;refine AllReadyH.cons (o:=⟨some 49, .call {callee:= .value (.func 27),args:= #[.tmp 48],argTypes:= #[73]},_,_,_,_⟩) rfl (fun K hK=> ?_) AllReadyH.nil;go_simp;go_at_call 27;refine(hk4 _).mono ?_;rintro e z2 ⟨rfl,hn⟩;go_wp2_with fail;have hS1:=hS.trans (hn.mono hS.size);refine hK.out _ _ hS1 (fun _=> ?_);clear hK hS hn K;have hS:=hS1;clear hS1
         try simp only[Act.put,List.setIfInBounds_toArray,List.set_cons_zero,List.set_cons_succ]
         refine wpAnyH_take (i:=6) (oi:=⟨some 50, .pick (.tmp 47) (.tmp 49) (.const (.bool false)),_,_,_,_⟩) (v:= .bool true) rfl (by kernel_rfl) (by kernel_rfl) (by kernel_rfl) (fun _ _ _ h=>h) (.inl ⟨by rfl,fun W hW=>by go_simp⟩) hS ?_
         try simp only[Act.put,List.setIfInBounds_toArray,List.set_cons_zero,List.set_cons_succ]
         refine wpAnyH_take (i:=7) (oi:=⟨some 51, .move (.tmp 50),_,_,_,_⟩) (v:= .bool true) rfl (by kernel_rfl) (by kernel_rfl) (by kernel_rfl) (fun _ _ _ h=>h) (.inl ⟨by rfl,fun W hW=>by go_simp⟩) hS ?_
         try simp only[Act.put,List.setIfInBounds_toArray,List.set_cons_zero,List.set_cons_succ]
         refine wpAnyH_take (i:=8) (oi:=⟨some 52, .load 73 (.tmp 13),_,_,_,_⟩) (v:= .agg #[.int .i64 x.id, .bool x.key.safe, .string ⟨x.key.host.toArray⟩, .int .i64 x.key.port, .int .i64 x.given]) rfl (by kernel_rfl) (by kernel_rfl) (by kernel_rfl) (fun _ _ _ h=>h) (yieldsIf_load_at (by rfl) 73 (.tmp 13) rfl ⟨wr.heap.size,0,none⟩ rfl [.int .i64 x.id, .bool x.key.safe, .string ⟨x.key.host.toArray⟩, .int .i64 x.key.port, .int .i64 x.given] _ hX4 Tryz.underlying73 rfl hik) hS ?_
         try simp only[Act.put,List.setIfInBounds_toArray,List.set_cons_zero,List.set_cons_succ]
         refine wpAnyH_take (i:=9) (oi:=⟨some 53, .move (.tmp 2),_,_,_,_⟩) (v:= .int .i64 now) rfl (by kernel_rfl) (by kernel_rfl) (by kernel_rfl) (fun _ _ _ h=>h) (.inl ⟨by rfl,fun W hW=>by go_simp⟩) hS ?_
         try simp only[Act.put,List.setIfInBounds_toArray,List.set_cons_zero,List.set_cons_succ]
         refine wpAnyH_ready (rs:=[10]) (by kernel_rfl) (by simp) ?_;refine AllReadyH.cons (o:=⟨some 54, .call {callee:= .value (.func 28),args:= #[.tmp 52, .tmp 53],argTypes:= #[73,3]},_,_,_,_⟩) rfl (fun K hK=> ?_) AllReadyH.nil;go_simp;go_at_call 28;refine(hi4 _).mono ?_;rintro e z3 ⟨rfl,hn⟩;go_wp2_with fail;have hS1:=hS.trans (hn.mono hS.size);refine hK.out _ _ hS1 (fun _=> ?_);clear hK hS hn K;have hS:=hS1;clear hS1
         try simp only[Act.put,List.setIfInBounds_toArray,List.set_cons_zero,List.set_cons_succ]
         refine wpAnyH_take (i:=11) (oi:=⟨some 55, .unOp .not 4 (.tmp 54),_,_,_,_⟩) (v:= .bool true) rfl (by kernel_rfl) (by kernel_rfl) (by kernel_rfl) (fun _ _ _ h=>h) (.inl ⟨by rfl,fun W hW=>by go_simp⟩) hS ?_
         try simp only[Act.put,List.setIfInBounds_toArray,List.set_cons_zero,List.set_cons_succ]
         refine wpAnyH_take (i:=12) (oi:=⟨some 56, .pick (.tmp 51) (.tmp 55) (.const (.bool false)),_,_,_,_⟩) (v:= .bool true) rfl (by kernel_rfl) (by kernel_rfl) (by kernel_rfl) (fun _ _ _ h=>h) (.inl ⟨by rfl,fun W hW=>by go_simp⟩) hS ?_
         try simp only[Act.put,List.setIfInBounds_toArray,List.set_cons_zero,List.set_cons_succ]
         refine wpAnyH_take (i:=13) (oi:=⟨some 57, .move (.tmp 56),_,_,_,_⟩) (v:= .bool true) rfl (by kernel_rfl) (by kernel_rfl) (by kernel_rfl) (fun _ _ _ h=>h) (.inl ⟨by rfl,fun W hW=>by go_simp⟩) hS ?_
         try simp only[Act.put,List.setIfInBounds_toArray,List.set_cons_zero,List.set_cons_succ]
         refine wpAnyH_take (i:=14) (oi:=⟨some 58, .move (.tmp 10),_,_,_,_⟩) (v:= .int .i64 a) rfl (by kernel_rfl) (by kernel_rfl) (by kernel_rfl) (fun _ _ _ h=>h) (.inl ⟨by rfl,fun W hW=>by go_simp;rfl⟩) hS ?_
         try simp only[Act.put,List.setIfInBounds_toArray,List.set_cons_zero,List.set_cons_succ]
         refine wpAnyH_take (i:=15) (oi:=⟨some 59, .binOp .lss 3 (.tmp 58) (.const (.int .i64 0)) 3,_,_,_,_⟩) (v:= .bool false) rfl (by kernel_rfl) (by kernel_rfl) (by kernel_rfl) (fun _ _ _ h=>h) (.inl ⟨by rfl,fun W hW=>by go_simp⟩) hS ?_
         try simp only[Act.put,List.setIfInBounds_toArray,List.set_cons_zero,List.set_cons_succ]
         refine wpAnyH_take (i:=16) (oi:=⟨some 60, .move (.tmp 59),_,_,_,_⟩) (v:= .bool false) rfl (by kernel_rfl) (by kernel_rfl) (by kernel_rfl) (fun _ _ _ h=>h) (.inl ⟨by rfl,fun W hW=>by go_simp⟩) hS ?_
         try simp only[Act.put,List.setIfInBounds_toArray,List.set_cons_zero,List.set_cons_succ]
         refine wpAnyH_take (i:=17) (oi:=⟨some 61, .fieldAddr 73 (.tmp 13) 2,_,_,_,_⟩) (v:= .pointer (some ⟨wr.heap.size,4,none⟩)) rfl (by kernel_rfl) (by kernel_rfl) (by kernel_rfl) (fun _ _ _ h=>h) (.inl ⟨by rfl,fun W hW=>by go_simp⟩) hS ?_
         try simp only[Act.put,List.setIfInBounds_toArray,List.set_cons_zero,List.set_cons_succ]
         refine wpAnyH_take (i:=18) (oi:=⟨some 62, .load 3 (.tmp 61),_,_,_,_⟩) (v:= .int .i64 x.given) rfl (by kernel_rfl) (by kernel_rfl) (by kernel_rfl) (fun _ _ _ h=>h) (.inl ⟨by rfl,fun W hW=>by have:=hX5 W hW;go_simp⟩) hS ?_
         try simp only[Act.put,List.setIfInBounds_toArray,List.set_cons_zero,List.set_cons_succ]
         refine wpAnyH_take (i:=19) (oi:=⟨some 63, .move (.tmp 0),_,_,_,_⟩) (v:= .pointer (some ⟨B,0,none⟩)) rfl (by kernel_rfl) (by kernel_rfl) (by kernel_rfl) (fun _ _ _ h=>h) (.inl ⟨by rfl,fun W hW=>by go_simp⟩) hS ?_
         try simp only[Act.put,List.setIfInBounds_toArray,List.set_cons_zero,List.set_cons_succ]
         refine wpAnyH_take (i:=20) (oi:=⟨some 64, .nilCheck (.tmp 63),_,_,_,_⟩) (v:= .pointer (some ⟨B,0,none⟩)) rfl (by kernel_rfl) (by kernel_rfl) (by kernel_rfl) (fun _ _ _ h=>h) (.inl ⟨by rfl,fun W hW=>by go_simp⟩) hS ?_
         try simp only[Act.put,List.setIfInBounds_toArray,List.set_cons_zero,List.set_cons_succ]
         refine wpAnyH_take (i:=21) (oi:=⟨some 65, .fieldAddr 69 (.tmp 64) 1,_,_,_,_⟩) (v:= .pointer (some ⟨B,1,none⟩)) rfl (by kernel_rfl) (by kernel_rfl) (by kernel_rfl) (fun _ _ _ h=>h) (.inl ⟨by rfl,fun W hW=>by go_simp⟩) hS ?_
         try simp only[Act.put,List.setIfInBounds_toArray,List.set_cons_zero,List.set_cons_succ]
         refine wpAnyH_take (i:=22) (oi:=⟨some 66, .load 67 (.tmp 65),_,_,_,_⟩) (v:= .slice (some ⟨g,0,none⟩) S.l.length cp) rfl (by kernel_rfl) (by kernel_rfl) (by kernel_rfl) (fun _ _ _ h=>h) (.inl ⟨by rfl,fun W hW=>by have:=hB5 W hW;go_simp⟩) hS ?_
         try simp only[Act.put,List.setIfInBounds_toArray,List.set_cons_zero,List.set_cons_succ]
         refine wpAnyH_take (i:=23) (oi:=⟨some 67, .move (.tmp 10),_,_,_,_⟩) (v:= .int .i64 a) rfl (by kernel_rfl) (by kernel_rfl) (by kernel_rfl) (fun _ _ _ h=>h) (.inl ⟨by rfl,fun W hW=>by go_simp;rfl⟩) hS ?_
         try simp only[Act.put,List.setIfInBounds_toArray,List.set_cons_zero,List.set_cons_succ]
         refine wpAnyH_take (i:=24) (oi:=⟨some 68, .indexAddr 67 (.tmp 66) (.tmp 67),_,_,_,_⟩) (v:= .pointer (some ⟨g,a*5,none⟩)) rfl (by kernel_rfl) (by kernel_rfl) (by kernel_rfl) (fun _ _ _ h=>h) (.inl ⟨by rfl,fun W hW=>by go_simp⟩) hS ?_
         try simp only[Act.put,List.setIfInBounds_toArray,List.set_cons_zero,List.set_cons_succ]
         refine wpAnyH_take (i:=25) (oi:=⟨some 69, .fieldAddr 73 (.tmp 68) 2,_,_,_,_⟩) (v:= .pointer (some ⟨g,a*5+4,none⟩)) rfl (by kernel_rfl) (by kernel_rfl) (by kernel_rfl) (fun _ _ _ h=>h) (.inl ⟨by rfl,fun W hW=>by go_simp⟩) hS ?_
         try simp only[Act.put,List.setIfInBounds_toArray,List.set_cons_zero,List.set_cons_succ]
         refine wpAnyH_take (i:=26) (oi:=⟨some 70, .load 3 (.tmp 69),_,_,_,_⟩) (v:= .int .i64 y.given) rfl (by kernel_rfl) (by kernel_rfl) (by kernel_rfl) (fun _ _ _ h=>h) (.inl ⟨by rfl,fun W hW=>by have:=hlow W hW;go_simp⟩) hS ?_
         try simp only[Act.put,List.setIfInBounds_toArray,List.set_cons_zero,List.set_cons_succ]
         refine wpAnyH_take (i:=27) (oi:=⟨some 71, .binOp .geq 3 (.tmp 62) (.tmp 70) 3,_,_,_,_⟩) (v:= .bool false) rfl (by kernel_rfl) (by kernel_rfl) (by kernel_rfl) (fun _ _ _ h=>h) (.inl ⟨by rfl,fun W hW=>by go_simp⟩) hS ?_
         try simp only[Act.put,List.setIfInBounds_toArray,List.set_cons_zero,List.set_cons_succ]
         refine wpAnyH_take (i:=28) (oi:=⟨some 72, .pick (.tmp 60) (.const (.bool true)) (.tmp 71),_,_,_,_⟩) (v:= .bool false) rfl (by kernel_rfl) (by kernel_rfl) (by kernel_rfl) (fun _ _ _ h=>h) (.inl ⟨by rfl,fun W hW=>by go_simp⟩) hS ?_
         try simp only[Act.put,List.setIfInBounds_toArray,List.set_cons_zero,List.set_cons_succ]
         refine wpAnyH_take (i:=29) (oi:=⟨some 73, .pick (.tmp 57) (.tmp 72) (.const (.bool false)),_,_,_,_⟩) (v:= .bool false) rfl (by kernel_rfl) (by kernel_rfl) (by kernel_rfl) (fun _ _ _ h=>h) (.inl ⟨by rfl,fun W hW=>by go_simp⟩) hS ?_
         try simp only[Act.put,List.setIfInBounds_toArray,List.set_cons_zero,List.set_cons_succ]
         refine wpAnyH_done (by kernel_rfl) ?_ _;have hbr5:=hbr4.trans (hS.mono hbr4.size);clear hS hbr4;go_wp2_with fail;go_roundw
         case rel=>exact⟨n+1,some a,mm+1,by omega,by go_num,rfl,by go_num,by omega,HN,HM2,hbr5⟩
         case measure=>simp[intOf];omega
     ·have hkt:keptB x=false:=decide_eq_false hkb
      have HN:Hid (bestN (qFree k now) moreB S.l (n+1)=o):=by
       show _=_;rw[HSU.out];unfold qFree;rw[hmi,hkt];rfl
      rw[hkt]at hk4;clear hmi HSU HOX hkt;have hS:=(Below.refl w4.heap.size w4).drew;refine wp_region_held_drew (S:=fun W=>Below w4.heap.size w4 W) (by kernel_rfl) hS (fun _=> ?_);refine wpAnyH_take (i:=0) (oi:=⟨some 44, .move (.tmp 9),_,_,_,_⟩) (v:= .func (.func 26) #[] #[.pointer (some ⟨q,0,none⟩)]) rfl (by kernel_rfl) (by kernel_rfl) (by kernel_rfl) (fun _ _ _ h=>h) (.inl ⟨by rfl,fun W hW=>by go_simp⟩) hS ?_
      try simp only[Act.put,List.setIfInBounds_toArray,List.set_cons_zero,List.set_cons_succ]
      refine wpAnyH_take (i:=1) (oi:=⟨some 45, .load 73 (.tmp 13),_,_,_,_⟩) (v:= .agg #[.int .i64 x.id, .bool x.key.safe, .string ⟨x.key.host.toArray⟩, .int .i64 x.key.port, .int .i64 x.given]) rfl (by kernel_rfl) (by kernel_rfl) (by kernel_rfl) (fun _ _ _ h=>h) (yieldsIf_load_at (by rfl) 73 (.tmp 13) rfl ⟨wr.heap.size,0,none⟩ rfl [.int .i64 x.id, .bool x.key.safe, .string ⟨x.key.host.toArray⟩, .int .i64 x.key.port, .int .i64 x.given] _ hX4 Tryz.underlying73 rfl hik) hS ?_
      try simp only[Act.put,List.setIfInBounds_toArray,List.set_cons_zero,List.set_cons_succ]
      refine wpAnyH_ready (rs:=[2]) (by kernel_rfl) (by simp) ?_;refine AllReadyH.cons (o:=⟨some 46, .call {callee:= .value (.tmp 44),args:= #[.tmp 45],argTypes:= #[73]},_,_,_,_⟩) rfl (fun K hK=> ?_) AllReadyH.nil;go_simp;go_at_call 26;refine(hm4 _ hS).mono ?_;rintro e z1 ⟨rfl,hn⟩;go_wp2_with fail;have hS1:=hS.trans (hn.mono hS.size);refine hK.out _ _ hS1 (fun _=> ?_);clear hK hS hn K;have hS:=hS1;clear hS1
      try simp only[Act.put,List.setIfInBounds_toArray,List.set_cons_zero,List.set_cons_succ]
      refine wpAnyH_take (i:=3) (oi:=⟨some 47, .move (.tmp 46),_,_,_,_⟩) (v:= .bool true) rfl (by kernel_rfl) (by kernel_rfl) (by kernel_rfl) (fun _ _ _ h=>h) (.inl ⟨by rfl,fun W hW=>by go_simp⟩) hS ?_
      try simp only[Act.put,List.setIfInBounds_toArray,List.set_cons_zero,List.set_cons_succ]
      refine wpAnyH_take (i:=4) (oi:=⟨some 48, .load 73 (.tmp 13),_,_,_,_⟩) (v:= .agg #[.int .i64 x.id, .bool x.key.safe, .string ⟨x.key.host.toArray⟩, .int .i64 x.key.port, .int .i64 x.given]) rfl (by kernel_rfl) (by kernel_rfl) (by kernel_rfl) (fun _ _ _ h=>h) (yieldsIf_load_at (by rfl) 73 (.tmp 13) rfl ⟨wr.heap.size,0,none⟩ rfl [.int .i64 x.id, .bool x.key.safe, .string ⟨x.key.host.toArray⟩, .int .i64 x.key.port, .int .i64 x.given] _ hX4 Tryz.underlying73 rfl hik) hS ?_
      try simp only[Act.put,List.setIfInBounds_toArray,List.set_cons_zero,List.set_cons_succ]
      refine wpAnyH_ready (rs:=[5]) (by kernel_rfl) (by simp) ?_;refine AllReadyH.cons (o:=⟨some 49, .call {callee:= .value (.func 27),args:= #[.tmp 48],argTypes:= #[73]},_,_,_,_⟩) rfl (fun K hK=> ?_) AllReadyH.nil;go_simp;go_at_call 27;refine(hk4 _).mono ?_;rintro e z2 ⟨rfl,hn⟩;go_wp2_with fail;have hS1:=hS.trans (hn.mono hS.size);refine hK.out _ _ hS1 (fun _=> ?_);clear hK hS hn K;have hS:=hS1;clear hS1
      try simp only[Act.put,List.setIfInBounds_toArray,List.set_cons_zero,List.set_cons_succ]
      refine wpAnyH_take (i:=6) (oi:=⟨some 50, .pick (.tmp 47) (.tmp 49) (.const (.bool false)),_,_,_,_⟩) (v:= .bool false) rfl (by kernel_rfl) (by kernel_rfl) (by kernel_rfl) (fun _ _ _ h=>h) (.inl ⟨by rfl,fun W hW=>by go_simp⟩) hS ?_
      try simp only[Act.put,List.setIfInBounds_toArray,List.set_cons_zero,List.set_cons_succ]
      refine wpAnyH_take (i:=7) (oi:=⟨some 51, .move (.tmp 50),_,_,_,_⟩) (v:= .bool false) rfl (by kernel_rfl) (by kernel_rfl) (by kernel_rfl) (fun _ _ _ h=>h) (.inl ⟨by rfl,fun W hW=>by go_simp⟩) hS ?_
      try simp only[Act.put,List.setIfInBounds_toArray,List.set_cons_zero,List.set_cons_succ]
      refine wpAnyH_take (i:=8) (oi:=⟨some 52, .load 73 (.tmp 13),_,_,_,_⟩) (v:=undef) rfl (by kernel_rfl) (by kernel_rfl) (by kernel_rfl) (fun _ _ _ h=>h) (.inr ⟨by rfl,rfl⟩) hS ?_
      try simp only[Act.put,List.setIfInBounds_toArray,List.set_cons_zero,List.set_cons_succ]
      refine wpAnyH_take (i:=9) (oi:=⟨some 53, .move (.tmp 2),_,_,_,_⟩) (v:=undef) rfl (by kernel_rfl) (by kernel_rfl) (by kernel_rfl) (fun _ _ _ h=>h) (.inr ⟨by rfl,rfl⟩) hS ?_
      try simp only[Act.put,List.setIfInBounds_toArray,List.set_cons_zero,List.set_cons_succ]
      refine wpAnyH_take (i:=10) (oi:=⟨some 54, .call {callee:= .value (.func 28),args:= #[.tmp 52, .tmp 53],argTypes:= #[73,3]},_,_,_,_⟩) (v:=undef) rfl (by kernel_rfl) (by kernel_rfl) (by kernel_rfl) (fun _ _ _ h=>h) (.inr ⟨by rfl,rfl⟩) hS ?_
      try simp only[Act.put,List.setIfInBounds_toArray,List.set_cons_zero,List.set_cons_succ]
      refine wpAnyH_take (i:=11) (oi:=⟨some 55, .unOp .not 4 (.tmp 54),_,_,_,_⟩) (v:=undef) rfl (by kernel_rfl) (by kernel_rfl) (by kernel_rfl) (fun _ _ _ h=>h) (.inr ⟨by rfl,rfl⟩) hS ?_
      try simp only[Act.put,List.setIfInBounds_toArray,List.set_cons_zero,List.set_cons_succ]
      refine wpAnyH_take (i:=12) (oi:=⟨some 56, .pick (.tmp 51) (.tmp 55) (.const (.bool false)),_,_,_,_⟩) (v:= .bool false) rfl (by kernel_rfl) (by kernel_rfl) (by kernel_rfl) (fun _ _ _ h=>h) (.inl ⟨by rfl,fun W hW=>by go_simp⟩) hS ?_
      try simp only[Act.put,List.setIfInBounds_toArray,List.set_cons_zero,List.set_cons_succ]
      refine wpAnyH_take (i:=13) (oi:=⟨some 57, .move (.tmp 56),_,_,_,_⟩) (v:= .bool false) rfl (by kernel_rfl) (by kernel_rfl) (by kernel_rfl) (fun _ _ _ h=>h) (.inl ⟨by rfl,fun W hW=>by go_simp⟩) hS ?_
      try simp only[Act.put,List.setIfInBounds_toArray,List.set_cons_zero,List.set_cons_succ]
      refine wpAnyH_take (i:=14) (oi:=⟨some 58, .move (.tmp 10),_,_,_,_⟩) (v:=undef) rfl (by kernel_rfl) (by kernel_rfl) (by kernel_rfl) (fun _ _ _ h=>h) (.inr ⟨by rfl,rfl⟩) hS ?_
      try simp only[Act.put,List.setIfInBounds_toArray,List.set_cons_zero,List.set_cons_succ]
      refine wpAnyH_take (i:=15) (oi:=⟨some 59, .binOp .lss 3 (.tmp 58) (.const (.int .i64 0)) 3,_,_,_,_⟩) (v:=undef) rfl (by kernel_rfl) (by kernel_rfl) (by kernel_rfl) (fun _ _ _ h=>h) (.inr ⟨by rfl,rfl⟩) hS ?_
      try simp only[Act.put,List.setIfInBounds_toArray,List.set_cons_zero,List.set_cons_succ]
      refine wpAnyH_take (i:=16) (oi:=⟨some 60, .move (.tmp 59),_,_,_,_⟩) (v:=undef) rfl (by kernel_rfl) (by kernel_rfl) (by kernel_rfl) (fun _ _ _ h=>h) (.inr ⟨by rfl,rfl⟩) hS ?_
      try simp only[Act.put,List.setIfInBounds_toArray,List.set_cons_zero,List.set_cons_succ]
      refine wpAnyH_take (i:=17) (oi:=⟨some 61, .fieldAddr 73 (.tmp 13) 2,_,_,_,_⟩) (v:=undef) rfl (by kernel_rfl) (by kernel_rfl) (by kernel_rfl) (fun _ _ _ h=>h) (.inr ⟨by rfl,rfl⟩) hS ?_
      try simp only[Act.put,List.setIfInBounds_toArray,List.set_cons_zero,List.set_cons_succ]
      refine wpAnyH_take (i:=18) (oi:=⟨some 62, .load 3 (.tmp 61),_,_,_,_⟩) (v:=undef) rfl (by kernel_rfl) (by kernel_rfl) (by kernel_rfl) (fun _ _ _ h=>h) (.inr ⟨by rfl,rfl⟩) hS ?_
      try simp only[Act.put,List.setIfInBounds_toArray,List.set_cons_zero,List.set_cons_succ]
      refine wpAnyH_take (i:=19) (oi:=⟨some 63, .move (.tmp 0),_,_,_,_⟩) (v:=undef) rfl (by kernel_rfl) (by kernel_rfl) (by kernel_rfl) (fun _ _ _ h=>h) (.inr ⟨by rfl,rfl⟩) hS ?_
      try simp only[Act.put,List.setIfInBounds_toArray,List.set_cons_zero,List.set_cons_succ]
      refine wpAnyH_take (i:=20) (oi:=⟨some 64, .nilCheck (.tmp 63),_,_,_,_⟩) (v:=undef) rfl (by kernel_rfl) (by kernel_rfl) (by kernel_rfl) (fun _ _ _ h=>h) (.inr ⟨by rfl,rfl⟩) hS ?_
      try simp only[Act.put,List.setIfInBounds_toArray,List.set_cons_zero,List.set_cons_succ]
      refine wpAnyH_take (i:=21) (oi:=⟨some 65, .fieldAddr 69 (.tmp 64) 1,_,_,_,_⟩) (v:=undef) rfl (by kernel_rfl) (by kernel_rfl) (by kernel_rfl) (fun _ _ _ h=>h) (.inr ⟨by rfl,rfl⟩) hS ?_
      try simp only[Act.put,List.setIfInBounds_toArray,List.set_cons_zero,List.set_cons_succ]
      refine wpAnyH_take (i:=22) (oi:=⟨some 66, .load 67 (.tmp 65),_,_,_,_⟩) (v:=undef) rfl (by kernel_rfl) (by kernel_rfl) (by kernel_rfl) (fun _ _ _ h=>h) (.inr ⟨by rfl,rfl⟩) hS ?_
      try simp only[Act.put,List.setIfInBounds_toArray,List.set_cons_zero,List.set_cons_succ]
      refine wpAnyH_take (i:=23) (oi:=⟨some 67, .move (.tmp 10),_,_,_,_⟩) (v:=undef) rfl (by kernel_rfl) (by kernel_rfl) (by kernel_rfl) (fun _ _ _ h=>h) (.inr ⟨by rfl,rfl⟩) hS ?_
      try simp only[Act.put,List.setIfInBounds_toArray,List.set_cons_zero,List.set_cons_succ]
      refine wpAnyH_take (i:=24) (oi:=⟨some 68, .indexAddr 67 (.tmp 66) (.tmp 67),_,_,_,_⟩) (v:=undef) rfl (by kernel_rfl) (by kernel_rfl) (by kernel_rfl) (fun _ _ _ h=>h) (.inr ⟨by rfl,rfl⟩) hS ?_
      try simp only[Act.put,List.setIfInBounds_toArray,List.set_cons_zero,List.set_cons_succ]
      refine wpAnyH_take (i:=25) (oi:=⟨some 69, .fieldAddr 73 (.tmp 68) 2,_,_,_,_⟩) (v:=undef) rfl (by kernel_rfl) (by kernel_rfl) (by kernel_rfl) (fun _ _ _ h=>h) (.inr ⟨by rfl,rfl⟩) hS ?_
      try simp only[Act.put,List.setIfInBounds_toArray,List.set_cons_zero,List.set_cons_succ]
      refine wpAnyH_take (i:=26) (oi:=⟨some 70, .load 3 (.tmp 69),_,_,_,_⟩) (v:=undef) rfl (by kernel_rfl) (by kernel_rfl) (by kernel_rfl) (fun _ _ _ h=>h) (.inr ⟨by rfl,rfl⟩) hS ?_
      try simp only[Act.put,List.setIfInBounds_toArray,List.set_cons_zero,List.set_cons_succ]
      refine wpAnyH_take (i:=27) (oi:=⟨some 71, .binOp .geq 3 (.tmp 62) (.tmp 70) 3,_,_,_,_⟩) (v:=undef) rfl (by kernel_rfl) (by kernel_rfl) (by kernel_rfl) (fun _ _ _ h=>h) (.inr ⟨by rfl,rfl⟩) hS ?_
      try simp only[Act.put,List.setIfInBounds_toArray,List.set_cons_zero,List.set_cons_succ]
      refine wpAnyH_take (i:=28) (oi:=⟨some 72, .pick (.tmp 60) (.const (.bool true)) (.tmp 71),_,_,_,_⟩) (v:=undef) rfl (by kernel_rfl) (by kernel_rfl) (by kernel_rfl) (fun _ _ _ h=>h) (.inr ⟨by rfl,rfl⟩) hS ?_
      try simp only[Act.put,List.setIfInBounds_toArray,List.set_cons_zero,List.set_cons_succ]
      refine wpAnyH_take (i:=29) (oi:=⟨some 73, .pick (.tmp 57) (.tmp 72) (.const (.bool false)),_,_,_,_⟩) (v:= .bool false) rfl (by kernel_rfl) (by kernel_rfl) (by kernel_rfl) (fun _ _ _ h=>h) (.inl ⟨by rfl,fun W hW=>by go_simp⟩) hS ?_
      try simp only[Act.put,List.setIfInBounds_toArray,List.set_cons_zero,List.set_cons_succ]
      refine wpAnyH_done (by kernel_rfl) ?_ _;have hbr5:=hbr4.trans (hS.mono hbr4.size);clear hS hbr4;go_wp2_with fail;go_roundw
      case rel=>exact⟨n+1,o,mm+1,by omega,by go_num,rfl,by go_num,by omega,HN,HM2,hbr5⟩
      case measure=>simp[intOf];omega
   ·obtain rfl:n=S.l.length:=by omega
    have hmn:manyL k S.l=mm:=by
     have:=HM.out;rwa[List.take_length]at this
    have HMN:=Lib.hid hmn;have HCr:=Lib.hid (HC2.out.below hbr);have HTr:=Lib.hid (HT2.out.below hbr);have HKr:Hid (wr.heap[q]?=some (.cells (keyA_ k) 28 (0,0))):=(hbr.block _ hlK2).trans HK2.out;have d1:wr.cell? ⟨B,1,none⟩=some (.slice (some ⟨g,0,none⟩) S.l.length cp):=HCr.out.cells.2.1;have hBr:=HCr.out.lt;have hgr:g<wr.heap.size:=Nat.lt_of_lt_of_le hg hbr.size;have hgq:q≠g:=fun e=>HGQ.out g rfl e.symm
    clear hmn HM c0 c1 c2
    cases o with
    |some a=>
     have ha:a<S.l.length:=(bestN_some HB.out).1;have hai:(a:Int)<(S.l.length:Int):=by omega
     have HR:=Lib.hid (ctake_free HB.out ha);obtain⟨e0,e1,e2,e3,e4⟩:=conn_cells (HC.out a ha _ hbr);have f4:wr.frozen? ⟨g,a*5+4,none⟩=false:=(own_at HCr.out.row).2 _;have hop:optI (some a)=(a:Int):=rfl;rw[hop];clear hop;go_upto_region 17 with fail;have hgv:=HCr.out.given a ha (-1);have e9:(wr.setCell ⟨g,a*5+4,none⟩ (.int .i64 (-1))).cell? ⟨g,a*5,none⟩=some (.int .i64 S.l[a].id):=by
      rw[World.cell?_setCell_other _ _ _ _ (fun e=>by simp at e)];exact e0
     clear e0 e1 e2 e3 e4 f4 d1;generalize wr.setCell ⟨g,a*5+4,none⟩ (.int .i64 (-1))=w9 at*;have d9:w9.cell? ⟨B,1,none⟩=some (.slice (some ⟨g,0,none⟩) S.l.length cp):=hgv.1.cells.2.1;have HG9:=Lib.hid hgv;clear hgv;go_wp2_with fail;go_ret3;rw[HR.out];exact⟨rfl,_,HG9.out.1,HTr.out.trans HG9.out.2⟩
    |none=>
     have hop:optI none= -1:=rfl;rw[hop];clear hop;by_cases h6:6≤mm
     ·have h6i:(6:Int)≤(mm:Int):=by omega
      have hgo:goesC S k=(eldL (mineB k) S.l).map some:=by unfold goesC;rw[if_pos (by rw[HMN.out];exact h6)]
      have ce:=eldest_any 26 enters_take1 #[.pointer (some ⟨q,0,none⟩)] (mineB k) S B _ wr HCr.out hl (fun x hx W hW=>take1_any x k q W ((hW.block _ (Array.getElem?_eq_some_iff.1 HKr.out).1).trans HKr.out))
      cases hE:eldL (mineB k) S.l with
      |none=>
       rw[hE]at ce hgo;have HR:=Lib.hid (ctake_full HB.out hgo);have ce:Calls Tryz.prog 29 #[.pointer (some ⟨B,0,none⟩), .func (.func 26) #[] #[.pointer (some ⟨q,0,none⟩)]] wr fun e w'=>e= .returned (.int .i64 (-1))∧Below wr.heap.size wr w':=ce
       clear hE hgo;go_wp2_with(go_at_call 29;refine ce.mono ?_;rintro e w6 ⟨rfl,hb6⟩);go_ret3;rw[HR.out];exact⟨rfl,_,HCr.out.below hb6,HTr.out.below hb6⟩
      |some c=>
       have hc:c<S.l.length:=(bestN_some hE).1;rw[hE]at ce hgo;have HR:=Lib.hid (ctake_new HB.out hgo);have ce:Calls Tryz.prog 29 #[.pointer (some ⟨B,0,none⟩), .func (.func 26) #[] #[.pointer (some ⟨q,0,none⟩)]] wr fun e w'=>e= .returned (.int .i64 (c:Int))∧Below wr.heap.size wr w':=ce
       have hcci:(c:Int)<(S.l.length:Int):=by omega
       clear hE hgo;go_upto_region 28 with (go_at_call 29;refine ce.mono ?_;rintro e w6 ⟨rfl,hb6⟩);have hC6:=HCr.out.below hb6;obtain⟨d0,d1,d2⟩:=hC6.cells;have dz:w6.frozen? ⟨B,1,none⟩=false:=hC6.free 1;have hB6:=hC6.lt;have cd:=delete_any (B+1) g cp c S.l w6 hC6.row hc hl hcp hmx;have hel:(S.l.eraseIdx c).length=S.l.length-1:=List.length_eraseIdx_of_lt hc;have HEL:=Lib.hid hel;have HC6:=Lib.hid hC6;have HK6:Hid (w6.heap[q]?=some (.cells (keyA_ k) 28 (0,0))):=(hb6.block _ (Array.getElem?_eq_some_iff.1 HKr.out).1).trans HKr.out;have HT6:Hid (Turn B (.slice (some ⟨g,0,none⟩) S.l.length cp) w w6 (.slice (some ⟨g,0,none⟩) S.l.length cp)):=HTr.out.below hb6;clear hC6 hel HCr HKr HTr hb6;go_upto_region 29 with (go_at_call 31;refine cd.mono ?_;rintro e w7 ⟨rfl,hown7,hgr7⟩;have d1b:=hgr7.cell d1 (by simp;omega);have dzb:w7.frozen? ⟨B,1,none⟩=false:=(World.frozen?_of_block (w:=w6) (a:=⟨B,1,none⟩) (hgr7.block B hB6 (by simp;omega))).trans dz;have HO7:=Lib.hid hown7;have HG7:=Lib.hid hgr7;clear hown7 hgr7 d1 dz cd);have hst:=conns_store (l':=S.l.eraseIdx c) (v':= .slice (some ⟨g,0,none⟩) (S.l.length-1) cp) HC6.out HG7.out (by rw[HEL.out];exact HO7.out) (fun r hr=> .inl hr);have HKx:Hid ((w7.setCell ⟨B,1,none⟩ (.slice (some ⟨g,0,none⟩) (S.l.length-1) cp)).heap[q]?=some (.cells (keyA_ k) 28 (0,0))):=by
        show _=_;rw[hst.2.block q (Array.getElem?_eq_some_iff.1 HK6.out).1 (by omega) (fun e=>by have e:some g=some q:=e;injection e with e;omega)];exact HK6.out
       have HCx:Hid (ConnsAt _ B (.slice (some ⟨g,0,none⟩) (S.l.length-1) cp) ⟨dropO S.l (some c),S.next⟩):=hst.1;have HTx:=Lib.hid (HT6.out.trans hst.2);clear hst d1b dzb HO7 HG7 HC6 HK6 HT6 HEL d0 d2;generalize w7.setCell ⟨B,1,none⟩ (.slice (some ⟨g,0,none⟩) (S.l.length-1) cp)=wx at*;generalize (Value.slice (some ⟨g,0,none⟩) (S.l.length-1) cp)=vx at*;obtain⟨d0,d1,d2⟩:=HCx.out.cells;have hownx:=HCx.out.row;have hHC:HasC wx B vx S.next:=HCx.out.at_;have hBx:=HCx.out.lt;have hlx:(dropO S.l (some c)).length≤1000:=Nat.le_trans (dropO_sub S.l (some c)).length_le hl;have kx0:wx.cell? ⟨q,0,none⟩=some (.bool k.safe):=by rw[Lib.cell_of_heap HKx.out];rfl
       have kx1:wx.cell? ⟨q,1,none⟩=some (.string ⟨k.host.toArray⟩):=by rw[Lib.cell_of_heap HKx.out];rfl
       have kx2:wx.cell? ⟨q,2,none⟩=some (.int .i64 k.port):=by rw[Lib.cell_of_heap HKx.out];rfl
       have hqx:=World.block_lt_of_cell? _ _ kx0;dsimp only at hownx d1 d2;generalize hLx:dropO S.l (some c)=L at*;have HLX:=Lib.hid hLx;clear hLx;obtain⟨i0,hi,hz0,hz1,hz2⟩:=conn_elem.hi;go_region_law ((refine step_append_lies _ (by rfl) (.tmp 127) (.tmp 134) 67 (by rfl) (B+1) 73 i0 zeroC 5 48 Tryz.underlying67 hi hz0 hz1 hz2 rfl (by omega) vx L.length (L.flatMap cellsC) (by rfl) (by first|exact hownx.alloc _|exact(hownx.alloc _).drew|exact hownx.drew.alloc _) ⟨wx.heap.size,0,none⟩ 1 1 [.int .i64 S.next, .bool k.safe, .string ⟨k.host.toArray⟩, .int .i64 k.port, .int .i64 (-1)] (by rfl) rfl (fun j u hj=>World.news_of_block (cs:= #[.int .i64 S.next, .bool k.safe, .string ⟨k.host.toArray⟩, .int .i64 k.port, .int .i64 (-1)]) (heap_alloc_new _ _) j u hj) (one_conn ⟨S.next,k, -1⟩) (by omega) (by unfold maxLen;omega) (by omega) (by simp;omega) (wx.heap.size+1) (by simp) ?_;intro g2 cap2 w3 hown3 hgr hat hlt;have hBn:vx.ownBlock≠some B:=(fun e=>by have:=(hownx.lt B e).1;omega);have hBr:HasC w3 B vx S.next:=HasC.grown (by first|exact hHC.alloc _|exact(hHC.alloc _).drew|exact hHC.drew.alloc _) hgr hBn;have q3:w3.cell? ⟨B,1,none⟩=some vx:=hBr.cell1;have q4:w3.frozen? ⟨B,1,none⟩=false:=hBr.free;have hB3:=hBr.lt))
       all_goals
        have hgrT:wx.grownBy w3 vx.ownBlock:=grown_trans2 (grown_drew (World.grownBy_alloc wx _ _)) hgr;have hst:=conns_store (l':=L++[⟨S.next,k, -1⟩]) (v':= .slice (some ⟨g2,0,none⟩) (L.length+1) cap2) HCx.out hgrT (by
         rw[List.flatMap_append,List.length_append];exact hown3) (fun r hr=>by
          have hr:some g2=some r:=hr;injection hr with hr;subst hr;rcases hat with hat|hat
          ·exact .inl hat
          ·exact .inr (by omega))
        clear hown3 hgr hgrT hat hownx hHC q3 q4 hBr d0 d1 d2 kx0 kx1 kx2 hBn;generalize w3.setCell ⟨B,1,none⟩ (.slice (some ⟨g2,0,none⟩) (L.length+1) cap2)=w10 at*;obtain⟨d0,d1,d2⟩:=hst.1.cells;have f2:=hst.1.free 2;have hB10:=hst.1.lt;have HST:=Lib.hid hst;dsimp only at d2;clear hst;go_upto_region 31 with fail;have hnx:=conns_next HST.out.1 (S.next+1);have hcn:((S.next:Int)+1)=((S.next+1:Nat):Int):=by omega
        rw[hcn];dsimp only at hnx;clear d0 d1 d2 f2 hcn;generalize w10.setCell ⟨B,2,none⟩ (.int .i64 ((S.next+1:Nat):Int))=w11 at*;obtain⟨d0,d1,d2⟩:=hnx.1.cells;have HNX:=Lib.hid hnx;dsimp only at d2;clear hnx;go_wp2_with fail;go_ret3;rw[HR.out];refine⟨?_,_, ?_,HTx.out.trans (HST.out.2.trans HNX.out.2)⟩
        ·unfold takeV
         simp
        ·unfold addL
         rw[HLX.out];exact HNX.out.1
     ·have h6i:(mm:Int)<6:=by omega
      by_cases h32:32≤S.l.length
      ·have h32i:(32:Int)≤(S.l.length:Int):=by omega
       have hgo:goesC S k=(eldL (fun _=>true) S.l).map some:=by unfold goesC;rw[if_neg (by rw[HMN.out];exact h6),if_pos h32]
       have ce:=eldest_any 30 enters_take2 #[] (fun _=>true) S B _ wr HCr.out hl (fun x hx W hW=>take2_any x W)
       cases hE:eldL (fun _=>true) S.l with
       |none=>
        rw[hE]at ce hgo;have HR:=Lib.hid (ctake_full HB.out hgo);have ce:Calls Tryz.prog 29 #[.pointer (some ⟨B,0,none⟩), .func (.func 30) #[] #[]] wr fun e w'=>e= .returned (.int .i64 (-1))∧Below wr.heap.size wr w':=ce
        clear hE hgo;go_wp2_with(go_at_call 29;refine ce.mono ?_;rintro e w6 ⟨rfl,hb6⟩);go_ret3;rw[HR.out];exact⟨rfl,_,HCr.out.below hb6,HTr.out.below hb6⟩
       |some c=>
        have hc:c<S.l.length:=(bestN_some hE).1;rw[hE]at ce hgo;have HR:=Lib.hid (ctake_new HB.out hgo);have ce:Calls Tryz.prog 29 #[.pointer (some ⟨B,0,none⟩), .func (.func 30) #[] #[]] wr fun e w'=>e= .returned (.int .i64 (c:Int))∧Below wr.heap.size wr w':=ce
        have hcci:(c:Int)<(S.l.length:Int):=by omega
        clear hE hgo;go_upto_region 28 with (go_at_call 29;refine ce.mono ?_;rintro e w6 ⟨rfl,hb6⟩);have hC6:=HCr.out.below hb6;obtain⟨d0,d1,d2⟩:=hC6.cells;have dz:w6.frozen? ⟨B,1,none⟩=false:=hC6.free 1;have hB6:=hC6.lt;have cd:=delete_any (B+1) g cp c S.l w6 hC6.row hc hl hcp hmx;have hel:(S.l.eraseIdx c).length=S.l.length-1:=List.length_eraseIdx_of_lt hc;have HEL:=Lib.hid hel;have HC6:=Lib.hid hC6;have HK6:Hid (w6.heap[q]?=some (.cells (keyA_ k) 28 (0,0))):=(hb6.block _ (Array.getElem?_eq_some_iff.1 HKr.out).1).trans HKr.out;have HT6:Hid (Turn B (.slice (some ⟨g,0,none⟩) S.l.length cp) w w6 (.slice (some ⟨g,0,none⟩) S.l.length cp)):=HTr.out.below hb6;clear hC6 hel HCr HKr HTr hb6;go_upto_region 29 with (go_at_call 31;refine cd.mono ?_;rintro e w7 ⟨rfl,hown7,hgr7⟩;have d1b:=hgr7.cell d1 (by simp;omega);have dzb:w7.frozen? ⟨B,1,none⟩=false:=(World.frozen?_of_block (w:=w6) (a:=⟨B,1,none⟩) (hgr7.block B hB6 (by simp;omega))).trans dz;have HO7:=Lib.hid hown7;have HG7:=Lib.hid hgr7;clear hown7 hgr7 d1 dz cd);have hst:=conns_store (l':=S.l.eraseIdx c) (v':= .slice (some ⟨g,0,none⟩) (S.l.length-1) cp) HC6.out HG7.out (by rw[HEL.out];exact HO7.out) (fun r hr=> .inl hr);have HKx:Hid ((w7.setCell ⟨B,1,none⟩ (.slice (some ⟨g,0,none⟩) (S.l.length-1) cp)).heap[q]?=some (.cells (keyA_ k) 28 (0,0))):=by
         show _=_;rw[hst.2.block q (Array.getElem?_eq_some_iff.1 HK6.out).1 (by omega) (fun e=>by have e:some g=some q:=e;injection e with e;omega)];exact HK6.out
        have HCx:Hid (ConnsAt _ B (.slice (some ⟨g,0,none⟩) (S.l.length-1) cp) ⟨dropO S.l (some c),S.next⟩):=hst.1;have HTx:=Lib.hid (HT6.out.trans hst.2);clear hst d1b dzb HO7 HG7 HC6 HK6 HT6 HEL d0 d2;generalize w7.setCell ⟨B,1,none⟩ (.slice (some ⟨g,0,none⟩) (S.l.length-1) cp)=wx at*;generalize (Value.slice (some ⟨g,0,none⟩) (S.l.length-1) cp)=vx at*;obtain⟨d0,d1,d2⟩:=HCx.out.cells;have hownx:=HCx.out.row;have hHC:HasC wx B vx S.next:=HCx.out.at_;have hBx:=HCx.out.lt;have hlx:(dropO S.l (some c)).length≤1000:=Nat.le_trans (dropO_sub S.l (some c)).length_le hl;have kx0:wx.cell? ⟨q,0,none⟩=some (.bool k.safe):=by rw[Lib.cell_of_heap HKx.out];rfl
        have kx1:wx.cell? ⟨q,1,none⟩=some (.string ⟨k.host.toArray⟩):=by rw[Lib.cell_of_heap HKx.out];rfl
        have kx2:wx.cell? ⟨q,2,none⟩=some (.int .i64 k.port):=by rw[Lib.cell_of_heap HKx.out];rfl
        have hqx:=World.block_lt_of_cell? _ _ kx0;dsimp only at hownx d1 d2;generalize hLx:dropO S.l (some c)=L at*;have HLX:=Lib.hid hLx;clear hLx;obtain⟨i0,hi,hz0,hz1,hz2⟩:=conn_elem.hi;go_region_law ((refine step_append_lies _ (by rfl) (.tmp 127) (.tmp 134) 67 (by rfl) (B+1) 73 i0 zeroC 5 48 Tryz.underlying67 hi hz0 hz1 hz2 rfl (by omega) vx L.length (L.flatMap cellsC) (by rfl) (by first|exact hownx.alloc _|exact(hownx.alloc _).drew|exact hownx.drew.alloc _) ⟨wx.heap.size,0,none⟩ 1 1 [.int .i64 S.next, .bool k.safe, .string ⟨k.host.toArray⟩, .int .i64 k.port, .int .i64 (-1)] (by rfl) rfl (fun j u hj=>World.news_of_block (cs:= #[.int .i64 S.next, .bool k.safe, .string ⟨k.host.toArray⟩, .int .i64 k.port, .int .i64 (-1)]) (heap_alloc_new _ _) j u hj) (one_conn ⟨S.next,k, -1⟩) (by omega) (by unfold maxLen;omega) (by omega) (by simp;omega) (wx.heap.size+1) (by simp) ?_;intro g2 cap2 w3 hown3 hgr hat hlt;have hBn:vx.ownBlock≠some B:=(fun e=>by have:=(hownx.lt B e).1;omega);have hBr:HasC w3 B vx S.next:=HasC.grown (by first|exact hHC.alloc _|exact(hHC.alloc _).drew|exact hHC.drew.alloc _) hgr hBn;have q3:w3.cell? ⟨B,1,none⟩=some vx:=hBr.cell1;have q4:w3.frozen? ⟨B,1,none⟩=false:=hBr.free;have hB3:=hBr.lt))
        all_goals
         have hgrT:wx.grownBy w3 vx.ownBlock:=grown_trans2 (grown_drew (World.grownBy_alloc wx _ _)) hgr;have hst:=conns_store (l':=L++[⟨S.next,k, -1⟩]) (v':= .slice (some ⟨g2,0,none⟩) (L.length+1) cap2) HCx.out hgrT (by
          rw[List.flatMap_append,List.length_append];exact hown3) (fun r hr=>by
           have hr:some g2=some r:=hr;injection hr with hr;subst hr;rcases hat with hat|hat
           ·exact .inl hat
           ·exact .inr (by omega))
         clear hown3 hgr hgrT hat hownx hHC q3 q4 hBr d0 d1 d2 kx0 kx1 kx2 hBn;generalize w3.setCell ⟨B,1,none⟩ (.slice (some ⟨g2,0,none⟩) (L.length+1) cap2)=w10 at*;obtain⟨d0,d1,d2⟩:=hst.1.cells;have f2:=hst.1.free 2;have hB10:=hst.1.lt;have HST:=Lib.hid hst;dsimp only at d2;clear hst;go_upto_region 31 with fail;have hnx:=conns_next HST.out.1 (S.next+1);have hcn:((S.next:Int)+1)=((S.next+1:Nat):Int):=by omega
         rw[hcn];dsimp only at hnx;clear d0 d1 d2 f2 hcn;generalize w10.setCell ⟨B,2,none⟩ (.int .i64 ((S.next+1:Nat):Int))=w11 at*;obtain⟨d0,d1,d2⟩:=hnx.1.cells;have HNX:=Lib.hid hnx;dsimp only at d2;clear hnx;go_wp2_with fail;go_ret3;rw[HR.out];refine⟨?_,_, ?_,HTx.out.trans (HST.out.2.trans HNX.out.2)⟩
         ·unfold takeV
          simp
         ·unfold addL
          rw[HLX.out];exact HNX.out.1
      ·have h32i:(S.l.length:Int)<32:=by omega
       have hgo:goesC S k=some none:=by unfold goesC;rw[if_neg (by rw[HMN.out];exact h6),if_neg h32]
       have HR:=Lib.hid (ctake_new HB.out hgo);clear hgo;go_upto_region 29 with fail;have HCx:Hid (ConnsAt wr B (.slice (some ⟨g,0,none⟩) S.l.length cp) ⟨dropO S.l none,S.next⟩):=HCr.out;obtain⟨vx,hvx⟩:∃x,Value.slice (some ⟨g,0,none⟩) S.l.length cp=x:=⟨_,rfl⟩;have HTx:Hid (Turn B (.slice (some ⟨g,0,none⟩) S.l.length cp) w wr vx):=by rw[←hvx];exact HTr
       replace HCx:Hid (ConnsAt wr B vx ⟨dropO S.l none,S.next⟩):=by rw[←hvx];exact HCx
       have HKx:=HKr;clear HCr HTr HKr d1 HC hvx;generalize wr=wx at*;obtain⟨d0,d1,d2⟩:=HCx.out.cells;have hownx:=HCx.out.row;have hHC:HasC wx B vx S.next:=HCx.out.at_;have hBx:=HCx.out.lt;have hlx:(dropO S.l none).length≤1000:=Nat.le_trans (dropO_sub S.l none).length_le hl;have kx0:wx.cell? ⟨q,0,none⟩=some (.bool k.safe):=by rw[Lib.cell_of_heap HKx.out];rfl
       have kx1:wx.cell? ⟨q,1,none⟩=some (.string ⟨k.host.toArray⟩):=by rw[Lib.cell_of_heap HKx.out];rfl
       have kx2:wx.cell? ⟨q,2,none⟩=some (.int .i64 k.port):=by rw[Lib.cell_of_heap HKx.out];rfl
       have hqx:=World.block_lt_of_cell? _ _ kx0;dsimp only at hownx d1 d2;generalize hLx:dropO S.l none=L at*;have HLX:=Lib.hid hLx;clear hLx;obtain⟨i0,hi,hz0,hz1,hz2⟩:=conn_elem.hi;go_region_law ((refine step_append_lies _ (by rfl) (.tmp 127) (.tmp 134) 67 (by rfl) (B+1) 73 i0 zeroC 5 48 Tryz.underlying67 hi hz0 hz1 hz2 rfl (by omega) vx L.length (L.flatMap cellsC) (by rfl) (by first|exact hownx.alloc _|exact(hownx.alloc _).drew|exact hownx.drew.alloc _) ⟨wx.heap.size,0,none⟩ 1 1 [.int .i64 S.next, .bool k.safe, .string ⟨k.host.toArray⟩, .int .i64 k.port, .int .i64 (-1)] (by rfl) rfl (fun j u hj=>World.news_of_block (cs:= #[.int .i64 S.next, .bool k.safe, .string ⟨k.host.toArray⟩, .int .i64 k.port, .int .i64 (-1)]) (heap_alloc_new _ _) j u hj) (one_conn ⟨S.next,k, -1⟩) (by omega) (by unfold maxLen;omega) (by omega) (by simp;omega) (wx.heap.size+1) (by simp) ?_;intro g2 cap2 w3 hown3 hgr hat hlt;have hBn:vx.ownBlock≠some B:=(fun e=>by have:=(hownx.lt B e).1;omega);have hBr:HasC w3 B vx S.next:=HasC.grown (by first|exact hHC.alloc _|exact(hHC.alloc _).drew|exact hHC.drew.alloc _) hgr hBn;have q3:w3.cell? ⟨B,1,none⟩=some vx:=hBr.cell1;have q4:w3.frozen? ⟨B,1,none⟩=false:=hBr.free;have hB3:=hBr.lt))
       all_goals
        have hgrT:wx.grownBy w3 vx.ownBlock:=grown_trans2 (grown_drew (World.grownBy_alloc wx _ _)) hgr;have hst:=conns_store (l':=L++[⟨S.next,k, -1⟩]) (v':= .slice (some ⟨g2,0,none⟩) (L.length+1) cap2) HCx.out hgrT (by
         rw[List.flatMap_append,List.length_append];exact hown3) (fun r hr=>by
          have hr:some g2=some r:=hr;injection hr with hr;subst hr;rcases hat with hat|hat
          ·exact .inl hat
          ·exact .inr (by omega))
        clear hown3 hgr hgrT hat hownx hHC q3 q4 hBr d0 d1 d2 kx0 kx1 kx2 hBn;generalize w3.setCell ⟨B,1,none⟩ (.slice (some ⟨g2,0,none⟩) (L.length+1) cap2)=w10 at*;obtain⟨d0,d1,d2⟩:=hst.1.cells;have f2:=hst.1.free 2;have hB10:=hst.1.lt;have HST:=Lib.hid hst;dsimp only at d2;clear hst;go_upto_region 31 with fail;have hnx:=conns_next HST.out.1 (S.next+1);have hcn:((S.next:Int)+1)=((S.next+1:Nat):Int):=by omega
        rw[hcn];dsimp only at hnx;clear d0 d1 d2 f2 hcn;generalize w10.setCell ⟨B,2,none⟩ (.int .i64 ((S.next+1:Nat):Int))=w11 at*;obtain⟨d0,d1,d2⟩:=hnx.1.cells;have HNX:=Lib.hid hnx;dsimp only at d2;clear hnx;go_wp2_with fail;go_ret3;rw[HR.out];refine⟨?_,_, ?_,HTx.out.trans (HST.out.2.trans HNX.out.2)⟩
        ·unfold takeV
         simp
        ·unfold addL
         rw[HLX.out];exact HNX.out.1
end Go.Proofs.YtpkoodnbkffpoaaGreatDoor
