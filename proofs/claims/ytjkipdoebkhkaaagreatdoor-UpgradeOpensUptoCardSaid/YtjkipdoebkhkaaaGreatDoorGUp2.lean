/- upgrade.Raise and the reference's: walked. -/
import Derived.Test.YtjkipdoebkhkaaaGreatDoorGKe1
import Derived.Test.YtjkipdoebkhkaaaGreatDoorGUrl5
import Derived.Test.YtjkipdoebkhkaaaGreatDoorGBel
import Derived.Test.YtjkipdoebkhkaaaGreatDoorGCtx3
set_option linter.unusedVariables false
set_option linter.unusedSimpArgs false
set_option maxHeartbeats 16000000
namespace Go.Proofs.YtjkipdoebkhkaaaGreatDoor
open Go.RowKit
def raiseB (q:Bool) (u:UrlL):UrlL:=if ((u.scheme==httpB)&&q)=true then {u with scheme:=httpsB,port:=if u.port=80∨u.port=443 then -1 else u.port}else u
theorem UrlAt.far {B:Nat} {u:UrlL} {w:World} (h:UrlAt B u w) {p:Addr} (hp:p.block≠B) (v:Value):UrlAt B u (w.setCell p v):=(Below.heap_setCell _ _ _ _ (fun e=>hp e.symm)).trans h
theorem UrlAt.one {B:Nat} {u u':UrlL} {w:World} (h:UrlAt B u w) (k:Nat) (v:Value) (e:(cellsU u).set k v=cellsU u'):UrlAt B u' (w.setCell ⟨B,k,none⟩ v):=by
 unfold UrlAt;rw[heap_setCell_in h,List.setIfInBounds_toArray,e]
theorem raise_results {B:Nat} {W:World} {v:UrlL} {tmps:Array Value} (h2:tmps[6]?.getD undef= .pointer (some ⟨B,0,none⟩)) (hU:UrlAt B v W):
 (results Tryz.f14 tmps).run Tryz.prog W= .ok (urlV v) W:=by
 obtain⟨c0,c1,c2,c3,c4,c5,c6,c7,c8,c9⟩:=hU.cells
 simp[results,Tryz.results14,go_sem,h2,c0,c1,c2,c3,c4,c5,c6,c7,c8,c9]
 rfl
set_option maxRecDepth 100000 in
theorem raise_any (a b:Value) (n:Int) (u:UrlL) (now:Int) (q:Bool) (w:World) (ha:∃p q r,a= .slice p q r) (hb:∃p q r,b= .slice p q r)
 (ci:∀W,Below w.heap.size w W→Calls Tryz.prog 13 #[keepV a b n, .string ⟨u.host.toArray⟩, .int .i64 now] W fun e W'=>e= .returned (.bool q)∧Below W.heap.size W W'):
 Calls Tryz.prog 14 #[keepV a b n,urlV u, .int .i64 now] w fun e w'=>e= .returned (urlV (raiseB q u))∧Below w.heap.size w w':=by
 obtain⟨a1,a2,a3,rfl⟩:=ha
 obtain⟨b1,b2,b3,rfl⟩:=hb
 obtain⟨W0,hW0⟩:∃W,((w.alloc (.cells #[.slice a1 a2 a3, .slice b1 b2 b3, .int .i64 n] 25)).alloc (.cells #[.string ⟨u.scheme.toArray⟩, .string ⟨u.user.toArray⟩, .string ⟨u.pass.toArray⟩, .string ⟨u.host.toArray⟩, .int .i64 u.port, .string ⟨u.path.toArray⟩, .string ⟨u.query.toArray⟩, .bool u.hasQ, .string ⟨u.mark.toArray⟩, .bool u.hasM] 29)).alloc (.cells #[.string ⟨#[]⟩, .string ⟨#[]⟩, .string ⟨#[]⟩, .string ⟨#[]⟩, .int .i64 0, .string ⟨#[]⟩, .string ⟨#[]⟩, .bool false, .string ⟨#[]⟩, .bool false] 29)=W:=⟨_,rfl⟩
 have hb0:Below w.heap.size w W0:=by rw[←hW0];exact((below_alloc w _).alloc (by rw[World.size_alloc];omega) _).alloc (by rw[World.size_alloc,World.size_alloc];omega) _
 have hK:W0.heap[w.heap.size]?=some (.cells #[.slice a1 a2 a3, .slice b1 b2 b3, .int .i64 n] 25 (0,0)):=by
  rw[←hW0];exact((below_alloc _ _).block _ (by rw[World.size_alloc,World.size_alloc];omega)).trans (((below_alloc _ _).block _ (by rw[World.size_alloc];omega)).trans (heap_alloc_new w _))
 have hU:UrlAt (w.heap.size+1) u W0:=by
  rw[←hW0];have:=heap_alloc_new (w.alloc (.cells #[.slice a1 a2 a3, .slice b1 b2 b3, .int .i64 n] 25)) (.cells #[.string ⟨u.scheme.toArray⟩, .string ⟨u.user.toArray⟩, .string ⟨u.pass.toArray⟩, .string ⟨u.host.toArray⟩, .int .i64 u.port, .string ⟨u.path.toArray⟩, .string ⟨u.query.toArray⟩, .bool u.hasQ, .string ⟨u.mark.toArray⟩, .bool u.hasM] 29);rw[World.size_alloc]at this;exact((below_alloc _ _).block _ (by rw[World.size_alloc,World.size_alloc];omega)).trans this
 have hZ:UrlAt (w.heap.size+2) zeroU W0:=by
  rw[←hW0];have:=heap_alloc_new ((w.alloc (.cells #[.slice a1 a2 a3, .slice b1 b2 b3, .int .i64 n] 25)).alloc (.cells #[.string ⟨u.scheme.toArray⟩, .string ⟨u.user.toArray⟩, .string ⟨u.pass.toArray⟩, .string ⟨u.host.toArray⟩, .int .i64 u.port, .string ⟨u.path.toArray⟩, .string ⟨u.query.toArray⟩, .bool u.hasQ, .string ⟨u.mark.toArray⟩, .bool u.hasM] 29)) (.cells #[.string ⟨#[]⟩, .string ⟨#[]⟩, .string ⟨#[]⟩, .string ⟨#[]⟩, .int .i64 0, .string ⟨#[]⟩, .string ⟨#[]⟩, .bool false, .string ⟨#[]⟩, .bool false] 29);rw[World.size_alloc,World.size_alloc]at this;exact this
 have hl0:=(Array.getElem?_eq_some_iff.1 hK).1
 have hl1:=hU.lt
 have hl2:=hZ.lt
 have k0:W0.cell? ⟨w.heap.size,0,none⟩=some (.slice a1 a2 a3):=by rw[Lib.cell_of_heap hK];rfl
 have k1:W0.cell? ⟨w.heap.size,1,none⟩=some (.slice b1 b2 b3):=by rw[Lib.cell_of_heap hK];rfl
 have k2:W0.cell? ⟨w.heap.size,2,none⟩=some (.int .i64 n):=by rw[Lib.cell_of_heap hK];rfl
 have HW:=Lib.hid hW0
 clear hW0 hK
 obtain⟨p0,p1,p2,p3,p4,p5,p6,p7,p8,p9⟩:=hU.cells
 obtain⟨f0,f1,f2,f3,f4,f5,f6,f7,f8,f9⟩:=hU.frees
 obtain⟨c0,c1,c2,c3,c4,c5,c6,c7,c8,c9⟩:=hZ.cells
 obtain⟨g0,g1,g2,g3,g4,g5,g6,g7,g8,g9⟩:=hZ.frees
 have cc:=ci W0 hb0
 clear ci
 unfold keepV at cc⊢
 by_cases hs:u.scheme=httpB
 ·have hs1:(u.scheme==httpB)=true:=beq_iff_eq.2 hs
  have hs2:(u.scheme==[104,116,116,112])=true:=hs1
  cases q with
  |false=>
   have hr:raiseB false u=u:=by unfold raiseB;simp
   rw[hr];unfold urlV;clear hs;go_enter Tryz.func14,Tryz.ntmps14;go_upto_region 1 with fail;rw[HW.out];clear HW;go_wp2_with(go_at_call 13;refine cc.mono ?_;rintro e w1 ⟨rfl,hb1⟩;have hb2:=below_nx hb0 hb1;have hU1:=hU.on hb1;have hZ1:=hZ.on hb1;have hm:=hb1.size;clear cc k0 k1 k2 p0 p1 p2 p3 p4 p5 p6 p7 p8 p9 f0 f1 f2 f3 f4 f5 f6 f7 f8 f9 c0 c1 c2 c3 c4 c5 c6 c7 c8 c9 g0 g1 g2 g3 g4 g5 g6 g7 g8 g9;obtain⟨p0,p1,p2,p3,p4,p5,p6,p7,p8,p9⟩:=hU1.cells;obtain⟨f0,f1,f2,f3,f4,f5,f6,f7,f8,f9⟩:=hU1.frees;obtain⟨c0,c1,c2,c3,c4,c5,c6,c7,c8,c9⟩:=hZ1.cells;obtain⟨g0,g1,g2,g3,g4,g5,g6,g7,g8,g9⟩:=hZ1.frees);exact⟨rfl,_,raise_results rfl (hZ1.put u),rfl,putU_below hb2 (by omega) u⟩
  |true=>
   have hr:raiseB true u= {u with scheme:=httpsB,port:=if u.port=80∨u.port=443 then -1 else u.port}:=by unfold raiseB;rw[if_pos (by rw[hs1];rfl)]
   obtain⟨Y,hY⟩:∃y,raiseB true u=y:=⟨_,rfl⟩;rw[hY];rw[hY]at hr;have HY:=Lib.hid hr;unfold urlV;clear hs hr hY;go_enter Tryz.func14,Tryz.ntmps14;go_upto_region 1 with fail;rw[HW.out];clear HW;go_upto_region 4 with (go_at_call 13;refine cc.mono ?_;rintro e w1 ⟨rfl,hb1⟩;have hb2:=below_nx hb0 hb1;have hU1:=hU.on hb1;have hZ1:=hZ.on hb1;have hm:=hb1.size;clear cc k0 k1 k2 p0 p1 p2 p3 p4 p5 p6 p7 p8 p9 f0 f1 f2 f3 f4 f5 f6 f7 f8 f9 c0 c1 c2 c3 c4 c5 c6 c7 c8 c9 g0 g1 g2 g3 g4 g5 g6 g7 g8 g9;obtain⟨p0,p1,p2,p3,p4,p5,p6,p7,p8,p9⟩:=hU1.cells;obtain⟨f0,f1,f2,f3,f4,f5,f6,f7,f8,f9⟩:=hU1.frees);have hU2:UrlAt (w.heap.size+1) {u with scheme:=httpsB} (w1.setCell ⟨w.heap.size+1,0,none⟩ (.string ⟨#[104,116,116,112,115]⟩)):=hU1.one 0 _ rfl;have hZ2:UrlAt (w.heap.size+2) zeroU (w1.setCell ⟨w.heap.size+1,0,none⟩ (.string ⟨#[104,116,116,112,115]⟩)):=hZ1.far (by show w.heap.size+1≠w.heap.size+2;omega) _;have hb3:Below w.heap.size w (w1.setCell ⟨w.heap.size+1,0,none⟩ (.string ⟨#[104,116,116,112,115]⟩)):=hb2.setCell (p:=⟨w.heap.size+1,0,none⟩) (Nat.le_succ _) _;have hm2:w1.heap.size≤(w1.setCell ⟨w.heap.size+1,0,none⟩ (.string ⟨#[104,116,116,112,115]⟩)).heap.size:=by simp[World.setCell]
   clear hU hZ hU1 hZ1 hb2 hb1 hb0 p0 p1 p2 p3 p4 p5 p6 p7 p8 p9 f0 f1 f2 f3 f4 f5 f6 f7 f8 f9;revert hU2 hZ2 hb3 hm2;generalize (w1.setCell ⟨w.heap.size+1,0,none⟩ (.string ⟨#[104,116,116,112,115]⟩))=w2;intro hU2 hZ2 hb3 hm2;obtain⟨p0,p1,p2,p3,p4,p5,p6,p7,p8,p9⟩:=hU2.cells;obtain⟨f0,f1,f2,f3,f4,f5,f6,f7,f8,f9⟩:=hU2.frees;dsimp only at p0 p1 p2 p3 p4 p5 p6 p7 p8 p9;by_cases h8:u.port=80
   ·have hr:=HY.out
    rw[if_pos (.inl h8)]at hr;clear HY;have HY:=Lib.hid hr;clear hr;go_upto_region 6 with fail
    all_goals
     have hU3:UrlAt (w.heap.size+1) {u with scheme:=httpsB,port:= -1} (w2.setCell ⟨w.heap.size+1,4,none⟩ (.int .i64 (-1))):=hU2.one 4 _ rfl;have hZ3:UrlAt (w.heap.size+2) zeroU (w2.setCell ⟨w.heap.size+1,4,none⟩ (.int .i64 (-1))):=hZ2.far (by show w.heap.size+1≠w.heap.size+2;omega) _;have hb4:Below w.heap.size w (w2.setCell ⟨w.heap.size+1,4,none⟩ (.int .i64 (-1))):=hb3.setCell (p:=⟨w.heap.size+1,4,none⟩) (Nat.le_succ _) _;clear hU2 hZ2 hb3 p0 p1 p2 p3 p4 p5 p6 p7 p8 p9 f0 f1 f2 f3 f4 f5 f6 f7 f8 f9;revert hU3 hZ3 hb4;generalize (w2.setCell ⟨w.heap.size+1,4,none⟩ (.int .i64 (-1)))=w3;intro hU3 hZ3 hb4;obtain⟨p0,p1,p2,p3,p4,p5,p6,p7,p8,p9⟩:=hU3.cells;dsimp only at p0 p1 p2 p3 p4 p5 p6 p7 p8 p9;obtain⟨c0,c1,c2,c3,c4,c5,c6,c7,c8,c9⟩:=hZ3.cells;obtain⟨g0,g1,g2,g3,g4,g5,g6,g7,g8,g9⟩:=hZ3.frees;go_wp2_with fail;exact⟨rfl,_,raise_results rfl (hZ3.put {u with scheme:=httpsB,port:= -1}),by rw[HY.out];rfl,putU_below hb4 (by omega) {u with scheme:=httpsB,port:= -1}⟩
   ·by_cases h4:u.port=443
    ·have hr:=HY.out
     rw[if_pos (.inr h4)]at hr;clear HY;have HY:=Lib.hid hr;clear hr;go_upto_region 6 with fail
     all_goals
      have hU3:UrlAt (w.heap.size+1) {u with scheme:=httpsB,port:= -1} (w2.setCell ⟨w.heap.size+1,4,none⟩ (.int .i64 (-1))):=hU2.one 4 _ rfl;have hZ3:UrlAt (w.heap.size+2) zeroU (w2.setCell ⟨w.heap.size+1,4,none⟩ (.int .i64 (-1))):=hZ2.far (by show w.heap.size+1≠w.heap.size+2;omega) _;have hb4:Below w.heap.size w (w2.setCell ⟨w.heap.size+1,4,none⟩ (.int .i64 (-1))):=hb3.setCell (p:=⟨w.heap.size+1,4,none⟩) (Nat.le_succ _) _;clear hU2 hZ2 hb3 p0 p1 p2 p3 p4 p5 p6 p7 p8 p9 f0 f1 f2 f3 f4 f5 f6 f7 f8 f9;revert hU3 hZ3 hb4;generalize (w2.setCell ⟨w.heap.size+1,4,none⟩ (.int .i64 (-1)))=w3;intro hU3 hZ3 hb4;obtain⟨p0,p1,p2,p3,p4,p5,p6,p7,p8,p9⟩:=hU3.cells;dsimp only at p0 p1 p2 p3 p4 p5 p6 p7 p8 p9;obtain⟨c0,c1,c2,c3,c4,c5,c6,c7,c8,c9⟩:=hZ3.cells;obtain⟨g0,g1,g2,g3,g4,g5,g6,g7,g8,g9⟩:=hZ3.frees;go_wp2_with fail;exact⟨rfl,_,raise_results rfl (hZ3.put {u with scheme:=httpsB,port:= -1}),by rw[HY.out];rfl,putU_below hb4 (by omega) {u with scheme:=httpsB,port:= -1}⟩
    ·have h84:¬(u.port=80∨u.port=443):=by omega
     have h8b:(u.port==80)=false:=beq_eq_false_iff_ne.2 h8;have h4b:(u.port==443)=false:=beq_eq_false_iff_ne.2 h4;have hr:=HY.out;rw[if_neg h84]at hr;clear HY;have HY:=Lib.hid hr;clear hr h84;obtain⟨c0,c1,c2,c3,c4,c5,c6,c7,c8,c9⟩:=hZ2.cells;obtain⟨g0,g1,g2,g3,g4,g5,g6,g7,g8,g9⟩:=hZ2.frees;go_wp2_with fail;exact⟨rfl,_,raise_results rfl (hZ2.put {u with scheme:=httpsB}),by rw[HY.out];rfl,putU_below hb3 (by omega) {u with scheme:=httpsB}⟩
 ·have hs1:(u.scheme==httpB)=false:=beq_eq_false_iff_ne.2 hs
  have hs2:(u.scheme==[104,116,116,112])=false:=hs1;have hs3:¬u.scheme=[104,116,116,112]:=hs;have hr:raiseB q u=u:=by unfold raiseB;rw[hs1];simp
  rw[hr];unfold urlV;go_enter Tryz.func14,Tryz.ntmps14;go_upto_region 1 with fail;rw[HW.out];clear HW hs cc;go_wp2_with fail;exact⟨rfl,_,raise_results rfl (hZ.put u),rfl,putU_below hb0 (by omega) u⟩
theorem at15_results {B:Nat} {W:World} {v:UrlL} {tmps:Array Value} (h2:tmps[6]?.getD undef= .pointer (some ⟨B,0,none⟩)) (hU:UrlAt B v W):
 (results Tryz.f17 tmps).run Tryz.prog W= .ok (urlV v) W:=by
 obtain⟨c0,c1,c2,c3,c4,c5,c6,c7,c8,c9⟩:=hU.cells
 simp[results,Tryz.results17,go_sem,h2,c0,c1,c2,c3,c4,c5,c6,c7,c8,c9]
 rfl
theorem at15_any (s h p:List UInt8) (w:World):
 Calls Tryz.prog 17 #[.string ⟨s.toArray⟩, .string ⟨h.toArray⟩, .string ⟨p.toArray⟩] w fun e w'=>e= .returned (urlV (atU s [] h (-1) p [] false))∧Below w.heap.size w w':=by
 obtain⟨W0,hW0⟩:∃W,w.alloc (.cells (cellsU zeroU).toArray 29)=W:=⟨_,rfl⟩
 have hZ:UrlAt w.heap.size zeroU W0:=by rw[←hW0];exact heap_alloc_new w _
 have hb:Below w.heap.size w W0:=by rw[←hW0];exact below_alloc w _
 obtain⟨c0,c1,c2,c3,c4,c5,c6,c7,c8,c9⟩:=hZ.cells
 obtain⟨g0,g1,g2,g3,g4,g5,g6,g7,g8,g9⟩:=hZ.frees
 have HW:=Lib.hid hW0
 clear hW0
 go_enter Tryz.func17,Tryz.ntmps17
 go_upto_region 1 with fail
 rw[show w.alloc (.cells #[.string ⟨#[]⟩, .string ⟨#[]⟩, .string ⟨#[]⟩, .string ⟨#[]⟩, .int .i64 0, .string ⟨#[]⟩, .string ⟨#[]⟩, .bool false, .string ⟨#[]⟩, .bool false] 29)=W0 from HW.out]
 clear HW
 go_wp2_with fail
 exact⟨rfl,_,at15_results rfl (hZ.put (atU s [] h (-1) p [] false)),rfl,putU_below hb (Nat.le_refl _) (atU s [] h (-1) p [] false)⟩
theorem index_nil (f:Value) (w:World):Calls Tryz.prog 29 #[.slice none 0 0,f] w fun e w'=>e= .returned (.int .i64 (-1))∧w'=w:=by
 go_enter Tryz.func29,Tryz.ntmps29;go_wp2_with fail;go_loopw [8] (fun i wr=>i= .int .i64 0∧wr=w) (fun _ _=>0)
 case atStart=>exact⟨rfl,rfl⟩
 case round=>
  obtain⟨rfl,rfl⟩:=hrel;go_wp2_with fail;go_ret;exact⟨rfl,rfl⟩
theorem clip_one (a:Addr) (c:Nat) (w:World) (hc:1≤c):Calls Tryz.prog 36 #[.slice (some a) 1 c] w fun e w'=>e= .returned (.slice (some a) 1 1)∧w'=w:=by
 have hci:(1:Int)≤(c:Int):=by omega
 go_enter Tryz.func36,Tryz.ntmps36;go_wp2_with fail;go_ret;exact⟨by simp,rfl⟩
theorem change_info:(Tryz.prog.info? 46).map (fun i=>(i.zero,i.size,i.bytes))=some (some (.agg #[.int .u8 0, .string ⟨#[]⟩, .string ⟨#[]⟩, .string ⟨#[]⟩, .bool false, .string ⟨#[]⟩, .bool false, .bool false, .int .u8 0, .int .i64 0, .int .i64 0, .int .i64 0, .int .i64 0, .string ⟨#[]⟩, .bool false, .int .i64 0]),16,152):=by kernel_rfl
theorem change_elem:ElemZ Tryz.prog 34 46 (.agg #[.int .u8 0, .string ⟨#[]⟩, .string ⟨#[]⟩, .string ⟨#[]⟩, .bool false, .string ⟨#[]⟩, .bool false, .bool false, .int .u8 0, .int .i64 0, .int .i64 0, .int .i64 0, .int .i64 0, .string ⟨#[]⟩, .bool false, .int .i64 0]) 16 152:=
 ⟨Tryz.underlying34,by obtain⟨i,h1,h2,h3,h4⟩:=info_parts change_info;exact⟨i,h1,h2,h3,h4⟩,rfl,by omega⟩
def changeL:List Value:=[.int .u8 3, .string ⟨#[]⟩, .string ⟨#[]⟩, .string ⟨#[]⟩, .bool false, .string ⟨#[]⟩, .bool false, .bool false, .int .u8 0, .int .i64 0, .int .i64 0, .int .i64 0, .int .i64 0, .string ⟨#[97,46,116,101,115,116]⟩, .bool true, .int .i64 15]
set_option maxRecDepth 100000 in
theorem tell_one (w:World) (hE:EnvH w):
 Calls Tryz.prog 11 #[.agg #[.slice none 0 0, .slice none 0 0, .int .i64 0], .agg #[.int .i64 10, .bool true],urlV ca1, .int .i64 5] w fun e w'=>∃g,e= .returned (.slice (some ⟨g,0,none⟩) 1 1)∧w.heap.size≤g∧g<w'.heap.size∧
  (∀j u,changeL[j]?=some u→w'.cell? ⟨g,j,none⟩=some u)∧Below w.heap.size w w':=by
 obtain⟨W0,hW0⟩:∃W,((w.alloc (.cells #[.slice none 0 0, .slice none 0 0, .int .i64 0] 25)).alloc (.cells #[.int .i64 10, .bool true] 27)).alloc (.cells #[.string ⟨#[104,116,116,112,115]⟩, .string ⟨#[]⟩, .string ⟨#[]⟩, .string ⟨#[97,46,116,101,115,116]⟩, .int .i64 (-1), .string ⟨#[47]⟩, .string ⟨#[]⟩, .bool false, .string ⟨#[]⟩, .bool false] 29)=W:=⟨_,rfl⟩
 have hb0:Below w.heap.size w W0:=by rw[←hW0];exact((below_alloc w _).alloc (by rw[World.size_alloc];omega) _).alloc (by rw[World.size_alloc,World.size_alloc];omega) _
 have hK:W0.heap[w.heap.size]?=some (.cells #[.slice none 0 0, .slice none 0 0, .int .i64 0] 25 (0,0)):=by
  rw[←hW0];exact((below_alloc _ _).block _ (by rw[World.size_alloc,World.size_alloc];omega)).trans (((below_alloc _ _).block _ (by rw[World.size_alloc];omega)).trans (heap_alloc_new w _))
 have hI:W0.heap[w.heap.size+1]?=some (.cells #[.int .i64 10, .bool true] 27 (0,0)):=by
  rw[←hW0];have:=heap_alloc_new (w.alloc (.cells #[.slice none 0 0, .slice none 0 0, .int .i64 0] 25)) (.cells #[.int .i64 10, .bool true] 27);rw[World.size_alloc]at this;exact((below_alloc _ _).block _ (by rw[World.size_alloc,World.size_alloc];omega)).trans this
 have hU:W0.heap[w.heap.size+2]?=some (.cells #[.string ⟨#[104,116,116,112,115]⟩, .string ⟨#[]⟩, .string ⟨#[]⟩, .string ⟨#[97,46,116,101,115,116]⟩, .int .i64 (-1), .string ⟨#[47]⟩, .string ⟨#[]⟩, .bool false, .string ⟨#[]⟩, .bool false] 29 (0,0)):=by
  rw[←hW0];have:=heap_alloc_new ((w.alloc (.cells #[.slice none 0 0, .slice none 0 0, .int .i64 0] 25)).alloc (.cells #[.int .i64 10, .bool true] 27)) (.cells #[.string ⟨#[104,116,116,112,115]⟩, .string ⟨#[]⟩, .string ⟨#[]⟩, .string ⟨#[97,46,116,101,115,116]⟩, .int .i64 (-1), .string ⟨#[47]⟩, .string ⟨#[]⟩, .bool false, .string ⟨#[]⟩, .bool false] 29);rw[World.size_alloc,World.size_alloc]at this;exact this
 have hlU:=(Array.getElem?_eq_some_iff.1 hU).1
 have fK:∀W,Below W0.heap.size W0 W→W.cell? ⟨w.heap.size,1,none⟩=some (.slice none 0 0):=fun W hW=>by rw[Lib.cell_of_heap ((hW.block _ (by omega)).trans hK)];rfl
 have fI:∀W,Below W0.heap.size W0 W→W.cell? ⟨w.heap.size+1,0,none⟩=some (.int .i64 10)∧W.cell? ⟨w.heap.size+1,1,none⟩=some (.bool true):=fun W hW=>⟨by rw[Lib.cell_of_heap ((hW.block _ (by omega)).trans hI)];rfl,by rw[Lib.cell_of_heap ((hW.block _ (by omega)).trans hI)];rfl⟩
 have fU:∀(j:Nat) (v:Value),[.string ⟨#[104,116,116,112,115]⟩, .string ⟨#[]⟩, .string ⟨#[]⟩, .string ⟨#[97,46,116,101,115,116]⟩, .int .i64 (-1), .string ⟨#[47]⟩, .string ⟨#[]⟩, .bool false, .string ⟨#[]⟩, .bool false][j]?=some v→∀W,Below W0.heap.size W0 W→W.cell? ⟨w.heap.size+2,j,none⟩=some v:=fun j v hv W hW=>by rw[Lib.cell_of_heap ((hW.block _ hlU).trans hU)];simpa using hv
 have hbw:=Below.refl W0.heap.size W0
 have p0:=fU 0 _ rfl W0 hbw
 have p1:=fU 1 _ rfl W0 hbw
 have p2:=fU 2 _ rfl W0 hbw
 have p3:=fU 3 _ rfl W0 hbw
 have p4:=fU 4 _ rfl W0 hbw
 have p5:=fU 5 _ rfl W0 hbw
 have p6:=fU 6 _ rfl W0 hbw
 have p7:=fU 7 _ rfl W0 hbw
 have p8:=fU 8 _ rfl W0 hbw
 have p9:=fU 9 _ rfl W0 hbw
 have ck:=fun W (hW:Below w.heap.size w W)=>check_u ca1 W (hE.below hW) (by decide) (by decide)
 rw[show checkU ca1=true from check_iff.2 cg1]at ck
 have ck0:=ck W0 hb0
 have cm:=fun W (hW:Below w.heap.size w W)=>machine_any [97,46,116,101,115,116] W (hE.below hW).t.env (by decide)
 rw[show machineL [97,46,116,101,115,116]=false by decide]at cm
 clear ck
 have FK:=Lib.hid fK
 have FI:=Lib.hid fI
 have FU:=Lib.hid fU
 have HW:=Lib.hid hW0
 clear hW0 fK fI fU hK hI hU hE
 have eV:urlV ca1= .agg #[.string ⟨#[104,116,116,112,115]⟩, .string ⟨#[]⟩, .string ⟨#[]⟩, .string ⟨#[97,46,116,101,115,116]⟩, .int .i64 (-1), .string ⟨#[47]⟩, .string ⟨#[]⟩, .bool false, .string ⟨#[]⟩, .bool false]:=rfl
 rw[eV]at ck0⊢
 clear eV
 go_enter Tryz.func11,Tryz.ntmps11
 go_upto_region 1 with fail
 rw[show _=W0 from HW.out]
 clear HW
 go_upto_region 3 with (first
  |(go_at_call 27;refine ck0.mono ?_;rintro e w1 ⟨rfl,hb1⟩;have p0:=FU.out 0 _ rfl w1 hb1;have p3:=FU.out 3 _ rfl w1 hb1;have i1:=(FI.out w1 hb1).1;have h1:=below_nx hb0 hb1;have cmw:=cm w1 h1;clear ck0)
  |(go_at_call 28;refine cmw.mono ?_;rintro e w2 ⟨rfl,hb2⟩;have hb12:=below_nx hb1 hb2;have i2:=FI.out w2 hb12))
 obtain⟨i2a,i2b⟩:=i2
 have p3b:=FU.out 3 _ rfl w2 hb12
 obtain⟨w3,hw3⟩:∃W,w2.alloc (.cells #[.string ⟨#[]⟩, .bool false, .int .i64 0] 44)=W:=⟨_,rfl⟩
 have hb23:Below w2.heap.size w2 w3:=by rw[←hw3];exact below_alloc w2 _
 have hb13:=below_nx hb12 hb23
 have hS9:w3.heap[w2.heap.size]?=some (.cells #[.string ⟨#[]⟩, .bool false, .int .i64 0] 44 (0,0)):=by rw[←hw3];exact heap_alloc_new w2 _
 have hl9:=(Array.getElem?_eq_some_iff.1 hS9).1
 have k3:=FK.out w3 hb13
 obtain⟨j3a,j3b⟩:=FI.out w3 hb13
 have q3:=FU.out 3 _ rfl w3 hb13
 have s0:w3.cell? ⟨w2.heap.size,0,none⟩=some (.string ⟨#[]⟩):=by rw[Lib.cell_of_heap hS9];rfl
 have s1:w3.cell? ⟨w2.heap.size,1,none⟩=some (.bool false):=by rw[Lib.cell_of_heap hS9];rfl
 have s2:w3.cell? ⟨w2.heap.size,2,none⟩=some (.int .i64 0):=by rw[Lib.cell_of_heap hS9];rfl
 have h3:=below_nx hb0 hb13
 have HW3:=Lib.hid hw3
 clear hw3 hb12 hb23 hS9 p0 p1 p2 p3 p4 p5 p6 p7 p8 p9 p3b i2a i2b
 go_upto_region 4 with fail
 rw[HW3.out]
 clear HW3
 go_upto_region 15 with (go_at_call 29;refine(index_nil _ _).mono ?_;rintro e w4 ⟨rfl,rfl⟩)
 go_upto_region 16 with fail
 rw[show(5+min 10 1099511627770:Int)=15 by decide]
 obtain⟨w5,hw5⟩:∃W,w4.alloc (.cells #[.string ⟨#[97,46,116,101,115,116]⟩, .bool true, .int .i64 15] 44)=W:=⟨_,rfl⟩
 have hb35:Below w4.heap.size w4 w5:=by rw[←hw5];exact below_alloc w4 _
 have hS13:w5.heap[w4.heap.size]?=some (.cells #[.string ⟨#[97,46,116,101,115,116]⟩, .bool true, .int .i64 15] 44 (0,0)):=by rw[←hw5];exact heap_alloc_new w4 _
 have hl13:=(Array.getElem?_eq_some_iff.1 hS13).1
 have u0:w5.cell? ⟨w4.heap.size,0,none⟩=some (.string ⟨#[97,46,116,101,115,116]⟩):=by rw[Lib.cell_of_heap hS13];rfl
 have u1:w5.cell? ⟨w4.heap.size,1,none⟩=some (.bool true):=by rw[Lib.cell_of_heap hS13];rfl
 have u2:w5.cell? ⟨w4.heap.size,2,none⟩=some (.int .i64 15):=by rw[Lib.cell_of_heap hS13];rfl
 have h5:=below_nx h3 hb35
 have hown:w5.ownsRow w.heap.size 46 16 (.slice none 0 0) 0 []:=⟨rfl, .inl ⟨rfl,rfl⟩⟩
 rw[hw5]
 clear hw5 hS13 hb35 k3 j3a j3b q3 s0 s1 s2 FK FI FU cm cmw
 go_wp2_with(at_builtin;refine wpList_append_z change_elem _ rfl _ _ rfl w.heap.size _ _ _ rfl hown changeL _ rfl rfl (fun u hu=>by simp only[changeL,List.mem_cons,List.not_mem_nil,or_false]at hu;rcases hu with rfl|rfl|rfl|rfl|rfl|rfl|rfl|rfl|rfl|rfl|rfl|rfl|rfl|rfl|rfl|rfl<;>rfl) (by omega) (by omega) h5.size ?_)
 intro v' w6 hown2 hgr
 have hb6:Below w.heap.size w w6:=h5.grown hgr h5.size (fun g' hg'=>by cases hg')
 rcases hown2.2 with ⟨_,hno⟩|⟨g,c,cur,rfl,hbg,hheap,hc,hcm,hsz,htake⟩
 ·omega
 ·have hcell:∀j u,changeL[j]?=some u→w6.cell? ⟨g,j,none⟩=some u:=fun j u hj=>by
   rw[Lib.cell_of_heap hheap];show cur[j]?=some u;have hj2:(List.take (1*16) cur.toList)[j]?=some u:=by rw[htake];exact hj
   rw[List.getElem?_take]at hj2;split at hj2
   ·simpa using hj2
   ·cases hj2
  have hg:=(Array.getElem?_eq_some_iff.1 hheap).1;clear hown2 hgr hown hheap htake;go_wp2_with(go_at_call 36;refine(clip_one _ c _ hc).mono ?_;rintro e w7 ⟨rfl,rfl⟩);go_ret;exact⟨g,rfl,hbg,hg,hcell,hb6⟩
end Go.Proofs.YtjkipdoebkhkaaaGreatDoor
