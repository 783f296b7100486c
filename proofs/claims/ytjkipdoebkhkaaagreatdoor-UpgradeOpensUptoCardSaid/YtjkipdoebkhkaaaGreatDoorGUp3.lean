/- footmanlaw16.lives walked. -/
import Derived.Test.YtjkipdoebkhkaaaGreatDoorGUp2
import Derived.Test.YtjkipdoebkhkaaaGreatDoorGUp1
import Derived.Test.YtjkipdoebkhkaaaGreatDoorGOpA
import Derived.Test.YtjkipdoebkhkaaaGreatDoorGKe2
set_option linter.unusedVariables false
set_option linter.unusedSimpArgs false
set_option maxHeartbeats 16000000
namespace Go.Proofs.YtjkipdoebkhkaaaGreatDoor
open Go.RowKit
def lv80:UrlL:=atU httpB [] [97,46,116,101,115,116] 80 [47] [] false
def lv81:UrlL:=atU httpB [] [97,46,116,101,115,116] 81 [47] [] false
def lvr81:UrlL:=atU httpsB [] [97,46,116,101,115,116] 81 [47] [] false
def lvS:SealL:=⟨[97,46,116,101,115,116],true,15⟩
theorem row_seal {X:Nat} {x:SealL} {w W:World} (hw:w.alloc (.cells (cellsS x).toArray 44)=W) (hX:X=w.heap.size):RowS 3 cellsS W (.slice (some ⟨X,0,none⟩) 1 1) [x]:=by
 subst hX;have h:=heap_alloc_new w (.cells (cellsS x).toArray 44);rw[hw]at h;refine .inr ⟨⟨w.heap.size,0,none⟩,1,rfl,Nat.le_refl 1,fun _=>(Array.getElem?_eq_some_iff.1 h).1,fun k hk j u hj=> ?_⟩;obtain rfl:k=0:=by simp at hk;exact hk
 rw[Addr.add_lit,Nat.zero_mul,Nat.zero_add,Nat.zero_add,Lib.cell_of_heap h];simpa using hj
set_option maxRecDepth 100000 in
theorem lives16 (w:World) (hE:EnvH w):Calls Tryz.prog 10 #[] w fun e w'=>e= .returned (.bool true)∧Below w.heap.size w w':=by
 have hbw:=Below.refl w.heap.size w;have e1:urlV (atU [104,116,116,112,115] [] [97,46,116,101,115,116] (-1) [47] [] false)= .agg #[.string ⟨#[104,116,116,112,115]⟩, .string ⟨#[]⟩, .string ⟨#[]⟩, .string ⟨#[97,46,116,101,115,116]⟩, .int .i64 (-1), .string ⟨#[47]⟩, .string ⟨#[]⟩, .bool false, .string ⟨#[]⟩, .bool false]:=rfl;have e4:urlV (atU [104,116,116,112] [] [97,46,116,101,115,116] (-1) [47] [] false)= .agg #[.string ⟨#[104,116,116,112]⟩, .string ⟨#[]⟩, .string ⟨#[]⟩, .string ⟨#[97,46,116,101,115,116]⟩, .int .i64 (-1), .string ⟨#[47]⟩, .string ⟨#[]⟩, .bool false, .string ⟨#[]⟩, .bool false]:=rfl;have ca:=at15_any [104,116,116,112,115] [97,46,116,101,115,116] [47] w;rw[e1]at ca;have cb:=fun W=>at15_any [104,116,116,112] [97,46,116,101,115,116] [47] W
 rw[e4]at cb;have ct:=fun W (hW:Below w.heap.size w W)=>tell_one W (hE.below hW)
 rw[show urlV ca1= .agg #[.string ⟨#[104,116,116,112,115]⟩, .string ⟨#[]⟩, .string ⟨#[]⟩, .string ⟨#[97,46,116,101,115,116]⟩, .int .i64 (-1), .string ⟨#[47]⟩, .string ⟨#[]⟩, .bool false, .string ⟨#[]⟩, .bool false]from rfl]at ct;clear e1 e4;go_enter Tryz.func10,Tryz.ntmps10;go_upto_region 2 with (go_at_call 17;refine ca.mono ?_;rintro e w1 ⟨rfl,hb1⟩;clear ca);obtain⟨w2,hw2⟩:∃W,w1.alloc (.cells #[.string ⟨#[104,116,116,112,115]⟩, .string ⟨#[]⟩, .string ⟨#[]⟩, .string ⟨#[97,46,116,101,115,116]⟩, .int .i64 (-1), .string ⟨#[47]⟩, .string ⟨#[]⟩, .bool false, .string ⟨#[]⟩, .bool false] 29)=W:=⟨_,rfl⟩;have hU1:UrlAt w1.heap.size ca1 w2:=by rw[←hw2];exact heap_alloc_new w1 _
 have hb2:Below w.heap.size w w2:=below_nx hb1 (by rw[←hw2];exact below_alloc w1 _);have p0:w2.cell? ⟨w1.heap.size,0,none⟩=some (.string ⟨#[104,116,116,112,115]⟩):=hU1.cell 0;have p1:w2.cell? ⟨w1.heap.size,1,none⟩=some (.string ⟨#[]⟩):=hU1.cell 1;have p2:w2.cell? ⟨w1.heap.size,2,none⟩=some (.string ⟨#[]⟩):=hU1.cell 2;have p3:w2.cell? ⟨w1.heap.size,3,none⟩=some (.string ⟨#[97,46,116,101,115,116]⟩):=hU1.cell 3;have p4:w2.cell? ⟨w1.heap.size,4,none⟩=some (.int .i64 (-1)):=hU1.cell 4;have p5:w2.cell? ⟨w1.heap.size,5,none⟩=some (.string ⟨#[47]⟩):=hU1.cell 5;have p6:w2.cell? ⟨w1.heap.size,6,none⟩=some (.string ⟨#[]⟩):=hU1.cell 6;have p7:w2.cell? ⟨w1.heap.size,7,none⟩=some (.bool false):=hU1.cell 7;have p8:w2.cell? ⟨w1.heap.size,8,none⟩=some (.string ⟨#[]⟩):=hU1.cell 8;have p9:w2.cell? ⟨w1.heap.size,9,none⟩=some (.bool false):=hU1.cell 9;have ct2:=ct w2 hb2;rw[hw2];clear hw2 ct;go_upto_region 3 with (go_at_call 11;refine ct2.mono ?_;rintro e w3 ⟨g,rfl,hg2,hg3,hch,hb3⟩;have hU13:=hU1.on hb3;have hb03:=below_nx hb2 hb3;clear ct2 p0 p1 p2 p3 p4 p5 p6 p7 p8 p9);have d0:w3.cell? ⟨g,0,none⟩=some (.int .u8 3):=hch 0 _ rfl;have d1:w3.cell? ⟨g,13,none⟩=some (.string ⟨#[97,46,116,101,115,116]⟩):=hch 13 _ rfl;have d2:w3.cell? ⟨g,14,none⟩=some (.bool true):=hch 14 _ rfl;have d3:w3.cell? ⟨g,15,none⟩=some (.int .i64 15):=hch 15 _ rfl;clear hch;go_upto_region 6 with fail;obtain⟨w4,hw4⟩:∃W,w3.alloc (.cells #[.string ⟨#[97,46,116,101,115,116]⟩, .bool true, .int .i64 15] 44)=W:=⟨_,rfl⟩;obtain⟨w5,hw5⟩:∃W,w4.alloc (.cells #[.slice none 0 0, .slice (some ⟨w3.heap.size,0,none⟩) 1 1, .int .i64 0] 25)=W:=⟨_,rfl⟩;have hb34:Below w3.heap.size w3 w4:=by rw[←hw4];exact below_alloc w3 _
 have hb45:Below w4.heap.size w4 w5:=by rw[←hw5];exact below_alloc w4 _
 have hS4:RowS 3 cellsS w4 (.slice (some ⟨w3.heap.size,0,none⟩) 1 1) [lvS]:=row_seal (x:=lvS) hw4 rfl;have hS5:=hS4.below hb45 (Nat.le_refl _);have hs4:w3.heap.size+1=w4.heap.size:=by rw[←hw4,World.size_alloc]
 have hK5:w5.heap[w3.heap.size+1]?=some (.cells #[.slice none 0 0, .slice (some ⟨w3.heap.size,0,none⟩) 1 1, .int .i64 0] 25 (0,0)):=by rw[←hw5,hs4];exact heap_alloc_new w4 _
 have hl5:=(Array.getElem?_eq_some_iff.1 hK5).1;have hU15:=(hU13.on hb34).on hb45;have hb05:=below_nx (below_nx hb03 hb34) hb45;have fK:∀W,Below w5.heap.size w5 W→W.cell? ⟨w3.heap.size+1,0,none⟩=some (.slice none 0 0)∧W.cell? ⟨w3.heap.size+1,1,none⟩=some (.slice (some ⟨w3.heap.size,0,none⟩) 1 1)∧W.cell? ⟨w3.heap.size+1,2,none⟩=some (.int .i64 0):=fun W hW=>
  ⟨by rw[Lib.cell_of_heap ((hW.block _ hl5).trans hK5)];rfl,by rw[Lib.cell_of_heap ((hW.block _ hl5).trans hK5)];rfl,by rw[Lib.cell_of_heap ((hW.block _ hl5).trans hK5)];rfl⟩
 have isC:∀(x:List UInt8) (now:Int) (r:Bool),isL [lvS] x now=r→x.length≤1048576→∀W,Below w5.heap.size w5 W→Calls Tryz.prog 13 #[.agg #[.slice none 0 0, .slice (some ⟨w3.heap.size,0,none⟩) 1 1, .int .i64 0], .string ⟨x.toArray⟩, .int .i64 now] W fun e W'=>e= .returned (.bool r)∧Below W.heap.size W W':=fun x now r hr hx W hW=>by
  subst hr;exact is_any (.slice none 0 0) _ 0 [lvS] x now W (hE.below (below_nx hb05 hW)) (hS5.below hW (Nat.le_refl _)) (by decide) (fun y hy=>by rw[List.mem_singleton.1 hy];decide) hx ⟨_,_,_,rfl⟩
 have i1:=isC [120,46,97,46,116,101,115,116] 14 true (by decide) (by decide);have i2:=isC [97,46,116,101,115,116] 15 false (by decide) (by decide);have i3:=isC [116,101,115,116] 5 false (by decide) (by decide);have i4:=isC [97,46,116,101,115,116] 5 true (by decide) (by decide);have r80:∀W,Below w5.heap.size w5 W→Calls Tryz.prog 14 #[.agg #[.slice none 0 0, .slice (some ⟨w3.heap.size,0,none⟩) 1 1, .int .i64 0], .agg #[.string ⟨#[104,116,116,112]⟩, .string ⟨#[]⟩, .string ⟨#[]⟩, .string ⟨#[97,46,116,101,115,116]⟩, .int .i64 80, .string ⟨#[47]⟩, .string ⟨#[]⟩, .bool false, .string ⟨#[]⟩, .bool false], .int .i64 5] W fun e W'=>e= .returned (.agg #[.string ⟨#[104,116,116,112,115]⟩, .string ⟨#[]⟩, .string ⟨#[]⟩, .string ⟨#[97,46,116,101,115,116]⟩, .int .i64 (-1), .string ⟨#[47]⟩, .string ⟨#[]⟩, .bool false, .string ⟨#[]⟩, .bool false])∧Below W.heap.size W W':=fun W hW=>by
  have h:=raise_any (.slice none 0 0) (.slice (some ⟨w3.heap.size,0,none⟩) 1 1) 0 lv80 5 true W ⟨_,_,_,rfl⟩ ⟨_,_,_,rfl⟩ (fun V hV=>i4 V (below_nx hW hV));rw[show raiseB true lv80=ca1 by unfold raiseB;rw[if_pos (by decide),if_pos (by decide)];rfl]at h;exact h
 have r81:∀W,Below w5.heap.size w5 W→Calls Tryz.prog 14 #[.agg #[.slice none 0 0, .slice (some ⟨w3.heap.size,0,none⟩) 1 1, .int .i64 0], .agg #[.string ⟨#[104,116,116,112]⟩, .string ⟨#[]⟩, .string ⟨#[]⟩, .string ⟨#[97,46,116,101,115,116]⟩, .int .i64 81, .string ⟨#[47]⟩, .string ⟨#[]⟩, .bool false, .string ⟨#[]⟩, .bool false], .int .i64 5] W fun e W'=>e= .returned (.agg #[.string ⟨#[104,116,116,112,115]⟩, .string ⟨#[]⟩, .string ⟨#[]⟩, .string ⟨#[97,46,116,101,115,116]⟩, .int .i64 81, .string ⟨#[47]⟩, .string ⟨#[]⟩, .bool false, .string ⟨#[]⟩, .bool false])∧Below W.heap.size W W':=fun W hW=>by
  have h:=raise_any (.slice none 0 0) (.slice (some ⟨w3.heap.size,0,none⟩) 1 1) 0 lv81 5 true W ⟨_,_,_,rfl⟩ ⟨_,_,_,rfl⟩ (fun V hV=>i4 V (below_nx hW hV));rw[show raiseB true lv81=lvr81 by unfold raiseB;rw[if_pos (by decide),if_neg (by decide)];rfl]at h;exact h
 rw[hw4,hw5];have HH:=Lib.hid hb05;have cb5:=cb w5;clear hw4 hw5 hb34 hb45 hS4 hS5 hs4 hK5 isC i4 hb05 hb03 hb3 hb2 hU13 hU1 hg2 hg3 d0 d1 d2 d3 hE hb1 hbw cb;go_upto_region 7 with (go_at_call 17;refine cb5.mono ?_;rintro e w6 ⟨rfl,hb6⟩;clear cb5);obtain⟨w7,hw7⟩:∃W,w6.alloc (.cells #[.string ⟨#[104,116,116,112]⟩, .string ⟨#[]⟩, .string ⟨#[]⟩, .string ⟨#[97,46,116,101,115,116]⟩, .int .i64 (-1), .string ⟨#[47]⟩, .string ⟨#[]⟩, .bool false, .string ⟨#[]⟩, .bool false] 29)=W:=⟨_,rfl⟩;have hU7:UrlAt w6.heap.size ca4 w7:=by rw[←hw7];exact heap_alloc_new w6 _
 have hb7:Below w5.heap.size w5 w7:=below_nx hb6 (by rw[←hw7];exact below_alloc w6 _);rw[hw7];clear hw7;have c4:w7.cell? ⟨w6.heap.size,4,none⟩=some (.int .i64 (-1)):=hU7.cell 4;have f4:=hU7.free 4;go_upto_region 8 with fail;obtain⟨w8,hw8⟩:∃W,w7.setCell ⟨w6.heap.size,4,none⟩ (.int .i64 80)=W:=⟨_,rfl⟩;have hU8:UrlAt w6.heap.size lv80 w8:=by rw[←hw8];exact hU7.one 4 _ rfl
 have hb8:Below w5.heap.size w5 w8:=by rw[←hw8];exact hb7.setCell (p:=⟨w6.heap.size,4,none⟩) hb6.size _
 rw[hw8];clear hw8 hU7 hb7 c4 f4;have p0:w8.cell? ⟨w6.heap.size,0,none⟩=some (.string ⟨#[104,116,116,112]⟩):=hU8.cell 0;have p1:w8.cell? ⟨w6.heap.size,1,none⟩=some (.string ⟨#[]⟩):=hU8.cell 1;have p2:w8.cell? ⟨w6.heap.size,2,none⟩=some (.string ⟨#[]⟩):=hU8.cell 2;have p3:w8.cell? ⟨w6.heap.size,3,none⟩=some (.string ⟨#[97,46,116,101,115,116]⟩):=hU8.cell 3;have p4:w8.cell? ⟨w6.heap.size,4,none⟩=some (.int .i64 80):=hU8.cell 4;have p5:w8.cell? ⟨w6.heap.size,5,none⟩=some (.string ⟨#[47]⟩):=hU8.cell 5;have p6:w8.cell? ⟨w6.heap.size,6,none⟩=some (.string ⟨#[]⟩):=hU8.cell 6;have p7:w8.cell? ⟨w6.heap.size,7,none⟩=some (.bool false):=hU8.cell 7;have p8:w8.cell? ⟨w6.heap.size,8,none⟩=some (.string ⟨#[]⟩):=hU8.cell 8;have p9:w8.cell? ⟨w6.heap.size,9,none⟩=some (.bool false):=hU8.cell 9;obtain⟨k0,k1,k2⟩:=fK w8 hb8;have ra:=r80 w8 hb8;clear r80;go_upto_region 9 with (go_at_call 14;refine ra.mono ?_;rintro e w9 ⟨rfl,hb9⟩;clear ra p0 p1 p2 p3 p4 p5 p6 p7 p8 p9 k0 k1 k2);obtain⟨w10,hw10⟩:∃W,w9.alloc (.cells #[.string ⟨#[104,116,116,112,115]⟩, .string ⟨#[]⟩, .string ⟨#[]⟩, .string ⟨#[97,46,116,101,115,116]⟩, .int .i64 (-1), .string ⟨#[47]⟩, .string ⟨#[]⟩, .bool false, .string ⟨#[]⟩, .bool false] 29)=W:=⟨_,rfl⟩;have hU10:UrlAt w9.heap.size ca1 w10:=by rw[←hw10];exact heap_alloc_new w9 _
 have hb910:Below w9.heap.size w9 w10:=by rw[←hw10];exact below_alloc w9 _
 have hU4x:=(hU8.on hb9).on hb910;have hb10:=below_nx (below_nx hb8 hb9) hb910;have hlt:=(hU8.on hb9).lt;rw[hw10];clear hw10 hb910 hU8 hb9 hb8;have c4:w10.cell? ⟨w6.heap.size,4,none⟩=some (.int .i64 80):=hU4x.cell 4;have f4:=hU4x.free 4;go_upto_region 10 with fail;obtain⟨w11,hw11⟩:∃W,w10.setCell ⟨w6.heap.size,4,none⟩ (.int .i64 81)=W:=⟨_,rfl⟩;have hU11:UrlAt w6.heap.size lv81 w11:=by rw[←hw11];exact hU4x.one 4 _ rfl
 have hV11:UrlAt w9.heap.size ca1 w11:=by rw[←hw11];exact hU10.far (by show w6.heap.size≠w9.heap.size;omega) _
 have hb11:Below w5.heap.size w5 w11:=by rw[←hw11];exact hb10.setCell (p:=⟨w6.heap.size,4,none⟩) hb6.size _
 rw[hw11];clear hw11 hU4x hU10 hb10 c4 f4 hlt;have p0:w11.cell? ⟨w6.heap.size,0,none⟩=some (.string ⟨#[104,116,116,112]⟩):=hU11.cell 0;have p1:w11.cell? ⟨w6.heap.size,1,none⟩=some (.string ⟨#[]⟩):=hU11.cell 1;have p2:w11.cell? ⟨w6.heap.size,2,none⟩=some (.string ⟨#[]⟩):=hU11.cell 2;have p3:w11.cell? ⟨w6.heap.size,3,none⟩=some (.string ⟨#[97,46,116,101,115,116]⟩):=hU11.cell 3;have p4:w11.cell? ⟨w6.heap.size,4,none⟩=some (.int .i64 81):=hU11.cell 4;have p5:w11.cell? ⟨w6.heap.size,5,none⟩=some (.string ⟨#[47]⟩):=hU11.cell 5;have p6:w11.cell? ⟨w6.heap.size,6,none⟩=some (.string ⟨#[]⟩):=hU11.cell 6;have p7:w11.cell? ⟨w6.heap.size,7,none⟩=some (.bool false):=hU11.cell 7;have p8:w11.cell? ⟨w6.heap.size,8,none⟩=some (.string ⟨#[]⟩):=hU11.cell 8;have p9:w11.cell? ⟨w6.heap.size,9,none⟩=some (.bool false):=hU11.cell 9;obtain⟨k0,k1,k2⟩:=fK w11 hb11;have ra:=r81 w11 hb11;clear r81;go_upto_region 11 with (go_at_call 14;refine ra.mono ?_;rintro e w12 ⟨rfl,hb12⟩;clear ra p0 p1 p2 p3 p4 p5 p6 p7 p8 p9 k0 k1 k2);obtain⟨w13,hw13⟩:∃W,w12.alloc (.cells #[.string ⟨#[104,116,116,112,115]⟩, .string ⟨#[]⟩, .string ⟨#[]⟩, .string ⟨#[97,46,116,101,115,116]⟩, .int .i64 81, .string ⟨#[47]⟩, .string ⟨#[]⟩, .bool false, .string ⟨#[]⟩, .bool false] 29)=W:=⟨_,rfl⟩;have hU13:UrlAt w12.heap.size lvr81 w13:=by rw[←hw13];exact heap_alloc_new w12 _
 have hb1213:Below w12.heap.size w12 w13:=by rw[←hw13];exact below_alloc w12 _
 have hV13:=(hV11.on hb12).on hb1213;have hb13:=below_nx (below_nx hb11 hb12) hb1213;rw[hw13];clear hw13 hb1213 hU11 hb12 hb11 hV11 hb6;obtain⟨k0,k1,k2⟩:=fK w13 hb13;have j1:=i1 w13 hb13;have FK:=Lib.hid fK;clear fK i1;have he:∀W,(binOp .eql 29 (.agg #[.string ⟨#[104,116,116,112,115]⟩, .string ⟨#[]⟩, .string ⟨#[]⟩, .string ⟨#[97,46,116,101,115,116]⟩, .int .i64 (-1), .string ⟨#[47]⟩, .string ⟨#[]⟩, .bool false, .string ⟨#[]⟩, .bool false]) (.agg #[.string ⟨#[104,116,116,112,115]⟩, .string ⟨#[]⟩, .string ⟨#[]⟩, .string ⟨#[97,46,116,101,115,116]⟩, .int .i64 (-1), .string ⟨#[47]⟩, .string ⟨#[]⟩, .bool false, .string ⟨#[]⟩, .bool false])).run Tryz.prog W= .ok (.bool true) W:=fun W=>by
  have h:=eq_urls ca1 ca1 W;rw[show eqU ca1 ca1=true from eqU_iff.2 rfl]at h;exact h
 have HB:=Lib.hid (And.intro hb13 (And.intro hU15 (And.intro hV13 hU13)));clear hU15 hV13 hU13;go_wp2_with(first
  |(go_at_call 13;refine j1.mono ?_;rintro e w14 ⟨rfl,hb14⟩;have hc14:=below_nx hb13 hb14;clear j1 k0 k1 k2 hb13;obtain⟨k0,k1,k2⟩:=FK.out w14 hc14;have j2:=i2 w14 hc14;clear i2)
  |(go_at_call 13;refine j2.mono ?_;rintro e w15 ⟨rfl,hb15⟩;have hc15:=below_nx hc14 hb15;have hd15:=below_nx hb14 hb15;clear j2 k0 k1 k2 hc14 hb14 hb15;obtain⟨k0,k1,k2⟩:=FK.out w15 hc15;have j3:=i3 w15 hc15;clear i3)
  |(go_at_call 13;refine j3.mono ?_;rintro e w16 ⟨rfl,hb16⟩;have hc16:=below_nx hc15 hb16;have hd16:=below_nx hd15 hb16;clear j3 k0 k1 k2 hc15 hd15 hb16;have hx:=HB.out.2.1.on hc16;have hy:=HB.out.2.2.1.on hd16;have hz:=HB.out.2.2.2.on hd16;have x0:w16.cell? ⟨w1.heap.size,0,none⟩=some (.string ⟨#[104,116,116,112,115]⟩):=hx.cell 0;have x1:w16.cell? ⟨w1.heap.size,1,none⟩=some (.string ⟨#[]⟩):=hx.cell 1;have x2:w16.cell? ⟨w1.heap.size,2,none⟩=some (.string ⟨#[]⟩):=hx.cell 2;have x3:w16.cell? ⟨w1.heap.size,3,none⟩=some (.string ⟨#[97,46,116,101,115,116]⟩):=hx.cell 3;have x4:w16.cell? ⟨w1.heap.size,4,none⟩=some (.int .i64 (-1)):=hx.cell 4;have x5:w16.cell? ⟨w1.heap.size,5,none⟩=some (.string ⟨#[47]⟩):=hx.cell 5;have x6:w16.cell? ⟨w1.heap.size,6,none⟩=some (.string ⟨#[]⟩):=hx.cell 6;have x7:w16.cell? ⟨w1.heap.size,7,none⟩=some (.bool false):=hx.cell 7;have x8:w16.cell? ⟨w1.heap.size,8,none⟩=some (.string ⟨#[]⟩):=hx.cell 8;have x9:w16.cell? ⟨w1.heap.size,9,none⟩=some (.bool false):=hx.cell 9;have y0:w16.cell? ⟨w9.heap.size,0,none⟩=some (.string ⟨#[104,116,116,112,115]⟩):=hy.cell 0;have y1:w16.cell? ⟨w9.heap.size,1,none⟩=some (.string ⟨#[]⟩):=hy.cell 1;have y2:w16.cell? ⟨w9.heap.size,2,none⟩=some (.string ⟨#[]⟩):=hy.cell 2;have y3:w16.cell? ⟨w9.heap.size,3,none⟩=some (.string ⟨#[97,46,116,101,115,116]⟩):=hy.cell 3;have y4:w16.cell? ⟨w9.heap.size,4,none⟩=some (.int .i64 (-1)):=hy.cell 4;have y5:w16.cell? ⟨w9.heap.size,5,none⟩=some (.string ⟨#[47]⟩):=hy.cell 5;have y6:w16.cell? ⟨w9.heap.size,6,none⟩=some (.string ⟨#[]⟩):=hy.cell 6;have y7:w16.cell? ⟨w9.heap.size,7,none⟩=some (.bool false):=hy.cell 7;have y8:w16.cell? ⟨w9.heap.size,8,none⟩=some (.string ⟨#[]⟩):=hy.cell 8;have y9:w16.cell? ⟨w9.heap.size,9,none⟩=some (.bool false):=hy.cell 9;have z0:w16.cell? ⟨w12.heap.size,0,none⟩=some (.string ⟨#[104,116,116,112,115]⟩):=hz.cell 0;have z4:w16.cell? ⟨w12.heap.size,4,none⟩=some (.int .i64 81):=hz.cell 4;clear hx hy hz))
 go_ret;exact⟨rfl,below_nx HH.out hc16⟩
theorem great16_any (a b:Value) (n:Int) (J:List CookieL) (S:List SealL) (w:World) (hJ:RowS 12 cellsK w a J) (hS:RowS 3 cellsS w b S) (lJ:J.length≤1048576) (lS:S.length≤1048576) (zJ:∀x∈J,ckN x≤562949953404928) (zS:∀x∈S,slN x≤562949953404928):
 Calls Tryz.prog 8 #[keepV a b n] w fun e w'=>e= .returned (.bool (decide (60000<keepN J S)))∧Below w.heap.size w w':=by
 obtain⟨W0,hW0⟩:∃W,w.alloc (.cells #[a,b, .int .i64 n] 25)=W:=⟨_,rfl⟩
 have hb0:Below w.heap.size w W0:=by rw[←hW0];exact below_alloc w _
 have hB0:W0.heap[w.heap.size]?=some (.cells #[a,b, .int .i64 n] 25 (0,0)):=by rw[←hW0];exact heap_alloc_new w _
 have ck:=keepsize_any a b n J S W0 (hJ.below hb0 (Nat.le_refl _)) (hS.below hb0 (Nat.le_refl _)) (by omega) (by omega) zJ zS
 obtain⟨a1,a2,a3,rfl, -, -⟩:=hJ.conc
 obtain⟨b1,b2,b3,rfl, -, -⟩:=hS.conc
 have c0:W0.cell? ⟨w.heap.size,0,none⟩=some (.slice a1 a2 a3):=by rw[Lib.cell_of_heap hB0];rfl
 have c1:W0.cell? ⟨w.heap.size,1,none⟩=some (.slice b1 b2 b3):=by rw[Lib.cell_of_heap hB0];rfl
 have c2:W0.cell? ⟨w.heap.size,2,none⟩=some (.int .i64 n):=by rw[Lib.cell_of_heap hB0];rfl
 have HW:=Lib.hid hW0
 clear hW0 hB0 hJ hS zJ zS lJ lS
 generalize keepN J S=N at*
 have e1:decide (60000<N)=decide ((60000:Int)<(N:Int)):=decide_eq_decide.2 (by omega)
 unfold keepV at ck⊢
 go_enter Tryz.func8,Tryz.ntmps8
 go_upto_region 1 with fail
 rw[HW.out]
 clear HW
 go_wp2_with(go_at_call 23;refine ck.mono ?_;rintro e w1 ⟨rfl,hb1⟩)
 go_ret
 exact⟨by rw[e1];rfl,below_nx hb0 hb1⟩
def wishC (a b:Value) (kn g:Int) (q:Bool) (u:UrlL) (now:Int):List Value:=[a,b, .int .i64 kn, .int .i64 g, .bool q, .string ⟨u.scheme.toArray⟩, .string ⟨u.user.toArray⟩, .string ⟨u.pass.toArray⟩, .string ⟨u.host.toArray⟩, .int .i64 u.port, .string ⟨u.path.toArray⟩, .string ⟨u.query.toArray⟩, .bool u.hasQ, .string ⟨u.mark.toArray⟩, .bool u.hasM, .int .i64 now]
open Go.RowKit Go.WideShapes Go.ChangeShapes
section
variable {H:Type} {enc:TypeId×Value→H} {W:World} {K:Nat}
structure SizC (K:Nat) (c:CookieL):Prop where
 name:LenK K c.name
 value:LenK K c.value
 host:LenK K c.host
 path:LenK K c.path
theorem SizC.low {c:CookieL} (h:SizC 1048576 c):ckN c≤562949953404928:=by
 have h1:=h.name.2;have h2:=h.value.2;have h3:=h.host.2;have h4:=h.path.2;unfold ckN;omega
def CkR (K:Nat) (cs:List Value):Prop:=∃c:CookieL,cs=cellsK c∧SizC K c
set_option maxRecDepth 20000 in
theorem opens_CkR:Opens enc Tryz.prog W K 42 (CkR K):=by
 refine(opens_struct Tryz.underlying42 (fun i=>match i with|0=>StrR K|1=>StrR K|2=>StrR K|3=>BoolR|4=>StrR K|5=>BoolR|6=>BoolR|7=>IntR .u8|8=>IntR .i64|9=>IntR .i64|10=>IntR .i64|_=>IntR .i64) (fun i f hi=> ?_)).mono fun cs ⟨hl,h⟩=> ?_
 ·match i,hi with
  |0,hi=>injection hi with hi;subst hi;exact opens_string Tryz.underlying9
  |1,hi=>injection hi with hi;subst hi;exact opens_string Tryz.underlying9
  |2,hi=>injection hi with hi;subst hi;exact opens_string Tryz.underlying9
  |3,hi=>injection hi with hi;subst hi;exact opens_bool Tryz.underlying4
  |4,hi=>injection hi with hi;subst hi;exact opens_string Tryz.underlying9
  |5,hi=>injection hi with hi;subst hi;exact opens_bool Tryz.underlying4
  |6,hi=>injection hi with hi;subst hi;exact opens_bool Tryz.underlying4
  |7,hi=>injection hi with hi;subst hi;exact opens_int Tryz.underlying40
  |8,hi=>injection hi with hi;subst hi;exact opens_int Tryz.underlying3
  |9,hi=>injection hi with hi;subst hi;exact opens_int Tryz.underlying3
  |10,hi=>injection hi with hi;subst hi;exact opens_int Tryz.underlying3
  |11,hi=>injection hi with hi;subst hi;exact opens_int Tryz.underlying3
  |_+12,hi=>simp at hi
 ·have l0:Tryz.prog.cellsOf 9=1:=by kernel_rfl
  have l1:Tryz.prog.cellsOf 4=1:=by kernel_rfl
  have l2:Tryz.prog.cellsOf 40=1:=by kernel_rfl
  have l3:Tryz.prog.cellsOf 3=1:=by kernel_rfl
  have q0:StrR K ((cs.drop 0).take (Tryz.prog.cellsOf 9)):=h 0 _ rfl;rw[l0]at q0;obtain⟨s0,e0,z0⟩:=q0;have q1:StrR K ((cs.drop 1).take (Tryz.prog.cellsOf 9)):=h 1 _ rfl;rw[l0]at q1;obtain⟨s1,e1,z1⟩:=q1;have q2:StrR K ((cs.drop 2).take (Tryz.prog.cellsOf 9)):=h 2 _ rfl;rw[l0]at q2;obtain⟨s2,e2,z2⟩:=q2;have q3:BoolR ((cs.drop 3).take (Tryz.prog.cellsOf 4)):=h 3 _ rfl;rw[l1]at q3;obtain⟨s3,e3⟩:=q3;have q4:StrR K ((cs.drop 4).take (Tryz.prog.cellsOf 9)):=h 4 _ rfl;rw[l0]at q4;obtain⟨s4,e4,z4⟩:=q4;have q5:BoolR ((cs.drop 5).take (Tryz.prog.cellsOf 4)):=h 5 _ rfl;rw[l1]at q5;obtain⟨s5,e5⟩:=q5;have q6:BoolR ((cs.drop 6).take (Tryz.prog.cellsOf 4)):=h 6 _ rfl;rw[l1]at q6;obtain⟨s6,e6⟩:=q6;have q7:IntR .u8 ((cs.drop 7).take (Tryz.prog.cellsOf 40)):=h 7 _ rfl;rw[l2]at q7;obtain⟨s7,e7,z7⟩:=q7;have q8:IntR .i64 ((cs.drop 8).take (Tryz.prog.cellsOf 3)):=h 8 _ rfl;rw[l3]at q8;obtain⟨s8,e8,z8⟩:=q8;have q9:IntR .i64 ((cs.drop 9).take (Tryz.prog.cellsOf 3)):=h 9 _ rfl;rw[l3]at q9;obtain⟨s9,e9,z9⟩:=q9;have q10:IntR .i64 ((cs.drop 10).take (Tryz.prog.cellsOf 3)):=h 10 _ rfl;rw[l3]at q10;obtain⟨s10,e10,z10⟩:=q10;have q11:IntR .i64 ((cs.drop 11).take (Tryz.prog.cellsOf 3)):=h 11 _ rfl;rw[l3]at q11;obtain⟨s11,e11,z11⟩:=q11;have hc:Tryz.prog.cellsOf 42=12:=by kernel_rfl
  rw[hc]at hl;have e:cs=(cs.drop 0).take (1+(1+(1+(1+(1+(1+(1+(1+(1+(1+(1+(1)))))))))))):=by rw[List.drop_zero];exact(List.take_of_length_le (by rw[hl];decide)).symm
  rw[take_two,take_two,take_two,take_two,take_two,take_two,take_two,take_two,take_two,take_two,take_two]at e;simp only[Nat.zero_add,Nat.reduceAdd]at e;rw[e0,e1,e2,e3,e4,e5,e6,e7,e8,e9,e10,e11]at e;rw[e];exact⟨⟨s0,s1,s2,s3,s4,s5,s6,s7,s8,s9,s10,s11⟩,rfl,z0,z1,z2,z4⟩
def SlR (K:Nat) (cs:List Value):Prop:=∃c:SealL,cs=cellsS c∧LenK K c.host
set_option maxRecDepth 20000 in
theorem opens_SlR:Opens enc Tryz.prog W K 44 (SlR K):=by
 refine(opens_struct Tryz.underlying44 (fun i=>match i with|0=>StrR K|1=>BoolR|_=>IntR .i64) (fun i f hi=> ?_)).mono fun cs ⟨hl,h⟩=> ?_
 ·match i,hi with
  |0,hi=>injection hi with hi;subst hi;exact opens_string Tryz.underlying9
  |1,hi=>injection hi with hi;subst hi;exact opens_bool Tryz.underlying4
  |2,hi=>injection hi with hi;subst hi;exact opens_int Tryz.underlying3
  |_+3,hi=>simp at hi
 ·have l0:Tryz.prog.cellsOf 9=1:=by kernel_rfl
  have l1:Tryz.prog.cellsOf 4=1:=by kernel_rfl
  have l2:Tryz.prog.cellsOf 3=1:=by kernel_rfl
  have q0:StrR K ((cs.drop 0).take (Tryz.prog.cellsOf 9)):=h 0 _ rfl;rw[l0]at q0;obtain⟨s0,e0,z0⟩:=q0;have q1:BoolR ((cs.drop 1).take (Tryz.prog.cellsOf 4)):=h 1 _ rfl;rw[l1]at q1;obtain⟨s1,e1⟩:=q1;have q2:IntR .i64 ((cs.drop 2).take (Tryz.prog.cellsOf 3)):=h 2 _ rfl;rw[l2]at q2;obtain⟨s2,e2,z2⟩:=q2;have hc:Tryz.prog.cellsOf 44=3:=by kernel_rfl
  rw[hc]at hl;have e:cs=(cs.drop 0).take (1+(1+(1))):=by rw[List.drop_zero];exact(List.take_of_length_le (by rw[hl];decide)).symm
  rw[take_two,take_two]at e;simp only[Nat.zero_add,Nat.reduceAdd]at e;rw[e0,e1,e2]at e;rw[e];exact⟨⟨s0,s1,s2⟩,rfl,z0⟩
def CksR (W:World) (K:Nat) (cs:List Value):Prop:=∃v X,cs=[v]∧RowS 12 cellsK W v X∧(∀x∈X,SizC K x)∧X.length≤K
theorem opens_CksR:Opens enc Tryz.prog W K 22 (CksR W K):=
 (opens_slice (z:=12) (en:=cellsK) (S:=SizC K) Tryz.underlying22 (by kernel_rfl) (by omega) (fun _=>rfl) opens_CkR).mono fun cs ⟨v,X,e,h1,h2,h3,h4⟩=>⟨v,X,e,h1,h2,h4⟩
def SlsR (W:World) (K:Nat) (cs:List Value):Prop:=∃v X,cs=[v]∧RowS 3 cellsS W v X∧(∀x∈X,LenK K x.host)∧X.length≤K
theorem opens_SlsR:Opens enc Tryz.prog W K 23 (SlsR W K):=
 (opens_slice (z:=3) (en:=cellsS) (S:=fun x=>LenK K x.host) Tryz.underlying23 (by kernel_rfl) (by omega) (fun _=>rfl) opens_SlR).mono fun cs ⟨v,X,e,h1,h2,h3,h4⟩=>⟨v,X,e,h1,h2,h4⟩
def KeepR (W:World) (K:Nat) (cs:List Value):Prop:=∃(a b:Value) (n:Int) (J:List CookieL) (S:List SealL),cs=[a,b, .int .i64 n]∧(RowS 12 cellsK W a J∧(∀x∈J,SizC K x)∧J.length≤K)∧RowS 3 cellsS W b S∧(∀x∈S,LenK K x.host)∧S.length≤K
set_option maxRecDepth 20000 in
theorem opens_KeepR:Opens enc Tryz.prog W K 25 (KeepR W K):=by
 refine(opens_struct Tryz.underlying25 (fun i=>match i with|0=>CksR W K|1=>SlsR W K|_=>IntR .i64) (fun i f hi=> ?_)).mono fun cs ⟨hl,h⟩=> ?_
 ·match i,hi with
  |0,hi=>injection hi with hi;subst hi;exact opens_CksR
  |1,hi=>injection hi with hi;subst hi;exact opens_SlsR
  |2,hi=>injection hi with hi;subst hi;exact opens_int Tryz.underlying3
  |_+3,hi=>simp at hi
 ·have l0:Tryz.prog.cellsOf 22=1:=by kernel_rfl
  have l1:Tryz.prog.cellsOf 23=1:=by kernel_rfl
  have l2:Tryz.prog.cellsOf 3=1:=by kernel_rfl
  have q0:CksR W K ((cs.drop 0).take (Tryz.prog.cellsOf 22)):=h 0 _ rfl;rw[l0]at q0;obtain⟨v0,L0,e0,z0⟩:=q0;have q1:SlsR W K ((cs.drop 1).take (Tryz.prog.cellsOf 23)):=h 1 _ rfl;rw[l1]at q1;obtain⟨v1,L1,e1,z1⟩:=q1;have q2:IntR .i64 ((cs.drop 2).take (Tryz.prog.cellsOf 3)):=h 2 _ rfl;rw[l2]at q2;obtain⟨s2,e2,z2⟩:=q2;have hc:Tryz.prog.cellsOf 25=3:=by kernel_rfl
  rw[hc]at hl;have e:cs=(cs.drop 0).take (1+(1+(1))):=by rw[List.drop_zero];exact(List.take_of_length_le (by rw[hl];decide)).symm
  rw[take_two,take_two]at e;simp only[Nat.zero_add,Nat.reduceAdd]at e;rw[e0,e1,e2]at e;rw[e];exact⟨v0,v1,s2,L0,L1,rfl,z0,z1⟩
def WishR (cs:List Value):Prop:=∃(g:Int) (q:Bool),cs=[.int .i64 g, .bool q]
set_option maxRecDepth 20000 in
theorem opens_WishR:Opens enc Tryz.prog W K 27 WishR:=by
 refine(opens_struct Tryz.underlying27 (fun i=>match i with|0=>IntR .i64|_=>BoolR) (fun i f hi=> ?_)).mono fun cs ⟨hl,h⟩=> ?_
 ·match i,hi with
  |0,hi=>injection hi with hi;subst hi;exact opens_int Tryz.underlying3
  |1,hi=>injection hi with hi;subst hi;exact opens_bool Tryz.underlying4
  |_+2,hi=>simp at hi
 ·have l0:Tryz.prog.cellsOf 3=1:=by kernel_rfl
  have l1:Tryz.prog.cellsOf 4=1:=by kernel_rfl
  have q0:IntR .i64 ((cs.drop 0).take (Tryz.prog.cellsOf 3)):=h 0 _ rfl;rw[l0]at q0;obtain⟨s0,e0,z0⟩:=q0;have q1:BoolR ((cs.drop 1).take (Tryz.prog.cellsOf 4)):=h 1 _ rfl;rw[l1]at q1;obtain⟨s1,e1⟩:=q1;have hc:Tryz.prog.cellsOf 27=2:=by kernel_rfl
  rw[hc]at hl;have e:cs=(cs.drop 0).take (1+(1)):=by rw[List.drop_zero];exact(List.take_of_length_le (by rw[hl];decide)).symm
  rw[take_two]at e;simp only[Nat.zero_add,Nat.reduceAdd]at e;rw[e0,e1]at e;rw[e];exact⟨s0,s1,rfl⟩
def WishingR (W:World) (K:Nat) (cs:List Value):Prop:=∃(a b:Value) (n g:Int) (q:Bool) (u:UrlL) (now:Int) (J:List CookieL) (S:List SealL),cs=wishC a b n g q u now∧(RowS 12 cellsK W a J∧(∀x∈J,SizC K x)∧J.length≤K)∧(RowS 3 cellsS W b S∧(∀x∈S,LenK K x.host)∧S.length≤K)∧SizU K u
set_option maxRecDepth 20000 in
theorem opens_WishingR:Opens enc Tryz.prog W K 31 (WishingR W K):=by
 refine(opens_struct Tryz.underlying31 (fun i=>match i with|0=>KeepR W K|1=>WishR|2=>UrlR K|_=>IntR .i64) (fun i f hi=> ?_)).mono fun cs ⟨hl,h⟩=> ?_
 ·match i,hi with
  |0,hi=>injection hi with hi;subst hi;exact opens_KeepR
  |1,hi=>injection hi with hi;subst hi;exact opens_WishR
  |2,hi=>injection hi with hi;subst hi;exact opens_UrlR
  |3,hi=>injection hi with hi;subst hi;exact opens_int Tryz.underlying3
  |_+4,hi=>simp at hi
 ·have l0:Tryz.prog.cellsOf 25=3:=by kernel_rfl
  have l1:Tryz.prog.cellsOf 27=2:=by kernel_rfl
  have l2:Tryz.prog.cellsOf 29=10:=by kernel_rfl
  have l3:Tryz.prog.cellsOf 3=1:=by kernel_rfl
  have q0:KeepR W K ((cs.drop 0).take (Tryz.prog.cellsOf 25)):=h 0 _ rfl;rw[l0]at q0;obtain⟨a0,b0,n0,J0,S0,e0,z0⟩:=q0;have q1:WishR ((cs.drop 3).take (Tryz.prog.cellsOf 27)):=h 1 _ rfl;rw[l1]at q1;obtain⟨g1,q1,e1⟩:=q1;have q2:UrlR K ((cs.drop 5).take (Tryz.prog.cellsOf 29)):=h 2 _ rfl;rw[l2]at q2;obtain⟨s2,e2,z2⟩:=q2;have q3:IntR .i64 ((cs.drop 15).take (Tryz.prog.cellsOf 3)):=h 3 _ rfl;rw[l3]at q3;obtain⟨s3,e3,z3⟩:=q3;have hc:Tryz.prog.cellsOf 31=16:=by kernel_rfl
  rw[hc]at hl;have e:cs=(cs.drop 0).take (3+(2+(10+(1)))):=by rw[List.drop_zero];exact(List.take_of_length_le (by rw[hl];decide)).symm
  rw[take_two,take_two,take_two]at e;simp only[Nat.zero_add,Nat.reduceAdd]at e;rw[e0,e1,e2,e3]at e;rw[e];exact⟨a0,b0,n0,g1,q1,s2,s3,J0,S0,rfl,z0.1,z0.2,z2⟩
end
end Go.Proofs.YtjkipdoebkhkaaaGreatDoor
