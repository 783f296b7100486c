/- urls.Port. -/
import Derived.Test.YtlcnknlmdaochaaGreatDoorGUrl5
import Derived.Test.YtlcnknlmdaochaaGreatDoorGRU1
set_option linter.unusedVariables false
set_option linter.unusedSimpArgs false
set_option maxHeartbeats 16000000
namespace Go.Proofs.YtlcnknlmdaochaaGreatDoor
open Go.RowKit
def portN (u:UrlL):Int:=if 0≤u.port then u.port else ownP u.scheme
set_option maxRecDepth 100000 in
theorem portn_u (u:UrlL) (w:World):
 Calls Tryz.prog 21 #[urlV u] w fun e w'=>e= .returned (.int .i64 (portN u))∧Below w.heap.size w w':=by
 have hb:=(Below.refl w.heap.size w).alloc (Nat.le_refl _) (.cells (cellsU u).toArray 23)
 have ht:portN u=if 0≤u.port then u.port else (ownP u.scheme:Int):=rfl
 have HB:=Lib.hid hb
 clear hb
 unfold urlV
 by_cases hp:0≤u.port
 ·rw[if_pos hp]at ht
  have HT:=Lib.hid ht;clear ht;go_enter Tryz.func21,Tryz.ntmps21;go_wp2_with fail;go_ret;exact⟨by rw[HT.out];rfl,HB.out⟩
 ·rw[if_neg hp]at ht
  have HT:=Lib.hid ht;have co:=own_p u.scheme;clear ht;go_enter Tryz.func21,Tryz.ntmps21;go_wp2_with(go_at_call 64;refine(co _).mono ?_;rintro e w2 ⟨rfl,rfl⟩);go_ret;exact⟨by rw[HT.out];rfl,HB.out⟩
theorem beyond_any (ns:List Nat) (w:World) (ad:Nat) (hl:ns.length≤1000) (hc:∀k:Nat,k<ns.length→w.cell? ⟨ad,k,none⟩=some (.int .i64 (ns.getD k 0:Nat))) (hn:∀k:Nat,k<ns.length→ns.getD k 0≤4611686018427387904):
 Calls Tryz.prog 15 #[.slice (some ⟨ad,0,none⟩) ns.length ns.length] w fun e w'=>e= .returned (.bool (decide (1048576<ns.sum)))∧w=w':=by
 have Hc:=Lib.hid hc
 clear hc
 go_enter Tryz.func15,Tryz.ntmps15
 go_wp2
 go_loop [3,4] (fun t i=>∃k m:Nat,k≤ns.length∧i= .int .i64 k∧t= .int .i64 m∧Hid (m=(ns.take k).sum)∧m≤1048576) (fun _ i=>ns.length-(intOf i).toNat)
 case atStart=>exact⟨0,0,Nat.zero_le _,rfl,rfl,rfl,by omega⟩
 case round=>
  obtain⟨k,m,hk,rfl,rfl,Hm,hm⟩:=hrel;by_cases hlt:k<ns.length
  ·have h1:=Hc.out k hlt
   have h2:=hn k hlt;have e1:(ns.take (k+1)).sum=(ns.take k).sum+ns.getD k 0:=by
    rw[List.take_succ_eq_append_getElem hlt,List.sum_append];simp[hlt]
   have e2:(ns.take (k+1)).sum+(ns.drop (k+1)).sum=ns.sum:=by rw[←List.sum_append,List.take_append_drop]
   have E1:=Lib.hid e1;have E2:=Lib.hid e2;clear e1 e2;generalize ns.getD k 0=x at*;go_wp2
   all_goals first
    |(go_round
      case rel=>exact⟨k+1,m+x,by omega,by go_num,by go_num,by show _=_;rw[E1.out,←Hm.out],by omega⟩
      case measure=>simp[intOf];omega)
    |(go_ret;refine⟨ret_bool ?_,rfl⟩;go_light;have:=E1.out;have:=E2.out;have:=Hm.out;simp;omega)
  ·obtain rfl:k=ns.length:=by omega
   go_wp2;go_ret;refine⟨ret_bool ?_,rfl⟩;have:=Hm.out;rw[List.take_length]at this;simp;omega
def keyV (u:UrlL):Value:= .agg #[.bool (u.scheme==httpsB), .string ⟨u.host.toArray⟩, .int .i64 (portN u)]
set_option maxRecDepth 100000 in
theorem key_results {K:Nat} {W:World} {a b c:Value} {tmps:Array Value} (hk:W.heap[K]?=some (.cells #[a,b,c] 29 (0,0))) (h2:tmps[2]?.getD undef= .pointer (some ⟨K,0,none⟩)):
 (results Tryz.f25 tmps).run Tryz.prog W= .ok (.agg #[a,b,c]) W:=by
 have c0:W.cell? ⟨K,0,none⟩=some a:=by rw[Lib.cell_of_heap hk];rfl
 have c1:W.cell? ⟨K,1,none⟩=some b:=by rw[Lib.cell_of_heap hk];rfl
 have c2:W.cell? ⟨K,2,none⟩=some c:=by rw[Lib.cell_of_heap hk];rfl
 simp[results,Tryz.results25,go_sem,h2,c0,c1,c2]
theorem key_put {K n:Nat} {w0 W:World} {a b c x y z:Value} (hk:W.heap[K]?=some (.cells #[a,b,c] 29 (0,0))) (hb:Below n w0 W) (hn:n≤K):
 (((W.setCell ⟨K,0,none⟩ x).setCell ⟨K,1,none⟩ y).setCell ⟨K,2,none⟩ z).heap[K]?=some (.cells #[x,y,z] 29 (0,0))∧Below n w0 (((W.setCell ⟨K,0,none⟩ x).setCell ⟨K,1,none⟩ y).setCell ⟨K,2,none⟩ z):=by
 have h1:(W.setCell ⟨K,0,none⟩ x).heap[K]?=some (.cells #[x,b,c] 29 (0,0)):=by rw[heap_setCell_in hk];rfl
 have h2:((W.setCell ⟨K,0,none⟩ x).setCell ⟨K,1,none⟩ y).heap[K]?=some (.cells #[x,y,c] 29 (0,0)):=by rw[heap_setCell_in h1];rfl
 exact⟨by rw[heap_setCell_in h2];rfl,((hb.setCell (p:=⟨K,0,none⟩) hn _).setCell (p:=⟨K,1,none⟩) hn _).setCell (p:=⟨K,2,none⟩) hn _⟩
set_option maxRecDepth 100000 in
theorem key_u (u:UrlL) (w:World):Calls Tryz.prog 25 #[urlV u] w fun e w'=>e= .returned (keyV u)∧Below w.heap.size w w':=by
 obtain⟨w1,hw1⟩:∃w1,w.alloc (.cells #[.string ⟨u.scheme.toArray⟩, .string ⟨u.user.toArray⟩, .string ⟨u.pass.toArray⟩, .string ⟨u.host.toArray⟩, .int .i64 u.port, .string ⟨u.path.toArray⟩, .string ⟨u.query.toArray⟩, .bool u.hasQ, .string ⟨u.mark.toArray⟩, .bool u.hasM] 23)=w1:=⟨_,rfl⟩;have hb1:Below w.heap.size w w1:=by rw[←hw1];exact below_alloc w _
 have hU1:UrlAt w.heap.size u w1:=by rw[←hw1];exact heap_alloc_new w _
 have hlt:=hU1.lt;have cp:=fun W=>portn_u u W
 have hk0:(w1.alloc (.cells #[.bool false, .string ⟨#[]⟩, .int .i64 0] 29)).heap[w1.heap.size]?=some (.cells #[.bool false, .string ⟨#[]⟩, .int .i64 0] 29 (0,0)):=heap_alloc_new w1 _;have hbk:=below_alloc w1 (.cells #[.bool false, .string ⟨#[]⟩, .int .i64 0] 29);have hlk:w1.heap.size<(w1.alloc (.cells #[.bool false, .string ⟨#[]⟩, .int .i64 0] 29)).heap.size:=by rw[World.size_alloc];omega
 obtain⟨p0,p1,p2,p3,p4,p5,p6,p7,p8,p9⟩:=UrlAt.cells hU1;have key:∀w3,Below (w1.alloc (.cells #[.bool false, .string ⟨#[]⟩, .int .i64 0] 29)).drew.heap.size (w1.alloc (.cells #[.bool false, .string ⟨#[]⟩, .int .i64 0] 29)).drew w3→Below w.heap.size w w3∧UrlAt w.heap.size u w3∧w3.heap[w1.heap.size]?=some (.cells #[.bool false, .string ⟨#[]⟩, .int .i64 0] 29 (0,0)):=fun w3 hb3=>by
  have hb4:Below w1.heap.size w1 w3:=hbk.drew.trans (hb3.mono (Nat.le_of_lt hlk));exact⟨hb1.trans (hb4.mono hb1.size),(hb4.block _ hlt).trans hU1,(hb3.block w1.heap.size hlk).trans hk0⟩
 unfold urlV at cp⊢;go_enter Tryz.func25,Tryz.ntmps25;go_wp2_with fail;go_region_with(go_at_call 21;refine(cp _).mono ?_;rintro e w3 ⟨rfl,hb3⟩;obtain⟨hb4,hU3,hk3⟩:=key _ hb3;have u0:=hU3.cell 0;have u3:=hU3.cell 3;have x0:=Lib.cell_of_heap hk3 0;have x1:=Lib.cell_of_heap hk3 1;have x2:=Lib.cell_of_heap hk3 2;have y0:=Lib.frozen_of_heap hk3 0;have y1:=Lib.frozen_of_heap hk3 1;have y2:=Lib.frozen_of_heap hk3 2;simp[cellsU]at u0 u3 x0 x1 x2)
 all_goals
  clear x0 x1 x2 y0 y1 y2 u0 u3 hb3;go_wp2_with fail;obtain⟨r1,r2⟩:=key_put (x:= .bool (u.scheme==[104,116,116,112,115])) (y:= .string ⟨u.host.toArray⟩) (z:= .int .i64 (portN u)) hk3 hb4 hb1.size;exact⟨rfl,_,key_results r1 rfl,rfl,r2⟩
attribute [local go_sem] jo_quest ba_append
set_option maxRecDepth 100000 in
theorem rtarget_u (u:UrlL) (w:World) (hs:sizeU u≤4000000000):
 Calls Tryz.prog 24 #[urlV u] w fun e w'=>e= .returned (.string ⟨(targetU u).toArray⟩)∧Below w.heap.size w w':=by
 have hb:=(Below.refl w.heap.size w).alloc (Nat.le_refl _) (.cells (cellsU u).toArray 23)
 have ht:targetU u=if u.hasQ=true then u.path++63::u.query else u.path:=rfl
 have h1:¬9223372036854775807<u.path.length+1:=by unfold sizeU at hs;omega
 have h2:¬9223372036854775807<(u.path++[63]).length+u.query.length:=by unfold sizeU at hs;simp;omega
 have h3:¬9223372036854775807<u.path.length+1+u.query.length:=by unfold sizeU at hs;omega
 have h4:¬9223372036854775807<u.path.length+(u.query.length+1):=by unfold sizeU at hs;omega
 unfold urlV
 cases hq:u.hasQ with
 |true=>
  rw[hq]at ht;have HT:=Lib.hid ht;clear ht;go_enter Tryz.func24,Tryz.ntmps24;go_wp2_with fail;go_ret;exact⟨by rw[HT.out];simp,by rw[cellsU,hq]at hb;exact hb⟩
 |false=>
  rw[hq]at ht;have HT:=Lib.hid ht;clear ht;go_enter Tryz.func24,Tryz.ntmps24;go_wp2_with fail;go_ret;exact⟨by rw[HT.out];rfl,by rw[cellsU,hq]at hb;exact hb⟩
set_option maxRecDepth 100000 in
theorem rportn_u (u:UrlL) (w:World):
 Calls Tryz.prog 22 #[urlV u] w fun e w'=>e= .returned (.int .i64 (portN u))∧Below w.heap.size w w':=by
 have hb:=(Below.refl w.heap.size w).alloc (Nat.le_refl _) (.cells (cellsU u).toArray 23)
 have ht:portN u=if 0≤u.port then u.port else (ownP u.scheme:Int):=rfl
 have HB:=Lib.hid hb
 clear hb
 unfold urlV
 by_cases hp:0≤u.port
 ·rw[if_pos hp]at ht
  have HT:=Lib.hid ht;clear ht;go_enter Tryz.func22,Tryz.ntmps22;go_wp2_with fail;go_ret;exact⟨by rw[HT.out];rfl,HB.out⟩
 ·rw[if_neg hp]at ht
  have HT:=Lib.hid ht;have co:=rown_p u.scheme;clear ht;go_enter Tryz.func22,Tryz.ntmps22;go_wp2_with(go_at_call 65;refine(co _).mono ?_;rintro e w2 ⟨rfl,rfl⟩);go_ret;exact⟨by rw[HT.out];rfl,HB.out⟩
set_option maxRecDepth 100000 in
theorem rkey_results {K:Nat} {W:World} {a b c:Value} {tmps:Array Value} (hk:W.heap[K]?=some (.cells #[a,b,c] 29 (0,0))) (h2:tmps[2]?.getD undef= .pointer (some ⟨K,0,none⟩)):
 (results Tryz.f26 tmps).run Tryz.prog W= .ok (.agg #[a,b,c]) W:=by
 have c0:W.cell? ⟨K,0,none⟩=some a:=by rw[Lib.cell_of_heap hk];rfl
 have c1:W.cell? ⟨K,1,none⟩=some b:=by rw[Lib.cell_of_heap hk];rfl
 have c2:W.cell? ⟨K,2,none⟩=some c:=by rw[Lib.cell_of_heap hk];rfl
 simp[results,Tryz.results26,go_sem,h2,c0,c1,c2]
set_option maxRecDepth 100000 in
theorem rkey_u (u:UrlL) (w:World):Calls Tryz.prog 26 #[urlV u] w fun e w'=>e= .returned (keyV u)∧Below w.heap.size w w':=by
 obtain⟨w1,hw1⟩:∃w1,w.alloc (.cells #[.string ⟨u.scheme.toArray⟩, .string ⟨u.user.toArray⟩, .string ⟨u.pass.toArray⟩, .string ⟨u.host.toArray⟩, .int .i64 u.port, .string ⟨u.path.toArray⟩, .string ⟨u.query.toArray⟩, .bool u.hasQ, .string ⟨u.mark.toArray⟩, .bool u.hasM] 23)=w1:=⟨_,rfl⟩;have hb1:Below w.heap.size w w1:=by rw[←hw1];exact below_alloc w _
 have hU1:UrlAt w.heap.size u w1:=by rw[←hw1];exact heap_alloc_new w _
 have hlt:=hU1.lt;have cp:=fun W=>rportn_u u W
 have hk0:(w1.alloc (.cells #[.bool false, .string ⟨#[]⟩, .int .i64 0] 29)).heap[w1.heap.size]?=some (.cells #[.bool false, .string ⟨#[]⟩, .int .i64 0] 29 (0,0)):=heap_alloc_new w1 _;have hbk:=below_alloc w1 (.cells #[.bool false, .string ⟨#[]⟩, .int .i64 0] 29);have hlk:w1.heap.size<(w1.alloc (.cells #[.bool false, .string ⟨#[]⟩, .int .i64 0] 29)).heap.size:=by rw[World.size_alloc];omega
 obtain⟨p0,p1,p2,p3,p4,p5,p6,p7,p8,p9⟩:=UrlAt.cells hU1;have key:∀w3,Below (w1.alloc (.cells #[.bool false, .string ⟨#[]⟩, .int .i64 0] 29)).drew.heap.size (w1.alloc (.cells #[.bool false, .string ⟨#[]⟩, .int .i64 0] 29)).drew w3→Below w.heap.size w w3∧UrlAt w.heap.size u w3∧w3.heap[w1.heap.size]?=some (.cells #[.bool false, .string ⟨#[]⟩, .int .i64 0] 29 (0,0)):=fun w3 hb3=>by
  have hb4:Below w1.heap.size w1 w3:=hbk.drew.trans (hb3.mono (Nat.le_of_lt hlk));exact⟨hb1.trans (hb4.mono hb1.size),(hb4.block _ hlt).trans hU1,(hb3.block w1.heap.size hlk).trans hk0⟩
 unfold urlV at cp⊢;go_enter Tryz.func26,Tryz.ntmps26;go_wp2_with fail;go_region_with(go_at_call 22;refine(cp _).mono ?_;rintro e w3 ⟨rfl,hb3⟩;obtain⟨hb4,hU3,hk3⟩:=key _ hb3;have u0:=hU3.cell 0;have u3:=hU3.cell 3;have x0:=Lib.cell_of_heap hk3 0;have x1:=Lib.cell_of_heap hk3 1;have x2:=Lib.cell_of_heap hk3 2;have y0:=Lib.frozen_of_heap hk3 0;have y1:=Lib.frozen_of_heap hk3 1;have y2:=Lib.frozen_of_heap hk3 2;simp[cellsU]at u0 u3 x0 x1 x2)
 all_goals
  clear x0 x1 x2 y0 y1 y2 u0 u3 hb3;go_wp2_with fail;obtain⟨r1,r2⟩:=key_put (x:= .bool (u.scheme==[104,116,116,112,115])) (y:= .string ⟨u.host.toArray⟩) (z:= .int .i64 (portN u)) hk3 hb4 hb1.size;exact⟨rfl,_,rkey_results r1 rfl,rfl,r2⟩
end Go.Proofs.YtlcnknlmdaochaaGreatDoor
