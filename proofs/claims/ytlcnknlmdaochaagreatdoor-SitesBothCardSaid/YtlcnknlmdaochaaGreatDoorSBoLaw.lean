/- The law SitesBoth walked. -/
import Derived.Test.YtlcnknlmdaochaaGreatDoorGSit2
import Derived.Test.YtlcnknlmdaochaaGreatDoorGSu5
set_option linter.unusedVariables false
set_option linter.unusedSimpArgs false
set_option maxHeartbeats 16000000
namespace Go.Proofs.YtlcnknlmdaochaaGreatDoor
open Go.RowKit
open Go.Sort
def Us3 (B:Nat) (a b c:UrlL) (w:World):Prop:=w.heap[B]?=some (.cells (cellsU a++(cellsU b++cellsU c)).toArray 46 (0,0))
theorem Us3.lt {B:Nat} {a b c:UrlL} {w:World} (h:Us3 B a b c w):B<w.heap.size:=(Array.getElem?_eq_some_iff.1 h).1
theorem Us3.on {B:Nat} {a b c:UrlL} {w w':World} (h:Us3 B a b c w) (hb:Go.RowKit.Below w.heap.size w w'):Us3 B a b c w':=(hb.block _ h.lt).trans h
theorem Us3.cell {B:Nat} {a b c:UrlL} {w:World} (h:Us3 B a b c w) (k:Nat):w.cell? ⟨B,k,none⟩=(cellsU a++(cellsU b++cellsU c))[k]?:=by rw[Lib.cell_of_heap h];simp
theorem Us3.free {B:Nat} {a b c:UrlL} {w:World} (h:Us3 B a b c w) (k:Nat):w.frozen? ⟨B,k,none⟩=false:=Lib.frozen_of_heap h k
theorem Us3.cells {B:Nat} {a b c:UrlL} {w:World} (h:Us3 B a b c w):
 w.cell? ⟨B,0,none⟩=some (.string ⟨a.scheme.toArray⟩)∧
 w.cell? ⟨B,1,none⟩=some (.string ⟨a.user.toArray⟩)∧
 w.cell? ⟨B,2,none⟩=some (.string ⟨a.pass.toArray⟩)∧
 w.cell? ⟨B,3,none⟩=some (.string ⟨a.host.toArray⟩)∧
 w.cell? ⟨B,4,none⟩=some (.int .i64 a.port)∧
 w.cell? ⟨B,5,none⟩=some (.string ⟨a.path.toArray⟩)∧
 w.cell? ⟨B,6,none⟩=some (.string ⟨a.query.toArray⟩)∧
 w.cell? ⟨B,7,none⟩=some (.bool a.hasQ)∧
 w.cell? ⟨B,8,none⟩=some (.string ⟨a.mark.toArray⟩)∧
 w.cell? ⟨B,9,none⟩=some (.bool a.hasM)∧
 w.cell? ⟨B,10,none⟩=some (.string ⟨b.scheme.toArray⟩)∧
 w.cell? ⟨B,11,none⟩=some (.string ⟨b.user.toArray⟩)∧
 w.cell? ⟨B,12,none⟩=some (.string ⟨b.pass.toArray⟩)∧
 w.cell? ⟨B,13,none⟩=some (.string ⟨b.host.toArray⟩)∧
 w.cell? ⟨B,14,none⟩=some (.int .i64 b.port)∧
 w.cell? ⟨B,15,none⟩=some (.string ⟨b.path.toArray⟩)∧
 w.cell? ⟨B,16,none⟩=some (.string ⟨b.query.toArray⟩)∧
 w.cell? ⟨B,17,none⟩=some (.bool b.hasQ)∧
 w.cell? ⟨B,18,none⟩=some (.string ⟨b.mark.toArray⟩)∧
 w.cell? ⟨B,19,none⟩=some (.bool b.hasM)∧
 w.cell? ⟨B,20,none⟩=some (.string ⟨c.scheme.toArray⟩)∧
 w.cell? ⟨B,21,none⟩=some (.string ⟨c.user.toArray⟩)∧
 w.cell? ⟨B,22,none⟩=some (.string ⟨c.pass.toArray⟩)∧
 w.cell? ⟨B,23,none⟩=some (.string ⟨c.host.toArray⟩)∧
 w.cell? ⟨B,24,none⟩=some (.int .i64 c.port)∧
 w.cell? ⟨B,25,none⟩=some (.string ⟨c.path.toArray⟩)∧
 w.cell? ⟨B,26,none⟩=some (.string ⟨c.query.toArray⟩)∧
 w.cell? ⟨B,27,none⟩=some (.bool c.hasQ)∧
 w.cell? ⟨B,28,none⟩=some (.string ⟨c.mark.toArray⟩)∧
 w.cell? ⟨B,29,none⟩=some (.bool c.hasM):=
 ⟨h.cell 0,h.cell 1,h.cell 2,h.cell 3,h.cell 4,h.cell 5,h.cell 6,h.cell 7,h.cell 8,h.cell 9,h.cell 10,h.cell 11,h.cell 12,h.cell 13,h.cell 14,h.cell 15,h.cell 16,h.cell 17,h.cell 18,h.cell 19,h.cell 20,h.cell 21,h.cell 22,h.cell 23,h.cell 24,h.cell 25,h.cell 26,h.cell 27,h.cell 28,h.cell 29⟩
theorem Us3.regrown {B:Nat} {a b c:UrlL} {w:World} (h:Us3 B a b c w):
 (∀d os,(grow (redrawn w d) os).cell? ⟨B,0,none⟩=some (.string ⟨a.scheme.toArray⟩))∧
 (∀d os,(grow (redrawn w d) os).cell? ⟨B,1,none⟩=some (.string ⟨a.user.toArray⟩))∧
 (∀d os,(grow (redrawn w d) os).cell? ⟨B,2,none⟩=some (.string ⟨a.pass.toArray⟩))∧
 (∀d os,(grow (redrawn w d) os).cell? ⟨B,3,none⟩=some (.string ⟨a.host.toArray⟩))∧
 (∀d os,(grow (redrawn w d) os).cell? ⟨B,4,none⟩=some (.int .i64 a.port))∧
 (∀d os,(grow (redrawn w d) os).cell? ⟨B,5,none⟩=some (.string ⟨a.path.toArray⟩))∧
 (∀d os,(grow (redrawn w d) os).cell? ⟨B,6,none⟩=some (.string ⟨a.query.toArray⟩))∧
 (∀d os,(grow (redrawn w d) os).cell? ⟨B,7,none⟩=some (.bool a.hasQ))∧
 (∀d os,(grow (redrawn w d) os).cell? ⟨B,8,none⟩=some (.string ⟨a.mark.toArray⟩))∧
 (∀d os,(grow (redrawn w d) os).cell? ⟨B,9,none⟩=some (.bool a.hasM))∧
 (∀d os,(grow (redrawn w d) os).cell? ⟨B,10,none⟩=some (.string ⟨b.scheme.toArray⟩))∧
 (∀d os,(grow (redrawn w d) os).cell? ⟨B,11,none⟩=some (.string ⟨b.user.toArray⟩))∧
 (∀d os,(grow (redrawn w d) os).cell? ⟨B,12,none⟩=some (.string ⟨b.pass.toArray⟩))∧
 (∀d os,(grow (redrawn w d) os).cell? ⟨B,13,none⟩=some (.string ⟨b.host.toArray⟩))∧
 (∀d os,(grow (redrawn w d) os).cell? ⟨B,14,none⟩=some (.int .i64 b.port))∧
 (∀d os,(grow (redrawn w d) os).cell? ⟨B,15,none⟩=some (.string ⟨b.path.toArray⟩))∧
 (∀d os,(grow (redrawn w d) os).cell? ⟨B,16,none⟩=some (.string ⟨b.query.toArray⟩))∧
 (∀d os,(grow (redrawn w d) os).cell? ⟨B,17,none⟩=some (.bool b.hasQ))∧
 (∀d os,(grow (redrawn w d) os).cell? ⟨B,18,none⟩=some (.string ⟨b.mark.toArray⟩))∧
 (∀d os,(grow (redrawn w d) os).cell? ⟨B,19,none⟩=some (.bool b.hasM))∧
 (∀d os,(grow (redrawn w d) os).cell? ⟨B,20,none⟩=some (.string ⟨c.scheme.toArray⟩))∧
 (∀d os,(grow (redrawn w d) os).cell? ⟨B,21,none⟩=some (.string ⟨c.user.toArray⟩))∧
 (∀d os,(grow (redrawn w d) os).cell? ⟨B,22,none⟩=some (.string ⟨c.pass.toArray⟩))∧
 (∀d os,(grow (redrawn w d) os).cell? ⟨B,23,none⟩=some (.string ⟨c.host.toArray⟩))∧
 (∀d os,(grow (redrawn w d) os).cell? ⟨B,24,none⟩=some (.int .i64 c.port))∧
 (∀d os,(grow (redrawn w d) os).cell? ⟨B,25,none⟩=some (.string ⟨c.path.toArray⟩))∧
 (∀d os,(grow (redrawn w d) os).cell? ⟨B,26,none⟩=some (.string ⟨c.query.toArray⟩))∧
 (∀d os,(grow (redrawn w d) os).cell? ⟨B,27,none⟩=some (.bool c.hasQ))∧
 (∀d os,(grow (redrawn w d) os).cell? ⟨B,28,none⟩=some (.string ⟨c.mark.toArray⟩))∧
 (∀d os,(grow (redrawn w d) os).cell? ⟨B,29,none⟩=some (.bool c.hasM)):=
 ⟨fun d os=>cell_regrown (h.cell 0) d os,fun d os=>cell_regrown (h.cell 1) d os,fun d os=>cell_regrown (h.cell 2) d os,fun d os=>cell_regrown (h.cell 3) d os,fun d os=>cell_regrown (h.cell 4) d os,fun d os=>cell_regrown (h.cell 5) d os,fun d os=>cell_regrown (h.cell 6) d os,fun d os=>cell_regrown (h.cell 7) d os,fun d os=>cell_regrown (h.cell 8) d os,fun d os=>cell_regrown (h.cell 9) d os,fun d os=>cell_regrown (h.cell 10) d os,fun d os=>cell_regrown (h.cell 11) d os,fun d os=>cell_regrown (h.cell 12) d os,fun d os=>cell_regrown (h.cell 13) d os,fun d os=>cell_regrown (h.cell 14) d os,fun d os=>cell_regrown (h.cell 15) d os,fun d os=>cell_regrown (h.cell 16) d os,fun d os=>cell_regrown (h.cell 17) d os,fun d os=>cell_regrown (h.cell 18) d os,fun d os=>cell_regrown (h.cell 19) d os,fun d os=>cell_regrown (h.cell 20) d os,fun d os=>cell_regrown (h.cell 21) d os,fun d os=>cell_regrown (h.cell 22) d os,fun d os=>cell_regrown (h.cell 23) d os,fun d os=>cell_regrown (h.cell 24) d os,fun d os=>cell_regrown (h.cell 25) d os,fun d os=>cell_regrown (h.cell 26) d os,fun d os=>cell_regrown (h.cell 27) d os,fun d os=>cell_regrown (h.cell 28) d os,fun d os=>cell_regrown (h.cell 29) d os⟩
def put10 (w:World) (B o0 o1 o2 o3 o4 o5 o6 o7 o8 o9:Nat) (v:UrlL):World:=
 ((((((((((w).setCell ⟨B,o0,none⟩ (.string ⟨v.scheme.toArray⟩)).setCell ⟨B,o1,none⟩ (.string ⟨v.user.toArray⟩)).setCell ⟨B,o2,none⟩ (.string ⟨v.pass.toArray⟩)).setCell ⟨B,o3,none⟩ (.string ⟨v.host.toArray⟩)).setCell ⟨B,o4,none⟩ (.int .i64 v.port)).setCell ⟨B,o5,none⟩ (.string ⟨v.path.toArray⟩)).setCell ⟨B,o6,none⟩ (.string ⟨v.query.toArray⟩)).setCell ⟨B,o7,none⟩ (.bool v.hasQ)).setCell ⟨B,o8,none⟩ (.string ⟨v.mark.toArray⟩)).setCell ⟨B,o9,none⟩ (.bool v.hasM)
theorem put10_below {B n:Nat} {w0 w:World} (h:Go.RowKit.Below n w0 w) (hn:n≤B) (o0 o1 o2 o3 o4 o5 o6 o7 o8 o9:Nat) (v:UrlL):Go.RowKit.Below n w0 (put10 w B o0 o1 o2 o3 o4 o5 o6 o7 o8 o9 v):=
 (((((((((h.setCell (p:=⟨B,o0,none⟩) hn _).setCell (p:=⟨B,o1,none⟩) hn _).setCell (p:=⟨B,o2,none⟩) hn _).setCell (p:=⟨B,o3,none⟩) hn _).setCell (p:=⟨B,o4,none⟩) hn _).setCell (p:=⟨B,o5,none⟩) hn _).setCell (p:=⟨B,o6,none⟩) hn _).setCell (p:=⟨B,o7,none⟩) hn _).setCell (p:=⟨B,o8,none⟩) hn _).setCell (p:=⟨B,o9,none⟩) hn _
theorem Us3.put_a {B:Nat} {a b c:UrlL} {w:World} (h:Us3 B a b c w) (v:UrlL):Us3 B v b c (put10 w B 0 1 2 3 4 5 6 7 8 9 v):=by
 have one:∀ {W:World} {l:List Value} (k:Nat) (x:Value),W.heap[B]?=some (.cells l.toArray 46 (0,0))→(W.setCell ⟨B,k,none⟩ x).heap[B]?=some (.cells (l.set k x).toArray 46 (0,0)):=fun k x hW=>by
  rw[heap_setCell_in hW,List.setIfInBounds_toArray]
 exact(one 9 _ (one 8 _ (one 7 _ (one 6 _ (one 5 _ (one 4 _ (one 3 _ (one 2 _ (one 1 _ (one 0 _ h))))))))))
theorem Us3.put_b {B:Nat} {a b c:UrlL} {w:World} (h:Us3 B a b c w) (v:UrlL):Us3 B a v c (put10 w B 10 11 12 13 14 15 16 17 18 19 v):=by
 have one:∀ {W:World} {l:List Value} (k:Nat) (x:Value),W.heap[B]?=some (.cells l.toArray 46 (0,0))→(W.setCell ⟨B,k,none⟩ x).heap[B]?=some (.cells (l.set k x).toArray 46 (0,0)):=fun k x hW=>by
  rw[heap_setCell_in hW,List.setIfInBounds_toArray]
 exact(one 19 _ (one 18 _ (one 17 _ (one 16 _ (one 15 _ (one 14 _ (one 13 _ (one 12 _ (one 11 _ (one 10 _ h))))))))))
theorem Us3.put_c {B:Nat} {a b c:UrlL} {w:World} (h:Us3 B a b c w) (v:UrlL):Us3 B a b v (put10 w B 20 21 22 23 24 25 26 27 28 29 v):=by
 have one:∀ {W:World} {l:List Value} (k:Nat) (x:Value),W.heap[B]?=some (.cells l.toArray 46 (0,0))→(W.setCell ⟨B,k,none⟩ x).heap[B]?=some (.cells (l.set k x).toArray 46 (0,0)):=fun k x hW=>by
  rw[heap_setCell_in hW,List.setIfInBounds_toArray]
 exact(one 29 _ (one 28 _ (one 27 _ (one 26 _ (one 25 _ (one 24 _ (one 23 _ (one 22 _ (one 21 _ (one 20 _ h))))))))))
set_option maxRecDepth 100000 in
theorem sboth_law (L:List (List UInt8)) (v:Value) (a b c:List UInt8) (w0:World) (ht0:Txt w0 v L) (hl:L.length≤140737488351232) (hs:∀p∈L,p.length≤140737488351232) (hma:a.length≤140737488351232) (hmb:b.length≤140737488351232) (hmc:c.length≤140737488351232) (hE0:EnvH w0):
 Calls Tryz.prog 9 #[v, .agg #[.string ⟨a.toArray⟩, .string ⟨b.toArray⟩, .string ⟨c.toArray⟩]] w0 fun e w'=>e= .returned (.bool true)∧Go.RowKit.Below w0.heap.size w0 w':=by
 obtain⟨w,hw⟩:∃W,w0.alloc (.cells #[.string ⟨a.toArray⟩, .string ⟨b.toArray⟩, .string ⟨c.toArray⟩] 45)=W:=⟨_,rfl⟩
 have hbw:Go.RowKit.Below w0.heap.size w0 w:=by rw[←hw];exact below_alloc w0 _
 have hS:w.heap[w0.heap.size]?=some (.cells #[.string ⟨a.toArray⟩, .string ⟨b.toArray⟩, .string ⟨c.toArray⟩] 45 (0,0)):=by rw[←hw];exact heap_alloc_new w0 _
 have hsl:w0.heap.size<w.heap.size:=(Array.getElem?_eq_some_iff.1 hS).1
 have hE:=hE0.below hbw
 have ht:=ht0.below hbw (Nat.le_refl _)
 have hb0:=Go.RowKit.Below.refl w.heap.size w
 have cv:=lift_k w hE (fun W hW=>alive_s W hW)
 have ct:=fun W (hW:Go.RowKit.Below w.heap.size w W)=>texts_size_any L v W (ht.below hW (Nat.le_refl _)) hl hs
 have hcS:∀W,Go.RowKit.Below w.heap.size w W→W.cell? ⟨w0.heap.size,0,none⟩=some (.string ⟨a.toArray⟩)∧W.cell? ⟨w0.heap.size,1,none⟩=some (.string ⟨b.toArray⟩)∧W.cell? ⟨w0.heap.size,2,none⟩=some (.string ⟨c.toArray⟩):=fun W hW=>by
  have h:=(hW.block _ hsl).trans hS;exact⟨by rw[Lib.cell_of_heap h];rfl,by rw[Lib.cell_of_heap h];rfl,by rw[Lib.cell_of_heap h];rfl⟩
 have HBW:=Lib.hid hbw
 obtain⟨p,cap,rfl⟩:∃p cap,v= .slice p L.length cap:=by
  rcases ht with ⟨h1,h2⟩|⟨p,cap,h1,_⟩
  ·exact⟨none,0,by rw[h1,h2];rfl⟩
  ·exact⟨_,_,h1⟩
 obtain⟨N,hN⟩:∃N,textsN L=N:=⟨_,rfl⟩
 rw[hN]at ct
 have s1:¬9223372036854775807<(a.length:Int)+(b.length:Int):=by omega
 have s2:¬9223372036854775807<(a.length:Int)+(b.length:Int)+(c.length:Int):=by omega
 have s3:IntKind.i64.wrap ((a.length:Int)+(b.length:Int))=(a.length:Int)+(b.length:Int):=IntWalk.i64_in _ (by omega)
 have s4:IntKind.i64.wrap ((a.length:Int)+(b.length:Int)+(c.length:Int))=(a.length:Int)+(b.length:Int)+(c.length:Int):=IntWalk.i64_in _ (by omega)
 clear hbw hS hE0 ht0
 by_cases g1:500<L.length
 ·have i1:(500:Int)<(L.length:Int):=by omega
  clear ct;go_enter Tryz.func9,Tryz.ntmps9;go_wp2_with fail;go_at_call 38;refine(cv _ hb0).mono ?_;rintro e w1 ⟨rfl,hb1⟩;have h1:=below_next hb0 hb1;obtain⟨z0,z1,z2⟩:=hcS _ h1;go_wp2_with fail;go_at_call 38;refine(cv _ h1).mono ?_;rintro e w9 ⟨rfl,hb9⟩;have h9:=below_next h1 hb9;go_wp2_with fail;go_ret;exact⟨rfl,HBW.out.trans (h9.mono HBW.out.size)⟩
 have i1:¬(500:Int)<(L.length:Int):=by omega
 by_cases g2:20000<N
 ·have i2:(20000:Int)<(N:Int):=by omega
  go_enter Tryz.func9,Tryz.ntmps9;go_wp2_with fail;go_at_call 38;refine(cv _ hb0).mono ?_;rintro e w1 ⟨rfl,hb1⟩;have h1:=below_next hb0 hb1;obtain⟨z0,z1,z2⟩:=hcS _ h1;go_wp2_with fail;go_at_call 30;refine(ct _ h1).mono ?_;rintro e w2 ⟨rfl,rfl⟩;go_wp2_with fail;go_at_call 38;refine(cv _ h1).mono ?_;rintro e w9 ⟨rfl,hb9⟩;have h9:=below_next h1 hb9;go_wp2_with fail;go_ret;exact⟨rfl,HBW.out.trans (h9.mono HBW.out.size)⟩
 have i2:¬(20000:Int)<(N:Int):=by omega
 by_cases g3:2000<a.length+b.length+c.length
 ·have i3:(2000:Int)<(a.length:Int)+(b.length:Int)+(c.length:Int):=by omega
  go_enter Tryz.func9,Tryz.ntmps9;go_wp2_with fail;go_at_call 38;refine(cv _ hb0).mono ?_;rintro e w1 ⟨rfl,hb1⟩;have h1:=below_next hb0 hb1;obtain⟨z0,z1,z2⟩:=hcS _ h1;go_wp2_with fail;go_at_call 30;refine(ct _ h1).mono ?_;rintro e w2 ⟨rfl,rfl⟩;go_wp2_with fail;go_at_call 38;refine(cv _ h1).mono ?_;rintro e w9 ⟨rfl,hb9⟩;have h9:=below_next h1 hb9;go_wp2_with fail;go_ret;exact⟨rfl,HBW.out.trans (h9.mono HBW.out.size)⟩
 have i3:¬(2000:Int)<(a.length:Int)+(b.length:Int)+(c.length:Int):=by omega
 have hsum:=textsN_sum (L:=L) (by omega)
 rw[hN]at hsum
 have hle:∀q∈L,q.length≤4000000000:=fun q hq=>by have:=sumT_mem hq;omega
 have cfa:=lift_k w hE (fun W hW=>ofu_any a W hW hma)
 have cfb:=lift_k w hE (fun W hW=>ofu_any b W hW hmb)
 have cfc:=lift_k w hE (fun W hW=>ofu_any c W hW hmc)
 have cka:=lift_k w hE (fun W hW=>check_u (ofU a) W hW (by have:=of_size a;omega) (by have:=of_size a;omega))
 have ckb:=lift_k w hE (fun W hW=>check_u (ofU b) W hW (by have:=of_size b;omega) (by have:=of_size b;omega))
 have ckc:=lift_k w hE (fun W hW=>check_u (ofU c) W hW (by have:=of_size c;omega) (by have:=of_size c;omega))
 rw[of_check]at cka ckb ckc
 have ss:=fun (x y:UrlL) (hx:sizeU x≤4096) (hy:sizeU y≤4096) (hpx:x.port≤65535) (hpy:y.port≤65535) W (hW:Go.RowKit.Below w.heap.size w W)=>same_any L x y _ W (hE.below hW) (ht.below hW (Nat.le_refl _)) (by omega) hle (by omega) (by omega) (by omega) (by omega) check_host check_host
 have saa:=ss _ _ (of_size a).1 (of_size a).1 (of_size a).2 (of_size a).2
 have sab:=ss _ _ (of_size a).1 (of_size b).1 (of_size a).2 (of_size b).2
 have sbc:=ss _ _ (of_size b).1 (of_size c).1 (of_size b).2 (of_size c).2
 have sac:=ss _ _ (of_size a).1 (of_size c).1 (of_size a).2 (of_size c).2
 have sba:=ss _ _ (of_size b).1 (of_size a).1 (of_size b).2 (of_size a).2
 rw[same_symm]at sba
 have t1:sameL L (ofU a) (ofU a)=false→sameL L (ofU a) (ofU b)=false∧sameL L (ofU a) (ofU c)=false:=fun h=>⟨same_own h _,same_own h _⟩
 have t2:sameL L (ofU a) (ofU b)=true→sameL L (ofU b) (ofU c)=true→sameL L (ofU a) (ofU c)=true:=same_trans
 clear ss hE ht hle hsum hN hl hs g1 g2 g3 hma hmb hmc
 generalize sameL L (ofU a) (ofU a)=AA at*
 generalize sameL L (ofU a) (ofU b)=AB at*
 generalize sameL L (ofU b) (ofU c)=BC at*
 generalize sameL L (ofU a) (ofU c)=AC at*
 generalize ofU a=x at*
 generalize ofU b=y at*
 generalize ofU c=z at*
 have T1:=Lib.hid t1
 have T2:=Lib.hid t2
 clear t1 t2
 unfold urlV at cfa cfb cfc cka ckb ckc saa sab sbc sac sba
 go_enter Tryz.func9,Tryz.ntmps9
 go_wp2_with fail
 go_at_call 38
 refine(cv _ hb0).mono ?_
 rintro e w1 ⟨rfl,hb1⟩
 have h1:=below_next hb0 hb1
 obtain⟨z0,z1,z2⟩:=hcS _ h1
 go_wp2_with fail
 go_at_call 30
 refine(ct _ h1).mono ?_
 rintro e w2 ⟨rfl,rfl⟩
 clear cv ct hb0 hb1 s1 s2 s3 s4
 obtain⟨wu,hwu⟩:∃W,w2.alloc (.cells #[.string ⟨#[]⟩, .string ⟨#[]⟩, .string ⟨#[]⟩, .string ⟨#[]⟩, .int .i64 0, .string ⟨#[]⟩, .string ⟨#[]⟩, .bool false, .string ⟨#[]⟩, .bool false, .string ⟨#[]⟩, .string ⟨#[]⟩, .string ⟨#[]⟩, .string ⟨#[]⟩, .int .i64 0, .string ⟨#[]⟩, .string ⟨#[]⟩, .bool false, .string ⟨#[]⟩, .bool false, .string ⟨#[]⟩, .string ⟨#[]⟩, .string ⟨#[]⟩, .string ⟨#[]⟩, .int .i64 0, .string ⟨#[]⟩, .string ⟨#[]⟩, .bool false, .string ⟨#[]⟩, .bool false] 46)=W:=⟨_,rfl⟩
 have hU0:Us3 w2.heap.size zeroU zeroU zeroU wu:=by rw[←hwu];exact heap_alloc_new w2 _
 have hu:Go.RowKit.Below w.heap.size w wu:=by rw[←hwu];exact h1.alloc h1.size _
 have hBU:w.heap.size≤w2.heap.size:=h1.size
 obtain⟨z0,z1,z2⟩:=hcS _ hu
 go_wp2_with fail
 refine wp_loop_rounds 4 ?_
 rw[rounds_succ]
 clear h1
 go_wp2_with fail
 go_at_call 41
 refine(cfa _ hu).mono ?_
 rintro e wf0 ⟨rfl,hbwf0⟩
 have hwf0:=below_next hu hbwf0
 have Uwf0:=hU0.on hbwf0
 clear cfa hbwf0 hu hU0 z0 z1 z2
 have hlU:=Uwf0.lt
 obtain⟨wp0,ewp0⟩:∃W,put10 wf0 w2.heap.size 0 1 2 3 4 5 6 7 8 9 x=W:=⟨_,rfl⟩
 have Uwp0:Us3 w2.heap.size x zeroU zeroU wp0:=by rw[←ewp0];exact Uwf0.put_a x
 have hwp0:Go.RowKit.Below w.heap.size w wp0:=by rw[←ewp0];exact put10_below hwf0 hBU _ _ _ _ _ _ _ _ _ _ _
 unfold put10 at ewp0
 obtain⟨p0,p1,p2,p3,p4,p5,p6,p7,p8,p9,p10,p11,p12,p13,p14,p15,p16,p17,p18,p19,p20,p21,p22,p23,p24,p25,p26,p27,p28,p29⟩:=Uwf0.cells
 have f0:=Uwf0.free 0
 have f1:=Uwf0.free 1
 have f2:=Uwf0.free 2
 have f3:=Uwf0.free 3
 have f4:=Uwf0.free 4
 have f5:=Uwf0.free 5
 have f6:=Uwf0.free 6
 have f7:=Uwf0.free 7
 have f8:=Uwf0.free 8
 have f9:=Uwf0.free 9
 clear Uwf0 hwf0
 go_upto_region 8 with fail
 try rw[ewp0]
 clear ewp0 p0 p1 p2 p3 p4 p5 p6 p7 p8 p9 p10 p11 p12 p13 p14 p15 p16 p17 p18 p19 p20 p21 p22 p23 p24 p25 p26 p27 p28 p29 f0 f1 f2 f3 f4 f5 f6 f7 f8 f9 hlU
 have kc:∀d os,_:=quiet_callS hwp0 cka
 obtain⟨q0,q1,q2,q3,q4,q5,q6,q7,q8,q9,q10,q11,q12,q13,q14,q15,q16,q17,q18,q19,q20,q21,q22,q23,q24,q25,q26,q27,q28,q29⟩:=Uwp0.regrown
 refine wp_region_quiet_below (by kernel_rfl) (by kernel_rfl) ?_
 repeat(quiet_step (first|(with_reducible exact kc _ _)))
 refine wpQuiet_nil ?_
 intro _ hw'
 obtain⟨⟨dq,osq⟩,hw''⟩:=hw'
 subst hw''
 have hbr:=below_regrown wp0 dq osq
 have hwq0:=below_next hwp0 hbr
 have Uwq0:=Uwp0.on hbr
 clear kc cka q0 q1 q2 q3 q4 q5 q6 q7 q8 q9 q10 q11 q12 q13 q14 q15 q16 q17 q18 q19 q20 q21 q22 q23 q24 q25 q26 q27 q28 q29 hbr hwp0 Uwp0
 generalize grow (redrawn wp0 dq) osq=wq0 at*
 obtain⟨z0,z1,z2⟩:=hcS _ hwq0
 go_wp2_with fail
 rw[rounds_succ]
 go_wp2_with fail
 go_at_call 41
 refine(cfb _ hwq0).mono ?_
 rintro e wf1 ⟨rfl,hbwf1⟩
 have hwf1:=below_next hwq0 hbwf1
 have Uwf1:=Uwq0.on hbwf1
 clear cfb hbwf1 hwq0 Uwq0 z0 z1 z2
 have hlU:=Uwf1.lt
 obtain⟨wp1,ewp1⟩:∃W,put10 wf1 w2.heap.size 10 11 12 13 14 15 16 17 18 19 y=W:=⟨_,rfl⟩
 have Uwp1:Us3 w2.heap.size x y zeroU wp1:=by rw[←ewp1];exact Uwf1.put_b y
 have hwp1:Go.RowKit.Below w.heap.size w wp1:=by rw[←ewp1];exact put10_below hwf1 hBU _ _ _ _ _ _ _ _ _ _ _
 unfold put10 at ewp1
 obtain⟨p0,p1,p2,p3,p4,p5,p6,p7,p8,p9,p10,p11,p12,p13,p14,p15,p16,p17,p18,p19,p20,p21,p22,p23,p24,p25,p26,p27,p28,p29⟩:=Uwf1.cells
 have f10:=Uwf1.free 10
 have f11:=Uwf1.free 11
 have f12:=Uwf1.free 12
 have f13:=Uwf1.free 13
 have f14:=Uwf1.free 14
 have f15:=Uwf1.free 15
 have f16:=Uwf1.free 16
 have f17:=Uwf1.free 17
 have f18:=Uwf1.free 18
 have f19:=Uwf1.free 19
 clear Uwf1 hwf1
 go_upto_region 8 with fail
 try rw[ewp1]
 clear ewp1 p0 p1 p2 p3 p4 p5 p6 p7 p8 p9 p10 p11 p12 p13 p14 p15 p16 p17 p18 p19 p20 p21 p22 p23 p24 p25 p26 p27 p28 p29 f10 f11 f12 f13 f14 f15 f16 f17 f18 f19 hlU
 have kc:∀d os,_:=quiet_callS hwp1 ckb
 obtain⟨q0,q1,q2,q3,q4,q5,q6,q7,q8,q9,q10,q11,q12,q13,q14,q15,q16,q17,q18,q19,q20,q21,q22,q23,q24,q25,q26,q27,q28,q29⟩:=Uwp1.regrown
 refine wp_region_quiet_below (by kernel_rfl) (by kernel_rfl) ?_
 repeat(quiet_step (first|(with_reducible exact kc _ _)))
 refine wpQuiet_nil ?_
 intro _ hw'
 obtain⟨⟨dq,osq⟩,hw''⟩:=hw'
 subst hw''
 have hbr:=below_regrown wp1 dq osq
 have hwq1:=below_next hwp1 hbr
 have Uwq1:=Uwp1.on hbr
 clear kc ckb q0 q1 q2 q3 q4 q5 q6 q7 q8 q9 q10 q11 q12 q13 q14 q15 q16 q17 q18 q19 q20 q21 q22 q23 q24 q25 q26 q27 q28 q29 hbr hwp1 Uwp1
 generalize grow (redrawn wp1 dq) osq=wq1 at*
 obtain⟨z0,z1,z2⟩:=hcS _ hwq1
 go_wp2_with fail
 rw[rounds_succ]
 go_wp2_with fail
 go_at_call 41
 refine(cfc _ hwq1).mono ?_
 rintro e wf2 ⟨rfl,hbwf2⟩
 have hwf2:=below_next hwq1 hbwf2
 have Uwf2:=Uwq1.on hbwf2
 clear cfc hbwf2 hwq1 Uwq1 z0 z1 z2
 have hlU:=Uwf2.lt
 obtain⟨wp2,ewp2⟩:∃W,put10 wf2 w2.heap.size 20 21 22 23 24 25 26 27 28 29 z=W:=⟨_,rfl⟩
 have Uwp2:Us3 w2.heap.size x y z wp2:=by rw[←ewp2];exact Uwf2.put_c z
 have hwp2:Go.RowKit.Below w.heap.size w wp2:=by rw[←ewp2];exact put10_below hwf2 hBU _ _ _ _ _ _ _ _ _ _ _
 unfold put10 at ewp2
 obtain⟨p0,p1,p2,p3,p4,p5,p6,p7,p8,p9,p10,p11,p12,p13,p14,p15,p16,p17,p18,p19,p20,p21,p22,p23,p24,p25,p26,p27,p28,p29⟩:=Uwf2.cells
 have f20:=Uwf2.free 20
 have f21:=Uwf2.free 21
 have f22:=Uwf2.free 22
 have f23:=Uwf2.free 23
 have f24:=Uwf2.free 24
 have f25:=Uwf2.free 25
 have f26:=Uwf2.free 26
 have f27:=Uwf2.free 27
 have f28:=Uwf2.free 28
 have f29:=Uwf2.free 29
 clear Uwf2 hwf2
 go_upto_region 8 with fail
 try rw[ewp2]
 clear ewp2 p0 p1 p2 p3 p4 p5 p6 p7 p8 p9 p10 p11 p12 p13 p14 p15 p16 p17 p18 p19 p20 p21 p22 p23 p24 p25 p26 p27 p28 p29 f20 f21 f22 f23 f24 f25 f26 f27 f28 f29 hlU
 have kc:∀d os,_:=quiet_callS hwp2 ckc
 obtain⟨q0,q1,q2,q3,q4,q5,q6,q7,q8,q9,q10,q11,q12,q13,q14,q15,q16,q17,q18,q19,q20,q21,q22,q23,q24,q25,q26,q27,q28,q29⟩:=Uwp2.regrown
 refine wp_region_quiet_below (by kernel_rfl) (by kernel_rfl) ?_
 repeat(quiet_step (first|(with_reducible exact kc _ _)))
 refine wpQuiet_nil ?_
 intro _ hw'
 obtain⟨⟨dq,osq⟩,hw''⟩:=hw'
 subst hw''
 have hbr:=below_regrown wp2 dq osq
 have hwq2:=below_next hwp2 hbr
 have Uwq2:=Uwp2.on hbr
 clear kc ckc q0 q1 q2 q3 q4 q5 q6 q7 q8 q9 q10 q11 q12 q13 q14 q15 q16 q17 q18 q19 q20 q21 q22 q23 q24 q25 q26 q27 q28 q29 hbr hwp2 Uwp2
 generalize grow (redrawn wp2 dq) osq=wq2 at*
 obtain⟨z0,z1,z2⟩:=hcS _ hwq2
 go_wp2_with fail
 rw[rounds_succ]
 clear z0 z1 z2 hcS
 obtain⟨p0,p1,p2,p3,p4,p5,p6,p7,p8,p9,p10,p11,p12,p13,p14,p15,p16,p17,p18,p19,p20,p21,p22,p23,p24,p25,p26,p27,p28,p29⟩:=Uwq2.cells
 go_wp2_with fail
 go_at_call 33
 refine(saa _ hwq2).mono ?_
 rintro e ws0 ⟨rfl,hbws0⟩
 have hws0:=below_next hwq2 hbws0
 have Uws0:=Uwq2.on hbws0
 clear saa hbws0 hwq2 Uwq2 p0 p1 p2 p3 p4 p5 p6 p7 p8 p9 p10 p11 p12 p13 p14 p15 p16 p17 p18 p19 p20 p21 p22 p23 p24 p25 p26 p27 p28 p29
 obtain⟨p0,p1,p2,p3,p4,p5,p6,p7,p8,p9,p10,p11,p12,p13,p14,p15,p16,p17,p18,p19,p20,p21,p22,p23,p24,p25,p26,p27,p28,p29⟩:=Uws0.cells
 go_wp2_with fail
 go_at_call 33
 refine(sab _ hws0).mono ?_
 rintro e ws1 ⟨rfl,hbws1⟩
 have hws1:=below_next hws0 hbws1
 have Uws1:=Uws0.on hbws1
 clear sab hbws1 hws0 Uws0 p0 p1 p2 p3 p4 p5 p6 p7 p8 p9 p10 p11 p12 p13 p14 p15 p16 p17 p18 p19 p20 p21 p22 p23 p24 p25 p26 p27 p28 p29
 obtain⟨p0,p1,p2,p3,p4,p5,p6,p7,p8,p9,p10,p11,p12,p13,p14,p15,p16,p17,p18,p19,p20,p21,p22,p23,p24,p25,p26,p27,p28,p29⟩:=Uws1.cells
 go_wp2_with fail
 go_at_call 33
 refine(sbc _ hws1).mono ?_
 rintro e ws2 ⟨rfl,hbws2⟩
 have hws2:=below_next hws1 hbws2
 have Uws2:=Uws1.on hbws2
 clear sbc hbws2 hws1 Uws1 p0 p1 p2 p3 p4 p5 p6 p7 p8 p9 p10 p11 p12 p13 p14 p15 p16 p17 p18 p19 p20 p21 p22 p23 p24 p25 p26 p27 p28 p29
 obtain⟨p0,p1,p2,p3,p4,p5,p6,p7,p8,p9,p10,p11,p12,p13,p14,p15,p16,p17,p18,p19,p20,p21,p22,p23,p24,p25,p26,p27,p28,p29⟩:=Uws2.cells
 go_wp2_with fail
 go_at_call 33
 refine(sac _ hws2).mono ?_
 rintro e ws3 ⟨rfl,hbws3⟩
 have hws3:=below_next hws2 hbws3
 have Uws3:=Uws2.on hbws3
 clear sac hbws3 hws2 Uws2 p0 p1 p2 p3 p4 p5 p6 p7 p8 p9 p10 p11 p12 p13 p14 p15 p16 p17 p18 p19 p20 p21 p22 p23 p24 p25 p26 p27 p28 p29
 cases AA with
 |false=>
  obtain⟨rfl,rfl⟩:=T1.out rfl;clear T1 T2 sba;go_wp2_with fail;go_ret;exact⟨rfl,HBW.out.trans (hws3.mono HBW.out.size)⟩
 |true=>
  clear T1;obtain⟨p0,p1,p2,p3,p4,p5,p6,p7,p8,p9,p10,p11,p12,p13,p14,p15,p16,p17,p18,p19,p20,p21,p22,p23,p24,p25,p26,p27,p28,p29⟩:=Uws3.cells
  cases AB with
  |false=>
   clear T2;go_wp2_with fail;go_at_call 33;refine(sba _ hws3).mono ?_;rintro e w9 ⟨rfl,hb9⟩;have h9:=below_next hws3 hb9;clear sba hb9 p0 p1 p2 p3 p4 p5 p6 p7 p8 p9 p10 p11 p12 p13 p14 p15 p16 p17 p18 p19 p20 p21 p22 p23 p24 p25 p26 p27 p28 p29;go_wp2_with fail;go_ret;exact⟨rfl,HBW.out.trans (h9.mono HBW.out.size)⟩
  |true=>
   cases BC with
   |false=>
    clear T2;go_wp2_with fail;go_at_call 33;refine(sba _ hws3).mono ?_;rintro e w9 ⟨rfl,hb9⟩;have h9:=below_next hws3 hb9;clear sba hb9 p0 p1 p2 p3 p4 p5 p6 p7 p8 p9 p10 p11 p12 p13 p14 p15 p16 p17 p18 p19 p20 p21 p22 p23 p24 p25 p26 p27 p28 p29;go_wp2_with fail;go_ret;exact⟨rfl,HBW.out.trans (h9.mono HBW.out.size)⟩
   |true=>
    obtain rfl:=T2.out rfl rfl;clear T2;go_wp2_with fail;go_at_call 33;refine(sba _ hws3).mono ?_;rintro e w9 ⟨rfl,hb9⟩;have h9:=below_next hws3 hb9;clear sba hb9 p0 p1 p2 p3 p4 p5 p6 p7 p8 p9 p10 p11 p12 p13 p14 p15 p16 p17 p18 p19 p20 p21 p22 p23 p24 p25 p26 p27 p28 p29;go_wp2_with fail;go_ret;exact⟨rfl,HBW.out.trans (h9.mono HBW.out.size)⟩
end Go.Proofs.YtlcnknlmdaochaaGreatDoor
