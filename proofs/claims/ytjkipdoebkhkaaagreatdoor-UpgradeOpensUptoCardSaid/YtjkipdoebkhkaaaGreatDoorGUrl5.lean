/- What an address told at another says: the contract's words. -/
import Derived.Test.YtjkipdoebkhkaaaGreatDoorGUrl3
import Derived.Test.YtjkipdoebkhkaaaGreatDoorGUrlT
set_option linter.unusedVariables false
set_option linter.unusedSimpArgs false
set_option maxHeartbeats 16000000
namespace Go.Proofs.YtjkipdoebkhkaaaGreatDoor
open Go.RowKit
def SeenPost (R:Nat) (u base:UrlL) (s:List UInt8) (w:World) (e:Ending) (w':World):Prop:=
 KeptX w.heap.size R w w'∧match seenU u base s with
  | .error n=>e=panE n
  | .ok v=>e= .returned (.tuple #[])∧∃t,RdAt R v base t w'
def SeenC:Prop:=∀(R:Nat) (u base:UrlL) (s:List UInt8) (w:World),RdAt R u base s w→EnvR R w→s.length≤4100→u.user=[]→u.pass=[]→47∈base.path→base.path.length≤4100→
 Calls Tryz.prog 128 #[.pointer (some ⟨R,0,none⟩)] w (SeenPost R u base s w)
set_option maxRecDepth 100000 in
theorem catch_idle (U E:Nat) (w:World):
 CallsD Tryz.prog 124 #[.pointer (some ⟨U,0,none⟩), .pointer (some ⟨E,0,none⟩)] .returning w fun e u' w'=>e= .returned (.tuple #[])∧u'= .returning∧w'=w:=by
 have ht:∀w:World,(Instr.typeAssert .nilIface 20 36 true).run Tryz.prog w= .ok (.tuple #[.int .i64 0, .bool false]) w:=fun w=>by kernel_rfl
 refine callsD_of_wpS Tryz.func124 rfl fun c₀ cs hu=> ?_
 apply wpS_seq
 apply wpS_region
 simp[wpOpsS,go_sem,recoverD,hu,Tryz.ntmps124,Exit.thenS,ht]
 apply wpS_seq
 apply wpS_region
 simp[wpOpsS,go_sem,Exit.thenS]
 refine wpS_cond (t:=false) (by simp[Act.eval,Array.replicate]) ?_
 simp only[Bool.false_eq_true,if_false]
 refine wpS_of_wp (wp_skip ?_)
 cases c₀
 simp_all[bodyPostS,results,Tryz.results124]
def ErrAt (E:Nat) (n:Int) (w:World):Prop:=w.heap[E]?=some (.cells #[.int .i64 n] 36 (0,0))
def UrlAt (B:Nat) (u:UrlL) (w:World):Prop:=w.heap[B]?=some (.cells (cellsU u).toArray 29 (0,0))
theorem UrlAt.lt {B:Nat} {u:UrlL} {w:World} (h:UrlAt B u w):B<w.heap.size:=(Array.getElem?_eq_some_iff.1 h).1
theorem UrlAt.cell {B:Nat} {u:UrlL} {w:World} (h:UrlAt B u w) (k:Nat):w.cell? ⟨B,k,none⟩=(cellsU u)[k]?:=by rw[Lib.cell_of_heap h];simp
theorem UrlAt.free {B:Nat} {u:UrlL} {w:World} (h:UrlAt B u w) (k:Nat):w.frozen? ⟨B,k,none⟩=false:=Lib.frozen_of_heap h k
theorem UrlAt.cells {B:Nat} {u:UrlL} {w:World} (h:UrlAt B u w):w.cell? ⟨B,0,none⟩=some (.string ⟨u.scheme.toArray⟩)∧w.cell? ⟨B,1,none⟩=some (.string ⟨u.user.toArray⟩)∧w.cell? ⟨B,2,none⟩=some (.string ⟨u.pass.toArray⟩)∧w.cell? ⟨B,3,none⟩=some (.string ⟨u.host.toArray⟩)∧w.cell? ⟨B,4,none⟩=some (.int .i64 u.port)∧w.cell? ⟨B,5,none⟩=some (.string ⟨u.path.toArray⟩)∧w.cell? ⟨B,6,none⟩=some (.string ⟨u.query.toArray⟩)∧w.cell? ⟨B,7,none⟩=some (.bool u.hasQ)∧w.cell? ⟨B,8,none⟩=some (.string ⟨u.mark.toArray⟩)∧w.cell? ⟨B,9,none⟩=some (.bool u.hasM):=
 ⟨h.cell 0,h.cell 1,h.cell 2,h.cell 3,h.cell 4,h.cell 5,h.cell 6,h.cell 7,h.cell 8,h.cell 9⟩
theorem UrlAt.frees {B:Nat} {u:UrlL} {w:World} (h:UrlAt B u w):w.frozen? ⟨B,0,none⟩=false∧w.frozen? ⟨B,1,none⟩=false∧w.frozen? ⟨B,2,none⟩=false∧w.frozen? ⟨B,3,none⟩=false∧w.frozen? ⟨B,4,none⟩=false∧w.frozen? ⟨B,5,none⟩=false∧w.frozen? ⟨B,6,none⟩=false∧w.frozen? ⟨B,7,none⟩=false∧w.frozen? ⟨B,8,none⟩=false∧w.frozen? ⟨B,9,none⟩=false:=
 ⟨h.free 0,h.free 1,h.free 2,h.free 3,h.free 4,h.free 5,h.free 6,h.free 7,h.free 8,h.free 9⟩
theorem ErrAt.lt {B:Nat} {n:Int} {w:World} (h:ErrAt B n w):B<w.heap.size:=(Array.getElem?_eq_some_iff.1 h).1
theorem ErrAt.cell {B:Nat} {n:Int} {w:World} (h:ErrAt B n w):w.cell? ⟨B,0,none⟩=some (.int .i64 n):=by rw[Lib.cell_of_heap h];rfl
theorem ErrAt.free {B:Nat} {n:Int} {w:World} (h:ErrAt B n w):w.frozen? ⟨B,0,none⟩=false:=Lib.frozen_of_heap h 0
def putU (w:World) (B:Nat) (v:UrlL):World:=
 (((((((((w.setCell ⟨B,0,none⟩ (.string ⟨v.scheme.toArray⟩)).setCell ⟨B,1,none⟩ (.string ⟨v.user.toArray⟩)).setCell ⟨B,2,none⟩ (.string ⟨v.pass.toArray⟩)).setCell ⟨B,3,none⟩ (.string ⟨v.host.toArray⟩)).setCell ⟨B,4,none⟩ (.int .i64 v.port)).setCell ⟨B,5,none⟩ (.string ⟨v.path.toArray⟩)).setCell ⟨B,6,none⟩ (.string ⟨v.query.toArray⟩)).setCell ⟨B,7,none⟩ (.bool v.hasQ)).setCell ⟨B,8,none⟩ (.string ⟨v.mark.toArray⟩)).setCell ⟨B,9,none⟩ (.bool v.hasM)
theorem UrlAt.put {B:Nat} {u:UrlL} {w:World} (h:UrlAt B u w) (v:UrlL):UrlAt B v (putU w B v):=by
 have one:∀ {W:World} {l:List Value} (k:Nat) (x:Value),W.heap[B]?=some (.cells l.toArray 29 (0,0))→(W.setCell ⟨B,k,none⟩ x).heap[B]?=some (.cells (l.set k x).toArray 29 (0,0)):=fun k x hW=>by
  rw[heap_setCell_in hW,List.setIfInBounds_toArray]
 exact one 9 _ (one 8 _ (one 7 _ (one 6 _ (one 5 _ (one 4 _ (one 3 _ (one 2 _ (one 1 _ (one 0 _ h)))))))))
theorem putU_other (w:World) (B:Nat) (v:UrlL) {i:Nat} (hi:i≠B):(putU w B v).heap[i]?=w.heap[i]?:=by
 have one:∀(W:World) (k:Nat) (x:Value),(W.setCell ⟨B,k,none⟩ x).heap[i]?=W.heap[i]?:=fun W k x=>Below.heap_setCell _ _ _ _ hi
 unfold putU;rw[one,one,one,one,one,one,one,one,one,one]
theorem putU_below {B n:Nat} {w0 w:World} (h:Below n w0 w) (hn:n≤B) (v:UrlL):Below n w0 (putU w B v):=
 (((((((((h.setCell (p:=⟨B,0,none⟩) hn _).setCell (p:=⟨B,1,none⟩) hn _).setCell (p:=⟨B,2,none⟩) hn _).setCell (p:=⟨B,3,none⟩) hn _).setCell (p:=⟨B,4,none⟩) hn _).setCell (p:=⟨B,5,none⟩) hn _).setCell (p:=⟨B,6,none⟩) hn _).setCell (p:=⟨B,7,none⟩) hn _).setCell (p:=⟨B,8,none⟩) hn _).setCell (p:=⟨B,9,none⟩) hn _
set_option maxRecDepth 100000 in
theorem catch_panic (U E:Nat) (n x:Int) (u:UrlL) (w:World) (hU:UrlAt U u w) (hE:ErrAt E x w) (hne:U≠E):
 CallsD Tryz.prog 124 #[.pointer (some ⟨U,0,none⟩), .pointer (some ⟨E,0,none⟩)] (.panicking [{v:= .iface 36 (.int .i64 n),recovered:=false}]) w fun e u' w'=>
  e= .returned (.tuple #[])∧u'= .panicking [{v:= .iface 36 (.int .i64 n),recovered:=true}]∧UrlAt U zeroU w'∧ErrAt E n w'∧Below (min U E) w w':=by
 have ht:∀w:World,(Instr.typeAssert (.iface 36 (.int .i64 n)) 20 36 true).run Tryz.prog w= .ok (.tuple #[.int .i64 n, .bool true]) w:=fun w=>by kernel_rfl
 have c0:w.cell? ⟨U,0,none⟩=some _:=hU.cell 0
 have f0:w.frozen? ⟨U,0,none⟩=false:=hU.free 0
 have c1:w.cell? ⟨U,1,none⟩=some _:=hU.cell 1
 have f1:w.frozen? ⟨U,1,none⟩=false:=hU.free 1
 have c2:w.cell? ⟨U,2,none⟩=some _:=hU.cell 2
 have f2:w.frozen? ⟨U,2,none⟩=false:=hU.free 2
 have c3:w.cell? ⟨U,3,none⟩=some _:=hU.cell 3
 have f3:w.frozen? ⟨U,3,none⟩=false:=hU.free 3
 have c4:w.cell? ⟨U,4,none⟩=some _:=hU.cell 4
 have f4:w.frozen? ⟨U,4,none⟩=false:=hU.free 4
 have c5:w.cell? ⟨U,5,none⟩=some _:=hU.cell 5
 have f5:w.frozen? ⟨U,5,none⟩=false:=hU.free 5
 have c6:w.cell? ⟨U,6,none⟩=some _:=hU.cell 6
 have f6:w.frozen? ⟨U,6,none⟩=false:=hU.free 6
 have c7:w.cell? ⟨U,7,none⟩=some _:=hU.cell 7
 have f7:w.frozen? ⟨U,7,none⟩=false:=hU.free 7
 have c8:w.cell? ⟨U,8,none⟩=some _:=hU.cell 8
 have f8:w.frozen? ⟨U,8,none⟩=false:=hU.free 8
 have c9:w.cell? ⟨U,9,none⟩=some _:=hU.cell 9
 have f9:w.frozen? ⟨U,9,none⟩=false:=hU.free 9
 have hne2:E≠U:=Ne.symm hne
 have cE:=hE.cell
 have fE:=hE.free
 refine callsD_of_wpS Tryz.func124 rfl fun c₀ cs hu=> ?_
 apply wpS_seq
 apply wpS_region
 simp[wpOpsS,go_sem,recoverD,hu,Tryz.ntmps124,Exit.thenS,ht]
 apply wpS_seq
 apply wpS_region
 simp[wpOpsS,go_sem,Exit.thenS]
 refine wpS_cond (t:=true) (by simp[Act.eval,Array.replicate]) ?_
 simp only[if_true]
 apply wpS_region
 simp[wpOpsS,go_sem,bodyPostS,results,Tryz.results124,hne,hne2,cE,fE,c0,f0,c1,f1,c2,f2,c3,f3,c4,f4,c5,f5,c6,f6,c7,f7,c8,f8,c9,f9]
 have hp:=hU.put zeroU
 have hpb:Below (min U E) w (putU w U zeroU):=putU_below (Below.refl _ _) (Nat.min_le_left _ _) _
 have hEp:ErrAt E x (putU w U zeroU):=(putU_other w U zeroU hne2).trans hE
 show UrlAt U zeroU ((putU w U zeroU).setCell ⟨E,0,none⟩ (.int .i64 n))∧ErrAt E n ((putU w U zeroU).setCell ⟨E,0,none⟩ (.int .i64 n))∧Below (min U E) w ((putU w U zeroU).setCell ⟨E,0,none⟩ (.int .i64 n))
 exact⟨(Below.heap_setCell _ _ _ _ hne).trans hp,by unfold ErrAt at hEp⊢;rw[heap_setCell_in hEp];rfl,hpb.setCell (p:=⟨E,0,none⟩) (Nat.min_le_right _ _) _⟩
set_option maxRecDepth 100000 in
theorem read_long (s:List UInt8) (base:UrlL) (has:Bool) (w:World) (hs:4096<s.length) (hz:s.length≤140737488351232):
 Calls Tryz.prog 71 #[.string ⟨s.toArray⟩,urlV base, .bool has] w fun e w'=>e= .returned (pairU (.error 3))∧Below w.heap.size w w':=by
 have hi:(4096:Int)<(s.length:Int):=by omega
 unfold urlV
 go_enter_defers Tryz.func71,Tryz.ntmps71
 go_wp2_with fail
 simp[bodyPostD,Leaves,results,Tryz.results71,go_sem]
 exact⟨rfl,(((Below.refl w.heap.size w).alloc (Nat.le_refl _) _).alloc (by rw[World.size_alloc];omega) _).alloc (by rw[World.size_alloc,World.size_alloc];omega) _⟩
theorem wp_calm {P:Program} {c:Code} {K:Act→World→Prop} {Q:Exit→Act→World→Prop} {a:Act} {w:World} (h:c.wp P (Exit.then K fun _ _ _=>False) a w):c.wp P (Exit.then K Q) a w:=
 Go.wp_mono h fun e a w hq=>by cases e<;>first|exact hq|exact hq.elim
theorem has_pre2 (r:List UInt8):Lib.hasPrefix r [47,47]=(r.take 2==[47,47]):=by
 match r with
 |[]=>rfl
 |[a]=>simp[Lib.hasPrefix,List.isPrefixOf]
 |a::b::r=>simp[Lib.hasPrefix,List.isPrefixOf,Bool.beq_comm]
structure ReadW (n:Nat) (w0:World) (u base:UrlL) (t:List UInt8) (w:World):Prop where
 bs:UrlAt n base w
 res:UrlAt (n+1) zeroU w
 err:ErrAt (n+1+1) 0 w
 rd:RdAt (n+1+1+1) u base t w
 below:Below n w0 w
theorem alloc_new4 (w:World) (c1 c2 c3 c4:Array Value) (t1 t2 t3 t4:TypeId):
 ((((w.alloc (.cells c1 t1)).alloc (.cells c2 t2)).alloc (.cells c3 t3)).alloc (.cells c4 t4)).heap[w.heap.size]?=some (.cells c1 t1 (0,0))∧
 ((((w.alloc (.cells c1 t1)).alloc (.cells c2 t2)).alloc (.cells c3 t3)).alloc (.cells c4 t4)).heap[w.heap.size+1]?=some (.cells c2 t2 (0,0))∧
 ((((w.alloc (.cells c1 t1)).alloc (.cells c2 t2)).alloc (.cells c3 t3)).alloc (.cells c4 t4)).heap[w.heap.size+1+1]?=some (.cells c3 t3 (0,0))∧
 ((((w.alloc (.cells c1 t1)).alloc (.cells c2 t2)).alloc (.cells c3 t3)).alloc (.cells c4 t4)).heap[w.heap.size+1+1+1]?=some (.cells c4 t4 (0,0))∧
 Below w.heap.size w ((((w.alloc (.cells c1 t1)).alloc (.cells c2 t2)).alloc (.cells c3 t3)).alloc (.cells c4 t4)):=by
 generalize h1:w.alloc (.cells c1 t1)=w1
 generalize h2:w1.alloc (.cells c2 t2)=w2
 generalize h3:w2.alloc (.cells c3 t3)=w3
 generalize h4:w3.alloc (.cells c4 t4)=w4
 have s1:w1.heap.size=w.heap.size+1:=by rw[←h1,World.size_alloc]
 have s2:w2.heap.size=w.heap.size+1+1:=by rw[←h2,World.size_alloc,s1]
 have s3:w3.heap.size=w.heap.size+1+1+1:=by rw[←h3,World.size_alloc,s2]
 have b1:Below w.heap.size w w1:=by rw[←h1];exact below_alloc w _
 have b2:Below w1.heap.size w1 w2:=by rw[←h2];exact below_alloc w1 _
 have b3:Below w2.heap.size w2 w3:=by rw[←h3];exact below_alloc w2 _
 have b4:Below w3.heap.size w3 w4:=by rw[←h4];exact below_alloc w3 _
 have n1:w1.heap[w.heap.size]?=some (.cells c1 t1 (0,0)):=by rw[←h1];exact heap_alloc_new w _
 have n2:w2.heap[w1.heap.size]?=some (.cells c2 t2 (0,0)):=by rw[←h2];exact heap_alloc_new w1 _
 have n3:w3.heap[w2.heap.size]?=some (.cells c3 t3 (0,0)):=by rw[←h3];exact heap_alloc_new w2 _
 have n4:w4.heap[w3.heap.size]?=some (.cells c4 t4 (0,0)):=by rw[←h4];exact heap_alloc_new w3 _
 rw[s1]at n2;rw[s2]at n3;rw[s3]at n4
 refine⟨?_, ?_, ?_,n4,b1.trans ((b2.mono (by omega)).trans ((b3.mono (by omega)).trans (b4.mono (by omega))))⟩
 ·rw[b4.block _ (by omega),b3.block _ (by omega),b2.block _ (by omega)];exact n1
 ·rw[b4.block _ (by omega),b3.block _ (by omega)];exact n2
 ·rw[b4.block _ (by omega)];exact n3
theorem ReadW.go {n:Nat} {w0 w w':World} {u u' base:UrlL} {t t':List UInt8} (h:ReadW n w0 u base t w) (hk:KeptX w.heap.size (n+1+1+1) w w') (hr:RdAt (n+1+1+1) u' base t' w'):ReadW n w0 u' base t' w':=
 ⟨(hk.2 _ h.bs.lt (by omega)).trans h.bs,(hk.2 _ h.res.lt (by omega)).trans h.res,(hk.2 _ h.err.lt (by omega)).trans h.err,hr,h.below.trans (hk.1.mono (by omega))⟩
theorem ReadW.drewN {n:Nat} {w0 w:World} {u base:UrlL} {t:List UInt8} (h:ReadW n w0 u base t w) (k:Nat):ReadW n w0 u base t (w.drewN k):=⟨h.bs,h.res,h.err,h.rd,h.below.os,h.below.tape,h.below.output,h.below.size,h.below.block⟩
theorem ReadW.env {n:Nat} {w0 w:World} {u base:UrlL} {t:List UInt8} (h:ReadW n w0 u base t w) (hE:EnvH w0) (hn:w0.heap.size=n):EnvR (n+1+1+1) w:=⟨w0,hE,by rw[hn];exact h.below,by omega⟩
theorem ReadW.calm {n:Nat} {w0 w w':World} {u base:UrlL} {t:List UInt8} (h:ReadW n w0 u base t w) (hb:Below w.heap.size w w'):ReadW n w0 u base t w':=
 h.go (KeptX.of_below hb (Nat.le_of_lt h.rd.lt)) (h.rd.below hb)
structure ReadP (n:Nat) (w0 w:World):Prop where
 res:UrlAt (n+1) zeroU w
 err:ErrAt (n+1+1) 0 w
 below:Below n w0 w
theorem ReadW.pan {n:Nat} {w0 w w':World} {u base:UrlL} {t:List UInt8} (h:ReadW n w0 u base t w) (hk:KeptX w.heap.size (n+1+1+1) w w'):ReadP n w0 w':=
 ⟨(hk.2 _ h.res.lt (by omega)).trans h.res,(hk.2 _ h.err.lt (by omega)).trans h.err,h.below.trans (hk.1.mono (by omega))⟩
abbrev readDs (n:Nat):List Deferred:=[{target:= .fn (.func 124) #[.pointer (some ⟨n+1,0,none⟩), .pointer (some ⟨n+1+1,0,none⟩)],args:= #[]}]
set_option maxRecDepth 100000 in
theorem read_results {n:Nat} {W:World} {v:UrlL} {k:Int} {tmps:Array Value} (h6:tmps[6]?.getD undef= .pointer (some ⟨n+1,0,none⟩)) (h7:tmps[7]?.getD undef= .pointer (some ⟨n+1+1,0,none⟩)) (hU:UrlAt (n+1) v W) (hE:ErrAt (n+1+1) k W):
 (results Tryz.f71 tmps).run Tryz.prog W= .ok (.tuple #[urlV v, .int .i64 k]) W:=by
 obtain⟨c0,c1,c2,c3,c4,c5,c6,c7,c8,c9⟩:=UrlAt.cells hU
 have cE:=hE.cell
 simp[results,Tryz.results71,go_sem,h6,h7,cE,c0,c1,c2,c3,c4,c5,c6,c7,c8,c9]
 rfl
theorem read_out_panic {n k:Nat} {w0 W:World} {tmps:Array Value} {R:Ending→World→Prop} (h:ReadP n w0 W) (h6:tmps[6]?.getD undef= .pointer (some ⟨n+1,0,none⟩)) (h7:tmps[7]?.getD undef= .pointer (some ⟨n+1+1,0,none⟩))
 (hR:∀W',Below n w0 W'→R (.returned (pairU (.error k))) W'):
 Leaves Tryz.prog Tryz.f71 tmps R (readDs n) (.panicking [{v:= .iface 36 (.int .i64 (k:Int)),recovered:=false}]) W:=by
 refine leaves_cons (f:=124) (args:= #[.pointer (some ⟨n+1,0,none⟩), .pointer (some ⟨n+1+1,0,none⟩)]) (by simp) (by simp[go_sem]) ?_
 refine(catch_panic (n+1) (n+1+1) k 0 zeroU W h.res h.err (by omega)).mono ?_
 rintro e u' w' ⟨rfl,rfl,hU,hE,hb⟩
 exact⟨_,read_results h6 h7 hU hE,hR _ (h.below.trans (hb.mono (by omega)))⟩
theorem read_out_ret {n:Nat} {W:World} {v:UrlL} {tmps:Array Value} {R:Ending→World→Prop} (hU:UrlAt (n+1) v W) (hE:ErrAt (n+1+1) 0 W) (h6:tmps[6]?.getD undef= .pointer (some ⟨n+1,0,none⟩)) (h7:tmps[7]?.getD undef= .pointer (some ⟨n+1+1,0,none⟩))
 (hR:R (.returned (pairU (.ok v))) W):
 Leaves Tryz.prog Tryz.f71 tmps R (readDs n) .returning W:=by
 refine leaves_cons (f:=124) (args:= #[.pointer (some ⟨n+1,0,none⟩), .pointer (some ⟨n+1+1,0,none⟩)]) (by simp) (by simp[go_sem]) ?_
 refine(catch_idle (n+1) (n+1+1) W).mono ?_
 rintro e u' w' ⟨rfl,rfl,rfl⟩
 exact⟨_,read_results h6 h7 hU hE,hR⟩
def SchCut (n:Nat) (w0:World) (base:UrlL) (s:List UInt8) (a:Value) (w:World):Prop:=
 (schemeU s=none∧a= .bool false∧ReadW n w0 {zeroU with scheme:=base.scheme} base s w)∨∃c r,schemeU s=some (c,r)∧ownP c≠0∧a= .bool true∧ReadW n w0 {zeroU with scheme:=c} base r w
def NextCut (n:Nat) (w0:World) (base:UrlL) (has:Bool) (s:List UInt8) (a:Value) (w:World):Prop:=
 ∃u0 pl r,schU base has s= .ok (u0,pl,r)∧a= .func (.func (if pl=true then 130 else 128)) #[.pointer (some ⟨n+1+1+1,0,none⟩)] #[]∧ReadW n w0 u0 base r w
set_option maxRecDepth 100000 in
theorem read_u (s:List UInt8) (base:UrlL) (has:Bool) (sn:has=true→SeenC) (w:World) (hE:EnvH w) (hs:s.length≤4096) (hb:has=true→GoodU base):
 Calls Tryz.prog 71 #[.string ⟨s.toArray⟩,urlV base, .bool has] w fun e w'=>e= .returned (pairU (readU s base has))∧Below w.heap.size w w':=by
 have hmf:∀(fn:Fn) (first cap:Array Value) (w:World),(Instr.makeFunc fn first cap).run Tryz.prog w= .ok (.func fn first cap) w:=fun _ _ _ _=>rfl
 have hi:¬(4096:Int)<(s.length:Int):=by omega
 have HE:=Lib.hid hE
 have HB:=Lib.hid hb
 have HSN:=Lib.hid sn
 clear hE hb sn
 unfold urlV
 go_enter_defers Tryz.func71,Tryz.ntmps71
 have hwr:∀c:UInt8,wrap32 (c.toNat:Int)=(c.toNat:Int):=fun c=>by have:=c.toNat_lt;unfold wrap32;omega
 obtain⟨n,hn⟩:∃n,w.heap.size=n:=⟨_,rfl⟩
 go_upto_block 0 with fail
 go_cut [9]from 24 to 35 (fun a9 wx=>∃k:Nat,a9= .int .i64 k∧k≤s.length∧Hid (s.dropWhile idleB=s.drop k)∧ReadW w.heap.size w zeroU base [] wx)
 case first=>
  have hal:ReadW w.heap.size w zeroU base [] ((((w.alloc (.cells (cellsU base).toArray 29)).alloc (.cells (cellsU zeroU).toArray 29)).alloc (.cells #[.int .i64 0] 36)).alloc (.cells (cellsR zeroU base []).toArray 164)):=by
   obtain⟨a1,a2,a3,a4,a5⟩:=alloc_new4 w (cellsU base).toArray (cellsU zeroU).toArray #[.int .i64 0] (cellsR zeroU base []).toArray 29 29 36 164;exact⟨a1,a2,a3,a4,a5⟩
  have HA:=Lib.hid hal;clear hal;go_wp2_with fail;go_loop [9] (fun a9=>∃k:Nat,k≤s.length∧a9= .int .i64 k∧Hid (s.dropWhile idleB=(s.drop k).dropWhile idleB)) (fun a9=>s.length-(intOf a9).toNat)
  case atStart=>exact⟨0,Nat.zero_le _,rfl,rfl⟩
  case round=>
   obtain⟨k,hk,rfl,HQ⟩:=hrel;by_cases hlt:k<s.length
   ·have hki:(k:Int)<(s.length:Int):=by omega
    have ci:=fun W=>idle_u (s[k]) W
    have hp:=fun h=>idle_pass hlt h HQ.out
    have hst:=fun h=>idle_stop hlt h HQ.out
    generalize hx:s[k]=c at*;clear HQ
    cases hc:idleB c with
    |true=>
     have HP:=Lib.hid (hp hc);rw[hc]at ci;clear hp hst hc;have hw:=hwr c;clear hwr;go_wp2_with(go_at_call 125;refine(ci _).mono ?_;rintro e w2 ⟨rfl,rfl⟩);go_round
     case rel=>exact⟨k+1,by omega,by go_num,HP⟩
     case measure=>simp[intOf];omega
    |false=>
     have HP:=Lib.hid (hst hc);rw[hc]at ci;have hw:=hwr c;clear hp hst hc hwr;go_wp2_with(go_at_call 125;refine(ci _).mono ?_;rintro e w2 ⟨rfl,rfl⟩);go_meet
     case rel=>exact⟨k,rfl,hk,HP,HA.out⟩
   ·have hki:¬(k:Int)<(s.length:Int):=by omega
    have HP:=Lib.hid (idle_over (by omega) HQ.out);clear HQ;go_wp2_with fail;go_meet
    case rel=>exact⟨k,rfl,hk,HP,HA.out⟩
 case rest=>
  obtain⟨k,rfl,hk,HD,HW⟩:=hcut;rw[hn]at HW;have hkS:((s.drop k).length)=s.length-k:=List.length_drop ..;go_upto_block 2 with fail;go_cut [10]from 36 to 48 (fun a10 wx=>∃j:Nat,a10= .int .i64 j∧k≤j∧j≤s.length∧Hid (trimR (s.drop k)=(s.drop k).take (j-k))∧wc=wx)
  case first=>
   clear HD HW;go_wp2_with fail;go_loop [10] (fun a10=>∃j:Nat,k≤j∧j≤s.length∧a10= .int .i64 j∧Hid (trimR (s.drop k)=trimR ((s.drop k).take (j-k)))) (fun a10=>(intOf a10).toNat-k)
   case atStart=>exact⟨s.length,hk,Nat.le_refl _,rfl,by show _=_;rw[List.take_of_length_le (by omega)]⟩
   case round=>
    obtain⟨j,hkj,hj,rfl,HQ⟩:=hrel;by_cases hlt:k<j
    ·obtain⟨i,rfl⟩:∃i,j=i+1:=⟨j-1,by omega⟩
     have hki:(k:Int)<(i:Int)+1:=by omega
     have hi1:(i:Int)<(s.length:Int):=by omega
     have hil:i<s.length:=by omega
     have him:i-k<(s.drop k).length:=by omega
     have hmx:(s.drop k)[i-k]=s[i]:=by rw[List.getElem_drop];congr 1;omega
     have e1:i+1-k=(i-k)+1:=by omega
     have ci:=fun W=>idle_u (s[i]) W
     have hq:=HQ.out;rw[e1]at hq;have hp:=fun h=>trim_pass him (by rw[hmx];exact h) hq
     have hst:=fun h=>trim_stop him (by rw[hmx];exact h) hq
     have hw:=hwr (s[i]);generalize hx:s[i]=c at*;clear HQ hq
     cases hc:idleB c with
     |true=>
      have HP:=Lib.hid (hp hc);rw[hc]at ci;clear hp hst hc hwr;go_wp2_with(go_at_call 125;refine(ci _).mono ?_;rintro e w2 ⟨rfl,rfl⟩);go_round
      case rel=>exact⟨i,by omega,by omega,by go_num,HP⟩
      case measure=>simp[intOf];omega
     |false=>
      have HP:=Lib.hid (hst hc);rw[←e1]at HP;rw[hc]at ci;clear hp hst hc hwr;go_wp2_with(go_at_call 125;refine(ci _).mono ?_;rintro e w2 ⟨rfl,rfl⟩);go_meet
      case rel=>exact⟨i+1,by go_num,by omega,hj,HP,rfl⟩
    ·obtain rfl:k=j:=by omega
     have HP:Hid (trimR (s.drop k)=(s.drop k).take (k-k)):=by
      have:=HQ.out;rw[Nat.sub_self,List.take_zero]at this⊢;exact this
     clear HQ;go_wp2_with fail;go_meet
     case rel=>exact⟨k,rfl,Nat.le_refl _,hj,HP,rfl⟩
  case rest=>
   obtain⟨j,rfl,hkj,hj,HT,rfl⟩:=hcut;have hnt:noTab ((s.drop k).take (j-k))=dropL s:=by
    rw[dropL_trim,HD.out,HT.out];rfl
   have htl:((s.drop k).take (j-k)).length≤s.length:=by rw[List.length_take,hkS];omega
   have hki:(k:Int)≤(j:Int):=by omega
   have hji:(j:Int)≤(s.length:Int):=by omega
   have c10:wc.cell? ⟨n+1+1+1,10,none⟩=some (.string ⟨#[]⟩):=HW.rd.cell 10;have f10:=HW.rd.free 10;clear HD HT hwr hi;generalize hm:(s.drop k).take (j-k)=m at*;go_upto_region 10 with fail;go_cut [9]from 49 to 58 (fun a9 wx=>ReadW n w zeroU base (dropL s) wx)
   case first=>
    clear hmf hn hkS hk hj;have hR:=HW.rd;refine wp_calm ?_;go_region_with(first|(go_at_call 126;refine(new_rep tabsL 6 (.inr rfl) rfl ⟨wc.heap.size,0,none⟩ _ (fun j u' hj=>by rw[Addr.add_lit,Nat.zero_add];show World.cell? (World.alloc wc _) _=_;rw[World.cell?_alloc_at _ _ _ j rfl,List.getElem?_toArray];exact hj)).mono ?_;intro e w4 hnp;obtain⟨Pn,rfl,hb4,cu⟩:=tabs_use hnp m (by omega))|(go_at_call 127;refine cu.mono ?_;rintro e w5 ⟨rfl,hb5⟩;have hbb:Below wc.heap.size wc w5:=(below_alloc wc (.cells (strV tabsL).toArray 9)).drew.trans (hb5.mono (by show wc.heap.size≤(World.alloc wc _).heap.size;rw[World.size_alloc];omega));have hR5:=hR.below hbb;have k10:w5.cell? ⟨n+1+1+1,10,none⟩=some (.string ⟨[].toArray⟩):=hR5.cell 10;have fk10:=hR5.free 10;have hR6:=hR5.set (s':=noTab m) (u':=zeroU) 10 (.string ⟨(noTab m).toArray⟩) rfl));simp only[Exit.then];rw[hnt]at hR6;have hK6:=(KeptX.of_below hbb (Nat.le_of_lt hR.lt)).next (hR5.kept 10 (.string ⟨(noTab m).toArray⟩));rw[hnt]at hK6;go_wp2_with fail;go_meet
    case rel=>exact HW.go hK6 hR6
   case rest=>
    clear HW c10 f10 hm hnt htl hkS hkj hj hki hji;have HW:=hcut;have hR:=HW.rd;have hlen:(dropL s).length≤s.length:=dropL_len s;have b0:wc.cell? ⟨n,0,none⟩=some (.string ⟨base.scheme.toArray⟩):=by rw[HW.bs.cell];rfl
    have c0:wc.cell? ⟨n+1+1+1,0,none⟩=some (.string ⟨[].toArray⟩):=hR.cell 0;have f0:=hR.free 0;have hR2:=hR.set (s':=dropL s) (u':= {zeroU with scheme:=base.scheme}) 0 (.string ⟨base.scheme.toArray⟩) rfl;have HW2:=HW.go (hR.kept 0 _) hR2;have cs:=scheme_r (n+1+1+1) {zeroU with scheme:=base.scheme} base (dropL s) _ hR2 (by omega);clear hcut hR HW hR2;go_upto_region 13 with fail;generalize wc.setCell ⟨n+1+1+1,0,none⟩ (.string ⟨base.scheme.toArray⟩)=w2 at*;clear b0 c0 f0;go_cut [68]from 67 to 68 (fun a68 wx=>SchCut n w base (dropL s) a68 wx)
    case first=>
     cases hsc:schemeU (dropL s)with
     |none=>
      unfold SchPost at cs;rw[hsc]at cs;have HSC:=Lib.hid hsc;clear hsc;go_wp2_with fail;go_at_call 129;refine cs.mono ?_;rintro e w3 ⟨hK3,rfl,hR3⟩;have HW3:=HW2.go hK3 hR3;clear cs hK3 hR3 HW2;go_wp2_with fail;go_meet
      case rel=>exact .inl ⟨HSC.out,rfl,HW3⟩
     |some x=>
      obtain⟨c,r⟩:=x;unfold SchPost at cs;rw[hsc]at cs;have HSC:=Lib.hid hsc;by_cases ho:ownP c=0
      ·have herr:readU s base has= .error 6:=readU_sch hs (by unfold schU;rw[hsc];simp only;rw[if_pos ho])
       simp only[if_pos ho]at cs;have HR:=Lib.hid herr;clear hsc herr;go_wp2_with fail;go_at_call 129;refine cs.mono ?_;rintro e w3 ⟨hK3,rfl⟩;exact read_out_panic (k:=6) (HW2.pan hK3) rfl rfl fun W' hb=>⟨by rw[HR.out],by rw[hn];exact hb⟩
      ·simp only[if_neg ho]at cs
       have HO:=Lib.hid ho;clear hsc ho;go_wp2_with fail;go_at_call 129;refine cs.mono ?_;rintro e w3 ⟨hK3,rfl,hR3⟩;have HW3:=HW2.go hK3 hR3;clear cs hK3 hR3 HW2;go_wp2_with fail;go_meet
       case rel=>exact .inr ⟨c,r,HSC.out,HO.out,rfl,HW3⟩
    case rest=>
     have HS:=hcut;clear hcut HW2 cs;go_upto_if 68 with fail;go_cut [11]from 69 to 92 (fun a11 wx=>NextCut n w base has (dropL s) a11 wx)
     case first=>
      obtain⟨h1,rfl,HW3⟩|⟨c,r,h1,h2,rfl,HW3⟩:=HS
      ·cases has with
       |false=>
        have herr:readU s base false= .error 4:=readU_sch hs (by unfold schU;rw[h1];rfl);have HR:=Lib.hid herr;clear herr h1;go_wp2_with fail;go_at_call 131;refine(wrong_yes 4 _).mono ?_;rintro e w4 ⟨rfl,rfl⟩;exact read_out_panic (k:=4) (HW3.pan (KeptX.refl _ _ _)) rfl rfl fun W' hb=>⟨by rw[HR.out],by rw[hn];exact hb⟩
       |true=>
        have hsu:schU base true (dropL s)= .ok ({zeroU with scheme:=base.scheme},false,dropL s):=by unfold schU;rw[h1];rfl
        have HR:=Lib.hid hsu;clear hsu h1;go_wp2_with fail;go_at_call 131;refine(wrong_no 4 _).mono ?_;rintro e w4 ⟨rfl,rfl⟩;go_wp2_with fail;go_meet
        case rel=>exact⟨_,_,_,HR.out,rfl,HW3⟩
      ·have k0:wc.cell? ⟨n+1+1+1,0,none⟩=some (.string ⟨c.toArray⟩):=HW3.rd.cell 0
       have k10:wc.cell? ⟨n+1+1+1,10,none⟩=some (.string ⟨r.toArray⟩):=HW3.rd.cell 10;have b0:wc.cell? ⟨n,0,none⟩=some (.string ⟨base.scheme.toArray⟩):=by rw[HW3.bs.cell];rfl
       have hsu:schU base has (dropL s)= .ok ({zeroU with scheme:=c}, !has||(decide (c≠base.scheme)||(r.take 2==[47,47])),r):=by unfold schU;rw[h1];simp only;rw[if_neg h2]
       have HW4:=HW3.drewN;have cp:=fun W=>(Tryz.strings_HasPrefix ⟨r.toArray⟩ ⟨#[47,47]⟩ W).mono (R':=fun e w'=>e= .returned (.bool (r.take 2==[47,47]))∧w'=W) fun e w' ⟨he,hw⟩=>⟨by rw[he,has_pre2],hw⟩
       clear h1 h2 HW3
       cases has with
       |false=>
        have HR:=Lib.hid hsu;clear hsu cp;go_wp2_with fail;refine wp_calm ?_;go_quiet (fail);simp only[Exit.then];go_wp2_with fail;go_meet
        case rel=>exact⟨_,_,_,HR.out,rfl,HW4 _⟩
       |true=>
        by_cases hc:c=base.scheme
        ·have hcb:(c==base.scheme)=true:=beq_iff_eq.2 hc
         have hd:decide (c≠base.scheme)=false:=by rw[hc];simp
         rw[hd]at hsu;generalize hq:(r.take 2==[47,47])=q at*;have HR:=Lib.hid hsu;clear hsu hc hd hq;go_wp2_with fail;refine wp_calm ?_;go_quiet (first|(go_at_call 69;refine Calls.quiet_of_same (cp _)));simp only[Exit.then]
         cases q
         all_goals
          go_wp2_with fail;go_meet
          case rel=>exact⟨_,_,_,HR.out,rfl,HW4 _⟩
        ·have hcb:(c==base.scheme)=false:=beq_eq_false_iff_ne.2 hc
         have hd:decide (c≠base.scheme)=true:=decide_eq_true hc;rw[hd]at hsu;have HR:=Lib.hid hsu;clear hsu hc hd cp;go_wp2_with fail;refine wp_calm ?_;go_quiet (fail);simp only[Exit.then];go_wp2_with fail;go_meet
         case rel=>exact⟨_,_,_,HR.out,rfl,HW4 _⟩
     case rest=>
      obtain⟨u0,pl,r,hsu,rfl,HW⟩:=hcut;clear HS;obtain⟨x1,x2,x3,x4,x5,x6,x7,x8⟩:=schU_start hsu;have HSU:=Lib.hid hsu;have X8:=Lib.hid x8;clear hsu x8;have hsf:=fun (a:Addr) (c:Array Value) (f:Fn) (w:World)=>run_store Tryz.prog w a (.func f c #[]) .plain rfl
      go_upto_block 4 with fail;go_cut [11,13]from 93 to 104 (fun a11 a13 wx=>∃v,(if pl=true then placeU (endU u0 r).1 ((endU u0 r).2.dropWhile slashB)else seenU (endU u0 r).1 base (endU u0 r).2)= .ok v∧∃t,ReadW n w v base t wx)
      case first=>
       have ce:=end_r (n+1+1+1) u0 base r;have hql:(endU u0 r).2.length≤r.length:=(endU_good u0 r).2.2.2
       cases pl with
       |true=>
        have hmid:=readU_mid hs HSU.out;have hif:(if true=true then placeU (endU u0 r).1 ((endU u0 r).2.dropWhile slashB)else seenU (endU u0 r).1 base (endU u0 r).2)=placeU (endU u0 r).1 ((endU u0 r).2.dropWhile slashB):=by first|exact if_pos rfl|exact if_neg (by simp)
        rw[hif]at hmid;have HM:=Lib.hid hmid;clear hmid hif;go_wp2_with fail;refine wp_loop_rounds 3 ?_;rw[rounds_succ];go_wp2_with fail;obtain⟨wa,hwa⟩:∃W,wc.alloc (.cells #[.func (.func 132) #[.pointer (some ⟨n+1+1+1,0,none⟩)] #[], .func (.func 130) #[.pointer (some ⟨n+1+1+1,0,none⟩)] #[]] 1)=W:=⟨_,rfl⟩;rw[hwa];have hba:Below wc.heap.size wc wa:=by rw[←hwa];exact below_alloc wc _
        have hcell:wa.heap[wc.heap.size]?=some (.cells #[.func (.func 132) #[.pointer (some ⟨n+1+1+1,0,none⟩)] #[], .func (.func 130) #[.pointer (some ⟨n+1+1+1,0,none⟩)] #[]] 1 (0,0)):=by rw[←hwa];exact heap_alloc_new wc _
        have HWa:=HW.calm hba;have hlt:=HW.rd.lt;clear hwa hba;go_at_call 132;refine(ce wa HWa.rd (HWa.env HE.out hn) (by omega) x3 x4 x5 x6).mono ?_;rintro e w4 ⟨rfl,hK4,hR4⟩;have HW4:=HWa.go hK4 hR4;have hc4:w4.cell? ⟨wc.heap.size,1,none⟩=some (.func (.func 130) #[.pointer (some ⟨n+1+1+1,0,none⟩)] #[]):=by
         rw[Lib.cell_of_heap ((hK4.2 wc.heap.size (Array.getElem?_eq_some_iff.1 hcell).1 (by omega)).trans hcell)];rfl
        have hc40:w4.cell? ⟨wc.heap.size,0,none⟩=some (.func (.func 132) #[.pointer (some ⟨n+1+1+1,0,none⟩)] #[]):=by
         rw[Lib.cell_of_heap ((hK4.2 wc.heap.size (Array.getElem?_eq_some_iff.1 hcell).1 (by omega)).trans hcell)];rfl
        have cp:=place_r idx_sl (n+1+1+1) (endU u0 r).1 base (endU u0 r).2 w4 HW4.rd (HW4.env HE.out hn) (by omega) x1 x2;clear ce hK4 hR4 hcell HWa;unfold PlacePost at cp
        cases hpu:placeU (endU u0 r).1 ((endU u0 r).2.dropWhile slashB)with
        |error q=>
         rw[hpu]at cp;simp only at cp;have herr:readU s base has= .error q:=by rw[HM.out,hpu]
         have HR:=Lib.hid herr;clear herr hpu;go_wp2_with fail;rw[rounds_succ];go_wp2_with fail;go_at_call 130;refine cp.mono ?_;rintro e w5 ⟨hK5,rfl⟩;exact read_out_panic (k:=q) (HW4.pan hK5) rfl rfl fun W' hb=>⟨by rw[HR.out],by rw[hn];exact hb⟩
        |ok v=>
         rw[hpu]at cp;simp only at cp;have HR:Hid ((if true=true then placeU (endU u0 r).1 ((endU u0 r).2.dropWhile slashB)else seenU (endU u0 r).1 base (endU u0 r).2)= .ok v):=by
          first|exact(if_pos rfl).trans hpu|exact(if_neg (by simp)).trans hpu
         clear hpu;go_wp2_with fail;rw[rounds_succ];go_wp2_with fail;go_at_call 130;refine cp.mono ?_;rintro e w5 ⟨hK5,rfl,t,hR5⟩;have HW5:=HW4.go hK5 hR5;clear cp hK5 hR5 hc4;go_wp2_with fail;rw[rounds_succ];go_wp2_with fail;go_meet
         case rel=>exact⟨v,HR.out,t,HW5⟩
       |false=>
        have hmid:=readU_mid hs HSU.out;have HG:=Lib.hid (HB.out (X8.out rfl));have HSS:=Lib.hid (HSN.out (X8.out rfl));have hif:(if false=true then placeU (endU u0 r).1 ((endU u0 r).2.dropWhile slashB)else seenU (endU u0 r).1 base (endU u0 r).2)=seenU (endU u0 r).1 base (endU u0 r).2:=by first|exact if_pos rfl|exact if_neg (by simp)
        rw[hif]at hmid;have HM:=Lib.hid hmid;clear hmid hif;go_wp2_with fail;refine wp_loop_rounds 3 ?_;rw[rounds_succ];go_wp2_with fail;obtain⟨wa,hwa⟩:∃W,wc.alloc (.cells #[.func (.func 132) #[.pointer (some ⟨n+1+1+1,0,none⟩)] #[], .func (.func 128) #[.pointer (some ⟨n+1+1+1,0,none⟩)] #[]] 1)=W:=⟨_,rfl⟩;rw[hwa];have hba:Below wc.heap.size wc wa:=by rw[←hwa];exact below_alloc wc _
        have hcell:wa.heap[wc.heap.size]?=some (.cells #[.func (.func 132) #[.pointer (some ⟨n+1+1+1,0,none⟩)] #[], .func (.func 128) #[.pointer (some ⟨n+1+1+1,0,none⟩)] #[]] 1 (0,0)):=by rw[←hwa];exact heap_alloc_new wc _
        have HWa:=HW.calm hba;have hlt:=HW.rd.lt;clear hwa hba;go_at_call 132;refine(ce wa HWa.rd (HWa.env HE.out hn) (by omega) x3 x4 x5 x6).mono ?_;rintro e w4 ⟨rfl,hK4,hR4⟩;have HW4:=HWa.go hK4 hR4;have hc4:w4.cell? ⟨wc.heap.size,1,none⟩=some (.func (.func 128) #[.pointer (some ⟨n+1+1+1,0,none⟩)] #[]):=by
         rw[Lib.cell_of_heap ((hK4.2 wc.heap.size (Array.getElem?_eq_some_iff.1 hcell).1 (by omega)).trans hcell)];rfl
        have hc40:w4.cell? ⟨wc.heap.size,0,none⟩=some (.func (.func 132) #[.pointer (some ⟨n+1+1+1,0,none⟩)] #[]):=by
         rw[Lib.cell_of_heap ((hK4.2 wc.heap.size (Array.getElem?_eq_some_iff.1 hcell).1 (by omega)).trans hcell)];rfl
        have cp:=HSS.out (n+1+1+1) (endU u0 r).1 base (endU u0 r).2 w4 HW4.rd (HW4.env HE.out hn) (by omega) x1 x2 HG.out.slash (by have:=HG.out.sizes;omega);clear ce hK4 hR4 hcell HWa;unfold SeenPost at cp
        cases hpu:seenU (endU u0 r).1 base (endU u0 r).2 with
        |error q=>
         rw[hpu]at cp;simp only at cp;have herr:readU s base has= .error q:=by rw[HM.out,hpu]
         have HR:=Lib.hid herr;clear herr hpu;go_wp2_with fail;rw[rounds_succ];go_wp2_with fail;go_at_call 128;refine cp.mono ?_;rintro e w5 ⟨hK5,rfl⟩;exact read_out_panic (k:=q) (HW4.pan hK5) rfl rfl fun W' hb=>⟨by rw[HR.out],by rw[hn];exact hb⟩
        |ok v=>
         rw[hpu]at cp;simp only at cp;have HR:Hid ((if false=true then placeU (endU u0 r).1 ((endU u0 r).2.dropWhile slashB)else seenU (endU u0 r).1 base (endU u0 r).2)= .ok v):=by
          first|exact(if_pos rfl).trans hpu|exact(if_neg (by simp)).trans hpu
         clear hpu;go_wp2_with fail;rw[rounds_succ];go_wp2_with fail;go_at_call 128;refine cp.mono ?_;rintro e w5 ⟨hK5,rfl,t,hR5⟩;have HW5:=HW4.go hK5 hR5;clear cp hK5 hR5 hc4;go_wp2_with fail;rw[rounds_succ];go_wp2_with fail;go_meet
         case rel=>exact⟨v,HR.out,t,HW5⟩
      case rest=>
       obtain⟨v,hv,t,HW5⟩:=hcut;have hmid:=readU_mid hs HSU.out;rw[hv]at hmid;simp only at hmid;obtain⟨hz1,hz2⟩:=mid_size hs HB.out HSU.out hv;clear HSU HW hv x1 x2 x3 x4 x5 x6 x7 X8 hsf;have ct:=text_u v wc ((HW5.env HE.out hn).env) (by unfold sizeU;omega) (by omega);have hR:=HW5.rd;have r0:wc.cell? ⟨n+1+1+1,0,none⟩=some _:=hR.cell 0;have r1:wc.cell? ⟨n+1+1+1,1,none⟩=some _:=hR.cell 1;have r2:wc.cell? ⟨n+1+1+1,2,none⟩=some _:=hR.cell 2;have r3:wc.cell? ⟨n+1+1+1,3,none⟩=some _:=hR.cell 3;have r4:wc.cell? ⟨n+1+1+1,4,none⟩=some _:=hR.cell 4;have r5:wc.cell? ⟨n+1+1+1,5,none⟩=some _:=hR.cell 5;have r6:wc.cell? ⟨n+1+1+1,6,none⟩=some _:=hR.cell 6;have r7:wc.cell? ⟨n+1+1+1,7,none⟩=some _:=hR.cell 7;have r8:wc.cell? ⟨n+1+1+1,8,none⟩=some _:=hR.cell 8;have r9:wc.cell? ⟨n+1+1+1,9,none⟩=some _:=hR.cell 9;unfold urlV at ct;by_cases hl:4096<(textU v).length
       ·rw[if_pos hl]at hmid
        have hli:(4096:Int)<((textU v).length:Int):=by omega
        have HR:=Lib.hid hmid;clear hmid hl hz1 hz2 hmf hR;generalize textU v=T at*;go_wp2_with fail;go_at_call 72;refine ct.mono ?_;rintro e w6 ⟨rfl,hb6⟩;have HW6:=HW5.calm hb6;clear ct r0 r1 r2 r3 r4 r5 r6 r7 r8 r9;go_wp2_with fail;go_at_call 131
        try rw[show decide ((4096:Int)<(T.length:Int))=true from decide_eq_true (by omega)]
        refine(wrong_yes 3 _).mono ?_;rintro e w7 ⟨rfl,rfl⟩;exact read_out_panic (k:=3) (HW6.pan (KeptX.refl _ _ _)) rfl rfl fun W' hb=>⟨by rw[HR.out],by rw[hn];exact hb⟩
       ·rw[if_neg hl]at hmid
        have hli:¬(4096:Int)<((textU v).length:Int):=by omega
        have HR:=Lib.hid hmid;clear hmid hl hz1 hz2 hmf hR;generalize textU v=T at*;go_wp2_with fail;go_at_call 72;refine ct.mono ?_;rintro e w6 ⟨rfl,hb6⟩;have HW6:=HW5.calm hb6;clear ct r0 r1 r2 r3 r4 r5 r6 r7 r8 r9;have s0:w6.cell? ⟨n+1+1+1,0,none⟩=some _:=HW6.rd.cell 0;have q0:w6.cell? ⟨n+1,0,none⟩=some _:=HW6.res.cell 0;have g0:=HW6.res.free 0;have s1:w6.cell? ⟨n+1+1+1,1,none⟩=some _:=HW6.rd.cell 1;have q1:w6.cell? ⟨n+1,1,none⟩=some _:=HW6.res.cell 1;have g1:=HW6.res.free 1;have s2:w6.cell? ⟨n+1+1+1,2,none⟩=some _:=HW6.rd.cell 2;have q2:w6.cell? ⟨n+1,2,none⟩=some _:=HW6.res.cell 2;have g2:=HW6.res.free 2;have s3:w6.cell? ⟨n+1+1+1,3,none⟩=some _:=HW6.rd.cell 3;have q3:w6.cell? ⟨n+1,3,none⟩=some _:=HW6.res.cell 3;have g3:=HW6.res.free 3;have s4:w6.cell? ⟨n+1+1+1,4,none⟩=some _:=HW6.rd.cell 4;have q4:w6.cell? ⟨n+1,4,none⟩=some _:=HW6.res.cell 4;have g4:=HW6.res.free 4;have s5:w6.cell? ⟨n+1+1+1,5,none⟩=some _:=HW6.rd.cell 5;have q5:w6.cell? ⟨n+1,5,none⟩=some _:=HW6.res.cell 5;have g5:=HW6.res.free 5;have s6:w6.cell? ⟨n+1+1+1,6,none⟩=some _:=HW6.rd.cell 6;have q6:w6.cell? ⟨n+1,6,none⟩=some _:=HW6.res.cell 6;have g6:=HW6.res.free 6;have s7:w6.cell? ⟨n+1+1+1,7,none⟩=some _:=HW6.rd.cell 7;have q7:w6.cell? ⟨n+1,7,none⟩=some _:=HW6.res.cell 7;have g7:=HW6.res.free 7;have s8:w6.cell? ⟨n+1+1+1,8,none⟩=some _:=HW6.rd.cell 8;have q8:w6.cell? ⟨n+1,8,none⟩=some _:=HW6.res.cell 8;have g8:=HW6.res.free 8;have s9:w6.cell? ⟨n+1+1+1,9,none⟩=some _:=HW6.rd.cell 9;have q9:w6.cell? ⟨n+1,9,none⟩=some _:=HW6.res.cell 9;have g9:=HW6.res.free 9;have qE:=HW6.err.cell;have gE:=HW6.err.free;have hp:=HW6.res.put v;have hEp:ErrAt (n+1+1) 0 (putU w6 (n+1) v):=(putU_other w6 (n+1) v (by omega)).trans HW6.err;have hpb:Below n w (putU w6 (n+1) v):=putU_below HW6.below (by omega) v;have hU7:UrlAt (n+1) v ((putU w6 (n+1) v).setCell ⟨n+1+1,0,none⟩ (.int .i64 0)):=(Below.heap_setCell _ _ _ _ (by show n+1≠n+1+1;omega)).trans hp;have hE7:ErrAt (n+1+1) 0 ((putU w6 (n+1) v).setCell ⟨n+1+1,0,none⟩ (.int .i64 0)):=by unfold ErrAt at hEp⊢;rw[heap_setCell_in hEp];rfl
        have hb7:Below n w ((putU w6 (n+1) v).setCell ⟨n+1+1,0,none⟩ (.int .i64 0)):=hpb.setCell (p:=⟨n+1+1,0,none⟩) (by show n≤n+1+1;omega) _;have HU7:=Lib.hid hU7;have HE7:=Lib.hid hE7;have HB7:=Lib.hid hb7;clear hp hEp hpb hU7 hE7 hb7 HW5 HW6 hb6;go_wp2_with fail;go_at_call 131;rw[show decide ((4096:Int)<(T.length:Int))=false from decide_eq_false (by omega)];refine(wrong_no 3 _).mono ?_;rintro e w7 ⟨rfl,rfl⟩;go_wp2_with fail;exact read_out_ret HU7.out HE7.out rfl rfl ⟨by rw[HR.out],by rw[hn];exact HB7.out⟩
theorem read_url (s:List UInt8) (base:UrlL) (has:Bool) (sn:has=true→SeenC) (w:World) (hE:EnvH w) (hz:s.length≤140737488351232) (hb:has=true→GoodU base):
 Calls Tryz.prog 71 #[.string ⟨s.toArray⟩,urlV base, .bool has] w fun e w'=>e= .returned (pairU (readU s base has))∧Below w.heap.size w w':=by
 by_cases hs:4096<s.length
 ·have:readU s base has= .error 3:=by unfold readU;rw[if_pos hs]
  rw[this];exact read_long s base has w hs hz
 ·exact read_u s base has sn w hE (by omega) hb
theorem eq_urls (a b:UrlL) (w:World):(binOp .eql 29 (urlV a) (urlV b)).run Tryz.prog w= .ok (.bool (eqU a b)) w:=by
 unfold urlV;simp[go_sem]
 (repeat' split)<;>simp_all[eqU]
set_option maxRecDepth 100000 in
theorem check_u (u:UrlL) (w:World) (hE:EnvH w) (hs:sizeU u≤1000000000) (hport:u.port≤9223372036854775807):
 Calls Tryz.prog 27 #[urlV u] w fun e w'=>e= .returned (.bool (checkU u))∧Below w.heap.size w w':=by
 have hbw:=Below.refl w.heap.size w
 obtain⟨w1,hw1⟩:∃w1,w.alloc (.cells #[.string ⟨u.scheme.toArray⟩, .string ⟨u.user.toArray⟩, .string ⟨u.pass.toArray⟩, .string ⟨u.host.toArray⟩, .int .i64 u.port, .string ⟨u.path.toArray⟩, .string ⟨u.query.toArray⟩, .bool u.hasQ, .string ⟨u.mark.toArray⟩, .bool u.hasM] 29)=w1:=⟨_,rfl⟩
 have hb1:Below w.heap.size w w1:=by rw[←hw1];exact below_alloc w _
 have hU1:UrlAt w.heap.size u w1:=by rw[←hw1];exact heap_alloc_new w _
 have hE1:=hE.below hb1
 have ct:=text_u u w1 hE1 hs hport
 have htl:(textU u).length≤140737488351232:=by have:=text_sum u;unfold sizeU at hs;omega
 have cr:=fun W (hW:EnvH W)=>read_url (textU u) zeroU false (fun h=>by cases h) W hW htl (fun h=>by cases h)
 have hck:checkU u=match readU (textU u) zeroU false with| .ok v=>eqU u v| .error _=>false:=rfl
 generalize textU u=T at*
 cases hr:readU T zeroU false with
 |error n=>
  have hn:=err_test (read_err hr).1;rw[hr]at hck cr;simp only at hck;have HC:=Lib.hid hck;unfold pairU at cr;simp only at cr;unfold urlV at ct cr⊢;clear hr hck;obtain⟨p0,p1,p2,p3,p4,p5,p6,p7,p8,p9⟩:=UrlAt.cells hU1;go_enter Tryz.func27,Tryz.ntmps27;go_wp2_with fail;go_at_call 72;refine ct.mono ?_;rintro e w2 ⟨rfl,hb2⟩;have hE2:=hE1.below hb2;go_wp2_with fail;go_at_call 71;refine(cr _ hE2).mono ?_;rintro e w3 ⟨rfl,hb3⟩;have hb4:=hb1.trans ((hb2.mono hb1.size).trans (hb3.mono (Nat.le_trans hb1.size hb2.size)));clear ct cr hw1 hE hE1 hU1 p0 p1 p2 p3 p4 p5 p6 p7 p8 p9;go_wp2_with fail;go_ret;exact⟨by rw[HC.out];rfl,hb4.alloc hb4.size _⟩
 |ok v=>
  rw[hr]at hck cr;simp only at hck;have HC:=Lib.hid hck;have heq:=eq_urls u v;unfold pairU at cr;simp only at cr;unfold urlV at ct cr heq⊢;clear hr hck;obtain⟨p0,p1,p2,p3,p4,p5,p6,p7,p8,p9⟩:=UrlAt.cells hU1;go_enter Tryz.func27,Tryz.ntmps27;go_wp2_with fail;go_at_call 72;refine ct.mono ?_;rintro e w2 ⟨rfl,hb2⟩;have hE2:=hE1.below hb2;go_wp2_with fail;go_at_call 71;refine(cr _ hE2).mono ?_;rintro e w3 ⟨rfl,hb3⟩;have hb4:=hb1.trans ((hb2.mono hb1.size).trans (hb3.mono (Nat.le_trans hb1.size hb2.size)));have hU3:UrlAt w.heap.size u w3:=(hb3.block _ (Nat.lt_of_lt_of_le hU1.lt hb2.size)).trans ((hb2.block _ hU1.lt).trans hU1);have hlt3:=hU3.lt;obtain⟨u0,u1,u2,u3,u4,u5,u6,u7,u8,u9⟩:=UrlAt.cells hU3;clear ct cr hw1 hE hE1 hU1 p0 p1 p2 p3 p4 p5 p6 p7 p8 p9 hU3;go_wp2_with fail;go_ret;exact⟨by rw[HC.out];rfl,hb4.alloc hb4.size _⟩
theorem UrlAt.pass {B:Nat} {v u:UrlL} {w:World} (h:UrlAt B v w):UrlAt B v (w.alloc (.cells (cellsU u).toArray 29)):=((below_alloc w _).block _ h.lt).trans h
theorem UrlAt.news (w:World) (u:UrlL):UrlAt w.heap.size u (w.alloc (.cells (cellsU u).toArray 29)):=heap_alloc_new w _
theorem UrlAt.on {B:Nat} {u:UrlL} {w w':World} (h:UrlAt B u w) (hb:Below w.heap.size w w'):UrlAt B u w':=(hb.block _ h.lt).trans h
end Go.Proofs.YtjkipdoebkhkaaaGreatDoor
