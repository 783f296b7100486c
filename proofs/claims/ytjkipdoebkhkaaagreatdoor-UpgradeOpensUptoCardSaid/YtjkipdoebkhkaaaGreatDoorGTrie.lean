/- The trie of the replacer of points: adding. -/
import Derived.Test.YtjkipdoebkhkaaaGreatDoorGRep
import Derived.Test.YtjkipdoebkhkaaaGreatDoorGUrl1
import Derived.Deep.MidRow
set_option linter.unusedVariables false
set_option linter.unusedSimpArgs false
set_option maxHeartbeats 16000000
namespace Go.Proofs.YtjkipdoebkhkaaaGreatDoor
open Go.RowKit
def NodeAt (N:Nat) (val:List UInt8) (prio:Int) (pre:List UInt8) (next:Option Addr) (tab:Value) (w:World):Prop:=
 w.heap[N]?=some (.cells #[.string ⟨val.toArray⟩, .int .i64 prio, .string ⟨pre.toArray⟩, .pointer next,tab] 355 (0,0))
theorem NodeAt.lt {N val prio pre next tab} {w:World} (h:NodeAt N val prio pre next tab w):N<w.heap.size:=(Array.getElem?_eq_some_iff.1 h).1
theorem NodeAt.cell {N val prio pre next tab} {w:World} (h:NodeAt N val prio pre next tab w) (k:Nat):w.cell? ⟨N,k,none⟩=(#[.string ⟨val.toArray⟩, .int .i64 prio, .string ⟨pre.toArray⟩, .pointer next,tab])[k]?:=by
 rw[Lib.cell_of_heap h]
theorem NodeAt.free {N val prio pre next tab} {w:World} (h:NodeAt N val prio pre next tab w) (k:Nat):w.frozen? ⟨N,k,none⟩=false:=Lib.frozen_of_heap h k
theorem NodeAt.of {N val prio pre next tab} {w w':World} (h:NodeAt N val prio pre next tab w) (e:w'.heap[N]?=w.heap[N]?):NodeAt N val prio pre next tab w':=e.trans h
theorem NodeAt.set {N val prio pre next tab} {val':List UInt8} {prio':Int} {pre':List UInt8} {next':Option Addr} {tab':Value} {w:World} (h:NodeAt N val prio pre next tab w) (k:Nat) (v:Value)
 (e:(#[.string ⟨val.toArray⟩, .int .i64 prio, .string ⟨pre.toArray⟩, .pointer next,tab]:Array Value).setIfInBounds k v= #[.string ⟨val'.toArray⟩, .int .i64 prio', .string ⟨pre'.toArray⟩, .pointer next',tab']):NodeAt N val' prio' pre' next' tab' (w.setCell ⟨N,k,none⟩ v):=by
 unfold NodeAt
 rw[hset_in h,e]
abbrev nilT:Value:= .slice none 0 0
theorem kept_set {N:Nat} {w:World} (k:Nat) (v:Value) (lo:Nat):KeptX lo N w (w.setCell ⟨N,k,none⟩ v):=
 ⟨(Below.refl N w).setCell (p:=⟨N,k,none⟩) (Nat.le_refl _) v,fun i _ hi=>Below.heap_setCell _ _ _ _ (by intro e;exact hi e)⟩
set_option maxRecDepth 100000 in
theorem add_leaf (t:Nat) (val:List UInt8) (prio:Int) (r:Value) (w:World) (h:NodeAt t [] 0 [] none nilT w):
 Calls Tryz.prog 312 #[.pointer (some ⟨t,0,none⟩), .string ⟨#[]⟩, .string ⟨val.toArray⟩, .int .i64 prio,r] w fun e w'=>e= .returned (.tuple #[])∧(NodeAt t val prio [] none nilT w'∧KeptX w.heap.size t w w'):=by
 have k0:w.cell? ⟨t,0,none⟩=some (.string ⟨#[]⟩):=h.cell 0
 have k1:w.cell? ⟨t,1,none⟩=some (.int .i64 0):=h.cell 1
 have f0:=h.free 0
 have f1:=h.free 1
 have h1:=h.set (val':=val) (prio':=0) (pre':=[]) (next':=none) (tab':=nilT) 0 (.string ⟨val.toArray⟩) rfl
 have h2:=h1.set (val':=val) (prio':=prio) (pre':=[]) (next':=none) (tab':=nilT) 1 (.int .i64 prio) rfl
 have hk:=(kept_set (N:=t) (w:=w) 0 (.string ⟨val.toArray⟩) w.heap.size).trans (kept_set 1 (.int .i64 prio) w.heap.size)
 clear h h1
 go_enter Tryz.func312,Tryz.ntmps312
 go_wp2_with fail
 first|go_end0|refine bodyPost_ret (results_none rfl _ _ _) rfl ?_
 exact⟨rfl,h2,hk⟩
set_option maxRecDepth 100000 in
theorem add_new (t:Nat) (key val:List UInt8) (prio:Int) (r:Value) (w:World) (hkey:key≠[]) (h:NodeAt t [] 0 [] none nilT w):
 Calls Tryz.prog 312 #[.pointer (some ⟨t,0,none⟩), .string ⟨key.toArray⟩, .string ⟨val.toArray⟩, .int .i64 prio,r] w fun e w'=>e= .returned (.tuple #[])∧
  (NodeAt t [] 0 key (some ⟨w.heap.size,0,none⟩) nilT w'∧NodeAt w.heap.size val prio [] none nilT w'∧KeptX w.heap.size t w w'):=by
 have q1:(key==[])=false:=beq_eq_false_iff_ne.2 hkey
 have k2:w.cell? ⟨t,2,none⟩=some (.string ⟨#[]⟩):=h.cell 2
 have k3:w.cell? ⟨t,3,none⟩=some (.pointer none):=h.cell 3
 have k4:w.cell? ⟨t,4,none⟩=some nilT:=h.cell 4
 have f2:=h.free 2
 have f3:=h.free 3
 have hlt:=h.lt
 have h1:=h.set (val':=[]) (prio':=0) (pre':=key) (next':=none) (tab':=nilT) 2 (.string ⟨key.toArray⟩) rfl
 have h2:=h1.set (val':=[]) (prio':=0) (pre':=key) (next':=some ⟨w.heap.size,0,none⟩) (tab':=nilT) 3 (.pointer (some ⟨w.heap.size,0,none⟩)) rfl
 have hk:=(kept_set (N:=t) (w:=w) 2 (.string ⟨key.toArray⟩) w.heap.size).trans (kept_set 3 (.pointer (some ⟨w.heap.size,0,none⟩)) w.heap.size)
 have hs1:(((w.setCell ⟨t,2,none⟩ (.string ⟨key.toArray⟩)).setCell ⟨t,3,none⟩ (.pointer (some ⟨w.heap.size,0,none⟩))).heap.size)=w.heap.size:=by rw[World.size_setCell,World.size_setCell]
 go_enter Tryz.func312,Tryz.ntmps312
 go_wp2_with fail
 generalize ((w.setCell ⟨t,2,none⟩ (.string ⟨key.toArray⟩)).setCell ⟨t,3,none⟩ (.pointer (some ⟨w.heap.size,0,none⟩)))=w1 at*
 have hn:NodeAt w.heap.size [] 0 [] none nilT (w1.alloc (.cells #[.string ⟨#[]⟩, .int .i64 0, .string ⟨#[]⟩, .pointer none, .slice none 0 0] 355)):=by
  have:=heap_alloc_new w1 (.cells #[.string ⟨#[]⟩, .int .i64 0, .string ⟨#[]⟩, .pointer none, .slice none 0 0] 355);rw[hs1]at this;exact this
 go_at_call 312
 refine(add_leaf w.heap.size val prio r _ hn).mono ?_
 rintro e w2 ⟨rfl,h3,hk3⟩
 have hz2:(w1.alloc (.cells #[.string ⟨#[]⟩, .int .i64 0, .string ⟨#[]⟩, .pointer none, .slice none 0 0] 355)).heap.size=w.heap.size+1:=by rw[World.size_alloc,hs1]
 have h4:NodeAt t [] 0 key (some ⟨w.heap.size,0,none⟩) nilT w2:=(h2.of (Lib.alloc_old w1 _ t (by omega))).of (hk3.2 t (by omega) (by omega))
 have hK:KeptX w.heap.size t w w2:=by
  refine⟨(hk.1.alloc (by omega) _).trans (hk3.1.mono (by omega)),fun i hi hit=>(hk3.2 i (by omega) (by omega)).trans ((Lib.alloc_old w1 _ i (by omega)).trans (hk.2 i hi hit))⟩
 clear h h1 h2 hk hn hk3
 go_wp2_with fail
 first|go_end0|refine bodyPost_ret (results_none rfl _ _ _) rfl ?_
 exact⟨rfl,h4,h3,hK⟩
theorem e_node:Elem1 Tryz.prog 353 352 (.pointer none) 8:=⟨Tryz.underlying353,info_parts (by kernel_rfl),rfl⟩
theorem make_table (w:World) (g:Nat) (hg:w.heap.size=g):(Instr.makeSlice 353 (.int .i64 4) (.int .i64 4)).run Tryz.prog w= .ok (.slice (some ⟨g,0,none⟩) 4 4) (w.alloc (.cells #[.pointer none, .pointer none, .pointer none, .pointer none] 352)):=by
 obtain⟨i,hi,hz,hsize,hby⟩:=e_node.hi;have:=run_makeSlice (P:=Tryz.prog) w 353 352 i (.pointer none) Tryz.underlying353 hi hz .i64 .i64 4 4 (by omega) (by omega) (by rw[hsize];decide) (by rw[hby];decide) (by omega);rw[hsize,hg,show(Value.pointer none).cells= #[Value.pointer none]from rfl,made_one]at this;exact this
structure GenM (G:Nat) (w:World):Prop where
 size:w.cell? ⟨G,5,none⟩=some (.int .i64 4)
 pct:w.cell? ⟨G,43,none⟩=some (.int .u8 0)
 two:w.cell? ⟨G,56,none⟩=some (.int .u8 1)
 great:w.cell? ⟨G,75,none⟩=some (.int .u8 2)
 small:w.cell? ⟨G,107,none⟩=some (.int .u8 3)
theorem GenM.lt {G} {w:World} (h:GenM G w):G<w.heap.size:=by
 refine Classical.byContradiction fun hn=> ?_
 have:=h.size;simp[World.cell?,Array.getElem?_eq_none (show w.heap.size≤G by omega)]at this
theorem GenM.of {G} {w w':World} (h:GenM G w) (e:w'.heap[G]?=w.heap[G]?):GenM G w':=by
 have c:∀k,w'.cell? ⟨G,k,none⟩=w.cell? ⟨G,k,none⟩:=fun k=>by simp only[World.cell?,e]
 exact⟨(c _).trans h.1,(c _).trans h.2,(c _).trans h.3,(c _).trans h.4,(c _).trans h.5⟩
def TableAt (T:Nat) (a b c d:Option Addr) (w:World):Prop:=w.heap[T]?=some (.cells #[.pointer a, .pointer b, .pointer c, .pointer d] 352 (0,0))
theorem TableAt.lt {T a b c d} {w:World} (h:TableAt T a b c d w):T<w.heap.size:=(Array.getElem?_eq_some_iff.1 h).1
theorem TableAt.cell {T a b c d} {w:World} (h:TableAt T a b c d w) (k:Nat):w.cell? ⟨T,k,none⟩=(#[Value.pointer a, .pointer b, .pointer c, .pointer d])[k]?:=by
 rw[Lib.cell_of_heap h]
theorem TableAt.free {T a b c d} {w:World} (h:TableAt T a b c d w) (k:Nat):w.frozen? ⟨T,k,none⟩=false:=Lib.frozen_of_heap h k
theorem TableAt.of {T a b c d} {w w':World} (h:TableAt T a b c d w) (e:w'.heap[T]?=w.heap[T]?):TableAt T a b c d w':=e.trans h
theorem TableAt.set {T a b c d a' b' c' d'} {w:World} (h:TableAt T a b c d w) (k:Nat) (v:Value) (e:(#[Value.pointer a, .pointer b, .pointer c, .pointer d]).setIfInBounds k v= #[Value.pointer a', .pointer b', .pointer c', .pointer d']):TableAt T a' b' c' d' (w.setCell ⟨T,k,none⟩ v):=by
 unfold TableAt;rw[hset_in h,e]
set_option maxRecDepth 100000 in
theorem add_split (t G N:Nat) (val:List UInt8) (prio:Int) (w:World) (h:NodeAt t [] 0 [101] (some ⟨N,0,none⟩) nilT w) (hG:GenM G w) (hne:G≠t):
 Calls Tryz.prog 312 #[.pointer (some ⟨t,0,none⟩), .string ⟨#[69]⟩, .string ⟨val.toArray⟩, .int .i64 prio, .pointer (some ⟨G,0,none⟩)] w fun e w'=>e= .returned (.tuple #[])∧
  (NodeAt t [] 0 [] none (.slice (some ⟨w.heap.size+1,0,none⟩) 4 4) w'∧TableAt (w.heap.size+1) none none (some ⟨w.heap.size,0,none⟩) (some ⟨N,0,none⟩) w'∧NodeAt w.heap.size val prio [] none nilT w'∧KeptX w.heap.size t w w'):=by
 have k2:w.cell? ⟨t,2,none⟩=some (.string ⟨#[101]⟩):=h.cell 2
 have k3:w.cell? ⟨t,3,none⟩=some (.pointer (some ⟨N,0,none⟩)):=h.cell 3
 have k4:w.cell? ⟨t,4,none⟩=some nilT:=h.cell 4
 have f2:=h.free 2
 have f3:=h.free 3
 have f4:=h.free 4
 have g5:=hG.size
 have g69:=hG.great
 have g101:=hG.small
 go_enter Tryz.func312,Tryz.ntmps312
 go_wp2_with fail
 refine wp_loop_rounds 1 ?_
 rw[rounds_succ]
 go_wp2_with fail
 go_region
 all_goals
  go_upto_region 17 with fail;obtain⟨V1,hV1⟩:∃V,(w.alloc (.cells #[.string ⟨#[]⟩, .int .i64 0, .string ⟨#[]⟩, .pointer none, .slice none 0 0] 355)).drew=V:=⟨_,rfl⟩;rw[hV1];have a1:∀i,i<w.heap.size→V1.heap[i]?=w.heap[i]?:=fun i hi=>by rw[←hV1];exact Lib.alloc_old w _ i hi
  have s1:V1.heap.size=w.heap.size+1:=by rw[←hV1];exact World.size_alloc _ _
  have n1:NodeAt w.heap.size [] 0 [] none nilT V1:=by rw[←hV1];exact heap_alloc_new w _
  have b1:Below w.heap.size w V1:=by rw[←hV1];exact(below_alloc w _).drew
  have t1:=h.of (a1 t h.lt);have m1:=hG.of (a1 G hG.lt);have z5:=m1.size;obtain⟨V2,hV2⟩:∃V,V1.alloc (.cells #[.pointer none, .pointer none, .pointer none, .pointer none] 352)=V:=⟨_,rfl⟩;have hmk:=make_table V1 (w.heap.size+1) s1;rw[hV2]at hmk;have a2:∀i,i<V1.heap.size→V2.heap[i]?=V1.heap[i]?:=fun i hi=>by rw[←hV2];exact Lib.alloc_old V1 _ i hi
  have s2:V2.heap.size=w.heap.size+2:=by rw[←hV2,World.size_alloc,s1]
  have T2:TableAt (w.heap.size+1) none none none none V2:=by rw[←hV2,←s1];exact heap_alloc_new V1 _
  have b2:Below w.heap.size w V2:=by rw[←hV2];exact b1.alloc (by omega) _
  have t2:=t1.of (a2 t t1.lt);have m2:=m1.of (a2 G m1.lt);have n2:=n1.of (a2 _ n1.lt);have x4:V2.cell? ⟨t,4,none⟩=some nilT:=t2.cell 4;have y4:=t2.free 4;have T3:=t2.set (val':=[]) (prio':=0) (pre':=[101]) (next':=some ⟨N,0,none⟩) (tab':= .slice (some ⟨w.heap.size+1,0,none⟩) 4 4) 4 (.slice (some ⟨w.heap.size+1,0,none⟩) 4 4) rfl;have hlt:=h.lt;have hGl:=hG.lt;clear hV1 hV2 k2 k3 k4 f2 f3 f4 g5 g69 g101;go_upto_region 18 with fail;obtain⟨V3,hV3⟩:∃V,V2.setCell ⟨t,4,none⟩ (.slice (some ⟨w.heap.size+1,0,none⟩) 4 4)=V:=⟨_,rfl⟩;rw[hV3]at T3⊢;have a3:∀i,i≠t→V3.heap[i]?=V2.heap[i]?:=fun i hi=>by rw[←hV3];exact Below.heap_setCell _ _ _ _ (by exact hi)
  have s3:V3.heap.size=w.heap.size+2:=by rw[←hV3,World.size_setCell,s2]
  have B3:TableAt (w.heap.size+1) none none none none V3:=T2.of (a3 _ (by omega));have m3:=m2.of (a3 G hne);have n3:=n2.of (a3 _ (by omega));have b3:Below t w V3:=by rw[←hV3];exact(b2.mono (Nat.le_of_lt hlt)).setCell (p:=⟨t,4,none⟩) (Nat.le_refl _) _
  have K3:∀i,i<w.heap.size→i≠t→V3.heap[i]?=w.heap[i]?:=fun i hi hit=>(a3 i hit).trans ((a2 i (by omega)).trans (a1 i hi))
  have c2:V3.cell? ⟨t,2,none⟩=some (.string ⟨#[101]⟩):=T3.cell 2;have c4:V3.cell? ⟨t,4,none⟩=some (.slice (some ⟨w.heap.size+1,0,none⟩) 4 4):=T3.cell 4;have d3:V3.cell? ⟨w.heap.size+1,3,none⟩=some (.pointer none):=B3.cell 3;have e3:=B3.free 3;have g3:=m3.small;have B4:=B3.set (a':=none) (b':=none) (c':=none) (d':=some ⟨N,0,none⟩) 3 (.pointer (some ⟨N,0,none⟩)) rfl;clear hV3 x4 y4 z5 hmk T2 t2 m2 n2 t1 m1 n1 b1 b2 a1 a2 s1 s2;go_region
  all_goals
   go_upto_region 19 with fail;obtain⟨V4,hV4⟩:∃V,(V3.setCell ⟨w.heap.size+1,3,none⟩ (.pointer (some ⟨N,0,none⟩))).drew=V:=⟨_,rfl⟩;rw[hV4];have a4:∀i,i≠w.heap.size+1→V4.heap[i]?=V3.heap[i]?:=fun i hi=>by rw[←hV4];exact Below.heap_setCell _ _ _ _ (by exact hi)
   have s4:V4.heap.size=w.heap.size+2:=by rw[←hV4];show(V3.setCell _ _).heap.size=_;rw[World.size_setCell,s3]
   have B5:TableAt (w.heap.size+1) none none none (some ⟨N,0,none⟩) V4:=by rw[←hV4];exact B4
   have T4:=T3.of (a4 t (by omega));have m4:=m3.of (a4 G (by omega));have n4:=n3.of (a4 _ (by omega));have b4:Below t w V4:=by rw[←hV4];exact(b3.setCell (p:=⟨w.heap.size+1,3,none⟩) (by show t≤w.heap.size+1;omega) _).drew
   have K4:∀i,i<w.heap.size→i≠t→V4.heap[i]?=w.heap[i]?:=fun i hi hit=>(a4 i (by omega)).trans (K3 i hi hit)
   have r4:V4.cell? ⟨t,4,none⟩=some (.slice (some ⟨w.heap.size+1,0,none⟩) 4 4):=T4.cell 4;have r2:V4.cell? ⟨w.heap.size+1,2,none⟩=some (.pointer none):=B5.cell 2;have q2:=B5.free 2;have g4:=m4.great;have B6:=B5.set (a':=none) (b':=none) (c':=some ⟨w.heap.size,0,none⟩) (d':=some ⟨N,0,none⟩) 2 (.pointer (some ⟨w.heap.size,0,none⟩)) rfl;clear hV4 c2 c4 d3 e3 g3 B4 B3 T3 m3 n3 b3 K3 a3 s3;go_region
   all_goals
    go_upto_region 20 with fail;obtain⟨V5,hV5⟩:∃V,(V4.setCell ⟨w.heap.size+1,2,none⟩ (.pointer (some ⟨w.heap.size,0,none⟩))).drew=V:=⟨_,rfl⟩;rw[hV5];have a5:∀i,i≠w.heap.size+1→V5.heap[i]?=V4.heap[i]?:=fun i hi=>by rw[←hV5];exact Below.heap_setCell _ _ _ _ (by exact hi)
    have s5:V5.heap.size=w.heap.size+2:=by rw[←hV5];show(V4.setCell _ _).heap.size=_;rw[World.size_setCell,s4]
    have B7:TableAt (w.heap.size+1) none none (some ⟨w.heap.size,0,none⟩) (some ⟨N,0,none⟩) V5:=by rw[←hV5];exact B6
    have T5:=T4.of (a5 t (by omega));have n5:=n4.of (a5 _ (by omega));have b5:Below t w V5:=by rw[←hV5];exact(b4.setCell (p:=⟨w.heap.size+1,2,none⟩) (by show t≤w.heap.size+1;omega) _).drew
    have K5:∀i,i<w.heap.size→i≠t→V5.heap[i]?=w.heap[i]?:=fun i hi hit=>(a5 i (by omega)).trans (K4 i hi hit)
    have p2:V5.cell? ⟨t,2,none⟩=some (.string ⟨#[101]⟩):=T5.cell 2;have p3:V5.cell? ⟨t,3,none⟩=some (.pointer (some ⟨N,0,none⟩)):=T5.cell 3;have o2:=T5.free 2;have o3:=T5.free 3;have T6:=T5.set (val':=[]) (prio':=0) (pre':=[]) (next':=some ⟨N,0,none⟩) (tab':= .slice (some ⟨w.heap.size+1,0,none⟩) 4 4) 2 (.string ⟨#[]⟩) rfl;have T7:=T6.set (val':=[]) (prio':=0) (pre':=[]) (next':=none) (tab':= .slice (some ⟨w.heap.size+1,0,none⟩) 4 4) 3 (.pointer none) rfl;have a7:∀i,i≠t→((V5.setCell ⟨t,2,none⟩ (.string ⟨#[]⟩)).setCell ⟨t,3,none⟩ (.pointer none)).heap[i]?=V5.heap[i]?:=fun i hi=>(Below.heap_setCell _ _ _ _ (by exact hi)).trans (Below.heap_setCell _ _ _ _ (by exact hi))
    have s7:((V5.setCell ⟨t,2,none⟩ (.string ⟨#[]⟩)).setCell ⟨t,3,none⟩ (.pointer none)).heap.size=w.heap.size+2:=by rw[World.size_setCell,World.size_setCell,s5]
    have b7:Below t w ((V5.setCell ⟨t,2,none⟩ (.string ⟨#[]⟩)).setCell ⟨t,3,none⟩ (.pointer none)):=(b5.setCell (p:=⟨t,2,none⟩) (Nat.le_refl _) _).setCell (p:=⟨t,3,none⟩) (Nat.le_refl _) _;clear hV5 r4 r2 q2 g4 B6 B5 T4 m4 n4 b4 K4 a4 s4 T5 T6 a5;go_upto_region 22 with fail;go_wp2_with fail;generalize (V5.setCell ⟨t,2,none⟩ (.string ⟨#[]⟩)).setCell ⟨t,3,none⟩ (.pointer none)=V6 at*;have n7:=n5.of (a7 _ (by omega));go_at_call 312;refine(add_leaf w.heap.size val prio (.pointer (some ⟨G,0,none⟩)) V6 n7).mono ?_;rintro e V7 ⟨rfl,n8,K8⟩;have T8:=T7.of (K8.2 t (by omega) (by omega));have B8:=(B7.of (a7 _ (by omega))).of (K8.2 _ (by omega) (by omega));have hK:KeptX w.heap.size t w V7:=⟨b7.trans (K8.1.mono (by omega)),fun i hi hit=>(K8.2 i (by omega) (by omega)).trans ((a7 i hit).trans (K5 i hi hit))⟩;clear p2 p3 o2 o3 n5 n7 T7 B7 K8 K5 a7 b7 b5 s5 s7 h hG;go_wp2_with fail
    first|go_end0|refine bodyPost_ret (results_none rfl _ _ _) rfl ?_
    exact⟨rfl,T8,B8,n8,hK⟩
set_option maxRecDepth 100000 in
theorem add_mid (t G N:Nat) (val:List UInt8) (prio:Int) (w:World) (h:NodeAt t [] 0 [50,101] (some ⟨N,0,none⟩) nilT w) (hG:GenM G w) (hne:G≠t):
 Calls Tryz.prog 312 #[.pointer (some ⟨t,0,none⟩), .string ⟨#[50,69]⟩, .string ⟨val.toArray⟩, .int .i64 prio, .pointer (some ⟨G,0,none⟩)] w fun e w'=>e= .returned (.tuple #[])∧
  (NodeAt t [] 0 [50] (some ⟨w.heap.size,0,none⟩) nilT w'∧NodeAt w.heap.size [] 0 [] none (.slice (some ⟨w.heap.size+2,0,none⟩) 4 4) w'∧TableAt (w.heap.size+2) none none (some ⟨w.heap.size+1,0,none⟩) (some ⟨N,0,none⟩) w'∧NodeAt (w.heap.size+1) val prio [] none nilT w'∧KeptX w.heap.size t w w'):=by
 have k2:w.cell? ⟨t,2,none⟩=some (.string ⟨#[50,101]⟩):=h.cell 2
 have k3:w.cell? ⟨t,3,none⟩=some (.pointer (some ⟨N,0,none⟩)):=h.cell 3
 have k4:w.cell? ⟨t,4,none⟩=some nilT:=h.cell 4
 have f2:=h.free 2
 have f3:=h.free 3
 have f4:=h.free 4
 go_enter Tryz.func312,Tryz.ntmps312
 go_wp2_with fail
 refine wp_loop_rounds 2 ?_
 rw[rounds_succ]
 go_wp2_with fail
 go_region
 all_goals
  go_wp2_with fail;rw[rounds_succ];go_wp2_with fail;go_region
  all_goals
   go_wp2_with fail;go_region
   all_goals
    go_upto_region 24 with fail;obtain⟨V1,hV1⟩:∃V,(w.alloc (.cells #[.string ⟨#[]⟩, .int .i64 0, .string ⟨#[101]⟩, .pointer (some ⟨N,0,none⟩), .slice none 0 0] 355)).drew.drew.drew=V:=⟨_,rfl⟩;rw[hV1];have a1:∀i,i<w.heap.size→V1.heap[i]?=w.heap[i]?:=fun i hi=>by rw[←hV1];exact Lib.alloc_old w _ i hi
    have s1:V1.heap.size=w.heap.size+1:=by rw[←hV1];exact World.size_alloc _ _
    have n1:NodeAt w.heap.size [] 0 [101] (some ⟨N,0,none⟩) nilT V1:=by rw[←hV1];exact heap_alloc_new w _
    have b1:Below w.heap.size w V1:=by rw[←hV1];exact(below_alloc w _).drew.drew.drew
    have hlt:=h.lt;have hGl:=hG.lt;have t1:=h.of (a1 t hlt);have m1:=hG.of (a1 G hGl);have p2:V1.cell? ⟨t,2,none⟩=some (.string ⟨#[50,101]⟩):=t1.cell 2;have p3:V1.cell? ⟨t,3,none⟩=some (.pointer (some ⟨N,0,none⟩)):=t1.cell 3;have o2:=t1.free 2;have o3:=t1.free 3;have T6:=t1.set (val':=[]) (prio':=0) (pre':=[50]) (next':=some ⟨N,0,none⟩) (tab':=nilT) 2 (.string ⟨#[50]⟩) rfl;have T7:=T6.set (val':=[]) (prio':=0) (pre':=[50]) (next':=some ⟨w.heap.size,0,none⟩) (tab':=nilT) 3 (.pointer (some ⟨w.heap.size,0,none⟩)) rfl;have a7:∀i,i≠t→((V1.setCell ⟨t,2,none⟩ (.string ⟨#[50]⟩)).setCell ⟨t,3,none⟩ (.pointer (some ⟨w.heap.size,0,none⟩))).heap[i]?=V1.heap[i]?:=fun i hi=>(Below.heap_setCell _ _ _ _ (by exact hi)).trans (Below.heap_setCell _ _ _ _ (by exact hi))
    have s7:((V1.setCell ⟨t,2,none⟩ (.string ⟨#[50]⟩)).setCell ⟨t,3,none⟩ (.pointer (some ⟨w.heap.size,0,none⟩))).heap.size=w.heap.size+1:=by rw[World.size_setCell,World.size_setCell,s1]
    have b7:Below t w ((V1.setCell ⟨t,2,none⟩ (.string ⟨#[50]⟩)).setCell ⟨t,3,none⟩ (.pointer (some ⟨w.heap.size,0,none⟩))):=((b1.mono (Nat.le_of_lt hlt)).setCell (p:=⟨t,2,none⟩) (Nat.le_refl _) _).setCell (p:=⟨t,3,none⟩) (Nat.le_refl _) _;clear hV1 T6 k2 k3 k4 f2 f3 f4;go_upto_region 26 with fail;generalize (V1.setCell ⟨t,2,none⟩ (.string ⟨#[50]⟩)).setCell ⟨t,3,none⟩ (.pointer (some ⟨w.heap.size,0,none⟩))=V6 at*;have n7:=n1.of (a7 _ (by omega));have m7:=m1.of (a7 G hne);clear p2 p3 o2 o3;go_wp2_with fail;go_at_call 312;refine(add_split w.heap.size G N val prio V6 n7 m7 (by omega)).mono ?_;rintro e V7 ⟨rfl,c1,c2,c3,K8⟩;rw[s7]at c1 c2 c3;have T8:=T7.of (K8.2 t (by omega) (by omega));have hK:KeptX w.heap.size t w V7:=⟨b7.trans (K8.1.mono (by omega)),fun i hi hit=>(K8.2 i (by omega) (by omega)).trans ((a7 i hit).trans (a1 i hi))⟩;clear n1 n7 T7 K8 a7 a1 b7 b1 s1 s7 h hG t1 m1 m7;go_wp2_with fail
    first|go_end0|refine bodyPost_ret (results_none rfl _ _ _) rfl ?_
    exact⟨rfl,T8,c1,c2,c3,hK⟩
structure RootAt (G T:Nat) (w:World):Prop where
 pre:w.cell? ⟨G,2,none⟩=some (.string ⟨#[]⟩)
 tab:w.cell? ⟨G,4,none⟩=some (.slice (some ⟨T,0,none⟩) 4 4)
theorem RootAt.of {G T} {w w':World} (h:RootAt G T w) (e:w'.heap[G]?=w.heap[G]?):RootAt G T w':=by
 have c:∀k,w'.cell? ⟨G,k,none⟩=w.cell? ⟨G,k,none⟩:=fun k=>by simp only[World.cell?,e]
 exact⟨(c _).trans h.1,(c _).trans h.2⟩
theorem neq_tab (a:Option Addr) (l c:Nat) (w:World):(binOp .neq 353 (.slice a l c) (.slice none 0 0)).run Tryz.prog w= .ok (.bool (!a.isNone)) w:=run_neq_slice_nil w 353 352 a l c Tryz.underlying353
set_option maxRecDepth 100000 in
theorem add_root1 (G T:Nat) (val:List UInt8) (prio:Int) (w:World) (hR:RootAt G T w) (hG:GenM G w) (hT:TableAt T none none none none w) (hne:G≠T):
 Calls Tryz.prog 312 #[.pointer (some ⟨G,0,none⟩), .string ⟨#[37,50,101]⟩, .string ⟨val.toArray⟩, .int .i64 prio, .pointer (some ⟨G,0,none⟩)] w fun e w'=>e= .returned (.tuple #[])∧
  (TableAt T (some ⟨w.heap.size,0,none⟩) none none none w'∧NodeAt w.heap.size [] 0 [50,101] (some ⟨w.heap.size+1,0,none⟩) nilT w'∧NodeAt (w.heap.size+1) val prio [] none nilT w'∧KeptX w.heap.size T w w'):=by
 have k2:=hR.pre
 have k4:=hR.tab
 have g37:=hG.pct
 have hneq:=neq_tab
 have T0:w.cell? ⟨T,0,none⟩=some (.pointer none):=hT.cell 0
 have U0:=hT.free 0
 have hTl:=hT.lt
 have hGl:=hG.lt
 have hwd:w.drew.heap=w.heap:=rfl
 have B1:=hT.set (a':=some ⟨w.heap.size,0,none⟩) (b':=none) (c':=none) (d':=none) 0 (.pointer (some ⟨w.heap.size,0,none⟩)) rfl
 go_enter Tryz.func312,Tryz.ntmps312
 go_wp2_with fail
 go_region
 all_goals
  go_upto_region 31 with fail;obtain⟨V1,hV1⟩:∃V,((w.setCell ⟨T,0,none⟩ (.pointer (some ⟨w.heap.size,0,none⟩))).alloc (.cells #[.string ⟨#[]⟩, .int .i64 0, .string ⟨#[]⟩, .pointer none, .slice none 0 0] 355)).drew=V:=⟨_,rfl⟩;rw[hV1];have z1:(w.setCell ⟨T,0,none⟩ (.pointer (some ⟨w.heap.size,0,none⟩))).heap.size=w.heap.size:=World.size_setCell ..;have a1:∀i,i<w.heap.size→i≠T→V1.heap[i]?=w.heap[i]?:=fun i hi hit=>by rw[←hV1];exact(Lib.alloc_old _ _ i (by rw[z1];exact hi)).trans (Below.heap_setCell _ _ _ _ (by exact hit))
  have s1:V1.heap.size=w.heap.size+1:=by rw[←hV1];show(World.alloc _ _).heap.size=_;rw[World.size_alloc,z1]
  have n1:NodeAt w.heap.size [] 0 [] none nilT V1:=by
   have:=heap_alloc_new (w.setCell ⟨T,0,none⟩ (.pointer (some ⟨w.heap.size,0,none⟩))) (.cells #[.string ⟨#[]⟩, .int .i64 0, .string ⟨#[]⟩, .pointer none, .slice none 0 0] 355);rw[z1]at this;rw[←hV1];exact this
  have B2:TableAt T (some ⟨w.heap.size,0,none⟩) none none none V1:=by rw[←hV1];exact B1.of (Lib.alloc_old _ _ T (by rw[z1];exact hTl))
  have b1:Below T w V1:=by rw[←hV1];exact(((Below.refl T w).setCell (p:=⟨T,0,none⟩) (Nat.le_refl _) _).alloc (by rw[z1];omega) _).drew
  have R1:=hR.of (a1 G hGl hne);have r4:=R1.tab;have c0:V1.cell? ⟨T,0,none⟩=some (.pointer (some ⟨w.heap.size,0,none⟩)):=B2.cell 0;have ca:=add_new w.heap.size [50,101] val prio (.pointer (some ⟨G,0,none⟩)) V1.drew (by simp) n1;have hd:V1.drew.heap.size=w.heap.size+1:=s1;clear hV1 B1 k2 k4 g37 T0 U0 hwd n1 z1;go_region_with(go_at_call 312;refine ca.mono ?_;rintro e V2 ⟨rfl,N1,N2,K2⟩)
  all_goals
   rw[hd]at N1 N2 K2;have B3:=B2.of (K2.2 T (by omega) (by omega));have hK:KeptX w.heap.size T w V2:=⟨b1.trans ((Below.refl T V1).drew.trans (K2.1.mono (by omega))),fun i hi hit=>(K2.2 i (by omega) (by omega)).trans (a1 i hi hit)⟩;clear ca K2 B2 b1 a1 c0 r4 R1 hR hG hT;go_wp2_with fail
   first|go_end0|refine bodyPost_ret (results_none rfl _ _ _) rfl ?_
   exact⟨rfl,B3,N1,N2,hK⟩
set_option maxRecDepth 100000 in
theorem add_root2 (G T M N:Nat) (val:List UInt8) (prio:Int) (w:World) (hR:RootAt G T w) (hG:GenM G w) (hT:TableAt T (some ⟨M,0,none⟩) none none none w) (hM:NodeAt M [] 0 [50,101] (some ⟨N,0,none⟩) nilT w) (hne:G≠M):
 Calls Tryz.prog 312 #[.pointer (some ⟨G,0,none⟩), .string ⟨#[37,50,69]⟩, .string ⟨val.toArray⟩, .int .i64 prio, .pointer (some ⟨G,0,none⟩)] w fun e w'=>e= .returned (.tuple #[])∧
  (NodeAt M [] 0 [50] (some ⟨w.heap.size,0,none⟩) nilT w'∧NodeAt w.heap.size [] 0 [] none (.slice (some ⟨w.heap.size+2,0,none⟩) 4 4) w'∧TableAt (w.heap.size+2) none none (some ⟨w.heap.size+1,0,none⟩) (some ⟨N,0,none⟩) w'∧NodeAt (w.heap.size+1) val prio [] none nilT w'∧KeptX w.heap.size M w w'):=by
 have k2:=hR.pre
 have k4:=hR.tab
 have g37:=hG.pct
 have hneq:=neq_tab
 have T0:w.cell? ⟨T,0,none⟩=some (.pointer (some ⟨M,0,none⟩)):=hT.cell 0
 have ca:=add_mid M G N val prio w.drew.drew hM (hG.of rfl) hne
 have hd:w.drew.drew.heap.size=w.heap.size:=rfl
 go_enter Tryz.func312,Tryz.ntmps312
 go_wp2_with fail
 go_region
 all_goals
  go_wp2_with fail;go_region_with(go_at_call 312;refine ca.mono ?_;rintro e V2 ⟨rfl,N1,N2,N3,N4,K2⟩)
  all_goals
   rw[hd]at N1 N2 N3 N4 K2;have hK:KeptX w.heap.size M w V2:=⟨(Below.refl M w).drew.drew.trans K2.1,K2.2⟩;clear ca K2 hR hG hT hM;go_wp2_with fail
   first|go_end0|refine bodyPost_ret (results_none rfl _ _ _) rfl ?_
   exact⟨rfl,N1,N2,N3,N4,hK⟩
def dotsL:List (List UInt8):=[[37,50,101],[46],[37,50,69],[46]]
def rowU (F:Nat→Nat):List Value:=(List.range 256).map fun k=> .int .u8 (F k:Int)
theorem rowU_len (F:Nat→Nat):(rowU F).length=256:=by simp[rowU]
theorem rowU_get (F:Nat→Nat) {k:Nat} (h:k<256):(rowU F)[k]?=some (.int .u8 (F k:Int)):=by
 unfold rowU;rw[List.getElem?_map,List.getElem?_range h];rfl
theorem rowU_set (F:Nat→Nat) (x:Nat) {k:Nat} (h:k<256):(rowU F).set k (.int .u8 (x:Int))=rowU fun j=>if j=k then x else F j:=by
 unfold rowU;apply List.ext_getElem?;intro i;rw[List.getElem?_set];by_cases hi:i<256
 ·rw[List.getElem?_map,List.getElem?_map,List.getElem?_range hi]
  by_cases hk:k=i
  ·subst hk;simp[h]
  ·rw[if_neg hk];simp[Ne.symm hk]
 ·rw[List.getElem?_eq_none (by simp;omega),List.getElem?_eq_none (by simp;omega),if_neg (by omega)]
def genC (tab:Value) (ts:Nat) (F:Nat→Nat):List Value:=[.string ⟨#[]⟩, .int .i64 0, .string ⟨#[]⟩, .pointer none,tab, .int .i64 (ts:Int)]++rowU F
def GenAt (G:Nat) (tab:Value) (ts:Nat) (F:Nat→Nat) (w:World):Prop:=w.heap[G]?=some (.cells (genC tab ts F).toArray 357 (0,0))
theorem GenAt.lt {G tab ts F} {w:World} (h:GenAt G tab ts F w):G<w.heap.size:=(Array.getElem?_eq_some_iff.1 h).1
theorem GenAt.of {G tab ts F} {w w':World} (h:GenAt G tab ts F w) (e:w'.heap[G]?=w.heap[G]?):GenAt G tab ts F w':=e.trans h
theorem GenAt.free {G tab ts F} {w:World} (h:GenAt G tab ts F w) (k:Nat):w.frozen? ⟨G,k,none⟩=false:=Lib.frozen_of_heap h k
theorem GenAt.map {G tab ts F} {w:World} (h:GenAt G tab ts F w) {k:Nat} (hk:k<256):w.cell? ⟨G,6+k,none⟩=some (.int .u8 (F k:Int)):=by
 rw[Lib.cell_of_heap h,List.getElem?_toArray,genC,List.getElem?_append_right (by simp)];simp only[List.length_cons,List.length_nil,Nat.add_sub_cancel_left];exact rowU_get F hk
theorem GenAt.head {G tab ts F} {w:World} (h:GenAt G tab ts F w) {k:Nat} (hk:k<6):w.cell? ⟨G,k,none⟩=([Value.string ⟨#[]⟩, .int .i64 0, .string ⟨#[]⟩, .pointer none,tab, .int .i64 (ts:Int)]:List Value)[k]?:=by
 rw[Lib.cell_of_heap h,List.getElem?_toArray,genC,List.getElem?_append_left (by simpa using hk)]
theorem GenAt.put {G tab ts F} {w:World} (h:GenAt G tab ts F w) {k:Nat} (hk:k<256) (x:Nat):GenAt G tab ts (fun j=>if j=k then x else F j) (w.setCell ⟨G,6+k,none⟩ (.int .u8 (x:Int))):=by
 unfold GenAt;rw[hset_in h,List.setIfInBounds_toArray,genC,List.set_append_right _ _ (by simp)];simp only[List.length_cons,List.length_nil,Nat.add_sub_cancel_left];rw[rowU_set F x hk];rfl
theorem GenAt.sum {G tab ts F} {w:World} (h:GenAt G tab ts F w) (x:Nat):GenAt G tab x F (w.setCell ⟨G,5,none⟩ (.int .i64 (x:Int))):=by
 unfold GenAt;rw[hset_in h,List.setIfInBounds_toArray];rfl
theorem GenAt.root {G tab ts F} {w:World} (h:GenAt G tab ts F w) (x:Value):GenAt G x ts F (w.setCell ⟨G,4,none⟩ x):=by
 unfold GenAt;rw[hset_in h,List.setIfInBounds_toArray];rfl
theorem GenAt.range {G tab ts F} {w:World} (h:GenAt G tab ts F w):w.rangeAt G 6 (rowU F):=fun j v hv=>by
 have hj:j<256:=by have:=(List.getElem?_eq_some_iff.1 hv).1;rw[rowU_len]at this;exact this
 rw[h.map hj,←rowU_get F hj,hv]
theorem index_arr (A:Array Value) (k:Nat) (v:Value) (w:World) (hk:k<256) (h:A[k]?=some v):(Instr.index 310 (.agg A) (.int .i64 (k:Int))).run Tryz.prog w= .ok v w:=by
 obtain⟨i,hi,hz,hsize,hby⟩:=e_u8t.hi;have h1:(0:Int)≤(k:Int)∧(k:Int)<256:=⟨by omega,by omega⟩;simp[Instr.index,asIntOf,run_underlying Tryz.underlying310,run_underlying Tryz.underlying5,part,isAgg,sizeOf,typeInfo,hi,hsize,hk,h]
def markF (j:Nat):Nat:=if j=37∨(j=50∨(j=101∨j=69))then 1 else 0
def cntM (k:Nat):Nat:=((List.range k).map markF).sum
theorem cntM_succ (k:Nat):cntM (k+1)=cntM k+markF k:=by
 unfold cntM;rw[List.range_succ,List.map_append,List.sum_append];simp
theorem cntM_all:cntM 256=4:=by decide+kernel
theorem cntM_le (k:Nat):cntM k≤k:=by
 induction k with
 |zero=>exact Nat.le_refl _
 |succ k ih=>rw[cntM_succ];unfold markF;split<;>omega
theorem cntM_le4:∀k:Fin 257,cntM k.val≤4:=by decide+kernel
def mapF (j:Nat):Nat:=if markF j=0 then 4 else cntM j
def stepF (k j:Nat):Nat:=if j<k then mapF j else markF j
theorem stepF_zero:stepF 0=markF:=by funext j;simp[stepF]
theorem stepF_zero_at {k:Nat} (h:markF k=0):(fun j=>if j=k then 4 else stepF k j)=stepF (k+1):=by
 funext j
 unfold stepF;by_cases e:j=k
 ·subst e;rw[if_pos rfl,if_pos (by omega),mapF,if_pos h]
 ·rw[if_neg e]
  by_cases l:j<k
  ·rw[if_pos l,if_pos (by omega)]
  ·rw[if_neg l,if_neg (by omega)]
theorem stepF_one_at {k:Nat} (h:markF k=1):(fun j=>if j=k then cntM k else stepF k j)=stepF (k+1):=by
 funext j
 unfold stepF;by_cases e:j=k
 ·subst e;rw[if_pos rfl,if_pos (by omega),mapF,if_neg (by omega)]
 ·rw[if_neg e]
  by_cases l:j<k
  ·rw[if_pos l,if_pos (by omega)]
  ·rw[if_neg l,if_neg (by omega)]
theorem stepF_all:rowU (stepF 256)=rowU mapF:=by
 unfold rowU;refine List.map_congr_left fun j hj=> ?_
 rw[List.mem_range]at hj;rw[stepF,if_pos hj]
theorem map_at:mapF 37=0∧mapF 50=1∧mapF 69=2∧mapF 101=3:=by decide+kernel
theorem GenAt.genM {G tab} {w:World} (h:GenAt G tab 4 mapF w):GenM G w:=by
 obtain⟨m1,m2,m3,m4⟩:=map_at;have a:=h.map (k:=37) (by omega);have b:=h.map (k:=50) (by omega);have c:=h.map (k:=69) (by omega);have d:=h.map (k:=101) (by omega);rw[m1]at a;rw[m2]at b;rw[m3]at c;rw[m4]at d;exact⟨h.head (k:=5) (by omega),a,b,c,d⟩
theorem GenAt.rootAt {G T ts F} {w:World} (h:GenAt G (.slice (some ⟨T,0,none⟩) 4 4) ts F w):RootAt G T w:=⟨h.head (k:=2) (by omega),h.head (k:=4) (by omega)⟩
def TrieIs (n:Nat) (w:World):Prop:=
 ∃m,n+4≤m∧GenAt n (.slice (some ⟨n+1,0,none⟩) 4 4) 4 mapF w∧TableAt (n+1) (some ⟨n+2,0,none⟩) none none none w∧NodeAt (n+2) [] 0 [50] (some ⟨m,0,none⟩) nilT w∧
  NodeAt m [] 0 [] none (.slice (some ⟨m+2,0,none⟩) 4 4) w∧TableAt (m+2) none none (some ⟨m+1,0,none⟩) (some ⟨n+3,0,none⟩) w∧NodeAt (n+3) [46] 4 [] none nilT w∧NodeAt (m+1) [46] 2 [] none nilT w
set_option maxRecDepth 100000 in
theorem gen_made (n g c:Nat) (w:World) (hw:w.heap.size=n) (hg:g<n) (hc:∀j u,(strV dotsL)[j]?=some u→w.cell? ⟨g,j,none⟩=some u):
 Calls Tryz.prog 278 #[.slice (some ⟨g,0,none⟩) 4 c] w fun e w'=>e= .returned (.pointer (some ⟨n,0,none⟩))∧(Below n w w'∧TrieIs n w'):=by
 have d0:∀W',Below n w W'→W'.cell? ⟨g,0,none⟩=some (.string ⟨#[37,50,101]⟩):=fun W' hb=>(hb.cell (p:=⟨g,0,none⟩) hg).trans (hc 0 _ rfl)
 have d1:∀W',Below n w W'→W'.cell? ⟨g,1,none⟩=some (.string ⟨#[46]⟩):=fun W' hb=>(hb.cell (p:=⟨g,1,none⟩) hg).trans (hc 1 _ rfl)
 have d2:∀W',Below n w W'→W'.cell? ⟨g,2,none⟩=some (.string ⟨#[37,50,69]⟩):=fun W' hb=>(hb.cell (p:=⟨g,2,none⟩) hg).trans (hc 2 _ rfl)
 have d3:∀W',Below n w W'→W'.cell? ⟨g,3,none⟩=some (.string ⟨#[46]⟩):=fun W' hb=>(hb.cell (p:=⟨g,3,none⟩) hg).trans (hc 3 _ rfl)
 have hZ:Tryz.zeroCells357=(genC (.slice none 0 0) 0 fun _=>0).toArray:=by kernel_rfl
 obtain⟨V0,hV0⟩:∃V,w.alloc (.cells Tryz.zeroCells357 357)=V:=⟨_,rfl⟩
 have h0:GenAt n nilT 0 (fun _=>0) V0:=by have:=heap_alloc_new w (.cells Tryz.zeroCells357 357);rw[hV0,hw,hZ]at this;exact this
 have b0:Below n w V0:=by rw[←hV0];exact(Below.refl n w).alloc (by omega) _
 have s0:V0.heap.size=n+1:=by rw[←hV0,World.size_alloc,hw]
 clear hZ hc
 go_enter Tryz.func278,Tryz.ntmps278
 go_wp2_with fail
 clear hV0
 refine wp_loop_rounds 3 ?_
 have e0:=d0 _ b0
 rw[rounds_succ]
 go_wp2_with fail
 clear e0
 refine wp_loop_rounds 4 ?_
 have q0:V0.cell? ⟨n,43,none⟩=some _:=h0.map (k:=37) (by omega)
 have z0:V0.frozen? ⟨n,43,none⟩=false:=h0.free 43
 rw[rounds_succ]
 go_wp2_with fail
 go_region
 go_wp2_with fail
 obtain⟨V1,hV1⟩:∃V,(V0.setCell ⟨n,43,none⟩ (.int .u8 1)).drew=V:=⟨_,rfl⟩
 rw[hV1]
 have p0:=h0.put (k:=37) (by omega) 1
 have h1:=p0.of (w':=V1) (by rw[←hV1];rfl)
 have b1:Below n w V1:=by rw[←hV1];exact(b0.setCell (p:=⟨n,43,none⟩) (Nat.le_refl _) _).drew
 have s1:V1.heap.size=n+1:=by rw[←hV1];show(World.setCell _ _ _).heap.size=_;rw[World.size_setCell];exact s0
 clear p0 hV1 h0 b0 s0 q0 z0
 have q1:V1.cell? ⟨n,56,none⟩=some _:=h1.map (k:=50) (by omega)
 have z1:V1.frozen? ⟨n,56,none⟩=false:=h1.free 56
 rw[rounds_succ]
 go_wp2_with fail
 go_region
 go_wp2_with fail
 obtain⟨V2,hV2⟩:∃V,(V1.setCell ⟨n,56,none⟩ (.int .u8 1)).drew=V:=⟨_,rfl⟩
 rw[hV2]
 have p1:=h1.put (k:=50) (by omega) 1
 have h2:=p1.of (w':=V2) (by rw[←hV2];rfl)
 have b2:Below n w V2:=by rw[←hV2];exact(b1.setCell (p:=⟨n,56,none⟩) (Nat.le_refl _) _).drew
 have s2:V2.heap.size=n+1:=by rw[←hV2];show(World.setCell _ _ _).heap.size=_;rw[World.size_setCell];exact s1
 clear p1 hV2 h1 b1 s1 q1 z1
 have q2:V2.cell? ⟨n,107,none⟩=some _:=h2.map (k:=101) (by omega)
 have z2:V2.frozen? ⟨n,107,none⟩=false:=h2.free 107
 rw[rounds_succ]
 go_wp2_with fail
 go_region
 go_wp2_with fail
 obtain⟨V3,hV3⟩:∃V,(V2.setCell ⟨n,107,none⟩ (.int .u8 1)).drew=V:=⟨_,rfl⟩
 rw[hV3]
 have p2:=h2.put (k:=101) (by omega) 1
 have h3:=p2.of (w':=V3) (by rw[←hV3];rfl)
 have b3:Below n w V3:=by rw[←hV3];exact(b2.setCell (p:=⟨n,107,none⟩) (Nat.le_refl _) _).drew
 have s3:V3.heap.size=n+1:=by rw[←hV3];show(World.setCell _ _ _).heap.size=_;rw[World.size_setCell];exact s2
 clear p2 hV3 h2 b2 s2 q2 z2
 rw[rounds_succ]
 go_wp2_with fail
 have e1:=d2 _ b3
 rw[rounds_succ]
 go_wp2_with fail
 clear e1
 refine wp_loop_rounds 4 ?_
 have q3:V3.cell? ⟨n,43,none⟩=some _:=h3.map (k:=37) (by omega)
 have z3:V3.frozen? ⟨n,43,none⟩=false:=h3.free 43
 rw[rounds_succ]
 go_wp2_with fail
 go_region
 go_wp2_with fail
 obtain⟨V4,hV4⟩:∃V,(V3.setCell ⟨n,43,none⟩ (.int .u8 1)).drew=V:=⟨_,rfl⟩
 rw[hV4]
 have p3:=h3.put (k:=37) (by omega) 1
 have h4:=p3.of (w':=V4) (by rw[←hV4];rfl)
 have b4:Below n w V4:=by rw[←hV4];exact(b3.setCell (p:=⟨n,43,none⟩) (Nat.le_refl _) _).drew
 have s4:V4.heap.size=n+1:=by rw[←hV4];show(World.setCell _ _ _).heap.size=_;rw[World.size_setCell];exact s3
 clear p3 hV4 h3 b3 s3 q3 z3
 have q4:V4.cell? ⟨n,56,none⟩=some _:=h4.map (k:=50) (by omega)
 have z4:V4.frozen? ⟨n,56,none⟩=false:=h4.free 56
 rw[rounds_succ]
 go_wp2_with fail
 go_region
 go_wp2_with fail
 obtain⟨V5,hV5⟩:∃V,(V4.setCell ⟨n,56,none⟩ (.int .u8 1)).drew=V:=⟨_,rfl⟩
 rw[hV5]
 have p4:=h4.put (k:=50) (by omega) 1
 have h5:=p4.of (w':=V5) (by rw[←hV5];rfl)
 have b5:Below n w V5:=by rw[←hV5];exact(b4.setCell (p:=⟨n,56,none⟩) (Nat.le_refl _) _).drew
 have s5:V5.heap.size=n+1:=by rw[←hV5];show(World.setCell _ _ _).heap.size=_;rw[World.size_setCell];exact s4
 clear p4 hV5 h4 b4 s4 q4 z4
 have q5:V5.cell? ⟨n,75,none⟩=some _:=h5.map (k:=69) (by omega)
 have z5:V5.frozen? ⟨n,75,none⟩=false:=h5.free 75
 rw[rounds_succ]
 go_wp2_with fail
 go_region
 go_wp2_with fail
 obtain⟨V6,hV6⟩:∃V,(V5.setCell ⟨n,75,none⟩ (.int .u8 1)).drew=V:=⟨_,rfl⟩
 rw[hV6]
 have p5:=h5.put (k:=69) (by omega) 1
 have h6:=p5.of (w':=V6) (by rw[←hV6];rfl)
 have b6:Below n w V6:=by rw[←hV6];exact(b5.setCell (p:=⟨n,75,none⟩) (Nat.le_refl _) _).drew
 have s6:V6.heap.size=n+1:=by rw[←hV6];show(World.setCell _ _ _).heap.size=_;rw[World.size_setCell];exact s5
 clear p5 hV6 h5 b5 s5 q5 z5
 rw[rounds_succ]
 go_wp2_with fail
 rw[rounds_succ]
 go_wp2_with fail
 have hF:(fun j=>if j=69 then 1 else if j=50 then 1 else if j=37 then 1 else if j=101 then 1 else if j=50 then 1 else if j=37 then 1 else 0)=markF:=by
  funext j
  unfold markF
  repeat' split
  all_goals first|rfl|omega
 rw[hF]at h6
 clear hF
 refine wp_load_mid 310 (.tmp 39) rfl n 6 rfl (rowU markF) _ h6.range Tryz.underlying310 rfl (by kernel_rfl) ?_
 obtain⟨A,hA⟩:∃A,(rowU markF).toArray=A:=⟨_,rfl⟩
 rw[hA]
 have hAg:∀k,k<256→A[k]?=some (.int .u8 (markF k:Int)):=fun k hk=>by rw[←hA,List.getElem?_toArray];exact rowU_get markF hk
 have HA:=Lib.hid hA
 clear hA
 go_wp2_with fail
 go_loopw [41] (fun a41 wr=>∃k:Nat,k≤256∧a41= .int .i64 k∧GenAt n nilT (cntM k) markF wr∧Below n w wr∧wr.heap.size=n+1) (fun i _=>256-(intOf i).toNat)
 case atStart=>exact⟨0,Nat.zero_le _,rfl,h6,b6,s6⟩
 case round=>
  obtain⟨k,hk,rfl,hG,hb,hs⟩:=hrel;obtain⟨V,rfl⟩:∃V,V=wr:=⟨wr,rfl⟩;clear h6 b6 s6;by_cases hlt:k<256
  ·have hki:(k:Int)<256:=by omega
   have hx:=index_arr A k _ V hlt (hAg k hlt);have c5:V.cell? ⟨n,5,none⟩=some (.int .i64 (cntM k:Int)):=hG.head (k:=5) (by omega);have f5:=hG.free 5;have hle:=cntM_le k;have hm:markF k≤1:=by unfold markF;split<;>omega
   have hG2:=hG.sum (cntM k+markF k);rw[←cntM_succ]at hG2;have HG:Hid (GenAt n nilT (cntM (k+1)) markF (V.setCell ⟨n,5,none⟩ (.int .i64 ((cntM (k+1):Nat):Int)))):=hG2;have HS:Hid (((cntM (k+1):Nat):Int)=(cntM k:Int)+(markF k:Int)):=by show _=_;rw[cntM_succ];omega
   have hb2:=hb.setCell (p:=⟨n,5,none⟩) (Nat.le_refl _) (.int .i64 ((cntM (k+1):Nat):Int));clear hG2 hAg hG;go_wp2_with fail;go_roundw
   case rel=>
    rw[←HS.out];exact⟨k+1,by omega,by go_num,HG.out,hb2,by rw[World.size_setCell];exact hs⟩
   case measure=>simp[intOf];omega
  ·have hki:¬(k:Int)<256:=by omega
   have hk256:k=256:=by omega
   subst hk256;rw[cntM_all]at hG;go_wp2_with fail;refine wp_load_mid 310 (.tmp 56) rfl n 6 rfl (rowU markF) _ hG.range Tryz.underlying310 rfl (by kernel_rfl) ?_;rw[HA.out];go_wp2_with fail;go_loopw [9,58] (fun a9 a58 wr=>∃k:Nat,k≤256∧a58= .int .i64 k∧a9= .int .u8 (cntM k:Int)∧GenAt n nilT 4 (stepF k) wr∧Below n w wr∧wr.heap.size=n+1) (fun _ i _=>256-(intOf i).toNat)
   case atStart=>exact⟨0,Nat.zero_le _,rfl,rfl,by rw[stepF_zero];exact hG,hb,hs⟩
   case round=>
    clear hG hb hs hki hlt hk;obtain⟨k,hk,rfl,rfl,hG,hb,hs⟩:=hrel;obtain⟨V,rfl⟩:∃V,V=wr:=⟨wr,rfl⟩;by_cases hlt:k<256
    ·have hki:(k:Int)<256:=by omega
     have hx:=index_arr A k _ V hlt (hAg k hlt);have c5:V.cell? ⟨n,5,none⟩=some (.int .i64 4):=hG.head (k:=5) (by omega);have ck:=hG.map hlt;have fk:=hG.free (6+k);have h4:=cntM_le4 ⟨k,by omega⟩;simp only at h4;have hm:markF k≤1:=by unfold markF;split<;>omega
     clear hAg;by_cases h0:markF k=0
     ·rw[h0]at hx
      have hG2:=hG.put hlt 4;rw[stepF_zero_at h0]at hG2;have hb2:=hb.setCell (p:=⟨n,6+k,none⟩) (Nat.le_refl _) (.int .u8 (4:Nat));have HS:Hid (cntM (k+1)=cntM k):=by show _=_;rw[cntM_succ,h0];rfl
      have HG:=Lib.hid hG2;clear hG2 hG;go_wp2_with fail;go_region
      all_goals
       go_wp2_with fail;go_roundw
       case rel=>exact⟨k+1,by omega,by go_num,by rw[HS.out],HG.out.of rfl,hb2.drew,by show(World.setCell _ _ _).heap.size=_;rw[World.size_setCell];exact hs⟩
       case measure=>simp[intOf];omega
     ·have h1:markF k=1:=by omega
      rw[h1]at hx;have hG2:=hG.put hlt (cntM k);rw[stepF_one_at h1]at hG2;have hb2:=hb.setCell (p:=⟨n,6+k,none⟩) (Nat.le_refl _) (.int .u8 ((cntM k:Nat):Int));have HS:Hid (cntM (k+1)=cntM k+1):=by show _=_;rw[cntM_succ,h1]
      have HG:=Lib.hid hG2;clear hG2 hG;go_wp2_with fail;go_roundw
      case rel=>exact⟨k+1,by omega,by go_num,by rw[HS.out];go_num,HG.out,hb2,by rw[World.size_setCell];exact hs⟩
      case measure=>simp[intOf];omega
    ·have hki:¬(k:Int)<256:=by omega
     have hk256:k=256:=by omega
     subst hk256;have hG3:=hG;rw[GenAt,genC,stepF_all]at hG3;have hG4:GenAt n nilT 4 mapF V:=hG3;clear hG3 hG hAg;have hmk:=make_table V (n+1) hs;obtain⟨U0,hU0⟩:∃U,V.alloc (.cells #[.pointer none, .pointer none, .pointer none, .pointer none] 352)=U:=⟨_,rfl⟩;rw[hU0]at hmk;have T0:TableAt (n+1) none none none none U0:=by rw[←hU0,←hs];exact heap_alloc_new V _
     have g0:=hG4.of (w':=U0) (by rw[←hU0];exact Lib.alloc_old V _ n hG4.lt);have b0:Below n w U0:=by rw[←hU0];exact hb.alloc (by omega) _
     have s0:U0.heap.size=n+2:=by rw[←hU0,World.size_alloc,hs]
     have c4:V.cell? ⟨n,4,none⟩=some nilT:=hG4.head (k:=4) (by omega);have c5:V.cell? ⟨n,5,none⟩=some (.int .i64 4):=hG4.head (k:=5) (by omega);have x4:U0.cell? ⟨n,4,none⟩=some nilT:=g0.head (k:=4) (by omega);have y4:=g0.free 4;have g1:=g0.root (.slice (some ⟨n+1,0,none⟩) 4 4);clear hU0;go_wp2_with fail;obtain⟨U1,hU1⟩:∃U,U0.setCell ⟨n,4,none⟩ (.slice (some ⟨n+1,0,none⟩) 4 4)=U:=⟨_,rfl⟩;rw[hU1]at g1⊢;have T1:=T0.of (w':=U1) (by rw[←hU1];exact Below.heap_setCell _ _ _ _ (by show n+1≠n;omega));have b1:Below n w U1:=by rw[←hU1];exact b0.setCell (p:=⟨n,4,none⟩) (Nat.le_refl _) _
     have s1:U1.drew.heap.size=n+2:=by rw[←hU1];show(World.setCell _ _ _).heap.size=_;rw[World.size_setCell,s0]
     clear hU1 hmk T0 g0 b0 s0 c4 c5 x4 y4 hb hs hG4 HA hk hlt;have e0:=d0 _ b1;have e1:=d1 _ b1;have ca:=add_root1 n (n+1) [46] 4 U1.drew (g1.rootAt.of rfl) (g1.genM.of rfl) T1 (by omega);refine wp_loop_rounds 3 ?_;rw[rounds_succ];go_wp2_with fail;go_region_with(go_at_call 312;refine ca.mono ?_;rintro e W1 ⟨rfl,T2,N1,N2,K1⟩)
     all_goals
      rw[s1]at T2 N1 N2 K1;have g2:=g1.of (w':=W1) (K1.2 n (by omega) (by omega));have b2:Below n w W1:=(b1.drew).trans (K1.1.mono (by omega));have hz:=N2.lt;have e2:=d2 _ b2;have e3:=d3 _ b2;have cb:=add_root2 n (n+1) (n+2) (n+3) [46] 2 W1.drew (g2.rootAt.of rfl) (g2.genM.of rfl) T2 N1 (by omega);have s2:W1.drew.heap.size=W1.heap.size:=rfl;clear ca e0 e1 T1 K1 b1 s1 g1;go_wp2_with fail;rw[rounds_succ];go_wp2_with fail;go_region_with(go_at_call 312;refine cb.mono ?_;rintro e W2 ⟨rfl,M1,M2,M3,M4,K2⟩)
      all_goals
       rw[s2]at M1 M2 M3 M4 K2;have g3:=g2.of (w':=W2) (K2.2 n (by omega) (by omega));have T3:=T2.of (w':=W2) (K2.2 (n+1) (by omega) (by omega));have N3:=N2.of (w':=W2) (K2.2 (n+3) (by omega) (by omega));have b3:Below n w W2:=(b2.drew).trans (K2.1.mono (by omega));clear cb e2 e3 T2 K2 b2 g2 N1 N2;go_wp2_with fail;rw[rounds_succ];go_wp2_with fail;go_ret;exact⟨rfl,b3,W1.heap.size,by omega,g3,T3,M1,M2,M3,N3,M4⟩
def dotB:List UInt8→Bool
 |37::50::c::_=>c==101||c==69
 |_=>false
def lookV (s:List UInt8):Value:=if dotB s=true then .tuple #[.string ⟨#[46]⟩, .int .i64 3, .bool true]else .tuple #[.string ⟨#[]⟩, .int .i64 0, .bool false]
structure LookAt (n m:Nat) (w:World):Prop where
 p0:w.cell? ⟨n,1,none⟩=some (.int .i64 0)
 t0:w.cell? ⟨n,4,none⟩=some (.slice (some ⟨n+1,0,none⟩) 4 4)
 s0:w.cell? ⟨n,5,none⟩=some (.int .i64 4)
 map:∀k,k<256→w.cell? ⟨n,6+k,none⟩=some (.int .u8 (mapF k:Int))
 a0:w.cell? ⟨n+1,0,none⟩=some (.pointer (some ⟨n+2,0,none⟩))
 a1:w.cell? ⟨n+1,1,none⟩=some (.pointer none)
 a2:w.cell? ⟨n+1,2,none⟩=some (.pointer none)
 a3:w.cell? ⟨n+1,3,none⟩=some (.pointer none)
 b1:w.cell? ⟨n+2,1,none⟩=some (.int .i64 0)
 b2:w.cell? ⟨n+2,2,none⟩=some (.string ⟨#[50]⟩)
 b3:w.cell? ⟨n+2,3,none⟩=some (.pointer (some ⟨m,0,none⟩))
 b4:w.cell? ⟨n+2,4,none⟩=some nilT
 c1:w.cell? ⟨m,1,none⟩=some (.int .i64 0)
 c4:w.cell? ⟨m,4,none⟩=some (.slice (some ⟨m+2,0,none⟩) 4 4)
 e0:w.cell? ⟨m+2,0,none⟩=some (.pointer none)
 e1:w.cell? ⟨m+2,1,none⟩=some (.pointer none)
 e2:w.cell? ⟨m+2,2,none⟩=some (.pointer (some ⟨m+1,0,none⟩))
 e3:w.cell? ⟨m+2,3,none⟩=some (.pointer (some ⟨n+3,0,none⟩))
 f0:w.cell? ⟨n+3,0,none⟩=some (.string ⟨#[46]⟩)
 f1:w.cell? ⟨n+3,1,none⟩=some (.int .i64 4)
 f2:w.cell? ⟨n+3,2,none⟩=some (.string ⟨#[]⟩)
 f4:w.cell? ⟨n+3,4,none⟩=some nilT
 g0:w.cell? ⟨m+1,0,none⟩=some (.string ⟨#[46]⟩)
 g1:w.cell? ⟨m+1,1,none⟩=some (.int .i64 2)
 g2:w.cell? ⟨m+1,2,none⟩=some (.string ⟨#[]⟩)
 g4:w.cell? ⟨m+1,4,none⟩=some nilT
 le:n+4≤m
theorem TrieIs.look {n:Nat} {w:World} (h:TrieIs n w):∃m,LookAt n m w:=by
 obtain⟨m,hm,hG,hT,hN,hM,hU,hA,hB⟩:=h;exact⟨m,⟨hG.head (k:=1) (by omega),hG.head (k:=4) (by omega),hG.head (k:=5) (by omega),fun k hk=>hG.map hk,hT.cell 0,hT.cell 1,hT.cell 2,hT.cell 3,hN.cell 1,hN.cell 2,hN.cell 3,hN.cell 4,hM.cell 1,hM.cell 4,
  hU.cell 0,hU.cell 1,hU.cell 2,hU.cell 3,hA.cell 0,hA.cell 1,hA.cell 2,hA.cell 4,hB.cell 0,hB.cell 1,hB.cell 2,hB.cell 4,hm⟩⟩
set_option maxRecDepth 100000 in
theorem look_nil (n m:Nat) (w:World) (h:LookAt n m w):
 Calls Tryz.prog 391 #[.pointer (some ⟨n,0,none⟩), .string ⟨#[]⟩, .bool false] w fun e w'=>e= .returned (lookV [])∧Below w.heap.size w w':=by
 have p0:=h.p0
 go_enter Tryz.func391,Tryz.ntmps391
 go_wp2_with fail
 refine wp_loop_rounds 1 ?_
 rw[rounds_succ]
 go_wp2_with fail
 go_ret3
 exact⟨rfl,Below.refl _ _⟩
theorem dotB_c {c:UInt8} {r:List UInt8} (h:c≠50):dotB (37::c::r)=false:=by
 unfold dotB;split
 ·rename_i e;injection e with e1 e2;injection e2 with e2 e3;exact absurd e2 h
 ·rfl
theorem dotB_d {d:UInt8} {r:List UInt8} (h1:d≠101) (h2:d≠69):dotB (37::50::d::r)=false:=by
 show(d==101||d==69)=false;simp[h1,h2]
set_option maxRecDepth 100000 in
theorem look_one (n m:Nat) (w:World) (h:LookAt n m w):
 Calls Tryz.prog 391 #[.pointer (some ⟨n,0,none⟩), .string ⟨([37]).toArray⟩, .bool false] w fun e w'=>e= .returned (lookV ([37]))∧Below w.heap.size w w':=by
 obtain⟨p0,t0,s0,map,a0,a1,a2,a3,b1,b2,b3,b4,c1,c4,e0,e1,e2,e3,f0,f1,f2,f4,g0,g1,g2,g4,le⟩:=h
 have hneq:=neq_tab
 obtain⟨q1,q2,q3,q4⟩:=map_at
 have m37:=map 37 (by omega)
 rw[q1]at m37
 clear map
 go_enter Tryz.func391,Tryz.ntmps391
 go_wp2_with fail
 refine wp_loop_rounds 2 ?_
 rw[rounds_succ]
 go_wp2_with fail
 go_region
 go_wp2_with fail
 rw[rounds_succ]
 go_wp2_with fail
 all_goals
  go_ret3;exact⟨rfl,(Below.refl _ _).drew⟩
set_option maxRecDepth 100000 in
theorem look_c (n m:Nat) (c:UInt8) (r:List UInt8) (hc:c≠50) (w:World) (h:LookAt n m w):
 Calls Tryz.prog 391 #[.pointer (some ⟨n,0,none⟩), .string ⟨(37::c::r).toArray⟩, .bool false] w fun e w'=>e= .returned (lookV (37::c::r))∧Below w.heap.size w w':=by
 obtain⟨p0,t0,s0,map,a0,a1,a2,a3,b1,b2,b3,b4,c1,c4,e0,e1,e2,e3,f0,f1,f2,f4,g0,g1,g2,g4,le⟩:=h
 have hneq:=neq_tab
 obtain⟨q1,q2,q3,q4⟩:=map_at
 have m37:=map 37 (by omega)
 rw[q1]at m37
 clear map
 have cp:=fun W=>(Tryz.strings_HasPrefix ⟨(c::r).toArray⟩ ⟨#[50]⟩ W).mono (R':=fun e w'=>e= .returned (.bool false)∧W=w') fun e w' ⟨he,hw⟩=>⟨by rw[he];simp[Lib.hasPrefix,List.isPrefixOf,beq_eq_false_iff_ne.2 (Ne.symm hc)],hw.symm⟩
 go_enter Tryz.func391,Tryz.ntmps391
 go_wp2_with fail
 refine wp_loop_rounds 2 ?_
 rw[rounds_succ]
 go_wp2_with fail
 go_region
 go_wp2_with fail
 rw[rounds_succ]
 go_wp2_with(go_at_call 69;refine(cp _).mono ?_;rintro e w3 ⟨rfl,rfl⟩)
 all_goals
  go_ret3;exact⟨by unfold lookV;rw[dotB_c hc];rfl,(Below.refl _ _).drew⟩
set_option maxRecDepth 100000 in
theorem look_two (n m:Nat) (w:World) (h:LookAt n m w):
 Calls Tryz.prog 391 #[.pointer (some ⟨n,0,none⟩), .string ⟨([37,50]).toArray⟩, .bool false] w fun e w'=>e= .returned (lookV ([37,50]))∧Below w.heap.size w w':=by
 obtain⟨p0,t0,s0,map,a0,a1,a2,a3,b1,b2,b3,b4,c1,c4,e0,e1,e2,e3,f0,f1,f2,f4,g0,g1,g2,g4,le⟩:=h
 have hneq:=neq_tab
 obtain⟨q1,q2,q3,q4⟩:=map_at
 have m37:=map 37 (by omega)
 rw[q1]at m37
 clear map
 have cp:=fun W=>(Tryz.strings_HasPrefix ⟨([50]).toArray⟩ ⟨#[50]⟩ W).mono (R':=fun e w'=>e= .returned (.bool true)∧W=w') fun e w' ⟨he,hw⟩=>⟨by rw[he];simp[Lib.hasPrefix],hw.symm⟩
 go_enter Tryz.func391,Tryz.ntmps391
 go_wp2_with fail
 refine wp_loop_rounds 3 ?_
 rw[rounds_succ]
 go_wp2_with fail
 go_region
 go_wp2_with fail
 rw[rounds_succ]
 go_wp2_with(go_at_call 69;refine(cp _).mono ?_;rintro e w3 ⟨rfl,rfl⟩)
 rw[rounds_succ]
 go_wp2_with fail
 all_goals
  go_ret3;exact⟨rfl,(Below.refl _ _).drew⟩
set_option maxRecDepth 100000 in
theorem look_e (n m:Nat) (r:List UInt8) (w:World) (h:LookAt n m w):
 Calls Tryz.prog 391 #[.pointer (some ⟨n,0,none⟩), .string ⟨(37::50::101::r).toArray⟩, .bool false] w fun e w'=>e= .returned (lookV (37::50::101::r))∧Below w.heap.size w w':=by
 obtain⟨p0,t0,s0,map,a0,a1,a2,a3,b1,b2,b3,b4,c1,c4,e0,e1,e2,e3,f0,f1,f2,f4,g0,g1,g2,g4,le⟩:=h
 have hneq:=neq_tab
 obtain⟨q1,q2,q3,q4⟩:=map_at
 have m37:=map 37 (by omega)
 rw[q1]at m37
 have m101:=map 101 (by omega)
 rw[q4]at m101
 clear map
 have cp:=fun W=>(Tryz.strings_HasPrefix ⟨(50::101::r).toArray⟩ ⟨#[50]⟩ W).mono (R':=fun e w'=>e= .returned (.bool true)∧W=w') fun e w' ⟨he,hw⟩=>⟨by rw[he];simp[Lib.hasPrefix],hw.symm⟩
 go_enter Tryz.func391,Tryz.ntmps391
 go_wp2_with fail
 refine wp_loop_rounds 4 ?_
 rw[rounds_succ]
 go_wp2_with fail
 go_region
 go_wp2_with fail
 rw[rounds_succ]
 go_wp2_with(go_at_call 69;refine(cp _).mono ?_;rintro e w3 ⟨rfl,rfl⟩)
 rw[rounds_succ]
 go_wp2_with fail
 go_region
 go_wp2_with fail
 rw[rounds_succ]
 go_wp2_with fail
 all_goals
  go_ret3;exact⟨rfl,(Below.refl _ _).drew.drew⟩
set_option maxRecDepth 100000 in
theorem look_E (n m:Nat) (r:List UInt8) (w:World) (h:LookAt n m w):
 Calls Tryz.prog 391 #[.pointer (some ⟨n,0,none⟩), .string ⟨(37::50::69::r).toArray⟩, .bool false] w fun e w'=>e= .returned (lookV (37::50::69::r))∧Below w.heap.size w w':=by
 obtain⟨p0,t0,s0,map,a0,a1,a2,a3,b1,b2,b3,b4,c1,c4,e0,e1,e2,e3,f0,f1,f2,f4,g0,g1,g2,g4,le⟩:=h
 have hneq:=neq_tab
 obtain⟨q1,q2,q3,q4⟩:=map_at
 have m37:=map 37 (by omega)
 rw[q1]at m37
 have m69:=map 69 (by omega)
 rw[q3]at m69
 clear map
 have cp:=fun W=>(Tryz.strings_HasPrefix ⟨(50::69::r).toArray⟩ ⟨#[50]⟩ W).mono (R':=fun e w'=>e= .returned (.bool true)∧W=w') fun e w' ⟨he,hw⟩=>⟨by rw[he];simp[Lib.hasPrefix],hw.symm⟩
 go_enter Tryz.func391,Tryz.ntmps391
 go_wp2_with fail
 refine wp_loop_rounds 4 ?_
 rw[rounds_succ]
 go_wp2_with fail
 go_region
 go_wp2_with fail
 rw[rounds_succ]
 go_wp2_with(go_at_call 69;refine(cp _).mono ?_;rintro e w3 ⟨rfl,rfl⟩)
 rw[rounds_succ]
 go_wp2_with fail
 go_region
 go_wp2_with fail
 rw[rounds_succ]
 go_wp2_with fail
 all_goals
  go_ret3;exact⟨rfl,(Below.refl _ _).drew.drew⟩
set_option maxRecDepth 100000 in
theorem look_pp (n m:Nat) (r:List UInt8) (w:World) (h:LookAt n m w):
 Calls Tryz.prog 391 #[.pointer (some ⟨n,0,none⟩), .string ⟨(37::50::37::r).toArray⟩, .bool false] w fun e w'=>e= .returned (lookV (37::50::37::r))∧Below w.heap.size w w':=by
 obtain⟨p0,t0,s0,map,a0,a1,a2,a3,b1,b2,b3,b4,c1,c4,e0,e1,e2,e3,f0,f1,f2,f4,g0,g1,g2,g4,le⟩:=h
 have hneq:=neq_tab
 obtain⟨q1,q2,q3,q4⟩:=map_at
 have m37:=map 37 (by omega)
 rw[q1]at m37
 clear map
 have cp:=fun W=>(Tryz.strings_HasPrefix ⟨(50::37::r).toArray⟩ ⟨#[50]⟩ W).mono (R':=fun e w'=>e= .returned (.bool true)∧W=w') fun e w' ⟨he,hw⟩=>⟨by rw[he];simp[Lib.hasPrefix],hw.symm⟩
 go_enter Tryz.func391,Tryz.ntmps391
 go_wp2_with fail
 refine wp_loop_rounds 4 ?_
 rw[rounds_succ]
 go_wp2_with fail
 go_region
 go_wp2_with fail
 rw[rounds_succ]
 go_wp2_with(go_at_call 69;refine(cp _).mono ?_;rintro e w3 ⟨rfl,rfl⟩)
 rw[rounds_succ]
 go_wp2_with fail
 go_region
 go_wp2_with fail
 rw[rounds_succ]
 go_wp2_with fail
 all_goals
  go_ret3;exact⟨rfl,(Below.refl _ _).drew.drew⟩
set_option maxRecDepth 100000 in
theorem look_p2 (n m:Nat) (r:List UInt8) (w:World) (h:LookAt n m w):
 Calls Tryz.prog 391 #[.pointer (some ⟨n,0,none⟩), .string ⟨(37::50::50::r).toArray⟩, .bool false] w fun e w'=>e= .returned (lookV (37::50::50::r))∧Below w.heap.size w w':=by
 obtain⟨p0,t0,s0,map,a0,a1,a2,a3,b1,b2,b3,b4,c1,c4,e0,e1,e2,e3,f0,f1,f2,f4,g0,g1,g2,g4,le⟩:=h
 have hneq:=neq_tab
 obtain⟨q1,q2,q3,q4⟩:=map_at
 have m37:=map 37 (by omega)
 rw[q1]at m37
 have m50:=map 50 (by omega)
 rw[q2]at m50
 clear map
 have cp:=fun W=>(Tryz.strings_HasPrefix ⟨(50::50::r).toArray⟩ ⟨#[50]⟩ W).mono (R':=fun e w'=>e= .returned (.bool true)∧W=w') fun e w' ⟨he,hw⟩=>⟨by rw[he];simp[Lib.hasPrefix],hw.symm⟩
 go_enter Tryz.func391,Tryz.ntmps391
 go_wp2_with fail
 refine wp_loop_rounds 4 ?_
 rw[rounds_succ]
 go_wp2_with fail
 go_region
 go_wp2_with fail
 rw[rounds_succ]
 go_wp2_with(go_at_call 69;refine(cp _).mono ?_;rintro e w3 ⟨rfl,rfl⟩)
 rw[rounds_succ]
 go_wp2_with fail
 go_region
 go_wp2_with fail
 rw[rounds_succ]
 go_wp2_with fail
 all_goals
  go_ret3;exact⟨rfl,(Below.refl _ _).drew.drew⟩
set_option maxRecDepth 100000 in
theorem look_d (n m:Nat) (d:UInt8) (r:List UInt8) (hd:mapF d.toNat=4) (h1:d≠101) (h2:d≠69) (w:World) (h:LookAt n m w):
 Calls Tryz.prog 391 #[.pointer (some ⟨n,0,none⟩), .string ⟨(37::50::d::r).toArray⟩, .bool false] w fun e w'=>e= .returned (lookV (37::50::d::r))∧Below w.heap.size w w':=by
 obtain⟨p0,t0,s0,map,a0,a1,a2,a3,b1,b2,b3,b4,c1,c4,e0,e1,e2,e3,f0,f1,f2,f4,g0,g1,g2,g4,le⟩:=h
 have hneq:=neq_tab
 obtain⟨q1,q2,q3,q4⟩:=map_at
 have m37:=map 37 (by omega)
 rw[q1]at m37
 have md:=map d.toNat d.toNat_lt
 rw[hd]at md
 have hd256:=d.toNat_lt
 have hd256i:(d.toNat:Int)<256:=by omega
 clear map
 have cp:=fun W=>(Tryz.strings_HasPrefix ⟨(50::d::r).toArray⟩ ⟨#[50]⟩ W).mono (R':=fun e w'=>e= .returned (.bool true)∧W=w') fun e w' ⟨he,hw⟩=>⟨by rw[he];simp[Lib.hasPrefix],hw.symm⟩
 go_enter Tryz.func391,Tryz.ntmps391
 go_wp2_with fail
 refine wp_loop_rounds 3 ?_
 rw[rounds_succ]
 go_wp2_with fail
 go_region
 go_wp2_with fail
 rw[rounds_succ]
 go_wp2_with(go_at_call 69;refine(cp _).mono ?_;rintro e w3 ⟨rfl,rfl⟩)
 rw[rounds_succ]
 go_wp2_with fail
 go_region
 go_wp2_with fail
 all_goals
  go_ret3;exact⟨by unfold lookV;rw[dotB_d h1 h2];rfl,(Below.refl _ _).drew.drew⟩
theorem mapF_cases:∀d:Fin 256,mapF d.val=4∨d.val=37∨d.val=50∨d.val=69∨d.val=101:=by decide+kernel
theorem look_any (n m:Nat) (s:List UInt8) (w:World) (h:LookAt n m w) (hs:s=[]∨s.head?=some 37):
 Calls Tryz.prog 391 #[.pointer (some ⟨n,0,none⟩), .string ⟨s.toArray⟩, .bool false] w fun e w'=>e= .returned (lookV s)∧Below w.heap.size w w':=by
 match s,hs with
 |[],_=>exact look_nil n m w h
 |[c],hs=>
  have:c=37:=by
   rcases hs with e|e
   ·cases e
   ·simpa using e
  subst this;exact look_one n m w h
 |c::x::s,hs=>
  have:c=37:=by
   rcases hs with e|e
   ·cases e
   ·simpa using e
  subst this;by_cases hx:x=50
  ·subst hx
   cases s with
   |nil=>exact look_two n m w h
   |cons d r=>
    rcases mapF_cases ⟨d.toNat,d.toNat_lt⟩with e|e|e|e|e
    ·refine look_d n m d r e (fun q=> ?_) (fun q=> ?_) w h
     ·subst q;revert e;decide+kernel
     ·subst q;revert e;decide+kernel
    ·have:d=37:=UInt8.toNat_inj.1 e
     subst this;exact look_pp n m r w h
    ·have:d=50:=UInt8.toNat_inj.1 e
     subst this;exact look_p2 n m r w h
    ·have:d=69:=UInt8.toNat_inj.1 e
     subst this;exact look_E n m r w h
    ·have:d=101:=UInt8.toNat_inj.1 e
     subst this;exact look_e n m r w h
  ·exact look_c n m x s hx w h
theorem e_asw:Elem1 Tryz.prog 414 5 (.int .u8 0) 1:=⟨Tryz.underlying414,info_parts (by kernel_rfl),rfl⟩
def BufAt (lo S:Nat) (out:List UInt8) (w:World):Prop:=
 lo≤S∧S<w.heap.size∧∃v,w.heap[S]?=some (.cells #[v] 414 (0,0))∧w.ownsRow lo 5 1 v out.length (Lib.byteCells out)
theorem BufAt.below {lo S:Nat} {out:List UInt8} {w w':World} (h:BufAt lo S out w) (hb:Below w.heap.size w w'):BufAt lo S out w':=by
 obtain⟨h1,h2,v,h3,h4⟩:=h;exact⟨h1,by have:=hb.size;omega,v,(hb.block S h2).trans h3,own_below h4 hb⟩
theorem buf_ne {lo S n:Nat} {x v:Value} {xs:List Value} {w:World} (h:w.heap[S]?=some (.cells #[x] 414 (0,0))) (ho:w.ownsRow lo 5 1 v n xs):v.ownBlock≠some S:=fun e=>by
 rcases ho.2 with ⟨h1,_⟩|⟨g',cap,cur,h1,_,hg,_⟩
 ·rw[h1]at e;cases e
 ·rw[h1]at e
  have e:some g'=some S:=e;injection e with e;rw[e,h]at hg;simp at hg
set_option maxRecDepth 100000 in
theorem write_buf (lo S:Nat) (out s:List UInt8) (w:World) (h:BufAt lo S out w) (hl:out.length+s.length≤10000000000):
 Calls Tryz.prog 401 #[.pointer (some ⟨S,0,none⟩), .string ⟨s.toArray⟩] w fun e w'=>e= .returned (.tuple #[.int .i64 (s.length:Int), .nilIface])∧(BufAt lo S (out++s) w'∧Below lo w w'):=by
 obtain⟨h1,h2,v,h3,h4⟩:=h
 obtain⟨i,hi,hz,hsize,hby⟩:=e_asw.hi
 have c0:w.cell? ⟨S,0,none⟩=some v:=by rw[Lib.cell_of_heap h3];rfl
 obtain⟨a1,c1',rfl⟩:=own_form h4
 have hne:(Value.slice a1 out.length c1').ownBlock≠some S:=buf_ne h3 h4
 have hls:lo≤w.heap.size:=by omega
 have hlow:∀k,(Value.slice a1 out.length c1').ownBlock=some k→lo≤k:=fun k hk=>(h4.lt k hk).1
 go_enter Tryz.func401,Tryz.ntmps401
 go_wp2_with(at_builtin;go_loud(refine Lib.wpList_append_own_string _ rfl _ _ 414 9 rfl lo 5 i Tryz.underlying414 Tryz.underlying9 hi hz hsize hby _ out.length (Lib.byteCells out) rfl h4 ⟨s.toArray⟩ rfl (by show out.length+s.length≤_;unfold maxLen;omega) (by show out.length+s.length≤_;omega) hls ?_;intro v' w' ho hg _;obtain⟨a2,c2',rfl⟩:=own_form ho;have hS:=(hg.block S (by omega) (fun e=>hne e.symm)).trans h3;have c1:w'.cell? ⟨S,0,none⟩=some (.slice a1 out.length c1'):=(by rw[Lib.cell_of_heap hS];rfl);have f1:w'.frozen? ⟨S,0,none⟩=false:=Lib.frozen_of_heap hS 0))
 have hb:Below lo w w':=below_of_grown hg hls hlow
 have hne2:=buf_ne hS ho
 have hfin:BufAt lo S (out++s) (w'.setCell ⟨S,0,none⟩ (.slice a2 (out.length+s.length) c2')):=by
  refine⟨h1,by rw[World.size_setCell];have:=hg.size;omega, .slice a2 (out.length+s.length) c2',by rw[hset_in hS];rfl, ?_⟩;have hown:(w'.setCell ⟨S,0,none⟩ (.slice a2 (out.length+s.length) c2')).ownsRow lo 5 1 (.slice a2 (out.length+s.length) c2') (out.length+s.length) (Lib.byteCells out++Lib.byteCells s):=by
   refine⟨ho.1, ?_⟩;rcases ho.2 with hh|⟨g',cap,cur,k1,k2,k3,rest⟩
   ·exact .inl hh
   ·exact .inr ⟨g',cap,cur,k1,k2,(Below.heap_setCell _ _ _ _ (by show g'≠S;exact fun e=>hne2 (by rw[k1];exact congrArg some e))).trans k3,rest⟩
  rw[List.length_append];have:Lib.byteCells (out++s)=Lib.byteCells out++Lib.byteCells s:=by simp[Lib.byteCells]
  rw[this];exact hown
 have hbf:Below lo w (w'.setCell ⟨S,0,none⟩ (.slice a2 (out.length+s.length) c2')):=hb.setCell (p:=⟨S,0,none⟩) h1 _
 clear h4 ho hg hS h3 hb hi hz hsize hby
 go_ret2
 exact⟨rfl,hfin,hbf⟩
set_option maxRecDepth 100000 in
theorem assert_sw (a:Addr) (w:World):Calls Tryz.prog 390 #[.iface 415 (.pointer (some a))] w fun e w'=>e= .returned (.iface 415 (.pointer (some a)))∧w=w':=by
 have hta:(Instr.typeAssert (.iface 415 (.pointer (some a))) 417 419 true).run Tryz.prog w= .ok (.tuple #[.iface 415 (.pointer (some a)), .bool true]) w:=by kernel_rfl
 have hnot:∀(x:Bool) (w:World),(Op.unary .not (.bool x)).run Tryz.prog w= .ok (.bool (!x)) w:=fun _ _=>rfl
 go_enter Tryz.func390,Tryz.ntmps390;go_wp2_with fail;go_ret;exact⟨rfl,rfl⟩
theorem LookAt.below {n m B:Nat} {w w':World} (h:LookAt n m w) (hb:Below B w w') (hB:m+2<B):LookAt n m w':=by
 have le:=h.le;have c:∀ {b k:Nat} {v:Value},b≤m+2→w.cell? ⟨b,k,none⟩=some v→w'.cell? ⟨b,k,none⟩=some v:=fun {b k v} hbm h=>(hb.cell (p:=⟨b,k,none⟩) (by show b<B;omega)).trans h
 obtain⟨p0,t0,s0,map,a0,a1,a2,a3,b1,b2,b3,b4,c1,c4,e0,e1,e2,e3,f0,f1,f2,f4,g0,g1,g2,g4,_⟩:=h;exact⟨c (by omega) p0,c (by omega) t0,c (by omega) s0,fun k hk=>c (by omega) (map k hk),c (by omega) a0,c (by omega) a1,c (by omega) a2,c (by omega) a3,c (by omega) b1,c (by omega) b2,c (by omega) b3,c (by omega) b4,c (by omega) c1,c (by omega) c4,
  c (by omega) e0,c (by omega) e1,c (by omega) e2,c (by omega) e3,c (by omega) f0,c (by omega) f1,c (by omega) f2,c (by omega) f4,c (by omega) g0,c (by omega) g1,c (by omega) g2,c (by omega) g4,le⟩
theorem bare_found {s:List UInt8} (h:dotB s=true):bareP s=46::bareP (s.drop 3)∧3≤s.length:=by
 unfold dotB at h;split at h
 ·simp only[Bool.or_eq_true,beq_iff_eq]at h
  rcases h with rfl|rfl
  ·exact⟨by rw[bareP.eq_def];rfl,by simp⟩
  ·exact⟨by rw[bareP.eq_def];rfl,by simp⟩
 ·cases h
theorem bare_lost {r:List UInt8} (h:dotB (37::r)=false):bareP (37::r)=37::bareP r:=by
 refine bareP_pct fun t=>⟨fun e=> ?_,fun e=> ?_⟩
 ·rw[e]at h;cases h
 ·rw[e]at h;cases h
def RunEq (s out:List UInt8) (i last:Nat):Prop:=bareP s=out++((s.take i).drop last++bareP (s.drop i))
theorem take_snoc_drop {s:List UInt8} {i last:Nat} (hi:i<s.length) (hl:last≤i):(s.take (i+1)).drop last=(s.take i).drop last++[s[i]]:=by
 rw[List.take_succ_eq_append_getElem hi,List.drop_append_of_le_length (by simp;omega)]
theorem RunEq.step {s out:List UInt8} {i last:Nat} (h:RunEq s out i last) (hi:i<s.length) (hl:last≤i) (hb:bareP (s.drop i)=s[i]::bareP (s.drop (i+1))):RunEq s out (i+1) last:=by
 unfold RunEq at h⊢;rw[h,hb,take_snoc_drop hi hl];simp
theorem RunEq.end_ {s out:List UInt8} {last:Nat} (h:RunEq s out s.length last):RunEq s out (s.length+1) last:=by
 unfold RunEq at h⊢;rw[h,List.take_of_length_le (Nat.le_refl _),List.take_of_length_le (Nat.le_succ _),List.drop_length,List.drop_eq_nil_of_le (Nat.le_succ _)]
theorem RunEq.found {s out:List UInt8} {i last:Nat} (h:RunEq s out i last) (hd:dotB (s.drop i)=true):RunEq s ((out++(s.take i).drop last)++[46]) (i+3) (i+3):=by
 unfold RunEq at h⊢;rw[h,(bare_found hd).1,List.drop_drop];have:(s.take (i+3)).drop (i+3)=[]:=List.drop_eq_nil_of_le (by simp;omega);rw[this];simp
def RunPost (lo S:Nat) (s:List UInt8) (w:World) (e:Ending) (w':World):Prop:=∃k:Int,e= .returned (.tuple #[.int .i64 k, .nilIface])∧BufAt lo S (bareP s) w'∧Below lo w w'
theorem meth_buf (a:Addr) (k:Nat) (w:World):(method (k+1) 415 (.pointer (some a)) "WriteString").run Tryz.prog w= .ok (401, .pointer (some a)) w:=by kernel_rfl
theorem call_buf (a:Addr) (x:Value) (w:World):(callFunc 401 #[.pointer (some a),x]).run Tryz.prog w= .ok (.enter 401 #[.pointer (some a),x]) w:=by kernel_rfl
theorem nil_buf (a:Addr) (k:Nat) (w:World):(nilAhead (k+1) 415 (.pointer (some a)) "WriteString").run Tryz.prog w= .ok (some false) w:=by kernel_rfl
set_option maxRecDepth 100000 in
theorem run_dots (n m lo S:Nat) (s:List UInt8) (w:World) (hL:LookAt n m w) (hB:BufAt lo S [] w) (hmS:m+2<lo) (hs:s.length≤1000000):
 Calls Tryz.prog 389 #[.pointer (some ⟨n,0,none⟩), .iface 415 (.pointer (some ⟨S,0,none⟩)), .string ⟨s.toArray⟩] w (RunPost lo S s w):=by
 have hI:=meth_buf ⟨S,0,none⟩
 have hC:=call_buf ⟨S,0,none⟩
 have hN:=nil_buf ⟨S,0,none⟩
 have hmf:∀(fn:Fn) (first cap:Array Value) (w:World),(Instr.makeFunc fn first cap).run Tryz.prog w= .ok (.func fn first cap) w:=fun _ _ _ _=>rfl
 go_enter Tryz.func389,Tryz.ntmps389
 go_wp2_with(go_at_call 390;refine(assert_sw ⟨S,0,none⟩ _).mono ?_;rintro e w1 ⟨rfl,rfl⟩)
 go_loopw [6,7,9,11,12] (fun a6 a7 a9 a11 a12 wr=>∃(i last:Nat) (out:List UInt8),i≤s.length+1∧last≤s.length∧last≤i∧a12= .int .i64 i∧a9= .int .i64 last∧a6= .int .i64 out.length∧a7= .nilIface∧a11= .bool false∧out.length≤last∧BufAt lo S out wr∧Below lo w wr∧Hid (RunEq s out i last)) (fun _ _ _ _ i _=>s.length+1-(intOf i).toNat)
 case atStart=>exact⟨0,0,[],Nat.zero_le _,Nat.zero_le _,Nat.le_refl _,rfl,rfl,rfl,rfl,rfl,Nat.le_refl _,hB,Below.refl _ _,by show RunEq _ _ _ _;simp[RunEq]⟩
 case round=>
  obtain⟨i,last,out,hi,hls,hli,rfl,rfl,rfl,rfl,rfl,hol,hBu,hb,HR⟩:=hrel;obtain⟨V,rfl⟩:∃V,V=wr:=⟨wr,rfl⟩;have hLV:=hL.below hb hmS;clear hB;by_cases hlt:i<s.length
  ·have hki:(i:Int)<(s.length:Int):=by omega
   have hkl:(i:Int)≤(s.length:Int):=by omega
   have hne:((i:Int) !=(s.length:Int))=true:=bne_iff_ne.2 (by omega);have hts:List.take (s.length-i) (List.drop i s)=s.drop i:=List.take_of_length_le (by simp);have p0:=hLV.p0;have t0:=hLV.t0;have s0:=hLV.s0;have mp:=hLV.map _ (s[i]).toNat_lt;have x256:=(s[i]).toNat_lt;have hdr:s.drop i=s[i]::s.drop (i+1):=List.drop_eq_getElem_cons hlt;by_cases h37:s[i]=37
   ·have a0:=hLV.a0
    have hh:(s.drop i).head?=some 37:=by rw[hdr,h37];rfl
    have cl:=look_any n m (s.drop i) V.drew (hLV.below (Below.refl (m+3) V).drew (by omega)) (.inr hh);have hbd:=hb.drew;have hBd:BufAt lo S out V.drew:=hBu;obtain⟨q1,_⟩:=map_at;rw[h37]at mp;have mp:V.cell? ⟨n,43,none⟩=some (.int .u8 0):=by rw[←show(mapF 37:Int)=0 by rw[q1];rfl];exact mp
    by_cases hd:dotB (s.drop i)=true
    ·have hv:lookV (s.drop i)= .tuple #[.string ⟨#[46]⟩, .int .i64 3, .bool true]:=if_pos hd
     rw[hv]at cl;have HF:=Lib.hid (HR.out.found hd);have h3:=(bare_found hd).2;rw[List.length_drop]at h3;clear hLV HR hdr hh hv hd hb hBu hL;have hpe:List.take (i-last) (List.drop last s)=(s.take i).drop last:=by rw[List.drop_take]
     have hpn:((s.take i).drop last).length=i-last:=by rw[List.length_drop,List.length_take];omega
     have hpl:((s.take i).drop last).length≤s.length:=by omega
     go_wp2_with fail;go_region
     all_goals
      go_wp2_with fail;go_at_call 391;refine cl.mono ?_;rintro e V2 ⟨rfl,hb2⟩;have hB2:=hBd.below hb2;have hbb:=hbd.trans (hb2.mono (by show lo≤V.heap.size;have:=hBd.1;have:=hBd.2.1;have e:V.drew.heap.size=V.heap.size:=rfl;omega));have cw:=write_buf lo S out ((s.take i).drop last) V2.drew hB2 (by omega);clear cl hb2 hB2 hBd hbd;go_wp2_with fail;go_region_with(go_at_call 401;refine cw.mono ?_;rintro e V3 ⟨rfl,hB3,hb3⟩)
      all_goals
       have cw2:=write_buf lo S (out++(s.take i).drop last) [46] V3 hB3 (by rw[List.length_append,List.length_singleton];omega);clear cw;go_wp2_with(go_at_call 401;refine cw2.mono ?_;rintro e V4 ⟨rfl,hB4,hb4⟩);have hb5:=((hbb.drew).trans hb3).trans hb4;go_roundw
       case rel=>exact⟨i+3,i+3,(out++(s.take i).drop last)++[46],by omega,by omega,Nat.le_refl _,by go_num,by go_num,by simp only[List.length_append,List.length_singleton,hpn];first|rfl|go_num,rfl,rfl,by simp only[List.length_append,List.length_singleton,hpn];omega,hB4,hb5,HF⟩
       case measure=>simp[intOf];omega
    ·have hd:dotB (s.drop i)=false:=by simpa using hd
     have hv:lookV (s.drop i)= .tuple #[.string ⟨#[]⟩, .int .i64 0, .bool false]:=if_neg (by rw[hd];simp);rw[hv]at cl;have hbp:bareP (s.drop i)=s[i]::bareP (s.drop (i+1)):=by
      rw[hdr,h37]at hd⊢;exact bare_lost hd
     have HS:=Lib.hid (HR.out.step hlt hli hbp);clear hLV HR hdr hh hv hd hb hBu hL hbp;go_wp2_with fail;go_region
     all_goals
      go_wp2_with fail;go_at_call 391;refine cl.mono ?_;rintro e V2 ⟨rfl,hb2⟩;have hB2:=hBd.below hb2;have hbb:=hbd.trans (hb2.mono (by show lo≤V.heap.size;have:=hBd.1;have:=hBd.2.1;have e:V.drew.heap.size=V.heap.size:=rfl;omega));clear cl hb2 hBd hbd;go_wp2_with fail;go_roundw
      case rel=>exact⟨i+1,last,out,by omega,hls,by omega,by go_num,rfl,rfl,rfl,rfl,hol,hB2,hbb,HS⟩
      case measure=>simp[intOf];omega
   ·have hbp:bareP (s.drop i)=s[i]::bareP (s.drop (i+1)):=by rw[hdr,bareP_cons h37]
    have HS:=Lib.hid (HR.out.step hlt hli hbp);have a1:=hLV.a1;have a2:=hLV.a2;have a3:=hLV.a3;have hc:=mapF_cases ⟨(s[i]).toNat,(s[i]).toNat_lt⟩;simp only at hc;have hc2:mapF (s[i]).toNat=4∨mapF (s[i]).toNat=1∨mapF (s[i]).toNat=2∨mapF (s[i]).toNat=3:=by
     obtain⟨q1,q2,q3,q4⟩:=map_at;rcases hc with e|e|e|e|e
     ·exact .inl e
     ·exact absurd (UInt8.toNat_inj.1 e) h37
     ·rw[e];exact .inr (.inl q2)
     ·rw[e];exact .inr (.inr (.inl q3))
     ·rw[e];exact .inr (.inr (.inr q4))
    have hbd:=hb.drew;have hBd:BufAt lo S out V.drew:=hBu;generalize hx:s[i]=x at*;clear hLV hc hbp hdr hL HR h37 hb hBu;rcases hc2 with e|e|e|e
    all_goals
     rw[e]at mp;go_wp2_with fail;go_region
     all_goals
      go_wp2_with fail;go_roundw
      case rel=>exact⟨i+1,last,out,by omega,hls,by omega,by go_num,rfl,rfl,rfl,rfl,hol,hBd,hbd,HS⟩
      case measure=>simp[intOf];omega
  ·by_cases hil:i=s.length
   ·have hkl:(i:Int)≤(s.length:Int):=by omega
    have hne:((i:Int) !=(s.length:Int))=false:=by simp[hil]
    have hdn:s.drop i=[]:=List.drop_eq_nil_of_le (by omega);have hts:List.take (s.length-i) (List.drop i s)=[]:=by rw[hdn];simp
    have cl:=look_any n m [] V hLV (.inl rfl);rw[show lookV []= .tuple #[.string ⟨#[]⟩, .int .i64 0, .bool false]from rfl]at cl;have HS:Hid (RunEq s out (i+1) last):=by
     have:=HR.out;rw[hil]at this⊢;exact this.end_
    have p0:=hLV.p0;have hlow:=hBu.1;have hlow2:=hBu.2.1;clear hLV HR hL hlt hdn;go_wp2_with fail;go_at_call 391;refine cl.mono ?_;rintro e V2 ⟨rfl,hb2⟩;have hB2:=hBu.below hb2;have hbb:=hb.trans (hb2.mono (by omega));clear cl hb2 hBu hb;go_wp2_with fail;go_roundw
    case rel=>exact⟨i+1,last,out,by omega,hls,by omega,by go_num,rfl,rfl,rfl,rfl,hol,hB2,hbb,HS⟩
    case measure=>simp[intOf];omega
   ·have hkl:¬(i:Int)≤(s.length:Int):=by omega
    have hfin:bareP s=out++s.drop last:=by
     have:=HR.out;unfold RunEq at this;rw[this,show s.take i=s from List.take_of_length_le (by omega),show s.drop i=[]from List.drop_eq_nil_of_le (by omega)];simp[bareP]
    have HF:=Lib.hid hfin;clear hLV HR hL hfin;by_cases hl0:last=s.length
    ·have hne:((last:Int) !=(s.length:Int))=false:=by simp[hl0]
     go_wp2_with fail;go_ret2;exact⟨_,rfl,by rw[HF.out,hl0,List.drop_length,List.append_nil];exact hBu,hb⟩
    ·have hne:((last:Int) !=(s.length:Int))=true:=bne_iff_ne.2 (by omega)
     have hlsi:(last:Int)≤(s.length:Int):=by omega
     have hts:List.take (s.length-last) (List.drop last s)=s.drop last:=List.take_of_length_le (by simp);have cw:=write_buf lo S out (s.drop last) V.drew hBu (by rw[List.length_drop];omega);have hdl:(s.drop last).length=s.length-last:=by rw[List.length_drop]
     go_wp2_with fail;go_region_with(go_at_call 401;refine cw.mono ?_;rintro e V3 ⟨rfl,hB3,hb3⟩)
     all_goals
      have hb5:=(hb.drew).trans hb3;clear cw hb hBu;go_wp2_with fail;go_ret2;exact⟨_,rfl,by rw[HF.out];exact hB3,hb5⟩
theorem TrieIs.kept {n:Nat} {w w':World} (h:TrieIs n w) (e:∀k,n≤k→w'.heap[k]?=w.heap[k]?):TrieIs n w':=by
 obtain⟨m,hm,hG,hT,hN,hM,hU,hA,hB⟩:=h;exact⟨m,hm,hG.of (e _ (Nat.le_refl _)),hT.of (e _ (by omega)),hN.of (e _ (by omega)),hM.of (e _ (by omega)),hU.of (e _ (by omega)),hA.of (e _ (by omega)),hB.of (e _ (by omega))⟩
theorem TrieIs.looks {n:Nat} {w:World} (h:TrieIs n w):∃m,LookAt n m w∧m+2<w.heap.size:=by
 obtain⟨m,hm,hG,hT,hN,hM,hU,hA,hB⟩:=h;exact⟨m,⟨hG.head (k:=1) (by omega),hG.head (k:=4) (by omega),hG.head (k:=5) (by omega),fun k hk=>hG.map hk,hT.cell 0,hT.cell 1,hT.cell 2,hT.cell 3,hN.cell 1,hN.cell 2,hN.cell 3,hN.cell 4,hM.cell 1,hM.cell 4,
  hU.cell 0,hU.cell 1,hU.cell 2,hU.cell 3,hA.cell 0,hA.cell 1,hA.cell 2,hA.cell 4,hB.cell 0,hB.cell 1,hB.cell 2,hB.cell 4,hm⟩,hU.lt⟩
set_option maxRecDepth 100000 in
theorem build_dots (P n g c:Nat) (W:World) (hsz:W.heap.size=n) (hg:g<n) (hr:RepAt P 0 1 .nilIface (.slice (some ⟨g,0,none⟩) 4 c) W) (hc:∀j u,(strV dotsL)[j]?=some u→W.cell? ⟨g,j,none⟩=some u):
 Calls Tryz.prog 237 #[.pointer (some ⟨P,0,none⟩)] W fun e W'=>e= .returned (.iface 308 (.pointer (some ⟨n,0,none⟩)))∧(Below n W W'∧TrieIs n W'):=by
 have k4:W.cell? ⟨P,4,none⟩=some (.slice (some ⟨g,0,none⟩) 4 c):=hr.cell 4
 have c0:W.cell? ⟨g,0,none⟩=some (.string ⟨#[37,50,101]⟩):=hc 0 _ rfl
 have cg:=gen_made n g c W hsz hg hc
 go_enter Tryz.func237,Tryz.ntmps237
 go_wp2_with fail
 refine wp_loop_rounds 1 ?_
 rw[rounds_succ]
 go_wp2_with fail
 go_at_call 278
 refine cg.mono ?_
 rintro e w1 ⟨rfl,hb,ht⟩
 clear cg k4 c0 hr hc
 go_wp2_with fail
 go_ret
 exact⟨rfl,hb,ht⟩
set_option maxRecDepth 100000 in
theorem gen_replace (n:Nat) (s:List UInt8) (w:World) (h:TrieIs n w) (hs:s.length≤1000000):
 Calls Tryz.prog 388 #[.pointer (some ⟨n,0,none⟩), .string ⟨s.toArray⟩] w fun e w'=>e= .returned (.string ⟨(bareP s).toArray⟩)∧Below w.heap.size w w':=by
 obtain⟨m,hL,hm⟩:=h.looks
 obtain⟨i,hi,hz,hsize,hby⟩:=e_asw.hi
 obtain⟨w1,hw1⟩:∃w1,w.alloc (.cells (List.replicate s.length (Value.int .u8 0)).toArray 5)=w1:=⟨_,rfl⟩
 have hmk:(Instr.makeSlice 414 (.int .i64 0) (.int .i64 (s.length:Int))).run Tryz.prog w= .ok (.slice (some ⟨w.heap.size,0,none⟩) 0 s.length) w1:=by
  have:=run_makeSlice (P:=Tryz.prog) w 414 5 i (.int .u8 0) Tryz.underlying414 hi hz .i64 .i64 0 (s.length:Int) (by omega) (by omega) (by rw[hsize];omega) (by rw[hby];omega) (by omega);rw[hsize,Int.toNat_natCast,Nat.mul_one]at this;rw[←hw1,←made_one];exact this
 have hs1:w1.heap.size=w.heap.size+1:=by rw[←hw1,World.size_alloc]
 have hb1:Below w.heap.size w w1:=by rw[←hw1];exact below_alloc _ _
 have hrow:w1.heap[w.heap.size]?=some (.cells (List.replicate s.length (Value.int .u8 0)).toArray 5 (0,0)):=by rw[←hw1];exact heap_alloc_new w _
 clear hw1
 have hB:BufAt w.heap.size (w.heap.size+1) [] (w1.alloc (.cells #[.slice (some ⟨w.heap.size,0,none⟩) 0 s.length] 414)):=by
  refine⟨by omega,by rw[World.size_alloc];omega, .slice (some ⟨w.heap.size,0,none⟩) 0 s.length,by rw[←hs1];exact heap_alloc_new w1 _,by simp[Lib.byteCells], .inr ⟨w.heap.size,s.length,_,rfl,Nat.le_refl _,(Lib.alloc_old w1 _ _ (by omega)).trans hrow,Nat.zero_le _,by unfold maxLen;omega,by simp,by simp[Lib.byteCells]⟩⟩
 have hb2:Below w.heap.size w (w1.alloc (.cells #[.slice (some ⟨w.heap.size,0,none⟩) 0 s.length] 414)):=hb1.alloc (by omega) _
 have cr:=run_dots n m w.heap.size (w.heap.size+1) s _ (hL.below hb2 hm) hB hm hs
 go_enter Tryz.func388,Tryz.ntmps388
 go_wp2_with fail
 go_at_call 389
 refine cr.mono ?_
 rintro e w2 ⟨k,rfl,⟨b1,b2,v,b3,b4⟩,hb3⟩
 have k0:w2.cell? ⟨w.heap.size+1,0,none⟩=some v:=by rw[Lib.cell_of_heap b3];rfl
 have hcv:=convert_bytes_own (P:=Tryz.prog) (src:=414) (dst:=9) (l:=bareP s) Tryz.underlying414 Tryz.underlying5 Tryz.underlying9 b4
 have hfin:=hb2.trans hb3
 clear cr hB hb1 hb2 hb3 b3 b4 hrow hmk hL h
 go_wp2_with fail
 go_ret
 exact⟨rfl,hfin⟩
theorem meth_dots (a:Addr) (k:Nat) (w:World):(method (k+1) 308 (.pointer (some a)) "Replace").run Tryz.prog w= .ok (388, .pointer (some a)) w:=by kernel_rfl
theorem call_dots (a:Addr) (x:Value) (w:World):(callFunc 388 #[.pointer (some a),x]).run Tryz.prog w= .ok (.enter 388 #[.pointer (some a),x]) w:=by kernel_rfl
theorem rep_dots (P g c:Nat) (s:List UInt8) (w:World) (hP:P<w.heap.size) (hg:g<w.heap.size) (hne:g≠P) (h:RepAt P 0 0 .nilIface (.slice (some ⟨g,0,none⟩) 4 c) w)
 (hc:∀j u,(strV dotsL)[j]?=some u→w.cell? ⟨g,j,none⟩=some u) (hs:s.length≤1000000):
 Calls Tryz.prog 127 #[.pointer (some ⟨P,0,none⟩), .string ⟨s.toArray⟩] w fun e w'=>e= .returned (.string ⟨(bareP s).toArray⟩)∧Below P w w':=by
 have hB:Built P w.heap.size 308 ⟨w.heap.size,0,none⟩ (.slice (some ⟨g,0,none⟩) 4 c) (fun W=>∀j u,(strV dotsL)[j]?=some u→W.cell? ⟨g,j,none⟩=some u) (TrieIs w.heap.size):=by
  refine⟨fun W k v hW j u hj=> ?_,fun W hW hr hk=>build_dots P w.heap.size g c W hW hg hr hk,fun W k v hW=>hW.kept fun i hi=>Below.heap_setCell _ _ _ _ (by show i≠P;omega),fun W hW=>hW⟩;rw[World.cell?_setCell_other _ _ _ _ (by simp only[ne_eq,Addr.mk.injEq,not_and];exact fun e=>absurd e.symm hne)];exact hW j u hj
 exact replace_r hB s (bareP s) (meth_dots _) (call_dots _) (fun W hW _=>gen_replace _ s W hW hs) w rfl hP h hc
theorem dots_use {w w':World} {e:Ending} (h:NewPost dotsL w e w') (s:List UInt8) (hs:s.length≤1000000):∃P,e= .returned (.pointer (some ⟨P,0,none⟩))∧Below w.heap.size w w'∧
 Calls Tryz.prog 127 #[.pointer (some ⟨P,0,none⟩), .string ⟨s.toArray⟩] w' fun e w2=>e= .returned (.string ⟨(bareP s).toArray⟩)∧Below w.heap.size w w2:=by
 obtain⟨P,g,c,h1,h2,h3,h4,h5,h6,h7⟩:=h
 refine⟨P,h1,h7,(rep_dots P g c s w' (by omega) (by omega) (by omega) h5 h6 hs).mono fun e w2 ⟨he,hb⟩=>⟨he,h7.trans (hb.mono (by omega))⟩⟩
end Go.Proofs.YtjkipdoebkhkaaaGreatDoor
