/- The conversions []byte(s), []rune(s): a world that is a variable, and what is known of it. -/
import Derived.Test.YtjkipdoebkhkaaaGreatDoorGMath
import Derived.Lib.ValidLaws
import Derived.Lib.AppendZerosOnto
import Derived.Deep.RegionLawGrows
import Derived.Shelf.Spec.SlicesInsert
set_option linter.unusedVariables false
set_option linter.unusedSimpArgs false
set_option maxHeartbeats 16000000
namespace Go.Proofs.YtjkipdoebkhkaaaGreatDoor
open Go.RowKit
theorem conv_bytes (W:World) (l:List UInt8) (h:l.length≤140737488351232):∃(cap:Nat) (W1:World),
 (convert 9 51 (.string ⟨l.toArray⟩)).run Tryz.prog W= .ok (.slice (some ⟨W.heap.size,0,none⟩) l.length cap) W1∧
 Below W.heap.size W W1∧W.heap.size<W1.heap.size∧l.length≤cap∧∀k (hk:k<l.length),W1.cell? ⟨W.heap.size,k,none⟩=some (.int .u8 (l[k].toNat:Int)):=by
 refine⟨_,_,run_bytes_of_string W 9 51 5 ⟨l.toArray⟩ Tryz.underlying9 Tryz.underlying51 Tryz.underlying5, ?_, ?_, ?_, ?_⟩
 ·exact Below.alloc (Below.drew (Below.refl _ _)) (Nat.le_refl _) _
 ·simp
 ·exact grownCap_ge _ _ _ _
 ·intro k hk
  refine(World.cell?_alloc_mark W.drew _ _ _ _).trans ?_;rw[bytesRow_at _ _ _ (by simpa using hk)];simp
theorem runesFrom_plain (l:List UInt8) (hp:∀c∈l,c.toNat<128):∀(f i:Nat) (acc:Array Value),l.length-i≤f→Conv.runesFrom ⟨l.toArray⟩ f i acc=acc++((l.drop i).map fun c=>Value.int .i32 (c.toNat:Int)).toArray
 |0,i,acc,h=>by
  rw[List.drop_eq_nil_of_le (by omega)];simp[Conv.runesFrom]
 |f+1,i,acc,h=>by
  unfold Conv.runesFrom;by_cases hi:i<l.length
  ·rw[if_pos (show i<(ByteArray.mk l.toArray).size from hi)]
   have hd:=decode_ascii ⟨l.toArray⟩ i hi (by rw[idx_mk];exact hp _ (List.getElem_mem hi));rw[idx_mk]at hd;simp only[hd];rw[runesFrom_plain l hp f (i+1) _ (by omega),List.drop_eq_getElem_cons hi];apply Array.ext';simp only[Array.toList_append,Array.toList_push,List.toList_toArray,List.map_cons,List.append_assoc,List.singleton_append];rfl
  ·rw[if_neg (show ¬i<(ByteArray.mk l.toArray).size from hi),List.drop_eq_nil_of_le (by omega)]
   simp
theorem conv_runes_plain (W:World) (base:Nat) (l:List UInt8) (h:l.length≤65536) (hp:∀c∈l,c.toNat<128) (hb:base≤W.heap.size):∃(v:Value) (W1:World),
 (convert 9 334 (.string ⟨l.toArray⟩)).run Tryz.prog W= .ok v W1∧
 Below W.heap.size W W1∧W1.ownsRow base 21 1 v l.length (l.map fun c=> .int .i32 (c.toNat:Int)):=by
 have hr:Conv.runesFrom ⟨l.toArray⟩ (ByteArray.mk l.toArray).size 0 #[]=(l.map fun c=>Value.int .i32 (c.toNat:Int)).toArray:=by
  rw[runesFrom_plain l hp _ _ _ (by show l.length-0≤l.length;omega)];simp
 have hsz:(Conv.runesFrom ⟨l.toArray⟩ (ByteArray.mk l.toArray).size 0 #[]).size=l.length:=by rw[hr];simp
 refine⟨_,_,run_runes_of_string W 9 334 21 ⟨l.toArray⟩ Tryz.underlying9 Tryz.underlying334 Tryz.underlying21 (by rw[hsz];omega), ?_, ?_⟩
 ·exact Below.alloc (Below.drew (Below.refl _ _)) (Nat.le_refl _) _
 ·have hge:=grownCap_ge W l.length 0 21
  refine⟨by simp, .inr ⟨W.heap.size,_,_,by rw[hsz],hb,heap_alloc_new W.drew _, ?_, ?_, ?_, ?_⟩⟩
  ·exact hge
  ·exact grownCap_le_maxLen _ _ _ _ (by unfold maxLen;omega)
  ·rw[Array.size_append,hsz];simp;omega
  ·rw[hr,Array.toList_append,Nat.mul_one]
   exact List.take_left' (by simp)
def plainL (s:List UInt8):Bool:=s.all fun c=>decide (c.toNat<128)
theorem plainL_take {s:List UInt8} {i:Nat} (h:i<s.length) (hp:∀c∈s.take i,c.toNat<128) (hc:(s[i]'h).toNat<128):∀c∈s.take (i+1),c.toNat<128:=by
 intro c hc';rw[List.take_succ_eq_append_getElem h,List.mem_append,List.mem_singleton]at hc';rcases hc' with h'|rfl
 ·exact hp c h'
 ·exact hc
theorem plainL_false {s:List UInt8} {i:Nat} (h:i<s.length) (hc:¬(s[i]'h).toNat<128):plainL s=false:=by
 unfold plainL;rw[←Bool.not_eq_true,List.all_eq_true];intro hall;have:=hall _ (List.getElem_mem h);simp at this;omega
theorem plainL_true {s:List UInt8} (hp:∀c∈s,c.toNat<128):plainL s=true:=by
 unfold plainL;rw[List.all_eq_true];intro c hc;simpa using hp c hc
set_option maxRecDepth 100000 in
theorem plain_any (s:List UInt8) (w:World) (hs:s.length≤140737488351232):
 Calls Tryz.prog 268 #[.string ⟨s.toArray⟩] w fun e w'=>e= .returned (.bool (plainL s))∧Below w.heap.size w w':=by
 go_enter Tryz.func268,Tryz.ntmps268
 go_wp2_with fail
 go_loopw [] (fun wr=>∃i:Nat,i≤s.length∧Hid (∀c∈s.take i,c.toNat<128)∧wr.heap[w.heap.size]?=some (.stringIter ⟨s.toArray⟩ i)∧Below w.heap.size w wr) (fun wr=>s.length-wr.iterPos w.heap.size)
 case atStart=>exact⟨0,Nat.zero_le _,fun c hc=>by simp at hc,World.iter_heap w _ 0,(Below.refl _ w).alloc (Nat.le_refl _) _⟩
 case round=>
  obtain⟨i,hil,hp,hit,hbl⟩:=hrel;by_cases hlt:i<s.length
  ·have hnx:∀ty,(Instr.next (.pointer (some ⟨w.heap.size,0,none⟩)) true ty).run Tryz.prog wr=_:=fun ty=>Lib.run_next_any_at wr w.heap.size ⟨s.toArray⟩ i ty hit hlt
   by_cases hc:(s[i]'hlt).toNat<128
   ·have hp2:Hid (∀c∈s.take (i+1),c.toNat<128):=plainL_take hlt hp.out hc
    have hd:=decode_ascii ⟨s.toArray⟩ i hlt hc;rw[idx_mk]at hd;rw[hd]at hnx;have hit2:=Lib.iterAt_heap wr w.heap.size ⟨s.toArray⟩ i (i+1) hit;clear hd;go_wp2_with fail;go_roundw
    case rel=>exact⟨i+1,by omega,hp2,hit2,Lib.below_iterAt hbl (Nat.le_refl _) _ _⟩
    case measure=>simp only[World.iterPos,hit2,hit];omega
   ·have hf:=Lib.hid (plainL_false hlt hc)
    have hd:=(decode_high ⟨s.toArray⟩ i hlt (by rw[idx_mk];omega)).1;generalize Utf8.decode ⟨s.toArray⟩ i=d at*;obtain⟨x,z⟩:=d;simp only at hnx hd;go_wp2_with fail;go_ret;exact⟨ret_bool hf.out.symm,Lib.below_iterAt hbl (Nat.le_refl _) _ _⟩
  ·obtain rfl:i=s.length:=by omega
   have hnx:∀ty,(Instr.next (.pointer (some ⟨w.heap.size,0,none⟩)) true ty).run Tryz.prog wr=_:=fun ty=>Lib.run_next_end_at wr w.heap.size ⟨s.toArray⟩ s.length ty hit hlt
   have hf:=Lib.hid (plainL_true (by have:=hp.out;rwa[List.take_length]at this));go_wp2_with fail;go_ret;exact⟨ret_bool hf.out.symm,hbl⟩
def fewL (s:List UInt8):Bool:=s.take 4==[120,110,45,45]
open Go.RowKit Go.Lib
theorem i32_info:(Tryz.prog.info? 21).map (fun i=>(i.zero,i.size,i.bytes))=some (some (.int .i32 0),1,4):=by kernel_rfl
set_option maxRecDepth 100000 in
theorem insert_shift (b off n c i vb voff m vc:Nat) (cs vs:List Value) (w:World) (hi:i<n) (hm:0<m) (hroom:n+m≤c) (hc63:c≤9223372036854775807) (hvb:vb≠b)
 (hcl:cs.length=n) (hvl:vs.length=m)
 (hcs:∀j v,cs[j]?=some v→w.cell? ⟨b,off+j,none⟩=some v) (hsp:∀j,j<n+m→(w.cell? ⟨b,off+j,none⟩).isSome=true) (hfz:∀j,j<n+m→w.frozen? ⟨b,off+j,none⟩=false)
 (hvs:∀j v,vs[j]?=some v→w.cell? ⟨vb,voff+j,none⟩=some v) (h1c:∀v∈cs,v.oneCell'=true) (h1v:∀v∈vs,v.oneCell'=true)
 (tA tB:TypeId) (kA kB:Nat) (hsa:w.shape? vb=some (tA,kA)) (hsb:w.shape? b=some (tB,kB)) (hkB:kB≠0) (hfa:w.frozen? ⟨vb,voff,none⟩=false) (hfe:w.frozen? ⟨vb,kA,none⟩=false):
 Calls Tryz.prog 302 #[.slice (some ⟨b,off,none⟩) n c, .int .i64 i, .slice (some ⟨vb,voff,none⟩) m vc] w fun e w'=>
  e= .returned (.slice (some ⟨b,off,none⟩) (n+m) c)∧w'=(w.drew.setCells b (off+(i+m)) (cs.drop i)).setCells b (off+i) vs:=by
 have hz1:¬((m:Int)=0):=by omega
 have hz2:¬((i:Int)=(n:Int)):=by omega
 have hsz:(Tryz.prog.info? 21).map (·.size)=some 1:=by
  obtain⟨i0,hi0,h0,h1,h2⟩:=info_parts i32_info;rw[hi0];simp[h1]
 have hov:∀lb cb,(callFunc 330 #[.slice (some ⟨vb,voff,none⟩) m vc, .slice (some ⟨b,off+(i+m),none⟩) lb cb]).run Tryz.prog w= .ok (.value (.bool false)) w:=fun lb cb=>by
  rw[run_callFunc_extern Tryz.func330 (by kernel_rfl) (by kernel_rfl) (by kernel_rfl) (e:=Extern.SlicesOverlaps.overlaps #[334,334] #[4]) (by kernel_rfl),
   Lib.run_overlaps_apart w 334 4 21 Tryz.underlying334 1 Tryz.sizeOf21 ⟨vb,voff,none⟩ ⟨b,off+(i+m),none⟩ m vc lb cb hvb tA tB kA kB hsa hsb hkB hfa hfe]
  rfl
 have hdl:(cs.drop i).length=n-i:=by rw[List.length_drop,hcl]
 have hw1:IntKind.i64.wrap ((i:Int)+(m:Int))=(i:Int)+(m:Int):=by rw[IntKind.wrap_i64];omega
 have hb1:(0:Int)≤(i:Int)+(m:Int):=by omega
 have hin:i≤n:=by omega
 have htn:((i:Int)+(m:Int)).toNat=i+m:=by omega
 have hb2:¬(c=i+m):=by omega
 have hb3:(i:Int)≤(n:Int)+(m:Int):=by omega
 have hb4:¬(c=i):=by omega
 have hcp1:∀ty dc sc,(Builtin.copy_ #[334,334] ty #[.slice (some ⟨b,off+(i+m),none⟩) (n+m-(i+m)) dc, .slice (some ⟨b,off+i,none⟩) (n+m-i) sc]).run Tryz.prog w.drew= .ok (goInt (cs.drop i).length) (w.drew.setCells b (off+(i+m)) (cs.drop i)):=fun ty dc sc=>
  run_copy_cells w.drew _ _ ty 21 b (off+(i+m)) (n+m-(i+m)) dc ⟨b,off+i,none⟩ (n+m-i) sc (cs.drop i) Tryz.underlying334 hsz (by rw[hdl];simp only[Nat.min_def];split<;>omega)
   (fun j v hj=>by rw[Addr.add_lit,Nat.add_assoc];exact hcs (i+j) v (by rwa[List.getElem?_drop]at hj))
   (fun j hj=>by rw[Nat.add_assoc];exact hsp _ (by omega)) (fun j hj=>by rw[Nat.add_assoc];exact hfz _ (by omega)) (fun v hv=>h1c v (List.mem_of_mem_drop hv))
 obtain⟨W1,hW1⟩:∃W1,W1=w.drew.setCells b (off+(i+m)) (cs.drop i):=⟨_,rfl⟩
 have hsp1:∀k,k<n+m→(W1.cell? ⟨b,off+k,none⟩).isSome=true:=fun k hk=>by
  rw[hW1];exact isSome_setCells b _ _ _ (fun j hj=>by rw[Nat.add_assoc];exact hsp _ (by omega)) _ (hsp k hk)
 have hcp2:∀(W:World),(∀x,W.cell? x=W1.cell? x)→(∀x,W.frozen? x=W1.frozen? x)→∀ty dc,(Builtin.copy_ #[334,334] ty #[.slice (some ⟨b,off+i,none⟩) (n+m-i) dc, .slice (some ⟨vb,voff,none⟩) m vc]).run Tryz.prog W= .ok (goInt vs.length) (W.setCells b (off+i) vs):=fun W hWc hWf ty dc=>
  run_copy_cells W _ _ ty 21 b (off+i) (n+m-i) dc ⟨vb,voff,none⟩ m vc vs Tryz.underlying334 hsz (by rw[hvl];simp only[Nat.min_def];split<;>omega)
   (fun j v hj=>by
    rw[Addr.add_lit,hWc,hW1,World.cell?_setCells_out b _ _ _ _ (fun h _=>absurd h hvb)];exact hvs j v hj)
   (fun j hj=>by rw[hWc,Nat.add_assoc];exact hsp1 _ (by omega)) (fun j hj=>by rw[hWf,hW1,World.frozen?_setCells,Nat.add_assoc];exact hfz _ (by omega)) h1v
 rw[←hW1]at hcp1
 go_enter Tryz.func302,Tryz.ntmps302
 go_wp2_with(simp only[hov])
 go_region_law (refine step_copy_runI rfl _ _ 334 334 rfl _ _ (by simp[Act.eval,Act.put]) (by simp[Act.eval,Act.put]) (hcp1 _ _ _) ?_)
 go_wp2_with(at_builtin;refine wpList_copy_runI _ rfl _ _ 334 334 rfl _ _ rfl rfl (hcp2 _ (fun _=>rfl) (fun _=>rfl) _ _) ?_)
 go_ret
 first|exact⟨rfl,rfl⟩|exact⟨rfl,by rw[hW1]⟩
set_option maxRecDepth 100000 in
theorem insert_end_room (b off n c vb voff m vc:Nat) (vs:List Value) (w:World) (hm:0<m) (hroom:n+m≤c) (hc63:c≤9223372036854775807)
 (hvl:vs.length=m) (hsp:∀j,j<m→(w.cell? ⟨b,off+n+j,none⟩).isSome=true) (hfz:∀j,j<m→w.frozen? ⟨b,off+n+j,none⟩=false)
 (hvs:∀j v,vs[j]?=some v→w.cell? ⟨vb,voff+j,none⟩=some v) (h1v:∀v∈vs,v.oneCell'=true):
 Calls Tryz.prog 302 #[.slice (some ⟨b,off,none⟩) n c, .int .i64 n, .slice (some ⟨vb,voff,none⟩) m vc] w fun e w'=>
  e= .returned (.slice (some ⟨b,off,none⟩) (n+m) c)∧w'=w.setCells b (off+n) vs:=by
 have hz1:¬((m:Int)=0):=by omega
 have hsrc:Src Tryz.prog 1 334 (.slice (some ⟨vb,voff,none⟩) m vc) m vs w:=Src.ofSlice w Tryz.underlying334 ⟨vb,voff,none⟩ m vc vs (by omega) (fun j u hj=>by rw[Addr.add_lit];exact hvs j u hj) h1v
 go_enter Tryz.func302,Tryz.ntmps302
 go_wp2_with(at_builtin;refine wpList_append_room1 _ rfl _ _ 334 334 rfl 21 _ _ Tryz.underlying334 i32_info b off n c rfl _ rfl m vs hsrc hroom (by rw[hvl];exact hsp) (by rw[hvl];exact hfz) ?_)
 go_ret
 exact⟨rfl,rfl⟩
set_option maxRecDepth 100000 in
theorem insert_end_grow (base:Option Addr) (n c vb voff m vc:Nat) (cs vs:List Value) (w:World) (hm:0<m) (hnc:n≤c) (hroom:c<n+m) (hbig:(n+m)*4≤140737488355328)
 (hcl:cs.length=n) (hvl:vs.length=m) (hnil:base=none→n=0)
 (hcs:∀a,base=some a→∀j v,cs[j]?=some v→w.cell? (a.add j)=some v)
 (hvs:∀j v,vs[j]?=some v→w.cell? ⟨vb,voff+j,none⟩=some v) (h1v:∀v∈vs,v.oneCell'=true):
 Calls Tryz.prog 302 #[.slice base n c, .int .i64 n, .slice (some ⟨vb,voff,none⟩) m vc] w fun e w'=>
  e= .returned (.slice (some ⟨w.heap.size,0,none⟩) (n+m) (grownCap w (n+m) c 21))∧
  w'=w.drew.alloc (.cells ((cs++vs).toArray++Builtin.zeroCells (Value.int .i32 0).cells (grownCap w (n+m) c 21-(n+m))) 21):=by
 obtain⟨i0,hi0,hz0,hzs,hzb⟩:=info_parts i32_info
 have hz1:¬((m:Int)=0):=by omega
 have hsrc:Src Tryz.prog i0.size 334 (.slice (some ⟨vb,voff,none⟩) m vc) m vs w:=by
  rw[hzs];exact Src.ofSlice w Tryz.underlying334 ⟨vb,voff,none⟩ m vc vs (by omega) (fun j u hj=>by rw[Addr.add_lit];exact hvs j u hj) h1v
 have hold:(Builtin.firstCells i0.size n (.slice base n c)).run Tryz.prog w.drew= .ok cs.toArray w.drew:=by
  rw[hzs]
  cases base with
  |none=>
   have h0:=hnil rfl;subst h0;rw[List.length_eq_zero_iff.1 hcl];exact run_firstCells_none w.drew 1 0 0 c
  |some a=>exact run_firstCells_some w.drew 1 n a n c cs (by omega) (fun j v hj=>hcs a rfl j v hj)
 have hrun:∀ty,(Builtin.append_ #[334,334] ty #[.slice base n c, .slice (some ⟨vb,voff,none⟩) m vc]).run Tryz.prog w=_:=fun ty=>
  run_append_grow_src w 334 334 ty 21 i0 _ Tryz.underlying334 hi0 hz0 base n c cs hold _ m vs hsrc hroom (by omega) (by rw[hzb];exact growslice_fits hroom hbig)
 go_enter Tryz.func302,Tryz.ntmps302
 cases base with
 |none=>
  have h0:=hnil rfl;subst h0;go_wp2_with(at_builtin;refine Lib.wpList_append_run _ rfl _ _ _ _ rfl _ _ rfl rfl _ _ (hrun _) ?_);go_ret;exact⟨rfl,rfl⟩
 |some a=>
  obtain⟨ab,ao,asp⟩:=a;go_wp2_with(at_builtin;refine Lib.wpList_append_run _ rfl _ _ _ _ rfl _ _ rfl rfl _ _ (hrun _) ?_)
  all_goals(go_ret;exact⟨rfl,rfl⟩)
set_option maxRecDepth 100000 in
theorem insert_grow (b off n c i vb voff m vc:Nat) (cs vs:List Value) (w:World) (hi:i<n) (hm:0<m) (hnc:n≤c) (hroom:c<n+m) (hbig:(n+m)*4≤140737488355328)
 (hcl:cs.length=n) (hvl:vs.length=m)
 (hcs:∀j v,cs[j]?=some v→w.cell? ⟨b,off+j,none⟩=some v)
 (hvs:∀j v,vs[j]?=some v→w.cell? ⟨vb,voff+j,none⟩=some v) (h1c:∀v∈cs,v.oneCell'=true) (h1v:∀v∈vs,v.oneCell'=true):
 Calls Tryz.prog 302 #[.slice (some ⟨b,off,none⟩) n c, .int .i64 i, .slice (some ⟨vb,voff,none⟩) m vc] w fun e w'=>
  e= .returned (.slice (some ⟨w.heap.size,0,none⟩) (n+m) (grownCap w (n+m) c 21))∧
  w'=(((w.alloc (.cells ((cs.take i).toArray++Builtin.zeroCells (Value.int .i32 0).cells (n+m-i)++Builtin.zeroCells (Value.int .i32 0).cells (grownCap w (n+m) c 21-(n+m))) 21)).drew.setCells w.heap.size i vs).drew).setCells w.heap.size (i+m) (cs.drop i):=by
 obtain⟨i0,hi0,hz0,hzs,hzb⟩:=info_parts i32_info
 have hz1:¬((m:Int)=0):=by omega
 have hz2:¬((i:Int)=(n:Int)):=by omega
 have hz3:(c:Int)<(n:Int)+(m:Int):=by omega
 have hsz:(Tryz.prog.info? 21).map (·.size)=some 1:=by rw[hi0];simp[hzs]
 have hbw:b<w.heap.size:=block_lt_of_cell (hcs 0 _ (List.getElem?_eq_getElem (by omega)))
 have hvw:vb<w.heap.size:=block_lt_of_cell (hvs 0 _ (List.getElem?_eq_getElem (by omega)))
 have hkk:(n:Int)+(m:Int)-(i:Int)=((n+m-i:Nat):Int):=by omega
 have hik:i+(n+m-i)=n+m:=by omega
 have hold:(Builtin.firstCells i0.size i (.slice (some ⟨b,off,none⟩) i c)).run Tryz.prog w.drew= .ok (cs.take i).toArray w.drew:=by
  rw[hzs];exact run_firstCells_some w.drew 1 i ⟨b,off,none⟩ i c (cs.take i) (by rw[List.length_take];omega) (fun j v hj=>by
   rw[Addr.add_lit];rw[List.getElem?_take]at hj;split at hj
   ·exact hcs j v hj
   ·cases hj)
 have hrz:∀ty,(Builtin.append_ #[334,3] ty #[.slice (some ⟨b,off,none⟩) i c, .int .i64 ((n:Int)+(m:Int)-(i:Int))]).run Tryz.prog w=
  .ok (.slice (some ⟨w.heap.size,0,none⟩) (n+m) (grownCap w (n+m) c 21)) (w.drew.alloc (.cells ((cs.take i).toArray++Builtin.zeroCells (Value.int .i32 0).cells (n+m-i)++Builtin.zeroCells (Value.int .i32 0).cells (grownCap w (n+m) c 21-(n+m))) 21)):=fun ty=>by
  have h:=Lib.run_append_grow_zeros w 334 3 ty 21 i0 _ .i64 .i64 Tryz.underlying334 Tryz.underlying3 hi0 hz0 (some ⟨b,off,none⟩) i c (cs.take i) hold (n+m-i) (by omega) (by omega) (by omega) (by omega) (by rw[hzb];omega) (by rw[hzb,hik];exact growslice_fits hroom hbig)
  rw[hik]at h
  rw[hkk]
  exact h
 obtain⟨G,hG⟩:∃G,G=grownCap w (n+m) c 21:=⟨_,rfl⟩
 obtain⟨ROW,hROW⟩:∃ROW:Array Value,ROW=(cs.take i).toArray++Builtin.zeroCells (Value.int .i32 0).cells (n+m-i)++Builtin.zeroCells (Value.int .i32 0).cells (G-(n+m)):=⟨_,rfl⟩
 rw[←hG]at hrz⊢
 rw[←hROW]at hrz⊢
 have hRl:n+m≤ROW.size:=by
  rw[hROW];simp[Builtin.zeroCells,Value.cells];omega
 obtain⟨W1,hW1⟩:∃W1,W1=w.drew.alloc (.cells ROW 21):=⟨_,rfl⟩
 rw[←hW1]at hrz
 have hN:∀j,j<n+m→(W1.cell? ⟨w.heap.size,j,none⟩).isSome=true:=fun j hj=>by
  rw[hW1,World.cell?_alloc_at (w:=w.drew) ROW _ w.heap.size j rfl,Array.getElem?_eq_getElem (by omega)];rfl
 have hNf:∀j,W1.frozen? ⟨w.heap.size,j,none⟩=false:=fun j=>by rw[hW1];exact World.frozen?_alloc_at (w:=w.drew) ROW _ w.heap.size j rfl
 have hOb:∀j v,w.cell? ⟨b,j,none⟩=some v→W1.cell? ⟨b,j,none⟩=some v:=fun j v h=>by rw[hW1,World.cell?_alloc_past (w:=w.drew) _ b j hbw];exact h
 have hOv:∀j v,w.cell? ⟨vb,j,none⟩=some v→W1.cell? ⟨vb,j,none⟩=some v:=fun j v h=>by rw[hW1,World.cell?_alloc_past (w:=w.drew) _ vb j hvw];exact h
 have hcpA:∀(W:World),(∀x,W.cell? x=W1.cell? x)→(∀x,W.frozen? x=W1.frozen? x)→∀ty dc,(Builtin.copy_ #[334,334] ty #[.slice (some ⟨w.heap.size,i,none⟩) (n+m-i) dc, .slice (some ⟨vb,voff,none⟩) m vc]).run Tryz.prog W= .ok (goInt vs.length) (W.setCells w.heap.size i vs):=fun W hWc hWf ty dc=>
  run_copy_cells W _ _ ty 21 w.heap.size i (n+m-i) dc ⟨vb,voff,none⟩ m vc vs Tryz.underlying334 hsz (by rw[hvl];simp only[Nat.min_def];split<;>omega)
   (fun j v hj=>by rw[Addr.add_lit,hWc];exact hOv _ v (hvs j v hj))
   (fun j hj=>by rw[hWc];exact hN _ (by omega)) (fun j hj=>by rw[hWf];exact hNf _) h1v
 have hGn:n+m≤G:=by rw[hG];exact grownCap_ge w _ _ _
 have hG63:G≤9223372036854775807:=by
  have:=grownCap_le_maxLen w (n+m) c 21 (by unfold maxLen;omega);rw[←hG]at this;unfold maxLen at this;omega
 have hGi:¬(G=i):=by omega
 have hGim:¬(G=i+m):=by omega
 have hci:¬(c=i):=by omega
 have hbN:b≠w.heap.size:=by omega
 have hdl:(cs.drop i).length=n-i:=by rw[List.length_drop,hcl]
 have hcpB:∀(W:World),(∀x,W.cell? x=(W1.setCells w.heap.size i vs).cell? x)→(∀x,W.frozen? x=(W1.setCells w.heap.size i vs).frozen? x)→∀ty dc sc,(Builtin.copy_ #[334,334] ty #[.slice (some ⟨w.heap.size,i+m,none⟩) (n+m-(i+m)) dc, .slice (some ⟨b,off+i,none⟩) (n-i) sc]).run Tryz.prog W= .ok (goInt (cs.drop i).length) (W.setCells w.heap.size (i+m) (cs.drop i)):=fun W hWc hWf ty dc sc=>
  run_copy_cells W _ _ ty 21 w.heap.size (i+m) (n+m-(i+m)) dc ⟨b,off+i,none⟩ (n-i) sc (cs.drop i) Tryz.underlying334 hsz (by rw[hdl];simp only[Nat.min_def];split<;>omega)
   (fun j v hj=>by
    rw[Addr.add_lit,hWc,World.cell?_setCells_out _ _ _ _ _ (fun h _=>absurd h hbN),Nat.add_assoc];exact hOb _ v (hcs (i+j) v (by rwa[List.getElem?_drop]at hj)))
   (fun j hj=>by rw[hWc];exact isSome_setCells _ _ _ _ (fun t ht=>hN _ (by omega)) _ (hN _ (by omega)))
   (fun j hj=>by rw[hWf,World.frozen?_setCells];exact hNf _) (fun v hv=>h1c v (List.mem_of_mem_drop hv))
 subst hW1
 have hE1:∀x,((w.alloc (.cells ROW 21)).drew).cell? x=(w.drew.alloc (.cells ROW 21)).cell? x:=fun x=>rfl
 have hE2:∀x,((w.alloc (.cells ROW 21)).drew).frozen? x=(w.drew.alloc (.cells ROW 21)).frozen? x:=fun x=>rfl
 have hF1:∀x,(((w.alloc (.cells ROW 21)).drew.setCells w.heap.size i vs).drew).cell? x=((w.drew.alloc (.cells ROW 21)).setCells w.heap.size i vs).cell? x:=fun x=>rfl
 have hF2:∀x,(((w.alloc (.cells ROW 21)).drew.setCells w.heap.size i vs).drew).frozen? x=((w.drew.alloc (.cells ROW 21)).setCells w.heap.size i vs).frozen? x:=fun x=>rfl
 have hw1:IntKind.i64.wrap ((i:Int)+(m:Int))=(i:Int)+(m:Int):=by rw[IntKind.wrap_i64];omega
 have hb1:(0:Int)≤(i:Int)+(m:Int):=by omega
 have hin:i≤n:=by omega
 have htn:((i:Int)+(m:Int)).toNat=i+m:=by omega
 have hb3:(i:Int)≤(n:Int):=by omega
 clear hkk hik hold hROW hG hRl
 go_enter Tryz.func302,Tryz.ntmps302
 go_wp2_with(first
  |(at_builtin;refine Lib.wpList_append_run _ rfl _ _ _ _ rfl _ _ rfl rfl _ _ (hrz _) ?_)
  |(at_builtin;refine wpList_copy_runI _ rfl _ _ 334 334 rfl _ _ rfl rfl (hcpA _ hE1 hE2 _ _) ?_)
  |(at_builtin;refine wpList_copy_runI _ rfl _ _ 334 334 rfl _ _ rfl rfl (hcpB _ (fun _=>rfl) (fun _=>rfl) _ _ _) ?_))
 go_region_law (refine step_copy_runI rfl _ _ 334 334 rfl (.slice (some ⟨w.heap.size,i+m,none⟩) (n+m-(i+m)) (G-(i+m))) (.slice (some ⟨b,off+i,none⟩) (n-i) (c-i)) (by simp[Act.eval,Act.put]) (by simp[Act.eval,Act.put]) (hcpB _ hF1 hF2 3 (G-(i+m)) (c-i)) ?_)
 go_wp2
 go_ret
 exact⟨rfl,rfl⟩
def putL:Array Value→Nat→List Value→Array Value
 |c,_,[]=>c
 |c,o,v::r=>putL (c.setIfInBounds o v) (o+1) r
theorem size_putL:∀(vs:List Value) (c:Array Value) (o:Nat),(putL c o vs).size=c.size
 |[],_,_=>rfl
 |v::r,c,o=>by rw[putL,size_putL r];simp
theorem toList_putL:∀(vs:List Value) (c:Array Value) (o:Nat),o+vs.length≤c.size→(putL c o vs).toList=c.toList.take o++vs++c.toList.drop (o+vs.length)
 |[],c,o,h=>by simp[putL]
 |v::r,c,o,h=>by
  simp only[List.length_cons]at h;rw[putL,toList_putL r _ _ (by simp;omega)];have h1:(c.setIfInBounds o v).toList.take (o+1)=c.toList.take o++[v]:=by
   rw[Array.toList_setIfInBounds,List.take_succ_eq_append_getElem (by simp;omega)];simp[List.take_set_of_le]
  have h2:(c.setIfInBounds o v).toList.drop (o+1+r.length)=c.toList.drop (o+(v::r).length):=by
   rw[Array.toList_setIfInBounds,List.drop_set_of_lt (by omega)];congr 1;simp;omega
  rw[h1,h2];simp
theorem heap_setCell_in {w:World} {g:Nat} {cur:Array Value} {t:TypeId} {fr:Nat×Nat} (hg:w.heap[g]?=some (.cells cur t fr)) (o:Nat) (v:Value):(w.setCell ⟨g,o,none⟩ v).heap[g]?=some (.cells (cur.setIfInBounds o v) t fr):=by
 simp only[World.setCell,Array.getElem?_modify,if_true,hg];rfl
theorem heap_setCells_in {g:Nat} {t:TypeId} {fr:Nat×Nat}:∀(vs:List Value) (w:World) (cur:Array Value) (o:Nat),w.heap[g]?=some (.cells cur t fr)→(w.setCells g o vs).heap[g]?=some (.cells (putL cur o vs) t fr)
 |[],_,_,_,h=>h
 |v::r,w,cur,o,h=>heap_setCells_in r _ _ _ (heap_setCell_in h o v)
theorem grown_setCell (w:World) (g o:Nat) (v:Value):w.grownBy (w.setCell ⟨g,o,none⟩ v) (some g):=
 ⟨rfl,rfl,rfl,by simp[World.setCell],fun k _ hne=>Below.heap_setCell _ _ _ _ (fun e=>hne (by rw[e]))⟩
theorem grown_setCells (g:Nat):∀(vs:List Value) (w:World) (o:Nat),w.grownBy (w.setCells g o vs) (some g)
 |[],w,_=>grown_refl w _
 |v::r,w,o=>grown_trans2 (grown_setCell w g o v) (grown_setCells g r _ _)
theorem below_setCells_new {B g:Nat} {a:World} (hg:B≤g):∀(vs:List Value) (w:World) (o:Nat),Below B a w→Below B a (w.setCells g o vs)
 |[],_,_,h=>h
 |v::r,w,o,h=>below_setCells_new hg r _ _ (h.setCell hg v)
theorem grown_of_below {a w:World} {row:Option Nat} (hb:Below a.heap.size a w):a.grownBy w row:=⟨hb.os,hb.tape,hb.output,hb.size,fun k hk _=>hb.block k hk⟩
theorem ins_shift {α:Type} {c xs:List α} {x:α} {i n:Nat} (h:c.take n=xs) (hn:xs.length=n) (hi:i≤n) (hc:n+1≤c.length):
 (((c.take (i+1)++xs.drop i++c.drop (i+1+(xs.drop i).length)).take i)++[x]++((c.take (i+1)++xs.drop i++c.drop (i+1+(xs.drop i).length)).drop (i+[x].length))).take (n+1)=xs.take i++[x]++xs.drop i:=by
 have l1:(c.take (i+1)).length=i+1:=by rw[List.length_take];omega
 have e1:(c.take (i+1)++xs.drop i++c.drop (i+1+(xs.drop i).length)).take i=xs.take i:=by
  rw[List.append_assoc,List.take_append_of_le_length (by omega),List.take_take,←h,List.take_take];congr 1;omega
 have e2:(c.take (i+1)++xs.drop i++c.drop (i+1+(xs.drop i).length)).drop (i+[x].length)=xs.drop i++c.drop (i+1+(xs.drop i).length):=by
  rw[List.append_assoc];exact List.drop_left' l1
 rw[e1,e2,←List.append_assoc]
 refine List.take_left' ?_
 simp;omega
theorem ins_grow {α:Type} {c xs:List α} {x:α} {i n:Nat} (h:c.take i=xs.take i) (hn:xs.length=n) (hi:i≤n) (hc:n+1≤c.length):
 (((c.take i++[x]++c.drop (i+[x].length)).take (i+1))++xs.drop i++((c.take i++[x]++c.drop (i+[x].length)).drop (i+1+(xs.drop i).length))).take (n+1)=xs.take i++[x]++xs.drop i:=by
 have l1:(c.take i++[x]).length=i+1:=by simp;omega
 have e1:(c.take i++[x]++c.drop (i+[x].length)).take (i+1)=xs.take i++[x]:=by rw[List.take_left' l1,h]
 rw[e1]
 refine List.take_left' ?_
 simp;omega
theorem insert_any (base:Nat) (v x:Value) (xs:List Value) (i:Nat) (w0:World) (hown:w0.ownsRow base 21 1 v xs.length xs) (hi:i≤xs.length) (hn:xs.length≤1000000) (hx:x.oneCell'=true) (hxs:∀u∈xs,u.oneCell'=true) (hb:base≤w0.heap.size):
 Calls Tryz.prog 302 #[v, .int .i64 i, .slice (some ⟨w0.heap.size,0,none⟩) 1 1] (w0.alloc (.cells #[x] 21)) fun e w'=>
  ∃v',e= .returned v'∧w'.ownsRow base 21 1 v' (xs.length+1) (xs.take i++[x]++xs.drop i)∧w0.grownBy w' v.ownBlock:=by
 have hvs:∀j u,[x][j]?=some u→(w0.alloc (.cells #[x] 21)).cell? ⟨w0.heap.size,0+j,none⟩=some u:=by
  intro j u hj;rw[Nat.zero_add,World.cell?_alloc_at _ _ _ j rfl];simpa using hj
 have h1v:∀u∈[x],u.oneCell'=true:=by simpa using hx
 have hlen:(xs.take i++[x]++xs.drop i).length=(xs.length+1)*1:=by simp;omega
 rcases hown.2 with ⟨rfl,h0⟩|⟨g,cap,cur,rfl,hg0,hg,hcap,hmax,hsz,htake⟩
 ·have hxs0:xs=[]:=List.length_eq_zero_iff.1 h0
  subst hxs0;have:i=0:=by simpa using hi
  subst this;refine(insert_end_grow none 0 0 w0.heap.size 0 1 1 [] [x] _ (by omega) (by omega) (by omega) (by omega) rfl rfl (fun _=>rfl) (fun _ h=>by cases h) hvs h1v).mono ?_;rintro e w' ⟨rfl,rfl⟩;refine⟨_,rfl,⟨hlen, .inr ⟨_,_,_,rfl, ?_,heap_alloc_new _ _, ?_, ?_, ?_, ?_⟩⟩, ?_⟩
  ·simp;omega
  ·exact grownCap_ge _ _ _ _
  ·exact grownCap_le_maxLen _ _ _ _ (by unfold maxLen;omega)
  ·have:=grownCap_ge (w0.alloc (.cells #[x] 21)) (0+1) 0 21
   simp[Builtin.zeroCells,Value.cells]at this⊢;omega
  ·simp
  ·exact grown_alloc (grown_drew (World.grownBy_alloc _ _ _)) _
 ·have hne:g≠w0.heap.size:=by have:=(Array.getElem?_eq_some_iff.1 hg).1;omega
  have hgl:g<w0.heap.size:=(Array.getElem?_eq_some_iff.1 hg).1;have hgn:(w0.alloc (.cells #[x] 21)).heap[g]?=some (.cells cur 21 (0,0)):=(heap_alloc_old w0 _ hgl).trans hg;simp only[Nat.mul_one]at htake hsz;unfold maxLen at hmax;have hcell:∀j (hj:j<cap),(w0.alloc (.cells #[x] 21)).cell? ⟨g,0+j,none⟩=some (cur[j]'(by omega)):=by
   intro j hj;rw[Nat.zero_add,cell_of_row _ g j cur 21 (0,0) hgn];simp[hsz,hj]
  have hcs:∀j u,xs[j]?=some u→(w0.alloc (.cells #[x] 21)).cell? ⟨g,0+j,none⟩=some u:=by
   intro j u hj;rw[Nat.zero_add];rw[cell_of_row _ g j cur 21 (0,0) hgn];rw[←htake,List.getElem?_take]at hj;split at hj
   ·simpa using hj
   ·cases hj
  have hsome:∀j,j<cap→((w0.alloc (.cells #[x] 21)).cell? ⟨g,0+j,none⟩).isSome=true:=fun j hj=>by rw[hcell j hj];rfl
  have hfz:∀j,(w0.alloc (.cells #[x] 21)).frozen? ⟨g,j,none⟩=false:=by
   intro j;unfold World.frozen?;rw[hgn];simp
  by_cases hroom:xs.length+1≤cap
  ·by_cases hend:i=xs.length
   ·subst hend
    refine(insert_end_room g 0 xs.length cap w0.heap.size 0 1 1 [x] _ (by omega) hroom (by omega) rfl (fun j hj=>by rw[Nat.zero_add]at*;have:=hsome (xs.length+j) (by omega);rwa[Nat.zero_add]at this) (fun j hj=>hfz _) hvs h1v).mono ?_;rintro e w' ⟨rfl,rfl⟩;refine⟨_,rfl,⟨hlen, .inr ⟨_,_,_,rfl,hg0,heap_setCells_in _ _ _ _ hgn,hroom,by unfold maxLen;omega, ?_, ?_⟩⟩, ?_⟩
    ·rw[size_putL];omega
    ·rw[Nat.zero_add,toList_putL _ _ _ (by simp;omega),htake,List.take_length,List.drop_length]
     rw[Nat.mul_one,List.take_append_of_le_length (by simp),List.take_of_length_le (by simp)];simp
    ·exact grown_trans2 (World.grownBy_alloc _ _ _) (grown_setCells _ _ _ _)
   ·have hcell0:∀(W:World) (cs:Array Value) (b:Nat),W.heap[b]?=some (.cells cs 21 (0,0))→W.shape? b=some (21,cs.size):=by
     intro W cs b h;unfold World.shape?;rw[h]
    refine(insert_shift g 0 xs.length cap i w0.heap.size 0 1 1 xs [x] _ (by omega) (by omega) hroom (by omega) (Ne.symm hne) rfl rfl hcs (fun j hj=>hsome j (by omega)) (fun j _=>hfz _) hvs hxs h1v 21 21 1 cap
     (hcell0 _ #[x] _ (heap_alloc_new w0 _)) (by rw[hcell0 _ cur _ hgn,hsz]) (by omega) ?_ ?_).mono ?_
    ·unfold World.frozen?
     rw[show(w0.alloc (.cells #[x] 21)).heap[w0.heap.size]?=some (.cells #[x] 21 (0,0))from heap_alloc_new w0 _];simp
    ·unfold World.frozen?
     rw[show(w0.alloc (.cells #[x] 21)).heap[w0.heap.size]?=some (.cells #[x] 21 (0,0))from heap_alloc_new w0 _];simp
    rintro e w' ⟨rfl,rfl⟩;refine⟨_,rfl,⟨hlen, .inr ⟨_,_,_,rfl,hg0,heap_setCells_in _ _ _ _ (heap_setCells_in _ _ _ _ hgn),hroom,by unfold maxLen;omega, ?_, ?_⟩⟩, ?_⟩
    ·rw[size_putL,size_putL];omega
    ·rw[Nat.zero_add,Nat.zero_add,toList_putL _ _ _ (by rw[size_putL];simp;omega),toList_putL _ _ _ (by simp;omega)]
     rw[Nat.mul_one];exact ins_shift htake rfl hi (by simp;omega)
    ·exact grown_trans2 (grown_drew (World.grownBy_alloc _ _ _)) (grown_trans2 (grown_setCells _ _ _ _) (grown_setCells _ _ _ _))
  ·have hcapn:cap=xs.length:=by omega
   subst hcapn;by_cases hend:i=xs.length
   ·subst hend
    refine(insert_end_grow (some ⟨g,0,none⟩) xs.length xs.length w0.heap.size 0 1 1 xs [x] _ (by omega) (by omega) (by omega) (by omega) rfl rfl (fun h=>by cases h) (fun a ha j u hj=>by cases ha;rw[Addr.add_lit];exact hcs j u hj) hvs h1v).mono ?_;rintro e w' ⟨rfl,rfl⟩;refine⟨_,rfl,⟨hlen, .inr ⟨_,_,_,rfl, ?_,heap_alloc_new _ _, ?_, ?_, ?_, ?_⟩⟩, ?_⟩
    ·simp;omega
    ·exact grownCap_ge _ _ _ _
    ·exact grownCap_le_maxLen _ _ _ _ (by unfold maxLen;omega)
    ·have:=grownCap_ge (w0.alloc (.cells #[x] 21)) (xs.length+1) xs.length 21
     simp[Builtin.zeroCells,Value.cells]at this⊢;omega
    ·simp only[List.take_length,List.drop_length,List.append_nil,Array.toList_append,List.toList_toArray]
     exact List.take_left' (by simp)
    ·exact grown_alloc (grown_drew (World.grownBy_alloc _ _ _)) _
   ·refine(insert_grow g 0 xs.length xs.length i w0.heap.size 0 1 1 xs [x] _ (by omega) (by omega) (by omega) (by omega) (by omega) rfl rfl hcs hvs hxs h1v).mono ?_
    rintro e w' ⟨rfl,rfl⟩;refine⟨_,rfl,⟨hlen, .inr ⟨_,_,_,rfl, ?_,heap_setCells_in _ _ _ _ (heap_setCells_in _ _ _ _ (heap_alloc_new _ _)), ?_, ?_, ?_, ?_⟩⟩, ?_⟩
    ·simp;omega
    ·exact grownCap_ge _ _ _ _
    ·exact grownCap_le_maxLen _ _ _ _ (by unfold maxLen;omega)
    ·have:=grownCap_ge (w0.alloc (.cells #[x] 21)) (xs.length+1) xs.length 21
     rw[size_putL,size_putL];simp[Builtin.zeroCells,Value.cells]at this⊢;omega
    ·rw[toList_putL _ _ _ (by rw[size_putL];simp[Builtin.zeroCells,Value.cells];omega),toList_putL _ _ _ (by simp[Builtin.zeroCells,Value.cells];omega),Nat.mul_one]
     refine ins_grow ?_ rfl hi ?_
     ·simp only[Array.toList_append,List.toList_toArray,List.append_assoc]
      exact List.take_left' (by simp;omega)
     ·simp[Builtin.zeroCells,Value.cells];omega
    ·refine grown_of_below ?_
     refine below_setCells_new (by simp) _ _ _ (Below.drew (below_setCells_new (by simp) _ _ _ (Below.drew (Below.alloc (below_alloc _ _) (by simp) _))))
end Go.Proofs.YtjkipdoebkhkaaaGreatDoor
