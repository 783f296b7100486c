/- strings.Trim of two bytes at the slashes. -/
import Derived.Test.YthlnkoblpmjahaaGreatDoorGUrl3
import Derived.LoopN
import Derived.BigRegion
import Derived.Test.YthlnkoblpmjahaaGreatDoorGUrl1
import Derived.Recover
import Derived.Test.YthlnkoblpmjahaaGreatDoorShelf
import Derived.Test.YthlnkoblpmjahaaGreatDoorGUrlT
import Derived.Test.YthlnkoblpmjahaaGreatDoorGUrl2
import Derived.Deep.CutBlock
import Derived.Deep.QuietTactic
import Derived.BigQuiet
import Derived.Deep.DeepCutAuto
set_option linter.unusedVariables false
set_option linter.unusedSimpArgs false
set_option maxHeartbeats 16000000
namespace Go.Proofs.YthlnkoblpmjahaaGreatDoor
open Go.RowKit
def trimR2 (a b:UInt8):List UInt8:=if slashB b=true then (if slashB a=true then []else [a])else [a,b]
theorem trimR2_nil (a b:UInt8):((trimR2 a b).dropWhile slashB==[])=(slashB a&&slashB b):=by
 unfold trimR2
 cases ha:slashB a<;>cases hb:slashB b<;>simp[List.dropWhile_cons,ha,hb]
theorem trimR2_len (a b:UInt8):(trimR2 a b).length≤2:=by
 unfold trimR2;split
 ·split<;>simp
 ·simp
set_option maxRecDepth 100000 in
theorem trim_right (p:Nat) (a b:UInt8) (w:World) (hp:∀x:UInt8,w.cell? ⟨p,x.toNat,none⟩=some (.bool (slashB x))):
 Calls Tryz.prog 137 #[.string ⟨#[a,b]⟩, .pointer (some ⟨p,0,none⟩)] w fun e w'=>e= .returned (.string ⟨(trimR2 a b).toArray⟩)∧w=w':=by
 have hnot:∀(x:Bool) (w:World),(Op.unary .not (.bool x)).run Tryz.prog w= .ok (.bool (!x)) w:=fun _ _=>rfl
 have ca:=Tryz.asciiSet_contains p a (slashB a) w (hp a)
 have cb:=Tryz.asciiSet_contains p b (slashB b) w (hp b)
 have hT:Hid (trimR2 a b=if slashB b=true then (if slashB a=true then []else [a])else [a,b]):=rfl
 clear hp
 cases hb:slashB b with
 |false=>
  rw[hb]at cb hT;go_enter Tryz.func137,Tryz.ntmps137;go_wp2_with fail;refine wp_loop_rounds 3 ?_;rw[rounds_succ];go_wp2_with(go_at_call 147;refine cb.mono ?_;rintro e w2 ⟨rfl,rfl⟩);go_ret;exact⟨by rw[hT.out];rfl,rfl⟩
 |true=>
  rw[hb]at cb hT
  cases ha:slashB a with
  |false=>
   rw[ha]at ca hT;go_enter Tryz.func137,Tryz.ntmps137;go_wp2_with fail;refine wp_loop_rounds 3 ?_;rw[rounds_succ];go_wp2_with(go_at_call 147;refine cb.mono ?_;rintro e w2 ⟨rfl,rfl⟩);rw[rounds_succ];go_wp2_with(go_at_call 147;refine ca.mono ?_;rintro e w2 ⟨rfl,rfl⟩);go_ret;exact⟨by rw[hT.out];rfl,rfl⟩
  |true=>
   rw[ha]at ca hT;go_enter Tryz.func137,Tryz.ntmps137;go_wp2_with fail;refine wp_loop_rounds 3 ?_;rw[rounds_succ];go_wp2_with(go_at_call 147;refine cb.mono ?_;rintro e w2 ⟨rfl,rfl⟩);rw[rounds_succ];go_wp2_with(go_at_call 147;refine ca.mono ?_;rintro e w2 ⟨rfl,rfl⟩);rw[rounds_succ];go_wp2_with fail;go_ret;exact⟨by rw[hT.out];rfl,rfl⟩
set_option maxRecDepth 100000 in
theorem trim_two (a b:UInt8) (w:World):
 Calls Tryz.prog 92 #[.string ⟨#[a,b]⟩, .string ⟨#[47,92]⟩] w fun e w'=>e= .returned (.string ⟨((trimR2 a b).dropWhile slashB).toArray⟩)∧Below w.heap.size w w':=by
 have hv:∀w,(zeroValue 143).run Tryz.prog w= .ok (.agg (Array.replicate 256 (.bool false))) w:=fun w=>by kernel_rfl
 have cm:=Tryz.strings_makeASCIISet hv ⟨#[47,92]⟩ w (by decide) (fun j b hj=>(show ∀c∈([47,92]:List UInt8),c.toNat<128 by decide) b (List.mem_of_getElem? hj))
 have cm:Calls Tryz.prog 135 #[.string ⟨#[47,92]⟩] w fun e w'=>e= .returned (.tuple #[.agg (Lib.setCells [47,92]), .bool true])∧w'=w.alloc (.cells (Lib.setCells [47,92]) 143):=cm
 have hsz:=Lib.setCells_size [47,92]
 have hone:=Lib.setCells_one [47,92]
 have hat:∀x:UInt8,(Lib.setCells [47,92])[x.toNat]?=some (.bool (slashB x)):=fun x=>by rw[Lib.setCells_at,←slS_is];rfl
 generalize Lib.setCells [47,92]=A at*
 obtain⟨w2,hw2⟩:∃w2,(w.alloc (.cells A 143)).alloc (.cells (Array.replicate 256 (Value.bool false)) 143)=w2:=⟨_,rfl⟩
 have hb2:Below w.heap.size w w2:=by rw[←hw2];exact((Below.refl w.heap.size w).alloc (Nat.le_refl _) _).alloc (by rw[World.size_alloc];omega) _
 have hh2:w2.heap[w.heap.size+1]?=some (.cells (Array.replicate 256 (Value.bool false)) 143 (0,0)):=by
  have:=heap_alloc_new (w.alloc (.cells A 143)) (.cells (Array.replicate 256 (Value.bool false)) 143);rw[World.size_alloc,hw2]at this;exact this
 have hst:(storeCells ⟨w.heap.size+1,0,none⟩ A.toList).run Tryz.prog ((w.alloc (.cells A 143)).alloc (.cells (Array.replicate 256 (Value.bool false)) 143))= .ok () (w2.setRow (w.heap.size+1) A):=by
  rw[hw2];exact store_cells (run_storeVar_row (P:=Tryz.prog) w2 (w.heap.size+1) 143 143 _ A hh2 (by rw[hsz];kernel_rfl) (by rw[hsz];simp) hone)
 have hb3:Below w.heap.size w (w2.setRow (w.heap.size+1) A):=⟨hb2.os,hb2.tape,hb2.output,by rw[setRow_size];exact hb2.size,fun k hk=>(setRow_other _ _ _ _ (by omega)).trans (hb2.block k hk)⟩
 have hcell:∀x:UInt8,(w2.setRow (w.heap.size+1) A).cell? ⟨w.heap.size+1,x.toNat,none⟩=some (.bool (slashB x)):=fun x=>by
  rw[cell_setRow_same w2 (w.heap.size+1) _ _ _ _ _ hh2];exact hat x
 generalize w2.setRow (w.heap.size+1) A=w3 at*
 have ct:=trim_set (w.heap.size+1) (trimR2 a b) w3 hcell (by have:=trimR2_len a b;omega)
 have cr:=trim_right (w.heap.size+1) a b w3 hcell
 clear hw2 hh2 hb2 hcell hat hone
 go_enter Tryz.func92,Tryz.ntmps92
 go_wp2_with fail
 go_at_call 135
 refine cm.mono ?_
 rintro e w1 ⟨rfl,rfl⟩
 clear cm
 go_wp2_with fail
 go_at_call 137
 refine cr.mono ?_
 rintro e w4 ⟨rfl,rfl⟩
 clear cr
 go_wp2_with fail
 go_at_call 136
 refine ct.mono ?_
 rintro e w4 ⟨rfl,rfl⟩
 clear ct
 go_wp2_with fail
 go_ret
 exact⟨rfl,hb3⟩
open Go.RowKit
def SeenPost (R:Nat) (u base:UrlL) (s:List UInt8) (w:World) (e:Ending) (w':World):Prop:=
 KeptX w.heap.size R w w'∧match seenU u base s with
  | .error n=>e=panE n
  | .ok v=>e= .returned (.tuple #[])∧∃t,RdAt R v base t w'
def BaseAt (B:Nat) (base:UrlL) (w:World):Prop:=w.heap[B]?=some (.cells (cellsU base).toArray 23 (0,0))
theorem seen_cons {u base:UrlL} {x:UInt8} {r:List UInt8} (h:twoSl (x::r)=false):seenU u base (x::r)=if slashB x=true then .ok {u with user:=base.user,pass:=base.pass,host:=base.host,port:=base.port,path:=pathL [] r}else .ok {u with user:=base.user,pass:=base.pass,host:=base.host,port:=base.port,path:=pathL (partsL 47 base.path).tail.dropLast (x::r)}:=by
 unfold seenU;rw[if_neg (by rw[h];simp)]
theorem base_parts {s:List UInt8} (h:47∈s):2≤(partsL 47 s).length∧(backL 47 (partsL 47 s).tail.dropLast).length≤s.length∧(partsL 47 s).length≤s.length+1:=by
 refine⟨by rw[partsL_len];have:=List.count_pos_iff.2 h;omega, ?_,(partsL_le 47 s).2⟩;have hj:=join_parts 47 s
 cases hP:partsL 47 s with
 |nil=>exact absurd hP (partsL_ne 47 s)
 |cons p l=>
  rw[hP,joinL_back]at hj;have:=backL_drop 47 l;have hl:=congrArg List.length hj;rw[List.length_append]at hl;simp only[List.tail_cons];omega
theorem base_piece (P:List (List UInt8)) (g:Nat) (w:World) (h:w.heap[g]?=some (.cells (strs P).toArray 9 (0,0))) (hP:2≤P.length) (o n:Nat) (hn:n=P.length-2) (ho:o=1∨n=0):Piece w (some g) (.slice (some ⟨g,o,none⟩) n n) P.tail.dropLast w:=by
 have hl:P.tail.dropLast.length=n:=by simp;omega
 refine⟨⟨rfl,rfl,rfl,Nat.le_refl _,fun _ _ _=>rfl⟩, .inr ⟨g,o,n,by rw[hl], .inl rfl,(Array.getElem?_eq_some_iff.1 h).1,by omega,fun j u hj=> ?_,fun j hj=>⟨?_,Lib.frozen_of_heap h _⟩⟩⟩
 ·have hjl:j<n:=by
   have:=(List.getElem?_eq_some_iff.1 hj).1;rw[←hl];simpa[strs]using this
  obtain rfl:o=1:=by omega
  rw[Lib.cell_of_heap h,List.getElem?_toArray,←hj,strs,strs,List.getElem?_map,List.getElem?_map,List.getElem?_dropLast,if_pos (by simp;omega),List.getElem?_tail,Nat.add_comm]
 ·rw[Lib.cell_of_heap h,List.getElem?_toArray,strs,List.getElem?_map,List.getElem?_eq_getElem (by omega)];rfl
set_option maxRecDepth 100000 in
theorem seen_r (R:Nat) (u base:UrlL) (s:List UInt8) (w:World) (h:RdAt R u base s w) (hE:EnvR R w) (hs:s.length≤4100) (hu:u.user=[]) (hp:u.pass=[]) (hsl:47∈base.path) (hbl:base.path.length≤4100):
 Calls Tryz.prog 65 #[.pointer (some ⟨R,0,none⟩)] w (SeenPost R u base s w):=by
 have c10:w.cell? ⟨R,10,none⟩=some (.string ⟨s.toArray⟩):=h.cell 10
 have hlt:=h.lt
 have c11:w.cell? ⟨R,11,none⟩=some (.string ⟨base.scheme.toArray⟩):=h.cell 11
 have c12:w.cell? ⟨R,12,none⟩=some (.string ⟨base.user.toArray⟩):=h.cell 12
 have c13:w.cell? ⟨R,13,none⟩=some (.string ⟨base.pass.toArray⟩):=h.cell 13
 have c14:w.cell? ⟨R,14,none⟩=some (.string ⟨base.host.toArray⟩):=h.cell 14
 have c15:w.cell? ⟨R,15,none⟩=some (.int .i64 base.port):=h.cell 15
 have c16:w.cell? ⟨R,16,none⟩=some (.string ⟨base.path.toArray⟩):=h.cell 16
 have c17:w.cell? ⟨R,17,none⟩=some (.string ⟨base.query.toArray⟩):=h.cell 17
 have c18:w.cell? ⟨R,18,none⟩=some (.bool base.hasQ):=h.cell 18
 have c19:w.cell? ⟨R,19,none⟩=some (.string ⟨base.mark.toArray⟩):=h.cell 19
 have c20:w.cell? ⟨R,20,none⟩=some (.bool base.hasM):=h.cell 20
 go_enter Tryz.func65,Tryz.ntmps65
 go_wp2_with fail
 go_region
 obtain⟨w1,hw1⟩:∃W,(w.alloc (.cells #[.string ⟨base.scheme.toArray⟩, .string ⟨base.user.toArray⟩, .string ⟨base.pass.toArray⟩, .string ⟨base.host.toArray⟩, .int .i64 base.port, .string ⟨base.path.toArray⟩, .string ⟨base.query.toArray⟩, .bool base.hasQ, .string ⟨base.mark.toArray⟩, .bool base.hasM] 23)).drew=W:=⟨_,rfl⟩
 rw[hw1]
 have hb1:Below w.heap.size w w1:=by rw[←hw1];exact((Below.refl w.heap.size w).alloc (Nat.le_refl _) _).drew
 have hB1:BaseAt w.heap.size base w1:=by rw[←hw1];exact heap_alloc_new w _
 have hR1:=h.below hb1
 have hK1:=KeptX.of_below hb1 (Nat.le_of_lt hlt)
 have hE1:=hE.below hb1
 clear hw1 c10 c11 c12 c13 c14 c15 c16 c17 c18 c19 c20 hb1 h hE
 go_upto_region 1 with fail
 go_cut [21] (fun a21 wx=>a21= .bool (twoSl s)∧Below w1.heap.size w1 wx)
 case first=>
  cases s with
  |nil=>
   go_wp2_with fail;go_meet;exact⟨rfl,Below.refl _ _⟩
  |cons a s=>
   cases s with
   |nil=>
    go_wp2_with fail;go_meet;exact⟨rfl,Below.refl _ _⟩
   |cons b s=>
    have hn:(1:Int)<((a::b::s).length:Int):=by simp only[List.length_cons];omega
    have hn2:(2:Int)≤((a::b::s).length:Int):=by simp only[List.length_cons];omega
    have ct:=trim_two a b w1;have hq:Hid ((((trimR2 a b).dropWhile slashB)==[])=twoSl (a::b::s)):=trimR2_nil a b;generalize (trimR2 a b).dropWhile slashB=X at*;clear hsl hbl hR1 hK1 hE1 hB1;go_wp2_with fail;go_at_call 92;refine ct.mono ?_;rintro e w2 ⟨rfl,hb2⟩;clear ct;go_wp2_with fail;go_meet;exact⟨congrArg Value.bool ((by cases X<;>rfl:X.isEmpty=(X==[])).trans hq.out),hb2⟩
 case rest=>
  obtain⟨rfl,hb2⟩:=hcut;have hR2:=hR1.below hb2;have hK2:=hK1.calm (Nat.le_of_lt hR1.lt) hb2;have hE2:=hE1.below hb2;have hB2:BaseAt w.heap.size base wc:=(hb2.block _ (Array.getElem?_eq_some_iff.1 hB1).1).trans hB1;clear hR1 hK1 hE1 hB1 hb2
  cases htw:twoSl s with
  |true=>
   have hd:seenU u base s=placeU u (s.dropWhile slashB):=if_pos htw;have cp:=place_r idx_sl R u base s wc hR2 hE2 hs hu hp;have HD:=Lib.hid hd;clear hd;go_wp2_with fail;go_at_call 68;refine cp.mono ?_;rintro e w3 ⟨hK3,hpl⟩;have hK4:=hK2.next hK3;clear cp hK3 hK2 hR2 hE2 hB2
   cases hpu:placeU u (s.dropWhile slashB)with
   |error n=>
    rw[hpu]at hpl;obtain rfl:e=panE n:=hpl;exact⟨rfl,hK4,by rw[HD.out,hpu];rfl⟩
   |ok v=>
    rw[hpu]at hpl;obtain⟨rfl,t,hR4⟩:e= .returned (.tuple #[])∧∃t,RdAt R v base t w3:=hpl;go_wp2_with fail
    first|go_end0|refine bodyPost_ret (results_none rfl _ _ _) rfl ?_
    exact⟨hK4,by rw[HD.out,hpu];exact⟨rfl,t,hR4⟩⟩
  |false=>
   have HT:=Lib.hid htw;clear htw;obtain⟨B,hB⟩:∃B,w.heap.size=B:=⟨_,rfl⟩;rw[hB]at hB2⊢;have hBR:B≠R:=by omega
   have hRB:R≠B:=by omega
   have hBl:B<wc.heap.size:=(Array.getElem?_eq_some_iff.1 hB2).1;clear hB;have b1:wc.cell? ⟨B,1,none⟩=some (.string ⟨base.user.toArray⟩):=by rw[Lib.cell_of_heap hB2];rfl
   have b2:wc.cell? ⟨B,2,none⟩=some (.string ⟨base.pass.toArray⟩):=by rw[Lib.cell_of_heap hB2];rfl
   have b3:wc.cell? ⟨B,3,none⟩=some (.string ⟨base.host.toArray⟩):=by rw[Lib.cell_of_heap hB2];rfl
   have b4:wc.cell? ⟨B,4,none⟩=some (.int .i64 base.port):=by rw[Lib.cell_of_heap hB2];rfl
   have k1:wc.cell? ⟨R,1,none⟩=some _:=hR2.cell 1;have k2:wc.cell? ⟨R,2,none⟩=some _:=hR2.cell 2;have k3:wc.cell? ⟨R,3,none⟩=some _:=hR2.cell 3;have k4:wc.cell? ⟨R,4,none⟩=some _:=hR2.cell 4;have f1:=hR2.free 1;have f2:=hR2.free 2;have f3:=hR2.free 3;have f4:=hR2.free 4;go_wp2_with fail;go_region;have hR3a:=hR2.set (s':=s) (u':= {u with user:=base.user}) 1 (.string ⟨base.user.toArray⟩) rfl;have hR3b:=hR3a.set (s':=s) (u':= {u with user:=base.user,pass:=base.pass}) 2 (.string ⟨base.pass.toArray⟩) rfl;have hR3c:=hR3b.set (s':=s) (u':= {u with user:=base.user,pass:=base.pass,host:=base.host}) 3 (.string ⟨base.host.toArray⟩) rfl;have hR3d:=hR3c.set (s':=s) (u':= {u with user:=base.user,pass:=base.pass,host:=base.host,port:=base.port}) 4 (.int .i64 base.port) rfl;have hKa:=(((hR2.kept 1 (.string ⟨base.user.toArray⟩)).next (hR3a.kept 2 (.string ⟨base.pass.toArray⟩))).next (hR3b.kept 3 (.string ⟨base.host.toArray⟩))).next (hR3c.kept 4 (.int .i64 base.port));clear hR3a hR3b hR3c b1 b2 b3 b4 k1 k2 k3 k4 f1 f2 f3 f4;obtain⟨w3,hw3⟩:∃W,((((wc.setCell ⟨R,1,none⟩ (.string ⟨base.user.toArray⟩)).setCell ⟨R,2,none⟩ (.string ⟨base.pass.toArray⟩)).setCell ⟨R,3,none⟩ (.string ⟨base.host.toArray⟩)).setCell ⟨R,4,none⟩ (.int .i64 base.port)).drew=W:=⟨_,rfl⟩;rw[hw3];have hKb:KeptX wc.heap.size R wc w3:=by rw[←hw3];exact⟨hKa.1.drew,hKa.2⟩
   have hR3:RdAt R {u with user:=base.user,pass:=base.pass,host:=base.host,port:=base.port} base s w3:=by rw[←hw3];exact hR3d
   have hB3:BaseAt B base w3:=(hKb.2 B hBl hBR).trans hB2;have hK3:=hK2.next hKb;have hE3:=hE2.kept hKb;have hR3lt:=hR3.lt;clear hw3 hR3d hKa hKb hB2 hR2 hK2 hE2;have b5:w3.cell? ⟨B,5,none⟩=some (.string ⟨base.path.toArray⟩):=by rw[Lib.cell_of_heap hB3];rfl
   cases s with
   |nil=>
    have HD:Hid (seenU u base []= .ok (if u.hasQ=true then {u with user:=base.user,pass:=base.pass,host:=base.host,port:=base.port,path:=base.path}else {u with user:=base.user,pass:=base.pass,host:=base.host,port:=base.port,path:=base.path,hasQ:=base.hasQ,query:=base.query})):=rfl;have b6:w3.cell? ⟨B,6,none⟩=some (.string ⟨base.query.toArray⟩):=by rw[Lib.cell_of_heap hB3];rfl
    have b7:w3.cell? ⟨B,7,none⟩=some (.bool base.hasQ):=by rw[Lib.cell_of_heap hB3];rfl
    have k5:w3.cell? ⟨R,5,none⟩=some _:=hR3.cell 5;have k6:w3.cell? ⟨R,6,none⟩=some _:=hR3.cell 6;have k7:w3.cell? ⟨R,7,none⟩=some (.bool u.hasQ):=hR3.cell 7;have f5:=hR3.free 5;have f6:=hR3.free 6;have f7:=hR3.free 7;have hR4:=hR3.set (s':=[]) (u':= {u with user:=base.user,pass:=base.pass,host:=base.host,port:=base.port,path:=base.path}) 5 (.string ⟨base.path.toArray⟩) rfl;have hK4:=hK3.next (hR3.kept 5 (.string ⟨base.path.toArray⟩));clear hB3 hE3
    cases hq:u.hasQ with
    |true=>
     rw[hq]at k7;have HF:Hid (seenU u base []= .ok {u with user:=base.user,pass:=base.pass,host:=base.host,port:=base.port,path:=base.path}):=by
      show _=_;rw[HD.out,hq];rfl
     clear HD HT hq;go_wp2_with fail
     first|go_end0|refine bodyPost_ret (results_none rfl _ _ _) rfl ?_
     exact⟨hK4,by rw[HF.out];exact⟨rfl,[],hR4⟩⟩
    |false=>
     rw[hq]at k7;have HF:Hid (seenU u base []= .ok {u with user:=base.user,pass:=base.pass,host:=base.host,port:=base.port,path:=base.path,hasQ:=base.hasQ,query:=base.query}):=by
      show _=_;rw[HD.out,hq];rfl
     have hR5a:=hR4.set (s':=[]) (u':= {u with user:=base.user,pass:=base.pass,host:=base.host,port:=base.port,path:=base.path,hasQ:=base.hasQ}) 7 (.bool base.hasQ) rfl;have hR5:=hR5a.set (s':=[]) (u':= {u with user:=base.user,pass:=base.pass,host:=base.host,port:=base.port,path:=base.path,hasQ:=base.hasQ,query:=base.query}) 6 (.string ⟨base.query.toArray⟩) rfl;have hK5:=(hK4.next (hR4.kept 7 (.bool base.hasQ))).next (hR5a.kept 6 (.string ⟨base.query.toArray⟩));clear HD HT hq hR5a hR4 hK4;go_wp2_with fail;go_region;go_wp2_with fail
     first|go_end0|refine bodyPost_ret (results_none rfl _ _ _) rfl ?_
     exact⟨⟨hK5.1.drew,hK5.2⟩,by rw[HF.out];exact⟨rfl,[],hR5⟩⟩
   |cons x r=>
    have ci:=fun W=>Tryz.strings_IndexByte ⟨#[47,92]⟩ (x.toNat:Int) W
    rw[show((x.toNat:Int)).toNat.toUInt8=x by simp]at ci;have hib:=Lib.contains_iff_indexByte [47,92] x;rw[slash_in]at hib;have hxn:(0:Int)<((x::r).length:Int):=by simp only[List.length_cons];omega
    have hxn1:(1:Int)≤((x::r).length:Int):=by simp only[List.length_cons];omega
    have HD:Hid (seenU u base (x::r)=if slashB x=true then .ok {u with user:=base.user,pass:=base.pass,host:=base.host,port:=base.port,path:=pathL [] r}else .ok {u with user:=base.user,pass:=base.pass,host:=base.host,port:=base.port,path:=pathL (partsL 47 base.path).tail.dropLast (x::r)}):=seen_cons HT.out;simp only[List.length_cons]at hs
    cases hsx:slashB x with
    |true=>
     rw[hsx]at hib;have hib2:(0:Int)≤Lib.indexByte [47,92] x:=of_decide_eq_true hib.symm;have HF:Hid (seenU u base (x::r)= .ok {u with user:=base.user,pass:=base.pass,host:=base.host,port:=base.port,path:=pathL [] r}):=by
      show _=_;rw[HD.out,hsx];rfl
     have k10:w3.cell? ⟨R,10,none⟩=some _:=hR3.cell 10;have f10:=hR3.free 10;have hR4:=hR3.set (s':=r) (u':= {u with user:=base.user,pass:=base.pass,host:=base.host,port:=base.port}) 10 (.string ⟨r.toArray⟩) rfl;have hKc:=hR3.kept 10 (.string ⟨r.toArray⟩);have hK4:=hK3.next hKc;have hE4:=hE3.kept hKc;clear HD HT hsx hib b5 hB3 hE3 hKc hK3;go_wp2_with fail;go_at_call 93;refine(ci _).mono ?_;rintro e w4 ⟨rfl,rfl⟩;clear ci;go_wp2_with fail;obtain⟨w5,hw5⟩:∃W,w4.setCell ⟨R,10,none⟩ (.string ⟨r.toArray⟩)=W:=⟨_,rfl⟩;rw[hw5]at hR4 hK4 hE4⊢;clear hw5;have cr:=rest_r w5.heap.size R {u with user:=base.user,pass:=base.pass,host:=base.host,port:=base.port} base r (.slice none 0 0) [] none w5 hR4 hE4 (by omega) hR4.lt (Nat.le_refl _) (fun g hg=>by cases hg) (fun W hW=>⟨⟨rfl,rfl,rfl,Nat.le_refl _,fun _ _ _=>rfl⟩, .inl ⟨rfl,rfl⟩⟩) (by simp) (by simp[backL]);go_at_call 94;refine cr.mono ?_;rintro e w6 ⟨rfl,hK6,hR6⟩;have hK7:=hK4.next hK6;clear cr hK4 hK6 hR4 hE4;go_wp2_with fail
     first|go_end0|refine bodyPost_ret (results_none rfl _ _ _) rfl ?_
     exact⟨hK7,by rw[HF.out];exact⟨rfl,r,hR6⟩⟩
    |false=>
     rw[hsx]at hib;have hib2:¬(0:Int)≤Lib.indexByte [47,92] x:=of_decide_eq_false hib.symm;have HF:Hid (seenU u base (x::r)= .ok {u with user:=base.user,pass:=base.pass,host:=base.host,port:=base.port,path:=pathL (partsL 47 base.path).tail.dropLast (x::r)}):=by
      show _=_;rw[HD.out,hsx];rfl
     have cs:=split_any base.path 47 w3 hE3.env.t.env.shaped (by omega);obtain⟨hPn,hPb,hPl⟩:=base_parts hsl;generalize partsL 47 base.path=P at*;have hl1:(1:Int)≤(P.length:Int)-1:=by omega
     clear HD HT hsx hib hB3 hsl;go_wp2_with fail;go_at_call 93;refine(ci _).mono ?_;rintro e w4 ⟨rfl,rfl⟩;clear ci;go_wp2_with fail;go_at_call 95;refine cs.mono ?_;rintro e w5 ⟨rfl,hw5⟩;clear cs b5;have hb5:Below w4.heap.size w4 w5:=by rw[hw5];exact(Below.refl _ w4).alloc (Nat.le_refl _) _
     have hrow:w5.heap[w4.heap.size]?=some (.cells (strs P).toArray 9 (0,0)):=by rw[hw5];exact heap_alloc_new w4 _
     have hs5:w5.heap.size=w4.heap.size+1:=by rw[hw5];exact World.size_alloc _ _
     clear hw5;have hR5:=hR3.below hb5;have hE5:=hE3.below hb5;have hK5:=hK3.calm (Nat.le_of_lt hR3lt) hb5;have hpc:=fun W (hW:Below w5.heap.size w5 W)=>base_piece P w4.heap.size W ((hW.block _ (by omega)).trans hrow) hPn
     have cr:=fun (o n:Nat) (hn:n=P.length-2) (ho:o=1∨n=0)=>rest_r w4.heap.size R {u with user:=base.user,pass:=base.pass,host:=base.host,port:=base.port} base (x::r) (.slice (some ⟨w4.heap.size,o,none⟩) n n) P.tail.dropLast (some w4.heap.size) w5 hR5 hE5 (by simp only[List.length_cons];omega) hR3lt (by omega) (fun g hg=>by injection hg with hg;subst hg;omega) (fun W hW=>hpc W hW o n hn ho) (by simp;omega) (by omega)
     have hle:=hK3.1.size;clear hR5 hE5 hpc hR3 hE3 hrow hK3 hb5;go_wp2_with fail
     ·go_at_call 94
      refine(cr 0 0 (by omega) (.inr rfl)).mono ?_;rintro e w6 ⟨rfl,hK6,hR6⟩;have hK7:=hK5.trans (hK6.lower hle);clear cr hK5 hK6 h;go_wp2_with fail
      first|go_end0|refine bodyPost_ret (results_none rfl _ _ _) rfl ?_
      exact⟨hK7,by rw[HF.out];exact⟨rfl,x::r,hR6⟩⟩
     ·go_at_call 94
      refine(cr 1 (P.length-1-1) (by omega) (.inl rfl)).mono ?_;rintro e w6 ⟨rfl,hK6,hR6⟩;have hK7:=hK5.trans (hK6.lower hle);clear cr hK5 hK6 h;go_wp2_with fail
      first|go_end0|refine bodyPost_ret (results_none rfl _ _ _) rfl ?_
      exact⟨hK7,by rw[HF.out];exact⟨rfl,x::r,hR6⟩⟩
open Go.RowKit
set_option maxRecDepth 100000 in
theorem catch_idle (U E:Nat) (w:World):
 CallsD Tryz.prog 61 #[.pointer (some ⟨U,0,none⟩), .pointer (some ⟨E,0,none⟩)] .returning w fun e u' w'=>e= .returned (.tuple #[])∧u'= .returning∧w'=w:=by
 have ht:∀w:World,(Instr.typeAssert .nilIface 20 32 true).run Tryz.prog w= .ok (.tuple #[.int .i64 0, .bool false]) w:=fun w=>by kernel_rfl
 refine callsD_of_wpS Tryz.func61 rfl fun c₀ cs hu=> ?_
 apply wpS_seq
 apply wpS_region
 simp[wpOpsS,go_sem,recoverD,hu,Tryz.ntmps61,Exit.thenS,ht]
 apply wpS_seq
 apply wpS_region
 simp[wpOpsS,go_sem,Exit.thenS]
 refine wpS_cond (t:=false) (by simp[Act.eval,Array.replicate]) ?_
 simp only[Bool.false_eq_true,if_false]
 refine wpS_of_wp (wp_skip ?_)
 cases c₀
 simp_all[bodyPostS,results,Tryz.results61]
def ErrAt (E:Nat) (n:Int) (w:World):Prop:=w.heap[E]?=some (.cells #[.int .i64 n] 32 (0,0))
def UrlAt (B:Nat) (u:UrlL) (w:World):Prop:=w.heap[B]?=some (.cells (cellsU u).toArray 23 (0,0))
theorem UrlAt.lt {B:Nat} {u:UrlL} {w:World} (h:UrlAt B u w):B<w.heap.size:=(Array.getElem?_eq_some_iff.1 h).1
theorem UrlAt.cell {B:Nat} {u:UrlL} {w:World} (h:UrlAt B u w) (k:Nat):w.cell? ⟨B,k,none⟩=(cellsU u)[k]?:=by rw[Lib.cell_of_heap h];simp
theorem UrlAt.free {B:Nat} {u:UrlL} {w:World} (h:UrlAt B u w) (k:Nat):w.frozen? ⟨B,k,none⟩=false:=Lib.frozen_of_heap h k
theorem UrlAt.cells {B:Nat} {u:UrlL} {w:World} (h:UrlAt B u w):w.cell? ⟨B,0,none⟩=some (.string ⟨u.scheme.toArray⟩)∧w.cell? ⟨B,1,none⟩=some (.string ⟨u.user.toArray⟩)∧w.cell? ⟨B,2,none⟩=some (.string ⟨u.pass.toArray⟩)∧w.cell? ⟨B,3,none⟩=some (.string ⟨u.host.toArray⟩)∧w.cell? ⟨B,4,none⟩=some (.int .i64 u.port)∧w.cell? ⟨B,5,none⟩=some (.string ⟨u.path.toArray⟩)∧w.cell? ⟨B,6,none⟩=some (.string ⟨u.query.toArray⟩)∧w.cell? ⟨B,7,none⟩=some (.bool u.hasQ)∧w.cell? ⟨B,8,none⟩=some (.string ⟨u.mark.toArray⟩)∧w.cell? ⟨B,9,none⟩=some (.bool u.hasM):=
 ⟨h.cell 0,h.cell 1,h.cell 2,h.cell 3,h.cell 4,h.cell 5,h.cell 6,h.cell 7,h.cell 8,h.cell 9⟩
theorem UrlAt.frees {B:Nat} {u:UrlL} {w:World} (h:UrlAt B u w):w.frozen? ⟨B,0,none⟩=false∧w.frozen? ⟨B,1,none⟩=false∧w.frozen? ⟨B,2,none⟩=false∧w.frozen? ⟨B,3,none⟩=false∧w.frozen? ⟨B,4,none⟩=false∧w.frozen? ⟨B,5,none⟩=false∧w.frozen? ⟨B,6,none⟩=false∧w.frozen? ⟨B,7,none⟩=false∧w.frozen? ⟨B,8,none⟩=false∧w.frozen? ⟨B,9,none⟩=false:=
 ⟨h.free 0,h.free 1,h.free 2,h.free 3,h.free 4,h.free 5,h.free 6,h.free 7,h.free 8,h.free 9⟩
theorem ErrAt.lt {B:Nat} {n:Int} {w:World} (h:ErrAt B n w):B<w.heap.size:=(Array.getElem?_eq_some_iff.1 h).1
theorem ErrAt.cell {B:Nat} {n:Int} {w:World} (h:ErrAt B n w):w.cell? ⟨B,0,none⟩=some (.int .i64 n):=by rw[Lib.cell_of_heap h];rfl
theorem ErrAt.free {B:Nat} {n:Int} {w:World} (h:ErrAt B n w):w.frozen? ⟨B,0,none⟩=false:=Lib.frozen_of_heap h 0
def putU (w:World) (B:Nat) (v:UrlL):World:=
 (((((((((w.setCell ⟨B,0,none⟩ (.string ⟨v.scheme.toArray⟩)).setCell ⟨B,1,none⟩ (.string ⟨v.user.toArray⟩)).setCell ⟨B,2,none⟩ (.string ⟨v.pass.toArray⟩)).setCell ⟨B,3,none⟩ (.string ⟨v.host.toArray⟩)).setCell ⟨B,4,none⟩ (.int .i64 v.port)).setCell ⟨B,5,none⟩ (.string ⟨v.path.toArray⟩)).setCell ⟨B,6,none⟩ (.string ⟨v.query.toArray⟩)).setCell ⟨B,7,none⟩ (.bool v.hasQ)).setCell ⟨B,8,none⟩ (.string ⟨v.mark.toArray⟩)).setCell ⟨B,9,none⟩ (.bool v.hasM)
theorem UrlAt.put {B:Nat} {u:UrlL} {w:World} (h:UrlAt B u w) (v:UrlL):UrlAt B v (putU w B v):=by
 have one:∀ {W:World} {l:List Value} (k:Nat) (x:Value),W.heap[B]?=some (.cells l.toArray 23 (0,0))→(W.setCell ⟨B,k,none⟩ x).heap[B]?=some (.cells (l.set k x).toArray 23 (0,0)):=fun k x hW=>by
  rw[heap_setCell_in hW,List.setIfInBounds_toArray]
 exact one 9 _ (one 8 _ (one 7 _ (one 6 _ (one 5 _ (one 4 _ (one 3 _ (one 2 _ (one 1 _ (one 0 _ h)))))))))
theorem putU_other (w:World) (B:Nat) (v:UrlL) {i:Nat} (hi:i≠B):(putU w B v).heap[i]?=w.heap[i]?:=by
 have one:∀(W:World) (k:Nat) (x:Value),(W.setCell ⟨B,k,none⟩ x).heap[i]?=W.heap[i]?:=fun W k x=>Below.heap_setCell _ _ _ _ hi
 unfold putU;rw[one,one,one,one,one,one,one,one,one,one]
theorem putU_below {B n:Nat} {w0 w:World} (h:Below n w0 w) (hn:n≤B) (v:UrlL):Below n w0 (putU w B v):=
 (((((((((h.setCell (p:=⟨B,0,none⟩) hn _).setCell (p:=⟨B,1,none⟩) hn _).setCell (p:=⟨B,2,none⟩) hn _).setCell (p:=⟨B,3,none⟩) hn _).setCell (p:=⟨B,4,none⟩) hn _).setCell (p:=⟨B,5,none⟩) hn _).setCell (p:=⟨B,6,none⟩) hn _).setCell (p:=⟨B,7,none⟩) hn _).setCell (p:=⟨B,8,none⟩) hn _).setCell (p:=⟨B,9,none⟩) hn _
set_option maxRecDepth 100000 in
theorem catch_panic (U E:Nat) (n x:Int) (u:UrlL) (w:World) (hU:UrlAt U u w) (hE:ErrAt E x w) (hne:U≠E):
 CallsD Tryz.prog 61 #[.pointer (some ⟨U,0,none⟩), .pointer (some ⟨E,0,none⟩)] (.panicking [{v:= .iface 32 (.int .i64 n),recovered:=false}]) w fun e u' w'=>
  e= .returned (.tuple #[])∧u'= .panicking [{v:= .iface 32 (.int .i64 n),recovered:=true}]∧UrlAt U zeroU w'∧ErrAt E n w'∧Below (min U E) w w':=by
 have ht:∀w:World,(Instr.typeAssert (.iface 32 (.int .i64 n)) 20 32 true).run Tryz.prog w= .ok (.tuple #[.int .i64 n, .bool true]) w:=fun w=>by kernel_rfl
 have c0:w.cell? ⟨U,0,none⟩=some _:=hU.cell 0
 have f0:w.frozen? ⟨U,0,none⟩=false:=hU.free 0
 have c1:w.cell? ⟨U,1,none⟩=some _:=hU.cell 1
 have f1:w.frozen? ⟨U,1,none⟩=false:=hU.free 1
 have c2:w.cell? ⟨U,2,none⟩=some _:=hU.cell 2
 have f2:w.frozen? ⟨U,2,none⟩=false:=hU.free 2
 have c3:w.cell? ⟨U,3,none⟩=some _:=hU.cell 3
 have f3:w.frozen? ⟨U,3,none⟩=false:=hU.free 3
 have c4:w.cell? ⟨U,4,none⟩=some _:=hU.cell 4
 have f4:w.frozen? ⟨U,4,none⟩=false:=hU.free 4
 have c5:w.cell? ⟨U,5,none⟩=some _:=hU.cell 5
 have f5:w.frozen? ⟨U,5,none⟩=false:=hU.free 5
 have c6:w.cell? ⟨U,6,none⟩=some _:=hU.cell 6
 have f6:w.frozen? ⟨U,6,none⟩=false:=hU.free 6
 have c7:w.cell? ⟨U,7,none⟩=some _:=hU.cell 7
 have f7:w.frozen? ⟨U,7,none⟩=false:=hU.free 7
 have c8:w.cell? ⟨U,8,none⟩=some _:=hU.cell 8
 have f8:w.frozen? ⟨U,8,none⟩=false:=hU.free 8
 have c9:w.cell? ⟨U,9,none⟩=some _:=hU.cell 9
 have f9:w.frozen? ⟨U,9,none⟩=false:=hU.free 9
 have hne2:E≠U:=Ne.symm hne
 have cE:=hE.cell
 have fE:=hE.free
 refine callsD_of_wpS Tryz.func61 rfl fun c₀ cs hu=> ?_
 apply wpS_seq
 apply wpS_region
 simp[wpOpsS,go_sem,recoverD,hu,Tryz.ntmps61,Exit.thenS,ht]
 apply wpS_seq
 apply wpS_region
 simp[wpOpsS,go_sem,Exit.thenS]
 refine wpS_cond (t:=true) (by simp[Act.eval,Array.replicate]) ?_
 simp only[if_true]
 apply wpS_region
 simp[wpOpsS,go_sem,bodyPostS,results,Tryz.results61,hne,hne2,cE,fE,c0,f0,c1,f1,c2,f2,c3,f3,c4,f4,c5,f5,c6,f6,c7,f7,c8,f8,c9,f9]
 have hp:=hU.put zeroU
 have hpb:Below (min U E) w (putU w U zeroU):=putU_below (Below.refl _ _) (Nat.min_le_left _ _) _
 have hEp:ErrAt E x (putU w U zeroU):=(putU_other w U zeroU hne2).trans hE
 show UrlAt U zeroU ((putU w U zeroU).setCell ⟨E,0,none⟩ (.int .i64 n))∧ErrAt E n ((putU w U zeroU).setCell ⟨E,0,none⟩ (.int .i64 n))∧Below (min U E) w ((putU w U zeroU).setCell ⟨E,0,none⟩ (.int .i64 n))
 exact⟨(Below.heap_setCell _ _ _ _ hne).trans hp,by unfold ErrAt at hEp⊢;rw[heap_setCell_in hEp];rfl,hpb.setCell (p:=⟨E,0,none⟩) (Nat.min_le_right _ _) _⟩
open Go.RowKit
set_option maxRecDepth 100000 in
theorem read_long (s:List UInt8) (base:UrlL) (has:Bool) (w:World) (hs:4096<s.length) (hz:s.length≤140737488351232):
 Calls Tryz.prog 44 #[.string ⟨s.toArray⟩,urlV base, .bool has] w fun e w'=>e= .returned (pairU (.error 3))∧Below w.heap.size w w':=by
 have hi:(4096:Int)<(s.length:Int):=by omega
 unfold urlV
 go_enter_defers Tryz.func44,Tryz.ntmps44
 go_wp2_with fail
 simp[bodyPostD,Leaves,results,Tryz.results44,go_sem]
 exact⟨rfl,(((Below.refl w.heap.size w).alloc (Nat.le_refl _) _).alloc (by rw[World.size_alloc];omega) _).alloc (by rw[World.size_alloc,World.size_alloc];omega) _⟩
theorem wp_calm {P:Program} {c:Code} {K:Act→World→Prop} {Q:Exit→Act→World→Prop} {a:Act} {w:World} (h:c.wp P (Exit.then K fun _ _ _=>False) a w):c.wp P (Exit.then K Q) a w:=
 Go.wp_mono h fun e a w hq=>by cases e<;>first|exact hq|exact hq.elim
theorem has_pre2 (r:List UInt8):Lib.hasPrefix r [47,47]=(r.take 2==[47,47]):=by
 match r with
 |[]=>rfl
 |[a]=>simp[Lib.hasPrefix,List.isPrefixOf]
 |a::b::r=>simp[Lib.hasPrefix,List.isPrefixOf,Bool.beq_comm]
structure ReadW (n:Nat) (w0:World) (u base:UrlL) (t:List UInt8) (w:World):Prop where
 bs:UrlAt n base w
 res:UrlAt (n+1) zeroU w
 err:ErrAt (n+1+1) 0 w
 rd:RdAt (n+1+1+1) u base t w
 below:Below n w0 w
theorem alloc_new4 (w:World) (c1 c2 c3 c4:Array Value) (t1 t2 t3 t4:TypeId):
 ((((w.alloc (.cells c1 t1)).alloc (.cells c2 t2)).alloc (.cells c3 t3)).alloc (.cells c4 t4)).heap[w.heap.size]?=some (.cells c1 t1 (0,0))∧
 ((((w.alloc (.cells c1 t1)).alloc (.cells c2 t2)).alloc (.cells c3 t3)).alloc (.cells c4 t4)).heap[w.heap.size+1]?=some (.cells c2 t2 (0,0))∧
 ((((w.alloc (.cells c1 t1)).alloc (.cells c2 t2)).alloc (.cells c3 t3)).alloc (.cells c4 t4)).heap[w.heap.size+1+1]?=some (.cells c3 t3 (0,0))∧
 ((((w.alloc (.cells c1 t1)).alloc (.cells c2 t2)).alloc (.cells c3 t3)).alloc (.cells c4 t4)).heap[w.heap.size+1+1+1]?=some (.cells c4 t4 (0,0))∧
 Below w.heap.size w ((((w.alloc (.cells c1 t1)).alloc (.cells c2 t2)).alloc (.cells c3 t3)).alloc (.cells c4 t4)):=by
 generalize h1:w.alloc (.cells c1 t1)=w1
 generalize h2:w1.alloc (.cells c2 t2)=w2
 generalize h3:w2.alloc (.cells c3 t3)=w3
 generalize h4:w3.alloc (.cells c4 t4)=w4
 have s1:w1.heap.size=w.heap.size+1:=by rw[←h1,World.size_alloc]
 have s2:w2.heap.size=w.heap.size+1+1:=by rw[←h2,World.size_alloc,s1]
 have s3:w3.heap.size=w.heap.size+1+1+1:=by rw[←h3,World.size_alloc,s2]
 have b1:Below w.heap.size w w1:=by rw[←h1];exact below_alloc w _
 have b2:Below w1.heap.size w1 w2:=by rw[←h2];exact below_alloc w1 _
 have b3:Below w2.heap.size w2 w3:=by rw[←h3];exact below_alloc w2 _
 have b4:Below w3.heap.size w3 w4:=by rw[←h4];exact below_alloc w3 _
 have n1:w1.heap[w.heap.size]?=some (.cells c1 t1 (0,0)):=by rw[←h1];exact heap_alloc_new w _
 have n2:w2.heap[w1.heap.size]?=some (.cells c2 t2 (0,0)):=by rw[←h2];exact heap_alloc_new w1 _
 have n3:w3.heap[w2.heap.size]?=some (.cells c3 t3 (0,0)):=by rw[←h3];exact heap_alloc_new w2 _
 have n4:w4.heap[w3.heap.size]?=some (.cells c4 t4 (0,0)):=by rw[←h4];exact heap_alloc_new w3 _
 rw[s1]at n2;rw[s2]at n3;rw[s3]at n4
 refine⟨?_, ?_, ?_,n4,b1.trans ((b2.mono (by omega)).trans ((b3.mono (by omega)).trans (b4.mono (by omega))))⟩
 ·rw[b4.block _ (by omega),b3.block _ (by omega),b2.block _ (by omega)];exact n1
 ·rw[b4.block _ (by omega),b3.block _ (by omega)];exact n2
 ·rw[b4.block _ (by omega)];exact n3
theorem ReadW.go {n:Nat} {w0 w w':World} {u u' base:UrlL} {t t':List UInt8} (h:ReadW n w0 u base t w) (hk:KeptX w.heap.size (n+1+1+1) w w') (hr:RdAt (n+1+1+1) u' base t' w'):ReadW n w0 u' base t' w':=
 ⟨(hk.2 _ h.bs.lt (by omega)).trans h.bs,(hk.2 _ h.res.lt (by omega)).trans h.res,(hk.2 _ h.err.lt (by omega)).trans h.err,hr,h.below.trans (hk.1.mono (by omega))⟩
theorem ReadW.drewN {n:Nat} {w0 w:World} {u base:UrlL} {t:List UInt8} (h:ReadW n w0 u base t w) (k:Nat):ReadW n w0 u base t (w.drewN k):=⟨h.bs,h.res,h.err,h.rd,h.below.os,h.below.tape,h.below.output,h.below.size,h.below.block⟩
theorem ReadW.env {n:Nat} {w0 w:World} {u base:UrlL} {t:List UInt8} (h:ReadW n w0 u base t w) (hE:EnvH w0) (hn:w0.heap.size=n):EnvR (n+1+1+1) w:=⟨w0,hE,by rw[hn];exact h.below,by omega⟩
theorem ReadW.calm {n:Nat} {w0 w w':World} {u base:UrlL} {t:List UInt8} (h:ReadW n w0 u base t w) (hb:Below w.heap.size w w'):ReadW n w0 u base t w':=
 h.go (KeptX.of_below hb (Nat.le_of_lt h.rd.lt)) (h.rd.below hb)
structure ReadP (n:Nat) (w0 w:World):Prop where
 res:UrlAt (n+1) zeroU w
 err:ErrAt (n+1+1) 0 w
 below:Below n w0 w
theorem ReadW.pan {n:Nat} {w0 w w':World} {u base:UrlL} {t:List UInt8} (h:ReadW n w0 u base t w) (hk:KeptX w.heap.size (n+1+1+1) w w'):ReadP n w0 w':=
 ⟨(hk.2 _ h.res.lt (by omega)).trans h.res,(hk.2 _ h.err.lt (by omega)).trans h.err,h.below.trans (hk.1.mono (by omega))⟩
abbrev readDs (n:Nat):List Deferred:=[{target:= .fn (.func 61) #[.pointer (some ⟨n+1,0,none⟩), .pointer (some ⟨n+1+1,0,none⟩)],args:= #[]}]
set_option maxRecDepth 100000 in
theorem read_results {n:Nat} {W:World} {v:UrlL} {k:Int} {tmps:Array Value} (h6:tmps[6]?.getD undef= .pointer (some ⟨n+1,0,none⟩)) (h7:tmps[7]?.getD undef= .pointer (some ⟨n+1+1,0,none⟩)) (hU:UrlAt (n+1) v W) (hE:ErrAt (n+1+1) k W):
 (results Tryz.f44 tmps).run Tryz.prog W= .ok (.tuple #[urlV v, .int .i64 k]) W:=by
 obtain⟨c0,c1,c2,c3,c4,c5,c6,c7,c8,c9⟩:=UrlAt.cells hU
 have cE:=hE.cell
 simp[results,Tryz.results44,go_sem,h6,h7,cE,c0,c1,c2,c3,c4,c5,c6,c7,c8,c9]
 rfl
theorem read_out_panic {n k:Nat} {w0 W:World} {tmps:Array Value} {R:Ending→World→Prop} (h:ReadP n w0 W) (h6:tmps[6]?.getD undef= .pointer (some ⟨n+1,0,none⟩)) (h7:tmps[7]?.getD undef= .pointer (some ⟨n+1+1,0,none⟩))
 (hR:∀W',Below n w0 W'→R (.returned (pairU (.error k))) W'):
 Leaves Tryz.prog Tryz.f44 tmps R (readDs n) (.panicking [{v:= .iface 32 (.int .i64 (k:Int)),recovered:=false}]) W:=by
 refine leaves_cons (f:=61) (args:= #[.pointer (some ⟨n+1,0,none⟩), .pointer (some ⟨n+1+1,0,none⟩)]) (by simp) (by simp[go_sem]) ?_
 refine(catch_panic (n+1) (n+1+1) k 0 zeroU W h.res h.err (by omega)).mono ?_
 rintro e u' w' ⟨rfl,rfl,hU,hE,hb⟩
 exact⟨_,read_results h6 h7 hU hE,hR _ (h.below.trans (hb.mono (by omega)))⟩
theorem read_out_ret {n:Nat} {W:World} {v:UrlL} {tmps:Array Value} {R:Ending→World→Prop} (hU:UrlAt (n+1) v W) (hE:ErrAt (n+1+1) 0 W) (h6:tmps[6]?.getD undef= .pointer (some ⟨n+1,0,none⟩)) (h7:tmps[7]?.getD undef= .pointer (some ⟨n+1+1,0,none⟩))
 (hR:R (.returned (pairU (.ok v))) W):
 Leaves Tryz.prog Tryz.f44 tmps R (readDs n) .returning W:=by
 refine leaves_cons (f:=61) (args:= #[.pointer (some ⟨n+1,0,none⟩), .pointer (some ⟨n+1+1,0,none⟩)]) (by simp) (by simp[go_sem]) ?_
 refine(catch_idle (n+1) (n+1+1) W).mono ?_
 rintro e u' w' ⟨rfl,rfl,rfl⟩
 exact⟨_,read_results h6 h7 hU hE,hR⟩
def SchCut (n:Nat) (w0:World) (base:UrlL) (s:List UInt8) (a:Value) (w:World):Prop:=
 (schemeU s=none∧a= .bool false∧ReadW n w0 {zeroU with scheme:=base.scheme} base s w)∨∃c r,schemeU s=some (c,r)∧ownP c≠0∧a= .bool true∧ReadW n w0 {zeroU with scheme:=c} base r w
def NextCut (n:Nat) (w0:World) (base:UrlL) (has:Bool) (s:List UInt8) (a:Value) (w:World):Prop:=
 ∃u0 pl r,schU base has s= .ok (u0,pl,r)∧a= .func (.func (if pl=true then 68 else 65)) #[.pointer (some ⟨n+1+1+1,0,none⟩)] #[]∧ReadW n w0 u0 base r w
set_option maxRecDepth 100000 in
theorem read_u (s:List UInt8) (base:UrlL) (has:Bool) (w:World) (hE:EnvH w) (hs:s.length≤4096) (hb:has=true→GoodU base):
 Calls Tryz.prog 44 #[.string ⟨s.toArray⟩,urlV base, .bool has] w fun e w'=>e= .returned (pairU (readU s base has))∧Below w.heap.size w w':=by
 have hmf:∀(fn:Fn) (first cap:Array Value) (w:World),(Instr.makeFunc fn first cap).run Tryz.prog w= .ok (.func fn first cap) w:=fun _ _ _ _=>rfl
 have hi:¬(4096:Int)<(s.length:Int):=by omega
 have HE:=Lib.hid hE
 have HB:=Lib.hid hb
 clear hE hb
 unfold urlV
 go_enter_defers Tryz.func44,Tryz.ntmps44
 have hwr:∀c:UInt8,wrap32 (c.toNat:Int)=(c.toNat:Int):=fun c=>by have:=c.toNat_lt;unfold wrap32;omega
 obtain⟨n,hn⟩:∃n,w.heap.size=n:=⟨_,rfl⟩
 go_upto_block 0 with fail
 go_cut [9]from 24 to 35 (fun a9 wx=>∃k:Nat,a9= .int .i64 k∧k≤s.length∧Hid (s.dropWhile idleB=s.drop k)∧ReadW w.heap.size w zeroU base [] wx)
 case first=>
  have hal:ReadW w.heap.size w zeroU base [] ((((w.alloc (.cells (cellsU base).toArray 23)).alloc (.cells (cellsU zeroU).toArray 23)).alloc (.cells #[.int .i64 0] 32)).alloc (.cells (cellsR zeroU base []).toArray 79)):=by
   obtain⟨a1,a2,a3,a4,a5⟩:=alloc_new4 w (cellsU base).toArray (cellsU zeroU).toArray #[.int .i64 0] (cellsR zeroU base []).toArray 23 23 32 79;exact⟨a1,a2,a3,a4,a5⟩
  have HA:=Lib.hid hal;clear hal;go_wp2_with fail;go_loop [9] (fun a9=>∃k:Nat,k≤s.length∧a9= .int .i64 k∧Hid (s.dropWhile idleB=(s.drop k).dropWhile idleB)) (fun a9=>s.length-(intOf a9).toNat)
  case atStart=>exact⟨0,Nat.zero_le _,rfl,rfl⟩
  case round=>
   obtain⟨k,hk,rfl,HQ⟩:=hrel;by_cases hlt:k<s.length
   ·have hki:(k:Int)<(s.length:Int):=by omega
    have ci:=fun W=>idle_u (s[k]) W
    have hp:=fun h=>idle_pass hlt h HQ.out
    have hst:=fun h=>idle_stop hlt h HQ.out
    generalize hx:s[k]=c at*;clear HQ
    cases hc:idleB c with
    |true=>
     have HP:=Lib.hid (hp hc);rw[hc]at ci;clear hp hst hc;have hw:=hwr c;clear hwr;go_wp2_with(go_at_call 62;refine(ci _).mono ?_;rintro e w2 ⟨rfl,rfl⟩);go_round
     case rel=>exact⟨k+1,by omega,by go_num,HP⟩
     case measure=>simp[intOf];omega
    |false=>
     have HP:=Lib.hid (hst hc);rw[hc]at ci;have hw:=hwr c;clear hp hst hc hwr;go_wp2_with(go_at_call 62;refine(ci _).mono ?_;rintro e w2 ⟨rfl,rfl⟩);go_meet
     case rel=>exact⟨k,rfl,hk,HP,HA.out⟩
   ·have hki:¬(k:Int)<(s.length:Int):=by omega
    have HP:=Lib.hid (idle_over (by omega) HQ.out);clear HQ;go_wp2_with fail;go_meet
    case rel=>exact⟨k,rfl,hk,HP,HA.out⟩
 case rest=>
  obtain⟨k,rfl,hk,HD,HW⟩:=hcut;rw[hn]at HW;have hkS:((s.drop k).length)=s.length-k:=List.length_drop ..;go_upto_block 2 with fail;go_cut [10]from 36 to 48 (fun a10 wx=>∃j:Nat,a10= .int .i64 j∧k≤j∧j≤s.length∧Hid (trimR (s.drop k)=(s.drop k).take (j-k))∧wc=wx)
  case first=>
   clear HD HW;go_wp2_with fail;go_loop [10] (fun a10=>∃j:Nat,k≤j∧j≤s.length∧a10= .int .i64 j∧Hid (trimR (s.drop k)=trimR ((s.drop k).take (j-k)))) (fun a10=>(intOf a10).toNat-k)
   case atStart=>exact⟨s.length,hk,Nat.le_refl _,rfl,by show _=_;rw[List.take_of_length_le (by omega)]⟩
   case round=>
    obtain⟨j,hkj,hj,rfl,HQ⟩:=hrel;by_cases hlt:k<j
    ·obtain⟨i,rfl⟩:∃i,j=i+1:=⟨j-1,by omega⟩
     have hki:(k:Int)<(i:Int)+1:=by omega
     have hi1:(i:Int)<(s.length:Int):=by omega
     have hil:i<s.length:=by omega
     have him:i-k<(s.drop k).length:=by omega
     have hmx:(s.drop k)[i-k]=s[i]:=by rw[List.getElem_drop];congr 1;omega
     have e1:i+1-k=(i-k)+1:=by omega
     have ci:=fun W=>idle_u (s[i]) W
     have hq:=HQ.out;rw[e1]at hq;have hp:=fun h=>trim_pass him (by rw[hmx];exact h) hq
     have hst:=fun h=>trim_stop him (by rw[hmx];exact h) hq
     have hw:=hwr (s[i]);generalize hx:s[i]=c at*;clear HQ hq
     cases hc:idleB c with
     |true=>
      have HP:=Lib.hid (hp hc);rw[hc]at ci;clear hp hst hc hwr;go_wp2_with(go_at_call 62;refine(ci _).mono ?_;rintro e w2 ⟨rfl,rfl⟩);go_round
      case rel=>exact⟨i,by omega,by omega,by go_num,HP⟩
      case measure=>simp[intOf];omega
     |false=>
      have HP:=Lib.hid (hst hc);rw[←e1]at HP;rw[hc]at ci;clear hp hst hc hwr;go_wp2_with(go_at_call 62;refine(ci _).mono ?_;rintro e w2 ⟨rfl,rfl⟩);go_meet
      case rel=>exact⟨i+1,by go_num,by omega,hj,HP,rfl⟩
    ·obtain rfl:k=j:=by omega
     have HP:Hid (trimR (s.drop k)=(s.drop k).take (k-k)):=by
      have:=HQ.out;rw[Nat.sub_self,List.take_zero]at this⊢;exact this
     clear HQ;go_wp2_with fail;go_meet
     case rel=>exact⟨k,rfl,Nat.le_refl _,hj,HP,rfl⟩
  case rest=>
   obtain⟨j,rfl,hkj,hj,HT,rfl⟩:=hcut;have hnt:noTab ((s.drop k).take (j-k))=dropL s:=by
    rw[dropL_trim,HD.out,HT.out];rfl
   have htl:((s.drop k).take (j-k)).length≤s.length:=by rw[List.length_take,hkS];omega
   have hki:(k:Int)≤(j:Int):=by omega
   have hji:(j:Int)≤(s.length:Int):=by omega
   have c10:wc.cell? ⟨n+1+1+1,10,none⟩=some (.string ⟨#[]⟩):=HW.rd.cell 10;have f10:=HW.rd.free 10;clear HD HT hwr hi;generalize hm:(s.drop k).take (j-k)=m at*;go_upto_region 10 with fail;go_cut [9]from 49 to 58 (fun a9 wx=>ReadW n w zeroU base (dropL s) wx)
   case first=>
    clear hmf hn hkS hk hj;have hR:=HW.rd;refine wp_calm ?_;go_region_with(first|(go_at_call 63;refine(new_rep tabsL 6 (.inr rfl) rfl ⟨wc.heap.size,0,none⟩ _ (fun j u' hj=>by rw[Addr.add_lit,Nat.zero_add];show World.cell? (World.alloc wc _) _=_;rw[World.cell?_alloc_at _ _ _ j rfl,List.getElem?_toArray];exact hj)).mono ?_;intro e w4 hnp;obtain⟨Pn,rfl,hb4,cu⟩:=tabs_use hnp m (by omega))|(go_at_call 64;refine cu.mono ?_;rintro e w5 ⟨rfl,hb5⟩;have hbb:Below wc.heap.size wc w5:=(below_alloc wc (.cells (strV tabsL).toArray 9)).drew.trans (hb5.mono (by show wc.heap.size≤(World.alloc wc _).heap.size;rw[World.size_alloc];omega));have hR5:=hR.below hbb;have k10:w5.cell? ⟨n+1+1+1,10,none⟩=some (.string ⟨[].toArray⟩):=hR5.cell 10;have fk10:=hR5.free 10;have hR6:=hR5.set (s':=noTab m) (u':=zeroU) 10 (.string ⟨(noTab m).toArray⟩) rfl));simp only[Exit.then];rw[hnt]at hR6;have hK6:=(KeptX.of_below hbb (Nat.le_of_lt hR.lt)).next (hR5.kept 10 (.string ⟨(noTab m).toArray⟩));rw[hnt]at hK6;go_wp2_with fail;go_meet
    case rel=>exact HW.go hK6 hR6
   case rest=>
    clear HW c10 f10 hm hnt htl hkS hkj hj hki hji;have HW:=hcut;have hR:=HW.rd;have hlen:(dropL s).length≤s.length:=dropL_len s;have b0:wc.cell? ⟨n,0,none⟩=some (.string ⟨base.scheme.toArray⟩):=by rw[HW.bs.cell];rfl
    have c0:wc.cell? ⟨n+1+1+1,0,none⟩=some (.string ⟨[].toArray⟩):=hR.cell 0;have f0:=hR.free 0;have hR2:=hR.set (s':=dropL s) (u':= {zeroU with scheme:=base.scheme}) 0 (.string ⟨base.scheme.toArray⟩) rfl;have HW2:=HW.go (hR.kept 0 _) hR2;have cs:=scheme_r (n+1+1+1) {zeroU with scheme:=base.scheme} base (dropL s) _ hR2 (by omega);clear hcut hR HW hR2;go_upto_region 13 with fail;generalize wc.setCell ⟨n+1+1+1,0,none⟩ (.string ⟨base.scheme.toArray⟩)=w2 at*;clear b0 c0 f0;go_cut [68]from 67 to 68 (fun a68 wx=>SchCut n w base (dropL s) a68 wx)
    case first=>
     cases hsc:schemeU (dropL s)with
     |none=>
      unfold SchPost at cs;rw[hsc]at cs;have HSC:=Lib.hid hsc;clear hsc;go_wp2_with fail;go_at_call 66;refine cs.mono ?_;rintro e w3 ⟨hK3,rfl,hR3⟩;have HW3:=HW2.go hK3 hR3;clear cs hK3 hR3 HW2;go_wp2_with fail;go_meet
      case rel=>exact .inl ⟨HSC.out,rfl,HW3⟩
     |some x=>
      obtain⟨c,r⟩:=x;unfold SchPost at cs;rw[hsc]at cs;have HSC:=Lib.hid hsc;by_cases ho:ownP c=0
      ·have herr:readU s base has= .error 6:=readU_sch hs (by unfold schU;rw[hsc];simp only;rw[if_pos ho])
       simp only[if_pos ho]at cs;have HR:=Lib.hid herr;clear hsc herr;go_wp2_with fail;go_at_call 66;refine cs.mono ?_;rintro e w3 ⟨hK3,rfl⟩;exact read_out_panic (k:=6) (HW2.pan hK3) rfl rfl fun W' hb=>⟨by rw[HR.out],by rw[hn];exact hb⟩
      ·simp only[if_neg ho]at cs
       have HO:=Lib.hid ho;clear hsc ho;go_wp2_with fail;go_at_call 66;refine cs.mono ?_;rintro e w3 ⟨hK3,rfl,hR3⟩;have HW3:=HW2.go hK3 hR3;clear cs hK3 hR3 HW2;go_wp2_with fail;go_meet
       case rel=>exact .inr ⟨c,r,HSC.out,HO.out,rfl,HW3⟩
    case rest=>
     have HS:=hcut;clear hcut HW2 cs;go_upto_if 68 with fail;go_cut [11]from 69 to 92 (fun a11 wx=>NextCut n w base has (dropL s) a11 wx)
     case first=>
      obtain⟨h1,rfl,HW3⟩|⟨c,r,h1,h2,rfl,HW3⟩:=HS
      ·cases has with
       |false=>
        have herr:readU s base false= .error 4:=readU_sch hs (by unfold schU;rw[h1];rfl);have HR:=Lib.hid herr;clear herr h1;go_wp2_with fail;go_at_call 69;refine(wrong_yes 4 _).mono ?_;rintro e w4 ⟨rfl,rfl⟩;exact read_out_panic (k:=4) (HW3.pan (KeptX.refl _ _ _)) rfl rfl fun W' hb=>⟨by rw[HR.out],by rw[hn];exact hb⟩
       |true=>
        have hsu:schU base true (dropL s)= .ok ({zeroU with scheme:=base.scheme},false,dropL s):=by unfold schU;rw[h1];rfl
        have HR:=Lib.hid hsu;clear hsu h1;go_wp2_with fail;go_at_call 69;refine(wrong_no 4 _).mono ?_;rintro e w4 ⟨rfl,rfl⟩;go_wp2_with fail;go_meet
        case rel=>exact⟨_,_,_,HR.out,rfl,HW3⟩
      ·have k0:wc.cell? ⟨n+1+1+1,0,none⟩=some (.string ⟨c.toArray⟩):=HW3.rd.cell 0
       have k10:wc.cell? ⟨n+1+1+1,10,none⟩=some (.string ⟨r.toArray⟩):=HW3.rd.cell 10;have b0:wc.cell? ⟨n,0,none⟩=some (.string ⟨base.scheme.toArray⟩):=by rw[HW3.bs.cell];rfl
       have hsu:schU base has (dropL s)= .ok ({zeroU with scheme:=c}, !has||(decide (c≠base.scheme)||(r.take 2==[47,47])),r):=by unfold schU;rw[h1];simp only;rw[if_neg h2]
       have HW4:=HW3.drewN;have cp:=fun W=>(Tryz.strings_HasPrefix ⟨r.toArray⟩ ⟨#[47,47]⟩ W).mono (R':=fun e w'=>e= .returned (.bool (r.take 2==[47,47]))∧w'=W) fun e w' ⟨he,hw⟩=>⟨by rw[he,has_pre2],hw⟩
       clear h1 h2 HW3
       cases has with
       |false=>
        have HR:=Lib.hid hsu;clear hsu cp;go_wp2_with fail;refine wp_calm ?_;go_quiet (fail);simp only[Exit.then];go_wp2_with fail;go_meet
        case rel=>exact⟨_,_,_,HR.out,rfl,HW4 _⟩
       |true=>
        by_cases hc:c=base.scheme
        ·have hcb:(c==base.scheme)=true:=beq_iff_eq.2 hc
         have hd:decide (c≠base.scheme)=false:=by rw[hc];simp
         rw[hd]at hsu;generalize hq:(r.take 2==[47,47])=q at*;have HR:=Lib.hid hsu;clear hsu hc hd hq;go_wp2_with fail;refine wp_calm ?_;go_quiet (first|(go_at_call 67;refine Calls.quiet_of_same (cp _)));simp only[Exit.then]
         cases q
         all_goals
          go_wp2_with fail;go_meet
          case rel=>exact⟨_,_,_,HR.out,rfl,HW4 _⟩
        ·have hcb:(c==base.scheme)=false:=beq_eq_false_iff_ne.2 hc
         have hd:decide (c≠base.scheme)=true:=decide_eq_true hc;rw[hd]at hsu;have HR:=Lib.hid hsu;clear hsu hc hd cp;go_wp2_with fail;refine wp_calm ?_;go_quiet (fail);simp only[Exit.then];go_wp2_with fail;go_meet
         case rel=>exact⟨_,_,_,HR.out,rfl,HW4 _⟩
     case rest=>
      obtain⟨u0,pl,r,hsu,rfl,HW⟩:=hcut;clear HS;obtain⟨x1,x2,x3,x4,x5,x6,x7,x8⟩:=schU_start hsu;have HSU:=Lib.hid hsu;have X8:=Lib.hid x8;clear hsu x8;have hsf:=fun (a:Addr) (c:Array Value) (f:Fn) (w:World)=>run_store Tryz.prog w a (.func f c #[]) .plain rfl
      go_upto_block 4 with fail;go_cut [11,13]from 93 to 104 (fun a11 a13 wx=>∃v,(if pl=true then placeU (endU u0 r).1 ((endU u0 r).2.dropWhile slashB)else seenU (endU u0 r).1 base (endU u0 r).2)= .ok v∧∃t,ReadW n w v base t wx)
      case first=>
       have ce:=end_r (n+1+1+1) u0 base r;have hql:(endU u0 r).2.length≤r.length:=(endU_good u0 r).2.2.2
       cases pl with
       |true=>
        have hmid:=readU_mid hs HSU.out;have hif:(if true=true then placeU (endU u0 r).1 ((endU u0 r).2.dropWhile slashB)else seenU (endU u0 r).1 base (endU u0 r).2)=placeU (endU u0 r).1 ((endU u0 r).2.dropWhile slashB):=by first|exact if_pos rfl|exact if_neg (by simp)
        rw[hif]at hmid;have HM:=Lib.hid hmid;clear hmid hif;go_wp2_with fail;refine wp_loop_rounds 3 ?_;rw[rounds_succ];go_wp2_with fail;obtain⟨wa,hwa⟩:∃W,wc.alloc (.cells #[.func (.func 70) #[.pointer (some ⟨n+1+1+1,0,none⟩)] #[], .func (.func 68) #[.pointer (some ⟨n+1+1+1,0,none⟩)] #[]] 1)=W:=⟨_,rfl⟩;rw[hwa];have hba:Below wc.heap.size wc wa:=by rw[←hwa];exact below_alloc wc _
        have hcell:wa.heap[wc.heap.size]?=some (.cells #[.func (.func 70) #[.pointer (some ⟨n+1+1+1,0,none⟩)] #[], .func (.func 68) #[.pointer (some ⟨n+1+1+1,0,none⟩)] #[]] 1 (0,0)):=by rw[←hwa];exact heap_alloc_new wc _
        have HWa:=HW.calm hba;have hlt:=HW.rd.lt;clear hwa hba;go_at_call 70;refine(ce wa HWa.rd (HWa.env HE.out hn) (by omega) x3 x4 x5 x6).mono ?_;rintro e w4 ⟨rfl,hK4,hR4⟩;have HW4:=HWa.go hK4 hR4;have hc4:w4.cell? ⟨wc.heap.size,1,none⟩=some (.func (.func 68) #[.pointer (some ⟨n+1+1+1,0,none⟩)] #[]):=by
         rw[Lib.cell_of_heap ((hK4.2 wc.heap.size (Array.getElem?_eq_some_iff.1 hcell).1 (by omega)).trans hcell)];rfl
        have hc40:w4.cell? ⟨wc.heap.size,0,none⟩=some (.func (.func 70) #[.pointer (some ⟨n+1+1+1,0,none⟩)] #[]):=by
         rw[Lib.cell_of_heap ((hK4.2 wc.heap.size (Array.getElem?_eq_some_iff.1 hcell).1 (by omega)).trans hcell)];rfl
        have cp:=place_r idx_sl (n+1+1+1) (endU u0 r).1 base (endU u0 r).2 w4 HW4.rd (HW4.env HE.out hn) (by omega) x1 x2;clear ce hK4 hR4 hcell HWa;unfold PlacePost at cp
        cases hpu:placeU (endU u0 r).1 ((endU u0 r).2.dropWhile slashB)with
        |error q=>
         rw[hpu]at cp;simp only at cp;have herr:readU s base has= .error q:=by rw[HM.out,hpu]
         have HR:=Lib.hid herr;clear herr hpu;go_wp2_with fail;rw[rounds_succ];go_wp2_with fail;go_at_call 68;refine cp.mono ?_;rintro e w5 ⟨hK5,rfl⟩;exact read_out_panic (k:=q) (HW4.pan hK5) rfl rfl fun W' hb=>⟨by rw[HR.out],by rw[hn];exact hb⟩
        |ok v=>
         rw[hpu]at cp;simp only at cp;have HR:Hid ((if true=true then placeU (endU u0 r).1 ((endU u0 r).2.dropWhile slashB)else seenU (endU u0 r).1 base (endU u0 r).2)= .ok v):=by
          first|exact(if_pos rfl).trans hpu|exact(if_neg (by simp)).trans hpu
         clear hpu;go_wp2_with fail;rw[rounds_succ];go_wp2_with fail;go_at_call 68;refine cp.mono ?_;rintro e w5 ⟨hK5,rfl,t,hR5⟩;have HW5:=HW4.go hK5 hR5;clear cp hK5 hR5 hc4;go_wp2_with fail;rw[rounds_succ];go_wp2_with fail;go_meet
         case rel=>exact⟨v,HR.out,t,HW5⟩
       |false=>
        have hmid:=readU_mid hs HSU.out;have HG:=Lib.hid (HB.out (X8.out rfl));have hif:(if false=true then placeU (endU u0 r).1 ((endU u0 r).2.dropWhile slashB)else seenU (endU u0 r).1 base (endU u0 r).2)=seenU (endU u0 r).1 base (endU u0 r).2:=by first|exact if_pos rfl|exact if_neg (by simp)
        rw[hif]at hmid;have HM:=Lib.hid hmid;clear hmid hif;go_wp2_with fail;refine wp_loop_rounds 3 ?_;rw[rounds_succ];go_wp2_with fail;obtain⟨wa,hwa⟩:∃W,wc.alloc (.cells #[.func (.func 70) #[.pointer (some ⟨n+1+1+1,0,none⟩)] #[], .func (.func 65) #[.pointer (some ⟨n+1+1+1,0,none⟩)] #[]] 1)=W:=⟨_,rfl⟩;rw[hwa];have hba:Below wc.heap.size wc wa:=by rw[←hwa];exact below_alloc wc _
        have hcell:wa.heap[wc.heap.size]?=some (.cells #[.func (.func 70) #[.pointer (some ⟨n+1+1+1,0,none⟩)] #[], .func (.func 65) #[.pointer (some ⟨n+1+1+1,0,none⟩)] #[]] 1 (0,0)):=by rw[←hwa];exact heap_alloc_new wc _
        have HWa:=HW.calm hba;have hlt:=HW.rd.lt;clear hwa hba;go_at_call 70;refine(ce wa HWa.rd (HWa.env HE.out hn) (by omega) x3 x4 x5 x6).mono ?_;rintro e w4 ⟨rfl,hK4,hR4⟩;have HW4:=HWa.go hK4 hR4;have hc4:w4.cell? ⟨wc.heap.size,1,none⟩=some (.func (.func 65) #[.pointer (some ⟨n+1+1+1,0,none⟩)] #[]):=by
         rw[Lib.cell_of_heap ((hK4.2 wc.heap.size (Array.getElem?_eq_some_iff.1 hcell).1 (by omega)).trans hcell)];rfl
        have hc40:w4.cell? ⟨wc.heap.size,0,none⟩=some (.func (.func 70) #[.pointer (some ⟨n+1+1+1,0,none⟩)] #[]):=by
         rw[Lib.cell_of_heap ((hK4.2 wc.heap.size (Array.getElem?_eq_some_iff.1 hcell).1 (by omega)).trans hcell)];rfl
        have cp:=seen_r (n+1+1+1) (endU u0 r).1 base (endU u0 r).2 w4 HW4.rd (HW4.env HE.out hn) (by omega) x1 x2 HG.out.slash (by have:=HG.out.sizes;omega);clear ce hK4 hR4 hcell HWa;unfold SeenPost at cp
        cases hpu:seenU (endU u0 r).1 base (endU u0 r).2 with
        |error q=>
         rw[hpu]at cp;simp only at cp;have herr:readU s base has= .error q:=by rw[HM.out,hpu]
         have HR:=Lib.hid herr;clear herr hpu;go_wp2_with fail;rw[rounds_succ];go_wp2_with fail;go_at_call 65;refine cp.mono ?_;rintro e w5 ⟨hK5,rfl⟩;exact read_out_panic (k:=q) (HW4.pan hK5) rfl rfl fun W' hb=>⟨by rw[HR.out],by rw[hn];exact hb⟩
        |ok v=>
         rw[hpu]at cp;simp only at cp;have HR:Hid ((if false=true then placeU (endU u0 r).1 ((endU u0 r).2.dropWhile slashB)else seenU (endU u0 r).1 base (endU u0 r).2)= .ok v):=by
          first|exact(if_pos rfl).trans hpu|exact(if_neg (by simp)).trans hpu
         clear hpu;go_wp2_with fail;rw[rounds_succ];go_wp2_with fail;go_at_call 65;refine cp.mono ?_;rintro e w5 ⟨hK5,rfl,t,hR5⟩;have HW5:=HW4.go hK5 hR5;clear cp hK5 hR5 hc4;go_wp2_with fail;rw[rounds_succ];go_wp2_with fail;go_meet
         case rel=>exact⟨v,HR.out,t,HW5⟩
      case rest=>
       obtain⟨v,hv,t,HW5⟩:=hcut;have hmid:=readU_mid hs HSU.out;rw[hv]at hmid;simp only at hmid;obtain⟨hz1,hz2⟩:=mid_size hs HB.out HSU.out hv;clear HSU HW hv x1 x2 x3 x4 x5 x6 x7 X8 hsf;have ct:=text_u v wc ((HW5.env HE.out hn).env) (by unfold sizeU;omega) (by omega);have hR:=HW5.rd;have r0:wc.cell? ⟨n+1+1+1,0,none⟩=some _:=hR.cell 0;have r1:wc.cell? ⟨n+1+1+1,1,none⟩=some _:=hR.cell 1;have r2:wc.cell? ⟨n+1+1+1,2,none⟩=some _:=hR.cell 2;have r3:wc.cell? ⟨n+1+1+1,3,none⟩=some _:=hR.cell 3;have r4:wc.cell? ⟨n+1+1+1,4,none⟩=some _:=hR.cell 4;have r5:wc.cell? ⟨n+1+1+1,5,none⟩=some _:=hR.cell 5;have r6:wc.cell? ⟨n+1+1+1,6,none⟩=some _:=hR.cell 6;have r7:wc.cell? ⟨n+1+1+1,7,none⟩=some _:=hR.cell 7;have r8:wc.cell? ⟨n+1+1+1,8,none⟩=some _:=hR.cell 8;have r9:wc.cell? ⟨n+1+1+1,9,none⟩=some _:=hR.cell 9;unfold urlV at ct;by_cases hl:4096<(textU v).length
       ·rw[if_pos hl]at hmid
        have hli:(4096:Int)<((textU v).length:Int):=by omega
        have HR:=Lib.hid hmid;clear hmid hl hz1 hz2 hmf hR;generalize textU v=T at*;go_wp2_with fail;go_at_call 14;refine ct.mono ?_;rintro e w6 ⟨rfl,hb6⟩;have HW6:=HW5.calm hb6;clear ct r0 r1 r2 r3 r4 r5 r6 r7 r8 r9;go_wp2_with fail;go_at_call 69
        try rw[show decide ((4096:Int)<(T.length:Int))=true from decide_eq_true (by omega)]
        refine(wrong_yes 3 _).mono ?_;rintro e w7 ⟨rfl,rfl⟩;exact read_out_panic (k:=3) (HW6.pan (KeptX.refl _ _ _)) rfl rfl fun W' hb=>⟨by rw[HR.out],by rw[hn];exact hb⟩
       ·rw[if_neg hl]at hmid
        have hli:¬(4096:Int)<((textU v).length:Int):=by omega
        have HR:=Lib.hid hmid;clear hmid hl hz1 hz2 hmf hR;generalize textU v=T at*;go_wp2_with fail;go_at_call 14;refine ct.mono ?_;rintro e w6 ⟨rfl,hb6⟩;have HW6:=HW5.calm hb6;clear ct r0 r1 r2 r3 r4 r5 r6 r7 r8 r9;have s0:w6.cell? ⟨n+1+1+1,0,none⟩=some _:=HW6.rd.cell 0;have q0:w6.cell? ⟨n+1,0,none⟩=some _:=HW6.res.cell 0;have g0:=HW6.res.free 0;have s1:w6.cell? ⟨n+1+1+1,1,none⟩=some _:=HW6.rd.cell 1;have q1:w6.cell? ⟨n+1,1,none⟩=some _:=HW6.res.cell 1;have g1:=HW6.res.free 1;have s2:w6.cell? ⟨n+1+1+1,2,none⟩=some _:=HW6.rd.cell 2;have q2:w6.cell? ⟨n+1,2,none⟩=some _:=HW6.res.cell 2;have g2:=HW6.res.free 2;have s3:w6.cell? ⟨n+1+1+1,3,none⟩=some _:=HW6.rd.cell 3;have q3:w6.cell? ⟨n+1,3,none⟩=some _:=HW6.res.cell 3;have g3:=HW6.res.free 3;have s4:w6.cell? ⟨n+1+1+1,4,none⟩=some _:=HW6.rd.cell 4;have q4:w6.cell? ⟨n+1,4,none⟩=some _:=HW6.res.cell 4;have g4:=HW6.res.free 4;have s5:w6.cell? ⟨n+1+1+1,5,none⟩=some _:=HW6.rd.cell 5;have q5:w6.cell? ⟨n+1,5,none⟩=some _:=HW6.res.cell 5;have g5:=HW6.res.free 5;have s6:w6.cell? ⟨n+1+1+1,6,none⟩=some _:=HW6.rd.cell 6;have q6:w6.cell? ⟨n+1,6,none⟩=some _:=HW6.res.cell 6;have g6:=HW6.res.free 6;have s7:w6.cell? ⟨n+1+1+1,7,none⟩=some _:=HW6.rd.cell 7;have q7:w6.cell? ⟨n+1,7,none⟩=some _:=HW6.res.cell 7;have g7:=HW6.res.free 7;have s8:w6.cell? ⟨n+1+1+1,8,none⟩=some _:=HW6.rd.cell 8;have q8:w6.cell? ⟨n+1,8,none⟩=some _:=HW6.res.cell 8;have g8:=HW6.res.free 8;have s9:w6.cell? ⟨n+1+1+1,9,none⟩=some _:=HW6.rd.cell 9;have q9:w6.cell? ⟨n+1,9,none⟩=some _:=HW6.res.cell 9;have g9:=HW6.res.free 9;have qE:=HW6.err.cell;have gE:=HW6.err.free;have hp:=HW6.res.put v;have hEp:ErrAt (n+1+1) 0 (putU w6 (n+1) v):=(putU_other w6 (n+1) v (by omega)).trans HW6.err;have hpb:Below n w (putU w6 (n+1) v):=putU_below HW6.below (by omega) v;have hU7:UrlAt (n+1) v ((putU w6 (n+1) v).setCell ⟨n+1+1,0,none⟩ (.int .i64 0)):=(Below.heap_setCell _ _ _ _ (by show n+1≠n+1+1;omega)).trans hp;have hE7:ErrAt (n+1+1) 0 ((putU w6 (n+1) v).setCell ⟨n+1+1,0,none⟩ (.int .i64 0)):=by unfold ErrAt at hEp⊢;rw[heap_setCell_in hEp];rfl
        have hb7:Below n w ((putU w6 (n+1) v).setCell ⟨n+1+1,0,none⟩ (.int .i64 0)):=hpb.setCell (p:=⟨n+1+1,0,none⟩) (by show n≤n+1+1;omega) _;have HU7:=Lib.hid hU7;have HE7:=Lib.hid hE7;have HB7:=Lib.hid hb7;clear hp hEp hpb hU7 hE7 hb7 HW5 HW6 hb6;go_wp2_with fail;go_at_call 69;rw[show decide ((4096:Int)<(T.length:Int))=false from decide_eq_false (by omega)];refine(wrong_no 3 _).mono ?_;rintro e w7 ⟨rfl,rfl⟩;go_wp2_with fail;exact read_out_ret HU7.out HE7.out rfl rfl ⟨by rw[HR.out],by rw[hn];exact HB7.out⟩
open Go.RowKit
theorem read_url (s:List UInt8) (base:UrlL) (has:Bool) (w:World) (hE:EnvH w) (hz:s.length≤140737488351232) (hb:has=true→GoodU base):
 Calls Tryz.prog 44 #[.string ⟨s.toArray⟩,urlV base, .bool has] w fun e w'=>e= .returned (pairU (readU s base has))∧Below w.heap.size w w':=by
 by_cases hs:4096<s.length
 ·have:readU s base has= .error 3:=by unfold readU;rw[if_pos hs]
  rw[this];exact read_long s base has w hs hz
 ·exact read_u s base has w hE (by omega) hb
theorem eq_urls (a b:UrlL) (w:World):(binOp .eql 23 (urlV a) (urlV b)).run Tryz.prog w= .ok (.bool (eqU a b)) w:=by
 unfold urlV;simp[go_sem]
 (repeat' split)<;>simp_all[eqU]
set_option maxRecDepth 100000 in
theorem check_u (u:UrlL) (w:World) (hE:EnvH w) (hs:sizeU u≤1000000000) (hport:u.port≤9223372036854775807):
 Calls Tryz.prog 16 #[urlV u] w fun e w'=>e= .returned (.bool (checkU u))∧Below w.heap.size w w':=by
 have hbw:=Below.refl w.heap.size w
 obtain⟨w1,hw1⟩:∃w1,w.alloc (.cells #[.string ⟨u.scheme.toArray⟩, .string ⟨u.user.toArray⟩, .string ⟨u.pass.toArray⟩, .string ⟨u.host.toArray⟩, .int .i64 u.port, .string ⟨u.path.toArray⟩, .string ⟨u.query.toArray⟩, .bool u.hasQ, .string ⟨u.mark.toArray⟩, .bool u.hasM] 23)=w1:=⟨_,rfl⟩
 have hb1:Below w.heap.size w w1:=by rw[←hw1];exact below_alloc w _
 have hU1:UrlAt w.heap.size u w1:=by rw[←hw1];exact heap_alloc_new w _
 have hE1:=hE.below hb1
 have ct:=text_u u w1 hE1 hs hport
 have htl:(textU u).length≤140737488351232:=by have:=text_sum u;unfold sizeU at hs;omega
 have cr:=fun W (hW:EnvH W)=>read_url (textU u) zeroU false W hW htl (fun h=>by cases h)
 have hck:checkU u=match readU (textU u) zeroU false with| .ok v=>eqU u v| .error _=>false:=rfl
 generalize textU u=T at*
 cases hr:readU T zeroU false with
 |error n=>
  have hn:=err_test (read_err hr).1;rw[hr]at hck cr;simp only at hck;have HC:=Lib.hid hck;unfold pairU at cr;simp only at cr;unfold urlV at ct cr⊢;clear hr hck;obtain⟨p0,p1,p2,p3,p4,p5,p6,p7,p8,p9⟩:=UrlAt.cells hU1;go_enter Tryz.func16,Tryz.ntmps16;go_wp2_with fail;go_at_call 14;refine ct.mono ?_;rintro e w2 ⟨rfl,hb2⟩;have hE2:=hE1.below hb2;go_wp2_with fail;go_at_call 44;refine(cr _ hE2).mono ?_;rintro e w3 ⟨rfl,hb3⟩;have hb4:=hb1.trans ((hb2.mono hb1.size).trans (hb3.mono (Nat.le_trans hb1.size hb2.size)));clear ct cr hw1 hE hE1 hU1 p0 p1 p2 p3 p4 p5 p6 p7 p8 p9;go_wp2_with fail;go_ret;exact⟨by rw[HC.out];rfl,hb4.alloc hb4.size _⟩
 |ok v=>
  rw[hr]at hck cr;simp only at hck;have HC:=Lib.hid hck;have heq:=eq_urls u v;unfold pairU at cr;simp only at cr;unfold urlV at ct cr heq⊢;clear hr hck;obtain⟨p0,p1,p2,p3,p4,p5,p6,p7,p8,p9⟩:=UrlAt.cells hU1;go_enter Tryz.func16,Tryz.ntmps16;go_wp2_with fail;go_at_call 14;refine ct.mono ?_;rintro e w2 ⟨rfl,hb2⟩;have hE2:=hE1.below hb2;go_wp2_with fail;go_at_call 44;refine(cr _ hE2).mono ?_;rintro e w3 ⟨rfl,hb3⟩;have hb4:=hb1.trans ((hb2.mono hb1.size).trans (hb3.mono (Nat.le_trans hb1.size hb2.size)));have hU3:UrlAt w.heap.size u w3:=(hb3.block _ (Nat.lt_of_lt_of_le hU1.lt hb2.size)).trans ((hb2.block _ hU1.lt).trans hU1);have hlt3:=hU3.lt;obtain⟨u0,u1,u2,u3,u4,u5,u6,u7,u8,u9⟩:=UrlAt.cells hU3;clear ct cr hw1 hE hE1 hU1 p0 p1 p2 p3 p4 p5 p6 p7 p8 p9 hU3;go_wp2_with fail;go_ret;exact⟨by rw[HC.out];rfl,hb4.alloc hb4.size _⟩
set_option maxRecDepth 100000 in
theorem parse_results {B:Nat} {W:World} {v:UrlL} {k:Int} {tmps:Array Value} (h6:tmps[6]?.getD undef= .pointer (some ⟨B,0,none⟩)) (h7:tmps[7]?.getD undef= .int .i64 k) (hU:UrlAt B v W):
 (results Tryz.f25 tmps).run Tryz.prog W= .ok (.tuple #[urlV v, .int .i64 k]) W:=by
 obtain⟨c0,c1,c2,c3,c4,c5,c6,c7,c8,c9⟩:=UrlAt.cells hU
 simp[results,Tryz.results25,go_sem,h6,h7,c0,c1,c2,c3,c4,c5,c6,c7,c8,c9]
 rfl
set_option maxRecDepth 100000 in
theorem parse_u (s:List UInt8) (base:UrlL) (has:Bool) (w:World) (hE:EnvH w) (hz:s.length≤140737488351232) (hs:sizeU base≤1000000000) (hport:base.port≤9223372036854775807):
 Calls Tryz.prog 25 #[.string ⟨s.toArray⟩,urlV base, .bool has] w fun e w'=>e= .returned (pairU (parseU s base has))∧Below w.heap.size w w':=by
 obtain⟨w1,hw1⟩:∃w1,w.alloc (.cells #[.string ⟨base.scheme.toArray⟩, .string ⟨base.user.toArray⟩, .string ⟨base.pass.toArray⟩, .string ⟨base.host.toArray⟩, .int .i64 base.port, .string ⟨base.path.toArray⟩, .string ⟨base.query.toArray⟩, .bool base.hasQ, .string ⟨base.mark.toArray⟩, .bool base.hasM] 23)=w1:=⟨_,rfl⟩
 have hb1:Below w.heap.size w w1:=by rw[←hw1];exact below_alloc w _
 have hU1:UrlAt w.heap.size base w1:=by rw[←hw1];exact heap_alloc_new w _
 obtain⟨w2,hw2⟩:∃w2,w1.alloc (.cells #[.string ⟨#[]⟩, .string ⟨#[]⟩, .string ⟨#[]⟩, .string ⟨#[]⟩, .int .i64 0, .string ⟨#[]⟩, .string ⟨#[]⟩, .bool false, .string ⟨#[]⟩, .bool false] 23)=w2:=⟨_,rfl⟩
 have hb2:Below w1.heap.size w1 w2:=by rw[←hw2];exact below_alloc w1 _
 have hR2:UrlAt w1.heap.size zeroU w2:=by rw[←hw2];exact heap_alloc_new w1 _
 have hU2:UrlAt w.heap.size base w2:=(hb2.block _ hU1.lt).trans hU1
 have hbb:=hb1.trans (hb2.mono hb1.size)
 have hE2:=hE.below hbb
 have h1:=hb1.size
 have hne:w.heap.size≠w1.heap.size:=Nat.ne_of_lt hU1.lt
 obtain⟨p0,p1,p2,p3,p4,p5,p6,p7,p8,p9⟩:=UrlAt.cells hU2
 obtain⟨r0,r1,r2,r3,r4,r5,r6,r7,r8,r9⟩:=UrlAt.cells hR2
 obtain⟨f0,f1,f2,f3,f4,f5,f6,f7,f8,f9⟩:=UrlAt.frees hR2
 have hRz:=hR2.put zeroU
 have hbz:=putU_below hbb h1 zeroU
 by_cases h0:4096<s.length
 ·have hp:parseU s base has= .error 3:=by unfold parseU;rw[if_pos h0]
  have hi:(4096:Int)<(s.length:Int):=by omega
  rw[hp];have HRz:=Lib.hid hRz;have HBz:=Lib.hid hbz;clear hp h0 hRz hbz hE hE2;unfold urlV;go_enter Tryz.func25,Tryz.ntmps25;go_wp2_with fail;exact⟨rfl,_,parse_results rfl rfl HRz.out,rfl,HBz.out⟩
 ·have hi:¬(4096:Int)<(s.length:Int):=by omega
  have HRz:=Lib.hid hRz;have HBz:=Lib.hid hbz;clear hRz hbz
  cases has with
  |false=>
   have hpr:parseU s base false=readU s base false:=by unfold parseU;rw[if_neg h0,if_neg (by simp)]
   have cr:=read_url s base false w2 hE2 hz (fun h=>by cases h);clear h0 hE hE2;unfold urlV at cr⊢;go_enter Tryz.func25,Tryz.ntmps25;go_wp2_with fail;go_at_call 44
   cases hr:readU s base false with
   |error n=>
    rw[hr]at cr;have HP:Hid (parseU s base false= .error n):=by show _=_;rw[hpr,hr]
    simp only[pairU,urlV]at cr;clear hr hpr;refine cr.mono ?_;rintro e w4 ⟨rfl,hb4⟩;have hR4:UrlAt w1.heap.size zeroU w4:=(hb4.block _ hR2.lt).trans hR2;have HR4:=Lib.hid (hR4.put zeroU);have HB4:=Lib.hid (putU_below (hbb.trans (hb4.mono hbb.size)) h1 zeroU);obtain⟨q0,q1,q2,q3,q4,q5,q6,q7,q8,q9⟩:=UrlAt.cells hR4;obtain⟨g0,g1,g2,g3,g4,g5,g6,g7,g8,g9⟩:=UrlAt.frees hR4;clear cr p0 p1 p2 p3 p4 p5 p6 p7 p8 p9 r0 f0 r1 f1 r2 f2 r3 f3 r4 f4 r5 f5 r6 f6 r7 f7 r8 f8 r9 f9 hR4 hb4;go_wp2_with fail;exact⟨rfl,_,parse_results rfl rfl HR4.out,by rw[HP.out];rfl,HB4.out⟩
   |ok v=>
    rw[hr]at cr;have HP:Hid (parseU s base false= .ok v):=by show _=_;rw[hpr,hr]
    simp only[pairU,urlV]at cr;clear hr hpr;refine cr.mono ?_;rintro e w4 ⟨rfl,hb4⟩;have hR4:UrlAt w1.heap.size zeroU w4:=(hb4.block _ hR2.lt).trans hR2;have HR4:=Lib.hid (hR4.put v);have HB4:=Lib.hid (putU_below (hbb.trans (hb4.mono hbb.size)) h1 v);obtain⟨q0,q1,q2,q3,q4,q5,q6,q7,q8,q9⟩:=UrlAt.cells hR4;obtain⟨g0,g1,g2,g3,g4,g5,g6,g7,g8,g9⟩:=UrlAt.frees hR4;clear cr p0 p1 p2 p3 p4 p5 p6 p7 p8 p9 r0 f0 r1 f1 r2 f2 r3 f3 r4 f4 r5 f5 r6 f6 r7 f7 r8 f8 r9 f9 hR4 hb4;go_wp2_with fail;exact⟨rfl,_,parse_results rfl rfl HR4.out,by rw[HP.out];rfl,HB4.out⟩
  |true=>
   have cc:=check_u base w2 hE2 hs hport
   cases hck:checkU base with
   |false=>
    have hpr:parseU s base true= .error 1:=by unfold parseU;rw[if_neg h0,if_pos ⟨rfl,hck⟩]
    rw[hck]at cc;have HP:=Lib.hid hpr;clear h0 hE hE2 hpr hck;unfold urlV at cc⊢;go_enter Tryz.func25,Tryz.ntmps25;go_wp2_with fail;go_at_call 16;refine cc.mono ?_;rintro e w4 ⟨rfl,hb4⟩;have hR4:UrlAt w1.heap.size zeroU w4:=(hb4.block _ hR2.lt).trans hR2;have HR4:=Lib.hid (hR4.put zeroU);have HB4:=Lib.hid (putU_below (hbb.trans (hb4.mono hbb.size)) h1 zeroU);obtain⟨q0,q1,q2,q3,q4,q5,q6,q7,q8,q9⟩:=UrlAt.cells hR4;obtain⟨g0,g1,g2,g3,g4,g5,g6,g7,g8,g9⟩:=UrlAt.frees hR4;clear cc p0 p1 p2 p3 p4 p5 p6 p7 p8 p9 r0 f0 r1 f1 r2 f2 r3 f3 r4 f4 r5 f5 r6 f6 r7 f7 r8 f8 r9 f9 hR4 hb4;go_wp2_with fail;exact⟨rfl,_,parse_results rfl rfl HR4.out,by rw[HP.out];rfl,HB4.out⟩
   |true=>
    have hpr:parseU s base true=readU s base true:=by
     unfold parseU;rw[if_neg h0,if_neg (by rw[hck];simp)]
    have hg:=check_good hck;rw[hck]at cc;have HG:=Lib.hid hg;clear h0 hE hck hg;unfold urlV at cc⊢;go_enter Tryz.func25,Tryz.ntmps25;go_wp2_with fail;go_at_call 16;refine cc.mono ?_;rintro e w3 ⟨rfl,hb3⟩;have hR3:UrlAt w1.heap.size zeroU w3:=(hb3.block _ hR2.lt).trans hR2;have hU3:UrlAt w.heap.size base w3:=(hb3.block _ hU2.lt).trans hU2;have hb5:=hbb.trans (hb3.mono hbb.size);have cr:=read_url s base true w3 (hE2.below hb3) hz (fun _=>HG.out);unfold urlV at cr;clear cc p0 p1 p2 p3 p4 p5 p6 p7 p8 p9 hE2;obtain⟨p0,p1,p2,p3,p4,p5,p6,p7,p8,p9⟩:=UrlAt.cells hU3;go_wp2_with fail;go_at_call 44
    cases hr:readU s base true with
    |error n=>
     rw[hr]at cr;have HP:Hid (parseU s base true= .error n):=by show _=_;rw[hpr,hr]
     simp only[pairU,urlV]at cr;clear hr hpr;refine cr.mono ?_;rintro e w4 ⟨rfl,hb4⟩;have hR4:UrlAt w1.heap.size zeroU w4:=(hb4.block _ hR3.lt).trans hR3;have HR4:=Lib.hid (hR4.put zeroU);have HB4:=Lib.hid (putU_below (hb5.trans (hb4.mono hb5.size)) h1 zeroU);obtain⟨q0,q1,q2,q3,q4,q5,q6,q7,q8,q9⟩:=UrlAt.cells hR4;obtain⟨g0,g1,g2,g3,g4,g5,g6,g7,g8,g9⟩:=UrlAt.frees hR4;clear cr p0 p1 p2 p3 p4 p5 p6 p7 p8 p9 r0 f0 r1 f1 r2 f2 r3 f3 r4 f4 r5 f5 r6 f6 r7 f7 r8 f8 r9 f9 hR4 hb4;go_wp2_with fail;exact⟨rfl,_,parse_results rfl rfl HR4.out,by rw[HP.out];rfl,HB4.out⟩
    |ok v=>
     rw[hr]at cr;have HP:Hid (parseU s base true= .ok v):=by show _=_;rw[hpr,hr]
     simp only[pairU,urlV]at cr;clear hr hpr;refine cr.mono ?_;rintro e w4 ⟨rfl,hb4⟩;have hR4:UrlAt w1.heap.size zeroU w4:=(hb4.block _ hR3.lt).trans hR3;have HR4:=Lib.hid (hR4.put v);have HB4:=Lib.hid (putU_below (hb5.trans (hb4.mono hb5.size)) h1 v);obtain⟨q0,q1,q2,q3,q4,q5,q6,q7,q8,q9⟩:=UrlAt.cells hR4;obtain⟨g0,g1,g2,g3,g4,g5,g6,g7,g8,g9⟩:=UrlAt.frees hR4;clear cr p0 p1 p2 p3 p4 p5 p6 p7 p8 p9 r0 f0 r1 f1 r2 f2 r3 f3 r4 f4 r5 f5 r6 f6 r7 f7 r8 f8 r9 f9 hR4 hb4;go_wp2_with fail;exact⟨rfl,_,parse_results rfl rfl HR4.out,by rw[HP.out];rfl,HB4.out⟩
end Go.Proofs.YthlnkoblpmjahaaGreatDoor
