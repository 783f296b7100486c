/- strings.Trim of two bytes at the slashes. -/
import Derived.Test.YtlcnknlmdaochaaGreatDoorUrlPRes
set_option linter.unusedVariables false
set_option linter.unusedSimpArgs false
set_option maxHeartbeats 16000000
namespace Go.Proofs.YtlcnknlmdaochaaGreatDoor
open Go.RowKit
def trimR2 (a b:UInt8):List UInt8:=if slashB b=true then (if slashB a=true then []else [a])else [a,b]
theorem trimR2_nil (a b:UInt8):((trimR2 a b).dropWhile slashB==[])=(slashB a&&slashB b):=by
 unfold trimR2
 cases ha:slashB a<;>cases hb:slashB b<;>simp[List.dropWhile_cons,ha,hb]
theorem trimR2_len (a b:UInt8):(trimR2 a b).length≤2:=by
 unfold trimR2;split
 ·split<;>simp
 ·simp
set_option maxRecDepth 100000 in
theorem trim_right (p:Nat) (a b:UInt8) (w:World) (hp:∀x:UInt8,w.cell? ⟨p,x.toNat,none⟩=some (.bool (slashB x))):
 Calls Tryz.prog 194 #[.string ⟨#[a,b]⟩, .pointer (some ⟨p,0,none⟩)] w fun e w'=>e= .returned (.string ⟨(trimR2 a b).toArray⟩)∧w=w':=by
 have hnot:∀(x:Bool) (w:World),(Op.unary .not (.bool x)).run Tryz.prog w= .ok (.bool (!x)) w:=fun _ _=>rfl
 have ca:=Tryz.asciiSet_contains p a (slashB a) w (hp a)
 have cb:=Tryz.asciiSet_contains p b (slashB b) w (hp b)
 have hT:Hid (trimR2 a b=if slashB b=true then (if slashB a=true then []else [a])else [a,b]):=rfl
 clear hp
 cases hb:slashB b with
 |false=>
  rw[hb]at cb hT;go_enter Tryz.func194,Tryz.ntmps194;go_wp2_with fail;refine wp_loop_rounds 3 ?_;rw[rounds_succ];go_wp2_with(go_at_call 204;refine cb.mono ?_;rintro e w2 ⟨rfl,rfl⟩);go_ret;exact⟨by rw[hT.out];rfl,rfl⟩
 |true=>
  rw[hb]at cb hT
  cases ha:slashB a with
  |false=>
   rw[ha]at ca hT;go_enter Tryz.func194,Tryz.ntmps194;go_wp2_with fail;refine wp_loop_rounds 3 ?_;rw[rounds_succ];go_wp2_with(go_at_call 204;refine cb.mono ?_;rintro e w2 ⟨rfl,rfl⟩);rw[rounds_succ];go_wp2_with(go_at_call 204;refine ca.mono ?_;rintro e w2 ⟨rfl,rfl⟩);go_ret;exact⟨by rw[hT.out];rfl,rfl⟩
  |true=>
   rw[ha]at ca hT;go_enter Tryz.func194,Tryz.ntmps194;go_wp2_with fail;refine wp_loop_rounds 3 ?_;rw[rounds_succ];go_wp2_with(go_at_call 204;refine cb.mono ?_;rintro e w2 ⟨rfl,rfl⟩);rw[rounds_succ];go_wp2_with(go_at_call 204;refine ca.mono ?_;rintro e w2 ⟨rfl,rfl⟩);rw[rounds_succ];go_wp2_with fail;go_ret;exact⟨by rw[hT.out];rfl,rfl⟩
set_option maxRecDepth 100000 in
theorem trim_two (a b:UInt8) (w:World):
 Calls Tryz.prog 141 #[.string ⟨#[a,b]⟩, .string ⟨#[47,92]⟩] w fun e w'=>e= .returned (.string ⟨((trimR2 a b).dropWhile slashB).toArray⟩)∧Below w.heap.size w w':=by
 have hv:∀w,(zeroValue 202).run Tryz.prog w= .ok (.agg (Array.replicate 256 (.bool false))) w:=fun w=>by kernel_rfl
 have cm:=Tryz.strings_makeASCIISet hv ⟨#[47,92]⟩ w (by decide) (fun j b hj=>(show ∀c∈([47,92]:List UInt8),c.toNat<128 by decide) b (List.mem_of_getElem? hj))
 have cm:Calls Tryz.prog 192 #[.string ⟨#[47,92]⟩] w fun e w'=>e= .returned (.tuple #[.agg (Lib.setCells [47,92]), .bool true])∧w'=w.alloc (.cells (Lib.setCells [47,92]) 202):=cm
 have hsz:=Lib.setCells_size [47,92]
 have hone:=Lib.setCells_one [47,92]
 have hat:∀x:UInt8,(Lib.setCells [47,92])[x.toNat]?=some (.bool (slashB x)):=fun x=>by rw[Lib.setCells_at,←slS_is];rfl
 generalize Lib.setCells [47,92]=A at*
 obtain⟨w2,hw2⟩:∃w2,(w.alloc (.cells A 202)).alloc (.cells (Array.replicate 256 (Value.bool false)) 202)=w2:=⟨_,rfl⟩
 have hb2:Below w.heap.size w w2:=by rw[←hw2];exact((Below.refl w.heap.size w).alloc (Nat.le_refl _) _).alloc (by rw[World.size_alloc];omega) _
 have hh2:w2.heap[w.heap.size+1]?=some (.cells (Array.replicate 256 (Value.bool false)) 202 (0,0)):=by
  have:=heap_alloc_new (w.alloc (.cells A 202)) (.cells (Array.replicate 256 (Value.bool false)) 202);rw[World.size_alloc,hw2]at this;exact this
 have hst:(storeCells ⟨w.heap.size+1,0,none⟩ A.toList).run Tryz.prog ((w.alloc (.cells A 202)).alloc (.cells (Array.replicate 256 (Value.bool false)) 202))= .ok () (w2.setRow (w.heap.size+1) A):=by
  rw[hw2];exact store_cells (run_storeVar_row (P:=Tryz.prog) w2 (w.heap.size+1) 202 202 _ A hh2 (by rw[hsz];kernel_rfl) (by rw[hsz];simp) hone)
 have hb3:Below w.heap.size w (w2.setRow (w.heap.size+1) A):=⟨hb2.os,hb2.tape,hb2.output,by rw[setRow_size];exact hb2.size,fun k hk=>(setRow_other _ _ _ _ (by omega)).trans (hb2.block k hk)⟩
 have hcell:∀x:UInt8,(w2.setRow (w.heap.size+1) A).cell? ⟨w.heap.size+1,x.toNat,none⟩=some (.bool (slashB x)):=fun x=>by
  rw[cell_setRow_same w2 (w.heap.size+1) _ _ _ _ _ hh2];exact hat x
 generalize w2.setRow (w.heap.size+1) A=w3 at*
 have ct:=trim_set (w.heap.size+1) (trimR2 a b) w3 hcell (by have:=trimR2_len a b;omega)
 have cr:=trim_right (w.heap.size+1) a b w3 hcell
 clear hw2 hh2 hb2 hcell hat hone
 go_enter Tryz.func141,Tryz.ntmps141
 go_wp2_with fail
 go_at_call 192
 refine cm.mono ?_
 rintro e w1 ⟨rfl,rfl⟩
 clear cm
 go_wp2_with fail
 go_at_call 194
 refine cr.mono ?_
 rintro e w4 ⟨rfl,rfl⟩
 clear cr
 go_wp2_with fail
 go_at_call 193
 refine ct.mono ?_
 rintro e w4 ⟨rfl,rfl⟩
 clear ct
 go_wp2_with fail
 go_ret
 exact⟨rfl,hb3⟩
theorem base_piece (P:List (List UInt8)) (g:Nat) (w:World) (h:w.heap[g]?=some (.cells (strs P).toArray 9 (0,0))) (hP:2≤P.length) (o n:Nat) (hn:n=P.length-2) (ho:o=1∨n=0):Piece w (some g) (.slice (some ⟨g,o,none⟩) n n) P.tail.dropLast w:=by
 have hl:P.tail.dropLast.length=n:=by simp;omega
 refine⟨⟨rfl,rfl,rfl,Nat.le_refl _,fun _ _ _=>rfl⟩, .inr ⟨g,o,n,by rw[hl], .inl rfl,(Array.getElem?_eq_some_iff.1 h).1,by omega,fun j u hj=> ?_,fun j hj=>⟨?_,Lib.frozen_of_heap h _⟩⟩⟩
 ·have hjl:j<n:=by
   have:=(List.getElem?_eq_some_iff.1 hj).1;rw[←hl];simpa[strs]using this
  obtain rfl:o=1:=by omega
  rw[Lib.cell_of_heap h,List.getElem?_toArray,←hj,strs,strs,List.getElem?_map,List.getElem?_map,List.getElem?_dropLast,if_pos (by simp;omega),List.getElem?_tail,Nat.add_comm]
 ·rw[Lib.cell_of_heap h,List.getElem?_toArray,strs,List.getElem?_map,List.getElem?_eq_getElem (by omega)];rfl
set_option maxRecDepth 100000 in
theorem seen_r (R:Nat) (u base:UrlL) (s:List UInt8) (w:World) (h:RdAt R u base s w) (hE:EnvR R w) (hs:s.length≤4100) (hu:u.user=[]) (hp:u.pass=[]) (hsl:47∈base.path) (hbl:base.path.length≤4100):
 Calls Tryz.prog 104 #[.pointer (some ⟨R,0,none⟩)] w (SeenPost R u base s w):=by
 have c10:w.cell? ⟨R,10,none⟩=some (.string ⟨s.toArray⟩):=h.cell 10
 have hlt:=h.lt
 have c11:w.cell? ⟨R,11,none⟩=some (.string ⟨base.scheme.toArray⟩):=h.cell 11
 have c12:w.cell? ⟨R,12,none⟩=some (.string ⟨base.user.toArray⟩):=h.cell 12
 have c13:w.cell? ⟨R,13,none⟩=some (.string ⟨base.pass.toArray⟩):=h.cell 13
 have c14:w.cell? ⟨R,14,none⟩=some (.string ⟨base.host.toArray⟩):=h.cell 14
 have c15:w.cell? ⟨R,15,none⟩=some (.int .i64 base.port):=h.cell 15
 have c16:w.cell? ⟨R,16,none⟩=some (.string ⟨base.path.toArray⟩):=h.cell 16
 have c17:w.cell? ⟨R,17,none⟩=some (.string ⟨base.query.toArray⟩):=h.cell 17
 have c18:w.cell? ⟨R,18,none⟩=some (.bool base.hasQ):=h.cell 18
 have c19:w.cell? ⟨R,19,none⟩=some (.string ⟨base.mark.toArray⟩):=h.cell 19
 have c20:w.cell? ⟨R,20,none⟩=some (.bool base.hasM):=h.cell 20
 go_enter Tryz.func104,Tryz.ntmps104
 go_wp2_with fail
 go_region
 obtain⟨w1,hw1⟩:∃W,(w.alloc (.cells #[.string ⟨base.scheme.toArray⟩, .string ⟨base.user.toArray⟩, .string ⟨base.pass.toArray⟩, .string ⟨base.host.toArray⟩, .int .i64 base.port, .string ⟨base.path.toArray⟩, .string ⟨base.query.toArray⟩, .bool base.hasQ, .string ⟨base.mark.toArray⟩, .bool base.hasM] 23)).drew=W:=⟨_,rfl⟩
 rw[hw1]
 have hb1:Below w.heap.size w w1:=by rw[←hw1];exact((Below.refl w.heap.size w).alloc (Nat.le_refl _) _).drew
 have hB1:BaseAt w.heap.size base w1:=by rw[←hw1];exact heap_alloc_new w _
 have hR1:=h.below hb1
 have hK1:=KeptX.of_below hb1 (Nat.le_of_lt hlt)
 have hE1:=hE.below hb1
 clear hw1 c10 c11 c12 c13 c14 c15 c16 c17 c18 c19 c20 hb1 h hE
 go_upto_region 1 with fail
 go_cut [21] (fun a21 wx=>a21= .bool (twoSl s)∧Below w1.heap.size w1 wx)
 case first=>
  cases s with
  |nil=>
   go_wp2_with fail;go_meet;exact⟨rfl,Below.refl _ _⟩
  |cons a s=>
   cases s with
   |nil=>
    go_wp2_with fail;go_meet;exact⟨rfl,Below.refl _ _⟩
   |cons b s=>
    have hn:(1:Int)<((a::b::s).length:Int):=by simp only[List.length_cons];omega
    have hn2:(2:Int)≤((a::b::s).length:Int):=by simp only[List.length_cons];omega
    have ct:=trim_two a b w1;have hq:Hid ((((trimR2 a b).dropWhile slashB)==[])=twoSl (a::b::s)):=trimR2_nil a b;generalize (trimR2 a b).dropWhile slashB=X at*;clear hsl hbl hR1 hK1 hE1 hB1;go_wp2_with fail;go_at_call 141;refine ct.mono ?_;rintro e w2 ⟨rfl,hb2⟩;clear ct;go_wp2_with fail;go_meet;exact⟨congrArg Value.bool ((by cases X<;>rfl:X.isEmpty=(X==[])).trans hq.out),hb2⟩
 case rest=>
  obtain⟨rfl,hb2⟩:=hcut;have hR2:=hR1.below hb2;have hK2:=hK1.calm (Nat.le_of_lt hR1.lt) hb2;have hE2:=hE1.below hb2;have hB2:BaseAt w.heap.size base wc:=(hb2.block _ (Array.getElem?_eq_some_iff.1 hB1).1).trans hB1;clear hR1 hK1 hE1 hB1 hb2
  cases htw:twoSl s with
  |true=>
   have hd:seenU u base s=placeU u (s.dropWhile slashB):=if_pos htw;have cp:=place_r idx_sl R u base s wc hR2 hE2 hs hu hp;have HD:=Lib.hid hd;clear hd;go_wp2_with fail;go_at_call 107;refine cp.mono ?_;rintro e w3 ⟨hK3,hpl⟩;have hK4:=hK2.next hK3;clear cp hK3 hK2 hR2 hE2 hB2
   cases hpu:placeU u (s.dropWhile slashB)with
   |error n=>
    rw[hpu]at hpl;obtain rfl:e=panE n:=hpl;exact⟨rfl,hK4,by rw[HD.out,hpu];rfl⟩
   |ok v=>
    rw[hpu]at hpl;obtain⟨rfl,t,hR4⟩:e= .returned (.tuple #[])∧∃t,RdAt R v base t w3:=hpl;go_wp2_with fail
    first|go_end0|refine bodyPost_ret (results_none rfl _ _ _) rfl ?_
    exact⟨hK4,by rw[HD.out,hpu];exact⟨rfl,t,hR4⟩⟩
  |false=>
   have HT:=Lib.hid htw;clear htw;obtain⟨B,hB⟩:∃B,w.heap.size=B:=⟨_,rfl⟩;rw[hB]at hB2⊢;have hBR:B≠R:=by omega
   have hRB:R≠B:=by omega
   have hBl:B<wc.heap.size:=(Array.getElem?_eq_some_iff.1 hB2).1;clear hB;have b1:wc.cell? ⟨B,1,none⟩=some (.string ⟨base.user.toArray⟩):=by rw[Lib.cell_of_heap hB2];rfl
   have b2:wc.cell? ⟨B,2,none⟩=some (.string ⟨base.pass.toArray⟩):=by rw[Lib.cell_of_heap hB2];rfl
   have b3:wc.cell? ⟨B,3,none⟩=some (.string ⟨base.host.toArray⟩):=by rw[Lib.cell_of_heap hB2];rfl
   have b4:wc.cell? ⟨B,4,none⟩=some (.int .i64 base.port):=by rw[Lib.cell_of_heap hB2];rfl
   have k1:wc.cell? ⟨R,1,none⟩=some _:=hR2.cell 1;have k2:wc.cell? ⟨R,2,none⟩=some _:=hR2.cell 2;have k3:wc.cell? ⟨R,3,none⟩=some _:=hR2.cell 3;have k4:wc.cell? ⟨R,4,none⟩=some _:=hR2.cell 4;have f1:=hR2.free 1;have f2:=hR2.free 2;have f3:=hR2.free 3;have f4:=hR2.free 4;go_wp2_with fail;go_region;have hR3a:=hR2.set (s':=s) (u':= {u with user:=base.user}) 1 (.string ⟨base.user.toArray⟩) rfl;have hR3b:=hR3a.set (s':=s) (u':= {u with user:=base.user,pass:=base.pass}) 2 (.string ⟨base.pass.toArray⟩) rfl;have hR3c:=hR3b.set (s':=s) (u':= {u with user:=base.user,pass:=base.pass,host:=base.host}) 3 (.string ⟨base.host.toArray⟩) rfl;have hR3d:=hR3c.set (s':=s) (u':= {u with user:=base.user,pass:=base.pass,host:=base.host,port:=base.port}) 4 (.int .i64 base.port) rfl;have hKa:=(((hR2.kept 1 (.string ⟨base.user.toArray⟩)).next (hR3a.kept 2 (.string ⟨base.pass.toArray⟩))).next (hR3b.kept 3 (.string ⟨base.host.toArray⟩))).next (hR3c.kept 4 (.int .i64 base.port));clear hR3a hR3b hR3c b1 b2 b3 b4 k1 k2 k3 k4 f1 f2 f3 f4;obtain⟨w3,hw3⟩:∃W,((((wc.setCell ⟨R,1,none⟩ (.string ⟨base.user.toArray⟩)).setCell ⟨R,2,none⟩ (.string ⟨base.pass.toArray⟩)).setCell ⟨R,3,none⟩ (.string ⟨base.host.toArray⟩)).setCell ⟨R,4,none⟩ (.int .i64 base.port)).drew=W:=⟨_,rfl⟩;rw[hw3];have hKb:KeptX wc.heap.size R wc w3:=by rw[←hw3];exact⟨hKa.1.drew,hKa.2⟩
   have hR3:RdAt R {u with user:=base.user,pass:=base.pass,host:=base.host,port:=base.port} base s w3:=by rw[←hw3];exact hR3d
   have hB3:BaseAt B base w3:=(hKb.2 B hBl hBR).trans hB2;have hK3:=hK2.next hKb;have hE3:=hE2.kept hKb;have hR3lt:=hR3.lt;clear hw3 hR3d hKa hKb hB2 hR2 hK2 hE2;have b5:w3.cell? ⟨B,5,none⟩=some (.string ⟨base.path.toArray⟩):=by rw[Lib.cell_of_heap hB3];rfl
   cases s with
   |nil=>
    have HD:Hid (seenU u base []= .ok (if u.hasQ=true then {u with user:=base.user,pass:=base.pass,host:=base.host,port:=base.port,path:=base.path}else {u with user:=base.user,pass:=base.pass,host:=base.host,port:=base.port,path:=base.path,hasQ:=base.hasQ,query:=base.query})):=rfl;have b6:w3.cell? ⟨B,6,none⟩=some (.string ⟨base.query.toArray⟩):=by rw[Lib.cell_of_heap hB3];rfl
    have b7:w3.cell? ⟨B,7,none⟩=some (.bool base.hasQ):=by rw[Lib.cell_of_heap hB3];rfl
    have k5:w3.cell? ⟨R,5,none⟩=some _:=hR3.cell 5;have k6:w3.cell? ⟨R,6,none⟩=some _:=hR3.cell 6;have k7:w3.cell? ⟨R,7,none⟩=some (.bool u.hasQ):=hR3.cell 7;have f5:=hR3.free 5;have f6:=hR3.free 6;have f7:=hR3.free 7;have hR4:=hR3.set (s':=[]) (u':= {u with user:=base.user,pass:=base.pass,host:=base.host,port:=base.port,path:=base.path}) 5 (.string ⟨base.path.toArray⟩) rfl;have hK4:=hK3.next (hR3.kept 5 (.string ⟨base.path.toArray⟩));clear hB3 hE3
    cases hq:u.hasQ with
    |true=>
     rw[hq]at k7;have HF:Hid (seenU u base []= .ok {u with user:=base.user,pass:=base.pass,host:=base.host,port:=base.port,path:=base.path}):=by
      show _=_;rw[HD.out,hq];rfl
     clear HD HT hq;go_wp2_with fail
     first|go_end0|refine bodyPost_ret (results_none rfl _ _ _) rfl ?_
     exact⟨hK4,by rw[HF.out];exact⟨rfl,[],hR4⟩⟩
    |false=>
     rw[hq]at k7;have HF:Hid (seenU u base []= .ok {u with user:=base.user,pass:=base.pass,host:=base.host,port:=base.port,path:=base.path,hasQ:=base.hasQ,query:=base.query}):=by
      show _=_;rw[HD.out,hq];rfl
     have hR5a:=hR4.set (s':=[]) (u':= {u with user:=base.user,pass:=base.pass,host:=base.host,port:=base.port,path:=base.path,hasQ:=base.hasQ}) 7 (.bool base.hasQ) rfl;have hR5:=hR5a.set (s':=[]) (u':= {u with user:=base.user,pass:=base.pass,host:=base.host,port:=base.port,path:=base.path,hasQ:=base.hasQ,query:=base.query}) 6 (.string ⟨base.query.toArray⟩) rfl;have hK5:=(hK4.next (hR4.kept 7 (.bool base.hasQ))).next (hR5a.kept 6 (.string ⟨base.query.toArray⟩));clear HD HT hq hR5a hR4 hK4;go_wp2_with fail;go_region;go_wp2_with fail
     first|go_end0|refine bodyPost_ret (results_none rfl _ _ _) rfl ?_
     exact⟨⟨hK5.1.drew,hK5.2⟩,by rw[HF.out];exact⟨rfl,[],hR5⟩⟩
   |cons x r=>
    have ci:=fun W=>Tryz.strings_IndexByte ⟨#[47,92]⟩ (x.toNat:Int) W
    rw[show((x.toNat:Int)).toNat.toUInt8=x by simp]at ci;have hib:=Lib.contains_iff_indexByte [47,92] x;rw[slash_in]at hib;have hxn:(0:Int)<((x::r).length:Int):=by simp only[List.length_cons];omega
    have hxn1:(1:Int)≤((x::r).length:Int):=by simp only[List.length_cons];omega
    have HD:Hid (seenU u base (x::r)=if slashB x=true then .ok {u with user:=base.user,pass:=base.pass,host:=base.host,port:=base.port,path:=pathL [] r}else .ok {u with user:=base.user,pass:=base.pass,host:=base.host,port:=base.port,path:=pathL (partsL 47 base.path).tail.dropLast (x::r)}):=seen_cons HT.out;simp only[List.length_cons]at hs
    cases hsx:slashB x with
    |true=>
     rw[hsx]at hib;have hib2:(0:Int)≤Lib.indexByte [47,92] x:=of_decide_eq_true hib.symm;have HF:Hid (seenU u base (x::r)= .ok {u with user:=base.user,pass:=base.pass,host:=base.host,port:=base.port,path:=pathL [] r}):=by
      show _=_;rw[HD.out,hsx];rfl
     have k10:w3.cell? ⟨R,10,none⟩=some _:=hR3.cell 10;have f10:=hR3.free 10;have hR4:=hR3.set (s':=r) (u':= {u with user:=base.user,pass:=base.pass,host:=base.host,port:=base.port}) 10 (.string ⟨r.toArray⟩) rfl;have hKc:=hR3.kept 10 (.string ⟨r.toArray⟩);have hK4:=hK3.next hKc;have hE4:=hE3.kept hKc;clear HD HT hsx hib b5 hB3 hE3 hKc hK3;go_wp2_with fail;go_at_call 142;refine(ci _).mono ?_;rintro e w4 ⟨rfl,rfl⟩;clear ci;go_wp2_with fail;obtain⟨w5,hw5⟩:∃W,w4.setCell ⟨R,10,none⟩ (.string ⟨r.toArray⟩)=W:=⟨_,rfl⟩;rw[hw5]at hR4 hK4 hE4⊢;clear hw5;have cr:=rest_r w5.heap.size R {u with user:=base.user,pass:=base.pass,host:=base.host,port:=base.port} base r (.slice none 0 0) [] none w5 hR4 hE4 (by omega) hR4.lt (Nat.le_refl _) (fun g hg=>by cases hg) (fun W hW=>⟨⟨rfl,rfl,rfl,Nat.le_refl _,fun _ _ _=>rfl⟩, .inl ⟨rfl,rfl⟩⟩) (by simp) (by simp[backL]);go_at_call 143;refine cr.mono ?_;rintro e w6 ⟨rfl,hK6,hR6⟩;have hK7:=hK4.next hK6;clear cr hK4 hK6 hR4 hE4;go_wp2_with fail
     first|go_end0|refine bodyPost_ret (results_none rfl _ _ _) rfl ?_
     exact⟨hK7,by rw[HF.out];exact⟨rfl,r,hR6⟩⟩
    |false=>
     rw[hsx]at hib;have hib2:¬(0:Int)≤Lib.indexByte [47,92] x:=of_decide_eq_false hib.symm;have HF:Hid (seenU u base (x::r)= .ok {u with user:=base.user,pass:=base.pass,host:=base.host,port:=base.port,path:=pathL (partsL 47 base.path).tail.dropLast (x::r)}):=by
      show _=_;rw[HD.out,hsx];rfl
     have cs:=split_any base.path 47 w3 hE3.env.t.env.shaped (by omega);obtain⟨hPn,hPb,hPl⟩:=base_parts hsl;generalize partsL 47 base.path=P at*;have hl1:(1:Int)≤(P.length:Int)-1:=by omega
     clear HD HT hsx hib hB3 hsl;go_wp2_with fail;go_at_call 142;refine(ci _).mono ?_;rintro e w4 ⟨rfl,rfl⟩;clear ci;go_wp2_with fail;go_at_call 144;refine cs.mono ?_;rintro e w5 ⟨rfl,hw5⟩;clear cs b5;have hb5:Below w4.heap.size w4 w5:=by rw[hw5];exact(Below.refl _ w4).alloc (Nat.le_refl _) _
     have hrow:w5.heap[w4.heap.size]?=some (.cells (strs P).toArray 9 (0,0)):=by rw[hw5];exact heap_alloc_new w4 _
     have hs5:w5.heap.size=w4.heap.size+1:=by rw[hw5];exact World.size_alloc _ _
     clear hw5;have hR5:=hR3.below hb5;have hE5:=hE3.below hb5;have hK5:=hK3.calm (Nat.le_of_lt hR3lt) hb5;have hpc:=fun W (hW:Below w5.heap.size w5 W)=>base_piece P w4.heap.size W ((hW.block _ (by omega)).trans hrow) hPn
     have cr:=fun (o n:Nat) (hn:n=P.length-2) (ho:o=1∨n=0)=>rest_r w4.heap.size R {u with user:=base.user,pass:=base.pass,host:=base.host,port:=base.port} base (x::r) (.slice (some ⟨w4.heap.size,o,none⟩) n n) P.tail.dropLast (some w4.heap.size) w5 hR5 hE5 (by simp only[List.length_cons];omega) hR3lt (by omega) (fun g hg=>by injection hg with hg;subst hg;omega) (fun W hW=>hpc W hW o n hn ho) (by simp;omega) (by omega)
     have hle:=hK3.1.size;clear hR5 hE5 hpc hR3 hE3 hrow hK3 hb5;go_wp2_with fail
     ·go_at_call 143
      refine(cr 0 0 (by omega) (.inr rfl)).mono ?_;rintro e w6 ⟨rfl,hK6,hR6⟩;have hK7:=hK5.trans (hK6.lower hle);clear cr hK5 hK6 h;go_wp2_with fail
      first|go_end0|refine bodyPost_ret (results_none rfl _ _ _) rfl ?_
      exact⟨hK7,by rw[HF.out];exact⟨rfl,x::r,hR6⟩⟩
     ·go_at_call 143
      refine(cr 1 (P.length-1-1) (by omega) (.inl rfl)).mono ?_;rintro e w6 ⟨rfl,hK6,hR6⟩;have hK7:=hK5.trans (hK6.lower hle);clear cr hK5 hK6 h;go_wp2_with fail
      first|go_end0|refine bodyPost_ret (results_none rfl _ _ _) rfl ?_
      exact⟨hK7,by rw[HF.out];exact⟨rfl,x::r,hR6⟩⟩
theorem seen_c:SeenC:=fun R u base s w h hE hs hu hp hsl hbl=>seen_r R u base s w h hE hs hu hp hsl hbl
set_option maxRecDepth 100000 in
theorem parse_1 (s:List UInt8) (base:UrlL) (sn:SeenC) (w:World) (hE:EnvH w) (hz:s.length≤140737488351232) (hs:sizeU base≤1000000000) (hport:base.port≤9223372036854775807):
 Calls Tryz.prog 28 #[.string ⟨s.toArray⟩,urlV base, .bool true] w fun e w'=>e= .returned (pairU (parseU s base true))∧Below w.heap.size w w':=by
 obtain⟨w1,hw1⟩:∃w1,w.alloc (.cells #[.string ⟨base.scheme.toArray⟩, .string ⟨base.user.toArray⟩, .string ⟨base.pass.toArray⟩, .string ⟨base.host.toArray⟩, .int .i64 base.port, .string ⟨base.path.toArray⟩, .string ⟨base.query.toArray⟩, .bool base.hasQ, .string ⟨base.mark.toArray⟩, .bool base.hasM] 23)=w1:=⟨_,rfl⟩
 have hb1:Below w.heap.size w w1:=by rw[←hw1];exact below_alloc w _
 have hU1:UrlAt w.heap.size base w1:=by rw[←hw1];exact heap_alloc_new w _
 obtain⟨w2,hw2⟩:∃w2,w1.alloc (.cells #[.string ⟨#[]⟩, .string ⟨#[]⟩, .string ⟨#[]⟩, .string ⟨#[]⟩, .int .i64 0, .string ⟨#[]⟩, .string ⟨#[]⟩, .bool false, .string ⟨#[]⟩, .bool false] 23)=w2:=⟨_,rfl⟩
 have hb2:Below w1.heap.size w1 w2:=by rw[←hw2];exact below_alloc w1 _
 have hR2:UrlAt w1.heap.size zeroU w2:=by rw[←hw2];exact heap_alloc_new w1 _
 have hU2:UrlAt w.heap.size base w2:=(hb2.block _ hU1.lt).trans hU1
 have hbb:=hb1.trans (hb2.mono hb1.size)
 have hE2:=hE.below hbb
 have h1:=hb1.size
 have hne:w.heap.size≠w1.heap.size:=Nat.ne_of_lt hU1.lt
 obtain⟨p0,p1,p2,p3,p4,p5,p6,p7,p8,p9⟩:=UrlAt.cells hU2
 obtain⟨r0,r1,r2,r3,r4,r5,r6,r7,r8,r9⟩:=UrlAt.cells hR2
 obtain⟨f0,f1,f2,f3,f4,f5,f6,f7,f8,f9⟩:=UrlAt.frees hR2
 have hRz:=hR2.put zeroU
 have hbz:=putU_below hbb h1 zeroU
 by_cases h0:4096<s.length
 ·have hp:parseU s base true= .error 3:=by unfold parseU;rw[if_pos h0]
  have hi:(4096:Int)<(s.length:Int):=by omega
  rw[hp];have HRz:=Lib.hid hRz;have HBz:=Lib.hid hbz;clear hp h0 hRz hbz hE hE2;unfold urlV;go_enter Tryz.func28,Tryz.ntmps28;go_wp2_with fail;exact⟨rfl,_,parse_results rfl rfl HRz.out,rfl,HBz.out⟩
 ·have hi:¬(4096:Int)<(s.length:Int):=by omega
  have HRz:=Lib.hid hRz;have HBz:=Lib.hid hbz;clear hRz hbz;have cc:=check_u base w2 hE2 hs hport
  cases hck:checkU base with
  |false=>
   have hpr:parseU s base true= .error 1:=by unfold parseU;rw[if_neg h0,if_pos ⟨rfl,hck⟩]
   rw[hck]at cc;have HP:=Lib.hid hpr;clear h0 hE hE2 hpr hck;unfold urlV at cc⊢;go_enter Tryz.func28,Tryz.ntmps28;go_wp2_with fail;go_at_call 19;refine cc.mono ?_;rintro e w4 ⟨rfl,hb4⟩;have hR4:UrlAt w1.heap.size zeroU w4:=(hb4.block _ hR2.lt).trans hR2;have HR4:=Lib.hid (hR4.put zeroU);have HB4:=Lib.hid (putU_below (hbb.trans (hb4.mono hbb.size)) h1 zeroU);obtain⟨q0,q1,q2,q3,q4,q5,q6,q7,q8,q9⟩:=UrlAt.cells hR4;obtain⟨g0,g1,g2,g3,g4,g5,g6,g7,g8,g9⟩:=UrlAt.frees hR4;clear cc p0 p1 p2 p3 p4 p5 p6 p7 p8 p9 r0 f0 r1 f1 r2 f2 r3 f3 r4 f4 r5 f5 r6 f6 r7 f7 r8 f8 r9 f9 hR4 hb4;go_wp2_with fail;exact⟨rfl,_,parse_results rfl rfl HR4.out,by rw[HP.out];rfl,HB4.out⟩
  |true=>
   have hpr:parseU s base true=readU s base true:=by
    unfold parseU;rw[if_neg h0,if_neg (by rw[hck];simp)]
   have hg:=check_good hck;rw[hck]at cc;have HG:=Lib.hid hg;clear h0 hE hck hg;unfold urlV at cc⊢;go_enter Tryz.func28,Tryz.ntmps28;go_wp2_with fail;go_at_call 19;refine cc.mono ?_;rintro e w3 ⟨rfl,hb3⟩;have hR3:UrlAt w1.heap.size zeroU w3:=(hb3.block _ hR2.lt).trans hR2;have hU3:UrlAt w.heap.size base w3:=(hb3.block _ hU2.lt).trans hU2;have hb5:=hbb.trans (hb3.mono hbb.size);have cr:=read_url s base true (fun _=>sn) w3 (hE2.below hb3) hz (fun _=>HG.out);unfold urlV at cr;clear cc p0 p1 p2 p3 p4 p5 p6 p7 p8 p9 hE2;obtain⟨p0,p1,p2,p3,p4,p5,p6,p7,p8,p9⟩:=UrlAt.cells hU3;go_wp2_with fail;go_at_call 62
   cases hr:readU s base true with
   |error n=>
    rw[hr]at cr;have HP:Hid (parseU s base true= .error n):=by show _=_;rw[hpr,hr]
    simp only[pairU,urlV]at cr;clear hr hpr;refine cr.mono ?_;rintro e w4 ⟨rfl,hb4⟩;have hR4:UrlAt w1.heap.size zeroU w4:=(hb4.block _ hR3.lt).trans hR3;have HR4:=Lib.hid (hR4.put zeroU);have HB4:=Lib.hid (putU_below (hb5.trans (hb4.mono hb5.size)) h1 zeroU);obtain⟨q0,q1,q2,q3,q4,q5,q6,q7,q8,q9⟩:=UrlAt.cells hR4;obtain⟨g0,g1,g2,g3,g4,g5,g6,g7,g8,g9⟩:=UrlAt.frees hR4;clear cr p0 p1 p2 p3 p4 p5 p6 p7 p8 p9 r0 f0 r1 f1 r2 f2 r3 f3 r4 f4 r5 f5 r6 f6 r7 f7 r8 f8 r9 f9 hR4 hb4;go_wp2_with fail;exact⟨rfl,_,parse_results rfl rfl HR4.out,by rw[HP.out];rfl,HB4.out⟩
   |ok v=>
    rw[hr]at cr;have HP:Hid (parseU s base true= .ok v):=by show _=_;rw[hpr,hr]
    simp only[pairU,urlV]at cr;clear hr hpr;refine cr.mono ?_;rintro e w4 ⟨rfl,hb4⟩;have hR4:UrlAt w1.heap.size zeroU w4:=(hb4.block _ hR3.lt).trans hR3;have HR4:=Lib.hid (hR4.put v);have HB4:=Lib.hid (putU_below (hb5.trans (hb4.mono hb5.size)) h1 v);obtain⟨q0,q1,q2,q3,q4,q5,q6,q7,q8,q9⟩:=UrlAt.cells hR4;obtain⟨g0,g1,g2,g3,g4,g5,g6,g7,g8,g9⟩:=UrlAt.frees hR4;clear cr p0 p1 p2 p3 p4 p5 p6 p7 p8 p9 r0 f0 r1 f1 r2 f2 r3 f3 r4 f4 r5 f5 r6 f6 r7 f7 r8 f8 r9 f9 hR4 hb4;go_wp2_with fail;exact⟨rfl,_,parse_results rfl rfl HR4.out,by rw[HP.out];rfl,HB4.out⟩
end Go.Proofs.YtlcnknlmdaochaaGreatDoor
