/- ascii.signs, and ascii.Token of a text of signs. -/
import Derived.Test.YtlcnknlmdaochaaGreatDoorCtxSup
import Derived.Test.YtlcnknlmdaochaaGreatDoorGCnt
import Derived.Test.YtlcnknlmdaochaaGreatDoorGUrl0
import Derived.Lib.ParseIntB
import Derived.Lib.Atoi
import Derived.Lib.Replace
import Derived.Lib.QuietBelow
import Derived.Laws.CopyOwn
import Derived.Lib.SmallJoins
import Derived.Deep.MidRow
import Derived.Laws.EntriesVeiled
import Derived.RangeFuncNested
import Derived.RangeFuncBound
set_option linter.unusedVariables false
set_option linter.unusedSimpArgs false
set_option maxHeartbeats 16000000
namespace Go.Proofs.YtlcnknlmdaochaaGreatDoor
open Go.RowKit
def tokBs:List UInt8:=[33,35,36,37,38,39,42,43,45,46,94,95,96,124,126,48,49,50,51,52,53,54,55,56,57,65,66,67,68,69,70,71,72,73,74,75,76,77,78,79,80,81,82,83,84,85,86,87,88,89,90,97,98,99,100,101,102,103,104,105,106,107,108,109,110,111,112,113,114,115,116,117,118,119,120,121,122]
structure TokRow (A:Array Value) (k:Nat):Prop where
 size:A.size=256
 bits:∀i,i<256→∃b,A[i]?=some (.bool b)
 has:∀j,j<k→∀c,tokBs[j]?=some c→A[c.toNat]?=some (.bool true)
theorem TokRow.one {A:Array Value} {k:Nat} (h:TokRow A k):A.all (·.oneCell')=true:=by
 rw[Array.all_eq_true];intro i hi;obtain⟨b,hb⟩:=h.bits i (by rw[←h.size];exact hi);rw[Array.getElem?_eq_getElem hi]at hb;injection hb with hb;rw[hb];rfl
theorem TokRow.set {A:Array Value} {k:Nat} (h:TokRow A k) {c:UInt8} (hc:tokBs[k]?=some c):TokRow (A.setIfInBounds c.toNat (.bool true)) (k+1):=by
 have hlt:=c.toNat_lt;refine⟨by rw[Array.size_setIfInBounds];exact h.size,fun i hi=> ?_,fun j hj d hd=> ?_⟩
 ·rw[Array.getElem?_setIfInBounds]
  split
  ·rw[if_pos (by rw[h.size];omega)];exact⟨_,rfl⟩
  ·exact h.bits i hi
 ·rw[Array.getElem?_setIfInBounds]
  split
  ·rw[if_pos (by rw[h.size];omega)]
  ·by_cases e:j=k
   ·subst e
    rw[hc]at hd;injection hd with hd;rename_i hne;exact absurd (by rw[hd]) hne
   ·exact h.has j (by omega) d hd
theorem TokRow.zero {Z:Array Value} (hZ:Z=Array.replicate 256 (.bool false)):TokRow Z 0:=by
 subst hZ;exact⟨by simp,fun i hi=>⟨false,by simp[hi]⟩,fun j hj=>absurd hj (by omega)⟩
def tokCells:Array Value:=(tokBs.map fun c=> .int .u8 (c.toNat:Int)).toArray
theorem results_row1 {P:Program} {fn:Func} {p:Tmp} {ty:TypeId} (h:fn.results= #[.cell p ty]) (tmps:Array Value) (w:World) (g:Nat) (t:TypeId) (cs:Array Value) (fr:Nat×Nat) (d:TypeDesc)
 (hp:tmps.getD p undef= .pointer (some ⟨g,0,none⟩)) (hg:w.heap[g]?=some (.cells cs t fr))
 (hu:P.underlying ty=some d) (hd:(match d with| .struct _| .array _ _=>true|_=>false)=true) (hi:(P.info? ty).map (·.size)=some cs.size):
 (results fn tmps).run P w= .ok (.agg cs) w:=by
 have hp':tmps[p]?.getD undef= .pointer (some ⟨g,0,none⟩):=by simpa using hp
 simp[results,h,hp',asAddr,run_loadVar_row w g t ty cs fr d hg hu hd hi]
set_option maxRecDepth 100000 in
theorem signs_tok (w:World):Calls Tryz.prog 174 #[] w fun e w'=>∃A,e= .returned (.agg A)∧TokRow A 77∧Below w.heap.size w w':=by
 obtain⟨w1,hw1⟩:∃W,(w.alloc (.cells Tryz.zeroCells181 181)).alloc (.cells tokCells 5 (77,78))=W:=⟨_,rfl⟩;have hz:TokRow Tryz.zeroCells181 0:=TokRow.zero (by kernel_rfl);have hb1:Below w.heap.size w w1:=by rw[←hw1];exact((below_alloc w _).alloc (by rw[World.size_alloc];omega) _)
 have hB:w1.heap[w.heap.size+1]?=some (.cells tokCells 5 (77,78)):=by
  rw[←hw1];have:=Array.getElem?_push_size (xs:=(w.alloc (.cells Tryz.zeroCells181 181)).heap) (x:= .cells tokCells 5 (77,78));rw[World.size_alloc]at this;exact this
 have hA:w1.heap[w.heap.size]?=some (.cells Tryz.zeroCells181 181 (0,0)):=by
  rw[←hw1,(below_alloc (w.alloc (.cells Tryz.zeroCells181 181)) _).block _ (by rw[World.size_alloc];omega)];exact heap_alloc_new w _
 have hC:∀ {W:World},W.heap[w.heap.size+1]?=some (.cells tokCells 5 (77,78))→∀(k:Nat) (hk:k<tokBs.length),W.cell? ⟨w.heap.size+1,k,none⟩=some (.int .u8 ((tokBs[k]).toNat:Int)):=fun h k hk=>by
  rw[Lib.cell_of_heap h,tokCells,List.getElem?_toArray,List.getElem?_map,List.getElem?_eq_getElem hk];rfl
 have hcv:(convert 61 61 (.slice (some ⟨w.heap.size+1,0,none⟩) 77 77)).run Tryz.prog ((w.alloc (.cells Tryz.zeroCells181 181)).alloc (.cells #[.int .u8 33, .int .u8 35, .int .u8 36, .int .u8 37, .int .u8 38, .int .u8 39, .int .u8 42, .int .u8 43, .int .u8 45, .int .u8 46, .int .u8 94, .int .u8 95, .int .u8 96, .int .u8 124, .int .u8 126, .int .u8 48, .int .u8 49, .int .u8 50, .int .u8 51, .int .u8 52, .int .u8 53, .int .u8 54, .int .u8 55, .int .u8 56, .int .u8 57, .int .u8 65, .int .u8 66, .int .u8 67, .int .u8 68, .int .u8 69, .int .u8 70, .int .u8 71, .int .u8 72, .int .u8 73, .int .u8 74, .int .u8 75, .int .u8 76, .int .u8 77, .int .u8 78, .int .u8 79, .int .u8 80, .int .u8 81, .int .u8 82, .int .u8 83, .int .u8 84, .int .u8 85, .int .u8 86, .int .u8 87, .int .u8 88, .int .u8 89, .int .u8 90, .int .u8 97, .int .u8 98, .int .u8 99, .int .u8 100, .int .u8 101, .int .u8 102, .int .u8 103, .int .u8 104, .int .u8 105, .int .u8 106, .int .u8 107, .int .u8 108, .int .u8 109, .int .u8 110, .int .u8 111, .int .u8 112, .int .u8 113, .int .u8 114, .int .u8 115, .int .u8 116, .int .u8 117, .int .u8 118, .int .u8 119, .int .u8 120, .int .u8 121, .int .u8 122] 5))= .ok (.slice (some ⟨w.heap.size+1,0,none⟩) 77 77) w1:=by
  have:=Lib.run_convert_bytes_const (P:=Tryz.prog) (w.alloc (.cells Tryz.zeroCells181 181)) 61 5 tokCells 77 77 Tryz.underlying61 Tryz.underlying5;rw[World.size_alloc]at this;rw[←hw1];exact this
 have hl77:tokBs.length=77:=rfl;clear hw1;go_enter Tryz.func174,Tryz.ntmps174;go_wp2_with fail;go_loopw [2,6] (fun c i wr=>∃(k:Nat) (A:Array Value),k≤77∧i= .int .i64 k∧wr.heap[w.heap.size]?=some (.cells A 181 (0,0))∧Hid (TokRow A k)∧wr.heap[w.heap.size+1]?=some (.cells tokCells 5 (77,78))∧Below w.heap.size w wr) (fun _ i _=>77-(intOf i).toNat)
 case atStart=>exact⟨0,_,by omega,rfl,hA,hz,hB,hb1⟩
 case round=>
  obtain⟨k,A,hk,rfl,hA2,HT,hB2,hb2⟩:=hrel;by_cases hlt:k<77
  ·have hki:(k:Int)<77:=by omega
   have hc:=hC hB2 k (by rw[hl77];exact hlt);have hget:tokBs[k]?=some (tokBs[k]'(by rw[hl77];exact hlt)):=List.getElem?_eq_getElem _;generalize tokBs[k]=c at hc hget;have hset:=HT.out.set hget;obtain⟨b,hbb⟩:=HT.out.bits c.toNat c.toNat_lt;have hcell:wr.cell? ⟨w.heap.size,c.toNat,none⟩=some (.bool b):=by rw[Lib.cell_of_heap hA2];exact hbb
   have hfree:wr.frozen? ⟨w.heap.size,c.toNat,none⟩=false:=Lib.frozen_of_heap hA2 _;have h256:=c.toNat_lt;have hA3:=heap_setCell_in hA2 c.toNat (.bool true);have hB3:(wr.setCell ⟨w.heap.size,c.toNat,none⟩ (.bool true)).heap[w.heap.size+1]?=some (.cells tokCells 5 (77,78)):=(Below.heap_setCell _ _ _ _ (by show w.heap.size+1≠w.heap.size;omega)).trans hB2;have hb3:Below w.heap.size w (wr.setCell ⟨w.heap.size,c.toNat,none⟩ (.bool true)):=hb2.setCell (p:=⟨w.heap.size,c.toNat,none⟩) (Nat.le_refl _) _;have HA3:=Lib.hid hA3;have HB3:=Lib.hid hB3;have HB:=Lib.hid hb3;have HS:=Lib.hid hset;clear hget hset hbb hA3 hB3 hb3 hb2 HT hB hA hb1 hz hA2 hB2;go_wp2_with fail;go_roundw
   case rel=>exact⟨k+1,_,by omega,by go_num,HA3.out,HS,HB3.out,HB.out⟩
   case measure=>simp[intOf];omega
  ·obtain rfl:k=77:=by omega
   have hT:=HT.out;have h1:=hT.one;have hsz:=hT.size;have hi:(Tryz.prog.info? 181).map (·.size)=some A.size:=by rw[hsz];kernel_rfl
   clear hB hA hb1 hz hC hcv HT hB2;have HF:=Lib.hid hA2;have HTT:=Lib.hid hT;have HBB:=Lib.hid hb2;clear hA2 hT hb2;go_wp2_with(first
    |(refine wpList_load_row (o:=⟨some _, .load 181 (.tmp 0),_,_,_,_⟩) rfl 181 (.tmp 0) rfl w.heap.size rfl 181 A (0,0) _ HF.out Tryz.underlying181 rfl hi ?_)
    |(refine wpList_store_same (o:=⟨none, .store 181 (.tmp 0) (.tmp 13),_,_,_,_⟩) rfl 181 (.tmp 0) _ rfl w.heap.size A rfl rfl 181 HF.out hi h1 ?_))
   exact bodyPost_ret (results_row1 (fn:=Tryz.f174) (p:=0) (ty:=181) rfl _ _ w.heap.size 181 A (0,0) _ rfl HF.out Tryz.underlying181 rfl hi) rfl ⟨A,rfl,HTT.out,HBB.out⟩
set_option maxRecDepth 100000 in
theorem token_yes (s:List UInt8) (w:World) (h0:s≠[]) (hall:∀c∈s,c∈tokBs) (hs:s.length≤140737488351232):
 Calls Tryz.prog 127 #[.string ⟨s.toArray⟩] w fun e w'=>e= .returned (.bool true)∧Below w.heap.size w w':=by
 have hq:(s==[])=false:=beq_eq_false_iff_ne.2 h0
 clear h0
 go_enter Tryz.func127,Tryz.ntmps127
 go_wp2_with fail
 go_at_call 174
 refine(signs_tok _).mono ?_
 rintro e w1 ⟨A,rfl,hT,hb1⟩
 have hi:(Tryz.prog.info? 181).map (·.size)=some A.size:=by rw[hT.size];kernel_rfl
 have hz:(Tryz.zeroCells181).size=A.size:=by rw[hT.size];kernel_rfl
 have h1:=hT.one
 obtain⟨W2,hW2⟩:∃W,(w1.alloc (.cells Tryz.zeroCells181 181)).setRow w1.heap.size A=W:=⟨_,rfl⟩
 have hA:W2.heap[w1.heap.size]?=some (.cells A 181 (0,0)):=by
  rw[←hW2];exact setRow_heap _ _ _ _ _ _ (heap_alloc_new w1 _)
 have hb2:Below w.heap.size w W2:=by
  have hb:=hb1.alloc hb1.size (.cells Tryz.zeroCells181 181);rw[←hW2];exact⟨hb.os,hb.tape,hb.output,by rw[setRow_size];exact hb.size,fun k hk=>(setRow_other _ _ _ _ (by have:=hb1.size;omega)).trans (hb.block k hk)⟩
 obtain⟨cap,W3,hcv,hb3,hlt3,hcap,hcells⟩:=conv_bytes W2 s hs
 have hin:∀c∈s,W3.cell? ⟨w1.heap.size,c.toNat,none⟩=some (.bool true):=fun c hc=>by
  obtain⟨j,hj,hg⟩:=List.mem_iff_getElem.1 (hall c hc);rw[Lib.cell_of_heap ((hb3.block _ (Array.getElem?_eq_some_iff.1 hA).1).trans hA)];exact hT.has j hj c (by rw[List.getElem?_eq_getElem hj,hg])
 have HB:=Lib.hid (hb2.trans (hb3.mono hb2.size))
 have HT:=Lib.hid hT
 clear hall hT hb1 hA hb2 hb3
 go_wp2_with(first
  |(refine wpList_store_row (o:=⟨none, .store 181 (.tmp 3) (.tmp 6),_,_,_,_⟩) rfl 181 (.tmp 3) _ rfl w1.heap.size A rfl rfl 181 Tryz.zeroCells181 (heap_alloc_new w1 _) hi hz h1 ?_;rw[hW2]))
 go_loop [5,10] (fun c i=>∃k:Nat,k≤s.length∧i= .int .i64 k) (fun _ i=>s.length-(intOf i).toNat)
 case atStart=>exact⟨0,Nat.zero_le _,rfl⟩
 case round=>
  obtain⟨k,hk,rfl⟩:=hrel;by_cases hlt:k<s.length
  ·have hki:(k:Int)<(s.length:Int):=by omega
   have hc:=hcells k hlt;have hn:=hin s[k] (List.getElem_mem hlt);generalize s[k]=c at hc hn;have h256:=c.toNat_lt;clear hcells hin hcv hW2;go_wp2_with fail;go_round
   case rel=>exact⟨k+1,by omega,by go_num⟩
   case measure=>simp[intOf];omega
  ·obtain rfl:k=s.length:=by omega
   go_wp2_with fail;go_ret;exact⟨by simp[hq],HB.out⟩
def askC (k:Int) (f t:UrlL) (m:List UInt8):Array Value:= #[.int .u8 k, .string ⟨f.scheme.toArray⟩, .string ⟨f.user.toArray⟩, .string ⟨f.pass.toArray⟩, .string ⟨f.host.toArray⟩, .int .i64 f.port, .string ⟨f.path.toArray⟩, .string ⟨f.query.toArray⟩, .bool f.hasQ, .string ⟨f.mark.toArray⟩, .bool f.hasM, .string ⟨t.scheme.toArray⟩, .string ⟨t.user.toArray⟩, .string ⟨t.pass.toArray⟩, .string ⟨t.host.toArray⟩, .int .i64 t.port, .string ⟨t.path.toArray⟩, .string ⟨t.query.toArray⟩, .bool t.hasQ, .string ⟨t.mark.toArray⟩, .bool t.hasM, .string ⟨m.toArray⟩]
def askV (k:Int) (f t:UrlL) (m:List UInt8):Value:= .agg (askC k f t m)
def goesL (s:Int) (near:Bool) (k:Int) (m:List UInt8):Bool:=
 if s=3 then true else if s=0∨s=2 then near||(k !=3&&(m==[71,69,84]||m==[72,69,65,68]))else near&&decide (s≤3)
def mayL3 (s:Int) (near:Bool) (k:Int):Bool:=decide (s≤3)&&(s==3||(near||k !=3))
set_option maxRecDepth 100000 in
theorem goes_any (s k:Int) (near:Bool) (f t:UrlL) (m:List UInt8) (w:World) (h0:0≤s):
 Calls Tryz.prog 44 #[.int .u8 s, .bool near,askV k f t m] w fun e w'=>e= .returned (.bool (goesL s near k m))∧Below w.heap.size w w':=by
 unfold goesL askV askC
 cases hk:(k !=3)
 all_goals
  cases hg:(m==[71,69,84])
  all_goals
   cases hh:(m==[72,69,65,68])
   all_goals
    cases near
    all_goals
     by_cases h3:s=3
     ·subst h3
      clear h0;go_enter Tryz.func44,Tryz.ntmps44;go_wp2_with fail;go_ret;exact⟨by simp[*],below_alloc w _⟩
     by_cases h00:s=0
     ·subst h00
      clear h0 h3;go_enter Tryz.func44,Tryz.ntmps44;go_wp2_with fail;go_ret;exact⟨by simp[*],below_alloc w _⟩
     by_cases h2:s=2
     ·subst h2
      clear h0 h3 h00;go_enter Tryz.func44,Tryz.ntmps44;go_wp2_with fail;go_ret;exact⟨by simp[*],below_alloc w _⟩
     have k3:(s==3)=false:=beq_eq_false_iff_ne.2 h3;have k0:(s==0)=false:=beq_eq_false_iff_ne.2 h00;have k2:(s==2)=false:=beq_eq_false_iff_ne.2 h2;by_cases h1:s=1
     ·subst h1
      clear h0 h3 h00 h2;go_enter Tryz.func44,Tryz.ntmps44;go_wp2_with fail;go_ret;exact⟨by simp[*],below_alloc w _⟩
     have k1:(s==1)=false:=beq_eq_false_iff_ne.2 h1;have hs:¬s≤3:=by omega
     rw[if_neg h3,if_neg (by omega),decide_eq_false hs];clear h0 h3 h00 h2 h1;go_enter Tryz.func44,Tryz.ntmps44;go_wp2_with fail;go_ret;exact⟨by simp[*],below_alloc w _⟩
set_option maxRecDepth 100000 in
theorem rgoes_any (s k:Int) (near:Bool) (f t:UrlL) (m:List UInt8) (w:World) (h0:0≤s):
 Calls Tryz.prog 45 #[.int .u8 s, .bool near,askV k f t m] w fun e w'=>e= .returned (.bool (goesL s near k m))∧Below w.heap.size w w':=by
 unfold goesL askV askC
 cases hk:(k !=3)
 all_goals
  cases hg:(m==[71,69,84])
  all_goals
   cases hh:(m==[72,69,65,68])
   all_goals
    cases near
    all_goals
     by_cases h3:s=3
     ·subst h3
      clear h0;go_enter Tryz.func45,Tryz.ntmps45;go_wp2_with fail;go_ret;exact⟨by simp[*],below_alloc w _⟩
     by_cases h00:s=0
     ·subst h00
      clear h0 h3;go_enter Tryz.func45,Tryz.ntmps45;go_wp2_with fail;go_ret;exact⟨by simp[*],below_alloc w _⟩
     by_cases h2:s=2
     ·subst h2
      clear h0 h3 h00;go_enter Tryz.func45,Tryz.ntmps45;go_wp2_with fail;go_ret;exact⟨by simp[*],below_alloc w _⟩
     have k3:(s==3)=false:=beq_eq_false_iff_ne.2 h3;have k0:(s==0)=false:=beq_eq_false_iff_ne.2 h00;have k2:(s==2)=false:=beq_eq_false_iff_ne.2 h2;by_cases h1:s=1
     ·subst h1
      clear h0 h3 h00 h2;go_enter Tryz.func45,Tryz.ntmps45;go_wp2_with fail;go_ret;exact⟨by simp[*],below_alloc w _⟩
     have k1:(s==1)=false:=beq_eq_false_iff_ne.2 h1;have hs:¬s≤3:=by omega
     rw[if_neg h3,if_neg (by omega),decide_eq_false hs];clear h0 h3 h00 h2 h1;go_enter Tryz.func45,Tryz.ntmps45;go_wp2_with fail;go_ret;exact⟨by simp[*],below_alloc w _⟩
set_option maxRecDepth 100000 in
theorem may_any3 (s k:Int) (near:Bool) (f t:UrlL) (m:List UInt8) (w:World):
 Calls Tryz.prog 46 #[.int .u8 s, .bool near,askV k f t m] w fun e w'=>e= .returned (.bool (mayL3 s near k))∧Below w.heap.size w w':=by
 unfold mayL3 askV askC
 cases hk:(k !=3)
 all_goals
  cases near
  all_goals
   by_cases h3:s=3
   ·subst h3
    go_enter Tryz.func46,Tryz.ntmps46;go_wp2_with fail;go_ret;exact⟨by simp[*],below_alloc w _⟩
   have k3:(s==3)=false:=beq_eq_false_iff_ne.2 h3;by_cases hs:s≤3
   ·rw[decide_eq_true hs,k3]
    have hs2:¬(3:Int)<s:=by omega
    clear h3;go_enter Tryz.func46,Tryz.ntmps46;go_wp2_with fail;go_ret;exact⟨by simp[*],below_alloc w _⟩
   ·rw[decide_eq_false hs]
    have hs2:(3:Int)<s:=by omega
    clear h3;go_enter Tryz.func46,Tryz.ntmps46;go_wp2_with fail;go_ret;exact⟨by simp[*],below_alloc w _⟩
set_option maxRecDepth 100000 in
theorem rmay_any3 (s k:Int) (near:Bool) (f t:UrlL) (m:List UInt8) (w:World):
 Calls Tryz.prog 47 #[.int .u8 s, .bool near,askV k f t m] w fun e w'=>e= .returned (.bool (mayL3 s near k))∧Below w.heap.size w w':=by
 unfold mayL3 askV askC
 cases hk:(k !=3)
 all_goals
  cases near
  all_goals
   by_cases h3:s=3
   ·subst h3
    go_enter Tryz.func47,Tryz.ntmps47;go_wp2_with fail;go_ret;exact⟨by simp[*],below_alloc w _⟩
   have k3:(s==3)=false:=beq_eq_false_iff_ne.2 h3;by_cases hs:s≤3
   ·rw[decide_eq_true hs,k3]
    have hs2:¬(3:Int)<s:=by omega
    clear h3;go_enter Tryz.func47,Tryz.ntmps47;go_wp2_with fail;go_ret;exact⟨by simp[*],below_alloc w _⟩
   ·rw[decide_eq_false hs]
    have hs2:(3:Int)<s:=by omega
    clear h3;go_enter Tryz.func47,Tryz.ntmps47;go_wp2_with fail;go_ret;exact⟨by simp[*],below_alloc w _⟩
def postM (m:List UInt8):List UInt8:=if m==[80,79,83,84]then [71,69,84]else m
def getM (m:List UInt8):List UInt8:=if m==[72,69,65,68]then m else [71,69,84]
def nextM (m:List UInt8) (st:Int):List UInt8×Bool:=
 if st=301∨st=302 then (postM m,true)else if st=303 then (getM m,true)else if st=307∨st=308 then (m,true)else ([],false)
theorem next1 (m:List UInt8) (w:World):Calls Tryz.prog 77 #[.string ⟨m.toArray⟩] w fun e w'=>e= .returned (.string ⟨m.toArray⟩)∧w=w':=by
 go_enter Tryz.func77,Tryz.ntmps77;go_wp2_with fail;go_ret;exact⟨rfl,rfl⟩
theorem next2 (m:List UInt8) (w:World):Calls Tryz.prog 78 #[.string ⟨m.toArray⟩] w fun e w'=>e= .returned (.string ⟨(postM m).toArray⟩)∧w=w':=by
 unfold postM
 cases h:(m==[80,79,83,84])
 all_goals
  go_enter Tryz.func78,Tryz.ntmps78;go_wp2_with fail;go_ret;exact⟨rfl,rfl⟩
theorem next3 (m:List UInt8) (w:World):Calls Tryz.prog 79 #[.string ⟨m.toArray⟩] w fun e w'=>e= .returned (.string ⟨(getM m).toArray⟩)∧w=w':=by
 unfold getM
 cases h:(m==[72,69,65,68])
 all_goals
  go_enter Tryz.func79,Tryz.ntmps79;go_wp2_with fail;go_ret;exact⟨rfl,rfl⟩
set_option maxRecDepth 100000 in
theorem cnext_any (m:List UInt8) (st:Int) (w:World) (hlo: -9223372036854775808≤st) (hhi:st≤9223372036854775807):
 Calls Tryz.prog 42 #[.string ⟨m.toArray⟩, .int .i64 st] w fun e w'=>e= .returned (.tuple #[.string ⟨(nextM m st).1.toArray⟩, .bool (nextM m st).2])∧Below w.heap.size w w':=by
 have hb:∀o,Below w.heap.size w (w.alloc o):=fun o=>below_alloc w o
 by_cases h1:st<300
 ·have e:nextM m st=([],false):=by unfold nextM;rw[if_neg (by omega),if_neg (by omega),if_neg (by omega)]
  rw[e];clear e;go_enter Tryz.func42,Tryz.ntmps42;go_wp2_with fail;go_ret2;exact⟨rfl,hb _⟩
 ·by_cases h2:308<st
  ·have e:nextM m st=([],false):=by unfold nextM;rw[if_neg (by omega),if_neg (by omega),if_neg (by omega)]
   rw[e];clear e;go_enter Tryz.func42,Tryz.ntmps42;go_wp2_with fail;go_ret2;exact⟨rfl,hb _⟩
  ·have h9:st=300∨st=301∨st=302∨st=303∨st=304∨st=305∨st=306∨st=307∨st=308:=by omega
   clear h1 h2 hlo hhi;have q1:∀W,(binOp .eql 42 Value.nilFunc Value.nilFunc).run Tryz.prog W= .ok (.bool true) W:=fun W=>by kernel_rfl
   have q2:∀(f:FuncId) W,(binOp .eql 42 (.func (.func f) #[] #[]) Value.nilFunc).run Tryz.prog W= .ok (.bool false) W:=fun f W=>by kernel_rfl
   have c1:=next1 m;have c2:=next2 m;have c3:=next3 m;rcases h9 with rfl|rfl|rfl|rfl|rfl|rfl|rfl|rfl|rfl
   all_goals
    go_enter Tryz.func42,Tryz.ntmps42;go_wp2_with(first|(go_at_call 77;refine(c1 _).mono ?_;rintro e w2 ⟨rfl,rfl⟩)|(go_at_call 78;refine(c2 _).mono ?_;rintro e w2 ⟨rfl,rfl⟩)|(go_at_call 79;refine(c3 _).mono ?_;rintro e w2 ⟨rfl,rfl⟩));go_ret2;exact⟨rfl,hb _⟩
theorem rcnext_any (m:List UInt8) (st:Int) (w:World):
 Calls Tryz.prog 43 #[.string ⟨m.toArray⟩, .int .i64 st] w fun e w'=>e= .returned (.tuple #[.string ⟨(nextM m st).1.toArray⟩, .bool (nextM m st).2])∧w=w':=by
 unfold nextM postM getM
 by_cases h1:st=301
 ·subst h1
  cases h:(m==[80,79,83,84])
  all_goals
   go_enter Tryz.func43,Tryz.ntmps43;go_wp2_with fail;go_ret2;exact⟨rfl,rfl⟩
 by_cases h2:st=302
 ·subst h2
  cases h:(m==[80,79,83,84])
  all_goals
   go_enter Tryz.func43,Tryz.ntmps43;go_wp2_with fail;go_ret2;exact⟨rfl,rfl⟩
 by_cases h3:st=303
 ·subst h3
  cases h:(m==[72,69,65,68])
  all_goals
   go_enter Tryz.func43,Tryz.ntmps43;go_wp2_with fail;go_ret2;exact⟨rfl,rfl⟩
 have k1:(st==301)=false:=beq_eq_false_iff_ne.2 h1
 have k2:(st==302)=false:=beq_eq_false_iff_ne.2 h2
 have k3:(st==303)=false:=beq_eq_false_iff_ne.2 h3
 rw[if_neg (by omega),if_neg h3]
 by_cases h4:st=307
 ·subst h4
  go_enter Tryz.func43,Tryz.ntmps43;go_wp2_with fail;go_ret2;exact⟨rfl,rfl⟩
 by_cases h5:st=308
 ·subst h5
  go_enter Tryz.func43,Tryz.ntmps43;go_wp2_with fail;go_ret2;exact⟨rfl,rfl⟩
 have k4:(st==307)=false:=beq_eq_false_iff_ne.2 h4
 have k5:(st==308)=false:=beq_eq_false_iff_ne.2 h5
 rw[if_neg (by omega)]
 clear h1 h2 h3 h4 h5
 go_enter Tryz.func43,Tryz.ntmps43
 go_wp2_with fail
 go_ret2
 exact⟨rfl,rfl⟩
theorem wpList_row_at {P:Program} {ops:Array Oper} {rest:List Oper} {o:Oper} {a:Act} {w:World} {Q:Exit→Act→World→Prop} (hw:Region.wanted o (yielded ops a.tmps)=true) (ty:TypeId) (x:Operand) (ho:o.op= .load ty x)
 (g:Nat) (hx:a.eval x= .pointer (some ⟨g,0,none⟩)) (t:TypeId) (cs:Array Value) (fr:Nat×Nat) (d:TypeDesc) (hg:w.heap[g]?=some (.cells cs t fr))
 (hu:P.underlying ty=some d) (hd:(match d with| .struct _| .array _ _=>true|_=>false)=true) (hi:(P.info? ty).map (·.size)=some cs.size)
 (h:wpList P ops Q rest (a.put o.dst (.agg cs)) w):wpList P ops Q (o::rest) a w:=
 wpList_step fun K hK=>by
  rw[if_pos hw];exact wp_load_row ty x ho g hx t cs fr d hg hu hd hi (hK _ _ h)
def goingC (s:Int) (near:Bool) (k:Int) (f t:UrlL) (m:List UInt8) (st:Int):Array Value:= #[.int .u8 s, .bool near, .int .u8 k, .string ⟨f.scheme.toArray⟩, .string ⟨f.user.toArray⟩, .string ⟨f.pass.toArray⟩, .string ⟨f.host.toArray⟩, .int .i64 f.port, .string ⟨f.path.toArray⟩, .string ⟨f.query.toArray⟩, .bool f.hasQ, .string ⟨f.mark.toArray⟩, .bool f.hasM, .string ⟨t.scheme.toArray⟩, .string ⟨t.user.toArray⟩, .string ⟨t.pass.toArray⟩, .string ⟨t.host.toArray⟩, .int .i64 t.port, .string ⟨t.path.toArray⟩, .string ⟨t.query.toArray⟩, .bool t.hasQ, .string ⟨t.mark.toArray⟩, .bool t.hasM, .string ⟨m.toArray⟩, .int .i64 st]
def goingV (s:Int) (near:Bool) (k:Int) (f t:UrlL) (m:List UInt8) (st:Int):Value:= .agg (goingC s near k f t m st)
theorem going_mid (s:Int) (near:Bool) (k:Int) (f t:UrlL) (m:List UInt8) (st:Int):∀j v,(askC k f t m).toList[j]?=some v→(goingC s near k f t m st)[2+j]?=some v:=fun j v hj=>by
 have hlt:=(List.getElem?_eq_some_iff.1 hj).1;have:j<22:=hlt;rw[←hj]
 match j,this with
 |0,_=>rfl
 |1,_=>rfl
 |2,_=>rfl
 |3,_=>rfl
 |4,_=>rfl
 |5,_=>rfl
 |6,_=>rfl
 |7,_=>rfl
 |8,_=>rfl
 |9,_=>rfl
 |10,_=>rfl
 |11,_=>rfl
 |12,_=>rfl
 |13,_=>rfl
 |14,_=>rfl
 |15,_=>rfl
 |16,_=>rfl
 |17,_=>rfl
 |18,_=>rfl
 |19,_=>rfl
 |20,_=>rfl
 |21,_=>rfl
theorem ask_one (k:Int) (f t:UrlL) (m:List UInt8):∀u∈(askC k f t m).toList,u.oneCell'=true:=fun u hu=>by
 simp only[askC,List.mem_cons,List.not_mem_nil,or_false]at hu;rcases hu with rfl|rfl|rfl|rfl|rfl|rfl|rfl|rfl|rfl|rfl|rfl|rfl|rfl|rfl|rfl|rfl|rfl|rfl|rfl|rfl|rfl|rfl<;>rfl
theorem wpList_mid_at {P:Program} {ops:Array Oper} {rest:List Oper} {o:Oper} {a:Act} {w:World} {Q:Exit→Act→World→Prop} (hw:Region.wanted o (yielded ops a.tmps)=true) (ty:TypeId) (x:Operand) (ho:o.op= .load ty x)
 (b off:Nat) (hx:a.eval x= .pointer (some ⟨b,off,none⟩)) (cs:List Value) (d:TypeDesc) (hc:w.rangeAt b off cs)
 (hu:P.underlying ty=some d) (hd:d.isRow=true) (hi:(P.info? ty).map (·.size)=some cs.length)
 (h:wpList P ops Q rest (a.put o.dst (.agg cs.toArray)) w):wpList P ops Q (o::rest) a w:=
 wpList_step fun K hK=>by
  rw[if_pos hw];exact wp_load_mid ty x ho b off hx cs d hc hu hd hi (hK _ _ h)
open Go.RowKit Go.WideShapes Go.ChangeShapes Go.Deep
set_option maxRecDepth 20000 in
theorem array25 {α:Type} {cs:Array α} (h:cs.size=25):∃c0 c1 c2 c3 c4 c5 c6 c7 c8 c9 c10 c11 c12 c13 c14 c15 c16 c17 c18 c19 c20 c21 c22 c23 c24,cs= #[c0,c1,c2,c3,c4,c5,c6,c7,c8,c9,c10,c11,c12,c13,c14,c15,c16,c17,c18,c19,c20,c21,c22,c23,c24]:=by
 obtain⟨l⟩:=cs
 match l,h with
 |[c0,c1,c2,c3,c4,c5,c6,c7,c8,c9,c10,c11,c12,c13,c14,c15,c16,c17,c18,c19,c20,c21,c22,c23,c24],_=>exact⟨c0,c1,c2,c3,c4,c5,c6,c7,c8,c9,c10,c11,c12,c13,c14,c15,c16,c17,c18,c19,c20,c21,c22,c23,c24,rfl⟩
section
variable {H:Type} {enc:TypeId×Value→H}
theorem field_at {P:Program} {W:World} {fs:Array Field} (hone:oneCellFields P fs=true) {cs:List Value} {xs:List (DataW H×List MemPlace)} {n:Nat}
 (hfi:∀(i:Nat) (f:Field),fs[i]?=some f→DataW.trod enc P W 0 (fun _=>true) true n f.type ((cs.drop f.offset).take (P.cellsOf f.type))=xs[i]?):
 ∀(i:Nat) (f:Field),fs[i]?=some f→∀c,cs[i]?=some c→DataW.trod enc P W 0 (fun _=>true) true n f.type [c]=xs[i]?:=fun i f hi c hc=>by
 obtain⟨o,k⟩:=hone_of hone i f hi
 rw[←hfi i f hi,o,k]
 congr 1
 have hlt:=(List.getElem?_eq_some_iff.1 hc).1
 rw[List.drop_eq_getElem_cons hlt,(List.getElem?_eq_some_iff.1 hc).2]
 rfl
theorem trod_u {W:World} {fuel:Nat} {c0 c1 c2 c3 c4 c5 c6 c7 c8 c9:Value} {x:DataW H×List MemPlace} (h:DataW.trod enc Tryz.prog W 0 (fun _=>true) true fuel 23 [c0,c1,c2,c3,c4,c5,c6,c7,c8,c9]=some x):∃u:UrlL,[c0,c1,c2,c3,c4,c5,c6,c7,c8,c9]=[.string ⟨u.scheme.toArray⟩, .string ⟨u.user.toArray⟩, .string ⟨u.pass.toArray⟩, .string ⟨u.host.toArray⟩, .int .i64 u.port, .string ⟨u.path.toArray⟩, .string ⟨u.query.toArray⟩, .bool u.hasQ, .string ⟨u.mark.toArray⟩, .bool u.hasM]:=by
 obtain⟨xs,n,_,hx,hl,hlen,hfi⟩:=DataW.trod_struct Tryz.underlying23 h;have hg:=field_at (by kernel_rfl) hfi
 match xs,hlen with
 |[y0,y1,y2,y3,y4,y5,y6,y7,y8,y9],_=>
  obtain⟨s0,e0,_,_⟩:=DataW.trod_string Tryz.underlying9 (hg 0 _ rfl c0 rfl);obtain⟨s1,e1,_,_⟩:=DataW.trod_string Tryz.underlying9 (hg 1 _ rfl c1 rfl);obtain⟨s2,e2,_,_⟩:=DataW.trod_string Tryz.underlying9 (hg 2 _ rfl c2 rfl);obtain⟨s3,e3,_,_⟩:=DataW.trod_string Tryz.underlying9 (hg 3 _ rfl c3 rfl);obtain⟨n4,e4,_,_⟩:=DataW.trod_int Tryz.underlying3 (hg 4 _ rfl c4 rfl);obtain⟨s5,e5,_,_⟩:=DataW.trod_string Tryz.underlying9 (hg 5 _ rfl c5 rfl);obtain⟨s6,e6,_,_⟩:=DataW.trod_string Tryz.underlying9 (hg 6 _ rfl c6 rfl);obtain⟨b7,e7,_⟩:=DataW.trod_bool Tryz.underlying4 (hg 7 _ rfl c7 rfl);obtain⟨s8,e8,_,_⟩:=DataW.trod_string Tryz.underlying9 (hg 8 _ rfl c8 rfl);obtain⟨b9,e9,_⟩:=DataW.trod_bool Tryz.underlying4 (hg 9 _ rfl c9 rfl);injection e0 with e0;subst e0;injection e1 with e1;subst e1;injection e2 with e2;subst e2;injection e3 with e3;subst e3;injection e4 with e4;subst e4;injection e5 with e5;subst e5;injection e6 with e6;subst e6;injection e7 with e7;subst e7;injection e8 with e8;subst e8;injection e9 with e9;subst e9;exact⟨⟨s0.data.toList,s1.data.toList,s2.data.toList,s3.data.toList,n4,s5.data.toList,s6.data.toList,b7,s8.data.toList,b9⟩,by simp only[Lib.mk_data]⟩
set_option maxRecDepth 20000 in
theorem trod_ask {W:World} {fuel:Nat} {c0 c1 c2 c3 c4 c5 c6 c7 c8 c9 c10 c11 c12 c13 c14 c15 c16 c17 c18 c19 c20 c21:Value} {x:DataW H×List MemPlace} (h:DataW.trod enc Tryz.prog W 0 (fun _=>true) true fuel 53 [c0,c1,c2,c3,c4,c5,c6,c7,c8,c9,c10,c11,c12,c13,c14,c15,c16,c17,c18,c19,c20,c21]=some x):∃(k:Int) (f t:UrlL) (m:List UInt8),[c0,c1,c2,c3,c4,c5,c6,c7,c8,c9,c10,c11,c12,c13,c14,c15,c16,c17,c18,c19,c20,c21]=(askC k f t m).toList:=by
 obtain⟨xs,n,_,hx,hl,hlen,hfi⟩:=DataW.trod_struct Tryz.underlying53 h;have l1:Tryz.prog.cellsOf 51=1:=by kernel_rfl
 have l10:Tryz.prog.cellsOf 23=10:=by kernel_rfl
 have ls:Tryz.prog.cellsOf 9=1:=by kernel_rfl
 match xs,hlen with
 |[y0,y1,y2,y3],_=>
  have q0:DataW.trod enc Tryz.prog W 0 (fun _=>true) true n 51 ((List.drop 0 [c0,c1,c2,c3,c4,c5,c6,c7,c8,c9,c10,c11,c12,c13,c14,c15,c16,c17,c18,c19,c20,c21]).take (Tryz.prog.cellsOf 51))=some y0:=hfi 0 _ rfl;have q1:DataW.trod enc Tryz.prog W 0 (fun _=>true) true n 23 ((List.drop 1 [c0,c1,c2,c3,c4,c5,c6,c7,c8,c9,c10,c11,c12,c13,c14,c15,c16,c17,c18,c19,c20,c21]).take (Tryz.prog.cellsOf 23))=some y1:=hfi 1 _ rfl;have q2:DataW.trod enc Tryz.prog W 0 (fun _=>true) true n 23 ((List.drop 11 [c0,c1,c2,c3,c4,c5,c6,c7,c8,c9,c10,c11,c12,c13,c14,c15,c16,c17,c18,c19,c20,c21]).take (Tryz.prog.cellsOf 23))=some y2:=hfi 2 _ rfl;have q3:DataW.trod enc Tryz.prog W 0 (fun _=>true) true n 9 ((List.drop 21 [c0,c1,c2,c3,c4,c5,c6,c7,c8,c9,c10,c11,c12,c13,c14,c15,c16,c17,c18,c19,c20,c21]).take (Tryz.prog.cellsOf 9))=some y3:=hfi 3 _ rfl;rw[l1]at q0;rw[l10]at q1 q2;rw[ls]at q3;obtain⟨k,e0,_,_⟩:=DataW.trod_int Tryz.underlying51 (show DataW.trod enc Tryz.prog W 0 (fun _=>true) true n 51 [c0]=some y0 from q0);obtain⟨f,e1⟩:=trod_u (show DataW.trod enc Tryz.prog W 0 (fun _=>true) true n 23 [c1,c2,c3,c4,c5,c6,c7,c8,c9,c10]=some y1 from q1);obtain⟨t,e2⟩:=trod_u (show DataW.trod enc Tryz.prog W 0 (fun _=>true) true n 23 [c11,c12,c13,c14,c15,c16,c17,c18,c19,c20]=some y2 from q2);obtain⟨s,e3,_,_⟩:=DataW.trod_string Tryz.underlying9 (show DataW.trod enc Tryz.prog W 0 (fun _=>true) true n 9 [c21]=some y3 from q3);refine⟨k,f,t,s.data.toList, ?_⟩;have e:[c0,c1,c2,c3,c4,c5,c6,c7,c8,c9,c10,c11,c12,c13,c14,c15,c16,c17,c18,c19,c20,c21]=[c0]++([c1,c2,c3,c4,c5,c6,c7,c8,c9,c10]++([c11,c12,c13,c14,c15,c16,c17,c18,c19,c20]++[c21])):=rfl;rw[e,e0,e1,e2,e3];simp only[askC,Lib.mk_data];rfl
set_option maxRecDepth 20000 in
theorem open_going {W:World} {v:Value} {d:DataW H} {p:List MemPlace} {r:Reach} {b0:Nat} (hv:Value.okWide Tryz.prog W r b0 55 v) (h:DataW.Trod enc Tryz.prog W 0 (fun _=>true) true 55 v d p):
 ∃(s:Int) (near:Bool) (k:Int) (f t:UrlL) (m:List UInt8) (st:Int),v=goingV s near k f t m st∧(0≤s∧s≤255)∧ -9223372036854775808≤st∧st≤9223372036854775807:=by
 obtain⟨cs,rfl,hsz⟩:=okWide_struct Tryz.underlying55 hv
 obtain⟨c0,c1,c2,c3,c4,c5,c6,c7,c8,c9,c10,c11,c12,c13,c14,c15,c16,c17,c18,c19,c20,c21,c22,c23,c24,rfl⟩:=array25 (hsz.trans (by kernel_rfl))
 obtain⟨fuel,hf⟩:=h
 obtain⟨xs,n,_,hx,hl,hlen,hfi⟩:=DataW.trod_struct Tryz.underlying55 hf
 have l8:Tryz.prog.cellsOf 5=1:=by kernel_rfl
 have lb:Tryz.prog.cellsOf 4=1:=by kernel_rfl
 have l22:Tryz.prog.cellsOf 53=22:=by kernel_rfl
 have li:Tryz.prog.cellsOf 3=1:=by kernel_rfl
 match xs,hlen with
 |[y0,y1,y2,y3],_=>
  have q0:DataW.trod enc Tryz.prog W 0 (fun _=>true) true n 5 ((List.drop 0 [c0,c1,c2,c3,c4,c5,c6,c7,c8,c9,c10,c11,c12,c13,c14,c15,c16,c17,c18,c19,c20,c21,c22,c23,c24]).take (Tryz.prog.cellsOf 5))=some y0:=hfi 0 _ rfl;have q1:DataW.trod enc Tryz.prog W 0 (fun _=>true) true n 4 ((List.drop 1 [c0,c1,c2,c3,c4,c5,c6,c7,c8,c9,c10,c11,c12,c13,c14,c15,c16,c17,c18,c19,c20,c21,c22,c23,c24]).take (Tryz.prog.cellsOf 4))=some y1:=hfi 1 _ rfl;have q2:DataW.trod enc Tryz.prog W 0 (fun _=>true) true n 53 ((List.drop 2 [c0,c1,c2,c3,c4,c5,c6,c7,c8,c9,c10,c11,c12,c13,c14,c15,c16,c17,c18,c19,c20,c21,c22,c23,c24]).take (Tryz.prog.cellsOf 53))=some y2:=hfi 2 _ rfl;have q3:DataW.trod enc Tryz.prog W 0 (fun _=>true) true n 3 ((List.drop 24 [c0,c1,c2,c3,c4,c5,c6,c7,c8,c9,c10,c11,c12,c13,c14,c15,c16,c17,c18,c19,c20,c21,c22,c23,c24]).take (Tryz.prog.cellsOf 3))=some y3:=hfi 3 _ rfl;rw[l8]at q0;rw[lb]at q1;rw[l22]at q2;rw[li]at q3;obtain⟨s,e0,_,w0⟩:=DataW.trod_int Tryz.underlying5 (show DataW.trod enc Tryz.prog W 0 (fun _=>true) true n 5 [c0]=some y0 from q0);obtain⟨near,e1,_⟩:=DataW.trod_bool Tryz.underlying4 (show DataW.trod enc Tryz.prog W 0 (fun _=>true) true n 4 [c1]=some y1 from q1);obtain⟨k,f,t,m,e2⟩:=trod_ask (show DataW.trod enc Tryz.prog W 0 (fun _=>true) true n 53 [c2,c3,c4,c5,c6,c7,c8,c9,c10,c11,c12,c13,c14,c15,c16,c17,c18,c19,c20,c21,c22,c23]=some y2 from q2);obtain⟨st,e3,_,w3⟩:=DataW.trod_int Tryz.underlying3 (show DataW.trod enc Tryz.prog W 0 (fun _=>true) true n 3 [c24]=some y3 from q3);have e:[c0,c1,c2,c3,c4,c5,c6,c7,c8,c9,c10,c11,c12,c13,c14,c15,c16,c17,c18,c19,c20,c21,c22,c23,c24]=[c0]++([c1]++([c2,c3,c4,c5,c6,c7,c8,c9,c10,c11,c12,c13,c14,c15,c16,c17,c18,c19,c20,c21,c22,c23]++[c24])):=rfl;have hb:0≤s∧s≤255:=by
   simp[Lit.wf,IntKind.min,IntKind.max,IntKind.signed,IntKind.bits]at w0;omega
  have ht: -9223372036854775808≤st∧st≤9223372036854775807:=by
   simp[Lit.wf,IntKind.min,IntKind.max,IntKind.signed,IntKind.bits]at w3;omega
  refine⟨s,near,k,f,t,m,st, ?_,hb,ht⟩;rw[show(#[c0,c1,c2,c3,c4,c5,c6,c7,c8,c9,c10,c11,c12,c13,c14,c15,c16,c17,c18,c19,c20,c21,c22,c23,c24]:Array Value)=[c0,c1,c2,c3,c4,c5,c6,c7,c8,c9,c10,c11,c12,c13,c14,c15,c16,c17,c18,c19,c20,c21,c22,c23,c24].toArray from rfl,e,e0,e1,e2,e3];rfl
end
end Go.Proofs.YtlcnknlmdaochaaGreatDoor
