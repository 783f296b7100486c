/- ascii.signs, and ascii.Token of a text of signs. -/
import Derived.Test.YtlhcfmcbpljbiaaGreatDoorGCnt
import Derived.Lib.SlBytesConst
import Derived.Test.YtlhcfmcbpljbiaaGreatDoorGUrl0
import Derived.Laws.EntriesVeiled
import Derived.Deep.MidRow
set_option linter.unusedVariables false
set_option linter.unusedSimpArgs false
set_option maxHeartbeats 16000000
namespace Go.Proofs.YtlhcfmcbpljbiaaGreatDoor
open Go.RowKit
def tokBs:List UInt8:=[33,35,36,37,38,39,42,43,45,46,94,95,96,124,126,48,49,50,51,52,53,54,55,56,57,65,66,67,68,69,70,71,72,73,74,75,76,77,78,79,80,81,82,83,84,85,86,87,88,89,90,97,98,99,100,101,102,103,104,105,106,107,108,109,110,111,112,113,114,115,116,117,118,119,120,121,122]
structure TokRow (A:Array Value) (k:Nat):Prop where
 size:A.size=256
 bits:∀i,i<256→∃b,A[i]?=some (.bool b)
 has:∀j,j<k→∀c,tokBs[j]?=some c→A[c.toNat]?=some (.bool true)
 lacks:∀i,i<256→(∀j,j<k→tokBs[j]?≠some (UInt8.ofNat i))→A[i]?=some (.bool false)
theorem TokRow.one {A:Array Value} {k:Nat} (h:TokRow A k):A.all (·.oneCell')=true:=by
 rw[Array.all_eq_true];intro i hi;obtain⟨b,hb⟩:=h.bits i (by rw[←h.size];exact hi);rw[Array.getElem?_eq_getElem hi]at hb;injection hb with hb;rw[hb];rfl
theorem TokRow.set {A:Array Value} {k:Nat} (h:TokRow A k) {c:UInt8} (hc:tokBs[k]?=some c):TokRow (A.setIfInBounds c.toNat (.bool true)) (k+1):=by
 have hlt:=c.toNat_lt;refine⟨by rw[Array.size_setIfInBounds];exact h.size,fun i hi=> ?_,fun j hj d hd=> ?_,fun i hi hn=> ?_⟩
 ·rw[Array.getElem?_setIfInBounds]
  split
  ·rw[if_pos (by rw[h.size];omega)];exact⟨_,rfl⟩
  ·exact h.bits i hi
 ·rw[Array.getElem?_setIfInBounds]
  split
  ·rw[if_pos (by rw[h.size];omega)]
  ·by_cases e:j=k
   ·subst e
    rw[hc]at hd;injection hd with hd;rename_i hne;exact absurd (by rw[hd]) hne
   ·exact h.has j (by omega) d hd
 ·rw[Array.getElem?_setIfInBounds]
  split
  ·rename_i e
   subst e;exact absurd hc (by simpa using hn k (Nat.lt_succ_self k))
  ·exact h.lacks i hi fun j hj=>hn j (by omega)
theorem TokRow.zero {Z:Array Value} (hZ:Z=Array.replicate 256 (.bool false)):TokRow Z 0:=by
 subst hZ;exact⟨by simp,fun i hi=>⟨false,by simp[hi]⟩,fun j hj=>absurd hj (by omega),fun i hi _=>by simp[hi]⟩
def tokCells:Array Value:=(tokBs.map fun c=> .int .u8 (c.toNat:Int)).toArray
theorem results_row1 {P:Program} {fn:Func} {p:Tmp} {ty:TypeId} (h:fn.results= #[.cell p ty]) (tmps:Array Value) (w:World) (g:Nat) (t:TypeId) (cs:Array Value) (fr:Nat×Nat) (d:TypeDesc)
 (hp:tmps.getD p undef= .pointer (some ⟨g,0,none⟩)) (hg:w.heap[g]?=some (.cells cs t fr))
 (hu:P.underlying ty=some d) (hd:(match d with| .struct _| .array _ _=>true|_=>false)=true) (hi:(P.info? ty).map (·.size)=some cs.size):
 (results fn tmps).run P w= .ok (.agg cs) w:=by
 have hp':tmps[p]?.getD undef= .pointer (some ⟨g,0,none⟩):=by simpa using hp
 simp[results,h,hp',asAddr,run_loadVar_row w g t ty cs fr d hg hu hd hi]
set_option maxRecDepth 100000 in
theorem signs_tok (w:World):Calls Tryz.prog 96 #[] w fun e w'=>∃A,e= .returned (.agg A)∧TokRow A 77∧Below w.heap.size w w':=by
 obtain⟨w1,hw1⟩:∃W,(w.alloc (.cells Tryz.zeroCells131 131)).alloc (.cells tokCells 5 (77,78))=W:=⟨_,rfl⟩;have hz:TokRow Tryz.zeroCells131 0:=TokRow.zero (by kernel_rfl);have hb1:Below w.heap.size w w1:=by rw[←hw1];exact((below_alloc w _).alloc (by rw[World.size_alloc];omega) _)
 have hB:w1.heap[w.heap.size+1]?=some (.cells tokCells 5 (77,78)):=by
  rw[←hw1];have:=Array.getElem?_push_size (xs:=(w.alloc (.cells Tryz.zeroCells131 131)).heap) (x:= .cells tokCells 5 (77,78));rw[World.size_alloc]at this;exact this
 have hA:w1.heap[w.heap.size]?=some (.cells Tryz.zeroCells131 131 (0,0)):=by
  rw[←hw1,(below_alloc (w.alloc (.cells Tryz.zeroCells131 131)) _).block _ (by rw[World.size_alloc];omega)];exact heap_alloc_new w _
 have hC:∀ {W:World},W.heap[w.heap.size+1]?=some (.cells tokCells 5 (77,78))→∀(k:Nat) (hk:k<tokBs.length),W.cell? ⟨w.heap.size+1,k,none⟩=some (.int .u8 ((tokBs[k]).toNat:Int)):=fun h k hk=>by
  rw[Lib.cell_of_heap h,tokCells,List.getElem?_toArray,List.getElem?_map,List.getElem?_eq_getElem hk];rfl
 have hcv:(convert 55 55 (.slice (some ⟨w.heap.size+1,0,none⟩) 77 77)).run Tryz.prog ((w.alloc (.cells Tryz.zeroCells131 131)).alloc (.cells #[.int .u8 33, .int .u8 35, .int .u8 36, .int .u8 37, .int .u8 38, .int .u8 39, .int .u8 42, .int .u8 43, .int .u8 45, .int .u8 46, .int .u8 94, .int .u8 95, .int .u8 96, .int .u8 124, .int .u8 126, .int .u8 48, .int .u8 49, .int .u8 50, .int .u8 51, .int .u8 52, .int .u8 53, .int .u8 54, .int .u8 55, .int .u8 56, .int .u8 57, .int .u8 65, .int .u8 66, .int .u8 67, .int .u8 68, .int .u8 69, .int .u8 70, .int .u8 71, .int .u8 72, .int .u8 73, .int .u8 74, .int .u8 75, .int .u8 76, .int .u8 77, .int .u8 78, .int .u8 79, .int .u8 80, .int .u8 81, .int .u8 82, .int .u8 83, .int .u8 84, .int .u8 85, .int .u8 86, .int .u8 87, .int .u8 88, .int .u8 89, .int .u8 90, .int .u8 97, .int .u8 98, .int .u8 99, .int .u8 100, .int .u8 101, .int .u8 102, .int .u8 103, .int .u8 104, .int .u8 105, .int .u8 106, .int .u8 107, .int .u8 108, .int .u8 109, .int .u8 110, .int .u8 111, .int .u8 112, .int .u8 113, .int .u8 114, .int .u8 115, .int .u8 116, .int .u8 117, .int .u8 118, .int .u8 119, .int .u8 120, .int .u8 121, .int .u8 122] 5))= .ok (.slice (some ⟨w.heap.size+1,0,none⟩) 77 77) w1:=by
  have:=Lib.run_convert_bytes_const (P:=Tryz.prog) (w.alloc (.cells Tryz.zeroCells131 131)) 55 5 tokCells 77 77 Tryz.underlying55 Tryz.underlying5;rw[World.size_alloc]at this;rw[←hw1];exact this
 have hl77:tokBs.length=77:=rfl;clear hw1;go_enter Tryz.func96,Tryz.ntmps96;go_wp2_with fail;go_loopw [2,6] (fun c i wr=>∃(k:Nat) (A:Array Value),k≤77∧i= .int .i64 k∧wr.heap[w.heap.size]?=some (.cells A 131 (0,0))∧Hid (TokRow A k)∧wr.heap[w.heap.size+1]?=some (.cells tokCells 5 (77,78))∧Below w.heap.size w wr) (fun _ i _=>77-(intOf i).toNat)
 case atStart=>exact⟨0,_,by omega,rfl,hA,hz,hB,hb1⟩
 case round=>
  obtain⟨k,A,hk,rfl,hA2,HT,hB2,hb2⟩:=hrel;by_cases hlt:k<77
  ·have hki:(k:Int)<77:=by omega
   have hc:=hC hB2 k (by rw[hl77];exact hlt);have hget:tokBs[k]?=some (tokBs[k]'(by rw[hl77];exact hlt)):=List.getElem?_eq_getElem _;generalize tokBs[k]=c at hc hget;have hset:=HT.out.set hget;obtain⟨b,hbb⟩:=HT.out.bits c.toNat c.toNat_lt;have hcell:wr.cell? ⟨w.heap.size,c.toNat,none⟩=some (.bool b):=by rw[Lib.cell_of_heap hA2];exact hbb
   have hfree:wr.frozen? ⟨w.heap.size,c.toNat,none⟩=false:=Lib.frozen_of_heap hA2 _;have h256:=c.toNat_lt;have hA3:=heap_setCell_in hA2 c.toNat (.bool true);have hB3:(wr.setCell ⟨w.heap.size,c.toNat,none⟩ (.bool true)).heap[w.heap.size+1]?=some (.cells tokCells 5 (77,78)):=(Below.heap_setCell _ _ _ _ (by show w.heap.size+1≠w.heap.size;omega)).trans hB2;have hb3:Below w.heap.size w (wr.setCell ⟨w.heap.size,c.toNat,none⟩ (.bool true)):=hb2.setCell (p:=⟨w.heap.size,c.toNat,none⟩) (Nat.le_refl _) _;have HA3:=Lib.hid hA3;have HB3:=Lib.hid hB3;have HB:=Lib.hid hb3;have HS:=Lib.hid hset;clear hget hset hbb hA3 hB3 hb3 hb2 HT hB hA hb1 hz hA2 hB2;go_wp2_with fail;go_roundw
   case rel=>exact⟨k+1,_,by omega,by go_num,HA3.out,HS,HB3.out,HB.out⟩
   case measure=>simp[intOf];omega
  ·obtain rfl:k=77:=by omega
   have hT:=HT.out;have h1:=hT.one;have hsz:=hT.size;have hi:(Tryz.prog.info? 131).map (·.size)=some A.size:=by rw[hsz];kernel_rfl
   clear hB hA hb1 hz hC hcv HT hB2;have HF:=Lib.hid hA2;have HTT:=Lib.hid hT;have HBB:=Lib.hid hb2;clear hA2 hT hb2;go_wp2_with(first
    |(refine wpList_load_row (o:=⟨some _, .load 131 (.tmp 0),_,_,_,_⟩) rfl 131 (.tmp 0) rfl w.heap.size rfl 131 A (0,0) _ HF.out Tryz.underlying131 rfl hi ?_)
    |(refine wpList_store_same (o:=⟨none, .store 131 (.tmp 0) (.tmp 13),_,_,_,_⟩) rfl 131 (.tmp 0) _ rfl w.heap.size A rfl rfl 131 HF.out hi h1 ?_))
   exact bodyPost_ret (results_row1 (fn:=Tryz.f96) (p:=0) (ty:=131) rfl _ _ w.heap.size 131 A (0,0) _ rfl HF.out Tryz.underlying131 rfl hi) rfl ⟨A,rfl,HTT.out,HBB.out⟩
def tokB (c:UInt8):Bool:=decide (c∈tokBs)
def tokL (m:List UInt8):Bool:=m.all tokB&& !(m==[])
theorem TokRow.cell {A:Array Value} (h:TokRow A 77) (c:UInt8):A[c.toNat]?=some (.bool (tokB c)):=by
 unfold tokB;by_cases hc:c∈tokBs
 ·obtain⟨j,hj,hg⟩:=List.mem_iff_getElem.1 hc
  rw[decide_eq_true hc];exact h.has j hj c (by rw[List.getElem?_eq_getElem hj,hg])
 ·rw[decide_eq_false hc]
  refine h.lacks _ c.toNat_lt fun j hj e=>hc ?_
  have:UInt8.ofNat c.toNat=c:=by simp
  rw[this]at e;exact List.mem_of_getElem? e
set_option maxRecDepth 100000 in
theorem token_any (s:List UInt8) (w:World) (hs:s.length≤140737488351232):
 Calls Tryz.prog 52 #[.string ⟨s.toArray⟩] w fun e w'=>e= .returned (.bool (tokL s))∧Below w.heap.size w w':=by
 obtain⟨q,hq⟩:∃q,(s==[])=q:=⟨_,rfl⟩
 have hr:tokL s=(s.all tokB&& !q):=by rw[←hq];rfl
 have HR:=Lib.hid hr
 clear hr
 go_enter Tryz.func52,Tryz.ntmps52
 go_wp2_with fail
 go_at_call 96
 refine(signs_tok _).mono ?_
 rintro e w1 ⟨A,rfl,hT,hb1⟩
 have hi:(Tryz.prog.info? 131).map (·.size)=some A.size:=by rw[hT.size];kernel_rfl
 have hz:(Tryz.zeroCells131).size=A.size:=by rw[hT.size];kernel_rfl
 have h1:=hT.one
 obtain⟨W2,hW2⟩:∃W,(w1.alloc (.cells Tryz.zeroCells131 131)).setRow w1.heap.size A=W:=⟨_,rfl⟩
 have hA:W2.heap[w1.heap.size]?=some (.cells A 131 (0,0)):=by
  rw[←hW2];exact setRow_heap _ _ _ _ _ _ (heap_alloc_new w1 _)
 have hb2:Below w.heap.size w W2:=by
  have hb:=hb1.alloc hb1.size (.cells Tryz.zeroCells131 131);rw[←hW2];exact⟨hb.os,hb.tape,hb.output,by rw[setRow_size];exact hb.size,fun k hk=>(setRow_other _ _ _ _ (by have:=hb1.size;omega)).trans (hb.block k hk)⟩
 obtain⟨cap,W3,hcv,hb3,hlt3,hcap,hcells⟩:=conv_bytes W2 s hs
 have hin:∀c:UInt8,W3.cell? ⟨w1.heap.size,c.toNat,none⟩=some (.bool (tokB c)):=fun c=>by
  rw[Lib.cell_of_heap ((hb3.block _ (Array.getElem?_eq_some_iff.1 hA).1).trans hA)];exact hT.cell c
 have HB:=Lib.hid (hb2.trans (hb3.mono hb2.size))
 have HI:=Lib.hid hin
 clear hT hb1 hA hb2 hb3 hin
 go_wp2_with(first
  |(refine wpList_store_row (o:=⟨none, .store 131 (.tmp 3) (.tmp 6),_,_,_,_⟩) rfl 131 (.tmp 3) _ rfl w1.heap.size A rfl rfl 131 Tryz.zeroCells131 (heap_alloc_new w1 _) hi hz h1 ?_;rw[hW2]))
 go_loop [5,10] (fun c i=>∃k:Nat,k≤s.length∧i= .int .i64 k∧Hid (∀(j:Nat) (h:j<s.length),j<k→tokB s[j]=true)) (fun _ i=>s.length-(intOf i).toNat)
 case atStart=>exact⟨0,Nat.zero_le _,rfl,Lib.hid (fun j _ h=>absurd h (by omega))⟩
 case round=>
  obtain⟨k,hk,rfl,HK⟩:=hrel;by_cases hlt:k<s.length
  ·have hki:(k:Int)<(s.length:Int):=by omega
   have hc:=hcells k hlt;have hn:=HI.out s[k]
   cases ht:tokB s[k]with
   |true=>
    have HK2:Hid (∀(j:Nat) (h:j<s.length),j<k+1→tokB s[j]=true):=fun j h h1=>by
     by_cases hj:j<k
     ·exact HK.out j h hj
     ·obtain rfl:j=k:=by omega
      exact ht
    rw[ht]at hn;clear ht HK;generalize s[k]=c at hc hn;have h256:=c.toNat_lt;clear hcells hcv hW2;go_wp2_with fail;go_round
    case rel=>exact⟨k+1,by omega,by go_num,HK2⟩
    case measure=>simp[intOf];omega
   |false=>
    have HF:Hid (s.all tokB=false):=by
     show _=_;rw[List.all_eq_false];exact⟨_,List.getElem_mem hlt,by rw[ht];simp⟩
    rw[ht]at hn;clear ht HK;generalize s[k]=c at hc hn;have h256:=c.toNat_lt;clear hcells hcv hW2;go_wp2_with fail;go_ret;exact⟨by rw[HR.out,HF.out];rfl,HB.out⟩
  ·obtain rfl:k=s.length:=by omega
   have HT:Hid (s.all tokB=true):=by
    show _=_;rw[List.all_eq_true];intro x hx;obtain⟨j,hj,rfl⟩:=List.mem_iff_getElem.1 hx;exact HK.out j hj hj
   clear HK hcells;go_wp2_with fail;go_ret;exact⟨by rw[HR.out,HT.out];simp[hq],HB.out⟩
def askC (k:Int) (f t:UrlL) (m:List UInt8):Array Value:= #[.int .u8 k, .string ⟨f.scheme.toArray⟩, .string ⟨f.user.toArray⟩, .string ⟨f.pass.toArray⟩, .string ⟨f.host.toArray⟩, .int .i64 f.port, .string ⟨f.path.toArray⟩, .string ⟨f.query.toArray⟩, .bool f.hasQ, .string ⟨f.mark.toArray⟩, .bool f.hasM, .string ⟨t.scheme.toArray⟩, .string ⟨t.user.toArray⟩, .string ⟨t.pass.toArray⟩, .string ⟨t.host.toArray⟩, .int .i64 t.port, .string ⟨t.path.toArray⟩, .string ⟨t.query.toArray⟩, .bool t.hasQ, .string ⟨t.mark.toArray⟩, .bool t.hasM, .string ⟨m.toArray⟩]
def askV (k:Int) (f t:UrlL) (m:List UInt8):Value:= .agg (askC k f t m)
def goesL (s:Int) (near:Bool) (k:Int) (m:List UInt8):Bool:=
 if s=3 then true else if s=0∨s=2 then near||(k !=3&&(m==[71,69,84]||m==[72,69,65,68]))else near&&decide (s≤3)
set_option maxRecDepth 100000 in
theorem goes_any (s k:Int) (near:Bool) (f t:UrlL) (m:List UInt8) (w:World) (h0:0≤s):
 Calls Tryz.prog 51 #[.int .u8 s, .bool near,askV k f t m] w fun e w'=>e= .returned (.bool (goesL s near k m))∧Below w.heap.size w w':=by
 unfold goesL askV askC
 cases hk:(k !=3)
 all_goals
  cases hg:(m==[71,69,84])
  all_goals
   cases hh:(m==[72,69,65,68])
   all_goals
    cases near
    all_goals
     by_cases h3:s=3
     ·subst h3
      clear h0;go_enter Tryz.func51,Tryz.ntmps51;go_wp2_with fail;go_ret;exact⟨by simp[*],below_alloc w _⟩
     by_cases h00:s=0
     ·subst h00
      clear h0 h3;go_enter Tryz.func51,Tryz.ntmps51;go_wp2_with fail;go_ret;exact⟨by simp[*],below_alloc w _⟩
     by_cases h2:s=2
     ·subst h2
      clear h0 h3 h00;go_enter Tryz.func51,Tryz.ntmps51;go_wp2_with fail;go_ret;exact⟨by simp[*],below_alloc w _⟩
     have k3:(s==3)=false:=beq_eq_false_iff_ne.2 h3;have k0:(s==0)=false:=beq_eq_false_iff_ne.2 h00;have k2:(s==2)=false:=beq_eq_false_iff_ne.2 h2;by_cases h1:s=1
     ·subst h1
      clear h0 h3 h00 h2;go_enter Tryz.func51,Tryz.ntmps51;go_wp2_with fail;go_ret;exact⟨by simp[*],below_alloc w _⟩
     have k1:(s==1)=false:=beq_eq_false_iff_ne.2 h1;have hs:¬s≤3:=by omega
     rw[if_neg h3,if_neg (by omega),decide_eq_false hs];clear h0 h3 h00 h2 h1;go_enter Tryz.func51,Tryz.ntmps51;go_wp2_with fail;go_ret;exact⟨by simp[*],below_alloc w _⟩
def postM (m:List UInt8):List UInt8:=if m==[80,79,83,84]then [71,69,84]else m
def getM (m:List UInt8):List UInt8:=if m==[72,69,65,68]then m else [71,69,84]
def nextM (m:List UInt8) (st:Int):List UInt8×Bool:=
 if st=301∨st=302 then (postM m,true)else if st=303 then (getM m,true)else if st=307∨st=308 then (m,true)else ([],false)
theorem next1 (m:List UInt8) (w:World):Calls Tryz.prog 93 #[.string ⟨m.toArray⟩] w fun e w'=>e= .returned (.string ⟨m.toArray⟩)∧w=w':=by
 go_enter Tryz.func93,Tryz.ntmps93;go_wp2_with fail;go_ret;exact⟨rfl,rfl⟩
theorem next2 (m:List UInt8) (w:World):Calls Tryz.prog 94 #[.string ⟨m.toArray⟩] w fun e w'=>e= .returned (.string ⟨(postM m).toArray⟩)∧w=w':=by
 unfold postM
 cases h:(m==[80,79,83,84])
 all_goals
  go_enter Tryz.func94,Tryz.ntmps94;go_wp2_with fail;go_ret;exact⟨rfl,rfl⟩
theorem next3 (m:List UInt8) (w:World):Calls Tryz.prog 95 #[.string ⟨m.toArray⟩] w fun e w'=>e= .returned (.string ⟨(getM m).toArray⟩)∧w=w':=by
 unfold getM
 cases h:(m==[72,69,65,68])
 all_goals
  go_enter Tryz.func95,Tryz.ntmps95;go_wp2_with fail;go_ret;exact⟨rfl,rfl⟩
set_option maxRecDepth 100000 in
theorem cnext_any (m:List UInt8) (st:Int) (w:World) (hlo: -9223372036854775808≤st) (hhi:st≤9223372036854775807):
 Calls Tryz.prog 50 #[.string ⟨m.toArray⟩, .int .i64 st] w fun e w'=>e= .returned (.tuple #[.string ⟨(nextM m st).1.toArray⟩, .bool (nextM m st).2])∧Below w.heap.size w w':=by
 have hb:∀o,Below w.heap.size w (w.alloc o):=fun o=>below_alloc w o
 by_cases h1:st<300
 ·have e:nextM m st=([],false):=by unfold nextM;rw[if_neg (by omega),if_neg (by omega),if_neg (by omega)]
  rw[e];clear e;go_enter Tryz.func50,Tryz.ntmps50;go_wp2_with fail;go_ret2;exact⟨rfl,hb _⟩
 ·by_cases h2:308<st
  ·have e:nextM m st=([],false):=by unfold nextM;rw[if_neg (by omega),if_neg (by omega),if_neg (by omega)]
   rw[e];clear e;go_enter Tryz.func50,Tryz.ntmps50;go_wp2_with fail;go_ret2;exact⟨rfl,hb _⟩
  ·have h9:st=300∨st=301∨st=302∨st=303∨st=304∨st=305∨st=306∨st=307∨st=308:=by omega
   clear h1 h2 hlo hhi;have q1:∀W,(binOp .eql 129 Value.nilFunc Value.nilFunc).run Tryz.prog W= .ok (.bool true) W:=fun W=>by kernel_rfl
   have q2:∀(f:FuncId) W,(binOp .eql 129 (.func (.func f) #[] #[]) Value.nilFunc).run Tryz.prog W= .ok (.bool false) W:=fun f W=>by kernel_rfl
   have c1:=next1 m;have c2:=next2 m;have c3:=next3 m;rcases h9 with rfl|rfl|rfl|rfl|rfl|rfl|rfl|rfl|rfl
   all_goals
    go_enter Tryz.func50,Tryz.ntmps50;go_wp2_with(first|(go_at_call 93;refine(c1 _).mono ?_;rintro e w2 ⟨rfl,rfl⟩)|(go_at_call 94;refine(c2 _).mono ?_;rintro e w2 ⟨rfl,rfl⟩)|(go_at_call 95;refine(c3 _).mono ?_;rintro e w2 ⟨rfl,rfl⟩));go_ret2;exact⟨rfl,hb _⟩
theorem wpList_row_at {P:Program} {ops:Array Oper} {rest:List Oper} {o:Oper} {a:Act} {w:World} {Q:Exit→Act→World→Prop} (hw:Region.wanted o (yielded ops a.tmps)=true) (ty:TypeId) (x:Operand) (ho:o.op= .load ty x)
 (g:Nat) (hx:a.eval x= .pointer (some ⟨g,0,none⟩)) (t:TypeId) (cs:Array Value) (fr:Nat×Nat) (d:TypeDesc) (hg:w.heap[g]?=some (.cells cs t fr))
 (hu:P.underlying ty=some d) (hd:(match d with| .struct _| .array _ _=>true|_=>false)=true) (hi:(P.info? ty).map (·.size)=some cs.size)
 (h:wpList P ops Q rest (a.put o.dst (.agg cs)) w):wpList P ops Q (o::rest) a w:=
 wpList_step fun K hK=>by
  rw[if_pos hw];exact wp_load_row ty x ho g hx t cs fr d hg hu hd hi (hK _ _ h)
theorem ask_one (k:Int) (f t:UrlL) (m:List UInt8):∀u∈(askC k f t m).toList,u.oneCell'=true:=fun u hu=>by
 simp only[askC,List.mem_cons,List.not_mem_nil,or_false]at hu;rcases hu with rfl|rfl|rfl|rfl|rfl|rfl|rfl|rfl|rfl|rfl|rfl|rfl|rfl|rfl|rfl|rfl|rfl|rfl|rfl|rfl|rfl|rfl<;>rfl
theorem wpList_mid_at {P:Program} {ops:Array Oper} {rest:List Oper} {o:Oper} {a:Act} {w:World} {Q:Exit→Act→World→Prop} (hw:Region.wanted o (yielded ops a.tmps)=true) (ty:TypeId) (x:Operand) (ho:o.op= .load ty x)
 (b off:Nat) (hx:a.eval x= .pointer (some ⟨b,off,none⟩)) (cs:List Value) (d:TypeDesc) (hc:w.rangeAt b off cs)
 (hu:P.underlying ty=some d) (hd:d.isRow=true) (hi:(P.info? ty).map (·.size)=some cs.length)
 (h:wpList P ops Q rest (a.put o.dst (.agg cs.toArray)) w):wpList P ops Q (o::rest) a w:=
 wpList_step fun K hK=>by
  rw[if_pos hw];exact wp_load_mid ty x ho b off hx cs d hc hu hd hi (hK _ _ h)
end Go.Proofs.YtlhcfmcbpljbiaaGreatDoor
