/- slices.Insert at seals, in one; jar.valid of a change of a seal. -/
import Derived.Test.YtjkipdoebkhkaaaGreatDoorGSl1
import Derived.Test.YtjkipdoebkhkaaaGreatDoorGUp5
set_option linter.unusedVariables false
set_option linter.unusedSimpArgs false
set_option maxHeartbeats 16000000
namespace Go.Proofs.YtjkipdoebkhkaaaGreatDoor
open Go.RowKit
theorem sinsert_any (base vb i:Nat) (v:Value) (X:List SealL) (s:SealL) (w:World) (h:w.ownsRow base 44 3 v X.length (X.flatMap cellsS)) (hi:i≤X.length) (hvb:w.heap[vb]?=some (.cells (cellsS s).toArray 44 (0,0))) (hne:v.ownBlock≠some vb) (hl:X.length≤1000) (hbase:base≤w.heap.size):
 Calls Tryz.prog 48 #[v, .int .i64 i, .slice (some ⟨vb,0,none⟩) 1 1] w fun e w'=>∃v',e= .returned v'∧w'.ownsRow base 44 3 v' (X.length+1) ((X.take i++s::X.drop i).flatMap cellsS)∧w.grownBy w' v.ownBlock:=by
 rcases Nat.lt_or_ge i X.length with hlt|hge
 ·have h2:=h.2
  rcases h2 with ⟨_,h0⟩|⟨g,cap,cur,rfl,hbg,hg,hnc,hcm,hcs,hcu⟩
  ·omega
  ·rcases Nat.lt_or_ge X.length cap with hc|hc
   ·refine(sinsert_room base g vb cap i X s w h hlt hc hcm (fun e=>hne (by rw[e];rfl)) hvb hl).mono ?_
    rintro e w' ⟨rfl,h3,h4⟩;exact⟨_,rfl,h3,h4⟩
   ·exact sinsert_grow base g vb cap i X s w h hlt (by omega) hvb hl hbase (Array.getElem?_eq_some_iff.1 hg).1
 ·obtain rfl:i=X.length:=by omega
  rw[List.take_length,List.drop_length];refine sinsert_end base vb v X s w h (fun j u hj=> ?_) hl hbase;rw[Addr.add_lit,Nat.zero_add,Lib.cell_of_heap hvb];simpa using hj
def changeC (kd:Int) (s:SealL):List Value:=[.int .u8 kd, .string ⟨#[]⟩, .string ⟨#[]⟩, .string ⟨#[]⟩, .bool false, .string ⟨#[]⟩, .bool false, .bool false, .int .u8 0, .int .i64 0, .int .i64 0, .int .i64 0, .int .i64 0, .string ⟨s.host.toArray⟩, .bool s.subs, .int .i64 s.till]
def changeV (kd:Int) (s:SealL):Value:= .agg (changeC kd s).toArray
theorem eq_seal0 (s:SealL):∃q,∀W,(binOp .eql 44 (.agg #[.string ⟨s.host.toArray⟩, .bool s.subs, .int .i64 s.till]) (.agg #[.string ⟨#[]⟩, .bool false, .int .i64 0])).run Tryz.prog W= .ok (.bool q) W:=by
 by_cases e1:s.host=[]<;>by_cases e2:s.subs=true<;>by_cases e3:s.till=0
 ·exact⟨false,fun W=>by simp[go_sem,e1,e2,e3]⟩
 ·exact⟨false,fun W=>by simp[go_sem,e1,e2,e3]⟩
 ·exact⟨true,fun W=>by simp[go_sem,e1,e2,e3]⟩
 ·exact⟨false,fun W=>by simp[go_sem,e1,e2,e3]⟩
 ·exact⟨false,fun W=>by simp[go_sem,e1,e2,e3]⟩
 ·exact⟨false,fun W=>by simp[go_sem,e1,e2,e3]⟩
 ·exact⟨false,fun W=>by simp[go_sem,e1,e2,e3]⟩
 ·exact⟨false,fun W=>by simp[go_sem,e1,e2,e3]⟩
set_option maxRecDepth 100000 in
theorem valid_seal (kd:Int) (hk:kd=3∨kd=4) (s:SealL) (w:World) (hE:EnvH w) (hs:s.host.length≤3999999999) (hok:sealOk s=true):Calls Tryz.prog 37 #[changeV kd s] w fun e w'=>e= .returned (.bool true)∧Below w.heap.size w w':=by
 obtain⟨W0,hW0⟩:∃W,w.alloc (.cells (changeC kd s).toArray 46)=W:=⟨_,rfl⟩;have hb0:Below w.heap.size w W0:=by rw[←hW0];exact below_alloc w _
 have hC:W0.heap[w.heap.size]?=some (.cells (changeC kd s).toArray 46 (0,0)):=by rw[←hW0];exact heap_alloc_new w _
 have hr:=Below.refl W0.heap.size W0;have x0:=blk_cell hC (j:=0) rfl hr;have x1:=blk_cell hC (j:=1) rfl hr;have x2:=blk_cell hC (j:=2) rfl hr;have x3:=blk_cell hC (j:=3) rfl hr;have x4:=blk_cell hC (j:=4) rfl hr;have x5:=blk_cell hC (j:=5) rfl hr;have x6:=blk_cell hC (j:=6) rfl hr;have x7:=blk_cell hC (j:=7) rfl hr;have x8:=blk_cell hC (j:=8) rfl hr;have x9:=blk_cell hC (j:=9) rfl hr;have x10:=blk_cell hC (j:=10) rfl hr;have x11:=blk_cell hC (j:=11) rfl hr;have x12:=blk_cell hC (j:=12) rfl hr;have x13:=blk_cell hC (j:=13) rfl hr;have x14:=blk_cell hC (j:=14) rfl hr;have x15:=blk_cell hC (j:=15) rfl hr;have cs:=fun W (hW:Below W0.heap.size W0 W)=>seal_any s W (hE.below (below_nx hb0 hW)) hs
 rw[hok]at cs;unfold sealVal at cs;have CS:=Lib.hid cs;have HC:=Lib.hid hC;have HW:Hid (w.alloc (.cells #[.int .u8 kd, .string ⟨#[]⟩, .string ⟨#[]⟩, .string ⟨#[]⟩, .bool false, .string ⟨#[]⟩, .bool false, .bool false, .int .u8 0, .int .i64 0, .int .i64 0, .int .i64 0, .int .i64 0, .string ⟨s.host.toArray⟩, .bool s.subs, .int .i64 s.till] 46)=W0):=hW0;unfold changeV changeC;clear hW0 hC cs;go_enter Tryz.func37,Tryz.ntmps37;go_upto_region 1 with fail;rw[HW.out];obtain⟨q,hq⟩:=eq_seal0 s;have hd:=(Below.refl W0.heap.size W0).drew;have y13:=(hd.cell (p:=⟨w.heap.size,13,none⟩) (Nat.lt_of_lt_of_le (Array.getElem?_eq_some_iff.1 HC.out).1 (Nat.le_refl _))).trans x13;rcases hk with rfl|rfl
 all_goals
  go_region;go_wp2_with(go_at_call 26;refine(CS.out _ hd).mono ?_;rintro e z1 ⟨rfl,hz1⟩);go_ret;exact⟨by simp,below_nx hb0 (hd.trans hz1)⟩
def cellsG (c:Bool×SealL):List Value:=changeC (if c.1 then 3 else 4) c.2
theorem cellsG_len (c:Bool×SealL):(cellsG c).length=16:=rfl
theorem one_change (kd:Int) (s:SealL):∀u∈changeC kd s,u.oneCell'=true:=fun u hu=>by
 simp only[changeC,List.mem_cons,List.not_mem_nil,or_false]at hu;rcases hu with rfl|rfl|rfl|rfl|rfl|rfl|rfl|rfl|rfl|rfl|rfl|rfl|rfl|rfl|rfl|rfl<;>rfl
theorem row_one {α:Type} {z:Nat} {en:α→List Value} {W:World} {X:Nat} {x:α} {e:TypeId} (h:W.heap[X]?=some (.cells (en x).toArray e (0,0))):RowS z en W (.slice (some ⟨X,0,none⟩) 1 1) [x]:=by
 refine .inr ⟨⟨X,0,none⟩,1,rfl,Nat.le_refl 1,fun _=>(Array.getElem?_eq_some_iff.1 h).1,fun k hk j u hj=> ?_⟩;obtain rfl:k=0:=by simp at hk;exact hk
 rw[Addr.add_lit,Nat.zero_mul,Nat.zero_add,Nat.zero_add,Lib.cell_of_heap h];simpa using hj
theorem idxSl_cases (X:List SealL) (h:List UInt8):(idxSl X h= -1∧hasS X h=none)∨∃(i:Nat) (hi:i<X.length),idxSl X h=i∧hasS X h=some X[i]:=by
 cases hf:X.findIdx? (fun s=>decide (s.host=h))with
 |none=>
  rw[List.findIdx?_eq_none_iff]at hf;exact .inl (idxSl_none fun j hj=>by simpa using hf _ (List.getElem_mem hj))
 |some i=>
  rw[List.findIdx?_eq_some_iff_getElem]at hf;obtain⟨hi,h1,h2⟩:=hf;exact .inr ⟨i,hi,idxSl_some hi (by simpa using h1) (fun j hj=>by simpa using h2 j hj)⟩
def oldS (S:List SealL) (h:List UInt8):SealL:=(hasS S h).getD ⟨[],false,0⟩
theorem clip_changes (v:Value) (X:List (Bool×SealL)) (w:World) (h:RowS 16 cellsG w v X) (hl:X.length≤1048576):
 Calls Tryz.prog 36 #[v] w fun e w'=>(∃v',e= .returned v'∧RowS 16 cellsG w v' X∧v'.ownBlock=v.ownBlock)∧w=w':=by
 rcases h with ⟨rfl,rfl⟩|⟨a,c,rfl,hc,hb,hcell⟩
 ·go_enter Tryz.func36,Tryz.ntmps36
  go_wp2_with fail;go_ret;exact⟨⟨_,rfl, .inl ⟨rfl,rfl⟩,rfl⟩,rfl⟩
 ·have HC:=Lib.hid hcell
  have HB:=Lib.hid hb;have hci:(X.length:Int)≤(c:Int):=by omega
  clear hcell hb;go_enter Tryz.func36,Tryz.ntmps36;go_wp2_with fail;go_ret;exact⟨⟨_,rfl, .inr ⟨a,X.length,by simp,Nat.le_refl _,HB.out,HC.out⟩,rfl⟩,rfl⟩
set_option maxRecDepth 100000 in
theorem tellG_any (a b:Value) (n:Int) (S:List SealL) (u:UrlL) (q:Bool) (age now:Int) (w:World) (hE:EnvH w) (hS:RowS 3 cellsS w b S) (lS:S.length≤1048576) (ha:∃p q r,a= .slice p q r) (zu:sizeU u≤1000000000) (hport:u.port≤9223372036854775807):
 Calls Tryz.prog 11 #[keepV a b n, .agg #[.int .i64 age, .bool q],urlV u, .int .i64 now] w fun e w'=>∃v,e= .returned v∧RowS 16 cellsG w' v (tellL S u q age now)∧Below w.heap.size w w':=by
 obtain⟨a1,a2,a3,rfl⟩:=ha
 obtain⟨b1,b2,b3,rfl,hb2,hb3⟩:=hS.conc
 subst hb2
 obtain⟨W1,hW1⟩:∃W,w.alloc (.cells #[.slice a1 a2 a3, .slice b1 S.length b3, .int .i64 n] 25)=W:=⟨_,rfl⟩
 obtain⟨W2,hW2⟩:∃W,W1.alloc (.cells #[.int .i64 age, .bool q] 27)=W:=⟨_,rfl⟩
 obtain⟨W0,hW0⟩:∃W,W2.alloc (.cells (cellsU u).toArray 29)=W:=⟨_,rfl⟩
 have hb01:Below w.heap.size w W1:=by rw[←hW1];exact below_alloc w _
 have hb12:Below W1.heap.size W1 W2:=by rw[←hW2];exact below_alloc W1 _
 have hb20:Below W2.heap.size W2 W0:=by rw[←hW0];exact below_alloc W2 _
 have hs1:W1.heap.size=w.heap.size+1:=by rw[←hW1,World.size_alloc]
 have hs2:W2.heap.size=w.heap.size+2:=by rw[←hW2,World.size_alloc,hs1]
 have hb10:=below_nx hb12 hb20
 have hb0:=below_nx hb01 hb10
 have hK:W0.heap[w.heap.size]?=some (.cells #[.slice a1 a2 a3, .slice b1 S.length b3, .int .i64 n] 25 (0,0)):=(hb10.block _ (by omega)).trans (by rw[←hW1];exact heap_alloc_new w _)
 have hI:W0.heap[w.heap.size+1]?=some (.cells #[.int .i64 age, .bool q] 27 (0,0)):=(hb20.block _ (by omega)).trans (by rw[←hs1,←hW2];exact heap_alloc_new W1 _)
 have hU:UrlAt (w.heap.size+2) u W0:=by rw[←hs2,←hW0];exact heap_alloc_new W2 _
 have hlK:=(Array.getElem?_eq_some_iff.1 hK).1
 have hlI:=(Array.getElem?_eq_some_iff.1 hI).1
 have hlU:=hU.lt
 have FK:Hid (∀W,Below W0.heap.size W0 W→W.cell? ⟨w.heap.size,1,none⟩=some (.slice b1 S.length b3)):=fun W hW=>by rw[Lib.cell_of_heap ((hW.block _ hlK).trans hK)];rfl
 have FI:Hid (∀W,Below W0.heap.size W0 W→W.cell? ⟨w.heap.size+1,0,none⟩=some (.int .i64 age)∧W.cell? ⟨w.heap.size+1,1,none⟩=some (.bool q)):=fun W hW=>⟨by rw[Lib.cell_of_heap ((hW.block _ hlI).trans hI)];rfl,by rw[Lib.cell_of_heap ((hW.block _ hlI).trans hI)];rfl⟩
 have FU:Hid (∀W,Below W0.heap.size W0 W→W.cell? ⟨w.heap.size+2,0,none⟩=some (.string ⟨u.scheme.toArray⟩)∧W.cell? ⟨w.heap.size+2,3,none⟩=some (.string ⟨u.host.toArray⟩)):=fun W hW=>⟨(hU.on hW).cells.1,(hU.on hW).cells.2.2.2.1⟩
 have HW:Hid (((w.alloc (.cells #[.slice a1 a2 a3, .slice b1 S.length b3, .int .i64 n] 25)).alloc (.cells #[.int .i64 age, .bool q] 27)).alloc (.cells #[.string ⟨u.scheme.toArray⟩, .string ⟨u.user.toArray⟩, .string ⟨u.pass.toArray⟩, .string ⟨u.host.toArray⟩, .int .i64 u.port, .string ⟨u.path.toArray⟩, .string ⟨u.query.toArray⟩, .bool u.hasQ, .string ⟨u.mark.toArray⟩, .bool u.hasM] 29)=W0):=by
  show _=_;rw[←hW0,←hW2,←hW1];rfl
 have zh:u.host.length≤1000000000:=by unfold sizeU at zu;omega
 have ck:=check_u u W0 (hE.below hb0) zu hport
 have cm:=fun W (hW:Below W0.heap.size W0 W)=>machine_any u.host W (hE.below (below_nx hb0 hW)).t.env (by omega)
 have CM:=Lib.hid cm
 have HS:Hid (∀W,Below W0.heap.size W0 W→RowS 3 cellsS W (.slice b1 S.length b3) S):=fun W hW=>hS.below (below_nx hb0 hW) (Nat.le_refl _)
 obtain⟨p0,p1,p2,p3,p4,p5,p6,p7,p8,p9⟩:=hU.cells
 clear hW0 hW1 hW2 hb01 hb12 hb20 hb10 hs1 hs2 hK hI hU cm hS hb3 hlK hlI hE zu hport
 obtain⟨L,hL⟩:∃L,tellL S u q age now=L:=⟨_,rfl⟩
 rw[hL]
 have HL:=Lib.hid hL
 clear hL
 unfold keepV urlV
 unfold urlV at ck
 go_enter Tryz.func11,Tryz.ntmps11
 go_upto_region 1 with fail
 rw[HW.out]
 clear HW
 by_cases hok:tellOk u age now=true
 case neg=>
  have HN:Hid (L=[]):=by rw[←HL.out];unfold tellL;rw[if_pos (by simpa using hok)];exact Lib.hid rfl
  clear HL
  cases hc:checkU u with
  |false=>
   rw[hc]at ck;clear hok hc HS CM FK;go_wp2_with(go_at_call 27;refine ck.mono ?_;rintro e w1 ⟨rfl,hb1⟩;obtain⟨r0,r3⟩:=FU.out w1 hb1);go_ret;exact⟨_,rfl, .inl ⟨rfl,HN.out⟩,below_nx hb0 hb1⟩
  |true=>
   rw[hc]at ck
   cases hs:(u.scheme==httpsB)with
   |false=>
    have hs2:(u.scheme==[104,116,116,112,115])=false:=hs;clear hok hc HS CM FK hs;go_wp2_with(go_at_call 27;refine ck.mono ?_;rintro e w1 ⟨rfl,hb1⟩;obtain⟨r0,r3⟩:=FU.out w1 hb1);go_ret;exact⟨_,rfl, .inl ⟨rfl,HN.out⟩,below_nx hb0 hb1⟩
   |true=>
    have hs2:(u.scheme==[104,116,116,112,115])=true:=hs
    cases hm:machineL u.host with
    |true=>
     clear hok hc HS FK hs;go_wp2_with(first
      |(go_at_call 27;refine ck.mono ?_;rintro e w1 ⟨rfl,hb1⟩;obtain⟨r0,r3⟩:=FU.out w1 hb1;have cmw:=CM.out w1 hb1;rw[hm]at cmw)
      |(go_at_call 28;refine cmw.mono ?_;rintro e w2 ⟨rfl,hb2⟩))
     go_ret;exact⟨_,rfl, .inl ⟨rfl,HN.out⟩,below_nx hb0 (below_nx hb1 hb2)⟩
    |false=>
     have hmf:=hm;by_cases h0:0≤now
     case neg=>
      have h0n:now<0:=by omega
      clear hok hc HS FK hs h0;go_wp2_with(first
       |(go_at_call 27;refine ck.mono ?_;rintro e w1 ⟨rfl,hb1⟩;obtain⟨r0,r3⟩:=FU.out w1 hb1;have cmw:=CM.out w1 hb1;rw[hm]at cmw)
       |(go_at_call 28;refine cmw.mono ?_;rintro e w2 ⟨rfl,hb2⟩))
      go_ret;exact⟨_,rfl, .inl ⟨rfl,HN.out⟩,below_nx hb0 (below_nx hb1 hb2)⟩
     by_cases h1:now≤1099511627775
     case neg=>
      have h1n:decide (1099511627775<now)=true:=decide_eq_true (by omega);clear hok hc HS FK hs h1;go_wp2_with(first
       |(go_at_call 27;refine ck.mono ?_;rintro e w1 ⟨rfl,hb1⟩;obtain⟨r0,r3⟩:=FU.out w1 hb1;have cmw:=CM.out w1 hb1;rw[hm]at cmw)
       |(go_at_call 28;refine cmw.mono ?_;rintro e w2 ⟨rfl,hb2⟩))
      go_ret;exact⟨_,rfl, .inl ⟨rfl,HN.out⟩,below_nx hb0 (below_nx hb1 hb2)⟩
     have h1d:decide (1099511627775<now)=false:=decide_eq_false (by omega);by_cases h2:0≤age
     case neg=>
      have h2n:age<0:=by omega
      clear hok hc HS FK hs h1 h2;go_wp2_with(first
       |(go_at_call 27;refine ck.mono ?_;rintro e w1 ⟨rfl,hb1⟩;obtain⟨r0,r3⟩:=FU.out w1 hb1;have cmw:=CM.out w1 hb1;rw[hm]at cmw)
       |(go_at_call 28;refine cmw.mono ?_;rintro e w2 ⟨rfl,hb2⟩;obtain⟨i0,i1⟩:=FI.out w2 (below_nx hb1 hb2)))
      go_ret;exact⟨_,rfl, .inl ⟨rfl,HN.out⟩,below_nx hb0 (below_nx hb1 hb2)⟩
     exact absurd (by unfold tellOk;simp[hc,hs,hm,h0,h1,h2]) hok
 case pos=>
  obtain⟨hc,hs,hm,h0,h1,h2⟩:=tellOk_parts hok;rw[hc]at ck;have hs2:(u.scheme==[104,116,116,112,115])=true:=by rw[hs];decide
  have h1d:decide (1099511627775<now)=false:=decide_eq_false (by omega);have HT:Hid (L=if age=0 then (match hasS S u.host with|none=>[]|some s=>[(false,s)])else (if (hasS S u.host).isNone=true∧200≤S.length then leastOf S else [])++[(true,newS u q age now)]):=Lib.hid (by rw[←HL.out];unfold tellL;rw[if_neg (by rw[hok];simp)];rfl);have H1:=Lib.hid h1;clear hok hc hs h1 HL;go_upto_region 3 with (first
   |(go_at_call 27;refine ck.mono ?_;rintro e w1 ⟨rfl,hb1⟩;obtain⟨r0,r3⟩:=FU.out w1 hb1;have cmw:=CM.out w1 hb1;rw[hm]at cmw)
   |(go_at_call 28;refine cmw.mono ?_;rintro e w2 ⟨rfl,hb2⟩;obtain⟨i0,i1⟩:=FI.out w2 (below_nx hb1 hb2)))
  have hb12:=below_nx hb1 hb2;have hs20:=hb12.size;obtain⟨w3,hw3⟩:∃W,w2.alloc (.cells #[.string ⟨#[]⟩, .bool false, .int .i64 0] 44)=W:=⟨_,rfl⟩;have hb23:Below w2.heap.size w2 w3:=by rw[←hw3];exact below_alloc w2 _
  have hO3:w3.heap[w2.heap.size]?=some (.cells #[.string ⟨#[]⟩, .bool false, .int .i64 0] 44 (0,0)):=by rw[←hw3];exact heap_alloc_new w2 _
  have hb13:=below_nx hb12 hb23;have hlB:w.heap.size+2<w3.heap.size:=Nat.lt_of_lt_of_le hlU hb13.size;have hix:=idxSl_cases S u.host;have CI:=index_tell S (.slice b1 S.length b3) u.host (w.heap.size+2) w3 hlB (FU.out w3 hb13).2 (HS.out w3 hb13) lS;generalize idxSl S u.host=ix at*;have k3:=FK.out w3 hb13;have HW3:=Lib.hid hw3;clear hw3 r0 r3 i0 i1 ck hb1 hb2 hb12 p0 p1 p2 p3 p4 p5 p6 p7 p8 p9 CM hm;go_upto_region 4 with fail;rw[HW3.out];clear HW3 hb23;go_upto_if 45 with (go_at_call 29;refine CI.mono ?_;rintro e w4 ⟨rfl,hb4⟩);have hO4:=(hb4.block _ (Array.getElem?_eq_some_iff.1 hO3).1).trans hO3;have hb14:=below_nx hb13 hb4;clear hO3 hb13 hb4 k3 CI;have HX:=Lib.hid hix;clear hix;go_cut []from 44 to 50 (fun wx=>Hid (wx.heap[w2.heap.size]?=some (.cells (cellsS (oldS S u.host)).toArray 44 (0,0)))∧Hid (Below W0.heap.size W0 wx))
  case first=>
   rcases HX.out with ⟨rfl,hn⟩|⟨i,hi,rfl,hsm⟩
   ·have ho:oldS S u.host=⟨[],false,0⟩:=by unfold oldS;rw[hn];rfl
    have HO:=Lib.hid ho;clear ho hn;go_wp2_with fail;go_meet;rw[HO.out];exact⟨Lib.hid hO4,Lib.hid hb14⟩
   ·have ho:oldS S u.host=S[i]:=by unfold oldS;rw[hsm];rfl
    obtain⟨x,hx⟩:∃x,S[i]=x:=⟨_,rfl⟩;rw[hx]at ho;have HO:=Lib.hid ho;have hrow:=HS.out w4 hb14;obtain⟨a,rfl⟩:∃a,b1=some a:=by
     rcases hrow with ⟨h1,h2⟩|⟨x,c,h1,_⟩
     ·rw[h2]at hi;simp at hi
     ·injection h1 with h1;exact⟨x,h1⟩
    have hck:=hrow.each i hi w4 (Below.refl _ _);rw[hx]at hck;have hik:(Tryz.prog.info? 44).map (·.size)=some 3:=by kernel_rfl
    have hi0:(0:Int)≤(i:Int):=by omega
    have hil:(i:Int)<(S.length:Int):=by omega
    have k4:=FK.out w4 hb14;have c0:w4.cell? ⟨w2.heap.size,0,none⟩=some (.string ⟨#[]⟩):=by rw[Lib.cell_of_heap hO4];rfl
    have c1:w4.cell? ⟨w2.heap.size,1,none⟩=some (.bool false):=by rw[Lib.cell_of_heap hO4];rfl
    have c2:w4.cell? ⟨w2.heap.size,2,none⟩=some (.int .i64 0):=by rw[Lib.cell_of_heap hO4];rfl
    have f0:w4.frozen? ⟨w2.heap.size,0,none⟩=false:=by simp[World.frozen?,hO4]
    have f1:w4.frozen? ⟨w2.heap.size,1,none⟩=false:=by simp[World.frozen?,hO4]
    have f2:w4.frozen? ⟨w2.heap.size,2,none⟩=false:=by simp[World.frozen?,hO4]
    have HO4:=Lib.hid hO4;clear ho hsm hx hrow hO4;go_wp2_with(refine wpList_load_at (o:=⟨some 50, .load 44 (.tmp 49),_,_,_,_⟩) rfl 44 (.tmp 49) rfl (a.add (i*3)) rfl [.string ⟨x.host.toArray⟩, .bool x.subs, .int .i64 x.till] _ hck Tryz.underlying44 rfl hik ?_);go_meet;rw[HO.out];exact⟨Lib.hid (heap_setCell_same _ w2.heap.size 2 _ _ _ (heap_setCell_same _ w2.heap.size 1 _ _ _ (heap_setCell_same w4 w2.heap.size 0 _ _ _ HO4.out))),Lib.hid (((hb14.setCell (p:=⟨w2.heap.size,0,none⟩) hs20 _).setCell (p:=⟨w2.heap.size,1,none⟩) hs20 _).setCell (p:=⟨w2.heap.size,2,none⟩) hs20 _)⟩
  case rest=>
   obtain⟨HO,HB⟩:=hcut;obtain⟨i0,i1⟩:=FI.out wc HB.out;have c0:wc.cell? ⟨w2.heap.size,0,none⟩=some (.string ⟨(oldS S u.host).host.toArray⟩):=by rw[Lib.cell_of_heap HO.out];rfl
   have c1:wc.cell? ⟨w2.heap.size,1,none⟩=some (.bool (oldS S u.host).subs):=by rw[Lib.cell_of_heap HO.out];rfl
   have c2:wc.cell? ⟨w2.heap.size,2,none⟩=some (.int .i64 (oldS S u.host).till):=by rw[Lib.cell_of_heap HO.out];rfl
   clear hO4 hb14;by_cases hz:age=0
   ·subst hz
    rcases HX.out with ⟨rfl,hn⟩|⟨i,hi,rfl,hsm⟩
    ·have HN:Hid (L=[]):=Lib.hid (by rw[HT.out,if_pos rfl,hn])
     clear hn HT;go_wp2_with fail;go_ret;exact⟨_,rfl, .inl ⟨rfl,HN.out⟩,below_nx hb0 HB.out⟩
    ·have ho:oldS S u.host=S[i]:=by unfold oldS;rw[hsm];rfl
     have HN:Hid (L=[(false,oldS S u.host)]):=Lib.hid (by rw[HT.out,if_pos rfl,hsm,ho]);have hi0:(0:Int)≤(i:Int):=by omega
     clear hsm HT ho;generalize oldS S u.host=x at*;go_wp2_with fail;go_ret;rw[HN.out];exact⟨_,rfl,row_one (en:=cellsG) (heap_alloc_new wc _),(below_nx hb0 HB.out).alloc (Nat.le_trans hb0.size HB.out.size) _⟩
   ·have hzb:(age==0)=false:=beq_eq_false_iff_ne.2 hz
    obtain⟨tb,htb⟩:∃tb,decide ((hasS S u.host).isNone=true∧200≤S.length)=tb:=⟨_,rfl⟩;have HN:Hid (L=(if tb then leastOf S else [])++[(true,newS u q age now)]):=Lib.hid (by
     rw[HT.out,if_neg hz,←htb];by_cases hp:(hasS S u.host).isNone=true∧200≤S.length
     ·rw[if_pos hp,if_pos (decide_eq_true hp)]
     ·rw[if_neg hp,if_neg (by simpa using hp)])
    have HTB:=Lib.hid htb;clear HT htb;go_upto_region 12 with fail;have k5:=FK.out wc HB.out;go_cut [71]from 51 to 70 (fun v wx=>v= .bool tb∧wc=wx)
    case first=>
     rcases HX.out with ⟨rfl,hn⟩|⟨i,hi,rfl,hsm⟩
     ·have ho:oldS S u.host=⟨[],false,0⟩:=by unfold oldS;rw[hn];rfl
      rw[ho]at c0 c1 c2;have htb:=HTB.out;rw[hn]at htb;have HTB2:Hid (decide (200≤S.length)=tb):=Lib.hid (by rw[←htb];simp);clear ho hn htb HTB;by_cases hl:200≤S.length
      ·have hli:(200:Int)≤(S.length:Int):=by omega
       have HE:Hid (tb=true):=Lib.hid (by rw[←HTB2.out];exact decide_eq_true hl);clear HTB2 hl;go_wp2_with fail;go_meet;exact⟨by rw[HE.out],rfl⟩
      ·have hli:(S.length:Int)<200:=by omega
       have HE:Hid (tb=false):=Lib.hid (by rw[←HTB2.out];exact decide_eq_false hl);clear HTB2 hl;go_wp2_with fail;go_meet;exact⟨by rw[HE.out,decide_eq_false (by omega)],rfl⟩
     ·have HE:Hid (tb=false):=Lib.hid (by rw[←HTB.out,hsm];simp)
      have hi0:(0:Int)≤(i:Int):=by omega
      clear hsm HTB;obtain⟨qz,hqz⟩:=eq_seal0 (oldS S u.host);generalize oldS S u.host=x at*
      cases qz
      all_goals
       go_wp2_with fail;go_meet;exact⟨by rw[HE.out],rfl⟩
    case rest=>
     obtain⟨rfl,rfl⟩:=hcut;clear c0 c1 c2 i0 i1 k5;go_upto_if 71 with fail;go_cut [11,12]from 71 to 79 (fun v _ wx=>Hid (wx.ownsRow W0.heap.size 46 16 v (if tb then leastOf S else []).length ((if tb then leastOf S else []).flatMap cellsG))∧Hid (Below W0.heap.size W0 wx))
     case first=>
      cases tb with
      |false=>
       go_wp2_with fail;go_meet;exact⟨Lib.hid (World.ownsRow_nil _ _ _ _),HB⟩
      |true=>
       obtain⟨m0,l,hSl⟩:∃m0 l,S=m0::l:=by
        have htb:=HTB.out
        cases S with
        |nil=>simp at htb
        |cons m l=>exact⟨m,l,rfl⟩
       have cmn:=min_any m0 l (.slice b1 S.length b3) wc (by rw[←hSl];exact HS.out wc HB.out) (by rw[←hSl];exact lS);have HLS:Hid ((if true=true then leastOf S else [])=[(false,leastS m0 l)]):=Lib.hid (by rw[if_pos rfl,hSl];rfl);have k5:=FK.out wc HB.out;obtain⟨x,hx⟩:∃x,leastS m0 l=x:=⟨_,rfl⟩;rw[hx]at cmn HLS;unfold sealVal at cmn;clear hx hSl HTB HN HX;go_upto_region 14 with (go_at_call 31;refine cmn.mono ?_;rintro e w5 ⟨rfl,hb5⟩);obtain⟨w6,hw6⟩:∃W,w5.alloc (.cells #[.string ⟨x.host.toArray⟩, .bool x.subs, .int .i64 x.till] 44)=W:=⟨_,rfl⟩;have hb56:Below w5.heap.size w5 w6:=by rw[←hw6];exact below_alloc w5 _
       have hX6:w6.heap[w5.heap.size]?=some (.cells #[.string ⟨x.host.toArray⟩, .bool x.subs, .int .i64 x.till] 44 (0,0)):=by rw[←hw6];exact heap_alloc_new w5 _
       have c0:w6.cell? ⟨w5.heap.size,0,none⟩=some (.string ⟨x.host.toArray⟩):=by rw[Lib.cell_of_heap hX6];rfl
       have c1:w6.cell? ⟨w5.heap.size,1,none⟩=some (.bool x.subs):=by rw[Lib.cell_of_heap hX6];rfl
       have c2:w6.cell? ⟨w5.heap.size,2,none⟩=some (.int .i64 x.till):=by rw[Lib.cell_of_heap hX6];rfl
       have hb6:=below_nx HB.out (below_nx hb5 hb56);have hown:w6.ownsRow W0.heap.size 46 16 (.slice none 0 0) 0 []:=⟨rfl, .inl ⟨rfl,rfl⟩⟩;rw[hw6];clear hw6 hX6 hb56 hb5 k5 cmn;go_wp2_with(at_builtin;refine wpList_append_z change_elem _ rfl _ _ rfl W0.heap.size _ _ _ rfl hown (changeC 4 x) _ rfl rfl (one_change 4 x) (by omega) (by omega) hb6.size ?_);intro v' w7 hown2 hgr;have hb7:Below W0.heap.size W0 w7:=hb6.grown hgr hb6.size (fun g' hg'=>by cases hg');have HO7:=Lib.hid hown2;clear hown2 hgr hown c0 c1 c2;go_wp2_with fail;go_meet;rw[HLS.out];exact⟨HO7,Lib.hid hb7⟩
     case rest=>
      obtain⟨HOw,HB2⟩:=hcut;obtain⟨i0,i1⟩:=FI.out wc HB2.out;have r3:=(FU.out wc HB2.out).2;have hpl:(if tb then leastOf S else []).length≤1:=by
       cases tb with
       |false=>exact Nat.zero_le _
       |true=>cases S<;>simp[leastOf]
      obtain⟨pre,hpre⟩:∃pre,(if tb then leastOf S else [])=pre:=⟨_,rfl⟩;rw[hpre]at hpl HN HOw;have h1:=H1.out;clear hpre HO HB HTB HX;go_upto_region 16 with fail;have hgs:newS u q age now=⟨u.host,q,now+min age (1099511627775-now)⟩:=rfl;rw[hgs]at HN;generalize now+min age (1099511627775-now)=tl at*;obtain⟨w5,hw5⟩:∃W,wc.alloc (.cells #[.string ⟨u.host.toArray⟩, .bool q, .int .i64 tl] 44)=W:=⟨_,rfl⟩;have hb5:Below wc.heap.size wc w5:=by rw[←hw5];exact below_alloc wc _
      have hX5:w5.heap[wc.heap.size]?=some (.cells #[.string ⟨u.host.toArray⟩, .bool q, .int .i64 tl] 44 (0,0)):=by rw[←hw5];exact heap_alloc_new wc _
      have c0:w5.cell? ⟨wc.heap.size,0,none⟩=some (.string ⟨u.host.toArray⟩):=by rw[Lib.cell_of_heap hX5];rfl
      have c1:w5.cell? ⟨wc.heap.size,1,none⟩=some (.bool q):=by rw[Lib.cell_of_heap hX5];rfl
      have c2:w5.cell? ⟨wc.heap.size,2,none⟩=some (.int .i64 tl):=by rw[Lib.cell_of_heap hX5];rfl
      have hb55:=below_nx HB2.out hb5;have hown:=own_below HOw.out hb5;have HB5:=Lib.hid hb55;rw[hw5];clear hw5 hX5 hb5 HOw i0 i1 r3;go_wp2_with(at_builtin;refine wpList_append_z change_elem _ rfl _ _ rfl W0.heap.size _ _ _ rfl hown (changeC 3 ⟨u.host,q,tl⟩) _ rfl rfl (one_change 3 ⟨u.host,q,tl⟩) (by omega) (by omega) hb55.size ?_);intro v' w6 hown2 hgr;have hlt:=fun k hk=>(hown.lt k hk).1
      have hb6:Below W0.heap.size W0 w6:=hb55.grown hgr hb55.size hlt;have hrow:RowS 16 cellsG w6 v' L:=RowS.own (e:=46) (by omega) cellsG_len (by rw[HN.out,List.flatMap_append];exact hown2) (by rw[HN.out];simp);have CC:=clip_changes v' L w6 hrow (by rw[HN.out,List.length_append];simp;omega);have HB6:=Lib.hid hb6;clear hown2 hgr hown hlt hrow hb6 hb55 c0 c1 c2;go_wp2_with(go_at_call 36;refine CC.mono ?_;rintro e w7 ⟨⟨v2,rfl,hr2, -⟩,rfl⟩);go_ret;exact⟨_,rfl,hr2,below_nx hb0 HB6.out⟩
end Go.Proofs.YtjkipdoebkhkaaaGreatDoor
