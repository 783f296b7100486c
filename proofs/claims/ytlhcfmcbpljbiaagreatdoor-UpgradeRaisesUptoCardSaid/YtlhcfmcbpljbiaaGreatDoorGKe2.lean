/- footmanlaw01.TwinSeals, TwinCookies walked. -/
import Derived.Test.YtlhcfmcbpljbiaaGreatDoorGKe1
import Derived.Deep.RegionHeld
set_option linter.unusedVariables false
set_option linter.unusedSimpArgs false
set_option maxHeartbeats 16000000
namespace Go.Proofs.YtlhcfmcbpljbiaaGreatDoor
open Go.RowKit
theorem seal_info:(Tryz.prog.info? 98).map (fun i=>(i.zero,i.size,i.bytes))=some (some (.agg #[.string ⟨#[]⟩, .bool false, .int .i64 0]),3,32):=by kernel_rfl
theorem seal_elem:ElemZ Tryz.prog 42 98 (.agg #[.string ⟨#[]⟩, .bool false, .int .i64 0]) 3 32:=
 ⟨Tryz.underlying42,by obtain⟨i,h1,h2,h3,h4⟩:=info_parts seal_info;exact⟨i,h1,h2,h3,h4⟩,rfl,by omega⟩
theorem one_seal (x:SealL):∀u∈cellsS x,u.oneCell'=true:=fun u hu=>by
 simp only[cellsS,List.mem_cons,List.not_mem_nil,or_false]at hu;rcases hu with rfl|rfl|rfl<;>rfl
def spareSeal:SealL:=⟨[115,112,97,114,101],false,0⟩
set_option maxRecDepth 100000 in
theorem twinseal_any (X:List SealL) (v:Value) (w:World) (ht:RowS 3 cellsS w v X) (hl:X.length≤1000000):
 Calls Tryz.prog 61 #[v] w fun e w'=>∃t,e= .returned t∧TwinR 3 cellsS w' w.heap.size t X spareSeal∧Below w.heap.size w w':=by
 obtain⟨w1,hmk,hown1,hb1⟩:=make_z seal_elem w X.length (by omega) (by omega)
 have hiE:∀x,(Tryz.prog.info? 98).map (·.size)=some (cellsS x).length:=fun x=>by kernel_rfl
 have hspv:cellsS spareSeal=[.string ⟨#[115,112,97,114,101]⟩, .bool false, .int .i64 0]:=rfl
 rcases ht with ⟨rfl,rfl⟩|⟨a,c,rfl,hc,hab,hcell⟩
 ·have hmk2:(Instr.makeSlice 42 (.int .i64 0) (.int .i64 1)).run Tryz.prog w= .ok (.slice (some ⟨w.heap.size,0,none⟩) 0 1) w1:=hmk
  replace hown1:w1.ownsRow w.heap.size 98 3 (.slice (some ⟨w.heap.size,0,none⟩) 0 1) 0 []:=hown1;clear hmk;go_enter Tryz.func61,Tryz.ntmps61;go_wp2_with fail;go_loopw [3,4] (fun t i wr=>t= .slice (some ⟨w.heap.size,0,none⟩) 0 1∧i= .int .i64 0∧wr=w1) (fun _ _ _=>0)
  case atStart=>exact⟨rfl,rfl,rfl⟩
  case round=>
   obtain⟨rfl,rfl,rfl⟩:=hrel;have hown:=hown1;have hbr:=hb1;go_wp2_with(at_builtin;refine wpList_append_z seal_elem _ rfl _ _ rfl w.heap.size _ _ _ rfl hown [.string ⟨#[115,112,97,114,101]⟩, .bool false, .int .i64 0] _ rfl rfl (one_seal spareSeal) (by omega) (by omega) hbr.size ?_);intro v' w2 hown2 hgr;have hown3:w2.ownsRow w.heap.size 98 3 v' 1 (([]:List SealL).flatMap cellsS++cellsS spareSeal):=hown2;have hb2:=hbr.grown hgr hbr.size (fun g' hg'=>(hown.lt g' hg').1);obtain⟨g,c',rfl,hlc,htw⟩:=twin_of (sp:=spareSeal) (X:=([]:List SealL)) (en:=cellsS) (z:=3) (by omega) (fun _=>rfl) hown3 rfl;clear hown2 hown3 hown hgr;go_wp2_with fail;go_ret;exact⟨_,rfl,htw,hb2⟩
 ·have hrow:RowS 3 cellsS w (.slice (some a) X.length c) X:= .inr ⟨a,c,rfl,hc,hab,hcell⟩
  have HC:=Lib.hid hrow;clear hcell hrow;go_enter Tryz.func61,Tryz.ntmps61;go_wp2_with fail;go_loopw [3,4] (fun t i wr=>∃k:Nat,k≤X.length∧i= .int .i64 k∧Hid (wr.ownsRow w.heap.size 98 3 t k ((X.take k).flatMap cellsS))∧Below w.heap.size w wr) (fun _ i _=>X.length-(intOf i).toNat)
  case atStart=>exact⟨0,Nat.zero_le _,rfl,hown1,hb1⟩
  case round=>
   obtain⟨k,hk,rfl,HO,hbr⟩:=hrel;have hown:=HO.out;by_cases hlt:k<X.length
   ·have hck:=HC.out.each k hlt wr hbr
    have hsn:=flatS_snoc cellsS hlt;have HSN:=Lib.hid hsn;have hik:=hiE X[k];generalize X[k]=x at*;generalize (X.take k).flatMap cellsS=S at*;clear hsn HO hiE;go_wp2_with(first|(refine wpList_load_at (o:=⟨some 19, .load 98 (.tmp 18),_,_,_,_⟩) rfl 98 (.tmp 18) rfl (a.add (k*3)) rfl [.string ⟨x.host.toArray⟩, .bool x.subs, .int .i64 x.till] _ hck Tryz.underlying98 rfl hik ?_)|(at_builtin;refine wpList_append_z seal_elem _ rfl _ _ rfl w.heap.size _ _ _ rfl hown [.string ⟨x.host.toArray⟩, .bool x.subs, .int .i64 x.till] _ rfl rfl (one_seal x) (by omega) (by omega) hbr.size ?_));intro v' w2 hown2 hgr;go_wp2_with fail;go_roundw
    case rel=>exact⟨k+1,by omega,by go_num,by rw[HSN.out];exact hown2,hbr.grown hgr hbr.size (fun g' hg'=>(hown.lt g' hg').1)⟩
    case measure=>simp[intOf];omega
   ·obtain rfl:k=X.length:=by omega
    rw[List.take_length]at hown;generalize hS:X.flatMap cellsS=S at*;clear HO hiE;go_wp2_with(at_builtin;refine wpList_append_z seal_elem _ rfl _ _ rfl w.heap.size _ _ _ rfl hown [.string ⟨#[115,112,97,114,101]⟩, .bool false, .int .i64 0] _ rfl rfl (one_seal spareSeal) (by omega) (by omega) hbr.size ?_);intro v' w2 hown2 hgr;rw[←hS]at hown2;have hb2:=hbr.grown hgr hbr.size (fun g' hg'=>(hown.lt g' hg').1);obtain⟨g,c',rfl,hlc,htw⟩:=twin_of (sp:=spareSeal) (X:=X) (en:=cellsS) (z:=3) (by omega) (fun _=>rfl) hown2 rfl;clear hown2 hown hgr hS;go_wp2_with fail;go_ret;exact⟨_,rfl,htw,hb2⟩
theorem cookie_info:(Tryz.prog.info? 96).map (fun i=>(i.zero,i.size,i.bytes))=some (some (.agg #[.string ⟨#[]⟩, .string ⟨#[]⟩, .string ⟨#[]⟩, .bool false, .string ⟨#[]⟩, .bool false, .bool false, .int .u8 0, .int .i64 0, .int .i64 0, .int .i64 0, .int .i64 0]),12,112):=by kernel_rfl
theorem cookie_elem:ElemZ Tryz.prog 41 96 (.agg #[.string ⟨#[]⟩, .string ⟨#[]⟩, .string ⟨#[]⟩, .bool false, .string ⟨#[]⟩, .bool false, .bool false, .int .u8 0, .int .i64 0, .int .i64 0, .int .i64 0, .int .i64 0]) 12 112:=
 ⟨Tryz.underlying41,by obtain⟨i,h1,h2,h3,h4⟩:=info_parts cookie_info;exact⟨i,h1,h2,h3,h4⟩,rfl,by omega⟩
theorem one_cookie (x:CookieL):∀u∈cellsK x,u.oneCell'=true:=fun u hu=>by
 simp only[cellsK,List.mem_cons,List.not_mem_nil,or_false]at hu;rcases hu with rfl|rfl|rfl|rfl|rfl|rfl|rfl|rfl|rfl|rfl|rfl|rfl<;>rfl
def spareCookie:CookieL:=⟨[115,112,97,114,101],[],[],false,[],false,false,0,0,0,0,0⟩
set_option maxRecDepth 100000 in
theorem twincookie_any (X:List CookieL) (v:Value) (w:World) (ht:RowS 12 cellsK w v X) (hl:X.length≤1000000):
 Calls Tryz.prog 60 #[v] w fun e w'=>∃t,e= .returned t∧TwinR 12 cellsK w' w.heap.size t X spareCookie∧Below w.heap.size w w':=by
 obtain⟨w1,hmk,hown1,hb1⟩:=make_z cookie_elem w X.length (by omega) (by omega)
 have hiE:∀x,(Tryz.prog.info? 96).map (·.size)=some (cellsK x).length:=fun x=>by kernel_rfl
 have hspv:cellsK spareCookie=[.string ⟨#[115,112,97,114,101]⟩, .string ⟨#[]⟩, .string ⟨#[]⟩, .bool false, .string ⟨#[]⟩, .bool false, .bool false, .int .u8 0, .int .i64 0, .int .i64 0, .int .i64 0, .int .i64 0]:=rfl
 rcases ht with ⟨rfl,rfl⟩|⟨a,c,rfl,hc,hab,hcell⟩
 ·have hmk2:(Instr.makeSlice 41 (.int .i64 0) (.int .i64 1)).run Tryz.prog w= .ok (.slice (some ⟨w.heap.size,0,none⟩) 0 1) w1:=hmk
  replace hown1:w1.ownsRow w.heap.size 96 12 (.slice (some ⟨w.heap.size,0,none⟩) 0 1) 0 []:=hown1;clear hmk;go_enter Tryz.func60,Tryz.ntmps60;go_wp2_with fail;go_loopw [3,4] (fun t i wr=>t= .slice (some ⟨w.heap.size,0,none⟩) 0 1∧i= .int .i64 0∧wr=w1) (fun _ _ _=>0)
  case atStart=>exact⟨rfl,rfl,rfl⟩
  case round=>
   obtain⟨rfl,rfl,rfl⟩:=hrel;have hown:=hown1;have hbr:=hb1;go_wp2_with(at_builtin;refine wpList_append_z cookie_elem _ rfl _ _ rfl w.heap.size _ _ _ rfl hown [.string ⟨#[115,112,97,114,101]⟩, .string ⟨#[]⟩, .string ⟨#[]⟩, .bool false, .string ⟨#[]⟩, .bool false, .bool false, .int .u8 0, .int .i64 0, .int .i64 0, .int .i64 0, .int .i64 0] _ rfl rfl (one_cookie spareCookie) (by omega) (by omega) hbr.size ?_);intro v' w2 hown2 hgr;have hown3:w2.ownsRow w.heap.size 96 12 v' 1 (([]:List CookieL).flatMap cellsK++cellsK spareCookie):=hown2;have hb2:=hbr.grown hgr hbr.size (fun g' hg'=>(hown.lt g' hg').1);obtain⟨g,c',rfl,hlc,htw⟩:=twin_of (sp:=spareCookie) (X:=([]:List CookieL)) (en:=cellsK) (z:=12) (by omega) (fun _=>rfl) hown3 rfl;clear hown2 hown3 hown hgr;go_wp2_with fail;go_ret;exact⟨_,rfl,htw,hb2⟩
 ·have hrow:RowS 12 cellsK w (.slice (some a) X.length c) X:= .inr ⟨a,c,rfl,hc,hab,hcell⟩
  have HC:=Lib.hid hrow;clear hcell hrow;go_enter Tryz.func60,Tryz.ntmps60;go_wp2_with fail;go_loopw [3,4] (fun t i wr=>∃k:Nat,k≤X.length∧i= .int .i64 k∧Hid (wr.ownsRow w.heap.size 96 12 t k ((X.take k).flatMap cellsK))∧Below w.heap.size w wr) (fun _ i _=>X.length-(intOf i).toNat)
  case atStart=>exact⟨0,Nat.zero_le _,rfl,hown1,hb1⟩
  case round=>
   obtain⟨k,hk,rfl,HO,hbr⟩:=hrel;have hown:=HO.out;by_cases hlt:k<X.length
   ·have hck:=HC.out.each k hlt wr hbr
    have hsn:=flatS_snoc cellsK hlt;have HSN:=Lib.hid hsn;have hik:=hiE X[k];generalize X[k]=x at*;generalize (X.take k).flatMap cellsK=S at*;clear hsn HO hiE;go_wp2_with(first|(refine wpList_load_at (o:=⟨some 19, .load 96 (.tmp 18),_,_,_,_⟩) rfl 96 (.tmp 18) rfl (a.add (k*12)) rfl [.string ⟨x.name.toArray⟩, .string ⟨x.value.toArray⟩, .string ⟨x.host.toArray⟩, .bool x.bare, .string ⟨x.path.toArray⟩, .bool x.secure, .bool x.hidden, .int .u8 x.site, .int .i64 x.made, .int .i64 x.last, .int .i64 x.till, .int .i64 x.order] _ hck Tryz.underlying96 rfl hik ?_)|(at_builtin;refine wpList_append_z cookie_elem _ rfl _ _ rfl w.heap.size _ _ _ rfl hown [.string ⟨x.name.toArray⟩, .string ⟨x.value.toArray⟩, .string ⟨x.host.toArray⟩, .bool x.bare, .string ⟨x.path.toArray⟩, .bool x.secure, .bool x.hidden, .int .u8 x.site, .int .i64 x.made, .int .i64 x.last, .int .i64 x.till, .int .i64 x.order] _ rfl rfl (one_cookie x) (by omega) (by omega) hbr.size ?_));intro v' w2 hown2 hgr;go_wp2_with fail;go_roundw
    case rel=>exact⟨k+1,by omega,by go_num,by rw[HSN.out];exact hown2,hbr.grown hgr hbr.size (fun g' hg'=>(hown.lt g' hg').1)⟩
    case measure=>simp[intOf];omega
   ·obtain rfl:k=X.length:=by omega
    rw[List.take_length]at hown;generalize hS:X.flatMap cellsK=S at*;clear HO hiE;go_wp2_with(at_builtin;refine wpList_append_z cookie_elem _ rfl _ _ rfl w.heap.size _ _ _ rfl hown [.string ⟨#[115,112,97,114,101]⟩, .string ⟨#[]⟩, .string ⟨#[]⟩, .bool false, .string ⟨#[]⟩, .bool false, .bool false, .int .u8 0, .int .i64 0, .int .i64 0, .int .i64 0, .int .i64 0] _ rfl rfl (one_cookie spareCookie) (by omega) (by omega) hbr.size ?_);intro v' w2 hown2 hgr;rw[←hS]at hown2;have hb2:=hbr.grown hgr hbr.size (fun g' hg'=>(hown.lt g' hg').1);obtain⟨g,c',rfl,hlc,htw⟩:=twin_of (sp:=spareCookie) (X:=X) (en:=cellsK) (z:=12) (by omega) (fun _=>rfl) hown2 rfl;clear hown2 hown hgr hS;go_wp2_with fail;go_ret;exact⟨_,rfl,htw,hb2⟩
theorem ne_seal (x:SealL) (W:World):(binOp .neq 98 (.agg #[.string ⟨x.host.toArray⟩, .bool x.subs, .int .i64 x.till]) (.agg #[.string ⟨x.host.toArray⟩, .bool x.subs, .int .i64 x.till])).run Tryz.prog W= .ok (.bool false) W:=by
 simp[go_sem]
set_option maxRecDepth 100000 in
theorem leftseal_any (X:List SealL) (t v:Value) (w:World) (B:Nat) (htw:TwinR 3 cellsS w B t X spareSeal) (ht:RowS 3 cellsS w v X) (hl:X.length≤1000000):
 Calls Tryz.prog 66 #[t,v] w fun e w'=>e= .returned (.bool true)∧Below w.heap.size w w':=by
 obtain⟨g,c,rfl,hc,_,hr⟩:=htw
 have hbw:=Below.refl w.heap.size w
 have hsp:∀W,Below w.heap.size w W→∀j u,(cellsS spareSeal)[j]?=some u→W.cell? ((⟨g,X.length*3,none⟩:Addr).add j)=some u:=fun W hW j u hj=>by
  have:=hr.each X.length (by simp) W hW j u;rw[List.getElem_append_right (Nat.le_refl _),Addr.add_lit,Nat.zero_add]at this;exact this (by simpa using hj)
 have hci:¬(c:Int)≤(X.length:Int):=by omega
 have hR:=Lib.hid hr
 rcases ht with ⟨rfl,rfl⟩|⟨a,c2,rfl,hc2,hab,hcell⟩
 ·have h0:∀j u,(cellsS spareSeal)[j]?=some u→w.cell? ((⟨g,0,none⟩:Addr).add j)=some u:=hsp w hbw
  have hci2:¬(c:Int)≤0:=hci;have hc2:0<c:=hc;clear hsp hr;go_enter Tryz.func66,Tryz.ntmps66;go_wp2_with fail;go_loop [5] (fun i=>i= .int .i64 0) (fun _=>0)
  case atStart=>exact rfl
  case round=>
   obtain rfl:=hrel;go_wp2_with(refine wpList_load_at (o:=⟨some 42, .load 98 (.tmp 41),_,_,_,_⟩) rfl 98 (.tmp 41) rfl ⟨g,0,none⟩ rfl [.string ⟨#[115,112,97,114,101]⟩, .bool false, .int .i64 0] _ h0 Tryz.underlying98 rfl (by kernel_rfl) ?_);go_ret;exact⟨rfl,hbw.alloc hbw.size _⟩
 ·have hrow:RowS 3 cellsS w (.slice (some a) X.length c2) X:= .inr ⟨a,c2,rfl,hc2,hab,hcell⟩
  have HC:=Lib.hid hrow;have HSP:=Lib.hid hsp;clear hcell hrow hr hsp;go_enter Tryz.func66,Tryz.ntmps66;go_wp2_with fail;go_loopw [5] (fun i wr=>∃k:Nat,k≤X.length∧i= .int .i64 k∧Below w.heap.size w wr) (fun i _=>X.length-(intOf i).toNat)
  case atStart=>exact⟨0,Nat.zero_le _,rfl,hbw⟩
  case round=>
   obtain⟨k,hk,rfl,hbr⟩:=hrel;by_cases hlt:k<X.length
   ·have hki:(k:Int)<(X.length:Int):=by omega
    have hg2:∀W,Below wr.heap.size wr W→∀j u,(cellsS X[k])[j]?=some u→W.cell? ((a.add (k*3)).add j)=some u:=fun W hW=>HC.out.each k hlt W (hbr.trans (hW.mono hbr.size))
    have hg1:∀W,Below wr.heap.size wr W→∀j u,(cellsS X[k])[j]?=some u→W.cell? (((⟨g,0,none⟩:Addr).add (k*3)).add j)=some u:=fun W hW j u hj=>by
     have:=hR.out.each k (by rw[List.length_append];omega) W (hbr.trans (hW.mono hbr.size)) j u;rw[List.getElem_append_left hlt]at this;exact this hj
    generalize X[k]=x at*;go_upto_region 6 with fail;have hS:=(Below.refl wr.heap.size wr).drew;refine wp_region_held_drew (S:=fun W=>Below wr.heap.size wr W) (by kernel_rfl) hS (fun _=> ?_);refine wpAnyH_take (i:=0) (oi:=⟨some 25, .move (.tmp 0),_,_,_,_⟩) (v:= .slice (some ⟨g,0,none⟩) X.length c) rfl (by kernel_rfl) (by kernel_rfl) (by kernel_rfl) (fun _ _ _ h=>h) (.inl ⟨by rfl,fun W hW=>by go_simp⟩) hS ?_
    try simp only[Act.put,List.setIfInBounds_toArray,List.set_cons_zero,List.set_cons_succ]
    refine wpAnyH_take (i:=1) (oi:=⟨some 26, .move (.tmp 5),_,_,_,_⟩) (v:= .int .i64 k) rfl (by kernel_rfl) (by kernel_rfl) (by kernel_rfl) (fun _ _ _ h=>h) (.inl ⟨by rfl,fun W hW=>by go_simp⟩) hS ?_
    try simp only[Act.put,List.setIfInBounds_toArray,List.set_cons_zero,List.set_cons_succ]
    refine wpAnyH_take (i:=2) (oi:=⟨some 27, .indexAddr 42 (.tmp 25) (.tmp 26),_,_,_,_⟩) (v:= .pointer (some ((⟨g,0,none⟩:Addr).add (k*3)))) rfl (by kernel_rfl) (by kernel_rfl) (by kernel_rfl) (fun _ _ _ h=>h) (.inl ⟨by rfl,fun W hW=>by go_simp⟩) hS ?_
    try simp only[Act.put,List.setIfInBounds_toArray,List.set_cons_zero,List.set_cons_succ]
    refine wpAnyH_take (i:=3) (oi:=⟨some 28, .load 98 (.tmp 27),_,_,_,_⟩) (v:= .agg #[.string ⟨x.host.toArray⟩, .bool x.subs, .int .i64 x.till]) rfl (by kernel_rfl) (by kernel_rfl) (by kernel_rfl) (fun _ _ _ h=>h) (yieldsIf_load_at (by rfl) 98 (.tmp 27) rfl ((⟨g,0,none⟩:Addr).add (k*3)) rfl [.string ⟨x.host.toArray⟩, .bool x.subs, .int .i64 x.till] _ hg1 Tryz.underlying98 rfl (by kernel_rfl)) hS ?_
    try simp only[Act.put,List.setIfInBounds_toArray,List.set_cons_zero,List.set_cons_succ]
    refine wpAnyH_take (i:=4) (oi:=⟨some 29, .move (.tmp 1),_,_,_,_⟩) (v:= .slice (some a) X.length c2) rfl (by kernel_rfl) (by kernel_rfl) (by kernel_rfl) (fun _ _ _ h=>h) (.inl ⟨by rfl,fun W hW=>by go_simp⟩) hS ?_
    try simp only[Act.put,List.setIfInBounds_toArray,List.set_cons_zero,List.set_cons_succ]
    refine wpAnyH_take (i:=5) (oi:=⟨some 30, .move (.tmp 5),_,_,_,_⟩) (v:= .int .i64 k) rfl (by kernel_rfl) (by kernel_rfl) (by kernel_rfl) (fun _ _ _ h=>h) (.inl ⟨by rfl,fun W hW=>by go_simp⟩) hS ?_
    try simp only[Act.put,List.setIfInBounds_toArray,List.set_cons_zero,List.set_cons_succ]
    refine wpAnyH_take (i:=6) (oi:=⟨some 31, .indexAddr 42 (.tmp 29) (.tmp 30),_,_,_,_⟩) (v:= .pointer (some (a.add (k*3)))) rfl (by kernel_rfl) (by kernel_rfl) (by kernel_rfl) (fun _ _ _ h=>h) (.inl ⟨by rfl,fun W hW=>by go_simp⟩) hS ?_
    try simp only[Act.put,List.setIfInBounds_toArray,List.set_cons_zero,List.set_cons_succ]
    refine wpAnyH_take (i:=7) (oi:=⟨some 32, .load 98 (.tmp 31),_,_,_,_⟩) (v:= .agg #[.string ⟨x.host.toArray⟩, .bool x.subs, .int .i64 x.till]) rfl (by kernel_rfl) (by kernel_rfl) (by kernel_rfl) (fun _ _ _ h=>h) (yieldsIf_load_at (by rfl) 98 (.tmp 31) rfl (a.add (k*3)) rfl [.string ⟨x.host.toArray⟩, .bool x.subs, .int .i64 x.till] _ hg2 Tryz.underlying98 rfl (by kernel_rfl)) hS ?_
    try simp only[Act.put,List.setIfInBounds_toArray,List.set_cons_zero,List.set_cons_succ]
    refine wpAnyH_take (i:=8) (oi:=⟨some 33, .binOp .neq 98 (.tmp 28) (.tmp 32) 98,_,_,_,_⟩) (v:= .bool false) rfl (by kernel_rfl) (by kernel_rfl) (by kernel_rfl) (fun _ _ _ h=>h) (.inl ⟨by rfl,fun W hW=>by have:=ne_seal x W;go_simp⟩) hS ?_
    try simp only[Act.put,List.setIfInBounds_toArray,List.set_cons_zero,List.set_cons_succ]
    refine wpAnyH_done (by kernel_rfl) ?_ _;go_wp2_with fail;go_roundw
    case rel=>exact⟨k+1,by omega,by go_num,hbr.drew⟩
    case measure=>simp[intOf];omega
   ·obtain rfl:k=X.length:=by omega
    have h0:=HSP.out wr hbr;go_wp2_with(refine wpList_load_at (o:=⟨some 42, .load 98 (.tmp 41),_,_,_,_⟩) rfl 98 (.tmp 41) rfl ⟨g,X.length*3,none⟩ rfl [.string ⟨#[115,112,97,114,101]⟩, .bool false, .int .i64 0] _ h0 Tryz.underlying98 rfl (by kernel_rfl) ?_);go_ret;exact⟨rfl,(hbr.alloc hbr.size _)⟩
theorem ne_cookie (x:CookieL) (W:World):(binOp .neq 96 (.agg #[.string ⟨x.name.toArray⟩, .string ⟨x.value.toArray⟩, .string ⟨x.host.toArray⟩, .bool x.bare, .string ⟨x.path.toArray⟩, .bool x.secure, .bool x.hidden, .int .u8 x.site, .int .i64 x.made, .int .i64 x.last, .int .i64 x.till, .int .i64 x.order]) (.agg #[.string ⟨x.name.toArray⟩, .string ⟨x.value.toArray⟩, .string ⟨x.host.toArray⟩, .bool x.bare, .string ⟨x.path.toArray⟩, .bool x.secure, .bool x.hidden, .int .u8 x.site, .int .i64 x.made, .int .i64 x.last, .int .i64 x.till, .int .i64 x.order])).run Tryz.prog W= .ok (.bool false) W:=by
 simp[go_sem]
set_option maxRecDepth 100000 in
theorem leftcookie_any (X:List CookieL) (t v:Value) (w:World) (B:Nat) (htw:TwinR 12 cellsK w B t X spareCookie) (ht:RowS 12 cellsK w v X) (hl:X.length≤1000000):
 Calls Tryz.prog 65 #[t,v] w fun e w'=>e= .returned (.bool true)∧Below w.heap.size w w':=by
 obtain⟨g,c,rfl,hc,_,hr⟩:=htw
 have hbw:=Below.refl w.heap.size w
 have hsp:∀W,Below w.heap.size w W→∀j u,(cellsK spareCookie)[j]?=some u→W.cell? ((⟨g,X.length*12,none⟩:Addr).add j)=some u:=fun W hW j u hj=>by
  have:=hr.each X.length (by simp) W hW j u;rw[List.getElem_append_right (Nat.le_refl _),Addr.add_lit,Nat.zero_add]at this;exact this (by simpa using hj)
 have hci:¬(c:Int)≤(X.length:Int):=by omega
 have hR:=Lib.hid hr
 rcases ht with ⟨rfl,rfl⟩|⟨a,c2,rfl,hc2,hab,hcell⟩
 ·have h0:∀j u,(cellsK spareCookie)[j]?=some u→w.cell? ((⟨g,0,none⟩:Addr).add j)=some u:=hsp w hbw
  have hci2:¬(c:Int)≤0:=hci;have hc2:0<c:=hc;clear hsp hr;go_enter Tryz.func65,Tryz.ntmps65;go_wp2_with fail;go_loop [5] (fun i=>i= .int .i64 0) (fun _=>0)
  case atStart=>exact rfl
  case round=>
   obtain rfl:=hrel;go_wp2_with(refine wpList_load_at (o:=⟨some 42, .load 96 (.tmp 41),_,_,_,_⟩) rfl 96 (.tmp 41) rfl ⟨g,0,none⟩ rfl [.string ⟨#[115,112,97,114,101]⟩, .string ⟨#[]⟩, .string ⟨#[]⟩, .bool false, .string ⟨#[]⟩, .bool false, .bool false, .int .u8 0, .int .i64 0, .int .i64 0, .int .i64 0, .int .i64 0] _ h0 Tryz.underlying96 rfl (by kernel_rfl) ?_);go_ret;exact⟨rfl,hbw.alloc hbw.size _⟩
 ·have hrow:RowS 12 cellsK w (.slice (some a) X.length c2) X:= .inr ⟨a,c2,rfl,hc2,hab,hcell⟩
  have HC:=Lib.hid hrow;have HSP:=Lib.hid hsp;clear hcell hrow hr hsp;go_enter Tryz.func65,Tryz.ntmps65;go_wp2_with fail;go_loopw [5] (fun i wr=>∃k:Nat,k≤X.length∧i= .int .i64 k∧Below w.heap.size w wr) (fun i _=>X.length-(intOf i).toNat)
  case atStart=>exact⟨0,Nat.zero_le _,rfl,hbw⟩
  case round=>
   obtain⟨k,hk,rfl,hbr⟩:=hrel;by_cases hlt:k<X.length
   ·have hki:(k:Int)<(X.length:Int):=by omega
    have hg2:∀W,Below wr.heap.size wr W→∀j u,(cellsK X[k])[j]?=some u→W.cell? ((a.add (k*12)).add j)=some u:=fun W hW=>HC.out.each k hlt W (hbr.trans (hW.mono hbr.size))
    have hg1:∀W,Below wr.heap.size wr W→∀j u,(cellsK X[k])[j]?=some u→W.cell? (((⟨g,0,none⟩:Addr).add (k*12)).add j)=some u:=fun W hW j u hj=>by
     have:=hR.out.each k (by rw[List.length_append];omega) W (hbr.trans (hW.mono hbr.size)) j u;rw[List.getElem_append_left hlt]at this;exact this hj
    generalize X[k]=x at*;go_upto_region 6 with fail;have hS:=(Below.refl wr.heap.size wr).drew;refine wp_region_held_drew (S:=fun W=>Below wr.heap.size wr W) (by kernel_rfl) hS (fun _=> ?_);refine wpAnyH_take (i:=0) (oi:=⟨some 25, .move (.tmp 0),_,_,_,_⟩) (v:= .slice (some ⟨g,0,none⟩) X.length c) rfl (by kernel_rfl) (by kernel_rfl) (by kernel_rfl) (fun _ _ _ h=>h) (.inl ⟨by rfl,fun W hW=>by go_simp⟩) hS ?_
    try simp only[Act.put,List.setIfInBounds_toArray,List.set_cons_zero,List.set_cons_succ]
    refine wpAnyH_take (i:=1) (oi:=⟨some 26, .move (.tmp 5),_,_,_,_⟩) (v:= .int .i64 k) rfl (by kernel_rfl) (by kernel_rfl) (by kernel_rfl) (fun _ _ _ h=>h) (.inl ⟨by rfl,fun W hW=>by go_simp⟩) hS ?_
    try simp only[Act.put,List.setIfInBounds_toArray,List.set_cons_zero,List.set_cons_succ]
    refine wpAnyH_take (i:=2) (oi:=⟨some 27, .indexAddr 41 (.tmp 25) (.tmp 26),_,_,_,_⟩) (v:= .pointer (some ((⟨g,0,none⟩:Addr).add (k*12)))) rfl (by kernel_rfl) (by kernel_rfl) (by kernel_rfl) (fun _ _ _ h=>h) (.inl ⟨by rfl,fun W hW=>by go_simp⟩) hS ?_
    try simp only[Act.put,List.setIfInBounds_toArray,List.set_cons_zero,List.set_cons_succ]
    refine wpAnyH_take (i:=3) (oi:=⟨some 28, .load 96 (.tmp 27),_,_,_,_⟩) (v:= .agg #[.string ⟨x.name.toArray⟩, .string ⟨x.value.toArray⟩, .string ⟨x.host.toArray⟩, .bool x.bare, .string ⟨x.path.toArray⟩, .bool x.secure, .bool x.hidden, .int .u8 x.site, .int .i64 x.made, .int .i64 x.last, .int .i64 x.till, .int .i64 x.order]) rfl (by kernel_rfl) (by kernel_rfl) (by kernel_rfl) (fun _ _ _ h=>h) (yieldsIf_load_at (by rfl) 96 (.tmp 27) rfl ((⟨g,0,none⟩:Addr).add (k*12)) rfl [.string ⟨x.name.toArray⟩, .string ⟨x.value.toArray⟩, .string ⟨x.host.toArray⟩, .bool x.bare, .string ⟨x.path.toArray⟩, .bool x.secure, .bool x.hidden, .int .u8 x.site, .int .i64 x.made, .int .i64 x.last, .int .i64 x.till, .int .i64 x.order] _ hg1 Tryz.underlying96 rfl (by kernel_rfl)) hS ?_
    try simp only[Act.put,List.setIfInBounds_toArray,List.set_cons_zero,List.set_cons_succ]
    refine wpAnyH_take (i:=4) (oi:=⟨some 29, .move (.tmp 1),_,_,_,_⟩) (v:= .slice (some a) X.length c2) rfl (by kernel_rfl) (by kernel_rfl) (by kernel_rfl) (fun _ _ _ h=>h) (.inl ⟨by rfl,fun W hW=>by go_simp⟩) hS ?_
    try simp only[Act.put,List.setIfInBounds_toArray,List.set_cons_zero,List.set_cons_succ]
    refine wpAnyH_take (i:=5) (oi:=⟨some 30, .move (.tmp 5),_,_,_,_⟩) (v:= .int .i64 k) rfl (by kernel_rfl) (by kernel_rfl) (by kernel_rfl) (fun _ _ _ h=>h) (.inl ⟨by rfl,fun W hW=>by go_simp⟩) hS ?_
    try simp only[Act.put,List.setIfInBounds_toArray,List.set_cons_zero,List.set_cons_succ]
    refine wpAnyH_take (i:=6) (oi:=⟨some 31, .indexAddr 41 (.tmp 29) (.tmp 30),_,_,_,_⟩) (v:= .pointer (some (a.add (k*12)))) rfl (by kernel_rfl) (by kernel_rfl) (by kernel_rfl) (fun _ _ _ h=>h) (.inl ⟨by rfl,fun W hW=>by go_simp⟩) hS ?_
    try simp only[Act.put,List.setIfInBounds_toArray,List.set_cons_zero,List.set_cons_succ]
    refine wpAnyH_take (i:=7) (oi:=⟨some 32, .load 96 (.tmp 31),_,_,_,_⟩) (v:= .agg #[.string ⟨x.name.toArray⟩, .string ⟨x.value.toArray⟩, .string ⟨x.host.toArray⟩, .bool x.bare, .string ⟨x.path.toArray⟩, .bool x.secure, .bool x.hidden, .int .u8 x.site, .int .i64 x.made, .int .i64 x.last, .int .i64 x.till, .int .i64 x.order]) rfl (by kernel_rfl) (by kernel_rfl) (by kernel_rfl) (fun _ _ _ h=>h) (yieldsIf_load_at (by rfl) 96 (.tmp 31) rfl (a.add (k*12)) rfl [.string ⟨x.name.toArray⟩, .string ⟨x.value.toArray⟩, .string ⟨x.host.toArray⟩, .bool x.bare, .string ⟨x.path.toArray⟩, .bool x.secure, .bool x.hidden, .int .u8 x.site, .int .i64 x.made, .int .i64 x.last, .int .i64 x.till, .int .i64 x.order] _ hg2 Tryz.underlying96 rfl (by kernel_rfl)) hS ?_
    try simp only[Act.put,List.setIfInBounds_toArray,List.set_cons_zero,List.set_cons_succ]
    refine wpAnyH_take (i:=8) (oi:=⟨some 33, .binOp .neq 96 (.tmp 28) (.tmp 32) 96,_,_,_,_⟩) (v:= .bool false) rfl (by kernel_rfl) (by kernel_rfl) (by kernel_rfl) (fun _ _ _ h=>h) (.inl ⟨by rfl,fun W hW=>by have:=ne_cookie x W;go_simp⟩) hS ?_
    try simp only[Act.put,List.setIfInBounds_toArray,List.set_cons_zero,List.set_cons_succ]
    refine wpAnyH_done (by kernel_rfl) ?_ _;go_wp2_with fail;go_roundw
    case rel=>exact⟨k+1,by omega,by go_num,hbr.drew⟩
    case measure=>simp[intOf];omega
   ·obtain rfl:k=X.length:=by omega
    have h0:=HSP.out wr hbr;go_wp2_with(refine wpList_load_at (o:=⟨some 42, .load 96 (.tmp 41),_,_,_,_⟩) rfl 96 (.tmp 41) rfl ⟨g,X.length*12,none⟩ rfl [.string ⟨#[115,112,97,114,101]⟩, .string ⟨#[]⟩, .string ⟨#[]⟩, .bool false, .string ⟨#[]⟩, .bool false, .bool false, .int .u8 0, .int .i64 0, .int .i64 0, .int .i64 0, .int .i64 0] _ h0 Tryz.underlying96 rfl (by kernel_rfl) ?_);go_ret;exact⟨rfl,(hbr.alloc hbr.size _)⟩
theorem RowS.other {α:Type} {z:Nat} {en:α→List Value} {w W:World} {a:Addr} {n c:Nat} {X:List α} (h:RowS z en w (.slice (some a) n c) X) (e:W.heap[a.block]?=w.heap[a.block]?):RowS z en W (.slice (some a) n c) X:=by
 rcases h with ⟨h1,_⟩|⟨a',c',h1,h2,h3,h4⟩
 ·cases h1
 ·injection h1 with e1 e2 e3
  injection e1 with e1;subst e1 e2 e3;exact .inr ⟨a,c,rfl,h2,fun h0=>by
   have h5:W.heap[a.block]?=some (w.heap[a.block]'(h3 h0)):=by rw[e];exact Array.getElem?_eq_getElem (h3 h0)
   exact(Array.getElem?_eq_some_iff.1 h5).1,fun k hk j u hj=>(World.cell?_of_block (w:=w) (by rw[Go.ChangeShapes.block_add];exact e)).trans (h4 k hk j u hj)⟩
theorem TwinR.set {α:Type} {z:Nat} {en:α→List Value} {w:World} {B:Nat} {v:Value} {X:List α} {sp:α} (h:TwinR z en w B v X sp) {p:Addr} (hp:p.block<B) (u:Value):TwinR z en (w.setCell p u) B v X sp:=by
 obtain⟨g,c,h1,h2,h3,h4⟩:=h;exact⟨g,c,h1,h2,h3,h4.other (Below.heap_setCell _ _ _ _ (by show g≠p.block;omega))⟩
theorem TwinR.low {α:Type} {z:Nat} {en:α→List Value} {w:World} {B B':Nat} {v:Value} {X:List α} {sp:α} (h:TwinR z en w B v X sp) (hb:B'≤B):TwinR z en w B' v X sp:=by
 obtain⟨g,c,h1,h2,h3,h4⟩:=h;exact⟨g,c,h1,h2,by omega,h4⟩
def TwinK (w:World) (B:Nat) (a b:Value) (J:List CookieL) (S:List SealL):Prop:=TwinR 12 cellsK w B a J spareCookie∧TwinR 3 cellsS w B b S spareSeal
theorem keep_results {B:Nat} {W:World} {a b:Value} {n:Int} {tmps:Array Value} (h2:tmps[2]?.getD undef= .pointer (some ⟨B,0,none⟩)) (hB:W.heap[B]?=some (.cells #[a,b, .int .i64 n] 44 (0,0))):
 (results Tryz.f25 tmps).run Tryz.prog W= .ok (keepV a b n) W:=by
 have c0:W.cell? ⟨B,0,none⟩=some a:=by rw[Lib.cell_of_heap hB];rfl
 have c1:W.cell? ⟨B,1,none⟩=some b:=by rw[Lib.cell_of_heap hB];rfl
 have c2:W.cell? ⟨B,2,none⟩=some (.int .i64 n):=by rw[Lib.cell_of_heap hB];rfl
 simp[results,Tryz.results25,go_sem,h2,c0,c1,c2]
 rfl
set_option maxRecDepth 100000 in
theorem twinkeep_any (a b:Value) (n:Int) (J:List CookieL) (S:List SealL) (w:World) (hJ:RowS 12 cellsK w a J) (hS:RowS 3 cellsS w b S) (lJ:J.length≤1000000) (lS:S.length≤1000000):
 Calls Tryz.prog 25 #[keepV a b n] w fun e w'=>∃a' b',e= .returned (keepV a' b' n)∧TwinK w' w.heap.size a' b' J S∧Below w.heap.size w w':=by
 obtain⟨w0,hw0⟩:∃W,(w.alloc (.cells #[a,b, .int .i64 n] 44)).alloc (.cells #[.slice none 0 0, .slice none 0 0, .int .i64 0] 44)=W:=⟨_,rfl⟩
 have hb0:Below w.heap.size w w0:=by rw[←hw0];exact(below_alloc w _).alloc (by rw[World.size_alloc];omega) _
 have hA:w0.heap[w.heap.size]?=some (.cells #[a,b, .int .i64 n] 44 (0,0)):=by rw[←hw0];exact((below_alloc _ _).block _ (by rw[World.size_alloc];omega)).trans (heap_alloc_new w _)
 have hB:w0.heap[w.heap.size+1]?=some (.cells #[.slice none 0 0, .slice none 0 0, .int .i64 0] 44 (0,0)):=by
  rw[←hw0];have:=heap_alloc_new (w.alloc (.cells #[a,b, .int .i64 n] 44)) (.cells #[.slice none 0 0, .slice none 0 0, .int .i64 0] 44);rw[World.size_alloc]at this;exact this
 have hl0:=(Array.getElem?_eq_some_iff.1 hA).1
 have hl1:=(Array.getElem?_eq_some_iff.1 hB).1
 have cA:∀W,Below w0.heap.size w0 W→W.cell? ⟨w.heap.size,0,none⟩=some a∧W.cell? ⟨w.heap.size,1,none⟩=some b∧W.cell? ⟨w.heap.size,2,none⟩=some (.int .i64 n):=fun W hW=>by
  have h:=(hW.block _ hl0).trans hA;exact⟨by rw[Lib.cell_of_heap h];rfl,by rw[Lib.cell_of_heap h];rfl,by rw[Lib.cell_of_heap h];rfl⟩
 have cB:∀W,Below w0.heap.size w0 W→(W.cell? ⟨w.heap.size+1,0,none⟩=some (.slice none 0 0)∧W.cell? ⟨w.heap.size+1,1,none⟩=some (.slice none 0 0)∧W.cell? ⟨w.heap.size+1,2,none⟩=some (.int .i64 0))∧(W.frozen? ⟨w.heap.size+1,0,none⟩=false∧W.frozen? ⟨w.heap.size+1,1,none⟩=false∧W.frozen? ⟨w.heap.size+1,2,none⟩=false):=fun W hW=>by
  have h:=(hW.block _ hl1).trans hB;exact⟨⟨by rw[Lib.cell_of_heap h];rfl,by rw[Lib.cell_of_heap h];rfl,by rw[Lib.cell_of_heap h];rfl⟩,Lib.frozen_of_heap h 0,Lib.frozen_of_heap h 1,Lib.frozen_of_heap h 2⟩
 have cj:=fun W (hW:Below w0.heap.size w0 W)=>twincookie_any J a W (hJ.below (hb0.trans (hW.mono hb0.size)) (Nat.le_refl _)) lJ
 have cs:=fun W (hW:Below w0.heap.size w0 W)=>twinseal_any S b W (hS.below (hb0.trans (hW.mono hb0.size)) (Nat.le_refl _)) lS
 have hbw:=Below.refl w0.heap.size w0
 obtain⟨a1,a2,a3,rfl, -⟩:=hJ.conc
 obtain⟨b1,b2,b3,rfl, -⟩:=hS.conc
 obtain⟨p0,p1,p2⟩:=cA _ hbw.drew
 obtain⟨x0,x1,x2⟩:=cA _ hbw
 have HW:=Lib.hid hw0
 clear hw0 hJ hS
 unfold keepV
 go_enter Tryz.func25,Tryz.ntmps25
 go_upto_region 1 with fail
 rw[HW.out]
 clear HW
 have hS:(fun W:World=>Below w.heap.size w W∧W.heap[w.heap.size]?=some (.cells #[.slice a1 a2 a3, .slice b1 b2 b3, .int .i64 n] 44 (0,0))) w0.drew:=⟨hb0.drew,hA⟩
 have cS:∀W,(Below w.heap.size w W∧W.heap[w.heap.size]?=some (.cells #[.slice a1 a2 a3, .slice b1 b2 b3, .int .i64 n] 44 (0,0)))→W.cell? ⟨w.heap.size,0,none⟩=some (.slice a1 a2 a3)∧W.cell? ⟨w.heap.size,1,none⟩=some (.slice b1 b2 b3)∧W.cell? ⟨w.heap.size,2,none⟩=some (.int .i64 n):=fun W ⟨_,h⟩=>⟨by rw[Lib.cell_of_heap h];rfl,by rw[Lib.cell_of_heap h];rfl,by rw[Lib.cell_of_heap h];rfl⟩
 have hbA:∀W,Below w0.heap.size w0 W→W.heap[w.heap.size]?=some (.cells #[.slice a1 a2 a3, .slice b1 b2 b3, .int .i64 n] 44 (0,0)):=fun W hW=>(hW.block _ hl0).trans hA
 clear p0 p1 p2 x0 x1 x2 cA
 refine wp_region_held_drew (S:=fun W=>Below w.heap.size w W∧W.heap[w.heap.size]?=some (.cells #[.slice a1 a2 a3, .slice b1 b2 b3, .int .i64 n] 44 (0,0))) (by kernel_rfl) hS (fun _=> ?_)
 refine wpAnyH_take (i:=0) (oi:=⟨some 3, .fieldAddr 44 (.tmp 1) 0,_,_,_,_⟩) (v:= .pointer (some ⟨w.heap.size,0,none⟩)) rfl (by kernel_rfl) (by kernel_rfl) (by kernel_rfl) (fun _ _ _ h=>h) (.inl ⟨by rfl,fun W hW=>by go_simp⟩) hS ?_
 try simp only[Act.put,List.setIfInBounds_toArray,List.set_cons_zero,List.set_cons_succ]
 refine wpAnyH_take (i:=1) (oi:=⟨some 4, .load 41 (.tmp 3),_,_,_,_⟩) (v:= .slice a1 a2 a3) rfl (by kernel_rfl) (by kernel_rfl) (by kernel_rfl) (fun _ _ _ h=>h) (.inl ⟨by rfl,fun W hW=>by obtain⟨c0,c1,c2⟩:=cS W hW;go_simp⟩) hS ?_
 try simp only[Act.put,List.setIfInBounds_toArray,List.set_cons_zero,List.set_cons_succ]
 refine wpAnyH_take (i:=3) (oi:=⟨some 6, .fieldAddr 44 (.tmp 1) 1,_,_,_,_⟩) (v:= .pointer (some ⟨w.heap.size,1,none⟩)) rfl (by kernel_rfl) (by kernel_rfl) (by kernel_rfl) (fun _ _ _ h=>h) (.inl ⟨by rfl,fun W hW=>by go_simp⟩) hS ?_
 try simp only[Act.put,List.setIfInBounds_toArray,List.set_cons_zero,List.set_cons_succ]
 refine wpAnyH_take (i:=4) (oi:=⟨some 7, .load 42 (.tmp 6),_,_,_,_⟩) (v:= .slice b1 b2 b3) rfl (by kernel_rfl) (by kernel_rfl) (by kernel_rfl) (fun _ _ _ h=>h) (.inl ⟨by rfl,fun W hW=>by obtain⟨c0,c1,c2⟩:=cS W hW;go_simp⟩) hS ?_
 try simp only[Act.put,List.setIfInBounds_toArray,List.set_cons_zero,List.set_cons_succ]
 refine wpAnyH_take (i:=6) (oi:=⟨some 9, .fieldAddr 44 (.tmp 1) 2,_,_,_,_⟩) (v:= .pointer (some ⟨w.heap.size,2,none⟩)) rfl (by kernel_rfl) (by kernel_rfl) (by kernel_rfl) (fun _ _ _ h=>h) (.inl ⟨by rfl,fun W hW=>by go_simp⟩) hS ?_
 try simp only[Act.put,List.setIfInBounds_toArray,List.set_cons_zero,List.set_cons_succ]
 refine wpAnyH_take (i:=7) (oi:=⟨some 10, .load 3 (.tmp 9),_,_,_,_⟩) (v:= .int .i64 n) rfl (by kernel_rfl) (by kernel_rfl) (by kernel_rfl) (fun _ _ _ h=>h) (.inl ⟨by rfl,fun W hW=>by obtain⟨c0,c1,c2⟩:=cS W hW;go_simp⟩) hS ?_
 try simp only[Act.put,List.setIfInBounds_toArray,List.set_cons_zero,List.set_cons_succ]
 refine wpAnyH_ready (rs:=[2]) (by kernel_rfl) (by simp) ?_
 refine AllReadyH.cons (o:=⟨some 5, .call {callee:= .value (.func 60),args:= #[.tmp 4],argTypes:= #[41]},_,_,_,_⟩) rfl (fun K hK=> ?_) AllReadyH.nil
 go_simp
 go_at_call 60
 refine(cj _ hbw.drew).mono ?_
 rintro e w1 ⟨t1,rfl,ht1,hb1⟩
 obtain⟨m1,m2,m3,rfl, -⟩:=ht1.row.conc
 go_wp2_with fail
 have h1:=below_nx hbw.drew hb1
 have hS1:(fun W:World=>Below w.heap.size w W∧W.heap[w.heap.size]?=some (.cells #[.slice a1 a2 a3, .slice b1 b2 b3, .int .i64 n] 44 (0,0))) w1:=⟨below_nx hb0 h1,hbA _ h1⟩
 refine hK.out _ _ hS1 (fun _=> ?_)
 clear hK hS K
 have hS:=hS1
 clear hS1
 try simp only[Act.put,List.setIfInBounds_toArray,List.set_cons_zero,List.set_cons_succ]
 refine wpAnyH_ready (rs:=[5]) (by kernel_rfl) (by simp) ?_
 refine AllReadyH.cons (o:=⟨some 8, .call {callee:= .value (.func 61),args:= #[.tmp 7],argTypes:= #[42]},_,_,_,_⟩) rfl (fun K hK=> ?_) AllReadyH.nil
 go_simp
 go_at_call 61
 refine(cs _ h1).mono ?_
 rintro e w2 ⟨t2,rfl,ht2,hb2⟩
 obtain⟨n1,n2,n3,rfl, -⟩:=ht2.row.conc
 go_wp2_with fail
 have h2:=below_nx h1 hb2
 have hS1:(fun W:World=>Below w.heap.size w W∧W.heap[w.heap.size]?=some (.cells #[.slice a1 a2 a3, .slice b1 b2 b3, .int .i64 n] 44 (0,0))) w2:=⟨below_nx hb0 h2,hbA _ h2⟩
 refine hK.out _ _ hS1 (fun _=> ?_)
 clear hK hS K
 have hS:=hS1
 clear hS1
 try simp only[Act.put,List.setIfInBounds_toArray,List.set_cons_zero,List.set_cons_succ]
 refine wpAnyH_take (i:=8) (oi:=⟨some 11, .build 44 #[(0, .tmp 5),(1, .tmp 8),(2, .tmp 10)],_,_,_,_⟩) (v:= .agg #[.slice m1 m2 m3, .slice n1 n2 n3, .int .i64 n]) rfl (by kernel_rfl) (by kernel_rfl) (by kernel_rfl) (fun _ _ _ h=>h) (.inl ⟨by rfl,fun W hW=>by go_simp⟩) hS ?_
 try simp only[Act.put,List.setIfInBounds_toArray,List.set_cons_zero,List.set_cons_succ]
 obtain⟨⟨u0,u1,u2⟩,⟨v0,v1,v2⟩⟩:=cB _ h2
 refine wpAnyH_ready (rs:=[9]) (by kernel_rfl) (by simp) ?_
 refine AllReadyH.cons (o:=⟨none, .store 44 (.tmp 2) (.tmp 11),_,_,_,_⟩) rfl (fun K hK=> ?_) AllReadyH.nil
 go_simp
 have hB2:=(h2.block _ hl1).trans hB
 have hA2:=hbA _ h2
 have hz:w.heap.size+1<w0.heap.size:=hl1
 have hs1:w0.heap.size≤w1.heap.size:=h1.size
 obtain⟨W3,hW3⟩:∃W,((w2.setCell ⟨w.heap.size+1,0,none⟩ (.slice m1 m2 m3)).setCell ⟨w.heap.size+1,1,none⟩ (.slice n1 n2 n3)).setCell ⟨w.heap.size+1,2,none⟩ (.int .i64 n)=W:=⟨_,rfl⟩
 have hR:W3.heap[w.heap.size+1]?=some (.cells #[.slice m1 m2 m3, .slice n1 n2 n3, .int .i64 n] 44 (0,0)):=by rw[←hW3];exact heap_setCell_in (heap_setCell_in (heap_setCell_in hB2 0 (.slice m1 m2 m3)) 1 (.slice n1 n2 n3)) 2 (.int .i64 n)
 have hA3:W3.heap[w.heap.size]?=some (.cells #[.slice a1 a2 a3, .slice b1 b2 b3, .int .i64 n] 44 (0,0)):=by
  rw[←hW3];exact(Below.heap_setCell _ _ _ _ (by show w.heap.size≠w.heap.size+1;omega)).trans ((Below.heap_setCell _ _ _ _ (by show w.heap.size≠w.heap.size+1;omega)).trans ((Below.heap_setCell _ _ _ _ (by show w.heap.size≠w.heap.size+1;omega)).trans hA2))
 have hT1:TwinR 12 cellsK W3 w.heap.size (.slice m1 m2 m3) J spareCookie:=by
  rw[←hW3];exact((((ht1.below hb2).set (p:=⟨w.heap.size+1,0,none⟩) (by exact hz) _).set (p:=⟨w.heap.size+1,1,none⟩) (by exact hz) _).set (p:=⟨w.heap.size+1,2,none⟩) (by exact hz) _).low (by show w.heap.size≤w0.heap.size;omega)
 have hT2:TwinR 3 cellsS W3 w.heap.size (.slice n1 n2 n3) S spareSeal:=by
  rw[←hW3];exact(((ht2.set (p:=⟨w.heap.size+1,0,none⟩) (by show w.heap.size+1<w1.heap.size;omega) _).set (p:=⟨w.heap.size+1,1,none⟩) (by show w.heap.size+1<w1.heap.size;omega) _).set (p:=⟨w.heap.size+1,2,none⟩) (by show w.heap.size+1<w1.heap.size;omega) _).low (by omega)
 have hb3:Below w.heap.size w W3:=by
  rw[←hW3];exact(((below_nx hb0 h2).setCell (p:=⟨w.heap.size+1,0,none⟩) (Nat.le_succ _) _).setCell (p:=⟨w.heap.size+1,1,none⟩) (Nat.le_succ _) _).setCell (p:=⟨w.heap.size+1,2,none⟩) (Nat.le_succ _) _
 rw[hW3]
 go_wp2_with fail
 refine hK.out _ _ ⟨hb3,hA3⟩ (fun _=> ?_)
 clear hK K hW3 u0 u1 u2 v0 v1 v2 hB2 hB cB hS hbA cS cs cj
 refine wpAnyH_done (by kernel_rfl) ?_ _
 go_wp2_with fail
 exact bodyPost_ret (keep_results rfl hR) rfl ⟨_,_,rfl,⟨hT1,hT2⟩,hb3⟩
set_option maxRecDepth 100000 in
theorem leftkeep_any (a b ta tb:Value) (n:Int) (J:List CookieL) (S:List SealL) (B:Nat) (w:World) (hT:TwinK w B ta tb J S) (hJ:RowS 12 cellsK w a J) (hS:RowS 3 cellsS w b S) (lJ:J.length≤1000000) (lS:S.length≤1000000):
 Calls Tryz.prog 30 #[keepV ta tb n,keepV a b n] w fun e w'=>e= .returned (.bool true)∧Below w.heap.size w w':=by
 obtain⟨w0,hw0⟩:∃W,(w.alloc (.cells #[ta,tb, .int .i64 n] 44)).alloc (.cells #[a,b, .int .i64 n] 44)=W:=⟨_,rfl⟩
 have hb0:Below w.heap.size w w0:=by rw[←hw0];exact(below_alloc w _).alloc (by rw[World.size_alloc];omega) _
 have hA:w0.heap[w.heap.size]?=some (.cells #[ta,tb, .int .i64 n] 44 (0,0)):=by rw[←hw0];exact((below_alloc _ _).block _ (by rw[World.size_alloc];omega)).trans (heap_alloc_new w _)
 have hB:w0.heap[w.heap.size+1]?=some (.cells #[a,b, .int .i64 n] 44 (0,0)):=by
  rw[←hw0];have:=heap_alloc_new (w.alloc (.cells #[ta,tb, .int .i64 n] 44)) (.cells #[a,b, .int .i64 n] 44);rw[World.size_alloc]at this;exact this
 have hl0:=(Array.getElem?_eq_some_iff.1 hA).1
 have hl1:=(Array.getElem?_eq_some_iff.1 hB).1
 have cA:∀W,Below w0.heap.size w0 W→(W.cell? ⟨w.heap.size,0,none⟩=some ta∧W.cell? ⟨w.heap.size,1,none⟩=some tb∧W.cell? ⟨w.heap.size,2,none⟩=some (.int .i64 n))∧W.cell? ⟨w.heap.size+1,0,none⟩=some a∧W.cell? ⟨w.heap.size+1,1,none⟩=some b∧W.cell? ⟨w.heap.size+1,2,none⟩=some (.int .i64 n):=fun W hW=>by
  have h:=(hW.block _ hl0).trans hA;have h':=(hW.block _ hl1).trans hB;exact⟨⟨by rw[Lib.cell_of_heap h];rfl,by rw[Lib.cell_of_heap h];rfl,by rw[Lib.cell_of_heap h];rfl⟩,by rw[Lib.cell_of_heap h'];rfl,by rw[Lib.cell_of_heap h'];rfl,by rw[Lib.cell_of_heap h'];rfl⟩
 have cj:=fun W (hW:Below w0.heap.size w0 W)=>leftcookie_any J ta a W B (hT.1.below (below_nx hb0 hW)) (hJ.below (below_nx hb0 hW) (Nat.le_refl _)) lJ
 have cs:=fun W (hW:Below w0.heap.size w0 W)=>leftseal_any S tb b W B (hT.2.below (below_nx hb0 hW)) (hS.below (below_nx hb0 hW) (Nat.le_refl _)) lS
 have hbw:=Below.refl w0.heap.size w0
 obtain⟨a1,a2,a3,rfl, -⟩:=hJ.conc
 obtain⟨b1,b2,b3,rfl, -⟩:=hS.conc
 obtain⟨c1,c2,c3,rfl, -⟩:=hT.1.row.conc
 obtain⟨d1,d2,d3,rfl, -⟩:=hT.2.row.conc
 obtain⟨⟨p0,p1,p2⟩,q0,q1,q2⟩:=cA _ hbw
 have HW:=Lib.hid hw0
 clear hw0 hA hJ hS hT hB
 unfold keepV
 go_enter Tryz.func30,Tryz.ntmps30
 go_upto_region 1 with fail
 rw[HW.out]
 clear HW
 go_wp2_with(first|(go_at_call 65;refine(cj _ hbw).mono ?_;rintro e w1 ⟨rfl,hb1⟩;clear p0 p1 p2 q0 q1 q2 cj;obtain⟨⟨p0,p1,p2⟩,q0,q1,q2⟩:=cA _ hb1)|(go_at_call 66;refine(cs _ hb1).mono ?_;rintro e w2 ⟨rfl,hb2⟩;have h2:=below_nx hb1 hb2;clear p0 p1 p2 q0 q1 q2 cs;obtain⟨⟨p0,p1,p2⟩,q0,q1,q2⟩:=cA _ h2))
 go_ret
 exact⟨by first|rfl|simp,below_nx hb0 h2⟩
end Go.Proofs.YtlhcfmcbpljbiaaGreatDoor
