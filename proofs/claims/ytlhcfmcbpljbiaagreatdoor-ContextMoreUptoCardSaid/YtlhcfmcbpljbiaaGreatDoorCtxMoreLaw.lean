/- footmanlaw14.great and ContextMore walked. -/
import Derived.Test.YtlhcfmcbpljbiaaGreatDoorGCtx3
import Derived.Test.YtlhcfmcbpljbiaaGreatDoorGOpA
import Derived.Test.YtlhcfmcbpljbiaaGreatDoorGSu5
set_option linter.unusedVariables false
set_option linter.unusedSimpArgs false
set_option maxHeartbeats 16000000
namespace Go.Proofs.YtlhcfmcbpljbiaaGreatDoor
open Go.RowKit
set_option maxRecDepth 100000 in
theorem great_ask (r y:Value) (L:List (List UInt8)) (X:List UrlL) (C:Array Value) (w:World) (hT:Txt w r L) (hl:L.length≤140737488351232) (hs:∀p∈L,p.length≤140737488351232) (hX:RowS 10 cellsU w y X) (h0:C[0]?=some r) (h23:C[23]?=some y):
 Calls Tryz.prog 17 #[.agg C] w fun e w'=>e= .returned (.bool (decide (20000<textsN L)||decide (100<X.length)))∧Below w.heap.size w w':=by
 obtain⟨a,n,c,rfl,hn,hc⟩:=hX.conc
 obtain⟨W0,hW0⟩:∃W,w.alloc (.cells C 36)=W:=⟨_,rfl⟩
 have hB0:W0.heap[w.heap.size]?=some (.cells C 36 (0,0)):=by rw[←hW0];exact heap_alloc_new w _
 have hb0:Below w.heap.size w W0:=by rw[←hW0];exact below_alloc w _
 have c0:W0.cell? ⟨w.heap.size,0,none⟩=some r:=by rw[cell_of_row W0 _ 0 _ _ _ hB0];exact h0
 have c23:W0.cell? ⟨w.heap.size,23,none⟩=some (.slice a n c):=by rw[cell_of_row W0 _ 23 _ _ _ hB0];exact h23
 have hl0:=(Array.getElem?_eq_some_iff.1 hB0).1
 have ct:=texts_size_any L r W0 (hT.below hb0 (Nat.le_refl _)) hl hs
 obtain⟨r1,r2,r3,rfl⟩:∃p n c,r= .slice p n c:=by
  rcases hT with ⟨h1,_⟩|⟨a,c,h1,_⟩<;>exact⟨_,_,_,h1⟩
 generalize textsN L=N at*
 subst hn
 clear hB0 hT hX hl hs h0 h23
 go_enter Tryz.func17,Tryz.ntmps17
 go_upto_region 1 with fail
 try rw[hW0]
 clear hW0
 by_cases hN:20000<N
 ·have hNi:(20000:Int)<(N:Int):=by omega
  go_wp2_with(go_at_call 9;refine ct.mono ?_;rintro e w1 ⟨rfl,rfl⟩);go_ret;exact⟨by rw[decide_eq_true hN];rfl,hb0⟩
 ·have hNi:(N:Int)≤20000:=by omega
  go_wp2_with(go_at_call 9;refine ct.mono ?_;rintro e w1 ⟨rfl,rfl⟩);go_ret;have e1:decide ((20000:Int)<(N:Int))=false:=decide_eq_false (by omega);have e2:decide ((100:Int)<(X.length:Int))=decide (100<X.length):=decide_eq_decide.2 (by omega);exact⟨by rw[decide_eq_false hN];simp[e1,e2],hb0⟩
theorem below_dn {B:Nat} {a w:World} (h:Below B a w) (k:Nat):Below B a (w.drewN k):=⟨h.os,h.tape,h.output,h.size,h.block⟩
set_option maxRecDepth 100000 in
theorem cmore_law (r:Value) (L:List (List UInt8)) (k:Int) (f t:UrlL) (m:List UInt8) (y:Value) (X:List UrlL) (w:World) (hT:Txt w r L) (hs:∀p∈L,LenK 1048576 p) (hl:L.length≤1048576) (hk:0≤k∧k≤255) (zf:SizU 1048576 f) (zt:SizU 1048576 t) (zm:LenK 1048576 m)
 (hX:RowS 10 cellsU w y X) (zX:∀x∈X,SizU 1048576 x) (hE:EnvH w):
 Calls Tryz.prog 5 #[.agg (askingC r (askC k f t m).toList y).toArray] w fun e w'=>e= .returned (.bool true)∧Below w.heap.size w w':=by
 have hone:=ask_one k f t m
 obtain⟨CS,hCS⟩:∃cs,(askC k f t m).toList=cs:=⟨_,rfl⟩
 have hV:askV k f t m= .agg CS.toArray:=by rw[←hCS];rfl
 have hlen:CS.length=22:=by rw[←hCS];rfl
 have hne:CS≠[]:=by rw[←hCS];exact List.cons_ne_nil _ _
 have hi22:(Tryz.prog.info? 33).map (·.size)=some CS.length:=by rw[←hCS];kernel_rfl
 obtain⟨C,hC⟩:∃C,(askingC r CS y).toArray=C:=⟨_,rfl⟩
 have G0:C[0]?=some r:=by rw[←hC];rfl
 have G23:C[23]?=some y:=by
  rw[←hC];unfold askingC;rw[List.getElem?_toArray,List.getElem?_append_right (by simp),List.getElem?_append_right (by simp[hlen])];simp[hlen]
 have hmid:∀j v,CS[j]?=some v→C[1+j]?=some v:=fun j v hj=>by
  have hjl:=(List.getElem?_eq_some_iff.1 hj).1;rw[←hC];unfold askingC;rw[List.getElem?_toArray,List.getElem?_append_right (by simp),show 1+j - [r].length=j by simp,List.getElem?_append_left hjl];exact hj
 have hi24:(Tryz.prog.info? 36).map (·.size)=some C.size:=by
  rw[←hC];show _=some (askingC r CS y).length;rw[show(askingC r CS y).length=24 by simp[askingC,hlen]];kernel_rfl
 rw[hCS,hC]
 obtain⟨W0,hW0⟩:∃W,w.alloc (.cells C 36)=W:=⟨_,rfl⟩
 have hB0:W0.heap[w.heap.size]?=some (.cells C 36 (0,0)):=by rw[←hW0];exact heap_alloc_new w _
 have hb0:Below w.heap.size w W0:=by rw[←hW0];exact below_alloc w _
 have hl0:=(Array.getElem?_eq_some_iff.1 hB0).1
 have cg:=great_ask r y L X C W0 (hT.below hb0 (Nat.le_refl _)) (by omega) (fun p hp=>(hs p hp).1) (hX.below hb0 (Nat.le_refl _)) G0 G23
 have cl:=fun W (hW:Below w.heap.size w W)=>lives14 W (hE.below hW)
 have hfz:sizeU f≤1000000000:=zf.size
 have htz:sizeU t≤1000000000:=zt.size
 have hLl:¬20000<textsN L→L.length≤1000000:=fun h=>by have:=sizeF_ge L L.length;unfold textsN at h;omega
 have hC0:∀W,Below W0.heap.size W0 W→W.cell? ⟨w.heap.size,0,none⟩=some r:=fun W hW=>by rw[cell_of_row W _ 0 _ _ _ ((hW.block _ hl0).trans hB0)];exact G0
 have hC23:∀W,Below W0.heap.size W0 W→W.cell? ⟨w.heap.size,23,none⟩=some y:=fun W hW=>by rw[cell_of_row W _ 23 _ _ _ ((hW.block _ hl0).trans hB0)];exact G23
 have hMM:∀W,Below W0.heap.size W0 W→W.rangeAt w.heap.size 1 CS:=fun W hW j v hv=>by rw[cell_of_row W _ (1+j) _ _ _ ((hW.block _ hl0).trans hB0)];exact hmid j v hv
 have cnr:¬20000<textsN L→∀(v:Value) (Y:List UrlL) (W:World),Below W0.heap.size W0 W→RowS 10 cellsU W v Y→Y.length≤1000→(Y=[]→v= .slice none 0 0)→(∀x∈Y,x∈X)→
  Calls Tryz.prog 21 #[r, .agg CS.toArray,v] W fun e W'=>e= .returned (.bool (nearL L k f t m Y))∧Below W.heap.size W W':=fun hN v Y W hW hr hY h0 hin=>by
  rw[←hV]
  have hWw:=hb0.trans (hW.mono hb0.size)
  exact near_any L k f t m r v Y W (hE.below hWw) (hT.below hWw (Nat.le_refl _)) (hLl hN) (fun p hp=>by have:=(hs p hp).2;omega) hr (by omega) h0 (fun x hx=>⟨(zX x (hin x hx)).size,(zX x (hin x hx)).high⟩) hk hfz htz zf.high zt.high zm.1
 have hXW:∀W,Below W0.heap.size W0 W→RowS 10 cellsU W y X:=fun W hW=>hX.below (hb0.trans (hW.mono hb0.size)) (Nat.le_refl _)
 have hbw0:=Below.refl W0.heap.size W0
 obtain⟨ya,yn,yc,rfl,hyn,hync⟩:=hX.conc
 subst hyn
 have NE:=fun (hN:¬20000<textsN L)=>Lib.hid (cnr hN)
 clear hV hC hmid hone hlen hT hs hl hk zf zt zm hX zX hE hfz htz hLl G0 G23 hCS cnr
 go_enter Tryz.func5,Tryz.ntmps5
 go_upto_region 1 with fail
 try rw[hW0]
 clear hW0
 have c23:=hC23 W0 hbw0
 by_cases hN:20000<textsN L
 ·have hg:(decide (20000<textsN L)||decide (100<X.length))=true:=by rw[decide_eq_true hN];rfl
  rw[hg]at cg;clear NE hMM hC0 hC23 hXW hg;go_wp2_with(first
   |(refine wpList_row_at (o:=⟨some 5, .load 36 (.tmp 1),_,_,_,_⟩) rfl 36 (.tmp 1) rfl w.heap.size rfl 36 C (0,0) _ hB0 Tryz.underlying36 rfl hi24 ?_)
   |(go_at_call 17;refine cg.mono ?_;rintro e w1 ⟨rfl,hb1⟩;have h1:=below_next hb0 hb1;clear cg hB0)
   |(go_at_call 18;refine(cl _ h1).mono ?_;rintro e w2 ⟨rfl,hb2⟩))
  go_ret;exact⟨rfl,below_next h1 hb2⟩
 ·have cn:=(NE hN).out
  clear NE;by_cases h20:20<X.length
  ·have h20i:(20:Int)<(X.length:Int):=by omega
   obtain⟨b,hb⟩:∃b,(decide (20000<textsN L)||decide (100<X.length))=b:=⟨_,rfl⟩;rw[hb]at cg;clear cn hMM hXW hb h20
   cases b
   all_goals
    go_wp2_with(first
     |(refine wpList_row_at (o:=⟨some 5, .load 36 (.tmp 1),_,_,_,_⟩) rfl 36 (.tmp 1) rfl w.heap.size rfl 36 C (0,0) _ hB0 Tryz.underlying36 rfl hi24 ?_)
     |(go_at_call 17;refine cg.mono ?_;rintro e w1 ⟨rfl,hb1⟩;have h1:=below_next hb0 hb1;have c23:=hC23 w1 hb1;have c0:=hC0 w1 hb1;clear cg hB0 hb0)
     |(go_at_call 18;refine(cl _ h1).mono ?_;rintro e w2 ⟨rfl,hb2⟩))
    go_ret;exact⟨rfl,below_next h1 hb2⟩
  ·have h20i:(X.length:Int)≤20:=by omega
   have hb:(decide (20000<textsN L)||decide (100<X.length))=false:=by rw[decide_eq_false hN,decide_eq_false (by omega)];rfl
   rw[hb]at cg;have CN:=Lib.hid cn;clear cn hb;go_upto_region 3 with (first
    |(refine wpList_row_at (o:=⟨some 5, .load 36 (.tmp 1),_,_,_,_⟩) rfl 36 (.tmp 1) rfl w.heap.size rfl 36 C (0,0) _ hB0 Tryz.underlying36 rfl hi24 ?_)
    |(go_at_call 17;refine cg.mono ?_;rintro e w1 ⟨rfl,hb1⟩;have h1:=below_next hb0 hb1;have c23:=hC23 w1 hb1;have c0:=hC0 w1 hb1;have m1:=hMM w1 hb1;clear cg hB0))
   have cn0:=CN.out (.slice none 0 0) [] w1 hb1 RowS.nil (by simp) (fun _=>rfl) (fun x hx=>by cases hx);have B00:=Lib.hid hb0;clear hb0;go_upto_region 4 with (first
    |(refine wpList_mid_at (o:=⟨some 17, .load 33 (.tmp 16),_,_,_,_⟩) rfl 33 (.tmp 16) rfl w.heap.size 1 rfl CS _ m1 Tryz.underlying33 rfl hi22 ?_)
    |(go_at_call 21;refine cn0.mono ?_;rintro e w2 ⟨rfl,hb2⟩;have h2:=below_next hb1 hb2;clear cn0 hb1 hb2 m1 c0 c23))
   clear h1;go_wp2_with fail;go_loopw [3,4] (fun u i wr=>∃j:Nat,j≤X.length∧u= .bool (nearL L k f t m (X.take j))∧i= .int .i64 j∧Below W0.heap.size W0 wr) (fun _ i _=>X.length-(intOf i).toNat)
   case atStart=>exact⟨0,Nat.zero_le _,by simp,rfl,h2⟩
   case round=>
    obtain⟨j,hj,rfl,rfl,hbr⟩:=hrel;have c23:=hC23 _ hbr;have hl0r:=Nat.lt_of_lt_of_le hl0 hbr.size;by_cases hlt:j<X.length
    ·have hji:(j:Int)<(X.length:Int):=by omega
     go_upto_region 7 with fail;obtain⟨a,rfl⟩:∃a,ya=some a:=by
      rcases hXW _ hbr with ⟨_,e⟩|⟨a,c,e,_⟩
      ·rw[e]at hlt;simp at hlt
      ·injection e with e;exact⟨a,e⟩
     have hS:=(Below.refl wr.heap.size wr).drew;have hM:∀W,Below wr.heap.size wr W→W.rangeAt w.heap.size 1 CS:=fun W hW=>hMM W (below_next hbr hW)
     have hD0:∀W,Below wr.heap.size wr W→W.cell? ⟨w.heap.size,0,none⟩=some r:=fun W hW=>hC0 W (below_next hbr hW)
     have hD23:∀W,Below wr.heap.size wr W→W.cell? ⟨w.heap.size,23,none⟩=some (.slice (some a) X.length yc):=fun W hW=>hC23 W (below_next hbr hW)
     have ej:j*10/10=j:=by omega
     have c1:∀W,Below wr.heap.size wr W→Calls Tryz.prog 21 #[r, .agg CS.toArray, .slice (some (a.add (j*10))) 1 (yc-j)] W fun e W'=>e= .returned (.bool (nearL L k f t m [X[j]]))∧Below W.heap.size W W':=fun W hW=>by
      have hr:=(hXW W (below_next hbr hW)).part j 1 (by omega);have e1:(X.drop j).take 1=[X[j]]:=by rw[List.drop_eq_getElem_cons hlt];rfl
      rw[e1]at hr;exact CN.out _ _ W (below_next hbr hW) hr (by simp) (by simp) (fun x hx=>by rw[List.mem_singleton.1 hx];exact List.getElem_mem hlt)
     have c2:∀W,Below wr.heap.size wr W→Calls Tryz.prog 21 #[r, .agg CS.toArray, .slice (some a) (j+1) yc] W fun e W'=>e= .returned (.bool (nearL L k f t m (X.take (j+1))))∧Below W.heap.size W W':=fun W hW=>by
      have hr:=(hXW W (below_next hbr hW)).part 0 (j+1) (by omega);simp only[Nat.zero_mul,Nat.sub_zero,List.drop_zero]at hr;have e0:a.add 0=a:=rfl;rw[e0]at hr;exact CN.out _ _ W (below_next hbr hW) hr (by rw[List.length_take];omega) (fun h=>by
       have:=congrArg List.length h;rw[List.length_take,List.length_nil]at this;omega) (fun x hx=>List.mem_of_mem_take hx)
     have hst:=near_take (L:=L) (k:=k) (f:=f) (t:=t) (m:=m) hlt;rw[hst]at c2;generalize nearL L k f t m [X[j]]=b1 at*
     cases hb:nearL L k f t m (X.take j)with
     |true=>
      rw[hb,Bool.true_and]at c2 hst;refine wp_region_held_drew (S:=fun W=>Below wr.heap.size wr W) (by kernel_rfl) hS (fun _=> ?_);refine wpAnyH_take (i:=0) (oi:=⟨some 26, .move (.tmp 3),_,_,_,_⟩) (v:= .bool true) rfl (by kernel_rfl) (by kernel_rfl) (by kernel_rfl) (fun _ _ _ h=>h) (.inl ⟨by rfl,fun W hW=>by go_simp⟩) hS ?_
      try simp only[Act.put,List.setIfInBounds_toArray,List.set_cons_zero,List.set_cons_succ]
      refine wpAnyH_take (i:=1) (oi:=⟨some 27, .move (.tmp 26),_,_,_,_⟩) (v:= .bool true) rfl (by kernel_rfl) (by kernel_rfl) (by kernel_rfl) (fun _ _ _ h=>h) (.inl ⟨by rfl,fun W hW=>by go_simp⟩) hS ?_
      try simp only[Act.put,List.setIfInBounds_toArray,List.set_cons_zero,List.set_cons_succ]
      refine wpAnyH_take (i:=2) (oi:=⟨some 28, .fieldAddr 36 (.tmp 1) 0,_,_,_,_⟩) (v:= .pointer (some ⟨w.heap.size,0,none⟩)) rfl (by kernel_rfl) (by kernel_rfl) (by kernel_rfl) (fun _ _ _ h=>h) (.inl ⟨by rfl,fun W hW=>by go_simp⟩) hS ?_
      try simp only[Act.put,List.setIfInBounds_toArray,List.set_cons_zero,List.set_cons_succ]
      refine wpAnyH_take (i:=3) (oi:=⟨some 29, .load 22 (.tmp 28),_,_,_,_⟩) (v:=r) rfl (by kernel_rfl) (by kernel_rfl) (by kernel_rfl) (fun _ _ _ h=>h) (.inl ⟨by rfl,fun W hW=>by have:=hD0 W hW;go_simp⟩) hS ?_
      try simp only[Act.put,List.setIfInBounds_toArray,List.set_cons_zero,List.set_cons_succ]
      refine wpAnyH_take (i:=4) (oi:=⟨some 30, .fieldAddr 36 (.tmp 1) 1,_,_,_,_⟩) (v:= .pointer (some ⟨w.heap.size,1,none⟩)) rfl (by kernel_rfl) (by kernel_rfl) (by kernel_rfl) (fun _ _ _ h=>h) (.inl ⟨by rfl,fun W hW=>by go_simp⟩) hS ?_
      try simp only[Act.put,List.setIfInBounds_toArray,List.set_cons_zero,List.set_cons_succ]
      refine wpAnyH_take (i:=5) (oi:=⟨some 31, .load 33 (.tmp 30),_,_,_,_⟩) (v:= .agg CS.toArray) rfl (by kernel_rfl) (by kernel_rfl) (by kernel_rfl) (fun _ _ _ h=>h) (yieldsIf_load_mid (by rfl) 33 (.tmp 30) rfl w.heap.size 1 rfl CS _ hM Tryz.underlying33 rfl hi22) hS ?_
      try simp only[Act.put,List.setIfInBounds_toArray,List.set_cons_zero,List.set_cons_succ]
      refine wpAnyH_take (i:=6) (oi:=⟨some 32, .fieldAddr 36 (.tmp 1) 2,_,_,_,_⟩) (v:= .pointer (some ⟨w.heap.size,23,none⟩)) rfl (by kernel_rfl) (by kernel_rfl) (by kernel_rfl) (fun _ _ _ h=>h) (.inl ⟨by rfl,fun W hW=>by go_simp⟩) hS ?_
      try simp only[Act.put,List.setIfInBounds_toArray,List.set_cons_zero,List.set_cons_succ]
      refine wpAnyH_take (i:=7) (oi:=⟨some 33, .load 34 (.tmp 32),_,_,_,_⟩) (v:= .slice (some a) X.length yc) rfl (by kernel_rfl) (by kernel_rfl) (by kernel_rfl) (fun _ _ _ h=>h) (.inl ⟨by rfl,fun W hW=>by have:=hD23 W hW;go_simp⟩) hS ?_
      try simp only[Act.put,List.setIfInBounds_toArray,List.set_cons_zero,List.set_cons_succ]
      refine wpAnyH_take (i:=8) (oi:=⟨some 34, .move (.tmp 4),_,_,_,_⟩) (v:= .int .i64 j) rfl (by kernel_rfl) (by kernel_rfl) (by kernel_rfl) (fun _ _ _ h=>h) (.inl ⟨by rfl,fun W hW=>by go_simp⟩) hS ?_
      try simp only[Act.put,List.setIfInBounds_toArray,List.set_cons_zero,List.set_cons_succ]
      refine wpAnyH_take (i:=9) (oi:=⟨some 35, .move (.tmp 4),_,_,_,_⟩) (v:= .int .i64 j) rfl (by kernel_rfl) (by kernel_rfl) (by kernel_rfl) (fun _ _ _ h=>h) (.inl ⟨by rfl,fun W hW=>by go_simp⟩) hS ?_
      try simp only[Act.put,List.setIfInBounds_toArray,List.set_cons_zero,List.set_cons_succ]
      refine wpAnyH_take (i:=10) (oi:=⟨some 36, .binOp .add 3 (.tmp 35) (.const (.int .i64 1)) 3,_,_,_,_⟩) (v:= .int .i64 ((j:Int)+1)) rfl (by kernel_rfl) (by kernel_rfl) (by kernel_rfl) (fun _ _ _ h=>h) (.inl ⟨by rfl,fun W hW=>by go_simp;rw[IntKind.wrap_i64];omega⟩) hS ?_
      try simp only[Act.put,List.setIfInBounds_toArray,List.set_cons_zero,List.set_cons_succ]
      refine wpAnyH_take (i:=11) (oi:=⟨some 37, .slice 34 (.tmp 33) (some (.tmp 34)) (some (.tmp 36)) none,_,_,_,_⟩) (v:= .slice (some (a.add (j*10))) 1 (yc-j)) rfl (by kernel_rfl) (by kernel_rfl) (by kernel_rfl) (fun _ _ _ h=>h) (.inl ⟨by rfl,fun W hW=>by go_simp;rw[if_pos (by omega),if_neg (by omega)]⟩) hS ?_
      try simp only[Act.put,List.setIfInBounds_toArray,List.set_cons_zero,List.set_cons_succ]
      refine wpAnyH_ready (rs:=[12]) (by kernel_rfl) (by simp) ?_;refine AllReadyH.cons (o:=⟨some 38, .call {callee:= .value (.func 21),args:= #[.tmp 29, .tmp 31, .tmp 37],argTypes:= #[22,33,34]},_,_,_,_⟩) rfl (fun K hK=> ?_) AllReadyH.nil;go_simp;go_at_call 21;refine(c1 _ hS).mono ?_;rintro e x1 ⟨rfl,hn⟩;go_wp2_with fail;have hS1:=below_next hS hn;refine hK.out _ _ hS1 (fun _=> ?_);clear hK hS hn K;have hS:=hS1;clear hS1
      try simp only[Act.put,List.setIfInBounds_toArray,List.set_cons_zero,List.set_cons_succ]
      refine wpAnyH_take (i:=13) (oi:=⟨some 39, .pick (.tmp 27) (.tmp 38) (.const (.bool false)),_,_,_,_⟩) (v:= .bool b1) rfl (by kernel_rfl) (by kernel_rfl) (by kernel_rfl) (fun _ _ _ h=>h) (.inl ⟨by rfl,fun W hW=>by go_simp⟩) hS ?_
      try simp only[Act.put,List.setIfInBounds_toArray,List.set_cons_zero,List.set_cons_succ]
      refine wpAnyH_take (i:=14) (oi:=⟨some 3, .assign (.tmp 39),_,_,_,_⟩) (v:= .bool b1) rfl (by kernel_rfl) (by kernel_rfl) (by kernel_rfl) (fun _ _ _ h=>h) (.inl ⟨by rfl,fun W hW=>by go_simp⟩) hS ?_
      try simp only[Act.put,List.setIfInBounds_toArray,List.set_cons_zero,List.set_cons_succ]
      refine wpAnyH_done (by kernel_rfl) ?_ _;go_upto_region 8 with fail;refine wp_region_held_drew (S:=fun W=>Below wr.heap.size wr W) (by kernel_rfl) hS.drew (fun _=> ?_);replace hS:=hS.drew;refine wpAnyH_take (i:=0) (oi:=⟨some 40, .fieldAddr 36 (.tmp 1) 0,_,_,_,_⟩) (v:= .pointer (some ⟨w.heap.size,0,none⟩)) rfl (by kernel_rfl) (by kernel_rfl) (by kernel_rfl) (fun _ _ _ h=>h) (.inl ⟨by rfl,fun W hW=>by go_simp⟩) hS ?_
      try simp only[Act.put,List.setIfInBounds_toArray,List.set_cons_zero,List.set_cons_succ]
      refine wpAnyH_take (i:=1) (oi:=⟨some 41, .load 22 (.tmp 40),_,_,_,_⟩) (v:=r) rfl (by kernel_rfl) (by kernel_rfl) (by kernel_rfl) (fun _ _ _ h=>h) (.inl ⟨by rfl,fun W hW=>by have:=hD0 W hW;go_simp⟩) hS ?_
      try simp only[Act.put,List.setIfInBounds_toArray,List.set_cons_zero,List.set_cons_succ]
      refine wpAnyH_take (i:=2) (oi:=⟨some 42, .fieldAddr 36 (.tmp 1) 1,_,_,_,_⟩) (v:= .pointer (some ⟨w.heap.size,1,none⟩)) rfl (by kernel_rfl) (by kernel_rfl) (by kernel_rfl) (fun _ _ _ h=>h) (.inl ⟨by rfl,fun W hW=>by go_simp⟩) hS ?_
      try simp only[Act.put,List.setIfInBounds_toArray,List.set_cons_zero,List.set_cons_succ]
      refine wpAnyH_take (i:=3) (oi:=⟨some 43, .load 33 (.tmp 42),_,_,_,_⟩) (v:= .agg CS.toArray) rfl (by kernel_rfl) (by kernel_rfl) (by kernel_rfl) (fun _ _ _ h=>h) (yieldsIf_load_mid (by rfl) 33 (.tmp 42) rfl w.heap.size 1 rfl CS _ hM Tryz.underlying33 rfl hi22) hS ?_
      try simp only[Act.put,List.setIfInBounds_toArray,List.set_cons_zero,List.set_cons_succ]
      refine wpAnyH_take (i:=4) (oi:=⟨some 44, .fieldAddr 36 (.tmp 1) 2,_,_,_,_⟩) (v:= .pointer (some ⟨w.heap.size,23,none⟩)) rfl (by kernel_rfl) (by kernel_rfl) (by kernel_rfl) (fun _ _ _ h=>h) (.inl ⟨by rfl,fun W hW=>by go_simp⟩) hS ?_
      try simp only[Act.put,List.setIfInBounds_toArray,List.set_cons_zero,List.set_cons_succ]
      refine wpAnyH_take (i:=5) (oi:=⟨some 45, .load 34 (.tmp 44),_,_,_,_⟩) (v:= .slice (some a) X.length yc) rfl (by kernel_rfl) (by kernel_rfl) (by kernel_rfl) (fun _ _ _ h=>h) (.inl ⟨by rfl,fun W hW=>by have:=hD23 W hW;go_simp⟩) hS ?_
      try simp only[Act.put,List.setIfInBounds_toArray,List.set_cons_zero,List.set_cons_succ]
      refine wpAnyH_take (i:=6) (oi:=⟨some 46, .move (.tmp 4),_,_,_,_⟩) (v:= .int .i64 j) rfl (by kernel_rfl) (by kernel_rfl) (by kernel_rfl) (fun _ _ _ h=>h) (.inl ⟨by rfl,fun W hW=>by go_simp⟩) hS ?_
      try simp only[Act.put,List.setIfInBounds_toArray,List.set_cons_zero,List.set_cons_succ]
      refine wpAnyH_take (i:=7) (oi:=⟨some 47, .binOp .add 3 (.tmp 46) (.const (.int .i64 1)) 3,_,_,_,_⟩) (v:= .int .i64 ((j:Int)+1)) rfl (by kernel_rfl) (by kernel_rfl) (by kernel_rfl) (fun _ _ _ h=>h) (.inl ⟨by rfl,fun W hW=>by go_simp;rw[IntKind.wrap_i64];omega⟩) hS ?_
      try simp only[Act.put,List.setIfInBounds_toArray,List.set_cons_zero,List.set_cons_succ]
      refine wpAnyH_take (i:=8) (oi:=⟨some 48, .slice 34 (.tmp 45) none (some (.tmp 47)) none,_,_,_,_⟩) (v:= .slice (some a) (j+1) yc) rfl (by kernel_rfl) (by kernel_rfl) (by kernel_rfl) (fun _ _ _ h=>h) (.inl ⟨by rfl,fun W hW=>by go_simp;intro h;exact absurd (h (by omega)) (by omega)⟩) hS ?_
      try simp only[Act.put,List.setIfInBounds_toArray,List.set_cons_zero,List.set_cons_succ]
      refine wpAnyH_take (i:=10) (oi:=⟨some 50, .move (.tmp 3),_,_,_,_⟩) (v:= .bool b1) rfl (by kernel_rfl) (by kernel_rfl) (by kernel_rfl) (fun _ _ _ h=>h) (.inl ⟨by rfl,fun W hW=>by go_simp⟩) hS ?_
      try simp only[Act.put,List.setIfInBounds_toArray,List.set_cons_zero,List.set_cons_succ]
      refine wpAnyH_ready (rs:=[9]) (by kernel_rfl) (by simp) ?_;refine AllReadyH.cons (o:=⟨some 49, .call {callee:= .value (.func 21),args:= #[.tmp 41, .tmp 43, .tmp 48],argTypes:= #[22,33,34]},_,_,_,_⟩) rfl (fun K hK=> ?_) AllReadyH.nil;go_simp;go_at_call 21;refine(c2 _ hS).mono ?_;rintro e x2 ⟨rfl,hn⟩;go_wp2_with fail;have hS1:=below_next hS hn;refine hK.out _ _ hS1 (fun _=> ?_);clear hK hS hn K;have hS:=hS1;clear hS1
      try simp only[Act.put,List.setIfInBounds_toArray,List.set_cons_zero,List.set_cons_succ]
      refine wpAnyH_take (i:=11) (oi:=⟨some 51, .binOp .neq 4 (.tmp 49) (.tmp 50) 4,_,_,_,_⟩) (v:= .bool false) rfl (by kernel_rfl) (by kernel_rfl) (by kernel_rfl) (fun _ _ _ h=>h) (.inl ⟨by rfl,fun W hW=>by go_simp⟩) hS ?_
      try simp only[Act.put,List.setIfInBounds_toArray,List.set_cons_zero,List.set_cons_succ]
      refine wpAnyH_done (by kernel_rfl) ?_ _;go_wp2_with fail;go_roundw
      case rel=>exact⟨j+1,by omega,by rw[hst],by go_num,below_next hbr hS⟩
      case measure=>simp[intOf];omega
     |false=>
      rw[hb,Bool.false_and]at c2 hst;clear hS;go_quiet (fail);go_upto_region 8 with fail;refine wp_region_held_drew (S:=fun W=>Below wr.heap.size wr W) (by kernel_rfl) (Below.drew (below_dn (Below.refl _ _) _)) (fun hS=> ?_);refine wpAnyH_take (i:=0) (oi:=⟨some 40, .fieldAddr 36 (.tmp 1) 0,_,_,_,_⟩) (v:= .pointer (some ⟨w.heap.size,0,none⟩)) rfl (by kernel_rfl) (by kernel_rfl) (by kernel_rfl) (fun _ _ _ h=>h) (.inl ⟨by rfl,fun W hW=>by go_simp⟩) hS ?_
      try simp only[Act.put,List.setIfInBounds_toArray,List.set_cons_zero,List.set_cons_succ]
      refine wpAnyH_take (i:=1) (oi:=⟨some 41, .load 22 (.tmp 40),_,_,_,_⟩) (v:=r) rfl (by kernel_rfl) (by kernel_rfl) (by kernel_rfl) (fun _ _ _ h=>h) (.inl ⟨by rfl,fun W hW=>by have:=hD0 W hW;go_simp⟩) hS ?_
      try simp only[Act.put,List.setIfInBounds_toArray,List.set_cons_zero,List.set_cons_succ]
      refine wpAnyH_take (i:=2) (oi:=⟨some 42, .fieldAddr 36 (.tmp 1) 1,_,_,_,_⟩) (v:= .pointer (some ⟨w.heap.size,1,none⟩)) rfl (by kernel_rfl) (by kernel_rfl) (by kernel_rfl) (fun _ _ _ h=>h) (.inl ⟨by rfl,fun W hW=>by go_simp⟩) hS ?_
      try simp only[Act.put,List.setIfInBounds_toArray,List.set_cons_zero,List.set_cons_succ]
      refine wpAnyH_take (i:=3) (oi:=⟨some 43, .load 33 (.tmp 42),_,_,_,_⟩) (v:= .agg CS.toArray) rfl (by kernel_rfl) (by kernel_rfl) (by kernel_rfl) (fun _ _ _ h=>h) (yieldsIf_load_mid (by rfl) 33 (.tmp 42) rfl w.heap.size 1 rfl CS _ hM Tryz.underlying33 rfl hi22) hS ?_
      try simp only[Act.put,List.setIfInBounds_toArray,List.set_cons_zero,List.set_cons_succ]
      refine wpAnyH_take (i:=4) (oi:=⟨some 44, .fieldAddr 36 (.tmp 1) 2,_,_,_,_⟩) (v:= .pointer (some ⟨w.heap.size,23,none⟩)) rfl (by kernel_rfl) (by kernel_rfl) (by kernel_rfl) (fun _ _ _ h=>h) (.inl ⟨by rfl,fun W hW=>by go_simp⟩) hS ?_
      try simp only[Act.put,List.setIfInBounds_toArray,List.set_cons_zero,List.set_cons_succ]
      refine wpAnyH_take (i:=5) (oi:=⟨some 45, .load 34 (.tmp 44),_,_,_,_⟩) (v:= .slice (some a) X.length yc) rfl (by kernel_rfl) (by kernel_rfl) (by kernel_rfl) (fun _ _ _ h=>h) (.inl ⟨by rfl,fun W hW=>by have:=hD23 W hW;go_simp⟩) hS ?_
      try simp only[Act.put,List.setIfInBounds_toArray,List.set_cons_zero,List.set_cons_succ]
      refine wpAnyH_take (i:=6) (oi:=⟨some 46, .move (.tmp 4),_,_,_,_⟩) (v:= .int .i64 j) rfl (by kernel_rfl) (by kernel_rfl) (by kernel_rfl) (fun _ _ _ h=>h) (.inl ⟨by rfl,fun W hW=>by go_simp⟩) hS ?_
      try simp only[Act.put,List.setIfInBounds_toArray,List.set_cons_zero,List.set_cons_succ]
      refine wpAnyH_take (i:=7) (oi:=⟨some 47, .binOp .add 3 (.tmp 46) (.const (.int .i64 1)) 3,_,_,_,_⟩) (v:= .int .i64 ((j:Int)+1)) rfl (by kernel_rfl) (by kernel_rfl) (by kernel_rfl) (fun _ _ _ h=>h) (.inl ⟨by rfl,fun W hW=>by go_simp;rw[IntKind.wrap_i64];omega⟩) hS ?_
      try simp only[Act.put,List.setIfInBounds_toArray,List.set_cons_zero,List.set_cons_succ]
      refine wpAnyH_take (i:=8) (oi:=⟨some 48, .slice 34 (.tmp 45) none (some (.tmp 47)) none,_,_,_,_⟩) (v:= .slice (some a) (j+1) yc) rfl (by kernel_rfl) (by kernel_rfl) (by kernel_rfl) (fun _ _ _ h=>h) (.inl ⟨by rfl,fun W hW=>by go_simp;intro h;exact absurd (h (by omega)) (by omega)⟩) hS ?_
      try simp only[Act.put,List.setIfInBounds_toArray,List.set_cons_zero,List.set_cons_succ]
      refine wpAnyH_take (i:=10) (oi:=⟨some 50, .move (.tmp 3),_,_,_,_⟩) (v:= .bool false) rfl (by kernel_rfl) (by kernel_rfl) (by kernel_rfl) (fun _ _ _ h=>h) (.inl ⟨by rfl,fun W hW=>by go_simp⟩) hS ?_
      try simp only[Act.put,List.setIfInBounds_toArray,List.set_cons_zero,List.set_cons_succ]
      refine wpAnyH_ready (rs:=[9]) (by kernel_rfl) (by simp) ?_;refine AllReadyH.cons (o:=⟨some 49, .call {callee:= .value (.func 21),args:= #[.tmp 41, .tmp 43, .tmp 48],argTypes:= #[22,33,34]},_,_,_,_⟩) rfl (fun K hK=> ?_) AllReadyH.nil;go_simp;go_at_call 21;refine(c2 _ hS).mono ?_;rintro e x2 ⟨rfl,hn⟩;go_wp2_with fail;have hS1:=below_next hS hn;refine hK.out _ _ hS1 (fun _=> ?_);clear hK hS hn K;have hS:=hS1;clear hS1
      try simp only[Act.put,List.setIfInBounds_toArray,List.set_cons_zero,List.set_cons_succ]
      refine wpAnyH_take (i:=11) (oi:=⟨some 51, .binOp .neq 4 (.tmp 49) (.tmp 50) 4,_,_,_,_⟩) (v:= .bool false) rfl (by kernel_rfl) (by kernel_rfl) (by kernel_rfl) (fun _ _ _ h=>h) (.inl ⟨by rfl,fun W hW=>by go_simp⟩) hS ?_
      try simp only[Act.put,List.setIfInBounds_toArray,List.set_cons_zero,List.set_cons_succ]
      refine wpAnyH_done (by kernel_rfl) ?_ _;go_wp2_with fail;go_roundw
      case rel=>exact⟨j+1,by omega,by rw[hst],by go_num,below_next hbr hS⟩
      case measure=>simp[intOf];omega
    ·obtain rfl:j=X.length:=by omega
     have cl2:=cl _ (B00.out.trans (hbr.mono B00.out.size));clear CN hXW hMM;go_wp2_with(go_at_call 18;refine cl2.mono ?_;rintro e w3 ⟨rfl,hb3⟩);go_ret;exact⟨rfl,B00.out.trans ((below_next hbr hb3).mono B00.out.size)⟩
end Go.Proofs.YtlhcfmcbpljbiaaGreatDoor
