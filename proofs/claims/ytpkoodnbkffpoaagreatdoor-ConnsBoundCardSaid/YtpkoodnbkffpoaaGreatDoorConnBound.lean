/- ConnsBound walked. -/
import Derived.Test.YtpkoodnbkffpoaaGreatDoorConnBK
set_option linter.unusedVariables false
set_option linter.unusedSimpArgs false
set_option maxHeartbeats 16000000
namespace Go.Proofs.YtpkoodnbkffpoaaGreatDoor
open Go.RowKit
theorem Inv.mono {S:ConnsL} {M:List Nat} {n m:Nat} (h:Inv S M n) (hm:n≤m):Inv S M m:=⟨h.so,h.len,h.many,h.nd,h.has,Nat.le_trans h.next hm,h.giv⟩
abbrev nilV:Value:= .slice none 0 0
structure BAt (w wr:World) (cv gv:Value) (S:ConnsL) (M:List Nat) (kb:Nat) (k:KeyL):Prop where
 o:OldAt w wr cv gv nilV S M []
 kh:wr.heap[kb]?=some (.cells (keyA_ k) 28 (0,0))
 kB:kb≠w.heap.size
 kc:cv.ownBlock≠some kb
 kg:gv.ownBlock≠some kb
theorem BAt.lt {w wr:World} {cv gv:Value} {S:ConnsL} {M:List Nat} {kb:Nat} {k:KeyL} (h:BAt w wr cv gv S M kb k):kb<wr.heap.size:=(Array.getElem?_eq_some_iff.1 h.kh).1
theorem BAt.turn {w wr wr':World} {cv cv' gv:Value} {S S':ConnsL} {M:List Nat} {kb:Nat} {k:KeyL} (h:BAt w wr cv gv S M kb k) (hc:ConnsAt wr' w.heap.size cv' S') (ht:Turn w.heap.size cv wr wr' cv'):BAt w wr' cv' gv S' M kb k:=by
 obtain⟨h1,h2⟩:=ht.keep h.kh h.kB h.kc;exact⟨h.o.turn hc ht,h1,h.kB,h2,h.kg⟩
theorem BAt.below {w wr wr':World} {cv gv:Value} {S:ConnsL} {M:List Nat} {kb:Nat} {k:KeyL} (h:BAt w wr cv gv S M kb k) (hb:Below wr.heap.size wr wr'):BAt w wr' cv gv S M kb k:=h.turn (h.o.c.below hb) (Turn.of hb)
theorem BAt.put {w wr wr':World} {cv gv gv':Value} {S:ConnsL} {M:List Nat} {kb:Nat} {k:KeyL} (h:BAt w wr cv gv S M kb k) (m:Nat) (hown:wr'.ownsRow (w.heap.size+1) 3 1 gv' (M.length+1) (M.flatMap encI++[.int .i64 m])) (hg:wr.grownBy wr' gv.ownBlock) (hn:∀k,gv'.ownBlock=some k→gv.ownBlock=some k∨wr.heap.size≤k):BAt w wr' cv gv' S (M++[m]) kb k:=by
 refine⟨h.o.gput m hown hg hn,(hg.block kb h.lt (fun e=>h.kg e.symm)).trans h.kh,h.kB,h.kc,fun e=> ?_⟩;rcases hn kb e with h1|h1
 ·exact h.kg h1
 ·have:=h.lt;omega
theorem BAt.fresh {w wr wr':World} {cv gv gv':Value} {S:ConnsL} {M M':List Nat} {kb:Nat} {k:KeyL} (h:BAt w wr cv gv S M kb k) (hb:Below wr.heap.size wr wr') (hown:wr'.ownsRow wr.heap.size 3 1 gv' M'.length (M'.flatMap encI)):BAt w wr' cv gv' S M' kb k:=by
 have h2:=h.below hb;have hlt:=h.o.c.lt;refine⟨⟨h2.o.c,own_base hown (by omega),h2.o.o,fun r hr e=> ?_,h2.o.co,fun r hr e=>(by cases e),h2.o.b⟩,h2.kh,h.kB,h.kc,fun e=> ?_⟩
 ·have h3:=(hown.lt r hr).1
  have h4:=(h.o.c.own r e).2;omega
 ·have h3:=(hown.lt kb e).1
  have:=h.lt;omega
theorem BAt.cells {w wr:World} {cv gv:Value} {S:ConnsL} {M:List Nat} {kb:Nat} {k:KeyL} (h:BAt w wr cv gv S M kb k):wr.cell? ⟨kb,0,none⟩=some (.bool k.safe)∧wr.cell? ⟨kb,1,none⟩=some (.string ⟨k.host.toArray⟩)∧wr.cell? ⟨kb,2,none⟩=some (.int .i64 k.port):=
 ⟨by rw[Lib.cell_of_heap h.kh];rfl,by rw[Lib.cell_of_heap h.kh];rfl,by rw[Lib.cell_of_heap h.kh];rfl⟩
theorem bndtake {w W:World} {cv g:Value} {S:ConnsL} {M:List Nat} {i N kb:Nat} {k:KeyL} (hE:EnvH w) (hk:k=keyB N) (h:BAt w W cv g S M kb k) (hI:Inv S M i) (hi:i≤300):
 Calls Tryz.prog 10 #[.pointer (some ⟨w.heap.size,0,none⟩),keyVal k, .int .i64 i] W fun e W'=>e= .returned (takeV (takeR S k i).1)∧∃cv',BAt w W' cv' g (takeR S k i).2 M kb k:=by
 have hl:=hI.len
 have hn:=hI.next
 subst hk
 have ht:=ctake_any S w.heap.size cv (keyB N) i W h.o.c (by omega) (by omega) (fun x hx=>(hI.giv x hx).2) (by omega) (by omega) (by show(0:Int)≤((80+N % 3:Nat):Int);omega) (by show((80+N % 3:Nat):Int)≤65535;omega) (parse_ok (N % 9) (by omega) W (hE.below h.o.b))
 refine ht.mono ?_
 rintro e W' ⟨he,cv',hc,htu⟩
 exact⟨he,cv',h.turn hc htu⟩
theorem bndkey {w W:World} {cv g:Value} {S:ConnsL} {M:List Nat} {kb id:Nat} {k k2:KeyL} (h:BAt w W cv g S M kb k) (hs:Sorted S) (hl:S.l.length≤1000) (hk:keyR S id=(k2,true)):
 Calls Tryz.prog 11 #[.pointer (some ⟨w.heap.size,0,none⟩), .int .i64 id] W fun e W'=>e= .returned (.tuple #[keyVal k2, .bool true])∧Below W.heap.size W W':=key_any S hs w.heap.size cv id k2 W h.o.c hl hk
theorem e_intC:Elem1 Tryz.prog 26 3 (.int .i64 0) 8:=⟨Tryz.underlying26,by obtain⟨i,h1,h2,h3,h4⟩:=int_elem.hi;exact⟨i,h1,h2,h3,h4⟩,rfl⟩
theorem elem_intC:Tryz.prog.elem 26=3:=by kernel_rfl
theorem step_append_segC {P:Program} {t e:TypeId} {z:Value} {bytes:Nat} (E:Elem1 P t e z bytes) {w:World} {ops:Array Oper} {o:Oper} {a:Act} {K:Act→World→Prop} {Q:Exit→Act→World→Prop} {F:Prop} (hgd:o.guard=none) (s x:Operand)
 (ho:o.op= .call {callee:= .builtin .append,args:= #[s,x],argTypes:= #[t,t]})
 (base:Nat) (v:Value) (n:Nat) (xs:List Value) (hs:a.eval s=v) (hown:w.ownsRow base e 1 v n xs)
 (y:Value) (zs:List Value) (g:Option Nat) (hx:a.eval x=y) (hseg:Seg w y zs g) (h1:∀u∈zs,u.oneCell'=true)
 (h63:n+zs.length≤140737488355328) (hbytes:(n+zs.length)*bytes≤140737488355328) (hbase:base≤w.heap.size)
 (h:∀v' w',w'.ownsRow base e 1 v' (n+zs.length) (xs++zs)→w.grownBy w' v.ownBlock→K (a.put o.dst v') w'):
 if Region.wanted o (yielded ops a.tmps)=true then Oper.wp P o a w K Q else F:=by
 have hw:Region.wanted o (yielded ops a.tmps)=true:=by simp[Region.wanted,hgd]
 rw[if_pos hw]
 obtain⟨i,hi,hz,hsize,hby⟩:=E.hi
 rcases hseg with ⟨rfl,rfl⟩|⟨ad,c,rfl,rfl,hc⟩
 ·have:=step_append_none (F:=F) (ops:=ops) (Q:=Q) (K:=K) hgd s x t ho base e i 1 E.ht hi v n xs hs hown hx (fun w' hw'=>by
   subst hw';exact h v w' (by simpa using hown) (grown_refl _ _))
  rwa[if_pos hw]at this
 ·exact wp_append_own _ s x t ho base e i z 1 bytes E.ht hi hz hsize hby E.hz (by decide) v n xs hs hown ad zs.length c zs hx (by omega) hc h1 (by unfold maxLen;omega) hbytes hbase
   (fun v' w' h2 h3 _=>h v' w' h2 h3)
theorem one_ints (L:List Nat):∀u∈L.flatMap encI,u.oneCell'=true:=fun u hu=>by
 obtain⟨x,_,h⟩:=List.mem_flatMap.1 hu;exact one_intI x u h
theorem bndgive {w W:World} {cv g:Value} {S S2:ConnsL} {M:List Nat} {kb m i:Nat} {k:KeyL} {r:Int} (h:BAt w W cv g S M kb k) (hs:Sorted S) (hl:S.l.length≤1000) (hf:foundL S.l m=true) (hr:giveR S m i=(r,S2)) (hi:i≤300):
 Calls Tryz.prog 12 #[.pointer (some ⟨w.heap.size,0,none⟩), .int .i64 m, .int .i64 i] W fun e W'=>e= .returned (.int .i64 r)∧BAt w W' cv g S2 M kb k:=by
 have ht:=give_any S hs w.heap.size cv m i W h.o.c hl hf (by omega) (by omega)
 rw[hr]at ht
 refine ht.mono ?_
 rintro e W' ⟨he,hc,htu⟩
 exact⟨he,h.turn hc htu⟩
theorem eq_keyC (a b:KeyL) (W:World):(binOp .eql 28 (keyVal a) (keyVal b)).run Tryz.prog W= .ok (.bool (decide (a=b))) W:=by
 obtain⟨s,h,p⟩:=a;obtain⟨s2,h2,p2⟩:=b;by_cases e1:s=s2<;>by_cases e2:h=h2<;>by_cases e3:p=p2<;>simp[go_sem,e1,e2,e3]
theorem int_at {w:World} {base b c m j:Nat} {L:List Nat} (h:w.ownsRow base 3 1 (.slice (some ⟨b,0,none⟩) L.length c) L.length (L.flatMap encI)) (hj:L[j]?=some m):w.cell? ⟨b,j,none⟩=some (.int .i64 m):=by
 obtain⟨hlt,rfl⟩:=List.getElem?_eq_some_iff.1 hj;obtain⟨b2,c2,he,hc⟩:=int_form h (by omega);injection he with he;injection he with he;injection he with he;subst he;exact hc j hlt
theorem giveR_found {S S2:ConnsL} {m:Nat} {now r:Int} (h:giveR S m now=(r,S2)) (hr:r≠1):foundL S.l m=true:=by
 unfold giveR at h;split at h
 ·assumption
 ·injection h with h _
  exact absurd h.symm hr
set_option maxRecDepth 100000 in
theorem connsbound_law (T:List Int) (tv:Value) (U:List Int) (uv:Value) (w:World) (hT:RowS 1 encU w tv T) (hTb:∀x∈T,0≤x∧x≤255) (hU:RowS 1 encU w uv U) (hUb:∀x∈U,0≤x∧x≤255) (hE:EnvH w):
 Calls Tryz.prog 3 #[tv,uv] w fun e w'=>e= .returned (.bool true)∧Below w.heap.size w w':=by
 have cl:=fun W (hW:Below w.heap.size w W)=>lives19 W (hE.below hW)
 have hbw:=Below.refl w.heap.size w
 obtain⟨ta,tn,tc,rfl,htn,htc⟩:=hT.conc
 obtain⟨ua,un,uc,rfl,hun,huc⟩:=hU.conc
 subst htn hun
 by_cases hlen:300<T.length
 ·have hni:(300:Int)<(T.length:Int):=by omega
  have cc:=cl w hbw;clear hT hU cl hTb hUb;go_enter Tryz.func3,Tryz.ntmps3;go_wp2_with(go_at_call 7;refine cc.mono ?_;rintro e w1 ⟨rfl,hb⟩);go_ret;exact⟨rfl,hb⟩
 ·obtain⟨w1,hw1⟩:∃W,w.alloc (.cells #[.int .i64 1, .slice none 0 0, .int .i64 0] 69)=W:=⟨_,rfl⟩
  have hb1:Below w.heap.size w w1:=by rw[←hw1];exact below_alloc w _
  have hB1:w1.heap[w.heap.size]?=some (.cells #[.int .i64 1, .slice none 0 0, .int .i64 0] 69 (0,0)):=by rw[←hw1];exact heap_alloc_new w _
  have hL0:OldAt w w1 nilV nilV nilV ⟨[],0⟩ [] []:=⟨⟨hB1,rfl, .inl ⟨rfl,rfl⟩⟩,⟨rfl, .inl ⟨rfl,rfl⟩⟩,⟨rfl, .inl ⟨rfl,rfl⟩⟩,fun k hk=>(by cases hk),fun k hk=>(by cases hk),fun k hk=>(by cases hk),hb1⟩;have hcn:=new_any w;rw[hw1]at hcn;have cell:∀(v:Value) (X:List Int) (a:Option Addr) (c:Nat),RowS 1 encU w (.slice a X.length c) X→∀(i:Nat) (hi:i<X.length),∃b,a=some b∧∀W,Below w.heap.size w W→W.cell? (b.add i)=some (.int .u8 X[i]):=fun v X a c hX i hi=>by
   rcases hX with ⟨_,h0⟩|⟨b,c',h1,hc,hb,hcell⟩
   ·rw[h0]at hi;simp at hi
   ·injection h1 with h1
    refine⟨b,h1,fun W hW=> ?_⟩;have:=(hW.cell (p:=b.add (i*1+0)) (by rw[Go.ChangeShapes.block_add];exact hb (by omega))).trans (hcell i hi 0 _ rfl);simpa using this
  have HT:=Lib.hid (cell (.slice ta T.length tc) T ta tc hT);have HU:=Lib.hid (cell (.slice ua U.length uc) U ua uc hU);have HTb:=Lib.hid hTb;have HUb:=Lib.hid hUb;have h300:T.length≤300:=by omega
  have h300i:(T.length:Int)≤300:=by omega
  have HL0:=Lib.hid hL0;have CL:=Lib.hid cl;clear hT hU hL0 hw1 hB1 hb1 cl cell hTb hUb hlen;go_enter Tryz.func3,Tryz.ntmps3;go_wp2_with(go_at_call 8;refine hcn.mono ?_;rintro e w9 ⟨rfl,rfl⟩);go_loopw [6,7] (fun ms is wr=>∃(i:Nat) (cv:Value) (S:ConnsL) (M:List Nat),i≤T.length∧is= .int .i64 i∧Hid (Inv S M i)∧Hid (OldAt w wr cv ms nilV S M [])) (fun _ i _=>T.length-(intOf i).toNat)
  case atStart=>exact⟨0,_,_,_,Nat.zero_le _,rfl,Lib.hid inv_nil,HL0⟩
  case round=>
   obtain⟨i,cv,S,M,hi,rfl,HI,HL⟩:=hrel;by_cases hlt:i<T.length
   ·have hii:(i:Int)<(T.length:Int):=by omega
    obtain⟨tb,hta,hcellT⟩:=HT.out i hlt;subst hta;have hx:=hcellT wr HL.out.b;have hxb:=HTb.out _ (List.getElem_mem hlt);obtain⟨N,hN⟩:∃N:Nat,T[i]=(N:Int):=⟨T[i].toNat,by omega⟩;rw[hN]at hx hxb;have ck:=lawkey_any N (by omega) wr;obtain⟨k,hk⟩:∃k,keyB N=k:=⟨_,rfl⟩;rw[hk]at ck;have HK:=Lib.hid hk;clear hcellT hk hN;go_upto_region 9 with (go_at_call 9;refine ck.mono ?_;rintro e w2 ⟨rfl,hb2⟩);have hL2:=HL.out.below hb2;obtain⟨w3,hw3⟩:∃W,w2.alloc (.cells (keyA_ k) 28)=W:=⟨_,rfl⟩;have hb3:Below w2.heap.size w2 w3:=by rw[←hw3];exact below_alloc w2 _
    have hK3:w3.heap[w2.heap.size]?=some (.cells (keyA_ k) 28 (0,0)):=by rw[←hw3];exact heap_alloc_new w2 _
    have hA3:BAt w w3 cv u6 S M w2.heap.size k:=⟨hL2.below hb3,hK3,by have:=hL2.c.lt;omega,fun e=>by have:=(hL2.c.own _ e).2;omega,fun e=>by have:=(hL2.g.lt _ e).2;omega⟩;have HW3:Hid (w2.alloc (.cells #[.bool k.safe, .string ⟨k.host.toArray⟩, .int .i64 k.port] 28)=w3):=hw3;rw[HW3.out];obtain⟨kb,hkb⟩:∃kb,w2.heap.size=kb:=⟨_,rfl⟩;rw[hkb]at hA3;rw[hkb];have ct:=bndtake hE HK.out.symm hA3 HI.out (by omega);obtain⟨r,hr⟩:∃r,takeR S k i=r:=⟨_,rfl⟩;obtain⟨⟨id,fr,e0⟩,S1⟩:=r;rw[hr]at ct;have D:=Lib.hid (take_inv HI.out hr);have hid:=take_bounds HI.out hr;have CT:Hid (Calls Tryz.prog 10 #[.pointer (some ⟨w.heap.size,0,none⟩), .agg #[.bool k.safe, .string ⟨k.host.toArray⟩, .int .i64 k.port], .int .i64 i] w3 fun e W'=>e= .returned (.tuple #[.int .i64 id, .bool fr, .int .i64 e0])∧∃cv',BAt w W' cv' u6 S1 M kb k):=ct;obtain⟨k0,k1,k2⟩:=hA3.cells;clear hw3 hb3 hK3 hL2 hb2 ck HW3 hx hxb HL hA3 hkb hr ct;go_upto_if 46 with (go_at_call 10;refine CT.out.mono ?_;rintro e w4 ⟨rfl,cv4,hA4⟩);have HA4:=Lib.hid hA4;clear hA4 CT k0 k1 k2;go_cut [6,12,13,14]from 47 to 75 (fun a6 a12 a13 a14 wx=>∃(cv5:Value) (S5:ConnsL) (M5:List Nat),Hid (Inv S5 M5 (i+1))∧Hid (BAt w wx cv5 a6 S5 M5 kb k))
    case first=>
     rcases D.out with ⟨rfl,hkey,hnot,hI1⟩|⟨rfl,rfl⟩
     ·obtain⟨ga,gn,gc,rfl,hgn,hgc⟩:=(RowS.own (z:=1) (by omega) encI_len HA4.out.o.g rfl).conc
      subst hgn;have cy:=bndkey HA4.out hI1.so (by have:=hI1.len;omega) hkey;have CY:Hid (Calls Tryz.prog 11 #[.pointer (some ⟨w.heap.size,0,none⟩), .int .i64 id] w4 fun e W'=>e= .returned (.tuple #[.agg #[.bool k.safe, .string ⟨k.host.toArray⟩, .int .i64 k.port], .bool true])∧Below w4.heap.size w4 W'):=cy;have HI1:=Lib.hid hI1;have HNOT:=Lib.hid hnot;clear cy hI1 hkey hnot D;go_upto_region 12 with (go_at_call 11;refine CY.out.mono ?_;rintro e w5 ⟨rfl,hb5⟩);have hA5:=HA4.out.below hb5;obtain⟨w6,hw6⟩:∃W,w5.alloc (.cells (keyA_ k) 28)=W:=⟨_,rfl⟩;have hb6:Below w5.heap.size w5 w6:=by rw[←hw6];exact below_alloc w5 _
      have hK6:w6.heap[w5.heap.size]?=some (.cells (keyA_ k) 28 (0,0)):=by rw[←hw6];exact heap_alloc_new w5 _
      have HW6:Hid (w5.alloc (.cells #[.bool k.safe, .string ⟨k.host.toArray⟩, .int .i64 k.port] 28)=w6):=hw6;rw[HW6.out];have hA6:=hA5.below hb6;obtain⟨k0,k1,k2⟩:=hA6.cells;have n0:w6.cell? ⟨w5.heap.size,0,none⟩=some (.bool k.safe):=by rw[Lib.cell_of_heap hK6];rfl
      have n1:w6.cell? ⟨w5.heap.size,1,none⟩=some (.string ⟨k.host.toArray⟩):=by rw[Lib.cell_of_heap hK6];rfl
      have n2:w6.cell? ⟨w5.heap.size,2,none⟩=some (.int .i64 k.port):=by rw[Lib.cell_of_heap hK6];rfl
      have hMl:M.length≤1000:=by
       have h1:=mine_le HI.out;rw[List.length_map]at h1;have h2:=HI.out.len;omega
      have HA6:=Lib.hid hA6;clear hw6 hb6 hK6 hA5 hb5 HW6 CY HA4 hA6;go_wp2_with fail;go_loop [14] (fun js=>∃j:Nat,j≤M.length∧js= .int .i64 j) (fun j=>M.length-(intOf j).toNat)
      case atStart=>exact⟨0,Nat.zero_le _,rfl⟩
      case round=>
       obtain⟨j,hj,rfl⟩:=hrel;by_cases hjl:j<M.length
       ·obtain⟨gb,gc2,hge,hgcell⟩:=int_form HA6.out.o.g (by omega)
        injection hge with hge _ hgc2;subst hge hgc2;have hx:=hgcell j hjl;have hji:(j:Int)<(M.length:Int):=by omega
        have hne:((M[j]:Int)==(id:Int))=false:=beq_eq_false_iff_ne.2 (fun e=>HNOT.out (by
         have:M[j]=id:=by omega
         rw[←this];exact List.getElem_mem hjl))
        clear hgcell;generalize M[j]=y at*;go_wp2_with fail;go_roundw
        case rel=>exact⟨j+1,by omega,by go_num⟩
        case measure=>simp[intOf];omega
       ·obtain rfl:j=M.length:=by omega
        have hgw:=HA6.out.o.g;have hbs:w.heap.size+1≤w6.heap.size:=HA6.out.o.c.lt;clear k0 k1 k2 n0 n1 n2;go_wp2_with(at_builtin;refine wpList_append_int _ rfl _ _ rfl (w.heap.size+1) _ _ _ rfl hgw (id:Int) _ rfl (by omega) hbs ?_);intro v' w7 hown hgr hnew;have HA7:=Lib.hid (HA6.out.put id hown hgr hnew);clear hown hgr hnew hgw;go_wp2_with fail;go_meet;exact⟨cv4,S1,_,HI1,HA7⟩
     ·have HI2:=Lib.hid (HI.out.mono (Nat.le_succ i))
      clear D;go_wp2_with fail;go_meet;exact⟨cv4,S1,M,HI2,HA4⟩
    case rest=>
     obtain⟨cv5,S5,M5,HI5,HA5⟩:=hcut;obtain⟨ga,gn,gc,rfl,hgn,hgc⟩:=(RowS.own (z:=1) (by omega) encI_len HA5.out.o.g rfl).conc;subst hgn;have hMl:M5.length≤1000:=by
      have h1:=mine_le HI5.out;rw[List.length_map]at h1;have h2:=HI5.out.len;omega
     clear D HI HA4;go_upto_region 20 with fail;go_cut [84]from 76 to 84 (fun a84 wz=>∃b:Bool,a84= .bool b∧(b=true→i<U.length∧0<M5.length)∧Hid (BAt w wz cv5 (.slice ga M5.length gc) S5 M5 kb k))
     case first=>
      by_cases hu:i<U.length
      ·have hui:(i:Int)<(U.length:Int):=by omega
       by_cases hm0:0<M5.length
       ·have hm0i:(0:Int)<(M5.length:Int):=by omega
        go_wp2_with fail;go_meet;exact⟨true,rfl,(fun _=>⟨hu,hm0⟩),HA5⟩
       ·have hm0i:(M5.length:Int)≤0:=by omega
        go_wp2_with fail;go_meet;exact⟨false,rfl,(fun h=>by cases h),HA5⟩
      ·have hui:(U.length:Int)≤(i:Int):=by omega
       go_wp2_with fail;go_meet;exact⟨false,rfl,(fun h=>by cases h),HA5⟩
     case rest=>
      obtain⟨b,rfl,hb,HA6⟩:=hcut;clear HA5;go_upto_if 84 with fail;go_cut [6,15]from 85 to 119 (fun a6 a15 wz=>∃(cv6:Value) (S6:ConnsL) (M6:List Nat),Hid (Inv S6 M6 (i+1))∧Hid (BAt w wz cv6 a6 S6 M6 kb k))
      case first=>
       cases b with
       |false=>
        go_wp2_with fail;go_meet;exact⟨_,_,_,HI5,HA6⟩
       |true=>
        obtain⟨hu,hm0⟩:=hb rfl;have hui:(i:Int)<(U.length:Int):=by omega
        have hm0i:(0:Int)<(M5.length:Int):=by omega
        obtain⟨ub,hua,hcellU⟩:=HU.out i hu;subst hua;have hy:=hcellU _ HA6.out.o.b;have hyb:=HUb.out _ (List.getElem_mem hu);obtain⟨G,hG⟩:∃G:Nat,U[i]=(G:Int):=⟨U[i].toNat,by omega⟩;rw[hG]at hy hyb;have hp:=Nat.mod_lt G hm0;obtain⟨S6,hr1,hr2,hI6⟩:=give_inv HI5.out (List.getElem?_eq_getElem hp) (now:=(i:Int)) (by omega) (by omega);have hrem:(G:Int) % (M5.length:Int)=((G % M5.length:Nat):Int):=(Int.natCast_emod G M5.length).symm;generalize G % M5.length=p at*;have hpi:(p:Int)<(M5.length:Int):=by omega
        have HR:=Lib.hid hrem;have HI6:=Lib.hid hI6;clear hcellU hG hrem hI6 hb;go_upto_region 22 with fail;rw[HR.out];obtain⟨gb,gc2,hge,hgc0⟩:=int_form HA6.out.o.g (by omega);clear hgc0;injection hge with hge _ hgc2;subst hge hgc2;obtain⟨m,hm⟩:∃m,M5[p]'hp=m:=⟨_,rfl⟩;rw[hm]at hr1 hr2;have hpm:M5[p]?=some m:=by rw[List.getElem?_eq_getElem hp,hm]
        have hl5:S5.l.length≤1000:=by have:=HI5.out.len;omega
        have hl6:S6.l.length≤1000:=by have:=HI6.out.len;omega
        have c1:=bndgive HA6.out HI5.out.so hl5 (giveR_found hr1 (by decide)) hr1 (by omega);have hx:=int_at HA6.out.o.g hpm;have G2:=Lib.hid hr2;have HPM:=Lib.hid hpm;clear hr1 hr2 hpm hm hy hyb;go_upto_region 24 with (first
         |(go_at_call 12;with_reducible refine c1.mono ?_;rintro e w7 ⟨rfl,hB7⟩;have hx7:=int_at hB7.o.g HPM.out)
         |(go_at_call 12;with_reducible refine(bndgive hB7 HI6.out.so hl6 (giveR_found G2.out (by decide)) G2.out (by omega)).mono ?_;rintro e w8 ⟨rfl,hB8⟩))
        have f1:(M5.flatMap encI).take p=(M5.take p).flatMap encI:=by have:=flatS_take encI_len M5 p;rwa[Nat.mul_one]at this
        have f2:(M5.flatMap encI).drop (p+1)=(M5.drop (p+1)).flatMap encI:=by have:=flatS_drop encI_len M5 (p+1);rwa[Nat.mul_one]at this
        obtain⟨x1,hx1,hs1⟩:=segTo e_intC elem_intC (fun W=>by kernel_rfl) hB8.o.g p (by omega);obtain⟨x2,hx2,hs2⟩:=segFrom e_intC elem_intC (fun W=>by kernel_rfl) hB8.o.g (p+1) (by omega);rw[f1]at hs1;rw[f2]at hs2;have l1:((M5.take p).flatMap encI).length=p:=by rw[flatS_len encI_len,List.length_take];omega
        have l2:((M5.drop (p+1)).flatMap encI).length=M5.length-(p+1):=by rw[flatS_len encI_len,List.length_drop];omega
        have hx2i:∀W,(Instr.slice 26 (.slice (some ⟨gb,0,none⟩) M5.length gc) (some (.int .i64 ((p:Int)+1))) none none).run Tryz.prog W= .ok x2 W:=hx2;have hw1:IntKind.i64.wrap ((p:Int)+1)=(p:Int)+1:=by rw[IntKind.wrap_i64];omega
        have s1:=hs1.kept (row:=(Value.slice none 0 0).ownBlock) (grown_drew (grown_refl w8 _)) (none_or _);have s2:=hs2.kept (row:=(Value.slice none 0 0).ownBlock) (grown_drew (grown_refl w8 _)) (none_or _);have HB8:=Lib.hid hB8;clear hx2 hs1 hs2 f1 f2 hB8 hx hx7 hB7 c1;refine wp_region_held_drew (S:=fun _=>True) (by kernel_rfl) trivial (fun _=> ?_)
        try simp only[Act.put,List.setIfInBounds_toArray,List.set_cons_zero,List.set_cons_succ]
        refine wpAnyH_take (i:=0) (oi:=⟨some 111, .move (.tmp 6),_,_,_,_⟩) (v:=(.slice (some ⟨gb,0,none⟩) M5.length gc)) rfl (by kernel_rfl) (by kernel_rfl) (by kernel_rfl) (fun _ _ _ h=>h) (.inl ⟨by rfl,fun W hW=>by go_simp⟩) trivial ?_
        try simp only[Act.put,List.setIfInBounds_toArray,List.set_cons_zero,List.set_cons_succ]
        refine wpAnyH_take (i:=1) (oi:=⟨some 112, .move (.tmp 15),_,_,_,_⟩) (v:=(.int .i64 (p:Int))) rfl (by kernel_rfl) (by kernel_rfl) (by kernel_rfl) (fun _ _ _ h=>h) (.inl ⟨by rfl,fun W hW=>by go_simp⟩) trivial ?_
        try simp only[Act.put,List.setIfInBounds_toArray,List.set_cons_zero,List.set_cons_succ]
        refine wpAnyH_take (i:=2) (oi:=⟨some 113, .slice 26 (.tmp 111) none (some (.tmp 112)) none,_,_,_,_⟩) (v:=x1) rfl (by kernel_rfl) (by kernel_rfl) (by kernel_rfl) (fun _ _ _ h=>h) (.inl ⟨by rfl,fun W hW=>by go_simp⟩) trivial ?_
        try simp only[Act.put,List.setIfInBounds_toArray,List.set_cons_zero,List.set_cons_succ]
        refine wpAnyH_take (i:=4) (oi:=⟨some 115, .move (.tmp 6),_,_,_,_⟩) (v:=(.slice (some ⟨gb,0,none⟩) M5.length gc)) rfl (by kernel_rfl) (by kernel_rfl) (by kernel_rfl) (fun _ _ _ h=>h) (.inl ⟨by rfl,fun W hW=>by go_simp⟩) trivial ?_
        try simp only[Act.put,List.setIfInBounds_toArray,List.set_cons_zero,List.set_cons_succ]
        refine wpAnyH_take (i:=5) (oi:=⟨some 116, .move (.tmp 15),_,_,_,_⟩) (v:=(.int .i64 (p:Int))) rfl (by kernel_rfl) (by kernel_rfl) (by kernel_rfl) (fun _ _ _ h=>h) (.inl ⟨by rfl,fun W hW=>by go_simp⟩) trivial ?_
        try simp only[Act.put,List.setIfInBounds_toArray,List.set_cons_zero,List.set_cons_succ]
        refine wpAnyH_take (i:=6) (oi:=⟨some 117, .binOp .add 3 (.tmp 116) (.const (.int .i64 1)) 3,_,_,_,_⟩) (v:=(.int .i64 ((p:Int)+1))) rfl (by kernel_rfl) (by kernel_rfl) (by kernel_rfl) (fun _ _ _ h=>h) (.inl ⟨by rfl,fun W hW=>by go_simp⟩) trivial ?_
        try simp only[Act.put,List.setIfInBounds_toArray,List.set_cons_zero,List.set_cons_succ]
        refine wpAnyH_take (i:=7) (oi:=⟨some 118, .slice 26 (.tmp 115) (some (.tmp 117)) none none,_,_,_,_⟩) (v:=x2) rfl (by kernel_rfl) (by kernel_rfl) (by kernel_rfl) (fun _ _ _ h=>h) (.inl ⟨by rfl,fun W hW=>by go_simp⟩) trivial ?_
        try simp only[Act.put,List.setIfInBounds_toArray,List.set_cons_zero,List.set_cons_succ]
        refine wpAnyH_ready (rs:=[3]) (by kernel_rfl) (by simp) ?_;refine AllReadyH.cons (o:=⟨some 114, .call {callee:= .builtin .append,args:= #[.const (.slice none 0 0), .tmp 113],argTypes:= #[26,26]},_,_,_,_⟩) rfl (fun K hK=> ?_) AllReadyH.nil;refine step_append_segC e_intC (by rfl) (.const (.slice none 0 0)) (.tmp 113) (by rfl) w8.heap.size (.slice none 0 0) 0 [] (by rfl) (World.ownsRow_nil _ _ _ _) x1 _ _ (by rfl) s1 (one_ints _) (by rw[l1];omega) (by rw[l1];omega) (Nat.le_refl _) ?_;intro v1 w9 hown1 hg1;refine hK.out _ _ trivial (fun _=> ?_);clear hK K
        try simp only[Act.put,List.setIfInBounds_toArray,List.set_cons_zero,List.set_cons_succ]
        refine wpAnyH_ready (rs:=[8]) (by kernel_rfl) (by simp) ?_;refine AllReadyH.cons (o:=⟨some 119, .call {callee:= .builtin .append,args:= #[.tmp 114, .tmp 118],argTypes:= #[26,26]},_,_,_,_⟩) rfl (fun K hK=> ?_) AllReadyH.nil;refine step_append_segC e_intC (by rfl) (.tmp 114) (.tmp 118) (by rfl) w8.heap.size v1 _ _ (by rfl) hown1 x2 _ _ (by rfl) (s2.kept hg1 (none_or _)) (one_ints _) (by rw[l1,l2];omega) (by rw[l1,l2];omega) hg1.size ?_;intro v2 w10 hown2 hg2;refine hK.out _ _ trivial (fun _=> ?_);clear hK K
        try simp only[Act.put,List.setIfInBounds_toArray,List.set_cons_zero,List.set_cons_succ]
        refine wpAnyH_take (i:=9) (oi:=⟨some 6, .assign (.tmp 119),_,_,_,_⟩) (v:=v2) rfl (by kernel_rfl) (by kernel_rfl) (by kernel_rfl) (fun _ _ _ h=>h) (.inl ⟨by rfl,fun W hW=>by go_simp⟩) trivial ?_
        try simp only[Act.put,List.setIfInBounds_toArray,List.set_cons_zero,List.set_cons_succ]
        refine wpAnyH_done (by kernel_rfl) ?_ _;have hbA:Below w8.heap.size w8 w9:=below_of_grown (grown_trans2 (grown_drew (grown_refl w8 none)) hg1) (Nat.le_refl _) (fun k h=>by cases h);have hbB:Below w8.heap.size w9 w10:=below_of_grown hg2 hg1.size (fun k h=>(hown1.lt k h).1);have en:(M5.take p++M5.drop (p+1)).length=0+((M5.take p).flatMap encI).length+((M5.drop (p+1)).flatMap encI).length:=by rw[l1,l2,List.length_append,List.length_take,List.length_drop];omega
        have hF:w10.ownsRow w8.heap.size 3 1 v2 (M5.take p++M5.drop (p+1)).length ((M5.take p++M5.drop (p+1)).flatMap encI):=by
         rw[en,List.flatMap_append];simpa only[List.nil_append]using hown2
        have HBF:=Lib.hid (HB8.out.fresh (hbA.trans hbB) hF);clear hbA hbB en hF hown2 hg2 hown1 hg1 s1 s2 l1 l2 hx1 hx2i;go_wp2_with fail;go_meet;exact⟨cv5,S6,_,HI6,HBF⟩
      case rest=>
       obtain⟨cv6,S6,M6,HI6,HB6⟩:=hcut;obtain⟨ga6,gn6,gc6,rfl,hgn6,hgc6⟩:=(RowS.own (z:=1) (by omega) encI_len HB6.out.o.g rfl).conc;subst hgn6;clear HI5 HA6 hb hMl;go_upto_region 25 with fail;have hl6:S6.l.length≤32:=HI6.out.len;have hm6:=mine_le HI6.out;rw[List.length_map]at hm6;have ca:=all_any S6 w.heap.size cv6 _ HB6.out.o.c (by omega);go_upto_region 26 with (go_at_call 13;refine ca.mono ?_;rintro e w8 ⟨⟨t8,rfl,ht8⟩,hb8⟩);obtain⟨a8,n8,c8,rfl,hn8,_⟩:=ht8.conc;rw[List.length_map]at hn8;subst hn8;have HB8:=Lib.hid (HB6.out.below hb8);have HT8:=Lib.hid ht8;clear ca ht8 hb8 HB6;go_wp2_with fail;go_loopw [17,18] (fun ms js wy=>∃(j mm:Nat),j≤S6.l.length∧js= .int .i64 j∧ms= .int .i64 mm∧mm≤j∧Hid (manyL k (S6.l.take j)=mm)∧Hid (BAt w wy cv6 (.slice ga6 M6.length gc6) S6 M6 kb k)∧Hid (RowS 1 encI wy (.slice a8 S6.l.length c8) (S6.l.map (·.id)))) (fun _ j _=>S6.l.length-(intOf j).toNat)
       case atStart=>exact⟨0,0,Nat.zero_le _,rfl,rfl,Nat.le_refl _,Lib.hid rfl,HB8,HT8⟩
       case round=>
        obtain⟨j,mm,hj,rfl,rfl,hmm,HM,HB9,HT9⟩:=hrel;by_cases hjl:j<S6.l.length
        ·obtain⟨b8,hb8⟩:∃b,a8=some b:=by
          rcases HT9.out with ⟨h1,h2⟩|⟨b,c,h1,_⟩
          ·have h3:S6.l=[]:=by simpa using h2
           rw[h3]at hjl;simp at hjl
          ·injection h1 with h1;exact⟨b,h1⟩
         subst hb8;have hy:∀W,Below _ _ W→_:=fun W (hW:Below _ _ W)=>(by
          have hT:=HT9.out;rw[show S6.l.length=(S6.l.map (·.id)).length by rw[List.length_map]]at hT;exact hT.each j (by rw[List.length_map];exact hjl) W hW 0 _ rfl)
         have hji:(j:Int)<(S6.l.length:Int):=by omega
         have hx0:=hy _ (Below.refl _ _);rw[addr_add0,Nat.mul_one,List.getElem_map]at hx0;have hgt:=List.getElem?_eq_getElem hjl;have cy:=bndkey HB9.out HI6.out.so (by omega) (key_of HI6.out.so hgt);have hmt:=many_take k S6.l hgt;rw[HM.out]at hmt;have HMT:=Lib.hid hmt;clear hy hgt hmt HM;generalize S6.l[j]=x at*;have CY:Hid (Calls Tryz.prog 11 #[.pointer (some ⟨w.heap.size,0,none⟩), .int .i64 x.id] _ fun e W'=>e= .returned (.tuple #[.agg #[.bool x.key.safe, .string ⟨x.key.host.toArray⟩, .int .i64 x.key.port], .bool true])∧Below _ _ W'):=cy;clear cy;go_upto_region 31 with (go_at_call 11;refine CY.out.mono ?_;rintro e z1 ⟨rfl,hz1⟩);have hT10:=HT9.out.below hz1 (Nat.le_refl _);have hB10:=HB9.out.below hz1;obtain⟨z2,hz2⟩:∃W,z1.alloc (.cells (keyA_ x.key) 28)=W:=⟨_,rfl⟩;have hbz:Below z1.heap.size z1 z2:=by rw[←hz2];exact below_alloc z1 _
         have hKz:z2.heap[z1.heap.size]?=some (.cells (keyA_ x.key) 28 (0,0)):=by rw[←hz2];exact heap_alloc_new z1 _
         have HZ2:Hid (z1.alloc (.cells #[.bool x.key.safe, .string ⟨x.key.host.toArray⟩, .int .i64 x.key.port] 28)=z2):=hz2;rw[HZ2.out];have hB11:=hB10.below hbz;have HT11:=Lib.hid (hT10.below hbz (Nat.le_refl _));obtain⟨k0,k1,k2⟩:=hB11.cells;have n0:z2.cell? ⟨z1.heap.size,0,none⟩=some (.bool x.key.safe):=by rw[Lib.cell_of_heap hKz];rfl
         have n1:z2.cell? ⟨z1.heap.size,1,none⟩=some (.string ⟨x.key.host.toArray⟩):=by rw[Lib.cell_of_heap hKz];rfl
         have n2:z2.cell? ⟨z1.heap.size,2,none⟩=some (.int .i64 x.key.port):=by rw[Lib.cell_of_heap hKz];rfl
         have HB11:=Lib.hid hB11;clear hz2 hbz hKz hB10 hT10 HZ2 CY HB9 HT9 hz1 hB11 hx0;by_cases hkk:x.key=k
         ·have HM2:Hid (manyL k (S6.l.take (j+1))=mm+1):=by
           show _=_;rw[HMT.out,if_pos hkk]
          rw[hkk]at n0 n1 n2;clear HMT hkk;go_wp2_with fail;go_roundw
          case rel=>exact⟨j+1,mm+1,by omega,by go_num,by go_num,by omega,HM2,HB11,HT11⟩
          case measure=>simp[intOf];omega
         ·have HM2:Hid (manyL k (S6.l.take (j+1))=mm):=by
           show _=_;rw[HMT.out,if_neg hkk];rfl
          have hEq:∀W,(binOp .eql 28 (.agg #[.bool x.key.safe, .string ⟨x.key.host.toArray⟩, .int .i64 x.key.port]) (.agg #[.bool k.safe, .string ⟨k.host.toArray⟩, .int .i64 k.port])).run Tryz.prog W= .ok (.bool false) W:=fun W=>by
           have:=eq_keyC x.key k W;rwa[decide_eq_false hkk]at this
          clear HMT hkk;go_wp2_with fail
          all_goals
           go_roundw
           case rel=>exact⟨j+1,mm,by omega,by go_num,rfl,by omega,HM2,HB11,HT11⟩
           case measure=>simp[intOf];omega
        ·obtain rfl:j=S6.l.length:=by omega
         have hmk:mm≤6:=by
          have h1:=HM.out;rw[List.take_length]at h1;have h2:=HI6.out.many k;omega
         have hmki:(mm:Int)≤6:=by omega
         have hl6i:(S6.l.length:Int)≤32:=by omega
         have hm6i:(M6.length:Int)≤(S6.l.length:Int):=by omega
         have HO9:=Lib.hid HB9.out.o;go_wp2_with fail;go_roundw
         case rel=>exact⟨i+1,cv6,S6,M6,by omega,by go_num,HI6,HO9⟩
         case measure=>simp[intOf];omega
   ·obtain rfl:i=T.length:=by omega
    have cz:=CL.out _ HL.out.b;go_wp2_with(go_at_call 7;refine cz.mono ?_;rintro e w8 ⟨rfl,hb8⟩);go_ret;exact⟨rfl,HL.out.b.trans (hb8.mono HL.out.b.size)⟩
end Go.Proofs.YtpkoodnbkffpoaaGreatDoor
