/- Connections: those that were kept too long are closed. -/
import Derived.Test.YtpkoodnbkffpoaaGreatDoorConnNums
import Derived.Test.YtpkoodnbkffpoaaGreatDoorConnDel
set_option linter.unusedVariables false
set_option linter.unusedSimpArgs false
set_option maxHeartbeats 16000000
namespace Go.Proofs.YtpkoodnbkffpoaaGreatDoor
open Go.RowKit
theorem enters_old:∀args W,(callFunc 35 args).run Tryz.prog W= .ok (.enter 35 args) W:=Go.Proofs.enters_of Tryz.func35 (by kernel_rfl) rfl
def FirstP (p:ConnL→Bool) (X:List ConnL) (k:Nat):Prop:=∃h:k<X.length,p X[k]=true∧∀(j:Nat) (h:j<X.length),j<k→p X[j]=false
set_option maxRecDepth 100000 in
theorem idx_old (now:Int) (q:Nat) (g c:Nat) (X:List ConnL) (w:World) (hX:∃x∈X,oldB now x=true) (hrow:RowS 5 cellsC w (.slice (some ⟨g,0,none⟩) X.length c) X) (hl:X.length≤1000) (hq:w.cell? ⟨q,0,none⟩=some (.int .i64 now))
 (h1:∀x∈X,x.given≤1000000) (h2:0≤now) (h3:now≤1000000):
 Calls Tryz.prog 72 #[.slice (some ⟨g,0,none⟩) X.length c, .func (.func 35) #[] #[.pointer (some ⟨q,0,none⟩)]] w fun e w'=>(∃k:Nat,e= .returned (.int .i64 k)∧FirstP (oldB now) X k)∧Below w.heap.size w w':=by
 have hbw:=Below.refl w.heap.size w
 have hlq:q<w.heap.size:=World.block_lt_of_cell? _ _ hq
 have HF:=Lib.hid fun (x:ConnL) (hx:x∈X) W (hW:Below w.heap.size w W)=>old1_any x now q W ((hW.cell (p:=⟨q,0,none⟩) hlq).trans hq) (h1 x hx) h2 h3
 have HC:=Lib.hid fun (k:Nat) (hk:k<X.length) W (hW:Below w.heap.size w W)=>hrow.each k hk W hW
 have HX:Hid (¬∀(j:Nat) (h:j<X.length),j<X.length→oldB now X[j]=false):=fun hn=>by
  obtain⟨x,hx,hp⟩:=hX;obtain⟨j,hj,rfl⟩:=List.getElem_of_mem hx;rw[hn j hj hj]at hp
  cases hp
 clear hq h1 hrow hX
 go_enter Tryz.func72,Tryz.ntmps72
 go_wp2_with fail
 go_loopw [5,8] (fun _ i wr=>∃k:Nat,k≤X.length∧i= .int .i64 k∧Hid (∀(j:Nat) (h:j<X.length),j<k→oldB now X[j]=false)∧Below w.heap.size w wr) (fun _ i _=>X.length-(intOf i).toNat)
 case atStart=>exact⟨0,Nat.zero_le _,rfl,Lib.hid (fun j _ h=>absurd h (by omega)),hbw⟩
 case round=>
  obtain⟨k,hk,rfl,HP,hbr⟩:=hrel;by_cases hlt:k<X.length
  ·obtain⟨e0,e1,e2,e3,e4⟩:=conn_cells (HC.out k hlt _ hbr)
   have cf:=HF.out _ (List.getElem_mem hlt) _ hbr;have hki:(k:Int)<(X.length:Int):=by omega
   cases hp:oldB now X[k]with
   |true=>
    have HR:Hid (FirstP (oldB now) X k):=⟨hlt,hp,HP.out⟩;rw[hp]at cf;clear hp HP;generalize X[k]=x at*;go_wp2_with(go_at_call 35;refine cf.mono ?_;rintro e w1 ⟨rfl,hb1⟩);go_ret;exact⟨⟨k,rfl,HR.out⟩,hbr.trans (hb1.mono hbr.size)⟩
   |false=>
    have HP2:Hid (∀(j:Nat) (h:j<X.length),j<k+1→oldB now X[j]=false):=fun j h h1=>by
     by_cases hj:j<k
     ·exact HP.out j h hj
     ·obtain rfl:j=k:=by omega
      exact hp
    rw[hp]at cf;clear hp HP;generalize X[k]=x at*;go_wp2_with(go_at_call 35;refine cf.mono ?_;rintro e w1 ⟨rfl,hb1⟩);go_roundw
    case rel=>exact⟨k+1,by omega,by go_num,HP2,hbr.trans (hb1.mono hbr.size)⟩
    case measure=>simp[intOf];omega
  ·obtain rfl:k=X.length:=by omega
   exact absurd HP.out HX.out
theorem own_put {α:Type} {en:α→List Value} {w:World} {base:Nat} {e:TypeId} {z g cap i:Nat} {X:List α} (hen:∀x,(en x).length=z) (h:w.ownsRow base e z (.slice (some ⟨g,0,none⟩) X.length cap) X.length (X.flatMap en)) (hi:i<X.length) (y:α):
 (w.setCells g (i*z) (en y)).ownsRow base e z (.slice (some ⟨g,0,none⟩) X.length cap) X.length ((X.set i y).flatMap en):=by
 have hX:X.length≤cap:=by
  rcases h.2 with ⟨h3,_⟩|⟨g',c',cur,h3,hb,hg,hc,hcm,hs,ht⟩
  ·cases h3
  ·simp only[Value.slice.injEq,Option.some.injEq,Addr.mk.injEq,and_true,true_and]at h3
   omega
 have h1:i*z+z≤X.length*z:=by rw[←Nat.succ_mul];exact Nat.mul_le_mul_right _ hi
 have h2:X.length*z≤cap*z:=Nat.mul_le_mul_right _ hX
 refine own_cut h hX (by rw[hen];omega) (by rw[flatS_len hen,List.length_set]) fun cur hc ht=> ?_
 have hti:cur.take (i*z)=(X.take i).flatMap en:=by
  rw[←flatS_take hen X i,←ht,List.take_take,Nat.min_eq_left (by omega)]
 have htd:(cur.drop (i*z+z)).take ((X.length-(i+1))*z)=(X.drop (i+1)).flatMap en:=by
  rw[←flatS_drop hen X (i+1),←ht,List.drop_take,show(i+1)*z=i*z+z by rw[Nat.succ_mul]];congr 1;rw[Nat.sub_mul,Nat.succ_mul]
 rw[hti,hen,List.take_append,List.take_of_length_le (by rw[List.length_append,flatS_len hen,hen,List.length_take,Nat.min_eq_left (by omega)];omega)]
 rw[List.length_append,flatS_len hen,hen,List.length_take,Nat.min_eq_left (by omega),show X.length*z-(i*z+z)=(X.length-(i+1))*z by rw[Nat.sub_mul,Nat.succ_mul],htd]
 rw[List.set_eq_take_append_cons_drop,if_pos hi,List.flatMap_append,List.flatMap_cons,List.append_assoc]
set_option maxRecDepth 100000 in
theorem delf_old (base:Nat) (now:Int) (q:Nat) (g cap:Nat) (X:List ConnL) (w:World) (hX:∃x∈X,oldB now x=true) (hown:w.ownsRow base 73 5 (.slice (some ⟨g,0,none⟩) X.length cap) X.length (X.flatMap cellsC)) (hl:X.length≤1000) (hq:w.cell? ⟨q,0,none⟩=some (.int .i64 now)) (hqg:q≠g)
 (hcm:X.length≤cap) (hcx:cap≤maxLen) (h1:∀x∈X,x.given≤1000000) (h2:0≤now) (h3:now≤1000000):
 Calls Tryz.prog 36 #[.slice (some ⟨g,0,none⟩) X.length cap, .func (.func 35) #[] #[.pointer (some ⟨q,0,none⟩)]] w fun e w'=>
  ∃m,m=(X.filter fun x=> !oldB now x).length∧e= .returned (.slice (some ⟨g,0,none⟩) m cap)∧w'.ownsRow base 73 5 (.slice (some ⟨g,0,none⟩) m cap) m ((X.filter fun x=> !oldB now x).flatMap cellsC)∧w.grownBy w' (some g):=by
 have ci:=idx_old now q g cap X w hX (RowS.own (by omega) cellsC_len hown rfl) hl hq h1 h2 h3
 have mixed:Tryz.prog.follows Departure.mixedOrders=true:=by kernel_rfl
 have hcap:cap≤9223372036854775807:=by unfold maxLen at hcx;omega
 have hbase:∀k,(Value.slice (some (⟨g,0,none⟩:Addr)) X.length cap).ownBlock=some k→base≤k∧k<w.heap.size:=hown.lt
 have HO:=Lib.hid hown
 have HQ:=Lib.hid hq
 have H1:=Lib.hid h1
 have HG:=Lib.hid hqg
 clear hown hq h1 hX hbase hqg
 go_enter Tryz.func36,Tryz.ntmps36
 go_upto_region 2 with (go_at_call 72;refine ci.mono ?_;rintro e w1 ⟨⟨k,rfl,hk⟩,hb1⟩)
 obtain⟨hkl,hkp,hkn⟩:=hk
 have hk1:((k:Int)== -1)=false:=beq_eq_false_iff_ne.2 (by omega)
 have hfk:(X.take (k+1)).filter (fun x=> !oldB now x)=X.take k:=by
  rw[List.take_succ_eq_append_getElem hkl,List.filter_append,List.filter_eq_self.2 (fun x hx=> ?_)]
  ·simp[hkp]
  ·obtain⟨j,hj,rfl⟩:=List.getElem_of_mem hx
   rw[List.length_take]at hj;rw[List.getElem_take,hkn j (by omega) (by omega)];rfl
 have HFK:=Lib.hid hfk
 have HO1:=Lib.hid (own_below HO.out hb1)
 have HB1:=Lib.hid hb1
 clear hfk hkn hkp hb1 ci
 go_wp2_with fail
 go_loopw [5,6] (fun a b wr=>∃(i j:Nat) (Y:List ConnL),a= .int .i64 i∧b= .int .i64 j∧i<j∧j≤X.length∧Y.length=X.length∧Hid (Y.take i=(X.take j).filter fun x=> !oldB now x)∧Hid (Y.drop j=X.drop j)∧Hid (wr.ownsRow base 73 5 (.slice (some ⟨g,0,none⟩) X.length cap) X.length (Y.flatMap cellsC))∧Hid (w.grownBy wr (some g))) (fun _ b _=>X.length-(intOf b).toNat)
 case atStart=>
  refine⟨k,k+1,X,rfl,by go_num,by omega,by omega,rfl,Lib.hid HFK.out.symm,Lib.hid rfl,HO1,Lib.hid ?_⟩;exact grown_below (grown_refl w _) HB1.out
 case round=>
  obtain⟨i,j,Y,rfl,rfl,hij,hjn,hYl,HT,HD,HOr,HGr⟩:=hrel;by_cases hlt:j<X.length
  ·have hjY:j<Y.length:=by omega
   have hXY:Y[j]=X[j]:=by
    have:=congrArg (·[0]?) HD.out;simp only[List.getElem?_drop,Nat.add_zero]at this;rw[List.getElem?_eq_getElem hjY,List.getElem?_eq_getElem hlt]at this;exact Option.some.inj this
   have hrow:RowS 5 cellsC wr (.slice (some ⟨g,0,none⟩) X.length cap) Y:=RowS.own (by omega) cellsC_len HOr.out hYl.symm;rw[←hYl]at hrow;obtain⟨e0,e1,e2,e3,e4⟩:=conn_cells (hrow.each j hjY wr (Below.refl _ _));rw[hXY]at e0 e1 e2 e3 e4;have hqr:wr.cell? ⟨q,0,none⟩=some (.int .i64 now):=HGr.out.cell HQ.out (by simpa using HG.out);have hb4:Below wr.heap.size wr (wr.alloc (.cells (connA X[j]) 73)):=below_alloc wr _;have cf:=old1_any X[j] now q _ ((hb4.cell (p:=⟨q,0,none⟩) (World.block_lt_of_cell? _ _ hqr)).trans hqr) (H1.out _ (List.getElem_mem hlt)) h2 h3;have hji:(j:Int)<(X.length:Int):=by omega
   have hdd:Y.drop (j+1)=X.drop (j+1):=by
    have:=congrArg (List.drop 1) HD.out;rwa[List.drop_drop,List.drop_drop]at this
   have HDD:=Lib.hid hdd;clear hdd
   cases hp:oldB now X[j]with
   |true=>
    have HT2:Hid (Y.take i=(X.take (j+1)).filter fun x=> !oldB now x):=by
     show _=_;rw[List.take_succ_eq_append_getElem hlt,List.filter_append,←HT.out];simp[hp]
    rw[hp]at cf;clear hp hXY hqr hrow;generalize X[j]=x at*;go_wp2_with(go_at_call 35;refine cf.mono ?_;rintro e w2 ⟨rfl,hb2⟩);go_roundw
    case rel=>exact⟨i,j+1,Y,rfl,by go_num,by omega,by omega,hYl,HT2,HDD,Lib.hid (own_below (own_below HOr.out hb4) hb2),Lib.hid (grown_below (grown_below HGr.out hb4) hb2)⟩
    case measure=>simp[intOf];omega
   |false=>
    have hT2:((Y.set i X[j]).take (i+1)=(X.take (j+1)).filter fun x=> !oldB now x):=by
     rw[List.take_succ_eq_append_getElem hlt,List.filter_append,←HT.out,List.take_succ_eq_append_getElem (by rw[List.length_set];omega),List.take_set_of_le (Nat.le_refl _),List.getElem_set_self];simp[hp]
    have hD2:(Y.set i X[j]).drop (j+1)=X.drop (j+1):=by rw[List.drop_set_of_lt (by omega)];exact HDD.out
    have HT2:=Lib.hid hT2;have HD2:=Lib.hid hD2;have hown4:=own_below HOr.out hb4;rw[hp]at cf;clear hp hXY hqr hrow hT2 hD2;generalize X[j]=x at*;have HE:=Lib.hid hown4;clear hown4;have hii:(i:Int)<(X.length:Int):=by omega
    go_upto_region 9 with (go_at_call 35;refine cf.mono ?_;rintro e w2 ⟨rfl,hb2⟩);have hown2:=own_below HE.out hb2;have hat:=own_at hown2;have hrow2:RowS 5 cellsC w2 (.slice (some ⟨g,0,none⟩) X.length cap) Y:=RowS.own (by omega) cellsC_len hown2 hYl.symm;rw[←hYl]at hrow2;obtain⟨d0,d1,d2,d3,d4⟩:=conn_cells (hrow2.each i (by omega) w2 (Below.refl _ _));have f0:=hat.2 (i*5);have f1:=hat.2 (i*5+1);have f2:=hat.2 (i*5+2);have f3:=hat.2 (i*5+3);have f4:=hat.2 (i*5+4);have n0:∀o,w2.cell? ⟨wr.heap.size,o,none⟩=(connA x)[o]?:=fun o=>by rw[Lib.cell_of_heap ((hb2.block _ (by rw[World.size_alloc];omega)).trans (heap_alloc_new wr _))]
    have x0:w2.cell? ⟨wr.heap.size,0,none⟩=some (.int .i64 x.id):=n0 0;have x1:w2.cell? ⟨wr.heap.size,1,none⟩=some (.bool x.key.safe):=n0 1;have x2:w2.cell? ⟨wr.heap.size,2,none⟩=some (.string ⟨x.key.host.toArray⟩):=n0 2;have x3:w2.cell? ⟨wr.heap.size,3,none⟩=some (.int .i64 x.key.port):=n0 3;have x4:w2.cell? ⟨wr.heap.size,4,none⟩=some (.int .i64 x.given):=n0 4;have hpu:(w2.setCells g (i*5) (cellsC x)).ownsRow base 73 5 (.slice (some ⟨g,0,none⟩) X.length cap) X.length ((Y.set i x).flatMap cellsC):=by
     have hY2:w2.ownsRow base 73 5 (.slice (some ⟨g,0,none⟩) Y.length cap) Y.length (Y.flatMap cellsC):=by rw[hYl];exact hown2
     have hput:=own_put (en:=cellsC) cellsC_len hY2 (show i<Y.length by omega) x;rw[hYl]at hput;exact hput
    have HPU:=Lib.hid hpu;have HG2:=Lib.hid (grown_trans2 (grown_below (grown_below HGr.out hb4) hb2) (setCells_grown g (cellsC x) (i*5) w2));clear hpu n0 hat hrow2 hown2;go_wp2_with fail;go_roundw
    case rel=>exact⟨i+1,j+1,Y.set i x,by go_num,by go_num,by omega,by omega,by rw[List.length_set];exact hYl,HT2,HD2,HPU,HG2⟩
    case measure=>simp[intOf];omega
  ·obtain rfl:j=X.length:=by omega
   have hT:=HT.out;rw[List.take_length]at hT;have hlm:i=(X.filter fun x=> !oldB now x).length:=by rw[←hT,List.length_take];omega
   have hown:=HOr.out;have hat:=own_at hown;have hcl:∀ty,(Builtin.clear_ #[67] ty #[.slice (some ⟨g,i*5,none⟩) (X.length-i) (cap-i)]).run Tryz.prog wr= .ok (.tuple #[]) (wr.setCells g (i*5) (Builtin.zeroCells zeroC.cells (X.length-i)).toList):=fun ty=>by
    have h5:zeroC.cells.size=5:=rfl;refine run_clear_z wr _ _ _ zeroC Tryz.underlying67 zeroC_run zeroC_one (by show 0<5;omega) g _ _ _ (by omega) (fun j hj=> ?_) (fun j _=>hat.2 _);rw[h5]at hj;refine hat.1 _ ?_;have:i*5+(X.length-i)*5=X.length*5:=by rw[←Nat.add_mul];congr 1;omega
    have:X.length*5≤cap*5:=Nat.mul_le_mul_right _ hcm;omega
   have hfin:=own_clear (m:=i) (vs:=(Builtin.zeroCells zeroC.cells (X.length-i)).toList) hown (by omega) (by
    rw[zero_len];show i*5+(X.length-i)*5≤cap*5;rw[←Nat.add_mul];exact Nat.mul_le_mul_right _ (by omega))
   rw[flatS_take cellsC_len,hT]at hfin;have HFI:=Lib.hid hfin;have HG2:=Lib.hid (grown_trans2 HGr.out (setCells_grown g (Builtin.zeroCells zeroC.cells (X.length-i)).toList (i*5) wr));have HLM:=Lib.hid hlm;have hic:¬cap=i:=by omega
   have hle1:(i:Int)≤(X.length:Int):=by omega
   have hle2:(X.length:Int)≤(cap:Int):=by omega
   have hle3:(i:Int)≤(cap:Int):=by omega
   clear hat hown hfin hT hlm;go_wp2_with fail;go_ret;exact⟨i,HLM.out,rfl,HFI.out,HG2.out⟩
end Go.Proofs.YtpkoodnbkffpoaaGreatDoor
