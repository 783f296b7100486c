/- jar.Check: walked. -/
import Derived.Test.YtjkipdoebkhkaaaGreatDoorGJar2
import Derived.Deep.RegionHeld
set_option linter.unusedVariables false
set_option linter.unusedSimpArgs false
set_option maxHeartbeats 16000000
namespace Go.Proofs.YtjkipdoebkhkaaaGreatDoor
open Go.RowKit
def hostV (c:CookieL):Value:= .string ⟨c.host.toArray⟩
theorem hostV_eq (c d:CookieL):sameH c d=true↔hostV d=hostV c:=by
 unfold sameH hostV;simp only[decide_eq_true_eq,Value.string.injEq,ByteArray.mk.injEq];exact⟨fun h=>by rw[h],fun h=>by simpa using h.symm⟩
theorem addr_zero (a:Addr):a.add 0=a:=by unfold Addr.add;split<;>simp_all
theorem keyE_iff (c d:CookieL):keyE c d=true↔keyV d=keyV c:=keyV_eq.symm
structure SizK (x:CookieL):Prop where
 name:x.name.length≤1048576
 value:x.value.length≤1048576
 host:x.host.length≤1048576
 path:x.path.length≤1048576
theorem keyV_of {c:CookieL} (h:SizK c):∃kl,keyOf Tryz.prog 79 (keyV c)=some kl:=by
 obtain⟨h1,h2,h3,h4⟩:=h;have hm:maxLen=281474976710656∨1048576≤maxLen:= .inr (by unfold maxLen;omega);exact jkey_of _ _ _ _ (by show c.name.length≤_;unfold maxLen;omega) (by show c.host.length≤_;unfold maxLen;omega) (by show c.path.length≤_;unfold maxLen;omega)
theorem hostV_of {c:CookieL} (h:SizK c):∃kl,keyOf Tryz.prog 9 (hostV c)=some kl:=
 ⟨_,WideMaps.keyOf_string_mk Tryz.underlying9 (by show c.host.length≤_;have:=h.host;unfold maxLen;omega)⟩
structure ChkW (w:World) (a b:Value) (n:Int) (M1 M2:Nat) (wr:World):Prop where
 low:Below w.heap.size w wr
 at_:wr.heap[w.heap.size]?=some (.cells #[a,b, .int .i64 n] 25 (0,0))
 m1:w.heap.size<M1
 m2:M1<M2
theorem ChkW.below {w:World} {a b:Value} {n:Int} {M1 M2:Nat} {wr wx:World} (h:ChkW w a b n M1 M2 wr) (k:Below wr.heap.size wr wx):ChkW w a b n M1 M2 wx:=
 ⟨below_nx h.low k,(k.block _ (Array.getElem?_eq_some_iff.1 h.at_).1).trans h.at_,h.m1,h.m2⟩
theorem ChkW.map {w:World} {a b:Value} {n:Int} {M1 M2 m:Nat} {wr wx:World} (h:ChkW w a b n M1 M2 wr) (k:wr.grownBy wx (some m)) (hm:w.heap.size<m):ChkW w a b n M1 M2 wx:=
 ⟨h.low.grown k h.low.size (fun j hj=>by cases hj;omega),(k.block _ (Array.getElem?_eq_some_iff.1 h.at_).1 (fun e=>by injection e with e;omega)).trans h.at_,h.m1,h.m2⟩
theorem ChkW.cells {w:World} {a b:Value} {n:Int} {M1 M2:Nat} {wr:World} (h:ChkW w a b n M1 M2 wr):wr.cell? ⟨w.heap.size,0,none⟩=some a∧wr.cell? ⟨w.heap.size,1,none⟩=some b∧wr.cell? ⟨w.heap.size,2,none⟩=some (.int .i64 n):=
 ⟨by rw[Lib.cell_of_heap h.at_];rfl,by rw[Lib.cell_of_heap h.at_];rfl,by rw[Lib.cell_of_heap h.at_];rfl⟩
theorem nameW {w:World} {a b:Value} {n:Int} {M1 M2:Nat} {wr:World} (h:Hid (ChkW w a b n M1 M2 wr)):∃W,W=wr∧Hid (ChkW w a b n M1 M2 W):=⟨_,rfl,h⟩
theorem CountAt.below {k:TypeId} {g:CookieL→Value} {r:CookieL→CookieL→Bool} {w w':World} {b n:Nat} {pre:List CookieL} (h:CountAt k g r w b n pre) (hb:Below w.heap.size w w'):CountAt k g r w' b n pre:=h.same (hb.block b h.lt)
set_option maxRecDepth 100000 in
theorem jcheck_any (a b:Value) (n:Int) (J:List CookieL) (S:List SealL) (w:World) (hE:EnvH w) (hJ:RowS 12 cellsK w a J) (hS:RowS 3 cellsS w b S) (zJ:∀x∈J,SizK x) (zS:∀x∈S,x.host.length≤1048576) (lJ:J.length≤1048576) (lS:S.length≤1048576):
 Calls Tryz.prog 9 #[keepV a b n] w fun e w'=>e= .returned (.bool (keepB J S n))∧Below w.heap.size w w':=by
 unfold keepV
 obtain⟨a1,a2,a3,rfl,ha2,ha3⟩:=hJ.conc
 obtain⟨b1,b2,b3,rfl,hb2,hb3⟩:=hS.conc
 subst ha2 hb2
 obtain⟨W0,hW0⟩:∃W,w.alloc (.cells #[.slice a1 J.length a3, .slice b1 S.length b3, .int .i64 n] 25)=W:=⟨_,rfl⟩
 have hb0:Below w.heap.size w W0:=by rw[←hW0];exact below_alloc w _
 have hs0:W0.heap.size=w.heap.size+1:=by rw[←hW0,World.size_alloc]
 have hK0:W0.heap[w.heap.size]?=some (.cells #[.slice a1 J.length a3, .slice b1 S.length b3, .int .i64 n] 25 (0,0)):=by rw[←hW0];exact heap_alloc_new w _
 obtain⟨W1,hW1⟩:∃W,W0.alloc (.map #[] 0)=W:=⟨_,rfl⟩
 obtain⟨W2,hW2⟩:∃W,W1.alloc (.map #[] 0)=W:=⟨_,rfl⟩
 have hs1:W1.heap.size=w.heap.size+2:=by rw[←hW1,World.size_alloc,hs0]
 have hb01:Below W0.heap.size W0 W1:=by rw[←hW1];exact below_alloc W0 _
 have hb12:Below W1.heap.size W1 W2:=by rw[←hW2];exact below_alloc W1 _
 have hC1:CountAt 79 keyV keyE W2 W0.heap.size 0 []:=by
  have:=count_made 79 keyV keyE W0;rw[hW1]at this;exact this.below hb12
 have hC2:CountAt 9 hostV sameH W2 W1.heap.size 0 []:=by
  have:=count_made 9 hostV sameH W1;rwa[hW2]at this
 have hKW:ChkW w (.slice a1 J.length a3) (.slice b1 S.length b3) n W0.heap.size W1.heap.size W2:=⟨below_nx (below_nx hb0 hb01) hb12,(hb12.block _ (by omega)).trans ((hb01.block _ (by omega)).trans hK0),by omega,by omega⟩
 have k0:W0.cell? ⟨w.heap.size,0,none⟩=some (.slice a1 J.length a3):=by rw[Lib.cell_of_heap hK0];rfl
 have k1:W0.cell? ⟨w.heap.size,1,none⟩=some (.slice b1 S.length b3):=by rw[Lib.cell_of_heap hK0];rfl
 have k2:W0.cell? ⟨w.heap.size,2,none⟩=some (.int .i64 n):=by rw[Lib.cell_of_heap hK0];rfl
 have HW:=Lib.hid hW0
 clear hW0 hK0
 by_cases q1:J.length≤300
 case neg=>
  have i1:(300:Int)<(J.length:Int):=by omega
  have HR:Hid (keepB J S n=false):=by show _=_;unfold keepB;simp[q1]
  go_enter Tryz.func9,Tryz.ntmps9;go_upto_region 1 with fail;rw[HW.out];go_wp2_with fail;go_ret;exact⟨by rw[HR.out];rfl,hb0⟩
 have i1:(J.length:Int)≤300:=by omega
 by_cases q2:S.length≤200
 case neg=>
  have i2:(200:Int)<(S.length:Int):=by omega
  have HR:Hid (keepB J S n=false):=by show _=_;unfold keepB;simp[q1,q2]
  go_enter Tryz.func9,Tryz.ntmps9;go_upto_region 1 with fail;rw[HW.out];go_wp2_with fail;go_ret;exact⟨by rw[HR.out];rfl,hb0⟩
 have i2:(S.length:Int)≤200:=by omega
 by_cases q3:0≤n
 case neg=>
  have i3:n<0:=by omega
  have HR:Hid (keepB J S n=false):=by show _=_;unfold keepB;simp[q1,q2,q3]
  go_enter Tryz.func9,Tryz.ntmps9;go_upto_region 1 with fail;rw[HW.out];go_wp2_with fail;go_ret;exact⟨by rw[HR.out];rfl,hb0⟩
 by_cases q4:n≤2147483647
 case neg=>
  have i4:2147483647<n:=by omega
  have HR:Hid (keepB J S n=false):=by show _=_;unfold keepB;simp[q1,q2,q3,q4]
  go_enter Tryz.func9,Tryz.ntmps9;go_upto_region 1 with fail;rw[HW.out];go_wp2_with fail;go_ret;exact⟨by rw[HR.out];rfl,hb0⟩
 have HK:Hid (keepB J S n=(jarB n J&&sealsB S)):=by show _=_;unfold keepB;simp[q1,q2,q3,q4]
 have hmm:= @run_makeMap Tryz.prog
 have HJ:=Lib.hid hJ
 have HS:=Lib.hid hS
 have ZJ:=Lib.hid zJ
 have ZS:=Lib.hid zS
 have HC1:=Lib.hid hC1
 have HC2:=Lib.hid hC2
 have HM1:Hid (W0.heap.size=w.heap.size+1∧W1.heap.size=w.heap.size+2):=⟨hs0,hs1⟩
 have HWW:Hid ((W0.alloc (.map #[] 0)).alloc (.map #[] 0)=W2):=by show _=_;rw[hW1,hW2]
 clear hJ hS zJ zS hC1 hC2 hW1 hW2 hb01 hb12 hs0 hs1
 go_enter Tryz.func9,Tryz.ntmps9
 go_upto_region 1 with fail
 rw[HW.out]
 go_upto_region 4 with fail
 rw[HWW.out]
 clear HWW HW hmm k0 k1 k2
 have hw12:W1.heap.size=W0.heap.size+1:=by have:=HM1.out;omega
 rw[hw12]at hKW HC2
 clear hw12 HM1
 generalize W0.heap.size=M at*
 obtain⟨k0,k1,k2⟩:=hKW.cells
 have hik:(Tryz.prog.info? 42).map (·.size)=some 12:=by kernel_rfl
 go_wp2_with fail
 clear k0 k1 k2
 go_loopw [5,35] (fun ls is wr=>∃k:Nat,k≤J.length∧ls= .int .i64 (lastO (J.take k))∧is= .int .i64 k∧Hid (∀i,i<k→jarAt n J i=true)∧Hid (CountAt 79 keyV keyE wr M k (J.take k))∧Hid (CountAt 9 hostV sameH wr (M+1) k (J.take k))∧ChkW w (.slice a1 J.length a3) (.slice b1 S.length b3) n M (M+1) wr) (fun _ i _=>J.length-(intOf i).toNat)
 case atStart=>exact⟨0,Nat.zero_le _,rfl,rfl,Lib.hid (fun i hi=>by omega),HC1,HC2,hKW⟩
 case round=>
  obtain⟨k,hk,rfl,rfl,HA,HC1,HC2,hKr⟩:=hrel;clear hKW;by_cases hlt:k<J.length
  ·obtain⟨aa,rfl⟩:∃aa,a1=some aa:=by
    rcases HJ.out with ⟨h1,h2⟩|⟨x,c,h1,_⟩
    ·rw[h2]at hlt;simp at hlt
    ·injection h1 with h1;exact⟨x,h1⟩
   have hck:=HJ.out.each k hlt wr hKr.low;have hz:=ZJ.out J[k] (List.getElem_mem hlt);have HAT:Hid (jarAt n J k=cookieOk n (J.take k) J[k]):=by show _=_;unfold jarAt;rw[List.getElem?_eq_getElem hlt]
   have HTK:Hid (J.take (k+1)=J.take k++[J[k]]):=by show _=_;rw[List.take_add_one,List.getElem?_eq_getElem hlt];rfl
   have hki:(k:Int)<(J.length:Int):=by omega
   generalize J[k]=c at*;go_upto_region 8 with (refine wpList_load_at (o:=⟨some 38, .load 42 (.tmp 37),_,_,_,_⟩) rfl 42 (.tmp 37) rfl (aa.add (k*12)) rfl [.string ⟨c.name.toArray⟩, .string ⟨c.value.toArray⟩, .string ⟨c.host.toArray⟩, .bool c.bare, .string ⟨c.path.toArray⟩, .bool c.secure, .bool c.hidden, .int .u8 c.site, .int .i64 c.made, .int .i64 c.last, .int .i64 c.till, .int .i64 c.order] _ hck Tryz.underlying42 rfl hik ?_);obtain⟨w4,hw4⟩:∃W,wr.alloc (.cells #[.string ⟨c.name.toArray⟩, .string ⟨c.value.toArray⟩, .string ⟨c.host.toArray⟩, .bool c.bare, .string ⟨c.path.toArray⟩, .bool c.secure, .bool c.hidden, .int .u8 c.site, .int .i64 c.made, .int .i64 c.last, .int .i64 c.till, .int .i64 c.order] 42)=W:=⟨_,rfl⟩;rw[hw4];have hb4:Below wr.heap.size wr w4:=by rw[←hw4];exact below_alloc wr _
   have hXb:w4.heap[wr.heap.size]?=some (.cells #[.string ⟨c.name.toArray⟩, .string ⟨c.value.toArray⟩, .string ⟨c.host.toArray⟩, .bool c.bare, .string ⟨c.path.toArray⟩, .bool c.secure, .bool c.hidden, .int .u8 c.site, .int .i64 c.made, .int .i64 c.last, .int .i64 c.till, .int .i64 c.order] 42 (0,0)):=by rw[←hw4];exact heap_alloc_new wr _
   have hX4:=(Array.getElem?_eq_some_iff.1 hXb).1;have HC4:=Lib.hid (HC1.out.below hb4);have HD4:=Lib.hid (HC2.out.below hb4);have hMX:M+1<wr.heap.size:=HC2.out.lt;have hK4:=hKr.below hb4;have hcx:∀j v,([.string ⟨c.name.toArray⟩, .string ⟨c.value.toArray⟩, .string ⟨c.host.toArray⟩, .bool c.bare, .string ⟨c.path.toArray⟩, .bool c.secure, .bool c.hidden, .int .u8 c.site, .int .i64 c.made, .int .i64 c.last, .int .i64 c.till, .int .i64 c.order]:List Value)[j]?=some v→w4.cell? ((⟨wr.heap.size,0,none⟩:Addr).add j)=some v:=fun j v hv=>by
    rw[Addr.add_lit,Nat.zero_add];exact blk_cell (l:=[.string ⟨c.name.toArray⟩, .string ⟨c.value.toArray⟩, .string ⟨c.host.toArray⟩, .bool c.bare, .string ⟨c.path.toArray⟩, .bool c.secure, .bool c.hidden, .int .u8 c.site, .int .i64 c.made, .int .i64 c.last, .int .i64 c.till, .int .i64 c.order]) hXb hv (Below.refl _ _)
   obtain⟨kl,hkl⟩:=keyV_of hz;generalize wr.heap.size=X at*;clear hw4 hb4 HC1 HC2 hKr hck;go_cut []from 39 to 45 (fun wx=>Hid (ChkW w (.slice (some aa) J.length a3) (.slice b1 S.length b3) n M (M+1) wx)∧Hid (CountAt 79 keyV keyE wx M (k+1) (J.take k++[c]))∧Hid (CountAt 9 hostV sameH wx (M+1) k (J.take k))∧Hid (wx.heap[X]?=some (.cells #[.string ⟨c.name.toArray⟩, .string ⟨c.value.toArray⟩, .string ⟨c.host.toArray⟩, .bool c.bare, .string ⟨c.path.toArray⟩, .bool c.secure, .bool c.hidden, .int .u8 c.site, .int .i64 c.made, .int .i64 c.last, .int .i64 c.till, .int .i64 c.order] 42 (0,0))))
   case first=>
    refine wp_region_held_drew (S:=fun _=>True) (by kernel_rfl) trivial (fun _=> ?_)
    try simp only[Act.put,List.setIfInBounds_toArray,List.set_cons_zero,List.set_cons_succ]
    refine wpAnyH_take (i:=0) (oi:=⟨some 39, .move (.tmp 3),_,_,_,_⟩) (v:=(.map (some M))) rfl (by kernel_rfl) (by kernel_rfl) (by kernel_rfl) (fun _ _ _ h=>h) (.inl ⟨by rfl,fun W hW=>by go_simp⟩) trivial ?_
    try simp only[Act.put,List.setIfInBounds_toArray,List.set_cons_zero,List.set_cons_succ]
    refine wpAnyH_ready (rs:=[1]) (by kernel_rfl) (by simp) ?_;refine AllReadyH.cons (o:=⟨some 40, .load 42 (.tmp 7),_,_,_,_⟩) rfl (fun K hK=> ?_) AllReadyH.nil;rw[if_pos (by rfl)];refine wp_load_at 42 (.tmp 7) rfl ⟨X,0,none⟩ rfl [.string ⟨c.name.toArray⟩, .string ⟨c.value.toArray⟩, .string ⟨c.host.toArray⟩, .bool c.bare, .string ⟨c.path.toArray⟩, .bool c.secure, .bool c.hidden, .int .u8 c.site, .int .i64 c.made, .int .i64 c.last, .int .i64 c.till, .int .i64 c.order] _ hcx Tryz.underlying42 rfl hik ?_;refine hK.out _ _ trivial (fun _=> ?_);clear hK K
    try simp only[Act.put,List.setIfInBounds_toArray,List.set_cons_zero,List.set_cons_succ]
    refine wpAnyH_ready (rs:=[2]) (by kernel_rfl) (by simp) ?_;refine AllReadyH.cons (o:=⟨some 41, .call {callee:= .value (.func 24),args:= #[.tmp 40],argTypes:= #[42]},_,_,_,_⟩) rfl (fun K hK=> ?_) AllReadyH.nil;go_simp;go_at_call 24;refine(jkey_any c _).mono ?_;rintro e z1 ⟨rfl,hz1⟩;go_wp2_with fail;refine hK.out _ _ trivial (fun _=> ?_);clear hK K;have hz4:Below w4.heap.size w4 z1:=(Below.refl w4.heap.size w4).drew.trans hz1;have g1:=HC4.out.below hz4;have g2:=HD4.out.below hz4;have g3:=hK4.below hz4;have hl:=g1.look jkey_law Tryz.underlying76 c hkl;obtain⟨v0,st,w1,he,hge,hst⟩:=g1.entry jkey_law Tryz.underlying76 keyE_iff (by unfold maxLen;omega) (by rw[List.length_take];omega) c hkl;have hl2:=(g1.place jkey_law Tryz.underlying76 keyE_iff (by unfold maxLen;omega) c hkl he).look jkey_law Tryz.underlying76 c hkl;obtain⟨w3,hs3,hC3,hg3⟩:=hst w1 (grown_refl w1 none);have hm:=List.length_filter_le (keyE c) (J.take k);rw[List.length_take]at hm;generalize (List.filter (keyE c) (J.take k)).length=m at*;have hmi:(m:Int)≤1048576:=by omega
    have hwr:IntKind.i64.wrap ((m:Int)+1)=(m:Int)+1:=by rw[IntKind.wrap_i64];omega
    have hs4:(Instr.entryStore 76 (.map (some M)) (.int .i64 (st:Int)) (.int .i64 ((m:Int)+1))).run Tryz.prog w1= .ok () w3:=hs3;clear hs3;have HEND:Hid (ChkW w (.slice (some aa) J.length a3) (.slice b1 S.length b3) n M (M+1) w3)∧Hid (CountAt 79 keyV keyE w3 M (k+1) (J.take k++[c]))∧Hid (CountAt 9 hostV sameH w3 (M+1) k (J.take k))∧Hid (w3.heap[X]?=some (.cells #[.string ⟨c.name.toArray⟩, .string ⟨c.value.toArray⟩, .string ⟨c.host.toArray⟩, .bool c.bare, .string ⟨c.path.toArray⟩, .bool c.secure, .bool c.hidden, .int .u8 c.site, .int .i64 c.made, .int .i64 c.last, .int .i64 c.till, .int .i64 c.order] 42 (0,0))):=by
     have hX1:w1.heap[X]?=some (.cells #[.string ⟨c.name.toArray⟩, .string ⟨c.value.toArray⟩, .string ⟨c.host.toArray⟩, .bool c.bare, .string ⟨c.path.toArray⟩, .bool c.secure, .bool c.hidden, .int .u8 c.site, .int .i64 c.made, .int .i64 c.last, .int .i64 c.till, .int .i64 c.order] 42 (0,0)):=(hge.block X (Nat.lt_of_lt_of_le hX4 hz4.size) (fun e=>by injection e with e;omega)).trans ((hz4.block X hX4).trans hXb);exact⟨(g3.map hge g3.m1).map hg3 g3.m1,hC3,(g2.kept hge (fun e=>by injection e with e;omega)).kept hg3 (fun e=>by injection e with e;omega),(hg3.block X (Array.getElem?_eq_some_iff.1 hX1).1 (fun e=>by injection e with e;omega)).trans hX1⟩
    clear hC3 hg3 hge hst g1 g2 g3 hz1 hcx
    try simp only[Act.put,List.setIfInBounds_toArray,List.set_cons_zero,List.set_cons_succ]
    refine wpAnyH_ready (rs:=[3,5]) (by kernel_rfl) (by simp) ?_;refine AllReadyH.cons (o:=⟨some 42, .lookup 76 (.tmp 39) (.tmp 41) false,_,_,_,_⟩) rfl (fun K hK=> ?_) (AllReadyH.cons (o:=⟨some 44, .mapEntry 76 (.tmp 39) (.tmp 41),_,_,_,_⟩) rfl (fun K hK=> ?_) AllReadyH.nil)
    ·go_simp
     refine hK.out _ _ trivial (fun _=> ?_);clear hK K
     try simp only[Act.put,List.setIfInBounds_toArray,List.set_cons_zero,List.set_cons_succ]
     refine wpAnyH_take (i:=4) (oi:=⟨some 43, .binOp .add 3 (.tmp 42) (.const (.int .i64 1)) 3,_,_,_,_⟩) (v:=(.int .i64 ((m:Int)+1))) rfl (by kernel_rfl) (by kernel_rfl) (by kernel_rfl) (fun _ _ _ h=>h) (.inl ⟨by rfl,fun W hW=>by go_simp⟩) trivial ?_
     try simp only[Act.put,List.setIfInBounds_toArray,List.set_cons_zero,List.set_cons_succ]
     refine wpAnyH_ready (rs:=[5]) (by kernel_rfl) (by simp) ?_;refine AllReadyH.cons (o:=⟨some 44, .mapEntry 76 (.tmp 39) (.tmp 41),_,_,_,_⟩) rfl (fun K hK=> ?_) AllReadyH.nil;go_simp;refine hK.out _ _ trivial (fun _=> ?_);clear hK K
     try simp only[Act.put,List.setIfInBounds_toArray,List.set_cons_zero,List.set_cons_succ]
     refine wpAnyH_take (i:=6) (oi:=⟨some 45, .extract (.tmp 44) 1,_,_,_,_⟩) (v:=(.int .i64 st)) rfl (by kernel_rfl) (by kernel_rfl) (by kernel_rfl) (fun _ _ _ h=>h) (.inl ⟨by rfl,fun W hW=>by go_simp⟩) trivial ?_
     try simp only[Act.put,List.setIfInBounds_toArray,List.set_cons_zero,List.set_cons_succ]
     refine wpAnyH_ready (rs:=[7]) (by kernel_rfl) (by simp) ?_;refine AllReadyH.cons (o:=⟨none, .entryStore 76 (.tmp 39) (.tmp 45) (.tmp 43),_,_,_,_⟩) rfl (fun K hK=> ?_) AllReadyH.nil;go_simp;refine hK.out _ _ trivial (fun _=> ?_);clear hK K
     try simp only[Act.put,List.setIfInBounds_toArray,List.set_cons_zero,List.set_cons_succ]
     refine wpAnyH_done (by kernel_rfl) ?_ _;go_wp2_with fail;go_meet;exact HEND
    ·go_simp
     refine hK.out _ _ trivial (fun _=> ?_);clear hK K
     try simp only[Act.put,List.setIfInBounds_toArray,List.set_cons_zero,List.set_cons_succ]
     refine wpAnyH_take (i:=6) (oi:=⟨some 45, .extract (.tmp 44) 1,_,_,_,_⟩) (v:=(.int .i64 st)) rfl (by kernel_rfl) (by kernel_rfl) (by kernel_rfl) (fun _ _ _ h=>h) (.inl ⟨by rfl,fun W hW=>by go_simp⟩) trivial ?_
     try simp only[Act.put,List.setIfInBounds_toArray,List.set_cons_zero,List.set_cons_succ]
     refine wpAnyH_ready (rs:=[3]) (by kernel_rfl) (by simp) ?_;refine AllReadyH.cons (o:=⟨some 42, .lookup 76 (.tmp 39) (.tmp 41) false,_,_,_,_⟩) rfl (fun K hK=> ?_) AllReadyH.nil;go_simp;refine hK.out _ _ trivial (fun _=> ?_);clear hK K
     try simp only[Act.put,List.setIfInBounds_toArray,List.set_cons_zero,List.set_cons_succ]
     refine wpAnyH_take (i:=4) (oi:=⟨some 43, .binOp .add 3 (.tmp 42) (.const (.int .i64 1)) 3,_,_,_,_⟩) (v:=(.int .i64 ((m:Int)+1))) rfl (by kernel_rfl) (by kernel_rfl) (by kernel_rfl) (fun _ _ _ h=>h) (.inl ⟨by rfl,fun W hW=>by go_simp⟩) trivial ?_
     try simp only[Act.put,List.setIfInBounds_toArray,List.set_cons_zero,List.set_cons_succ]
     refine wpAnyH_ready (rs:=[7]) (by kernel_rfl) (by simp) ?_;refine AllReadyH.cons (o:=⟨none, .entryStore 76 (.tmp 39) (.tmp 45) (.tmp 43),_,_,_,_⟩) rfl (fun K hK=> ?_) AllReadyH.nil;go_simp;refine hK.out _ _ trivial (fun _=> ?_);clear hK K
     try simp only[Act.put,List.setIfInBounds_toArray,List.set_cons_zero,List.set_cons_succ]
     refine wpAnyH_done (by kernel_rfl) ?_ _;go_wp2_with fail;go_meet;exact HEND
   case rest=>
    obtain⟨HK5,HC5,HD5,HX5⟩:=hcut;obtain⟨k1,k2,k3⟩:=HK5.out.cells;clear k1 k2;obtain⟨kh,hkh⟩:=hostV_of hz;have hq:=List.length_filter_le (sameH c) (J.take k);rw[List.length_take]at hq;have hl2:=HD5.out.look str_law Tryz.underlying77 c hkh;obtain⟨w6,hup,hD6,hg6⟩:=HD5.out.store str_law Tryz.underlying77 hostV_eq (by unfold maxLen;omega) (by rw[List.length_take];omega) c hkh;have hK6:=HK5.out.map hg6 (by have:=HK5.out.m1;have:=HK5.out.m2;omega);have hC6:=HC5.out.kept hg6 (fun e=>by injection e with e;omega);have hX6:w6.heap[X]?=some (.cells #[.string ⟨c.name.toArray⟩, .string ⟨c.value.toArray⟩, .string ⟨c.host.toArray⟩, .bool c.bare, .string ⟨c.path.toArray⟩, .bool c.secure, .bool c.hidden, .int .u8 c.site, .int .i64 c.made, .int .i64 c.last, .int .i64 c.till, .int .i64 c.order] 42 (0,0)):=(hg6.block X (Array.getElem?_eq_some_iff.1 HX5.out).1 (fun e=>by injection e with e;omega)).trans HX5.out;have hkk:keyE c c=true:=(keyE_iff c c).2 rfl;have hss:sameH c c=true:=(hostV_eq c c).2 rfl;have HL3:Hid (∀z,Below w6.heap.size w6 z→(Instr.lookup 76 (.map (some M)) (keyV c) false).run Tryz.prog z= .ok (.int .i64 (((J.take k).filter (keyE c)).length+1:Nat)) z):=fun z hzz=>by
     have:=(hC6.below hzz).look jkey_law Tryz.underlying76 c hkl;rwa[List.filter_append,List.filter_cons_of_pos hkk,List.length_append]at this
    have HL4:Hid (∀z,Below w6.heap.size w6 z→(Instr.lookup 77 (.map (some (M+1))) (.string ⟨c.host.toArray⟩) false).run Tryz.prog z= .ok (.int .i64 (((J.take k).filter (sameH c)).length+1:Nat)) z):=fun z hzz=>by
     have:=(hD6.below hzz).look str_law Tryz.underlying77 c hkh;rwa[List.filter_append,List.filter_cons_of_pos hss,List.length_append]at this
    have FX:=Lib.hid (fun (j:Nat) (v:Value) (hv:([.string ⟨c.name.toArray⟩, .string ⟨c.value.toArray⟩, .string ⟨c.host.toArray⟩, .bool c.bare, .string ⟨c.path.toArray⟩, .bool c.secure, .bool c.hidden, .int .u8 c.site, .int .i64 c.made, .int .i64 c.last, .int .i64 c.till, .int .i64 c.order]:List Value)[j]?=some v) (z:World) (hzz:Below w6.heap.size w6 z)=>blk_cell (l:=[.string ⟨c.name.toArray⟩, .string ⟨c.value.toArray⟩, .string ⟨c.host.toArray⟩, .bool c.bare, .string ⟨c.path.toArray⟩, .bool c.secure, .bool c.hidden, .int .u8 c.site, .int .i64 c.made, .int .i64 c.last, .int .i64 c.till, .int .i64 c.order]) hX6 hv hzz);have HCX:Hid (∀z,Below w6.heap.size w6 z→∀j v,([.string ⟨c.name.toArray⟩, .string ⟨c.value.toArray⟩, .string ⟨c.host.toArray⟩, .bool c.bare, .string ⟨c.path.toArray⟩, .bool c.secure, .bool c.hidden, .int .u8 c.site, .int .i64 c.made, .int .i64 c.last, .int .i64 c.till, .int .i64 c.order]:List Value)[j]?=some v→z.cell? ((⟨X,0,none⟩:Addr).add j)=some v):=fun z hzz j v hv=>by
     rw[Addr.add_lit,Nat.zero_add];exact blk_cell (l:=[.string ⟨c.name.toArray⟩, .string ⟨c.value.toArray⟩, .string ⟨c.host.toArray⟩, .bool c.bare, .string ⟨c.path.toArray⟩, .bool c.secure, .bool c.hidden, .int .u8 c.site, .int .i64 c.made, .int .i64 c.last, .int .i64 c.till, .int .i64 c.order]) hX6 hv hzz
    have hCC:Hid (cookieOk n (J.take k) c=(decide (lastO (J.take k)<c.order)&&decide (c.order<n)&&decide (((J.take k).filter (keyE c)).length=0)&&decide (((J.take k).filter (sameH c)).length<50)&&mayC c)):=rfl;have hq2:=List.length_filter_le (keyE c) (J.take k);rw[List.length_take]at hq2;have HSTOP:Hid (cookieOk n (J.take k) c=false→jarB n J=false):=fun h=>by
     unfold jarB;exact range_all_stop hlt (by rw[HAT.out];exact h)
    have HK6:=Lib.hid hK6;have HC6:=Lib.hid hC6;have HD6:=Lib.hid hD6;obtain⟨g0,g1,g2⟩:=hK6.cells;have x2:=blk_cell (l:=[.string ⟨c.name.toArray⟩, .string ⟨c.value.toArray⟩, .string ⟨c.host.toArray⟩, .bool c.bare, .string ⟨c.path.toArray⟩, .bool c.secure, .bool c.hidden, .int .u8 c.site, .int .i64 c.made, .int .i64 c.last, .int .i64 c.till, .int .i64 c.order]) HX5.out (j:=2) rfl (Below.refl _ _);have x6_0:=FX.out 0 _ rfl w6 (Below.refl _ _);have x6_1:=FX.out 1 _ rfl w6 (Below.refl _ _);have x6_2:=FX.out 2 _ rfl w6 (Below.refl _ _);have x6_3:=FX.out 3 _ rfl w6 (Below.refl _ _);have x6_4:=FX.out 4 _ rfl w6 (Below.refl _ _);have x6_5:=FX.out 5 _ rfl w6 (Below.refl _ _);have x6_6:=FX.out 6 _ rfl w6 (Below.refl _ _);have x6_7:=FX.out 7 _ rfl w6 (Below.refl _ _);have x6_8:=FX.out 8 _ rfl w6 (Below.refl _ _);have x6_9:=FX.out 9 _ rfl w6 (Below.refl _ _);have x6_10:=FX.out 10 _ rfl w6 (Below.refl _ _);have x6_11:=FX.out 11 _ rfl w6 (Below.refl _ _);have hlw:=hK6.low;unfold hostV at hl2 hup;clear hg6 hK6 hC6 hD6 hX6 HX5 HK5 HC5 HD5 hkk hss g0 g1;generalize hm0:((J.take k).filter (keyE c)).length=m at*;generalize hq0:((J.take k).filter (sameH c)).length=q at*;have hwq:IntKind.i64.wrap ((q:Int)+1)=(q:Int)+1:=by rw[IntKind.wrap_i64];omega
    go_upto_region 10 with fail;by_cases p1:lastO (J.take k)<c.order
    case neg=>
     have j1:c.order≤lastO (J.take k):=by omega
     have HR:Hid (keepB J S n=false):=by
      show _=_;rw[HK.out,HSTOP.out (by rw[hCC.out];simp[p1])];rfl
     go_wp2_with(first
      |(go_at_call 24;refine(jkey_any c _).mono ?_;rintro e z1 ⟨rfl,hz1⟩;have h3:=HL3.out z1 hz1;have h4:=HL4.out z1 hz1;have y0:=FX.out 0 _ rfl z1 hz1;have y1:=FX.out 1 _ rfl z1 hz1;have y2:=FX.out 2 _ rfl z1 hz1;have y3:=FX.out 3 _ rfl z1 hz1;have y4:=FX.out 4 _ rfl z1 hz1;have y5:=FX.out 5 _ rfl z1 hz1;have y6:=FX.out 6 _ rfl z1 hz1;have y7:=FX.out 7 _ rfl z1 hz1;have y8:=FX.out 8 _ rfl z1 hz1;have y9:=FX.out 9 _ rfl z1 hz1;have y10:=FX.out 10 _ rfl z1 hz1;have y11:=FX.out 11 _ rfl z1 hz1)
      |(go_at_call 25;refine(jmay_any c _ (hE.below (HK6.out.below hz1).low) hz.name hz.value hz.path).mono ?_;rintro e z2 ⟨rfl,hz2⟩;have hz12:=below_nx hz1 hz2;have u11:=FX.out 11 _ rfl z2 hz12))
     go_ret;exact⟨by rw[HR.out];rfl,hlw⟩
    by_cases p2:c.order<n
    case neg=>
     have j2:n≤c.order:=by omega
     have HR:Hid (keepB J S n=false):=by
      show _=_;rw[HK.out,HSTOP.out (by rw[hCC.out];simp[p1,p2])];rfl
     go_wp2_with(first
      |(go_at_call 24;refine(jkey_any c _).mono ?_;rintro e z1 ⟨rfl,hz1⟩;have h3:=HL3.out z1 hz1;have h4:=HL4.out z1 hz1;have y0:=FX.out 0 _ rfl z1 hz1;have y1:=FX.out 1 _ rfl z1 hz1;have y2:=FX.out 2 _ rfl z1 hz1;have y3:=FX.out 3 _ rfl z1 hz1;have y4:=FX.out 4 _ rfl z1 hz1;have y5:=FX.out 5 _ rfl z1 hz1;have y6:=FX.out 6 _ rfl z1 hz1;have y7:=FX.out 7 _ rfl z1 hz1;have y8:=FX.out 8 _ rfl z1 hz1;have y9:=FX.out 9 _ rfl z1 hz1;have y10:=FX.out 10 _ rfl z1 hz1;have y11:=FX.out 11 _ rfl z1 hz1)
      |(go_at_call 25;refine(jmay_any c _ (hE.below (HK6.out.below hz1).low) hz.name hz.value hz.path).mono ?_;rintro e z2 ⟨rfl,hz2⟩;have hz12:=below_nx hz1 hz2;have u11:=FX.out 11 _ rfl z2 hz12))
     go_ret;exact⟨by rw[HR.out];rfl,hlw⟩
    by_cases p3:m=0
    case neg=>
     have j3:(1:Int)<((m+1:Nat):Int):=by omega
     have HR:Hid (keepB J S n=false):=by
      show _=_;rw[HK.out,HSTOP.out (by rw[hCC.out];simp[p1,p2,p3])];rfl
     go_wp2_with(first
      |(go_at_call 24;refine(jkey_any c _).mono ?_;rintro e z1 ⟨rfl,hz1⟩;have h3:=HL3.out z1 hz1;have h4:=HL4.out z1 hz1;have y0:=FX.out 0 _ rfl z1 hz1;have y1:=FX.out 1 _ rfl z1 hz1;have y2:=FX.out 2 _ rfl z1 hz1;have y3:=FX.out 3 _ rfl z1 hz1;have y4:=FX.out 4 _ rfl z1 hz1;have y5:=FX.out 5 _ rfl z1 hz1;have y6:=FX.out 6 _ rfl z1 hz1;have y7:=FX.out 7 _ rfl z1 hz1;have y8:=FX.out 8 _ rfl z1 hz1;have y9:=FX.out 9 _ rfl z1 hz1;have y10:=FX.out 10 _ rfl z1 hz1;have y11:=FX.out 11 _ rfl z1 hz1)
      |(go_at_call 25;refine(jmay_any c _ (hE.below (HK6.out.below hz1).low) hz.name hz.value hz.path).mono ?_;rintro e z2 ⟨rfl,hz2⟩;have hz12:=below_nx hz1 hz2;have u11:=FX.out 11 _ rfl z2 hz12))
     go_ret;exact⟨by rw[HR.out];rfl,below_nx hlw hz1⟩
    have j3:((m+1:Nat):Int)=1:=by omega
    by_cases p4:q<50
    case neg=>
     have j4:(50:Int)<((q+1:Nat):Int):=by omega
     have HR:Hid (keepB J S n=false):=by
      show _=_;rw[HK.out,HSTOP.out (by rw[hCC.out];simp[p1,p2,p3,p4])];rfl
     go_wp2_with(first
      |(go_at_call 24;refine(jkey_any c _).mono ?_;rintro e z1 ⟨rfl,hz1⟩;have h3:=HL3.out z1 hz1;have h4:=HL4.out z1 hz1;have y0:=FX.out 0 _ rfl z1 hz1;have y1:=FX.out 1 _ rfl z1 hz1;have y2:=FX.out 2 _ rfl z1 hz1;have y3:=FX.out 3 _ rfl z1 hz1;have y4:=FX.out 4 _ rfl z1 hz1;have y5:=FX.out 5 _ rfl z1 hz1;have y6:=FX.out 6 _ rfl z1 hz1;have y7:=FX.out 7 _ rfl z1 hz1;have y8:=FX.out 8 _ rfl z1 hz1;have y9:=FX.out 9 _ rfl z1 hz1;have y10:=FX.out 10 _ rfl z1 hz1;have y11:=FX.out 11 _ rfl z1 hz1)
      |(go_at_call 25;refine(jmay_any c _ (hE.below (HK6.out.below hz1).low) hz.name hz.value hz.path).mono ?_;rintro e z2 ⟨rfl,hz2⟩;have hz12:=below_nx hz1 hz2;have u11:=FX.out 11 _ rfl z2 hz12))
     go_ret;exact⟨by rw[HR.out];rfl,below_nx hlw hz1⟩
    have j4:((q+1:Nat):Int)≤50:=by omega
    by_cases p5:mayC c=true
    case neg=>
     have j5:mayC c=false:=by simpa using p5
     have HR:Hid (keepB J S n=false):=by
      show _=_;rw[HK.out,HSTOP.out (by rw[hCC.out];simp[p1,p2,p3,p4,p5])];rfl
     go_wp2_with(first
      |(go_at_call 24;refine(jkey_any c _).mono ?_;rintro e z1 ⟨rfl,hz1⟩;have h3:=HL3.out z1 hz1;have h4:=HL4.out z1 hz1;have y0:=FX.out 0 _ rfl z1 hz1;have y1:=FX.out 1 _ rfl z1 hz1;have y2:=FX.out 2 _ rfl z1 hz1;have y3:=FX.out 3 _ rfl z1 hz1;have y4:=FX.out 4 _ rfl z1 hz1;have y5:=FX.out 5 _ rfl z1 hz1;have y6:=FX.out 6 _ rfl z1 hz1;have y7:=FX.out 7 _ rfl z1 hz1;have y8:=FX.out 8 _ rfl z1 hz1;have y9:=FX.out 9 _ rfl z1 hz1;have y10:=FX.out 10 _ rfl z1 hz1;have y11:=FX.out 11 _ rfl z1 hz1)
      |(go_at_call 25;refine(jmay_any c _ (hE.below (HK6.out.below hz1).low) hz.name hz.value hz.path).mono ?_;rintro e z2 ⟨rfl,hz2⟩;have hz12:=below_nx hz1 hz2;have u11:=FX.out 11 _ rfl z2 hz12))
     go_ret;exact⟨by rw[HR.out];rfl,below_nx hlw hz12⟩
    have HO:Hid (jarAt n J k=true):=by
     show _=_;rw[HAT.out,hCC.out];simp[p1,p2,p3,p4,p5]
    have hlast:lastO (J.take (k+1))=c.order:=by rw[HTK.out];unfold lastO;simp
    have HLAST:=Lib.hid hlast;clear hlast;go_wp2_with(first
     |(go_at_call 24;refine(jkey_any c _).mono ?_;rintro e z1 ⟨rfl,hz1⟩;have h3:=HL3.out z1 hz1;have h4:=HL4.out z1 hz1;have y0:=FX.out 0 _ rfl z1 hz1;have y1:=FX.out 1 _ rfl z1 hz1;have y2:=FX.out 2 _ rfl z1 hz1;have y3:=FX.out 3 _ rfl z1 hz1;have y4:=FX.out 4 _ rfl z1 hz1;have y5:=FX.out 5 _ rfl z1 hz1;have y6:=FX.out 6 _ rfl z1 hz1;have y7:=FX.out 7 _ rfl z1 hz1;have y8:=FX.out 8 _ rfl z1 hz1;have y9:=FX.out 9 _ rfl z1 hz1;have y10:=FX.out 10 _ rfl z1 hz1;have y11:=FX.out 11 _ rfl z1 hz1)
     |(go_at_call 25;refine(jmay_any c _ (hE.below (HK6.out.below hz1).low) hz.name hz.value hz.path).mono ?_;rintro e z2 ⟨rfl,hz2⟩;have hz12:=below_nx hz1 hz2;have u11:=FX.out 11 _ rfl z2 hz12))
    go_roundw
    case rel=>
     refine⟨k+1,by omega,by rw[HLAST.out],by go_num,Lib.hid (fun i hi=> ?_), ?_, ?_,HK6.out.below hz12⟩
     ·rcases Nat.lt_or_ge i k with h|h
      ·exact HA.out i h
      ·obtain rfl:i=k:=by omega
       exact HO.out
     ·rw[HTK.out];exact Lib.hid (HC6.out.below hz12)
     ·rw[HTK.out];exact Lib.hid (HD6.out.below hz12)
    case measure=>simp[intOf];omega
  ·obtain rfl:k=J.length:=by omega
   have HJB:Hid (jarB n J=true):=range_all_end HA.out;obtain⟨g0,g1,g2⟩:=hKr.cells;have his:(Tryz.prog.info? 44).map (·.size)=some 3:=by kernel_rfl
   have HKr:=Lib.hid hKr;generalize lastO (J.take J.length)=lz at*;go_wp2_with fail;clear g0 g1 g2 HC1 HC2;go_loopw [87] (fun is wyy=>∃i:Nat,i≤S.length∧is= .int .i64 i∧Hid (∀j,j<i→sealAt S j=true)∧Hid (ChkW w (.slice a1 J.length a3) (.slice b1 S.length b3) n M (M+1) wyy)) (fun i _=>S.length-(intOf i).toNat)
   case atStart=>exact⟨0,Nat.zero_le _,rfl,Lib.hid (fun j hj=>by omega),HKr⟩
   case round=>
    obtain⟨i,hi,rfl,HB,HKy⟩:=hrel;obtain⟨wy,rfl,HKy⟩:=nameW HKy;by_cases hil:i<S.length
    ·obtain⟨bb,rfl⟩:∃bb,b1=some bb:=by
      rcases HS.out with ⟨h1,h2⟩|⟨x,c,h1,_⟩
      ·rw[h2]at hil;simp at hil
      ·injection h1 with h1;exact⟨x,h1⟩
     have hck:=HS.out.each i hil _ HKy.out.low;have hz:=ZS.out S[i] (List.getElem_mem hil);have hii:(i:Int)<(S.length:Int):=by omega
     obtain⟨s,hs⟩:∃s,S[i]=s:=⟨_,rfl⟩;have hgs:S[i]?=some s:=by rw[List.getElem?_eq_getElem hil,hs]
     rw[hs]at hck hz;have HGS:=Lib.hid hgs;clear hs hgs;go_upto_region 17 with (refine wpList_load_at (o:=⟨some 91, .load 44 (.tmp 90),_,_,_,_⟩) rfl 44 (.tmp 90) rfl (bb.add (i*3)) rfl [.string ⟨s.host.toArray⟩, .bool s.subs, .int .i64 s.till] _ hck Tryz.underlying44 rfl his ?_);obtain⟨w4,hw4⟩:∃W,wy.alloc (.cells #[.string ⟨s.host.toArray⟩, .bool s.subs, .int .i64 s.till] 44)=W:=⟨_,rfl⟩;rw[hw4];have hb4:Below wy.heap.size wy w4:=by rw[←hw4];exact below_alloc wy _
     have hXb:w4.heap[wy.heap.size]?=some (.cells #[.string ⟨s.host.toArray⟩, .bool s.subs, .int .i64 s.till] 44 (0,0)):=by rw[←hw4];exact heap_alloc_new wy _
     have hK4:=HKy.out.below hb4;have FX:=Lib.hid (fun (j:Nat) (v:Value) (hv:([.string ⟨s.host.toArray⟩, .bool s.subs, .int .i64 s.till]:List Value)[j]?=some v) (z:World) (hzz:Below w4.heap.size w4 z)=>blk_cell (l:=[.string ⟨s.host.toArray⟩, .bool s.subs, .int .i64 s.till]) hXb hv hzz);have HCX:Hid (∀z,Below w4.heap.size w4 z→∀j v,([.string ⟨s.host.toArray⟩, .bool s.subs, .int .i64 s.till]:List Value)[j]?=some v→z.cell? ((⟨wy.heap.size,0,none⟩:Addr).add j)=some v):=fun z hzz j v hv=>by
      rw[Addr.add_lit,Nat.zero_add];exact blk_cell (l:=[.string ⟨s.host.toArray⟩, .bool s.subs, .int .i64 s.till]) hXb hv hzz
     have FB:Hid (∀W,Below w4.heap.size w4 W→W.cell? ⟨w.heap.size,1,none⟩=some (.slice (some bb) S.length b3)):=fun W hW=>(hK4.below hW).cells.2.1
     have HPR:Hid (∀p,p<S.length→∀W,Below w4.heap.size w4 W→W.cell? (bb.add (p*3))=some (.string ⟨(S[p]?.getD ⟨[],false,0⟩).host.toArray⟩)):=fun p hp W hW=>by
      have:=HS.out.each p hp W (hK4.below hW).low 0 _ rfl;rw[addr_zero]at this;rw[List.getElem?_eq_getElem hp];exact this
     generalize wy.heap.size=X at*;have hS0:=(Below.refl w4.heap.size w4).drew;have HK4:=Lib.hid hK4;clear hw4 hb4 hXb hck HKy hK4;go_cut [110]from 92 to 110 (fun a110 wx=>a110= .bool (!sealAt S i)∧Below w4.heap.size w4 wx)
     case first=>
      have cs:=seal_any s w4.drew (hE.below ((HK4.out.below hS0).low)) (by omega);unfold sealVal at cs
      cases hso:sealOk s with
      |false=>
       rw[hso]at cs;have HSA:Hid (sealAt S i=false):=sealAt_bad HGS.out hso;have CS:=cs;clear hso cs;refine wp_region_held_drew (S:=fun W=>Below w4.heap.size w4 W) (by kernel_rfl) hS0 (fun _=> ?_);refine wpAnyH_take (i:=0) (oi:=⟨some 92, .load 44 (.tmp 9),_,_,_,_⟩) (v:= .agg #[.string ⟨s.host.toArray⟩, .bool s.subs, .int .i64 s.till]) rfl (by kernel_rfl) (by kernel_rfl) (by kernel_rfl) (fun _ _ _ h=>h) (yieldsIf_load_at (by rfl) 44 (.tmp 9) rfl ⟨X,0,none⟩ rfl [.string ⟨s.host.toArray⟩, .bool s.subs, .int .i64 s.till] _ HCX.out Tryz.underlying44 rfl his) hS0 ?_
       try simp only[Act.put,List.setIfInBounds_toArray,List.set_cons_zero,List.set_cons_succ]
       refine wpAnyH_ready (rs:=[1]) (by kernel_rfl) (by simp) ?_;refine AllReadyH.cons (o:=⟨some 93, .call {callee:= .value (.func 26),args:= #[.tmp 92],argTypes:= #[44]},_,_,_,_⟩) rfl (fun K hK=> ?_) AllReadyH.nil;go_simp;go_at_call 26;refine CS.mono ?_;rintro e z1 ⟨rfl,hz1⟩;go_wp2_with fail;have hS1:Below w4.heap.size w4 z1:=hS0.trans hz1;refine hK.out _ _ hS1 (fun _=> ?_);clear hK K hz1
       try simp only[Act.put,List.setIfInBounds_toArray,List.set_cons_zero,List.set_cons_succ]
       refine wpAnyH_take (i:=2) (oi:=⟨some 94, .unOp .not 4 (.tmp 93),_,_,_,_⟩) (v:=(.bool true)) rfl (by kernel_rfl) (by kernel_rfl) (by kernel_rfl) (fun _ _ _ h=>h) (.inl ⟨by rfl,fun W hW=>by go_simp⟩) hS1 ?_
       try simp only[Act.put,List.setIfInBounds_toArray,List.set_cons_zero,List.set_cons_succ]
       refine wpAnyH_take (i:=3) (oi:=⟨some 95, .move (.tmp 94),_,_,_,_⟩) (v:=(.bool true)) rfl (by kernel_rfl) (by kernel_rfl) (by kernel_rfl) (fun _ _ _ h=>h) (.inl ⟨by rfl,fun W hW=>by go_simp⟩) hS1 ?_
       try simp only[Act.put,List.setIfInBounds_toArray,List.set_cons_zero,List.set_cons_succ]
       refine wpAnyH_take (i:=4) (oi:=⟨some 96, .move (.tmp 8),_,_,_,_⟩) (v:=undef) rfl (by kernel_rfl) (by kernel_rfl) (by kernel_rfl) (fun _ _ _ h=>h) (.inr ⟨by rfl,rfl⟩) hS1 ?_
       try simp only[Act.put,List.setIfInBounds_toArray,List.set_cons_zero,List.set_cons_succ]
       refine wpAnyH_take (i:=5) (oi:=⟨some 97, .binOp .gtr 3 (.tmp 96) (.const (.int .i64 0)) 3,_,_,_,_⟩) (v:=undef) rfl (by kernel_rfl) (by kernel_rfl) (by kernel_rfl) (fun _ _ _ h=>h) (.inr ⟨by rfl,rfl⟩) hS1 ?_
       try simp only[Act.put,List.setIfInBounds_toArray,List.set_cons_zero,List.set_cons_succ]
       refine wpAnyH_take (i:=6) (oi:=⟨some 98, .move (.tmp 97),_,_,_,_⟩) (v:=undef) rfl (by kernel_rfl) (by kernel_rfl) (by kernel_rfl) (fun _ _ _ h=>h) (.inr ⟨by rfl,rfl⟩) hS1 ?_
       try simp only[Act.put,List.setIfInBounds_toArray,List.set_cons_zero,List.set_cons_succ]
       refine wpAnyH_take (i:=7) (oi:=⟨some 99, .fieldAddr 25 (.tmp 1) 1,_,_,_,_⟩) (v:=undef) rfl (by kernel_rfl) (by kernel_rfl) (by kernel_rfl) (fun _ _ _ h=>h) (.inr ⟨by rfl,rfl⟩) hS1 ?_
       try simp only[Act.put,List.setIfInBounds_toArray,List.set_cons_zero,List.set_cons_succ]
       refine wpAnyH_take (i:=8) (oi:=⟨some 100, .load 23 (.tmp 99),_,_,_,_⟩) (v:=undef) rfl (by kernel_rfl) (by kernel_rfl) (by kernel_rfl) (fun _ _ _ h=>h) (.inr ⟨by rfl,rfl⟩) hS1 ?_
       try simp only[Act.put,List.setIfInBounds_toArray,List.set_cons_zero,List.set_cons_succ]
       refine wpAnyH_take (i:=9) (oi:=⟨some 101, .move (.tmp 8),_,_,_,_⟩) (v:=undef) rfl (by kernel_rfl) (by kernel_rfl) (by kernel_rfl) (fun _ _ _ h=>h) (.inr ⟨by rfl,rfl⟩) hS1 ?_
       try simp only[Act.put,List.setIfInBounds_toArray,List.set_cons_zero,List.set_cons_succ]
       refine wpAnyH_take (i:=10) (oi:=⟨some 102, .binOp .sub 3 (.tmp 101) (.const (.int .i64 1)) 3,_,_,_,_⟩) (v:=undef) rfl (by kernel_rfl) (by kernel_rfl) (by kernel_rfl) (fun _ _ _ h=>h) (.inr ⟨by rfl,rfl⟩) hS1 ?_
       try simp only[Act.put,List.setIfInBounds_toArray,List.set_cons_zero,List.set_cons_succ]
       refine wpAnyH_take (i:=11) (oi:=⟨some 103, .indexAddr 23 (.tmp 100) (.tmp 102),_,_,_,_⟩) (v:=undef) rfl (by kernel_rfl) (by kernel_rfl) (by kernel_rfl) (fun _ _ _ h=>h) (.inr ⟨by rfl,rfl⟩) hS1 ?_
       try simp only[Act.put,List.setIfInBounds_toArray,List.set_cons_zero,List.set_cons_succ]
       refine wpAnyH_take (i:=12) (oi:=⟨some 104, .fieldAddr 44 (.tmp 103) 0,_,_,_,_⟩) (v:=undef) rfl (by kernel_rfl) (by kernel_rfl) (by kernel_rfl) (fun _ _ _ h=>h) (.inr ⟨by rfl,rfl⟩) hS1 ?_
       try simp only[Act.put,List.setIfInBounds_toArray,List.set_cons_zero,List.set_cons_succ]
       refine wpAnyH_take (i:=13) (oi:=⟨some 105, .load 9 (.tmp 104),_,_,_,_⟩) (v:=undef) rfl (by kernel_rfl) (by kernel_rfl) (by kernel_rfl) (fun _ _ _ h=>h) (.inr ⟨by rfl,rfl⟩) hS1 ?_
       try simp only[Act.put,List.setIfInBounds_toArray,List.set_cons_zero,List.set_cons_succ]
       refine wpAnyH_take (i:=14) (oi:=⟨some 106, .fieldAddr 44 (.tmp 9) 0,_,_,_,_⟩) (v:=undef) rfl (by kernel_rfl) (by kernel_rfl) (by kernel_rfl) (fun _ _ _ h=>h) (.inr ⟨by rfl,rfl⟩) hS1 ?_
       try simp only[Act.put,List.setIfInBounds_toArray,List.set_cons_zero,List.set_cons_succ]
       refine wpAnyH_take (i:=15) (oi:=⟨some 107, .load 9 (.tmp 106),_,_,_,_⟩) (v:=undef) rfl (by kernel_rfl) (by kernel_rfl) (by kernel_rfl) (fun _ _ _ h=>h) (.inr ⟨by rfl,rfl⟩) hS1 ?_
       try simp only[Act.put,List.setIfInBounds_toArray,List.set_cons_zero,List.set_cons_succ]
       refine wpAnyH_take (i:=16) (oi:=⟨some 108, .binOp .geq 9 (.tmp 105) (.tmp 107) 9,_,_,_,_⟩) (v:=undef) rfl (by kernel_rfl) (by kernel_rfl) (by kernel_rfl) (fun _ _ _ h=>h) (.inr ⟨by rfl,rfl⟩) hS1 ?_
       try simp only[Act.put,List.setIfInBounds_toArray,List.set_cons_zero,List.set_cons_succ]
       refine wpAnyH_take (i:=17) (oi:=⟨some 109, .pick (.tmp 98) (.tmp 108) (.const (.bool false)),_,_,_,_⟩) (v:=undef) rfl (by kernel_rfl) (by kernel_rfl) (by kernel_rfl) (fun _ _ _ h=>h) (.inr ⟨by rfl,rfl⟩) hS1 ?_
       try simp only[Act.put,List.setIfInBounds_toArray,List.set_cons_zero,List.set_cons_succ]
       refine wpAnyH_take (i:=18) (oi:=⟨some 110, .pick (.tmp 95) (.const (.bool true)) (.tmp 109),_,_,_,_⟩) (v:=(.bool true)) rfl (by kernel_rfl) (by kernel_rfl) (by kernel_rfl) (fun _ _ _ h=>h) (.inl ⟨by rfl,fun W hW=>by go_simp⟩) hS1 ?_
       try simp only[Act.put,List.setIfInBounds_toArray,List.set_cons_zero,List.set_cons_succ]
       refine wpAnyH_done (by kernel_rfl) ?_ _;go_wp2_with fail;go_meet;exact⟨by first|(rw[HSA.out];done)|(rw[HSA.out];rfl),hS1⟩
      |true=>
       rw[hso]at cs;have CS:=cs
       cases i with
       |zero=>
        have HSA:Hid (sealAt S 0=true):=sealAt_zero HGS.out hso;clear hso cs;refine wp_region_held_drew (S:=fun W=>Below w4.heap.size w4 W) (by kernel_rfl) hS0 (fun _=> ?_);refine wpAnyH_take (i:=0) (oi:=⟨some 92, .load 44 (.tmp 9),_,_,_,_⟩) (v:= .agg #[.string ⟨s.host.toArray⟩, .bool s.subs, .int .i64 s.till]) rfl (by kernel_rfl) (by kernel_rfl) (by kernel_rfl) (fun _ _ _ h=>h) (yieldsIf_load_at (by rfl) 44 (.tmp 9) rfl ⟨X,0,none⟩ rfl [.string ⟨s.host.toArray⟩, .bool s.subs, .int .i64 s.till] _ HCX.out Tryz.underlying44 rfl his) hS0 ?_
        try simp only[Act.put,List.setIfInBounds_toArray,List.set_cons_zero,List.set_cons_succ]
        refine wpAnyH_ready (rs:=[1]) (by kernel_rfl) (by simp) ?_;refine AllReadyH.cons (o:=⟨some 93, .call {callee:= .value (.func 26),args:= #[.tmp 92],argTypes:= #[44]},_,_,_,_⟩) rfl (fun K hK=> ?_) AllReadyH.nil;go_simp;go_at_call 26;refine CS.mono ?_;rintro e z1 ⟨rfl,hz1⟩;go_wp2_with fail;have hS1:Below w4.heap.size w4 z1:=hS0.trans hz1;refine hK.out _ _ hS1 (fun _=> ?_);clear hK K hz1
        try simp only[Act.put,List.setIfInBounds_toArray,List.set_cons_zero,List.set_cons_succ]
        refine wpAnyH_take (i:=2) (oi:=⟨some 94, .unOp .not 4 (.tmp 93),_,_,_,_⟩) (v:=(.bool false)) rfl (by kernel_rfl) (by kernel_rfl) (by kernel_rfl) (fun _ _ _ h=>h) (.inl ⟨by rfl,fun W hW=>by go_simp⟩) hS1 ?_
        try simp only[Act.put,List.setIfInBounds_toArray,List.set_cons_zero,List.set_cons_succ]
        refine wpAnyH_take (i:=3) (oi:=⟨some 95, .move (.tmp 94),_,_,_,_⟩) (v:=(.bool false)) rfl (by kernel_rfl) (by kernel_rfl) (by kernel_rfl) (fun _ _ _ h=>h) (.inl ⟨by rfl,fun W hW=>by go_simp⟩) hS1 ?_
        try simp only[Act.put,List.setIfInBounds_toArray,List.set_cons_zero,List.set_cons_succ]
        refine wpAnyH_take (i:=4) (oi:=⟨some 96, .move (.tmp 8),_,_,_,_⟩) (v:=(.int .i64 ((0:Nat):Int))) rfl (by kernel_rfl) (by kernel_rfl) (by kernel_rfl) (fun _ _ _ h=>h) (.inl ⟨by rfl,fun W hW=>by go_simp⟩) hS1 ?_
        try simp only[Act.put,List.setIfInBounds_toArray,List.set_cons_zero,List.set_cons_succ]
        refine wpAnyH_take (i:=5) (oi:=⟨some 97, .binOp .gtr 3 (.tmp 96) (.const (.int .i64 0)) 3,_,_,_,_⟩) (v:=(.bool false)) rfl (by kernel_rfl) (by kernel_rfl) (by kernel_rfl) (fun _ _ _ h=>h) (.inl ⟨by rfl,fun W hW=>by go_simp⟩) hS1 ?_
        try simp only[Act.put,List.setIfInBounds_toArray,List.set_cons_zero,List.set_cons_succ]
        refine wpAnyH_take (i:=6) (oi:=⟨some 98, .move (.tmp 97),_,_,_,_⟩) (v:=(.bool false)) rfl (by kernel_rfl) (by kernel_rfl) (by kernel_rfl) (fun _ _ _ h=>h) (.inl ⟨by rfl,fun W hW=>by go_simp⟩) hS1 ?_
        try simp only[Act.put,List.setIfInBounds_toArray,List.set_cons_zero,List.set_cons_succ]
        refine wpAnyH_take (i:=7) (oi:=⟨some 99, .fieldAddr 25 (.tmp 1) 1,_,_,_,_⟩) (v:=undef) rfl (by kernel_rfl) (by kernel_rfl) (by kernel_rfl) (fun _ _ _ h=>h) (.inr ⟨by rfl,rfl⟩) hS1 ?_
        try simp only[Act.put,List.setIfInBounds_toArray,List.set_cons_zero,List.set_cons_succ]
        refine wpAnyH_take (i:=8) (oi:=⟨some 100, .load 23 (.tmp 99),_,_,_,_⟩) (v:=undef) rfl (by kernel_rfl) (by kernel_rfl) (by kernel_rfl) (fun _ _ _ h=>h) (.inr ⟨by rfl,rfl⟩) hS1 ?_
        try simp only[Act.put,List.setIfInBounds_toArray,List.set_cons_zero,List.set_cons_succ]
        refine wpAnyH_take (i:=9) (oi:=⟨some 101, .move (.tmp 8),_,_,_,_⟩) (v:=undef) rfl (by kernel_rfl) (by kernel_rfl) (by kernel_rfl) (fun _ _ _ h=>h) (.inr ⟨by rfl,rfl⟩) hS1 ?_
        try simp only[Act.put,List.setIfInBounds_toArray,List.set_cons_zero,List.set_cons_succ]
        refine wpAnyH_take (i:=10) (oi:=⟨some 102, .binOp .sub 3 (.tmp 101) (.const (.int .i64 1)) 3,_,_,_,_⟩) (v:=undef) rfl (by kernel_rfl) (by kernel_rfl) (by kernel_rfl) (fun _ _ _ h=>h) (.inr ⟨by rfl,rfl⟩) hS1 ?_
        try simp only[Act.put,List.setIfInBounds_toArray,List.set_cons_zero,List.set_cons_succ]
        refine wpAnyH_take (i:=11) (oi:=⟨some 103, .indexAddr 23 (.tmp 100) (.tmp 102),_,_,_,_⟩) (v:=undef) rfl (by kernel_rfl) (by kernel_rfl) (by kernel_rfl) (fun _ _ _ h=>h) (.inr ⟨by rfl,rfl⟩) hS1 ?_
        try simp only[Act.put,List.setIfInBounds_toArray,List.set_cons_zero,List.set_cons_succ]
        refine wpAnyH_take (i:=12) (oi:=⟨some 104, .fieldAddr 44 (.tmp 103) 0,_,_,_,_⟩) (v:=undef) rfl (by kernel_rfl) (by kernel_rfl) (by kernel_rfl) (fun _ _ _ h=>h) (.inr ⟨by rfl,rfl⟩) hS1 ?_
        try simp only[Act.put,List.setIfInBounds_toArray,List.set_cons_zero,List.set_cons_succ]
        refine wpAnyH_take (i:=13) (oi:=⟨some 105, .load 9 (.tmp 104),_,_,_,_⟩) (v:=undef) rfl (by kernel_rfl) (by kernel_rfl) (by kernel_rfl) (fun _ _ _ h=>h) (.inr ⟨by rfl,rfl⟩) hS1 ?_
        try simp only[Act.put,List.setIfInBounds_toArray,List.set_cons_zero,List.set_cons_succ]
        refine wpAnyH_take (i:=14) (oi:=⟨some 106, .fieldAddr 44 (.tmp 9) 0,_,_,_,_⟩) (v:=undef) rfl (by kernel_rfl) (by kernel_rfl) (by kernel_rfl) (fun _ _ _ h=>h) (.inr ⟨by rfl,rfl⟩) hS1 ?_
        try simp only[Act.put,List.setIfInBounds_toArray,List.set_cons_zero,List.set_cons_succ]
        refine wpAnyH_take (i:=15) (oi:=⟨some 107, .load 9 (.tmp 106),_,_,_,_⟩) (v:=undef) rfl (by kernel_rfl) (by kernel_rfl) (by kernel_rfl) (fun _ _ _ h=>h) (.inr ⟨by rfl,rfl⟩) hS1 ?_
        try simp only[Act.put,List.setIfInBounds_toArray,List.set_cons_zero,List.set_cons_succ]
        refine wpAnyH_take (i:=16) (oi:=⟨some 108, .binOp .geq 9 (.tmp 105) (.tmp 107) 9,_,_,_,_⟩) (v:=undef) rfl (by kernel_rfl) (by kernel_rfl) (by kernel_rfl) (fun _ _ _ h=>h) (.inr ⟨by rfl,rfl⟩) hS1 ?_
        try simp only[Act.put,List.setIfInBounds_toArray,List.set_cons_zero,List.set_cons_succ]
        refine wpAnyH_take (i:=17) (oi:=⟨some 109, .pick (.tmp 98) (.tmp 108) (.const (.bool false)),_,_,_,_⟩) (v:=(.bool false)) rfl (by kernel_rfl) (by kernel_rfl) (by kernel_rfl) (fun _ _ _ h=>h) (.inl ⟨by rfl,fun W hW=>by go_simp⟩) hS1 ?_
        try simp only[Act.put,List.setIfInBounds_toArray,List.set_cons_zero,List.set_cons_succ]
        refine wpAnyH_take (i:=18) (oi:=⟨some 110, .pick (.tmp 95) (.const (.bool true)) (.tmp 109),_,_,_,_⟩) (v:=(.bool false)) rfl (by kernel_rfl) (by kernel_rfl) (by kernel_rfl) (fun _ _ _ h=>h) (.inl ⟨by rfl,fun W hW=>by go_simp⟩) hS1 ?_
        try simp only[Act.put,List.setIfInBounds_toArray,List.set_cons_zero,List.set_cons_succ]
        refine wpAnyH_done (by kernel_rfl) ?_ _;go_wp2_with fail;go_meet;exact⟨by first|(rw[HSA.out];done)|(rw[HSA.out];rfl),hS1⟩
       |succ p=>
        have hpl:p<S.length:=by omega
        obtain⟨sp,hsp⟩:∃sp,S[p]?=some sp:=⟨_,List.getElem?_eq_getElem hpl⟩;have FP:Hid (∀W,Below w4.heap.size w4 W→W.cell? (bb.add (p*3))=some (.string ⟨sp.host.toArray⟩)):=fun W hW=>by
         have:=HPR.out p hpl W hW;rw[hsp]at this;exact this
        have HSA0:Hid (sealAt S (p+1)=decide (sp.host<s.host)):=sealAt_succ HGS.out hsp hso;have hpi:(p:Int)<(S.length:Int):=by omega
        have hwp:IntKind.i64.wrap (p:Int)=(p:Int):=by rw[IntKind.wrap_i64];omega
        clear hso cs hsp;obtain⟨gq,hgq⟩:∃gq,(!decide (sp.host<s.host))=gq:=⟨_,rfl⟩;have hbl:Op.bytesLess sp.host s.host= !gq:=by rw[bytesLess_eq,←hgq];simp
        have HSA:Hid ((!sealAt S (p+1))=gq):=by show _=_;rw[HSA0.out,hgq]
        refine wp_region_held_drew (S:=fun W=>Below w4.heap.size w4 W) (by kernel_rfl) hS0 (fun _=> ?_);refine wpAnyH_take (i:=0) (oi:=⟨some 92, .load 44 (.tmp 9),_,_,_,_⟩) (v:= .agg #[.string ⟨s.host.toArray⟩, .bool s.subs, .int .i64 s.till]) rfl (by kernel_rfl) (by kernel_rfl) (by kernel_rfl) (fun _ _ _ h=>h) (yieldsIf_load_at (by rfl) 44 (.tmp 9) rfl ⟨X,0,none⟩ rfl [.string ⟨s.host.toArray⟩, .bool s.subs, .int .i64 s.till] _ HCX.out Tryz.underlying44 rfl his) hS0 ?_
        try simp only[Act.put,List.setIfInBounds_toArray,List.set_cons_zero,List.set_cons_succ]
        refine wpAnyH_ready (rs:=[1]) (by kernel_rfl) (by simp) ?_;refine AllReadyH.cons (o:=⟨some 93, .call {callee:= .value (.func 26),args:= #[.tmp 92],argTypes:= #[44]},_,_,_,_⟩) rfl (fun K hK=> ?_) AllReadyH.nil;go_simp;go_at_call 26;refine CS.mono ?_;rintro e z1 ⟨rfl,hz1⟩;go_wp2_with fail;have hS1:Below w4.heap.size w4 z1:=hS0.trans hz1;refine hK.out _ _ hS1 (fun _=> ?_);clear hK K hz1
        try simp only[Act.put,List.setIfInBounds_toArray,List.set_cons_zero,List.set_cons_succ]
        refine wpAnyH_take (i:=2) (oi:=⟨some 94, .unOp .not 4 (.tmp 93),_,_,_,_⟩) (v:=(.bool false)) rfl (by kernel_rfl) (by kernel_rfl) (by kernel_rfl) (fun _ _ _ h=>h) (.inl ⟨by rfl,fun W hW=>by go_simp⟩) hS1 ?_
        try simp only[Act.put,List.setIfInBounds_toArray,List.set_cons_zero,List.set_cons_succ]
        refine wpAnyH_take (i:=3) (oi:=⟨some 95, .move (.tmp 94),_,_,_,_⟩) (v:=(.bool false)) rfl (by kernel_rfl) (by kernel_rfl) (by kernel_rfl) (fun _ _ _ h=>h) (.inl ⟨by rfl,fun W hW=>by go_simp⟩) hS1 ?_
        try simp only[Act.put,List.setIfInBounds_toArray,List.set_cons_zero,List.set_cons_succ]
        refine wpAnyH_take (i:=4) (oi:=⟨some 96, .move (.tmp 8),_,_,_,_⟩) (v:=(.int .i64 ((p+1:Nat):Int))) rfl (by kernel_rfl) (by kernel_rfl) (by kernel_rfl) (fun _ _ _ h=>h) (.inl ⟨by rfl,fun W hW=>by go_simp⟩) hS1 ?_
        try simp only[Act.put,List.setIfInBounds_toArray,List.set_cons_zero,List.set_cons_succ]
        refine wpAnyH_take (i:=5) (oi:=⟨some 97, .binOp .gtr 3 (.tmp 96) (.const (.int .i64 0)) 3,_,_,_,_⟩) (v:=(.bool true)) rfl (by kernel_rfl) (by kernel_rfl) (by kernel_rfl) (fun _ _ _ h=>h) (.inl ⟨by rfl,fun W hW=>by go_simp⟩) hS1 ?_
        try simp only[Act.put,List.setIfInBounds_toArray,List.set_cons_zero,List.set_cons_succ]
        refine wpAnyH_take (i:=6) (oi:=⟨some 98, .move (.tmp 97),_,_,_,_⟩) (v:=(.bool true)) rfl (by kernel_rfl) (by kernel_rfl) (by kernel_rfl) (fun _ _ _ h=>h) (.inl ⟨by rfl,fun W hW=>by go_simp⟩) hS1 ?_
        try simp only[Act.put,List.setIfInBounds_toArray,List.set_cons_zero,List.set_cons_succ]
        refine wpAnyH_take (i:=7) (oi:=⟨some 99, .fieldAddr 25 (.tmp 1) 1,_,_,_,_⟩) (v:=(.pointer (some ⟨w.heap.size,1,none⟩))) rfl (by kernel_rfl) (by kernel_rfl) (by kernel_rfl) (fun _ _ _ h=>h) (.inl ⟨by rfl,fun W hW=>by go_simp⟩) hS1 ?_
        try simp only[Act.put,List.setIfInBounds_toArray,List.set_cons_zero,List.set_cons_succ]
        refine wpAnyH_take (i:=8) (oi:=⟨some 100, .load 23 (.tmp 99),_,_,_,_⟩) (v:=(.slice (some bb) S.length b3)) rfl (by kernel_rfl) (by kernel_rfl) (by kernel_rfl) (fun _ _ _ h=>h) (.inl ⟨by rfl,fun W hW=>by have e1:=FB.out W hW;go_simp⟩) hS1 ?_
        try simp only[Act.put,List.setIfInBounds_toArray,List.set_cons_zero,List.set_cons_succ]
        refine wpAnyH_take (i:=9) (oi:=⟨some 101, .move (.tmp 8),_,_,_,_⟩) (v:=(.int .i64 ((p+1:Nat):Int))) rfl (by kernel_rfl) (by kernel_rfl) (by kernel_rfl) (fun _ _ _ h=>h) (.inl ⟨by rfl,fun W hW=>by go_simp⟩) hS1 ?_
        try simp only[Act.put,List.setIfInBounds_toArray,List.set_cons_zero,List.set_cons_succ]
        refine wpAnyH_take (i:=10) (oi:=⟨some 102, .binOp .sub 3 (.tmp 101) (.const (.int .i64 1)) 3,_,_,_,_⟩) (v:=(.int .i64 (p:Int))) rfl (by kernel_rfl) (by kernel_rfl) (by kernel_rfl) (fun _ _ _ h=>h) (.inl ⟨by rfl,fun W hW=>by go_simp⟩) hS1 ?_
        try simp only[Act.put,List.setIfInBounds_toArray,List.set_cons_zero,List.set_cons_succ]
        refine wpAnyH_take (i:=11) (oi:=⟨some 103, .indexAddr 23 (.tmp 100) (.tmp 102),_,_,_,_⟩) (v:=(.pointer (some (bb.add (p*3))))) rfl (by kernel_rfl) (by kernel_rfl) (by kernel_rfl) (fun _ _ _ h=>h) (.inl ⟨by rfl,fun W hW=>by go_simp⟩) hS1 ?_
        try simp only[Act.put,List.setIfInBounds_toArray,List.set_cons_zero,List.set_cons_succ]
        refine wpAnyH_take (i:=12) (oi:=⟨some 104, .fieldAddr 44 (.tmp 103) 0,_,_,_,_⟩) (v:=(.pointer (some (bb.add (p*3))))) rfl (by kernel_rfl) (by kernel_rfl) (by kernel_rfl) (fun _ _ _ h=>h) (.inl ⟨by rfl,fun W hW=>by go_simp⟩) hS1 ?_
        try simp only[Act.put,List.setIfInBounds_toArray,List.set_cons_zero,List.set_cons_succ]
        refine wpAnyH_take (i:=13) (oi:=⟨some 105, .load 9 (.tmp 104),_,_,_,_⟩) (v:=(.string ⟨sp.host.toArray⟩)) rfl (by kernel_rfl) (by kernel_rfl) (by kernel_rfl) (fun _ _ _ h=>h) (.inl ⟨by rfl,fun W hW=>by have e2:=FP.out W hW;go_simp⟩) hS1 ?_
        try simp only[Act.put,List.setIfInBounds_toArray,List.set_cons_zero,List.set_cons_succ]
        refine wpAnyH_take (i:=14) (oi:=⟨some 106, .fieldAddr 44 (.tmp 9) 0,_,_,_,_⟩) (v:=(.pointer (some ⟨X,0,none⟩))) rfl (by kernel_rfl) (by kernel_rfl) (by kernel_rfl) (fun _ _ _ h=>h) (.inl ⟨by rfl,fun W hW=>by go_simp⟩) hS1 ?_
        try simp only[Act.put,List.setIfInBounds_toArray,List.set_cons_zero,List.set_cons_succ]
        refine wpAnyH_take (i:=15) (oi:=⟨some 107, .load 9 (.tmp 106),_,_,_,_⟩) (v:=(.string ⟨s.host.toArray⟩)) rfl (by kernel_rfl) (by kernel_rfl) (by kernel_rfl) (fun _ _ _ h=>h) (.inl ⟨by rfl,fun W hW=>by have e3:=FX.out 0 _ rfl W hW;go_simp⟩) hS1 ?_
        try simp only[Act.put,List.setIfInBounds_toArray,List.set_cons_zero,List.set_cons_succ]
        refine wpAnyH_take (i:=16) (oi:=⟨some 108, .binOp .geq 9 (.tmp 105) (.tmp 107) 9,_,_,_,_⟩) (v:=(.bool gq)) rfl (by kernel_rfl) (by kernel_rfl) (by kernel_rfl) (fun _ _ _ h=>h) (.inl ⟨by rfl,fun W hW=>by go_simp⟩) hS1 ?_
        try simp only[Act.put,List.setIfInBounds_toArray,List.set_cons_zero,List.set_cons_succ]
        refine wpAnyH_take (i:=17) (oi:=⟨some 109, .pick (.tmp 98) (.tmp 108) (.const (.bool false)),_,_,_,_⟩) (v:=(.bool gq)) rfl (by kernel_rfl) (by kernel_rfl) (by kernel_rfl) (fun _ _ _ h=>h) (.inl ⟨by rfl,fun W hW=>by go_simp⟩) hS1 ?_
        try simp only[Act.put,List.setIfInBounds_toArray,List.set_cons_zero,List.set_cons_succ]
        refine wpAnyH_take (i:=18) (oi:=⟨some 110, .pick (.tmp 95) (.const (.bool true)) (.tmp 109),_,_,_,_⟩) (v:=(.bool gq)) rfl (by kernel_rfl) (by kernel_rfl) (by kernel_rfl) (fun _ _ _ h=>h) (.inl ⟨by rfl,fun W hW=>by go_simp⟩) hS1 ?_
        try simp only[Act.put,List.setIfInBounds_toArray,List.set_cons_zero,List.set_cons_succ]
        refine wpAnyH_done (by kernel_rfl) ?_ _;go_wp2_with fail;go_meet;exact⟨by first|(rw[HSA.out];done)|(rw[HSA.out];rfl),hS1⟩
     case rest=>
      obtain⟨rfl,hbx⟩:=hcut;have hlo:=HK4.out.below hbx
      cases hsa:sealAt S i with
      |false=>
       have HR:Hid (keepB J S n=false):=by
        show _=_;rw[HK.out,show sealsB S=false from range_all_stop hil hsa,Bool.and_false]
       have hlow:=hlo.low;clear hsa hlo;go_wp2_with fail;go_ret;exact⟨by rw[HR.out];rfl,hlow⟩
      |true=>
       have HSI:=Lib.hid hsa;have HLO:=Lib.hid hlo;clear hsa hlo;go_wp2_with fail;go_roundw
       case rel=>
        refine⟨i+1,by omega,by go_num,Lib.hid (fun j hj=> ?_),HLO⟩;rcases Nat.lt_or_ge j i with h|h
        ·exact HB.out j h
        ·obtain rfl:j=i:=by omega
         exact HSI.out
       case measure=>simp[intOf];omega
    ·obtain rfl:i=S.length:=by omega
     have HR:Hid (keepB J S n=true):=by
      show _=_;rw[HK.out,HJB.out,show sealsB S=true from range_all_end HB.out];rfl
     go_wp2_with fail;go_ret;exact⟨by rw[HR.out];rfl,HKy.out.low⟩
end Go.Proofs.YtjkipdoebkhkaaaGreatDoor
