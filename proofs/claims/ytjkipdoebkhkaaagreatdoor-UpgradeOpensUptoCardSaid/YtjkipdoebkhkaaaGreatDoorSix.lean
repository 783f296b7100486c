/- The walk of addrs.Six. -/
import Derived.Test.YtjkipdoebkhkaaaGreatDoorGSide
import Derived.Test.YtjkipdoebkhkaaaGreatDoorGHF
import Derived.Laws.CopyOwn
set_option linter.unusedVariables false
set_option linter.unusedSimpArgs false
set_option maxHeartbeats 16000000
namespace Go.Proofs.YtjkipdoebkhkaaaGreatDoor
open Go.RowKit
def sixV (r:Option (List UInt8)):Value:=match r with|some b=> .tuple #[.agg (adC true b), .int .i64 0]|none=> .tuple #[.agg zeroA, .int .i64 5]
def sixR (one two:List UInt8) (short:Bool):Option (List UInt8):=
 match sideN (!short) one with
 |none=>none
 |some l=>match sideN true two with
  |none=>none
  |some r=>if (short=false∧l.length+r.length≠16)∨(short=true∧14<l.length+r.length)then none else some (l++List.replicate (16-l.length-r.length) 0++r)
theorem six_cut (s:List UInt8):sixL s=sixR (Lib.cut s [58,58]).1 (Lib.cut s [58,58]).2.1 (Lib.cut s [58,58]).2.2:=by
 have hge:=Lib.index_ge s [58,58];unfold sixL Lib.cut;by_cases h:Lib.index s [58,58]= -1
 ·rw[if_pos h,if_neg (by omega)]
  unfold sixR;simp only[Bool.not_false]
  cases hh:sideN true s with
  |none=>rfl
  |some l=>
   have e:sideN true ([]:List UInt8)=some []:=rfl;simp only[e];by_cases h16:l.length=16
   ·simp[h16]
   ·simp[h16]
 ·rw[if_neg h,if_pos (by omega)]
  unfold sixR;simp only[Bool.not_true]
  cases hh:sideN false (s.take (Lib.index s [58,58]).toNat)with
  |none=>rfl
  |some l=>
   simp only;show(match sideN true (s.drop ((Lib.index s [58,58]).toNat+2))with|none=>none|some r=>_)=match sideN true (s.drop ((Lib.index s [58,58]).toNat+2))with|none=>none|some r=>_
   cases hr:sideN true (s.drop ((Lib.index s [58,58]).toNat+2))with
   |none=>rfl
   |some r=>
    simp only;by_cases h14:14<l.length+r.length
    ·rw[if_pos h14,if_pos (.inr ⟨trivial,h14⟩)]
    ·rw[if_neg h14,if_neg]
     rintro(⟨h,_⟩|⟨_,h⟩)
     ·simp at h
     ·exact h14 h
theorem results_row2 {P:Program} {fn:Func} {p q:Tmp} {ty:TypeId} (h:fn.results= #[.cell p ty, .tmp q]) (tmps:Array Value) (w:World) (g:Nat) (t:TypeId) (cs:Array Value) (fr:Nat×Nat) (d:TypeDesc)
 (hp:tmps.getD p undef= .pointer (some ⟨g,0,none⟩)) (hg:w.heap[g]?=some (.cells cs t fr))
 (hu:P.underlying ty=some d) (hd:(match d with| .struct _| .array _ _=>true|_=>false)=true) (hi:(P.info? ty).map (·.size)=some cs.size):
 (results fn tmps).run P w= .ok (.tuple #[.agg cs,tmps.getD q undef]) w:=by
 have hp':tmps[p]?.getD undef= .pointer (some ⟨g,0,none⟩):=by simpa using hp
 simp[results,h,hp',asAddr,run_loadVar_row w g t ty cs fr d hg hu hd hi]
theorem cut58_any (s:List UInt8) (w:World) (hE:Env w) (hs:s.length≤4000000000):
 Calls Tryz.prog 151 #[.string ⟨s.toArray⟩, .string ⟨#[58,58]⟩] w fun e w'=>e= .returned (.tuple #[.string ⟨(Lib.cut s [58,58]).1.toArray⟩, .string ⟨(Lib.cut s [58,58]).2.1.toArray⟩, .bool (Lib.cut s [58,58]).2.2])∧∃n,w'=w.drewN n:=
 (Tryz.strings_Cut_shaped ⟨s.toArray⟩ ⟨#[58,58]⟩ w hE.shaped (by show s.length<_;omega)).mono fun e w' h=>⟨by simpa using h.1,h.2⟩
theorem cut58_len (s:List UInt8):(Lib.cut s [58,58]).1.length≤s.length∧(Lib.cut s [58,58]).2.1.length≤s.length:=by
 unfold Lib.cut;split
 ·simp;omega
 ·simp
abbrev zs16:List UInt8:=[0,0,0,0,0,0,0,0,0,0,0,0,0,0,0,0]
structure OnlyBlk (g:Nat) (w w':World):Prop where
 os:w'.os=w.os
 tape:w'.tape=w.tape
 output:w'.output=w.output
 size:w'.heap.size=w.heap.size
 block:∀k,k≠g→w'.heap[k]?=w.heap[k]?
theorem OnlyBlk.below {B g:Nat} {w0 w w':World} (h:OnlyBlk g w w') (hb:Below B w0 w) (hg:B≤g):Below B w0 w':=
 hb.trans ⟨h.os,h.tape,h.output,by rw[h.size];exact Nat.le_refl _,fun k hk=>h.block k (by omega)⟩
theorem OnlyBlk.blk {g k:Nat} {w w':World} {t:TypeId} {cs:Array Value} (h:OnlyBlk g w w') (hb:Blk w k t cs) (hk:k≠g):Blk w' k t cs:=(h.block k hk).trans hb
def CopySrc (w:World) (sp:Option Addr) (cs:List Value):Prop:=0<cs.length→∃ad,sp=some ad∧∀j v,cs[j]?=some v→w.cell? (ad.add j)=some v
theorem CopySrc.of_own {w:World} {base n c:Nat} {a:Option Addr} {e:TypeId} {xs:List Value} (h:w.ownsRow base e 1 (.slice a n c) n xs):CopySrc w a xs:=fun h0=>by
 rcases own_open h with ⟨h1,h2,h3⟩|⟨g,cap,h1,_,_,_,_,hc⟩
 ·rw[h3]at h0;simp at h0
 ·injection h1 with h1 _ _
  exact⟨_,h1,fun j v hj=>by rw[Addr.add_lit,Nat.zero_add];exact hc j v hj⟩
theorem step_copy_row {P:Program} {ops:Array Oper} {o:Oper} {a:Act} {w:World} {K:Act→World→Prop} {Q:Exit→Act→World→Prop} {E:Prop} (hgd:o.guard=none) (d s:Operand) (dT sT:TypeId)
 (ho:o.op= .call {callee:= .builtin .copy,args:= #[d,s],argTypes:= #[dT,sT]}) (elem:TypeId) (hu:P.underlying dT=some (.slice elem)) (hsz:(P.info? elem).map (·.size)=some 1)
 (dp sp:Option Addr) (dLen dCap sLen sCap:Nat) (hd:a.eval d= .slice dp dLen dCap) (hs:a.eval s= .slice sp sLen sCap)
 (g off:Nat) (cur:List Value) (t:TypeId) (hg:w.heap[g]?=some (.cells cur.toArray t (0,0))) (cs:List Value) (hn:cs.length=Nat.min sLen dLen)
 (hdp:0<cs.length→dp=some ⟨g,off,none⟩) (hpos:CopySrc w sp cs)
 (hfit:off+cs.length≤cur.length) (h1:∀v∈cs,v.oneCell'=true)
 (h:∀w',Hid (w'.heap[g]?=some (.cells (splice cur off cs).toArray t (0,0)))→OnlyBlk g w w'→K (a.put o.dst (goInt cs.length)) w'):
 if Region.wanted o (yielded ops a.tmps)=true then Oper.wp P o a w K Q else E:=by
 have hw:Region.wanted o (yielded ops a.tmps)=true:=by simp[Region.wanted,hgd]
 rw[if_pos hw]
 by_cases h0:cs.length=0
 ·obtain rfl:cs=[]:=List.eq_nil_of_length_eq_zero h0
  have hrun:=run_copy_none (P:=P) w dT sT o.type elem dp sp dLen dCap sLen sCap hu hsz (by simpa using hn.symm);unfold Oper.wp;simp[execOp,ho,resolve,invoke,builtin,hd,hs,hrun,Result.andThen];exact h w (show _=_ by simpa[splice]using hg) ⟨rfl,rfl,rfl,rfl,fun _ _=>rfl⟩
 ·obtain rfl:=hdp (by omega)
  obtain⟨ad,rfl,hsrc⟩:=hpos (by omega);have hrun:=run_copy_row (P:=P) w dT sT o.type elem g off dLen dCap ad sLen sCap cur.toArray t cs hu hsz hg hn hsrc (by simpa using hfit) h1;unfold Oper.wp;simp[execOp,ho,resolve,invoke,builtin,hd,hs,hrun,Result.andThen];exact h _ (show _=_ by simpa[splice]using setRow_heap w g _ _ t _ hg) ⟨rfl,rfl,rfl,by simp[World.setRow],fun k hk=>setRow_other w g k _ hk⟩
theorem splice_six {L R:List UInt8} (h:L.length+R.length≤16):(splice (splice (Value.bool true::byts zs16) 1 (byts L)) (1+(16-R.length)) (byts R)).toArray=adC true (L++List.replicate (16-L.length-R.length) 0++R):=by
 have hl:(byts L).length=L.length:=by simp
 have hr:(byts R).length=R.length:=by simp
 have hz:byts zs16=List.replicate 16 (Value.int .u8 0):=rfl;unfold adC splice;congr 1;rw[hz,hl,hr];have e1:(Value.bool true::List.replicate 16 (Value.int IntKind.u8 0)).take 1=[Value.bool true]:=rfl;have e2:(Value.bool true::List.replicate 16 (Value.int IntKind.u8 0)).drop (1+L.length)=List.replicate (16-L.length) (Value.int IntKind.u8 0):=by
  rw[Nat.add_comm,List.drop_succ_cons,List.drop_replicate]
 rw[e1,e2];have e3:([Value.bool true]++(byts L++List.replicate (16-L.length) (Value.int IntKind.u8 0))).take (1+(16-R.length))=Value.bool true::(byts L++List.replicate (16-L.length-R.length) (Value.int IntKind.u8 0)):=by
  rw[Nat.add_comm,List.singleton_append,List.take_succ_cons,List.take_append,hl,List.take_of_length_le (by omega),List.take_replicate];congr 3;omega
 have e4:([Value.bool true]++(byts L++List.replicate (16-L.length) (Value.int IntKind.u8 0))).drop (1+(16-R.length)+R.length)=[]:=by
  apply List.drop_of_length_le;simp;omega
 rw[e3,e4];simp[byts,List.map_append,List.map_replicate]
theorem arr16:Tryz.prog.underlying 130=some (.array (Tryz.prog.arrayLen 130) (Tryz.prog.elem 130)):=by kernel_rfl
theorem len16:Tryz.prog.arrayLen 130=16:=by kernel_rfl
theorem elem16:Tryz.prog.elem 130=5:=by kernel_rfl
theorem slice16 (g n:Nat) (hn:n≤16):∃D:Addr,(∀W,(Instr.sliceAt 130 (.pointer (some ⟨g,1,none⟩)) (some (.int .i64 (16-(n:Int)))) none none).run Tryz.prog W= .ok (.slice (some D) n n) W)∧(0<n→D=⟨g,1+(16-n),none⟩):=by
 refine⟨if 16=16-n then ⟨g,1,none⟩else ⟨g,1+(16-n),none⟩,fun W=> ?_,fun h=>if_neg (by omega)⟩;rw[run_sliceAt_array_l W _ _ arr16 .i64 _ (by omega) (by rw[len16];omega),elem16,len16,Tryz.sizeOf5];simp only[Result.andThen,slicedAt];rw[show(16-(n:Int)).toNat=16-n by omega,Addr.add_lit,show 16-(16-n)=n by omega,Nat.mul_one]
structure SixW (w W1 W:World) (short:Bool):Prop where
 low1:Below w.heap.size w W1
 size1:W1.heap.size=w.heap.size+1+1
 low:Below W1.heap.size W1 W
 size:W.heap.size=w.heap.size+1+1+1+1
 res:Blk W w.heap.size 132 zeroA
 adr:Blk W (w.heap.size+1) 132 (adC true zs16)
 left:Blk W (w.heap.size+1+1) 270 #[.slice none 0 0, .bool (!short)]
 right:Blk W (w.heap.size+1+1+1) 270 #[.slice none 0 0, .bool true]
theorem sixW_mk (w:World) (n:Nat) (short:Bool):SixW w (((w.alloc (.cells zeroA 132)).alloc (.cells (adC true zs16) 132)).drewN n)
 (((((w.alloc (.cells zeroA 132)).alloc (.cells (adC true zs16) 132)).drewN n).alloc (.cells #[.slice none 0 0, .bool (!short)] 270)).alloc (.cells #[.slice none 0 0, .bool true] 270)) short:=by
 have s1:=World.size_alloc w (.cells zeroA 132)
 generalize hA:w.alloc (.cells zeroA 132)=A at*
 have s2:=World.size_alloc A (.cells (adC true zs16) 132)
 have b1:Blk A w.heap.size 132 zeroA:=hA▸Blk.new w _ _
 have b2:=Blk.new A 132 (adC true zs16)
 have l1:Below w.heap.size w A:=hA▸(Below.refl _ w).alloc (Nat.le_refl _) _
 have l2:Below A.heap.size A (A.alloc (.cells (adC true zs16) 132)):=(Below.refl _ A).alloc (Nat.le_refl _) _
 have l2':=below_drewN l2 n
 have b1':=b1.below l2' b1.lt
 have b2':=b2.drewN n
 have s2':((A.alloc (.cells (adC true zs16) 132)).drewN n).heap.size=A.heap.size+1:=s2
 generalize (A.alloc (.cells (adC true zs16) 132)).drewN n=B at*
 have s3:=World.size_alloc B (.cells #[.slice none 0 0, .bool (!short)] 270)
 generalize hC:B.alloc (.cells #[.slice none 0 0, .bool (!short)] 270)=C at*
 have s4:=World.size_alloc C (.cells #[.slice none 0 0, .bool true] 270)
 have b3:Blk C B.heap.size 270 #[.slice none 0 0, .bool (!short)]:=hC▸Blk.new B _ _
 have b4:=Blk.new C 270 #[.slice none 0 0, .bool true]
 have l3:Below B.heap.size B C:=hC▸(Below.refl _ B).alloc (Nat.le_refl _) _
 have l4:Below C.heap.size C (C.alloc (.cells #[.slice none 0 0, .bool true] 270)):=(Below.refl _ C).alloc (Nat.le_refl _) _
 have l34:=l3.trans (l4.mono l3.size)
 have e1:A.heap.size=w.heap.size+1:=s1
 have e2:B.heap.size=w.heap.size+1+1:=by rw[s2',e1]
 have e3:C.heap.size=w.heap.size+1+1+1:=by rw[s3,e2]
 rw[e1]at b2'
 rw[e2]at b3
 rw[e3]at b4
 exact⟨l1.trans (l2'.mono l1.size),e2,l34,by rw[s4,e3],b1'.below l34 b1'.lt,b2'.below l34 b2'.lt,b3.below l4 b3.lt,b4⟩
set_option maxRecDepth 100000 in
theorem six_any (s:List UInt8) (w:World) (hE:EnvH w) (hs:s.length≤200000000):
 Calls Tryz.prog 174 #[.string ⟨s.toArray⟩] w fun e w'=>e= .returned (sixV (sixL s))∧Below w.heap.size w w':=by
 have hcl:=cut58_len s
 have h2:=((Below.refl w.heap.size w).alloc (Nat.le_refl _) (.cells zeroA 132)).alloc (by rw[World.size_alloc];omega) (.cells (adC true zs16) 132)
 have cc:=cut58_any s _ (hE.t.env.below h2) (by omega)
 have hsc:=six_cut s
 generalize Lib.cut s [58,58]=r at*
 obtain⟨one,two,short⟩:=r
 simp only at hcl cc hsc
 have HSC:=Lib.hid hsc
 clear hsc h2
 go_enter Tryz.func174,Tryz.ntmps174
 go_wp2_with fail
 go_at_call 151
 refine cc.mono ?_
 rintro e w1 ⟨rfl,n,rfl⟩
 have HW:=sixW_mk w n short
 go_wp2_with fail
 revert HW
 generalize ((((w.alloc (.cells zeroA 132)).alloc (.cells (adC true zs16) 132)).drewN n).alloc (.cells #[.slice none 0 0, .bool (!short)] 270)).alloc (.cells #[.slice none 0 0, .bool true] 270)=W
 generalize ((w.alloc (.cells zeroA 132)).alloc (.cells (adC true zs16) 132)).drewN n=W1
 intro HW
 obtain⟨hl1,hz1,hl2,hz2,hres,hadr,hleft,hright⟩:=HW
 have hE1:=hE.below hl1
 have hSL:Side W1 (w.heap.size+1+1+1+1) (w.heap.size+1+1) (!short) [] W:=⟨hl2,by omega,by omega,none,0,hleft,World.ownsRow_nil _ _ _ _⟩
 go_at_call 227
 refine(take_any W1 (w.heap.size+1+1+1+1) (w.heap.size+1+1) (!short) one W hE1.t.env hE1.pow hSL (by omega)).mono ?_
 intro e w4 hpost
 obtain⟨ok,L,rfl,hS4,hbut4,_,hwant⟩:=hpost
 have hres4:Blk w4 w.heap.size 132 zeroA:=(hbut4.block _ (by omega) (by omega)).trans hres
 have hadr4:Blk w4 (w.heap.size+1) 132 (adC true zs16):=(hbut4.block _ (by omega) (by omega)).trans hadr
 have hright4:Blk w4 (w.heap.size+1+1+1) 270 #[.slice none 0 0, .bool true]:=(hbut4.block _ (by omega) (by omega)).trans hright
 have hbw4:Below w.heap.size w w4:=hl1.trans (hS4.low.mono (by omega))
 clear hres hadr hleft hright hSL hl2 hbut4
 cases hsl:sideN (!short) one with
 |none=>
  rw[hsl]at hwant;simp only at hwant;subst hwant;have hR:Hid (sixL s=none):=by show _=_;rw[HSC.out,sixR,hsl]
  clear hsl HSC;go_wp2_with(refine wpList_store_same (o:=⟨none, .store 132 (.tmp 2) (.tmp 34),_,_,_,_⟩) rfl 132 (.tmp 2) _ rfl w.heap.size zeroA rfl rfl 132 hres4 (by kernel_rfl) (by decide+kernel) ?_);refine bodyPost_ret (results_row2 (fn:=Tryz.f174) (p:=2) (q:=3) (ty:=132) rfl _ _ w.heap.size 132 zeroA (0,0) _ rfl hres4 Tryz.underlying132 rfl (by kernel_rfl)) rfl ⟨by rw[hR.out];rfl,hbw4⟩
 |some l=>
  rw[hsl]at hwant;simp only[List.nil_append]at hwant;obtain⟨rfl,rfl⟩:=hwant;have hSR:Side W1 w4.heap.size (w.heap.size+1+1+1) true [] w4:=⟨hS4.low,by have:=hS4.hw;omega,Nat.le_refl _,none,0,hright4,World.ownsRow_nil _ _ _ _⟩;go_wp2_with fail;go_at_call 227;refine(take_any W1 w4.heap.size (w.heap.size+1+1+1) true two w4 hE1.t.env hE1.pow hSR (by omega)).mono ?_;intro e w5 hpost;obtain⟨ok,R,rfl,hS5,hbut5,hkp5,hwant⟩:=hpost;have hw4:=hS4.hw;have hres5:Blk w5 w.heap.size 132 zeroA:=(hbut5.block _ (by omega) (by omega)).trans hres4;have hadr5:Blk w5 (w.heap.size+1) 132 (adC true zs16):=(hbut5.block _ (by omega) (by omega)).trans hadr4;have hbw5:Below w.heap.size w w5:=hl1.trans (hS5.low.mono (by omega))
  cases hsr:sideN true two with
  |none=>
   rw[hsr]at hwant;simp only at hwant;subst hwant;have hR:Hid (sixL s=none):=by show _=_;rw[HSC.out,sixR,hsl];simp only[hsr]
   clear hsl hsr HSC hres4 hadr4 hright4 hSR;go_wp2_with(refine wpList_store_same (o:=⟨none, .store 132 (.tmp 2) (.tmp 34),_,_,_,_⟩) rfl 132 (.tmp 2) _ rfl w.heap.size zeroA rfl rfl 132 hres5 (by kernel_rfl) (by decide+kernel) ?_);refine bodyPost_ret (results_row2 (fn:=Tryz.f174) (p:=2) (q:=3) (ty:=132) rfl _ _ w.heap.size 132 zeroA (0,0) _ rfl hres5 Tryz.underlying132 rfl (by kernel_rfl)) rfl ⟨by rw[hR.out];rfl,hbw5⟩
  |some r=>
   rw[hsr]at hwant;simp only[List.nil_append]at hwant;obtain⟨rfl,rfl⟩:=hwant;obtain⟨aL,cL,hBL,hoL⟩:=hS4.mem;obtain⟨aR,cR,hBR,hoR⟩:=hS5.mem;have hBL5:Blk w5 (w.heap.size+1+1) 270 #[.slice aL L.length cL, .bool (!short)]:=(hbut5.block _ (by omega) (by omega)).trans hBL;have hoL5:w5.ownsRow (w.heap.size+1+1+1+1) 5 1 (.slice aL L.length cL) L.length (byts L):=by
    rcases hoL.2 with ⟨h0,h1⟩|⟨g,cap,cur,hv,hb,hg,r⟩
    ·exact⟨hoL.1, .inl ⟨h0,h1⟩⟩
    ·have hlt:g<w4.heap.size:=(Array.getElem?_eq_some_iff.1 hg).1
     exact⟨hoL.1, .inr ⟨g,cap,cur,hv,hb,(hbut5.block g hlt (by omega)).trans hg,r⟩⟩
   have hll:=sideN_len hsl;have hlr:=sideN_len hsr;have hR:sixL s=if (short=false∧L.length+R.length≠16)∨(short=true∧14<L.length+R.length)then none else some (L++List.replicate (16-L.length-R.length) 0++R):=by rw[HSC.out,sixR,hsl];simp only[hsr]
   have cL0:w5.cell? ⟨w.heap.size+1+1,0,none⟩=some (.slice aL L.length cL):=hBL5.cell 0;have cR0:w5.cell? ⟨w.heap.size+1+1+1,0,none⟩=some (.slice aR R.length cR):=hBR.cell 0;clear hsl hsr HSC hres4 hadr4 hright4 hSR hBL hoL hbut5 hkp5 hS4 hbw4;go_wp2_with fail;go_quiet (fail);have hbw6:Below w.heap.size w (w5.drewN nq):=below_drewN hbw5 nq;have hres6:Blk (w5.drewN nq) w.heap.size 132 zeroA:=hres5;have hadr6:Blk (w5.drewN nq) (w.heap.size+1) 132 (adC true zs16):=hadr5;have hBL6:Blk (w5.drewN nq) (w.heap.size+1+1) 270 #[.slice aL L.length cL, .bool (!short)]:=hBL5;have hBR6:Blk (w5.drewN nq) (w.heap.size+1+1+1) 270 #[.slice aR R.length cR, .bool true]:=hBR;have hoL6:(w5.drewN nq).ownsRow (w.heap.size+1+1+1+1) 5 1 (.slice aL L.length cL) L.length (byts L):=hoL5;have hoR6:(w5.drewN nq).ownsRow w4.heap.size 5 1 (.slice aR R.length cR) R.length (byts R):=hoR;clear hbw5 hres5 hadr5 hBL5 hBR hoL5 hoR hS5 cL0 cR0;generalize w5.drewN nq=w6 at*;by_cases hbad:(short=false∧L.length+R.length≠16)∨(short=true∧14<L.length+R.length)
   ·rw[if_pos hbad]at hR
    have HR:=Lib.hid hR;clear hR;rcases hbad with ⟨rfl,hb⟩|⟨rfl,hb⟩
    ·have hbi:(((L.length:Int)+(R.length:Int))==16)=false:=beq_eq_false_iff_ne.2 (by omega)
     have hbn:¬((L.length:Int)+(R.length:Int))=16:=by omega
     go_wp2_with(refine wpList_store_same (o:=⟨none, .store 132 (.tmp 2) (.tmp 59),_,_,_,_⟩) rfl 132 (.tmp 2) _ rfl w.heap.size zeroA rfl rfl 132 hres6 (by kernel_rfl) (by decide+kernel) ?_);refine bodyPost_ret (results_row2 (fn:=Tryz.f174) (p:=2) (q:=3) (ty:=132) rfl _ _ w.heap.size 132 zeroA (0,0) _ rfl hres6 Tryz.underlying132 rfl (by kernel_rfl)) rfl ⟨by rw[HR.out];rfl,hbw6⟩
    ·have hbn:14<((L.length:Int)+(R.length:Int)):=by omega
     go_wp2_with(refine wpList_store_same (o:=⟨none, .store 132 (.tmp 2) (.tmp 59),_,_,_,_⟩) rfl 132 (.tmp 2) _ rfl w.heap.size zeroA rfl rfl 132 hres6 (by kernel_rfl) (by decide+kernel) ?_);refine bodyPost_ret (results_row2 (fn:=Tryz.f174) (p:=2) (q:=3) (ty:=132) rfl _ _ w.heap.size 132 zeroA (0,0) _ rfl hres6 Tryz.underlying132 rfl (by kernel_rfl)) rfl ⟨by rw[HR.out];rfl,hbw6⟩
   ·rw[if_neg hbad]at hR
    have HR:=Lib.hid hR;clear hR;have hsum:L.length+R.length≤16:=by
     rcases Nat.lt_or_ge 16 (L.length+R.length)with h|h
     ·cases short
      ·exact absurd (.inl ⟨rfl,by omega⟩) hbad
      ·exact absurd (.inr ⟨rfl,by omega⟩) hbad
     ·exact h
    have hway:(short=false∧L.length+R.length=16)∨(short=true∧L.length+R.length≤14):=by
     cases short
     ·exact .inl ⟨rfl,Classical.byContradiction fun h=>hbad (.inl ⟨rfl,h⟩)⟩
     ·exact .inr ⟨rfl,by
       rcases Nat.lt_or_ge 14 (L.length+R.length)with h|h
       ·exact absurd (.inr ⟨rfl,h⟩) hbad
       ·exact h⟩
    clear hbad;have cL0:w6.cell? ⟨w.heap.size+1+1,0,none⟩=some (.slice aL L.length cL):=hBL6.cell 0;have hcur:w6.heap[w.heap.size+1]?=some (.cells (Value.bool true::byts zs16).toArray 132 (0,0)):=hadr6;have hpos1:CopySrc w6 aL (byts L):=CopySrc.of_own hoL6;have hmn:(byts L).length=Nat.min L.length 16:=by rw[show Nat.min L.length 16=min L.length 16 from rfl];simp[byts];omega
    have hfit:1+(byts L).length≤(Value.bool true::byts zs16).length:=by simp[byts];omega
    have HMN:=Lib.hid hmn;have HFT:=Lib.hid hfit;have HLEN:=Lib.hid hsum;have hR0:Blk w6 (w.heap.size+1+1+1) 270 #[.slice aR R.length cR, .bool true]:=hBR6;clear hmn hfit hBL6 hBR6;obtain⟨D,hsl,hD⟩:=slice16 (w.heap.size+1) R.length (by omega);have wrR:IntKind.i64.wrap (16-(R.length:Int))=16-(R.length:Int):=IntWalk.i64_in _ (by omega);have HWR:=Lib.hid wrR;have HDD:=Lib.hid hD;clear wrR hD;have hway2:(short=false∧((((L.length:Int)+(R.length:Int)) !=16)=false))∨(short=true∧¬14<((L.length:Int)+(R.length:Int))):=by
     rcases hway with ⟨h1,h2⟩|⟨h1,h2⟩
     ·exact .inl ⟨h1,by simp;omega⟩
     ·exact .inr ⟨h1,by omega⟩
    clear hway;rcases hway2 with ⟨rfl,hw16⟩|⟨rfl,hw14⟩
    all_goals
     go_wp2_with fail;go_region_law (refine step_copy_row (by rfl) (.tmp 61) (.tmp 65) 51 51 (by rfl) 5 Tryz.underlying51 (by kernel_rfl) (some ⟨w.heap.size+1,1,none⟩) aL 16 16 L.length cL (by rfl) (by rfl) (w.heap.size+1) 1 (Value.bool true::byts zs16) 132 (by first|exact hcur|(rw[heap_drew];exact hcur)) (byts L) HMN.out (fun _=>rfl) hpos1 HFT.out (fun v hv=>byts_one hv) ?_;intro w7 hH7 hO7);have hb7:Below w.heap.size w w7:=hO7.below hbw6.drew (by omega);have hres7:=hO7.blk hres6.drew (by omega);have hR7:=hO7.blk hR0.drew (by omega);have hoR7:w7.ownsRow w4.heap.size 5 1 (.slice aR R.length cR) R.length (byts R):=hoR6.drew.kept (row:=some (w.heap.size+1)) ⟨hO7.os,hO7.tape,hO7.output,by rw[hO7.size];exact Nat.le_refl _,fun k _ hk=>hO7.block k (fun e=>hk (by rw[e]))⟩ (.inr fun e=>by have:=(hoR6.lt _ e).1;omega);have hcur7:=hH7.out;have hpos7:CopySrc w7 aR (byts R):=CopySrc.of_own hoR7;have cR7:w7.cell? ⟨w.heap.size+1+1+1,0,none⟩=some (.slice aR R.length cR):=hR7.cell 0;have hml:=length_splice (Value.bool true::byts zs16) 1 (byts L) HFT.out;have hmr:(byts R).length=Nat.min R.length R.length:=by rw[show Nat.min R.length R.length=min R.length R.length from rfl];simp
     have hft2:1+(16-R.length)+(byts R).length≤(splice (Value.bool true::byts zs16) 1 (byts L)).length:=by rw[hml];simp[byts];omega
     have HFT2:=Lib.hid hft2;have HMR:=Lib.hid hmr;have HSP:=Lib.hid (splice_six HLEN.out);have wrR:=HWR.out;clear hml hmr hft2 hO7 hbw6 hres6 hadr6 hoL6 hoR6 hcur cL0 hR0;generalize splice (Value.bool true::byts zs16) 1 (byts L)=C7 at*;go_wp2_with fail;go_region_law (refine step_copy_row (by rfl) (.tmp 74) (.tmp 78) 51 51 (by rfl) 5 Tryz.underlying51 (by kernel_rfl) (some D) aR R.length R.length R.length cR (by rfl) (by rfl) (w.heap.size+1) (1+(16-R.length)) C7 132 (by first|exact hcur7|(rw[heap_drew];exact hcur7)) (byts R) HMR.out (fun h=>by rw[HDD.out (by simpa using h)]) hpos7 HFT2.out (fun v hv=>byts_one hv) ?_;intro w8 hH8 hO8)
     all_goals
      have hb8:Below w.heap.size w w8:=hO8.below hb7.drew (by omega);have hres8:=hO8.blk hres7.drew (by omega);have hadr8:Blk w8 (w.heap.size+1) 132 (adC true (L++List.replicate (16-L.length-R.length) 0++R)):=by
       have:=hH8.out;rw[HSP.out]at this;exact this
      have hlen8:(L++List.replicate (16-L.length-R.length) 0++R).length=16:=by have:=HLEN.out;simp;omega
      have hi:=adC_info true hlen8;have hz:=zeroA_size true hlen8;have h1:=adC_one true (L++List.replicate (16-L.length-R.length) 0++R);clear hres7 hR7 hoR7 hcur7 hpos7 cR7 wrR hO8;generalize L++List.replicate (16-L.length-R.length) 0++R=B at*;have hfin:=setRow_heap w8 w.heap.size zeroA (adC true B) 132 (0,0) hres8;have hbf:=below_row hb8 (Nat.le_refl _) (adC true B);go_upto_region 11 with fail;go_step;refine wpList_load_row (o:=⟨some 80, .load 132 (.tmp 4),_,_,_,_⟩) rfl 132 (.tmp 4) rfl (w.heap.size+1) rfl 132 (adC true B) (0,0) _ hadr8 Tryz.underlying132 rfl hi ?_;refine wpList_store_row (o:=⟨none, .store 132 (.tmp 2) (.tmp 80),_,_,_,_⟩) rfl 132 (.tmp 2) _ rfl w.heap.size (adC true B) rfl rfl 132 zeroA hres8 hi hz h1 ?_;go_wp2_with fail;refine bodyPost_ret (results_row2 (fn:=Tryz.f174) (p:=2) (q:=3) (ty:=132) rfl _ _ w.heap.size 132 (adC true B) (0,0) _ rfl hfin Tryz.underlying132 rfl hi) rfl ⟨by rw[HR.out];rfl,hbf⟩
end Go.Proofs.YtjkipdoebkhkaaaGreatDoor
