/- Which hosts are sealed: plain; the reference's Is walked. -/
import Derived.Test.YtjkipdoebkhkaaaGreatDoorGKe1
import Derived.Test.YtjkipdoebkhkaaaGreatDoorGBel
import Derived.RangeFuncNested
import Derived.RangeFuncBound
import Derived.Laws.CopyOwn
import Derived.Laws.EntriesVeiled
set_option linter.unusedVariables false
set_option linter.unusedSimpArgs false
set_option maxHeartbeats 16000000
namespace Go.Proofs.YtjkipdoebkhkaaaGreatDoor
open Go.RowKit
def sealB (h:List UInt8) (now:Int) (s:SealL):Bool:=decide (now<s.till)&&(s.host==h||(s.subs&&belowL h s.host))
def isL (S:List SealL) (h:List UInt8) (now:Int):Bool:=S.any (sealB h now)
open Go.RowKit Go.Shelf
attribute [local go_sem] Oper.semAt_some
theorem living_any (a1 b1:Option Addr) (a2 a3 b2 b3:Nat) (n now:Int) (w:World):
 Calls Tryz.prog 51 #[.agg #[.slice a1 a2 a3, .slice b1 b2 b3, .int .i64 n], .int .i64 now] w fun e w'=>e= .returned (.func (.func 81) #[] #[.pointer (some ⟨w.heap.size,0,none⟩), .pointer (some ⟨w.heap.size+1,0,none⟩)])∧
  w'=(w.alloc (.cells #[.slice a1 a2 a3, .slice b1 b2 b3, .int .i64 n] 25)).alloc (.cells #[.int .i64 now] 3):=by
 go_enter Tryz.func51,Tryz.ntmps51
 go_wp2
 go_ret
 exact⟨rfl,rfl⟩
def KeepY (lo:Nat) (A B:World):Prop:=Below lo A B∧∀k o,A.heap[k]?=some o→o.isCells=true→lo+3≤k→B.heap[k]?=some o
theorem KeepY.refl (lo:Nat) (A:World):KeepY lo A A:=⟨Below.refl _ _,fun _ _ h _ _=>h⟩
theorem KeepY.trans {lo:Nat} {A B C:World} (h:KeepY lo A B) (k:KeepY lo B C):KeepY lo A C:=⟨h.1.trans k.1,fun i o h1 h2 h3=>k.2 i o (h.2 i o h1 h2 h3) h2 h3⟩
theorem KeepY.of {lo:Nat} {A B:World} (h:Below A.heap.size A B) (hlo:lo≤A.heap.size):KeepY lo A B:=⟨h.mono hlo,fun k o h1 _ _=>(h.block k (Array.getElem?_eq_some_iff.1 h1).1).trans h1⟩
theorem cell_heapY {A:World} {p:Addr} {v:Value} (h:A.cell? p=some v):∃o,A.heap[p.block]?=some o∧o.isCells=true:=by
 unfold World.cell? at h;split at h
 ·rename_i h1;exact⟨_,h1,rfl⟩
 ·cases h
theorem KeepY.cell {lo:Nat} {A B:World} (h:KeepY lo A B) {p:Addr} {v:Value} (hc:A.cell? p=some v) (hp:p.block<lo∨lo+3≤p.block):B.cell? p=some v:=by
 rcases hp with hp|hp
 ·exact(h.1.cell hp).trans hc
 ·obtain⟨o,h1,h2⟩:=cell_heapY hc
  have h3:=h.2 _ o h1 h2 hp;have:B.heap[p.block]?=A.heap[p.block]?:=h3.trans h1.symm;exact(World.cell?_of_block (w:=A) this).trans hc
def RowY (lo:Nat) (w:World) (v:Value) (S:List SealL):Prop:=RowS 3 cellsS w v S∧∀a n c,v= .slice (some a) n c→0<S.length→a.block<lo
theorem RowY.keep {lo:Nat} {A B:World} {v:Value} {S:List SealL} (h:RowY lo A v S) (hk:KeepY lo A B):RowY lo B v S:=by
 obtain⟨h1,h2⟩:=h;refine⟨?_,h2⟩;rcases h1 with h1|⟨a,c,e,hc,hb,hcell⟩
 ·exact .inl h1
 ·exact .inr ⟨a,c,e,hc,fun h0=>Nat.lt_of_lt_of_le (hb h0) hk.1.size,fun k hk' j u hj=>hk.cell (hcell k hk' j u hj) (by rw[Go.ChangeShapes.block_add];exact .inl (h2 a _ _ e (by omega)))⟩
abbrev sealV (x:SealL):Array Value:= #[.agg #[.string ⟨x.host.toArray⟩, .bool x.subs, .int .i64 x.till]]
def livL (S:List SealL) (now:Int):List SealL:=S.filter fun s=>decide (now<s.till)
theorem liv_take {S:List SealL} {now:Int} {k:Nat} (hk:k<S.length):livL (S.take (k+1)) now=livL (S.take k) now++(if now<S[k].till then [S[k]]else []):=by
 unfold livL;rw[List.take_succ_eq_append_getElem hk,List.filter_append];congr 1;by_cases h:now<S[k].till<;>simp[h]
set_option maxRecDepth 100000 in
theorem living1_in (m:Nat) (hm:1≤m) (l B1 B2 lo:Nat) (b1:Option Addr) (b3:Nat) (now:Int) (S:List SealL) (J Jx:List SealL→World→Prop)
 (hJ:∀pre A B,J pre A→Below A.heap.size A B→J pre B)
 (hY:∀pre x W,x∈S→J pre W→pre.length<S.length→YieldAt Fence.wide (m-1) Tryz.prog l (sealV x) W fun e W'=>
  (e= .returned (.bool true)∧J (pre++[x]) W'∧KeepY lo W W')∨(e= .returned (.bool false)∧Jx (pre++[x]) W'))
 (W:World) (hlo:lo≤W.heap.size) (lS:S.length≤1048576) (hB1:W.cell? ⟨B1,1,none⟩=some (.slice b1 S.length b3)) (hB2:W.cell? ⟨B2,0,none⟩=some (.int .i64 now)) (hb1:lo+3≤B1) (hb2:lo+3≤B2)
 (ht:RowY lo W (.slice b1 S.length b3) S) (h0:J [] W):
 CallsIn Fence.wide m Tryz.prog 81 #[.func (.yield l) #[] #[], .pointer (some ⟨B1,0,none⟩), .pointer (some ⟨B2,0,none⟩)] W fun e W'=>(∃v,e= .returned v)∧
  ((∃xs:List SealL,xs=livL S now∧J xs W')∨(∃pre:List SealL,(∃k,pre=livL (S.take k) now)∧Jx pre W')):=by
 refine callsIn_of_wp Tryz.func81 rfl trivial ?_ rfl
 simp only[Tryz.ntmps81,List.size_toArray,List.length_cons,List.length_nil,Nat.reduceAdd,Nat.reduceSub,Array.replicate_succ,Array.replicate_zero,List.push_toArray,List.append_toArray,List.nil_append,List.cons_append]
 gi_wp2
 gi_loopw [5,9] (fun _ i wr=>∃(k:Nat) (pre:List SealL),k≤S.length∧i= .int .i64 k∧pre=livL (S.take k) now∧pre.length≤k∧J pre wr∧KeepY lo W wr) (fun _ i _=>S.length-(intOf i).toNat)
 case atStart=>exact⟨0,[],Nat.zero_le _,rfl,rfl,Nat.le_refl _,h0,KeepY.refl _ _⟩
 case round=>
  obtain⟨k,pre,hk,rfl,hpre,hplen,hJs,hkeep⟩:=hrel;by_cases hlt:k<S.length
  ·have htr:=ht.keep hkeep
   obtain⟨a,rfl⟩:∃a,b1=some a:=by
    rcases htr.1 with ⟨_,e⟩|⟨a,c,e,_⟩
    ·rw[e]at hlt;simp at hlt
    ·injection e with e;exact⟨a,e⟩
   have hck:=htr.1.each k hlt wr (Below.refl _ _);have hB2r:=hkeep.cell hB2 (.inr hb2);have hfit:=liv_take (now:=now) hlt;have hYk:=fun W=>hY pre S[k] W (List.getElem_mem hlt)
   have hlor:lo≤wr.heap.size:=Nat.le_trans hlo hkeep.1.size;have hki:(k:Int)<(S.length:Int):=by omega
   generalize S[k]=x at*;have e0:wr.cell? (a.add (k*3))=some (.string ⟨x.host.toArray⟩):=hck 0 _ rfl;have e1:wr.cell? ⟨(a.add (k*3)).block,(a.add (k*3)).off+1,none⟩=some (.bool x.subs):=hck 1 _ rfl;have e2:wr.cell? ⟨(a.add (k*3)).block,(a.add (k*3)).off+2,none⟩=some (.int .i64 x.till):=hck 2 _ rfl;have hb4:Below wr.heap.size wr (wr.alloc (.cells #[.string ⟨x.host.toArray⟩, .bool x.subs, .int .i64 x.till] 44)):=below_alloc wr _;have hJ4:=hJ pre _ _ hJs hb4;have hk4:=hkeep.trans (KeepY.of hb4 hlor);have hl2:B2<wr.heap.size:=World.block_lt_of_cell? _ _ hB2r;clear htr hck hJs hb4 hkeep;by_cases hu:now<x.till
   ·rw[if_pos hu]at hfit
    obtain⟨fn,tmps,assign,body,hy,hR⟩:=hYk _ hJ4 (by omega);have hy2:(Instr.yield l #[.agg #[.string ⟨x.host.toArray⟩, .bool x.subs, .int .i64 x.till]]).run Tryz.prog (wr.alloc (.cells #[.string ⟨x.host.toArray⟩, .bool x.subs, .int .i64 x.till] 44))= .ok (.round l fn tmps assign body) (wr.alloc (.cells #[.string ⟨x.host.toArray⟩, .bool x.subs, .int .i64 x.till] 44)):=hy;clear hYk hy;gi_wp2_with fail;refine hR.mono ?_;rintro e W3 (⟨rfl,hJ3,hk3⟩|⟨rfl,hJx3⟩)
    ·gi_wp2_with fail
     go_roundw
     case rel=>exact⟨k+1,pre++[x],by omega,by go_num,by rw[hfit,hpre],by simp;omega,hJ3,hk4.trans hk3⟩
     case measure=>simp[intOf];omega
    ·gi_wp2_with fail
     refine bodyPost_ret (results_none rfl _ _ _) rfl ?_;exact⟨⟨_,rfl⟩, .inr ⟨pre++[x],⟨k+1,by rw[hfit,hpre]⟩,hJx3⟩⟩
   ·have hu2:x.till≤now:=by omega
    rw[if_neg hu,List.append_nil]at hfit;clear hYk;gi_wp2_with fail;refine⟨fun _ h=>(by cases h), ?_⟩;gi_wp2_with fail;go_roundw
    case rel=>exact⟨k+1,pre,by omega,by go_num,by rw[hfit];exact hpre,by omega,hJ4,hk4⟩
    case measure=>simp[intOf];omega
  ·obtain rfl:k=S.length:=by omega
   rw[List.take_length]at hpre;gi_wp2;go_end0;exact⟨⟨_,rfl⟩, .inl ⟨pre,hpre,hJs⟩⟩
theorem living_seq (m:Nat) (hm:1≤m) (B1 B2 lo:Nat) (b1:Option Addr) (b3:Nat) (now:Int) (S:List SealL) (w:World) (hlo:lo≤w.heap.size) (lS:S.length≤1048576) (hB1:w.cell? ⟨B1,1,none⟩=some (.slice b1 S.length b3)) (hB2:w.cell? ⟨B2,0,none⟩=some (.int .i64 now)) (hb1:lo+3≤B1) (hb2:lo+3≤B2)
 (ht:RowY lo w (.slice b1 S.length b3) S):
 SeqStopsK Fence.wide m Tryz.prog 81 #[.pointer (some ⟨B1,0,none⟩), .pointer (some ⟨B2,0,none⟩)] (fun x: {s:SealL // s∈S}=>sealV x.1) (KeepY lo) (fun xs=>xs.map Subtype.val=livL S now) (fun pre=>∃k,pre.map Subtype.val=livL (S.take k) now) S.length w:=fun l J Jx W hW hJ hJx hY h0=>by
 have hk:=KeepY.of hW hlo
 have hgr:∀A B:World,Below A.heap.size A B→A.grownBy B none:=fun A B h=>⟨h.os,h.tape,h.output,h.size,fun k hk _=>h.block k hk⟩
 refine(living1_in m hm l B1 B2 lo b1 b3 now S (fun pre A=>∃p:List {s:SealL // s∈S},p.map Subtype.val=pre∧J p A) (fun pre A=>∃p:List {s:SealL // s∈S},p.map Subtype.val=pre∧Jx p A) ?hj ?hy W (Nat.le_trans hlo hW.size) lS (hk.cell hB1 (.inr hb1)) (hk.cell hB2 (.inr hb2)) hb1 hb2 (ht.keep hk) ⟨[],rfl,h0⟩).mono ?hm
 case hj=>
  rintro pre A B ⟨p,h1,h2⟩ hb;exact⟨p,h1,hJ p A B none h2 (hgr A B hb) (fun r e=>by cases e)⟩
 case hy=>
  rintro pre x V hx ⟨p,h1,h2⟩ hlen;obtain⟨fn,tmps,assign,body,hy,hR⟩:=hY p ⟨x,hx⟩ V h2 (by rw[←h1,List.length_map]at hlen;exact hlen);refine⟨fn,tmps,assign,body,hy,hR.mono ?_⟩;rintro e V' (⟨rfl,h3,h4⟩|⟨rfl,h3⟩)
  ·exact .inl ⟨rfl,⟨_,by rw[List.map_append,h1];rfl,h3⟩,h4⟩
  ·exact .inr ⟨rfl,_,by rw[List.map_append,h1];rfl,h3⟩
 case hm=>
  rintro e V ⟨he,⟨xs,h1,p,h2,h3⟩|⟨pre,⟨k,h1⟩,p,h2,h3⟩⟩
  ·exact⟨he, .inl ⟨p,by show List.map Subtype.val p=_;rw[h2];exact h1,h3⟩⟩
  ·exact⟨he, .inr ⟨p,⟨k,by show List.map Subtype.val p=_;rw[h2];exact h1⟩,h3⟩⟩
end Go.Proofs.YtjkipdoebkhkaaaGreatDoor
namespace Go.Proofs.YtjkipdoebkhkaaaGreatDoor
open Go.RowKit Go.Shelf
attribute [local go_sem] Oper.semAt_some
def sealM (h:List UInt8) (s:SealL):Bool:=s.host==h||(s.subs&&belowL h s.host)
theorem is_done {S:List SealL} {h:List UInt8} {now:Int} (H:∀x∈livL S now,sealM h x=false):isL S h now=false:=by
 unfold isL;rw[List.any_eq_false];intro x hx;unfold sealB;by_cases hu:now<x.till
 ·have:=H x (List.mem_filter.2 ⟨hx,decide_eq_true hu⟩)
  unfold sealM at this;rw[this];simp
 ·rw[decide_eq_false hu];simp
theorem is_stop {S:List SealL} {h:List UInt8} {now:Int} {k:Nat} {x:SealL} (hx:x∈livL (S.take k) now) (H:sealM h x=true):isL S h now=true:=by
 obtain⟨h1,h2⟩:=List.mem_filter.1 hx;refine List.any_eq_true.2 ⟨x,List.mem_of_mem_take h1, ?_⟩;unfold sealB;rw[h2];exact H
theorem keeps_below {A B:World} (h:Below A.heap.size A B):KeepsOthers A B:=⟨h.size,fun k o h1 _=>(h.block k (Array.getElem?_eq_some_iff.1 h1).1).trans h1⟩
theorem undef_not {b:Bool} (h:some undef=some (Value.bool b)):False:=by cases h
structure ResI (W:World) (lo:Nat) (kc:Array Value) (h:List UInt8) (v:Bool):Prop where
 kb:W.heap[lo]?=some (.cells kc 25 (0,0))
 hb:Boxed W (lo+1) 9 (.string ⟨h.toArray⟩)
 rb:Boxed W (lo+2) 4 (.bool v)
theorem own_is {w A B:World} {lo:Nat} {kc:Array Value} {h:List UInt8} {v:Bool} {row:Option Nat} (H:ResI A lo kc h v∧Below lo w A) (hg:A.grownBy B row) (hlo:lo≤A.heap.size) (hr:∀r,row=some r→lo≤r∧∃o:Obj,A.heap[r]?=some o∧o.isCells=false):ResI B lo kc h v∧Below lo w B:=by
 obtain⟨hR,hB⟩:=H;have hk:∀k o,A.heap[k]?=some o→o.isCells=true→some k≠row:=fun k o h1 h2 e=>by
  obtain⟨_,o',h3,h4⟩:=hr k e.symm;rw[h1]at h3;cases h3;rw[h2]at h4;cases h4
 exact⟨⟨(hg.block lo (Array.getElem?_eq_some_iff.1 hR.kb).1 (hk _ _ hR.kb rfl)).trans hR.kb,hR.hb.kept hg (hk _ _ hR.hb rfl),hR.rb.kept hg (hk _ _ hR.rb rfl)⟩,hB.grown hg hlo (fun k e=>(hr k e).1)⟩
theorem ResI.set {A:World} {lo:Nat} {kc:Array Value} {h:List UInt8} {v:Bool} (H:ResI A lo kc h v) (u:Bool):ResI (A.setCell ⟨lo+2,0,none⟩ (.bool u)) lo kc h u:=
 ⟨(Below.heap_setCell _ _ _ _ (by show lo≠lo+2;omega)).trans H.kb,H.hb.other (by omega) _,H.rb.set _⟩
theorem results_1c {P:Program} {fn:Func} {p:Tmp} {t1:TypeId} (h:fn.results= #[.cell p t1]) (tmps:Array Value) (W:World) (B1:Nat) (v1:Value) (h1:tmps.getD p undef= .pointer (some ⟨B1,0,none⟩)) (l1:(loadVar t1 ⟨B1,0,none⟩).run P W= .ok v1 W):(results fn tmps).run P W= .ok v1 W:=by
 have h1':tmps[p]?.getD undef= .pointer (some ⟨B1,0,none⟩):=by simpa using h1
 simp[results,h,h1',asAddr,l1]
theorem ResI.results {W:World} {lo:Nat} {kc:Array Value} {h:List UInt8} {v:Bool} (H:ResI W lo kc h v) {tmps:Array Value} (h1:tmps[6]?.getD undef= .pointer (some ⟨lo+2,0,none⟩)):
 (results Tryz.f13 tmps).run Tryz.prog W= .ok (.bool v) W:=by
 have hagg:(isAgg 4).run Tryz.prog W= .ok false W:=by
  unfold isAgg;rw[Sem.run_bind,run_underlying Tryz.underlying4 W];rfl
 have l1:(loadVar 4 ⟨lo+2,0,none⟩).run Tryz.prog W= .ok (.bool v) W:=by simp[loadVar,Sem.run_bind,hagg,H.rb.cell,go_sem]
 exact results_1c (fn:=Tryz.f13) (p:=6) rfl _ _ _ _ (by simpa using h1) l1
def IsI (S:List SealL) (w:World) (lo N0:Nat) (kc:Array Value) (h:List UInt8) (pre:List {s:SealL // s∈S}) (W:World):Prop:=(ResI W lo kc h false∧Below lo w W)∧(∀x∈pre,sealM h x.1=false)∧N0≤W.heap.size
def IsX (S:List SealL) (w:World) (lo:Nat) (kc:Array Value) (h:List UInt8) (c:Code) (pre:List {s:SealL // s∈S}) (W:World):Prop:=(ResI W lo kc h true∧Below lo w W)∧c= .ret∧∃x∈pre,sealM h x.1=true
abbrev isT (lo B1:Nat) (kc:Array Value) (h:List UInt8) (now:Int) (x:SealL) (Bx:Nat):Array Value:=
 #[.agg kc, .string ⟨h.toArray⟩, .int .i64 now, .pointer (some ⟨lo,0,none⟩), .pointer (some ⟨lo+1,0,none⟩),undef, .pointer (some ⟨lo+1+1,0,none⟩), .pointer (some ⟨Bx,0,none⟩), .agg kc, .int .i64 now,
  .func (.func 81) #[] #[.pointer (some ⟨B1,0,none⟩), .pointer (some ⟨B1+1,0,none⟩)], .agg #[.string ⟨x.host.toArray⟩, .bool x.subs, .int .i64 x.till],undef,undef,undef,undef,undef,undef,undef,undef,undef,undef,undef,undef,undef,undef]
abbrev AtSeal (B lo B1:Nat) (kc:Array Value) (h:List UInt8) (now:Int) (x:SealL) (a':Act) (W:World):Prop:=
 ∃Bx,B≤Bx∧W.heap[Bx]?=some (.cells #[.string ⟨x.host.toArray⟩, .bool x.subs, .int .i64 x.till] 44 (0,0))∧a'= {tmps:=isT lo B1 kc h now x Bx,defers:=[]}
set_option maxRecDepth 1000000 in
theorem is_any (a b:Value) (n:Int) (S:List SealL) (h:List UInt8) (now:Int) (w:World) (hE:EnvH w) (hS:RowS 3 cellsS w b S) (lS:S.length≤1048576) (zS:∀x∈S,x.host.length≤1048576) (zh:h.length≤1048576) (ha:∃p q r,a= .slice p q r):
 Calls Tryz.prog 13 #[keepV a b n, .string ⟨h.toArray⟩, .int .i64 now] w fun e w'=>e= .returned (.bool (isL S h now))∧Below w.heap.size w w':=by
 obtain⟨a1,a2,a3,rfl⟩:=ha
 obtain⟨b1,b2,b3,rfl,hb2, -⟩:=hS.conc
 subst hb2
 obtain⟨w0,hw0⟩:∃W,((w.alloc (.cells #[.slice a1 a2 a3, .slice b1 S.length b3, .int .i64 n] 25)).alloc (.cells #[.string ⟨h.toArray⟩] 9)).alloc (.cells #[.bool false] 4)=W:=⟨_,rfl⟩
 have hs1:(w.alloc (.cells #[.slice a1 a2 a3, .slice b1 S.length b3, .int .i64 n] 25)).heap.size=w.heap.size+1:=World.size_alloc _ _
 have hb0:Below w.heap.size w w0:=by rw[←hw0];exact((below_alloc w _).alloc (by rw[World.size_alloc];omega) _).alloc (by rw[World.size_alloc,World.size_alloc];omega) _
 have hr0:ResI w0 w.heap.size #[.slice a1 a2 a3, .slice b1 S.length b3, .int .i64 n] h false:=by
  have h1:=heap_alloc_new w (.cells #[.slice a1 a2 a3, .slice b1 S.length b3, .int .i64 n] 25);have h2:=Boxed.new (w.alloc (.cells #[.slice a1 a2 a3, .slice b1 S.length b3, .int .i64 n] 25)) 9 (.string ⟨h.toArray⟩);have h3:=Boxed.new ((w.alloc (.cells #[.slice a1 a2 a3, .slice b1 S.length b3, .int .i64 n] 25)).alloc (.cells #[.string ⟨h.toArray⟩] 9)) 4 (.bool false);rw[World.size_alloc]at h2;rw[World.size_alloc,World.size_alloc]at h3;rw[←hw0];exact⟨((below_alloc _ _).block _ (by rw[World.size_alloc,World.size_alloc];omega)).trans (((below_alloc _ _).block _ (by rw[World.size_alloc];omega)).trans h1),h2.alloc _,h3⟩
 have hsz0:w.heap.size+3≤w0.heap.size:=by rw[←hw0];simp
 have c0:w0.cell? ⟨w.heap.size,0,none⟩=some (.slice a1 a2 a3):=by rw[Lib.cell_of_heap hr0.kb];rfl
 have c1:w0.cell? ⟨w.heap.size,1,none⟩=some (.slice b1 S.length b3):=by rw[Lib.cell_of_heap hr0.kb];rfl
 have c2:w0.cell? ⟨w.heap.size,2,none⟩=some (.int .i64 n):=by rw[Lib.cell_of_heap hr0.kb];rfl
 unfold keepV
 refine(callsIn_wide (n:=4)).1 (callsIn_of_wp_marks Tryz.func13 rfl trivial (wpIn_wide.2 ?_) rfl)
 simp only[Tryz.ntmps13,List.size_toArray,List.length_cons,List.length_nil,Nat.reduceAdd,Nat.reduceSub,Array.replicate_succ,Array.replicate_zero,List.push_toArray,List.append_toArray,List.nil_append,List.cons_append]
 have HW:=Lib.hid hw0
 clear hw0
 go_upto_region 1 with fail
 rw[HW.out]
 clear HW
 go_wp2_with fail
 go_at_call 51
 refine(living_any a1 b1 a2 a3 S.length b3 n now _).mono ?_
 rintro e w6 ⟨rfl,rfl⟩
 obtain⟨KC,hKC⟩:∃k,(#[.slice a1 a2 a3, .slice b1 S.length b3, .int .i64 n]:Array Value)=k:=⟨_,rfl⟩
 have hA1:=heap_alloc_new w0 (.cells #[.slice a1 a2 a3, .slice b1 S.length b3, .int .i64 n] 25)
 have hA2:=Boxed.new (w0.alloc (.cells #[.slice a1 a2 a3, .slice b1 S.length b3, .int .i64 n] 25)) 3 (.int .i64 now)
 rw[World.size_alloc]at hA2
 obtain⟨w7,hw7⟩:∃W,(w0.alloc (.cells #[.slice a1 a2 a3, .slice b1 S.length b3, .int .i64 n] 25)).alloc (.cells #[.int .i64 now] 3)=W:=⟨_,rfl⟩
 have hb07:Below w0.heap.size w0 w7:=by rw[←hw7];exact(below_alloc w0 _).alloc (by rw[World.size_alloc];omega) _
 have hA3:w7.heap[w0.heap.size]?=some (.cells #[.slice a1 a2 a3, .slice b1 S.length b3, .int .i64 n] 25 (0,0)):=by rw[←hw7];exact((below_alloc _ _).block _ (by rw[World.size_alloc];omega)).trans hA1
 have cB1:w7.cell? ⟨w0.heap.size,1,none⟩=some (.slice b1 S.length b3):=by rw[Lib.cell_of_heap hA3];rfl
 have cB2:w7.cell? ⟨w0.heap.size+1,0,none⟩=some (.int .i64 now):=by rw[←hw7];exact hA2.cell
 have hsz7:w0.heap.size+2≤w7.heap.size:=by rw[←hw7];simp
 have hr7:ResI w7 w.heap.size #[.slice a1 a2 a3, .slice b1 S.length b3, .int .i64 n] h false:=⟨(hb07.block _ (by omega)).trans hr0.kb,(hb07.block _ (by omega)).trans hr0.hb,(hb07.block _ (by omega)).trans hr0.rb⟩
 have hbE7:Below w.heap.size w w7:=below_nx hb0 hb07
 have hseq:=living_seq 3 (by omega) w0.heap.size (w0.heap.size+1) w.heap.size b1 b3 now S w7 hbE7.size lS cB1 cB2 (by omega) (by omega)
  ⟨hS.below hbE7 (Nat.le_refl _),fun a n' c' e h0=>by
   rcases hS with ⟨h1,h2⟩|⟨a',c2,h1,_,h3,_⟩
   ·rw[h2]at h0;simp at h0
   ·rw[h1]at e
    injection e with e;injection e with e;rw[←e];exact h3 h0⟩
 rw[hw7]
 rw[hKC]at hr7⊢
 have HKC:=Lib.hid hKC
 clear hA1 hA2 hw7 hA3 cB1 cB2 hr0 c0 c1 c2 hKC
 go_wp2_with fail
 have hlo7:w.heap.size≤w7.heap.size:=hbE7.size
 refine wpIn_wide.1 (wpIn_rangeFunc_ownH (F:=Fence.wide) (n:=4) (P:=Tryz.prog) rfl (by omega) (gf:=81) (lb:= #[.pointer (some ⟨w0.heap.size,0,none⟩), .pointer (some ⟨w0.heap.size+1,0,none⟩)]) rfl trivial (enters_of Tryz.func81 (by kernel_rfl) rfl)
  hseq (fun h k=>h.trans k) ?hKb (Below.refl _ _) (fun _=>rfl) (IsI S w w.heap.size w7.heap.size KC h) (IsX S w w.heap.size KC h) ?own ?ownx ?start (fun x=>AtSeal w7.heap.size w.heap.size w0.heap.size KC h now x.1) ?ownax ?assign ?body ?done ?stop)
 case hKb=>
  intro W l o o' hle hl1 hc1 _;have hlt:=(Array.getElem?_eq_some_iff.1 hl1).1;refine⟨(Below.refl _ W).grown (grownBy_putObj' W l o') (by omega) (fun k e=>by cases e;omega),fun k ob h1 h2 _=>(World.putObj_heap_other (fun e=> ?_)).trans h1⟩;subst e;rw[h1]at hl1;cases hl1;rw[h2]at hc1;cases hc1
 case own=>
  rintro pre A B row ⟨h1,h2,h3⟩ hg hrr;exact⟨own_is h1 hg h1.2.size (fun r e=>⟨Nat.le_trans hlo7 (hrr r e).1,(hrr r e).2⟩),h2,Nat.le_trans h3 hg.size⟩
 case ownx=>
  rintro cd pre A B row ⟨h1,hrest⟩ hg hrr;exact⟨own_is h1 hg h1.2.size (fun r e=>⟨Nat.le_trans hlo7 (hrr r e).1,(hrr r e).2⟩),hrest⟩
 case start=>exact⟨⟨hr7,hbE7⟩,by simp,Nat.le_refl _⟩
 case ownax=>
  rintro x a' _ A B row ⟨Bx,h1,h2,h3⟩ hg hrr;refine⟨Bx,h1,(hg.block Bx (Array.getElem?_eq_some_iff.1 h2).1 (fun e=> ?_)).trans h2,h3⟩;obtain⟨_,o',h4,h5⟩:=hrr Bx e.symm;rw[h2]at h4;cases h4;cases h5
 case assign=>
  intro l pre x W K hI hK;gi_wp2;exact hK _ _ ((KeepsOthers.alloc _ _).from _) (KeepY.of ((Below.refl _ W).alloc (Nat.le_refl _) _) hI.1.2.size) ⟨own_is hI.1 (World.grownBy_alloc W _ none) hI.1.2.size (fun r e=>by cases e),hI.2.1,by rw[World.size_alloc];have:=hI.2.2;omega⟩ ⟨W.heap.size,hI.2.2,heap_alloc_new W _,rfl⟩
 case body=>
  rintro l pre x a' W hle ⟨r,hr⟩ ⟨⟨hR,hB⟩,hpre,hN0⟩ ⟨Bx,hBx,hrow,rfl⟩ hlen;obtain⟨x,hx⟩:=x;have zx:=zS x hx;have fn63:(Fence.wide.inRound l).fn 52:=trivial;have fn64:Fence.wide.fn 52:=trivial;have cb0:W.cell? ⟨Bx,0,none⟩=some (.string ⟨x.host.toArray⟩):=by rw[Lib.cell_of_heap hrow];rfl
  have cb1:W.cell? ⟨Bx,1,none⟩=some (.bool x.subs):=by rw[Lib.cell_of_heap hrow];rfl
  have c2:=hR.hb.cell;have f3:=hR.rb.frozen;have c3:=hR.rb.cell;have cb:=below_any h x.host W (hE.below hB).t.env (by omega) (by omega);have hsm:sealM h x=(x.host==h||(x.subs&&belowL h x.host)):=rfl;clear hrow;have hloW:w.heap.size≤W.heap.size:=hB.size;have hx0:∀W',Below W.heap.size W W'→ResI W' w.heap.size KC h false∧Below w.heap.size w W':=fun W' hb=>own_is (row:=none) ⟨hR,hB⟩ ⟨hb.os,hb.tape,hb.output,hb.size,fun k hk _=>hb.block k hk⟩ hloW (fun r e=>by cases e)
  have hgood:sealM h x=false→∀y∈pre++[⟨x,hx⟩],sealM h y.1=false:=fun hf y hy=>by
   rcases List.mem_append.1 hy with hy|hy
   ·exact hpre y hy
   ·rw[List.mem_singleton]at hy;rw[hy];exact hf
  have HG:=Lib.hid hgood;have HS:=Lib.hid hsm;have HZ:=Lib.hid hx0;have HR:=Lib.hid hR;clear hgood hsm hx0 hR hpre hS zS;by_cases hq:x.host=h
  ·have hq1:(x.host==h)=true:=beq_iff_eq.2 hq
   have hf:sealM h x=true:=by rw[HS.out,hq1];rfl
   gi_wp2_with (first|(refine And.intro fn63 ?_)|(exact(undef_not (by assumption)).elim));exact⟨(KeepsOthers.setCell _ _ _).from _,⟨HR.out.set true,hB.setCell (p:=⟨w.heap.size+2,0,none⟩) (Nat.le_add_right _ _) _⟩,rfl,⟨x,hx⟩,by simp,hf⟩
  ·have hq1:(x.host==h)=false:=beq_eq_false_iff_ne.2 hq
   cases hsu:x.subs with
   |false=>
    have hf:sealM h x=false:=by rw[HS.out,hq1,hsu];rfl
    rw[hsu]at cb1;gi_wp2_with (first|(refine And.intro fn63 ?_)|(exact(undef_not (by assumption)).elim));exact⟨(KeepsOthers.refl _).from _,KeepY.refl _ _,⟨HR.out,hB⟩,HG.out hf,hN0⟩
   |true=>
    rw[hsu]at cb1
    cases hbb:belowL h x.host with
    |true=>
     rw[hbb]at cb;have hf:sealM h x=true:=by rw[HS.out,hq1,hsu,hbb];rfl
     gi_wp2_with (first|(gi_at_call 52;refine(CallsIn.inRound l (callsIn_wide.2 cb)).mono ?_;rintro e w2 ⟨rfl,hbn⟩;have f3:=(HZ.out _ hbn).1.rb.frozen;have c3:=(HZ.out _ hbn).1.rb.cell)|(with_reducible refine And.intro fn63 ?_)|(exact(undef_not (by assumption)).elim));exact⟨((keeps_below hbn).trans (KeepsOthers.setCell _ _ _)).from _,⟨(HZ.out _ hbn).1.set true,(HZ.out _ hbn).2.setCell (p:=⟨w.heap.size+2,0,none⟩) (Nat.le_add_right _ _) _⟩,rfl,⟨x,hx⟩,by simp,hf⟩
    |false=>
     rw[hbb]at cb;have hf:sealM h x=false:=by rw[HS.out,hq1,hsu,hbb];rfl
     gi_wp2_with (first|(gi_at_call 52;refine(CallsIn.inRound l (callsIn_wide.2 cb)).mono ?_;rintro e w2 ⟨rfl,hbn⟩)|(with_reducible refine And.intro fn63 ?_)|(exact(undef_not (by assumption)).elim));exact⟨(keeps_below hbn).from _,KeepY.of hbn hloW,HZ.out _ hbn,HG.out hf,Nat.le_trans hN0 hbn.size⟩
 case done=>
  rintro D xs W hD hS2 ⟨⟨hR,hB⟩,hpre,hN0⟩ hK;have hres:isL S h now=false:=is_done (by rw[←hS2];intro x hx;obtain⟨y,hy,rfl⟩:=List.mem_map.1 hx;exact hpre y hy);have f3:=hR.rb.frozen;have c3:=hR.rb.cell;have hK':=(KeepsOthers.setCell W ⟨w.heap.size+2,0,none⟩ (.bool false)).same D _ hK rfl;have hBx:=hB.setCell (p:=⟨w.heap.size+2,0,none⟩) (Nat.le_add_right _ _) (.bool false);have hD':=own_is (row:=some D) ⟨hR.set false,hBx⟩ (grownBy_putObj' _ D (.deferred none)) hBx.size (fun r e=>by cases e;exact⟨Nat.le_trans hlo7 hD,_,hK',rfl⟩);clear hS2 hpre;go_wp2_with fail;refine⟨by simp, .inl ⟨_,_,rfl,run_takeDeferred hK', ?_⟩⟩;exact⟨_,hD'.1.results rfl,by rw[hres],hD'.2⟩
 case stop=>
  rintro D cd pre W hD ⟨k,hSp⟩ ⟨⟨hR,hB⟩,rfl,x,hx,hm⟩ hK;have hres:isL S h now=true:=is_stop (by rw[←hSp];exact List.mem_map.2 ⟨x,hx,rfl⟩) hm;have hD':=own_is (row:=some D) ⟨hR,hB⟩ (grownBy_putObj' W D (.deferred none)) hB.size (fun r e=>by cases e;exact⟨Nat.le_trans hlo7 hD,_,hK,rfl⟩);gi_wp2;refine⟨by simp, .inl ⟨_,_,rfl,run_takeDeferred hK, ?_⟩⟩;exact⟨_,hD'.1.results rfl,by rw[hres],hD'.2⟩
end Go.Proofs.YtjkipdoebkhkaaaGreatDoor
