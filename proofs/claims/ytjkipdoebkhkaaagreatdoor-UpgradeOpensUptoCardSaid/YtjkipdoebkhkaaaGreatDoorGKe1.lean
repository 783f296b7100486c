/- What a user keeps: cookies, seals; how much it is. -/
import Derived.Test.YtjkipdoebkhkaaaGreatDoorGRow
import Derived.RangeFuncBox
import Derived.Shelf.Strings.BuilderK
import Derived.RangeFuncCalls
import Derived.OwnWalkIn
import Derived.TacticsInMore
import Derived.LoopNIn
import Derived.LoopIn
import Derived.Lib.SlicesCompact
import Derived.Shelf.Unicode.ValidAny
import Derived.Lib.AppendZerosOnto
import Derived.Deep.RegionLawGrows
import Derived.Shelf.Spec.SlicesInsert
import Derived.Deep.AppendLies
set_option linter.unusedVariables false
set_option linter.unusedSimpArgs false
set_option maxHeartbeats 16000000
namespace Go.Proofs.YtjkipdoebkhkaaaGreatDoor
open Go.RowKit
structure CookieL where
 name:List UInt8
 value:List UInt8
 host:List UInt8
 bare:Bool
 path:List UInt8
 secure:Bool
 hidden:Bool
 site:Int
 made:Int
 last:Int
 till:Int
 order:Int
structure SealL where
 host:List UInt8
 subs:Bool
 till:Int
def cellsK (c:CookieL):List Value:=[.string ⟨c.name.toArray⟩, .string ⟨c.value.toArray⟩, .string ⟨c.host.toArray⟩, .bool c.bare, .string ⟨c.path.toArray⟩, .bool c.secure, .bool c.hidden, .int .u8 c.site, .int .i64 c.made, .int .i64 c.last, .int .i64 c.till, .int .i64 c.order]
def cellsS (s:SealL):List Value:=[.string ⟨s.host.toArray⟩, .bool s.subs, .int .i64 s.till]
def sizeG {α:Type} (f:α→Nat):Nat→List α→Nat
 |n,[]=>n
 |n,x::l=>if n≤1048576 then sizeG f (n+f x) l else n
theorem sizeG_ge {α:Type} (f:α→Nat):∀(l:List α) (n:Nat),n≤sizeG f n l
 |[],n=>Nat.le_refl _
 |x::l,n=>by
  unfold sizeG;split
  ·exact Nat.le_trans (Nat.le_add_right _ _) (sizeG_ge f l _)
  ·exact Nat.le_refl _
theorem sizeG_drop {α:Type} (f:α→Nat) {l:List α} {n k:Nat} (hk:k<l.length):sizeG f n (l.drop k)=if n≤1048576 then sizeG f (n+f l[k]) (l.drop (k+1))else n:=by
 rw[List.drop_eq_getElem_cons hk];rfl
theorem sizeG_le {α:Type} (f:α→Nat) {B:Nat}:∀(l:List α) (n:Nat),(∀x∈l,f x≤B)→n≤1048576+B→sizeG f n l≤1048576+B
 |[],n,_,h=>h
 |x::l,n,hf,h=>by
  unfold sizeG;split
  ·exact sizeG_le f l _ (fun y hy=>hf y (List.mem_cons.2 (.inr hy))) (by have:=hf x (List.mem_cons.2 (.inl rfl));omega)
  ·exact h
def ckN (c:CookieL):Nat:=c.name.length+c.value.length+c.host.length+c.path.length
def slN (s:SealL):Nat:=s.host.length
def keepV (a b:Value) (n:Int):Value:= .agg #[a,b, .int .i64 n]
def keepN (J:List CookieL) (S:List SealL):Nat:=let n:=1+sizeG ckN J.length J;if n≤1048576 then n+sizeG slN S.length S else n
theorem below_nx {w W W':World} (h:Below w.heap.size w W) (k:Below W.heap.size W W'):Below w.heap.size w W':=h.trans (k.mono h.size)
theorem RowS.field {α:Type} {z:Nat} {enc:α→List Value} {w:World} {a:Addr} {n c:Nat} {X:List α} (h:RowS z enc w (.slice (some a) n c) X) {W:World} (hW:Below w.heap.size w W) (k:Nat) (hk:k<X.length):
 (∀u,(enc X[k])[0]?=some u→W.cell? (a.add (k*z))=some u)∧∀j u,(enc X[k])[j+1]?=some u→W.cell? ⟨(a.add (k*z)).block,(a.add (k*z)).off+(j+1),none⟩=some u:=
 ⟨fun u hu=>h.each k hk W hW 0 u hu,fun j u hu=>h.each k hk W hW (j+1) u hu⟩
theorem below_dnk {B:Nat} {a w:World} (h:Below B a w) (k:Nat):Below B a (w.drewN k):=⟨h.os,h.tape,h.output,h.size,h.block⟩
set_option maxRecDepth 100000 in
theorem sealssize_any (X:List SealL) (v:Value) (w:World) (h:RowS 3 cellsS w v X) (hl:X.length≤140737488351232) (hs:∀x∈X,slN x≤562949953404928):
 Calls Tryz.prog 65 #[v] w fun e w'=>e= .returned (.int .i64 (sizeG slN X.length X:Nat))∧Below w.heap.size w w':=by
 have hm:sizeG slN X.length X=sizeG slN X.length (X.drop 0):=rfl
 have HM:=Lib.hid hm
 have hbw:=Below.refl w.heap.size w
 rcases h with ⟨rfl,rfl⟩|⟨a,c,rfl,hc,hab,hcell⟩
 ·clear hm
  go_enter Tryz.func65,Tryz.ntmps65;go_wp2_with fail;go_loop [3,4] (fun n i=>n= .int .i64 0∧i= .int .i64 0) (fun _ _=>0)
  case atStart=>exact⟨rfl,rfl⟩
  case round=>
   obtain⟨rfl,rfl⟩:=hrel;go_wp2_with fail;go_ret;exact⟨rfl,hbw⟩
 ·have hrow:RowS 3 cellsS w (.slice (some a) X.length c) X:= .inr ⟨a,c,rfl,hc,hab,hcell⟩
  have HC:=Lib.hid hrow;have HS:=Lib.hid hs;clear hcell hm hs hrow;go_enter Tryz.func65,Tryz.ntmps65;go_wp2_with fail;go_loopw [3,4] (fun n i wr=>∃k m:Nat,k≤X.length∧i= .int .i64 k∧n= .int .i64 m∧m≤562949953404928+140737488351232+1048576∧Hid (sizeG slN X.length X=sizeG slN m (X.drop k))∧Below w.heap.size w wr) (fun _ i _=>X.length-(intOf i).toNat)
  case atStart=>exact⟨0,X.length,Nat.zero_le _,rfl,rfl,by omega,HM,hbw⟩
  case round=>
   obtain⟨k,m,hk,rfl,rfl,hm8,HK,hbr⟩:=hrel;by_cases hlt:k<X.length
   ·obtain⟨h0,h1⟩:=HC.out.field hbr k hlt
    have hsk:=HS.out _ (List.getElem_mem hlt);have hstep:=sizeG_drop slN (n:=m) hlt;by_cases h8:m≤1048576
    ·have HN:Hid (sizeG slN X.length X=sizeG slN (m+slN X[k]) (X.drop (k+1))):=by
      show _=_;rw[HK.out,hstep,if_pos h8]
     clear hstep;generalize X[k]=x at*;have e0:=h0 _ rfl;have hxn:slN x=x.host.length:=rfl;have HXN:=Lib.hid hxn;rw[hxn]at hsk;clear h0 h1 hxn;go_wp2_with fail;go_roundw
     case rel=>exact⟨k+1,m+slN x,by omega,by go_num,by rw[HXN.out];go_num,by rw[HXN.out];omega,HN,by first|exact hbr|exact hbr.drew|exact below_dnk hbr _⟩
     case measure=>simp[intOf];omega
    ·have HN:Hid (sizeG slN X.length X=m):=by
      show _=_;rw[HK.out,hstep,if_neg h8]
     clear hstep hsk h0 h1;go_wp2_with fail;go_ret;exact⟨ret_int (by rw[HN.out]),hbr⟩
   ·obtain rfl:k=X.length:=by omega
    have HN:Hid (sizeG slN X.length X=m):=by
     show _=_;rw[HK.out,List.drop_length];rfl
    go_wp2_with fail;go_ret;exact⟨ret_int (by rw[HN.out]),hbr⟩
set_option maxRecDepth 100000 in
theorem cookiessize_any (X:List CookieL) (v:Value) (w:World) (h:RowS 12 cellsK w v X) (hl:X.length≤140737488351232) (hs:∀x∈X,ckN x≤562949953404928):
 Calls Tryz.prog 64 #[v] w fun e w'=>e= .returned (.int .i64 (sizeG ckN X.length X:Nat))∧Below w.heap.size w w':=by
 have hm:sizeG ckN X.length X=sizeG ckN X.length (X.drop 0):=rfl
 have HM:=Lib.hid hm
 have hbw:=Below.refl w.heap.size w
 rcases h with ⟨rfl,rfl⟩|⟨a,c,rfl,hc,hab,hcell⟩
 ·clear hm
  go_enter Tryz.func64,Tryz.ntmps64;go_wp2_with fail;go_loop [3,4] (fun n i=>n= .int .i64 0∧i= .int .i64 0) (fun _ _=>0)
  case atStart=>exact⟨rfl,rfl⟩
  case round=>
   obtain⟨rfl,rfl⟩:=hrel;go_wp2_with fail;go_ret;exact⟨rfl,hbw⟩
 ·have hrow:RowS 12 cellsK w (.slice (some a) X.length c) X:= .inr ⟨a,c,rfl,hc,hab,hcell⟩
  have HC:=Lib.hid hrow;have HS:=Lib.hid hs;clear hcell hm hs hrow;go_enter Tryz.func64,Tryz.ntmps64;go_wp2_with fail;go_loopw [3,4] (fun n i wr=>∃k m:Nat,k≤X.length∧i= .int .i64 k∧n= .int .i64 m∧m≤562949953404928+140737488351232+1048576∧Hid (sizeG ckN X.length X=sizeG ckN m (X.drop k))∧Below w.heap.size w wr) (fun _ i _=>X.length-(intOf i).toNat)
  case atStart=>exact⟨0,X.length,Nat.zero_le _,rfl,rfl,by omega,HM,hbw⟩
  case round=>
   obtain⟨k,m,hk,rfl,rfl,hm8,HK,hbr⟩:=hrel;by_cases hlt:k<X.length
   ·obtain⟨h0,h1⟩:=HC.out.field hbr k hlt
    have hsk:=HS.out _ (List.getElem_mem hlt);have hstep:=sizeG_drop ckN (n:=m) hlt;by_cases h8:m≤1048576
    ·have HN:Hid (sizeG ckN X.length X=sizeG ckN (m+ckN X[k]) (X.drop (k+1))):=by
      show _=_;rw[HK.out,hstep,if_pos h8]
     clear hstep;generalize X[k]=x at*;have e0:=h0 _ rfl;have e1:=h1 0 _ rfl;have e2:=h1 1 _ rfl;have e3:=h1 3 _ rfl;have hxn:ckN x=x.name.length+x.value.length+x.host.length+x.path.length:=rfl;have HXN:=Lib.hid hxn;rw[hxn]at hsk;clear h0 h1 hxn;go_wp2_with fail;go_quiet (fail);go_wp2_with fail;go_roundw
     case rel=>exact⟨k+1,m+ckN x,by omega,by go_num,by rw[HXN.out];go_num,by rw[HXN.out];omega,HN,by first|exact hbr|exact hbr.drew|exact below_dnk hbr _⟩
     case measure=>simp[intOf];omega
    ·have HN:Hid (sizeG ckN X.length X=m):=by
      show _=_;rw[HK.out,hstep,if_neg h8]
     clear hstep hsk h0 h1;go_wp2_with fail;go_ret;exact⟨ret_int (by rw[HN.out]),hbr⟩
   ·obtain rfl:k=X.length:=by omega
    have HN:Hid (sizeG ckN X.length X=m):=by
     show _=_;rw[HK.out,List.drop_length];rfl
    go_wp2_with fail;go_ret;exact⟨ret_int (by rw[HN.out]),hbr⟩
set_option maxRecDepth 100000 in
theorem keepsize_any (a b:Value) (n:Int) (J:List CookieL) (S:List SealL) (w:World) (hJ:RowS 12 cellsK w a J) (hS:RowS 3 cellsS w b S) (lJ:J.length≤140737488351232) (lS:S.length≤140737488351232) (zJ:∀x∈J,ckN x≤562949953404928) (zS:∀x∈S,slN x≤562949953404928):
 Calls Tryz.prog 23 #[keepV a b n] w fun e w'=>e= .returned (.int .i64 (keepN J S:Nat))∧Below w.heap.size w w':=by
 have hg:=sizeG_ge ckN J J.length
 have hu:sizeG ckN J.length J≤1048576+703687441756160:=sizeG_le ckN J _ (fun x hx=>by have:=zJ x hx;omega) (by omega)
 have hv:sizeG slN S.length S≤1048576+703687441756160:=sizeG_le slN S _ (fun x hx=>by have:=zS x hx;omega) (by omega)
 obtain⟨W0,hW0⟩:∃W,w.alloc (.cells #[a,b, .int .i64 n] 25)=W:=⟨_,rfl⟩
 have hb0:Below w.heap.size w W0:=by rw[←hW0];exact below_alloc w _
 have hB0:W0.heap[w.heap.size]?=some (.cells #[a,b, .int .i64 n] 25 (0,0)):=by rw[←hW0];exact heap_alloc_new w _
 have hl0:=(Array.getElem?_eq_some_iff.1 hB0).1
 have c0:∀W,Below W0.heap.size W0 W→W.cell? ⟨w.heap.size,0,none⟩=some a:=fun W hW=>by rw[Lib.cell_of_heap ((hW.block _ hl0).trans hB0)];rfl
 have c1:∀W,Below W0.heap.size W0 W→W.cell? ⟨w.heap.size,1,none⟩=some b:=fun W hW=>by rw[Lib.cell_of_heap ((hW.block _ hl0).trans hB0)];rfl
 have cj:=fun W (hW:Below W0.heap.size W0 W)=>cookiessize_any J a W (hJ.below (hb0.trans (hW.mono hb0.size)) (Nat.le_refl _)) lJ zJ
 have cs:=fun W (hW:Below W0.heap.size W0 W)=>sealssize_any S b W (hS.below (hb0.trans (hW.mono hb0.size)) (Nat.le_refl _)) lS zS
 obtain⟨a1,a2,a3,rfl, -⟩:=hJ.conc
 obtain⟨b1,b2,b3,rfl, -⟩:=hS.conc
 have hk:keepN J S=if 1+sizeG ckN J.length J≤1048576 then 1+sizeG ckN J.length J+sizeG slN S.length S else 1+sizeG ckN J.length J:=rfl
 have HK:=Lib.hid hk
 have hbw:=Below.refl W0.heap.size W0
 have p0:=c0 W0 hbw
 have q:=c1
 have HW0:=Lib.hid hW0
 clear hk hJ hS zJ zS hB0 c0 hW0
 generalize sizeG ckN J.length J=nj at*
 generalize sizeG slN S.length S=ns at*
 unfold keepV
 by_cases h1:1+nj≤1048576
 ·have h1i:(1:Int)+(nj:Int)≤1048576:=by omega
  go_enter Tryz.func23,Tryz.ntmps23;go_upto_region 1 with fail;rw[HW0.out];clear HW0;go_wp2_with fail;go_at_call 64;refine(cj _ hbw).mono ?_;rintro e w1 ⟨rfl,hb1⟩;have p1:=q w1 hb1;go_wp2_with fail;go_at_call 65;refine(cs _ hb1).mono ?_;rintro e w2 ⟨rfl,hb2⟩;clear p0 p1 q c1 cj cs;go_wp2_with fail;go_ret;exact⟨ret_int (by rw[HK.out,if_pos h1];first|(push_cast;simp;done)|(push_cast;simp[IntKind.wrap_i64];done)|(push_cast;simp[IntKind.wrap_i64];omega)),hb0.trans ((hb1.trans (hb2.mono hb1.size)).mono hb0.size)⟩
 ·have h1i:(1048576:Int)<(1:Int)+(nj:Int):=by omega
  go_enter Tryz.func23,Tryz.ntmps23;go_upto_region 1 with fail;rw[HW0.out];clear HW0;go_wp2_with fail;go_at_call 64;refine(cj _ hbw).mono ?_;rintro e w1 ⟨rfl,hb1⟩;clear p0 q c1 cj cs;go_wp2_with fail;go_ret;exact⟨ret_int (by rw[HK.out,if_neg h1];first|(push_cast;simp;done)|(push_cast;simp[IntKind.wrap_i64];done)|(push_cast;simp[IntKind.wrap_i64];omega)),hb0.trans (hb1.mono hb0.size)⟩
end Go.Proofs.YtjkipdoebkhkaaaGreatDoor
