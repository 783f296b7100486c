/- Rules of names that anybody may register, plain. -/
import Derived.Test.YtjkipdoebkhkaaaGreatDoorGFmt
import Derived.ChangeSlices
set_option linter.unusedVariables false
set_option linter.unusedSimpArgs false
set_option maxHeartbeats 16000000
namespace Go.Proofs.YtjkipdoebkhkaaaGreatDoor
def exceptB (s:List UInt8):Bool:=s.head?==some 33
def bareL (s:List UInt8):List UInt8:=if exceptB s then s.tail else s
def sufP (s:List UInt8):List (List UInt8):=partsL 46 (bareL s)
def labB (c:UInt8):Bool:=(decide (97≤c.toNat)&&decide (c.toNat≤122))||((decide (48≤c.toNat)&&decide (c.toNat≤57))||decide (c.toNat=45))
def oddB (x:List UInt8):Bool:=x.isEmpty||(decide (63<x.length)|| !x.all labB)
def starB (s:List UInt8):Bool:= !exceptB s&&(decide (1<(sufP s).length)&&(sufP s).head?==some [42])
def restP (s:List UInt8):List (List UInt8):=if starB s then (sufP s).tail else sufP s
def restN (s:List UInt8):Nat:=(bareL s).length-(if starB s then 2 else 0)
def mayL (s:List UInt8):Bool:= !(exceptB s&&decide ((sufP s).length<2))&&(decide (restN s≤253)&& !(restP s).any oddB)
def checkL (l:List (List UInt8)):Bool:=decide (l.length≤1024)&& !l.any fun s=> !mayL s
def eqF:List (List UInt8)→List (List UInt8)→Bool
 |[],[]=>true
 |h::H,p::P=>(p==[42]||h==p)&&eqF H P
 |_,_=>false
def fitsL (P host:List (List UInt8)):Bool:=decide (P.length≤host.length)&&eqF (host.drop (host.length-P.length)) P
def manyF:Nat→List (List UInt8)→List (List UInt8)→Nat
 |n,[],_=>n
 |n,r::rs,host=>if fitsL (sufP r) host then (if exceptB r then (sufP r).length-1 else manyF (max n (sufP r).length) rs host)else manyF n rs host
def manyL (rules host:List (List UInt8)):Nat:=manyF 1 rules host
def lastL (l:List (List UInt8)) (n:Nat):List UInt8:=joinL 46 (l.drop (l.length-n))
open Go.RowKit
def Txt (w:World) (v:Value) (L:List (List UInt8)):Prop:=
 (v= .slice none 0 0∧L=[])∨∃(a:Addr) (c:Nat),v= .slice (some a) L.length c∧L.length≤c∧(0<L.length→a.block<w.heap.size)∧∀(k:Nat) (hk:k<L.length),w.cell? (a.add k)=some (.string ⟨(L[k]).toArray⟩)
theorem Txt.below {w W:World} {v:Value} {L:List (List UInt8)} (h:Txt w v L) {B:Nat} (hb:Below B w W) (hB:w.heap.size≤B):Txt W v L:=by
 rcases h with h|⟨a,c,h1,h2,h3,h4⟩
 ·exact .inl h
 ·exact .inr ⟨a,c,h1,h2,fun h0=>by have:=hb.size;have:=h3 h0;omega,fun k hk=>(hb.cell (p:=a.add k) (by rw[Go.ChangeShapes.block_add];have:=h3 (by omega);omega)).trans (h4 k hk)⟩
theorem Txt.own {w:World} {base e:Nat} {v:Value} {n:Nat} {L:List (List UInt8)} (h:w.ownsRow base e 1 v n (strs L)) (hn:n=L.length):Txt w v L:=by
 subst hn;rcases own_open h with ⟨h1,_,h3⟩|⟨g,c,h1,h2,h3,h4,_,h5⟩
 ·refine .inl ⟨h1, ?_⟩
  unfold strs at h3;simpa using h3
 ·exact .inr ⟨⟨g,0,none⟩,c,h1,h4,fun _=>h3,fun k hk=>by
   rw[Addr.add_lit,Nat.zero_add];exact h5 k _ (strs_get hk)⟩
end Go.Proofs.YtjkipdoebkhkaaaGreatDoor
