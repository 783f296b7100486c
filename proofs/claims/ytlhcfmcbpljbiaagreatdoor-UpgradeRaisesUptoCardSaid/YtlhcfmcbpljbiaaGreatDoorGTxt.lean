/- A row of texts that a call made: where it lies, and what its cells hold. -/
import Derived.Test.YtlhcfmcbpljbiaaGreatDoorGFmt
import Derived.ChangeSlices
set_option linter.unusedVariables false
set_option linter.unusedSimpArgs false
set_option maxHeartbeats 16000000
namespace Go.Proofs.YtlhcfmcbpljbiaaGreatDoor
open Go.RowKit
theorem txt_own {w:World} {base e n c:Nat} {ad:Option Addr} {L:List (List UInt8)} (h:w.ownsRow base e 1 (.slice ad n c) n (strs L)) (hn:n=L.length) (h0:0<L.length):
 ∃g,ad=some ⟨g,0,none⟩∧base≤g∧g<w.heap.size∧n≤c∧∀W,Below w.heap.size w W→∀(k:Nat) (hk:k<L.length),W.cell? ⟨g,k,none⟩=some (.string ⟨(L[k]).toArray⟩):=by
 rcases own_open h with ⟨_,h1,_⟩|⟨g,cp,hv,hb,hg,hc,_,hcell⟩
 ·omega
 ·injection hv with e1 e2 e3
  subst e1;exact⟨g,rfl,hb,hg,by omega,fun W hW k hk=>(hW.cell (p:=⟨g,k,none⟩) hg).trans (hcell k _ (strs_get hk))⟩
def Txt (w:World) (v:Value) (L:List (List UInt8)):Prop:=
 (v= .slice none 0 0∧L=[])∨∃(a:Addr) (c:Nat),v= .slice (some a) L.length c∧L.length≤c∧(0<L.length→a.block<w.heap.size)∧∀(k:Nat) (hk:k<L.length),w.cell? (a.add k)=some (.string ⟨(L[k]).toArray⟩)
theorem Txt.below {w W:World} {v:Value} {L:List (List UInt8)} (h:Txt w v L) {B:Nat} (hb:Below B w W) (hB:w.heap.size≤B):Txt W v L:=by
 rcases h with h|⟨a,c,h1,h2,h3,h4⟩
 ·exact .inl h
 ·exact .inr ⟨a,c,h1,h2,fun h0=>by have:=hb.size;have:=h3 h0;omega,fun k hk=>(hb.cell (p:=a.add k) (by rw[Go.ChangeShapes.block_add];have:=h3 (by omega);omega)).trans (h4 k hk)⟩
theorem Txt.own {w:World} {base e:Nat} {v:Value} {n:Nat} {L:List (List UInt8)} (h:w.ownsRow base e 1 v n (strs L)) (hn:n=L.length):Txt w v L:=by
 subst hn;rcases own_open h with ⟨h1,_,h3⟩|⟨g,c,h1,h2,h3,h4,_,h5⟩
 ·refine .inl ⟨h1, ?_⟩
  unfold strs at h3;simpa using h3
 ·exact .inr ⟨⟨g,0,none⟩,c,h1,h4,fun _=>h3,fun k hk=>by
   rw[Addr.add_lit,Nat.zero_add];exact h5 k _ (strs_get hk)⟩
theorem txt_cell {w:World} {g o n c:Nat} {L:List (List UInt8)} (h:Txt w (.slice (some ⟨g,o,none⟩) n c) L) (h0:0<L.length):n=L.length∧L.length≤c∧g<w.heap.size∧∀W,Below w.heap.size w W→∀(k:Nat) (hk:k<L.length),W.cell? ⟨g,o+k,none⟩=some (.string ⟨(L[k]).toArray⟩):=by
 rcases h with ⟨h1,_⟩|⟨a,c',h1,h2,h3,h4⟩
 ·cases h1
 ·injection h1 with e1 e2 e3
  injection e1 with e1;subst e1;refine⟨e2,by omega,h3 h0,fun W hW k hk=> ?_⟩;have:=(hW.cell (p:=(⟨g,o,none⟩:Addr).add k) (by rw[Go.ChangeShapes.block_add];exact h3 h0)).trans (h4 k hk);rwa[Addr.add_lit]at this
theorem txt_tail {w:World} {g n c:Nat} {p:List UInt8} {L:List (List UInt8)} (h:Txt w (.slice (some ⟨g,0,none⟩) n c) (p::L)):Txt w (.slice (some ⟨g,1,none⟩) L.length (c-1)) L:=by
 obtain⟨h1,h2,h3,h4⟩:=txt_cell h (by simp);refine .inr ⟨⟨g,1,none⟩,c-1,rfl,by simp at h2;omega,fun _=>h3,fun k hk=> ?_⟩;rw[Addr.add_lit];have:=h4 w (Below.refl _ _) (k+1) (by simpa using hk);rw[Nat.zero_add]at this;rw[Nat.add_comm 1 k];exact this
def sizeF:Nat→List (List UInt8)→Nat
 |n,[]=>n
 |n,x::l=>if n≤1048576 then sizeF (n+x.length) l else n
def textsN (L:List (List UInt8)):Nat:=sizeF L.length L
theorem sizeF_ge:∀(l:List (List UInt8)) (n:Nat),n≤sizeF n l
 |[],n=>Nat.le_refl _
 |x::l,n=>by
  unfold sizeF;split
  ·have:=sizeF_ge l (n+x.length);omega
  ·exact Nat.le_refl _
theorem sizeF_drop {L:List (List UInt8)} {k n:Nat} (hk:k<L.length):sizeF n (L.drop k)=if n≤1048576 then sizeF (n+(L[k]).length) (L.drop (k+1))else n:=by
 rw[List.drop_eq_getElem_cons hk,sizeF]
end Go.Proofs.YtlhcfmcbpljbiaaGreatDoor
