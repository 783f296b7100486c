/- Small laws besides. -/
import Derived.Test.YtlcnknlmdaochaaGreatDoorGSit1
set_option linter.unusedVariables false
set_option linter.unusedSimpArgs false
set_option maxHeartbeats 16000000
namespace Go.Proofs.YtlcnknlmdaochaaGreatDoor
open Go.RowKit
section
open Go.RowKit
def sumTx:List (List UInt8)→Nat
 |[]=>0
 |p::l=>p.length+sumTx l
def sizeF:Nat→List (List UInt8)→Nat
 |n,[]=>n
 |n,x::l=>if n≤1048576 then sizeF (n+x.length) l else n
def textsN (L:List (List UInt8)):Nat:=sizeF L.length L
theorem sizeF_ge:∀(l:List (List UInt8)) (n:Nat),n≤sizeF n l
 |[],n=>Nat.le_refl _
 |x::l,n=>by
  unfold sizeF;split
  ·have:=sizeF_ge l (n+x.length);omega
  ·exact Nat.le_refl _
theorem sizeF_sum:∀(l:List (List UInt8)) (n:Nat),sizeF n l≤1048576→sizeF n l=n+sumTx l
 |[],n,_=>by simp[sizeF,sumTx]
 |x::l,n,h=>by
  have hg:=sizeF_ge (x::l) n;have hn:n≤1048576:=by omega
  unfold sizeF at h⊢;rw[if_pos hn]at h⊢;rw[sizeF_sum l _ h];simp[sumTx];omega
theorem textsN_sum {L:List (List UInt8)} (h:textsN L≤1048576):textsN L=L.length+sumTx L:=sizeF_sum L _ h
theorem sumT_mem:∀ {L:List (List UInt8)} {p:List UInt8},p∈L→p.length≤sumTx L
 |[],p,h=>by simp at h
 |x::l,p,h=>by
  rcases List.mem_cons.1 h with rfl|h
  ·simp[sumTx]
  ·have:=sumT_mem h;simp[sumTx];omega
theorem sizeF_drop {L:List (List UInt8)} {k n:Nat} (hk:k<L.length):sizeF n (L.drop k)=if n≤1048576 then sizeF (n+(L[k]).length) (L.drop (k+1))else n:=by
 rw[List.drop_eq_getElem_cons hk,sizeF]
end
section
theorem same_symm (L:List (List UInt8)) (a b:UrlL):sameL L a b=sameL L b a:=by
 rw[Bool.eq_iff_iff,same_iff,same_iff];exact⟨fun ⟨h1,h2,h3,h4,h5⟩=>⟨h1,h3,h2,h4.symm,h5.symm⟩,fun ⟨h1,h2,h3,h4,h5⟩=>⟨h1,h3,h2,h4.symm,h5.symm⟩⟩
theorem same_trans {L:List (List UInt8)} {a b c:UrlL} (h:sameL L a b=true) (k:sameL L b c=true):sameL L a c=true:=by
 rw[same_iff]at h k⊢;exact⟨h.1,h.2.1,k.2.2.1,h.2.2.2.1.trans k.2.2.2.1,h.2.2.2.2.trans k.2.2.2.2⟩
theorem same_own {L:List (List UInt8)} {a:UrlL} (h:sameL L a a=false) (b:UrlL):sameL L a b=false:=by
 rw[Bool.eq_false_iff]at h⊢;intro k;rw[same_iff]at k;exact h (same_iff.2 ⟨k.1,k.2.1,k.2.1,rfl,rfl⟩)
theorem of_check (s:List UInt8):checkU (ofU s)= !(ofU s).scheme.isEmpty:=by
 unfold ofU
 cases h:parseU s zeroU false with
 |error n=>exact zero_check
 |ok u=>
  have hg:=good_parse h;show checkU u= !u.scheme.isEmpty;rw[check_iff.2 hg];rcases hg.sch with e|e<;>rw[e]<;>rfl
end
end Go.Proofs.YtlcnknlmdaochaaGreatDoor
