/- Rules of names that anybody may register, plain. -/
import Derived.Test.YtlhcfmcbpljbiaaGreatDoorGMath
set_option linter.unusedVariables false
set_option linter.unusedSimpArgs false
set_option maxHeartbeats 16000000
namespace Go.Proofs.YtlhcfmcbpljbiaaGreatDoor
def exceptB (s:List UInt8):Bool:=s.head?==some 33
def bareL (s:List UInt8):List UInt8:=if exceptB s then s.tail else s
def sufP (s:List UInt8):List (List UInt8):=partsL 46 (bareL s)
def labB (c:UInt8):Bool:=(decide (97≤c.toNat)&&decide (c.toNat≤122))||((decide (48≤c.toNat)&&decide (c.toNat≤57))||decide (c.toNat=45))
def oddB (x:List UInt8):Bool:=x.isEmpty||(decide (63<x.length)|| !x.all labB)
def starB (s:List UInt8):Bool:= !exceptB s&&(decide (1<(sufP s).length)&&(sufP s).head?==some [42])
def restP (s:List UInt8):List (List UInt8):=if starB s then (sufP s).tail else sufP s
def restN (s:List UInt8):Nat:=(bareL s).length-(if starB s then 2 else 0)
def mayL (s:List UInt8):Bool:= !(exceptB s&&decide ((sufP s).length<2))&&(decide (restN s≤253)&& !(restP s).any oddB)
def checkL (l:List (List UInt8)):Bool:=decide (l.length≤1024)&& !l.any fun s=> !mayL s
theorem sufP_ne (s:List UInt8):sufP s≠[]:=partsL_ne 46 _
theorem bareL_le (s:List UInt8):(bareL s).length≤s.length:=by unfold bareL;split<;>simp
theorem sufP_le (s:List UInt8):(∀p∈sufP s,p.length≤s.length)∧(sufP s).length≤s.length+1:=by
 have h:=partsL_le 46 (bareL s);have:=bareL_le s;exact⟨fun p hp=>by have:=h.1 p hp;omega,by unfold sufP;omega⟩
theorem star_bare {s:List UInt8} (h:starB s=true):exceptB s=false∧1<(sufP s).length∧∃l,sufP s=[42]::l∧l≠[]∧s=42::46::joinL 46 l:=by
 unfold starB at h;simp only[Bool.and_eq_true,Bool.not_eq_true',decide_eq_true_eq,beq_iff_eq]at h;obtain⟨h1,h2,h3⟩:=h;refine⟨h1,h2, ?_⟩;obtain⟨p,l,e⟩:=List.exists_cons_of_ne_nil (sufP_ne s);rw[e]at h3 h2;have h3:p=[42]:=by simpa using h3
 subst h3;have hl:l≠[]:=fun e=>by rw[e]at h2;simp at h2
 refine⟨l,e,hl, ?_⟩;have hj:=join_parts 46 (bareL s);have hb:bareL s=s:=by unfold bareL;rw[if_neg (by rw[h1];simp)]
 unfold sufP at e;rw[e,joinL_cons hl,hb]at hj;rw[←hj];rfl
def eqF:List (List UInt8)→List (List UInt8)→Bool
 |[],[]=>true
 |h::H,p::P=>(p==[42]||h==p)&&eqF H P
 |_,_=>false
def fitsL (P host:List (List UInt8)):Bool:=decide (P.length≤host.length)&&eqF (host.drop (host.length-P.length)) P
def manyF:Nat→List (List UInt8)→List (List UInt8)→Nat
 |n,[],_=>n
 |n,r::rs,host=>if fitsL (sufP r) host then (if exceptB r then (sufP r).length-1 else manyF (max n (sufP r).length) rs host)else manyF n rs host
def manyL (rules host:List (List UInt8)):Nat:=manyF 1 rules host
def lastL (l:List (List UInt8)) (n:Nat):List UInt8:=joinL 46 (l.drop (l.length-n))
theorem eqF_iff:∀ {H P:List (List UInt8)},H.length=P.length→(eqF H P=true↔∀(i:Nat) (h:i<H.length) (h2:i<P.length),P[i]=[42]∨H[i]=P[i])
 |[],[],_=>by simp[eqF]
 |[],p::P,h=>by simp at h
 |h::H,[],hh=>by simp at hh
 |h::H,p::P,hh=>by
  have ih:= @eqF_iff H P (by simpa using hh);rw[eqF,Bool.and_eq_true,ih,Bool.or_eq_true,beq_iff_eq,beq_iff_eq];constructor
  ·rintro⟨h1,h2⟩ i hi hi2
   cases i with
   |zero=>exact h1
   |succ i=>exact h2 i (by simpa using hi) (by simpa using hi2)
  ·intro hall
   exact⟨hall 0 (by simp) (by simp),fun i hi hi2=>hall (i+1) (by simpa using hi) (by simpa using hi2)⟩
theorem fits_le {P host:List (List UInt8)} (h:fitsL P host=true):P.length≤host.length:=by
 unfold fitsL at h;simp only[Bool.and_eq_true,decide_eq_true_eq]at h;exact h.1
theorem manyF_le {host:List (List UInt8)}:∀ {rules:List (List UInt8)} {n:Nat},n≤host.length→manyF n rules host≤host.length
 |[],n,h=>h
 |r::rs,n,h=>by
  unfold manyF;split
  ·rename_i hf
   have:=fits_le hf;split
   ·omega
   ·exact manyF_le (by omega)
  ·exact manyF_le h
theorem may_except {s:List UInt8} (h:mayL s=true) (hx:exceptB s=true):2≤(sufP s).length:=by
 unfold mayL at h;simp only[hx,Bool.true_and,Bool.and_eq_true,Bool.not_eq_true',decide_eq_false_iff_not]at h;omega
theorem check_may {l:List (List UInt8)} (h:checkL l=true):l.length≤1024∧∀s∈l,mayL s=true:=by
 unfold checkL at h;simp only[Bool.and_eq_true,decide_eq_true_eq,Bool.not_eq_true',List.any_eq_false]at h;exact⟨h.1,fun s hs=>by simpa using h.2 s hs⟩
theorem manyF_ge {host:List (List UInt8)}:∀ {rules:List (List UInt8)} {n:Nat},1≤n→(∀s∈rules,mayL s=true)→1≤manyF n rules host
 |[],n,h,_=>h
 |r::rs,n,h,hm=>by
  unfold manyF;split
  ·split
   ·rename_i hx
    have:=may_except (hm r List.mem_cons_self) hx;omega
   ·exact manyF_ge (by omega) (fun s hs=>hm s (List.mem_cons_of_mem _ hs))
  ·exact manyF_ge h (fun s hs=>hm s (List.mem_cons_of_mem _ hs))
end Go.Proofs.YtlhcfmcbpljbiaaGreatDoor
