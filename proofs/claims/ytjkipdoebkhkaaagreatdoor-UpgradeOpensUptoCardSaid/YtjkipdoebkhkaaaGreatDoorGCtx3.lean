/- The chapter's one who asks, plain. -/
import Derived.Test.YtjkipdoebkhkaaaGreatDoorGSu4
import Derived.Lib.SlBytesConst
set_option linter.unusedVariables false
set_option linter.unusedSimpArgs false
set_option maxHeartbeats 16000000
namespace Go.Proofs.YtjkipdoebkhkaaaGreatDoor
def testL:List (List UInt8):=[[116,101,115,116]]
def ca1:UrlL:=atU httpsB [] [97,46,116,101,115,116] (-1) [47] [] false
def ca4:UrlL:=atU httpB [] [97,46,116,101,115,116] (-1) [47] [] false
theorem cg1:GoodU ca1:=at_good (.inr rfl) (by decide) (by decide+kernel) (.inl rfl) path_s (by decide) (by simp) (by decide)
theorem test_check:checkL testL=true:=by decide+kernel
theorem cw2:ownL testL [120,46,97,46,116,101,115,116]=([97,46,116,101,115,116],0):=own_plain test_check (by decide+kernel) (by decide+kernel) (by decide+kernel)
open Go.RowKit
def tokBs:List UInt8:=[33,35,36,37,38,39,42,43,45,46,94,95,96,124,126,48,49,50,51,52,53,54,55,56,57,65,66,67,68,69,70,71,72,73,74,75,76,77,78,79,80,81,82,83,84,85,86,87,88,89,90,97,98,99,100,101,102,103,104,105,106,107,108,109,110,111,112,113,114,115,116,117,118,119,120,121,122]
structure TokRow (A:Array Value) (k:Nat):Prop where
 size:A.size=256
 bits:∀i,i<256→∃b,A[i]?=some (.bool b)
 has:∀j,j<k→∀c,tokBs[j]?=some c→A[c.toNat]?=some (.bool true)
 lacks:∀i,i<256→(∀j,j<k→tokBs[j]?≠some (UInt8.ofNat i))→A[i]?=some (.bool false)
theorem TokRow.one {A:Array Value} {k:Nat} (h:TokRow A k):A.all (·.oneCell')=true:=by
 rw[Array.all_eq_true];intro i hi;obtain⟨b,hb⟩:=h.bits i (by rw[←h.size];exact hi);rw[Array.getElem?_eq_getElem hi]at hb;injection hb with hb;rw[hb];rfl
theorem TokRow.set {A:Array Value} {k:Nat} (h:TokRow A k) {c:UInt8} (hc:tokBs[k]?=some c):TokRow (A.setIfInBounds c.toNat (.bool true)) (k+1):=by
 have hlt:=c.toNat_lt;refine⟨by rw[Array.size_setIfInBounds];exact h.size,fun i hi=> ?_,fun j hj d hd=> ?_,fun i hi hn=> ?_⟩
 ·rw[Array.getElem?_setIfInBounds]
  split
  ·rw[if_pos (by rw[h.size];omega)];exact⟨_,rfl⟩
  ·exact h.bits i hi
 ·rw[Array.getElem?_setIfInBounds]
  split
  ·rw[if_pos (by rw[h.size];omega)]
  ·by_cases e:j=k
   ·subst e
    rw[hc]at hd;injection hd with hd;rename_i hne;exact absurd (by rw[hd]) hne
   ·exact h.has j (by omega) d hd
 ·rw[Array.getElem?_setIfInBounds]
  split
  ·rename_i e
   subst e;exact absurd hc (by simpa using hn k (Nat.lt_succ_self k))
  ·exact h.lacks i hi fun j hj=>hn j (by omega)
theorem TokRow.zero {Z:Array Value} (hZ:Z=Array.replicate 256 (.bool false)):TokRow Z 0:=by
 subst hZ;exact⟨by simp,fun i hi=>⟨false,by simp[hi]⟩,fun j hj=>absurd hj (by omega),fun i hi _=>by simp[hi]⟩
def tokB (c:UInt8):Bool:=decide (c∈tokBs)
theorem TokRow.cell {A:Array Value} (h:TokRow A 77) (c:UInt8):A[c.toNat]?=some (.bool (tokB c)):=by
 unfold tokB;by_cases hc:c∈tokBs
 ·obtain⟨j,hj,hg⟩:=List.mem_iff_getElem.1 hc
  rw[decide_eq_true hc];exact h.has j hj c (by rw[List.getElem?_eq_getElem hj,hg])
 ·rw[decide_eq_false hc]
  refine h.lacks _ c.toNat_lt fun j hj e=>hc ?_
  have:UInt8.ofNat c.toNat=c:=by simp
  rw[this]at e;exact List.mem_of_getElem? e
def askC (k:Int) (f t:UrlL) (m:List UInt8):Array Value:= #[.int .u8 k, .string ⟨f.scheme.toArray⟩, .string ⟨f.user.toArray⟩, .string ⟨f.pass.toArray⟩, .string ⟨f.host.toArray⟩, .int .i64 f.port, .string ⟨f.path.toArray⟩, .string ⟨f.query.toArray⟩, .bool f.hasQ, .string ⟨f.mark.toArray⟩, .bool f.hasM, .string ⟨t.scheme.toArray⟩, .string ⟨t.user.toArray⟩, .string ⟨t.pass.toArray⟩, .string ⟨t.host.toArray⟩, .int .i64 t.port, .string ⟨t.path.toArray⟩, .string ⟨t.query.toArray⟩, .bool t.hasQ, .string ⟨t.mark.toArray⟩, .bool t.hasM, .string ⟨m.toArray⟩]
end Go.Proofs.YtjkipdoebkhkaaaGreatDoor
