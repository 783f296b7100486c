/- Connections: the places that the laws ask for; the chapter's. -/
import Derived.Test.YtpkoodnbkffpoaaGreatDoorConnTake
import Derived.Test.YtpkoodnbkffpoaaGreatDoorConnOldM
set_option linter.unusedVariables false
set_option linter.unusedSimpArgs false
set_option maxHeartbeats 16000000
namespace Go.Proofs.YtpkoodnbkffpoaaGreatDoor
open Go.RowKit
theorem join_partsC (c:UInt8):∀s:List UInt8,joinL c (partsL c s)=s
 |[]=>rfl
 |x::s=>by
  have ih:=join_partsC c s;by_cases h:x=c
  ·subst h;rw[partsL_hit,joinL_cons (partsL_ne x s),ih];rfl
  ·rw[partsL_miss h]
   cases hh:partsL c s with
   |nil=>exact absurd hh (partsL_ne c s)
   |cons a l=>
    rw[hh]at ih
    cases l with
    |nil=>simp only[List.headD_cons,List.tail_cons];rw[←ih];rfl
    |cons b l=>simp only[List.headD_cons,List.tail_cons];rw[←ih];rfl
def sepBC (s:List UInt8):Bool:= !s.isEmpty&&(plainL s&&(!fewL s&&(lowerL s==s&&decide (s.length≤63))))
theorem valid_plainSC {s:List UInt8} (h:plainL s=true):Lib.validD s=true:=by
 have h1:∀c∈s,c.toNat<128:=by
  unfold plainL at h;rw[List.all_eq_true]at h;exact fun c hc=>by simpa using h c hc
 have:=Lib.validD_ascii s.length s (fun b hb=>h1 b (List.mem_of_mem_take hb));rw[this,List.drop_length];exact Lib.validD_nil
theorem lab_decSC {s:List UInt8} (h0:s≠[]) (hp:plainL s=true) (hl:lowerL s=s) (hf:fewL s=false) (h63:s.length≤63):labelL s=(s,0):=by
 rw[labelL_else h0 (valid_plainSC hp),hl,if_neg (by rw[hp];simp),if_neg (by rw[hf];simp),finL_ok h63]
theorem labs_plainC:∀ {l:List (List UInt8)},l.all sepBC=true→labelsM l=some l
 |[],_=>rfl
 |s::l,h=>by
  simp only[List.all_cons,Bool.and_eq_true]at h;obtain⟨h1,h2⟩:=h;simp only[sepBC,Bool.and_eq_true,Bool.not_eq_true',beq_iff_eq,decide_eq_true_eq]at h1;obtain⟨h0,hp,hf,hl,h63⟩:=h1;rw[labelsM_cons,lab_decSC (fun e=>by rw[e]at h0;cases h0) hp hl hf h63,if_neg (by simp),labs_plainC h2]
def hostBC (s:List UInt8):Bool:=(s.head? !=some 91)&&(!s.contains 37&&(cutLast (partsL 46 s)==partsL 46 s&&((partsL 46 s).all sepBC&&(cleanL s&&(fourT s==some s)))))
theorem host_plainC {s:List UInt8} (h:hostBC s=true):hostL s=some s:=by
 simp only[hostBC,Bool.and_eq_true,Bool.not_eq_true',beq_iff_eq,bne_iff_ne,ne_eq]at h;obtain⟨h0,h37,hc,hl,hcl,hf⟩:=h;have hn:nameL s=some s:=by
  unfold nameL;rw[pctL_plain (fun hm=>by rw[List.contains_iff_mem.2 hm]at h37;cases h37),hc,labs_plainC hl];simp only;rw[join_partsC]
 unfold hostL;rw[if_neg h0,hn];simp only;rw[hcl,if_neg (by simp),hf]
theorem host_ok:∀j,j<20→hostL (hostN (97+j))=some (hostN (97+j)):=by
 have h:∀j:Fin 20,hostBC (hostN (97+j.val))=true:=by decide+kernel
 exact fun j hj=>host_plainC (h ⟨j,hj⟩)
theorem parse_ok (j:Nat) (hj:j<20) (w:World) (hE:EnvH w):∀W,Below w.heap.size w W→Calls Tryz.prog 68 #[.string ⟨(hostN (97+j)).toArray⟩] W fun e W'=>e= .returned (.tuple #[.string ⟨(hostN (97+j)).toArray⟩, .int .i64 0])∧Below W.heap.size W W':=fun W hW=>by
 have h:=hparse_any (hostN (97+j)) W (hE.below hW) (by show 6≤65536;omega);rw[host_ok j hj]at h;exact h
end Go.Proofs.YtpkoodnbkffpoaaGreatDoor
