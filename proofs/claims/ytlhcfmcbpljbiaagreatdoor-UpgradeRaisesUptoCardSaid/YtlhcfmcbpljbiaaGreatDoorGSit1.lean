/- Some suffixes that the document fixes, plain. -/
import Derived.Test.YtlhcfmcbpljbiaaGreatDoorGSu4
import Derived.Test.YtlhcfmcbpljbiaaGreatDoorGUrl2
set_option linter.unusedVariables false
set_option linter.unusedSimpArgs false
set_option maxHeartbeats 16000000
namespace Go.Proofs.YtlhcfmcbpljbiaaGreatDoor
def sepB (s:List UInt8):Bool:= !s.isEmpty&&(plainL s&&(!fewL s&&(lowerL s==s&&decide (s.length≤63))))
theorem valid_plainS {s:List UInt8} (h:plainL s=true):Lib.validD s=true:=by
 have h1:∀c∈s,c.toNat<128:=by
  unfold plainL at h;rw[List.all_eq_true]at h;exact fun c hc=>by simpa using h c hc
 have:=Lib.validD_ascii s.length s (fun b hb=>h1 b (List.mem_of_mem_take hb));rw[this,List.drop_length];exact Lib.validD_nil
theorem lab_decS {s:List UInt8} (h0:s≠[]) (hp:plainL s=true) (hl:lowerL s=s) (hf:fewL s=false) (h63:s.length≤63):labelL s=(s,0):=by
 rw[labelL_else h0 (valid_plainS hp),hl,if_neg (by rw[hp];simp),if_neg (by rw[hf];simp),finL_ok h63]
theorem labs_plain:∀ {l:List (List UInt8)},l.all sepB=true→labelsM l=some l
 |[],_=>rfl
 |s::l,h=>by
  simp only[List.all_cons,Bool.and_eq_true]at h;obtain⟨h1,h2⟩:=h;simp only[sepB,Bool.and_eq_true,Bool.not_eq_true',beq_iff_eq,decide_eq_true_eq]at h1;obtain⟨h0,hp,hf,hl,h63⟩:=h1;rw[labelsM_cons,lab_decS (fun e=>by rw[e]at h0;cases h0) hp hl hf h63,if_neg (by simp),labs_plain h2]
def hostB (s:List UInt8):Bool:=(s.head? !=some 91)&&(!s.contains 37&&(cutLast (partsL 46 s)==partsL 46 s&&((partsL 46 s).all sepB&&(cleanL s&&(fourT s==some s)))))
theorem host_plain {s:List UInt8} (h:hostB s=true):hostL s=some s:=by
 simp only[hostB,Bool.and_eq_true,Bool.not_eq_true',beq_iff_eq,bne_iff_ne,ne_eq]at h;obtain⟨h0,h37,hc,hl,hcl,hf⟩:=h;have hn:nameL s=some s:=by
  unfold nameL;rw[pctL_plain (fun hm=>by rw[List.contains_iff_mem.2 hm]at h37;cases h37),hc,labs_plain hl];simp only;rw[join_parts]
 unfold hostL;rw[if_neg h0,hn];simp only;rw[hcl,if_neg (by simp),hf]
theorem wrong_plain {L:List (List UInt8)} {s:List UInt8} (hc:checkL L=true) (h:hostB s=true) (hm:machineL s=false):wrongL L s=0:=by
 unfold wrongL;rw[hc,if_neg (by simp),if_pos ⟨host_plain h,hm⟩]
theorem own_plain {L:List (List UInt8)} {s e:List UInt8} (hc:checkL L=true) (h:hostB s=true) (hm:machineL s=false) (hs:(if (partsL 46 s).length<manyL L (partsL 46 s)+1 then ([],0)else (lastL (partsL 46 s) (manyL L (partsL 46 s)+1),0))=(e,0)):ownL L s=(e,0):=by
 unfold ownL;rw[if_pos (wrong_plain hc h hm),hs]
def siteL (L:List (List UInt8)) (h:List UInt8):Bool×List UInt8:=if (ownL L h).2=0∧(ownL L h).1≠[]then (true,(ownL L h).1)else (false,h)
def sameL (L:List (List UInt8)) (a b:UrlL):Bool:=checkL L&&(checkU a&&(checkU b&&((a.scheme==b.scheme)&&(if (siteL L a.host).1 then (siteL L b.host).1&&(siteL L a.host).2==(siteL L b.host).2 else (siteL L a.host).2==b.host))))
theorem site_alone {L:List (List UInt8)} {h:List UInt8} (k:(siteL L h).1=false):(siteL L h).2=h:=by
 unfold siteL at k⊢;split at k
 ·cases k
 ·rename_i hn;rw[if_neg hn]
theorem same_site (L:List (List UInt8)) (g h:List UInt8):(if (siteL L g).1 then (siteL L h).1&&(siteL L g).2==(siteL L h).2 else (siteL L g).2==h)=true↔siteL L g=siteL L h:=by
 cases hg:(siteL L g).1 with
 |true=>
  rw[if_pos rfl,Bool.and_eq_true,beq_iff_eq];exact⟨fun h=>Prod.ext (hg.trans h.1.symm) h.2,fun e=>by rw[←e];exact⟨hg,rfl⟩⟩
 |false=>
  rw[if_neg (by simp),beq_iff_eq,site_alone hg];refine⟨fun e=>by rw[e],fun e=> ?_⟩;have h1:(siteL L h).1=false:=by rw[←e];exact hg
  rw[←site_alone hg,←site_alone h1,e]
theorem same_iff {L:List (List UInt8)} {a b:UrlL}:sameL L a b=true↔checkL L=true∧checkU a=true∧checkU b=true∧a.scheme=b.scheme∧siteL L a.host=siteL L b.host:=by
 unfold sameL;rw[Bool.and_eq_true,Bool.and_eq_true,Bool.and_eq_true,Bool.and_eq_true,same_site,beq_iff_eq]
theorem check_host {u:UrlL} (h:checkU u=true):u.host.length≤1000:=by have:=(check_good h).hlen;omega
def atU (sch usr host:List UInt8) (p:Int) (path qry:List UInt8) (hq:Bool):UrlL:=⟨sch,usr,[],host,p,path,qry,hq,[],false⟩
theorem at_good {sch usr host path qry:List UInt8} {p:Int} {hq:Bool} (h1:sch=httpB∨sch=httpsB) (h2:∀c∈usr,encB 5 c=false) (h3:hostB host=true) (h4:PortU p sch) (h5:PathU path) (h6:∀c∈qry,encB 3 c=false) (h7:hq=false→qry=[])
 (h8:usr.length+host.length+path.length+qry.length≤1000):GoodU (atU sch usr host p path qry hq):=by
 have ht:=text_sum (atU sch usr host p path qry hq)
 have hs:sch.length≤5:=by rcases h1 with e|e<;>rw[e]<;>decide
 refine⟨h1,h2,(by simp[atU]),host_u (by simp only[atU];omega) (host_plain h3),h4,h5,h6,h7,(by simp[atU]),(by simp[atU]), ?_⟩
 simp only[atU,List.length_nil]at ht⊢
 omega
theorem path_s:PathU [47]:=pathL_good (l:=[]) (by simp) []
theorem site_of {L:List (List UInt8)} {h x:List UInt8} (e:ownL L h=(x,0)) (hx:x≠[]):siteL L h=(true,x):=by
 unfold siteL;rw[e,if_pos ⟨rfl,hx⟩]
end Go.Proofs.YtlhcfmcbpljbiaaGreatDoor
