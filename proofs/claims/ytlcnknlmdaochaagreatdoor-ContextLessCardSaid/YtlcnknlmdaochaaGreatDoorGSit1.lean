/- Some suffixes that the document fixes, plain. -/
import Derived.Test.YtlcnknlmdaochaaGreatDoorGSu4
import Derived.Test.YtlcnknlmdaochaaGreatDoorGUrl2
import Derived.Test.YtlcnknlmdaochaaGreatDoorGUrlT
set_option linter.unusedVariables false
set_option linter.unusedSimpArgs false
set_option maxHeartbeats 16000000
namespace Go.Proofs.YtlcnknlmdaochaaGreatDoor
def sepB (s:List UInt8):Bool:= !s.isEmpty&&(plainL s&&(!fewL s&&(lowerL s==s&&decide (s.length≤63))))
theorem valid_plainS {s:List UInt8} (h:plainL s=true):Lib.validD s=true:=by
 have h1:∀c∈s,c.toNat<128:=by
  unfold plainL at h;rw[List.all_eq_true]at h;exact fun c hc=>by simpa using h c hc
 have:=Lib.validD_ascii s.length s (fun b hb=>h1 b (List.mem_of_mem_take hb));rw[this,List.drop_length];exact Lib.validD_nil
theorem lab_decS {s:List UInt8} (h0:s≠[]) (hp:plainL s=true) (hl:lowerL s=s) (hf:fewL s=false) (h63:s.length≤63):labelL s=(s,0):=by
 rw[labelL_else h0 (valid_plainS hp),hl,if_neg (by rw[hp];simp),if_neg (by rw[hf];simp),finL_ok h63]
theorem labs_plain:∀ {l:List (List UInt8)},l.all sepB=true→labelsM l=some l
 |[],_=>rfl
 |s::l,h=>by
  simp only[List.all_cons,Bool.and_eq_true]at h;obtain⟨h1,h2⟩:=h;simp only[sepB,Bool.and_eq_true,Bool.not_eq_true',beq_iff_eq,decide_eq_true_eq]at h1;obtain⟨h0,hp,hf,hl,h63⟩:=h1;rw[labelsM_cons,lab_decS (fun e=>by rw[e]at h0;cases h0) hp hl hf h63,if_neg (by simp),labs_plain h2]
def hostB (s:List UInt8):Bool:=(s.head? !=some 91)&&(!s.contains 37&&(cutLast (partsL 46 s)==partsL 46 s&&((partsL 46 s).all sepB&&(cleanL s&&(fourT s==some s)))))
theorem host_plain {s:List UInt8} (h:hostB s=true):hostL s=some s:=by
 simp only[hostB,Bool.and_eq_true,Bool.not_eq_true',beq_iff_eq,bne_iff_ne,ne_eq]at h;obtain⟨h0,h37,hc,hl,hcl,hf⟩:=h;have hn:nameL s=some s:=by
  unfold nameL;rw[pctL_plain (fun hm=>by rw[List.contains_iff_mem.2 hm]at h37;cases h37),hc,labs_plain hl];simp only;rw[join_parts]
 unfold hostL;rw[if_neg h0,hn];simp only;rw[hcl,if_neg (by simp),hf]
theorem wrong_plain {L:List (List UInt8)} {s:List UInt8} (hc:checkL L=true) (h:hostB s=true) (hm:machineL s=false):wrongL L s=0:=by
 unfold wrongL;rw[hc,if_neg (by simp),if_pos ⟨host_plain h,hm⟩]
theorem own_plain {L:List (List UInt8)} {s e:List UInt8} (hc:checkL L=true) (h:hostB s=true) (hm:machineL s=false) (hs:(if (partsL 46 s).length<manyL L (partsL 46 s)+1 then ([],0)else (lastL (partsL 46 s) (manyL L (partsL 46 s)+1),0))=(e,0)):ownL L s=(e,0):=by
 unfold ownL;rw[if_pos (wrong_plain hc h hm),hs]
def siteL (L:List (List UInt8)) (h:List UInt8):Bool×List UInt8:=if (ownL L h).2=0∧(ownL L h).1≠[]then (true,(ownL L h).1)else (false,h)
def sameL (L:List (List UInt8)) (a b:UrlL):Bool:=checkL L&&(checkU a&&(checkU b&&((a.scheme==b.scheme)&&(if (siteL L a.host).1 then (siteL L b.host).1&&(siteL L a.host).2==(siteL L b.host).2 else (siteL L a.host).2==b.host))))
theorem site_alone {L:List (List UInt8)} {h:List UInt8} (k:(siteL L h).1=false):(siteL L h).2=h:=by
 unfold siteL at k⊢;split at k
 ·cases k
 ·rename_i hn;rw[if_neg hn]
theorem same_site (L:List (List UInt8)) (g h:List UInt8):(if (siteL L g).1 then (siteL L h).1&&(siteL L g).2==(siteL L h).2 else (siteL L g).2==h)=true↔siteL L g=siteL L h:=by
 cases hg:(siteL L g).1 with
 |true=>
  rw[if_pos rfl,Bool.and_eq_true,beq_iff_eq];exact⟨fun h=>Prod.ext (hg.trans h.1.symm) h.2,fun e=>by rw[←e];exact⟨hg,rfl⟩⟩
 |false=>
  rw[if_neg (by simp),beq_iff_eq,site_alone hg];refine⟨fun e=>by rw[e],fun e=> ?_⟩;have h1:(siteL L h).1=false:=by rw[←e];exact hg
  rw[←site_alone hg,←site_alone h1,e]
theorem same_iff {L:List (List UInt8)} {a b:UrlL}:sameL L a b=true↔checkL L=true∧checkU a=true∧checkU b=true∧a.scheme=b.scheme∧siteL L a.host=siteL L b.host:=by
 unfold sameL;rw[Bool.and_eq_true,Bool.and_eq_true,Bool.and_eq_true,Bool.and_eq_true,same_site,beq_iff_eq]
def ofU (s:List UInt8):UrlL:=match parseU s zeroU false with| .ok u=>u| .error _=>zeroU
theorem zero_check:checkU zeroU=false:=by kernel_rfl
theorem of_size (s:List UInt8):sizeU (ofU s)≤4096∧(ofU s).port≤65535:=by
 unfold ofU
 cases h:parseU s zeroU false with
 |error n=>exact⟨by simp[sizeU,zeroU],by simp[zeroU]⟩
 |ok u=>
  have hg:=good_parse h;exact⟨by have:=hg.sizes;unfold sizeU;simpa using this,by have:=(portU_le hg.port (s:=[])).2;simpa using this⟩
theorem check_host {u:UrlL} (h:checkU u=true):u.host.length≤1000:=by have:=(check_good h).hlen;omega
def nullB:List UInt8:=[110,117,108,108]
def originL (u:UrlL):List UInt8:=if checkU u=true then u.scheme++58::47::47::(u.host++portT u)else nullB
theorem origin_no {u:UrlL} (h:checkU u=false):originL u=nullB:=by unfold originL;rw[h,if_neg (by simp)]
theorem origin_yes {u:UrlL} (h:checkU u=true):originL u=u.scheme++58::47::47::(u.host++portT u):=by unfold originL;rw[h,if_pos rfl]
theorem same_no {L:List (List UInt8)} {a b:UrlL} (h:checkU a=false):sameL L a b=false:=by
 unfold sameL;rw[h];simp
theorem port_inj {u w:UrlL} (h1:PortU u.port u.scheme) (n:Nat) (hn:n≤65535) (hw:w.port=(n:Int)):portT u=portT w↔u.port=w.port:=by
 refine⟨fun e=> ?_,fun e=>by unfold portT;rw[e]⟩;have e2:portT w=58::decP n:=by unfold portT;rw[hw,if_pos (by omega),Int.toNat_natCast]
 rw[e2]at e;unfold portT at e;rcases h1 with h1|⟨m,h1,h2,_⟩
 ·rw[h1,if_neg (by omega)]at e;cases e
 ·rw[h1,if_pos (by omega),Int.toNat_natCast]at e
  injection e with _ e;have h3:=(decP_back h2).1;have h4:=(decP_back hn).1;rw[h1,hw,←h3,←h4,e]
def elseU (u:UrlL):UrlL:= {u with user:=[117],pass:=[112],path:=[47,120],query:=[113],hasQ:=true,mark:=[109],hasM:=true}
theorem path_x:PathU [47,120]:=pathL_good (l:=[]) (by simp) [120]
theorem else_good {u:UrlL} (h:GoodU u):GoodU (elseU u):=by
 have hl:=h.hlen;have ht:=text_sum (elseU u);exact⟨h.sch,show ∀c∈[(117:UInt8)],encB 5 c=false by decide,show ∀c∈[(112:UInt8)],encB 5 c=false by decide,h.host,h.port,path_x,show ∀c∈[(113:UInt8)],encB 3 c=false by decide,by simp[elseU],show ∀c∈[(109:UInt8)],encB 2 c=false by decide,by simp[elseU],by simp only[elseU,List.length_cons,List.length_nil]at ht⊢;omega⟩
def portedU (u:UrlL) (n:Nat):UrlL:= {u with port:=(n:Int)}
theorem ported_no {u:UrlL} {n:Nat} (hn:n=ownP u.scheme):checkU (portedU u n)=false:=by
 rw[Bool.eq_false_iff];intro h;rcases(check_good h).port with e|⟨m,e,_,hm⟩
 ·simp only[portedU]at e;omega
 ·simp only[portedU]at e hm;omega
theorem ported_good {s:List UInt8} {u:UrlL} (hs:s.length≤1000) (h:parseU s zeroU false= .ok u) {n:Nat} (h5:n≤65535) (hn:n≠ownP u.scheme):GoodU (portedU u n):=by
 have hg:=good_parse h;have hl:=hg.hlen;have ha:=alone_len hs (parse_alone h);have ht:=text_sum (portedU u n);exact⟨hg.sch,hg.user,hg.pass,hg.host, .inr ⟨n,rfl,h5,hn⟩,hg.path,hg.query,hg.noQ,hg.mark,hg.noM,by simp only[portedU]at ht⊢;omega⟩
theorem nil_check:checkL []=true:=by decide
theorem same_nil {a b:UrlL} (ha:checkU a=true) (hb:checkU b=true) (hs:a.scheme=b.scheme) (hh:a.host=b.host):sameL [] a b=true:=same_iff.2 ⟨nil_check,ha,hb,hs,by rw[hh]⟩
theorem origin_eq {u w:UrlL} (hu:checkU u=true) (hw:checkU w=true) (hs:u.scheme=w.scheme) (hh:u.host=w.host) (n:Nat) (hn:n≤65535) (hp:w.port=(n:Int)):(originL u==originL w)=(u.port==(n:Int)):=by
 rw[Bool.eq_iff_iff,beq_iff_eq,beq_iff_eq,origin_yes hu,origin_yes hw,hs,hh];rw[List.append_cancel_left_eq];simp only[List.cons.injEq,true_and,List.append_cancel_left_eq];rw[port_inj (check_good hu).port n hn hp,hp]
def domL (a b:List UInt8):Bool:= !b.isEmpty&&belowL a b
def comL:List (List UInt8):=[[99,111,109]]
theorem com_check:checkL comL=true:=by decide+kernel
def atU (sch usr host:List UInt8) (p:Int) (path qry:List UInt8) (hq:Bool):UrlL:=⟨sch,usr,[],host,p,path,qry,hq,[],false⟩
theorem at_good {sch usr host path qry:List UInt8} {p:Int} {hq:Bool} (h1:sch=httpB∨sch=httpsB) (h2:∀c∈usr,encB 5 c=false) (h3:hostB host=true) (h4:PortU p sch) (h5:PathU path) (h6:∀c∈qry,encB 3 c=false) (h7:hq=false→qry=[])
 (h8:usr.length+host.length+path.length+qry.length≤1000):GoodU (atU sch usr host p path qry hq):=by
 have ht:=text_sum (atU sch usr host p path qry hq)
 have hs:sch.length≤5:=by rcases h1 with e|e<;>rw[e]<;>decide
 refine⟨h1,h2,(by simp[atU]),host_u (by simp only[atU];omega) (host_plain h3),h4,h5,h6,h7,(by simp[atU]),(by simp[atU]), ?_⟩
 simp only[atU,List.length_nil]at ht⊢
 omega
theorem path_s:PathU [47]:=pathL_good (l:=[]) (by simp) []
theorem path_p:PathU [47,112]:=pathL_good (l:=[]) (by simp) [112]
def sa1:UrlL:=atU httpsB [] [97,46,120,46,99,111,109] (-1) [47] [] false
def sa2:UrlL:=atU httpsB [] [120,46,99,111,109] 8 [47] [] false
def sa3:UrlL:=atU httpB [] [120,46,99,111,109] (-1) [47] [] false
def sa4:UrlL:=atU httpB [] [121,46,99,111,109] (-1) [47] [] false
def sa5:UrlL:=atU httpsB [117] [104] 8 [47,112] [113] true
theorem sg1:GoodU sa1:=at_good (.inr rfl) (by decide) (by decide+kernel) (.inl rfl) path_s (by decide) (by simp) (by decide)
theorem sg2:GoodU sa2:=at_good (.inr rfl) (by decide) (by decide+kernel) (.inr ⟨8,rfl,by omega,by decide⟩) path_s (by decide) (by simp) (by decide)
theorem sg3:GoodU sa3:=at_good (.inl rfl) (by decide) (by decide+kernel) (.inl rfl) path_s (by decide) (by simp) (by decide)
theorem sg4:GoodU sa4:=at_good (.inl rfl) (by decide) (by decide+kernel) (.inl rfl) path_s (by decide) (by simp) (by decide)
theorem sg5:GoodU sa5:=at_good (.inr rfl) (by decide) (by decide+kernel) (.inr ⟨8,rfl,by omega,by decide⟩) path_p (by decide) (by simp) (by decide)
theorem of_good {u:UrlL} (h:GoodU u) {s:List UInt8} (hs:textU u=s):ofU s=u:=by
 unfold ofU;rw[←hs,parse_back h (by simp)]
theorem so1:ofU [104,116,116,112,115,58,47,47,97,46,120,46,99,111,109,47]=sa1:=of_good sg1 (by decide+kernel)
theorem so2:ofU [104,116,116,112,115,58,47,47,120,46,99,111,109,58,56,47]=sa2:=of_good sg2 (by decide+kernel)
theorem so3:ofU [104,116,116,112,58,47,47,120,46,99,111,109,47]=sa3:=of_good sg3 (by decide+kernel)
theorem so4:ofU [104,116,116,112,58,47,47,121,46,99,111,109,47]=sa4:=of_good sg4 (by decide+kernel)
theorem so5:ofU [104,116,116,112,115,58,47,47,117,64,104,58,56,47,112,63,113]=sa5:=of_good sg5 (by decide+kernel)
theorem sw1:ownL comL [97,46,120,46,99,111,109]=([120,46,99,111,109],0):=own_plain com_check (by decide+kernel) (by decide+kernel) (by decide+kernel)
theorem sw2:ownL comL [120,46,99,111,109]=([120,46,99,111,109],0):=own_plain com_check (by decide+kernel) (by decide+kernel) (by decide+kernel)
theorem sw3:ownL comL [121,46,99,111,109]=([121,46,99,111,109],0):=own_plain com_check (by decide+kernel) (by decide+kernel) (by decide+kernel)
theorem site_of {L:List (List UInt8)} {h x:List UInt8} (e:ownL L h=(x,0)) (hx:x≠[]):siteL L h=(true,x):=by
 unfold siteL;rw[e,if_pos ⟨rfl,hx⟩]
theorem ss1:sameL comL sa1 sa2=true:=same_iff.2 ⟨com_check,check_iff.2 sg1,check_iff.2 sg2,rfl,(site_of sw1 (by simp)).trans (site_of sw2 (by simp)).symm⟩
theorem ss2:sameL comL sa3 sa4=false:=by
 rw[Bool.eq_false_iff];intro h;have:=(same_iff.1 h).2.2.2.2;rw[show sa3.host=[120,46,99,111,109]from rfl,show sa4.host=[121,46,99,111,109]from rfl,site_of sw2 (by simp),site_of sw3 (by simp)]at this;exact absurd this (by decide)
theorem sr1:originL sa5=[104,116,116,112,115,58,47,47,104,58,56]:=by rw[origin_yes (check_iff.2 sg5)];decide+kernel
theorem sr2:originL zeroU=nullB:=origin_no zero_check
theorem sd1:domL [97,46,98,46,99] [98,46,99]=true:=by decide+kernel
theorem sd2:domL [49,46,50,46,51,46,52] [51,46,52]=false:=by decide+kernel
def matL (s c:List UInt8):Bool:=
 c.isPrefixOf s&&(decide (s.length≤c.length)||Lib.hasSuffix c [47]||(s[c.length]?.getD 0).toNat==47)
theorem isEmpty_drop (s:List UInt8) (k:Nat):(s.drop k).isEmpty=decide (s.length≤k):=by
 rw[Bool.eq_iff_iff];simp[List.drop_eq_nil_iff]
theorem suffix_one (c:List UInt8):Lib.hasSuffix c [47]=(decide (0<c.length)&&(c[c.length-1]?.getD 0).toNat==47):=by
 rw[←Lib.hasSuffix_of_drop];by_cases h:0<c.length
 ·have e:c.drop (c.length - [(47:UInt8)].length)=[c[c.length-1]]:=by
   rw[List.length_singleton,List.drop_eq_getElem_cons (by omega),List.drop_eq_nil_of_le (by omega)]
  rw[e,List.length_singleton,List.getElem?_eq_getElem (by omega),Option.getD_some];rw[show decide (1≤c.length)=true from decide_eq_true h,decide_eq_true h,Bool.true_and,Bool.true_and,Bool.eq_iff_iff];simp[←UInt8.toNat_inj]
 ·have:c=[]:=List.length_eq_zero_iff.1 (by omega)
  subst this;decide
def usualL (s:List UInt8):List UInt8:=
 if 0<lastAt s 47 s.length∧(s[0]?.getD 0).toNat=47 then s.take (lastAt s 47 s.length).toNat else [47]
theorem lastAt_hit (s:List UInt8):∀(k i:Nat),lastAt s 47 k=(i:Int)→(s.getD i 0).toNat=47
 |0,i,h=>by unfold lastAt at h;omega
 |k+1,i,h=>by
  unfold lastAt at h;split at h
  ·rename_i hc
   have:k=i:=by omega
   rw[←this];exact hc
  ·exact lastAt_hit s k i h
theorem usual_good (s:List UInt8):(∃r,usualL s=47::r)∧(usualL s).length≤max s.length 1:=by
 unfold usualL;split
 ·rename_i h
  obtain⟨h1,h2⟩:=h;have hl:=lastAt_lt s 47 s.length
  cases s with
  |nil=>simp[lastAt]at h1
  |cons x r=>
   have hx:x=47:=by
    rw[←UInt8.toNat_inj];simpa using h2
   obtain⟨n,hn⟩:∃n:Nat,(lastAt (x::r) 47 (x::r).length).toNat=n+1:=⟨(lastAt (x::r) 47 (x::r).length).toNat-1,by omega⟩;rw[hn,List.take_succ_cons,hx];refine⟨⟨_,rfl⟩, ?_⟩;simp only[List.length_cons,List.length_take];omega
 ·exact⟨⟨[],rfl⟩,by simp;omega⟩
theorem mat_slash {s c:List UInt8} (h:c.isPrefixOf s=true) (hs:(s[c.length]?.getD 0).toNat=47):matL s c=true:=by
 unfold matL;rw[h,hs];simp
theorem mat_self (s:List UInt8):matL s s=true:=by
 unfold matL;rw[show s.isPrefixOf s=true by simp];simp
theorem usual_mat {s:List UInt8} (h0:(s[0]?.getD 0).toNat=47):matL s (usualL s)=true∧matL s [47]=true:=by
 have h47:matL s [47]=true:=by
  cases s with
  |nil=>simp at h0
  |cons x r=>
   have hx:x=47:=by rw[←UInt8.toNat_inj];simpa using h0
   unfold matL;rw[show([47]:List UInt8).isPrefixOf (x::r)=true by rw[hx];simp,show Lib.hasSuffix [47] [47]=true by decide];simp
 refine⟨?_,h47⟩;unfold usualL;split
 ·rename_i h
  have hl:=lastAt_lt s 47 s.length;obtain⟨n,hn⟩:∃n:Nat,lastAt s 47 s.length=(n:Int):=⟨(lastAt s 47 s.length).toNat,by omega⟩;have hc:=lastAt_hit s _ n hn;rw[hn,Int.toNat_natCast];have hlen:(s.take n).length=n:=by rw[List.length_take];omega
  refine mat_slash ?_ ?_
  ·rw[List.isPrefixOf_iff_prefix];exact List.take_prefix n s
  ·rw[hlen];simpa using hc
 ·exact h47
theorem mat_three {a b c:List UInt8} (h1:matL a b=true) (h2:matL b c=true):matL a c=true:=by
 unfold matL at h1 h2⊢;simp only[Bool.and_eq_true,Bool.or_eq_true,decide_eq_true_eq,beq_iff_eq]at h1 h2⊢;obtain⟨p1,q1⟩:=h1;obtain⟨p2,q2⟩:=h2;rw[List.isPrefixOf_iff_prefix]at p1 p2⊢;refine⟨p2.trans p1, ?_⟩;rcases q2 with (q2|q2)|q2
 ·have:c=b:=p2.eq_of_length_le q2
  subst this;exact q1
 ·exact .inl (.inr q2)
 ·obtain⟨r,rfl⟩:=p1
  obtain⟨t,rfl⟩:=p2
  cases t with
  |nil=>simp at q2
  |cons x t=>exact .inr (by simpa[List.getElem?_append]using q2)
theorem mat_behind (p m:List UInt8):matL (p++47::m) p=true∧matL (p++47::m) (p++[47])=true:=by
 refine⟨mat_slash (by rw[List.isPrefixOf_iff_prefix];exact List.prefix_append _ _) (by simp), ?_⟩;unfold matL;have e:(p++[47]).isPrefixOf (p++47::m)=true:=List.isPrefixOf_iff_prefix.2 ⟨m,by simp⟩;rw[e,suffix_one];simp
theorem mat_all (p m:List UInt8):matL (p++m) p=(m.isEmpty||((decide (0<p.length)&&(p[p.length-1]?.getD 0).toNat==47)||(m[0]?.getD 0).toNat==47)):=by
 unfold matL;rw[show p.isPrefixOf (p++m)=true by rw[List.isPrefixOf_iff_prefix];exact List.prefix_append _ _,suffix_one]
 cases m with
 |nil=>simp
 |cons x m=>
  rw[show decide ((p++x::m).length≤p.length)=false by simp];simp
theorem mat_short {p:List UInt8} (h:0<p.length):matL (p.take (p.length-1)) p=false:=by
 unfold matL;rw[show p.isPrefixOf (p.take (p.length-1))=false by
  rw[Bool.eq_false_iff];intro e;rw[List.isPrefixOf_iff_prefix]at e;have:=e.length_le;rw[List.length_take]at this;omega]
 rfl
end Go.Proofs.YtlcnknlmdaochaaGreatDoor
