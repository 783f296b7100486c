/- The walks of hosts.Machine, hosts.Below and the reference's. -/
import Derived.Test.YtjkipdoebkhkaaaGreatDoorLabel
import Derived.Test.YtjkipdoebkhkaaaGreatDoorGShow
import Derived.Test.YtjkipdoebkhkaaaGreatDoorGText
set_option linter.unusedVariables false
set_option linter.unusedSimpArgs false
set_option maxHeartbeats 16000000
namespace Go.Proofs.YtjkipdoebkhkaaaGreatDoor
open Go.RowKit
def brL (s:List UInt8):Bool:=Lib.hasPrefix s [91]
def machineL (s:List UInt8):Bool:=brL s||((fourL s).1&&decide ((fourL s).2.1=0))
theorem brL_cons (c:UInt8) (s:List UInt8):brL (c::s)=decide (c.toNat=91):=by
 unfold brL Lib.hasPrefix;rw[Bool.eq_iff_iff];simp only[List.isPrefixOf,Bool.and_true,decide_eq_true_eq,beq_iff_eq];constructor
 ·intro h;rw[←h];rfl
 ·intro h;exact(UInt8.toNat_inj.1 (by rw[h];rfl))
theorem fourV_mk (r:Bool×Nat×Nat):fourV r= .tuple #[addrV r.2.2, .bool r.1, .int .i64 (r.2.1:Int)]:=rfl
theorem below_row {B g:Nat} {a w:World} (h:Below B a w) (hg:B≤g) (cs:Array Value):Below B a (w.setRow g cs):=by
 refine h.trans ⟨rfl,rfl,rfl, ?_,fun k hk=>setRow_other w g k cs (by omega)⟩;simp[World.setRow]
def labelsL (s:List UInt8):List (List UInt8):=if s=[]then []else if machineL s then [s]else partsL 46 s
structure EnvT (w:World):Prop where
 env:Env w
 tabs:Lib.Utf8Tabs (validRen.g 3) (validRen.g 4) w
theorem EnvT.below {w w':World} (h:EnvT w) (hb:Below w.heap.size w w'):EnvT w':=⟨h.env.below hb,Utf8Tabs_below h.tabs hb⟩
theorem labelsM_snoc {Q done:List (List UInt8)} {k:Nat} (hk:k<Q.length) (H:labelsM Q=match labelsM (Q.drop k)with|none=>none|some r=>some (done++r)) (h0:(labelL Q[k]).2=0):
 labelsM Q=match labelsM (Q.drop (k+1))with|none=>none|some r=>some ((done++[(labelL Q[k]).1])++r):=by
 rw[H,List.drop_eq_getElem_cons hk,labelsM_cons,if_neg (by omega)]
 cases labelsM (Q.drop (k+1))with
 |none=>rfl
 |some r=>simp
theorem labelsM_stop {Q done:List (List UInt8)} {k:Nat} (hk:k<Q.length) (H:labelsM Q=match labelsM (Q.drop k)with|none=>none|some r=>some (done++r)) (h0:(labelL Q[k]).2≠0):labelsM Q=none:=by
 rw[H,List.drop_eq_getElem_cons hk,labelsM_cons,if_pos h0]
theorem labelL_le {s:List UInt8}:(labelL s).1.length≤63:=by
 by_cases h:(labelL s).2=0
 ·obtain⟨_,_,h⟩:=labelL_zero h
  rcases h with ⟨_,_,h,hl⟩|⟨_,_,_,_,_,h,hl⟩|⟨_,_,h,hl⟩
  ·rw[h];exact hl
  ·rw[h];simpa[lowerL]using hl
  ·rw[h];simpa[lowerL]using hl
 ·rw[labelL_err h];simp
theorem strs_turn {done rest:List (List UInt8)} {q y:List UInt8}:(strs (done++q::rest)).toArray.setIfInBounds done.length (.string ⟨y.toArray⟩)=(strs (done++[y]++rest)).toArray:=by
 rw[List.setIfInBounds_toArray];congr 1;simp[strs]
structure LabsMem (w0:World) (g:Nat) (P Q done:List (List UInt8)) (k:Nat) (wr:World):Prop where
 row:Blk wr g 9 (strs (done++P.drop k)).toArray
 len:done.length=k
 few:∀p∈done,p.length≤63
 low:Below w0.heap.size w0 wr
 hg:w0.heap.size≤g
theorem LabsMem.at_ {w0 wr:World} {g k:Nat} {P Q done:List (List UInt8)} (h:LabsMem w0 g P Q done k wr) (HP:Q=P.take Q.length) (hk:k<Q.length):wr.cell? ⟨g,k,none⟩=some (.string ⟨(Q[k]).toArray⟩):=by
 have hkP:k<P.length:=by
  have:Q.length≤P.length:=by rw[HP,List.length_take];omega
  omega
 have e:Q[k]=P[k]:=by
  have:Q[k]?=P[k]?:=by rw[HP,List.getElem?_take,if_pos (by omega)]
  rw[List.getElem?_eq_getElem hk,List.getElem?_eq_getElem hkP]at this;exact Option.some.inj this
 rw[h.row.cell k,List.getElem?_toArray,strs_get (by rw[List.length_append,List.length_drop,h.len];omega),e];congr 3;rw[List.getElem_append_right (by have:=h.len;omega)];simp[h.len]
theorem LabsMem.step {w0 wr W:World} {g k:Nat} {P Q done:List (List UInt8)} {y:List UInt8} (h:LabsMem w0 g P Q done k wr) (HP:Q=P.take Q.length) (hk:k<Q.length) (hy:y.length≤63) (hb:Below wr.heap.size wr W):LabsMem w0 g P Q (done++[y]) (k+1) (W.setCell ⟨g,k,none⟩ (.string ⟨y.toArray⟩)):=by
 have hkP:k<P.length:=by
  have:Q.length≤P.length:=by rw[HP,List.length_take];omega
  omega
 refine⟨?_,by simp[h.len],fun p hp=> ?_,(h.low.trans (hb.mono h.low.size)).setCell (p:=⟨g,k,none⟩) h.hg _,h.hg⟩
 ·have h1:=(h.row.below hb h.row.lt).set_ k (.string ⟨y.toArray⟩)
  rw[List.drop_eq_getElem_cons hkP]at h1;have h2:= @strs_turn done (P.drop (k+1)) P[k] y;rw[h.len]at h2;rwa[h2]at h1
 ·rcases List.mem_append.1 hp with hp|hp
  ·exact h.few p hp
  ·simp at hp;subst hp;exact hy
theorem LabsMem.texts {w0 wr:World} {g k:Nat} {P Q done:List (List UInt8)} (h:LabsMem w0 g P Q done k wr):Texts wr g 0 done:=fun j hj=>by
 rw[Nat.zero_add,h.row.cell j,List.getElem?_toArray,strs_get (by rw[List.length_append];omega),List.getElem_append_left hj]
set_option maxRecDepth 100000 in
theorem hlabs_any (s:List UInt8) (w:World) (hE:EnvT w) (hs:s.length≤65536):
 Calls Tryz.prog 176 #[.string ⟨s.toArray⟩] w fun e w'=>e= .returned (optV (nameL s))∧Below w.heap.size w w':=by
 have hnm:nameL s=match labelsM (cutLast (partsL 46 (pctL s)))with|none=>none|some l=>some (joinL 46 l):=rfl
 have cp:=pct_any s w hE.env (by omega)
 have hle:=pctL_le s
 have HNM:=Lib.hid hnm
 clear hnm
 generalize pctL s=D at*
 have csp:=fun W (hW:Below w.heap.size w W)=>split_any D 46 W (hE.env.below hW).shaped (by omega)
 have clab:=fun (x:List UInt8) (hx:x.length≤65536) W (hW:Below w.heap.size w W)=>label_any x W hx (hE.below hW).tabs
 obtain⟨hpx,hpl⟩:=partsL_le 46 D
 have hne:=partsL_ne 46 D
 generalize partsL 46 D=P at*
 obtain⟨n,hn⟩:∃n,P.length=n+1:=⟨P.length-1,by have:=List.length_pos_iff.2 hne;omega⟩
 have hlast:=getLast_is hn
 rw[hn]at hpl
 simp only[hn]at csp
 go_enter Tryz.func176,Tryz.ntmps176
 go_wp2_with fail
 go_at_call 229
 refine cp.mono ?_
 rintro e w1 ⟨rfl,hb1⟩
 go_wp2_with fail
 go_at_call 137
 refine(csp w1 hb1).mono ?_
 rintro e w2 ⟨rfl,rfl⟩
 have hB:=Blk.new w1 9 (strs P).toArray
 have hb2:=hb1.alloc hb1.size (.cells (strs P).toArray 9)
 have hg:=hb1.size
 generalize w1.alloc (.cells (strs P).toArray 9)=w2 at*
 generalize w1.heap.size=g at*
 have cn:w2.cell? ⟨g,n,none⟩=some (.string ⟨(P[n]'(by omega)).toArray⟩):=by
  rw[hB.cell n,List.getElem?_toArray,strs_get (by omega)]
 have key:∃Q:List (List UInt8),Q=cutLast P∧Q=P.take Q.length∧((Q.length=n+1∧(n=0∨P[n]'(by omega)≠[]))∨(Q.length=n∧0<n∧P[n]'(by omega)=[])):=by
  refine⟨_,rfl, ?_⟩;unfold cutLast;by_cases h1:1<P.length∧P.getLastD []=[]
  ·rw[if_pos h1]
   refine⟨by rw[List.dropLast_eq_take,List.length_take,Nat.min_eq_left (by omega)], .inr ⟨by simp[hn],by omega,by rw[←hlast];exact h1.2⟩⟩
  ·rw[if_neg h1]
   refine⟨by rw[List.take_length], .inl ⟨hn, ?_⟩⟩;by_cases h0:n=0
   ·exact .inl h0
   ·exact .inr fun h=>h1 ⟨by omega,by rw[hlast];exact h⟩
 obtain⟨Q,hQ,hQP,hcase⟩:=key
 rw[←hQ]at HNM
 generalize hxl:P[n]'(by omega)=xl at cn hcase
 clear hxl
 clear hQ hlast csp cp hb1 w1
 have hstart:LabsMem w g P Q [] 0 w2:=⟨by simpa using hB,rfl,by simp,hb2,hg⟩
 have hqx:∀p∈Q,p.length≤65536:=fun p hp=>by
  rw[hQP]at hp;have:=hpx p (List.mem_of_mem_take hp);omega
 have HP:Hid (P.length=n+1∧Q=P.take Q.length):=⟨hn,hQP⟩
 clear hn hQP hne hB hb2 hpx
 have hcase3:(n=0∧Q.length=1)∨(0<n∧Q.length=n+1∧xl≠[])∨(0<n∧Q.length=n∧xl=[]):=by
  rcases hcase with ⟨hq,h0|h0⟩|⟨hq,h0,h1⟩
  ·exact .inl ⟨h0,by omega⟩
  ·by_cases hn0:n=0
   ·exact .inl ⟨hn0,by omega⟩
   ·exact .inr (.inl ⟨by omega,hq,h0⟩)
  ·exact .inr (.inr ⟨h0,hq,h1⟩)
 clear hcase
 have hgw:g<w2.heap.size:=hstart.row.lt
 rcases hcase3 with ⟨rfl,hq⟩|⟨hn0,hq,hx⟩|⟨hn0,hq,rfl⟩
 ·have hq1:Q.length≤1:=by omega
  have hq2:1≤Q.length:=by omega
  clear hq;go_wp2_with fail;go_loopw [31] (fun i wr=>∃(k:Nat) (done:List (List UInt8)),k≤Q.length∧i= .int .i64 k∧Hid (labelsM Q=match labelsM (Q.drop k)with|none=>none|some r=>some (done++r))∧Hid (LabsMem w g P Q done k wr)) (fun i _=>Q.length-(intOf i).toNat)
  case atStart=>exact⟨0,[],Nat.zero_le _,rfl,by show _=_;rw[List.drop_zero];cases labelsM Q<;>rfl,hstart⟩
  case round=>
   obtain⟨V,rfl⟩:∃V,V=wr:=⟨wr,rfl⟩;obtain⟨k,done,hk,rfl,H,HM⟩:=hrel;clear hstart hgw;by_cases hlt:k<Q.length
   ·have hc:=HM.out.at_ HP.out.2 hlt
    have cl:=clab Q[k] (hqx _ (List.getElem_mem hlt)) V HM.out.low;by_cases he:(labelL Q[k]).2=0
    ·have HN:=Lib.hid (labelsM_snoc hlt H.out he)
     have hy:(labelL Q[k]).1.length≤63:=labelL_le;have hst:=fun W hb=>HM.out.step (W:=W) HP.out.2 hlt hy hb
     have hr:labelL Q[k]=((labelL Q[k]).1,0):=by rw[←he]
     rw[hr]at cl;simp only[encV]at cl;clear hr he;generalize (labelL Q[k]).1=y at*;generalize Q[k]=x at*;go_wp2_with fail;go_at_call 230;refine cl.mono ?_;rintro e w3 ⟨rfl,hb3⟩;have HS:=Lib.hid (hst w3 hb3);have hB3:=HM.out.row.below hb3 HM.out.row.lt;have hfz:=hB3.frozen k;have hl3:=hB3.lt;have hcc:∃u,w3.cell? ⟨g,k,none⟩=some u:=⟨_,(hb3.cell (p:=⟨g,k,none⟩) HM.out.row.lt).trans hc⟩;obtain⟨u,hu⟩:=hcc;clear hst hB3 cl hc;go_wp2_with fail;go_roundw
     case rel=>exact⟨k+1,done++[y],by omega,by go_num,HN,HS⟩
     case measure=>simp[intOf];omega
    ·have HN:=Lib.hid (labelsM_stop hlt H.out he)
     rw[labelL_err he]at cl;simp only[encV]at cl;clear he;generalize Q[k]=x at*;have hlow:=HM.out.low;go_wp2_with fail;go_at_call 230;refine cl.mono ?_;rintro e w3 ⟨rfl,hb3⟩;go_wp2_with fail;go_ret2;exact⟨by rw[HNM.out,HN.out];rfl,hlow.trans (hb3.mono hlow.size)⟩
   ·obtain rfl:k=Q.length:=by omega
    have hH:=H.out;rw[List.drop_length]at hH;simp only[labelsM,List.append_nil]at hH;have HN:Hid (nameL s=some (joinL 46 done)):=by show _=_;rw[HNM.out,hH]
    have hjl:=joinL_le 46 HM.out.few;have hdl:=HM.out.len;have hdl1:done.length≤131072:=by omega
    have HD:=Lib.hid hdl;clear hH H hdl;have cj:=join_at g 0 (0+1) (0+1) done 46 V (by have:=HD.out;omega) HM.out.texts HM.out.row.lt (by omega) (by omega) (by omega);go_wp2_with fail;go_at_call 88;refine cj.mono ?_;rintro e w3 ⟨rfl,hb3⟩;go_wp2_with fail;go_ret2;exact⟨by rw[HN.out];rfl,HM.out.low.trans (hb3.mono HM.out.low.size)⟩
 ·have hxb:=beq_ne hx
  have hxe:=isEmpty_ne hx;have hq1:Q.length≤n+1:=by omega
  have hq2:n+1≤Q.length:=by omega
  clear hq hx;go_wp2_with fail;go_loopw [31] (fun i wr=>∃(k:Nat) (done:List (List UInt8)),k≤Q.length∧i= .int .i64 k∧Hid (labelsM Q=match labelsM (Q.drop k)with|none=>none|some r=>some (done++r))∧Hid (LabsMem w g P Q done k wr)) (fun i _=>Q.length-(intOf i).toNat)
  case atStart=>exact⟨0,[],Nat.zero_le _,rfl,by show _=_;rw[List.drop_zero];cases labelsM Q<;>rfl,hstart⟩
  case round=>
   obtain⟨V,rfl⟩:∃V,V=wr:=⟨wr,rfl⟩;obtain⟨k,done,hk,rfl,H,HM⟩:=hrel;clear hstart hgw;by_cases hlt:k<Q.length
   ·have hc:=HM.out.at_ HP.out.2 hlt
    have cl:=clab Q[k] (hqx _ (List.getElem_mem hlt)) V HM.out.low;by_cases he:(labelL Q[k]).2=0
    ·have HN:=Lib.hid (labelsM_snoc hlt H.out he)
     have hy:(labelL Q[k]).1.length≤63:=labelL_le;have hst:=fun W hb=>HM.out.step (W:=W) HP.out.2 hlt hy hb
     have hr:labelL Q[k]=((labelL Q[k]).1,0):=by rw[←he]
     rw[hr]at cl;simp only[encV]at cl;clear hr he;generalize (labelL Q[k]).1=y at*;generalize Q[k]=x at*;go_wp2_with fail;go_at_call 230;refine cl.mono ?_;rintro e w3 ⟨rfl,hb3⟩;have HS:=Lib.hid (hst w3 hb3);have hB3:=HM.out.row.below hb3 HM.out.row.lt;have hfz:=hB3.frozen k;have hl3:=hB3.lt;have hcc:∃u,w3.cell? ⟨g,k,none⟩=some u:=⟨_,(hb3.cell (p:=⟨g,k,none⟩) HM.out.row.lt).trans hc⟩;obtain⟨u,hu⟩:=hcc;clear hst hB3 cl hc;go_wp2_with fail;go_roundw
     case rel=>exact⟨k+1,done++[y],by omega,by go_num,HN,HS⟩
     case measure=>simp[intOf];omega
    ·have HN:=Lib.hid (labelsM_stop hlt H.out he)
     rw[labelL_err he]at cl;simp only[encV]at cl;clear he;generalize Q[k]=x at*;have hlow:=HM.out.low;go_wp2_with fail;go_at_call 230;refine cl.mono ?_;rintro e w3 ⟨rfl,hb3⟩;go_wp2_with fail;go_ret2;exact⟨by rw[HNM.out,HN.out];rfl,hlow.trans (hb3.mono hlow.size)⟩
   ·obtain rfl:k=Q.length:=by omega
    have hH:=H.out;rw[List.drop_length]at hH;simp only[labelsM,List.append_nil]at hH;have HN:Hid (nameL s=some (joinL 46 done)):=by show _=_;rw[HNM.out,hH]
    have hjl:=joinL_le 46 HM.out.few;have hdl:=HM.out.len;have hdl1:done.length≤131072:=by omega
    have HD:=Lib.hid hdl;clear hH H hdl;have cj:=join_at g 0 (n+1) (n+1) done 46 V (by have:=HD.out;omega) HM.out.texts HM.out.row.lt (by omega) (by omega) (by omega);go_wp2_with fail;go_at_call 88;refine cj.mono ?_;rintro e w3 ⟨rfl,hb3⟩;go_wp2_with fail;go_ret2;exact⟨by rw[HN.out];rfl,HM.out.low.trans (hb3.mono HM.out.low.size)⟩
 ·have hq1:Q.length≤n:=by omega
  have hq2:n≤Q.length:=by omega
  clear hq;go_wp2_with fail;go_loopw [31] (fun i wr=>∃(k:Nat) (done:List (List UInt8)),k≤Q.length∧i= .int .i64 k∧Hid (labelsM Q=match labelsM (Q.drop k)with|none=>none|some r=>some (done++r))∧Hid (LabsMem w g P Q done k wr)) (fun i _=>Q.length-(intOf i).toNat)
  case atStart=>exact⟨0,[],Nat.zero_le _,rfl,by show _=_;rw[List.drop_zero];cases labelsM Q<;>rfl,hstart⟩
  case round=>
   obtain⟨V,rfl⟩:∃V,V=wr:=⟨wr,rfl⟩;obtain⟨k,done,hk,rfl,H,HM⟩:=hrel;clear hstart hgw;by_cases hlt:k<Q.length
   ·have hc:=HM.out.at_ HP.out.2 hlt
    have cl:=clab Q[k] (hqx _ (List.getElem_mem hlt)) V HM.out.low;by_cases he:(labelL Q[k]).2=0
    ·have HN:=Lib.hid (labelsM_snoc hlt H.out he)
     have hy:(labelL Q[k]).1.length≤63:=labelL_le;have hst:=fun W hb=>HM.out.step (W:=W) HP.out.2 hlt hy hb
     have hr:labelL Q[k]=((labelL Q[k]).1,0):=by rw[←he]
     rw[hr]at cl;simp only[encV]at cl;clear hr he;generalize (labelL Q[k]).1=y at*;generalize Q[k]=x at*;go_wp2_with fail;go_at_call 230;refine cl.mono ?_;rintro e w3 ⟨rfl,hb3⟩;have HS:=Lib.hid (hst w3 hb3);have hB3:=HM.out.row.below hb3 HM.out.row.lt;have hfz:=hB3.frozen k;have hl3:=hB3.lt;have hcc:∃u,w3.cell? ⟨g,k,none⟩=some u:=⟨_,(hb3.cell (p:=⟨g,k,none⟩) HM.out.row.lt).trans hc⟩;obtain⟨u,hu⟩:=hcc;clear hst hB3 cl hc;go_wp2_with fail;go_roundw
     case rel=>exact⟨k+1,done++[y],by omega,by go_num,HN,HS⟩
     case measure=>simp[intOf];omega
    ·have HN:=Lib.hid (labelsM_stop hlt H.out he)
     rw[labelL_err he]at cl;simp only[encV]at cl;clear he;generalize Q[k]=x at*;have hlow:=HM.out.low;go_wp2_with fail;go_at_call 230;refine cl.mono ?_;rintro e w3 ⟨rfl,hb3⟩;go_wp2_with fail;go_ret2;exact⟨by rw[HNM.out,HN.out];rfl,hlow.trans (hb3.mono hlow.size)⟩
   ·obtain rfl:k=Q.length:=by omega
    have hH:=H.out;rw[List.drop_length]at hH;simp only[labelsM,List.append_nil]at hH;have HN:Hid (nameL s=some (joinL 46 done)):=by show _=_;rw[HNM.out,hH]
    have hjl:=joinL_le 46 HM.out.few;have hdl:=HM.out.len;have hdl1:done.length≤131072:=by omega
    have HD:=Lib.hid hdl;clear hH H hdl;have cj:=join_at g 0 (n+1) n done 46 V (by have:=HD.out;omega) HM.out.texts HM.out.row.lt (by omega) (by omega) (by omega);go_wp2_with fail;go_at_call 88;refine cj.mono ?_;rintro e w3 ⟨rfl,hb3⟩;go_wp2_with fail;go_ret2;exact⟨by rw[HN.out];rfl,HM.out.low.trans (hb3.mono HM.out.low.size)⟩
structure EnvH (w:World):Prop where
 t:EnvT w
 pow:Pow10 w
 deb:Deb16 w
theorem EnvH.below {w w':World} (h:EnvH w) (hb:Below w.heap.size w w'):EnvH w':=⟨h.t.below hb,h.pow.below hb,h.deb.below hb⟩
def b16 (n:Nat):List UInt8:=[UInt8.ofNat (n/16777216),UInt8.ofNat (n/65536),UInt8.ofNat (n/256),UInt8.ofNat n,0,0,0,0,0,0,0,0,0,0,0,0]
theorem addrV_adC (n:Nat):addrV n= .agg (adC false (b16 n)):=by
 simp[addrV,adC,b16,byts,UInt8.toNat_ofNat']
theorem b16_len (n:Nat):(b16 n).length=16:=rfl
theorem b16_four (n:Nat):((b16 n).take 4).map (·.toNat)=bytes4 n:=by simp[b16,bytes4,UInt8.toNat_ofNat']
theorem adC_one (six:Bool) (b:List UInt8):(adC six b).all (·.oneCell')=true:=by
 simp[adC,byts,Value.oneCell']
theorem addr_size:(Tryz.prog.info? 132).map (·.size)=some 17:=by kernel_rfl
theorem adC_info (six:Bool) {b:List UInt8} (hb:b.length=16):(Tryz.prog.info? 132).map (·.size)=some (adC six b).size:=by rw[adC_size,hb];exact addr_size
theorem zeroA_size (six:Bool) {b:List UInt8} (hb:b.length=16):zeroA.size=(adC six b).size:=by rw[adC_size,hb];rfl
def four_V (s:List UInt8):Value:= .tuple #[.string ⟨((fourT s).getD s).toArray⟩, .int .i64 ((fourL s).2.1:Int)]
theorem fourT_ne {s:List UInt8} (h:(fourL s).2.1≠0):fourT s=none:=by unfold fourT;rw[if_pos h]
theorem fourT_yes {s:List UInt8} (h:(fourL s).2.1=0) (h1:(fourL s).1=true):fourT s=some (text4 (bytes4 (fourL s).2.2)):=by unfold fourT;rw[if_neg (by omega),if_pos h1]
theorem fourT_no {s:List UInt8} (h:(fourL s).2.1=0) (h1:(fourL s).1=false):fourT s=some s:=by unfold fourT;rw[if_neg (by omega),if_neg (by simp[h1])]
set_option maxRecDepth 100000 in
theorem hfour_any (s:List UInt8) (w:World) (hE:EnvH w) (hs:s.length≤3999999999):
 Calls Tryz.prog 178 #[.string ⟨s.toArray⟩] w fun e w'=>e= .returned (four_V s)∧Below w.heap.size w w':=by
 have cf:=four_any s w hE.t.env hs
 have e1:(fourL s).2.1≠0→fourT s=none:=fourT_ne
 have e2:=fun h h1=>fourT_yes (s:=s) h h1
 have e3:=fun h h1=>fourT_no (s:=s) h h1
 have ev:four_V s= .tuple #[.string ⟨((fourT s).getD s).toArray⟩, .int .i64 ((fourL s).2.1:Int)]:=rfl
 generalize fourL s=r at*
 obtain⟨lk,er,n⟩:=r
 rw[fourV_mk,addrV_adC]at cf
 simp only at cf e1 e2 e3 ev
 have hB:=b16_len n
 have ct:=fun W (hp:Pow10 W)=>text_four (b16 n) hB W hp
 rw[b16_four]at ct
 have hi:=adC_info false hB
 have hz:=zeroA_size false hB
 have h1:=adC_one false (b16 n)
 generalize hBB:b16 n=B at*
 clear hBB
 by_cases he:er=0
 ·subst he
  cases lk with
  |true=>
   have HT:=Lib.hid (e2 rfl rfl);have HV:=Lib.hid ev;clear e1 e2 e3 ev;generalize text4 (bytes4 n)=T at*;go_enter Tryz.func178,Tryz.ntmps178;go_wp2_with fail;go_at_call 73;refine cf.mono ?_;rintro e w1 ⟨rfl,hb1⟩;have hh:((w1.alloc (.cells zeroA 132)).setRow w1.heap.size (adC false B)).heap[w1.heap.size]?=some (.cells (adC false B) 132 (0,0)):=setRow_heap _ _ _ _ _ _ (heap_alloc_new w1 _);have hb2:Below w.heap.size w ((w1.alloc (.cells zeroA 132)).setRow w1.heap.size (adC false B)):=below_row (hb1.alloc hb1.size _) hb1.size _;have ct2:=ct _ (hE.pow.below hb2);go_wp2_with(first|(refine wpList_store_row (o:=⟨none, .store 132 (.tmp 4) (.tmp 10),_,_,_,_⟩) rfl 132 (.tmp 4) _ rfl w1.heap.size (adC false B) rfl rfl 132 zeroA (heap_alloc_new w1 _) hi hz h1 ?_)|(refine wpList_load_row (o:=⟨some 18, .load 132 (.tmp 4),_,_,_,_⟩) rfl 132 (.tmp 4) rfl w1.heap.size rfl 132 (adC false B) (0,0) _ hh Tryz.underlying132 rfl hi ?_)|(go_at_call 175;refine ct2.mono ?_;rintro e w3 ⟨rfl,hb3⟩));go_ret2;exact⟨by rw[HV.out,HT.out];rfl,hb2.trans (hb3.mono hb2.size)⟩
  |false=>
   have HT:=Lib.hid (e3 rfl rfl);have HV:=Lib.hid ev;clear e1 e2 e3 ev ct;go_enter Tryz.func178,Tryz.ntmps178;go_wp2_with fail;go_at_call 73;refine cf.mono ?_;rintro e w1 ⟨rfl,hb1⟩;have hb2:Below w.heap.size w ((w1.alloc (.cells zeroA 132)).setRow w1.heap.size (adC false B)):=below_row (hb1.alloc hb1.size _) hb1.size _;go_wp2_with(refine wpList_store_row (o:=⟨none, .store 132 (.tmp 4) (.tmp 10),_,_,_,_⟩) rfl 132 (.tmp 4) _ rfl w1.heap.size (adC false B) rfl rfl 132 zeroA (heap_alloc_new w1 _) hi hz h1 ?_);go_ret2;exact⟨by rw[HV.out,HT.out];rfl,hb2⟩
 ·have HT:=Lib.hid (e1 he)
  have HV:=Lib.hid ev;have hei:((er:Int)==0)=false:=beq_eq_false_iff_ne.2 (by omega);have hep:¬(er:Int)=0:=by omega
  clear e1 e2 e3 ev ct
  cases lk
  all_goals
   go_enter Tryz.func178,Tryz.ntmps178;go_wp2_with fail;go_at_call 73;refine cf.mono ?_;rintro e w1 ⟨rfl,hb1⟩;have hb2:Below w.heap.size w ((w1.alloc (.cells zeroA 132)).setRow w1.heap.size (adC false B)):=below_row (hb1.alloc hb1.size _) hb1.size _;go_wp2_with(refine wpList_store_row (o:=⟨none, .store 132 (.tmp 4) (.tmp 10),_,_,_,_⟩) rfl 132 (.tmp 4) _ rfl w1.heap.size (adC false B) rfl rfl 132 zeroA (heap_alloc_new w1 _) hi hz h1 ?_);go_ret2;exact⟨by rw[HV.out,HT.out];rfl,hb2⟩
theorem foul_idx (c:UInt8):decide (0≤Lib.indexByte foulS c)=foulS.contains c:=by
 have h:∀l:List UInt8,decide (0≤Lib.indexByte l c)=l.contains c:=by
  intro l
  induction l with
  |nil=>rfl
  |cons b l ih=>
   unfold Lib.indexByte;by_cases hb:b=c
   ·subst hb;simp
   ·rw[if_neg (by simpa using hb)]
    have hge:=Lib.indexByte_ge l c;have e:(b::l).contains c=l.contains c:=by
     rw[List.contains_cons];have:(c==b)=false:=by rw[beq_eq_false_iff_ne];exact fun e=>hb e.symm
     rw[this,Bool.false_or]
    rw[e,←ih];split
    ·rename_i h;simp at h;rw[h]
    ·rename_i h;simp at h;rw[decide_eq_decide];omega
 exact h foulS
theorem any_take_no {s:List UInt8} {k:Nat} (h:k<s.length) (ha:(s.take k).any foulB=false) (hc:foulB s[k]=false):(s.take (k+1)).any foulB=false:=by
 rw[List.take_succ_eq_append_getElem h,List.any_append,ha];simp[hc]
theorem any_yes {s:List UInt8} {k:Nat} (h:k<s.length) (hc:foulB s[k]=true):s.any foulB=true:=List.any_eq_true.2 ⟨_,List.getElem_mem h,hc⟩
theorem foul_no {c:UInt8} (h1:¬c.toNat≤32) (h2:¬c.toNat=127) (h3:foulS.contains c=false):foulB c=false:=by
 unfold foulB;rw[decide_eq_false h1,decide_eq_false h2,h3];rfl
def cleanO (s:List UInt8):Option (List UInt8):=if cleanL s then some s else none
theorem clean_no {s:List UInt8} {k:Nat} (h:k<s.length) (hf:foulB s[k]=true):cleanO s=none:=by
 unfold cleanO cleanL;rw[any_yes h hf];rfl
theorem clean_end {s:List UInt8} (h:(s.take s.length).any foulB=false):cleanO s=if s.length≤253 then some s else none:=by
 rw[List.take_length]at h;unfold cleanO cleanL;rw[h];simp
set_option maxRecDepth 100000 in
theorem clean_any (s:List UInt8) (w:World) (hs:s.length≤140737488351232):
 Calls Tryz.prog 177 #[.string ⟨s.toArray⟩] w fun e w'=>e= .returned (optV (cleanO s))∧w=w':=by
 go_enter Tryz.func177,Tryz.ntmps177
 go_wp2_with fail
 go_loop [7] (fun i=>∃k:Nat,k≤s.length∧i= .int .i64 k∧Hid ((s.take k).any foulB=false)) (fun i=>s.length-(intOf i).toNat)
 case atStart=>exact⟨0,Nat.zero_le _,rfl,by show _=_;simp⟩
 case round=>
  obtain⟨k,hk,rfl,H⟩:=hrel;by_cases hlt:k<s.length
  ·have hy:=fun h=>Lib.hid (clean_no (s:=s) hlt h)
   have hn:=fun h=>Lib.hid (any_take_no hlt H.out h)
   have hf:foulB s[k]=(decide (s[k].toNat≤32)||(decide (s[k].toNat=127)||foulS.contains s[k])):=rfl;have hi:=foul_idx s[k];have hlt8:=s[k].toNat_lt;generalize hc:s[k]=c at*;have ci:∀W,Calls Tryz.prog 182 #[.string ⟨#[35,37,47,58,60,62,63,64,91,92,93,94,124]⟩, .int .u8 (c.toNat:Int)] W fun e w'=>e= .returned (.int .i64 (Lib.indexByte foulS c))∧W=w':=fun W=>
    (Tryz.strings_IndexByte ⟨foulS.toArray⟩ (c.toNat:Int) W).mono fun e w' h=>⟨by rw[h.1];simp,h.2.symm⟩
   have hge:=Lib.indexByte_ge foulS c;generalize Lib.indexByte foulS c=q at*;by_cases h1:c.toNat≤32
   ·have HY:=hy (by rw[hf,decide_eq_true h1];rfl)
    have h1i:(c.toNat:Int)≤32:=by omega
    clear hy hn hf hi ci h1;go_wp2_with fail;go_ret2;exact⟨by rw[HY.out];rfl,rfl⟩
   ·by_cases h2:c.toNat=127
    ·have HY:=hy (by rw[hf,decide_eq_true h2];simp)
     have h1i:¬(c.toNat:Int)≤32:=by omega
     have h2i:((c.toNat:Int)==127)=true:=beq_iff_eq.2 (by omega);have h2p:(c.toNat:Int)=127:=by omega
     clear hy hn hf hi ci h1 h2;go_wp2_with fail;go_ret2;exact⟨by rw[HY.out];rfl,rfl⟩
    ·have h1i:¬(c.toNat:Int)≤32:=by omega
     have h2i:((c.toNat:Int)==127)=false:=beq_eq_false_iff_ne.2 (by omega);have h2p:¬(c.toNat:Int)=127:=by omega
     cases h3:foulS.contains c with
     |true=>
      have HY:=hy (by rw[hf,h3];simp);rw[h3]at hi;have hq:0≤q:=by simpa using hi
      clear hy hn hf hi h1 h2 h3;go_wp2_with(go_at_call 182;refine(ci _).mono ?_;rintro e w1 ⟨rfl,rfl⟩);go_ret2;exact⟨by rw[HY.out];rfl,rfl⟩
     |false=>
      have HN:=hn (foul_no h1 h2 h3);rw[h3]at hi;have hq:¬0≤q:=by simpa using hi
      clear hy hn hf hi h1 h2 h3;go_wp2_with(go_at_call 182;refine(ci _).mono ?_;rintro e w1 ⟨rfl,rfl⟩);go_round
      case rel=>exact⟨k+1,by omega,by go_num,HN⟩
      case measure=>simp[intOf];omega
  ·obtain rfl:k=s.length:=by omega
   have HE:=Lib.hid (clean_end H.out);clear H;by_cases h4:s.length≤253
   ·have HE4:Hid (cleanO s=some s):=by show _=_;rw[HE.out,if_pos h4]
    clear HE;go_wp2_with fail;go_ret2;exact⟨by rw[HE4.out];rfl,rfl⟩
   ·have HE4:Hid (cleanO s=none):=by show _=_;rw[HE.out,if_neg h4]
    clear HE;go_wp2_with fail;go_ret2;exact⟨by rw[HE4.out];rfl,rfl⟩
end Go.Proofs.YtjkipdoebkhkaaaGreatDoor
