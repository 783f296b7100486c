/- Encoding tells the insertions that make the text, plain. -/
import Derived.Test.YtjkipdoebkhkaaaGreatDoorGSigns
import Derived.Test.YtjkipdoebkhkaaaGreatDoorGHP
set_option linter.unusedVariables false
set_option linter.unusedSimpArgs false
set_option maxHeartbeats 16000000
namespace Go.Proofs.YtjkipdoebkhkaaaGreatDoor
structure Rel (st:ES) (t:TS) (m i:Nat):Prop where
 b:st.b=t.b
 many:st.many=t.len
 n:st.n+(t.sign*(t.len+1)+t.place)=m*(t.len+1)+i
 ord:t.sign<m∨(t.sign=m∧t.place≤i)
 place:t.place≤t.len
 le:i≤t.len
theorem Rel.delta {st:ES} {t:TS} {m i:Nat} (h:Rel st t m i):delta t (m,i)=st.n:=by
 unfold Go.Proofs.YtjkipdoebkhkaaaGreatDoor.delta;have h1:=h.n;have h2:t.sign≤m:=by rcases h.ord with h|⟨h,_⟩<;>omega
 show(m-t.sign)*(t.len+1)+i-t.place=st.n;obtain⟨d,rfl⟩:=Nat.exists_eq_add_of_le h2;rw[Nat.add_sub_cancel_left];rw[Nat.add_mul]at h1;omega
theorem pass_tell (m p:Nat):∀(post pre:List Nat) (st:ES) (t:TS),Rel st t m (pre.filter (·≤m)).length→t.len=(pre.filter (·≤m)).length+(post.filter (·<m)).length→
 ∃qs,okPs p t qs∧Rel (passS m p post st) (endS p t qs) m ((pre++post).filter (·≤m)).length∧(endS p t qs).len=((pre++post).filter (·≤m)).length∧
  qs.foldl ins (pre.filter (·≤m)++post.filter (·<m))=(pre++post).filter (·≤m)∧(∀q∈qs,q.1=m)∧(m∈post∨qs=[])∧(passS m p post st).out=st.out++tellS p t qs
 |[],pre,st,t,h,hl=>⟨[],trivial,by simpa[passS,endS]using h,by simpa[endS]using hl,by simp,fun q hq=>by simp at hq, .inr rfl,by simp[passS,tellS]⟩
 |c::post,pre,st,t,h,hl=>by
  have e:pre++c::post=(pre++[c])++post:=by simp
  rw[passS_cons,e];by_cases c1:c<m
  ·have f1:(pre++[c]).filter (·≤m)=pre.filter (·≤m)++[c]:=by rw[List.filter_append];simp;omega
   have f2:(c::post).filter (·<m)=c::post.filter (·<m):=List.filter_cons_of_pos (by simpa using c1);rw[f2]at hl⊢;simp only[List.length_cons]at hl;have hst:stepS m p st c=⟨st.b,st.n+1,st.many,st.out⟩:=by unfold stepS;rw[if_pos c1]
   have hrel:Rel (stepS m p st c) t m ((pre++[c]).filter (·≤m)).length:=by
    rw[hst,f1,List.length_append,List.length_singleton];have hn:=h.n;exact⟨h.b,h.many,by show st.n+1+_=_;omega,by rcases h.ord with h|⟨h,h'⟩;exact .inl h;exact .inr ⟨h,by omega⟩,h.place,by omega⟩
   obtain⟨qs,h1,h2,h3,h4,h5,h6,h7⟩:=pass_tell m p post (pre++[c]) _ t hrel (by rw[f1,List.length_append,List.length_singleton];omega);refine⟨qs,h1,h2,h3, ?_,h5, ?_,by rw[h7,hst]⟩
   ·rw[←h4,f1];simp
   ·rcases h6 with h6|h6
    ·exact .inl (List.mem_cons_of_mem _ h6)
    ·exact .inr h6
  ·have f2:(c::post).filter (·<m)=post.filter (·<m):=List.filter_cons_of_neg (by simpa using c1)
   rw[f2]at hl⊢;by_cases c2:c=m
   ·subst c2
    have f1:(pre++[c]).filter (·≤c)=pre.filter (·≤c)++[c]:=by rw[List.filter_append];simp
    have hd:=h.delta;have hst:stepS c p st c=⟨nextL st.n (st.many+1) (decide (st.many=p)),0,st.many+1,st.out++toldL st.n st.b 36⟩:=by unfold stepS;rw[if_neg (by omega),if_pos rfl]
    have hq:okQ t (c,(pre.filter (·≤c)).length):=by
     refine⟨?_,fun he=> ?_,h.le⟩
     ·rcases h.ord with h|⟨h,_⟩
      ·exact Nat.le_of_lt h
      ·exact Nat.le_of_eq h
     ·rcases h.ord with h|⟨h,h'⟩
      ·have:c=t.sign:=he;omega
      ·exact h'
    have hrel:Rel (stepS c p st c) (tstep p t (c,(pre.filter (·≤c)).length)) c ((pre++[c]).filter (·≤c)).length:=by
     rw[hst,f1,List.length_append,List.length_singleton];have hle:=h.le;refine⟨?_, ?_, ?_, .inr ⟨rfl,Nat.le_refl _⟩, ?_, ?_⟩
     ·show nextL _ _ _=nextL _ _ _
      rw[hd,h.many]
     ·show st.many+1=t.len+1
      rw[h.many]
     ·show 0+_=_
      rw[Nat.zero_add];rfl
     ·show(pre.filter (·≤c)).length+1≤t.len+1
      omega
     ·show(pre.filter (·≤c)).length+1≤t.len+1
      omega
    obtain⟨qs,h1,h2,h3,h4,h5,h6,h7⟩:=pass_tell c p post (pre++[c]) _ _ hrel (by show t.len+1=_;rw[f1,List.length_append,List.length_singleton];omega);refine⟨(c,(pre.filter (·≤c)).length)::qs,⟨hq,h1⟩,h2,h3, ?_,fun q hq=> ?_, .inl List.mem_cons_self, ?_⟩
    ·rw[←h4,f1,List.foldl_cons]
     congr 1;unfold ins;simp
    ·rcases List.mem_cons.1 hq with rfl|hq
     ·rfl
     ·exact h5 q hq
    ·rw[h7,hst]
     show(st.out++toldL st.n st.b 36)++_=st.out++(toldL (delta t _) t.b 36++_);rw[hd,h.b,List.append_assoc]
   ·have f1:(pre++[c]).filter (·≤m)=pre.filter (·≤m):=by rw[List.filter_append,List.filter_cons_of_neg (by simp;omega)];simp
    have hst:stepS m p st c=st:=by unfold stepS;rw[if_neg c1,if_neg c2]
    obtain⟨qs,h1,h2,h3,h4,h5,h6,h7⟩:=pass_tell m p post (pre++[c]) st t (by rw[f1];exact h) (by rw[f1];exact hl);rw[hst];refine⟨qs,h1,h2,h3, ?_,h5, ?_,h7⟩
    ·rw[←h4,f1]
    ·rcases h6 with h6|h6
     ·exact .inl (List.mem_cons_of_mem _ h6)
     ·exact .inr h6
theorem filter_gap {R:List Nat} {a m:Nat} (h:∀c∈R,a≤c→m≤c) (ham:a≤m):R.filter (·<m)=R.filter (·<a):=
 List.filter_congr fun c hc=>by
  have:=h c hc;rw[Bool.eq_iff_iff];simp only[decide_eq_true_eq];omega
theorem run_tell (R:List Nat) (p:Nat):∀(ms:List Nat) (x:Nat×ES) (t:TS),OutOk R p x ms→R.length≤20000→Rel x.2 t x.1 0→t.len=(R.filter (·<x.1)).length→
 ∃qs,okPs p t qs∧qs.foldl ins (R.filter (·<x.1))=R∧(∀q∈qs,q.1∈ms)∧(runS R p ms x).2.out=x.2.out++tellS p t qs
 |[],x,t,hok,hR,h,hl=>by
  have hd:=hok.done;have hm:=hok.many;refine⟨[],trivial, ?_,fun q hq=>by simp at hq,by simp[runS,tellS]⟩;show R.filter (·<x.1)=R;rw[List.filter_eq_self];rw[hd]at hm;exact List.countP_eq_length.1 hm.symm
 |m::ms,x,t,hok,hR,h,hl=>by
  have hs:=List.pairwise_cons.1 hok.sorted;have hge:∀c∈R,x.1≤c→m≤c:=fun c hc hx=>by
   rcases List.mem_cons.1 (hok.compl c hc hx)with h6|h6
   ·omega
   ·exact Nat.le_of_lt (hs.1 c h6)
  have hxm:=(hok.mem m List.mem_cons_self).2.1;have hgap:=filter_gap hge hxm;have hn:=h.n;have hrel:Rel ⟨x.2.b,x.2.n+(m-x.1)*(x.2.many+1),x.2.many,x.2.out⟩ t m (([]:List Nat).filter (·≤m)).length:=by
   refine⟨h.b,h.many, ?_, ?_,h.place,Nat.zero_le _⟩
   ·show x.2.n+(m-x.1)*(x.2.many+1)+_=_+0
    rw[h.many];obtain⟨d,hd⟩:=Nat.exists_eq_add_of_le hxm;rw[hd,Nat.add_sub_cancel_left,Nat.add_mul];omega
   ·rcases h.ord with h|⟨h,h'⟩
    ·exact .inl (by omega)
    ·by_cases e:m=x.1
     ·exact .inr ⟨by omega,h'⟩
     ·exact .inl (by omega)
  obtain⟨qs,h1,h2,h3,h4,h5,h6,h7⟩:=pass_tell m p R [] _ t hrel (by simp only[List.filter_nil,List.length_nil,Nat.zero_add];rw[hl,hgap]);simp only[List.nil_append,List.filter_nil]at h2 h3 h4;have hlt:R.filter (·<m+1)=R.filter (·≤m):=List.filter_congr fun c _=>by rw[Bool.eq_iff_iff];simp;omega
  have hok2:=hok.next (Nat.le_trans hR (by omega));have hn2:=h2.n;have hrel2:Rel (outS R p x m).2 (endS p t qs) (outS R p x m).1 0:=by
   refine⟨h2.b,h2.many, ?_, ?_,h2.place,Nat.zero_le _⟩
   ·show(passS m p R _).n+1+_=(m+1)*_+0
    rw[←h3]at hn2;rw[Nat.add_mul];omega
   ·show(endS p t qs).sign<m+1∨_
    rcases h2.ord with h|⟨h,h'⟩
    ·exact .inl (by omega)
    ·exact .inl (by omega)
  obtain⟨rs,g1,g2,g3,g4⟩:=run_tell R p ms (outS R p x m) (endS p t qs) hok2 hR hrel2 (by rw[h3];show _=(R.filter (·<m+1)).length;rw[hlt]);refine⟨qs++rs,okPs_append.2 ⟨h1,g1⟩, ?_,fun q hq=> ?_, ?_⟩
  ·rw[List.foldl_append,←hgap,h4,←hlt]
   exact g2
  ·rcases List.mem_append.1 hq with hq|hq
   ·rw[h5 q hq];exact List.mem_cons_self
   ·exact List.mem_cons_of_mem _ (g3 q hq)
  ·show(runS R p ms (outS R p x m)).2.out=_
   rw[g4,tellS_append,←List.append_assoc];congr 1
theorem enc_tells (R:List Nat) (hR:R.length≤20000) (hx:∀c∈R,c≤1114111):
 ∃qs,okPs (plainB R).length ⟨72,128,0,(plainB R).length⟩ qs∧qs.foldl ins (R.filter (·<128))=R∧(∀q∈qs,q.1∈R∧128≤q.1)∧encR R=startOut R++tellS (plainB R).length ⟨72,128,0,(plainB R).length⟩ qs:=by
 have hpl:(plainB R).length=(R.filter (·<128)).length:=by simp[plainB]
 obtain⟨qs,h1,h2,h3,h4⟩:=run_tell R (plainB R).length (msN R) (start R) ⟨72,128,0,(plainB R).length⟩ (start_ok R hx) hR ⟨rfl,rfl,by show 0+(128*_+0)=128*_+0;omega, .inr ⟨rfl,Nat.le_refl _⟩,Nat.zero_le _,Nat.zero_le _⟩ hpl
 exact⟨qs,h1,h2,fun q hq=>((msN_spec R).2 q.1).1 (h3 q hq),h4⟩
theorem lastAt_tail {s:List UInt8} {c a:Nat}:∀j,(∀i,a≤i→i<a+j→(s.getD i 0).toNat≠c)→lastAt s c (a+j)=lastAt s c a
 |0,_=>rfl
 |j+1,h=>by
  rw[show a+(j+1)=a+j+1 from rfl,lastAt,if_neg (h (a+j) (by omega) (by omega))];exact lastAt_tail j (fun i h1 h2=>h i h1 (by omega))
theorem lastAt_none {s:List UInt8} {c:Nat} (h:∀x∈s,x.toNat≠c):lastAt s c s.length= -1:=by
 have:= @lastAt_tail s c 0 s.length (fun i _ hi=>by
  rw[Nat.zero_add]at hi;rw[List.getD_eq_getElem?_getD,List.getElem?_eq_getElem hi];exact h _ (List.getElem_mem hi))
 rw[Nat.zero_add]at this;exact this
theorem lastAt_mid {a d:List UInt8} {c:UInt8} (h:∀x∈d,x.toNat≠c.toNat):lastAt (a++c::d) c.toNat (a++c::d).length=a.length:=by
 have e:(a++c::d).length=(a.length+1)+d.length:=by simp;omega
 rw[e,lastAt_tail d.length (fun i h1 h2=>by
  rw[List.getD_eq_getElem?_getD,List.getElem?_append_right (by omega),List.getElem?_eq_getElem (by simp;omega)];simp only[Option.getD_some];rw[List.getElem_cons];rw[dif_neg (by omega)];exact h _ (List.getElem_mem _))]
 rw[lastAt,if_pos (by simp)]
theorem decL_map (R:List Nat):(plainB R).map (fun c=>c.toNat)=R.filter (·<128):=by
 unfold plainB;rw[List.map_map]
 conv=>rhs;rw[←List.map_id (R.filter (·<128))]
 refine List.map_congr_left fun x hx=> ?_
 have:=(List.mem_filter.1 hx).2;simp only[decide_eq_true_eq]at this;exact u8_of (by omega)
theorem decTop_start (R:List Nat) (D:List UInt8) (hD:∀c∈D,c.toNat≠45):decTop (startOut R++D)=decL D 72 128 0 true (R.filter (·<128)):=by
 unfold startOut decTop;by_cases h:0<(plainB R).length
 ·rw[if_pos h,List.append_assoc,List.singleton_append]
  have hl:= @lastAt_mid (plainB R) D 45 hD;rw[show(45:UInt8).toNat=45 from rfl]at hl;rw[hl,if_pos (by omega)];have e1:((plainB R).length:Int).toNat=(plainB R).length:=by omega
  rw[e1,List.take_left,decL_map];congr 1;rw[show plainB R++45::D=(plainB R++[45])++D by simp];exact List.drop_left' (by simp)
 ·have hn:plainB R=[]:=List.length_eq_zero_iff.1 (by omega)
  rw[if_neg h,List.append_nil,hn,List.nil_append,if_neg (by rw[lastAt_none hD];omega),←decL_map,hn];rfl
theorem tellS_no (p:Nat) (t:TS) (qs:List (Nat×Nat)):∀c∈tellS p t qs,c.toNat≠45:=fun c hc=>by
 obtain⟨d,hd,rfl⟩:=tellS_dig p t qs c hc;rw[digB_nat hd];unfold digB;split<;>omega
theorem okPs_ge (p:Nat):∀(qs:List (Nat×Nat)) (t:TS),okPs p t qs→∀q∈qs,t.sign≤q.1
 |[],t,_,q,hq=>by simp at hq
 |q0::qs,t,⟨h1,h2⟩,q,hq=>by
  rcases List.mem_cons.1 hq with rfl|hq
  ·exact h1.1
  ·have:=okPs_ge p qs _ h2 q hq
   have h3:=h1.1;have:q0.1≤q.1:=this;omega
theorem foldl_len (l:List Nat):∀qs:List (Nat×Nat),(qs.foldl ins l).length=l.length+qs.length:=fun qs=>by rw[foldl_runI,runI_len];simp
theorem dec_encR {R:List Nat} (hR:R.length≤1680) (hx:∀c∈R,¬badSign c):decTop (encR R)=some R:=by
 have hx1:∀c∈R,c≤1114111:=fun c hc=>by have:=hx c hc;unfold badSign at this;omega
 obtain⟨qs,h1,h2,h3,h4⟩:=enc_tells R (by omega) hx1;have hpl:(plainB R).length=(R.filter (·<128)).length:=by simp[plainB]
 have hlen:=foldl_len (R.filter (·<128)) qs;rw[h2]at hlen;rw[h4,decTop_start R _ (tellS_no _ _ _)];have:=dec_tells (plainB R).length qs _ ⟨72,128,0,(plainB R).length⟩ (R.filter (·<128)) (Nat.lt_succ_self _) hpl.symm (Nat.zero_le _) (Nat.le_refl _) h1 (fun q hq=>hx _ (h3 q hq).1) (by show(plainB R).length+_≤_;omega);rw[h2]at this;simpa[decL]using this
theorem encR_small {R:List Nat} (hR:R.length≤1680) (hx:∀c∈R,c≤1114111):(encR R).length≤65536:=by
 have h:=run_ok (by omega) _ _ (start_ok R hx);have h1:=h.out;have h2:=h.done;unfold encR;omega
theorem encodeL_valid {s:List UInt8} (hs:s.length≤65536) (hv:Lib.validD s=true):encodeL s=(encR (runes s),0):=by
 unfold encodeL;rw[if_neg (by omega),if_pos hv]
theorem back_law {s:List UInt8} (hs:s.length≤1680) (hv:Lib.validD s=true):decode (encodeL s).1=(s,0):=by
 obtain⟨h1,h2⟩:=bytes_runes _ s (Nat.le_refl _) hv;have hl:=runes_len _ s (Nat.le_refl _);have hp:=encodeL_plain s;rw[encodeL_valid (by omega) hv]at hp⊢;rw[decode_plain (encR_small (by omega) (runes_le _ s (Nat.le_refl _))) hp,dec_encR (by omega) h2];show(bytesL (runes s),0)=_;rw[h1]
theorem ins_filter {l:List Nat} {q:Nat×Nat} (h:128≤q.1):(ins l q).filter (·<128)=l.filter (·<128):=by
 unfold ins;rw[List.filter_append,List.filter_append,List.filter_cons_of_neg (by simp;omega),List.filter_nil,List.append_nil,←List.filter_append,List.take_append_drop]
theorem foldl_filter:∀(qs:List (Nat×Nat)) (l:List Nat),(∀q∈qs,128≤q.1)→(qs.foldl ins l).filter (·<128)=l.filter (·<128)
 |[],_,_=>rfl
 |q::qs,l,h=>by rw[List.foldl_cons,foldl_filter qs _ (fun q hq=>h q (List.mem_cons_of_mem _ hq)),ins_filter (h q List.mem_cons_self)]
theorem ins_mem {l:List Nat} {q:Nat×Nat} {x:Nat} (h:x∈ins l q):x=q.1∨x∈l:=by
 unfold ins at h;rcases List.mem_append.1 h with h|h
 ·rcases List.mem_append.1 h with h|h
  ·exact .inr (List.mem_of_mem_take h)
  ·exact .inl (List.mem_singleton.1 h)
 ·exact .inr (List.mem_of_mem_drop h)
theorem foldl_mem:∀(qs:List (Nat×Nat)) (l:List Nat) (x:Nat),x∈qs.foldl ins l→(∃q∈qs,x=q.1)∨x∈l
 |[],l,x,h=> .inr h
 |q::qs,l,x,h=>by
  rcases foldl_mem qs _ x h with ⟨q',hq,e⟩|h
  ·exact .inl ⟨q',List.mem_cons_of_mem _ hq,e⟩
  ·rcases ins_mem h with h|h
   ·exact .inl ⟨q,List.mem_cons_self,h⟩
   ·exact .inr h
theorem enc_decL {D:List UInt8} {l R:List Nat} (hl:∀x∈l,x<128) (h:decL D 72 128 0 true l=some R) (hR:R.length≤20000):
 (∀c∈R,¬badSign c)∧plainB R=l.map UInt8.ofNat∧encR R=startOut R++lowerL D:=by
 obtain⟨qs,h1,h2,h3,h4⟩:=tells_dec l.length _ D ⟨72,128,0,l.length⟩ l R rfl (Nat.zero_le _) (Nat.le_refl _) (by simpa[decL]using h)
 have hge:∀q∈qs,128≤q.1:=okPs_ge _ _ _ h1
 have hbad:∀c∈R,¬badSign c:=fun c hc=>by
  rw[h3]at hc;rcases foldl_mem qs l c hc with ⟨q,hq,rfl⟩|hc
  ·exact h2 q hq
  ·have:=hl c hc
   unfold badSign;omega
 have hfl:R.filter (·<128)=l:=by
  rw[h3,foldl_filter qs l hge,List.filter_eq_self];intro x hx;simpa using hl x hx
 have hpl:plainB R=l.map UInt8.ofNat:=by unfold plainB;rw[hfl]
 have hpn:(plainB R).length=l.length:=by rw[hpl];simp
 obtain⟨rs,g1,g2,g3,g4⟩:=enc_tells R hR (fun c hc=>by have:=hbad c hc;unfold badSign at this;omega)
 rw[hpn]at g1 g4
 rw[hfl]at g2
 have e:qs=rs:=by
  have:=ins_unique hl qs.reverse rs.reverse (by have:=okPs_okR l.length l.length qs [] _ h1 trivial rfl rfl rfl;simpa using this) (by have:=okPs_okR l.length l.length rs [] _ g1 trivial rfl rfl rfl;simpa using this) (by rw[←foldl_runI,←foldl_runI,←h3,g2]);exact List.reverse_inj.1 this
 rw[←e,←h4]at g4
 exact⟨hbad,hpl,g4⟩
def cutN (s:List UInt8):Nat:=(lastAt s 45 s.length).toNat
theorem lastAt_is {s:List UInt8} {c:Nat}:∀k,k≤s.length→0≤lastAt s c k→(s.getD (lastAt s c k).toNat 0).toNat=c
 |0,_,h=>by simp[lastAt]at h
 |k+1,hk,h=>by
  rw[lastAt]at h⊢;split
  ·rename_i e
   simpa using e
  ·rename_i e
   rw[if_neg e]at h;exact lastAt_is k (by omega) h
theorem again_law {s t:List UInt8} (hs:s.length≤1680) (h:decode s=(t,0)):encodeL t=(s.take (cutN s)++lowerL (s.drop (cutN s)),0)∧Lib.validD t=true:=by
 have hp:∀c∈s,c.toNat<128:=by
  intro c hc;rcases Nat.lt_or_ge c.toNat 128 with h'|h'
  ·exact h'
  ·rw[decode_wide (by omega) ⟨c,hc,h'⟩]at h
   cases h
 rw[decode_plain (by omega) hp]at h
 cases hd:decTop s with
 |none=>rw[hd]at h;cases h
 |some R=>
  rw[hd]at h;have ht:bytesL R=t:=(Prod.mk.inj h).1;have hR:=decTop_len hd;have key:(∀c∈R,¬badSign c)∧encR R=s.take (cutN s)++lowerL (s.drop (cutN s)):=by
   have hlt:=lastAt_lt s 45 s.length;unfold decTop at hd;by_cases hc:0<lastAt s 45 s.length
   ·rw[if_pos hc]at hd
    have hcut:cutN s<s.length:=by unfold cutN;omega
    have hc0:0<cutN s:=by unfold cutN;omega
    obtain⟨h1,h2,h3⟩:=enc_decL (fun x hx=>by
     obtain⟨c,hc,rfl⟩:=List.mem_map.1 hx;exact hp c (List.mem_of_mem_take hc)) hd (by omega)
    refine⟨h1, ?_⟩;have hpl:plainB R=s.take (cutN s):=by
     rw[h2,List.map_map]
     conv=>rhs;rw[←List.map_id (s.take (cutN s))]
     exact List.map_congr_left fun c _=>by simp
    have hat:s.getD (cutN s) 0=45:=by
     have:=lastAt_is s.length (Nat.le_refl _) (Int.le_of_lt hc);exact UInt8.toNat_inj.1 this
    have hdr:s.drop (cutN s)=45::s.drop (cutN s+1):=by
     rw[List.drop_eq_getElem_cons hcut,←hat,List.getD_eq_getElem?_getD,List.getElem?_eq_getElem hcut];rfl
    rw[h3,startOut,hpl,if_pos (by simp;omega),hdr];simp only[List.append_assoc,List.singleton_append];rfl
   ·rw[if_neg hc]at hd
    have hcut:cutN s=0:=by unfold cutN;omega
    obtain⟨h1,h2,h3⟩:=enc_decL (fun x hx=>by simp at hx) hd (by omega);refine⟨h1, ?_⟩;rw[h3,hcut,startOut,h2];simp
  obtain⟨h1,h2⟩:=key;obtain⟨h3,h4⟩:=runes_bytes R h1;have hl:=bytesL_len R;rw[ht]at h3 h4 hl;refine⟨?_,h4⟩;rw[encodeL_valid (by omega) h4,h3,h2]
def small (c:UInt8):Prop:=c.toNat<65∨90<c.toNat
theorem low_small (c:UInt8):small (lowB c):=by
 unfold small;rw[lowB_nat];unfold lowN;split<;>omega
theorem small_low {c:UInt8} (h:small c):lowB c=c:=by
 unfold small at h;unfold lowB lowN;rw[if_neg (by omega)];simp
theorem lowerL_small (s:List UInt8):∀c∈lowerL s,small c:=fun c hc=>by
 obtain⟨x,_,rfl⟩:=List.mem_map.1 hc;exact low_small x
theorem lowerL_id {s:List UInt8} (h:∀c∈s,small c):lowerL s=s:=by
 unfold lowerL
 conv=>rhs;rw[←List.map_id s]
 exact List.map_congr_left fun c hc=>small_low (h c hc)
theorem valid_plain {s:List UInt8} (h:plainL s=true):Lib.validD s=true:=by
 have:=Lib.validD_ascii s.length s (fun b hb=>plainL_iff.1 h b (List.mem_of_mem_take hb));rw[this,List.drop_length];exact Lib.validD_nil
theorem enc_out {s:List UInt8} (hs:s.length≤20000) (hv:Lib.validD s=true):plainB (runes s)=s.filter (fun c=>decide (c.toNat<128))∧∃D,(∀c∈D,∃d,d<36∧c=UInt8.ofNat (digB d))∧encodeL s=(startOut (runes s)++D,0):=by
 obtain⟨h1,h2⟩:=bytes_runes _ s (Nat.le_refl _) hv;have hl:=runes_len _ s (Nat.le_refl _);obtain⟨qs,_,_,_,h4⟩:=enc_tells (runes s) (by omega) (runes_le _ s (Nat.le_refl _));have hb:=bytes_plain (runes s) h2;rw[h1]at hb;exact⟨hb.symm,_,tellS_dig _ _ _,by rw[encodeL_valid (by omega) hv,h4]⟩
theorem enc_has {s:List UInt8} (hs:s.length≤20000) (hv:Lib.validD s=true) {c:UInt8} (hc:c∈s) (h:c.toNat<128):c∈(encodeL s).1:=by
 obtain⟨h1,D,_,h2⟩:=enc_out hs hv;rw[h2];refine List.mem_append_left _ (List.mem_append_left _ ?_);rw[h1];exact List.mem_filter.2 ⟨hc,by simpa using h⟩
theorem dig_small {d:Nat} (h:d<36):small (UInt8.ofNat (digB d)):=by
 unfold small;rw[digB_nat h];unfold digB;split<;>omega
theorem enc_small {s:List UInt8} (hs:s.length≤20000) (hv:Lib.validD s=true) (h:∀c∈s,small c):∀c∈(encodeL s).1,small c:=by
 obtain⟨h1,D,hD,h2⟩:=enc_out hs hv;rw[h2];intro c hc;rcases List.mem_append.1 hc with hc|hc
 ·rcases List.mem_append.1 hc with hc|hc
  ·rw[h1]at hc
   exact h c (List.mem_filter.1 hc).1
  ·split at hc
   ·rw[List.mem_singleton]at hc;subst hc;unfold small;decide
   ·simp at hc
 ·obtain⟨d,hd,rfl⟩:=hD c hc
  exact dig_small hd
theorem encodeL_ok {s:List UInt8} (hs:s.length≤65536) (h:(encodeL s).2=0):Lib.validD s=true:=by
 unfold encodeL at h;rw[if_neg (by omega)]at h
 cases hv:Lib.validD s with
 |true=>rfl
 |false=>rw[hv,if_neg (by simp)]at h;cases h
theorem few_few (l:List UInt8):fewL (fewB++l)=true∧(fewB++l).drop 4=l:=by
 constructor
 ·unfold fewL fewB;simp
 ·rfl
theorem plain_app {a b:List UInt8} (ha:∀c∈a,c.toNat<128) (hb:∀c∈b,c.toNat<128):plainL (a++b)=true:=plainL_iff.2 fun c hc=>by
 rcases List.mem_append.1 hc with hc|hc
 ·exact ha c hc
 ·exact hb c hc
theorem few_plain:∀c∈fewB,c.toNat<128:=by decide
theorem few_small:∀c∈fewB,small c:=by unfold small;decide
structure Stays (l:List UInt8):Prop where
 one:1≤l.length
 le:l.length≤63
 plain:∀c∈l,c.toNat<128
 small:∀c∈l,small c
 again:labelL l=(l,0)
 shown:labelL (showL l)=(l,0)
 len:(showL l).length≤1000
theorem lab_plain {l:List UInt8} (h0:l≠[]) (hp:plainL l=true) (hs:∀c∈l,small c):labelL l=if fewL l then
 (if (decode (l.drop 4)).2≠0∨plainL (decode (l.drop 4)).1 then ([],5)
 else if (encodeL (decode (l.drop 4)).1).1≠l.drop 4 then ([],5)else finL l)
 else finL l:=by
 rw[labelL_else h0 (valid_plain hp),lowerL_id hs,if_neg (by rw[hp];simp)]
theorem told_ge (n b k:Nat):1≤(toldL n b k).length:=by
 by_cases h:n<bnd b k
 ·rw[told_last h];simp
 ·rw[told_more (by omega)];simp
theorem tellS_ge (p:Nat):∀(t:TS) (qs:List (Nat×Nat)),qs.length≤(tellS p t qs).length
 |t,[]=>Nat.zero_le _
 |t,q::qs=>by
  have h1:=told_ge (delta t q) t.b 36;have h2:=tellS_ge p (tstep p t q) qs;rw[tellS,List.length_append,List.length_cons];omega
theorem encL_ge {s:List UInt8} (hs:s.length≤20000) (hv:Lib.validD s=true):s.length≤4*(encodeL s).1.length:=by
 obtain⟨h1,h2⟩:=bytes_runes _ s (Nat.le_refl _) hv;have hl:=runes_len _ s (Nat.le_refl _);obtain⟨qs,_,g2,_,g4⟩:=enc_tells (runes s) (by omega) (runes_le _ s (Nat.le_refl _));have hb:=bytesL_len (runes s);rw[h1]at hb;have hf:=foldl_len ((runes s).filter (·<128)) qs;rw[g2]at hf;have ht:=tellS_ge (plainB (runes s)).length ⟨72,128,0,(plainB (runes s)).length⟩ qs;have hpl:(plainB (runes s)).length=((runes s).filter (·<128)).length:=by simp[plainB]
 have hst:(plainB (runes s)).length≤(startOut (runes s)).length:=by unfold startOut;simp
 rw[encodeL_valid (by omega) hv,g4,List.length_append];omega
theorem stays {s l:List UInt8} (hs:s.length≤4100) (h:labelL s=(l,0)):Stays l:=by
 have hz:(labelL s).2=0:=by rw[h]
 obtain⟨hne,hv,hc⟩:=labelL_zero hz;have hul:(lowerL s).length=s.length:=by simp[lowerL]
 have hlow:=lowerL_small s;have hpl:=plain_lower s;have hs0:0<s.length:=List.length_pos_iff.2 hne;rcases hc with ⟨hp,he,hl,h63⟩|⟨hp,hf,hd,hpt,he,hl,h63⟩|⟨hp,hf,hl,h63⟩
 ·rw[h]at hl
  have hl:l=fewB++(encodeL (lowerL s)).1:=(Prod.mk.inj hl).1;rw[hp]at hpl;generalize lowerL s=u at*;have hvu:=encodeL_ok (by omega) he;have hge:=encL_ge (s:=u) (by omega) hvu;have hu17:u.length≤1000:=by
   have:=h63;simp[fewB]at this;omega
  have hback:=back_law (by omega) hvu;have hep:=encodeL_plain u;have hes:=enc_small (by omega) hvu hlow;obtain⟨x,hx⟩:∃x,encodeL u=(x,0):=⟨(encodeL u).1,Prod.ext rfl he⟩;rw[hx]at hback hep hes hl h63;simp only at hback hep hes hl h63;subst hl;obtain⟨f1,f2⟩:=few_few x;have hlp:plainL (fewB++x)=true:=plain_app few_plain hep;have hls:∀c∈fewB++x,small c:=fun c hc=>by
   rcases List.mem_append.1 hc with hc|hc
   ·exact few_small c hc
   ·exact hes c hc
  have hlab:labelL (fewB++x)=(fewB++x,0):=by
   rw[lab_plain (by simp[fewB]) hlp hls,if_pos f1,f2,hback,if_neg (by simp[hpl]),hx,if_neg (by simp),finL_ok h63]
  have hsh:showL (fewB++x)=u:=by
   unfold showL;rw[hlab,lowerL_id hls,f1,hlp,if_neg (by simp),f2,hback]
  have hu0:u≠[]:=fun e=>by rw[e]at hpl;cases hpl
  refine⟨by simp[fewB],h63,plainL_iff.1 hlp,hls,hlab, ?_,by rw[hsh];omega⟩;rw[hsh,labelL_else hu0 hvu,lowerL_id hlow,if_pos hpl,hx,if_neg (by simp),finL_ok h63]
 ·rw[h]at hl
  have hl:l=lowerL s:=(Prod.mk.inj hl).1;rw[hp]at hpl;subst hl;generalize lowerL s=l at*;have hl0:l≠[]:=fun e=>by rw[e]at hul;simp at hul;omega
  obtain⟨t,ht⟩:∃t,decode (l.drop 4)=(t,0):=⟨(decode (l.drop 4)).1,Prod.ext rfl hd⟩;have hdl:=decode_len (l.drop 4);obtain⟨hag,hvt⟩:=again_law (by simp;omega) ht;rw[ht]at hpt he hdl;simp only at hpt he hdl;have hxe:encodeL t=(l.drop 4,0):=by
   rw[hag]at he⊢;rw[Prod.mk.injEq];exact⟨he,rfl⟩
  have hlab:labelL l=(l,0):=by
   rw[lab_plain hl0 hpl hlow,if_pos hf,ht,if_neg (by simp[hpt]),he,if_neg (by simp),finL_ok (by omega)]
  have hsh:showL l=t:=by
   unfold showL;rw[hlab,lowerL_id hlow,hf,hpl,if_neg (by simp),ht]
  have hdr:(l.drop 4).length≤63:=by simp;omega
  have hts:∀c∈t,small c:=fun c hc=>by
   by_cases h128:c.toNat<128
   ·have:=enc_has (by omega) hvt hc h128
    rw[hxe]at this;exact hlow c (List.mem_of_mem_drop this)
   ·unfold small;omega
  have ht0:t≠[]:=fun e=>by rw[e]at hpt;cases hpt
  have hfw:=few_whole hf;refine⟨by omega,by omega,plainL_iff.1 hpl,hlow,hlab, ?_,by rw[hsh];omega⟩;rw[hsh,labelL_else ht0 hvt,lowerL_id hts,if_pos hpt,hxe,if_neg (by simp),←hfw,finL_ok (by omega)]
 ·rw[h]at hl
  have hl:l=lowerL s:=(Prod.mk.inj hl).1;rw[hp]at hpl;subst hl;generalize lowerL s=l at*;have hl0:l≠[]:=fun e=>by rw[e]at hul;simp at hul;omega
  have hlab:labelL l=(l,0):=by
   rw[lab_plain hl0 hpl hlow,if_neg (by rw[hf];simp),finL_ok (by omega)]
  have hsh:showL l=l:=by
   unfold showL;rw[lowerL_id hlow,if_pos (.inr (.inl hf))]
  exact⟨by omega,by omega,plainL_iff.1 hpl,hlow,hlab,by rw[hsh,hlab],by rw[hsh];omega⟩
theorem lab_unfew {s:List UInt8} (hf:fewL (lowerL s)=false) (hp:plainL s=true):labelL s=if s=[]then ([],5)else finL (lowerL s):=by
 by_cases h0:s=[]
 ·rw[if_pos h0];unfold labelL;rw[if_pos (.inl h0)]
 ·rw[if_neg h0,labelL_else h0 (valid_plain hp),plain_lower,if_neg (by rw[hp];simp),if_neg (by rw[hf];simp)]
theorem low_46 {c:UInt8} (h:lowB c=46):c=46:=by
 have h1:(lowB c).toNat=46:=by rw[h];rfl
 rw[lowB_nat]at h1;unfold lowN at h1;apply UInt8.toNat_inj.1;show c.toNat=46;split at h1<;>omega
theorem lowerL_46 {s:List UInt8} (h:(46:UInt8)∈lowerL s):(46:UInt8)∈s:=by
 obtain⟨c,hc,e⟩:=List.mem_map.1 h;rwa[low_46 e]at hc
theorem dig_not {d:Nat} (h:d<36):97≤(UInt8.ofNat (digB d)).toNat∧(UInt8.ofNat (digB d)).toNat≤122∨48≤(UInt8.ofNat (digB d)).toNat∧(UInt8.ofNat (digB d)).toNat≤57:=by
 rw[digB_nat h];unfold digB;split<;>omega
theorem enc_mem {s:List UInt8} (hs:s.length≤20000) (hv:Lib.validD s=true):∀c∈(encodeL s).1,(c∈s∧c.toNat<128)∨c=45∨(97≤c.toNat∧c.toNat≤122)∨(48≤c.toNat∧c.toNat≤57):=by
 obtain⟨h1,D,hD,h2⟩:=enc_out hs hv;rw[h2];intro c hc;rcases List.mem_append.1 hc with hc|hc
 ·rcases List.mem_append.1 hc with hc|hc
  ·rw[h1]at hc
   obtain⟨a,b⟩:=List.mem_filter.1 hc;exact .inl ⟨a,by simpa using b⟩
  ·split at hc
   ·rw[List.mem_singleton]at hc;exact .inr (.inl hc)
   ·simp at hc
 ·obtain⟨d,hd,rfl⟩:=hD c hc
  exact .inr (.inr (dig_not hd))
theorem label_mem {s l:List UInt8} (hs:s.length≤4100) (h:labelL s=(l,0)):∀c∈l,(c∈lowerL s∧c.toNat<128)∨c=45∨(97≤c.toNat∧c.toNat≤122)∨(48≤c.toNat∧c.toNat≤57):=by
 have hz:(labelL s).2=0:=by rw[h]
 have hp:=(stays hs h).plain;obtain⟨hne,hv,hc⟩:=labelL_zero hz;have hul:(lowerL s).length=s.length:=by simp[lowerL]
 rcases hc with ⟨_,he,hl,_⟩|⟨_,_,_,_,_,hl,_⟩|⟨_,_,hl,_⟩
 ·rw[h]at hl
  have hl:l=fewB++(encodeL (lowerL s)).1:=(Prod.mk.inj hl).1;intro c hc;rw[hl]at hc;rcases List.mem_append.1 hc with hc|hc
  ·have:∀c∈fewB,c=45∨(97≤c.toNat∧c.toNat≤122)∨(48≤c.toNat∧c.toNat≤57):=by decide
   exact .inr (this c hc)
  ·exact enc_mem (by omega) (encodeL_ok (by omega) he) c hc
 ·rw[h]at hl
  have hl:l=lowerL s:=(Prod.mk.inj hl).1;subst hl;exact fun c hc=> .inl ⟨hc,hp c hc⟩
 ·rw[h]at hl
  have hl:l=lowerL s:=(Prod.mk.inj hl).1;subst hl;exact fun c hc=> .inl ⟨hc,hp c hc⟩
theorem label_point {s l:List UInt8} (hs:s.length≤4100) (h:labelL s=(l,0)) (h46:(46:UInt8)∉s):∀c∈l,c≠46:=by
 intro c hc e;subst e;rcases label_mem hs h 46 hc with ⟨h1,_⟩|h1|h1|h1
 ·exact h46 (lowerL_46 h1)
 ·cases h1
 ·exact absurd h1 (by decide)
 ·exact absurd h1 (by decide)
theorem labelsM_each:∀ {L r:List (List UInt8)},labelsM L=some r→r.length=L.length∧∀u∈r,∃t∈L,labelL t=(u,0)
 |[],r,h=>by injection h with h;subst h;simp
 |x::L,r,h=>by
  rw[labelsM_cons]at h;split at h
  ·cases h
  ·rename_i h0
   split at h
   ·cases h
   ·rename_i q hq
    injection h with h;subst h;obtain⟨h1,h2⟩:=labelsM_each hq;refine⟨by simp[h1],fun u hu=> ?_⟩;rcases List.mem_cons.1 hu with rfl|hu
    ·exact⟨x,List.mem_cons_self,Prod.ext rfl (by omega)⟩
    ·obtain⟨t,ht,e⟩:=h2 u hu
     exact⟨t,List.mem_cons_of_mem _ ht,e⟩
theorem labelsM_stay:∀ {L:List (List UInt8)},(∀u∈L,labelL u=(u,0))→labelsM L=some L
 |[],_=>rfl
 |x::L,h=>by
  rw[labelsM_cons,h x List.mem_cons_self,if_neg (by simp),labelsM_stay (fun u hu=>h u (List.mem_cons_of_mem _ hu))]
theorem cutLast_ne {l:List (List UInt8)} (h:l≠[]):cutLast l≠[]:=by
 unfold cutLast;split
 ·rename_i h1
  intro e;have:=congrArg List.length e;simp at this;omega
 ·exact h
theorem cutLast_mem {l:List (List UInt8)} {p:List UInt8} (h:p∈cutLast l):p∈l:=by
 unfold cutLast at h;split at h
 ·exact(List.dropLast_sublist l).subset h
 ·exact h
theorem cutLast_id {l:List (List UInt8)} (h:∀p∈l,p≠[]):cutLast l=l:=by
 unfold cutLast;rw[if_neg];rintro⟨h1,h2⟩;rw[List.getLastD_eq_getLast?]at h2
 cases hl:l.getLast? with
 |none=>rw[List.getLast?_eq_none_iff]at hl;subst hl;simp at h1
 |some x=>
  rw[hl]at h2;exact h x (List.mem_of_getLast? hl) h2
theorem cutLast_snoc {l:List (List UInt8)} (h:l≠[]):cutLast (l++[[]])=l:=by
 unfold cutLast;have:=List.length_pos_iff.2 h;rw[if_pos ⟨by simp;omega,by simp⟩,List.dropLast_concat]
theorem parts_snoc (c:UInt8):∀s:List UInt8,partsL c (s++[c])=partsL c s++[[]]
 |[]=>by rw[List.nil_append,partsL_hit];rfl
 |x::s=>by
  have ih:=parts_snoc c s;by_cases h:x=c
  ·subst h;rw[List.cons_append,partsL_hit,partsL_hit,ih];rfl
  ·rw[List.cons_append,partsL_miss h,partsL_miss h,ih]
   cases hh:partsL c s with
   |nil=>exact absurd hh (partsL_ne c s)
   |cons a l=>rfl
structure NameOk (x:List UInt8) (l:List (List UInt8)):Prop where
 join:x=joinL 46 l
 ne:l≠[]
 stay:∀u∈l,Stays u
 point:∀u∈l,∀c∈u,c≠46
theorem name_ok {s x:List UInt8} (hs:s.length≤4100) (h:nameL s=some x):∃l,NameOk x l:=by
 unfold nameL at h;split at h
 ·cases h
 ·rename_i l hl
  injection h with h;obtain⟨h1,h2⟩:=labelsM_each hl;have hp:=(partsL_le 46 (pctL s)).1;have hle:=pctL_le s;have hall:∀u∈l,∃t,t.length≤4100∧(46:UInt8)∉t∧labelL t=(u,0):=fun u hu=>by
   obtain⟨t,ht,e⟩:=h2 u hu;have hm:=cutLast_mem ht;have:=hp t hm;exact⟨t,by omega,fun hc=>(partsL_mem 46 _ t hm 46 hc).2 rfl,e⟩
  refine⟨l,h.symm,fun e=> ?_,fun u hu=> ?_,fun u hu=> ?_⟩
  ·rw[e]at h1
   have:=cutLast_ne (partsL_ne 46 (pctL s));exact this (List.length_eq_zero_iff.1 h1.symm)
  ·obtain⟨t,ht,_,e⟩:=hall u hu
   exact stays ht e
  ·obtain⟨t,ht,h46,e⟩:=hall u hu
   exact label_point ht e h46
theorem NameOk.parts {x:List UInt8} {l:List (List UInt8)} (h:NameOk x l):partsL 46 x=l:=by
 rw[h.join];exact parts_join h.ne h.point
theorem NameOk.full {x:List UInt8} {l:List (List UInt8)} (h:NameOk x l):∀p∈l,p≠[]:=fun p hp e=>by
 have:=(h.stay p hp).one;subst e;simp at this
theorem NameOk.name {x:List UInt8} {l:List (List UInt8)} (h:NameOk x l) (h37:(37:UInt8)∉x):nameL x=some x:=by
 unfold nameL;rw[pctL_plain h37,h.parts,cutLast_id h.full,labelsM_stay (fun u hu=>(h.stay u hu).again)];simp only;rw[←h.join]
theorem NameOk.point_behind {x:List UInt8} {l:List (List UInt8)} (h:NameOk x l) (h37:(37:UInt8)∉x):nameL (x++[46])=some x:=by
 unfold nameL;rw[pctL_plain (by simp[h37]),parts_snoc,h.parts,cutLast_snoc h.ne,labelsM_stay (fun u hu=>(h.stay u hu).again)];simp only;rw[←h.join]
theorem join_all {P:UInt8→Prop} (h46:P 46):∀ {l:List (List UInt8)},(∀u∈l,∀c∈u,P c)→∀c∈joinL 46 l,P c
 |[],_,c,hc=>by simp[joinL]at hc
 |[p],h,c,hc=>h p List.mem_cons_self c hc
 |p::q::l,h,c,hc=>by
  rw[joinL_cons (by simp)]at hc;rcases List.mem_append.1 hc with hc|hc
  ·exact h p List.mem_cons_self c hc
  ·rcases List.mem_cons.1 hc with rfl|hc
   ·exact h46
   ·exact join_all h46 (fun u hu=>h u (List.mem_cons_of_mem _ hu)) c hc
theorem NameOk.small {x:List UInt8} {l:List (List UInt8)} (h:NameOk x l):∀c∈x,small c:=by
 rw[h.join];exact join_all (by unfold Go.Proofs.YtjkipdoebkhkaaaGreatDoor.small;decide) (fun u hu=>(h.stay u hu).small)
theorem NameOk.plain {x:List UInt8} {l:List (List UInt8)} (h:NameOk x l):∀c∈x,c.toNat<128:=by
 rw[h.join];exact join_all (P:=fun c=>c.toNat<128) (by decide) (fun u hu=>(h.stay u hu).plain)
theorem NameOk.x_ne {x:List UInt8} {l:List (List UInt8)} (h:NameOk x l):x≠[]:=fun e=>by
 have hp:=h.parts;rw[e]at hp;have:=h.full [] (by rw[←hp];simp[partsL]);exact this rfl
theorem clean_foul {x:List UInt8} (h:cleanL x=true):(∀c∈x,foulB c=false)∧x.length≤253:=by
 unfold cleanL at h;simp only[Bool.and_eq_true,Bool.not_eq_true',List.any_eq_false,decide_eq_true_eq]at h;exact⟨fun c hc=>by simpa using h.1 c hc,h.2⟩
theorem clean_37 {x:List UInt8} (h:cleanL x=true):(37:UInt8)∉x:=fun hc=>by
 have:=(clean_foul h).1 37 hc;revert this;decide
theorem clean_head {x:List UInt8} (h:cleanL x=true):x.head?≠some 91:=fun hc=>by
 have:=(clean_foul h).1 91 (List.mem_of_head? hc);revert this;decide
def numB (c:UInt8):Prop:=0≤hexI c.toNat∨c.toNat=120∨c.toNat=88
theorem num_mem {p:List UInt8} {n:Nat} (h:numL p=some n):p≠[]∧∀c∈p,numB c:=by
 unfold numL at h;by_cases hp:hexPre p=true
 ·rw[if_pos hp]at h
  have hm:=cntF_mem h;unfold hexPre at hp;simp only[Bool.and_eq_true,decide_eq_true_eq,beq_iff_eq,Bool.or_eq_true]at hp;obtain⟨⟨h1,h2⟩,h3⟩:=hp
  match p,h1 with
  |a::b::r,_=>
   refine⟨by simp,fun c hc=> ?_⟩;rcases List.mem_cons.1 hc with rfl|hc
   ·left
    have e:c.toNat=48:=h2;rw[e];decide
   ·rcases List.mem_cons.1 hc with rfl|hc
    ·right;exact h3
    ·exact .inl (hm c hc)
 ·rw[if_neg hp]at h
  by_cases h0:p=[]
  ·rw[if_pos h0]at h;cases h
  ·rw[if_neg h0]at h
   refine⟨h0, ?_⟩;split at h
   ·exact fun c hc=> .inl (cntF_mem h c hc)
   ·exact fun c hc=> .inl (cntF_mem h c hc)
theorem numB_ok {c:UInt8} (h:numB c):c.toNat<128∧c≠46∧c≠37∧c≠91∧(48≤c.toNat∧c.toNat≤57∨97≤c.toNat∧c.toNat≤122∨65≤c.toNat∧c.toNat≤90):=by
 have hr:48≤c.toNat∧c.toNat≤57∨97≤c.toNat∧c.toNat≤122∨65≤c.toNat∧c.toNat≤90:=by
  rcases h with h|h|h
  ·unfold hexI at h
   split at h
   ·omega
   ·split at h
    ·omega
    ·split at h
     ·omega
     ·omega
  ·omega
  ·omega
 refine⟨by omega, ?_, ?_, ?_,hr⟩
 all_goals
  intro e;subst e;revert hr;decide
theorem hexI_low (c:UInt8):hexI (lowB c).toNat=hexI c.toNat:=by
 rw[lowB_nat];unfold lowN;by_cases h:65≤c.toNat∧c.toNat≤90
 ·rw[if_pos h]
  unfold hexI;rw[if_neg (by omega),if_neg (show ¬(48≤c.toNat∧c.toNat≤57)by omega),if_neg (show ¬(97≤c.toNat∧c.toNat≤102)by omega)];by_cases h1:c.toNat≤70
  ·rw[if_pos (by omega),if_pos (by omega)];omega
  ·rw[if_neg (by omega),if_neg (by omega),if_neg (by omega)]
 ·rw[if_neg h]
theorem cntF_low {base:Nat}:∀(s:List UInt8) (acc:Nat),cntF base acc (lowerL s)=cntF base acc s
 |[],_=>rfl
 |c::s,acc=>by
  show cntF base acc (lowB c::lowerL s)=_;unfold cntF;rw[hexI_low];split
  ·rfl
  ·exact cntF_low s _
theorem low_zero (c:UInt8):(lowB c).toNat=48↔c.toNat=48:=by
 rw[lowB_nat];unfold lowN;split<;>omega
theorem low_x (c:UInt8):((lowB c).toNat=120∨(lowB c).toNat=88)↔(c.toNat=120∨c.toNat=88):=by
 rw[lowB_nat];unfold lowN;split<;>omega
theorem hexPre_low (s:List UInt8):hexPre (lowerL s)=hexPre s:=by
 match s with
 |[]=>rfl
 |[a]=>rfl
 |a::b::r=>
  rw[Bool.eq_iff_iff];unfold hexPre;simp only[Bool.and_eq_true,decide_eq_true_eq,beq_iff_eq,Bool.or_eq_true];show(_∧(lowB a).toNat=48)∧((lowB b).toNat=120∨(lowB b).toNat=88)↔(_∧a.toNat=48)∧(b.toNat=120∨b.toNat=88);rw[low_zero,low_x];simp[lowerL]
theorem numL_low (s:List UInt8):numL (lowerL s)=numL s:=by
 unfold numL;rw[hexPre_low];by_cases hp:hexPre s=true
 ·rw[if_pos hp,if_pos hp]
  have:(lowerL s).drop 2=lowerL (s.drop 2):=by simp[lowerL]
  rw[this];exact cntF_low _ _
 ·rw[if_neg hp,if_neg hp]
  match s with
  |[]=>rfl
  |a::r=>
   rw[if_neg (show lowerL (a::r)≠[]by simp[lowerL]),if_neg (show a::r≠[]by simp)];have e:((lowerL (a::r)).getD 0 0).toNat=(lowB a).toNat:=rfl;have e2:((a::r).getD 0 0).toNat=a.toNat:=rfl;rw[e,e2];have:=low_zero a;by_cases h:a.toNat=48
   ·rw[if_pos (this.2 h),if_pos h];exact cntF_low _ _
   ·rw[if_neg (fun e=>h (this.1 e)),if_neg h];exact cntF_low _ _
theorem allDig_low {base:Nat} (s:List UInt8):allDig base (lowerL s)=allDig base s:=by
 unfold allDig lowerL;rw[List.all_map];congr 1
 funext c
 show(decide (0≤hexI (lowB c).toNat)&&decide (hexI (lowB c).toNat<(base:Int)))=_;rw[hexI_low]
theorem likeL_low (s:List UInt8):likeL (lowerL s)=likeL s:=by
 unfold likeL;rw[hexPre_low,numL_low,allDig_low]
 cases s<;>rfl
theorem evalF_low:∀(l:List (List UInt8)) (room all:Nat),evalF (l.map lowerL) room all=evalF l room all
 |[],_,_=>rfl
 |x::l,room,all=>by
  rw[List.map_cons];unfold evalF;rw[numL_low]
  cases numL x with
  |none=>rfl
  |some n=>
   simp only[List.map_eq_nil_iff];split
   ·rfl
   ·split
    ·exact evalF_low l _ _
    ·rfl
theorem evalF_num:∀ {l:List (List UInt8)} {room all n:Nat},evalF l room all=some n→∀p∈l,∃k,numL p=some k
 |[],_,_,_,_,p,hp=>by simp at hp
 |x::l,room,all,n,h,p,hp=>by
  unfold evalF at h
  cases hx:numL x with
  |none=>rw[hx]at h;cases h
  |some k=>
   rw[hx]at h;rcases List.mem_cons.1 hp with rfl|hp
   ·exact⟨k,hx⟩
   ·simp only at h
    split at h
    ·rename_i h0;rw[h0]at hp;simp at hp
    ·split at h
     ·exact evalF_num h p hp
     ·cases h
theorem evalF_lt:∀ {l:List (List UInt8)} {room all n:Nat},l≠[]→(all+1)*room≤4294967296→evalF l room all=some n→n<4294967296
 |[],_,_,_,h,_,_=>absurd rfl h
 |x::l,room,all,n,_,hr,h=>by
  unfold evalF at h
  cases hx:numL x with
  |none=>rw[hx]at h;cases h
  |some k=>
   rw[hx]at h;simp only at h;split at h
   ·split at h
    ·injection h with h
     rw[Nat.add_mul,Nat.one_mul]at hr;omega
    ·cases h
   ·rename_i hl
    split at h
    ·rename_i hk
     refine evalF_lt hl ?_ h;have h1:(all*256+k+1)*(room/256)≤((all+1)*256)*(room/256):=Nat.mul_le_mul_right _ (by omega);have h2:((all+1)*256)*(room/256)=(all+1)*(256*(room/256)):=by rw[Nat.mul_assoc]
     have h3:(all+1)*(256*(room/256))≤(all+1)*room:=Nat.mul_le_mul_left _ (Nat.mul_div_le _ _);omega
    ·cases h
theorem fourParts_ne (s:List UInt8):fourParts s≠[]:=cutLast_ne (partsL_ne 46 s)
theorem fourParts_eq (s:List UInt8):fourParts s=cutLast (partsL 46 s):=rfl
theorem four_yes {s:List UInt8} {n:Nat} (h:fourL s=(true,0,n)):likeL ((fourParts s).getLastD [])=true∧(fourParts s).length≤4∧evalF (fourParts s) 4294967296 0=some n:=by
 unfold fourL at h
 cases hl:likeL ((fourParts s).getLastD [])with
 |false=>rw[hl,if_pos rfl]at h;cases h
 |true=>
  rw[hl,if_neg (by simp)]at h;by_cases h4:4<(fourParts s).length
  ·rw[if_pos h4]at h;cases h
  ·rw[if_neg h4]at h
   cases he:evalF (fourParts s) 4294967296 0 with
   |none=>rw[he]at h;cases h
   |some m=>
    rw[he]at h;injection h with _ h;injection h with _ h;subst h;exact⟨rfl,by omega,rfl⟩
theorem four_lt {s:List UInt8} {n:Nat} (h:fourL s=(true,0,n)):n<4294967296:=by
 obtain⟨_,_,h3⟩:=four_yes h;exact evalF_lt (fourParts_ne s) (by decide) h3
theorem fourL_of {l:List (List UInt8)} {n:Nat} (h0:l≠[]) (hl:likeL (l.getLastD [])=true) (h4:l.length≤4) (he:evalF l 4294967296 0=some n):fourParts (joinL 46 l)=l∧fourL (joinL 46 l)=(true,0,n):=by
 have hn:=evalF_num he;have hp:fourParts (joinL 46 l)=l:=by
  rw[fourParts_eq,parts_join h0 (fun p hp x hx=>by
   obtain⟨k,hk⟩:=hn p hp;exact(numB_ok ((num_mem hk).2 x hx)).2.1)]
  exact cutLast_id (fun p hp=>by
   obtain⟨k,hk⟩:=hn p hp;exact(num_mem hk).1)
 refine⟨hp, ?_⟩;unfold fourL;rw[hp,hl,if_neg (by simp),if_neg (by omega),he]
theorem num_few {p:List UInt8} {n:Nat} (h:numL p=some n):fewL (lowerL p)=false:=by
 have hm:=(num_mem h).2
 cases hf:fewL (lowerL p)with
 |false=>rfl
 |true=>
  have:=few_whole hf;have h45:(45:UInt8)∈lowerL p:=by rw[this];simp[fewB]
  obtain⟨c,hc,e⟩:=List.mem_map.1 h45;have h1:=(numB_ok (hm c hc)).2.2.2.2;have h2:(lowB c).toNat=45:=by rw[e];rfl
  rw[lowB_nat]at h2;unfold lowN at h2;split at h2<;>omega
theorem num_label {p:List UInt8} {n:Nat} (h:numL p=some n) (hl:p.length≤63):labelL p=(lowerL p,0):=by
 have hm:=num_mem h;rw[lab_unfew (num_few h) (plainL_iff.2 fun c hc=>(numB_ok (hm.2 c hc)).1),if_neg hm.1,finL_ok (by simpa[lowerL]using hl)]
theorem labelsM_num:∀ {l:List (List UInt8)},(∀p∈l,(∃n,numL p=some n)∧p.length≤63)→labelsM l=some (l.map lowerL)
 |[],_=>rfl
 |p::l,h=>by
  obtain⟨⟨n,hn⟩,h63⟩:=h p List.mem_cons_self;rw[labelsM_cons,num_label hn h63,if_neg (by simp),labelsM_num (fun q hq=>h q (List.mem_cons_of_mem _ hq))];rfl
theorem cutLast_all {P:UInt8→Prop} {l:List (List UInt8)} (h:∀u∈cutLast l,∀c∈u,P c):∀u∈l,∀c∈u,P c:=by
 unfold cutLast at h;split at h
 ·rename_i h1
  intro u hu;have hne:l≠[]:=fun e=>by rw[e]at hu;simp at hu
  rw[←List.dropLast_concat_getLast hne]at hu;rcases List.mem_append.1 hu with hu|hu
  ·exact h u hu
  ·rw[List.mem_singleton]at hu
   rw[List.getLastD_eq_getLast?,List.getLast?_eq_some_getLast hne]at h1;have h2:l.getLast hne=[]:=h1.2;rw[h2]at hu;subst hu;simp
 ·exact h
theorem join_len_map (f:List UInt8→List UInt8) (hf:∀p,(f p).length=p.length):∀l:List (List UInt8),(joinL 46 (l.map f)).length=(joinL 46 l).length
 |[]=>rfl
 |[p]=>hf p
 |p::q::l=>by
  have ih:=join_len_map f hf (q::l);rw[List.map_cons,joinL_cons (by simp),joinL_cons (by simp),List.length_append,List.length_append,List.length_cons,List.length_cons,ih,hf]
theorem join_snoc:∀ {l:List (List UInt8)},l≠[]→∀p,joinL 46 (l++[p])=joinL 46 l++46::p
 |[],h,_=>absurd rfl h
 |[q],_,p=>rfl
 |q::r::l,_,p=>by
  rw[List.cons_append,joinL_cons (by simp),joinL_cons (by simp),join_snoc (by simp)];simp
theorem cutLast_join (s:List UInt8):s=joinL 46 (cutLast (partsL 46 s))∨s=joinL 46 (cutLast (partsL 46 s))++[46]:=by
 have hj:=join_parts 46 s;unfold cutLast;split
 ·rename_i h
  right;have hne:=partsL_ne 46 s;rw[List.getLastD_eq_getLast?,List.getLast?_eq_some_getLast hne]at h;have h2:(partsL 46 s).getLast hne=[]:=h.2;have hl:=List.dropLast_concat_getLast hne;rw[h2]at hl;have hd:(partsL 46 s).dropLast≠[]:=fun e=>by
   have:=congrArg List.length e;simp at this;omega
  rw[←join_snoc hd,hl,hj]
 ·exact .inl hj.symm
theorem four_name {s:List UInt8} {n:Nat} (hs:s.length≤63) (h:fourL s=(true,0,n)):
 s.head?≠some 91∧∃x,nameL s=some x∧cleanL x=true∧fourL x=(true,0,n)∧x.length≤63:=by
 obtain⟨h1,h2,h3⟩:=four_yes h
 have hn:=evalF_num h3
 have hall:∀u∈partsL 46 s,∀c∈u,numB c:=cutLast_all (P:=numB) fun u hu c hc=>by
  obtain⟨k,hk⟩:=hn u hu;exact(num_mem hk).2 c hc
 have hs':∀c∈s,numB c∨c=46:=by
  rw[←join_parts 46 s];exact join_all (P:=fun c=>numB c∨c=46) (.inr rfl) (fun u hu c hc=> .inl (hall u hu c hc))
 have h37:(37:UInt8)∉s:=fun hc=>by
  rcases hs' 37 hc with h|h
  ·exact(numB_ok h).2.2.1 rfl
  ·cases h
 refine⟨fun hc=> ?_,joinL 46 ((fourParts s).map lowerL), ?_, ?_, ?_, ?_⟩
 ·rcases hs' 91 (List.mem_of_head? hc)with h|h
  ·exact(numB_ok h).2.2.2.1 rfl
  ·cases h
 ·unfold nameL
  rw[pctL_plain h37,←fourParts_eq,labelsM_num (fun p hp=>⟨hn p hp,by
   have:=(partsL_le 46 s).1 p (cutLast_mem hp);omega⟩)]
 ·have hm:∀c∈joinL 46 ((fourParts s).map lowerL),foulB c=false:=by
   refine join_all (P:=fun c=>foulB c=false) (by decide) ?_;intro u hu c hc;obtain⟨p,hp,rfl⟩:=List.mem_map.1 hu;obtain⟨d,hd,rfl⟩:=List.mem_map.1 hc;have hb:=(numB_ok (hall p (cutLast_mem hp) d hd)).2.2.2.2;have hl:48≤(lowB d).toNat∧(lowB d).toNat≤57∨97≤(lowB d).toNat∧(lowB d).toNat≤122:=by
    rw[lowB_nat];unfold lowN;split<;>omega
   have key:∀v:Fin 256,(48≤v.val∧v.val≤57∨97≤v.val∧v.val≤122)→foulB (UInt8.ofNat v.val)=false:=by decide+kernel
   have:=key ⟨(lowB d).toNat,u8_lt _⟩ hl;simpa using this
  unfold cleanL;simp only[Bool.and_eq_true,Bool.not_eq_true',List.any_eq_false,decide_eq_true_eq];refine⟨fun c hc=>by simp[hm c hc], ?_⟩;rw[join_len_map lowerL (fun p=>by simp[lowerL])];have:=cutLast_join s;rw[←fourParts_eq]at this;rcases this with e|e
  ·rw[←e];omega
  ·have:=congrArg List.length e
   simp at this;omega
 ·refine(fourL_of (by simpa using fourParts_ne s) ?_ (by simpa using h2) (by rw[evalF_low];exact h3)).2
  have:((fourParts s).map lowerL).getLastD []=lowerL ((fourParts s).getLastD []):=by
   rw[List.getLastD_eq_getLast?,List.getLastD_eq_getLast?,List.getLast?_map]
   cases(fourParts s).getLast?<;>rfl
  rw[this,likeL_low];exact h1
 ·rw[join_len_map lowerL (fun p=>by simp[lowerL])]
  have:=cutLast_join s;rw[←fourParts_eq]at this;rcases this with e|e
  ·rw[←e];omega
  ·have:=congrArg List.length e
   simp at this;omega
theorem four_host {s:List UInt8} {n:Nat} (hs:s.length≤63) (h:fourL s=(true,0,n)):hostL s=some (text4 (bytes4 n)):=by
 obtain⟨h0,x,h1,h2,h3,_⟩:=four_name hs h;unfold hostL;rw[if_neg h0,h1];simp only;rw[h2,if_neg (by simp)];unfold fourT;rw[h3];simp
/-! ### Four bytes told -/
theorem dec_facts:∀v:Fin 256,dec8 v.val≠[]∧(dec8 v.val).length≤3∧numL (dec8 v.val)=some v.val∧likeL (dec8 v.val)=true∧lowerL (dec8 v.val)=dec8 v.val:=by decide+kernel
theorem text4_cons (a b c d:Nat):text4 [a,b,c,d]=joinL 46 [dec8 a,dec8 b,dec8 c,dec8 d]:=rfl
theorem text4_four {a b c d:Nat} (ha:a<256) (hb:b<256) (hc:c<256) (hd:d<256):fourL (text4 [a,b,c,d])=(true,0,((a*256+b)*256+c)*256+d)∧(text4 [a,b,c,d]).length≤15∧fourParts (text4 [a,b,c,d])=[dec8 a,dec8 b,dec8 c,dec8 d]:=by
 have fa:=dec_facts ⟨a,ha⟩;have fb:=dec_facts ⟨b,hb⟩;have fc:=dec_facts ⟨c,hc⟩;have fd:=dec_facts ⟨d,hd⟩;simp only at fa fb fc fd;obtain⟨_,a2,a3,a4,_⟩:=fa;obtain⟨_,b2,b3,b4,_⟩:=fb;obtain⟨_,c2,c3,c4,_⟩:=fc;obtain⟨_,d2,d3,d4,_⟩:=fd;have:=fourL_of (l:=[dec8 a,dec8 b,dec8 c,dec8 d]) (n:=((a*256+b)*256+c)*256+d) (by simp) d4 (by simp) (by
  simp only[evalF,a3,b3,c3,d3];simp[ha,hb,hc,hd])
 rw[text4_cons];refine⟨this.2, ?_,this.1⟩;simp only[joinL,List.length_append,List.length_cons];omega
theorem bytes4_back {n:Nat} (h:n<4294967296):((n/16777216 % 256*256+n/65536 % 256)*256+n/256 % 256)*256+n % 256=n:=by omega
theorem text4_back {n:Nat} (h:n<4294967296):fourL (text4 (bytes4 n))=(true,0,n)∧(text4 (bytes4 n)).length≤15:=by
 have:=text4_four (a:=n/16777216 % 256) (b:=n/65536 % 256) (c:=n/256 % 256) (d:=n % 256) (by omega) (by omega) (by omega) (by omega);rw[bytes4_back h]at this;exact⟨this.1,this.2.1⟩
theorem host_text4 {n:Nat} (h:n<4294967296):hostL (text4 (bytes4 n))=some (text4 (bytes4 n)):=by
 obtain⟨h1,h2⟩:=text4_back h;exact four_host (by omega) h1
theorem idx_step {c:UInt8} {s:List UInt8} (h:c≠58∨s.head?≠some 58):Lib.index (c::s) [58,58]=if Lib.index s [58,58]= -1 then -1 else Lib.index s [58,58]+1:=by
 have hpre:([58,58]:List UInt8).isPrefixOf (c::s)=false:=by
  cases s with
  |nil=>simp[List.isPrefixOf]
  |cons d s=>
   simp only[List.isPrefixOf,Bool.and_true,Bool.and_eq_false_iff,beq_eq_false_iff_ne];rcases h with h|h
   ·exact .inl fun e=>h e.symm
   ·exact .inr fun e=>h (by rw[←e];rfl)
 rw[Lib.index,if_neg (by rw[hpre];simp)];by_cases h1:Lib.index s [58,58]= -1
 ·rw[if_pos h1,if_pos (by simpa using h1)]
 ·rw[if_neg h1,if_neg (by simpa using h1)]
theorem idx_word:∀ {p:List UInt8} {s:List UInt8},(∀c∈p,c≠58)→Lib.index (p++s) [58,58]=if Lib.index s [58,58]= -1 then -1 else Lib.index s [58,58]+p.length
 |[],s,_=>by
  rw[List.nil_append];split
  ·assumption
  ·simp
 |c::p,s,h=>by
  have ih:= @idx_word p s (fun d hd=>h d (List.mem_cons_of_mem _ hd));have hge:=Lib.index_ge s [58,58];rw[List.cons_append,idx_step (.inl (h c List.mem_cons_self)),ih];by_cases h1:Lib.index s [58,58]= -1
  ·rw[if_pos h1,if_pos h1,if_pos rfl]
  ·rw[if_neg h1,if_neg h1,if_neg (by omega),List.length_cons];omega
def Words (l:List (List UInt8)):Prop:=∀p∈l,p≠[]∧∀c∈p,c≠58
theorem Words.tail {p:List UInt8} {l:List (List UInt8)} (h:Words (p::l)):Words l:=fun q hq=>h q (List.mem_cons_of_mem _ hq)
theorem words_head {q:List UInt8} {l:List (List UInt8)} (h:Words (q::l)) (r:List UInt8):(joinL 58 (q::l)++r).head?≠some 58:=by
 obtain⟨h1,h2⟩:=h q List.mem_cons_self;obtain⟨c,q,rfl⟩:=List.exists_cons_of_ne_nil h1;have:c≠58:=h2 c List.mem_cons_self
 cases l with
 |nil=>simpa[joinL]using this
 |cons r l=>simpa[joinL]using this
theorem idx_none:∀ {l:List (List UInt8)},Words l→Lib.index (joinL 58 l) [58,58]= -1
 |[],_=>rfl
 |[p],h=>by
  have:=idx_word (p:=p) (s:=[]) (h p List.mem_cons_self).2;rw[List.append_nil]at this;rw[joinL,this,if_pos (show Lib.index [] [58,58]= -1 from rfl)]
 |p::q::l,h=>by
  have hd:=words_head h.tail [];rw[List.append_nil]at hd;rw[joinL_cons (by simp),idx_word (h p List.mem_cons_self).2,idx_step (.inr hd),idx_none h.tail,if_pos rfl,if_pos rfl]
theorem idx_at:∀ {l:List (List UInt8)} {B:List UInt8},Words l→Lib.index (joinL 58 l++58::58::B) [58,58]=((joinL 58 l).length:Int)
 |[],B,_=>by simp[joinL,Lib.index]
 |[p],B,h=>by
  have:=idx_word (p:=p) (s:=58::58::B) (h p List.mem_cons_self).2;have e:Lib.index (58::58::B) [58,58]=0:=by simp[Lib.index]
  rw[joinL,this,e,if_neg (by decide)];omega
 |p::q::l,B,h=>by
  have hd:=words_head h.tail (58::58::B);rw[joinL_cons (by simp),List.append_assoc,List.cons_append,idx_word (h p List.mem_cons_self).2,idx_step (.inr hd),idx_at h.tail,if_neg (by omega),if_neg (by omega)];simp only[List.length_append,List.length_cons];omega
theorem hexI_hexB:∀d:Fin 16,hexI (hexB d.val).toNat=(d.val:Int):=by decide+kernel
theorem cnt_dig {base:Nat} (h2:2≤base) (h16:base≤16):∀(f n:Nat),n<base^(f+1)→n≤4294967296→cntF base 0 (digF base f n)=some n
 |f,n,h,hn=>by
  have one:∀m,m<base→cntF base 0 [hexB m]=some m:=fun m hm=>by
   have:=hexI_hexB ⟨m,by omega⟩;simp only at this;simp only[cntF];rw[this,if_neg (by omega)];congr 1;omega
  match f with
  |0=>
   rw[Nat.zero_add,Nat.pow_one]at h;rw[digF_low h,one n h]
  |f+1=>
   by_cases hb:n<base
   ·rw[digF_low hb,one n hb]
   ·have hlt:n/base<base^(f+1):=by
     rw[Nat.div_lt_iff_lt_mul (by omega)];rwa[Nat.pow_succ]at h
    have hle:n/base≤n:=Nat.div_le_self _ _;have hm:n % base<base:=Nat.mod_lt _ (by omega);have:=hexI_hexB ⟨n % base,by omega⟩;simp only at this;rw[digF_step (by omega),cntF_snoc,cnt_dig h2 h16 f (n/base) hlt (by omega)];simp only;rw[this,if_neg (by omega)];congr 1;have:=Nat.div_add_mod n base;rw[Nat.mul_comm]at this;omega
theorem digF_down {base:Nat} (hb:2≤base) (k n:Nat) (h:n<base^(k+1)):∀j,digF base (k+j) n=digF base k n
 |0=>rfl
 |j+1=>by
  have:base^(k+1)≤base^(k+j+1):=Nat.pow_le_pow_right (by omega) (by omega);rw[←Nat.add_assoc,digF_more hb (k+j) n (by omega),digF_down hb k n h j]
theorem hex4_ok {n:Nat} (h:n<65536):hex4 n≠[]∧(hex4 n).length≤4∧cntL 16 (hex4 n)=some n:=by
 have e:hex4 n=digF 16 3 n:=digF_down (by decide) 3 n (by omega) 17;rw[e];have:=digF_len 16 3 n;refine⟨fun e=>by rw[e]at this;simp at this,this.2,cnt_dig (by decide) (by decide) 3 n (by omega) (by omega)⟩
theorem hex4_piece {n:Nat} (h:n<65536):pieceN (hex4 n)=some [UInt8.ofNat (n/256),UInt8.ofNat (n % 256)]:=by
 obtain⟨h1,h2,h3⟩:=hex4_ok h;unfold pieceN;rw[h3];simp only;rw[if_neg (by rintro(e|e);exact h1 e;omega)]
theorem hex4_words {P:List Nat} (h:∀n∈P,n<65536):Words (P.map hex4):=by
 intro p hp;obtain⟨n,hn,rfl⟩:=List.mem_map.1 hp;obtain⟨h1,_,h3⟩:=hex4_ok (h n hn);refine⟨h1,fun c hc e=> ?_⟩;subst e;have:=cntF_mem h3 58 hc;revert this;decide
def unp:List Nat→List UInt8
 |[]=>[]
 |n::P=>UInt8.ofNat (n/256)::UInt8.ofNat (n % 256)::unp P
theorem unp_len:∀P:List Nat,(unp P).length=2*P.length
 |[]=>rfl
 |n::P=>by simp[unp,unp_len P];omega
theorem unp_app:∀P Q:List Nat,unp (P++Q)=unp P++unp Q
 |[],_=>rfl
 |n::P,Q=>by simp[unp,unp_app P Q]
theorem unp_zero:∀k:Nat,unp (List.replicate k 0)=List.replicate (2*k) 0
 |0=>rfl
 |k+1=>by
  rw[List.replicate_succ,unp,unp_zero k,show 2*(k+1)=2*k+1+1 by omega,List.replicate_succ,List.replicate_succ];rfl
theorem unp_pairs:∀ {b:List UInt8} {n:Nat},b.length=2*n→unp (pairsN b)=b
 |[],_,_=>rfl
 |[a],n,h=>by simp at h;omega
 |a::c::r,n,h=>by
  simp only[List.length_cons]at h;rw[pairsN,unp,unp_pairs (b:=r) (n:=n-1) (by omega)];have h1:=a.toNat_lt;have h2:=c.toNat_lt;have e1:(256*a.toNat+c.toNat)/256=a.toNat:=by omega
  have e2:(256*a.toNat+c.toNat) % 256=c.toNat:=by omega
  rw[e1,e2];simp
theorem pairs_low:∀ {b:List UInt8},∀n∈pairsN b,n<65536
 |[],n,h=>by simp[pairsN]at h
 |[a],n,h=>by simp[pairsN]at h
 |a::c::r,n,h=>by
  rw[pairsN]at h;rcases List.mem_cons.1 h with rfl|h
  ·have h1:=a.toNat_lt
   have h2:=c.toNat_lt;omega
  ·exact pairs_low n h
theorem pairs_len:∀ {b:List UInt8} {n:Nat},b.length=2*n→(pairsN b).length=n
 |[],n,h=>by
  obtain rfl:n=0:=by simp at h;omega
  rfl
 |[a],n,h=>by simp at h;omega
 |a::c::r,n,h=>by
  simp only[List.length_cons]at h;obtain⟨m,rfl⟩:∃m,n=m+1:=⟨n-1,by omega⟩;rw[pairsN,List.length_cons,pairs_len (n:=m) (by omega)]
theorem pieces_unp {fin:Bool}:∀ {P:List Nat},(∀n∈P,n<65536)→piecesN fin (P.map hex4)=some (unp P)
 |[],_=>rfl
 |n::P,h=>by
  rw[List.map_cons,piecesN,hex4_piece (h n List.mem_cons_self),pieces_unp (fun m hm=>h m (List.mem_cons_of_mem _ hm))];rfl
theorem side_unp {fin:Bool} {P:List Nat} (h:∀n∈P,n<65536):sideN fin (joinL 58 (P.map hex4))=some (unp P):=by
 unfold sideN;by_cases h0:P=[]
 ·subst h0;rfl
 ·have hw:=hex4_words h
  have hne:joinL 58 (P.map hex4)≠[]:=by
   obtain⟨n,P,rfl⟩:=List.exists_cons_of_ne_nil h0;intro e;rw[List.map_cons]at hw e;have:=(hw (hex4 n) List.mem_cons_self).1
   cases hP:P.map hex4 with
   |nil=>rw[hP]at e;exact this e
   |cons q l=>rw[hP,joinL_cons (by simp)]at e;simp at e
  rw[if_neg hne,parts_join (by simpa using h0) (fun p hp=>(hw p hp).2),pieces_unp h]
theorem long_zero:∀a b c d e f g h:Bool,2≤(longR [a,b,c,d,e,f,g,h]).2→(([a,b,c,d,e,f,g,h].drop (longR [a,b,c,d,e,f,g,h]).1).take (longR [a,b,c,d,e,f,g,h]).2).all (·==true)=true:=by decide+kernel
theorem six_text {P:List Nat} (hl:P.length=8) (h:∀n∈P,n<65536):sixL (text6 P)=some (unp P):=by
 have hbd:(longR (P.map (·==0))).1+(longR (P.map (·==0))).2≤8∧(2≤(longR (P.map (·==0))).2→(((P.map (·==0)).drop (longR (P.map (·==0))).1).take (longR (P.map (·==0))).2).all (·==true)=true):=by
  have hz:(P.map (·==0)).length=8:=by simpa using hl
  generalize P.map (·==0)=z at*
  match z,hz with
  |[a,b,c,d,e,f,g,i],_=>exact⟨(long_bd a b c d e f g i).1,long_zero a b c d e f g i⟩
 unfold text6;simp only;split
 ·have hw:=idx_none (hex4_words h)
  unfold sixL;rw[if_pos hw,side_unp h];simp only;rw[if_pos (by rw[unp_len,hl])]
 ·rename_i h2
  obtain⟨hb1,hb2⟩:=hbd;have hz:=hb2 (by omega);clear hb2;generalize (longR (P.map (·==0))).1=f at*;generalize (longR (P.map (·==0))).2=n at*;have hA:∀m∈P.take f,m<65536:=fun m hm=>h m (List.mem_of_mem_take hm)
  have hB:∀m∈P.drop (f+n),m<65536:=fun m hm=>h m (List.mem_of_mem_drop hm)
  have hat:=idx_at (B:=joinL 58 ((P.drop (f+n)).map hex4)) (hex4_words hA);have hs:joinL 58 ((P.take f).map hex4)++[58,58]++joinL 58 ((P.drop (f+n)).map hex4)=joinL 58 ((P.take f).map hex4)++58::58::joinL 58 ((P.drop (f+n)).map hex4):=by simp
  have hmid:(P.drop f).take n=List.replicate n 0:=by
   rw[List.eq_replicate_iff];refine⟨by simp;omega,fun b hb=> ?_⟩;rw[List.all_eq_true]at hz;have:(b==0)∈((P.map (·==0)).drop f).take n:=by
    rw[←List.map_drop,←List.map_take];exact List.mem_map.2 ⟨b,hb,rfl⟩
   have:=hz _ this;simpa using this
  have hP:P=P.take f++List.replicate n 0++P.drop (f+n):=by
   rw[←hmid]
   conv=>lhs;rw[←List.take_append_drop f P,←List.take_append_drop n (P.drop f)]
   rw[List.drop_drop,List.append_assoc]
  rw[hs];unfold sixL;rw[hat,if_neg (by omega)];have e1:((joinL 58 ((P.take f).map hex4)).length:Int).toNat=(joinL 58 ((P.take f).map hex4)).length:=by omega
  rw[e1,List.take_left',side_unp hA]
  ·simp only
   have e2:(joinL 58 ((P.take f).map hex4)++58::58::joinL 58 ((P.drop (f+n)).map hex4)).drop ((joinL 58 ((P.take f).map hex4)).length+2)=joinL 58 ((P.drop (f+n)).map hex4):=by
    rw[←List.drop_drop,List.drop_left']
    ·rfl
    ·rfl
   rw[e2,side_unp hB];simp only;rw[unp_len,unp_len,List.length_take,List.length_drop,if_neg (by omega)];congr 1
   conv=>rhs;rw[hP,unp_app,unp_app,unp_zero]
   congr 3;omega
  ·rfl
theorem six_again {s b:List UInt8} (h:sixL s=some b) (hb:b.length=16):sixL (text6 (pairsN b))=some b:=by
 rw[six_text (pairs_len (n:=8) (by omega)) (fun n hn=>pairs_low n hn),unp_pairs (n:=8) (by omega)]
theorem in_again {s x:List UInt8} (hlen:∀ {s b:List UInt8},sixL s=some b→b.length=16) (h:inL s=some x):x.head?=some 91∧inL x.tail=some x:=by
 unfold inL at h;split at h
 ·cases hb:sixL s.dropLast with
  |none=>rw[hb]at h;cases h
  |some b=>
   rw[hb]at h;injection h with h;subst h;refine⟨rfl, ?_⟩;unfold inL;have e1:(91::text6 (pairsN b)++[93]).tail=text6 (pairsN b)++[93]:=rfl;rw[e1,if_pos (by simp),List.dropLast_concat,six_again hb (hlen hb)]
 ·cases h
structure HostOk (x:List UInt8) (l:List (List UInt8)):Prop where
 name:NameOk x l
 clean:cleanL x=true
 four:fourT x=some x
theorem HostOk.host {x:List UInt8} {l:List (List UInt8)} (h:HostOk x l):hostL x=some x:=by
 unfold hostL;rw[if_neg (clean_head h.clean),h.name.name (clean_37 h.clean)];simp only;rw[h.clean,if_neg (by simp),h.four]
theorem HostOk.behind {x:List UInt8} {l:List (List UInt8)} (h:HostOk x l):hostL (x++[46])=some x:=by
 obtain⟨c,r,e⟩:=List.exists_cons_of_ne_nil h.name.x_ne;have hd:(x++[46]).head?≠some 91:=by
  have:=clean_head h.clean;rw[e]at this⊢;exact this
 unfold hostL;rw[if_neg hd,h.name.point_behind (clean_37 h.clean)];simp only;rw[h.clean,if_neg (by simp),h.four]
theorem HostOk.lower {x:List UInt8} {l:List (List UInt8)} (h:HostOk x l):lowerL x=x:=lowerL_id h.name.small
theorem HostOk.le {x:List UInt8} {l:List (List UInt8)} (h:HostOk x l):1≤x.length∧x.length≤253:=⟨List.length_pos_iff.2 h.name.x_ne,(clean_foul h.clean).2⟩
theorem fourT_self {x:List UInt8} (h:fourT x=some x):(fourL x).2.1=0∧((fourL x).1=true→x=text4 (bytes4 (fourL x).2.2)):=by
 unfold fourT at h;split at h
 ·cases h
 ·rename_i h0
  refine⟨by omega,fun h1=> ?_⟩;rw[if_pos h1]at h;exact(Option.some.inj h).symm
theorem host_four {n:Nat} (h:n<4294967296):∃l,HostOk (text4 (bytes4 n)) l:=by
 obtain⟨h1,h2⟩:=text4_back h;obtain⟨h0,x,e1,e2,e3,_⟩:=four_name (by omega) h1;have e:x=text4 (bytes4 n):=by
  have hh:=host_text4 h;unfold nameL at e1;rw[←fourParts_eq]at e1;have h37:pctL (text4 (bytes4 n))=text4 (bytes4 n):=by
   refine pctL_plain fun hc=> ?_
   have:=hh;unfold bytes4 text4 at hc;have hd:∀v:Fin 256,∀c∈dec8 v.val,c≠37:=by decide+kernel
   refine join_all (P:=fun c=>c≠37) (by decide) ?_ 37 hc rfl;intro u hu;obtain⟨k,hk,rfl⟩:=List.mem_map.1 hu;have:k<256:=by simp at hk;omega
   exact hd ⟨k,this⟩
  rw[h37]at e1;have hp:=(text4_four (a:=n/16777216 % 256) (b:=n/65536 % 256) (c:=n/256 % 256) (d:=n % 256) (by omega) (by omega) (by omega) (by omega)).2.2;have hp:fourParts (text4 (bytes4 n))=(bytes4 n).map dec8:=hp;have hf:∀k∈bytes4 n,k<256:=fun k hk=>by simp[bytes4]at hk;omega
  rw[hp]at e1;have hl:labelsM ((bytes4 n).map dec8)=some ((bytes4 n).map dec8):=by
   rw[labelsM_num (fun p hp=>by
    obtain⟨k,hk,rfl⟩:=List.mem_map.1 hp;have:=dec_facts ⟨k,hf k hk⟩;exact⟨⟨k,this.2.2.1⟩,by have:=this.2.1;simp at this;omega⟩)]
   congr 1;rw[List.map_map];refine List.map_congr_left fun k hk=> ?_
   exact(dec_facts ⟨k,hf k hk⟩).2.2.2.2
  rw[hl]at e1;exact(Option.some.inj e1).symm
 subst e;obtain⟨l,hl⟩:=name_ok (by omega) e1;refine⟨l,hl,e2, ?_⟩;unfold fourT;rw[h1];simp
theorem host_ok {s x:List UInt8} (hs:s.length≤4100) (h:hostL s=some x):(x.head?=some 91∧hostL x=some x)∨∃l,HostOk x l:=by
 unfold hostL at h;split at h
 ·obtain⟨h1,h2⟩:=in_again sixL_len h
  left;refine⟨h1, ?_⟩;unfold hostL;rw[if_pos h1,h2]
 ·right
  cases hn:nameL s with
  |none=>rw[hn]at h;cases h
  |some y=>
   rw[hn]at h;simp only at h;by_cases hc:cleanL y=false
   ·rw[if_pos hc]at h;cases h
   ·rw[if_neg hc]at h
    have hc:cleanL y=true:=by simpa using hc
    obtain⟨l,hl⟩:=name_ok hs hn;by_cases h0:(fourL y).2.1=0
    ·cases h1:(fourL y).1 with
     |false=>
      rw[fourT_no' h0 h1]at h;obtain rfl:=Option.some.inj h;exact⟨l,hl,hc,fourT_no' h0 h1⟩
     |true=>
      rw[fourT_yes' h0 h1]at h;obtain rfl:=Option.some.inj h;have:fourL y=(true,0,(fourL y).2.2):=by rw[←h1,←h0]
      exact host_four (four_lt this)
    ·unfold fourT at h
     rw[if_pos h0]at h
     cases h
where
 fourT_no' {y:List UInt8} (h:(fourL y).2.1=0) (h1:(fourL y).1=false):fourT y=some y:=by unfold fourT;rw[if_neg (by omega),if_neg (by simp[h1])]
 fourT_yes' {y:List UInt8} (h:(fourL y).2.1=0) (h1:(fourL y).1=true):fourT y=some (text4 (bytes4 (fourL y).2.2)):=by unfold fourT;rw[if_neg (by omega),if_pos h1]
/-! ### What it is made of -/
theorem HostOk.sign {x:List UInt8} {l:List (List UInt8)} (h:HostOk x l):∀c∈x,32<c.toNat∧c.toNat<127∧c.toNat≠35∧c.toNat≠37∧c.toNat≠47∧c.toNat≠58∧c.toNat≠63∧c.toNat≠64∧c.toNat≠91∧c.toNat≠93∧c.toNat≠92:=by
 intro c hc;have h1:=(clean_foul h.clean).1 c hc;have h2:=h.name.plain c hc;have key:∀v:Fin 128,foulB (UInt8.ofNat v.val)=false→32<v.val∧v.val<127∧v.val≠35∧v.val≠37∧v.val≠47∧v.val≠58∧v.val≠63∧v.val≠64∧v.val≠91∧v.val≠93∧v.val≠92:=by decide+kernel
 exact key ⟨c.toNat,h2⟩ (by simpa using h1)
theorem HostOk.labels {x:List UInt8} {l:List (List UInt8)} (h:HostOk x l):(labelsL x=[x]∧machineL x=true∨labelsL x=l∧machineL x=false)∧∀u∈labelsL x,u≠[]:=by
 unfold labelsL;rw[if_neg h.name.x_ne]
 cases hm:machineL x with
 |true=>
  rw[if_pos rfl];refine⟨.inl ⟨rfl,rfl⟩,fun u hu=> ?_⟩;rw[List.mem_singleton]at hu;subst hu;exact h.name.x_ne
 |false=>
  rw[if_neg (by simp),h.name.parts];exact⟨.inr ⟨rfl,rfl⟩,h.name.full⟩
theorem br_head {x:List UInt8}:brL x=true↔x.head?=some 91:=by
 cases x with
 |nil=>simp[brL,Lib.hasPrefix]
 |cons c s=>
  rw[brL_cons];simp only[decide_eq_true_eq,List.head?_cons,Option.some.injEq];constructor
  ·intro h;exact UInt8.toNat_inj.1 (by rw[h];rfl)
  ·intro h;rw[h];rfl
theorem HostOk.unlike {x:List UInt8} {l:List (List UInt8)} (h:HostOk x l) (hm:machineL x=false):likeL (l.getLastD [])=false:=by
 have hb:brL x=false:=by
  cases hb:brL x with
  |false=>rfl
  |true=>exact absurd (br_head.1 hb) (clean_head h.clean)
 obtain⟨h0,_⟩:=fourT_self h.four;unfold machineL at hm;rw[hb,h0]at hm;have h1:(fourL x).1=false:=by simpa using hm
 have hp:fourParts x=l:=by rw[fourParts_eq,h.name.parts,cutLast_id h.name.full]
 cases hl:likeL (l.getLastD [])with
 |false=>rfl
 |true=>
  unfold fourL at h1;rw[hp,hl,if_neg (by simp)]at h1;split at h1
  ·cases h1
  ·split at h1<;>cases h1
theorem unlike_machine {l:List (List UInt8)} (h0:l≠[]) (hf:∀p∈l,p≠[]) (hp:∀p∈l,∀c∈p,c≠46) (hl:likeL (l.getLastD [])=false) (hb:(joinL 46 l).head?≠some 91):machineL (joinL 46 l)=false∧fourL (joinL 46 l)=(false,0,0):=by
 have h1:fourParts (joinL 46 l)=l:=by rw[fourParts_eq,parts_join h0 hp,cutLast_id hf]
 have h2:fourL (joinL 46 l)=(false,0,0):=by
  unfold fourL;rw[h1,if_pos hl]
 refine⟨?_,h2⟩;unfold machineL;rw[h2]
 cases hb':brL (joinL 46 l)with
 |false=>rfl
 |true=>exact absurd (br_head.1 hb') hb
theorem HostOk.up {x:List UInt8} {l:List (List UInt8)} (h:HostOk x l) (hm:machineL x=false) {i:Nat} (hi:i<l.length):machineL (joinL 46 (l.drop i))=false:=by
 have hne:l.drop i≠[]:=fun e=>by have:=congrArg List.length e;simp at this;omega
 refine(unlike_machine hne (fun p hp=>h.name.full p (List.mem_of_mem_drop hp)) (fun p hp=>h.name.point p (List.mem_of_mem_drop hp)) ?_ fun e=> ?_).1
 ·have:=h.unlike hm
  rw[List.getLastD_eq_getLast?]at this⊢;rwa[List.getLast?_drop,if_neg (by omega)]
 ·have hx:∀c∈joinL 46 (l.drop i),c≠91:=join_all (P:=fun c=>c≠91) (by decide) fun u hu c hc e=>by
   have hu:=List.mem_of_mem_drop hu;subst e;have hcx:(91:UInt8)∈x:=by
    rw[h.name.join];exact mem_join hu hc
   exact(h.sign 91 hcx).2.2.2.2.2.2.2.2.1 rfl
  exact hx 91 (List.mem_of_head? e) rfl
where
 mem_join {c:UInt8}:∀ {l:List (List UInt8)} {u:List UInt8},u∈l→c∈u→c∈joinL 46 l
  |[],_,h,_=>by simp at h
  |[p],u,h,hc=>by rw[List.mem_singleton]at h;subst h;exact hc
  |p::q::l,u,h,hc=>by
   rw[joinL_cons (by simp)];rcases List.mem_cons.1 h with rfl|h
   ·exact List.mem_append_left _ hc
   ·exact List.mem_append_right _ (List.mem_cons_of_mem _ (mem_join h hc))
end Go.Proofs.YtjkipdoebkhkaaaGreatDoor
