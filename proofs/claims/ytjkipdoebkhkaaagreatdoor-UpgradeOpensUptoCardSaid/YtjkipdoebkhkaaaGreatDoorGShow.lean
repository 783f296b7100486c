/- Signs and their bytes, plain: there and back. -/
import Derived.Test.YtjkipdoebkhkaaaGreatDoorGLab
set_option linter.unusedVariables false
set_option linter.unusedSimpArgs false
set_option maxHeartbeats 16000000
namespace Go.Proofs.YtjkipdoebkhkaaaGreatDoor
theorem toByteN {n:Nat} {x:UInt8} (h:n=x.toNat):UInt8.ofNat n=x:=by subst h;simp
theorem enc_dec (l:List UInt8) (hne:l≠[]) (hv:¬((Lib.decodeL l).1=65533∧(Lib.decodeL l).2=1)):encN (Lib.decodeL l).1=l.take (Lib.decodeL l).2∧¬badSign (Lib.decodeL l).1:=by
 have hl:0<l.length:=List.length_pos_iff.2 hne;rw[Lib.decodeL_N]at hv⊢;have k0:=(l.getD 0 0).toNat_lt;have k1:=(l.getD 1 0).toNat_lt;have k2:=(l.getD 2 0).toNat_lt;have k3:=(l.getD 3 0).toNat_lt;unfold encN badSign;rcases Lib.decodeN_shape l.length (l.getD 0 0).toNat (l.getD 1 0).toNat (l.getD 2 0).toNat (l.getD 3 0).toNat with ⟨c,e⟩|⟨c1,c2,c3,cv,e⟩|⟨c1,c2,c3,c4,cv,cs,e⟩|⟨c1,c2,c3,c4,c5,cv,cw,e⟩|e
 ·rw[e]
  dsimp only;rw[if_pos (by omega),Lib.takeA l hl,toByteN (x:=l.getD 0 0) rfl];exact⟨rfl,by omega⟩
 ·rw[e]
  dsimp only;rw[if_neg (by omega),if_pos (by omega),Lib.takeB l c2,toByteN (x:=l.getD 0 0) (by omega),toByteN (x:=l.getD 1 0) (by omega)];exact⟨rfl,by omega⟩
 ·rw[e]
  dsimp only;rw[if_neg (by omega),if_neg (by omega),if_pos (by omega),Lib.takeC l c2,toByteN (x:=l.getD 0 0) (by omega),toByteN (x:=l.getD 1 0) (by omega),toByteN (x:=l.getD 2 0) (by omega)];exact⟨rfl,by omega⟩
 ·rw[e]
  dsimp only;rw[if_neg (by omega),if_neg (by omega),if_neg (by omega),Lib.takeD l c2,toByteN (x:=l.getD 0 0) (by omega),toByteN (x:=l.getD 1 0) (by omega),toByteN (x:=l.getD 2 0) (by omega),toByteN (x:=l.getD 3 0) (by omega)];exact⟨rfl,by omega⟩
 ·rw[e]at hv
  exact absurd ⟨rfl,rfl⟩ hv
theorem bytes_runes:∀(n:Nat) (s:List UInt8),s.length≤n→Lib.validD s=true→bytesL (runes s)=s∧∀c∈runes s,¬badSign c
 |0,s,h,_=>by
  have:s=[]:=List.length_eq_zero_iff.1 (by omega);subst this;exact⟨rfl,fun c hc=>by simp[runes_nil]at hc⟩
 |n+1,s,h,hv=>by
  by_cases hne:s=[]
  ·subst hne
   exact⟨rfl,fun c hc=>by simp[runes_nil]at hc⟩
  ·have hw:=Lib.decodeL_width s
   have hl:0<s.length:=List.length_pos_iff.2 hne;rw[Lib.validD_step s hne]at hv;split at hv
   ·cases hv
   ·rename_i hx
    obtain⟨h1,h2⟩:=enc_dec s hne hx;obtain⟨h3,h4⟩:=bytes_runes n (s.drop (Lib.decodeL s).2) (by simp;omega) hv;rw[runes_step hne];refine⟨?_,fun c hc=> ?_⟩
    ·have e:bytesL ((Lib.decodeL s).1::runes (s.drop (Lib.decodeL s).2))=encN (Lib.decodeL s).1++bytesL (runes (s.drop (Lib.decodeL s).2)):=by simp[bytesL]
     rw[e,h1,h3,List.take_append_drop]
    ·rcases List.mem_cons.1 hc with rfl|hc
     ·exact h2
     ·exact h4 c hc
theorem dec_enc (x:Nat) (t:List UInt8) (hx:¬badSign x):Lib.decodeL (encN x++t)=(x,(encN x).length)∧¬(x=65533∧(encN x).length=1):=by
 unfold badSign at hx;rw[Lib.decodeL_N];unfold encN;by_cases c1:x<128
 ·rw[if_pos c1]
  simp only[List.cons_append,List.nil_append,List.getD_cons_zero,List.length_cons,List.length_nil,u8_of (show x<256 by omega)];unfold Lib.decodeN;rw[if_pos c1];exact⟨rfl,by omega⟩
 rw[if_neg c1];by_cases c2:x<2048
 ·rw[if_pos c2]
  simp only[List.cons_append,List.nil_append,List.getD_cons_zero,List.getD_cons_succ,List.length_cons,List.length_nil,u8_of (show 192+x/64<256 by omega),u8_of (show 128+x % 64<256 by omega)];unfold Lib.decodeN;rw[if_neg (by omega),if_pos (by omega),if_pos (by omega)];exact⟨by rw[Prod.mk.injEq];omega,by omega⟩
 rw[if_neg c2];by_cases c3:x<65536
 ·rw[if_pos c3]
  simp only[List.cons_append,List.nil_append,List.getD_cons_zero,List.getD_cons_succ,List.length_cons,List.length_nil,u8_of (show 224+x/4096<256 by omega),u8_of (show 128+x/64 % 64<256 by omega),u8_of (show 128+x % 64<256 by omega)];unfold Lib.decodeN;rw[if_neg (by omega),if_neg (by omega),if_pos (by omega),if_pos (by omega)];exact⟨by rw[Prod.mk.injEq];omega,by omega⟩
 rw[if_neg c3];simp only[List.cons_append,List.nil_append,List.getD_cons_zero,List.getD_cons_succ,List.length_cons,List.length_nil,u8_of (show 240+x/262144<256 by omega),u8_of (show 128+x/4096 % 64<256 by omega),u8_of (show 128+x/64 % 64<256 by omega),u8_of (show 128+x % 64<256 by omega)];unfold Lib.decodeN;rw[if_neg (by omega),if_neg (by omega),if_neg (by omega),if_pos (by omega),if_pos (by omega)];exact⟨by rw[Prod.mk.injEq];omega,by omega⟩
theorem encN_ne (x:Nat) (t:List UInt8):encN x++t≠[]:=by
 have:=(encN_len x).1;intro h;have:=congrArg List.length h;rw[List.length_append,List.length_nil]at this;omega
theorem runes_bytes:∀(l:List Nat),(∀c∈l,¬badSign c)→runes (bytesL l)=l∧Lib.validD (bytesL l)=true
 |[],_=>⟨rfl,Lib.validD_nil⟩
 |x::l,h=>by
  obtain⟨h1,h2⟩:=runes_bytes l (fun c hc=>h c (List.mem_cons_of_mem _ hc));obtain⟨h3,h4⟩:=dec_enc x (bytesL l) (h x List.mem_cons_self);have e:bytesL (x::l)=encN x++bytesL l:=by simp[bytesL]
  rw[e,runes_step (encN_ne x _),Lib.validD_step _ (encN_ne x _),h3,if_neg h4];simp only[List.drop_left,h1,h2,and_self]
theorem encN_small {x:Nat} (h:x<128):encN x=[UInt8.ofNat x]:=by unfold encN;rw[if_pos h]
theorem encN_great {x:Nat} (h:128≤x) (hx:¬badSign x):∀c∈encN x,128≤c.toNat:=by
 unfold badSign at hx;unfold encN;rw[if_neg (by omega)];intro c hc;split at hc
 ·simp only[List.mem_cons,List.not_mem_nil,or_false]at hc
  rcases hc with rfl|rfl
  all_goals(rw[u8_of (by omega)];omega)
 ·split at hc
  ·simp only[List.mem_cons,List.not_mem_nil,or_false]at hc
   rcases hc with rfl|rfl|rfl
   all_goals(rw[u8_of (by omega)];omega)
  ·simp only[List.mem_cons,List.not_mem_nil,or_false]at hc
   rcases hc with rfl|rfl|rfl|rfl
   all_goals(rw[u8_of (by omega)];omega)
theorem bytes_plain:∀(l:List Nat),(∀c∈l,¬badSign c)→(bytesL l).filter (fun c=>decide (c.toNat<128))=(l.filter (·<128)).map UInt8.ofNat
 |[],_=>rfl
 |x::l,h=>by
  have ih:=bytes_plain l (fun c hc=>h c (List.mem_cons_of_mem _ hc));have e:bytesL (x::l)=encN x++bytesL l:=by simp[bytesL]
  rw[e,List.filter_append,ih];by_cases c:x<128
  ·rw[encN_small c,List.filter_cons_of_pos (by rw[u8_of (by omega)];simpa using c),List.filter_cons_of_pos (by simpa using c)]
   rfl
  ·have:=encN_great (by omega) (h x List.mem_cons_self)
   rw[List.filter_eq_nil_iff.2 (fun c hc=>by have:=this c hc;simp;omega),List.filter_cons_of_neg (by simpa using c)];rfl
theorem digB_lt {d:Nat} (h:d<36):digB d<128:=by unfold digB;split<;>omega
theorem digB_nat {d:Nat} (h:d<36):(UInt8.ofNat (digB d)).toNat=digB d:=u8_of (by have:=digB_lt h;omega)
theorem digI_digB {d:Nat} (h:d<36):digI (UInt8.ofNat (digB d)).toNat=(d:Int):=by
 rw[digB_nat h];unfold digI digB;by_cases c:d<26
 ·rw[if_pos c,if_pos (by omega)];omega
 ·rw[if_neg c,if_neg (by omega),if_neg (by omega),if_pos (by omega)];omega
theorem lowB_dig {c:UInt8} (h:0≤digI c.toNat):lowB c=UInt8.ofNat (digB (digI c.toNat).toNat):=by
 unfold lowB;congr 1;have e:digI c.toNat=if 97≤c.toNat∧c.toNat≤122 then (c.toNat:Int)-97 else if 65≤c.toNat∧c.toNat≤90 then (c.toNat:Int)-65 else if 48≤c.toNat∧c.toNat≤57 then (c.toNat:Int)-22 else -1:=rfl;generalize digI c.toNat=d at*;generalize c.toNat=n at*;unfold lowN digB;by_cases c1:97≤n∧n≤122
 ·rw[if_pos c1]at e
  rw[if_neg (by omega),if_pos (by omega)];omega
 rw[if_neg c1]at e;by_cases c2:65≤n∧n≤90
 ·rw[if_pos c2]at e
  rw[if_pos c2,if_pos (by omega)];omega
 rw[if_neg c2]at e;by_cases c3:48≤n∧n≤57
 ·rw[if_pos c3]at e
  rw[if_neg (by omega),if_neg (by omega)];omega
 ·rw[if_neg c3]at e
  omega
theorem read_told:∀(j n b k w acc:Nat) (rest:List UInt8),n≤j→acc+n*w≤2147483647→readL b (toldL n b k++rest) k w acc=some (acc+n*w,rest):=by
 intro j
 induction j with
 |zero=>
  intro n b k w acc rest hn h;have hb:=bnd_bd b k;have:n=0:=by omega
  subst this;rw[told_last (by omega)];simp only[List.cons_append,List.nil_append];rw[readL_end (by rw[digI_digB (by omega)];omega) (by rw[digI_digB (by omega)];omega) (by rw[digI_digB (by omega)];omega),digI_digB (by omega)];rfl
 |succ j ih=>
  intro n b k w acc rest hn h;have hb:=bnd_bd b k;by_cases hl:n<bnd b k
  ·rw[told_last hl]
   simp only[List.cons_append,List.nil_append];rw[readL_end (by rw[digI_digB (by omega)];omega) (by rw[digI_digB (by omega),←Int.natCast_mul,←Int.natCast_add];omega) (by rw[digI_digB (by omega)];omega),digI_digB (by omega)];rfl
  ·have hm:=Nat.mod_lt (n-bnd b k) (show 0<36-bnd b k by omega)
   have hdm:=Nat.div_add_mod (n-bnd b k) (36-bnd b k);have hd:= @told_div n b k (by omega);rw[told_more (by omega)];have hd2:bnd b k+(n-bnd b k) % (36-bnd b k)<36:=by omega
   have he:n=(bnd b k+(n-bnd b k) % (36-bnd b k))+(36-bnd b k)*((n-bnd b k)/(36-bnd b k)):=by omega
   generalize bnd b k+(n-bnd b k) % (36-bnd b k)=d at*;generalize (n-bnd b k)/(36-bnd b k)=m at*;have hp:acc+n*w=acc+d*w+m*(w*(36-bnd b k)):=by
    rw[he,Nat.add_mul,Nat.mul_comm (36-bnd b k) m,Nat.mul_assoc,Nat.mul_comm (36-bnd b k) w];omega
   simp only[List.cons_append];rw[readL_go (by rw[digI_digB (by omega)];omega) (by rw[digI_digB (by omega),←Int.natCast_mul,←Int.natCast_add];omega) (by rw[digI_digB (by omega)];omega),digI_digB (by omega)];show readL b (toldL m b (k+36)++rest) (k+36) (w*(36-bnd b k)) (acc+d*w)=_;rw[ih m b (k+36) _ _ rest (by omega) (by omega),hp]
theorem told_read (b:Nat):∀(s:List UInt8) (k w acc m:Nat) (r:List UInt8),readL b s k w acc=some (m,r)→∃(p:List UInt8) (n:Nat),s=p++r∧m=acc+n*w∧lowerL p=toldL n b k
 |[],_,_,_,_,_,h=>by simp[readL]at h
 |c::s,k,w,acc,m,r,h=>by
  have hb:=bnd_bd b k;unfold readL at h;split at h
  ·cases h
  rename_i h0;have hdb:=digI_bd c.toNat;have hlow:= @lowB_dig c (by omega);split at h
  ·cases h
  split at h
  ·rename_i h1 h2
   simp only[Option.some.injEq,Prod.mk.injEq]at h;obtain⟨rfl,rfl⟩:=h;refine⟨[c],(digI c.toNat).toNat,rfl,rfl, ?_⟩;rw[told_last h2];show [lowB c]=_;rw[hlow]
  ·rename_i h1 h2
   obtain⟨p,n,hs,hm,hp⟩:=told_read b s _ _ _ m r h;refine⟨c::p,(digI c.toNat).toNat+(36-bnd b k)*n,by rw[hs];rfl, ?_, ?_⟩
   ·rw[hm,Nat.add_mul,Nat.mul_comm (36-bnd b k) n,Nat.mul_assoc,Nat.mul_comm (36-bnd b k) w];omega
   ·have hle:bnd b k≤(digI c.toNat).toNat+(36-bnd b k)*n:=by omega
    rw[told_more hle];have e1:(digI c.toNat).toNat+(36-bnd b k)*n-bnd b k=((digI c.toNat).toNat-bnd b k)+(36-bnd b k)*n:=by omega
    rw[e1,Nat.add_mul_mod_self_left,Nat.add_mul_div_left _ _ (by omega),Nat.mod_eq_of_lt (by omega),Nat.div_eq_of_lt (by omega),Nat.zero_add,←hp];show lowB c::lowerL p=_;rw[hlow,show bnd b k+((digI c.toNat).toNat-bnd b k)=(digI c.toNat).toNat by omega]
theorem told_dig:∀(j n b k:Nat),n≤j→∀c∈toldL n b k,∃d,d<36∧c=UInt8.ofNat (digB d):=by
 intro j
 induction j with
 |zero=>
  intro n b k hn c hc;have hb:=bnd_bd b k;rw[told_last (by omega)]at hc;exact⟨n,by omega,by simpa using hc⟩
 |succ j ih=>
  intro n b k hn c hc;have hb:=bnd_bd b k;by_cases hl:n<bnd b k
  ·rw[told_last hl]at hc
   exact⟨n,by omega,by simpa using hc⟩
  ·have hm:=Nat.mod_lt (n-bnd b k) (show 0<36-bnd b k by omega)
   have hd:= @told_div n b k (by omega);rw[told_more (by omega)]at hc;rcases List.mem_cons.1 hc with rfl|hc
   ·exact⟨_,by omega,rfl⟩
   ·exact ih _ b _ (by omega) c hc
def ins (l:List Nat) (q:Nat×Nat):List Nat:=l.take q.2++[q.1]++l.drop q.2
theorem ins_len {l:List Nat} {q:Nat×Nat}:(ins l q).length=l.length+1:=by
 unfold ins;simp only[List.length_append,List.length_take,List.length_drop,List.length_singleton];omega
structure TS where
 b:Nat
 sign:Nat
 place:Nat
 len:Nat
def delta (t:TS) (q:Nat×Nat):Nat:=(q.1-t.sign)*(t.len+1)+q.2-t.place
def tstep (p:Nat) (t:TS) (q:Nat×Nat):TS:=⟨nextL (delta t q) (t.len+1) (decide (t.len=p)),q.1,q.2+1,t.len+1⟩
def okQ (t:TS) (q:Nat×Nat):Prop:=t.sign≤q.1∧(q.1=t.sign→t.place≤q.2)∧q.2≤t.len
def okPs (p:Nat):TS→List (Nat×Nat)→Prop
 |_,[]=>True
 |t,q::qs=>okQ t q∧okPs p (tstep p t q) qs
def tellS (p:Nat):TS→List (Nat×Nat)→List UInt8
 |_,[]=>[]
 |t,q::qs=>toldL (delta t q) t.b 36++tellS p (tstep p t q) qs
def endS (p:Nat) (t:TS) (qs:List (Nat×Nat)):TS:=qs.foldl (tstep p) t
theorem okQ_place {t:TS} {q:Nat×Nat} (h:okQ t q) (hp:t.place≤t.len):t.place≤(q.1-t.sign)*(t.len+1)+q.2:=by
 obtain⟨h1,h2,h3⟩:=h;rcases Nat.lt_or_ge t.sign q.1 with h|h
 ·have:=Nat.mul_le_mul_right (t.len+1) (show 1≤q.1-t.sign by omega)
  omega
 ·have:=h2 (by omega)
  omega
theorem okPs_append {p:Nat}:∀ {t:TS} {a b:List (Nat×Nat)},okPs p t (a++b)↔okPs p t a∧okPs p (endS p t a) b
 |t,[],b=>by simp[okPs,endS]
 |t,q::a,b=>by
  have:= @okPs_append p (tstep p t q) a b;simp only[List.cons_append,okPs,this,and_assoc];rfl
theorem tellS_append {p:Nat}:∀ {t:TS} {a b:List (Nat×Nat)},tellS p t (a++b)=tellS p t a++tellS p (endS p t a) b
 |t,[],b=>by simp[tellS,endS]
 |t,q::a,b=>by
  have:= @tellS_append p (tstep p t q) a b;simp only[List.cons_append,tellS,this,List.append_assoc];rfl
theorem tellS_dig (p:Nat):∀(t:TS) (qs:List (Nat×Nat)),∀c∈tellS p t qs,∃d,d<36∧c=UInt8.ofNat (digB d)
 |t,[],c,hc=>by simp[tellS]at hc
 |t,q::qs,c,hc=>by
  rcases List.mem_append.1 hc with hc|hc
  ·exact told_dig _ _ _ _ (Nat.le_refl _) c hc
  ·exact tellS_dig p _ qs c hc
theorem decF_step {f:Nat} {s:List UInt8} {b sign place:Nat} {first:Bool} {l:List Nat} (hs:s≠[]):decF (f+1) s b sign place first l=match readL b s 36 1 place with
 |none=>none
 |some (n,rest)=>
  if badSign (sign+n/(l.length+1))then none
  else decF f rest (nextL (n-place) (l.length+1) first) (sign+n/(l.length+1)) (n % (l.length+1)+1) false
   (l.take (n % (l.length+1))++[sign+n/(l.length+1)]++l.drop (n % (l.length+1))):=by
 conv=>lhs;unfold decF
 rw[if_neg hs]
 cases readL b s 36 1 place<;>rfl
theorem told_ne (n b k:Nat) (r:List UInt8):toldL n b k++r≠[]:=by
 by_cases h:n<bnd b k
 ·rw[told_last h];simp
 ·rw[told_more (by omega)];simp
theorem dec_tells (p:Nat):∀(qs:List (Nat×Nat)) (f:Nat) (t:TS) (l:List Nat),(tellS p t qs).length<f→l.length=t.len→t.place≤t.len→p≤t.len→okPs p t qs→(∀q∈qs,¬badSign q.1)→t.len+qs.length≤1900→
 decF f (tellS p t qs) t.b t.sign t.place (decide (t.len=p)) l=some (qs.foldl ins l)
 |[],f+1,t,l,hf,hl,hp,hpl,hok,hbad,hlen=>by simp[tellS,decF]
 |q::qs,f+1,t,l,hf,hl,hp,hpl,hok,hbad,hlen=>by
  obtain⟨hq,hok⟩:=hok;have hpd:=okQ_place hq hp;obtain⟨h1,h2,h3⟩:=hq;have hb1:=hbad q List.mem_cons_self;have hsg:q.1≤1114111:=by unfold badSign at hb1;omega
  simp only[List.length_cons]at hlen;have hmul:=Nat.mul_le_mul (show q.1-t.sign≤1114111 by omega) (show t.len+1≤1901 by omega);have hdel:t.place+delta t q*1=(q.1-t.sign)*(t.len+1)+q.2:=by unfold delta;omega
  have hne:tellS p t (q::qs)≠[]:=told_ne _ _ _ _;rw[decF_step hne];show(match readL t.b (toldL (delta t q) t.b 36++tellS p (tstep p t q) qs) 36 1 t.place with|none=>none|some (n,rest)=>_)=_;rw[read_told _ _ _ _ _ _ _ (Nat.le_refl _) (by rw[hdel];omega),hdel];simp only;have hlt:q.2<t.len+1:=by omega
  have hdiv:((q.1-t.sign)*(t.len+1)+q.2)/(t.len+1)=q.1-t.sign:=by
   rw[Nat.mul_comm,Nat.mul_add_div (by omega),Nat.div_eq_of_lt hlt];omega
  have hmod:((q.1-t.sign)*(t.len+1)+q.2) % (t.len+1)=q.2:=by
   rw[Nat.mul_comm,Nat.mul_add_mod,Nat.mod_eq_of_lt hlt]
  rw[hl,hdiv,hmod,show t.sign+(q.1-t.sign)=q.1 by omega,if_neg hb1];have hlen2:(tellS p t (q::qs)).length=(toldL (delta t q) t.b 36).length+(tellS p (tstep p t q) qs).length:=by show(toldL (delta t q) t.b 36++tellS p (tstep p t q) qs).length=_;rw[List.length_append]
  have hpos:0<(toldL (delta t q) t.b 36).length:=List.length_pos_iff.2 (by have:=told_ne (delta t q) t.b 36 [];simpa using this);have ih:=dec_tells p qs f (tstep p t q) (ins l q) (by omega) (by rw[ins_len,hl];rfl) (by show q.2+1≤t.len+1;omega) (by show p≤t.len+1;omega) hok (fun q' h=>hbad q' (List.mem_cons_of_mem _ h)) (by show t.len+1+qs.length≤_;omega);have hfalse:decide ((tstep p t q).len=p)=false:=by
   rw[decide_eq_false_iff_not];show ¬t.len+1=p;omega
  rw[hfalse]at ih;exact ih
theorem tells_dec (p:Nat):∀(f:Nat) (s:List UInt8) (t:TS) (l R:List Nat),l.length=t.len→t.place≤t.len→p≤t.len→decF f s t.b t.sign t.place (decide (t.len=p)) l=some R→
 ∃qs,okPs p t qs∧(∀q∈qs,¬badSign q.1)∧R=qs.foldl ins l∧lowerL s=tellS p t qs
 |0,s,t,l,R,hl,hp,hpl,h=>by simp[decF]at h
 |f+1,s,t,l,R,hl,hp,hpl,h=>by
  by_cases hs:s=[]
  ·subst hs
   simp[decF]at h;exact⟨[],trivial,fun q hq=>by simp at hq,h.symm,rfl⟩
  ·rw[decF_step hs]at h
   cases hr:readL t.b s 36 1 t.place with
   |none=>rw[hr]at h;cases h
   |some x=>
    obtain⟨n,rest⟩:=x;rw[hr]at h;simp only at h;by_cases hb:badSign (t.sign+n/(l.length+1))
    ·rw[if_pos hb]at h;cases h
    ·rw[if_neg hb,hl]at h
     rw[hl]at hb;obtain⟨pp,d,hs1,hn1,hlo⟩:=told_read t.b s 36 1 t.place n rest hr;have hm:=Nat.mod_lt n (show 0<t.len+1 by omega);have hdm:=Nat.div_add_mod n (t.len+1);have hdel:delta t (t.sign+n/(t.len+1),n % (t.len+1))=n-t.place:=by
      unfold delta;show(t.sign+n/(t.len+1)-t.sign)*(t.len+1)+n % (t.len+1)-t.place=_;rw[Nat.add_sub_cancel_left,Nat.mul_comm,hdm]
     have hfalse:decide ((tstep p t (t.sign+n/(t.len+1),n % (t.len+1))).len=p)=false:=by
      rw[decide_eq_false_iff_not];show ¬t.len+1=p;omega
     have e:decF f rest (tstep p t (t.sign+n/(t.len+1),n % (t.len+1))).b (tstep p t (t.sign+n/(t.len+1),n % (t.len+1))).sign (tstep p t (t.sign+n/(t.len+1),n % (t.len+1))).place (decide ((tstep p t (t.sign+n/(t.len+1),n % (t.len+1))).len=p)) (ins l (t.sign+n/(t.len+1),n % (t.len+1)))=some R:=by
      rw[hfalse];simp only[tstep,hdel];exact h
     obtain⟨qs,h1,h2,h3,h4⟩:=tells_dec p f rest _ _ R (by rw[ins_len,hl];rfl) (by show n % (t.len+1)+1≤t.len+1;omega) (by show p≤t.len+1;omega) e;refine⟨(t.sign+n/(t.len+1),n % (t.len+1))::qs,⟨⟨Nat.le_add_right _ _,fun he=> ?_,by show n % (t.len+1)≤t.len;omega⟩,h1⟩,fun q hq=> ?_,by rw[h3];rfl, ?_⟩
     ·have he':t.sign+n/(t.len+1)=t.sign:=he
      have h0:n/(t.len+1)=0:=by omega
      rw[h0]at hdm;show t.place≤n % (t.len+1);omega
     ·rcases List.mem_cons.1 hq with rfl|hq
      ·exact hb
      ·exact h2 q hq
     ·show lowerL s=toldL (delta t _) t.b 36++tellS p _ qs
      rw[hdel,←h4,hs1,show n-t.place=d by omega,←hlo];simp[lowerL]
def runI (l:List Nat):List (Nat×Nat)→List Nat
 |[]=>l
 |q::qs=>ins (runI l qs) q
def headS:List (Nat×Nat)→Nat×Nat
 |[]=>(128,0)
 |q::_=>(q.1,q.2+1)
def okR (n:Nat):List (Nat×Nat)→Prop
 |[]=>True
 |q::qs=>okR n qs∧(headS qs).1≤q.1∧(q.1=(headS qs).1→(headS qs).2≤q.2)∧q.2≤n+qs.length
theorem runI_len (l:List Nat):∀qs,(runI l qs).length=l.length+qs.length
 |[]=>rfl
 |q::qs=>by rw[runI,ins_len,runI_len l qs,List.length_cons];omega
theorem okPs_okR (p n:Nat):∀(qs acc:List (Nat×Nat)) (t:TS),okPs p t qs→okR n acc→t.sign=(headS acc).1→t.place=(headS acc).2→t.len=n+acc.length→okR n (qs.reverse++acc)
 |[],acc,t,_,h,_,_,_=>h
 |q::qs,acc,t,⟨⟨h1,h2,h3⟩,hok⟩,h,hs,hp,hl=>by
  have:=okPs_okR p n qs (q::acc) (tstep p t q) hok ⟨h,by rw[←hs];exact h1,by rw[←hs,←hp];exact h2,by omega⟩ rfl rfl (by show t.len+1=n+(acc.length+1);omega);simpa using this
theorem foldl_runI (l:List Nat) (qs:List (Nat×Nat)):qs.foldl ins l=runI l qs.reverse:=by
 have:∀(qs acc:List (Nat×Nat)),qs.foldl ins (runI l acc)=runI l (qs.reverse++acc):=by
  intro qs
  induction qs with
  |nil=>intro acc;rfl
  |cons q qs ih=>intro acc;have:=ih (q::acc);simpa[runI]using this
 have:=this qs [];simpa[runI]using this
theorem ins_get {l:List Nat} {q:Nat×Nat} (h:q.2≤l.length) (i:Nat):(ins l q)[i]?=if i<q.2 then l[i]? else if i=q.2 then some q.1 else l[i-1]?:=by
 unfold ins;by_cases c:i<q.2
 ·rw[if_pos c,List.append_assoc,List.getElem?_append_left (by simp;omega),List.getElem?_take_of_lt c]
 ·rw[if_neg c,List.append_assoc,List.getElem?_append_right (by simp;omega)]
  simp only[List.length_take,Nat.min_eq_left h];by_cases c2:i=q.2
  ·rw[if_pos c2,c2];simp
  ·rw[if_neg c2,List.getElem?_append_right (by simp;omega)]
   simp only[List.length_singleton,List.getElem?_drop];congr 1;omega
theorem runI_head {l:List Nat} (hl:∀x∈l,x<128):∀(qs:List (Nat×Nat)),okR l.length qs→∀i x,(runI l qs)[i]?=some x→(headS qs).1≤x→x=(headS qs).1∧i<(headS qs).2
 |[],_,i,x,hx,hle=>by
  have:=hl x (List.mem_of_getElem? hx);have:128≤x:=hle;omega
 |q::qs,⟨hok,h1,h2,h3⟩,i,x,hx,hle=>by
  have hle:q.1≤x:=hle;have ih:=runI_head hl qs hok;rw[runI,ins_get (by rw[runI_len];exact h3)]at hx;split at hx
  ·rename_i c
   obtain⟨a,b⟩:=ih i x hx (by omega);exact⟨by show x=q.1;omega,by show i<q.2+1;omega⟩
  ·split at hx
   ·rename_i c
    exact⟨(Option.some.inj hx).symm,by show i<q.2+1;omega⟩
   ·obtain⟨a,b⟩:=ih (i-1) x hx (by omega)
    have:=h2 (by omega);exact⟨by show x=q.1;omega,by show i<q.2+1;omega⟩
theorem ins_at {l:List Nat} {q:Nat×Nat} (h:q.2≤l.length):(ins l q)[q.2]?=some q.1:=by rw[ins_get h,if_neg (by omega),if_pos rfl]
theorem ins_out {l:List Nat} {q:Nat×Nat} (h:q.2≤l.length):l=(ins l q).take q.2++(ins l q).drop (q.2+1):=by
 have hlt:(l.take q.2).length=q.2:=by simp;omega
 have e1:(ins l q).take q.2=l.take q.2:=by
  unfold ins;rw[List.append_assoc,List.take_append_of_le_length (by omega),List.take_take,Nat.min_self]
 have e2:(ins l q).drop (q.2+1)=l.drop q.2:=by
  unfold ins;rw[List.drop_append_of_le_length (by simp;omega),List.drop_of_length_le (by simp;omega),List.nil_append]
 rw[e1,e2,List.take_append_drop]
theorem ins_unique {l:List Nat} (hl:∀x∈l,x<128):∀(qs rs:List (Nat×Nat)),okR l.length qs→okR l.length rs→runI l qs=runI l rs→qs=rs
 |[],[],_,_,_=>rfl
 |[],r::rs,_,h,e=>by
  have:=congrArg List.length e;rw[runI_len,runI_len]at this;simp at this
 |q::qs,[],_,_,e=>by
  have:=congrArg List.length e;rw[runI_len,runI_len]at this;simp at this
 |q::qs,r::rs,hq,hr,e=>by
  have hq3:q.2≤(runI l qs).length:=by rw[runI_len];exact hq.2.2.2
  have hr3:r.2≤(runI l rs).length:=by rw[runI_len];exact hr.2.2.2
  have aq:=ins_at hq3;have ar:=ins_at hr3;have hHq:=runI_head hl _ hq;have hHr:=runI_head hl _ hr;have e':ins (runI l qs) q=ins (runI l rs) r:=e;have hqr:q=r:=by
   rcases Nat.le_total q.1 r.1 with h|h
   ·obtain⟨a1,a2⟩:=hHq r.2 r.1 (by rw[e];exact ar) h
    have a1:r.1=q.1:=a1;have a2:r.2<q.2+1:=a2;obtain⟨b1,b2⟩:=hHr q.2 q.1 (by rw[←e];exact aq) (by show r.1≤q.1;omega);have b2:q.2<r.2+1:=b2;exact Prod.ext (by omega) (by omega)
   ·obtain⟨a1,a2⟩:=hHr q.2 q.1 (by rw[←e];exact aq) h
    have a1:q.1=r.1:=a1;have a2:q.2<r.2+1:=a2;obtain⟨b1,b2⟩:=hHq r.2 r.1 (by rw[e];exact ar) (by show q.1≤r.1;omega);have b2:r.2<q.2+1:=b2;exact Prod.ext (by omega) (by omega)
  subst hqr;have:=ins_unique hl qs rs hq.1 hr.1 (by rw[ins_out hq3,ins_out hr3,e']);rw[this]
open Go.RowKit
theorem low_plain (c:UInt8):(lowB c).toNat<128↔c.toNat<128:=by
 rw[lowB_nat];unfold lowN;split<;>omega
theorem plain_lower (s:List UInt8):plainL (lowerL s)=plainL s:=by
 unfold plainL lowerL;rw[List.all_map];congr 1
 funext c
 rw[Bool.eq_iff_iff];simp[low_plain]
theorem plainL_iff {s:List UInt8}:plainL s=true↔∀c∈s,c.toNat<128:=by
 unfold plainL;rw[List.all_eq_true];simp
theorem told_plain (n b k:Nat):∀c∈toldL n b k,c.toNat<128:=fun c hc=>by
 obtain⟨d,hd,rfl⟩:=told_dig n n b k (Nat.le_refl _) c hc;rw[digB_nat hd];exact digB_lt hd
theorem passS_plain (m p:Nat):∀(pre:List Nat) (st:ES),(∀c∈st.out,c.toNat<128)→∀c∈(passS m p pre st).out,c.toNat<128
 |[],st,h=>h
 |x::pre,st,h=>by
  rw[passS_cons];refine passS_plain m p pre _ ?_;unfold stepS;split
  ·exact h
  ·split
   ·intro c hc
    rcases List.mem_append.1 hc with hc|hc
    ·exact h c hc
    ·exact told_plain _ _ _ c hc
   ·exact h
theorem runS_plain (R:List Nat) (p:Nat):∀(ms:List Nat) (x:Nat×ES),(∀c∈x.2.out,c.toNat<128)→∀c∈(runS R p ms x).2.out,c.toNat<128
 |[],x,h=>h
 |m::ms,x,h=>runS_plain R p ms _ (passS_plain m p R _ h)
theorem startOut_plain (R:List Nat):∀c∈startOut R,c.toNat<128:=by
 intro c hc;rcases List.mem_append.1 hc with hc|hc
 ·obtain⟨x,hx,rfl⟩:=List.mem_map.1 hc
  have:=(List.mem_filter.1 hx).2;simp only[decide_eq_true_eq]at this;rw[u8_of (by omega)];exact this
 ·split at hc
  ·simp only[List.mem_singleton]at hc
   subst hc;decide
  ·simp at hc
theorem encodeL_plain (s:List UInt8):∀c∈(encodeL s).1,c.toNat<128:=by
 unfold encodeL;split
 ·intro c hc;simp at hc
 ·split
  ·exact runS_plain _ _ _ _ (startOut_plain _)
  ·intro c hc;simp at hc
def showL (s:List UInt8):List UInt8:=if (labelL s).2≠0∨fewL (lowerL s)=false∨plainL s=false then s else (decode ((lowerL s).drop 4)).1
theorem labelL_zero {s:List UInt8} (h:(labelL s).2=0):s≠[]∧Lib.validD s=true∧
 ((plainL s=false∧(encodeL (lowerL s)).2=0∧labelL s=(fewB++(encodeL (lowerL s)).1,0)∧(fewB++(encodeL (lowerL s)).1).length≤63)∨
  (plainL s=true∧fewL (lowerL s)=true∧(decode ((lowerL s).drop 4)).2=0∧plainL (decode ((lowerL s).drop 4)).1=false∧(encodeL (decode ((lowerL s).drop 4)).1).1=(lowerL s).drop 4∧labelL s=(lowerL s,0)∧s.length≤63)∨
  (plainL s=true∧fewL (lowerL s)=false∧labelL s=(lowerL s,0)∧s.length≤63)):=by
 have hfin:∀ {u},(finL u).2=0→finL u=(u,0)∧u.length≤63:=fun {u} h=>by
  unfold finL at h⊢;split
  ·rename_i c;rw[if_pos c]at h;cases h
  ·exact⟨rfl,by omega⟩
 have hul:(lowerL s).length=s.length:=by simp[lowerL]
 by_cases h0:s=[]∨Lib.validD s=false
 ·unfold labelL at h;rw[if_pos h0]at h;cases h
 have h1:s≠[]:=fun h=>h0 (.inl h)
 have hv:Lib.validD s=true:=by cases h:Lib.validD s with|true=>rfl|false=>exact absurd (.inr h) h0
 refine⟨h1,hv, ?_⟩
 rw[labelL_else h1 hv,plain_lower]at h⊢
 by_cases hp:plainL s=false
 ·rw[if_pos hp]at h⊢
  by_cases he:(encodeL (lowerL s)).2≠0
  ·rw[if_pos he]at h;cases h
  ·rw[if_neg he]at h⊢
   exact .inl ⟨hp,by omega,(hfin h).1,(hfin h).2⟩
 ·rw[if_neg hp]at h⊢
  have hp':plainL s=true:=by simpa using hp
  by_cases hf:fewL (lowerL s)=true
  ·rw[if_pos hf]at h⊢
   by_cases hd:(decode ((lowerL s).drop 4)).2≠0∨plainL (decode ((lowerL s).drop 4)).1=true
   ·rw[if_pos hd]at h;cases h
   ·rw[if_neg hd]at h⊢
    by_cases he:(encodeL (decode ((lowerL s).drop 4)).1).1≠(lowerL s).drop 4
    ·rw[if_pos he]at h;cases h
    ·rw[if_neg he]at h⊢
     obtain⟨a,b⟩:=hfin h;refine .inr (.inl ⟨hp',hf, ?_, ?_,Classical.byContradiction he,a,by omega⟩)
     ·exact Classical.byContradiction fun h=>hd (.inl h)
     ·cases h:plainL (decode ((lowerL s).drop 4)).1 with|false=>rfl|true=>exact absurd (.inr h) hd
  ·rw[if_neg hf]at h⊢
   obtain⟨a,b⟩:=hfin h;exact .inr (.inr ⟨hp',by simpa using hf,a,by omega⟩)
theorem labelL_err {s:List UInt8} (h:(labelL s).2≠0):labelL s=([],5):=by
 have hfin:∀ {u},(finL u).2≠0→finL u=([],5):=fun {u} h=>by
  unfold finL at h⊢;split
  ·rfl
  ·rename_i c;rw[if_neg c]at h;exact absurd rfl h
 unfold labelL at h⊢
 repeat' split
 all_goals first|rfl|(simp_all;done)|skip
 all_goals(simp only[*,if_true,if_false]at h;exact hfin (by simpa using h))
end Go.Proofs.YtjkipdoebkhkaaaGreatDoor
