/- A host is below each name that its last labels make; parts that may be asked for are a host, plain. -/
import Derived.Test.YtjkipdoebkhkaaaGreatDoorGJar1
import Derived.Test.YtjkipdoebkhkaaaGreatDoorGUp1
import Derived.Test.YtjkipdoebkhkaaaGreatDoorGUp2
set_option linter.unusedVariables false
set_option linter.unusedSimpArgs false
set_option maxHeartbeats 16000000
namespace Go.Proofs.YtjkipdoebkhkaaaGreatDoor
theorem suffix_iff {a b:List UInt8}:Lib.hasSuffix a b=true↔∃p,a=p++b:=by
 unfold Lib.hasSuffix;rw[List.isSuffixOf_iff_suffix];exact⟨fun ⟨p,h⟩=>⟨p,h.symm⟩,fun ⟨p,h⟩=>⟨p,h.symm⟩⟩
theorem belowL_yes {p b:List UInt8} (hb:b≠[]) (h1:machineL (p++46::b)=false) (h2:machineL b=false):belowL (p++46::b) b=true:=by
 unfold belowL;have:Lib.hasSuffix (p++46::b) (46::b)=true:=suffix_iff.2 ⟨p,rfl⟩;have h0:b.isEmpty=false:=by cases b with
  |nil=>exact absurd rfl hb
  |cons c b=>rfl
 rw[this,h1,h2,h0];simp
theorem HostOk.below_a {x:List UInt8} {l:List (List UInt8)} (h:HostOk x l) (hm:machineL x=false):belowL (97::46::x) x=true:=by
 have h1:machineL (97::46::x)=false:=by
  have e:(97:UInt8)::46::x=joinL 46 ([97]::l):=by rw[joinL_cons h.name.ne,←h.name.join];rfl
  have:=unlike_machine (l:=[97]::l) (by simp) (fun p hp=>by
   rcases List.mem_cons.1 hp with rfl|hp
   ·simp
   ·exact h.name.full p hp) (fun p hp c hc=>by
   rcases List.mem_cons.1 hp with rfl|hp
   ·rw[List.mem_singleton]at hc;subst hc;decide
   ·exact h.name.point p hp c hc) (by
   have h2:=h.unlike hm;rw[List.getLastD_eq_getLast?]at h2⊢;rw[List.getLast?_cons]
   cases hl:l.getLast? with
   |none=>rw[List.getLast?_eq_none_iff]at hl;exact absurd hl h.name.ne
   |some y=>rw[hl]at h2;exact h2) (by rw[joinL_cons h.name.ne];simp)
  rw[e];exact this.1
 exact belowL_yes (p:=[97]) h.name.x_ne h1 hm
/-! ### Parts that may be asked for -/
/-! ### How long -/
open Go.RowKit
abbrev SrtS (S:List SealL):Prop:=S.Pairwise (fun a b=>a.host<b.host)
def placeS (S:List SealL) (h:List UInt8):Nat:=(S.filter fun x=>decide (x.host<h)).length
def foundS (S:List SealL) (h:List UInt8):Bool:=match S[placeS S h]? with|none=>false|some x=>decide (x.host=h)
def sealOut (S:List SealL) (h:List UInt8):List SealL:=if foundS S h then S.eraseIdx (placeS S h)else S
def sealIn (S:List SealL) (s:SealL):List SealL:=(sealOut S s.host).take (placeS S s.host)++s::(sealOut S s.host).drop (placeS S s.host)
theorem split_place {h:List UInt8}:∀ {S:List SealL},SrtS S→S=S.filter (fun x=>decide (x.host<h))++S.filter (fun x=> !decide (x.host<h))
 |[],_=>rfl
 |x::S,hp=>by
  have hp:=List.pairwise_cons.1 hp;by_cases hx:x.host<h
  ·rw[List.filter_cons_of_pos (by simpa using hx),List.filter_cons_of_neg (by simpa using hx),List.cons_append,←split_place hp.2]
  ·have h0:∀y∈S,¬y.host<h:=fun y hy hlt=>hx (List.lt_trans (hp.1 y hy) hlt)
   rw[List.filter_cons_of_neg (by simpa using hx),List.filter_cons_of_pos (by simpa using hx),List.filter_eq_nil_iff.2 (fun y hy=>by simpa using h0 y hy),List.filter_eq_self.2 (fun y hy=>by simpa using h0 y hy)];rfl
theorem three_place {S:List SealL} (hp:SrtS S) (h:List UInt8):∃A M B,S=A++M++B∧A.length=placeS S h∧(∀x∈A,x.host<h)∧(∀x∈B,h<x.host)∧
 ((M=[]∧foundS S h=false)∨∃x,M=[x]∧x.host=h∧foundS S h=true):=by
 have hs:=split_place (h:=h) hp
 have hA:∀x∈S.filter (fun x=>decide (x.host<h)),x.host<h:=fun x hx=>by simpa using(List.mem_filter.1 hx).2
 have hB:∀x∈S.filter (fun x=> !decide (x.host<h)),¬x.host<h:=fun x hx=>by simpa using(List.mem_filter.1 hx).2
 have hl:(S.filter (fun x=>decide (x.host<h))).length=placeS S h:=rfl
 generalize S.filter (fun x=>decide (x.host<h))=A at*
 generalize S.filter (fun x=> !decide (x.host<h))=B at*
 subst hs
 unfold foundS
 rw[←hl,List.getElem?_append_right (Nat.le_refl _),Nat.sub_self]
 cases B with
 |nil=>exact⟨A,[],[],by simp,rfl,hA,by simp, .inl ⟨rfl,rfl⟩⟩
 |cons x B=>
  have hxb:∀y∈B,x.host<y.host:=(List.pairwise_cons.1 (List.pairwise_append.1 hp).2.1).1;have hx:=hB x (List.mem_cons_self ..);by_cases he:x.host=h
  ·exact⟨A,[x],B,by simp,rfl,hA,fun y hy=>he▸hxb y hy, .inr ⟨x,rfl,he,by simpa using he⟩⟩
  ·have hlt:h<x.host:=by
    refine Classical.byContradiction fun h1=>he (List.le_antisymm (List.not_lt.1 h1) (List.not_lt.1 hx))
   refine⟨A,[],x::B,by simp,rfl,hA,fun y hy=> ?_, .inl ⟨rfl,by simpa using he⟩⟩;rcases List.mem_cons.1 hy with rfl|hy
   ·exact hlt
   ·exact List.lt_trans hlt (hxb y hy)
theorem sealOut_of {S A M B:List SealL} {h:List UInt8} (hS:S=A++M++B) (hl:A.length=placeS S h) (hM:(M=[]∧foundS S h=false)∨∃x,M=[x]∧x.host=h∧foundS S h=true):sealOut S h=A++B:=by
 unfold sealOut;rcases hM with ⟨rfl,hf⟩|⟨x,rfl,_,hf⟩
 ·rw[hf,hS];simp
 ·rw[hf,if_pos rfl,←hl,hS,List.append_assoc,List.eraseIdx_append_of_length_le (Nat.le_refl _),Nat.sub_self]
  rfl
theorem sealIn_of {S A M B:List SealL} {s:SealL} (hS:S=A++M++B) (hl:A.length=placeS S s.host) (hM:(M=[]∧foundS S s.host=false)∨∃x,M=[x]∧x.host=s.host∧foundS S s.host=true):sealIn S s=A++s::B:=by
 unfold sealIn;rw[sealOut_of hS hl hM,←hl];simp
theorem mem_sealOut {S:List SealL} (hp:SrtS S) {h:List UInt8} {x:SealL}:x∈sealOut S h↔x∈S∧x.host≠h:=by
 obtain⟨A,M,B,hS,hl,hA,hB,hM⟩:=three_place hp h;rw[sealOut_of hS hl hM,hS];simp only[List.mem_append];constructor
 ·rintro(h1|h1)
  ·exact⟨.inl (.inl h1),fun e=>List.lt_irrefl _ (e▸hA x h1)⟩
  ·exact⟨.inr h1,fun e=>List.lt_irrefl _ (e▸hB x h1)⟩
 ·rintro⟨(h1|h1)|h1,h2⟩
  ·exact .inl h1
  ·rcases hM with ⟨rfl,_⟩|⟨y,rfl,hy,_⟩
   ·cases h1
   ·rw[List.mem_singleton]at h1;exact absurd (h1▸hy) h2
  ·exact .inr h1
theorem mem_sealIn {S:List SealL} (hp:SrtS S) {s x:SealL}:x∈sealIn S s↔x=s∨(x∈S∧x.host≠s.host):=by
 rw[←mem_sealOut hp];obtain⟨A,M,B,hS,hl,hA,hB,hM⟩:=three_place hp s.host;rw[sealOut_of hS hl hM,sealIn_of hS hl hM];simp only[List.mem_append,List.mem_cons];constructor
 ·rintro(h|h|h)
  ·exact .inr (.inl h)
  ·exact .inl h
  ·exact .inr (.inr h)
 ·rintro(h|h|h)
  ·exact .inr (.inl h)
  ·exact .inl h
  ·exact .inr (.inr h)
theorem foundS_iff {S:List SealL} (hp:SrtS S) {h:List UInt8}:foundS S h=true↔∃x∈S,x.host=h:=by
 obtain⟨A,M,B,hS,hl,hA,hB,hM⟩:=three_place hp h;rcases hM with ⟨rfl,hf⟩|⟨y,rfl,hy,hf⟩
 ·rw[hf]
  constructor
  ·intro h;cases h
  ·rintro⟨x,hx,rfl⟩
   rw[hS]at hx;simp only[List.append_nil,List.mem_append]at hx;rcases hx with hx|hx
   ·exact absurd (hA x hx) (List.lt_irrefl _)
   ·exact absurd (hB x hx) (List.lt_irrefl _)
 ·rw[hf]
  exact⟨fun _=>⟨y,by rw[hS];simp,hy⟩,fun _=>rfl⟩
theorem sealOut_sorted {S:List SealL} (hp:SrtS S) (h:List UInt8):SrtS (sealOut S h):=by
 unfold sealOut;split
 ·exact hp.sublist (List.eraseIdx_sublist _ _)
 ·exact hp
theorem sealIn_sorted {S:List SealL} (hp:SrtS S) (s:SealL):SrtS (sealIn S s):=by
 obtain⟨A,M,B,hS,hl,hA,hB,hM⟩:=three_place hp s.host;have hAB:=sealOut_sorted hp s.host;rw[sealOut_of hS hl hM]at hAB;rw[sealIn_of hS hl hM];obtain⟨h1,h2,h3⟩:=List.pairwise_append.1 hAB;refine List.pairwise_append.2 ⟨h1,List.pairwise_cons.2 ⟨hB,h2⟩,fun a ha b hb=> ?_⟩;rcases List.mem_cons.1 hb with rfl|hb
 ·exact hA a ha
 ·exact h3 a ha b hb
theorem sealOut_len {S:List SealL} (hp:SrtS S) (h:List UInt8):(sealOut S h).length+(if foundS S h then 1 else 0)=S.length:=by
 obtain⟨A,M,B,hS,hl,hA,hB,hM⟩:=three_place hp h;rw[sealOut_of hS hl hM];rcases hM with ⟨rfl,hf⟩|⟨y,rfl,hy,hf⟩
 ·rw[hf,hS];simp
 ·rw[hf,hS];simp;omega
theorem sealIn_len {S:List SealL} (hp:SrtS S) (s:SealL):(sealIn S s).length+(if foundS S s.host then 1 else 0)=S.length+1:=by
 have:=sealOut_len hp s.host;obtain⟨A,M,B,hS,hl,hA,hB,hM⟩:=three_place hp s.host;rw[sealOut_of hS hl hM]at this;rw[sealIn_of hS hl hM];simp only[List.length_append,List.length_cons]at this⊢;omega
theorem sealOut_ok {S:List SealL} (h:sealsB S=true) (x:List UInt8):sealsB (sealOut S x)=true:=by
 rw[sealsB_iff]at h⊢;exact⟨fun s hs=>h.1 s ((mem_sealOut h.2).1 hs).1,sealOut_sorted h.2 x⟩
theorem sealIn_ok {S:List SealL} (h:sealsB S=true) {s:SealL} (hs:sealOk s=true):sealsB (sealIn S s)=true:=by
 rw[sealsB_iff]at h⊢;refine⟨fun x hx=> ?_,sealIn_sorted h.2 s⟩;rcases(mem_sealIn h.2).1 hx with rfl|hx
 ·exact hs
 ·exact h.1 x hx.1
theorem keepB_seals {J:List CookieL} {S S':List SealL} {n:Int} (h:keepB J S n=true) (hS:sealsB S'=true) (hl:S'.length≤200):keepB J S' n=true:=by
 unfold keepB at h⊢;simp only[Bool.and_eq_true,decide_eq_true_eq]at h⊢;exact⟨⟨⟨⟨⟨h.1.1.1.1.1,hl⟩,h.1.1.1.2⟩,h.1.1.2⟩,h.1.2⟩,hS⟩
theorem keepB_parts {J:List CookieL} {S:List SealL} {n:Int} (h:keepB J S n=true):sealsB S=true∧S.length≤200∧J.length≤300:=by
 unfold keepB at h;simp only[Bool.and_eq_true,decide_eq_true_eq]at h;exact⟨h.2,h.1.1.1.1.2,h.1.1.1.1.1⟩
def tellOk (u:UrlL) (age now:Int):Bool:=checkU u&&(u.scheme==httpsB)&& !machineL u.host&&decide (0≤now)&&decide (now≤1099511627775)&&decide (0≤age)
def newS (u:UrlL) (q:Bool) (age now:Int):SealL:=⟨u.host,q,now+min age (1099511627775-now)⟩
def lessS (x m:SealL):Bool:=decide (x.till<m.till)||(decide (x.till=m.till)&&decide (x.host<m.host))
def leastS:SealL→List SealL→SealL
 |m,[]=>m
 |m,x::l=>leastS (if lessS x m then x else m) l
def leastOf:List SealL→List (Bool×SealL)
 |[]=>[]
 |m::l=>[(false,leastS m l)]
def hasS (S:List SealL) (h:List UInt8):Option SealL:=S.find? fun s=>decide (s.host=h)
def tellL (S:List SealL) (u:UrlL) (q:Bool) (age now:Int):List (Bool×SealL):=
 if tellOk u age now=false then []else
 if age=0 then (match hasS S u.host with|none=>[]|some s=>[(false,s)])else
 (if (hasS S u.host).isNone=true∧200≤S.length then leastOf S else [])++[(true,newS u q age now)]
def appS (S:List SealL) (c:Bool×SealL):List SealL:=if c.1 then sealIn S c.2 else sealOut S c.2.host
def appsS (S:List SealL) (l:List (Bool×SealL)):List SealL:=l.foldl appS S
theorem leastS_mem:∀(l:List SealL) (m:SealL),leastS m l=m∨leastS m l∈l
 |[],m=> .inl rfl
 |x::l,m=>by
  rcases leastS_mem l (if lessS x m then x else m)with h|h
  ·by_cases hx:lessS x m=true
   ·right
    rw[if_pos hx]at h;rw[leastS,if_pos hx,h];exact List.mem_cons_self
   ·rw[if_neg hx]at h
    left;rw[leastS,if_neg hx,h]
  ·right
   rw[leastS];exact List.mem_cons_of_mem _ h
theorem leastOf_mem {S:List SealL} {c:Bool×SealL} (h:c∈leastOf S):c.1=false∧c.2∈S:=by
 cases S with
 |nil=>cases h
 |cons m l=>
  rw[leastOf,List.mem_singleton]at h;subst h;refine⟨rfl, ?_⟩;rcases leastS_mem l m with h|h
  ·show leastS m l∈_
   rw[h];exact List.mem_cons_self
  ·exact List.mem_cons_of_mem _ h
theorem hasS_some {S:List SealL} {h:List UInt8} {s:SealL} (hs:hasS S h=some s):s∈S∧s.host=h:=by
 have h1:=List.find?_some hs;exact⟨List.mem_of_find?_eq_some hs,by simpa using h1⟩
theorem hasS_found {S:List SealL} (hp:SrtS S) {h:List UInt8}:foundS S h=(hasS S h).isSome:=by
 rw[Bool.eq_iff_iff,foundS_iff hp];unfold hasS;rw[List.find?_isSome];constructor
 ·rintro⟨x,hx,e⟩;exact⟨x,hx,by simpa using e⟩
 ·rintro⟨x,hx,e⟩;exact⟨x,hx,by simpa using e⟩
theorem tell_host {u:UrlL} (h:checkU u=true) (hm:machineL u.host=false):hostOk u.host=true∧belowL (97::46::u.host) u.host=true:=by
 have hg:=check_good h;have hl:=hg.hlen.1;refine⟨?_, ?_⟩
 ·unfold hostOk
  simp only[Bool.and_eq_true,decide_eq_true_eq];exact⟨by omega,hg.host.again⟩
 ·rcases host_ok (by omega) hg.host.again with ⟨h1,_⟩|⟨l,hk⟩
  ·exfalso
   obtain⟨r,hr⟩:∃r,u.host=91::r:=by
    cases hu:u.host with
    |nil=>rw[hu]at h1;cases h1
    |cons c r=>rw[hu]at h1;cases h1;exact⟨r,rfl⟩
   rw[hr]at hm;unfold machineL at hm;rw[brL_cons]at hm;simp at hm
  ·exact hk.below_a hm
theorem tellOk_parts {u:UrlL} {age now:Int} (h:tellOk u age now=true):checkU u=true∧u.scheme=httpsB∧machineL u.host=false∧0≤now∧now≤1099511627775∧0≤age:=by
 unfold tellOk at h;simp only[Bool.and_eq_true,decide_eq_true_eq,beq_iff_eq,Bool.not_eq_true']at h;exact⟨h.1.1.1.1.1,h.1.1.1.1.2,h.1.1.1.2,h.1.1.2,h.1.2,h.2⟩
theorem newS_ok {u:UrlL} {q:Bool} {age now:Int} (h:tellOk u age now=true):sealOk (newS u q age now)=true:=by
 obtain⟨h1,h2,h3,h4,h5,h6⟩:=tellOk_parts h;unfold sealOk newS timeB;simp only[(tell_host h1 h3).1,h3,Bool.not_false,Bool.and_self,Bool.true_and,Bool.and_eq_true,decide_eq_true_eq];omega
theorem tell_apply {J:List CookieL} {S:List SealL} {n:Int} {u:UrlL} {q:Bool} {age now:Int} (hK:keepB J S n=true):
 (∀c∈tellL S u q age now,sealOk c.2=true)∧∀i,i≤(tellL S u q age now).length→keepB J (appsS S ((tellL S u q age now).take i)) n=true:=by
 obtain⟨hs,hl,_⟩:=keepB_parts hK
 have hall:=(sealsB_iff.1 hs).1
 have hp:=(sealsB_iff.1 hs).2
 by_cases ht:tellOk u age now=true
 case neg=>
  have e:tellL S u q age now=[]:=by unfold tellL;rw[if_pos (by simpa using ht)]
  rw[e];refine⟨by simp,fun i hi=> ?_⟩;obtain rfl:i=0:=by simpa using hi
  exact hK
 have h0:¬tellOk u age now=false:=by rw[ht];simp
 by_cases ha:age=0
 ·cases hh:hasS S u.host with
  |none=>
   have e:tellL S u q age now=[]:=by unfold tellL;rw[if_neg h0,if_pos ha,hh]
   rw[e];refine⟨by simp,fun i hi=> ?_⟩;obtain rfl:i=0:=by simpa using hi
   exact hK
  |some s=>
   have e:tellL S u q age now=[(false,s)]:=by unfold tellL;rw[if_neg h0,if_pos ha,hh]
   rw[e];have hm:=hasS_some hh;refine⟨fun c hc=> ?_,fun i hi=> ?_⟩
   ·rw[List.mem_singleton]at hc;subst hc;exact hall s hm.1
   ·rcases(show i=0∨i=1 by simp at hi;omega)with rfl|rfl
    ·exact hK
    ·refine keepB_seals hK (sealOut_ok hs s.host) ?_
     have:=sealOut_len hp s.host;show(sealOut S s.host).length≤200;omega
 ·have hn:=newS_ok (q:=q) ht
  have hnh:(newS u q age now).host=u.host:=rfl;by_cases hc:(hasS S u.host).isNone=true∧200≤S.length
  ·obtain⟨m,l,rfl⟩:∃m l,S=m::l:=by
    cases S with
    |nil=>simp at hc
    |cons m l=>exact⟨m,l,rfl⟩
   have e:tellL (m::l) u q age now=[(false,leastS m l),(true,newS u q age now)]:=by unfold tellL;rw[if_neg h0,if_neg ha,if_pos hc];rfl
   rw[e];have hlm:leastS m l∈m::l:=(leastOf_mem (S:=m::l) (c:=(false,leastS m l)) (by rw[leastOf];simp)).2;have hf:foundS (m::l) (leastS m l).host=true:=(foundS_iff hp).2 ⟨_,hlm,rfl⟩;have ho:=sealOut_ok hs (leastS m l).host;have hop:=(sealsB_iff.1 ho).2;have hol:=sealOut_len hp (leastS m l).host;rw[hf,if_pos rfl]at hol;refine⟨fun c hc=> ?_,fun i hi=> ?_⟩
   ·rcases List.mem_cons.1 hc with rfl|hc
    ·exact hall _ hlm
    ·rw[List.mem_singleton]at hc;subst hc;exact hn
   ·rcases(show i=0∨i=1∨i=2 by simp at hi;omega)with rfl|rfl|rfl
    ·exact hK
    ·exact keepB_seals hK ho (by show(sealOut (m::l) (leastS m l).host).length≤200;omega)
    ·refine keepB_seals hK (sealIn_ok ho hn) ?_
     have:=sealIn_len hop (newS u q age now);show(sealIn (sealOut (m::l) (leastS m l).host) (newS u q age now)).length≤200;omega
  ·have e:tellL S u q age now=[(true,newS u q age now)]:=by unfold tellL;rw[if_neg h0,if_neg ha,if_neg hc];rfl
   rw[e];refine⟨fun c hc=> ?_,fun i hi=> ?_⟩
   ·rw[List.mem_singleton]at hc;subst hc;exact hn
   ·rcases(show i=0∨i=1 by simp at hi;omega)with rfl|rfl
    ·exact hK
    ·refine keepB_seals hK (sealIn_ok hs hn) ?_
     have h1:=sealIn_len hp (newS u q age now);rw[hnh,hasS_found hp]at h1;show(sealIn S (newS u q age now)).length≤200
     cases hh:hasS S u.host with
     |none=>
      rw[hh]at h1 hc;simp at h1 hc;omega
     |some s=>
      rw[hh]at h1;simp at h1;omega
theorem tell_last {J:List CookieL} {S:List SealL} {n:Int} {u:UrlL} {q:Bool} {age now:Int} (hK:keepB J S n=true) (hl:tellL S u q age now≠[]) (ha:age≠0):
 tellOk u age now=true∧∃l S1,tellL S u q age now=l++[(true,newS u q age now)]∧SrtS S1∧appsS S (tellL S u q age now)=sealIn S1 (newS u q age now):=by
 have ht:tellOk u age now=true:=by
  by_cases ht:tellOk u age now=true
  ·exact ht
  ·exact absurd (by unfold tellL;rw[if_pos (by simpa using ht)]) hl
 have h0:¬tellOk u age now=false:=by rw[ht];simp
 refine⟨ht,(if (hasS S u.host).isNone=true∧200≤S.length then leastOf S else []),appsS S (if (hasS S u.host).isNone=true∧200≤S.length then leastOf S else []), ?_, ?_, ?_⟩
 ·unfold tellL;rw[if_neg h0,if_neg ha]
 ·have h2:=(tell_apply (u:=u) (q:=q) (age:=age) (now:=now) hK).2 (if (hasS S u.host).isNone=true∧200≤S.length then leastOf S else []).length (by unfold tellL;rw[if_neg h0,if_neg ha];simp)
  have e:(tellL S u q age now).take (if (hasS S u.host).isNone=true∧200≤S.length then leastOf S else []).length=(if (hasS S u.host).isNone=true∧200≤S.length then leastOf S else []):=by
   unfold tellL;rw[if_neg h0,if_neg ha];simp
  rw[e]at h2;exact(sealsB_iff.1 (keepB_parts h2).1).2
 ·have e:tellL S u q age now=(if (hasS S u.host).isNone=true∧200≤S.length then leastOf S else [])++[(true,newS u q age now)]:=by unfold tellL;rw[if_neg h0,if_neg ha]
  rw[e];unfold appsS;rw[List.foldl_append];rfl
theorem hold_is {S1:List SealL} {u:UrlL} {q:Bool} {age now m:Int} (hp:SrtS S1) (hm:m<(newS u q age now).till):isL (sealIn S1 (newS u q age now)) u.host m=true:=by
 unfold isL;rw[List.any_eq_true];refine⟨newS u q age now,(mem_sealIn hp).2 (.inl rfl), ?_⟩;unfold sealB;simp only[Bool.and_eq_true,decide_eq_true_eq,Bool.or_eq_true,beq_iff_eq];exact⟨hm, .inl rfl⟩
theorem hold_subs {S1:List SealL} {u:UrlL} {q:Bool} {age now m:Int} (hp:SrtS S1) (ht:tellOk u age now=true) (hq:q=true) (hm:m<(newS u q age now).till):isL (sealIn S1 (newS u q age now)) (97::46::u.host) m=true:=by
 obtain⟨h1,h2,h3,h4,h5,h6⟩:=tellOk_parts ht;unfold isL;rw[List.any_eq_true];refine⟨newS u q age now,(mem_sealIn hp).2 (.inl rfl), ?_⟩;unfold sealB;simp only[Bool.and_eq_true,decide_eq_true_eq,Bool.or_eq_true,beq_iff_eq];exact⟨hm, .inr ⟨hq,(tell_host h1 h3).2⟩⟩
def otherB (u:UrlL) (s:SealL):Bool:= !decide (s.host=u.host)&&s.subs
theorem hold_end {S1:List SealL} {u:UrlL} {q:Bool} {age now:Int} (hp:SrtS S1) (hs:isL (sealIn S1 (newS u q age now)) u.host (newS u q age now).till=true):(sealIn S1 (newS u q age now)).any (otherB u)=true:=by
 unfold isL at hs;rw[List.any_eq_true]at hs⊢;obtain⟨x,hx,h⟩:=hs;unfold sealB at h;simp only[Bool.and_eq_true,decide_eq_true_eq,Bool.or_eq_true,beq_iff_eq]at h;have hne:x.host≠u.host:=by
  rcases(mem_sealIn hp).1 hx with rfl|⟨_,h2⟩
  ·exact absurd h.1 (Int.lt_irrefl _)
  ·exact h2
 refine⟨x,hx, ?_⟩;unfold otherB;simp only[Bool.and_eq_true,Bool.not_eq_true',decide_eq_false_iff_not];rcases h.2 with h2|h2
 ·exact absurd h2 hne
 ·exact⟨hne,h2.1⟩
theorem open_end {J:List CookieL} {S:List SealL} {n:Int} {u:UrlL} {q:Bool} {now:Int} (hK:keepB J S n=true):
 (appsS S (tellL S u q 0 now)).length+(tellL S u q 0 now).length=S.length∧(0<(tellL S u q 0 now).length→∀s∈appsS S (tellL S u q 0 now),s.host≠u.host):=by
 obtain⟨hs,hl,_⟩:=keepB_parts hK
 have hp:=(sealsB_iff.1 hs).2
 by_cases ht:tellOk u 0 now=true
 case neg=>
  have e:tellL S u q 0 now=[]:=by unfold tellL;rw[if_pos (by simpa using ht)]
  rw[e];exact⟨rfl,fun h=>by simp at h⟩
 have h0:¬tellOk u 0 now=false:=by rw[ht];simp
 cases hh:hasS S u.host with
 |none=>
  have e:tellL S u q 0 now=[]:=by unfold tellL;rw[if_neg h0,if_pos rfl,hh]
  rw[e];exact⟨rfl,fun h=>by simp at h⟩
 |some s=>
  have e:tellL S u q 0 now=[(false,s)]:=by unfold tellL;rw[if_neg h0,if_pos rfl,hh]
  rw[e];obtain⟨hm,he⟩:=hasS_some hh;have hf:foundS S s.host=true:=(foundS_iff hp).2 ⟨s,hm,rfl⟩;have h1:=sealOut_len hp s.host;rw[hf,if_pos rfl]at h1;refine⟨h1,fun _ x hx=> ?_⟩;have:=((mem_sealOut hp).1 (show x∈sealOut S s.host from hx)).2;rwa[he]at this
theorem tell_http {S:List SealL} {u:UrlL} {q:Bool} {age now:Int} (h:u.scheme=httpB):tellL S u q age now=[]:=by
 unfold tellL;rw[if_pos];unfold tellOk;rw[h];have:(httpB==httpsB)=false:=by decide
 simp[this]
end Go.Proofs.YtjkipdoebkhkaaaGreatDoor
