/- Addresses of things, plain. -/
import Derived.Test.YtjkipdoebkhkaaaGreatDoorGFmt
set_option linter.unusedVariables false
set_option linter.unusedSimpArgs false
set_option maxHeartbeats 16000000
namespace Go.Proofs.YtjkipdoebkhkaaaGreatDoor
structure UrlL where
 scheme:List UInt8
 user:List UInt8
 pass:List UInt8
 host:List UInt8
 port:Int
 path:List UInt8
 query:List UInt8
 hasQ:Bool
 mark:List UInt8
 hasM:Bool
def zeroU:UrlL:=⟨[],[],[],[],0,[],[],false,[],false⟩
def httpB:List UInt8:=[104,116,116,112]
def httpsB:List UInt8:=[104,116,116,112,115]
def ownP (s:List UInt8):Nat:=if s=httpsB then 443 else if s=httpB then 80 else 0
def setS (n:Nat):List UInt8:=
 if n=2 then [32,34,60,62,96]else if n=3 then [32,34,35,60,62,39]else if n=4 then [32,34,35,60,62,63,94,123,125,96]
 else if n=5 then [47,58,59,61,64,91,92,93,124,32,34,35,60,62,63,94,123,125,96]else []
def encB (n:Nat) (c:UInt8):Bool:=decide (c.toNat<32)||(decide (126<c.toNat)||(setS n).contains c)
def upB (n:Nat):UInt8:=if n<10 then UInt8.ofNat (48+n)else UInt8.ofNat (55+n)
def encC (n:Nat) (c:UInt8):List UInt8:=if encB n c=true then [37,upB (c.toNat/16),upB (c.toNat % 16)]else [c]
def encP (n:Nat) (s:List UInt8):List UInt8:=s.flatMap (encC n)
def cutF (c:UInt8):List UInt8→List UInt8×Option (List UInt8)
 |[]=>([],none)
 |x::s=>if x=c then ([],some s)else (x::(cutF c s).1,(cutF c s).2)
def cutB (c:UInt8):List UInt8→Option (List UInt8×List UInt8)
 |[]=>none
 |x::s=>match cutB c s with
  |some r=>some (x::r.1,r.2)
  |none=>if x=c then some ([],s)else none
def idleB (c:UInt8):Bool:=decide (c.toNat≤32)
def tabB (c:UInt8):Bool:=c==9||(c==10||c==13)
def dropL (s:List UInt8):List UInt8:=(((s.dropWhile idleB).reverse.dropWhile idleB).reverse).filter fun c=> !tabB c
def trimR (s:List UInt8):List UInt8:=(s.reverse.dropWhile idleB).reverse
def slashB (c:UInt8):Bool:=c==47||c==92
def letterB (c:UInt8):Bool:=(decide (97≤c.toNat)&&decide (c.toNat≤122))||(decide (65≤c.toNat)&&decide (c.toNat≤90))
def numCB (c:UInt8):Bool:=decide (48≤c.toNat)&&decide (c.toNat≤57)
def schB (c:UInt8):Bool:=letterB c||(numCB c||(c==43||(c==45||c==46)))
def beginsB (s:List UInt8):Bool:=match s with|[]=>false|x::_=>letterB x
def schemeU (s:List UInt8):Option (List UInt8×List UInt8):=
 match cutF 58 s with
 |(a,some b)=>if a.all schB&&beginsB a then some (lowerL a,b)else none
 |(_,none)=>none
def flatS (s:List UInt8):List UInt8:=s.map fun c=>if c=92 then 47 else c
def slashP (s:List UInt8):List (List UInt8):=partsL 47 (flatS s)
def bareP:List UInt8→List UInt8
 |37::50::101::s=>46::bareP s
 |37::50::69::s=>46::bareP s
 |x::s=>x::bareP s
 |[]=>[]
def pathF:List (List UInt8)→List (List UInt8)→List (List UInt8)
 |l,[]=>l
 |l,x::r=>
  if bareP x=[46]then pathF (if r=[]then l++[[]]else l) r
  else if bareP x=[46,46]then pathF (if r=[]then l.dropLast++[[]]else l.dropLast) r
  else pathF (l++[encP 4 x]) r
def pathL (l:List (List UInt8)) (s:List UInt8):List UInt8:=backL 47 (pathF l (slashP s))
def numV (s:List UInt8):Nat:=s.foldl (fun n c=>10*n+(c.toNat-48)) 0
def portU (sch s:List UInt8):Option Int:=
 if s.all numCB&&decide (numV s≤65535)then some (if s=[]∨numV s=ownP sch then -1 else (numV s:Int))else none
def userU (s:List UInt8):(List UInt8×List UInt8)×List UInt8:=
 match cutB 64 s with
 |none=>(([],[]),s)
 |some (a,b)=>((encP 5 (cutF 58 a).1,encP 5 ((cutF 58 a).2.getD [])),b)
def colonF (inn:Bool):List UInt8→List UInt8×List UInt8
 |[]=>([],[])
 |x::s=>if x=58∧inn=false then ([],s)else (x::(colonF (x==91||(inn&&x !=93)) s).1,(colonF (x==91||(inn&&x !=93)) s).2)
def placeU (u:UrlL) (s0:List UInt8):Except Nat UrlL:=
 let s1:=s0.takeWhile fun c=> !slashB c
 let rest:=(s0.dropWhile fun c=> !slashB c).tail
 let us:=userU s1
 let hp:=colonF false us.2
 match hostL hp.1 with
 |none=> .error 5
 |some h=>match portU u.scheme hp.2 with
  |none=> .error 4
  |some p=> .ok {u with user:=us.1.1,pass:=us.1.2,host:=h,port:=p,path:=pathL [] rest}
def twoSl (s:List UInt8):Bool:=match s with|a::b::_=>slashB a&&slashB b|_=>false
def seenU (u base:UrlL) (s:List UInt8):Except Nat UrlL:=
 if twoSl s=true then placeU u (s.dropWhile slashB)
 else
  let v:UrlL:= {u with user:=base.user,pass:=base.pass,host:=base.host,port:=base.port}
  match s with
  |[]=> .ok (if u.hasQ=true then {v with path:=base.path}else {v with path:=base.path,hasQ:=base.hasQ,query:=base.query})
  |x::r=>if slashB x=true then .ok {v with path:=pathL [] r}else .ok {v with path:=pathL (partsL 47 base.path).tail.dropLast (x::r)}
def endU (u:UrlL) (s:List UInt8):UrlL×List UInt8:=
 let m:=cutF 35 s
 let q:=cutF 63 m.1
 ({u with mark:=(m.2.map (encP 2)).getD [],hasM:=m.2.isSome,query:=(q.2.map (encP 3)).getD [],hasQ:=q.2.isSome},q.1)
def decP (n:Nat):List UInt8:=digF 10 20 n
def targetU (u:UrlL):List UInt8:=if u.hasQ=true then u.path++63::u.query else u.path
def textU (u:UrlL):List UInt8:=
 u.scheme++[58,47,47]++u.user++(if u.pass=[]then []else 58::u.pass)++(if u.user=[]∧u.pass=[]then []else [64])++u.host++
  (if 0≤u.port then 58::decP u.port.toNat else [])++targetU u++(if u.hasM=true then 35::u.mark else [])
def schU (base:UrlL) (has:Bool) (s:List UInt8):Except Nat (UrlL×Bool×List UInt8):=
 match schemeU s with
 |some (c,r)=>if ownP c=0 then .error 6 else .ok ({zeroU with scheme:=c}, !has||(decide (c≠base.scheme)||(r.take 2==[47,47])),r)
 |none=>if has=true then .ok ({zeroU with scheme:=base.scheme},false,s)else .error 4
def readU (s:List UInt8) (base:UrlL) (has:Bool):Except Nat UrlL:=
 if 4096<s.length then .error 3
 else match schU base has (dropL s)with
  | .error e=> .error e
  | .ok (u,pl,r)=>
   let t:=endU u r
   match if pl=true then placeU t.1 (t.2.dropWhile slashB)else seenU t.1 base t.2 with
   | .error e=> .error e
   | .ok v=>if 4096<(textU v).length then .error 3 else .ok v
def eqU (a b:UrlL):Bool:=a.scheme==b.scheme&&(a.user==b.user&&(a.pass==b.pass&&(a.host==b.host&&(decide (a.port=b.port)&&(a.path==b.path&&(a.query==b.query&&(a.hasQ==b.hasQ&&(a.mark==b.mark&&a.hasM==b.hasM))))))))
theorem eqU_iff {a b:UrlL}:eqU a b=true↔a=b:=by
 unfold eqU
 cases a;cases b
 simp only[Bool.and_eq_true,beq_iff_eq,decide_eq_true_eq,UrlL.mk.injEq]
def checkU (u:UrlL):Bool:=match readU (textU u) zeroU false with| .ok v=>eqU u v| .error _=>false
def urlV (u:UrlL):Value:= .agg #[.string ⟨u.scheme.toArray⟩, .string ⟨u.user.toArray⟩, .string ⟨u.pass.toArray⟩, .string ⟨u.host.toArray⟩, .int .i64 u.port, .string ⟨u.path.toArray⟩, .string ⟨u.query.toArray⟩, .bool u.hasQ, .string ⟨u.mark.toArray⟩, .bool u.hasM]
def pairU (r:Except Nat UrlL):Value:=match r with| .ok u=> .tuple #[urlV u, .int .i64 0]| .error e=> .tuple #[urlV zeroU, .int .i64 e]
theorem cutF_none {c:UInt8}:∀ {s:List UInt8},c∉s→cutF c s=(s,none)
 |[],_=>rfl
 |x::s,h=>by
  rw[cutF,if_neg (fun e=>h (by rw[e];exact List.mem_cons_self)),cutF_none (fun hs=>h (List.mem_cons_of_mem _ hs))]
theorem cutF_app {c:UInt8}:∀ {a b:List UInt8},c∉a→cutF c (a++c::b)=(a,some b)
 |[],b,_=>by rw[List.nil_append,cutF,if_pos rfl]
 |x::a,b,h=>by
  rw[List.cons_append,cutF,if_neg (fun e=>h (by rw[e];exact List.mem_cons_self)),cutF_app (fun hs=>h (List.mem_cons_of_mem _ hs))]
theorem cutF_fst {c:UInt8}:∀ {s:List UInt8},(∀x∈(cutF c s).1,x∈s∧x≠c)∧(∀b,(cutF c s).2=some b→s=(cutF c s).1++c::b)∧((cutF c s).2=none→(cutF c s).1=s)
 |[]=>⟨fun x hx=>(by cases hx),fun b hb=>(by cases hb),fun _=>rfl⟩
 |x::s=>by
  obtain⟨h1,h2,h3⟩:= @cutF_fst c s;by_cases e:x=c
  ·subst e
   rw[cutF,if_pos rfl];exact⟨fun y hy=>(by cases hy),fun b hb=>(by injection hb with hb;rw[hb];rfl),fun h=>(by cases h)⟩
  ·rw[cutF,if_neg e]
   refine⟨fun y hy=> ?_,fun b hb=> ?_,fun h=> ?_⟩
   ·rcases List.mem_cons.1 hy with rfl|hy
    ·exact⟨List.mem_cons_self,e⟩
    ·exact⟨List.mem_cons_of_mem _ (h1 y hy).1,(h1 y hy).2⟩
   ·show x::s=x::((cutF c s).1++c::b)
    rw[←h2 b hb]
   ·show x::(cutF c s).1=x::s
    rw[h3 h]
theorem cutB_none {c:UInt8}:∀ {s:List UInt8},c∉s→cutB c s=none
 |[],_=>rfl
 |x::s,h=>by
  rw[cutB,cutB_none (fun hs=>h (List.mem_cons_of_mem _ hs))];exact if_neg (fun e=>h (by rw[e];exact List.mem_cons_self))
theorem cutB_app {c:UInt8}:∀ {a b:List UInt8},c∉b→cutB c (a++c::b)=some (a,b)
 |[],b,h=>by
  rw[List.nil_append,cutB,cutB_none h];exact if_pos rfl
 |x::a,b,h=>by rw[List.cons_append,cutB,cutB_app h]
theorem cutB_some {c:UInt8}:∀ {s a b:List UInt8},cutB c s=some (a,b)→s=a++c::b∧c∉b
 |[],a,b,h=>by cases h
 |x::s,a,b,h=>by
  rw[cutB]at h
  cases hs:cutB c s with
  |some r=>
   rw[hs]at h;obtain⟨a',b'⟩:=r;have:=cutB_some hs;simp only[Option.some.injEq,Prod.mk.injEq]at h;obtain⟨rfl,rfl⟩:=h;exact⟨by rw[this.1];rfl,this.2⟩
  |none=>
   rw[hs]at h;simp only at h;by_cases e:x=c
   ·rw[if_pos e]at h
    simp only[Option.some.injEq,Prod.mk.injEq]at h;obtain⟨rfl,rfl⟩:=h;refine⟨by rw[e];rfl,fun hc=> ?_⟩;have:∀ {s:List UInt8},c∈s→cutB c s≠none:=fun {s}=>by
     induction s with
     |nil=>intro h;cases h
     |cons y s ih=>
      intro h;rw[cutB]
      cases hs:cutB c s with
      |some r=>simp
      |none=>
       rcases List.mem_cons.1 h with rfl|h
       ·simp
       ·exact absurd hs (ih h)
    exact this hc hs
   ·rw[if_neg e]at h;cases h
theorem encP_cons (n:Nat) (c:UInt8) (s:List UInt8):encP n (c::s)=encC n c++encP n s:=rfl
theorem encP_app (n:Nat) (a b:List UInt8):encP n (a++b)=encP n a++encP n b:=List.flatMap_append
theorem encP_id {n:Nat}:∀ {s:List UInt8},(∀c∈s,encB n c=false)→encP n s=s
 |[],_=>rfl
 |x::s,h=>by
  rw[encP_cons,encP_id (fun c hc=>h c (List.mem_cons_of_mem _ hc))];unfold encC;rw[if_neg (by rw[h x List.mem_cons_self];simp)];rfl
theorem up_enc:∀k:Fin 16,∀n:Fin 6,encB n.val (upB k.val)=false∧upB k.val≠37∧upB k.val≠47∧upB k.val≠92∧¬(upB k.val=101):=by decide+kernel
theorem pct_enc:∀n:Fin 6,encB n.val 37=false:=by decide+kernel
theorem encC_mem {n:Nat} (hn:n<6) {x c:UInt8} (h:c∈encC n x):encB n c=false∧(c=x∨(c≠47∧c≠92)):=by
 unfold encC at h;by_cases e:encB n x=true
 ·rw[if_pos e]at h
  have hx:=x.toNat_lt;simp only[List.mem_cons,List.not_mem_nil,or_false]at h;rcases h with rfl|rfl|rfl
  ·exact⟨pct_enc ⟨n,hn⟩, .inr ⟨by decide,by decide⟩⟩
  ·have:=up_enc ⟨x.toNat/16,by omega⟩ ⟨n,hn⟩
   exact⟨this.1, .inr ⟨this.2.2.1,this.2.2.2.1⟩⟩
  ·have:=up_enc ⟨x.toNat % 16,by omega⟩ ⟨n,hn⟩
   exact⟨this.1, .inr ⟨this.2.2.1,this.2.2.2.1⟩⟩
 ·rw[if_neg e]at h
  simp only[List.mem_cons,List.not_mem_nil,or_false]at h;subst h;exact⟨by simpa using e, .inl rfl⟩
theorem encP_mem {n:Nat} (hn:n<6) {s:List UInt8} {c:UInt8} (h:c∈encP n s):encB n c=false∧(c∈s∨(c≠47∧c≠92)):=by
 obtain⟨x,hx,hc⟩:=List.mem_flatMap.1 h;have:=encC_mem hn hc;exact⟨this.1,this.2.imp (fun e=>by rw[e];exact hx) id⟩
theorem encP_len (n:Nat):∀s:List UInt8,s.length≤(encP n s).length∧(encP n s).length≤3*s.length
 |[]=>⟨Nat.le_refl _,Nat.le_refl _⟩
 |x::s=>by
  have:=encP_len n s;have h:1≤(encC n x).length∧(encC n x).length≤3:=by unfold encC;split<;>simp
  rw[encP_cons,List.length_append,List.length_cons];omega
theorem bareP_cons {x:UInt8} {s:List UInt8} (h:x≠37):bareP (x::s)=x::bareP s:=by
 rw[bareP.eq_def];split
 ·rename_i e;injection e with e1 e2;exact absurd e1 h
 ·rename_i e;injection e with e1 e2;exact absurd e1 h
 ·rename_i e;injection e with e1 e2;subst e1;subst e2;rfl
 ·rename_i e;cases e
theorem bareP_pct {s:List UInt8} (h:∀r,s≠50::101::r∧s≠50::69::r):bareP (37::s)=37::bareP s:=by
 rw[bareP.eq_def];split
 ·rename_i e;injection e with e1 e2;exact absurd e2 (h _).1
 ·rename_i e;injection e with e1 e2;exact absurd e2 (h _).2
 ·rename_i e;injection e with e1 e2;subst e1;subst e2;rfl
 ·rename_i e;cases e
theorem encP_head {n:Nat} {s r:List UInt8} {x:UInt8} (hx:x≠37) (h:encP n s=x::r):∃t,s=x::t∧encP n t=r:=by
 cases s with
 |nil=>cases h
 |cons y t=>
  rw[encP_cons]at h;unfold encC at h;split at h
  ·injection h with h1 h2;exact absurd h1.symm hx
  ·injection h with h1 h2;exact⟨t,by rw[h1],h2⟩
theorem bare_enc {n:Nat} (hn:n<6) (h46:encB n 46=false) (h50:encB n 50=false) (h101:encB n 101=false) (h69:encB n 69=false):∀(k:Nat) (s:List UInt8),s.length≤k→bareP (encP n s)=encP n (bareP s)
 |k,[],_=>rfl
 |0,x::s,h=>absurd h (by simp)
 |k+1,x::s,h=>by
  have one:∀ {c:UInt8} {t:List UInt8},encB n c=false→encP n (c::t)=c::encP n t:=fun {c t} hc=>by
   rw[encP_cons];unfold encC;rw[if_neg (by rw[hc];simp)];rfl
  have hp:=pct_enc ⟨n,hn⟩;simp only at hp;have h':s.length≤k:=by simpa using h
  by_cases e:encB n x=true
  ·have hx:=x.toNat_lt
   have u1:=(up_enc ⟨x.toNat/16,by omega⟩ ⟨n,hn⟩);have u2:=(up_enc ⟨x.toNat % 16,by omega⟩ ⟨n,hn⟩);simp only at u1 u2;have hx37:x≠37:=fun q=>by rw[q,hp]at e;cases e
   have hne:¬(upB (x.toNat/16)=50∧upB (x.toNat % 16)=69):=by
    rintro⟨q1,q2⟩;have all:∀a b:Fin 16,upB a.val=50→upB b.val=69→a.val=2∧b.val=14:=by decide+kernel
    have:=all ⟨x.toNat/16,by omega⟩ ⟨x.toNat % 16,by omega⟩ q1 q2;simp only at this;have:x=46:=UInt8.toNat_inj.1 (by show x.toNat=46;omega);rw[this,h46]at e;cases e
   rw[bareP_cons hx37,encP_cons,encP_cons];unfold encC;rw[if_pos e];show bareP (37::upB (x.toNat/16)::upB (x.toNat % 16)::encP n s)=37::upB (x.toNat/16)::upB (x.toNat % 16)::encP n (bareP s);rw[bareP_pct (fun r=>⟨fun q=>by injection q with q1 q2;injection q2 with q2 q3;exact u2.2.2.2.2 q2,fun q=>by injection q with q1 q2;injection q2 with q2 q3;exact hne ⟨q1,q2⟩⟩),bareP_cons u1.2.1,bareP_cons u2.2.1,bare_enc hn h46 h50 h101 h69 k s h']
  ·have e:encB n x=false:=by simpa using e
   by_cases hx37:x=37
   ·subst hx37
    by_cases hs:∃r,s=50::101::r∨s=50::69::r
    ·obtain⟨r,hr⟩:=hs
     have hrl:r.length≤k:=by rcases hr with rfl|rfl<;>simp at h'<;>omega
     have ih:=bare_enc hn h46 h50 h101 h69 k r hrl;rcases hr with rfl|rfl
     ·rw[one e,one h50,one h101]
      show 46::bareP (encP n r)=encP n (46::bareP r);rw[one h46,ih]
     ·rw[one e,one h50,one h69]
      show 46::bareP (encP n r)=encP n (46::bareP r);rw[one h46,ih]
    ·have ih:=bare_enc hn h46 h50 h101 h69 k s h'
     rw[one e,bareP_pct (fun r=>⟨fun q=>hs ⟨r, .inl q⟩,fun q=>hs ⟨r, .inr q⟩⟩),one e,bareP_pct,ih];refine fun r=>⟨fun q=> ?_,fun q=> ?_⟩
     ·obtain⟨t,h1,h2⟩:=encP_head (by decide) q
      obtain⟨t',h3,h4⟩:=encP_head (by decide) h2;exact hs ⟨t', .inl (by rw[h1,h3])⟩
     ·obtain⟨t,h1,h2⟩:=encP_head (by decide) q
      obtain⟨t',h3,h4⟩:=encP_head (by decide) h2;exact hs ⟨t', .inr (by rw[h1,h3])⟩
   ·rw[one e,bareP_cons hx37,bareP_cons hx37,one e,bare_enc hn h46 h50 h101 h69 k s h']
theorem encP_dot {n:Nat} (h46:encB n 46=false):∀ {s:List UInt8} {k:Nat},encP n s=List.replicate k 46→s=List.replicate k 46
 |[],0,_=>rfl
 |[],k+1,h=>by cases h
 |x::s,0,h=>by
  have:=(encP_len n (x::s)).1;rw[h]at this;simp at this
 |x::s,k+1,h=>by
  obtain⟨t,h1,h2⟩:=encP_head (x:=46) (by decide) h;injection h1 with h1 h3;subst h3;rw[h1,encP_dot h46 h2];rfl
structure PartU (p:List UInt8):Prop where
 enc:∀c∈p,encB 4 c=false
 sl:∀c∈p,c≠47∧c≠92
 one:bareP p≠[46]
 two:bareP p≠[46,46]
theorem PartU.nil:PartU []:=⟨fun c h=>(by cases h),fun c h=>(by cases h),by decide,by decide⟩
theorem PartU.mk_enc {x:List UInt8} (hs:∀c∈x,c≠47∧c≠92) (h1:bareP x≠[46]) (h2:bareP x≠[46,46]):PartU (encP 4 x):=by
 have hb:=bare_enc (n:=4) (by decide) (by decide) (by decide) (by decide) (by decide) x.length x (Nat.le_refl _);refine⟨fun c hc=>(encP_mem (by decide) hc).1,fun c hc=> ?_,fun e=> ?_,fun e=> ?_⟩
 ·rcases(encP_mem (by decide) hc).2 with h|h
  ·exact hs c h
  ·exact h
 ·rw[hb]at e
  exact h1 (encP_dot (k:=1) (by decide) e)
 ·rw[hb]at e
  exact h2 (encP_dot (k:=2) (by decide) e)
theorem pathF_good:∀ {r l:List (List UInt8)},(∀p∈l,PartU p)→(∀x∈r,∀c∈x,c≠47∧c≠92)→(∀p∈pathF l r,PartU p)∧(r≠[]→pathF l r≠[])
 |[],l,hl,_=>⟨hl,fun h=>absurd rfl h⟩
 |x::r,l,hl,hr=>by
  have hx:=hr x List.mem_cons_self;have hr':∀y∈r,∀c∈y,c≠47∧c≠92:=fun y hy=>hr y (List.mem_cons_of_mem _ hy)
  have snoc:∀ {m:List (List UInt8)} {p:List UInt8},(∀q∈m,PartU q)→PartU p→∀q∈m++[p],PartU q:=fun {m p} hm hp q hq=>by
   rcases List.mem_append.1 hq with hq|hq
   ·exact hm q hq
   ·rw[List.mem_singleton]at hq;exact hq▸hp
  have hd:∀q∈l.dropLast,PartU q:=fun q hq=>hl q (List.dropLast_subset l hq)
  rw[pathF];split
  ·by_cases h0:r=[]
   ·subst h0
    rw[if_pos rfl];exact⟨snoc hl PartU.nil,fun _=>by simp[pathF]⟩
   ·rw[if_neg h0]
    have:=pathF_good hl hr';exact⟨this.1,fun _=>this.2 h0⟩
  ·split
   ·by_cases h0:r=[]
    ·subst h0
     rw[if_pos rfl];exact⟨snoc hd PartU.nil,fun _=>by simp[pathF]⟩
    ·rw[if_neg h0]
     have:=pathF_good hd hr';exact⟨this.1,fun _=>this.2 h0⟩
   ·have:=pathF_good (snoc hl (PartU.mk_enc hx (by assumption) (by assumption))) hr'
    refine⟨this.1,fun _=> ?_⟩;by_cases h0:r=[]
    ·subst h0;simp[pathF]
    ·exact this.2 h0
theorem pathF_id:∀ {r l:List (List UInt8)},(∀p∈r,PartU p)→pathF l r=l++r
 |[],l,_=>by simp[pathF]
 |x::r,l,h=>by
  have hx:=h x List.mem_cons_self;rw[pathF,if_neg hx.one,if_neg hx.two,pathF_id (fun p hp=>h p (List.mem_cons_of_mem _ hp)),encP_id hx.enc];simp
theorem flatS_id {s:List UInt8} (h:(92:UInt8)∉s):flatS s=s:=by
 unfold flatS
 conv=>rhs;rw[←List.map_id s]
 exact List.map_congr_left fun c hc=>if_neg fun e=>h (by rw[←e];exact hc)
theorem flatS_mem {s:List UInt8}:∀c∈flatS s,c≠92:=fun c hc e=>by
 obtain⟨x,_,hx⟩:=List.mem_map.1 hc;subst e;by_cases h:x=92
 ·rw[if_pos h]at hx;cases hx
 ·rw[if_neg h]at hx;exact h hx
theorem slashP_mem {s:List UInt8}:∀p∈slashP s,∀c∈p,c≠47∧c≠92:=fun p hp c hc=>by
 have:=partsL_mem 47 (flatS s) p hp c hc;exact⟨this.2,flatS_mem c this.1⟩
theorem slashP_ne (s:List UInt8):slashP s≠[]:=partsL_ne 47 _
theorem join_mem {c:UInt8}:∀ {l:List (List UInt8)} {x:UInt8},x∈joinL c l→x=c∨∃p∈l,x∈p
 |[],x,h=>by cases h
 |[p],x,h=> .inr ⟨p,List.mem_cons_self,h⟩
 |p::q::l,x,h=>by
  rw[joinL]at h;rcases List.mem_append.1 h with h|h
  ·exact .inr ⟨p,List.mem_cons_self,h⟩
  ·rcases List.mem_cons.1 h with h|h
   ·exact .inl h
   ·rcases join_mem h with h|⟨r,hr,h⟩
    ·exact .inl h
    ·exact .inr ⟨r,List.mem_cons_of_mem _ hr,h⟩
theorem back_join {c:UInt8} {p:List UInt8} {l:List (List UInt8)}:backL c (p::l)=c::joinL c (p::l):=by
 rw[joinL_back];rfl
theorem slashP_join {l:List (List UInt8)} (h0:l≠[]) (h:∀p∈l,PartU p):slashP (joinL 47 l)=l:=by
 have h92:(92:UInt8)∉joinL 47 l:=fun hc=>by
  rcases join_mem hc with e|⟨p,hp,e⟩
  ·cases e
  ·exact((h p hp).sl _ e).2 rfl
 unfold slashP;rw[flatS_id h92,parts_join h0 (fun p hp x hx=>((h p hp).sl x hx).1)]
structure PathU (s:List UInt8):Prop where
 parts:∃l:List (List UInt8),l≠[]∧s=backL 47 l∧∀p∈l,PartU p
theorem pathL_good {l:List (List UInt8)} (hl:∀p∈l,PartU p) (s:List UInt8):PathU (pathL l s):=by
 have:=pathF_good (r:=slashP s) hl slashP_mem;exact⟨⟨_,this.2 (slashP_ne s),rfl,this.1⟩⟩
theorem PathU.again {s:List UInt8} (h:PathU s):∃r,s=47::r∧pathL [] r=s∧(∀c∈r,encB 4 c=false∧c≠92)∧(partsL 47 s).tail=slashP r∧∀p∈slashP r,PartU p:=by
 obtain⟨l,h0,rfl,hl⟩:=h.parts
 cases l with
 |nil=>exact absurd rfl h0
 |cons p l=>
  rw[back_join];have hs:=slashP_join h0 hl;refine⟨joinL 47 (p::l),rfl, ?_,fun c hc=> ?_, ?_,by rw[hs];exact hl⟩
  ·unfold pathL
   rw[hs,pathF_id hl,List.nil_append,back_join]
  ·rcases join_mem hc with e|⟨q,hq,e⟩
   ·subst e;exact⟨by decide,by decide⟩
   ·exact⟨(hl q hq).enc c e,((hl q hq).sl c e).2⟩
  ·rw[partsL_hit,List.tail_cons,hs,parts_join h0 (fun p hp x hx=>((hl p hp).sl x hx).1)]
end Go.Proofs.YtjkipdoebkhkaaaGreatDoor
