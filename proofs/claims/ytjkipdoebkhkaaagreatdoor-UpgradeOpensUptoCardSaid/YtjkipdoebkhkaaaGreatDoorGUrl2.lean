/- What an address's text says, plain. -/
import Derived.Test.YtjkipdoebkhkaaaGreatDoorGUrl0
import Derived.Test.YtjkipdoebkhkaaaGreatDoorGStay
set_option linter.unusedVariables false
set_option linter.unusedSimpArgs false
set_option maxHeartbeats 16000000
namespace Go.Proofs.YtjkipdoebkhkaaaGreatDoor
structure HostU (x:List UInt8):Prop where
 again:hostL x=some x
 ne:x≠[]
 sign:∀c∈x,32<c.toNat∧c≠35∧c≠47∧c≠63∧c≠64∧c≠92
 colon:∀r,colonF false (x++r)=(x++(colonF false r).1,(colonF false r).2)
theorem colon_out:∀ {x r:List UInt8},(∀c∈x,c≠58∧c≠91)→colonF false (x++r)=(x++(colonF false r).1,(colonF false r).2)
 |[],r,_=>rfl
 |c::x,r,h=>by
  have hc:=h c List.mem_cons_self;have hq:(c==91||(false&&c !=93))=false:=by simp[hc.2]
  rw[List.cons_append,colonF,if_neg (fun e=>hc.1 e.1),hq,colon_out (fun d hd=>h d (List.mem_cons_of_mem _ hd))];rfl
theorem colon_in:∀ {x r:List UInt8},(∀c∈x,c≠93)→colonF true (x++r)=(x++(colonF true r).1,(colonF true r).2)
 |[],r,_=>rfl
 |c::x,r,h=>by
  have hc:=h c List.mem_cons_self;have hq:(c==91||(true&&c !=93))=true:=by simp[hc]
  rw[List.cons_append,colonF,if_neg (fun e=>by cases e.2),hq,colon_in (fun d hd=>h d (List.mem_cons_of_mem _ hd))];rfl
theorem colon_br {t r:List UInt8} (h:∀c∈t,c≠93):colonF false ((91::t++[93])++r)=((91::t++[93])++(colonF false r).1,(colonF false r).2):=by
 have e:(91::t++[93])++r=91::(t++93::r):=by simp
 rw[e,colonF,if_neg (fun e=>by cases e.1),show((91:UInt8)==91||(false&&(91:UInt8) !=93))=true from rfl,colon_in h,colonF,if_neg (fun e=>by cases e.1),show((93:UInt8)==91||(true&&(93:UInt8) !=93))=false from rfl];simp
theorem hexB_sign (n:Nat) (h:n<16):(48≤(hexB n).toNat∧(hexB n).toNat≤57)∨(97≤(hexB n).toNat∧(hexB n).toNat≤102):=by
 have:∀k:Fin 16,(48≤(hexB k.val).toNat∧(hexB k.val).toNat≤57)∨(97≤(hexB k.val).toNat∧(hexB k.val).toNat≤102):=by decide+kernel
 exact this ⟨n,h⟩
theorem digF_sign {base:Nat} (h2:2≤base) (h16:base≤16):∀(f n:Nat),∀c∈digF base f n,(48≤c.toNat∧c.toNat≤57)∨(97≤c.toNat∧c.toNat≤102)
 |0,n,c,hc=>by
  rw[digF,List.mem_singleton]at hc;subst hc;exact hexB_sign _ (by have:=Nat.mod_lt n (show 0<base by omega);omega)
 |f+1,n,c,hc=>by
  rw[digF]at hc;split at hc
  ·rw[List.mem_singleton]at hc
   subst hc;exact hexB_sign _ (by omega)
  ·rcases List.mem_append.1 hc with hc|hc
   ·exact digF_sign h2 h16 f _ c hc
   ·rw[List.mem_singleton]at hc
    subst hc;exact hexB_sign _ (by have:=Nat.mod_lt n (show 0<base by omega);omega)
theorem join_hex {P:List Nat}:∀c∈joinL 58 (P.map hex4),c=58∨(48≤c.toNat∧c.toNat≤57)∨(97≤c.toNat∧c.toNat≤102):=fun c hc=>by
 rcases join_mem hc with h|⟨p,hp,h⟩
 ·exact .inl h
 ·obtain⟨n,_,rfl⟩:=List.mem_map.1 hp
  exact .inr (digF_sign (by omega) (by omega) 20 n c h)
theorem text6_sign {P:List Nat}:∀c∈text6 P,c=58∨(48≤c.toNat∧c.toNat≤57)∨(97≤c.toNat∧c.toNat≤102):=fun c hc=>by
 unfold text6 at hc;simp only at hc;split at hc
 ·exact join_hex c hc
 ·rcases List.mem_append.1 hc with hc|hc
  ·rcases List.mem_append.1 hc with hc|hc
   ·exact join_hex c hc
   ·simp only[List.mem_cons,List.not_mem_nil,or_false,or_self]at hc
    exact .inl hc
  ·exact join_hex c hc
theorem br_shape {x:List UInt8} (h0:x.head?=some 91) (h:hostL x=some x):∃t,x=91::t++[93]∧∀c∈t,c=58∨(48≤c.toNat∧c.toNat≤57)∨(97≤c.toNat∧c.toNat≤102):=by
 unfold hostL at h;rw[if_pos h0]at h;unfold inL at h;split at h
 ·cases hb:sixL x.tail.dropLast with
  |none=>rw[hb]at h;cases h
  |some b=>
   rw[hb]at h;injection h with h;exact⟨_,h.symm,text6_sign⟩
 ·cases h
theorem host_u {s x:List UInt8} (hs:s.length≤4100) (h:hostL s=some x):HostU x:=by
 have ne:∀ {c d:UInt8},c.toNat≠d.toNat→c≠d:=fun h e=>h (by rw[e])
 rcases host_ok hs h with ⟨h1,h2⟩|⟨l,hl⟩
 ·obtain⟨t,rfl,ht⟩:=br_shape h1 h2
  refine⟨h2,by simp,fun c hc=> ?_,fun r=>colon_br fun c hc=> ?_⟩
  ·have hc':c=91∨c∈t∨c=93:=by simpa using hc
   rcases hc' with rfl|hc'|rfl
   ·decide
   ·rcases ht c hc' with rfl|h|h
    ·decide
    ·exact⟨by omega,ne (by show c.toNat≠35;omega),ne (by show c.toNat≠47;omega),ne (by show c.toNat≠63;omega),ne (by show c.toNat≠64;omega),ne (by show c.toNat≠92;omega)⟩
    ·exact⟨by omega,ne (by show c.toNat≠35;omega),ne (by show c.toNat≠47;omega),ne (by show c.toNat≠63;omega),ne (by show c.toNat≠64;omega),ne (by show c.toNat≠92;omega)⟩
   ·decide
  ·rcases ht c hc with rfl|h|h
   ·decide
   ·exact ne (by show c.toNat≠93;omega)
   ·exact ne (by show c.toNat≠93;omega)
 ·refine⟨hl.host,hl.name.x_ne,fun c hc=> ?_,fun r=>colon_out fun c hc=> ?_⟩
  ·have:=hl.sign c hc
   exact⟨this.1,ne (by show c.toNat≠35;omega),ne (by show c.toNat≠47;omega),ne (by show c.toNat≠63;omega),ne (by show c.toNat≠64;omega),ne (by show c.toNat≠92;omega)⟩
  ·have:=hl.sign c hc
   exact⟨ne (by show c.toNat≠58;omega),ne (by show c.toNat≠91;omega)⟩
def PortU (p:Int) (sch:List UInt8):Prop:=p= -1∨∃n:Nat,p=(n:Int)∧n≤65535∧n≠ownP sch
structure GoodU (u:UrlL):Prop where
 sch:u.scheme=httpB∨u.scheme=httpsB
 user:∀c∈u.user,encB 5 c=false
 pass:∀c∈u.pass,encB 5 c=false
 host:HostU u.host
 port:PortU u.port u.scheme
 path:PathU u.path
 query:∀c∈u.query,encB 3 c=false
 noQ:u.hasQ=false→u.query=[]
 mark:∀c∈u.mark,encB 2 c=false
 noM:u.hasM=false→u.mark=[]
 len:(textU u).length≤4096
theorem colonF_len:∀(b:Bool) (s:List UInt8),(colonF b s).1.length≤s.length
 |b,[]=>Nat.le_refl _
 |b,x::s=>by
  rw[colonF];split
  ·simp
  ·have:=colonF_len (x==91||(b&&x !=93)) s
   simp;omega
theorem cutF_len (c:UInt8):∀(s:List UInt8),(cutF c s).1.length≤s.length
 |[]=>Nat.le_refl _
 |x::s=>by
  rw[cutF];split
  ·simp
  ·have:=cutF_len c s
   simp;omega
theorem userU_len (s:List UInt8):(userU s).2.length≤s.length:=by
 unfold userU
 cases h:cutB 64 s with
 |none=>exact Nat.le_refl _
 |some r=>
  obtain⟨a,b⟩:=r;have:=(cutB_some h).1;show b.length≤s.length;rw[this];simp;omega
theorem userU_good (s:List UInt8):(∀c∈(userU s).1.1,encB 5 c=false)∧∀c∈(userU s).1.2,encB 5 c=false:=by
 unfold userU
 cases h:cutB 64 s with
 |none=>exact⟨fun c hc=>(by cases hc),fun c hc=>(by cases hc)⟩
 |some r=>exact⟨fun c hc=>(encP_mem (by decide) hc).1,fun c hc=>(encP_mem (by decide) hc).1⟩
theorem portU_good {sch s:List UInt8} {p:Int} (h:portU sch s=some p):PortU p sch:=by
 unfold portU at h;split at h
 ·rename_i hc
  simp only[Bool.and_eq_true,decide_eq_true_eq]at hc;injection h with h;subst h;by_cases e:s=[]∨numV s=ownP sch
  ·rw[if_pos e];exact .inl rfl
  ·rw[if_neg e];exact .inr ⟨_,rfl,hc.2,fun q=>e (.inr q)⟩
 ·cases h
theorem place_good {u v:UrlL} {s:List UInt8} (hs:s.length≤4100) (h:placeU u s= .ok v):
 ∃us ps ho po pa,v= {u with user:=us,pass:=ps,host:=ho,port:=po,path:=pa}∧(∀c∈us,encB 5 c=false)∧(∀c∈ps,encB 5 c=false)∧HostU ho∧PortU po u.scheme∧PathU pa:=by
 unfold placeU at h
 simp only at h
 have hg:=userU_good (s.takeWhile fun c=> !slashB c)
 have hl1:=userU_len (s.takeWhile fun c=> !slashB c)
 have hl0:(s.takeWhile fun c=> !slashB c).length≤s.length:=(List.takeWhile_sublist _).length_le
 have hl2:=colonF_len false (userU (s.takeWhile fun c=> !slashB c)).2
 cases hh:hostL (colonF false (userU (s.takeWhile fun c=> !slashB c)).2).1 with
 |none=>rw[hh]at h;cases h
 |some x=>
  rw[hh]at h;simp only at h
  cases hp:portU u.scheme (colonF false (userU (s.takeWhile fun c=> !slashB c)).2).2 with
  |none=>rw[hp]at h;cases h
  |some p=>
   rw[hp]at h;injection h with h;exact⟨_,_,_,_,_,h.symm,hg.1,hg.2,host_u (by omega) hh,portU_good hp,pathL_good (fun q hq=>by cases hq) _⟩
theorem seen_good {u v base:UrlL} {s:List UInt8} (hs:s.length≤4100) (hb:GoodU base) (hsch:u.scheme=base.scheme) (hq:(∀c∈u.query,encB 3 c=false)∧(u.hasQ=false→u.query=[])) (h:seenU u base s= .ok v):
 v.scheme=u.scheme∧(∀c∈v.user,encB 5 c=false)∧(∀c∈v.pass,encB 5 c=false)∧HostU v.host∧PortU v.port v.scheme∧PathU v.path∧((∀c∈v.query,encB 3 c=false)∧(v.hasQ=false→v.query=[]))∧v.mark=u.mark∧v.hasM=u.hasM:=by
 unfold seenU at h
 split at h
 ·obtain⟨us,ps,ho,po,pa,rfl,h1,h2,h3,h4,h5⟩:=place_good (by have:=(List.dropWhile_sublist slashB (l:=s)).length_le;omega) h
  exact⟨rfl,h1,h2,h3,h4,h5,hq,rfl,rfl⟩
 ·simp only at h
  have hp:PortU base.port u.scheme:=hsch▸hb.port
  cases s with
  |nil=>
   simp only at h;injection h with h;subst h;split
   ·exact⟨rfl,hb.user,hb.pass,hb.host,hp,hb.path,hq,rfl,rfl⟩
   ·exact⟨rfl,hb.user,hb.pass,hb.host,hp,hb.path,⟨hb.query,hb.noQ⟩,rfl,rfl⟩
  |cons x r=>
   simp only at h;split at h
   ·injection h with h
    subst h;exact⟨rfl,hb.user,hb.pass,hb.host,hp,pathL_good (fun q hq=>by cases hq) _,hq,rfl,rfl⟩
   ·injection h with h
    subst h;obtain⟨t,_,_,_,ht,hpt⟩:=hb.path.again;exact⟨rfl,hb.user,hb.pass,hb.host,hp,pathL_good (fun q hq=>hpt q (by rw[←ht];exact List.dropLast_subset _ hq)) _,hq,rfl,rfl⟩
theorem endU_good (u:UrlL) (s:List UInt8):(endU u s).1.scheme=u.scheme∧((∀c∈(endU u s).1.query,encB 3 c=false)∧((endU u s).1.hasQ=false→(endU u s).1.query=[]))∧((∀c∈(endU u s).1.mark,encB 2 c=false)∧((endU u s).1.hasM=false→(endU u s).1.mark=[]))∧(endU u s).2.length≤s.length:=by
 unfold endU;simp only;refine⟨by first|trivial|rfl,⟨fun c hc=> ?_,fun h=> ?_⟩,⟨fun c hc=> ?_,fun h=> ?_⟩, ?_⟩
 ·cases hq:(cutF 63 (cutF 35 s).1).2 with
  |none=>rw[hq]at hc;cases hc
  |some q=>rw[hq]at hc;exact(encP_mem (by decide) hc).1
 ·cases hq:(cutF 63 (cutF 35 s).1).2 with
  |none=>rfl
  |some q=>rw[hq]at h;cases h
 ·cases hq:(cutF 35 s).2 with
  |none=>rw[hq]at hc;cases hc
  |some q=>rw[hq]at hc;exact(encP_mem (by decide) hc).1
 ·cases hq:(cutF 35 s).2 with
  |none=>rfl
  |some q=>rw[hq]at h;cases h
 ·have h1:=cutF_len 35 s
  have h2:=cutF_len 63 (cutF 35 s).1;omega
theorem ownP_sch {s:List UInt8} (h:ownP s≠0):s=httpB∨s=httpsB:=by
 unfold ownP at h;split at h
 ·exact .inr (by assumption)
 ·split at h
  ·exact .inl (by assumption)
  ·exact absurd rfl h
theorem schemeU_len {s c r:List UInt8} (h:schemeU s=some (c,r)):r.length≤s.length:=by
 unfold schemeU at h;have hf:= @cutF_fst 58 s
 cases e:cutF 58 s with
 |mk a o=>
  rw[e]at h hf
  cases o with
  |none=>cases h
  |some b=>
   have:=congrArg List.length (hf.2.1 b rfl);simp only[List.length_append,List.length_cons]at this;simp only at h;by_cases hc:(a.all schB&&beginsB a)=true
   ·rw[if_pos hc]at h
    simp only[Option.some.injEq,Prod.mk.injEq]at h;obtain⟨_,rfl⟩:=h;omega
   ·rw[if_neg hc]at h;cases h
theorem schU_good {base u:UrlL} {has pl:Bool} {s r:List UInt8} (hb:has=true→GoodU base) (h:schU base has s= .ok (u,pl,r)):
 (u.scheme=httpB∨u.scheme=httpsB)∧(pl=false→has=true∧u.scheme=base.scheme)∧u.query=[]∧u.hasQ=false∧r.length≤s.length:=by
 unfold schU at h
 cases hs:schemeU s with
 |none=>
  rw[hs]at h;simp only at h;split at h
  ·rename_i hh
   simp only[Except.ok.injEq,Prod.mk.injEq]at h;obtain⟨rfl,rfl,rfl⟩:=h;exact⟨(hb hh).sch,fun _=>⟨hh,rfl⟩,rfl,rfl,Nat.le_refl _⟩
  ·cases h
 |some x=>
  obtain⟨c,t⟩:=x;rw[hs]at h;simp only at h;split at h
  ·cases h
  ·rename_i hc
   simp only[Except.ok.injEq,Prod.mk.injEq]at h;obtain⟨rfl,rfl,rfl⟩:=h;refine⟨ownP_sch hc,fun hp=> ?_,rfl,rfl,schemeU_len hs⟩;simp only[Bool.or_eq_false_iff,Bool.not_eq_false',decide_eq_false_iff_not]at hp;exact⟨hp.1,Classical.byContradiction hp.2.1⟩
theorem dropL_len (s:List UInt8):(dropL s).length≤s.length:=by
 unfold dropL;have h1:=List.length_filter_le (fun c:UInt8=> !tabB c) (((s.dropWhile idleB).reverse.dropWhile idleB).reverse);have h2:=(List.dropWhile_sublist idleB (l:=(s.dropWhile idleB).reverse)).length_le;have h3:=(List.dropWhile_sublist idleB (l:=s)).length_le;rw[List.length_reverse]at h1 h2;omega
theorem good_read {s:List UInt8} {base u:UrlL} {has:Bool} (hb:has=true→GoodU base) (h:readU s base has= .ok u):GoodU u:=by
 unfold readU at h;split at h
 ·cases h
 ·rename_i hl
  have hd:=dropL_len s
  cases hs:schU base has (dropL s)with
  |error e=>rw[hs]at h;cases h
  |ok x=>
   obtain⟨u0,pl,r⟩:=x;rw[hs]at h;simp only at h;obtain⟨g1,g2,g3,g4,g5⟩:=schU_good hb hs;obtain⟨e1,e2,e3,e4⟩:=endU_good u0 r;generalize endU u0 r=t at*;obtain⟨t,q⟩:=t;simp only at e1 e2 e3 e4 h;have key:∀v,(if pl=true then placeU t (q.dropWhile slashB)else seenU t base q)= .ok v→v.scheme=t.scheme∧(∀c∈v.user,encB 5 c=false)∧(∀c∈v.pass,encB 5 c=false)∧HostU v.host∧PortU v.port v.scheme∧PathU v.path∧((∀c∈v.query,encB 3 c=false)∧(v.hasQ=false→v.query=[]))∧v.mark=t.mark∧v.hasM=t.hasM:=fun v hv=>by
    cases pl with
    |true=>
     rw[if_pos rfl]at hv;obtain⟨us,ps,ho,po,pa,rfl,h1,h2,h3,h4,h5⟩:=place_good (by have:=(List.dropWhile_sublist slashB (l:=q)).length_le;omega) hv;exact⟨rfl,h1,h2,h3,h4,h5,e2,rfl,rfl⟩
    |false=>
     rw[if_neg (by simp)]at hv;obtain⟨p1,p2⟩:=g2 rfl;exact seen_good (by omega) (hb p1) (by rw[e1,p2]) e2 hv
   split at h
   ·cases h
   ·rename_i v hv
    obtain⟨k1,k2,k3,k4,k5,k6,k7,k8,k9⟩:=key v hv;split at h
    ·cases h
    ·rename_i hlen
     injection h with h;subst h;exact⟨by rw[k1,e1];exact g1,k2,k3,k4,k5,k6,k7.1,k7.2,by rw[k8];exact e3.1,by rw[k8,k9];exact e3.2,by omega⟩
theorem check_good {u:UrlL} (h:checkU u=true):GoodU u:=by
 unfold checkU at h
 cases hr:readU (textU u) zeroU false with
 |error e=>rw[hr]at h;cases h
 |ok v=>
  rw[hr]at h;rw[eqU_iff]at h;subst h;exact good_read (fun e=>by cases e) hr
theorem enc_sign {n:Nat} {c:UInt8} (h:encB n c=false):32≤c.toNat∧c.toNat≤126∧c∉setS n:=by
 unfold encB at h;simp only[Bool.or_eq_false_iff,decide_eq_false_iff_not]at h;refine⟨by omega,by omega,fun hc=> ?_⟩;have:=h.2.2;rw[List.contains_eq_mem,decide_eq_false_iff_not]at this;exact this hc
theorem toNat_ne {c d:UInt8} (h:c≠d):c.toNat≠d.toNat:=fun e=>h (UInt8.toNat_inj.1 e)
theorem enc_big {n:Nat} {c:UInt8} (h32:(32:UInt8)∈setS n) (h:encB n c=false):32<c.toNat:=by
 have:=enc_sign h;have h1:c.toNat≠32:=toNat_ne (d:=32) fun e=>this.2.2 (e▸h32)
 omega
theorem enc_ne {n:Nat} {c d:UInt8} (hd:d∈setS n) (h:encB n c=false):c≠d:=fun e=>(enc_sign h).2.2 (e▸hd)
theorem dropWhile_id {s:List UInt8} {p:UInt8→Bool} (h:∀c∈s,p c=false):s.dropWhile p=s:=by
 cases s with
 |nil=>rfl
 |cons x s=>rw[List.dropWhile_cons,if_neg (by rw[h x List.mem_cons_self];simp)]
theorem dropL_id {s:List UInt8} (h:∀c∈s,32<c.toNat):dropL s=s:=by
 have h1:∀c∈s,idleB c=false:=fun c hc=>decide_eq_false (by have:=h c hc;omega)
 unfold dropL;rw[dropWhile_id h1,dropWhile_id (fun c hc=>h1 c (List.mem_reverse.1 hc)),List.reverse_reverse,List.filter_eq_self];intro c hc;have:=h c hc;have e:∀d:UInt8,d.toNat≤32→(c==d)=false:=fun d hd=>beq_eq_false_iff_ne.2 fun q=>by rw[q]at this;omega
 unfold tabB;rw[e 9 (by decide),e 10 (by decide),e 13 (by decide)];rfl
theorem take_drop_app {a r:List UInt8} {x:UInt8} {p:UInt8→Bool} (ha:∀c∈a,p c=true) (hx:p x=false):(a++x::r).takeWhile p=a∧(a++x::r).dropWhile p=x::r:=by
 induction a with
 |nil=>rw[List.nil_append,List.takeWhile_cons,List.dropWhile_cons,if_neg (by rw[hx];simp),if_neg (by rw[hx];simp)];exact⟨rfl,rfl⟩
 |cons y a ih=>
  have hy:=ha y List.mem_cons_self;obtain⟨i1,i2⟩:=ih fun c hc=>ha c (List.mem_cons_of_mem _ hc)
  rw[List.cons_append,List.takeWhile_cons,List.dropWhile_cons,if_pos hy,if_pos hy,i1,i2];exact⟨rfl,rfl⟩
/-! ### Numbers -/
theorem numV_snoc (s:List UInt8) (c:UInt8):numV (s++[c])=10*numV s+(c.toNat-48):=by unfold numV;rw[List.foldl_append];rfl
theorem hexB_dec (n:Nat) (h:n<10):(hexB n).toNat=48+n:=by
 have:∀k:Fin 10,(hexB k.val).toNat=48+k.val:=by decide+kernel
 exact this ⟨n,h⟩
theorem dec_back:∀(f n:Nat),n<10^(f+1)→numV (digF 10 f n)=n∧(digF 10 f n).all numCB=true
 |0,n,h=>by
  have hn:n<10:=by simpa using h
  have hd:=hexB_dec n hn;rw[digF,Nat.mod_eq_of_lt hn];refine⟨?_, ?_⟩
  ·show 10*0+((hexB n).toNat-48)=n;omega
  ·simp only[List.all_cons,List.all_nil,Bool.and_true,numCB,Bool.and_eq_true,decide_eq_true_eq];omega
 |f+1,n,h=>by
  rw[digF];split
  ·rename_i hn
   have hd:=hexB_dec n hn;refine⟨?_, ?_⟩
   ·show 10*0+((hexB n).toNat-48)=n;omega
   ·simp only[List.all_cons,List.all_nil,Bool.and_true,numCB,Bool.and_eq_true,decide_eq_true_eq];omega
  ·obtain⟨i1,i2⟩:=dec_back f (n/10) (by rw[Nat.pow_succ]at h;omega)
   have hd:=hexB_dec (n % 10) (by omega);rw[numV_snoc,i1,List.all_append,i2];refine⟨by omega, ?_⟩;simp only[List.all_cons,List.all_nil,Bool.and_true,Bool.true_and,numCB,Bool.and_eq_true,decide_eq_true_eq];omega
theorem decP_back {n:Nat} (h:n≤65535):numV (decP n)=n∧(decP n).all numCB=true∧decP n≠[]:=by
 have:=dec_back 20 n (by omega);exact⟨this.1,this.2,fun e=>by have:=(digF_len 10 20 n).1;unfold decP at e;rw[e]at this;simp at this⟩
/-! ### The text's shape -/
def portT (u:UrlL):List UInt8:=if 0≤u.port then 58::decP u.port.toNat else []
def authT (u:UrlL):List UInt8:=(u.user++(if u.pass=[]then []else 58::u.pass)++(if u.user=[]∧u.pass=[]then []else [64]))++(u.host++portT u)
def queryT (u:UrlL):List UInt8:=if u.hasQ=true then 63::u.query else []
def markT (u:UrlL):List UInt8:=if u.hasM=true then 35::u.mark else []
theorem text_shape (u:UrlL):textU u=u.scheme++58::47::47::(authT u++(u.path++(queryT u++markT u))):=by
 unfold textU authT portT queryT markT targetU;by_cases h:u.hasQ=true<;>simp[h]
theorem portT_sign {u:UrlL} (h:GoodU u):∀c∈portT u,c=58∨(48≤c.toNat∧c.toNat≤57):=fun c hc=>by
 unfold portT at hc;split at hc
 ·rcases List.mem_cons.1 hc with e|hc
  ·exact .inl e
  ·rcases h.port with e|⟨n,e,hn,_⟩
   ·omega
   ·rw[e]at hc
    have:=List.all_eq_true.1 (decP_back hn).2.1 c (by simpa using hc);simp only[numCB,Bool.and_eq_true,decide_eq_true_eq]at this;exact .inr this
 ·cases hc
theorem authT_sign {u:UrlL} (h:GoodU u):∀c∈authT u,32<c.toNat∧c≠35∧c≠47∧c≠63∧c≠92:=fun c hc=>by
 have five:∀ {c},encB 5 c=false→32<c.toNat∧c≠35∧c≠47∧c≠63∧c≠92:=fun hc=>⟨enc_big (by decide) hc,enc_ne (by decide) hc,enc_ne (by decide) hc,enc_ne (by decide) hc,enc_ne (by decide) hc⟩
 have ne:∀ {d:UInt8},c.toNat≠d.toNat→c≠d:=fun h e=>h (by rw[e])
 unfold authT at hc;rcases List.mem_append.1 hc with hc|hc
 ·rcases List.mem_append.1 hc with hc|hc
  ·rcases List.mem_append.1 hc with hc|hc
   ·exact five (h.user c hc)
   ·split at hc
    ·cases hc
    ·rcases List.mem_cons.1 hc with rfl|hc
     ·decide
     ·exact five (h.pass c hc)
  ·split at hc
   ·cases hc
   ·rw[List.mem_singleton]at hc;subst hc;decide
 ·rcases List.mem_append.1 hc with hc|hc
  ·have:=h.host.sign c hc
   exact⟨this.1,this.2.1,this.2.2.1,this.2.2.2.1,this.2.2.2.2.2⟩
  ·rcases portT_sign h c hc with rfl|hc
   ·decide
   ·exact⟨by omega,ne (by show c.toNat≠35;omega),ne (by show c.toNat≠47;omega),ne (by show c.toNat≠63;omega),ne (by show c.toNat≠92;omega)⟩
theorem path_sign {u:UrlL} (h:GoodU u):∀c∈u.path,32<c.toNat∧c≠35∧c≠63:=fun c hc=>by
 obtain⟨r,e,_,hr,_⟩:=h.path.again;rw[e]at hc;rcases List.mem_cons.1 hc with rfl|hc
 ·decide
 ·exact⟨enc_big (by decide) (hr c hc).1,enc_ne (by decide) (hr c hc).1,enc_ne (by decide) (hr c hc).1⟩
theorem queryT_sign {u:UrlL} (h:GoodU u):∀c∈queryT u,32<c.toNat∧c≠35:=fun c hc=>by
 unfold queryT at hc;split at hc
 ·rcases List.mem_cons.1 hc with rfl|hc
  ·decide
  ·exact⟨enc_big (by decide) (h.query c hc),enc_ne (by decide) (h.query c hc)⟩
 ·cases hc
theorem markT_sign {u:UrlL} (h:GoodU u):∀c∈markT u,32<c.toNat:=fun c hc=>by
 unfold markT at hc;split at hc
 ·rcases List.mem_cons.1 hc with rfl|hc
  ·decide
  ·exact enc_big (by decide) (h.mark c hc)
 ·cases hc
theorem text_sign {u:UrlL} (h:GoodU u):∀c∈textU u,32<c.toNat:=fun c hc=>by
 rw[text_shape]at hc;have hs:∀c∈u.scheme,32<c.toNat:=by
  rcases h.sch with e|e<;>rw[e]<;>decide
 rcases List.mem_append.1 hc with hc|hc
 ·exact hs c hc
 ·rcases List.mem_cons.1 hc with rfl|hc
  ·decide
  ·rcases List.mem_cons.1 hc with rfl|hc
   ·decide
   ·rcases List.mem_cons.1 hc with rfl|hc
    ·decide
    ·rcases List.mem_append.1 hc with hc|hc
     ·exact(authT_sign h c hc).1
     ·rcases List.mem_append.1 hc with hc|hc
      ·exact(path_sign h c hc).1
      ·rcases List.mem_append.1 hc with hc|hc
       ·exact(queryT_sign h c hc).1
       ·exact markT_sign h c hc
theorem scheme_text {c r:List UInt8} (h:c=httpB∨c=httpsB):schemeU (c++58::r)=some (c,r):=by
 have key:(58:UInt8)∉c∧(c.all schB&&beginsB c)=true∧lowerL c=c:=by
  rcases h with e|e<;>rw[e]<;>decide
 unfold schemeU;rw[cutF_app key.1];simp only;rw[if_pos key.2.1,key.2.2]
theorem ownP_ne {c:List UInt8} (h:c=httpB∨c=httpsB):ownP c≠0:=by rcases h with e|e<;>rw[e]<;>decide
theorem end_text {u u0:UrlL} {A:List UInt8} (h:GoodU u) (hA:∀c∈A,c≠35∧c≠63):endU u0 (A++(queryT u++markT u))=({u0 with mark:=u.mark,hasM:=u.hasM,query:=u.query,hasQ:=u.hasQ},A):=by
 have hq:(35:UInt8)∉A++queryT u:=fun hc=>by
  rcases List.mem_append.1 hc with hc|hc
  ·exact(hA _ hc).1 rfl
  ·exact(queryT_sign h _ hc).2 rfl
 have hA63:(63:UInt8)∉A:=fun hc=>(hA _ hc).2 rfl
 have m:cutF 35 (A++(queryT u++markT u))=(A++queryT u,if u.hasM=true then some u.mark else none):=by
  rw[←List.append_assoc];unfold markT;split
  ·rw[cutF_app hq]
  ·rw[List.append_nil,cutF_none hq]
 have q:cutF 63 (A++queryT u)=(A,if u.hasQ=true then some u.query else none):=by
  unfold queryT;split
  ·rw[cutF_app hA63]
  ·rw[List.append_nil,cutF_none hA63]
 have e2:encP 2 u.mark=u.mark:=encP_id h.mark;have e3:encP 3 u.query=u.query:=encP_id h.query;have nM:=h.noM;have nQ:=h.noQ;unfold endU;simp only;rw[m,q]
 cases hm:u.hasM<;>cases hqq:u.hasQ
 ·rw[hm]at nM;rw[hqq]at nQ;simp[nM rfl,nQ rfl]
 ·rw[hm]at nM;simp[nM rfl,e3]
 ·rw[hqq]at nQ;simp[nQ rfl,e2]
 ·simp[e2,e3]
theorem user_text {u:UrlL} (h:GoodU u):userU (authT u)=((u.user,u.pass),u.host++portT u):=by
 have h64:(64:UInt8)∉u.host++portT u:=fun hc=>by
  rcases List.mem_append.1 hc with hc|hc
  ·exact(h.host.sign _ hc).2.2.2.2.1 rfl
  ·rcases portT_sign h _ hc with e|e
   ·cases e
   ·revert e;decide
 have hu58:(58:UInt8)∉u.user:=fun hc=>enc_ne (d:=58) (by decide) (h.user _ hc) rfl
 have e1:encP 5 u.user=u.user:=encP_id h.user;have e2:encP 5 u.pass=u.pass:=encP_id h.pass;unfold authT;by_cases hp:u.pass=[]
 ·by_cases hu:u.user=[]
  ·rw[if_pos hp,if_pos ⟨hu,hp⟩,hu,hp]
   unfold userU;rw[List.nil_append,List.nil_append,List.nil_append,cutB_none h64]
  ·rw[if_pos hp,if_neg (fun e=>hu e.1),List.append_nil,List.append_assoc]
   unfold userU;rw[List.cons_append,List.nil_append,cutB_app h64];simp only;rw[cutF_none hu58,e1,hp];rfl
 ·rw[if_neg hp,if_neg (fun e=>hp e.2),List.append_assoc]
  unfold userU;rw[List.cons_append,List.nil_append,cutB_app h64];simp only;rw[cutF_app hu58,e1];simp only[Option.getD_some];rw[e2]
theorem port_text {u:UrlL} (h:GoodU u):∃d,colonF false (u.host++portT u)=(u.host,d)∧portU u.scheme d=some u.port:=by
 have hc:=h.host.colon (portT u);unfold portT at hc⊢;rcases h.port with e|⟨n,e,hn,ho⟩
 ·rw[if_neg (by omega)]at hc⊢
  refine⟨[],by rw[hc];simp[colonF], ?_⟩;unfold portU;rw[if_pos (by decide),if_pos (.inl rfl),e]
 ·rw[if_pos (by omega)]at hc⊢
  obtain⟨b1,b2,b3⟩:=decP_back hn;have en:u.port.toNat=n:=by omega
  rw[en]at hc⊢;refine⟨decP n,by rw[hc,colonF,if_pos ⟨rfl,rfl⟩];simp, ?_⟩;unfold portU;rw[b1,b2,if_pos (by simp[hn]),if_neg (by rintro(q|q);exact b3 q;exact ho q),e]
theorem auth_head {u:UrlL} (h:GoodU u) (r:List UInt8):(authT u++r).dropWhile slashB=authT u++r:=by
 have hne:authT u≠[]:=fun e=>by
  unfold authT at e;have:=List.append_eq_nil_iff.1 (List.append_eq_nil_iff.1 e).2;exact h.host.ne this.1
 have hs:=authT_sign h
 cases ha:authT u with
 |nil=>exact absurd ha hne
 |cons x a=>
  have:=hs x (by rw[ha];exact List.mem_cons_self);rw[List.cons_append,List.dropWhile_cons,if_neg];unfold slashB;simp[this.2.2.1,this.2.2.2.2]
theorem text_back {u:UrlL} (h:GoodU u) (base:UrlL) (has:Bool):readU (textU u) base has= .ok u:=by
 have hlen:=h.len;have hd:=dropL_id (text_sign h);have hA:∀c∈47::47::(authT u++u.path),c≠35∧c≠63:=fun c hc=>by
  rcases List.mem_cons.1 hc with rfl|hc
  ·decide
  ·rcases List.mem_cons.1 hc with rfl|hc
   ·decide
   ·rcases List.mem_append.1 hc with hc|hc
    ·exact⟨(authT_sign h c hc).2.1,(authT_sign h c hc).2.2.2.1⟩
    ·exact⟨(path_sign h c hc).2.1,(path_sign h c hc).2.2⟩
 have he:=fun u0=>end_text (u0:=u0) h hA
 obtain⟨r,hr,hpl,hrs,_⟩:=h.path.again;have hsl:∀c∈authT u,(!slashB c)=true:=fun c hc=>by
  have:=authT_sign h c hc;unfold slashB;simp[this.2.2.1,this.2.2.2.2]
 obtain⟨td1,td2⟩:=take_drop_app (p:=fun c=> !slashB c) (r:=r) (x:=47) hsl rfl;obtain⟨d,hp1,hp2⟩:=port_text h;have hpl:placeU {zeroU with scheme:=u.scheme,mark:=u.mark,hasM:=u.hasM,query:=u.query,hasQ:=u.hasQ} (authT u++u.path)= .ok u:=by
  unfold placeU;simp only;rw[hr,td1,td2,user_text h];simp only;rw[hp1];simp only;rw[h.host.again];simp only;rw[hp2];simp only[List.tail_cons];rw[hpl]
 have hsh:textU u=u.scheme++58::((47::47::(authT u++u.path))++(queryT u++markT u)):=by
  rw[text_shape];simp
 have hsc:schU base has (textU u)= .ok ({zeroU with scheme:=u.scheme},true,(47::47::(authT u++u.path))++(queryT u++markT u)):=by
  unfold schU;rw[hsh,scheme_text h.sch];simp only;rw[if_neg (ownP_ne h.sch)];simp
 unfold readU;rw[if_neg (by omega),hd,hsc];simp only;rw[he];simp only[if_true];have e47:(47::47::(authT u++u.path)).dropWhile slashB=authT u++u.path:=by
  rw[List.dropWhile_cons,if_pos (by rfl),List.dropWhile_cons,if_pos (by rfl),auth_head h]
 rw[e47,hpl];simp only;rw[if_neg (by omega)]
theorem check_iff {u:UrlL}:checkU u=true↔GoodU u:=by
 refine⟨check_good,fun h=> ?_⟩;unfold checkU;rw[text_back h];exact eqU_iff.2 rfl
theorem sum_parts (c:UInt8) (s:List UInt8):sumL (partsL c s)+(partsL c s).length=s.length+1:=by
 have h:=joinL_len c (partsL c s) (partsL_ne c s);rw[join_parts]at h;have hn:0<(partsL c s).length:=List.length_pos_iff.2 (partsL_ne c s);omega
theorem backL_snoc (c:UInt8) (l:List (List UInt8)) (p:List UInt8):(backL c (l++[p])).length=(backL c l).length+(p.length+1):=by
 unfold backL;rw[List.flatMap_append,List.length_append];simp
theorem backL_drop (c:UInt8) (l:List (List UInt8)):(backL c l.dropLast).length≤(backL c l).length:=by
 rw[List.dropLast_eq_take];exact backL_le c l _
theorem pathF_len:∀(r l:List (List UInt8)),(backL 47 (pathF l r)).length≤(backL 47 l).length+(3*sumL r+r.length)
 |[],l=>by simp[pathF]
 |x::r,l=>by
  have hx:=(encP_len 4 x).2;have hd:=backL_drop 47 l;rw[pathF,sumL,List.length_cons];split
  ·split
   ·have:=pathF_len r (l++[[]])
    rw[backL_snoc]at this;simp only[List.length_nil]at this;omega
   ·have:=pathF_len r l;omega
  ·split
   ·split
    ·have:=pathF_len r (l.dropLast++[[]])
     rw[backL_snoc]at this;simp only[List.length_nil]at this;omega
    ·have:=pathF_len r l.dropLast;omega
   ·have:=pathF_len r (l++[encP 4 x])
    rw[backL_snoc]at this;omega
theorem pathL_len (l:List (List UInt8)) (s:List UInt8):(pathL l s).length≤(backL 47 l).length+(3*s.length+1):=by
 have h:=pathF_len (slashP s) l;have h2:=sum_parts 47 (flatS s);have h3:(flatS s).length=s.length:=List.length_map ..;have hn:0<(slashP s).length:=List.length_pos_iff.2 (slashP_ne s);unfold pathL;change sumL (slashP s)+(slashP s).length=_ at h2;omega
theorem cutF_sum (c:UInt8):∀(s:List UInt8),(cutF c s).1.length+((cutF c s).2.getD []).length≤s.length
 |[]=>Nat.le_refl _
 |x::s=>by
  have:=cutF_sum c s;rw[cutF];split
  ·simp
  ·simp only[List.length_cons];omega
theorem userU_sum (s:List UInt8):(userU s).1.1.length+(userU s).1.2.length≤3*s.length:=by
 unfold userU
 cases h:cutB 64 s with
 |none=>simp
 |some r=>
  obtain⟨a,b⟩:=r;have h1:=congrArg List.length (cutB_some h).1;have h2:=cutF_sum 58 a;have h3:=(encP_len 5 (cutF 58 a).1).2;have h4:=(encP_len 5 ((cutF 58 a).2.getD [])).2;simp only[List.length_append,List.length_cons]at h1;simp only;omega
theorem place_len {u v:UrlL} {s:List UInt8} (h:placeU u s= .ok v):v.user.length+v.pass.length+v.path.length≤3*s.length+1∧v.scheme=u.scheme∧v.query=u.query∧v.mark=u.mark∧v.hasQ=u.hasQ∧v.hasM=u.hasM:=by
 unfold placeU at h;simp only at h;have hg:=userU_sum (s.takeWhile fun c=> !slashB c);have hp:=pathL_len [] (s.dropWhile fun c=> !slashB c).tail;have hs:=congrArg List.length (List.takeWhile_append_dropWhile (p:=fun c=> !slashB c) (l:=s));rw[List.length_append]at hs;rw[List.length_tail]at hp;simp only[backL,List.flatMap_nil,List.length_nil]at hp;split at h
 ·cases h
 ·split at h
  ·cases h
  ·injection h with h
   subst h;refine⟨?_,rfl,rfl,rfl,rfl,rfl⟩;simp only;omega
theorem endU_len (u:UrlL) (s:List UInt8):(endU u s).1.query.length+(endU u s).1.mark.length+3*(endU u s).2.length≤3*s.length:=by
 have h1:=cutF_sum 35 s;have h2:=cutF_sum 63 (cutF 35 s).1;unfold endU;simp only;have e:∀(n:Nat) (o:Option (List UInt8)),((o.map (encP n)).getD []).length≤3*(o.getD []).length:=fun n o=>by
  cases o with
  |none=>simp
  |some x=>exact(encP_len n x).2
 have e1:=e 2 (cutF 35 s).2;have e2:=e 3 (cutF 63 (cutF 35 s).1).2;omega
theorem text_sum (u:UrlL):(textU u).length≤u.scheme.length+u.user.length+u.pass.length+u.host.length+u.path.length+u.query.length+u.mark.length+30:=by
 have hd:=(digF_len 10 20 u.port.toNat).2;unfold textU targetU decP;split<;>split<;>split<;>split<;>split<;>simp only[List.length_append,List.length_cons,List.length_nil]<;>omega
theorem part_text (u:UrlL):u.scheme.length+u.host.length≤(textU u).length:=by
 unfold textU;simp only[List.length_append];omega
theorem text6_shortU (b:List UInt8) (hb:b.length=16):(text6 (pairsN b)).length≤100:=by
 have hl:=pairs_len (b:=b) (n:=8) (by omega);have hlt:=fun n hn=>pairs_low (b:=b) n hn
 have hle:∀l:List Nat,(∀n∈l,n<65536)→(∀q∈l.map hex4,q.length≤4):=fun l hn q hq=>by obtain⟨c,hc,rfl⟩:=List.mem_map.1 hq;exact(hex4_ok (hn c hc)).2.1
 unfold text6;simp only;split
 ·have:=joinL_le 58 (hle (pairsN b) hlt);simp at this;omega
 ·have h1:=joinL_le 58 (hle ((pairsN b).take (longR ((pairsN b).map (·==0))).1) (fun n hn=>hlt n (List.mem_of_mem_take hn)))
  have h2:=joinL_le 58 (hle ((pairsN b).drop ((longR ((pairsN b).map (·==0))).1+(longR ((pairsN b).map (·==0))).2)) (fun n hn=>hlt n (List.mem_of_mem_drop hn)));simp at h1 h2⊢;omega
theorem host_lenU {x:List UInt8} (hs:x.length≤4100) (h:hostL x=some x):x.length≤253:=by
 by_cases h0:x.head?=some 91
 ·unfold hostL at h
  rw[if_pos h0]at h;unfold inL at h;split at h
  ·cases hb:sixL x.tail.dropLast with
   |none=>rw[hb]at h;cases h
   |some b=>
    rw[hb]at h;injection h with h;have:=text6_shortU b (sixL_len hb);rw[←h];simp;omega
  ·cases h
 ·rcases host_ok hs h with ⟨h1,_⟩|⟨l,hl⟩
  ·exact absurd h1 h0
  ·have:=hl.clean
   unfold cleanL at this;simp only[Bool.and_eq_true,decide_eq_true_eq]at this;exact this.2
theorem GoodU.hlen {u:UrlL} (h:GoodU u):u.host.length≤253∧u.scheme.length≤5:=by
 have h1:=h.len;have h2:=part_text u;refine⟨host_lenU (by omega) h.host.again, ?_⟩;rcases h.sch with e|e<;>rw[e]<;>decide
theorem GoodU.of {u v:UrlL} (h:GoodU u) (h1:v.scheme=u.scheme) (h2:v.user=u.user) (h3:v.pass=u.pass) (h4:v.host=u.host) (h5:v.port=u.port) (h6:PathU v.path)
 (h7:∀c∈v.query,encB 3 c=false) (h8:v.hasQ=false→v.query=[]) (h9:∀c∈v.mark,encB 2 c=false) (h10:v.hasM=false→v.mark=[]) (hl:(textU v).length≤4096):GoodU v:=
 ⟨by rw[h1];exact h.sch,by rw[h2];exact h.user,by rw[h3];exact h.pass,by rw[h4];exact h.host,by rw[h5,h1];exact h.port,h6,h7,h8,h9,h10,hl⟩
/-! ### Parts of points -/
theorem idle_pass {s:List UInt8} {k:Nat} (hk:k<s.length) (hc:idleB s[k]=true) (h:s.dropWhile idleB=(s.drop k).dropWhile idleB):s.dropWhile idleB=(s.drop (k+1)).dropWhile idleB:=by
 rw[h,List.drop_eq_getElem_cons hk,List.dropWhile_cons,if_pos hc]
theorem idle_stop {s:List UInt8} {k:Nat} (hk:k<s.length) (hc:idleB s[k]=false) (h:s.dropWhile idleB=(s.drop k).dropWhile idleB):s.dropWhile idleB=s.drop k:=by
 rw[h,List.drop_eq_getElem_cons hk,List.dropWhile_cons,if_neg (by rw[hc];simp)]
theorem idle_over {s:List UInt8} {k:Nat} (hk:s.length≤k) (h:s.dropWhile idleB=(s.drop k).dropWhile idleB):s.dropWhile idleB=s.drop k:=by
 rw[h,List.drop_eq_nil_of_le hk];rfl
theorem trimR_snoc (x:List UInt8) (c:UInt8):trimR (x++[c])=if idleB c=true then trimR x else x++[c]:=by
 unfold trimR;rw[List.reverse_append,List.reverse_singleton,List.singleton_append,List.dropWhile_cons];split<;>simp
theorem take_last {m:List UInt8} {j:Nat} (hj:j<m.length):m.take (j+1)=m.take j++[m[j]]:=List.take_succ_eq_append_getElem hj
theorem trim_pass {m:List UInt8} {j:Nat} (hj:j<m.length) (hc:idleB m[j]=true) (h:trimR m=trimR (m.take (j+1))):trimR m=trimR (m.take j):=by
 rw[h,take_last hj,trimR_snoc,if_pos hc]
theorem trim_stop {m:List UInt8} {j:Nat} (hj:j<m.length) (hc:idleB m[j]=false) (h:trimR m=trimR (m.take (j+1))):trimR m=m.take (j+1):=by
 rw[h,take_last hj,trimR_snoc,if_neg (by rw[hc];simp)]
theorem dropL_trim (s:List UInt8):dropL s=(trimR (s.dropWhile idleB)).filter fun c=> !tabB c:=rfl
/-! ### Numbers of errors -/
theorem place_err {u:UrlL} {t:List UInt8} {n:Nat} (h:placeU u t= .error n):1≤n∧n≤6:=by
 unfold placeU at h;simp only at h;split at h
 ·injection h;omega
 ·split at h
  ·injection h;omega
  ·cases h
theorem seen_err {u base:UrlL} {t:List UInt8} {n:Nat} (h:seenU u base t= .error n):1≤n∧n≤6:=by
 unfold seenU at h;simp only at h;split at h
 ·exact place_err h
 ·split at h
  ·cases h
  ·split at h<;>cases h
theorem sch_err {base:UrlL} {has:Bool} {s:List UInt8} {n:Nat} (h:schU base has s= .error n):1≤n∧n≤6:=by
 unfold schU at h;split at h
 ·split at h
  ·injection h;omega
  ·cases h
 ·split at h
  ·cases h
  ·injection h;omega
theorem read_err {s:List UInt8} {base:UrlL} {has:Bool} {n:Nat} (h:readU s base has= .error n):1≤n∧n≤6:=by
 unfold readU at h;split at h
 ·injection h;omega
 ·split at h
  ·rename_i e he
   injection h with h;subst h;exact sch_err he
  ·simp only at h
   split at h
   ·rename_i e he
    injection h with h;subst h;split at he
    ·exact place_err he
    ·exact seen_err he
   ·split at h
    ·injection h;omega
    ·cases h
theorem err_test {n:Nat} (h:1≤n):((n:Int)==0)=false:=beq_eq_false_iff_ne.2 (by omega)
/-! ### How long what is told is -/
theorem host_leU {s x:List UInt8} (hs:s.length≤4100) (h:hostL s=some x):x.length≤253:=by
 rcases host_ok hs h with ⟨h0,h2⟩|⟨l,hl⟩
 ·unfold hostL at h2
  rw[if_pos h0]at h2;unfold inL at h2;split at h2
  ·cases hb:sixL x.tail.dropLast with
   |none=>rw[hb]at h2;cases h2
   |some b=>
    rw[hb]at h2;injection h2 with h2;have:=text6_shortU b (sixL_len hb);rw[←h2];simp;omega
  ·cases h2
 ·have:=hl.clean
  unfold cleanL at this;simp only[Bool.and_eq_true,decide_eq_true_eq]at this;exact this.2
theorem portU_le {sch s:List UInt8} {p:Int} (h:PortU p sch): -1≤p∧p≤65535:=by
 rcases h with h|⟨n,h,hn,_⟩<;>omega
theorem place_size {u v:UrlL} {s:List UInt8} (hs:s.length≤4100) (h:placeU u s= .ok v):
 v.user.length+v.pass.length+v.path.length≤13000∧v.host.length≤253∧v.port≤65535∧v.scheme=u.scheme∧v.query=u.query∧v.mark=u.mark:=by
 obtain⟨h1,h2,h3,h4,_,_⟩:=place_len h
 have hh:v.host.length≤253:=by
  unfold placeU at h;simp only at h;have hl1:=userU_len (s.takeWhile fun c=> !slashB c);have hl0:(s.takeWhile fun c=> !slashB c).length≤s.length:=(List.takeWhile_sublist _).length_le;have hl2:=colonF_len false (userU (s.takeWhile fun c=> !slashB c)).2
  cases hh:hostL (colonF false (userU (s.takeWhile fun c=> !slashB c)).2).1 with
  |none=>rw[hh]at h;cases h
  |some x=>
   rw[hh]at h;simp only at h;split at h
   ·cases h
   ·injection h with h
    subst h;exact host_leU (by omega) hh
 have hp:v.port≤65535:=by
  obtain⟨us,ps,ho,po,pa,rfl,_,_,_,h4,_⟩:=place_good hs h;exact(portU_le h4 (s:=[])).2
 exact⟨by omega,hh,hp,h2,h3,h4⟩
theorem text_parts {u:UrlL} (hq:u.hasQ=false→u.query=[]) (hm:u.hasM=false→u.mark=[]):u.scheme.length+u.user.length+u.pass.length+u.host.length+u.path.length+u.query.length+u.mark.length≤(textU u).length:=by
 unfold textU targetU;have h1:u.pass.length≤(if u.pass=[]then []else 58::u.pass).length:=by
  split
  ·rename_i e;rw[e];exact Nat.le_refl _
  ·simp
 have h2:u.path.length+u.query.length≤(if u.hasQ=true then u.path++63::u.query else u.path).length:=by
  cases h:u.hasQ with
  |true=>simp
  |false=>rw[hq h];simp
 have h3:u.mark.length≤(if u.hasM=true then 35::u.mark else []).length:=by
  cases h:u.hasM with
  |true=>simp
  |false=>rw[hm h];simp
 simp only[List.length_append];omega
theorem GoodU.sizes {u:UrlL} (h:GoodU u):u.scheme.length+u.user.length+u.pass.length+u.host.length+u.path.length+u.query.length+u.mark.length≤4096:=Nat.le_trans (text_parts h.noQ h.noM) h.len
theorem GoodU.slash {u:UrlL} (h:GoodU u):47∈u.path:=by
 obtain⟨l,h1,h2,_⟩:=h.path;rw[h2]
 cases l with
 |nil=>exact absurd rfl h1
 |cons p l=>simp[backL]
theorem seen_size {u v base:UrlL} {s:List UInt8} (hs:s.length≤4100) (hb:GoodU base) (h:seenU u base s= .ok v):
 v.user.length+v.pass.length+v.path.length≤30000∧v.host.length≤4096∧v.port≤65535∧v.scheme=u.scheme∧(v.query=u.query∨v.query=base.query)∧v.mark=u.mark:=by
 have hz:=hb.sizes
 have hp:=(portU_le hb.port (s:=[])).2
 unfold seenU at h
 split at h
 ·obtain⟨h1,h2,h3,h4,h5,h6⟩:=place_size (by have:=(List.dropWhile_sublist slashB (l:=s)).length_le;omega) h
  exact⟨by omega,by omega,h3,h4, .inl h5,h6⟩
 ·simp only at h
  cases s with
  |nil=>
   simp only at h;injection h with h;subst h;split
   ·exact⟨by simp only;omega,by simp only;omega,hp,rfl, .inl rfl,rfl⟩
   ·exact⟨by simp only;omega,by simp only;omega,hp,rfl, .inr rfl,rfl⟩
  |cons x r=>
   simp only at h;simp only[List.length_cons]at hs;split at h
   ·injection h with h
    subst h;have:=pathL_len [] r;simp only[backL,List.flatMap_nil,List.length_nil]at this;exact⟨by simp only;omega,by simp only;omega,hp,rfl, .inl rfl,rfl⟩
   ·injection h with h
    subst h;have h1:=pathL_len (partsL 47 base.path).tail.dropLast (x::r);have h2:(backL 47 (partsL 47 base.path).tail.dropLast).length≤base.path.length+1:=by
     have hj:=join_parts 47 base.path
     cases hP:partsL 47 base.path with
     |nil=>exact absurd hP (partsL_ne 47 base.path)
     |cons p l=>
      rw[hP,joinL_back]at hj;have:=backL_drop 47 l;have hl:=congrArg List.length hj;rw[List.length_append]at hl;simp only[List.tail_cons];omega
    simp only[List.length_cons]at h1;exact⟨by simp only;omega,by simp only;omega,hp,rfl, .inl rfl,rfl⟩
theorem mid_size {s base u0 r v} {pl has:Bool} (hs:s.length≤4096) (hb:has=true→GoodU base) (h1:schU base has (dropL s)= .ok (u0,pl,r))
 (h2:(if pl=true then placeU (endU u0 r).1 ((endU u0 r).2.dropWhile slashB)else seenU (endU u0 r).1 base (endU u0 r).2)= .ok v):
 v.scheme.length+v.user.length+v.pass.length+v.host.length+v.path.length+v.query.length+v.mark.length≤100000∧v.port≤65535:=by
 have hd:=dropL_len s
 obtain⟨g1,g2,g3,g4,g5⟩:=schU_good hb h1
 obtain⟨e1,_,_,e4⟩:=endU_good u0 r
 have hl:=endU_len u0 r
 have hsch:u0.scheme.length≤5:=by rcases g1 with e|e<;>rw[e]<;>decide
 generalize endU u0 r=t at*
 obtain⟨t,q⟩:=t
 simp only at e1 e4 hl h2
 cases pl with
 |true=>
  rw[if_pos rfl]at h2;have hq:=(List.dropWhile_sublist slashB (l:=q)).length_le;obtain⟨k1,k2,k3,k4,k5,k6⟩:=place_size (by omega) h2;rw[k4,k5,k6,e1];exact⟨by omega,k3⟩
 |false=>
  rw[if_neg (by simp)]at h2;obtain⟨p1,p2⟩:=g2 rfl;obtain⟨k1,k2,k3,k4,k5,k6⟩:=seen_size (by omega) (hb p1) h2;have hz:=(hb p1).sizes;rw[k4,k6,e1];exact⟨by rcases k5 with e|e<;>rw[e]<;>omega,k3⟩
theorem readU_sch {s:List UInt8} {base:UrlL} {has:Bool} {k:Nat} (hs:s.length≤4096) (h1:schU base has (dropL s)= .error k):readU s base has= .error k:=by
 unfold readU;rw[if_neg (by omega),h1]
theorem readU_mid {s:List UInt8} {base u0:UrlL} {has pl:Bool} {r:List UInt8} (hs:s.length≤4096) (h1:schU base has (dropL s)= .ok (u0,pl,r)):
 readU s base has=match (if pl=true then placeU (endU u0 r).1 ((endU u0 r).2.dropWhile slashB)else seenU (endU u0 r).1 base (endU u0 r).2)with
  | .error e=> .error e
  | .ok v=>if 4096<(textU v).length then .error 3 else .ok v:=by
 unfold readU
 rw[if_neg (by omega),h1]
 rfl
theorem schU_start {base u0:UrlL} {has pl:Bool} {s r:List UInt8} (h:schU base has s= .ok (u0,pl,r)):u0.user=[]∧u0.pass=[]∧u0.query=[]∧u0.hasQ=false∧u0.mark=[]∧u0.hasM=false∧r.length≤s.length∧(pl=false→has=true):=by
 unfold schU at h
 cases hs:schemeU s with
 |none=>
  rw[hs]at h;simp only at h;split at h
  ·rename_i hh
   simp only[Except.ok.injEq,Prod.mk.injEq]at h;obtain⟨rfl,rfl,rfl⟩:=h;exact⟨rfl,rfl,rfl,rfl,rfl,rfl,Nat.le_refl _,fun _=>hh⟩
  ·cases h
 |some x=>
  obtain⟨c,t⟩:=x;rw[hs]at h;simp only at h;split at h
  ·cases h
  ·simp only[Except.ok.injEq,Prod.mk.injEq]at h
   obtain⟨rfl,rfl,rfl⟩:=h;refine⟨rfl,rfl,rfl,rfl,rfl,rfl,schemeU_len hs,fun hp=> ?_⟩;simp only[Bool.or_eq_false_iff,Bool.not_eq_false']at hp;exact hp.1
end Go.Proofs.YtjkipdoebkhkaaaGreatDoor
