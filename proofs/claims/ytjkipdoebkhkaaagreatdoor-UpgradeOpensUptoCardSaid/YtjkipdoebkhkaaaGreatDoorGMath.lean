/- Small lemmas for all walks of this seat: strings as lists of bytes, and how an ending is rewritten. -/
import Derived.Test.YtjkipdoebkhkaaaGreatDoorRows
import Derived.WalkSpells
import Derived.WalkLawsBesides
import Derived.Lib.LastIndexByte
import Derived.Lib.Hide
import Derived.Lib.AtoiAllMem
import Derived.Lib.SplitLaws
import Derived.Laws.AppendOwnNone
import Derived.Deep.Light
set_option linter.unusedVariables false
set_option linter.unusedSimpArgs false
set_option maxHeartbeats 16000000
namespace Go.Proofs.YtjkipdoebkhkaaaGreatDoor
open Go.RowKit
theorem ret_bool {a b:Bool} (h:a=b):Ending.returned (.bool a)= .returned (.bool b):=by rw[h]
theorem ret_int {k:IntKind} {a b:Int} (h:a=b):Ending.returned (.int k a)= .returned (.int k b):=by rw[h]
theorem idx_mk (l:List UInt8) (k:Nat) (h:k<(ByteArray.mk l.toArray).size):(ByteArray.mk l.toArray)[k]=l[k]'h:=rfl
theorem size_mk (l:List UInt8):(ByteArray.mk l.toArray).size=l.length:=rfl
attribute [go_sem] idx_mk ByteArray.extract_mk
theorem u8_lt (x:UInt8):x.toNat<256:=x.toNat_lt
def lastAt (l:List UInt8) (c:Nat):Nat→Int
 |0=> -1
 |k+1=>if (l.getD k 0).toNat=c then (k:Int)else lastAt l c k
theorem lastIdx_mk (l:List UInt8) (c:Nat):∀k,k≤l.length→Lib.lastIdx ⟨l.toArray⟩ (c:Int) k=lastAt l c k
 |0,_=>rfl
 |k+1,h=>by
  have e:((ByteArray.mk l.toArray).data[k]!)=l.getD k 0:=by
   show l.toArray[k]! =_;simp[List.getD_eq_getElem?_getD,List.getElem!_eq_getElem?_getD];rfl
  simp only[Lib.lastIdx,lastAt,e,lastIdx_mk l c k (by omega),Int.natCast_inj]
theorem lastIndexByte_mk (l:List UInt8) (c:Nat):Lib.lastIndexByte ⟨l.toArray⟩ (c:Int)=lastAt l c l.length:=lastIdx_mk l c _ (Nat.le_refl _)
theorem lastAt_lt (l:List UInt8) (c:Nat):∀k, -1≤lastAt l c k∧lastAt l c k<k
 |0=>by simp[lastAt]
 |k+1=>by
  have:=lastAt_lt l c k;unfold lastAt;split<;>omega
theorem ba_append (a b:List UInt8):(ByteArray.mk a.toArray)++(ByteArray.mk b.toArray)=ByteArray.mk (a++b).toArray:=by
 apply ByteArray.ext;simp
def hexI (c:Nat):Int:=if 48≤c∧c≤57 then (c:Int)-48 else if 97≤c∧c≤102 then (c:Int)-87 else if 65≤c∧c≤70 then (c:Int)-55 else -1
def parseB (base max:Nat):Nat→List UInt8→Lib.NumEnd Nat
 |acc,[]=> .ok acc
 |acc,c::r=>if hexI c.toNat<0∨(base:Int)≤hexI c.toNat then .syntax else if max<acc*base+(hexI c.toNat).toNat then .range else parseB base max (acc*base+(hexI c.toNat).toNat) r
theorem parseB_syn {base max acc:Nat} {c:UInt8} {r:List UInt8} (h:hexI c.toNat<0∨(base:Int)≤hexI c.toNat):parseB base max acc (c::r)= .syntax:=by rw[parseB,if_pos h]
theorem parseB_rng {base max acc:Nat} {c:UInt8} {r:List UInt8} (h:0≤hexI c.toNat) (h1:hexI c.toNat<(base:Int)) (h2:max<acc*base+(hexI c.toNat).toNat):parseB base max acc (c::r)= .range:=by rw[parseB,if_neg (by omega),if_pos h2]
theorem parseB_go {base max acc:Nat} {c:UInt8} {r:List UInt8} (h:0≤hexI c.toNat) (h1:hexI c.toNat<(base:Int)) (h2:acc*base+(hexI c.toNat).toNat≤max):parseB base max acc (c::r)=parseB base max (acc*base+(hexI c.toNat).toNat) r:=by
 conv=>lhs;rw[parseB]
 rw[if_neg (by omega),if_neg (by omega)]
theorem parseB_le (base max:Nat):∀(s:List UInt8) (acc v:Nat),acc≤max→parseB base max acc s= .ok v→v≤max
 |[],acc,v,h,e=>by simp only[parseB,Lib.NumEnd.ok.injEq]at e;omega
 |c::r,acc,v,h,e=>by
  unfold parseB at e;split at e
  ·cases e
  ·split at e
   ·cases e
   ·exact parseB_le base max r _ v (by omega) e
def hx2:List UInt8→Option Nat
 |a::b::_=>if 0≤hexI a.toNat∧0≤hexI b.toNat then some (16*(hexI a.toNat).toNat+(hexI b.toNat).toNat)else none
 |_=>none
theorem hx2_cc (a b:UInt8) (s:List UInt8):hx2 (a::b::s)=if 0≤hexI a.toNat∧0≤hexI b.toNat then some (16*(hexI a.toNat).toNat+(hexI b.toNat).toNat)else none:=rfl
def pctL:List UInt8→List UInt8
 |[]=>[]
 |c::s=>if c=37 then (match hx2 s with|some v=>UInt8.ofNat v::pctL (s.drop 2)|none=>c::pctL s)else c::pctL s
termination_by s=>s.length
decreasing_by all_goals(simp;try omega)
theorem pctL_nil:pctL []=[]:=by rw[pctL]
theorem pctL_hit {s:List UInt8} {v:Nat} (h:hx2 s=some v):pctL (37::s)=UInt8.ofNat v::pctL (s.drop 2):=by rw[pctL,if_pos rfl,h]
theorem pctL_none {s:List UInt8} (h:hx2 s=none):pctL (37::s)=37::pctL s:=by rw[pctL,if_pos rfl,h]
theorem pctL_miss {c:UInt8} {s:List UInt8} (h:c≠37):pctL (c::s)=c::pctL s:=by rw[pctL,if_neg h]
theorem pctL_app {a s:List UInt8} (h:∀c∈a,c≠37):pctL (a++s)=a++pctL s:=by
 induction a with
 |nil=>rfl
 |cons c a ih=>
  rw[List.cons_append,pctL_miss (h c List.mem_cons_self),ih (fun d hd=>h d (List.mem_cons_of_mem _ hd))];rfl
theorem hexI_lt (c:Nat):hexI c<16:=by
 unfold hexI;split
 ·omega
 ·split
  ·omega
  ·split<;>omega
theorem hx2_lt {s:List UInt8} {v:Nat} (h:hx2 s=some v):v<256:=by
 match s with
 |[]=>cases h
 |[a]=>cases h
 |a::b::r=>
  rw[hx2_cc]at h;have h1:=hexI_lt a.toNat;have h2:=hexI_lt b.toNat;by_cases hc:0≤hexI a.toNat∧0≤hexI b.toNat
  ·rw[if_pos hc]at h
   injection h with h;omega
  ·rw[if_neg hc]at h
   cases h
theorem pctL_len:∀(n:Nat) (s:List UInt8),s.length≤n→(pctL s).length≤s.length
 |0,s,h=>by
  obtain rfl:=List.length_eq_zero_iff.1 (Nat.le_zero.1 h);rw[pctL_nil];exact Nat.le_refl _
 |n+1,[],h=>by rw[pctL_nil];exact Nat.le_refl _
 |n+1,c::s,h=>by
  by_cases hc:c=37
  ·subst hc
   cases hh:hx2 s with
   |none=>
    rw[pctL_none hh,List.length_cons,List.length_cons];have:=pctL_len n s (by simp at h;omega);omega
   |some v=>
    rw[pctL_hit hh,List.length_cons,List.length_cons];have:=pctL_len n (s.drop 2) (by simp at h⊢;omega);simp at this;omega
  ·rw[pctL_miss hc,List.length_cons,List.length_cons]
   have:=pctL_len n s (by simp at h;omega);omega
theorem pctL_le (s:List UInt8):(pctL s).length≤s.length:=pctL_len _ s (Nat.le_refl _)
theorem parse_hx2 (a b:UInt8) (s:List UInt8):hx2 (a::b::s)=match parseB 16 255 0 [a,b]with| .ok v=>some v|_=>none:=by
 have h1:=hexI_lt a.toNat;have h2:=hexI_lt b.toNat;rw[hx2_cc];by_cases ha:0≤hexI a.toNat
 ·rw[parseB_go ha (by omega) (by omega)]
  by_cases hb:0≤hexI b.toNat
  ·rw[parseB_go hb (by omega) (by omega),if_pos ⟨ha,hb⟩]
   show _=some _;congr 1;omega
  ·rw[parseB_syn (by omega),if_neg (by omega)]
 ·rw[parseB_syn (by omega),if_neg (by omega)]
theorem hx2_sign {a:UInt8} {s:List UInt8} (h:a.toNat=43∨a.toNat=45):hx2 (a::s)=none:=by
 cases s with
 |nil=>rfl
 |cons b s=>
  rw[hx2_cc,if_neg];rintro⟨h1,_⟩;rcases h with h|h<;>(rw[h]at h1;revert h1;decide)
theorem hx2_short {s:List UInt8} (h:s.length<2):hx2 s=none:=by
 match s,h with
 |[],_=>rfl
 |[a],_=>rfl
 |a::b::r,h=>simp at h;omega
theorem cut_one (s:List UInt8) (c:UInt8):(c∉s∧Lib.cut s [c]=(s,[],false))∨∃a b,s=a++c::b∧c∉a∧Lib.cut s [c]=(a,b,true):=by
 unfold Lib.cut;rw[Lib.index_one];by_cases h:Lib.indexByte s c= -1
 ·refine .inl ⟨fun hm=> ?_, ?_⟩
  ·obtain⟨k,hk,hk2⟩:=List.getElem_of_mem hm
   exact Lib.indexByte_none h k (by rw[List.getElem?_eq_getElem hk,hk2])
  ·rw[h,if_neg (by decide)]
 ·have hge:=Lib.indexByte_ge s c
  obtain⟨o,ho⟩:∃o:Nat,Lib.indexByte s c=o:=⟨(Lib.indexByte s c).toNat,by omega⟩;obtain⟨h1,h2⟩:=Lib.indexByte_some ho;obtain⟨hlt,hc⟩:=List.getElem?_eq_some_iff.1 h1;refine .inr ⟨s.take o,s.drop (o+1), ?_,fun hm=> ?_, ?_⟩
  ·conv=>lhs;rw[←List.take_append_drop o s,List.drop_eq_getElem_cons hlt,hc]
  ·obtain⟨k,hk,hk2⟩:=List.getElem_of_mem hm
   have hk3:k<o:=by simp at hk;omega
   refine h2 k hk3 ?_;rw[List.getElem_take]at hk2;rw[List.getElem?_eq_getElem (by omega),hk2]
  ·rw[ho,if_pos (by omega)]
   rfl
theorem pctL_plain {s:List UInt8} (h:(37:UInt8)∉s):pctL s=s:=by
 have:=pctL_app (a:=s) (s:=[]) (fun c hc e=>h (e▸hc));rwa[List.append_nil,pctL_nil,List.append_nil]at this
theorem pctL_cut {a b:List UInt8} (h:(37:UInt8)∉a):pctL (a++37::b)=a++pctL (37::b):=pctL_app (fun c hc e=>h (e▸hc))
def partsL (c:UInt8):List UInt8→List (List UInt8)
 |[]=>[[]]
 |x::s=>if x=c then []::partsL c s else (x::(partsL c s).headD [])::(partsL c s).tail
theorem partsL_ne (c:UInt8) (s:List UInt8):partsL c s≠[]:=by
 cases s with
 |nil=>simp[partsL]
 |cons x s=>unfold partsL;split<;>simp
theorem partsL_hit {c:UInt8} {s:List UInt8}:partsL c (c::s)=[]::partsL c s:=by rw[partsL,if_pos rfl]
theorem partsL_miss {c x:UInt8} {s:List UInt8} (h:x≠c):partsL c (x::s)=(x::(partsL c s).headD [])::(partsL c s).tail:=by rw[partsL,if_neg h]
theorem partsL_len (c:UInt8):∀s:List UInt8,(partsL c s).length=s.count c+1
 |[]=>rfl
 |x::s=>by
  have ih:=partsL_len c s;by_cases h:x=c
  ·subst h;rw[partsL_hit,List.length_cons,ih,List.count_cons_self]
  ·rw[partsL_miss h,List.length_cons,List.length_tail,ih,List.count_cons_of_ne h];rfl
theorem partsL_le (c:UInt8):∀s:List UInt8,(∀p∈partsL c s,p.length≤s.length)∧(partsL c s).length≤s.length+1
 |[]=>by simp[partsL]
 |x::s=>by
  obtain⟨h1,h2⟩:=partsL_le c s;by_cases h:x=c
  ·subst h
   rw[partsL_hit];refine⟨fun p hp=> ?_,by simp;omega⟩;rcases List.mem_cons.1 hp with rfl|hp
   ·simp
   ·have:=h1 p hp;simp;omega
  ·rw[partsL_miss h]
   refine⟨fun p hp=> ?_,by simp;omega⟩;rcases List.mem_cons.1 hp with rfl|hp
   ·have:((partsL c s).headD []).length≤s.length:=by
     cases hh:partsL c s with
     |nil=>simp
     |cons a l=>rw[hh]at h1;exact h1 a List.mem_cons_self
    rw[List.length_cons,List.length_cons];omega
   ·have:=h1 p (List.mem_of_mem_tail hp);simp;omega
theorem partsL_mem (c:UInt8):∀(s:List UInt8),∀p∈partsL c s,∀x∈p,x∈s∧x≠c
 |[],p,hp,x,hx=>by simp[partsL]at hp;subst hp;simp at hx
 |y::s,p,hp,x,hx=>by
  by_cases h:y=c
  ·subst h
   rw[partsL_hit]at hp;rcases List.mem_cons.1 hp with rfl|hp
   ·simp at hx
   ·have:=partsL_mem y s p hp x hx
    exact⟨List.mem_cons_of_mem _ this.1,this.2⟩
  ·rw[partsL_miss h]at hp
   rcases List.mem_cons.1 hp with rfl|hp
   ·rcases List.mem_cons.1 hx with rfl|hx
    ·exact⟨List.mem_cons_self,h⟩
    ·have:(partsL c s).headD []∈partsL c s:=by
      cases hh:partsL c s with
      |nil=>exact absurd hh (partsL_ne c s)
      |cons a l=>simp
     have:=partsL_mem c s _ this x hx;exact⟨List.mem_cons_of_mem _ this.1,this.2⟩
   ·have:=partsL_mem c s p (List.mem_of_mem_tail hp) x hx
    exact⟨List.mem_cons_of_mem _ this.1,this.2⟩
def joinL (c:UInt8):List (List UInt8)→List UInt8
 |[]=>[]
 |[p]=>p
 |p::q::l=>p++c::joinL c (q::l)
theorem joinL_cons {c:UInt8} {p:List UInt8} {l:List (List UInt8)} (h:l≠[]):joinL c (p::l)=p++c::joinL c l:=by
 cases l with
 |nil=>exact absurd rfl h
 |cons q l=>rfl
theorem join_parts (c:UInt8):∀s:List UInt8,joinL c (partsL c s)=s
 |[]=>rfl
 |x::s=>by
  have ih:=join_parts c s;by_cases h:x=c
  ·subst h;rw[partsL_hit,joinL_cons (partsL_ne x s),ih];rfl
  ·rw[partsL_miss h]
   cases hh:partsL c s with
   |nil=>exact absurd hh (partsL_ne c s)
   |cons a l=>
    rw[hh]at ih
    cases l with
    |nil=>simp only[List.headD_cons,List.tail_cons];rw[←ih];rfl
    |cons b l=>simp only[List.headD_cons,List.tail_cons];rw[←ih];rfl
theorem parts_app {c:UInt8}:∀ {p:List UInt8} {s:List UInt8},(∀x∈p,x≠c)→partsL c (p++c::s)=p::partsL c s
 |[],s,_=>partsL_hit
 |x::p,s,h=>by
  have:= @parts_app c p s (fun y hy=>h y (List.mem_cons_of_mem _ hy));rw[List.cons_append,partsL_miss (h x List.mem_cons_self),this];rfl
theorem parts_one {c:UInt8}:∀ {p:List UInt8},(∀x∈p,x≠c)→partsL c p=[p]
 |[],_=>rfl
 |x::p,h=>by
  have:= @parts_one c p (fun y hy=>h y (List.mem_cons_of_mem _ hy));rw[partsL_miss (h x List.mem_cons_self),this];rfl
theorem parts_join {c:UInt8}:∀ {l:List (List UInt8)},l≠[]→(∀p∈l,∀x∈p,x≠c)→partsL c (joinL c l)=l
 |[],h,_=>absurd rfl h
 |[p],_,h=>parts_one (h p List.mem_cons_self)
 |p::q::l,_,h=>by
  rw[joinL_cons (by simp),parts_app (h p List.mem_cons_self),parts_join (by simp) (fun p' hp=>h p' (List.mem_cons_of_mem _ hp))]
theorem splitK_parts (c:UInt8):∀s:List UInt8,Lib.splitK [c] 0 (Lib.count s [c]) s=partsL c s
 |[]=>by
  have:Lib.count [] [c]=0:=by rw[Lib.count_one];rfl
  rw[this];rfl
 |x::s=>by
  have ih:=splitK_parts c s;by_cases h:x=c
  ·subst h
   rw[Lib.count_cons_eq,partsL_hit,show 1+Lib.count s [x]=Lib.count s [x]+1 by omega];have hi:Lib.index (x::s) [x]=0:=by simp[Lib.index]
   rw[Lib.splitK,hi];simp only[beq_iff_eq,Int.reduceNeg];rw[if_neg (by decide)];simp[ih]
  ·rw[Lib.count_cons_ne x c s h,partsL_miss h,←ih]
   have hpre:([c]:List UInt8).isPrefixOf (x::s)=false:=by
    simp[List.isPrefixOf];exact fun e=>h e.symm
   cases hk:Lib.count s [c]with
   |zero=>rfl
   |succ k=>
    have hne:Lib.index s [c]≠ -1:=fun e=>by
     have:=Lib.count_miss e;omega
    have hge:=Lib.index_ge s [c];have hi:Lib.index (x::s) [c]=Lib.index s [c]+1:=by
     rw[Lib.index,if_neg (by rw[hpre];simp),if_neg (by simpa using hne)]
    obtain⟨i,hii⟩:∃i:Nat,Lib.index s [c]=i:=⟨(Lib.index s [c]).toNat,by omega⟩;rw[Lib.splitK,Lib.splitK,hi,hii,if_neg (by rw[beq_iff_eq];omega),if_neg (by rw[beq_iff_eq];omega)];have e1:((i:Int)+1).toNat=i+1:=by omega
    have e2:((i:Int)).toNat=i:=by omega
    rw[e1,e2];simp
def cntF (base:Nat):Nat→List UInt8→Option Nat
 |acc,[]=>some acc
 |acc,c::r=>if hexI c.toNat<0∨(base:Int)≤hexI c.toNat then none else cntF base (min 4294967296 (acc*base+(hexI c.toNat).toNat)) r
def cntL (base:Nat) (s:List UInt8):Option Nat:=cntF base 0 s
def allDig (base:Nat) (s:List UInt8):Bool:=s.all fun c=>decide (0≤hexI c.toNat)&&decide (hexI c.toNat<(base:Int))
theorem allDig_cons {base:Nat} {c:UInt8} {s:List UInt8}:allDig base (c::s)=true↔(0≤hexI c.toNat∧hexI c.toNat<(base:Int))∧allDig base s=true:=by
 simp[allDig,List.all_cons]
theorem cntF_none {base:Nat}:∀ {s:List UInt8} {acc:Nat},allDig base s=false→cntF base acc s=none
 |[],_,h=>by simp[allDig]at h
 |c::s,acc,h=>by
  unfold cntF;split
  ·rfl
  ·rename_i hc
   refine cntF_none ?_
   cases hs:allDig base s with
   |false=>rfl
   |true=>rw[allDig_cons.2 ⟨by omega,hs⟩]at h;cases h
theorem cntF_top {base:Nat} (hb:1≤base):∀ {s:List UInt8},allDig base s=true→cntF base 4294967296 s=some 4294967296
 |[],_=>rfl
 |c::s,h=>by
  obtain⟨h1,h2⟩:=allDig_cons.1 h;unfold cntF;rw[if_neg (by omega)];have:4294967296*1≤4294967296*base:=Nat.mul_le_mul_left _ hb;rw[Nat.min_eq_left (by omega)];exact cntF_top hb h2
theorem min_step {m acc base d:Nat} (hb:1≤base):min m (min m acc*base+d)=min m (acc*base+d):=by
 rcases Nat.le_total m acc with h|h
 ·rw[Nat.min_eq_left h]
  have h1:m*1≤m*base:=Nat.mul_le_mul_left _ hb;have h2:m*1≤acc*base:=Nat.mul_le_mul h hb;rw[Nat.min_eq_left (by omega),Nat.min_eq_left (by omega)]
 ·rw[Nat.min_eq_right h]
def cutP:Lib.NumEnd Nat→Nat
 | .ok v=>min 4294967296 v
 |_=>4294967296
theorem cnt_parse {base max:Nat} (hb:1≤base) (hm:4294967296≤max):∀ {s:List UInt8} {acc:Nat},allDig base s=true→cntF base (min 4294967296 acc) s=some (cutP (parseB base max acc s))
 |[],acc,_=>rfl
 |c::s,acc,h=>by
  obtain⟨h1,h2⟩:=allDig_cons.1 h;unfold cntF;rw[if_neg (by omega),min_step hb];by_cases hr:max<acc*base+(hexI c.toNat).toNat
  ·rw[parseB_rng h1.1 h1.2 hr,Nat.min_eq_left (by omega),cntF_top hb h2]
   rfl
  ·rw[parseB_go h1.1 h1.2 (by omega)]
   exact cnt_parse hb hm h2
theorem cnt_zeros {base:Nat}:∀ {s:List UInt8},1≤base→cntL base (s.dropWhile fun c=>c==48)=cntL base s
 |[],_=>rfl
 |c::s,hb=>by
  by_cases h:c=48
  ·subst h
   rw[List.dropWhile_cons_of_pos (by rfl),cnt_zeros hb]
   conv=>rhs;unfold cntL cntF
   have e:hexI (48:UInt8).toNat=0:=rfl;rw[e,if_neg (by omega),show min 4294967296 (0*base+Int.toNat 0)=0 by simp];rfl
  ·rw[List.dropWhile_cons_of_neg (by simpa using h)]
theorem allDig_zeros {base:Nat}:∀ {s:List UInt8},allDig base s=true→allDig base (s.dropWhile fun c=>c==48)=true
 |[],_=>rfl
 |c::s,h=>by
  by_cases hc:c=48
  ·subst hc
   rw[List.dropWhile_cons_of_pos (by rfl)];exact allDig_zeros (allDig_cons.1 h).2
  ·rw[List.dropWhile_cons_of_neg (by simpa using hc)];exact h
def hexPre (s:List UInt8):Bool:=decide (2≤s.length)&&((s.getD 0 0).toNat==48)&&((s.getD 1 0).toNat==120||(s.getD 1 0).toNat==88)
def numL (s:List UInt8):Option Nat:=
 if hexPre s then cntL 16 (s.drop 2)else if s=[]then none else if (s.getD 0 0).toNat=48 then cntL 8 s else cntL 10 s
def likeL (s:List UInt8):Bool:=if hexPre s then (numL s).isSome else !s.isEmpty&&allDig 10 s
def fourParts (s:List UInt8):List (List UInt8):=if 1<(partsL 46 s).length∧(partsL 46 s).getLastD []=[]then (partsL 46 s).dropLast else partsL 46 s
def evalF:List (List UInt8)→Nat→Nat→Option Nat
 |[],_,all=>some all
 |x::l,room,all=>match numL x with
  |none=>none
  |some n=>if l=[]then (if n<room then some (all*room+n)else none)else if n<256 then evalF l (room/256) (all*256+n)else none
def fourL (s:List UInt8):Bool×Nat×Nat:=
 if likeL ((fourParts s).getLastD [])=false then (false,0,0)
 else if 4<(fourParts s).length then (true,5,0)
 else match evalF (fourParts s) 4294967296 0 with
  |none=>(true,5,0)
  |some n=>(true,0,n)
def byteN (x:List UInt8):Option UInt8:=
 match cntL 10 x with
 |some n=>if x=[]∨(1<x.length∧(x.getD 0 0).toNat=48)∨255<n then none else some (UInt8.ofNat n)
 |none=>none
def bytesN:List (List UInt8)→Option (List UInt8)
 |[]=>some []
 |x::l=>match byteN x with
  |none=>none
  |some n=>match bytesN l with|none=>none|some r=>some (n::r)
def fourB (s:List UInt8):Option (List UInt8):=if (partsL 46 s).length=4 then bytesN (partsL 46 s)else none
def pieceN (x:List UInt8):Option (List UInt8):=
 match cntL 16 x with
 |some n=>if x=[]∨4<x.length then none else some [UInt8.ofNat (n/256),UInt8.ofNat (n % 256)]
 |none=>none
def piecesN (fin:Bool):List (List UInt8)→Option (List UInt8)
 |[]=>some []
 |x::l=>match pieceN x with
  |some r=>(match piecesN fin l with|none=>none|some t=>some (r++t))
  |none=>if fin∧l=[]then fourB x else none
def sideN (fin:Bool) (s:List UInt8):Option (List UInt8):=if s=[]then some []else piecesN fin (partsL 58 s)
def sixL (s:List UInt8):Option (List UInt8):=
 if Lib.index s [58,58]= -1 then (match sideN true s with|some b=>if b.length=16 then some b else none|none=>none)
 else match sideN false (s.take (Lib.index s [58,58]).toNat)with
  |none=>none
  |some l=>match sideN true (s.drop ((Lib.index s [58,58]).toNat+2))with
   |none=>none
   |some r=>if 14<l.length+r.length then none else some (l++List.replicate (16-l.length-r.length) 0++r)
theorem cntF_pow {base:Nat} (hb:1≤base):∀ {s:List UInt8} {acc n:Nat},cntF base acc s=some n→n+1≤(acc+1)*base^s.length
 |[],acc,n,h=>by simp[cntF]at h;subst h;simp
 |c::s,acc,n,h=>by
  rw[cntF]at h;split at h
  ·cases h
  ·rename_i hc
   have ih:=cntF_pow hb h;have h1:(hexI c.toNat).toNat+1≤base:=by omega
   have h2:min 4294967296 (acc*base+(hexI c.toNat).toNat)+1≤(acc+1)*base:=by
    have:(acc+1)*base=acc*base+base:=by rw[Nat.add_mul,Nat.one_mul]
    omega
   calc n+1≤_:=ih
    _≤((acc+1)*base)*base^s.length:=Nat.mul_le_mul_right _ h2
    _=_:=by rw[List.length_cons,Nat.pow_succ,Nat.mul_assoc,Nat.mul_comm base]
theorem cnt_16_4 {x:List UInt8} {n:Nat} (h:cntL 16 x=some n) (hx:x.length≤4):n<65536:=by
 have h1:=cntF_pow (by decide) h;have h2:16^x.length≤16^4:=Nat.pow_le_pow_right (by decide) hx;omega
theorem pieceN_len {x r:List UInt8} (h:pieceN x=some r):r.length=2:=by
 unfold pieceN at h;split at h
 ·split at h
  ·cases h
  ·injection h with h;subst h;rfl
 ·cases h
theorem bytesN_len:∀ {l:List (List UInt8)} {r:List UInt8},bytesN l=some r→r.length=l.length
 |[],r,h=>by injection h with h;subst h;rfl
 |x::l,r,h=>by
  unfold bytesN at h;split at h
  ·cases h
  ·split at h
   ·cases h
   ·rename_i hl
    injection h with h;subst h;rw[List.length_cons,List.length_cons,bytesN_len hl]
theorem fourB_len {s r:List UInt8} (h:fourB s=some r):r.length=4:=by
 unfold fourB at h;split at h
 ·rw[bytesN_len h];assumption
 ·cases h
theorem piecesN_len {fin:Bool}:∀ {l:List (List UInt8)} {r:List UInt8},piecesN fin l=some r→r.length≤2*l.length+2
 |[],r,h=>by injection h with h;subst h;simp
 |x::l,r,h=>by
  unfold piecesN at h;split at h
  ·rename_i hp
   split at h
   ·cases h
   ·rename_i ht
    injection h with h;subst h;have:=piecesN_len ht;have:=pieceN_len hp;simp;omega
  ·split at h
   ·have:=fourB_len h
    simp;omega
   ·cases h
theorem sideN_len {fin:Bool} {s r:List UInt8} (h:sideN fin s=some r):r.length≤2*s.length+4:=by
 unfold sideN at h;split at h
 ·injection h with h;subst h;simp
 ·have:=piecesN_len h
  have:=(partsL_le 58 s).2;omega
theorem cntF_mem {base:Nat}:∀ {s:List UInt8} {acc n:Nat},cntF base acc s=some n→∀c∈s,0≤hexI c.toNat
 |[],_,_,_,c,hc=>by simp at hc
 |d::s,acc,n,h,c,hc=>by
  rw[cntF]at h;split at h
  ·cases h
  ·rcases List.mem_cons.1 hc with rfl|hc
   ·omega
   ·exact cntF_mem h c hc
theorem piece_point {x:List UInt8} (h:(46:UInt8)∈x):pieceN x=none:=by
 unfold pieceN;split
 ·rename_i n hn
  exact absurd (cntF_mem hn 46 h) (by decide)
 ·rfl
theorem four_point {x:List UInt8} (h:(46:UInt8)∉x):fourB x=none:=by
 unfold fourB;rw[partsL_len,List.count_eq_zero_of_not_mem h];rfl
def hexB (n:Nat):UInt8:=if n<10 then UInt8.ofNat (48+n)else UInt8.ofNat (87+n)
def digF (base:Nat):Nat→Nat→List UInt8
 |0,n=>[hexB (n % base)]
 |f+1,n=>if n<base then [hexB n]else digF base f (n/base)++[hexB (n % base)]
def dec8 (n:Nat):List UInt8:=digF 10 20 n
def hex4 (n:Nat):List UInt8:=digF 16 20 n
theorem digF_len (base:Nat):∀(f n:Nat),1≤(digF base f n).length∧(digF base f n).length≤f+1
 |0,n=>by simp[digF]
 |f+1,n=>by
  unfold digF;split
  ·simp
  ·have:=digF_len base f (n/base);simp;omega
theorem digF_step {base f n:Nat} (h:base≤n):digF base (f+1) n=digF base f (n/base)++[hexB (n % base)]:=by rw[digF,if_neg (by omega)]
theorem digF_low {base f n:Nat} (h:n<base):digF base f n=[hexB n]:=by
 cases f with
 |zero=>rw[digF,Nat.mod_eq_of_lt h]
 |succ f=>rw[digF,if_pos h]
theorem digF_more {base:Nat} (hb:2≤base):∀(f n:Nat),n<base^(f+1)→digF base (f+1) n=digF base f n
 |0,n,h=>by
  rw[Nat.pow_one]at h;rw[digF_low h,digF_low h]
 |f+1,n,h=>by
  by_cases hn:n<base
  ·rw[digF_low hn,digF_low hn]
  ·rw[digF_step (f:=f+1) (n:=n) (by omega),digF_step (f:=f) (n:=n) (by omega),digF_more hb f (n/base) (by
    rw[Nat.div_lt_iff_lt_mul (by omega)];rwa[Nat.pow_succ]at h)]
/-! ### Where runs of nothing stand -/
abbrev Runs:=(Nat×Nat)×(Nat×Nat)
def runStep (i:Nat) (z:Bool) (st:Runs):Runs:=
 if z=false then ((0,0),st.2)
 else
  let now:=if st.1=(0,0)then (i,0)else st.1
  let now:=(now.1,now.2+1)
  if st.2.2<now.2 then (now,now)else (now,st.2)
def runsF:Nat→List Bool→Runs→Runs
 |_,[],st=>st
 |i,z::l,st=>runsF (i+1) l (runStep i z st)
def bestR (z:List Bool):Nat×Nat:=(runsF 0 z ((0,0),(0,0))).2
def zerosL:List Bool→Nat
 |true::l=>zerosL l+1
 |_=>0
def longStep (i n:Nat) (st:Nat×Nat):Nat×Nat:=if st.2<n then (i,n)else st
def longF:Nat→List Bool→Nat×Nat→Nat×Nat
 |_,[],st=>st
 |i,z::l,st=>longF (i+1) l (longStep i (zerosL (z::l)) st)
def longR (z:List Bool):Nat×Nat:=longF 0 z (0,1)
theorem runs_eq:∀a b c d e f g h:Bool,(if (bestR [a,b,c,d,e,f,g,h]).2<2 then (0,1)else bestR [a,b,c,d,e,f,g,h])=longR [a,b,c,d,e,f,g,h]:=by decide+kernel
theorem long_bd:∀a b c d e f g h:Bool,(longR [a,b,c,d,e,f,g,h]).1+(longR [a,b,c,d,e,f,g,h]).2≤8∧1≤(longR [a,b,c,d,e,f,g,h]).2:=by decide+kernel
def text6 (p:List Nat):List UInt8:=
 let r:=longR (p.map (·==0))
 if r.2<2 then joinL 58 (p.map hex4)
 else joinL 58 ((p.take r.1).map hex4)++[58,58]++joinL 58 ((p.drop (r.1+r.2)).map hex4)
def text4 (p:List Nat):List UInt8:=joinL 46 (p.map dec8)
def optV (r:Option (List UInt8)):Value:=match r with|some x=> .tuple #[.string ⟨x.toArray⟩, .int .i64 0]|none=> .tuple #[.string ⟨#[]⟩, .int .i64 5]
def cutLast (l:List (List UInt8)):List (List UInt8):=if 1<l.length∧l.getLastD []=[]then l.dropLast else l
def foulS:List UInt8:=[35,37,47,58,60,62,63,64,91,92,93,94,124]
def foulB (c:UInt8):Bool:=decide (c.toNat≤32)||(decide (c.toNat=127)||foulS.contains c)
def cleanL (s:List UInt8):Bool:= !s.any foulB&&decide (s.length≤253)
def bytes4 (n:Nat):List Nat:=[n/16777216 % 256,n/65536 % 256,n/256 % 256,n % 256]
def fourT (s:List UInt8):Option (List UInt8):=
 if (fourL s).2.1≠0 then none else if (fourL s).1 then some (text4 (bytes4 (fourL s).2.2))else some s
def pairsN:List UInt8→List Nat
 |a::b::r=>(256*a.toNat+b.toNat)::pairsN r
 |_=>[]
def inL (s:List UInt8):Option (List UInt8):=
 if s.getLast?=some 93 then (match sixL s.dropLast with|none=>none|some b=>some (91::text6 (pairsN b)++[93]))else none
def bnd (b k:Nat):Nat:=min (max (k-b) 1) 26
theorem bnd_bd (b k:Nat):1≤bnd b k∧bnd b k≤26:=by unfold bnd;omega
def advF:Nat→Nat→Nat→Nat
 |0,n,k=>k+36*n/(n+38)
 |f+1,n,k=>if 455<n then advF f (n/35) (k+36)else k+36*n/(n+38)
theorem advF_any:∀(f g n k:Nat),n≤f→n≤g→advF f n k=advF g n k
 |0,0,_,_,_,_=>rfl
 |0,g+1,n,k,h,_=>by
  have:n=0:=by omega
  subst this;simp[advF]
 |f+1,0,n,k,_,h=>by
  have:n=0:=by omega
  subst this;simp[advF]
 |f+1,g+1,n,k,h1,h2=>by
  unfold advF;split
  ·exact advF_any f g _ _ (by omega) (by omega)
  ·rfl
def adv (n k:Nat):Nat:=advF n n k
theorem adv_big {n k:Nat} (h:455<n):adv n k=adv (n/35) (k+36):=by
 unfold adv;rw[show advF n n k=advF (n-1+1) n k from by rw[Nat.sub_add_cancel (by omega)]]
 conv=>lhs;unfold advF
 rw[if_pos h];exact advF_any _ _ _ _ (by omega) (Nat.le_refl _)
theorem adv_small {n k:Nat} (h:n≤455):adv n k=k+36*n/(n+38):=by
 unfold adv
 cases n with
 |zero=>rfl
 |succ n=>unfold advF;rw[if_neg (by omega)]
def nextL (n signs:Nat) (begins:Bool):Nat:=adv ((if begins then n/700 else n/2)+(if begins then n/700 else n/2)/signs) 0
theorem adv_le (n k:Nat) (h:n≤274877906944):adv n k≤k+288:=by
 have:∀m k',m≤455→adv m k'≤k'+36:=fun m k' hm=>by
  rw[adv_small hm];have:36*m/(m+38)≤36:=Nat.div_le_of_le_mul (by omega);omega
 have s:∀(c:Nat) (B:Nat),(∀m k',m≤B→adv m k'≤k'+c)→∀m k',m≤35*B→adv m k'≤k'+(c+36):=fun c B hB m k' hm=>by
  by_cases h:455<m
  ·rw[adv_big h];have:=hB (m/35) (k'+36) (by omega);omega
  ·have:=this m k' (by omega);omega
 have h1:=s _ _ this;have h2:=s _ _ h1;have h3:=s _ _ h2;have h4:=s _ _ h3;have h5:=s _ _ h4;have h6:=s _ _ h5;have:=h6 n k (by omega);omega
theorem nextL_le (n signs:Nat) (b:Bool) (h:n≤137438953472):nextL n signs b≤288:=by
 unfold nextL;have h1:(if b then n/700 else n/2)≤n:=by split<;>omega
 have h2:(if b then n/700 else n/2)/signs≤(if b then n/700 else n/2):=Nat.div_le_self _ _;have:=adv_le ((if b then n/700 else n/2)+(if b then n/700 else n/2)/signs) 0 (by omega);omega
def digI (c:Nat):Int:=if 97≤c∧c≤122 then (c:Int)-97 else if 65≤c∧c≤90 then (c:Int)-65 else if 48≤c∧c≤57 then (c:Int)-22 else -1
theorem digI_bd (c:Nat): -1≤digI c∧digI c≤35:=by unfold digI;split<;>(try split)<;>(try split)<;>omega
def readL (b:Nat):List UInt8→Nat→Nat→Nat→Option (Nat×List UInt8)
 |[],_,_,_=>none
 |c::s,k,w,n=>
  if digI c.toNat<0 then none
  else if 2147483647<n+(digI c.toNat).toNat*w then none
  else if (digI c.toNat).toNat<bnd b k then some (n+(digI c.toNat).toNat*w,s)
  else readL b s (k+36) (w*(36-bnd b k)) (n+(digI c.toNat).toNat*w)
theorem readL_some (b:Nat):∀(s:List UInt8) (k w n m:Nat) (r:List UInt8),readL b s k w n=some (m,r)→n≤m∧m≤2147483647∧r.length<s.length∧∃p,p++r=s
 |[],_,_,_,_,_,h=>by simp[readL]at h
 |c::s,k,w,n,m,r,h=>by
  unfold readL at h;split at h
  ·cases h
  split at h
  ·cases h
  split at h
  ·simp only[Option.some.injEq,Prod.mk.injEq]at h
   obtain⟨rfl,rfl⟩:=h;exact⟨by omega,by omega,by simp,[c],rfl⟩
  ·obtain⟨h1,h2,h3,p,hp⟩:=readL_some b s _ _ _ m r h
   exact⟨by omega,h2,by simp;omega,c::p,by rw[←hp];rfl⟩
theorem readL_neg {b:Nat} {c:UInt8} {s:List UInt8} {k w n:Nat} (h:digI c.toNat<0):readL b (c::s) k w n=none:=by unfold readL;rw[if_pos h]
theorem readL_sum {c:UInt8} {w n:Nat} (h0:0≤digI c.toNat):(n:Int)+digI c.toNat*(w:Int)=((n+(digI c.toNat).toNat*w:Nat):Int):=by
 rw[Int.natCast_add,Int.natCast_mul,Int.toNat_of_nonneg h0]
theorem readL_big {b:Nat} {c:UInt8} {s:List UInt8} {k w n:Nat} (h0:0≤digI c.toNat) (h:2147483647<(n:Int)+digI c.toNat*(w:Int)):readL b (c::s) k w n=none:=by
 rw[readL_sum h0]at h;unfold readL;rw[if_neg (by omega),if_pos (by omega)]
theorem readL_end {b:Nat} {c:UInt8} {s:List UInt8} {k w n:Nat} (h0:0≤digI c.toNat) (h:(n:Int)+digI c.toNat*(w:Int)≤2147483647) (h2:digI c.toNat<(bnd b k:Int)):
 readL b (c::s) k w n=some (n+(digI c.toNat).toNat*w,s):=by
 rw[readL_sum h0]at h
 unfold readL
 rw[if_neg (by omega),if_neg (by omega),if_pos (by omega)]
theorem readL_go {b:Nat} {c:UInt8} {s:List UInt8} {k w n:Nat} (h0:0≤digI c.toNat) (h:(n:Int)+digI c.toNat*(w:Int)≤2147483647) (h2:(bnd b k:Int)≤digI c.toNat):
 readL b (c::s) k w n=readL b s (k+36) (w*(36-bnd b k)) (n+(digI c.toNat).toNat*w):=by
 rw[readL_sum h0]at h
 conv=>lhs;unfold readL
 rw[if_neg (by omega),if_neg (by omega),if_neg (by omega)]
theorem readL_weight {b:Nat} {c:UInt8} {k w n:Nat} (h0:0≤digI c.toNat) (h:(n:Int)+digI c.toNat*(w:Int)≤2147483647) (h2:(bnd b k:Int)≤digI c.toNat):
 n+(digI c.toNat).toNat*w≤2147483647∧w*(36-bnd b k)≤75161927645∧(w:Int)*(36-(bnd b k:Int))=((w*(36-bnd b k):Nat):Int):=by
 have hb:=bnd_bd b k
 rw[readL_sum h0]at h
 have h1:1*w≤(digI c.toNat).toNat*w:=Nat.mul_le_mul_right _ (by omega)
 have h3:w*(36-bnd b k)≤w*35:=Nat.mul_le_mul_left _ (by omega)
 refine⟨by omega,by omega, ?_⟩
 rw[Int.natCast_mul,Int.natCast_sub (by omega)]
 rfl
structure Elem1 (P:Program) (t e:TypeId) (z:Value) (bytes:Nat):Prop where
 ht:P.underlying t=some (.slice e)
 hi:∃i,P.info? e=some i∧i.zero=some z∧i.size=1∧i.bytes=bytes
 hz:z.cells.size=1
theorem grown_trans2 {a b c:World} {row:Option Nat} (h:a.grownBy b row) (k:b.grownBy c row):a.grownBy c row:=
 ⟨k.os.trans h.os,k.tape.trans h.tape,k.output.trans h.output,Nat.le_trans h.size k.size,fun i hi hne=>(k.block i (Nat.lt_of_lt_of_le hi h.size) hne).trans (h.block i hi hne)⟩
theorem grown_refl (a:World) (row:Option Nat):a.grownBy a row:=⟨rfl,rfl,rfl,Nat.le_refl _,fun _ _ _=>rfl⟩
theorem grown_drew {a b:World} {row:Option Nat} (h:a.grownBy b row):a.grownBy b.drew row:=⟨h.os,h.tape,h.output,h.size,h.block⟩
theorem grown_alloc {a w:World} {row:Option Nat} (h:a.grownBy w row) (o:Obj):a.grownBy (w.alloc o) row:=grown_trans2 h (World.grownBy_alloc w o row)
theorem grown_below {a w w':World} {row:Option Nat} (h:a.grownBy w row) (hb:Below w.heap.size w w'):a.grownBy w' row:=
 ⟨hb.os.trans h.os,hb.tape.trans h.tape,hb.output.trans h.output,Nat.le_trans h.size hb.size,fun k hk hn=>(hb.block k (Nat.lt_of_lt_of_le hk h.size)).trans (h.block k hk hn)⟩
theorem own_below {w w':World} {base e size:Nat} {v:Value} {n:Nat} {xs:List Value} (h:w.ownsRow base e size v n xs) (hb:Below w.heap.size w w'):w'.ownsRow base e size v n xs:=
 h.kept (row:=none) ⟨hb.os,hb.tape,hb.output,hb.size,fun k hk _=>hb.block k hk⟩ (by cases hv:v.ownBlock<;>simp)
theorem below_alloc (w:World) (o:Obj):Below w.heap.size w (w.alloc o):=(Below.refl _ _).alloc (Nat.le_refl _) o
theorem below_of_grown {B:Nat} {a w:World} {row:Option Nat} (hg:a.grownBy w row) (hB:B≤a.heap.size) (hr:∀k,row=some k→B≤k):Below B a w:=(Below.refl B a).grown hg hB hr
theorem wpList_append_vals {P:Program} {t e:TypeId} {z:Value} {bytes:Nat} (E:Elem1 P t e z bytes) (w0:World) {ops:Array Oper} {rest:List Oper} {o:Oper} {a:Act} {Q:Exit→Act→World→Prop} (hgd:o.guard=none) (s x:Operand)
 (ho:o.op= .call {callee:= .builtin .append,args:= #[s,x],argTypes:= #[t,t]})
 (base:Nat) (v:Value) (n:Nat) (xs:List Value) (hs:a.eval s=v) (hown:w0.ownsRow base e 1 v n xs)
 (m:Nat) (news:List Value) (e':TypeId) (hx:a.eval x= .slice (some ⟨w0.heap.size,0,none⟩) m m) (hl:news.length=m) (h1:∀u∈news,u.oneCell'=true)
 (h63:n+m≤140737488355328) (hbytes:(n+m)*bytes≤140737488355328) (hbase:base≤w0.heap.size)
 (h:∀v' w',w'.ownsRow base e 1 v' (n+m) (xs++news)→w0.grownBy w' v.ownBlock→(v'= .slice none 0 0↔v= .slice none 0 0∧m=0)→wpList P ops Q rest (a.put o.dst v') w'):
 wpList P ops Q (o::rest) a (w0.alloc (.cells news.toArray e')):=by
 obtain⟨i,hi,hz,hsize,hby⟩:=E.hi
 refine wpList_append_own _ hgd s x t ho base e i z 1 bytes E.ht hi hz hsize hby E.hz (by decide) v n xs hs (hown.alloc _) ⟨w0.heap.size,0,none⟩ m m news hx (by omega) ?_ h1 (by unfold maxLen;omega) hbytes (by simp;omega) ?_
 ·intro j u hj
  rw[Addr.add_lit,Nat.zero_add,World.cell?_alloc_at _ _ _ j rfl];simpa using hj
 ·intro v' w' h2 h3 h4
  exact h v' w' h2 (grown_trans2 (World.grownBy_alloc w0 _ _) h3) h4
theorem convert_bytes_own {P:Program} {w:World} {src dst e:TypeId} {base:Nat} {v:Value} {l:List UInt8} (hs:P.underlying src=some (.slice e)) (he:P.underlying e=some (.int .u8)) (hd:P.underlying dst=some .string)
 (hown:w.ownsRow base e 1 v l.length (l.map fun c=> .int .u8 c.toNat)):(convert src dst v).run P w= .ok (.string ⟨l.toArray⟩) w:=by
 have hlen:=hown.1
 rcases hown.2 with ⟨rfl,h0⟩|⟨g,cap,cur,rfl,hb,hg,hn,hm,hsz,htake⟩
 ·have:l=[]:=List.length_eq_zero_iff.1 h0
  subst this;rw[run_convert_bytes_string w src dst e none 0 0 hs he hd];rfl
 ·refine run_convert_bytes_back w src dst e ⟨g,0,none⟩ cap l hs he hd fun j hj=> ?_
  rw[hown.cells (g:=g) rfl j (.int .u8 (l[j].toNat:Int)) (by simp[List.getElem?_eq_getElem hj])]
theorem convert_runes_own {P:Program} {w:World} {src dst e:TypeId} {base:Nat} {v:Value} {l:List Int} (hs:P.underlying src=some (.slice e)) (he:P.underlying e=some (.int .i32)) (hd:P.underlying dst=some .string)
 (hown:w.ownsRow base e 1 v l.length (l.map fun c=> .int .i32 c)):(convert src dst v).run P w= .ok (.string (runesBytes l)) w:=by
 rcases hown.2 with ⟨rfl,h0⟩|⟨g,cap,cur,rfl,hb,hg,hn,hm,hsz,htake⟩
 ·have:l=[]:=List.length_eq_zero_iff.1 h0
  subst this;exact run_convert_runes_nil w src dst e 0 0 hs he hd
 ·have:=run_convert_runes w src dst e ⟨g,0,none⟩ l.length cap l (Nat.le_refl _) hs he hd (fun j hj=>by
   rw[hown.cells (g:=g) rfl j (.int .i32 l[j]) (by simp[List.getElem?_eq_getElem hj])];simp[hj])
  rwa[List.take_length]at this
theorem own_len {w:World} {base e:Nat} {v:Value} {n:Nat} {xs:List Value} (h:w.ownsRow base e 1 v n xs):xs.length=n:=by have:=h.1;omega
theorem own_open {w:World} {base e:Nat} {v:Value} {n:Nat} {xs:List Value} (h:w.ownsRow base e 1 v n xs):
 (v= .slice none 0 0∧n=0∧xs=[])∨∃g cap,v= .slice (some ⟨g,0,none⟩) n cap∧base≤g∧g<w.heap.size∧n≤cap∧cap≤9223372036854775807∧∀j u,xs[j]?=some u→w.cell? ⟨g,j,none⟩=some u:=by
 have hl:=own_len h
 rcases h.2 with ⟨rfl,rfl⟩|⟨g,cap,cur,rfl,hb,hg,hn,hm,hsz,htake⟩
 ·exact .inl ⟨rfl,rfl,List.length_eq_zero_iff.1 hl⟩
 ·refine .inr ⟨g,cap,rfl,hb,(h.lt g rfl).2,hn,hm,fun j u hj=> ?_⟩
  have:=h.cells (g:=g) rfl j u hj;rwa[Addr.add_lit,Nat.zero_add]at this
theorem own_form {w:World} {base e:Nat} {v:Value} {n:Nat} {xs:List Value} (h:w.ownsRow base e 1 v n xs):∃a c,v= .slice a n c:=by
 rcases h.2 with ⟨rfl,rfl⟩|⟨g,cap,cur,rfl,_⟩
 ·exact⟨_,_,rfl⟩
 ·exact⟨_,_,rfl⟩
/-! ### A piece of a row,as the source of an append -/
def Seg (w:World) (x:Value) (zs:List Value) (g:Option Nat):Prop:=
 (x= .slice none 0 0∧zs=[])∨∃ad c,x= .slice (some ad) zs.length c∧g=some ad.block∧∀j u,zs[j]?=some u→w.cell? (ad.add j)=some u
theorem Seg.kept {w w':World} {x:Value} {zs:List Value} {g row:Option Nat} (h:Seg w x zs g) (hg:w.grownBy w' row) (hne:g=none∨g≠row):Seg w' x zs g:=by
 rcases h with h|⟨ad,c,rfl,rfl,hc⟩
 ·exact .inl h
 ·refine .inr ⟨ad,c,rfl,rfl,fun j u hj=> ?_⟩
  have h1:=hc j u hj;refine hg.cell h1 ?_;rcases hne with h2|h2
  ·cases h2
  ·have e:(ad.add j).block=ad.block:=by unfold Addr.add;split<;>rfl
   rw[e];exact h2
theorem own_base {w:World} {b b' e s:Nat} {v:Value} {n:Nat} {xs:List Value} (h:w.ownsRow b e s v n xs) (hb:b'≤b):w.ownsRow b' e s v n xs:=by
 refine⟨h.1, ?_⟩;rcases h.2 with hn|⟨g,cap,cur,hv,hg,r⟩
 ·exact .inl hn
 ·exact .inr ⟨g,cap,cur,hv,Nat.le_trans hb hg,r⟩
theorem wpList_append_seg {P:Program} {t e:TypeId} {z:Value} {bytes:Nat} (E:Elem1 P t e z bytes) (w0:World) {ops:Array Oper} {rest:List Oper} {o:Oper} {a:Act} {Q:Exit→Act→World→Prop} (hgd:o.guard=none) (s x:Operand)
 (ho:o.op= .call {callee:= .builtin .append,args:= #[s,x],argTypes:= #[t,t]})
 (base:Nat) (v:Value) (n:Nat) (xs:List Value) (hs:a.eval s=v) (hown:w0.ownsRow base e 1 v n xs)
 (y:Value) (zs:List Value) (g:Option Nat) (hx:a.eval x=y) (hseg:Seg w0 y zs g) (h1:∀u∈zs,u.oneCell'=true)
 (h63:n+zs.length≤140737488355328) (hbytes:(n+zs.length)*bytes≤140737488355328) (hbase:base≤w0.heap.size)
 (h:∀v' w',w'.ownsRow base e 1 v' (n+zs.length) (xs++zs)→w0.grownBy w' v.ownBlock→wpList P ops Q rest (a.put o.dst v') w'):
 wpList P ops Q (o::rest) a w0:=by
 obtain⟨i,hi,hz,hsize,hby⟩:=E.hi
 rcases hseg with ⟨rfl,rfl⟩|⟨ad,c,rfl,rfl,hc⟩
 ·refine wpList_append_own_none hgd s x t ho base e i 1 E.ht hi v n xs hs hown hx ?_
  have:=h v w0 (by simpa using hown) (grown_refl _ _);exact this
 ·exact wpList_append_own _ hgd s x t ho base e i z 1 bytes E.ht hi hz hsize hby E.hz (by decide) v n xs hs hown ad zs.length c zs hx (by omega) hc h1 (by unfold maxLen;omega) hbytes hbase
   (fun v' w' h2 h3 _=>h v' w' h2 h3)
def encN (x:Nat):List UInt8:=
 if x<128 then [UInt8.ofNat x]
 else if x<2048 then [UInt8.ofNat (192+x/64),UInt8.ofNat (128+x % 64)]
 else if x<65536 then [UInt8.ofNat (224+x/4096),UInt8.ofNat (128+x/64 % 64),UInt8.ofNat (128+x % 64)]
 else [UInt8.ofNat (240+x/262144),UInt8.ofNat (128+x/4096 % 64),UInt8.ofNat (128+x/64 % 64),UInt8.ofNat (128+x % 64)]
def bytesL (l:List Nat):List UInt8:=l.flatMap encN
theorem encN_len (x:Nat):1≤(encN x).length∧(encN x).length≤4:=by
 unfold encN
 repeat' split
 all_goals simp
theorem bytesL_len (l:List Nat):(bytesL l).length≤4*l.length:=by
 unfold bytesL
 induction l with
 |nil=>simp
 |cons x l ih=>have:=encN_len x;simp only[List.flatMap_cons,List.length_append,List.length_cons];omega
theorem e_int:Elem1 Tryz.prog 47 3 (.int .i64 0) 8:=⟨Tryz.underlying47,info_parts (by kernel_rfl),rfl⟩
abbrev i64s (l:List Nat):List Value:=l.map fun (c:Nat)=> .int .i64 (c:Int)
theorem u8_of {n:Nat} (h:n<256):(UInt8.ofNat n).toNat=n:=by simp;omega
def badSign (n:Nat):Prop:=1114111<n∨(55296≤n∧n≤57343)
instance (n:Nat):Decidable (badSign n):=by unfold badSign;exact inferInstance
def decF:Nat→List UInt8→Nat→Nat→Nat→Bool→List Nat→Option (List Nat)
 |0,_,_,_,_,_,_=>none
 |f+1,s,b,sign,place,first,l=>
  if s=[]then some l
  else match readL b s 36 1 place with
   |none=>none
   |some (n,rest)=>
    if badSign (sign+n/(l.length+1))then none
    else decF f rest (nextL (n-place) (l.length+1) first) (sign+n/(l.length+1)) (n % (l.length+1)+1) false
     (l.take (n % (l.length+1))++[sign+n/(l.length+1)]++l.drop (n % (l.length+1)))
theorem decF_any:∀(f g:Nat) (s:List UInt8) (b sign place:Nat) (first:Bool) (l:List Nat),s.length<f→s.length<g→decF f s b sign place first l=decF g s b sign place first l
 |0,_,_,_,_,_,_,_,h,_=>by omega
 |_+1,0,_,_,_,_,_,_,_,h=>by omega
 |f+1,g+1,s,b,sign,place,first,l,h1,h2=>by
  unfold decF;split
  ·rfl
  ·split
   ·rfl
   ·rename_i n rest hr
    have:=(readL_some b s 36 1 place n rest hr).2.2.1;split
    ·rfl
    ·exact decF_any f g _ _ _ _ _ _ (by omega) (by omega)
def decL (s:List UInt8) (b sign place:Nat) (first:Bool) (l:List Nat):Option (List Nat):=decF (s.length+1) s b sign place first l
theorem decL_nil {b sign place:Nat} {first:Bool} {l:List Nat}:decL [] b sign place first l=some l:=by simp[decL,decF]
theorem decL_none {s:List UInt8} {b sign place:Nat} {first:Bool} {l:List Nat} (hs:s≠[]) (h:readL b s 36 1 place=none):decL s b sign place first l=none:=by
 unfold decL decF;rw[if_neg hs,h]
theorem decL_bad {s rest:List UInt8} {b sign place n:Nat} {first:Bool} {l:List Nat} (hs:s≠[]) (h:readL b s 36 1 place=some (n,rest)) (hb:badSign (sign+n/(l.length+1))):decL s b sign place first l=none:=by
 unfold decL decF;rw[if_neg hs,h];simp only[hb,if_true]
theorem decL_go {s rest:List UInt8} {b sign place n:Nat} {first:Bool} {l:List Nat} (hs:s≠[]) (h:readL b s 36 1 place=some (n,rest)) (hb:¬badSign (sign+n/(l.length+1))):
 decL s b sign place first l=decL rest (nextL (n-place) (l.length+1) first) (sign+n/(l.length+1)) (n % (l.length+1)+1) false
  (l.take (n % (l.length+1))++[sign+n/(l.length+1)]++l.drop (n % (l.length+1))):=by
 have hl:=(readL_some b s 36 1 place n rest h).2.2.1
 conv=>lhs;unfold decL decF
 rw[if_neg hs,h]
 simp only[hb,if_false]
 unfold decL
 exact decF_any _ _ _ _ _ _ _ _ hl (by omega)
def decTop (s:List UInt8):Option (List Nat):=
 if 0<lastAt s 45 s.length then decL (s.drop ((lastAt s 45 s.length).toNat+1)) 72 128 0 true ((s.take (lastAt s 45 s.length).toNat).map fun c=>c.toNat)
 else decL s 72 128 0 true []
def decode (s:List UInt8):List UInt8×Nat:=
 if 65536<s.length then ([],3)
 else if ∃c∈s,128≤c.toNat then ([],4)
 else match decTop s with
  |none=>([],4)
  |some l=>(bytesL l,0)
def resV (r:List UInt8×Nat):Value:= .tuple #[.string ⟨r.1.toArray⟩, .int .i64 r.2]
theorem decode_long {s:List UInt8} (h:65536<s.length):decode s=([],3):=by unfold decode;rw[if_pos h]
theorem decode_wide {s:List UInt8} (h:s.length≤65536) (h2:∃c∈s,128≤c.toNat):decode s=([],4):=by unfold decode;rw[if_neg (by omega),if_pos h2]
theorem decode_plain {s:List UInt8} (h:s.length≤65536) (h2:∀c∈s,c.toNat<128):decode s=match decTop s with|none=>([],4)|some l=>(bytesL l,0):=by
 unfold decode;rw[if_neg (by omega),if_neg (by rintro⟨c,hc,h3⟩;have:=h2 c hc;omega)]
/-! ### What the model's own encoding of a rune is -/
theorem encode_encN {x:Nat} (h:¬badSign x):Utf8.encode (x:Int)=⟨(encN x).toArray⟩:=by
 unfold badSign at h;have hv:Utf8.valid (x:Int)=true:=by rw[validRune_eq,validRune];simp;omega
 unfold Utf8.encode encN;simp only[hv,if_true,Int.toNat_natCast];by_cases c1:x<128
 ·rw[if_pos c1,if_pos c1]
 ·rw[if_neg c1,if_neg c1]
  by_cases c2:x<2048
  ·rw[if_pos c2,if_pos c2]
  ·rw[if_neg c2,if_neg c2]
   by_cases c3:x<65536
   ·rw[if_pos c3,if_pos c3]
   ·rw[if_neg c3,if_neg c3]
theorem runesBytes_bytesL (l:List Nat) (h:∀x∈l,¬badSign x):runesBytes (l.map fun (x:Nat)=>(x:Int))=⟨(bytesL l).toArray⟩:=by
 have key:∀(l:List Nat) (a:List UInt8),(∀x∈l,¬badSign x)→(l.map fun (x:Nat)=>(x:Int)).foldl (fun r n=>r++Utf8.encode n) ⟨a.toArray⟩=⟨(a++bytesL l).toArray⟩:=by
  intro l
  induction l with
  |nil=>intro a _;simp[bytesL]
  |cons x l ih=>
   intro a hh;simp only[List.map_cons,List.foldl_cons];rw[encode_encN (hh x (by simp))];have e:(⟨a.toArray⟩:ByteArray)++⟨(encN x).toArray⟩=⟨(a++encN x).toArray⟩:=by
    apply ByteArray.ext;simp
   rw[e,ih (a++encN x) (fun y hy=>hh y (by simp[hy]))];simp[bytesL]
 have:=key l [] h;rw[List.nil_append]at this;exact this
abbrev i32s (l:List Nat):List Value:=l.map fun (c:Nat)=> .int .i32 (c:Int)
theorem runes_own {w:World} {base:Nat} {v:Value} {l:List Nat} (hown:w.ownsRow base 21 1 v l.length (i32s l)) (hbad:∀x∈l,¬badSign x):
 (convert 334 9 v).run Tryz.prog w= .ok (.string ⟨(bytesL l).toArray⟩) w:=by
 rw[←runesBytes_bytesL l hbad]
 refine convert_runes_own (base:=base) Tryz.underlying334 Tryz.underlying21 Tryz.underlying9 ?_
 rw[List.length_map,List.map_map]
 exact hown
theorem e_str:Elem1 Tryz.prog 59 9 (.string ⟨#[]⟩) 16:=⟨Tryz.underlying59,info_parts (by kernel_rfl),rfl⟩
def cur (s:List UInt8) (f k:Nat):List UInt8:=List.take (k-f) (List.drop f s)
end Go.Proofs.YtjkipdoebkhkaaaGreatDoor
