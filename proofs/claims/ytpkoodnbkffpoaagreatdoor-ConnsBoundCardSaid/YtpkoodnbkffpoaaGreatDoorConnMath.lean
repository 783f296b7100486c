/- Connections that are kept, plain: what each call makes of them. -/
import Derived.Test.YtpkoodnbkffpoaaGreatDoorGMath
set_option linter.unusedVariables false
set_option linter.unusedSimpArgs false
set_option maxHeartbeats 16000000
namespace Go.Proofs.YtpkoodnbkffpoaaGreatDoor
structure KeyL where
 safe:Bool
 host:List UInt8
 port:Int
deriving DecidableEq
structure ConnL where
 id:Nat
 key:KeyL
 given:Int
structure ConnsL where
 l:List ConnL
 next:Nat
def keptB (x:ConnL):Bool:=decide (0≤x.given)
def idleB (x:ConnL) (now:Int):Bool:=decide (x.given<now)&&decide (300<now-x.given)
def mineB (k:KeyL) (x:ConnL):Bool:=decide (x.key=k)
def freeB (b:ConnL→ConnL→Bool) (x:ConnL):Option ConnL→Bool
 |none=>true
 |some y=>b x y
def bestN (q:ConnL→Bool) (b:ConnL→ConnL→Bool) (l:List ConnL):Nat→Option Nat
 |0=>none
 |n+1=>match l[n]? with
  |none=>bestN q b l n
  |some x=>if q x&&freeB b x ((bestN q b l n).bind fun i=>l[i]?)then some n else bestN q b l n
theorem bestN_some {q:ConnL→Bool} {b:ConnL→ConnL→Bool} {l:List ConnL}:∀ {n a:Nat},bestN q b l n=some a→a<n∧∃x,l[a]?=some x∧q x=true
 |0,a,h=>by cases h
 |n+1,a,h=>by
  unfold bestN at h;split at h
  ·obtain⟨h1,h2⟩:=bestN_some h;exact⟨by omega,h2⟩
  ·rename_i x hx
   split at h
   ·rename_i hc
    cases h
    rw[Bool.and_eq_true]at hc;exact⟨by omega,x,hx,hc.1⟩
   ·obtain⟨h1,h2⟩:=bestN_some h;exact⟨by omega,h2⟩
theorem bestN_none {q:ConnL→Bool} {b:ConnL→ConnL→Bool} {l:List ConnL}:∀ {n:Nat},bestN q b l n=none→∀i x,i<n→l[i]?=some x→q x=false
 |0,h,i,x,hi,hx=>by omega
 |n+1,h,i,x,hi,hx=>by
  unfold bestN at h;by_cases hin:i=n
  ·subst hin
   rw[hx]at h;dsimp only at h;split at h
   ·cases h
   ·rename_i hc
    rw[h]at hc;simpa[freeB]using hc
  ·split at h
   ·exact bestN_none h i x (by omega) hx
   ·split at h
    ·cases h
    ·exact bestN_none h i x (by omega) hx
def lessB (x y:ConnL):Bool:=decide (x.given<y.given)
def moreB (x y:ConnL):Bool:=decide (y.given≤x.given)
def eldL (p:ConnL→Bool) (l:List ConnL):Option Nat:=bestN (fun x=>keptB x&&p x) lessB l l.length
def freeL (k:KeyL) (now:Int) (l:List ConnL):Option Nat:=bestN (fun x=>mineB k x&&keptB x&& !idleB x now) moreB l l.length
def setG (l:List ConnL) (i:Nat) (n:Int):List ConnL:=match l[i]? with|none=>l|some x=>l.set i {x with given:=n}
def manyL (k:KeyL) (l:List ConnL):Nat:=(l.filter (mineB k)).length
def dropO (l:List ConnL):Option Nat→List ConnL
 |none=>l
 |some i=>l.eraseIdx i
def addL (s:ConnsL) (c:Option Nat) (k:KeyL):ConnsL:=⟨dropO s.l c++[⟨s.next,k, -1⟩],s.next+1⟩
def goesC (s:ConnsL) (k:KeyL):Option (Option Nat):=
 if 6≤manyL k s.l then (eldL (mineB k) s.l).map some else if 32≤s.l.length then (eldL (fun _=>true) s.l).map some else some none
def takeR (s:ConnsL) (k:KeyL) (now:Int):(Nat×Bool×Int)×ConnsL:=
 match (freeL k now s.l).bind fun a=>(s.l[a]?).map fun x=>(a,x)with
 |some (a,x)=>((x.id,false,0),⟨setG s.l a (-1),s.next⟩)
 |none=>match goesC s k with
  |none=>((0,false,12),s)
  |some c=>((s.next,true,0),addL s c k)
def placeL (l:List ConnL) (id:Nat):Nat:=(l.filter fun x=>decide (x.id<id)).length
def foundL (l:List ConnL) (id:Nat):Bool:=match l[placeL l id]? with|none=>false|some x=>x.id==id
def keptAt (l:List ConnL) (i:Nat):Bool:=match l[i]? with|none=>true|some x=>keptB x
def giveR (s:ConnsL) (id:Nat) (now:Int):Int×ConnsL:=
 if foundL s.l id then (if keptAt s.l (placeL s.l id)then (14,s)else (0,⟨setG s.l (placeL s.l id) now,s.next⟩))else (1,s)
def zeroKey:KeyL:=⟨false,[],0⟩
def keyR (s:ConnsL) (id:Nat):KeyL×Bool:=if foundL s.l id then (match s.l[placeL s.l id]? with|none=>(zeroKey,false)|some x=>(x.key,true))else (zeroKey,false)
def oldB (now:Int) (x:ConnL):Bool:=keptB x&&idleB x now
def numsL (p:ConnL→Bool) (l:List ConnL):List Nat:=(l.filter p).map (·.id)
def oldR (s:ConnsL) (now:Int):List Nat×ConnsL:=(numsL (oldB now) s.l,⟨s.l.filter (fun x=> !oldB now x),s.next⟩)
structure Sorted (s:ConnsL):Prop where
 inc:s.l.Pairwise fun x y=>x.id<y.id
 lt:∀x∈s.l,x.id<s.next
theorem setG_len (l:List ConnL) (i:Nat) (n:Int):(setG l i n).length=l.length:=by unfold setG;split<;>simp
theorem setG_get {l:List ConnL} {i:Nat} {n:Int} {j:Nat} {y:ConnL} (h:(setG l i n)[j]?=some y):∃x,l[j]?=some x∧y.id=x.id∧y.key=x.key∧(j=i→y.given=n)∧(j≠i→y=x):=by
 unfold setG at h;split at h
 ·rename_i hn
  refine⟨y,h,rfl,rfl,fun e=> ?_,fun _=>rfl⟩;subst e;rw[hn]at h;cases h
 ·rename_i x hx
  rw[List.getElem?_set]at h;split at h
  ·rename_i e
   subst e;split at h
   ·cases h;exact⟨x,hx,rfl,rfl,fun _=>rfl,fun e=>absurd rfl e⟩
   ·cases h
  ·rename_i e
   exact⟨y,h,rfl,rfl,fun e2=>absurd e2.symm e,fun _=>rfl⟩
theorem setG_get2 {l:List ConnL} {i:Nat} {n:Int} {j:Nat} {x:ConnL} (h:l[j]?=some x):∃y,(setG l i n)[j]?=some y∧y.id=x.id∧y.key=x.key∧(j=i→y.given=n)∧(j≠i→y=x):=by
 have hj:=(List.getElem?_eq_some_iff.1 h).1;have hl:j<(setG l i n).length:=by rw[setG_len];exact hj
 obtain⟨x',h1,h2⟩:=setG_get (List.getElem?_eq_getElem hl);rw[h]at h1;cases h1;exact⟨_,List.getElem?_eq_getElem hl,h2⟩
theorem setG_ids (l:List ConnL) (i:Nat) (n:Int):(setG l i n).map (·.id)=l.map (·.id):=by
 apply List.ext_getElem?;intro j;rw[List.getElem?_map,List.getElem?_map]
 cases h:l[j]? with
 |none=>
  have:(setG l i n)[j]?=none:=by rw[List.getElem?_eq_none_iff]at h⊢;rw[setG_len];exact h
  rw[this]
 |some x=>
  obtain⟨y,h1,h2,_⟩:=setG_get2 (i:=i) (n:=n) h;rw[h1];simp[h2]
theorem setG_keys (l:List ConnL) (i:Nat) (n:Int):(setG l i n).map (·.key)=l.map (·.key):=by
 apply List.ext_getElem?;intro j;rw[List.getElem?_map,List.getElem?_map]
 cases h:l[j]? with
 |none=>
  have:(setG l i n)[j]?=none:=by rw[List.getElem?_eq_none_iff]at h⊢;rw[setG_len];exact h
  rw[this]
 |some x=>
  obtain⟨y,h1,_,h2,_⟩:=setG_get2 (i:=i) (n:=n) h;rw[h1];simp[h2]
theorem manyL_keys (k:KeyL) (l:List ConnL):manyL k l=((l.map (·.key)).filter fun y=>decide (y=k)).length:=by
 unfold manyL mineB
 induction l with
 |nil=>rfl
 |cons x l ih=>simp only[List.map_cons,List.filter_cons];split<;>simp_all
theorem manyL_setG (k:KeyL) (l:List ConnL) (i:Nat) (n:Int):manyL k (setG l i n)=manyL k l:=by rw[manyL_keys,setG_keys,←manyL_keys]
theorem sorted_ids {l m:List ConnL} (h:l.map (·.id)=m.map (·.id)) (hp:l.Pairwise fun x y=>x.id<y.id):m.Pairwise fun x y=>x.id<y.id:=by
 have h1:(l.map (·.id)).Pairwise (·< ·):=List.pairwise_map.2 hp;rw[h]at h1;exact List.pairwise_map.1 h1
theorem Sorted.setG {s:ConnsL} (h:Sorted s) (i:Nat) (n:Int):Sorted ⟨setG s.l i n,s.next⟩:=by
 refine⟨sorted_ids (setG_ids s.l i n).symm h.inc,fun x hx=> ?_⟩;have h1:x.id∈(Go.Proofs.YtpkoodnbkffpoaaGreatDoor.setG s.l i n).map (·.id):=List.mem_map.2 ⟨x,hx,rfl⟩;rw[setG_ids]at h1;obtain⟨y,hy,he⟩:=List.mem_map.1 h1;have:=h.lt y hy;show x.id<s.next;omega
theorem dropO_sub (l:List ConnL) (c:Option Nat):(dropO l c).Sublist l:=by
 cases c with
 |none=>exact List.Sublist.refl _
 |some i=>exact List.eraseIdx_sublist ..
theorem Sorted.add {s:ConnsL} (h:Sorted s) (c:Option Nat) (k:KeyL):Sorted (addL s c k):=by
 have hsub:(dropO s.l c).Sublist s.l:=dropO_sub _ _;unfold addL;refine⟨?_, ?_⟩
 ·show List.Pairwise _ (_++_)
  rw[List.pairwise_append];refine⟨h.inc.sublist hsub,by simp,fun x hx y hy=> ?_⟩;simp only[List.mem_singleton]at hy;subst hy;exact h.lt x (hsub.subset hx)
 ·intro x hx
  show x.id<s.next+1;rcases List.mem_append.1 hx with hx|hx
  ·have:=h.lt x (hsub.subset hx);omega
  ·simp only[List.mem_singleton]at hx;subst hx;exact Nat.lt_succ_self _
theorem place_split {l:List ConnL} (hp:l.Pairwise fun x y=>x.id<y.id) (id:Nat):∀i x,l[i]?=some x→(x.id<id↔i<placeL l id):=by
 induction l with
 |nil=>intro i x h;simp at h
 |cons y l ih=>
  intro i x h;rw[List.pairwise_cons]at hp;unfold placeL
  cases i with
  |zero=>
   simp only[List.getElem?_cons_zero,Option.some.injEq]at h;subst h;rw[List.filter_cons];by_cases hy:y.id<id
   ·simp[hy]
   ·have:l.filter (fun x=>decide (x.id<id))=[]:=by
     rw[List.filter_eq_nil_iff];intro z hz;have:=hp.1 z hz;simp;omega
    simp[hy,this]
  |succ i=>
   simp only[List.getElem?_cons_succ]at h;have:=ih hp.2 i x h;rw[List.filter_cons];by_cases hy:y.id<id
   ·simp[hy];rw[this];exact Iff.rfl
   ·have hx:y.id<x.id:=hp.1 x (List.mem_of_getElem? h)
    have h0:l.filter (fun x=>decide (x.id<id))=[]:=by
     rw[List.filter_eq_nil_iff];intro z hz;have:=hp.1 z hz;simp;omega
    simp[hy,h0];omega
theorem placeL_le (l:List ConnL) (id:Nat):placeL l id≤l.length:=List.length_filter_le _ _
theorem place_of {l:List ConnL} (hp:l.Pairwise fun x y=>x.id<y.id) {i:Nat} {x:ConnL} (h:l[i]?=some x):placeL l x.id=i:=by
 have h1:=place_split hp x.id i x h;have h2:=placeL_le l x.id;have h3:=(List.getElem?_eq_some_iff.1 h).1;rcases Nat.lt_trichotomy (placeL l x.id) i with hlt|he|hgt
 ·obtain⟨y,hy⟩:∃y,l[placeL l x.id]?=some y:=⟨_,List.getElem?_eq_getElem (by omega)⟩
  have h4:=place_split hp x.id _ y hy;have h5:y.id<x.id:=by
   have:=List.pairwise_iff_getElem.1 hp (placeL l x.id) i (by omega) h3 hlt;rw[List.getElem?_eq_getElem (by omega)]at hy h
   cases hy;cases h
   exact this
  omega
 ·exact he
 ·omega
theorem found_of {l:List ConnL} (hp:l.Pairwise fun x y=>x.id<y.id) {i:Nat} {x:ConnL} (h:l[i]?=some x):foundL l x.id=true:=by
 unfold foundL;rw[place_of hp h,h];simp
end Go.Proofs.YtpkoodnbkffpoaaGreatDoor
