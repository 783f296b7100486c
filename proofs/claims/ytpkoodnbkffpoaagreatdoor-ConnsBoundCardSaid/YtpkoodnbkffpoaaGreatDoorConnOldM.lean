/- Connections, plain: some taken, some of these given, the old ones closed; the chapter's. -/
import Derived.Test.YtpkoodnbkffpoaaGreatDoorConnMath
set_option linter.unusedVariables false
set_option linter.unusedSimpArgs false
set_option maxHeartbeats 16000000
namespace Go.Proofs.YtpkoodnbkffpoaaGreatDoor
def hostN (c:Nat):List UInt8:=[UInt8.ofNat c,46,116,101,115,116]
def keyB (n:Nat):KeyL:=⟨decide (n % 2=1),hostN (97+n % 9),((80+n % 3:Nat):Int)⟩
def keyO (i:Nat):KeyL:=⟨false,hostN (97+i),80⟩
def keyA:KeyL:=⟨true,[97,46,116,101,115,116],443⟩
theorem host_ne {i j:Nat} (hi:i<20) (hj:j<20) (h:i≠j):hostN (97+i)≠hostN (97+j):=fun e=>by
 unfold hostN at e;injection e with e;have:=congrArg UInt8.toNat e;simp at this;omega
def stO (m:Nat) (g:Nat→Bool):ConnsL:=⟨(List.range m).map fun j=>⟨j,keyO j,if g j then 7 else -1⟩,m⟩
theorem stO_get {m:Nat} {g:Nat→Bool} {j:Nat} (h:j<m):(stO m g).l[j]?=some ⟨j,keyO j,if g j then 7 else -1⟩:=by simp[stO,h]
theorem stO_sorted (m:Nat) (g:Nat→Bool):Sorted (stO m g):=by
 refine⟨?_,fun x hx=> ?_⟩
 ·show List.Pairwise _ (List.map _ _)
  rw[List.pairwise_map];exact List.pairwise_lt_range
 ·obtain⟨j,hj,rfl⟩:=List.mem_map.1 hx
  exact List.mem_range.1 hj
theorem bestN_empty {q:ConnL→Bool} {b:ConnL→ConnL→Bool} {l:List ConnL} (h:∀x∈l,q x=false):∀n,bestN q b l n=none:=fun n=>by
 cases e:bestN q b l n with
 |none=>rfl
 |some a=>
  obtain⟨_,x,h1,h2⟩:=bestN_some e;rw[h x (List.mem_of_getElem? h1)]at h2
  cases h2
theorem stO_mem {m:Nat} {g:Nat→Bool} {x:ConnL} (h:x∈(stO m g).l):∃j,j<m∧x=⟨j,keyO j,if g j then 7 else -1⟩:=by
 obtain⟨j,hj,rfl⟩:=List.mem_map.1 h;exact⟨j,List.mem_range.1 hj,rfl⟩
theorem stO_take {i:Nat} (hi:i<20):takeR (stO i fun _=>false) (keyO i) 0=((i,true,0),stO (i+1) fun _=>false):=by
 have h1:freeL (keyO i) 0 (stO i fun _=>false).l=none:=bestN_empty (fun x hx=>by
  obtain⟨j,hj,rfl⟩:=stO_mem hx;simp[keptB]) _
 have h2:manyL (keyO i) (stO i fun _=>false).l=0:=by
  unfold manyL;rw[List.length_eq_zero_iff,List.filter_eq_nil_iff];intro x hx;obtain⟨j,hj,rfl⟩:=stO_mem hx;simp only[mineB,decide_eq_true_eq];intro e;unfold keyO at e;injection e with _ e;exact host_ne (by omega) hi (by omega) e
 have h3:goesC (stO i fun _=>false) (keyO i)=some none:=by
  unfold goesC;rw[h2,if_neg (by omega),if_neg (by simp[stO];omega)]
 unfold takeR;rw[h1,h3];simp[addL,dropO,stO,List.range_succ]
theorem stO_give {m id:Nat} {g:Nat→Bool} (hi:id<m) (hg:g id=false):giveR (stO m g) id 7=(0,stO m fun j=>g j||j==id):=by
 have h:=stO_get (g:=g) hi;have hf:=found_of (stO_sorted m g).inc h;have hp:=place_of (stO_sorted m g).inc h;dsimp only at hf hp;unfold giveR;rw[if_pos hf,hp,show keptAt (stO m g).l id=false by unfold keptAt;rw[h];simp[keptB,hg]];simp only[Bool.false_eq_true,if_false];congr 1;show ConnsL.mk _ m=ConnsL.mk _ m;congr 1;apply List.ext_getElem?;intro j;by_cases hj:j<m
 ·obtain⟨y,h1,h2,h3,h4,h5⟩:=setG_get2 (i:=id) (n:=7) (stO_get (g:=g) hj)
  rw[h1];have h6:=stO_get (g:=fun j=>g j||j==id) hj;unfold stO at h6;dsimp only at h6;rw[h6];congr 1;by_cases e:j=id
  ·have h4:=h4 e
   subst e;obtain⟨yi,yk,yg⟩:=y;dsimp only at h2 h3 h4;subst h2 h3 h4;simp
  ·rw[h5 e]
   simp[e]
 ·rw[List.getElem?_eq_none_iff.2 (by rw[setG_len];simp[stO];omega),List.getElem?_eq_none_iff.2 (by simp;omega)]
theorem stO_none (m:Nat) (g:Nat→Bool):oldR (stO m g) 307=([],stO m g):=by
 have h:∀x∈(stO m g).l,oldB 307 x=false:=fun x hx=>by
  obtain⟨j,hj,rfl⟩:=stO_mem hx;by_cases hg:g j<;>simp[oldB,keptB,idleB,hg]
 unfold oldR numsL;rw[show(stO m g).l.filter (oldB 307)=[]by rw[List.filter_eq_nil_iff];intro x hx;rw[h x hx];simp];rw[show(stO m g).l.filter (fun x=> !oldB 307 x)=(stO m g).l by rw[List.filter_eq_self];intro x hx;rw[h x hx];rfl];rfl
theorem stO_old (m:Nat) (g:Nat→Bool):(oldR (stO m g) 308).1=(List.range m).filter g∧(oldR (stO m g) 308).2.l.map (·.id)=(List.range m).filter (fun j=> !g j):=by
 have h:∀j,oldB 308 ⟨j,keyO j,if g j then 7 else -1⟩=g j:=fun j=>by
  by_cases hg:g j<;>simp[oldB,keptB,idleB,hg]
 unfold oldR numsL stO;dsimp only;constructor
 ·rw[List.filter_map,List.map_map]
  rw[show(oldB 308∘fun j=>(⟨j,keyO j,if g j then 7 else -1⟩:ConnL))=g from funext h];rw[show((fun x=>x.id)∘fun j=>(⟨j,keyO j,if g j then 7 else -1⟩:ConnL))=id from rfl,List.map_id]
 ·rw[List.filter_map,List.map_map]
  rw[show((fun x=> !oldB 308 x)∘fun j=>(⟨j,keyO j,if g j then 7 else -1⟩:ConnL))=(fun j=> !g j)from funext fun j=>by show(!oldB 308 _)=_;rw[h]];rw[show((fun x=>x.id)∘fun j=>(⟨j,keyO j,if g j then 7 else -1⟩:ConnL))=id from rfl,List.map_id]
def al0:ConnsL:=⟨[],0⟩
def al1:ConnsL:=⟨[⟨0,keyA, -1⟩],1⟩
def al2:ConnsL:=⟨[⟨0,keyA,6⟩],1⟩
def al3:ConnsL:=⟨[⟨0,keyA, -1⟩,⟨1,keyA, -1⟩],2⟩
def al4:ConnsL:=⟨[⟨0,keyA,8⟩,⟨1,keyA, -1⟩],2⟩
def al5:ConnsL:=⟨[⟨0,keyA,8⟩,⟨1,keyA, -1⟩,⟨2,keyA, -1⟩],3⟩
def al6:ConnsL:=⟨[⟨1,keyA, -1⟩,⟨2,keyA, -1⟩],3⟩
theorem al_1:takeR al0 keyA 5=((0,true,0),al1):=by rfl
theorem al_2:giveR al1 0 6=(0,al2):=by rfl
theorem al_3:takeR al2 keyA 7=((0,false,0),al1):=by rfl
theorem al_4:takeR al1 keyA 7=((1,true,0),al3):=by rfl
theorem al_5:giveR al3 0 8=(0,al4):=by rfl
theorem al_6:takeR al4 keyA 309=((2,true,0),al5):=by rfl
theorem al_7:oldR al5 309=([0],al6):=by rfl
theorem al_8:foundL al6.l 0=false:=by rfl
theorem al_9:keyR al6 1=(keyA,true):=by rfl
end Go.Proofs.YtpkoodnbkffpoaaGreatDoor
