/- Connections, plain: what holds of them whatever is taken and given. -/
import Derived.Test.YtpkoodnbkffpoaaGreatDoorConnMath
set_option linter.unusedVariables false
set_option linter.unusedSimpArgs false
set_option maxHeartbeats 16000000
namespace Go.Proofs.YtpkoodnbkffpoaaGreatDoor
structure Inv (S:ConnsL) (mine:List Nat) (n:Nat):Prop where
 so:Sorted S
 len:S.l.length≤32
 many:∀k,manyL k S.l≤6
 nd:mine.Nodup
 has:∀m∈mine,∃x∈S.l,x.id=m∧x.given= -1
 next:S.next≤n
 giv:∀x∈S.l, -1≤x.given∧x.given≤1000000
theorem inv_nil:Inv ⟨[],0⟩ [] 0:=⟨⟨List.Pairwise.nil,by simp⟩,by simp,fun _=>by simp[manyL],List.nodup_nil,by simp,Nat.le_refl _,by simp⟩
theorem same_of_id {l:List ConnL} (hp:l.Pairwise fun x y=>x.id<y.id) {x y:ConnL} (hx:x∈l) (hy:y∈l) (h:x.id=y.id):x=y:=by
 obtain⟨i,hi⟩:=List.getElem?_of_mem hx;obtain⟨j,hj⟩:=List.getElem?_of_mem hy;have h1:=place_of hp hi;have h2:=place_of hp hj;rw[h,h2]at h1;subst h1;rw[hi]at hj
 cases hj
 rfl
theorem key_of {S:ConnsL} (hs:Sorted S) {i:Nat} {x:ConnL} (h:S.l[i]?=some x):keyR S x.id=(x.key,true):=by
 unfold keyR;rw[if_pos (found_of hs.inc h),place_of hs.inc h,h]
theorem filter_erase (p:ConnL→Bool):∀(l:List ConnL) (i:Nat) (x:ConnL),l[i]?=some x→p x=true→((l.eraseIdx i).filter p).length+1=(l.filter p).length
 |[],i,x,h,_=>by simp at h
 |y::l,0,x,h,hp=>by
  simp only[List.getElem?_cons_zero,Option.some.injEq]at h;subst h;simp[hp]
 |y::l,i+1,x,h,hp=>by
  have:=filter_erase p l i x (by simpa using h) hp;rw[List.eraseIdx_cons_succ,List.filter_cons,List.filter_cons];split
  ·simp only[List.length_cons];omega
  ·exact this
theorem manyL_sub {k:KeyL} {l m:List ConnL} (h:l.Sublist m):manyL k l≤manyL k m:=(h.filter _).length_le
theorem manyL_snoc (k:KeyL) (l:List ConnL) (x:ConnL):manyL k (l++[x])=manyL k l+(if x.key=k then 1 else 0):=by
 unfold manyL mineB;rw[List.filter_append,List.length_append];congr 1;simp only[List.filter_cons,List.filter_nil];by_cases h:x.key=k<;>simp[h]
theorem goes_cases {S:ConnsL} {k:KeyL} {c:Option Nat} (h:goesC S k=some c) (hm:manyL k S.l≤6) (hl:S.l.length≤32):
 (c=none∧manyL k S.l≤5∧S.l.length≤31)∨∃i x,c=some i∧S.l[i]?=some x∧keptB x=true∧(x.key=k∨manyL k S.l≤5):=by
 unfold goesC at h
 split at h
 ·rename_i h6
  cases he:eldL (mineB k) S.l with
  |none=>rw[he]at h;cases h
  |some i=>
   rw[he]at h;cases h;obtain⟨_,x,h1,h2⟩:=bestN_some he;rw[Bool.and_eq_true]at h2;exact .inr ⟨i,x,rfl,h1,h2.1, .inl (by simpa[mineB]using h2.2)⟩
 ·split at h
  ·cases he:eldL (fun _=>true) S.l with
   |none=>rw[he]at h;cases h
   |some i=>
    rw[he]at h;cases h;obtain⟨_,x,h1,h2⟩:=bestN_some he;rw[Bool.and_eq_true]at h2;exact .inr ⟨i,x,rfl,h1,h2.1, .inr (by omega)⟩
  ·cases h
   exact .inl ⟨rfl,by omega,by omega⟩
theorem add_inv {S:ConnsL} {mine:List Nat} {n:Nat} {k:KeyL} {c:Option Nat} (H:Inv S mine n) (h:goesC S k=some c):
 keyR (addL S c k) S.next=(k,true)∧S.next∉mine∧Inv (addL S c k) (mine++[S.next]) (n+1):=by
 have hso:=H.so.add c k
 have hg:=goes_cases h (H.many k) H.len
 obtain⟨l',hl'⟩:∃l',dropO S.l c=l':=⟨_,rfl⟩
 have hsub:l'.Sublist S.l:=by rw[←hl'];exact dropO_sub _ _
 have hadd:addL S c k=⟨l'++[⟨S.next,k, -1⟩],S.next+1⟩:=by unfold addL;rw[←hl']
 rw[hadd]at hso⊢
 have hlast:(l'++[(⟨S.next,k, -1⟩:ConnL)])[l'.length]?=some ⟨S.next,k, -1⟩:=by simp
 have hnot:S.next∉mine:=fun hm=>by
  obtain⟨x,hx,he,_⟩:=H.has _ hm;have:=H.so.lt x hx;omega
 refine⟨key_of (S:=⟨l'++[⟨S.next,k, -1⟩],S.next+1⟩) hso hlast,hnot,hso, ?_,fun k'=> ?_, ?_,fun m hm=> ?_, ?_,fun x hx=> ?_⟩
 ·have h0:=hsub.length_le
  show(l'++[_]).length≤32;rw[List.length_append,List.length_singleton];rcases hg with ⟨rfl,_,h2⟩|⟨i,x,rfl,h1,_⟩
  ·omega
  ·have:l'.length=S.l.length-1:=by rw[←hl'];exact List.length_eraseIdx_of_lt (List.getElem?_eq_some_iff.1 h1).1
   have:=(List.getElem?_eq_some_iff.1 h1).1;have:=H.len;omega
 ·show manyL k' (l'++[_])≤6
  rw[manyL_snoc];have h0:=manyL_sub (k:=k') hsub;have h1:=H.many k';by_cases hk:k=k'
  ·subst hk
   rw[if_pos rfl];rcases hg with ⟨rfl,h2,_⟩|⟨i,x,rfl,hx,_,hx2|hx2⟩
   ·omega
   ·have:=filter_erase (mineB k) S.l i x hx (by simpa[mineB]using hx2)
    have he:manyL k l'+1=manyL k S.l:=by rw[←hl'];exact this
    omega
   ·omega
  ·rw[if_neg hk]
   omega
 ·rw[List.nodup_append]
  exact⟨H.nd,by simp,fun a ha b hb=>by simp only[List.mem_singleton]at hb;subst hb;intro e;subst e;exact hnot ha⟩
 ·rcases List.mem_append.1 hm with hm|hm
  ·obtain⟨x,hx,h1,h2⟩:=H.has m hm
   refine⟨x,List.mem_append_left _ ?_,h1,h2⟩;rw[←hl']
   cases c with
   |none=>exact hx
   |some i=>
    show x∈S.l.eraseIdx i;obtain⟨j,hj⟩:=List.getElem?_of_mem hx;refine List.mem_eraseIdx_iff_getElem?.2 ⟨j,fun e=> ?_,hj⟩;rcases hg with ⟨e2,_⟩|⟨i2,y,e2,hy,hk,_⟩
    ·cases e2
    ·cases e2
     subst e;rw[hj]at hy
     cases hy
     rw[keptB,h2]at hk;exact absurd hk (by decide)
  ·simp only[List.mem_singleton]at hm
   subst hm;exact⟨⟨S.next,k, -1⟩,by simp,rfl,rfl⟩
 ·have:=H.next
  show S.next+1≤n+1;omega
 ·rcases List.mem_append.1 hx with hx|hx
  ·exact H.giv x (hsub.subset hx)
  ·simp only[List.mem_singleton]at hx
   subst hx;exact⟨by show(-1:Int)≤ -1;omega,by show(-1:Int)≤1000000;omega⟩
theorem setG_mem {l:List ConnL} {i:Nat} {n:Int} {y:ConnL} (h:y∈setG l i n):∃x∈l,y.id=x.id∧(y.given=n∨y=x):=by
 obtain⟨j,hj⟩:=List.getElem?_of_mem h;obtain⟨x,h1,h2,_,h3,h4⟩:=setG_get hj;refine⟨x,List.mem_of_getElem? h1,h2, ?_⟩;by_cases e:j=i
 ·exact .inl (h3 e)
 ·exact .inr (h4 e)
theorem take_inv {S S1:ConnsL} {mine:List Nat} {n id:Nat} {k:KeyL} {now e:Int} {f:Bool} (H:Inv S mine n) (h:takeR S k now=((id,f,e),S1)):
 (e=0∧keyR S1 id=(k,true)∧id∉mine∧Inv S1 (mine++[id]) (n+1))∨(e=12∧S1=S):=by
 unfold takeR at h
 split at h
 ·rename_i a x hb
  cases h
  rw[Option.bind_eq_some_iff]at hb;obtain⟨a',h1,h2⟩:=hb;obtain⟨x',h3,h4⟩:=Option.map_eq_some_iff.1 h2
  cases h4
  obtain⟨_,x2,h5,h6⟩:=bestN_some h1;rw[h3]at h5
  cases h5
  rw[Bool.and_eq_true,Bool.and_eq_true]at h6;obtain⟨⟨hm,hk⟩,_⟩:=h6;have hkey:x.key=k:=by simpa[mineB]using hm
  have hgv:0≤x.given:=by simpa[keptB]using hk
  have hso:=H.so.setG a (-1);obtain⟨y,hy,hyi,hyk,hyg,_⟩:=setG_get2 (i:=a) (n:= -1) h3;have hyg:=hyg rfl;have hko:=key_of hso (i:=a) (x:=y) hy;rw[hyi,hyk,hkey]at hko;have hnot:x.id∉mine:=fun hm=>by
   obtain⟨z,hz,h1,h2⟩:=H.has _ hm;have:=same_of_id H.so.inc hz (List.mem_of_getElem? h3) h1;subst this;omega
  refine .inl ⟨rfl,hko,hnot,hso, ?_,fun k'=> ?_, ?_,fun m hm=> ?_,Nat.le_succ_of_le H.next,fun z hz=> ?_⟩
  ·show(setG S.l a (-1)).length≤32
   rw[setG_len];exact H.len
  ·show manyL k' (setG S.l a (-1))≤6
   rw[manyL_setG];exact H.many k'
  ·rw[List.nodup_append]
   exact⟨H.nd,by simp,fun a ha b hb=>by simp only[List.mem_singleton]at hb;subst hb;intro e;subst e;exact hnot ha⟩
  ·rcases List.mem_append.1 hm with hm|hm
   ·obtain⟨z,hz,h1,h2⟩:=H.has m hm
    obtain⟨j,hj⟩:=List.getElem?_of_mem hz;obtain⟨v,hv,hvi,_,hv1,hv2⟩:=setG_get2 (i:=a) (n:= -1) hj;refine⟨v,List.mem_of_getElem? hv,by rw[hvi];exact h1, ?_⟩;by_cases e:j=a
    ·exact hv1 e
    ·rw[hv2 e];exact h2
   ·simp only[List.mem_singleton]at hm
    subst hm;exact⟨y,List.mem_of_getElem? hy,hyi,hyg⟩
  ·obtain⟨v,hv,_,h1|h1⟩:=setG_mem hz
   ·rw[h1];omega
   ·rw[h1];exact H.giv v hv
 ·split at h
  ·cases h;exact .inr ⟨rfl,rfl⟩
  ·rename_i c hc
   cases h
   obtain⟨h1,h2,h3⟩:=add_inv H hc;exact .inl ⟨rfl,h1,h2,h3⟩
theorem take_bounds {S S1:ConnsL} {mine:List Nat} {n id:Nat} {k:KeyL} {now e:Int} {f:Bool} (H:Inv S mine n) (h:takeR S k now=((id,f,e),S1)):id≤n:=by
 unfold takeR at h;split at h
 ·rename_i a x hb
  cases h
  rw[Option.bind_eq_some_iff]at hb;obtain⟨a',h1,h2⟩:=hb;obtain⟨x',h3,h4⟩:=Option.map_eq_some_iff.1 h2
  cases h4
  have:=H.so.lt x (List.mem_of_getElem? h3);have:=H.next;omega
 ·split at h
  ·cases h;omega
  ·cases h;exact H.next
theorem erase_nodup {mine:List Nat} {i m:Nat} (hd:mine.Nodup) (h:mine[i]?=some m):m∉mine.take i++mine.drop (i+1)∧(mine.take i++mine.drop (i+1)).Nodup∧∀x∈mine.take i++mine.drop (i+1),x∈mine:=by
 have he:mine.take i++mine.drop (i+1)=mine.eraseIdx i:=List.eraseIdx_eq_take_drop_succ mine i|>.symm
 rw[he];have hi:=(List.getElem?_eq_some_iff.1 h).1;have hsub:=List.eraseIdx_sublist (l:=mine) (k:=i);refine⟨fun hm=> ?_,hd.sublist hsub,fun x hx=>hsub.subset hx⟩;obtain⟨j,hj,hj2⟩:=List.mem_eraseIdx_iff_getElem?.1 hm;obtain⟨h1,h2⟩:=List.getElem?_eq_some_iff.1 hj2;obtain⟨h3,h4⟩:=List.getElem?_eq_some_iff.1 h;rcases Nat.lt_or_gt_of_ne hj with hlt|hlt
 ·exact List.pairwise_iff_getElem.1 hd j i h1 h3 hlt (by rw[h2,h4])
 ·exact List.pairwise_iff_getElem.1 hd i j h3 h1 hlt (by rw[h2,h4])
theorem give_inv {S:ConnsL} {mine:List Nat} {n m i:Nat} {now:Int} (H:Inv S mine n) (hm:mine[i]?=some m) (h0:0≤now) (h1:now≤1000000):
 ∃S1,giveR S m now=(0,S1)∧giveR S1 m now=(14,S1)∧Inv S1 (mine.take i++mine.drop (i+1)) n:=by
 obtain⟨x,hx,hid,hg⟩:=H.has m (List.mem_of_getElem? hm)
 obtain⟨j,hj⟩:=List.getElem?_of_mem hx
 subst hid
 have hf:=found_of H.so.inc hj
 have hp:=place_of H.so.inc hj
 have hk:keptB x=false:=by rw[keptB,hg];rfl
 have hso:=H.so.setG j now
 obtain⟨y,hy,hyi,hyk,hyg,_⟩:=setG_get2 (i:=j) (n:=now) hj
 have hyg:=hyg rfl
 have hf2:=found_of hso.inc (i:=j) (x:=y) hy
 have hp2:=place_of hso.inc (i:=j) (x:=y) hy
 rw[hyi]at hf2 hp2
 have hk2:keptB y=true:=by rw[keptB,hyg];exact decide_eq_true h0
 obtain⟨hn1,hn2,hn3⟩:=erase_nodup H.nd hm
 refine⟨⟨setG S.l j now,S.next⟩, ?_, ?_,hso, ?_,fun k'=> ?_,hn2,fun v hv=> ?_,H.next,fun z hz=> ?_⟩
 ·unfold giveR
  rw[if_pos hf,hp,show keptAt S.l j=false by unfold keptAt;rw[hj];exact hk];rfl
 ·unfold giveR
  rw[if_pos hf2,show keptAt _ (placeL _ _)=true by rw[hp2];unfold keptAt;rw[hy];exact hk2];rfl
 ·show(setG S.l j now).length≤32
  rw[setG_len];exact H.len
 ·show manyL k' (setG S.l j now)≤6
  rw[manyL_setG];exact H.many k'
 ·obtain⟨z,hz,h2,h3⟩:=H.has v (hn3 v hv)
  obtain⟨q,hq⟩:=List.getElem?_of_mem hz;obtain⟨u,hu,hui,_,_,hu2⟩:=setG_get2 (i:=j) (n:=now) hq;have hne:q≠j:=fun e=>by
   subst e;rw[hq]at hj
   cases hj
   rw[h2]at hn1;exact hn1 hv
  exact⟨u,List.mem_of_getElem? hu,by rw[hui];exact h2,by rw[hu2 hne];exact h3⟩
 ·obtain⟨v,hv,_,h2|h2⟩:=setG_mem hz
  ·rw[h2];omega
  ·rw[h2];exact H.giv v hv
theorem nodup_le {l m:List Nat}:∀(hd:l.Nodup) (h:∀x∈l,x∈m),l.length≤m.length:=by
 induction l generalizing m with
 |nil=>intro _ _;exact Nat.zero_le _
 |cons x l ih=>
  intro hd h;rw[List.nodup_cons]at hd;have hx:x∈m:=h x (List.mem_cons_self ..);have:=ih (m:=m.erase x) hd.2 (fun y hy=>(List.mem_erase_of_ne (fun e=>hd.1 (by rw[←e];exact hy))).2 (h y (List.mem_cons_of_mem _ hy)));rw[List.length_erase_of_mem hx]at this;have:=List.length_pos_of_mem hx;simp only[List.length_cons];omega
theorem mine_le {S:ConnsL} {mine:List Nat} {n:Nat} (H:Inv S mine n):mine.length≤(S.l.map (·.id)).length:=nodup_le H.nd fun m hm=>by
 obtain⟨x,hx,h,_⟩:=H.has m hm;exact List.mem_map.2 ⟨x,hx,h⟩
theorem many_take (k:KeyL) (l:List ConnL) {j:Nat} {x:ConnL} (h:l[j]?=some x):manyL k (l.take (j+1))=manyL k (l.take j)+(if x.key=k then 1 else 0):=by
 obtain⟨hj,hx⟩:=List.getElem?_eq_some_iff.1 h;rw[List.take_succ_eq_append_getElem hj,manyL_snoc,hx]
end Go.Proofs.YtpkoodnbkffpoaaGreatDoor
