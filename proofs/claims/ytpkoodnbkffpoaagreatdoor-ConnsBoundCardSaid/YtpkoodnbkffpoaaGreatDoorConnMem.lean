/- A row that a call made, changed in place: a run of cells stored; a thing taken out, others kept. -/
import Derived.Test.YtpkoodnbkffpoaaGreatDoorGRow
import Derived.Deep.RegionLaw
set_option linter.unusedVariables false
set_option linter.unusedSimpArgs false
set_option maxHeartbeats 16000000
namespace Go.Proofs.YtpkoodnbkffpoaaGreatDoor
open Go.RowKit
theorem setCells_same {g:Nat} {t:TypeId}:∀(vs:List Value) (o:Nat) (w:World) (cur:Array Value),w.heap[g]?=some (.cells cur t (0,0))→o+vs.length≤cur.size→
 (w.setCells g o vs).heap[g]?=some (.cells (cur.toList.take o++vs++cur.toList.drop (o+vs.length)).toArray t (0,0))
 |[],o,w,cur,hg,hl=>by
  show w.heap[g]?=_;simp[hg]
 |v::r,o,w,cur,hg,hl=>by
  rw[List.length_cons]at hl;have h1:=heap_setCell_same w g o cur t v hg;show((w.setCell ⟨g,o,none⟩ v).setCells g (o+1) r).heap[g]?=_;rw[setCells_same r (o+1) _ _ h1 (by simp;omega)];have e:=list_seg_step cur.toList o v r (by simp;omega);congr 3;simpa[Array.toList_setIfInBounds,Nat.add_assoc,Nat.add_comm 1]using e
theorem setCells_size (g:Nat):∀(vs:List Value) (o:Nat) (w:World),(w.setCells g o vs).heap.size=w.heap.size
 |[],_,_=>rfl
 |v::r,o,w=>by show((w.setCell _ v).setCells g (o+1) r).heap.size=_;rw[setCells_size g r];simp[World.setCell]
theorem setCells_grown (g:Nat):∀(vs:List Value) (o:Nat) (w:World),w.grownBy (w.setCells g o vs) (some g)
 |[],_,w=>grown_refl w _
 |v::r,o,w=>grown_trans2 (b:=w.setCell ⟨g,o,none⟩ v) ⟨rfl,rfl,rfl,by simp[World.setCell],fun k hk hne=>heap_setCell_other w ⟨g,o,none⟩ k v (fun e=>hne (by rw[e]))⟩ (setCells_grown g r (o+1) _)
theorem own_cut {w:World} {base:Nat} {e:TypeId} {z g n m cap o:Nat} {xs ys vs:List Value} (h:w.ownsRow base e z (.slice (some ⟨g,0,none⟩) n cap) n xs) (hm:m≤cap) (hl:o+vs.length≤cap*z) (hy:ys.length=m*z)
 (hyo:∀cur:List Value,cur.length=cap*z→cur.take (n*z)=xs→(cur.take o++vs++cur.drop (o+vs.length)).take (m*z)=ys):
 (w.setCells g o vs).ownsRow base e z (.slice (some ⟨g,0,none⟩) m cap) m ys:=by
 obtain⟨h1,h2⟩:=h
 refine⟨hy, .inr ?_⟩
 rcases h2 with ⟨h3,_⟩|⟨g',c',cur,h3,hb,hg,hc,hcm,hs,ht⟩
 ·cases h3
 ·simp only[Value.slice.injEq,Option.some.injEq,Addr.mk.injEq,and_true,true_and]at h3
  obtain⟨rfl,rfl⟩:=h3;refine⟨g,cap,_,rfl,hb,setCells_same vs o w cur hg (by rw[hs];exact hl),hm,hcm, ?_, ?_⟩
  ·simp only[List.size_toArray,List.length_append,List.length_take,List.length_drop,Array.length_toList]
   rw[hs];omega
  ·have:=hyo cur.toList (by rw[Array.length_toList];exact hs) ht
   simpa using this
theorem own_less {w:World} {base:Nat} {e:TypeId} {z g n m cap:Nat} {xs:List Value} (h:w.ownsRow base e z (.slice (some ⟨g,0,none⟩) n cap) n xs) (hm:m≤n):w.ownsRow base e z (.slice (some ⟨g,0,none⟩) m cap) m (xs.take (m*z)):=by
 obtain⟨h1,h2⟩:=h;have hmz:m*z≤n*z:=Nat.mul_le_mul_right _ hm;refine⟨by rw[List.length_take,h1];omega, .inr ?_⟩;rcases h2 with ⟨h3,_⟩|⟨g',c',cur,h3,hb,hg,hc,hcm,hs,ht⟩
 ·cases h3
 ·simp only[Value.slice.injEq,Option.some.injEq,Addr.mk.injEq,and_true,true_and]at h3
  obtain⟨rfl,rfl⟩:=h3;exact⟨g,cap,cur,rfl,hb,hg,by omega,hcm,hs,by rw[←ht,List.take_take,Nat.min_eq_left hmz]⟩
theorem flatS_take {α:Type} {z:Nat} {en:α→List Value} (hen:∀x,(en x).length=z):∀(X:List α) (m:Nat),(X.flatMap en).take (m*z)=(X.take m).flatMap en
 |[],m=>by simp
 |x::X,0=>by simp
 |x::X,m+1=>by
  rw[List.flatMap_cons,List.take_succ_cons,List.flatMap_cons,List.take_append,hen,List.take_of_length_le (by rw[hen,Nat.add_mul];omega),show(m+1)*z-z=m*z by rw[Nat.add_mul];omega,flatS_take hen X m]
theorem flatS_drop {α:Type} {z:Nat} {en:α→List Value} (hen:∀x,(en x).length=z):∀(X:List α) (m:Nat),(X.flatMap en).drop (m*z)=(X.drop m).flatMap en
 |[],m=>by simp
 |x::X,0=>by simp
 |x::X,m+1=>by
  rw[List.flatMap_cons,List.drop_succ_cons,List.drop_append,hen,List.drop_of_length_le (by rw[hen,Nat.add_mul];omega),show(m+1)*z-z=m*z by rw[Nat.add_mul];omega,flatS_drop hen X m,List.nil_append]
theorem flatS_set {α:Type} {z:Nat} {en:α→List Value} (hen:∀x,(en x).length=z):∀(X:List α) (k:Nat) (y:α) (hk:k<X.length) (j:Nat) (u:Value),j<z→(en X[k]).set j u=en y→(X.flatMap en).set (k*z+j) u=(X.set k y).flatMap en
 |x::X,0,y,_,j,u,hj,h=>by
  have h:(en x).set j u=en y:=h;rw[List.flatMap_cons,Nat.zero_mul,Nat.zero_add,List.set_append_left _ _ (by rw[hen];exact hj),h];rfl
 |x::X,k+1,y,hk,j,u,hj,h=>by
  rw[List.flatMap_cons,List.set_append_right _ _ (by rw[hen,Nat.add_mul];omega),hen,show(k+1)*z+j-z=k*z+j by rw[Nat.add_mul];omega,flatS_set hen X k y (by simpa using hk) j u hj h];rfl
theorem own_drop {α:Type} {en:α→List Value} {w:World} {base:Nat} {e:TypeId} {z g cap i:Nat} {X:List α} (hen:∀x,(en x).length=z) (h:w.ownsRow base e z (.slice (some ⟨g,0,none⟩) X.length cap) X.length (X.flatMap en)) (hi:i<X.length) (zs:List Value) (hz:zs.length=z):
 ((w.setCells g (i*z) ((X.drop (i+1)).flatMap en)).setCells g ((X.length-1)*z) zs).ownsRow base e z (.slice (some ⟨g,0,none⟩) (X.length-1) cap) (X.length-1) ((X.eraseIdx i).flatMap en):=by
 have hX:X.length≤cap:=by
  rcases h.2 with ⟨h3,_⟩|⟨g',c',cur,h3,hb,hg,hc,hcm,hs,ht⟩
  ·cases h3
  ·simp only[Value.slice.injEq,Option.some.injEq,Addr.mk.injEq,and_true,true_and]at h3
   omega
 have he:X.eraseIdx i=X.take i++X.drop (i+1):=List.eraseIdx_eq_take_drop_succ X i
 have hel:(X.eraseIdx i).length=X.length-1:=List.length_eraseIdx_of_lt hi
 have hln:((X.drop (i+1)).flatMap en).length=(X.length-(i+1))*z:=by rw[flatS_len hen,List.length_drop]
 have hsum:i*z+(X.length-(i+1))*z=(X.length-1)*z:=by rw[←Nat.add_mul];congr 1;omega
 have hle:(X.length-1)*z≤cap*z:=Nat.mul_le_mul_right _ (by omega)
 have hle2:(X.length-1)*z+z≤cap*z:=by
  have:(X.length-1)*z+z=X.length*z:=by rw[←Nat.succ_mul];congr 1;omega
  rw[this];exact Nat.mul_le_mul_right _ hX
 have h1:(w.setCells g (i*z) ((X.drop (i+1)).flatMap en)).ownsRow base e z (.slice (some ⟨g,0,none⟩) (X.length-1) cap) (X.length-1) ((X.eraseIdx i).flatMap en):=by
  refine own_cut h (by omega) (by rw[hln];omega) (by rw[flatS_len hen,hel]) fun cur hc ht=> ?_
  have hti:cur.take (i*z)=(X.take i).flatMap en:=by
   rw[←flatS_take hen X i,←ht,List.take_take,Nat.min_eq_left (Nat.mul_le_mul_right _ (by omega))]
  rw[hti,he,List.flatMap_append,List.take_append,List.take_of_length_le (by rw[List.length_append,flatS_len hen,hln,List.length_take,Nat.min_eq_left (by omega)];omega)];rw[List.length_append,flatS_len hen,hln,List.length_take,Nat.min_eq_left (by omega),hsum,Nat.sub_self,List.take_zero,List.append_nil]
 exact own_cut h1 (by omega) (by omega) (by rw[flatS_len hen,hel]) fun cur hc ht=>by
  rw[List.append_assoc,List.take_append,List.length_take,hc,Nat.min_eq_left hle,Nat.sub_self,List.take_zero,List.append_nil,List.take_take,Nat.min_self,ht]
theorem own_clear {w:World} {base:Nat} {e:TypeId} {z g n m cap:Nat} {xs vs:List Value} (h:w.ownsRow base e z (.slice (some ⟨g,0,none⟩) n cap) n xs) (hm:m≤n) (hl:m*z+vs.length≤cap*z):
 (w.setCells g (m*z) vs).ownsRow base e z (.slice (some ⟨g,0,none⟩) m cap) m (xs.take (m*z)):=by
 have hmn:m*z≤n*z:=Nat.mul_le_mul_right _ hm
 have hX:n≤cap:=by
  rcases h.2 with ⟨h3,_⟩|⟨g',c',cur,h3,hb,hg,hc,hcm,hs,ht⟩
  ·cases h3
  ·simp only[Value.slice.injEq,Option.some.injEq,Addr.mk.injEq,and_true,true_and]at h3
   omega
 refine own_cut h (by omega) hl (by rw[List.length_take,h.1];omega) fun cur hc ht=> ?_
 rw[List.append_assoc,List.take_append,List.length_take,hc,Nat.min_eq_left (by omega),Nat.sub_self,List.take_zero,List.append_nil,List.take_take,Nat.min_self,←ht,List.take_take,Nat.min_eq_left hmn]
end Go.Proofs.YtpkoodnbkffpoaaGreatDoor
