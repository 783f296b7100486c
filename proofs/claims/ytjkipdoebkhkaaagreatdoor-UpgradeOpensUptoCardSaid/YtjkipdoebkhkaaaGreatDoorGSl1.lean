/- A row that a call made, changed in place: a run of cells stored; a thing taken out, others kept. -/
import Derived.Test.YtjkipdoebkhkaaaGreatDoorGKe2
import Derived.Lib.IfaceEq
import Derived.Lib.AtoiErrMem
import Derived.Shelf.Strings.SlTrimAscii
import Derived.Lib.QuietBelow
import Derived.Laws.CopyOwn
import Derived.Laws.EntriesVeiled
import Derived.Shelf.GgClosure.StringsIndexFuncTop
import Derived.Test.YtjkipdoebkhkaaaGreatDoorGFmt
set_option linter.unusedVariables false
set_option linter.unusedSimpArgs false
set_option maxHeartbeats 16000000
namespace Go.Proofs.YtjkipdoebkhkaaaGreatDoor
open Go.RowKit
theorem setCells_same {g:Nat} {t:TypeId}:∀(vs:List Value) (o:Nat) (w:World) (cur:Array Value),w.heap[g]?=some (.cells cur t (0,0))→o+vs.length≤cur.size→
 (w.setCells g o vs).heap[g]?=some (.cells (cur.toList.take o++vs++cur.toList.drop (o+vs.length)).toArray t (0,0))
 |[],o,w,cur,hg,hl=>by
  show w.heap[g]?=_;simp[hg]
 |v::r,o,w,cur,hg,hl=>by
  rw[List.length_cons]at hl;have h1:=heap_setCell_same w g o cur t v hg;show((w.setCell ⟨g,o,none⟩ v).setCells g (o+1) r).heap[g]?=_;rw[setCells_same r (o+1) _ _ h1 (by simp;omega)];have e:=list_seg_step cur.toList o v r (by simp;omega);congr 3;simpa[Array.toList_setIfInBounds,Nat.add_assoc,Nat.add_comm 1]using e
theorem setCells_size (g:Nat):∀(vs:List Value) (o:Nat) (w:World),(w.setCells g o vs).heap.size=w.heap.size
 |[],_,_=>rfl
 |v::r,o,w=>by show((w.setCell _ v).setCells g (o+1) r).heap.size=_;rw[setCells_size g r];simp[World.setCell]
theorem setCells_grown (g:Nat):∀(vs:List Value) (o:Nat) (w:World),w.grownBy (w.setCells g o vs) (some g)
 |[],_,w=>grown_refl w _
 |v::r,o,w=>grown_trans2 (b:=w.setCell ⟨g,o,none⟩ v) ⟨rfl,rfl,rfl,by simp[World.setCell],fun k hk hne=>heap_setCell_other w ⟨g,o,none⟩ k v (fun e=>hne (by rw[e]))⟩ (setCells_grown g r (o+1) _)
theorem own_cut {w:World} {base:Nat} {e:TypeId} {z g n m cap o:Nat} {xs ys vs:List Value} (h:w.ownsRow base e z (.slice (some ⟨g,0,none⟩) n cap) n xs) (hm:m≤cap) (hl:o+vs.length≤cap*z) (hy:ys.length=m*z)
 (hyo:∀cur:List Value,cur.length=cap*z→cur.take (n*z)=xs→(cur.take o++vs++cur.drop (o+vs.length)).take (m*z)=ys):
 (w.setCells g o vs).ownsRow base e z (.slice (some ⟨g,0,none⟩) m cap) m ys:=by
 obtain⟨h1,h2⟩:=h
 refine⟨hy, .inr ?_⟩
 rcases h2 with ⟨h3,_⟩|⟨g',c',cur,h3,hb,hg,hc,hcm,hs,ht⟩
 ·cases h3
 ·simp only[Value.slice.injEq,Option.some.injEq,Addr.mk.injEq,and_true,true_and]at h3
  obtain⟨rfl,rfl⟩:=h3;refine⟨g,cap,_,rfl,hb,setCells_same vs o w cur hg (by rw[hs];exact hl),hm,hcm, ?_, ?_⟩
  ·simp only[List.size_toArray,List.length_append,List.length_take,List.length_drop,Array.length_toList]
   rw[hs];omega
  ·have:=hyo cur.toList (by rw[Array.length_toList];exact hs) ht
   simpa using this
theorem flatS_take {α:Type} {z:Nat} {en:α→List Value} (hen:∀x,(en x).length=z):∀(X:List α) (m:Nat),(X.flatMap en).take (m*z)=(X.take m).flatMap en
 |[],m=>by simp
 |x::X,0=>by simp
 |x::X,m+1=>by
  rw[List.flatMap_cons,List.take_succ_cons,List.flatMap_cons,List.take_append,hen,List.take_of_length_le (by rw[hen,Nat.add_mul];omega),show(m+1)*z-z=m*z by rw[Nat.add_mul];omega,flatS_take hen X m]
theorem flatS_drop {α:Type} {z:Nat} {en:α→List Value} (hen:∀x,(en x).length=z):∀(X:List α) (m:Nat),(X.flatMap en).drop (m*z)=(X.drop m).flatMap en
 |[],m=>by simp
 |x::X,0=>by simp
 |x::X,m+1=>by
  rw[List.flatMap_cons,List.drop_succ_cons,List.drop_append,hen,List.drop_of_length_le (by rw[hen,Nat.add_mul];omega),show(m+1)*z-z=m*z by rw[Nat.add_mul];omega,flatS_drop hen X m,List.nil_append]
theorem own_drop {α:Type} {en:α→List Value} {w:World} {base:Nat} {e:TypeId} {z g cap i:Nat} {X:List α} (hen:∀x,(en x).length=z) (h:w.ownsRow base e z (.slice (some ⟨g,0,none⟩) X.length cap) X.length (X.flatMap en)) (hi:i<X.length) (zs:List Value) (hz:zs.length=z):
 ((w.setCells g (i*z) ((X.drop (i+1)).flatMap en)).setCells g ((X.length-1)*z) zs).ownsRow base e z (.slice (some ⟨g,0,none⟩) (X.length-1) cap) (X.length-1) ((X.eraseIdx i).flatMap en):=by
 have hX:X.length≤cap:=by
  rcases h.2 with ⟨h3,_⟩|⟨g',c',cur,h3,hb,hg,hc,hcm,hs,ht⟩
  ·cases h3
  ·simp only[Value.slice.injEq,Option.some.injEq,Addr.mk.injEq,and_true,true_and]at h3
   omega
 have he:X.eraseIdx i=X.take i++X.drop (i+1):=List.eraseIdx_eq_take_drop_succ X i
 have hel:(X.eraseIdx i).length=X.length-1:=List.length_eraseIdx_of_lt hi
 have hln:((X.drop (i+1)).flatMap en).length=(X.length-(i+1))*z:=by rw[flatS_len hen,List.length_drop]
 have hsum:i*z+(X.length-(i+1))*z=(X.length-1)*z:=by rw[←Nat.add_mul];congr 1;omega
 have hle:(X.length-1)*z≤cap*z:=Nat.mul_le_mul_right _ (by omega)
 have hle2:(X.length-1)*z+z≤cap*z:=by
  have:(X.length-1)*z+z=X.length*z:=by rw[←Nat.succ_mul];congr 1;omega
  rw[this];exact Nat.mul_le_mul_right _ hX
 have h1:(w.setCells g (i*z) ((X.drop (i+1)).flatMap en)).ownsRow base e z (.slice (some ⟨g,0,none⟩) (X.length-1) cap) (X.length-1) ((X.eraseIdx i).flatMap en):=by
  refine own_cut h (by omega) (by rw[hln];omega) (by rw[flatS_len hen,hel]) fun cur hc ht=> ?_
  have hti:cur.take (i*z)=(X.take i).flatMap en:=by
   rw[←flatS_take hen X i,←ht,List.take_take,Nat.min_eq_left (Nat.mul_le_mul_right _ (by omega))]
  rw[hti,he,List.flatMap_append,List.take_append,List.take_of_length_le (by rw[List.length_append,flatS_len hen,hln,List.length_take,Nat.min_eq_left (by omega)];omega)];rw[List.length_append,flatS_len hen,hln,List.length_take,Nat.min_eq_left (by omega),hsum,Nat.sub_self,List.take_zero,List.append_nil]
 exact own_cut h1 (by omega) (by omega) (by rw[flatS_len hen,hel]) fun cur hc ht=>by
  rw[List.append_assoc,List.take_append,List.length_take,hc,Nat.min_eq_left hle,Nat.sub_self,List.take_zero,List.append_nil,List.take_take,Nat.min_self,ht]
theorem cellsS_len (x:SealL):(cellsS x).length=3:=rfl
theorem cellsK_len (x:CookieL):(cellsK x).length=12:=rfl
theorem one_seals (X:List SealL):∀u∈X.flatMap cellsS,u.oneCell'=true:=fun u hu=>by
 obtain⟨x,_,h⟩:=List.mem_flatMap.1 hu;exact one_seal x u h
theorem one_cookies (X:List CookieL):∀u∈X.flatMap cellsK,u.oneCell'=true:=fun u hu=>by
 obtain⟨x,_,h⟩:=List.mem_flatMap.1 hu;exact one_cookie x u h
theorem own_at {w:World} {base:Nat} {e:TypeId} {z g n cap:Nat} {xs:List Value} (h:w.ownsRow base e z (.slice (some ⟨g,0,none⟩) n cap) n xs):(∀j,j<cap*z→(w.cell? ⟨g,j,none⟩).isSome=true)∧∀j,w.frozen? ⟨g,j,none⟩=false:=by
 rcases h.2 with ⟨h3,_⟩|⟨g',c',cur,h3,hb,hg,hc,hcm,hs,ht⟩
 ·cases h3
 ·simp only[Value.slice.injEq,Option.some.injEq,Addr.mk.injEq,and_true,true_and]at h3
  obtain⟨rfl,rfl⟩:=h3;refine⟨fun j hj=> ?_,fun j=>by simp[World.frozen?,hg]⟩;rw[Lib.cell_of_heap hg,Array.getElem?_eq_getElem (by omega)];rfl
theorem zero_one {z:Array Value} (hz:∀u∈z.toList,u.oneCell'=true) (h0:0<z.size) (n:Nat):∀u∈(Builtin.zeroCells z n).toList,u.oneCell'=true:=fun u hu=>by
 unfold Builtin.zeroCells at hu;simp only[Array.toList_map,List.mem_map]at hu;obtain⟨i,_,rfl⟩:=hu;have hi:i % z.size<z.size:=Nat.mod_lt _ h0;rw[getElem!_pos z _ hi];exact hz _ (by simp)
theorem zero_len (z:Array Value) (n:Nat):(Builtin.zeroCells z n).toList.length=n*z.size:=by simp[Builtin.zeroCells]
theorem run_clear_z {P:Program} (w:World) (t e ty:TypeId) (z:Value) (ht:P.underlying t=some (.slice e)) (hv:∀w,(zeroValue e).run P w= .ok z w) (h1:∀u∈z.cells.toList,u.oneCell'=true) (h0:0<z.cells.size) (b o n c:Nat) (hn:0<n)
 (hc:∀j,j<n*z.cells.size→(w.cell? ⟨b,o+j,none⟩).isSome=true) (hf:∀j,j<n*z.cells.size→w.frozen? ⟨b,o+j,none⟩=false):
 (Builtin.clear_ #[t] ty #[.slice (some ⟨b,o,none⟩) n c]).run P w= .ok (.tuple #[]) (w.setCells b o (Builtin.zeroCells z.cells n).toList):=by
 have hst:=run_storeCells_cells (P:=P) b o (Builtin.zeroCells z.cells n).toList 0 w (by rw[zero_len];simpa using hc) (by rw[zero_len];simpa using hf) (zero_one h1 h0 n)
 simp only[Nat.add_zero]at hst
 obtain⟨m,rfl⟩:∃m,n=m+1:=⟨n-1,by omega⟩
 simp[Builtin.clear_,run_underlying ht,hv,hst]
abbrev zeroT:Value:= .agg #[.string ⟨#[]⟩, .bool false, .int .i64 0]
theorem drew_cells (g:Nat):∀(vs:List Value) (o:Nat) (w:World),w.drew.setCells g o vs=(w.setCells g o vs).drew
 |[],_,_=>rfl
 |v::r,o,w=>drew_cells g r (o+1) (w.setCell ⟨g,o,none⟩ v)
theorem zeroT_run:∀w,(zeroValue 44).run Tryz.prog w= .ok zeroT w:=fun w=>by kernel_rfl
theorem zeroT_one:∀u∈zeroT.cells.toList,u.oneCell'=true:=fun u hu=>by
 have:u∈[Value.string ⟨#[]⟩, .bool false, .int .i64 0]:=hu;simp only[List.mem_cons,List.not_mem_nil,or_false]at this;rcases this with rfl|rfl|rfl<;>rfl
set_option maxRecDepth 100000 in
theorem sdelete_any (base g cap i:Nat) (X:List SealL) (w:World) (h:w.ownsRow base 44 3 (.slice (some ⟨g,0,none⟩) X.length cap) X.length (X.flatMap cellsS)) (hi:i<X.length) (hl:X.length≤1000) (hcm:X.length≤cap) (hcx:cap≤maxLen):
 Calls Tryz.prog 47 #[.slice (some ⟨g,0,none⟩) X.length cap, .int .i64 i, .int .i64 ((i:Int)+1)] w fun e w'=>e= .returned (.slice (some ⟨g,0,none⟩) (X.length-1) cap)∧
  w'.ownsRow base 44 3 (.slice (some ⟨g,0,none⟩) (X.length-1) cap) (X.length-1) ((X.eraseIdx i).flatMap cellsS)∧w.grownBy w' (some g):=by
 obtain⟨i0,hi0,hz0,hz1,hz2⟩:=seal_elem.hi
 have hcap:cap≤9223372036854775807:=by unfold maxLen at hcx;omega
 obtain⟨news,hnews⟩:∃news,news=(X.drop (i+1)).flatMap cellsS:=⟨_,rfl⟩
 have hlen:news.length=(X.length-(i+1))*3:=by rw[hnews,flatS_len cellsS_len,List.length_drop]
 have hat:=own_at h
 have hcells:∀j u,(X.flatMap cellsS)[j]?=some u→w.cell? ⟨g,j,none⟩=some u:=fun j u hj=>by
  have:=h.cells (g:=g) rfl j u hj;rwa[Addr.add_lit,Nat.zero_add]at this
 have hdrop:=own_drop (i:=i) cellsS_len h hi (Builtin.zeroCells zeroT.cells 1).toList (by rw[zero_len];rfl)
 rw[←hnews]at hdrop
 have hgr:w.grownBy ((w.setCells g (i*3) news).setCells g ((X.length-1)*3) (Builtin.zeroCells zeroT.cells 1).toList) (some g):=grown_trans2 (setCells_grown g news (i*3) w) (setCells_grown g _ _ _)
 have hsrc0:∀t u,news[t]?=some u→w.cell? ⟨g,(i+1)*3+t,none⟩=some u:=fun t u hu=>by
  refine hcells _ _ ?_;rw[hnews,←flatS_drop cellsS_len,List.getElem?_drop]at hu;exact hu
 obtain⟨A,hA,hsrc⟩:∃A:Addr,(if cap=i+1 then some (⟨g,0,none⟩:Addr)else some ⟨g,(i+1)*3,none⟩)=some A∧Hid (∀t u,news[t]?=some u→w.drew.cell? (A.add t)=some u):=by
  by_cases hh:cap=i+1
  ·refine⟨⟨g,0,none⟩,by simp[hh],fun t u hu=> ?_⟩
   have h0:news.length=0:=by rw[hlen];omega
   rw[List.length_eq_zero_iff.1 h0]at hu;simp at hu
  ·refine⟨⟨g,(i+1)*3,none⟩,by simp[hh],fun t u hu=> ?_⟩
   rw[Addr.add_lit];exact hsrc0 t u hu
 have s1:Hid (news.length=(X.length-(i+1))*3):=hlen
 have s2:Hid (∀u∈news,u.oneCell'=true):=by rw[hnews];exact one_seals _
 have hb3:i*3+news.length≤cap*3:=by rw[hlen];omega
 have s3:Hid (∀t,t<news.length→(w.drew.cell? ⟨g,0+i*3+t,none⟩).isSome=true∧w.drew.frozen? ⟨g,0+i*3+t,none⟩=false):=fun t ht=>by
  rw[Nat.zero_add];exact⟨hat.1 _ (by omega),hat.2 _⟩
 obtain⟨W1,hW1⟩:∃W1,W1=w.drew.setCells g (0+i*3) news:=⟨_,rfl⟩
 have hW1w:W1=(w.setCells g (i*3) news).drew:=by rw[hW1,Nat.zero_add,drew_cells]
 have hcl:∀ty,(Builtin.clear_ #[23] ty #[.slice (some ⟨g,(i+(X.length-(i+1)))*3,none⟩) (X.length-(i+(X.length-(i+1)))) (cap-(i+(X.length-(i+1))))]).run Tryz.prog W1= .ok (.tuple #[]) (W1.setCells g ((i+(X.length-(i+1)))*3) (Builtin.zeroCells zeroT.cells 1).toList):=fun ty=>by
  have e1:X.length-(i+(X.length-(i+1)))=1:=by omega
  have e2:i+(X.length-(i+1))=X.length-1:=by omega
  rw[e1,e2];have hm:=own_at (own_cut (o:=i*3) (vs:=news) (m:=0) (ys:=[]) h (Nat.zero_le _) hb3 (by simp) (fun _ _ _=>by simp));refine run_clear_z W1 _ _ _ zeroT Tryz.underlying23 zeroT_run zeroT_one (by show 0<3;omega) g _ 1 _ (by omega) (fun j hj=> ?_) (fun j _=> ?_)
  ·rw[hW1w]
   have hj:j<1*3:=hj;exact hm.1 _ (by omega)
  ·rw[hW1w]
   exact hm.2 _
 have hW:=Lib.hid hW1
 have hic:i≤cap:=by omega
 have hjc:i+1≤cap:=by omega
 have hici:(i:Int)+1≤(cap:Int):=by omega
 have hicl:(i:Int)+1≤(X.length:Int):=by omega
 have hne:((i:Int)==(i:Int)+1)=false:=by simp;omega
 have mixed:Tryz.prog.follows Departure.mixedOrders=true:=by kernel_rfl
 have hi0':0≤(i:Int)+1:=by omega
 have HD:=Lib.hid hdrop
 have HG:=Lib.hid hgr
 have HWW:=Lib.hid hW1w
 clear hW1 hW1w hdrop hgr hat hcells hsrc0 hnews hlen h
 go_enter Tryz.func47,Tryz.ntmps47
 go_wp2_with fail
 go_region_law_o (refine step_append_room rfl (.tmp 22) (.tmp 25) 23 rfl 44 i0 3 Tryz.underlying23 hi0 hz1 g 0 i cap (by simp[Act.eval,Act.put]) A (X.length-(i+1)) (cap-(i+1)) news (by simp[Act.eval,Act.put,hA]) s1.out hsrc.out s2.out (by omega) s3.out ?_;rw[←hW.out])
 have hci:¬cap=i+(X.length-(i+1)):=by omega
 have hle1:((i+(X.length-(i+1)):Nat):Int)≤(X.length:Int):=by omega
 have hle2:(X.length:Int)≤(cap:Int):=by omega
 go_wp2_with fail
 go_ret
 have e1:i+(X.length-(i+1))=X.length-1:=by omega
 rw[HWW.out,e1,drew_cells]
 exact⟨rfl,HD.out,grown_drew HG.out⟩
theorem run_copy_z {P:Program} (w:World) (dT sT ty elem:TypeId) (z b o dLen dCap:Nat) (a:Addr) (sLen sCap:Nat) (cs:List Value)
 (hu:P.underlying dT=some (.slice elem)) (hs:(P.info? elem).map (·.size)=some z) (hn:cs.length=Nat.min sLen dLen*z)
 (hsrc:∀j v,cs[j]?=some v→w.cell? (a.add j)=some v) (hc:∀j,j<cs.length→(w.cell? ⟨b,o+j,none⟩).isSome=true) (hf:∀j,j<cs.length→w.frozen? ⟨b,o+j,none⟩=false) (h1:∀v∈cs,v.oneCell'=true):
 (Builtin.copy_ #[dT,sT] ty #[.slice (some ⟨b,o,none⟩) dLen dCap, .slice (some a) sLen sCap]).run P w= .ok (goInt (Nat.min sLen dLen)) (w.setCells b o cs):=by
 have hl:=run_loadCells_list (P:=P) w a cs hsrc
 have hst:=run_storeCells_cells (P:=P) b o cs 0 w (by simpa using hc) (by simpa using hf) h1
 simp only[Nat.add_zero]at hst
 cases hq:P.info? elem with
 |none=>simp[hq]at hs
 |some i=>
  have hi:i.size=z:=by simpa[hq]using hs
  simp[Builtin.copy_,run_underlying hu,Builtin.lenOf,Builtin.firstCells,sizeOf,typeInfo,hq,hi,←hn,hl,hst]
set_option maxRecDepth 100000 in
theorem sinsert_end (base vb:Nat) (v:Value) (X:List SealL) (s:SealL) (w:World) (h:w.ownsRow base 44 3 v X.length (X.flatMap cellsS)) (hv:∀j u,(cellsS s)[j]?=some u→w.cell? ((⟨vb,0,none⟩:Addr).add j)=some u) (hl:X.length≤1000) (hbase:base≤w.heap.size):
 Calls Tryz.prog 48 #[v, .int .i64 X.length, .slice (some ⟨vb,0,none⟩) 1 1] w fun e w'=>∃v',e= .returned v'∧w'.ownsRow base 44 3 v' (X.length+1) ((X++[s]).flatMap cellsS)∧w.grownBy w' v.ownBlock:=by
 obtain⟨i,hi,hz,hsize,hby⟩:=seal_elem.hi
 have hfl:(X++[s]).flatMap cellsS=X.flatMap cellsS++cellsS s:=by simp
 have HV:=Lib.hid hv
 have h2:=h
 rcases h2.2 with ⟨rfl,h0⟩|⟨g,cap,cur,rfl,hbg,hg,hnc,hcm,hcs,hcu⟩
 ·go_enter Tryz.func48,Tryz.ntmps48
  rw[h0]at h⊢;go_wp2_with(at_builtin;refine wpList_append_own _ rfl _ _ _ rfl base 44 i _ 3 32 seal_elem.ht hi hz hsize hby seal_elem.hz (by omega) _ 0 (X.flatMap cellsS) rfl h ⟨vb,0,none⟩ 1 1 (cellsS s) rfl rfl HV.out (one_seal s) (by unfold maxLen;omega) (by omega) hbase ?_);intro v' w1 hown hgr _;have HO:=Lib.hid hown;have HG:=Lib.hid hgr;clear hown hgr;go_wp2_with fail;go_ret;exact⟨_,rfl,by rw[hfl];exact HO.out,HG.out⟩
 ·have hci:(X.length:Int)≤(cap:Int):=by omega
  clear hg hcs hcu;go_enter Tryz.func48,Tryz.ntmps48;go_wp2_with(at_builtin;refine wpList_append_own _ rfl _ _ _ rfl base 44 i _ 3 32 seal_elem.ht hi hz hsize hby seal_elem.hz (by omega) _ X.length (X.flatMap cellsS) rfl h ⟨vb,0,none⟩ 1 1 (cellsS s) rfl rfl HV.out (one_seal s) (by unfold maxLen;omega) (by omega) hbase ?_)
  all_goals
   intro v' w1 hown hgr _;have HO:=Lib.hid hown;have HG:=Lib.hid hgr;clear hown hgr;go_wp2_with fail;go_ret;exact⟨_,rfl,by rw[hfl];exact HO.out,HG.out⟩
theorem setCells_cell (g:Nat) (vs:List Value) (o:Nat) (w:World) (p:Addr) (h:p.block≠g):(w.setCells g o vs).cell? p=w.cell? p:=
 World.cell?_setCells_out g vs o w p (fun e _=>absurd e h)
set_option maxRecDepth 100000 in
theorem sinsert_room (base g vb cap i:Nat) (X:List SealL) (s:SealL) (w:World) (h:w.ownsRow base 44 3 (.slice (some ⟨g,0,none⟩) X.length cap) X.length (X.flatMap cellsS)) (hi:i<X.length) (hroom:X.length+1≤cap) (hcx:cap≤maxLen) (hne:vb≠g)
 (hvb:w.heap[vb]?=some (.cells (cellsS s).toArray 44 (0,0))) (hl:X.length≤1000):
 Calls Tryz.prog 48 #[.slice (some ⟨g,0,none⟩) X.length cap, .int .i64 i, .slice (some ⟨vb,0,none⟩) 1 1] w fun e w'=>e= .returned (.slice (some ⟨g,0,none⟩) (X.length+1) cap)∧
  w'.ownsRow base 44 3 (.slice (some ⟨g,0,none⟩) (X.length+1) cap) (X.length+1) ((X.take i++s::X.drop i).flatMap cellsS)∧w.grownBy w' (some g):=by
 have hcap:cap≤9223372036854775807:=by unfold maxLen at hcx;omega
 have hat:=own_at h
 have hsz:(Tryz.prog.info? 44).map (·.size)=some 3:=by kernel_rfl
 obtain⟨cs,hcs⟩:∃cs,cs=(X.drop i).flatMap cellsS:=⟨_,rfl⟩
 have hcl:cs.length=(X.length-i)*3:=by rw[hcs,flatS_len cellsS_len,List.length_drop]
 have hcells:∀j u,(X.flatMap cellsS)[j]?=some u→w.cell? ⟨g,j,none⟩=some u:=fun j u hj=>by
  have:=h.cells (g:=g) rfl j u hj;rwa[Addr.add_lit,Nat.zero_add]at this
 have hsrc:∀j u,cs[j]?=some u→w.drew.cell? ((⟨g,i*3,none⟩:Addr).add j)=some u:=fun j u hu=>by
  rw[Addr.add_lit];refine hcells _ _ ?_;rw[hcs,←flatS_drop cellsS_len,List.getElem?_drop]at hu;exact hu
 have ha:(X.take (i+1)).flatMap cellsS=(X.flatMap cellsS).take ((i+1)*3):=(flatS_take cellsS_len X (i+1)).symm
 have hal:((X.take (i+1)).flatMap cellsS).length=(i+1)*3:=by rw[flatS_len cellsS_len,List.length_take];omega
 have h1:(w.setCells g ((i+1)*3) cs).ownsRow base 44 3 (.slice (some ⟨g,0,none⟩) (X.length+1) cap) (X.length+1) ((X.take (i+1)).flatMap cellsS++cs):=
  own_cut h hroom (by rw[hcl];omega) (by rw[List.length_append,hal,hcl];omega) (fun cur h1 h2=>by
   have e1:cur.take ((i+1)*3)=(X.take (i+1)).flatMap cellsS:=by
    rw[ha,←h2,List.take_take,Nat.min_eq_left (by omega)]
   rw[e1,List.take_append_of_le_length (by rw[List.length_append,hal,hcl];omega),List.take_of_length_le (by rw[List.length_append,hal,hcl];omega)])
 have ha2:((X.take i).flatMap cellsS).length=i*3:=by rw[flatS_len cellsS_len,List.length_take];omega
 have ht2:((X.take (i+1)).flatMap cellsS++cs).take (i*3)=(X.take i).flatMap cellsS:=by
  rw[List.take_append_of_le_length (by rw[hal];omega),ha,List.take_take,Nat.min_eq_left (by omega),flatS_take cellsS_len]
 have hd2:((X.take (i+1)).flatMap cellsS++cs).drop (i*3+3)=cs:=by
  rw[List.drop_append_of_le_length (by rw[hal];omega),List.drop_of_length_le (by rw[hal];omega),List.nil_append]
 have hfin:(X.take i++s::X.drop i).flatMap cellsS=(X.take i).flatMap cellsS++(cellsS s++cs):=by rw[hcs];simp
 have h2:((w.setCells g ((i+1)*3) cs).setCells g (i*3) (cellsS s)).ownsRow base 44 3 (.slice (some ⟨g,0,none⟩) (X.length+1) cap) (X.length+1) ((X.take i++s::X.drop i).flatMap cellsS):=
  own_cut h1 hroom (by show i*3+3≤_;omega) (by rw[hfin,List.length_append,List.length_append,ha2,hcl];show _+(3+_)=_;omega) (fun cur h3 h4=>by
   have e1:cur.take (i*3)=(X.take i).flatMap cellsS:=by rw[←ht2,←h4,List.take_take,Nat.min_eq_left (by omega)]
   have e2:(cur.drop (i*3+3)).take ((X.length-i)*3)=cs:=by
    rw[←hd2,←h4,List.drop_take];congr 1;omega
   show((cur.take (i*3)++cellsS s)++cur.drop (i*3+3)).take _=_;have hA:((X.take i).flatMap cellsS++cellsS s).length=i*3+3:=by rw[List.length_append,ha2];rfl
   rw[e1,hfin,List.take_append,List.take_of_length_le (by rw[hA];omega),hA,show(X.length+1)*3-(i*3+3)=(X.length-i)*3 by omega,e2,List.append_assoc])
 have hg2:w.grownBy ((w.setCells g ((i+1)*3) cs).setCells g (i*3) (cellsS s)) (some g):=grown_trans2 (setCells_grown g cs ((i+1)*3) w) (setCells_grown g _ _ _)
 obtain⟨kB,hsb,hkB⟩:∃kB,w.shape? g=some (44,kB)∧kB≠0:=by
  rcases h.2 with ⟨h3,_⟩|⟨g',c',cur,h3,hb,hg,hc,hcm,hs,ht⟩
  ·cases h3
  ·simp only[Value.slice.injEq,Option.some.injEq,Addr.mk.injEq,and_true,true_and]at h3
   obtain⟨rfl,rfl⟩:=h3;exact⟨cur.size,by unfold World.shape?;rw[hg],by rw[hs];omega⟩
 have hov:∀o lb cb,(callFunc 79 #[.slice (some ⟨vb,0,none⟩) 1 1, .slice (some ⟨g,o,none⟩) lb cb]).run Tryz.prog w= .ok (.value (.bool false)) w:=fun o lb cb=>by
  rw[run_callFunc_extern Tryz.func79 (by kernel_rfl) (by kernel_rfl) (by kernel_rfl) (e:=Extern.SlicesOverlaps.overlaps #[23,23] #[4]) (by kernel_rfl),
   Lib.run_overlaps_apart w 23 4 44 Tryz.underlying23 3 Tryz.sizeOf44 ⟨vb,0,none⟩ ⟨g,o,none⟩ 1 1 lb cb hne 44 44 3 kB (by unfold World.shape?;rw[hvb];rfl) hsb hkB (by simp[World.frozen?,hvb]) (by simp[World.frozen?,hvb])]
  rfl
 have hcp1:∀ty dc sc,(Builtin.copy_ #[23,23] ty #[.slice (some ⟨g,(i+1)*3,none⟩) (X.length-i) dc, .slice (some ⟨g,i*3,none⟩) (X.length+1-i) sc]).run Tryz.prog w.drew= .ok (goInt (Nat.min (X.length+1-i) (X.length-i))) (w.drew.setCells g ((i+1)*3) cs):=fun ty dc sc=>
  run_copy_z w.drew _ _ ty 44 3 g ((i+1)*3) _ dc ⟨g,i*3,none⟩ _ sc cs Tryz.underlying23 hsz (by rw[hcl];simp only[Nat.min_def];split<;>omega) hsrc (fun j hj=>hat.1 _ (by omega)) (fun j _=>hat.2 _) (by rw[hcs];exact one_seals _)
 obtain⟨W1,hW1⟩:∃W1,W1=w.drew.setCells g ((i+1)*3) cs:=⟨_,rfl⟩
 have hW1d:W1=(w.setCells g ((i+1)*3) cs).drew:=by rw[hW1,drew_cells]
 have hat2:=own_at h1
 have hcp2:∀(W:World),(∀x,W.cell? x=W1.cell? x)→(∀x,W.frozen? x=W1.frozen? x)→∀ty dc,(Builtin.copy_ #[23,23] ty #[.slice (some ⟨g,i*3,none⟩) (X.length+1-i) dc, .slice (some ⟨vb,0,none⟩) 1 1]).run Tryz.prog W= .ok (goInt (Nat.min 1 (X.length+1-i))) (W.setCells g (i*3) (cellsS s)):=fun W hWc hWf ty dc=>
  run_copy_z W _ _ ty 44 3 g (i*3) _ dc ⟨vb,0,none⟩ 1 1 (cellsS s) Tryz.underlying23 hsz (by show 3=_;simp only[Nat.min_def];split<;>omega)
   (fun j u hj=>by
    rw[Addr.add_lit,hWc,hW1d];show(w.setCells g ((i+1)*3) cs).cell? _=_;rw[setCells_cell _ _ _ _ _ hne,Nat.zero_add,Lib.cell_of_heap hvb];simpa using hj)
   (fun j hj=>by rw[hWc,hW1d];have hj:j<3:=hj;exact hat2.1 _ (by omega)) (fun j _=>by rw[hWf,hW1d];exact hat2.2 _) (one_seal s)
 rw[←hW1]at hcp1
 have mixed:Tryz.prog.follows Departure.mixedOrders=true:=by kernel_rfl
 have hw1:IntKind.i64.wrap ((X.length:Int)+1)=(X.length:Int)+1:=by rw[IntKind.wrap_i64];omega
 have hw2:IntKind.i64.wrap ((i:Int)+1)=(i:Int)+1:=by rw[IntKind.wrap_i64];omega
 have hz2:¬((i:Int)=(X.length:Int)):=by omega
 have hii:(i:Int)≤(X.length:Int):=by omega
 have hic:(X.length:Int)+1≤(cap:Int):=by omega
 have htn:((i:Int)+1).toNat=i+1:=by omega
 have htl:((X.length:Int)+1).toNat=X.length+1:=by omega
 have hb1:¬(cap=i+1):=by omega
 have hb2:¬(cap=i):=by omega
 have hb3:(i:Int)≤(X.length:Int)+1:=by omega
 have hb4:(0:Int)≤(i:Int)+1:=by omega
 have hb5:(0:Int)≤(X.length:Int)+1:=by omega
 have H2:=Lib.hid h2
 have HG2:=Lib.hid hg2
 have HW1:=Lib.hid hW1d
 clear h2 hg2 h1 hat hat2 hcells hsrc hcs hcl ha hal ha2 ht2 hd2 hfin hW1 hW1d h hvb hsb
 go_enter Tryz.func48,Tryz.ntmps48
 go_wp2_with(simp only[hov])
 go_region_law (refine step_copy_runI rfl _ _ 23 23 rfl _ _ (by simp[Act.eval,Act.put]) (by simp[Act.eval,Act.put]) (hcp1 _ _ _) ?_)
 go_wp2_with(at_builtin;refine wpList_copy_runI _ rfl _ _ 23 23 rfl _ _ rfl rfl (hcp2 _ (fun _=>rfl) (fun _=>rfl) _ _) ?_)
 go_ret
 rw[HW1.out,drew_cells]
 exact⟨rfl,H2.out,grown_drew HG2.out⟩
set_option maxRecDepth 100000 in
theorem sinsert_grow (base g vb cap i:Nat) (X:List SealL) (s:SealL) (w:World) (h:w.ownsRow base 44 3 (.slice (some ⟨g,0,none⟩) X.length cap) X.length (X.flatMap cellsS)) (hi:i<X.length) (hroom:cap=X.length)
 (hvb:w.heap[vb]?=some (.cells (cellsS s).toArray 44 (0,0))) (hl:X.length≤1000) (hbase:base≤w.heap.size) (hg0:g<w.heap.size):
 Calls Tryz.prog 48 #[.slice (some ⟨g,0,none⟩) X.length cap, .int .i64 i, .slice (some ⟨vb,0,none⟩) 1 1] w fun e w'=>∃v',e= .returned v'∧
  w'.ownsRow base 44 3 v' (X.length+1) ((X.take i++s::X.drop i).flatMap cellsS)∧w.grownBy w' (some g):=by
 subst hroom
 have hsz:(Tryz.prog.info? 44).map (·.size)=some 3:=by kernel_rfl
 obtain⟨i0,hi0,hz0,hzs,hzb⟩:=seal_elem.hi
 have hlv:=(Array.getElem?_eq_some_iff.1 hvb).1
 obtain⟨cs,hcs⟩:∃cs,cs=(X.drop i).flatMap cellsS:=⟨_,rfl⟩
 have hcl:cs.length=(X.length-i)*3:=by rw[hcs,flatS_len cellsS_len,List.length_drop]
 have hcells:∀j u,(X.flatMap cellsS)[j]?=some u→w.cell? ⟨g,j,none⟩=some u:=fun j u hj=>by
  have:=h.cells (g:=g) rfl j u hj;rwa[Addr.add_lit,Nat.zero_add]at this
 obtain⟨os,hos⟩:∃os,os=(X.take i).flatMap cellsS:=⟨_,rfl⟩
 have hol:os.length=i*3:=by rw[hos,flatS_len cellsS_len,List.length_take];omega
 have hoc:∀j u,os[j]?=some u→w.cell? ((⟨g,0,none⟩:Addr).add j)=some u:=fun j u hu=>by
  rw[Addr.add_lit,Nat.zero_add];refine hcells _ _ ?_;rw[hos,←flatS_take cellsS_len,List.getElem?_take]at hu;split at hu
  ·exact hu
  ·cases hu
 have hsrc:∀j u,cs[j]?=some u→w.cell? ⟨g,i*3+j,none⟩=some u:=fun j u hu=>by
  refine hcells _ _ ?_;rw[hcs,←flatS_drop cellsS_len,List.getElem?_drop]at hu;exact hu
 have hold:(Builtin.firstCells i0.size i (.slice (some ⟨g,0,none⟩) i X.length)).run Tryz.prog w.drew= .ok os.toArray w.drew:=by
  rw[hzs];exact run_firstCells_some w.drew 3 i ⟨g,0,none⟩ i X.length os (by omega) (fun j v hj=>hoc j v hj)
 have hik:i+(X.length+1-i)=X.length+1:=by omega
 have hkk:((X.length:Int)+1-(i:Int))=((X.length+1-i:Nat):Int):=by omega
 have hrz:∀ty,(Builtin.append_ #[23,3] ty #[.slice (some ⟨g,0,none⟩) i X.length, .int .i64 ((X.length:Int)+1-(i:Int))]).run Tryz.prog w=
  .ok (.slice (some ⟨w.heap.size,0,none⟩) (X.length+1) (grownCap w (X.length+1) X.length 44)) (w.drew.alloc (.cells (os.toArray++Builtin.zeroCells zeroT.cells (X.length+1-i)++Builtin.zeroCells zeroT.cells (grownCap w (X.length+1) X.length 44-(X.length+1))) 44)):=fun ty=>by
  have h:=Lib.run_append_grow_zeros w 23 3 ty 44 i0 zeroT .i64 .i64 Tryz.underlying23 Tryz.underlying3 hi0 hz0 (some ⟨g,0,none⟩) i X.length os hold (X.length+1-i) (by omega) (by omega) (by omega) (by omega) (by rw[hzb];omega) (by rw[hzb,hik];exact growslice_fits (by omega) (by omega))
  rw[hik]at h
  rw[hkk]
  exact h
 have hGn:X.length+1≤grownCap w (X.length+1) X.length 44:=grownCap_ge w _ _ _
 have hGm:grownCap w (X.length+1) X.length 44≤maxLen:=grownCap_le_maxLen w (X.length+1) X.length 44 (by unfold maxLen;omega)
 generalize grownCap w (X.length+1) X.length 44=G at*
 obtain⟨ROW,hROW⟩:∃ROW:Array Value,ROW=os.toArray++Builtin.zeroCells zeroT.cells (X.length+1-i)++Builtin.zeroCells zeroT.cells (G-(X.length+1)):=⟨_,rfl⟩
 rw[←hROW]at hrz
 have hRl:ROW.size=G*3:=by
  have e1:=zero_len zeroT.cells (X.length+1-i);have e2:=zero_len zeroT.cells (G-(X.length+1));have e3:zeroT.cells.size=3:=rfl;rw[Array.length_toList,e3]at e1 e2;rw[hROW,Array.size_append,Array.size_append,e1,e2,List.size_toArray,hol];omega
 have hRL:ROW.toList.length=G*3:=by rw[Array.length_toList];exact hRl
 have hRt:ROW.toList.take (i*3)=os:=by
  rw[hROW];simp only[Array.toList_append];rw[List.append_assoc,List.take_append_of_le_length (by rw[hol];omega),List.take_of_length_le (by rw[hol];omega)]
 obtain⟨W1,hW1⟩:∃W1,W1=w.drew.alloc (.cells ROW 44):=⟨_,rfl⟩
 have hown1:W1.ownsRow base 44 3 (.slice (some ⟨w.heap.size,0,none⟩) (X.length+1) G) (X.length+1) (ROW.toList.take ((X.length+1)*3)):=
  ⟨by rw[List.length_take,hRL];omega, .inr ⟨w.heap.size,G,ROW,rfl,hbase,by rw[hW1];exact heap_alloc_new w.drew _,hGn,hGm,hRl,rfl⟩⟩
 have hown2:(W1.setCells w.heap.size (i*3) (cellsS s)).ownsRow base 44 3 (.slice (some ⟨w.heap.size,0,none⟩) (X.length+1) G) (X.length+1) (os++cellsS s++(ROW.toList.take ((X.length+1)*3)).drop (i*3+3)):=
  own_cut hown1 hGn (by show i*3+3≤_;omega) (by rw[List.length_append,List.length_append,hol,List.length_drop,List.length_take,hRL];show _+3+_=_;omega) (fun cur h3 h4=>by
   have e1:cur.take (i*3)=os:=by rw[←hRt,←Nat.min_eq_left (show i*3≤(X.length+1)*3 by omega),←List.take_take,h4,List.take_take]
   have hA:(os++cellsS s).length=i*3+3:=by rw[List.length_append,hol];rfl
   show((cur.take (i*3)++cellsS s)++cur.drop (i*3+3)).take _=_;rw[e1,List.take_append,List.take_of_length_le (by rw[hA];omega),hA,←h4,List.drop_take])
 have hown3:((W1.setCells w.heap.size (i*3) (cellsS s)).setCells w.heap.size ((i+1)*3) cs).ownsRow base 44 3 (.slice (some ⟨w.heap.size,0,none⟩) (X.length+1) G) (X.length+1) ((X.take i++s::X.drop i).flatMap cellsS):=
  own_cut hown2 hGn (by rw[hcl];omega) (by rw[flatS_len cellsS_len,List.length_append,List.length_cons,List.length_take,List.length_drop];omega) (fun cur h3 h4=>by
   have hA:(os++cellsS s).length=i*3+3:=by rw[List.length_append,hol];rfl
   have e1:cur.take ((i+1)*3)=os++cellsS s:=by
    have:(cur.take ((X.length+1)*3)).take ((i+1)*3)=os++cellsS s:=by
     rw[h4,List.take_append_of_le_length (by rw[hA];omega),List.take_of_length_le (by rw[hA];omega)]
    rwa[List.take_take,Nat.min_eq_left (by omega)]at this
   have hfin:(X.take i++s::X.drop i).flatMap cellsS=os++cellsS s++cs:=by rw[hos,hcs];simp
   rw[e1,hfin,List.take_append_of_le_length (by rw[List.length_append,hA,hcl];omega),List.take_of_length_le (by rw[List.length_append,hA,hcl];omega)])
 have hat1:=own_at hown1
 have hat2:=own_at hown2
 have hneg:g≠w.heap.size:=by omega
 have hnev:vb≠w.heap.size:=by omega
 have hcpA:∀(W:World),(∀x,W.cell? x=W1.cell? x)→(∀x,W.frozen? x=W1.frozen? x)→∀ty dc,(Builtin.copy_ #[23,23] ty #[.slice (some ⟨w.heap.size,i*3,none⟩) (X.length+1-i) dc, .slice (some ⟨vb,0,none⟩) 1 1]).run Tryz.prog W= .ok (goInt (Nat.min 1 (X.length+1-i))) (W.setCells w.heap.size (i*3) (cellsS s)):=fun W hWc hWf ty dc=>
  run_copy_z W _ _ ty 44 3 w.heap.size (i*3) _ dc ⟨vb,0,none⟩ 1 1 (cellsS s) Tryz.underlying23 hsz (by show 3=_;simp only[Nat.min_def];split<;>omega)
   (fun j u hj=>by
    rw[Addr.add_lit,hWc,hW1,World.cell?_alloc_past (w:=w.drew) _ vb _ hlv];show w.cell? _=_;rw[Nat.zero_add,Lib.cell_of_heap hvb];simpa using hj)
   (fun j hj=>by rw[hWc];have hj:j<3:=hj;exact hat1.1 _ (by omega)) (fun j _=>by rw[hWf];exact hat1.2 _) (one_seal s)
 have hcpB:∀(W:World),(∀x,W.cell? x=(W1.setCells w.heap.size (i*3) (cellsS s)).cell? x)→(∀x,W.frozen? x=(W1.setCells w.heap.size (i*3) (cellsS s)).frozen? x)→∀ty dc sc,(Builtin.copy_ #[23,23] ty #[.slice (some ⟨w.heap.size,(i+1)*3,none⟩) (X.length-i) dc, .slice (some ⟨g,i*3,none⟩) (X.length-i) sc]).run Tryz.prog W= .ok (goInt (Nat.min (X.length-i) (X.length-i))) (W.setCells w.heap.size ((i+1)*3) cs):=fun W hWc hWf ty dc sc=>
  run_copy_z W _ _ ty 44 3 w.heap.size ((i+1)*3) _ dc ⟨g,i*3,none⟩ _ sc cs Tryz.underlying23 hsz (by rw[hcl];simp only[Nat.min_def];split<;>omega)
   (fun j u hj=>by
    rw[Addr.add_lit,hWc,setCells_cell _ _ _ _ _ hneg,hW1,World.cell?_alloc_past (w:=w.drew) _ g _ hg0];exact hsrc j u hj)
   (fun j hj=>by rw[hWc];exact hat2.1 _ (by omega)) (fun j _=>by rw[hWf];exact hat2.2 _) (by rw[hcs];exact one_seals _)
 have hgr:w.grownBy ((W1.setCells w.heap.size (i*3) (cellsS s)).setCells w.heap.size ((i+1)*3) cs) (some g):=by
  have e1:w.grownBy W1 none:=by rw[hW1];exact grown_trans2 (grown_drew (grown_refl w none)) (World.grownBy_alloc w.drew _ _)
  have e2:W1.grownBy ((W1.setCells w.heap.size (i*3) (cellsS s)).setCells w.heap.size ((i+1)*3) cs) (some w.heap.size):=grown_trans2 (setCells_grown _ _ _ _) (setCells_grown _ _ _ _);exact⟨e2.os.trans e1.os,e2.tape.trans e1.tape,e2.output.trans e1.output,Nat.le_trans e1.size e2.size,fun k hk _=>(e2.block k (Nat.lt_of_lt_of_le hk e1.size) (fun e=>by injection e with e;omega)).trans (e1.block k hk (by simp))⟩
 have H3:=Lib.hid hown3
 have HGR:=Lib.hid hgr
 have mixed:Tryz.prog.follows Departure.mixedOrders=true:=by kernel_rfl
 have hw1:IntKind.i64.wrap ((X.length:Int)+1)=(X.length:Int)+1:=by rw[IntKind.wrap_i64];omega
 have hw2:IntKind.i64.wrap ((i:Int)+1)=(i:Int)+1:=by rw[IntKind.wrap_i64];omega
 have hw3:IntKind.i64.wrap ((X.length:Int)+1-(i:Int))=(X.length:Int)+1-(i:Int):=by rw[IntKind.wrap_i64];omega
 have hz2:¬((i:Int)=(X.length:Int)):=by omega
 have hii:(i:Int)≤(X.length:Int):=by omega
 have htn:((i:Int)+1).toNat=i+1:=by omega
 have hGi:¬(G=i):=by omega
 have hGi1:¬(G=i+1):=by omega
 have hXi:¬(X.length=i):=by omega
 have hb3:(i:Int)≤(X.length:Int)+1:=by omega
 have hb4:(0:Int)≤(i:Int)+1:=by omega
 have hG63:G≤9223372036854775807:=by unfold maxLen at hGm;omega
 subst hW1
 clear hown1 hown2 hown3 hgr hat1 hat2 hcells hsrc hoc hold hRt hRL hRl hROW hcs hcl hos hol hik hkk h hvb
 have hE1:∀x,((w.alloc (.cells ROW 44)).drew).cell? x=(w.drew.alloc (.cells ROW 44)).cell? x:=fun x=>rfl
 have hE2:∀x,((w.alloc (.cells ROW 44)).drew).frozen? x=(w.drew.alloc (.cells ROW 44)).frozen? x:=fun x=>rfl
 have hF1:∀x,(((w.alloc (.cells ROW 44)).drew.setCells w.heap.size (i*3) (cellsS s)).drew).cell? x=((w.drew.alloc (.cells ROW 44)).setCells w.heap.size (i*3) (cellsS s)).cell? x:=fun x=>rfl
 have hF2:∀x,(((w.alloc (.cells ROW 44)).drew.setCells w.heap.size (i*3) (cellsS s)).drew).frozen? x=((w.drew.alloc (.cells ROW 44)).setCells w.heap.size (i*3) (cellsS s)).frozen? x:=fun x=>rfl
 go_enter Tryz.func48,Tryz.ntmps48
 go_wp2_with(first
  |(at_builtin;refine Lib.wpList_append_run _ rfl _ _ _ _ rfl _ _ rfl rfl _ _ (hrz _) ?_)
  |(at_builtin;refine wpList_copy_runI _ rfl _ _ 23 23 rfl _ _ rfl rfl (hcpA _ hE1 hE2 _ _) ?_))
 go_region_law (refine step_copy_runI rfl _ _ 23 23 rfl (.slice (some ⟨w.heap.size,(i+1)*3,none⟩) (X.length-i) (G-(i+1))) (.slice (some ⟨g,i*3,none⟩) (X.length-i) (X.length-i)) (by simp[Act.eval,Act.put]) (by simp[Act.eval,Act.put]) (hcpB _ hF1 hF2 3 (G-(i+1)) (X.length-i)) ?_)
 go_wp2_with fail
 go_ret
 exact⟨_,rfl,by rw[drew_cells w.heap.size cs ((i+1)*3) ((w.alloc (.cells ROW 44)).drew.setCells w.heap.size (i*3) (cellsS s))];exact H3.out,by rw[drew_cells w.heap.size cs ((i+1)*3) ((w.alloc (.cells ROW 44)).drew.setCells w.heap.size (i*3) (cellsS s))];exact grown_drew HGR.out⟩
theorem own_empty (w:World) (base:Nat) (e:TypeId) (z:Nat) (h:base≤w.heap.size):(w.alloc (.cells #[] e)).ownsRow base e z (.slice (some ⟨w.heap.size,0,none⟩) 0 0) 0 []:=
 ⟨by simp, .inr ⟨w.heap.size,0, #[],rfl,h,heap_alloc_new w _,Nat.le_refl _,Nat.zero_le _,by simp,by simp⟩⟩
set_option maxRecDepth 100000 in
theorem clone_seals (X:List SealL) (v:Value) (w:World) (h:RowS 3 cellsS w v X) (hl:X.length≤1048576):
 Calls Tryz.prog 39 #[v] w fun e w'=>∃v',e= .returned v'∧w'.ownsRow w.heap.size 44 3 v' X.length (X.flatMap cellsS)∧Below w.heap.size w w':=by
 have q0:∀(W:World) (a:Option Addr) (n c n' c':Nat),(binOp .eql 23 (.slice a n c) (.slice none n' c')).run Tryz.prog W= .ok (.bool a.isNone) W:=fun W a n c n' c'=>Lib.run_eql_slice_nil W _ _ a n c n' c' Tryz.underlying23
 rcases h with ⟨rfl,rfl⟩|⟨a,c,rfl,hc,hb,hcell⟩
 ·go_enter Tryz.func39,Tryz.ntmps39
  go_wp2_with fail;go_ret;exact⟨_,rfl,World.ownsRow_nil _ _ _ _,Below.refl _ _⟩
 ·have hrow:RowS 3 cellsS w (.slice (some a) X.length c) X:= .inr ⟨a,c,rfl,hc,hb,hcell⟩
  have hb0:=below_alloc w (.cells #[] 44);have HN:=Lib.hid ((hrow.below hb0 (Nat.le_refl _)).news cellsS_len);obtain⟨i,hi,hz,hsize,hby⟩:=seal_elem.hi;have ho:=own_empty w w.heap.size 44 3 (Nat.le_refl _);clear hcell hrow;go_enter Tryz.func39,Tryz.ntmps39;go_wp2_with(at_builtin;refine wpList_append_own _ rfl _ _ _ rfl w.heap.size 44 i _ 3 32 seal_elem.ht hi hz hsize hby seal_elem.hz (by omega) _ 0 [] rfl ho a X.length c (X.flatMap cellsS) rfl (by rw[flatS_len cellsS_len]) HN.out (one_seals X) (by unfold maxLen;omega) (by omega) (by rw[World.size_alloc];omega) ?_);intro v' w1 hown hgr _;have hlow:Below w.heap.size w w1:=hb0.trans (below_of_grown hgr (by rw[World.size_alloc];omega) (fun k hk=>by cases hk;exact Nat.le_refl _));have HO:=Lib.hid hown;have HL:=Lib.hid hlow;clear hown hgr hlow;go_wp2_with fail;go_ret;exact⟨_,rfl,HO.out,HL.out⟩
theorem clip_seals (v:Value) (X:List SealL) (w:World) (h:RowS 3 cellsS w v X) (hl:X.length≤1048576):
 Calls Tryz.prog 50 #[v] w fun e w'=>(∃v',e= .returned v'∧RowS 3 cellsS w v' X∧v'.ownBlock=v.ownBlock)∧w=w':=by
 rcases h with ⟨rfl,rfl⟩|⟨a,c,rfl,hc,hb,hcell⟩
 ·go_enter Tryz.func50,Tryz.ntmps50
  go_wp2_with fail;go_ret;exact⟨⟨_,rfl, .inl ⟨rfl,rfl⟩,rfl⟩,rfl⟩
 ·have HC:=Lib.hid hcell
  have HB:=Lib.hid hb;have hci:(X.length:Int)≤(c:Int):=by omega
  clear hcell hb;go_enter Tryz.func50,Tryz.ntmps50;go_wp2_with fail;go_ret;exact⟨⟨_,rfl, .inr ⟨a,X.length,by simp,Nat.le_refl _,HB.out,HC.out⟩,rfl⟩,rfl⟩
set_option maxRecDepth 100000 in
theorem clone_cooks (X:List CookieL) (v:Value) (w:World) (h:RowS 12 cellsK w v X) (hl:X.length≤1048576):
 Calls Tryz.prog 38 #[v] w fun e w'=>∃v',e= .returned v'∧w'.ownsRow w.heap.size 42 12 v' X.length (X.flatMap cellsK)∧Below w.heap.size w w':=by
 have q0:∀(W:World) (a:Option Addr) (n c n' c':Nat),(binOp .eql 22 (.slice a n c) (.slice none n' c')).run Tryz.prog W= .ok (.bool a.isNone) W:=fun W a n c n' c'=>Lib.run_eql_slice_nil W _ _ a n c n' c' Tryz.underlying22
 rcases h with ⟨rfl,rfl⟩|⟨a,c,rfl,hc,hb,hcell⟩
 ·go_enter Tryz.func38,Tryz.ntmps38
  go_wp2_with fail;go_ret;exact⟨_,rfl,World.ownsRow_nil _ _ _ _,Below.refl _ _⟩
 ·have hrow:RowS 12 cellsK w (.slice (some a) X.length c) X:= .inr ⟨a,c,rfl,hc,hb,hcell⟩
  have hb0:=below_alloc w (.cells #[] 42);have HN:=Lib.hid ((hrow.below hb0 (Nat.le_refl _)).news cellsK_len);obtain⟨i,hi,hz,hsize,hby⟩:=cookie_elem.hi;have ho:=own_empty w w.heap.size 42 12 (Nat.le_refl _);clear hcell hrow;go_enter Tryz.func38,Tryz.ntmps38;go_wp2_with(at_builtin;refine wpList_append_own _ rfl _ _ _ rfl w.heap.size 42 i _ 12 112 cookie_elem.ht hi hz hsize hby cookie_elem.hz (by omega) _ 0 [] rfl ho a X.length c (X.flatMap cellsK) rfl (by rw[flatS_len cellsK_len]) HN.out (one_cookies X) (by unfold maxLen;omega) (by omega) (by rw[World.size_alloc];omega) ?_);intro v' w1 hown hgr _;have hlow:Below w.heap.size w w1:=hb0.trans (below_of_grown hgr (by rw[World.size_alloc];omega) (fun k hk=>by cases hk;exact Nat.le_refl _));have HO:=Lib.hid hown;have HL:=Lib.hid hlow;clear hown hgr hlow;go_wp2_with fail;go_ret;exact⟨_,rfl,HO.out,HL.out⟩
theorem clip_cooks (v:Value) (X:List CookieL) (w:World) (h:RowS 12 cellsK w v X) (hl:X.length≤1048576):
 Calls Tryz.prog 49 #[v] w fun e w'=>(∃v',e= .returned v'∧RowS 12 cellsK w v' X∧v'.ownBlock=v.ownBlock)∧w=w':=by
 rcases h with ⟨rfl,rfl⟩|⟨a,c,rfl,hc,hb,hcell⟩
 ·go_enter Tryz.func49,Tryz.ntmps49
  go_wp2_with fail;go_ret;exact⟨⟨_,rfl, .inl ⟨rfl,rfl⟩,rfl⟩,rfl⟩
 ·have HC:=Lib.hid hcell
  have HB:=Lib.hid hb;have hci:(X.length:Int)≤(c:Int):=by omega
  clear hcell hb;go_enter Tryz.func49,Tryz.ntmps49;go_wp2_with fail;go_ret;exact⟨⟨_,rfl, .inr ⟨a,X.length,by simp,Nat.le_refl _,HB.out,HC.out⟩,rfl⟩,rfl⟩
end Go.Proofs.YtjkipdoebkhkaaaGreatDoor
