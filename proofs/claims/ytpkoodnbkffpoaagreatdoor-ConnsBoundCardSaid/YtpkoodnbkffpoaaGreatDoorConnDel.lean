/- slices.Delete, IndexFunc and DeleteFunc at connections. -/
import Derived.Test.YtpkoodnbkffpoaaGreatDoorConnFind
set_option linter.unusedVariables false
set_option linter.unusedSimpArgs false
set_option maxHeartbeats 16000000
namespace Go.Proofs.YtpkoodnbkffpoaaGreatDoor
open Go.RowKit
theorem own_at {w:World} {base:Nat} {e:TypeId} {z g n cap:Nat} {xs:List Value} (h:w.ownsRow base e z (.slice (some ⟨g,0,none⟩) n cap) n xs):(∀j,j<cap*z→(w.cell? ⟨g,j,none⟩).isSome=true)∧∀j,w.frozen? ⟨g,j,none⟩=false:=by
 rcases h.2 with ⟨h3,_⟩|⟨g',c',cur,h3,hb,hg,hc,hcm,hs,ht⟩
 ·cases h3
 ·simp only[Value.slice.injEq,Option.some.injEq,Addr.mk.injEq,and_true,true_and]at h3
  obtain⟨rfl,rfl⟩:=h3;refine⟨fun j hj=> ?_,fun j=>by simp[World.frozen?,hg]⟩;rw[Lib.cell_of_heap hg,Array.getElem?_eq_getElem (by omega)];rfl
theorem zero_one {z:Array Value} (hz:∀u∈z.toList,u.oneCell'=true) (h0:0<z.size) (n:Nat):∀u∈(Builtin.zeroCells z n).toList,u.oneCell'=true:=fun u hu=>by
 unfold Builtin.zeroCells at hu;simp only[Array.toList_map,List.mem_map]at hu;obtain⟨i,_,rfl⟩:=hu;have hi:i % z.size<z.size:=Nat.mod_lt _ h0;rw[getElem!_pos z _ hi];exact hz _ (by simp)
theorem zero_len (z:Array Value) (n:Nat):(Builtin.zeroCells z n).toList.length=n*z.size:=by simp[Builtin.zeroCells]
theorem run_clear_z {P:Program} (w:World) (t e ty:TypeId) (z:Value) (ht:P.underlying t=some (.slice e)) (hv:∀w,(zeroValue e).run P w= .ok z w) (h1:∀u∈z.cells.toList,u.oneCell'=true) (h0:0<z.cells.size) (b o n c:Nat) (hn:0<n)
 (hc:∀j,j<n*z.cells.size→(w.cell? ⟨b,o+j,none⟩).isSome=true) (hf:∀j,j<n*z.cells.size→w.frozen? ⟨b,o+j,none⟩=false):
 (Builtin.clear_ #[t] ty #[.slice (some ⟨b,o,none⟩) n c]).run P w= .ok (.tuple #[]) (w.setCells b o (Builtin.zeroCells z.cells n).toList):=by
 have hst:=run_storeCells_cells (P:=P) b o (Builtin.zeroCells z.cells n).toList 0 w (by rw[zero_len];simpa using hc) (by rw[zero_len];simpa using hf) (zero_one h1 h0 n)
 simp only[Nat.add_zero]at hst
 obtain⟨m,rfl⟩:∃m,n=m+1:=⟨n-1,by omega⟩
 simp[Builtin.clear_,run_underlying ht,hv,hst]
abbrev zeroC:Value:= .agg #[.int .i64 0, .bool false, .string ⟨#[]⟩, .int .i64 0, .int .i64 0]
theorem drew_cells (g:Nat):∀(vs:List Value) (o:Nat) (w:World),w.drew.setCells g o vs=(w.setCells g o vs).drew
 |[],_,_=>rfl
 |v::r,o,w=>drew_cells g r (o+1) (w.setCell ⟨g,o,none⟩ v)
theorem zeroC_run:∀w,(zeroValue 73).run Tryz.prog w= .ok zeroC w:=fun w=>by kernel_rfl
theorem zeroC_one:∀u∈zeroC.cells.toList,u.oneCell'=true:=fun u hu=>by
 have:u∈[Value.int .i64 0, .bool false, .string ⟨#[]⟩, .int .i64 0, .int .i64 0]:=hu;simp only[List.mem_cons,List.not_mem_nil,or_false]at this;rcases this with rfl|rfl|rfl|rfl|rfl<;>rfl
set_option maxRecDepth 100000 in
theorem delete_any (base g cap i:Nat) (X:List ConnL) (w:World) (h:w.ownsRow base 73 5 (.slice (some ⟨g,0,none⟩) X.length cap) X.length (X.flatMap cellsC)) (hi:i<X.length) (hl:X.length≤1000) (hcm:X.length≤cap) (hcx:cap≤maxLen):
 Calls Tryz.prog 31 #[.slice (some ⟨g,0,none⟩) X.length cap, .int .i64 i, .int .i64 ((i:Int)+1)] w fun e w'=>e= .returned (.slice (some ⟨g,0,none⟩) (X.length-1) cap)∧
  w'.ownsRow base 73 5 (.slice (some ⟨g,0,none⟩) (X.length-1) cap) (X.length-1) ((X.eraseIdx i).flatMap cellsC)∧w.grownBy w' (some g):=by
 obtain⟨i0,hi0,hz0,hz1,hz2⟩:=conn_elem.hi
 have hcap:cap≤9223372036854775807:=by unfold maxLen at hcx;omega
 obtain⟨news,hnews⟩:∃news,news=(X.drop (i+1)).flatMap cellsC:=⟨_,rfl⟩
 have hlen:news.length=(X.length-(i+1))*5:=by rw[hnews,flatS_len cellsC_len,List.length_drop]
 have hat:=own_at h
 have hcells:∀j u,(X.flatMap cellsC)[j]?=some u→w.cell? ⟨g,j,none⟩=some u:=fun j u hj=>by
  have:=h.cells (g:=g) rfl j u hj;rwa[Addr.add_lit,Nat.zero_add]at this
 have hdrop:=own_drop (i:=i) cellsC_len h hi (Builtin.zeroCells zeroC.cells 1).toList (by rw[zero_len];rfl)
 rw[←hnews]at hdrop
 have hgr:w.grownBy ((w.setCells g (i*5) news).setCells g ((X.length-1)*5) (Builtin.zeroCells zeroC.cells 1).toList) (some g):=grown_trans2 (setCells_grown g news (i*5) w) (setCells_grown g _ _ _)
 have hsrc0:∀t u,news[t]?=some u→w.cell? ⟨g,(i+1)*5+t,none⟩=some u:=fun t u hu=>by
  refine hcells _ _ ?_;rw[hnews,←flatS_drop cellsC_len,List.getElem?_drop]at hu;exact hu
 obtain⟨A,hA,hsrc⟩:∃A:Addr,(if cap=i+1 then some (⟨g,0,none⟩:Addr)else some ⟨g,(i+1)*5,none⟩)=some A∧Hid (∀t u,news[t]?=some u→w.drew.cell? (A.add t)=some u):=by
  by_cases hh:cap=i+1
  ·refine⟨⟨g,0,none⟩,by simp[hh],fun t u hu=> ?_⟩
   have h0:news.length=0:=by rw[hlen];omega
   rw[List.length_eq_zero_iff.1 h0]at hu;simp at hu
  ·refine⟨⟨g,(i+1)*5,none⟩,by simp[hh],fun t u hu=> ?_⟩
   rw[Addr.add_lit];exact hsrc0 t u hu
 have s1:Hid (news.length=(X.length-(i+1))*5):=hlen
 have s2:Hid (∀u∈news,u.oneCell'=true):=by rw[hnews];exact one_conns _
 have hb5:i*5+news.length≤cap*5:=by rw[hlen];omega
 have s3:Hid (∀t,t<news.length→(w.drew.cell? ⟨g,0+i*5+t,none⟩).isSome=true∧w.drew.frozen? ⟨g,0+i*5+t,none⟩=false):=fun t ht=>by
  rw[Nat.zero_add];exact⟨hat.1 _ (by omega),hat.2 _⟩
 obtain⟨W1,hW1⟩:∃W1,W1=w.drew.setCells g (0+i*5) news:=⟨_,rfl⟩
 have hW1w:W1=(w.setCells g (i*5) news).drew:=by rw[hW1,Nat.zero_add,drew_cells]
 have hcl:∀ty,(Builtin.clear_ #[67] ty #[.slice (some ⟨g,(i+(X.length-(i+1)))*5,none⟩) (X.length-(i+(X.length-(i+1)))) (cap-(i+(X.length-(i+1))))]).run Tryz.prog W1= .ok (.tuple #[]) (W1.setCells g ((i+(X.length-(i+1)))*5) (Builtin.zeroCells zeroC.cells 1).toList):=fun ty=>by
  have e1:X.length-(i+(X.length-(i+1)))=1:=by omega
  have e2:i+(X.length-(i+1))=X.length-1:=by omega
  rw[e1,e2];have hm:=own_at (own_cut (o:=i*5) (vs:=news) (m:=0) (ys:=[]) h (Nat.zero_le _) hb5 (by simp) (fun _ _ _=>by simp));refine run_clear_z W1 _ _ _ zeroC Tryz.underlying67 zeroC_run zeroC_one (by show 0<5;omega) g _ 1 _ (by omega) (fun j hj=> ?_) (fun j _=> ?_)
  ·rw[hW1w]
   have hj:j<1*5:=hj;exact hm.1 _ (by omega)
  ·rw[hW1w]
   exact hm.2 _
 have hW:=Lib.hid hW1
 have hic:i≤cap:=by omega
 have hjc:i+1≤cap:=by omega
 have hici:(i:Int)+1≤(cap:Int):=by omega
 have hicl:(i:Int)+1≤(X.length:Int):=by omega
 have hne:((i:Int)==(i:Int)+1)=false:=by simp;omega
 have mixed:Tryz.prog.follows Departure.mixedOrders=true:=by kernel_rfl
 have hi0':0≤(i:Int)+1:=by omega
 have HD:=Lib.hid hdrop
 have HG:=Lib.hid hgr
 have HWW:=Lib.hid hW1w
 clear hW1 hW1w hdrop hgr hat hcells hsrc0 hnews hlen h
 go_enter Tryz.func31,Tryz.ntmps31
 go_wp2_with fail
 go_region_law_o (refine step_append_room rfl (.tmp 22) (.tmp 25) 67 rfl 73 i0 5 Tryz.underlying67 hi0 hz1 g 0 i cap (by simp[Act.eval,Act.put]) A (X.length-(i+1)) (cap-(i+1)) news (by simp[Act.eval,Act.put,hA]) s1.out hsrc.out s2.out (by omega) s3.out ?_;rw[←hW.out])
 have hci:¬cap=i+(X.length-(i+1)):=by omega
 have hle1:((i+(X.length-(i+1)):Nat):Int)≤(X.length:Int):=by omega
 have hle2:(X.length:Int)≤(cap:Int):=by omega
 go_wp2_with fail
 go_ret
 have e1:i+(X.length-(i+1))=X.length-1:=by omega
 rw[HWW.out,e1,drew_cells]
 exact⟨rfl,HD.out,grown_drew HG.out⟩
end Go.Proofs.YtpkoodnbkffpoaaGreatDoor
