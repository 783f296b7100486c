/- Connections: the numbers of those of which something holds; all of them. -/
import Derived.Test.YtpkoodnbkffpoaaGreatDoorConnFind
set_option linter.unusedVariables false
set_option linter.unusedSimpArgs false
set_option maxHeartbeats 16000000
namespace Go.Proofs.YtpkoodnbkffpoaaGreatDoor
open Go.RowKit
theorem int_info:(Tryz.prog.info? 3).map (fun i=>(i.zero,i.size,i.bytes))=some (some (.int .i64 0),1,8):=by kernel_rfl
theorem int_elem:ElemZ Tryz.prog 26 3 (.int .i64 0) 1 8:=
 ⟨Tryz.underlying26,by obtain⟨i,h1,h2,h3,h4⟩:=info_parts int_info;exact⟨i,h1,h2,h3,h4⟩,rfl,by omega⟩
theorem encI_len (n:Nat):(encI n).length=1:=rfl
theorem one_intI (n:Nat):∀u∈encI n,u.oneCell'=true:=fun u hu=>by
 simp only[encI,List.mem_cons,List.not_mem_nil,or_false]at hu;subst hu;rfl
theorem numsL_take (p:ConnL→Bool) {X:List ConnL} {k:Nat} (hk:k<X.length):numsL p (X.take (k+1))=numsL p (X.take k)++(if p X[k]then [X[k].id]else []):=by
 unfold numsL;rw[List.take_succ_eq_append_getElem hk,List.filter_append,List.map_append];congr 1
 cases h:p X[k]<;>simp[h]
theorem conn_cells {w:World} {g o:Nat} {x:ConnL} (h:∀j u,(cellsC x)[j]?=some u→w.cell? (((⟨g,0,none⟩:Addr).add o).add j)=some u):
 w.cell? ⟨g,o,none⟩=some (.int .i64 x.id)∧w.cell? ⟨g,o+1,none⟩=some (.bool x.key.safe)∧w.cell? ⟨g,o+2,none⟩=some (.string ⟨x.key.host.toArray⟩)∧w.cell? ⟨g,o+3,none⟩=some (.int .i64 x.key.port)∧w.cell? ⟨g,o+4,none⟩=some (.int .i64 x.given):=by
 have h2:∀j u,(cellsC x)[j]?=some u→w.cell? ⟨g,o+j,none⟩=some u:=fun j u hj=>by
  have:=h j u hj;rwa[Addr.add_lit,Addr.add_lit,Nat.zero_add]at this
 exact⟨h2 0 _ rfl,h2 1 _ rfl,h2 2 _ rfl,h2 3 _ rfl,h2 4 _ rfl⟩
set_option maxRecDepth 100000 in
theorem numbers_any (fn:FuncId) (hen:∀args W,(callFunc fn args).run Tryz.prog W= .ok (.enter fn args) W) (cap:Array Value) (p:ConnL→Bool) (S:ConnsL) (B:Nat) (v:Value) (w:World) (h:ConnsAt w B v S) (hl:S.l.length≤1000)
 (hf:∀x∈S.l,∀W,Below w.heap.size w W→Calls Tryz.prog fn (#[connV x]++cap) W fun e W'=>e= .returned (.bool (p x))∧Below W.heap.size W W'):
 Calls Tryz.prog 33 #[.pointer (some ⟨B,0,none⟩), .func (.func fn) #[] cap] w fun e w'=>(∃t,e= .returned t∧RowS 1 encI w' t (numsL p S.l)∧∀k,t.ownBlock=some k→w.heap.size≤k)∧Below w.heap.size w w':=by
 obtain⟨c0,c1,c2⟩:=h.cells
 have hform:=h.form
 have hlB:=h.lt
 have ct:=there_yes B w c0
 have hbw:=Below.refl w.heap.size w
 clear h
 rcases hform with ⟨rfl,hX⟩|⟨g,cp,rfl,hcp,hmx,hBg,hg,hrow⟩
 ·rw[hX]
  clear hf hen;go_enter Tryz.func33,Tryz.ntmps33;go_wp2_with(go_at_call 23;refine ct.mono ?_;rintro e w1 ⟨rfl,rfl⟩);go_loop [4,15] (fun o i=>o= .slice none 0 0∧i= .int .i64 0) (fun _ _=>0)
  case atStart=>exact⟨rfl,rfl⟩
  case round=>
   obtain⟨rfl,rfl⟩:=hrel;go_wp2_with(go_at_call 71;refine(clip_ints _ [] _ (.inl ⟨rfl,rfl⟩) (by simp)).mono ?_;rintro e w1 ⟨⟨t,rfl,ht,hto⟩,rfl⟩);go_ret;exact⟨⟨_,rfl,ht,fun k hk=>by have hk:t.ownBlock=some k:=hk;rw[hto]at hk;cases hk⟩,hbw⟩
 ·have HF:=Lib.hid hf
  have HC:=Lib.hid fun (k:Nat) (hk:k<S.l.length) W (hW:Below w.heap.size w W)=>hrow.each k hk W hW
  generalize S.l=X at*;have hmxi:X.length≤1000:=hl;clear hf hrow;go_enter Tryz.func33,Tryz.ntmps33;go_wp2_with(go_at_call 23;refine ct.mono ?_;rintro e w1 ⟨rfl,rfl⟩);go_loopw [4,15] (fun o i wr=>∃(k:Nat),k≤X.length∧i= .int .i64 k∧Hid (wr.ownsRow w.heap.size 3 1 o (numsL p (X.take k)).length ((numsL p (X.take k)).flatMap encI))∧Below w.heap.size w wr) (fun _ i _=>X.length-(intOf i).toNat)
  case atStart=>exact⟨0,Nat.zero_le _,rfl,Lib.hid ⟨rfl, .inl ⟨rfl,rfl⟩⟩,hbw⟩
  case round=>
   obtain⟨k,hk,rfl,HO,hbr⟩:=hrel;have hown:=HO.out;by_cases hlt:k<X.length
   ·have hck:=HC.out k hlt wr hbr
    have hsn:=numsL_take p hlt;have hln:(numsL p (X.take k)).length≤k:=by unfold numsL;rw[List.length_map];exact Nat.le_trans (List.length_filter_le _ _) (by rw[List.length_take];omega)
    have cf:=HF.out X[k] (List.getElem_mem hlt);have hki:(k:Int)<(X.length:Int):=by omega
    generalize X[k]=x at*;obtain⟨e0,e1,e2,e3,e4⟩:=conn_cells hck;clear hck;generalize numsL p (X.take k)=L at*;have hb4:Below wr.heap.size wr (wr.alloc (.cells (connA x) 73)):=below_alloc wr _;have hbr4:=hbr.trans (hb4.mono hbr.size);have cf2:=cf _ hbr4;clear HO cf
    cases hp:p x with
    |false=>
     rw[hp]at cf2 hsn;have HS2:=Lib.hid hsn;clear hp hsn;go_wp2_with fail;go_at_fn fn;refine cf2.mono ?_;rintro e w1 ⟨rfl,hb1⟩;have hb2:=hbr4.trans (hb1.mono hbr4.size);have hown2:=own_below (own_below hown hb4) hb1;go_wp2_with fail;go_roundw
     case rel=>exact⟨k+1,by omega,by go_num,by rw[HS2.out,if_neg (by decide),List.append_nil];exact hown2,hb2⟩
     case measure=>simp[intOf];omega
    |true=>
     rw[hp]at cf2 hsn;have HS2:=Lib.hid hsn;clear hp hsn;go_wp2_with fail;go_at_fn fn;refine cf2.mono ?_;rintro e w1 ⟨rfl,hb1⟩;have hb2:=hbr4.trans (hb1.mono hbr4.size);have hown2:=own_below (own_below hown hb4) hb1;have x0:w1.cell? ⟨wr.heap.size,0,none⟩=some (.int .i64 x.id):=by rw[Lib.cell_of_heap ((hb1.block _ (by rw[World.size_alloc];omega)).trans (heap_alloc_new wr _))];rfl
     go_wp2_with(at_builtin;refine wpList_append_z int_elem _ rfl _ _ rfl w.heap.size _ _ _ rfl hown2 [.int .i64 x.id] _ rfl rfl (one_intI x.id) (by omega) (by omega) hb2.size ?_);intro v' w2 hown3 hgr;go_wp2_with fail;go_roundw
     case rel=>exact⟨k+1,by omega,by go_num,by rw[HS2.out,List.length_append,List.flatMap_append];exact hown3,hb2.grown hgr hb2.size (fun g' hg'=>(hown2.lt g' hg').1)⟩
     case measure=>simp[intOf];omega
   ·obtain rfl:k=X.length:=by omega
    rw[List.take_length]at hown;have hrs:=RowS.own (X:=numsL p X) (by omega) encI_len hown rfl;have hln:(numsL p X).length≤1000000:=by unfold numsL;rw[List.length_map];exact Nat.le_trans (List.length_filter_le _ _) (by omega)
    have cc:=clip_ints _ _ _ hrs hln;have HLT:=Lib.hid fun k hk=>(hown.lt k hk).1
    clear HO hown hrs;go_wp2_with fail;go_at_call 71;refine cc.mono ?_;rintro e w1 ⟨⟨t,rfl,ht,hto⟩,rfl⟩;have HTO:=Lib.hid hto;clear hto;go_wp2_with fail;go_ret;exact⟨⟨_,rfl,ht,fun k hk=>HLT.out k (by rw[←HTO.out];exact hk)⟩,hbr⟩
theorem enters_any:∀args W,(callFunc 34 args).run Tryz.prog W= .ok (.enter 34 args) W:=Go.Proofs.enters_of Tryz.func34 (by kernel_rfl) rfl
theorem all_any (S:ConnsL) (B:Nat) (v:Value) (w:World) (h:ConnsAt w B v S) (hl:S.l.length≤1000):
 Calls Tryz.prog 13 #[.pointer (some ⟨B,0,none⟩)] w fun e w'=>(∃t,e= .returned t∧RowS 1 encI w' t (S.l.map (·.id)))∧Below w.heap.size w w':=by
 have cn:=numbers_any 34 enters_any #[] (fun _=>true) S B v w h hl (fun x _ W _=>any_any x W)
 have he:numsL (fun _=>true) S.l=S.l.map (·.id):=by unfold numsL;rw[List.filter_eq_self.2 (fun _ _=>rfl)]
 rw[he]at cn
 clear he h
 generalize S.l.map (·.id)=L at*
 go_enter Tryz.func13,Tryz.ntmps13
 go_wp2_with(go_at_call 33;refine cn.mono ?_;rintro e w1 ⟨⟨t,rfl,ht,_⟩,hb⟩)
 go_ret
 exact⟨⟨_,rfl,ht⟩,hb⟩
theorem all_none (w:World):Calls Tryz.prog 13 #[.pointer none] w fun e w'=>e= .returned (.slice none 0 0)∧w=w':=by
 have cn:Calls Tryz.prog 33 #[.pointer none, .func (.func 34) #[] #[]] w fun e w'=>e= .returned (.slice none 0 0)∧w=w':=by
  go_enter Tryz.func33,Tryz.ntmps33;go_wp2_with(go_at_call 23;refine(there_no w).mono ?_;rintro e w1 ⟨rfl,rfl⟩);go_ret;exact⟨rfl,rfl⟩
 go_enter Tryz.func13,Tryz.ntmps13;go_wp2_with(go_at_call 33;refine cn.mono ?_;rintro e w1 ⟨rfl,rfl⟩);go_ret;exact⟨rfl,rfl⟩
end Go.Proofs.YtpkoodnbkffpoaaGreatDoor
