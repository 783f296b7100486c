/- Connections: the one that was given first. -/
import Derived.Test.YtpkoodnbkffpoaaGreatDoorConnOps
import Derived.Deep.RegionHeld
set_option linter.unusedVariables false
set_option linter.unusedSimpArgs false
set_option maxHeartbeats 16000000
namespace Go.Proofs.YtpkoodnbkffpoaaGreatDoor
open Go.RowKit
def optI:Option Nat→Int
 |none=> -1
 |some a=>a
theorem bestN_succ {q:ConnL→Bool} {b:ConnL→ConnL→Bool} {l:List ConnL} {k:Nat} (hk:k<l.length):
 bestN q b l (k+1)=if q l[k]&&freeB b l[k] ((bestN q b l k).bind fun i=>l[i]?)then some k else bestN q b l k:=by
 show(match l[k]? with|none=>_|some x=>_)=_
 rw[List.getElem?_eq_getElem hk]
set_option maxRecDepth 100000 in
theorem eldest_any (fn:FuncId) (hen:∀args W,(callFunc fn args).run Tryz.prog W= .ok (.enter fn args) W) (cap:Array Value) (p:ConnL→Bool) (S:ConnsL) (B:Nat) (v:Value) (w:World) (h:ConnsAt w B v S) (hl:S.l.length≤1000)
 (hf:∀x∈S.l,∀W,Below w.heap.size w W→Calls Tryz.prog fn (#[connV x]++cap) W fun e W'=>e= .returned (.bool (p x))∧Below W.heap.size W W'):
 Calls Tryz.prog 29 #[.pointer (some ⟨B,0,none⟩), .func (.func fn) #[] cap] w fun e w'=>e= .returned (.int .i64 (optI (eldL p S.l)))∧Below w.heap.size w w':=by
 obtain⟨c0,c1,c2⟩:=h.cells
 have hform:=h.form
 have hlB:=h.lt
 have hbw:=Below.refl w.heap.size w
 unfold eldL
 clear h
 rcases hform with ⟨rfl,hX⟩|⟨g,cp,rfl,hcp,hmx,hBg,hg,hrow⟩
 ·rw[hX]
  clear hf hen;go_enter Tryz.func29,Tryz.ntmps29;go_wp2_with fail;go_loop [5,13] (fun a i=>a= .int .i64 (-1)∧i= .int .i64 0) (fun _ _=>0)
  case atStart=>exact⟨rfl,rfl⟩
  case round=>
   obtain⟨rfl,rfl⟩:=hrel;go_wp2_with fail;go_ret;exact⟨rfl,hbw⟩
 ·have HF:=Lib.hid hf
  have HC:=Lib.hid fun (k:Nat) (hk:k<S.l.length) W (hW:Below w.heap.size w W)=>hrow.each k hk W hW
  generalize S.l=X at*;clear hf hrow;go_enter Tryz.func29,Tryz.ntmps29;go_wp2_with fail;go_loopw [5,13] (fun a i wr=>∃(k:Nat) (o:Option Nat),k≤X.length∧i= .int .i64 k∧a= .int .i64 (optI o)∧Hid (bestN (fun x=>keptB x&&p x) lessB X k=o)∧Below w.heap.size w wr) (fun _ i _=>X.length-(intOf i).toNat)
  case atStart=>exact⟨0,none,Nat.zero_le _,rfl,rfl,Lib.hid rfl,hbw⟩
  case round=>
   obtain⟨k,o,hk,rfl,rfl,HO,hbr⟩:=hrel;by_cases hlt:k<X.length
   ·have hki:(k:Int)<(X.length:Int):=by omega
    obtain⟨e0,e1,e2,e3,e4⟩:=conn_cells (HC.out k hlt _ hbr);have hsu:=bestN_succ (q:=fun x=>keptB x&&p x) (b:=lessB) hlt;rw[HO.out]at hsu;have HSU:=Lib.hid hsu;have hb4:Below wr.heap.size wr (wr.alloc (.cells (connA X[k]) 73)):=below_alloc wr _;have hbr4:=hbr.trans (hb4.mono hbr.size);have hBx:(wr.alloc (.cells (connA X[k]) 73)).heap[wr.heap.size]?=some (.cells (connA X[k]) 73 (0,0)):=heap_alloc_new wr _;have hB4:(wr.alloc (.cells (connA X[k]) 73)).cell? ⟨B,1,none⟩=some (.slice (some ⟨g,0,none⟩) X.length cp):=(hbr4.cell (p:=⟨B,1,none⟩) hlB).trans c1;have hk4:=fun W=>kept_any X[k] W
    have hp4:=fun W (hW:Below (wr.alloc (.cells (connA X[k]) 73)).heap.size (wr.alloc (.cells (connA X[k]) 73)) W)=>HF.out X[k] (List.getElem_mem hlt) W (hbr4.trans (hW.mono hbr4.size))
    have hlow:∀(a:Nat) (ha:a<X.length) W (hW:Below (wr.alloc (.cells (connA X[k]) 73)).heap.size (wr.alloc (.cells (connA X[k]) 73)) W),W.cell? ⟨g,a*5+4,none⟩=some (.int .i64 X[a].given):=fun a ha W hW=>(conn_cells (HC.out a ha _ (hbr4.trans (hW.mono hbr4.size)))).2.2.2.2
    have HLOW:=Lib.hid hlow;have hoX:∀a,o=some a→a<X.length:=fun a ha=>by
     rw[←HO.out]at ha;have:=(bestN_some ha).1;omega
    have HOX:=Lib.hid hoX;clear hsu hlow hoX HO;generalize hx:X[k]=x at*;have HX:=Lib.hid hx;have hik:=conn_size x;clear hx;go_upto_region 5 with fail;generalize wr.alloc (.cells (connA x) 73)=w4 at*;have hX3:∀W,Below w4.heap.size w4 W→W.heap[wr.heap.size]?=some (.cells (connA x) 73 (0,0)):=fun W hW=>(hW.block _ (Array.getElem?_eq_some_iff.1 hBx).1).trans hBx
    have hX4:∀W,Below w4.heap.size w4 W→∀j v,[.int .i64 x.id, .bool x.key.safe, .string ⟨x.key.host.toArray⟩, .int .i64 x.key.port, .int .i64 x.given][j]?=some v→W.cell? ((⟨wr.heap.size,0,none⟩:Addr).add j)=some v:=fun W hW j v hv=>by
     rw[Addr.add_lit,Nat.zero_add,Lib.cell_of_heap (hX3 W hW)];simpa using hv
    have hX5:∀W,Below w4.heap.size w4 W→W.cell? ⟨wr.heap.size,4,none⟩=some (.int .i64 x.given):=fun W hW=>by rw[Lib.cell_of_heap (hX3 W hW)];rfl
    have hB5:∀W,Below w4.heap.size w4 W→W.cell? ⟨B,1,none⟩=some (.slice (some ⟨g,0,none⟩) X.length cp):=fun W hW=>(hW.cell (p:=⟨B,1,none⟩) (World.block_lt_of_cell? _ _ hB4)).trans hB4
    clear hBx hB4 e0 e1 e2 e3 e4 hb4 hX3
    cases hkb:keptB x with
    |false=>
     have HN:Hid (bestN (fun x=>keptB x&&p x) lessB X (k+1)=o):=by
      show _=_;rw[HSU.out,hkb];rfl
     rw[hkb]at hk4;clear hkb HSU HX hp4 HLOW HOX;have hS:=(Below.refl w4.heap.size w4).drew;refine wp_region_held_drew (S:=fun W=>Below w4.heap.size w4 W) (by kernel_rfl) hS (fun _=> ?_);refine wpAnyH_take (i:=0) (oi:=⟨some 18, .load 73 (.tmp 7),_,_,_,_⟩) (v:= .agg #[.int .i64 x.id, .bool x.key.safe, .string ⟨x.key.host.toArray⟩, .int .i64 x.key.port, .int .i64 x.given]) rfl (by kernel_rfl) (by kernel_rfl) (by kernel_rfl) (fun _ _ _ h=>h) (yieldsIf_load_at (by rfl) 73 (.tmp 7) rfl ⟨wr.heap.size,0,none⟩ rfl [.int .i64 x.id, .bool x.key.safe, .string ⟨x.key.host.toArray⟩, .int .i64 x.key.port, .int .i64 x.given] _ hX4 Tryz.underlying73 rfl hik) hS ?_
     try simp only[Act.put,List.setIfInBounds_toArray,List.set_cons_zero,List.set_cons_succ]
     refine wpAnyH_ready (rs:=[1]) (by kernel_rfl) (by simp) ?_;refine AllReadyH.cons (o:=⟨some 19, .call {callee:= .value (.func 27),args:= #[.tmp 18],argTypes:= #[73]},_,_,_,_⟩) rfl (fun K hK=> ?_) AllReadyH.nil;go_simp;go_at_call 27;refine(hk4 _).mono ?_;rintro e z1 ⟨rfl,hn⟩;go_wp2_with fail;have hS1:=hS.trans (hn.mono hS.size);refine hK.out _ _ hS1 (fun _=> ?_);clear hK hS hn K;have hS:=hS1;clear hS1
     try simp only[Act.put,List.setIfInBounds_toArray,List.set_cons_zero,List.set_cons_succ]
     refine wpAnyH_take (i:=2) (oi:=⟨some 20, .move (.tmp 19),_,_,_,_⟩) (v:= .bool false) rfl (by kernel_rfl) (by kernel_rfl) (by kernel_rfl) (fun _ _ _ h=>h) (.inl ⟨by rfl,fun W hW=>by go_simp⟩) hS ?_
     try simp only[Act.put,List.setIfInBounds_toArray,List.set_cons_zero,List.set_cons_succ]
     refine wpAnyH_take (i:=3) (oi:=⟨some 21, .move (.tmp 1),_,_,_,_⟩) (v:=undef) rfl (by kernel_rfl) (by kernel_rfl) (by kernel_rfl) (fun _ _ _ h=>h) (.inr ⟨by rfl,rfl⟩) hS ?_
     try simp only[Act.put,List.setIfInBounds_toArray,List.set_cons_zero,List.set_cons_succ]
     refine wpAnyH_take (i:=4) (oi:=⟨some 22, .load 73 (.tmp 7),_,_,_,_⟩) (v:=undef) rfl (by kernel_rfl) (by kernel_rfl) (by kernel_rfl) (fun _ _ _ h=>h) (.inr ⟨by rfl,rfl⟩) hS ?_
     try simp only[Act.put,List.setIfInBounds_toArray,List.set_cons_zero,List.set_cons_succ]
     refine wpAnyH_take (i:=5) (oi:=⟨some 23, .call {callee:= .value (.tmp 21),args:= #[.tmp 22],argTypes:= #[73]},_,_,_,_⟩) (v:=undef) rfl (by kernel_rfl) (by kernel_rfl) (by kernel_rfl) (fun _ _ _ h=>h) (.inr ⟨by rfl,rfl⟩) hS ?_
     try simp only[Act.put,List.setIfInBounds_toArray,List.set_cons_zero,List.set_cons_succ]
     refine wpAnyH_take (i:=6) (oi:=⟨some 24, .pick (.tmp 20) (.tmp 23) (.const (.bool false)),_,_,_,_⟩) (v:= .bool false) rfl (by kernel_rfl) (by kernel_rfl) (by kernel_rfl) (fun _ _ _ h=>h) (.inl ⟨by rfl,fun W hW=>by go_simp⟩) hS ?_
     try simp only[Act.put,List.setIfInBounds_toArray,List.set_cons_zero,List.set_cons_succ]
     refine wpAnyH_take (i:=7) (oi:=⟨some 25, .move (.tmp 24),_,_,_,_⟩) (v:= .bool false) rfl (by kernel_rfl) (by kernel_rfl) (by kernel_rfl) (fun _ _ _ h=>h) (.inl ⟨by rfl,fun W hW=>by go_simp⟩) hS ?_
     try simp only[Act.put,List.setIfInBounds_toArray,List.set_cons_zero,List.set_cons_succ]
     refine wpAnyH_take (i:=8) (oi:=⟨some 26, .move (.tmp 5),_,_,_,_⟩) (v:=undef) rfl (by kernel_rfl) (by kernel_rfl) (by kernel_rfl) (fun _ _ _ h=>h) (.inr ⟨by rfl,rfl⟩) hS ?_
     try simp only[Act.put,List.setIfInBounds_toArray,List.set_cons_zero,List.set_cons_succ]
     refine wpAnyH_take (i:=9) (oi:=⟨some 27, .binOp .lss 3 (.tmp 26) (.const (.int .i64 0)) 3,_,_,_,_⟩) (v:=undef) rfl (by kernel_rfl) (by kernel_rfl) (by kernel_rfl) (fun _ _ _ h=>h) (.inr ⟨by rfl,rfl⟩) hS ?_
     try simp only[Act.put,List.setIfInBounds_toArray,List.set_cons_zero,List.set_cons_succ]
     refine wpAnyH_take (i:=10) (oi:=⟨some 28, .move (.tmp 27),_,_,_,_⟩) (v:=undef) rfl (by kernel_rfl) (by kernel_rfl) (by kernel_rfl) (fun _ _ _ h=>h) (.inr ⟨by rfl,rfl⟩) hS ?_
     try simp only[Act.put,List.setIfInBounds_toArray,List.set_cons_zero,List.set_cons_succ]
     refine wpAnyH_take (i:=11) (oi:=⟨some 29, .fieldAddr 73 (.tmp 7) 2,_,_,_,_⟩) (v:=undef) rfl (by kernel_rfl) (by kernel_rfl) (by kernel_rfl) (fun _ _ _ h=>h) (.inr ⟨by rfl,rfl⟩) hS ?_
     try simp only[Act.put,List.setIfInBounds_toArray,List.set_cons_zero,List.set_cons_succ]
     refine wpAnyH_take (i:=12) (oi:=⟨some 30, .load 3 (.tmp 29),_,_,_,_⟩) (v:=undef) rfl (by kernel_rfl) (by kernel_rfl) (by kernel_rfl) (fun _ _ _ h=>h) (.inr ⟨by rfl,rfl⟩) hS ?_
     try simp only[Act.put,List.setIfInBounds_toArray,List.set_cons_zero,List.set_cons_succ]
     refine wpAnyH_take (i:=13) (oi:=⟨some 31, .move (.tmp 0),_,_,_,_⟩) (v:=undef) rfl (by kernel_rfl) (by kernel_rfl) (by kernel_rfl) (fun _ _ _ h=>h) (.inr ⟨by rfl,rfl⟩) hS ?_
     try simp only[Act.put,List.setIfInBounds_toArray,List.set_cons_zero,List.set_cons_succ]
     refine wpAnyH_take (i:=14) (oi:=⟨some 32, .nilCheck (.tmp 31),_,_,_,_⟩) (v:=undef) rfl (by kernel_rfl) (by kernel_rfl) (by kernel_rfl) (fun _ _ _ h=>h) (.inr ⟨by rfl,rfl⟩) hS ?_
     try simp only[Act.put,List.setIfInBounds_toArray,List.set_cons_zero,List.set_cons_succ]
     refine wpAnyH_take (i:=15) (oi:=⟨some 33, .fieldAddr 69 (.tmp 32) 1,_,_,_,_⟩) (v:=undef) rfl (by kernel_rfl) (by kernel_rfl) (by kernel_rfl) (fun _ _ _ h=>h) (.inr ⟨by rfl,rfl⟩) hS ?_
     try simp only[Act.put,List.setIfInBounds_toArray,List.set_cons_zero,List.set_cons_succ]
     refine wpAnyH_take (i:=16) (oi:=⟨some 34, .load 67 (.tmp 33),_,_,_,_⟩) (v:=undef) rfl (by kernel_rfl) (by kernel_rfl) (by kernel_rfl) (fun _ _ _ h=>h) (.inr ⟨by rfl,rfl⟩) hS ?_
     try simp only[Act.put,List.setIfInBounds_toArray,List.set_cons_zero,List.set_cons_succ]
     refine wpAnyH_take (i:=17) (oi:=⟨some 35, .move (.tmp 5),_,_,_,_⟩) (v:=undef) rfl (by kernel_rfl) (by kernel_rfl) (by kernel_rfl) (fun _ _ _ h=>h) (.inr ⟨by rfl,rfl⟩) hS ?_
     try simp only[Act.put,List.setIfInBounds_toArray,List.set_cons_zero,List.set_cons_succ]
     refine wpAnyH_take (i:=18) (oi:=⟨some 36, .indexAddr 67 (.tmp 34) (.tmp 35),_,_,_,_⟩) (v:=undef) rfl (by kernel_rfl) (by kernel_rfl) (by kernel_rfl) (fun _ _ _ h=>h) (.inr ⟨by rfl,rfl⟩) hS ?_
     try simp only[Act.put,List.setIfInBounds_toArray,List.set_cons_zero,List.set_cons_succ]
     refine wpAnyH_take (i:=19) (oi:=⟨some 37, .fieldAddr 73 (.tmp 36) 2,_,_,_,_⟩) (v:=undef) rfl (by kernel_rfl) (by kernel_rfl) (by kernel_rfl) (fun _ _ _ h=>h) (.inr ⟨by rfl,rfl⟩) hS ?_
     try simp only[Act.put,List.setIfInBounds_toArray,List.set_cons_zero,List.set_cons_succ]
     refine wpAnyH_take (i:=20) (oi:=⟨some 38, .load 3 (.tmp 37),_,_,_,_⟩) (v:=undef) rfl (by kernel_rfl) (by kernel_rfl) (by kernel_rfl) (fun _ _ _ h=>h) (.inr ⟨by rfl,rfl⟩) hS ?_
     try simp only[Act.put,List.setIfInBounds_toArray,List.set_cons_zero,List.set_cons_succ]
     refine wpAnyH_take (i:=21) (oi:=⟨some 39, .binOp .lss 3 (.tmp 30) (.tmp 38) 3,_,_,_,_⟩) (v:=undef) rfl (by kernel_rfl) (by kernel_rfl) (by kernel_rfl) (fun _ _ _ h=>h) (.inr ⟨by rfl,rfl⟩) hS ?_
     try simp only[Act.put,List.setIfInBounds_toArray,List.set_cons_zero,List.set_cons_succ]
     refine wpAnyH_take (i:=22) (oi:=⟨some 40, .pick (.tmp 28) (.const (.bool true)) (.tmp 39),_,_,_,_⟩) (v:=undef) rfl (by kernel_rfl) (by kernel_rfl) (by kernel_rfl) (fun _ _ _ h=>h) (.inr ⟨by rfl,rfl⟩) hS ?_
     try simp only[Act.put,List.setIfInBounds_toArray,List.set_cons_zero,List.set_cons_succ]
     refine wpAnyH_take (i:=23) (oi:=⟨some 41, .pick (.tmp 25) (.tmp 40) (.const (.bool false)),_,_,_,_⟩) (v:= .bool false) rfl (by kernel_rfl) (by kernel_rfl) (by kernel_rfl) (fun _ _ _ h=>h) (.inl ⟨by rfl,fun W hW=>by go_simp⟩) hS ?_
     try simp only[Act.put,List.setIfInBounds_toArray,List.set_cons_zero,List.set_cons_succ]
     refine wpAnyH_done (by kernel_rfl) ?_ _;have hbr5:=hbr4.trans (hS.mono hbr4.size);clear hS hbr4;go_wp2_with fail;go_roundw
     case rel=>exact⟨k+1,o,by omega,by go_num,rfl,HN,hbr5⟩
     case measure=>simp[intOf];omega
    |true=>
     rw[hkb]at hk4
     cases hp:p x with
     |false=>
      have HN:Hid (bestN (fun x=>keptB x&&p x) lessB X (k+1)=o):=by
       show _=_;rw[HSU.out,hkb,hp];rfl
      rw[hp]at hp4;clear hkb HSU HX hp HLOW HOX;have hS:=(Below.refl w4.heap.size w4).drew;refine wp_region_held_drew (S:=fun W=>Below w4.heap.size w4 W) (by kernel_rfl) hS (fun _=> ?_);refine wpAnyH_take (i:=0) (oi:=⟨some 18, .load 73 (.tmp 7),_,_,_,_⟩) (v:= .agg #[.int .i64 x.id, .bool x.key.safe, .string ⟨x.key.host.toArray⟩, .int .i64 x.key.port, .int .i64 x.given]) rfl (by kernel_rfl) (by kernel_rfl) (by kernel_rfl) (fun _ _ _ h=>h) (yieldsIf_load_at (by rfl) 73 (.tmp 7) rfl ⟨wr.heap.size,0,none⟩ rfl [.int .i64 x.id, .bool x.key.safe, .string ⟨x.key.host.toArray⟩, .int .i64 x.key.port, .int .i64 x.given] _ hX4 Tryz.underlying73 rfl hik) hS ?_
      try simp only[Act.put,List.setIfInBounds_toArray,List.set_cons_zero,List.set_cons_succ]
      refine wpAnyH_ready (rs:=[1]) (by kernel_rfl) (by simp) ?_;refine AllReadyH.cons (o:=⟨some 19, .call {callee:= .value (.func 27),args:= #[.tmp 18],argTypes:= #[73]},_,_,_,_⟩) rfl (fun K hK=> ?_) AllReadyH.nil;go_simp;go_at_call 27;refine(hk4 _).mono ?_;rintro e z1 ⟨rfl,hn⟩;go_wp2_with fail;have hS1:=hS.trans (hn.mono hS.size);refine hK.out _ _ hS1 (fun _=> ?_);clear hK hS hn K;have hS:=hS1;clear hS1
      try simp only[Act.put,List.setIfInBounds_toArray,List.set_cons_zero,List.set_cons_succ]
      refine wpAnyH_take (i:=2) (oi:=⟨some 20, .move (.tmp 19),_,_,_,_⟩) (v:= .bool true) rfl (by kernel_rfl) (by kernel_rfl) (by kernel_rfl) (fun _ _ _ h=>h) (.inl ⟨by rfl,fun W hW=>by go_simp⟩) hS ?_
      try simp only[Act.put,List.setIfInBounds_toArray,List.set_cons_zero,List.set_cons_succ]
      refine wpAnyH_take (i:=3) (oi:=⟨some 21, .move (.tmp 1),_,_,_,_⟩) (v:= .func (.func fn) #[] cap) rfl (by kernel_rfl) (by kernel_rfl) (by kernel_rfl) (fun _ _ _ h=>h) (.inl ⟨by rfl,fun W hW=>by go_simp⟩) hS ?_
      try simp only[Act.put,List.setIfInBounds_toArray,List.set_cons_zero,List.set_cons_succ]
      refine wpAnyH_take (i:=4) (oi:=⟨some 22, .load 73 (.tmp 7),_,_,_,_⟩) (v:= .agg #[.int .i64 x.id, .bool x.key.safe, .string ⟨x.key.host.toArray⟩, .int .i64 x.key.port, .int .i64 x.given]) rfl (by kernel_rfl) (by kernel_rfl) (by kernel_rfl) (fun _ _ _ h=>h) (yieldsIf_load_at (by rfl) 73 (.tmp 7) rfl ⟨wr.heap.size,0,none⟩ rfl [.int .i64 x.id, .bool x.key.safe, .string ⟨x.key.host.toArray⟩, .int .i64 x.key.port, .int .i64 x.given] _ hX4 Tryz.underlying73 rfl hik) hS ?_
      try simp only[Act.put,List.setIfInBounds_toArray,List.set_cons_zero,List.set_cons_succ]
      refine wpAnyH_ready (rs:=[5]) (by kernel_rfl) (by simp) ?_;refine AllReadyH.cons (o:=⟨some 23, .call {callee:= .value (.tmp 21),args:= #[.tmp 22],argTypes:= #[73]},_,_,_,_⟩) rfl (fun K hK=> ?_) AllReadyH.nil;go_simp;go_at_fn fn;refine(hp4 _ hS).mono ?_;rintro e z2 ⟨rfl,hn⟩;go_wp2_with fail;have hS1:=hS.trans (hn.mono hS.size);refine hK.out _ _ hS1 (fun _=> ?_);clear hK hS hn K;have hS:=hS1;clear hS1
      try simp only[Act.put,List.setIfInBounds_toArray,List.set_cons_zero,List.set_cons_succ]
      refine wpAnyH_take (i:=6) (oi:=⟨some 24, .pick (.tmp 20) (.tmp 23) (.const (.bool false)),_,_,_,_⟩) (v:= .bool false) rfl (by kernel_rfl) (by kernel_rfl) (by kernel_rfl) (fun _ _ _ h=>h) (.inl ⟨by rfl,fun W hW=>by go_simp⟩) hS ?_
      try simp only[Act.put,List.setIfInBounds_toArray,List.set_cons_zero,List.set_cons_succ]
      refine wpAnyH_take (i:=7) (oi:=⟨some 25, .move (.tmp 24),_,_,_,_⟩) (v:= .bool false) rfl (by kernel_rfl) (by kernel_rfl) (by kernel_rfl) (fun _ _ _ h=>h) (.inl ⟨by rfl,fun W hW=>by go_simp⟩) hS ?_
      try simp only[Act.put,List.setIfInBounds_toArray,List.set_cons_zero,List.set_cons_succ]
      refine wpAnyH_take (i:=8) (oi:=⟨some 26, .move (.tmp 5),_,_,_,_⟩) (v:=undef) rfl (by kernel_rfl) (by kernel_rfl) (by kernel_rfl) (fun _ _ _ h=>h) (.inr ⟨by rfl,rfl⟩) hS ?_
      try simp only[Act.put,List.setIfInBounds_toArray,List.set_cons_zero,List.set_cons_succ]
      refine wpAnyH_take (i:=9) (oi:=⟨some 27, .binOp .lss 3 (.tmp 26) (.const (.int .i64 0)) 3,_,_,_,_⟩) (v:=undef) rfl (by kernel_rfl) (by kernel_rfl) (by kernel_rfl) (fun _ _ _ h=>h) (.inr ⟨by rfl,rfl⟩) hS ?_
      try simp only[Act.put,List.setIfInBounds_toArray,List.set_cons_zero,List.set_cons_succ]
      refine wpAnyH_take (i:=10) (oi:=⟨some 28, .move (.tmp 27),_,_,_,_⟩) (v:=undef) rfl (by kernel_rfl) (by kernel_rfl) (by kernel_rfl) (fun _ _ _ h=>h) (.inr ⟨by rfl,rfl⟩) hS ?_
      try simp only[Act.put,List.setIfInBounds_toArray,List.set_cons_zero,List.set_cons_succ]
      refine wpAnyH_take (i:=11) (oi:=⟨some 29, .fieldAddr 73 (.tmp 7) 2,_,_,_,_⟩) (v:=undef) rfl (by kernel_rfl) (by kernel_rfl) (by kernel_rfl) (fun _ _ _ h=>h) (.inr ⟨by rfl,rfl⟩) hS ?_
      try simp only[Act.put,List.setIfInBounds_toArray,List.set_cons_zero,List.set_cons_succ]
      refine wpAnyH_take (i:=12) (oi:=⟨some 30, .load 3 (.tmp 29),_,_,_,_⟩) (v:=undef) rfl (by kernel_rfl) (by kernel_rfl) (by kernel_rfl) (fun _ _ _ h=>h) (.inr ⟨by rfl,rfl⟩) hS ?_
      try simp only[Act.put,List.setIfInBounds_toArray,List.set_cons_zero,List.set_cons_succ]
      refine wpAnyH_take (i:=13) (oi:=⟨some 31, .move (.tmp 0),_,_,_,_⟩) (v:=undef) rfl (by kernel_rfl) (by kernel_rfl) (by kernel_rfl) (fun _ _ _ h=>h) (.inr ⟨by rfl,rfl⟩) hS ?_
      try simp only[Act.put,List.setIfInBounds_toArray,List.set_cons_zero,List.set_cons_succ]
      refine wpAnyH_take (i:=14) (oi:=⟨some 32, .nilCheck (.tmp 31),_,_,_,_⟩) (v:=undef) rfl (by kernel_rfl) (by kernel_rfl) (by kernel_rfl) (fun _ _ _ h=>h) (.inr ⟨by rfl,rfl⟩) hS ?_
      try simp only[Act.put,List.setIfInBounds_toArray,List.set_cons_zero,List.set_cons_succ]
      refine wpAnyH_take (i:=15) (oi:=⟨some 33, .fieldAddr 69 (.tmp 32) 1,_,_,_,_⟩) (v:=undef) rfl (by kernel_rfl) (by kernel_rfl) (by kernel_rfl) (fun _ _ _ h=>h) (.inr ⟨by rfl,rfl⟩) hS ?_
      try simp only[Act.put,List.setIfInBounds_toArray,List.set_cons_zero,List.set_cons_succ]
      refine wpAnyH_take (i:=16) (oi:=⟨some 34, .load 67 (.tmp 33),_,_,_,_⟩) (v:=undef) rfl (by kernel_rfl) (by kernel_rfl) (by kernel_rfl) (fun _ _ _ h=>h) (.inr ⟨by rfl,rfl⟩) hS ?_
      try simp only[Act.put,List.setIfInBounds_toArray,List.set_cons_zero,List.set_cons_succ]
      refine wpAnyH_take (i:=17) (oi:=⟨some 35, .move (.tmp 5),_,_,_,_⟩) (v:=undef) rfl (by kernel_rfl) (by kernel_rfl) (by kernel_rfl) (fun _ _ _ h=>h) (.inr ⟨by rfl,rfl⟩) hS ?_
      try simp only[Act.put,List.setIfInBounds_toArray,List.set_cons_zero,List.set_cons_succ]
      refine wpAnyH_take (i:=18) (oi:=⟨some 36, .indexAddr 67 (.tmp 34) (.tmp 35),_,_,_,_⟩) (v:=undef) rfl (by kernel_rfl) (by kernel_rfl) (by kernel_rfl) (fun _ _ _ h=>h) (.inr ⟨by rfl,rfl⟩) hS ?_
      try simp only[Act.put,List.setIfInBounds_toArray,List.set_cons_zero,List.set_cons_succ]
      refine wpAnyH_take (i:=19) (oi:=⟨some 37, .fieldAddr 73 (.tmp 36) 2,_,_,_,_⟩) (v:=undef) rfl (by kernel_rfl) (by kernel_rfl) (by kernel_rfl) (fun _ _ _ h=>h) (.inr ⟨by rfl,rfl⟩) hS ?_
      try simp only[Act.put,List.setIfInBounds_toArray,List.set_cons_zero,List.set_cons_succ]
      refine wpAnyH_take (i:=20) (oi:=⟨some 38, .load 3 (.tmp 37),_,_,_,_⟩) (v:=undef) rfl (by kernel_rfl) (by kernel_rfl) (by kernel_rfl) (fun _ _ _ h=>h) (.inr ⟨by rfl,rfl⟩) hS ?_
      try simp only[Act.put,List.setIfInBounds_toArray,List.set_cons_zero,List.set_cons_succ]
      refine wpAnyH_take (i:=21) (oi:=⟨some 39, .binOp .lss 3 (.tmp 30) (.tmp 38) 3,_,_,_,_⟩) (v:=undef) rfl (by kernel_rfl) (by kernel_rfl) (by kernel_rfl) (fun _ _ _ h=>h) (.inr ⟨by rfl,rfl⟩) hS ?_
      try simp only[Act.put,List.setIfInBounds_toArray,List.set_cons_zero,List.set_cons_succ]
      refine wpAnyH_take (i:=22) (oi:=⟨some 40, .pick (.tmp 28) (.const (.bool true)) (.tmp 39),_,_,_,_⟩) (v:=undef) rfl (by kernel_rfl) (by kernel_rfl) (by kernel_rfl) (fun _ _ _ h=>h) (.inr ⟨by rfl,rfl⟩) hS ?_
      try simp only[Act.put,List.setIfInBounds_toArray,List.set_cons_zero,List.set_cons_succ]
      refine wpAnyH_take (i:=23) (oi:=⟨some 41, .pick (.tmp 25) (.tmp 40) (.const (.bool false)),_,_,_,_⟩) (v:= .bool false) rfl (by kernel_rfl) (by kernel_rfl) (by kernel_rfl) (fun _ _ _ h=>h) (.inl ⟨by rfl,fun W hW=>by go_simp⟩) hS ?_
      try simp only[Act.put,List.setIfInBounds_toArray,List.set_cons_zero,List.set_cons_succ]
      refine wpAnyH_done (by kernel_rfl) ?_ _;have hbr5:=hbr4.trans (hS.mono hbr4.size);clear hS hbr4;go_wp2_with fail;go_roundw
      case rel=>exact⟨k+1,o,by omega,by go_num,rfl,HN,hbr5⟩
      case measure=>simp[intOf];omega
     |true=>
      rw[hp]at hp4
      cases o with
      |none=>
       have HN:Hid (bestN (fun x=>keptB x&&p x) lessB X (k+1)=some k):=by
        show _=_;rw[HSU.out,hkb,hp];rfl
       clear hkb HSU HX hp HLOW HOX;have hS:=(Below.refl w4.heap.size w4).drew;refine wp_region_held_drew (S:=fun W=>Below w4.heap.size w4 W) (by kernel_rfl) hS (fun _=> ?_);refine wpAnyH_take (i:=0) (oi:=⟨some 18, .load 73 (.tmp 7),_,_,_,_⟩) (v:= .agg #[.int .i64 x.id, .bool x.key.safe, .string ⟨x.key.host.toArray⟩, .int .i64 x.key.port, .int .i64 x.given]) rfl (by kernel_rfl) (by kernel_rfl) (by kernel_rfl) (fun _ _ _ h=>h) (yieldsIf_load_at (by rfl) 73 (.tmp 7) rfl ⟨wr.heap.size,0,none⟩ rfl [.int .i64 x.id, .bool x.key.safe, .string ⟨x.key.host.toArray⟩, .int .i64 x.key.port, .int .i64 x.given] _ hX4 Tryz.underlying73 rfl hik) hS ?_
       try simp only[Act.put,List.setIfInBounds_toArray,List.set_cons_zero,List.set_cons_succ]
       refine wpAnyH_ready (rs:=[1]) (by kernel_rfl) (by simp) ?_;refine AllReadyH.cons (o:=⟨some 19, .call {callee:= .value (.func 27),args:= #[.tmp 18],argTypes:= #[73]},_,_,_,_⟩) rfl (fun K hK=> ?_) AllReadyH.nil;go_simp;go_at_call 27;refine(hk4 _).mono ?_;rintro e z1 ⟨rfl,hn⟩;go_wp2_with fail;have hS1:=hS.trans (hn.mono hS.size);refine hK.out _ _ hS1 (fun _=> ?_);clear hK hS hn K;have hS:=hS1;clear hS1
       try simp only[Act.put,List.setIfInBounds_toArray,List.set_cons_zero,List.set_cons_succ]
       refine wpAnyH_take (i:=2) (oi:=⟨some 20, .move (.tmp 19),_,_,_,_⟩) (v:= .bool true) rfl (by kernel_rfl) (by kernel_rfl) (by kernel_rfl) (fun _ _ _ h=>h) (.inl ⟨by rfl,fun W hW=>by go_simp⟩) hS ?_
       try simp only[Act.put,List.setIfInBounds_toArray,List.set_cons_zero,List.set_cons_succ]
       refine wpAnyH_take (i:=3) (oi:=⟨some 21, .move (.tmp 1),_,_,_,_⟩) (v:= .func (.func fn) #[] cap) rfl (by kernel_rfl) (by kernel_rfl) (by kernel_rfl) (fun _ _ _ h=>h) (.inl ⟨by rfl,fun W hW=>by go_simp⟩) hS ?_
       try simp only[Act.put,List.setIfInBounds_toArray,List.set_cons_zero,List.set_cons_succ]
       refine wpAnyH_take (i:=4) (oi:=⟨some 22, .load 73 (.tmp 7),_,_,_,_⟩) (v:= .agg #[.int .i64 x.id, .bool x.key.safe, .string ⟨x.key.host.toArray⟩, .int .i64 x.key.port, .int .i64 x.given]) rfl (by kernel_rfl) (by kernel_rfl) (by kernel_rfl) (fun _ _ _ h=>h) (yieldsIf_load_at (by rfl) 73 (.tmp 7) rfl ⟨wr.heap.size,0,none⟩ rfl [.int .i64 x.id, .bool x.key.safe, .string ⟨x.key.host.toArray⟩, .int .i64 x.key.port, .int .i64 x.given] _ hX4 Tryz.underlying73 rfl hik) hS ?_
       try simp only[Act.put,List.setIfInBounds_toArray,List.set_cons_zero,List.set_cons_succ]
       refine wpAnyH_ready (rs:=[5]) (by kernel_rfl) (by simp) ?_;refine AllReadyH.cons (o:=⟨some 23, .call {callee:= .value (.tmp 21),args:= #[.tmp 22],argTypes:= #[73]},_,_,_,_⟩) rfl (fun K hK=> ?_) AllReadyH.nil;go_simp;go_at_fn fn;refine(hp4 _ hS).mono ?_;rintro e z2 ⟨rfl,hn⟩;go_wp2_with fail;have hS1:=hS.trans (hn.mono hS.size);refine hK.out _ _ hS1 (fun _=> ?_);clear hK hS hn K;have hS:=hS1;clear hS1
       try simp only[Act.put,List.setIfInBounds_toArray,List.set_cons_zero,List.set_cons_succ]
       refine wpAnyH_take (i:=6) (oi:=⟨some 24, .pick (.tmp 20) (.tmp 23) (.const (.bool false)),_,_,_,_⟩) (v:= .bool true) rfl (by kernel_rfl) (by kernel_rfl) (by kernel_rfl) (fun _ _ _ h=>h) (.inl ⟨by rfl,fun W hW=>by go_simp⟩) hS ?_
       try simp only[Act.put,List.setIfInBounds_toArray,List.set_cons_zero,List.set_cons_succ]
       refine wpAnyH_take (i:=7) (oi:=⟨some 25, .move (.tmp 24),_,_,_,_⟩) (v:= .bool true) rfl (by kernel_rfl) (by kernel_rfl) (by kernel_rfl) (fun _ _ _ h=>h) (.inl ⟨by rfl,fun W hW=>by go_simp⟩) hS ?_
       try simp only[Act.put,List.setIfInBounds_toArray,List.set_cons_zero,List.set_cons_succ]
       refine wpAnyH_take (i:=8) (oi:=⟨some 26, .move (.tmp 5),_,_,_,_⟩) (v:= .int .i64 (-1)) rfl (by kernel_rfl) (by kernel_rfl) (by kernel_rfl) (fun _ _ _ h=>h) (.inl ⟨by rfl,fun W hW=>by go_simp;rfl⟩) hS ?_
       try simp only[Act.put,List.setIfInBounds_toArray,List.set_cons_zero,List.set_cons_succ]
       refine wpAnyH_take (i:=9) (oi:=⟨some 27, .binOp .lss 3 (.tmp 26) (.const (.int .i64 0)) 3,_,_,_,_⟩) (v:= .bool true) rfl (by kernel_rfl) (by kernel_rfl) (by kernel_rfl) (fun _ _ _ h=>h) (.inl ⟨by rfl,fun W hW=>by go_simp⟩) hS ?_
       try simp only[Act.put,List.setIfInBounds_toArray,List.set_cons_zero,List.set_cons_succ]
       refine wpAnyH_take (i:=10) (oi:=⟨some 28, .move (.tmp 27),_,_,_,_⟩) (v:= .bool true) rfl (by kernel_rfl) (by kernel_rfl) (by kernel_rfl) (fun _ _ _ h=>h) (.inl ⟨by rfl,fun W hW=>by go_simp⟩) hS ?_
       try simp only[Act.put,List.setIfInBounds_toArray,List.set_cons_zero,List.set_cons_succ]
       refine wpAnyH_take (i:=11) (oi:=⟨some 29, .fieldAddr 73 (.tmp 7) 2,_,_,_,_⟩) (v:=undef) rfl (by kernel_rfl) (by kernel_rfl) (by kernel_rfl) (fun _ _ _ h=>h) (.inr ⟨by rfl,rfl⟩) hS ?_
       try simp only[Act.put,List.setIfInBounds_toArray,List.set_cons_zero,List.set_cons_succ]
       refine wpAnyH_take (i:=12) (oi:=⟨some 30, .load 3 (.tmp 29),_,_,_,_⟩) (v:=undef) rfl (by kernel_rfl) (by kernel_rfl) (by kernel_rfl) (fun _ _ _ h=>h) (.inr ⟨by rfl,rfl⟩) hS ?_
       try simp only[Act.put,List.setIfInBounds_toArray,List.set_cons_zero,List.set_cons_succ]
       refine wpAnyH_take (i:=13) (oi:=⟨some 31, .move (.tmp 0),_,_,_,_⟩) (v:=undef) rfl (by kernel_rfl) (by kernel_rfl) (by kernel_rfl) (fun _ _ _ h=>h) (.inr ⟨by rfl,rfl⟩) hS ?_
       try simp only[Act.put,List.setIfInBounds_toArray,List.set_cons_zero,List.set_cons_succ]
       refine wpAnyH_take (i:=14) (oi:=⟨some 32, .nilCheck (.tmp 31),_,_,_,_⟩) (v:=undef) rfl (by kernel_rfl) (by kernel_rfl) (by kernel_rfl) (fun _ _ _ h=>h) (.inr ⟨by rfl,rfl⟩) hS ?_
       try simp only[Act.put,List.setIfInBounds_toArray,List.set_cons_zero,List.set_cons_succ]
       refine wpAnyH_take (i:=15) (oi:=⟨some 33, .fieldAddr 69 (.tmp 32) 1,_,_,_,_⟩) (v:=undef) rfl (by kernel_rfl) (by kernel_rfl) (by kernel_rfl) (fun _ _ _ h=>h) (.inr ⟨by rfl,rfl⟩) hS ?_
       try simp only[Act.put,List.setIfInBounds_toArray,List.set_cons_zero,List.set_cons_succ]
       refine wpAnyH_take (i:=16) (oi:=⟨some 34, .load 67 (.tmp 33),_,_,_,_⟩) (v:=undef) rfl (by kernel_rfl) (by kernel_rfl) (by kernel_rfl) (fun _ _ _ h=>h) (.inr ⟨by rfl,rfl⟩) hS ?_
       try simp only[Act.put,List.setIfInBounds_toArray,List.set_cons_zero,List.set_cons_succ]
       refine wpAnyH_take (i:=17) (oi:=⟨some 35, .move (.tmp 5),_,_,_,_⟩) (v:=undef) rfl (by kernel_rfl) (by kernel_rfl) (by kernel_rfl) (fun _ _ _ h=>h) (.inr ⟨by rfl,rfl⟩) hS ?_
       try simp only[Act.put,List.setIfInBounds_toArray,List.set_cons_zero,List.set_cons_succ]
       refine wpAnyH_take (i:=18) (oi:=⟨some 36, .indexAddr 67 (.tmp 34) (.tmp 35),_,_,_,_⟩) (v:=undef) rfl (by kernel_rfl) (by kernel_rfl) (by kernel_rfl) (fun _ _ _ h=>h) (.inr ⟨by rfl,rfl⟩) hS ?_
       try simp only[Act.put,List.setIfInBounds_toArray,List.set_cons_zero,List.set_cons_succ]
       refine wpAnyH_take (i:=19) (oi:=⟨some 37, .fieldAddr 73 (.tmp 36) 2,_,_,_,_⟩) (v:=undef) rfl (by kernel_rfl) (by kernel_rfl) (by kernel_rfl) (fun _ _ _ h=>h) (.inr ⟨by rfl,rfl⟩) hS ?_
       try simp only[Act.put,List.setIfInBounds_toArray,List.set_cons_zero,List.set_cons_succ]
       refine wpAnyH_take (i:=20) (oi:=⟨some 38, .load 3 (.tmp 37),_,_,_,_⟩) (v:=undef) rfl (by kernel_rfl) (by kernel_rfl) (by kernel_rfl) (fun _ _ _ h=>h) (.inr ⟨by rfl,rfl⟩) hS ?_
       try simp only[Act.put,List.setIfInBounds_toArray,List.set_cons_zero,List.set_cons_succ]
       refine wpAnyH_take (i:=21) (oi:=⟨some 39, .binOp .lss 3 (.tmp 30) (.tmp 38) 3,_,_,_,_⟩) (v:=undef) rfl (by kernel_rfl) (by kernel_rfl) (by kernel_rfl) (fun _ _ _ h=>h) (.inr ⟨by rfl,rfl⟩) hS ?_
       try simp only[Act.put,List.setIfInBounds_toArray,List.set_cons_zero,List.set_cons_succ]
       refine wpAnyH_take (i:=22) (oi:=⟨some 40, .pick (.tmp 28) (.const (.bool true)) (.tmp 39),_,_,_,_⟩) (v:= .bool true) rfl (by kernel_rfl) (by kernel_rfl) (by kernel_rfl) (fun _ _ _ h=>h) (.inl ⟨by rfl,fun W hW=>by go_simp⟩) hS ?_
       try simp only[Act.put,List.setIfInBounds_toArray,List.set_cons_zero,List.set_cons_succ]
       refine wpAnyH_take (i:=23) (oi:=⟨some 41, .pick (.tmp 25) (.tmp 40) (.const (.bool false)),_,_,_,_⟩) (v:= .bool true) rfl (by kernel_rfl) (by kernel_rfl) (by kernel_rfl) (fun _ _ _ h=>h) (.inl ⟨by rfl,fun W hW=>by go_simp⟩) hS ?_
       try simp only[Act.put,List.setIfInBounds_toArray,List.set_cons_zero,List.set_cons_succ]
       refine wpAnyH_done (by kernel_rfl) ?_ _;have hbr5:=hbr4.trans (hS.mono hbr4.size);clear hS hbr4;go_wp2_with fail;go_roundw
       case rel=>exact⟨k+1,some k,by omega,by go_num,rfl,HN,hbr5⟩
       case measure=>simp[intOf];omega
      |some a=>
       have haX:=HOX.out a rfl;have hai:(a:Int)<(X.length:Int):=by omega
       have hlow:=HLOW.out a haX;have hN:bestN (fun x=>keptB x&&p x) lessB X (k+1)=if lessB x X[a]then some k else some a:=by
        rw[HSU.out,hkb,hp];show(if (true&&freeB lessB x (X[a]?))=true then some k else some a)=_;rw[List.getElem?_eq_getElem haX];rfl
       generalize X[a]=y at*;by_cases hlo:x.given<y.given
       ·have HN:Hid (bestN (fun x=>keptB x&&p x) lessB X (k+1)=some k):=by
         show _=_;rw[hN];unfold lessB;rw[decide_eq_true hlo];rfl
        clear hkb HSU HX hp hN HOX HLOW;have hS:=(Below.refl w4.heap.size w4).drew;refine wp_region_held_drew (S:=fun W=>Below w4.heap.size w4 W) (by kernel_rfl) hS (fun _=> ?_);refine wpAnyH_take (i:=0) (oi:=⟨some 18, .load 73 (.tmp 7),_,_,_,_⟩) (v:= .agg #[.int .i64 x.id, .bool x.key.safe, .string ⟨x.key.host.toArray⟩, .int .i64 x.key.port, .int .i64 x.given]) rfl (by kernel_rfl) (by kernel_rfl) (by kernel_rfl) (fun _ _ _ h=>h) (yieldsIf_load_at (by rfl) 73 (.tmp 7) rfl ⟨wr.heap.size,0,none⟩ rfl [.int .i64 x.id, .bool x.key.safe, .string ⟨x.key.host.toArray⟩, .int .i64 x.key.port, .int .i64 x.given] _ hX4 Tryz.underlying73 rfl hik) hS ?_
        try simp only[Act.put,List.setIfInBounds_toArray,List.set_cons_zero,List.set_cons_succ]
        refine wpAnyH_ready (rs:=[1]) (by kernel_rfl) (by simp) ?_;refine AllReadyH.cons (o:=⟨some 19, .call {callee:= .value (.func 27),args:= #[.tmp 18],argTypes:= #[73]},_,_,_,_⟩) rfl (fun K hK=> ?_) AllReadyH.nil;go_simp;go_at_call 27;refine(hk4 _).mono ?_;rintro e z1 ⟨rfl,hn⟩;go_wp2_with fail;have hS1:=hS.trans (hn.mono hS.size);refine hK.out _ _ hS1 (fun _=> ?_);clear hK hS hn K;have hS:=hS1;clear hS1
        try simp only[Act.put,List.setIfInBounds_toArray,List.set_cons_zero,List.set_cons_succ]
        refine wpAnyH_take (i:=2) (oi:=⟨some 20, .move (.tmp 19),_,_,_,_⟩) (v:= .bool true) rfl (by kernel_rfl) (by kernel_rfl) (by kernel_rfl) (fun _ _ _ h=>h) (.inl ⟨by rfl,fun W hW=>by go_simp⟩) hS ?_
        try simp only[Act.put,List.setIfInBounds_toArray,List.set_cons_zero,List.set_cons_succ]
        refine wpAnyH_take (i:=3) (oi:=⟨some 21, .move (.tmp 1),_,_,_,_⟩) (v:= .func (.func fn) #[] cap) rfl (by kernel_rfl) (by kernel_rfl) (by kernel_rfl) (fun _ _ _ h=>h) (.inl ⟨by rfl,fun W hW=>by go_simp⟩) hS ?_
        try simp only[Act.put,List.setIfInBounds_toArray,List.set_cons_zero,List.set_cons_succ]
        refine wpAnyH_take (i:=4) (oi:=⟨some 22, .load 73 (.tmp 7),_,_,_,_⟩) (v:= .agg #[.int .i64 x.id, .bool x.key.safe, .string ⟨x.key.host.toArray⟩, .int .i64 x.key.port, .int .i64 x.given]) rfl (by kernel_rfl) (by kernel_rfl) (by kernel_rfl) (fun _ _ _ h=>h) (yieldsIf_load_at (by rfl) 73 (.tmp 7) rfl ⟨wr.heap.size,0,none⟩ rfl [.int .i64 x.id, .bool x.key.safe, .string ⟨x.key.host.toArray⟩, .int .i64 x.key.port, .int .i64 x.given] _ hX4 Tryz.underlying73 rfl hik) hS ?_
        try simp only[Act.put,List.setIfInBounds_toArray,List.set_cons_zero,List.set_cons_succ]
        refine wpAnyH_ready (rs:=[5]) (by kernel_rfl) (by simp) ?_;refine AllReadyH.cons (o:=⟨some 23, .call {callee:= .value (.tmp 21),args:= #[.tmp 22],argTypes:= #[73]},_,_,_,_⟩) rfl (fun K hK=> ?_) AllReadyH.nil;go_simp;go_at_fn fn;refine(hp4 _ hS).mono ?_;rintro e z2 ⟨rfl,hn⟩;go_wp2_with fail;have hS1:=hS.trans (hn.mono hS.size);refine hK.out _ _ hS1 (fun _=> ?_);clear hK hS hn K;have hS:=hS1;clear hS1
        try simp only[Act.put,List.setIfInBounds_toArray,List.set_cons_zero,List.set_cons_succ]
        refine wpAnyH_take (i:=6) (oi:=⟨some 24, .pick (.tmp 20) (.tmp 23) (.const (.bool false)),_,_,_,_⟩) (v:= .bool true) rfl (by kernel_rfl) (by kernel_rfl) (by kernel_rfl) (fun _ _ _ h=>h) (.inl ⟨by rfl,fun W hW=>by go_simp⟩) hS ?_
        try simp only[Act.put,List.setIfInBounds_toArray,List.set_cons_zero,List.set_cons_succ]
        refine wpAnyH_take (i:=7) (oi:=⟨some 25, .move (.tmp 24),_,_,_,_⟩) (v:= .bool true) rfl (by kernel_rfl) (by kernel_rfl) (by kernel_rfl) (fun _ _ _ h=>h) (.inl ⟨by rfl,fun W hW=>by go_simp⟩) hS ?_
        try simp only[Act.put,List.setIfInBounds_toArray,List.set_cons_zero,List.set_cons_succ]
        refine wpAnyH_take (i:=8) (oi:=⟨some 26, .move (.tmp 5),_,_,_,_⟩) (v:= .int .i64 a) rfl (by kernel_rfl) (by kernel_rfl) (by kernel_rfl) (fun _ _ _ h=>h) (.inl ⟨by rfl,fun W hW=>by go_simp;rfl⟩) hS ?_
        try simp only[Act.put,List.setIfInBounds_toArray,List.set_cons_zero,List.set_cons_succ]
        refine wpAnyH_take (i:=9) (oi:=⟨some 27, .binOp .lss 3 (.tmp 26) (.const (.int .i64 0)) 3,_,_,_,_⟩) (v:= .bool false) rfl (by kernel_rfl) (by kernel_rfl) (by kernel_rfl) (fun _ _ _ h=>h) (.inl ⟨by rfl,fun W hW=>by go_simp⟩) hS ?_
        try simp only[Act.put,List.setIfInBounds_toArray,List.set_cons_zero,List.set_cons_succ]
        refine wpAnyH_take (i:=10) (oi:=⟨some 28, .move (.tmp 27),_,_,_,_⟩) (v:= .bool false) rfl (by kernel_rfl) (by kernel_rfl) (by kernel_rfl) (fun _ _ _ h=>h) (.inl ⟨by rfl,fun W hW=>by go_simp⟩) hS ?_
        try simp only[Act.put,List.setIfInBounds_toArray,List.set_cons_zero,List.set_cons_succ]
        refine wpAnyH_take (i:=11) (oi:=⟨some 29, .fieldAddr 73 (.tmp 7) 2,_,_,_,_⟩) (v:= .pointer (some ⟨wr.heap.size,4,none⟩)) rfl (by kernel_rfl) (by kernel_rfl) (by kernel_rfl) (fun _ _ _ h=>h) (.inl ⟨by rfl,fun W hW=>by go_simp⟩) hS ?_
        try simp only[Act.put,List.setIfInBounds_toArray,List.set_cons_zero,List.set_cons_succ]
        refine wpAnyH_take (i:=12) (oi:=⟨some 30, .load 3 (.tmp 29),_,_,_,_⟩) (v:= .int .i64 x.given) rfl (by kernel_rfl) (by kernel_rfl) (by kernel_rfl) (fun _ _ _ h=>h) (.inl ⟨by rfl,fun W hW=>by have:=hX5 W hW;go_simp⟩) hS ?_
        try simp only[Act.put,List.setIfInBounds_toArray,List.set_cons_zero,List.set_cons_succ]
        refine wpAnyH_take (i:=13) (oi:=⟨some 31, .move (.tmp 0),_,_,_,_⟩) (v:= .pointer (some ⟨B,0,none⟩)) rfl (by kernel_rfl) (by kernel_rfl) (by kernel_rfl) (fun _ _ _ h=>h) (.inl ⟨by rfl,fun W hW=>by go_simp⟩) hS ?_
        try simp only[Act.put,List.setIfInBounds_toArray,List.set_cons_zero,List.set_cons_succ]
        refine wpAnyH_take (i:=14) (oi:=⟨some 32, .nilCheck (.tmp 31),_,_,_,_⟩) (v:= .pointer (some ⟨B,0,none⟩)) rfl (by kernel_rfl) (by kernel_rfl) (by kernel_rfl) (fun _ _ _ h=>h) (.inl ⟨by rfl,fun W hW=>by go_simp⟩) hS ?_
        try simp only[Act.put,List.setIfInBounds_toArray,List.set_cons_zero,List.set_cons_succ]
        refine wpAnyH_take (i:=15) (oi:=⟨some 33, .fieldAddr 69 (.tmp 32) 1,_,_,_,_⟩) (v:= .pointer (some ⟨B,1,none⟩)) rfl (by kernel_rfl) (by kernel_rfl) (by kernel_rfl) (fun _ _ _ h=>h) (.inl ⟨by rfl,fun W hW=>by go_simp⟩) hS ?_
        try simp only[Act.put,List.setIfInBounds_toArray,List.set_cons_zero,List.set_cons_succ]
        refine wpAnyH_take (i:=16) (oi:=⟨some 34, .load 67 (.tmp 33),_,_,_,_⟩) (v:= .slice (some ⟨g,0,none⟩) X.length cp) rfl (by kernel_rfl) (by kernel_rfl) (by kernel_rfl) (fun _ _ _ h=>h) (.inl ⟨by rfl,fun W hW=>by have:=hB5 W hW;go_simp⟩) hS ?_
        try simp only[Act.put,List.setIfInBounds_toArray,List.set_cons_zero,List.set_cons_succ]
        refine wpAnyH_take (i:=17) (oi:=⟨some 35, .move (.tmp 5),_,_,_,_⟩) (v:= .int .i64 a) rfl (by kernel_rfl) (by kernel_rfl) (by kernel_rfl) (fun _ _ _ h=>h) (.inl ⟨by rfl,fun W hW=>by go_simp;rfl⟩) hS ?_
        try simp only[Act.put,List.setIfInBounds_toArray,List.set_cons_zero,List.set_cons_succ]
        refine wpAnyH_take (i:=18) (oi:=⟨some 36, .indexAddr 67 (.tmp 34) (.tmp 35),_,_,_,_⟩) (v:= .pointer (some ⟨g,a*5,none⟩)) rfl (by kernel_rfl) (by kernel_rfl) (by kernel_rfl) (fun _ _ _ h=>h) (.inl ⟨by rfl,fun W hW=>by go_simp⟩) hS ?_
        try simp only[Act.put,List.setIfInBounds_toArray,List.set_cons_zero,List.set_cons_succ]
        refine wpAnyH_take (i:=19) (oi:=⟨some 37, .fieldAddr 73 (.tmp 36) 2,_,_,_,_⟩) (v:= .pointer (some ⟨g,a*5+4,none⟩)) rfl (by kernel_rfl) (by kernel_rfl) (by kernel_rfl) (fun _ _ _ h=>h) (.inl ⟨by rfl,fun W hW=>by go_simp⟩) hS ?_
        try simp only[Act.put,List.setIfInBounds_toArray,List.set_cons_zero,List.set_cons_succ]
        refine wpAnyH_take (i:=20) (oi:=⟨some 38, .load 3 (.tmp 37),_,_,_,_⟩) (v:= .int .i64 y.given) rfl (by kernel_rfl) (by kernel_rfl) (by kernel_rfl) (fun _ _ _ h=>h) (.inl ⟨by rfl,fun W hW=>by have:=hlow W hW;go_simp⟩) hS ?_
        try simp only[Act.put,List.setIfInBounds_toArray,List.set_cons_zero,List.set_cons_succ]
        refine wpAnyH_take (i:=21) (oi:=⟨some 39, .binOp .lss 3 (.tmp 30) (.tmp 38) 3,_,_,_,_⟩) (v:= .bool true) rfl (by kernel_rfl) (by kernel_rfl) (by kernel_rfl) (fun _ _ _ h=>h) (.inl ⟨by rfl,fun W hW=>by go_simp⟩) hS ?_
        try simp only[Act.put,List.setIfInBounds_toArray,List.set_cons_zero,List.set_cons_succ]
        refine wpAnyH_take (i:=22) (oi:=⟨some 40, .pick (.tmp 28) (.const (.bool true)) (.tmp 39),_,_,_,_⟩) (v:= .bool true) rfl (by kernel_rfl) (by kernel_rfl) (by kernel_rfl) (fun _ _ _ h=>h) (.inl ⟨by rfl,fun W hW=>by go_simp⟩) hS ?_
        try simp only[Act.put,List.setIfInBounds_toArray,List.set_cons_zero,List.set_cons_succ]
        refine wpAnyH_take (i:=23) (oi:=⟨some 41, .pick (.tmp 25) (.tmp 40) (.const (.bool false)),_,_,_,_⟩) (v:= .bool true) rfl (by kernel_rfl) (by kernel_rfl) (by kernel_rfl) (fun _ _ _ h=>h) (.inl ⟨by rfl,fun W hW=>by go_simp⟩) hS ?_
        try simp only[Act.put,List.setIfInBounds_toArray,List.set_cons_zero,List.set_cons_succ]
        refine wpAnyH_done (by kernel_rfl) ?_ _;have hbr5:=hbr4.trans (hS.mono hbr4.size);clear hS hbr4;go_wp2_with fail;go_roundw
        case rel=>exact⟨k+1,some k,by omega,by go_num,rfl,HN,hbr5⟩
        case measure=>simp[intOf];omega
       ·have HN:Hid (bestN (fun x=>keptB x&&p x) lessB X (k+1)=some a):=by
         show _=_;rw[hN];unfold lessB;rw[decide_eq_false hlo];rfl
        have hlo2:y.given≤x.given:=by omega
        clear hkb HSU HX hp hN HOX HLOW hlo;have hS:=(Below.refl w4.heap.size w4).drew;refine wp_region_held_drew (S:=fun W=>Below w4.heap.size w4 W) (by kernel_rfl) hS (fun _=> ?_);refine wpAnyH_take (i:=0) (oi:=⟨some 18, .load 73 (.tmp 7),_,_,_,_⟩) (v:= .agg #[.int .i64 x.id, .bool x.key.safe, .string ⟨x.key.host.toArray⟩, .int .i64 x.key.port, .int .i64 x.given]) rfl (by kernel_rfl) (by kernel_rfl) (by kernel_rfl) (fun _ _ _ h=>h) (yieldsIf_load_at (by rfl) 73 (.tmp 7) rfl ⟨wr.heap.size,0,none⟩ rfl [.int .i64 x.id, .bool x.key.safe, .string ⟨x.key.host.toArray⟩, .int .i64 x.key.port, .int .i64 x.given] _ hX4 Tryz.underlying73 rfl hik) hS ?_
        try simp only[Act.put,List.setIfInBounds_toArray,List.set_cons_zero,List.set_cons_succ]
        refine wpAnyH_ready (rs:=[1]) (by kernel_rfl) (by simp) ?_;refine AllReadyH.cons (o:=⟨some 19, .call {callee:= .value (.func 27),args:= #[.tmp 18],argTypes:= #[73]},_,_,_,_⟩) rfl (fun K hK=> ?_) AllReadyH.nil;go_simp;go_at_call 27;refine(hk4 _).mono ?_;rintro e z1 ⟨rfl,hn⟩;go_wp2_with fail;have hS1:=hS.trans (hn.mono hS.size);refine hK.out _ _ hS1 (fun _=> ?_);clear hK hS hn K;have hS:=hS1;clear hS1
        try simp only[Act.put,List.setIfInBounds_toArray,List.set_cons_zero,List.set_cons_succ]
        refine wpAnyH_take (i:=2) (oi:=⟨some 20, .move (.tmp 19),_,_,_,_⟩) (v:= .bool true) rfl (by kernel_rfl) (by kernel_rfl) (by kernel_rfl) (fun _ _ _ h=>h) (.inl ⟨by rfl,fun W hW=>by go_simp⟩) hS ?_
        try simp only[Act.put,List.setIfInBounds_toArray,List.set_cons_zero,List.set_cons_succ]
        refine wpAnyH_take (i:=3) (oi:=⟨some 21, .move (.tmp 1),_,_,_,_⟩) (v:= .func (.func fn) #[] cap) rfl (by kernel_rfl) (by kernel_rfl) (by kernel_rfl) (fun _ _ _ h=>h) (.inl ⟨by rfl,fun W hW=>by go_simp⟩) hS ?_
        try simp only[Act.put,List.setIfInBounds_toArray,List.set_cons_zero,List.set_cons_succ]
        refine wpAnyH_take (i:=4) (oi:=⟨some 22, .load 73 (.tmp 7),_,_,_,_⟩) (v:= .agg #[.int .i64 x.id, .bool x.key.safe, .string ⟨x.key.host.toArray⟩, .int .i64 x.key.port, .int .i64 x.given]) rfl (by kernel_rfl) (by kernel_rfl) (by kernel_rfl) (fun _ _ _ h=>h) (yieldsIf_load_at (by rfl) 73 (.tmp 7) rfl ⟨wr.heap.size,0,none⟩ rfl [.int .i64 x.id, .bool x.key.safe, .string ⟨x.key.host.toArray⟩, .int .i64 x.key.port, .int .i64 x.given] _ hX4 Tryz.underlying73 rfl hik) hS ?_
        try simp only[Act.put,List.setIfInBounds_toArray,List.set_cons_zero,List.set_cons_succ]
        refine wpAnyH_ready (rs:=[5]) (by kernel_rfl) (by simp) ?_;refine AllReadyH.cons (o:=⟨some 23, .call {callee:= .value (.tmp 21),args:= #[.tmp 22],argTypes:= #[73]},_,_,_,_⟩) rfl (fun K hK=> ?_) AllReadyH.nil;go_simp;go_at_fn fn;refine(hp4 _ hS).mono ?_;rintro e z2 ⟨rfl,hn⟩;go_wp2_with fail;have hS1:=hS.trans (hn.mono hS.size);refine hK.out _ _ hS1 (fun _=> ?_);clear hK hS hn K;have hS:=hS1;clear hS1
        try simp only[Act.put,List.setIfInBounds_toArray,List.set_cons_zero,List.set_cons_succ]
        refine wpAnyH_take (i:=6) (oi:=⟨some 24, .pick (.tmp 20) (.tmp 23) (.const (.bool false)),_,_,_,_⟩) (v:= .bool true) rfl (by kernel_rfl) (by kernel_rfl) (by kernel_rfl) (fun _ _ _ h=>h) (.inl ⟨by rfl,fun W hW=>by go_simp⟩) hS ?_
        try simp only[Act.put,List.setIfInBounds_toArray,List.set_cons_zero,List.set_cons_succ]
        refine wpAnyH_take (i:=7) (oi:=⟨some 25, .move (.tmp 24),_,_,_,_⟩) (v:= .bool true) rfl (by kernel_rfl) (by kernel_rfl) (by kernel_rfl) (fun _ _ _ h=>h) (.inl ⟨by rfl,fun W hW=>by go_simp⟩) hS ?_
        try simp only[Act.put,List.setIfInBounds_toArray,List.set_cons_zero,List.set_cons_succ]
        refine wpAnyH_take (i:=8) (oi:=⟨some 26, .move (.tmp 5),_,_,_,_⟩) (v:= .int .i64 a) rfl (by kernel_rfl) (by kernel_rfl) (by kernel_rfl) (fun _ _ _ h=>h) (.inl ⟨by rfl,fun W hW=>by go_simp;rfl⟩) hS ?_
        try simp only[Act.put,List.setIfInBounds_toArray,List.set_cons_zero,List.set_cons_succ]
        refine wpAnyH_take (i:=9) (oi:=⟨some 27, .binOp .lss 3 (.tmp 26) (.const (.int .i64 0)) 3,_,_,_,_⟩) (v:= .bool false) rfl (by kernel_rfl) (by kernel_rfl) (by kernel_rfl) (fun _ _ _ h=>h) (.inl ⟨by rfl,fun W hW=>by go_simp⟩) hS ?_
        try simp only[Act.put,List.setIfInBounds_toArray,List.set_cons_zero,List.set_cons_succ]
        refine wpAnyH_take (i:=10) (oi:=⟨some 28, .move (.tmp 27),_,_,_,_⟩) (v:= .bool false) rfl (by kernel_rfl) (by kernel_rfl) (by kernel_rfl) (fun _ _ _ h=>h) (.inl ⟨by rfl,fun W hW=>by go_simp⟩) hS ?_
        try simp only[Act.put,List.setIfInBounds_toArray,List.set_cons_zero,List.set_cons_succ]
        refine wpAnyH_take (i:=11) (oi:=⟨some 29, .fieldAddr 73 (.tmp 7) 2,_,_,_,_⟩) (v:= .pointer (some ⟨wr.heap.size,4,none⟩)) rfl (by kernel_rfl) (by kernel_rfl) (by kernel_rfl) (fun _ _ _ h=>h) (.inl ⟨by rfl,fun W hW=>by go_simp⟩) hS ?_
        try simp only[Act.put,List.setIfInBounds_toArray,List.set_cons_zero,List.set_cons_succ]
        refine wpAnyH_take (i:=12) (oi:=⟨some 30, .load 3 (.tmp 29),_,_,_,_⟩) (v:= .int .i64 x.given) rfl (by kernel_rfl) (by kernel_rfl) (by kernel_rfl) (fun _ _ _ h=>h) (.inl ⟨by rfl,fun W hW=>by have:=hX5 W hW;go_simp⟩) hS ?_
        try simp only[Act.put,List.setIfInBounds_toArray,List.set_cons_zero,List.set_cons_succ]
        refine wpAnyH_take (i:=13) (oi:=⟨some 31, .move (.tmp 0),_,_,_,_⟩) (v:= .pointer (some ⟨B,0,none⟩)) rfl (by kernel_rfl) (by kernel_rfl) (by kernel_rfl) (fun _ _ _ h=>h) (.inl ⟨by rfl,fun W hW=>by go_simp⟩) hS ?_
        try simp only[Act.put,List.setIfInBounds_toArray,List.set_cons_zero,List.set_cons_succ]
        refine wpAnyH_take (i:=14) (oi:=⟨some 32, .nilCheck (.tmp 31),_,_,_,_⟩) (v:= .pointer (some ⟨B,0,none⟩)) rfl (by kernel_rfl) (by kernel_rfl) (by kernel_rfl) (fun _ _ _ h=>h) (.inl ⟨by rfl,fun W hW=>by go_simp⟩) hS ?_
        try simp only[Act.put,List.setIfInBounds_toArray,List.set_cons_zero,List.set_cons_succ]
        refine wpAnyH_take (i:=15) (oi:=⟨some 33, .fieldAddr 69 (.tmp 32) 1,_,_,_,_⟩) (v:= .pointer (some ⟨B,1,none⟩)) rfl (by kernel_rfl) (by kernel_rfl) (by kernel_rfl) (fun _ _ _ h=>h) (.inl ⟨by rfl,fun W hW=>by go_simp⟩) hS ?_
        try simp only[Act.put,List.setIfInBounds_toArray,List.set_cons_zero,List.set_cons_succ]
        refine wpAnyH_take (i:=16) (oi:=⟨some 34, .load 67 (.tmp 33),_,_,_,_⟩) (v:= .slice (some ⟨g,0,none⟩) X.length cp) rfl (by kernel_rfl) (by kernel_rfl) (by kernel_rfl) (fun _ _ _ h=>h) (.inl ⟨by rfl,fun W hW=>by have:=hB5 W hW;go_simp⟩) hS ?_
        try simp only[Act.put,List.setIfInBounds_toArray,List.set_cons_zero,List.set_cons_succ]
        refine wpAnyH_take (i:=17) (oi:=⟨some 35, .move (.tmp 5),_,_,_,_⟩) (v:= .int .i64 a) rfl (by kernel_rfl) (by kernel_rfl) (by kernel_rfl) (fun _ _ _ h=>h) (.inl ⟨by rfl,fun W hW=>by go_simp;rfl⟩) hS ?_
        try simp only[Act.put,List.setIfInBounds_toArray,List.set_cons_zero,List.set_cons_succ]
        refine wpAnyH_take (i:=18) (oi:=⟨some 36, .indexAddr 67 (.tmp 34) (.tmp 35),_,_,_,_⟩) (v:= .pointer (some ⟨g,a*5,none⟩)) rfl (by kernel_rfl) (by kernel_rfl) (by kernel_rfl) (fun _ _ _ h=>h) (.inl ⟨by rfl,fun W hW=>by go_simp⟩) hS ?_
        try simp only[Act.put,List.setIfInBounds_toArray,List.set_cons_zero,List.set_cons_succ]
        refine wpAnyH_take (i:=19) (oi:=⟨some 37, .fieldAddr 73 (.tmp 36) 2,_,_,_,_⟩) (v:= .pointer (some ⟨g,a*5+4,none⟩)) rfl (by kernel_rfl) (by kernel_rfl) (by kernel_rfl) (fun _ _ _ h=>h) (.inl ⟨by rfl,fun W hW=>by go_simp⟩) hS ?_
        try simp only[Act.put,List.setIfInBounds_toArray,List.set_cons_zero,List.set_cons_succ]
        refine wpAnyH_take (i:=20) (oi:=⟨some 38, .load 3 (.tmp 37),_,_,_,_⟩) (v:= .int .i64 y.given) rfl (by kernel_rfl) (by kernel_rfl) (by kernel_rfl) (fun _ _ _ h=>h) (.inl ⟨by rfl,fun W hW=>by have:=hlow W hW;go_simp⟩) hS ?_
        try simp only[Act.put,List.setIfInBounds_toArray,List.set_cons_zero,List.set_cons_succ]
        refine wpAnyH_take (i:=21) (oi:=⟨some 39, .binOp .lss 3 (.tmp 30) (.tmp 38) 3,_,_,_,_⟩) (v:= .bool false) rfl (by kernel_rfl) (by kernel_rfl) (by kernel_rfl) (fun _ _ _ h=>h) (.inl ⟨by rfl,fun W hW=>by go_simp⟩) hS ?_
        try simp only[Act.put,List.setIfInBounds_toArray,List.set_cons_zero,List.set_cons_succ]
        refine wpAnyH_take (i:=22) (oi:=⟨some 40, .pick (.tmp 28) (.const (.bool true)) (.tmp 39),_,_,_,_⟩) (v:= .bool false) rfl (by kernel_rfl) (by kernel_rfl) (by kernel_rfl) (fun _ _ _ h=>h) (.inl ⟨by rfl,fun W hW=>by go_simp⟩) hS ?_
        try simp only[Act.put,List.setIfInBounds_toArray,List.set_cons_zero,List.set_cons_succ]
        refine wpAnyH_take (i:=23) (oi:=⟨some 41, .pick (.tmp 25) (.tmp 40) (.const (.bool false)),_,_,_,_⟩) (v:= .bool false) rfl (by kernel_rfl) (by kernel_rfl) (by kernel_rfl) (fun _ _ _ h=>h) (.inl ⟨by rfl,fun W hW=>by go_simp⟩) hS ?_
        try simp only[Act.put,List.setIfInBounds_toArray,List.set_cons_zero,List.set_cons_succ]
        refine wpAnyH_done (by kernel_rfl) ?_ _;have hbr5:=hbr4.trans (hS.mono hbr4.size);clear hS hbr4;go_wp2_with fail;go_roundw
        case rel=>exact⟨k+1,some a,by omega,by go_num,rfl,HN,hbr5⟩
        case measure=>simp[intOf];omega
   ·obtain rfl:k=X.length:=by omega
    go_wp2_with fail;go_ret;rw[HO.out];exact⟨rfl,hbr⟩
end Go.Proofs.YtpkoodnbkffpoaaGreatDoor
