/- footmanlaw14.ContextLess walked. -/
import Derived.Test.YtlcnknlmdaochaaGreatDoorGCtx2
set_option linter.unusedVariables false
set_option linter.unusedSimpArgs false
set_option maxHeartbeats 16000000
namespace Go.Proofs.YtlcnknlmdaochaaGreatDoor
open Go.RowKit
theorem less_1 {s k:Int} {m:List UInt8} (h:goesL s false k m=true):goesL s true k m=true:=by
 unfold goesL at h⊢;by_cases h3:s=3
 ·rw[if_pos h3]
 ·rw[if_neg h3]at h⊢
  by_cases h2:s=0∨s=2
  ·rw[if_pos h2]
   simp
  ·rw[if_neg h2]at h
   simp at h
theorem less_2 {s k:Int} (h:mayL3 s false k=true):mayL3 s true k=true:=by
 unfold mayL3 at h⊢;revert h
 cases decide (s≤3)<;>cases(s==3)<;>simp
theorem less_3 {s k:Int} {near:Bool} {m:List UInt8} (h:goesL s near k m=true):mayL3 s near k=true:=by
 unfold goesL at h;unfold mayL3;simp only[Bool.and_eq_true,Bool.or_eq_true,decide_eq_true_eq,beq_iff_eq];split at h
 ·rename_i h3
  exact⟨by omega, .inl h3⟩
 ·split at h
  ·simp only[Bool.or_eq_true,Bool.and_eq_true]at h
   exact⟨by omega, .inr (h.elim .inl (fun x=> .inr x.1))⟩
  ·simp only[Bool.and_eq_true,decide_eq_true_eq]at h
   exact⟨h.2, .inr (.inl h.1)⟩
set_option maxRecDepth 100000 in
theorem cless_law (s:Int) (near:Bool) (k:Int) (f t:UrlL) (m:List UInt8) (st:Int) (w:World) (h0:0≤s∧s≤255) (hlo: -9223372036854775808≤st) (hhi:st≤9223372036854775807) (hE:EnvH w):
 Calls Tryz.prog 12 #[goingV s near k f t m st] w fun e w'=>e= .returned (.bool true)∧Below w.heap.size w w':=by
 have k1:=fun W=>goes_any s k false f t m W h0.1
 have k2:=fun W=>goes_any s k true f t m W h0.1
 have k3:=fun W=>may_any3 s k false f t m W
 have k4:=fun W=>may_any3 s k true f t m W
 have k5:=fun W=>goes_any s k near f t m W h0.1
 have k6:=fun W=>may_any3 s k near f t m W
 have k7:=fun W=>goes_any 1 k false f t m W (by decide)
 have k8:=fun W=>goes_any 2 k false f t m W (by decide)
 have k9:=fun W=>goes_any 0 k near f t m W (by decide)
 have ka:=fun W=>goes_any 2 k near f t m W (by decide)
 have e1:= @less_1 s k m
 have e2:= @less_2 s k
 have e3:= @less_3 s k near m
 have e4:goesL 1 false k m=false:=by simp[goesL]
 have e5:k=3→goesL 2 false k m=false:=fun h=>by simp[goesL,h]
 have e6:goesL 0 near k m=goesL 2 near k m:=by simp[goesL]
 have cl:=fun W (hW:Below w.heap.size w W)=>lives14 W (hE.below hW)
 rw[e4]at k7
 rw[e6]at k9
 clear e4 e6 hlo hhi hE
 generalize goesL s near k m=g5 at k5 e3
 generalize mayL3 s near k=g6 at k6 e3
 generalize goesL 2 near k m=ga at k9 ka
 generalize goesL s false k m=g1 at k1 e1
 generalize goesL s true k m=g2 at k2 e1
 generalize mayL3 s false k=g3 at k3 e2
 generalize mayL3 s true k=g4 at k4 e2
 generalize goesL 2 false k m=g8 at k8 e5
 have hmid:=going_mid s near k f t m st
 obtain⟨CS,hCS⟩:∃cs,(askC k f t m).toList=cs:=⟨_,rfl⟩
 have hV:askV k f t m= .agg CS.toArray:=by rw[←hCS];rfl
 have hne:CS≠[]:=by rw[←hCS];exact List.cons_ne_nil _ _
 rw[hV]at k1 k2 k3 k4 k5 k6 k7 k8 k9 ka
 rw[hCS]at hmid
 have hi22:(Tryz.prog.info? 53).map (·.size)=some CS.length:=by rw[←hCS];kernel_rfl
 have G0:(goingC s near k f t m st)[0]?=some (.int .u8 s):=rfl
 have G1:(goingC s near k f t m st)[1]?=some (.bool near):=rfl
 have G2:(goingC s near k f t m st)[2]?=some (.int .u8 k):=rfl
 unfold goingV
 generalize goingC s near k f t m st=C at*
 clear hV hCS h0
 obtain⟨W0,hW0⟩:∃W,w.alloc (.cells C 55)=W:=⟨_,rfl⟩
 have hB0:W0.heap[w.heap.size]?=some (.cells C 55 (0,0)):=by rw[←hW0];exact heap_alloc_new w _
 have hb0:Below w.heap.size w W0:=by rw[←hW0];exact below_alloc w _
 have hlB:=(Array.getElem?_eq_some_iff.1 hB0).1
 have hBW:∀W,Below W0.heap.size W0 W→W.heap[w.heap.size]?=some (.cells C 55 (0,0)):=fun W hW=>(hW.block _ hlB).trans hB0
 have HC1:=Lib.hid (fun W (hW:Below W0.heap.size W0 W)=>show W.cell? ⟨w.heap.size,1,none⟩=some (.bool near)from by rw[cell_of_row W _ 1 _ _ _ (hBW W hW)];exact G1)
 have HC2:=Lib.hid (fun W (hW:Below W0.heap.size W0 W)=>show W.cell? ⟨w.heap.size,2,none⟩=some (.int .u8 k)from by rw[cell_of_row W _ 2 _ _ _ (hBW W hW)];exact G2)
 have hR:∀W,Below W0.heap.size W0 W→W.rangeAt w.heap.size 2 CS:=fun W hW j v hv=>by rw[cell_of_row W _ (2+j) _ _ _ (hBW W hW)];exact hmid j v hv
 have c0:W0.cell? ⟨w.heap.size,0,none⟩=some (.int .u8 s):=by rw[cell_of_row W0 _ 0 _ _ _ hB0];exact G0
 have hS:=Below.refl W0.heap.size W0
 have c1:=HC1.out _ hS
 have c2:=HC2.out _ hS
 have HW0:=Lib.hid hW0
 clear hmid G0 G1 G2 hB0 hBW hW0 hlB
 have hw:∃g,g=(k==3):=⟨_,rfl⟩
 go_enter Tryz.func12,Tryz.ntmps12
 go_upto_region 1 with fail
 rw[HW0.out]
 clear HW0 hw
 go_upto_region 2 with fail
 clear c0
 go_wp2_with(refine wpList_mid_at (o:=⟨some 8, .load 53 (.tmp 7),_,_,_,_⟩) rfl 53 (.tmp 7) rfl w.heap.size 2 rfl CS _ (hR _ hS) Tryz.underlying53 rfl hi22 ?_)
 go_at_call 44
 refine(k1 _).mono ?_
 rintro e w2 ⟨rfl,hn⟩
 have hS1:=below_next hS hn
 clear hS hn c1 c2
 have hS:=hS1
 clear hS1
 have c1:=HC1.out _ hS
 have c2:=HC2.out _ hS
 rcases g1 with _|_
 all_goals
  first
   |(obtain rfl:g2=true:=e1 rfl;go_wp2_with(refine wpList_mid_at (o:=⟨some 13, .load 53 (.tmp 12),_,_,_,_⟩) rfl 53 (.tmp 12) rfl w.heap.size 2 rfl CS _ (hR _ hS) Tryz.underlying53 rfl hi22 ?_);go_at_call 44;refine(k2 _).mono ?_;rintro e w2 ⟨rfl,hn⟩;have hS1:=below_next hS hn;clear hS hn c1 c2;have hS:=hS1;clear hS1;have c1:=HC1.out _ hS;have c2:=HC2.out _ hS)
   |skip
 all_goals
  go_wp2_with(refine wpList_mid_at (o:=⟨some 20, .load 53 (.tmp 19),_,_,_,_⟩) rfl 53 (.tmp 19) rfl w.heap.size 2 rfl CS _ (hR _ hS) Tryz.underlying53 rfl hi22 ?_);go_at_call 46;refine(k3 _).mono ?_;rintro e w2 ⟨rfl,hn⟩;have hS1:=below_next hS hn;clear hS hn c1 c2;have hS:=hS1;clear hS1;have c1:=HC1.out _ hS;have c2:=HC2.out _ hS;rcases g3 with _|_
 all_goals
  first
   |(obtain rfl:g4=true:=e2 rfl;go_wp2_with(refine wpList_mid_at (o:=⟨some 25, .load 53 (.tmp 24),_,_,_,_⟩) rfl 53 (.tmp 24) rfl w.heap.size 2 rfl CS _ (hR _ hS) Tryz.underlying53 rfl hi22 ?_);go_at_call 46;refine(k4 _).mono ?_;rintro e w2 ⟨rfl,hn⟩;have hS1:=below_next hS hn;clear hS hn c1 c2;have hS:=hS1;clear hS1;have c1:=HC1.out _ hS;have c2:=HC2.out _ hS)
   |skip
 all_goals
  go_wp2_with(refine wpList_mid_at (o:=⟨some 34, .load 53 (.tmp 33),_,_,_,_⟩) rfl 53 (.tmp 33) rfl w.heap.size 2 rfl CS _ (hR _ hS) Tryz.underlying53 rfl hi22 ?_);go_at_call 44;refine(k5 _).mono ?_;rintro e w2 ⟨rfl,hn⟩;have hS1:=below_next hS hn;clear hS hn c1 c2;have hS:=hS1;clear hS1;have c1:=HC1.out _ hS;have c2:=HC2.out _ hS;rcases g5 with _|_
 all_goals
  first
   |(obtain rfl:g6=true:=e3 rfl;go_wp2_with(refine wpList_mid_at (o:=⟨some 41, .load 53 (.tmp 40),_,_,_,_⟩) rfl 53 (.tmp 40) rfl w.heap.size 2 rfl CS _ (hR _ hS) Tryz.underlying53 rfl hi22 ?_);go_at_call 46;refine(k6 _).mono ?_;rintro e w2 ⟨rfl,hn⟩;have hS1:=below_next hS hn;clear hS hn c1 c2;have hS:=hS1;clear hS1;have c1:=HC1.out _ hS;have c2:=HC2.out _ hS)
   |skip
 all_goals
  go_wp2_with(refine wpList_mid_at (o:=⟨some 46, .load 53 (.tmp 45),_,_,_,_⟩) rfl 53 (.tmp 45) rfl w.heap.size 2 rfl CS _ (hR _ hS) Tryz.underlying53 rfl hi22 ?_);go_at_call 44;refine(k7 _).mono ?_;rintro e w2 ⟨rfl,hn⟩;have hS1:=below_next hS hn;clear hS hn c1 c2;have hS:=hS1;clear hS1;have c1:=HC1.out _ hS;have c2:=HC2.out _ hS;by_cases h3:k=3
 all_goals
  first
   |(obtain rfl:g8=false:=e5 h3;subst h3;go_wp2_with(refine wpList_mid_at (o:=⟨some 55, .load 53 (.tmp 54),_,_,_,_⟩) rfl 53 (.tmp 54) rfl w.heap.size 2 rfl CS _ (hR _ hS) Tryz.underlying53 rfl hi22 ?_);go_at_call 44;refine(k8 _).mono ?_;rintro e w2 ⟨rfl,hn⟩;have hS1:=below_next hS hn;clear hS hn c1 c2;have hS:=hS1;clear hS1;have c1:=HC1.out _ hS;have c2:=HC2.out _ hS)
   |skip
 all_goals
  go_upto_region 8 with fail;clear c1 c2;have hS:=hS.drew;refine wp_region_held_drew (S:=fun W=>Below W0.heap.size W0 W) (by kernel_rfl) hS (fun _=> ?_);refine wpAnyH_take (i:=0) (oi:=⟨some 59, .fieldAddr 55 (.tmp 1) 1,_,_,_,_⟩) (v:= .pointer (some ⟨w.heap.size,1,none⟩)) rfl (by kernel_rfl) (by kernel_rfl) (by kernel_rfl) (fun _ _ _ h=>h) (.inl ⟨by rfl,fun W _=>by go_simp⟩) hS ?_
  try simp only[Act.put,List.setIfInBounds_toArray,List.set_cons_zero,List.set_cons_succ]
  refine wpAnyH_take (i:=2) (oi:=⟨some 61, .fieldAddr 55 (.tmp 1) 2,_,_,_,_⟩) (v:= .pointer (some ⟨w.heap.size,2,none⟩)) rfl (by kernel_rfl) (by kernel_rfl) (by kernel_rfl) (fun _ _ _ h=>h) (.inl ⟨by rfl,fun W _=>by go_simp⟩) hS ?_
  try simp only[Act.put,List.setIfInBounds_toArray,List.set_cons_zero,List.set_cons_succ]
  refine wpAnyH_take (i:=5) (oi:=⟨some 64, .fieldAddr 55 (.tmp 1) 1,_,_,_,_⟩) (v:= .pointer (some ⟨w.heap.size,1,none⟩)) rfl (by kernel_rfl) (by kernel_rfl) (by kernel_rfl) (fun _ _ _ h=>h) (.inl ⟨by rfl,fun W _=>by go_simp⟩) hS ?_
  try simp only[Act.put,List.setIfInBounds_toArray,List.set_cons_zero,List.set_cons_succ]
  refine wpAnyH_take (i:=7) (oi:=⟨some 66, .fieldAddr 55 (.tmp 1) 2,_,_,_,_⟩) (v:= .pointer (some ⟨w.heap.size,2,none⟩)) rfl (by kernel_rfl) (by kernel_rfl) (by kernel_rfl) (fun _ _ _ h=>h) (.inl ⟨by rfl,fun W _=>by go_simp⟩) hS ?_
  try simp only[Act.put,List.setIfInBounds_toArray,List.set_cons_zero,List.set_cons_succ]
  refine wpAnyH_take (i:=1) (oi:=⟨some 60, .load 4 (.tmp 59),_,_,_,_⟩) (v:= .bool near) rfl (by kernel_rfl) (by kernel_rfl) (by kernel_rfl) (fun _ _ _ h=>h) (.inl ⟨by rfl,fun W hW=>by have c1:=HC1.out W hW;go_simp⟩) hS ?_
  try simp only[Act.put,List.setIfInBounds_toArray,List.set_cons_zero,List.set_cons_succ]
  refine wpAnyH_take (i:=3) (oi:=⟨some 62, .load 53 (.tmp 61),_,_,_,_⟩) (v:= .agg CS.toArray) rfl (by kernel_rfl) (by kernel_rfl) (by kernel_rfl) (fun _ _ _ h=>h) (yieldsIf_load_mid (by rfl) 53 (.tmp 61) rfl w.heap.size 2 rfl CS _ hR Tryz.underlying53 rfl hi22) hS ?_
  try simp only[Act.put,List.setIfInBounds_toArray,List.set_cons_zero,List.set_cons_succ]
  refine wpAnyH_take (i:=6) (oi:=⟨some 65, .load 4 (.tmp 64),_,_,_,_⟩) (v:= .bool near) rfl (by kernel_rfl) (by kernel_rfl) (by kernel_rfl) (fun _ _ _ h=>h) (.inl ⟨by rfl,fun W hW=>by have c1:=HC1.out W hW;go_simp⟩) hS ?_
  try simp only[Act.put,List.setIfInBounds_toArray,List.set_cons_zero,List.set_cons_succ]
  refine wpAnyH_take (i:=8) (oi:=⟨some 67, .load 53 (.tmp 66),_,_,_,_⟩) (v:= .agg CS.toArray) rfl (by kernel_rfl) (by kernel_rfl) (by kernel_rfl) (fun _ _ _ h=>h) (yieldsIf_load_mid (by rfl) 53 (.tmp 66) rfl w.heap.size 2 rfl CS _ hR Tryz.underlying53 rfl hi22) hS ?_
  try simp only[Act.put,List.setIfInBounds_toArray,List.set_cons_zero,List.set_cons_succ]
  refine wpAnyH_ready (rs:=[4]) (by kernel_rfl) (by simp) ?_;refine AllReadyH.cons (o:=⟨some 63, .call {callee:= .value (.func 44),args:= #[.const (.int .u8 0), .tmp 60, .tmp 62],argTypes:= #[59,4,53]},_,_,_,_⟩) rfl (fun K hK=> ?_) AllReadyH.nil;go_simp;go_at_call 44;refine(k9 _).mono ?_;rintro e x1 ⟨rfl,hn⟩;go_wp2_with fail;have hS1:=below_next hS hn;refine hK.out _ _ hS1 (fun _=> ?_);clear hK hS hn K;have hS:=hS1;clear hS1
  try simp only[Act.put,List.setIfInBounds_toArray,List.set_cons_zero,List.set_cons_succ]
  refine wpAnyH_ready (rs:=[9]) (by kernel_rfl) (by simp) ?_;refine AllReadyH.cons (o:=⟨some 68, .call {callee:= .value (.func 44),args:= #[.const (.int .u8 2), .tmp 65, .tmp 67],argTypes:= #[59,4,53]},_,_,_,_⟩) rfl (fun K hK=> ?_) AllReadyH.nil;go_simp;go_at_call 44;refine(ka _).mono ?_;rintro e x2 ⟨rfl,hn⟩;go_wp2_with fail;have hS1:=below_next hS hn;refine hK.out _ _ hS1 (fun _=> ?_);clear hK hS hn K;have hS:=hS1;clear hS1
  try simp only[Act.put,List.setIfInBounds_toArray,List.set_cons_zero,List.set_cons_succ]
  refine wpAnyH_take (i:=10) (oi:=⟨some 69, .binOp .eql 4 (.tmp 63) (.tmp 68) 4,_,_,_,_⟩) (v:= .bool true) rfl (by kernel_rfl) (by kernel_rfl) (by kernel_rfl) (fun _ _ _ h=>h) (.inl ⟨by rfl,fun W _=>by go_simp⟩) hS ?_
  try simp only[Act.put,List.setIfInBounds_toArray,List.set_cons_zero,List.set_cons_succ]
  refine wpAnyH_take (i:=11) (oi:=⟨some 70, .move (.tmp 69),_,_,_,_⟩) (v:= .bool true) rfl (by kernel_rfl) (by kernel_rfl) (by kernel_rfl) (fun _ _ _ h=>h) (.inl ⟨by rfl,fun W _=>by go_simp⟩) hS ?_
  try simp only[Act.put,List.setIfInBounds_toArray,List.set_cons_zero,List.set_cons_succ]
  refine wpAnyH_ready (rs:=[12]) (by kernel_rfl) (by simp) ?_;refine AllReadyH.cons (o:=⟨some 71, .call {callee:= .value (.func 48),args:= #[],argTypes:= #[]},_,_,_,_⟩) rfl (fun K hK=> ?_) AllReadyH.nil;go_simp;go_at_call 48;refine(cl _ (below_next hb0 hS)).mono ?_;rintro e x3 ⟨rfl,hn⟩;go_wp2_with fail;have hS1:=below_next hS hn;refine hK.out _ _ hS1 (fun _=> ?_);clear hK hS hn K;have hS:=hS1;clear hS1
  try simp only[Act.put,List.setIfInBounds_toArray,List.set_cons_zero,List.set_cons_succ]
  refine wpAnyH_take (i:=13) (oi:=⟨some 72, .pick (.tmp 70) (.tmp 71) (.const (.bool false)),_,_,_,_⟩) (v:= .bool true) rfl (by kernel_rfl) (by kernel_rfl) (by kernel_rfl) (fun _ _ _ h=>h) (.inl ⟨by rfl,fun W _=>by go_simp⟩) hS ?_
  try simp only[Act.put,List.setIfInBounds_toArray,List.set_cons_zero,List.set_cons_succ]
  refine wpAnyH_take (i:=14) (oi:=⟨some 2, .assign (.tmp 72),_,_,_,_⟩) (v:= .bool true) rfl (by kernel_rfl) (by kernel_rfl) (by kernel_rfl) (fun _ _ _ h=>h) (.inl ⟨by rfl,fun W _=>by go_simp⟩) hS ?_
  try simp only[Act.put,List.setIfInBounds_toArray,List.set_cons_zero,List.set_cons_succ]
  refine wpAnyH_done (by kernel_rfl) ?_ _;go_wp2_with fail;go_ret;exact⟨rfl,below_next hb0 hS⟩
end Go.Proofs.YtlcnknlmdaochaaGreatDoor
