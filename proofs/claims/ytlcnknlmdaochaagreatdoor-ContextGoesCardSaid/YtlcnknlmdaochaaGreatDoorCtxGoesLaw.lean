/- footmanlaw14.ContextGoes walked. -/
import Derived.Test.YtlcnknlmdaochaaGreatDoorGCtx2
set_option linter.unusedVariables false
set_option linter.unusedSimpArgs false
set_option maxHeartbeats 16000000
namespace Go.Proofs.YtlcnknlmdaochaaGreatDoor
open Go.RowKit
theorem same_b {f:FuncId} {args:Array Value} {v:Value} {W:World} (h:Calls Tryz.prog f args W fun e W'=>e= .returned v∧W=W'):Calls Tryz.prog f args W fun e W'=>e= .returned v∧Below W.heap.size W W':=
 h.mono fun e W' ⟨he,hw⟩=>⟨he,hw▸Below.refl _ _⟩
set_option maxRecDepth 100000 in
theorem cgoes_law (s:Int) (near:Bool) (k:Int) (f t:UrlL) (m:List UInt8) (st:Int) (w:World) (h0:0≤s∧s≤255) (hlo: -9223372036854775808≤st) (hhi:st≤9223372036854775807) (hE:EnvH w):
 Calls Tryz.prog 11 #[goingV s near k f t m st] w fun e w'=>e= .returned (.bool true)∧Below w.heap.size w w':=by
 have cn:=fun W=>cnext_any m st W hlo hhi
 have rn:=fun W=>same_b (rcnext_any m st W)
 have cg:=fun W=>goes_any s k near f t m W h0.1
 have rg:=fun W=>rgoes_any s k near f t m W h0.1
 have cm:=fun W=>may_any3 s k near f t m W
 have rm:=fun W=>rmay_any3 s k near f t m W
 have cl:=fun W (hW:Below w.heap.size w W)=>lives14 W (hE.below hW)
 generalize hg:goesL s near k m=g at cg rg
 generalize hm:mayL3 s near k=y at cm rm
 generalize nextM m st=N at cn rn
 obtain⟨n1,n2⟩:=N
 dsimp only at cn rn
 have hmid:=going_mid s near k f t m st
 have hone:=ask_one k f t m
 obtain⟨CS,hCS⟩:∃cs,(askC k f t m).toList=cs:=⟨_,rfl⟩
 have hV:askV k f t m= .agg CS.toArray:=by rw[←hCS];rfl
 have h21:CS.toArray[21]?=some (.string ⟨m.toArray⟩):=by rw[←hCS];rfl
 have hz22:22=CS.toArray.size:=by rw[List.size_toArray,←hCS];rfl
 have hne:CS≠[]:=by rw[←hCS];exact List.cons_ne_nil _ _
 rw[hV]at cg rg cm rm
 rw[hCS]at hmid hone
 have hi22:(Tryz.prog.info? 53).map (·.size)=some CS.length:=by rw[←hCS];kernel_rfl
 have hi2:(Tryz.prog.info? 53).map (·.size)=some CS.toArray.size:=by rw[List.size_toArray];exact hi22
 have ho:=all_oneCell_toArray hone
 have G0:(goingC s near k f t m st)[0]?=some (.int .u8 s):=rfl
 have G1:(goingC s near k f t m st)[1]?=some (.bool near):=rfl
 have G24:(goingC s near k f t m st)[24]?=some (.int .i64 st):=rfl
 unfold goingV
 generalize goingC s near k f t m st=C at*
 clear hg hm hV hCS hone hE
 go_enter Tryz.func11,Tryz.ntmps11
 go_upto_region 1 with fail
 obtain⟨W0,hW0⟩:∃W,w.alloc (.cells C 55)=W:=⟨_,rfl⟩
 have hB0:W0.heap[w.heap.size]?=some (.cells C 55 (0,0)):=by rw[←hW0];exact heap_alloc_new w _
 have hb0:Below w.heap.size w W0:=by rw[←hW0];exact below_alloc w _
 rw[hW0]
 clear hW0
 have c0:W0.cell? ⟨w.heap.size,0,none⟩=some (.int .u8 s):=by rw[cell_of_row W0 _ 0 _ _ _ hB0];exact G0
 have c1:W0.cell? ⟨w.heap.size,1,none⟩=some (.bool near):=by rw[cell_of_row W0 _ 1 _ _ _ hB0];exact G1
 have hr0:W0.rangeAt w.heap.size 2 CS:=fun j v hv=>by rw[cell_of_row W0 _ (2+j) _ _ _ hB0];exact hmid j v hv
 have hlB:=(Array.getElem?_eq_some_iff.1 hB0).1
 go_upto_region 4 with (first
  |(refine wpList_mid_at (o:=⟨some 16, .load 53 (.tmp 15),_,_,_,_⟩) rfl 53 (.tmp 15) rfl w.heap.size 2 rfl CS _ hr0 Tryz.underlying53 rfl hi22 ?_)
  |(refine wpList_store_row (o:=⟨none, .store 53 (.tmp 5) (.tmp 16),_,_,_,_⟩) rfl 53 (.tmp 5) (.tmp 16) rfl W0.heap.size CS.toArray rfl rfl 53 _ (heap_alloc_new W0 _) hi2 hz22 ho ?_))
 obtain⟨W3,hW3⟩:∃W,(W0.alloc (.cells #[.int .u8 0, .string ⟨#[]⟩, .string ⟨#[]⟩, .string ⟨#[]⟩, .string ⟨#[]⟩, .int .i64 0, .string ⟨#[]⟩, .string ⟨#[]⟩, .bool false, .string ⟨#[]⟩, .bool false, .string ⟨#[]⟩, .string ⟨#[]⟩, .string ⟨#[]⟩, .string ⟨#[]⟩, .int .i64 0, .string ⟨#[]⟩, .string ⟨#[]⟩, .bool false, .string ⟨#[]⟩, .bool false, .string ⟨#[]⟩] 53)).setRow W0.heap.size CS.toArray=W:=⟨_,rfl⟩
 have hA:W3.heap[W0.heap.size]?=some (.cells CS.toArray 53 (0,0)):=by rw[←hW3];exact setRow_heap _ _ _ _ _ _ (heap_alloc_new W0 _)
 have h3:Below w.heap.size w W3:=by rw[←hW3];exact below_setRow (hb0.alloc hb0.size _) hb0.size _
 have hB3:W3.heap[w.heap.size]?=some (.cells C 55 (0,0)):=by rw[←hW3];exact((setRow_other _ _ _ _ (Nat.ne_of_lt hlB)).trans ((below_alloc W0 _).block _ hlB)).trans hB0
 have hlA:=(Array.getElem?_eq_some_iff.1 hA).1
 rw[hW3]
 clear hW3 hz22 ho hi2 hr0 c0 c1
 simp only[Act.put]
 have c24:W3.cell? ⟨w.heap.size,24,none⟩=some (.int .i64 st):=by rw[cell_of_row W3 _ 24 _ _ _ hB3];exact G24
 have c21:W3.cell? ⟨W0.heap.size,21,none⟩=some (.string ⟨m.toArray⟩):=by rw[cell_of_row W3 _ 21 _ _ _ hA];exact h21
 clear hmid G0 G1 G24 hB0 hB3 hb0
 go_wp2_with fail
 go_at_call 42
 refine(cn _).mono ?_
 rintro e w4 ⟨rfl,h4n⟩
 have h4:=below_next h3 h4n
 have hA4:=(h4n.block _ hlA).trans hA
 have c21:w4.cell? ⟨W0.heap.size,21,none⟩=some (.string ⟨m.toArray⟩):=by rw[cell_of_row w4 _ 21 _ _ _ hA4];exact h21
 clear cn h3 h4n hA hlA c24
 go_wp2_with fail
 go_at_call 43
 refine(rn _).mono ?_
 rintro e w6 ⟨rfl,h6n⟩
 have h6:=below_next h4 h6n
 have hA6:=(h6n.block _ (Array.getElem?_eq_some_iff.1 hA4).1).trans hA4
 clear rn h4 h6n hA4 c21 h21
 go_upto_region 7 with fail
 have hS:=(Below.refl w6.heap.size w6).drew
 have hR:∀W,Below w6.heap.size w6 W→W.rangeAt W0.heap.size 0 CS:=fun W hW j v hv=>by
  rw[cell_of_row W W0.heap.size (0+j) CS.toArray 53 (0,0) ((hW.block _ (Array.getElem?_eq_some_iff.1 hA6).1).trans hA6),Nat.zero_add,List.getElem?_toArray];exact hv
 clear hA6
 refine wp_region_held_drew (S:=fun W=>Below w6.heap.size w6 W) (by kernel_rfl) hS (fun _=> ?_)
 refine wpAnyH_take (i:=0) (oi:=⟨some 33, .move (.tmp 3),_,_,_,_⟩) (v:= .int .u8 s) rfl (by kernel_rfl) (by kernel_rfl) (by kernel_rfl) (fun _ _ _ h=>h) (.inl ⟨by rfl,fun W _=>by go_simp⟩) hS ?_
 try simp only[Act.put,List.setIfInBounds_toArray,List.set_cons_zero,List.set_cons_succ]
 refine wpAnyH_take (i:=1) (oi:=⟨some 34, .move (.tmp 4),_,_,_,_⟩) (v:= .bool near) rfl (by kernel_rfl) (by kernel_rfl) (by kernel_rfl) (fun _ _ _ h=>h) (.inl ⟨by rfl,fun W _=>by go_simp⟩) hS ?_
 try simp only[Act.put,List.setIfInBounds_toArray,List.set_cons_zero,List.set_cons_succ]
 refine wpAnyH_take (i:=2) (oi:=⟨some 35, .load 53 (.tmp 5),_,_,_,_⟩) (v:= .agg CS.toArray) rfl (by kernel_rfl) (by kernel_rfl) (by kernel_rfl) (fun _ _ _ h=>h) (yieldsIf_load_mid (by rfl) 53 (.tmp 5) rfl W0.heap.size 0 rfl CS _ hR Tryz.underlying53 rfl hi22) hS ?_
 try simp only[Act.put,List.setIfInBounds_toArray,List.set_cons_zero,List.set_cons_succ]
 refine wpAnyH_take (i:=4) (oi:=⟨some 37, .move (.tmp 3),_,_,_,_⟩) (v:= .int .u8 s) rfl (by kernel_rfl) (by kernel_rfl) (by kernel_rfl) (fun _ _ _ h=>h) (.inl ⟨by rfl,fun W _=>by go_simp⟩) hS ?_
 try simp only[Act.put,List.setIfInBounds_toArray,List.set_cons_zero,List.set_cons_succ]
 refine wpAnyH_take (i:=5) (oi:=⟨some 38, .move (.tmp 4),_,_,_,_⟩) (v:= .bool near) rfl (by kernel_rfl) (by kernel_rfl) (by kernel_rfl) (fun _ _ _ h=>h) (.inl ⟨by rfl,fun W _=>by go_simp⟩) hS ?_
 try simp only[Act.put,List.setIfInBounds_toArray,List.set_cons_zero,List.set_cons_succ]
 refine wpAnyH_take (i:=6) (oi:=⟨some 39, .load 53 (.tmp 5),_,_,_,_⟩) (v:= .agg CS.toArray) rfl (by kernel_rfl) (by kernel_rfl) (by kernel_rfl) (fun _ _ _ h=>h) (yieldsIf_load_mid (by rfl) 53 (.tmp 5) rfl W0.heap.size 0 rfl CS _ hR Tryz.underlying53 rfl hi22) hS ?_
 try simp only[Act.put,List.setIfInBounds_toArray,List.set_cons_zero,List.set_cons_succ]
 refine wpAnyH_ready (rs:=[3]) (by kernel_rfl) (by simp) ?_
 refine AllReadyH.cons (o:=⟨some 36, .call {callee:= .value (.func 44),args:= #[.tmp 33, .tmp 34, .tmp 35],argTypes:= #[59,4,53]},_,_,_,_⟩) rfl (fun K hK=> ?_) AllReadyH.nil
 go_simp
 go_at_call 44
 refine(cg _).mono ?_
 rintro e x1 ⟨rfl,hn⟩
 go_wp2_with fail
 have hS1:=below_next hS hn
 refine hK.out _ _ hS1 (fun _=> ?_)
 clear hK hS hn K
 have hS:=hS1
 clear hS1
 try simp only[Act.put,List.setIfInBounds_toArray,List.set_cons_zero,List.set_cons_succ]
 refine wpAnyH_ready (rs:=[7]) (by kernel_rfl) (by simp) ?_
 refine AllReadyH.cons (o:=⟨some 40, .call {callee:= .value (.func 45),args:= #[.tmp 37, .tmp 38, .tmp 39],argTypes:= #[59,4,53]},_,_,_,_⟩) rfl (fun K hK=> ?_) AllReadyH.nil
 go_simp
 go_at_call 45
 refine(rg _).mono ?_
 rintro e x2 ⟨rfl,hn⟩
 go_wp2_with fail
 have hS1:=below_next hS hn
 refine hK.out _ _ hS1 (fun _=> ?_)
 clear hK hS hn K
 have hS:=hS1
 clear hS1
 try simp only[Act.put,List.setIfInBounds_toArray,List.set_cons_zero,List.set_cons_succ]
 refine wpAnyH_take (i:=8) (oi:=⟨some 41, .binOp .eql 4 (.tmp 36) (.tmp 40) 4,_,_,_,_⟩) (v:= .bool true) rfl (by kernel_rfl) (by kernel_rfl) (by kernel_rfl) (fun _ _ _ h=>h) (.inl ⟨by rfl,fun W _=>by go_simp⟩) hS ?_
 try simp only[Act.put,List.setIfInBounds_toArray,List.set_cons_zero,List.set_cons_succ]
 refine wpAnyH_take (i:=9) (oi:=⟨some 42, .move (.tmp 41),_,_,_,_⟩) (v:= .bool true) rfl (by kernel_rfl) (by kernel_rfl) (by kernel_rfl) (fun _ _ _ h=>h) (.inl ⟨by rfl,fun W _=>by go_simp⟩) hS ?_
 try simp only[Act.put,List.setIfInBounds_toArray,List.set_cons_zero,List.set_cons_succ]
 refine wpAnyH_take (i:=10) (oi:=⟨some 43, .move (.tmp 3),_,_,_,_⟩) (v:= .int .u8 s) rfl (by kernel_rfl) (by kernel_rfl) (by kernel_rfl) (fun _ _ _ h=>h) (.inl ⟨by rfl,fun W _=>by go_simp⟩) hS ?_
 try simp only[Act.put,List.setIfInBounds_toArray,List.set_cons_zero,List.set_cons_succ]
 refine wpAnyH_take (i:=11) (oi:=⟨some 44, .move (.tmp 4),_,_,_,_⟩) (v:= .bool near) rfl (by kernel_rfl) (by kernel_rfl) (by kernel_rfl) (fun _ _ _ h=>h) (.inl ⟨by rfl,fun W _=>by go_simp⟩) hS ?_
 try simp only[Act.put,List.setIfInBounds_toArray,List.set_cons_zero,List.set_cons_succ]
 refine wpAnyH_take (i:=12) (oi:=⟨some 45, .load 53 (.tmp 5),_,_,_,_⟩) (v:= .agg CS.toArray) rfl (by kernel_rfl) (by kernel_rfl) (by kernel_rfl) (fun _ _ _ h=>h) (yieldsIf_load_mid (by rfl) 53 (.tmp 5) rfl W0.heap.size 0 rfl CS _ hR Tryz.underlying53 rfl hi22) hS ?_
 try simp only[Act.put,List.setIfInBounds_toArray,List.set_cons_zero,List.set_cons_succ]
 refine wpAnyH_take (i:=14) (oi:=⟨some 47, .move (.tmp 3),_,_,_,_⟩) (v:= .int .u8 s) rfl (by kernel_rfl) (by kernel_rfl) (by kernel_rfl) (fun _ _ _ h=>h) (.inl ⟨by rfl,fun W _=>by go_simp⟩) hS ?_
 try simp only[Act.put,List.setIfInBounds_toArray,List.set_cons_zero,List.set_cons_succ]
 refine wpAnyH_take (i:=15) (oi:=⟨some 48, .move (.tmp 4),_,_,_,_⟩) (v:= .bool near) rfl (by kernel_rfl) (by kernel_rfl) (by kernel_rfl) (fun _ _ _ h=>h) (.inl ⟨by rfl,fun W _=>by go_simp⟩) hS ?_
 try simp only[Act.put,List.setIfInBounds_toArray,List.set_cons_zero,List.set_cons_succ]
 refine wpAnyH_take (i:=16) (oi:=⟨some 49, .load 53 (.tmp 5),_,_,_,_⟩) (v:= .agg CS.toArray) rfl (by kernel_rfl) (by kernel_rfl) (by kernel_rfl) (fun _ _ _ h=>h) (yieldsIf_load_mid (by rfl) 53 (.tmp 5) rfl W0.heap.size 0 rfl CS _ hR Tryz.underlying53 rfl hi22) hS ?_
 try simp only[Act.put,List.setIfInBounds_toArray,List.set_cons_zero,List.set_cons_succ]
 refine wpAnyH_ready (rs:=[13]) (by kernel_rfl) (by simp) ?_
 refine AllReadyH.cons (o:=⟨some 46, .call {callee:= .value (.func 46),args:= #[.tmp 43, .tmp 44, .tmp 45],argTypes:= #[59,4,53]},_,_,_,_⟩) rfl (fun K hK=> ?_) AllReadyH.nil
 go_simp
 go_at_call 46
 refine(cm _).mono ?_
 rintro e x3 ⟨rfl,hn⟩
 go_wp2_with fail
 have hS1:=below_next hS hn
 refine hK.out _ _ hS1 (fun _=> ?_)
 clear hK hS hn K
 have hS:=hS1
 clear hS1
 try simp only[Act.put,List.setIfInBounds_toArray,List.set_cons_zero,List.set_cons_succ]
 refine wpAnyH_ready (rs:=[17]) (by kernel_rfl) (by simp) ?_
 refine AllReadyH.cons (o:=⟨some 50, .call {callee:= .value (.func 47),args:= #[.tmp 47, .tmp 48, .tmp 49],argTypes:= #[59,4,53]},_,_,_,_⟩) rfl (fun K hK=> ?_) AllReadyH.nil
 go_simp
 go_at_call 47
 refine(rm _).mono ?_
 rintro e x4 ⟨rfl,hn⟩
 go_wp2_with fail
 have hS1:=below_next hS hn
 refine hK.out _ _ hS1 (fun _=> ?_)
 clear hK hS hn K
 have hS:=hS1
 clear hS1
 try simp only[Act.put,List.setIfInBounds_toArray,List.set_cons_zero,List.set_cons_succ]
 refine wpAnyH_take (i:=18) (oi:=⟨some 51, .binOp .eql 4 (.tmp 46) (.tmp 50) 4,_,_,_,_⟩) (v:= .bool true) rfl (by kernel_rfl) (by kernel_rfl) (by kernel_rfl) (fun _ _ _ h=>h) (.inl ⟨by rfl,fun W _=>by go_simp⟩) hS ?_
 try simp only[Act.put,List.setIfInBounds_toArray,List.set_cons_zero,List.set_cons_succ]
 refine wpAnyH_take (i:=19) (oi:=⟨some 52, .pick (.tmp 42) (.tmp 51) (.const (.bool false)),_,_,_,_⟩) (v:= .bool true) rfl (by kernel_rfl) (by kernel_rfl) (by kernel_rfl) (fun _ _ _ h=>h) (.inl ⟨by rfl,fun W _=>by go_simp⟩) hS ?_
 try simp only[Act.put,List.setIfInBounds_toArray,List.set_cons_zero,List.set_cons_succ]
 refine wpAnyH_take (i:=20) (oi:=⟨some 53, .move (.tmp 52),_,_,_,_⟩) (v:= .bool true) rfl (by kernel_rfl) (by kernel_rfl) (by kernel_rfl) (fun _ _ _ h=>h) (.inl ⟨by rfl,fun W _=>by go_simp⟩) hS ?_
 try simp only[Act.put,List.setIfInBounds_toArray,List.set_cons_zero,List.set_cons_succ]
 refine wpAnyH_take (i:=21) (oi:=⟨some 54, .move (.tmp 7),_,_,_,_⟩) (v:= .string ⟨n1.toArray⟩) rfl (by kernel_rfl) (by kernel_rfl) (by kernel_rfl) (fun _ _ _ h=>h) (.inl ⟨by rfl,fun W _=>by go_simp⟩) hS ?_
 try simp only[Act.put,List.setIfInBounds_toArray,List.set_cons_zero,List.set_cons_succ]
 refine wpAnyH_take (i:=22) (oi:=⟨some 55, .move (.tmp 9),_,_,_,_⟩) (v:= .string ⟨n1.toArray⟩) rfl (by kernel_rfl) (by kernel_rfl) (by kernel_rfl) (fun _ _ _ h=>h) (.inl ⟨by rfl,fun W _=>by go_simp⟩) hS ?_
 try simp only[Act.put,List.setIfInBounds_toArray,List.set_cons_zero,List.set_cons_succ]
 refine wpAnyH_take (i:=23) (oi:=⟨some 56, .binOp .eql 9 (.tmp 54) (.tmp 55) 9,_,_,_,_⟩) (v:= .bool true) rfl (by kernel_rfl) (by kernel_rfl) (by kernel_rfl) (fun _ _ _ h=>h) (.inl ⟨by rfl,fun W _=>by go_simp⟩) hS ?_
 try simp only[Act.put,List.setIfInBounds_toArray,List.set_cons_zero,List.set_cons_succ]
 refine wpAnyH_take (i:=24) (oi:=⟨some 57, .pick (.tmp 53) (.tmp 56) (.const (.bool false)),_,_,_,_⟩) (v:= .bool true) rfl (by kernel_rfl) (by kernel_rfl) (by kernel_rfl) (fun _ _ _ h=>h) (.inl ⟨by rfl,fun W _=>by go_simp⟩) hS ?_
 try simp only[Act.put,List.setIfInBounds_toArray,List.set_cons_zero,List.set_cons_succ]
 refine wpAnyH_take (i:=25) (oi:=⟨some 58, .move (.tmp 57),_,_,_,_⟩) (v:= .bool true) rfl (by kernel_rfl) (by kernel_rfl) (by kernel_rfl) (fun _ _ _ h=>h) (.inl ⟨by rfl,fun W _=>by go_simp⟩) hS ?_
 try simp only[Act.put,List.setIfInBounds_toArray,List.set_cons_zero,List.set_cons_succ]
 refine wpAnyH_take (i:=26) (oi:=⟨some 59, .move (.tmp 8),_,_,_,_⟩) (v:= .bool n2) rfl (by kernel_rfl) (by kernel_rfl) (by kernel_rfl) (fun _ _ _ h=>h) (.inl ⟨by rfl,fun W _=>by go_simp⟩) hS ?_
 try simp only[Act.put,List.setIfInBounds_toArray,List.set_cons_zero,List.set_cons_succ]
 refine wpAnyH_take (i:=27) (oi:=⟨some 60, .move (.tmp 10),_,_,_,_⟩) (v:= .bool n2) rfl (by kernel_rfl) (by kernel_rfl) (by kernel_rfl) (fun _ _ _ h=>h) (.inl ⟨by rfl,fun W _=>by go_simp⟩) hS ?_
 try simp only[Act.put,List.setIfInBounds_toArray,List.set_cons_zero,List.set_cons_succ]
 refine wpAnyH_take (i:=28) (oi:=⟨some 61, .binOp .eql 4 (.tmp 59) (.tmp 60) 4,_,_,_,_⟩) (v:= .bool true) rfl (by kernel_rfl) (by kernel_rfl) (by kernel_rfl) (fun _ _ _ h=>h) (.inl ⟨by rfl,fun W _=>by go_simp⟩) hS ?_
 try simp only[Act.put,List.setIfInBounds_toArray,List.set_cons_zero,List.set_cons_succ]
 refine wpAnyH_take (i:=29) (oi:=⟨some 62, .pick (.tmp 58) (.tmp 61) (.const (.bool false)),_,_,_,_⟩) (v:= .bool true) rfl (by kernel_rfl) (by kernel_rfl) (by kernel_rfl) (fun _ _ _ h=>h) (.inl ⟨by rfl,fun W _=>by go_simp⟩) hS ?_
 try simp only[Act.put,List.setIfInBounds_toArray,List.set_cons_zero,List.set_cons_succ]
 refine wpAnyH_take (i:=30) (oi:=⟨some 63, .move (.tmp 62),_,_,_,_⟩) (v:= .bool true) rfl (by kernel_rfl) (by kernel_rfl) (by kernel_rfl) (fun _ _ _ h=>h) (.inl ⟨by rfl,fun W _=>by go_simp⟩) hS ?_
 try simp only[Act.put,List.setIfInBounds_toArray,List.set_cons_zero,List.set_cons_succ]
 refine wpAnyH_ready (rs:=[31]) (by kernel_rfl) (by simp) ?_
 refine AllReadyH.cons (o:=⟨some 64, .call {callee:= .value (.func 48),args:= #[],argTypes:= #[]},_,_,_,_⟩) rfl (fun K hK=> ?_) AllReadyH.nil
 go_simp
 go_at_call 48
 refine(cl _ (below_next h6 hS)).mono ?_
 rintro e x5 ⟨rfl,hn⟩
 go_wp2_with fail
 have hS1:=below_next hS hn
 refine hK.out _ _ hS1 (fun _=> ?_)
 clear hK hS hn K
 have hS:=hS1
 clear hS1
 try simp only[Act.put,List.setIfInBounds_toArray,List.set_cons_zero,List.set_cons_succ]
 refine wpAnyH_take (i:=32) (oi:=⟨some 65, .pick (.tmp 63) (.tmp 64) (.const (.bool false)),_,_,_,_⟩) (v:= .bool true) rfl (by kernel_rfl) (by kernel_rfl) (by kernel_rfl) (fun _ _ _ h=>h) (.inl ⟨by rfl,fun W _=>by go_simp⟩) hS ?_
 try simp only[Act.put,List.setIfInBounds_toArray,List.set_cons_zero,List.set_cons_succ]
 refine wpAnyH_take (i:=33) (oi:=⟨some 2, .assign (.tmp 65),_,_,_,_⟩) (v:= .bool true) rfl (by kernel_rfl) (by kernel_rfl) (by kernel_rfl) (fun _ _ _ h=>h) (.inl ⟨by rfl,fun W _=>by go_simp⟩) hS ?_
 try simp only[Act.put,List.setIfInBounds_toArray,List.set_cons_zero,List.set_cons_succ]
 refine wpAnyH_done (by kernel_rfl) ?_ _
 go_wp2_with fail
 go_ret
 exact⟨rfl,below_next h6 hS⟩
end Go.Proofs.YtlcnknlmdaochaaGreatDoor
