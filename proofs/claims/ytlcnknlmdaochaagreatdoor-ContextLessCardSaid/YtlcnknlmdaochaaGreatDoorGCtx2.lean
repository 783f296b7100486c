/- The walks of context.Check for a part, of the closures of Near, and of slices.ContainsFunc at them. -/
import Derived.Test.YtlcnknlmdaochaaGreatDoorGCtx1
import Derived.Test.YtlcnknlmdaochaaGreatDoorGSit2
import Derived.Test.YtlcnknlmdaochaaGreatDoorRFourWalk
import Derived.Deep.RegionHeld
set_option linter.unusedVariables false
set_option linter.unusedSimpArgs false
set_option maxHeartbeats 16000000
namespace Go.Proofs.YtlcnknlmdaochaaGreatDoor
open Go.RowKit
def AskAt (B:Nat) (k:Int) (f t:UrlL) (m:List UInt8) (w:World):Prop:=w.heap[B]?=some (.cells (askC k f t m) 53 (0,0))
theorem AskAt.lt {B:Nat} {k:Int} {f t:UrlL} {m:List UInt8} {w:World} (h:AskAt B k f t m w):B<w.heap.size:=(Array.getElem?_eq_some_iff.1 h).1
theorem AskAt.on {B:Nat} {k:Int} {f t:UrlL} {m:List UInt8} {w w':World} (h:AskAt B k f t m w) (hb:Below w.heap.size w w'):AskAt B k f t m w':=(hb.block _ h.lt).trans h
theorem AskAt.cells {B:Nat} {k:Int} {f t:UrlL} {m:List UInt8} {w:World} (h:AskAt B k f t m w):
 w.cell? ⟨B,0,none⟩=some (.int .u8 k)∧
 w.cell? ⟨B,1,none⟩=some (.string ⟨f.scheme.toArray⟩)∧
 w.cell? ⟨B,2,none⟩=some (.string ⟨f.user.toArray⟩)∧
 w.cell? ⟨B,3,none⟩=some (.string ⟨f.pass.toArray⟩)∧
 w.cell? ⟨B,4,none⟩=some (.string ⟨f.host.toArray⟩)∧
 w.cell? ⟨B,5,none⟩=some (.int .i64 f.port)∧
 w.cell? ⟨B,6,none⟩=some (.string ⟨f.path.toArray⟩)∧
 w.cell? ⟨B,7,none⟩=some (.string ⟨f.query.toArray⟩)∧
 w.cell? ⟨B,8,none⟩=some (.bool f.hasQ)∧
 w.cell? ⟨B,9,none⟩=some (.string ⟨f.mark.toArray⟩)∧
 w.cell? ⟨B,10,none⟩=some (.bool f.hasM)∧
 w.cell? ⟨B,11,none⟩=some (.string ⟨t.scheme.toArray⟩)∧
 w.cell? ⟨B,12,none⟩=some (.string ⟨t.user.toArray⟩)∧
 w.cell? ⟨B,13,none⟩=some (.string ⟨t.pass.toArray⟩)∧
 w.cell? ⟨B,14,none⟩=some (.string ⟨t.host.toArray⟩)∧
 w.cell? ⟨B,15,none⟩=some (.int .i64 t.port)∧
 w.cell? ⟨B,16,none⟩=some (.string ⟨t.path.toArray⟩)∧
 w.cell? ⟨B,17,none⟩=some (.string ⟨t.query.toArray⟩)∧
 w.cell? ⟨B,18,none⟩=some (.bool t.hasQ)∧
 w.cell? ⟨B,19,none⟩=some (.string ⟨t.mark.toArray⟩)∧
 w.cell? ⟨B,20,none⟩=some (.bool t.hasM)∧
 w.cell? ⟨B,21,none⟩=some (.string ⟨m.toArray⟩):=
 ⟨by rw[Lib.cell_of_heap h];rfl,by rw[Lib.cell_of_heap h];rfl,by rw[Lib.cell_of_heap h];rfl,by rw[Lib.cell_of_heap h];rfl,by rw[Lib.cell_of_heap h];rfl,by rw[Lib.cell_of_heap h];rfl,by rw[Lib.cell_of_heap h];rfl,by rw[Lib.cell_of_heap h];rfl,by rw[Lib.cell_of_heap h];rfl,by rw[Lib.cell_of_heap h];rfl,by rw[Lib.cell_of_heap h];rfl,by rw[Lib.cell_of_heap h];rfl,by rw[Lib.cell_of_heap h];rfl,by rw[Lib.cell_of_heap h];rfl,by rw[Lib.cell_of_heap h];rfl,by rw[Lib.cell_of_heap h];rfl,by rw[Lib.cell_of_heap h];rfl,by rw[Lib.cell_of_heap h];rfl,by rw[Lib.cell_of_heap h];rfl,by rw[Lib.cell_of_heap h];rfl,by rw[Lib.cell_of_heap h];rfl,by rw[Lib.cell_of_heap h];rfl⟩
theorem at_results {B:Nat} {W:World} {v:UrlL} {tmps:Array Value} (h2:tmps[4]?.getD undef= .pointer (some ⟨B,0,none⟩)) (hU:UrlAt B v W):
 (results Tryz.f80 tmps).run Tryz.prog W= .ok (urlV v) W:=by
 obtain⟨c0,c1,c2,c3,c4,c5,c6,c7,c8,c9⟩:=hU.cells
 simp[results,Tryz.results80,go_sem,h2,c0,c1,c2,c3,c4,c5,c6,c7,c8,c9]
 rfl
theorem at_any (s h:List UInt8) (w:World):
 Calls Tryz.prog 80 #[.string ⟨s.toArray⟩, .string ⟨h.toArray⟩] w fun e w'=>e= .returned (urlV (atU s [] h (-1) [47] [] false))∧Below w.heap.size w w':=by
 have hU:UrlAt w.heap.size (atU s [] h (-1) [47] [] false) (w.alloc (.cells (cellsU (atU s [] h (-1) [47] [] false)).toArray 23)):=heap_alloc_new w _
 have hb:Below w.heap.size w (w.alloc (.cells (cellsU (atU s [] h (-1) [47] [] false)).toArray 23)):=below_alloc w _
 go_enter Tryz.func80,Tryz.ntmps80
 go_wp2_with fail
 exact⟨rfl,_,at_results rfl hU,rfl,hb⟩
set_option maxRecDepth 100000 in
theorem check_part (f t:UrlL) (w:World) (hE:EnvH w) (hf:sizeU f≤1000000000) (ht:sizeU t≤1000000000) (hpf:f.port≤9223372036854775807) (hpt:t.port≤9223372036854775807) (hcf:checkU f=true) (hct:checkU t=true):
 Calls Tryz.prog 81 #[askV 3 f t [71,69,84]] w fun e w'=>e= .returned (.bool true)∧Below w.heap.size w w':=by
 have ck:=fun W (hW:Below w.heap.size w W)=>token_yes [71,69,84] W (by simp) (by decide) (by decide)
 have cf:=lift_k w hE (fun W hW=>check_u f W hW hf hpf)
 have ct:=lift_k w hE (fun W hW=>check_u t W hW ht hpt)
 rw[hcf]at cf
 rw[hct]at ct
 obtain⟨wb,hwb⟩:∃W,(w.alloc (.cells (askC 3 f t [71,69,84]) 53)).alloc (.cells #[.string ⟨#[]⟩, .string ⟨#[]⟩, .string ⟨#[]⟩, .string ⟨#[]⟩, .int .i64 0, .string ⟨#[]⟩, .string ⟨#[]⟩, .bool false, .string ⟨#[]⟩, .bool false] 23)=W:=⟨_,rfl⟩
 have hA:AskAt w.heap.size 3 f t [71,69,84] wb:=by
  rw[←hwb];exact((below_alloc _ _).block _ (by rw[World.size_alloc];omega)).trans (heap_alloc_new w _)
 have hb:Below w.heap.size w wb:=by rw[←hwb];exact(below_alloc w _).alloc (by rw[World.size_alloc];omega) _
 unfold askC at hwb
 unfold askV askC
 unfold urlV at cf ct
 obtain⟨p0,p1,p2,p3,p4,p5,p6,p7,p8,p9,p10,p11,p12,p13,p14,p15,p16,p17,p18,p19,p20,p21⟩:=hA.cells
 have HWB:=Lib.hid hwb
 clear hE hf ht hpf hpt hcf hct hwb
 go_enter Tryz.func81,Tryz.ntmps81
 go_upto_region 2 with fail
 rw[HWB.out]
 go_wp2_with(first|(go_at_call 127;refine(ck _ hb).mono ?_;rintro e w1 ⟨rfl,hb1⟩;have hA1:=hA.on hb1;have h1:=below_next hb hb1;clear ck hA hb hb1 p0 p1 p2 p3 p4 p5 p6 p7 p8 p9 p10 p11 p12 p13 p14 p15 p16 p17 p18 p19 p20 p21;obtain⟨q0,q1,q2,q3,q4,q5,q6,q7,q8,q9,q10,q11,q12,q13,q14,q15,q16,q17,q18,q19,q20,q21⟩:=hA1.cells)|(go_at_call 19;refine(cf _ h1).mono ?_;rintro e w2 ⟨rfl,hb2⟩;have hA2:=hA1.on hb2;have h2:=below_next h1 hb2;clear cf hA1 hb2 h1 q0 q1 q2 q3 q4 q5 q6 q7 q8 q9 q10 q11 q12 q13 q14 q15 q16 q17 q18 q19 q20 q21;obtain⟨r0,r1,r2,r3,r4,r5,r6,r7,r8,r9,r10,r11,r12,r13,r14,r15,r16,r17,r18,r19,r20,r21⟩:=hA2.cells)|(go_at_call 19;refine(ct _ h2).mono ?_;rintro e w3 ⟨rfl,hb3⟩;have h3:=below_next h2 hb3;clear ct hA2 hb3 h2))
 go_ret
 exact⟨rfl,h3⟩
theorem near_one1 (x:UrlL) (w:World) (hE:EnvH w) (hs:sizeU x≤1000000000) (hp:x.port≤9223372036854775807):
 Calls Tryz.prog 129 #[urlV x] w fun e w'=>e= .returned (.bool (!checkU x))∧Below w.heap.size w w':=by
 obtain⟨wa,hwa⟩:∃W,w.alloc (.cells #[.string ⟨x.scheme.toArray⟩, .string ⟨x.user.toArray⟩, .string ⟨x.pass.toArray⟩, .string ⟨x.host.toArray⟩, .int .i64 x.port, .string ⟨x.path.toArray⟩, .string ⟨x.query.toArray⟩, .bool x.hasQ, .string ⟨x.mark.toArray⟩, .bool x.hasM] 23)=W:=⟨_,rfl⟩
 have hba:Below w.heap.size w wa:=by rw[←hwa];exact below_alloc w _
 have hA:UrlAt w.heap.size x wa:=by rw[←hwa];exact heap_alloc_new w _
 have cc:=check_u x wa (hE.below hba) hs hp
 obtain⟨p0,p1,p2,p3,p4,p5,p6,p7,p8,p9⟩:=hA.cells
 generalize checkU x=b at*
 unfold urlV at cc⊢
 clear hE
 go_enter Tryz.func129,Tryz.ntmps129
 go_wp2_with(go_at_call 19;refine cc.mono ?_;rintro e w1 ⟨rfl,hb1⟩)
 go_ret
 exact⟨rfl,below_next hba hb1⟩
set_option maxRecDepth 100000 in
theorem near_two1 (L:List (List UInt8)) (v:Value) (t x:UrlL) (A B:Nat) (w:World) (hE:EnvH w) (hT:Txt w v L) (hv:w.cell? ⟨A,0,none⟩=some v) (hAl:A<w.heap.size) (hB:UrlAt B t w) (r:Bool)
 (cs:∀W,Below w.heap.size w W→Calls Tryz.prog 33 #[v,urlV t,urlV x] W fun e W'=>e= .returned (.bool r)∧Below W.heap.size W W'):
 Calls Tryz.prog 130 #[urlV x, .pointer (some ⟨A,0,none⟩), .pointer (some ⟨B,0,none⟩)] w fun e w'=>e= .returned (.bool (!r))∧Below w.heap.size w w':=by
 obtain⟨wa,hwa⟩:∃W,w.alloc (.cells #[.string ⟨x.scheme.toArray⟩, .string ⟨x.user.toArray⟩, .string ⟨x.pass.toArray⟩, .string ⟨x.host.toArray⟩, .int .i64 x.port, .string ⟨x.path.toArray⟩, .string ⟨x.query.toArray⟩, .bool x.hasQ, .string ⟨x.mark.toArray⟩, .bool x.hasM] 23)=W:=⟨_,rfl⟩
 have hba:Below w.heap.size w wa:=by rw[←hwa];exact below_alloc w _
 have hA:UrlAt w.heap.size x wa:=by rw[←hwa];exact heap_alloc_new w _
 have hB1:=hB.on hba
 have hv1:wa.cell? ⟨A,0,none⟩=some v:=(hba.cell (p:=⟨A,0,none⟩) hAl).trans hv
 have cc:=cs wa hba
 obtain⟨p0,p1,p2,p3,p4,p5,p6,p7,p8,p9⟩:=hA.cells
 obtain⟨q0,q1,q2,q3,q4,q5,q6,q7,q8,q9⟩:=hB1.cells
 have hv2:∃p n c,v= .slice p n c:=by
  rcases hT with ⟨h1,_⟩|⟨a,c,h1,_⟩<;>exact⟨_,_,_,h1⟩
 obtain⟨p,n,c,rfl⟩:=hv2
 unfold urlV at cc⊢
 clear hE cs hT hB hv
 go_enter Tryz.func130,Tryz.ntmps130
 go_wp2_with(go_at_call 33;refine cc.mono ?_;rintro e w1 ⟨rfl,hb1⟩)
 go_ret
 exact⟨rfl,below_next hba hb1⟩
set_option maxRecDepth 100000 in
theorem has_one (B c:Nat) (x:UrlL) (w:World) (hU:UrlAt B x w) (cx:∀W,Below w.heap.size w W→Calls Tryz.prog 129 #[urlV x] W fun e W'=>e= .returned (.bool false)∧Below W.heap.size W W'):
 Calls Tryz.prog 128 #[.slice (some ⟨B,0,none⟩) 1 c, .func (.func 129) #[] #[]] w fun e w'=>e= .returned (.bool false)∧Below w.heap.size w w':=by
 have hi:Calls Tryz.prog 175 #[.slice (some ⟨B,0,none⟩) 1 c, .func (.func 129) #[] #[]] w fun e w'=>e= .returned (.int .i64 (-1))∧Below w.heap.size w w':=by
  have c1:=cx w (Below.refl _ _);obtain⟨p0,p1,p2,p3,p4,p5,p6,p7,p8,p9⟩:=hU.cells;unfold urlV at c1;clear cx;go_enter Tryz.func175,Tryz.ntmps175;go_wp2_with fail;refine wp_loop_rounds 2 ?_;rw[rounds_succ];go_wp2_with fail;go_at_call 129;refine c1.mono ?_;rintro e w1 ⟨rfl,hb1⟩;go_wp2_with fail;rw[rounds_succ];go_wp2_with fail;go_ret;exact⟨rfl,hb1⟩
 clear cx
 go_enter Tryz.func128,Tryz.ntmps128
 go_wp2_with(go_at_call 175;refine hi.mono ?_;rintro e w1 ⟨rfl,hb1⟩)
 go_ret
 exact⟨rfl,hb1⟩
set_option maxRecDepth 100000 in
theorem has_two (G n A B:Nat) (f x:UrlL) (r:Bool) (w:World)
 (hc:∀W,Below w.heap.size w W→W.cell? ⟨G,0,none⟩=some (.string ⟨f.scheme.toArray⟩)∧W.cell? ⟨G,1,none⟩=some (.string ⟨f.user.toArray⟩)∧W.cell? ⟨G,2,none⟩=some (.string ⟨f.pass.toArray⟩)∧W.cell? ⟨G,3,none⟩=some (.string ⟨f.host.toArray⟩)∧W.cell? ⟨G,4,none⟩=some (.int .i64 f.port)∧W.cell? ⟨G,5,none⟩=some (.string ⟨f.path.toArray⟩)∧W.cell? ⟨G,6,none⟩=some (.string ⟨f.query.toArray⟩)∧W.cell? ⟨G,7,none⟩=some (.bool f.hasQ)∧W.cell? ⟨G,8,none⟩=some (.string ⟨f.mark.toArray⟩)∧W.cell? ⟨G,9,none⟩=some (.bool f.hasM)∧W.cell? ⟨G,10,none⟩=some (.string ⟨x.scheme.toArray⟩)∧W.cell? ⟨G,11,none⟩=some (.string ⟨x.user.toArray⟩)∧W.cell? ⟨G,12,none⟩=some (.string ⟨x.pass.toArray⟩)∧W.cell? ⟨G,13,none⟩=some (.string ⟨x.host.toArray⟩)∧W.cell? ⟨G,14,none⟩=some (.int .i64 x.port)∧W.cell? ⟨G,15,none⟩=some (.string ⟨x.path.toArray⟩)∧W.cell? ⟨G,16,none⟩=some (.string ⟨x.query.toArray⟩)∧W.cell? ⟨G,17,none⟩=some (.bool x.hasQ)∧W.cell? ⟨G,18,none⟩=some (.string ⟨x.mark.toArray⟩)∧W.cell? ⟨G,19,none⟩=some (.bool x.hasM))
 (cf:∀W,Below w.heap.size w W→Calls Tryz.prog 130 #[urlV f, .pointer (some ⟨A,0,none⟩), .pointer (some ⟨B,0,none⟩)] W fun e W'=>e= .returned (.bool false)∧Below W.heap.size W W')
 (cx:∀W,Below w.heap.size w W→Calls Tryz.prog 130 #[urlV x, .pointer (some ⟨A,0,none⟩), .pointer (some ⟨B,0,none⟩)] W fun e W'=>e= .returned (.bool (!r))∧Below W.heap.size W W'):
 Calls Tryz.prog 128 #[.slice (some ⟨G,0,none⟩) 2 n, .func (.func 130) #[] #[.pointer (some ⟨A,0,none⟩), .pointer (some ⟨B,0,none⟩)]] w fun e w'=>e= .returned (.bool (!r))∧Below w.heap.size w w':=by
 have hi:Calls Tryz.prog 175 #[.slice (some ⟨G,0,none⟩) 2 n, .func (.func 130) #[] #[.pointer (some ⟨A,0,none⟩), .pointer (some ⟨B,0,none⟩)]] w fun e w'=>e= .returned (.int .i64 (if r then -1 else 1))∧Below w.heap.size w w':=by
  have hb0:=Below.refl w.heap.size w;obtain⟨p0,p1,p2,p3,p4,p5,p6,p7,p8,p9,p10,p11,p12,p13,p14,p15,p16,p17,p18,p19⟩:=hc w hb0;unfold urlV at cf cx
  cases r
  all_goals
   go_enter Tryz.func175,Tryz.ntmps175;go_wp2_with fail;refine wp_loop_rounds 3 ?_;rw[rounds_succ];go_wp2_with fail;go_at_call 130;refine(cf _ hb0).mono ?_;rintro e w1 ⟨rfl,hb1⟩;clear cf p0 p1 p2 p3 p4 p5 p6 p7 p8 p9 p10 p11 p12 p13 p14 p15 p16 p17 p18 p19;obtain⟨p0,p1,p2,p3,p4,p5,p6,p7,p8,p9,p10,p11,p12,p13,p14,p15,p16,p17,p18,p19⟩:=hc w1 hb1;go_wp2_with fail;rw[rounds_succ];go_wp2_with fail;go_at_call 130;refine(cx _ hb1).mono ?_;rintro e w2 ⟨rfl,hb2⟩;have h2:=below_next hb1 hb2;clear cx hb2 p0 p1 p2 p3 p4 p5 p6 p7 p8 p9 p10 p11 p12 p13 p14 p15 p16 p17 p18 p19;go_wp2_with fail
   try rw[rounds_succ]
   try go_wp2_with fail
   go_ret;exact⟨rfl,h2⟩
 clear cf cx hc
 cases r
 all_goals
  go_enter Tryz.func128,Tryz.ntmps128;go_wp2_with(go_at_call 175;refine hi.mono ?_;rintro e w1 ⟨rfl,hb1⟩);go_ret;exact⟨rfl,hb1⟩
theorem url_info:(Tryz.prog.info? 23).map (fun i=>(i.zero,i.size,i.bytes))=some (some (.agg #[.string ⟨#[]⟩, .string ⟨#[]⟩, .string ⟨#[]⟩, .string ⟨#[]⟩, .int .i64 0, .string ⟨#[]⟩, .string ⟨#[]⟩, .bool false, .string ⟨#[]⟩, .bool false]),10,136):=by kernel_rfl
theorem own_url (W:World) (f:UrlL):(W.alloc (.cells (cellsU f).toArray 23)).ownsRow W.heap.size 23 10 (.slice (some ⟨W.heap.size,0,none⟩) 1 1) 1 (cellsU f):=
 ⟨rfl, .inr ⟨W.heap.size,1,_,rfl,Nat.le_refl _,World.alloc_heap_new W _,Nat.le_refl _,by unfold maxLen;omega,rfl,rfl⟩⟩
theorem one_url (x:UrlL):∀u∈cellsU x,u.oneCell'=true:=fun u hu=>by
 simp only[cellsU,List.mem_cons,List.not_mem_nil,or_false]at hu;rcases hu with rfl|rfl|rfl|rfl|rfl|rfl|rfl|rfl|rfl|rfl<;>rfl
set_option maxRecDepth 100000 in
theorem near_part (L:List (List UInt8)) (f t x:UrlL) (v:Value) (X:Nat) (w:World) (hE:EnvH w) (hT:Txt w v L) (hl:L.length≤1000000) (hs:∀p∈L,p.length≤4000000000) (hX:UrlAt X x w)
 (zf:sizeU f≤1000000000) (zt:sizeU t≤1000000000) (zx:sizeU x≤1000000000) (pf:f.port≤9223372036854775807) (pt:t.port≤9223372036854775807) (px:x.port≤9223372036854775807)
 (hL:checkL L=true) (hf:checkU f=true) (ht:checkU t=true) (hx:checkU x=true) (hsf:sameL L t f=true):
 Calls Tryz.prog 82 #[v,askV 3 f t [71,69,84], .slice (some ⟨X,0,none⟩) 1 1] w fun e w'=>e= .returned (.bool (sameL L t x))∧Below w.heap.size w w':=by
 obtain⟨p,n,c,rfl⟩:∃p n c,v= .slice p n c:=by
  rcases hT with ⟨h1,_⟩|⟨a,c,h1,_⟩<;>exact⟨_,_,_,h1⟩
 obtain⟨wa,hwa⟩:∃W,w.alloc (.cells #[.slice p n c] 36)=W:=⟨_,rfl⟩
 have hba:Below w.heap.size w wa:=by rw[←hwa];exact below_alloc w _
 have sa:wa.heap.size=w.heap.size+1:=by rw[←hwa,World.size_alloc]
 have hR0:wa.heap[w.heap.size]?=some (.cells #[.slice p n c] 36 (0,0)):=by rw[←hwa];exact heap_alloc_new w _
 obtain⟨wb,hwb⟩:∃W,wa.alloc (.cells (askC 3 f t [71,69,84]) 53)=W:=⟨_,rfl⟩
 have hbb:Below w.heap.size w wb:=by rw[←hwb];exact hba.alloc hba.size _
 have hA:AskAt (w.heap.size+1) 3 f t [71,69,84] wb:=by rw[←sa,←hwb];exact heap_alloc_new wa _
 have hR:wb.heap[w.heap.size]?=some (.cells #[.slice p n c] 36 (0,0)):=by rw[←hwb];exact((below_alloc wa _).block _ (by omega)).trans hR0
 have hXb:=hX.on hbb
 have hEb:=hE.below hbb
 have hTb:=hT.below hbb (Nat.le_refl _)
 have hXl:=hX.lt
 rw[←hwa]at hwb
 have hsz:w.heap.size+1<wb.heap.size:=hA.lt
 have hb0:=Below.refl wb.heap.size wb
 have cl:=fun W (hW:Below wb.heap.size wb W)=>check_any L _ W (hEb.below hW).t.env.shaped (hTb.below hW (Nat.le_refl _)) (by omega) hs
 rw[hL]at cl
 have cp:=fun W (hW:Below wb.heap.size wb W)=>check_part f t W (hEb.below hW) zf zt pf pt hf ht
 have cn:=fun W (hW:Below wb.heap.size wb W)=>near_one1 x W (hEb.below hW) zx px
 rw[hx]at cn
 have co:=fun W (hW:Below wb.heap.size wb W)=>has_one X 1 x W (hXb.on hW) (fun W' hW'=>cn W' (below_next hW hW'))
 have cs:=fun (u:UrlL) (zu:sizeU u≤1000000000) (pu:u.port≤9223372036854775807) W (hW:Below wb.heap.size wb W)=>same_any L t u _ W (hEb.below hW) (hTb.below hW (Nat.le_refl _)) hl hs zt zu pt pu check_host check_host
 have cs1:=cs f zf pf
 rw[hsf]at cs1
 have cs2:=cs x zx px
 generalize sameL L t x=r at*
 have hRR:∀W,Below wb.heap.size wb W→W.cell? ⟨w.heap.size,0,none⟩=some (.slice p n c):=fun W hW=>by rw[Lib.cell_of_heap ((hW.block _ (by omega)).trans hR)];rfl
 have hAA:∀W,Below wb.heap.size wb W→AskAt (w.heap.size+1) 3 f t [71,69,84] W:=fun W hW=>hA.on hW
 have HBB:=Lib.hid hbb
 have HWB:=Lib.hid hwb
 have HE:=Lib.hid hEb
 have HT:=Lib.hid hTb
 have HX:=Lib.hid hXb
 have r0:=hRR wb hb0
 clear hwa hba sa hR0 hwb hA hR hXb hEb hTb hE hT hX cn cs hL hf ht hx hsf zf zt zx pf pt px hbb hl hs
 unfold askV
 unfold askC at HWB⊢
 go_enter Tryz.func82,Tryz.ntmps82
 go_upto_region 1 with fail
 rw[HWB.out]
 clear HWB
 generalize Value.agg #[.int .u8 3, .string ⟨f.scheme.toArray⟩, .string ⟨f.user.toArray⟩, .string ⟨f.pass.toArray⟩, .string ⟨f.host.toArray⟩, .int .i64 f.port, .string ⟨f.path.toArray⟩, .string ⟨f.query.toArray⟩, .bool f.hasQ, .string ⟨f.mark.toArray⟩, .bool f.hasM, .string ⟨t.scheme.toArray⟩, .string ⟨t.user.toArray⟩, .string ⟨t.pass.toArray⟩, .string ⟨t.host.toArray⟩, .int .i64 t.port, .string ⟨t.path.toArray⟩, .string ⟨t.query.toArray⟩, .bool t.hasQ, .string ⟨t.mark.toArray⟩, .bool t.hasM, .string ⟨#[71,69,84]⟩]=V1 at*
 have hi22:(Tryz.prog.info? 53).map (·.size)=some (askC 3 f t [71,69,84]).size:=by kernel_rfl
 go_wp2_with fail
 go_at_call 66
 refine(cl _ hb0).mono ?_
 rintro e w1 ⟨rfl,h1⟩
 clear cl hb0 r0
 have a1:AskAt (w.heap.size+1) 3 f t [71,69,84] w1:=hAA w1 h1
 unfold AskAt at a1
 go_wp2_with(first|(refine wpList_row_at (o:=⟨some 13, .load 53 (.tmp 4),_,_,_,_⟩) rfl 53 (.tmp 4) rfl (w.heap.size+1) rfl 53 (askC 3 f t [71,69,84]) (0,0) _ a1 Tryz.underlying53 rfl hi22 ?_))
 go_at_call 81
 refine(cp _ h1).mono ?_
 rintro e w2 ⟨rfl,hb2⟩
 have h2:=below_next h1 hb2
 clear cp h1 hb2 a1
 go_upto_region 3 with (go_at_call 128;refine(co _ h2).mono ?_;rintro e w3 ⟨rfl,hb3⟩;have h3:=below_next h2 hb3;clear co h2 hb3)
 have r3:=hRR w3 h3
 have hl3:=(hAA w3 h3).lt
 obtain⟨p0,p1,p2,p3,p4,p5,p6,p7,p8,p9,p10,p11,p12,p13,p14,p15,p16,p17,p18,p19,p20,p21⟩:=(hAA w3 h3).cells
 clear r3 p0 p11 p12 p13 p14 p15 p16 p17 p18 p19 p20 p21
 go_region
 obtain⟨w4,hw4⟩:∃W,(w3.alloc (.cells #[.string ⟨f.scheme.toArray⟩, .string ⟨f.user.toArray⟩, .string ⟨f.pass.toArray⟩, .string ⟨f.host.toArray⟩, .int .i64 f.port, .string ⟨f.path.toArray⟩, .string ⟨f.query.toArray⟩, .bool f.hasQ, .string ⟨f.mark.toArray⟩, .bool f.hasM] 23)).drew=W:=⟨_,rfl⟩
 have hF4:UrlAt w3.heap.size f w4:=by rw[←hw4];exact heap_alloc_new w3 _
 have hb34:Below w3.heap.size w3 w4:=by rw[←hw4];exact(below_alloc w3 _).drew
 have h34:w3.heap.size<w4.heap.size:=hF4.lt
 rw[hw4]
 clear hw4 p1 p2 p3 p4 p5 p6 p7 p8 p9 p10
 have h4:=below_next h3 hb34
 have hw3:=h3.size
 have hA4:=hAA w4 h4
 have hX4:UrlAt X x w4:=HX.out.on h4
 have hlA:=hA4.lt
 obtain⟨p0,p1,p2,p3,p4,p5,p6,p7,p8,p9,p10,p11,p12,p13,p14,p15,p16,p17,p18,p19,p20,p21⟩:=hA4.cells
 go_upto_region 8 with fail
 obtain⟨i0,hi,hz0,hz1,hz2⟩:=info_parts url_info
 have hown:(w4.alloc (.cells #[.string ⟨f.scheme.toArray⟩, .string ⟨f.user.toArray⟩, .string ⟨f.pass.toArray⟩, .string ⟨f.host.toArray⟩, .int .i64 f.port, .string ⟨f.path.toArray⟩, .string ⟨f.query.toArray⟩, .bool f.hasQ, .string ⟨f.mark.toArray⟩, .bool f.hasM] 23)).ownsRow w4.heap.size 23 10 (.slice (some ⟨w4.heap.size,0,none⟩) 1 1) 1 (cellsU f):=own_url w4 f
 have hXa:UrlAt X x (w4.alloc (.cells #[.string ⟨f.scheme.toArray⟩, .string ⟨f.user.toArray⟩, .string ⟨f.pass.toArray⟩, .string ⟨f.host.toArray⟩, .int .i64 f.port, .string ⟨f.path.toArray⟩, .string ⟨f.query.toArray⟩, .bool f.hasQ, .string ⟨f.mark.toArray⟩, .bool f.hasM] 23)):=((below_alloc w4 _).block _ hX4.lt).trans hX4
 have hAa:AskAt (w.heap.size+1) 3 f t [71,69,84] (w4.alloc (.cells #[.string ⟨f.scheme.toArray⟩, .string ⟨f.user.toArray⟩, .string ⟨f.pass.toArray⟩, .string ⟨f.host.toArray⟩, .int .i64 f.port, .string ⟨f.path.toArray⟩, .string ⟨f.query.toArray⟩, .bool f.hasQ, .string ⟨f.mark.toArray⟩, .bool f.hasM] 23)):=((below_alloc w4 _).block _ hA4.lt).trans hA4
 have hFa:UrlAt w3.heap.size f (w4.alloc (.cells #[.string ⟨f.scheme.toArray⟩, .string ⟨f.user.toArray⟩, .string ⟨f.pass.toArray⟩, .string ⟨f.host.toArray⟩, .int .i64 f.port, .string ⟨f.path.toArray⟩, .string ⟨f.query.toArray⟩, .bool f.hasQ, .string ⟨f.mark.toArray⟩, .bool f.hasM] 23)):=((below_alloc w4 _).block _ hF4.lt).trans hF4
 clear p0 p21 hA4 hF4 hX4 h3 hb34
 go_region_law ((refine step_append_lies _ (by rfl) (.tmp 32) (.tmp 33) 100 (by rfl) w4.heap.size 23 i0 _ 10 136 Tryz.underlying100 hi hz0 hz1 hz2 rfl (by omega) (.slice (some ⟨w4.heap.size,0,none⟩) 1 1) 1 (cellsU f) (by rfl) (by first|exact hown|exact own_drew hown) ⟨X,0,none⟩ 1 1 (cellsU x) (by rfl) rfl (fun j u hj=>World.news_of_block (cs:=(cellsU x).toArray) (by exact hXa) j u (by exact hj)) (one_url x) (by omega) (by unfold maxLen;omega) (by omega) (by simp) (w4.heap.size+1) (by simp) ?_;intro g cap w5 hown5 hgr hat hlt;have hA5:AskAt (w.heap.size+1) 3 f t [71,69,84] w5:=(hgr.block _ (by simp;omega) (by intro e;injection e with e;simp at e;omega)).trans hAa;have hF5:UrlAt w3.heap.size f w5:=(hgr.block _ (by simp;omega) (by intro e;injection e with e;simp at e;omega)).trans hFa;obtain⟨q0,q1,q2,q3,q4,q5,q6,q7,q8,q9,q10,q11,q12,q13,q14,q15,q16,q17,q18,q19,q20,q21⟩:=hA5.cells;obtain⟨c0,c1,c2,c3,c4,c5,c6,c7,c8,c9⟩:=hF5.cells;obtain⟨fz0,fz1,fz2,fz3,fz4,fz5,fz6,fz7,fz8,fz9⟩:=hF5.frees;have hl5:=hF5.lt;have hl6:=hA5.lt))
 all_goals
  obtain⟨W6,hW6⟩:∃W,putU w5 w3.heap.size t=W:=⟨_,rfl⟩;have hs34:=h4.size;have hrow:∀k,(Value.slice (some ⟨w4.heap.size,0,none⟩) 1 1).ownBlock=some k→wb.heap.size≤k:=fun k hk=>by injection hk with hk;simp at hk;omega
  have h5:Below wb.heap.size wb w5:=by first|exact(h4.alloc h4.size _).drew.trans (below_of_grown hgr (by simp;omega) hrow)|exact(h4.alloc h4.size _).trans (below_of_grown hgr (by simp;omega) hrow)
  have h6:Below wb.heap.size wb W6:=by rw[←hW6];exact putU_below h5 hw3 t
  have hT6:UrlAt w3.heap.size t W6:=by rw[←hW6];exact hF5.put t
  have hG:∃(cur:Array Value) (fr:Nat×Nat),W6.heap[g]?=some (.cells cur 23 fr)∧∀(k:Nat) (u:Value),(cellsU f++cellsU x)[k]?=some u→cur[k]?=some u:=by
   rcases hown5.2 with ⟨e,_⟩|⟨g',cap',cur,e,hbg,hh,_,_,_,htk⟩
   ·cases e
   ·injection e with e _ _
    injection e with e;injection e with e;subst e;refine⟨cur,_,by rw[←hW6];exact(putU_other w5 _ t (by omega)).trans hh,fun k u hk=> ?_⟩;rw[←htk]at hk;have hlt:k<20:=by
     have:=(List.getElem?_eq_some_iff.1 hk).1;rw[List.length_take]at this;omega
    rw[List.getElem?_take_of_lt (by omega)]at hk;simpa using hk
  obtain⟨cur,fr,hg6,hcur⟩:=hG;have hgl:=(Array.getElem?_eq_some_iff.1 hg6).1;have hone:∀W,Below W6.heap.size W6 W→∀(k:Nat) (u:Value),(cellsU f++cellsU x)[k]?=some u→W.cell? ⟨g,k,none⟩=some u:=fun W hW k u hk=>by
   rw[Lib.cell_of_heap ((hW.block g hgl).trans hg6)];exact hcur k u hk
  have hsw:w.heap.size<W6.heap.size:=by have:=h6.size;omega
  have cc:=has_two g cap w.heap.size w3.heap.size f x r W6 (fun W hW=>⟨hone W hW 0 _ rfl,hone W hW 1 _ rfl,hone W hW 2 _ rfl,hone W hW 3 _ rfl,hone W hW 4 _ rfl,hone W hW 5 _ rfl,hone W hW 6 _ rfl,hone W hW 7 _ rfl,hone W hW 8 _ rfl,hone W hW 9 _ rfl,hone W hW 10 _ rfl,hone W hW 11 _ rfl,hone W hW 12 _ rfl,hone W hW 13 _ rfl,hone W hW 14 _ rfl,hone W hW 15 _ rfl,hone W hW 16 _ rfl,hone W hW 17 _ rfl,hone W hW 18 _ rfl,hone W hW 19 _ rfl⟩)
   (fun W hW=>near_two1 L _ t f w.heap.size w3.heap.size W (HE.out.below (below_next h6 hW)) (HT.out.below (below_next h6 hW) (Nat.le_refl _)) (hRR W (below_next h6 hW)) (Nat.lt_of_lt_of_le hsw hW.size) (hT6.on hW) true (fun W' hW'=>cs1 W' (below_next (below_next h6 hW) hW')))
   (fun W hW=>near_two1 L _ t x w.heap.size w3.heap.size W (HE.out.below (below_next h6 hW)) (HT.out.below (below_next h6 hW) (Nat.le_refl _)) (hRR W (below_next h6 hW)) (Nat.lt_of_lt_of_le hsw hW.size) (hT6.on hW) r (fun W' hW'=>cs2 W' (below_next (below_next h6 hW) hW')))
  clear hone hcur hg6 hgl hT6 h5 hown5 hgr hat cs1 cs2 hRR hAA hA5 hF5 hown hXa hAa hFa q0 q1 q2 q3 q4 q5 q6 q7 q8 q9 q10 q11 q12 q13 q14 q15 q16 q17 q18 q19 q20 q21 c0 c1 c2 c3 c4 c5 c6 c7 c8 c9 fz0 fz1 fz2 fz3 fz4 fz5 fz6 fz7 fz8 fz9 p1 p2 p3 p4 p5 p6 p7 p8 p9 p10 p11 p12 p13 p14 p15 p16 p17 p18 p19 p20;have hmf:∀(fn:Fn) (first cap:Array Value) (w:World),(Instr.makeFunc fn first cap).run Tryz.prog w= .ok (.func fn first cap) w:=fun _ _ _ _=>rfl
  unfold putU at hW6;rw[hW6];clear hW6;go_wp2_with fail;go_at_call 128;refine cc.mono ?_;rintro e w7 ⟨rfl,hb7⟩;go_wp2_with fail;go_ret;exact⟨by simp,HBB.out.trans ((below_next h6 hb7).mono HBB.out.size)⟩
def testL:List (List UInt8):=[[116,101,115,116]]
def ca1:UrlL:=atU httpsB [] [97,46,116,101,115,116] (-1) [47] [] false
def ca2:UrlL:=atU httpsB [] [120,46,97,46,116,101,115,116] (-1) [47] [] false
def ca3:UrlL:=atU httpsB [] [98,46,116,101,115,116] (-1) [47] [] false
def ca4:UrlL:=atU httpB [] [97,46,116,101,115,116] (-1) [47] [] false
theorem cg1:GoodU ca1:=at_good (.inr rfl) (by decide) (by decide+kernel) (.inl rfl) path_s (by decide) (by simp) (by decide)
theorem cg2:GoodU ca2:=at_good (.inr rfl) (by decide) (by decide+kernel) (.inl rfl) path_s (by decide) (by simp) (by decide)
theorem cg3:GoodU ca3:=at_good (.inr rfl) (by decide) (by decide+kernel) (.inl rfl) path_s (by decide) (by simp) (by decide)
theorem cg4:GoodU ca4:=at_good (.inl rfl) (by decide) (by decide+kernel) (.inl rfl) path_s (by decide) (by simp) (by decide)
theorem test_check:checkL testL=true:=by decide+kernel
theorem cw1:ownL testL [97,46,116,101,115,116]=([97,46,116,101,115,116],0):=own_plain test_check (by decide+kernel) (by decide+kernel) (by decide+kernel)
theorem cw2:ownL testL [120,46,97,46,116,101,115,116]=([97,46,116,101,115,116],0):=own_plain test_check (by decide+kernel) (by decide+kernel) (by decide+kernel)
theorem cw3:ownL testL [98,46,116,101,115,116]=([98,46,116,101,115,116],0):=own_plain test_check (by decide+kernel) (by decide+kernel) (by decide+kernel)
theorem cs1:sameL testL ca1 ca1=true:=same_iff.2 ⟨test_check,check_iff.2 cg1,check_iff.2 cg1,rfl,rfl⟩
theorem cs2:sameL testL ca1 ca2=true:=same_iff.2 ⟨test_check,check_iff.2 cg1,check_iff.2 cg2,rfl,(site_of cw1 (by simp)).trans (site_of cw2 (by simp)).symm⟩
theorem cs3:sameL testL ca1 ca3=false:=by
 rw[Bool.eq_false_iff];intro h;have:=(same_iff.1 h).2.2.2.2;rw[show ca1.host=[97,46,116,101,115,116]from rfl,show ca3.host=[98,46,116,101,115,116]from rfl,site_of cw1 (by simp),site_of cw3 (by simp)]at this;exact absurd this (by decide)
theorem cs4:sameL testL ca1 ca4=false:=by
 rw[Bool.eq_false_iff];intro h;have:=(same_iff.1 h).2.2.2.1;exact absurd this (by decide)
theorem lit_txtT (w:World) (L:List (List UInt8)) (cs:Array Value) (hc:cs=(strs L).toArray):Txt (w.alloc (.cells cs 9)) (.slice (some ⟨w.heap.size,0,none⟩) L.length L.length) L:=by
 subst hc;refine .inr ⟨⟨w.heap.size,0,none⟩,L.length,rfl,Nat.le_refl _,fun _=>by rw[World.size_alloc];exact Nat.lt_succ_self _,fun k hk=> ?_⟩;rw[Addr.add_lit,Nat.zero_add,World.cell?_alloc_at _ _ _ _ rfl,List.getElem?_toArray,strs_get hk]
theorem one_ask (k:Int) (f t:UrlL) (m:List UInt8):∀u∈(askC k f t m).toList,u.oneCell'=true:=fun u hu=>by
 simp only[askC,List.mem_cons,List.not_mem_nil,or_false]at hu;rcases hu with rfl|rfl|rfl|rfl|rfl|rfl|rfl|rfl|rfl|rfl|rfl|rfl|rfl|rfl|rfl|rfl|rfl|rfl|rfl|rfl|rfl|rfl<;>rfl
theorem lift_t {f:FuncId} {args:Array Value} {v:Value} {w:World} (hE:EnvH w) (h:∀W,EnvH W→Below w.heap.size w W→Calls Tryz.prog f args W fun e W'=>e= .returned v∧Below W.heap.size W W'):∀W,Below w.heap.size w W→Calls Tryz.prog f args W fun e W'=>e= .returned v∧Below W.heap.size W W':=fun W hW=>h W (hE.below hW) hW
set_option maxRecDepth 100000 in
theorem lives14 (w0:World) (hE0:EnvH w0):
 Calls Tryz.prog 48 #[] w0 fun e w'=>e= .returned (.bool true)∧Below w0.heap.size w0 w':=by
 obtain⟨w,hw⟩:∃W,w0.alloc (.cells #[.string ⟨#[116,101,115,116]⟩] 9)=W:=⟨_,rfl⟩
 have hb00:Below w0.heap.size w0 w:=by rw[←hw];exact below_alloc w0 _
 have hT:Txt w (.slice (some ⟨w0.heap.size,0,none⟩) 1 1) testL:=by rw[←hw];exact lit_txtT w0 testL _ rfl
 have hE:=hE0.below hb00
 have hb0:=Below.refl w.heap.size w
 have a1:=lift_t hE (fun W hW _=>at_any [104,116,116,112,115] [97,46,116,101,115,116] W)
 have a2:=lift_t hE (fun W hW _=>at_any [104,116,116,112,115] [120,46,97,46,116,101,115,116] W)
 have a3:=lift_t hE (fun W hW _=>at_any [104,116,116,112,115] [98,46,116,101,115,116] W)
 have a4:=lift_t hE (fun W hW _=>at_any [104,116,116,112] [97,46,116,101,115,116] W)
 have n1:=lift_t hE (fun W hW _=>cnext_any [80,79,83,84] 302 W (by decide) (by decide))
 have n2:=lift_t hE (fun W hW _=>cnext_any [80,85,84] 302 W (by decide) (by decide))
 have n3:=lift_t hE (fun W hW _=>cnext_any [71,69,84] 200 W (by decide) (by decide))
 rw[show nextM [80,79,83,84] 302=([71,69,84],true)by decide]at n1
 rw[show nextM [80,85,84] 302=([80,85,84],true)by decide]at n2
 rw[show nextM [71,69,84] 200=([],false)by decide]at n3
 have cp:=lift_t hE (fun W hW _=>check_part ca1 ca1 W hW (by decide) (by decide) (by decide) (by decide) (check_iff.2 cg1) (check_iff.2 cg1))
 have g1:=lift_t hE (fun W hW _=>goes_any 2 3 false ca1 ca1 [71,69,84] W (by decide))
 have g2:=lift_t hE (fun W hW _=>goes_any 3 3 false ca1 ca1 [71,69,84] W (by decide))
 rw[show goesL 2 false 3 [71,69,84]=false by decide]at g1
 rw[show goesL 3 false 3 [71,69,84]=true by decide]at g2
 have near:∀(x:UrlL) (r:Bool) (hr:sameL testL ca1 x=r) (hx:checkU x=true) (zx:sizeU x≤1000000000) (px:x.port≤9223372036854775807) (X:Nat) (W:World),Below w.heap.size w W→UrlAt X x W→
  Calls Tryz.prog 82 #[.slice (some ⟨w0.heap.size,0,none⟩) 1 1,askV 3 ca1 ca1 [71,69,84], .slice (some ⟨X,0,none⟩) 1 1] W fun e W'=>e= .returned (.bool r)∧Below W.heap.size W W':=fun x r hr hx zx px X W hB hU=>by
  subst hr
  exact near_part testL ca1 ca1 x _ X W (hE.below hB) (hT.below hB (Nat.le_refl _)) (by decide) (by decide) hU (by decide) (by decide) zx (by decide) (by decide) px test_check (check_iff.2 cg1) (check_iff.2 cg1) hx cs1
 have e1:=near ca2 true cs2 (check_iff.2 cg2) (by decide) (by decide)
 have e2:=near ca3 false cs3 (check_iff.2 cg3) (by decide) (by decide)
 have e3:=near ca4 false cs4 (check_iff.2 cg4) (by decide) (by decide)
 clear near hE0 hE hT
 have HB00:=Lib.hid hb00
 clear hb00
 obtain⟨CS,hCS⟩:∃cs,(askC 3 ca1 ca1 [71,69,84]).toList=cs:=⟨_,rfl⟩
 have hV:askV 3 ca1 ca1 [71,69,84]= .agg CS.toArray:=by rw[←hCS];rfl
 rw[hV]at cp g1 g2 e1 e2 e3
 have hsz:w0.heap.size<w.heap.size:=by rw[←hw,World.size_alloc];omega
 have hi22:(Tryz.prog.info? 53).map (·.size)=some CS.length:=by rw[←hCS];kernel_rfl
 have ho:=all_oneCell_toArray (show ∀v∈CS,v.oneCell'=true by rw[←hCS];exact one_ask 3 ca1 ca1 _)
 have hi2:(Tryz.prog.info? 53).map (·.size)=some CS.toArray.size:=by rw[List.size_toArray];exact hi22
 have hz22:22=CS.toArray.size:=by rw[List.size_toArray,←hCS];rfl
 have HV:=Lib.hid hV
 have HCS:=Lib.hid hCS
 clear hV hCS
 simp only[urlV,atU]at a1 a2 a3 a4
 have HW:=Lib.hid hw
 clear hw
 go_enter Tryz.func48,Tryz.ntmps48
 go_upto_region 2 with fail
 rw[HW.out]
 clear HW
 go_wp2_with fail
 go_at_call 80
 refine(a1 _ hb0).mono ?_
 rintro e w1 ⟨rfl,h1n⟩
 have h1:=below_next hb0 h1n
 clear hb0 h1n
 go_wp2_with fail
 go_at_call 80
 refine(a1 _ h1).mono ?_
 rintro e w2 ⟨rfl,h2n⟩
 have h2:=below_next h1 h2n
 clear a1 h1 h2n
 go_upto_region 3 with (refine wpList_store_row (o:=⟨none, .store 53 (.tmp 2) (.tmp 12),_,_,_,_⟩) rfl 53 (.tmp 2) (.tmp 12) rfl w2.heap.size CS.toArray rfl HV.out 53 _ (heap_alloc_new w2 _) hi2 hz22 ho ?_)
 obtain⟨W3,hW3⟩:∃W,(w2.alloc (.cells #[.int .u8 0, .string ⟨#[]⟩, .string ⟨#[]⟩, .string ⟨#[]⟩, .string ⟨#[]⟩, .int .i64 0, .string ⟨#[]⟩, .string ⟨#[]⟩, .bool false, .string ⟨#[]⟩, .bool false, .string ⟨#[]⟩, .string ⟨#[]⟩, .string ⟨#[]⟩, .string ⟨#[]⟩, .int .i64 0, .string ⟨#[]⟩, .string ⟨#[]⟩, .bool false, .string ⟨#[]⟩, .bool false, .string ⟨#[]⟩] 53)).setRow w2.heap.size CS.toArray=W:=⟨_,rfl⟩
 have hA:W3.heap[w2.heap.size]?=some (.cells CS.toArray 53 (0,0)):=by rw[←hW3];exact setRow_heap _ _ _ _ _ _ (heap_alloc_new w2 _)
 have h3:Below w.heap.size w W3:=by rw[←hW3];exact below_setRow (h2.alloc h2.size _) h2.size _
 rw[hW3]
 clear hW3 hz22 ho hi2
 simp only[Act.put]
 generalize Value.agg #[.int .u8 3, .string ⟨#[104,116,116,112,115]⟩, .string ⟨#[]⟩, .string ⟨#[]⟩, .string ⟨#[97,46,116,101,115,116]⟩, .int .i64 (-1), .string ⟨#[47]⟩, .string ⟨#[]⟩, .bool false, .string ⟨#[]⟩, .bool false, .string ⟨#[104,116,116,112,115]⟩, .string ⟨#[]⟩, .string ⟨#[]⟩, .string ⟨#[97,46,116,101,115,116]⟩, .int .i64 (-1), .string ⟨#[47]⟩, .string ⟨#[]⟩, .bool false, .string ⟨#[]⟩, .bool false, .string ⟨#[71,69,84]⟩]=V12
 go_wp2_with fail
 go_at_call 42
 refine(n1 _ h3).mono ?_
 rintro e w4 ⟨rfl,h4n⟩
 have h4:=below_next h3 h4n
 have hA4:=(h4n.block _ (Array.getElem?_eq_some_iff.1 hA).1).trans hA
 clear hA h3 n1 h4n
 go_wp2_with fail
 go_at_call 42
 refine(n2 _ h4).mono ?_
 rintro e w5 ⟨rfl,h5n⟩
 have h5:=below_next h4 h5n
 have hA5:=(h5n.block _ (Array.getElem?_eq_some_iff.1 hA4).1).trans hA4
 clear hA4 h4 n2 h5n
 go_wp2_with fail
 go_at_call 42
 refine(n3 _ h5).mono ?_
 rintro e w6 ⟨rfl,h6n⟩
 have h6:=below_next h5 h6n
 have hA6:=(h6n.block _ (Array.getElem?_eq_some_iff.1 hA5).1).trans hA5
 clear hA5 h5 n3 h6n
 go_upto_region 6 with fail
 generalize Value.agg #[.string ⟨#[104,116,116,112,115]⟩, .string ⟨#[]⟩, .string ⟨#[]⟩, .string ⟨#[97,46,116,101,115,116]⟩, .int .i64 (-1), .string ⟨#[47]⟩, .string ⟨#[]⟩, .bool false, .string ⟨#[]⟩, .bool false]=V10
 have hS:=(Below.refl w6.heap.size w6).drew
 have hR:∀W,Below w6.heap.size w6 W→W.rangeAt w2.heap.size 0 CS:=fun W hW j v hv=>by
  rw[cell_of_row W w2.heap.size (0+j) CS.toArray 53 (0,0) ((hW.block _ (Array.getElem?_eq_some_iff.1 hA6).1).trans hA6),Nat.zero_add,List.getElem?_toArray];exact hv
 clear hA6
 refine wp_region_held_drew (S:=fun W=>Below w6.heap.size w6 W) (by kernel_rfl) hS (fun _=> ?_)
 refine wpAnyH_take (i:=0) (oi:=⟨some 25, .load 53 (.tmp 2),_,_,_,_⟩) (v:= .agg CS.toArray) rfl (by kernel_rfl) (by kernel_rfl) (by kernel_rfl) (fun _ _ _ h=>h) (yieldsIf_load_mid (by rfl) 53 (.tmp 2) rfl w2.heap.size 0 rfl CS _ hR Tryz.underlying53 rfl hi22) hS ?_
 try simp only[Act.put,List.setIfInBounds_toArray,List.set_cons_zero,List.set_cons_succ]
 refine wpAnyH_ready (rs:=[1]) (by kernel_rfl) (by simp) ?_
 refine AllReadyH.cons (o:=⟨some 26, .call {callee:= .value (.func 81),args:= #[.tmp 25],argTypes:= #[53]},_,_,_,_⟩) rfl (fun K hK=> ?_) AllReadyH.nil
 go_simp
 go_at_call 81
 refine(cp _ (below_next h6 hS)).mono ?_
 rintro e x1 ⟨rfl,hn⟩
 go_wp2_with fail
 have hS1:=below_next hS hn
 refine hK.out _ _ hS1 (fun _=> ?_)
 clear hK hS hn K
 have hS:=hS1
 clear hS1
 try simp only[Act.put,List.setIfInBounds_toArray,List.set_cons_zero,List.set_cons_succ]
 refine wpAnyH_take (i:=2) (oi:=⟨some 27, .move (.tmp 26),_,_,_,_⟩) (v:= .bool true) rfl (by kernel_rfl) (by kernel_rfl) (by kernel_rfl) (fun _ _ _ h=>h) (.inl ⟨by rfl,fun W _=>by go_simp⟩) hS ?_
 try simp only[Act.put,List.setIfInBounds_toArray,List.set_cons_zero,List.set_cons_succ]
 refine wpAnyH_take (i:=3) (oi:=⟨some 28, .move (.tmp 1),_,_,_,_⟩) (v:= .slice (some ⟨w0.heap.size,0,none⟩) 1 1) rfl (by kernel_rfl) (by kernel_rfl) (by kernel_rfl) (fun _ _ _ h=>h) (.inl ⟨by rfl,fun W _=>by go_simp⟩) hS ?_
 try simp only[Act.put,List.setIfInBounds_toArray,List.set_cons_zero,List.set_cons_succ]
 refine wpAnyH_take (i:=4) (oi:=⟨some 29, .load 53 (.tmp 2),_,_,_,_⟩) (v:= .agg CS.toArray) rfl (by kernel_rfl) (by kernel_rfl) (by kernel_rfl) (fun _ _ _ h=>h) (yieldsIf_load_mid (by rfl) 53 (.tmp 2) rfl w2.heap.size 0 rfl CS _ hR Tryz.underlying53 rfl hi22) hS ?_
 try simp only[Act.put,List.setIfInBounds_toArray,List.set_cons_zero,List.set_cons_succ]
 refine wpAnyH_ready (rs:=[5]) (by kernel_rfl) (by simp) ?_
 refine AllReadyH.cons (o:=⟨some 30, .call {callee:= .value (.func 80),args:= #[.const (.string ⟨#[104,116,116,112,115]⟩), .const (.string ⟨#[120,46,97,46,116,101,115,116]⟩)],argTypes:= #[9,9]},_,_,_,_⟩) rfl (fun K hK=> ?_) AllReadyH.nil
 go_simp
 go_at_call 80
 refine(a2 _ (below_next h6 hS)).mono ?_
 rintro e x2 ⟨rfl,hn⟩
 go_wp2_with fail
 have hS1:=below_next hS hn
 refine hK.out _ _ hS1 (fun _=> ?_)
 clear hK hS hn K
 have hS:=hS1
 clear hS1
 try simp only[Act.put,List.setIfInBounds_toArray,List.set_cons_zero,List.set_cons_succ]
 refine wpAnyH_ready (rs:=[6]) (by kernel_rfl) (by simp) ?_
 refine AllReadyH.cons (o:=⟨some 31, .buildSlice 100 1 #[(0, .tmp 30)],_,_,_,_⟩) rfl (fun K hK=> ?_) AllReadyH.nil
 go_simp
 have hS1:=hS.alloc hS.size (.cells #[.string ⟨#[104,116,116,112,115]⟩, .string ⟨#[]⟩, .string ⟨#[]⟩, .string ⟨#[120,46,97,46,116,101,115,116]⟩, .int .i64 (-1), .string ⟨#[47]⟩, .string ⟨#[]⟩, .bool false, .string ⟨#[]⟩, .bool false] 23)
 refine hK.out _ _ hS1 (fun _=> ?_)
 clear hK K
 obtain⟨x3,hX⟩:∃W,x2.alloc (.cells #[.string ⟨#[104,116,116,112,115]⟩, .string ⟨#[]⟩, .string ⟨#[]⟩, .string ⟨#[120,46,97,46,116,101,115,116]⟩, .int .i64 (-1), .string ⟨#[47]⟩, .string ⟨#[]⟩, .bool false, .string ⟨#[]⟩, .bool false] 23)=W:=⟨_,rfl⟩
 have hU:UrlAt x2.heap.size ca2 x3:=by rw[←hX];exact heap_alloc_new x2 _
 rw[hX]at hS1⊢
 clear hX hS
 have hS:=hS1
 clear hS1
 try simp only[Act.put,List.setIfInBounds_toArray,List.set_cons_zero,List.set_cons_succ]
 refine wpAnyH_ready (rs:=[7]) (by kernel_rfl) (by simp) ?_
 refine AllReadyH.cons (o:=⟨some 32, .call {callee:= .value (.func 82),args:= #[.tmp 28, .tmp 29, .tmp 31],argTypes:= #[36,53,100]},_,_,_,_⟩) rfl (fun K hK=> ?_) AllReadyH.nil
 go_simp
 go_at_call 82
 refine(e1 x2.heap.size _ (below_next h6 hS) hU).mono ?_
 rintro e x4 ⟨rfl,hn⟩
 go_wp2_with fail
 have hS1:=below_next hS hn
 refine hK.out _ _ hS1 (fun _=> ?_)
 clear hK hS hn K
 have hS:=hS1
 clear hS1
 try simp only[Act.put,List.setIfInBounds_toArray,List.set_cons_zero,List.set_cons_succ]
 clear hU
 refine wpAnyH_take (i:=8) (oi:=⟨some 33, .pick (.tmp 27) (.tmp 32) (.const (.bool false)),_,_,_,_⟩) (v:= .bool true) rfl (by kernel_rfl) (by kernel_rfl) (by kernel_rfl) (fun _ _ _ h=>h) (.inl ⟨by rfl,fun W _=>by go_simp⟩) hS ?_
 try simp only[Act.put,List.setIfInBounds_toArray,List.set_cons_zero,List.set_cons_succ]
 refine wpAnyH_take (i:=9) (oi:=⟨some 34, .move (.tmp 33),_,_,_,_⟩) (v:= .bool true) rfl (by kernel_rfl) (by kernel_rfl) (by kernel_rfl) (fun _ _ _ h=>h) (.inl ⟨by rfl,fun W _=>by go_simp⟩) hS ?_
 try simp only[Act.put,List.setIfInBounds_toArray,List.set_cons_zero,List.set_cons_succ]
 refine wpAnyH_take (i:=10) (oi:=⟨some 35, .move (.tmp 1),_,_,_,_⟩) (v:= .slice (some ⟨w0.heap.size,0,none⟩) 1 1) rfl (by kernel_rfl) (by kernel_rfl) (by kernel_rfl) (fun _ _ _ h=>h) (.inl ⟨by rfl,fun W _=>by go_simp⟩) hS ?_
 try simp only[Act.put,List.setIfInBounds_toArray,List.set_cons_zero,List.set_cons_succ]
 refine wpAnyH_take (i:=11) (oi:=⟨some 36, .load 53 (.tmp 2),_,_,_,_⟩) (v:= .agg CS.toArray) rfl (by kernel_rfl) (by kernel_rfl) (by kernel_rfl) (fun _ _ _ h=>h) (yieldsIf_load_mid (by rfl) 53 (.tmp 2) rfl w2.heap.size 0 rfl CS _ hR Tryz.underlying53 rfl hi22) hS ?_
 try simp only[Act.put,List.setIfInBounds_toArray,List.set_cons_zero,List.set_cons_succ]
 refine wpAnyH_ready (rs:=[12]) (by kernel_rfl) (by simp) ?_
 refine AllReadyH.cons (o:=⟨some 37, .call {callee:= .value (.func 80),args:= #[.const (.string ⟨#[104,116,116,112,115]⟩), .const (.string ⟨#[98,46,116,101,115,116]⟩)],argTypes:= #[9,9]},_,_,_,_⟩) rfl (fun K hK=> ?_) AllReadyH.nil
 go_simp
 go_at_call 80
 refine(a3 _ (below_next h6 hS)).mono ?_
 rintro e x5 ⟨rfl,hn⟩
 go_wp2_with fail
 have hS1:=below_next hS hn
 refine hK.out _ _ hS1 (fun _=> ?_)
 clear hK hS hn K
 have hS:=hS1
 clear hS1
 try simp only[Act.put,List.setIfInBounds_toArray,List.set_cons_zero,List.set_cons_succ]
 refine wpAnyH_ready (rs:=[13]) (by kernel_rfl) (by simp) ?_
 refine AllReadyH.cons (o:=⟨some 38, .buildSlice 100 1 #[(0, .tmp 37)],_,_,_,_⟩) rfl (fun K hK=> ?_) AllReadyH.nil
 go_simp
 have hS1:=hS.alloc hS.size (.cells #[.string ⟨#[104,116,116,112,115]⟩, .string ⟨#[]⟩, .string ⟨#[]⟩, .string ⟨#[98,46,116,101,115,116]⟩, .int .i64 (-1), .string ⟨#[47]⟩, .string ⟨#[]⟩, .bool false, .string ⟨#[]⟩, .bool false] 23)
 refine hK.out _ _ hS1 (fun _=> ?_)
 clear hK K
 obtain⟨x6,hX⟩:∃W,x5.alloc (.cells #[.string ⟨#[104,116,116,112,115]⟩, .string ⟨#[]⟩, .string ⟨#[]⟩, .string ⟨#[98,46,116,101,115,116]⟩, .int .i64 (-1), .string ⟨#[47]⟩, .string ⟨#[]⟩, .bool false, .string ⟨#[]⟩, .bool false] 23)=W:=⟨_,rfl⟩
 have hU:UrlAt x5.heap.size ca3 x6:=by rw[←hX];exact heap_alloc_new x5 _
 rw[hX]at hS1⊢
 clear hX hS
 have hS:=hS1
 clear hS1
 try simp only[Act.put,List.setIfInBounds_toArray,List.set_cons_zero,List.set_cons_succ]
 refine wpAnyH_ready (rs:=[14]) (by kernel_rfl) (by simp) ?_
 refine AllReadyH.cons (o:=⟨some 39, .call {callee:= .value (.func 82),args:= #[.tmp 35, .tmp 36, .tmp 38],argTypes:= #[36,53,100]},_,_,_,_⟩) rfl (fun K hK=> ?_) AllReadyH.nil
 go_simp
 go_at_call 82
 refine(e2 x5.heap.size _ (below_next h6 hS) hU).mono ?_
 rintro e x7 ⟨rfl,hn⟩
 go_wp2_with fail
 have hS1:=below_next hS hn
 refine hK.out _ _ hS1 (fun _=> ?_)
 clear hK hS hn K
 have hS:=hS1
 clear hS1
 try simp only[Act.put,List.setIfInBounds_toArray,List.set_cons_zero,List.set_cons_succ]
 clear hU
 refine wpAnyH_take (i:=15) (oi:=⟨some 40, .unOp .not 4 (.tmp 39),_,_,_,_⟩) (v:= .bool true) rfl (by kernel_rfl) (by kernel_rfl) (by kernel_rfl) (fun _ _ _ h=>h) (.inl ⟨by rfl,fun W _=>by go_simp⟩) hS ?_
 try simp only[Act.put,List.setIfInBounds_toArray,List.set_cons_zero,List.set_cons_succ]
 refine wpAnyH_take (i:=16) (oi:=⟨some 41, .pick (.tmp 34) (.tmp 40) (.const (.bool false)),_,_,_,_⟩) (v:= .bool true) rfl (by kernel_rfl) (by kernel_rfl) (by kernel_rfl) (fun _ _ _ h=>h) (.inl ⟨by rfl,fun W _=>by go_simp⟩) hS ?_
 try simp only[Act.put,List.setIfInBounds_toArray,List.set_cons_zero,List.set_cons_succ]
 refine wpAnyH_take (i:=17) (oi:=⟨some 42, .move (.tmp 41),_,_,_,_⟩) (v:= .bool true) rfl (by kernel_rfl) (by kernel_rfl) (by kernel_rfl) (fun _ _ _ h=>h) (.inl ⟨by rfl,fun W _=>by go_simp⟩) hS ?_
 try simp only[Act.put,List.setIfInBounds_toArray,List.set_cons_zero,List.set_cons_succ]
 refine wpAnyH_take (i:=18) (oi:=⟨some 43, .move (.tmp 1),_,_,_,_⟩) (v:= .slice (some ⟨w0.heap.size,0,none⟩) 1 1) rfl (by kernel_rfl) (by kernel_rfl) (by kernel_rfl) (fun _ _ _ h=>h) (.inl ⟨by rfl,fun W _=>by go_simp⟩) hS ?_
 try simp only[Act.put,List.setIfInBounds_toArray,List.set_cons_zero,List.set_cons_succ]
 refine wpAnyH_take (i:=19) (oi:=⟨some 44, .load 53 (.tmp 2),_,_,_,_⟩) (v:= .agg CS.toArray) rfl (by kernel_rfl) (by kernel_rfl) (by kernel_rfl) (fun _ _ _ h=>h) (yieldsIf_load_mid (by rfl) 53 (.tmp 2) rfl w2.heap.size 0 rfl CS _ hR Tryz.underlying53 rfl hi22) hS ?_
 try simp only[Act.put,List.setIfInBounds_toArray,List.set_cons_zero,List.set_cons_succ]
 refine wpAnyH_ready (rs:=[20]) (by kernel_rfl) (by simp) ?_
 refine AllReadyH.cons (o:=⟨some 45, .call {callee:= .value (.func 80),args:= #[.const (.string ⟨#[104,116,116,112]⟩), .const (.string ⟨#[97,46,116,101,115,116]⟩)],argTypes:= #[9,9]},_,_,_,_⟩) rfl (fun K hK=> ?_) AllReadyH.nil
 go_simp
 go_at_call 80
 refine(a4 _ (below_next h6 hS)).mono ?_
 rintro e x8 ⟨rfl,hn⟩
 go_wp2_with fail
 have hS1:=below_next hS hn
 refine hK.out _ _ hS1 (fun _=> ?_)
 clear hK hS hn K
 have hS:=hS1
 clear hS1
 try simp only[Act.put,List.setIfInBounds_toArray,List.set_cons_zero,List.set_cons_succ]
 refine wpAnyH_ready (rs:=[21]) (by kernel_rfl) (by simp) ?_
 refine AllReadyH.cons (o:=⟨some 46, .buildSlice 100 1 #[(0, .tmp 45)],_,_,_,_⟩) rfl (fun K hK=> ?_) AllReadyH.nil
 go_simp
 have hS1:=hS.alloc hS.size (.cells #[.string ⟨#[104,116,116,112]⟩, .string ⟨#[]⟩, .string ⟨#[]⟩, .string ⟨#[97,46,116,101,115,116]⟩, .int .i64 (-1), .string ⟨#[47]⟩, .string ⟨#[]⟩, .bool false, .string ⟨#[]⟩, .bool false] 23)
 refine hK.out _ _ hS1 (fun _=> ?_)
 clear hK K
 obtain⟨x9,hX⟩:∃W,x8.alloc (.cells #[.string ⟨#[104,116,116,112]⟩, .string ⟨#[]⟩, .string ⟨#[]⟩, .string ⟨#[97,46,116,101,115,116]⟩, .int .i64 (-1), .string ⟨#[47]⟩, .string ⟨#[]⟩, .bool false, .string ⟨#[]⟩, .bool false] 23)=W:=⟨_,rfl⟩
 have hU:UrlAt x8.heap.size ca4 x9:=by rw[←hX];exact heap_alloc_new x8 _
 rw[hX]at hS1⊢
 clear hX hS
 have hS:=hS1
 clear hS1
 try simp only[Act.put,List.setIfInBounds_toArray,List.set_cons_zero,List.set_cons_succ]
 refine wpAnyH_ready (rs:=[22]) (by kernel_rfl) (by simp) ?_
 refine AllReadyH.cons (o:=⟨some 47, .call {callee:= .value (.func 82),args:= #[.tmp 43, .tmp 44, .tmp 46],argTypes:= #[36,53,100]},_,_,_,_⟩) rfl (fun K hK=> ?_) AllReadyH.nil
 go_simp
 go_at_call 82
 refine(e3 x8.heap.size _ (below_next h6 hS) hU).mono ?_
 rintro e x10 ⟨rfl,hn⟩
 go_wp2_with fail
 have hS1:=below_next hS hn
 refine hK.out _ _ hS1 (fun _=> ?_)
 clear hK hS hn K
 have hS:=hS1
 clear hS1
 try simp only[Act.put,List.setIfInBounds_toArray,List.set_cons_zero,List.set_cons_succ]
 clear hU
 refine wpAnyH_take (i:=23) (oi:=⟨some 48, .unOp .not 4 (.tmp 47),_,_,_,_⟩) (v:= .bool true) rfl (by kernel_rfl) (by kernel_rfl) (by kernel_rfl) (fun _ _ _ h=>h) (.inl ⟨by rfl,fun W _=>by go_simp⟩) hS ?_
 try simp only[Act.put,List.setIfInBounds_toArray,List.set_cons_zero,List.set_cons_succ]
 refine wpAnyH_take (i:=24) (oi:=⟨some 49, .pick (.tmp 42) (.tmp 48) (.const (.bool false)),_,_,_,_⟩) (v:= .bool true) rfl (by kernel_rfl) (by kernel_rfl) (by kernel_rfl) (fun _ _ _ h=>h) (.inl ⟨by rfl,fun W _=>by go_simp⟩) hS ?_
 try simp only[Act.put,List.setIfInBounds_toArray,List.set_cons_zero,List.set_cons_succ]
 refine wpAnyH_take (i:=25) (oi:=⟨some 50, .move (.tmp 49),_,_,_,_⟩) (v:= .bool true) rfl (by kernel_rfl) (by kernel_rfl) (by kernel_rfl) (fun _ _ _ h=>h) (.inl ⟨by rfl,fun W _=>by go_simp⟩) hS ?_
 try simp only[Act.put,List.setIfInBounds_toArray,List.set_cons_zero,List.set_cons_succ]
 refine wpAnyH_take (i:=26) (oi:=⟨some 51, .load 53 (.tmp 2),_,_,_,_⟩) (v:= .agg CS.toArray) rfl (by kernel_rfl) (by kernel_rfl) (by kernel_rfl) (fun _ _ _ h=>h) (yieldsIf_load_mid (by rfl) 53 (.tmp 2) rfl w2.heap.size 0 rfl CS _ hR Tryz.underlying53 rfl hi22) hS ?_
 try simp only[Act.put,List.setIfInBounds_toArray,List.set_cons_zero,List.set_cons_succ]
 refine wpAnyH_ready (rs:=[27]) (by kernel_rfl) (by simp) ?_
 refine AllReadyH.cons (o:=⟨some 52, .call {callee:= .value (.func 44),args:= #[.const (.int .u8 2), .const (.bool false), .tmp 51],argTypes:= #[59,4,53]},_,_,_,_⟩) rfl (fun K hK=> ?_) AllReadyH.nil
 go_simp
 go_at_call 44
 refine(g1 _ (below_next h6 hS)).mono ?_
 rintro e x11 ⟨rfl,hn⟩
 go_wp2_with fail
 have hS1:=below_next hS hn
 refine hK.out _ _ hS1 (fun _=> ?_)
 clear hK hS hn K
 have hS:=hS1
 clear hS1
 try simp only[Act.put,List.setIfInBounds_toArray,List.set_cons_zero,List.set_cons_succ]
 refine wpAnyH_take (i:=28) (oi:=⟨some 53, .unOp .not 4 (.tmp 52),_,_,_,_⟩) (v:= .bool true) rfl (by kernel_rfl) (by kernel_rfl) (by kernel_rfl) (fun _ _ _ h=>h) (.inl ⟨by rfl,fun W _=>by go_simp⟩) hS ?_
 try simp only[Act.put,List.setIfInBounds_toArray,List.set_cons_zero,List.set_cons_succ]
 refine wpAnyH_take (i:=29) (oi:=⟨some 54, .pick (.tmp 50) (.tmp 53) (.const (.bool false)),_,_,_,_⟩) (v:= .bool true) rfl (by kernel_rfl) (by kernel_rfl) (by kernel_rfl) (fun _ _ _ h=>h) (.inl ⟨by rfl,fun W _=>by go_simp⟩) hS ?_
 try simp only[Act.put,List.setIfInBounds_toArray,List.set_cons_zero,List.set_cons_succ]
 refine wpAnyH_take (i:=30) (oi:=⟨some 55, .move (.tmp 54),_,_,_,_⟩) (v:= .bool true) rfl (by kernel_rfl) (by kernel_rfl) (by kernel_rfl) (fun _ _ _ h=>h) (.inl ⟨by rfl,fun W _=>by go_simp⟩) hS ?_
 try simp only[Act.put,List.setIfInBounds_toArray,List.set_cons_zero,List.set_cons_succ]
 refine wpAnyH_take (i:=31) (oi:=⟨some 56, .load 53 (.tmp 2),_,_,_,_⟩) (v:= .agg CS.toArray) rfl (by kernel_rfl) (by kernel_rfl) (by kernel_rfl) (fun _ _ _ h=>h) (yieldsIf_load_mid (by rfl) 53 (.tmp 2) rfl w2.heap.size 0 rfl CS _ hR Tryz.underlying53 rfl hi22) hS ?_
 try simp only[Act.put,List.setIfInBounds_toArray,List.set_cons_zero,List.set_cons_succ]
 refine wpAnyH_ready (rs:=[32]) (by kernel_rfl) (by simp) ?_
 refine AllReadyH.cons (o:=⟨some 57, .call {callee:= .value (.func 44),args:= #[.const (.int .u8 3), .const (.bool false), .tmp 56],argTypes:= #[59,4,53]},_,_,_,_⟩) rfl (fun K hK=> ?_) AllReadyH.nil
 go_simp
 go_at_call 44
 refine(g2 _ (below_next h6 hS)).mono ?_
 rintro e x12 ⟨rfl,hn⟩
 go_wp2_with fail
 have hS1:=below_next hS hn
 refine hK.out _ _ hS1 (fun _=> ?_)
 clear hK hS hn K
 have hS:=hS1
 clear hS1
 try simp only[Act.put,List.setIfInBounds_toArray,List.set_cons_zero,List.set_cons_succ]
 refine wpAnyH_take (i:=33) (oi:=⟨some 58, .pick (.tmp 55) (.tmp 57) (.const (.bool false)),_,_,_,_⟩) (v:= .bool true) rfl (by kernel_rfl) (by kernel_rfl) (by kernel_rfl) (fun _ _ _ h=>h) (.inl ⟨by rfl,fun W _=>by go_simp⟩) hS ?_
 try simp only[Act.put,List.setIfInBounds_toArray,List.set_cons_zero,List.set_cons_succ]
 refine wpAnyH_take (i:=34) (oi:=⟨some 59, .move (.tmp 58),_,_,_,_⟩) (v:= .bool true) rfl (by kernel_rfl) (by kernel_rfl) (by kernel_rfl) (fun _ _ _ h=>h) (.inl ⟨by rfl,fun W _=>by go_simp⟩) hS ?_
 try simp only[Act.put,List.setIfInBounds_toArray,List.set_cons_zero,List.set_cons_succ]
 refine wpAnyH_take (i:=35) (oi:=⟨some 60, .move (.tmp 3),_,_,_,_⟩) (v:= .string ⟨#[71,69,84]⟩) rfl (by kernel_rfl) (by kernel_rfl) (by kernel_rfl) (fun _ _ _ h=>h) (.inl ⟨by rfl,fun W _=>by go_simp⟩) hS ?_
 try simp only[Act.put,List.setIfInBounds_toArray,List.set_cons_zero,List.set_cons_succ]
 refine wpAnyH_take (i:=36) (oi:=⟨some 61, .binOp .eql 9 (.tmp 60) (.const (.string ⟨#[71,69,84]⟩)) 9,_,_,_,_⟩) (v:= .bool true) rfl (by kernel_rfl) (by kernel_rfl) (by kernel_rfl) (fun _ _ _ h=>h) (.inl ⟨by rfl,fun W _=>by go_simp⟩) hS ?_
 try simp only[Act.put,List.setIfInBounds_toArray,List.set_cons_zero,List.set_cons_succ]
 refine wpAnyH_take (i:=37) (oi:=⟨some 62, .pick (.tmp 59) (.tmp 61) (.const (.bool false)),_,_,_,_⟩) (v:= .bool true) rfl (by kernel_rfl) (by kernel_rfl) (by kernel_rfl) (fun _ _ _ h=>h) (.inl ⟨by rfl,fun W _=>by go_simp⟩) hS ?_
 try simp only[Act.put,List.setIfInBounds_toArray,List.set_cons_zero,List.set_cons_succ]
 refine wpAnyH_take (i:=38) (oi:=⟨some 63, .move (.tmp 62),_,_,_,_⟩) (v:= .bool true) rfl (by kernel_rfl) (by kernel_rfl) (by kernel_rfl) (fun _ _ _ h=>h) (.inl ⟨by rfl,fun W _=>by go_simp⟩) hS ?_
 try simp only[Act.put,List.setIfInBounds_toArray,List.set_cons_zero,List.set_cons_succ]
 refine wpAnyH_take (i:=39) (oi:=⟨some 64, .move (.tmp 4),_,_,_,_⟩) (v:= .bool true) rfl (by kernel_rfl) (by kernel_rfl) (by kernel_rfl) (fun _ _ _ h=>h) (.inl ⟨by rfl,fun W _=>by go_simp⟩) hS ?_
 try simp only[Act.put,List.setIfInBounds_toArray,List.set_cons_zero,List.set_cons_succ]
 refine wpAnyH_take (i:=40) (oi:=⟨some 65, .pick (.tmp 63) (.tmp 64) (.const (.bool false)),_,_,_,_⟩) (v:= .bool true) rfl (by kernel_rfl) (by kernel_rfl) (by kernel_rfl) (fun _ _ _ h=>h) (.inl ⟨by rfl,fun W _=>by go_simp⟩) hS ?_
 try simp only[Act.put,List.setIfInBounds_toArray,List.set_cons_zero,List.set_cons_succ]
 refine wpAnyH_take (i:=41) (oi:=⟨some 66, .move (.tmp 65),_,_,_,_⟩) (v:= .bool true) rfl (by kernel_rfl) (by kernel_rfl) (by kernel_rfl) (fun _ _ _ h=>h) (.inl ⟨by rfl,fun W _=>by go_simp⟩) hS ?_
 try simp only[Act.put,List.setIfInBounds_toArray,List.set_cons_zero,List.set_cons_succ]
 refine wpAnyH_take (i:=42) (oi:=⟨some 67, .move (.tmp 5),_,_,_,_⟩) (v:= .string ⟨#[80,85,84]⟩) rfl (by kernel_rfl) (by kernel_rfl) (by kernel_rfl) (fun _ _ _ h=>h) (.inl ⟨by rfl,fun W _=>by go_simp⟩) hS ?_
 try simp only[Act.put,List.setIfInBounds_toArray,List.set_cons_zero,List.set_cons_succ]
 refine wpAnyH_take (i:=43) (oi:=⟨some 68, .binOp .eql 9 (.tmp 67) (.const (.string ⟨#[80,85,84]⟩)) 9,_,_,_,_⟩) (v:= .bool true) rfl (by kernel_rfl) (by kernel_rfl) (by kernel_rfl) (fun _ _ _ h=>h) (.inl ⟨by rfl,fun W _=>by go_simp⟩) hS ?_
 try simp only[Act.put,List.setIfInBounds_toArray,List.set_cons_zero,List.set_cons_succ]
 refine wpAnyH_take (i:=44) (oi:=⟨some 69, .pick (.tmp 66) (.tmp 68) (.const (.bool false)),_,_,_,_⟩) (v:= .bool true) rfl (by kernel_rfl) (by kernel_rfl) (by kernel_rfl) (fun _ _ _ h=>h) (.inl ⟨by rfl,fun W _=>by go_simp⟩) hS ?_
 try simp only[Act.put,List.setIfInBounds_toArray,List.set_cons_zero,List.set_cons_succ]
 refine wpAnyH_take (i:=45) (oi:=⟨some 70, .move (.tmp 69),_,_,_,_⟩) (v:= .bool true) rfl (by kernel_rfl) (by kernel_rfl) (by kernel_rfl) (fun _ _ _ h=>h) (.inl ⟨by rfl,fun W _=>by go_simp⟩) hS ?_
 try simp only[Act.put,List.setIfInBounds_toArray,List.set_cons_zero,List.set_cons_succ]
 refine wpAnyH_take (i:=46) (oi:=⟨some 71, .move (.tmp 6),_,_,_,_⟩) (v:= .bool true) rfl (by kernel_rfl) (by kernel_rfl) (by kernel_rfl) (fun _ _ _ h=>h) (.inl ⟨by rfl,fun W _=>by go_simp⟩) hS ?_
 try simp only[Act.put,List.setIfInBounds_toArray,List.set_cons_zero,List.set_cons_succ]
 refine wpAnyH_take (i:=47) (oi:=⟨some 72, .pick (.tmp 70) (.tmp 71) (.const (.bool false)),_,_,_,_⟩) (v:= .bool true) rfl (by kernel_rfl) (by kernel_rfl) (by kernel_rfl) (fun _ _ _ h=>h) (.inl ⟨by rfl,fun W _=>by go_simp⟩) hS ?_
 try simp only[Act.put,List.setIfInBounds_toArray,List.set_cons_zero,List.set_cons_succ]
 refine wpAnyH_take (i:=48) (oi:=⟨some 73, .move (.tmp 72),_,_,_,_⟩) (v:= .bool true) rfl (by kernel_rfl) (by kernel_rfl) (by kernel_rfl) (fun _ _ _ h=>h) (.inl ⟨by rfl,fun W _=>by go_simp⟩) hS ?_
 try simp only[Act.put,List.setIfInBounds_toArray,List.set_cons_zero,List.set_cons_succ]
 refine wpAnyH_take (i:=49) (oi:=⟨some 74, .move (.tmp 8),_,_,_,_⟩) (v:= .bool false) rfl (by kernel_rfl) (by kernel_rfl) (by kernel_rfl) (fun _ _ _ h=>h) (.inl ⟨by rfl,fun W _=>by go_simp⟩) hS ?_
 try simp only[Act.put,List.setIfInBounds_toArray,List.set_cons_zero,List.set_cons_succ]
 refine wpAnyH_take (i:=50) (oi:=⟨some 75, .unOp .not 4 (.tmp 74),_,_,_,_⟩) (v:= .bool true) rfl (by kernel_rfl) (by kernel_rfl) (by kernel_rfl) (fun _ _ _ h=>h) (.inl ⟨by rfl,fun W _=>by go_simp⟩) hS ?_
 try simp only[Act.put,List.setIfInBounds_toArray,List.set_cons_zero,List.set_cons_succ]
 refine wpAnyH_take (i:=51) (oi:=⟨some 76, .pick (.tmp 73) (.tmp 75) (.const (.bool false)),_,_,_,_⟩) (v:= .bool true) rfl (by kernel_rfl) (by kernel_rfl) (by kernel_rfl) (fun _ _ _ h=>h) (.inl ⟨by rfl,fun W _=>by go_simp⟩) hS ?_
 try simp only[Act.put,List.setIfInBounds_toArray,List.set_cons_zero,List.set_cons_succ]
 refine wpAnyH_take (i:=52) (oi:=⟨some 0, .assign (.tmp 76),_,_,_,_⟩) (v:= .bool true) rfl (by kernel_rfl) (by kernel_rfl) (by kernel_rfl) (fun _ _ _ h=>h) (.inl ⟨by rfl,fun W _=>by go_simp⟩) hS ?_
 try simp only[Act.put,List.setIfInBounds_toArray,List.set_cons_zero,List.set_cons_succ]
 refine wpAnyH_done (by kernel_rfl) ?_ _
 go_wp2_with fail
 go_ret
 exact⟨rfl,HB00.out.trans ((below_next h6 hS).mono HB00.out.size)⟩
end Go.Proofs.YtlcnknlmdaochaaGreatDoor
