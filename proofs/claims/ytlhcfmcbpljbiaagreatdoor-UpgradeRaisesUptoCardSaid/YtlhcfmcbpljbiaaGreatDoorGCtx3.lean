/- The walk of context.Check of anybody. -/
import Derived.Test.YtlhcfmcbpljbiaaGreatDoorGCtx2
import Derived.Test.YtlhcfmcbpljbiaaGreatDoorGSit2
import Derived.Test.YtlhcfmcbpljbiaaGreatDoorRFourWalk
import Derived.Deep.RegionHeld
set_option linter.unusedVariables false
set_option linter.unusedSimpArgs false
set_option maxHeartbeats 16000000
namespace Go.Proofs.YtlhcfmcbpljbiaaGreatDoor
open Go.RowKit
set_option maxRecDepth 100000 in
theorem check_ask (k:Int) (f t:UrlL) (m:List UInt8) (w:World) (hE:EnvH w) (hk:0≤k∧k≤255) (hf:sizeU f≤1000000000) (ht:sizeU t≤1000000000) (hpf:f.port≤9223372036854775807) (hpt:t.port≤9223372036854775807) (hm:m.length≤140737488351232):
 Calls Tryz.prog 19 #[askV k f t m] w fun e w'=>e= .returned (.bool (askB k f t m))∧Below w.heap.size w w':=by
 have ck:=fun W (hW:Below w.heap.size w W)=>token_any m W hm
 have cf:=lift_k w hE (fun W hW=>check_u f W hW hf hpf)
 have ct:=lift_k w hE (fun W hW=>check_u t W hW ht hpt)
 have e1:=eq_urls f zeroU
 have e2:=eq_urls t zeroU
 have hr:askB k f t m=(tokL m&&((k==1&&(eqU f zeroU&&eqU t zeroU))||((k==2&&(checkU f&&eqU t zeroU))||(k==3&&(checkU f&&checkU t))))):=rfl
 rw[hr]
 clear hr
 obtain⟨wb,hwb⟩:∃W,(w.alloc (.cells (askC k f t m) 33)).alloc (.cells #[.string ⟨#[]⟩, .string ⟨#[]⟩, .string ⟨#[]⟩, .string ⟨#[]⟩, .int .i64 0, .string ⟨#[]⟩, .string ⟨#[]⟩, .bool false, .string ⟨#[]⟩, .bool false] 24)=W:=⟨_,rfl⟩
 have hA:AskAt w.heap.size k f t m wb:=by
  rw[←hwb];exact((below_alloc _ _).block _ (by rw[World.size_alloc];omega)).trans (heap_alloc_new w _)
 have hN:UrlAt (w.heap.size+1) zeroU wb:=by
  rw[←hwb];have:=heap_alloc_new (w.alloc (.cells (askC k f t m) 33)) (.cells #[.string ⟨#[]⟩, .string ⟨#[]⟩, .string ⟨#[]⟩, .string ⟨#[]⟩, .int .i64 0, .string ⟨#[]⟩, .string ⟨#[]⟩, .bool false, .string ⟨#[]⟩, .bool false] 24);rw[World.size_alloc]at this;exact this
 have hb:Below w.heap.size w wb:=by rw[←hwb];exact(below_alloc w _).alloc (by rw[World.size_alloc];omega) _
 unfold askC at hwb
 unfold askV askC
 unfold urlV at cf ct e1 e2
 obtain⟨p0,p1,p2,p3,p4,p5,p6,p7,p8,p9,p10,p11,p12,p13,p14,p15,p16,p17,p18,p19,p20,p21⟩:=hA.cells
 obtain⟨n0,n1,n2,n3,n4,n5,n6,n7,n8,n9⟩:=hN.cells
 have HWB:=Lib.hid hwb
 generalize tokL m=b0 at*
 generalize checkU f=b1 at*
 generalize checkU t=b2 at*
 generalize hz1:eqU f zeroU=c1 at*
 generalize hz2:eqU t zeroU=c2 at*
 clear hE hf ht hpf hpt hwb hz1 hz2
 cases b0 with
 |false=>
  clear cf ct e1 e2;go_enter Tryz.func19,Tryz.ntmps19;go_upto_region 2 with fail;rw[HWB.out];go_wp2_with(first|(go_at_call 52;refine(ck _ hb).mono ?_;rintro e w1 ⟨rfl,hb1⟩;have hA1:=hA.on hb1;have hN1:=hN.on hb1;have h1:=below_next hb hb1;clear ck hA hN hb hb1 p0 p1 p2 p3 p4 p5 p6 p7 p8 p9 p10 p11 p12 p13 p14 p15 p16 p17 p18 p19 p20 p21 n0 n1 n2 n3 n4 n5 n6 n7 n8 n9;obtain⟨p0,p1,p2,p3,p4,p5,p6,p7,p8,p9,p10,p11,p12,p13,p14,p15,p16,p17,p18,p19,p20,p21⟩:=hA1.cells;obtain⟨n0,n1,n2,n3,n4,n5,n6,n7,n8,n9⟩:=hN1.cells));go_ret;exact⟨rfl,h1⟩
 |true=>
  by_cases h1k:k=1
  ·subst h1k
   clear cf ct hk
   cases c1<;>cases c2
   all_goals
    go_enter Tryz.func19,Tryz.ntmps19;go_upto_region 2 with fail;rw[HWB.out];go_wp2_with(first|(go_at_call 52;refine(ck _ hb).mono ?_;rintro e w1 ⟨rfl,hb1⟩;have hA1:=hA.on hb1;have hN1:=hN.on hb1;have h1:=below_next hb hb1;clear ck hA hN hb hb1 p0 p1 p2 p3 p4 p5 p6 p7 p8 p9 p10 p11 p12 p13 p14 p15 p16 p17 p18 p19 p20 p21 n0 n1 n2 n3 n4 n5 n6 n7 n8 n9;obtain⟨p0,p1,p2,p3,p4,p5,p6,p7,p8,p9,p10,p11,p12,p13,p14,p15,p16,p17,p18,p19,p20,p21⟩:=hA1.cells;obtain⟨n0,n1,n2,n3,n4,n5,n6,n7,n8,n9⟩:=hN1.cells));go_ret;exact⟨rfl,h1⟩
  by_cases h2k:k=2
  ·subst h2k
   clear ct hk e1
   cases b1<;>cases c2
   all_goals
    go_enter Tryz.func19,Tryz.ntmps19;go_upto_region 2 with fail;rw[HWB.out];go_wp2_with(first|(go_at_call 52;refine(ck _ hb).mono ?_;rintro e w1 ⟨rfl,hb1⟩;have hA1:=hA.on hb1;have hN1:=hN.on hb1;have h1:=below_next hb hb1;clear ck hA hN hb hb1 p0 p1 p2 p3 p4 p5 p6 p7 p8 p9 p10 p11 p12 p13 p14 p15 p16 p17 p18 p19 p20 p21 n0 n1 n2 n3 n4 n5 n6 n7 n8 n9;obtain⟨p0,p1,p2,p3,p4,p5,p6,p7,p8,p9,p10,p11,p12,p13,p14,p15,p16,p17,p18,p19,p20,p21⟩:=hA1.cells;obtain⟨n0,n1,n2,n3,n4,n5,n6,n7,n8,n9⟩:=hN1.cells)|(go_at_call 40;refine(cf _ h1).mono ?_;rintro e w2 ⟨rfl,hb2⟩;have hA2:=hA1.on hb2;have hN2:=hN1.on hb2;have h2:=below_next h1 hb2;clear cf hA1 hN1 hb2 h1 p0 p1 p2 p3 p4 p5 p6 p7 p8 p9 p10 p11 p12 p13 p14 p15 p16 p17 p18 p19 p20 p21 n0 n1 n2 n3 n4 n5 n6 n7 n8 n9;obtain⟨p0,p1,p2,p3,p4,p5,p6,p7,p8,p9,p10,p11,p12,p13,p14,p15,p16,p17,p18,p19,p20,p21⟩:=hA2.cells;obtain⟨n0,n1,n2,n3,n4,n5,n6,n7,n8,n9⟩:=hN2.cells));go_ret;exact⟨rfl,h2⟩
  by_cases h3k:k=3
  ·subst h3k
   clear hk e1 e2
   cases b1 with
   |false=>
    clear ct;go_enter Tryz.func19,Tryz.ntmps19;go_upto_region 2 with fail;rw[HWB.out];go_wp2_with(first|(go_at_call 52;refine(ck _ hb).mono ?_;rintro e w1 ⟨rfl,hb1⟩;have hA1:=hA.on hb1;have hN1:=hN.on hb1;have h1:=below_next hb hb1;clear ck hA hN hb hb1 p0 p1 p2 p3 p4 p5 p6 p7 p8 p9 p10 p11 p12 p13 p14 p15 p16 p17 p18 p19 p20 p21 n0 n1 n2 n3 n4 n5 n6 n7 n8 n9;obtain⟨p0,p1,p2,p3,p4,p5,p6,p7,p8,p9,p10,p11,p12,p13,p14,p15,p16,p17,p18,p19,p20,p21⟩:=hA1.cells;obtain⟨n0,n1,n2,n3,n4,n5,n6,n7,n8,n9⟩:=hN1.cells)|(go_at_call 40;refine(cf _ h1).mono ?_;rintro e w2 ⟨rfl,hb2⟩;have hA2:=hA1.on hb2;have hN2:=hN1.on hb2;have h2:=below_next h1 hb2;clear cf hA1 hN1 hb2 h1 p0 p1 p2 p3 p4 p5 p6 p7 p8 p9 p10 p11 p12 p13 p14 p15 p16 p17 p18 p19 p20 p21 n0 n1 n2 n3 n4 n5 n6 n7 n8 n9;obtain⟨p0,p1,p2,p3,p4,p5,p6,p7,p8,p9,p10,p11,p12,p13,p14,p15,p16,p17,p18,p19,p20,p21⟩:=hA2.cells;obtain⟨n0,n1,n2,n3,n4,n5,n6,n7,n8,n9⟩:=hN2.cells));go_ret;exact⟨rfl,h2⟩
   |true=>
    go_enter Tryz.func19,Tryz.ntmps19;go_upto_region 2 with fail;rw[HWB.out];go_wp2_with(first|(go_at_call 52;refine(ck _ hb).mono ?_;rintro e w1 ⟨rfl,hb1⟩;have hA1:=hA.on hb1;have hN1:=hN.on hb1;have h1:=below_next hb hb1;clear ck hA hN hb hb1 p0 p1 p2 p3 p4 p5 p6 p7 p8 p9 p10 p11 p12 p13 p14 p15 p16 p17 p18 p19 p20 p21 n0 n1 n2 n3 n4 n5 n6 n7 n8 n9;obtain⟨p0,p1,p2,p3,p4,p5,p6,p7,p8,p9,p10,p11,p12,p13,p14,p15,p16,p17,p18,p19,p20,p21⟩:=hA1.cells;obtain⟨n0,n1,n2,n3,n4,n5,n6,n7,n8,n9⟩:=hN1.cells)|(go_at_call 40;refine(cf _ h1).mono ?_;rintro e w2 ⟨rfl,hb2⟩;have hA2:=hA1.on hb2;have hN2:=hN1.on hb2;have h2:=below_next h1 hb2;clear cf hA1 hN1 hb2 h1 p0 p1 p2 p3 p4 p5 p6 p7 p8 p9 p10 p11 p12 p13 p14 p15 p16 p17 p18 p19 p20 p21 n0 n1 n2 n3 n4 n5 n6 n7 n8 n9;obtain⟨p0,p1,p2,p3,p4,p5,p6,p7,p8,p9,p10,p11,p12,p13,p14,p15,p16,p17,p18,p19,p20,p21⟩:=hA2.cells;obtain⟨n0,n1,n2,n3,n4,n5,n6,n7,n8,n9⟩:=hN2.cells)|(go_at_call 40;refine(ct _ h2).mono ?_;rintro e w3 ⟨rfl,hb3⟩;have h3:=below_next h2 hb3;clear ct hA2 hN2 hb3 h2 p0 p1 p2 p3 p4 p5 p6 p7 p8 p9 p10 p11 p12 p13 p14 p15 p16 p17 p18 p19 p20 p21 n0 n1 n2 n3 n4 n5 n6 n7 n8 n9));go_ret;exact⟨by cases b2<;>rfl,h3⟩
  have k1:(k==1)=false:=beq_eq_false_iff_ne.2 h1k;have k2:(k==2)=false:=beq_eq_false_iff_ne.2 h2k;have k3:(k==3)=false:=beq_eq_false_iff_ne.2 h3k;clear cf ct e1 e2;go_enter Tryz.func19,Tryz.ntmps19;go_upto_region 2 with fail;rw[HWB.out];go_wp2_with(first|(go_at_call 52;refine(ck _ hb).mono ?_;rintro e w1 ⟨rfl,hb1⟩;have hA1:=hA.on hb1;have hN1:=hN.on hb1;have h1:=below_next hb hb1;clear ck hA hN hb hb1 p0 p1 p2 p3 p4 p5 p6 p7 p8 p9 p10 p11 p12 p13 p14 p15 p16 p17 p18 p19 p20 p21 n0 n1 n2 n3 n4 n5 n6 n7 n8 n9;obtain⟨p0,p1,p2,p3,p4,p5,p6,p7,p8,p9,p10,p11,p12,p13,p14,p15,p16,p17,p18,p19,p20,p21⟩:=hA1.cells;obtain⟨n0,n1,n2,n3,n4,n5,n6,n7,n8,n9⟩:=hN1.cells));go_ret;exact⟨by rw[k1,k2,k3];rfl,h1⟩
set_option maxRecDepth 100000 in
theorem near_any (L:List (List UInt8)) (k:Int) (f t:UrlL) (m:List UInt8) (v y:Value) (X:List UrlL) (w:World) (hE:EnvH w) (hT:Txt w v L) (hl:L.length≤1000000) (hs:∀p∈L,p.length≤4000000000)
 (hX:RowS 10 cellsU w y X) (hXl:X.length≤1000000) (hX0:X=[]→y= .slice none 0 0) (zx:∀x∈X,sizeU x≤1000000000∧x.port≤9223372036854775807) (hk:0≤k∧k≤255)
 (zf:sizeU f≤1000000000) (zt:sizeU t≤1000000000) (pf:f.port≤9223372036854775807) (pt:t.port≤9223372036854775807) (zm:m.length≤140737488351232):
 Calls Tryz.prog 21 #[v,askV k f t m,y] w fun e w'=>e= .returned (.bool (nearL L k f t m X))∧Below w.heap.size w w':=by
 obtain⟨p,n,c,rfl⟩:∃p n c,v= .slice p n c:=by
  rcases hT with ⟨h1,_⟩|⟨a,c,h1,_⟩<;>exact⟨_,_,_,h1⟩
 obtain⟨wa,hwa⟩:∃W,w.alloc (.cells #[.slice p n c] 22)=W:=⟨_,rfl⟩
 have hba:Below w.heap.size w wa:=by rw[←hwa];exact below_alloc w _
 have sa:wa.heap.size=w.heap.size+1:=by rw[←hwa,World.size_alloc]
 have hR0:wa.heap[w.heap.size]?=some (.cells #[.slice p n c] 22 (0,0)):=by rw[←hwa];exact heap_alloc_new w _
 obtain⟨wb,hwb⟩:∃W,wa.alloc (.cells (askC k f t m) 33)=W:=⟨_,rfl⟩
 have hbb:Below w.heap.size w wb:=by rw[←hwb];exact hba.alloc hba.size _
 have hA:AskAt (w.heap.size+1) k f t m wb:=by rw[←sa,←hwb];exact heap_alloc_new wa _
 have hR:wb.heap[w.heap.size]?=some (.cells #[.slice p n c] 22 (0,0)):=by rw[←hwb];exact((below_alloc wa _).block _ (by omega)).trans hR0
 have hXb:=hX.below hbb (Nat.le_refl _)
 have hEb:=hE.below hbb
 have hTb:=hT.below hbb (Nat.le_refl _)
 rw[←hwa]at hwb
 have hsz:w.heap.size+1<wb.heap.size:=hA.lt
 have hb0:=Below.refl wb.heap.size wb
 have cl:=fun W (hW:Below wb.heap.size wb W)=>check_any L _ W (hEb.below hW).t.env.shaped (hTb.below hW (Nat.le_refl _)) (by omega) hs
 have cp:=fun W (hW:Below wb.heap.size wb W)=>check_ask k f t m W (hEb.below hW) hk zf zt pf pt zm
 have co:=fun W (hW:Below wb.heap.size wb W)=>has_url 55 enters_near1 #[] (fun u=> !checkU u) X y W (hXb.below hW (Nat.le_refl _)) (by omega) (fun x hx W' hW'=>near_one1 x W' (hEb.below (below_next hW hW')) (zx x hx).1 (zx x hx).2)
 have cs:=fun (u v:UrlL) (zu:sizeU u≤1000000000) (zv:sizeU v≤1000000000) (pu:u.port≤9223372036854775807) (pv:v.port≤9223372036854775807) W (hW:Below wb.heap.size wb W)=>same_any L u v _ W (hEb.below hW) (hTb.below hW (Nat.le_refl _)) hl hs zu zv pu pv check_host check_host
 have hRR:∀W,Below wb.heap.size wb W→W.cell? ⟨w.heap.size,0,none⟩=some (.slice p n c):=fun W hW=>by rw[Lib.cell_of_heap ((hW.block _ (by omega)).trans hR)];rfl
 have hAA:∀W,Below wb.heap.size wb W→AskAt (w.heap.size+1) k f t m W:=fun W hW=>hA.on hW
 have cz:∀(s:UrlL) (zs:sizeU s≤1000000000) (ps:s.port≤9223372036854775807) (B:Nat) (Y:List UrlL) (yv:Value) (W:World),Below wb.heap.size wb W→UrlAt B s W→RowS 10 cellsU W yv Y→Y.length≤1000001→(∀x∈Y,sizeU x≤1000000000∧x.port≤9223372036854775807)→
  Calls Tryz.prog 54 #[yv, .func (.func 56) #[] #[.pointer (some ⟨w.heap.size,0,none⟩), .pointer (some ⟨B,0,none⟩)]] W fun e W'=>e= .returned (.bool (Y.any fun u=> !sameL L s u))∧Below W.heap.size W W':=fun s zs ps B Y yv W hW hB hY hYl hz=>
  has_url 56 enters_near2 #[.pointer (some ⟨w.heap.size,0,none⟩), .pointer (some ⟨B,0,none⟩)] (fun u=> !sameL L s u) Y yv W hY (by omega)
   (fun x hx W' hW'=>near_two1 L _ s x w.heap.size B W' (hEb.below (below_next hW hW')) (hTb.below (below_next hW hW') (Nat.le_refl _)) (hRR W' (below_next hW hW')) (Nat.lt_of_lt_of_le (Nat.lt_trans (Nat.lt_succ_self _) hsz) (below_next hW hW').size) (hB.on hW') (sameL L s x)
    (fun W'' hW''=>cs s x zs (hz x hx).1 ps (hz x hx).2 W'' (below_next (below_next hW hW') hW'')))
 have HBB:=Lib.hid hbb
 have HWB:=Lib.hid hwb
 have HX:=Lib.hid hXb
 have HZ:=Lib.hid zx
 have HCZ:=Lib.hid cz
 have HF:=Lib.hid (And.intro zf pf)
 have HTT:=Lib.hid (And.intro zt pt)
 have r0:=hRR wb hb0
 have hq1:checkL L=false→nearL L k f t m X=false:=near_no1
 have hq2:askB k f t m=false→nearL L k f t m X=false:=near_no2
 have hq3:(X.any fun u=> !checkU u)=true→nearL L k f t m X=false:=near_no3
 have hq4:checkL L=true→askB k f t m=true→(X.any fun u=> !checkU u)=false→(k=1∧nearL L k f t m X=true)∨(k=2∧nearL L k f t m X= !(X.any fun u=> !sameL L f u))∨(k=3∧nearL L k f t m X= !((f::X).any fun u=> !sameL L t u)):=fun h1 h2 h3=>by
  rcases ask_kind h2 with rfl|rfl|rfl
  ·exact .inl ⟨rfl,nearL_visit h1 h2 h3⟩
  ·exact .inr (.inl ⟨rfl,nearL_link h1 h2 h3⟩)
  ·exact .inr (.inr ⟨rfl,nearL_part h1 h2 h3⟩)
 generalize checkL L=bl at*
 generalize askB k f t m=ba at*
 generalize (X.any fun u=> !checkU u)=bx at*
 obtain⟨R,hRv⟩:∃R,nearL L k f t m X=R:=⟨_,rfl⟩
 rw[hRv]at hq1 hq2 hq3 hq4⊢
 have HQ4:=Lib.hid hq4
 have HX0:=Lib.hid hX0
 clear hwa hba sa hR0 hwb hA hR hXb hEb hTb hE hT hX cs cz zf zt zx pf pt hbb hl hs hk zm hRv hq4 hX0
 obtain⟨ya,yn,yc,rfl,hyn,hync⟩:=HX.out.conc
 subst hyn
 unfold askV
 unfold askC at HWB⊢
 go_enter Tryz.func21,Tryz.ntmps21
 go_upto_region 1 with fail
 rw[HWB.out]
 clear HWB
 generalize Value.agg #[.int .u8 k, .string ⟨f.scheme.toArray⟩, .string ⟨f.user.toArray⟩, .string ⟨f.pass.toArray⟩, .string ⟨f.host.toArray⟩, .int .i64 f.port, .string ⟨f.path.toArray⟩, .string ⟨f.query.toArray⟩, .bool f.hasQ, .string ⟨f.mark.toArray⟩, .bool f.hasM, .string ⟨t.scheme.toArray⟩, .string ⟨t.user.toArray⟩, .string ⟨t.pass.toArray⟩, .string ⟨t.host.toArray⟩, .int .i64 t.port, .string ⟨t.path.toArray⟩, .string ⟨t.query.toArray⟩, .bool t.hasQ, .string ⟨t.mark.toArray⟩, .bool t.hasM, .string ⟨m.toArray⟩]=V1 at*
 have hi22:(Tryz.prog.info? 33).map (·.size)=some (askC k f t m).size:=by kernel_rfl
 cases bl with
 |false=>
  obtain rfl:=hq1 rfl;clear cp co hq2 hq3;go_wp2_with fail;go_at_call 39;refine(cl _ hb0).mono ?_;rintro e w1 ⟨rfl,HH⟩;clear cl hb0 r0;go_wp2_with fail;go_ret;exact⟨rfl,HBB.out.trans (HH.mono HBB.out.size)⟩
 |true=>
  clear hq1;go_wp2_with fail;go_at_call 39;refine(cl _ hb0).mono ?_;rintro e w1 ⟨rfl,h1⟩;clear cl hb0 r0;have a1:AskAt (w.heap.size+1) k f t m w1:=hAA w1 h1;unfold AskAt at a1
  cases ba with
  |false=>
   obtain rfl:=hq2 rfl;clear co hq3;go_wp2_with(first|(refine wpList_row_at (o:=⟨some 13, .load 33 (.tmp 4),_,_,_,_⟩) rfl 33 (.tmp 4) rfl (w.heap.size+1) rfl 33 (askC k f t m) (0,0) _ a1 Tryz.underlying33 rfl hi22 ?_));go_at_call 19;refine(cp _ h1).mono ?_;rintro e w2 ⟨rfl,hb2⟩;have HH:=below_next h1 hb2;clear cp h1 hb2 a1;go_wp2_with fail;go_ret;exact⟨rfl,HBB.out.trans (HH.mono HBB.out.size)⟩
  |true=>
   clear hq2;go_wp2_with(first|(refine wpList_row_at (o:=⟨some 13, .load 33 (.tmp 4),_,_,_,_⟩) rfl 33 (.tmp 4) rfl (w.heap.size+1) rfl 33 (askC k f t m) (0,0) _ a1 Tryz.underlying33 rfl hi22 ?_));go_at_call 19;refine(cp _ h1).mono ?_;rintro e w2 ⟨rfl,hb2⟩;have h2:=below_next h1 hb2;clear cp h1 hb2 a1
   cases bx with
   |true=>
    obtain rfl:=hq3 rfl;go_wp2_with(go_at_call 54;refine(co _ h2).mono ?_;rintro e w3 ⟨rfl,hb3⟩;have HH:=below_next h2 hb3;clear co h2 hb3);go_ret;exact⟨rfl,HBB.out.trans (HH.mono HBB.out.size)⟩
   |false=>
    clear hq3;go_upto_region 3 with (go_at_call 54;refine(co _ h2).mono ?_;rintro e w3 ⟨rfl,hb3⟩;have h3:=below_next h2 hb3;clear co h2 hb3);have hl3:=(hAA w3 h3).lt;obtain⟨p0,p1,p2,p3,p4,p5,p6,p7,p8,p9,p10,p11,p12,p13,p14,p15,p16,p17,p18,p19,p20,p21⟩:=(hAA w3 h3).cells;clear p0 p11 p12 p13 p14 p15 p16 p17 p18 p19 p20 p21;go_region;obtain⟨w4,hw4⟩:∃W,(w3.alloc (.cells #[.string ⟨f.scheme.toArray⟩, .string ⟨f.user.toArray⟩, .string ⟨f.pass.toArray⟩, .string ⟨f.host.toArray⟩, .int .i64 f.port, .string ⟨f.path.toArray⟩, .string ⟨f.query.toArray⟩, .bool f.hasQ, .string ⟨f.mark.toArray⟩, .bool f.hasM] 24)).drew=W:=⟨_,rfl⟩;have hF4:UrlAt w3.heap.size f w4:=by rw[←hw4];exact heap_alloc_new w3 _
    have hb34:Below w3.heap.size w3 w4:=by rw[←hw4];exact(below_alloc w3 _).drew
    have h34:w3.heap.size<w4.heap.size:=hF4.lt;rw[hw4];clear hw4 p1 p2 p3 p4 p5 p6 p7 p8 p9 p10;have h4:=below_next h3 hb34;have hw3:=h3.size;have hA4:=hAA w4 h4;have hX4:=HX.out.below h4 (Nat.le_refl _);have hlA:=hA4.lt;obtain⟨p0,p1,p2,p3,p4,p5,p6,p7,p8,p9,p10,p11,p12,p13,p14,p15,p16,p17,p18,p19,p20,p21⟩:=hA4.cells;have hmf:∀(fn:Fn) (first cap:Array Value) (w:World),(Instr.makeFunc fn first cap).run Tryz.prog w= .ok (.func fn first cap) w:=fun _ _ _ _=>rfl
    rcases HQ4.out trivial trivial trivial with ⟨rfl,rfl⟩|⟨rfl,hR2⟩|⟨rfl,hR3⟩
    ·clear HF HTT HCZ HZ hX4 hRR hAA
     go_wp2_with fail;go_ret;exact⟨rfl,HBB.out.trans (h4.mono HBB.out.size)⟩
    ·have cc:=HCZ.out f HF.out.1 HF.out.2 w3.heap.size X _ w4 h4 hF4 hX4 (by omega) HZ.out
     generalize (X.any fun u=> !sameL L f u)=b at*;subst hR2;clear HF HTT HCZ HZ hX4 hRR hAA;go_wp2_with fail;go_at_call 54;refine cc.mono ?_;rintro e w7 ⟨rfl,hb7⟩;go_wp2_with fail;go_ret;exact⟨rfl,HBB.out.trans ((below_next h4 hb7).mono HBB.out.size)⟩
    ·go_upto_region 8 with fail
     obtain⟨i0,hi,hz0,hz1,hz2⟩:=info_parts url_info;have hown:(w4.alloc (.cells #[.string ⟨f.scheme.toArray⟩, .string ⟨f.user.toArray⟩, .string ⟨f.pass.toArray⟩, .string ⟨f.host.toArray⟩, .int .i64 f.port, .string ⟨f.path.toArray⟩, .string ⟨f.query.toArray⟩, .bool f.hasQ, .string ⟨f.mark.toArray⟩, .bool f.hasM] 24)).ownsRow w4.heap.size 24 10 (.slice (some ⟨w4.heap.size,0,none⟩) 1 1) 1 (cellsU f):=own_url w4 f;have hXa:RowS 10 cellsU (w4.alloc (.cells #[.string ⟨f.scheme.toArray⟩, .string ⟨f.user.toArray⟩, .string ⟨f.pass.toArray⟩, .string ⟨f.host.toArray⟩, .int .i64 f.port, .string ⟨f.path.toArray⟩, .string ⟨f.query.toArray⟩, .bool f.hasQ, .string ⟨f.mark.toArray⟩, .bool f.hasM] 24)) (.slice ya X.length yc) X:=hX4.below (below_alloc w4 _) (Nat.le_refl _);have hAa:AskAt (w.heap.size+1) 3 f t m (w4.alloc (.cells #[.string ⟨f.scheme.toArray⟩, .string ⟨f.user.toArray⟩, .string ⟨f.pass.toArray⟩, .string ⟨f.host.toArray⟩, .int .i64 f.port, .string ⟨f.path.toArray⟩, .string ⟨f.query.toArray⟩, .bool f.hasQ, .string ⟨f.mark.toArray⟩, .bool f.hasM] 24)):=((below_alloc w4 _).block _ hA4.lt).trans hA4;have hFa:UrlAt w3.heap.size f (w4.alloc (.cells #[.string ⟨f.scheme.toArray⟩, .string ⟨f.user.toArray⟩, .string ⟨f.pass.toArray⟩, .string ⟨f.host.toArray⟩, .int .i64 f.port, .string ⟨f.path.toArray⟩, .string ⟨f.query.toArray⟩, .bool f.hasQ, .string ⟨f.mark.toArray⟩, .bool f.hasM] 24)):=((below_alloc w4 _).block _ hF4.lt).trans hF4;have hs34:=h4.size;have hwa4:Below wb.heap.size wb (w4.alloc (.cells #[.string ⟨f.scheme.toArray⟩, .string ⟨f.user.toArray⟩, .string ⟨f.pass.toArray⟩, .string ⟨f.host.toArray⟩, .int .i64 f.port, .string ⟨f.path.toArray⟩, .string ⟨f.query.toArray⟩, .bool f.hasQ, .string ⟨f.mark.toArray⟩, .bool f.hasM] 24)):=h4.alloc h4.size _;have KEY:∀(w5 W6:World) (v5:Value),Below wb.heap.size wb w5→UrlAt w3.heap.size f w5→RowS 10 cellsU w5 v5 (f::X)→(∀a n c,v5= .slice (some a) n c→a.block≠w3.heap.size)→putU w5 w3.heap.size t=W6→
      Below wb.heap.size wb W6∧Calls Tryz.prog 54 #[v5, .func (.func 56) #[] #[.pointer (some ⟨w.heap.size,0,none⟩), .pointer (some ⟨w3.heap.size,0,none⟩)]] W6 fun e W'=>e= .returned (.bool ((f::X).any fun u=> !sameL L t u))∧Below W6.heap.size W6 W':=fun w5 W6 v5 h5 hF5 hr5 hne5 hW6=>by
      have h6:Below wb.heap.size wb W6:=by rw[←hW6];exact putU_below h5 hw3 t
      have hT6:UrlAt w3.heap.size t W6:=by rw[←hW6];exact hF5.put t
      have hr6:RowS 10 cellsU W6 v5 (f::X):=by
       rcases hr5 with ⟨_,e⟩|⟨a,c,e,g1,g2,g3⟩
       ·cases e
       ·have hoth:W6.heap[a.block]?=w5.heap[a.block]?:=by rw[←hW6];exact putU_other w5 _ t (hne5 _ _ _ e)
        exact .inr ⟨a,c,e,g1,fun h0=>by
         have h2:W6.heap[a.block]?=some (w5.heap[a.block]'(g2 h0)):=by rw[hoth];exact Array.getElem?_eq_getElem (g2 h0)
         exact(Array.getElem?_eq_some_iff.1 h2).1,fun k hk j u hj=>(World.cell?_of_block (w:=w5) (by rw[Go.ChangeShapes.block_add];exact hoth)).trans (g3 k hk j u hj)⟩
      exact⟨h6,HCZ.out t HTT.out.1 HTT.out.2 w3.heap.size (f::X) _ W6 h6 hT6 hr6 (by simp;omega) (fun x hx=>by
       rcases List.mem_cons.1 hx with rfl|hx
       ·exact HF.out
       ·exact HZ.out x hx)⟩
     generalize ((f::X).any fun u=> !sameL L t u)=b at*;subst hR3;by_cases hx0:X=[]
     ·obtain⟨rfl,rfl⟩:ya=none∧yc=0:=by have:=HX0.out hx0;injection this with e1 e2 e3;exact⟨e1,e3⟩
      subst hx0;clear p0 p21 hA4 hF4 hX4 h3 hb34 hRR hAA HCZ HF HTT HZ;go_region_law ((refine step_append_none (by rfl) (.tmp 32) (.tmp 33) 34 (by rfl) w4.heap.size 24 i0 10 Tryz.underlying34 hi (.slice (some ⟨w4.heap.size,0,none⟩) 1 1) 1 (cellsU f) (by rfl) (by first|exact hown|exact own_drew hown) (by rfl) ?_;intro w5 hw5;have hA5:AskAt (w.heap.size+1) 3 f t m w5:=(by subst hw5;exact hAa);have hF5:UrlAt w3.heap.size f w5:=(by subst hw5;exact hFa);obtain⟨q0,q1,q2,q3,q4,q5,q6,q7,q8,q9,q10,q11,q12,q13,q14,q15,q16,q17,q18,q19,q20,q21⟩:=hA5.cells;obtain⟨c0,c1,c2,c3,c4,c5,c6,c7,c8,c9⟩:=hF5.cells;obtain⟨fz0,fz1,fz2,fz3,fz4,fz5,fz6,fz7,fz8,fz9⟩:=hF5.frees;have hl5:=hF5.lt;have hl6:=hA5.lt;have hr5:RowS 10 cellsU w5 (.slice (some ⟨w4.heap.size,0,none⟩) 1 1) (f::[]):=(by subst hw5;exact RowS.own (en:=cellsU) (z:=10) (by omega) (fun _=>rfl) (show World.ownsRow _ _ _ _ _ _ (List.flatMap cellsU [f])from by first|exact hown|exact own_drew hown) rfl);have h5:Below wb.heap.size wb w5:=(by subst hw5;first|exact hwa4|exact hwa4.drew);clear hw5))
      all_goals
       obtain⟨W6,hW6⟩:∃W,putU w5 w3.heap.size t=W:=⟨_,rfl⟩;obtain⟨h6,cc⟩:=KEY w5 W6 _ h5 hF5 hr5 (fun a n c e=>by injection e with e1;injection e1 with e1;rw[←e1];simp;omega) hW6;clear KEY h5 hF5 hr5 hA5 q0 q1 q2 q3 q4 q5 q6 q7 q8 q9 q10 q11 q12 q13 q14 q15 q16 q17 q18 q19 q20 q21 c0 c1 c2 c3 c4 c5 c6 c7 c8 c9 fz0 fz1 fz2 fz3 fz4 fz5 fz6 fz7 fz8 fz9 p1 p2 p3 p4 p5 p6 p7 p8 p9 p10 p11 p12 p13 p14 p15 p16 p17 p18 p19 p20;unfold putU at hW6;rw[hW6];clear hW6;go_wp2_with fail;go_at_call 54;refine cc.mono ?_;rintro e w7 ⟨rfl,hb7⟩;go_wp2_with fail;go_ret;exact⟨rfl,HBB.out.trans ((below_next h6 hb7).mono HBB.out.size)⟩
     ·have h0:0<X.length:=List.length_pos_iff.2 hx0
      obtain⟨ad,rfl⟩:∃ad,ya=some ad:=by
       rcases hXa with ⟨_,e⟩|⟨a,c,e,_⟩
       ·exact absurd e hx0
       ·injection e with e;exact⟨a,e⟩
      clear p0 p21 hA4 hF4 hX4 h3 hb34 hRR hAA HCZ HF HTT HZ;have hnews:=hXa.news (en:=cellsU) (z:=10) (fun _=>rfl);go_region_law ((refine step_append_lies _ (by rfl) (.tmp 32) (.tmp 33) 34 (by rfl) w4.heap.size 24 i0 _ 10 136 Tryz.underlying34 hi hz0 hz1 hz2 rfl (by omega) (.slice (some ⟨w4.heap.size,0,none⟩) 1 1) 1 (cellsU f) (by rfl) (by first|exact hown|exact own_drew hown) ad X.length yc (X.flatMap cellsU) (by rfl) (flatS_len (z:=10) (en:=cellsU) (fun _=>rfl) X) (by exact hnews) (one_urls X) h0 (by unfold maxLen;omega) (by omega) (by simp) (w4.heap.size+1) (by simp) ?_;intro g cap w5 hown5 hgr hat hlt;have hA5:AskAt (w.heap.size+1) 3 f t m w5:=(hgr.block _ (by simp;omega) (by intro e;injection e with e;simp at e;omega)).trans hAa;have hF5:UrlAt w3.heap.size f w5:=(hgr.block _ (by simp;omega) (by intro e;injection e with e;simp at e;omega)).trans hFa;obtain⟨q0,q1,q2,q3,q4,q5,q6,q7,q8,q9,q10,q11,q12,q13,q14,q15,q16,q17,q18,q19,q20,q21⟩:=hA5.cells;obtain⟨c0,c1,c2,c3,c4,c5,c6,c7,c8,c9⟩:=hF5.cells;obtain⟨fz0,fz1,fz2,fz3,fz4,fz5,fz6,fz7,fz8,fz9⟩:=hF5.frees;have hl5:=hF5.lt;have hl6:=hA5.lt))
      all_goals
       obtain⟨W6,hW6⟩:∃W,putU w5 w3.heap.size t=W:=⟨_,rfl⟩;have hrow:∀k,(Value.slice (some ⟨w4.heap.size,0,none⟩) 1 1).ownBlock=some k→wb.heap.size≤k:=fun k hk=>by injection hk with hk;simp at hk;omega
       have h5:Below wb.heap.size wb w5:=by first|exact(h4.alloc h4.size _).drew.trans (below_of_grown hgr (by simp;omega) hrow)|exact(h4.alloc h4.size _).trans (below_of_grown hgr (by simp;omega) hrow)
       have hr5:RowS 10 cellsU w5 (.slice (some ⟨g,0,none⟩) (1+X.length) cap) (f::X):=RowS.own (en:=cellsU) (z:=10) (by omega) (fun _=>rfl) (show World.ownsRow _ _ _ _ _ _ (List.flatMap cellsU (f::X))from hown5) (by rw[List.length_cons];omega);have hgb:w4.heap.size≤g:=by
        rcases hown5.2 with ⟨e,_⟩|⟨g',cap',cur,e,hbg,_⟩
        ·cases e
        ·injection e with e;injection e with e;injection e with e;omega
       obtain⟨h6,cc⟩:=KEY w5 W6 _ h5 hF5 hr5 (fun a n c e=>by injection e with e1;injection e1 with e1;rw[←e1];simp;omega) hW6;clear KEY h5 hF5 hr5 hA5 hown5 hgr hat hnews hXa hown hAa hFa hwa4 q0 q1 q2 q3 q4 q5 q6 q7 q8 q9 q10 q11 q12 q13 q14 q15 q16 q17 q18 q19 q20 q21 c0 c1 c2 c3 c4 c5 c6 c7 c8 c9 fz0 fz1 fz2 fz3 fz4 fz5 fz6 fz7 fz8 fz9 p1 p2 p3 p4 p5 p6 p7 p8 p9 p10 p11 p12 p13 p14 p15 p16 p17 p18 p19 p20;unfold putU at hW6;rw[hW6];clear hW6;go_wp2_with fail;go_at_call 54;refine cc.mono ?_;rintro e w7 ⟨rfl,hb7⟩;go_wp2_with fail;go_ret;exact⟨rfl,HBB.out.trans ((below_next h6 hb7).mono HBB.out.size)⟩
def testL:List (List UInt8):=[[116,101,115,116]]
def ca1:UrlL:=atU httpsB [] [97,46,116,101,115,116] (-1) [47] [] false
def ca2:UrlL:=atU httpsB [] [120,46,97,46,116,101,115,116] (-1) [47] [] false
def ca3:UrlL:=atU httpsB [] [98,46,116,101,115,116] (-1) [47] [] false
def ca4:UrlL:=atU httpB [] [97,46,116,101,115,116] (-1) [47] [] false
theorem cg1:GoodU ca1:=at_good (.inr rfl) (by decide) (by decide+kernel) (.inl rfl) path_s (by decide) (by simp) (by decide)
theorem cg2:GoodU ca2:=at_good (.inr rfl) (by decide) (by decide+kernel) (.inl rfl) path_s (by decide) (by simp) (by decide)
theorem cg3:GoodU ca3:=at_good (.inr rfl) (by decide) (by decide+kernel) (.inl rfl) path_s (by decide) (by simp) (by decide)
theorem cg4:GoodU ca4:=at_good (.inl rfl) (by decide) (by decide+kernel) (.inl rfl) path_s (by decide) (by simp) (by decide)
theorem test_check:checkL testL=true:=by decide+kernel
theorem cw1:ownL testL [97,46,116,101,115,116]=([97,46,116,101,115,116],0):=own_plain test_check (by decide+kernel) (by decide+kernel) (by decide+kernel)
theorem cw2:ownL testL [120,46,97,46,116,101,115,116]=([97,46,116,101,115,116],0):=own_plain test_check (by decide+kernel) (by decide+kernel) (by decide+kernel)
theorem cw3:ownL testL [98,46,116,101,115,116]=([98,46,116,101,115,116],0):=own_plain test_check (by decide+kernel) (by decide+kernel) (by decide+kernel)
theorem cs1:sameL testL ca1 ca1=true:=same_iff.2 ⟨test_check,check_iff.2 cg1,check_iff.2 cg1,rfl,rfl⟩
theorem cs2:sameL testL ca1 ca2=true:=same_iff.2 ⟨test_check,check_iff.2 cg1,check_iff.2 cg2,rfl,(site_of cw1 (by simp)).trans (site_of cw2 (by simp)).symm⟩
theorem cs3:sameL testL ca1 ca3=false:=by
 rw[Bool.eq_false_iff];intro h;have:=(same_iff.1 h).2.2.2.2;rw[show ca1.host=[97,46,116,101,115,116]from rfl,show ca3.host=[98,46,116,101,115,116]from rfl,site_of cw1 (by simp),site_of cw3 (by simp)]at this;exact absurd this (by decide)
theorem cs4:sameL testL ca1 ca4=false:=by
 rw[Bool.eq_false_iff];intro h;have:=(same_iff.1 h).2.2.2.1;exact absurd this (by decide)
theorem lit_txtT (w:World) (L:List (List UInt8)) (cs:Array Value) (hc:cs=(strs L).toArray):Txt (w.alloc (.cells cs 9)) (.slice (some ⟨w.heap.size,0,none⟩) L.length L.length) L:=by
 subst hc;refine .inr ⟨⟨w.heap.size,0,none⟩,L.length,rfl,Nat.le_refl _,fun _=>by rw[World.size_alloc];exact Nat.lt_succ_self _,fun k hk=> ?_⟩;rw[Addr.add_lit,Nat.zero_add,World.cell?_alloc_at _ _ _ _ rfl,List.getElem?_toArray,strs_get hk]
theorem one_ask (k:Int) (f t:UrlL) (m:List UInt8):∀u∈(askC k f t m).toList,u.oneCell'=true:=fun u hu=>by
 simp only[askC,List.mem_cons,List.not_mem_nil,or_false]at hu;rcases hu with rfl|rfl|rfl|rfl|rfl|rfl|rfl|rfl|rfl|rfl|rfl|rfl|rfl|rfl|rfl|rfl|rfl|rfl|rfl|rfl|rfl|rfl<;>rfl
theorem row_one {X:Nat} {x:UrlL} {W:World} (h:UrlAt X x W):RowS 10 cellsU W (.slice (some ⟨X,0,none⟩) 1 1) [x]:=by
 refine .inr ⟨⟨X,0,none⟩,1,rfl,Nat.le_refl _,fun _=>h.lt,fun k hk j u hj=> ?_⟩;obtain rfl:k=0:=by simp at hk;exact hk
 rw[Addr.add_lit,Nat.zero_mul,Nat.zero_add,Nat.zero_add];exact(h.cell j).trans hj
theorem lift_t {f:FuncId} {args:Array Value} {v:Value} {w:World} (hE:EnvH w) (h:∀W,EnvH W→Below w.heap.size w W→Calls Tryz.prog f args W fun e W'=>e= .returned v∧Below W.heap.size W W'):∀W,Below w.heap.size w W→Calls Tryz.prog f args W fun e W'=>e= .returned v∧Below W.heap.size W W':=fun W hW=>h W (hE.below hW) hW
set_option maxRecDepth 100000 in
theorem lives14 (w0:World) (hE0:EnvH w0):
 Calls Tryz.prog 18 #[] w0 fun e w'=>e= .returned (.bool true)∧Below w0.heap.size w0 w':=by
 obtain⟨w,hw⟩:∃W,w0.alloc (.cells #[.string ⟨#[116,101,115,116]⟩] 9)=W:=⟨_,rfl⟩
 have hb00:Below w0.heap.size w0 w:=by rw[←hw];exact below_alloc w0 _
 have hT:Txt w (.slice (some ⟨w0.heap.size,0,none⟩) 1 1) testL:=by rw[←hw];exact lit_txtT w0 testL _ rfl
 have hE:=hE0.below hb00
 have hb0:=Below.refl w.heap.size w
 have a1:=lift_t hE (fun W hW _=>at_any [104,116,116,112,115] [97,46,116,101,115,116] W)
 have a2:=lift_t hE (fun W hW _=>at_any [104,116,116,112,115] [120,46,97,46,116,101,115,116] W)
 have a3:=lift_t hE (fun W hW _=>at_any [104,116,116,112,115] [98,46,116,101,115,116] W)
 have a4:=lift_t hE (fun W hW _=>at_any [104,116,116,112] [97,46,116,101,115,116] W)
 have n1:=lift_t hE (fun W hW _=>cnext_any [80,79,83,84] 302 W (by decide) (by decide))
 have n2:=lift_t hE (fun W hW _=>cnext_any [80,85,84] 302 W (by decide) (by decide))
 have n3:=lift_t hE (fun W hW _=>cnext_any [71,69,84] 200 W (by decide) (by decide))
 rw[show nextM [80,79,83,84] 302=([71,69,84],true)by decide]at n1
 rw[show nextM [80,85,84] 302=([80,85,84],true)by decide]at n2
 rw[show nextM [71,69,84] 200=([],false)by decide]at n3
 have hask:askB 3 ca1 ca1 [71,69,84]=true:=by unfold askB;rw[check_iff.2 cg1];decide
 have cp:=lift_t hE (fun W hW _=>check_ask 3 ca1 ca1 [71,69,84] W hW (by decide) (by decide) (by decide) (by decide) (by decide) (by decide))
 rw[hask]at cp
 have g1:=lift_t hE (fun W hW _=>goes_any 2 3 false ca1 ca1 [71,69,84] W (by decide))
 have g2:=lift_t hE (fun W hW _=>goes_any 3 3 false ca1 ca1 [71,69,84] W (by decide))
 rw[show goesL 2 false 3 [71,69,84]=false by decide]at g1
 rw[show goesL 3 false 3 [71,69,84]=true by decide]at g2
 have near:∀(x:UrlL) (r:Bool) (hr:sameL testL ca1 x=r) (hx:checkU x=true) (zx:sizeU x≤1000000000) (px:x.port≤9223372036854775807) (X:Nat) (W:World),Below w.heap.size w W→UrlAt X x W→
  Calls Tryz.prog 21 #[.slice (some ⟨w0.heap.size,0,none⟩) 1 1,askV 3 ca1 ca1 [71,69,84], .slice (some ⟨X,0,none⟩) 1 1] W fun e W'=>e= .returned (.bool r)∧Below W.heap.size W W':=fun x r hr hx zx px X W hB hU=>by
  subst hr
  have hn:nearL testL 3 ca1 ca1 [71,69,84] [x]=sameL testL ca1 x:=by
   rw[nearL_part test_check hask (by simp[hx])];simp[cs1]
  rw[←hn]
  exact near_any testL 3 ca1 ca1 [71,69,84] _ _ [x] W (hE.below hB) (hT.below hB (Nat.le_refl _)) (by decide) (by decide) (row_one hU) (by simp) (by simp) (fun y hy=>by rw[List.mem_singleton.1 hy];exact⟨zx,px⟩) (by decide) (by decide) (by decide) (by decide) (by decide) (by decide)
 have e1:=near ca2 true cs2 (check_iff.2 cg2) (by decide) (by decide)
 have e2:=near ca3 false cs3 (check_iff.2 cg3) (by decide) (by decide)
 have e3:=near ca4 false cs4 (check_iff.2 cg4) (by decide) (by decide)
 clear near hE0 hE hT
 have HB00:=Lib.hid hb00
 clear hb00
 obtain⟨CS,hCS⟩:∃cs,(askC 3 ca1 ca1 [71,69,84]).toList=cs:=⟨_,rfl⟩
 have hV:askV 3 ca1 ca1 [71,69,84]= .agg CS.toArray:=by rw[←hCS];rfl
 rw[hV]at cp g1 g2 e1 e2 e3
 have hsz:w0.heap.size<w.heap.size:=by rw[←hw,World.size_alloc];omega
 have hi22:(Tryz.prog.info? 33).map (·.size)=some CS.length:=by rw[←hCS];kernel_rfl
 have ho:=all_oneCell_toArray (show ∀v∈CS,v.oneCell'=true by rw[←hCS];exact one_ask 3 ca1 ca1 _)
 have hi2:(Tryz.prog.info? 33).map (·.size)=some CS.toArray.size:=by rw[List.size_toArray];exact hi22
 have hz22:Hid (22=CS.toArray.size):=by show _=_;rw[List.size_toArray,←hCS];rfl
 have HV:=Lib.hid hV
 have HCS:=Lib.hid hCS
 clear hV hCS
 simp only[urlV,atU]at a1 a2 a3 a4
 have HW:=Lib.hid hw
 clear hw
 go_enter Tryz.func18,Tryz.ntmps18
 go_upto_region 2 with fail
 rw[HW.out]
 clear HW
 go_wp2_with fail
 go_at_call 49
 refine(a1 _ hb0).mono ?_
 rintro e w1 ⟨rfl,h1n⟩
 have h1:=below_next hb0 h1n
 clear hb0 h1n
 go_wp2_with fail
 go_at_call 49
 refine(a1 _ h1).mono ?_
 rintro e w2 ⟨rfl,h2n⟩
 have h2:=below_next h1 h2n
 clear a1 h1 h2n
 go_upto_region 3 with (refine wpList_store_row (o:=⟨none, .store 33 (.tmp 2) (.tmp 12),_,_,_,_⟩) rfl 33 (.tmp 2) (.tmp 12) rfl w2.heap.size CS.toArray rfl HV.out 33 _ (heap_alloc_new w2 _) hi2 hz22.out ho ?_)
 obtain⟨W3,hW3⟩:∃W,(w2.alloc (.cells #[.int .u8 0, .string ⟨#[]⟩, .string ⟨#[]⟩, .string ⟨#[]⟩, .string ⟨#[]⟩, .int .i64 0, .string ⟨#[]⟩, .string ⟨#[]⟩, .bool false, .string ⟨#[]⟩, .bool false, .string ⟨#[]⟩, .string ⟨#[]⟩, .string ⟨#[]⟩, .string ⟨#[]⟩, .int .i64 0, .string ⟨#[]⟩, .string ⟨#[]⟩, .bool false, .string ⟨#[]⟩, .bool false, .string ⟨#[]⟩] 33)).setRow w2.heap.size CS.toArray=W:=⟨_,rfl⟩
 have hA:W3.heap[w2.heap.size]?=some (.cells CS.toArray 33 (0,0)):=by rw[←hW3];exact setRow_heap _ _ _ _ _ _ (heap_alloc_new w2 _)
 have h3:Below w.heap.size w W3:=by rw[←hW3];exact below_setRow (h2.alloc h2.size _) h2.size _
 rw[hW3]
 clear hW3 hz22 ho hi2
 simp only[Act.put]
 generalize Value.agg #[.int .u8 3, .string ⟨#[104,116,116,112,115]⟩, .string ⟨#[]⟩, .string ⟨#[]⟩, .string ⟨#[97,46,116,101,115,116]⟩, .int .i64 (-1), .string ⟨#[47]⟩, .string ⟨#[]⟩, .bool false, .string ⟨#[]⟩, .bool false, .string ⟨#[104,116,116,112,115]⟩, .string ⟨#[]⟩, .string ⟨#[]⟩, .string ⟨#[97,46,116,101,115,116]⟩, .int .i64 (-1), .string ⟨#[47]⟩, .string ⟨#[]⟩, .bool false, .string ⟨#[]⟩, .bool false, .string ⟨#[71,69,84]⟩]=V12
 go_wp2_with fail
 go_at_call 50
 refine(n1 _ h3).mono ?_
 rintro e w4 ⟨rfl,h4n⟩
 have h4:=below_next h3 h4n
 have hA4:=(h4n.block _ (Array.getElem?_eq_some_iff.1 hA).1).trans hA
 clear hA h3 n1 h4n
 go_wp2_with fail
 go_at_call 50
 refine(n2 _ h4).mono ?_
 rintro e w5 ⟨rfl,h5n⟩
 have h5:=below_next h4 h5n
 have hA5:=(h5n.block _ (Array.getElem?_eq_some_iff.1 hA4).1).trans hA4
 clear hA4 h4 n2 h5n
 go_wp2_with fail
 go_at_call 50
 refine(n3 _ h5).mono ?_
 rintro e w6 ⟨rfl,h6n⟩
 have h6:=below_next h5 h6n
 have hA6:=(h6n.block _ (Array.getElem?_eq_some_iff.1 hA5).1).trans hA5
 clear hA5 h5 n3 h6n
 go_upto_region 6 with fail
 generalize Value.agg #[.string ⟨#[104,116,116,112,115]⟩, .string ⟨#[]⟩, .string ⟨#[]⟩, .string ⟨#[97,46,116,101,115,116]⟩, .int .i64 (-1), .string ⟨#[47]⟩, .string ⟨#[]⟩, .bool false, .string ⟨#[]⟩, .bool false]=V10
 have hS:=(Below.refl w6.heap.size w6).drew
 have hR:∀W,Below w6.heap.size w6 W→W.rangeAt w2.heap.size 0 CS:=fun W hW j v hv=>by
  rw[cell_of_row W w2.heap.size (0+j) CS.toArray 33 (0,0) ((hW.block _ (Array.getElem?_eq_some_iff.1 hA6).1).trans hA6),Nat.zero_add,List.getElem?_toArray];exact hv
 clear hA6
 refine wp_region_held_drew (S:=fun W=>Below w6.heap.size w6 W) (by kernel_rfl) hS (fun _=> ?_)
 refine wpAnyH_take (i:=0) (oi:=⟨some 25, .load 33 (.tmp 2),_,_,_,_⟩) (v:= .agg CS.toArray) rfl (by kernel_rfl) (by kernel_rfl) (by kernel_rfl) (fun _ _ _ h=>h) (yieldsIf_load_mid (by rfl) 33 (.tmp 2) rfl w2.heap.size 0 rfl CS _ hR Tryz.underlying33 rfl hi22) hS ?_
 try simp only[Act.put,List.setIfInBounds_toArray,List.set_cons_zero,List.set_cons_succ]
 refine wpAnyH_ready (rs:=[1]) (by kernel_rfl) (by simp) ?_
 refine AllReadyH.cons (o:=⟨some 26, .call {callee:= .value (.func 19),args:= #[.tmp 25],argTypes:= #[33]},_,_,_,_⟩) rfl (fun K hK=> ?_) AllReadyH.nil
 go_simp
 go_at_call 19
 refine(cp _ (below_next h6 hS)).mono ?_
 rintro e x1 ⟨rfl,hn⟩
 go_wp2_with fail
 have hS1:=below_next hS hn
 refine hK.out _ _ hS1 (fun _=> ?_)
 clear hK hS hn K
 have hS:=hS1
 clear hS1
 try simp only[Act.put,List.setIfInBounds_toArray,List.set_cons_zero,List.set_cons_succ]
 refine wpAnyH_take (i:=2) (oi:=⟨some 27, .move (.tmp 26),_,_,_,_⟩) (v:= .bool true) rfl (by kernel_rfl) (by kernel_rfl) (by kernel_rfl) (fun _ _ _ h=>h) (.inl ⟨by rfl,fun W _=>by go_simp⟩) hS ?_
 try simp only[Act.put,List.setIfInBounds_toArray,List.set_cons_zero,List.set_cons_succ]
 refine wpAnyH_take (i:=3) (oi:=⟨some 28, .move (.tmp 1),_,_,_,_⟩) (v:= .slice (some ⟨w0.heap.size,0,none⟩) 1 1) rfl (by kernel_rfl) (by kernel_rfl) (by kernel_rfl) (fun _ _ _ h=>h) (.inl ⟨by rfl,fun W _=>by go_simp⟩) hS ?_
 try simp only[Act.put,List.setIfInBounds_toArray,List.set_cons_zero,List.set_cons_succ]
 refine wpAnyH_take (i:=4) (oi:=⟨some 29, .load 33 (.tmp 2),_,_,_,_⟩) (v:= .agg CS.toArray) rfl (by kernel_rfl) (by kernel_rfl) (by kernel_rfl) (fun _ _ _ h=>h) (yieldsIf_load_mid (by rfl) 33 (.tmp 2) rfl w2.heap.size 0 rfl CS _ hR Tryz.underlying33 rfl hi22) hS ?_
 try simp only[Act.put,List.setIfInBounds_toArray,List.set_cons_zero,List.set_cons_succ]
 refine wpAnyH_ready (rs:=[5]) (by kernel_rfl) (by simp) ?_
 refine AllReadyH.cons (o:=⟨some 30, .call {callee:= .value (.func 49),args:= #[.const (.string ⟨#[104,116,116,112,115]⟩), .const (.string ⟨#[120,46,97,46,116,101,115,116]⟩)],argTypes:= #[9,9]},_,_,_,_⟩) rfl (fun K hK=> ?_) AllReadyH.nil
 go_simp
 go_at_call 49
 refine(a2 _ (below_next h6 hS)).mono ?_
 rintro e x2 ⟨rfl,hn⟩
 go_wp2_with fail
 have hS1:=below_next hS hn
 refine hK.out _ _ hS1 (fun _=> ?_)
 clear hK hS hn K
 have hS:=hS1
 clear hS1
 try simp only[Act.put,List.setIfInBounds_toArray,List.set_cons_zero,List.set_cons_succ]
 refine wpAnyH_ready (rs:=[6]) (by kernel_rfl) (by simp) ?_
 refine AllReadyH.cons (o:=⟨some 31, .buildSlice 34 1 #[(0, .tmp 30)],_,_,_,_⟩) rfl (fun K hK=> ?_) AllReadyH.nil
 go_simp
 have hS1:=hS.alloc hS.size (.cells #[.string ⟨#[104,116,116,112,115]⟩, .string ⟨#[]⟩, .string ⟨#[]⟩, .string ⟨#[120,46,97,46,116,101,115,116]⟩, .int .i64 (-1), .string ⟨#[47]⟩, .string ⟨#[]⟩, .bool false, .string ⟨#[]⟩, .bool false] 24)
 refine hK.out _ _ hS1 (fun _=> ?_)
 clear hK K
 obtain⟨x3,hX⟩:∃W,x2.alloc (.cells #[.string ⟨#[104,116,116,112,115]⟩, .string ⟨#[]⟩, .string ⟨#[]⟩, .string ⟨#[120,46,97,46,116,101,115,116]⟩, .int .i64 (-1), .string ⟨#[47]⟩, .string ⟨#[]⟩, .bool false, .string ⟨#[]⟩, .bool false] 24)=W:=⟨_,rfl⟩
 have hU:UrlAt x2.heap.size ca2 x3:=by rw[←hX];exact heap_alloc_new x2 _
 rw[hX]at hS1⊢
 clear hX hS
 have hS:=hS1
 clear hS1
 try simp only[Act.put,List.setIfInBounds_toArray,List.set_cons_zero,List.set_cons_succ]
 refine wpAnyH_ready (rs:=[7]) (by kernel_rfl) (by simp) ?_
 refine AllReadyH.cons (o:=⟨some 32, .call {callee:= .value (.func 21),args:= #[.tmp 28, .tmp 29, .tmp 31],argTypes:= #[22,33,34]},_,_,_,_⟩) rfl (fun K hK=> ?_) AllReadyH.nil
 go_simp
 go_at_call 21
 refine(e1 x2.heap.size _ (below_next h6 hS) hU).mono ?_
 rintro e x4 ⟨rfl,hn⟩
 go_wp2_with fail
 have hS1:=below_next hS hn
 refine hK.out _ _ hS1 (fun _=> ?_)
 clear hK hS hn K
 have hS:=hS1
 clear hS1
 try simp only[Act.put,List.setIfInBounds_toArray,List.set_cons_zero,List.set_cons_succ]
 clear hU
 refine wpAnyH_take (i:=8) (oi:=⟨some 33, .pick (.tmp 27) (.tmp 32) (.const (.bool false)),_,_,_,_⟩) (v:= .bool true) rfl (by kernel_rfl) (by kernel_rfl) (by kernel_rfl) (fun _ _ _ h=>h) (.inl ⟨by rfl,fun W _=>by go_simp⟩) hS ?_
 try simp only[Act.put,List.setIfInBounds_toArray,List.set_cons_zero,List.set_cons_succ]
 refine wpAnyH_take (i:=9) (oi:=⟨some 34, .move (.tmp 33),_,_,_,_⟩) (v:= .bool true) rfl (by kernel_rfl) (by kernel_rfl) (by kernel_rfl) (fun _ _ _ h=>h) (.inl ⟨by rfl,fun W _=>by go_simp⟩) hS ?_
 try simp only[Act.put,List.setIfInBounds_toArray,List.set_cons_zero,List.set_cons_succ]
 refine wpAnyH_take (i:=10) (oi:=⟨some 35, .move (.tmp 1),_,_,_,_⟩) (v:= .slice (some ⟨w0.heap.size,0,none⟩) 1 1) rfl (by kernel_rfl) (by kernel_rfl) (by kernel_rfl) (fun _ _ _ h=>h) (.inl ⟨by rfl,fun W _=>by go_simp⟩) hS ?_
 try simp only[Act.put,List.setIfInBounds_toArray,List.set_cons_zero,List.set_cons_succ]
 refine wpAnyH_take (i:=11) (oi:=⟨some 36, .load 33 (.tmp 2),_,_,_,_⟩) (v:= .agg CS.toArray) rfl (by kernel_rfl) (by kernel_rfl) (by kernel_rfl) (fun _ _ _ h=>h) (yieldsIf_load_mid (by rfl) 33 (.tmp 2) rfl w2.heap.size 0 rfl CS _ hR Tryz.underlying33 rfl hi22) hS ?_
 try simp only[Act.put,List.setIfInBounds_toArray,List.set_cons_zero,List.set_cons_succ]
 refine wpAnyH_ready (rs:=[12]) (by kernel_rfl) (by simp) ?_
 refine AllReadyH.cons (o:=⟨some 37, .call {callee:= .value (.func 49),args:= #[.const (.string ⟨#[104,116,116,112,115]⟩), .const (.string ⟨#[98,46,116,101,115,116]⟩)],argTypes:= #[9,9]},_,_,_,_⟩) rfl (fun K hK=> ?_) AllReadyH.nil
 go_simp
 go_at_call 49
 refine(a3 _ (below_next h6 hS)).mono ?_
 rintro e x5 ⟨rfl,hn⟩
 go_wp2_with fail
 have hS1:=below_next hS hn
 refine hK.out _ _ hS1 (fun _=> ?_)
 clear hK hS hn K
 have hS:=hS1
 clear hS1
 try simp only[Act.put,List.setIfInBounds_toArray,List.set_cons_zero,List.set_cons_succ]
 refine wpAnyH_ready (rs:=[13]) (by kernel_rfl) (by simp) ?_
 refine AllReadyH.cons (o:=⟨some 38, .buildSlice 34 1 #[(0, .tmp 37)],_,_,_,_⟩) rfl (fun K hK=> ?_) AllReadyH.nil
 go_simp
 have hS1:=hS.alloc hS.size (.cells #[.string ⟨#[104,116,116,112,115]⟩, .string ⟨#[]⟩, .string ⟨#[]⟩, .string ⟨#[98,46,116,101,115,116]⟩, .int .i64 (-1), .string ⟨#[47]⟩, .string ⟨#[]⟩, .bool false, .string ⟨#[]⟩, .bool false] 24)
 refine hK.out _ _ hS1 (fun _=> ?_)
 clear hK K
 obtain⟨x6,hX⟩:∃W,x5.alloc (.cells #[.string ⟨#[104,116,116,112,115]⟩, .string ⟨#[]⟩, .string ⟨#[]⟩, .string ⟨#[98,46,116,101,115,116]⟩, .int .i64 (-1), .string ⟨#[47]⟩, .string ⟨#[]⟩, .bool false, .string ⟨#[]⟩, .bool false] 24)=W:=⟨_,rfl⟩
 have hU:UrlAt x5.heap.size ca3 x6:=by rw[←hX];exact heap_alloc_new x5 _
 rw[hX]at hS1⊢
 clear hX hS
 have hS:=hS1
 clear hS1
 try simp only[Act.put,List.setIfInBounds_toArray,List.set_cons_zero,List.set_cons_succ]
 refine wpAnyH_ready (rs:=[14]) (by kernel_rfl) (by simp) ?_
 refine AllReadyH.cons (o:=⟨some 39, .call {callee:= .value (.func 21),args:= #[.tmp 35, .tmp 36, .tmp 38],argTypes:= #[22,33,34]},_,_,_,_⟩) rfl (fun K hK=> ?_) AllReadyH.nil
 go_simp
 go_at_call 21
 refine(e2 x5.heap.size _ (below_next h6 hS) hU).mono ?_
 rintro e x7 ⟨rfl,hn⟩
 go_wp2_with fail
 have hS1:=below_next hS hn
 refine hK.out _ _ hS1 (fun _=> ?_)
 clear hK hS hn K
 have hS:=hS1
 clear hS1
 try simp only[Act.put,List.setIfInBounds_toArray,List.set_cons_zero,List.set_cons_succ]
 clear hU
 refine wpAnyH_take (i:=15) (oi:=⟨some 40, .unOp .not 4 (.tmp 39),_,_,_,_⟩) (v:= .bool true) rfl (by kernel_rfl) (by kernel_rfl) (by kernel_rfl) (fun _ _ _ h=>h) (.inl ⟨by rfl,fun W _=>by go_simp⟩) hS ?_
 try simp only[Act.put,List.setIfInBounds_toArray,List.set_cons_zero,List.set_cons_succ]
 refine wpAnyH_take (i:=16) (oi:=⟨some 41, .pick (.tmp 34) (.tmp 40) (.const (.bool false)),_,_,_,_⟩) (v:= .bool true) rfl (by kernel_rfl) (by kernel_rfl) (by kernel_rfl) (fun _ _ _ h=>h) (.inl ⟨by rfl,fun W _=>by go_simp⟩) hS ?_
 try simp only[Act.put,List.setIfInBounds_toArray,List.set_cons_zero,List.set_cons_succ]
 refine wpAnyH_take (i:=17) (oi:=⟨some 42, .move (.tmp 41),_,_,_,_⟩) (v:= .bool true) rfl (by kernel_rfl) (by kernel_rfl) (by kernel_rfl) (fun _ _ _ h=>h) (.inl ⟨by rfl,fun W _=>by go_simp⟩) hS ?_
 try simp only[Act.put,List.setIfInBounds_toArray,List.set_cons_zero,List.set_cons_succ]
 refine wpAnyH_take (i:=18) (oi:=⟨some 43, .move (.tmp 1),_,_,_,_⟩) (v:= .slice (some ⟨w0.heap.size,0,none⟩) 1 1) rfl (by kernel_rfl) (by kernel_rfl) (by kernel_rfl) (fun _ _ _ h=>h) (.inl ⟨by rfl,fun W _=>by go_simp⟩) hS ?_
 try simp only[Act.put,List.setIfInBounds_toArray,List.set_cons_zero,List.set_cons_succ]
 refine wpAnyH_take (i:=19) (oi:=⟨some 44, .load 33 (.tmp 2),_,_,_,_⟩) (v:= .agg CS.toArray) rfl (by kernel_rfl) (by kernel_rfl) (by kernel_rfl) (fun _ _ _ h=>h) (yieldsIf_load_mid (by rfl) 33 (.tmp 2) rfl w2.heap.size 0 rfl CS _ hR Tryz.underlying33 rfl hi22) hS ?_
 try simp only[Act.put,List.setIfInBounds_toArray,List.set_cons_zero,List.set_cons_succ]
 refine wpAnyH_ready (rs:=[20]) (by kernel_rfl) (by simp) ?_
 refine AllReadyH.cons (o:=⟨some 45, .call {callee:= .value (.func 49),args:= #[.const (.string ⟨#[104,116,116,112]⟩), .const (.string ⟨#[97,46,116,101,115,116]⟩)],argTypes:= #[9,9]},_,_,_,_⟩) rfl (fun K hK=> ?_) AllReadyH.nil
 go_simp
 go_at_call 49
 refine(a4 _ (below_next h6 hS)).mono ?_
 rintro e x8 ⟨rfl,hn⟩
 go_wp2_with fail
 have hS1:=below_next hS hn
 refine hK.out _ _ hS1 (fun _=> ?_)
 clear hK hS hn K
 have hS:=hS1
 clear hS1
 try simp only[Act.put,List.setIfInBounds_toArray,List.set_cons_zero,List.set_cons_succ]
 refine wpAnyH_ready (rs:=[21]) (by kernel_rfl) (by simp) ?_
 refine AllReadyH.cons (o:=⟨some 46, .buildSlice 34 1 #[(0, .tmp 45)],_,_,_,_⟩) rfl (fun K hK=> ?_) AllReadyH.nil
 go_simp
 have hS1:=hS.alloc hS.size (.cells #[.string ⟨#[104,116,116,112]⟩, .string ⟨#[]⟩, .string ⟨#[]⟩, .string ⟨#[97,46,116,101,115,116]⟩, .int .i64 (-1), .string ⟨#[47]⟩, .string ⟨#[]⟩, .bool false, .string ⟨#[]⟩, .bool false] 24)
 refine hK.out _ _ hS1 (fun _=> ?_)
 clear hK K
 obtain⟨x9,hX⟩:∃W,x8.alloc (.cells #[.string ⟨#[104,116,116,112]⟩, .string ⟨#[]⟩, .string ⟨#[]⟩, .string ⟨#[97,46,116,101,115,116]⟩, .int .i64 (-1), .string ⟨#[47]⟩, .string ⟨#[]⟩, .bool false, .string ⟨#[]⟩, .bool false] 24)=W:=⟨_,rfl⟩
 have hU:UrlAt x8.heap.size ca4 x9:=by rw[←hX];exact heap_alloc_new x8 _
 rw[hX]at hS1⊢
 clear hX hS
 have hS:=hS1
 clear hS1
 try simp only[Act.put,List.setIfInBounds_toArray,List.set_cons_zero,List.set_cons_succ]
 refine wpAnyH_ready (rs:=[22]) (by kernel_rfl) (by simp) ?_
 refine AllReadyH.cons (o:=⟨some 47, .call {callee:= .value (.func 21),args:= #[.tmp 43, .tmp 44, .tmp 46],argTypes:= #[22,33,34]},_,_,_,_⟩) rfl (fun K hK=> ?_) AllReadyH.nil
 go_simp
 go_at_call 21
 refine(e3 x8.heap.size _ (below_next h6 hS) hU).mono ?_
 rintro e x10 ⟨rfl,hn⟩
 go_wp2_with fail
 have hS1:=below_next hS hn
 refine hK.out _ _ hS1 (fun _=> ?_)
 clear hK hS hn K
 have hS:=hS1
 clear hS1
 try simp only[Act.put,List.setIfInBounds_toArray,List.set_cons_zero,List.set_cons_succ]
 clear hU
 refine wpAnyH_take (i:=23) (oi:=⟨some 48, .unOp .not 4 (.tmp 47),_,_,_,_⟩) (v:= .bool true) rfl (by kernel_rfl) (by kernel_rfl) (by kernel_rfl) (fun _ _ _ h=>h) (.inl ⟨by rfl,fun W _=>by go_simp⟩) hS ?_
 try simp only[Act.put,List.setIfInBounds_toArray,List.set_cons_zero,List.set_cons_succ]
 refine wpAnyH_take (i:=24) (oi:=⟨some 49, .pick (.tmp 42) (.tmp 48) (.const (.bool false)),_,_,_,_⟩) (v:= .bool true) rfl (by kernel_rfl) (by kernel_rfl) (by kernel_rfl) (fun _ _ _ h=>h) (.inl ⟨by rfl,fun W _=>by go_simp⟩) hS ?_
 try simp only[Act.put,List.setIfInBounds_toArray,List.set_cons_zero,List.set_cons_succ]
 refine wpAnyH_take (i:=25) (oi:=⟨some 50, .move (.tmp 49),_,_,_,_⟩) (v:= .bool true) rfl (by kernel_rfl) (by kernel_rfl) (by kernel_rfl) (fun _ _ _ h=>h) (.inl ⟨by rfl,fun W _=>by go_simp⟩) hS ?_
 try simp only[Act.put,List.setIfInBounds_toArray,List.set_cons_zero,List.set_cons_succ]
 refine wpAnyH_take (i:=26) (oi:=⟨some 51, .load 33 (.tmp 2),_,_,_,_⟩) (v:= .agg CS.toArray) rfl (by kernel_rfl) (by kernel_rfl) (by kernel_rfl) (fun _ _ _ h=>h) (yieldsIf_load_mid (by rfl) 33 (.tmp 2) rfl w2.heap.size 0 rfl CS _ hR Tryz.underlying33 rfl hi22) hS ?_
 try simp only[Act.put,List.setIfInBounds_toArray,List.set_cons_zero,List.set_cons_succ]
 refine wpAnyH_ready (rs:=[27]) (by kernel_rfl) (by simp) ?_
 refine AllReadyH.cons (o:=⟨some 52, .call {callee:= .value (.func 51),args:= #[.const (.int .u8 2), .const (.bool false), .tmp 51],argTypes:= #[87,4,33]},_,_,_,_⟩) rfl (fun K hK=> ?_) AllReadyH.nil
 go_simp
 go_at_call 51
 refine(g1 _ (below_next h6 hS)).mono ?_
 rintro e x11 ⟨rfl,hn⟩
 go_wp2_with fail
 have hS1:=below_next hS hn
 refine hK.out _ _ hS1 (fun _=> ?_)
 clear hK hS hn K
 have hS:=hS1
 clear hS1
 try simp only[Act.put,List.setIfInBounds_toArray,List.set_cons_zero,List.set_cons_succ]
 refine wpAnyH_take (i:=28) (oi:=⟨some 53, .unOp .not 4 (.tmp 52),_,_,_,_⟩) (v:= .bool true) rfl (by kernel_rfl) (by kernel_rfl) (by kernel_rfl) (fun _ _ _ h=>h) (.inl ⟨by rfl,fun W _=>by go_simp⟩) hS ?_
 try simp only[Act.put,List.setIfInBounds_toArray,List.set_cons_zero,List.set_cons_succ]
 refine wpAnyH_take (i:=29) (oi:=⟨some 54, .pick (.tmp 50) (.tmp 53) (.const (.bool false)),_,_,_,_⟩) (v:= .bool true) rfl (by kernel_rfl) (by kernel_rfl) (by kernel_rfl) (fun _ _ _ h=>h) (.inl ⟨by rfl,fun W _=>by go_simp⟩) hS ?_
 try simp only[Act.put,List.setIfInBounds_toArray,List.set_cons_zero,List.set_cons_succ]
 refine wpAnyH_take (i:=30) (oi:=⟨some 55, .move (.tmp 54),_,_,_,_⟩) (v:= .bool true) rfl (by kernel_rfl) (by kernel_rfl) (by kernel_rfl) (fun _ _ _ h=>h) (.inl ⟨by rfl,fun W _=>by go_simp⟩) hS ?_
 try simp only[Act.put,List.setIfInBounds_toArray,List.set_cons_zero,List.set_cons_succ]
 refine wpAnyH_take (i:=31) (oi:=⟨some 56, .load 33 (.tmp 2),_,_,_,_⟩) (v:= .agg CS.toArray) rfl (by kernel_rfl) (by kernel_rfl) (by kernel_rfl) (fun _ _ _ h=>h) (yieldsIf_load_mid (by rfl) 33 (.tmp 2) rfl w2.heap.size 0 rfl CS _ hR Tryz.underlying33 rfl hi22) hS ?_
 try simp only[Act.put,List.setIfInBounds_toArray,List.set_cons_zero,List.set_cons_succ]
 refine wpAnyH_ready (rs:=[32]) (by kernel_rfl) (by simp) ?_
 refine AllReadyH.cons (o:=⟨some 57, .call {callee:= .value (.func 51),args:= #[.const (.int .u8 3), .const (.bool false), .tmp 56],argTypes:= #[87,4,33]},_,_,_,_⟩) rfl (fun K hK=> ?_) AllReadyH.nil
 go_simp
 go_at_call 51
 refine(g2 _ (below_next h6 hS)).mono ?_
 rintro e x12 ⟨rfl,hn⟩
 go_wp2_with fail
 have hS1:=below_next hS hn
 refine hK.out _ _ hS1 (fun _=> ?_)
 clear hK hS hn K
 have hS:=hS1
 clear hS1
 try simp only[Act.put,List.setIfInBounds_toArray,List.set_cons_zero,List.set_cons_succ]
 refine wpAnyH_take (i:=33) (oi:=⟨some 58, .pick (.tmp 55) (.tmp 57) (.const (.bool false)),_,_,_,_⟩) (v:= .bool true) rfl (by kernel_rfl) (by kernel_rfl) (by kernel_rfl) (fun _ _ _ h=>h) (.inl ⟨by rfl,fun W _=>by go_simp⟩) hS ?_
 try simp only[Act.put,List.setIfInBounds_toArray,List.set_cons_zero,List.set_cons_succ]
 refine wpAnyH_take (i:=34) (oi:=⟨some 59, .move (.tmp 58),_,_,_,_⟩) (v:= .bool true) rfl (by kernel_rfl) (by kernel_rfl) (by kernel_rfl) (fun _ _ _ h=>h) (.inl ⟨by rfl,fun W _=>by go_simp⟩) hS ?_
 try simp only[Act.put,List.setIfInBounds_toArray,List.set_cons_zero,List.set_cons_succ]
 refine wpAnyH_take (i:=35) (oi:=⟨some 60, .move (.tmp 3),_,_,_,_⟩) (v:= .string ⟨#[71,69,84]⟩) rfl (by kernel_rfl) (by kernel_rfl) (by kernel_rfl) (fun _ _ _ h=>h) (.inl ⟨by rfl,fun W _=>by go_simp⟩) hS ?_
 try simp only[Act.put,List.setIfInBounds_toArray,List.set_cons_zero,List.set_cons_succ]
 refine wpAnyH_take (i:=36) (oi:=⟨some 61, .binOp .eql 9 (.tmp 60) (.const (.string ⟨#[71,69,84]⟩)) 9,_,_,_,_⟩) (v:= .bool true) rfl (by kernel_rfl) (by kernel_rfl) (by kernel_rfl) (fun _ _ _ h=>h) (.inl ⟨by rfl,fun W _=>by go_simp⟩) hS ?_
 try simp only[Act.put,List.setIfInBounds_toArray,List.set_cons_zero,List.set_cons_succ]
 refine wpAnyH_take (i:=37) (oi:=⟨some 62, .pick (.tmp 59) (.tmp 61) (.const (.bool false)),_,_,_,_⟩) (v:= .bool true) rfl (by kernel_rfl) (by kernel_rfl) (by kernel_rfl) (fun _ _ _ h=>h) (.inl ⟨by rfl,fun W _=>by go_simp⟩) hS ?_
 try simp only[Act.put,List.setIfInBounds_toArray,List.set_cons_zero,List.set_cons_succ]
 refine wpAnyH_take (i:=38) (oi:=⟨some 63, .move (.tmp 62),_,_,_,_⟩) (v:= .bool true) rfl (by kernel_rfl) (by kernel_rfl) (by kernel_rfl) (fun _ _ _ h=>h) (.inl ⟨by rfl,fun W _=>by go_simp⟩) hS ?_
 try simp only[Act.put,List.setIfInBounds_toArray,List.set_cons_zero,List.set_cons_succ]
 refine wpAnyH_take (i:=39) (oi:=⟨some 64, .move (.tmp 4),_,_,_,_⟩) (v:= .bool true) rfl (by kernel_rfl) (by kernel_rfl) (by kernel_rfl) (fun _ _ _ h=>h) (.inl ⟨by rfl,fun W _=>by go_simp⟩) hS ?_
 try simp only[Act.put,List.setIfInBounds_toArray,List.set_cons_zero,List.set_cons_succ]
 refine wpAnyH_take (i:=40) (oi:=⟨some 65, .pick (.tmp 63) (.tmp 64) (.const (.bool false)),_,_,_,_⟩) (v:= .bool true) rfl (by kernel_rfl) (by kernel_rfl) (by kernel_rfl) (fun _ _ _ h=>h) (.inl ⟨by rfl,fun W _=>by go_simp⟩) hS ?_
 try simp only[Act.put,List.setIfInBounds_toArray,List.set_cons_zero,List.set_cons_succ]
 refine wpAnyH_take (i:=41) (oi:=⟨some 66, .move (.tmp 65),_,_,_,_⟩) (v:= .bool true) rfl (by kernel_rfl) (by kernel_rfl) (by kernel_rfl) (fun _ _ _ h=>h) (.inl ⟨by rfl,fun W _=>by go_simp⟩) hS ?_
 try simp only[Act.put,List.setIfInBounds_toArray,List.set_cons_zero,List.set_cons_succ]
 refine wpAnyH_take (i:=42) (oi:=⟨some 67, .move (.tmp 5),_,_,_,_⟩) (v:= .string ⟨#[80,85,84]⟩) rfl (by kernel_rfl) (by kernel_rfl) (by kernel_rfl) (fun _ _ _ h=>h) (.inl ⟨by rfl,fun W _=>by go_simp⟩) hS ?_
 try simp only[Act.put,List.setIfInBounds_toArray,List.set_cons_zero,List.set_cons_succ]
 refine wpAnyH_take (i:=43) (oi:=⟨some 68, .binOp .eql 9 (.tmp 67) (.const (.string ⟨#[80,85,84]⟩)) 9,_,_,_,_⟩) (v:= .bool true) rfl (by kernel_rfl) (by kernel_rfl) (by kernel_rfl) (fun _ _ _ h=>h) (.inl ⟨by rfl,fun W _=>by go_simp⟩) hS ?_
 try simp only[Act.put,List.setIfInBounds_toArray,List.set_cons_zero,List.set_cons_succ]
 refine wpAnyH_take (i:=44) (oi:=⟨some 69, .pick (.tmp 66) (.tmp 68) (.const (.bool false)),_,_,_,_⟩) (v:= .bool true) rfl (by kernel_rfl) (by kernel_rfl) (by kernel_rfl) (fun _ _ _ h=>h) (.inl ⟨by rfl,fun W _=>by go_simp⟩) hS ?_
 try simp only[Act.put,List.setIfInBounds_toArray,List.set_cons_zero,List.set_cons_succ]
 refine wpAnyH_take (i:=45) (oi:=⟨some 70, .move (.tmp 69),_,_,_,_⟩) (v:= .bool true) rfl (by kernel_rfl) (by kernel_rfl) (by kernel_rfl) (fun _ _ _ h=>h) (.inl ⟨by rfl,fun W _=>by go_simp⟩) hS ?_
 try simp only[Act.put,List.setIfInBounds_toArray,List.set_cons_zero,List.set_cons_succ]
 refine wpAnyH_take (i:=46) (oi:=⟨some 71, .move (.tmp 6),_,_,_,_⟩) (v:= .bool true) rfl (by kernel_rfl) (by kernel_rfl) (by kernel_rfl) (fun _ _ _ h=>h) (.inl ⟨by rfl,fun W _=>by go_simp⟩) hS ?_
 try simp only[Act.put,List.setIfInBounds_toArray,List.set_cons_zero,List.set_cons_succ]
 refine wpAnyH_take (i:=47) (oi:=⟨some 72, .pick (.tmp 70) (.tmp 71) (.const (.bool false)),_,_,_,_⟩) (v:= .bool true) rfl (by kernel_rfl) (by kernel_rfl) (by kernel_rfl) (fun _ _ _ h=>h) (.inl ⟨by rfl,fun W _=>by go_simp⟩) hS ?_
 try simp only[Act.put,List.setIfInBounds_toArray,List.set_cons_zero,List.set_cons_succ]
 refine wpAnyH_take (i:=48) (oi:=⟨some 73, .move (.tmp 72),_,_,_,_⟩) (v:= .bool true) rfl (by kernel_rfl) (by kernel_rfl) (by kernel_rfl) (fun _ _ _ h=>h) (.inl ⟨by rfl,fun W _=>by go_simp⟩) hS ?_
 try simp only[Act.put,List.setIfInBounds_toArray,List.set_cons_zero,List.set_cons_succ]
 refine wpAnyH_take (i:=49) (oi:=⟨some 74, .move (.tmp 8),_,_,_,_⟩) (v:= .bool false) rfl (by kernel_rfl) (by kernel_rfl) (by kernel_rfl) (fun _ _ _ h=>h) (.inl ⟨by rfl,fun W _=>by go_simp⟩) hS ?_
 try simp only[Act.put,List.setIfInBounds_toArray,List.set_cons_zero,List.set_cons_succ]
 refine wpAnyH_take (i:=50) (oi:=⟨some 75, .unOp .not 4 (.tmp 74),_,_,_,_⟩) (v:= .bool true) rfl (by kernel_rfl) (by kernel_rfl) (by kernel_rfl) (fun _ _ _ h=>h) (.inl ⟨by rfl,fun W _=>by go_simp⟩) hS ?_
 try simp only[Act.put,List.setIfInBounds_toArray,List.set_cons_zero,List.set_cons_succ]
 refine wpAnyH_take (i:=51) (oi:=⟨some 76, .pick (.tmp 73) (.tmp 75) (.const (.bool false)),_,_,_,_⟩) (v:= .bool true) rfl (by kernel_rfl) (by kernel_rfl) (by kernel_rfl) (fun _ _ _ h=>h) (.inl ⟨by rfl,fun W _=>by go_simp⟩) hS ?_
 try simp only[Act.put,List.setIfInBounds_toArray,List.set_cons_zero,List.set_cons_succ]
 refine wpAnyH_take (i:=52) (oi:=⟨some 0, .assign (.tmp 76),_,_,_,_⟩) (v:= .bool true) rfl (by kernel_rfl) (by kernel_rfl) (by kernel_rfl) (fun _ _ _ h=>h) (.inl ⟨by rfl,fun W _=>by go_simp⟩) hS ?_
 try simp only[Act.put,List.setIfInBounds_toArray,List.set_cons_zero,List.set_cons_succ]
 refine wpAnyH_done (by kernel_rfl) ?_ _
 go_wp2_with fail
 go_ret
 exact⟨rfl,HB00.out.trans ((below_next h6 hS).mono HB00.out.size)⟩
end Go.Proofs.YtlhcfmcbpljbiaaGreatDoor
