/- The walk of hosts.Parse where no bracket stands ahead. -/
import Derived.Test.YthlnkoblpmjahaaGreatDoorHParse
import Derived.LoopN
import Derived.Laws.EntriesVeiled
set_option linter.unusedVariables false
set_option linter.unusedSimpArgs false
set_option maxHeartbeats 16000000
namespace Go.Proofs.YthlnkoblpmjahaaGreatDoor
open Go.RowKit
attribute [local go_sem] ba_append
set_option maxRecDepth 100000 in
theorem step_0 (W:World):(Instr.index 162 (.agg #[.func (.func 151) #[] #[], .func (.func 152) #[] #[], .func (.func 153) #[] #[]]) (.int .i64 0)).run Tryz.prog W= .ok (.agg #[.func (.func 151) #[] #[]]) W:=rfl
set_option maxRecDepth 100000 in
theorem step_1 (W:World):(Instr.index 162 (.agg #[.func (.func 151) #[] #[], .func (.func 152) #[] #[], .func (.func 153) #[] #[]]) (.int .i64 1)).run Tryz.prog W= .ok (.agg #[.func (.func 152) #[] #[]]) W:=rfl
set_option maxRecDepth 100000 in
theorem step_2 (W:World):(Instr.index 162 (.agg #[.func (.func 151) #[] #[], .func (.func 152) #[] #[], .func (.func 153) #[] #[]]) (.int .i64 2)).run Tryz.prog W= .ok (.agg #[.func (.func 153) #[] #[]]) W:=rfl
set_option maxRecDepth 100000 in
theorem hparse_out (s:List UInt8) (w:World) (hE:EnvH w) (hs:s.length≤4100) (h0:s.head?≠some 91):
 Calls Tryz.prog 101 #[.string ⟨s.toArray⟩] w fun e w'=>e= .returned (optV (hostL s))∧Below w.heap.size w w':=by
 have hb:openB s=false:=by unfold openB;exact beq_eq_false_iff_ne.2 h0
 have HR:Hid (hostL s=match nameL s with|none=>none|some x=>if cleanL x=false then none else fourT x):=by show _=_;unfold hostL;rw[if_neg h0];rfl
 have cp:=cut_open s
 rw[hb,if_neg (by simp)]at cp
 have cl:=fun W (hW:Below w.heap.size w W)=>hlabs_any s W (hE.t.below hW) hs
 have hbw:=Below.refl w.heap.size w
 have i0:=step_0
 have i1:=step_1
 have i2:=step_2
 clear h0 hb
 cases hn:nameL s with
 |none=>
  have HI:Hid (hostL s=none):=by show _=_;rw[HR.out,hn]
  rw[hn]at cl;unfold optV at cl;simp only at cl;clear HR hn;go_enter Tryz.func101,Tryz.ntmps101;go_wp2_with(go_at_call 57;refine(cp _).mono ?_;rintro e w1 ⟨rfl,rfl⟩);refine wp_loop_rounds 4 ?_;rw[rounds_succ];go_wp2_with fail;go_at_call 151;refine(cl _ (hbw.alloc hbw.size _)).mono ?_;rintro e w2 ⟨rfl,hb2⟩;have hbn:Below w.heap.size w (w.alloc (.cells #[.func (.func 151) #[] #[]] 161)):=hbw.alloc hbw.size _;have hb3:=hbn.trans (hb2.mono hbn.size);clear hb2 hbn;go_wp2_with fail;go_ret2;exact⟨by rw[HI.out];rfl,hb3⟩
 |some x=>
  have hxl:=nameL_le hn;have hxl2:x.length≤300000:=by omega
  have cc:=fun W=>clean_any x W (by omega)
  have cf:=fun W (hW:Below w.heap.size w W)=>hfour_any x W (hE.below hW) (by omega)
  have HJ:Hid (hostL s=if cleanL x=false then none else fourT x):=by show _=_;rw[HR.out,hn]
  rw[hn]at cl;unfold optV at cl cc;simp only at cl cc;clear HR hn hxl
  cases hcl:cleanL x with
  |false=>
   have HI:Hid (hostL s=none):=by show _=_;rw[HJ.out,hcl];rfl
   have hco:cleanO x=none:=by unfold cleanO;rw[hcl];rfl
   rw[hco]at cc;simp only at cc;clear hcl hco HJ cf;go_enter Tryz.func101,Tryz.ntmps101;go_wp2_with(go_at_call 57;refine(cp _).mono ?_;rintro e w1 ⟨rfl,rfl⟩);refine wp_loop_rounds 4 ?_;rw[rounds_succ];go_wp2_with fail;go_at_call 151;refine(cl _ (hbw.alloc hbw.size _)).mono ?_;rintro e w2 ⟨rfl,hb2⟩;have hbn:Below w.heap.size w (w.alloc (.cells #[.func (.func 151) #[] #[]] 161)):=hbw.alloc hbw.size _;have hb3:=hbn.trans (hb2.mono hbn.size);clear hb2 hbn;go_wp2_with fail;rw[rounds_succ];go_wp2_with fail;go_at_call 152;refine(cc _).mono ?_;rintro e w3 ⟨rfl,rfl⟩;have hb4:Below w.heap.size w (w2.alloc (.cells #[.func (.func 152) #[] #[]] 161)):=hb3.alloc hb3.size _;go_wp2_with fail;go_ret2;exact⟨by rw[HI.out];rfl,hb4⟩
  |true=>
   have HI:Hid (hostL s=fourT x):=by show _=_;rw[HJ.out,hcl];rfl
   have hco:cleanO x=some x:=by unfold cleanO;rw[hcl];rfl
   rw[hco]at cc;simp only at cc;clear hcl hco HJ;unfold four_V at cf;have e1:(fourL x).2.1≠0→fourT x=none:=fourT_ne;have e2:(fourL x).2.1=0→∃y,fourT x=some y:=fun h=>by
    cases h1:(fourL x).1 with
    |true=>exact⟨_,fourT_yes h h1⟩
    |false=>exact⟨_,fourT_no h h1⟩
   generalize (fourL x).2.1=er at*;generalize fourT x=ft at*;by_cases he:er=0
   ·obtain⟨y,rfl⟩:=e2 he
    subst he;simp only[Option.getD_some]at cf;change ∀W,Below w.heap.size w W→Calls Tryz.prog 153 #[.string ⟨x.toArray⟩] W fun e w'=>e= .returned (.tuple #[.string ⟨y.toArray⟩, .int .i64 0])∧Below W.heap.size W w' at cf
    clear e1 e2;go_enter Tryz.func101,Tryz.ntmps101;go_wp2_with(go_at_call 57;refine(cp _).mono ?_;rintro e w1 ⟨rfl,rfl⟩);refine wp_loop_rounds 4 ?_;rw[rounds_succ];go_wp2_with fail;go_at_call 151;refine(cl _ (hbw.alloc hbw.size _)).mono ?_;rintro e w2 ⟨rfl,hb2⟩;have hbn:Below w.heap.size w (w.alloc (.cells #[.func (.func 151) #[] #[]] 161)):=hbw.alloc hbw.size _;have hb3:=hbn.trans (hb2.mono hbn.size);clear hb2 hbn;go_wp2_with fail;rw[rounds_succ];go_wp2_with fail;go_at_call 152;refine(cc _).mono ?_;rintro e w3 ⟨rfl,rfl⟩;have hb4:Below w.heap.size w (w2.alloc (.cells #[.func (.func 152) #[] #[]] 161)):=hb3.alloc hb3.size _;generalize w2.alloc (.cells #[.func (.func 152) #[] #[]] 161)=w4 at*;go_wp2_with fail;rw[rounds_succ];go_wp2_with fail;go_at_call 153;refine(cf _ (hb4.alloc hb4.size _)).mono ?_;rintro e w5 ⟨rfl,hb6⟩;have hbn:Below w.heap.size w (w4.alloc (.cells #[.func (.func 153) #[] #[]] 161)):=hb4.alloc hb4.size _;have hb5:=hbn.trans (hb6.mono hbn.size);clear hb6 hbn;go_wp2_with fail;rw[rounds_succ];go_wp2_with fail;go_ret2;exact⟨by rw[HI.out];rfl,hb5⟩
   ·have hei:((er:Int) !=0)=true:=by simp;omega
    have hei2:¬(er:Int)=0:=by omega
    obtain rfl:=e1 he;simp only[Option.getD_none]at cf;clear e1 e2 he;go_enter Tryz.func101,Tryz.ntmps101;go_wp2_with(go_at_call 57;refine(cp _).mono ?_;rintro e w1 ⟨rfl,rfl⟩);refine wp_loop_rounds 4 ?_;rw[rounds_succ];go_wp2_with fail;go_at_call 151;refine(cl _ (hbw.alloc hbw.size _)).mono ?_;rintro e w2 ⟨rfl,hb2⟩;have hbn:Below w.heap.size w (w.alloc (.cells #[.func (.func 151) #[] #[]] 161)):=hbw.alloc hbw.size _;have hb3:=hbn.trans (hb2.mono hbn.size);clear hb2 hbn;go_wp2_with fail;rw[rounds_succ];go_wp2_with fail;go_at_call 152;refine(cc _).mono ?_;rintro e w3 ⟨rfl,rfl⟩;have hb4:Below w.heap.size w (w2.alloc (.cells #[.func (.func 152) #[] #[]] 161)):=hb3.alloc hb3.size _;generalize w2.alloc (.cells #[.func (.func 152) #[] #[]] 161)=w4 at*;go_wp2_with fail;rw[rounds_succ];go_wp2_with fail;go_at_call 153;refine(cf _ (hb4.alloc hb4.size _)).mono ?_;rintro e w5 ⟨rfl,hb6⟩;have hbn:Below w.heap.size w (w4.alloc (.cells #[.func (.func 153) #[] #[]] 161)):=hb4.alloc hb4.size _;have hb5:=hbn.trans (hb6.mono hbn.size);clear hb6 hbn;go_wp2_with fail;go_ret2;exact⟨by rw[HI.out];rfl,hb5⟩
theorem hparse_any (s:List UInt8) (w:World) (hE:EnvH w) (hs:s.length≤4100):
 Calls Tryz.prog 101 #[.string ⟨s.toArray⟩] w fun e w'=>e= .returned (optV (hostL s))∧Below w.heap.size w w':=by
 by_cases h:s.head?=some 91
 ·exact hparse_in s w hE (by omega) h
 ·exact hparse_out s w hE hs h
end Go.Proofs.YthlnkoblpmjahaaGreatDoor
