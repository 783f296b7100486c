/- The walk of hosts.Parse. -/
import Derived.Test.YtjkipdoebkhkaaaGreatDoorSix
import Derived.Laws.EntriesVeiled
set_option linter.unusedVariables false
set_option linter.unusedSimpArgs false
set_option maxHeartbeats 16000000
namespace Go.Proofs.YtjkipdoebkhkaaaGreatDoor
open Go.RowKit
attribute [local go_sem] ba_append
def openB (s:List UInt8):Bool:=s.head?==some 91
def shutB (s:List UInt8):Bool:=s.getLast?==some 93
theorem cut_open (s:List UInt8) (w:World):
 Calls Tryz.prog 143 #[.string ⟨s.toArray⟩, .string ⟨#[91]⟩] w fun e w'=>e= .returned (.tuple #[.string ⟨(if openB s then s.tail else s).toArray⟩, .bool (openB s)])∧w=w':=by
 refine(Tryz.strings_CutPrefix ⟨s.toArray⟩ ⟨#[91]⟩ w).mono ?_
 rintro e w' ⟨rfl,rfl⟩
 have hp:Lib.hasPrefix s [91]=openB s:=by
  unfold Lib.hasPrefix openB
  cases s with
  |nil=>rfl
  |cons x s=>
   simp only[List.isPrefixOf,Bool.and_true,List.head?_cons];rw[Bool.eq_iff_iff,beq_iff_eq,beq_iff_eq];exact⟨fun h=>by rw[h],fun h=>(Option.some.inj h).symm⟩
 refine⟨?_,rfl⟩
 simp only[Lib.trimPrefix,hp]
 have:s.drop 1=s.tail:=by cases s<;>rfl
 rw[←this]
 rfl
theorem cut_shut (s:List UInt8) (w:World) (hs:s.length≤9223372036854775807):
 Calls Tryz.prog 173 #[.string ⟨s.toArray⟩, .string ⟨#[93]⟩] w fun e w'=>e= .returned (.tuple #[.string ⟨(if shutB s then s.dropLast else s).toArray⟩, .bool (shutB s)])∧w=w':=by
 refine(Tryz.strings_CutSuffix ⟨s.toArray⟩ ⟨#[93]⟩ w hs).mono ?_
 rintro e w' ⟨rfl,rfl⟩
 have hp:Lib.hasSuffix s [93]=shutB s:=by
  unfold Lib.hasSuffix shutB;rw[Bool.eq_iff_iff,List.isSuffixOf_iff_suffix,beq_iff_eq,List.getLast?_eq_some_iff];exact⟨fun ⟨t,h⟩=>⟨t,h.symm⟩,fun ⟨t,h⟩=>⟨t,h.symm⟩⟩
 refine⟨?_,rfl⟩
 simp only[Lib.trimSuffix,hp]
 rw[List.dropLast_eq_take]
 rfl
theorem labelsM_le:∀ {l r:List (List UInt8)},labelsM l=some r→r.length=l.length∧∀p∈r,p.length≤63
 |[],r,h=>by simp[labelsM]at h;subst h;simp
 |x::l,r,h=>by
  rw[labelsM_cons]at h;split at h
  ·cases h
  ·cases hl:labelsM l with
   |none=>rw[hl]at h;cases h
   |some q=>
    rw[hl]at h;injection h with h;subst h;obtain⟨h1,h2⟩:=labelsM_le hl;exact⟨by simp[h1],fun p hp=>by
     rcases List.mem_cons.1 hp with rfl|hp
     ·exact labelL_le
     ·exact h2 p hp⟩
theorem nameL_le {s x:List UInt8} (h:nameL s=some x):x.length≤64*(s.length+1):=by
 unfold nameL at h
 cases hl:labelsM (cutLast (partsL 46 (pctL s)))with
 |none=>rw[hl]at h;cases h
 |some r=>
  rw[hl]at h;injection h with h;subst h;obtain⟨h1,h2⟩:=labelsM_le hl;have h3:=joinL_le 46 h2;have h4:=(partsL_le 46 (pctL s)).2;have h5:=pctL_le s;have h6:(cutLast (partsL 46 (pctL s))).length≤(partsL 46 (pctL s)).length:=by unfold cutLast;split<;>simp
  omega
theorem sixL_len {s b:List UInt8} (h:sixL s=some b):b.length=16:=by
 unfold sixL at h;split at h
 ·split at h
  ·split at h
   ·injection h with h;subst h;assumption
   ·cases h
  ·cases h
 ·split at h
  ·cases h
  ·split at h
   ·cases h
   ·split at h
    ·cases h
    ·injection h with h;subst h;simp;omega
theorem text6_le (b:List UInt8) (hb:b.length=16):(text6 (pairsN b)).length≤1000:=by
 have hl:=pairsN_len (b:=b) (n:=8) (by omega);have hle:∀l:List Nat,(∀q∈l.map hex4,q.length≤21):=fun l q hq=>by obtain⟨c,_,rfl⟩:=List.mem_map.1 hq;exact hex4_le _
 unfold text6;simp only;split
 ·have:=joinL_le 58 (hle (pairsN b));simp at this;omega
 ·have h1:=joinL_le 58 (hle ((pairsN b).take (longR ((pairsN b).map (·==0))).1))
  have h2:=joinL_le 58 (hle ((pairsN b).drop ((longR ((pairsN b).map (·==0))).1+(longR ((pairsN b).map (·==0))).2)));simp at h1 h2⊢;omega
set_option maxRecDepth 100000 in
theorem hparse_in (s:List UInt8) (w:World) (hE:EnvH w) (hs:s.length≤65536) (h0:s.head?=some 91):
 Calls Tryz.prog 121 #[.string ⟨s.toArray⟩] w fun e w'=>e= .returned (optV (hostL s))∧Below w.heap.size w w':=by
 have hb:openB s=true:=by unfold openB;rw[h0];rfl
 have HR:Hid (hostL s=inL s.tail):=by show _=_;unfold hostL;rw[if_pos h0]
 have cp:=cut_open s
 rw[hb,if_pos rfl]at cp
 have htl:s.tail.length≤65536:=by simp;omega
 have cs:=fun W=>cut_shut s.tail W (by omega)
 clear h0 hb
 generalize s.tail=t at*
 cases hsh:shutB t with
 |false=>
  rw[hsh,if_neg (by simp)]at cs;have HI:Hid (hostL s=none):=by
   show _=_;rw[HR.out];unfold inL;rw[if_neg];intro h;unfold shutB at hsh;rw[h]at hsh;cases hsh
  have c6:=six_any t w hE (by omega);clear HR hsh
  cases h6:sixL t with
  |none=>
   rw[h6]at c6;unfold sixV at c6;simp only at c6;clear h6;have hi:(Tryz.prog.info? 132).map (·.size)=some zeroA.size:=by kernel_rfl
   have hz:zeroA.size=zeroA.size:=rfl;have h1:zeroA.all (·.oneCell')=true:=by decide+kernel
   go_enter Tryz.func121,Tryz.ntmps121;go_wp2_with(first|(go_at_call 143;refine(cp _).mono ?_;rintro e w1 ⟨rfl,rfl⟩)|(go_at_call 173;refine(cs _).mono ?_;rintro e w1 ⟨rfl,rfl⟩));go_at_call 174;refine c6.mono ?_;rintro e w1 ⟨rfl,hb1⟩;have hb2:Below w.heap.size w (w1.alloc (.cells zeroA 132)):=hb1.alloc hb1.size _;go_wp2_with(refine wpList_store_row (o:=⟨none, .store 132 (.tmp 8) (.tmp 31),_,_,_,_⟩) rfl 132 (.tmp 8) _ rfl w1.heap.size zeroA rfl rfl 132 zeroA (heap_alloc_new w1 _) hi hz h1 ?_);go_ret2;exact⟨by rw[HI.out];rfl,hb2⟩
  |some b=>
   rw[h6]at c6;unfold sixV at c6;simp only at c6;have hB:=sixL_len h6;have hi:=adC_info true hB;have hz:=zeroA_size true hB;have h1:=adC_one true b;clear h6;go_enter Tryz.func121,Tryz.ntmps121;go_wp2_with(first|(go_at_call 143;refine(cp _).mono ?_;rintro e w1 ⟨rfl,rfl⟩)|(go_at_call 173;refine(cs _).mono ?_;rintro e w1 ⟨rfl,rfl⟩));go_at_call 174;refine c6.mono ?_;rintro e w1 ⟨rfl,hb1⟩;have hb2:Below w.heap.size w ((w1.alloc (.cells zeroA 132)).setRow w1.heap.size (adC true b)):=below_row (hb1.alloc hb1.size _) hb1.size _;go_wp2_with(refine wpList_store_row (o:=⟨none, .store 132 (.tmp 8) (.tmp 31),_,_,_,_⟩) rfl 132 (.tmp 8) _ rfl w1.heap.size (adC true b) rfl rfl 132 zeroA (heap_alloc_new w1 _) hi hz h1 ?_);go_ret2;exact⟨by rw[HI.out];rfl,hb2⟩
 |true=>
  rw[hsh,if_pos rfl]at cs;have hdl:t.dropLast.length≤65536:=by simp;omega
  have c6:=six_any t.dropLast w hE (by omega);have HJ:Hid (hostL s=match sixL t.dropLast with|none=>none|some b=>some (91::text6 (pairsN b)++[93])):=by
   show _=_;unfold shutB at hsh;rw[HR.out];unfold inL;rw[if_pos (beq_iff_eq.1 hsh)];rfl
  clear HR hsh;generalize t.dropLast=u at*
  cases h6:sixL u with
  |none=>
   have HI:Hid (hostL s=none):=by show _=_;rw[HJ.out,h6]
   rw[h6]at c6;unfold sixV at c6;simp only at c6;clear h6 HJ;have hi:(Tryz.prog.info? 132).map (·.size)=some zeroA.size:=by kernel_rfl
   have hz:zeroA.size=zeroA.size:=rfl;have h1:zeroA.all (·.oneCell')=true:=by decide+kernel
   go_enter Tryz.func121,Tryz.ntmps121;go_wp2_with(first|(go_at_call 143;refine(cp _).mono ?_;rintro e w1 ⟨rfl,rfl⟩)|(go_at_call 173;refine(cs _).mono ?_;rintro e w1 ⟨rfl,rfl⟩));go_at_call 174;refine c6.mono ?_;rintro e w1 ⟨rfl,hb1⟩;have hb2:Below w.heap.size w (w1.alloc (.cells zeroA 132)):=hb1.alloc hb1.size _;go_wp2_with(refine wpList_store_row (o:=⟨none, .store 132 (.tmp 8) (.tmp 31),_,_,_,_⟩) rfl 132 (.tmp 8) _ rfl w1.heap.size zeroA rfl rfl 132 zeroA (heap_alloc_new w1 _) hi hz h1 ?_);go_ret2;exact⟨by rw[HI.out];rfl,hb2⟩
  |some b=>
   have HI:Hid (hostL s=some (91::text6 (pairsN b)++[93])):=by show _=_;rw[HJ.out,h6]
   rw[h6]at c6;unfold sixV at c6;simp only at c6;have hB:=sixL_len h6;have hi:=adC_info true hB;have hz:=zeroA_size true hB;have h1:=adC_one true b;have ct:=fun W (hd:Deb16 W)=>text_six b hB W hd
   have htl6:=text6_le b hB;clear h6 HJ;generalize text6 (pairsN b)=T at*;go_enter Tryz.func121,Tryz.ntmps121;go_wp2_with(first|(go_at_call 143;refine(cp _).mono ?_;rintro e w1 ⟨rfl,rfl⟩)|(go_at_call 173;refine(cs _).mono ?_;rintro e w1 ⟨rfl,rfl⟩));go_at_call 174;refine c6.mono ?_;rintro e w1 ⟨rfl,hb1⟩;have hh:((w1.alloc (.cells zeroA 132)).setRow w1.heap.size (adC true b)).heap[w1.heap.size]?=some (.cells (adC true b) 132 (0,0)):=setRow_heap _ _ _ _ _ _ (heap_alloc_new w1 _);have hb2:Below w.heap.size w ((w1.alloc (.cells zeroA 132)).setRow w1.heap.size (adC true b)):=below_row (hb1.alloc hb1.size _) hb1.size _;have ct2:=ct _ (hE.deb.below hb2);go_wp2_with(first|(refine wpList_store_row (o:=⟨none, .store 132 (.tmp 8) (.tmp 31),_,_,_,_⟩) rfl 132 (.tmp 8) _ rfl w1.heap.size (adC true b) rfl rfl 132 zeroA (heap_alloc_new w1 _) hi hz h1 ?_)|(refine wpList_load_row (o:=⟨some 39, .load 132 (.tmp 8),_,_,_,_⟩) rfl 132 (.tmp 8) rfl w1.heap.size rfl 132 (adC true b) (0,0) _ hh Tryz.underlying132 rfl hi ?_)|(go_at_call 175;refine ct2.mono ?_;rintro e w3 ⟨rfl,hb3⟩));go_ret2;exact⟨by rw[HI.out];simp[optV],hb2.trans (hb3.mono hb2.size)⟩
end Go.Proofs.YtjkipdoebkhkaaaGreatDoor
namespace Go.Proofs.YtjkipdoebkhkaaaGreatDoor
open Go.RowKit
attribute [local go_sem] ba_append
set_option maxRecDepth 100000 in
theorem step_0 (W:World):(Instr.index 220 (.agg #[.func (.func 176) #[] #[], .func (.func 177) #[] #[], .func (.func 178) #[] #[]]) (.int .i64 0)).run Tryz.prog W= .ok (.agg #[.func (.func 176) #[] #[]]) W:=rfl
set_option maxRecDepth 100000 in
theorem step_1 (W:World):(Instr.index 220 (.agg #[.func (.func 176) #[] #[], .func (.func 177) #[] #[], .func (.func 178) #[] #[]]) (.int .i64 1)).run Tryz.prog W= .ok (.agg #[.func (.func 177) #[] #[]]) W:=rfl
set_option maxRecDepth 100000 in
theorem step_2 (W:World):(Instr.index 220 (.agg #[.func (.func 176) #[] #[], .func (.func 177) #[] #[], .func (.func 178) #[] #[]]) (.int .i64 2)).run Tryz.prog W= .ok (.agg #[.func (.func 178) #[] #[]]) W:=rfl
set_option maxRecDepth 100000 in
theorem hparse_out (s:List UInt8) (w:World) (hE:EnvH w) (hs:s.length≤65536) (h0:s.head?≠some 91):
 Calls Tryz.prog 121 #[.string ⟨s.toArray⟩] w fun e w'=>e= .returned (optV (hostL s))∧Below w.heap.size w w':=by
 have hb:openB s=false:=by unfold openB;exact beq_eq_false_iff_ne.2 h0
 have HR:Hid (hostL s=match nameL s with|none=>none|some x=>if cleanL x=false then none else fourT x):=by show _=_;unfold hostL;rw[if_neg h0];rfl
 have cp:=cut_open s
 rw[hb,if_neg (by simp)]at cp
 have cl:=fun W (hW:Below w.heap.size w W)=>hlabs_any s W (hE.t.below hW) hs
 have hbw:=Below.refl w.heap.size w
 have i0:=step_0
 have i1:=step_1
 have i2:=step_2
 clear h0 hb
 cases hn:nameL s with
 |none=>
  have HI:Hid (hostL s=none):=by show _=_;rw[HR.out,hn]
  rw[hn]at cl;unfold optV at cl;simp only at cl;clear HR hn;go_enter Tryz.func121,Tryz.ntmps121;go_wp2_with(go_at_call 143;refine(cp _).mono ?_;rintro e w1 ⟨rfl,rfl⟩);refine wp_loop_rounds 4 ?_;rw[rounds_succ];go_wp2_with fail;go_at_call 176;refine(cl _ (hbw.alloc hbw.size _)).mono ?_;rintro e w2 ⟨rfl,hb2⟩;have hbn:Below w.heap.size w (w.alloc (.cells #[.func (.func 176) #[] #[]] 219)):=hbw.alloc hbw.size _;have hb3:=hbn.trans (hb2.mono hbn.size);clear hb2 hbn;go_wp2_with fail;go_ret2;exact⟨by rw[HI.out];rfl,hb3⟩
 |some x=>
  have hxl:=nameL_le hn;have hxl2:x.length≤4300000:=by omega
  have cc:=fun W=>clean_any x W (by omega)
  have cf:=fun W (hW:Below w.heap.size w W)=>hfour_any x W (hE.below hW) (by omega)
  have HJ:Hid (hostL s=if cleanL x=false then none else fourT x):=by show _=_;rw[HR.out,hn]
  rw[hn]at cl;unfold optV at cl cc;simp only at cl cc;clear HR hn hxl
  cases hcl:cleanL x with
  |false=>
   have HI:Hid (hostL s=none):=by show _=_;rw[HJ.out,hcl];rfl
   have hco:cleanO x=none:=by unfold cleanO;rw[hcl];rfl
   rw[hco]at cc;simp only at cc;clear hcl hco HJ cf;go_enter Tryz.func121,Tryz.ntmps121;go_wp2_with(go_at_call 143;refine(cp _).mono ?_;rintro e w1 ⟨rfl,rfl⟩);refine wp_loop_rounds 4 ?_;rw[rounds_succ];go_wp2_with fail;go_at_call 176;refine(cl _ (hbw.alloc hbw.size _)).mono ?_;rintro e w2 ⟨rfl,hb2⟩;have hbn:Below w.heap.size w (w.alloc (.cells #[.func (.func 176) #[] #[]] 219)):=hbw.alloc hbw.size _;have hb3:=hbn.trans (hb2.mono hbn.size);clear hb2 hbn;go_wp2_with fail;rw[rounds_succ];go_wp2_with fail;go_at_call 177;refine(cc _).mono ?_;rintro e w3 ⟨rfl,rfl⟩;have hb4:Below w.heap.size w (w2.alloc (.cells #[.func (.func 177) #[] #[]] 219)):=hb3.alloc hb3.size _;go_wp2_with fail;go_ret2;exact⟨by rw[HI.out];rfl,hb4⟩
  |true=>
   have HI:Hid (hostL s=fourT x):=by show _=_;rw[HJ.out,hcl];rfl
   have hco:cleanO x=some x:=by unfold cleanO;rw[hcl];rfl
   rw[hco]at cc;simp only at cc;clear hcl hco HJ;unfold four_V at cf;have e1:(fourL x).2.1≠0→fourT x=none:=fourT_ne;have e2:(fourL x).2.1=0→∃y,fourT x=some y:=fun h=>by
    cases h1:(fourL x).1 with
    |true=>exact⟨_,fourT_yes h h1⟩
    |false=>exact⟨_,fourT_no h h1⟩
   generalize (fourL x).2.1=er at*;generalize fourT x=ft at*;by_cases he:er=0
   ·obtain⟨y,rfl⟩:=e2 he
    subst he;simp only[Option.getD_some]at cf;change ∀W,Below w.heap.size w W→Calls Tryz.prog 178 #[.string ⟨x.toArray⟩] W fun e w'=>e= .returned (.tuple #[.string ⟨y.toArray⟩, .int .i64 0])∧Below W.heap.size W w' at cf
    clear e1 e2;go_enter Tryz.func121,Tryz.ntmps121;go_wp2_with(go_at_call 143;refine(cp _).mono ?_;rintro e w1 ⟨rfl,rfl⟩);refine wp_loop_rounds 4 ?_;rw[rounds_succ];go_wp2_with fail;go_at_call 176;refine(cl _ (hbw.alloc hbw.size _)).mono ?_;rintro e w2 ⟨rfl,hb2⟩;have hbn:Below w.heap.size w (w.alloc (.cells #[.func (.func 176) #[] #[]] 219)):=hbw.alloc hbw.size _;have hb3:=hbn.trans (hb2.mono hbn.size);clear hb2 hbn;go_wp2_with fail;rw[rounds_succ];go_wp2_with fail;go_at_call 177;refine(cc _).mono ?_;rintro e w3 ⟨rfl,rfl⟩;have hb4:Below w.heap.size w (w2.alloc (.cells #[.func (.func 177) #[] #[]] 219)):=hb3.alloc hb3.size _;generalize w2.alloc (.cells #[.func (.func 177) #[] #[]] 219)=w4 at*;go_wp2_with fail;rw[rounds_succ];go_wp2_with fail;go_at_call 178;refine(cf _ (hb4.alloc hb4.size _)).mono ?_;rintro e w5 ⟨rfl,hb6⟩;have hbn:Below w.heap.size w (w4.alloc (.cells #[.func (.func 178) #[] #[]] 219)):=hb4.alloc hb4.size _;have hb5:=hbn.trans (hb6.mono hbn.size);clear hb6 hbn;go_wp2_with fail;rw[rounds_succ];go_wp2_with fail;go_ret2;exact⟨by rw[HI.out];rfl,hb5⟩
   ·have hei:((er:Int) !=0)=true:=by simp;omega
    have hei2:¬(er:Int)=0:=by omega
    obtain rfl:=e1 he;simp only[Option.getD_none]at cf;clear e1 e2 he;go_enter Tryz.func121,Tryz.ntmps121;go_wp2_with(go_at_call 143;refine(cp _).mono ?_;rintro e w1 ⟨rfl,rfl⟩);refine wp_loop_rounds 4 ?_;rw[rounds_succ];go_wp2_with fail;go_at_call 176;refine(cl _ (hbw.alloc hbw.size _)).mono ?_;rintro e w2 ⟨rfl,hb2⟩;have hbn:Below w.heap.size w (w.alloc (.cells #[.func (.func 176) #[] #[]] 219)):=hbw.alloc hbw.size _;have hb3:=hbn.trans (hb2.mono hbn.size);clear hb2 hbn;go_wp2_with fail;rw[rounds_succ];go_wp2_with fail;go_at_call 177;refine(cc _).mono ?_;rintro e w3 ⟨rfl,rfl⟩;have hb4:Below w.heap.size w (w2.alloc (.cells #[.func (.func 177) #[] #[]] 219)):=hb3.alloc hb3.size _;generalize w2.alloc (.cells #[.func (.func 177) #[] #[]] 219)=w4 at*;go_wp2_with fail;rw[rounds_succ];go_wp2_with fail;go_at_call 178;refine(cf _ (hb4.alloc hb4.size _)).mono ?_;rintro e w5 ⟨rfl,hb6⟩;have hbn:Below w.heap.size w (w4.alloc (.cells #[.func (.func 178) #[] #[]] 219)):=hb4.alloc hb4.size _;have hb5:=hbn.trans (hb6.mono hbn.size);clear hb6 hbn;go_wp2_with fail;go_ret2;exact⟨by rw[HI.out];rfl,hb5⟩
theorem hparse_any (s:List UInt8) (w:World) (hE:EnvH w) (hs:s.length≤65536):
 Calls Tryz.prog 121 #[.string ⟨s.toArray⟩] w fun e w'=>e= .returned (optV (hostL s))∧Below w.heap.size w w':=by
 by_cases h:s.head?=some 91
 ·exact hparse_in s w hE (by omega) h
 ·exact hparse_out s w hE hs h
set_option maxRecDepth 100000 in
theorem hparse_long (s:List UInt8) (w:World) (hs:65536<s.length):
 Calls Tryz.prog 121 #[.string ⟨s.toArray⟩] w fun e w'=>e= .returned (.tuple #[.string ⟨#[]⟩, .int .i64 3])∧w=w':=by
 have hsi:(65536:Int)<(s.length:Int):=by omega
 go_enter Tryz.func121,Tryz.ntmps121
 go_wp2_with fail
 go_ret2
 exact⟨rfl,rfl⟩
end Go.Proofs.YtjkipdoebkhkaaaGreatDoor
