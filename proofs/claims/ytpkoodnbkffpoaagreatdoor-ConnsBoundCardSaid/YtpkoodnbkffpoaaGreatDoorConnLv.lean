/- Connections beside a place's block: each call keeps it. -/
import Derived.Test.YtpkoodnbkffpoaaGreatDoorConnAl
set_option linter.unusedVariables false
set_option linter.unusedSimpArgs false
set_option maxHeartbeats 16000000
namespace Go.Proofs.YtpkoodnbkffpoaaGreatDoor
open Go.RowKit
theorem addr_add0 (a:Addr):a.add 0=a:=by unfold Addr.add;split<;>simp_all
theorem Turn.keep {B:Nat} {v v':Value} {a b:World} (h:Turn B v a b v') {kb:Nat} {o:Obj} (hk:a.heap[kb]?=some o) (hne:kb≠B) (hown:v.ownBlock≠some kb):b.heap[kb]?=some o∧v'.ownBlock≠some kb:=by
 have hl:=(Array.getElem?_eq_some_iff.1 hk).1;refine⟨(h.block kb hl hne hown).trans hk,fun e=> ?_⟩;rcases h.own kb e with h1|h1
 ·exact hown h1
 ·omega
structure LvAt (w0:World) (B kb:Nat) (W:World) (v:Value) (S:ConnsL):Prop where
 c:ConnsAt W B v S
 k:W.heap[kb]?=some (.cells (keyA_ keyA) 28 (0,0))
 ne:kb≠B
 own:v.ownBlock≠some kb
 lo:w0.heap.size≤B
 b:Below w0.heap.size w0 W
theorem LvAt.turn {w0 W W':World} {B kb:Nat} {v v':Value} {S S':ConnsL} (h:LvAt w0 B kb W v S) (hc:ConnsAt W' B v' S') (ht:Turn B v W W' v'):LvAt w0 B kb W' v' S':=by
 obtain⟨h1,h2⟩:=ht.keep h.k h.ne h.own;have hlo:=h.lo;exact⟨hc,h1,h.ne,h2,hlo,h.b.trans (ht.to hlo h.b.size (fun k hk=>by have:=(h.c.own k hk).1;omega))⟩
theorem LvAt.below {w0 W W':World} {B kb:Nat} {v:Value} {S:ConnsL} (h:LvAt w0 B kb W v S) (hb:Below W.heap.size W W'):LvAt w0 B kb W' v S:=h.turn (h.c.below hb) (Turn.of hb)
theorem LvAt.cells {w0 W:World} {B kb:Nat} {v:Value} {S:ConnsL} (h:LvAt w0 B kb W v S):W.cell? ⟨kb,0,none⟩=some (.bool true)∧W.cell? ⟨kb,1,none⟩=some (.string ⟨#[97,46,116,101,115,116]⟩)∧W.cell? ⟨kb,2,none⟩=some (.int .i64 443):=
 ⟨by rw[Lib.cell_of_heap h.k];rfl,by rw[Lib.cell_of_heap h.k];rfl,by rw[Lib.cell_of_heap h.k];rfl⟩
theorem lv_take {w0 W:World} {B kb:Nat} {v:Value} {S:ConnsL} (hE:EnvH w0) (h:LvAt w0 B kb W v S) (now:Int) (hl:S.l.length≤1000) (hn:S.next≤1000000) (hg:∀x∈S.l,x.given≤1000000) (h0:0≤now) (h1:now≤1000000):
 Calls Tryz.prog 10 #[.pointer (some ⟨B,0,none⟩),keyVal keyA, .int .i64 now] W fun e W'=>e= .returned (takeV (takeR S keyA now).1)∧∃v',LvAt w0 B kb W' v' (takeR S keyA now).2:=by
 refine(ctake_any S B v keyA now W h.c hl hn hg h0 h1 (by decide) (by decide) (parse_ok 0 (by omega) W (hE.below h.b))).mono ?_
 rintro e W' ⟨he,v',hc,ht⟩
 exact⟨he,v',h.turn hc ht⟩
theorem lv_give {w0 W:World} {B kb:Nat} {v:Value} {S:ConnsL} (h:LvAt w0 B kb W v S) (n:Nat) (now:Int) (hs:Sorted S) (hl:S.l.length≤1000) (hf:foundL S.l n=true) (h0:0≤now) (h1:now≤1000000):
 Calls Tryz.prog 12 #[.pointer (some ⟨B,0,none⟩), .int .i64 n, .int .i64 now] W fun e W'=>e= .returned (.int .i64 (giveR S n now).1)∧LvAt w0 B kb W' v (giveR S n now).2:=by
 refine(give_any S hs B v n now W h.c hl hf h0 h1).mono ?_
 rintro e W' ⟨he,hc,ht⟩
 exact⟨he,h.turn hc ht⟩
theorem lv_old {w0 W:World} {B kb:Nat} {v:Value} {S:ConnsL} (h:LvAt w0 B kb W v S) (now:Int) (hl:S.l.length≤1000) (hg:∀x∈S.l,x.given≤1000000) (h0:0≤now) (h1:now≤1000000):
 Calls Tryz.prog 14 #[.pointer (some ⟨B,0,none⟩), .int .i64 now] W fun e W'=>(∃t,e= .returned t∧RowS 1 encI W' t (oldR S now).1)∧∃v',LvAt w0 B kb W' v' (oldR S now).2:=by
 refine(old_any S B v now W h.c hl hg h0 h1).mono ?_
 rintro e W' ⟨t,v',he,hr,hc,ht⟩
 exact⟨⟨t,he,hr⟩,v',h.turn hc ht⟩
theorem al_s1:Sorted al1:=⟨by simp[al1],by simp[al1]⟩
theorem al_s3:Sorted al3:=⟨by simp[al3],by simp[al3]⟩
theorem al_s6:Sorted al6:=⟨by simp[al6],by simp[al6]⟩
set_option maxRecDepth 100000 in
theorem lives19 (w:World) (hE:EnvH w):Calls Tryz.prog 7 #[] w fun e w'=>e= .returned (.bool true)∧Below w.heap.size w w':=by
 obtain⟨w1,hw1⟩:∃W,w.alloc (.cells #[.int .i64 1, .slice none 0 0, .int .i64 0] 69)=W:=⟨_,rfl⟩;obtain⟨w2,hw2⟩:∃W,w1.alloc (.cells (keyA_ keyA) 28)=W:=⟨_,rfl⟩;have hs1:w1.heap.size=w.heap.size+1:=by rw[←hw1,World.size_alloc]
 have hb1:Below w.heap.size w w1:=by rw[←hw1];exact below_alloc w _
 have hb2:Below w1.heap.size w1 w2:=by rw[←hw2];exact below_alloc w1 _
 have hB1:w1.heap[w.heap.size]?=some (.cells #[.int .i64 1, .slice none 0 0, .int .i64 0] 69 (0,0)):=by rw[←hw1];exact heap_alloc_new w _
 have hK:w2.heap[w.heap.size+1]?=some (.cells (keyA_ keyA) 28 (0,0)):=by rw[←hw2,←hs1];exact heap_alloc_new w1 _
 have hC1:ConnsAt w1 w.heap.size (.slice none 0 0) al0:=⟨hB1,rfl, .inl ⟨rfl,rfl⟩⟩;have L0:LvAt w w.heap.size (w.heap.size+1) w2 (.slice none 0 0) al0:=⟨hC1.below hb2,hK,by omega,by simp[Value.ownBlock],Nat.le_refl _,hb1.trans (hb2.mono hb1.size)⟩;have HL:=Lib.hid L0;have HW1:=Lib.hid hw1;have HW2:Hid (w1.alloc (.cells #[.bool true, .string ⟨#[97,46,116,101,115,116]⟩, .int .i64 443] 28)=w2):=hw2;have hcn:=new_any w;rw[hw1]at hcn;clear L0 hC1 hK hB1 hb2 hb1 hw1 hw2;go_enter Tryz.func7,Tryz.ntmps7;go_upto_region 3 with (go_at_call 8;refine hcn.mono ?_;rintro e w9 ⟨rfl,rfl⟩);rw[HW2.out];clear HW1 HW2 hcn hs1;obtain⟨k0,k1,k2⟩:=HL.out.cells;have hc:=lv_take hE HL.out 5 (by decide) (by decide) (by simp[al0]) (by omega) (by omega);rw[al_1]at hc;have HC1:Hid (Calls Tryz.prog 10 #[.pointer (some ⟨w.heap.size,0,none⟩), .agg #[.bool true, .string ⟨#[97,46,116,101,115,116]⟩, .int .i64 443], .int .i64 5] w2 fun e W'=>e= .returned (.tuple #[.int .i64 0, .bool true, .int .i64 0])∧∃v',LvAt w w.heap.size (w.heap.size+1) W' v' al1):=hc;clear hc HL;go_upto_region 4 with (go_at_call 10;refine HC1.out.mono ?_;rintro e x1 ⟨rfl,y1,hl1⟩);have HL:=Lib.hid hl1;clear hl1 HC1 k0 k1 k2;obtain⟨k0,k1,k2⟩:=HL.out.cells;have hc:=lv_give HL.out 0 6 al_s1 (by decide) (by rfl) (by omega) (by omega);rw[al_2]at hc;have HC2:Hid (Calls Tryz.prog 12 #[.pointer (some ⟨w.heap.size,0,none⟩), .int .i64 0, .int .i64 6] x1 fun e W'=>e= .returned (.int .i64 0)∧LvAt w w.heap.size (w.heap.size+1) W' y1 al2):=hc;clear hc HL;go_upto_region 5 with (go_at_call 12;refine HC2.out.mono ?_;rintro e x2 ⟨rfl,hl2⟩);have HL:=Lib.hid hl2;clear hl2 HC2 k0 k1 k2;obtain⟨k0,k1,k2⟩:=HL.out.cells;have hc:=lv_take hE HL.out 7 (by decide) (by decide) (by simp[al2]) (by omega) (by omega);rw[al_3]at hc;have HC3:Hid (Calls Tryz.prog 10 #[.pointer (some ⟨w.heap.size,0,none⟩), .agg #[.bool true, .string ⟨#[97,46,116,101,115,116]⟩, .int .i64 443], .int .i64 7] x2 fun e W'=>e= .returned (.tuple #[.int .i64 0, .bool false, .int .i64 0])∧∃v',LvAt w w.heap.size (w.heap.size+1) W' v' al1):=hc;clear hc HL;go_upto_region 6 with (go_at_call 10;refine HC3.out.mono ?_;rintro e x3 ⟨rfl,y3,hl3⟩);have HL:=Lib.hid hl3;clear hl3 HC3 k0 k1 k2;obtain⟨k0,k1,k2⟩:=HL.out.cells;have hc:=lv_take hE HL.out 7 (by decide) (by decide) (by simp[al1]) (by omega) (by omega);rw[al_4]at hc;have HC4:Hid (Calls Tryz.prog 10 #[.pointer (some ⟨w.heap.size,0,none⟩), .agg #[.bool true, .string ⟨#[97,46,116,101,115,116]⟩, .int .i64 443], .int .i64 7] x3 fun e W'=>e= .returned (.tuple #[.int .i64 1, .bool true, .int .i64 0])∧∃v',LvAt w w.heap.size (w.heap.size+1) W' v' al3):=hc;clear hc HL;go_upto_region 7 with (go_at_call 10;refine HC4.out.mono ?_;rintro e x4 ⟨rfl,y4,hl4⟩);have HL:=Lib.hid hl4;clear hl4 HC4 k0 k1 k2;obtain⟨k0,k1,k2⟩:=HL.out.cells;have hc:=lv_give HL.out 0 8 al_s3 (by decide) (by rfl) (by omega) (by omega);rw[al_5]at hc;have HC5:Hid (Calls Tryz.prog 12 #[.pointer (some ⟨w.heap.size,0,none⟩), .int .i64 0, .int .i64 8] x4 fun e W'=>e= .returned (.int .i64 0)∧LvAt w w.heap.size (w.heap.size+1) W' y4 al4):=hc;clear hc HL;go_upto_region 9 with (go_at_call 12;refine HC5.out.mono ?_;rintro e x5 ⟨rfl,hl5⟩);have HL:=Lib.hid hl5;clear hl5 HC5 k0 k1 k2;obtain⟨k0,k1,k2⟩:=HL.out.cells;have hc:=lv_take hE HL.out 309 (by decide) (by decide) (by simp[al4]) (by omega) (by omega);rw[al_6]at hc;have HC6:Hid (Calls Tryz.prog 10 #[.pointer (some ⟨w.heap.size,0,none⟩), .agg #[.bool true, .string ⟨#[97,46,116,101,115,116]⟩, .int .i64 443], .int .i64 309] x5 fun e W'=>e= .returned (.tuple #[.int .i64 2, .bool true, .int .i64 0])∧∃v',LvAt w w.heap.size (w.heap.size+1) W' v' al5):=hc;clear hc HL;go_upto_region 10 with (go_at_call 10;refine HC6.out.mono ?_;rintro e x6 ⟨rfl,y6,hl6⟩);have HL:=Lib.hid hl6;clear hl6 HC6 k0 k1 k2;obtain⟨k0,k1,k2⟩:=HL.out.cells;have hc:=lv_old HL.out 309 (by decide) (by simp[al5]) (by omega) (by omega);rw[al_7]at hc;have HC7:Hid (Calls Tryz.prog 14 #[.pointer (some ⟨w.heap.size,0,none⟩), .int .i64 309] x6 fun e W'=>(∃t,e= .returned t∧RowS 1 encI W' t [0])∧∃v',LvAt w w.heap.size (w.heap.size+1) W' v' al6):=hc;clear hc HL;go_upto_region 11 with (go_at_call 14;refine HC7.out.mono ?_;rintro e z7 ⟨⟨t,rfl,ht⟩,y7,hl7⟩);have HL:=Lib.hid hl7;clear hl7 HC7 k0 k1 k2;obtain⟨k0,k1,k2⟩:=HL.out.cells;have hone:∃a c,t= .slice (some a) 1 c∧z7.cell? (a.add 0)=some (.int .i64 0)∧a.block<z7.heap.size:=by
  rcases ht with ⟨_,h0⟩|⟨a,c,rfl,_,hb,hc⟩
  ·cases h0
  ·exact⟨a,c,rfl,hc 0 (by decide) 0 _ rfl,hb (by decide)⟩
 obtain⟨ta,tc,rfl,ht0,htb⟩:=hone;clear ht;have ck:=key_any al6 al_s6 w.heap.size y7 1 keyA z7 HL.out.c (by decide) al_9;have CK:Hid (Calls Tryz.prog 11 #[.pointer (some ⟨w.heap.size,0,none⟩), .int .i64 1] z7 fun e w'=>e= .returned (.tuple #[.agg #[.bool true, .string ⟨#[97,46,116,101,115,116]⟩, .int .i64 443], .bool true])∧Below z7.heap.size z7 w'):=ck;clear ck;go_upto_region 13 with (go_at_call 11;refine CK.out.mono ?_;rintro e z8 ⟨rfl,hb8⟩);obtain⟨z9,hz9⟩:∃W,z8.alloc (.cells #[.bool true, .string ⟨#[97,46,116,101,115,116]⟩, .int .i64 443] 28)=W:=⟨_,rfl⟩;have hb9:Below z8.heap.size z8 z9:=by rw[←hz9];exact below_alloc z8 _
 have hB9:z9.heap[z8.heap.size]?=some (.cells #[.bool true, .string ⟨#[97,46,116,101,115,116]⟩, .int .i64 443] 28 (0,0)):=by rw[←hz9];exact heap_alloc_new z8 _
 have hl9:=(HL.out.below hb8).below hb9;have ht9:z9.cell? ta=some (.int .i64 0):=by have ht8:=((hb8.trans (hb9.mono hb8.size)).cell (p:=ta.add 0) (by rw[Go.ChangeShapes.block_add];exact htb)).trans ht0;rwa[addr_add0]at ht8
 clear ht0 k0 k1 k2 HL;have HL:=Lib.hid hl9;have cd:=drop_no al6 al_s6 w.heap.size y7 0 z9 hl9.c (by decide) al_8;have CD:Hid (Calls Tryz.prog 22 #[.pointer (some ⟨w.heap.size,0,none⟩), .int .i64 0] z9 fun e w'=>e= .returned (.int .i64 1)∧Below z9.heap.size z9 w'):=cd;clear cd hl9;have hl9n:=(Array.getElem?_eq_some_iff.1 hB9).1;have HB9:=Lib.hid hB9;have HZ:=Lib.hid hz9;clear hB9 hz9;rw[HZ.out];clear HZ;go_wp2_with(first|(go_at_call 22;refine CD.out.mono ?_;rintro e z10 ⟨rfl,hb10⟩;have hl10:=HL.out.below hb10;obtain⟨k0,k1,k2⟩:=hl10.cells;have n0:z10.cell? ⟨z8.heap.size,0,none⟩=some (.bool true):=(by rw[Lib.cell_of_heap ((hb10.block _ hl9n).trans HB9.out)];rfl);have n1:z10.cell? ⟨z8.heap.size,1,none⟩=some (.string ⟨#[97,46,116,101,115,116]⟩):=(by rw[Lib.cell_of_heap ((hb10.block _ hl9n).trans HB9.out)];rfl);have n2:z10.cell? ⟨z8.heap.size,2,none⟩=some (.int .i64 443):=(by rw[Lib.cell_of_heap ((hb10.block _ hl9n).trans HB9.out)];rfl))|(go_at_call 12;refine(give_none 0 0 _).mono ?_;rintro e z11 ⟨rfl,rfl⟩)|(go_at_call 13;refine(all_none _).mono ?_;rintro e z12 ⟨rfl,rfl⟩));go_ret;exact⟨rfl,HL.out.b.trans (hb10.mono HL.out.b.size)⟩
end Go.Proofs.YtpkoodnbkffpoaaGreatDoor
