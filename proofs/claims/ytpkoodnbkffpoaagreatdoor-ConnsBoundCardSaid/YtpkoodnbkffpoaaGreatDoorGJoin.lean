/- strings.Join at a separator of one byte, turned from the kit's walk of the whole form. -/
import Derived.Test.YtpkoodnbkffpoaaGreatDoorGFmt
set_option linter.unusedVariables false
set_option linter.unusedSimpArgs false
set_option maxHeartbeats 16000000
namespace Go.Proofs.YtpkoodnbkffpoaaGreatDoor
open Go.RowKit
def sumL:List (List UInt8)→Nat
 |[]=>0
 |p::l=>p.length+sumL l
theorem sumL_snoc:∀(l:List (List UInt8)) (p:List UInt8),sumL (l++[p])=sumL l+p.length
 |[],p=>by simp[sumL]
 |q::l,p=>by rw[List.cons_append,sumL,sumL,sumL_snoc l p];omega
theorem sumL_take (l:List (List UInt8)) {k:Nat} (h:k<l.length):sumL (l.take (k+1))=sumL (l.take k)+(l[k]).length:=by
 rw[List.take_succ_eq_append_getElem h,sumL_snoc]
theorem sumL_take_le:∀(l:List (List UInt8)) (k:Nat),sumL (l.take k)≤sumL l
 |[],k=>by simp
 |p::l,0=>by simp[sumL]
 |p::l,k+1=>by rw[List.take_succ_cons,sumL,sumL];have:=sumL_take_le l k;omega
theorem joinL_len (c:UInt8):∀l:List (List UInt8),l≠[]→(joinL c l).length=sumL l+(l.length-1)
 |[],h=>absurd rfl h
 |[p],_=>by simp[joinL,sumL]
 |p::q::l,_=>by
  rw[joinL_cons (by simp),List.length_append,List.length_cons,joinL_len c (q::l) (by simp)];simp only[List.length_cons,sumL];omega
def backL (c:UInt8) (l:List (List UInt8)):List UInt8:=l.flatMap (c::·)
theorem joinL_back (c:UInt8):∀(p:List UInt8) (l:List (List UInt8)),joinL c (p::l)=p++backL c l
 |p,[]=>by simp[joinL,backL]
 |p,q::l=>by rw[joinL_cons (by simp),joinL_back c q l];simp[backL,List.flatMap_cons]
theorem backL_take (c:UInt8) (l:List (List UInt8)) {k:Nat} (h:k<l.length):backL c (l.take (k+1))=backL c (l.take k)++[c]++l[k]:=by
 rw[List.take_succ_eq_append_getElem h,backL,List.flatMap_append];simp[backL]
theorem backL_le (c:UInt8) (l:List (List UInt8)) (k:Nat):(backL c (l.take k)).length≤(backL c l).length:=by
 conv=>rhs;rw[←List.take_append_drop k l,backL,List.flatMap_append]
 rw[List.length_append];exact Nat.le_add_right _ _
def Texts (w:World) (g o:Nat) (l:List (List UInt8)):Prop:=∀(j:Nat) (h:j<l.length),w.cell? ⟨g,o+j,none⟩=some (.string ⟨(l[j]).toArray⟩)
theorem join_none (a:Option Addr) (cap:Nat) (c:UInt8) (w:World):
 Calls Tryz.prog 129 #[.slice a 0 cap, .string ⟨#[c]⟩] w fun e w'=>e= .returned (.string ⟨#[]⟩)∧w=w':=by
 go_enter Tryz.func129,Tryz.ntmps129
 go_wp2_with fail
 go_ret
 exact⟨rfl,rfl⟩
theorem join_one (g o cap:Nat) (x:List UInt8) (c:UInt8) (w:World) (hc:w.cell? ⟨g,o,none⟩=some (.string ⟨x.toArray⟩)):
 Calls Tryz.prog 129 #[.slice (some ⟨g,o,none⟩) 1 cap, .string ⟨#[c]⟩] w fun e w'=>e= .returned (.string ⟨x.toArray⟩)∧w=w':=by
 go_enter Tryz.func129,Tryz.ntmps129
 go_wp2_with fail
 go_ret
 exact⟨rfl,rfl⟩
set_option maxRecDepth 100000 in
theorem join_many (g o cap:Nat) (l:List (List UInt8)) (c:UInt8) (w:World) (hT:Texts w g o l) (hg:g<w.heap.size) (h2:2≤l.length) (hN:l.length≤4000000000) (hcap:l.length≤cap) (hlen:(joinL c l).length≤4000000000):
 Calls Tryz.prog 129 #[.slice (some ⟨g,o,none⟩) l.length cap, .string ⟨#[c]⟩] w fun e w'=>e= .returned (.string ⟨(joinL c l).toArray⟩)∧Below w.heap.size w w':=by
 have HC:=Lib.hid hT
 clear hT
 obtain⟨x0,r,hxs⟩:∃x0 r,l=x0::r:=by
  cases l with
  |nil=>simp at h2
  |cons a t=>exact⟨a,t,rfl⟩
 have hjl:=joinL_len c l (by rw[hxs];simp)
 rw[hjl]at hlen
 have hdv:¬(9223372036854775807/((l.length:Int)-1)≤(1:Int)):=by
  intro h;have h3:(9223372036854775807:Int)<(1+1)*((l.length:Int)-1):=Int.lt_mul_of_ediv_lt (b:=1+1) (c:=(l.length:Int)-1) (by omega) (by omega);omega
 have hne0:((l.length:Int)==0)=false:=beq_eq_false_iff_ne.2 (by omega)
 have hne1:((l.length:Int)==1)=false:=beq_eq_false_iff_ne.2 (by omega)
 have hjb:=joinL_back c x0 r
 rw[←hxs]at hjb
 have Hxs:=Lib.hid hxs
 have Hjb:=Lib.hid hjb
 have Hjl:=Lib.hid hjl
 clear hxs hjb hjl
 go_enter Tryz.func129,Tryz.ntmps129
 go_wp2_with fail
 go_loop [5,41] (fun n i=>∃k:Nat,k≤l.length∧i= .int .i64 k∧n= .int .i64 ((l.length:Int)-1+(sumL (l.take k):Nat))) (fun _ i=>l.length-(intOf i).toNat)
 case atStart=>exact⟨0,Nat.zero_le _,rfl,by simp[sumL]⟩
 case round=>
  obtain⟨k,hk,rfl,rfl⟩:=hrel;by_cases hkn:k<l.length
  ·have hc:=HC.out k hkn
   have hst:=sumL_take l hkn;have hbd:=sumL_take_le l (k+1);generalize hx:l[k]=x at*;generalize hA1:sumL (l.take (k+1))=A1 at*;generalize sumL (l.take k)=A0 at*;have HA1:=Lib.hid hA1;have Hst:=Lib.hid hst;have hst1:A1≤A0+x.length:=by omega
   have hst2:A0+x.length≤A1:=by omega
   clear hA1 hst hx;go_wp2_with fail;go_round
   case rel=>exact⟨k+1,by omega,by go_num,by rw[HA1.out];go_num⟩
   case measure=>simp[intOf];omega
  ·obtain rfl:k=l.length:=by omega
   rw[List.take_length];generalize hS:sumL l=S at*;have HS:=Lib.hid hS;clear hS;go_wp2_with fail;have e1:((l.length:Int)-1+(S:Int))=((l.length-1+S:Nat):Int):=by omega
   rw[e1];refine(Tryz.Builder_Grow_fresh w.heap.size w.heap.size (l.length-1+S) _ (Nat.le_refl _) (heap_alloc_new w _) (by simp) (by omega)).mono ?_;rintro e w1 ⟨rfl,h1,hb1⟩;have hb1':Below w.heap.size w w1:=((Below.refl w.heap.size w).alloc (Nat.le_refl _) _).trans hb1;have h1':Lib.IsBuilderF 159 5 w.heap.size w.heap.size (Lib.byteCells []) w1:= .inr (Lib.BuilderAtF.of h1);have hc0:w1.cell? ⟨g,o,none⟩=some (.string ⟨x0.toArray⟩):=by
    rw[hb1'.cell (p:=⟨g,o,none⟩) hg];have:=HC.out 0 (by omega);rw[Nat.add_zero]at this;rw[this];simp only[Hxs.out,List.getElem_cons_zero]
   have hrl:r.length+1≤l.length:=by rw[Hxs.out];simp
   have hrl2:l.length≤r.length+1:=by rw[Hxs.out];simp
   have hjn:x0.length+(backL c r).length≤4000000000:=by
    have:=Hjl.out;rw[Hjb.out,List.length_append]at this;omega
   have hx0:x0.length≤4000000000:=by omega
   have H1:=Lib.hid h1';have Hb1:=Lib.hid hb1';clear h1 hb1 hb1' h1' e1;go_wp2_with fail;go_at_call 114;refine(writeString_k w.heap.size w.heap.size _ x0 w1 H1.out (by simp only[Lib.byteCells_length,List.length_nil];omega) Hb1.out.size).mono ?_;rintro e w2 ⟨rfl,h2',hb2,_⟩;have H2:Hid (Lib.IsBuilderF 159 5 w.heap.size w.heap.size (Lib.byteCells (x0++backL c (r.take 0))) w2):= .inr (by rw[Lib.byteCells_append];simpa[backL,Lib.byteCells]using h2');have Hb2:=Lib.hid (Hb1.out.trans hb2);clear h2' hb2;go_wp2_with fail;go_loopw [65] (fun i wr=>∃k:Nat,k≤r.length∧i= .int .i64 k∧Hid (Lib.IsBuilderF 159 5 w.heap.size w.heap.size (Lib.byteCells (x0++backL c (r.take k))) wr)∧Hid (Below w.heap.size w wr)) (fun i _=>r.length-(intOf i).toNat)
   case atStart=>exact⟨0,Nat.zero_le _,rfl,H2,Hb2⟩
   case round=>
    obtain⟨V,rfl⟩:∃V,V=wr:=⟨wr,rfl⟩;obtain⟨k,hk',rfl,HB,HW⟩:=hrel;by_cases hkr:k<r.length
    ·have hcy:V.cell? ⟨g,o+1+k,none⟩=some (.string ⟨(r[k]).toArray⟩):=by
      rw[HW.out.cell (p:=⟨g,o+1+k,none⟩) hg,show o+1+k=o+(k+1)by omega,HC.out (k+1) (by omega)];simp only[Hxs.out,List.getElem_cons_succ]
     have hst:=backL_take c r hkr;have hle:=backL_le c r (k+1);have hBw:w.heap.size≤V.heap.size:=HW.out.size;have hl1:(backL c (r.take k)).length+1+(r[k]).length≤(backL c r).length:=by
      rw[hst]at hle;simp only[List.length_append,List.length_singleton]at hle;omega
     generalize hy:r[k]=y at*;have Hst:=Lib.hid hst;clear hst hle hy;generalize hZ:backL c (r.take k)=Z at*;clear hZ;go_wp2_with fail;go_at_call 114;refine(writeString_k w.heap.size w.heap.size _ [c] V HB.out (by simp only[Lib.byteCells_length,List.length_append,List.length_singleton];omega) hBw).mono ?_;rintro e w3 ⟨rfl,h3,hb3,_⟩;have H3:Hid (Lib.IsBuilderF 159 5 w.heap.size w.heap.size (Lib.byteCells (x0++Z++[c])) w3):= .inr (by rw[Lib.byteCells_append];exact h3);have Hb3:=Lib.hid (HW.out.trans hb3);have hcy3:w3.cell? ⟨g,o+1+k,none⟩=some (.string ⟨y.toArray⟩):=by
      rw[hb3.cell (p:=⟨g,o+1+k,none⟩) (by show g<_;omega)];exact hcy
     clear h3 hb3 hcy;go_wp2_with fail;go_at_call 114;refine(writeString_k w.heap.size w.heap.size _ y w3 H3.out (by simp only[Lib.byteCells_length,List.length_append,List.length_singleton];omega) Hb3.out.size).mono ?_;rintro e w4 ⟨rfl,h4,hb4,_⟩;have H4:Hid (Lib.IsBuilderF 159 5 w.heap.size w.heap.size (Lib.byteCells (x0++backL c (r.take (k+1)))) w4):= .inr (by rw[Hst.out,←List.append_assoc,←List.append_assoc,Lib.byteCells_append];exact h4);have Hb4:=Lib.hid (Hb3.out.trans hb4);clear h4 hb4;go_wp2_with fail;go_roundw
     case rel=>exact⟨k+1,by omega,by go_num,H4,Hb4⟩
     case measure=>simp[intOf];omega
    ·obtain rfl:k=r.length:=by omega
     have hB':=HB.out;rw[List.take_length,←Hjb.out]at hB';have HB2:=Lib.hid hB';clear hB' HB;go_wp2_with fail;go_at_call 118;refine(Tryz.Builder_String_any_k w.heap.size w.heap.size _ V HB2.out HW.out.size).mono ?_;rintro e w5 ⟨rfl,_,hb5,_⟩;have Hb5:=Lib.hid (HW.out.trans hb5);clear hb5;go_wp2_with fail;go_ret;exact⟨rfl,Hb5.out⟩
theorem join_any (g o cap:Nat) (l:List (List UInt8)) (c:UInt8) (w:World) (hT:Texts w g o l) (hg:g<w.heap.size) (hN:l.length≤4000000000) (hcap:l.length≤cap) (hlen:(joinL c l).length≤4000000000):
 Calls Tryz.prog 129 #[.slice (some ⟨g,o,none⟩) l.length cap, .string ⟨#[c]⟩] w fun e w'=>e= .returned (.string ⟨(joinL c l).toArray⟩)∧Below w.heap.size w w':=by
 match l,hT,hN,hcap,hlen with
 |[],_,_,_,_=>exact(join_none _ cap c w).mono fun e w' ⟨he,hw⟩=>⟨he,hw▸Below.refl _ _⟩
 |[x],hT,_,_,_=>exact(join_one g o cap x c w (hT 0 (by simp))).mono fun e w' ⟨he,hw⟩=>⟨he,hw▸Below.refl _ _⟩
 |x::y::r,hT,hN,hcap,hlen=>exact join_many g o cap (x::y::r) c w hT hg (by simp) hN hcap hlen
theorem join_at (g o cap m:Nat) (l:List (List UInt8)) (c:UInt8) (w:World) (hm:l.length=m) (hT:Texts w g o l) (hg:g<w.heap.size) (hN:m≤4000000000) (hcap:m≤cap) (hlen:(joinL c l).length≤4000000000):
 Calls Tryz.prog 129 #[.slice (some ⟨g,o,none⟩) m cap, .string ⟨#[c]⟩] w fun e w'=>e= .returned (.string ⟨(joinL c l).toArray⟩)∧Below w.heap.size w w':=by
 subst hm
 exact join_any g o cap l c w hT hg hN hcap hlen
theorem sumL_le {l:List (List UInt8)} {n:Nat} (h:∀p∈l,p.length≤n):sumL l≤n*l.length:=by
 induction l with
 |nil=>simp[sumL]
 |cons p l ih=>
  have h1:=h p List.mem_cons_self;have h2:=ih (fun q hq=>h q (List.mem_cons_of_mem _ hq));rw[sumL,List.length_cons,Nat.mul_add,Nat.mul_one];omega
theorem joinL_le (c:UInt8) {l:List (List UInt8)} {n:Nat} (h:∀p∈l,p.length≤n):(joinL c l).length≤(n+1)*l.length:=by
 have h1:=sumL_le h
 cases l with
 |nil=>simp[joinL]
 |cons p l=>
  rw[joinL_len c _ (by simp),Nat.add_mul];omega
theorem lift_below {f:FuncId} {args:Array Value} {v:Value} (w:World) (h:∀W,Calls Tryz.prog f args W fun e W'=>e= .returned v∧Below W.heap.size W W'):∀W,Below w.heap.size w W→Calls Tryz.prog f args W fun e W'=>e= .returned v∧Below w.heap.size w W':=fun W hW=>
 (h W).mono fun e W' ⟨he,hb⟩=>⟨he,hW.trans (hb.mono hW.size)⟩
theorem lift_same {f:FuncId} {args:Array Value} {v:Value} (w:World) (h:∀W,Calls Tryz.prog f args W fun e W'=>e= .returned v∧W=W'):∀W,Below w.heap.size w W→Calls Tryz.prog f args W fun e W'=>e= .returned v∧Below w.heap.size w W':=fun W hW=>
 (h W).mono fun e W' ⟨he,hb⟩=>⟨he,hb▸hW⟩
end Go.Proofs.YtpkoodnbkffpoaaGreatDoor
