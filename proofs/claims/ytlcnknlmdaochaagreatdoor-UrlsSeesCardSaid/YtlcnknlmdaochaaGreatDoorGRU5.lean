/- The reference's parse of layer 6. -/
import Derived.Test.YtlcnknlmdaochaaGreatDoorGRU3
import Derived.Test.YtlcnknlmdaochaaGreatDoorGRUT
set_option linter.unusedVariables false
set_option linter.unusedSimpArgs false
set_option maxHeartbeats 16000000
namespace Go.Proofs.YtlcnknlmdaochaaGreatDoor
open Go.RowKit
structure ParW (n U:Nat) (w:World) (base u:UrlL) (W:World):Prop where
 low:Below n w W
 bs:UrlAt n base W
 res:UrlAt (n+1) zeroU W
 url:UrlAt U u W
 hU:n+1<U
theorem ParW.go {n U:Nat} {w W W':World} {base u u':UrlL} (h:ParW n U w base u W) (k:KeptX W.heap.size U W W') (hu:UrlAt U u' W'):ParW n U w base u' W':=
 ⟨h.low.trans (k.1.mono (by have:=h.hU;omega)),(k.2 n h.bs.lt (by have:=h.hU;omega)).trans h.bs,(k.2 (n+1) h.res.lt (by have:=h.hU;omega)).trans h.res,hu,h.hU⟩
theorem ParW.calm {n U:Nat} {w W W':World} {base u:UrlL} (h:ParW n U w base u W) (k:Below W.heap.size W W'):ParW n U w base u W':=h.go (KeptX.of_below k (Nat.le_of_lt h.url.lt)) (h.url.calm k)
def ParE (n:Nat) (w W:World):Prop:=Below n w W∧UrlAt (n+1) zeroU W
theorem ParW.err {n U:Nat} {w W W':World} {base u:UrlL} (h:ParW n U w base u W) (k:KeptX W.heap.size U W W'):ParE n w W':=
 ⟨h.low.trans (k.1.mono (by have:=h.hU;omega)),(k.2 (n+1) h.res.lt (by have:=h.hU;omega)).trans h.res⟩
theorem ParW.end {n U:Nat} {w W:World} {base u:UrlL} (h:ParW n U w base u W):ParE n w W:=⟨h.low,h.res⟩
theorem ParE.put {n:Nat} {w W:World} (h:ParE n w W) (v:UrlL):UrlAt (n+1) v (putU W (n+1) v)∧Below n w (putU W (n+1) v):=⟨h.2.put v,putU_below h.1 (by omega) v⟩
set_option maxRecDepth 100000 in
theorem rparse_results {B:Nat} {W:World} {v:UrlL} {k:Int} {tmps:Array Value} (h6:tmps[6]?.getD undef= .pointer (some ⟨B,0,none⟩)) (h7:tmps[7]?.getD undef= .int .i64 k) (hU:UrlAt B v W):
 (results Tryz.f63 tmps).run Tryz.prog W= .ok (.tuple #[urlV v, .int .i64 k]) W:=by
 obtain⟨c0,c1,c2,c3,c4,c5,c6,c7,c8,c9⟩:=hU.cells
 simp[results,Tryz.results63,go_sem,h6,h7,c0,c1,c2,c3,c4,c5,c6,c7,c8,c9]
 rfl
theorem schN_none {s:List UInt8} (h:schemeU s=none):schN s= -1:=by
 unfold schemeU at h;unfold schN
 cases hc:cutF 58 s with
 |mk a o=>
  rw[hc]at h
  cases o with
  |none=>rfl
  |some b=>
   simp only at h⊢;split at h
   ·cases h
   ·rename_i q;rw[if_neg q]
theorem schN_some {s c r:List UInt8} (h:schemeU s=some (c,r)):∃k:Nat,schN s=(k:Int)∧k<s.length∧lowerL (s.take k)=c∧s.drop (k+1)=r:=by
 unfold schemeU at h;unfold schN;have hf:= @cutF_fst 58 s
 cases hc:cutF 58 s with
 |mk a o=>
  rw[hc]at h hf
  cases o with
  |none=>simp only at h;cases h
  |some b=>
   simp only at h⊢;split at h
   ·rename_i q
    rw[if_pos q];simp only[Option.some.injEq,Prod.mk.injEq]at h;obtain⟨l1,l2,l3,l4,l5⟩:=cut_len (hf.2.1 b rfl);simp only at l1 l2 l3;exact⟨a.length,rfl,by show a.length<s.length;omega,by rw[l2];exact h.1,by rw[l3];exact h.2⟩
   ·cases h
def ParCut (n U:Nat) (N:Int) (w:World) (base:UrlL) (has:Bool) (t:List UInt8) (a0:Value) (wx:World):Prop:=
 ∃u0 pl r,schU base has t= .ok (u0,pl,r)∧a0= .string ⟨r.toArray⟩∧pl=(decide (0≤N)&&(!has||(decide (u0.scheme≠base.scheme)||(r.take 2==[47,47]))))∧ParW n U w base u0 wx
def ParOut (s:List UInt8) (base:UrlL) (has:Bool) (w:World) (e:Ending) (w':World):Prop:=e= .returned (pairU (readU s base has))∧Below w.heap.size w w'
theorem two_test {q:List UInt8} (h:¬2≤q.length):(q.take 2==[47,47])=false:=by
 rw[beq_eq_false_iff_ne];intro e;have:=congrArg List.length e;simp at this;omega
def MidAt (n U:Nat) (w:World) (base:UrlL) (X:Except Nat UrlL) (a10:Value) (wx:World):Prop:=
 match X with
 | .error k=>a10= .int .i64 (k:Int)∧ParE n w wx
 | .ok v=>a10= .int .i64 0∧ParW n U w base v wx
set_option maxRecDepth 100000 in
theorem rparse_u (s:List UInt8) (base:UrlL) (has:Bool) (sn:has=true→RSeenC) (w:World) (hz:s.length≤140737488351232) (hb:has=true→GoodU base):
 Calls Tryz.prog 63 #[.string ⟨s.toArray⟩,urlV base, .bool has] w (ParOut s base has w):=by
 obtain⟨w1,hw1⟩:∃w1,w.alloc (.cells #[.string ⟨base.scheme.toArray⟩, .string ⟨base.user.toArray⟩, .string ⟨base.pass.toArray⟩, .string ⟨base.host.toArray⟩, .int .i64 base.port, .string ⟨base.path.toArray⟩, .string ⟨base.query.toArray⟩, .bool base.hasQ, .string ⟨base.mark.toArray⟩, .bool base.hasM] 23)=w1:=⟨_,rfl⟩
 have hb1:Below w.heap.size w w1:=by rw[←hw1];exact below_alloc w _
 have hU1:UrlAt w.heap.size base w1:=by rw[←hw1];exact heap_alloc_new w _
 have hs1:w1.heap.size=w.heap.size+1:=by rw[←hw1];exact World.size_alloc _ _
 obtain⟨w2,hw2⟩:∃w2,w1.alloc (.cells #[.string ⟨#[]⟩, .string ⟨#[]⟩, .string ⟨#[]⟩, .string ⟨#[]⟩, .int .i64 0, .string ⟨#[]⟩, .string ⟨#[]⟩, .bool false, .string ⟨#[]⟩, .bool false] 23)=w2:=⟨_,rfl⟩
 have hb2:Below w1.heap.size w1 w2:=by rw[←hw2];exact below_alloc w1 _
 have hR2:UrlAt w1.heap.size zeroU w2:=by rw[←hw2];exact heap_alloc_new w1 _
 have hU2:UrlAt w.heap.size base w2:=(hb2.block _ hU1.lt).trans hU1
 have hbb:=hb1.trans (hb2.mono hb1.size)
 rw[hs1]at hR2
 have HB:=Lib.hid hb
 have HSN:=Lib.hid sn
 clear hb sn
 by_cases h0:4096<s.length
 ·have hp:readU s base has= .error 3:=by unfold readU;rw[if_pos h0]
  have hi:(4096:Int)<(s.length:Int):=by omega
  have HP:=Lib.hid hp;obtain⟨HRz,HBz⟩:=ParE.put ⟨hbb,hR2⟩ zeroU;have HRz:=Lib.hid HRz;have HBz:=Lib.hid HBz;obtain⟨q0,q1,q2,q3,q4,q5,q6,q7,q8,q9⟩:=hR2.cells;obtain⟨g0,g1,g2,g3,g4,g5,g6,g7,g8,g9⟩:=hR2.frees;clear hp h0 hR2 hU2 hb2 hU1;unfold urlV;go_enter Tryz.func63,Tryz.ntmps63;go_wp2_with fail;exact⟨rfl,_,rparse_results rfl rfl HRz.out,by rw[HP.out];rfl,HBz.out⟩
 ·have hi:¬(4096:Int)<(s.length:Int):=by omega
  have hs:s.length≤4096:=by omega
  have cd:=rdropped_u s w2 (by omega);have hdl:=dropL_len s;have hsch:=fun k h=>readU_sch (base:=base) (has:=has) (k:=k) hs h
  have hmid:=fun u0 pl r h=>readU_mid (base:=base) (has:=has) (u0:=u0) (pl:=pl) (r:=r) hs h
  have hsz:=fun u0 pl r v h1 h2=>mid_size (base:=base) (has:=has) (u0:=u0) (pl:=pl) (r:=r) (v:=v) hs HB.out h1 h2
  have HSC:=Lib.hid hsch;have HMI:=Lib.hid hmid;have HSZ:=Lib.hid hsz;clear hsch hmid hsz h0;generalize ht:dropL s=t at*;clear ht;have csc:=fun W=>rscheme t W (by omega)
  have hS1:=fun h=>schN_none (s:=t) h
  have hS2:=fun c r h=>schN_some (s:=t) (c:=c) (r:=r) h
  generalize schN t=N at*;have HS1:=Lib.hid hS1;have HS2:=Lib.hid hS2;clear hS1 hS2;unfold urlV;go_enter Tryz.func63,Tryz.ntmps63;go_wp2_with fail;go_at_call 110;refine cd.mono ?_;rintro e w3 ⟨rfl,hb3⟩;have hW:ParW w.heap.size w3.heap.size w base zeroU (w3.alloc (.cells #[.string ⟨#[]⟩, .string ⟨#[]⟩, .string ⟨#[]⟩, .string ⟨#[]⟩, .int .i64 0, .string ⟨#[]⟩, .string ⟨#[]⟩, .bool false, .string ⟨#[]⟩, .bool false] 23)):=by
   have hb4:=below_alloc w3 (.cells #[.string ⟨#[]⟩, .string ⟨#[]⟩, .string ⟨#[]⟩, .string ⟨#[]⟩, .int .i64 0, .string ⟨#[]⟩, .string ⟨#[]⟩, .bool false, .string ⟨#[]⟩, .bool false] 23);have hb5:=hb3.trans (hb4.mono hb3.size);have hz1:=hb3.size;have hz2:=hb2.size;have hz3:=hR2.lt;exact⟨hbb.trans (hb5.mono hbb.size),(hb5.block _ hU2.lt).trans hU2,(hb5.block _ hR2.lt).trans hR2,heap_alloc_new w3 _,by omega⟩
  obtain⟨U,hUe⟩:∃U,w3.heap.size=U:=⟨_,rfl⟩;obtain⟨n,hne⟩:∃n,w.heap.size=n:=⟨_,rfl⟩;have HNE:=Lib.hid hne;go_upto_region 5 with fail;rw[hUe,hne]at hW;rw[hUe]at*;obtain⟨W4,hW4⟩:∃W,w3.alloc (.cells #[.string ⟨#[]⟩, .string ⟨#[]⟩, .string ⟨#[]⟩, .string ⟨#[]⟩, .int .i64 0, .string ⟨#[]⟩, .string ⟨#[]⟩, .bool false, .string ⟨#[]⟩, .bool false] 23)=W:=⟨_,rfl⟩;rw[hW4]at hW⊢;clear hW4 hb3 cd hR2 hU2 hbb hb2 hU1 hb1 hw1 hw2 hs1 hUe hne;have cs4:=csc W4;by_cases hA:schemeU t=none∧has=false
  ·obtain⟨hn,rfl⟩:=hA
   have herr:readU s base false= .error 4:=HSC.out 4 (by unfold schU;rw[hn];rfl);obtain rfl:N= -1:=HS1.out hn;have HR:=Lib.hid herr;obtain⟨HRz,HBz⟩:=hW.end.put zeroU;have HRz:=Lib.hid HRz;have HBz:=Lib.hid HBz;obtain⟨q0,q1,q2,q3,q4,q5,q6,q7,q8,q9⟩:=hW.res.cells;obtain⟨g0,g1,g2,g3,g4,g5,g6,g7,g8,g9⟩:=hW.res.frees;clear herr hn csc HSC HMI HSZ;go_wp2_with(go_at_call 111;refine cs4.mono ?_;rintro e w5 ⟨rfl,rfl⟩);exact⟨rfl,_,rparse_results rfl rfl HRz.out,by rw[HR.out];rfl,by rw[HNE.out];exact HBz.out⟩
  ·go_upto_region 6 with (go_at_call 111;refine cs4.mono ?_;rintro e w5 ⟨rfl,rfl⟩)
   go_cut [24]from 19 to 24 (fun a wx=>a= .bool false∧W4=wx)
   case first=>
    have hA2:N<0→has=true:=fun hN=>by
     cases hsc:schemeU t with
     |none=>cases has with|true=>rfl|false=>exact absurd ⟨hsc,rfl⟩ hA
     |some x=>obtain⟨c,r⟩:=x;obtain⟨k,hk,_⟩:=HS2.out c r hsc;omega
    clear HSC HMI HSZ csc cs4 HS1 HS2;by_cases hN:N<0
    ·have hh:=hA2 hN
     subst hh;go_wp2_with fail;go_meet;exact⟨rfl,rfl⟩
    ·go_wp2_with fail
     go_meet;exact⟨rfl,rfl⟩
   case rest=>
    obtain⟨rfl,rfl⟩:=hcut;have hA2:schemeU t=none→has=true:=fun hN=>by cases has with|true=>rfl|false=>exact absurd ⟨hN,rfl⟩ hA
    clear hA cs4 csc;have b0:W4.cell? ⟨n,0,none⟩=some (.string ⟨base.scheme.toArray⟩):=hW.bs.cell 0;have c0:W4.cell? ⟨U,0,none⟩=some (.string ⟨[].toArray⟩):=hW.url.cell 0;have f0:=hW.url.free 0;have hU5:=hW.url.set1 (u':= {zeroU with scheme:=base.scheme}) 0 (.string ⟨base.scheme.toArray⟩) rfl;have hW5:=hW.go (hW.url.keep1 0 (.string ⟨base.scheme.toArray⟩)) hU5;clear hU5 hW;go_upto_if 30 with fail;clear b0 c0 f0;generalize W4.setCell ⟨U,0,none⟩ (.string ⟨base.scheme.toArray⟩)=W5 at*;go_cut [0]from 31 to 43 (fun a0 wx=>ParCut n U N w base has t a0 wx)
    case first=>
     cases hsc:schemeU t with
     |none=>
      have hh:=hA2 hsc;subst hh;obtain rfl:N= -1:=HS1.out hsc;have HX:ParCut n U (-1) w base true t (.string ⟨t.toArray⟩) W5:=⟨{zeroU with scheme:=base.scheme},false,t,by unfold schU;rw[hsc];rfl,rfl,rfl,hW5⟩;clear HSC HMI HSZ hsc HS1 HS2 hA2;go_wp2_with fail;go_meet
      case rel=>exact HX
     |some x=>
      obtain⟨c,r⟩:=x;obtain⟨k,rfl,hkl,hl1,hl2⟩:=HS2.out c r hsc;have cl:=rlower_any (t.take k) W5 (by simp;omega);rw[hl1]at cl;have hki:(k:Int)≤(t.length:Int):=by omega
      have hki1:(k:Int)+1≤(t.length:Int):=by omega
      have htt:List.take (t.length-(k+1)) (List.drop (k+1) t)=r:=by rw[hl2,←hl2];exact List.take_of_length_le (by simp)
      have hX:∀W,ownP c≠0→ParW n U w base {zeroU with scheme:=c} W→ParCut n U (k:Int) w base has t (.string ⟨r.toArray⟩) W:=fun W h hW=>⟨{zeroU with scheme:=c}, !has||(decide (c≠base.scheme)||(r.take 2==[47,47])),r,by unfold schU;rw[hsc];simp only;rw[if_neg h],rfl,by simp,hW⟩
      have hE6:=fun h:ownP c=0=>HSC.out 6 (by unfold schU;rw[hsc];simp only;rw[if_pos h])
      have co:=rown_p c;have HX:=Lib.hid hX;have HE6:=Lib.hid hE6;clear HSC HMI HSZ hsc hX hE6 hA2 hl1 hl2 HS1 HS2;go_wp2_with fail;go_at_call 112;refine cl.mono ?_;rintro e W6 ⟨rfl,hb6⟩;have hW6:=hW5.calm hb6;have c0:W6.cell? ⟨U,0,none⟩=some (.string ⟨base.scheme.toArray⟩):=hW6.url.cell 0;have f0:=hW6.url.free 0;have hU7:=hW6.url.set1 (u':= {zeroU with scheme:=c}) 0 (.string ⟨c.toArray⟩) rfl;have hW7:=hW6.go (hW6.url.keep1 0 (.string ⟨c.toArray⟩)) hU7;clear cl hb6 hW5 hW6 hU7;go_upto_region 12 with fail;clear c0 f0;generalize W6.setCell ⟨U,0,none⟩ (.string ⟨c.toArray⟩)=W7 at*;have c0:W7.cell? ⟨U,0,none⟩=some (.string ⟨c.toArray⟩):=hW7.url.cell 0;by_cases ho:ownP c=0
      ·have HR:=Lib.hid (HE6.out ho)
       obtain⟨HRz,HBz⟩:=hW7.end.put zeroU;have HRz:=Lib.hid HRz;have HBz:=Lib.hid HBz;obtain⟨q0,q1,q2,q3,q4,q5,q6,q7,q8,q9⟩:=hW7.res.cells;obtain⟨g0,g1,g2,g3,g4,g5,g6,g7,g8,g9⟩:=hW7.res.frees;rw[ho]at co;clear HE6 HX ho;go_wp2_with(go_at_call 65;refine(co _).mono ?_;rintro e w5 ⟨rfl,rfl⟩);exact⟨rfl,_,rparse_results rfl rfl HRz.out,by rw[HR.out];rfl,by rw[HNE.out];exact HBz.out⟩
      ·have HXX:=Lib.hid (HX.out W7 ho hW7)
       have hob:((ownP c:Int)==0)=false:=beq_eq_false_iff_ne.2 (by omega);clear HE6 ho HX;generalize ownP c=o at*;go_wp2_with(go_at_call 65;refine(co _).mono ?_;rintro e w5 ⟨rfl,rfl⟩);go_meet
       case rel=>exact HXX.out
    case rest=>
     obtain⟨u0,pl,r,hsch,rfl,hpl,hW6⟩:=hcut;generalize hp0:decide (0≤N)=p0 at*;have HP0:=Lib.hid hp0;clear hp0;have hread:=HMI.out u0 pl r hsch;have hsize:=HSZ.out u0 pl r;obtain⟨e1,e2,e3,e4,e5,e6,hrl,hhas⟩:=schU_start hsch;have hsz:=fun v h=>hsize v hsch h
     have ce:=rend_u U u0 r wc hW6.url (by omega) e3 e4 e5 e6;have hel:=endU_len u0 r;have he2:=end_two u0 r;have hes:(endU u0 r).1.scheme=u0.scheme:=rfl;have heu:(endU u0 r).1.user=u0.user:=rfl;have hep:(endU u0 r).1.pass=u0.pass:=rfl;rw[←hes,←he2]at hpl;rw[e1]at heu;rw[e2]at hep;obtain⟨u1,q,huq⟩:∃u1 q,endU u0 r=(u1,q):=⟨_,_,rfl⟩;unfold REndPost at ce;rw[huq]at hread hsz ce hel hpl heu hep;simp only at hread hsz ce hel hpl heu hep;have HRE:=Lib.hid hread;have HSI:=Lib.hid hsz;clear HSC HMI HSZ hsize hread hsz hsch HS1 HS2 hA2 huq he2 hes e1 e2 e3 e4 e5 e6 hW5;go_wp2_with fail;go_at_call 113;refine ce.mono ?_;rintro e W7 ⟨rfl,hK7,hU7⟩;have hW7:=hW6.go hK7 hU7;clear ce hK7 hU7 hW6;go_upto_region 16 with fail;obtain⟨w8,hw8⟩:∃w8,W7=w8:=⟨_,rfl⟩;rw[hw8]at hW7⊢;clear hw8;go_cut [69]from 47 to 69 (fun a wx=>a= .bool pl∧w8=wx)
     case first=>
      have b0:w8.cell? ⟨n,0,none⟩=some (.string ⟨base.scheme.toArray⟩):=hW7.bs.cell 0;have c0:w8.cell? ⟨U,0,none⟩=some (.string ⟨u1.scheme.toArray⟩):=hW7.url.cell 0;clear HRE HSI hW7 hhas;by_cases hN:0≤N
      ·rw[←HP0.out,decide_eq_true hN,Bool.true_and]at hpl
       cases has with
       |false=>
        have HPL:Hid (pl=true):=hpl;clear hpl;go_wp2_with fail;go_meet;exact⟨by rw[HPL.out],rfl⟩
       |true=>
        by_cases hsc:u1.scheme=base.scheme
        ·rw[decide_eq_false (by simpa using hsc),Bool.false_or]at hpl
         have q1:(u1.scheme==base.scheme)=true:=beq_iff_eq.2 hsc;clear hsc;by_cases hq2:2≤q.length
         ·have hqi:(2:Int)≤(q.length:Int):=by omega
          have HPL:=Lib.hid hpl;have htk:(List.take 2 q==[47,47])=(q.take 2==[47,47]):=rfl;clear hpl;generalize hz2:(List.take 2 q==[47,47])=z at*;go_wp2_with fail;go_meet;exact⟨by rw[HPL.out];rfl,rfl⟩
         ·have hqi:¬(2:Int)≤(q.length:Int):=by omega
          rw[two_test hq2]at hpl;have HPL:Hid (pl=false):=hpl;clear hpl hq2;go_wp2_with fail;go_meet;exact⟨by rw[HPL.out],rfl⟩
        ·rw[decide_eq_true hsc]at hpl
         have HPL:Hid (pl=true):=hpl;have q1:(u1.scheme==base.scheme)=false:=beq_eq_false_iff_ne.2 hsc;clear hpl;go_wp2_with fail;go_meet;exact⟨by rw[HPL.out],rfl⟩
      ·rw[←HP0.out,decide_eq_false hN,Bool.false_and]at hpl
       have HPL:Hid (pl=false):=hpl;clear hpl;go_wp2_with fail;go_meet;exact⟨by rw[HPL.out],rfl⟩
     case rest=>
      obtain⟨rfl,rfl⟩:=hcut;have hql:q.length≤4100:=by have:=hdl;omega
      clear hpl HP0 hrl;obtain⟨X,hX⟩:∃X,(if pl=true then placeU u1 (q.dropWhile slashB)else seenU u1 base q)=X:=⟨_,rfl⟩;go_upto_if 69 with fail;go_cut [0,10]from 70 to 84 (fun a0 a10 wx=>MidAt n U w base X a10 wx)
      case first=>
       clear HRE HSI
       cases pl with
       |true=>
        have hX:placeU u1 (q.dropWhile slashB)=X:=hX;have HX:=Lib.hid hX;clear hX;go_upto_block 0 with fail;go_cut [0]from 70 to 79 (fun sv wx=>sv= .string ⟨(q.dropWhile slashB).toArray⟩∧w8=wx)
        case first=>
         clear HX hW7;go_wp2_with fail;go_loop [0] (fun sv=>∃r:List UInt8,sv= .string ⟨r.toArray⟩∧r.length≤q.length∧Hid (q.dropWhile slashB=r.dropWhile slashB)) (fun sv=>match sv with| .string b=>b.size|_=>0)
         case atStart=>exact⟨q,rfl,Nat.le_refl _,Lib.hid rfl⟩
         case round=>
          obtain⟨r,rfl,hrl,HI⟩:=hrel;obtain⟨d0,d1⟩:=sl_front HI.out;clear HI
          cases r with
          |nil=>
           have HX:=Lib.hid (d0 rfl);clear d0 d1;go_wp2_with fail;go_meet;exact⟨by rw[HX.out],rfl⟩
          |cons c t=>
           have hpos:0<(c::t).length:=by simp
           simp only[List.length_cons]at hrl;have cl:=rslash c w8
           cases hc:slashB c with
           |true=>
            have HX:=Lib.hid ((d1 c t rfl).1 hc);rw[hc]at cl;clear d0 d1 hc;go_wp2_with(go_at_call 114;refine cl.mono ?_;rintro e w1 ⟨rfl,rfl⟩);go_round
            case rel=>exact⟨t,by simp,by omega,HX⟩
            case measure=>exact Nat.lt_succ_self t.length
           |false=>
            have HX:=Lib.hid ((d1 c t rfl).2 hc);rw[hc]at cl;clear d0 d1 hc;go_wp2_with(go_at_call 114;refine cl.mono ?_;rintro e w1 ⟨rfl,rfl⟩);go_meet;exact⟨by rw[HX.out],rfl⟩
        case rest=>
         obtain⟨rfl,rfl⟩:=hcut;have htl:=(List.dropWhile_sublist slashB (l:=q)).length_le;have cp:=rplace_u U u1 (q.dropWhile slashB) w8 hW7.url (by omega) heu hep;generalize q.dropWhile slashB=t at*;go_wp2_with fail;go_at_call 115;refine cp.mono ?_;rintro e W9 ⟨hK9,hpl⟩;rw[HX.out]at hpl;have hEr:=hW7.err hK9;have hgo:=fun v h=>hW7.go (u':=v) hK9 h
         clear cp hK9 hW7 HX
         cases X with
         |error k=>
          obtain rfl:e= .returned (.int .i64 (k:Int)):=hpl;have HM:MidAt n U w base (.error k) (.int .i64 (k:Int)) W9:=⟨rfl,hEr⟩;clear hEr hgo;go_wp2_with fail;go_meet
          case rel=>exact HM
         |ok v=>
          obtain⟨rfl,hU9⟩:e= .returned (.int .i64 0)∧UrlAt U v W9:=hpl;have HM:MidAt n U w base (.ok v) (.int .i64 0) W9:=⟨rfl,hgo v hU9⟩;clear hEr hgo hU9;go_wp2_with fail;go_meet
          case rel=>exact HM
       |false=>
        have hX:seenU u1 base q=X:=hX;have HX:=Lib.hid hX;have hG:=HB.out (hhas rfl);obtain⟨r0,hr0,_,hr2,_,_⟩:=hG.path.again;have h92:(92:UInt8)∉base.path:=fun h=>by
         rw[hr0]at h;rcases List.mem_cons.1 h with h|h
         ·cases h
         ·exact(hr2 _ h).2 rfl
        have hgs:=hG.sizes;have cp:=HSN.out (hhas rfl) U u1 base q w8 hW7.url hql heu hep hG.slash h92 (by omega);obtain⟨b0,b1,b2,b3,b4,b5,b6,b7,b8,b9⟩:=hW7.bs.cells;unfold urlV at cp;clear hX hG hr0 hr2 h92 hgs hhas;go_wp2_with fail;go_at_call 116;refine cp.mono ?_;rintro e W9 ⟨hK9,hpl⟩;rw[HX.out]at hpl;have hEr:=hW7.err hK9;have hgo:=fun v h=>hW7.go (u':=v) hK9 h
        clear cp hK9 hW7 HX b0 b1 b2 b3 b4 b5 b6 b7 b8 b9
        cases X with
        |error k=>
         obtain rfl:e= .returned (.int .i64 (k:Int)):=hpl;have HM:MidAt n U w base (.error k) (.int .i64 (k:Int)) W9:=⟨rfl,hEr⟩;clear hEr hgo;go_wp2_with fail;go_meet
         case rel=>exact HM
        |ok v=>
         obtain⟨rfl,hU9⟩:e= .returned (.int .i64 0)∧UrlAt U v W9:=hpl;have HM:MidAt n U w base (.ok v) (.int .i64 0) W9:=⟨rfl,hgo v hU9⟩;clear hEr hgo hU9;go_wp2_with fail;go_meet
         case rel=>exact HM
      case rest=>
       rw[hX]at HRE HSI;clear hW7 hX
       cases X with
       |error k=>
        obtain⟨rfl,hE9⟩:=hcut;have HR:Hid (readU s base has= .error k):=HRE.out;have hk:=(read_err HR.out).1;have hkb:=err_test hk;have hkn:((k:Int) !=0)=true:=by rw[bne,hkb];rfl
        obtain⟨HRz,HBz⟩:=hE9.put zeroU;have HRz:=Lib.hid HRz;have HBz:=Lib.hid HBz;obtain⟨q0,q1,q2,q3,q4,q5,q6,q7,q8,q9⟩:=hE9.2.cells;obtain⟨g0,g1,g2,g3,g4,g5,g6,g7,g8,g9⟩:=hE9.2.frees;clear HRE HSI;go_wp2_with fail;exact⟨rfl,_,rparse_results rfl rfl HRz.out,by rw[HR.out];rfl,by rw[HNE.out];exact HBz.out⟩
       |ok v=>
        obtain⟨rfl,hW9⟩:=hcut;have HR:Hid (readU s base has=if 4096<(textU v).length then .error 3 else .ok v):=HRE.out;obtain⟨z1,z2⟩:=HSI.out v rfl;have ct:=rtext_u v wc (by unfold sizeU;omega) (by omega);obtain⟨k0,k1,k2,k3,k4,k5,k6,k7,k8,k9⟩:=hW9.url.cells;unfold urlV at ct;clear HRE HSI;generalize textU v=T at*;go_wp2_with fail;go_at_call 18;refine ct.mono ?_;rintro e W10 ⟨rfl,hb10⟩;have hW10:=hW9.calm hb10;clear ct hb10 k0 k1 k2 k3 k4 k5 k6 k7 k8 k9 hW9;by_cases hl:4096<T.length
        ·have hli:(4096:Int)<(T.length:Int):=by omega
         have HR2:Hid (readU s base has= .error 3):=by show _=_;rw[HR.out,if_pos hl]
         clear HR hl;obtain⟨HRz,HBz⟩:=hW10.end.put zeroU;have HRz:=Lib.hid HRz;have HBz:=Lib.hid HBz;obtain⟨q0,q1,q2,q3,q4,q5,q6,q7,q8,q9⟩:=hW10.res.cells;obtain⟨g0,g1,g2,g3,g4,g5,g6,g7,g8,g9⟩:=hW10.res.frees;clear hW10;go_wp2_with fail;exact⟨rfl,_,rparse_results rfl rfl HRz.out,by rw[HR2.out];rfl,by rw[HNE.out];exact HBz.out⟩
        ·have hli:(T.length:Int)≤4096:=by omega
         have hlb:decide ((4096:Int)<(T.length:Int))=false:=decide_eq_false (by omega);have HR2:Hid (readU s base has= .ok v):=by show _=_;rw[HR.out,if_neg hl]
         clear HR hl;obtain⟨HRz,HBz⟩:=hW10.end.put v;have HRz:=Lib.hid HRz;have HBz:=Lib.hid HBz;obtain⟨q0,q1,q2,q3,q4,q5,q6,q7,q8,q9⟩:=hW10.res.cells;obtain⟨g0,g1,g2,g3,g4,g5,g6,g7,g8,g9⟩:=hW10.res.frees;obtain⟨k0,k1,k2,k3,k4,k5,k6,k7,k8,k9⟩:=hW10.url.cells;clear hW10;go_wp2_with fail;exact⟨rfl,_,rparse_results rfl rfl HRz.out,by rw[HR2.out];rfl,by rw[HNE.out];exact HBz.out⟩
theorem eqU_comm (a b:UrlL):eqU a b=eqU b a:=by
 rw[Bool.eq_iff_iff,eqU_iff,eqU_iff];exact⟨fun h=>h.symm,fun h=>h.symm⟩
set_option maxRecDepth 100000 in
theorem rcheck_u (u:UrlL) (w:World) (hs:sizeU u≤1000000000) (hport:u.port≤9223372036854775807):
 Calls Tryz.prog 20 #[urlV u] w fun e w'=>e= .returned (.bool (checkU u))∧Below w.heap.size w w':=by
 obtain⟨w1,hw1⟩:∃w1,w.alloc (.cells #[.string ⟨u.scheme.toArray⟩, .string ⟨u.user.toArray⟩, .string ⟨u.pass.toArray⟩, .string ⟨u.host.toArray⟩, .int .i64 u.port, .string ⟨u.path.toArray⟩, .string ⟨u.query.toArray⟩, .bool u.hasQ, .string ⟨u.mark.toArray⟩, .bool u.hasM] 23)=w1:=⟨_,rfl⟩
 have hb1:Below w.heap.size w w1:=by rw[←hw1];exact below_alloc w _
 have hU1:UrlAt w.heap.size u w1:=by rw[←hw1];exact heap_alloc_new w _
 have ct:=rtext_u u w1 hs hport
 have htl:(textU u).length≤140737488351232:=by have:=text_sum u;unfold sizeU at hs;omega
 have cr:=fun W=>rparse_u (textU u) zeroU false (fun h=>by cases h) W htl (fun h=>by cases h)
 unfold ParOut at cr
 have hck:checkU u=match readU (textU u) zeroU false with| .ok v=>eqU u v| .error _=>false:=rfl
 generalize textU u=T at*
 obtain⟨p0,p1,p2,p3,p4,p5,p6,p7,p8,p9⟩:=hU1.cells
 cases hr:readU T zeroU false with
 |error n=>
  have hn:=err_test (read_err hr).1;rw[hr]at hck cr;simp only at hck;have HC:=Lib.hid hck;unfold pairU at cr;simp only at cr;unfold urlV at ct cr⊢;clear hr hck;go_enter Tryz.func20,Tryz.ntmps20;go_wp2_with fail;go_at_call 18;refine ct.mono ?_;rintro e w2 ⟨rfl,hb2⟩;go_wp2_with fail;go_at_call 63;refine(cr _).mono ?_;rintro e w3 ⟨rfl,hb3⟩;have hb4:=hb1.trans ((hb2.mono hb1.size).trans (hb3.mono (Nat.le_trans hb1.size hb2.size)));clear ct cr hw1 hU1 p0 p1 p2 p3 p4 p5 p6 p7 p8 p9;go_wp2_with fail;go_ret;exact⟨by rw[HC.out];rfl,hb4.alloc hb4.size _⟩
 |ok v=>
  rw[hr]at hck cr;simp only at hck;rw[eqU_comm]at hck;have HC:=Lib.hid hck;have heq:=eq_urls v u;unfold pairU at cr;simp only at cr;unfold urlV at ct cr heq⊢;clear hr hck;go_enter Tryz.func20,Tryz.ntmps20;go_wp2_with fail;go_at_call 18;refine ct.mono ?_;rintro e w2 ⟨rfl,hb2⟩;go_wp2_with fail;go_at_call 63;refine(cr _).mono ?_;rintro e w3 ⟨rfl,hb3⟩;have hb4:=hb1.trans ((hb2.mono hb1.size).trans (hb3.mono (Nat.le_trans hb1.size hb2.size)));have hU3:UrlAt w.heap.size u w3:=(hb3.block _ (Nat.lt_of_lt_of_le hU1.lt hb2.size)).trans ((hb2.block _ hU1.lt).trans hU1);have hlt3:=hU3.lt;clear ct cr hw1 hU1 p0 p1 p2 p3 p4 p5 p6 p7 p8 p9;obtain⟨p0,p1,p2,p3,p4,p5,p6,p7,p8,p9⟩:=hU3.cells;clear hU3;go_wp2_with fail;go_ret;exact⟨by rw[HC.out];rfl,hb4.alloc hb4.size _⟩
end Go.Proofs.YtlcnknlmdaochaaGreatDoor
