/- The walks of the reference's Hex, count, number, digits and parts. -/
import Derived.Test.YtlhcfmcbpljbiaaGreatDoorUpSup
set_option linter.unusedVariables false
set_option linter.unusedSimpArgs false
set_option maxHeartbeats 16000000
namespace Go.Proofs.YtlhcfmcbpljbiaaGreatDoor
open Go.RowKit
theorem rhex_any (c:Nat) (hc:c<256) (w:World):
 Calls Tryz.prog 292 #[.int .u8 (c:Int)] w fun e w'=>e= .returned (.int .i64 (hexI c))∧w=w':=by
 have hx:hexI c=if 48≤c∧c≤57 then (c:Int)-48 else if 97≤c∧c≤102 then (c:Int)-87 else if 65≤c∧c≤70 then (c:Int)-55 else -1:=rfl
 by_cases q1:48≤c∧c≤57
 ·rw[if_pos q1]at hx
  obtain⟨q2,q3⟩:=q1;have H:=Lib.hid hx;clear hx;go_enter Tryz.func292,Tryz.ntmps292;go_wp2_with fail;go_ret;exact⟨ret_int (by rw[H.out]),rfl⟩
 ·rw[if_neg q1]at hx
  by_cases q2:97≤c∧c≤102
  ·rw[if_pos q2]at hx
   obtain⟨q2,q3⟩:=q2;have H:=Lib.hid hx;clear hx q1;go_enter Tryz.func292,Tryz.ntmps292;go_wp2_with fail;go_ret;exact⟨ret_int (by rw[H.out];omega),rfl⟩
  ·rw[if_neg q2]at hx
   by_cases q3:65≤c∧c≤70
   ·rw[if_pos q3]at hx
    obtain⟨q3,q4⟩:=q3;have H:=Lib.hid hx;clear hx q1 q2;go_enter Tryz.func292,Tryz.ntmps292;go_wp2_with fail;go_ret;exact⟨ret_int (by rw[H.out];omega),rfl⟩
   ·rw[if_neg q3]at hx
    have H:=Lib.hid hx;have r1:c<48∨57<c:=by omega
    have r2:c<97∨102<c:=by omega
    have r3:c<65∨70<c:=by omega
    clear hx q1 q2 q3;rcases r1 with r1|r1<;>rcases r2 with r2|r2<;>rcases r3 with r3|r3
    all_goals
     go_enter Tryz.func292,Tryz.ntmps292;go_wp2_with fail
     all_goals go_ret
     all_goals exact⟨ret_int (by rw[H.out]),rfl⟩
theorem cntF_syn {base acc:Nat} {c:UInt8} {r:List UInt8} (h:hexI c.toNat<0∨(base:Int)≤hexI c.toNat):cntF base acc (c::r)=none:=by rw[cntF,if_pos h]
theorem cntF_go {base acc:Nat} {c:UInt8} {r:List UInt8} (h:¬(hexI c.toNat<0∨(base:Int)≤hexI c.toNat)):cntF base acc (c::r)=cntF base (min 4294967296 (acc*base+(hexI c.toNat).toNat)) r:=by
 conv=>lhs;rw[cntF]
 rw[if_neg h]
set_option maxRecDepth 100000 in
theorem rcount_8 (s:List UInt8) (w:World) (hs:s.length≤140737488351232):
 Calls Tryz.prog 255 #[.string ⟨s.toArray⟩, .int .i64 8] w fun e w'=>e= .returned (cntV (cntL 8 s))∧w=w':=by
 go_enter Tryz.func255,Tryz.ntmps255
 go_wp2_with fail
 go_loop [6,7] (fun n i=>∃k acc:Nat,k≤s.length∧acc≤4294967296∧n= .int .i64 acc∧i= .int .i64 k∧Hid (cntL 8 s=cntF 8 acc (s.drop k))) (fun _ i=>s.length-(intOf i).toNat)
 case atStart=>exact⟨0,0,Nat.zero_le _,by omega,rfl,rfl,rfl⟩
 case round=>
  obtain⟨k,acc,hk,ha,rfl,rfl,H⟩:=hrel;by_cases hlt:k<s.length
  ·have hd:s.drop k=s[k]::s.drop (k+1):=List.drop_eq_getElem_cons hlt
   have ch:=rhex_any s[k].toNat s[k].toNat_lt;have hbd:=hexI_bd s[k].toNat;have H0:=H.out;rw[hd]at H0;by_cases hsyn:hexI s[k].toNat<0∨(8:Int)≤hexI s[k].toNat
   ·rw[cntF_syn hsyn]at H0
    have H1:=Lib.hid H0;clear H H0 hd;generalize hexI s[k].toNat=d at*;rcases hsyn with h|h
    all_goals first
     |(exfalso;omega)
     |(go_wp2_with(go_at_call 292;refine(ch _).mono ?_;rintro e w' ⟨rfl,rfl⟩)
       go_ret2
       exact⟨by rw[H1.out];rfl,rfl⟩)
   ·have hg:=cntF_go (base:=8) (acc:=acc) (r:=s.drop (k+1)) hsyn
    rw[hg]at H0;obtain⟨h1,h2⟩:0≤hexI s[k].toNat∧hexI s[k].toNat<(8:Int):=by omega
    clear H hd hg hsyn;generalize hexI s[k].toNat=d at*;obtain⟨dn,rfl⟩:∃dn:Nat,d=dn:=⟨d.toNat,by omega⟩;rw[Int.toNat_natCast]at H0;by_cases hm:acc*8+dn≤4294967296
    ·rw[Nat.min_eq_right hm]at H0
     have H1:=Lib.hid H0;clear H0;have hm2:(acc:Int)*8+(dn:Int)≤4294967296:=by omega
     go_wp2_with(go_at_call 292;refine(ch _).mono ?_;rintro e w' ⟨rfl,rfl⟩);go_round
     case rel=>exact⟨k+1,acc*8+dn,by omega,hm,by go_num,by go_num,H1⟩
     case measure=>simp[intOf];omega
    ·rw[Nat.min_eq_left (by omega)]at H0
     have H1:=Lib.hid H0;clear H0;have hm2:4294967296<(acc:Int)*8+(dn:Int):=by omega
     go_wp2_with(go_at_call 292;refine(ch _).mono ?_;rintro e w' ⟨rfl,rfl⟩);go_round
     case rel=>exact⟨k+1,4294967296,by omega,by omega,by go_num,by go_num,H1⟩
     case measure=>simp[intOf];omega
  ·obtain rfl:k=s.length:=by omega
   have H0:=H.out;rw[List.drop_length]at H0;have H1:Hid (cntL 8 s=some acc):=H0;clear H H0;go_wp2_with fail;go_ret2;exact⟨by rw[H1.out];rfl,rfl⟩
set_option maxRecDepth 100000 in
theorem rcount_10 (s:List UInt8) (w:World) (hs:s.length≤140737488351232):
 Calls Tryz.prog 255 #[.string ⟨s.toArray⟩, .int .i64 10] w fun e w'=>e= .returned (cntV (cntL 10 s))∧w=w':=by
 go_enter Tryz.func255,Tryz.ntmps255
 go_wp2_with fail
 go_loop [6,7] (fun n i=>∃k acc:Nat,k≤s.length∧acc≤4294967296∧n= .int .i64 acc∧i= .int .i64 k∧Hid (cntL 10 s=cntF 10 acc (s.drop k))) (fun _ i=>s.length-(intOf i).toNat)
 case atStart=>exact⟨0,0,Nat.zero_le _,by omega,rfl,rfl,rfl⟩
 case round=>
  obtain⟨k,acc,hk,ha,rfl,rfl,H⟩:=hrel;by_cases hlt:k<s.length
  ·have hd:s.drop k=s[k]::s.drop (k+1):=List.drop_eq_getElem_cons hlt
   have ch:=rhex_any s[k].toNat s[k].toNat_lt;have hbd:=hexI_bd s[k].toNat;have H0:=H.out;rw[hd]at H0;by_cases hsyn:hexI s[k].toNat<0∨(10:Int)≤hexI s[k].toNat
   ·rw[cntF_syn hsyn]at H0
    have H1:=Lib.hid H0;clear H H0 hd;generalize hexI s[k].toNat=d at*;rcases hsyn with h|h
    all_goals first
     |(exfalso;omega)
     |(go_wp2_with(go_at_call 292;refine(ch _).mono ?_;rintro e w' ⟨rfl,rfl⟩)
       go_ret2
       exact⟨by rw[H1.out];rfl,rfl⟩)
   ·have hg:=cntF_go (base:=10) (acc:=acc) (r:=s.drop (k+1)) hsyn
    rw[hg]at H0;obtain⟨h1,h2⟩:0≤hexI s[k].toNat∧hexI s[k].toNat<(10:Int):=by omega
    clear H hd hg hsyn;generalize hexI s[k].toNat=d at*;obtain⟨dn,rfl⟩:∃dn:Nat,d=dn:=⟨d.toNat,by omega⟩;rw[Int.toNat_natCast]at H0;by_cases hm:acc*10+dn≤4294967296
    ·rw[Nat.min_eq_right hm]at H0
     have H1:=Lib.hid H0;clear H0;have hm2:(acc:Int)*10+(dn:Int)≤4294967296:=by omega
     go_wp2_with(go_at_call 292;refine(ch _).mono ?_;rintro e w' ⟨rfl,rfl⟩);go_round
     case rel=>exact⟨k+1,acc*10+dn,by omega,hm,by go_num,by go_num,H1⟩
     case measure=>simp[intOf];omega
    ·rw[Nat.min_eq_left (by omega)]at H0
     have H1:=Lib.hid H0;clear H0;have hm2:4294967296<(acc:Int)*10+(dn:Int):=by omega
     go_wp2_with(go_at_call 292;refine(ch _).mono ?_;rintro e w' ⟨rfl,rfl⟩);go_round
     case rel=>exact⟨k+1,4294967296,by omega,by omega,by go_num,by go_num,H1⟩
     case measure=>simp[intOf];omega
  ·obtain rfl:k=s.length:=by omega
   have H0:=H.out;rw[List.drop_length]at H0;have H1:Hid (cntL 10 s=some acc):=H0;clear H H0;go_wp2_with fail;go_ret2;exact⟨by rw[H1.out];rfl,rfl⟩
set_option maxRecDepth 100000 in
theorem rcount_16 (s:List UInt8) (w:World) (hs:s.length≤140737488351232):
 Calls Tryz.prog 255 #[.string ⟨s.toArray⟩, .int .i64 16] w fun e w'=>e= .returned (cntV (cntL 16 s))∧w=w':=by
 go_enter Tryz.func255,Tryz.ntmps255
 go_wp2_with fail
 go_loop [6,7] (fun n i=>∃k acc:Nat,k≤s.length∧acc≤4294967296∧n= .int .i64 acc∧i= .int .i64 k∧Hid (cntL 16 s=cntF 16 acc (s.drop k))) (fun _ i=>s.length-(intOf i).toNat)
 case atStart=>exact⟨0,0,Nat.zero_le _,by omega,rfl,rfl,rfl⟩
 case round=>
  obtain⟨k,acc,hk,ha,rfl,rfl,H⟩:=hrel;by_cases hlt:k<s.length
  ·have hd:s.drop k=s[k]::s.drop (k+1):=List.drop_eq_getElem_cons hlt
   have ch:=rhex_any s[k].toNat s[k].toNat_lt;have hbd:=hexI_bd s[k].toNat;have H0:=H.out;rw[hd]at H0;by_cases hsyn:hexI s[k].toNat<0∨(16:Int)≤hexI s[k].toNat
   ·rw[cntF_syn hsyn]at H0
    have H1:=Lib.hid H0;clear H H0 hd;generalize hexI s[k].toNat=d at*;rcases hsyn with h|h
    all_goals first
     |(exfalso;omega)
     |(go_wp2_with(go_at_call 292;refine(ch _).mono ?_;rintro e w' ⟨rfl,rfl⟩)
       go_ret2
       exact⟨by rw[H1.out];rfl,rfl⟩)
   ·have hg:=cntF_go (base:=16) (acc:=acc) (r:=s.drop (k+1)) hsyn
    rw[hg]at H0;obtain⟨h1,h2⟩:0≤hexI s[k].toNat∧hexI s[k].toNat<(16:Int):=by omega
    clear H hd hg hsyn;generalize hexI s[k].toNat=d at*;obtain⟨dn,rfl⟩:∃dn:Nat,d=dn:=⟨d.toNat,by omega⟩;rw[Int.toNat_natCast]at H0;by_cases hm:acc*16+dn≤4294967296
    ·rw[Nat.min_eq_right hm]at H0
     have H1:=Lib.hid H0;clear H0;have hm2:(acc:Int)*16+(dn:Int)≤4294967296:=by omega
     go_wp2_with(go_at_call 292;refine(ch _).mono ?_;rintro e w' ⟨rfl,rfl⟩);go_round
     case rel=>exact⟨k+1,acc*16+dn,by omega,hm,by go_num,by go_num,H1⟩
     case measure=>simp[intOf];omega
    ·rw[Nat.min_eq_left (by omega)]at H0
     have H1:=Lib.hid H0;clear H0;have hm2:4294967296<(acc:Int)*16+(dn:Int):=by omega
     go_wp2_with(go_at_call 292;refine(ch _).mono ?_;rintro e w' ⟨rfl,rfl⟩);go_round
     case rel=>exact⟨k+1,4294967296,by omega,by omega,by go_num,by go_num,H1⟩
     case measure=>simp[intOf];omega
  ·obtain rfl:k=s.length:=by omega
   have H0:=H.out;rw[List.drop_length]at H0;have H1:Hid (cntL 16 s=some acc):=H0;clear H H0;go_wp2_with fail;go_ret2;exact⟨by rw[H1.out];rfl,rfl⟩
theorem cnt_zero {base:Nat} (hb:1≤base) {s:List UInt8} {x:UInt8} (h:x.toNat=48):cntL base (x::s)=cntL base s:=by
 have e:hexI x.toNat=0:=by rw[h];rfl
 unfold cntL;rw[cntF_go (by rw[e];omega),e];simp
theorem one_of {s:List UInt8} (h:s.length=1):∃x,s=[x]:=List.length_eq_one_iff.1 h
set_option maxRecDepth 100000 in
theorem rnumber_any (s:List UInt8) (w:World) (hs:s.length≤140737488351232):
 Calls Tryz.prog 209 #[.string ⟨s.toArray⟩] w fun e w'=>e= .returned (cntV (numL s))∧w=w':=by
 have hn:numL s=if hexPre s then cntL 16 (s.drop 2)else if s=[]then none else if (s.getD 0 0).toNat=48 then cntL 8 s else cntL 10 s:=rfl
 by_cases h2:2≤s.length
 ·have g0:=getD_is (s:=s) (k:=0) (by omega)
  have g1:=getD_is (s:=s) (k:=1) (by omega);have hne:s≠[]:=fun e=>by rw[e]at h2;simp at h2
  by_cases h0:(s.getD 0 0).toNat=48
  ·have hx:=hexPre_is h2 h0
   by_cases h1:(s.getD 1 0).toNat=120∨(s.getD 1 0).toNat=88
   ·have hp:hexPre s=true:=by rw[hx];rcases h1 with h|h<;>(rw[h];rfl)
    rw[if_pos hp]at hn;have cc:=fun W=>rcount_16 (s.drop 2) W (by simp;omega)
    have htk:List.take (s.length-2) (List.drop 2 s)=s.drop 2:=List.take_of_length_le (by simp);rw[g0]at h0;rw[g1]at h1;have h00:((s[0]'(by omega)).toNat:Int)=48:=by omega
    rw[hn];generalize cntL 16 (s.drop 2)=r at*;clear hn hx hp g0 g1 h0 hne;rcases h1 with h1|h1
    all_goals
     have h11:((s[1]'(by omega)).toNat:Int)=_:=congrArg Nat.cast h1;clear h1;simp only[cntV]at cc⊢;go_enter Tryz.func209,Tryz.ntmps209;go_wp2_with(go_at_call 255;refine(cc _).mono ?_;rintro e w1 ⟨rfl,rfl⟩);go_ret2;exact⟨rfl,rfl⟩
   ·have hp:hexPre s=false:=by
     rw[hx,Bool.or_eq_false_iff,beq_eq_false_iff_ne,beq_eq_false_iff_ne];omega
    have e:s=s[0]::s.drop 1:=by
     have:=List.drop_eq_getElem_cons (l:=s) (i:=0) (by omega);rwa[List.drop_zero]at this
    have hz:cntL 8 s=cntL 8 (s.drop 1):=by
     conv=>lhs;rw[e]
     exact cnt_zero (by decide) (by rw[←g0];exact h0)
    rw[if_neg (by rw[hp];simp),if_neg hne,if_pos h0,hz]at hn;have cc:=fun W=>rcount_8 s.tail W (by simp;omega)
    rw[List.drop_one]at hn;have htk:List.take (s.length-1) s.tail=s.tail:=List.take_of_length_le (by simp);rw[g0]at h0;rw[g1]at h1;have h00:((s[0]'(by omega)).toNat:Int)=48:=by omega
    have h11:¬((s[1]'(by omega)).toNat:Int)=120:=by omega
    have h12:¬((s[1]'(by omega)).toNat:Int)=88:=by omega
    have h13:(((s[1]'(by omega)).toNat:Int)==120)=false:=by rw[beq_eq_false_iff_ne];exact h11
    have h14:(((s[1]'(by omega)).toNat:Int)==88)=false:=by rw[beq_eq_false_iff_ne];exact h12
    have h15:((s[1]'(by omega)).toNat==120)=false:=by rw[beq_eq_false_iff_ne];omega
    have h16:((s[1]'(by omega)).toNat==88)=false:=by rw[beq_eq_false_iff_ne];omega
    rw[hn];generalize cntL 8 s.tail=r at*;clear hn hx hp g0 g1 h0 h1 hne e hz;simp only[cntV]at cc⊢;go_enter Tryz.func209,Tryz.ntmps209;go_wp2_with(go_at_call 255;refine(cc _).mono ?_;rintro e w1 ⟨rfl,rfl⟩);go_ret2;exact⟨rfl,rfl⟩
  ·have hp:=hexPre_false (s:=s) (.inr h0)
   rw[if_neg (by rw[hp];simp),if_neg hne,if_neg h0]at hn;have cc:=fun W=>rcount_10 s W hs
   rw[g0]at h0;have h00:¬((s[0]'(by omega)).toNat:Int)=48:=by omega
   rw[hn];generalize cntL 10 s=r at*;clear hn hp g0 g1 h0 hne;simp only[cntV]at cc⊢;go_enter Tryz.func209,Tryz.ntmps209;go_wp2_with(go_at_call 255;refine(cc _).mono ?_;rintro e w1 ⟨rfl,rfl⟩);go_ret2;exact⟨rfl,rfl⟩
 ·have hp:=hexPre_false (s:=s) (.inl (by omega))
  rw[if_neg (by rw[hp];simp)]at hn;by_cases h0:s=[]
  ·rw[if_pos h0]at hn
   rw[hn];subst h0;clear hn hp h2;go_enter Tryz.func209,Tryz.ntmps209;go_wp2_with fail;go_ret2;exact⟨rfl,rfl⟩
  ·rw[if_neg h0]at hn
   obtain⟨x,rfl⟩:=one_of (s:=s) (by have:=List.length_pos_iff.2 h0;omega);have hz:(if ([x].getD 0 0).toNat=48 then cntL 8 [x]else cntL 10 [x])=cntL 10 [x]:=by
    split
    ·rename_i h
     have h:x.toNat=48:=h;rw[cnt_zero (by decide) h,cnt_zero (by decide) h];rfl
    ·rfl
   rw[hz]at hn;have cc:=fun W=>rcount_10 [x] W (by simp)
   rw[hn];generalize cntL 10 [x]=r at*;clear hn hp h0 hz h2;simp only[cntV]at cc⊢;go_enter Tryz.func209,Tryz.ntmps209;go_wp2_with(go_at_call 255;refine(cc _).mono ?_;rintro e w1 ⟨rfl,rfl⟩);go_ret2;exact⟨rfl,rfl⟩
def isDig (c:Nat):Bool:=decide (48≤c∧c≤57)
theorem rdig01_any (c:Nat) (hc:c<256) (w:World):Calls Tryz.prog 156 #[.int .u8 (c:Int)] w fun e w'=>e= .returned (.bool (isDig c))∧w=w':=by
 by_cases h1:48≤c
 ·by_cases h2:c≤57
  ·have H:Hid (isDig c=true):=decide_eq_true ⟨h1,h2⟩
   go_enter Tryz.func156,Tryz.ntmps156;go_wp2_with fail;go_ret;exact⟨ret_bool (by rw[H.out];try(simp;omega)),rfl⟩
  ·have H:Hid (isDig c=false):=decide_eq_false (by omega)
   have h2':57<c:=by omega
   clear h2;go_enter Tryz.func156,Tryz.ntmps156;go_wp2_with fail;go_ret;exact⟨ret_bool (by rw[H.out];try(simp;omega)),rfl⟩
 ·have H:Hid (isDig c=false):=decide_eq_false (by omega)
  have h1':c<48:=by omega
  clear h1;go_enter Tryz.func156,Tryz.ntmps156;go_wp2_with fail;go_ret;exact⟨ret_bool (by rw[H.out];try(simp;omega)),rfl⟩
def digsL (s:List UInt8):Bool:= !s.isEmpty&&s.all fun c=>decide (48≤c.toNat∧c.toNat≤57)
theorem digsL_no {s:List UInt8} {k:Nat} (h:k<s.length) (hc:¬(48≤s[k].toNat∧s[k].toNat≤57)):digsL s=false:=by
 unfold digsL;have:(s.all fun c=>decide (48≤c.toNat∧c.toNat≤57))=false:=by
  rw[←Bool.not_eq_true,List.all_eq_true];intro h';have:=h' _ (List.getElem_mem h);simp at this;omega
 rw[this,Bool.and_false]
theorem digsL_yes {s:List UInt8} (h:∀j (hj:j<s.length),48≤s[j].toNat∧s[j].toNat≤57):digsL s=decide (0<s.length):=by
 unfold digsL;have:(s.all fun c=>decide (48≤c.toNat∧c.toNat≤57))=true:=by
  rw[List.all_eq_true];intro c hc;obtain⟨j,hj,rfl⟩:=List.getElem_of_mem hc;simpa using h j hj
 rw[this,Bool.and_true]
 cases s<;>rfl
theorem digsL_eq (s:List UInt8):digsL s=(!s.isEmpty&&allDig 10 s):=by
 unfold digsL allDig;congr 2
 funext c
 have hx:hexI c.toNat=if 48≤c.toNat∧c.toNat≤57 then (c.toNat:Int)-48 else if 97≤c.toNat∧c.toNat≤102 then (c.toNat:Int)-87 else if 65≤c.toNat∧c.toNat≤70 then (c.toNat:Int)-55 else -1:=rfl;rw[Bool.eq_iff_iff,Bool.and_eq_true,decide_eq_true_eq,decide_eq_true_eq,decide_eq_true_eq];by_cases h1:48≤c.toNat∧c.toNat≤57
 ·rw[if_pos h1]at hx;omega
 ·rw[if_neg h1]at hx
  by_cases h2:97≤c.toNat∧c.toNat≤102
  ·rw[if_pos h2]at hx;omega
  ·rw[if_neg h2]at hx
   by_cases h3:65≤c.toNat∧c.toNat≤70
   ·rw[if_pos h3]at hx;omega
   ·rw[if_neg h3]at hx;omega
set_option maxRecDepth 100000 in
theorem rdigits_any (s:List UInt8) (w:World) (hs:s.length≤140737488351232):
 Calls Tryz.prog 210 #[.string ⟨s.toArray⟩] w fun e w'=>e= .returned (.bool (digsL s))∧w=w':=by
 go_enter Tryz.func210,Tryz.ntmps210
 go_wp2_with fail
 go_loop [3] (fun i=>∃k:Nat,k≤s.length∧i= .int .i64 k∧Hid (∀j (hj:j<s.length),j<k→48≤s[j].toNat∧s[j].toNat≤57)) (fun i=>s.length-(intOf i).toNat)
 case atStart=>exact⟨0,Nat.zero_le _,rfl,fun j hj h=>by omega⟩
 case round=>
  obtain⟨k,hk,rfl,H⟩:=hrel;by_cases hlt:k<s.length
  ·have cd:=rdig01_any s[k].toNat s[k].toNat_lt
   by_cases hc:48≤s[k].toNat∧s[k].toNat≤57
   ·have H2:Hid (∀j (hj:j<s.length),j<k+1→48≤s[j].toNat∧s[j].toNat≤57):=fun j hj hjk=>by
     by_cases e:j=k
     ·subst e;exact hc
     ·exact H.out j hj (by omega)
    rw[show isDig s[k].toNat=true from decide_eq_true hc]at cd;clear hc;go_wp2_with(go_at_call 156;refine(cd _).mono ?_;rintro e w' ⟨rfl,rfl⟩);go_round
    case rel=>exact⟨k+1,by omega,by go_num,H2⟩
    case measure=>simp[intOf];omega
   ·rw[show isDig s[k].toNat=false from decide_eq_false hc]at cd
    have HF:=Lib.hid (digsL_no hlt hc);clear hc;go_wp2_with(go_at_call 156;refine(cd _).mono ?_;rintro e w' ⟨rfl,rfl⟩);go_ret;exact⟨ret_bool HF.out.symm,rfl⟩
  ·obtain rfl:k=s.length:=by omega
   have HF:=Lib.hid (digsL_yes (fun j hj=>H.out j hj hj));clear H;by_cases h0:0<s.length
   all_goals
    go_wp2_with fail;go_ret;exact⟨ret_bool (by rw[HF.out];simp[h0]),rfl⟩
set_option maxRecDepth 100000 in
theorem rparts_any (s:List UInt8) (c:UInt8) (w:World) (hs:s.length≤4000000000):
 Calls Tryz.prog 208 #[.string ⟨s.toArray⟩, .int .u8 (c.toNat:Int)] w fun e w'=>∃v,e= .returned v∧w'.ownsRow w.heap.size 9 1 v (partsL c s).length (strs (partsL c s))∧Below w.heap.size w w':=by
 go_enter Tryz.func208,Tryz.ntmps208
 go_wp2_with fail
 go_loopw [5,6,7] (fun v fv i wr=>∃(k f:Nat) (done:List (List UInt8)),k≤s.length+1∧i= .int .i64 k∧fv= .int .i64 f∧Hid (PartsAt c s done f k)∧wr.ownsRow w.heap.size 9 1 v done.length (strs done)∧Below w.heap.size w wr) (fun _ _ i _=>s.length+1-(intOf i).toNat)
 case atStart=>exact⟨0,0,[],Nat.zero_le _,rfl,rfl,parts_start c s,World.ownsRow_nil _ _ _ _,Below.refl _ _⟩
 case round=>
  obtain⟨k,f,done,hk,rfl,rfl,H,hown,hbl⟩:=hrel;have hsz:=hbl.size;obtain⟨hfk,hdk,_⟩:=H.out;by_cases hlt:k<s.length
  ·by_cases hc:s[k]=c
   ·have HN:=Lib.hid (parts_hit H.out hlt hc)
    have hc1:(s[k].toNat:Int)=(c.toNat:Int):=by rw[hc];try rfl
    have hcl:=cur_len s f k;have hce:List.take (k-f) (List.drop f s)=cur s f k:=rfl;generalize cur s f k=X at*;clear hc;go_wp2_with(at_builtin;refine wpList_append_vals e_str _ rfl _ _ rfl w.heap.size _ _ _ rfl hown _ _ _ rfl rfl (fun u hu=>by simp only[List.mem_cons,List.not_mem_nil,or_false]at hu;rcases hu with rfl;rfl) (by simp;omega) (by simp;omega) hsz ?_);intro v' w2 hown2 hgr _;go_wp2_with fail;go_roundw
    case rel=>exact⟨k+1,k+1,_,by omega,by go_num,by go_num,HN,by simpa using hown2,hbl.grown hgr hsz (fun g' hg'=>(hown.lt g' hg').1)⟩
    case measure=>simp[intOf];try omega
   ·have HN:=Lib.hid (parts_miss H.out hlt hc)
    have hc1:¬(s[k].toNat:Int)=(c.toNat:Int):=fun h=>hc (UInt8.toNat_inj.1 (Int.ofNat_inj.1 h))
    have hc2:((s[k].toNat:Int)==(c.toNat:Int))=false:=by rw[beq_eq_false_iff_ne];exact hc1
    have hc3:((k:Int)==(s.length:Int))=false:=by rw[beq_eq_false_iff_ne];omega
    have hc4:¬k=s.length:=by omega
    have hc5:¬s[k].toNat=c.toNat:=by omega
    clear hc;go_wp2_with fail;go_roundw
    case rel=>exact⟨k+1,f,done,by omega,by go_num,rfl,HN,hown,hbl⟩
    case measure=>simp[intOf];omega
  ·by_cases he:k=s.length
   ·subst he
    have HN:=Lib.hid (parts_last H.out);have hcl:=cur_len s f s.length;have hce:List.take (s.length-f) (List.drop f s)=cur s f s.length:=rfl;generalize cur s f s.length=X at*;go_wp2_with(at_builtin;refine wpList_append_vals e_str _ rfl _ _ rfl w.heap.size _ _ _ rfl hown _ _ _ rfl rfl (fun u hu=>by simp only[List.mem_cons,List.not_mem_nil,or_false]at hu;rcases hu with rfl;rfl) (by simp;omega) (by simp;omega) hsz ?_);intro v' w2 hown2 hgr _;go_wp2_with fail;go_roundw
    case rel=>exact⟨s.length+1,s.length+1,_,by omega,by go_num,by go_num,HN,by simpa using hown2,hbl.grown hgr hsz (fun g' hg'=>(hown.lt g' hg').1)⟩
    case measure=>simp[intOf];try omega
   ·obtain rfl:k=s.length+1:=by omega
    have HD:=Lib.hid (parts_done H.out);go_wp2_with fail;go_ret;exact⟨_,rfl,by rw[HD.out];exact hown,hbl⟩
end Go.Proofs.YtlhcfmcbpljbiaaGreatDoor
