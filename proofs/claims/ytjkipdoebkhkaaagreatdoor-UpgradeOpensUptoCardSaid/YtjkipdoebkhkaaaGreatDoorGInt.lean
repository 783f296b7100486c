/- internal/strconv.ParseUint at bases 16 and 8. -/
import Derived.Test.YtjkipdoebkhkaaaGreatDoorGFmt
import Derived.Lib.IfaceEq
import Derived.Lib.AtoiErrMem
import Derived.Shelf.Strings.SlTrimAscii
set_option linter.unusedVariables false
set_option linter.unusedSimpArgs false
set_option maxHeartbeats 16000000
namespace Go.Proofs.YtjkipdoebkhkaaaGreatDoor
open Go.RowKit
def uintT (max:Nat):Lib.NumEnd Nat→Value
 | .ok n=> .tuple #[.int .u64 (n:Int), .nilIface]
 | .syntax=> .tuple #[.int .u64 0, .iface 359 (.int .i64 2)]
 | .range=> .tuple #[.int .u64 (max:Int), .iface 359 (.int .i64 1)]
theorem lower_up:∀c:Fin 256,65≤c.val∧c.val≤90→bits BinOp.or IntKind.u8 (c.val:Int) 32=(c.val:Int)+32:=by decide+kernel
theorem lower_lo:∀c:Fin 256,97≤c.val∧c.val≤122→bits BinOp.or IntKind.u8 (c.val:Int) 32=(c.val:Int):=by decide+kernel
theorem lower_no:∀c:Fin 256,¬(65≤c.val∧c.val≤90)→¬(97≤c.val∧c.val≤122)→bits BinOp.or IntKind.u8 (c.val:Int) 32<97∨122<bits BinOp.or IntKind.u8 (c.val:Int) 32:=by decide+kernel
theorem ilower_any (c:Nat) (w:World):Calls Tryz.prog 318 #[.int .u8 (c:Int)] w fun e w'=>e= .returned (.int .u8 (bits BinOp.or IntKind.u8 (c:Int) 32))∧w=w':=by
 go_enter Tryz.func318,Tryz.ntmps318;go_wp2_with fail;go_ret;exact⟨rfl,rfl⟩
set_option maxRecDepth 100000 in
theorem iparse_16 (t:List UInt8) (hne:t≠[]) (hmax:t.length≤140737488351232) (w:World):
 Calls Tryz.prog 288 #[.string ⟨t.toArray⟩, .int .i64 16, .int .i64 64] w fun e w'=>e= .returned (uintT 18446744073709551615 (parseB 16 18446744073709551615 0 t))∧w'=Lib.bytesWorld w 5 ⟨t.toArray⟩:=by
 have hemp:t.isEmpty=false:=by cases t with|nil=>exact absurd rfl hne|cons a l=>rfl
 have hemp2:(t==[])=false:=by rw[beq_eq_false_iff_ne];exact hne
 have hcv:=Lib.run_convert_string_bytes (P:=Tryz.prog) w 9 51 5 ⟨t.toArray⟩ (u:= .string) Tryz.underlying9 Tryz.underlying51 Tryz.underlying5
 have hB:∀j,j<t.length→(Lib.bytesWorld w 5 ⟨t.toArray⟩).cell? ⟨w.heap.size,j,none⟩=some (.int .u8 (t.getD j 0).toNat):=fun j hj=>Lib.bytesWorld_cell w 5 ⟨t.toArray⟩ j hj
 obtain⟨W1,hW1⟩:∃W1,W1=Lib.bytesWorld w 5 ⟨t.toArray⟩:=⟨_,rfl⟩
 rw[←hW1]at hcv hB⊢
 clear hW1 hne
 obtain⟨n,hn⟩:∃n,n=t.length:=⟨_,rfl⟩
 have hmv:IntKind.u64.wrap (IntKind.u64.wrap 18446744073709551616-1)=18446744073709551615:=by
  rw[IntKind.wrap_u64,IntKind.wrap_u64];decide
 go_enter Tryz.func288,Tryz.ntmps288
 go_wp2
 go_loop [12,13,101] (fun vu vn vi=>∃(k acc:Nat) (a:Int),vu= .bool false∧vn= .int .u64 a∧vi= .int .i64 k∧k≤t.length∧Hid (a=(acc:Int)∧acc≤18446744073709551615∧parseB 16 18446744073709551615 0 t=parseB 16 18446744073709551615 acc (t.drop k)))
  (fun _ _ vi=>t.length-(intOf vi).toNat)
 case atStart=>exact⟨0,0,0,rfl,rfl,rfl,by omega,rfl,by omega,rfl⟩
 case round=>
  obtain⟨k,acc,a,rfl,rfl,rfl,hk,hh⟩:=hrel;obtain⟨ha,hacc,hdec⟩:=hh.out;clear hh;have a0:0≤a:=by omega
  have a1:a≤18446744073709551615:=by omega
  by_cases hkn:k<t.length
  ·have hc:=hB k hkn
   have hdrop:t.drop k=t[k]::t.drop (k+1):=List.drop_eq_getElem_cons hkn;have hget:t.getD k 0=t[k]:=by simp[List.getD,List.getElem?_eq_getElem hkn]
   rw[hdrop]at hdec;rw[hget]at hc;generalize t[k]=c at hc hdec;have hc256:c.toNat<256:=c.toNat_lt;clear hB hdrop hget;have hhx:hexI c.toNat=if 48≤c.toNat∧c.toNat≤57 then (c.toNat:Int)-48 else if 97≤c.toNat∧c.toNat≤102 then (c.toNat:Int)-87 else if 65≤c.toNat∧c.toNat≤70 then (c.toNat:Int)-55 else -1:=rfl;have hup:=lower_up ⟨c.toNat,hc256⟩;have hlo:=lower_lo ⟨c.toNat,hc256⟩;have hno:=lower_no ⟨c.toNat,hc256⟩;simp only at hup hlo hno;have cl:=ilower_any c.toNat;by_cases hsyn:hexI c.toNat<0∨(16:Int)≤hexI c.toNat
   ·have hF:=parseB_syn (max:=18446744073709551615) (acc:=acc) (r:=t.drop (k+1)) hsyn
    rw[hF]at hdec;have HD:=Lib.hid hdec;clear hacc hF ha hdec;by_cases q1:48≤c.toNat∧c.toNat≤57
    ·rw[if_pos q1]at hhx
     obtain⟨q2,q3⟩:=q1;have q4:16+48≤c.toNat:=by omega
     clear hhx hsyn hup hlo hno;go_wp2_with fail
     all_goals go_ret2
     all_goals exact⟨by rw[HD.out];rfl,rfl⟩
    ·by_cases q2:65≤c.toNat∧c.toNat≤90
     ·have h:=hup q2
      have q4:16+55≤c.toNat:=by
       rw[if_neg q1,if_neg (by omega)]at hhx;by_cases q5:65≤c.toNat∧c.toNat≤70
       ·rw[if_pos q5]at hhx;omega
       ·omega
      rw[h]at cl;obtain⟨q2,q3⟩:=q2;clear hhx hsyn hup hlo hno h q1;go_wp2_with(go_at_call 318;refine(cl _).mono ?_;rintro e w' ⟨rfl,rfl⟩)
      all_goals go_ret2
      all_goals exact⟨by rw[HD.out];rfl,rfl⟩
     ·by_cases q3:97≤c.toNat∧c.toNat≤122
      ·have h:=hlo q3
       have q4:16+87≤c.toNat:=by
        rw[if_neg q1]at hhx;by_cases q5:97≤c.toNat∧c.toNat≤102
        ·rw[if_pos q5]at hhx;omega
        ·omega
       rw[h]at cl;obtain⟨q3,q5⟩:=q3;clear hhx hsyn hup hlo hno h q1 q2;go_wp2_with(go_at_call 318;refine(cl _).mono ?_;rintro e w' ⟨rfl,rfl⟩)
       all_goals go_ret2
       all_goals exact⟨by rw[HD.out];rfl,rfl⟩
      ·have h:=hno q2 q3
       by_cases q7:c.toNat=95
       ·have q8:bits BinOp.or IntKind.u8 95 32=127:=by decide+kernel
        rw[q7]at hc cl;rw[show((95:Nat):Int)=95 from rfl]at hc cl;rw[q8]at cl;clear hhx hsyn hup hlo hno q2 q3 h q1;go_wp2_with(go_at_call 318;refine(cl _).mono ?_;rintro e w' ⟨rfl,rfl⟩)
        all_goals go_ret2
        all_goals exact⟨by rw[HD.out];rfl,rfl⟩
       have q8:¬(c.toNat:Int)=95:=by omega
       clear hhx hsyn hup hlo hno q2 q3 q7;generalize bits BinOp.or IntKind.u8 (c.toNat:Int) 32=z at*;have q6:(c.toNat:Int)<48∨57<(c.toNat:Int):=by omega
       clear q1;rcases q6 with q6|q6
       all_goals
        rcases h with h|h
        all_goals
         go_wp2_with(go_at_call 318;refine(cl _).mono ?_;rintro e w' ⟨rfl,rfl⟩)
         all_goals go_ret2
         all_goals exact⟨by rw[HD.out];rfl,rfl⟩
   ·have h0:0≤hexI c.toNat:=by omega
    have h1:hexI c.toNat<(16:Int):=by omega
    clear hsyn;by_cases hr:18446744073709551615<acc*16+(hexI c.toNat).toNat
    ·have hF:=parseB_rng (r:=t.drop (k+1)) h0 h1 hr
     rw[hF]at hdec;have HD:=Lib.hid hdec;have hr':18446744073709551615<a*16+hexI c.toNat:=by omega
     clear hacc hF ha hdec hr;have icut:1152921504606846976≤a:=by omega
     by_cases q1:48≤c.toNat∧c.toNat≤57
     ·rw[if_pos q1]at hhx
      have hv:=hhx;obtain⟨q2,q3⟩:=q1;rw[hhx]at h0 h1 hr';clear hhx hup hlo hno hv;go_wp2_with fail
      all_goals go_ret2
      all_goals exact⟨by rw[HD.out];rfl,rfl⟩
     ·rw[if_neg q1]at hhx
      by_cases q3:97≤c.toNat∧c.toNat≤102
      ·rw[if_pos q3]at hhx
       have h:=hlo (by omega);rw[h]at cl;obtain⟨q3,q5⟩:=q3;rw[hhx]at h0 h1 hr';clear hhx hup hlo hno h;go_wp2_with(go_at_call 318;refine(cl _).mono ?_;rintro e w' ⟨rfl,rfl⟩)
       all_goals go_ret2
       all_goals exact⟨by rw[HD.out];rfl,rfl⟩
      ·rw[if_neg q3]at hhx
       by_cases q2:65≤c.toNat∧c.toNat≤70
       ·rw[if_pos q2]at hhx
        have h:=hup (by omega);rw[h]at cl;obtain⟨q2,q5⟩:=q2;rw[hhx]at h0 h1 hr';clear hhx hup hlo hno h;go_wp2_with(go_at_call 318;refine(cl _).mono ?_;rintro e w' ⟨rfl,rfl⟩)
        all_goals go_ret2
        all_goals exact⟨by rw[HD.out];rfl,rfl⟩
       ·rw[if_neg q2]at hhx;omega
    ·have hF:=parseB_go (r:=t.drop (k+1)) h0 h1 (show acc*16+(hexI c.toNat).toNat≤18446744073709551615 by omega)
     have hr':a*16+hexI c.toNat≤18446744073709551615:=by omega
     have HN:Hid (a*16+hexI c.toNat=((acc*16+(hexI c.toNat).toNat:Nat):Int)∧acc*16+(hexI c.toNat).toNat≤18446744073709551615∧parseB 16 18446744073709551615 0 t=parseB 16 18446744073709551615 (acc*16+(hexI c.toNat).toNat) (t.drop (k+1))):=Lib.hid ⟨by omega,by omega,hdec.trans hF⟩;have icut:a<1152921504606846976:=by omega
     clear hacc hF hdec ha hr;by_cases q1:48≤c.toNat∧c.toNat≤57
     ·rw[if_pos q1]at hhx
      have hv:=hhx;obtain⟨q2,q3⟩:=q1;rw[hhx]at h0 h1 hr' HN;clear hhx hup hlo hno hv;go_wp2_with fail;go_round
      case rel=>exact⟨k+1,_,_,rfl,rfl,by go_num,by omega,by have:=HN.out.1;omega,HN.out.2⟩
      case measure=>simp[intOf];omega
     ·rw[if_neg q1]at hhx
      by_cases q3:97≤c.toNat∧c.toNat≤102
      ·rw[if_pos q3]at hhx
       have h:=hlo (by omega);rw[h]at cl;obtain⟨q3,q5⟩:=q3;rw[hhx]at h0 h1 hr' HN;clear hhx hup hlo hno h;go_wp2_with(go_at_call 318;refine(cl _).mono ?_;rintro e w' ⟨rfl,rfl⟩);go_round
       case rel=>exact⟨k+1,_,_,rfl,rfl,by go_num,by omega,by have:=HN.out.1;omega,HN.out.2⟩
       case measure=>simp[intOf];omega
      ·rw[if_neg q3]at hhx
       by_cases q2:65≤c.toNat∧c.toNat≤70
       ·rw[if_pos q2]at hhx
        have h:=hup (by omega);rw[h]at cl;obtain⟨q2,q5⟩:=q2;rw[hhx]at h0 h1 hr' HN;clear hhx hup hlo hno h;go_wp2_with(go_at_call 318;refine(cl _).mono ?_;rintro e w' ⟨rfl,rfl⟩);go_round
        case rel=>exact⟨k+1,_,_,rfl,rfl,by go_num,by omega,by have:=HN.out.1;omega,HN.out.2⟩
        case measure=>simp[intOf];omega
       ·rw[if_neg q2]at hhx;omega
  ·have hkk:k=t.length:=by omega
   subst hkk;have hF:parseB 16 18446744073709551615 acc (t.drop t.length)= .ok acc:=by rw[List.drop_eq_nil_of_le (by omega)];rfl
   rw[hF]at hdec;subst ha;have HD:=Lib.hid hdec;clear hacc hF a0 a1 hdec hB;go_wp2_with fail;go_ret2;exact⟨by rw[HD.out];rfl,rfl⟩
set_option maxRecDepth 100000 in
theorem iparse_8 (t:List UInt8) (hne:t≠[]) (hmax:t.length≤140737488351232) (w:World):
 Calls Tryz.prog 288 #[.string ⟨t.toArray⟩, .int .i64 8, .int .i64 64] w fun e w'=>e= .returned (uintT 18446744073709551615 (parseB 8 18446744073709551615 0 t))∧w'=Lib.bytesWorld w 5 ⟨t.toArray⟩:=by
 have hemp:t.isEmpty=false:=by cases t with|nil=>exact absurd rfl hne|cons a l=>rfl
 have hemp2:(t==[])=false:=by rw[beq_eq_false_iff_ne];exact hne
 have hcv:=Lib.run_convert_string_bytes (P:=Tryz.prog) w 9 51 5 ⟨t.toArray⟩ (u:= .string) Tryz.underlying9 Tryz.underlying51 Tryz.underlying5
 have hB:∀j,j<t.length→(Lib.bytesWorld w 5 ⟨t.toArray⟩).cell? ⟨w.heap.size,j,none⟩=some (.int .u8 (t.getD j 0).toNat):=fun j hj=>Lib.bytesWorld_cell w 5 ⟨t.toArray⟩ j hj
 obtain⟨W1,hW1⟩:∃W1,W1=Lib.bytesWorld w 5 ⟨t.toArray⟩:=⟨_,rfl⟩
 rw[←hW1]at hcv hB⊢
 clear hW1 hne
 obtain⟨n,hn⟩:∃n,n=t.length:=⟨_,rfl⟩
 have hmv:IntKind.u64.wrap (IntKind.u64.wrap 18446744073709551616-1)=18446744073709551615:=by
  rw[IntKind.wrap_u64,IntKind.wrap_u64];decide
 go_enter Tryz.func288,Tryz.ntmps288
 go_wp2
 go_loop [12,13,101] (fun vu vn vi=>∃(k acc:Nat) (a:Int),vu= .bool false∧vn= .int .u64 a∧vi= .int .i64 k∧k≤t.length∧Hid (a=(acc:Int)∧acc≤18446744073709551615∧parseB 8 18446744073709551615 0 t=parseB 8 18446744073709551615 acc (t.drop k)))
  (fun _ _ vi=>t.length-(intOf vi).toNat)
 case atStart=>exact⟨0,0,0,rfl,rfl,rfl,by omega,rfl,by omega,rfl⟩
 case round=>
  obtain⟨k,acc,a,rfl,rfl,rfl,hk,hh⟩:=hrel;obtain⟨ha,hacc,hdec⟩:=hh.out;clear hh;have a0:0≤a:=by omega
  have a1:a≤18446744073709551615:=by omega
  by_cases hkn:k<t.length
  ·have hc:=hB k hkn
   have hdrop:t.drop k=t[k]::t.drop (k+1):=List.drop_eq_getElem_cons hkn;have hget:t.getD k 0=t[k]:=by simp[List.getD,List.getElem?_eq_getElem hkn]
   rw[hdrop]at hdec;rw[hget]at hc;generalize t[k]=c at hc hdec;have hc256:c.toNat<256:=c.toNat_lt;clear hB hdrop hget;have hhx:hexI c.toNat=if 48≤c.toNat∧c.toNat≤57 then (c.toNat:Int)-48 else if 97≤c.toNat∧c.toNat≤102 then (c.toNat:Int)-87 else if 65≤c.toNat∧c.toNat≤70 then (c.toNat:Int)-55 else -1:=rfl;have hup:=lower_up ⟨c.toNat,hc256⟩;have hlo:=lower_lo ⟨c.toNat,hc256⟩;have hno:=lower_no ⟨c.toNat,hc256⟩;simp only at hup hlo hno;have cl:=ilower_any c.toNat;by_cases hsyn:hexI c.toNat<0∨(8:Int)≤hexI c.toNat
   ·have hF:=parseB_syn (max:=18446744073709551615) (acc:=acc) (r:=t.drop (k+1)) hsyn
    rw[hF]at hdec;have HD:=Lib.hid hdec;clear hacc hF ha hdec;by_cases q1:48≤c.toNat∧c.toNat≤57
    ·rw[if_pos q1]at hhx
     obtain⟨q2,q3⟩:=q1;have q4:8+48≤c.toNat:=by omega
     clear hhx hsyn hup hlo hno;go_wp2_with fail
     all_goals go_ret2
     all_goals exact⟨by rw[HD.out];rfl,rfl⟩
    ·by_cases q2:65≤c.toNat∧c.toNat≤90
     ·have h:=hup q2
      have q4:8+55≤c.toNat:=by
       rw[if_neg q1,if_neg (by omega)]at hhx;by_cases q5:65≤c.toNat∧c.toNat≤70
       ·rw[if_pos q5]at hhx;omega
       ·omega
      rw[h]at cl;obtain⟨q2,q3⟩:=q2;clear hhx hsyn hup hlo hno h q1;go_wp2_with(go_at_call 318;refine(cl _).mono ?_;rintro e w' ⟨rfl,rfl⟩)
      all_goals go_ret2
      all_goals exact⟨by rw[HD.out];rfl,rfl⟩
     ·by_cases q3:97≤c.toNat∧c.toNat≤122
      ·have h:=hlo q3
       have q4:8+87≤c.toNat:=by
        rw[if_neg q1]at hhx;by_cases q5:97≤c.toNat∧c.toNat≤102
        ·rw[if_pos q5]at hhx;omega
        ·omega
       rw[h]at cl;obtain⟨q3,q5⟩:=q3;clear hhx hsyn hup hlo hno h q1 q2;go_wp2_with(go_at_call 318;refine(cl _).mono ?_;rintro e w' ⟨rfl,rfl⟩)
       all_goals go_ret2
       all_goals exact⟨by rw[HD.out];rfl,rfl⟩
      ·have h:=hno q2 q3
       by_cases q7:c.toNat=95
       ·have q8:bits BinOp.or IntKind.u8 95 32=127:=by decide+kernel
        rw[q7]at hc cl;rw[show((95:Nat):Int)=95 from rfl]at hc cl;rw[q8]at cl;clear hhx hsyn hup hlo hno q2 q3 h q1;go_wp2_with(go_at_call 318;refine(cl _).mono ?_;rintro e w' ⟨rfl,rfl⟩)
        all_goals go_ret2
        all_goals exact⟨by rw[HD.out];rfl,rfl⟩
       have q8:¬(c.toNat:Int)=95:=by omega
       clear hhx hsyn hup hlo hno q2 q3 q7;generalize bits BinOp.or IntKind.u8 (c.toNat:Int) 32=z at*;have q6:(c.toNat:Int)<48∨57<(c.toNat:Int):=by omega
       clear q1;rcases q6 with q6|q6
       all_goals
        rcases h with h|h
        all_goals
         go_wp2_with(go_at_call 318;refine(cl _).mono ?_;rintro e w' ⟨rfl,rfl⟩)
         all_goals go_ret2
         all_goals exact⟨by rw[HD.out];rfl,rfl⟩
   ·have h0:0≤hexI c.toNat:=by omega
    have h1:hexI c.toNat<(8:Int):=by omega
    clear hsyn;by_cases hr:18446744073709551615<acc*8+(hexI c.toNat).toNat
    ·have hF:=parseB_rng (r:=t.drop (k+1)) h0 h1 hr
     rw[hF]at hdec;have HD:=Lib.hid hdec;have hr':18446744073709551615<a*8+hexI c.toNat:=by omega
     clear hacc hF ha hdec hr;have icut:2305843009213693952≤a:=by omega
     by_cases q1:48≤c.toNat∧c.toNat≤57
     ·rw[if_pos q1]at hhx
      have hv:=hhx;obtain⟨q2,q3⟩:=q1;rw[hhx]at h0 h1 hr';clear hhx hup hlo hno hv;go_wp2_with fail
      all_goals go_ret2
      all_goals exact⟨by rw[HD.out];rfl,rfl⟩
     ·rw[if_neg q1]at hhx
      by_cases q3:97≤c.toNat∧c.toNat≤102
      ·rw[if_pos q3]at hhx;omega
      ·rw[if_neg q3]at hhx
       by_cases q2:65≤c.toNat∧c.toNat≤70
       ·rw[if_pos q2]at hhx;omega
       ·rw[if_neg q2]at hhx;omega
    ·have hF:=parseB_go (r:=t.drop (k+1)) h0 h1 (show acc*8+(hexI c.toNat).toNat≤18446744073709551615 by omega)
     have hr':a*8+hexI c.toNat≤18446744073709551615:=by omega
     have HN:Hid (a*8+hexI c.toNat=((acc*8+(hexI c.toNat).toNat:Nat):Int)∧acc*8+(hexI c.toNat).toNat≤18446744073709551615∧parseB 8 18446744073709551615 0 t=parseB 8 18446744073709551615 (acc*8+(hexI c.toNat).toNat) (t.drop (k+1))):=Lib.hid ⟨by omega,by omega,hdec.trans hF⟩;have icut:a<2305843009213693952:=by omega
     clear hacc hF hdec ha hr;by_cases q1:48≤c.toNat∧c.toNat≤57
     ·rw[if_pos q1]at hhx
      have hv:=hhx;obtain⟨q2,q3⟩:=q1;rw[hhx]at h0 h1 hr' HN;clear hhx hup hlo hno hv;go_wp2_with fail;go_round
      case rel=>exact⟨k+1,_,_,rfl,rfl,by go_num,by omega,by have:=HN.out.1;omega,HN.out.2⟩
      case measure=>simp[intOf];omega
     ·rw[if_neg q1]at hhx
      by_cases q3:97≤c.toNat∧c.toNat≤102
      ·rw[if_pos q3]at hhx;omega
      ·rw[if_neg q3]at hhx
       by_cases q2:65≤c.toNat∧c.toNat≤70
       ·rw[if_pos q2]at hhx;omega
       ·rw[if_neg q2]at hhx;omega
  ·have hkk:k=t.length:=by omega
   subst hkk;have hF:parseB 8 18446744073709551615 acc (t.drop t.length)= .ok acc:=by rw[List.drop_eq_nil_of_le (by omega)];rfl
   rw[hF]at hdec;subst ha;have HD:=Lib.hid hdec;clear hacc hF a0 a1 hdec hB;go_wp2_with fail;go_ret2;exact⟨by rw[HD.out];rfl,rfl⟩
set_option maxRecDepth 100000 in
theorem iparse_16b (t:List UInt8) (hne:t≠[]) (hmax:t.length≤140737488351232) (w:World):
 Calls Tryz.prog 288 #[.string ⟨t.toArray⟩, .int .i64 16, .int .i64 8] w fun e w'=>e= .returned (uintT 255 (parseB 16 255 0 t))∧w'=Lib.bytesWorld w 5 ⟨t.toArray⟩:=by
 have hemp:t.isEmpty=false:=by cases t with|nil=>exact absurd rfl hne|cons a l=>rfl
 have hemp2:(t==[])=false:=by rw[beq_eq_false_iff_ne];exact hne
 have hcv:=Lib.run_convert_string_bytes (P:=Tryz.prog) w 9 51 5 ⟨t.toArray⟩ (u:= .string) Tryz.underlying9 Tryz.underlying51 Tryz.underlying5
 have hB:∀j,j<t.length→(Lib.bytesWorld w 5 ⟨t.toArray⟩).cell? ⟨w.heap.size,j,none⟩=some (.int .u8 (t.getD j 0).toNat):=fun j hj=>Lib.bytesWorld_cell w 5 ⟨t.toArray⟩ j hj
 obtain⟨W1,hW1⟩:∃W1,W1=Lib.bytesWorld w 5 ⟨t.toArray⟩:=⟨_,rfl⟩
 rw[←hW1]at hcv hB⊢
 clear hW1 hne
 obtain⟨n,hn⟩:∃n,n=t.length:=⟨_,rfl⟩
 have hmv:IntKind.u64.wrap (IntKind.u64.wrap 256-1)=255:=by
  rw[IntKind.wrap_u64,IntKind.wrap_u64];decide
 go_enter Tryz.func288,Tryz.ntmps288
 go_wp2
 go_loop [12,13,101] (fun vu vn vi=>∃(k acc:Nat) (a:Int),vu= .bool false∧vn= .int .u64 a∧vi= .int .i64 k∧k≤t.length∧Hid (a=(acc:Int)∧acc≤255∧parseB 16 255 0 t=parseB 16 255 acc (t.drop k)))
  (fun _ _ vi=>t.length-(intOf vi).toNat)
 case atStart=>exact⟨0,0,0,rfl,rfl,rfl,by omega,rfl,by omega,rfl⟩
 case round=>
  obtain⟨k,acc,a,rfl,rfl,rfl,hk,hh⟩:=hrel;obtain⟨ha,hacc,hdec⟩:=hh.out;clear hh;have a0:0≤a:=by omega
  have a1:a≤255:=by omega
  by_cases hkn:k<t.length
  ·have hc:=hB k hkn
   have hdrop:t.drop k=t[k]::t.drop (k+1):=List.drop_eq_getElem_cons hkn;have hget:t.getD k 0=t[k]:=by simp[List.getD,List.getElem?_eq_getElem hkn]
   rw[hdrop]at hdec;rw[hget]at hc;generalize t[k]=c at hc hdec;have hc256:c.toNat<256:=c.toNat_lt;clear hB hdrop hget;have hhx:hexI c.toNat=if 48≤c.toNat∧c.toNat≤57 then (c.toNat:Int)-48 else if 97≤c.toNat∧c.toNat≤102 then (c.toNat:Int)-87 else if 65≤c.toNat∧c.toNat≤70 then (c.toNat:Int)-55 else -1:=rfl;have hup:=lower_up ⟨c.toNat,hc256⟩;have hlo:=lower_lo ⟨c.toNat,hc256⟩;have hno:=lower_no ⟨c.toNat,hc256⟩;simp only at hup hlo hno;have cl:=ilower_any c.toNat;by_cases hsyn:hexI c.toNat<0∨(16:Int)≤hexI c.toNat
   ·have hF:=parseB_syn (max:=255) (acc:=acc) (r:=t.drop (k+1)) hsyn
    rw[hF]at hdec;have HD:=Lib.hid hdec;clear hacc hF ha hdec;by_cases q1:48≤c.toNat∧c.toNat≤57
    ·rw[if_pos q1]at hhx
     obtain⟨q2,q3⟩:=q1;have q4:16+48≤c.toNat:=by omega
     clear hhx hsyn hup hlo hno;go_wp2_with fail
     all_goals go_ret2
     all_goals exact⟨by rw[HD.out];rfl,rfl⟩
    ·by_cases q2:65≤c.toNat∧c.toNat≤90
     ·have h:=hup q2
      have q4:16+55≤c.toNat:=by
       rw[if_neg q1,if_neg (by omega)]at hhx;by_cases q5:65≤c.toNat∧c.toNat≤70
       ·rw[if_pos q5]at hhx;omega
       ·omega
      rw[h]at cl;obtain⟨q2,q3⟩:=q2;clear hhx hsyn hup hlo hno h q1;go_wp2_with(go_at_call 318;refine(cl _).mono ?_;rintro e w' ⟨rfl,rfl⟩)
      all_goals go_ret2
      all_goals exact⟨by rw[HD.out];rfl,rfl⟩
     ·by_cases q3:97≤c.toNat∧c.toNat≤122
      ·have h:=hlo q3
       have q4:16+87≤c.toNat:=by
        rw[if_neg q1]at hhx;by_cases q5:97≤c.toNat∧c.toNat≤102
        ·rw[if_pos q5]at hhx;omega
        ·omega
       rw[h]at cl;obtain⟨q3,q5⟩:=q3;clear hhx hsyn hup hlo hno h q1 q2;go_wp2_with(go_at_call 318;refine(cl _).mono ?_;rintro e w' ⟨rfl,rfl⟩)
       all_goals go_ret2
       all_goals exact⟨by rw[HD.out];rfl,rfl⟩
      ·have h:=hno q2 q3
       by_cases q7:c.toNat=95
       ·have q8:bits BinOp.or IntKind.u8 95 32=127:=by decide+kernel
        rw[q7]at hc cl;rw[show((95:Nat):Int)=95 from rfl]at hc cl;rw[q8]at cl;clear hhx hsyn hup hlo hno q2 q3 h q1;go_wp2_with(go_at_call 318;refine(cl _).mono ?_;rintro e w' ⟨rfl,rfl⟩)
        all_goals go_ret2
        all_goals exact⟨by rw[HD.out];rfl,rfl⟩
       have q8:¬(c.toNat:Int)=95:=by omega
       clear hhx hsyn hup hlo hno q2 q3 q7;generalize bits BinOp.or IntKind.u8 (c.toNat:Int) 32=z at*;have q6:(c.toNat:Int)<48∨57<(c.toNat:Int):=by omega
       clear q1;rcases q6 with q6|q6
       all_goals
        rcases h with h|h
        all_goals
         go_wp2_with(go_at_call 318;refine(cl _).mono ?_;rintro e w' ⟨rfl,rfl⟩)
         all_goals go_ret2
         all_goals exact⟨by rw[HD.out];rfl,rfl⟩
   ·have h0:0≤hexI c.toNat:=by omega
    have h1:hexI c.toNat<(16:Int):=by omega
    clear hsyn;by_cases hr:255<acc*16+(hexI c.toNat).toNat
    ·have hF:=parseB_rng (r:=t.drop (k+1)) h0 h1 hr
     rw[hF]at hdec;have HD:=Lib.hid hdec;have hr':255<a*16+hexI c.toNat:=by omega
     clear hacc hF ha hdec hr;by_cases q1:48≤c.toNat∧c.toNat≤57
     ·rw[if_pos q1]at hhx
      have hv:=hhx;obtain⟨q2,q3⟩:=q1;rw[hhx]at h0 h1 hr';clear hhx hup hlo hno hv;go_wp2_with fail
      all_goals go_ret2
      all_goals exact⟨by rw[HD.out];rfl,rfl⟩
     ·rw[if_neg q1]at hhx
      by_cases q3:97≤c.toNat∧c.toNat≤102
      ·rw[if_pos q3]at hhx
       have h:=hlo (by omega);rw[h]at cl;obtain⟨q3,q5⟩:=q3;rw[hhx]at h0 h1 hr';clear hhx hup hlo hno h;go_wp2_with(go_at_call 318;refine(cl _).mono ?_;rintro e w' ⟨rfl,rfl⟩)
       all_goals go_ret2
       all_goals exact⟨by rw[HD.out];rfl,rfl⟩
      ·rw[if_neg q3]at hhx
       by_cases q2:65≤c.toNat∧c.toNat≤70
       ·rw[if_pos q2]at hhx
        have h:=hup (by omega);rw[h]at cl;obtain⟨q2,q5⟩:=q2;rw[hhx]at h0 h1 hr';clear hhx hup hlo hno h;go_wp2_with(go_at_call 318;refine(cl _).mono ?_;rintro e w' ⟨rfl,rfl⟩)
        all_goals go_ret2
        all_goals exact⟨by rw[HD.out];rfl,rfl⟩
       ·rw[if_neg q2]at hhx;omega
    ·have hF:=parseB_go (r:=t.drop (k+1)) h0 h1 (show acc*16+(hexI c.toNat).toNat≤255 by omega)
     have hr':a*16+hexI c.toNat≤255:=by omega
     have HN:Hid (a*16+hexI c.toNat=((acc*16+(hexI c.toNat).toNat:Nat):Int)∧acc*16+(hexI c.toNat).toNat≤255∧parseB 16 255 0 t=parseB 16 255 (acc*16+(hexI c.toNat).toNat) (t.drop (k+1))):=Lib.hid ⟨by omega,by omega,hdec.trans hF⟩;have icut:a<1152921504606846976:=by omega
     clear hacc hF hdec ha hr;by_cases q1:48≤c.toNat∧c.toNat≤57
     ·rw[if_pos q1]at hhx
      have hv:=hhx;obtain⟨q2,q3⟩:=q1;rw[hhx]at h0 h1 hr' HN;clear hhx hup hlo hno hv;go_wp2_with fail;go_round
      case rel=>exact⟨k+1,_,_,rfl,rfl,by go_num,by omega,by have:=HN.out.1;omega,HN.out.2⟩
      case measure=>simp[intOf];omega
     ·rw[if_neg q1]at hhx
      by_cases q3:97≤c.toNat∧c.toNat≤102
      ·rw[if_pos q3]at hhx
       have h:=hlo (by omega);rw[h]at cl;obtain⟨q3,q5⟩:=q3;rw[hhx]at h0 h1 hr' HN;clear hhx hup hlo hno h;go_wp2_with(go_at_call 318;refine(cl _).mono ?_;rintro e w' ⟨rfl,rfl⟩);go_round
       case rel=>exact⟨k+1,_,_,rfl,rfl,by go_num,by omega,by have:=HN.out.1;omega,HN.out.2⟩
       case measure=>simp[intOf];omega
      ·rw[if_neg q3]at hhx
       by_cases q2:65≤c.toNat∧c.toNat≤70
       ·rw[if_pos q2]at hhx
        have h:=hup (by omega);rw[h]at cl;obtain⟨q2,q5⟩:=q2;rw[hhx]at h0 h1 hr' HN;clear hhx hup hlo hno h;go_wp2_with(go_at_call 318;refine(cl _).mono ?_;rintro e w' ⟨rfl,rfl⟩);go_round
        case rel=>exact⟨k+1,_,_,rfl,rfl,by go_num,by omega,by have:=HN.out.1;omega,HN.out.2⟩
        case measure=>simp[intOf];omega
       ·rw[if_neg q2]at hhx;omega
  ·have hkk:k=t.length:=by omega
   subst hkk;have hF:parseB 16 255 acc (t.drop t.length)= .ok acc:=by rw[List.drop_eq_nil_of_le (by omega)];rfl
   rw[hF]at hdec;subst ha;have HD:=Lib.hid hdec;clear hacc hF a0 a1 hdec hB;go_wp2_with fail;go_ret2;exact⟨by rw[HD.out];rfl,rfl⟩
structure Env (w:World):Prop where
 shaped:w.ShapedOpen Tryz.prog
 errS:∃t p,w.cell? ⟨4,0,none⟩=some (.iface t p)
 errR:∃t p,w.cell? ⟨5,0,none⟩=some (.iface t p)
theorem cell_lt {w:World} {a:Addr} {v:Value} (h:w.cell? a=some v):a.block<w.heap.size:=Lib.lt_of_cell h
theorem Env.below {w w':World} (h:Env w) (hb:Below w.heap.size w w'):Env w':=by
 obtain⟨t,p,h1⟩:=h.errS;obtain⟨t2,p2,h2⟩:=h.errR;exact⟨shaped_below h.shaped hb,⟨t,p,(hb.cell (cell_lt h1)).trans h1⟩,⟨t2,p2,(hb.cell (cell_lt h2)).trans h2⟩⟩
theorem lift_env {f:FuncId} {args:Array Value} {v:Value} {w:World} (hE:Env w) (h:∀W,Env W→Calls Tryz.prog f args W fun e W'=>e= .returned v∧Below W.heap.size W W'):∀W,Below w.heap.size w W→Calls Tryz.prog f args W fun e W'=>e= .returned v∧Below w.heap.size w W':=fun W hW=>
 (h W (hE.below hW)).mono fun e W' ⟨he,hb⟩=>⟨he,hW.trans (hb.mono hW.size)⟩
theorem below_bytes (w:World) (t:List UInt8):Below w.heap.size w (Lib.bytesWorld w 5 ⟨t.toArray⟩):=by
 exact Lib.bytesWorld_below _ _ _
set_option maxRecDepth 100000 in
theorem pu16_ok (t:List UInt8) (hne:t≠[]) (hmax:t.length≤140737488351232) (v:Nat) (h:parseB 16 18446744073709551615 0 t= .ok v) (w:World):
 Calls Tryz.prog 247 #[.string ⟨t.toArray⟩, .int .i64 16, .int .i64 64] w fun e w'=>e= .returned (.tuple #[.int .u64 (v:Int), .nilIface])∧Below w.heap.size w w':=by
 have ci:=iparse_16 t hne hmax w
 rw[h]at ci
 simp only[uintT]at ci
 have hb:=below_bytes w t
 clear h hne
 go_enter Tryz.func247,Tryz.ntmps247
 go_wp2_with(go_at_call 288;refine ci.mono ?_;rintro e w1 ⟨rfl,rfl⟩)
 go_ret2
 exact⟨rfl,hb⟩
set_option maxRecDepth 100000 in
theorem pu16_bad (t:List UInt8) (hne:t≠[]) (hmax:t.length≤140737488351232) (h:∀v,parseB 16 18446744073709551615 0 t≠ .ok v) (w:World) (hE:Env w):
 Calls Tryz.prog 247 #[.string ⟨t.toArray⟩, .int .i64 16, .int .i64 64] w fun e w'=>∃(n:Int) (T:TypeId) (q:Value),0≤n∧e= .returned (.tuple #[.int .u64 n, .iface T q])∧Below w.heap.size w w':=by
 have ci:=iparse_16 t hne hmax w
 have hb:=below_bytes w t
 have hE1:=hE.below hb
 obtain⟨ts,ps,hS⟩:=hE1.errS
 obtain⟨tr,pr,hR⟩:=hE1.errR
 generalize Lib.bytesWorld w 5 ⟨t.toArray⟩=w1 at*
 cases hp:parseB 16 18446744073709551615 0 t with
 |ok v=>exact absurd hp (h v)
 |«syntax»=>
  rw[hp]at ci;simp only[uintT]at ci;have ce:=fun (fn:ByteArray) (b bi:Int)=>Tryz.strconv_toError_syntax fn ⟨t.toArray⟩ b bi _ w1 (by show t.length≤_;omega) hS (.inr ⟨ts,ps,rfl⟩)
  clear h hne hp hS hR;go_enter Tryz.func247,Tryz.ntmps247;go_wp2_with(first|(go_at_call 288;refine ci.mono ?_;rintro e w2 ⟨rfl,rfl⟩)|(go_at_call 282;refine(ce _ _ _).mono ?_;rintro e w2 ⟨N,rfl,_,_,hb2⟩));go_ret2;exact⟨_,_,_,by omega,rfl,hb.trans (hb2.mono hb.size)⟩
 |range=>
  rw[hp]at ci;simp only[uintT]at ci;have ce:=fun (fn:ByteArray) (b bi:Int)=>Tryz.strconv_toError_range fn ⟨t.toArray⟩ b bi _ w1 (by show t.length≤_;omega) hR (.inr ⟨tr,pr,rfl⟩)
  clear h hne hp hS hR;go_enter Tryz.func247,Tryz.ntmps247;go_wp2_with(first|(go_at_call 288;refine ci.mono ?_;rintro e w2 ⟨rfl,rfl⟩)|(go_at_call 282;refine(ce _ _ _).mono ?_;rintro e w2 ⟨N,rfl,_,_,hb2⟩));go_ret2;exact⟨_,_,_,by omega,rfl,hb.trans (hb2.mono hb.size)⟩
set_option maxRecDepth 100000 in
theorem pu8_ok (t:List UInt8) (hne:t≠[]) (hmax:t.length≤140737488351232) (v:Nat) (h:parseB 8 18446744073709551615 0 t= .ok v) (w:World):
 Calls Tryz.prog 247 #[.string ⟨t.toArray⟩, .int .i64 8, .int .i64 64] w fun e w'=>e= .returned (.tuple #[.int .u64 (v:Int), .nilIface])∧Below w.heap.size w w':=by
 have ci:=iparse_8 t hne hmax w
 rw[h]at ci
 simp only[uintT]at ci
 have hb:=below_bytes w t
 clear h hne
 go_enter Tryz.func247,Tryz.ntmps247
 go_wp2_with(go_at_call 288;refine ci.mono ?_;rintro e w1 ⟨rfl,rfl⟩)
 go_ret2
 exact⟨rfl,hb⟩
set_option maxRecDepth 100000 in
theorem pu8_bad (t:List UInt8) (hne:t≠[]) (hmax:t.length≤140737488351232) (h:∀v,parseB 8 18446744073709551615 0 t≠ .ok v) (w:World) (hE:Env w):
 Calls Tryz.prog 247 #[.string ⟨t.toArray⟩, .int .i64 8, .int .i64 64] w fun e w'=>∃(n:Int) (T:TypeId) (q:Value),0≤n∧e= .returned (.tuple #[.int .u64 n, .iface T q])∧Below w.heap.size w w':=by
 have ci:=iparse_8 t hne hmax w
 have hb:=below_bytes w t
 have hE1:=hE.below hb
 obtain⟨ts,ps,hS⟩:=hE1.errS
 obtain⟨tr,pr,hR⟩:=hE1.errR
 generalize Lib.bytesWorld w 5 ⟨t.toArray⟩=w1 at*
 cases hp:parseB 8 18446744073709551615 0 t with
 |ok v=>exact absurd hp (h v)
 |«syntax»=>
  rw[hp]at ci;simp only[uintT]at ci;have ce:=fun (fn:ByteArray) (b bi:Int)=>Tryz.strconv_toError_syntax fn ⟨t.toArray⟩ b bi _ w1 (by show t.length≤_;omega) hS (.inr ⟨ts,ps,rfl⟩)
  clear h hne hp hS hR;go_enter Tryz.func247,Tryz.ntmps247;go_wp2_with(first|(go_at_call 288;refine ci.mono ?_;rintro e w2 ⟨rfl,rfl⟩)|(go_at_call 282;refine(ce _ _ _).mono ?_;rintro e w2 ⟨N,rfl,_,_,hb2⟩));go_ret2;exact⟨_,_,_,by omega,rfl,hb.trans (hb2.mono hb.size)⟩
 |range=>
  rw[hp]at ci;simp only[uintT]at ci;have ce:=fun (fn:ByteArray) (b bi:Int)=>Tryz.strconv_toError_range fn ⟨t.toArray⟩ b bi _ w1 (by show t.length≤_;omega) hR (.inr ⟨tr,pr,rfl⟩)
  clear h hne hp hS hR;go_enter Tryz.func247,Tryz.ntmps247;go_wp2_with(first|(go_at_call 288;refine ci.mono ?_;rintro e w2 ⟨rfl,rfl⟩)|(go_at_call 282;refine(ce _ _ _).mono ?_;rintro e w2 ⟨N,rfl,_,_,hb2⟩));go_ret2;exact⟨_,_,_,by omega,rfl,hb.trans (hb2.mono hb.size)⟩
set_option maxRecDepth 100000 in
theorem pu16b_ok (t:List UInt8) (hne:t≠[]) (hmax:t.length≤140737488351232) (v:Nat) (h:parseB 16 255 0 t= .ok v) (w:World):
 Calls Tryz.prog 247 #[.string ⟨t.toArray⟩, .int .i64 16, .int .i64 8] w fun e w'=>e= .returned (.tuple #[.int .u64 (v:Int), .nilIface])∧Below w.heap.size w w':=by
 have ci:=iparse_16b t hne hmax w
 rw[h]at ci
 simp only[uintT]at ci
 have hb:=below_bytes w t
 clear h hne
 go_enter Tryz.func247,Tryz.ntmps247
 go_wp2_with(go_at_call 288;refine ci.mono ?_;rintro e w1 ⟨rfl,rfl⟩)
 go_ret2
 exact⟨rfl,hb⟩
set_option maxRecDepth 100000 in
theorem pu16b_bad (t:List UInt8) (hne:t≠[]) (hmax:t.length≤140737488351232) (h:∀v,parseB 16 255 0 t≠ .ok v) (w:World) (hE:Env w):
 Calls Tryz.prog 247 #[.string ⟨t.toArray⟩, .int .i64 16, .int .i64 8] w fun e w'=>∃(n:Int) (T:TypeId) (q:Value),0≤n∧e= .returned (.tuple #[.int .u64 n, .iface T q])∧Below w.heap.size w w':=by
 have ci:=iparse_16b t hne hmax w
 have hb:=below_bytes w t
 have hE1:=hE.below hb
 obtain⟨ts,ps,hS⟩:=hE1.errS
 obtain⟨tr,pr,hR⟩:=hE1.errR
 generalize Lib.bytesWorld w 5 ⟨t.toArray⟩=w1 at*
 cases hp:parseB 16 255 0 t with
 |ok v=>exact absurd hp (h v)
 |«syntax»=>
  rw[hp]at ci;simp only[uintT]at ci;have ce:=fun (fn:ByteArray) (b bi:Int)=>Tryz.strconv_toError_syntax fn ⟨t.toArray⟩ b bi _ w1 (by show t.length≤_;omega) hS (.inr ⟨ts,ps,rfl⟩)
  clear h hne hp hS hR;go_enter Tryz.func247,Tryz.ntmps247;go_wp2_with(first|(go_at_call 288;refine ci.mono ?_;rintro e w2 ⟨rfl,rfl⟩)|(go_at_call 282;refine(ce _ _ _).mono ?_;rintro e w2 ⟨N,rfl,_,_,hb2⟩));go_ret2;exact⟨_,_,_,by omega,rfl,hb.trans (hb2.mono hb.size)⟩
 |range=>
  rw[hp]at ci;simp only[uintT]at ci;have ce:=fun (fn:ByteArray) (b bi:Int)=>Tryz.strconv_toError_range fn ⟨t.toArray⟩ b bi _ w1 (by show t.length≤_;omega) hR (.inr ⟨tr,pr,rfl⟩)
  clear h hne hp hS hR;go_enter Tryz.func247,Tryz.ntmps247;go_wp2_with(first|(go_at_call 288;refine ci.mono ?_;rintro e w2 ⟨rfl,rfl⟩)|(go_at_call 282;refine(ce _ _ _).mono ?_;rintro e w2 ⟨N,rfl,_,_,hb2⟩));go_ret2;exact⟨_,_,_,by omega,rfl,hb.trans (hb2.mono hb.size)⟩
theorem parseUintM_eq {max:Nat} (hm:max≤18446744073709551615):∀(s:List UInt8) (acc:Nat),Lib.parseUintM max acc s=parseB 10 max acc s:=by
 intro s
 induction s with
 |nil=>intro acc;rfl
 |cons c s ih=>
  intro acc;have hx:hexI c.toNat=if 48≤c.toNat∧c.toNat≤57 then (c.toNat:Int)-48 else if 97≤c.toNat∧c.toNat≤102 then (c.toNat:Int)-87 else if 65≤c.toNat∧c.toNat≤70 then (c.toNat:Int)-55 else -1:=rfl;unfold Lib.parseUintM;by_cases h:48≤c.toNat∧c.toNat≤57
  ·rw[if_pos h]at hx⊢
   by_cases h1:1844674407370955162≤acc
   ·rw[if_pos h1,parseB_rng (by omega) (by omega) (by omega)]
   ·rw[if_neg h1]
    by_cases h2:max<acc*10+(c.toNat-48)
    ·rw[if_pos h2,parseB_rng (by omega) (by omega) (by omega)]
    ·rw[if_neg h2,parseB_go (by omega) (by omega) (by omega),ih,show(hexI c.toNat).toNat=c.toNat-48 by omega]
  ·rw[if_neg h]at hx⊢
   rw[parseB_syn];by_cases h1:97≤c.toNat∧c.toNat≤102
   ·rw[if_pos h1]at hx;omega
   ·rw[if_neg h1]at hx
    by_cases h2:65≤c.toNat∧c.toNat≤70
    ·rw[if_pos h2]at hx;omega
    ·rw[if_neg h2]at hx;omega
theorem parseUintB_eq {B:Nat} (hB:2^B-1≤18446744073709551615) {s:List UInt8} (h:s≠[]):Lib.parseUintB B s=parseB 10 (2^B-1) 0 s:=by
 unfold Lib.parseUintB;rw[if_neg h,parseUintM_eq hB]
theorem pu10_ok (t:List UInt8) (hne:t≠[]) (hmax:t.length≤140737488351232) (v:Nat) (h:parseB 10 18446744073709551615 0 t= .ok v) (w:World):
 Calls Tryz.prog 247 #[.string ⟨t.toArray⟩, .int .i64 10, .int .i64 64] w fun e w'=>e= .returned (.tuple #[.int .u64 (v:Int), .nilIface])∧Below w.heap.size w w':=by
 refine(Tryz.strconv_ParseUint_10_at64_ok ⟨t.toArray⟩ (by show t.length≤_;omega) v ((parseUintB_eq (B:=64) (by decide) hne).trans h) w).mono ?_
 rintro e w' ⟨he,rfl|rfl⟩
 ·exact⟨he,Below.refl _ _⟩
 ·exact⟨he,below_bytes w t⟩
theorem pu10_bad (t:List UInt8) (hne:t≠[]) (hmax:t.length≤140737488351232) (h:∀v,parseB 10 18446744073709551615 0 t≠ .ok v) (w:World) (hE:Env w):
 Calls Tryz.prog 247 #[.string ⟨t.toArray⟩, .int .i64 10, .int .i64 64] w fun e w'=>∃(n:Int) (T:TypeId) (q:Value),0≤n∧e= .returned (.tuple #[.int .u64 n, .iface T q])∧Below w.heap.size w w':=by
 have he:=parseUintB_eq (B:=64) (by decide) hne
 obtain⟨ts,ps,hS⟩:=hE.errS
 obtain⟨tr,pr,hR⟩:=hE.errR
 cases hp:parseB 10 18446744073709551615 0 t with
 |ok v=>exact absurd hp (h v)
 |«syntax»=>
  refine(Tryz.strconv_ParseUint_10_at64_syntax ⟨t.toArray⟩ (by show t.length≤_;omega) (he.trans hp) _ w hS (.inr ⟨ts,ps,rfl⟩)).mono ?_;rintro e w2 ⟨N,rfl,_,_,hb⟩;exact⟨_,_,_,by omega,rfl,hb⟩
 |range=>
  refine(Tryz.strconv_ParseUint_10_at64_range ⟨t.toArray⟩ (by show t.length≤_;omega) (he.trans hp) _ w hR (.inr ⟨tr,pr,rfl⟩)).mono ?_;rintro e w2 ⟨N,rfl,_,_,hb⟩;exact⟨_,_,_,by omega,rfl,hb⟩
theorem pu10b_ok (t:List UInt8) (hne:t≠[]) (hmax:t.length≤140737488351232) (v:Nat) (h:parseB 10 255 0 t= .ok v) (w:World):
 Calls Tryz.prog 247 #[.string ⟨t.toArray⟩, .int .i64 10, .int .i64 8] w fun e w'=>e= .returned (.tuple #[.int .u64 (v:Int), .nilIface])∧Below w.heap.size w w':=by
 refine(Tryz.strconv_ParseUint_10_at8_ok ⟨t.toArray⟩ (by show t.length≤_;omega) v ((parseUintB_eq (B:=8) (by decide) hne).trans h) w).mono ?_
 rintro e w' ⟨he,rfl|rfl⟩
 ·exact⟨he,Below.refl _ _⟩
 ·exact⟨he,below_bytes w t⟩
theorem pu10b_bad (t:List UInt8) (hne:t≠[]) (hmax:t.length≤140737488351232) (h:∀v,parseB 10 255 0 t≠ .ok v) (w:World) (hE:Env w):
 Calls Tryz.prog 247 #[.string ⟨t.toArray⟩, .int .i64 10, .int .i64 8] w fun e w'=>∃(n:Int) (T:TypeId) (q:Value),0≤n∧e= .returned (.tuple #[.int .u64 n, .iface T q])∧Below w.heap.size w w':=by
 have he:=parseUintB_eq (B:=8) (by decide) hne
 obtain⟨ts,ps,hS⟩:=hE.errS
 obtain⟨tr,pr,hR⟩:=hE.errR
 cases hp:parseB 10 255 0 t with
 |ok v=>exact absurd hp (h v)
 |«syntax»=>
  refine(Tryz.strconv_ParseUint_10_at8_syntax ⟨t.toArray⟩ (by show t.length≤_;omega) (he.trans hp) _ w hS (.inr ⟨ts,ps,rfl⟩)).mono ?_;rintro e w2 ⟨N,rfl,_,_,hb⟩;exact⟨_,_,_,by omega,rfl,hb⟩
 |range=>
  refine(Tryz.strconv_ParseUint_10_at8_range ⟨t.toArray⟩ (by show t.length≤_;omega) (he.trans hp) _ w hR (.inr ⟨tr,pr,rfl⟩)).mono ?_;rintro e w2 ⟨N,rfl,_,_,hb⟩;exact⟨_,_,_,by omega,rfl,hb⟩
theorem trim_any (s cut:List UInt8) (w:World) (hs:s.length≤140737488351232) (hc:cut.length≤1000) (ha:∀c∈cut,c.toNat<128):
 Calls Tryz.prog 120 #[.string ⟨s.toArray⟩, .string ⟨cut.toArray⟩] w fun e w'=>e= .returned (.string ⟨(Lib.trimS s cut).toArray⟩)∧Below w.heap.size w w':=
 Any.strings_Trim_laid Tryz.lays160 (by kernel_rfl) ⟨s.toArray⟩ ⟨cut.toArray⟩ w (by show s.length≤_;omega) (by show cut.length<_;omega) (fun j b h=>ha b (List.mem_of_getElem? h))
theorem dropWhile_nil {p:UInt8→Bool} {l:List UInt8}:l.dropWhile p=[]↔∀c∈l,p c=true:=by
 induction l with
 |nil=>simp
 |cons a l ih=>
  by_cases h:p a=true
  ·rw[List.dropWhile_cons_of_pos h,ih];simp[h]
  ·rw[List.dropWhile_cons_of_neg h];simp[h]
theorem trimS_nil {s cut:List UInt8}:Lib.trimS s cut=[]↔∀c∈s,cut.contains c=true:=by
 unfold Lib.trimS Lib.trimLeftS Lib.trimRightS;rw[dropWhile_nil];constructor
 ·intro h
  cases hd:s.reverse.dropWhile (cut.contains ·)with
  |nil=>
   have:=dropWhile_nil.1 hd;intro c hc;exact this c (by simpa using hc)
  |cons a l=>
   exfalso;have h1:=h a (by rw[hd];simp);have h2:¬cut.contains a=true:=by
    have:∀(l':List UInt8),l'.dropWhile (cut.contains ·)=a::l→¬cut.contains a=true:=by
     intro l'
     induction l' with
     |nil=>intro h;simp at h
     |cons b l' ih=>
      by_cases hb:cut.contains b=true
      ·rw[List.dropWhile_cons_of_pos hb];exact ih
      ·rw[List.dropWhile_cons_of_neg hb]
       intro h;injection h with h _;rw[←h];exact hb
    exact this _ hd
   exact h2 h1
 ·intro h c hc
  have:c∈s:=by
   have:=List.mem_reverse.1 hc;have:=(List.dropWhile_sublist _).subset this;simpa using this
  exact h c this
end Go.Proofs.YtjkipdoebkhkaaaGreatDoor
