/- The reference's small functions of layer 6: slash, letter, first, own, scheme. -/
import Derived.Test.YtlcnknlmdaochaaGreatDoorGUrl2
import Derived.Test.YtlcnknlmdaochaaGreatDoorGTrie
set_option linter.unusedVariables false
set_option linter.unusedSimpArgs false
set_option maxHeartbeats 16000000
namespace Go.Proofs.YtlcnknlmdaochaaGreatDoor
open Go.RowKit
theorem rown_p (s:List UInt8) (w:World):Calls Tryz.prog 65 #[.string ⟨s.toArray⟩] w fun r w'=>r= .returned (.int .i64 (ownP s:Int))∧w=w':=by
 have hm:ownP s=if s=httpsB then 443 else if s=httpB then 80 else 0:=rfl;by_cases h1:s=httpsB
 ·subst h1
  go_enter Tryz.func65,Tryz.ntmps65;go_wp2_with fail;go_ret;exact⟨rfl,rfl⟩
 ·rw[if_neg h1]at hm
  have q1:(s==[104,116,116,112,115])=false:=beq_eq_false_iff_ne.2 h1;by_cases h2:s=httpB
  ·subst h2
   go_enter Tryz.func65,Tryz.ntmps65;go_wp2_with fail;go_ret;exact⟨rfl,rfl⟩
  ·rw[if_neg h2]at hm
   have q2:(s==[104,116,116,112])=false:=beq_eq_false_iff_ne.2 h2;have HM:=Lib.hid hm;clear hm h1 h2;go_enter Tryz.func65,Tryz.ntmps65;go_wp2_with fail;go_ret;exact⟨by rw[HM.out];rfl,rfl⟩
theorem rslash (c:UInt8) (w:World):Calls Tryz.prog 114 #[.int .u8 (c.toNat:Int)] w fun r w'=>r= .returned (.bool (slashB c))∧w=w':=by
 have hm:slashB c=(c==47||c==92):=rfl;by_cases h1:c=47
 ·subst h1
  go_enter Tryz.func114,Tryz.ntmps114;go_wp2_with fail;go_ret;exact⟨rfl,rfl⟩
 ·have n1:((c.toNat:Int)==47)=false:=beq_eq_false_iff_ne.2 (fun e=>h1 (UInt8.toNat_inj.1 (show c.toNat=47 by omega)))
  have b1:(c==47)=false:=beq_eq_false_iff_ne.2 h1;by_cases h2:c=92
  ·subst h2
   go_enter Tryz.func114,Tryz.ntmps114;go_wp2_with fail;go_ret;exact⟨rfl,rfl⟩
  ·have n2:((c.toNat:Int)==92)=false:=beq_eq_false_iff_ne.2 (fun e=>h2 (UInt8.toNat_inj.1 (show c.toNat=92 by omega)))
   have b2:(c==92)=false:=beq_eq_false_iff_ne.2 h2;rw[b1,b2]at hm;have HM:=Lib.hid hm;clear hm h1 h2 b1 b2;go_enter Tryz.func114,Tryz.ntmps114;go_wp2_with fail;go_ret;exact⟨by rw[HM.out];rfl,rfl⟩
theorem letter_num (c:UInt8):letterB c=(decide (97≤(c.toNat:Int))&&decide ((c.toNat:Int)≤122)||(decide (65≤(c.toNat:Int))&&decide ((c.toNat:Int)≤90))):=by
 unfold letterB;rw[Bool.eq_iff_iff];simp only[Bool.or_eq_true,Bool.and_eq_true,decide_eq_true_eq];omega
theorem rletter (c:UInt8) (w:World):Calls Tryz.prog 153 #[.int .u8 (c.toNat:Int)] w fun r w'=>r= .returned (.bool (letterB c))∧w=w':=by
 have hm:=letter_num c;by_cases h1:97≤(c.toNat:Int)<;>by_cases h2:(c.toNat:Int)≤122<;>by_cases h3:65≤(c.toNat:Int)<;>by_cases h4:(c.toNat:Int)≤90<;>first|(exfalso;omega)|skip
 all_goals
  simp only[h1,h2,h3,h4,decide_true,decide_false,Bool.and_true,Bool.and_false,Bool.or_true,Bool.or_false,Bool.true_or,Bool.false_or]at hm;have HM:=Lib.hid hm;clear hm;go_enter Tryz.func153,Tryz.ntmps153;go_wp2_with fail;go_ret;exact⟨by rw[HM.out];rfl,rfl⟩
theorem cut_at {c:UInt8} {s:List UInt8} {k:Nat} (hk:k<s.length) (h:c∉s.take k) (e:s[k]=c):cutF c s=(s.take k,some (s.drop (k+1))):=by
 have:s=s.take k++c::s.drop (k+1):=by
  conv=>lhs;rw[←List.take_append_drop k s,List.drop_eq_getElem_cons hk,e]
 conv=>lhs;rw[this]
 exact cutF_app h
set_option maxRecDepth 100000 in
theorem rfirst (s:List UInt8) (c:UInt8) (w:World) (hs:s.length≤4000000000):
 Calls Tryz.prog 155 #[.string ⟨s.toArray⟩, .int .u8 (c.toNat:Int)] w fun r w'=>r= .returned (.int .i64 ((cutF c s).1.length:Int))∧w=w':=by
 obtain⟨N,hN⟩:∃N,(cutF c s).1.length=N:=⟨_,rfl⟩
 have HN:=Lib.hid hN
 rw[hN]
 clear hN
 go_enter Tryz.func155,Tryz.ntmps155
 go_wp2_with fail
 go_loop [5] (fun i=>∃k:Nat,k≤s.length∧i= .int .i64 k∧Hid (c∉s.take k)) (fun i=>s.length-(intOf i).toNat)
 case atStart=>exact⟨0,Nat.zero_le _,rfl,Lib.hid (by simp)⟩
 case round=>
  obtain⟨k,hk,rfl,HC⟩:=hrel;by_cases hlt:k<s.length
  ·by_cases he:s[k]=c
   ·have HE:Hid (N=k):=by
     show N=k;rw[←HN.out,cut_at hlt HC.out he];simp;omega
    clear HC HN;have hq:((s[k].toNat:Int)==(c.toNat:Int))=true:=by rw[he];simp
    generalize hx:s[k]=x at*;subst he;go_wp2_with fail;go_ret;exact⟨by rw[HE.out];rfl,rfl⟩
   ·have HC2:Hid (c∉s.take (k+1)):=fun hc=>by
     rw[List.take_succ_eq_append_getElem hlt]at hc;rcases List.mem_append.1 hc with hc|hc
     ·exact HC.out hc
     ·rw[List.mem_singleton]at hc;exact he hc.symm
    have hq:¬(s[k].toNat:Int)=(c.toNat:Int):=fun e=>he (UInt8.toNat_inj.1 (by omega))
    have hqb:((s[k].toNat:Int)==(c.toNat:Int))=false:=beq_eq_false_iff_ne.2 hq;clear HC;generalize hx:s[k]=x at*;go_wp2_with fail;go_round
    case rel=>exact⟨k+1,by omega,by go_num,HC2⟩
    case measure=>simp[intOf];omega
  ·obtain rfl:k=s.length:=by omega
   have HE:Hid (N=s.length):=by
    show N=s.length;have:=HC.out;rw[List.take_length]at this;rw[←HN.out,cutF_none this]
   clear HC HN;go_wp2_with fail;go_ret;exact⟨by rw[HE.out];rfl,rfl⟩
theorem rdigit_u (c:UInt8) (w:World):Calls Tryz.prog 154 #[.int .u8 (c.toNat:Int)] w fun r w'=>r= .returned (.bool (numCB c))∧w=w':=by
 have hm:numCB c=(decide (48≤(c.toNat:Int))&&decide ((c.toNat:Int)≤57)):=by
  unfold numCB;rw[Bool.eq_iff_iff];simp only[Bool.and_eq_true,decide_eq_true_eq];omega
 by_cases h1:48≤(c.toNat:Int)<;>by_cases h2:(c.toNat:Int)≤57<;>first|(exfalso;omega)|skip
 all_goals
  simp only[h1,h2,decide_true,decide_false,Bool.and_true,Bool.and_false]at hm;have HM:=Lib.hid hm;clear hm;go_enter Tryz.func154,Tryz.ntmps154;go_wp2_with fail;go_ret;exact⟨by rw[HM.out];rfl,rfl⟩
def schN (s:List UInt8):Int:=match cutF 58 s with
 |(a,some _)=>if a.all schB&&beginsB a then (a.length:Int)else -1
 |(_,none)=> -1
theorem schN_hit {s:List UInt8} {k:Nat} (hk:k<s.length) (hall:(s.take k).all schB=true) (hb:beginsB (s.take k)=true) (e:s[k]=58):schN s=(k:Int):=by
 have hn:(58:UInt8)∉s.take k:=fun hc=>by have:=List.all_eq_true.1 hall _ hc;revert this;decide
 unfold schN;rw[cut_at hk hn e];simp only;rw[hall,hb];simp;omega
theorem schN_end {s:List UInt8} (hall:s.all schB=true):schN s= -1:=by
 have hn:(58:UInt8)∉s:=fun hc=>by have:=List.all_eq_true.1 hall _ hc;revert this;decide
 unfold schN;rw[cutF_none hn]
theorem schN_bad {s:List UInt8} {k:Nat} (hk:k<s.length) (hall:(s.take k).all schB=true) (h:(k=0∧letterB s[k]=false)∨(s[k]≠58∧schB s[k]=false)):schN s= -1:=by
 have hn:(58:UInt8)∉s.take k:=fun hc=>by have:=List.all_eq_true.1 hall _ hc;revert this;decide
 have hsp:s=s.take k++s[k]::s.drop (k+1):=by
  conv=>lhs;rw[←List.take_append_drop k s,List.drop_eq_getElem_cons hk]
 obtain⟨f1,f2,f3⟩:= @cutF_fst 58 s;unfold schN
 cases hc:cutF 58 s with
 |mk a o=>
  rw[hc]at f1 f2 f3
  cases o with
  |none=>rfl
  |some b=>
   have e:=f2 b rfl;simp only at e f1⊢;have key:¬((a.all schB&&beginsB a)=true):=by
    rw[Bool.and_eq_true];rintro⟨k1,k2⟩;rcases h with ⟨rfl,h⟩|⟨h58,h⟩
    ·cases a with
     |nil=>cases k2
     |cons x a=>
      have:s[0]=x:=by
       have:=congrArg (fun l:List UInt8=>l[0]?) e;simp only[List.getElem?_eq_getElem hk,List.cons_append,List.getElem?_cons_zero,Option.some.injEq]at this;exact this
      rw[this]at h;have k2':letterB x=true:=k2;rw[k2']at h;cases h
    ·have hka:k<a.length:=by
      rcases Nat.lt_or_ge k a.length with q|q
      ·exact q
      ·exfalso
       have ht:(s.take k).length=k:=by simp;omega
       rcases Nat.lt_or_ge a.length k with q2|q2
       ·have hm:(58:UInt8)∈s.take k:=by
         have:(s.take k)[a.length]?=some 58:=by
          rw[List.getElem?_take_of_lt q2,e];simp
         exact List.mem_of_getElem? this
        exact hn hm
       ·have hka:a.length=k:=by omega
        apply h58;have:s[k]?=some 58:=by rw[e,←hka];simp
        rw[List.getElem?_eq_getElem hk]at this;exact Option.some.inj this
     have:s[k]=a[k]:=by
      have:s[k]?=a[k]?:=by rw[e,List.getElem?_append_left hka]
      rw[List.getElem?_eq_getElem hk,List.getElem?_eq_getElem hka]at this;exact Option.some.inj this
     have:=List.all_eq_true.1 k1 a[k] (List.getElem_mem hka);rw[‹s[k]=a[k]›]at h;rw[this]at h;cases h
   rw[if_neg key]
set_option maxRecDepth 100000 in
theorem rscheme (s:List UInt8) (w:World) (hs:s.length≤4000000000):
 Calls Tryz.prog 111 #[.string ⟨s.toArray⟩] w fun r w'=>r= .returned (.int .i64 (schN s))∧w=w':=by
 obtain⟨N,hN⟩:∃N,schN s=N:=⟨_,rfl⟩
 have HN:=Lib.hid hN
 rw[hN]
 clear hN
 go_enter Tryz.func111,Tryz.ntmps111
 go_wp2_with fail
 go_loop [3] (fun i=>∃k:Nat,k≤s.length∧i= .int .i64 k∧Hid ((s.take k).all schB=true∧(0<k→beginsB (s.take k)=true))) (fun i=>s.length-(intOf i).toNat)
 case atStart=>exact⟨0,Nat.zero_le _,rfl,Lib.hid ⟨rfl,fun h=>absurd h (by omega)⟩⟩
 case round=>
  obtain⟨k,hk,rfl,HC⟩:=hrel;by_cases hlt:k<s.length
  ·have hbad:=fun h=>schN_bad hlt HC.out.1 h
   have hhit:=fun h0 e=>schN_hit hlt HC.out.1 (HC.out.2 h0) e
   have hnext:Hid (schB s[k]=true→(0<k∨letterB s[k]=true)→(s.take (k+1)).all schB=true∧(0<k+1→beginsB (s.take (k+1))=true)):=fun h1 h2=>by
    rw[List.take_succ_eq_append_getElem hlt,List.all_append,HC.out.1];refine⟨by simp[h1],fun _=> ?_⟩;rcases Nat.eq_zero_or_pos k with h0|h0
    ·subst h0
     rcases h2 with h2|h2
     ·exact absurd h2 (by omega)
     ·exact h2
    ·have:=HC.out.2 h0
     cases ht:s.take k with
     |nil=>rw[ht]at this;cases this
     |cons x r=>rw[ht]at this;exact this
   rw[HN.out]at hbad hhit;have cl:=rletter s[k] w;have cd:=rdigit_u s[k] w;have hsb:schB s[k]=(letterB s[k]||(numCB s[k]||(s[k]==43||(s[k]==45||s[k]==46)))):=rfl;clear HC;generalize hx:s[k]=c at*;have hcn:=c.toNat_lt;by_cases h58:c=58
   ·have e58:(c.toNat:Int)=58:=by rw[h58];rfl
    have hlf:letterB c=false:=by rw[h58];rfl
    by_cases h0:0<k
    ·have HE:Hid (N=(k:Int)):=hhit h0 h58
     have h0i:(0:Int)<(k:Int):=by omega
     clear HN hnext hsb hbad hhit hlf cl cd;go_wp2_with fail;go_ret;exact⟨by rw[HE.out];rfl,rfl⟩
    ·obtain rfl:k=0:=by omega
     have HE:Hid (N= -1):=hbad (.inl ⟨rfl,hlf⟩);have cl58:Calls Tryz.prog 153 #[.int .u8 58] w fun r w'=>r= .returned (.bool false)∧w=w':=rletter 58 w
     have cd58:Calls Tryz.prog 154 #[.int .u8 58] w fun r w'=>r= .returned (.bool false)∧w=w':=rdigit_u 58 w
     clear HN hnext hsb hbad hhit cl cd hlf e58;subst h58;go_wp2_with(first|(go_at_call 153;refine cl58.mono ?_;rintro e w1 ⟨rfl,rfl⟩)|(go_at_call 154;refine cd58.mono ?_;rintro e w2 ⟨rfl,rfl⟩));go_ret;exact⟨by rw[HE.out];rfl,rfl⟩
   ·have e58:¬(c.toNat:Int)=58:=fun e=>h58 (UInt8.toNat_inj.1 (show c.toNat=58 by omega))
    have b58:((c.toNat:Int)==58)=false:=beq_eq_false_iff_ne.2 e58
    cases hl:letterB c with
    |true=>
     rw[hl]at cl hsb;have HX:=Lib.hid (hnext.out (by rw[hsb];simp[]) (by exact .inr hl));clear HN hnext hsb hbad hhit;go_wp2_with(first|(go_at_call 153;refine cl.mono ?_;rintro e w1 ⟨rfl,rfl⟩)|(go_at_call 154;refine cd.mono ?_;rintro e w2 ⟨rfl,rfl⟩));go_round
     case rel=>exact⟨k+1,by omega,by go_num,HX⟩
     case measure=>simp[intOf];omega
    |false=>
     rw[hl]at cl hsb;by_cases h0:0<k
     ·have h0i:¬(k:Int)=0:=by omega
      have h0b:((k:Int)==0)=false:=beq_eq_false_iff_ne.2 h0i
      cases hd:numCB c with
      |true=>
       rw[hd]at cd hsb;have HX:=Lib.hid (hnext.out (by rw[hsb];simp[]) (by exact .inl h0));clear HN hnext hsb hbad hhit;go_wp2_with(first|(go_at_call 153;refine cl.mono ?_;rintro e w1 ⟨rfl,rfl⟩)|(go_at_call 154;refine cd.mono ?_;rintro e w2 ⟨rfl,rfl⟩));go_round
       case rel=>exact⟨k+1,by omega,by go_num,HX⟩
       case measure=>simp[intOf];omega
      |false=>
       rw[hd]at cd hsb;have q43:(c==43)=decide ((c.toNat:Int)=43):=by
        rw[Bool.eq_iff_iff,beq_iff_eq,decide_eq_true_eq];exact⟨fun h=>by rw[h];rfl,fun h=>UInt8.toNat_inj.1 (show c.toNat=43 by omega)⟩
       have q45:(c==45)=decide ((c.toNat:Int)=45):=by
        rw[Bool.eq_iff_iff,beq_iff_eq,decide_eq_true_eq];exact⟨fun h=>by rw[h];rfl,fun h=>UInt8.toNat_inj.1 (show c.toNat=45 by omega)⟩
       have q46:(c==46)=decide ((c.toNat:Int)=46):=by
        rw[Bool.eq_iff_iff,beq_iff_eq,decide_eq_true_eq];exact⟨fun h=>by rw[h];rfl,fun h=>UInt8.toNat_inj.1 (show c.toNat=46 by omega)⟩
       rw[q43,q45,q46]at hsb;by_cases p1:(c.toNat:Int)=43
       ·have p1b:((c.toNat:Int) !=43)=false:=by rw[p1];rfl
        simp only[p1,decide_true]at hsb;have HX:=Lib.hid (hnext.out (by rw[hsb];simp[]) (by exact .inl h0));clear HN hnext hsb hbad hhit;have cl43:Calls Tryz.prog 153 #[.int .u8 43] w fun r w'=>r= .returned (.bool false)∧w=w':=rletter 43 w
        have cd43:Calls Tryz.prog 154 #[.int .u8 43] w fun r w'=>r= .returned (.bool false)∧w=w':=rdigit_u 43 w
        obtain rfl:c=43:=UInt8.toNat_inj.1 (show c.toNat=43 by omega);clear cl cd;go_wp2_with(first|(go_at_call 153;refine cl43.mono ?_;rintro e w1 ⟨rfl,rfl⟩)|(go_at_call 154;refine cd43.mono ?_;rintro e w2 ⟨rfl,rfl⟩));go_round
        case rel=>exact⟨k+1,by omega,by go_num,HX⟩
        case measure=>simp[intOf];omega
       ·have p1b:((c.toNat:Int) !=43)=true:=bne_iff_ne.2 p1
        by_cases p2:(c.toNat:Int)=45
        ·have p2b:((c.toNat:Int) !=45)=false:=by rw[p2];rfl
         simp only[p1,p2,decide_true]at hsb;have HX:=Lib.hid (hnext.out (by rw[hsb];simp[]) (by exact .inl h0));clear HN hnext hsb hbad hhit;have cl45:Calls Tryz.prog 153 #[.int .u8 45] w fun r w'=>r= .returned (.bool false)∧w=w':=rletter 45 w
         have cd45:Calls Tryz.prog 154 #[.int .u8 45] w fun r w'=>r= .returned (.bool false)∧w=w':=rdigit_u 45 w
         obtain rfl:c=45:=UInt8.toNat_inj.1 (show c.toNat=45 by omega);clear cl cd;go_wp2_with(first|(go_at_call 153;refine cl45.mono ?_;rintro e w1 ⟨rfl,rfl⟩)|(go_at_call 154;refine cd45.mono ?_;rintro e w2 ⟨rfl,rfl⟩));go_round
         case rel=>exact⟨k+1,by omega,by go_num,HX⟩
         case measure=>simp[intOf];omega
        ·have p2b:((c.toNat:Int) !=45)=true:=bne_iff_ne.2 p2
         by_cases p3:(c.toNat:Int)=46
         ·have p3b:((c.toNat:Int) !=46)=false:=by rw[p3];rfl
          simp only[p1,p2,p3,decide_true]at hsb;have HX:=Lib.hid (hnext.out (by rw[hsb];simp[]) (by exact .inl h0));clear HN hnext hsb hbad hhit;have cl46:Calls Tryz.prog 153 #[.int .u8 46] w fun r w'=>r= .returned (.bool false)∧w=w':=rletter 46 w
          have cd46:Calls Tryz.prog 154 #[.int .u8 46] w fun r w'=>r= .returned (.bool false)∧w=w':=rdigit_u 46 w
          obtain rfl:c=46:=UInt8.toNat_inj.1 (show c.toNat=46 by omega);clear cl cd;go_wp2_with(first|(go_at_call 153;refine cl46.mono ?_;rintro e w1 ⟨rfl,rfl⟩)|(go_at_call 154;refine cd46.mono ?_;rintro e w2 ⟨rfl,rfl⟩));go_round
          case rel=>exact⟨k+1,by omega,by go_num,HX⟩
          case measure=>simp[intOf];omega
         ·have p3b:((c.toNat:Int) !=46)=true:=bne_iff_ne.2 p3
          simp only[p1,p2,p3,decide_false]at hsb;have HE:Hid (N= -1):=hbad (.inr ⟨h58,by rw[hsb];rfl⟩);clear HN hnext hsb hbad hhit;go_wp2_with(first|(go_at_call 153;refine cl.mono ?_;rintro e w1 ⟨rfl,rfl⟩)|(go_at_call 154;refine cd.mono ?_;rintro e w2 ⟨rfl,rfl⟩));go_ret;exact⟨by rw[HE.out];rfl,rfl⟩
     ·obtain rfl:k=0:=by omega
      have HE:Hid (N= -1):=hbad (.inl ⟨rfl,hl⟩);clear HN hnext hsb hbad hhit;go_wp2_with(first|(go_at_call 153;refine cl.mono ?_;rintro e w1 ⟨rfl,rfl⟩)|(go_at_call 154;refine cd.mono ?_;rintro e w2 ⟨rfl,rfl⟩));go_ret;exact⟨by rw[HE.out];rfl,rfl⟩
  ·obtain rfl:k=s.length:=by omega
   have HE:Hid (N= -1):=by
    show N= -1;have:=HC.out.1;rw[List.take_length]at this;rw[←HN.out,schN_end this]
   clear HC HN;go_wp2_with fail;go_ret;exact⟨by rw[HE.out];rfl,rfl⟩
open Go.Sort
abbrev digT:List UInt8:=[48,49,50,51,52,53,54,55,56,57]
theorem digT_at:∀n:Fin 10,(digT.drop n.val).take 1=[hexB n.val]:=by decide+kernel
set_option maxRecDepth 100000 in
theorem digT_cut (W:World):∀(r:Nat),r<10→(Instr.slice 9 (.string ⟨#[48,49,50,51,52,53,54,55,56,57]⟩) (some (.int .i64 (r:Int))) (some (.int .i64 ((r:Int)+1))) none).run Tryz.prog W= .ok (.string ⟨#[hexB r]⟩) W
 |0,_=>rfl
 |1,_=>rfl
 |2,_=>rfl
 |3,_=>rfl
 |4,_=>rfl
 |5,_=>rfl
 |6,_=>rfl
 |7,_=>rfl
 |8,_=>rfl
 |9,_=>rfl
 |n+10,h=>by omega
set_option maxRecDepth 100000 in
theorem rdigits_u:∀(f n:Nat),f≤20→n<10^(f+1)→n≤9223372036854775807→∀w:World,
 Calls Tryz.prog 61 #[.int .i64 n] w fun e w'=>e= .returned (.string ⟨(digF 10 f n).toArray⟩)∧Below w.heap.size w w':=by
 intro f
 induction f with
 |zero=>
  intro n hf hn h6 w;have hnb:n<10:=by simpa using hn
  have hd:=digT_at ⟨n,hnb⟩;simp only at hd;have HD:=Lib.hid (digF_low (base:=10) (f:=0) hnb);have hnbi:(n:Int)<10:=by omega
  clear hn;go_enter Tryz.func61,Tryz.ntmps61;go_wp2_with fail;go_ret;exact⟨by rw[HD.out,←hd];simp[digT],Below.refl _ _⟩
 |succ f ih=>
  intro n hf hn h6 w;by_cases hnb:n<10
  ·have hd:=digT_at ⟨n,hnb⟩
   simp only at hd;have HD:=Lib.hid (digF_low (base:=10) (f:=f+1) hnb);have hnbi:(n:Int)<10:=by omega
   clear hn ih;go_enter Tryz.func61,Tryz.ntmps61;go_wp2_with fail;go_ret;exact⟨by rw[HD.out,←hd];simp[digT],Below.refl _ _⟩
  ·have hm16:n % 10<10:=Nat.mod_lt _ (by omega)
   have HD:=Lib.hid (digF_step (base:=10) (f:=f) (n:=n) (by omega));have hnbi:¬(n:Int)<10:=by omega
   have hlen:=(digF_len 10 f (n/10)).2;have cx:=fun W (_:Below w.heap.size w W)=>ih (n/10) (by omega) (by rw[Nat.div_lt_iff_lt_mul (by omega)];rwa[Nat.pow_succ]at hn) (by omega) W
   have kx:∀d os,_:=quiet_reg (w1:=w) cx;have wq:IntKind.i64.wrap ((n:Int)/10)=((n/10:Nat):Int):=by rw[show(n:Int)/10=((n/10:Nat):Int)by omega];exact IntWalk.i64_in _ (by omega)
   have wr:(n:Int).tmod 10=((n % 10:Nat):Int):=by rw[Int.tmod_eq_emod_of_nonneg (by omega)];omega
   have wr1:IntKind.i64.wrap (((n % 10:Nat):Int)+1)=((n % 10+1:Nat):Int):=by rw[show((n % 10:Nat):Int)+1=((n % 10+1:Nat):Int)by omega];exact IntWalk.i64_in _ (by omega)
   have s1:¬9223372036854775807<(digF 10 f (n/10)).length+1:=by omega
   clear hn ih cx;generalize digF 10 f (n/10)=D at*;generalize hnq:n/10=q at*;generalize hnr:n % 10=r at*;have hsl:=fun W=>digT_cut W r hm16
   go_enter Tryz.func61,Tryz.ntmps61;go_wp2_with fail;refine wp_region_quiet_below (by kernel_rfl) (by kernel_rfl) ?_
   repeat(quiet_step (with_reducible exact kx _ _))
   refine wpQuiet_nil ?_;intro _ hw';obtain⟨⟨dq,osq⟩,hw''⟩:=hw';subst hw'';have hb3:=below_regrown w dq osq;generalize grow (redrawn w dq) osq=w3 at*;go_wp2_with fail;go_ret;exact⟨by rw[HD.out];exact congrArg (fun b=>Ending.returned (Value.string b)) (a₁:=⟨D.toArray⟩++⟨#[hexB r]⟩) (a₂:=⟨(D++[hexB r]).toArray⟩) (ByteArray.ext (by simp)),hb3⟩
theorem slashB_iff (c:UInt8):slashB c=true↔c=47∨c=92:=by unfold slashB;simp
theorem flat_len (s:List UInt8):(flatS s).length=s.length:=by unfold flatS;simp
theorem flat_at {s:List UInt8} {k:Nat} (h:k<s.length) (h2:k<(flatS s).length):(flatS s)[k]=if s[k]=92 then 47 else s[k]:=by
 simp[flatS]
def PartsS (s:List UInt8) (done:List (List UInt8)) (f k:Nat):Prop:=PartsAt 47 (flatS s) done f k∧cur (flatS s) f k=cur s f k
theorem partsS_start (s:List UInt8):PartsS s [] 0 0:=⟨parts_start _ _,by rw[cur_nil,cur_nil]⟩
theorem partsS_hit {s:List UInt8} {done:List (List UInt8)} {f k:Nat} (h:PartsS s done f k) (hk:k<s.length) (hc:slashB s[k]=true):PartsS s (done++[cur s f k]) (k+1) (k+1):=by
 have hf:k<(flatS s).length:=by rw[flat_len];exact hk
 have:=parts_hit h.1 hf (by rw[flat_at hk];rcases(slashB_iff _).1 hc with e|e<;>rw[e]<;>rfl);rw[h.2]at this;exact⟨this,by rw[cur_nil,cur_nil]⟩
theorem partsS_miss {s:List UInt8} {done:List (List UInt8)} {f k:Nat} (h:PartsS s done f k) (hk:k<s.length) (hc:slashB s[k]=false):PartsS s done f (k+1):=by
 have hf:k<(flatS s).length:=by rw[flat_len];exact hk
 have h47:s[k]≠47:=fun e=>by rw[e]at hc;cases hc
 have h92:s[k]≠92:=fun e=>by rw[e]at hc;cases hc
 have e:(flatS s)[k]=s[k]:=by rw[flat_at hk,if_neg h92]
 have:=parts_miss h.1 hf (by rw[e];exact h47);exact⟨this,by rw[cur_snoc h.1.1 hf,cur_snoc h.1.1 hk,h.2,e]⟩
theorem partsS_last {s:List UInt8} {done:List (List UInt8)} {f:Nat} (h:PartsS s done f s.length):PartsS s (done++[cur s f s.length]) (s.length+1) (s.length+1):=by
 have h1:=h.1;have h2:=h.2;rw[←flat_len s]at h1;have:=parts_last h1;rw[flat_len,h2]at this;exact⟨this,by rw[cur_nil,cur_nil]⟩
theorem partsS_done {s:List UInt8} {done:List (List UInt8)} {f:Nat} (h:PartsS s done f (s.length+1)):slashP s=done:=by
 have h1:=h.1;rw[←flat_len s]at h1;exact parts_done h1
def ptsA:List UInt8→Option Nat
 |46::s=>(ptsA s).map (·+1)
 |37::50::101::s=>(ptsA s).map (·+1)
 |37::50::69::s=>(ptsA s).map (·+1)
 |[]=>some 0
 |_::_=>none
def ptsN (s:List UInt8):Nat:=if bareP s=[46]then 1 else if bareP s=[46,46]then 2 else 0
def pctE (s:List UInt8):Prop:=∃r,s=37::50::101::r∨s=37::50::69::r
theorem ptsA_else {x:UInt8} {s:List UInt8} (h:x≠46) (h2:¬pctE (x::s)):ptsA (x::s)=none:=by
 rw[ptsA.eq_def];split
 ·rename_i e;injection e with e1 e2;exact absurd e1 h
 ·rename_i e;exact absurd ⟨_, .inl e⟩ h2
 ·rename_i e;exact absurd ⟨_, .inr e⟩ h2
 ·rename_i e;cases e
 ·rfl
theorem bare_else {x:UInt8} {s:List UInt8} (h2:¬pctE (x::s)):bareP (x::s)=x::bareP s:=by
 by_cases h:x=37
 ·subst h
  exact bareP_pct fun r=>⟨fun e=>h2 ⟨r, .inl (by rw[e])⟩,fun e=>h2 ⟨r, .inr (by rw[e])⟩⟩
 ·exact bareP_cons h
theorem bare_ptsA:∀(n:Nat) (s:List UInt8),s.length≤n→(ptsA s=none→∃c∈bareP s,c≠46)∧∀m,ptsA s=some m→bareP s=List.replicate m 46
 |_,[],_=>⟨fun h=>(by cases h),fun m h=>by cases h;rfl⟩
 |0,x::s,h=>absurd h (by simp)
 |n+1,x::s,h=>by
  have h':s.length≤n:=by simpa using h
  have step:∀r:List UInt8,r.length≤n→ptsA (x::s)=(ptsA r).map (·+1)→bareP (x::s)=46::bareP r→(ptsA (x::s)=none→∃c∈bareP (x::s),c≠46)∧∀m,ptsA (x::s)=some m→bareP (x::s)=List.replicate m 46:=fun r hr e1 e2=>by
   obtain⟨i1,i2⟩:=bare_ptsA n r hr;rw[e1,e2];refine⟨fun hn=> ?_,fun m hm=> ?_⟩
   ·obtain⟨c,hc,hc2⟩:=i1 (by cases hp:ptsA r with|none=>rfl|some v=>rw[hp]at hn;cases hn)
    exact⟨c,List.mem_cons_of_mem _ hc,hc2⟩
   ·cases hp:ptsA r with
    |none=>rw[hp]at hm;cases hm
    |some v=>
     rw[hp]at hm
     cases hm
     rw[i2 v hp];rfl
  by_cases hx:x=46
  ·subst hx
   exact step s h' rfl (bareP_cons (by decide))
  ·by_cases hp:pctE (x::s)
   ·obtain⟨r,e|e⟩:=hp
    ·injection e with e1 e2
     subst e1;subst e2;exact step r (by simp at h';omega) rfl rfl
    ·injection e with e1 e2
     subst e1;subst e2;exact step r (by simp at h';omega) rfl rfl
   ·rw[ptsA_else hx hp,bare_else hp]
    exact⟨fun _=>⟨x,List.mem_cons_self,hx⟩,fun m hm=>by cases hm⟩
theorem ptsN_none {s:List UInt8} (h:ptsA s=none):ptsN s=0:=by
 obtain⟨c,hc,hne⟩:=(bare_ptsA _ s (Nat.le_refl _)).1 h;unfold ptsN;rw[if_neg,if_neg]
 ·intro e;rw[e]at hc;simp at hc;exact hne hc
 ·intro e;rw[e]at hc;simp at hc;exact hne hc
theorem ptsN_some {s:List UInt8} {n:Nat} (h:ptsA s=some n):ptsN s=if 2<n then 0 else n:=by
 have e:=(bare_ptsA _ s (Nat.le_refl _)).2 n h;unfold ptsN;rw[e]
 match n with
 |0=>rfl
 |1=>rfl
 |2=>rfl
 |n+3=>
  rw[if_neg,if_neg,if_pos (by omega)]
  ·intro e;have:=congrArg List.length e;simp at this
  ·intro e;have:=congrArg List.length e;simp at this
def PtsAt (s r:List UInt8) (n:Nat):Prop:=ptsA s=(ptsA r).map (·+n)∧n+r.length≤s.length
theorem PtsAt.start (s:List UInt8):PtsAt s s 0:=⟨by cases ptsA s<;>rfl,by omega⟩
theorem PtsAt.point {s r:List UInt8} {n:Nat} (h:PtsAt s (46::r) n):PtsAt s r (n+1):=
 ⟨by
  rw[h.1,ptsA]
  cases ptsA r with
  |none=>rfl
  |some v=>simp;omega,by have:=h.2;simp at this;omega⟩
theorem PtsAt.pct {s r:List UInt8} {n:Nat} (h:PtsAt s r n) (hp:pctE r):PtsAt s (r.drop 3) (n+1):=by
 obtain⟨t,e⟩:=hp;have h2:=h.2;refine⟨?_,by rcases e with e|e<;>rw[e]at h2⊢<;>simp at h2⊢<;>omega⟩;rw[h.1]
 rcases e with e|e<;>rw[e]<;>simp only[List.drop_succ_cons,List.drop_zero,ptsA]<;>cases ptsA t with
 |none=>rfl
 |some v=>simp;omega
theorem PtsAt.over {s:List UInt8} {n:Nat} (h:PtsAt s [] n):ptsN s=if 2<n then 0 else n:=ptsN_some (by rw[h.1];simp[ptsA])
theorem PtsAt.bad {s r:List UInt8} {x:UInt8} {n:Nat} (h:PtsAt s (x::r) n) (h1:x≠46) (h2:¬pctE (x::r)):ptsN s=0:=ptsN_none (by rw[h.1,ptsA_else h1 h2];rfl)
theorem low37:∀c:Fin 256,lowB (UInt8.ofNat c.val)=37→c.val=37:=by decide+kernel
theorem low50:∀c:Fin 256,lowB (UInt8.ofNat c.val)=50→c.val=50:=by decide+kernel
theorem low101:∀c:Fin 256,lowB (UInt8.ofNat c.val)=101→c.val=101∨c.val=69:=by decide+kernel
theorem pctE_iff (r:List UInt8):lowerL (r.take 3)=[37,50,101]↔pctE r:=by
 constructor
 ·intro h
  match r,h with
  |a::b::c::t,h=>
   have h:[lowB a,lowB b,lowB c]=[37,50,101]:=h;injection h with ha h;injection h with hb h;injection h with hc h;have a1:=low37 ⟨a.toNat,a.toNat_lt⟩ (by rw[UInt8.ofNat_toNat];exact ha);have b1:=low50 ⟨b.toNat,b.toNat_lt⟩ (by rw[UInt8.ofNat_toNat];exact hb);have c1:=low101 ⟨c.toNat,c.toNat_lt⟩ (by rw[UInt8.ofNat_toNat];exact hc);have a2:a=37:=UInt8.toNat_inj.1 a1;have b2:b=50:=UInt8.toNat_inj.1 b1;subst a2;subst b2;rcases c1 with c1|c1
   ·exact⟨t, .inl (by rw[show c=101 from UInt8.toNat_inj.1 c1])⟩
   ·exact⟨t, .inr (by rw[show c=69 from UInt8.toNat_inj.1 c1])⟩
  |[],h=>cases h
  |[a],h=>have:=congrArg List.length h;simp[lowerL]at this
  |[a,b],h=>have:=congrArg List.length h;simp[lowerL]at this
 ·rintro⟨t,e|e⟩<;>rw[e]<;>rfl
def numM (s:List UInt8):Nat:=min 65536 (numV s)
theorem numM_snoc (s:List UInt8) (c:UInt8):numM (s++[c])=min 65536 (10*numM s+(c.toNat-48)):=by unfold numM;rw[numV_snoc];omega
theorem numM_le (s:List UInt8):numM s≤65536:=by unfold numM;omega
theorem portU_bad {sch s:List UInt8} {k:Nat} (hk:k<s.length) (hc:numCB s[k]=false):portU sch s=none:=by
 unfold portU;rw[if_neg];rw[Bool.and_eq_true];rintro⟨h,_⟩;have:=List.all_eq_true.1 h _ (List.getElem_mem hk);rw[hc]at this;cases this
theorem portU_big {sch s:List UInt8} (h:65535<numM s):portU sch s=none:=by
 unfold portU numM at*;rw[if_neg];rw[Bool.and_eq_true];rintro⟨_,h2⟩;have:=of_decide_eq_true h2;omega
theorem portU_ok {sch s:List UInt8} (ha:s.all numCB=true) (h:numM s≤65535) (h0:s≠[]):portU sch s=some (if numM s=ownP sch then -1 else (numM s:Int)):=by
 have e:numM s=numV s:=by unfold numM at*;omega
 rw[e]at h⊢;unfold portU;rw[ha,decide_eq_true h,if_pos (by rfl)];simp[h0]
def LastAt (c:UInt8) (s:List UInt8) (k:Nat) (a:Int):Prop:=(a= -1∧c∉s.take k)∨∃(j:Nat) (h:j<k) (h2:j<s.length),a=(j:Int)∧s[j]=c∧c∉(s.take k).drop (j+1)
theorem LastAt.start (c:UInt8) (s:List UInt8):LastAt c s 0 (-1):= .inl ⟨rfl,by simp⟩
theorem LastAt.hit {c:UInt8} {s:List UInt8} {k:Nat} (hk:k<s.length) (hc:s[k]=c):LastAt c s (k+1) (k:Int):=
 .inr ⟨k,by omega,hk,rfl,hc,by rw[List.drop_of_length_le (by simp;omega)];simp⟩
theorem LastAt.miss {c:UInt8} {s:List UInt8} {k:Nat} {a:Int} (h:LastAt c s k a) (hk:k<s.length) (hc:s[k]≠c):LastAt c s (k+1) a:=by
 rcases h with ⟨e,h⟩|⟨j,h1,h2,e,h3,h4⟩
 ·refine .inl ⟨e,fun hm=> ?_⟩
  rw[List.take_succ_eq_append_getElem hk]at hm;rcases List.mem_append.1 hm with hm|hm
  ·exact h hm
  ·rw[List.mem_singleton]at hm;exact hc hm.symm
 ·refine .inr ⟨j,by omega,h2,e,h3,fun hm=> ?_⟩
  rw[List.take_succ_eq_append_getElem hk,List.drop_append_of_le_length (by simp;omega)]at hm;rcases List.mem_append.1 hm with hm|hm
  ·exact h4 hm
  ·rw[List.mem_singleton]at hm;exact hc hm.symm
theorem LastAt.over {c:UInt8} {s:List UInt8} {a:Int} (h:LastAt c s s.length a):(a= -1∧cutB c s=none)∨∃j:Nat,j<s.length∧a=(j:Int)∧cutB c s=some (s.take j,s.drop (j+1)):=by
 rcases h with ⟨e,h⟩|⟨j,h1,h2,e,h3,h4⟩
 ·rw[List.take_length]at h
  exact .inl ⟨e,cutB_none h⟩
 ·rw[List.take_length]at h4
  refine .inr ⟨j,h2,e, ?_⟩;have:s=s.take j++c::s.drop (j+1):=by
   conv=>lhs;rw[←List.take_append_drop j s,List.drop_eq_getElem_cons h2,h3]
  conv=>lhs;rw[this]
  exact cutB_app h4
theorem cut_two {c:UInt8} (h:c≠47) (s:List UInt8):((cutF c s).1.take 2==[47,47])=(s.take 2==[47,47]):=by
 match s with
 |[]=>rfl
 |[x]=>
  rw[cutF];split
  ·simp
  ·rfl
 |x::y::t=>
  rw[cutF];by_cases hx:x=c
  ·rw[if_pos hx]
   subst hx;simp[h]
  ·rw[if_neg hx]
   rw[cutF];by_cases hy:y=c
   ·rw[if_pos hy]
    subst hy;simp[h]
   ·rw[if_neg hy];rfl
theorem end_two (u:UrlL) (s:List UInt8):((endU u s).2.take 2==[47,47])=(s.take 2==[47,47]):=by
 show((cutF 63 (cutF 35 s).1).1.take 2==[47,47])=_;rw[cut_two (by decide),cut_two (by decide)]
theorem to_sl {s:List UInt8} {k:Nat} (hk:k≤s.length) (h:∀c∈s.take k,slashB c=false) (he:k=s.length∨∃h:k<s.length,slashB s[k]=true):(s.takeWhile fun c=> !slashB c)=s.take k∧(s.dropWhile fun c=> !slashB c).tail=s.drop (k+1):=by
 have e:s=s.take k++s.drop k:=(List.take_append_drop k s).symm;have h1:∀c∈s.take k,(!slashB c)=true:=fun c hc=>by rw[h c hc];rfl
 rw[e,List.takeWhile_append_of_pos h1,List.dropWhile_append_of_pos h1,←e];rcases he with rfl|⟨hl,hc⟩
 ·rw[List.drop_length,List.drop_of_length_le (by omega)]
  simp
 ·rw[List.drop_eq_getElem_cons hl,List.takeWhile_cons,List.dropWhile_cons,if_neg (by rw[hc];simp),if_neg (by rw[hc];simp)]
  simp
end Go.Proofs.YtlcnknlmdaochaaGreatDoor
