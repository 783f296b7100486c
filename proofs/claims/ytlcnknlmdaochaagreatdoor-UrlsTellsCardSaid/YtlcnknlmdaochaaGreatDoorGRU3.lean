/- The reference's end of layer 6: mark and query, told in the block of an address. -/
import Derived.Test.YtlcnknlmdaochaaGreatDoorGRU2
import Derived.Test.YtlcnknlmdaochaaGreatDoorGUrl5
import Derived.Test.YtlcnknlmdaochaaGreatDoorRHost
set_option linter.unusedVariables false
set_option linter.unusedSimpArgs false
set_option maxHeartbeats 16000000
namespace Go.Proofs.YtlcnknlmdaochaaGreatDoor
open Go.RowKit
theorem UrlAt.set1 {B:Nat} {u u':UrlL} {w:World} (h:UrlAt B u w) (k:Nat) (v:Value) (e:(cellsU u).set k v=cellsU u'):UrlAt B u' (w.setCell ⟨B,k,none⟩ v):=by
 unfold UrlAt;rw[heap_setCell_in h,List.setIfInBounds_toArray,e]
theorem UrlAt.keep1 {B:Nat} {u:UrlL} {w:World} (h:UrlAt B u w) (k:Nat) (v:Value):KeptX w.heap.size B w (w.setCell ⟨B,k,none⟩ v):=
 ⟨(Below.refl B w).setCell (p:=⟨B,k,none⟩) (Nat.le_refl _) v,fun i _ hi=>Below.heap_setCell _ _ _ _ (by intro e;exact hi e)⟩
theorem UrlAt.calm {B:Nat} {u:UrlL} {w w':World} (h:UrlAt B u w) (hb:Below w.heap.size w w'):UrlAt B u w':=(hb.block _ h.lt).trans h
theorem cut_len {c:UInt8} {s a x:List UInt8} (e:s=a++c::x):s.length=a.length+(x.length+1)∧List.take a.length s=a∧List.drop (a.length+1) s=x∧List.take (s.length-(a.length+1)) (List.drop (a.length+1) s)=x∧List.take (a.length+(x.length+1)-(a.length+1)) x=x:=by
 have h1:List.drop (a.length+1) s=x:=by rw[e];simp
 have h2:s.length=a.length+(x.length+1):=by rw[e];simp
 exact⟨h2,by rw[e];simp,h1,by rw[h1,h2];exact List.take_of_length_le (by omega),List.take_of_length_le (by omega)⟩
def REndPost (U:Nat) (u:UrlL) (s:List UInt8) (w:World) (e:Ending) (w':World):Prop:=
 e= .returned (.string ⟨(endU u s).2.toArray⟩)∧KeptX w.heap.size U w w'∧UrlAt U (endU u s).1 w'
set_option maxRecDepth 100000 in
theorem rend_u (U:Nat) (u:UrlL) (s:List UInt8) (w:World) (h:UrlAt U u w) (hs:s.length≤40000000) (hq1:u.query=[]) (hq2:u.hasQ=false) (hm1:u.mark=[]) (hm2:u.hasM=false):
 Calls Tryz.prog 113 #[.string ⟨s.toArray⟩, .pointer (some ⟨U,0,none⟩)] w (REndPost U u s w):=by
 have c1:=rfirst s 35 w (by omega)
 have hcf:= @cutF_fst 35 s
 obtain⟨a,m,hcm⟩:∃a m,cutF 35 s=(a,m):=⟨_,_,rfl⟩
 have hdef:endU u s=({u with mark:=(m.map (encP 2)).getD [],hasM:=m.isSome,query:=((cutF 63 a).2.map (encP 3)).getD [],hasQ:=(cutF 63 a).2.isSome},(cutF 63 a).1):=by unfold endU;rw[hcm]
 have hal:=cutF_len 35 s
 rw[hcm]at c1 hcf hal
 simp only at c1 hcf hal
 have HD:=Lib.hid hdef
 clear hdef hcm
 obtain⟨v,hv⟩:∃v:UrlL,v= {u with mark:=(m.map (encP 2)).getD [],hasM:=m.isSome}:=⟨_,rfl⟩
 go_enter Tryz.func113,Tryz.ntmps113
 go_upto_if 11 with (go_at_call 155;refine c1.mono ?_;rintro e w1 ⟨rfl,rfl⟩)
 go_cut [0] (fun sv wx=>sv= .string ⟨a.toArray⟩∧UrlAt U v wx∧KeptX w.heap.size U w wx)
 case first=>
  cases m with
  |none=>
   obtain rfl:a=s:=hcf.2.2 rfl;have hvu:v=u:=by rw[hv];cases u;simp only at hm1 hm2;subst hm1;subst hm2;rfl
   subst hvu;clear hv hcf c1 HD;go_wp2_with fail;go_meet
   case rel=>exact⟨rfl,h,KeptX.refl _ _ _⟩
  |some x=>
   obtain⟨e1,e2,e3,e4,e5⟩:=cut_len (hcf.2.1 x rfl);have hlt:(a.length:Int)<(s.length:Int):=by omega
   have hle:(a.length:Int)+1≤(s.length:Int):=by omega
   have ce:=rencode_p 2 (by omega) (by omega) x w (by omega);have hvu:v= {u with mark:=encP 2 x,hasM:=true}:=hv;clear hv hcf c1 HD;generalize encP 2 x=y at*;go_wp2_with fail;go_at_call 156;refine ce.mono ?_;rintro e w2 ⟨rfl,hb2⟩;have hU2:=h.calm hb2;have hK2:=KeptX.of_below hb2 (Nat.le_of_lt h.lt);have hU3:=hU2.set1 (u':= {u with mark:=y}) 8 (.string ⟨y.toArray⟩) rfl;have hU4:=hU3.set1 (u':= {u with mark:=y,hasM:=true}) 9 (.bool true) rfl;have hK4:=(hK2.next (hU2.keep1 8 (.string ⟨y.toArray⟩))).next (hU3.keep1 9 (.bool true));have k8:w2.cell? ⟨U,8,none⟩=some (.string ⟨_⟩):=hU2.cell 8;have k9:w2.cell? ⟨U,9,none⟩=some (.bool _):=hU2.cell 9;have f8:=hU2.free 8;have f9:=hU2.free 9;have HV:=Lib.hid hvu;clear hb2 hU2 hU3 hK2 ce hvu;go_wp2_with fail;go_meet
   case rel=>exact⟨rfl,by rw[HV.out];exact hU4,hK4⟩
 case rest=>
  obtain⟨rfl,hU1,hK1⟩:=hcut;have hq3:v.query=[]:=by rw[hv];exact hq1
  have hq4:v.hasQ=false:=by rw[hv];exact hq2
  have c2:=rfirst a 63 wc (by omega);have hcg:= @cutF_fst 63 a;obtain⟨b,q,hcq⟩:∃b q,cutF 63 a=(b,q):=⟨_,_,rfl⟩;have hvd:endU u s=({v with query:=(q.map (encP 3)).getD [],hasQ:=q.isSome},b):=by rw[HD.out,hcq,hv]
  have hbl:=cutF_len 63 a;rw[hcq]at c2 hcg hbl;simp only at c2 hcg hbl;have HE:=Lib.hid hvd;clear hvd hcq HD hcf hv c1 h hq1 hq2 hm1 hm2
  cases q with
  |none=>
   obtain rfl:b=a:=hcg.2.2 rfl;clear hcg;go_wp2_with(go_at_call 155;refine c2.mono ?_;rintro e w1 ⟨rfl,rfl⟩);go_ret;exact⟨by rw[HE.out];rfl,hK1,by rw[HE.out];cases v;simp only at hq3 hq4;subst hq3;subst hq4;exact hU1⟩
  |some x=>
   obtain⟨e1,e2,e3,e4,e5⟩:=cut_len (hcg.2.1 x rfl);have hlt:(b.length:Int)<(a.length:Int):=by omega
   have hle:(b.length:Int)+1≤(a.length:Int):=by omega
   have ce:=rencode_p 3 (by omega) (by omega) x wc (by omega);have HF:Hid (endU u s=({v with query:=encP 3 x,hasQ:=true},b)):=HE.out;clear hcg HE;generalize encP 3 x=y at*;go_wp2_with(go_at_call 155;refine c2.mono ?_;rintro e w1 ⟨rfl,rfl⟩);go_at_call 156;refine ce.mono ?_;rintro e w2 ⟨rfl,hb2⟩;have hU2:=hU1.calm hb2;have hK2:=hK1.calm (Nat.le_of_lt hU1.lt) hb2;have hU3:=hU2.set1 (u':= {v with query:=y}) 6 (.string ⟨y.toArray⟩) rfl;have hU4:=hU3.set1 (u':= {v with query:=y,hasQ:=true}) 7 (.bool true) rfl;have hK4:=(hK2.next (hU2.keep1 6 (.string ⟨y.toArray⟩))).next (hU3.keep1 7 (.bool true));have k6:w2.cell? ⟨U,6,none⟩=some (.string ⟨_⟩):=hU2.cell 6;have k7:w2.cell? ⟨U,7,none⟩=some (.bool _):=hU2.cell 7;have f6:=hU2.free 6;have f7:=hU2.free 7;clear hb2 hU2 hU3 hK2 ce c2 hU1 hK1;go_wp2_with fail;go_ret;exact⟨by rw[HF.out];rfl,hK4,by rw[HF.out];exact hU4⟩
theorem rhost_four (s:List UInt8) (w:World) (hs:s.length≤4100):Calls Tryz.prog 157 #[.string ⟨s.toArray⟩] w fun e w'=>e= .returned (optV (hostL s))∧Below w.heap.size w w':=by
 by_cases h:s.head?=some 91
 ·exact rhost_in s w (by omega) h
 ·exact rhost_out s w hs h
def SlAt (s:List UInt8) (k:Nat):Prop:=(∀c∈s.take k,slashB c=false)∧(k=s.length∨∃h:k<s.length,slashB s[k]=true)
def RPlacePost (U:Nat) (u:UrlL) (s:List UInt8) (w:World) (e:Ending) (w':World):Prop:=
 KeptX w.heap.size U w w'∧match placeU u s with
  | .error n=>e= .returned (.int .i64 (n:Int))
  | .ok v=>e= .returned (.int .i64 0)∧UrlAt U v w'
def ColonAt (x:List UInt8) (k:Nat):Prop:=colonF false x=(x.take k,x.drop (k+1))
def PortAt (x:List UInt8) (k i n:Nat):Prop:=k+1≤i∧n=numM ((x.drop (k+1)).take (i-(k+1)))∧((x.drop (k+1)).take (i-(k+1))).all numCB=true
theorem PortAt.start (x:List UInt8) (k:Nat):PortAt x k (k+1) 0:=⟨Nat.le_refl _,by simp[numM,numV],by simp⟩
theorem port_take {x:List UInt8} {k i:Nat} (h:k+1≤i) (hi:i<x.length):(x.drop (k+1)).take (i+1-(k+1))=(x.drop (k+1)).take (i-(k+1))++[x[i]]:=by
 have:=cur_snoc (s:=x) h hi;unfold cur at this;exact this
theorem PortAt.step {x:List UInt8} {k i n:Nat} (h:PortAt x k i n) (hi:i<x.length) (hc:numCB x[i]=true):PortAt x k (i+1) (min 65536 (10*n+(x[i].toNat-48))):=by
 obtain⟨h1,h2,h3⟩:=h;refine⟨by omega, ?_, ?_⟩
 ·rw[port_take h1 hi,numM_snoc,←h2]
 ·rw[port_take h1 hi,List.all_append,h3];simp[hc]
theorem PortAt.bad {x:List UInt8} {k i n:Nat} (h:PortAt x k i n) (hi:i<x.length) (hc:numCB x[i]=false) (sch:List UInt8):portU sch (x.drop (k+1))=none:=by
 have hj:i-(k+1)<(x.drop (k+1)).length:=by rw[List.length_drop];have:=h.1;omega
 refine portU_bad hj ?_;have e:(x.drop (k+1))[i-(k+1)]=x[i]:=by rw[List.getElem_drop];congr 1;have:=h.1;omega
 rw[e];exact hc
theorem PortAt.over {x:List UInt8} {k n:Nat} (h:PortAt x k x.length n) (hk:k+1<x.length) (sch:List UInt8):(65535<n→portU sch (x.drop (k+1))=none)∧(n≤65535→portU sch (x.drop (k+1))=some (if n=ownP sch then -1 else (n:Int))):=by
 obtain⟨h1,h2,h3⟩:=h;have e:(x.drop (k+1)).take (x.length-(k+1))=x.drop (k+1):=List.take_of_length_le (by simp);rw[e]at h2 h3;refine⟨fun q=>portU_big (by rw[←h2];exact q),fun q=> ?_⟩;rw[h2]at q⊢;exact portU_ok h3 q (fun e=>by have:=congrArg List.length e;simp at this;omega)
theorem PortAt.le {x:List UInt8} {k i n:Nat} (h:PortAt x k i n):n≤65536:=by rw[h.2.1];exact numM_le _
theorem user_none {a:List UInt8} (h:cutB 64 a=none):userU a=(([],[]),a):=by unfold userU;rw[h]
theorem user_some {a p b:List UInt8} (h:cutB 64 a=some (p,b)):userU a=((encP 5 (cutF 58 p).1,encP 5 ((cutF 58 p).2.getD [])),b):=by unfold userU;rw[h]
set_option maxRecDepth 100000 in
theorem rplace_u (U:Nat) (u:UrlL) (s:List UInt8) (w:World) (h:UrlAt U u w) (hs:s.length≤4100) (hu:u.user=[]) (hp:u.pass=[]):
 Calls Tryz.prog 115 #[.string ⟨s.toArray⟩, .pointer (some ⟨U,0,none⟩)] w (RPlacePost U u s w):=by
 have hdef:placeU u s=match hostL (colonF false (userU (s.takeWhile fun c=> !slashB c)).2).1 with
  |none=> .error 5
  |some x=>match portU u.scheme (colonF false (userU (s.takeWhile fun c=> !slashB c)).2).2 with
   |none=> .error 4
   |some q=> .ok {u with user:=(userU (s.takeWhile fun c=> !slashB c)).1.1,pass:=(userU (s.takeWhile fun c=> !slashB c)).1.2,host:=x,port:=q,path:=pathL [] (s.dropWhile fun c=> !slashB c).tail}:=rfl
 have HD:=Lib.hid hdef
 clear hdef
 have hlt:=h.lt
 go_enter Tryz.func115,Tryz.ntmps115
 go_upto_block 0 with fail
 go_cut [5]from 16 to 28 (fun cv wx=>∃k:Nat,k≤s.length∧cv= .int .i64 k∧SlAt s k∧w=wx)
 case first=>
  clear HD;go_wp2_with fail;go_loop [5] (fun cv=>∃k:Nat,k≤s.length∧cv= .int .i64 k∧Hid (∀c∈s.take k,slashB c=false)) (fun cv=>s.length-(intOf cv).toNat)
  case atStart=>exact⟨0,Nat.zero_le _,rfl,Lib.hid (by simp)⟩
  case round=>
   obtain⟨k,hk,rfl,HC⟩:=hrel;by_cases hkl:k<s.length
   ·have cl:=rslash s[k] w
    have hki:(k:Int)<(s.length:Int):=by omega
    cases hc:slashB s[k]with
    |true=>
     have HX:SlAt s k:=⟨HC.out, .inr ⟨hkl,hc⟩⟩;rw[hc]at cl;clear HC hc;generalize hx:s[k]=c at cl;go_wp2_with(go_at_call 114;refine cl.mono ?_;rintro e w1 ⟨rfl,rfl⟩);go_meet;exact⟨k,hk,rfl,HX,rfl⟩
    |false=>
     have HX:Hid (∀c∈s.take (k+1),slashB c=false):=fun c hm=>by
      rw[List.take_succ_eq_append_getElem hkl]at hm;rcases List.mem_append.1 hm with hm|hm
      ·exact HC.out c hm
      ·rw[List.mem_singleton]at hm;rw[hm];exact hc
     rw[hc]at cl;clear HC hc;generalize hx:s[k]=c at cl;go_wp2_with(go_at_call 114;refine cl.mono ?_;rintro e w1 ⟨rfl,rfl⟩);go_round
     case rel=>exact⟨k+1,by omega,by go_num,HX⟩
     case measure=>simp[intOf];omega
   ·obtain rfl:k=s.length:=by omega
    have HX:SlAt s s.length:=⟨HC.out, .inl rfl⟩;clear HC;go_wp2_with fail;go_meet;exact⟨s.length,hk,rfl,HX,rfl⟩
 case rest=>
  obtain⟨k,hk,rfl,HX,rfl⟩:=hcut;obtain⟨t1,t2⟩:=to_sl hk HX.1 HX.2;rw[t1,t2]at HD;have hal:(s.take k).length=k:=by simp;omega
  have hrl:(s.drop (k+1)).length≤s.length:=by simp
  clear HX t1 t2;go_upto_if 32 with fail;go_cut [6] (fun rv wx=>rv= .string ⟨(s.drop (k+1)).toArray⟩∧w=wx)
  case first=>
   clear HD;by_cases hkl:k<s.length
   ·have hki:(k:Int)<(s.length:Int):=by omega
    have hk1:(k:Int)+1≤(s.length:Int):=by omega
    have htt:List.take (s.length-(k+1)) (List.drop (k+1) s)=s.drop (k+1):=List.take_of_length_le (by simp);go_wp2_with fail;go_meet
    case rel=>exact⟨rfl,rfl⟩
   ·have hki:¬(k:Int)<(s.length:Int):=by omega
    have hdn:s.drop (k+1)=[]:=List.drop_of_length_le (by omega);have HN:=Lib.hid hdn;clear hdn;go_wp2_with fail;go_meet
    case rel=>exact⟨by rw[HN.out],rfl⟩
  case rest=>
   obtain⟨rfl,rfl⟩:=hcut;generalize hta:s.take k=a at*;generalize s.drop (k+1)=rest at*;have hki:(k:Int)≤(s.length:Int):=by omega
   go_upto_block 2 with fail;clear hta;subst hal;go_wp2_with fail;go_loop [7,8] (fun av iv=>∃(j:Nat) (m:Int),j≤a.length∧iv= .int .i64 j∧av= .int .i64 m∧Hid (LastAt 64 a j m)) (fun _ iv=>a.length-(intOf iv).toNat)
   case atStart=>exact⟨0, -1,Nat.zero_le _,rfl,rfl,LastAt.start _ _⟩
   case round=>
    obtain⟨j,m,hj,rfl,rfl,HL⟩:=hrel;by_cases hjl:j<a.length
    ·by_cases hc:a[j]=64
     ·have HX:=Lib.hid (LastAt.hit hjl hc)
      have hci:((a[j].toNat:Int)==64)=true:=by rw[hc];rfl
      have hcp:(a[j].toNat:Int)=64:=by rw[hc];rfl
      clear HD HL hc;generalize hx:a[j]=c at*;go_wp2_with fail;go_round
      case rel=>exact⟨j+1,j,by omega,by go_num,rfl,HX⟩
      case measure=>simp[intOf];omega
     ·have HX:=Lib.hid (HL.out.miss hjl hc)
      have hcp:¬(a[j].toNat:Int)=64:=fun e=>hc (UInt8.toNat_inj.1 (show a[j].toNat=64 by omega))
      have hci:((a[j].toNat:Int)==64)=false:=beq_eq_false_iff_ne.2 hcp;clear HD HL hc;generalize hx:a[j]=c at*;go_wp2_with fail;go_round
      case rel=>exact⟨j+1,m,by omega,by go_num,rfl,HX⟩
      case measure=>simp[intOf];omega
    ·obtain rfl:j=a.length:=by omega
     have hL:=HL.out.over;have hul:=userU_len a;obtain⟨us,ps,x,hus⟩:∃us ps x,userU a=((us,ps),x):=⟨_,_,_,rfl⟩;rw[hus]at HD hul;simp only at HD hul;clear HL;go_upto_if 52 with fail;go_cut [0,9] (fun sv cv wx=>sv= .string ⟨x.toArray⟩∧UrlAt U {u with user:=us,pass:=ps} wx∧KeptX w.heap.size U w wx)
     case first=>
      clear HD;rcases hL with ⟨rfl,hn⟩|⟨j,hj2,rfl,hn⟩
      ·rw[user_none hn]at hus
       injection hus with e1 e2;injection e1 with e3 e4;subst e2;subst e3;subst e4;have hU1:UrlAt U {u with user:=[],pass:=[]} w:=by
        have e:({u with user:=[],pass:=[]}:UrlL)=u:=by cases u;simp only at hu hp;subst hu;subst hp;rfl
        rw[e];exact h
       clear hn h hu hp;go_wp2_with fail;go_meet
       case rel=>exact⟨rfl,hU1,KeptX.refl _ _ _⟩
      ·rw[user_some hn]at hus
       injection hus with e1 e2;injection e1 with e3 e4;have hpl:(a.take j).length=j:=by simp;omega
       have c1:=rfirst (a.take j) 58 w (by omega);have hcf:= @cutF_fst 58 (a.take j);have hcl:=cutF_len 58 (a.take j);have hjc:cutF 58 (a.take j)=((cutF 58 (a.take j)).1,(cutF 58 (a.take j)).2):=rfl;obtain⟨p,q,hpq⟩:∃p q,cutF 58 (a.take j)=(p,q):=⟨_,_,rfl⟩;rw[hpq]at c1 hcf hcl e3 e4;simp only at c1 hcf hcl e3 e4;have hji:(j:Int)≤(a.length:Int):=by omega
       have hji1:(j:Int)+1≤(a.length:Int):=by omega
       have hj0:(0:Int)≤(j:Int):=by omega
       have hpa:List.take p.length a=p:=by
        have e:a.take j=p++(a.take j).drop p.length:=by
         cases q with
         |none=>rw[hcf.2.2 rfl];simp
         |some y=>rw[hcf.2.1 y rfl];simp
        have e2:List.take p.length (a.take j)=p:=by rw[e];simp
        rw[List.take_take,Nat.min_eq_left (by omega)]at e2;exact e2
       have htt:List.take (a.length-(j+1)) (List.drop (j+1) a)=x:=by rw[←e2];exact List.take_of_length_le (by simp)
       have hpi:(p.length:Int)≤(a.length:Int):=by omega
       have ce:=rencode_p 5 (by omega) (by omega) p w (by omega);generalize hta:a.take j=b at*;clear hjc hpq hn e2
       cases q with
       |none=>
        obtain rfl:p=b:=hcf.2.2 rfl;have hnl:¬(p.length:Int)<(j:Int):=by omega
        have e4:[]=ps:=e4;subst e4;clear hcf;generalize encP 5 p=y at*;subst e3;go_wp2_with(go_at_call 155;refine c1.mono ?_;rintro e w1 ⟨rfl,rfl⟩);go_at_call 156;refine ce.mono ?_;rintro e w2 ⟨rfl,hb2⟩;have hU2:=h.calm hb2;have hK2:=KeptX.of_below hb2 (Nat.le_of_lt h.lt);have k1:w2.cell? ⟨U,1,none⟩=some (.string ⟨_⟩):=hU2.cell 1;have f1:=hU2.free 1;have hU3:=hU2.set1 (u':= {u with user:=y,pass:=[]}) 1 (.string ⟨y.toArray⟩) (by cases u;simp only at hp;subst hp;rfl);have hK3:=hK2.next (hU2.keep1 1 (.string ⟨y.toArray⟩));clear hb2 hU2 hK2 ce c1 h;go_wp2_with fail;go_meet
        case rel=>exact⟨rfl,hU3,hK3⟩
       |some z=>
        obtain⟨l1,l2,l3,l4,l5⟩:=cut_len (hcf.2.1 z rfl);have hnl:(p.length:Int)<(j:Int):=by omega
        have e4:encP 5 z=ps:=e4;have hpz:(p.length:Int)+1≤(j:Int):=by omega
        have htz:List.take (j-(p.length+1)) (List.drop (p.length+1) a)=z:=by
         have:List.drop (p.length+1) b=z:=l3;rw[←hta,List.drop_take]at this;exact this
        have cf:=fun W=>rencode_p 5 (by omega) (by omega) z W (by omega)
        clear hcf l1 l2 l3 l4 l5;generalize encP 5 p=y at*;generalize encP 5 z=y2 at*;subst e3;subst e4;go_wp2_with(go_at_call 155;refine c1.mono ?_;rintro e w1 ⟨rfl,rfl⟩);go_at_call 156;refine ce.mono ?_;rintro e w2 ⟨rfl,hb2⟩;have hU2:=h.calm hb2;have hK2:=KeptX.of_below hb2 (Nat.le_of_lt h.lt);have k1:w2.cell? ⟨U,1,none⟩=some (.string ⟨_⟩):=hU2.cell 1;have f1:=hU2.free 1;have hU3:=hU2.set1 (u':= {u with user:=y}) 1 (.string ⟨y.toArray⟩) rfl;have hK3:=hK2.next (hU2.keep1 1 (.string ⟨y.toArray⟩));clear hb2 hU2 hK2 ce c1 h;go_wp2_with fail;go_at_call 156;refine(cf _).mono ?_;rintro e w4 ⟨rfl,hb4⟩;have hU4:=hU3.calm hb4;have hK4:=hK3.calm (Nat.le_of_lt hU3.lt) hb4;have k2:w4.cell? ⟨U,2,none⟩=some (.string ⟨_⟩):=hU4.cell 2;have f2:=hU4.free 2;have hU5:=hU4.set1 (u':= {u with user:=y,pass:=y2}) 2 (.string ⟨y2.toArray⟩) rfl;have hK5:=hK4.next (hU4.keep1 2 (.string ⟨y2.toArray⟩));clear hb4 hU3 hU4 hK3 hK4 cf k1 f1;go_wp2_with fail;go_meet
        case rel=>exact⟨rfl,hU5,hK5⟩
     case rest=>
      obtain⟨rfl,hU1,hK1⟩:=hcut;clear hL hus h hu hp;generalize wc=W1 at*;go_upto_block 4 with fail;go_cut [10,11]from 80 to 107 (fun cv iv wx=>∃k:Nat,k≤x.length∧cv= .int .i64 k∧ColonAt x k∧W1=wx)
      case first=>
       clear HD hU1 hK1;go_wp2_with fail;go_loop [10,11] (fun cv iv=>∃(k:Nat) (inn:Bool),k≤x.length∧cv= .int .i64 k∧iv= .bool inn∧Hid (ColEq x inn k)) (fun cv _=>x.length-(intOf cv).toNat)
       case atStart=>exact⟨0,false,Nat.zero_le _,rfl,rfl,ColEq.start x⟩
       case round=>
        obtain⟨k,inn,hk,rfl,rfl,HQ⟩:=hrel;by_cases hkl:k<x.length
        ·have hki:(k:Int)<(x.length:Int):=by omega
         by_cases hc:x[k]=58∧inn=false
         ·obtain⟨hc1,rfl⟩:=hc
          have HC:ColonAt x k:=HQ.out.hit hkl hc1;have hci:(x[k].toNat:Int)=58:=by rw[hc1];rfl
          have hcb:((x[k].toNat:Int)==58)=true:=by rw[hci];rfl
          clear HQ hc1;generalize hx:x[k]=c at*;go_wp2_with fail;go_meet;exact⟨k,hk,rfl,HC,rfl⟩
         ·have HS:=Lib.hid (HQ.out.miss hkl hc)
          clear HQ;generalize hx:x[k]=c at*;by_cases h58:c=58
          ·subst h58
           have hin:inn=true:=by cases inn with|true=>rfl|false=>exact absurd ⟨rfl,rfl⟩ hc
           subst hin;go_wp2_with fail;go_round
           case rel=>exact⟨k+1,_,by omega,by go_num,rfl,HS⟩
           case measure=>simp[intOf];omega
          ·have z58:((c.toNat:Int)==58)=false:=beq_eq_false_iff_ne.2 (fun e=>h58 (UInt8.toNat_inj.1 (by show c.toNat=58;omega)))
           have y58:((c.toNat:Int) !=58)=true:=by rw[bne,z58];rfl
           by_cases h91:c=91
           ·subst h91
            clear hc
            cases inn
            all_goals
             go_wp2_with fail;go_round
             case rel=>exact⟨k+1,_,by omega,by go_num,rfl,HS⟩
             case measure=>simp[intOf];omega
           ·by_cases h93:c=93
            ·subst h93
             clear hc
             cases inn
             all_goals
              go_wp2_with fail;go_round
              case rel=>exact⟨k+1,_,by omega,by go_num,rfl,HS⟩
              case measure=>simp[intOf];omega
            ·have z91:((c.toNat:Int)==91)=false:=beq_eq_false_iff_ne.2 (fun e=>h91 (UInt8.toNat_inj.1 (by show c.toNat=91;omega)))
             have z93:((c.toNat:Int)==93)=false:=beq_eq_false_iff_ne.2 (fun e=>h93 (UInt8.toNat_inj.1 (by show c.toNat=93;omega)));have y93:((c.toNat:Int) !=93)=true:=by rw[bne,z93];rfl
             have HS2:Hid (ColEq x inn (k+1)):=by
              have:=HS.out;rw[show(c==91)=false from beq_eq_false_iff_ne.2 h91,show(c !=93)=true from bne_iff_ne.2 h93,Bool.and_true,Bool.false_or]at this;exact this
             clear HS hc h58 h91 h93
             cases inn
             all_goals
              go_wp2_with fail;go_round
              case rel=>exact⟨k+1,_,by omega,by go_num,rfl,HS2⟩
              case measure=>simp[intOf];omega
        ·obtain rfl:k=x.length:=by omega
         have HC:ColonAt x x.length:=by
          unfold ColonAt;rw[HQ.out.end_ (Nat.le_refl _),List.take_length,List.drop_of_length_le (by omega)]
         clear HQ;go_wp2_with fail;go_meet;exact⟨x.length,hk,rfl,HC,rfl⟩
      case rest=>
       obtain⟨k,hkx,rfl,HC,rfl⟩:=hcut;unfold ColonAt at HC;rw[HC]at HD;simp only at HD;have chp:=rhost_four (x.take k) W1 (by simp;omega);have hki:(k:Int)≤(x.length:Int):=by omega
       cases hh:hostL (x.take k)with
       |none=>
        have HN:Hid (placeU u s= .error 5):=by
         show _=_;rw[HD.out];simp only[hh]
        rw[hh]at chp;unfold optV at chp;simp only at chp;clear HD HC hh;go_wp2_with fail;go_at_call 157;refine chp.mono ?_;rintro e W2 ⟨rfl,hb2⟩;have hK2:=hK1.calm (Nat.le_of_lt hU1.lt) hb2;clear chp hb2;go_wp2_with fail;go_ret;exact⟨hK2,by rw[HN.out];rfl⟩
       |some y=>
        rw[hh]at chp;unfold optV at chp;simp only at chp;have hN:placeU u s=match portU u.scheme (x.drop (k+1))with
         |none=> .error 4
         |some q=> .ok {u with user:=us,pass:=ps,host:=y,port:=q,path:=pathL [] rest}:=by
         rw[HD.out];simp only[hh]
        have HN:=Lib.hid hN;clear HD HC hh hN;go_wp2_with fail;go_at_call 157;refine chp.mono ?_;rintro e W2 ⟨rfl,hb2⟩;have hU2:=hU1.calm hb2;have hK2:=hK1.calm (Nat.le_of_lt hU1.lt) hb2;have k3:W2.cell? ⟨U,3,none⟩=some (.string ⟨_⟩):=hU2.cell 3;have k4:W2.cell? ⟨U,4,none⟩=some (.int .i64 _):=hU2.cell 4;have f3:=hU2.free 3;have f4:=hU2.free 4;have hU3:=hU2.set1 (u':= {u with user:=us,pass:=ps,host:=y}) 3 (.string ⟨y.toArray⟩) rfl;have hU4:=hU3.set1 (u':= {u with user:=us,pass:=ps,host:=y,port:= -1}) 4 (.int .i64 (-1)) rfl;have hK4:=(hK2.next (hU2.keep1 3 (.string ⟨y.toArray⟩))).next (hU3.keep1 4 (.int .i64 (-1)));clear chp hb2 hU1 hK1 hU2 hK2 hU3;go_upto_if 128 with fail;generalize (W2.setCell ⟨U,3,none⟩ (.string ⟨y.toArray⟩)).setCell ⟨U,4,none⟩ (.int .i64 (-1))=W4 at*;clear k3 k4 f3 f4;go_cut [14,15] (fun nv iv wx=>∃q,portU u.scheme (x.drop (k+1))=some q∧UrlAt U {u with user:=us,pass:=ps,host:=y,port:=q} wx∧KeptX w.heap.size U w wx)
        case first=>
         by_cases hkl:k+1<x.length
         ·have hki2:(k:Int)+1<(x.length:Int):=by omega
          rw[decide_eq_true hki2];go_wp2_with fail;go_loop [14,15] (fun nv iv=>∃i n:Nat,i≤x.length∧iv= .int .i64 i∧nv= .int .i64 n∧n≤65536∧Hid (PortAt x k i n)) (fun _ iv=>x.length-(intOf iv).toNat)
          case atStart=>exact⟨k+1,0,by omega,by go_num,rfl,by omega,PortAt.start x k⟩
          case round=>
           obtain⟨i,n,hi,rfl,rfl,hn,HP⟩:=hrel;by_cases hil:i<x.length
           ·have hii:(i:Int)<(x.length:Int):=by omega
            have cd:=rdigit_u x[i] W4
            cases hd:numCB x[i]with
            |false=>
             have HE:Hid (placeU u s= .error 4):=by
              show _=_;rw[HN.out];simp only[HP.out.bad hil hd]
             rw[hd]at cd;clear HN HP hd;generalize hx:x[i]=c at*;go_wp2_with(go_at_call 154;refine cd.mono ?_;rintro e w1 ⟨rfl,rfl⟩);go_ret;exact⟨hK4,by rw[HE.out];rfl⟩
            |true=>
             have HS:=Lib.hid (HP.out.step hil hd);rw[hd]at cd;have hcr:48≤(x[i].toNat:Int)∧(x[i].toNat:Int)≤57:=by
              unfold numCB at hd;rw[Bool.and_eq_true]at hd;have h1:=of_decide_eq_true hd.1;have h2:=of_decide_eq_true hd.2;omega
             clear HN HP hd;generalize hx:x[i]=c at*;obtain⟨r1,r2⟩:=hcr;obtain⟨d,hdd⟩:∃d:Nat,d+48=c.toNat:=⟨c.toNat-48,by omega⟩;have hcd:(c.toNat:Int)-48=(d:Int):=by omega
             have hcn:c.toNat-48=d:=by omega
             have hd9:d≤9:=by omega
             rw[hcn]at HS;obtain⟨N,hNN⟩:∃N,min 65536 (10*n+d)=N:=⟨_,rfl⟩;rw[hNN]at HS;have hmin:min 65536 (10*(n:Int)+(d:Int))=(N:Int):=by omega
             have hN6:N≤65536:=by omega
             have HNN:=Lib.hid hNN;clear hNN hcn hdd;go_wp2_with(go_at_call 154;refine cd.mono ?_;rintro e w1 ⟨rfl,rfl⟩);go_round
             case rel=>exact⟨i+1,N,by omega,by go_num,rfl,hN6,HS⟩
             case measure=>simp[intOf];omega
           ·obtain rfl:i=x.length:=by omega
            obtain⟨o1,o2⟩:=HP.out.over hkl u.scheme;by_cases hn5:n≤65535
            ·have hpo:=o2 hn5
             have hni:¬65535<(n:Int):=by omega
             have co:=rown_p u.scheme W4;have k0:W4.cell? ⟨U,0,none⟩=some (.string ⟨u.scheme.toArray⟩):=hU4.cell 0;have k4:W4.cell? ⟨U,4,none⟩=some (.int .i64 (-1)):=hU4.cell 4;have f4:=hU4.free 4;clear o1 o2 HP HN;by_cases ho:n=ownP u.scheme
             ·rw[if_pos ho]at hpo
              have hoi:((n:Int) !=(ownP u.scheme:Int))=false:=by rw[bne,beq_iff_eq.2 (by omega)];rfl
              have hoe:(n:Int)=(ownP u.scheme:Int):=by omega
              have HO:=Lib.hid hpo;clear hpo;generalize ownP u.scheme=o at*;subst ho;go_wp2_with(go_at_call 65;refine co.mono ?_;rintro e w1 ⟨rfl,rfl⟩);go_meet
              case rel=>exact⟨-1,HO.out,hU4,hK4⟩
             ·rw[if_neg ho]at hpo
              have hoi:((n:Int) !=(ownP u.scheme:Int))=true:=by rw[bne,beq_eq_false_iff_ne.2 (by omega)];rfl
              have hoe:¬(n:Int)=(ownP u.scheme:Int):=by omega
              have HO:=Lib.hid hpo;have hU5:=hU4.set1 (u':= {u with user:=us,pass:=ps,host:=y,port:=(n:Int)}) 4 (.int .i64 n) rfl;have hK5:=hK4.next (hU4.keep1 4 (.int .i64 n));clear hpo ho;generalize ownP u.scheme=o at*;go_wp2_with(go_at_call 65;refine co.mono ?_;rintro e w1 ⟨rfl,rfl⟩);go_meet
              case rel=>exact⟨n,HO.out,hU5,hK5⟩
            ·have hpo:=o1 (by omega)
             have hni:65535<(n:Int):=by omega
             have HE:Hid (placeU u s= .error 4):=by
              show _=_;rw[HN.out];simp only[hpo]
             clear o1 o2 HP HN hpo;go_wp2_with fail;go_ret;exact⟨hK4,by rw[HE.out];rfl⟩
         ·have hki2:¬(k:Int)+1<(x.length:Int):=by omega
          have hpo:portU u.scheme (x.drop (k+1))=some (-1):=by rw[List.drop_of_length_le (by omega)];rfl
          have HO:=Lib.hid hpo;clear hpo;go_wp2_with fail;go_meet
          case rel=>exact⟨-1,HO.out,hU4,hK4⟩
        case rest=>
         obtain⟨q,hq,hU5,hK5⟩:=hcut;have HE:Hid (placeU u s= .ok {u with user:=us,pass:=ps,host:=y,port:=q,path:=pathL [] rest}):=by
          show _=_;rw[HN.out];simp only[hq]
         have cr:=rpath_u (.slice none 0 0) [] none rest wc (.inl ⟨rfl,rfl⟩) (by simp) (by simp[backL]) (by omega);clear HN hq hU4 hK4;generalize pathL [] rest=pa at*;go_wp2_with fail;go_at_call 158;refine cr.mono ?_;rintro e W6 ⟨rfl,hb6⟩;have hU6:=hU5.calm hb6;have hK6:=hK5.calm (Nat.le_of_lt hU5.lt) hb6;have k5:W6.cell? ⟨U,5,none⟩=some (.string ⟨_⟩):=hU6.cell 5;have f5:=hU6.free 5;have hU7:=hU6.set1 (u':= {u with user:=us,pass:=ps,host:=y,port:=q,path:=pa}) 5 (.string ⟨pa.toArray⟩) rfl;have hK7:=hK6.next (hU6.keep1 5 (.string ⟨pa.toArray⟩));clear cr hb6 hU5 hK5 hU6 hK6;go_wp2_with fail;go_ret;exact⟨hK7,by rw[HE.out];exact⟨rfl,hU7⟩⟩
def RSeenPost (U:Nat) (u base:UrlL) (s:List UInt8) (w:World) (e:Ending) (w':World):Prop:=
 KeptX w.heap.size U w w'∧match seenU u base s with
  | .error n=>e= .returned (.int .i64 (n:Int))
  | .ok v=>e= .returned (.int .i64 0)∧UrlAt U v w'
def RSeenC:Prop:=∀(U:Nat) (u base:UrlL) (s:List UInt8) (w:World),UrlAt U u w→s.length≤4100→u.user=[]→u.pass=[]→47∈base.path→(92:UInt8)∉base.path→base.path.length≤4100→
 Calls Tryz.prog 116 #[.string ⟨s.toArray⟩,urlV base, .pointer (some ⟨U,0,none⟩)] w (RSeenPost U u base s w)
theorem sl_front {s r:List UInt8} (h:s.dropWhile slashB=r.dropWhile slashB):(r=[]→s.dropWhile slashB=[])∧∀c t,r=c::t→(slashB c=true→s.dropWhile slashB=t.dropWhile slashB)∧(slashB c=false→s.dropWhile slashB=c::t):=by
 refine⟨fun e=>by rw[h,e];rfl,fun c t e=>⟨fun hc=> ?_,fun hc=> ?_⟩⟩
 ·rw[h,e,List.dropWhile_cons,if_pos hc]
 ·rw[h,e,List.dropWhile_cons,if_neg (by rw[hc];simp)]
end Go.Proofs.YtlcnknlmdaochaaGreatDoor
