/- The walk of puny.Decode. -/
import Derived.Test.YtlcnknlmdaochaaGreatDoorGIns
import Derived.Test.YtlcnknlmdaochaaGreatDoorGREnc
set_option linter.unusedVariables false
set_option linter.unusedSimpArgs false
set_option maxHeartbeats 16000000
namespace Go.Proofs.YtlcnknlmdaochaaGreatDoor
open Go.RowKit
theorem decode_walk_long (s:List UInt8) (w:World) (hs:65536<s.length) (hm:s.length≤140737488351232):
 Calls Tryz.prog 281 #[.string ⟨s.toArray⟩] w fun e w'=>e= .returned (resV (decode s))∧Below w.heap.size w w':=by
 have hd:=Lib.hid (decode_long hs)
 have hb:decide (65536<(s.length:Int))=true:=by simp;omega
 clear hs
 go_enter Tryz.func281,Tryz.ntmps281
 iterate 8 go_step
 go_wp2
 go_ret2
 exact⟨by rw[hd.out];rfl,Below.refl _ _⟩
def DecI (w wr:World) (v:Value) (s t:List UInt8) (b sg pl:Nat) (fst:Bool) (l:List Nat):Prop:=
 wr.ownsRow w.heap.size 21 1 v l.length (i32s l)∧Below w.heap.size w wr∧b≤288∧sg≤1114111∧pl≤l.length∧l.length+t.length≤65536∧(∀x∈l,¬badSign x)∧Hid (decL t b sg pl fst l=decTop s)
def DecS (w wr:World) (s:List UInt8) (a0 v:Value):Prop:=∃(t:List UInt8) (l:List Nat),a0= .string ⟨t.toArray⟩∧DecI w wr v s t 72 128 0 true l
theorem decI_next {w w3:World} {v':Value} {s rest:List UInt8} {b' sg p:Nat} {l:List Nat} (hown:w3.ownsRow w.heap.size 21 1 v' (l.length+1) ((i32s l).take p++[.int .i32 (sg:Int)]++(i32s l).drop p)) (hp:p≤l.length) (hb:Below w.heap.size w w3) (hb':b'≤288)
 (hs:¬badSign sg) (hlen:l.length+1+rest.length≤65536) (hbad:∀x∈l,¬badSign x) (H:decL rest b' sg (p+1) false (l.take p++[sg]++l.drop p)=decTop s):DecI w w3 v' s rest b' sg (p+1) false (l.take p++[sg]++l.drop p):=by
 have hl:(l.take p++[sg]++l.drop p).length=l.length+1:=by simp;omega
 refine⟨?_,hb,hb', ?_, ?_, ?_, ?_,H⟩
 ·rw[hl]
  have e:i32s (l.take p++[sg]++l.drop p)=(i32s l).take p++[.int .i32 (sg:Int)]++(i32s l).drop p:=by simp[i32s,List.map_take,List.map_drop]
  rw[e];exact hown
 ·unfold badSign at hs;omega
 ·rw[hl];omega
 ·rw[hl];omega
 ·intro x hx
  simp only[List.mem_append,List.mem_singleton]at hx;rcases hx with (hx|rfl)|hx
  ·exact hbad x (List.mem_of_mem_take hx)
  ·exact hs
  ·exact hbad x (List.mem_of_mem_drop hx)
theorem bad_plain {x:Nat} (h:x<128):¬badSign x:=by unfold badSign;omega
theorem decS_cut {w wr w2:World} {s:List UInt8} {v:Value} {c:Nat} (hs:s.length≤65536) (hp:∀c∈s,c.toNat<128) (hc:c<s.length) (h0:0<c) (hl:lastAt s 45 s.length=c) (hb1:Below w.heap.size w wr) (hb2:Below wr.heap.size wr w2)
 (hown:w2.ownsRow w.heap.size 21 1 v (s.take c).length ((s.take c).map fun c=> .int .i32 (c.toNat:Int))):DecS w w2 s (.string ⟨(s.drop (c+1)).toArray⟩) v:=by
 refine⟨s.drop (c+1),(s.take c).map fun c=>c.toNat,rfl, ?_,hb1.trans (hb2.mono hb1.size),by omega,by omega,by omega, ?_, ?_, ?_⟩
 ·rw[List.length_map,i32s,List.map_map];exact hown
 ·simp;omega
 ·intro x hx
  obtain⟨u,hu,rfl⟩:=List.mem_map.1 hx;exact bad_plain (hp u (List.mem_of_mem_take hu))
 ·show _=_
  unfold decTop;rw[if_pos (by omega),hl];rfl
theorem decS_whole {w wr:World} {s:List UInt8} (hs:s.length≤65536) (hl:¬0<lastAt s 45 s.length) (hb1:Below w.heap.size w wr):DecS w wr s (.string ⟨s.toArray⟩) (.slice none 0 0):=by
 refine⟨s,[],rfl,World.ownsRow_nil _ _ _ _,hb1,by omega,by omega,by omega,by simp;omega,by simp, ?_⟩;show _=_;unfold decTop;rw[if_neg hl]
theorem validRune_bad {x:Nat} (h:badSign x):Lib.validRune (x:Int)=false:=by
 unfold badSign at h;unfold Lib.validRune;rw[decide_eq_false];omega
theorem validRune_good {x:Nat} (h:¬badSign x):Lib.validRune (x:Int)=true:=by
 unfold badSign at h;unfold Lib.validRune;rw[decide_eq_true];omega
theorem quo_len (n m:Nat):(0:Int)≤(n:Int)/((m:Int)+1)∧(n:Int)/((m:Int)+1)≤(n:Int)∧(n:Int)/((m:Int)+1)=((n/(m+1):Nat):Int):=by
 have h:(n:Int)/((m:Int)+1)=((n/(m+1):Nat):Int):=by rw[Int.natCast_ediv];rfl
 have h2:n/(m+1)≤n:=Nat.div_le_self _ _;rw[h];exact⟨Int.natCast_nonneg _,Int.ofNat_le.2 h2,rfl⟩
theorem rem_len (n m:Nat):(0:Int)≤(n:Int) % ((m:Int)+1)∧(n:Int) % ((m:Int)+1)≤(m:Int)∧(n:Int) % ((m:Int)+1)=((n % (m+1):Nat):Int):=by
 have h:(n:Int) % ((m:Int)+1)=((n % (m+1):Nat):Int):=by rw[Int.natCast_emod];rfl
 have h2:n % (m+1)≤m:=by have:=Nat.mod_lt n (show 0<m+1 by omega);omega
 rw[h];exact⟨Int.natCast_nonneg _,Int.ofNat_le.2 h2,rfl⟩
set_option maxRecDepth 100000 in
theorem decode_walk (s:List UInt8) (w:World) (hs:s.length≤65536):
 Calls Tryz.prog 281 #[.string ⟨s.toArray⟩] w fun e w'=>e= .returned (resV (decode s))∧Below w.heap.size w w':=by
 have hb:decide (65536<(s.length:Int))=false:=by simp;omega
 obtain⟨cap,w1,hcv,hb1,hlt1,hcap,hcells⟩:=conv_bytes w s (by omega)
 have Hc:=Lib.hid hcells
 clear hcells
 go_enter Tryz.func281,Tryz.ntmps281
 go_wp2
 clear hcv
 go_loop [22] (fun i=>∃k:Nat,k≤s.length∧i= .int .i64 k∧Hid (∀j (hj:j<s.length),j<k→s[j].toNat<128)) (fun i=>s.length-(intOf i).toNat)
 case atStart=>exact⟨0,Nat.zero_le _,rfl,fun j _ h=>absurd h (Nat.not_lt_zero _)⟩
 case round=>
  obtain⟨k,hk,rfl,H⟩:=hrel;by_cases hlt:k<s.length
  ·have hcell:=Hc.out k hlt
   go_wp2
   ·go_ret2
    refine⟨?_,hb1⟩;rw[decode_wide hs ⟨s[k],List.getElem_mem hlt,by omega⟩];rfl
   ·go_round
    case rel=>exact⟨k+1,by omega,by go_num,fun j hj hjk=>by
     by_cases e:j=k
     ·subst e;omega
     ·exact H.out j hj (by omega)⟩
    case measure=>simp[intOf];omega
  ·obtain rfl:k=s.length:=by omega
   have hp:∀c∈s,c.toNat<128:=by
    intro c hc;obtain⟨j,hj,rfl⟩:=List.getElem_of_mem hc;exact H.out j hj hj
   have Hp:=Lib.hid hp;clear hp H Hc hcap hk hlt;have hl:=lastAt_lt s 45 s.length;have hm:=Lib.hid (lastIndexByte_mk s 45);have hs2:(⟨s.toArray⟩:ByteArray).size<4611686018427387904:=by show s.length<_;omega
   go_wp2_with fail;refine(Tryz.strings_LastIndexByte _ _ hs2 _).mono ?_;rintro e w' ⟨rfl,rfl⟩;rw[show Lib.lastIndexByte ⟨s.toArray⟩ 45=_ from hm.out];generalize hz:lastAt s 45 s.length=z at*;have HZ:=Lib.hid hz;clear hz hm;go_upto_if 32 with fail;go_cut [0,6] (fun a0 a6 wx=>DecS w wx s a0 a6)
   case first=>
    by_cases hcut:0<z
    ·have hz1:z.toNat<s.length:=by omega
     have hz2:0<z.toNat:=by omega
     have hz3:lastAt s 45 s.length=(z.toNat:Int):=by rw[HZ.out];omega
     have HZ3:=Lib.hid hz3;clear hz3;obtain⟨v,w2,hcv2,hb2,hown⟩:=conv_runes_plain w'.drew w.heap.size (s.take z.toNat) (Nat.le_trans (List.length_take_le' _ _) hs) (fun x hx=>Hp.out x (List.mem_of_mem_take hx)) (by simp;omega);go_wp2_with fail;go_region;go_wp2_with fail;go_meet;have hd:List.take (s.length-(z+1).toNat) (List.drop (z+1).toNat s)=List.drop (z.toNat+1) s:=by
      rw[show(z+1).toNat=z.toNat+1 from by omega];exact List.take_of_length_le (by simp)
     rw[hd];exact decS_cut hs Hp.out hz1 hz2 HZ3.out hb1.drew hb2 hown
    ·have hcut2:¬0<lastAt s 45 s.length:=by rw[HZ.out];exact hcut
     go_wp2_with fail;go_meet;exact decS_whole hs (by omega) hb1
   case rest=>
    obtain⟨t0,l0,rfl,hI⟩:=hcut;have HI:=Lib.hid hI;clear hI hl hs2 HZ;go_wp2_with fail;go_loopw [0,6,8,9,10,11] (fun a0 a6 a8 a9 a10 a11 wr=>∃(t:List UInt8) (b sg pl:Nat) (fst:Bool) (l:List Nat),a0= .string ⟨t.toArray⟩∧a8= .int .i64 b∧a9= .int .i64 sg∧a10= .int .i64 pl∧a11= .bool fst∧DecI w wr a6 s t b sg pl fst l) (fun a0 _ _ _ _ _ _=>strLen a0)
    case atStart=>exact⟨t0,72,128,0,true,l0,rfl,rfl,rfl,rfl,rfl,HI.out⟩
    case round=>
     clear HI;obtain⟨t,b,sg,pl,fst,l,rfl,rfl,rfl,rfl,rfl,I⟩:=hrel;obtain⟨hown,hbl,hb8,hsg,hpl,hlen,hbad,H⟩:=I;obtain⟨oa,oc,rfl⟩:=own_form hown;by_cases ht:t=[]
     ·subst ht
      have hcv:=runes_own hown hbad;have HB:=Lib.hid hbad;clear hbad hown;go_wp2_with fail;go_ret2;refine⟨?_,hbl⟩;rw[decode_plain hs Hp.out,←H.out,decL_nil];rfl
     ·have htl:0<t.length:=List.length_pos_iff.2 ht
      have hte:t.isEmpty=false:=by simpa using ht
      have hte2:(!t.isEmpty)=true:=by simpa using ht
      have HB:=Lib.hid hbad;clear hbad
      cases hr:readL b t 36 1 pl with
      |none=>
       have HN:=Lib.hid (decL_none (sign:=sg) (first:=fst) (l:=l) ht hr);go_wp2_with fail;refine(read_any b t pl _ (by omega) (by omega) (by omega)).mono ?_;rw[hr];simp only[readV];rintro e w2 ⟨rfl,rfl⟩;clear hr;go_wp2_with fail;go_ret2;refine⟨?_,hbl⟩;rw[decode_plain hs Hp.out,←H.out,HN.out];rfl
      |some r=>
       obtain⟨n,rest⟩:=r;obtain⟨hn1,hn2,hn3,hn4⟩:=readL_some b t 36 1 pl n rest hr;clear hn4;have HR:=Lib.hid hr;obtain⟨hq1,hq2,hq3⟩:=quo_len n l.length;obtain⟨hq5,hq6,hq7⟩:=rem_len n l.length;have Hq3:=Lib.hid hq3;have Hq7:=Lib.hid hq7;have HN:=Lib.hid (nextL_le (n-pl) (l.length+1) fst (by omega));clear hq3 hq7;have hw1:(n:Int)-(pl:Int)=((n-pl:Nat):Int):=by omega
       have hw2:(l.length:Int)+1=((l.length+1:Nat):Int):=rfl;have HW:=Lib.hid hw1;clear hw1 hw2;by_cases hbs:badSign (sg+n/(l.length+1))
       ·have hbv:(1114111:Int)<(sg:Int)+(n:Int)/((l.length:Int)+1)∨((sg:Int)+(n:Int)/((l.length:Int)+1)≤1114111∧Lib.validRune ((sg:Int)+(n:Int)/((l.length:Int)+1))=false):=by
         rw[Hq3.out,←Int.natCast_add];by_cases h:1114111<sg+n/(l.length+1)
         ·exact .inl (by omega)
         ·exact .inr ⟨by omega,validRune_bad hbs⟩
        have HD:=Lib.hid (decL_bad (first:=fst) (l:=l) (sign:=sg) ht hr hbs);clear hbs;rcases hbv with hbv|⟨hbv,hvf⟩
        ·go_wp2_with fail
         refine(read_any b t pl _ (by omega) (by omega) (by omega)).mono ?_;rw[hr];simp only[readV];rintro e w2 ⟨rfl,rfl⟩;clear hr;go_wp2_with fail;rw[HW.out];refine(next_any (n-pl) (l.length+1) fst _ (by omega) (by omega) (by omega)).mono ?_;rintro e w2 ⟨rfl,rfl⟩;go_wp2_with fail;go_ret2;refine⟨?_,hbl⟩;rw[decode_plain hs Hp.out,←H.out,HD.out];rfl
        ·go_wp2_with fail
         refine(read_any b t pl _ (by omega) (by omega) (by omega)).mono ?_;rw[hr];simp only[readV];rintro e w2 ⟨rfl,rfl⟩;clear hr;go_wp2_with fail;rw[HW.out];refine(next_any (n-pl) (l.length+1) fst _ (by omega) (by omega) (by omega)).mono ?_;rintro e w2 ⟨rfl,rfl⟩;go_wp2_with fail;refine(Tryz.utf8_ValidRune _ _).mono ?_;rintro e w2 ⟨rfl,rfl⟩;go_wp2_with fail;go_ret2;refine⟨?_,hbl⟩;rw[decode_plain hs Hp.out,←H.out,HD.out];rfl
       ·have hv1:(sg:Int)+(n:Int)/((l.length:Int)+1)≤1114111:=by
         rw[Hq3.out,←Int.natCast_add];unfold badSign at hbs;omega
        have hv2:Lib.validRune ((sg:Int)+(n:Int)/((l.length:Int)+1))=true:=by
         rw[Hq3.out,←Int.natCast_add];exact validRune_good hbs
        have HD:=Lib.hid (decL_go (first:=fst) (l:=l) (sign:=sg) ht hr hbs);have HS:=Lib.hid hbs;clear hbs;go_wp2_with fail;refine(read_any b t pl _ (by omega) (by omega) (by omega)).mono ?_;rw[hr];simp only[readV];rintro e w2 ⟨rfl,rfl⟩;clear hr;go_wp2_with fail;rw[HW.out];refine(next_any (n-pl) (l.length+1) fst _ (by omega) (by omega) (by omega)).mono ?_;rintro e w2 ⟨rfl,rfl⟩;go_wp2_with fail;refine(Tryz.utf8_ValidRune _ _).mono ?_;rw[hv2];rintro e w2 ⟨rfl,rfl⟩;clear hv2;go_wp2_with fail;rw[Hq7.out,Hq3.out,←Int.natCast_add];have hlen2:(i32s l).length=l.length:=by simp
        have hml:n % (l.length+1)≤l.length:=by have:=Nat.mod_lt n (show 0<l.length+1 by omega);omega
        refine(insert_any w.heap.size (.slice oa l.length oc) (.int .i32 ((sg+n/(l.length+1):Nat):Int)) (i32s l) (n % (l.length+1)) _ (by rw[hlen2];exact hown) (by rw[hlen2];exact hml) (by rw[hlen2];omega) rfl (by intro u hu;obtain⟨x,_,rfl⟩:=List.mem_map.1 hu;rfl) hbl.size).mono ?_;rintro e w3 ⟨v',rfl,hown3,hgr⟩;have hbl3:Below w.heap.size w w3:=hbl.grown hgr hbl.size (fun g' hg'=>(hown.lt g' hg').1);rw[hlen2]at hown3;have HO:=Lib.hid hown3;clear hown hown3 hgr hbl hlen2;go_wp2_with fail;go_roundw
        case rel=>
         exact⟨rest,_,_,n % (l.length+1)+1,false,l.take (n % (l.length+1))++[sg+n/(l.length+1)]++l.drop (n % (l.length+1)),rfl,rfl,by rw[Hq3.out,←Int.natCast_add],by rw[Hq7.out];rfl,rfl,
          decI_next HO.out hml hbl3 HN.out HS.out (by omega) HB.out (by rw[←HD.out];exact H.out)⟩
        case measure=>simp[strLen,size_mk];omega
theorem rdecode_walk_long (s:List UInt8) (w:World) (hs:65536<s.length) (hm:s.length≤140737488351232):
 Calls Tryz.prog 265 #[.string ⟨s.toArray⟩] w fun e w'=>e= .returned (resV (decode s))∧Below w.heap.size w w':=by
 have hd:=Lib.hid (decode_long hs)
 have hb:decide (65536<(s.length:Int))=true:=by simp;omega
 clear hs
 go_enter Tryz.func265,Tryz.ntmps265
 iterate 8 go_step
 go_wp2
 go_ret2
 exact⟨by rw[hd.out];rfl,Below.refl _ _⟩
def RefI (w wr:World) (v:Value) (s:List UInt8) (i b sg pl:Nat) (fst:Bool) (l:List Nat):Prop:=
 wr.ownsRow w.heap.size 3 1 v l.length (i64s l)∧Below w.heap.size w wr∧i≤s.length∧b≤288∧sg≤1114111∧pl≤l.length∧l.length+(s.drop i).length≤65536∧(∀x∈l,¬badSign x)∧Hid (decL (s.drop i) b sg pl fst l=decTop s)
theorem refI_start {w wr:World} {v:Value} {s:List UInt8} {k:Nat} (hs:s.length≤65536) (hp:∀c∈s,c.toNat<128) (hk:k≤s.length) (hk2:0<k→k<s.length) (hc:cutZ s s.length=k) (hbl:Below w.heap.size w wr)
 (hown:wr.ownsRow w.heap.size 3 1 v ((s.take k).map fun c=>c.toNat).length (i64s ((s.take k).map fun c=>c.toNat))) (i:Nat) (hi:(0<k∧i=k+1)∨(k=0∧i=0)):RefI w wr v s i 72 128 0 true ((s.take k).map fun c=>c.toNat):=by
 refine⟨hown,hbl,by omega,by omega,by omega,by omega,by simp;omega, ?_, ?_⟩
 ·intro x hx
  obtain⟨u,hu,rfl⟩:=List.mem_map.1 hx;exact bad_plain (hp u (List.mem_of_mem_take hu))
 ·show _=_
  unfold cutZ at hc;unfold decTop;rcases hi with ⟨h0,rfl⟩|⟨rfl,rfl⟩
  ·have:lastAt s 45 s.length=k:=by omega
   rw[this,if_pos (by omega)];rfl
  ·rw[if_neg (by omega)]
   rfl
theorem refI_next {w w3:World} {v':Value} {s rest:List UInt8} {i b' sg p:Nat} {l:List Nat} (hown:w3.ownsRow w.heap.size 3 1 v' (p+1+(l.length-p)) ((i64s l).take p++[.int .i64 (sg:Int)]++(i64s l).drop p)) (hp:p≤l.length) (hb:Below w.heap.size w w3) (hi:i≤s.length) (hr:s.drop i=rest) (hb':b'≤288)
 (hs:¬badSign sg) (hlen:l.length+1+rest.length≤65536) (hbad:∀x∈l,¬badSign x) (H:decL rest b' sg (p+1) false (l.take p++[sg]++l.drop p)=decTop s):RefI w w3 v' s i b' sg (p+1) false (l.take p++[sg]++l.drop p):=by
 subst hr
 have hl:(l.take p++[sg]++l.drop p).length=l.length+1:=by simp;omega
 refine⟨?_,hb,hi,hb', ?_, ?_, ?_, ?_,H⟩
 ·rw[hl]
  have e:i64s (l.take p++[sg]++l.drop p)=(i64s l).take p++[.int .i64 (sg:Int)]++(i64s l).drop p:=by simp[i64s,List.map_take,List.map_drop]
  rw[e];rwa[show p+1+(l.length-p)=l.length+1 from by omega]at hown
 ·unfold badSign at hs;omega
 ·rw[hl];omega
 ·rw[hl];omega
 ·intro x hx
  simp only[List.mem_append,List.mem_singleton]at hx;rcases hx with (hx|rfl)|hx
  ·exact hbad x (List.mem_of_mem_take hx)
  ·exact hs
  ·exact hbad x (List.mem_of_mem_drop hx)
theorem drop_suffix {s rest p:List UInt8} {i:Nat} (h:p++rest=s.drop i):s.drop (s.length-rest.length)=rest:=by
 have h2:s.take i++p++rest=s:=by rw[List.append_assoc,h,List.take_append_drop]
 generalize s.take i++p=q at h2;subst h2;rw[List.length_append,Nat.add_sub_cancel];exact List.drop_left
theorem i64s_one {l:List Nat} {u:Value} (h:u∈i64s l):u.oneCell'=true:=by
 obtain⟨x,_,rfl⟩:=List.mem_map.1 h;rfl
theorem one_int {z:Int}:∀u∈[Value.int .i64 z],u.oneCell'=true:=by
 intro u hu;simp only[List.mem_cons,List.not_mem_nil,or_false]at hu;subst hu;rfl
theorem elem_int:Tryz.prog.elem 64=3:=by kernel_rfl
set_option maxRecDepth 100000 in
theorem rdecode_walk (s:List UInt8) (w:World) (hs:s.length≤65536):
 Calls Tryz.prog 265 #[.string ⟨s.toArray⟩] w fun e w'=>e= .returned (resV (decode s))∧Below w.heap.size w w':=by
 have hb:decide (65536<(s.length:Int))=false:=by simp;omega
 go_enter Tryz.func265,Tryz.ntmps265
 go_wp2
 go_loop [4,5] (fun c i=>∃k:Nat,k≤s.length∧i= .int .i64 k∧c= .int .i64 (cutZ s k)∧Hid (∀j (hj:j<s.length),j<k→s[j].toNat<128)) (fun _ i=>s.length-(intOf i).toNat)
 case atStart=>exact⟨0,Nat.zero_le _,rfl,rfl,fun j _ h=>absurd h (Nat.not_lt_zero _)⟩
 case round=>
  obtain⟨k,hk,rfl,rfl,H⟩:=hrel;have hz:=cutZ_bd s k;by_cases hlt:k<s.length
  ·have Hh:=Lib.hid (cutZ_hit s k hlt)
   have Hm:=Lib.hid (cutZ_miss s k hlt);go_wp2
   all_goals first
    |(go_ret2
      refine⟨?_,Below.refl _ _⟩
      rw[decode_wide hs ⟨s[k],List.getElem_mem hlt,by omega⟩]
      rfl)
    |(go_round
      case rel=>exact⟨k+1,by omega,by go_num,by first|rw[Hh.out (by assumption)]|rw[Hm.out (by assumption)],fun j hj hjk=>by
       by_cases e:j=k
       ·subst e;omega
       ·exact H.out j hj (by omega)⟩
      case measure=>simp[intOf];omega)
  ·obtain rfl:k=s.length:=by omega
   have hp:∀c∈s,c.toNat<128:=by
    intro c hc;obtain⟨j,hj,rfl⟩:=List.getElem_of_mem hc;exact H.out j hj hj
   have Hp:=Lib.hid hp;clear hp H hk hlt;have hlt2:cutZ s s.length≤(s.length:Int):=hz.2;have hzz:cutZ s s.length=max 0 (lastAt s 45 s.length):=rfl;have hll:=lastAt_lt s 45 s.length;obtain⟨c,hc⟩:∃c:Nat,cutZ s s.length=c:=⟨(cutZ s s.length).toNat,by omega⟩;have hcl:c≤s.length:=by omega
   have hcl2:0<c→c<s.length:=by omega
   have HC:=Lib.hid hc;have Hcl2:=Lib.hid hcl2;rw[hc];clear hc hz hlt2 hzz hll hcl2;go_wp2_with fail;go_loopw [6,7] (fun v i wr=>∃k:Nat,k≤c∧i= .int .i64 k∧wr.ownsRow w.heap.size 3 1 v ((s.take k).map fun c=>c.toNat).length (i64s ((s.take k).map fun c=>c.toNat))∧Below w.heap.size w wr) (fun _ i _=>c-(intOf i).toNat)
   case atStart=>exact⟨0,Nat.zero_le _,rfl,World.ownsRow_nil _ _ _ _,Below.refl _ _⟩
   case round=>
    obtain⟨k,hk,rfl,hown,hbl⟩:=hrel;by_cases hlt:k<c
    ·have hks:k<s.length:=by omega
     have ht:(s.take (k+1)).map (fun c=>c.toNat)=(s.take k).map (fun c=>c.toNat)++[s[k].toNat]:=by rw[List.take_succ_eq_append_getElem hks,List.map_append];rfl
     have HT:=Lib.hid ht;have hln:(List.map (fun c=>c.toNat) (s.take k)).length≤k:=by simp;omega
     have hsz:=hbl.size;have hu:=u8_lt s[k];clear ht;go_wp2_with(at_builtin;refine wpList_append_vals e_int _ rfl _ _ rfl w.heap.size _ _ _ rfl hown _ _ _ rfl rfl ?c1 ?c2 ?c3 ?c4 ?_)
     case c1=>intro u hu;simp only[List.mem_cons,List.not_mem_nil,or_false]at hu;rcases hu with rfl
              rfl
     case c2=>simp;omega
     case c3=>simp;omega
     case c4=>exact hsz
     intro v' w2 hown2 hgr _;go_wp2;go_roundw
     case rel=>exact⟨k+1,by omega,by go_num,by rw[HT.out];simpa[i64s]using hown2,hbl.grown hgr hsz (fun g' hg'=>(hown.lt g' hg').1)⟩
     case measure=>simp[intOf];omega
    ·obtain rfl:k=c:=by omega
     go_upto_if 49 with fail;go_cut [8] (fun a8 wx=>wr=wx∧∃i:Nat,a8= .int .i64 i∧Hid ((0<k∧i=k+1)∨(k=0∧i=0)))
     case first=>
      by_cases h0:0<k
      ·go_wp2_with fail
       go_meet;exact⟨rfl,k+1,by go_num, .inl ⟨h0,rfl⟩⟩
      ·go_wp2_with fail
       go_meet;exact⟨rfl,k,rfl, .inr ⟨by omega,by omega⟩⟩
     case rest=>
      obtain⟨rfl,i0,rfl,Hi⟩:=hcut;have HI:=Lib.hid (refI_start hs Hp.out hcl Hcl2.out HC.out hbl hown i0 Hi.out);clear hown hbl hcl HC Hcl2 Hi hk hlt;go_wp2_with fail;go_loopw [6,8,9,10,11,12] (fun a6 a8 a9 a10 a11 a12 wr=>∃(i b sg pl:Nat) (fst:Bool) (l:List Nat),a8= .int .i64 i∧a9= .int .i64 b∧a10= .int .i64 pl∧a11= .int .i64 sg∧a12= .bool fst∧RefI w wr a6 s i b sg pl fst l) (fun _ a8 _ _ _ _ _=>s.length-(intOf a8).toNat)
      case atStart=>exact⟨i0,72,128,0,true,_,rfl,rfl,rfl,rfl,rfl,HI.out⟩
      case round=>
       clear HI;obtain⟨i,b,sg,pl,fst,l,rfl,rfl,rfl,rfl,rfl,I⟩:=hrel;obtain⟨hown,hbl,hi,hb8,hsg,hpl,hlen,hbad,H⟩:=I;have HB:=Lib.hid hbad;clear hbad;by_cases hlt:i<s.length
       ·have ht:s.drop i≠[]:=by
         intro h0;have:=congrArg List.length h0;simp at this;omega
        cases hr:readL b (s.drop i) 36 1 pl with
        |none=>
         have HN:=Lib.hid (decL_none (sign:=sg) (first:=fst) (l:=l) ht hr);go_wp2_with fail;refine(number_any b s i pl _ (by omega) (by omega) (by omega) (by omega)).mono ?_;rw[hr];simp only[numberV];rintro e w2 ⟨rfl,rfl⟩;clear hr;go_wp2_with fail;go_ret2;refine⟨?_,hbl⟩;rw[decode_plain hs Hp.out,←H.out,HN.out];rfl
        |some r=>
         obtain⟨n,rest⟩:=r;obtain⟨hn1,hn2,hn3,hn4⟩:=readL_some b (s.drop i) 36 1 pl n rest hr;have HDR:=Lib.hid (show s.drop (s.length-rest.length)=rest by obtain⟨p,hp⟩:=hn4;exact drop_suffix hp);have hrl:rest.length<s.length-i:=by rw[List.length_drop]at hn3;exact hn3
         clear hn4;obtain⟨oa,oc,rfl⟩:=own_form hown;have HR:=Lib.hid hr;obtain⟨hq1,hq2,hq3⟩:=quo_len n l.length;obtain⟨hq5,hq6,hq7⟩:=rem_len n l.length;have Hq3:=Lib.hid hq3;have Hq7:=Lib.hid hq7;have HN:=Lib.hid (nextL_le (n-pl) (l.length+1) fst (by omega));clear hq3 hq7;have HW:=Lib.hid (show(n:Int)-(pl:Int)=((n-pl:Nat):Int)by omega);by_cases hbs:badSign (sg+n/(l.length+1))
         ·have hbv:(1114111:Int)<(sg:Int)+(n:Int)/((l.length:Int)+1)∨(55296≤(sg:Int)+(n:Int)/((l.length:Int)+1)∧(sg:Int)+(n:Int)/((l.length:Int)+1)≤57343):=by
           rw[Hq3.out,←Int.natCast_add];unfold badSign at hbs;omega
          have HD:=Lib.hid (decL_bad (first:=fst) (l:=l) (sign:=sg) ht hr hbs);clear hbs;rcases hbv with hbv|⟨hbv,hvf⟩
          all_goals
           go_wp2_with fail;refine(number_any b s i pl _ (by omega) (by omega) (by omega) (by omega)).mono ?_;rw[hr];simp only[numberV];rintro e w2 ⟨rfl,rfl⟩;clear hr;go_wp2_with fail;rw[HW.out];refine(rnext_any (n-pl) (l.length+1) fst _ (by omega) (by omega) (by omega)).mono ?_;rintro e w2 ⟨rfl,rfl⟩;go_wp2_with fail;go_ret2;refine⟨?_,hbl⟩;rw[decode_plain hs Hp.out,←H.out,HD.out];rfl
         ·have hv1:((sg:Int)+(n:Int)/((l.length:Int)+1)≤55295)∨(57344≤(sg:Int)+(n:Int)/((l.length:Int)+1)∧(sg:Int)+(n:Int)/((l.length:Int)+1)≤1114111):=by
           rw[Hq3.out,←Int.natCast_add];unfold badSign at hbs;omega
          have HD:=Lib.hid (decL_go (first:=fst) (l:=l) (sign:=sg) ht hr hbs);have HS:=Lib.hid hbs;clear hbs;have hml:n % (l.length+1)≤l.length:=by have:=Nat.mod_lt n (show 0<l.length+1 by omega);omega
          obtain⟨x1,hx1,hs1⟩:=segTo e_int elem_int (fun W=>by kernel_rfl) hown (n % (l.length+1)) hml;obtain⟨x2,hx2,hs2⟩:=segFrom e_int elem_int (fun W=>by kernel_rfl) hown (n % (l.length+1)) hml;rw[←Hq7.out]at hx1 hx2;have hc9:((i64s l).take (n % (l.length+1))).length=n % (l.length+1):=by simp;omega
          have hc8:((i64s l).drop (n % (l.length+1))).length=l.length-n % (l.length+1):=by simp
          have hc1:∀u∈(i64s l).take (n % (l.length+1)),u.oneCell'=true:=fun u hu=>i64s_one (List.mem_of_mem_take hu)
          have hc5:∀u∈(i64s l).drop (n % (l.length+1)),u.oneCell'=true:=fun u hu=>i64s_one (List.mem_of_mem_drop hu)
          have hc2:0+((i64s l).take (n % (l.length+1))).length≤140737488355328:=by rw[hc9];omega
          have hc3:(0+((i64s l).take (n % (l.length+1))).length)*8≤140737488355328:=by rw[hc9];omega
          have hc4:n % (l.length+1)+1≤100000:=by omega
          have hc6:(100000:Nat)≤140737488355328:=by omega
          have hc7:100000*8≤140737488355328:=by omega
          have hc11:n % (l.length+1)+1+((i64s l).drop (n % (l.length+1))).length≤140737488355328:=by rw[hc8];omega
          have hc12:(n % (l.length+1)+1+((i64s l).drop (n % (l.length+1))).length)*8≤140737488355328:=by rw[hc8];omega
          have Hc9:=Lib.hid hc9;have Hc8:=Lib.hid hc8;clear hc8;rcases hv1 with hv1|⟨hv1,hv3⟩
          all_goals
           go_wp2_with fail;refine(number_any b s i pl _ (by omega) (by omega) (by omega) (by omega)).mono ?_;rw[hr];simp only[numberV];rintro e w2 ⟨rfl,rfl⟩;clear hr;go_wp2_with fail;rw[HW.out];refine(rnext_any (n-pl) (l.length+1) fst _ (by omega) (by omega) (by omega)).mono ?_;rintro e w2 ⟨rfl,rfl⟩;go_wp2_with(at_builtin;refine wpList_append_seg e_int _ rfl (.tmp 98) (.tmp 101) rfl wr.heap.size _ 0 [] rfl (World.ownsRow_nil _ _ _ _) _ _ _ rfl hs1 hc1 hc2 hc3 (Nat.le_refl _) ?_);intro v1 w1 hown1 hg1;have hz1:=hg1.size;have hs3:=hs2.kept hg1 (none_or _);go_wp2_with(at_builtin;refine wpList_append_vals e_int _ rfl (.tmp 103) (.tmp 105) rfl wr.heap.size _ _ _ rfl hown1 1 _ _ rfl rfl one_int (Nat.le_trans hc4 hc6) (Nat.le_trans (Nat.mul_le_mul_right _ hc4) hc7) hz1 ?_);intro v2 w2 hown2 hg2 hnn2;have hz2:wr.heap.size≤w2.heap.size:=Nat.le_trans hz1 hg2.size;have hs4:=hs3.kept hg2 (own_far hown hown1);go_wp2_with(at_builtin;refine wpList_append_seg e_int _ rfl (.tmp 107) (.tmp 110) rfl wr.heap.size _ _ _ rfl hown2 _ _ _ rfl hs4 hc5 hc11 hc12 hz2 ?_);intro v3 w3 hown3 hg3;have hb1:Below w.heap.size w w1:=hbl.grown hg1 hbl.size (fun k hk=>by simp[Value.ownBlock]at hk);have hb2:Below w.heap.size w w2:=hb1.grown hg2 hb1.size (fun k hk=>Nat.le_trans hbl.size (hown1.lt k hk).1);have hb3:Below w.heap.size w w3:=hb2.grown hg3 hb2.size (fun k hk=>Nat.le_trans hbl.size (hown2.lt k hk).1);have HO:=Lib.hid (own_base hown3 hbl.size);clear hown hown1 hown2 hown3 hs1 hs2 hs3 hs4 hg1 hg2 hg3 hbl hb1 hb2 hx1 hx2 hc9;go_wp2_with fail;go_roundw
           case rel=>
            have h3:=HO.out;rw[Hq3.out,←Int.natCast_add]at h3;exact⟨s.length-rest.length,_,_,n % (l.length+1)+1,false,l.take (n % (l.length+1))++[sg+n/(l.length+1)]++l.drop (n % (l.length+1)),rfl,rfl,by rw[Hq7.out];rfl,by rw[Hq3.out,←Int.natCast_add],rfl,
             refI_next (by simpa using h3) hml hb3 (by omega) HDR.out HN.out HS.out (by rw[List.length_drop]at hlen;omega) HB.out (by rw[←HD.out];exact H.out)⟩
           case measure=>simp[intOf];omega
       ·obtain rfl:i=s.length:=by omega
        go_wp2_with fail;refine(bytes_any w.heap.size _ l _ hown hbl.size (by omega) (fun x hx=>by have:=HB.out x hx;unfold badSign at this;omega)).mono ?_;rintro e w2 ⟨rfl,hb2⟩;go_wp2_with fail;go_ret2;refine⟨?_,hbl.trans (hb2.mono hbl.size)⟩;rw[decode_plain hs Hp.out,←H.out,List.drop_length,decL_nil];rfl
theorem decode_any (s:List UInt8) (w:World) (hm:s.length≤140737488351232):
 Calls Tryz.prog 281 #[.string ⟨s.toArray⟩] w fun e w'=>e= .returned (resV (decode s))∧Below w.heap.size w w':=by
 by_cases h:s.length≤65536
 ·exact decode_walk s w h
 ·exact decode_walk_long s w (by omega) hm
theorem rdecode_any (s:List UInt8) (w:World) (hm:s.length≤140737488351232):
 Calls Tryz.prog 265 #[.string ⟨s.toArray⟩] w fun e w'=>e= .returned (resV (decode s))∧Below w.heap.size w w':=by
 by_cases h:s.length≤65536
 ·exact rdecode_walk s w h
 ·exact rdecode_walk_long s w (by omega) hm
end Go.Proofs.YtlcnknlmdaochaaGreatDoor
