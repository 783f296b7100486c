/- The walk of puny.Decode. -/
import Derived.Test.YtjkipdoebkhkaaaGreatDoorGIns
import Derived.Test.YtjkipdoebkhkaaaGreatDoorGTell
import Derived.BigQuiet
import Derived.Deep.DeepCutAuto
set_option linter.unusedVariables false
set_option linter.unusedSimpArgs false
set_option maxHeartbeats 16000000
namespace Go.Proofs.YtjkipdoebkhkaaaGreatDoor
open Go.RowKit
theorem decode_walk_long (s:List UInt8) (w:World) (hs:65536<s.length) (hm:s.length≤140737488351232):
 Calls Tryz.prog 269 #[.string ⟨s.toArray⟩] w fun e w'=>e= .returned (resV (decode s))∧Below w.heap.size w w':=by
 have hd:=Lib.hid (decode_long hs)
 have hb:decide (65536<(s.length:Int))=true:=by simp;omega
 clear hs
 go_enter Tryz.func269,Tryz.ntmps269
 iterate 8 go_step
 go_wp2
 go_ret2
 exact⟨by rw[hd.out];rfl,Below.refl _ _⟩
def DecI (w wr:World) (v:Value) (s t:List UInt8) (b sg pl:Nat) (fst:Bool) (l:List Nat):Prop:=
 wr.ownsRow w.heap.size 21 1 v l.length (i32s l)∧Below w.heap.size w wr∧b≤288∧sg≤1114111∧pl≤l.length∧l.length+t.length≤65536∧(∀x∈l,¬badSign x)∧Hid (decL t b sg pl fst l=decTop s)
def DecS (w wr:World) (s:List UInt8) (a0 v:Value):Prop:=∃(t:List UInt8) (l:List Nat),a0= .string ⟨t.toArray⟩∧DecI w wr v s t 72 128 0 true l
theorem decI_next {w w3:World} {v':Value} {s rest:List UInt8} {b' sg p:Nat} {l:List Nat} (hown:w3.ownsRow w.heap.size 21 1 v' (l.length+1) ((i32s l).take p++[.int .i32 (sg:Int)]++(i32s l).drop p)) (hp:p≤l.length) (hb:Below w.heap.size w w3) (hb':b'≤288)
 (hs:¬badSign sg) (hlen:l.length+1+rest.length≤65536) (hbad:∀x∈l,¬badSign x) (H:decL rest b' sg (p+1) false (l.take p++[sg]++l.drop p)=decTop s):DecI w w3 v' s rest b' sg (p+1) false (l.take p++[sg]++l.drop p):=by
 have hl:(l.take p++[sg]++l.drop p).length=l.length+1:=by simp;omega
 refine⟨?_,hb,hb', ?_, ?_, ?_, ?_,H⟩
 ·rw[hl]
  have e:i32s (l.take p++[sg]++l.drop p)=(i32s l).take p++[.int .i32 (sg:Int)]++(i32s l).drop p:=by simp[i32s,List.map_take,List.map_drop]
  rw[e];exact hown
 ·unfold badSign at hs;omega
 ·rw[hl];omega
 ·rw[hl];omega
 ·intro x hx
  simp only[List.mem_append,List.mem_singleton]at hx;rcases hx with (hx|rfl)|hx
  ·exact hbad x (List.mem_of_mem_take hx)
  ·exact hs
  ·exact hbad x (List.mem_of_mem_drop hx)
theorem bad_plain {x:Nat} (h:x<128):¬badSign x:=by unfold badSign;omega
theorem decS_cut {w wr w2:World} {s:List UInt8} {v:Value} {c:Nat} (hs:s.length≤65536) (hp:∀c∈s,c.toNat<128) (hc:c<s.length) (h0:0<c) (hl:lastAt s 45 s.length=c) (hb1:Below w.heap.size w wr) (hb2:Below wr.heap.size wr w2)
 (hown:w2.ownsRow w.heap.size 21 1 v (s.take c).length ((s.take c).map fun c=> .int .i32 (c.toNat:Int))):DecS w w2 s (.string ⟨(s.drop (c+1)).toArray⟩) v:=by
 refine⟨s.drop (c+1),(s.take c).map fun c=>c.toNat,rfl, ?_,hb1.trans (hb2.mono hb1.size),by omega,by omega,by omega, ?_, ?_, ?_⟩
 ·rw[List.length_map,i32s,List.map_map];exact hown
 ·simp;omega
 ·intro x hx
  obtain⟨u,hu,rfl⟩:=List.mem_map.1 hx;exact bad_plain (hp u (List.mem_of_mem_take hu))
 ·show _=_
  unfold decTop;rw[if_pos (by omega),hl];rfl
theorem decS_whole {w wr:World} {s:List UInt8} (hs:s.length≤65536) (hl:¬0<lastAt s 45 s.length) (hb1:Below w.heap.size w wr):DecS w wr s (.string ⟨s.toArray⟩) (.slice none 0 0):=by
 refine⟨s,[],rfl,World.ownsRow_nil _ _ _ _,hb1,by omega,by omega,by omega,by simp;omega,by simp, ?_⟩;show _=_;unfold decTop;rw[if_neg hl]
theorem validRune_bad {x:Nat} (h:badSign x):Lib.validRune (x:Int)=false:=by
 unfold badSign at h;unfold Lib.validRune;rw[decide_eq_false];omega
theorem validRune_good {x:Nat} (h:¬badSign x):Lib.validRune (x:Int)=true:=by
 unfold badSign at h;unfold Lib.validRune;rw[decide_eq_true];omega
theorem quo_len (n m:Nat):(0:Int)≤(n:Int)/((m:Int)+1)∧(n:Int)/((m:Int)+1)≤(n:Int)∧(n:Int)/((m:Int)+1)=((n/(m+1):Nat):Int):=by
 have h:(n:Int)/((m:Int)+1)=((n/(m+1):Nat):Int):=by rw[Int.natCast_ediv];rfl
 have h2:n/(m+1)≤n:=Nat.div_le_self _ _;rw[h];exact⟨Int.natCast_nonneg _,Int.ofNat_le.2 h2,rfl⟩
theorem rem_len (n m:Nat):(0:Int)≤(n:Int) % ((m:Int)+1)∧(n:Int) % ((m:Int)+1)≤(m:Int)∧(n:Int) % ((m:Int)+1)=((n % (m+1):Nat):Int):=by
 have h:(n:Int) % ((m:Int)+1)=((n % (m+1):Nat):Int):=by rw[Int.natCast_emod];rfl
 have h2:n % (m+1)≤m:=by have:=Nat.mod_lt n (show 0<m+1 by omega);omega
 rw[h];exact⟨Int.natCast_nonneg _,Int.ofNat_le.2 h2,rfl⟩
set_option maxRecDepth 100000 in
theorem decode_walk (s:List UInt8) (w:World) (hs:s.length≤65536):
 Calls Tryz.prog 269 #[.string ⟨s.toArray⟩] w fun e w'=>e= .returned (resV (decode s))∧Below w.heap.size w w':=by
 have hb:decide (65536<(s.length:Int))=false:=by simp;omega
 obtain⟨cap,w1,hcv,hb1,hlt1,hcap,hcells⟩:=conv_bytes w s (by omega)
 have Hc:=Lib.hid hcells
 clear hcells
 go_enter Tryz.func269,Tryz.ntmps269
 go_wp2
 clear hcv
 go_loop [22] (fun i=>∃k:Nat,k≤s.length∧i= .int .i64 k∧Hid (∀j (hj:j<s.length),j<k→s[j].toNat<128)) (fun i=>s.length-(intOf i).toNat)
 case atStart=>exact⟨0,Nat.zero_le _,rfl,fun j _ h=>absurd h (Nat.not_lt_zero _)⟩
 case round=>
  obtain⟨k,hk,rfl,H⟩:=hrel;by_cases hlt:k<s.length
  ·have hcell:=Hc.out k hlt
   go_wp2
   ·go_ret2
    refine⟨?_,hb1⟩;rw[decode_wide hs ⟨s[k],List.getElem_mem hlt,by omega⟩];rfl
   ·go_round
    case rel=>exact⟨k+1,by omega,by go_num,fun j hj hjk=>by
     by_cases e:j=k
     ·subst e;omega
     ·exact H.out j hj (by omega)⟩
    case measure=>simp[intOf];omega
  ·obtain rfl:k=s.length:=by omega
   have hp:∀c∈s,c.toNat<128:=by
    intro c hc;obtain⟨j,hj,rfl⟩:=List.getElem_of_mem hc;exact H.out j hj hj
   have Hp:=Lib.hid hp;clear hp H Hc hcap hk hlt;have hl:=lastAt_lt s 45 s.length;have hm:=Lib.hid (lastIndexByte_mk s 45);have hs2:(⟨s.toArray⟩:ByteArray).size<4611686018427387904:=by show s.length<_;omega
   go_wp2_with fail;refine(Tryz.strings_LastIndexByte _ _ hs2 _).mono ?_;rintro e w' ⟨rfl,rfl⟩;rw[show Lib.lastIndexByte ⟨s.toArray⟩ 45=_ from hm.out];generalize hz:lastAt s 45 s.length=z at*;have HZ:=Lib.hid hz;clear hz hm;go_upto_if 32 with fail;go_cut [0,6] (fun a0 a6 wx=>DecS w wx s a0 a6)
   case first=>
    by_cases hcut:0<z
    ·have hz1:z.toNat<s.length:=by omega
     have hz2:0<z.toNat:=by omega
     have hz3:lastAt s 45 s.length=(z.toNat:Int):=by rw[HZ.out];omega
     have HZ3:=Lib.hid hz3;clear hz3;obtain⟨v,w2,hcv2,hb2,hown⟩:=conv_runes_plain w'.drew w.heap.size (s.take z.toNat) (Nat.le_trans (List.length_take_le' _ _) hs) (fun x hx=>Hp.out x (List.mem_of_mem_take hx)) (by simp;omega);go_wp2_with fail;go_region;go_wp2_with fail;go_meet;have hd:List.take (s.length-(z+1).toNat) (List.drop (z+1).toNat s)=List.drop (z.toNat+1) s:=by
      rw[show(z+1).toNat=z.toNat+1 from by omega];exact List.take_of_length_le (by simp)
     rw[hd];exact decS_cut hs Hp.out hz1 hz2 HZ3.out hb1.drew hb2 hown
    ·have hcut2:¬0<lastAt s 45 s.length:=by rw[HZ.out];exact hcut
     go_wp2_with fail;go_meet;exact decS_whole hs (by omega) hb1
   case rest=>
    obtain⟨t0,l0,rfl,hI⟩:=hcut;have HI:=Lib.hid hI;clear hI hl hs2 HZ;go_wp2_with fail;go_loopw [0,6,8,9,10,11] (fun a0 a6 a8 a9 a10 a11 wr=>∃(t:List UInt8) (b sg pl:Nat) (fst:Bool) (l:List Nat),a0= .string ⟨t.toArray⟩∧a8= .int .i64 b∧a9= .int .i64 sg∧a10= .int .i64 pl∧a11= .bool fst∧DecI w wr a6 s t b sg pl fst l) (fun a0 _ _ _ _ _ _=>strLen a0)
    case atStart=>exact⟨t0,72,128,0,true,l0,rfl,rfl,rfl,rfl,rfl,HI.out⟩
    case round=>
     clear HI;obtain⟨t,b,sg,pl,fst,l,rfl,rfl,rfl,rfl,rfl,I⟩:=hrel;obtain⟨hown,hbl,hb8,hsg,hpl,hlen,hbad,H⟩:=I;obtain⟨oa,oc,rfl⟩:=own_form hown;by_cases ht:t=[]
     ·subst ht
      have hcv:=runes_own hown hbad;have HB:=Lib.hid hbad;clear hbad hown;go_wp2_with fail;go_ret2;refine⟨?_,hbl⟩;rw[decode_plain hs Hp.out,←H.out,decL_nil];rfl
     ·have htl:0<t.length:=List.length_pos_iff.2 ht
      have hte:t.isEmpty=false:=by simpa using ht
      have hte2:(!t.isEmpty)=true:=by simpa using ht
      have HB:=Lib.hid hbad;clear hbad
      cases hr:readL b t 36 1 pl with
      |none=>
       have HN:=Lib.hid (decL_none (sign:=sg) (first:=fst) (l:=l) ht hr);go_wp2_with fail;refine(read_any b t pl _ (by omega) (by omega) (by omega)).mono ?_;rw[hr];simp only[readV];rintro e w2 ⟨rfl,rfl⟩;clear hr;go_wp2_with fail;go_ret2;refine⟨?_,hbl⟩;rw[decode_plain hs Hp.out,←H.out,HN.out];rfl
      |some r=>
       obtain⟨n,rest⟩:=r;obtain⟨hn1,hn2,hn3,hn4⟩:=readL_some b t 36 1 pl n rest hr;clear hn4;have HR:=Lib.hid hr;obtain⟨hq1,hq2,hq3⟩:=quo_len n l.length;obtain⟨hq5,hq6,hq7⟩:=rem_len n l.length;have Hq3:=Lib.hid hq3;have Hq7:=Lib.hid hq7;have HN:=Lib.hid (nextL_le (n-pl) (l.length+1) fst (by omega));clear hq3 hq7;have hw1:(n:Int)-(pl:Int)=((n-pl:Nat):Int):=by omega
       have hw2:(l.length:Int)+1=((l.length+1:Nat):Int):=rfl;have HW:=Lib.hid hw1;clear hw1 hw2;by_cases hbs:badSign (sg+n/(l.length+1))
       ·have hbv:(1114111:Int)<(sg:Int)+(n:Int)/((l.length:Int)+1)∨((sg:Int)+(n:Int)/((l.length:Int)+1)≤1114111∧Lib.validRune ((sg:Int)+(n:Int)/((l.length:Int)+1))=false):=by
         rw[Hq3.out,←Int.natCast_add];by_cases h:1114111<sg+n/(l.length+1)
         ·exact .inl (by omega)
         ·exact .inr ⟨by omega,validRune_bad hbs⟩
        have HD:=Lib.hid (decL_bad (first:=fst) (l:=l) (sign:=sg) ht hr hbs);clear hbs;rcases hbv with hbv|⟨hbv,hvf⟩
        ·go_wp2_with fail
         refine(read_any b t pl _ (by omega) (by omega) (by omega)).mono ?_;rw[hr];simp only[readV];rintro e w2 ⟨rfl,rfl⟩;clear hr;go_wp2_with fail;rw[HW.out];refine(next_any (n-pl) (l.length+1) fst _ (by omega) (by omega) (by omega)).mono ?_;rintro e w2 ⟨rfl,rfl⟩;go_wp2_with fail;go_ret2;refine⟨?_,hbl⟩;rw[decode_plain hs Hp.out,←H.out,HD.out];rfl
        ·go_wp2_with fail
         refine(read_any b t pl _ (by omega) (by omega) (by omega)).mono ?_;rw[hr];simp only[readV];rintro e w2 ⟨rfl,rfl⟩;clear hr;go_wp2_with fail;rw[HW.out];refine(next_any (n-pl) (l.length+1) fst _ (by omega) (by omega) (by omega)).mono ?_;rintro e w2 ⟨rfl,rfl⟩;go_wp2_with fail;refine(Tryz.utf8_ValidRune _ _).mono ?_;rintro e w2 ⟨rfl,rfl⟩;go_wp2_with fail;go_ret2;refine⟨?_,hbl⟩;rw[decode_plain hs Hp.out,←H.out,HD.out];rfl
       ·have hv1:(sg:Int)+(n:Int)/((l.length:Int)+1)≤1114111:=by
         rw[Hq3.out,←Int.natCast_add];unfold badSign at hbs;omega
        have hv2:Lib.validRune ((sg:Int)+(n:Int)/((l.length:Int)+1))=true:=by
         rw[Hq3.out,←Int.natCast_add];exact validRune_good hbs
        have HD:=Lib.hid (decL_go (first:=fst) (l:=l) (sign:=sg) ht hr hbs);have HS:=Lib.hid hbs;clear hbs;go_wp2_with fail;refine(read_any b t pl _ (by omega) (by omega) (by omega)).mono ?_;rw[hr];simp only[readV];rintro e w2 ⟨rfl,rfl⟩;clear hr;go_wp2_with fail;rw[HW.out];refine(next_any (n-pl) (l.length+1) fst _ (by omega) (by omega) (by omega)).mono ?_;rintro e w2 ⟨rfl,rfl⟩;go_wp2_with fail;refine(Tryz.utf8_ValidRune _ _).mono ?_;rw[hv2];rintro e w2 ⟨rfl,rfl⟩;clear hv2;go_wp2_with fail;rw[Hq7.out,Hq3.out,←Int.natCast_add];have hlen2:(i32s l).length=l.length:=by simp
        have hml:n % (l.length+1)≤l.length:=by have:=Nat.mod_lt n (show 0<l.length+1 by omega);omega
        refine(insert_any w.heap.size (.slice oa l.length oc) (.int .i32 ((sg+n/(l.length+1):Nat):Int)) (i32s l) (n % (l.length+1)) _ (by rw[hlen2];exact hown) (by rw[hlen2];exact hml) (by rw[hlen2];omega) rfl (by intro u hu;obtain⟨x,_,rfl⟩:=List.mem_map.1 hu;rfl) hbl.size).mono ?_;rintro e w3 ⟨v',rfl,hown3,hgr⟩;have hbl3:Below w.heap.size w w3:=hbl.grown hgr hbl.size (fun g' hg'=>(hown.lt g' hg').1);rw[hlen2]at hown3;have HO:=Lib.hid hown3;clear hown hown3 hgr hbl hlen2;go_wp2_with fail;go_roundw
        case rel=>
         exact⟨rest,_,_,n % (l.length+1)+1,false,l.take (n % (l.length+1))++[sg+n/(l.length+1)]++l.drop (n % (l.length+1)),rfl,rfl,by rw[Hq3.out,←Int.natCast_add],by rw[Hq7.out];rfl,rfl,
          decI_next HO.out hml hbl3 HN.out HS.out (by omega) HB.out (by rw[←HD.out];exact H.out)⟩
        case measure=>simp[strLen,size_mk];omega
theorem decode_any (s:List UInt8) (w:World) (hm:s.length≤140737488351232):
 Calls Tryz.prog 269 #[.string ⟨s.toArray⟩] w fun e w'=>e= .returned (resV (decode s))∧Below w.heap.size w w':=by
 by_cases h:s.length≤65536
 ·exact decode_walk s w h
 ·exact decode_walk_long s w (by omega) hm
end Go.Proofs.YtjkipdoebkhkaaaGreatDoor
