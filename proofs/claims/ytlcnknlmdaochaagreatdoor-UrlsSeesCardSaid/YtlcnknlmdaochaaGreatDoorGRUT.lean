/- The walk of the reference's Text of layer 6. -/
import Derived.Test.YtlcnknlmdaochaaGreatDoorGRU1
import Derived.Test.YtlcnknlmdaochaaGreatDoorGUrl5
set_option linter.unusedVariables false
set_option linter.unusedSimpArgs false
set_option maxHeartbeats 16000000
namespace Go.Proofs.YtlcnknlmdaochaaGreatDoor
open Go.RowKit
theorem jr_col (a:List UInt8):(ByteArray.mk a.toArray)++(ByteArray.mk #[58])=ByteArray.mk (a++[58]).toArray:=ba_append a [58]
theorem jr_at (a:List UInt8):(ByteArray.mk a.toArray)++(ByteArray.mk #[64])=ByteArray.mk (a++[64]).toArray:=ba_append a [64]
theorem jr_hash (a:List UInt8):(ByteArray.mk a.toArray)++(ByteArray.mk #[35])=ByteArray.mk (a++[35]).toArray:=ba_append a [35]
attribute [local go_sem] jo_quest jo_sl jo_col jr_col jr_at jr_hash ba_append
theorem UrlAt.calmT {B:Nat} {u:UrlL} {w w':World} (h:UrlAt B u w) (hb:Below w.heap.size w w'):UrlAt B u w':=(hb.block _ h.lt).trans h
theorem not_empty {s:List UInt8} (h:s≠[]):(!s.isEmpty)=true∧(s==[])=false:=⟨by cases s with|nil=>exact absurd rfl h|cons _ _=>rfl,beq_eq_false_iff_ne.2 h⟩
set_option maxRecDepth 100000 in
theorem rtext_u (u:UrlL) (w:World) (hs:sizeU u≤1000000000) (hport:u.port≤9223372036854775807):
 Calls Tryz.prog 18 #[urlV u] w fun e w'=>e= .returned (.string ⟨(textU u).toArray⟩)∧Below w.heap.size w w':=by
 obtain⟨w1,hw1⟩:∃w1,w.alloc (.cells #[.string ⟨u.scheme.toArray⟩, .string ⟨u.user.toArray⟩, .string ⟨u.pass.toArray⟩, .string ⟨u.host.toArray⟩, .int .i64 u.port, .string ⟨u.path.toArray⟩, .string ⟨u.query.toArray⟩, .bool u.hasQ, .string ⟨u.mark.toArray⟩, .bool u.hasM] 23)=w1:=⟨_,rfl⟩
 have hb1:Below w.heap.size w w1:=by rw[←hw1];exact below_alloc w _
 have hU1:UrlAt w.heap.size u w1:=by rw[←hw1];exact heap_alloc_new w _
 obtain⟨A,hA⟩:∃A,u.scheme++[58,47,47]++u.user++(if u.pass=[]then []else 58::u.pass)++(if u.user=[]∧u.pass=[]then []else [64])=A:=⟨_,rfl⟩
 obtain⟨C,hC⟩:∃C,A++u.host++(if 0≤u.port then 58::decP u.port.toNat else [])=C:=⟨_,rfl⟩
 have hT:textU u=C++targetU u++(if u.hasM=true then 35::u.mark else []):=by unfold textU;rw[hA,hC]
 unfold sizeU at hs
 have hAl:A.length≤u.scheme.length+u.user.length+u.pass.length+5:=by
  rw[←hA];simp only[List.length_append];split<;>split<;>simp<;>omega
 have hCl:C.length≤A.length+u.host.length+22:=by
  have:=(digF_len 10 20 u.port.toNat).2;rw[←hC];simp only[List.length_append];split<;>simp[decP]<;>omega
 have HA:=Lib.hid hA
 have HC:=Lib.hid hC
 have HT:=Lib.hid hT
 have q0:w1.cell? ⟨w.heap.size,0,none⟩=some (.string ⟨u.scheme.toArray⟩):=hU1.cell 0
 have q1:w1.cell? ⟨w.heap.size,1,none⟩=some (.string ⟨u.user.toArray⟩):=hU1.cell 1
 have q2:w1.cell? ⟨w.heap.size,2,none⟩=some (.string ⟨u.pass.toArray⟩):=hU1.cell 2
 have q3:w1.cell? ⟨w.heap.size,3,none⟩=some (.string ⟨u.host.toArray⟩):=hU1.cell 3
 have q4:w1.cell? ⟨w.heap.size,4,none⟩=some (.int .i64 u.port):=hU1.cell 4
 clear hA hC hT
 obtain⟨p,hpp⟩:∃p,u.port=p:=⟨_,rfl⟩
 rw[hpp]at q4 hw1 hport
 have HP:=Lib.hid hpp
 obtain⟨b,hb⟩:∃b:Bool,b= !((u.user==[])&&(u.pass==[])):=⟨_,rfl⟩
 unfold urlV
 rw[hpp]
 clear hpp
 go_enter Tryz.func18,Tryz.ntmps18
 go_upto_region 2 with fail
 clear hw1 q0
 go_cut [14]from 7 to 14 (fun a wx=>a= .bool b∧w1=wx)
 case first=>
  clear HA HC HT;by_cases hu:u.user=[]
  ·rw[hu]at q1 hb
   by_cases hp:u.pass=[]
   ·rw[hp]at q2 hb
    have HB:Hid (b=false):=hb;clear hb hu hp;go_wp2_with fail;go_meet;exact⟨by rw[HB.out],rfl⟩
   ·obtain⟨b1,b2⟩:=not_empty hp
    rw[b2]at hb;have HB:Hid (b=true):=hb;clear hb hu hp;go_wp2_with fail;go_meet;exact⟨by rw[HB.out],rfl⟩
  ·obtain⟨b1,b2⟩:=not_empty hu
   rw[b2]at hb;have HB:Hid (b=true):=hb;clear hb hu;go_wp2_with fail;go_meet;exact⟨by rw[HB.out],rfl⟩
 case rest=>
  obtain⟨rfl,rfl⟩:=hcut;go_upto_if 14 with fail;go_cut [3]from 15 to 28 (fun v wx=>v= .string ⟨A.toArray⟩∧w1=wx)
  case first=>
   clear HC HT hCl;by_cases hu:u.user=[]<;>by_cases hp:u.pass=[]
   ·obtain rfl:b=false:=by rw[hb,hu,hp];rfl
    have HA2:Hid (A=u.scheme++[58,47,47]):=by show _=_;rw[←HA.out];simp[hu,hp]
    clear hb hu hp HA;go_wp2_with fail;go_meet;exact⟨by rw[HA2.out],rfl⟩
   ·obtain⟨b1,b2⟩:=not_empty hp
    obtain rfl:b=true:=by rw[hb,b2];simp
    have HA2:Hid (A=u.scheme++[58,47,47]++u.user++[58]++u.pass++[64]):=by show _=_;rw[←HA.out];simp[hu,hp]
    clear hb hu hp HA;go_wp2_with fail;go_meet;exact⟨by rw[HA2.out];first|rfl|simp,rfl⟩
   ·obtain⟨b1,b2⟩:=not_empty hu
    obtain rfl:b=true:=by rw[hb,b2];rfl
    have HA2:Hid (A=u.scheme++[58,47,47]++u.user++[64]):=by show _=_;rw[←HA.out];simp[hu,hp]
    rw[hp]at q2;clear hb hu hp HA;go_wp2_with fail;go_meet;exact⟨by rw[HA2.out];first|rfl|simp,rfl⟩
   ·obtain⟨b1,b2⟩:=not_empty hu
    obtain⟨b3,b4⟩:=not_empty hp;obtain rfl:b=true:=by rw[hb,b2];rfl
    have HA2:Hid (A=u.scheme++[58,47,47]++u.user++[58]++u.pass++[64]):=by show _=_;rw[←HA.out];simp[hu,hp]
    clear hb hu hp HA;go_wp2_with fail;go_meet;exact⟨by rw[HA2.out];first|rfl|simp,rfl⟩
  case rest=>
   obtain⟨rfl,rfl⟩:=hcut;clear q1 q2 hb HA;go_upto_if 35 with fail;generalize hd:decide ((0:Int)≤p)=d at*;go_cut [3]from 36 to 41 (fun v wx=>v= .string ⟨C.toArray⟩∧Below w1.heap.size w1 wx)
   case first=>
    clear HT
    cases d with
    |true=>
     have ho:0≤p:=of_decide_eq_true hd;obtain⟨n,rfl⟩:∃n:Nat,p=(n:Int):=⟨p.toNat,by omega⟩;have hc:=HC.out;rw[HP.out,if_pos ho]at hc;have hc2:A++u.host++58::digF 10 20 n=C:=hc;have cd:=rdigits_u 20 n (by omega) (by omega) (by omega) w1;have hlen:=(digF_len 10 20 n).2;have HC2:=Lib.hid hc2;clear hc hc2 HC ho hd HP;generalize digF 10 20 n=D at*;go_wp2_with fail;go_at_call 61;refine cd.mono ?_;rintro e W ⟨rfl,hm⟩;go_wp2_with fail;go_meet;exact⟨by rw[←HC2.out];simp,hm⟩
    |false=>
     have ho:¬0≤p:=of_decide_eq_false hd;have HC2:Hid (A++u.host=C):=by show _=_;rw[←HC.out,HP.out,if_neg ho,List.append_nil]
     clear hd ho HP;clear HC;go_wp2_with fail;go_meet;exact⟨by rw[←HC2.out],Below.refl _ _⟩
   case rest=>
    obtain⟨rfl,hm⟩:=hcut;have hU2:=hU1.calmT hm;have q5:wc.cell? ⟨w.heap.size,5,none⟩=some (.string ⟨u.path.toArray⟩):=hU2.cell 5;have q6:wc.cell? ⟨w.heap.size,6,none⟩=some (.string ⟨u.query.toArray⟩):=hU2.cell 6;have q7:wc.cell? ⟨w.heap.size,7,none⟩=some (.bool u.hasQ):=hU2.cell 7;have q8:wc.cell? ⟨w.heap.size,8,none⟩=some (.string ⟨u.mark.toArray⟩):=hU2.cell 8;have q9:wc.cell? ⟨w.heap.size,9,none⟩=some (.bool u.hasM):=hU2.cell 9;have hbb:=hb1.trans (hm.mono hb1.size);have ht:targetU u=if u.hasQ=true then u.path++63::u.query else u.path:=rfl;have htx:=HT.out;rw[ht]at htx;clear q3 q4 hU1 hU2 hm hb1 HC HT ht
    cases hQ:u.hasQ<;>cases hM:u.hasM
    all_goals
     rw[hQ,hM]at htx;rw[hQ]at q7;rw[hM]at q9;have HX:=Lib.hid htx;clear htx hQ hM;go_wp2_with fail;go_ret;exact⟨by rw[HX.out];simp,hbb⟩
end Go.Proofs.YtlcnknlmdaochaaGreatDoor
