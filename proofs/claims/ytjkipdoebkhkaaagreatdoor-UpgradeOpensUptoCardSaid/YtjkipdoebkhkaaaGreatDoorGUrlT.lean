/- The walks of urls.Target, Port, Key and Text. -/
import Derived.Test.YtjkipdoebkhkaaaGreatDoorGUrl1
set_option linter.unusedVariables false
set_option linter.unusedSimpArgs false
set_option maxHeartbeats 16000000
namespace Go.Proofs.YtjkipdoebkhkaaaGreatDoor
open Go.RowKit
theorem jo_quest (a:List UInt8):(ByteArray.mk a.toArray)++(ByteArray.mk #[63])=ByteArray.mk (a++[63]).toArray:=ba_append a [63]
theorem jo_sl (a:List UInt8):(ByteArray.mk a.toArray)++(ByteArray.mk #[58,47,47])=ByteArray.mk (a++[58,47,47]).toArray:=ba_append a [58,47,47]
theorem jo_col (b:List UInt8):(ByteArray.mk #[58])++(ByteArray.mk b.toArray)=ByteArray.mk (58::b).toArray:=ba_append [58] b
theorem jo_hash (b:List UInt8):(ByteArray.mk #[35])++(ByteArray.mk b.toArray)=ByteArray.mk (35::b).toArray:=ba_append [35] b
attribute [local go_sem] jo_quest jo_sl jo_col jo_hash ba_append
def sizeU (u:UrlL):Nat:=u.scheme.length+u.user.length+u.pass.length+u.host.length+u.path.length+u.query.length+u.mark.length
set_option maxRecDepth 100000 in
theorem target_u (u:UrlL) (w:World) (hs:sizeU u≤4000000000):
 Calls Tryz.prog 135 #[urlV u] w fun e w'=>e= .returned (.string ⟨(targetU u).toArray⟩)∧Below w.heap.size w w':=by
 have hb:=(Below.refl w.heap.size w).alloc (Nat.le_refl _) (.cells (cellsU u).toArray 29)
 have ht:targetU u=if u.hasQ=true then u.path++63::u.query else u.path:=rfl
 have h1:¬9223372036854775807<u.path.length+1:=by unfold sizeU at hs;omega
 have h2:¬9223372036854775807<(u.path++[63]).length+u.query.length:=by unfold sizeU at hs;simp;omega
 have h3:¬9223372036854775807<u.path.length+1+u.query.length:=by unfold sizeU at hs;omega
 have h4:¬9223372036854775807<u.path.length+(u.query.length+1):=by unfold sizeU at hs;omega
 unfold urlV
 cases hq:u.hasQ with
 |true=>
  rw[hq]at ht;have HT:=Lib.hid ht;clear ht;go_enter Tryz.func135,Tryz.ntmps135;go_wp2_with fail;go_ret;exact⟨by rw[HT.out];simp,by rw[cellsU,hq]at hb;exact hb⟩
 |false=>
  rw[hq]at ht;have HT:=Lib.hid ht;clear ht;go_enter Tryz.func135,Tryz.ntmps135;go_wp2_with fail;go_ret;exact⟨by rw[HT.out];rfl,by rw[cellsU,hq]at hb;exact hb⟩
theorem text_cut (u:UrlL):textU u=(((((u.scheme++[58,47,47]++u.user)++(if u.pass=[]then []else 58::u.pass))++(if u.user=[]∧u.pass=[]then []else [64]))++u.host)++(if 0≤u.port then 58::decP u.port.toNat else []))++targetU u++(if u.hasM=true then 35::u.mark else []):=by
 unfold textU;simp
theorem decP_len (n:Nat):(decP n).length≤21:=(digF_len 10 20 n).2
set_option maxRecDepth 100000 in
theorem text_u (u:UrlL) (w:World) (hE:EnvH w) (hs:sizeU u≤1000000000) (hport:u.port≤9223372036854775807):
 Calls Tryz.prog 72 #[urlV u] w fun e w'=>e= .returned (.string ⟨(textU u).toArray⟩)∧Below w.heap.size w w':=by
 obtain⟨w1,hw1⟩:∃w1,w.alloc (.cells #[.string ⟨u.scheme.toArray⟩, .string ⟨u.user.toArray⟩, .string ⟨u.pass.toArray⟩, .string ⟨u.host.toArray⟩, .int .i64 u.port, .string ⟨u.path.toArray⟩, .string ⟨u.query.toArray⟩, .bool u.hasQ, .string ⟨u.mark.toArray⟩, .bool u.hasM] 29)=w1:=⟨_,rfl⟩
 have hb1:Below w.heap.size w w1:=by rw[←hw1];exact(Below.refl w.heap.size w).alloc (Nat.le_refl _) _
 have hcell:∀W,Below w1.heap.size w1 W→∀k,W.cell? ⟨w.heap.size,k,none⟩=(cellsU u)[k]?:=fun W hW k=>by
  rw[hW.cell (p:=⟨w.heap.size,k,none⟩) (by rw[←hw1,World.size_alloc];exact Nat.lt_succ_self _),←hw1,World.cell?_alloc_at _ _ _ _ rfl];simp[cellsU]
 have hsz:w1.heap.size=w.heap.size+1:=by rw[←hw1];exact World.size_alloc _ _
 have hst:=pct_start w1
 rw[hsz]at hst
 have hcut:=text_cut u
 have htl:(targetU u).length≤u.path.length+u.query.length+1:=by unfold targetU;split<;>(try simp only[List.length_append,List.length_cons])<;>omega
 have hdl:=decP_len u.port.toNat
 unfold sizeU at hs
 have q0:∀W,Below w1.heap.size w1 W→W.cell? ⟨w.heap.size,0,none⟩=some (.string ⟨u.scheme.toArray⟩):=fun W hW=>hcell W hW 0
 have q1:∀W,Below w1.heap.size w1 W→W.cell? ⟨w.heap.size,1,none⟩=some (.string ⟨u.user.toArray⟩):=fun W hW=>hcell W hW 1
 have q2:∀W,Below w1.heap.size w1 W→W.cell? ⟨w.heap.size,2,none⟩=some (.string ⟨u.pass.toArray⟩):=fun W hW=>hcell W hW 2
 have q3:∀W,Below w1.heap.size w1 W→W.cell? ⟨w.heap.size,3,none⟩=some (.string ⟨u.host.toArray⟩):=fun W hW=>hcell W hW 3
 have q4:∀W,Below w1.heap.size w1 W→W.cell? ⟨w.heap.size,4,none⟩=some (.int .i64 u.port):=fun W hW=>hcell W hW 4
 have q5:∀W,Below w1.heap.size w1 W→W.cell? ⟨w.heap.size,5,none⟩=some (.string ⟨u.path.toArray⟩):=fun W hW=>hcell W hW 5
 have q6:∀W,Below w1.heap.size w1 W→W.cell? ⟨w.heap.size,6,none⟩=some (.string ⟨u.query.toArray⟩):=fun W hW=>hcell W hW 6
 have q7:∀W,Below w1.heap.size w1 W→W.cell? ⟨w.heap.size,7,none⟩=some (.bool u.hasQ):=fun W hW=>hcell W hW 7
 have q8:∀W,Below w1.heap.size w1 W→W.cell? ⟨w.heap.size,8,none⟩=some (.string ⟨u.mark.toArray⟩):=fun W hW=>hcell W hW 8
 have q9:∀W,Below w1.heap.size w1 W→W.cell? ⟨w.heap.size,9,none⟩=some (.bool u.hasM):=fun W hW=>hcell W hW 9
 have cws:∀(out s:List UInt8) W,PctMem w1 (w.heap.size+1) out W→out.length+s.length≤10000000000→Calls Tryz.prog 133 #[.pointer (some ⟨w.heap.size+1,0,none⟩), .string ⟨s.toArray⟩] W fun e W'=>e= .returned (.tuple #[.int .i64 (s.length:Int), .nilIface])∧PctMem w1 (w.heap.size+1) (out++s) W':=fun out s W hW hl=>
  (writeString_k (w.heap.size+1) (w.heap.size+1) _ s W hW.bld (by rw[Lib.byteCells_length];omega) (by have:=hW.low.size;omega)).mono fun e W' ⟨he,hb,hl,_⟩=>⟨he,hW.more hb hl⟩
 have cwb:∀(out:List UInt8) W,PctMem w1 (w.heap.size+1) out W→out.length≤10000000000→Calls Tryz.prog 134 #[.pointer (some ⟨w.heap.size+1,0,none⟩), .int .u8 64] W fun e W'=>e= .returned .nilIface∧PctMem w1 (w.heap.size+1) (out++[64]) W':=fun out W hW hl=>
  (writeByte_k (w.heap.size+1) (w.heap.size+1) _ _ W hW.bld (by rw[Lib.byteCells_length];omega) (by have:=hW.low.size;omega)).mono fun e W' ⟨he,hb,hl,_⟩=>⟨he,hW.more (l:=[64]) hb hl⟩
 have ct:∀(out:List UInt8) W,PctMem w1 (w.heap.size+1) out W→Calls Tryz.prog 135 #[urlV u] W fun e W'=>e= .returned (.string ⟨(targetU u).toArray⟩)∧PctMem w1 (w.heap.size+1) out W':=fun out W hW=>
  (target_u u W (by unfold sizeU;omega)).mono fun e W' ⟨he,hb⟩=>⟨he,hW.below hb⟩
 have cs:∀(out:List UInt8) W,PctMem w1 (w.heap.size+1) out W→Calls Tryz.prog 136 #[.pointer (some ⟨w.heap.size+1,0,none⟩)] W fun e W'=>e= .returned (.string ⟨out.toArray⟩)∧Below (w.heap.size+1) W W':=fun out W hW=>
  (Tryz.Builder_String_any_k (w.heap.size+1) (w.heap.size+1) out W hW.bld (Nat.le_of_lt hW.sz)).mono fun e W' ⟨he,_,hb,_⟩=>⟨he,hb⟩
 have hl:∀ {W:World} {o:List UInt8},PctMem w1 (w.heap.size+1) o W→Below w1.heap.size w1 W:=fun h=>h.low
 have ci:=fun (n:Nat) (hn:n≤9223372036854775807) W (hW:Below w1.heap.size w1 W)=>itoa_any n hn W ((hE.below hb1).below hW).pow
 obtain⟨A,hA⟩:∃A,(u.scheme++[58,47,47]++u.user)++(if u.pass=[]then []else 58::u.pass)=A:=⟨_,rfl⟩
 obtain⟨B,hB⟩:∃B,A++(if u.user=[]∧u.pass=[]then []else [64])=B:=⟨_,rfl⟩
 obtain⟨C,hC⟩:∃C,(B++u.host)++(if 0≤u.port then 58::decP u.port.toNat else [])=C:=⟨_,rfl⟩
 rw[hA,hB,hC]at hcut
 have hAl:A.length≤u.scheme.length+u.user.length+u.pass.length+4:=by rw[←hA];simp only[List.length_append];split<;>simp<;>omega
 have hBl:B.length≤A.length+1:=by rw[←hB];simp only[List.length_append];split<;>simp
 have hCl:C.length≤B.length+u.host.length+22:=by rw[←hC];simp only[List.length_append];split<;>simp<;>omega
 have HT:=Lib.hid hcut
 have HA:=Lib.hid hA
 have HB:=Lib.hid hB
 have HC:=Lib.hid hC
 obtain⟨p,hpp⟩:∃p,u.port=p:=⟨_,rfl⟩
 rw[hpp]at q4 hw1 hdl hport
 have HP:=Lib.hid hpp
 have HE:=Lib.hid hE
 have HW:=Lib.hid hw1
 clear hcell hcut hA hB hC hE hw1
 unfold urlV at ct⊢
 rw[hpp]at ct⊢
 clear hpp
 have hsum:∀n,n≤4000000000→¬9223372036854775807<n:=fun n hn=>by omega
 have z1:=hsum (u.scheme.length+3) (by omega)
 have z2:=hsum ((u.scheme++[58,47,47]).length+u.user.length) (by simp;omega)
 have z3:=hsum (u.scheme.length+3+u.user.length) (by omega)
 have z4:=hsum (1+u.pass.length) (by omega)
 have z5:=hsum (u.user.length+u.pass.length) (by omega)
 have z7:=hsum (1+u.mark.length) (by omega)
 clear hsum
 go_enter Tryz.func72,Tryz.ntmps72
 go_wp2_with fail
 rw[HW.out]
 go_at_call 133
 refine(cws _ _ _ hst (by simp only[List.length_append,List.length_cons,List.length_nil];omega)).mono ?_
 rintro e W ⟨rfl,hm⟩
 have k2:=q2 _ (hl hm)
 go_upto_if 13 with fail
 generalize h13:(!u.pass.isEmpty)=b at*
 go_cut [17]from 14 to 17 (fun _ wx=>PctMem w1 (w.heap.size+1) A wx)
 case first=>
  have hb:=HA.out;clear HB HC HT q0 q1 q2 q3 q4 q5 q6 q7 q8 q9
  cases b with
  |false=>
   rw[if_pos (by cases hx:u.pass with|nil=>rfl|cons _ _=>rw[hx]at h13;cases h13),List.append_nil]at hb;have HX:=Lib.hid hb;clear hb h13;go_wp2_with fail;go_meet
   case rel=>rw[←HX.out];simpa using hm
  |true=>
   rw[if_neg (fun e=>by rw[e]at h13;cases h13)]at hb;have HX:=Lib.hid hb;clear hb h13;go_wp2_with fail;go_at_call 133;refine(cws _ _ _ hm (by simp only[List.length_append,List.length_cons,List.length_nil];omega)).mono ?_;rintro e W2 ⟨rfl,hm2⟩;go_wp2_with fail;go_meet
   case rel=>rw[←HX.out];simpa using hm2
 case rest=>
  have hm1:=hcut;clear hcut hm k2 HA;have k1:=q1 _ (hl hm1);have k2:=q2 _ (hl hm1);go_upto_if 23 with fail;generalize h23:(!(u.user++u.pass).isEmpty)=b2 at*;go_cut [24]from 24 to 24 (fun _ wx=>PctMem w1 (w.heap.size+1) B wx)
  case first=>
   have hb:=HB.out;clear HC HT q0 q1 q2 q3 q4 q5 q6 q7 q8 q9
   cases b2 with
   |false=>
    rw[if_pos (by cases hx:u.user++u.pass with|nil=>exact List.append_eq_nil_iff.1 hx|cons _ _=>rw[hx]at h23;cases h23),List.append_nil]at hb;have HX:=Lib.hid hb;clear hb h23;go_wp2_with fail;go_meet
    case rel=>rw[←HX.out];exact hm1
   |true=>
    rw[if_neg (fun e=>by rw[e.1,e.2]at h23;cases h23)]at hb;have HX:=Lib.hid hb;clear hb h23;go_wp2_with fail;go_at_call 134;refine(cwb _ _ hm1 (by omega)).mono ?_;rintro e W2 ⟨rfl,hm2⟩;go_wp2_with fail;go_meet
    case rel=>rw[←HX.out];exact hm2
  case rest=>
   have hm2:=hcut;clear hcut hm1 k1 k2 HB;have k3:=q3 _ (hl hm2);go_wp2_with fail;go_at_call 133;refine(cws _ _ _ hm2 (by omega)).mono ?_;rintro e W3 ⟨rfl,hm3⟩;have k4:=q4 _ (hl hm3);clear k3 hm2;go_upto_if 30 with fail;generalize hd:decide ((0:Int)≤p)=d at*;go_cut [35]from 31 to 35 (fun _ wx=>PctMem w1 (w.heap.size+1) C wx)
   case first=>
    have hc:=HC.out;rw[HP.out]at hc;clear HT q0 q1 q2 q3 q4 q5 q6 q7 q8 q9
    cases d with
    |true=>
     have ho:0≤p:=of_decide_eq_true hd;obtain⟨n,rfl⟩:∃n:Nat,p=(n:Int):=⟨p.toNat,by omega⟩;rw[if_pos ho]at hc;have hc2:B++u.host++58::dec8 n=C:=hc;have hdl2:(dec8 n).length≤21:=hdl;have cc:=ci n (by omega) W3 (hl hm3);have z6:¬9223372036854775807<1+(dec8 n).length:=by omega
     have HX:=Lib.hid hc2;clear hc hc2 ho hd HC HP hdl;go_wp2_with fail;go_at_call 91;refine cc.mono ?_;rintro e W4 ⟨rfl,hb4⟩;have hm4:=hm3.below hb4;clear cc hb4;go_wp2_with fail;go_at_call 133;refine(cws _ _ _ hm4 (by simp only[List.length_append,List.length_cons,List.length_nil];omega)).mono ?_;rintro e W5 ⟨rfl,hm5⟩;go_wp2_with fail;go_meet
     case rel=>rw[←HX.out];exact hm5
    |false=>
     have ho:¬0≤p:=of_decide_eq_false hd;rw[if_neg ho,List.append_nil]at hc;have HX:=Lib.hid hc;clear hc ho hd HC HP;go_wp2_with fail;go_meet
     case rel=>rw[←HX.out];exact hm3
   case rest=>
    have hm4:=hcut;clear hcut hm3 k4 HC;have k0:=q0 _ (hl hm4);have k1:=q1 _ (hl hm4);have k2:=q2 _ (hl hm4);have k3:=q3 _ (hl hm4);have k4:=q4 _ (hl hm4);have k5:=q5 _ (hl hm4);have k6:=q6 _ (hl hm4);have k7:=q7 _ (hl hm4);have k8:=q8 _ (hl hm4);have k9:=q9 _ (hl hm4);clear q0 q1 q2 q3 q4 q5 q6 q7;go_wp2_with fail;go_at_call 135;refine(ct _ _ hm4).mono ?_;rintro e W5 ⟨rfl,hm5⟩;clear k0 k1 k2 k3 k4 k5 k6 k7 k8 k9 hm4;go_wp2_with fail;go_at_call 133;refine(cws _ _ _ hm5 (by omega)).mono ?_;rintro e W6 ⟨rfl,hm6⟩;have k8:=q8 _ (hl hm6);have k9:=q9 _ (hl hm6);have htx:=HT.out;clear hm5 q8 q9 HT
    cases hM:u.hasM with
    |true=>
     rw[hM,if_pos rfl]at htx;rw[hM]at k9;have HX:=Lib.hid htx;clear htx hM;go_wp2_with fail;go_at_call 133;refine(cws _ _ _ hm6 (by simp only[List.length_append,List.length_cons,List.length_nil];omega)).mono ?_;rintro e W7 ⟨rfl,hm7⟩;go_wp2_with fail;go_at_call 136;refine(cs _ _ hm7).mono ?_;rintro e W8 ⟨rfl,hb8⟩;go_wp2_with fail;go_ret;exact⟨by rw[HX.out];first|rfl|simp,(hb1.trans ((hl hm7).mono (by omega))).trans (hb8.mono (by omega))⟩
    |false=>
     rw[hM,if_neg (by simp),List.append_nil]at htx;rw[hM]at k9;have HX:=Lib.hid htx;clear htx hM;go_wp2_with fail;go_at_call 136;refine(cs _ _ hm6).mono ?_;rintro e W8 ⟨rfl,hb8⟩;go_wp2_with fail;go_ret;exact⟨by rw[HX.out];rfl,(hb1.trans ((hl hm6).mono (by omega))).trans (hb8.mono (by omega))⟩
end Go.Proofs.YtjkipdoebkhkaaaGreatDoor
namespace Go.Proofs.YtjkipdoebkhkaaaGreatDoor
open Go.RowKit
theorem idle_u (c:UInt8) (w:World):Calls Tryz.prog 125 #[.int .i32 (c.toNat:Int)] w fun r w'=>r= .returned (.bool (idleB c))∧w=w':=by
 have hm:idleB c=decide (c.toNat≤32):=rfl;by_cases h:c.toNat≤32
 ·rw[decide_eq_true h]at hm
  have hi:(c.toNat:Int)≤32:=by omega
  have HM:=Lib.hid hm;clear hm h;go_enter Tryz.func125,Tryz.ntmps125;go_wp2_with fail;go_ret;exact⟨by rw[HM.out];rfl,rfl⟩
 ·rw[decide_eq_false h]at hm
  have hi:¬(c.toNat:Int)≤32:=by omega
  have HM:=Lib.hid hm;clear hm h;go_enter Tryz.func125,Tryz.ntmps125;go_wp2_with fail;go_ret;exact⟨by rw[HM.out];rfl,rfl⟩
end Go.Proofs.YtjkipdoebkhkaaaGreatDoor
