/- The walk of footmanref05.Parts (written by mkparts.py). -/
import Derived.Test.YtlcnknlmdaochaaGreatDoorGRFour
import Derived.Test.YtlcnknlmdaochaaGreatDoorGDec
set_option linter.unusedVariables false
set_option linter.unusedSimpArgs false
set_option maxHeartbeats 16000000
namespace Go.Proofs.YtlcnknlmdaochaaGreatDoor
open Go.RowKit
set_option maxRecDepth 100000 in
theorem rParts_any (s:List UInt8) (w:World) (hs:s.length≤4000000000):
 Calls Tryz.prog 170 #[.string ⟨s.toArray⟩] w fun e w'=>∃v,e= .returned v∧w'.ownsRow w.heap.size 9 1 v (partsL 46 s).length (strs (partsL 46 s))∧Below w.heap.size w w':=by
 go_enter Tryz.func170,Tryz.ntmps170
 go_wp2_with fail
 go_loopw [3,4,5] (fun v fv i wr=>∃(k f:Nat) (done:List (List UInt8)),k≤s.length+1∧i= .int .i64 k∧fv= .int .i64 f∧Hid (PartsAt 46 s done f k)∧wr.ownsRow w.heap.size 9 1 v done.length (strs done)∧Below w.heap.size w wr) (fun _ _ i _=>s.length+1-(intOf i).toNat)
 case atStart=>exact⟨0,0,[],Nat.zero_le _,rfl,rfl,parts_start 46 s,World.ownsRow_nil _ _ _ _,Below.refl _ _⟩
 case round=>
  obtain⟨k,f,done,hk,rfl,rfl,H,hown,hbl⟩:=hrel;have hsz:=hbl.size;obtain⟨hfk,hdk,_⟩:=H.out;by_cases hlt:k<s.length
  ·by_cases hc:s[k]=46
   ·have HN:=Lib.hid (parts_hit H.out hlt hc)
    have hc1:(s[k].toNat:Int)=46:=by rw[hc];try rfl
    have hcl:=cur_len s f k;have hce:List.take (k-f) (List.drop f s)=cur s f k:=rfl;generalize cur s f k=X at*;clear hc;go_wp2_with(at_builtin;refine wpList_append_vals e_str _ rfl _ _ rfl w.heap.size _ _ _ rfl hown _ _ _ rfl rfl (fun u hu=>by simp only[List.mem_cons,List.not_mem_nil,or_false]at hu;rcases hu with rfl;rfl) (by simp;omega) (by simp;omega) hsz ?_);intro v' w2 hown2 hgr _;go_wp2_with fail;go_roundw
    case rel=>exact⟨k+1,k+1,_,by omega,by go_num,by go_num,HN,by simpa using hown2,hbl.grown hgr hsz (fun g' hg'=>(hown.lt g' hg').1)⟩
    case measure=>simp[intOf];try omega
   ·have HN:=Lib.hid (parts_miss H.out hlt hc)
    have hc1:¬(s[k].toNat:Int)=46:=fun h=>hc (UInt8.toNat_inj.1 (show s[k].toNat=46 by omega))
    have hc2:((s[k].toNat:Int)==46)=false:=by rw[beq_eq_false_iff_ne];exact hc1
    have hc3:((k:Int)==(s.length:Int))=false:=by rw[beq_eq_false_iff_ne];omega
    have hc4:¬k=s.length:=by omega
    have hc5:¬s[k].toNat=46:=by omega
    clear hc;go_wp2_with fail;go_roundw
    case rel=>exact⟨k+1,f,done,by omega,by go_num,rfl,HN,hown,hbl⟩
    case measure=>simp[intOf];omega
  ·by_cases he:k=s.length
   ·subst he
    have HN:=Lib.hid (parts_last H.out);have hcl:=cur_len s f s.length;have hce:List.take (s.length-f) (List.drop f s)=cur s f s.length:=rfl;generalize cur s f s.length=X at*;go_wp2_with(at_builtin;refine wpList_append_vals e_str _ rfl _ _ rfl w.heap.size _ _ _ rfl hown _ _ _ rfl rfl (fun u hu=>by simp only[List.mem_cons,List.not_mem_nil,or_false]at hu;rcases hu with rfl;rfl) (by simp;omega) (by simp;omega) hsz ?_);intro v' w2 hown2 hgr _;go_wp2_with fail;go_roundw
    case rel=>exact⟨s.length+1,s.length+1,_,by omega,by go_num,by go_num,HN,by simpa using hown2,hbl.grown hgr hsz (fun g' hg'=>(hown.lt g' hg').1)⟩
    case measure=>simp[intOf];try omega
   ·obtain rfl:k=s.length+1:=by omega
    have HD:=Lib.hid (parts_done H.out);go_wp2_with fail;go_ret;exact⟨_,rfl,by rw[HD.out];exact hown,hbl⟩
theorem step_append_one {P:Program} {t e:TypeId} {z:Value} {bytes:Nat} (E:Elem1 P t e z bytes) {w:World} {ops:Array Oper} {o:Oper} {a:Act} {K:Act→World→Prop} {Q:Exit→Act→World→Prop} {F:Prop} (hgd:o.guard=none) (s x:Operand)
 (ho:o.op= .call {callee:= .builtin .append,args:= #[s,x],argTypes:= #[t,t]})
 (base:Nat) (v:Value) (n:Nat) (xs:List Value) (hs:a.eval s=v) (hown:w.ownsRow base e 1 v n xs)
 (g0:Nat) (c:Value) (hx:a.eval x= .slice (some ⟨g0,0,none⟩) 1 1) (hc:w.cell? ⟨g0,0,none⟩=some c) (h1:c.oneCell'=true)
 (h63:n+1≤140737488355328) (hbytes:(n+1)*bytes≤140737488355328) (hbase:base≤w.heap.size)
 (h:∀v' w',w'.ownsRow base e 1 v' (n+1) (xs++[c])→w.grownBy w' v.ownBlock→K (a.put o.dst v') w'):
 if Region.wanted o (yielded ops a.tmps)=true then Oper.wp P o a w K Q else F:=by
 obtain⟨i,hi,hz,hsize,hby⟩:=E.hi
 refine step_append_lies w hgd s x t ho base e i z 1 bytes E.ht hi hz hsize hby E.hz (by decide) v n xs hs hown ⟨g0,0,none⟩ 1 1 [c] hx rfl ?_ ?_ (by omega) (by unfold maxLen;omega) hbytes hbase _ rfl ?_
 ·intro j u hj
  match j,hj with
  |0,hj=>rw[Addr.add_lit];simp at hj;subst hj;exact hc
 ·intro u hu
  simp at hu;subst hu;exact h1
 ·intro g cap w' h2 h3 _ _
  exact h _ w' h2 h3
theorem byte_wrap {h1 h2:Int} (p1:0≤h1) (p2:0≤h2) (q1:h1<16) (q2:h2<16):((UInt8.ofNat (16*h1.toNat+h2.toNat)).toNat:Int)=16*h1+h2:=by
 rw[UInt8.toNat_ofNat',Nat.mod_eq_of_lt (by omega)];omega
set_option maxRecDepth 100000 in
theorem rpct_any (s:List UInt8) (w:World) (hs:s.length≤4000000000):
 Calls Tryz.prog 212 #[.string ⟨s.toArray⟩] w fun e w'=>e= .returned (.string ⟨(pctL s).toArray⟩)∧Below w.heap.size w w':=by
 have ch:=fun (x:UInt8) W=>rhex_any x.toNat x.toNat_lt W
 go_enter Tryz.func212,Tryz.ntmps212
 go_wp2_with fail
 go_loopw [3,4] (fun v i wr=>∃(k:Nat) (done:List UInt8),k≤s.length∧i= .int .i64 k∧done.length≤k∧Hid (pctL s=done++pctL (s.drop k))∧wr.ownsRow w.heap.size 5 1 v done.length (byts done)∧Below w.heap.size w wr) (fun _ i _=>s.length-(intOf i).toNat)
 case atStart=>exact⟨0,[],Nat.zero_le _,rfl,Nat.le_refl _,by show _=_;simp,World.ownsRow_nil _ _ _ _,Below.refl _ _⟩
 case round=>
  obtain⟨V,rfl⟩:∃V,V=wr:=⟨wr,rfl⟩;obtain⟨k,done,hk,rfl,hdk,H,hown,hbl⟩:=hrel;have hsz:=hbl.size;by_cases hlt:k<s.length
  ·have hdr:=List.drop_eq_getElem_cons hlt
   by_cases hc:s[k].toNat=37
   ·have hc37:s[k]=37:=UInt8.toNat_inj.1 (by rw[hc];rfl)
    have hci:(s[k].toNat:Int)=37:=by omega
    by_cases h2:k+2<s.length
    ·have hx:=hx2_at (s:=s) (k:=k+1) h2
     have q1:=hexI_lt s[k+1].toNat;have q2:=hexI_lt s[k+2].toNat;have l1:k+1<s.length:=by omega
     by_cases p1:0≤hexI s[k+1].toNat
     ·by_cases p2:0≤hexI s[k+2].toNat
      ·rw[if_pos ⟨p1,p2⟩]at hx
       have HN:Hid (pctL s=(done++[UInt8.ofNat (16*(hexI s[k+1].toNat).toNat+(hexI s[k+2].toNat).toNat)])++pctL (s.drop (k+3))):=by
        show _=_;rw[H.out,hdr,hc37,pctL_hit hx];simp
       have hw:=byte_wrap p1 p2 q1 q2;generalize UInt8.ofNat (16*(hexI s[k+1].toNat).toNat+(hexI s[k+2].toNat).toNat)=X at*;have cs:=fun (x:UInt8) W=>(ch x W).mono (R':=fun e W'=>e= .returned (.int .i64 (hexI x.toNat))∧W'=W) fun e W' h=>⟨h.1,h.2.symm⟩
       clear hdr H hx;generalize hA:s[k+1]=A at*;generalize hB:s[k+2]=B at*;go_wp2_with(first|(go_at_call 260;refine(ch _ _).mono ?_;rintro e w1 ⟨rfl,rfl⟩));obtain⟨ht,⟨i0,hi,hz0,hz1,hz2⟩,hzz⟩:=e_byte;have wr1:IntKind.i64.wrap ((k:Int)+1)=(k:Int)+1:=IntWalk.i64_in _ (by omega);have wr2:IntKind.i64.wrap ((k:Int)+2)=(k:Int)+2:=IntWalk.i64_in _ (by omega);have wr3:IntKind.i64.wrap (16*hexI A.toNat)=16*hexI A.toNat:=IntWalk.i64_in _ (by omega);have wr4:IntKind.i64.wrap (16*hexI A.toNat+hexI B.toNat)=16*hexI A.toNat+hexI B.toNat:=IntWalk.i64_in _ (by omega);have t1:((k:Int)+1).toNat=k+1:=by omega
       have t2:((k:Int)+2).toNat=k+2:=by omega
       have u1:0≤(k:Int)+1∧(k:Int)+1<(s.length:Int):=by omega
       have u2:0≤(k:Int)+2∧(k:Int)+2<(s.length:Int):=by omega
       go_region_law (first|(go_simp;go_at_call 260;refine(ch _ _).mono ?_;rintro e w1 ⟨rfl,rfl⟩)|(refine step_append_one e_byte (by rfl) (.tmp 36) (.tmp 50) (by rfl) w.heap.size u3 done.length (byts done) (by rfl) (by first|exact hown.alloc _|exact(hown.alloc _).drew|exact hown.drew.alloc _) V.heap.size _ (by rfl) (World.cell?_alloc_at _ _ _ 0 rfl) rfl (by omega) (by omega) (by simp;omega) ?_;intro v' w2 hown2 hgr))
       all_goals
        have hwb:IntKind.u8.wrap (16*hexI A.toNat+hexI B.toNat)=(X.toNat:Int):=by rw[IntWalk.u8_in _ (by omega)];omega
        have hgr2:V.grownBy w2 u3.ownBlock:=grown_trans2 (grown_drew (World.grownBy_alloc V _ _)) hgr;simp only[List.getElem_toArray,List.getElem_cons_zero,hwb,byts_snoc]at hown2;have HW2:=Lib.hid hown2;clear hwb wr1 wr2 wr3 wr4 t1 t2 hown2 hgr hz0 hz1 hz2;go_wp2_with fail;go_roundw
        case rel=>exact⟨k+3,done++[X],by omega,by go_num,by simp;omega,HN,by simpa using HW2.out,hbl.grown hgr2 hsz (fun g' hg'=>(hown.lt g' hg').1)⟩
        case measure=>simp[intOf];omega
      ·rw[if_neg (fun h=>p2 h.2)]at hx
       have HN:Hid (pctL s=(done++[s[k]])++pctL (s.drop (k+1))):=by
        show _=_;rw[H.out,hdr,hc37,pctL_none hx];simp
       clear hdr H;clear hx;generalize hA:s[k+1]=A at*;generalize hB:s[k+2]=B at*;generalize hX:s[k]=X at*;go_wp2_with(first|(go_at_call 260;refine(ch _ _).mono ?_;rintro e w1 ⟨rfl,rfl⟩)|(at_builtin;refine wpList_append_vals e_byte _ rfl _ _ rfl w.heap.size _ _ _ rfl hown _ _ _ rfl rfl (fun u hu=>by simp only[List.mem_cons,List.not_mem_nil,or_false]at hu;rcases hu with rfl;rfl) (by simp;omega) (by simp;omega) hsz ?_));intro v' w2 hown2 hgr _;go_wp2_with fail;go_roundw
       case rel=>exact⟨k+1,done++[X],by omega,by go_num,by simp;omega,HN,by rw[←byts_snoc];simpa[hci]using hown2,hbl.grown hgr hsz (fun g' hg'=>(hown.lt g' hg').1)⟩
       case measure=>simp[intOf];omega
     ·rw[if_neg (fun h=>p1 h.1)]at hx
      have HN:Hid (pctL s=(done++[s[k]])++pctL (s.drop (k+1))):=by
       show _=_;rw[H.out,hdr,hc37,pctL_none hx];simp
      clear hdr H;clear hx;generalize hA:s[k+1]=A at*;generalize hX:s[k]=X at*;go_wp2_with(first|(go_at_call 260;refine(ch _ _).mono ?_;rintro e w1 ⟨rfl,rfl⟩)|(at_builtin;refine wpList_append_vals e_byte _ rfl _ _ rfl w.heap.size _ _ _ rfl hown _ _ _ rfl rfl (fun u hu=>by simp only[List.mem_cons,List.not_mem_nil,or_false]at hu;rcases hu with rfl;rfl) (by simp;omega) (by simp;omega) hsz ?_));intro v' w2 hown2 hgr _;go_wp2_with fail;go_roundw
      case rel=>exact⟨k+1,done++[X],by omega,by go_num,by simp;omega,HN,by rw[←byts_snoc];simpa[hci]using hown2,hbl.grown hgr hsz (fun g' hg'=>(hown.lt g' hg').1)⟩
      case measure=>simp[intOf];omega
    ·have hx:hx2 (s.drop (k+1))=none:=hx2_short (by simp;omega)
     have HN:Hid (pctL s=(done++[s[k]])++pctL (s.drop (k+1))):=by
      show _=_;rw[H.out,hdr,hc37,pctL_none hx];simp
     clear hdr H;generalize hX:s[k]=X at*;go_wp2_with(first|(go_at_call 260;refine(ch _ _).mono ?_;rintro e w1 ⟨rfl,rfl⟩)|(at_builtin;refine wpList_append_vals e_byte _ rfl _ _ rfl w.heap.size _ _ _ rfl hown _ _ _ rfl rfl (fun u hu=>by simp only[List.mem_cons,List.not_mem_nil,or_false]at hu;rcases hu with rfl;rfl) (by simp;omega) (by simp;omega) hsz ?_));intro v' w2 hown2 hgr _;go_wp2_with fail;go_roundw
     case rel=>exact⟨k+1,done++[X],by omega,by go_num,by simp;omega,HN,by rw[←byts_snoc];simpa[hci]using hown2,hbl.grown hgr hsz (fun g' hg'=>(hown.lt g' hg').1)⟩
     case measure=>simp[intOf];omega
   ·have hc37:s[k]≠37:=fun h=>hc (by rw[h];rfl)
    have hci:¬(s[k].toNat:Int)=37:=by omega
    have hcb:((s[k].toNat:Int)==37)=false:=by rw[beq_eq_false_iff_ne];exact hci
    have HN:Hid (pctL s=(done++[s[k]])++pctL (s.drop (k+1))):=by
     show _=_;rw[H.out,hdr,pctL_miss hc37];simp
    clear hdr H;generalize hX:s[k]=X at*;clear hc37;go_wp2_with(first|(go_at_call 260;refine(ch _ _).mono ?_;rintro e w1 ⟨rfl,rfl⟩)|(at_builtin;refine wpList_append_vals e_byte _ rfl _ _ rfl w.heap.size _ _ _ rfl hown _ _ _ rfl rfl (fun u hu=>by simp only[List.mem_cons,List.not_mem_nil,or_false]at hu;rcases hu with rfl;rfl) (by simp;omega) (by simp;omega) hsz ?_));intro v' w2 hown2 hgr _;go_wp2_with fail;go_roundw
    case rel=>exact⟨k+1,done++[X],by omega,by go_num,by simp;omega,HN,by rw[←byts_snoc];simpa using hown2,hbl.grown hgr hsz (fun g' hg'=>(hown.lt g' hg').1)⟩
    case measure=>simp[intOf];omega
  ·obtain rfl:k=s.length:=by omega
   have HE:Hid (pctL s=done):=by
    show _=_;rw[H.out,List.drop_length,pctL_nil,List.append_nil]
   have hcv:=convert_bytes_own (P:=Tryz.prog) (src:=61) (dst:=9) (e:=5) Tryz.underlying61 Tryz.underlying5 Tryz.underlying9 hown;go_wp2_with fail;go_ret;exact⟨by rw[HE.out];rfl,hbl⟩
attribute [local go_sem] few_append
set_option maxRecDepth 100000 in
theorem rlabel_any (s:List UInt8) (w:World) (hs:s.length≤4100):
 Calls Tryz.prog 213 #[.string ⟨s.toArray⟩] w fun e w'=>e= .returned (encV (labelL s))∧Below w.heap.size w w':=by
 have csg:Calls Tryz.prog 261 #[.string ⟨s.toArray⟩] w fun e w'=>∃v,e= .returned (.tuple #[v, .bool (Lib.validD s)])∧Below w.heap.size w w':=by
  refine(signs_any s w (by omega)).mono ?_;rintro e w' ⟨⟨hv,v,he,_⟩|⟨hv,he⟩,hbl⟩
  ·exact⟨v,by rw[hv];exact he,hbl⟩
  ·exact⟨_,by rw[hv];exact he,hbl⟩
 by_cases h0:s=[]∨Lib.validD s=false
 ·have hL:labelL s=([],5):=by unfold labelL;rw[if_pos h0]
  rw[hL];clear hL;rcases h0 with h0|h0
  ·have h1:s.isEmpty=true:=by rw[h0];rfl
   have h2:(s==[])=true:=by rw[h0];rfl
   clear h0;go_enter Tryz.func213,Tryz.ntmps213;go_wp2_with(go_at_call 261;refine csg.mono ?_;rintro e w1 ⟨v,rfl,hb1⟩)
   all_goals
    go_ret2;exact⟨rfl,by assumption⟩
  ·rw[h0]at csg
   cases hse:s.isEmpty
   all_goals
    clear h0;go_enter Tryz.func213,Tryz.ntmps213;go_wp2_with(go_at_call 261;refine csg.mono ?_;rintro e w1 ⟨v,rfl,hb1⟩)
    all_goals
     go_ret2;exact⟨rfl,by assumption⟩
 ·have h1:s≠[]:=fun h=>h0 (.inl h)
  have hv:Lib.validD s=true:=by cases h:Lib.validD s with|true=>rfl|false=>exact absurd (.inr h) h0
  have hL:=labelL_else h1 hv;have hse:s.isEmpty=false:=by cases s with|nil=>exact absurd rfl h1|cons a l=>rfl
  rw[hv]at csg;have hul:(lowerL s).length=s.length:=by simp[lowerL]
  have cl:=lift_below w (fun W=>rlower_any s W (by omega));clear hv h0 h1;generalize lowerL s=u at*;have cpx:∀(x:List UInt8),x.length≤17000→∀W,Below w.heap.size w W→Calls Tryz.prog 262 #[.string ⟨x.toArray⟩] W fun e W'=>e= .returned (.bool (plainL x))∧Below w.heap.size w W':=fun x hx=>lift_same w (fun W=>rplain_any x W (by omega))
  have cf:=lift_same w (fun W=>few_any u W (by omega));have hfl:fewB.length=4:=rfl
  cases hp:plainL u with
  |false=>
   rw[if_pos hp]at hL;have ce:=lift_below w (fun W=>rencode_any u W (.inl (by omega)) (by omega));have hll:=encodeL_len (s:=u) (by omega);obtain⟨r,hr⟩:∃r,encodeL u=r:=⟨_,rfl⟩;rw[hr]at ce hL hll;obtain⟨l,e⟩:=r;simp only[encV]at ce hL hll⊢;clear hr;have hLH:=Lib.hid hL;clear hL;by_cases he:e=0
   ·subst he
    go_enter Tryz.func213,Tryz.ntmps213;go_wp2_with(first|(go_at_call 261;refine csg.mono ?_;rintro e w1 ⟨v,rfl,hb1⟩)|(go_at_call 112;refine(cl _ (by assumption)).mono ?_;rintro e w1 ⟨rfl,hb1⟩)|(go_at_call 262;refine(cpx _ (by omega) _ (by assumption)).mono ?_;rintro e w1 ⟨rfl,hb1⟩)|(go_at_call 263;refine(ce _ (by assumption)).mono ?_;rintro e w1 ⟨rfl,hb1⟩))
    all_goals
     go_ret2;refine⟨?_,by assumption⟩;rw[hLH.out,if_neg (by simp)]
     first
      |(rw[finL_big (by rw[List.length_append];omega)];rfl)
      |(rw[finL_ok (by rw[List.length_append];omega)];rfl)
   ·have hez:¬((e:Int)=0):=by omega
    go_enter Tryz.func213,Tryz.ntmps213;go_wp2_with(first|(go_at_call 261;refine csg.mono ?_;rintro e w1 ⟨v,rfl,hb1⟩)|(go_at_call 112;refine(cl _ (by assumption)).mono ?_;rintro e w1 ⟨rfl,hb1⟩)|(go_at_call 262;refine(cpx _ (by omega) _ (by assumption)).mono ?_;rintro e w1 ⟨rfl,hb1⟩)|(go_at_call 263;refine(ce _ (by assumption)).mono ?_;rintro e w1 ⟨rfl,hb1⟩))
    all_goals
     go_ret2;refine⟨?_,by assumption⟩;rw[hLH.out,if_pos he];rfl
  |true=>
   rw[if_neg (by rw[hp];simp)]at hL
   cases hf:fewL u with
   |false=>
    rw[hf]at hL cf;have hLH:=Lib.hid hL;clear hL hf;go_enter Tryz.func213,Tryz.ntmps213;go_wp2_with(first|(go_at_call 261;refine csg.mono ?_;rintro e w1 ⟨v,rfl,hb1⟩)|(go_at_call 112;refine(cl _ (by assumption)).mono ?_;rintro e w1 ⟨rfl,hb1⟩)|(go_at_call 262;refine(cpx _ (by omega) _ (by assumption)).mono ?_;rintro e w1 ⟨rfl,hb1⟩)|(go_at_call 264;refine(cf _ (by assumption)).mono ?_;rintro e w1 ⟨rfl,hb1⟩))
    all_goals
     go_ret2;refine⟨?_,by assumption⟩;rw[hLH.out,if_neg (by simp)]
     first
      |(rw[finL_big (by omega)];rfl)
      |(rw[finL_ok (by omega)];rfl)
   |true=>
    rw[hf]at hL cf;rw[if_pos rfl]at hL;have hfw:=Lib.hid (few_whole hf);have hu4:4≤u.length:=by have:=congrArg List.length hfw.out;rw[List.length_append]at this;omega
    have hdl:=decode_len (u.drop 4);have h4:(u.drop 4).length≤4100:=by simp;omega
    have cd:=lift_below w (fun W=>rdecode_any (u.drop 4) W (by omega));have htk:List.take (u.length-4) (List.drop 4 u)=u.drop 4:=List.take_of_length_le (by simp);generalize hb:u.drop 4=bare at*;obtain⟨r,hr⟩:∃r,decode bare=r:=⟨_,rfl⟩;rw[hr]at cd hL hdl;obtain⟨t,e⟩:=r;simp only[resV]at cd hL hdl;have htl:t.length≤17000:=by omega
    have hul2:u.length≤4100:=by omega
    clear hr hf hul;by_cases he:e=0
    ·subst he
     cases hpt:plainL t with
     |true=>
      have hLH:Hid (labelL s=([],5)):=by show _=_;rw[hL,if_pos (.inr hpt)]
      clear hL;go_enter Tryz.func213,Tryz.ntmps213;go_wp2_with(first|(go_at_call 261;refine csg.mono ?_;rintro e w1 ⟨v,rfl,hb1⟩)|(go_at_call 112;refine(cl _ (by assumption)).mono ?_;rintro e w1 ⟨rfl,hb1⟩)|(go_at_call 262;refine(cpx _ (by omega) _ (by assumption)).mono ?_;rintro e w1 ⟨rfl,hb1⟩)|(go_at_call 264;refine(cf _ (by assumption)).mono ?_;rintro e w1 ⟨rfl,hb1⟩)|(go_at_call 265;refine(cd _ (by assumption)).mono ?_;rintro e w1 ⟨rfl,hb1⟩))
      all_goals
       go_ret2;refine⟨?_,by assumption⟩;rw[hLH.out];rfl
     |false=>
      rw[if_neg (by rw[hpt];simp)]at hL;have ce:=lift_below w (fun W=>rencode_any t W (.inl (by omega)) (by omega));have hll:=encodeL_len (s:=t) (by omega);obtain⟨r,hr⟩:∃r,encodeL t=r:=⟨_,rfl⟩;rw[hr]at ce hL hll;obtain⟨l,e⟩:=r;simp only[encV]at ce hL hll⊢;clear hr;by_cases hlb:l=bare
      ·have hLH:Hid (labelL s=finL u):=by show _=_;rw[hL,if_neg (by rw[hlb];simp)]
       clear hL;subst hlb;have hfwb:=hfw;go_enter Tryz.func213,Tryz.ntmps213;go_wp2_with(first|(go_at_call 261;refine csg.mono ?_;rintro e w1 ⟨v,rfl,hb1⟩)|(go_at_call 112;refine(cl _ (by assumption)).mono ?_;rintro e w1 ⟨rfl,hb1⟩)|(go_at_call 262;refine(cpx _ (by omega) _ (by assumption)).mono ?_;rintro e w1 ⟨rfl,hb1⟩)|(go_at_call 264;refine(cf _ (by assumption)).mono ?_;rintro e w1 ⟨rfl,hb1⟩)|(go_at_call 265;refine(cd _ (by assumption)).mono ?_;rintro e w1 ⟨rfl,hb1⟩)|(go_at_call 263;refine(ce _ (by assumption)).mono ?_;rintro e w1 ⟨rfl,hb1⟩))
       all_goals
        go_ret2;refine⟨?_,by assumption⟩;rw[hLH.out]
        first
         |(rw[finL_big (by omega)];rfl)
         |(rw[finL_ok (by omega)];rfl)
      ·have hLH:Hid (labelL s=([],5)):=by show _=_;rw[hL,if_pos hlb]
       have hcmp:(l==bare)=false:=by rw[beq_eq_false_iff_ne];exact hlb
       clear hL hlb;go_enter Tryz.func213,Tryz.ntmps213;go_wp2_with(first|(go_at_call 261;refine csg.mono ?_;rintro e w1 ⟨v,rfl,hb1⟩)|(go_at_call 112;refine(cl _ (by assumption)).mono ?_;rintro e w1 ⟨rfl,hb1⟩)|(go_at_call 262;refine(cpx _ (by omega) _ (by assumption)).mono ?_;rintro e w1 ⟨rfl,hb1⟩)|(go_at_call 264;refine(cf _ (by assumption)).mono ?_;rintro e w1 ⟨rfl,hb1⟩)|(go_at_call 265;refine(cd _ (by assumption)).mono ?_;rintro e w1 ⟨rfl,hb1⟩)|(go_at_call 263;refine(ce _ (by assumption)).mono ?_;rintro e w1 ⟨rfl,hb1⟩))
       all_goals
        go_ret2;refine⟨?_,by assumption⟩;rw[hLH.out];rfl
    ·have hez:¬((e:Int)=0):=by omega
     have hLH:Hid (labelL s=([],5)):=by show _=_;rw[hL,if_pos (.inl he)]
     clear hL;go_enter Tryz.func213,Tryz.ntmps213;go_wp2_with(first|(go_at_call 261;refine csg.mono ?_;rintro e w1 ⟨v,rfl,hb1⟩)|(go_at_call 112;refine(cl _ (by assumption)).mono ?_;rintro e w1 ⟨rfl,hb1⟩)|(go_at_call 262;refine(cpx _ (by omega) _ (by assumption)).mono ?_;rintro e w1 ⟨rfl,hb1⟩)|(go_at_call 264;refine(cf _ (by assumption)).mono ?_;rintro e w1 ⟨rfl,hb1⟩)|(go_at_call 265;refine(cd _ (by assumption)).mono ?_;rintro e w1 ⟨rfl,hb1⟩))
     all_goals
      go_ret2;refine⟨?_,by assumption⟩;rw[hLH.out];rfl
end Go.Proofs.YtlcnknlmdaochaaGreatDoor
