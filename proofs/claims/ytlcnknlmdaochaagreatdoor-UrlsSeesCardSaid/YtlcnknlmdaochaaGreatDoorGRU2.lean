/- The reference's percent.Encode at the sets of layer 6. -/
import Derived.Test.YtlcnknlmdaochaaGreatDoorGRU1
import Derived.Test.YtlcnknlmdaochaaGreatDoorGUrl3
set_option linter.unusedVariables false
set_option linter.unusedSimpArgs false
set_option maxHeartbeats 16000000
namespace Go.Proofs.YtlcnknlmdaochaaGreatDoor
open Go.RowKit
set_option maxRecDepth 100000 in
theorem ramong (s:List UInt8) (c:UInt8) (w:World) (hs:s.length≤4000000000):
 Calls Tryz.prog 257 #[.string ⟨s.toArray⟩, .int .u8 (c.toNat:Int)] w fun r w'=>r= .returned (.bool (s.contains c))∧w=w':=by
 obtain⟨B,hB⟩:∃B,s.contains c=B:=⟨_,rfl⟩
 have HB:=Lib.hid hB
 rw[hB]
 clear hB
 go_enter Tryz.func257,Tryz.ntmps257
 go_wp2_with fail
 go_loop [5] (fun i=>∃k:Nat,k≤s.length∧i= .int .i64 k∧Hid (c∉s.take k)) (fun i=>s.length-(intOf i).toNat)
 case atStart=>exact⟨0,Nat.zero_le _,rfl,Lib.hid (by simp)⟩
 case round=>
  obtain⟨k,hk,rfl,HC⟩:=hrel;by_cases hlt:k<s.length
  ·by_cases he:s[k]=c
   ·have HE:Hid (B=true):=by
     show B=true;rw[←HB.out,List.contains_iff_mem,←he];exact List.getElem_mem hlt
    clear HC HB;have hq:((s[k].toNat:Int)==(c.toNat:Int))=true:=by rw[he];simp
    generalize hx:s[k]=x at*;subst he;go_wp2_with fail;go_ret;exact⟨by rw[HE.out];rfl,rfl⟩
   ·have HC2:Hid (c∉s.take (k+1)):=fun hc=>by
     rw[List.take_succ_eq_append_getElem hlt]at hc;rcases List.mem_append.1 hc with hc|hc
     ·exact HC.out hc
     ·rw[List.mem_singleton]at hc;exact he hc.symm
    have hq:¬(s[k].toNat:Int)=(c.toNat:Int):=fun e=>he (UInt8.toNat_inj.1 (by omega))
    have hqb:((s[k].toNat:Int)==(c.toNat:Int))=false:=beq_eq_false_iff_ne.2 hq;clear HC;generalize hx:s[k]=x at*;go_wp2_with fail;go_round
    case rel=>exact⟨k+1,by omega,by go_num,HC2⟩
    case measure=>simp[intOf];omega
  ·obtain rfl:k=s.length:=by omega
   have HE:Hid (B=false):=by
    show B=false;have:=HC.out;rw[List.take_length]at this;rw[←HB.out,←Bool.not_eq_true,List.contains_iff_mem];exact this
   clear HC HB;go_wp2_with fail;go_ret;exact⟨by rw[HE.out];rfl,rfl⟩
theorem set5:∀c:Fin 256,(setS 5).contains (UInt8.ofNat c.val)=([32,34,35,60,62,63,94,123,125,96,47,58,59,61,64,91,92,93,124]:List UInt8).contains (UInt8.ofNat c.val):=by decide+kernel
set_option maxRecDepth 100000 in
theorem rhas (n:Nat) (h2:2≤n) (h5:n≤5) (c:UInt8) (w:World):
 Calls Tryz.prog 209 #[.int .u8 (n:Int), .int .u8 (c.toNat:Int)] w fun r w'=>r= .returned (.bool (encB n c))∧w=w':=by
 have hm:encB n c=(decide (c.toNat<32)||(decide (126<c.toNat)||(setS n).contains c)):=rfl
 have c2:∀W,Calls Tryz.prog 257 #[.string ⟨#[32,34,60,62,96]⟩, .int .u8 (c.toNat:Int)] W fun r w'=>r= .returned (.bool ((setS 2).contains c))∧W=w':=fun W=>ramong [32,34,60,62,96] c W (by simp)
 have c3:∀W,Calls Tryz.prog 257 #[.string ⟨#[32,34,35,60,62,39]⟩, .int .u8 (c.toNat:Int)] W fun r w'=>r= .returned (.bool ((setS 3).contains c))∧W=w':=fun W=>ramong [32,34,35,60,62,39] c W (by simp)
 have c4:∀W,Calls Tryz.prog 257 #[.string ⟨#[32,34,35,60,62,63,94,123,125,96]⟩, .int .u8 (c.toNat:Int)] W fun r w'=>r= .returned (.bool ((setS 4).contains c))∧W=w':=fun W=>ramong [32,34,35,60,62,63,94,123,125,96] c W (by simp)
 have c5:∀W,Calls Tryz.prog 257 #[.string ⟨#[32,34,35,60,62,63,94,123,125,96,47,58,59,61,64,91,92,93,124]⟩, .int .u8 (c.toNat:Int)] W fun r w'=>r= .returned (.bool ((setS 5).contains c))∧W=w':=fun W=>by
  have:=set5 ⟨c.toNat,c.toNat_lt⟩;simp only[UInt8.ofNat_toNat]at this;rw[this];exact ramong [32,34,35,60,62,63,94,123,125,96,47,58,59,61,64,91,92,93,124] c W (by simp)
 by_cases h1:c.toNat<32
 ·rw[decide_eq_true h1,Bool.true_or]at hm
  have h1i:(c.toNat:Int)<32:=by omega
  have HM:=Lib.hid hm;clear hm c2 c3 c4 c5;obtain rfl|rfl|rfl|rfl:n=2∨n=3∨n=4∨n=5:=by omega
  all_goals
   go_enter Tryz.func209,Tryz.ntmps209;go_wp2_with fail;go_ret;exact⟨by rw[HM.out];rfl,rfl⟩
 ·rw[decide_eq_false h1,Bool.false_or]at hm
  have h1i:¬(c.toNat:Int)<32:=by omega
  by_cases h3:126<c.toNat
  ·rw[decide_eq_true h3,Bool.true_or]at hm
   have h3i:126<(c.toNat:Int):=by omega
   have HM:=Lib.hid hm;clear hm c2 c3 c4 c5;obtain rfl|rfl|rfl|rfl:n=2∨n=3∨n=4∨n=5:=by omega
   all_goals
    go_enter Tryz.func209,Tryz.ntmps209;go_wp2_with fail;go_ret;exact⟨by rw[HM.out];rfl,rfl⟩
  ·rw[decide_eq_false h3,Bool.false_or]at hm
   have h3i:¬126<(c.toNat:Int):=by omega
   have HM:=Lib.hid hm;clear hm;obtain rfl|rfl|rfl|rfl:n=2∨n=3∨n=4∨n=5:=by omega
   ·generalize (setS 2).contains c=B at*
    go_enter Tryz.func209,Tryz.ntmps209;go_wp2_with(go_at_call 257;refine(c2 _).mono ?_;rintro e w1 ⟨rfl,rfl⟩);go_ret;exact⟨by rw[HM.out];rfl,rfl⟩
   ·generalize (setS 3).contains c=B at*
    go_enter Tryz.func209,Tryz.ntmps209;go_wp2_with(go_at_call 257;refine(c3 _).mono ?_;rintro e w1 ⟨rfl,rfl⟩);go_ret;exact⟨by rw[HM.out];rfl,rfl⟩
   ·generalize (setS 4).contains c=B at*
    go_enter Tryz.func209,Tryz.ntmps209;go_wp2_with(go_at_call 257;refine(c4 _).mono ?_;rintro e w1 ⟨rfl,rfl⟩);go_ret;exact⟨by rw[HM.out];rfl,rfl⟩
   ·generalize (setS 5).contains c=B at*
    go_enter Tryz.func209,Tryz.ntmps209;go_wp2_with(go_at_call 257;refine(c5 _).mono ?_;rintro e w1 ⟨rfl,rfl⟩);go_ret;exact⟨by rw[HM.out];rfl,rfl⟩
theorem step_append_row {P:Program} {t e:TypeId} {z:Value} {bytes:Nat} (E:Elem1 P t e z bytes) {w:World} {ops:Array Oper} {o:Oper} {a:Act} {K:Act→World→Prop} {Q:Exit→Act→World→Prop} {F:Prop} (hgd:o.guard=none) (s x:Operand)
 (ho:o.op= .call {callee:= .builtin .append,args:= #[s,x],argTypes:= #[t,t]})
 (base:Nat) (v:Value) (n:Nat) (xs:List Value) (hs:a.eval s=v) (hown:w.ownsRow base e 1 v n xs)
 (g0:Nat) (news:List Value) (hx:a.eval x= .slice (some ⟨g0,0,none⟩) news.length news.length) (hpos:0<news.length) (hc:∀(j:Nat) (u:Value),news[j]?=some u→w.cell? ⟨g0,j,none⟩=some u) (h1:∀u∈news,u.oneCell'=true)
 (h63:n+news.length≤140737488355328) (hbytes:(n+news.length)*bytes≤140737488355328) (hbase:base≤w.heap.size)
 (h:∀v' w',w'.ownsRow base e 1 v' (n+news.length) (xs++news)→w.grownBy w' v.ownBlock→K (a.put o.dst v') w'):
 if Region.wanted o (yielded ops a.tmps)=true then Oper.wp P o a w K Q else F:=by
 obtain⟨i,hi,hz,hsize,hby⟩:=E.hi
 refine step_append_lies w hgd s x t ho base e i z 1 bytes E.ht hi hz hsize hby E.hz (by decide) v n xs hs hown ⟨g0,0,none⟩ news.length news.length news hx (by simp) ?_ h1 hpos (by unfold maxLen;omega) hbytes hbase _ rfl ?_
 ·intro j u hj
  rw[Addr.add_lit,Nat.zero_add];exact hc j u hj
 ·intro g cap w' h2 h3 _ _
  exact h _ w' h2 h3
theorem three_cells (W:World) (e:TypeId) (a b c:Value):∀(j:Nat) (u:Value),[a,b,c][j]?=some u→(W.alloc (.cells #[a,b,c] e)).cell? ⟨W.heap.size,j,none⟩=some u:=fun j u hj=>by
 rw[World.cell?_alloc_at _ _ _ _ rfl];simpa using hj
theorem byts_three (l:List UInt8) (a b c:UInt8):byts l++[.int .u8 (a.toNat:Int), .int .u8 (b.toNat:Int), .int .u8 (c.toNat:Int)]=byts (l++[a,b,c]):=by unfold byts;simp
set_option maxRecDepth 100000 in
theorem rencode_p (n:Nat) (h2:2≤n) (h5:n≤5) (s:List UInt8) (w:World) (hs:s.length≤4000000000):
 Calls Tryz.prog 156 #[.string ⟨s.toArray⟩, .int .u8 (n:Int)] w fun e w'=>e= .returned (.string ⟨(encP n s).toArray⟩)∧Below w.heap.size w w':=by
 go_enter Tryz.func156,Tryz.ntmps156
 go_wp2_with fail
 go_loopw [5,7] (fun v i wr=>∃(k:Nat) (done:List UInt8),k≤s.length∧i= .int .i64 k∧done.length≤3*k∧Hid (encP n (s.take k)=done)∧wr.ownsRow w.heap.size 5 1 v done.length (byts done)∧Below w.heap.size w wr) (fun _ i _=>s.length-(intOf i).toNat)
 case atStart=>exact⟨0,[],Nat.zero_le _,rfl,Nat.le_refl _,Lib.hid (by simp[encP]),World.ownsRow_nil _ _ _ _,Below.refl _ _⟩
 case round=>
  obtain⟨k,done,hk,rfl,hdk,H,hown,hbl⟩:=hrel;have hsz:=hbl.size;by_cases hlt:k<s.length
  ·have ch:=rhas n h2 h5 s[k] wr
   have HS:Hid (encP n (s.take (k+1))=done++encC n s[k]):=by show _=_;rw[encP_snoc hlt,H.out]
   generalize hx:s[k]=c at*;have h256:=c.toNat_lt;clear H;by_cases he:encB n c=true
   ·rw[he]at ch
    have HC:Hid (encC n c=[37,upB (c.toNat/16),upB (c.toNat % 16)]):=by show _=_;unfold encC;rw[if_pos he]
    have d1:0≤(c.toNat:Int)/16∧(c.toNat:Int)/16<16:=by omega
    have d2:0≤(c.toNat:Int) % 16∧(c.toNat:Int) % 16<16:=by omega
    have wq:IntKind.u8.wrap ((c.toNat:Int)/16)=(c.toNat:Int)/16:=IntWalk.u8_in _ (by omega);have wr':(c.toNat:Int).tmod 16=(c.toNat:Int) % 16:=Int.tmod_eq_emod_of_nonneg (by omega);have i1:∀h,([48,49,50,51,52,53,54,55,56,57,65,66,67,68,69,70]:List UInt8)[((c.toNat:Int)/16).toNat]'h=upB (c.toNat/16):=fun h=>by
     rw[←dig_at ⟨c.toNat/16,by omega⟩ (by show c.toNat/16<16;omega)];congr 1
    have i2:∀h,([48,49,50,51,52,53,54,55,56,57,65,66,67,68,69,70]:List UInt8)[((c.toNat:Int) % 16).toNat]'h=upB (c.toNat % 16):=fun h=>by
     rw[←dig_at ⟨c.toNat % 16,by omega⟩ (by show c.toNat % 16<16;omega)];congr 1
    generalize upB (c.toNat/16)=u1 at*;generalize upB (c.toNat % 16)=u2 at*;obtain⟨V,rfl⟩:∃V,V=wr:=⟨wr,rfl⟩;go_wp2_with(go_at_call 209;refine ch.mono ?_;rintro e w1 ⟨rfl,rfl⟩);go_region_law (refine step_append_row e_byte (by rfl) (.tmp 19) (.tmp 32) (by rfl) w.heap.size _ done.length (byts done) (by rfl) (by first|exact hown.alloc _|exact(hown.alloc _).drew|exact hown.drew.alloc _) V.heap.size [.int .u8 37, .int .u8 (u1.toNat:Int), .int .u8 (u2.toNat:Int)] (by rfl) (by simp) (three_cells V _ _ _ _) (by simp[Value.oneCell']) (by simp;omega) (by simp;omega) (by simp;omega) ?_;intro v' w2 hown2 hgr)
    all_goals
     have hgr2:V.grownBy w2 _:=grown_trans2 (grown_drew (World.grownBy_alloc V _ _)) hgr;have HW2:=Lib.hid hown2;clear hown2 hgr;go_wp2_with fail;go_roundw
     case rel=>exact⟨k+1,done++[37,u1,u2],by omega,by go_num,by simp;omega,Lib.hid (by rw[HS.out,HC.out]),by rw[←byts_three];simpa using HW2.out,hbl.grown hgr2 hsz (fun g' hg'=>(hown.lt g' hg').1)⟩
     case measure=>simp[intOf];omega
   ·have he:encB n c=false:=by simpa using he
    rw[he]at ch;have HC:Hid (encC n c=[c]):=by show _=_;unfold encC;rw[if_neg (by rw[he];simp)]
    go_wp2_with(first|(go_at_call 209;refine ch.mono ?_;rintro e w1 ⟨rfl,rfl⟩)|(at_builtin;refine wpList_append_vals e_byte _ rfl _ _ rfl w.heap.size _ _ _ rfl hown _ _ _ rfl rfl (fun u hu=>by simp only[List.mem_cons,List.not_mem_nil,or_false]at hu;rcases hu with rfl;rfl) (by simp;omega) (by simp;omega) hsz ?_));intro v' w2 hown2 hgr _;go_wp2_with fail;go_roundw
    case rel=>exact⟨k+1,done++[c],by omega,by go_num,by simp;omega,Lib.hid (by rw[HS.out,HC.out]),by rw[←byts_snoc];simpa using hown2,hbl.grown hgr hsz (fun g' hg'=>(hown.lt g' hg').1)⟩
    case measure=>simp[intOf];omega
  ·obtain rfl:k=s.length:=by omega
   have HE:Hid (encP n s=done):=by
    show _=_;rw[←H.out,List.take_length]
   have hcv:=convert_bytes_own (P:=Tryz.prog) (src:=61) (dst:=9) (e:=5) Tryz.underlying61 Tryz.underlying5 Tryz.underlying9 hown;clear H;go_wp2_with fail;go_ret;exact⟨by rw[HE.out];rfl,hbl⟩
set_option maxRecDepth 100000 in
theorem rparts_u (s:List UInt8) (w:World) (hs:s.length≤4000000000):
 Calls Tryz.prog 159 #[.string ⟨s.toArray⟩] w fun e w'=>∃v,e= .returned v∧w'.ownsRow w.heap.size 9 1 v (slashP s).length (strs (slashP s))∧Below w.heap.size w w':=by
 go_enter Tryz.func159,Tryz.ntmps159
 go_wp2_with fail
 go_loopw [3,4,5] (fun v fv i wr=>∃(k f:Nat) (done:List (List UInt8)),k≤s.length+1∧i= .int .i64 k∧fv= .int .i64 f∧Hid (PartsS s done f k)∧f≤k∧done.length≤k∧wr.ownsRow w.heap.size 9 1 v done.length (strs done)∧Below w.heap.size w wr) (fun _ _ i _=>s.length+1-(intOf i).toNat)
 case atStart=>exact⟨0,0,[],Nat.zero_le _,rfl,rfl,partsS_start s,Nat.le_refl _,Nat.le_refl _,World.ownsRow_nil _ _ _ _,Below.refl _ _⟩
 case round=>
  obtain⟨k,f,done,hk,rfl,rfl,H,hfk,hdk,hown,hbl⟩:=hrel;have hsz:=hbl.size;by_cases hlt:k<s.length
  ·have hc3:((k:Int)==(s.length:Int))=false:=by rw[beq_eq_false_iff_ne];omega
   have hc4:¬k=s.length:=by omega
   have cl:=rslash s[k] wr
   cases hc:slashB s[k]with
   |true=>
    have HN:=Lib.hid (partsS_hit H.out hlt hc);have hcl:=cur_len s f k;have hce:List.take (k-f) (List.drop f s)=cur s f k:=rfl;rw[hc]at cl;generalize cur s f k=X at*;generalize hx:s[k]=c at*;clear hc;go_wp2_with(first|(go_at_call 114;refine cl.mono ?_;rintro e w1 ⟨rfl,rfl⟩)|(at_builtin;refine wpList_append_vals e_str _ rfl _ _ rfl w.heap.size _ _ _ rfl hown _ _ _ rfl rfl (fun u hu=>by simp only[List.mem_cons,List.not_mem_nil,or_false]at hu;rcases hu with rfl;rfl) (by simp;omega) (by simp;omega) hsz ?_));intro v' w2 hown2 hgr _;go_wp2_with fail;go_roundw
    case rel=>exact⟨k+1,k+1,_,by omega,by go_num,by go_num,HN,Nat.le_refl _,by simp;omega,by simpa using hown2,hbl.grown hgr hsz (fun g' hg'=>(hown.lt g' hg').1)⟩
    case measure=>simp[intOf];try omega
   |false=>
    have HN:=Lib.hid (partsS_miss H.out hlt hc);rw[hc]at cl;generalize hx:s[k]=c at*;clear hc;go_wp2_with(go_at_call 114;refine cl.mono ?_;rintro e w1 ⟨rfl,rfl⟩);go_roundw
    case rel=>exact⟨k+1,f,done,by omega,by go_num,rfl,HN,by omega,by omega,hown,hbl⟩
    case measure=>simp[intOf];omega
  ·by_cases he:k=s.length
   ·subst he
    have HN:=Lib.hid (partsS_last H.out);have hcl:=cur_len s f s.length;have hce:List.take (s.length-f) (List.drop f s)=cur s f s.length:=rfl;generalize cur s f s.length=X at*;go_wp2_with(at_builtin;refine wpList_append_vals e_str _ rfl _ _ rfl w.heap.size _ _ _ rfl hown _ _ _ rfl rfl (fun u hu=>by simp only[List.mem_cons,List.not_mem_nil,or_false]at hu;rcases hu with rfl;rfl) (by simp;omega) (by simp;omega) hsz ?_);intro v' w2 hown2 hgr _;go_wp2_with fail;go_roundw
    case rel=>exact⟨s.length+1,s.length+1,_,by omega,by go_num,by go_num,HN,Nat.le_refl _,by simp;omega,by simpa using hown2,hbl.grown hgr hsz (fun g' hg'=>(hown.lt g' hg').1)⟩
    case measure=>simp[intOf];try omega
   ·obtain rfl:k=s.length+1:=by omega
    have HD:=Lib.hid (partsS_done H.out);go_wp2_with fail;go_ret;exact⟨_,rfl,by rw[HD.out];exact hown,hbl⟩
theorem pts_test {r:List UInt8} (h:¬3≤r.length):¬pctE r:=by
 rintro⟨t,e|e⟩<;>rw[e]at h<;>simp at h
set_option maxRecDepth 100000 in
theorem rpoints_u (s:List UInt8) (w:World) (hs:s.length≤4000000000):
 Calls Tryz.prog 216 #[.string ⟨s.toArray⟩] w fun e w'=>e= .returned (.int .i64 (ptsN s:Int))∧Below w.heap.size w w':=by
 obtain⟨N,hN⟩:∃N,ptsN s=N:=⟨_,rfl⟩
 have HN:=Lib.hid hN
 rw[hN]
 clear hN
 go_enter Tryz.func216,Tryz.ntmps216
 go_wp2_with fail
 go_loopw [0,3] (fun sv nv wr=>∃(r:List UInt8) (n:Nat),sv= .string ⟨r.toArray⟩∧nv= .int .i64 n∧n+r.length≤s.length∧Hid (PtsAt s r n)∧Below w.heap.size w wr) (fun sv _ _=>match sv with| .string b=>b.size|_=>0)
 case atStart=>exact⟨s,0,rfl,rfl,by omega,PtsAt.start s,Below.refl _ _⟩
 case round=>
  obtain⟨r,n,rfl,rfl,hl,HP,hbl⟩:=hrel
  cases r with
  |nil=>
   have HE:Hid (N=if 2<n then 0 else n):=by show _=_;rw[←HN.out];exact HP.out.over
   clear HP;by_cases h2:2<n
   ·have h2i:2<(n:Int):=by omega
    have HF:Hid (N=0):=by show _=_;rw[HE.out,if_pos h2]
    clear HE;go_wp2_with fail;go_ret;exact⟨by rw[HF.out];rfl,hbl⟩
   ·have h2i:¬2<(n:Int):=by omega
    have HF:Hid (N=n):=by show _=_;rw[HE.out,if_neg h2]
    clear HE;go_wp2_with fail;go_ret;exact⟨by rw[HF.out];rfl,hbl⟩
  |cons c r=>
   simp only[List.length_cons]at hl;have hpos:0<(c::r).length:=by simp
   by_cases h46:c=46
   ·subst h46
    have HX:=Lib.hid HP.out.point;clear HP;go_wp2_with fail;go_roundw
    case rel=>exact⟨r,n+1,by simp,by go_num,by omega,HX,hbl⟩
    case measure=>exact Nat.lt_succ_self r.length
   ·have hq:((c.toNat:Int)==46)=false:=beq_eq_false_iff_ne.2 (fun e=>h46 (UInt8.toNat_inj.1 (show c.toNat=46 by omega)))
    by_cases h3:3≤(c::r).length
    ·have h3i:(3:Int)≤((c::r).length:Int):=by omega
     have cl:=rlower_any ((c::r).take 3) wr (by simp;omega);have htk:List.take 3 (c::r)=(c::r).take 3:=rfl;by_cases hp:pctE (c::r)
     ·have HX:=Lib.hid (HP.out.pct hp)
      rw[(pctE_iff _).2 hp]at cl;have hdl:((c::r).drop 3).length+3=(c::r).length:=by simp at h3⊢;omega
      clear HP hp;go_wp2_with(go_at_call 112;refine cl.mono ?_;rintro e w1 ⟨rfl,hb1⟩);go_roundw
      case rel=>exact⟨(c::r).drop 3,n+1,by simp;exact List.take_of_length_le (by simp),by go_num,by simp at hdl⊢;omega,HX,hbl.trans (hb1.mono hbl.size)⟩
      case measure=>simp[ByteArray.size];omega
     ·have HE:Hid (N=0):=by show _=_;rw[←HN.out];exact HP.out.bad h46 hp
      have hne:(lowerL ((c::r).take 3)==[37,50,101])=false:=beq_eq_false_iff_ne.2 (fun e=>hp ((pctE_iff _).1 e));clear HP hp;generalize lowerL ((c::r).take 3)=L at*;go_wp2_with(go_at_call 112;refine cl.mono ?_;rintro e w1 ⟨rfl,hb1⟩);go_ret;exact⟨by rw[HE.out];rfl,hbl.trans (hb1.mono hbl.size)⟩
    ·have h3i:¬(3:Int)≤((c::r).length:Int):=by omega
     have HE:Hid (N=0):=by show _=_;rw[←HN.out];exact HP.out.bad h46 (pts_test h3)
     clear HP;go_wp2_with fail;go_ret;exact⟨by rw[HE.out];rfl,hbl⟩
theorem tab_num (c:UInt8):tabB c=(((c.toNat:Int)==9)||(((c.toNat:Int)==10)||((c.toNat:Int)==13))):=by
 have h:∀(n:Nat) (d:UInt8),d.toNat=n→((c.toNat:Int)==(n:Int))=(c==d):=fun n d e=>by
  rw[Bool.eq_iff_iff,beq_iff_eq,beq_iff_eq,←e,←UInt8.toNat_inj];omega
 have h9:=h 9 9 rfl;have h10:=h 10 10 rfl;have h13:=h 13 13 rfl;unfold tabB;rw[←h9,←h10,←h13];rfl
theorem filter_snoc {s:List UInt8} {k:Nat} (h:k<s.length) (p:UInt8→Bool):(s.take (k+1)).filter p=(s.take k).filter p++if p s[k]=true then [s[k]]else []:=by
 rw[List.take_succ_eq_append_getElem h,List.filter_append];congr 1;rw[List.filter_cons,List.filter_nil]
theorem drop_front {s r:List UInt8} (h:s.dropWhile idleB=r.dropWhile idleB):(r=[]→s.dropWhile idleB=[])∧∀c t,r=c::t→(idleB c=true→s.dropWhile idleB=t.dropWhile idleB)∧(idleB c=false→s.dropWhile idleB=c::t):=by
 refine⟨fun e=>by rw[h,e];rfl,fun c t e=>⟨fun hc=> ?_,fun hc=> ?_⟩⟩
 ·rw[h,e,List.dropWhile_cons,if_pos hc]
 ·rw[h,e,List.dropWhile_cons,if_neg (by rw[hc];simp)]
theorem trim_back {r:List UInt8} {n:Nat} (hn:r.length=n+1) (h:n<r.length):trimR r=if idleB r[n]=true then trimR (r.take n)else r:=by
 have e:r=r.take n++[r[n]]:=by rw[←List.take_succ_eq_append_getElem h,←hn,List.take_length]
 have:=trimR_snoc (r.take n) r[n];rw[←e]at this;exact this
theorem idle_num (c:UInt8):((c.toNat:Int)≤32→idleB c=true)∧(¬(c.toNat:Int)≤32→idleB c=false):=by
 unfold idleB;exact⟨fun h=>decide_eq_true (by omega),fun h=>decide_eq_false (by omega)⟩
set_option maxRecDepth 100000 in
theorem rdropped_u (s:List UInt8) (w:World) (hs:s.length≤4000000000):
 Calls Tryz.prog 110 #[.string ⟨s.toArray⟩] w fun e w'=>e= .returned (.string ⟨(dropL s).toArray⟩)∧Below w.heap.size w w':=by
 have hdl:=dropL_trim s
 generalize dropL s=D at*
 have HD:=Lib.hid hdl
 clear hdl
 go_enter Tryz.func110,Tryz.ntmps110
 go_upto_block 0 with fail
 go_cut [0]from 5 to 14 (fun sv wx=>sv= .string ⟨(s.dropWhile idleB).toArray⟩∧w=wx)
 case first=>
  clear HD;go_wp2_with fail;go_loop [0] (fun sv=>∃r:List UInt8,sv= .string ⟨r.toArray⟩∧r.length≤s.length∧Hid (s.dropWhile idleB=r.dropWhile idleB)) (fun sv=>match sv with| .string b=>b.size|_=>0)
  case atStart=>exact⟨s,rfl,Nat.le_refl _,Lib.hid rfl⟩
  case round=>
   obtain⟨r,rfl,hrl,HI⟩:=hrel;obtain⟨d0,d1⟩:=drop_front HI.out;clear HI
   cases r with
   |nil=>
    have HX:=Lib.hid (d0 rfl);clear d0 d1;go_wp2_with fail;go_meet;exact⟨by rw[HX.out],rfl⟩
   |cons c t=>
    have hpos:0<(c::t).length:=by simp
    simp only[List.length_cons]at hrl;by_cases hc:(c.toNat:Int)≤32
    ·have HX:=Lib.hid ((d1 c t rfl).1 ((idle_num c).1 hc))
     clear d0 d1;go_wp2_with fail;go_round
     case rel=>exact⟨t,by simp,by omega,HX⟩
     case measure=>exact Nat.lt_succ_self t.length
    ·have HX:=Lib.hid ((d1 c t rfl).2 ((idle_num c).2 hc))
     clear d0 d1;go_wp2_with fail;go_meet;exact⟨by rw[HX.out],rfl⟩
 case rest=>
  obtain⟨rfl,rfl⟩:=hcut;have hml:=(List.dropWhile_sublist idleB (l:=s)).length_le;generalize s.dropWhile idleB=m at*;go_upto_block 2 with fail;go_cut [0]from 15 to 30 (fun sv wx=>sv= .string ⟨(trimR m).toArray⟩∧w=wx)
  case first=>
   clear HD;go_wp2_with fail;go_loop [0] (fun sv=>∃r:List UInt8,sv= .string ⟨r.toArray⟩∧r.length≤s.length∧Hid (trimR m=trimR r)) (fun sv=>match sv with| .string b=>b.size|_=>0)
   case atStart=>exact⟨m,rfl,hml,Lib.hid rfl⟩
   case round=>
    obtain⟨r,rfl,hrl,HI⟩:=hrel;by_cases h0:r=[]
    ·subst h0
     go_wp2_with fail;go_meet;exact⟨by rw[HI.out];rfl,rfl⟩
    ·obtain⟨n,hn⟩:∃n,r.length=n+1:=⟨r.length-1,by have:=List.length_pos_iff.2 h0;omega⟩
     have hlt:n<r.length:=by omega
     have ht:=trim_back hn hlt;have hni:(r.length:Int)-1=(n:Int):=by omega
     have hpos:0<(r.length:Int):=by omega
     have hpos2:0<r.length:=by omega
     have hle:(n:Int)≤(r.length:Int):=by omega
     have HN:=Lib.hid hn;by_cases hc:(r[n].toNat:Int)≤32
     ·rw[if_pos ((idle_num _).1 hc)]at ht
      have HX:Hid (trimR m=trimR (r.take n)):=by show _=_;rw[HI.out,ht]
      have htl:(r.take n).length=n:=by simp;omega
      clear HI ht hn h0;generalize hx:r[n]=c at*;go_wp2_with fail;go_round
      case rel=>exact⟨r.take n,rfl,by omega,HX⟩
      case measure=>(show(r.take n).length<r.length);omega
     ·rw[if_neg (by rw[(idle_num _).2 hc];simp)]at ht
      have HX:Hid (trimR m=r):=by show _=_;rw[HI.out,ht]
      clear HI ht hn h0;generalize hx:r[n]=c at*;go_wp2_with fail;go_meet;exact⟨by rw[HX.out],rfl⟩
  case rest=>
   obtain⟨rfl,rfl⟩:=hcut;have htl:(trimR m).length≤m.length:=by
    have:=(List.dropWhile_sublist idleB (l:=m.reverse)).length_le;unfold trimR;rw[List.length_reverse];rwa[List.length_reverse]at this
   generalize trimR m=t at*;go_wp2_with fail;go_loopw [3,4] (fun v i wr=>∃(k:Nat) (done:List UInt8),k≤t.length∧i= .int .i64 k∧done.length≤k∧Hid ((t.take k).filter (fun c=> !tabB c)=done)∧wr.ownsRow w.heap.size 5 1 v done.length (byts done)∧Below w.heap.size w wr) (fun _ i _=>t.length-(intOf i).toNat)
   case atStart=>exact⟨0,[],Nat.zero_le _,rfl,Nat.le_refl _,Lib.hid (by simp),World.ownsRow_nil _ _ _ _,Below.refl _ _⟩
   case round=>
    obtain⟨k,done,hk,rfl,hdk,H,hown,hbl⟩:=hrel;have hsz:=hbl.size;by_cases hlt:k<t.length
    ·have HS:Hid ((t.take (k+1)).filter (fun c=> !tabB c)=done++if (!tabB t[k])=true then [t[k]]else []):=by show _=_;rw[filter_snoc hlt,H.out]
     have hnum:=tab_num t[k];clear H;generalize hx:t[k]=c at*;have hT:tabB c=true→(c.toNat:Int)=9∨(c.toNat:Int)=10∨(c.toNat:Int)=13:=fun h=>by rw[hnum]at h;simpa using h
     have hF:tabB c=false→((c.toNat:Int)==9)=false∧((c.toNat:Int)==10)=false∧((c.toNat:Int)==13)=false:=fun h=>by rw[hnum]at h;simpa using h
     clear hnum
     cases htb:tabB c with
     |false=>
      obtain⟨q9,q10,q13⟩:=hF htb;have p9:((c.toNat:Int) !=9)=true:=by rw[bne,q9];rfl
      have p10:((c.toNat:Int) !=10)=true:=by rw[bne,q10];rfl
      have p13:((c.toNat:Int) !=13)=true:=by rw[bne,q13];rfl
      have HF:Hid ((t.take (k+1)).filter (fun c=> !tabB c)=done++[c]):=by show _=_;rw[HS.out,htb];rfl
      clear HS hT hF htb;go_wp2_with(at_builtin;refine wpList_append_vals e_byte _ rfl _ _ rfl w.heap.size _ _ _ rfl hown _ _ _ rfl rfl (fun u hu=>by simp only[List.mem_cons,List.not_mem_nil,or_false]at hu;rcases hu with rfl;rfl) (by simp;omega) (by simp;omega) hsz ?_);intro v' w2 hown2 hgr _;go_wp2_with fail;go_roundw
      case rel=>exact⟨k+1,done++[c],by omega,by go_num,by simp;omega,HF,by rw[←byts_snoc];simpa using hown2,hbl.grown hgr hsz (fun g' hg'=>(hown.lt g' hg').1)⟩
      case measure=>simp[intOf];omega
     |true=>
      have HF:Hid ((t.take (k+1)).filter (fun c=> !tabB c)=done):=by show _=_;rw[HS.out,htb];simp
      have hw:=hT htb;clear HS hT hF htb;rcases hw with p|p|p
      all_goals
       go_wp2_with fail;go_roundw
       case rel=>exact⟨k+1,done,by omega,by go_num,by omega,HF,hown,hbl⟩
       case measure=>simp[intOf];omega
    ·obtain rfl:k=t.length:=by omega
     have HE:Hid (D=done):=by show _=_;rw[HD.out,←H.out,List.take_length]
     have hcv:=convert_bytes_own (P:=Tryz.prog) (src:=61) (dst:=9) (e:=5) Tryz.underlying61 Tryz.underlying5 Tryz.underlying9 hown;clear H HD;go_wp2_with fail;go_ret;exact⟨by rw[HE.out];rfl,hbl⟩
theorem piece_here {B n:Nat} {v:Value} {L:List (List UInt8)} {w:World} (ho:w.ownsRow B 9 1 v n (strs L)):Piece w v.ownBlock v L w:=by
 have hl:n=L.length:=by have:=own_len ho;simp at this;omega
 subst hl;refine⟨grown_refl _ _, ?_⟩;rcases ho.2 with ⟨rfl,h0⟩|⟨g,cap,cur,rfl,hb,hh,hn,hm,hsz,htake⟩
 ·exact .inl ⟨rfl,List.length_eq_zero_iff.1 h0⟩
 ·refine .inr ⟨g,0,cap,rfl, .inl rfl,(Array.getElem?_eq_some_iff.1 hh).1,hn,fun j u hj=> ?_,fun j hj=>⟨?_,Lib.frozen_of_heap hh _⟩⟩
  ·have:=ho.cells (g:=g) rfl j u hj
   rw[Addr.add_lit]at this;exact this
  ·rw[Nat.zero_add,Lib.cell_of_heap hh,Array.getElem?_eq_getElem (by omega)];rfl
theorem pts_zero {l r:List (List UInt8)} {x:List UInt8} (h:ptsN x=0):pathF l (x::r)=pathF (l++[encP 4 x]) r:=by
 unfold ptsN at h;rw[pathF];split at h
 ·cases h
 ·split at h
  ·cases h
  ·rename_i h1 h2;rw[if_neg h1,if_neg h2]
theorem pts_one {l r:List (List UInt8)} {x:List UInt8} (h:ptsN x=1):pathF l (x::r)=pathF (if r=[]then l++[[]]else l) r:=by
 unfold ptsN at h;rw[pathF];split at h
 ·rename_i h1;rw[if_pos h1]
 ·split at h<;>cases h
theorem pts_two {l r:List (List UInt8)} {x:List UInt8} (h:ptsN x=2):pathF l (x::r)=pathF (if r=[]then l.dropLast++[[]]else l.dropLast) r:=by
 unfold ptsN at h;rw[pathF];split at h
 ·cases h
 ·split at h
  ·rename_i h1 h2;rw[if_neg h1,if_pos h2]
  ·cases h
theorem pts_le (x:List UInt8):ptsN x=0∨ptsN x=1∨ptsN x=2:=by unfold ptsN;split;exact .inr (.inl rfl);split;exact .inr (.inr rfl);exact .inl rfl
theorem jr_sl (a:List UInt8):(ByteArray.mk a.toArray)++(ByteArray.mk #[47])=ByteArray.mk (a++[47]).toArray:=ba_append a [47]
attribute [local go_sem] jr_sl ba_append
set_option maxRecDepth 100000 in
theorem rpath_u (v:Value) (T:List (List UInt8)) (gb:Option Nat) (s:List UInt8) (w:World) (hseg:Seg w v (strs T) gb) (hT:T.length≤50000) (hbl:(backL 47 T).length≤1000000) (hs:s.length≤100000):
 Calls Tryz.prog 158 #[v, .string ⟨s.toArray⟩] w fun e w'=>e= .returned (.string ⟨(pathL T s).toArray⟩)∧Below w.heap.size w w':=by
 have hfl:(flatS s).length=s.length:=List.length_map ..
 have hPn:(slashP s).length≤s.length+1:=by have:=(partsL_le 47 (flatS s)).2;rw[hfl]at this;exact this
 have hPs:∀p∈slashP s,p.length≤s.length:=fun p hp=>by have:=(partsL_le 47 (flatS s)).1 p hp;rw[hfl]at this;exact this
 have hjl:=pathF_len (slashP s) T
 have hsum:=sum_parts 47 (flatS s)
 have hdef:partsL 47 (flatS s)=slashP s:=rfl
 rw[hdef,hfl]at hsum
 have hlen:(strs T).length=T.length:=by unfold strs;simp
 have hpl:pathL T s=backL 47 (pathF T (slashP s)):=rfl
 have cp:=fun W=>rparts_u s W (by omega)
 go_enter Tryz.func158,Tryz.ntmps158
 go_wp2_with(at_builtin;go_loud(refine wpList_append_seg e_str _ rfl _ _ rfl w.heap.size (.slice none 0 0) 0 [] rfl (World.ownsRow_nil _ _ _ _) v (strs T) gb rfl hseg (fun u hu=>by unfold strs at hu;obtain⟨x,_,rfl⟩:=List.mem_map.1 hu;rfl) (by rw[hlen];omega) (by rw[hlen];omega) (Nat.le_refl _) ?_))
 intro v1 w1 hown1 hgr1
 have hb1:Below w.heap.size w w1:=below_of_grown hgr1 (Nat.le_refl _) (fun k hk=>by cases hk)
 go_wp2_with fail
 go_at_call 159
 refine(cp w1).mono ?_
 rintro e w2 ⟨vm,rfl,hown2,hb2⟩
 have hown3:=own_below hown1 hb2
 have hfar:=own_far hown1 hown2
 have hb3:=hb1.trans (hb2.mono hb1.size)
 generalize hPP:slashP s=P at*
 generalize hB:w1.heap.size=B at*
 have hBw:=hb1.size
 rw[hB]at hBw
 have hne:=slashP_ne s
 rw[hPP]at hne
 clear cp hseg hgr1 hown1 hb1 hb2 hlen hdef
 rcases own_open hown2 with ⟨rfl,h0,_⟩|⟨g,cap,rfl,hBg,hg2,_,_,hcells⟩
 ·exact absurd (List.length_eq_zero_iff.1 h0) hne
 have hP2:=piece_here hown3
 obtain⟨row,hrow⟩:∃row,v1.ownBlock=row:=⟨_,rfl⟩
 have hrg:row≠some g:=by
  rw[←hrow];rcases hfar with h|h
  ·rw[h];intro e;cases e
  ·exact h
 have hrB:∀g',row=some g'→w.heap.size≤g':=fun g' hg'=>(hown3.lt g' (by rw[hrow];exact hg')).1
 rw[hrow]at hP2
 have HC:Hid (∀(j:Nat) (h:j<P.length),w2.cell? ⟨g,j,none⟩=some (.string ⟨(P[j]).toArray⟩)):=fun j h=>hcells j _ (strs_get h)
 have hw2z:=hb3.size
 clear hfar hown2 hown3 hcells hrow hBg hBw hB
 go_wp2_with fail
 go_loopw [5,7,8] (fun lv iv nv wr=>∃(k:Nat) (M:List (List UInt8)),k≤P.length∧iv= .int .i64 k∧M.length≤T.length+k∧Piece w2 row lv M wr∧Hid (pathF T P=pathF M (P.drop k))) (fun _ i _ _=>P.length-(intOf i).toNat)
 case atStart=>exact⟨0,T,Nat.zero_le _,rfl,by omega,hP2,rfl⟩
 case round=>
  obtain⟨k,M,hk,rfl,hML,hPc,HP⟩:=hrel;obtain⟨V,rfl⟩:∃V,V=wr:=⟨wr,rfl⟩;clear hP2;have hg:=hPc.1;have hgz:=hg.size;by_cases hlt:k<P.length
  ·have hki:(k:Int)<(P.length:Int):=by omega
   have ck:V.cell? ⟨g,k,none⟩=some (.string ⟨(P[k]).toArray⟩):=hg.cell (HC.out k hlt) (by exact fun e=>hrg e.symm);have hgV:g<V.heap.size:=by omega
   have hxl:=hPs P[k] (List.getElem_mem _);have hdr:P.drop k=P[k]::P.drop (k+1):=List.drop_eq_getElem_cons hlt;have hlast:(P.drop (k+1)=[])↔k+1=P.length:=by rw[List.drop_eq_nil_iff];omega
   have hPF:=HP.out;rw[hdr]at hPF;generalize hx:P[k]=x at*;clear HP hdr hx hg;have cpt:=rpoints_u x V (by omega);obtain⟨a,c,rfl,hcap⟩:=hPc.form;rcases pts_le x with hp|hp|hp
   ·rw[pts_zero hp]at hPF
    rw[hp]at cpt;have ce:=fun W=>rencode_p 4 (by omega) (by omega) x W (by omega)
    have HP:=Lib.hid hPF;clear hPF hp hlast;generalize encP 4 x=E at*;go_wp2_with fail;go_at_call 216;refine cpt.mono ?_;rintro e W ⟨rfl,hbW⟩;have ckW:W.cell? ⟨g,k,none⟩=some _:=(hbW.cell (p:=⟨g,k,none⟩) hgV).trans ck;have hPW:=hPc.below hbW;clear cpt ck hPc hbW;go_wp2_with(first|(go_at_call 156;refine(ce _).mono ?_;rintro e w6 ⟨rfl,hb6⟩;have hP6:=hPW.below hb6)|(at_builtin;go_loud(refine wpList_append_piece w2 row _ rfl _ _ rfl _ (.slice a M.length c) M E rfl hP6 rfl (by omega) ?_;intro v7 w7 hP7)));go_roundw
    case rel=>exact⟨k+1,M++[E],by omega,by go_num,by rw[List.length_append,List.length_singleton];omega,hP7,HP⟩
    case measure=>simp[intOf];omega
   ·rw[pts_one hp]at hPF
    rw[hp]at cpt;clear hp;by_cases hkl:k+1=P.length
    ·rw[if_pos (hlast.2 hkl)]at hPF
     have HP:=Lib.hid hPF;have hkb:((k:Int)==(P.length:Int)-1)=true:=beq_iff_eq.2 (by omega);clear hPF hlast;go_wp2_with(first|(go_at_call 216;refine cpt.mono ?_;rintro e W ⟨rfl,hbW⟩;have hPW:=hPc.below hbW)|(at_builtin;go_loud(refine wpList_append_piece w2 row _ rfl _ _ rfl _ (.slice a M.length c) M [] rfl hPW rfl (by omega) ?_;intro v7 w7 hP7)));go_roundw
     case rel=>exact⟨k+1,M++[[]],by omega,by go_num,by rw[List.length_append,List.length_singleton];omega,hP7,HP⟩
     case measure=>simp[intOf];omega
    ·rw[if_neg (fun e=>hkl (hlast.1 e))]at hPF
     have HP:=Lib.hid hPF;have hkb:((k:Int)==(P.length:Int)-1)=false:=beq_eq_false_iff_ne.2 (by omega);clear hPF hlast;go_wp2_with(go_at_call 216;refine cpt.mono ?_;rintro e W ⟨rfl,hbW⟩;have hPW:=hPc.below hbW);go_roundw
     case rel=>exact⟨k+1,M,by omega,by go_num,by omega,hPW,HP⟩
     case measure=>simp[intOf];omega
   ·rw[pts_two hp]at hPF
    rw[hp]at cpt;clear hp;by_cases hM:M=[]
    ·subst hM
     by_cases hkl:k+1=P.length
     ·rw[if_pos (hlast.2 hkl)]at hPF
      have HP:=Lib.hid hPF;have hkb:((k:Int)==(P.length:Int)-1)=true:=beq_iff_eq.2 (by omega);clear hPF hlast;go_wp2_with(first|(go_at_call 216;refine cpt.mono ?_;rintro e W ⟨rfl,hbW⟩;have hPW:=hPc.below hbW)|(at_builtin;go_loud(refine wpList_append_piece w2 row _ rfl _ _ rfl _ (.slice a 0 c) [] [] rfl hPW rfl (by simp) ?_;intro v7 w7 hP7)));go_roundw
      case rel=>exact⟨k+1,[[]],by omega,by go_num,by simp;omega,hP7,HP⟩
      case measure=>simp[intOf];omega
     ·rw[if_neg (fun e=>hkl (hlast.1 e))]at hPF
      have HP:=Lib.hid hPF;have hkb:((k:Int)==(P.length:Int)-1)=false:=beq_eq_false_iff_ne.2 (by omega);clear hPF hlast;go_wp2_with(go_at_call 216;refine cpt.mono ?_;rintro e W ⟨rfl,hbW⟩;have hPW:=hPc.below hbW);go_roundw
      case rel=>exact⟨k+1,[],by omega,by go_num,by simp,hPW,HP⟩
      case measure=>simp[intOf];omega
    ·have hMl:0<M.length:=List.length_pos_iff.2 hM
     have hMi:(0:Int)<(M.length:Int):=by omega
     have hci:(M.length:Int)-1≤(c:Int):=by omega
     have hc0:(0:Int)≤(M.length:Int)-1:=by omega
     have htn:((M.length:Int)-1).toNat=M.length-1:=by omega
     by_cases hkl:k+1=P.length
     ·rw[if_pos (hlast.2 hkl)]at hPF
      have HP:=Lib.hid hPF;have hkb:((k:Int)==(P.length:Int)-1)=true:=beq_iff_eq.2 (by omega);clear hPF hlast;go_wp2_with(first|(go_at_call 216;refine cpt.mono ?_;rintro e W ⟨rfl,hbW⟩;have hPW:=(hPc.below hbW).pop.1)|(at_builtin;go_loud(refine wpList_append_piece w2 row _ rfl _ _ rfl _ (.slice a (M.length-1) c) M.dropLast [] rfl hPW rfl (by rw[List.length_dropLast];omega) ?_;intro v7 w7 hP7)));go_roundw
      case rel=>exact⟨k+1,M.dropLast++[[]],by omega,by go_num,by rw[List.length_append,List.length_dropLast,List.length_singleton];omega,hP7,HP⟩
      case measure=>simp[intOf];omega
     ·rw[if_neg (fun e=>hkl (hlast.1 e))]at hPF
      have HP:=Lib.hid hPF;have hkb:((k:Int)==(P.length:Int)-1)=false:=beq_eq_false_iff_ne.2 (by omega);clear hPF hlast;go_wp2_with(go_at_call 216;refine cpt.mono ?_;rintro e W ⟨rfl,hbW⟩;have hPW:=(hPc.below hbW).pop.1);go_roundw
      case rel=>exact⟨k+1,M.dropLast,by omega,by go_num,by rw[List.length_dropLast];omega,hPW,HP⟩
      case measure=>simp[intOf];omega
  ·have hki:¬(k:Int)<(P.length:Int):=by omega
   have hPF:=HP.out;rw[List.drop_eq_nil_of_le (by omega)]at hPF;have hPM:pathF T P=M:=by rw[hPF,pathF]
   have hMne:M≠[]:=by rw[←hPM];exact pathF_ne P T hne
   rw[hPM]at hjl hpl;have HL:=Lib.hid hpl;have hbV:Below w.heap.size w V:=hb3.grown hg hw2z hrB;rcases hPc.2 with ⟨_,e⟩|⟨b,o,cp,rfl,e2,e3,e4,e5,_⟩
   ·exact absurd e hMne
   have HM:Hid (∀(j:Nat) (h:j<M.length),V.cell? ⟨b,o+j,none⟩=some (.string ⟨(M[j]).toArray⟩)):=fun j h=>e5 j _ (strs_get h)
   clear hPc e5 hPF hPM HP hg hpl HC;go_wp2_with fail;go_loop [9,10] (fun sv iv=>∃j:Nat,j≤M.length∧iv= .int .i64 j∧sv= .string ⟨(backL 47 (M.take j)).toArray⟩) (fun _ i=>M.length-(intOf i).toNat)
   case atStart=>exact⟨0,Nat.zero_le _,rfl,rfl⟩
   case round=>
    obtain⟨j,hj,rfl,rfl⟩:=hrel;by_cases hjt:j<M.length
    ·have hcj:=HM.out j hjt
     have HT:=Lib.hid (backL_take 47 M hjt);have hl1:=backL_le 47 M j;have hl2:=backL_le 47 M (j+1);have hl3:=congrArg List.length HT.out;simp only[List.length_append,List.length_singleton]at hl3;generalize M[j]=y at*;generalize backL 47 (M.take j)=A at*;have hs1:¬9223372036854775807<A.length+1:=by omega
     have hs2:¬9223372036854775807<(A++[47]).length+y.length:=by rw[List.length_append,List.length_singleton];omega
     have hs3:¬9223372036854775807<A.length+1+y.length:=by omega
     have hs4:¬9223372036854775807<A.length+(y.length+1):=by omega
     clear HL;go_wp2_with fail;go_round
     case rel=>exact⟨j+1,by omega,by go_num,by rw[HT.out];simp⟩
     case measure=>simp[intOf];omega
    ·obtain rfl:j=M.length:=by omega
     go_wp2_with fail;go_ret;exact⟨by rw[HL.out];rfl,hbV⟩
end Go.Proofs.YtlcnknlmdaochaaGreatDoor
