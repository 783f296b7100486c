/- The reference's seen of layer 6. -/
import Derived.Test.YtlcnknlmdaochaaGreatDoorGRU5
set_option linter.unusedVariables false
set_option linter.unusedSimpArgs false
set_option maxHeartbeats 16000000
namespace Go.Proofs.YtlcnknlmdaochaaGreatDoor
open Go.RowKit
theorem flat_id {s:List UInt8} (h:(92:UInt8)∉s):flatS s=s:=by
 unfold flatS
 conv=>rhs;rw[←List.map_id s]
 refine List.map_congr_left fun c hc=> ?_
 rw[if_neg (fun e=>h (by rw[←e];exact hc))];rfl
theorem seg_mid {w:World} {B n:Nat} {v:Value} {P:List (List UInt8)} (ho:w.ownsRow B 9 1 v n (strs P)) (hP:2≤P.length):
 ∃g cap,v= .slice (some ⟨g,0,none⟩) P.length cap∧P.length≤cap∧∀m c,m+2=P.length→Seg w (.slice (some ⟨g,1,none⟩) m c) (strs P.tail.dropLast) (some g):=by
 have hl:n=P.length:=by have:=own_len ho;simp at this;omega
 subst hl
 rcases own_open ho with ⟨_,h0,_⟩|⟨g,cap,rfl,hb,hg,hn,hm,hc⟩
 ·omega
 ·refine⟨g,cap,rfl,hn,fun m c hm=> .inr ⟨⟨g,1,none⟩,c, ?_,rfl,fun j u hj=> ?_⟩⟩
  ·have:(strs P.tail.dropLast).length=m:=by unfold strs;simp;omega
   rw[this]
  ·have hjl:j<m:=by
    have:=(List.getElem?_eq_some_iff.1 hj).1;unfold strs at this;simp at this;omega
   rw[Addr.add_lit];refine hc _ u ?_;rw[←hj,strs,strs,List.getElem?_map,List.getElem?_map,List.getElem?_dropLast,if_pos (by simp;omega),List.getElem?_tail,Nat.add_comm]
set_option maxRecDepth 100000 in
theorem rseen_u (U:Nat) (u base:UrlL) (s:List UInt8) (w:World) (h:UrlAt U u w) (hs:s.length≤4100) (hu:u.user=[]) (hp:u.pass=[]) (hsl:47∈base.path) (hn92:(92:UInt8)∉base.path) (hbl:base.path.length≤4100):
 Calls Tryz.prog 116 #[.string ⟨s.toArray⟩,urlV base, .pointer (some ⟨U,0,none⟩)] w (RSeenPost U u base s w):=by
 obtain⟨w1,hw1⟩:∃w1,w.alloc (.cells #[.string ⟨base.scheme.toArray⟩, .string ⟨base.user.toArray⟩, .string ⟨base.pass.toArray⟩, .string ⟨base.host.toArray⟩, .int .i64 base.port, .string ⟨base.path.toArray⟩, .string ⟨base.query.toArray⟩, .bool base.hasQ, .string ⟨base.mark.toArray⟩, .bool base.hasM] 23)=w1:=⟨_,rfl⟩
 have hb1:Below w.heap.size w w1:=by rw[←hw1];exact below_alloc w _
 have hB1:BaseAt w.heap.size base w1:=by rw[←hw1];exact heap_alloc_new w _
 have hU1:=h.calm hb1
 have hK1:=KeptX.of_below hb1 (Nat.le_of_lt h.lt)
 have hBU:w.heap.size≠U:=fun e=>by have:=h.lt;omega
 have hUB:U≠w.heap.size:=fun e=>hBU e.symm
 unfold urlV
 go_enter Tryz.func116,Tryz.ntmps116
 go_upto_region 1 with fail
 clear hw1 h hb1
 obtain⟨B,hB⟩:∃B,w.heap.size=B:=⟨_,rfl⟩
 rw[hB]at hB1 hBU hUB⊢
 go_cut [20] (fun a wx=>a= .bool (twoSl s)∧w1=wx)
 case first=>
  clear hB1 hU1 hK1
  cases s with
  |nil=>
   go_wp2_with fail;go_meet;exact⟨rfl,rfl⟩
  |cons a s=>
   cases s with
   |nil=>
    go_wp2_with fail;go_meet;exact⟨rfl,rfl⟩
   |cons b s=>
    have hn:(2:Int)≤((a::b::s).length:Int):=by simp only[List.length_cons];omega
    have ca:=rslash a w1;have cb:=rslash b w1;have ht:twoSl (a::b::s)=(slashB a&&slashB b):=rfl
    cases ha:slashB a with
    |false=>
     rw[ha]at ca ht;have HT:=Lib.hid ht;clear ht ha cb;go_wp2_with(go_at_call 114;refine ca.mono ?_;rintro e w1 ⟨rfl,rfl⟩);go_meet;exact⟨by rw[HT.out];rfl,rfl⟩
    |true=>
     rw[ha]at ca ht;have HT:Hid (twoSl (a::b::s)=slashB b):=ht;clear ht ha;generalize slashB b=z at*;go_wp2_with(first|(go_at_call 114;with_reducible refine ca.mono ?_;rintro e w1 ⟨rfl,rfl⟩)|(go_at_call 114;refine cb.mono ?_;rintro e w1 ⟨rfl,rfl⟩));go_meet;exact⟨by rw[HT.out],rfl⟩
 case rest=>
  obtain⟨rfl,rfl⟩:=hcut
  cases htw:twoSl s with
  |true=>
   have hd:seenU u base s=placeU u (s.dropWhile slashB):=if_pos htw;have HD:=Lib.hid hd;clear hd htw;go_upto_block 0 with fail;go_cut [0]from 21 to 30 (fun sv wx=>sv= .string ⟨(s.dropWhile slashB).toArray⟩∧w1=wx)
   case first=>
    clear HD hB1 hU1 hK1;go_wp2_with fail;go_loop [0] (fun sv=>∃r:List UInt8,sv= .string ⟨r.toArray⟩∧r.length≤s.length∧Hid (s.dropWhile slashB=r.dropWhile slashB)) (fun sv=>match sv with| .string b=>b.size|_=>0)
    case atStart=>exact⟨s,rfl,Nat.le_refl _,Lib.hid rfl⟩
    case round=>
     obtain⟨r,rfl,hrl,HI⟩:=hrel;obtain⟨d0,d1⟩:=sl_front HI.out;clear HI
     cases r with
     |nil=>
      have HX:=Lib.hid (d0 rfl);clear d0 d1;go_wp2_with fail;go_meet;exact⟨by rw[HX.out],rfl⟩
     |cons c t=>
      have hpos:0<(c::t).length:=by simp
      simp only[List.length_cons]at hrl;have cl:=rslash c w1
      cases hc:slashB c with
      |true=>
       have HX:=Lib.hid ((d1 c t rfl).1 hc);rw[hc]at cl;clear d0 d1 hc;go_wp2_with(go_at_call 114;refine cl.mono ?_;rintro e w1 ⟨rfl,rfl⟩);go_round
       case rel=>exact⟨t,by simp,by omega,HX⟩
       case measure=>exact Nat.lt_succ_self t.length
      |false=>
       have HX:=Lib.hid ((d1 c t rfl).2 hc);rw[hc]at cl;clear d0 d1 hc;go_wp2_with(go_at_call 114;refine cl.mono ?_;rintro e w1 ⟨rfl,rfl⟩);go_meet;exact⟨by rw[HX.out],rfl⟩
   case rest=>
    obtain⟨rfl,rfl⟩:=hcut;have htl:=(List.dropWhile_sublist slashB (l:=s)).length_le;have cp:=rplace_u U u (s.dropWhile slashB) w1 hU1 (by omega) hu hp;generalize s.dropWhile slashB=t at*;go_wp2_with fail;go_at_call 115;refine cp.mono ?_;rintro e W2 ⟨hK2,hpl⟩;have hK3:=hK1.next hK2;clear cp hK2 hK1 hU1 hB1
    cases hpu:placeU u t with
    |error n=>
     rw[hpu]at hpl;obtain rfl:e= .returned (.int .i64 (n:Int)):=hpl;go_wp2_with fail;go_ret;exact⟨hK3,by rw[HD.out,hpu];rfl⟩
    |ok v=>
     rw[hpu]at hpl;obtain⟨rfl,hU4⟩:e= .returned (.int .i64 0)∧UrlAt U v W2:=hpl;go_wp2_with fail;go_ret;exact⟨hK3,by rw[HD.out,hpu];exact⟨rfl,hU4⟩⟩
  |false=>
   have HT:=Lib.hid htw;clear htw;have b1:w1.cell? ⟨B,1,none⟩=some (.string ⟨base.user.toArray⟩):=by rw[Lib.cell_of_heap hB1];rfl
   have b2:w1.cell? ⟨B,2,none⟩=some (.string ⟨base.pass.toArray⟩):=by rw[Lib.cell_of_heap hB1];rfl
   have b3:w1.cell? ⟨B,3,none⟩=some (.string ⟨base.host.toArray⟩):=by rw[Lib.cell_of_heap hB1];rfl
   have b4:w1.cell? ⟨B,4,none⟩=some (.int .i64 base.port):=by rw[Lib.cell_of_heap hB1];rfl
   have k1:w1.cell? ⟨U,1,none⟩=some _:=hU1.cell 1;have k2:w1.cell? ⟨U,2,none⟩=some _:=hU1.cell 2;have k3:w1.cell? ⟨U,3,none⟩=some _:=hU1.cell 3;have k4:w1.cell? ⟨U,4,none⟩=some _:=hU1.cell 4;have f1:=hU1.free 1;have f2:=hU1.free 2;have f3:=hU1.free 3;have f4:=hU1.free 4;have hUa:=hU1.set1 (u':= {u with user:=base.user}) 1 (.string ⟨base.user.toArray⟩) rfl;have hUb:=hUa.set1 (u':= {u with user:=base.user,pass:=base.pass}) 2 (.string ⟨base.pass.toArray⟩) rfl;have hUc:=hUb.set1 (u':= {u with user:=base.user,pass:=base.pass,host:=base.host}) 3 (.string ⟨base.host.toArray⟩) rfl;have hUd:=hUc.set1 (u':= {u with user:=base.user,pass:=base.pass,host:=base.host,port:=base.port}) 4 (.int .i64 base.port) rfl;have hKa:=(((hU1.keep1 1 (.string ⟨base.user.toArray⟩)).next (hUa.keep1 2 (.string ⟨base.pass.toArray⟩))).next (hUb.keep1 3 (.string ⟨base.host.toArray⟩))).next (hUc.keep1 4 (.int .i64 base.port));have hBl:B<w1.heap.size:=(Array.getElem?_eq_some_iff.1 hB1).1;clear hUa hUb hUc;go_upto_region 11 with fail;clear b1 b2 b3 b4 k1 k2 k3 k4 f1 f2 f3 f4;obtain⟨w3,hw3⟩:∃W,(((w1.setCell ⟨U,1,none⟩ (.string ⟨base.user.toArray⟩)).setCell ⟨U,2,none⟩ (.string ⟨base.pass.toArray⟩)).setCell ⟨U,3,none⟩ (.string ⟨base.host.toArray⟩)).setCell ⟨U,4,none⟩ (.int .i64 base.port)=W:=⟨_,rfl⟩;rw[hw3]at hUd hKa⊢;have hB3:BaseAt B base w3:=(hKa.2 B hBl hBU).trans hB1;have hK3:=hK1.next hKa;clear hw3 hKa hB1 hU1 hK1;have b5:w3.cell? ⟨B,5,none⟩=some (.string ⟨base.path.toArray⟩):=by rw[Lib.cell_of_heap hB3];rfl
   have hUlt:=hUd.lt
   cases s with
   |nil=>
    have HD:Hid (seenU u base []= .ok (if u.hasQ=true then {u with user:=base.user,pass:=base.pass,host:=base.host,port:=base.port,path:=base.path}else {u with user:=base.user,pass:=base.pass,host:=base.host,port:=base.port,path:=base.path,hasQ:=base.hasQ,query:=base.query})):=rfl;have b6:w3.cell? ⟨B,6,none⟩=some (.string ⟨base.query.toArray⟩):=by rw[Lib.cell_of_heap hB3];rfl
    have b7:w3.cell? ⟨B,7,none⟩=some (.bool base.hasQ):=by rw[Lib.cell_of_heap hB3];rfl
    have k5:w3.cell? ⟨U,5,none⟩=some _:=hUd.cell 5;have k6:w3.cell? ⟨U,6,none⟩=some _:=hUd.cell 6;have k7:w3.cell? ⟨U,7,none⟩=some (.bool u.hasQ):=hUd.cell 7;have f5:=hUd.free 5;have f6:=hUd.free 6;have f7:=hUd.free 7;have hU4:=hUd.set1 (u':= {u with user:=base.user,pass:=base.pass,host:=base.host,port:=base.port,path:=base.path}) 5 (.string ⟨base.path.toArray⟩) rfl;have hK4:=hK3.next (hUd.keep1 5 (.string ⟨base.path.toArray⟩));clear hB3
    cases hq:u.hasQ with
    |true=>
     rw[hq]at k7;have HF:Hid (seenU u base []= .ok {u with user:=base.user,pass:=base.pass,host:=base.host,port:=base.port,path:=base.path}):=by
      show _=_;rw[HD.out,hq];rfl
     clear HD HT hq;go_wp2_with fail;go_ret;exact⟨hK4,by rw[HF.out];exact⟨rfl,hU4⟩⟩
    |false=>
     rw[hq]at k7;have HF:Hid (seenU u base []= .ok {u with user:=base.user,pass:=base.pass,host:=base.host,port:=base.port,path:=base.path,hasQ:=base.hasQ,query:=base.query}):=by
      show _=_;rw[HD.out,hq];rfl
     have hU5a:=hU4.set1 (u':= {u with user:=base.user,pass:=base.pass,host:=base.host,port:=base.port,path:=base.path,query:=base.query}) 6 (.string ⟨base.query.toArray⟩) rfl;have hU5:=hU5a.set1 (u':= {u with user:=base.user,pass:=base.pass,host:=base.host,port:=base.port,path:=base.path,hasQ:=base.hasQ,query:=base.query}) 7 (.bool base.hasQ) rfl;have hK5:=(hK4.next (hU4.keep1 6 (.string ⟨base.query.toArray⟩))).next (hU5a.keep1 7 (.bool base.hasQ));clear HD HT hq hU5a hU4 hK4;go_wp2_with fail;go_ret;exact⟨hK5,by rw[HF.out];exact⟨rfl,hU5⟩⟩
   |cons x r=>
    have hxn:(0:Int)<((x::r).length:Int):=by simp only[List.length_cons];omega
    have hxn1:(1:Int)≤((x::r).length:Int):=by simp only[List.length_cons];omega
    have HD:Hid (seenU u base (x::r)=if slashB x=true then .ok {u with user:=base.user,pass:=base.pass,host:=base.host,port:=base.port,path:=pathL [] r}else .ok {u with user:=base.user,pass:=base.pass,host:=base.host,port:=base.port,path:=pathL (partsL 47 base.path).tail.dropLast (x::r)}):=seen_cons HT.out;simp only[List.length_cons]at hs;have cl:=rslash x w3
    cases hsx:slashB x with
    |true=>
     rw[hsx]at cl;have HF:Hid (seenU u base (x::r)= .ok {u with user:=base.user,pass:=base.pass,host:=base.host,port:=base.port,path:=pathL [] r}):=by
      show _=_;rw[HD.out,hsx];rfl
     have cr:=rpath_u (.slice none 0 0) [] none r w3 (.inl ⟨rfl,rfl⟩) (by simp) (by simp[backL]) (by omega);clear HD HT hsx b5 hB3;generalize pathL [] r=pa at*;go_wp2_with(go_at_call 114;refine cl.mono ?_;rintro e w1 ⟨rfl,rfl⟩);go_at_call 158;refine cr.mono ?_;rintro e W6 ⟨rfl,hb6⟩;have hU6:=hUd.calm hb6;have hK6:=hK3.calm (Nat.le_of_lt hUlt) hb6;have k5:W6.cell? ⟨U,5,none⟩=some (.string ⟨_⟩):=hU6.cell 5;have f5:=hU6.free 5;have hU7:=hU6.set1 (u':= {u with user:=base.user,pass:=base.pass,host:=base.host,port:=base.port,path:=pa}) 5 (.string ⟨pa.toArray⟩) rfl;have hK7:=hK6.next (hU6.keep1 5 (.string ⟨pa.toArray⟩));clear cr cl hb6 hUd hK3 hU6 hK6;go_wp2_with fail;go_ret;exact⟨hK7,by rw[HF.out];exact⟨rfl,hU7⟩⟩
    |false=>
     rw[hsx]at cl;have HF:Hid (seenU u base (x::r)= .ok {u with user:=base.user,pass:=base.pass,host:=base.host,port:=base.port,path:=pathL (partsL 47 base.path).tail.dropLast (x::r)}):=by
      show _=_;rw[HD.out,hsx];rfl
     have cs:=rparts_u base.path w3 (by omega);have hsp:slashP base.path=partsL 47 base.path:=by unfold slashP;rw[flat_id hn92]
     rw[hsp]at cs;obtain⟨hPn,hPb,hPl⟩:=base_parts hsl;generalize partsL 47 base.path=P at*;clear HD HT hsx hB3 hsl hn92 hsp;go_wp2_with(go_at_call 114;refine cl.mono ?_;rintro e w1 ⟨rfl,rfl⟩);go_at_call 159;refine cs.mono ?_;rintro e W4 ⟨v,rfl,hown,hb4⟩;obtain⟨g,cap,rfl,hcap,hseg⟩:=seg_mid hown hPn;have hU4:=hUd.calm hb4;have hK4:=hK3.calm (Nat.le_of_lt hUlt) hb4;obtain⟨m,hm⟩:∃m,m+2=P.length:=⟨P.length-2,by omega⟩;have hc1:¬cap=1:=by omega
     have hPi:(1:Int)≤(P.length:Int):=by omega
     have hmi:(P.length:Int)-1=((m+1:Nat):Int):=by omega
     have hmn:P.length-1=m+1:=by omega
     have hmc:m+1≤cap-1:=by omega
     have cr:=rpath_u (.slice (some ⟨g,1,none⟩) m (cap-1)) P.tail.dropLast (some g) (x::r) W4 (hseg m (cap-1) hm) (by simp;omega) (by omega) (by simp;omega);have hm':=Lib.hid hm;clear hm cs cl hown hb4 hseg hK3 hUd b5;generalize pathL P.tail.dropLast (x::r)=pa at*;go_wp2_with fail;go_at_call 158;refine cr.mono ?_;rintro e W6 ⟨rfl,hb6⟩;have hU6:=hU4.calm hb6;have hK6:=hK4.calm (Nat.le_of_lt hU4.lt) hb6;have k5:W6.cell? ⟨U,5,none⟩=some (.string ⟨_⟩):=hU6.cell 5;have f5:=hU6.free 5;have hU7:=hU6.set1 (u':= {u with user:=base.user,pass:=base.pass,host:=base.host,port:=base.port,path:=pa}) 5 (.string ⟨pa.toArray⟩) rfl;have hK7:=hK6.next (hU6.keep1 5 (.string ⟨pa.toArray⟩));clear cr hb6 hU4 hK4 hU6 hK6;go_wp2_with fail;go_ret;exact⟨hK7,by rw[HF.out];exact⟨rfl,hU7⟩⟩
theorem rseen_c:RSeenC:=fun U u base s w a1 a2 a3 a4 a5 a6 a7=>rseen_u U u base s w a1 a2 a3 a4 a5 a6 a7
set_option maxRecDepth 100000 in
theorem rParse_results {B:Nat} {W:World} {v:UrlL} {k:Int} {tmps:Array Value} (h6:tmps[6]?.getD undef= .pointer (some ⟨B,0,none⟩)) (h7:tmps[7]?.getD undef= .int .i64 k) (hU:UrlAt B v W):
 (results Tryz.f29 tmps).run Tryz.prog W= .ok (.tuple #[urlV v, .int .i64 k]) W:=by
 obtain⟨c0,c1,c2,c3,c4,c5,c6,c7,c8,c9⟩:=hU.cells
 simp[results,Tryz.results29,go_sem,h6,h7,c0,c1,c2,c3,c4,c5,c6,c7,c8,c9]
 rfl
structure TopW (n:Nat) (w:World) (base:UrlL) (W:World):Prop where
 low:Below n w W
 bs:UrlAt n base W
 res:UrlAt (n+1) zeroU W
theorem TopW.calm {n:Nat} {w W W':World} {base:UrlL} (h:TopW n w base W) (k:Below W.heap.size W W'):TopW n w base W':=
 ⟨h.low.trans (k.mono (Nat.le_of_lt h.bs.lt)),h.bs.calm k,h.res.calm k⟩
theorem TopW.put {n:Nat} {w W:World} {base:UrlL} (h:TopW n w base W) (v:UrlL):Hid (UrlAt (n+1) v (putU W (n+1) v))∧Hid (Below n w (putU W (n+1) v)):=⟨h.res.put v,putU_below h.low (by omega) v⟩
set_option maxRecDepth 100000 in
theorem rParse_u (s:List UInt8) (base:UrlL) (has:Bool) (sn:has=true→RSeenC) (w:World) (hz:s.length≤140737488351232) (hs:sizeU base≤1000000000) (hport:base.port≤9223372036854775807):
 Calls Tryz.prog 29 #[.string ⟨s.toArray⟩,urlV base, .bool has] w fun e w'=>e= .returned (pairU (parseU s base has))∧Below w.heap.size w w':=by
 have HSN:=Lib.hid sn
 clear sn
 obtain⟨w1,hw1⟩:∃w1,w.alloc (.cells #[.string ⟨base.scheme.toArray⟩, .string ⟨base.user.toArray⟩, .string ⟨base.pass.toArray⟩, .string ⟨base.host.toArray⟩, .int .i64 base.port, .string ⟨base.path.toArray⟩, .string ⟨base.query.toArray⟩, .bool base.hasQ, .string ⟨base.mark.toArray⟩, .bool base.hasM] 23)=w1:=⟨_,rfl⟩
 have hb1:Below w.heap.size w w1:=by rw[←hw1];exact below_alloc w _
 have hU1:UrlAt w.heap.size base w1:=by rw[←hw1];exact heap_alloc_new w _
 have hs1:w1.heap.size=w.heap.size+1:=by rw[←hw1];exact World.size_alloc _ _
 obtain⟨w2,hw2⟩:∃w2,w1.alloc (.cells #[.string ⟨#[]⟩, .string ⟨#[]⟩, .string ⟨#[]⟩, .string ⟨#[]⟩, .int .i64 0, .string ⟨#[]⟩, .string ⟨#[]⟩, .bool false, .string ⟨#[]⟩, .bool false] 23)=w2:=⟨_,rfl⟩
 have hb2:Below w1.heap.size w1 w2:=by rw[←hw2];exact below_alloc w1 _
 have hR2:UrlAt w1.heap.size zeroU w2:=by rw[←hw2];exact heap_alloc_new w1 _
 rw[hs1]at hR2
 have hT:TopW w.heap.size w base w2:=⟨hb1.trans (hb2.mono hb1.size),(hb2.block _ hU1.lt).trans hU1,hR2⟩
 clear hb1 hU1 hb2 hR2
 obtain⟨p0,p1,p2,p3,p4,p5,p6,p7,p8,p9⟩:=hT.bs.cells
 obtain⟨q0,q1,q2,q3,q4,q5,q6,q7,q8,q9⟩:=hT.res.cells
 obtain⟨g0,g1,g2,g3,g4,g5,g6,g7,g8,g9⟩:=hT.res.frees
 by_cases h0:4096<s.length
 ·have HP:Hid (parseU s base has= .error 3):=by show _=_;unfold parseU;rw[if_pos h0]
  have hi:(4096:Int)<(s.length:Int):=by omega
  obtain⟨HRz,HBz⟩:=hT.put zeroU;clear h0 hT;unfold urlV;go_enter Tryz.func29,Tryz.ntmps29;go_wp2_with fail;exact⟨rfl,_,rParse_results rfl rfl HRz.out,by rw[HP.out];rfl,HBz.out⟩
 ·have hi:(s.length:Int)≤4096:=by omega
  by_cases hbad:has=true∧checkU base=false
  ·obtain⟨rfl,hck⟩:=hbad
   have HP:Hid (parseU s base true= .error 1):=by show _=_;unfold parseU;rw[if_neg h0,if_pos ⟨rfl,hck⟩]
   have cc:=rcheck_u base w2 hs hport;rw[hck]at cc;clear h0 hck;unfold urlV at cc⊢;go_enter Tryz.func29,Tryz.ntmps29;go_wp2_with fail;go_at_call 20;refine cc.mono ?_;rintro e w4 ⟨rfl,hb4⟩;have hT4:=hT.calm hb4;obtain⟨HRz,HBz⟩:=hT4.put zeroU;clear cc p0 p1 p2 p3 p4 p5 p6 p7 p8 p9 q0 q1 q2 q3 q4 q5 q6 q7 q8 q9 g0 g1 g2 g3 g4 g5 g6 g7 g8 g9;obtain⟨q0,q1,q2,q3,q4,q5,q6,q7,q8,q9⟩:=hT4.res.cells;obtain⟨g0,g1,g2,g3,g4,g5,g6,g7,g8,g9⟩:=hT4.res.frees;clear hT hT4 hb4;go_wp2_with fail;exact⟨rfl,_,rParse_results rfl rfl HRz.out,by rw[HP.out];rfl,HBz.out⟩
  ·have HPR:Hid (parseU s base has=readU s base has):=by show _=_;unfold parseU;rw[if_neg h0,if_neg hbad]
   have hck:has=true→checkU base=true:=fun h=>by
    cases hc:checkU base with
    |true=>rfl
    |false=>exact absurd ⟨h,hc⟩ hbad
   have cr:=fun W=>rparse_u s base has HSN.out W hz (fun h=>check_good (hck h))
   unfold ParOut at cr;have HK:=Lib.hid hck;have cc:=rcheck_u base w2 hs hport;clear h0 hbad hck HSN;unfold urlV at cc cr⊢;generalize hX:readU s base has=X at*;clear hX
   cases has with
   |false=>
    clear cc HK;go_enter Tryz.func29,Tryz.ntmps29;go_wp2_with fail;go_at_call 63
    cases X with
    |error k=>
     simp only[pairU,urlV]at cr;refine(cr _).mono ?_;rintro e W5 ⟨rfl,hb5⟩;have hW4:=hT.calm hb5;clear cr p0 p1 p2 p3 p4 p5 p6 p7 p8 p9 q0 q1 q2 q3 q4 q5 q6 q7 q8 q9 g0 g1 g2 g3 g4 g5 g6 g7 g8 g9;obtain⟨q0,q1,q2,q3,q4,q5,q6,q7,q8,q9⟩:=hW4.res.cells;obtain⟨g0,g1,g2,g3,g4,g5,g6,g7,g8,g9⟩:=hW4.res.frees;obtain⟨HRz,HBz⟩:=hW4.put zeroU;clear hW4 hb5;go_wp2_with fail;exact⟨rfl,_,rParse_results rfl rfl HRz.out,by rw[HPR.out];rfl,HBz.out⟩
    |ok v=>
     simp only[pairU,urlV]at cr;refine(cr _).mono ?_;rintro e W5 ⟨rfl,hb5⟩;have hW4:=hT.calm hb5;clear cr p0 p1 p2 p3 p4 p5 p6 p7 p8 p9 q0 q1 q2 q3 q4 q5 q6 q7 q8 q9 g0 g1 g2 g3 g4 g5 g6 g7 g8 g9;obtain⟨q0,q1,q2,q3,q4,q5,q6,q7,q8,q9⟩:=hW4.res.cells;obtain⟨g0,g1,g2,g3,g4,g5,g6,g7,g8,g9⟩:=hW4.res.frees;obtain⟨HRz,HBz⟩:=hW4.put v;clear hW4 hb5;go_wp2_with fail;exact⟨rfl,_,rParse_results rfl rfl HRz.out,by rw[HPR.out];rfl,HBz.out⟩
   |true=>
    rw[HK.out rfl]at cc;clear HK;go_enter Tryz.func29,Tryz.ntmps29;go_wp2_with fail;go_at_call 20;refine cc.mono ?_;rintro e w4 ⟨rfl,hb4⟩;have hT4:=hT.calm hb4;clear cc hT hb4 p0 p1 p2 p3 p4 p5 p6 p7 p8 p9 q0 q1 q2 q3 q4 q5 q6 q7 q8 q9 g0 g1 g2 g3 g4 g5 g6 g7 g8 g9;obtain⟨p0,p1,p2,p3,p4,p5,p6,p7,p8,p9⟩:=hT4.bs.cells;go_wp2_with fail;go_at_call 63
    cases X with
    |error k=>
     simp only[pairU,urlV]at cr;refine(cr _).mono ?_;rintro e W5 ⟨rfl,hb5⟩;have hW4:=hT4.calm hb5;clear cr p0 p1 p2 p3 p4 p5 p6 p7 p8 p9;obtain⟨q0,q1,q2,q3,q4,q5,q6,q7,q8,q9⟩:=hW4.res.cells;obtain⟨g0,g1,g2,g3,g4,g5,g6,g7,g8,g9⟩:=hW4.res.frees;obtain⟨HRz,HBz⟩:=hW4.put zeroU;clear hW4 hb5;go_wp2_with fail;exact⟨rfl,_,rParse_results rfl rfl HRz.out,by rw[HPR.out];rfl,HBz.out⟩
    |ok v=>
     simp only[pairU,urlV]at cr;refine(cr _).mono ?_;rintro e W5 ⟨rfl,hb5⟩;have hW4:=hT4.calm hb5;clear cr p0 p1 p2 p3 p4 p5 p6 p7 p8 p9;obtain⟨q0,q1,q2,q3,q4,q5,q6,q7,q8,q9⟩:=hW4.res.cells;obtain⟨g0,g1,g2,g3,g4,g5,g6,g7,g8,g9⟩:=hW4.res.frees;obtain⟨HRz,HBz⟩:=hW4.put v;clear hW4 hb5;go_wp2_with fail;exact⟨rfl,_,rParse_results rfl rfl HRz.out,by rw[HPR.out];rfl,HBz.out⟩
end Go.Proofs.YtlcnknlmdaochaaGreatDoor
