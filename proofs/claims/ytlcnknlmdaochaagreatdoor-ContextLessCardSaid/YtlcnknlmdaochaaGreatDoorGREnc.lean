/- The walks of the small functions of the reference of layer 2: bounds, biases, digits, numbers. -/
import Derived.Test.YtlcnknlmdaochaaGreatDoorGSigns
set_option linter.unusedVariables false
set_option linter.unusedSimpArgs false
set_option maxHeartbeats 16000000
namespace Go.Proofs.YtlcnknlmdaochaaGreatDoor
open Go.RowKit
theorem rbound_any (b k:Nat) (w:World) (hb:b≤1000000) (hk:k≤10000000000000):
 Calls Tryz.prog 333 #[.int .i64 k, .int .i64 b] w fun e w'=>e= .returned (.int .i64 (bnd b k))∧w=w':=by
 go_enter Tryz.func333,Tryz.ntmps333
 go_wp2
 all_goals(go_ret;refine⟨ret_int ?_,rfl⟩;unfold bnd;omega)
theorem rnext_no (n signs:Nat) (w:World) (hn:n≤68719476736) (hs:1≤signs) (hs2:signs≤68719476736):
 Calls Tryz.prog 304 #[.int .i64 n, .int .i64 signs, .bool false] w fun e w'=>e= .returned (.int .i64 (nextL n signs false))∧w=w':=by
 have q2:(0:Int)≤(n:Int)/2/(signs:Int)∧(n:Int)/2/(signs:Int)≤(n:Int)∧(n:Int)/2/(signs:Int)=((n/2/signs:Nat):Int):=divb n 2 signs
 obtain⟨q21,q22,q23⟩:=q2
 have Q2:=Lib.hid q23
 clear q23
 go_enter Tryz.func304,Tryz.ntmps304
 go_wp2
 go_loop [0,7] (fun x y=>∃m k:Nat,x= .int .i64 m∧y= .int .i64 k∧m≤137438953472∧k+36*m≤10000000000000∧Hid (adv m k=nextL n signs false)) (fun x _=>(intOf x).toNat)
 case atStart=>
  have h2:n/2/signs≤n:=Nat.le_trans (Nat.div_le_self _ _) (Nat.div_le_self _ _);exact⟨n/2+n/2/signs,0,by rw[Q2.out];go_num,rfl,by omega,by omega,by simp[Hid,nextL]⟩
 case round=>
  obtain⟨m,k,rfl,rfl,hm,hk,H⟩:=hrel;have hq:(36*(m:Int))/((m:Int)+38)=((36*m/(m+38):Nat):Int):=by rw[Int.natCast_ediv];congr 1
  have hq1:(0:Int)≤(36*(m:Int))/((m:Int)+38):=by rw[hq];exact Int.natCast_nonneg _
  have hq2:(36*(m:Int))/((m:Int)+38)≤36:=by
   rw[hq];have:36*m/(m+38)≤36:=Nat.div_le_of_le_mul (by omega);exact Int.ofNat_le.2 this
  have Hq:=Lib.hid hq;clear hq;go_wp2
  ·go_round
   case rel=>exact⟨m/35,k+36,by go_num,by go_num,by omega,by omega,by show _=_;rw[←H.out];exact(adv_big (by omega)).symm⟩
   case measure=>simp[intOf];omega
  ·go_ret
   refine⟨ret_int ?_,rfl⟩;rw[←H.out,adv_small (by omega),Hq.out];rfl
theorem rnext_yes (n signs:Nat) (w:World) (hn:n≤68719476736) (hs:1≤signs) (hs2:signs≤68719476736):
 Calls Tryz.prog 304 #[.int .i64 n, .int .i64 signs, .bool true] w fun e w'=>e= .returned (.int .i64 (nextL n signs true))∧w=w':=by
 have q2:(0:Int)≤(n:Int)/700/(signs:Int)∧(n:Int)/700/(signs:Int)≤(n:Int)∧(n:Int)/700/(signs:Int)=((n/700/signs:Nat):Int):=divb n 700 signs
 obtain⟨q21,q22,q23⟩:=q2
 have Q2:=Lib.hid q23
 clear q23
 go_enter Tryz.func304,Tryz.ntmps304
 go_wp2
 go_loop [0,7] (fun x y=>∃m k:Nat,x= .int .i64 m∧y= .int .i64 k∧m≤137438953472∧k+36*m≤10000000000000∧Hid (adv m k=nextL n signs true)) (fun x _=>(intOf x).toNat)
 case atStart=>
  have h2:n/700/signs≤n:=Nat.le_trans (Nat.div_le_self _ _) (Nat.div_le_self _ _);exact⟨n/700+n/700/signs,0,by rw[Q2.out];go_num,rfl,by omega,by omega,by simp[Hid,nextL]⟩
 case round=>
  obtain⟨m,k,rfl,rfl,hm,hk,H⟩:=hrel;have hq:(36*(m:Int))/((m:Int)+38)=((36*m/(m+38):Nat):Int):=by rw[Int.natCast_ediv];congr 1
  have hq1:(0:Int)≤(36*(m:Int))/((m:Int)+38):=by rw[hq];exact Int.natCast_nonneg _
  have hq2:(36*(m:Int))/((m:Int)+38)≤36:=by
   rw[hq];have:36*m/(m+38)≤36:=Nat.div_le_of_le_mul (by omega);exact Int.ofNat_le.2 this
  have Hq:=Lib.hid hq;clear hq;go_wp2
  ·go_round
   case rel=>exact⟨m/35,k+36,by go_num,by go_num,by omega,by omega,by show _=_;rw[←H.out];exact(adv_big (by omega)).symm⟩
   case measure=>simp[intOf];omega
  ·go_ret
   refine⟨ret_int ?_,rfl⟩;rw[←H.out,adv_small (by omega),Hq.out];rfl
theorem rnext_any (n signs:Nat) (b:Bool) (w:World) (hn:n≤68719476736) (hs:1≤signs) (hs2:signs≤68719476736):
 Calls Tryz.prog 304 #[.int .i64 n, .int .i64 signs, .bool b] w fun e w'=>e= .returned (.int .i64 (nextL n signs b))∧w=w':=by
 cases b
 ·exact rnext_no n signs w hn hs hs2
 ·exact rnext_yes n signs w hn hs hs2
theorem rdigit_any (c:UInt8) (w:World):
 Calls Tryz.prog 334 #[.int .u8 c.toNat] w fun e w'=>e= .returned (.int .i64 (digI c.toNat))∧w=w':=by
 have hlt:=c.toNat_lt
 go_enter Tryz.func334,Tryz.ntmps334
 go_wp2
 all_goals(go_ret;refine⟨ret_int ?_,rfl⟩;go_light;unfold digI;grind)
def numberV (s:List UInt8) (r:Option (Nat×List UInt8)):Value:=match r with
 |some (m,t)=> .tuple #[.int .i64 m, .int .i64 ((s.length-t.length:Nat):Int), .bool true]
 |none=> .tuple #[.int .i64 0, .int .i64 0, .bool false]
theorem number_any (b:Nat) (s:List UInt8) (i n:Nat) (w:World) (hb:b≤1000000) (hs:s.length≤65536) (hi:i≤s.length) (hn:n≤2147483648):
 Calls Tryz.prog 305 #[.string ⟨s.toArray⟩, .int .i64 i, .int .i64 n, .int .i64 b] w fun e w'=>e= .returned (numberV s (readL b (s.drop i) 36 1 n))∧w=w':=by
 go_enter Tryz.func305,Tryz.ntmps305
 go_wp2
 go_loop [1,2,11,12] (fun a2 a3 a4 a5=>∃(j m v k:Nat),a2= .int .i64 j∧a3= .int .i64 m∧a4= .int .i64 v∧a5= .int .i64 k∧j≤s.length∧m≤2147483648∧v≤75161927645∧k≤36+36*j∧Hid (readL b (s.drop j) k v m=readL b (s.drop i) 36 1 n)) (fun a2 _ _ _=>s.length-(intOf a2).toNat)
 case atStart=>exact⟨i,n,1,36,rfl,rfl,rfl,rfl,hi,hn,by omega,by omega,rfl⟩
 case round=>
  obtain⟨j,m,v,k,rfl,rfl,rfl,rfl,hj,hm,hv,hk,H⟩:=hrel;by_cases hlt:j<s.length
  ·have e:=List.drop_eq_getElem_cons hlt
   have E:=Lib.hid e;clear e;have hd:=digI_bd s[j].toNat;obtain⟨hd1,hd2⟩:=hd;have hb2:=bnd_bd b k;obtain⟨hb3,hb4⟩:=hb2;have hp1: -75161927645≤digI s[j].toNat*(v:Int):=by
    have:=Int.mul_le_mul_of_nonneg_right hd1 (Int.natCast_nonneg v);omega
   have hp2:digI s[j].toNat*(v:Int)≤2630667467575:=by
    have:=Int.mul_le_mul_of_nonneg_right hd2 (Int.natCast_nonneg v);omega
   have hp3:0≤(v:Int)*(36-(bnd b k:Int)):=Int.mul_nonneg (Int.natCast_nonneg v) (by omega);have hp4:(v:Int)*(36-(bnd b k:Int))≤2630667467575:=by
    have:=Int.mul_le_mul_of_nonneg_left (show 36-(bnd b k:Int)≤35 by omega) (Int.natCast_nonneg v);omega
   have hl:s.length-(s.drop (j+1)).length=j+1:=by simp;omega
   have HL:=Lib.hid hl;clear hl;go_wp2_with(first|(go_at_call 334;refine(rdigit_any s[j] _).mono ?_;rintro e w' ⟨rfl,rfl⟩)|(go_at_call 333;refine(rbound_any b k _ (by omega) (by omega)).mono ?_;rintro e w' ⟨rfl,rfl⟩))
   all_goals first
    |(go_ret3;refine⟨?_,rfl⟩;rw[←H.out,E.out];go_light
      first
       |(rw[readL_neg (by first|assumption|omega)];rfl)
       |(rw[readL_big (by first|assumption|omega) (by first|assumption|omega)];rfl)
       |(rw[readL_end (by first|assumption|omega) (by first|assumption|omega) (by first|assumption|omega)];simp only[numberV,HL.out,readL_sum (c:=s[j]) (by first|assumption|omega)];rfl))
    |(go_round
      case rel=>
       obtain⟨g1,g2,g3⟩:=readL_weight (b:=b) (c:=s[j]) (k:=k) (w:=v) (n:=m) (by first|assumption|omega) (by first|assumption|omega) (by first|assumption|omega);exact⟨j+1,_,_,k+36,by go_num,by rw[readL_sum (by first|assumption|omega)],by rw[g3],by go_num,by omega,Nat.le_succ_of_le g1,g2,by omega,by show _=_;rw[←H.out,E.out];exact(readL_go (by first|assumption|omega) (by first|assumption|omega) (by first|assumption|omega)).symm⟩
      case measure=>simp[intOf];omega)
  ·obtain rfl:j=s.length:=by omega
   go_wp2;go_ret3;refine⟨?_,rfl⟩;rw[←H.out,List.drop_length];rfl
theorem digs_take (d:Nat) (h:d<36):List.take 1 (List.drop d ([97,98,99,100,101,102,103,104,105,106,107,108,109,110,111,112,113,114,115,116,117,118,119,120,121,122,48,49,50,51,52,53,54,55,56,57]:List UInt8))=[UInt8.ofNat (digB d)]:=by
 rw[List.drop_eq_getElem_cons (by exact h),List.take_succ_cons,List.take_zero,digs_get d h]
set_option maxRecDepth 100000 in
theorem rtold_any (n0 b:Nat) (w:World) (hn:n0≤68719476736) (hb:b≤1000000):
 Calls Tryz.prog 303 #[.int .i64 (n0:Int), .int .i64 (b:Int)] w fun e w'=>e= .returned (.string ⟨(toldL n0 b 36).toArray⟩)∧w=w':=by
 obtain⟨T,hT⟩:∃T,toldL n0 b 36=T:=⟨_,rfl⟩
 rw[hT]
 have hTH:=Lib.hid hT
 have hTl38:T.length≤38:=by rw[←hT];exact toldL_bd hn
 clear hT
 go_enter Tryz.func303,Tryz.ntmps303
 go_wp2
 go_loop [0,5,7] (fun nv sv kv=>∃(n k:Nat) (pre:List UInt8),nv= .int .i64 (n:Int)∧kv= .int .i64 (k:Int)∧sv= .string ⟨pre.toArray⟩∧Hid (T=pre++toldL n b k)∧n≤68719476736∧k≤36*(68719476736-n)+36) (fun nv _ _=>(intOf nv).toNat)
 case atStart=>exact⟨n0,36,[],rfl,rfl,rfl,by rw[←hTH.out];exact rfl,hn,by omega⟩
 case round=>
  obtain⟨m',k,pre,rfl,rfl,rfl,hT',hm',hk⟩:=hrel;have hpl:pre.length≤38:=by have:=congrArg List.length hT'.out;rw[List.length_append]at this;omega
  have hbd:=bnd_bd b k;by_cases hlast:m'<bnd b k
  ·have hl36:m'<36:=by omega
   have hTl:Hid (T=pre++[UInt8.ofNat (digB m')]):=by show _=_;rw[hT'.out,told_last hlast]
   clear hT';go_wp2_with(go_at_call 333;refine(rbound_any b k _ (by omega) (by omega)).mono ?_;rintro e w' ⟨rfl,rfl⟩);go_ret;refine⟨?_,rfl⟩;rw[ba_append,digs_take m' hl36,←hTl.out];rfl
  ·obtain⟨t,ht⟩:∃t,bnd b k=t:=⟨_,rfl⟩
   have ht1:1≤t:=by omega
   have ht2:t≤26:=by omega
   have htm:t≤m':=by omega
   have hTl:Hid (T=pre++UInt8.ofNat (digB (t+(m'-t) % (36-t)))::toldL ((m'-t)/(36-t)) b (k+36)):=by show _=_;rw[hT'.out,told_more (by omega),ht]
   have hr0:(0:Int)≤((m':Int)-(t:Int)) % (36-(t:Int)):=Int.emod_nonneg _ (by omega);have hr1:((m':Int)-(t:Int)) % (36-(t:Int))<36-(t:Int):=Int.emod_lt_of_pos _ (by omega);have hr2:((m':Int)-(t:Int)) % (36-(t:Int))=(((m'-t) % (36-t):Nat):Int):=by
    rw[Int.natCast_emod,Int.natCast_sub (by omega),Int.natCast_sub (by omega)];rfl
   have hq2:((m':Int)-(t:Int))/(36-(t:Int))=(((m'-t)/(36-t):Nat):Int):=by
    rw[Int.natCast_ediv,Int.natCast_sub (by omega),Int.natCast_sub (by omega)];rfl
   have hq3:(m'-t)/(36-t)≤m'-t:=Nat.div_le_self _ _;have q0:(0:Int)≤((m':Int)-(t:Int))/(36-(t:Int)):=Int.ediv_nonneg (by omega) (by omega);have q1:((m':Int)-(t:Int))/(36-(t:Int))≤(m':Int):=by rw[hq2];omega
   have hbt:∀w,Calls Tryz.prog 333 #[.int .i64 k, .int .i64 b] w fun e w'=>e= .returned (.int .i64 (t:Int))∧w=w':=fun w=>by rw[←ht];exact rbound_any b k w (by omega) (by omega)
   have hqi:=Lib.hid hq2;have hri:=Lib.hid hr2;clear hq2 hr2 hT' ht hbd hlast;go_wp2_with(go_at_call 333;refine(hbt _).mono ?_;rintro e w' ⟨rfl,rfl⟩);have hd36:t+(m'-t) % (36-t)<36:=by have:=Nat.mod_lt (m'-t) (show 0<36-t by omega);omega
   rw[ba_append,digs_take _ hd36,hqi.out];refine⟨⟨(m'-t)/(36-t),k+36,_,rfl,rfl,rfl, ?_,by omega,by omega⟩,by simp[intOf];omega⟩;show _=_;rw[hTl.out];simp
def minL (last:Nat) (l:List Nat):Nat:=l.foldl (fun m c=>if last≤c∧c<m then c else m) 1114112
theorem minL_snoc (last c:Nat) (l:List Nat):minL last (l++[c])=if last≤c∧c<minL last l then c else minL last l:=by rw[minL,List.foldl_append];rfl
theorem minL_ge (last m:Nat):∀(l:List Nat) (a:Nat),m≤a→(∀c∈l,last≤c→m≤c)→m≤l.foldl (fun m c=>if last≤c∧c<m then c else m) a
 |[],a,ha,_=>ha
 |c::l,a,ha,hc=>by
  rw[List.foldl_cons];refine minL_ge last m l _ ?_ (fun d hd=>hc d (List.mem_cons_of_mem _ hd));split
  ·rename_i h;exact hc c List.mem_cons_self h.1
  ·exact ha
theorem minL_le (last m:Nat) (hm:last≤m):∀(l:List Nat) (a:Nat),(m∈l∨a≤m)→l.foldl (fun m c=>if last≤c∧c<m then c else m) a≤m
 |[],a,h=>by simpa using h
 |c::l,a,h=>by
  rw[List.foldl_cons];refine minL_le last m hm l _ ?_;rcases h with h|h
  ·rcases List.mem_cons.1 h with rfl|h
   ·right;split<;>omega
   ·exact .inl h
  ·right;split<;>omega
theorem OutOk.least {R:List Nat} {p:Nat} {x:Nat×ES} {m:Nat} {rest:List Nat} (h:OutOk R p x (m::rest)):minL x.1 R=m:=by
 have hm:=h.mem m List.mem_cons_self;have hge:∀c∈R,x.1≤c→m≤c:=fun c hc hx=>by
  rcases List.mem_cons.1 (h.compl c hc hx)with h6|h6
  ·omega
  ·exact Nat.le_of_lt ((List.pairwise_cons.1 h.sorted).1 c h6)
 exact Nat.le_antisymm (minL_le x.1 m hm.2.1 R _ (.inl hm.1)) (minL_ge x.1 m R _ (by omega) hge)
theorem minL_bd (last:Nat):∀(l:List Nat) (a:Nat),a≤1114112→l.foldl (fun m c=>if last≤c∧c<m then c else m) a≤1114112
 |[],a,h=>h
 |c::l,a,h=>by
  rw[List.foldl_cons];refine minL_bd last l _ ?_;split<;>omega
theorem take_next {R:List Nat} {i:Nat} (h:i<R.length):R.take (i+1)=R.take i++[R.getD i 0]:=by
 rw[List.take_succ_eq_append_getElem h];simp[h]
theorem plainB_take {R:List Nat} {i:Nat} (h:i<R.length):plainB (R.take (i+1))=if R.getD i 0<128 then plainB (R.take i)++[UInt8.ofNat (R.getD i 0)]else plainB (R.take i):=by
 rw[take_next h,plainB,List.filter_append,List.map_append];split<;>simp_all[plainB]
theorem own1 (w:World) (x:Nat) (h:x<256):(w.alloc (.cells #[.int .u8 (x:Int)] 5)).ownsRow w.heap.size 5 1 (.slice (some ⟨w.heap.size,0,none⟩) 1 1) [UInt8.ofNat x].length ([UInt8.ofNat x].map fun c=> .int .u8 (c.toNat:Int)):=by
 refine⟨rfl, .inr ⟨w.heap.size,1,_,rfl,Nat.le_refl _,World.alloc_heap_new w _,Nat.le_refl _,by unfold maxLen;omega,rfl, ?_⟩⟩;simp only[List.map_cons,List.map_nil,u8_of h];rfl
set_option maxRecDepth 1000000 in
theorem rencode_walk (s:List UInt8) (w:World) (hs:s.length≤18000) (hv:Lib.validD s=true):
 Calls Tryz.prog 263 #[.string ⟨s.toArray⟩] w fun e w'=>e= .returned (.tuple #[.string ⟨(encR (runes s)).toArray⟩, .int .i64 0])∧Below w.heap.size w w':=by
 have hb:decide (65536<(s.length:Int))=false:=by simp;omega
 have cs:Calls Tryz.prog 261 #[.string ⟨s.toArray⟩] w fun e w'=>∃v,e= .returned (.tuple #[v, .bool true])∧w'.ownsRow w.heap.size 3 1 v (runes s).length (i64s (runes s))∧Below w.heap.size w w':=by
  refine(signs_any s w (by omega)).mono ?_;rintro e w' ⟨⟨_,v,he,ho⟩|⟨hf,_⟩,hbl⟩
  ·exact⟨v,he,ho,hbl⟩
  ·rw[hv]at hf;cases hf
 have hRl:=runes_len _ s (Nat.le_refl _)
 have hRx:=runes_le _ s (Nat.le_refl _)
 generalize runes s=R at*
 have hRx':=Lib.hid hRx
 clear hv hRx
 go_enter Tryz.func263,Tryz.ntmps263
 iterate 8 go_step
 go_wp2_with(go_at_call 261;refine cs.mono ?_;rintro e w1 ⟨v,rfl,hown,hb1⟩)
 obtain⟨c,hv,hc⟩:∃(c:Option Addr×Nat),v= .slice c.1 R.length c.2∧∀k,k<R.length→∃g,c.1=some ⟨g,0,none⟩∧g<w1.heap.size∧w1.cell? ⟨g,k,none⟩=some (.int .i64 (R.getD k 0:Nat)):=by
  rcases own_open hown with ⟨rfl,h0,_⟩|⟨g,cap,rfl,_,hg,_,_,hcell⟩
  ·exact⟨(none,0),by rw[h0],fun k hk=>by omega⟩
  ·exact⟨(some ⟨g,0,none⟩,cap),rfl,fun k hk=>⟨g,rfl,hg,hcell k _ (by simp[hk])⟩⟩
 obtain⟨a0,cap⟩:=c
 simp only at hv hc
 subst hv
 have Hc:=Lib.hid hc
 clear hown hc cs
 go_loopw [6,7] (fun ov iv wr=>∃i:Nat,i≤R.length∧iv= .int .i64 (i:Int)∧ov= .string ⟨(plainB (R.take i)).toArray⟩∧Below w1.heap.size w1 wr) (fun _ iv _=>R.length-(intOf iv).toNat)
 case atStart=>exact⟨0,Nat.zero_le _,rfl,rfl,Below.refl _ _⟩
 case round=>
  obtain⟨i,hil,rfl,rfl,hbl⟩:=hrel;have hpl:(plainB (R.take i)).length≤18000:=by
   simp only[plainB,List.length_map];have:=List.length_filter_le (·<128) (R.take i);have h2:(R.take i).length≤R.length:=by simp;omega
   omega
  by_cases hlt:i<R.length
  ·obtain⟨g,rfl,hg,hcell0⟩:=Hc.out i hlt
   have hcell:wr.cell? ⟨g,i,none⟩=some (.int .i64 (R.getD i 0:Nat)):=(hbl.cell (p:=⟨g,i,none⟩) hg).trans hcell0;clear hcell0;have hPT:=Lib.hid (plainB_take hlt);generalize R.getD i 0=x at*;by_cases h128:x<128
   ·have hcv:=convert_bytes_own (P:=Tryz.prog) (src:=61) (dst:=9) (e:=5) (l:=[UInt8.ofNat x]) Tryz.underlying61 Tryz.underlying5 Tryz.underlying9 (own1 wr x (by omega))
    have hPT2:Hid (plainB (R.take (i+1))=plainB (R.take i)++[UInt8.ofNat x]):=by show _=_;rw[hPT.out,if_pos h128]
    clear hPT;go_wp2_with fail;refine⟨⟨i+1,by omega,by go_num, ?_,hbl.trans ((below_alloc wr _).mono hbl.size)⟩,by simp[intOf];omega⟩;rw[hPT2.out,←ba_append]
   ·have hPT2:Hid (plainB (R.take (i+1))=plainB (R.take i)):=by show _=_;rw[hPT.out,if_neg h128]
    clear hPT;go_wp2_with fail;exact⟨⟨i+1,by omega,by go_num,by rw[hPT2.out],hbl⟩,by simp[intOf];omega⟩
  ·obtain rfl:i=R.length:=by omega
   rw[List.take_length]at hpl⊢;go_upto_if 50 with fail;go_cut [6]from 46 to 52 (fun s6 wx=>wr=wx∧s6= .string ⟨(startOut R).toArray⟩)
   case first=>
    by_cases h0:0<(plainB R).length
    ·have h0i:decide ((0:Int)<((plainB R).length:Int))=true:=by simp;omega
     have e1:Hid (startOut R=plainB R++[45]):=by show _=_;unfold startOut;rw[if_pos h0]
     go_wp2_with fail;go_meet
     case rel=>
      refine⟨rfl, ?_⟩;rw[e1.out,←ba_append]
    ·have e1:Hid (startOut R=plainB R):=by show _=_;unfold startOut;rw[if_neg h0,List.append_nil]
     go_wp2_with fail;go_meet
     case rel=>exact⟨rfl,by rw[e1.out]⟩
   case rest=>
    obtain⟨rfl,rfl⟩:=hcut;clear hpl hlt;go_wp2_with fail;go_loopg [6,9,10,11,12] (msN R).length (fun gk ov many bias num last wx=>wr=wx∧∃(mpre mrest:List Nat) (x:Nat×ES),Hid (msN R=mpre++mrest)∧Hid (runS R (plainB R).length mpre (start R)=x)∧OutOk R (plainB R).length x mrest∧gk=mrest.length∧ov= .string ⟨x.2.out.toArray⟩∧many= .int .i64 (x.2.many:Int)∧bias= .int .i64 (x.2.b:Int)∧num= .int .i64 (x.2.n:Int)∧last= .int .i64 (x.1:Int))
    case atStart=>exact⟨rfl,[],msN R,start R,rfl,rfl,start_ok R hRx'.out,rfl,rfl,rfl,rfl,rfl,rfl⟩
    case round=>
     obtain⟨rfl,mpre,mrest,x,hmsr,hrun,hok,rfl,rfl,rfl,rfl,rfl,rfl⟩:=hrel;have hR7:R.length≤20000:=by omega
     cases mrest with
     |nil=>
      have hdone:=hok.done;have hdn:¬x.2.many<R.length:=by omega
      have hres:Hid (encR R=x.2.out):=by
       have h1:=hmsr.out;rw[List.append_nil]at h1;show _=_;rw[encR,h1,hrun.out]
      clear hdone;go_wp2_with fail;go_ret2;exact⟨by rw[hres.out];rfl,hb1.trans (hbl.mono hb1.size)⟩
     |cons m mrest=>
      have hmore:=hok.more;obtain⟨hq1,hm7,hn7,hx1,hm1⟩:=hok.start_n hR7;have hlo:=hok.lo;have hbb:=hok.b;have hP2:((m:Int)-(x.1:Int))*((x.2.many:Int)+1)=(((m-x.1)*(x.2.many+1):Nat):Int):=by
       rw[Int.natCast_mul,Int.natCast_sub (by omega)];rfl
      have hP0:(0:Int)≤((m:Int)-(x.1:Int))*((x.2.many:Int)+1):=by rw[hP2];omega
      have hP1:((m:Int)-(x.1:Int))*((x.2.many:Int)+1)≤22280773983:=by rw[hP2];omega
      have hPH:=Lib.hid hP2;have hlst:=Lib.hid hok.least;clear hP2 hq1;go_wp2_with fail;go_loop [13,14] (fun mv iv=>∃i:Nat,i≤R.length∧iv= .int .i64 (i:Int)∧mv= .int .i64 ((minL x.1 (R.take i):Nat):Int)) (fun _ iv=>R.length-(intOf iv).toNat)
      case atStart=>exact⟨0,Nat.zero_le _,rfl,rfl⟩
      case round=>
       obtain⟨i,hil,rfl,rfl⟩:=hrel;by_cases hlt:i<R.length
       ·obtain⟨g,rfl,hg,hcell0⟩:=Hc.out i hlt
        have hcell:wr.cell? ⟨g,i,none⟩=some (.int .i64 (R.getD i 0:Nat)):=(hbl.cell (p:=⟨g,i,none⟩) hg).trans hcell0;clear hcell0;have hsn:=Lib.hid (minL_snoc x.1 (R.getD i 0) (R.take i));rw[←take_next hlt]at hsn;have hmb:minL x.1 (R.take i)≤1114112:=minL_bd _ _ _ (Nat.le_refl _);generalize R.getD i 0=c at*;generalize minL x.1 (R.take i)=mm at*;by_cases h1:x.1≤c
        ·by_cases h2:c<mm
         ·have hn:Hid (minL x.1 (R.take (i+1))=c):=by show _=_;rw[hsn.out,if_pos ⟨h1,h2⟩]
          clear hsn;go_wp2_with fail;exact⟨⟨i+1,by omega,by go_num,by rw[hn.out]⟩,by simp[intOf];omega⟩
         ·have hn:Hid (minL x.1 (R.take (i+1))=mm):=by show _=_;rw[hsn.out,if_neg (fun h=>h2 h.2)]
          clear hsn;go_wp2_with fail;exact⟨⟨i+1,by omega,by go_num,by rw[hn.out]⟩,by simp[intOf];omega⟩
        ·have hn:Hid (minL x.1 (R.take (i+1))=mm):=by show _=_;rw[hsn.out,if_neg (fun h=>h1 h.1)]
         clear hsn;go_wp2_with fail;exact⟨⟨i+1,by omega,by go_num,by rw[hn.out]⟩,by simp[intOf];omega⟩
       ·obtain rfl:i=R.length:=by omega
        rw[List.take_length,hlst.out];go_wp2_with fail;go_loop [6,9,10,11,15] (fun ov many bias num iv=>∃(i:Nat) (st:ES),i≤R.length∧iv= .int .i64 (i:Int)∧Hid (passS m (plainB R).length (R.take i) ⟨x.2.b,x.2.n+(m-x.1)*(x.2.many+1),x.2.many,x.2.out⟩=st)∧ov= .string ⟨st.out.toArray⟩∧many= .int .i64 (st.many:Int)∧bias= .int .i64 (st.b:Int)∧num= .int .i64 (st.n:Int)) (fun _ _ _ _ iv=>R.length-(intOf iv).toNat)
        case atStart=>exact⟨0,⟨x.2.b,x.2.n+(m-x.1)*(x.2.many+1),x.2.many,x.2.out⟩,Nat.zero_le _,rfl,rfl,rfl,rfl,rfl,by show Value.int _ _=_;rw[Int.natCast_add,←hPH.out]⟩
        case round=>
         obtain⟨i,st,hil2,rfl,hst,rfl,rfl,rfl,rfl⟩:=hrel;obtain⟨sb,sn,sm,sp,so⟩:=hok.pass_bd hR7 (R.take i) (R.drop i) (List.take_append_drop i R).symm hst.out;by_cases hlt2:i<R.length
         ·obtain⟨g,rfl,hg,hcell0⟩:=Hc.out i hlt2
          have hcell:wr.cell? ⟨g,i,none⟩=some (.int .i64 (R.getD i 0:Nat)):=(hbl.cell (p:=⟨g,i,none⟩) hg).trans hcell0;clear hcell0;have htn:=Lib.hid (take_next hlt2);generalize R.getD i 0=c at*;rcases Nat.lt_trichotomy c m with hcm|hcm|hcm
          ·have hn:Hid (passS m (plainB R).length (R.take (i+1)) ⟨x.2.b,x.2.n+(m-x.1)*(x.2.many+1),x.2.many,x.2.out⟩=⟨st.b,st.n+1,st.many,st.out⟩):=by
            show _=_;rw[htn.out,passS_snoc,hst.out,stepS,if_pos hcm]
           go_wp2_with fail;exact⟨⟨i+1,_,by omega,by go_num,hn,rfl,rfl,rfl,rfl⟩,by simp[intOf];omega⟩
          ·subst hcm
           have hn:Hid (passS c (plainB R).length (R.take (i+1)) ⟨x.2.b,x.2.n+(c-x.1)*(x.2.many+1),x.2.many,x.2.out⟩=⟨nextL st.n (st.many+1) (decide (st.many=(plainB R).length)),0,st.many+1,st.out++toldL st.n st.b 36⟩):=by
            show _=_;rw[htn.out,passS_snoc,hst.out,stepS,if_neg (by omega),if_pos rfl]
           have htl:=toldL_bd (n:=st.n) (b:=st.b) (k:=36) (by omega);have cn:∀w,Calls Tryz.prog 304 #[.int .i64 (st.n:Int), .int .i64 ((st.many:Int)+1), .bool ((st.many:Int)==((plainB R).length:Int))] w fun e w'=>e= .returned (.int .i64 ((nextL st.n (st.many+1) (decide (st.many=(plainB R).length)):Nat):Int))∧w=w':=fun w=>by
            have:=rnext_any st.n (st.many+1) (decide (st.many=(plainB R).length)) w (by omega) (by omega) (by omega);have e:((st.many:Int)==((plainB R).length:Int))=decide (st.many=(plainB R).length):=by rw[Bool.eq_iff_iff];simp;omega
            rw[e];exact this
           go_wp2_with(first|(go_at_call 304;refine(cn _).mono ?_;rintro e w' ⟨rfl,rfl⟩)|(go_at_call 303;refine(rtold_any st.n st.b _ (by omega) (by omega)).mono ?_;rintro e w' ⟨rfl,rfl⟩));refine⟨⟨i+1,_,by omega,by go_num,hn, ?_,rfl,rfl,rfl⟩,by simp[intOf];omega⟩;rw[ba_append]
          ·have hn:Hid (passS m (plainB R).length (R.take (i+1)) ⟨x.2.b,x.2.n+(m-x.1)*(x.2.many+1),x.2.many,x.2.out⟩=st):=by
            show _=_;rw[htn.out,passS_snoc,hst.out,stepS,if_neg (by omega),if_neg (by omega)]
           go_wp2_with fail;exact⟨⟨i+1,_,by omega,by go_num,hn,rfl,rfl,rfl,rfl⟩,by simp[intOf];omega⟩
         ·obtain rfl:i=R.length:=by omega
          have hst2:=hst.out;rw[List.take_length]at hst2;have ho:Hid (outS R (plainB R).length x m=(m+1,⟨st.b,st.n+1,st.many,st.out⟩)):=by show _=_;simp only[outS,hst2]
          clear hst2;go_wp2_with fail;go_roundg mrest.length
          case measure=>simp
          case rel=>
           refine⟨rfl,mpre++[m],mrest,(m+1,⟨st.b,st.n+1,st.many,st.out⟩), ?_, ?_, ?_,rfl,rfl,rfl,rfl,rfl,rfl⟩
           ·show _=_
            rw[hmsr.out];simp
           ·show _=_
            rw[runS_snoc,hrun.out,ho.out]
           ·rw[←ho.out];exact hok.next hR7
set_option maxRecDepth 100000 in
theorem rencode_long (s:List UInt8) (w:World) (hs:65536<s.length) (hm:s.length≤140737488351232):
 Calls Tryz.prog 263 #[.string ⟨s.toArray⟩] w fun e w'=>e= .returned (.tuple #[.string ⟨#[]⟩, .int .i64 3])∧w=w':=by
 have hb:decide (65536<(s.length:Int))=true:=by simp;omega
 clear hs
 go_enter Tryz.func263,Tryz.ntmps263
 iterate 8 go_step
 go_wp2_with fail
 go_ret2
 exact⟨rfl,rfl⟩
set_option maxRecDepth 100000 in
theorem rencode_bad (s:List UInt8) (w:World) (hs:s.length≤65536) (hv:Lib.validD s=false):
 Calls Tryz.prog 263 #[.string ⟨s.toArray⟩] w fun e w'=>e= .returned (.tuple #[.string ⟨#[]⟩, .int .i64 4])∧Below w.heap.size w w':=by
 have hb:decide (65536<(s.length:Int))=false:=by simp;omega
 have cs:Calls Tryz.prog 261 #[.string ⟨s.toArray⟩] w fun e w'=>e= .returned (.tuple #[.slice none 0 0, .bool false])∧Below w.heap.size w w':=by
  refine(signs_any s w hs).mono ?_;rintro e w' ⟨⟨hf,_⟩|⟨_,he⟩,hbl⟩
  ·rw[hv]at hf;cases hf
  ·exact⟨he,hbl⟩
 clear hs hv
 go_enter Tryz.func263,Tryz.ntmps263
 iterate 8 go_step
 go_wp2_with(go_at_call 261;refine cs.mono ?_;rintro e w1 ⟨rfl,hb1⟩)
 go_ret2
 exact⟨rfl,hb1⟩
theorem rencode_any (s:List UInt8) (w:World) (hs:s.length≤18000∨65536<s.length) (hm:s.length≤140737488351232):
 Calls Tryz.prog 263 #[.string ⟨s.toArray⟩] w fun e w'=>e= .returned (encV (encodeL s))∧Below w.heap.size w w':=by
 unfold encodeL
 rcases hs with hs|hs
 ·rw[if_neg (by omega)]
  cases hv:Lib.validD s with
  |true=>exact rencode_walk s w hs hv
  |false=>exact rencode_bad s w (by omega) hv
 ·rw[if_pos hs]
  refine(rencode_long s w hs hm).mono ?_;rintro e w' ⟨he,rfl⟩;exact⟨he,Below.refl _ _⟩
end Go.Proofs.YtlcnknlmdaochaaGreatDoor
