/- A range over a function whose iterator stores into cells of its own capture; no round leaves the loop. After the kit's law for a body that keeps, one premise more: the caller's invariant abides the iterator's stores. -/
import Derived.Test.YtjkipdoebkhkaaaGreatDoorGMath
import Derived.RangeFuncBox
import Derived.Test.YtjkipdoebkhkaaaGreatDoorShelf
import Derived.Shelf.Strings.BuilderK
import Derived.RangeFuncCalls
import Derived.OwnWalkIn
import Derived.TacticsInMore
import Derived.LoopNIn
import Derived.LoopIn
set_option linter.unusedVariables false
set_option linter.unusedSimpArgs false
set_option maxHeartbeats 16000000
namespace Go.Proofs.YtjkipdoebkhkaaaGreatDoor
open Go.RowKit
def SeqS {α:Type} (F:Fence) (n:Nat) (P:Program) (g:Nat) (lb:Array Value) (encs:α→Array Value) (Bs:Nat→Prop) (Kp:World→World→Prop) (T:List α) (w:World):Prop:=
 ∀(l:Nat) (J:List α→World→Prop) (W:World),Below w.heap.size w W→AbidesFrom W.heap.size J→(∀b v s A,Bs b→J s A→J s (A.setCell ⟨b,0,none⟩ v))→
  (∀pre x rest W1,J pre W1→T=pre++x::rest→YieldAt F (n-1) P l (encs x) W1 fun e W'=>e= .returned (.bool true)∧J (pre++[x]) W'∧Kp W1 W')→
  J [] W→
  CallsIn F n P g (#[.func (.yield l) #[] #[]]++lb) W fun e W'=>(∃v,e= .returned v)∧J T W'
variable {F:Fence} {n:Nat} {P:Program}
theorem wpIn_rangeFunc_ownS {α:Type} {g:Operand} {ps:Array Tmp} {assign body:Code} {Q:Exit→Act→World→Prop} {a:Act} {w:World}
 (hro:F.round=none) (h1:1≤n) {gf:Nat} {lb:Array Value} (hg:a.eval g= .func (.func gf) #[] lb) (hFg:F.fn gf) (eg:∀args w,(callFunc gf args).run P w= .ok (.enter gf args) w)
 {encs:α→Array Value} {Bs:Nat→Prop} {Kp:World→World→Prop} {T:List α} (hseq:SeqS F (n-1) P gf lb encs Bs Kp T w)
 (hKt:∀ {A B C:World},Kp A B→Kp B C→Kp A C) (hKb:∀(W:World) (l:Nat) (o':Obj),w.heap.size≤l→Kp W (W.putObj l o')) (hps:∀x,(encs x).size=ps.size)
 (hBs:∀b,Bs b→b<w.heap.size)
 (I:List α→World→Prop) (hI:OwnFrom w.heap.size I) (hIs:∀b v s A,Bs b→I s A→I s (A.setCell ⟨b,0,none⟩ v)) (h0:I [] w)
 (hround:∀(l:Nat) (x:α) (W:World),assign.wpIn (F.inRound l) (n-1-1) P (Exit.then (fun a1 W1=>W1=W∧∀(pre rest:List α) (W2:World),I pre W2→T=pre++x::rest→
  body.wpIn (F.inRound l) (n-1-1) P (fun e _ W'=>e= .normal∧KeepsFrom w.heap.size W2 W'∧Kp W2 W'∧I (pre++[x]) W') a1 W2) (fun _ _ _=>False))
  {tmps:=(ps.zip (encs x)).foldl (fun t (p,v)=>t.setIfInBounds p v) a.tmps,defers:=[]} W)
 (hdone:∀(D:Nat) (W:World),w.heap.size≤D→I T W→W.heap[D]?=some (.deferred (some []))→Q .normal {a with defers:= {target:= .collected D,args:= #[]}::a.defers} W):
 (Code.rangeFunc g ps assign body).wpIn F n P Q a w:=by
 refine wpIn_rangeFunc ?_
 intro fn hfn
 rw[hro]
 obtain⟨rec,hrec⟩:∃rec:LoopState→Option Code→Loop,rec=fun st pe=> {state:=st,pending:=pe,fn,tmps:=a.tmps,params:=ps,assign,body,defers:=w.heap.size}:=⟨_,rfl⟩
 obtain⟨W1,hW1⟩:∃W1,(w.alloc (.deferred (some []))).alloc (.loop (rec .ready none))=W1:=⟨_,rfl⟩
 have hL1:W1.heap[w.heap.size+1]?=some (.loop (rec .ready none)):=by
  rw[←hW1];have:=World.alloc_heap_new (w.alloc (.deferred (some []))) (.loop (rec .ready none));rwa[World.size_alloc]at this
 have hK1:W1.heap[w.heap.size]?=some (.deferred (some [])):=by
  rw[←hW1];exact(Below.heap_alloc _ _ _ (by simp)).trans (World.alloc_heap_new w _)
 have hI1:I [] W1:=by rw[←hW1];exact hI.alloc _ (hI.alloc _ h0)
 have hb1:Below w.heap.size w W1:=by
  rw[←hW1];exact(((Below.refl _ w).alloc (Nat.le_refl _) _).alloc (by simp) _)
 refine⟨w.heap.size+1,[{target:= .collected w.heap.size,args:= #[]}],W1, {target:= .fn (.func gf) lb,args:= #[.func (.yield (w.heap.size+1)) #[] #[]]},W1,gf,
  #[.func (.yield (w.heap.size+1)) #[] #[]]++lb,W1, ?_, ?_, ?_, ?_,fun _=>h1, ?_⟩
 ·rw[←hW1,hrec];exact run_enterLoop_outer _ _ _ _ _
 ·simp only[resolve,hg]
  simp[go_sem]
 ·intro f' hf';simp[Target.leads]at hf';subst hf';exact hFg
 ·simp[invoke,go_sem,eg]
 ·have hnw:∀ {A B:World} {row:Option Nat},(∀r,row=some r→W1.heap.size≤r∧∃o:Obj,A.heap[r]?=some o∧o.isWalk=true)→(∀r,row=some r→w.heap.size≤r∧∃o:Obj,A.heap[r]?=some o∧o.isCells=false):=
   fun hr r e=>by obtain⟨hB,o,ho,hw⟩:=hr r e;exact⟨by rw[←hW1]at hB;simp at hB;omega,o,ho,Obj.not_cells_of_walk hw⟩
  refine(hseq (w.heap.size+1)
   (fun pre W=>I pre W∧W.heap[w.heap.size+1]?=some (.loop (rec .ready none))∧W.heap[w.heap.size]?=some (.deferred (some [])))
   W1 hb1
   (fun s A B row hs hg' hr=>⟨hI s A B row hs.1 hg' (hnw (B:=B) hr),(grownBy_keeps hg' (fun r e=>(hr r e).2) hs.2.1 rfl).trans hs.2.1,(grownBy_keeps hg' (fun r e=>(hr r e).2) hs.2.2 rfl).trans hs.2.2⟩)
   (fun b v s A hb hs=>⟨hIs b v s A hb hs.1,(Below.heap_setCell _ _ _ _ (by have:=hBs b hb;show _≠b;omega)).trans hs.2.1,(Below.heap_setCell _ _ _ _ (by have:=hBs b hb;show _≠b;omega)).trans hs.2.2⟩)
   ?_ ⟨hI1,hL1,hK1⟩).mono ?_
  ·rintro pre x rest W ⟨hi,hl,hk⟩ hT
   have hlt:w.heap.size+1<W.heap.size:=(Array.getElem?_eq_some_iff.1 hl).1;have hy:=run_yield (P:=P) (args:=encs x) hl (by rw[hrec];exact hps x);rw[hrec]at hy;refine⟨fn,_,assign,body,hy,roundIn_of_wpIn hfn (wpIn_mono (hround _ x W) ?_)⟩;rintro e0 a1 W1' hq;obtain rfl:e0= .normal:=by cases e0<;>first|rfl|exact False.elim hq
   obtain⟨hWW,hbody⟩:=hq;show ∃w2,(Instr.beginRound _).run P W1'=_∧_;rw[hWW];refine⟨_,run_beginRound hl (by rw[hrec]), ?_⟩;have hl2:(W.putObj (w.heap.size+1) (.loop {rec .ready none with state:= .busy})).heap[w.heap.size+1]?=some (.loop {rec .ready none with state:= .busy}):=World.putObj_heap_same hlt;have hk2:(W.putObj (w.heap.size+1) (.loop {rec .ready none with state:= .busy})).heap[w.heap.size]?=some (.deferred (some [])):=(World.putObj_heap_other (by omega)).trans hk;have hw2:Kp W (W.putObj (w.heap.size+1) (.loop {rec .ready none with state:= .busy})):=hKb _ _ _ (by omega);refine wpIn_mono (hbody pre rest _ (hI.putObj _ hi (by omega) hl rfl) hT) ?_;rintro e a3 W3 ⟨rfl,hk3,hkp3,hi3⟩;have fin:(Instr.endRound (w.heap.size+1) none).run P W3= .ok (.bool true) (W3.putObj (w.heap.size+1) (.loop (rec .ready none)))∧
    W3.heap[w.heap.size+1]?=some (.loop {rec .ready none with state:= .busy})∧
    (W3.putObj (w.heap.size+1) (.loop (rec .ready none))).heap[w.heap.size+1]?=some (.loop (rec .ready none))∧
    (W3.putObj (w.heap.size+1) (.loop (rec .ready none))).heap[w.heap.size]?=some (.deferred (some [])):=by
    have hl3:=hk3.same _ _ (by omega) hl2 rfl
    have:=run_endRound (P:=P) none hl3
    rw[hrec]at this⊢
    exact⟨this,by rw[hrec]at hl3;exact hl3,World.putObj_heap_same (Array.getElem?_eq_some_iff.1 hl3).1,(World.putObj_heap_other (by omega)).trans (hk3.same _ _ (by omega) hk2 rfl)⟩
   obtain⟨hr,hl3,hl4,hk4⟩:=fin;exact⟨_,_,hr,rfl,⟨hI.putObj _ hi3 (by omega) hl3 rfl,hl4,hk4⟩,hKt (hKt hw2 hkp3) (hKb _ _ _ (by omega))⟩
  ·rintro e W2 ⟨⟨v,rfl⟩,hi,hl,hk⟩
   exact⟨none,_,by have:=run_endLoop (P:=P) hl (by rw[hrec];simp);rw[hrec]at this;exact this,hdone _ _ (Nat.le_refl _) (hI.putObj _ hi (by omega) hl rfl) ((World.putObj_heap_other (by omega)).trans hk)⟩
end Go.Proofs.YtjkipdoebkhkaaaGreatDoor
namespace Go.Proofs.YtjkipdoebkhkaaaGreatDoor
open Go.RowKit
theorem bound_any (b k:Nat) (w:World) (hb:b≤1000000) (hk:k≤10000000000000):
 Calls Tryz.prog 329 #[.int .i64 b, .int .i64 k] w fun e w'=>e= .returned (.int .i64 (bnd b k))∧w=w':=by
 go_enter Tryz.func329,Tryz.ntmps329
 go_wp2
 all_goals(go_ret;refine⟨ret_int ?_,rfl⟩;unfold bnd;omega)
theorem divb (n d s:Nat):(0:Int)≤(n:Int)/(d:Int)/(s:Int)∧(n:Int)/(d:Int)/(s:Int)≤(n:Int)∧(n:Int)/(d:Int)/(s:Int)=((n/d/s:Nat):Int):=by
 have h:(n:Int)/(d:Int)/(s:Int)=((n/d/s:Nat):Int):=by rw[Int.natCast_ediv,Int.natCast_ediv]
 have h2:n/d/s≤n:=Nat.le_trans (Nat.div_le_self _ _) (Nat.div_le_self _ _);rw[h];exact⟨Int.natCast_nonneg _,Int.ofNat_le.2 h2,rfl⟩
theorem next_no (n signs:Nat) (w:World) (hn:n≤137438953472) (hs:1≤signs) (hs2:signs≤137438953472):
 Calls Tryz.prog 301 #[.int .i64 n, .int .i64 signs, .bool false] w fun e w'=>e= .returned (.int .i64 (nextL n signs false))∧w=w':=by
 have q2:(0:Int)≤(n:Int)/2/(signs:Int)∧(n:Int)/2/(signs:Int)≤(n:Int)∧(n:Int)/2/(signs:Int)=((n/2/signs:Nat):Int):=divb n 2 signs
 obtain⟨q21,q22,q23⟩:=q2
 have Q2:=Lib.hid q23
 clear q23
 go_enter Tryz.func301,Tryz.ntmps301
 go_wp2
 go_loop [0,8] (fun x y=>∃m k:Nat,x= .int .i64 m∧y= .int .i64 k∧m≤274877906944∧k+36*m≤10000000000000∧Hid (adv m k=nextL n signs false)) (fun x _=>(intOf x).toNat)
 case atStart=>
  have h2:n/2/signs≤n:=Nat.le_trans (Nat.div_le_self _ _) (Nat.div_le_self _ _);exact⟨n/2+n/2/signs,0,by rw[Q2.out];go_num,rfl,by omega,by omega,by simp[Hid,nextL]⟩
 case round=>
  obtain⟨m,k,rfl,rfl,hm,hk,H⟩:=hrel;have hq:(36*(m:Int))/((m:Int)+38)=((36*m/(m+38):Nat):Int):=by rw[Int.natCast_ediv];congr 1
  have hq1:(0:Int)≤(36*(m:Int))/((m:Int)+38):=by rw[hq];exact Int.natCast_nonneg _
  have hq2:(36*(m:Int))/((m:Int)+38)≤36:=by
   rw[hq];have:36*m/(m+38)≤36:=Nat.div_le_of_le_mul (by omega);exact Int.ofNat_le.2 this
  have Hq:=Lib.hid hq;clear hq;go_wp2
  ·go_round
   case rel=>exact⟨m/35,k+36,by go_num,by go_num,by omega,by omega,by show _=_;rw[←H.out];exact(adv_big (by omega)).symm⟩
   case measure=>simp[intOf];omega
  ·go_ret
   refine⟨ret_int ?_,rfl⟩;rw[←H.out,adv_small (by omega),Hq.out];rfl
theorem next_yes (n signs:Nat) (w:World) (hn:n≤137438953472) (hs:1≤signs) (hs2:signs≤137438953472):
 Calls Tryz.prog 301 #[.int .i64 n, .int .i64 signs, .bool true] w fun e w'=>e= .returned (.int .i64 (nextL n signs true))∧w=w':=by
 have q2:(0:Int)≤(n:Int)/700/(signs:Int)∧(n:Int)/700/(signs:Int)≤(n:Int)∧(n:Int)/700/(signs:Int)=((n/700/signs:Nat):Int):=divb n 700 signs
 obtain⟨q21,q22,q23⟩:=q2
 have Q2:=Lib.hid q23
 clear q23
 go_enter Tryz.func301,Tryz.ntmps301
 go_wp2
 go_loop [0,8] (fun x y=>∃m k:Nat,x= .int .i64 m∧y= .int .i64 k∧m≤274877906944∧k+36*m≤10000000000000∧Hid (adv m k=nextL n signs true)) (fun x _=>(intOf x).toNat)
 case atStart=>
  have h2:n/700/signs≤n:=Nat.le_trans (Nat.div_le_self _ _) (Nat.div_le_self _ _);exact⟨n/700+n/700/signs,0,by rw[Q2.out];go_num,rfl,by omega,by omega,by simp[Hid,nextL]⟩
 case round=>
  obtain⟨m,k,rfl,rfl,hm,hk,H⟩:=hrel;have hq:(36*(m:Int))/((m:Int)+38)=((36*m/(m+38):Nat):Int):=by rw[Int.natCast_ediv];congr 1
  have hq1:(0:Int)≤(36*(m:Int))/((m:Int)+38):=by rw[hq];exact Int.natCast_nonneg _
  have hq2:(36*(m:Int))/((m:Int)+38)≤36:=by
   rw[hq];have:36*m/(m+38)≤36:=Nat.div_le_of_le_mul (by omega);exact Int.ofNat_le.2 this
  have Hq:=Lib.hid hq;clear hq;go_wp2
  ·go_round
   case rel=>exact⟨m/35,k+36,by go_num,by go_num,by omega,by omega,by show _=_;rw[←H.out];exact(adv_big (by omega)).symm⟩
   case measure=>simp[intOf];omega
  ·go_ret
   refine⟨ret_int ?_,rfl⟩;rw[←H.out,adv_small (by omega),Hq.out];rfl
theorem next_any (n signs:Nat) (b:Bool) (w:World) (hn:n≤137438953472) (hs:1≤signs) (hs2:signs≤137438953472):
 Calls Tryz.prog 301 #[.int .i64 n, .int .i64 signs, .bool b] w fun e w'=>e= .returned (.int .i64 (nextL n signs b))∧w=w':=by
 cases b
 ·exact next_no n signs w hn hs hs2
 ·exact next_yes n signs w hn hs hs2
theorem digit_bits:∀c:Fin 256,65≤c.val∧c.val≤90→bits BinOp.or IntKind.u8 (c.val:Int) 32=(c.val:Int)+32:=by decide+kernel
theorem digit_idx:∀c:Fin 256,¬(65≤c.val∧c.val≤90)→Lib.indexByte [97,98,99,100,101,102,103,104,105,106,107,108,109,110,111,112,113,114,115,116,117,118,119,120,121,122,48,49,50,51,52,53,54,55,56,57] (UInt8.ofNat c.val)=digI c.val:=by decide+kernel
theorem digit_idx2:∀c:Fin 256,65≤c.val∧c.val≤90→Lib.indexByte [97,98,99,100,101,102,103,104,105,106,107,108,109,110,111,112,113,114,115,116,117,118,119,120,121,122,48,49,50,51,52,53,54,55,56,57] (UInt8.ofNat (c.val+32))=digI c.val:=by decide+kernel
theorem digit_any (c:UInt8) (w:World):
 Calls Tryz.prog 328 #[.int .u8 c.toNat] w fun e w'=>e= .returned (.int .i64 (digI c.toNat))∧w=w':=by
 have hlt:=c.toNat_lt
 by_cases hc:65≤c.toNat∧c.toNat≤90
 ·have hb:=Lib.hid (digit_bits ⟨c.toNat,hlt⟩ hc)
  have hi:=Lib.hid (digit_idx2 ⟨c.toNat,hlt⟩ hc);obtain⟨h1,h2⟩:=hc;go_enter Tryz.func328,Tryz.ntmps328;go_wp2_with fail;rw[show bits BinOp.or IntKind.u8 (c.toNat:Int) 32=_ from hb.out];refine(Tryz.strings_IndexByte _ _ _).mono ?_;rintro e w' ⟨rfl,rfl⟩;go_wp2_with fail;go_ret;exact⟨ret_int (by first|(rw[show((c.toNat:Int)+32).toNat=c.toNat+32 from by omega];exact hi.out)|simpa using hi.out),rfl⟩
 ·have hi:=Lib.hid (digit_idx ⟨c.toNat,hlt⟩ hc)
  go_enter Tryz.func328,Tryz.ntmps328;go_wp2_with fail
  all_goals
   refine(Tryz.strings_IndexByte _ _ _).mono ?_;rintro e w' ⟨rfl,rfl⟩;go_wp2_with fail;go_ret;exact⟨ret_int (by first|(rw[show((c.toNat:Int)+32).toNat=c.toNat+32 from by omega];exact hi.out)|simpa using hi.out),rfl⟩
def readV (r:Option (Nat×List UInt8)):Value:=match r with
 |some (m,s)=> .tuple #[.int .i64 m, .string ⟨s.toArray⟩, .bool true]
 |none=> .tuple #[.int .i64 0, .string ⟨#[]⟩, .bool false]
def strLen:Value→Nat
 | .string b=>b.size
 |_=>0
theorem read_any (b:Nat) (s:List UInt8) (n:Nat) (w:World) (hb:b≤1000000) (hs:s.length≤65536) (hn:n≤2147483648):
 Calls Tryz.prog 300 #[.int .i64 b, .string ⟨s.toArray⟩, .int .i64 n] w fun e w'=>e= .returned (readV (readL b s 36 1 n))∧w=w':=by
 go_enter Tryz.func300,Tryz.ntmps300
 go_wp2
 go_loop [1,2,9,10] (fun a2 a3 a4 a5=>∃(t:List UInt8) (m v k:Nat),a2= .string ⟨t.toArray⟩∧a3= .int .i64 m∧a4= .int .i64 v∧a5= .int .i64 k∧m≤2147483648∧v≤75161927645∧k+36*t.length≤36+36*s.length∧Hid (readL b t k v m=readL b s 36 1 n)) (fun a2 _ _ _=>strLen a2)
 case atStart=>exact⟨s,n,1,36,rfl,rfl,rfl,rfl,hn,by omega,by omega,rfl⟩
 case round=>
  obtain⟨t,m,v,k,rfl,rfl,rfl,rfl,hm,hv,hk,H⟩:=hrel
  cases t with
  |nil=>
   go_wp2_with fail;go_ret3;refine⟨?_,rfl⟩;rw[←H.out];rfl
  |cons c t=>
   simp only[List.length_cons]at hk;have hd:=digI_bd c.toNat;obtain⟨hd1,hd2⟩:=hd;have hb2:=bnd_bd b k;obtain⟨hb3,hb4⟩:=hb2;have hp1: -75161927645≤digI c.toNat*(v:Int):=by
    have:=Int.mul_le_mul_of_nonneg_right hd1 (Int.natCast_nonneg v);omega
   have hp2:digI c.toNat*(v:Int)≤2630667467575:=by
    have:=Int.mul_le_mul_of_nonneg_right hd2 (Int.natCast_nonneg v);omega
   have hp3:0≤(v:Int)*(36-(bnd b k:Int)):=Int.mul_nonneg (Int.natCast_nonneg v) (by omega);have hp4:(v:Int)*(36-(bnd b k:Int))≤2630667467575:=by
    have:=Int.mul_le_mul_of_nonneg_left (show 36-(bnd b k:Int)≤35 by omega) (Int.natCast_nonneg v);omega
   go_wp2_with(first|(go_at_call 328;refine(digit_any c _).mono ?_;rintro e w' ⟨rfl,rfl⟩)|(go_at_call 329;refine(bound_any b k _ (by omega) (by omega)).mono ?_;rintro e w' ⟨rfl,rfl⟩))
   all_goals first
    |(go_ret3;refine⟨?_,rfl⟩;rw[←H.out];go_light
      first
       |(rw[readL_neg (by assumption)];rfl)
       |(rw[readL_big (by assumption) (by assumption)];rfl)
       |(rw[readL_end (by assumption) (by assumption) (by assumption)];simp[readV,readL_sum (by assumption:0≤digI c.toNat)]))
    |(go_round
      case rel=>
       obtain⟨g1,g2,g3⟩:=readL_weight (b:=b) (k:=k) (by assumption:0≤digI c.toNat) (by assumption) (by assumption);exact⟨t,_,_,k+36,rfl,by rw[readL_sum (by assumption)],by rw[g3],by go_num,by omega,g2,by omega,by show _=_;rw[←H.out];exact(readL_go (by assumption) (by assumption) (by assumption)).symm⟩
      case measure=>simp[strLen,size_mk])
open Go.RowKit Go.Shelf
theorem bx_size:(Tryz.prog.info? 171).map (·.size)=some 2:=by kernel_rfl
theorem bx_lies:liesAt Tryz.prog Tryz.prog.depth 171 (2/Tryz.prog.cellsOf 171) 0 171 1=true:=by kernel_rfl
theorem bx_byte:(Tryz.prog.info? 5).map (fun i=>(i.zero,i.size,i.bytes))=some (some (.int .u8 0),1,1):=by kernel_rfl
set_option maxRecDepth 100000 in
theorem copyCheck_used (b:Nat) (w:World) (h0:w.cell? ⟨b,0,none⟩=some (.pointer (some ⟨b,0,none⟩))):
 Calls Tryz.prog 190 #[.pointer (some ⟨b,0,none⟩)] w fun e w'=>e= .returned (.tuple #[])∧w'=w:=by
 obtain⟨j,hj,_⟩:=Option.map_eq_some_iff.1 bx_size
 go_enter Tryz.func190,Tryz.ntmps190
 go_wp2
 rw[Lib.run_neq_ptr_same w _ Tryz.underlying169 hj]
 go_wp2
 go_end0
 exact⟨rfl,rfl⟩
set_option maxRecDepth 100000 in
theorem copyCheck_fresh (b:Nat) (w:World) (h0:w.cell? ⟨b,0,none⟩=some (.pointer none)) (hsh:w.shape? b=some (171,2)) (hfz:w.frozen? ⟨b,0,none⟩=false):
 Calls Tryz.prog 190 #[.pointer (some ⟨b,0,none⟩)] w fun e w'=>e= .returned (.tuple #[])∧w'=w.setCell ⟨b,0,none⟩ (.pointer (some ⟨b,0,none⟩)):=by
 obtain⟨j,hj,hjs⟩:=Option.map_eq_some_iff.1 bx_size
 go_enter Tryz.func190,Tryz.ntmps190
 go_wp2
 rw[Lib.run_to_unsafe w ⟨b,0,none⟩ Tryz.underlying169 Tryz.underlying280 hj (by rw[hjs];decide) hsh (Nat.zero_lt_succ 1)]
 simp only[Result.andThen]
 rw[Oper.upon_value]
 go_wp2
 rw[run_callFunc_extern Tryz.func244 (by kernel_rfl) (by kernel_rfl) (by kernel_rfl) (e:=Extern.AbiNoEscape.same) (by kernel_rfl)]
 rw[Lib.run_noEscape]
 simp only[Result.andThen]
 rw[Oper.upon_value]
 go_wp2
 rw[Lib.run_from_unsafe w ⟨b,0,none⟩ Tryz.underlying280 Tryz.underlying169 hj hsh bx_lies]
 simp only[Result.andThen]
 rw[Oper.upon_value]
 go_wp2
 go_end0
 exact⟨rfl,rfl⟩
theorem copyCheck_k (B b:Nat) (bs:List Value) (w:World) (h:Lib.IsBuilderF 171 5 B b bs w):
 Calls Tryz.prog 190 #[.pointer (some ⟨b,0,none⟩)] w fun e w'=>e= .returned (.tuple #[])∧(Lib.BuilderAtF 171 5 B b (.pointer (some ⟨b,0,none⟩)) bs w'∧Below B w w'∧Lib.OthersKept 5 (some b) w w'):=by
 rcases h with h|h
 ·refine(copyCheck_fresh b w h.cell0 h.shape h.frozen0).mono ?_
  rintro e w' ⟨rfl,rfl⟩;exact⟨rfl,h.used _,(Below.refl B w).setCell (p:=⟨b,0,none⟩) h.1 _,(Lib.OthersKept.refl _ _ w).setCell ⟨b,0,none⟩ rfl _⟩
 ·refine(copyCheck_used b w h.cell0).mono ?_
  rintro e w' ⟨rfl,rfl⟩;exact⟨rfl,h,Below.refl B _,Lib.OthersKept.refl _ _ _⟩
set_option maxRecDepth 100000 in
theorem writeByte_k (B b:Nat) (bs:List Value) (c:Int) (w:World) (h:Lib.IsBuilderF 171 5 B b bs w) (hlen:bs.length+1≤140737488355328) (hBw:B≤w.heap.size):
 Calls Tryz.prog 134 #[.pointer (some ⟨b,0,none⟩), .int .u8 c] w fun e w'=>e= .returned .nilIface∧(Lib.BuilderAtF 171 5 B b (.pointer (some ⟨b,0,none⟩)) (bs++[.int .u8 c]) w'∧Below B w w'∧Lib.OthersKept 5 (some b) w w'):=by
 obtain⟨i0,hi,hz0,hz1,hz2⟩:=info_parts bx_byte
 go_enter Tryz.func134,Tryz.ntmps134
 go_wp2_with(go_at_call 190;refine(copyCheck_k B b bs _ h).mono ?_)
 rintro e w1 ⟨rfl,h1,hb1,hk1⟩
 obtain⟨hB,v,hbk,hown,hne⟩:=h1
 have c0:w1.cell? ⟨b,0,none⟩=some (.pointer (some ⟨b,0,none⟩)):=by rw[Lib.cell_of_heap hbk];rfl
 have c1:w1.cell? ⟨b,1,none⟩=some v:=by rw[Lib.cell_of_heap hbk];rfl
 go_wp2_with(at_builtin;refine wpList_append_ownF _ rfl _ _ 51 rfl B 5 i0 (.int .u8 0) 1 1 Tryz.underlying51 hi hz0 hz1 hz2 rfl (by decide) _ _ _ rfl (hown.alloc _) ⟨w1.heap.size,0,none⟩ 1 1 [.int .u8 c] rfl rfl ?c1 ?c2 ?c3 ?c4 ?c5 ?_)
 case c1=>
  intro j u hj
  match j,hj with
  |0,hj=>simp at hj;subst hj;simp[Addr.add]
 case c2=>intro u hu;simp at hu;subst hu;rfl
 case c3=>unfold maxLen;omega
 case c4=>omega
 case c5=>have:=hb1.size;simp;omega
 intro v' w2 hown' hgrow _
 have hlt:b<w1.heap.size:=by
  rcases Nat.lt_or_ge b w1.heap.size with h'|h'
  ·exact h'
  ·simp[Array.getElem?_eq_none h']at hbk
 have hb2:w2.heap[b]?=some (.cells #[.pointer (some ⟨b,0,none⟩),v] 171 (0,0)):=by
  rw[hgrow.block b (by simp;omega) (fun e=>hne e.symm),Lib.alloc_old w1 _ b hlt];exact hbk
 have d0:w2.cell? ⟨b,0,none⟩=some (.pointer (some ⟨b,0,none⟩)):=by rw[Lib.cell_of_heap hb2];rfl
 have d1:w2.cell? ⟨b,1,none⟩=some v:=by rw[Lib.cell_of_heap hb2];rfl
 have f1:w2.frozen? ⟨b,1,none⟩=false:=Lib.frozen_of_heap hb2 1
 obtain⟨g,cap,rfl⟩:∃g cap,v'= .slice (some ⟨g,0,none⟩) (bs.length+1) cap:=by
  rcases hown'.2 with ⟨_,h0⟩|⟨g,cap,cur,fz,hv,_⟩
  ·omega
  ·exact⟨g,cap,hv⟩
 go_wp2
 go_ret
 refine⟨rfl, ?_, ?_,((hk1.alloc _).grown hgrow (Lib.ownsRowF_kind (hown.alloc _))).setCell ⟨b,1,none⟩ rfl _⟩
 ·exact Lib.BuilderAtF.put (T:=171) (e:=5) hB hb2 (bs':=bs++[.int .u8 c]) (by simpa using hown') (by decide)
 ·exact((hb1.alloc (by have:=hb1.size;omega) _).grown hgrow (by have:=hb1.size;simp;omega) (fun k hk=>(hown.lt k hk).1)).setCell (p:=⟨b,1,none⟩) hB _
theorem builder_same {T e:TypeId} {B b:Nat} {bs:List Value} {W W':World} (h:Lib.IsBuilderF T e B b bs W) (hb:W'.heap[b]?=W.heap[b]?)
 (hrow:∀(k:Nat) (c:Array Value) (fz:Nat×Nat),W.heap[k]?=some (Obj.cells c e fz)→W'.heap[k]?=some (Obj.cells c e fz)):Lib.IsBuilderF T e B b bs W':=by
 have key:∀p,Lib.BuilderAtF T e B b p bs W→Lib.BuilderAtF T e B b p bs W':=by
  rintro p ⟨hB,v,hbk,hown,hne⟩;refine⟨hB,v,hb.trans hbk,⟨hown.1, ?_⟩,hne⟩;rcases hown.2 with hn|⟨g,cap,cur,fz,hv,hbg,hg,rest⟩
  ·exact .inl hn
  ·exact .inr ⟨g,cap,cur,fz,hv,hbg,hrow g cur fz hg,rest⟩
 exact h.elim (fun x=> .inl (key _ x)) (fun x=> .inr (key _ x))
theorem builder_below {T e:TypeId} {B b:Nat} {bs:List Value} {W W':World} (h:Lib.IsBuilderF T e B b bs W) (hb:Below W.heap.size W W'):Lib.IsBuilderF T e B b bs W':=by
 have hold:∀(k:Nat) (o:Obj),W.heap[k]?=some o→W'.heap[k]?=some o:=fun k o hk=>(hb.block k (Array.getElem?_eq_some_iff.1 hk).1).trans hk
 have hbk:∃o,W.heap[b]?=some o:=by
  rcases h with h|h
  ·obtain⟨_,v,hbk,_⟩:=h;exact⟨_,hbk⟩
  ·obtain⟨_,v,hbk,_⟩:=h;exact⟨_,hbk⟩
 obtain⟨o,ho⟩:=hbk;exact builder_same h ((hold b o ho).trans ho.symm) (fun k c fz hk=>hold k _ hk)
def digB (d:Nat):Nat:=if d<26 then 97+d else 22+d
theorem digB_get:∀d:Fin 36,([97,98,99,100,101,102,103,104,105,106,107,108,109,110,111,112,113,114,115,116,117,118,119,120,121,122,48,49,50,51,52,53,54,55,56,57]:List UInt8)[d.val]?=some (UInt8.ofNat (digB d.val)):=by decide
theorem digs_get (d:Nat) (h:d<36):([97,98,99,100,101,102,103,104,105,106,107,108,109,110,111,112,113,114,115,116,117,118,119,120,121,122,48,49,50,51,52,53,54,55,56,57]:List UInt8)[d]'h=UInt8.ofNat (digB d):=(List.getElem?_eq_some_iff.1 (digB_get ⟨d,h⟩)).2
def toldF:Nat→Nat→Nat→Nat→List UInt8
 |0,n,b,k=>[UInt8.ofNat (digB n)]
 |f+1,n,b,k=>if n<bnd b k then [UInt8.ofNat (digB n)]else UInt8.ofNat (digB (bnd b k+(n-bnd b k) % (36-bnd b k)))::toldF f ((n-bnd b k)/(36-bnd b k)) b (k+36)
theorem told_div {n b k:Nat} (h:bnd b k≤n):(n-bnd b k)/(36-bnd b k)<n:=by
 have:=bnd_bd b k;have h1:(n-bnd b k)/(36-bnd b k)≤n-bnd b k:=Nat.div_le_self _ _;omega
theorem toldF_any:∀(f g n b k:Nat),n≤f→n≤g→toldF f n b k=toldF g n b k
 |0,0,_,_,_,_,_=>rfl
 |0,g+1,n,b,k,h,_=>by
  have:=bnd_bd b k;have:n=0:=by omega
  subst this;unfold toldF;rw[if_pos (by omega)]
 |f+1,0,n,b,k,_,h=>by
  have:=bnd_bd b k;have:n=0:=by omega
  subst this;unfold toldF;rw[if_pos (by omega)]
 |f+1,g+1,n,b,k,h1,h2=>by
  unfold toldF;split
  ·rfl
  ·rw[toldF_any f g _ _ _ (by have:= @told_div n b k (by omega);omega) (by have:= @told_div n b k (by omega);omega)]
def toldL (n b k:Nat):List UInt8:=toldF n n b k
theorem told_last {n b k:Nat} (h:n<bnd b k):toldL n b k=[UInt8.ofNat (digB n)]:=by
 unfold toldL
 cases n with
 |zero=>rfl
 |succ n=>unfold toldF;rw[if_pos h]
theorem told_more {n b k:Nat} (h:bnd b k≤n):toldL n b k=UInt8.ofNat (digB (bnd b k+(n-bnd b k) % (36-bnd b k)))::toldL ((n-bnd b k)/(36-bnd b k)) b (k+36):=by
 have:=bnd_bd b k;have hd:= @told_div n b k h;unfold toldL;rw[show toldF n n b k=toldF (n-1+1) n b k from by rw[Nat.sub_add_cancel (by omega)]]
 conv=>lhs;unfold toldF
 rw[if_neg (by omega),toldF_any _ _ _ _ _ (by omega) (Nat.le_refl _)]
def KeepBox (Bb Bn:Nat) (A B:World):Prop:=B.heap[Bb]?=A.heap[Bb]?∧B.heap[Bn]?=A.heap[Bn]?
theorem tell_any (b n:Nat) (w:World):
 Calls Tryz.prog 306 #[.int .i64 b, .int .i64 n] w fun e w'=>e= .returned (.func (.func 333) #[] #[.pointer (some ⟨w.heap.size,0,none⟩), .pointer (some ⟨w.heap.size+1,0,none⟩)])∧
  w'=(w.alloc (.cells #[.int .i64 b] 335)).alloc (.cells #[.int .i64 n] 3):=by
 go_enter Tryz.func306,Tryz.ntmps306
 go_wp2
 go_ret
 refine⟨?_,rfl⟩
 simp
def boxNat (W:World) (B:Nat):Nat:=match W.cell? ⟨B,0,none⟩with|some (.int _ c)=>c.toNat|_=>0
theorem boxNat_eq {W:World} {B:Nat} {t:TypeId} {k:IntKind} {n:Nat} (h:Boxed W B t (.int k n)):boxNat W B=n:=by
 unfold boxNat;rw[h.cell];simp
theorem Boxed_eq {A B:World} {b:Nat} {t:TypeId} {v:Value} (h:Boxed A b t v) (e:B.heap[b]?=A.heap[b]?):Boxed B b t v:=e.trans h
theorem Boxed_other {A:World} {b c:Nat} {t:TypeId} {v v':Value} (h:Boxed A b t v) (e:b≠c):Boxed (A.setCell ⟨c,0,none⟩ v') b t v:=(Below.heap_setCell _ _ _ _ (by exact e)).trans h
set_option maxRecDepth 100000 in
theorem tell1_in (n:Nat) (hn:1≤n) (l Bb Bn:Nat) (b m:Nat) (hne:Bb≠Bn) (hb:b≤1000000) (hm:m≤137438953472) (J:List UInt8→World→Prop) (T:List UInt8) (hT:T=toldL m b 36)
 (hJs:∀s A v,J s A→J s (A.setCell ⟨Bn,0,none⟩ v))
 (hY:∀pre x rest W,J pre W→T=pre++x::rest→YieldAt Fence.wide (n-1) Tryz.prog l #[.int .u8 (x.toNat:Int)] W fun e W'=>e= .returned (.bool true)∧J (pre++[x]) W'∧KeepBox Bb Bn W W')
 (W:World) (hBb:Boxed W Bb 335 (.int .i64 b)) (hBn:Boxed W Bn 3 (.int .i64 m)) (h0:J [] W):
 CallsIn Fence.wide n Tryz.prog 333 #[.func (.yield l) #[] #[], .pointer (some ⟨Bb,0,none⟩), .pointer (some ⟨Bn,0,none⟩)] W fun e W'=>(∃v,e= .returned v)∧J T W':=by
 refine callsIn_of_wp Tryz.func333 rfl trivial ?_ rfl
 simp only[Tryz.ntmps333,List.size_toArray,List.length_cons,List.length_nil,Nat.reduceAdd,Nat.reduceSub,Array.replicate_succ,Array.replicate_zero,List.push_toArray,List.append_toArray,List.nil_append,List.cons_append]
 gi_wp2
 gi_loopw [4] (fun p wr=>∃(pre rest:List UInt8) (k m':Nat),p= .int .i64 k∧T=pre++toldL m' b k∧k≤36*(137438953472-m')+36∧m'≤137438953472∧Boxed wr Bb 335 (.int .i64 b)∧Boxed wr Bn 3 (.int .i64 m')∧J pre wr)
  (fun p wr=>boxNat wr Bn)
 case atStart=>
  exact⟨[],[],36,m,rfl,by simpa using hT,by omega,hm,hBb,hBn,h0⟩
 case round=>
  obtain⟨pre,rest,k,m',rfl,hT',hk,hm',hBb',hBn',hJ'⟩:=hrel;have c1:=hBb'.cell;have c2:=hBn'.cell;have hbd:=bnd_bd b k;have fb:Fence.wide.fn 329:=trivial;by_cases hlast:m'<bnd b k
  ·have hl36:m'<36:=by omega
   rw[told_last hlast]at hT';obtain⟨fn,tmps,assign,body,hy,hR⟩:=hY pre (([97,98,99,100,101,102,103,104,105,106,107,108,109,110,111,112,113,114,115,116,117,118,119,120,121,122,48,49,50,51,52,53,54,55,56,57]:List UInt8)[m']'hl36) [] wr hJ' (by rw[hT',digs_get]);gi_wp2_with (gi_at_call 329;refine(callsIn_wide.2 (bound_any b k _ (by omega) (by omega))).mono ?_;rintro e w' ⟨rfl,rfl⟩);refine hR.mono ?_;rintro e W3 ⟨rfl,hJ3,hk3⟩;gi_wp2;refine bodyPost_ret (results_none rfl _ _ _) rfl ?_;exact⟨⟨_,rfl⟩,by rw[hT',←digs_get m' hl36];exact hJ3⟩
  ·obtain⟨t,ht⟩:∃t,bnd b k=t:=⟨_,rfl⟩
   have ht1:1≤t:=by omega
   have ht2:t≤26:=by omega
   have htm:t≤m':=by omega
   rw[told_more (by omega),ht]at hT';have hr0:(0:Int)≤((m':Int)-(t:Int)) % (36-(t:Int)):=Int.emod_nonneg _ (by omega);have hr1:((m':Int)-(t:Int)) % (36-(t:Int))<36-(t:Int):=Int.emod_lt_of_pos _ (by omega);have hr2:((m':Int)-(t:Int)) % (36-(t:Int))=(((m'-t) % (36-t):Nat):Int):=by
    rw[Int.natCast_emod,Int.natCast_sub (by omega),Int.natCast_sub (by omega)];rfl
   have hq2:((m':Int)-(t:Int))/(36-(t:Int))=(((m'-t)/(36-t):Nat):Int):=by
    rw[Int.natCast_ediv,Int.natCast_sub (by omega),Int.natCast_sub (by omega)];rfl
   have hq3:(m'-t)/(36-t)≤m'-t:=Nat.div_le_self _ _;have hbt:∀w,Calls Tryz.prog 329 #[.int .i64 b, .int .i64 k] w fun e w'=>e= .returned (.int .i64 (t:Int))∧w=w':=fun w=>by rw[←ht];exact bound_any b k w (by omega) (by omega)
   have hd36:t+(m'-t) % (36-t)<36:=by have:=Nat.mod_lt (m'-t) (show 0<36-t by omega);omega
   obtain⟨fn,tmps,assign,body,hy,hR⟩:=hY pre (([97,98,99,100,101,102,103,104,105,106,107,108,109,110,111,112,113,114,115,116,117,118,119,120,121,122,48,49,50,51,52,53,54,55,56,57]:List UInt8)[t+(m'-t) % (36-t)]'hd36) _ wr hJ' (by rw[digs_get];exact hT');have hqi:=Lib.hid hq2;have hri:=Lib.hid hr2;clear hq2 hr2;gi_wp2_with (gi_at_call 329;refine(callsIn_wide.2 (hbt _)).mono ?_;rintro e w' ⟨rfl,rfl⟩);refine hR.mono ?_;rintro e W3 ⟨rfl,hJ3,hk3⟩;have b1:=Boxed_eq hBb' hk3.1;have b2:=Boxed_eq hBn' hk3.2;have c3:=b1.cell;have c4:=b2.cell;have f4:=b2.frozen;have q0:(0:Int)≤((m':Int)-(t:Int))/(36-(t:Int)):=Int.ediv_nonneg (by omega) (by omega);have hq:((m':Int)-(t:Int))/(36-(t:Int))=(((m'-t)/(36-t):Nat):Int):=hqi;have q1:((m':Int)-(t:Int))/(36-(t:Int))≤(m':Int):=by rw[hq];omega
   clear hq;gi_wp2;have hq:((m':Int)-(t:Int))/(36-(t:Int))=(((m'-t)/(36-t):Nat):Int):=hqi;rw[hq];refine⟨⟨pre++[UInt8.ofNat (digB (t+(m'-t) % (36-t)))],[],k+36,(m'-t)/(36-t),by simp,by rw[hT'];simp,by omega,by omega,Boxed_other b1 hne,b2.set _,hJs _ _ _ ?_⟩, ?_⟩
   ·rw[←digs_get _ hd36];exact hJ3
   ·rw[boxNat_eq (b2.set _),boxNat_eq hBn'];omega
theorem tell_seq (n:Nat) (hn:1≤n) (b m Bb Bn:Nat) (hne:Bb≠Bn) (hb:b≤1000000) (hm:m≤137438953472) (w:World) (hBb:Boxed w Bb 335 (.int .i64 b)) (hBn:Boxed w Bn 3 (.int .i64 m)):
 SeqS Fence.wide n Tryz.prog 333 #[.pointer (some ⟨Bb,0,none⟩), .pointer (some ⟨Bn,0,none⟩)] (fun x:UInt8=> #[.int .u8 (x.toNat:Int)]) (fun c=>c=Bn) (KeepBox Bb Bn) (toldL m b 36) w:=
 fun l J W hW _ hs hY h0=>tell1_in n hn l Bb Bn b m hne hb hm J _ rfl (fun s A v=>hs Bn v s A rfl) hY W ((hW.block _ hBb.lt).trans hBb) ((hW.block _ hBn.lt).trans hBn) h0
def KeptBut (bl Bn:Nat) (w W:World):Prop:=∀k o,w.heap[k]?=some o→k≠bl→k≠Bn→(∀c fz,o≠ .cells c 5 fz)→W.heap[k]?=some o
theorem heap_setCell_kind {W:World} {b:Nat} {c:Array Value} {t:TypeId} {fz:Nat×Nat} (h:W.heap[b]?=some (.cells c t fz)) (v:Value):∃c',(W.setCell ⟨b,0,none⟩ v).heap[b]?=some (.cells c' t fz):=by
 refine⟨c.setIfInBounds 0 v, ?_⟩;simp only[World.setCell,Array.getElem?_modify,if_true,h];rfl
theorem tell_range {Q:Exit→Act→World→Prop} {a:Act} {w:World} {g:Operand} {ps:Array Tmp} {assign body:Code} (b m Bb Bn B bl:Nat) (out:List UInt8)
 (hg:a.eval g= .func (.func 333) #[] #[.pointer (some ⟨Bb,0,none⟩), .pointer (some ⟨Bn,0,none⟩)]) (hps:ps.size=1)
 (hne:Bb≠Bn) (hb:b≤1000000) (hm:m≤137438953472) (hBb:Boxed w Bb 335 (.int .i64 b)) (hBn:Boxed w Bn 3 (.int .i64 m))
 (hI:Lib.IsBuilderF 171 5 B bl (Lib.byteCells out) w) (hBw:B≤w.heap.size) (hbB:bl≠Bb) (hbN:bl≠Bn) (hBBn:B≤Bn) (hbl:bl<w.heap.size)
 (hlen:out.length+(toldL m b 36).length≤140737488355328)
 (hround:∀(l:Nat) (x:UInt8) (W:World),assign.wpIn (Fence.wide.inRound l) 2 Tryz.prog (Exit.then (fun a1 W1=>W1=W∧∀(W2:World) (post:World→Prop),
  Calls Tryz.prog 134 #[.pointer (some ⟨bl,0,none⟩), .int .u8 (x.toNat:Int)] W2 (fun e w'=>e= .returned .nilIface∧post w')→
  body.wpIn (Fence.wide.inRound l) 2 Tryz.prog (fun e _ W'=>e= .normal∧post W') a1 W2) (fun _ _ _=>False))
  {tmps:=(ps.zip #[.int .u8 (x.toNat:Int)]).foldl (fun t (p,v)=>t.setIfInBounds p v) a.tmps,defers:=[]} W)
 (hdone:∀(D:Nat) (W:World),w.heap.size≤D→Lib.IsBuilderF 171 5 B bl (Lib.byteCells (out++toldL m b 36)) W→Below B w W→KeptBut bl Bn w W→W.heap[D]?=some (.deferred (some []))→Q .normal {a with defers:= {target:= .collected D,args:= #[]}::a.defers} W):
 (Code.rangeFunc g ps assign body).wp Tryz.prog Q a w:=by
 refine wpIn_wide.1 (wpIn_rangeFunc_ownS (F:=Fence.wide) (n:=4) (P:=Tryz.prog) rfl (by omega) hg trivial (enters_of Tryz.func333 (by kernel_rfl) rfl)
  (tell_seq 3 (by omega) b m Bb Bn hne hb hm w hBb hBn)
  (fun h k=>⟨k.1.trans h.1,k.2.trans h.2⟩)
  (fun W l o' hl=>⟨World.putObj_heap_other (by have:=hBb.lt;omega),World.putObj_heap_other (by have:=hBn.lt;omega)⟩)
  (fun x=>by rw[hps];rfl)
  (fun c e=>by rw[e];exact hBn.lt)
  (fun pre W=>Lib.IsBuilderF 171 5 B bl (Lib.byteCells (out++pre)) W∧Below B w W∧KeptBut bl Bn w W∧∃c fz,W.heap[Bn]?=some (.cells c 3 fz))
  ?own ?stores ?start ?round ?done)
 case own=>
  rintro s W W' row ⟨h1,h2,h3,c,fz,h4⟩ hgr hr;have hk:∀k o,W.heap[k]?=some o→(o.isCells=true∨k<w.heap.size)→W'.heap[k]?=some o:=fun k o hk ho=>by
   refine(hgr.block k (Array.getElem?_eq_some_iff.1 hk).1 ?_).trans hk;intro e;obtain⟨hB',o',ho',hc'⟩:=hr k e.symm;rw[hk]at ho'
   cases ho'
   rcases ho with ho|ho
   ·rw[ho]at hc';cases hc'
   ·omega
  have hlt:bl<W.heap.size:=Nat.lt_of_lt_of_le hbl h2.size;refine⟨builder_same h1 ?_ (fun k c fz hk'=>hk k _ hk' (.inl rfl)),h2.grown hgr (Nat.le_trans hBw h2.size) (fun k e=>Nat.le_trans hBw (hr k e).1),fun k o hk' h h' ho=>hk k o (h3 k o hk' h h' ho) (.inr (Array.getElem?_eq_some_iff.1 hk').1),c,fz,hk _ _ h4 (.inl rfl)⟩;rw[Array.getElem?_eq_getElem hlt];exact hk bl _ (Array.getElem?_eq_getElem hlt) (.inr hbl)
 case stores=>
  rintro b' v s A hb' ⟨h1,h2,h3,c,fz,h4⟩;subst hb';have hk:∀k,k≠b'→(A.setCell ⟨b',0,none⟩ v).heap[k]?=A.heap[k]?:=fun k hk=>Below.heap_setCell _ _ _ _ (by exact hk)
  obtain⟨c',h5⟩:=heap_setCell_kind h4 v;refine⟨builder_same h1 (hk _ hbN) (fun k c fz hk'=>(hk k (fun e=>by rw[e,h4]at hk';cases hk')).trans hk'),h2.setCell (p:=⟨b',0,none⟩) hBBn v,fun k o hk' h h' ho=>(hk k h').trans (h3 k o hk' h h' ho),c',fz,h5⟩
 case start=>exact⟨by simpa using hI,Below.refl _ _,fun k o h _ _ _=>h,_,_,hBn⟩
 case round=>
  intro l x W0;refine wpIn_mono (hround l x W0) ?_;rintro e0 a1 W1 hq;obtain rfl:e0= .normal:=by cases e0<;>first|rfl|exact False.elim hq
  refine⟨hq.1, ?_⟩;have hbody:=hq.2;rintro pre rest W ⟨h1,h2,h3,c,fz,h4⟩ hT;have hl:(out++pre).length+1≤140737488355328:=by rw[hT]at hlen;simp at hlen⊢;omega
  have hBb':W.heap[Bb]?=some (.cells #[.int .i64 b] 335 (0,0)):=h3 Bb _ hBb (Ne.symm hbB) hne (fun c fz e=>by cases e);refine wpIn_mono (hbody W _ ((writeByte_k B bl (Lib.byteCells (out++pre)) (x.toNat:Int) W h1 (by rw[Lib.byteCells_length];exact hl) (Nat.le_trans hBw h2.size)))) ?_;rintro e _ W' ⟨rfl,hb2,hbe,hoth⟩;refine⟨rfl,⟨hbe.size,fun k o hk hko hc=>hoth k o hko (fun e=>by cases e;omega) (fun c fz e=>by rw[e]at hc;cases hc)⟩,⟨?_, ?_⟩, ?_,h2.trans hbe, ?_,c,fz, ?_⟩
  ·rw[hBb'];exact hoth _ _ hBb' (fun e=>hbB (Option.some.inj e).symm) (fun c fz e=>by cases e)
  ·rw[h4];exact hoth _ _ h4 (fun e=>hbN (Option.some.inj e).symm) (fun c fz e=>by cases e)
  ·refine Or.inr ?_
   have:Lib.byteCells (out++(pre++[x]))=Lib.byteCells (out++pre)++[.int .u8 (x.toNat:Int)]:=by rw[←List.append_assoc,Lib.byteCells_append];rfl
   rw[this];exact hb2
  ·exact fun k o hk h h' ho=>hoth k o (h3 k o hk h h' ho) (fun e=>h (Option.some.inj e)) ho
  ·exact hoth _ _ h4 (fun e=>hbN (Option.some.inj e).symm) (fun c fz e=>by cases e)
 case done=>
  rintro D W hD ⟨h1,h2,h3,_⟩ hd;exact hdone D W hD h1 h2 h3 hd
end Go.Proofs.YtjkipdoebkhkaaaGreatDoor
