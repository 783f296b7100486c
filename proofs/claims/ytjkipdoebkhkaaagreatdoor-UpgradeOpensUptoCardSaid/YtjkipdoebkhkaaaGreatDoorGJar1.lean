/- The rest of an 'and' behind a part that is false, of an 'or' behind one that is true: what is left only hands it on. -/
import Derived.Test.YtjkipdoebkhkaaaGreatDoorGKe1
import Derived.Test.YtjkipdoebkhkaaaGreatDoorGHP
import Derived.Test.YtjkipdoebkhkaaaGreatDoorGBel
import Derived.Shelf.GgClosure.StringsIndexFuncTop
set_option linter.unusedVariables false
set_option linter.unusedSimpArgs false
set_option maxHeartbeats 16000000
namespace Go.Proofs.YtjkipdoebkhkaaaGreatDoor
open Go.RowKit
def constB (b:Bool):Operand→Bool
 | .const (.bool c)=>c==b
 |_=>false
theorem constB_eval {a:Act} {b:Bool} {x:Operand} (h:constB b x=true):a.eval x= .bool b:=by
 unfold constB at h;split at h
 ·rename_i c
  have:c=b:=by simpa using h
  subst this;rfl
 ·cases h
def pickB (b:Bool) (x y:Operand):Bool:=constB b (if b then x else y)
def coastK (n:Nat) (b:Bool) (ops:Array Oper):List Oper→List Tmp→List Tmp→Option (List Tmp)
 |[],K,_=>some K
 |o::l,K,U=>
  match o.guard with
  |some (j,want)=>
   match (ops[j]?).bind (·.dst)with
   |some d=>
    if (K.contains d&&(want !=b))||U.contains d then
     match o.dst with
     |some e=>if e<n then coastK n b ops l (K.filter (· !=e)) (e::U)else none
     |none=>coastK n b ops l K U
    else none
   |none=>none
  |none=>
   match o.dst with
   |none=>none
   |some e=>
    if e<n then
     match o.op with
     | .move (.tmp t)=>if K.contains t then coastK n b ops l (e::K) (U.filter (· !=e))else none
     | .assign (.tmp t)=>if K.contains t then coastK n b ops l (e::K) (U.filter (· !=e))else none
     | .pick (.tmp t) x y=>if K.contains t&&pickB b x y then coastK n b ops l (e::K) (U.filter (· !=e))else none
     |_=>none
    else none
theorem coast_put {a:Act} {n:Nat} {e:Tmp} {v:Value} (hn:a.tmps.size=n):(a.put (some e) v).tmps.size=n∧(∀p,p≠e→(a.put (some e) v).tmps[p]?=a.tmps[p]?)∧(e<n→(a.put (some e) v).tmps[e]?=some v):=by
 unfold Act.put;refine⟨by simpa using hn,fun p hp=> ?_,fun h=> ?_⟩
 ·simp only[Array.getElem?_setIfInBounds]
  rw[if_neg (fun h=>hp h.symm)]
 ·show(a.tmps.setIfInBounds e v)[e]?=some v
  rw[Array.getElem?_setIfInBounds,if_pos rfl,if_pos (by rw[hn];exact h)]
theorem wpList_coast {P:Program} {ops:Array Oper} {Q:Exit→Act→World→Prop} {n:Nat} {b:Bool} {w:World} {K':List Tmp}:∀(l:List Oper) (K U:List Tmp) (a:Act),a.tmps.size=n→(∀p∈K,a.tmps[p]?=some (.bool b))→(∀p∈U,p<n→a.tmps[p]?=some undef)→
 (∀p∈U,p<n)→coastK n b ops l K U=some K'→(∀a':Act,a'.tmps.size=n→a'.defers=a.defers→(∀p∈K',a'.tmps[p]?=some (.bool b))→Q .normal a' w)→wpList P ops Q l a w
 |[],K,U,a,hn,hK,hU,hUn,h,hQ=>by
  simp only[coastK,Option.some.injEq]at h;subst h;exact hQ a hn rfl hK
 |o::l,K,U,a,hn,hK,hU,hUn,h,hQ=>by
  unfold coastK at h
  cases hg:o.guard with
  |some jw=>
   obtain⟨j,want⟩:=jw;rw[hg]at h;dsimp only at h
   cases hd:(ops[j]?).bind (·.dst)with
   |none=>rw[hd]at h;cases h
   |some d=>
    rw[hd]at h;dsimp only at h;split at h
    ·rename_i hc
     have hw:Region.wanted o (yielded ops a.tmps)=false:=by
      unfold Region.wanted yielded;rw[hg];dsimp only;rw[hd];simp only[Bool.or_eq_true,Bool.and_eq_true,List.contains_iff_mem]at hc;rcases hc with ⟨h1,h2⟩|h1
      ·have:=hK d h1
       simp only[Option.bind_some,this];have hne:want≠b:=by simpa using h2
       simpa using fun e=>hne e.symm
      ·have:=hU d h1 (hUn d h1)
       simp only[Option.bind_some,this];simp[undef]
     have hnext:wpList P ops Q l (a.put o.dst undef) w:=by
      cases ho:o.dst with
      |none=>
       rw[ho]at h;exact wpList_coast l K U _ hn hK hU hUn h hQ
      |some e=>
       rw[ho]at h;dsimp only at h;obtain⟨p1,p2,p3⟩:=coast_put (e:=e) (v:=undef) hn;split at h
       ·rename_i hen
        refine wpList_coast l _ _ _ p1 (fun p hp=> ?_) (fun p hp hpn=> ?_) (fun p hp=> ?_) h hQ
        ·have h1:=List.mem_filter.1 hp
         rw[p2 p (by simpa using h1.2)];exact hK p h1.1
        ·by_cases he:p=e
         ·subst he;exact p3 hen
         ·rw[p2 p he]
          rcases List.mem_cons.1 hp with h1|h1
          ·exact absurd h1 he
          ·exact hU p h1 hpn
        ·rcases List.mem_cons.1 hp with rfl|h1
         ·exact hen
         ·exact hUn p h1
       ·cases h
     simp only[wpList,hw];exact hnext
    ·cases h
  |none=>
   rw[hg]at h;dsimp only at h;have hw:Region.wanted o (yielded ops a.tmps)=true:=by unfold Region.wanted;rw[hg]
   have step:∀v,(execOp a.eval o).run P w= .ok (.value v) w→wpList P ops Q l (a.put o.dst v) w→wpList P ops Q (o::l) a w:=fun v hv hx=>by
    simp only[wpList];rw[if_pos hw];left;unfold Oper.wp;rw[hv];exact hx
   cases ho:o.dst with
   |none=>rw[ho]at h;cases h
   |some e=>
    rw[ho]at h;dsimp only at h;split at h
    case isFalse=>cases h
    rename_i hen;obtain⟨p1,p2,p3⟩:=coast_put (a:=a) (e:=e) (v:= .bool b) hn;have go:∀K2,coastK n b ops l (e::K) (U.filter (· !=e))=some K2→K2=K'→wpList P ops Q l (a.put (some e) (.bool b)) w:=fun K2 h2 hk=>by
     subst hk;refine wpList_coast l _ _ _ p1 (fun p hp=> ?_) (fun p hp hpn=> ?_) (fun p hp=> ?_) h2 hQ
     ·by_cases he:p=e
      ·subst he;exact p3 hen
      ·rw[p2 p he]
       rcases List.mem_cons.1 hp with h1|h1
       ·exact absurd h1 he
       ·exact hK p h1
     ·have h1:=List.mem_filter.1 hp
      rw[p2 p (by simpa using h1.2)];exact hU p h1.1 hpn
     ·exact hUn p (List.mem_filter.1 hp).1
    have ev:∀t,t∈K→a.eval (.tmp t)= .bool b:=fun t ht=>by
     have:=hK t ht;simp[Act.eval,this]
    split at h
    ·rename_i t hop
     split at h
     ·rename_i hc
      refine step (.bool b) ?_ (by rw[ho];exact go _ h rfl);simp[execOp,hop,ev t (by simpa using hc)]
     ·cases h
    ·rename_i t hop
     split at h
     ·rename_i hc
      refine step (.bool b) ?_ (by rw[ho];exact go _ h rfl);simp[execOp,hop,ev t (by simpa using hc)]
     ·cases h
    ·rename_i t x y hop
     split at h
     ·rename_i hc
      simp only[Bool.and_eq_true]at hc;have hxy:a.eval (if b then x else y)= .bool b:=constB_eval hc.2;refine step (.bool b) ?_ (by rw[ho];exact go _ h rfl)
      cases b
      ·simp only[Bool.false_eq_true,if_false]at hxy
       simp[execOp,hop,ev t (by simpa using hc.1),asBool,hxy,Result.andThen]
      ·simp only[if_true]at hxy
       simp[execOp,hop,ev t (by simpa using hc.1),asBool,hxy,Result.andThen]
     ·cases h
    ·cases h
def coastR (n:Nat) (b:Bool) (ops:Array Oper) (l:List Oper) (t r:Tmp):Bool:=match coastK n b ops l [t] []with|some K=>K.contains r|none=>false
def coastG (n:Nat) (b:Bool) (ops:Array Oper) (l:List Oper) (j:Nat) (r:Tmp):Bool:=match (ops[j]?).bind (·.dst)with|some d=>coastR n b ops l d r|none=>false
theorem coast_skip {P:Program} {ops:Array Oper} {Q:Exit→Act→World→Prop} (n:Nat) (r:Tmp) {w:World} {l:List Oper} {a:Act} {ds:Option Tmp} {op:Op} {ty:TypeId} {ps:String} {af:Array Edge} {j:Nat} {want:Bool} (hn:a.tmps.size=n) (hy:yielded ops a.tmps j=some (!want))
 (h:coastG n (!want) ops (⟨ds,op,ty,ps,af,some (j,want)⟩::l) j r=true) (hQ:∀a':Act,a'.tmps.size=n→a'.defers=a.defers→a'.tmps[r]?=some (.bool (!want))→Q .normal a' w):wpList P ops Q (⟨ds,op,ty,ps,af,some (j,want)⟩::l) a w:=by
 unfold coastG at h
 cases hd:(ops[j]?).bind (·.dst)with
 |none=>rw[hd]at h;cases h
 |some d=>
  rw[hd]at h;dsimp only at h;have ht:a.tmps[d]?=some (.bool (!want)):=by
   unfold yielded at hy;rw[hd]at hy;simp only[Option.bind_some]at hy;split at hy
   ·rename_i b hb
    rw[hb];injection hy with hy;rw[hy]
   ·cases hy
  unfold coastR at h
  cases hk:coastK n (!want) ops (⟨ds,op,ty,ps,af,some (j,want)⟩::l) [d] []with
  |none=>rw[hk]at h;cases h
  |some K=>
   rw[hk]at h;exact wpList_coast _ [d] [] a hn (fun p hp=>by rw[List.mem_singleton]at hp;subst hp;exact ht) (fun p hp=>by cases hp) (fun p hp=>by cases hp) hk (fun a' h1 h2 h3=>hQ a' h1 h2 (h3 r (by simpa using h)))
def oddR (r:Nat):Bool:=(decide (r<32)&& !decide (r=9))||(decide (r=127)||decide (r=59))
def oddS (s:List UInt8):Bool:=decide (0≤Lib.idxFunc oddR true ⟨s.toArray⟩)
def timeB (n:Int):Bool:=decide (0≤n)&&decide (n≤1099511627775)
def hostOk (h:List UInt8):Bool:=decide (h.length≤65536)&&decide (hostL h=some h)
def textOk (s:List UInt8):Bool:= !oddS s&&decide (Lib.trimS s [32,9]=s)
def mayC (c:CookieL):Bool:=
 textOk c.name&&textOk c.value&&hostOk c.host&&Lib.hasPrefix c.path [47]&&decide (c.path.length≤1024)&& !oddS c.path&& !decide (0≤Lib.indexByte c.name 61)&&
 decide (1≤c.name.length+c.value.length)&&decide (c.name.length+c.value.length≤4096)&&decide (c.site≤3)&&timeB c.made&&timeB c.last&&(decide (c.till= -1)||timeB c.till)&&decide (0≤c.order)&&decide (c.order<2147483647)
def keyE (c d:CookieL):Bool:=decide (c.name=d.name∧c.host=d.host∧c.path=d.path∧c.bare=d.bare)
def sameH (c d:CookieL):Bool:=decide (c.host=d.host)
def lastO (pre:List CookieL):Int:=match pre.getLast? with|none=> -1|some c=>c.order
def cookieOk (n:Int) (pre:List CookieL) (c:CookieL):Bool:=
 decide (lastO pre<c.order)&&decide (c.order<n)&&decide ((pre.filter (keyE c)).length=0)&&decide ((pre.filter (sameH c)).length<50)&&mayC c
def jarAt (n:Int) (J:List CookieL) (i:Nat):Bool:=match J[i]? with|none=>true|some c=>cookieOk n (J.take i) c
def jarB (n:Int) (J:List CookieL):Bool:=(List.range J.length).all (jarAt n J)
def sealOk (s:SealL):Bool:=hostOk s.host&& !machineL s.host&&timeB s.till
def sealAt (S:List SealL) (i:Nat):Bool:=match S[i]? with
 |none=>true
 |some s=>sealOk s&&(match i with|0=>true|j+1=>match S[j]? with|none=>true|some p=>decide (p.host<s.host))
def sealsB (S:List SealL):Bool:=(List.range S.length).all (sealAt S)
def keepB (J:List CookieL) (S:List SealL) (n:Int):Bool:=
 decide (J.length≤300)&&decide (S.length≤200)&&decide (0≤n)&&decide (n≤2147483647)&&jarB n J&&sealsB S
theorem range_all_stop {p:Nat→Bool} {n i:Nat} (hi:i<n) (h:p i=false):(List.range n).all p=false:=by
 rw[List.all_eq_false];exact⟨i,by simpa using hi,by simp[h]⟩
theorem range_all_end {p:Nat→Bool} {n:Nat} (h:∀i,i<n→p i=true):(List.range n).all p=true:=by
 rw[List.all_eq_true];intro i hi;exact h i (by simpa using hi)
theorem sealsB_iff {S:List SealL}:sealsB S=true↔(∀s∈S,sealOk s=true)∧S.Pairwise (fun a b=>a.host<b.host):=by
 unfold sealsB;rw[List.all_eq_true];constructor
 ·intro h
  have h1:∀i (hi:i<S.length),sealOk S[i]=true:=fun i hi=>by
   have:=h i (by simpa using hi);unfold sealAt at this;rw[List.getElem?_eq_getElem hi]at this;simp only[Bool.and_eq_true]at this;exact this.1
  have h2:∀i (hi:i+1<S.length),S[i].host<S[i+1].host:=fun i hi=>by
   have:=h (i+1) (by simpa using hi);unfold sealAt at this;rw[List.getElem?_eq_getElem hi]at this;dsimp only at this;rw[List.getElem?_eq_getElem (by omega:i<S.length)]at this;simp only[Bool.and_eq_true,decide_eq_true_eq]at this;exact this.2
  refine⟨fun s hs=> ?_, ?_⟩
  ·obtain⟨i,hi,rfl⟩:=List.getElem_of_mem hs
   exact h1 i hi
  ·rw[List.pairwise_iff_getElem]
   intro i j hi hj hij;obtain⟨d,rfl⟩:∃d,j=i+1+d:=⟨j-i-1,by omega⟩;clear hij
   induction d with
   |zero=>exact h2 i hj
   |succ d ih=>exact List.lt_trans (ih (by omega)) (h2 (i+1+d) hj)
 ·rintro⟨h1,h2⟩ i hi
  have hi:i<S.length:=by simpa using hi
  unfold sealAt;rw[List.getElem?_eq_getElem hi];simp only[Bool.and_eq_true];refine⟨h1 _ (List.getElem_mem hi), ?_⟩
  cases i with
  |zero=>rfl
  |succ j=>
   dsimp only;rw[List.getElem?_eq_getElem (by omega:j<S.length)];exact decide_eq_true (List.pairwise_iff_getElem.1 h2 j (j+1) (by omega) hi (by omega))
theorem sealAt_bad {S:List SealL} {s:SealL} {i:Nat} (h:S[i]?=some s) (hb:sealOk s=false):sealAt S i=false:=by
 unfold sealAt;rw[h];dsimp only;rw[hb];rfl
theorem sealAt_zero {S:List SealL} {s:SealL} (h:S[0]?=some s) (hb:sealOk s=true):sealAt S 0=true:=by
 unfold sealAt;rw[h];dsimp only;rw[hb];rfl
theorem sealAt_succ {S:List SealL} {s sp:SealL} {p:Nat} (h:S[p+1]?=some s) (h2:S[p]?=some sp) (hb:sealOk s=true):sealAt S (p+1)=decide (sp.host<s.host):=by
 unfold sealAt;rw[h];dsimp only;rw[hb,h2];rfl
theorem odd_pred (w:World):PredAt Tryz.prog 119 #[] _root_.Go.Proofs.encR oddR w:=fun W r _=>by
 unfold FnGives;have hr:oddR r=((decide ((r:Int)<32)&& !decide ((r:Int)=9))||(decide ((r:Int)=127)||decide ((r:Int)=59))):=by
  unfold oddR;rw[show decide ((r:Int)<32)=decide (r<32)by rw[decide_eq_decide];omega,show decide ((r:Int)=9)=decide (r=9)by rw[decide_eq_decide];omega,show decide ((r:Int)=127)=decide (r=127)by rw[decide_eq_decide];omega,show decide ((r:Int)=59)=decide (r=59)by rw[decide_eq_decide];omega]
 rw[hr];clear hr;by_cases h1:(r:Int)<32<;>by_cases h2:(r:Int)=9<;>by_cases h3:(r:Int)=127<;>by_cases h4:(r:Int)=59
 all_goals
  first
   |(exfalso;omega)
   |(go_enter Tryz.func119,Tryz.ntmps119
     go_wp2
     go_ret
     refine⟨?_,0,rfl⟩
     first|(simp[h1,h2,h3,h4];done)|(simp[h1,h2,h3,h4];rw[beq_false_of_ne h3,beq_false_of_ne h4];simp;omega))
theorem jodd_any (s:List UInt8) (w:World):Calls Tryz.prog 66 #[.string ⟨s.toArray⟩] w fun e w'=>e= .returned (.bool (oddS s))∧Below w.heap.size w w':=by
 have hc:=Tryz.strings_ContainsFunc 119 #[] (enters_of Tryz.func119 (by kernel_rfl) rfl) oddR ⟨s.toArray⟩ w (odd_pred w);have hd:decide (0≤Lib.idxFunc oddR true ⟨s.toArray⟩)=oddS s:=rfl;rw[hd]at hc;generalize oddS s=b at*;clear hd;go_enter Tryz.func66,Tryz.ntmps66;go_wp2_with(go_at_call 118;refine hc.mono ?_;rintro e w1 ⟨rfl,hb⟩);go_ret;exact⟨rfl,hb⟩
theorem jtime_any (n:Int) (w:World):Calls Tryz.prog 58 #[.int .i64 n] w fun e w'=>e= .returned (.bool (timeB n))∧w=w':=by
 by_cases h1:0≤n<;>by_cases h2:n≤1099511627775
 all_goals
  have hr:timeB n=(decide (0≤n)&&decide (n≤1099511627775)):=rfl;simp only[h1,h2,decide_true,decide_false,Bool.and_true,Bool.and_false,Bool.true_and,Bool.false_and]at hr;rw[hr];clear hr
  first
   |(exfalso;omega)
   |(go_enter Tryz.func58,Tryz.ntmps58
     go_wp2_with fail
     go_ret
     exact⟨rfl,rfl⟩)
theorem jhost_any (s:List UInt8) (w:World) (hE:EnvH w):Calls Tryz.prog 68 #[.string ⟨s.toArray⟩] w fun e w'=>e= .returned (.bool (hostOk s))∧Below w.heap.size w w':=by
 by_cases hl:s.length≤65536
 ·have cp:=hparse_any s w hE hl
  cases hh:hostL s with
  |none=>
   have hr:hostOk s=false:=by unfold hostOk;rw[hh];simp
   rw[hh]at cp;rw[hr];clear hr hh;unfold optV at cp;dsimp only at cp;go_enter Tryz.func68,Tryz.ntmps68;go_wp2_with(go_at_call 121;refine cp.mono ?_;rintro e w1 ⟨rfl,hb⟩);go_ret;exact⟨rfl,hb⟩
  |some x=>
   have hr:hostOk s=decide (x=s):=by unfold hostOk;rw[hh];simp[hl]
   rw[hh]at cp;rw[hr];clear hr hh;unfold optV at cp;dsimp only at cp;by_cases hx:x=s
   ·subst hx
    go_enter Tryz.func68,Tryz.ntmps68;go_wp2_with(go_at_call 121;refine cp.mono ?_;rintro e w1 ⟨rfl,hb⟩);go_ret;exact⟨by simp,hb⟩
   ·have he:(x==s)=false:=beq_eq_false_iff_ne.2 hx
    go_enter Tryz.func68,Tryz.ntmps68;go_wp2_with(go_at_call 121;refine cp.mono ?_;rintro e w1 ⟨rfl,hb⟩);go_ret;exact⟨by simp[he,hx],hb⟩
 ·have cp:=hparse_long s w (by omega)
  have hr:hostOk s=false:=by unfold hostOk;rw[decide_eq_false hl];simp
  rw[hr];clear hr;go_enter Tryz.func68,Tryz.ntmps68;go_wp2_with(go_at_call 121;refine cp.mono ?_;rintro e w1 ⟨rfl,rfl⟩);go_ret;exact⟨rfl,Below.refl _ _⟩
theorem blk_cell {W0:World} {B:Nat} {l:List Value} {t:TypeId} (h:W0.heap[B]?=some (.cells l.toArray t (0,0))) {j:Nat} {v:Value} (hj:l[j]?=some v) {W:World} (hW:Below W0.heap.size W0 W):W.cell? ⟨B,j,none⟩=some v:=by
 rw[Lib.cell_of_heap ((hW.block _ (Array.getElem?_eq_some_iff.1 h).1).trans h)];simpa using hj
def sealVal (s:SealL):Value:= .agg #[.string ⟨s.host.toArray⟩, .bool s.subs, .int .i64 s.till]
def cookVal (c:CookieL):Value:= .agg #[.string ⟨c.name.toArray⟩, .string ⟨c.value.toArray⟩, .string ⟨c.host.toArray⟩, .bool c.bare, .string ⟨c.path.toArray⟩, .bool c.secure, .bool c.hidden, .int .u8 c.site, .int .i64 c.made, .int .i64 c.last, .int .i64 c.till, .int .i64 c.order]
set_option maxRecDepth 100000 in
theorem seal_any (s:SealL) (w:World) (hE:EnvH w) (hs:s.host.length≤3999999999):Calls Tryz.prog 26 #[sealVal s] w fun e w'=>e= .returned (.bool (sealOk s))∧Below w.heap.size w w':=by
 unfold sealVal;obtain⟨W0,hW0⟩:∃W,w.alloc (.cells #[.string ⟨s.host.toArray⟩, .bool s.subs, .int .i64 s.till] 44)=W:=⟨_,rfl⟩;have hb0:Below w.heap.size w W0:=by rw[←hW0];exact below_alloc w _
 have hB:W0.heap[w.heap.size]?=some (.cells #[.string ⟨s.host.toArray⟩, .bool s.subs, .int .i64 s.till] 44 (0,0)):=by rw[←hW0];exact heap_alloc_new w _
 have f0:=fun W (hW:Below W0.heap.size W0 W)=>blk_cell (l:=[.string ⟨s.host.toArray⟩, .bool s.subs, .int .i64 s.till]) hB (j:=0) rfl hW
 have f2:=fun W (hW:Below W0.heap.size W0 W)=>blk_cell (l:=[.string ⟨s.host.toArray⟩, .bool s.subs, .int .i64 s.till]) hB (j:=2) rfl hW
 have x0:=f0 W0 (Below.refl _ _);have x2:=f2 W0 (Below.refl _ _);have ch:=jhost_any s.host W0 (hE.below hb0);have hr:sealOk s=(hostOk s.host&& !machineL s.host&&timeB s.till):=rfl;have HW:=Lib.hid hW0;clear hW0 hB
 cases hh:hostOk s.host with
 |false=>
  rw[hh]at ch;rw[hr,hh];clear hr hh;go_enter Tryz.func26,Tryz.ntmps26;go_upto_region 1 with fail;rw[show _=W0 from HW.out];go_wp2_with(go_at_call 68;refine ch.mono ?_;rintro e w1 ⟨rfl,hb⟩);go_ret;exact⟨rfl,below_nx hb0 hb⟩
 |true=>
  have cm:=fun W (hW:Below W0.heap.size W0 W)=>machine_any s.host W (hE.below (below_nx hb0 hW)).t.env hs
  have ct:=fun W=>jtime_any s.till W
  rw[hh]at ch;rw[hr,hh];clear hr hh
  cases hm:machineL s.host<;>rw[hm]at cm<;>cases ht:timeB s.till<;>rw[ht]at ct
  all_goals
   clear hm ht;go_enter Tryz.func26,Tryz.ntmps26;go_upto_region 1 with fail;rw[show _=W0 from HW.out];go_wp2_with(first
    |(go_at_call 68;refine ch.mono ?_;rintro e w1 ⟨rfl,hb⟩;have y0:=f0 w1 hb;have y2:=f2 w1 hb)
    |(go_at_call 28;refine(cm _ hb).mono ?_;rintro e w2 ⟨rfl,hb2⟩;have hb12:=below_nx hb hb2;have z2:=f2 w2 hb12)
    |(go_at_call 58;refine(ct _).mono ?_;rintro e w3 ⟨rfl,rfl⟩))
   go_ret;exact⟨rfl,below_nx hb0 hb12⟩
end Go.Proofs.YtjkipdoebkhkaaaGreatDoor
