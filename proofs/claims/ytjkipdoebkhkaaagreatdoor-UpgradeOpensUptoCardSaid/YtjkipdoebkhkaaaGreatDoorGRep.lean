/- sync.Once around a replacer's building, turned from the kit's walks of the whole form. -/
import Derived.Test.YtjkipdoebkhkaaaGreatDoorGLab
set_option linter.unusedVariables false
set_option linter.unusedSimpArgs false
set_option maxHeartbeats 16000000
namespace Go.Proofs.YtjkipdoebkhkaaaGreatDoor
open Go.RowKit
theorem hset_in {w:World} {g:Nat} {cur:Array Value} {t:TypeId} {fr:Nat×Nat} (hg:w.heap[g]?=some (.cells cur t fr)) (o:Nat) (v:Value):(w.setCell ⟨g,o,none⟩ v).heap[g]?=some (.cells (cur.setIfInBounds o v) t fr):=by
 simp only[World.setCell,Array.getElem?_modify,if_true,hg];rfl
theorem mk_disable (w:World):(callFunc 334 #[]).run Tryz.prog w= .ok (.value (.tuple #[])) w:=run_call_mark0 Tryz.func334 (by kernel_rfl) (by kernel_rfl) (by kernel_rfl) .disable (by kernel_rfl) w
theorem mk_enable (w:World):(callFunc 336 #[]).run Tryz.prog w= .ok (.value (.tuple #[])) w:=run_call_mark0 Tryz.func336 (by kernel_rfl) (by kernel_rfl) (by kernel_rfl) .enable (by kernel_rfl) w
theorem mk_acquire (a:Addr) (w:World):(callFunc 337 #[.pointer (some a)]).run Tryz.prog w= .ok (.value (.tuple #[])) w:=run_call_marked Tryz.func337 (by kernel_rfl) (by kernel_rfl) (by kernel_rfl) .acquire (by kernel_rfl) a w
theorem mk_release (a:Addr) (w:World):(callFunc 339 #[.pointer (some a)]).run Tryz.prog w= .ok (.value (.tuple #[])) w:=run_call_marked Tryz.func339 (by kernel_rfl) (by kernel_rfl) (by kernel_rfl) .releaseMerge (by kernel_rfl) a w
theorem store_deferred (a:Addr) (x:Value) (u:FrameMode) (w:World) (hc:w.cell? a=some x) (hz:w.frozen? a=false):
 CallsD Tryz.prog 276 #[.pointer (some a), .bool true] u w fun e u' w'=>u'=u∧(e= .returned (.tuple #[])∧w'=w.drew.setCell a (.int .u32 1)):=by
 have hc':w.drew.cell? a=some x:=by go_simp
 have hz':w.drew.frozen? a=false:=by go_simp
 have hst:=run_call_store (P:=Tryz.prog) Tryz.func309 (by kernel_rfl) (by kernel_rfl) (by kernel_rfl) (by kernel_rfl) (k:= .u32) (y:=1) hc' hz'
 go_enter_d Tryz.func276,Tryz.ntmps276
 go_wp2
 go_region_calls
 all_goals(go_end0;exact⟨rfl,rfl⟩)
set_option maxRecDepth 100000 in
theorem unlock_deferred (a:Addr) (u:FrameMode) (w:World) (hc:w.cell? a=some (.int .i32 1)) (hz:w.frozen? a=false):
 CallsD Tryz.prog 275 #[.pointer (some a)] u w fun e u' w'=>u'=u∧(e= .returned (.tuple #[])∧w'=w.setCell a (.int .i32 0)):=by
 have hd:=mk_disable
 have he:=mk_enable
 have hr:=mk_release
 have hadd:=run_call_add (P:=Tryz.prog) Tryz.func340 (by kernel_rfl) (by kernel_rfl) (by kernel_rfl) .i32 (by kernel_rfl) (y:= -1) (s:=0) hc hz (by simp[go_sem];rfl)
 have hcv:=run_convert_to_unsafe (P:=Tryz.prog) (src:=371) (dst:=280) Tryz.underlying371 Tryz.underlying280 (by kernel_rfl) hc
 go_enter_d Tryz.func275,Tryz.ntmps275
 go_wp2
 go_end0
 go_wp2
 go_end0
 exact⟨rfl,rfl⟩
set_option maxRecDepth 100000 in
theorem lock_free (a:Addr) (w:World) (hc:w.cell? a=some (.int .i32 0)) (hz:w.frozen? a=false):
 Calls Tryz.prog 274 #[.pointer (some a)] w fun e w'=>e= .returned (.tuple #[])∧w'=w.setCell a (.int .i32 1):=by
 have hd:=mk_disable
 have he:=mk_enable
 have ha:=mk_acquire
 have hcas:=run_call_cas_hit (P:=Tryz.prog) Tryz.func335 (by kernel_rfl) (by kernel_rfl) (by kernel_rfl) .i32 (by kernel_rfl) (y:=1) hc hz
 have hc':(w.setCell a (.int .i32 1)).cell? a=some (.int .i32 1):=World.cell?_setCell_same w a _ hc
 have hcv:=run_convert_to_unsafe (P:=Tryz.prog) (src:=371) (dst:=280) Tryz.underlying371 Tryz.underlying280 (by kernel_rfl) hc'
 go_enter Tryz.func274,Tryz.ntmps274
 go_wp2
 first|go_end0|(simp only[Exit.inBlock,Exit.then];refine bodyPost_ret (results_none rfl _ _ _) rfl ?_)|refine bodyPost_ret (results_none rfl _ _ _) rfl ?_
 go_wp2
 go_end0
 exact⟨rfl,rfl⟩
def RepAt (P:Nat) (d st:Int) (r old:Value) (w:World):Prop:=w.heap[P]?=some (.cells #[.int .u32 d, .int .i32 st, .int .u32 0,r,old] 236 (0,0))
theorem RepAt.lt {P d st r old} {w:World} (h:RepAt P d st r old w):P<w.heap.size:=(Array.getElem?_eq_some_iff.1 h).1
theorem RepAt.cell {P d st r old} {w:World} (h:RepAt P d st r old w) (k:Nat):w.cell? ⟨P,k,none⟩=(#[Value.int .u32 d, .int .i32 st, .int .u32 0,r,old])[k]?:=by
 rw[Lib.cell_of_heap h]
theorem RepAt.free {P d st r old} {w:World} (h:RepAt P d st r old w) (k:Nat):w.frozen? ⟨P,k,none⟩=false:=Lib.frozen_of_heap h k
theorem RepAt.set {P:Nat} {d st d' st':Int} {r old r' old':Value} {w:World} (h:RepAt P d st r old w) (k:Nat) (v:Value) (e:(#[Value.int .u32 d, .int .i32 st, .int .u32 0,r,old]).setIfInBounds k v= #[Value.int .u32 d', .int .i32 st', .int .u32 0,r',old']):RepAt P d' st' r' old' (w.setCell ⟨P,k,none⟩ v):=by
 unfold RepAt;rw[hset_in h,e]
theorem RepAt.below {P d st r old} {w w':World} (h:RepAt P d st r old w) {lo:Nat} (hb:Below lo w w') (hl:P<lo):RepAt P d st r old w':=(hb.block P hl).trans h
structure Built (P n:Nat) (T:TypeId) (A:Addr) (old:Value) (K R:World→Prop):Prop where
 keep:∀W k v,K W→K (W.setCell ⟨P,k,none⟩ v)
 build:∀W,W.heap.size=n→RepAt P 0 1 .nilIface old W→K W→Calls Tryz.prog 237 #[.pointer (some ⟨P,0,none⟩)] W fun e W'=>e= .returned (.iface T (.pointer (some A)))∧(Below n W W'∧R W')
 set:∀W k v,R W→R (W.setCell ⟨P,k,none⟩ v)
 drew:∀W,R W→R W.drew
structure Stands (P n:Nat) (d st:Int) (T:TypeId) (A:Addr) (R:World→Prop) (w w':World):Prop where
 low:Below P w w'
 at_:RepAt P d st (.iface T (.pointer (some A))) (.slice none 0 0) w'
 is:R w'
 size:n≤w'.heap.size
theorem once_r {P n:Nat} {T:TypeId} {A:Addr} {old:Value} {K R:World→Prop} (hB:Built P n T A old K R) (w:World) (hw:w.heap.size=n) (hP:P<n) (h:RepAt P 0 1 .nilIface old w) (hK:K w):
 Calls Tryz.prog 181 #[.pointer (some ⟨P,0,none⟩)] w fun e w'=>e= .returned (.tuple #[])∧Stands P n 0 1 T A R w w':=by
 have cb:=hB.build w hw h hK
 go_enter Tryz.func181,Tryz.ntmps181
 go_wp2_with fail
 go_at_call 237
 refine cb.mono ?_
 rintro e w1 ⟨rfl,hb1,hr1⟩
 have h1:=h.below hb1 hP
 have h2:=h1.set (r':= .iface T (.pointer (some A))) (old':=old) (d':=0) (st':=1) 3 (.iface T (.pointer (some A))) rfl
 have h3:=h2.set (r':= .iface T (.pointer (some A))) (old':= .slice none 0 0) (d':=0) (st':=1) 4 (.slice none 0 0) rfl
 have hl:Below P w ((w1.setCell ⟨P,3,none⟩ (.iface T (.pointer (some A)))).setCell ⟨P,4,none⟩ (.slice none 0 0)):=((hb1.mono (Nat.le_of_lt hP)).setCell (p:=⟨P,3,none⟩) (Nat.le_refl _) (.iface T (.pointer (some A)))).setCell (p:=⟨P,4,none⟩) (Nat.le_refl _) _
 have hi:=hB.set _ 4 (.slice none 0 0) (hB.set _ 3 (.iface T (.pointer (some A))) hr1)
 have hz:n≤((w1.setCell ⟨P,3,none⟩ (.iface T (.pointer (some A)))).setCell ⟨P,4,none⟩ (.slice none 0 0)).heap.size:=by rw[World.size_setCell,World.size_setCell];have:=hb1.size;omega
 have k3:w1.cell? ⟨P,3,none⟩=some .nilIface:=h1.cell 3
 have k4:w1.cell? ⟨P,4,none⟩=some old:=h1.cell 4
 have f3:=h1.free 3
 have f4:=h1.free 4
 clear cb hb1 hr1 h1 h2
 go_wp2_with fail
 go_end0
 exact⟨rfl,⟨hl,h3,hi,hz⟩⟩
set_option maxRecDepth 100000 in
theorem slow_r {P n:Nat} {T:TypeId} {A:Addr} {old:Value} {K R:World→Prop} (hB:Built P n T A old K R) (w:World) (hw:w.heap.size=n) (hP:P<n) (h:RepAt P 0 0 .nilIface old w) (hK:K w):
 Calls Tryz.prog 236 #[.pointer (some ⟨P,0,none⟩), .func (.func 181) #[.pointer (some ⟨P,0,none⟩)] #[]] w fun e w'=>e= .returned (.tuple #[])∧Stands P n 1 0 T A R w w':=by
 have h0:w.cell? ⟨P,0,none⟩=some (.int .u32 0):=h.cell 0
 have h1:w.cell? ⟨P,1,none⟩=some (.int .i32 0):=h.cell 1
 have f1:=h.free 1
 have hw1:=h.set (r':= .nilIface) (old':=old) (d':=0) (st':=1) 1 (.int .i32 1) rfl
 have hl:=run_call_load (P:=Tryz.prog) Tryz.func273 (by kernel_rfl) (by kernel_rfl) (by kernel_rfl) .u32 (by kernel_rfl) (w:=w.setCell ⟨P,1,none⟩ (.int .i32 1)) (a:=⟨P,0,none⟩) (x:=0) ((World.cell?_setCell_other _ ⟨P,1,none⟩ ⟨P,0,none⟩ _ (by simp)).trans h0)
 have hnot:∀(x:Bool) (w:World),(Op.unary .not (.bool x)).run Tryz.prog w= .ok (.bool (!x)) w:=fun _ _=>rfl
 have co:=once_r hB (w.setCell ⟨P,1,none⟩ (.int .i32 1)) (by rw[World.size_setCell];exact hw) hP hw1 (hB.keep _ _ _ hK)
 have hk:Below P w (w.setCell ⟨P,1,none⟩ (.int .i32 1)):=(Below.refl P w).setCell (p:=⟨P,1,none⟩) (Nat.le_refl _) _
 go_enter_defers Tryz.func236,Tryz.ntmps236
 go_wp2_with(first|(go_at_call 274;refine(lock_free ⟨P,1,none⟩ _ (by assumption) (by assumption)).mono ?_;rintro e w' ⟨rfl,rfl⟩)|(go_at_call 235;go_in)|(go_at_call 181;refine co.mono ?_;rintro e w3 ⟨rfl,hs⟩))
 refine leaves_cons (f:=276) (args:= #[.pointer (some ⟨P,0,none⟩), .bool true]) (by simp) (by simp[go_sem]) ?_
 have g0:w3.cell? ⟨P,0,none⟩=some (.int .u32 0):=hs.at_.cell 0
 refine(store_deferred ⟨P,0,none⟩ (.int .u32 0) .returning _ g0 (hs.at_.free 0)).mono ?_
 rintro e u' w4 ⟨rfl,rfl,rfl⟩
 have hd:RepAt P 0 1 (.iface T (.pointer (some A))) (.slice none 0 0) w3.drew:=hs.at_
 have h4:=hd.set (r':= .iface T (.pointer (some A))) (old':= .slice none 0 0) (d':=1) (st':=1) 0 (.int .u32 1) rfl
 have h5:=h4.set (r':= .iface T (.pointer (some A))) (old':= .slice none 0 0) (d':=1) (st':=0) 1 (.int .i32 0) rfl
 refine leaves_cons (f:=275) (args:= #[.pointer (some ⟨P,1,none⟩)]) (by simp[settle]) (by simp[go_sem]) ?_
 refine(unlock_deferred ⟨P,1,none⟩ _ _ (h4.cell 1) (h4.free 1)).mono ?_
 rintro e u' w5 ⟨rfl,rfl,rfl⟩
 have hfin:Stands P n 1 0 T A R w ((w3.drew.setCell ⟨P,0,none⟩ (.int .u32 1)).setCell ⟨P,1,none⟩ (.int .i32 0)):=
  ⟨((hk.trans hs.low).drew.setCell (p:=⟨P,0,none⟩) (Nat.le_refl _) _).setCell (p:=⟨P,1,none⟩) (Nat.le_refl _) _,h5,hB.set _ _ _ (hB.set _ _ _ (hB.drew _ hs.is)),by rw[World.size_setCell,World.size_setCell];exact hs.size⟩
 simp[Leaves,settle,results,Tryz.results236]
 exact hfin
set_option maxRecDepth 100000 in
theorem do_r {P n:Nat} {T:TypeId} {A:Addr} {old:Value} {K R:World→Prop} (hB:Built P n T A old K R) (w:World) (hw:w.heap.size=n) (hP:P<n) (h:RepAt P 0 0 .nilIface old w) (hK:K w):
 Calls Tryz.prog 180 #[.pointer (some ⟨P,0,none⟩), .func (.func 181) #[.pointer (some ⟨P,0,none⟩)] #[]] w fun e w'=>e= .returned (.tuple #[])∧Stands P n 1 0 T A R w w':=by
 have h0:w.cell? ⟨P,0,none⟩=some (.int .u32 0):=h.cell 0
 have hl:=run_call_load (P:=Tryz.prog) Tryz.func273 (by kernel_rfl) (by kernel_rfl) (by kernel_rfl) .u32 (by kernel_rfl) h0
 have hnot:∀(x:Bool) (w:World),(Op.unary .not (.bool x)).run Tryz.prog w= .ok (.bool (!x)) w:=fun _ _=>rfl
 have cs:=slow_r hB w hw hP h hK
 go_enter Tryz.func180,Tryz.ntmps180
 go_wp2_with(first|(go_at_call 236;refine cs.mono ?_;rintro e w3 ⟨rfl,hs⟩)|(go_at_call 235;go_in))
 go_end0
 exact⟨rfl,hs⟩
set_option maxRecDepth 100000 in
theorem replace_r {P n M:Nat} {T:TypeId} {A:Addr} {old:Value} {K R:World→Prop} (hB:Built P n T A old K R) (s out:List UInt8)
 (hI:∀k w,(method (k+1) T (.pointer (some A)) "Replace").run Tryz.prog w= .ok (M, .pointer (some A)) w) (hC:∀x w,(callFunc M #[.pointer (some A),x]).run Tryz.prog w= .ok (.enter M #[.pointer (some A),x]) w)
 (hM:∀W,R W→n≤W.heap.size→Calls Tryz.prog M #[.pointer (some A), .string ⟨s.toArray⟩] W fun e W'=>e= .returned (.string ⟨out.toArray⟩)∧Below W.heap.size W W')
 (w:World) (hw:w.heap.size=n) (hP:P<n) (h:RepAt P 0 0 .nilIface old w) (hK:K w):
 Calls Tryz.prog 127 #[.pointer (some ⟨P,0,none⟩), .string ⟨s.toArray⟩] w fun e w'=>e= .returned (.string ⟨out.toArray⟩)∧Below P w w':=by
 have cs:=do_r hB w hw hP h hK
 have hmf:∀(fn:Fn) (first cap:Array Value) (w:World),(Instr.makeFunc fn first cap).run Tryz.prog w= .ok (.func fn first cap) w:=fun _ _ _ _=>rfl
 go_enter Tryz.func127,Tryz.ntmps127
 go_wp2_with fail
 go_at_call 180
 refine cs.mono ?_
 rintro e w3 ⟨rfl,hs⟩
 have k3:w3.cell? ⟨P,3,none⟩=some (.iface T (.pointer (some A))):=hs.at_.cell 3
 have cm:=hM w3 hs.is hs.size
 have hfin:=hs.low
 have hz:=hs.size
 clear cs hM hB hs
 go_wp2_with fail
 refine cm.mono ?_
 rintro e w4 ⟨rfl,hb4⟩
 clear cm hI hC
 go_wp2_with fail
 go_ret
 exact⟨rfl,hfin.trans (hb4.mono (Nat.le_of_lt (Nat.lt_of_lt_of_le hP hz)))⟩
theorem e_txt:Elem1 Tryz.prog 59 9 (.string ⟨#[]⟩) 16:=⟨Tryz.underlying59,info_parts (by kernel_rfl),rfl⟩
def strV (l:List (List UInt8)):List Value:=l.map fun s=> .string ⟨s.toArray⟩
theorem strV_one {l:List (List UInt8)}:∀u∈strV l,u.oneCell'=true:=fun u hu=>by
 obtain⟨s,_,rfl⟩:=List.mem_map.1 hu;rfl
def NewPost (l:List (List UInt8)) (w:World) (e:Ending) (w':World):Prop:=
 ∃P g c,e= .returned (.pointer (some ⟨P,0,none⟩))∧w.heap.size≤g∧g<P∧w'.heap.size=P+1∧RepAt P 0 0 .nilIface (.slice (some ⟨g,0,none⟩) l.length c) w'∧(∀j u,(strV l)[j]?=some u→w'.cell? ⟨g,j,none⟩=some u)∧Below w.heap.size w w'
set_option maxRecDepth 100000 in
theorem new_rep (l:List (List UInt8)) (n:Nat) (hn:n=4∨n=6) (hl:l.length=n) (a:Addr) (w:World) (hs:∀j u,(strV l)[j]?=some u→w.cell? (a.add j)=some u):
 Calls Tryz.prog 126 #[.slice (some a) n n] w (NewPost l w):=by
 have hsl:(strV l).length=n:=by unfold strV;rw[List.length_map];exact hl
 have hseg:Seg w (.slice (some a) n n) (strV l) (some a.block):= .inr ⟨a,n,by rw[hsl],rfl,hs⟩
 have hn6:n≤6:=by omega
 have hrem:Value.int .i64 ((n:Int).tmod 2)= .int .i64 0:=by rcases hn with rfl|rfl<;>rfl
 rcases hn with rfl|rfl
 all_goals
  go_enter Tryz.func126,Tryz.ntmps126;go_wp2_with(at_builtin;refine wpList_append_seg e_txt _ rfl _ _ rfl w.heap.size _ 0 [] rfl (World.ownsRow_nil _ _ _ _) _ (strV l) _ rfl hseg strV_one (by omega) (by omega) (Nat.le_refl _) ?_;intro v1 w1 hown hg;obtain⟨g,c,rfl,hg1,hg2,hn1,hc1,hcells⟩:=(own_open hown).resolve_left (fun h=>by have:=h.2.1;omega))
 all_goals
  rw[List.nil_append]at hcells;have hb1:Below w.heap.size w w1:=below_of_grown hg (Nat.le_refl _) (fun k hk=>by cases hk);clear hown hg hseg hs;go_ret;refine⟨w1.heap.size,g,c,rfl,hg1,hg2,World.size_alloc _ _, ?_, ?_,hb1.alloc hb1.size _⟩
  ·rw[hl];have:=heap_alloc_new w1 (.cells #[.int .u32 0, .int .i32 0, .int .u32 0, .nilIface, .slice (some ⟨g,0,none⟩) (0+(strV l).length) c] 236);rw[hsl,Nat.zero_add]at this;exact this
  ·intro j u hj
   rw[World.cell?_alloc_past _ _ _ hg2];exact hcells j u hj
def tabsL:List (List UInt8):=[[9],[],[10],[],[13],[]]
def rowF (F:Nat→Value) (v:Value):List Value:=(List.range 256).map F++[v]
theorem rowF_get (F:Nat→Value) (v:Value) {k:Nat} (h:k<256):(rowF F v)[k]?=some (F k):=by
 unfold rowF;rw[List.getElem?_append_left (by simpa using h),List.getElem?_map,List.getElem?_range h];rfl
theorem rowF_last (F:Nat→Value) (v:Value):(rowF F v)[256]?=some v:=by
 unfold rowF;rw[List.getElem?_append_right (by simp)];simp
theorem rowF_set (F:Nat→Value) (v x:Value) {k:Nat} (h:k<256):(rowF F v).set k x=rowF (fun j=>if j=k then x else F j) v:=by
 unfold rowF;rw[List.set_append_left k x (by simpa using h)];congr 1;apply List.ext_getElem?;intro i;rw[List.getElem?_set];by_cases hi:i<256
 ·rw[List.getElem?_map,List.getElem?_map,List.getElem?_range hi]
  by_cases hk:k=i
  ·subst hk;simp[h]
  ·rw[if_neg hk];simp[Ne.symm hk]
 ·rw[List.getElem?_eq_none (by simp;omega),List.getElem?_eq_none (by simp;omega),if_neg (by omega)]
theorem rowF_set_last (F:Nat→Value) (v x:Value):(rowF F v).set 256 x=rowF F x:=by
 unfold rowF;rw[List.set_append_right 256 x (by simp)];simp
def TabAt (B:Nat) (F:Nat→Value) (v:Value) (w:World):Prop:=w.heap[B]?=some (.cells (rowF F v).toArray 315 (0,0))
theorem TabAt.lt {B F v} {w:World} (h:TabAt B F v w):B<w.heap.size:=(Array.getElem?_eq_some_iff.1 h).1
theorem TabAt.cell {B F v} {w:World} (h:TabAt B F v w) {k:Nat} (hk:k<256):w.cell? ⟨B,k,none⟩=some (F k):=by
 rw[Lib.cell_of_heap h,List.getElem?_toArray];exact rowF_get F v hk
theorem TabAt.last {B F v} {w:World} (h:TabAt B F v w):w.cell? ⟨B,256,none⟩=some v:=by
 rw[Lib.cell_of_heap h,List.getElem?_toArray];exact rowF_last F v
theorem TabAt.free {B F v} {w:World} (h:TabAt B F v w) (k:Nat):w.frozen? ⟨B,k,none⟩=false:=Lib.frozen_of_heap h k
theorem TabAt.set {B F v} {w:World} (h:TabAt B F v w) {k:Nat} (hk:k<256) (x:Value):TabAt B (fun j=>if j=k then x else F j) v (w.setCell ⟨B,k,none⟩ x):=by
 unfold TabAt;rw[hset_in h,List.setIfInBounds_toArray,rowF_set F v x hk]
theorem TabAt.setLast {B F v} {w:World} (h:TabAt B F v w) (x:Value):TabAt B F x (w.setCell ⟨B,256,none⟩ x):=by
 unfold TabAt;rw[hset_in h,List.setIfInBounds_toArray,rowF_set_last F v x]
theorem TabAt.of {B F v} {w w':World} (h:TabAt B F v w) (e:w'.heap[B]?=w.heap[B]?):TabAt B F v w':=e.trans h
theorem TabAt.grown {B F v} {a w:World} {row:Option Nat} (h:TabAt B F v a) (hg:a.grownBy w row) (hne:row≠some B):TabAt B F v w:=h.of (hg.block B h.lt (fun e=>hne e.symm))
theorem TabAt.own {B F v} {w:World} (h:TabAt B F v w) {b n c g:Nat} {xs:List Value} (ho:w.ownsRow b 9 1 (.slice (some ⟨g,0,none⟩) n c) n xs):g≠B:=fun e=>by
 subst e;rcases ho.2 with ⟨h1,_⟩|⟨g',cap,cur,h1,_,hg,_⟩
 ·cases h1
 ·simp only[Value.slice.injEq,Option.some.injEq,Addr.mk.injEq]at h1
  rw[h1.1.1]at h;rw[h]at hg;simp at hg
theorem own_other {w w':World} {b g n m c:Nat} {xs:List Value} (ho:w.ownsRow b 9 1 (.slice (some ⟨g,0,none⟩) m c) n xs) (e:w'.heap[g]?=w.heap[g]?):w'.ownsRow b 9 1 (.slice (some ⟨g,0,none⟩) m c) n xs:=by
 refine⟨ho.1, ?_⟩;rcases ho.2 with ⟨h1,_⟩|⟨g',cap,cur,h1,hb,hg,rest⟩
 ·cases h1
 ·have h1':=h1
  simp only[Value.slice.injEq,Option.some.injEq,Addr.mk.injEq]at h1';refine .inr ⟨g',cap,cur,h1,hb, ?_,rest⟩;rw[←h1'.1.1,e,h1'.1.1];exact hg
def isTab (k:Nat):Prop:=k=13∨(k=10∨k=9)
def TabsIs (n B:Nat) (w:World):Prop:=
 ∃F t c,TabAt B F (.slice (some ⟨t,0,none⟩) 3 c) w∧n≤t∧n≤B∧w.ownsRow n 9 1 (.slice (some ⟨t,0,none⟩) 3 c) 3 (strV [[13],[10],[9]])∧(∀k,k<256→isTab k→∃a q,F k= .slice (some a) 0 q)∧(∀k,k<256→¬isTab k→F k= .slice none 0 0)
theorem eql_nil (a:Option Addr) (l c:Nat) (w:World):(binOp .eql 51 (.slice a l c) (.slice none 0 0)).run Tryz.prog w= .ok (.bool a.isNone) w:=by
 simp[binOp,run_equal_slice_nil w 51 5 a l c Tryz.underlying51]
theorem conv_one (c:UInt8) (n:Nat) (V:World) (hn:V.heap.size=n):(convert 51 9 (.slice (some ⟨n,0,none⟩) 1 1)).run Tryz.prog (V.alloc (.cells #[.int .u8 (c.toNat:Int)] 5))= .ok (.string ⟨#[c]⟩) (V.alloc (.cells #[.int .u8 (c.toNat:Int)] 5)):=by
 subst hn;exact convert_bytes_own (base:=V.heap.size) (l:=[c]) Tryz.underlying51 Tryz.underlying5 Tryz.underlying9 ⟨by simp[Lib.byteCells], .inr ⟨V.heap.size,1,_,rfl,Nat.le_refl _,heap_alloc_new V _,Nat.le_refl _,by unfold maxLen;omega,rfl,by simp[Lib.byteCells]⟩⟩
theorem store_cells {w w':World} {b:Nat} {ty:TypeId} {l:List Value} (h:(storeVar ty ⟨b,0,none⟩ (.agg l.toArray)).run Tryz.prog w= .ok () w'):(storeCells ⟨b,0,none⟩ l).run Tryz.prog w= .ok () w':=by
 cases hq:Tryz.prog.info? ty with
 |none=>simp[storeVar,sizeOf,typeInfo,hq]at h
 |some i=>
  simp[storeVar,sizeOf,typeInfo,hq,Value.cells]at h;by_cases hl:l.length=i.size
  ·rw[if_pos hl]at h;exact h
  ·rw[if_neg hl]at h;cases h
set_option maxRecDepth 100000 in
theorem build_tabs (P n g c:Nat) (W:World) (hsz:W.heap.size=n) (hg:g<n) (hr:RepAt P 0 1 .nilIface (.slice (some ⟨g,0,none⟩) 6 c) W) (hc:∀j u,(strV tabsL)[j]?=some u→W.cell? ⟨g,j,none⟩=some u):
 Calls Tryz.prog 237 #[.pointer (some ⟨P,0,none⟩)] W fun e W'=>e= .returned (.iface 316 (.pointer (some ⟨n+1,0,none⟩)))∧(Below n W W'∧TabsIs n (n+1) W'):=by
 have k4:W.cell? ⟨P,4,none⟩=some (.slice (some ⟨g,0,none⟩) 6 c):=hr.cell 4
 have c0:W.cell? ⟨g,0,none⟩=some (.string ⟨#[9]⟩):=hc 0 _ rfl
 have c1:W.cell? ⟨g,1,none⟩=some (.string ⟨#[]⟩):=hc 1 _ rfl
 have c2:W.cell? ⟨g,2,none⟩=some (.string ⟨#[10]⟩):=hc 2 _ rfl
 have c3:W.cell? ⟨g,3,none⟩=some (.string ⟨#[]⟩):=hc 3 _ rfl
 have c4:W.cell? ⟨g,4,none⟩=some (.string ⟨#[13]⟩):=hc 4 _ rfl
 have c5:W.cell? ⟨g,5,none⟩=some (.string ⟨#[]⟩):=hc 5 _ rfl
 obtain⟨i,hi,hz,hsize,hby⟩:=e_txt.hi
 obtain⟨w1,hw1⟩:∃w1,W.alloc (.cells (madeCells (Value.string ⟨#[]⟩).cells (3*i.size)) 9)=w1:=⟨_,rfl⟩
 have hmk:(Instr.makeSlice 59 (.int .i64 0) (.int .i64 3)).run Tryz.prog W= .ok (.slice (some ⟨n,0,none⟩) 0 3) w1:=by
  rw[←hsz,←hw1];exact run_makeSlice (P:=Tryz.prog) W 59 9 i (.string ⟨#[]⟩) Tryz.underlying59 hi hz .i64 .i64 0 3 (by omega) (by omega) (by rw[hsize];decide) (by rw[hby];decide) (by omega)
 have hown1:w1.ownsRow n 9 1 (.slice (some ⟨n,0,none⟩) 0 3) 0 []:=by
  have:=World.ownsRow_made W (madeCells (Value.string ⟨#[]⟩).cells (3*i.size)) 3 (base:=n) (e:=9) (size:=i.size) (by omega) (by unfold maxLen;omega) (size_madeCells _ _);rw[hw1,hsz,hsize]at this;exact this
 have hs1:w1.heap.size=n+1:=by rw[←hw1,World.size_alloc,hsz]
 have hb1:Below n W w1:=by rw[←hw1];exact(Below.refl n W).alloc (by omega) _
 have hbuild:∀w,(Instr.build 315 #[(1, .slice (some ⟨n,0,none⟩) 0 3)]).run Tryz.prog w= .ok (.agg (rowF (fun _=> .slice none 0 0) (.slice (some ⟨n,0,none⟩) 0 3)).toArray) w:=fun w=>run_build w _ _ _ (by kernel_rfl)
 have hZ:Tryz.zeroCells315=(rowF (fun _=> .slice none 0 0) (.slice none 0 0)).toArray:=by kernel_rfl
 obtain⟨w2,hw2⟩:∃w2,w1.alloc (.cells Tryz.zeroCells315 315)=w2:=⟨_,rfl⟩
 have h2:TabAt (n+1) (fun _=> .slice none 0 0) (.slice none 0 0) w2:=by have:=heap_alloc_new w1 (.cells Tryz.zeroCells315 315);rw[hw2,hs1,hZ]at this;exact this
 obtain⟨w3,hw3⟩:∃w3,w2.setRow (n+1) (rowF (fun _=> .slice none 0 0) (.slice (some ⟨n,0,none⟩) 0 3)).toArray=w3:=⟨_,rfl⟩
 have hst:(storeCells ⟨n+1,0,none⟩ (Tryz.zeroCells315.toList.set 256 (.slice (some ⟨n,0,none⟩) 0 3))).run Tryz.prog (w1.alloc (.cells Tryz.zeroCells315 315))= .ok () w3:=by
  rw[hw2,hZ,List.toList_toArray,rowF_set_last];have:=run_storeVar_row (P:=Tryz.prog) w2 (n+1) 315 315 _ (rowF (fun _=> .slice none 0 0) (.slice (some ⟨n,0,none⟩) 0 3)).toArray h2 (by kernel_rfl) (by simp[rowF]) (by kernel_rfl);rw[hw3]at this;exact store_cells this
 have h3:TabAt (n+1) (fun _=> .slice none 0 0) (.slice (some ⟨n,0,none⟩) 0 3) w3:=by rw[←hw3];exact setRow_heap w2 (n+1) _ _ _ _ h2
 have hb2:Below n W w2:=by rw[←hw2];exact hb1.alloc (by omega) _
 have hb3:Below n W w3:=by rw[←hw3];exact⟨hb2.os,hb2.tape,hb2.output,by rw[setRow_size];exact hb2.size,fun k hk=>(setRow_other _ _ _ _ (by omega)).trans (hb2.block k hk)⟩
 have hs3:w3.heap.size=n+2:=by rw[←hw3,setRow_size,←hw2,World.size_alloc,hs1]
 have hb13:Below w1.heap.size w1 w3:=by
  have h12:Below w1.heap.size w1 w2:=by rw[←hw2];exact below_alloc _ _
  rw[←hw3];exact⟨h12.os,h12.tape,h12.output,by rw[setRow_size];exact h12.size,fun k hk=>(setRow_other _ _ _ _ (by omega)).trans (h12.block k hk)⟩
 have hown3:=own_below hown1 hb13
 have d0:∀W',Below n W W'→W'.cell? ⟨g,0,none⟩=some (.string ⟨#[9]⟩):=fun W' hb=>(hb.cell (p:=⟨g,0,none⟩) hg).trans c0
 have d1:∀W',Below n W W'→W'.cell? ⟨g,1,none⟩=some (.string ⟨#[]⟩):=fun W' hb=>(hb.cell (p:=⟨g,1,none⟩) hg).trans c1
 have d2:∀W',Below n W W'→W'.cell? ⟨g,2,none⟩=some (.string ⟨#[10]⟩):=fun W' hb=>(hb.cell (p:=⟨g,2,none⟩) hg).trans c2
 have d3:∀W',Below n W W'→W'.cell? ⟨g,3,none⟩=some (.string ⟨#[]⟩):=fun W' hb=>(hb.cell (p:=⟨g,3,none⟩) hg).trans c3
 have d4:∀W',Below n W W'→W'.cell? ⟨g,4,none⟩=some (.string ⟨#[13]⟩):=fun W' hb=>(hb.cell (p:=⟨g,4,none⟩) hg).trans c4
 have d5:∀W',Below n W W'→W'.cell? ⟨g,5,none⟩=some (.string ⟨#[]⟩):=fun W' hb=>(hb.cell (p:=⟨g,5,none⟩) hg).trans c5
 clear hbuild hZ hw2 hw3 h2 hb2 hb13 hown1 hw1
 go_enter Tryz.func237,Tryz.ntmps237
 go_wp2_with fail
 refine wp_loop_rounds 4 ?_
 rw[rounds_succ]
 go_wp2_with fail
 rw[rounds_succ]
 go_wp2_with fail
 rw[rounds_succ]
 go_wp2_with fail
 rw[rounds_succ]
 go_wp2_with fail
 have hb3n:n≤w3.heap.size:=by omega
 clear hmk hst k4 c0 c1 c2 c3 c4 c5 hr hc hi hz hsize hby hb1 hs1 hs3
 have hb3s:n≤w3.heap.size:=hb3n
 clear hb3n
 have heq:=eql_nil
 refine wp_loop_rounds 4 ?_
 have e0a:=d4 _ hb3
 have e0b:=d5 _ hb3
 have t0:w3.cell? ⟨n+1,13,none⟩=some (.slice none 0 0):=(h3.cell (k:=13) (by omega)).trans (by simp)
 have l0:w3.cell? ⟨n+1,256,none⟩=some _:=h3.last
 have cv0:(convert 51 9 (.slice (some ⟨w3.heap.size,0,none⟩) 1 1)).run Tryz.prog (w3.alloc (.cells #[.int .u8 13] 5))= .ok (.string ⟨#[13]⟩) (w3.alloc (.cells #[.int .u8 13] 5)):=conv_one 13 _ w3 rfl
 have oa0:=own_below hown3 (below_alloc w3 (.cells #[.int .u8 13] 5))
 have ha0:TabAt (n+1) _ _ (w3.alloc (.cells #[.int .u8 13] 5)):=h3.of (Lib.alloc_old w3 _ _ h3.lt)
 have hw0:Below n W (w3.alloc (.cells #[.int .u8 13] 5)):=hb3.alloc hb3s _
 have hn0:n≤(w3.alloc (.cells #[.int .u8 13] 5)).heap.size:=by rw[World.size_alloc];have:=hb3s;omega
 have ne0:some n≠some (n+1):=by simp
 have le0:n≤n:=by exact Nat.le_refl _
 rw[rounds_succ]
 go_wp2_with(at_builtin;go_loud(refine wpList_append_vals e_txt _ rfl _ _ rfl n _ 0 (strV []) rfl oa0 1 [.string ⟨#[13]⟩] _ (by simp[Act.eval]) rfl (fun u hu=>by rw[List.mem_singleton]at hu;rw[hu];rfl) (by omega) (by omega) hn0 ?_;intro v0 x0 ho0 hg0 _;obtain⟨g0,cp0,rfl,hl0,_⟩:=(own_open ho0).resolve_left (fun h=>by have:=h.2.1;omega);have hT0:=ha0.grown hg0 ne0;have hB0:Below n W x0:=hw0.grown hg0 hn0 (fun k hk=>by have hk:some n=some k:=hk;injection hk with hk;rw[←hk];exact le0);have hS0:=hT0.setLast (.slice (some ⟨g0,0,none⟩) 1 cp0);obtain⟨cq0,y0,hq0,hby0,_,_⟩:=conv_row (x0.setCell ⟨n+1,256,none⟩ (.slice (some ⟨g0,0,none⟩) 1 cp0)) [];have lx0:x0.cell? ⟨n+1,256,none⟩=some _:=hT0.last;have fx0:=hT0.free 256;have hY0:=hS0.of (hby0.block _ hS0.lt);have ty0:y0.cell? ⟨n+1,13,none⟩=some (.slice none 0 0):=(hY0.cell (k:=13) (by omega)).trans (by simp);have fy0:=hY0.free 13;clear hg0))
 obtain⟨z0,hz0⟩:∃z,y0.setCell ⟨n+1,13,none⟩ (.slice (some ⟨x0.heap.size,0,none⟩) 0 cq0)=z:=⟨_,rfl⟩
 rw[hz0]
 have hne0:g0≠n+1:=hT0.own ho0
 have hZ0:=hY0.set (k:=13) (by omega) (.slice (some ⟨x0.heap.size,0,none⟩) 0 cq0)
 rw[hz0]at hZ0
 have xs0:=hB0.size
 have hbz0:Below n W z0:=by rw[←hz0];exact((hB0.setCell (p:=⟨n+1,256,none⟩) (by show n≤n+1;omega) _).trans (hby0.mono (by rw[World.size_setCell];omega))).setCell (p:=⟨n+1,13,none⟩) (by show n≤n+1;omega) _
 have hbz0s:n≤z0.heap.size:=by have:=hbz0.size;omega
 have hoz0:=own_other (w':=z0) ho0 (by rw[←hz0];exact(Below.heap_setCell _ _ _ _ (by exact hne0)).trans ((hby0.block _ (by rw[World.size_setCell];exact(ho0.lt _ rfl).2)).trans (Below.heap_setCell _ _ _ _ (by exact hne0))))
 clear hz0 hY0 hS0 hT0 ho0 hB0 hby0 xs0 ha0 oa0 hw0 hn0 cv0 t0 l0 e0a e0b lx0 fx0 ty0 fy0 hq0 h3 hown3 hb3
 have e1a:=d2 _ hbz0
 have e1b:=d3 _ hbz0
 have t1:z0.cell? ⟨n+1,10,none⟩=some (.slice none 0 0):=(hZ0.cell (k:=10) (by omega)).trans (by simp)
 have l1:z0.cell? ⟨n+1,256,none⟩=some _:=hZ0.last
 have cv1:(convert 51 9 (.slice (some ⟨z0.heap.size,0,none⟩) 1 1)).run Tryz.prog (z0.alloc (.cells #[.int .u8 10] 5))= .ok (.string ⟨#[10]⟩) (z0.alloc (.cells #[.int .u8 10] 5)):=conv_one 10 _ z0 rfl
 have oa1:=own_below hoz0 (below_alloc z0 (.cells #[.int .u8 10] 5))
 have ha1:TabAt (n+1) _ _ (z0.alloc (.cells #[.int .u8 10] 5)):=hZ0.of (Lib.alloc_old z0 _ _ hZ0.lt)
 have hw1:Below n W (z0.alloc (.cells #[.int .u8 10] 5)):=hbz0.alloc hbz0s _
 have hn1:n≤(z0.alloc (.cells #[.int .u8 10] 5)).heap.size:=by rw[World.size_alloc];have:=hbz0s;omega
 have ne1:some g0≠some (n+1):=by exact fun e=>hZ0.own hoz0 (by injection e)
 have le1:n≤g0:=by assumption
 rw[rounds_succ]
 go_wp2_with(at_builtin;go_loud(refine wpList_append_vals e_txt _ rfl _ _ rfl n _ 1 (strV [[13]]) rfl oa1 1 [.string ⟨#[10]⟩] _ (by simp[Act.eval]) rfl (fun u hu=>by rw[List.mem_singleton]at hu;rw[hu];rfl) (by omega) (by omega) hn1 ?_;intro v1 x1 ho1 hg1 _;obtain⟨g1,cp1,rfl,hl1,_⟩:=(own_open ho1).resolve_left (fun h=>by have:=h.2.1;omega);have hT1:=ha1.grown hg1 ne1;have hB1:Below n W x1:=hw1.grown hg1 hn1 (fun k hk=>by have hk:some g0=some k:=hk;injection hk with hk;rw[←hk];exact le1);have hS1:=hT1.setLast (.slice (some ⟨g1,0,none⟩) 2 cp1);obtain⟨cq1,y1,hq1,hby1,_,_⟩:=conv_row (x1.setCell ⟨n+1,256,none⟩ (.slice (some ⟨g1,0,none⟩) 2 cp1)) [];have lx1:x1.cell? ⟨n+1,256,none⟩=some _:=hT1.last;have fx1:=hT1.free 256;have hY1:=hS1.of (hby1.block _ hS1.lt);have ty1:y1.cell? ⟨n+1,10,none⟩=some (.slice none 0 0):=(hY1.cell (k:=10) (by omega)).trans (by simp);have fy1:=hY1.free 10;clear hg1))
 obtain⟨z1,hz1⟩:∃z,y1.setCell ⟨n+1,10,none⟩ (.slice (some ⟨x1.heap.size,0,none⟩) 0 cq1)=z:=⟨_,rfl⟩
 rw[hz1]
 have hne1:g1≠n+1:=hT1.own ho1
 have hZ1:=hY1.set (k:=10) (by omega) (.slice (some ⟨x1.heap.size,0,none⟩) 0 cq1)
 rw[hz1]at hZ1
 have xs1:=hB1.size
 have hbz1:Below n W z1:=by rw[←hz1];exact((hB1.setCell (p:=⟨n+1,256,none⟩) (by show n≤n+1;omega) _).trans (hby1.mono (by rw[World.size_setCell];omega))).setCell (p:=⟨n+1,10,none⟩) (by show n≤n+1;omega) _
 have hbz1s:n≤z1.heap.size:=by have:=hbz1.size;omega
 have hoz1:=own_other (w':=z1) ho1 (by rw[←hz1];exact(Below.heap_setCell _ _ _ _ (by exact hne1)).trans ((hby1.block _ (by rw[World.size_setCell];exact(ho1.lt _ rfl).2)).trans (Below.heap_setCell _ _ _ _ (by exact hne1))))
 clear hz1 hY1 hS1 hT1 ho1 hB1 hby1 xs1 ha1 oa1 hw1 hn1 cv1 t1 l1 e1a e1b lx1 fx1 ty1 fy1 hq1 hZ0 hoz0 hbz0
 have e2a:=d0 _ hbz1
 have e2b:=d1 _ hbz1
 have t2:z1.cell? ⟨n+1,9,none⟩=some (.slice none 0 0):=(hZ1.cell (k:=9) (by omega)).trans (by simp)
 have l2:z1.cell? ⟨n+1,256,none⟩=some _:=hZ1.last
 have cv2:(convert 51 9 (.slice (some ⟨z1.heap.size,0,none⟩) 1 1)).run Tryz.prog (z1.alloc (.cells #[.int .u8 9] 5))= .ok (.string ⟨#[9]⟩) (z1.alloc (.cells #[.int .u8 9] 5)):=conv_one 9 _ z1 rfl
 have oa2:=own_below hoz1 (below_alloc z1 (.cells #[.int .u8 9] 5))
 have ha2:TabAt (n+1) _ _ (z1.alloc (.cells #[.int .u8 9] 5)):=hZ1.of (Lib.alloc_old z1 _ _ hZ1.lt)
 have hw2:Below n W (z1.alloc (.cells #[.int .u8 9] 5)):=hbz1.alloc hbz1s _
 have hn2:n≤(z1.alloc (.cells #[.int .u8 9] 5)).heap.size:=by rw[World.size_alloc];have:=hbz1s;omega
 have ne2:some g1≠some (n+1):=by exact fun e=>hZ1.own hoz1 (by injection e)
 have le2:n≤g1:=by assumption
 rw[rounds_succ]
 go_wp2_with(at_builtin;go_loud(refine wpList_append_vals e_txt _ rfl _ _ rfl n _ 2 (strV [[13],[10]]) rfl oa2 1 [.string ⟨#[9]⟩] _ (by simp[Act.eval]) rfl (fun u hu=>by rw[List.mem_singleton]at hu;rw[hu];rfl) (by omega) (by omega) hn2 ?_;intro v2 x2 ho2 hg2 _;obtain⟨g2,cp2,rfl,hl2,_⟩:=(own_open ho2).resolve_left (fun h=>by have:=h.2.1;omega);have hT2:=ha2.grown hg2 ne2;have hB2:Below n W x2:=hw2.grown hg2 hn2 (fun k hk=>by have hk:some g1=some k:=hk;injection hk with hk;rw[←hk];exact le2);have hS2:=hT2.setLast (.slice (some ⟨g2,0,none⟩) 3 cp2);obtain⟨cq2,y2,hq2,hby2,_,_⟩:=conv_row (x2.setCell ⟨n+1,256,none⟩ (.slice (some ⟨g2,0,none⟩) 3 cp2)) [];have lx2:x2.cell? ⟨n+1,256,none⟩=some _:=hT2.last;have fx2:=hT2.free 256;have hY2:=hS2.of (hby2.block _ hS2.lt);have ty2:y2.cell? ⟨n+1,9,none⟩=some (.slice none 0 0):=(hY2.cell (k:=9) (by omega)).trans (by simp);have fy2:=hY2.free 9;clear hg2))
 obtain⟨z2,hz2⟩:∃z,y2.setCell ⟨n+1,9,none⟩ (.slice (some ⟨x2.heap.size,0,none⟩) 0 cq2)=z:=⟨_,rfl⟩
 rw[hz2]
 have hne2:g2≠n+1:=hT2.own ho2
 have hZ2:=hY2.set (k:=9) (by omega) (.slice (some ⟨x2.heap.size,0,none⟩) 0 cq2)
 rw[hz2]at hZ2
 have xs2:=hB2.size
 have hbz2:Below n W z2:=by rw[←hz2];exact((hB2.setCell (p:=⟨n+1,256,none⟩) (by show n≤n+1;omega) _).trans (hby2.mono (by rw[World.size_setCell];omega))).setCell (p:=⟨n+1,9,none⟩) (by show n≤n+1;omega) _
 have hbz2s:n≤z2.heap.size:=by have:=hbz2.size;omega
 have hoz2:=own_other (w':=z2) ho2 (by rw[←hz2];exact(Below.heap_setCell _ _ _ _ (by exact hne2)).trans ((hby2.block _ (by rw[World.size_setCell];exact(ho2.lt _ rfl).2)).trans (Below.heap_setCell _ _ _ _ (by exact hne2))))
 clear hz2 hY2 hS2 hT2 ho2 hB2 hby2 xs2 ha2 oa2 hw2 hn2 cv2 t2 l2 e2a e2b lx2 fx2 ty2 fy2 hq2 hZ1 hoz1 hbz1
 rw[rounds_succ]
 go_wp2_with fail
 go_ret
 refine⟨rfl,hbz2,_,_,_,hZ2,hl2,by omega,hoz2, ?_, ?_⟩
 ·rintro k-(rfl|rfl|rfl)<;>exact⟨_,_,rfl⟩
 ·intro k _ hk
  unfold isTab at hk;rw[if_neg (by omega),if_neg (by omega),if_neg (by omega)]
def tabC (c:UInt8):Bool:=c==9||(c==10||c==13)
def noTab (s:List UInt8):List UInt8:=s.filter fun c=> !tabC c
def tabN (s:List UInt8):Nat:=s.countP tabC
theorem tabC_is:∀c:UInt8,tabC c=true↔isTab c.toNat:=by
 have:∀n:Fin 256,tabC (UInt8.ofNat n.val)=true↔(n.val=13∨(n.val=10∨n.val=9)):=by decide+kernel
 intro c;have:=this ⟨c.toNat,c.toNat_lt⟩;simpa[isTab]using this
theorem noTab_len:∀s:List UInt8,(noTab s).length+tabN s=s.length
 |[]=>rfl
 |c::s=>by
  have:=noTab_len s;unfold noTab tabN at this⊢;rw[List.filter_cons,List.countP_cons]
  cases tabC c<;>simp<;>omega
theorem noTab_id:∀ {s:List UInt8},tabN s=0→noTab s=s:=fun {s} h=>by
 unfold noTab;rw[List.filter_eq_self];unfold tabN at h;rw[List.countP_eq_zero]at h;intro c hc;simpa using h c hc
theorem tab_sum:∀s:List UInt8,s.count 13+s.count 10+s.count 9=tabN s
 |[]=>rfl
 |c::s=>by
  have:=tab_sum s;unfold tabN at this⊢;rw[List.countP_cons,List.count_cons,List.count_cons,List.count_cons];by_cases h1:c=13
  ·subst h1;simp[tabC];omega
  ·by_cases h2:c=10
   ·subst h2;simp[tabC];omega
   ·by_cases h3:c=9
    ·subst h3;simp[tabC];omega
    ·simp[tabC,h1,h2,h3];omega
theorem tabN_snoc {s:List UInt8} {k:Nat} (h:k<s.length):tabN (s.take (k+1))=tabN (s.take k)+(if tabC s[k]=true then 1 else 0):=by
 rw[List.take_succ_eq_append_getElem h];unfold tabN;rw[List.countP_append,List.countP_cons];simp
theorem noTab_snoc {s:List UInt8} {k:Nat} (h:k<s.length):noTab (s.take (k+1))=noTab (s.take k)++(if tabC s[k]=true then []else [s[k]]):=by
 rw[List.take_succ_eq_append_getElem h];unfold noTab;rw[List.filter_append,List.filter_cons]
 cases tabC s[k]<;>simp
theorem tabN_take (s:List UInt8) (k:Nat):tabN (s.take k)≤tabN s:=(List.take_sublist k s).countP_le
theorem noTab_take (s:List UInt8) (k:Nat):(noTab (s.take k)).length≤(noTab s).length:=((List.take_sublist k s).filter _).length_le
def chT (k:Nat):UInt8:=if k=0 then 13 else if k=1 then 10 else 9
def sumT (s:List UInt8) (k:Nat):Nat:=(if 0<k then s.count 13 else 0)+(if 1<k then s.count 10 else 0)+(if 2<k then s.count 9 else 0)
theorem sumT_succ (s:List UInt8) {k:Nat} (h:k<3):sumT s (k+1)=sumT s k+s.count (chT k):=by
 obtain rfl|rfl|rfl:k=0∨k=1∨k=2:=by omega
 all_goals simp[sumT,chT]
theorem sumT_all (s:List UInt8):sumT s 3=tabN s:=by rw[←tab_sum];simp[sumT]
theorem sumT_le (s:List UInt8) (k:Nat):sumT s k≤s.length:=by
 have h1:=tab_sum s;have h2:=noTab_len s;unfold sumT;split<;>split<;>split<;>omega
theorem made_one (x:Value) (n:Nat):madeCells #[x] n=(List.replicate n x).toArray:=by
 apply Array.ext';rw[toList_madeCells_one]
theorem chT_tab:∀k:Fin 3,tabC (chT k.val)=true:=by decide
theorem copy_zero (a:Addr) (q:Nat) (b:Option Addr) (l c:Nat) (ty:TypeId) (w:World):(Builtin.copy_ #[51,51] ty #[.slice b l c, .slice (some a) 0 q]).run Tryz.prog w= .ok (.int .i64 0) w:=by
 obtain⟨i,hi,hz,hsize,hby⟩:=(show Elem1 Tryz.prog 51 5 (.int .u8 0) 1 from⟨Tryz.underlying51,info_parts (by kernel_rfl),rfl⟩).hi
 cases b<;>simp[Builtin.copy_,run_underlying Tryz.underlying51,Builtin.lenOf,Builtin.firstCells,sizeOf,typeInfo,hi,hsize,storeCells,loadCells,loadCellsFrom,goInt]
def rowN (N:Nat) (out:List UInt8):List Value:=Lib.byteCells out++List.replicate (N-out.length) (.int .u8 0)
theorem rowN_at {N:Nat} {out:List UInt8} (h:out.length<N):(rowN N out)[out.length]?=some (.int .u8 0):=by
 unfold rowN;rw[List.getElem?_append_right (by rw[Lib.byteCells_length];omega),Lib.byteCells_length,Nat.sub_self,List.getElem?_replicate,if_pos (by omega)]
theorem rowN_set {N:Nat} {out:List UInt8} (h:out.length<N) (x:UInt8):(rowN N out).set out.length (.int .u8 (x.toNat:Int))=rowN N (out++[x]):=by
 unfold rowN;rw[List.set_append_right _ _ (by rw[Lib.byteCells_length];omega),Lib.byteCells_length,Nat.sub_self,List.length_append,List.length_singleton];obtain⟨m,hm⟩:∃m,N-out.length=m+1:=⟨N-out.length-1,by omega⟩;rw[hm,List.replicate_succ,List.set_cons_zero,show N-(out.length+1)=m by omega];simp[Lib.byteCells]
theorem rowN_full {N:Nat} {out:List UInt8} (h:out.length=N):rowN N out=Lib.byteCells out:=by
 unfold rowN;rw[h,Nat.sub_self];simp
structure DropAt (W:World) (g N:Nat) (out:List UInt8) (w:World):Prop where
 low:Below W.heap.size W w
 row:w.heap[g]?=some (.cells (rowN N out).toArray 5 (0,0))
 old:W.heap.size≤g
theorem e_u8t:Elem1 Tryz.prog 51 5 (.int .u8 0) 1:=⟨Tryz.underlying51,info_parts (by kernel_rfl),rfl⟩
set_option maxRecDepth 100000 in
theorem drop_tabs (n B:Nat) (s:List UInt8) (W:World) (h:TabsIs n B W) (hs:s.length≤1000000):
 Calls Tryz.prog 394 #[.pointer (some ⟨B,0,none⟩), .string ⟨s.toArray⟩] W fun e W'=>e= .returned (.string ⟨(noTab s).toArray⟩)∧Below W.heap.size W W':=by
 obtain⟨F,t,c,hT,hnt,hnB,hown,hF1,hF2⟩:=h
 have hl:=noTab_len s
 have hcell:∀W',Below W.heap.size W W'→∀k,k<256→W'.cell? ⟨B,k,none⟩=some (F k):=fun W' hb k hk=>(hb.cell (p:=⟨B,k,none⟩) hT.lt).trans (hT.cell hk)
 have hlast:∀V,Below W.heap.size W V→V.cell? ⟨B,256,none⟩=some (.slice (some ⟨t,0,none⟩) 3 c):=fun V hb=>(hb.cell (p:=⟨B,256,none⟩) hT.lt).trans hT.last
 have htl:t<W.heap.size:=(hown.lt _ rfl).2
 have hch:∀V,Below W.heap.size W V→∀k,k<3→V.cell? ⟨t,k,none⟩=some (.string ⟨#[chT k]⟩):=fun V hb k hk=>by
  have:=hown.cells (g:=t) rfl k;obtain rfl|rfl|rfl:k=0∨k=1∨k=2:=by omega
  all_goals
   have h2:=this _ rfl;rw[Addr.add_lit,Nat.zero_add]at h2;exact(hb.cell htl).trans h2
 have hct:∀k,k<3→∃a q,F (chT k).toNat= .slice (some a) 0 q:=fun k hk=>hF1 _ (chT k).toNat_lt ((tabC_is _).1 (chT_tab ⟨k,hk⟩))
 have cc:=fun (x:UInt8) (V:World)=>(Tryz.strings_Count_one ⟨s.toArray⟩ x V).mono (R':=fun e V'=>e= .returned (.int .i64 (s.count x:Int))∧V=V') fun e V' ⟨he,hw⟩=>⟨by rw[he];rfl,hw.symm⟩
 have l0:=hlast W (Below.refl _ _)
 clear hown hT
 go_enter Tryz.func394,Tryz.ntmps394
 go_upto_if 26 with fail
 go_cut [5,6] (fun a5 a6 wx=>Below W.heap.size W wx∧a5= .int .i64 ((noTab s).length:Int)∧a6= .bool (decide (tabN s≠0)))
 case first=>
  by_cases h24:24≤s.length
  ·have h24i:(24:Int)≤(s.length:Int):=by omega
   go_wp2_with fail;rw[decide_eq_true h24i];go_loopw [32,5,6] (fun i a5 a6 wr=>Below W.heap.size W wr∧∃k:Nat,k≤3∧i= .int .i64 k∧a5= .int .i64 ((s.length:Int)-(sumT s k:Int))∧a6= .bool (decide (sumT s k≠0))) (fun i _ _ _=>3-(intOf i).toNat)
   case atStart=>exact⟨Below.refl _ _,0,Nat.zero_le _,rfl,by simp[sumT],by simp[sumT]⟩
   case round=>
    obtain⟨hb,k,hk,rfl,rfl,rfl⟩:=hrel;obtain⟨V,rfl⟩:∃V,V=wr:=⟨wr,rfl⟩;by_cases hlt:k<3
    ·have ck:=hch V hb k hlt
     obtain⟨a,q,hF⟩:=hct k hlt;have cF:=(hcell V hb _ (chT k).toNat_lt).trans (congrArg some hF);have hx256:=(chT k).toNat_lt;have HS:=sumT_succ s hlt;have hle:=sumT_le s (k+1);have cx:=cc (chT k);have hki:(k:Int)<3:=by omega
     generalize chT k=x at*;clear hcell hch hct cc hF1 hF2 hlast l0;by_cases h0:s.count x=0
     ·rw[h0]at cx HS
      have HR:Hid (sumT s (k+1)=sumT s k):=HS;clear HS hle;go_wp2_with(go_at_call 246;refine(cx _).mono ?_;rintro e V ⟨rfl,rfl⟩);go_roundw
      case rel=>first|exact⟨hb,k+1,by omega,by go_num,by rw[HR.out],by rw[HR.out];simp⟩|((repeat apply Exists.intro);refine⟨?_,rfl⟩;exact⟨hb,k+1,by omega,by go_num,by rw[HR.out],by rw[HR.out];simp⟩)
      case measure=>simp[intOf];omega
     ·have hcb:(((s.count x:Nat):Int) !=0)=true:=bne_iff_ne.2 (by omega)
      have HR:Hid (sumT s (k+1)=sumT s k+s.count x):=HS;generalize s.count x=C at*;have hCi:(C:Int)≤1000000:=by omega
      have hS0:sumT s k≤1000000:=by omega
      generalize sumT s k=S0 at*;go_wp2_with(go_at_call 246;refine(cx _).mono ?_;rintro e V ⟨rfl,rfl⟩);go_region
      all_goals
       go_wp2_with fail;go_roundw
       case rel=>first|exact⟨hb.drew,k+1,by omega,by go_num,by rw[HR.out];go_num,by rw[HR.out];simp;omega⟩|((repeat apply Exists.intro);refine⟨?_,rfl⟩;exact⟨hb.drew,k+1,by omega,by go_num,by rw[HR.out];go_num,by rw[HR.out];simp;omega⟩)
       case measure=>simp[intOf];omega
    ·have hki:¬(k:Int)<3:=by omega
     have HR:Hid (k=3):=by show k=3;omega
     have h3:=sumT_all s;go_wp2_with fail;go_meet
     case rel=>exact⟨hb,by rw[HR.out,h3];go_num,by rw[HR.out,h3];simp⟩
  ·have h24i:¬(24:Int)≤(s.length:Int):=by omega
   have h24d:=decide_eq_false h24i;go_wp2_with fail;go_loopw [10,5,6] (fun i a5 a6 wr=>W=wr∧∃k:Nat,k≤s.length∧i= .int .i64 k∧a5= .int .i64 ((s.length:Int)-(tabN (s.take k):Int))∧a6= .bool (decide (tabN (s.take k)≠0))) (fun i _ _ _=>s.length-(intOf i).toNat)
   case atStart=>exact⟨rfl,0,Nat.zero_le _,rfl,by simp[tabN],by simp[tabN]⟩
   case round=>
    obtain⟨rfl,k,hk,rfl,rfl,rfl⟩:=hrel;by_cases hlt:k<s.length
    ·have cF:=hcell W (Below.refl _ _) _ (s[k]).toNat_lt
     have h1:=hF1 _ (s[k]).toNat_lt;have h2:=hF2 _ (s[k]).toNat_lt;have ht:=tabC_is s[k];have HS:=tabN_snoc hlt;have hx256:=(s[k]).toNat_lt;have hle:tabN (s.take k)≤s.length:=by have:=tabN_take s k;omega
     generalize hx:s[k]=x at*;have hki:(k:Int)<(s.length:Int):=by omega
     clear hcell hch hct cc hF1 hF2 hlast l0;by_cases htc:tabC x=true
     ·rw[if_pos htc]at HS
      obtain⟨a,q,hF⟩:=h1 (ht.1 htc);rw[hF]at cF;have HR:Hid (tabN (s.take (k+1))=tabN (s.take k)+1):=HS;clear HS h1 h2 ht;generalize tabN (s.take k)=S0 at*;go_wp2_with fail
      all_goals
       go_roundw
       case rel=>first|exact⟨by trivial,k+1,by omega,by go_num,by rw[HR.out];go_num,by rw[HR.out];simp⟩|((repeat apply Exists.intro);refine⟨?_,rfl⟩;exact⟨by trivial,k+1,by omega,by go_num,by rw[HR.out];go_num,by rw[HR.out];simp⟩)
       case measure=>simp[intOf];omega
     ·rw[if_neg htc]at HS
      have hF:=h2 (fun e=>htc (ht.2 e));rw[hF]at cF;have HR:Hid (tabN (s.take (k+1))=tabN (s.take k)):=HS;clear HS h1 h2 ht;go_wp2_with fail;go_roundw
      case rel=>first|exact⟨by trivial,k+1,by omega,by go_num,by rw[HR.out],by rw[HR.out]<;>simp⟩|((repeat apply Exists.intro);refine⟨?_,rfl⟩;exact⟨by trivial,k+1,by omega,by go_num,by rw[HR.out],by rw[HR.out]<;>simp⟩)
      case measure=>simp[intOf];omega
    ·have hki:¬(k:Int)<(s.length:Int):=by omega
     have HR:Hid (s.take k=s):=List.take_of_length_le (by omega);go_wp2_with fail;go_meet
     case rel=>exact⟨Below.refl _ _,by rw[HR.out];go_num,by rw[HR.out];simp⟩
 case rest=>
  obtain⟨hbc,rfl,rfl⟩:=hcut;have hNl:(noTab s).length≤s.length:=by omega
  by_cases h0:tabN s=0
  ·have HR:Hid (noTab s=s):=noTab_id h0
   have hd:decide (tabN s≠0)=false:=decide_eq_false (fun e=>e h0);rw[hd];go_wp2_with fail;go_ret;exact⟨by rw[HR.out];rfl,hbc⟩
  ·have hd:decide (tabN s≠0)=true:=decide_eq_true h0
   rw[hd];obtain⟨i,hi,hz,hsize,hby⟩:=e_u8t.hi;obtain⟨g,hg⟩:∃g,wc.heap.size=g:=⟨_,rfl⟩;obtain⟨w1,hw1⟩:∃w1,wc.alloc (.cells (List.replicate (noTab s).length (Value.int .u8 0)).toArray 5)=w1:=⟨_,rfl⟩;have hmk:(Instr.makeSlice 51 (.int .i64 ((noTab s).length:Int)) (.int .i64 ((noTab s).length:Int))).run Tryz.prog wc= .ok (.slice (some ⟨g,0,none⟩) (noTab s).length (noTab s).length) w1:=by
    have:=run_makeSlice (P:=Tryz.prog) wc 51 5 i (.int .u8 0) Tryz.underlying51 hi hz .i64 .i64 ((noTab s).length:Int) ((noTab s).length:Int) (by omega) (by omega) (by rw[hsize];omega) (by rw[hby];omega) (by omega);rw[hsize,Int.toNat_natCast,Nat.mul_one]at this;rw[←hw1,←hg,←made_one];exact this
   have hstart:DropAt W g (noTab s).length [] w1:=by
    rw[←hw1];refine⟨hbc.alloc hbc.size _, ?_,by rw[←hg];exact hbc.size⟩;rw[←hg];exact heap_alloc_new wc _
   clear hw1 l0 hlast hch hct cc hi hz hsize hby;generalize hN:(noTab s).length=N at*;go_wp2_with fail;go_loopw [13,14] (fun a13 a14 wr=>∃k:Nat,k≤s.length∧a14= .int .i64 k∧a13= .int .i64 ((noTab (s.take k)).length:Int)∧DropAt W g N (noTab (s.take k)) wr) (fun _ i _=>s.length-(intOf i).toNat)
   case atStart=>exact⟨0,Nat.zero_le _,rfl,rfl,hstart⟩
   case round=>
    obtain⟨k,hk,rfl,rfl,hD⟩:=hrel;obtain⟨V,rfl⟩:∃V,V=wr:=⟨wr,rfl⟩;clear hmk hstart;by_cases hlt:k<s.length
    ·have cF:=hcell V hD.low _ (s[k]).toNat_lt
     have h1:=hF1 _ (s[k]).toNat_lt;have h2:=hF2 _ (s[k]).toNat_lt;have ht:=tabC_is s[k];have HS:=noTab_snoc hlt;have hx256:=(s[k]).toNat_lt;have hle:=noTab_take s (k+1);rw[hN]at hle;generalize hx:s[k]=x at*;have hki:(k:Int)<(s.length:Int):=by omega
     clear hcell hF1 hF2;by_cases htc:tabC x=true
     ·rw[if_pos htc,List.append_nil]at HS
      obtain⟨a,q,hF⟩:=h1 (ht.1 htc);rw[hF]at cF;rw[HS]at hle;have HR:Hid (noTab (s.take (k+1))=noTab (s.take k)):=HS;clear HS h1 h2 ht;generalize noTab (s.take k)=out at*;have hj:(out.length:Int)≤(N:Int):=by omega
      have hx256i:(x.toNat:Int)<256:=by omega
      have hcp:=copy_zero a q;have hDd:DropAt W g N out V.drew:=⟨hD.low.drew,hD.row,hD.old⟩;have HD:=Lib.hid hDd;clear hD hDd;go_wp2_with fail;go_region
      all_goals
       go_wp2_with fail;go_roundw
       case rel=>exact⟨k+1,by omega,by go_num,by rw[HR.out];all_goals first|go_num|simp,by rw[HR.out];exact HD.out⟩
       case measure=>simp[intOf];omega
     ·rw[if_neg htc]at HS
      have hF:=h2 (fun e=>htc (ht.2 e));rw[hF]at cF;rw[HS,List.length_append,List.length_singleton]at hle;have HR:Hid (noTab (s.take (k+1))=noTab (s.take k)++[x]):=HS;clear HS h1 h2 ht;generalize noTab (s.take k)=out at*;have hj:(out.length:Int)<(N:Int):=by omega
      have c0:V.cell? ⟨g,out.length,none⟩=some (.int .u8 0):=by rw[Lib.cell_of_heap hD.row,List.getElem?_toArray];exact rowN_at (by omega)
      have f0:V.frozen? ⟨g,out.length,none⟩=false:=Lib.frozen_of_heap hD.row _;have hD2:DropAt W g N (out++[x]) (V.setCell ⟨g,out.length,none⟩ (.int .u8 (x.toNat:Int))):=
       ⟨hD.low.setCell (p:=⟨g,out.length,none⟩) hD.old _,by rw[hset_in hD.row,List.setIfInBounds_toArray,rowN_set (by omega)],hD.old⟩
      have HD:=Lib.hid hD2;clear hD hD2;go_wp2_with fail;go_roundw
      case rel=>exact⟨k+1,by omega,by go_num,by rw[HR.out];all_goals first|go_num|simp,by rw[HR.out];exact HD.out⟩
      case measure=>simp[intOf];omega
    ·have hki:¬(k:Int)<(s.length:Int):=by omega
     have HR:Hid (s.take k=s):=List.take_of_length_le (by omega);have hrow:=hD.row;rw[HR.out,rowN_full hN]at hrow;have hcv:(convert 51 9 (.slice (some ⟨g,0,none⟩) N N)).run Tryz.prog V= .ok (.string ⟨(noTab s).toArray⟩) V:=by
      have hgl:g<V.heap.size:=(Array.getElem?_eq_some_iff.1 hrow).1;have:=convert_bytes_own (P:=Tryz.prog) (w:=V) (src:=51) (dst:=9) (base:=0) (v:= .slice (some ⟨g,0,none⟩) N N) (l:=noTab s) Tryz.underlying51 Tryz.underlying5 Tryz.underlying9 ⟨by rw[List.length_map];simp, .inr ⟨g,N,_,by rw[hN],Nat.zero_le _,hrow,by omega,by unfold maxLen;omega,by simp[Lib.byteCells_length,hN],by rw[List.take_of_length_le (by simp[Lib.byteCells])];rfl⟩⟩;exact this
     go_wp2_with fail;go_ret;exact⟨rfl,hD.low⟩
theorem TabsIs.kept {n B:Nat} {w w':World} (h:TabsIs n B w) (e:∀k,n≤k→w'.heap[k]?=w.heap[k]?):TabsIs n B w':=by
 obtain⟨F,t,c,h1,h2,h3,h4,h5,h6⟩:=h;exact⟨F,t,c,h1.of (e B h3),h2,h3,own_other h4 (e t h2),h5,h6⟩
theorem meth_tabs (a:Addr) (k:Nat) (w:World):(method (k+1) 316 (.pointer (some a)) "Replace").run Tryz.prog w= .ok (394, .pointer (some a)) w:=by kernel_rfl
theorem call_tabs (a:Addr) (x:Value) (w:World):(callFunc 394 #[.pointer (some a),x]).run Tryz.prog w= .ok (.enter 394 #[.pointer (some a),x]) w:=by kernel_rfl
theorem rep_tabs (P g c:Nat) (s:List UInt8) (w:World) (hP:P<w.heap.size) (hg:g<w.heap.size) (hne:g≠P) (h:RepAt P 0 0 .nilIface (.slice (some ⟨g,0,none⟩) 6 c) w)
 (hc:∀j u,(strV tabsL)[j]?=some u→w.cell? ⟨g,j,none⟩=some u) (hs:s.length≤1000000):
 Calls Tryz.prog 127 #[.pointer (some ⟨P,0,none⟩), .string ⟨s.toArray⟩] w fun e w'=>e= .returned (.string ⟨(noTab s).toArray⟩)∧Below P w w':=by
 have hB:Built P w.heap.size 316 ⟨w.heap.size+1,0,none⟩ (.slice (some ⟨g,0,none⟩) 6 c) (fun W=>∀j u,(strV tabsL)[j]?=some u→W.cell? ⟨g,j,none⟩=some u) (TabsIs w.heap.size (w.heap.size+1)):=by
  refine⟨fun W k v hW j u hj=> ?_,fun W hW hr hk=>build_tabs P w.heap.size g c W hW hg hr hk,fun W k v hW=>hW.kept fun i hi=>Below.heap_setCell _ _ _ _ (by show i≠P;omega),fun W hW=>hW⟩;rw[World.cell?_setCell_other _ _ _ _ (by simp only[ne_eq,Addr.mk.injEq,not_and];exact fun e=>absurd e.symm hne)];exact hW j u hj
 exact replace_r hB s (noTab s) (meth_tabs _) (call_tabs _) (fun W hW _=>drop_tabs _ _ s W hW hs) w rfl hP h hc
theorem tabs_use {w w':World} {e:Ending} (h:NewPost tabsL w e w') (s:List UInt8) (hs:s.length≤1000000):∃P,e= .returned (.pointer (some ⟨P,0,none⟩))∧Below w.heap.size w w'∧
 Calls Tryz.prog 127 #[.pointer (some ⟨P,0,none⟩), .string ⟨s.toArray⟩] w' fun e w2=>e= .returned (.string ⟨(noTab s).toArray⟩)∧Below w.heap.size w w2:=by
 obtain⟨P,g,c,h1,h2,h3,h4,h5,h6,h7⟩:=h
 refine⟨P,h1,h7,(rep_tabs P g c s w' (by omega) (by omega) (by omega) h5 h6 hs).mono fun e w2 ⟨he,hb⟩=>⟨he,h7.trans (hb.mono (by omega))⟩⟩
end Go.Proofs.YtjkipdoebkhkaaaGreatDoor
