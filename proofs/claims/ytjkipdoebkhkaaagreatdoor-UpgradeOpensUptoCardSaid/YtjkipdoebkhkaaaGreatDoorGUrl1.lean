/- strings.Builder beside rows of bytes of the caller's own: WriteByte and Write with a frame that names the one block below a mark that changes; turned from the kit's proofs of the whole form. -/
import Derived.Test.YtjkipdoebkhkaaaGreatDoorGUrl0
import Derived.Test.YtjkipdoebkhkaaaGreatDoorGHF
import Derived.Lib.SmallJoins
set_option linter.unusedVariables false
set_option linter.unusedSimpArgs false
set_option maxHeartbeats 16000000
namespace Go.Proofs.YtjkipdoebkhkaaaGreatDoor
open Go.RowKit Go.Shelf
def BldX (lo b:Nat) (bs:List Value) (w:World):Prop:=
 b<lo∧lo≤w.heap.size∧∃p v,w.heap[b]?=some (.cells #[p,v] 171 (0,0))∧(p= .pointer none∨p= .pointer (some ⟨b,0,none⟩))∧w.ownsRowF lo 5 1 v bs.length bs
def KeptX (lo b:Nat) (w w':World):Prop:=Below b w w'∧∀k,k<lo→k≠b→w'.heap[k]?=w.heap[k]?
theorem KeptX.refl (lo b:Nat) (w:World):KeptX lo b w w:=⟨Below.refl _ _,fun _ _ _=>rfl⟩
theorem KeptX.trans {lo b:Nat} {w1 w2 w3:World} (h:KeptX lo b w1 w2) (k:KeptX lo b w2 w3):KeptX lo b w1 w3:=⟨h.1.trans k.1,fun i h1 h2=>(k.2 i h1 h2).trans (h.2 i h1 h2)⟩
theorem ownsRowF_base {w:World} {lo b n size:Nat} {e:TypeId} {v:Value} {xs:List Value} (h:w.ownsRowF lo e size v n xs) (hb:b≤lo):w.ownsRowF b e size v n xs:=by
 refine⟨h.1, ?_⟩;rcases h.2 with hn|⟨g,cap,cur,fz,hv,hl,rest⟩
 ·exact .inl hn
 ·exact .inr ⟨g,cap,cur,fz,hv,by omega,rest⟩
theorem BldX.at {lo b:Nat} {bs:List Value} {w:World} (h:BldX lo b bs w):Lib.IsBuilderF 171 5 b b bs w:=by
 obtain⟨h1,h2,p,v,hb,hp,ho⟩:=h;have hne:v.ownBlock≠some b:=fun e=>by have:=(ho.lt b e).1;omega
 rcases hp with rfl|rfl
 ·exact .inl ⟨Nat.le_refl _,v,hb,ownsRowF_base ho (by omega),hne⟩
 ·exact .inr ⟨Nat.le_refl _,v,hb,ownsRowF_base ho (by omega),hne⟩
theorem BldX.new (w:World):BldX (w.heap.size+1) w.heap.size [] (w.alloc (.cells #[.pointer none, .slice none 0 0] 171)):=
 ⟨by omega,by rw[World.size_alloc];exact Nat.le_refl _, .pointer none, .slice none 0 0,heap_alloc_new w _, .inl rfl,World.ownsRowF_nil _ _ _ _⟩
theorem BldX.same {lo b:Nat} {bs:List Value} {w w':World} (h:BldX lo b bs w) (hb:Below w.heap.size w w'):BldX lo b bs w':=by
 obtain⟨a1,a2,p,v,hk,hp,ho⟩:=h;have hold:∀(k:Nat) (o:Obj),w.heap[k]?=some o→w'.heap[k]?=some o:=fun k o hk=>(hb.block k (Array.getElem?_eq_some_iff.1 hk).1).trans hk
 refine⟨a1,Nat.le_trans a2 hb.size,p,v,hold _ _ hk,hp,ho.1, ?_⟩;rcases ho.2 with hn|⟨g,cap,cur,fz,hv,hl,hg,rest⟩
 ·exact .inl hn
 ·exact .inr ⟨g,cap,cur,fz,hv,hl,hold _ _ hg,rest⟩
theorem copyCheck_x {lo b:Nat} {bs:List Value} (w:World) (h:BldX lo b bs w):
 Calls Tryz.prog 190 #[.pointer (some ⟨b,0,none⟩)] w fun e w'=>e= .returned (.tuple #[])∧(∃v,w'.heap[b]?=some (.cells #[.pointer (some ⟨b,0,none⟩),v] 171 (0,0))∧w'.ownsRowF lo 5 1 v bs.length bs)∧b<lo∧lo≤w'.heap.size∧Below b w w'∧∀k,k≠b→w'.heap[k]?=w.heap[k]?:=by
 have hat:=h.at
 obtain⟨a1,a2,p,v,hk,hp,ho⟩:=h
 rcases hp with rfl|rfl
 ·rcases hat with hat|hat
  ·refine(copyCheck_fresh b w hat.cell0 hat.shape hat.frozen0).mono ?_
   rintro e w' ⟨rfl,rfl⟩;refine⟨rfl,⟨v, ?_,ho.1, ?_⟩,a1,by rw[World.size_setCell];exact a2,(Below.refl _ _).setCell (p:=⟨b,0,none⟩) (Nat.le_refl _) _,fun k hkb=>Below.heap_setCell _ _ _ _ (by intro e;exact hkb e)⟩
   ·rw[heap_setCell_in hk];rfl
   ·rcases ho.2 with hn|⟨g,cap,cur,fz,hv,hl,hg,rest⟩
    ·exact .inl hn
    ·exact .inr ⟨g,cap,cur,fz,hv,hl,by rw[Below.heap_setCell _ _ _ _ (by show g≠b;omega)];exact hg,rest⟩
  ·exfalso
   obtain⟨_,v',hk',_⟩:=hat;rw[hk]at hk';injection hk' with hk';injection hk' with hk' _ _;have hb:[Value.pointer none,v]=[.pointer (some ⟨b,0,none⟩),v']:=congrArg Array.toList hk';injection hb with e1 _
   cases e1
 ·rcases hat with hat|hat
  ·exfalso
   obtain⟨_,v',hk',_⟩:=hat;rw[hk]at hk';injection hk' with hk';injection hk' with hk' _ _;have hb:[Value.pointer (some ⟨b,0,none⟩),v]=[.pointer none,v']:=congrArg Array.toList hk';injection hb with e1 _
   cases e1
  ·refine(copyCheck_used b w hat.cell0).mono ?_
   rintro e w' ⟨rfl,rfl⟩;exact⟨rfl,⟨v,hk,ho⟩,a1,a2,Below.refl _ _,fun _ _=>rfl⟩
set_option maxRecDepth 100000 in
theorem writeByte_x {lo b:Nat} {bs:List Value} (c:Int) (w:World) (h:BldX lo b bs w) (hlen:bs.length+1≤140737488355328):
 Calls Tryz.prog 134 #[.pointer (some ⟨b,0,none⟩), .int .u8 c] w fun e w'=>e= .returned .nilIface∧BldX lo b (bs++[.int .u8 c]) w'∧KeptX lo b w w':=by
 obtain⟨i0,hi,hz0,hz1,hz2⟩:=info_parts bx_byte
 go_enter Tryz.func134,Tryz.ntmps134
 go_wp2_with(go_at_call 190;refine(copyCheck_x _ h).mono ?_)
 rintro e w1 ⟨rfl,⟨v,hbk,hown⟩,hbl,hls,hk1a,hk1b⟩
 have hk1:KeptX lo b w w1:=⟨hk1a,fun k _ hkb=>hk1b k hkb⟩
 have c0:w1.cell? ⟨b,0,none⟩=some (.pointer (some ⟨b,0,none⟩)):=by rw[Lib.cell_of_heap hbk];rfl
 have c1:w1.cell? ⟨b,1,none⟩=some v:=by rw[Lib.cell_of_heap hbk];rfl
 go_wp2_with(at_builtin;refine wpList_append_ownF _ rfl _ _ 51 rfl lo 5 i0 (.int .u8 0) 1 1 Tryz.underlying51 hi hz0 hz1 hz2 rfl (by decide) _ _ _ rfl (hown.alloc _) ⟨w1.heap.size,0,none⟩ 1 1 [.int .u8 c] rfl rfl ?c1 ?c2 ?c3 ?c4 ?c5 ?_)
 case c1=>
  intro j u hj
  match j,hj with
  |0,hj=>simp at hj;subst hj;simp[Addr.add]
 case c2=>intro u hu;simp at hu;subst hu;rfl
 case c3=>unfold maxLen;omega
 case c4=>omega
 case c5=>simp;omega
 intro v' w2 hown' hgrow _
 have hne:v.ownBlock≠some b:=fun e=>by have:=(hown.lt b e).1;omega
 have hb2:w2.heap[b]?=some (.cells #[.pointer (some ⟨b,0,none⟩),v] 171 (0,0)):=by
  rw[hgrow.block b (by simp;omega) (fun e=>hne e.symm),Lib.alloc_old w1 _ b (by omega)];exact hbk
 have d0:w2.cell? ⟨b,0,none⟩=some (.pointer (some ⟨b,0,none⟩)):=by rw[Lib.cell_of_heap hb2];rfl
 have d1:w2.cell? ⟨b,1,none⟩=some v:=by rw[Lib.cell_of_heap hb2];rfl
 have f1:w2.frozen? ⟨b,1,none⟩=false:=Lib.frozen_of_heap hb2 1
 obtain⟨g,cap,rfl⟩:∃g cap,v'= .slice (some ⟨g,0,none⟩) (bs.length+1) cap:=by
  rcases hown'.2 with ⟨_,h0⟩|⟨g,cap,cur,fz,hv,_⟩
  ·omega
  ·exact⟨g,cap,hv⟩
 have hgs:=hgrow.size
 rw[World.size_alloc]at hgs
 have hk2:KeptX lo b w1 (w2.setCell ⟨b,1,none⟩ (.slice (some ⟨g,0,none⟩) (bs.length+1) cap)):=by
  refine⟨(((Below.refl b w1).alloc (by omega) _).grown hgrow (by simp;omega) (fun k hk=>by have:=(hown.lt k hk).1;omega)).setCell (p:=⟨b,1,none⟩) (Nat.le_refl _) _,fun k hkl hkb=> ?_⟩;rw[Below.heap_setCell _ _ _ _ (by intro e;exact hkb e),hgrow.block k (by simp;omega) (fun e=>by have:=(hown.lt k e.symm).1;omega),Lib.alloc_old w1 _ k (by omega)]
 have hfin:BldX lo b (bs++[.int .u8 c]) (w2.setCell ⟨b,1,none⟩ (.slice (some ⟨g,0,none⟩) (bs.length+1) cap)):=by
  refine⟨hbl,by rw[World.size_setCell];omega, .pointer (some ⟨b,0,none⟩), .slice (some ⟨g,0,none⟩) (bs.length+1) cap,by rw[heap_setCell_in hb2];rfl, .inr rfl,by simp, ?_⟩;rcases hown'.2 with hn|⟨g',cap',cur,fz,hv,hl,hg,rest⟩
  ·exact absurd hn.2 (by omega)
  ·refine .inr ⟨g',cap',cur,fz,by simpa using hv,hl,by rw[Below.heap_setCell _ _ _ _ (by show g'≠b;omega)];exact hg,by simpa using rest⟩
 clear hown' hgrow hgs hb2 hbk hown hne
 go_wp2
 go_ret
 exact⟨rfl,hfin,hk1.trans hk2⟩
theorem block_add' (a:Addr) (j:Nat):(a.add j).block=a.block:=by unfold Addr.add;split<;>rfl
set_option maxRecDepth 100000 in
theorem write_x {lo b:Nat} {bs:List Value} (ad:Addr) (m cp:Nat) (news:List Value) (w:World) (h:BldX lo b bs w) (hlen:bs.length+m≤140737488355328) (hm:news.length=m) (hm0:0<m)
 (hn:∀j u,news[j]?=some u→w.cell? (ad.add j)=some u) (h1:∀u∈news,u.oneCell'=true) (had:ad.block≠b):
 Calls Tryz.prog 243 #[.pointer (some ⟨b,0,none⟩), .slice (some ad) m cp] w fun e w'=>e= .returned (.tuple #[.int .i64 (m:Int), .nilIface])∧BldX lo b (bs++news) w'∧KeptX lo b w w':=by
 obtain⟨i0,hi,hz0,hz1,hz2⟩:=info_parts bx_byte
 have hn1:∀w':World,(∀k,k≠b→w'.heap[k]?=w.heap[k]?)→∀j u,news[j]?=some u→w'.cell? (ad.add j)=some u:=fun w' hw j u hj=>by
  have:=hn j u hj;have hbk:(ad.add j).block=ad.block:=block_add' ad j;unfold World.cell? at this⊢;rw[hbk]at this⊢;rw[hw _ had];exact this
 go_enter Tryz.func243,Tryz.ntmps243
 go_wp2_with(go_at_call 190;refine(copyCheck_x _ h).mono ?_)
 rintro e w1 ⟨rfl,⟨v,hbk,hown⟩,hbl,hls,hk1a,hk1b⟩
 have hk1:KeptX lo b w w1:=⟨hk1a,fun k _ hkb=>hk1b k hkb⟩
 have hnews:=hn1 w1 hk1b
 have c0:w1.cell? ⟨b,0,none⟩=some (.pointer (some ⟨b,0,none⟩)):=by rw[Lib.cell_of_heap hbk];rfl
 have c1:w1.cell? ⟨b,1,none⟩=some v:=by rw[Lib.cell_of_heap hbk];rfl
 go_wp2_with(at_builtin;refine wpList_append_ownF _ rfl _ _ 51 rfl lo 5 i0 (.int .u8 0) 1 1 Tryz.underlying51 hi hz0 hz1 hz2 rfl (by decide) _ _ _ rfl hown ad m cp news rfl ?c1 ?c2 ?c3 ?c4 ?c5 ?c6 ?_)
 case c1=>simpa using hm
 case c2=>exact hnews
 case c3=>exact h1
 case c4=>unfold maxLen;omega
 case c5=>omega
 case c6=>exact hls
 intro v' w2 hown' hgrow _
 have hne:v.ownBlock≠some b:=fun e=>by have:=(hown.lt b e).1;omega
 have hb2:w2.heap[b]?=some (.cells #[.pointer (some ⟨b,0,none⟩),v] 171 (0,0)):=by
  rw[hgrow.block b (by omega) (fun e=>hne e.symm)];exact hbk
 have d0:w2.cell? ⟨b,0,none⟩=some (.pointer (some ⟨b,0,none⟩)):=by rw[Lib.cell_of_heap hb2];rfl
 have d1:w2.cell? ⟨b,1,none⟩=some v:=by rw[Lib.cell_of_heap hb2];rfl
 have f1:w2.frozen? ⟨b,1,none⟩=false:=Lib.frozen_of_heap hb2 1
 obtain⟨g,cap,rfl⟩:∃g cap,v'= .slice (some ⟨g,0,none⟩) (bs.length+m) cap:=by
  rcases hown'.2 with ⟨_,h0⟩|⟨g,cap,cur,fz,hv,_⟩
  ·omega
  ·exact⟨g,cap,hv⟩
 have hgs:=hgrow.size
 have hk2:KeptX lo b w1 (w2.setCell ⟨b,1,none⟩ (.slice (some ⟨g,0,none⟩) (bs.length+m) cap)):=by
  refine⟨((Below.refl b w1).grown hgrow (by omega) (fun k hk=>by have:=(hown.lt k hk).1;omega)).setCell (p:=⟨b,1,none⟩) (Nat.le_refl _) _,fun k hkl hkb=> ?_⟩;rw[Below.heap_setCell _ _ _ _ (by intro e;exact hkb e),hgrow.block k (by omega) (fun e=>by have:=(hown.lt k e.symm).1;omega)]
 have hfin:BldX lo b (bs++news) (w2.setCell ⟨b,1,none⟩ (.slice (some ⟨g,0,none⟩) (bs.length+m) cap)):=by
  refine⟨hbl,by rw[World.size_setCell];omega, .pointer (some ⟨b,0,none⟩), .slice (some ⟨g,0,none⟩) (bs.length+m) cap,by rw[heap_setCell_in hb2];rfl, .inr rfl,by simp, ?_⟩;rcases hown'.2 with hn|⟨g',cap',cur,fz,hv,hl,hg,rest⟩
  ·exact absurd hn.2 (by omega)
  ·refine .inr ⟨g',cap',cur,fz,by rw[hv,List.length_append,hm],hl,by rw[Below.heap_setCell _ _ _ _ (by show g'≠b;omega)];exact hg,by rw[List.length_append,hm];exact rest⟩
 clear hown' hgrow hgs hb2 hbk hown hne hn hn1 hnews
 go_wp2
 go_ret2
 exact⟨rfl,hfin,hk1.trans hk2⟩
open Go.RowKit
theorem KeptX.lower {lo lo' b:Nat} {w w':World} (h:KeptX lo b w w') (hl:lo'≤lo):KeptX lo' b w w':=⟨h.1,fun k hk=>h.2 k (by omega)⟩
theorem KeptX.of_below {b:Nat} {w w':World} (h:Below w.heap.size w w') (hb:b≤w.heap.size):KeptX w.heap.size b w w':=⟨h.mono hb,fun k hk _=>h.block k hk⟩
theorem KeptX.next {b:Nat} {w w1 w2:World} (h:KeptX w.heap.size b w w1) (k:KeptX w1.heap.size b w1 w2):KeptX w.heap.size b w w2:=h.trans (k.lower h.1.size)
def cellsU (u:UrlL):List Value:=[.string ⟨u.scheme.toArray⟩, .string ⟨u.user.toArray⟩, .string ⟨u.pass.toArray⟩, .string ⟨u.host.toArray⟩, .int .i64 u.port, .string ⟨u.path.toArray⟩, .string ⟨u.query.toArray⟩, .bool u.hasQ, .string ⟨u.mark.toArray⟩, .bool u.hasM]
def cellsR (u base:UrlL) (s:List UInt8):List Value:=cellsU u++ .string ⟨s.toArray⟩::cellsU base
def RdAt (R:Nat) (u base:UrlL) (s:List UInt8) (w:World):Prop:=w.heap[R]?=some (.cells (cellsR u base s).toArray 164 (0,0))
theorem RdAt.lt {R:Nat} {u base:UrlL} {s:List UInt8} {w:World} (h:RdAt R u base s w):R<w.heap.size:=(Array.getElem?_eq_some_iff.1 h).1
theorem RdAt.cell {R:Nat} {u base:UrlL} {s:List UInt8} {w:World} (h:RdAt R u base s w) (k:Nat):w.cell? ⟨R,k,none⟩=(cellsR u base s)[k]?:=by
 rw[Lib.cell_of_heap h];simp
theorem RdAt.free {R:Nat} {u base:UrlL} {s:List UInt8} {w:World} (h:RdAt R u base s w) (k:Nat):w.frozen? ⟨R,k,none⟩=false:=Lib.frozen_of_heap h k
theorem RdAt.below {R:Nat} {u base:UrlL} {s:List UInt8} {w w':World} (h:RdAt R u base s w) (hb:Below w.heap.size w w'):RdAt R u base s w':=(hb.block R h.lt).trans h
theorem RdAt.set {R:Nat} {u u' base:UrlL} {s s':List UInt8} {w:World} (h:RdAt R u base s w) (k:Nat) (v:Value) (e:(cellsR u base s).set k v=cellsR u' base s'):RdAt R u' base s' (w.setCell ⟨R,k,none⟩ v):=by
 unfold RdAt;rw[heap_setCell_in h,List.setIfInBounds_toArray,e]
theorem RdAt.kept {R:Nat} {u base:UrlL} {s:List UInt8} {w:World} (h:RdAt R u base s w) (k:Nat) (v:Value):KeptX w.heap.size R w (w.setCell ⟨R,k,none⟩ v):=
 ⟨(Below.refl R w).setCell (p:=⟨R,k,none⟩) (Nat.le_refl _) v,fun i _ hi=>Below.heap_setCell _ _ _ _ (by intro e;exact hi e)⟩
def panE (e:Nat):Ending:= .panicked [{v:= .iface 36 (.int .i64 (e:Int)),recovered:=false}]
theorem wrong_no (e:Int) (w:World):Calls Tryz.prog 131 #[.bool false, .int .i64 e] w fun r w'=>r= .returned (.tuple #[])∧w=w':=by
 go_enter Tryz.func131,Tryz.ntmps131;go_wp2_with fail;go_end0;exact⟨rfl,rfl⟩
theorem wrong_yes (e:Nat) (w:World):Calls Tryz.prog 131 #[.bool true, .int .i64 (e:Int)] w fun r w'=>r=panE e∧w=w':=by
 go_enter Tryz.func131,Tryz.ntmps131;go_wp2_with fail;exact⟨rfl,rfl,rfl⟩
theorem own_p (s:List UInt8) (w:World):Calls Tryz.prog 184 #[.string ⟨s.toArray⟩] w fun r w'=>r= .returned (.int .i64 (ownP s:Int))∧w=w':=by
 have hm:ownP s=if s=httpsB then 443 else if s=httpB then 80 else 0:=rfl;by_cases h1:s=httpsB
 ·subst h1
  go_enter Tryz.func184,Tryz.ntmps184;go_wp2_with fail;go_ret;exact⟨rfl,rfl⟩
 ·rw[if_neg h1]at hm
  have q1:(s==[104,116,116,112,115])=false:=beq_eq_false_iff_ne.2 h1;by_cases h2:s=httpB
  ·subst h2
   go_enter Tryz.func184,Tryz.ntmps184;go_wp2_with fail;go_ret;exact⟨rfl,rfl⟩
  ·rw[if_neg h2]at hm
   have q2:(s==[104,116,116,112])=false:=beq_eq_false_iff_ne.2 h2;have HM:=Lib.hid hm;clear hm h1 h2;go_enter Tryz.func184,Tryz.ntmps184;go_wp2_with fail;go_ret;exact⟨by rw[HM.out];rfl,rfl⟩
structure BoolRow (W:World) (g:Nat) (f:Nat→Bool):Prop where
 lt:g<W.heap.size
 cell:∀k,k<256→W.cell? ⟨g,k,none⟩=some (.bool (f k))
 free:∀k,W.frozen? ⟨g,k,none⟩=false
theorem BoolRow.set {W:World} {g i:Nat} {f:Nat→Bool} (h:BoolRow W g f) (hi:i<256):BoolRow (W.setCell ⟨g,i,none⟩ (.bool true)) g (fun k=>f k||decide (k=i)):=by
 refine⟨by rw[World.size_setCell];exact h.lt,fun k hk=> ?_,fun k=>by rw[World.frozen?_setCell];exact h.free k⟩;by_cases e:k=i
 ·subst e
  rw[World.cell?_setCell_same _ _ _ (h.cell k hk)];simp
 ·rw[World.cell?_setCell_other _ _ _ _ (by intro q;injection q with _ q;exact e q.symm),h.cell k hk]
  simp[e]
theorem BoolRow.below {W W':World} {g:Nat} {f:Nat→Bool} (h:BoolRow W g f) (hb:Below W.heap.size W W'):BoolRow W' g f:=
 ⟨Nat.lt_of_lt_of_le h.lt hb.size,fun k hk=>(hb.cell (p:=⟨g,k,none⟩) h.lt).trans (h.cell k hk),fun k=>(hb.frozen (p:=⟨g,k,none⟩) h.lt).trans (h.free k)⟩
theorem BoolRow.of {W:World} {g:Nat} {f f':Nat→Bool} (h:BoolRow W g f) (e:∀k,k<256→f k=f' k):BoolRow W g f':=⟨h.lt,fun k hk=>by rw[←e k hk];exact h.cell k hk,h.free⟩
theorem has_take {s:List UInt8} {k:Nat} (h:k<s.length) (j:Nat):((s.take (k+1)).any fun c=>decide (j=c.toNat))=(((s.take k).any fun c=>decide (j=c.toNat))||decide (j=(s[k]).toNat)):=by
 rw[List.take_succ_eq_append_getElem h,List.any_append];simp
set_option maxRecDepth 100000 in
theorem add_any (s:List UInt8) (g lo:Nat) (f:Nat→Bool) (w:World) (hm:BoolRow w g f) (hlo:lo≤g) (hs:s.length≤1000):
 Calls Tryz.prog 283 #[.string ⟨s.toArray⟩, .pointer (some ⟨g,0,none⟩)] w fun e w'=>e= .returned (.tuple #[])∧BoolRow w' g (fun j=>f j||s.any fun c=>decide (j=c.toNat))∧Below lo w w':=by
 go_enter Tryz.func283,Tryz.ntmps283
 go_wp2_with fail
 go_loopw [6] (fun i wr=>∃k:Nat,k≤s.length∧i= .int .i64 k∧BoolRow wr g (fun j=>f j||(s.take k).any fun c=>decide (j=c.toNat))∧Below lo w wr) (fun i _=>s.length-(intOf i).toNat)
 case atStart=>exact⟨0,Nat.zero_le _,rfl,hm.of (fun j _=>by simp),Below.refl _ _⟩
 case round=>
  obtain⟨k,hk,rfl,hM,hbr⟩:=hrel;by_cases hlt:k<s.length
  ·have HM2:∀c:UInt8,s[k]=c→Hid (BoolRow (wr.setCell ⟨g,c.toNat,none⟩ (.bool true)) g (fun j=>f j||(s.take (k+1)).any fun c=>decide (j=c.toNat))):=fun c e=>by
    show BoolRow _ _ _;exact(hM.set (i:=c.toNat) c.toNat_lt).of fun j _=>by rw[has_take hlt,e,Bool.or_assoc]
   have hc:=hM.cell;have hf:=hM.free;generalize hx:s[k]=c at*;have HM3:=HM2 c rfl;have hcc:=hc c.toNat c.toNat_lt;have hff:=hf c.toNat;have h256:=c.toNat_lt;clear HM2 hc hf hM;go_wp2_with fail;go_roundw
   case rel=>exact⟨k+1,by omega,by go_num,HM3.out,hbr.setCell (by exact hlo) _⟩
   case measure=>simp[intOf];omega
  ·obtain rfl:k=s.length:=by omega
   go_wp2_with fail;go_end0;exact⟨rfl,by rw[List.take_length]at hM;exact hM,hbr⟩
set_option maxRecDepth 100000 in
theorem has_any (n g:Nat) (f:Nat→Bool) (c:UInt8) (w:World) (hm:BoolRow w g f) (hf:∀c:UInt8,f c.toNat=(setS n).contains c):
 Calls Tryz.prog 285 #[.int .u8 (c.toNat:Int), .pointer (some ⟨g,0,none⟩)] w fun e w'=>e= .returned (.bool (encB n c))∧w=w':=by
 have hcc:=hm.cell c.toNat c.toNat_lt
 rw[hf]at hcc
 have h256:=c.toNat_lt
 have he:encB n c=(decide (c.toNat<32)||(decide (126<c.toNat)||(setS n).contains c)):=rfl
 generalize (setS n).contains c=b at*
 by_cases h1:c.toNat<32
 ·have h1i:(c.toNat:Int)<32:=by omega
  rw[decide_eq_true h1]at he;go_enter Tryz.func285,Tryz.ntmps285;go_wp2_with fail;go_ret;exact⟨by first|rfl|(rw[he];rfl),rfl⟩
 ·have h1i:¬(c.toNat:Int)<32:=by omega
  rw[decide_eq_false h1]at he;by_cases h2:126<c.toNat
  ·have h2i:126<(c.toNat:Int):=by omega
   rw[decide_eq_true h2]at he;go_enter Tryz.func285,Tryz.ntmps285;go_wp2_with fail;go_ret;exact⟨by first|rfl|(rw[he];rfl),rfl⟩
  ·have h2i:¬126<(c.toNat:Int):=by omega
   rw[decide_eq_false h2]at he;go_enter Tryz.func285,Tryz.ntmps285;go_wp2_with fail;go_ret;exact⟨by first|rfl|(rw[he];rfl),rfl⟩
theorem BoolRow.new (w:World) (T:TypeId) (Z:Array Value) (hZ:∀k:Fin 256,Z[k.val]?=some (.bool false)):BoolRow (w.alloc (.cells Z T)) w.heap.size (fun _=>false):=by
 refine⟨by rw[World.size_alloc];exact Nat.lt_succ_self _,fun k hk=> ?_,fun k=>World.frozen?_alloc_at _ _ _ _ rfl⟩;rw[World.cell?_alloc_at _ _ _ _ rfl];exact hZ ⟨k,hk⟩
theorem zero_bools (k:Fin 256):(Tryz.zeroCells200)[k.val]?=some (.bool false):=by
 rw[show Tryz.zeroCells200=Array.replicate 256 (.bool false)by kernel_rfl];simp
theorem any_contains (s:List UInt8) (c:UInt8):(s.any fun d=>decide (c.toNat=d.toNat))=s.contains c:=by
 rw[Bool.eq_iff_iff,List.any_eq_true,List.contains_iff_mem];constructor
 ·rintro⟨d,hd,e⟩
  rw[decide_eq_true_eq]at e;rw[UInt8.toNat_inj.1 e];exact hd
 ·intro h;exact⟨c,h,decide_eq_true rfl⟩
def OfPost (w:World) (n:Nat) (e:Ending) (w':World):Prop:=∃g f,e= .returned (.func (.func 285) #[] #[.pointer (some ⟨g,0,none⟩)])∧w.heap.size≤g∧BoolRow w' g f∧(∀c:UInt8,f c.toNat=(setS n).contains c)∧Below w.heap.size w w'
theorem contains_app (a b:List UInt8) (c:UInt8):(a++b).contains c=(a.contains c||b.contains c):=by
 rw[Bool.eq_iff_iff,Bool.or_eq_true];simp
set_option maxRecDepth 100000 in
theorem of_two (w:World):Calls Tryz.prog 242 #[.int .u8 2] w (OfPost w 2):=by
 have hmf:∀(fn:Fn) (first cap:Array Value) (w:World),(Instr.makeFunc fn first cap).run Tryz.prog w= .ok (.func fn first cap) w:=fun _ _ _ _=>rfl
 have c1:=add_any [32,34,60,62,96] w.heap.size w.heap.size _ _ (BoolRow.new w 200 Tryz.zeroCells200 zero_bools) (Nat.le_refl _) (by decide);have hb:=(Below.refl w.heap.size w).alloc (Nat.le_refl _) (.cells Tryz.zeroCells200 200);go_enter Tryz.func242,Tryz.ntmps242;go_wp2_with fail;go_at_call 283;refine c1.mono ?_;rintro e w1 ⟨rfl,hr,hb1⟩;clear c1;replace hb1:=hb.trans hb1;go_wp2_with fail;go_ret;exact⟨_,_,rfl,Nat.le_refl _,hr,fun c=>by rw[Bool.false_or,any_contains];rfl,hb1⟩
set_option maxRecDepth 100000 in
theorem of_three (w:World):Calls Tryz.prog 242 #[.int .u8 3] w (OfPost w 3):=by
 have hmf:∀(fn:Fn) (first cap:Array Value) (w:World),(Instr.makeFunc fn first cap).run Tryz.prog w= .ok (.func fn first cap) w:=fun _ _ _ _=>rfl
 have c1:=add_any [32,34,35,60,62,39] w.heap.size w.heap.size _ _ (BoolRow.new w 200 Tryz.zeroCells200 zero_bools) (Nat.le_refl _) (by decide);have hb:=(Below.refl w.heap.size w).alloc (Nat.le_refl _) (.cells Tryz.zeroCells200 200);go_enter Tryz.func242,Tryz.ntmps242;go_wp2_with fail;go_at_call 283;refine c1.mono ?_;rintro e w1 ⟨rfl,hr,hb1⟩;clear c1;replace hb1:=hb.trans hb1;go_wp2_with fail;go_ret;exact⟨_,_,rfl,Nat.le_refl _,hr,fun c=>by rw[Bool.false_or,any_contains];rfl,hb1⟩
set_option maxRecDepth 100000 in
theorem of_four (w:World):Calls Tryz.prog 242 #[.int .u8 4] w (OfPost w 4):=by
 have hmf:∀(fn:Fn) (first cap:Array Value) (w:World),(Instr.makeFunc fn first cap).run Tryz.prog w= .ok (.func fn first cap) w:=fun _ _ _ _=>rfl
 have c1:=add_any [32,34,35,60,62,63,94,123,125,96] w.heap.size w.heap.size _ _ (BoolRow.new w 200 Tryz.zeroCells200 zero_bools) (Nat.le_refl _) (by decide);have hb:=(Below.refl w.heap.size w).alloc (Nat.le_refl _) (.cells Tryz.zeroCells200 200);go_enter Tryz.func242,Tryz.ntmps242;go_wp2_with fail;go_at_call 283;refine c1.mono ?_;rintro e w1 ⟨rfl,hr,hb1⟩;clear c1;replace hb1:=hb.trans hb1;go_wp2_with fail;go_ret;exact⟨_,_,rfl,Nat.le_refl _,hr,fun c=>by rw[Bool.false_or,any_contains];rfl,hb1⟩
set_option maxRecDepth 100000 in
theorem of_five (w:World):Calls Tryz.prog 242 #[.int .u8 5] w (OfPost w 5):=by
 have hmf:∀(fn:Fn) (first cap:Array Value) (w:World),(Instr.makeFunc fn first cap).run Tryz.prog w= .ok (.func fn first cap) w:=fun _ _ _ _=>rfl
 have c1:=add_any [47,58,59,61,64,91,92,93,124] w.heap.size w.heap.size _ _ (BoolRow.new w 200 Tryz.zeroCells200 zero_bools) (Nat.le_refl _) (by decide);have hb:=(Below.refl w.heap.size w).alloc (Nat.le_refl _) (.cells Tryz.zeroCells200 200);go_enter Tryz.func242,Tryz.ntmps242;go_wp2_with fail;go_at_call 283;refine c1.mono ?_;rintro e w1 ⟨rfl,hr,hb1⟩;have c2:=add_any [32,34,35,60,62,63,94,123,125,96] w.heap.size w.heap.size _ _ hr (Nat.le_refl _) (by decide);clear c1 hr;replace hb1:=hb.trans hb1;go_wp2_with fail;go_at_call 283;refine c2.mono ?_;rintro e w2 ⟨rfl,hr,hb2⟩;clear c2;replace hb2:=hb1.trans hb2;go_wp2_with fail;go_ret;exact⟨_,_,rfl,Nat.le_refl _,hr,fun c=>by rw[Bool.false_or,any_contains,any_contains];exact(contains_app _ _ _).symm,hb2⟩
theorem of_any {n:Nat} (h2:2≤n) (h5:n≤5) (w:World):Calls Tryz.prog 242 #[.int .u8 n] w (OfPost w n):=by
 obtain rfl|rfl|rfl|rfl:n=2∨n=3∨n=4∨n=5:=by omega
 ·exact of_two w
 ·exact of_three w
 ·exact of_four w
 ·exact of_five w
theorem BoolRow.heap {W W':World} {g:Nat} {f:Nat→Bool} (h:BoolRow W g f) (e:W'.heap[g]?=W.heap[g]?) (hs:W.heap.size≤W'.heap.size):BoolRow W' g f:=
 ⟨Nat.lt_of_lt_of_le h.lt hs,fun k hk=>by have:=h.cell k hk;unfold World.cell? at this⊢;rw[e];exact this,fun k=>by have:=h.free k;unfold World.frozen? at this⊢;rw[e];exact this⟩
theorem ByteRow.heap {W W':World} {g:Nat} {l:List UInt8} (h:ByteRow W g l) (e:W'.heap[g]?=W.heap[g]?):ByteRow W' g l:=by
 obtain⟨cur,fz,hg,rest⟩:=h;exact⟨cur,fz,e.trans hg,rest⟩
structure EncAt (N n lo b R g:Nat) (f:Nat→Bool) (s:List UInt8) (w:World) (out:List UInt8) (wr:World):Prop where
 bld:BldX lo b (Lib.byteCells out) wr
 row:ByteRow wr R s
 bits:BoolRow wr g f
 low:Below N w wr
 hR:R<lo∧R≠b
 hg:g<lo∧g≠b
 hb:N≤b
theorem EncAt.step {N n lo b R g:Nat} {f:Nat→Bool} {s out:List UInt8} {w wr W:World} (h:EncAt N n lo b R g f s w out wr) {l:List UInt8} (hb:BldX lo b (Lib.byteCells out++Lib.byteCells l) W) (hk:KeptX lo b wr W):EncAt N n lo b R g f s w (out++l) W:=
 ⟨by rw[Lib.byteCells_append];exact hb,h.row.heap (hk.2 _ h.hR.1 h.hR.2),h.bits.heap (hk.2 _ h.hg.1 h.hg.2) hk.1.size,h.low.trans (hk.1.mono h.hb),h.hR,h.hg,h.hb⟩
theorem EncAt.calm {N n lo b R g:Nat} {f:Nat→Bool} {s out:List UInt8} {w wr W:World} (h:EncAt N n lo b R g f s w out wr) (hk:Below wr.heap.size wr W):EncAt N n lo b R g f s w out W:=by
 have hRl:R<wr.heap.size:=by obtain⟨cur,fz,hg,_⟩:=h.row;exact(Array.getElem?_eq_some_iff.1 hg).1
 exact⟨h.bld.same hk,h.row.heap (hk.block R hRl),h.bits.below hk,h.low.trans (hk.mono (by have:=h.hb;have:=h.bld.1;have:=h.bld.2.1;omega)),h.hR,h.hg,h.hb⟩
abbrev digU:List UInt8:=[48,49,50,51,52,53,54,55,56,57,65,66,67,68,69,70]
theorem dig_at:∀r:Fin 16,∀h:r.val<digU.length,digU[r.val]'h=upB r.val:=by decide+kernel
theorem and15U:∀k:Fin 256,bits BinOp.and IntKind.u8 (k.val:Int) 15=(k.val:Int) % 16:=by decide+kernel
theorem encP_snoc {n:Nat} {s:List UInt8} {k:Nat} (h:k<s.length):encP n (s.take (k+1))=encP n (s.take k)++encC n s[k]:=by
 rw[List.take_succ_eq_append_getElem h,encP_app];simp[encP]
set_option maxRecDepth 100000 in
theorem encode_p (n:Nat) (h2:2≤n) (h5:n≤5) (s:List UInt8) (w:World) (hs:s.length≤40000000000):
 Calls Tryz.prog 189 #[.string ⟨s.toArray⟩, .int .u8 n] w fun e w'=>e= .returned (.string ⟨(encP n s).toArray⟩)∧Below w.heap.size w w':=by
 have hmf:∀(fn:Fn) (first cap:Array Value) (w:World),(Instr.makeFunc fn first cap).run Tryz.prog w= .ok (.func fn first cap) w:=fun _ _ _ _=>rfl
 go_enter Tryz.func189,Tryz.ntmps189
 go_wp2_with fail
 go_at_call 242
 refine(of_any h2 h5 w).mono ?_
 rintro e w1 ⟨g,f,rfl,hg,hmk,hf,hb1⟩
 obtain⟨cap,w3,hcv,hb3,hcap,hrow⟩:=conv_row (w1.alloc (.cells #[.pointer none, .slice none 0 0] 171)) s
 have hsz:(w1.alloc (.cells #[.pointer none, .slice none 0 0] 171)).heap.size=w1.heap.size+1:=World.size_alloc _ _
 have hs3:=hb3.size
 have hgl:=hmk.lt
 have hstart:EncAt w.heap.size n w3.heap.size w1.heap.size (w1.heap.size+1) g f s w [] w3:=by
  have hbk:w3.heap[w1.heap.size]?=some (.cells #[.pointer none, .slice none 0 0] 171 (0,0)):=(hb3.block _ (by omega)).trans (heap_alloc_new w1 _);have hrl:w1.heap.size+1<w3.heap.size:=by obtain⟨cur,fz,hg,_⟩:=hrow;rw[hsz]at hg;exact(Array.getElem?_eq_some_iff.1 hg).1
  refine⟨⟨by omega,Nat.le_refl _,_,_,hbk, .inl rfl,World.ownsRowF_nil _ _ _ _⟩,hsz▸hrow, ?_,(hb1.alloc hb1.size _).trans (hb3.mono (by rw[hsz];have:=hb1.size;omega)),⟨by omega,by omega⟩,⟨by omega,by omega⟩,hb1.size⟩;exact(hmk.heap (W':=w1.alloc (.cells #[.pointer none, .slice none 0 0] 171)) (Lib.alloc_old w1 _ g hgl) (by omega)).heap (hb3.block g (by omega)) hs3
 rw[hsz]at hcv
 clear hrow hb3 hsz hmk
 generalize w3.heap.size=lo at*
 clear hs3 hb1 hgl
 go_wp2_with fail
 go_loopw [14] (fun i wr=>∃k:Nat,k≤s.length∧i= .int .i64 k∧EncAt w.heap.size n lo w1.heap.size (w1.heap.size+1) g f s w (encP n (s.take k)) wr) (fun i _=>s.length-(intOf i).toNat)
 case atStart=>exact⟨0,Nat.zero_le _,rfl,hstart⟩
 case round=>
  obtain⟨V,rfl⟩:∃V,V=wr:=⟨wr,rfl⟩;obtain⟨k,hk,rfl,hM⟩:=hrel;clear hcv hstart;by_cases hlt:k<s.length
  ·have hcell:=hM.row.cell hlt
   have hgd:s.getD k 0=s[k]:=by simp[hlt]
   rw[hgd]at hcell;have HS:∀c,s[k]=c→Hid (encP n (s.take (k+1))=encP n (s.take k)++encC n c):=fun c e=>by
    show _=_;rw[encP_snoc hlt,e]
   have hch:=fun c W (hW:BoolRow W g f)=>has_any n g f c W hW hf
   have hlen:=(encP_len n (s.take k)).2;have htl:(s.take k).length≤s.length:=by rw[List.length_take];omega
   generalize hx:s[k]=c at*;have HS1:=HS c rfl;have hc1:=hch c V hM.bits;have h256:=c.toNat_lt;clear HS hch hgd;generalize encP n (s.take k)=out at*;by_cases he:encB n c=true
   ·rw[he]at hc1
    have HC:Hid (encC n c=[37,upB (c.toNat/16),upB (c.toNat % 16)]):=by show _=_;unfold encC;rw[if_pos he]
    have hb15:bits BinOp.and IntKind.u8 (c.toNat:Int) 15=(c.toNat:Int) % 16:=and15U ⟨c.toNat,h256⟩;have d1:0≤(c.toNat:Int)/16∧(c.toNat:Int)/16<16:=by omega
    have d2:0≤(c.toNat:Int) % 16∧(c.toNat:Int) % 16<16:=by omega
    have i1:∀h,([48,49,50,51,52,53,54,55,56,57,65,66,67,68,69,70]:List UInt8)[((c.toNat:Int)/16).toNat]'h=upB (c.toNat/16):=fun h=>by
     rw[←dig_at ⟨c.toNat/16,by omega⟩ (by show c.toNat/16<16;omega)];congr 1
    have i2:∀h,([48,49,50,51,52,53,54,55,56,57,65,66,67,68,69,70]:List UInt8)[((c.toNat:Int) % 16).toNat]'h=upB (c.toNat % 16):=fun h=>by
     rw[←dig_at ⟨c.toNat % 16,by omega⟩ (by show c.toNat % 16<16;omega)];congr 1
    generalize upB (c.toNat/16)=u1 at*;generalize upB (c.toNat % 16)=u2 at*;have hsV:w1.heap.size<V.heap.size:=by have:=hM.bld.1;have:=hM.bld.2.1;omega
    have hMa:EncAt w.heap.size n lo w1.heap.size (w1.heap.size+1) g f s w out ((V.alloc (.cells #[.int .u8 37, .int .u8 (u1.toNat:Int), .int .u8 (u2.toNat:Int)] 5)).drew):=hM.calm ((Below.refl _ V).alloc (Nat.le_refl _) _).drew;have cw:=write_x ⟨V.heap.size,0,none⟩ 3 3 (Lib.byteCells [37,u1,u2]) _ hMa.bld (by rw[Lib.byteCells_length];omega) (by simp[Lib.byteCells]) (by omega) (fun j u hj=>by
     match j,hj with
     |0,hj=>simp[Lib.byteCells]at hj;subst hj;rw[Addr.add_lit];exact World.cell?_alloc_at _ _ _ _ rfl
     |1,hj=>simp[Lib.byteCells]at hj;subst hj;rw[Addr.add_lit];exact World.cell?_alloc_at _ _ _ _ rfl
     |2,hj=>simp[Lib.byteCells]at hj;subst hj;rw[Addr.add_lit];exact World.cell?_alloc_at _ _ _ _ rfl
     |j+3,hj=>simp[Lib.byteCells]at hj) (fun u hu=>by
     simp[Lib.byteCells]at hu;rcases hu with rfl|rfl|rfl<;>rfl) (by show V.heap.size≠w1.heap.size;omega)
    go_wp2_with(go_at_call 285;refine hc1.mono ?_;rintro e w4 ⟨rfl,rfl⟩);go_region_with(go_at_call 243;refine cw.mono ?_;rintro e w5 ⟨rfl,hb5,hk5⟩)
    all_goals
     have hM5:=Lib.hid (hMa.step (l:=[37,u1,u2]) hb5 hk5);clear hM hMa cw hb5 hk5 hc1;go_wp2_with fail;go_roundw
     case rel=>exact⟨k+1,by omega,by go_num,by rw[HS1.out,HC.out];exact hM5.out⟩
     case measure=>simp[intOf];omega
   ·have he:encB n c=false:=by simpa using he
    rw[he]at hc1;have HC:Hid (encC n c=[c]):=by show _=_;unfold encC;rw[if_neg (by rw[he];simp)]
    have cw:=writeByte_x (c.toNat:Int) V hM.bld (by rw[Lib.byteCells_length];omega);go_wp2_with(go_at_call 285;refine hc1.mono ?_;rintro e w4 ⟨rfl,rfl⟩);go_at_call 134;refine cw.mono ?_;rintro e w5 ⟨rfl,hb5,hk5⟩;have hM5:=Lib.hid (hM.step (l:=[c]) hb5 hk5);clear hM cw hb5 hk5 hc1;go_wp2_with fail;go_roundw
    case rel=>exact⟨k+1,by omega,by go_num,by rw[HS1.out,HC.out];exact hM5.out⟩
    case measure=>simp[intOf];omega
  ·obtain rfl:k=s.length:=by omega
   have hl:=hM.bld.2.1;have hbs:=hM.bld.1;have cs:=Tryz.Builder_String_any_k w1.heap.size w1.heap.size (encP n s) V (by have:=hM.bld.at;rw[List.take_length]at this;exact this) (by omega);have hlow:=hM.low;have hwb:=hM.hb;clear hM hlt;go_wp2_with fail;go_at_call 136;refine cs.mono ?_;rintro e w5 ⟨rfl,h1,b1,k1⟩;go_wp2_with fail;go_ret;exact⟨rfl,hlow.trans (b1.mono hwb)⟩
theorem below_drewU {B:Nat} {a w:World} (h:Below B a w) (k:Nat):Below B a (w.drewN k):=⟨h.os,h.tape,h.output,h.size,h.block⟩
theorem cut_no {c:UInt8} {s:List UInt8} (h:(cutF c s).2=none) (w:World) (hE:Env w) (hs:s.length≤4000000000):
 Calls Tryz.prog 151 #[.string ⟨s.toArray⟩, .string ⟨#[c]⟩] w fun e w'=>e= .returned (.tuple #[.string ⟨s.toArray⟩, .string ⟨#[]⟩, .bool false])∧Below w.heap.size w w':=by
 have hn:c∉s:=fun hc=>by
  have h1:=(@cutF_fst c s).2.2 h;have h2:=(@cutF_fst c s).1;rw[h1]at h2;exact(h2 c hc).2 rfl
 rcases cut_one s c with ⟨_,hc⟩|⟨a,b,rfl,_,_⟩
 ·refine(Tryz.strings_Cut_shaped ⟨s.toArray⟩ ⟨#[c]⟩ w hE.shaped (by show s.length<_;omega)).mono fun e w' h=> ?_
  obtain⟨h1,n,rfl⟩:=h;refine⟨?_,below_drewU (Below.refl _ _) n⟩;rw[h1];show Ending.returned (.tuple #[.string ⟨(Lib.cut s [c]).1.toArray⟩, .string ⟨(Lib.cut s [c]).2.1.toArray⟩, .bool (Lib.cut s [c]).2.2])=_;rw[hc]
 ·exact absurd (List.mem_append_right a List.mem_cons_self) hn
theorem cut_yes {c:UInt8} {s a b:List UInt8} (h:cutF c s=(a,some b)) (w:World) (hE:Env w) (hs:s.length≤4000000000):
 Calls Tryz.prog 151 #[.string ⟨s.toArray⟩, .string ⟨#[c]⟩] w fun e w'=>e= .returned (.tuple #[.string ⟨a.toArray⟩, .string ⟨b.toArray⟩, .bool true])∧Below w.heap.size w w':=by
 obtain⟨f1,f2,_⟩:= @cutF_fst c s
 rw[h]at f1 f2
 have hsb:=f2 b rfl
 simp only at hsb f1
 rcases cut_one s c with ⟨hn,_⟩|⟨a',b',e,hn,hc⟩
 ·exfalso
  exact hn (by rw[hsb];exact List.mem_append_right _ List.mem_cons_self)
 ·have hq:=cutF_app (c:=c) (a:=a') (b:=b') hn
  rw[←e,h]at hq;injection hq with q1 q2;injection q2 with q2;subst q1;subst q2;refine(Tryz.strings_Cut_shaped ⟨s.toArray⟩ ⟨#[c]⟩ w hE.shaped (by show s.length<_;omega)).mono fun e' w' h=> ?_
  obtain⟨h1,n,rfl⟩:=h;refine⟨?_,below_drewU (Below.refl _ _) n⟩;rw[h1];show Ending.returned (.tuple #[.string ⟨(Lib.cut s [c]).1.toArray⟩, .string ⟨(Lib.cut s [c]).2.1.toArray⟩, .bool (Lib.cut s [c]).2.2])=_;rw[hc]
theorem KeptX.calm {b:Nat} {w w1 w2:World} (h:KeptX w.heap.size b w w1) (hb:b≤w1.heap.size) (k:Below w1.heap.size w1 w2):KeptX w.heap.size b w w2:=h.next (KeptX.of_below k hb)
def EnvR (R:Nat) (w:World):Prop:=∃w0,EnvH w0∧Below w0.heap.size w0 w∧w0.heap.size≤R
theorem EnvR.env {R:Nat} {w:World} (h:EnvR R w):EnvH w:=let ⟨_,h1,h2,_⟩:=h;h1.below h2
theorem EnvR.kept {R lo:Nat} {w w':World} (h:EnvR R w) (k:KeptX lo R w w'):EnvR R w':=let ⟨w0,h1,h2,h3⟩:=h;⟨w0,h1,h2.trans (k.1.mono h3),h3⟩
theorem EnvR.below {R:Nat} {w w':World} (h:EnvR R w) (k:Below w.heap.size w w'):EnvR R w':=let ⟨w0,h1,h2,h3⟩:=h;⟨w0,h1,h2.trans (k.mono h2.size),h3⟩
def EndPost (R:Nat) (u base:UrlL) (s:List UInt8) (w:World) (e:Ending) (w':World):Prop:=
 e= .returned (.tuple #[])∧KeptX w.heap.size R w w'∧RdAt R (endU u s).1 base (endU u s).2 w'
theorem mark_none {u:UrlL} {s:List UInt8} (h:(cutF 35 s).2=none) (h1:u.mark=[]) (h2:u.hasM=false):∀(v:UrlL) (q:List UInt8),v= {u with query:=((cutF 63 s).2.map (encP 3)).getD [],hasQ:=(cutF 63 s).2.isSome}→q=(cutF 63 s).1→v=(endU u s).1∧q=(endU u s).2:=fun v q hv hq=>by
 have e:=(@cutF_fst 35 s).2.2 h;subst hv;subst hq;unfold endU;simp only;rw[h,e];refine⟨?_,rfl⟩
 cases u
 simp only at h1 h2;subst h1;subst h2;rfl
theorem mark_some {u:UrlL} {s a b:List UInt8} (h:cutF 35 s=(a,some b)):∀(v:UrlL) (q:List UInt8),v= {u with mark:=encP 2 b,hasM:=true,query:=((cutF 63 a).2.map (encP 3)).getD [],hasQ:=(cutF 63 a).2.isSome}→q=(cutF 63 a).1→v=(endU u s).1∧q=(endU u s).2:=fun v q hv hq=>by
 subst hv;subst hq;unfold endU;simp only;rw[h];exact⟨rfl,rfl⟩
set_option maxRecDepth 100000 in
theorem end_r (R:Nat) (u base:UrlL) (s:List UInt8) (w:World) (h:RdAt R u base s w) (hE:EnvR R w) (hs:s.length≤40000000) (hq1:u.query=[]) (hq2:u.hasQ=false) (hm1:u.mark=[]) (hm2:u.hasM=false):
 Calls Tryz.prog 132 #[.pointer (some ⟨R,0,none⟩)] w (EndPost R u base s w):=by
 have c10:w.cell? ⟨R,10,none⟩=some (.string ⟨s.toArray⟩):=h.cell 10
 have hlt:=h.lt
 cases hc:(cutF 35 s).2 with
 |none=>
  have c1:=cut_no hc w hE.env.t.env (by omega);have HN:=Lib.hid (mark_none (u:=u) hc hm1 hm2);clear hc;go_enter Tryz.func132,Tryz.ntmps132;go_wp2_with fail;go_at_call 151;refine c1.mono ?_;rintro e w1 ⟨rfl,hb1⟩;have hR1:=h.below hb1;have c101:w1.cell? ⟨R,10,none⟩=some (.string ⟨s.toArray⟩):=hR1.cell 10;have hE1:=(hE.below hb1).env.t.env;clear c1 c10;have hK1:=KeptX.of_below hb1 (Nat.le_of_lt hlt);clear hb1 h
  cases hd:(cutF 63 s).2 with
  |none=>
   have c2:=cut_no hd w1 hE1 (by omega);have hq:=(@cutF_fst 63 s).2.2 hd;have HF:=Lib.hid (HN.out u s (by rw[hd];cases u;simp only at hq1 hq2;subst hq1;subst hq2;rfl) hq.symm);clear HN hd hq;go_wp2_with fail;go_at_call 151;refine c2.mono ?_;rintro e w2 ⟨rfl,hb2⟩;have hR2:=hR1.below hb2;have hK2:=hK1.calm (Nat.le_of_lt hR1.lt) hb2;clear c2 hb2 hR1;go_wp2_with fail;go_end0;exact⟨rfl,hK2,by rw[←HF.out.1,←HF.out.2];exact hR2⟩
  |some q=>
   obtain⟨a2,ha2⟩:∃a2,cutF 63 s=(a2,some q):=⟨(cutF 63 s).1,Prod.ext rfl hd⟩;have c2:=cut_yes ha2 w1 hE1 (by omega);have hqs:=congrArg List.length ((@cutF_fst 63 s).2.1 q hd);rw[List.length_append,List.length_cons]at hqs;have HF:=Lib.hid (HN.out {u with hasQ:=true,query:=encP 3 q} a2 (by rw[hd];rfl) (by rw[ha2]));have ce:=fun W=>encode_p 3 (by omega) (by omega) q W (by omega)
   clear HN hd ha2 hqs;generalize encP 3 q=z at*;go_wp2_with fail;go_at_call 151;refine c2.mono ?_;rintro e w2 ⟨rfl,hb2⟩;have hR2:=hR1.below hb2;have hK2:=hK1.calm (Nat.le_of_lt hR1.lt) hb2;clear c2 hb2 hR1;go_wp2_with fail;go_at_call 189;refine(ce w2).mono ?_;rintro e w3 ⟨rfl,hb3⟩;have hR3:=hR2.below hb3;have hK3:=hK2.calm (Nat.le_of_lt hR2.lt) hb3;have hRa:=hR3.set (s':=a2) (u':=u) 10 (.string ⟨a2.toArray⟩) rfl;have hRb:=hRa.set (s':=a2) (u':= {u with hasQ:=true}) 7 (.bool true) rfl;have hRc:=hRb.set (s':=a2) (u':= {u with hasQ:=true,query:=z}) 6 (.string ⟨z.toArray⟩) rfl;have hKc:=((hK3.next (hR3.kept 10 (.string ⟨a2.toArray⟩))).next (hRa.kept 7 (.bool true))).next (hRb.kept 6 (.string ⟨z.toArray⟩));have k10:w3.cell? ⟨R,10,none⟩=some (.string ⟨_⟩):=hR3.cell 10;have k7:w3.cell? ⟨R,7,none⟩=some (.bool _):=hR3.cell 7;have k6:w3.cell? ⟨R,6,none⟩=some (.string ⟨_⟩):=hR3.cell 6;have f10:=hR3.free 10;have f7:=hR3.free 7;have f6:=hR3.free 6;clear hRa hRb hR2 hb3 hR3 hK2 hK3 ce;go_wp2_with fail;go_end0;exact⟨rfl,hKc,by rw[←HF.out.1,←HF.out.2];exact hRc⟩
 |some m=>
  obtain⟨a,ha⟩:∃a,cutF 35 s=(a,some m):=⟨(cutF 35 s).1,Prod.ext rfl hc⟩;have c1:=cut_yes ha w hE.env.t.env (by omega);have hms:=congrArg List.length ((@cutF_fst 35 s).2.1 m hc);rw[List.length_append,List.length_cons]at hms;have hal:(cutF 35 s).1=a:=by rw[ha]
  rw[hal]at hms;have HN:=Lib.hid (mark_some (u:=u) ha);have cm:=fun W=>encode_p 2 (by omega) (by omega) m W (by omega)
  clear hc ha hal;generalize encP 2 m=y at*;go_enter Tryz.func132,Tryz.ntmps132;go_wp2_with fail;go_at_call 151;refine c1.mono ?_;rintro e v1 ⟨rfl,hb1⟩;have hS1:=h.below hb1;have hK0:=KeptX.of_below hb1 (Nat.le_of_lt hlt);clear c1 c10 h;go_wp2_with fail;go_at_call 189;refine(cm v1).mono ?_;rintro e v2 ⟨rfl,hb2⟩;have hS2:=hS1.below hb2;have hKa:=hK0.calm (Nat.le_of_lt hS1.lt) hb2;have hSa:=hS2.set (s':=a) (u':=u) 10 (.string ⟨a.toArray⟩) rfl;have hSb:=hSa.set (s':=a) (u':= {u with hasM:=true}) 9 (.bool true) rfl;have hR1:=hSb.set (s':=a) (u':= {u with hasM:=true,mark:=y}) 8 (.string ⟨y.toArray⟩) rfl;have hK1:=((hKa.next (hS2.kept 10 (.string ⟨a.toArray⟩))).next (hSa.kept 9 (.bool true))).next (hSb.kept 8 (.string ⟨y.toArray⟩));have k10:v2.cell? ⟨R,10,none⟩=some (.string ⟨_⟩):=hS2.cell 10;have k9:v2.cell? ⟨R,9,none⟩=some (.bool _):=hS2.cell 9;have k8:v2.cell? ⟨R,8,none⟩=some (.string ⟨_⟩):=hS2.cell 8;have f10:=hS2.free 10;have f9:=hS2.free 9;have f8:=hS2.free 8;have hE1:Env (((v2.setCell ⟨R,10,none⟩ (.string ⟨a.toArray⟩)).setCell ⟨R,9,none⟩ (.bool true)).setCell ⟨R,8,none⟩ (.string ⟨y.toArray⟩)):=(hE.kept hK1).env.t.env;clear hSa hSb hb1 hb2 hS1 hS2 hK0 hKa cm;go_wp2_with fail;generalize ((v2.setCell ⟨R,10,none⟩ (.string ⟨a.toArray⟩)).setCell ⟨R,9,none⟩ (.bool true)).setCell ⟨R,8,none⟩ (.string ⟨y.toArray⟩)=w1 at*;have c101:w1.cell? ⟨R,10,none⟩=some (.string ⟨a.toArray⟩):=hR1.cell 10;clear k10 k9 k8 f10 f9 f8
  cases hd:(cutF 63 a).2 with
  |none=>
   have c2:=cut_no hd w1 hE1 (by omega);have hq:=(@cutF_fst 63 a).2.2 hd;have HF:=Lib.hid (HN.out {u with hasM:=true,mark:=y} a (by rw[hd];cases u;simp only at hq1 hq2;subst hq1;subst hq2;rfl) hq.symm);clear HN hd hq;go_wp2_with fail;go_at_call 151;refine c2.mono ?_;rintro e w2 ⟨rfl,hb2⟩;have hR2:=hR1.below hb2;have hK2:=hK1.calm (Nat.le_of_lt hR1.lt) hb2;clear c2 hb2 hR1;go_wp2_with fail;go_end0;exact⟨rfl,hK2,by rw[←HF.out.1,←HF.out.2];exact hR2⟩
  |some q=>
   obtain⟨a2,ha2⟩:∃a2,cutF 63 a=(a2,some q):=⟨(cutF 63 a).1,Prod.ext rfl hd⟩;have c2:=cut_yes ha2 w1 hE1 (by omega);have hqs:=congrArg List.length ((@cutF_fst 63 a).2.1 q hd);rw[List.length_append,List.length_cons]at hqs;have HF:=Lib.hid (HN.out { {u with hasM:=true,mark:=y}with hasQ:=true,query:=encP 3 q} a2 (by rw[hd];rfl) (by rw[ha2]));have ce:=fun W=>encode_p 3 (by omega) (by omega) q W (by omega)
   clear HN hd ha2 hqs;generalize encP 3 q=z at*;go_wp2_with fail;go_at_call 151;refine c2.mono ?_;rintro e w2 ⟨rfl,hb2⟩;have hR2:=hR1.below hb2;have hK2:=hK1.calm (Nat.le_of_lt hR1.lt) hb2;clear c2 hb2 hR1;go_wp2_with fail;go_at_call 189;refine(ce w2).mono ?_;rintro e w3 ⟨rfl,hb3⟩;have hR3:=hR2.below hb3;have hK3:=hK2.calm (Nat.le_of_lt hR2.lt) hb3;have hRa:=hR3.set (s':=a2) (u':= {u with hasM:=true,mark:=y}) 10 (.string ⟨a2.toArray⟩) rfl;have hRb:=hRa.set (s':=a2) (u':= { {u with hasM:=true,mark:=y}with hasQ:=true}) 7 (.bool true) rfl;have hRc:=hRb.set (s':=a2) (u':= { {u with hasM:=true,mark:=y}with hasQ:=true,query:=z}) 6 (.string ⟨z.toArray⟩) rfl;have hKc:=((hK3.next (hR3.kept 10 (.string ⟨a2.toArray⟩))).next (hRa.kept 7 (.bool true))).next (hRb.kept 6 (.string ⟨z.toArray⟩));have k10:w3.cell? ⟨R,10,none⟩=some (.string ⟨_⟩):=hR3.cell 10;have k7:w3.cell? ⟨R,7,none⟩=some (.bool _):=hR3.cell 7;have k6:w3.cell? ⟨R,6,none⟩=some (.string ⟨_⟩):=hR3.cell 6;have f10:=hR3.free 10;have f7:=hR3.free 7;have f6:=hR3.free 6;clear hRa hRb hR2 hb3 hR3 hK2 hK3 ce;go_wp2_with fail;go_end0;exact⟨rfl,hKc,by rw[←HF.out.1,←HF.out.2];exact hRc⟩
theorem lastU_none {s:List UInt8} {c:UInt8} (h:c∉s):∀k,k≤s.length→lastAt s c.toNat k= -1
 |0,_=>rfl
 |k+1,hk=>by
  rw[lastAt,if_neg,lastU_none h k (by omega)];intro e;have hl:s.getD k 0=s[k]:=by simp[show k<s.length by omega]
  rw[hl]at e;exact h (by rw[←UInt8.toNat_inj.1 e];exact List.getElem_mem _)
theorem lastU_some {a b:List UInt8} {c:UInt8} (h:c∉b):∀k,k≤b.length→lastAt (a++c::b) c.toNat (a.length+1+k)=(a.length:Int)
 |0,_=>by
  rw[Nat.add_zero,lastAt,if_pos (by simp)]
 |k+1,hk=>by
  rw[show a.length+1+(k+1)=(a.length+1+k)+1 by omega,lastAt,if_neg,lastU_some h k (by omega)];intro e;have hl:(a++c::b).getD (a.length+1+k) 0=b[k]:=by
   rw[List.getD_eq_getElem?_getD,List.getElem?_append_right (by omega),show a.length+1+k-a.length=k+1 by omega,List.getElem?_cons_succ,List.getElem?_eq_getElem (by omega)];rfl
  rw[hl]at e;exact h (by rw[←UInt8.toNat_inj.1 e];exact List.getElem_mem _)
theorem lastU (c:UInt8) (s:List UInt8):lastAt s c.toNat s.length=match cutB c s with|some (a,_)=>(a.length:Int)|none=> -1:=by
 cases h:cutB c s with
 |some r=>
  obtain⟨a,b⟩:=r;obtain⟨e,hb⟩:=cutB_some h;have:=lastU_some (a:=a) hb b.length (Nat.le_refl _);subst e;simp only;rw[show(a++c::b).length=a.length+1+b.length by simp;omega];exact this
 |none=>
  refine lastU_none (fun hc=> ?_) _ (Nat.le_refl _);have:∀ {s:List UInt8},c∈s→cutB c s≠none:=fun {s}=>by
   induction s with
   |nil=>intro h;cases h
   |cons y s ih=>
    intro h;rw[cutB]
    cases hs:cutB c s with
    |some r=>simp
    |none=>
     rcases List.mem_cons.1 h with rfl|h
     ·simp
     ·exact absurd hs (ih h)
  exact this hc h
def UserPost (R:Nat) (u base:UrlL) (s t:List UInt8) (w:World) (e:Ending) (w':World):Prop:=
 e= .returned (.string ⟨(userU t).2.toArray⟩)∧KeptX w.heap.size R w w'∧RdAt R {u with user:=(userU t).1.1,pass:=(userU t).1.2} base s w'
set_option maxRecDepth 100000 in
theorem user_r (R:Nat) (u base:UrlL) (s t:List UInt8) (w:World) (h:RdAt R u base s w) (hE:EnvR R w) (hs:t.length≤40000000) (hu:u.user=[]) (hp:u.pass=[]):
 Calls Tryz.prog 187 #[.pointer (some ⟨R,0,none⟩), .string ⟨t.toArray⟩] w (UserPost R u base s t w):=by
 have hl:=lastU 64 t
 have ci:=fun W:World=>(Tryz.strings_LastIndexByte ⟨t.toArray⟩ 64 (by show t.length<_;omega) W).mono (R':=fun e W'=>e= .returned (.int .i64 (lastAt t 64 t.length))∧W=W') fun e W' ⟨he,hw⟩=>⟨by rw[he];exact congrArg _ (congrArg _ (lastIndexByte_mk t 64)),hw.symm⟩
 rw[show(64:UInt8).toNat=64 from rfl]at hl
 have hlt:=h.lt
 cases hc:cutB 64 t with
 |none=>
  rw[hc]at hl;simp only at hl;rw[hl]at ci;have HU:Hid (userU t=(([],[]),t)):=by show _=_;unfold userU;rw[hc]
  clear hl hc;go_enter Tryz.func187,Tryz.ntmps187;go_wp2_with(go_at_call 160;refine(ci _).mono ?_;rintro e w1 ⟨rfl,rfl⟩);go_ret;refine⟨by rw[HU.out];rfl,KeptX.refl _ _ _, ?_⟩;rw[HU.out]
  cases u
  simp only at hu hp;subst hu;subst hp;exact h
 |some r=>
  obtain⟨a,b⟩:=r;rw[hc]at hl;simp only at hl;rw[hl]at ci;have HU:Hid (userU t=((encP 5 (cutF 58 a).1,encP 5 ((cutF 58 a).2.getD [])),b)):=by show _=_;unfold userU;rw[hc]
  have htb:=(cutB_some hc).1;have htl:t.length=a.length+b.length+1:=by rw[htb];simp;omega
  have ht:t.take a.length=a:=by rw[htb];simp
  have hd:t.drop (a.length+1)=b:=by rw[htb];simp
  have hai:¬(a.length:Int)<0:=by omega
  clear hl hc htb;have two:∀(x y:List UInt8) (q:Bool),Hid (userU t=((encP 5 x,encP 5 y),b))→x.length≤40000000→y.length≤40000000→(∀W,Env W→Calls Tryz.prog 151 #[.string ⟨a.toArray⟩, .string ⟨#[58]⟩] W fun e w'=>e= .returned (.tuple #[.string ⟨x.toArray⟩, .string ⟨y.toArray⟩, .bool q])∧Below W.heap.size W w')→Calls Tryz.prog 187 #[.pointer (some ⟨R,0,none⟩), .string ⟨t.toArray⟩] w (UserPost R u base s t w):=fun x y q HV hxl hyl cc=>by
   have c1:=cc w hE.env.t.env;have cx:=fun W=>encode_p 5 (by omega) (by omega) x W (by omega)
   have cy:=fun W=>encode_p 5 (by omega) (by omega) y W (by omega)
   clear cc HU;generalize encP 5 x=X at*;generalize encP 5 y=Y at*;go_enter Tryz.func187,Tryz.ntmps187;go_wp2_with(go_at_call 160;refine(ci _).mono ?_;rintro e w1 ⟨rfl,rfl⟩);go_at_call 151;refine c1.mono ?_;rintro e w2 ⟨rfl,hb2⟩;have hR2:=h.below hb2;have hK2:=KeptX.of_below hb2 (Nat.le_of_lt hlt);clear c1 hb2 h ci;go_wp2_with fail;go_at_call 189;refine(cx _).mono ?_;rintro e w3 ⟨rfl,hb3⟩;have hR3:=hR2.below hb3;have hK3:=hK2.calm (Nat.le_of_lt hR2.lt) hb3;clear hb3 hR2 hK2 cx;go_wp2_with fail;go_at_call 189;refine(cy _).mono ?_;rintro e w4 ⟨rfl,hb4⟩;have hR4:=hR3.below hb4;have hK4:=hK3.calm (Nat.le_of_lt hR3.lt) hb4;clear hb4 hR3 hK3 cy;have hRa:=hR4.set (s':=s) (u':= {u with user:=X}) 1 (.string ⟨X.toArray⟩) rfl;have hRb:=hRa.set (s':=s) (u':= {u with user:=X,pass:=Y}) 2 (.string ⟨Y.toArray⟩) rfl;have hKb:=(hK4.next (hR4.kept 1 (.string ⟨X.toArray⟩))).next (hRa.kept 2 (.string ⟨Y.toArray⟩));have k1:w4.cell? ⟨R,1,none⟩=some (.string ⟨_⟩):=hR4.cell 1;have k2:w4.cell? ⟨R,2,none⟩=some (.string ⟨_⟩):=hR4.cell 2;have f1:=hR4.free 1;have f2:=hR4.free 2;clear hRa hR4 hK4;go_wp2_with fail;go_ret;exact⟨by rw[HV.out];rfl,hKb,by rw[HV.out];exact hRb⟩
  cases hq:(cutF 58 a).2 with
  |none=>
   have e1:=(@cutF_fst 58 a).2.2 hq;refine two a [] false (by have:=HU.out;rw[hq,e1]at this;exact this) (by omega) (by simp) (fun W hW=>cut_no hq W hW (by omega))
  |some y=>
   have e2:=congrArg List.length ((@cutF_fst 58 a).2.1 y hq);rw[List.length_append,List.length_cons]at e2;exact two (cutF 58 a).1 y true (by have:=HU.out;rw[hq]at this;exact this) (by omega) (by omega) (fun W hW=>cut_yes (Prod.ext rfl hq) W hW (by omega))
abbrev digD:List UInt8:=[48,49,50,51,52,53,54,55,56,57]
theorem dig_num:∀k:Fin 256,digD.contains (UInt8.ofNat k.val)=numCB (UInt8.ofNat k.val):=by decide+kernel
theorem num_trim (a:List UInt8):(Lib.trimS a digD==[])=a.all numCB:=by
 rw[Bool.eq_iff_iff,beq_iff_eq,trimS_nil,List.all_eq_true];have key:∀c:UInt8,digD.contains c=numCB c:=fun c=>by
  have:=dig_num ⟨c.toNat,c.toNat_lt⟩;simpa using this
 exact⟨fun h c hc=>by rw[←key];exact h c hc,fun h c hc=>by rw[key];exact h c hc⟩
def numF (n:Nat) (l:List UInt8):Nat:=l.foldl (fun n c=>10*n+(c.toNat-48)) n
theorem dec_num:∀(l:List UInt8) (n:Nat),l.all numCB=true→Lib.decFrom n l=some (numF n l)
 |[],n,_=>rfl
 |c::l,n,h=>by
  simp only[List.all_cons,Bool.and_eq_true]at h;have hc:=h.1;simp only[numCB,Bool.and_eq_true,decide_eq_true_eq]at hc;have hd:Lib.digitVal c=some (c.toNat-48):=by unfold Lib.digitVal;rw[if_pos hc]
  rw[Lib.decFrom,hd];show Lib.decFrom (n*10+(c.toNat-48)) l=_;rw[dec_num l _ h.2,Nat.mul_comm];rfl
theorem num_drop:∀t:List UInt8,numV (t.dropWhile (·==48))=numV t
 |[]=>rfl
 |c::t=>by
  rw[List.dropWhile_cons];split
  ·rename_i h
   rw[beq_iff_eq]at h;subst h;rw[num_drop t];rfl
  ·rfl
theorem numF_ge:∀(l:List UInt8) (n:Nat),n*10^l.length≤numF n l
 |[],n=>by simp[numF]
 |c::l,n=>by
  have:=numF_ge l (10*n+(c.toNat-48));have h2:10*n*10^l.length≤(10*n+(c.toNat-48))*10^l.length:=Nat.mul_le_mul_right _ (by omega);rw[List.length_cons,Nat.pow_succ];show _≤numF (10*n+(c.toNat-48)) l;have h3:n*(10^l.length*10)=10*n*10^l.length:=by rw[Nat.mul_comm (10^l.length) 10,←Nat.mul_assoc,Nat.mul_comm n 10]
  omega
theorem num_great {t:List UInt8} (h:t.all numCB=true) (h5:5<(t.dropWhile (·==48)).length):65535<numV t:=by
 rw[←num_drop];have hall:∀c∈t.dropWhile (·==48),numCB c=true:=fun c hc=>List.all_eq_true.1 h c ((List.dropWhile_sublist _).subset hc)
 have hh:∀c l,t.dropWhile (·==48)=c::l→c≠48:=fun c l e he=>by
  have:∀(s:List UInt8),s.dropWhile (·==48)=c::l→¬(c==48)=true:=fun s=>by
   induction s with
   |nil=>intro h;simp at h
   |cons b s ih=>
    by_cases hb:(b==48)=true
    ·rw[List.dropWhile_cons,if_pos hb];exact ih
    ·rw[List.dropWhile_cons,if_neg hb]
     intro h;injection h with h _;rw[←h];exact hb
  exact this t e (by rw[he];rfl)
 generalize t.dropWhile (·==48)=b at*
 cases b with
 |nil=>simp at h5
 |cons c l=>
  have hc:=hall c List.mem_cons_self;have hne:=hh c l rfl;simp only[numCB,Bool.and_eq_true,decide_eq_true_eq]at hc;have h49:c.toNat≠48:=fun e=>hne (UInt8.toNat_inj.1 e)
  have hg:=numF_ge l (c.toNat-48);have hp:10^5≤10^l.length:=Nat.pow_le_pow_right (by omega) (by simp at h5;omega);have hm:1*10^l.length≤(c.toNat-48)*10^l.length:=Nat.mul_le_mul_right _ (by omega);show 65535<numF (10*0+(c.toNat-48)) l;rw[show 10*0+(c.toNat-48)=c.toNat-48 by omega];omega
theorem atoi_port {b:List UInt8} (h:b.all numCB=true):Lib.atoi (48::b)=some (numV b:Int):=by
 show(if ((48:UInt8)==45)=true then (Lib.decNat b).map fun (m:Nat)=> -(m:Int)else if ((48:UInt8)==43)=true then (Lib.decNat b).map fun (m:Nat)=>(m:Int)else (Lib.decNat (48::b)).map fun (m:Nat)=>(m:Int))=_;rw[if_neg (by decide),if_neg (by decide)];unfold Lib.decNat;rw[if_neg (by simp),dec_num _ 0 (by simp only[List.all_cons,h,Bool.and_true];decide)];rfl
theorem zero_join (b:List UInt8):(ByteArray.mk #[48])++(ByteArray.mk b.toArray)=ByteArray.mk (48::b).toArray:=ba_append [48] b
attribute [local go_sem] zero_join
def PortPost (R:Nat) (u base:UrlL) (s t:List UInt8) (w:World) (e:Ending) (w':World):Prop:=
 KeptX w.heap.size R w w'∧match portU u.scheme t with
  |none=>e=panE 4
  |some p=>e= .returned (.tuple #[])∧RdAt R {u with port:=p} base s w'
set_option maxRecDepth 100000 in
theorem port_r (R:Nat) (u base:UrlL) (s t:List UInt8) (w:World) (h:RdAt R u base s w) (hs:t.length≤40000000):
 Calls Tryz.prog 188 #[.pointer (some ⟨R,0,none⟩), .string ⟨t.toArray⟩] w (PortPost R u base s t w):=by
 have hR1:=h.set (s':=s) (u':= {u with port:= -1}) 4 (.int .i64 (-1)) rfl
 have hK1:=h.kept 4 (.int .i64 (-1))
 have k4:w.cell? ⟨R,4,none⟩=some (.int .i64 _):=h.cell 4
 have f4:=h.free 4
 have c1:=fun W:World=>(Tryz.strings_TrimLeft_one ⟨t.toArray⟩ 48 (by decide) W).mono (R':=fun e W'=>e= .returned (.string ⟨(t.dropWhile (·==48)).toArray⟩)∧W=W') fun e W' ⟨he,hw⟩=>⟨by rw[he];rfl,hw.symm⟩
 have c2:=fun W:World=>trim_any t digD W (by omega) (by decide) (by decide)
 have htr:=num_trim t
 have hnd:=num_drop t
 have hdl:=(List.dropWhile_sublist (fun c:UInt8=>c==48) (l:=t)).length_le
 have hpu:portU u.scheme t=if t.all numCB&&decide (numV t≤65535)then some (if t=[]∨numV t=ownP u.scheme then -1 else (numV t:Int))else none:=rfl
 cases hall:t.all numCB with
 |false=>
  rw[hall]at htr hpu;have HN:Hid (portU u.scheme t=none):=by show _=_;rw[hpu];rfl
  have htr2:(Lib.trimS t digD !=[])=true:=by rw[bne,htr];rfl
  clear hpu hall hnd;generalize Lib.trimS t digD=T at*;generalize t.dropWhile (·==48)=b at*;go_enter Tryz.func188,Tryz.ntmps188;go_wp2_with(go_at_call 185;refine(c1 _).mono ?_;rintro e w2 ⟨rfl,rfl⟩);go_at_call 120;refine(c2 _).mono ?_;rintro e w3 ⟨rfl,hb3⟩;have hK3:=hK1.calm (Nat.le_of_lt hR1.lt) hb3;clear c1 c2 hb3;go_wp2_with fail;go_at_call 131;refine(wrong_yes 4 _).mono ?_;rintro e w4 ⟨rfl,rfl⟩;exact⟨rfl,hK3,by rw[HN.out];rfl⟩
 |true=>
  rw[hall]at htr hpu;have htr2:(Lib.trimS t digD !=[])=false:=by rw[bne,htr];rfl
  have hgr:=num_great hall;have hba:(t.dropWhile (·==48)).all numCB=true:=List.all_eq_true.2 fun c hc=>List.all_eq_true.1 hall c ((List.dropWhile_sublist _).subset hc)
  have hat:=atoi_port hba;rw[hnd]at hat;have hnil:t=[]→numV t=0:=fun e=>by rw[e];rfl
  clear hall hba hnd;generalize Lib.trimS t digD=T at*;generalize t.dropWhile (·==48)=b at*;generalize numV t=N at*;simp only[Bool.true_and,decide_eq_true_eq]at hpu;by_cases h5:5<b.length
  ·have hg:=hgr h5
   have h5i:(5:Int)<(b.length:Int):=by omega
   have HN:Hid (portU u.scheme t=none):=by show _=_;rw[hpu,if_neg (by omega)]
   clear hpu hgr hat hnil hg h5;go_enter Tryz.func188,Tryz.ntmps188;go_wp2_with(go_at_call 185;refine(c1 _).mono ?_;rintro e w2 ⟨rfl,rfl⟩);go_at_call 120;refine(c2 _).mono ?_;rintro e w3 ⟨rfl,hb3⟩;have hK3:=hK1.calm (Nat.le_of_lt hR1.lt) hb3;clear c1 c2 hb3;go_wp2_with fail;go_at_call 131;refine(wrong_yes 4 _).mono ?_;rintro e w4 ⟨rfl,rfl⟩;exact⟨rfl,hK3,by rw[HN.out];rfl⟩
  ·have h5i:¬(5:Int)<(b.length:Int):=by omega
   have d5:=decide_eq_false h5i;clear hgr;by_cases h0:t=[]
   ·have hz:=hnil h0
    have HN:Hid (portU u.scheme t=some (-1)):=by show _=_;rw[hpu,if_pos (by omega),if_pos (.inl h0)]
    have q0:(t==[])=true:=beq_iff_eq.2 h0;have q1:t.isEmpty=true:=by rw[h0];rfl
    clear hpu hat hnil hz h0;go_enter Tryz.func188,Tryz.ntmps188;go_wp2_with(go_at_call 185;refine(c1 _).mono ?_;rintro e w2 ⟨rfl,rfl⟩);go_at_call 120;refine(c2 _).mono ?_;rintro e w3 ⟨rfl,hb3⟩;have hK3:=hK1.calm (Nat.le_of_lt hR1.lt) hb3;have hR3:=hR1.below hb3;clear c1 c2 hb3;go_wp2_with fail;go_at_call 131
    first|refine(wrong_no 4 _).mono ?_|(rw[d5];refine(wrong_no 4 _).mono ?_)|(rw[dN];refine(wrong_no 4 _).mono ?_)
    rintro e w4 ⟨rfl,rfl⟩;go_wp2_with fail
    first|go_end0|refine bodyPost_ret (results_none rfl _ _ _) rfl ?_
    exact⟨hK3,by rw[HN.out];exact⟨rfl,hR3⟩⟩
   ·have q0:(t==[])=false:=beq_eq_false_iff_ne.2 h0
    have q1:(!t.isEmpty)=true:=by cases t with|nil=>exact absurd rfl h0|cons _ _=>rfl
    have ca:=fun W:World=>(Tryz.strconv_Atoi ⟨(48::b).toArray⟩ (N:Int) (by show(48::b).length≤18;simp;omega) hat W).mono (R':=fun e W'=>e= .returned (.tuple #[.int .i64 (N:Int), .nilIface])∧Below W.heap.size W W') fun e W' ⟨he,n,hw⟩=>⟨he,by rw[hw];exact Go.Joins.below_bytesWorld _ _ _ _ (Nat.le_refl _)⟩
    have hsum:¬9223372036854775807<1+b.length:=by omega
    clear hat hnil;by_cases hN:N≤65535
    ·have hNi:¬(65535:Int)<(N:Int):=by omega
     have dN:=decide_eq_false hNi;rw[if_pos hN]at hpu;have co:=own_p u.scheme;by_cases ho:N=ownP u.scheme
     ·have HN:Hid (portU u.scheme t=some (-1)):=by show _=_;rw[hpu,if_pos (.inr ho)]
      have hob:(((ownP u.scheme:Nat):Int) !=((ownP u.scheme:Nat):Int))=false:=by simp
      subst ho;clear hpu h0;generalize ownP u.scheme=O at*;go_enter Tryz.func188,Tryz.ntmps188;go_wp2_with(go_at_call 185;refine(c1 _).mono ?_;rintro e w2 ⟨rfl,rfl⟩);go_at_call 120;refine(c2 _).mono ?_;rintro e w3 ⟨rfl,hb3⟩;have hK3:=hK1.calm (Nat.le_of_lt hR1.lt) hb3;have hR3:=hR1.below hb3;clear c1 c2 hb3 hR1 hK1;go_wp2_with fail;go_at_call 131
      first|refine(wrong_no 4 _).mono ?_|(rw[d5];refine(wrong_no 4 _).mono ?_)|(rw[dN];refine(wrong_no 4 _).mono ?_)
      rintro e w4 ⟨rfl,rfl⟩;go_wp2_with fail;go_at_call 241;refine(ca _).mono ?_;rintro e w5 ⟨rfl,hb5⟩;have hK5:=hK3.calm (Nat.le_of_lt hR3.lt) hb5;have hR5:=hR3.below hb5;have k0:w5.cell? ⟨R,0,none⟩=some (.string ⟨u.scheme.toArray⟩):=hR5.cell 0;clear ca hb5 hR3 hK3;go_wp2_with fail;go_at_call 131
      first|refine(wrong_no 4 _).mono ?_|(rw[d5];refine(wrong_no 4 _).mono ?_)|(rw[dN];refine(wrong_no 4 _).mono ?_)
      rintro e w6 ⟨rfl,rfl⟩;go_wp2_with(go_at_call 184;refine(co _).mono ?_;rintro e w7 ⟨rfl,rfl⟩)
      first|go_end0|refine bodyPost_ret (results_none rfl _ _ _) rfl ?_
      exact⟨hK5,by rw[HN.out];exact⟨rfl,hR5⟩⟩
     ·have HN:Hid (portU u.scheme t=some (N:Int)):=by show _=_;rw[hpu,if_neg (by rintro(q|q);exact h0 q;exact ho q)]
      have hob:((N:Int) !=((ownP u.scheme:Nat):Int))=true:=bne_iff_ne.2 (by omega);have hoi:¬(N:Int)=((ownP u.scheme:Nat):Int):=by omega
      clear hpu h0 ho;generalize ownP u.scheme=O at*;go_enter Tryz.func188,Tryz.ntmps188;go_wp2_with(go_at_call 185;refine(c1 _).mono ?_;rintro e w2 ⟨rfl,rfl⟩);go_at_call 120;refine(c2 _).mono ?_;rintro e w3 ⟨rfl,hb3⟩;have hK3:=hK1.calm (Nat.le_of_lt hR1.lt) hb3;have hR3:=hR1.below hb3;clear c1 c2 hb3 hR1 hK1;go_wp2_with fail;go_at_call 131
      first|refine(wrong_no 4 _).mono ?_|(rw[d5];refine(wrong_no 4 _).mono ?_)|(rw[dN];refine(wrong_no 4 _).mono ?_)
      rintro e w4 ⟨rfl,rfl⟩;go_wp2_with fail;go_at_call 241;refine(ca _).mono ?_;rintro e w5 ⟨rfl,hb5⟩;have hK5:=hK3.calm (Nat.le_of_lt hR3.lt) hb5;have hR5:=hR3.below hb5;have k0:w5.cell? ⟨R,0,none⟩=some (.string ⟨u.scheme.toArray⟩):=hR5.cell 0;have k45:w5.cell? ⟨R,4,none⟩=some (.int .i64 (-1)):=hR5.cell 4;have f45:=hR5.free 4;have hR6:=hR5.set (s':=s) (u':= {u with port:=(N:Int)}) 4 (.int .i64 (N:Int)) rfl;have hK6:=hK5.next (hR5.kept 4 (.int .i64 (N:Int)));clear ca hb5 hR3 hK3 hR5 hK5;go_wp2_with fail;go_at_call 131
      first|refine(wrong_no 4 _).mono ?_|(rw[d5];refine(wrong_no 4 _).mono ?_)|(rw[dN];refine(wrong_no 4 _).mono ?_)
      rintro e w6 ⟨rfl,rfl⟩;go_wp2_with(go_at_call 184;refine(co _).mono ?_;rintro e w7 ⟨rfl,rfl⟩)
      first|go_end0|refine bodyPost_ret (results_none rfl _ _ _) rfl ?_
      exact⟨hK6,by rw[HN.out];exact⟨rfl,hR6⟩⟩
    ·have hNi:(65535:Int)<(N:Int):=by omega
     have HN:Hid (portU u.scheme t=none):=by show _=_;rw[hpu,if_neg hN]
     clear hpu h0 hN;go_enter Tryz.func188,Tryz.ntmps188;go_wp2_with(go_at_call 185;refine(c1 _).mono ?_;rintro e w2 ⟨rfl,rfl⟩);go_at_call 120;refine(c2 _).mono ?_;rintro e w3 ⟨rfl,hb3⟩;have hK3:=hK1.calm (Nat.le_of_lt hR1.lt) hb3;have hR3:=hR1.below hb3;clear c1 c2 hb3 hR1 hK1;go_wp2_with fail;go_at_call 131
     first|refine(wrong_no 4 _).mono ?_|(rw[d5];refine(wrong_no 4 _).mono ?_)|(rw[dN];refine(wrong_no 4 _).mono ?_)
     rintro e w4 ⟨rfl,rfl⟩;go_wp2_with fail;go_at_call 241;refine(ca _).mono ?_;rintro e w5 ⟨rfl,hb5⟩;have hK5:=hK3.calm (Nat.le_of_lt hR3.lt) hb5;clear ca hb5 hR3 hK3;go_wp2_with fail;go_at_call 131;refine(wrong_yes 4 _).mono ?_;rintro e w6 ⟨rfl,rfl⟩;exact⟨rfl,hK5,by rw[HN.out];rfl⟩
end Go.Proofs.YtjkipdoebkhkaaaGreatDoor
