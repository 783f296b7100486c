/- What UpgradeHolds and UpgradeOpens share: the wish in memory, what a loop over changes keeps. -/
import Derived.Test.YtjkipdoebkhkaaaGreatDoorGUp4
import Derived.Test.YtjkipdoebkhkaaaGreatDoorJarChk
import Derived.Test.YtjkipdoebkhkaaaGreatDoorGUp3
set_option linter.unusedVariables false
set_option linter.unusedSimpArgs false
set_option maxHeartbeats 16000000
namespace Go.Proofs.YtjkipdoebkhkaaaGreatDoor
open Go.RowKit
def WishAt (B:Nat) (a b:Value) (kn g:Int) (q:Bool) (u:UrlL) (now:Int) (W:World):Prop:=W.heap[B]?=some (.cells (wishC a b kn g q u now).toArray 31 (0,0))
theorem WishAt.lt {B:Nat} {a b:Value} {kn g:Int} {q:Bool} {u:UrlL} {now:Int} {W:World} (h:WishAt B a b kn g q u now W):B<W.heap.size:=(Array.getElem?_eq_some_iff.1 h).1
theorem WishAt.on {B:Nat} {a b:Value} {kn g:Int} {q:Bool} {u:UrlL} {now:Int} {W W':World} (h:WishAt B a b kn g q u now W) (hb:Below W.heap.size W W'):WishAt B a b kn g q u now W':=(hb.block _ h.lt).trans h
theorem WishAt.keep {B:Nat} {a b:Value} {kn g:Int} {q:Bool} {u:UrlL} {now:Int} {W:World} (h:WishAt B a b kn g q u now W):W.cell? ⟨B,0,none⟩=some a∧W.cell? ⟨B,1,none⟩=some b∧W.cell? ⟨B,2,none⟩=some (.int .i64 kn):=
 ⟨by rw[Lib.cell_of_heap h];rfl,by rw[Lib.cell_of_heap h];rfl,by rw[Lib.cell_of_heap h];rfl⟩
theorem WishAt.wish {B:Nat} {a b:Value} {kn g:Int} {q:Bool} {u:UrlL} {now:Int} {W:World} (h:WishAt B a b kn g q u now W):W.cell? ⟨B,3,none⟩=some (.int .i64 g)∧W.cell? ⟨B,4,none⟩=some (.bool q)∧W.cell? ⟨B,15,none⟩=some (.int .i64 now)∧W.cell? ⟨B,8,none⟩=some (.string ⟨u.host.toArray⟩):=
 ⟨by rw[Lib.cell_of_heap h];rfl,by rw[Lib.cell_of_heap h];rfl,by rw[Lib.cell_of_heap h];rfl,by rw[Lib.cell_of_heap h];rfl⟩
theorem WishAt.url {B:Nat} {a b:Value} {kn g:Int} {q:Bool} {u:UrlL} {now:Int} {W:World} (h:WishAt B a b kn g q u now W):W.cell? ⟨B,5,none⟩=some (.string ⟨u.scheme.toArray⟩)∧W.cell? ⟨B,6,none⟩=some (.string ⟨u.user.toArray⟩)∧W.cell? ⟨B,7,none⟩=some (.string ⟨u.pass.toArray⟩)∧W.cell? ⟨B,8,none⟩=some (.string ⟨u.host.toArray⟩)∧W.cell? ⟨B,9,none⟩=some (.int .i64 u.port)∧W.cell? ⟨B,10,none⟩=some (.string ⟨u.path.toArray⟩)∧W.cell? ⟨B,11,none⟩=some (.string ⟨u.query.toArray⟩)∧W.cell? ⟨B,12,none⟩=some (.bool u.hasQ)∧W.cell? ⟨B,13,none⟩=some (.string ⟨u.mark.toArray⟩)∧W.cell? ⟨B,14,none⟩=some (.bool u.hasM):=
 ⟨by rw[Lib.cell_of_heap h];rfl,by rw[Lib.cell_of_heap h];rfl,by rw[Lib.cell_of_heap h];rfl,by rw[Lib.cell_of_heap h];rfl,by rw[Lib.cell_of_heap h];rfl,by rw[Lib.cell_of_heap h];rfl,by rw[Lib.cell_of_heap h];rfl,by rw[Lib.cell_of_heap h];rfl,by rw[Lib.cell_of_heap h];rfl,by rw[Lib.cell_of_heap h];rfl⟩
theorem RowS.off {α:Type} {z:Nat} {en:α→List Value} {w w':World} {v:Value} {X:List α} (h:RowS z en w v X) (hf:∀x,∃s,(en x)[0]?=some (.string s)) {B:Nat} (hB:∀p:Addr,p.block=B→∀s,w.cell? p≠some (.string s))
 (hk:∀k,k≠B→k<w.heap.size→w'.heap[k]?=w.heap[k]?) (hs:w.heap.size≤w'.heap.size):RowS z en w' v X:=by
 rcases h with h|⟨a,c,rfl,h2,h3,h4⟩
 ·exact .inl h
 ·refine .inr ⟨a,c,rfl,h2,fun h0=>Nat.lt_of_lt_of_le (h3 h0) hs,fun k hk2 j u hj=> ?_⟩
  have hne:a.block≠B:=fun e=>by
   obtain⟨s,hs⟩:=hf X[k];exact hB (a.add (k*z+0)) (by rw[Go.ChangeShapes.block_add];exact e) s (h4 k hk2 0 _ hs)
  exact(World.cell?_of_block (w:=w) (a:=a.add (k*z+j)) (by rw[Go.ChangeShapes.block_add];exact hk _ hne (h3 (by omega)))).trans (h4 k hk2 j u hj)
theorem keep_nostr {w:World} {B:Nat} {va vb:Value} {n:Int} {t:TypeId} {fr:Nat×Nat} (h:w.heap[B]?=some (.cells #[va,vb, .int .i64 n] t fr)) (ha:∃p q r,va= .slice p q r) (hb:∃p q r,vb= .slice p q r):∀p:Addr,p.block=B→∀s,w.cell? p≠some (.string s):=by
 rintro⟨b,o,sp⟩ rfl s e;obtain⟨p1,q1,r1,rfl⟩:=ha;obtain⟨p2,q2,r2,rfl⟩:=hb;unfold World.cell? at e;rw[h]at e;simp only at e;split at e
 ·cases e
 ·rcases o with _|_|_|o<;>simp at e
theorem wpList_field {P:Program} {ops:Array Oper} {rest:List Oper} {o:Oper} {a:Act} {w:World} {Q:Exit→Act→World→Prop} (hw:Region.wanted o (yielded ops a.tmps)=true) (ty:TypeId) (x:Operand) (k:Nat) (ho:o.op= .field ty x k)
 (u v:Value) (hx:a.eval x=u) (hv:(Instr.field ty u k).run P w= .ok v w) (h:wpList P ops Q rest (a.put o.dst v) w):wpList P ops Q (o::rest) a w:=
 wpList_step fun K hK=>by
  rw[if_pos hw];unfold Oper.wp execOp;simp only[ho,hx,Sem.run_bind,hv,Result.andThen_ok,Sem.run_pure];exact hK _ _ h
theorem sizeU_http (u:UrlL):sizeU {u with scheme:=httpB}≤sizeU u+4:=by
 have:httpB.length=4:=rfl;unfold sizeU;dsimp only;omega
theorem first_cook (x:CookieL):∃s,(cellsK x)[0]?=some (.string s):=⟨_,rfl⟩
theorem first_seal (x:SealL):∃s,(cellsS x)[0]?=some (.string s):=⟨_,rfl⟩
structure KW (w1:World) (kn:Int) (J:List CookieL) (T:List SealL) (va vb:Value) (wr:World):Prop where
 low:Below w1.heap.size w1 wr
 bk:wr.heap[w1.heap.size]?=some (.cells #[va,vb, .int .i64 kn] 25 (0,0))
 rj:RowS 12 cellsK wr va J
 rs:RowS 3 cellsS wr vb T
theorem KW.cells {w1:World} {kn:Int} {J:List CookieL} {T:List SealL} {va vb:Value} {wr:World} (h:KW w1 kn J T va vb wr) {W:World} (hW:Below wr.heap.size wr W):W.cell? ⟨w1.heap.size,0,none⟩=some va∧W.cell? ⟨w1.heap.size,1,none⟩=some vb∧W.cell? ⟨w1.heap.size,2,none⟩=some (.int .i64 kn)∧W.frozen? ⟨w1.heap.size,0,none⟩=false∧W.frozen? ⟨w1.heap.size,1,none⟩=false∧W.frozen? ⟨w1.heap.size,2,none⟩=false:=by
 have hr:=(hW.block _ (Array.getElem?_eq_some_iff.1 h.bk).1).trans h.bk;exact⟨by rw[Lib.cell_of_heap hr];rfl,by rw[Lib.cell_of_heap hr];rfl,by rw[Lib.cell_of_heap hr];rfl,by simp[World.frozen?,hr],by simp[World.frozen?,hr],by simp[World.frozen?,hr]⟩
theorem KW.on {w1:World} {kn:Int} {J:List CookieL} {T:List SealL} {va vb:Value} {wr W:World} (h:KW w1 kn J T va vb wr) (hW:Below wr.heap.size wr W):KW w1 kn J T va vb W:=
 ⟨below_nx h.low hW,(hW.block _ (Array.getElem?_eq_some_iff.1 h.bk).1).trans h.bk,h.rj.below hW (Nat.le_refl _),h.rs.below hW (Nat.le_refl _)⟩
theorem KW.put {w1:World} {kn:Int} {J:List CookieL} {T T':List SealL} {va vb va' vb':Value} {wr:World} (h:KW w1 kn J T va vb wr) (hj:RowS 12 cellsK wr va' J) (hs:RowS 3 cellsS wr vb' T'):
 KW w1 kn J T' va' vb' (((wr.setCell ⟨w1.heap.size,0,none⟩ va').setCell ⟨w1.heap.size,1,none⟩ vb').setCell ⟨w1.heap.size,2,none⟩ (.int .i64 kn)):=by
 obtain⟨x1,x2,x3,hx, -, -⟩:=h.rj.conc
 obtain⟨y1,y2,y3,hy, -, -⟩:=h.rs.conc
 have hn:=keep_nostr h.bk ⟨x1,x2,x3,hx⟩ ⟨y1,y2,y3,hy⟩
 have ho:∀k,k≠w1.heap.size→k<wr.heap.size→(((wr.setCell ⟨w1.heap.size,0,none⟩ va').setCell ⟨w1.heap.size,1,none⟩ vb').setCell ⟨w1.heap.size,2,none⟩ (.int .i64 kn)).heap[k]?=wr.heap[k]?:=fun k hk _=>
  (heap_setCell_other _ ⟨w1.heap.size,2,none⟩ _ _ hk).trans ((heap_setCell_other _ ⟨w1.heap.size,1,none⟩ _ _ hk).trans (heap_setCell_other _ ⟨w1.heap.size,0,none⟩ _ _ hk))
 exact⟨((h.low.setCell (p:=⟨w1.heap.size,0,none⟩) (Nat.le_refl _) _).setCell (p:=⟨w1.heap.size,1,none⟩) (Nat.le_refl _) _).setCell (p:=⟨w1.heap.size,2,none⟩) (Nat.le_refl _) _,
  heap_setCell_same _ w1.heap.size 2 _ _ _ (heap_setCell_same _ w1.heap.size 1 _ _ _ (heap_setCell_same wr w1.heap.size 0 _ _ _ h.bk)),
  hj.off first_cook hn ho (by simp[World.setCell]),hs.off first_seal hn ho (by simp[World.setCell])⟩
theorem keepB_hosts {J:List CookieL} {S:List SealL} {n:Int} (h:keepB J S n=true):∀x∈S,x.host.length≤1048576:=fun x hx=>by
 have h1:=(sealsB_iff.1 (keepB_parts h).1).1 x hx;unfold sealOk hostOk at h1;simp only[Bool.and_eq_true,decide_eq_true_eq]at h1;omega
theorem sealOk_host {s:SealL} (h1:sealOk s=true):s.host.length≤1048576:=by
 unfold sealOk hostOk at h1;simp only[Bool.and_eq_true,decide_eq_true_eq]at h1;omega
theorem SizK.low {x:CookieL} (h:SizK x):ckN x≤562949953404928:=by
 obtain⟨h1,h2,h3,h4⟩:=h;unfold ckN;omega
theorem new_keep {B:Nat} {a4 b4:Value} {kn:Int} {J:List CookieL} {T:List SealL} {wr w:World} {t:TypeId} (hz:w.heap[B]?=some (.cells #[.slice none 0 0, .slice none 0 0, .int .i64 0] t (0,0))) (hra:RowS 12 cellsK w a4 J) (hrb:RowS 3 cellsS w b4 T)
 (hS1:Below wr.heap.size wr (((w.setCell ⟨B,0,none⟩ a4).setCell ⟨B,1,none⟩ b4).setCell ⟨B,2,none⟩ (.int .i64 kn))):
 ∃(Bn:Nat) (a5 b5:Value),Value.pointer (some ⟨B,0,none⟩)= .pointer (some ⟨Bn,0,none⟩)∧Value.int .i64 0= .int .i64 0∧Hid ((((w.setCell ⟨B,0,none⟩ a4).setCell ⟨B,1,none⟩ b4).setCell ⟨B,2,none⟩ (.int .i64 kn)).heap[Bn]?=some (.cells #[a5,b5, .int .i64 kn] t (0,0)))∧
  Hid (RowS 12 cellsK (((w.setCell ⟨B,0,none⟩ a4).setCell ⟨B,1,none⟩ b4).setCell ⟨B,2,none⟩ (.int .i64 kn)) a5 J)∧Hid (RowS 3 cellsS (((w.setCell ⟨B,0,none⟩ a4).setCell ⟨B,1,none⟩ b4).setCell ⟨B,2,none⟩ (.int .i64 kn)) b5 T)∧
  Hid (Below wr.heap.size wr (((w.setCell ⟨B,0,none⟩ a4).setCell ⟨B,1,none⟩ b4).setCell ⟨B,2,none⟩ (.int .i64 kn))):=by
 have hn:=keep_nostr hz ⟨_,_,_,rfl⟩ ⟨_,_,_,rfl⟩
 have ho:∀k,k≠B→k<w.heap.size→(((w.setCell ⟨B,0,none⟩ a4).setCell ⟨B,1,none⟩ b4).setCell ⟨B,2,none⟩ (.int .i64 kn)).heap[k]?=w.heap[k]?:=fun k hk _=>
  (heap_setCell_other _ ⟨B,2,none⟩ _ _ hk).trans ((heap_setCell_other _ ⟨B,1,none⟩ _ _ hk).trans (heap_setCell_other _ ⟨B,0,none⟩ _ _ hk))
 exact⟨B,a4,b4,rfl,rfl,Lib.hid (heap_setCell_same _ B 2 _ _ _ (heap_setCell_same _ B 1 _ _ _ (heap_setCell_same w B 0 _ _ _ hz))),Lib.hid (hra.off first_cook hn ho (by simp[World.setCell])),Lib.hid (hrb.off first_seal hn ho (by simp[World.setCell])),Lib.hid hS1⟩
theorem tell_len (S:List SealL) (u:UrlL) (q:Bool) (age now:Int):(tellL S u q age now).length≤2:=by
 have h0:(leastOf S).length≤1:=by cases S<;>simp[leastOf]
 unfold tellL;split
 ·exact Nat.zero_le _
 ·split
  ·split<;>simp
  ·rw[List.length_append]
   split
   ·show(leastOf S).length+1≤2
    omega
   ·simp
theorem apps_succ {S:List SealL} {L:List (Bool×SealL)} {k:Nat} (hk:k<L.length):appsS S (L.take (k+1))=appS (appsS S (L.take k)) L[k]:=by
 unfold appsS;rw[List.take_add_one,List.getElem?_eq_getElem hk,List.foldl_append];rfl
end Go.Proofs.YtjkipdoebkhkaaaGreatDoor
