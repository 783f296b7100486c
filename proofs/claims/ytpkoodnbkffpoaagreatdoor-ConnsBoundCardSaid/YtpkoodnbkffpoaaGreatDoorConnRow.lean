/- Connections in memory: the block of three cells, the row, what a call may turn of it. -/
import Derived.Test.YtpkoodnbkffpoaaGreatDoorConnMem
import Derived.Test.YtpkoodnbkffpoaaGreatDoorConnMath
set_option linter.unusedVariables false
set_option linter.unusedSimpArgs false
set_option maxHeartbeats 16000000
namespace Go.Proofs.YtpkoodnbkffpoaaGreatDoor
open Go.RowKit
def cellsC (x:ConnL):List Value:=[.int .i64 x.id, .bool x.key.safe, .string ⟨x.key.host.toArray⟩, .int .i64 x.key.port, .int .i64 x.given]
theorem cellsC_len (x:ConnL):(cellsC x).length=5:=rfl
theorem one_conn (x:ConnL):∀u∈cellsC x,u.oneCell'=true:=fun u hu=>by
 simp only[cellsC,List.mem_cons,List.not_mem_nil,or_false]at hu;rcases hu with rfl|rfl|rfl|rfl|rfl<;>rfl
theorem one_conns (X:List ConnL):∀u∈X.flatMap cellsC,u.oneCell'=true:=fun u hu=>by
 obtain⟨x,_,h⟩:=List.mem_flatMap.1 hu;exact one_conn x u h
structure Turn (B:Nat) (v:Value) (w w':World) (v':Value):Prop where
 os:w'.os=w.os
 tape:w'.tape=w.tape
 output:w'.output=w.output
 size:w.heap.size≤w'.heap.size
 block:∀k,k<w.heap.size→k≠B→v.ownBlock≠some k→w'.heap[k]?=w.heap[k]?
 own:∀k,v'.ownBlock=some k→v.ownBlock=some k∨w.heap.size≤k
theorem Turn.refl (B:Nat) (v:Value) (w:World):Turn B v w w v:=⟨rfl,rfl,rfl,Nat.le_refl _,fun _ _ _ _=>rfl,fun _ h=> .inl h⟩
theorem Turn.trans {B:Nat} {v1 v2 v3:Value} {a b c:World} (h:Turn B v1 a b v2) (k:Turn B v2 b c v3):Turn B v1 a c v3:=
 ⟨k.os.trans h.os,k.tape.trans h.tape,k.output.trans h.output,Nat.le_trans h.size k.size,fun i hi h1 h2=>(k.block i (Nat.lt_of_lt_of_le hi h.size) h1 (fun e=>by
  rcases h.own i e with h3|h3
  ·exact h2 h3
  ·omega)).trans (h.block i hi h1 h2),fun i hi=>by
  rcases k.own i hi with h3|h3
  ·exact h.own i h3
  ·exact .inr (Nat.le_trans h.size h3)⟩
theorem Turn.below {B:Nat} {v v':Value} {a b c:World} (h:Turn B v a b v') (k:Below b.heap.size b c):Turn B v a c v':=
 h.trans ⟨k.os,k.tape,k.output,k.size,fun i hi _ _=>k.block i hi,fun _ h=> .inl h⟩
theorem Turn.of {B:Nat} {v:Value} {a b:World} (k:Below a.heap.size a b):Turn B v a b v:=(Turn.refl B v a).below k
theorem Turn.to {B L:Nat} {v v':Value} {a b:World} (h:Turn B v a b v') (hB:L≤B) (hL:L≤a.heap.size) (hv:∀k,v.ownBlock=some k→L≤k):Below L a b:=
 ⟨h.os,h.tape,h.output,h.size,fun k hk=>h.block k (by omega) (by omega) (fun e=>by have:=hv k e;omega)⟩
structure ConnsAt (w:World) (B:Nat) (v:Value) (S:ConnsL):Prop where
 at_:w.heap[B]?=some (.cells #[.int .i64 1,v, .int .i64 S.next] 69 (0,0))
 row:w.ownsRow (B+1) 73 5 v S.l.length (S.l.flatMap cellsC)
theorem ConnsAt.lt {w:World} {B:Nat} {v:Value} {S:ConnsL} (h:ConnsAt w B v S):B<w.heap.size:=(Array.getElem?_eq_some_iff.1 h.at_).1
theorem ConnsAt.own {w:World} {B:Nat} {v:Value} {S:ConnsL} (h:ConnsAt w B v S):∀k,v.ownBlock=some k→B+1≤k∧k<w.heap.size:=h.row.lt
theorem ConnsAt.below {w w':World} {B:Nat} {v:Value} {S:ConnsL} (h:ConnsAt w B v S) (k:Below w.heap.size w w'):ConnsAt w' B v S:=
 ⟨(k.block B h.lt).trans h.at_,own_below h.row k⟩
theorem ConnsAt.cells {w:World} {B:Nat} {v:Value} {S:ConnsL} (h:ConnsAt w B v S):w.cell? ⟨B,0,none⟩=some (.int .i64 1)∧w.cell? ⟨B,1,none⟩=some v∧w.cell? ⟨B,2,none⟩=some (.int .i64 S.next):=
 ⟨by rw[Lib.cell_of_heap h.at_];rfl,by rw[Lib.cell_of_heap h.at_];rfl,by rw[Lib.cell_of_heap h.at_];rfl⟩
theorem ConnsAt.free {w:World} {B:Nat} {v:Value} {S:ConnsL} (h:ConnsAt w B v S) (o:Nat):w.frozen? ⟨B,o,none⟩=false:=by simp[World.frozen?,h.at_]
theorem ConnsAt.form {w:World} {B:Nat} {v:Value} {S:ConnsL} (h:ConnsAt w B v S):
 (v= .slice none 0 0∧S.l=[])∨∃g cap,v= .slice (some ⟨g,0,none⟩) S.l.length cap∧S.l.length≤cap∧cap≤maxLen∧B+1≤g∧g<w.heap.size∧RowS 5 cellsC w (.slice (some ⟨g,0,none⟩) S.l.length cap) S.l:=by
 have hr:=RowS.own (z:=5) (by omega) cellsC_len h.row rfl
 rcases h.row.2 with ⟨rfl,h0⟩|⟨g,cap,cur,rfl,hb,hg,hc,hm,hs,ht⟩
 ·exact .inl ⟨rfl,List.length_eq_zero_iff.1 h0⟩
 ·exact .inr ⟨g,cap,rfl,hc,hm,hb,(Array.getElem?_eq_some_iff.1 hg).1,hr⟩
theorem conn_info:(Tryz.prog.info? 73).map (fun i=>(i.zero,i.size,i.bytes))=some (some (.agg #[.int .i64 0, .bool false, .string ⟨#[]⟩, .int .i64 0, .int .i64 0]),5,48):=by kernel_rfl
theorem conn_elem:ElemZ Tryz.prog 67 73 (.agg #[.int .i64 0, .bool false, .string ⟨#[]⟩, .int .i64 0, .int .i64 0]) 5 48:=
 ⟨Tryz.underlying67,by obtain⟨i,h1,h2,h3,h4⟩:=info_parts conn_info;exact⟨i,h1,h2,h3,h4⟩,rfl,by omega⟩
end Go.Proofs.YtpkoodnbkffpoaaGreatDoor
