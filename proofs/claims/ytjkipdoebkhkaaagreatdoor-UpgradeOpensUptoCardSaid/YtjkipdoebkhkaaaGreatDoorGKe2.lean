/- footmanlaw01.TwinSeals, TwinCookies walked. -/
import Derived.Test.YtjkipdoebkhkaaaGreatDoorGKe1
import Derived.Deep.RegionHeld
set_option linter.unusedVariables false
set_option linter.unusedSimpArgs false
set_option maxHeartbeats 16000000
namespace Go.Proofs.YtjkipdoebkhkaaaGreatDoor
open Go.RowKit
theorem seal_info:(Tryz.prog.info? 44).map (fun i=>(i.zero,i.size,i.bytes))=some (some (.agg #[.string ⟨#[]⟩, .bool false, .int .i64 0]),3,32):=by kernel_rfl
theorem seal_elem:ElemZ Tryz.prog 23 44 (.agg #[.string ⟨#[]⟩, .bool false, .int .i64 0]) 3 32:=
 ⟨Tryz.underlying23,by obtain⟨i,h1,h2,h3,h4⟩:=info_parts seal_info;exact⟨i,h1,h2,h3,h4⟩,rfl,by omega⟩
theorem one_seal (x:SealL):∀u∈cellsS x,u.oneCell'=true:=fun u hu=>by
 simp only[cellsS,List.mem_cons,List.not_mem_nil,or_false]at hu;rcases hu with rfl|rfl|rfl<;>rfl
theorem cookie_info:(Tryz.prog.info? 42).map (fun i=>(i.zero,i.size,i.bytes))=some (some (.agg #[.string ⟨#[]⟩, .string ⟨#[]⟩, .string ⟨#[]⟩, .bool false, .string ⟨#[]⟩, .bool false, .bool false, .int .u8 0, .int .i64 0, .int .i64 0, .int .i64 0, .int .i64 0]),12,112):=by kernel_rfl
theorem cookie_elem:ElemZ Tryz.prog 22 42 (.agg #[.string ⟨#[]⟩, .string ⟨#[]⟩, .string ⟨#[]⟩, .bool false, .string ⟨#[]⟩, .bool false, .bool false, .int .u8 0, .int .i64 0, .int .i64 0, .int .i64 0, .int .i64 0]) 12 112:=
 ⟨Tryz.underlying22,by obtain⟨i,h1,h2,h3,h4⟩:=info_parts cookie_info;exact⟨i,h1,h2,h3,h4⟩,rfl,by omega⟩
theorem one_cookie (x:CookieL):∀u∈cellsK x,u.oneCell'=true:=fun u hu=>by
 simp only[cellsK,List.mem_cons,List.not_mem_nil,or_false]at hu;rcases hu with rfl|rfl|rfl|rfl|rfl|rfl|rfl|rfl|rfl|rfl|rfl|rfl<;>rfl
theorem RowS.other {α:Type} {z:Nat} {en:α→List Value} {w W:World} {a:Addr} {n c:Nat} {X:List α} (h:RowS z en w (.slice (some a) n c) X) (e:W.heap[a.block]?=w.heap[a.block]?):RowS z en W (.slice (some a) n c) X:=by
 rcases h with ⟨h1,_⟩|⟨a',c',h1,h2,h3,h4⟩
 ·cases h1
 ·injection h1 with e1 e2 e3
  injection e1 with e1;subst e1 e2 e3;exact .inr ⟨a,c,rfl,h2,fun h0=>by
   have h5:W.heap[a.block]?=some (w.heap[a.block]'(h3 h0)):=by rw[e];exact Array.getElem?_eq_getElem (h3 h0)
   exact(Array.getElem?_eq_some_iff.1 h5).1,fun k hk j u hj=>(World.cell?_of_block (w:=w) (by rw[Go.ChangeShapes.block_add];exact e)).trans (h4 k hk j u hj)⟩
theorem TwinR.set {α:Type} {z:Nat} {en:α→List Value} {w:World} {B:Nat} {v:Value} {X:List α} {sp:α} (h:TwinR z en w B v X sp) {p:Addr} (hp:p.block<B) (u:Value):TwinR z en (w.setCell p u) B v X sp:=by
 obtain⟨g,c,h1,h2,h3,h4⟩:=h;exact⟨g,c,h1,h2,h3,h4.other (Below.heap_setCell _ _ _ _ (by show g≠p.block;omega))⟩
theorem TwinR.low {α:Type} {z:Nat} {en:α→List Value} {w:World} {B B':Nat} {v:Value} {X:List α} {sp:α} (h:TwinR z en w B v X sp) (hb:B'≤B):TwinR z en w B' v X sp:=by
 obtain⟨g,c,h1,h2,h3,h4⟩:=h;exact⟨g,c,h1,h2,by omega,h4⟩
end Go.Proofs.YtjkipdoebkhkaaaGreatDoor
