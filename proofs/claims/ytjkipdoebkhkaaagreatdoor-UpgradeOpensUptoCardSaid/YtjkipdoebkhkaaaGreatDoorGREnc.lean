/- The walk of the reference's Encode. -/
import Derived.Test.YtjkipdoebkhkaaaGreatDoorGEnc
set_option linter.unusedVariables false
set_option linter.unusedSimpArgs false
set_option maxHeartbeats 16000000
namespace Go.Proofs.YtjkipdoebkhkaaaGreatDoor
open Go.RowKit
def minL (last:Nat) (l:List Nat):Nat:=l.foldl (fun m c=>if last≤c∧c<m then c else m) 1114112
theorem minL_ge (last m:Nat):∀(l:List Nat) (a:Nat),m≤a→(∀c∈l,last≤c→m≤c)→m≤l.foldl (fun m c=>if last≤c∧c<m then c else m) a
 |[],a,ha,_=>ha
 |c::l,a,ha,hc=>by
  rw[List.foldl_cons];refine minL_ge last m l _ ?_ (fun d hd=>hc d (List.mem_cons_of_mem _ hd));split
  ·rename_i h;exact hc c List.mem_cons_self h.1
  ·exact ha
theorem minL_le (last m:Nat) (hm:last≤m):∀(l:List Nat) (a:Nat),(m∈l∨a≤m)→l.foldl (fun m c=>if last≤c∧c<m then c else m) a≤m
 |[],a,h=>by simpa using h
 |c::l,a,h=>by
  rw[List.foldl_cons];refine minL_le last m hm l _ ?_;rcases h with h|h
  ·rcases List.mem_cons.1 h with rfl|h
   ·right;split<;>omega
   ·exact .inl h
  ·right;split<;>omega
theorem OutOk.least {R:List Nat} {p:Nat} {x:Nat×ES} {m:Nat} {rest:List Nat} (h:OutOk R p x (m::rest)):minL x.1 R=m:=by
 have hm:=h.mem m List.mem_cons_self;have hge:∀c∈R,x.1≤c→m≤c:=fun c hc hx=>by
  rcases List.mem_cons.1 (h.compl c hc hx)with h6|h6
  ·omega
  ·exact Nat.le_of_lt ((List.pairwise_cons.1 h.sorted).1 c h6)
 exact Nat.le_antisymm (minL_le x.1 m hm.2.1 R _ (.inl hm.1)) (minL_ge x.1 m R _ (by omega) hge)
end Go.Proofs.YtjkipdoebkhkaaaGreatDoor
