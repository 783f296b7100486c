/- Small laws for the walks of urls' statements: a contract lifted, blocks of addresses. -/
import Derived.Test.YthlnkoblpmjahaaGreatDoorGUrl5
set_option linter.unusedVariables false
set_option linter.unusedSimpArgs false
set_option maxHeartbeats 16000000
namespace Go.Proofs.YthlnkoblpmjahaaGreatDoor
open Go.RowKit
theorem below_next {w W W':World} (h:Below w.heap.size w W) (k:Below W.heap.size W W'):Below w.heap.size w W':=h.trans (k.mono h.size)
theorem below_news {w W:World} (h:Below w.heap.size w W) (u:UrlL):Below w.heap.size w (W.alloc (.cells (cellsU u).toArray 23)):=h.alloc h.size _
theorem UrlAt.pass {B:Nat} {v u:UrlL} {w:World} (h:UrlAt B v w):UrlAt B v (w.alloc (.cells (cellsU u).toArray 23)):=((below_alloc w _).block _ h.lt).trans h
theorem UrlAt.news (w:World) (u:UrlL):UrlAt w.heap.size u (w.alloc (.cells (cellsU u).toArray 23)):=heap_alloc_new w _
theorem UrlAt.on {B:Nat} {u:UrlL} {w w':World} (h:UrlAt B u w) (hb:Below w.heap.size w w'):UrlAt B u w':=(hb.block _ h.lt).trans h
end Go.Proofs.YthlnkoblpmjahaaGreatDoor
