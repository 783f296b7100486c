/- The law UrlsParses walked. -/
import Derived.Test.YthlnkoblpmjahaaGreatDoorGRU5
import Derived.Test.YthlnkoblpmjahaaGreatDoorUrlLawH
import Derived.Lib.QuietBelow
set_option linter.unusedVariables false
set_option linter.unusedSimpArgs false
set_option maxHeartbeats 16000000
namespace Go.Proofs.YthlnkoblpmjahaaGreatDoor
open Go.RowKit
open Go.Sort
def greatB (s:List UInt8):Prop:=(1000<s.length∧s.length≤4096)∨9000<s.length
theorem great_yes {s:List UInt8} (h:greatB s) (w:World):Calls Tryz.prog 24 #[.string ⟨s.toArray⟩] w fun e w'=>e= .returned (.bool true)∧w=w':=by
 rcases h with ⟨h1,h2⟩|h1
 ·have i1:(1000:Int)<(s.length:Int):=by omega
  have i2:(s.length:Int)≤4096:=by omega
  go_enter Tryz.func24,Tryz.ntmps24;go_wp2_with fail;go_ret;exact⟨rfl,rfl⟩
 ·have i1:(1000:Int)<(s.length:Int):=by omega
  have i2:(4096:Int)<(s.length:Int):=by omega
  have i3:(9000:Int)<(s.length:Int):=by omega
  go_enter Tryz.func24,Tryz.ntmps24;go_wp2_with fail;go_ret;exact⟨rfl,rfl⟩
theorem great_no {s:List UInt8} (h:¬greatB s) (w:World):Calls Tryz.prog 24 #[.string ⟨s.toArray⟩] w fun e w'=>e= .returned (.bool false)∧w=w':=by
 unfold greatB at h;have d2:decide (9000<(s.length:Int))=false:=decide_eq_false (by omega);by_cases h1:1000<s.length
 ·have i1:decide (1000<(s.length:Int))=true:=decide_eq_true (by omega)
  have d1:decide ((s.length:Int)≤4096)=false:=decide_eq_false (by omega);clear h;go_enter Tryz.func24,Tryz.ntmps24;go_wp2_with fail;go_ret;exact⟨rfl,rfl⟩
 ·have i1:decide (1000<(s.length:Int))=false:=decide_eq_false (by omega)
  clear h;go_enter Tryz.func24,Tryz.ntmps24;go_wp2_with fail;go_ret;exact⟨rfl,rfl⟩
theorem eqU_self (u:UrlL):eqU u u=true:=eqU_iff.2 rfl
set_option maxRecDepth 100000 in
theorem urlparses_law (s:List UInt8) (w:World) (hm:s.length≤140737488351232) (hE:EnvH w):
 Calls Tryz.prog 4 #[.string ⟨s.toArray⟩] w fun e w'=>e= .returned (.bool true)∧Below w.heap.size w w':=by
 by_cases hg:greatB s
 ·have cg:=great_yes hg w
  clear hg;go_enter Tryz.func4,Tryz.ntmps4;go_wp2_with(go_at_call 24;refine cg.mono ?_;rintro e w1 ⟨rfl,rfl⟩);go_ret;exact⟨rfl,Below.refl _ _⟩
 ·have cg:=great_no hg w
  have ca:=parse_u s zeroU false w hE hm (by decide) (by decide);have cb:=fun W=>rParse_u s zeroU false W hm (by decide) (by decide)
  clear hg hE;generalize parseU s zeroU false=X at*;obtain⟨u,k,hX⟩:∃(u:UrlL) (k:Int),pairU X= .tuple #[urlV u, .int .i64 k]:=by
   cases X with
   |error n=>exact⟨_,_,rfl⟩
   |ok v=>exact⟨_,_,rfl⟩
  rw[hX]at ca cb;clear hX;have heq:=eq_urls u u;rw[eqU_self]at heq;unfold urlV at ca cb heq;go_enter Tryz.func4,Tryz.ntmps4;go_wp2_with(go_at_call 24;refine cg.mono ?_;rintro e w1 ⟨rfl,rfl⟩);go_at_call 25;refine ca.mono ?_;rintro e w2 ⟨rfl,hb2⟩;have hA:=UrlAt.news w2 u;have hBA:=below_news hb2 u;clear ca cg;go_upto_region 4 with fail;unfold cellsU at hA hBA;obtain⟨w3,hw3⟩:∃W,w2.alloc (.cells #[.string ⟨u.scheme.toArray⟩, .string ⟨u.user.toArray⟩, .string ⟨u.pass.toArray⟩, .string ⟨u.host.toArray⟩, .int .i64 u.port, .string ⟨u.path.toArray⟩, .string ⟨u.query.toArray⟩, .bool u.hasQ, .string ⟨u.mark.toArray⟩, .bool u.hasM] 23)=W:=⟨_,rfl⟩;have hA3:UrlAt w2.heap.size u w3:=by rw[←hw3];exact hA
  have hB3:Below w.heap.size w w3:=by rw[←hw3];exact hBA
  rw[hw3];clear hw3 hA hBA hb2;go_wp2_with fail;go_at_call 26;refine(cb _).mono ?_;rintro e w4 ⟨rfl,hb4⟩;have hA4:=hA3.on hb4;have hB4:=below_next hB3 hb4;have hBB:=below_news hB4 u;have hlt:=hA4.lt;obtain⟨p0,p1,p2,p3,p4,p5,p6,p7,p8,p9⟩:=hA4.cells;clear cb hA3 hB3 hb4 hA4 hB4;go_wp2_with fail;go_ret;exact⟨rfl,hBB⟩
end Go.Proofs.YthlnkoblpmjahaaGreatDoor
