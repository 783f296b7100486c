/- The law SitesBehind walked. -/
import Derived.Test.YtlcnknlmdaochaaGreatDoorGSit2
import Derived.Test.YtlcnknlmdaochaaGreatDoorGUrlP
set_option linter.unusedVariables false
set_option linter.unusedSimpArgs false
set_option maxHeartbeats 16000000
namespace Go.Proofs.YtlcnknlmdaochaaGreatDoor
open Go.RowKit
theorem beyond_two (n m:Nat) (W:World) (hn:n≤4611686018427387904) (hm:m≤4611686018427387904):
 Calls Tryz.prog 15 #[.slice (some ⟨W.heap.size,0,none⟩) 2 2] (W.alloc (.cells #[.int .i64 (n:Int), .int .i64 (m:Int)] 3)) fun e w'=>e= .returned (.bool (decide (1048576<n+m)))∧W.alloc (.cells #[.int .i64 (n:Int), .int .i64 (m:Int)] 3)=w':=by
 have:=beyond_any [n,m] (W.alloc (.cells #[.int .i64 (n:Int), .int .i64 (m:Int)] 3)) W.heap.size (by simp) (fun j hj=>by
  match j,hj with
  |0,_=>exact World.cell?_alloc_at _ _ _ 0 rfl
  |1,_=>exact World.cell?_alloc_at _ _ _ 1 rfl) (fun j hj=>by
  match j,hj with
  |0,_=>simpa using hn
  |1,_=>simpa using hm)
 rw[show [n,m].sum=n+m by simp]at this
 exact this
theorem js_sl (a:List UInt8):(ByteArray.mk a.toArray)++(ByteArray.mk #[47])=ByteArray.mk (a++[47]).toArray:=ba_append a [47]
attribute [local go_sem] js_sl ba_append
set_option maxRecDepth 100000 in
theorem sbehind_law (p m:List UInt8) (w:World) (hmp:p.length≤140737488351232) (hmm:m.length≤140737488351232) (hE:EnvH w):
 Calls Tryz.prog 8 #[.string ⟨p.toArray⟩, .string ⟨m.toArray⟩] w fun e w'=>e= .returned (.bool true)∧Below w.heap.size w w':=by
 have hb0:=Below.refl w.heap.size w
 have cv:=lift_k w hE (fun W hW=>alive_s W hW)
 have hW0:∀ {W:World} o,Below w.heap.size w W→Below w.heap.size w (W.alloc o):=fun o h=>h.alloc h.size _
 have cb:=fun W=>beyond_two p.length m.length W (by omega) (by omega)
 clear hE
 by_cases hb:1048576<p.length+m.length
 ·rw[decide_eq_true hb]at cb
  go_enter Tryz.func8,Tryz.ntmps8;go_wp2_with fail;go_at_call 38;refine(cv _ hb0).mono ?_;rintro e w1 ⟨rfl,hb1⟩;have h1:=below_next hb0 hb1;go_wp2_with fail;go_at_call 15;refine(cb _).mono ?_;rintro e w2 ⟨rfl,rfl⟩;go_wp2_with fail;go_at_call 38;refine(cv _ (hW0 _ h1)).mono ?_;rintro e w2 ⟨rfl,hb2⟩;go_wp2_with fail;go_ret;exact⟨rfl,below_next (hW0 _ h1) hb2⟩
 ·rw[decide_eq_false hb]at cb
  have c1:=fun W=>path_any (p++m) p W (by omega)
  have c2:=fun W=>path_any (p++[47]++m) p W (by omega)
  have c3:=fun W=>path_any (p++[47]++m) (p++[47]) W (by simp;omega)
  have c4:=fun W=>path_any (p.take (p.length-1)) p W (by omega)
  rw[show p++[47]++m=p++47::m by simp,(mat_behind p m).1]at c2;rw[show p++[47]++m=p++47::m by simp,(mat_behind p m).2]at c3;rw[mat_all]at c1;have z1:¬9223372036854775807<p.length+m.length:=by omega
  have z2:¬9223372036854775807<p.length+1:=by omega
  have z3:¬9223372036854775807<(p++[47]).length+m.length:=by simp;omega
  have z4:¬9223372036854775807<p.length+1+m.length:=by omega
  clear hb;by_cases hp0:p=[]
  ·have p1:¬(0:Int)<(p.length:Int):=by rw[hp0];decide
   have p2:((p.length:Int)==0)=true:=by rw[hp0];rfl
   rw[show decide (0<p.length)=false by rw[hp0];rfl,Bool.false_and,Bool.false_or]at c1;clear hp0 c4;by_cases hm0:m=[]
   ·have q1:(m==[])=true:=by rw[hm0];rfl
    rw[show m.isEmpty=true by rw[hm0];rfl,Bool.true_or]at c1;clear hm0;go_enter Tryz.func8,Tryz.ntmps8;go_wp2_with fail;go_at_call 38;refine(cv _ hb0).mono ?_;rintro e w1 ⟨rfl,hb1⟩;have h1:=below_next hb0 hb1;clear cv;go_wp2_with fail;go_at_call 15;refine(cb _).mono ?_;rintro e w2 ⟨rfl,rfl⟩;go_wp2_with fail;go_at_call 40;refine(c1 _).mono ?_;rintro e w2 ⟨rfl,rfl⟩;go_wp2_with fail;go_at_call 40;refine(c2 _).mono ?_;rintro e w2 ⟨rfl,rfl⟩;go_wp2_with fail;go_at_call 40;refine(c3 _).mono ?_;rintro e w2 ⟨rfl,rfl⟩;go_wp2_with fail;go_ret;exact⟨rfl,hW0 _ h1⟩
   ·have q1:(m==[])=false:=beq_eq_false_iff_ne.2 hm0
    have q0:0<m.length:=List.length_pos_iff.2 hm0;have q2:(0:Int)<(m.length:Int):=by omega
    obtain⟨f,q3⟩:∃f,∀hh,m[0]'hh=f:=⟨m[0],fun _=>rfl⟩;obtain⟨h,q4⟩:∃h,((f.toNat:Int)==47)=h:=⟨_,rfl⟩;have q5:((m[0]?.getD 0).toNat==47)=h:=by rw[List.getElem?_eq_getElem q0,q3 q0,←q4,Option.getD_some];rw[Bool.eq_iff_iff,beq_iff_eq,beq_iff_eq];omega
    rw[show m.isEmpty=false by rw[←q1];cases m<;>rfl,Bool.false_or,q5]at c1;clear hm0 q0 q5
    cases h
    all_goals
     go_enter Tryz.func8,Tryz.ntmps8;go_wp2_with fail;go_at_call 38;refine(cv _ hb0).mono ?_;rintro e w1 ⟨rfl,hb1⟩;have h1:=below_next hb0 hb1;clear cv;go_wp2_with fail;go_at_call 15;refine(cb _).mono ?_;rintro e w2 ⟨rfl,rfl⟩;go_wp2_with fail;go_at_call 40;refine(c1 _).mono ?_;rintro e w2 ⟨rfl,rfl⟩;go_wp2_with fail;go_at_call 40;refine(c2 _).mono ?_;rintro e w2 ⟨rfl,rfl⟩;go_wp2_with fail;go_at_call 40;refine(c3 _).mono ?_;rintro e w2 ⟨rfl,rfl⟩;go_wp2_with fail;go_ret;exact⟨rfl,hW0 _ h1⟩
  ·have p0:0<p.length:=List.length_pos_iff.2 hp0
   have p1:(0:Int)<(p.length:Int):=by omega
   have p2:((p.length:Int)==0)=false:=beq_eq_false_iff_ne.2 (by omega);have hk:p.length-1<p.length:=by omega
   obtain⟨d,p3⟩:∃d,∀hh,p[p.length-1]'hh=d:=⟨p[p.length-1],fun _=>rfl⟩;have p3b:∀hh,p[((p.length:Int)-1).toNat]'hh=d:=fun hh=>by rw[←p3 hk];congr 1;omega
   obtain⟨l,p4⟩:∃l,((d.toNat:Int)==47)=l:=⟨_,rfl⟩;have p5:((p[p.length-1]?.getD 0).toNat==47)=l:=by rw[List.getElem?_eq_getElem hk,p3 hk,←p4,Option.getD_some];rw[Bool.eq_iff_iff,beq_iff_eq,beq_iff_eq];omega
   have p6:IntKind.i64.wrap ((p.length:Int)-1)=(p.length:Int)-1:=IntWalk.i64_in _ (by omega);have p7:(p.length:Int)-1<(p.length:Int):=by omega
   have p8:(0:Int)≤(p.length:Int)-1:=by omega
   have p9:((p.length:Int)-1).toNat=p.length-1:=by omega
   rw[show decide (0<p.length)=true from decide_eq_true p0,Bool.true_and,p5]at c1;rw[mat_short p0]at c4;clear hp0 p0 p5;by_cases hm0:m=[]
   ·have q1:(m==[])=true:=by rw[hm0];rfl
    rw[show m.isEmpty=true by rw[hm0];rfl,Bool.true_or]at c1;clear hm0;go_enter Tryz.func8,Tryz.ntmps8;go_wp2_with fail;go_at_call 38;refine(cv _ hb0).mono ?_;rintro e w1 ⟨rfl,hb1⟩;have h1:=below_next hb0 hb1;clear cv;go_wp2_with fail;go_at_call 15;refine(cb _).mono ?_;rintro e w2 ⟨rfl,rfl⟩;go_wp2_with fail;go_at_call 40;refine(c1 _).mono ?_;rintro e w2 ⟨rfl,rfl⟩;go_wp2_with fail;go_at_call 40;refine(c2 _).mono ?_;rintro e w2 ⟨rfl,rfl⟩;go_wp2_with fail;go_at_call 40;refine(c3 _).mono ?_;rintro e w2 ⟨rfl,rfl⟩;go_wp2_with fail;go_at_call 40;refine(c4 _).mono ?_;rintro e w2 ⟨rfl,rfl⟩;go_wp2_with fail;go_ret;exact⟨rfl,hW0 _ h1⟩
   ·have q1:(m==[])=false:=beq_eq_false_iff_ne.2 hm0
    have q0:0<m.length:=List.length_pos_iff.2 hm0;have q2:(0:Int)<(m.length:Int):=by omega
    obtain⟨f,q3⟩:∃f,∀hh,m[0]'hh=f:=⟨m[0],fun _=>rfl⟩;obtain⟨h,q4⟩:∃h,((f.toNat:Int)==47)=h:=⟨_,rfl⟩;have q5:((m[0]?.getD 0).toNat==47)=h:=by rw[List.getElem?_eq_getElem q0,q3 q0,←q4,Option.getD_some];rw[Bool.eq_iff_iff,beq_iff_eq,beq_iff_eq];omega
    rw[show m.isEmpty=false by rw[←q1];cases m<;>rfl,Bool.false_or,q5]at c1;clear hm0 q0 q5
    cases l<;>cases h
    all_goals
     go_enter Tryz.func8,Tryz.ntmps8;go_wp2_with fail;go_at_call 38;refine(cv _ hb0).mono ?_;rintro e w1 ⟨rfl,hb1⟩;have h1:=below_next hb0 hb1;clear cv;go_wp2_with fail;go_at_call 15;refine(cb _).mono ?_;rintro e w2 ⟨rfl,rfl⟩;go_wp2_with fail;go_at_call 40;refine(c1 _).mono ?_;rintro e w2 ⟨rfl,rfl⟩;go_wp2_with fail;go_at_call 40;refine(c2 _).mono ?_;rintro e w2 ⟨rfl,rfl⟩;go_wp2_with fail;go_at_call 40;refine(c3 _).mono ?_;rintro e w2 ⟨rfl,rfl⟩;go_wp2_with fail;go_at_call 40;refine(c4 _).mono ?_;rintro e w2 ⟨rfl,rfl⟩;go_wp2_with fail;go_ret;exact⟨rfl,hW0 _ h1⟩
end Go.Proofs.YtlcnknlmdaochaaGreatDoor
