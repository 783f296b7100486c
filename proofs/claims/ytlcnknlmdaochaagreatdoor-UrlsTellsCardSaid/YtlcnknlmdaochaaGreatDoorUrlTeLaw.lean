/- The law UrlsTells walked. -/
import Derived.Test.YtlcnknlmdaochaaGreatDoorGUrlP
import Derived.Test.YtlcnknlmdaochaaGreatDoorGRU5
import Derived.Test.YtlcnknlmdaochaaGreatDoorGUrlS
set_option linter.unusedVariables false
set_option linter.unusedSimpArgs false
set_option maxHeartbeats 16000000
namespace Go.Proofs.YtlcnknlmdaochaaGreatDoor
open Go.RowKit
open Go.Sort
theorem eq_keys (b:Bool) (h:List UInt8) (p:Int) (w:World):(binOp .eql 29 (.agg #[.bool b, .string ⟨h.toArray⟩, .int .i64 p]) (.agg #[.bool b, .string ⟨h.toArray⟩, .int .i64 p])).run Tryz.prog w= .ok (.bool true) w:=by
 simp[go_sem]
theorem beyond_one (Z:Nat) (w W:World) (ad:Nat) (h:W.cell? ⟨ad,0,none⟩=some (.int .i64 (Z:Int))) (hz:Z≤4611686018427387904):
 Calls Tryz.prog 15 #[.slice (some ⟨ad,0,none⟩) 1 1] W fun e w'=>e= .returned (.bool (decide (1048576<Z)))∧W=w':=by
 have:=beyond_any [Z] W ad (by simp) (fun k hk=>by
  have:k=0:=by simp at hk;exact hk
  subst this;simpa using h) (fun k hk=>by
  have:k=0:=by simp at hk;exact hk
  subst this;simpa using hz)
 rw[show [Z].sum=Z by simp]at this
 exact this
set_option maxRecDepth 100000 in
theorem urltells_law (u:UrlL) (w:World) (hS:SizedU u) (hE:EnvH w):
 Calls Tryz.prog 3 #[urlV u] w fun e w'=>e= .returned (.bool true)∧Below w.heap.size w w':=by
 obtain⟨wa,hwa⟩:∃W,w.alloc (.cells #[.string ⟨u.scheme.toArray⟩, .string ⟨u.user.toArray⟩, .string ⟨u.pass.toArray⟩, .string ⟨u.host.toArray⟩, .int .i64 u.port, .string ⟨u.path.toArray⟩, .string ⟨u.query.toArray⟩, .bool u.hasQ, .string ⟨u.mark.toArray⟩, .bool u.hasM] 23)=W:=⟨_,rfl⟩
 have hba:Below w.heap.size w wa:=by rw[←hwa];exact below_alloc w _
 have hUa:UrlAt w.heap.size u wa:=by rw[←hwa];exact heap_alloc_new w _
 have cz:=fun W=>size_u u W hS
 have hsz:sizeU u≤985162418487296:=by
  unfold sizeU;have:=hS.scheme;have:=hS.user;have:=hS.pass;have:=hS.host;have:=hS.path;have:=hS.query;have:=hS.mark;omega
 have hport:=hS.high
 have ca:=fun (h:sizeU u≤9000) W hW=>check_u u W hW (by omega) hport
 have cra:=fun (h:sizeU u≤9000) W=>rcheck_u u W (by omega) hport
 have ct:=fun (h:sizeU u≤9000) W hW=>text_u u W hW (by omega) hport
 have crt:=fun (h:sizeU u≤9000) W=>rtext_u u W (by omega) hport
 have cp:=portn_u u
 have crp:=rportn_u u
 have cg:=fun (h:sizeU u≤9000) W=>target_u u W (by omega)
 have crg:=fun (h:sizeU u≤9000) W=>rtarget_u u W (by omega)
 have ck:=key_u u
 have crk:=rkey_u u
 have hEa:=hE.below hba
 clear hE hS
 generalize sizeU u=Z at*
 obtain⟨p0,p1,p2,p3,p4,p5,p6,p7,p8,p9⟩:=hUa.cells
 by_cases h0:9000<Z
 ·have h0i:(9000:Int)<(Z:Int):=by omega
  clear ca cra ct crt cp crp cg crg ck crk;unfold urlV at cz⊢;go_enter Tryz.func3,Tryz.ntmps3;go_wp2_with fail;go_at_call 16;refine(cz _).mono ?_;rintro e w1 ⟨rfl,hb1⟩;have hU1:=hUa.on hb1;have hB1:=below_next hba hb1;have hc:(w1.alloc (.cells #[.int .i64 (Z:Int)] 3)).cell? ⟨w1.heap.size,0,none⟩=some (.int .i64 (Z:Int)):=by rw[World.cell?_alloc_at _ _ _ _ rfl];rfl
  have hAl:=below_alloc w1 (.cells #[.int .i64 (Z:Int)] 3);have hU2:=hU1.on hAl;have hB2:=below_next hB1 hAl;clear p0 p1 p2 p3 p4 p5 p6 p7 p8 p9 hUa hba hb1 hU1 hB1 hEa hAl hwa;obtain⟨p0,p1,p2,p3,p4,p5,p6,p7,p8,p9⟩:=hU2.cells;go_wp2_with fail;go_at_call 15;refine(beyond_one Z w1 _ w1.heap.size hc (by omega)).mono ?_;rintro e w3 ⟨rfl,rfl⟩;clear hc;by_cases hd:1048576<Z
  ·rw[decide_eq_true hd]
   go_wp2_with fail;go_ret;exact⟨rfl,hB2⟩
  ·rw[decide_eq_false hd]
   go_wp2_with fail;go_at_call 16;refine(cz _).mono ?_;rintro e w4 ⟨rfl,hb4⟩;go_wp2_with fail;go_ret;exact⟨rfl,below_next hB2 hb4⟩
 ·have h0i:(Z:Int)≤9000:=by omega
  have h1:decide (1048576<Z)=false:=decide_eq_false (by omega);have hZ:Z≤9000:=by omega
  have ca:=ca hZ;have cra:=cra hZ;have ct:=ct hZ;have crt:=crt hZ;have cg:=cg hZ;have crg:=crg hZ;have hKE:∀W,_:=eq_keys (u.scheme==httpsB) u.host (portN u);have hKV:keyV u= .agg #[.bool (u.scheme==httpsB), .string ⟨u.host.toArray⟩, .int .i64 (portN u)]:=rfl;rw[hKV]at ck crk;generalize (u.scheme==httpsB)=kb at*;generalize textU u=T at*;generalize portN u=N at*;generalize targetU u=G at*;generalize checkU u=C at*;clear hKV;unfold urlV at cz ca cra ct crt cp crp cg crg ck crk⊢;go_enter Tryz.func3,Tryz.ntmps3;go_wp2_with fail;go_at_call 16;refine(cz _).mono ?_;rintro e w1 ⟨rfl,hb1⟩;have hU1:=hUa.on hb1;have hB1:=below_next hba hb1;have hE1:=hEa.below hb1;have hc:(w1.alloc (.cells #[.int .i64 (Z:Int)] 3)).cell? ⟨w1.heap.size,0,none⟩=some (.int .i64 (Z:Int)):=by rw[World.cell?_alloc_at _ _ _ _ rfl];rfl
  have hAl:=below_alloc w1 (.cells #[.int .i64 (Z:Int)] 3);have hU2:=hU1.on hAl;have hB2:=below_next hB1 hAl;have hE2:=hE1.below hAl;clear p0 p1 p2 p3 p4 p5 p6 p7 p8 p9 hUa hba hb1 hU1 hB1 hEa hAl hwa hE1;obtain⟨p0,p1,p2,p3,p4,p5,p6,p7,p8,p9⟩:=hU2.cells;go_wp2_with fail;go_at_call 15;refine(beyond_one Z w1 _ w1.heap.size hc (by omega)).mono ?_;rintro e w3 ⟨rfl,rfl⟩;clear hc;rw[h1];go_wp2_with fail;go_at_call 16;refine(cz _).mono ?_;rintro e w4 ⟨rfl,hb4⟩;have hU4:=hU2.on hb4;have hB4:=below_next hB2 hb4;have hE4:=hE2.below hb4;clear p0 p1 p2 p3 p4 p5 p6 p7 p8 p9 hU2 hB2 hE2 hb4 cz;have ka:∀d os,_:=quiet_callU (w1:=w4) (fun W hW=>ca W (hE4.below hW));have kra:∀d os,_:=quiet_callU (w1:=w4) (fun W hW=>cra W);have kt:∀d os,_:=quiet_callU (w1:=w4) (fun W hW=>ct W (hE4.below hW));have krt:∀d os,_:=quiet_callU (w1:=w4) (fun W hW=>crt W);have kp:∀d os,_:=quiet_callU (w1:=w4) (fun W hW=>cp W);have krp:∀d os,_:=quiet_callU (w1:=w4) (fun W hW=>crp W);have kg:∀d os,_:=quiet_callU (w1:=w4) (fun W hW=>cg W);have krg:∀d os,_:=quiet_callU (w1:=w4) (fun W hW=>crg W);have kk:∀d os,_:=quiet_callU (w1:=w4) (fun W hW=>ck W);have krk:∀d os,_:=quiet_callU (w1:=w4) (fun W hW=>crk W);obtain⟨y0,y1,y2,y3,y4,y5,y6,y7,y8,y9⟩:=hU4.cells;have x0:=fun d os=>cell_regrown y0 d os
  have x1:=fun d os=>cell_regrown y1 d os
  have x2:=fun d os=>cell_regrown y2 d os
  have x3:=fun d os=>cell_regrown y3 d os
  have x4:=fun d os=>cell_regrown y4 d os
  have x5:=fun d os=>cell_regrown y5 d os
  have x6:=fun d os=>cell_regrown y6 d os
  have x7:=fun d os=>cell_regrown y7 d os
  have x8:=fun d os=>cell_regrown y8 d os
  have x9:=fun d os=>cell_regrown y9 d os
  have HB:=Lib.hid hB4;clear ca cra ct crt cp crp cg crg ck crk y0 y1 y2 y3 y4 y5 y6 y7 y8 y9 hU4 hB4 hE4;go_upto_region 3 with fail;refine wp_region_quiet_below (by kernel_rfl) (by kernel_rfl) ?_
  repeat(quiet_step (first|with_reducible exact ka _ _|with_reducible exact kra _ _|with_reducible exact kt _ _|with_reducible exact krt _ _|with_reducible exact kp _ _|with_reducible exact krp _ _|with_reducible exact kg _ _|with_reducible exact krg _ _|with_reducible exact kk _ _|with_reducible exact krk _ _))
  refine wpQuiet_nil ?_;intro _ hw';obtain⟨⟨dq,osq⟩,hw''⟩:=hw';subst hw'';have hbr:=below_regrown w4 dq osq;clear ka kra kt krt kp krp kg krg kk krk x0 x1 x2 x3 x4 x5 x6 x7 x8 x9 hKE;generalize grow (redrawn w4 dq) osq=w7 at*;go_wp2_with fail;go_ret;exact⟨rfl,below_next HB.out hbr⟩
end Go.Proofs.YtlcnknlmdaochaaGreatDoor
