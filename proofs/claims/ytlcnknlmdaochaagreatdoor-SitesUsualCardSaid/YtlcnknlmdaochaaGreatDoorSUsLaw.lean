/- The law SitesUsual walked. -/
import Derived.Test.YtlcnknlmdaochaaGreatDoorGSit2
import Derived.Test.YtlcnknlmdaochaaGreatDoorGUrlP
set_option linter.unusedVariables false
set_option linter.unusedSimpArgs false
set_option maxHeartbeats 16000000
namespace Go.Proofs.YtlcnknlmdaochaaGreatDoor
open Go.RowKit
theorem beyond_one (n:Nat) (W:World) (hn:n≤4611686018427387904):
 Calls Tryz.prog 15 #[.slice (some ⟨W.heap.size,0,none⟩) 1 1] (W.alloc (.cells #[.int .i64 (n:Int)] 3)) fun e w'=>e= .returned (.bool (decide (1048576<n)))∧W.alloc (.cells #[.int .i64 (n:Int)] 3)=w':=by
 have:=beyond_any [n] (W.alloc (.cells #[.int .i64 (n:Int)] 3)) W.heap.size (by simp) (fun k hk=>by
  match k,hk with
  |0,_=>exact World.cell?_alloc_at _ _ _ 0 rfl) (fun k hk=>by
  match k,hk with
  |0,_=>simpa using hn)
 rw[show [n].sum=n by simp]at this
 exact this
set_option maxRecDepth 100000 in
theorem susual_law (s:List UInt8) (w:World) (hm:s.length≤140737488351232) (hE:EnvH w):
 Calls Tryz.prog 6 #[.string ⟨s.toArray⟩] w fun e w'=>e= .returned (.bool true)∧Below w.heap.size w w':=by
 have hb0:=Below.refl w.heap.size w
 have cv:=lift_k w hE (fun W hW=>alive_s W hW)
 have hW0:∀ {W:World} o,Below w.heap.size w W→Below w.heap.size w (W.alloc o):=fun o h=>h.alloc h.size _
 have cb:=fun W=>beyond_one s.length W (by omega)
 clear hE
 by_cases hb:1048576<s.length
 ·rw[decide_eq_true hb]at cb
  go_enter Tryz.func6,Tryz.ntmps6;go_wp2_with fail;go_at_call 38;refine(cv _ hb0).mono ?_;rintro e w1 ⟨rfl,hb1⟩;have h1:=below_next hb0 hb1;go_wp2_with fail;go_at_call 15;refine(cb _).mono ?_;rintro e w2 ⟨rfl,rfl⟩;go_wp2_with fail;go_at_call 38;refine(cv _ (hW0 _ h1)).mono ?_;rintro e w2 ⟨rfl,hb2⟩;go_wp2_with fail;go_ret;exact⟨rfl,below_next (hW0 _ h1) hb2⟩
 ·rw[decide_eq_false hb]at cb
  obtain⟨⟨r,hr⟩,hl⟩:=usual_good s;have cu:=fun W=>usual_any s W (by omega)
  have m1:(s[0]?.getD 0).toNat=47→matL s (usualL s)=true∧matL s [47]=true:=usual_mat;have ms:=mat_self s;have pc:=fun (c:List UInt8) (hc:c.length≤2000000) W=>path_any s c W (by omega)
  have hu1:(usualL s==[])=false:=by rw[hr];rfl
  have hu2:∀hh,(usualL s)[0]'hh=47:=by rw[hr];intro hh;rfl
  have hu3:(0:Int)<((usualL s).length:Int):=by rw[hr,List.length_cons];omega
  have p1:=pc (usualL s) (by omega);have p2:=pc s (by omega);have p3:=pc [47] (by decide);have hlm:((usualL s).length:Int)≤max (s.length:Int) 1:=by omega
  clear hr pc;generalize usualL s=u at*;by_cases h0:s=[]
  ·have q0:(s==[])=true:=by rw[h0];rfl
   have q1:(1:Int)>(s.length:Int):=by rw[h0];decide
   have q2:¬(1:Int)<(u.length:Int):=by omega
   clear h0 p1 p2 p3 m1 ms hlm hl;go_enter Tryz.func6,Tryz.ntmps6;go_wp2_with fail;go_at_call 38;refine(cv _ hb0).mono ?_;rintro e w1 ⟨rfl,hb1⟩;have h1:=below_next hb0 hb1;clear cv;go_wp2_with fail;go_at_call 15;refine(cb _).mono ?_;rintro e w2 ⟨rfl,rfl⟩;go_wp2_with(go_at_call 39;refine(cu _).mono ?_;rintro e w2 ⟨rfl,rfl⟩);go_ret;exact⟨rfl,hW0 _ h1⟩
  ·have q0:(s==[])=false:=beq_eq_false_iff_ne.2 h0
   have hpos:0<s.length:=List.length_pos_iff.2 h0;have q1:¬(1:Int)>(s.length:Int):=by omega
   have q2:¬(s.length:Int)<(u.length:Int):=by omega
   have hpi:(0:Int)<(s.length:Int):=by omega
   obtain⟨c,hc⟩:∃c,∀hh,s[0]'hh=c:=⟨s[0],fun _=>rfl⟩;have hg:(s[0]?.getD 0).toNat=c.toNat:=by rw[List.getElem?_eq_getElem hpos,hc hpos];rfl
   rw[hg]at m1;clear h0 hg hlm hl;by_cases h47:c.toNat=47
   ·have t1:((c.toNat:Int) !=47)=false:=by rw[h47];rfl
    obtain⟨ma,mb⟩:=m1 h47;rw[ma]at p1;rw[ms]at p2;rw[mb]at p3;clear m1 ma mb ms h47;go_enter Tryz.func6,Tryz.ntmps6;go_wp2_with fail;go_at_call 38;refine(cv _ hb0).mono ?_;rintro e w1 ⟨rfl,hb1⟩;have h1:=below_next hb0 hb1;clear cv;go_wp2_with fail;go_at_call 15;refine(cb _).mono ?_;rintro e w2 ⟨rfl,rfl⟩;go_wp2_with fail;go_at_call 39;refine(cu _).mono ?_;rintro e w2 ⟨rfl,rfl⟩;go_wp2_with fail;go_at_call 40;refine(p1 _).mono ?_;rintro e w2 ⟨rfl,rfl⟩;go_wp2_with fail;go_at_call 40;refine(p2 _).mono ?_;rintro e w2 ⟨rfl,rfl⟩;go_wp2_with fail;go_at_call 40;refine(p3 _).mono ?_;rintro e w2 ⟨rfl,rfl⟩;go_wp2_with fail;go_ret;exact⟨rfl,hW0 _ h1⟩
   ·have t1:((c.toNat:Int) !=47)=true:=by simp;omega
    clear m1 ms p1 p2 p3 h47;go_enter Tryz.func6,Tryz.ntmps6;go_wp2_with fail;go_at_call 38;refine(cv _ hb0).mono ?_;rintro e w1 ⟨rfl,hb1⟩;have h1:=below_next hb0 hb1;clear cv;go_wp2_with fail;go_at_call 15;refine(cb _).mono ?_;rintro e w2 ⟨rfl,rfl⟩;go_wp2_with(go_at_call 39;refine(cu _).mono ?_;rintro e w2 ⟨rfl,rfl⟩);go_ret;exact⟨rfl,hW0 _ h1⟩
end Go.Proofs.YtlcnknlmdaochaaGreatDoor
