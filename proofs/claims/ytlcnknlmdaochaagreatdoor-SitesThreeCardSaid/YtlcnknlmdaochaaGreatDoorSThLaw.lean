/- The law SitesThree walked. -/
import Derived.Test.YtlcnknlmdaochaaGreatDoorGSit2
import Derived.Test.YtlcnknlmdaochaaGreatDoorGUrlP
set_option linter.unusedVariables false
set_option linter.unusedSimpArgs false
set_option maxHeartbeats 16000000
namespace Go.Proofs.YtlcnknlmdaochaaGreatDoor
open Go.RowKit
theorem beyond_three (n m k:Nat) (W:World) (hn:n≤4611686018427387904) (hm:m≤4611686018427387904) (hk:k≤4611686018427387904):
 Calls Tryz.prog 15 #[.slice (some ⟨W.heap.size,0,none⟩) 3 3] (W.alloc (.cells #[.int .i64 (n:Int), .int .i64 (m:Int), .int .i64 (k:Int)] 3)) fun e w'=>e= .returned (.bool (decide (1048576<n+m+k)))∧W.alloc (.cells #[.int .i64 (n:Int), .int .i64 (m:Int), .int .i64 (k:Int)] 3)=w':=by
 have:=beyond_any [n,m,k] (W.alloc (.cells #[.int .i64 (n:Int), .int .i64 (m:Int), .int .i64 (k:Int)] 3)) W.heap.size (by simp) (fun j hj=>by
  match j,hj with
  |0,_=>exact World.cell?_alloc_at _ _ _ 0 rfl
  |1,_=>exact World.cell?_alloc_at _ _ _ 1 rfl
  |2,_=>exact World.cell?_alloc_at _ _ _ 2 rfl) (fun j hj=>by
  match j,hj with
  |0,_=>simpa using hn
  |1,_=>simpa using hm
  |2,_=>simpa using hk)
 rw[show [n,m,k].sum=n+m+k by simp;omega]at this
 exact this
theorem first_byte {s:List UInt8} (h:s≠[]):(s==[])=false∧(0:Int)<(s.length:Int)∧∃c,(∀hh,s[0]'hh=c)∧∃t,((c.toNat:Int) !=47)=t:=by
 have hp:0<s.length:=List.length_pos_iff.2 h;exact⟨beq_eq_false_iff_ne.2 h,by omega,s[0],fun _=>rfl,_,rfl⟩
theorem no_bytes {s:List UInt8} (h:s=[]):(s==[])=true:=by rw[h];rfl
set_option maxRecDepth 100000 in
theorem sthree_law (a b c:List UInt8) (w:World) (hma:a.length≤140737488351232) (hmb:b.length≤140737488351232) (hmc:c.length≤140737488351232) (hE:EnvH w):
 Calls Tryz.prog 7 #[.string ⟨a.toArray⟩, .string ⟨b.toArray⟩, .string ⟨c.toArray⟩] w fun e w'=>e= .returned (.bool true)∧Below w.heap.size w w':=by
 have hb0:=Below.refl w.heap.size w
 have cv:=lift_k w hE (fun W hW=>alive_s W hW)
 have hW0:∀ {W:World} o,Below w.heap.size w W→Below w.heap.size w (W.alloc o):=fun o h=>h.alloc h.size _
 have cb:=fun W=>beyond_three a.length b.length c.length W (by omega) (by omega) (by omega)
 have pab:=fun W=>path_any a b W (by omega)
 have pbc:=fun W=>path_any b c W (by omega)
 have pac:=fun W=>path_any a c W (by omega)
 have ht:matL a b=true→matL b c=true→matL a c=true:=mat_three
 clear hE
 by_cases hb:1048576<a.length+b.length+c.length
 ·rw[decide_eq_true hb]at cb
  clear pab pbc pac ht;go_enter Tryz.func7,Tryz.ntmps7;go_wp2_with fail;go_at_call 38;refine(cv _ hb0).mono ?_;rintro e w1 ⟨rfl,hb1⟩;have h1:=below_next hb0 hb1;go_wp2_with fail;go_at_call 15;refine(cb _).mono ?_;rintro e w2 ⟨rfl,rfl⟩;go_wp2_with fail;go_at_call 38;refine(cv _ (hW0 _ h1)).mono ?_;rintro e w2 ⟨rfl,hb2⟩;go_wp2_with fail;go_ret;exact⟨rfl,below_next (hW0 _ h1) hb2⟩
 ·rw[decide_eq_false hb]at cb
  clear hb;generalize matL a b=x at*;generalize matL b c=y at*;generalize matL a c=z at*;by_cases ha:a=[]
  ·have q1:=no_bytes ha
   clear ha pab pbc pac ht;go_enter Tryz.func7,Tryz.ntmps7;go_wp2_with fail;go_at_call 38;refine(cv _ hb0).mono ?_;rintro e w1 ⟨rfl,hb1⟩;have h1:=below_next hb0 hb1;clear cv;go_wp2_with fail;go_at_call 15;refine(cb _).mono ?_;rintro e w2 ⟨rfl,rfl⟩;go_wp2_with fail;go_ret;exact⟨rfl,hW0 _ h1⟩
  obtain⟨q1,q2,d,q3,t1,q4⟩:=first_byte ha;by_cases hbb:b=[]
  ·have r1:=no_bytes hbb
   clear hbb ha pab pbc pac ht;go_enter Tryz.func7,Tryz.ntmps7;go_wp2_with fail;go_at_call 38;refine(cv _ hb0).mono ?_;rintro e w1 ⟨rfl,hb1⟩;have h1:=below_next hb0 hb1;clear cv;go_wp2_with fail;go_at_call 15;refine(cb _).mono ?_;rintro e w2 ⟨rfl,rfl⟩;go_wp2_with fail;go_ret;exact⟨rfl,hW0 _ h1⟩
  obtain⟨r1,r2,f,r3,t2,r4⟩:=first_byte hbb;by_cases hc:c=[]
  ·have s1:=no_bytes hc
   clear hc hbb ha pab pbc pac ht;go_enter Tryz.func7,Tryz.ntmps7;go_wp2_with fail;go_at_call 38;refine(cv _ hb0).mono ?_;rintro e w1 ⟨rfl,hb1⟩;have h1:=below_next hb0 hb1;clear cv;go_wp2_with fail;go_at_call 15;refine(cb _).mono ?_;rintro e w2 ⟨rfl,rfl⟩;go_wp2_with fail;go_ret;exact⟨rfl,hW0 _ h1⟩
  obtain⟨s1,s2,g,s3,t3,s4⟩:=first_byte hc;clear ha hbb hc
  cases hx:(t1||(t2||t3))with
  |true=>
   clear pab pbc pac ht
   cases t1
   ·cases t2
    ·cases t3
     ·cases hx
     ·clear hx
      go_enter Tryz.func7,Tryz.ntmps7;go_wp2_with fail;go_at_call 38;refine(cv _ hb0).mono ?_;rintro e w1 ⟨rfl,hb1⟩;have h1:=below_next hb0 hb1;clear cv;go_wp2_with fail;go_at_call 15;refine(cb _).mono ?_;rintro e w2 ⟨rfl,rfl⟩;go_wp2_with fail;go_ret;exact⟨rfl,hW0 _ h1⟩
    ·clear hx
     go_enter Tryz.func7,Tryz.ntmps7;go_wp2_with fail;go_at_call 38;refine(cv _ hb0).mono ?_;rintro e w1 ⟨rfl,hb1⟩;have h1:=below_next hb0 hb1;clear cv;go_wp2_with fail;go_at_call 15;refine(cb _).mono ?_;rintro e w2 ⟨rfl,rfl⟩;go_wp2_with fail;go_ret;exact⟨rfl,hW0 _ h1⟩
   ·clear hx
    go_enter Tryz.func7,Tryz.ntmps7;go_wp2_with fail;go_at_call 38;refine(cv _ hb0).mono ?_;rintro e w1 ⟨rfl,hb1⟩;have h1:=below_next hb0 hb1;clear cv;go_wp2_with fail;go_at_call 15;refine(cb _).mono ?_;rintro e w2 ⟨rfl,rfl⟩;go_wp2_with fail;go_ret;exact⟨rfl,hW0 _ h1⟩
  |false=>
   obtain⟨rfl,rfl,rfl⟩:t1=false∧t2=false∧t3=false:=by cases t1<;>cases t2<;>cases t3<;>simp_all
   clear hx
   cases x with
   |false=>
    clear pbc pac ht;go_enter Tryz.func7,Tryz.ntmps7;go_wp2_with fail;go_at_call 38;refine(cv _ hb0).mono ?_;rintro e w1 ⟨rfl,hb1⟩;have h1:=below_next hb0 hb1;clear cv;go_wp2_with fail;go_at_call 15;refine(cb _).mono ?_;rintro e w2 ⟨rfl,rfl⟩;go_wp2_with fail;go_at_call 40;refine(pab _).mono ?_;rintro e w2 ⟨rfl,rfl⟩;go_wp2_with fail;go_ret;exact⟨rfl,hW0 _ h1⟩
   |true=>
    cases y with
    |false=>
     clear pac ht;go_enter Tryz.func7,Tryz.ntmps7;go_wp2_with fail;go_at_call 38;refine(cv _ hb0).mono ?_;rintro e w1 ⟨rfl,hb1⟩;have h1:=below_next hb0 hb1;clear cv;go_wp2_with fail;go_at_call 15;refine(cb _).mono ?_;rintro e w2 ⟨rfl,rfl⟩;go_wp2_with fail;go_at_call 40;refine(pab _).mono ?_;rintro e w2 ⟨rfl,rfl⟩;go_wp2_with fail;go_at_call 40;refine(pbc _).mono ?_;rintro e w2 ⟨rfl,rfl⟩;go_wp2_with fail;go_ret;exact⟨rfl,hW0 _ h1⟩
    |true=>
     rw[ht rfl rfl]at pac;clear ht;go_enter Tryz.func7,Tryz.ntmps7;go_wp2_with fail;go_at_call 38;refine(cv _ hb0).mono ?_;rintro e w1 ⟨rfl,hb1⟩;have h1:=below_next hb0 hb1;clear cv;go_wp2_with fail;go_at_call 15;refine(cb _).mono ?_;rintro e w2 ⟨rfl,rfl⟩;go_wp2_with fail;go_at_call 40;refine(pab _).mono ?_;rintro e w2 ⟨rfl,rfl⟩;go_wp2_with fail;go_at_call 40;refine(pbc _).mono ?_;rintro e w2 ⟨rfl,rfl⟩;go_wp2_with fail;go_at_call 40;refine(pac _).mono ?_;rintro e w2 ⟨rfl,rfl⟩;go_wp2_with fail;go_ret;exact⟨rfl,hW0 _ h1⟩
end Go.Proofs.YtlcnknlmdaochaaGreatDoor
