/- The walk of hosts.Machine. -/
import Derived.Test.YtjkipdoebkhkaaaGreatDoorGHF
set_option linter.unusedVariables false
set_option linter.unusedSimpArgs false
set_option maxHeartbeats 16000000
namespace Go.Proofs.YtjkipdoebkhkaaaGreatDoor
open Go.RowKit
set_option maxRecDepth 100000 in
theorem machine_any (s:List UInt8) (w:World) (hE:Env w) (hs:s.length≤3999999999):
 Calls Tryz.prog 28 #[.string ⟨s.toArray⟩] w fun e w'=>e= .returned (.bool (machineL s))∧Below w.heap.size w w':=by
 have hbw:=Below.refl w.heap.size w
 have cf:=lift_env hE (fun W hEW=>four_any s W hEW hs)
 have cp:=lift_same w (fun W=>(Tryz.strings_HasPrefix ⟨s.toArray⟩ ⟨#[91]⟩ W).mono (R':=fun e W'=>e= .returned (.bool (brL s))∧W=W') fun e W' ⟨he,hw⟩=>⟨he,hw.symm⟩)
 have hm:machineL s=(brL s||((fourL s).1&&decide ((fourL s).2.1=0))):=rfl
 generalize fourL s=r at*
 obtain⟨lk,er,n⟩:=r
 rw[fourV_mk]at cf
 simp only at hm
 cases hb:brL s
 all_goals
  rw[hb]at cp hm
  cases hlk:lk
  all_goals
   rw[hlk]at cf hm;by_cases he:er=0
   all_goals
    have HM:=Lib.hid hm;clear hm hb hlk
    first
     |subst he
     |(have he1:¬(er:Int)=0:=by omega
       have he2:((er:Int)==0)=false:=by rw[beq_eq_false_iff_ne];exact he1)
    go_enter Tryz.func28,Tryz.ntmps28;go_wp2_with fail;go_at_call 73;refine(cf _ (by assumption)).mono ?_;rintro e w1 ⟨rfl,hb1⟩;have hb2:∀o cs,Below w.heap.size w ((w1.alloc o).setRow w1.heap.size cs):=fun o cs=>below_row (hb1.alloc hb1.size o) hb1.size cs
    go_wp2_with(first|(go_at_call 69;refine(cp _ (hb2 _ _)).mono ?_;rintro e w2 ⟨rfl,hb3⟩)|(refine wpList_store_row (o:=⟨none, .store 132 (.tmp 3) (.tmp 9),_,_,_,_⟩) rfl 132 (.tmp 3) _ rfl w1.heap.size _ rfl rfl 132 zeroA (heap_alloc_new w1 _) (by kernel_rfl) rfl (by simp[Value.oneCell']) ?_));go_ret;exact⟨ret_bool (by rw[HM.out];simp[*]),by assumption⟩
theorem ba_join (a b:List UInt8):(ByteArray.mk a.toArray)++(ByteArray.mk b.toArray)=ByteArray.mk (a++b).toArray:=by
 apply ByteArray.ext;simp
theorem dot_join (b:List UInt8):(ByteArray.mk #[46])++(ByteArray.mk b.toArray)=ByteArray.mk (46::b).toArray:=ba_join [46] b
attribute [local go_sem] dot_join
def belowL (a b:List UInt8):Bool:=a==b||(!b.isEmpty&&(Lib.hasSuffix a (46::b)&&(!machineL a&& !machineL b)))
set_option maxRecDepth 100000 in
theorem below_any (a b:List UInt8) (w:World) (hE:Env w) (ha:a.length≤3999999990) (hb:b.length≤3999999990):
 Calls Tryz.prog 52 #[.string ⟨a.toArray⟩, .string ⟨b.toArray⟩] w fun e w'=>e= .returned (.bool (belowL a b))∧Below w.heap.size w w':=by
 have hbw:=Below.refl w.heap.size w
 have hm:belowL a b=(a==b||(!b.isEmpty&&(Lib.hasSuffix a (46::b)&&(!machineL a&& !machineL b)))):=rfl
 have cs:=lift_same w (fun W=>(Tryz.strings_HasSuffix ⟨a.toArray⟩ ⟨(46::b).toArray⟩ W (by show a.length≤_;omega)).mono (R':=fun e W'=>e= .returned (.bool (Lib.hasSuffix a (46::b)))∧W=W') fun e W' ⟨he,hw⟩=>⟨he,hw.symm⟩)
 have cm:=fun (x:List UInt8) (hx:x.length≤3999999990)=>lift_env hE (fun W hEW=>machine_any x W hEW (by omega))
 by_cases hab:a=b
 ·have hab1:(a==b)=true:=by rw[beq_iff_eq];exact hab
  rw[hab1]at hm;have HM:=Lib.hid hm;clear hm hab;go_enter Tryz.func52,Tryz.ntmps52;go_wp2_with fail;go_ret;exact⟨ret_bool (by rw[HM.out];rfl),by assumption⟩
 ·have hab1:(a==b)=false:=by rw[beq_eq_false_iff_ne];exact hab
  rw[hab1,Bool.false_or]at hm;by_cases h0:b=[]
  ·have h1:b.isEmpty=true:=by rw[h0];rfl
   have h2:(b==[])=true:=by rw[h0];rfl
   rw[h1]at hm;have HM:=Lib.hid hm;clear hm hab h0;go_enter Tryz.func52,Tryz.ntmps52;go_wp2_with fail;go_ret;exact⟨ret_bool (by rw[HM.out];rfl),by assumption⟩
  ·have h1:=isEmpty_ne h0
   have h2:=beq_ne h0;rw[h1]at hm;have hsum:¬9223372036854775807<1+b.length:=by omega
   clear hab h0
   cases hs:Lib.hasSuffix a (46::b)
   all_goals
    rw[hs]at cs hm;clear hs
    cases hA:machineL a
    all_goals
     rw[hA]at hm
     cases hB:machineL b
     all_goals
      rw[hB]at hm;have HM:=Lib.hid hm;clear hm;go_enter Tryz.func52,Tryz.ntmps52;go_wp2_with(first|(go_at_call 82;refine(cs _ (by assumption)).mono ?_;rintro e w1 ⟨rfl,hb1⟩)|(go_at_call 28;refine(cm _ (by assumption) _ (by assumption)).mono ?_;rintro e w1 ⟨rfl,hb1⟩));go_ret;exact⟨ret_bool (by rw[HM.out];rfl),by assumption⟩
end Go.Proofs.YtjkipdoebkhkaaaGreatDoor
