/- The walk of hosts.Machine. -/
import Derived.Test.YtlhcfmcbpljbiaaGreatDoorGHF
set_option linter.unusedVariables false
set_option linter.unusedSimpArgs false
set_option maxHeartbeats 16000000
namespace Go.Proofs.YtlhcfmcbpljbiaaGreatDoor
open Go.RowKit
set_option maxRecDepth 100000 in
theorem machine_any (s:List UInt8) (w:World) (hE:Env w) (hs:s.length≤3999999999):
 Calls Tryz.prog 101 #[.string ⟨s.toArray⟩] w fun e w'=>e= .returned (.bool (machineL s))∧Below w.heap.size w w':=by
 have hbw:=Below.refl w.heap.size w
 have cf:=lift_env hE (fun W hEW=>four_any s W hEW hs)
 have cp:=lift_same w (fun W=>(Tryz.strings_HasPrefix ⟨s.toArray⟩ ⟨#[91]⟩ W).mono (R':=fun e W'=>e= .returned (.bool (brL s))∧W=W') fun e W' ⟨he,hw⟩=>⟨he,hw.symm⟩)
 have hm:machineL s=(brL s||((fourL s).1&&decide ((fourL s).2.1=0))):=rfl
 generalize fourL s=r at*
 obtain⟨lk,er,n⟩:=r
 rw[fourV_mk]at cf
 simp only at hm
 cases hb:brL s
 all_goals
  rw[hb]at cp hm
  cases hlk:lk
  all_goals
   rw[hlk]at cf hm;by_cases he:er=0
   all_goals
    have HM:=Lib.hid hm;clear hm hb hlk
    first
     |subst he
     |(have he1:¬(er:Int)=0:=by omega
       have he2:((er:Int)==0)=false:=by rw[beq_eq_false_iff_ne];exact he1)
    go_enter Tryz.func101,Tryz.ntmps101;go_wp2_with fail;go_at_call 157;refine(cf _ (by assumption)).mono ?_;rintro e w1 ⟨rfl,hb1⟩;have hb2:∀o cs,Below w.heap.size w ((w1.alloc o).setRow w1.heap.size cs):=fun o cs=>below_row (hb1.alloc hb1.size o) hb1.size cs
    go_wp2_with(first|(go_at_call 129;refine(cp _ (hb2 _ _)).mono ?_;rintro e w2 ⟨rfl,hb3⟩)|(refine wpList_store_row (o:=⟨none, .store 187 (.tmp 3) (.tmp 9),_,_,_,_⟩) rfl 187 (.tmp 3) _ rfl w1.heap.size _ rfl rfl 187 zeroA (heap_alloc_new w1 _) (by kernel_rfl) rfl (by simp[Value.oneCell']) ?_));go_ret;exact⟨ret_bool (by rw[HM.out];simp[*]),by assumption⟩
theorem own_lit {w:World} {base:Nat} {e:TypeId} {l:List (List UInt8)} (hb:base≤w.heap.size) (hl:l.length≤4000000000):
 (w.alloc (.cells (strs l).toArray e)).ownsRow base e 1 (.slice (some ⟨w.heap.size,0,none⟩) l.length l.length) l.length (strs l):=by
 have h:=World.ownsRow_lit (base:=base) (e:=e) (size:=1) w (strs l).toArray l.length hb (by unfold maxLen;omega) (by simp)
 simpa using h
set_option maxRecDepth 100000 in
theorem labels_any (s:List UInt8) (w:World) (hE:Env w) (hs:s.length≤3999999990):
 Calls Tryz.prog 192 #[.string ⟨s.toArray⟩] w fun e w'=>∃ad,e= .returned (.slice ad (labelsL s).length (labelsL s).length)∧w'.ownsRow w.heap.size 9 1 (.slice ad (labelsL s).length (labelsL s).length) (labelsL s).length (strs (labelsL s))∧Below w.heap.size w w':=by
 have hm:labelsL s=if s=[]then []else if machineL s then [s]else partsL 46 s:=rfl
 by_cases h0:s=[]
 ·rw[if_pos h0]at hm
  have h2:(s==[])=true:=by rw[h0];rfl
  have HM:=Lib.hid hm;clear hm h0;go_enter Tryz.func192,Tryz.ntmps192;go_wp2_with fail;go_ret;exact⟨none,by rw[HM.out];rfl,by rw[HM.out];exact World.ownsRow_nil _ _ _ _,Below.refl _ _⟩
 ·rw[if_neg h0]at hm
  have h2:=beq_ne h0;have cm:=machine_any s w hE (by omega)
  cases hM:machineL s
  all_goals
   rw[hM]at hm cm;clear h0
  ·have hm:labelsL s=partsL 46 s:=hm
   have HM:=Lib.hid hm;clear hm hM;have hpl:=(partsL_le 46 s).2;go_enter Tryz.func192,Tryz.ntmps192;go_wp2_with fail;go_at_call 101;refine cm.mono ?_;rintro e w1 ⟨rfl,hb1⟩;go_wp2_with fail;go_at_call 169;refine(split_any s 46 w1 (hE.below hb1).shaped (by omega)).mono ?_;rintro e w2 ⟨rfl,rfl⟩;go_wp2_with fail;go_ret;exact⟨_,by rw[HM.out];rfl,by rw[HM.out];exact own_lit hb1.size (by omega),hb1.alloc hb1.size _⟩
  ·have hm:labelsL s=[s]:=hm
   have HM:=Lib.hid hm;clear hm hM;go_enter Tryz.func192,Tryz.ntmps192;go_wp2_with fail;go_at_call 101;refine cm.mono ?_;rintro e w1 ⟨rfl,hb1⟩;go_wp2_with fail;go_ret;exact⟨_,by rw[HM.out];rfl,by rw[HM.out];exact own_lit hb1.size (by simp),hb1.alloc hb1.size _⟩
theorem ba_join (a b:List UInt8):(ByteArray.mk a.toArray)++(ByteArray.mk b.toArray)=ByteArray.mk (a++b).toArray:=by
 apply ByteArray.ext;simp
theorem dot_join (b:List UInt8):(ByteArray.mk #[46])++(ByteArray.mk b.toArray)=ByteArray.mk (46::b).toArray:=ba_join [46] b
attribute [local go_sem] dot_join
end Go.Proofs.YtlhcfmcbpljbiaaGreatDoor
