/- Small laws besides. -/
import Derived.Test.YtlhcfmcbpljbiaaGreatDoorGBel
set_option linter.unusedVariables false
set_option linter.unusedSimpArgs false
set_option maxHeartbeats 16000000
namespace Go.Proofs.YtlhcfmcbpljbiaaGreatDoor
open Go.RowKit Go.Shelf
def Tryz.lays100_ren:Go.Shelf.Ren:=⟨fun|100=>111|207=>160|n=>n,fun|9=>9|4=>4|3=>3|n=>n,fun|n=>n⟩
theorem Tryz.lays100:Go.Proofs.Lays.n100 Tryz.prog Tryz.lays100_ren:=by constructor<;>intros<;>first|kernel_rfl|decide
theorem Tryz.strings_HasSuffix (s p:ByteArray) (w:World) (hs:s.size≤9223372036854775807):
 Calls Tryz.prog 111 #[.string s, .string p] w fun e w'=>e= .returned (.bool (Lib.hasSuffix s.data.toList p.data.toList))∧w'=w:=Any.strings_HasSuffix Tryz.lays100 s p w hs
section
def partsA (c:UInt8) (cur rest:List UInt8):List (List UInt8):=(cur++(partsL c rest).headD [])::(partsL c rest).tail
theorem partsA_nil (c:UInt8) (s:List UInt8):partsA c [] s=partsL c s:=by
 unfold partsA
 cases h:partsL c s with
 |nil=>exact absurd h (partsL_ne c s)
 |cons a l=>rfl
theorem partsA_hit {c:UInt8} {cur s:List UInt8}:partsA c cur (c::s)=cur::partsL c s:=by
 unfold partsA;rw[partsL_hit];simp
theorem partsA_miss {c x:UInt8} {cur s:List UInt8} (h:x≠c):partsA c cur (x::s)=partsA c (cur++[x]) s:=by
 unfold partsA;rw[partsL_miss h];simp
theorem partsA_end {c:UInt8} {cur:List UInt8}:partsA c cur []=[cur]:=by unfold partsA;simp[partsL]
end
section
open Go.RowKit
theorem hexI_bd (c:Nat): -1≤hexI c∧hexI c≤15:=by unfold hexI;split<;>(try split)<;>(try split)<;>omega
end
section
open Go.RowKit
theorem cur_snoc {s:List UInt8} {f k:Nat} (hf:f≤k) (hk:k<s.length):cur s f (k+1)=cur s f k++[s[k]]:=by
 unfold cur;rw[show k+1-f=(k-f)+1 by omega,List.take_succ_eq_append_getElem (by simp;omega)];simp only[List.getElem_drop];congr 3;omega
theorem cur_nil (s:List UInt8) (k:Nat):cur s k k=[]:=by unfold cur;simp
theorem cur_len (s:List UInt8) (f k:Nat):(cur s f k).length≤s.length:=by unfold cur;simp;omega
def PartsAt (c:UInt8) (s:List UInt8) (done:List (List UInt8)) (f k:Nat):Prop:=
 f≤k∧done.length≤k∧((k≤s.length∧partsL c s=done++partsA c (cur s f k) (s.drop k))∨(k=s.length+1∧partsL c s=done))
theorem parts_start (c:UInt8) (s:List UInt8):PartsAt c s [] 0 0:=⟨Nat.le_refl _,Nat.zero_le _, .inl ⟨Nat.zero_le _,by rw[cur_nil,partsA_nil];simp⟩⟩
theorem parts_hit {c:UInt8} {s:List UInt8} {done:List (List UInt8)} {f k:Nat} (h:PartsAt c s done f k) (hk:k<s.length) (hc:s[k]=c):PartsAt c s (done++[cur s f k]) (k+1) (k+1):=by
 obtain⟨h1,h2,h3⟩:=h;rcases h3 with ⟨_,h3⟩|⟨h3,_⟩
 ·refine⟨Nat.le_refl _,by simp;omega, .inl ⟨hk, ?_⟩⟩
  rw[List.drop_eq_getElem_cons hk,hc,partsA_hit]at h3;rw[h3,cur_nil,partsA_nil];simp
 ·omega
theorem parts_miss {c:UInt8} {s:List UInt8} {done:List (List UInt8)} {f k:Nat} (h:PartsAt c s done f k) (hk:k<s.length) (hc:s[k]≠c):PartsAt c s done f (k+1):=by
 obtain⟨h1,h2,h3⟩:=h;rcases h3 with ⟨_,h3⟩|⟨h3,_⟩
 ·refine⟨by omega,by omega, .inl ⟨hk, ?_⟩⟩
  rw[List.drop_eq_getElem_cons hk,partsA_miss hc]at h3;rw[h3,cur_snoc h1 hk]
 ·omega
theorem parts_last {c:UInt8} {s:List UInt8} {done:List (List UInt8)} {f:Nat} (h:PartsAt c s done f s.length):PartsAt c s (done++[cur s f s.length]) (s.length+1) (s.length+1):=by
 obtain⟨h1,h2,h3⟩:=h;rcases h3 with ⟨_,h3⟩|⟨h3,_⟩
 ·refine⟨Nat.le_refl _,by simp;omega, .inr ⟨rfl, ?_⟩⟩
  rw[List.drop_length,partsA_end]at h3;exact h3
 ·omega
theorem parts_done {c:UInt8} {s:List UInt8} {done:List (List UInt8)} {f:Nat} (h:PartsAt c s done f (s.length+1)):partsL c s=done:=by
 obtain⟨h1,h2,h3⟩:=h;rcases h3 with ⟨h3,_⟩|⟨_,h3⟩
 ·omega
 ·exact h3
end
section
open Go.RowKit
attribute [local go_sem] dot_join
def belowL (a b:List UInt8):Bool:=a==b||(!b.isEmpty&&(Lib.hasSuffix a (46::b)&&(!machineL a&& !machineL b)))
set_option maxRecDepth 100000 in
theorem below_any (a b:List UInt8) (w:World) (hE:Env w) (ha:a.length≤3999999990) (hb:b.length≤3999999990):
 Calls Tryz.prog 63 #[.string ⟨a.toArray⟩, .string ⟨b.toArray⟩] w fun e w'=>e= .returned (.bool (belowL a b))∧Below w.heap.size w w':=by
 have hbw:=Below.refl w.heap.size w
 have hm:belowL a b=(a==b||(!b.isEmpty&&(Lib.hasSuffix a (46::b)&&(!machineL a&& !machineL b)))):=rfl
 have cs:=lift_same w (fun W=>(Tryz.strings_HasSuffix ⟨a.toArray⟩ ⟨(46::b).toArray⟩ W (by show a.length≤_;omega)).mono (R':=fun e W'=>e= .returned (.bool (Lib.hasSuffix a (46::b)))∧W=W') fun e W' ⟨he,hw⟩=>⟨he,hw.symm⟩)
 have cm:=fun (x:List UInt8) (hx:x.length≤3999999990)=>lift_env hE (fun W hEW=>machine_any x W hEW (by omega))
 by_cases hab:a=b
 ·have hab1:(a==b)=true:=by rw[beq_iff_eq];exact hab
  rw[hab1]at hm;have HM:=Lib.hid hm;clear hm hab;go_enter Tryz.func63,Tryz.ntmps63;go_wp2_with fail;go_ret;exact⟨ret_bool (by rw[HM.out];rfl),by assumption⟩
 ·have hab1:(a==b)=false:=by rw[beq_eq_false_iff_ne];exact hab
  rw[hab1,Bool.false_or]at hm;by_cases h0:b=[]
  ·have h1:b.isEmpty=true:=by rw[h0];rfl
   have h2:(b==[])=true:=by rw[h0];rfl
   rw[h1]at hm;have HM:=Lib.hid hm;clear hm hab h0;go_enter Tryz.func63,Tryz.ntmps63;go_wp2_with fail;go_ret;exact⟨ret_bool (by rw[HM.out];rfl),by assumption⟩
  ·have h1:=isEmpty_ne h0
   have h2:=beq_ne h0;rw[h1]at hm;have hsum:¬9223372036854775807<1+b.length:=by omega
   clear hab h0
   cases hs:Lib.hasSuffix a (46::b)
   all_goals
    rw[hs]at cs hm;clear hs
    cases hA:machineL a
    all_goals
     rw[hA]at hm
     cases hB:machineL b
     all_goals
      rw[hB]at hm;have HM:=Lib.hid hm;clear hm;go_enter Tryz.func63,Tryz.ntmps63;go_wp2_with(first|(go_at_call 111;refine(cs _ (by assumption)).mono ?_;rintro e w1 ⟨rfl,hb1⟩)|(go_at_call 101;refine(cm _ (by assumption) _ (by assumption)).mono ?_;rintro e w1 ⟨rfl,hb1⟩));go_ret;exact⟨ret_bool (by rw[HM.out];rfl),by assumption⟩
end
end Go.Proofs.YtlhcfmcbpljbiaaGreatDoor
