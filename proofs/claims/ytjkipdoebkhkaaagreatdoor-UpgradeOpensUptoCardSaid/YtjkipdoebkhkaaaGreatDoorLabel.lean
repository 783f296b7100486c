/- The walks of puny.Label and the reference's Label. -/
import Derived.Test.YtjkipdoebkhkaaaGreatDoorGFmt
import Derived.Test.YtjkipdoebkhkaaaGreatDoorGDec
set_option linter.unusedVariables false
set_option linter.unusedSimpArgs false
set_option maxHeartbeats 16000000
namespace Go.Proofs.YtjkipdoebkhkaaaGreatDoor
open Go.RowKit
attribute [local go_sem] few_append
theorem cut_any (u:List UInt8) (w:World):
 Calls Tryz.prog 143 #[.string ⟨u.toArray⟩, .string ⟨#[120,110,45,45]⟩] w fun e w'=>e= .returned (.tuple #[.string ⟨(if fewL u then u.drop 4 else u).toArray⟩, .bool (fewL u)])∧w=w':=by
 refine(Tryz.strings_CutPrefix ⟨u.toArray⟩ ⟨#[120,110,45,45]⟩ w).mono ?_
 rintro e w' ⟨rfl,rfl⟩
 have hp:Lib.hasPrefix u [120,110,45,45]=fewL u:=by
  unfold Lib.hasPrefix fewL;rw[Bool.eq_iff_iff,List.isPrefixOf_iff_prefix,List.prefix_iff_eq_take,beq_iff_eq];exact⟨fun h=>h.symm,fun h=>h.symm⟩
 refine⟨?_,rfl⟩
 simp only[Lib.trimPrefix,hp]
 rfl
theorem lift_tabs {f:FuncId} {args:Array Value} {v:Value} (w:World) (hT:Lib.Utf8Tabs (validRen.g 3) (validRen.g 4) w) (h:∀W,Lib.Utf8Tabs (validRen.g 3) (validRen.g 4) W→Calls Tryz.prog f args W fun e W'=>e= .returned v∧Below W.heap.size W W'):∀W,Below w.heap.size w W→Calls Tryz.prog f args W fun e W'=>e= .returned v∧Below w.heap.size w W':=fun W hW=>
 (h W (Utf8Tabs_below hT hW)).mono fun e W' ⟨he,hb⟩=>⟨he,hW.trans (hb.mono hW.size)⟩
set_option maxRecDepth 100000 in
theorem label_any (s:List UInt8) (w:World) (hs:s.length≤65536) (hT:Lib.Utf8Tabs (validRen.g 3) (validRen.g 4) w):
 Calls Tryz.prog 230 #[.string ⟨s.toArray⟩] w fun e w'=>e= .returned (encV (labelL s))∧Below w.heap.size w w':=by
 by_cases h0:s=[]
 ·subst h0
  go_enter Tryz.func230,Tryz.ntmps230;go_wp2_with fail;go_ret2;exact⟨rfl,Below.refl _ _⟩
 have hfl:fewB.length=4:=rfl
 have cv:=valid_any s w (by omega) hT
 cases hv:Lib.validD s with
 |false=>
  have hL:labelL s=([],5):=by unfold labelL;rw[if_pos (.inr hv)]
  rw[hv]at cv;rw[hL];clear hv hL;go_enter Tryz.func230,Tryz.ntmps230;go_wp2_with(go_at_call 267;refine cv.mono ?_;rintro e w1 ⟨rfl,hb1⟩);go_ret2;exact⟨rfl,hb1⟩
 |true=>
  rw[hv]at cv;have hL:labelL s=if plainL (lowerL s)=false then (if (encodeL (lowerL s)).2≠0 then ([],5)else finL (fewB++(encodeL (lowerL s)).1))
   else if fewL (lowerL s)then
    (if (decode ((lowerL s).drop 4)).2≠0∨plainL (decode ((lowerL s).drop 4)).1 then ([],5)
    else if (encodeL (decode ((lowerL s).drop 4)).1).1≠(lowerL s).drop 4 then ([],5)else finL (lowerL s))
   else finL (lowerL s):=by
   conv=>lhs;unfold labelL
   rw[if_neg (by rintro(h|h);exact h0 h;rw[hv]at h;cases h)]
  have hul:(lowerL s).length=s.length:=by simp[lowerL]
  have cl:=lift_below w (fun W=>lower_any s W (by omega));generalize lowerL s=u at*;have ccut:=lift_same w (fun W=>cut_any u W);have cp:=lift_below w (fun W=>plain_any u W (by omega));have hse:s.isEmpty=false:=by cases s with|nil=>exact absurd rfl h0|cons a l=>rfl
  cases hp:plainL u with
  |false=>
   rw[hp]at cp;rw[if_pos hp]at hL;have ce:=lift_tabs w hT (fun W hTW=>encode_any u W (.inl (by omega)) (by omega) hTW);have hll:=encodeL_len (s:=u) (by omega);obtain⟨r,hr⟩:∃r,encodeL u=r:=⟨_,rfl⟩;rw[hr]at ce hL hll;obtain⟨l,e⟩:=r;simp only[encV]at ce hL hll⊢;clear hr hp hv h0;have hLH:=Lib.hid hL;clear hL;by_cases he:e=0
   ·subst he
    cases hf:fewL u
    all_goals
     rw[hf]at ccut;go_enter Tryz.func230,Tryz.ntmps230;go_wp2_with(first|(go_at_call 267;refine cv.mono ?_;rintro e w1 ⟨rfl,hb1⟩)|(go_at_call 102;refine(cl _ (by assumption)).mono ?_;rintro e w1 ⟨rfl,hb1⟩)|(go_at_call 143;refine(ccut _ (by assumption)).mono ?_;rintro e w1 ⟨rfl,hb1⟩)|(go_at_call 268;refine(cp _ (by assumption)).mono ?_;rintro e w1 ⟨rfl,hb1⟩)|(go_at_call 270;refine(ce _ (by assumption)).mono ?_;rintro e w1 ⟨rfl,hb1⟩))
    all_goals
     go_ret2;refine⟨?_,by assumption⟩;rw[hLH.out,if_neg (by simp)]
     first
      |(rw[finL_big (by rw[List.length_append];omega)];rfl)
      |(rw[finL_ok (by rw[List.length_append];omega)];rfl)
   ·have hez:¬((e:Int)=0):=by omega
    cases hf:fewL u
    all_goals
     rw[hf]at ccut;go_enter Tryz.func230,Tryz.ntmps230;go_wp2_with(first|(go_at_call 267;refine cv.mono ?_;rintro e w1 ⟨rfl,hb1⟩)|(go_at_call 102;refine(cl _ (by assumption)).mono ?_;rintro e w1 ⟨rfl,hb1⟩)|(go_at_call 143;refine(ccut _ (by assumption)).mono ?_;rintro e w1 ⟨rfl,hb1⟩)|(go_at_call 268;refine(cp _ (by assumption)).mono ?_;rintro e w1 ⟨rfl,hb1⟩)|(go_at_call 270;refine(ce _ (by assumption)).mono ?_;rintro e w1 ⟨rfl,hb1⟩))
    all_goals
     go_ret2;refine⟨?_,by assumption⟩;rw[hLH.out,if_pos he];rfl
  |true=>
   rw[hp]at cp;rw[if_neg (by rw[hp];simp)]at hL;clear hv h0
   cases hf:fewL u with
   |false=>
    rw[hf]at ccut hL;have hLH:=Lib.hid hL;clear hL hp hf;go_enter Tryz.func230,Tryz.ntmps230;go_wp2_with(first|(go_at_call 267;refine cv.mono ?_;rintro e w1 ⟨rfl,hb1⟩)|(go_at_call 102;refine(cl _ (by assumption)).mono ?_;rintro e w1 ⟨rfl,hb1⟩)|(go_at_call 143;refine(ccut _ (by assumption)).mono ?_;rintro e w1 ⟨rfl,hb1⟩)|(go_at_call 268;refine(cp _ (by assumption)).mono ?_;rintro e w1 ⟨rfl,hb1⟩))
    all_goals
     go_ret2;refine⟨?_,by assumption⟩;rw[hLH.out,if_neg (by simp)]
     first
      |(rw[finL_big (by omega)];rfl)
      |(rw[finL_ok (by omega)];rfl)
   |true=>
    rw[hf]at ccut hL;rw[if_pos rfl]at hL;simp only[if_true]at ccut;have hfw:=Lib.hid (few_whole hf);have hdl:=decode_len (u.drop 4);have hdn:u.drop 4=[]→(decode (u.drop 4)).1=[]:=fun h=>by rw[h,decode_nil]
    have h4:(u.drop 4).length≤65536:=by simp;omega
    have cd:=lift_below w (fun W=>decode_any (u.drop 4) W (by omega));generalize hb:u.drop 4=bare at*;obtain⟨r,hr⟩:∃r,decode bare=r:=⟨_,rfl⟩;rw[hr]at cd hL hdl hdn;obtain⟨t,e⟩:=r;simp only[resV]at cd hL hdl hdn;have cpx:∀(x:List UInt8),x.length≤262144→∀W,Below w.heap.size w W→Calls Tryz.prog 268 #[.string ⟨x.toArray⟩] W fun e W'=>e= .returned (.bool (plainL x))∧Below w.heap.size w W':=fun x hx=>lift_below w (fun W=>plain_any x W (by omega))
    have htl:t.length≤262144:=by omega
    have hul2:u.length≤262144:=by omega
    clear hr hf cp;clear hb;by_cases he:e=0
    ·subst he
     cases hpt:plainL t with
     |true=>
      have hLH:Hid (labelL s=([],5)):=by show _=_;rw[hL,if_pos (.inr hpt)]
      clear hL;go_enter Tryz.func230,Tryz.ntmps230;go_wp2_with(first|(go_at_call 267;refine cv.mono ?_;rintro e w1 ⟨rfl,hb1⟩)|(go_at_call 102;refine(cl _ (by assumption)).mono ?_;rintro e w1 ⟨rfl,hb1⟩)|(go_at_call 143;refine(ccut _ (by assumption)).mono ?_;rintro e w1 ⟨rfl,hb1⟩)|(go_at_call 268;refine(cpx _ (by omega) _ (by assumption)).mono ?_;rintro e w1 ⟨rfl,hb1⟩)|(go_at_call 269;refine(cd _ (by assumption)).mono ?_;rintro e w1 ⟨rfl,hb1⟩))
      all_goals
       go_ret2;refine⟨?_,by assumption⟩;rw[hLH.out];rfl
     |false=>
      rw[if_neg (by rw[hpt];simp)]at hL;have hte:bare≠[]:=fun h=>by rw[hdn h]at hpt;simp[plainL]at hpt
      have ce:=lift_tabs w hT (fun W hTW=>encode_any t W (by omega) (by omega) hTW);have hll:=encodeL_len (s:=t) (by omega);have herr:= @encodeL_err t;obtain⟨r,hr⟩:∃r,encodeL t=r:=⟨_,rfl⟩;rw[hr]at ce hL hll herr;obtain⟨l,e⟩:=r;simp only[encV]at ce hL hll herr⊢;clear hr;by_cases he:e=0
      ·subst he
       by_cases hlb:l=bare
       ·have hLH:Hid (labelL s=finL u):=by show _=_;rw[hL,if_neg (by rw[hlb];simp)]
        have hcmp:(fewB++l==u)=true:=by rw[beq_iff_eq,hlb];exact hfw.out.symm
        clear hL herr hdn hte;have hlbH:=Lib.hid hlb;clear hlb;go_enter Tryz.func230,Tryz.ntmps230;go_wp2_with(first|(go_at_call 267;refine cv.mono ?_;rintro e w1 ⟨rfl,hb1⟩)|(go_at_call 102;refine(cl _ (by assumption)).mono ?_;rintro e w1 ⟨rfl,hb1⟩)|(go_at_call 143;refine(ccut _ (by assumption)).mono ?_;rintro e w1 ⟨rfl,hb1⟩)|(go_at_call 268;refine(cpx _ (by omega) _ (by assumption)).mono ?_;rintro e w1 ⟨rfl,hb1⟩)|(go_at_call 269;refine(cd _ (by assumption)).mono ?_;rintro e w1 ⟨rfl,hb1⟩)|(go_at_call 270;refine(ce _ (by assumption)).mono ?_;rintro e w1 ⟨rfl,hb1⟩))
        all_goals
         go_ret2;refine⟨?_,by assumption⟩;have hu2:fewB++l=u:=by rw[hlbH.out];exact hfw.out.symm
         have hu3:=congrArg List.length hu2;rw[List.length_append]at hu3;rw[hLH.out]
         first
          |(rw[finL_big (by omega)];rfl)
          |(rw[finL_ok (by omega),←hu2];rfl)
       ·have hLH:Hid (labelL s=([],5)):=by show _=_;rw[hL,if_pos hlb]
        have hcmp:(fewB++l==u)=false:=by
         rw[beq_eq_false_iff_ne];intro h;rw[hfw.out]at h;exact hlb (List.append_cancel_left h)
        clear hL herr hdn hte hlb;go_enter Tryz.func230,Tryz.ntmps230;go_wp2_with(first|(go_at_call 267;refine cv.mono ?_;rintro e w1 ⟨rfl,hb1⟩)|(go_at_call 102;refine(cl _ (by assumption)).mono ?_;rintro e w1 ⟨rfl,hb1⟩)|(go_at_call 143;refine(ccut _ (by assumption)).mono ?_;rintro e w1 ⟨rfl,hb1⟩)|(go_at_call 268;refine(cpx _ (by omega) _ (by assumption)).mono ?_;rintro e w1 ⟨rfl,hb1⟩)|(go_at_call 269;refine(cd _ (by assumption)).mono ?_;rintro e w1 ⟨rfl,hb1⟩)|(go_at_call 270;refine(ce _ (by assumption)).mono ?_;rintro e w1 ⟨rfl,hb1⟩))
        all_goals
         go_ret2;refine⟨?_,by assumption⟩;rw[hLH.out];rfl
      ·have hez:¬((e:Int)=0):=by omega
       have hLH:Hid (labelL s=([],5)):=by show _=_;rw[hL,if_pos (by rw[herr he];exact fun h=>hte h.symm)]
       clear hL herr;go_enter Tryz.func230,Tryz.ntmps230;go_wp2_with(first|(go_at_call 267;refine cv.mono ?_;rintro e w1 ⟨rfl,hb1⟩)|(go_at_call 102;refine(cl _ (by assumption)).mono ?_;rintro e w1 ⟨rfl,hb1⟩)|(go_at_call 143;refine(ccut _ (by assumption)).mono ?_;rintro e w1 ⟨rfl,hb1⟩)|(go_at_call 268;refine(cpx _ (by omega) _ (by assumption)).mono ?_;rintro e w1 ⟨rfl,hb1⟩)|(go_at_call 269;refine(cd _ (by assumption)).mono ?_;rintro e w1 ⟨rfl,hb1⟩)|(go_at_call 270;refine(ce _ (by assumption)).mono ?_;rintro e w1 ⟨rfl,hb1⟩))
       all_goals
        go_ret2;refine⟨?_,by assumption⟩;rw[hLH.out];rfl
    ·have hez:¬((e:Int)=0):=by omega
     have hLH:Hid (labelL s=([],5)):=by show _=_;rw[hL,if_pos (.inl he)]
     clear hL;go_enter Tryz.func230,Tryz.ntmps230;go_wp2_with(first|(go_at_call 267;refine cv.mono ?_;rintro e w1 ⟨rfl,hb1⟩)|(go_at_call 102;refine(cl _ (by assumption)).mono ?_;rintro e w1 ⟨rfl,hb1⟩)|(go_at_call 143;refine(ccut _ (by assumption)).mono ?_;rintro e w1 ⟨rfl,hb1⟩)|(go_at_call 268;refine(cpx _ (by omega) _ (by assumption)).mono ?_;rintro e w1 ⟨rfl,hb1⟩)|(go_at_call 269;refine(cd _ (by assumption)).mono ?_;rintro e w1 ⟨rfl,hb1⟩))
     all_goals
      go_ret2;refine⟨?_,by assumption⟩;rw[hLH.out];rfl
end Go.Proofs.YtjkipdoebkhkaaaGreatDoor
