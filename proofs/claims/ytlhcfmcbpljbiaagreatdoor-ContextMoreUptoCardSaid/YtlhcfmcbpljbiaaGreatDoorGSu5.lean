/- The walk of footmanlaw01.TextsSize. -/
import Derived.Test.YtlhcfmcbpljbiaaGreatDoorGTxt
set_option linter.unusedVariables false
set_option linter.unusedSimpArgs false
set_option maxHeartbeats 16000000
namespace Go.Proofs.YtlhcfmcbpljbiaaGreatDoor
open Go.RowKit
set_option maxRecDepth 100000 in
theorem texts_size_any (L:List (List UInt8)) (v:Value) (w:World) (h:Txt w v L) (hl:L.length≤140737488351232) (hs:∀p∈L,p.length≤140737488351232):
 Calls Tryz.prog 9 #[v] w fun e w'=>e= .returned (.int .i64 (textsN L:Int))∧w'=w:=by
 have hm:textsN L=sizeF L.length (L.drop 0):=rfl
 have HM:=Lib.hid hm
 rcases h with ⟨rfl,rfl⟩|⟨a,c,rfl,hc,hab,hcell⟩
 ·clear hm
  go_enter Tryz.func9,Tryz.ntmps9;go_wp2_with fail;go_loop [3,4] (fun n i=>n= .int .i64 0∧i= .int .i64 0) (fun _ _=>0)
  case atStart=>exact⟨rfl,rfl⟩
  case round=>
   obtain⟨rfl,rfl⟩:=hrel;go_wp2_with fail;go_ret;exact⟨rfl,rfl⟩
 ·have HC:=Lib.hid hcell
  have HS:=Lib.hid hs;clear hcell hm hs;go_enter Tryz.func9,Tryz.ntmps9;go_wp2_with fail;go_loop [3,4] (fun n i=>∃k m:Nat,k≤L.length∧i= .int .i64 k∧n= .int .i64 m∧m≤281474976710656∧Hid (textsN L=sizeF m (L.drop k))) (fun _ i=>L.length-(intOf i).toNat)
  case atStart=>exact⟨0,L.length,Nat.zero_le _,rfl,rfl,by omega,HM⟩
  case round=>
   obtain⟨k,m,hk,rfl,rfl,hm8,HK⟩:=hrel;by_cases hlt:k<L.length
   ·have hck:=HC.out k hlt
    have hsk:=HS.out _ (List.getElem_mem hlt);have hstep:=sizeF_drop (n:=m) hlt;by_cases h8:m≤1048576
    ·have HN:Hid (textsN L=sizeF (m+(L[k]).length) (L.drop (k+1))):=by
      show _=_;rw[HK.out,hstep,if_pos h8]
     clear hstep;generalize L[k]=X at*;go_wp2_with fail;go_round
     case rel=>exact⟨k+1,m+X.length,by omega,by go_num,by go_num,by omega,HN⟩
     case measure=>simp[intOf];omega
    ·have HN:Hid (textsN L=m):=by
      show _=_;rw[HK.out,hstep,if_neg h8]
     clear hstep hck hsk;go_wp2_with fail;go_ret;exact⟨ret_int (by rw[HN.out]),rfl⟩
   ·obtain rfl:k=L.length:=by omega
    have HN:Hid (textsN L=m):=by
     show _=_;rw[HK.out,List.drop_length];rfl
    go_wp2_with fail;go_ret;exact⟨ret_int (by rw[HN.out]),rfl⟩
end Go.Proofs.YtlhcfmcbpljbiaaGreatDoor
