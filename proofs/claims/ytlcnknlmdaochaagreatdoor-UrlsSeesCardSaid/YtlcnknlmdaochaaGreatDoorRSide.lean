/- The walks of the reference's bytes and pieces. -/
import Derived.Test.YtlcnknlmdaochaaGreatDoorGRFour
import Derived.Test.YtlcnknlmdaochaaGreatDoorGSide
import Derived.Lib.QuietBelow
set_option linter.unusedVariables false
set_option linter.unusedSimpArgs false
set_option maxHeartbeats 16000000
namespace Go.Proofs.YtlcnknlmdaochaaGreatDoor
open Go.RowKit
def BytesPost (want:Option (List UInt8)) (w:World) (e:Ending) (w':World):Prop:=
 ∃(v:Value) (ok:Bool),e= .returned (.tuple #[v, .bool ok])∧Below w.heap.size w w'∧match want with|none=>ok=false|some r=>ok=true∧w'.ownsRow w.heap.size 5 1 v r.length (byts r)
theorem bytesN_next {P:List (List UInt8)} {done:List UInt8} {k:Nat} {c:UInt8} (hk:k<P.length) (H:bytesN P=match bytesN (P.drop k)with|none=>none|some t=>some (done++t)) (h:byteN P[k]=some c):
 bytesN P=match bytesN (P.drop (k+1))with|none=>none|some t=>some ((done++[c])++t):=by
 rw[H,List.drop_eq_getElem_cons hk,bytesN,h]
 cases bytesN (P.drop (k+1))with
 |none=>rfl
 |some t=>simp
theorem bytesN_bad {P:List (List UInt8)} {done:List UInt8} {k:Nat} (hk:k<P.length) (H:bytesN P=match bytesN (P.drop k)with|none=>none|some t=>some (done++t)) (h:byteN P[k]=none):bytesN P=none:=by
 rw[H,List.drop_eq_getElem_cons hk,bytesN,h]
theorem own_texts {w:World} {base n:Nat} {v:Value} {l:List (List UInt8)} (h:w.ownsRow base 9 1 v n (strs l)) (hl:l.length=n) (hn:0<n):∃g cap,v= .slice (some ⟨g,0,none⟩) n cap∧base≤g∧g<w.heap.size∧Texts w g 0 l:=by
 rcases own_open h with ⟨rfl,h0,_⟩|⟨g,cap,rfl,hb,hg,_,_,hc⟩
 ·omega
 ·exact⟨g,cap,rfl,hb,hg,fun j hj=>by rw[Nat.zero_add];exact hc j _ (strs_get hj)⟩
theorem byteN_some {x:List UInt8} {n:Nat} (h:cntL 10 x=some n) (h0:x≠[]) (h1:¬(1<x.length∧(x.getD 0 0).toNat=48)) (h2:n≤255):byteN x=some (UInt8.ofNat n):=by
 unfold byteN;rw[h];simp only;rw[if_neg];rintro(h|h|h)
 ·exact h0 h
 ·exact h1 h
 ·omega
theorem byteN_none {x:List UInt8} {n:Nat} (h:cntL 10 x=some n) (h1:x=[]∨(1<x.length∧(x.getD 0 0).toNat=48)∨255<n):byteN x=none:=by
 unfold byteN;rw[h];simp only;rw[if_pos h1]
set_option maxRecDepth 100000 in
theorem rbytes_any (s:List UInt8) (w:World) (hs:s.length≤900000000):
 Calls Tryz.prog 302 #[.string ⟨s.toArray⟩] w (BytesPost (fourB s) w):=by
 have cp:=rparts_any s 46 w (by omega)
 obtain⟨hpx,hpl⟩:=partsL_le 46 s
 have hpn:=partsL_ne 46 s
 have hw:fourB s=if (partsL 46 s).length=4 then bytesN (partsL 46 s)else none:=rfl
 have HWN:=Lib.hid hw
 clear hw
 generalize fourB s=WN at*
 generalize partsL 46 s=P at*
 have hp0:=List.length_pos_iff.2 hpn
 go_enter Tryz.func302,Tryz.ntmps302
 go_wp2_with fail
 go_at_call 266
 refine cp.mono ?_
 rintro e w1 ⟨v,rfl,hown,hb1⟩
 obtain⟨g,cap,rfl,hbg,hg,hT⟩:=own_texts hown rfl hp0
 have HT:=Lib.hid hT
 clear hT hown cp hpn
 by_cases h4:P.length=4
 ·have hW0:Hid (WN=bytesN P):=by show _=_;rw[HWN.out,if_pos h4]
  have h4i:((P.length:Int)==4)=true:=beq_iff_eq.2 (by omega);have h4n:((P.length:Int) !=4)=false:=by simp;omega
  have H4:=Lib.hid h4;have h41:P.length≤4:=by omega
  have h42:4≤P.length:=by omega
  clear h4;go_wp2_with fail;go_loopw [5,6] (fun v i wr=>∃(k:Nat) (r:List UInt8),k≤4∧i= .int .i64 k∧r.length=k∧Hid (bytesN P=match bytesN (P.drop k)with|none=>none|some t=>some (r++t))∧wr.ownsRow w1.heap.size 5 1 v r.length (byts r)∧Hid (Below w1.heap.size w1 wr)) (fun _ i _=>4-(intOf i).toNat)
  case atStart=>exact⟨0,[],Nat.zero_le _,rfl,rfl,by show _=_;rw[List.drop_zero];cases bytesN P<;>rfl,World.ownsRow_nil _ _ _ _,Below.refl _ _⟩
  case round=>
   obtain⟨V,rfl⟩:∃V,V=wr:=⟨wr,rfl⟩;obtain⟨k,r,hk,rfl,hrl,H,hor,HB⟩:=hrel;have hrk:r.length≤k:=by omega
   have HRL:=Lib.hid hrl;clear hrl;by_cases hlt:k<4
   ·have hkp:k<P.length:=by omega
    have hc:V.cell? ⟨g,k,none⟩=some (.string ⟨(P[k]).toArray⟩):=by
     rw[HB.out.cell (p:=⟨g,k,none⟩) hg];have:=HT.out k hkp;rwa[Nat.zero_add]at this
    have hxl:=hpx _ (List.getElem_mem hkp);have hst:=fun c h=>bytesN_next (c:=c) hkp H.out h
    have hno:=bytesN_bad hkp H.out;have cc:=rcount_10 P[k] V (by omega);generalize P[k]=x at*;have hgd:∀h:0<x.length,x.getD 0 0=x[0]:=fun h=>getD_is h
    have hfin:byteN x=none→BytesPost WN w (.returned (.tuple #[.slice none 0 0, .bool false])) V:=fun h=>⟨_,_,rfl,hb1.trans (HB.out.mono hb1.size),by rw[hW0.out,hno h]⟩
    cases hcn:cntL 10 x with
    |none=>
     have hF:=hfin (by unfold byteN;rw[hcn]);rw[hcn]at cc;simp only[cntV,Option.getD,Option.isSome]at cc;clear hfin hst hno hcn hgd H;go_wp2_with(go_at_call 301;refine cc.mono ?_;rintro e w2 ⟨rfl,rfl⟩);go_ret2;exact hF
    |some n=>
     rw[hcn]at cc;simp only[cntV,Option.getD,Option.isSome]at cc;by_cases h0:x=[]
     ·have hF:=hfin (byteN_none hcn (.inl h0))
      subst h0;clear hfin hst hno hcn hgd H;go_wp2_with(go_at_call 301;refine cc.mono ?_;rintro e w2 ⟨rfl,rfl⟩);go_ret2;exact hF
     ·obtain⟨x0,xs,rfl⟩:∃x0 xs,x=x0::xs:=by
       cases x with
       |nil=>exact absurd rfl h0
       |cons a l=>exact⟨a,l,rfl⟩
      have hg0:(x0::xs).getD 0 0=x0:=rfl;have hx0i:((xs.length:Int)+1==0)=false:=beq_eq_false_iff_ne.2 (by omega);simp only[List.length_cons]at hxl;by_cases h1:1<(x0::xs).length∧((x0::xs).getD 0 0).toNat=48
      ·have hF:=hfin (byteN_none hcn (.inr (.inl h1)))
       obtain⟨h1a,h1b⟩:=h1;rw[hg0]at h1b;have h48:((x0.toNat:Int)==48)=true:=beq_iff_eq.2 (by omega);have h48p:(x0.toNat:Int)=48:=by omega
       simp only[List.length_cons]at h1a;clear hfin hst hno hcn hgd H h1b hg0;go_wp2_with(go_at_call 301;refine cc.mono ?_;rintro e w2 ⟨rfl,rfl⟩);go_ret2;exact hF
      ·by_cases h2:255<n
       ·have hF:=hfin (byteN_none hcn (.inr (.inr h2)))
        rw[hg0,List.length_cons]at h1;clear hfin hst hno hcn hgd H hg0;by_cases h1a:1<xs.length+1
        ·have h48:((x0.toNat:Int)==48)=false:=beq_eq_false_iff_ne.2 (fun h=>h1 ⟨h1a,by omega⟩)
         have h48n:¬(x0.toNat:Int)=48:=fun h=>h1 ⟨h1a,by omega⟩
         clear h1;go_wp2_with(go_at_call 301;refine cc.mono ?_;rintro e w2 ⟨rfl,rfl⟩);go_ret2;exact hF
        ·clear h1
         go_wp2_with(go_at_call 301;refine cc.mono ?_;rintro e w2 ⟨rfl,rfl⟩);go_ret2;exact hF
       ·have HN:=Lib.hid (hst _ (byteN_some hcn h0 h1 (by omega)))
        have hnb:(n:Int)=((UInt8.ofNat n).toNat:Int):=by rw[UInt8.toNat_ofNat',Nat.mod_eq_of_lt (by omega)]
        have HNB:=Lib.hid hnb;rw[hg0,List.length_cons]at h1;have hb1s:=HB.out.size;clear hfin hst hno hcn hgd H hg0 hnb;by_cases h1a:1<xs.length+1
        ·have h48:((x0.toNat:Int)==48)=false:=beq_eq_false_iff_ne.2 (fun h=>h1 ⟨h1a,by omega⟩)
         have h48n:¬(x0.toNat:Int)=48:=fun h=>h1 ⟨h1a,by omega⟩
         clear h1;go_wp2_with(first|(go_at_call 301;refine cc.mono ?_;rintro e w2 ⟨rfl,rfl⟩)|(at_builtin;refine wpList_append_vals e_byte _ rfl _ _ rfl w1.heap.size _ _ _ rfl hor _ _ _ rfl rfl (fun u hu=>by simp only[List.mem_cons,List.not_mem_nil,or_false]at hu;rcases hu with rfl;rfl) (by simp;omega) (by simp;omega) hb1s ?_));intro v' w3 hown3 hgr _;have hown4:w3.ownsRow w1.heap.size 5 1 v' (r++[UInt8.ofNat n]).length (byts (r++[UInt8.ofNat n])):=by
          rw[←byts_snoc,List.length_append,←HNB.out];exact hown3
         have HB3:=Lib.hid (HB.out.grown hgr hb1s (fun g' hg'=>(hor.lt g' hg').1));clear hown3 hgr;go_wp2_with fail;go_roundw
         case rel=>exact⟨k+1,r++[UInt8.ofNat n],by omega,by go_num,by rw[List.length_append,HRL.out];rfl,HN,hown4,HB3⟩
         case measure=>simp[intOf];omega
        ·clear h1
         go_wp2_with(first|(go_at_call 301;refine cc.mono ?_;rintro e w2 ⟨rfl,rfl⟩)|(at_builtin;refine wpList_append_vals e_byte _ rfl _ _ rfl w1.heap.size _ _ _ rfl hor _ _ _ rfl rfl (fun u hu=>by simp only[List.mem_cons,List.not_mem_nil,or_false]at hu;rcases hu with rfl;rfl) (by simp;omega) (by simp;omega) hb1s ?_));intro v' w3 hown3 hgr _;have hown4:w3.ownsRow w1.heap.size 5 1 v' (r++[UInt8.ofNat n]).length (byts (r++[UInt8.ofNat n])):=by
          rw[←byts_snoc,List.length_append,←HNB.out];exact hown3
         have HB3:=Lib.hid (HB.out.grown hgr hb1s (fun g' hg'=>(hor.lt g' hg').1));clear hown3 hgr;go_wp2_with fail;go_roundw
         case rel=>exact⟨k+1,r++[UInt8.ofNat n],by omega,by go_num,by rw[List.length_append,HRL.out];rfl,HN,hown4,HB3⟩
         case measure=>simp[intOf];omega
   ·obtain rfl:k=4:=by omega
    have hH:=H.out;rw[List.drop_of_length_le (by omega)]at hH;simp only[bytesN,List.append_nil]at hH;have hF:BytesPost WN w (.returned (.tuple #[u5, .bool true])) V:=⟨_,_,rfl,hb1.trans (HB.out.mono hb1.size),by rw[hW0.out,hH];exact⟨rfl,own_base hor hb1.size⟩⟩;clear hH H hor;go_wp2_with fail;go_ret2;exact hF
 ·have hW0:Hid (WN=none):=by show _=_;rw[HWN.out,if_neg h4]
  have h4i:((P.length:Int)==4)=false:=beq_eq_false_iff_ne.2 (by omega);have h4n:¬(P.length:Int)=4:=by omega
  have hF:BytesPost WN w (.returned (.tuple #[.slice none 0 0, .bool false])) w1:=⟨_,_,rfl,hb1,by rw[hW0.out]⟩;go_wp2_with fail;go_ret2;exact hF
theorem seg_own {w:World} {base n:Nat} {v:Value} {l:List UInt8} (h:w.ownsRow base 5 1 v n (byts l)):Seg w v (byts l) v.ownBlock:=by
 have hl:=own_len h;rcases own_open h with ⟨rfl,h0,h1⟩|⟨g,cap,rfl,_,_,_,_,hc⟩
 ·exact .inl ⟨rfl,h1⟩
 ·exact .inr ⟨⟨g,0,none⟩,cap,by rw[hl],rfl,fun j u hj=>by rw[Addr.add_lit,Nat.zero_add];exact hc j u hj⟩
theorem piecesN_next {fin:Bool} {P:List (List UInt8)} {done r:List UInt8} {k:Nat} (hk:k<P.length) (H:piecesN fin P=match piecesN fin (P.drop k)with|none=>none|some t=>some (done++t)) (h:pieceN P[k]=some r):
 piecesN fin P=match piecesN fin (P.drop (k+1))with|none=>none|some t=>some ((done++r)++t):=by
 rw[H,List.drop_eq_getElem_cons hk,piecesN,h]
 cases piecesN fin (P.drop (k+1))with
 |none=>rfl
 |some t=>simp
theorem piecesN_no {fin:Bool} {P:List (List UInt8)} {done:List UInt8} {k:Nat} (hk:k<P.length) (H:piecesN fin P=match piecesN fin (P.drop k)with|none=>none|some t=>some (done++t)) (h:pieceN P[k]=none) (h2:fourB P[k]=none∨fin=false∨k+1<P.length):piecesN fin P=none:=by
 rw[H,List.drop_eq_getElem_cons hk,piecesN,h];have:(if fin=true∧P.drop (k+1)=[]then fourB P[k]else none)=none:=by
  rcases h2 with h2|h2|h2
  ·rw[h2];split<;>rfl
  ·rw[if_neg];rintro⟨h3,_⟩;rw[h2]at h3;cases h3
  ·rw[if_neg]
   rintro⟨_,h3⟩;have:=List.drop_eq_nil_iff.1 h3;omega
 simp only[this]
theorem piecesN_end {P:List (List UInt8)} {done t:List UInt8} {k:Nat} (hk:k<P.length) (H:piecesN true P=match piecesN true (P.drop k)with|none=>none|some t=>some (done++t)) (h:pieceN P[k]=none) (hl:k+1=P.length) (h2:fourB P[k]=some t):piecesN true P=some (done++t):=by
 rw[H,List.drop_eq_getElem_cons hk,piecesN,h,List.drop_of_length_le (by omega)];simp[h2]
theorem pieceN_is {x r:List UInt8} (h:pieceN x=some r):∃n,cntL 16 x=some n∧n<65536∧x≠[]∧x.length≤4∧r=[UInt8.ofNat (n/256),UInt8.ofNat (n % 256)]:=by
 unfold pieceN at h
 cases hc:cntL 16 x with
 |none=>rw[hc]at h;cases h
 |some n=>
  rw[hc]at h;simp only at h;split at h
  ·cases h
  ·rename_i hh
   injection h with h;exact⟨n,rfl,cnt_16_4 hc (by omega),fun e=>hh (.inl e),by omega,h.symm⟩
theorem pieceN_not {x:List UInt8} (h:pieceN x=none):cntL 16 x=none∨∃n,cntL 16 x=some n∧(x=[]∨4<x.length):=by
 unfold pieceN at h
 cases hc:cntL 16 x with
 |none=>exact .inl rfl
 |some n=>
  rw[hc]at h;simp only at h;split at h
  ·rename_i hh;exact .inr ⟨n,rfl,hh⟩
  ·cases h
set_option maxRecDepth 100000 in
theorem rpieces_any (s:List UInt8) (fin:Bool) (w:World) (hs:s.length≤200000000):
 Calls Tryz.prog 258 #[.string ⟨s.toArray⟩, .bool fin] w (BytesPost (sideN fin s) w):=by
 by_cases h0:s=[]
 ·subst h0
  have hF:BytesPost (sideN fin []) w (.returned (.tuple #[.slice none 0 0, .bool true])) w:=⟨_,_,rfl,Below.refl _ _,rfl,World.ownsRow_nil _ _ _ _⟩;generalize sideN fin []=WN at*;go_enter Tryz.func258,Tryz.ntmps258;go_wp2_with fail;go_ret2;exact hF
 ·have h0b:=beq_ne h0
  have h0e:=isEmpty_ne h0;have cp:=rparts_any s 58 w (by omega);obtain⟨hpx,hpl⟩:=partsL_le 58 s;have hpn:=partsL_ne 58 s;have hw:sideN fin s=piecesN fin (partsL 58 s):=by unfold sideN;rw[if_neg h0]
  have HWN:=Lib.hid hw;clear hw;generalize sideN fin s=WN at*;generalize partsL 58 s=P at*;have hp0:=List.length_pos_iff.2 hpn;go_enter Tryz.func258,Tryz.ntmps258;go_wp2_with fail;go_at_call 266;refine cp.mono ?_;rintro e w1 ⟨v,rfl,hown,hb1⟩;obtain⟨g,cap,rfl,hbg,hg,hT⟩:=own_texts hown rfl hp0;have HT:=Lib.hid hT;clear hT hown cp hpn h0;go_wp2_with fail;go_loopw [7,8] (fun v i wr=>∃(k:Nat) (r:List UInt8),k≤P.length∧i= .int .i64 k∧r.length≤4*k∧Hid (piecesN fin P=match piecesN fin (P.drop k)with|none=>none|some t=>some (r++t))∧wr.ownsRow w1.heap.size 5 1 v r.length (byts r)∧Hid (Below w1.heap.size w1 wr)) (fun _ i _=>P.length-(intOf i).toNat)
  case atStart=>exact⟨0,[],Nat.zero_le _,rfl,Nat.le_refl _,by show _=_;rw[List.drop_zero];cases piecesN fin P<;>rfl,World.ownsRow_nil _ _ _ _,Below.refl _ _⟩
  case round=>
   obtain⟨V,rfl⟩:∃V,V=wr:=⟨wr,rfl⟩;obtain⟨k,r,hk,rfl,hrk,H,hor,HB⟩:=hrel;by_cases hlt:k<P.length
   ·have hc:V.cell? ⟨g,k,none⟩=some (.string ⟨(P[k]).toArray⟩):=by
     rw[HB.out.cell (p:=⟨g,k,none⟩) hg];have:=HT.out k hlt;rwa[Nat.zero_add]at this
    have hxl:=hpx _ (List.getElem_mem hlt);have hst:=fun r' h=>piecesN_next (r:=r') hlt H.out h
    have hno:=piecesN_no hlt H.out;have hen:=fun (hf:fin=true) (h:pieceN P[k]=none) (hl:k+1=P.length) (t:List UInt8) (h2:fourB P[k]=some t)=>piecesN_end (t:=t) hlt (hf▸H.out) h hl h2
    have cc:=rcount_16 P[k] V (by omega);have cb:=fun W=>rbytes_any P[k] W (by omega)
    have hbs:=HB.out.size;generalize P[k]=x at*;have hfin:∀w',Below V.heap.size V w'→piecesN fin P=none→BytesPost WN w (.returned (.tuple #[.slice none 0 0, .bool false])) w':=fun w' hb h=>⟨_,_,rfl,(hb1.trans (HB.out.mono hb1.size)).trans (hb.mono (Nat.le_trans hb1.size hbs)),by rw[HWN.out,h]⟩
    cases hpn:pieceN x with
    |some rr=>
     obtain⟨n,hcn,hn,hx0,hx4,hrr⟩:=pieceN_is hpn;have HN:=Lib.hid (hst rr hpn);have HRR:=Lib.hid hrr;rw[hcn]at cc;simp only[cntV,Option.getD,Option.isSome]at cc;have hxp:=List.length_pos_iff.2 hx0;clear hst hno hen hfin hpn hcn hrr H cb hx0;go_wp2_with(first|(go_at_call 301;refine cc.mono ?_;rintro e w2 ⟨rfl,rfl⟩)|(at_builtin;refine wpList_append_vals e_byte _ rfl _ _ rfl w1.heap.size _ _ _ rfl hor _ _ _ rfl rfl (fun u hu=>by simp only[List.mem_cons,List.not_mem_nil,or_false]at hu;rcases hu with rfl|rfl<;>rfl) (by simp;omega) (by simp;omega) hbs ?_));intro v' w3 hown3 hgr _;have hown4:w3.ownsRow w1.heap.size 5 1 v' (r++rr).length (byts (r++rr)):=by
      rw[HRR.out,List.length_append,←byts_two,←byte_hi hn,←byte_lo n];exact hown3
     have HB3:=Lib.hid (HB.out.grown hgr hbs (fun g' hg'=>(hor.lt g' hg').1));have hrl:(r++rr).length≤4*(k+1):=by rw[HRR.out,List.length_append];simp;omega
     clear hown3 hgr;go_wp2_with fail;go_roundw
     case rel=>exact⟨k+1,r++rr,by omega,by go_num,hrl,HN,hown4,HB3⟩
     case measure=>simp[intOf];omega
    |none=>
     rcases pieceN_not hpn with hcn|⟨n,hcn,hx0|hx4⟩
     ·rw[hcn]at cc
      simp only[cntV,Option.getD,Option.isSome]at cc;go_wp2_with(go_at_call 301;refine cc.mono ?_;rintro e w2 ⟨rfl,rfl⟩);go_at_call 302;refine(cb V).mono ?_;rintro e w3 ⟨v2,ok2,rfl,hb3,hw2⟩;have hfail:(fourB x=none∨fin=false∨k+1<P.length)→BytesPost WN w (.returned (.tuple #[.slice none 0 0, .bool false])) w3:=fun h=>hfin w3 hb3 (hno hpn h)
      have hor3:=own_below hor hb3;have hbs3:=Nat.le_trans hbs hb3.size;have HB3:=Lib.hid (HB.out.trans (hb3.mono hbs))
      cases hfb:fourB x with
      |none=>
       rw[hfb]at hw2;simp only at hw2;subst hw2;have hF:=hfail (.inl hfb);clear hfail hen hno hfin hst hfb hpn H hor3;go_wp2_with fail;go_ret2;exact hF
      |some t=>
       rw[hfb]at hw2;simp only at hw2;obtain⟨rfl,hv2⟩:=hw2
       cases hfi:fin with
       |false=>
        have hF:=hfail (.inr (.inl hfi));subst hfi;clear hfail hen hno hfin hst hfb hpn H hor3 hv2;go_wp2_with fail;go_ret2;exact hF
       |true=>
        by_cases hla:k+1<P.length
        ·have hF:=hfail (.inr (.inr hla))
         have hki:(k:Int)<(P.length:Int)-1:=by omega
         subst hfi;clear hfail hen hno hfin hst hfb hpn H hor3 hv2;go_wp2_with fail;go_ret2;exact hF
        ·have hke:k+1=P.length:=by omega
         have hki:¬(k:Int)<(P.length:Int)-1:=by omega
         have HE:=Lib.hid (hen hfi hpn hke t hfb);have htl:=fourB_len hfb;have hv3:=own_base hv2 (Nat.zero_le _);have hseg:=seg_own hv2;have hkl:P.length≤k+1:=by omega
         have hbl:(byts t).length≤4:=by simp;omega
         have HTL:=Lib.hid htl;subst hfi;clear hfail hen hno hfin hst hfb hpn hv3 hke htl;go_wp2_with(at_builtin;refine wpList_append_seg e_byte _ rfl _ _ rfl w1.heap.size _ _ _ rfl hor3 v2 (byts t) _ rfl hseg (fun u hu=>byts_one hu) (by omega) (by omega) hbs3 ?_);intro v' w4 hown4 hgr;have hown5:w4.ownsRow w1.heap.size 5 1 v' (r++t).length (byts (r++t)):=by
          rw[List.length_append,←byts_app];simpa[byts]using hown4
         have HB4:=Lib.hid (HB3.out.grown hgr hbs3 (fun g' hg'=>(hor3.lt g' hg').1));have hrl:(r++t).length≤4*(k+1):=by rw[List.length_append,HTL.out];omega
         have HN:Hid (piecesN true P=match piecesN true (P.drop (k+1))with|none=>none|some t'=>some ((r++t)++t')):=by
          show _=_;rw[HE.out,List.drop_of_length_le hkl];simp[piecesN]
         clear hown4 hgr hor3 hv2 hseg;go_wp2_with fail;go_roundw
         case rel=>exact⟨k+1,r++t,by omega,by go_num,hrl,HN,hown5,HB4⟩
         case measure=>simp[intOf];omega
     ·rw[hcn]at cc
      simp only[cntV,Option.getD,Option.isSome]at cc;subst hx0;go_wp2_with(go_at_call 301;refine cc.mono ?_;rintro e w2 ⟨rfl,rfl⟩);go_at_call 302;refine(cb V).mono ?_;rintro e w3 ⟨v2,ok2,rfl,hb3,hw2⟩;have hfail:(fourB []=none∨fin=false∨k+1<P.length)→BytesPost WN w (.returned (.tuple #[.slice none 0 0, .bool false])) w3:=fun h=>hfin w3 hb3 (hno hpn h)
      have hor3:=own_below hor hb3;have hbs3:=Nat.le_trans hbs hb3.size;have HB3:=Lib.hid (HB.out.trans (hb3.mono hbs))
      cases hfb:fourB []with
      |none=>
       rw[hfb]at hw2;simp only at hw2;subst hw2;have hF:=hfail (.inl hfb);clear hfail hen hno hfin hst hfb hpn H hor3;go_wp2_with fail;go_ret2;exact hF
      |some t=>
       rw[hfb]at hw2;simp only at hw2;obtain⟨rfl,hv2⟩:=hw2
       cases hfi:fin with
       |false=>
        have hF:=hfail (.inr (.inl hfi));subst hfi;clear hfail hen hno hfin hst hfb hpn H hor3 hv2;go_wp2_with fail;go_ret2;exact hF
       |true=>
        by_cases hla:k+1<P.length
        ·have hF:=hfail (.inr (.inr hla))
         have hki:(k:Int)<(P.length:Int)-1:=by omega
         subst hfi;clear hfail hen hno hfin hst hfb hpn H hor3 hv2;go_wp2_with fail;go_ret2;exact hF
        ·have hke:k+1=P.length:=by omega
         have hki:¬(k:Int)<(P.length:Int)-1:=by omega
         have HE:=Lib.hid (hen hfi hpn hke t hfb);have htl:=fourB_len hfb;have hv3:=own_base hv2 (Nat.zero_le _);have hseg:=seg_own hv2;have hkl:P.length≤k+1:=by omega
         have hbl:(byts t).length≤4:=by simp;omega
         have HTL:=Lib.hid htl;subst hfi;clear hfail hen hno hfin hst hfb hpn hv3 hke htl;go_wp2_with(at_builtin;refine wpList_append_seg e_byte _ rfl _ _ rfl w1.heap.size _ _ _ rfl hor3 v2 (byts t) _ rfl hseg (fun u hu=>byts_one hu) (by omega) (by omega) hbs3 ?_);intro v' w4 hown4 hgr;have hown5:w4.ownsRow w1.heap.size 5 1 v' (r++t).length (byts (r++t)):=by
          rw[List.length_append,←byts_app];simpa[byts]using hown4
         have HB4:=Lib.hid (HB3.out.grown hgr hbs3 (fun g' hg'=>(hor3.lt g' hg').1));have hrl:(r++t).length≤4*(k+1):=by rw[List.length_append,HTL.out];omega
         have HN:Hid (piecesN true P=match piecesN true (P.drop (k+1))with|none=>none|some t'=>some ((r++t)++t')):=by
          show _=_;rw[HE.out,List.drop_of_length_le hkl];simp[piecesN]
         clear hown4 hgr hor3 hv2 hseg;go_wp2_with fail;go_roundw
         case rel=>exact⟨k+1,r++t,by omega,by go_num,hrl,HN,hown5,HB4⟩
         case measure=>simp[intOf];omega
     ·rw[hcn]at cc
      simp only[cntV,Option.getD,Option.isSome]at cc;go_wp2_with(go_at_call 301;refine cc.mono ?_;rintro e w2 ⟨rfl,rfl⟩);go_at_call 302;refine(cb V).mono ?_;rintro e w3 ⟨v2,ok2,rfl,hb3,hw2⟩;have hfail:(fourB x=none∨fin=false∨k+1<P.length)→BytesPost WN w (.returned (.tuple #[.slice none 0 0, .bool false])) w3:=fun h=>hfin w3 hb3 (hno hpn h)
      have hor3:=own_below hor hb3;have hbs3:=Nat.le_trans hbs hb3.size;have HB3:=Lib.hid (HB.out.trans (hb3.mono hbs))
      cases hfb:fourB x with
      |none=>
       rw[hfb]at hw2;simp only at hw2;subst hw2;have hF:=hfail (.inl hfb);clear hfail hen hno hfin hst hfb hpn H hor3;go_wp2_with fail;go_ret2;exact hF
      |some t=>
       rw[hfb]at hw2;simp only at hw2;obtain⟨rfl,hv2⟩:=hw2
       cases hfi:fin with
       |false=>
        have hF:=hfail (.inr (.inl hfi));subst hfi;clear hfail hen hno hfin hst hfb hpn H hor3 hv2;go_wp2_with fail;go_ret2;exact hF
       |true=>
        by_cases hla:k+1<P.length
        ·have hF:=hfail (.inr (.inr hla))
         have hki:(k:Int)<(P.length:Int)-1:=by omega
         subst hfi;clear hfail hen hno hfin hst hfb hpn H hor3 hv2;go_wp2_with fail;go_ret2;exact hF
        ·have hke:k+1=P.length:=by omega
         have hki:¬(k:Int)<(P.length:Int)-1:=by omega
         have HE:=Lib.hid (hen hfi hpn hke t hfb);have htl:=fourB_len hfb;have hv3:=own_base hv2 (Nat.zero_le _);have hseg:=seg_own hv2;have hkl:P.length≤k+1:=by omega
         have hbl:(byts t).length≤4:=by simp;omega
         have HTL:=Lib.hid htl;subst hfi;clear hfail hen hno hfin hst hfb hpn hv3 hke htl;go_wp2_with(at_builtin;refine wpList_append_seg e_byte _ rfl _ _ rfl w1.heap.size _ _ _ rfl hor3 v2 (byts t) _ rfl hseg (fun u hu=>byts_one hu) (by omega) (by omega) hbs3 ?_);intro v' w4 hown4 hgr;have hown5:w4.ownsRow w1.heap.size 5 1 v' (r++t).length (byts (r++t)):=by
          rw[List.length_append,←byts_app];simpa[byts]using hown4
         have HB4:=Lib.hid (HB3.out.grown hgr hbs3 (fun g' hg'=>(hor3.lt g' hg').1));have hrl:(r++t).length≤4*(k+1):=by rw[List.length_append,HTL.out];omega
         have HN:Hid (piecesN true P=match piecesN true (P.drop (k+1))with|none=>none|some t'=>some ((r++t)++t')):=by
          show _=_;rw[HE.out,List.drop_of_length_le hkl];simp[piecesN]
         clear hown4 hgr hor3 hv2 hseg;go_wp2_with fail;go_roundw
         case rel=>exact⟨k+1,r++t,by omega,by go_num,hrl,HN,hown5,HB4⟩
         case measure=>simp[intOf];omega
   ·obtain rfl:k=P.length:=by omega
    have hH:=H.out;rw[List.drop_length]at hH;simp only[piecesN,List.append_nil]at hH;have hF:BytesPost WN w (.returned (.tuple #[u7, .bool true])) V:=⟨_,_,rfl,hb1.trans (HB.out.mono hb1.size),by rw[HWN.out,hH];exact⟨rfl,own_base hor hb1.size⟩⟩;clear hH H hor;go_wp2_with fail;go_ret2;exact hF
end Go.Proofs.YtlcnknlmdaochaaGreatDoor
