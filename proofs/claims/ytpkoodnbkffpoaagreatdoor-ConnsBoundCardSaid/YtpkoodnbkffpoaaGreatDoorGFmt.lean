/- internal/strconv.FormatInt at base 16, up to 2^32. -/
import Derived.Test.YtpkoodnbkffpoaaGreatDoorGLab
import Derived.Lib.AppendIntMem
import Derived.Deep.AppendLies
set_option linter.unusedVariables false
set_option linter.unusedSimpArgs false
set_option maxHeartbeats 16000000
namespace Go.Proofs.YtpkoodnbkffpoaaGreatDoor
open Go.RowKit
def Deb16 (w:World):Prop:=w.cell? ⟨7,15,none⟩=some (.int .u8 4)
set_option maxRecDepth 100000 in
theorem tz16_64 (w:World) (hd:Deb16 w):
 Calls Tryz.prog 257 #[.int .u64 16] w fun e w'=>e= .returned (.int .i64 4)∧w=w':=by
 unfold Deb16 at hd
 have key:IntKind.u64.wrap (bits BinOp.and IntKind.u64 16 (IntKind.u64.wrap (-16))*285870213051353865)/288230376151711744=15:=by decide+kernel
 go_enter Tryz.func257,Tryz.ntmps257
 go_wp2_with(simp only[key])
 go_ret
 exact⟨rfl,rfl⟩
set_option maxRecDepth 100000 in
theorem tz16_any (w:World) (hd:Deb16 w):
 Calls Tryz.prog 235 #[.int .u64 16] w fun e w'=>e= .returned (.int .i64 4)∧w=w':=by
 go_enter Tryz.func235,Tryz.ntmps235
 go_wp2_with(go_at_call 257;refine(tz16_64 _ hd).mono ?_;rintro e w1 ⟨rfl,rfl⟩)
 go_ret
 exact⟨rfl,rfl⟩
theorem pow2_any (w:World):
 Calls Tryz.prog 234 #[.int .i64 16] w fun e w'=>e= .returned (.bool true)∧w=w':=by
 have key:bits BinOp.and IntKind.i64 16 15=0:=by decide+kernel
 go_enter Tryz.func234,Tryz.ntmps234
 go_wp2
 go_ret
 exact⟨rfl,rfl⟩
theorem dig36F:∀c:Fin 16,([48,49,50,51,52,53,54,55,56,57,97,98,99,100,101,102,103,104,105,106,107,108,109,110,111,112,113,114,115,116,117,118,119,120,121,122]:List UInt8)[c.val]?=some (hexB c.val):=by decide+kernel
theorem dig36 {c:Nat} (hc:c<16) (h:c<([48,49,50,51,52,53,54,55,56,57,97,98,99,100,101,102,103,104,105,106,107,108,109,110,111,112,113,114,115,116,117,118,119,120,121,122]:List UInt8).length):([48,49,50,51,52,53,54,55,56,57,97,98,99,100,101,102,103,104,105,106,107,108,109,110,111,112,113,114,115,116,117,118,119,120,121,122]:List UInt8)[c]'h=hexB c:=by
 have:=dig36F ⟨c,hc⟩;rw[List.getElem?_eq_getElem h]at this;exact Option.some.inj this
theorem and15 (v:Nat) (hv:v<4294967296):bits BinOp.and IntKind.u64 (v:Int) 15=((v % 16:Nat):Int):=by
 have h:=bits_and_u64_nat v 15 (by omega) (by omega);rw[show v&&&15=v % 16 from Nat.and_two_pow_sub_one_eq_mod v 4]at h;exact h
structure Fmt (w0:World) (n k u:Nat) (done:List UInt8) (wr:World):Prop where
 low:Below w0.heap.size w0 wr
 row:∃cs:Array Value,Blk wr w0.heap.size 279 cs∧cs.size=65∧∀j (h:j<done.length),cs[65-k+j]?=some (.int .u8 ((done[j]).toNat:Int))
 dig:digF 16 20 n=digF 16 (20-k) u++done
 len:done.length=k
 small:u<16^(8-k)
theorem Fmt.bound {w0 wr:World} {n k u:Nat} {done:List UInt8} (h:Fmt w0 n k u done wr) (hk:k≤7):u<4294967296:=by
 have h1:16^(8-k)≤16^8:=Nat.pow_le_pow_right (by decide) (by omega);have:=h.small;omega
theorem Fmt.put {w0 wr:World} {n k u:Nat} {done:List UInt8} (h:Fmt w0 n k u done wr) (hk:k≤7):∃c,wr.cell? ⟨w0.heap.size,65-k-1,none⟩=some c∧wr.frozen? ⟨w0.heap.size,65-k-1,none⟩=false∧w0.heap.size<wr.heap.size:=by
 obtain⟨cs,hB,hs,_⟩:=h.row;exact⟨cs[65-k-1]'(by omega),by rw[hB.cell,Array.getElem?_eq_getElem],hB.frozen _,hB.lt⟩
theorem Fmt.next {w0 wr:World} {n k u:Nat} {done:List UInt8} (h:Fmt w0 n k u done wr) (hk:k≤6) (hu:16≤u):Fmt w0 n (k+1) (u/16) (hexB (u % 16)::done) (wr.setCell ⟨w0.heap.size,65-k-1,none⟩ (.int .u8 ((hexB (u % 16)).toNat:Int))):=by
 obtain⟨cs,hB,hs,hc⟩:=h.row;refine⟨h.low.setCell (p:=⟨w0.heap.size,65-k-1,none⟩) (Nat.le_refl _) _,⟨_,hB.set_ (65-k-1) _,by rw[Array.size_setIfInBounds];exact hs,fun j hj=> ?_⟩, ?_,by rw[List.length_cons,h.len], ?_⟩
 ·rw[Array.getElem?_setIfInBounds]
  cases j with
  |zero=>rw[if_pos (by omega),if_pos (by omega)];rfl
  |succ j=>
   rw[if_neg (by omega)];have:=hc j (by simpa using hj);rw[show 65-(k+1)+(j+1)=65-k+j by omega];simpa using this
 ·rw[h.dig,show 20-k=(20-(k+1))+1 by omega,digF_step hu]
  simp
 ·have:=h.small
  rw[show 8-k=(8-(k+1))+1 by omega,Nat.pow_succ]at this;omega
theorem Fmt.seven {w0 wr:World} {n k u:Nat} {done:List UInt8} (h:Fmt w0 n k u done wr) (hk:k≤7) (hu:16≤u):k≤6:=by
 rcases Nat.lt_or_ge k 7 with h1|h1
 ·omega
 ·obtain rfl:k=7:=by omega
  have:=h.small;simp at this;omega
theorem Fmt.fin {w0 wr:World} {n k u:Nat} {done:List UInt8} (h:Fmt w0 n k u done wr) (hk:k≤7) (hu:u<16):digF 16 20 n=hexB u::done∧Below w0.heap.size w0 (wr.setCell ⟨w0.heap.size,65-k-1,none⟩ (.int .u8 ((hexB u).toNat:Int)))∧
 ∀j (hj:j<(hexB u::done).length),(wr.setCell ⟨w0.heap.size,65-k-1,none⟩ (.int .u8 ((hexB u).toNat:Int))).cell? ⟨w0.heap.size,65-k-1+j,none⟩=some (.int .u8 (((hexB u::done)[j]).toNat:Int)):=by
 obtain⟨cs,hB,hs,hc⟩:=h.row
 refine⟨by rw[h.dig,digF_low hu];rfl,h.low.setCell (p:=⟨w0.heap.size,65-k-1,none⟩) (Nat.le_refl _) _,fun j hj=> ?_⟩
 rw[(hB.set_ (65-k-1) _).cell,Array.getElem?_setIfInBounds]
 cases j with
 |zero=>rw[if_pos (by omega),if_pos (by omega)];rfl
 |succ j=>
  rw[if_neg (by omega)];have:=hc j (by simpa using hj);rw[show 65-k-1+(j+1)=65-k+j by omega];simpa using this
theorem arr65:Tryz.prog.underlying 279=some (.array (Tryz.prog.arrayLen 279) (Tryz.prog.elem 279)):=by kernel_rfl
theorem len65:Tryz.prog.arrayLen 279=65:=by kernel_rfl
theorem elem65:Tryz.prog.elem 279=5:=by kernel_rfl
theorem slice65 (g k:Nat) (hk:k≤7) (W:World):(Instr.sliceAt 279 (.pointer (some ⟨g,0,none⟩)) (some (.int .i64 (((65-k:Nat):Int)-1))) none none).run Tryz.prog W= .ok (.slice (some ⟨g,65-k-1,none⟩) (k+1) (k+1)) W:=by
 rw[run_sliceAt_array_l W _ _ arr65 .i64 _ (by omega) (by rw[len65];omega),elem65,len65,Tryz.sizeOf5];simp only[Result.andThen,slicedAt];rw[show(((65-k:Nat):Int)-1).toNat=65-k-1 by omega,if_neg (by omega),Addr.add_lit,show 65-(65-k-1)=k+1 by omega];simp
theorem convert_bytes_at (w:World) (ad:Addr) (cap m:Nat) (l:List UInt8) (hm:l.length=m) (hc:∀j (h:j<l.length),w.cell? (ad.add j)=some (.int .u8 ((l[j]).toNat:Int))):
 (convert 22 9 (.slice (some ad) m cap)).run Tryz.prog w= .ok (.string ⟨l.toArray⟩) w:=by
 subst hm
 exact run_convert_bytes_back w _ _ 5 ad cap l Tryz.underlying22 Tryz.underlying5 Tryz.underlying9 hc
set_option maxRecDepth 100000 in
theorem bits16_any (n:Nat) (hn:n<4294967296) (w:World) (hd:Deb16 w):
 Calls Tryz.prog 199 #[.slice none 0 0, .int .u64 (n:Int), .int .i64 16, .bool false, .bool false] w fun e w'=>e= .returned (.tuple #[.slice none 0 0, .string ⟨(digF 16 20 n).toArray⟩])∧Below w.heap.size w w':=by
 have hd':∀o,Deb16 (w.alloc o):=fun o=>by
  unfold Deb16 at hd⊢;rw[World.cell?_alloc_lt _ _ _ (Lib.lt_of_cell hd)];exact hd
 go_enter Tryz.func199,Tryz.ntmps199
 go_wp2_with(first|(go_at_call 234;refine(pow2_any _).mono ?_;rintro e w1 ⟨rfl,rfl⟩)|(go_at_call 235;refine(tz16_any _ (hd' _)).mono ?_;rintro e w1 ⟨rfl,rfl⟩))
 go_loopw [1,13] (fun u i wr=>∃(k v:Nat) (done:List UInt8),k≤7∧u= .int .u64 (v:Int)∧i= .int .i64 ((65-k:Nat):Int)∧Hid (Fmt w n k v done wr)) (fun u _ _=>(intOf u).toNat)
 case atStart=>exact⟨0,n,[],by omega,rfl,rfl,(Below.refl _ _).alloc (Nat.le_refl _) _,⟨_,Blk.new _ _ _,rfl,fun j h=>absurd h (by simp)⟩,by simp,rfl,by omega⟩
 case round=>
  obtain⟨V,rfl⟩:∃V,V=wr:=⟨wr,rfl⟩;obtain⟨k,v,done,hk,rfl,rfl,H⟩:=hrel;have hvb:=H.out.bound hk;obtain⟨u0,hc0,hf0,hl0⟩:=H.out.put hk;by_cases hlt:16≤v
  ·have hk6:=H.out.seven hk hlt
   have HN:=Lib.hid (H.out.next hk6 hlt);have ha:=and15 v hvb;have hdl:v % 16<16:=by omega
   have hdg:∀h,_:=fun h=>dig36 (c:=v % 16) hdl h
   have hq:v/16<v:=by omega
   have hqi:(v:Int)/16=((v/16:Nat):Int):=by omega
   have HQ:=Lib.hid hqi;clear hqi;generalize hd:v % 16=d at*;clear hd;go_wp2_with fail;go_roundw
   case rel=>exact⟨k+1,v/16,_,by omega,by rw[HQ.out],by rw[show((65-(k+1):Nat):Int)=((65-k:Nat):Int)-1 by omega],HN⟩
   case measure=>simp[intOf];omega
  ·obtain⟨hdg,hbl,hcl⟩:=H.out.fin hk (by omega)
   have hdx:∀h,_:=fun h=>dig36 (c:=v) (by omega) h
   have HD:=Lib.hid hdg;have HC:=Lib.hid hcl;have HB:=Lib.hid hbl;have hlen:=H.out.len;have hsl:=slice65 w.heap.size k hk;have hcv:=convert_bytes_at (V.setCell ⟨w.heap.size,65-k-1,none⟩ (.int .u8 ((hexB v).toNat:Int))) ⟨w.heap.size,65-k-1,none⟩ (k+1) (k+1) (hexB v::done) (by simp[hlen]) (fun j hj=>by rw[Addr.add_lit];exact hcl j hj);clear hdg hcl hbl hlen HC;go_wp2_with fail;go_ret2;exact⟨by rw[HD.out];rfl,HB.out⟩
set_option maxRecDepth 100000 in
theorem ifmt16_any (n:Nat) (hn:n<4294967296) (w:World) (hd:Deb16 w):
 Calls Tryz.prog 164 #[.int .i64 (n:Int), .int .i64 16] w fun e w'=>e= .returned (.string ⟨(digF 16 20 n).toArray⟩)∧Below w.heap.size w w':=by
 have h0:decide ((n:Int)<0)=false:=decide_eq_false (by omega)
 go_enter Tryz.func164,Tryz.ntmps164
 go_wp2_with(go_at_call 199;refine(bits16_any n hn _ hd).mono ?_;rintro e w1 ⟨rfl,hb⟩)
 go_ret
 exact⟨rfl,hb⟩
theorem fmt16_any (n:Nat) (hn:n<4294967296) (w:World) (hd:Deb16 w):
 Calls Tryz.prog 130 #[.int .i64 (n:Int), .int .i64 16] w fun e w'=>e= .returned (.string ⟨(digF 16 20 n).toArray⟩)∧Below w.heap.size w w':=by
 go_enter Tryz.func130,Tryz.ntmps130
 go_wp2_with(go_at_call 164;refine(ifmt16_any n hn _ hd).mono ?_;rintro e w1 ⟨rfl,hb⟩)
 go_ret
 exact⟨rfl,hb⟩
theorem dec_digits:∀(f u:Nat),u<10^(f+1)→digF 10 f u=Lib.decDigits u
 |f,u,h=>by
  by_cases hu:u<10
  ·rw[digF_low hu,Lib.decDigits,dif_pos hu,hexB,if_pos hu]
  ·cases f with
   |zero=>simp at h;omega
   |succ f=>
    rw[digF_step (by omega),Lib.decDigits,dif_neg hu,dec_digits f (u/10) (by rw[Nat.pow_succ]at h;omega),hexB,if_pos (by omega)]
theorem dec8_digits {u:Nat} (h:u<1000000000000000000000):dec8 u=Lib.decDigits u:=dec_digits 20 u (by simpa using h)
def Pow10 (w:World):Prop:=Lib.TabIs Tryz.prog w "internal/strconv.uint64pow10" .u64 Lib.pow10Tab
theorem pow_global:Tryz.prog.globalNamed "internal/strconv.uint64pow10" =some 3:=by kernel_rfl
theorem Pow10.below {w w':World} (h:Pow10 w) (hb:Below w.heap.size w w'):Pow10 w':=by
 unfold Pow10 Lib.TabIs at*;refine var?_below hb pow_global ?_ h;unfold World.var? at h;simp only[pow_global,Option.bind_some]at h;rcases Nat.lt_or_ge 3 w.heap.size with h1|h1
 ·exact h1
 ·rw[Array.getElem?_eq_none h1]at h;cases h
theorem Deb16.below {w w':World} (h:Deb16 w) (hb:Below w.heap.size w w'):Deb16 w':=by
 unfold Deb16 at*;rw[hb.cell (p:=⟨7,15,none⟩) (Lib.lt_of_cell h)];exact h
theorem itoa_any (n:Nat) (hn:n≤9223372036854775807) (w:World) (hp:Pow10 w):
 Calls Tryz.prog 116 #[.int .i64 (n:Int)] w fun e w'=>e= .returned (.string ⟨(dec8 n).toArray⟩)∧Below w.heap.size w w':=by
 refine(Tryz.strconv_Itoa (n:Int) (by omega) (by omega) w hp).mono ?_
 rintro e w' ⟨rfl,k,os,rfl⟩
 exact⟨by rw[dec8_digits (by omega),Lib.itoa_nonneg],Lib.below_grow _ _ (Nat.le_refl _) _ _⟩
theorem arr24:Tryz.prog.underlying 238=some (.array (Tryz.prog.arrayLen 238) (Tryz.prog.elem 238)):=by kernel_rfl
theorem len24:Tryz.prog.arrayLen 238=24:=by kernel_rfl
theorem elem24:Tryz.prog.elem 238=5:=by kernel_rfl
theorem slice24 (g nd:Nat) (hk:nd≤24) (W:World):(Instr.sliceAt 238 (.pointer (some ⟨g,0,none⟩)) none (some (.int .i64 (nd:Int))) none).run Tryz.prog W= .ok (.slice (some ⟨g,0,none⟩) nd 24) W:=by
 rw[run_sliceAt_array_h W _ _ arr24 .i64 _ (by omega) (by rw[len24];omega),elem24,len24,Tryz.sizeOf5];simp only[Result.andThen,slicedAt,Int.toNat_natCast];rw[if_neg (by omega),Addr.add_lit];simp
set_option maxRecDepth 100000 in
theorem ifmtU10_any (u:Nat) (hu:u<18446744073709551616) (w:World) (hp:Pow10 w):
 Calls Tryz.prog 229 #[.int .u64 (u:Int), .int .i64 10] w fun e w'=>e= .returned (.string ⟨(dec8 u).toArray⟩)∧Below w.heap.size w w':=by
 rw[dec8_digits (by omega)]
 by_cases hs:u<100
 ·go_enter Tryz.func229,Tryz.ntmps229
  go_wp2_with(go_at_call 196;refine(Tryz.internal_strconv_small u hs _).mono ?_;rintro e w' ⟨rfl,rfl⟩);go_ret;exact⟨rfl,Below.refl _ _⟩
 ·have hu1:1≤u:=by omega
  have hnd20:Lib.nDigits u≤20:=by have:=Lib.numDigits_eq u hu1 hu;split at this<;>omega
  have hH0:=Lib.holds_zero0 w 238 (Lib.nDigits u) (by omega);have hfmt:=Tryz.internal_strconv_formatBase10 w.heap.size 0 24 u (Array.replicate (Lib.nDigits u) 0) (w.alloc (.cells Lib.zeros24 238)) hH0 (by rw[Array.size_replicate];exact Lib.lt_pow_nDigits u) hu (by rw[Array.size_replicate];omega);rw[Array.size_replicate]at hfmt;have HH0:=Lib.hid hH0;have hsl:=slice24 w.heap.size (Lib.nDigits u) (by omega);clear hH0;go_enter Tryz.func229,Tryz.ntmps229;go_wp2_with(go_at_call 197;refine(Tryz.internal_strconv_numDigits u hu1 hu _ (Lib.tabIs_alloc hp _)).mono ?_;rintro e w' ⟨rfl,rfl⟩);go_at_call 198;refine hfmt.mono ?_;rintro e w' ⟨rfl,k,v',dk,rfl,hF⟩;have hcv:=convert_bytes_at ((Sort.putRow (fun (b:UInt8)=>Value.int .u8 (b.toNat:Int)) (w.alloc (.cells Lib.zeros24 238)) w.heap.size 0 dk).drewN k) ⟨w.heap.size,0,none⟩ 24 (Lib.nDigits u) (Lib.decDigits u) (Lib.decDigits_length u) (fun j hj=>by
   rw[Lib.row_is_numeral hF j hj,Lib.add_plain,World.cell?_drewN];exact Sort.cell?_putRow (fun (b:UInt8)=>Value.int .u8 (b.toNat:Int)) _ w.heap.size 0 _ dk HH0.out (by rw[hF.size,Array.size_replicate]) j (by rw[hF.size];rw[Lib.decDigits_length]at hj;exact hj))
  go_wp2_with fail;go_ret;obtain⟨os,eo⟩:=Lib.fin_at w (.cells Lib.zeros24 238) dk k 0;exact⟨rfl,by rw[eo];exact Lib.below_grow _ _ (Nat.le_refl _) _ _⟩
theorem fmtU10_any (u:Nat) (hu:u<18446744073709551616) (w:World) (hp:Pow10 w):
 Calls Tryz.prog 194 #[.int .u64 (u:Int), .int .i64 10] w fun e w'=>e= .returned (.string ⟨(dec8 u).toArray⟩)∧Below w.heap.size w w':=by
 go_enter Tryz.func194,Tryz.ntmps194
 go_wp2_with(go_at_call 229;refine(ifmtU10_any u hu _ hp).mono ?_;rintro e w1 ⟨rfl,hb⟩)
 go_ret
 exact⟨rfl,hb⟩
open Go.RowKit Go.Shelf
set_option maxRecDepth 100000 in
theorem writeString_k (B b:Nat) (bs:List Value) (s:List UInt8) (w:World) (h:Lib.IsBuilderF 159 5 B b bs w) (hlen:bs.length+s.length≤140737488355328) (hBw:B≤w.heap.size):
 Calls Tryz.prog 114 #[.pointer (some ⟨b,0,none⟩), .string ⟨s.toArray⟩] w fun e w'=>e= .returned (.tuple #[.int .i64 (s.length:Int), .nilIface])∧(Lib.BuilderAtF 159 5 B b (.pointer (some ⟨b,0,none⟩)) (bs++Lib.byteCells s) w'∧Below B w w'∧Lib.OthersKept 5 (some b) w w'):=by
 obtain⟨i0,hi,hz0,hz1,hz2⟩:=info_parts bx_byte
 go_enter Tryz.func114,Tryz.ntmps114
 go_wp2_with(go_at_call 153;refine(copyCheck_k B b bs _ h).mono ?_)
 rintro e w1 ⟨rfl,h1,hb1,hk1⟩
 obtain⟨hB,v,hbk,hown,hne⟩:=h1
 have c0:w1.cell? ⟨b,0,none⟩=some (.pointer (some ⟨b,0,none⟩)):=by rw[Lib.cell_of_heap hbk];rfl
 have c1:w1.cell? ⟨b,1,none⟩=some v:=by rw[Lib.cell_of_heap hbk];rfl
 go_wp2_with(at_builtin;refine Lib.wpList_append_own_stringF _ rfl _ _ 22 9 rfl B 5 i0 Tryz.underlying22 Tryz.underlying9 hi hz0 hz1 hz2 _ _ _ rfl hown ⟨s.toArray⟩ rfl ?c3 ?c4 ?c5 ?_)
 case c3=>unfold maxLen;show bs.length+s.length≤_;omega
 case c4=>show bs.length+s.length≤_;omega
 case c5=>have:=hb1.size;omega
 intro v' w2 hown' hgrow _
 have hlt:b<w1.heap.size:=by
  rcases Nat.lt_or_ge b w1.heap.size with h'|h'
  ·exact h'
  ·simp[Array.getElem?_eq_none h']at hbk
 have hb2:w2.heap[b]?=some (.cells #[.pointer (some ⟨b,0,none⟩),v] 159 (0,0)):=by
  rw[hgrow.block b hlt (fun e=>hne e.symm)];exact hbk
 have d0:w2.cell? ⟨b,0,none⟩=some (.pointer (some ⟨b,0,none⟩)):=by rw[Lib.cell_of_heap hb2];rfl
 have d1:w2.cell? ⟨b,1,none⟩=some v:=by rw[Lib.cell_of_heap hb2];rfl
 have f1:w2.frozen? ⟨b,1,none⟩=false:=Lib.frozen_of_heap hb2 1
 obtain⟨ao,n',cap,rfl⟩:∃ao n' cap,v'= .slice ao n' cap:=by
  rcases hown'.2 with ⟨hv,_⟩|⟨g,cap,cur,fz,hv,_⟩
  ·exact⟨_,_,_,hv⟩
  ·exact⟨_,_,_,hv⟩
 go_wp2
 go_ret2
 refine⟨rfl, ?_, ?_,(hk1.grown hgrow (Lib.ownsRowF_kind hown)).setCell ⟨b,1,none⟩ rfl _⟩
 ·exact Lib.BuilderAtF.put (T:=159) (e:=5) hB hb2 (bs':=bs++Lib.strCells ⟨s.toArray⟩) (by simpa[Lib.strCells_length,size_mk]using hown') (by decide)
 ·exact(hb1.grown hgrow (by have:=hb1.size;omega) (fun k hk=>(hown.lt k hk).1)).setCell (p:=⟨b,1,none⟩) hB _
theorem block_of_add (a:Addr) (n:Nat):(a.add n).block=a.block:=by unfold Addr.add;split<;>rfl
theorem add_of_add (a:Addr) (i j:Nat):(a.add i).add j=a.add (i+j):=by
 unfold Addr.add;by_cases hi:i=0<;>by_cases hj:j=0<;>simp[hi,hj,Nat.add_assoc]
def Reads (w:World) (B size:Nat) (A:Option Addr) (n:Nat) (xs:List Value):Prop:=
 xs.length=n*size∧(0<n→∃ad,A=some ad∧ad.block<B∧∀j u,xs[j]?=some u→w.cell? (ad.add j)=some u)
section
variable {w w':World} {B B' size n:Nat} {A:Option Addr} {xs:List Value}
theorem Reads.at_ {k:Nat} (h:Reads w B 1 A n xs) (hk:k<n):∃ad u,A=some ad∧ad.block<B∧xs[k]?=some u∧w.cell? (ad.add k)=some u:=by
 obtain⟨ad,e,hb,hc⟩:=h.2 (by omega);have hl:k<xs.length:=by have:=h.1;omega
 exact⟨ad,xs[k],e,hb,List.getElem?_eq_getElem hl,hc k _ (List.getElem?_eq_getElem hl)⟩
theorem Reads.keep (h:Reads w B size A n xs) (hk:∀p:Addr,p.block<B→w'.cell? p=w.cell? p):Reads w' B size A n xs:=
 ⟨h.1,fun hn=>by
  obtain⟨ad,e,hb,hc⟩:=h.2 hn;exact⟨ad,e,hb,fun j u hu=>(hk _ (by rw[block_of_add];exact hb)).trans (hc j u hu)⟩⟩
theorem Reads.more (h:Reads w B size A n xs) (hB:B≤B'):Reads w B' size A n xs:=
 ⟨h.1,fun hn=>by
  obtain⟨ad,e,hb,hc⟩:=h.2 hn;exact⟨ad,e,by omega,hc⟩⟩
theorem Reads.below (h:Reads w B size A n xs) (hb:Below B w w'):Reads w' B size A n xs:=h.keep fun _ hp=>hb.cell hp
theorem Reads.drew (h:Reads w B size A n xs):Reads w.drew B size A n xs:=h
theorem Reads.drewN (h:Reads w B size A n xs) (k:Nat):Reads (w.drewN k) B size A n xs:=h
theorem Reads.alloc (h:Reads w B size A n xs) (hB:B≤w.heap.size) (o:Obj):Reads (w.alloc o) B size A n xs:=h.keep fun p hp=>World.cell?_alloc_lt w o p (by omega)
theorem Reads.setCell (h:Reads w B size A n xs) {p:Addr} (hB:B≤p.block) (u:Value):Reads (w.setCell p u) B size A n xs:=
 h.keep fun q hq=>World.cell?_setCell_other w p q u (fun e=>by subst e;omega)
theorem Reads.grown (h:Reads w B size A n xs) {row:Option Nat} (hg:w.grownBy w' row) (hB:B≤w.heap.size) (hr:∀g,row=some g→B≤g):Reads w' B size A n xs:=
 h.keep fun p hp=>World.cell?_of_block (hg.block p.block (by omega) (fun e=>by have:=hr _ e.symm;omega))
theorem Reads.cut (h:Reads w B size A n xs) {k cap:Nat} (hk:k≤n) (hc:n≤cap):
 Reads w B size (if cap=k then A else A.map (·.add (k*size))) (n-k) (xs.drop (k*size)):=by
 refine⟨by rw[List.length_drop,h.1,Nat.sub_mul],fun hn=> ?_⟩
 obtain⟨ad,rfl,hb,hcell⟩:=h.2 (by omega)
 rw[if_neg (by omega)]
 refine⟨ad.add (k*size),rfl,by rw[block_of_add];exact hb,fun j u hu=> ?_⟩
 rw[add_of_add]
 exact hcell _ u (by rw[←hu,List.getElem?_drop])
theorem Reads.of_own {base:Nat} {e:TypeId} {c:Nat} (h:w.ownsRow base e size (.slice A n c) n xs):Reads w w.heap.size size A n xs:=by
 refine⟨h.1,fun hn=> ?_⟩;obtain⟨g,cap,hv,_,hlt⟩:=h.form hn;have hA:A=some ⟨g,0,none⟩:=by injection hv
 subst hA;exact⟨_,rfl,hlt,h.cells (g:=g) rfl⟩
end
abbrev strs (l:List (List UInt8)):List Value:=l.map fun p=>Value.string ⟨p.toArray⟩
theorem strs_get {l:List (List UInt8)} {k:Nat} (h:k<l.length):(strs l)[k]?=some (.string ⟨(l[k]).toArray⟩):=by simp[h]
theorem shaped_below {w w':World} (h:w.ShapedOpen Tryz.prog) (hb:Below w.heap.size w w'):w'.ShapedOpen Tryz.prog:=
 h.keptBut (hb.frame (fun _=>False)) (fun p hp=>hp.elim)
theorem splitB_strs (s:List UInt8) (c:UInt8):(Lib.splitB ⟨#[c]⟩ 0 (Lib.countB ⟨s.toArray⟩ ⟨#[c]⟩) ⟨s.toArray⟩).map Value.string=strs (partsL c s):=by
 have h:=Lib.splitB_data ⟨#[c]⟩ 0 (Lib.countB ⟨s.toArray⟩ ⟨#[c]⟩) ⟨s.toArray⟩;have e:Lib.splitK [c] 0 (Lib.countB ⟨s.toArray⟩ ⟨#[c]⟩) s=partsL c s:=splitK_parts c s;have h2:(Lib.splitB ⟨#[c]⟩ 0 (Lib.countB ⟨s.toArray⟩ ⟨#[c]⟩) ⟨s.toArray⟩).map (·.data.toList)=partsL c s:=h.trans e;rw[←h2,strs,List.map_map];exact List.map_congr_left fun x _=>by simp
theorem countB_parts (s:List UInt8) (c:UInt8):Lib.countB ⟨s.toArray⟩ ⟨#[c]⟩+1=(partsL c s).length:=by
 rw[partsL_len,←Lib.count_one]
theorem split_any (s:List UInt8) (c:UInt8) (w:World) (hE:w.ShapedOpen Tryz.prog) (hs:s.length<4294967281):
 Calls Tryz.prog 119 #[.string ⟨s.toArray⟩, .string ⟨#[c]⟩] w fun e w'=>e= .returned (.slice (some ⟨w.heap.size,0,none⟩) (partsL c s).length (partsL c s).length)∧w'=w.alloc (.cells (strs (partsL c s)).toArray 9):=by
 have h:=Tryz.strings_Split_shaped ⟨s.toArray⟩ ⟨#[c]⟩ w hE hs (Nat.le_refl 1)
 rw[splitB_strs,countB_parts]at h
 exact h
end Go.Proofs.YtpkoodnbkffpoaaGreatDoor
