/- internal/strconv.FormatInt at base 16, up to 2^32. -/
import Derived.Test.YtjkipdoebkhkaaaGreatDoorGLab
import Derived.Lib.AppendIntMem
import Derived.Deep.AppendLies
set_option linter.unusedVariables false
set_option linter.unusedSimpArgs false
set_option maxHeartbeats 16000000
namespace Go.Proofs.YtjkipdoebkhkaaaGreatDoor
open Go.RowKit
def Deb16 (w:World):Prop:=w.cell? ⟨7,15,none⟩=some (.int .u8 4)
set_option maxRecDepth 100000 in
theorem tz16_64 (w:World) (hd:Deb16 w):
 Calls Tryz.prog 321 #[.int .u64 16] w fun e w'=>e= .returned (.int .i64 4)∧w=w':=by
 unfold Deb16 at hd
 have key:IntKind.u64.wrap (bits BinOp.and IntKind.u64 16 (IntKind.u64.wrap (-16))*285870213051353865)/288230376151711744=15:=by decide+kernel
 go_enter Tryz.func321,Tryz.ntmps321
 go_wp2_with(simp only[key])
 go_ret
 exact⟨rfl,rfl⟩
set_option maxRecDepth 100000 in
theorem tz16_any (w:World) (hd:Deb16 w):
 Calls Tryz.prog 293 #[.int .u64 16] w fun e w'=>e= .returned (.int .i64 4)∧w=w':=by
 go_enter Tryz.func293,Tryz.ntmps293
 go_wp2_with(go_at_call 321;refine(tz16_64 _ hd).mono ?_;rintro e w1 ⟨rfl,rfl⟩)
 go_ret
 exact⟨rfl,rfl⟩
theorem pow2_any (w:World):
 Calls Tryz.prog 292 #[.int .i64 16] w fun e w'=>e= .returned (.bool true)∧w=w':=by
 have key:bits BinOp.and IntKind.i64 16 15=0:=by decide+kernel
 go_enter Tryz.func292,Tryz.ntmps292
 go_wp2
 go_ret
 exact⟨rfl,rfl⟩
theorem dig36F:∀c:Fin 16,([48,49,50,51,52,53,54,55,56,57,97,98,99,100,101,102,103,104,105,106,107,108,109,110,111,112,113,114,115,116,117,118,119,120,121,122]:List UInt8)[c.val]?=some (hexB c.val):=by decide+kernel
theorem dig36 {c:Nat} (hc:c<16) (h:c<([48,49,50,51,52,53,54,55,56,57,97,98,99,100,101,102,103,104,105,106,107,108,109,110,111,112,113,114,115,116,117,118,119,120,121,122]:List UInt8).length):([48,49,50,51,52,53,54,55,56,57,97,98,99,100,101,102,103,104,105,106,107,108,109,110,111,112,113,114,115,116,117,118,119,120,121,122]:List UInt8)[c]'h=hexB c:=by
 have:=dig36F ⟨c,hc⟩;rw[List.getElem?_eq_getElem h]at this;exact Option.some.inj this
theorem and15 (v:Nat) (hv:v<4294967296):bits BinOp.and IntKind.u64 (v:Int) 15=((v % 16:Nat):Int):=by
 have h:=bits_and_u64_nat v 15 (by omega) (by omega);rw[show v&&&15=v % 16 from Nat.and_two_pow_sub_one_eq_mod v 4]at h;exact h
structure Fmt (w0:World) (n k u:Nat) (done:List UInt8) (wr:World):Prop where
 low:Below w0.heap.size w0 wr
 row:∃cs:Array Value,Blk wr w0.heap.size 324 cs∧cs.size=65∧∀j (h:j<done.length),cs[65-k+j]?=some (.int .u8 ((done[j]).toNat:Int))
 dig:digF 16 20 n=digF 16 (20-k) u++done
 len:done.length=k
 small:u<16^(8-k)
theorem Fmt.bound {w0 wr:World} {n k u:Nat} {done:List UInt8} (h:Fmt w0 n k u done wr) (hk:k≤7):u<4294967296:=by
 have h1:16^(8-k)≤16^8:=Nat.pow_le_pow_right (by decide) (by omega);have:=h.small;omega
theorem Fmt.put {w0 wr:World} {n k u:Nat} {done:List UInt8} (h:Fmt w0 n k u done wr) (hk:k≤7):∃c,wr.cell? ⟨w0.heap.size,65-k-1,none⟩=some c∧wr.frozen? ⟨w0.heap.size,65-k-1,none⟩=false∧w0.heap.size<wr.heap.size:=by
 obtain⟨cs,hB,hs,_⟩:=h.row;exact⟨cs[65-k-1]'(by omega),by rw[hB.cell,Array.getElem?_eq_getElem],hB.frozen _,hB.lt⟩
theorem Fmt.next {w0 wr:World} {n k u:Nat} {done:List UInt8} (h:Fmt w0 n k u done wr) (hk:k≤6) (hu:16≤u):Fmt w0 n (k+1) (u/16) (hexB (u % 16)::done) (wr.setCell ⟨w0.heap.size,65-k-1,none⟩ (.int .u8 ((hexB (u % 16)).toNat:Int))):=by
 obtain⟨cs,hB,hs,hc⟩:=h.row;refine⟨h.low.setCell (p:=⟨w0.heap.size,65-k-1,none⟩) (Nat.le_refl _) _,⟨_,hB.set_ (65-k-1) _,by rw[Array.size_setIfInBounds];exact hs,fun j hj=> ?_⟩, ?_,by rw[List.length_cons,h.len], ?_⟩
 ·rw[Array.getElem?_setIfInBounds]
  cases j with
  |zero=>rw[if_pos (by omega),if_pos (by omega)];rfl
  |succ j=>
   rw[if_neg (by omega)];have:=hc j (by simpa using hj);rw[show 65-(k+1)+(j+1)=65-k+j by omega];simpa using this
 ·rw[h.dig,show 20-k=(20-(k+1))+1 by omega,digF_step hu]
  simp
 ·have:=h.small
  rw[show 8-k=(8-(k+1))+1 by omega,Nat.pow_succ]at this;omega
theorem Fmt.seven {w0 wr:World} {n k u:Nat} {done:List UInt8} (h:Fmt w0 n k u done wr) (hk:k≤7) (hu:16≤u):k≤6:=by
 rcases Nat.lt_or_ge k 7 with h1|h1
 ·omega
 ·obtain rfl:k=7:=by omega
  have:=h.small;simp at this;omega
theorem Fmt.fin {w0 wr:World} {n k u:Nat} {done:List UInt8} (h:Fmt w0 n k u done wr) (hk:k≤7) (hu:u<16):digF 16 20 n=hexB u::done∧Below w0.heap.size w0 (wr.setCell ⟨w0.heap.size,65-k-1,none⟩ (.int .u8 ((hexB u).toNat:Int)))∧
 ∀j (hj:j<(hexB u::done).length),(wr.setCell ⟨w0.heap.size,65-k-1,none⟩ (.int .u8 ((hexB u).toNat:Int))).cell? ⟨w0.heap.size,65-k-1+j,none⟩=some (.int .u8 (((hexB u::done)[j]).toNat:Int)):=by
 obtain⟨cs,hB,hs,hc⟩:=h.row
 refine⟨by rw[h.dig,digF_low hu];rfl,h.low.setCell (p:=⟨w0.heap.size,65-k-1,none⟩) (Nat.le_refl _) _,fun j hj=> ?_⟩
 rw[(hB.set_ (65-k-1) _).cell,Array.getElem?_setIfInBounds]
 cases j with
 |zero=>rw[if_pos (by omega),if_pos (by omega)];rfl
 |succ j=>
  rw[if_neg (by omega)];have:=hc j (by simpa using hj);rw[show 65-k-1+(j+1)=65-k+j by omega];simpa using this
theorem arr65:Tryz.prog.underlying 324=some (.array (Tryz.prog.arrayLen 324) (Tryz.prog.elem 324)):=by kernel_rfl
theorem len65:Tryz.prog.arrayLen 324=65:=by kernel_rfl
theorem elem65:Tryz.prog.elem 324=5:=by kernel_rfl
theorem slice65 (g k:Nat) (hk:k≤7) (W:World):(Instr.sliceAt 324 (.pointer (some ⟨g,0,none⟩)) (some (.int .i64 (((65-k:Nat):Int)-1))) none none).run Tryz.prog W= .ok (.slice (some ⟨g,65-k-1,none⟩) (k+1) (k+1)) W:=by
 rw[run_sliceAt_array_l W _ _ arr65 .i64 _ (by omega) (by rw[len65];omega),elem65,len65,Tryz.sizeOf5];simp only[Result.andThen,slicedAt];rw[show(((65-k:Nat):Int)-1).toNat=65-k-1 by omega,if_neg (by omega),Addr.add_lit,show 65-(65-k-1)=k+1 by omega];simp
theorem convert_bytes_at (w:World) (ad:Addr) (cap m:Nat) (l:List UInt8) (hm:l.length=m) (hc:∀j (h:j<l.length),w.cell? (ad.add j)=some (.int .u8 ((l[j]).toNat:Int))):
 (convert 51 9 (.slice (some ad) m cap)).run Tryz.prog w= .ok (.string ⟨l.toArray⟩) w:=by
 subst hm
 exact run_convert_bytes_back w _ _ 5 ad cap l Tryz.underlying51 Tryz.underlying5 Tryz.underlying9 hc
set_option maxRecDepth 100000 in
theorem bits16_any (n:Nat) (hn:n<4294967296) (w:World) (hd:Deb16 w):
 Calls Tryz.prog 257 #[.slice none 0 0, .int .u64 (n:Int), .int .i64 16, .bool false, .bool false] w fun e w'=>e= .returned (.tuple #[.slice none 0 0, .string ⟨(digF 16 20 n).toArray⟩])∧Below w.heap.size w w':=by
 have hd':∀o,Deb16 (w.alloc o):=fun o=>by
  unfold Deb16 at hd⊢;rw[World.cell?_alloc_lt _ _ _ (Lib.lt_of_cell hd)];exact hd
 go_enter Tryz.func257,Tryz.ntmps257
 go_wp2_with(first|(go_at_call 292;refine(pow2_any _).mono ?_;rintro e w1 ⟨rfl,rfl⟩)|(go_at_call 293;refine(tz16_any _ (hd' _)).mono ?_;rintro e w1 ⟨rfl,rfl⟩))
 go_loopw [1,13] (fun u i wr=>∃(k v:Nat) (done:List UInt8),k≤7∧u= .int .u64 (v:Int)∧i= .int .i64 ((65-k:Nat):Int)∧Hid (Fmt w n k v done wr)) (fun u _ _=>(intOf u).toNat)
 case atStart=>exact⟨0,n,[],by omega,rfl,rfl,(Below.refl _ _).alloc (Nat.le_refl _) _,⟨_,Blk.new _ _ _,rfl,fun j h=>absurd h (by simp)⟩,by simp,rfl,by omega⟩
 case round=>
  obtain⟨V,rfl⟩:∃V,V=wr:=⟨wr,rfl⟩;obtain⟨k,v,done,hk,rfl,rfl,H⟩:=hrel;have hvb:=H.out.bound hk;obtain⟨u0,hc0,hf0,hl0⟩:=H.out.put hk;by_cases hlt:16≤v
  ·have hk6:=H.out.seven hk hlt
   have HN:=Lib.hid (H.out.next hk6 hlt);have ha:=and15 v hvb;have hdl:v % 16<16:=by omega
   have hdg:∀h,_:=fun h=>dig36 (c:=v % 16) hdl h
   have hq:v/16<v:=by omega
   have hqi:(v:Int)/16=((v/16:Nat):Int):=by omega
   have HQ:=Lib.hid hqi;clear hqi;generalize hd:v % 16=d at*;clear hd;go_wp2_with fail;go_roundw
   case rel=>exact⟨k+1,v/16,_,by omega,by rw[HQ.out],by rw[show((65-(k+1):Nat):Int)=((65-k:Nat):Int)-1 by omega],HN⟩
   case measure=>simp[intOf];omega
  ·obtain⟨hdg,hbl,hcl⟩:=H.out.fin hk (by omega)
   have hdx:∀h,_:=fun h=>dig36 (c:=v) (by omega) h
   have HD:=Lib.hid hdg;have HC:=Lib.hid hcl;have HB:=Lib.hid hbl;have hlen:=H.out.len;have hsl:=slice65 w.heap.size k hk;have hcv:=convert_bytes_at (V.setCell ⟨w.heap.size,65-k-1,none⟩ (.int .u8 ((hexB v).toNat:Int))) ⟨w.heap.size,65-k-1,none⟩ (k+1) (k+1) (hexB v::done) (by simp[hlen]) (fun j hj=>by rw[Addr.add_lit];exact hcl j hj);clear hdg hcl hbl hlen HC;go_wp2_with fail;go_ret2;exact⟨by rw[HD.out];rfl,HB.out⟩
set_option maxRecDepth 100000 in
theorem ifmt16_any (n:Nat) (hn:n<4294967296) (w:World) (hd:Deb16 w):
 Calls Tryz.prog 208 #[.int .i64 (n:Int), .int .i64 16] w fun e w'=>e= .returned (.string ⟨(digF 16 20 n).toArray⟩)∧Below w.heap.size w w':=by
 have h0:decide ((n:Int)<0)=false:=decide_eq_false (by omega)
 go_enter Tryz.func208,Tryz.ntmps208
 go_wp2_with(go_at_call 257;refine(bits16_any n hn _ hd).mono ?_;rintro e w1 ⟨rfl,hb⟩)
 go_ret
 exact⟨rfl,hb⟩
theorem fmt16_any (n:Nat) (hn:n<4294967296) (w:World) (hd:Deb16 w):
 Calls Tryz.prog 228 #[.int .i64 (n:Int), .int .i64 16] w fun e w'=>e= .returned (.string ⟨(digF 16 20 n).toArray⟩)∧Below w.heap.size w w':=by
 go_enter Tryz.func228,Tryz.ntmps228
 go_wp2_with(go_at_call 208;refine(ifmt16_any n hn _ hd).mono ?_;rintro e w1 ⟨rfl,hb⟩)
 go_ret
 exact⟨rfl,hb⟩
theorem dec_digits:∀(f u:Nat),u<10^(f+1)→digF 10 f u=Lib.decDigits u
 |f,u,h=>by
  by_cases hu:u<10
  ·rw[digF_low hu,Lib.decDigits,dif_pos hu,hexB,if_pos hu]
  ·cases f with
   |zero=>simp at h;omega
   |succ f=>
    rw[digF_step (by omega),Lib.decDigits,dif_neg hu,dec_digits f (u/10) (by rw[Nat.pow_succ]at h;omega),hexB,if_pos (by omega)]
theorem dec8_digits {u:Nat} (h:u<1000000000000000000000):dec8 u=Lib.decDigits u:=dec_digits 20 u (by simpa using h)
def Pow10 (w:World):Prop:=Lib.TabIs Tryz.prog w "internal/strconv.uint64pow10" .u64 Lib.pow10Tab
theorem pow_global:Tryz.prog.globalNamed "internal/strconv.uint64pow10" =some 1:=by kernel_rfl
theorem Pow10.below {w w':World} (h:Pow10 w) (hb:Below w.heap.size w w'):Pow10 w':=by
 unfold Pow10 Lib.TabIs at*;refine var?_below hb pow_global ?_ h;unfold World.var? at h;simp only[pow_global,Option.bind_some]at h;rcases Nat.lt_or_ge 1 w.heap.size with h1|h1
 ·exact h1
 ·rw[Array.getElem?_eq_none h1]at h;cases h
theorem Deb16.below {w w':World} (h:Deb16 w) (hb:Below w.heap.size w w'):Deb16 w':=by
 unfold Deb16 at*;rw[hb.cell (p:=⟨7,15,none⟩) (Lib.lt_of_cell h)];exact h
theorem itoa_any (n:Nat) (hn:n≤9223372036854775807) (w:World) (hp:Pow10 w):
 Calls Tryz.prog 91 #[.int .i64 (n:Int)] w fun e w'=>e= .returned (.string ⟨(dec8 n).toArray⟩)∧Below w.heap.size w w':=by
 refine(Tryz.strconv_Itoa (n:Int) (by omega) (by omega) w hp).mono ?_
 rintro e w' ⟨rfl,k,os,rfl⟩
 exact⟨by rw[dec8_digits (by omega),Lib.itoa_nonneg],Lib.below_grow _ _ (Nat.le_refl _) _ _⟩
theorem arr24:Tryz.prog.underlying 292=some (.array (Tryz.prog.arrayLen 292) (Tryz.prog.elem 292)):=by kernel_rfl
theorem len24:Tryz.prog.arrayLen 292=24:=by kernel_rfl
theorem elem24:Tryz.prog.elem 292=5:=by kernel_rfl
theorem slice24 (g nd:Nat) (hk:nd≤24) (W:World):(Instr.sliceAt 292 (.pointer (some ⟨g,0,none⟩)) none (some (.int .i64 (nd:Int))) none).run Tryz.prog W= .ok (.slice (some ⟨g,0,none⟩) nd 24) W:=by
 rw[run_sliceAt_array_h W _ _ arr24 .i64 _ (by omega) (by rw[len24];omega),elem24,len24,Tryz.sizeOf5];simp only[Result.andThen,slicedAt,Int.toNat_natCast];rw[if_neg (by omega),Addr.add_lit];simp
set_option maxRecDepth 100000 in
theorem ifmtU10_any (u:Nat) (hu:u<18446744073709551616) (w:World) (hp:Pow10 w):
 Calls Tryz.prog 327 #[.int .u64 (u:Int), .int .i64 10] w fun e w'=>e= .returned (.string ⟨(dec8 u).toArray⟩)∧Below w.heap.size w w':=by
 rw[dec8_digits (by omega)]
 by_cases hs:u<100
 ·go_enter Tryz.func327,Tryz.ntmps327
  go_wp2_with(go_at_call 254;refine(Tryz.internal_strconv_small u hs _).mono ?_;rintro e w' ⟨rfl,rfl⟩);go_ret;exact⟨rfl,Below.refl _ _⟩
 ·have hu1:1≤u:=by omega
  have hnd20:Lib.nDigits u≤20:=by have:=Lib.numDigits_eq u hu1 hu;split at this<;>omega
  have hH0:=Lib.holds_zero0 w 292 (Lib.nDigits u) (by omega);have hfmt:=Tryz.internal_strconv_formatBase10 w.heap.size 0 24 u (Array.replicate (Lib.nDigits u) 0) (w.alloc (.cells Lib.zeros24 292)) hH0 (by rw[Array.size_replicate];exact Lib.lt_pow_nDigits u) hu (by rw[Array.size_replicate];omega);rw[Array.size_replicate]at hfmt;have HH0:=Lib.hid hH0;have hsl:=slice24 w.heap.size (Lib.nDigits u) (by omega);clear hH0;go_enter Tryz.func327,Tryz.ntmps327;go_wp2_with(go_at_call 255;refine(Tryz.internal_strconv_numDigits u hu1 hu _ (Lib.tabIs_alloc hp _)).mono ?_;rintro e w' ⟨rfl,rfl⟩);go_at_call 256;refine hfmt.mono ?_;rintro e w' ⟨rfl,k,v',dk,rfl,hF⟩;have hcv:=convert_bytes_at ((Sort.putRow (fun (b:UInt8)=>Value.int .u8 (b.toNat:Int)) (w.alloc (.cells Lib.zeros24 292)) w.heap.size 0 dk).drewN k) ⟨w.heap.size,0,none⟩ 24 (Lib.nDigits u) (Lib.decDigits u) (Lib.decDigits_length u) (fun j hj=>by
   rw[Lib.row_is_numeral hF j hj,Lib.add_plain,World.cell?_drewN];exact Sort.cell?_putRow (fun (b:UInt8)=>Value.int .u8 (b.toNat:Int)) _ w.heap.size 0 _ dk HH0.out (by rw[hF.size,Array.size_replicate]) j (by rw[hF.size];rw[Lib.decDigits_length]at hj;exact hj))
  go_wp2_with fail;go_ret;obtain⟨os,eo⟩:=Lib.fin_at w (.cells Lib.zeros24 292) dk k 0;exact⟨rfl,by rw[eo];exact Lib.below_grow _ _ (Nat.le_refl _) _ _⟩
theorem fmtU10_any (u:Nat) (hu:u<18446744073709551616) (w:World) (hp:Pow10 w):
 Calls Tryz.prog 298 #[.int .u64 (u:Int), .int .i64 10] w fun e w'=>e= .returned (.string ⟨(dec8 u).toArray⟩)∧Below w.heap.size w w':=by
 go_enter Tryz.func298,Tryz.ntmps298
 go_wp2_with(go_at_call 327;refine(ifmtU10_any u hu _ hp).mono ?_;rintro e w1 ⟨rfl,hb⟩)
 go_ret
 exact⟨rfl,hb⟩
open Go.RowKit Go.Shelf
set_option maxRecDepth 100000 in
theorem writeString_k (B b:Nat) (bs:List Value) (s:List UInt8) (w:World) (h:Lib.IsBuilderF 171 5 B b bs w) (hlen:bs.length+s.length≤140737488355328) (hBw:B≤w.heap.size):
 Calls Tryz.prog 133 #[.pointer (some ⟨b,0,none⟩), .string ⟨s.toArray⟩] w fun e w'=>e= .returned (.tuple #[.int .i64 (s.length:Int), .nilIface])∧(Lib.BuilderAtF 171 5 B b (.pointer (some ⟨b,0,none⟩)) (bs++Lib.byteCells s) w'∧Below B w w'∧Lib.OthersKept 5 (some b) w w'):=by
 obtain⟨i0,hi,hz0,hz1,hz2⟩:=info_parts bx_byte
 go_enter Tryz.func133,Tryz.ntmps133
 go_wp2_with(go_at_call 190;refine(copyCheck_k B b bs _ h).mono ?_)
 rintro e w1 ⟨rfl,h1,hb1,hk1⟩
 obtain⟨hB,v,hbk,hown,hne⟩:=h1
 have c0:w1.cell? ⟨b,0,none⟩=some (.pointer (some ⟨b,0,none⟩)):=by rw[Lib.cell_of_heap hbk];rfl
 have c1:w1.cell? ⟨b,1,none⟩=some v:=by rw[Lib.cell_of_heap hbk];rfl
 go_wp2_with(at_builtin;refine Lib.wpList_append_own_stringF _ rfl _ _ 51 9 rfl B 5 i0 Tryz.underlying51 Tryz.underlying9 hi hz0 hz1 hz2 _ _ _ rfl hown ⟨s.toArray⟩ rfl ?c3 ?c4 ?c5 ?_)
 case c3=>unfold maxLen;show bs.length+s.length≤_;omega
 case c4=>show bs.length+s.length≤_;omega
 case c5=>have:=hb1.size;omega
 intro v' w2 hown' hgrow _
 have hlt:b<w1.heap.size:=by
  rcases Nat.lt_or_ge b w1.heap.size with h'|h'
  ·exact h'
  ·simp[Array.getElem?_eq_none h']at hbk
 have hb2:w2.heap[b]?=some (.cells #[.pointer (some ⟨b,0,none⟩),v] 171 (0,0)):=by
  rw[hgrow.block b hlt (fun e=>hne e.symm)];exact hbk
 have d0:w2.cell? ⟨b,0,none⟩=some (.pointer (some ⟨b,0,none⟩)):=by rw[Lib.cell_of_heap hb2];rfl
 have d1:w2.cell? ⟨b,1,none⟩=some v:=by rw[Lib.cell_of_heap hb2];rfl
 have f1:w2.frozen? ⟨b,1,none⟩=false:=Lib.frozen_of_heap hb2 1
 obtain⟨ao,n',cap,rfl⟩:∃ao n' cap,v'= .slice ao n' cap:=by
  rcases hown'.2 with ⟨hv,_⟩|⟨g,cap,cur,fz,hv,_⟩
  ·exact⟨_,_,_,hv⟩
  ·exact⟨_,_,_,hv⟩
 go_wp2
 go_ret2
 refine⟨rfl, ?_, ?_,(hk1.grown hgrow (Lib.ownsRowF_kind hown)).setCell ⟨b,1,none⟩ rfl _⟩
 ·exact Lib.BuilderAtF.put (T:=171) (e:=5) hB hb2 (bs':=bs++Lib.strCells ⟨s.toArray⟩) (by simpa[Lib.strCells_length,size_mk]using hown') (by decide)
 ·exact(hb1.grown hgrow (by have:=hb1.size;omega) (fun k hk=>(hown.lt k hk).1)).setCell (p:=⟨b,1,none⟩) hB _
theorem block_of_add (a:Addr) (n:Nat):(a.add n).block=a.block:=by unfold Addr.add;split<;>rfl
theorem add_of_add (a:Addr) (i j:Nat):(a.add i).add j=a.add (i+j):=by
 unfold Addr.add;by_cases hi:i=0<;>by_cases hj:j=0<;>simp[hi,hj,Nat.add_assoc]
def Reads (w:World) (B size:Nat) (A:Option Addr) (n:Nat) (xs:List Value):Prop:=
 xs.length=n*size∧(0<n→∃ad,A=some ad∧ad.block<B∧∀j u,xs[j]?=some u→w.cell? (ad.add j)=some u)
section
variable {w w':World} {B B' size n:Nat} {A:Option Addr} {xs:List Value}
theorem Reads.at_ {k:Nat} (h:Reads w B 1 A n xs) (hk:k<n):∃ad u,A=some ad∧ad.block<B∧xs[k]?=some u∧w.cell? (ad.add k)=some u:=by
 obtain⟨ad,e,hb,hc⟩:=h.2 (by omega);have hl:k<xs.length:=by have:=h.1;omega
 exact⟨ad,xs[k],e,hb,List.getElem?_eq_getElem hl,hc k _ (List.getElem?_eq_getElem hl)⟩
theorem Reads.keep (h:Reads w B size A n xs) (hk:∀p:Addr,p.block<B→w'.cell? p=w.cell? p):Reads w' B size A n xs:=
 ⟨h.1,fun hn=>by
  obtain⟨ad,e,hb,hc⟩:=h.2 hn;exact⟨ad,e,hb,fun j u hu=>(hk _ (by rw[block_of_add];exact hb)).trans (hc j u hu)⟩⟩
theorem Reads.more (h:Reads w B size A n xs) (hB:B≤B'):Reads w B' size A n xs:=
 ⟨h.1,fun hn=>by
  obtain⟨ad,e,hb,hc⟩:=h.2 hn;exact⟨ad,e,by omega,hc⟩⟩
theorem Reads.below (h:Reads w B size A n xs) (hb:Below B w w'):Reads w' B size A n xs:=h.keep fun _ hp=>hb.cell hp
theorem Reads.drew (h:Reads w B size A n xs):Reads w.drew B size A n xs:=h
theorem Reads.drewN (h:Reads w B size A n xs) (k:Nat):Reads (w.drewN k) B size A n xs:=h
theorem Reads.alloc (h:Reads w B size A n xs) (hB:B≤w.heap.size) (o:Obj):Reads (w.alloc o) B size A n xs:=h.keep fun p hp=>World.cell?_alloc_lt w o p (by omega)
theorem Reads.setCell (h:Reads w B size A n xs) {p:Addr} (hB:B≤p.block) (u:Value):Reads (w.setCell p u) B size A n xs:=
 h.keep fun q hq=>World.cell?_setCell_other w p q u (fun e=>by subst e;omega)
theorem Reads.grown (h:Reads w B size A n xs) {row:Option Nat} (hg:w.grownBy w' row) (hB:B≤w.heap.size) (hr:∀g,row=some g→B≤g):Reads w' B size A n xs:=
 h.keep fun p hp=>World.cell?_of_block (hg.block p.block (by omega) (fun e=>by have:=hr _ e.symm;omega))
theorem Reads.cut (h:Reads w B size A n xs) {k cap:Nat} (hk:k≤n) (hc:n≤cap):
 Reads w B size (if cap=k then A else A.map (·.add (k*size))) (n-k) (xs.drop (k*size)):=by
 refine⟨by rw[List.length_drop,h.1,Nat.sub_mul],fun hn=> ?_⟩
 obtain⟨ad,rfl,hb,hcell⟩:=h.2 (by omega)
 rw[if_neg (by omega)]
 refine⟨ad.add (k*size),rfl,by rw[block_of_add];exact hb,fun j u hu=> ?_⟩
 rw[add_of_add]
 exact hcell _ u (by rw[←hu,List.getElem?_drop])
theorem Reads.of_own {base:Nat} {e:TypeId} {c:Nat} (h:w.ownsRow base e size (.slice A n c) n xs):Reads w w.heap.size size A n xs:=by
 refine⟨h.1,fun hn=> ?_⟩;obtain⟨g,cap,hv,_,hlt⟩:=h.form hn;have hA:A=some ⟨g,0,none⟩:=by injection hv
 subst hA;exact⟨_,rfl,hlt,h.cells (g:=g) rfl⟩
end
abbrev strs (l:List (List UInt8)):List Value:=l.map fun p=>Value.string ⟨p.toArray⟩
theorem strs_get {l:List (List UInt8)} {k:Nat} (h:k<l.length):(strs l)[k]?=some (.string ⟨(l[k]).toArray⟩):=by simp[h]
theorem shaped_below {w w':World} (h:w.ShapedOpen Tryz.prog) (hb:Below w.heap.size w w'):w'.ShapedOpen Tryz.prog:=
 h.keptBut (hb.frame (fun _=>False)) (fun p hp=>hp.elim)
theorem splitB_strs (s:List UInt8) (c:UInt8):(Lib.splitB ⟨#[c]⟩ 0 (Lib.countB ⟨s.toArray⟩ ⟨#[c]⟩) ⟨s.toArray⟩).map Value.string=strs (partsL c s):=by
 have h:=Lib.splitB_data ⟨#[c]⟩ 0 (Lib.countB ⟨s.toArray⟩ ⟨#[c]⟩) ⟨s.toArray⟩;have e:Lib.splitK [c] 0 (Lib.countB ⟨s.toArray⟩ ⟨#[c]⟩) s=partsL c s:=splitK_parts c s;have h2:(Lib.splitB ⟨#[c]⟩ 0 (Lib.countB ⟨s.toArray⟩ ⟨#[c]⟩) ⟨s.toArray⟩).map (·.data.toList)=partsL c s:=h.trans e;rw[←h2,strs,List.map_map];exact List.map_congr_left fun x _=>by simp
theorem countB_parts (s:List UInt8) (c:UInt8):Lib.countB ⟨s.toArray⟩ ⟨#[c]⟩+1=(partsL c s).length:=by
 rw[partsL_len,←Lib.count_one]
theorem split_any (s:List UInt8) (c:UInt8) (w:World) (hE:w.ShapedOpen Tryz.prog) (hs:s.length<4294967281):
 Calls Tryz.prog 137 #[.string ⟨s.toArray⟩, .string ⟨#[c]⟩] w fun e w'=>e= .returned (.slice (some ⟨w.heap.size,0,none⟩) (partsL c s).length (partsL c s).length)∧w'=w.alloc (.cells (strs (partsL c s)).toArray 9):=by
 have h:=Tryz.strings_Split_shaped ⟨s.toArray⟩ ⟨#[c]⟩ w hE hs (Nat.le_refl 1)
 rw[splitB_strs,countB_parts]at h
 exact h
end Go.Proofs.YtjkipdoebkhkaaaGreatDoor
namespace Go.Proofs.YtjkipdoebkhkaaaGreatDoor
open Go.RowKit
def sumL:List (List UInt8)→Nat
 |[]=>0
 |p::l=>p.length+sumL l
theorem sumL_snoc:∀(l:List (List UInt8)) (p:List UInt8),sumL (l++[p])=sumL l+p.length
 |[],p=>by simp[sumL]
 |q::l,p=>by rw[List.cons_append,sumL,sumL,sumL_snoc l p];omega
theorem sumL_take (l:List (List UInt8)) {k:Nat} (h:k<l.length):sumL (l.take (k+1))=sumL (l.take k)+(l[k]).length:=by
 rw[List.take_succ_eq_append_getElem h,sumL_snoc]
theorem sumL_take_le:∀(l:List (List UInt8)) (k:Nat),sumL (l.take k)≤sumL l
 |[],k=>by simp
 |p::l,0=>by simp[sumL]
 |p::l,k+1=>by rw[List.take_succ_cons,sumL,sumL];have:=sumL_take_le l k;omega
theorem joinL_len (c:UInt8):∀l:List (List UInt8),l≠[]→(joinL c l).length=sumL l+(l.length-1)
 |[],h=>absurd rfl h
 |[p],_=>by simp[joinL,sumL]
 |p::q::l,_=>by
  rw[joinL_cons (by simp),List.length_append,List.length_cons,joinL_len c (q::l) (by simp)];simp only[List.length_cons,sumL];omega
def backL (c:UInt8) (l:List (List UInt8)):List UInt8:=l.flatMap (c::·)
theorem joinL_back (c:UInt8):∀(p:List UInt8) (l:List (List UInt8)),joinL c (p::l)=p++backL c l
 |p,[]=>by simp[joinL,backL]
 |p,q::l=>by rw[joinL_cons (by simp),joinL_back c q l];simp[backL,List.flatMap_cons]
theorem backL_take (c:UInt8) (l:List (List UInt8)) {k:Nat} (h:k<l.length):backL c (l.take (k+1))=backL c (l.take k)++[c]++l[k]:=by
 rw[List.take_succ_eq_append_getElem h,backL,List.flatMap_append];simp[backL]
theorem backL_le (c:UInt8) (l:List (List UInt8)) (k:Nat):(backL c (l.take k)).length≤(backL c l).length:=by
 conv=>rhs;rw[←List.take_append_drop k l,backL,List.flatMap_append]
 rw[List.length_append];exact Nat.le_add_right _ _
def Texts (w:World) (g o:Nat) (l:List (List UInt8)):Prop:=∀(j:Nat) (h:j<l.length),w.cell? ⟨g,o+j,none⟩=some (.string ⟨(l[j]).toArray⟩)
theorem join_none (a:Option Addr) (cap:Nat) (c:UInt8) (w:World):
 Calls Tryz.prog 88 #[.slice a 0 cap, .string ⟨#[c]⟩] w fun e w'=>e= .returned (.string ⟨#[]⟩)∧w=w':=by
 go_enter Tryz.func88,Tryz.ntmps88
 go_wp2_with fail
 go_ret
 exact⟨rfl,rfl⟩
theorem join_one (g o cap:Nat) (x:List UInt8) (c:UInt8) (w:World) (hc:w.cell? ⟨g,o,none⟩=some (.string ⟨x.toArray⟩)):
 Calls Tryz.prog 88 #[.slice (some ⟨g,o,none⟩) 1 cap, .string ⟨#[c]⟩] w fun e w'=>e= .returned (.string ⟨x.toArray⟩)∧w=w':=by
 go_enter Tryz.func88,Tryz.ntmps88
 go_wp2_with fail
 go_ret
 exact⟨rfl,rfl⟩
set_option maxRecDepth 100000 in
theorem join_many (g o cap:Nat) (l:List (List UInt8)) (c:UInt8) (w:World) (hT:Texts w g o l) (hg:g<w.heap.size) (h2:2≤l.length) (hN:l.length≤4000000000) (hcap:l.length≤cap) (hlen:(joinL c l).length≤4000000000):
 Calls Tryz.prog 88 #[.slice (some ⟨g,o,none⟩) l.length cap, .string ⟨#[c]⟩] w fun e w'=>e= .returned (.string ⟨(joinL c l).toArray⟩)∧Below w.heap.size w w':=by
 have HC:=Lib.hid hT
 clear hT
 obtain⟨x0,r,hxs⟩:∃x0 r,l=x0::r:=by
  cases l with
  |nil=>simp at h2
  |cons a t=>exact⟨a,t,rfl⟩
 have hjl:=joinL_len c l (by rw[hxs];simp)
 rw[hjl]at hlen
 have hdv:¬(9223372036854775807/((l.length:Int)-1)≤(1:Int)):=by
  intro h;have h3:(9223372036854775807:Int)<(1+1)*((l.length:Int)-1):=Int.lt_mul_of_ediv_lt (b:=1+1) (c:=(l.length:Int)-1) (by omega) (by omega);omega
 have hne0:((l.length:Int)==0)=false:=beq_eq_false_iff_ne.2 (by omega)
 have hne1:((l.length:Int)==1)=false:=beq_eq_false_iff_ne.2 (by omega)
 have hjb:=joinL_back c x0 r
 rw[←hxs]at hjb
 have Hxs:=Lib.hid hxs
 have Hjb:=Lib.hid hjb
 have Hjl:=Lib.hid hjl
 clear hxs hjb hjl
 go_enter Tryz.func88,Tryz.ntmps88
 go_wp2_with fail
 go_loop [5,41] (fun n i=>∃k:Nat,k≤l.length∧i= .int .i64 k∧n= .int .i64 ((l.length:Int)-1+(sumL (l.take k):Nat))) (fun _ i=>l.length-(intOf i).toNat)
 case atStart=>exact⟨0,Nat.zero_le _,rfl,by simp[sumL]⟩
 case round=>
  obtain⟨k,hk,rfl,rfl⟩:=hrel;by_cases hkn:k<l.length
  ·have hc:=HC.out k hkn
   have hst:=sumL_take l hkn;have hbd:=sumL_take_le l (k+1);generalize hx:l[k]=x at*;generalize hA1:sumL (l.take (k+1))=A1 at*;generalize sumL (l.take k)=A0 at*;have HA1:=Lib.hid hA1;have Hst:=Lib.hid hst;have hst1:A1≤A0+x.length:=by omega
   have hst2:A0+x.length≤A1:=by omega
   clear hA1 hst hx;go_wp2_with fail;go_round
   case rel=>exact⟨k+1,by omega,by go_num,by rw[HA1.out];go_num⟩
   case measure=>simp[intOf];omega
  ·obtain rfl:k=l.length:=by omega
   rw[List.take_length];generalize hS:sumL l=S at*;have HS:=Lib.hid hS;clear hS;go_wp2_with fail;have e1:((l.length:Int)-1+(S:Int))=((l.length-1+S:Nat):Int):=by omega
   rw[e1];refine(Tryz.Builder_Grow_fresh w.heap.size w.heap.size (l.length-1+S) _ (Nat.le_refl _) (heap_alloc_new w _) (by simp) (by omega)).mono ?_;rintro e w1 ⟨rfl,h1,hb1⟩;have hb1':Below w.heap.size w w1:=((Below.refl w.heap.size w).alloc (Nat.le_refl _) _).trans hb1;have h1':Lib.IsBuilderF 171 5 w.heap.size w.heap.size (Lib.byteCells []) w1:= .inr (Lib.BuilderAtF.of h1);have hc0:w1.cell? ⟨g,o,none⟩=some (.string ⟨x0.toArray⟩):=by
    rw[hb1'.cell (p:=⟨g,o,none⟩) hg];have:=HC.out 0 (by omega);rw[Nat.add_zero]at this;rw[this];simp only[Hxs.out,List.getElem_cons_zero]
   have hrl:r.length+1≤l.length:=by rw[Hxs.out];simp
   have hrl2:l.length≤r.length+1:=by rw[Hxs.out];simp
   have hjn:x0.length+(backL c r).length≤4000000000:=by
    have:=Hjl.out;rw[Hjb.out,List.length_append]at this;omega
   have hx0:x0.length≤4000000000:=by omega
   have H1:=Lib.hid h1';have Hb1:=Lib.hid hb1';clear h1 hb1 hb1' h1' e1;go_wp2_with fail;go_at_call 133;refine(writeString_k w.heap.size w.heap.size _ x0 w1 H1.out (by simp only[Lib.byteCells_length,List.length_nil];omega) Hb1.out.size).mono ?_;rintro e w2 ⟨rfl,h2',hb2,_⟩;have H2:Hid (Lib.IsBuilderF 171 5 w.heap.size w.heap.size (Lib.byteCells (x0++backL c (r.take 0))) w2):= .inr (by rw[Lib.byteCells_append];simpa[backL,Lib.byteCells]using h2');have Hb2:=Lib.hid (Hb1.out.trans hb2);clear h2' hb2;go_wp2_with fail;go_loopw [65] (fun i wr=>∃k:Nat,k≤r.length∧i= .int .i64 k∧Hid (Lib.IsBuilderF 171 5 w.heap.size w.heap.size (Lib.byteCells (x0++backL c (r.take k))) wr)∧Hid (Below w.heap.size w wr)) (fun i _=>r.length-(intOf i).toNat)
   case atStart=>exact⟨0,Nat.zero_le _,rfl,H2,Hb2⟩
   case round=>
    obtain⟨V,rfl⟩:∃V,V=wr:=⟨wr,rfl⟩;obtain⟨k,hk',rfl,HB,HW⟩:=hrel;by_cases hkr:k<r.length
    ·have hcy:V.cell? ⟨g,o+1+k,none⟩=some (.string ⟨(r[k]).toArray⟩):=by
      rw[HW.out.cell (p:=⟨g,o+1+k,none⟩) hg,show o+1+k=o+(k+1)by omega,HC.out (k+1) (by omega)];simp only[Hxs.out,List.getElem_cons_succ]
     have hst:=backL_take c r hkr;have hle:=backL_le c r (k+1);have hBw:w.heap.size≤V.heap.size:=HW.out.size;have hl1:(backL c (r.take k)).length+1+(r[k]).length≤(backL c r).length:=by
      rw[hst]at hle;simp only[List.length_append,List.length_singleton]at hle;omega
     generalize hy:r[k]=y at*;have Hst:=Lib.hid hst;clear hst hle hy;generalize hZ:backL c (r.take k)=Z at*;clear hZ;go_wp2_with fail;go_at_call 133;refine(writeString_k w.heap.size w.heap.size _ [c] V HB.out (by simp only[Lib.byteCells_length,List.length_append,List.length_singleton];omega) hBw).mono ?_;rintro e w3 ⟨rfl,h3,hb3,_⟩;have H3:Hid (Lib.IsBuilderF 171 5 w.heap.size w.heap.size (Lib.byteCells (x0++Z++[c])) w3):= .inr (by rw[Lib.byteCells_append];exact h3);have Hb3:=Lib.hid (HW.out.trans hb3);have hcy3:w3.cell? ⟨g,o+1+k,none⟩=some (.string ⟨y.toArray⟩):=by
      rw[hb3.cell (p:=⟨g,o+1+k,none⟩) (by show g<_;omega)];exact hcy
     clear h3 hb3 hcy;go_wp2_with fail;go_at_call 133;refine(writeString_k w.heap.size w.heap.size _ y w3 H3.out (by simp only[Lib.byteCells_length,List.length_append,List.length_singleton];omega) Hb3.out.size).mono ?_;rintro e w4 ⟨rfl,h4,hb4,_⟩;have H4:Hid (Lib.IsBuilderF 171 5 w.heap.size w.heap.size (Lib.byteCells (x0++backL c (r.take (k+1)))) w4):= .inr (by rw[Hst.out,←List.append_assoc,←List.append_assoc,Lib.byteCells_append];exact h4);have Hb4:=Lib.hid (Hb3.out.trans hb4);clear h4 hb4;go_wp2_with fail;go_roundw
     case rel=>exact⟨k+1,by omega,by go_num,H4,Hb4⟩
     case measure=>simp[intOf];omega
    ·obtain rfl:k=r.length:=by omega
     have hB':=HB.out;rw[List.take_length,←Hjb.out]at hB';have HB2:=Lib.hid hB';clear hB' HB;go_wp2_with fail;go_at_call 136;refine(Tryz.Builder_String_any_k w.heap.size w.heap.size _ V HB2.out HW.out.size).mono ?_;rintro e w5 ⟨rfl,_,hb5,_⟩;have Hb5:=Lib.hid (HW.out.trans hb5);clear hb5;go_wp2_with fail;go_ret;exact⟨rfl,Hb5.out⟩
theorem join_any (g o cap:Nat) (l:List (List UInt8)) (c:UInt8) (w:World) (hT:Texts w g o l) (hg:g<w.heap.size) (hN:l.length≤4000000000) (hcap:l.length≤cap) (hlen:(joinL c l).length≤4000000000):
 Calls Tryz.prog 88 #[.slice (some ⟨g,o,none⟩) l.length cap, .string ⟨#[c]⟩] w fun e w'=>e= .returned (.string ⟨(joinL c l).toArray⟩)∧Below w.heap.size w w':=by
 match l,hT,hN,hcap,hlen with
 |[],_,_,_,_=>exact(join_none _ cap c w).mono fun e w' ⟨he,hw⟩=>⟨he,hw▸Below.refl _ _⟩
 |[x],hT,_,_,_=>exact(join_one g o cap x c w (hT 0 (by simp))).mono fun e w' ⟨he,hw⟩=>⟨he,hw▸Below.refl _ _⟩
 |x::y::r,hT,hN,hcap,hlen=>exact join_many g o cap (x::y::r) c w hT hg (by simp) hN hcap hlen
theorem join_at (g o cap m:Nat) (l:List (List UInt8)) (c:UInt8) (w:World) (hm:l.length=m) (hT:Texts w g o l) (hg:g<w.heap.size) (hN:m≤4000000000) (hcap:m≤cap) (hlen:(joinL c l).length≤4000000000):
 Calls Tryz.prog 88 #[.slice (some ⟨g,o,none⟩) m cap, .string ⟨#[c]⟩] w fun e w'=>e= .returned (.string ⟨(joinL c l).toArray⟩)∧Below w.heap.size w w':=by
 subst hm
 exact join_any g o cap l c w hT hg hN hcap hlen
theorem sumL_le {l:List (List UInt8)} {n:Nat} (h:∀p∈l,p.length≤n):sumL l≤n*l.length:=by
 induction l with
 |nil=>simp[sumL]
 |cons p l ih=>
  have h1:=h p List.mem_cons_self;have h2:=ih (fun q hq=>h q (List.mem_cons_of_mem _ hq));rw[sumL,List.length_cons,Nat.mul_add,Nat.mul_one];omega
theorem joinL_le (c:UInt8) {l:List (List UInt8)} {n:Nat} (h:∀p∈l,p.length≤n):(joinL c l).length≤(n+1)*l.length:=by
 have h1:=sumL_le h
 cases l with
 |nil=>simp[joinL]
 |cons p l=>
  rw[joinL_len c _ (by simp),Nat.add_mul];omega
theorem lift_below {f:FuncId} {args:Array Value} {v:Value} (w:World) (h:∀W,Calls Tryz.prog f args W fun e W'=>e= .returned v∧Below W.heap.size W W'):∀W,Below w.heap.size w W→Calls Tryz.prog f args W fun e W'=>e= .returned v∧Below w.heap.size w W':=fun W hW=>
 (h W).mono fun e W' ⟨he,hb⟩=>⟨he,hW.trans (hb.mono hW.size)⟩
theorem lift_same {f:FuncId} {args:Array Value} {v:Value} (w:World) (h:∀W,Calls Tryz.prog f args W fun e W'=>e= .returned v∧W=W'):∀W,Below w.heap.size w W→Calls Tryz.prog f args W fun e W'=>e= .returned v∧Below w.heap.size w W':=fun W hW=>
 (h W).mono fun e W' ⟨he,hb⟩=>⟨he,hb▸hW⟩
end Go.Proofs.YtjkipdoebkhkaaaGreatDoor
