/- What a suffix is, plain; the walks of the reference's wrong, Suffix and Own. -/
import Derived.Test.YtjkipdoebkhkaaaGreatDoorGSu1
import Derived.RangeFuncNested
import Derived.RangeFuncBound
import Derived.Test.YtjkipdoebkhkaaaGreatDoorGUrl2
set_option linter.unusedVariables false
set_option linter.unusedSimpArgs false
set_option maxHeartbeats 16000000
namespace Go.Proofs.YtjkipdoebkhkaaaGreatDoor
open Go.RowKit
def wrongL (rules:List (List UInt8)) (host:List UInt8):Nat:=if checkL rules=false then 1 else if hostL host=some host∧machineL host=false then 0 else 5
def ownL (rules:List (List UInt8)) (host:List UInt8):List UInt8×Nat:=
 if wrongL rules host=0 then (if (partsL 46 host).length<manyL rules (partsL 46 host)+1 then ([],0)else (lastL (partsL 46 host) (manyL rules (partsL 46 host)+1),0))else ([],wrongL rules host)
open Go.RowKit Go.Shelf
attribute [local go_sem] Oper.semAt_some
theorem run_loadVar_one {P:Program} (W:World) (B:Nat) (ty:TypeId) (v:Value) (d:TypeDesc) (hu:P.underlying ty=some d) (hd:(match d with| .struct _| .array _ _=>true|_=>false)=false) (hc:W.cell? ⟨B,0,none⟩=some v):(loadVar ty ⟨B,0,none⟩).run P W= .ok v W:=by
 have hagg:(isAgg ty).run P W= .ok false W:=by
  unfold isAgg;rw[Sem.run_bind,run_underlying hu W]
  cases d<;>simp_all
 simp[loadVar,Sem.run_bind,hagg,hc,go_sem]
theorem results_three {P:Program} {fn:Func} {p q r:Tmp} {t1 t2 t3:TypeId} (h:fn.results= #[.cell p t1, .cell q t2, .cell r t3]) (tmps:Array Value) (W:World) (B1 B2 B3:Nat) (v1 v2 v3:Value)
 (h1:tmps.getD p undef= .pointer (some ⟨B1,0,none⟩)) (h2:tmps.getD q undef= .pointer (some ⟨B2,0,none⟩)) (h3:tmps.getD r undef= .pointer (some ⟨B3,0,none⟩))
 (l1:(loadVar t1 ⟨B1,0,none⟩).run P W= .ok v1 W) (l2:(loadVar t2 ⟨B2,0,none⟩).run P W= .ok v2 W) (l3:(loadVar t3 ⟨B3,0,none⟩).run P W= .ok v3 W):(results fn tmps).run P W= .ok (.tuple #[v1,v2,v3]) W:=by
 have h1':tmps[p]?.getD undef= .pointer (some ⟨B1,0,none⟩):=by simpa using h1
 have h2':tmps[q]?.getD undef= .pointer (some ⟨B2,0,none⟩):=by simpa using h2
 have h3':tmps[r]?.getD undef= .pointer (some ⟨B3,0,none⟩):=by simpa using h3
 simp[results,h,h1',h2',h3',asAddr,l1,l2,l3]
structure Res3 (W:World) (lo:Nat) (v1 v2 v3:Value):Prop where
 b1:Boxed W lo 59 v1
 b2:Boxed W (lo+1) 3 v2
 b3:Boxed W (lo+2) 36 v3
theorem Res3.results {W:World} {lo:Nat} {v1 v2 v3:Value} (h:Res3 W lo v1 v2 v3) {tmps:Array Value} (h1:tmps.getD 4 undef= .pointer (some ⟨lo,0,none⟩)) (h2:tmps.getD 5 undef= .pointer (some ⟨lo+1,0,none⟩)) (h3:tmps.getD 6 undef= .pointer (some ⟨lo+2,0,none⟩)):
 (results Tryz.f159 tmps).run Tryz.prog W= .ok (.tuple #[v1,v2,v3]) W:=
 results_three (p:=4) (q:=5) (r:=6) rfl tmps W lo (lo+1) (lo+2) v1 v2 v3 h1 h2 h3 (run_loadVar_one W lo _ _ _ Tryz.underlying59 rfl h.b1.cell) (run_loadVar_one W (lo+1) _ _ _ Tryz.underlying3 rfl h.b2.cell) (run_loadVar_one W (lo+2) _ _ _ Tryz.underlying36 rfl h.b3.cell)
theorem Res3.new (w:World):Res3 (((w.alloc (.cells #[.slice none 0 0] 59)).alloc (.cells #[.int .i64 0] 3)).alloc (.cells #[.int .i64 0] 36)) w.heap.size (.slice none 0 0) (.int .i64 0) (.int .i64 0):=by
 have h1:=Boxed.new w 59 (.slice none 0 0);have h2:=Boxed.new (w.alloc (.cells #[.slice none 0 0] 59)) 3 (.int .i64 0);have h3:=Boxed.new ((w.alloc (.cells #[.slice none 0 0] 59)).alloc (.cells #[.int .i64 0] 3)) 36 (.int .i64 0);rw[World.size_alloc]at h2;rw[World.size_alloc,World.size_alloc]at h3;exact⟨(h1.alloc _).alloc _,h2.alloc _,h3⟩
theorem Res3.below {A B:World} {lo:Nat} {v1 v2 v3:Value} (h:Res3 A lo v1 v2 v3) (hb:Below A.heap.size A B):Res3 B lo v1 v2 v3:=
 ⟨(hb.block _ h.b1.lt).trans h.b1,(hb.block _ h.b2.lt).trans h.b2,(hb.block _ h.b3.lt).trans h.b3⟩
end Go.Proofs.YtjkipdoebkhkaaaGreatDoor
namespace Go.Proofs.YtjkipdoebkhkaaaGreatDoor
open Go.RowKit Go.Shelf
theorem Txt.form {w:World} {v:Value} {L:List (List UInt8)} (h:Txt w v L):∃ad c,v= .slice ad L.length c:=by
 rcases h with ⟨h1,h2⟩|⟨a,c,h1,_⟩
 ·subst h2;exact⟨none,0,h1⟩
 ·exact⟨some a,c,h1⟩
def sepB (s:List UInt8):Bool:= !s.isEmpty&&(plainL s&&(!fewL s&&(lowerL s==s&&decide (s.length≤63))))
theorem valid_plainS {s:List UInt8} (h:plainL s=true):Lib.validD s=true:=by
 have h1:∀c∈s,c.toNat<128:=by
  unfold plainL at h;rw[List.all_eq_true]at h;exact fun c hc=>by simpa using h c hc
 have:=Lib.validD_ascii s.length s (fun b hb=>h1 b (List.mem_of_mem_take hb));rw[this,List.drop_length];exact Lib.validD_nil
theorem lab_decS {s:List UInt8} (h0:s≠[]) (hp:plainL s=true) (hl:lowerL s=s) (hf:fewL s=false) (h63:s.length≤63):labelL s=(s,0):=by
 rw[labelL_else h0 (valid_plainS hp),hl,if_neg (by rw[hp];simp),if_neg (by rw[hf];simp),finL_ok h63]
theorem labs_plain:∀ {l:List (List UInt8)},l.all sepB=true→labelsM l=some l
 |[],_=>rfl
 |s::l,h=>by
  simp only[List.all_cons,Bool.and_eq_true]at h;obtain⟨h1,h2⟩:=h;simp only[sepB,Bool.and_eq_true,Bool.not_eq_true',beq_iff_eq,decide_eq_true_eq]at h1;obtain⟨h0,hp,hf,hl,h63⟩:=h1;rw[labelsM_cons,lab_decS (fun e=>by rw[e]at h0;cases h0) hp hl hf h63,if_neg (by simp),labs_plain h2]
def hostB (s:List UInt8):Bool:=(s.head? !=some 91)&&(!s.contains 37&&(cutLast (partsL 46 s)==partsL 46 s&&((partsL 46 s).all sepB&&(cleanL s&&(fourT s==some s)))))
theorem host_plain {s:List UInt8} (h:hostB s=true):hostL s=some s:=by
 simp only[hostB,Bool.and_eq_true,Bool.not_eq_true',beq_iff_eq,bne_iff_ne,ne_eq]at h;obtain⟨h0,h37,hc,hl,hcl,hf⟩:=h;have hn:nameL s=some s:=by
  unfold nameL;rw[pctL_plain (fun hm=>by rw[List.contains_iff_mem.2 hm]at h37;cases h37),hc,labs_plain hl];simp only;rw[join_parts]
 unfold hostL;rw[if_neg h0,hn];simp only;rw[hcl,if_neg (by simp),hf]
theorem wrong_plain {L:List (List UInt8)} {s:List UInt8} (hc:checkL L=true) (h:hostB s=true) (hm:machineL s=false):wrongL L s=0:=by
 unfold wrongL;rw[hc,if_neg (by simp),if_pos ⟨host_plain h,hm⟩]
theorem own_plain {L:List (List UInt8)} {s e:List UInt8} (hc:checkL L=true) (h:hostB s=true) (hm:machineL s=false) (hs:(if (partsL 46 s).length<manyL L (partsL 46 s)+1 then ([],0)else (lastL (partsL 46 s) (manyL L (partsL 46 s)+1),0))=(e,0)):ownL L s=(e,0):=by
 unfold ownL;rw[if_pos (wrong_plain hc h hm),hs]
def atU (sch usr host:List UInt8) (p:Int) (path qry:List UInt8) (hq:Bool):UrlL:=⟨sch,usr,[],host,p,path,qry,hq,[],false⟩
theorem at_good {sch usr host path qry:List UInt8} {p:Int} {hq:Bool} (h1:sch=httpB∨sch=httpsB) (h2:∀c∈usr,encB 5 c=false) (h3:hostB host=true) (h4:PortU p sch) (h5:PathU path) (h6:∀c∈qry,encB 3 c=false) (h7:hq=false→qry=[])
 (h8:usr.length+host.length+path.length+qry.length≤1000):GoodU (atU sch usr host p path qry hq):=by
 have ht:=text_sum (atU sch usr host p path qry hq)
 have hs:sch.length≤5:=by rcases h1 with e|e<;>rw[e]<;>decide
 refine⟨h1,h2,(by simp[atU]),host_u (by simp only[atU];omega) (host_plain h3),h4,h5,h6,h7,(by simp[atU]),(by simp[atU]), ?_⟩
 simp only[atU,List.length_nil]at ht⊢
 omega
theorem path_s:PathU [47]:=pathL_good (l:=[]) (by simp) []
end Go.Proofs.YtjkipdoebkhkaaaGreatDoor
