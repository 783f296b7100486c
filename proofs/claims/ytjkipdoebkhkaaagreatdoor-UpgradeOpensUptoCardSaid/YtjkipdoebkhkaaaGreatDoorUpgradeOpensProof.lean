/- UpgradeOpens: for any text the call returns true, and the text reads afterwards as it read before. Conditions: the row's own; the two tables of unicode/utf8 hold what the program's text lays, which the card ties. -/
import Derived.Test.YtjkipdoebkhkaaaGreatDoorCards
import Derived.Test.YtjkipdoebkhkaaaGreatDoorTie
import Derived.Test.YtjkipdoebkhkaaaGreatDoorGUpO
import Derived.Test.YtjkipdoebkhkaaaGreatDoorGLaid
import Derived.Test.YtjkipdoebkhkaaaGreatDoorGOpA
import Derived.Test.YtjkipdoebkhkaaaGreatDoorGUp3
import Derived.Test.YtjkipdoebkhkaaaGreatDoorGLaid
import Derived.WalkKit
import Derived.ProofKit
import Derived.OpenShut
import Derived.ShutString
import Derived.SizedLaws
import Derived.Lib.LaidIn
import Derived.Lay
import Derived.MakeChecks
import Derived.Lib.LaidU8T
import Derived.Deep.DeepHandedRow
import Derived.Deep.DeepWitnessRowRef
namespace Go.Proofs.YtjkipdoebkhkaaaGreatDoor.upgradeOpens
open Go.ChangeShapes Go.WideShapes Go.ChangeAt Go.RowKit Go.Shelf Go.Lib
open Go.ChangeMaps (open_string shut_string)
set_option linter.unusedVariables false
set_option linter.unusedSimpArgs false

theorem own : ownKnob Tryz.prog.godebug = none := by kernel_rfl

theorem bulk_of {H : Type} {ds : List (DataW H)} {K : Nat} (h : Rows.uptoBulkAll ds ≤ K) {j : Nat} {d : DataW H} (hd : ds[j]? = some d) : Rows.uptoBulk d ≤ K := Nat.le_trans (bulk_mem (List.mem_of_getElem? hd)) h
/-- The witness's world: the settled one, the listed variables laid. -/
noncomputable def laidWorld (os : Os) : World := World.laidAll Tryz.prog os Rows.upgradeOpensUptoRow.laid
theorem laid_met (os : Os) (args : Array Value) : laidMet Tryz.prog Rows.upgradeOpensUptoRow.laid ((laidWorld os).forCall (fun _ _ => 0) ⟨#[], args, []⟩).memory :=
  laidMet_laidAll args (by kernel_rfl) (by kernel_rfl)

theorem witness_row (os : Os) {H : Type} (enc : TypeId × Value → H) :
    (Rows.OpenSpec.upto Rows.upgradeOpensSpec).preRow enc Tryz.prog Tryz.f4 Rows.upgradeOpensUptoRow.domain false Rows.upgradeOpensUptoRow.laid ((laidWorld os).forCall (fun _ _ => 0) ⟨#[], #[.agg #[.slice none 0 0, .slice none 0 0, .int .i64 0, .int .i64 0, .bool false, .string ⟨#[]⟩, .string ⟨#[]⟩, .string ⟨#[]⟩, .string ⟨#[]⟩, .int .i64 0, .string ⟨#[]⟩, .string ⟨#[]⟩, .bool false, .string ⟨#[]⟩, .bool false, .int .i64 0]], []⟩).memory #[.agg #[.slice none 0 0, .slice none 0 0, .int .i64 0, .int .i64 0, .bool false, .string ⟨#[]⟩, .string ⟨#[]⟩, .string ⟨#[]⟩, .string ⟨#[]⟩, .int .i64 0, .string ⟨#[]⟩, .string ⟨#[]⟩, .bool false, .string ⟨#[]⟩, .bool false, .int .i64 0]] := by
  have hw : (DataW.whole enc Tryz.prog ((laidWorld os).forCall (fun _ _ => 0) ⟨#[], #[.agg #[.slice none 0 0, .slice none 0 0, .int .i64 0, .int .i64 0, .bool false, .string ⟨#[]⟩, .string ⟨#[]⟩, .string ⟨#[]⟩, .string ⟨#[]⟩, .int .i64 0, .string ⟨#[]⟩, .string ⟨#[]⟩, .bool false, .string ⟨#[]⟩, .bool false, .int .i64 0]], []⟩).memory Tryz.f4.params.toList Rows.upgradeOpensSpec.vars false (#[.agg #[.slice none 0 0, .slice none 0 0, .int .i64 0, .int .i64 0, .bool false, .string ⟨#[]⟩, .string ⟨#[]⟩, .string ⟨#[]⟩, .string ⟨#[]⟩, .int .i64 0, .string ⟨#[]⟩, .string ⟨#[]⟩, .bool false, .string ⟨#[]⟩, .bool false, .int .i64 0]] : Array Value).toList 8).map (fun x => (x.1, x.2.1)) =
      some ([.agg [.agg [.nil, .nil, .lit (.int .i64 0)], .agg [.lit (.int .i64 0), .lit (.bool false)], .agg [.lit (.string []), .lit (.string []), .lit (.string []), .lit (.string []), .lit (.int .i64 0), .lit (.string []), .lit (.string []), .lit (.bool false), .lit (.string []), .lit (.bool false)], .lit (.int .i64 0)]], []) := by kernel_rfl
  obtain ⟨⟨x1, x2, x3⟩, hx, hx1⟩ := Option.map_eq_some_iff.1 hw
  simp only [Prod.mk.injEq] at hx1
  obtain ⟨rfl, rfl⟩ := hx1
  exact OpenSpec.preRow_of_cond 8 hx (by kernel_rfl) (fun k hk => by cases hk; kernel_rfl) (by kernel_rfl) (laid_met os _)

theorem tys : ∀ t ∈ Tryz.f4.params.toList, Tryz.prog.readableRec t = true ∧ t < Tryz.prog.types.size := fun t ht => by
  have := List.all_eq_true.1 (show (Tryz.f4.params.toList.all fun t => Tryz.prog.readableRec t && decide (t < Tryz.prog.types.size)) = true by kernel_rfl) t ht
  simpa using this

set_option maxRecDepth 100000 in
set_option maxHeartbeats 2000000 in
theorem lifted (os : Os) (started : os.Started) (H : Type) (enc : TypeId × Value → H) (F : Stop.Interp) :
    ReturnsInHanded {} Tryz.checked os 4 .any ((Rows.OpenSpec.upto Rows.upgradeOpensSpec).preRow enc Tryz.prog Tryz.f4 Rows.upgradeOpensUptoRow.domain false Rows.upgradeOpensUptoRow.laid) (((Rows.OpenSpec.upto Rows.upgradeOpensSpec).at F).post enc Tryz.prog Tryz.f4 false true false false) := by
  refine returnsInHanded_of_row (C := Tryz.checked) (s := Rows.OpenSpec.upto Rows.upgradeOpensSpec) own started (by kernel_rfl) Tryz.func4
    (witness_row_atRef (enc := enc) (C := Tryz.checked) false (laidWorld os) #[.agg #[.slice none 0 0, .slice none 0 0, .int .i64 0, .int .i64 0, .bool false, .string ⟨#[]⟩, .string ⟨#[]⟩, .string ⟨#[]⟩, .string ⟨#[]⟩, .int .i64 0, .string ⟨#[]⟩, .string ⟨#[]⟩, .bool false, .string ⟨#[]⟩, .bool false, .int .i64 0]] (World.laidAll_os _ _ _) (by kernel_rfl) (by kernel_rfl) (by kernel_rfl) (witness_row os enc)) ?_
  intro W base args ds gs before hval0 hW _ hcond hsz0 hL hsh _
  have hsz : (DataW.weightsEach Tryz.prog (Tryz.f4.params.toList ++ Rows.upgradeOpensSpec.plain.varTypes Tryz.prog) (ds ++ gs)).all (· ≤ reachBytes) = true := hsz0
  clear hsz0
  have hk0 : Rows.uptoBulkAll (ds ++ gs) ≤ 1048576 := of_decide_eq_true (hcond _ rfl)
  have hL0 : laidMet Tryz.prog Rows.upgradeOpensUptoRow.laid W := by first | exact hL | (rw [MakeChecks.laidMetH_plain _ _ _ (by kernel_rfl)] at hL; exact hL)
  have hval : ∀ (j : Nat) t v, Tryz.f4.params[j]? = some t → args[j]? = some v → Value.okWide Tryz.prog W .any base t v := hval0
  have hW' := hW
  obtain ⟨p, q, hA0, hV, rfl, hfz, hnd⟩ := hW
  have hA : DataW.TrodAll enc Tryz.prog W 0 (fun _ => true) true Tryz.f4.params.toList args.toList ds p := hA0
  rw [Tryz.params4] at hA hval hsz
  obtain ⟨v0, vs0, d0, ds0, p0, q0, hargs, rfl, rfl, h0, r0⟩ := trodAll_cons hA
  obtain ⟨rfl, rfl, rfl⟩ := trodAll_nil r0
  obtain rfl : args = #[v0] := by cases args; simp_all
  obtain ⟨rfl, rfl⟩ := trodVars_none hV
  obtain ⟨cs0, rfl, cz0⟩ := okWide_struct Tryz.underlying31 (hval 0 31 v0 rfl rfl)
  obtain ⟨fu0, hf0⟩ := h0
  obtain ⟨ka0, kb0, kn0, kg0, kq0, ku0, kw0, kJ0, kS0, e0, ⟨hJ0, zJ0, lJ0⟩, ⟨hS0, zS0, lS0⟩, zu0⟩ := opens_WishingR fu0 _ _ hf0 ⟨weights_one hsz (j := 0) (t := 31) rfl rfl, bulk_of hk0 (j := 0) rfl⟩
  obtain rfl : cs0 = (wishC ka0 kb0 kn0 kg0 kq0 ku0 kw0).toArray := (show cs0 = cs0.toList.toArray from rfl).trans (congrArg List.toArray e0)
  clear hval0
  have hE : Env W := env_of_laid hsh hL0.tail.tail.tail.tail
  have hT : Lib.Utf8Tabs (validRen.g 3) (validRen.g 4) W :=
    utf8Tabs_of_readsT (U8Types.of196 validLays) ⟨by kernel_rfl, by kernel_rfl, by kernel_rfl, by kernel_rfl, by kernel_rfl, by kernel_rfl, by kernel_rfl⟩ (Lib.laidMet.reads hL0 (.tail _ (.tail _ (.tail _ (.tail _ (.tail _ (.tail _ (.head _)))))))) (Lib.laidMet.reads hL0 (.tail _ (.tail _ (.tail _ (.head _)))))
  have e_pow_of_reads : (Rows.laid_internal_strconv_uint64pow10 : DataW Unit) = Lib.tabData .u64 Lib.pow10Tab := by kernel_rfl
  have r_pow_of_reads := Lib.laidMet.reads (n := "internal/strconv.uint64pow10") (d := Rows.laid_internal_strconv_uint64pow10) hL0 (.tail _ (.tail _ (.head _)))
  rw [e_pow_of_reads] at r_pow_of_reads
  have e_deb_of_reads : (Rows.laid_math_bits_deBruijn64tab : DataW Unit) = Lib.tabData .u8 debTab := by kernel_rfl
  have r_deb_of_reads := Lib.laidMet.reads (n := "math/bits.deBruijn64tab") (d := Rows.laid_math_bits_deBruijn64tab) hL0 (.tail _ (.head _))
  rw [e_deb_of_reads] at r_deb_of_reads
  have hH : EnvH W := ⟨⟨hE, hT⟩, pow_of_reads r_pow_of_reads, deb_of_reads r_deb_of_reads⟩
  have hk := opens_top ka0 kb0 kn0 kg0 kq0 ku0 kw0 kJ0 kS0 W hJ0 zJ0 lJ0 hS0 zS0 lS0 zu0 hH
  try simp only [Lib.mk_data] at hk
  refine hk.mono fun e W' ⟨he, hg⟩ => ?_
  subst he
  exact ⟨_, rfl, post_of_below hW' (fun _ _ _ => (trodAll_cons_mk (shut_bool Tryz.underlying4 _) trodAll_mk0)) (fun sp hsp => trodAll_stays (by kernel_rfl) tys hA0 (fun p hp => hg.same (hW'.lt p (List.mem_append_left _ hp))) (fun p hp => hsp p (List.mem_append_left _ hp))) (fun _ _ => rfl) rfl
    hg (ok_one (by kernel_rfl) rfl (okWide_bool_mk Tryz.underlying4 _))⟩

/- Each closed fact that runs over the whole program by itself: together they are more than the kernel's memory bears. -/
theorem k_inPlace : (Rows.upgradeOpensUptoRow.inPlace == Tryz.pinned.checked.prog.inPlace 4) = true := by kernel_rfl
theorem k_unfollowed : (Rows.upgradeOpensUptoRow.unfollowed == Tryz.pinned.checked.prog.unfollowed 4) = true := by kernel_rfl
theorem k_recurses : (Rows.upgradeOpensUptoRow.recurses == Tryz.pinned.checked.prog.recurses 4) = true := by kernel_rfl
theorem k_named : (Rows.upgradeOpensUptoRow.named == Tryz.pinned.checked.prog.varsNamed 4) = true := by kernel_rfl
theorem closed_all : joinedFacts Tryz.pinned.checked.prog 4 Tryz.f4 (Rows.OpenSpec.upto Rows.upgradeOpensSpec).bare Rows.upgradeOpensUptoRow = true := by
  unfold joinedFacts
  rw [k_inPlace, k_unfollowed, k_recurses, k_named]
  kernel_rfl
theorem is_instance : Tryz.f4.isInstance Tryz.pinned.checked.prog Rows.upgradeOpensUptoRow.origin Rows.upgradeOpensUptoRow.targs := of_decide_eq_true (by kernel_rfl)
theorem is_wrapper : Tryz.f4.isWrapper Tryz.pinned.checked.prog Rows.upgradeOpensUptoRow.wrapper Rows.upgradeOpensUptoRow.mainSum := by unfold Func.isWrapper; first | (rw [if_pos (by decide +kernel)]; kernel_rfl) | (rw [if_neg (by decide +kernel)]; exact ⟨rfl, rfl⟩)
theorem func_named : Tryz.pinned.checked.prog.funcNamed Rows.upgradeOpensUptoRow.func = some 4 := by kernel_rfl
theorem said : Rows.UpgradeOpensUptoSaid :=
  OpenClaim.holds_of_cond 4 Tryz.f4 rfl rfl rfl rfl rfl rfl rfl ⟨rfl, rfl, rfl, rfl, rfl⟩ rfl rfl rfl rfl rfl func_named Tryz.func4 closed_all
    is_instance is_wrapper
    (fun os started H enc _ F => by rw [OpenClaim.pre_eq_preRow]; exact lifted os started H enc F)

/-- What the card asks of the parameters and of the looks. -/
theorem plainP (f : FuncId) (fn : Func) (hf : Tryz.pinned.checked.prog.funcNamed "footman/footmanlaw16.UpgradeOpens" = some f) (hfn : Tryz.pinned.checked.prog.funcs[f]? = some fn) :
    true = Tryz.pinned.checked.prog.looks [] ∧ ∀ (j : Nat) t, fn.params[j]? = some t → Tryz.pinned.checked.prog.wantsStandIn t = false := by
  obtain rfl : f = 4 := Option.some.inj ((show Tryz.prog.funcNamed "footman/footmanlaw16.UpgradeOpens" = some 4 by kernel_rfl).symm.trans hf) |>.symm
  obtain rfl : fn = Tryz.f4 := (Option.some.inj (Tryz.func4.symm.trans hfn)).symm
  refine ⟨by kernel_rfl, fun j t ht => ?_⟩
  have := List.all_eq_true.1 (show (Tryz.f4.params.toList.all fun t => !Tryz.prog.wantsStandIn t) = true by kernel_rfl) t (Array.mem_toList_iff.2 (Array.mem_of_getElem? ht))
  exact (show Tryz.prog.wantsStandIn t = false by simpa using this)

/-- The statement: the card. -/
theorem k_wf : Rows.upgradeOpensUptoRow.wfByText (Rows.OpenSpec.upto Rows.upgradeOpensSpec) = true := by kernel_rfl
theorem k_main : Tryz.pinned.checked.prog.mainIs = some (Rows.upgradeOpensUptoCard.stood.harness.1, Rows.upgradeOpensUptoCard.stood.harness.2.toList) := by kernel_rfl
theorem k_goes : false = Rows.upgradeOpensUptoRow.goesBy Tryz.pinned.checked.prog := by kernel_rfl
theorem proved : Rows.UpgradeOpensUptoCardSaid :=
  Claim7.holds_tied_plain_at .later [] _ _ _ _ said (fun _ h => by cases h) k_wf (fun _ h => by cases h) upgradeOpensUpto_row_tie rfl ⟨rfl, rfl⟩ k_main rfl plainP k_goes
#print axioms proved
end Go.Proofs.YtjkipdoebkhkaaaGreatDoor.upgradeOpens
