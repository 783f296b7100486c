/- The walk of footmanref05.Parts alone, for seats that have no other reference's parts (as RParts and RParts5). -/
import Derived.Test.YtaijdjmkmhpmpaaDoorWords
import Derived.Test.YtaijdjmkmhpmpaaDoorOwn
set_option linter.unusedVariables false
set_option linter.unusedSimpArgs false
namespace Go.Proofs.YtaijdjmkmhpmpaaDoor
open Go.RowKit

theorem e_str : Elem1 Tryd.prog 22 9 (.string ⟨#[]⟩) 16 := ⟨Tryd.underlying22, info_parts (by kernel_rfl), rfl⟩
/-- What a text's part is so far. -/
def cur (s : List UInt8) (f k : Nat) : List UInt8 := List.take (k - f) (List.drop f s)
theorem cur_snoc {s : List UInt8} {f k : Nat} (hf : f ≤ k) (hk : k < s.length) : cur s f (k + 1) = cur s f k ++ [s[k]] := by
  unfold cur
  rw [show k + 1 - f = (k - f) + 1 by omega, List.take_succ_eq_append_getElem (by simp; omega)]
  simp only [List.getElem_drop]
  congr 3
  omega
theorem cur_nil (s : List UInt8) (k : Nat) : cur s k k = [] := by unfold cur; simp
theorem cur_len (s : List UInt8) (f k : Nat) : (cur s f k).length ≤ s.length := by unfold cur; simp; omega
/-- The state of the walk over the parts. -/
def PartsAt (c : UInt8) (s : List UInt8) (done : List (List UInt8)) (f k : Nat) : Prop :=
  f ≤ k ∧ done.length ≤ k ∧ ((k ≤ s.length ∧ partsL c s = done ++ partsA c (cur s f k) (s.drop k)) ∨ (k = s.length + 1 ∧ partsL c s = done))
theorem parts_start (c : UInt8) (s : List UInt8) : PartsAt c s [] 0 0 := ⟨Nat.le_refl _, Nat.zero_le _, .inl ⟨Nat.zero_le _, by rw [cur_nil, partsA_nil]; simp⟩⟩
theorem parts_hit {c : UInt8} {s : List UInt8} {done : List (List UInt8)} {f k : Nat} (h : PartsAt c s done f k) (hk : k < s.length) (hc : s[k] = c) : PartsAt c s (done ++ [cur s f k]) (k + 1) (k + 1) := by
  obtain ⟨h1, h2, h3⟩ := h
  rcases h3 with ⟨_, h3⟩ | ⟨h3, _⟩
  · refine ⟨Nat.le_refl _, by simp; omega, .inl ⟨hk, ?_⟩⟩
    rw [List.drop_eq_getElem_cons hk, hc, partsA_hit] at h3
    rw [h3, cur_nil, partsA_nil]
    simp
  · omega
theorem parts_miss {c : UInt8} {s : List UInt8} {done : List (List UInt8)} {f k : Nat} (h : PartsAt c s done f k) (hk : k < s.length) (hc : s[k] ≠ c) : PartsAt c s done f (k + 1) := by
  obtain ⟨h1, h2, h3⟩ := h
  rcases h3 with ⟨_, h3⟩ | ⟨h3, _⟩
  · refine ⟨by omega, by omega, .inl ⟨hk, ?_⟩⟩
    rw [List.drop_eq_getElem_cons hk, partsA_miss hc] at h3
    rw [h3, cur_snoc h1 hk]
  · omega
theorem parts_last {c : UInt8} {s : List UInt8} {done : List (List UInt8)} {f : Nat} (h : PartsAt c s done f s.length) : PartsAt c s (done ++ [cur s f s.length]) (s.length + 1) (s.length + 1) := by
  obtain ⟨h1, h2, h3⟩ := h
  rcases h3 with ⟨_, h3⟩ | ⟨h3, _⟩
  · refine ⟨Nat.le_refl _, by simp; omega, .inr ⟨rfl, ?_⟩⟩
    rw [List.drop_length, partsA_end] at h3
    exact h3
  · omega
theorem parts_done {c : UInt8} {s : List UInt8} {done : List (List UInt8)} {f : Nat} (h : PartsAt c s done f (s.length + 1)) : partsL c s = done := by
  obtain ⟨h1, h2, h3⟩ := h
  rcases h3 with ⟨h3, _⟩ | ⟨_, h3⟩
  · omega
  · exact h3

set_option maxRecDepth 100000 in
set_option maxHeartbeats 2000000 in
theorem rParts_any (s : List UInt8) (w : World) (hs : s.length ≤ 4000000000) :
    Calls Tryd.prog 32 #[.string ⟨s.toArray⟩] w fun e w' => ∃ v, e = .returned v ∧ w'.ownsRow w.heap.size 9 1 v (partsL 46 s).length (strs (partsL 46 s)) ∧ Below w.heap.size w w' := by
  go_enter Tryd.func32, Tryd.ntmps32
  go_wp2_with fail
  go_loopw [3, 4, 5] (fun v fv i wr => ∃ (k f : Nat) (done : List (List UInt8)), k ≤ s.length + 1 ∧ i = .int .i64 k ∧ fv = .int .i64 f ∧ Hid (PartsAt 46 s done f k) ∧ wr.ownsRow w.heap.size 9 1 v done.length (strs done) ∧ Below w.heap.size w wr) (fun _ _ i _ => s.length + 1 - (intOf i).toNat)
  case atStart => exact ⟨0, 0, [], Nat.zero_le _, rfl, rfl, parts_start 46 s, World.ownsRow_nil _ _ _ _, Below.refl _ _⟩
  case round =>
    obtain ⟨k, f, done, hk, rfl, rfl, H, hown, hbl⟩ := hrel
    have hsz := hbl.size
    obtain ⟨hfk, hdk, _⟩ := H.out
    by_cases hlt : k < s.length
    · by_cases hc : s[k] = 46
      · have HN := Lib.hid (parts_hit H.out hlt hc)
        have hc1 : (s[k].toNat : Int) = 46 := by rw [hc]; try rfl
        have hcl := cur_len s f k
        have hce : List.take (k - f) (List.drop f s) = cur s f k := rfl
        generalize cur s f k = X at *
        clear hc
        go_wp2_with (at_builtin; refine wpList_append_vals e_str _ rfl _ _ rfl w.heap.size _ _ _ rfl hown _ _ _ rfl rfl (fun u hu => by simp only [List.mem_cons, List.not_mem_nil, or_false] at hu; rcases hu with rfl; rfl) (by simp; omega) (by simp; omega) hsz ?_)
        intro v' w2 hown2 hgr _
        go_wp2_with fail
        go_roundw
        case rel => exact ⟨k + 1, k + 1, _, by omega, by go_num, by go_num, HN, by simpa using hown2, hbl.grown hgr hsz (fun g' hg' => (hown.lt g' hg').1)⟩
        case measure => simp [intOf]; try omega

      · have HN := Lib.hid (parts_miss H.out hlt hc)
        have hc1 : ¬ (s[k].toNat : Int) = 46 := fun h => hc (UInt8.toNat_inj.1 (show s[k].toNat = 46 by omega))
        have hc2 : ((s[k].toNat : Int) == 46) = false := by rw [beq_eq_false_iff_ne]; exact hc1
        have hc3 : ((k : Int) == (s.length : Int)) = false := by rw [beq_eq_false_iff_ne]; omega
        have hc4 : ¬ k = s.length := by omega
        have hc5 : ¬ s[k].toNat = 46 := by omega
        clear hc
        go_wp2_with fail
        go_roundw
        case rel => exact ⟨k + 1, f, done, by omega, by go_num, rfl, HN, hown, hbl⟩
        case measure => simp [intOf]; omega
    · by_cases he : k = s.length
      · subst he
        have HN := Lib.hid (parts_last H.out)
        have hcl := cur_len s f s.length
        have hce : List.take (s.length - f) (List.drop f s) = cur s f s.length := rfl
        generalize cur s f s.length = X at *
        go_wp2_with (at_builtin; refine wpList_append_vals e_str _ rfl _ _ rfl w.heap.size _ _ _ rfl hown _ _ _ rfl rfl (fun u hu => by simp only [List.mem_cons, List.not_mem_nil, or_false] at hu; rcases hu with rfl; rfl) (by simp; omega) (by simp; omega) hsz ?_)
        intro v' w2 hown2 hgr _
        go_wp2_with fail
        go_roundw
        case rel => exact ⟨s.length + 1, s.length + 1, _, by omega, by go_num, by go_num, HN, by simpa using hown2, hbl.grown hgr hsz (fun g' hg' => (hown.lt g' hg').1)⟩
        case measure => simp [intOf]; try omega

      · obtain rfl : k = s.length + 1 := by omega
        have HD := Lib.hid (parts_done H.out)
        go_wp2_with fail
        go_ret
        exact ⟨_, rfl, by rw [HD.out]; exact hown, hbl⟩
end Go.Proofs.YtaijdjmkmhpmpaaDoor
