/- Some suffixes that the document fixes, plain. -/
import Derived.Test.YtaijdjmkmhpmpaaGreatDoorGSu4
set_option linter.unusedVariables false
set_option linter.unusedSimpArgs false
namespace Go.Proofs.YtaijdjmkmhpmpaaGreatDoor

def someL : List (List UInt8) := [[99, 111, 109], [106, 112], [97, 99, 46, 106, 112], [42, 46, 107, 111, 98, 101, 46, 106, 112], [33, 99, 105, 116, 121, 46, 107, 111, 98, 101, 46, 106, 112], [42, 46, 99, 107], [33, 119, 119, 119, 46, 99, 107], [117, 107], [99, 111, 46, 117, 107]]
/-- A part that is told as it stands. -/
def sepB (s : List UInt8) : Bool := !s.isEmpty && (plainL s && (!fewL s && (lowerL s == s && decide (s.length ≤ 63))))
theorem valid_plainS {s : List UInt8} (h : plainL s = true) : Lib.validD s = true := by
  have h1 : ∀ c ∈ s, c.toNat < 128 := by
    unfold plainL at h
    rw [List.all_eq_true] at h
    exact fun c hc => by simpa using h c hc
  have := Lib.validD_ascii s.length s (fun b hb => h1 b (List.mem_of_mem_take hb))
  rw [this, List.drop_length]
  exact Lib.validD_nil
theorem lab_decS {s : List UInt8} (h0 : s ≠ []) (hp : plainL s = true) (hl : lowerL s = s) (hf : fewL s = false) (h63 : s.length ≤ 63) : labelL s = (s, 0) := by
  rw [labelL_else h0 (valid_plainS hp), hl, if_neg (by rw [hp]; simp), if_neg (by rw [hf]; simp), finL_ok h63]
theorem labs_plain : ∀ {l : List (List UInt8)}, l.all sepB = true → labelsM l = some l
  | [], _ => rfl
  | s :: l, h => by
    simp only [List.all_cons, Bool.and_eq_true] at h
    obtain ⟨h1, h2⟩ := h
    simp only [sepB, Bool.and_eq_true, Bool.not_eq_true', beq_iff_eq, decide_eq_true_eq] at h1
    obtain ⟨h0, hp, hf, hl, h63⟩ := h1
    rw [labelsM_cons, lab_decS (fun e => by rw [e] at h0; cases h0) hp hl hf h63, if_neg (by simp), labs_plain h2]
def hostB (s : List UInt8) : Bool := (s.head? != some 91) && (!s.contains 37 && (cutLast (partsL 46 s) == partsL 46 s && ((partsL 46 s).all sepB && (cleanL s && (fourT s == some s)))))
theorem host_plain {s : List UInt8} (h : hostB s = true) : hostL s = some s := by
  simp only [hostB, Bool.and_eq_true, Bool.not_eq_true', beq_iff_eq, bne_iff_ne, ne_eq] at h
  obtain ⟨h0, h37, hc, hl, hcl, hf⟩ := h
  have hn : nameL s = some s := by
    unfold nameL
    rw [pctL_plain (fun hm => by rw [List.contains_iff_mem.2 hm] at h37; cases h37), hc, labs_plain hl]
    simp only
    rw [join_parts]
  unfold hostL
  rw [if_neg h0, hn]
  simp only
  rw [hcl, if_neg (by simp), hf]
theorem wrong_plain {L : List (List UInt8)} {s : List UInt8} (hc : checkL L = true) (h : hostB s = true) (hm : machineL s = false) : wrongL L s = 0 := by
  unfold wrongL
  rw [hc, if_neg (by simp), if_pos ⟨host_plain h, hm⟩]
theorem suf_plain {L : List (List UInt8)} {s e : List UInt8} (hc : checkL L = true) (h : hostB s = true) (hm : machineL s = false) (hs : lastL (partsL 46 s) (manyL L (partsL 46 s)) = e) : suffixL L s = (e, 0) := by
  unfold suffixL
  rw [if_pos (wrong_plain hc h hm), hs]
theorem own_plain {L : List (List UInt8)} {s e : List UInt8} (hc : checkL L = true) (h : hostB s = true) (hm : machineL s = false) (hs : (if (partsL 46 s).length < manyL L (partsL 46 s) + 1 then ([], 0) else (lastL (partsL 46 s) (manyL L (partsL 46 s) + 1), 0)) = (e, 0)) : ownL L s = (e, 0) := by
  unfold ownL
  rw [if_pos (wrong_plain hc h hm), hs]
theorem some_check : checkL someL = true := by decide +kernel
theorem sal0 : suffixL someL [99, 111, 109] = ([99, 111, 109], 0) := suf_plain some_check (by decide +kernel) (by decide +kernel) (by decide +kernel)
theorem oal0 : ownL someL [99, 111, 109] = ([], 0) := own_plain some_check (by decide +kernel) (by decide +kernel) (by decide +kernel)
theorem sal1 : suffixL someL [98, 46, 101, 120, 97, 109, 112, 108, 101, 46, 99, 111, 109] = ([99, 111, 109], 0) := suf_plain some_check (by decide +kernel) (by decide +kernel) (by decide +kernel)
theorem oal1 : ownL someL [98, 46, 101, 120, 97, 109, 112, 108, 101, 46, 99, 111, 109] = ([101, 120, 97, 109, 112, 108, 101, 46, 99, 111, 109], 0) := own_plain some_check (by decide +kernel) (by decide +kernel) (by decide +kernel)
theorem sal2 : suffixL someL [98, 46, 99, 46, 107, 111, 98, 101, 46, 106, 112] = ([99, 46, 107, 111, 98, 101, 46, 106, 112], 0) := suf_plain some_check (by decide +kernel) (by decide +kernel) (by decide +kernel)
theorem oal2 : ownL someL [98, 46, 99, 46, 107, 111, 98, 101, 46, 106, 112] = ([98, 46, 99, 46, 107, 111, 98, 101, 46, 106, 112], 0) := own_plain some_check (by decide +kernel) (by decide +kernel) (by decide +kernel)
theorem sal3 : suffixL someL [99, 46, 107, 111, 98, 101, 46, 106, 112] = ([99, 46, 107, 111, 98, 101, 46, 106, 112], 0) := suf_plain some_check (by decide +kernel) (by decide +kernel) (by decide +kernel)
theorem oal3 : ownL someL [99, 46, 107, 111, 98, 101, 46, 106, 112] = ([], 0) := own_plain some_check (by decide +kernel) (by decide +kernel) (by decide +kernel)
theorem sal4 : suffixL someL [119, 119, 119, 46, 99, 105, 116, 121, 46, 107, 111, 98, 101, 46, 106, 112] = ([107, 111, 98, 101, 46, 106, 112], 0) := suf_plain some_check (by decide +kernel) (by decide +kernel) (by decide +kernel)
theorem oal4 : ownL someL [119, 119, 119, 46, 99, 105, 116, 121, 46, 107, 111, 98, 101, 46, 106, 112] = ([99, 105, 116, 121, 46, 107, 111, 98, 101, 46, 106, 112], 0) := own_plain some_check (by decide +kernel) (by decide +kernel) (by decide +kernel)
theorem sal5 : suffixL someL [119, 119, 119, 46, 119, 119, 119, 46, 99, 107] = ([99, 107], 0) := suf_plain some_check (by decide +kernel) (by decide +kernel) (by decide +kernel)
theorem oal5 : ownL someL [119, 119, 119, 46, 119, 119, 119, 46, 99, 107] = ([119, 119, 119, 46, 99, 107], 0) := own_plain some_check (by decide +kernel) (by decide +kernel) (by decide +kernel)
theorem sal6 : suffixL someL [97, 46, 98, 46, 101, 120, 97, 109, 112, 108, 101, 46, 101, 120, 97, 109, 112, 108, 101] = ([101, 120, 97, 109, 112, 108, 101], 0) := suf_plain some_check (by decide +kernel) (by decide +kernel) (by decide +kernel)
theorem oal6 : ownL someL [97, 46, 98, 46, 101, 120, 97, 109, 112, 108, 101, 46, 101, 120, 97, 109, 112, 108, 101] = ([101, 120, 97, 109, 112, 108, 101, 46, 101, 120, 97, 109, 112, 108, 101], 0) := own_plain some_check (by decide +kernel) (by decide +kernel) (by decide +kernel)
theorem sal9 : suffixL someL [49, 46, 50, 46, 51, 46, 52] = ([], 5) := by
  have hw : wrongL someL [49, 46, 50, 46, 51, 46, 52] = 5 := by
    unfold wrongL
    rw [some_check, if_neg (by simp), if_neg (fun h => by have := h.2; rw [show machineL [49, 46, 50, 46, 51, 46, 52] = true by decide +kernel] at this; cases this)]
  unfold suffixL
  rw [hw, if_neg (by simp)]
theorem oal9 : ownL [[33, 99, 111, 109]] [97, 46, 99, 111, 109] = ([], 1) := by
  have hw : wrongL [[33, 99, 111, 109]] [97, 46, 99, 111, 109] = 1 := by
    unfold wrongL
    rw [if_pos (by decide +kernel)]
  unfold ownL
  rw [hw, if_neg (by simp)]
end Go.Proofs.YtaijdjmkmhpmpaaGreatDoor
