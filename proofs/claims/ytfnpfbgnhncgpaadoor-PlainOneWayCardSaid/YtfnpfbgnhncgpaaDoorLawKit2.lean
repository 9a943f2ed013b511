/- What the rows of the laws of layer 4 and later ask besides: laid tables; slices of strings that came in. -/
import Derived.Test.YtfnpfbgnhncgpaaDoorLawKit
import Derived.Test.YtfnpfbgnhncgpaaDoorPlC
import Derived.SliceStrings
namespace Go.Proofs.YtfnpfbgnhncgpaaDoor
set_option linter.unusedVariables false
set_option linter.unusedSimpArgs false
set_option linter.defProp false
open Eng Go.RowKit Go.ChangeShapes Go.WideShapes Go.ChangeAt
theorem laidMet_tail {P : Program} {x : String × DataW Unit} {l : List (String × DataW Unit)} {W : World} (h : laidMet P (x :: l) W) : laidMet P l W := by
  obtain ⟨ps, ⟨g, t, cs, fuel, p, q, _, _, _, _, hr, rfl⟩, hn, hc⟩ := h
  exact ⟨q, hr, (List.nodup_append.1 hn).2.1, fun b off hm => hc b off (by simp [hm])⟩
/-- A slice of strings that came in. -/
theorem open_sl_str {H : Type} {enc : TypeId × Value → H} {P : Program} {W : World} {sp : Nat → Bool} {held : Bool} {b0 : Nat} {t e : TypeId} {v : Value} {d : DataW H} {ps : List MemPlace} (ht : P.underlying t = some (.slice e)) (he : P.underlying e = some .string) (hc : P.cellsOf e = 1)
    (hval : Value.okWide P W .any b0 t v) (hd : DataW.Trod enc P W 0 sp held t v d ps) : ∃ zs : List (List UInt8), Sl W v 1 zs.length (strsV zs) ∧ zs.length ≤ 9223372036854775807 ∧ ∀ p ∈ zs, p.length ≤ 9223372036854775807 := by
  obtain ⟨a, len, cap, rfl⟩ := okWide_slice ht hval
  obtain ⟨fuel, hf⟩ := hd
  rcases open_strings ht he hc hf with ⟨hcs, hx⟩ | ⟨a', len', cap', zs, hcs, _, hl, hm, hz, hx, hcell, hwz⟩
  · simp [Value.cells] at hcs
    obtain ⟨rfl, rfl, rfl⟩ := hcs
    exact ⟨[], Sl.nil _ _ _, by simp, by simp⟩
  · simp [Value.cells] at hcs
    obtain ⟨rfl, rfl, rfl⟩ := hcs
    have hlz : len ≤ zs.length := by rw [hz]; split <;> omega
    have htl : (zs.take len).length = len := by simp; omega
    have hml : len ≤ 9223372036854775807 := by simp only [maxLen] at hm; omega
    refine ⟨(zs.take len).map (·.data.toList), ?_, by rw [List.length_map, htl]; exact hml, fun p hp => ?_⟩
    · rw [List.length_map, htl]
      refine ⟨by simp [strsV]; omega, some a', cap, rfl, (fun h => by cases h), fun p hp => ?_⟩
      cases hp
      have hplain : ∀ i, i < zs.length → a'.spot = none := by
        intro i hi
        have h0 := hcell 0 (by omega)
        have e0 : a'.add 0 = a' := by simp [Addr.add]
        rw [e0] at h0
        unfold World.cell? at h0
        split at h0
        · split at h0
          · cases h0
          · rename_i hh; simpa using hh
        · cases h0
      refine ⟨fun h => hplain 0 (by omega), fun j u hj => ?_⟩
      have hjl : j < len := by
        have := (List.getElem?_eq_some_iff.1 hj).1
        simp [strsV] at this; omega
      have hs := hplain j (by omega)
      have h1 := hcell j (by omega)
      obtain ⟨b, off, spot⟩ := a'
      simp only at hs
      subst hs
      have e1 : (⟨b, off, none⟩ : Addr).add j = ⟨b, off + j, none⟩ := by unfold Addr.add; split <;> simp_all
      rw [e1] at h1
      rw [h1, ← hj]
      simp [strsV, strV, List.getElem?_take, hjl, List.getD, List.getElem?_eq_getElem (show j < zs.length by omega)]
    · obtain ⟨s, hs, rfl⟩ := List.mem_map.1 hp
      have := hwz s (List.mem_of_mem_take hs)
      rw [Lib.size_eq] at this
      simpa [maxLen] using this
end Go.Proofs.YtfnpfbgnhncgpaaDoor
