/- Contracts: strings.Cut at a separator of one byte; strings.HasPrefix, TrimRight, Trim in lists' words. -/
import Derived.Test.YtfnpfbgnhncgpaaDoorSStr
import Derived.Test.YtfnpfbgnhncgpaaDoorEngS
import Derived.Test.YtfnpfbgnhncgpaaDoorShelf
import Derived.Shelf.Strings.SlTrimAscii
namespace Go.Proofs.YtfnpfbgnhncgpaaDoor
set_option linter.unusedVariables false
set_option linter.unusedSimpArgs false
set_option linter.defProp false
open Eng Go.RowKit

theorem ix_cases (c : UInt8) : ∀ l : List UInt8, (Lib.indexByte l c = -1 ∧ l.takeWhile (fun x => x != c) = l ∧ l.dropWhile (fun x => x != c) = []) ∨
    ∃ i : Nat, Lib.indexByte l c = i ∧ i < l.length ∧ l.takeWhile (fun x => x != c) = l.take i ∧ l.dropWhile (fun x => x != c) = l.drop i
  | [] => .inl ⟨rfl, rfl, rfl⟩
  | b :: l => by
    by_cases h : b = c
    · subst h
      exact .inr ⟨0, by simp [Lib.indexByte], by simp, by simp, by simp⟩
    · have hb : (b == c) = false := by simpa using h
      have hb2 : (b != c) = true := by simpa using h
      rcases ix_cases c l with ⟨h1, h2, h3⟩ | ⟨i, h1, h2, h3, h4⟩
      · exact .inl ⟨by simp [Lib.indexByte, hb, h1], by simp [hb2, h2], by simp [hb2, h3]⟩
      · refine .inr ⟨i + 1, ?_, by simp; omega, by simp [hb2, h3], by simp [hb2, h4]⟩
        have e : ((i : Int) == -1) = false := by simp
        simp only [Lib.indexByte, hb, h1, e, Bool.false_eq_true, if_false]
        omega

theorem cut_ret (s : List UInt8) (c : UInt8) (w : World) (hs : s.length ≤ 4611686018427387904) : Ret Tryd.prog 67 #[.string ⟨s.toArray⟩, .string ⟨#[c]⟩] w
    (fun v w' => (∃ b, v = .tuple #[.string ⟨(s.takeWhile (fun x => x != c)).toArray⟩, .string ⟨((s.dropWhile (fun x => x != c)).drop 1).toArray⟩, .bool b]) ∧ Below w.heap.size w w') := by
  have inner : Ret Tryd.prog 124 #[.string ⟨s.toArray⟩, .string ⟨#[c]⟩] w
      (fun v w' => (∃ b, v = .tuple #[.string ⟨(s.takeWhile (fun x => x != c)).toArray⟩, .string ⟨((s.dropWhile (fun x => x != c)).drop 1).toArray⟩, .bool b]) ∧ Below w.heap.size w w') := by
    refine ret_of fun K hK => S_internal_stringslite_Cut_ok ?_
    unfold S_internal_stringslite_Cut
    refine c_any (Tryd.stringslite_Index_one ⟨s.toArray⟩ c w) ?_
    rintro e w' ⟨rfl, rfl⟩
    simp only [Cont, rs]
    rcases ix_cases c s with ⟨h1, h2, h3⟩ | ⟨i, h1, h2, h3, h4⟩
    · rw [h1]
      simp only [show ¬ ((0 : Int) ≤ -1) by omega, decide_false, rs]
      exact hK _ _ ⟨⟨false, by rw [h2, h3]; rfl⟩, Below.refl _ _⟩
    · rw [h1]
      have e0 : (0 : Int) ≤ (i : Int) := by omega
      simp only [e0, decide_true, rs]
      refine quiet (q_do (.string ⟨(s.take i).toArray⟩) (fun w => ?_) (q_do (.int .i64 1) (fun w => ?_) (q_do _ (fun w => r_add) (q_do (.string ⟨(s.drop (i + 1)).toArray⟩) (fun w => ?_) ?_))))
      · rw [run_upto Tryd.underlying9 (by omega) (by omega)]; simp
      · exact run_len (l := [c]) Tryd.underlying9
      · rw [wrap64_id (by omega) (by omega), run_from Tryd.underlying9 (by omega) (by omega)]
        rw [show ((i : Int) + 1).toNat = i + 1 by omega]
      · intro wc hw
        exact hK _ _ ⟨⟨true, by rw [h3, h4, List.drop_drop]⟩, hw⟩
  refine ret_of fun K hK => S_strings_Cut_ok ?_
  unfold S_strings_Cut
  refine c_ret inner ?_
  rintro v w' ⟨⟨b, rfl⟩, hb⟩
  simp only [ex]
  exact hK _ _ ⟨⟨b, rfl⟩, hb⟩

theorem trimRight_ret (s : List UInt8) (c : UInt8) (hc : c.toNat < 128) (w : World) (hs : s.length ≤ 9223372036854775807) : Ret Tryd.prog 69 #[.string ⟨s.toArray⟩, .string ⟨#[c]⟩] w
    (fun v w' => v = .string ⟨(Lib.trimRightB s c).toArray⟩ ∧ w = w') :=
  Calls.mono (Tryd.strings_TrimRight_one ⟨s.toArray⟩ c hc w (by rw [str_size]; exact hs)) (by rintro e w' ⟨rfl, rfl⟩; exact retK ⟨rfl, rfl⟩)
theorem hasPrefix_ret (s p : List UInt8) (w : World) : Ret Tryd.prog 66 #[.string ⟨s.toArray⟩, .string ⟨p.toArray⟩] w (fun v w' => v = .bool (p.isPrefixOf s) ∧ w = w') :=
  Calls.mono (Tryd.strings_HasPrefix ⟨s.toArray⟩ ⟨p.toArray⟩ w) (by rintro e w' ⟨rfl, rfl⟩; exact retK ⟨rfl, rfl⟩)
theorem trim_ret (s cs : List UInt8) (w : World) (hs : s.length ≤ 9223372036854775807) (hcs : cs.length < 4294967281) (ha : cs.all (fun c => decide (c.toNat < 128)) = true) : Ret Tryd.prog 125 #[.string ⟨s.toArray⟩, .string ⟨cs.toArray⟩] w
    (fun v w' => v = .string ⟨(Lib.trimS s cs).toArray⟩ ∧ Below w.heap.size w w') :=
  Calls.mono (Any.strings_Trim_laid Tryd.lays160 (by kernel_rfl) ⟨s.toArray⟩ ⟨cs.toArray⟩ w (by rw [str_size]; exact hs) (by rw [str_size]; exact hcs)
    (fun j b hj => by
      have := List.all_eq_true.1 ha b (List.mem_of_getElem? hj)
      simpa using this)) (by rintro e w' ⟨rfl, h⟩; exact retK ⟨rfl, h⟩)
end Go.Proofs.YtfnpfbgnhncgpaaDoor
