/- Contracts: octet (White, Delim, Regular, Hex) and plain (Int, Real, Hex, Pad) of the program. -/
import Derived.Test.YtfnpfbgnhncgpaaDoorPlain04
import Derived.Test.YtfnpfbgnhncgpaaDoorLibBld
import Derived.Test.YtfnpfbgnhncgpaaDoorSPlain
import Derived.Test.YtfnpfbgnhncgpaaDoorFixT
namespace Go.Proofs.YtfnpfbgnhncgpaaDoor
set_option linter.unusedVariables false
set_option linter.unusedSimpArgs false
set_option linter.defProp false
open Eng Go.RowKit

/-- strconv's table of powers of ten is as it was laid. -/
abbrev Tb (w : World) : Prop := Lib.TabIs Tryd.prog w "internal/strconv.uint64pow10" .u64 Lib.pow10Tab

theorem indexByte_ret (l : List UInt8) (c : UInt8) (w : World) : Ret Tryd.prog 86 #[.string ⟨l.toArray⟩, .int .u8 c.toNat] w (fun v w' => v = .int .i64 (Lib.indexByte l c) ∧ w = w') := by
  refine Calls.mono (Tryd.strings_IndexByte ⟨l.toArray⟩ c.toNat w) ?_
  rintro e w' ⟨rfl, rfl⟩
  refine retK ⟨?_, rfl⟩
  simp
theorem white_ret (c : UInt8) (w : World) : Ret Tryd.prog 134 #[.int .u8 c.toNat] w (fun v w' => v = .bool (Oc.white c) ∧ w = w') := by
  refine ret_of fun K hK => S_octet_White_ok ?_
  unfold S_octet_White
  refine c_eq (indexByte_ret Oc.whites c w) ?_
  simp only [rs, Oc.indexByte_nonneg]
  exact hK _ _ ⟨rfl, rfl⟩
theorem delim_ret (c : UInt8) (w : World) : Ret Tryd.prog 88 #[.int .u8 c.toNat] w (fun v w' => v = .bool (Oc.delim c) ∧ w = w') := by
  refine ret_of fun K hK => S_octet_Delim_ok ?_
  unfold S_octet_Delim
  refine c_eq (indexByte_ret Oc.delims c w) ?_
  simp only [rs, Oc.indexByte_nonneg]
  exact hK _ _ ⟨rfl, rfl⟩
theorem regular_ret (c : UInt8) (w : World) : Ret Tryd.prog 91 #[.int .u8 c.toNat] w (fun v w' => v = .bool (Oc.regular c) ∧ w = w') := by
  refine ret_of fun K hK => S_octet_Regular_ok ?_
  unfold S_octet_Regular
  refine c_eq (white_ret c w) ?_
  cases hw : Oc.white c with
  | true => simp only [rs]; exact hK _ _ ⟨by simp [Oc.regular, hw], rfl⟩
  | false =>
    simp only [rs]
    refine c_eq (delim_ret c w) ?_
    simp only [rs]
    exact hK _ _ ⟨by simp [Oc.regular, hw], rfl⟩
theorem shr4 (c : UInt8) : (c.toNat : Int).fdiv (2 ^ (min (4 : Int).toNat IntKind.u8.bits)) = ((c.toNat / 16 : Nat) : Int) := by
  rw [Int.fdiv_eq_ediv_of_nonneg _ (by decide)]
  show ((c.toNat : Int) / 16) = _
  omega
theorem and15_fin : ∀ n : Fin 256, bAnd .u8 (n.val : Int) 15 = ((n.val % 16 : Nat) : Int) := by decide +kernel
theorem and15 (c : UInt8) : bAnd .u8 (c.toNat : Int) 15 = ((c.toNat % 16 : Nat) : Int) := and15_fin ⟨c.toNat, c.toNat_lt⟩
theorem hexD_get (k : IntKind) {n : Nat} (h : n < 16) (w : World) : (mIx 9 (.string ⟨#[48, 49, 50, 51, 52, 53, 54, 55, 56, 57, 65, 66, 67, 68, 69, 70]⟩) (.int k (n : Int))).run Tryd.prog w = .ok (.value (.int .u8 (Oc.hexD n).toNat)) w :=
  run_s_ix (a := Oc.hexs) (c := Oc.hexD n) Tryd.underlying9 (by omega) (by rw [Int.toNat_natCast]; exact Oc.hexs_get h)
theorem hex_ret (l : List UInt8) (w : World) (hl : l.length ≤ 1000000) : Ret Tryd.prog 85 #[.string ⟨l.toArray⟩] w (fun v w' => v = .string ⟨(Oc.hex l).toArray⟩ ∧ Below w.heap.size w w') := by
  refine ret_of fun K hK => S_octet_Hex_ok ?_
  unfold S_octet_Hex
  rw [s_len Tryd.underlying9]
  simp only [rs]
  rw [wrap64_id (by omega) (by omega)]
  refine o_make (c := 2 * l.length) (by omega) Tryd.underlying64 (show elB Tryd.prog 5 1 1 = true by kernel_rfl) (by omega) (by omega) (Own.start w) fun v w1 h1 => ?_
  rw [s_len Tryd.underlying9]
  refine loop (fun vs w' => ∃ (i : Nat) (v : Value), vs = [v, .int .i64 i] ∧ i ≤ l.length ∧ Own w w' [.row 5 1 v (2 * i) (bytesV (Oc.hex (l.take i)))])
    (fun vs _ => l.length - n1 vs) ⟨0, v, rfl, by omega, by simpa [Oc.hex, bytesV] using h1⟩ ?_
  rintro vs w2 ⟨i, v, rfl, hi, ho⟩ _
  simp only [S_octet_Hex_0, gd, rs]
  by_cases hlt : (i : Int) < (l.length : Int)
  · have hi2 : i < l.length := by omega
    have hc : l[(i : Int).toNat]? = some l[i] := by simp [hi2]
    have hd1 : l[i].toNat / 16 < 16 := by have := l[i].toNat_lt; omega
    have hd2 : l[i].toNat % 16 < 16 := by omega
    simp only [hlt, decide_true, rs]
    refine quiet (q_do _ (fun w => run_s_ix Tryd.underlying9 (by omega) hc) (q_do _ (fun w => by rw [r_shr (by omega), shr4]) (q_do _ (fun w => hexD_get _ hd1 w)
      (q_do _ (fun w => run_s_ix Tryd.underlying9 (by omega) hc) (q_do _ (fun w => by rw [r_and, and15]) (q_do _ (fun w => hexD_get _ hd2 w) ?_))))))
    intro w3 hb3
    refine o_new (fun b => .slice (some ⟨b, 0, none⟩) 2 2) (bytesV (Oc.hex1 l[i])) 5 (fun _ => by kernel_rfl) (ho.grow hb3) fun nb w4 h4 => ?_
    refine o_append 1 Tryd.underlying64 (show elB Tryd.prog 5 1 1 = true by kernel_rfl) (by decide) h4 rfl (h4.sl 0 rfl 1 2 2 rfl) (bytesV_one _) (by omega) (by omega) fun v' w5 h5 => ?_
    rw [wrap64_id (by omega) (by omega)]
    refine nextX ⟨i + 1, v', rfl, by omega, ?_⟩ (by simp [n1, intOf]; omega)
    have e : bytesV (Oc.hex (l.take (i + 1))) = bytesV (Oc.hex (l.take i)) ++ bytesV (Oc.hex1 l[i]) := by
      rw [List.take_succ_eq_append_getElem hi2, Oc.hex_snoc, bytesV_append]
    rw [e]
    exact h5.tail
  · have hi2 : i = l.length := by omega
    subst hi2
    simp only [hlt, decide_false, rs]
    have hs := ho.slRow 0 rfl
    rw [c_bytes (l := Oc.hex l) Tryd.underlying64 Tryd.underlying5 Tryd.underlying9 (by rw [Oc.hex_length]; simpa using hs)]
    exact hK _ _ ⟨rfl, ho.done⟩
theorem below_gr (w : World) (k : Nat) (os : Array Obj) : Below w.heap.size w (Go.Sort.grow (w.drewN k) os) :=
  ⟨rfl, rfl, rfl, by simp [Go.Sort.grow], fun i hi => by simp [Go.Sort.grow, Array.getElem?_append, hi]⟩
theorem itoa_len (n : Int) (h0 : -9223372036854775808 ≤ n) (h1 : n ≤ 9223372036854775807) : (Lib.itoa n).length ≤ 21 := Lib.itoa_length_le n h0 h1
theorem pint_ret (n : Int) (w : World) (ht : Tb w) : Ret Tryd.prog 37 #[.int .i64 n] w (fun v w' => v = .tuple #[.string ⟨(Pl.pInt n).1.toArray⟩, .int .i64 (Pl.pInt n).2] ∧ Below w.heap.size w w') := by
  refine ret_of fun K hK => S_plain_Int_ok ?_
  unfold S_plain_Int
  by_cases h1 : n < -2147483647
  · simp only [rs, h1, decide_true]
    exact hK _ _ ⟨by rw [Pl.pInt, if_neg (by omega)], Below.refl _ _⟩
  · simp only [rs, h1, decide_false]
    by_cases h2 : 2147483647 < n
    · simp only [rs, h2, decide_true]
      exact hK _ _ ⟨by rw [Pl.pInt, if_neg (by omega)], Below.refl _ _⟩
    · simp only [rs, h2, decide_false]
      refine c_any (Tryd.strconv_FormatInt_10 n (by omega) (by omega) w ht) ?_
      rintro e w' ⟨rfl, k, os, rfl⟩
      exact hK _ _ ⟨by rw [Pl.pInt, if_pos (by omega)], below_gr _ _ _⟩
theorem preal_ret (n : Int) (w : World) : Ret Tryd.prog 39 #[.int .i64 n] w (fun v w' => v = .tuple #[.string ⟨(Pl.pReal n).1.toArray⟩, .int .i64 (Pl.pReal n).2] ∧ Below w.heap.size w w') := by
  refine ret_of fun K hK => S_plain_Real_ok ?_
  unfold S_plain_Real
  by_cases h1 : n < -1073741824
  · simp only [rs, h1, decide_true]
    exact hK _ _ ⟨by rw [Pl.pReal, if_neg (by simp [Fx.okB]; omega)], Below.refl _ _⟩
  · simp only [rs, h1, decide_false]
    by_cases h2 : 1073741824 < n
    · simp only [rs, h2, decide_true]
      exact hK _ _ ⟨by rw [Pl.pReal, if_neg (by simp [Fx.okB]; omega)], Below.refl _ _⟩
    · simp only [rs, h2, decide_false]
      refine c_ret (ptext_ret n w) ?_
      rintro _ w' ⟨rfl, hb⟩
      exact hK _ _ ⟨by rw [Pl.pReal, if_pos (by simp [Fx.okB]; omega)], hb⟩
theorem phex_ret (l : List UInt8) (w : World) (hl : l.length ≤ 1000000) : Ret Tryd.prog 43 #[.string ⟨l.toArray⟩] w (fun v w' => v = .tuple #[.string ⟨(Pl.pHex l).1.toArray⟩, .int .i64 (Pl.pHex l).2] ∧ Below w.heap.size w w') := by
  refine ret_of fun K hK => S_plain_Hex_ok ?_
  unfold S_plain_Hex
  rw [s_len Tryd.underlying9]
  by_cases h1 : (32767 : Int) < l.length
  · simp only [rs, h1, decide_true]
    exact hK _ _ ⟨by rw [Pl.pHex, if_pos (by omega)], Below.refl _ _⟩
  · simp only [rs, h1, decide_false]
    refine c_ret (hex_ret l w hl) ?_
    rintro _ w' ⟨rfl, hb⟩
    have hx := Oc.hex_length l
    change DoX Tryd.prog (mBin .add 9 (.string ⟨([60] : List UInt8).toArray⟩) (.string ⟨(Oc.hex l).toArray⟩)) _ _ _
    rw [s_add (by simp; omega)]
    change DoX Tryd.prog (mBin .add 9 (.string ⟨([60] ++ Oc.hex l).toArray⟩) (.string ⟨([62] : List UInt8).toArray⟩)) _ _ _
    rw [s_add (by simp; omega)]
    exact hK _ _ ⟨by rw [Pl.pHex, if_neg (by omega)], hb⟩
end Go.Proofs.YtfnpfbgnhncgpaaDoor
