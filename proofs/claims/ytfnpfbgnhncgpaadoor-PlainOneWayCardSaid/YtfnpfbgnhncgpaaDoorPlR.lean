/- Contracts: the references of layers 1 and 4 (White, Delim, Regular, Hex; Int, Real, String, Hex, Name, Join, Pad). -/
import Derived.Test.YtfnpfbgnhncgpaaDoorPlC
import Derived.Test.YtfnpfbgnhncgpaaDoorSRef04
namespace Go.Proofs.YtfnpfbgnhncgpaaDoor
set_option linter.unusedVariables false
set_option linter.unusedSimpArgs false
set_option linter.defProp false
open Eng Go.RowKit

theorem rwhite_ret (c : UInt8) (w : World) : Ret Tryd.prog 122 #[.int .u8 c.toNat] w (fun v w' => v = .bool (Oc.white c) ∧ w = w') := by
  refine ret_of fun K hK => S_foliantref01_White_ok ?_
  unfold S_foliantref01_White
  have e0 := u8d c 0 0 rfl
  have e1 := u8d c 9 9 rfl
  have e2 := u8d c 10 10 rfl
  have e3 := u8d c 12 12 rfl
  have e4 := u8d c 13 13 rfl
  have e5 := u8d c 32 32 rfl
  by_cases h0 : c = 0
  · simp only [rs, e0, decide_eq_true h0, g_un]
    exact hK _ _ ⟨by rw [h0]; rfl, rfl⟩
  simp only [rs, e0, decide_eq_false h0, g_un]
  by_cases h1 : c = 9
  · simp only [rs, e1, decide_eq_true h1, g_un]
    exact hK _ _ ⟨by rw [h1]; rfl, rfl⟩
  simp only [rs, e1, decide_eq_false h1, g_un]
  by_cases h2 : c = 10
  · simp only [rs, e2, decide_eq_true h2, g_un]
    exact hK _ _ ⟨by rw [h2]; rfl, rfl⟩
  simp only [rs, e2, decide_eq_false h2, g_un]
  by_cases h3 : c = 12
  · simp only [rs, e3, decide_eq_true h3, g_un]
    exact hK _ _ ⟨by rw [h3]; rfl, rfl⟩
  simp only [rs, e3, decide_eq_false h3, g_un]
  by_cases h4 : c = 13
  · simp only [rs, e4, decide_eq_true h4, g_un]
    exact hK _ _ ⟨by rw [h4]; rfl, rfl⟩
  simp only [rs, e4, decide_eq_false h4, g_un]
  by_cases h5 : c = 32
  · simp only [rs, e5, decide_eq_true h5, g_un]
    exact hK _ _ ⟨by rw [h5]; rfl, rfl⟩
  simp only [rs, e5, decide_eq_false h5, g_un]
  exact hK _ _ ⟨by simp [Oc.white, Oc.whites, h0, h1, h2, h3, h4, h5], rfl⟩
theorem rdelim_ret (c : UInt8) (w : World) : Ret Tryd.prog 90 #[.int .u8 c.toNat] w (fun v w' => v = .bool (Oc.delim c) ∧ w = w') := by
  refine ret_of fun K hK => S_foliantref01_Delim_ok ?_
  unfold S_foliantref01_Delim
  have e0 := u8d c 40 40 rfl
  have e1 := u8d c 41 41 rfl
  have e2 := u8d c 60 60 rfl
  have e3 := u8d c 62 62 rfl
  have e4 := u8d c 91 91 rfl
  have e5 := u8d c 93 93 rfl
  have e6 := u8d c 123 123 rfl
  have e7 := u8d c 125 125 rfl
  have e8 := u8d c 47 47 rfl
  have e9 := u8d c 37 37 rfl
  by_cases h0 : c = 40
  · simp only [rs, e0, decide_eq_true h0, g_un]
    exact hK _ _ ⟨by rw [h0]; rfl, rfl⟩
  simp only [rs, e0, decide_eq_false h0, g_un]
  by_cases h1 : c = 41
  · simp only [rs, e1, decide_eq_true h1, g_un]
    exact hK _ _ ⟨by rw [h1]; rfl, rfl⟩
  simp only [rs, e1, decide_eq_false h1, g_un]
  by_cases h2 : c = 60
  · simp only [rs, e2, decide_eq_true h2, g_un]
    exact hK _ _ ⟨by rw [h2]; rfl, rfl⟩
  simp only [rs, e2, decide_eq_false h2, g_un]
  by_cases h3 : c = 62
  · simp only [rs, e3, decide_eq_true h3, g_un]
    exact hK _ _ ⟨by rw [h3]; rfl, rfl⟩
  simp only [rs, e3, decide_eq_false h3, g_un]
  by_cases h4 : c = 91
  · simp only [rs, e4, decide_eq_true h4, g_un]
    exact hK _ _ ⟨by rw [h4]; rfl, rfl⟩
  simp only [rs, e4, decide_eq_false h4, g_un]
  by_cases h5 : c = 93
  · simp only [rs, e5, decide_eq_true h5, g_un]
    exact hK _ _ ⟨by rw [h5]; rfl, rfl⟩
  simp only [rs, e5, decide_eq_false h5, g_un]
  by_cases h6 : c = 123
  · simp only [rs, e6, decide_eq_true h6, g_un]
    exact hK _ _ ⟨by rw [h6]; rfl, rfl⟩
  simp only [rs, e6, decide_eq_false h6, g_un]
  by_cases h7 : c = 125
  · simp only [rs, e7, decide_eq_true h7, g_un]
    exact hK _ _ ⟨by rw [h7]; rfl, rfl⟩
  simp only [rs, e7, decide_eq_false h7, g_un]
  by_cases h8 : c = 47
  · simp only [rs, e8, decide_eq_true h8, g_un]
    exact hK _ _ ⟨by rw [h8]; rfl, rfl⟩
  simp only [rs, e8, decide_eq_false h8, g_un]
  by_cases h9 : c = 37
  · simp only [rs, e9, decide_eq_true h9, g_un]
    exact hK _ _ ⟨by rw [h9]; rfl, rfl⟩
  simp only [rs, e9, decide_eq_false h9, g_un]
  exact hK _ _ ⟨by simp [Oc.delim, Oc.delims, h0, h1, h2, h3, h4, h5, h6, h7, h8, h9], rfl⟩
theorem rregular_ret (c : UInt8) (w : World) : Ret Tryd.prog 93 #[.int .u8 c.toNat] w (fun v w' => v = .bool (Oc.regular c) ∧ w = w') := by
  refine ret_of fun K hK => S_foliantref01_Regular_ok ?_
  unfold S_foliantref01_Regular
  refine c_eq (rwhite_ret c w) ?_
  cases hw : Oc.white c with
  | true => simp only [rs]; exact hK _ _ ⟨by simp [Oc.regular, hw], rfl⟩
  | false =>
    simp only [rs]
    refine c_eq (rdelim_ret c w) ?_
    simp only [rs]
    exact hK _ _ ⟨by simp [Oc.regular, hw], rfl⟩

abbrev BRow (v : Value) (l : List UInt8) : Ent := .row 5 1 v l.length (bytesV l)
/-- append(out, bytes..): the first piece is the row. -/
theorem o_appB {S : Nat → Prop} {w0 w : World} {L : List Ent} {v : Value} {l m : List UInt8} {parts : Array (Nat × Value)} {n : Nat} {cs : Array Bool} {PK PK2 : List PanicEntry → World → Prop} {K : Value → World → Prop}
    (hm : ∀ w, (mBuildS 64 n parts).run Tryd.prog w = .ok (.value (.slice (some ⟨w.heap.size, 0, none⟩) m.length m.length)) (w.alloc (.cells (bytesV m).toArray 5)))
    (ho : OwnS S w0 w (BRow v l :: L)) (hb : l.length + m.length ≤ 140737488355328) (k : ∀ v' w', OwnS S w0 w' (BRow v' (l ++ m) :: L) → K v' w') :
    DoX Tryd.prog (mBuildS 64 n parts) w PK fun t w => DoX Tryd.prog (mB .append #[64, 64] 64 cs #[v, t]) w PK2 K := by
  refine o_new (fun b => .slice (some ⟨b, 0, none⟩) m.length m.length) (bytesV m) 5 hm ho fun nb w4 h4 => ?_
  refine o_append 1 Tryd.underlying64 (show elB Tryd.prog 5 1 1 = true by kernel_rfl) (by decide) h4 rfl (h4.sl 0 rfl 1 m.length m.length (by rw [bytesV_length, Nat.mul_one])) (bytesV_one _) (by omega) (by omega) fun v' w5 h5 => ?_
  refine k v' w5 ?_
  have e : BRow v' (l ++ m) = .row 5 1 v' (l.length + m.length) (bytesV l ++ bytesV m) := by
    rw [BRow, bytesV_append, List.length_append]
  rw [e]
  exact h5.tail
/-- string(out). -/
theorem o_strB {S : Nat → Prop} {w0 w : World} {L : List Ent} {v : Value} {l : List UInt8} {PK : List PanicEntry → World → Prop} {K : Value → World → Prop} (i : Nat) (ho : OwnS S w0 w L) (hi : L[i]? = some (BRow v l)) :
    DoX Tryd.prog (mConv 64 9 v) w PK K = K (.string ⟨l.toArray⟩) w :=
  c_bytes (l := l) Tryd.underlying64 Tryd.underlying5 Tryd.underlying9 (ho.slRow i hi)
theorem rhex_ret (l : List UInt8) (w : World) (hl : l.length ≤ 1000000) : Ret Tryd.prog 60 #[.string ⟨l.toArray⟩] w (fun v w' => v = .string ⟨(Oc.hex l).toArray⟩ ∧ Below w.heap.size w w') := by
  refine ret_of fun K hK => S_foliantref01_Hex_ok ?_
  unfold S_foliantref01_Hex
  refine loop (fun vs w' => ∃ (i : Nat) (v : Value), vs = [v, .int .i64 i] ∧ i ≤ l.length ∧ Own w w' [BRow v (Oc.hex (l.take i))])
    (fun vs _ => l.length - n1 vs) ⟨0, _, rfl, by omega, (Own.start w).nilRow _ 1⟩ ?_
  rintro vs w2 ⟨i, v, rfl, hi, ho⟩ _
  simp only [S_foliantref01_Hex_0, gd, s_len Tryd.underlying9]
  rw [b_lss]
  by_cases hlt : (i : Int) < (l.length : Int)
  · have hi2 : i < l.length := by omega
    have hc : l[(i : Int).toNat]? = some l[i] := by simp [hi2]
    have h256 := l[i].toNat_lt
    have hd1 : l[i].toNat / 16 < 16 := by omega
    have hd2 : l[i].toNat % 16 < 16 := by omega
    have hq : ((l[i].toNat : Int).tdiv 16) = ((l[i].toNat / 16 : Nat) : Int) := by rw [Int.tdiv_eq_ediv_of_nonneg (by omega)]; omega
    have hr : ((l[i].toNat : Int).tmod 16) = ((l[i].toNat % 16 : Nat) : Int) := by rw [Int.tmod_eq_emod_of_nonneg (by omega)]; omega
    simp only [hlt, decide_true, i_t]
    refine quiet (q_do _ (fun w => run_s_ix Tryd.underlying9 (by omega) hc) (q_do _ (fun w => by rw [r_quo (by omega), hq, wrap8_id (by omega) (by omega)]) (q_do _ (fun w => hexD_get _ hd1 w)
      (q_do _ (fun w => run_s_ix Tryd.underlying9 (by omega) hc) (q_do _ (fun w => by rw [r_rem (by omega), hr]) (q_do _ (fun w => hexD_get _ hd2 w) ?_))))))
    intro w3 hb3
    have hlen := Oc.hex_length (l.take i)
    rw [List.length_take] at hlen
    refine o_appB (m := Oc.hex1 l[i]) (fun _ => by kernel_rfl) (ho.grow hb3) (by simp only [Oc.hex1, List.length_cons, List.length_nil]; omega) fun v' w5 h5 => ?_
    rw [b_add, wrap64_id (by omega) (by omega)]
    refine nextX ⟨i + 1, v', rfl, by omega, ?_⟩ (by simp [n1, intOf]; omega)
    rw [List.take_succ_eq_append_getElem hi2, Oc.hex_snoc]
    exact h5
  · have hi2 : i = l.length := by omega
    subst hi2
    simp only [hlt, decide_false, i_f]
    rw [List.take_length] at ho
    rw [o_strB 0 ho rfl]
    exact hK _ _ ⟨rfl, ho.done⟩
theorem dig_piece : ∀ k : Fin 10, (([48, 49, 50, 51, 52, 53, 54, 55, 56, 57] : List UInt8).drop k.val).take (k.val + 1 - k.val) = [UInt8.ofNat (48 + k.val)] := by decide
theorem decDigits_len (u : Nat) (h : u < 18446744073709551616) : (Lib.decDigits u).length ≤ 20 := by rw [Lib.decDigits_length]; exact Lib.nDigits_le20 u h
theorem rdigits_ret : ∀ (n : Nat) (w : World), n ≤ 9223372036854775807 → Ret Tryd.prog 81 #[.int .i64 n] w (fun v w' => v = .string ⟨(Lib.decDigits n).toArray⟩ ∧ w = w') := by
  intro n
  induction n using Nat.strongRecOn with
  | _ n ih =>
    intro w hn
    refine ret_of fun K hK => S_foliantref04_digits_ok ?_
    unfold S_foliantref04_digits
    have hr : ((n : Int).tmod 10) = ((n % 10 : Nat) : Int) := by rw [Int.tmod_eq_emod_of_nonneg (by omega)]; omega
    have hq : ((n : Int).tdiv 10) = ((n / 10 : Nat) : Int) := by rw [Int.tdiv_eq_ediv_of_nonneg (by omega)]; omega
    simp only [b_rem (show (10 : Int) ≠ 0 by omega), b_quo (show (10 : Int) ≠ 0 by omega), hr, hq, rs]
    rw [wrap64_id (n := ((n % 10 : Nat) : Int) + 1) (by omega) (by omega)]
    change DoX Tryd.prog (mSlice 9 (.string ⟨([48, 49, 50, 51, 52, 53, 54, 55, 56, 57] : List UInt8).toArray⟩) _ _ _) _ _ _
    rw [s_slice Tryd.underlying9 (by omega) (by omega) (by simp only [List.length_cons, List.length_nil]; omega)]
    have hp := dig_piece ⟨n % 10, by omega⟩
    simp only at hp
    rw [show (((n % 10 : Nat) : Int) + 1).toNat = n % 10 + 1 by omega, Int.toNat_natCast, hp]
    by_cases h10 : (n : Int) < 10
    · simp only [h10, decide_true, i_t]
      refine hK _ _ ⟨?_, rfl⟩
      rw [Lib.decDigits, dif_pos (by omega), show n % 10 = n by omega]
    · simp only [h10, decide_false, i_f]
      rw [wrap64_id (by omega) (by omega)]
      refine c_eq (ih (n / 10) (by omega) w (by omega)) ?_
      have hl := decDigits_len (n / 10) (by omega)
      rw [s_add (by simp; omega)]
      refine hK _ _ ⟨?_, rfl⟩
      rw [Lib.decDigits.eq_1 n, dif_neg (by omega)]
theorem rint_ret (n : Int) (w : World) : Ret Tryd.prog 38 #[.int .i64 n] w (fun v w' => v = .tuple #[.string ⟨(Pl.pInt n).1.toArray⟩, .int .i64 (Pl.pInt n).2] ∧ w = w') := by
  refine ret_of fun K hK => S_foliantref04_Int_ok ?_
  unfold S_foliantref04_Int
  by_cases h1 : n < -2147483647
  · simp only [rs, h1, decide_true, g_un]
    exact hK _ _ ⟨by rw [Pl.pInt, if_neg (by omega)], rfl⟩
  simp only [rs, h1, decide_false]
  by_cases h2 : 2147483647 < n
  · simp only [rs, h2, decide_true]
    exact hK _ _ ⟨by rw [Pl.pInt, if_neg (by omega)], rfl⟩
  simp only [rs, h2, decide_false]
  by_cases h3 : n < 0
  · simp only [rs, h3, decide_true]
    rw [wrap64_id (by omega) (by omega)]
    obtain ⟨m, hm⟩ : ∃ m : Nat, -n = m := ⟨(-n).toNat, by omega⟩
    rw [hm]
    refine c_eq (rdigits_ret m w (by omega)) ?_
    have hl := decDigits_len m (by omega)
    change DoX Tryd.prog (mBin .add 9 (.string ⟨([45] : List UInt8).toArray⟩) (.string ⟨(Lib.decDigits m).toArray⟩)) _ _ _
    rw [s_add (by simp; omega)]
    refine hK _ _ ⟨?_, rfl⟩
    rw [Pl.pInt, if_pos (by omega), Lib.itoa, if_pos h3, show n.natAbs = m by omega]
    rfl
  · simp only [rs, h3, decide_false]
    obtain ⟨m, rfl⟩ : ∃ m : Nat, n = m := ⟨n.toNat, by omega⟩
    refine c_eq (rdigits_ret m w (by omega)) ?_
    refine hK _ _ ⟨?_, rfl⟩
    rw [Pl.pInt, if_pos (by omega), Lib.itoa, if_neg h3, Int.toNat_natCast]
theorem rreal_ret (n : Int) (w : World) : Ret Tryd.prog 40 #[.int .i64 n] w (fun v w' => v = .tuple #[.string ⟨(Pl.pReal n).1.toArray⟩, .int .i64 (Pl.pReal n).2] ∧ Below w.heap.size w w') := by
  refine ret_of fun K hK => S_foliantref04_Real_ok ?_
  unfold S_foliantref04_Real
  by_cases h1 : n < -1073741824
  · simp only [rs, h1, decide_true]
    exact hK _ _ ⟨by rw [Pl.pReal, if_neg (by simp [Fx.okB]; omega)], Below.refl _ _⟩
  · simp only [rs, h1, decide_false]
    by_cases h2 : 1073741824 < n
    · simp only [rs, h2, decide_true]
      exact hK _ _ ⟨by rw [Pl.pReal, if_neg (by simp [Fx.okB]; omega)], Below.refl _ _⟩
    · simp only [rs, h2, decide_false]
      refine c_ret (rtext_ret n w) ?_
      rintro _ w' ⟨rfl, hb⟩
      exact hK _ _ ⟨by rw [Pl.pReal, if_pos (by simp [Fx.okB]; omega)], hb⟩
theorem rhexs_ret (l : List UInt8) (w : World) (hl : l.length ≤ 1000000) : Ret Tryd.prog 44 #[.string ⟨l.toArray⟩] w (fun v w' => v = .tuple #[.string ⟨(Pl.pHex l).1.toArray⟩, .int .i64 (Pl.pHex l).2] ∧ Below w.heap.size w w') := by
  refine ret_of fun K hK => S_foliantref04_Hex_ok ?_
  unfold S_foliantref04_Hex
  rw [s_len Tryd.underlying9]
  by_cases h1 : (32767 : Int) < l.length
  · simp only [rs, h1, decide_true]
    exact hK _ _ ⟨by rw [Pl.pHex, if_pos (by omega)], Below.refl _ _⟩
  · simp only [rs, h1, decide_false]
    refine c_ret (rhex_ret l w hl) ?_
    rintro _ w' ⟨rfl, hb⟩
    have hx := Oc.hex_length l
    change DoX Tryd.prog (mBin .add 9 (.string ⟨([60] : List UInt8).toArray⟩) (.string ⟨(Oc.hex l).toArray⟩)) _ _ _
    rw [s_add (by simp; omega)]
    change DoX Tryd.prog (mBin .add 9 (.string ⟨([60] ++ Oc.hex l).toArray⟩) (.string ⟨([62] : List UInt8).toArray⟩)) _ _ _
    rw [s_add (by simp; omega)]
    exact hK _ _ ⟨by rw [Pl.pHex, if_neg (by omega)], hb⟩
end Go.Proofs.YtfnpfbgnhncgpaaDoor
