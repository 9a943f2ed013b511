/- Contracts: plain.Join of the program. -/
import Derived.Test.YtfnpfbgnhncgpaaDoorPlB
namespace Go.Proofs.YtfnpfbgnhncgpaaDoor
set_option linter.unusedVariables false
set_option linter.unusedSimpArgs false
set_option linter.defProp false
open Eng Go.RowKit

def strV (p : List UInt8) : Value := .string ⟨p.toArray⟩
def strsV (ps : List (List UInt8)) : List Value := ps.map strV
theorem strsV_length (ps : List (List UInt8)) : (strsV ps).length = ps.length := by simp [strsV]
theorem strsV_get {ps : List (List UInt8)} {i : Nat} (h : i < ps.length) : (strsV ps)[i]? = some (.string ⟨ps[i].toArray⟩) := by simp [strsV, strV, h]

theorem pjoin_ret (ps : List (List UInt8)) (v : Value) (w : World) (hs : Sl w v 1 ps.length (strsV ps)) (hb : Pl.tot ps ≤ 1000000000000) :
    Ret Tryd.prog 47 #[v] w (fun r w' => r = .string ⟨(Pl.join ps).toArray⟩ ∧ Below w.heap.size w w') := by
  refine ret_of fun K hK => S_plain_Join_ok ?_
  unfold S_plain_Join
  refine o_new (fun b => .pointer (some ⟨b, 0, none⟩)) [.pointer none, .slice none 0 0] 95 (fun _ => by kernel_rfl) (Own.start w) fun b w1 ho => ?_
  rw [sl_len Tryd.underlying37 (ho.oldSl hs)]
  have hB0 : ∃ v0, Own w w1 [Bld b v0 []] := by
    have h1 := (ho.nilRow 5 1).swap
    exact ⟨_, OwnS.closeB (l := []) (.inl rfl) roomy_nil h1⟩
  obtain ⟨v0, ho0⟩ := hB0
  have hlen := Pl.length_tot ps
  refine loop (fun vs w' => ∃ (i : Nat) (bv : Value), vs = [.int .u8 (Pl.lastC (Pl.join (ps.take i))).toNat, .int .i64 i] ∧ i ≤ ps.length ∧ Own w w' [Bld b bv (Pl.join (ps.take i))])
    (fun vs _ => ps.length - n1 vs) ⟨0, v0, rfl, by omega, ho0⟩ ?_
  rintro vs w2 ⟨i, bv, rfl, hi, ho2⟩ _
  simp only [S_plain_Join_0, gd]
  rw [b_lss]
  by_cases hlt : (i : Int) < (ps.length : Int)
  · have hi2 : i < ps.length := by omega
    simp only [hlt, decide_true, i_t]
    have hgt := Pl.get_tot ps i hi2
    have hjl := Pl.join_len (ps.take i)
    generalize hacc : Pl.join (ps.take i) = acc at *
    have hnext : Pl.join (ps.take (i + 1)) = Pl.glue acc ps[i] := by rw [List.take_succ_eq_append_getElem hi2, Pl.join_snoc, hacc]
    refine join fun J2 hJ2 => ?_
    refine sl_ia1 (.string ⟨ps[i].toArray⟩) Tryd.underlying37 (by kernel_rfl) (ho2.oldSl hs) (by omega) (by rw [Int.toNat_natCast]; exact strsV_get hi2) fun p hp => ?_
    rw [l_cell (by kernel_rfl) hp]
    have fin : ∀ (bv' : Value) (w' : World), Own w w' [Bld b bv' (Pl.glue acc ps[i])] → J2 [.int .u8 (Pl.lastC (Pl.glue acc ps[i])).toNat] w' := by
      intro bv' w' h'
      refine hJ2 _ _ fun _ => ?_
      simp only [S_plain_Join_2, gd, rs]
      rw [wrap64_id (by omega) (by omega)]
      refine nextX ⟨i + 1, bv', by rw [hnext]; rfl, by omega, by rw [hnext]; exact h'⟩ (by simp [n1, intOf]; omega)
    change DoX Tryd.prog (mEq .eql _ _ _ _ (.string ⟨([] : List UInt8).toArray⟩)) _ _ _
    rw [e_str]
    by_cases hp0 : ps[i] = []
    · simp only [decide_eq_true hp0, rs]
      have := fin bv w2 (by rw [hp0]; exact ho2)
      rw [hp0] at this
      exact this
    · simp only [decide_eq_false hp0, rs]
      obtain ⟨c, t, hct⟩ : ∃ c t, ps[i] = c :: t := by
        cases h : ps[i] with
        | nil => exact absurd h hp0
        | cons c t => exact ⟨c, t, rfl⟩
      refine join fun J3 hJ3 => ?_
      have last : ∀ (acc' : List UInt8) (bv' : Value) (w' : World), Own w w' [Bld b bv' acc'] → acc'.length ≤ acc.length + 1 → acc' ++ ps[i] = Pl.glue acc ps[i] → J3 [] w' := by
        intro acc' bv' w' h' hl' he
        refine hJ3 _ _ fun _ => ?_
        simp only [S_plain_Join_1]
        refine c_turn 0 h' rfl (writeString_ret (h'.at_ 0 rfl) (by omega)) ?_
        rintro _ _ w3 ⟨_, v3, rfl⟩ ho3
        rw [s_len Tryd.underlying9, b_sub]
        have hpos : 0 < ps[i].length := List.length_pos_iff.2 hp0
        rw [wrap64_id (by omega) (by omega), s_ix (c := Pl.lastC ps[i]) Tryd.underlying9 (by omega) (by
          rw [show (((ps[i].length : Nat) : Int) - 1).toNat = ps[i].length - 1 by omega]
          exact Pl.last_get _ hp0)]
        rw [← Pl.lastC_glue acc _ hp0]
        refine fin v3 w3 ?_
        rw [← he]; exact ho3
      refine c_eq (regular_ret _ w2) ?_
      have put : ((Oc.regular (Pl.lastC acc) || decide (Pl.lastC acc = 47)) && Oc.regular c) = true → CallX Tryd.prog 84 #[.pointer (some ⟨b, 0, none⟩), (.int .u8 32)] w2 (pk K) fun t26 w => J3 [] w := by
        intro hc
        refine c_turn 0 ho2 rfl (writeByteN_ret (k := 32) (ho2.at_ 0 rfl) (by omega) rfl (by omega)) ?_
        rintro _ _ w3 ⟨rfl, v3, rfl⟩ ho3
        refine last _ v3 w3 ho3 (by simp) ?_
        rw [hct]
        simp only [Pl.glue]
        rw [if_pos hc]; rfl
      have skip : ((Oc.regular (Pl.lastC acc) || decide (Pl.lastC acc = 47)) && Oc.regular c) = false → J3 [] w2 := by
        intro hc
        refine last acc bv w2 ho2 (by omega) ?_
        rw [hct]
        simp only [Pl.glue]
        rw [if_neg (by simp [hc])]
      have hix : ∀ {PK K}, DoX Tryd.prog (mIx 9 (.string ⟨ps[i].toArray⟩) (.int .i64 0)) w2 PK K = K (.int .u8 c.toNat) w2 := fun {PK K} => s_ix (c := c) Tryd.underlying9 (by omega) (by rw [hct]; rfl)
      have e47 := u8d (Pl.lastC acc) 47 47 rfl
      have rest : (Oc.regular (Pl.lastC acc) || decide (Pl.lastC acc = 47)) = true → CallX Tryd.prog 91 #[.int .u8 c.toNat] w2 (pk K) fun t25 w =>
          IfX t25 (CallX Tryd.prog 84 #[.pointer (some ⟨b, 0, none⟩), (.int .u8 32)] w (pk K) fun t26 w => J3 [] w) (J3 [] w) := by
        intro hr
        refine c_eq (regular_ret c w2) ?_
        cases hc : Oc.regular c with
        | true => simp only [rs]; exact put (by simp [hr, hc])
        | false => simp only [rs]; exact skip (by simp [hc])
      cases hr : Oc.regular (Pl.lastC acc) with
      | true =>
        simp only [rs, g_un, hix]
        exact rest (by simp [hr])
      | false =>
        simp only [rs, e47]
        by_cases h47 : Pl.lastC acc = 47
        · simp only [decide_eq_true h47, rs, hix]
          exact rest (by simp [h47])
        · simp only [decide_eq_false h47, rs, g_un]
          exact skip (by simp [hr, h47])
  · have hi2 : i = ps.length := by omega
    subst hi2
    simp only [hlt, decide_false, i_f]
    rw [List.take_length] at ho2
    refine c_turn 0 ho2 rfl (bldString_ret (ho2.at_ 0 rfl)) ?_
    rintro _ _ w6 ⟨rfl, rfl⟩ ho6
    exact hK _ _ ⟨rfl, ho6.done⟩
end Go.Proofs.YtfnpfbgnhncgpaaDoor
