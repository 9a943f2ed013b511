/- Contracts: the reference of layer 4: String, Name, Join, Pad. -/
import Derived.Test.YtfnpfbgnhncgpaaDoorPlR
namespace Go.Proofs.YtfnpfbgnhncgpaaDoor
set_option linter.unusedVariables false
set_option linter.unusedSimpArgs false
set_option linter.defProp false
open Eng Go.RowKit

theorem rstr_ret (l : List UInt8) (w : World) (hl : l.length ≤ 1000000) : Ret Tryd.prog 42 #[.string ⟨l.toArray⟩] w (fun v w' => v = .tuple #[.string ⟨(Pl.pStr l).1.toArray⟩, .int .i64 (Pl.pStr l).2] ∧ Below w.heap.size w w') := by
  refine ret_of fun K hK => S_foliantref04_String_ok ?_
  unfold S_foliantref04_String
  rw [s_len Tryd.underlying9, b_gtr]
  by_cases h1 : (32767 : Int) < l.length
  · simp only [rs, h1, decide_true]
    exact hK _ _ ⟨by rw [Pl.pStr, if_pos (by omega)], Below.refl _ _⟩
  simp only [rs, h1, decide_false]
  refine o_new (fun b => .slice (some ⟨b, 0, none⟩) 1 1) (bytesV [40]) 5 (fun _ => by kernel_rfl) (Own.start w) fun nb w1 ho1 => ?_
  have ho := OwnS.toRow ho1 1 1 1 rfl (by omega) (by omega)
  refine loop (fun vs w' => ∃ (i : Nat) (v : Value), vs = [v, .int .i64 i] ∧ i ≤ l.length ∧ Own w w' [BRow v ([40] ++ (l.take i).flatMap Pl.esc)])
    (fun vs _ => l.length - n1 vs) ⟨0, _, rfl, by omega, by simpa [BRow, bytesV] using ho⟩ ?_
  rintro vs w2 ⟨i, v, rfl, hi, ho2⟩ _
  simp only [S_foliantref04_String_0, gd, s_len Tryd.underlying9]
  rw [b_lss]
  have hfl := Pl.flat_len Pl.esc 4 (fun c => (Pl.esc_len c).2) (l.take i)
  have htk : (l.take i).length ≤ l.length := by rw [List.length_take]; omega
  have hbd : ([40] ++ (l.take i).flatMap Pl.esc).length ≤ 140000 := by simp only [List.length_append, List.length_cons, List.length_nil]; omega
  by_cases hlt : (i : Int) < (l.length : Int)
  · have hi2 : i < l.length := by omega
    simp only [hlt, decide_true, i_t]
    refine join fun J2 hJ2 => ?_
    rw [s_ix (c := l[i]) Tryd.underlying9 (by omega) (by simp [hi2])]
    have fin : ∀ (v' : Value) (w' : World), Own w w' [BRow v' ([40] ++ (l.take i).flatMap Pl.esc ++ Pl.esc l[i])] → J2 [v'] w' := by
      intro v' w' h'
      refine hJ2 _ _ fun _ => ?_
      simp only [S_foliantref04_String_2, gd]
      rw [b_add, wrap64_id (by omega) (by omega)]
      refine nextX ⟨i + 1, v', rfl, by omega, ?_⟩ (by simp [n1, intOf]; omega)
      rw [List.take_succ_eq_append_getElem hi2, Pl.flat_snoc, ← List.append_assoc]
      exact h'
    generalize hc : l[i] = c at *
    have h256 := c.toNat_lt
    have oct : ¬ (c = 40 ∨ c = 41 ∨ c = 92) → (c.toNat < 32 ∨ 126 < c.toNat) →
        DoX Tryd.prog (mBin .quo 5 (.int .u8 c.toNat) (.int .u8 64)) w2 (pk K) fun t28 w =>
        DoX Tryd.prog (mBin .add 5 (.int .u8 48) t28) w (pk K) fun t29 w =>
        DoX Tryd.prog (mBin .quo 5 (.int .u8 c.toNat) (.int .u8 8)) w (pk K) fun t31 w =>
        DoX Tryd.prog (mBin .rem 5 t31 (.int .u8 8)) w (pk K) fun t32 w =>
        DoX Tryd.prog (mBin .add 5 (.int .u8 48) t32) w (pk K) fun t33 w =>
        DoX Tryd.prog (mBin .rem 5 (.int .u8 c.toNat) (.int .u8 8)) w (pk K) fun t35 w =>
        DoX Tryd.prog (mBin .add 5 (.int .u8 48) t35) w (pk K) fun t36 w =>
        DoX Tryd.prog (mBuildS 64 4 #[(0, (.int .u8 92)), (1, t29), (2, t33), (3, t36)]) w (pk K) fun t37 w =>
        DoX Tryd.prog (mB .append #[64, 64] 64 #[false, false] #[v, t37]) w (pk K) fun t38 w =>
        J2 [t38] w := by
      intro hn hcc
      have q64 : ((c.toNat : Int).tdiv 64) = ((c.toNat / 64 : Nat) : Int) := by rw [Int.tdiv_eq_ediv_of_nonneg (by omega)]; omega
      have q8 : ((c.toNat : Int).tdiv 8) = ((c.toNat / 8 : Nat) : Int) := by rw [Int.tdiv_eq_ediv_of_nonneg (by omega)]; omega
      have r8 : ((c.toNat : Int).tmod 8) = ((c.toNat % 8 : Nat) : Int) := by rw [Int.tmod_eq_emod_of_nonneg (by omega)]; omega
      have qr : (((c.toNat / 8 : Nat) : Int).tmod 8) = ((c.toNat / 8 % 8 : Nat) : Int) := by rw [Int.tmod_eq_emod_of_nonneg (by omega)]; omega
      rw [b_quo (by omega), q64, wrap8_id (by omega) (by omega), b_add, wrap8_id (by omega) (by omega), b_quo (by omega), q8, wrap8_id (by omega) (by omega), b_rem (by omega), qr, b_add, wrap8_id (by omega) (by omega), b_rem (by omega), r8, b_add, wrap8_id (by omega) (by omega)]
      rw [show ((48 : Int) + ((c.toNat / 64 : Nat) : Int)) = ((48 + c.toNat / 64 : Nat) : Int) by omega, show ((48 : Int) + ((c.toNat / 8 % 8 : Nat) : Int)) = ((48 + c.toNat / 8 % 8 : Nat) : Int) by omega, show ((48 : Int) + ((c.toNat % 8 : Nat) : Int)) = ((48 + c.toNat % 8 : Nat) : Int) by omega]
      rw [← u8_of (48 + c.toNat / 64) (by omega), ← u8_of (48 + c.toNat / 8 % 8) (by omega), ← u8_of (48 + c.toNat % 8) (by omega)]
      refine o_appB (m := Pl.oct c) (fun _ => by kernel_rfl) ho2 (by simp only [Pl.oct, List.length_cons, List.length_nil]; omega) fun v' w5 h5 => ?_
      refine fin v' w5 ?_
      rw [show Pl.esc c = Pl.oct c by rw [Pl.esc, if_neg hn, if_pos hcc]]
      exact h5
    have plainc : ∀ (l' : List UInt8) (v' : Value) (w' : World), Own w w' [BRow v' ([40] ++ (l.take i).flatMap Pl.esc ++ l')] → l'.length ≤ 1 → l' ++ [c] = Pl.esc c → S_foliantref04_String_1 v' (.int .u8 c.toNat) w' J2 K := by
      intro l' v' w' h' hl' he
      simp only [S_foliantref04_String_1]
      refine o_appB (m := [c]) (fun _ => by kernel_rfl) h' (by simp only [List.length_append, List.length_cons, List.length_nil] at hbd ⊢; omega) fun v2 w5 h5 => ?_
      refine fin v2 w5 ?_
      rw [← he, ← List.append_assoc]
      exact h5
    by_cases h2 : (c.toNat : Int) < 32
    · simp only [rs, h2, decide_true, g_un]
      have := oct (by rintro (rfl | rfl | rfl) <;> simp at h2) (.inl (by omega))
      simpa only [rs] using this
    simp only [rs, h2, decide_false, g_un]
    by_cases h3 : (126 : Int) < (c.toNat : Int)
    · simp only [rs, h3, decide_true, g_un]
      have := oct (by rintro (rfl | rfl | rfl) <;> simp at h3) (.inr (by omega))
      simpa only [rs] using this
    simp only [rs, h3, decide_false, g_un]
    refine join fun J3 hJ3 => ?_
    have two : (c = 40 ∨ c = 41 ∨ c = 92) → DoX Tryd.prog (mBuildS 64 1 #[(0, (.int .u8 92))]) w2 (pk K) fun t50 w =>
        DoX Tryd.prog (mB .append #[64, 64] 64 #[false, false] #[v, t50]) w (pk K) fun t51 w => J3 [t51] w := by
      intro hcc
      refine o_appB (m := [92]) (fun _ => by kernel_rfl) ho2 (by simp only [List.length_cons, List.length_nil]; omega) fun v' w5 h5 => ?_
      refine hJ3 _ _ fun _ => ?_
      simp only [gd]
      exact plainc [92] v' w5 h5 (by simp) (by rw [Pl.esc, if_pos hcc]; rfl)
    have e1 := u8d c 40 40 rfl
    have e2 := u8d c 41 41 rfl
    have e3 := u8d c 92 92 rfl
    by_cases g1 : c = 40
    · simp only [rs, e1, decide_eq_true g1, g_un]; exact two (.inl g1)
    simp only [rs, e1, decide_eq_false g1, g_un]
    by_cases g2 : c = 41
    · simp only [rs, e2, decide_eq_true g2, g_un]; exact two (.inr (.inl g2))
    simp only [rs, e2, decide_eq_false g2, g_un]
    by_cases g3 : c = 92
    · simp only [rs, e3, decide_eq_true g3, g_un]; exact two (.inr (.inr g3))
    simp only [rs, e3, decide_eq_false g3, g_un]
    refine hJ3 _ _ fun _ => ?_
    simp only [gd]
    exact plainc [] v w2 (by rw [List.append_nil]; exact ho2) (by simp) (by rw [Pl.esc, if_neg (by simp [g1, g2, g3]), if_neg (by omega)]; rfl)
  · have hi2 : i = l.length := by omega
    subst hi2
    simp only [hlt, decide_false, i_f]
    rw [List.take_length] at ho2 hbd
    refine o_appB (m := [41]) (fun _ => by kernel_rfl) ho2 (by simp only [List.length_cons, List.length_nil]; omega) fun v' w5 h5 => ?_
    rw [o_strB 0 h5 rfl]
    exact hK _ _ ⟨by rw [Pl.pStr, if_neg (by omega)]; rfl, h5.done⟩
theorem rname_ret (l : List UInt8) (w : World) : Ret Tryd.prog 46 #[.string ⟨l.toArray⟩] w (fun v w' => v = .tuple #[.string ⟨(Pl.pName l).1.toArray⟩, .int .i64 (Pl.pName l).2] ∧ Below w.heap.size w w') := by
  refine ret_of fun K hK => S_foliantref04_Name_ok ?_
  unfold S_foliantref04_Name
  rw [s_len Tryd.underlying9, b_gtr]
  by_cases h1 : (127 : Int) < l.length
  · simp only [rs, h1, decide_true]
    exact hK _ _ ⟨by rw [Pl.pName, if_pos (by omega)], Below.refl _ _⟩
  simp only [rs, h1, decide_false]
  change LoopX [.string ⟨([47] : List UInt8).toArray⟩, _] _ _
  refine loop (fun vs w' => ∃ (i : Nat), vs = [.string ⟨([47] ++ (l.take i).flatMap Pl.nmc).toArray⟩, .int .i64 i] ∧ i ≤ l.length ∧ (l.take i).contains 0 = false ∧ Below w.heap.size w w')
    (fun vs _ => l.length - n1 vs) ⟨0, rfl, by omega, rfl, Below.refl _ _⟩ ?_
  rintro vs w2 ⟨i, rfl, hi, h0, hb2⟩ _
  simp only [S_foliantref04_Name_0, gd, s_len Tryd.underlying9]
  rw [b_lss]
  have hfl := Pl.flat_len Pl.nmc 4 (fun c => Nat.le_trans (Pl.nmc_len c).2 (by omega)) (l.take i)
  have htk : (l.take i).length ≤ l.length := by rw [List.length_take]; omega
  have hbd : ([47] ++ (l.take i).flatMap Pl.nmc).length ≤ 140000 := by simp only [List.length_append, List.length_cons, List.length_nil]; omega
  by_cases hlt : (i : Int) < (l.length : Int)
  · have hi2 : i < l.length := by omega
    simp only [hlt, decide_true, i_t]
    refine join fun J2 hJ2 => ?_
    rw [s_ix (c := l[i]) Tryd.underlying9 (by omega) (by simp [hi2])]
    have e0 := u8d l[i] 0 0 rfl
    rw [e_int]
    by_cases hz : l[i] = 0
    · simp only [e0, decide_eq_true hz, i_t]
      refine hK _ _ ⟨?_, hb2⟩
      have : l.contains 0 = true := by rw [List.contains_iff_mem, ← hz]; exact List.getElem_mem hi2
      rw [Pl.pName, if_neg (by omega), if_pos this]
    simp only [e0, decide_eq_false hz, i_f]
    have hz2 : (l.take (i + 1)).contains 0 = false := by
      rw [List.take_succ_eq_append_getElem hi2]
      simp only [List.contains_eq_mem, decide_eq_false_iff_not, List.mem_append, List.mem_singleton, not_or] at h0 ⊢
      exact ⟨h0, fun e => hz e.symm⟩
    have fin : ∀ (w' : World), Below w.heap.size w w' → J2 [.string ⟨([47] ++ (l.take i).flatMap Pl.nmc ++ Pl.nmc l[i]).toArray⟩] w' := by
      intro w' h'
      refine hJ2 _ _ fun _ => ?_
      simp only [S_foliantref04_Name_1, gd]
      rw [b_add, wrap64_id (by omega) (by omega)]
      refine nextX ⟨i + 1, ?_, by omega, hz2, h'⟩ (by simp [n1, intOf]; omega)
      rw [List.take_succ_eq_append_getElem hi2, Pl.flat_snoc, ← List.append_assoc]
      rfl
    have hsl : ∀ {PK K}, DoX Tryd.prog (mSlice 9 (.string ⟨l.toArray⟩) (some (.int .i64 (i : Int))) (some (.int .i64 ((i : Int) + 1))) none) w2 PK K = K (.string ⟨([l[i]] : List UInt8).toArray⟩) w2 := by
      intro PK K
      rw [s_slice Tryd.underlying9 (by omega) (by omega) (by omega), Int.toNat_natCast, show ((i : Int) + 1).toNat - i = 1 by omega, List.drop_eq_getElem_cons hi2]
      rfl
    generalize hc : l[i] = c at *
    have no : Pl.nmOk c = false → DoX Tryd.prog (mBin .add 3 (.int .i64 (i : Int)) (.int .i64 1)) w2 (pk K) fun t39 w =>
        DoX Tryd.prog (mSlice 9 (.string ⟨l.toArray⟩) (some (.int .i64 (i : Int))) (some t39) none) w (pk K) fun t40 w =>
        CallX Tryd.prog 60 #[t40] w (pk K) fun t41 w =>
        DoX Tryd.prog (mBin .add 9 (.string ⟨#[35]⟩) t41) w (pk K) fun t42 w =>
        DoX Tryd.prog (mBin .add 9 (.string ⟨([47] ++ (l.take i).flatMap Pl.nmc).toArray⟩) t42) w (pk K) fun t43 w =>
        J2 [t43] w := by
      intro hn
      rw [b_add, wrap64_id (by omega) (by omega), hsl]
      refine c_ret (rhex_ret [c] w2 (by simp)) ?_
      rintro _ w3 ⟨rfl, hb3⟩
      have hx := Oc.hex_length [c]
      change DoX Tryd.prog (mBin .add 9 (.string ⟨([35] : List UInt8).toArray⟩) (.string ⟨(Oc.hex [c]).toArray⟩)) _ _ _
      simp only [List.length_cons, List.length_nil] at hx
      rw [s_add (by simp; omega), s_add (by simp only [List.length_append, List.length_cons, List.length_nil] at hbd ⊢; omega)]
      have := fin w3 (hb2.trans (hb3.mono hb2.size))
      rw [Pl.nmc, if_neg (by simp [hn])] at this
      exact this
    have yes : Pl.nmOk c = true → DoX Tryd.prog (mBin .add 3 (.int .i64 (i : Int)) (.int .i64 1)) w2 (pk K) fun t48 w =>
        DoX Tryd.prog (mSlice 9 (.string ⟨l.toArray⟩) (some (.int .i64 (i : Int))) (some t48) none) w (pk K) fun t49 w =>
        DoX Tryd.prog (mBin .add 9 (.string ⟨([47] ++ (l.take i).flatMap Pl.nmc).toArray⟩) t49) w (pk K) fun t50 w =>
        J2 [t50] w := by
      intro hn
      rw [b_add, wrap64_id (by omega) (by omega), hsl, s_add (by simp only [List.length_append, List.length_cons, List.length_nil] at hbd ⊢; omega)]
      have := fin w2 hb2
      rw [Pl.nmc, if_pos hn] at this
      exact this
    rw [b_lss]
    by_cases g1 : (c.toNat : Int) < 33
    · simp only [g1, decide_true, g_tf, g_un, p_t, i_t]
      exact no (by simp [Pl.nmOk]; omega)
    simp only [g1, decide_false, g_ff, p_f]
    rw [b_gtr]
    by_cases g2 : (126 : Int) < (c.toNat : Int)
    · simp only [g2, decide_true, g_tf, g_un, p_t, i_t]
      exact no (by simp [Pl.nmOk]; omega)
    simp only [g2, decide_false, g_ff, p_f]
    rw [e_int]
    have e35 := u8d c 35 35 rfl
    by_cases g3 : c = 35
    · simp only [e35, decide_eq_true g3, g_tf, g_un, p_t, i_t]
      exact no (by simp [Pl.nmOk, g3])
    simp only [e35, decide_eq_false g3, g_ff, p_f]
    refine c_eq (rdelim_ret c w2) ?_
    cases hd : Oc.delim c with
    | true => simp only [p_f, i_t]; exact no (by simp [Pl.nmOk, hd])
    | false => simp only [p_f, i_f]; exact yes (by simp [Pl.nmOk, hd, g3]; omega)
  · have hi2 : i = l.length := by omega
    subst hi2
    simp only [hlt, decide_false, i_f]
    rw [List.take_length] at h0 ⊢
    exact hK _ _ ⟨by rw [Pl.pName, if_neg (by omega), if_neg (by simp at h0; simp [h0])]; rfl, hb2⟩
theorem rjoin_ret (ps : List (List UInt8)) (v : Value) (w : World) (hs : Sl w v 1 ps.length (strsV ps)) (hb : Pl.tot ps ≤ 1000000000000) :
    Ret Tryd.prog 48 #[v] w (fun r w' => r = .string ⟨(Pl.join ps).toArray⟩ ∧ w = w') := by
  refine ret_of fun K hK => S_foliantref04_Join_ok ?_
  unfold S_foliantref04_Join
  rw [sl_len Tryd.underlying37 hs]
  have hlen := Pl.length_tot ps
  change LoopX [.string ⟨([] : List UInt8).toArray⟩, _] _ _
  refine loop (fun vs w' => ∃ (i : Nat), vs = [.string ⟨(Pl.join (ps.take i)).toArray⟩, .int .i64 i] ∧ i ≤ ps.length ∧ w = w')
    (fun vs _ => ps.length - n1 vs) ⟨0, rfl, by omega, rfl⟩ ?_
  rintro vs w2 ⟨i, rfl, hi, rfl⟩ _
  simp only [S_foliantref04_Join_0, gd]
  rw [b_lss]
  by_cases hlt : (i : Int) < (ps.length : Int)
  · have hi2 : i < ps.length := by omega
    simp only [hlt, decide_true, i_t]
    have hgt := Pl.get_tot ps i hi2
    have hjl := Pl.join_len (ps.take i)
    have hnext : Pl.join (ps.take (i + 1)) = Pl.glue (Pl.join (ps.take i)) ps[i] := by rw [List.take_succ_eq_append_getElem hi2, Pl.join_snoc]
    have hacc : ∃ acc, Pl.join (ps.take i) = acc := ⟨_, rfl⟩
    obtain ⟨acc, hacc⟩ := hacc
    rw [hacc] at hjl hnext ⊢
    refine sl_ia1 (.string ⟨ps[i].toArray⟩) Tryd.underlying37 (by kernel_rfl) hs (by omega) (by rw [Int.toNat_natCast]; exact strsV_get hi2) fun p hp => ?_
    rw [l_cell (by kernel_rfl) hp]
    refine join fun J2 hJ2 => ?_
    have fin : ∀ (acc' : List UInt8), acc'.length ≤ acc.length + 1 → acc' ++ ps[i] = Pl.glue acc ps[i] → J2 [.string ⟨acc'.toArray⟩] w := by
      intro acc' hl' he
      refine hJ2 _ _ fun _ => ?_
      simp only [S_foliantref04_Join_1, gd]
      rw [s_add (by omega), b_add, wrap64_id (by omega) (by omega)]
      refine nextX ⟨i + 1, by rw [hnext, ← he]; rfl, by omega, rfl⟩ (by simp [n1, intOf]; omega)
    change DoX Tryd.prog (mEq .neq _ _ _ _ (.string ⟨([] : List UInt8).toArray⟩)) _ _ _
    rw [n_str]
    by_cases hp0 : ps[i] = []
    · have hd : decide (ps[i] ≠ []) = false := decide_eq_false (by simp [hp0])
      simp only [hd, rs, g_un]
      exact fin acc (by omega) (by rw [hp0, Pl.glue_nil, List.append_nil])
    have hd : decide (ps[i] ≠ []) = true := decide_eq_true hp0
    simp only [hd, rs]
    obtain ⟨c, t, hct⟩ : ∃ c t, ps[i] = c :: t := by
      cases h : ps[i] with
      | nil => exact absurd h hp0
      | cons c t => exact ⟨c, t, rfl⟩
    have skip : ((Oc.regular (Pl.lastC acc) || decide (Pl.lastC acc = 47)) && Oc.regular c) = false → J2 [.string ⟨acc.toArray⟩] w := by
      intro hc
      refine fin acc (by omega) ?_
      rw [hct]
      simp only [Pl.glue]
      rw [if_neg (by simp [hc])]
    have put : ((Oc.regular (Pl.lastC acc) || decide (Pl.lastC acc = 47)) && Oc.regular c) = true → DoX Tryd.prog (mBin .add 9 (.string ⟨acc.toArray⟩) (.string ⟨#[32]⟩)) w (pk K) fun t36 w => J2 [t36] w := by
      intro hc
      change DoX Tryd.prog (mBin .add _ _ (.string ⟨([32] : List UInt8).toArray⟩)) _ _ _
      rw [s_add (by simp; omega)]
      refine fin _ (by simp) ?_
      rw [hct]
      simp only [Pl.glue]
      rw [if_pos hc]
    by_cases ha : acc = []
    · have hd2 : decide (acc ≠ []) = false := decide_eq_false (by simp [ha])
      simp only [hd2, rs, g_un]
      exact skip (by rw [ha]; simp [Pl.lastC_nil]; intro h; exact absurd h (by decide))
    have hd2 : decide (acc ≠ []) = true := decide_eq_true ha
    simp only [hd2, rs]
    rw [s_ix (c := c) Tryd.underlying9 (by omega) (by rw [hct]; rfl)]
    refine c_eq (rregular_ret c w) ?_
    cases hc : Oc.regular c with
    | false => simp only [rs]; exact skip (by simp [hc])
    | true =>
      simp only [rs]
      rw [s_len Tryd.underlying9]
      have hpos : 0 < acc.length := List.length_pos_iff.2 ha
      rw [b_sub, wrap64_id (by omega) (by omega), s_ix (c := Pl.lastC acc) Tryd.underlying9 (by omega) (by
        rw [show (((acc.length : Nat) : Int) - 1).toNat = acc.length - 1 by omega]
        exact Pl.last_get _ ha)]
      have e47 := u8d (Pl.lastC acc) 47 47 rfl
      by_cases h47 : Pl.lastC acc = 47
      · simp only [rs, e47, decide_eq_true h47, g_un]
        exact put (by simp [h47, hc])
      simp only [rs, e47, decide_eq_false h47]
      refine c_eq (rregular_ret _ w) ?_
      cases hr : Oc.regular (Pl.lastC acc) with
      | true => simp only [rs]; exact put (by simp [hr, hc])
      | false => simp only [rs]; exact skip (by simp [hr, h47])
  · have hi2 : i = ps.length := by omega
    subst hi2
    simp only [hlt, decide_false, i_f]
    rw [List.take_length]
    exact hK _ _ ⟨rfl, rfl⟩
theorem rpad_ret (n k : Int) (hn0 : -9223372036854775808 ≤ n) (hn1 : n ≤ 9223372036854775807) (w : World) :
    Ret Tryd.prog 50 #[.int .i64 n, .int .i64 k] w (fun v w' => v = .string ⟨(Pl.pad n k).toArray⟩ ∧ w = w') := by
  refine ret_of fun K hK => S_foliantref04_Pad_ok ?_
  unfold S_foliantref04_Pad
  by_cases h1 : n < 0
  · simp only [rs, h1, decide_true, g_un]
    exact hK _ _ ⟨by rw [Pl.pad, if_pos (by omega)], rfl⟩
  simp only [rs, h1, decide_false]
  by_cases h2 : k < 1
  · simp only [rs, h2, decide_true, g_un]
    exact hK _ _ ⟨by rw [Pl.pad, if_pos (by omega)], rfl⟩
  simp only [rs, h2, decide_false]
  by_cases h3 : 20 < k
  · simp only [rs, h3, decide_true, g_un]
    exact hK _ _ ⟨by rw [Pl.pad, if_pos (by omega)], rfl⟩
  simp only [rs, h3, decide_false]
  obtain ⟨m, rfl⟩ : ∃ m : Nat, n = m := ⟨n.toNat, by omega⟩
  refine c_eq (rdigits_ret m w (by omega)) ?_
  have hit : Lib.itoa (m : Int) = Lib.decDigits m := by rw [Lib.itoa, if_neg h1, Int.toNat_natCast]
  have hl := decDigits_len m (by omega)
  simp only [s_len Tryd.underlying9, rs]
  by_cases h4 : k < ((Lib.decDigits m).length : Int)
  · simp only [h4, decide_true, i_t]
    exact hK _ _ ⟨by rw [Pl.pad, hit, if_pos (by omega)], rfl⟩
  simp only [h4, decide_false, i_f]
  refine loop (fun vs w' => ∃ (j : Nat), vs = [.string ⟨(List.replicate j 48 ++ Lib.decDigits m).toArray⟩] ∧ ((j + (Lib.decDigits m).length : Nat) : Int) ≤ k ∧ w = w')
    (fun vs _ => 20 - slen0 vs) ⟨0, rfl, by omega, rfl⟩ ?_
  rintro vs w2 ⟨j, rfl, hj, rfl⟩ _
  simp only [S_foliantref04_Pad_0, gd, s_len Tryd.underlying9]
  rw [b_lss]
  have hjl : (List.replicate j (48 : UInt8) ++ Lib.decDigits m).length = j + (Lib.decDigits m).length := by simp
  rw [hjl]
  by_cases h5 : (((j + (Lib.decDigits m).length : Nat)) : Int) < k
  · simp only [h5, decide_true, i_t]
    change DoX Tryd.prog (mBin .add _ (.string ⟨([48] : List UInt8).toArray⟩) _) _ _ _
    rw [s_add (by rw [hjl]; simp; omega)]
    refine nextX ⟨j + 1, by rw [List.replicate_succ]; rfl, by omega, rfl⟩ (by rw [slen0_mk, slen0_mk]; simp; omega)
  · simp only [h5, decide_false, i_f]
    refine hK _ _ ⟨?_, rfl⟩
    rw [Pl.pad, hit, if_neg (by omega), show (k - ((Lib.decDigits m).length : Int)).toNat = j by omega]
end Go.Proofs.YtfnpfbgnhncgpaaDoor
