/- Contracts: plain (write, String, Name, Join, Pad) of the program. -/
import Derived.Test.YtfnpfbgnhncgpaaDoorPlA
namespace Go.Proofs.YtfnpfbgnhncgpaaDoor
set_option linter.unusedVariables false
set_option linter.unusedSimpArgs false
set_option linter.defProp false
open Eng Go.RowKit

theorem repeatL_one (c : UInt8) (n : Nat) : Lib.repeatL [c] n = List.replicate n c := by
  induction n with
  | zero => rfl
  | succ n ih => simp [Lib.repeatL, List.replicate_succ, ih]
theorem ppad_ret (n k : Int) (hn0 : -9223372036854775808 ≤ n) (hn1 : n ≤ 9223372036854775807) (hk0 : -9223372036854775808 ≤ k) (hk1 : k ≤ 9223372036854775807) (w : World) (ht : Tb w) :
    Ret Tryd.prog 49 #[.int .i64 n, .int .i64 k] w (fun v w' => v = .string ⟨(Pl.pad n k).toArray⟩ ∧ Below w.heap.size w w') := by
  refine ret_of fun K hK => S_plain_Pad_ok ?_
  unfold S_plain_Pad
  refine c_any (Tryd.strconv_Itoa n hn0 hn1 w ht) ?_
  rintro e w1 ⟨rfl, d, os, rfl⟩
  have hb := below_gr w d os
  have hl := itoa_len n hn0 hn1
  simp only [Cont]
  by_cases h1 : n < 0
  · simp only [rs, h1, decide_true, g_un]
    exact hK _ _ ⟨by rw [Pl.pad, if_pos (by omega)], hb⟩
  · simp only [rs, h1, decide_false]
    by_cases h2 : k < 1
    · simp only [rs, h2, decide_true, g_un]
      exact hK _ _ ⟨by rw [Pl.pad, if_pos (by omega)], hb⟩
    · simp only [rs, h2, decide_false]
      by_cases h3 : 20 < k
      · simp only [rs, h3, decide_true, g_un]
        exact hK _ _ ⟨by rw [Pl.pad, if_pos (by omega)], hb⟩
      · simp only [rs, h3, decide_false, s_len Tryd.underlying9]
        by_cases h4 : k < ((Lib.itoa n).length : Int)
        · simp only [rs, h4, decide_true]
          exact hK _ _ ⟨by rw [Pl.pad, if_pos (by omega)], hb⟩
        · simp only [rs, h4, decide_false, s_len Tryd.underlying9]
          rw [wrap64_id (by omega) (by omega)]
          obtain ⟨c, hc⟩ : ∃ c : Nat, k - ((Lib.itoa n).length : Int) = c := ⟨(k - ((Lib.itoa n).length : Int)).toNat, by omega⟩
          rw [hc]
          refine c_any (Tryd.strings_Repeat ⟨#[48]⟩ c _ (by omega) (by show 1 * c ≤ _; omega)) ?_
          rintro e w2 ⟨rfl, hb2⟩
          simp only [Cont]
          rw [repeatL_one, s_add (by simp; omega)]
          refine hK _ _ ⟨?_, hb.trans (hb2.mono hb.size)⟩
          rw [Pl.pad, if_neg (by omega), hc, Int.toNat_natCast]

/-- What a function that writes a byte's text into a Builder must do. -/
def Each (F : Nat) (f : UInt8 → List UInt8) : Prop := ∀ (b : Nat) (v : Value) (l : List UInt8) (c : UInt8) (w : World), (Bld b v l).is w → l.length ≤ 1000000 →
  Ret Tryd.prog F #[.pointer (some ⟨b, 0, none⟩), .int .u8 c.toNat] w (fun r w' => ∃ e', (∃ v', e' = Bld b v' (l ++ f c)) ∧ Turn (Bld b v l) e' w w')
theorem write_ret (op s en : List UInt8) (F : Nat) (f : UInt8 → List UInt8) (hF : plainB Tryd.prog F = true) (he : Each F f) (hf : ∀ c, (f c).length ≤ 4) (h1 : op.length = 1) (h2 : en.length ≤ 1) (h3 : s.length ≤ 40000) (w : World) :
    Ret Tryd.prog 82 #[.string ⟨op.toArray⟩, .string ⟨s.toArray⟩, .string ⟨en.toArray⟩, .func (.func F) #[] #[]] w (fun v w' => v = .string ⟨(op ++ s.flatMap f ++ en).toArray⟩ ∧ Below w.heap.size w w') := by
  refine ret_of fun K hK => S_plain_write_ok ?_
  unfold S_plain_write
  refine o_new (fun b => .pointer (some ⟨b, 0, none⟩)) [.pointer none, .slice none 0 0] 95 (fun _ => by kernel_rfl) (Own.start w) fun b w1 ho => ?_
  simp only [s_len Tryd.underlying9, rs]
  rw [wrap64_id (n := (op.length : Int) + s.length) (by omega) (by omega), wrap64_id (by omega) (by omega)]
  rw [show ((op.length : Int) + s.length + en.length) = ((op.length + s.length + en.length : Nat) : Int) by omega]
  refine c_ret (grow_ret ho (by omega) (by omega)) ?_
  rintro _ w2 ⟨rfl, v, ho2⟩
  refine c_turn 0 ho2 rfl (writeString_ret (ho2.at_ 0 rfl) (by simp; omega)) ?_
  rintro _ _ w3 ⟨_, v3, rfl⟩ ho3
  refine loop (fun vs w' => ∃ (i : Nat) (v : Value), vs = [.int .i64 i] ∧ i ≤ s.length ∧ Own w w' [Bld b v (op ++ (s.take i).flatMap f)])
    (fun vs _ => s.length - n0 vs) ⟨0, v3, rfl, by omega, by simpa using ho3⟩ ?_
  rintro vs w4 ⟨i, v4, rfl, hi, ho4⟩ _
  simp only [S_plain_write_0, gd, rs]
  by_cases hlt : (i : Int) < (s.length : Int)
  · have hi2 : i < s.length := by omega
    simp only [hlt, decide_true, rs]
    rw [s_ix (c := s[i]) Tryd.underlying9 (by omega) (by simp [hi2])]
    have hfl := Pl.flat_len f 4 hf (s.take i)
    have htk : (s.take i).length ≤ s.length := by rw [List.length_take]; omega
    refine c_val hF (c_turn 0 ho4 rfl (R := fun _ e' => ∃ v', e' = Bld b v' (op ++ (s.take i).flatMap f ++ f s[i])) (he b v4 _ s[i] w4 (ho4.at_ 0 rfl) (by simp only [List.length_append]; omega)) ?_)
    rintro _ _ w5 ⟨v5, rfl⟩ ho5
    rw [wrap64_id (by omega) (by omega)]
    refine nextX ⟨i + 1, v5, rfl, by omega, ?_⟩ (by simp [n0, intOf]; omega)
    rw [List.take_succ_eq_append_getElem hi2, Pl.flat_snoc, ← List.append_assoc]
    exact ho5
  · have hi2 : i = s.length := by omega
    subst hi2
    simp only [hlt, decide_false, rs]
    rw [List.take_length] at ho4
    have hfl := Pl.flat_len f 4 hf s
    refine c_turn 0 ho4 rfl (writeString_ret (ho4.at_ 0 rfl) (by simp only [List.length_append]; omega)) ?_
    rintro _ _ w5 ⟨_, v5, rfl⟩ ho5
    refine c_turn 0 ho5 rfl (bldString_ret (ho5.at_ 0 rfl)) ?_
    rintro _ _ w6 ⟨rfl, rfl⟩ ho6
    exact hK _ _ ⟨rfl, ho6.done⟩
theorem u8_of (n : Nat) (h : n < 256) : ((UInt8.ofNat n).toNat : Int) = (n : Int) := by rw [UInt8.toNat_ofNat']; omega
/-- WriteByte of a byte that is reckoned. -/
theorem writeByteN_ret {b : Nat} {v : Value} {l : List UInt8} {n : Int} {k : Nat} {w : World} (h : (Bld b v l).is w) (hl : l.length < 140737488355328) (hn : n = k) (hk : k < 256) : Ret Tryd.prog 84 #[.pointer (some ⟨b, 0, none⟩), .int .u8 n] w
    (fun r w' => ∃ e', (r = .nilIface ∧ ∃ v', e' = Bld b v' (l ++ [UInt8.ofNat k])) ∧ Turn (Bld b v l) e' w w') := by
  have := writeByte_ret (c := UInt8.ofNat k) h hl
  rw [u8_of k hk, ← hn] at this
  exact this
theorem u8d (c : UInt8) (k : Int) (x : UInt8) (hx : (x.toNat : Int) = k) : decide ((c.toNat : Int) = k) = decide (c = x) := by
  by_cases h : c = x
  · subst h; rw [decide_eq_true hx, decide_eq_true rfl]
  · rw [decide_eq_false h, decide_eq_false]
    intro h2
    exact h (UInt8.toNat_inj.1 (by omega))
theorem octd_ret {b : Nat} {l : List UInt8} {c : UInt8} {w0 w : World} {v : Value} {S : Nat → Prop} (d : Nat) (i : Nat) (hd : d = 64 ∨ d = 8 ∨ d = 1) (hi : (mIx 88 (.agg #[.int .u8 64, .int .u8 8, .int .u8 1]) (.int .i64 (i : Int))).run Tryd.prog w = .ok (.value (.int .u8 (d : Int))) w)
    {t0 : Value} {K : Value → World → Prop} {PK : List PanicEntry → World → Prop} (ho : OwnS S w0 w [Bld b v l]) (hl : l.length < 140737488355328) (hi3 : i < 3)
    (hk : ∀ v' w', OwnS S w0 w' [Bld b v' (l ++ [UInt8.ofNat (48 + c.toNat / d % 8)])] → K (.int .i64 ((i + 1 : Nat) : Int)) w') :
    DoX Tryd.prog (mIx 88 (.agg #[.int .u8 64, .int .u8 8, .int .u8 1]) (.int .i64 (i : Int))) w PK fun t37 w =>
      DoX Tryd.prog (mBin .quo 5 (.int .u8 c.toNat) t37) w PK fun t41 w =>
      DoX Tryd.prog (mBin .rem 5 t41 (.int .u8 8)) w PK fun t42 w =>
      DoX Tryd.prog (mBin .add 5 (.int .u8 48) t42) w PK fun t43 w =>
      CallX Tryd.prog 84 #[.pointer (some ⟨b, 0, none⟩), t43] w PK fun t44 w =>
      DoX Tryd.prog (mBin .add 3 (.int .i64 (i : Int)) (.int .i64 1)) w PK K := by
  have h256 := c.toNat_lt
  have hq : ((c.toNat : Int).tdiv d) = ((c.toNat / d : Nat) : Int) := by rw [Int.tdiv_eq_ediv_of_nonneg (by omega)]; rcases hd with rfl | rfl | rfl <;> omega
  have hq2 : c.toNat / d < 256 := Nat.lt_of_le_of_lt (Nat.div_le_self _ _) h256
  have hr : (((c.toNat / d : Nat) : Int).tmod 8) = ((c.toNat / d % 8 : Nat) : Int) := by rw [Int.tmod_eq_emod_of_nonneg (by exact Int.natCast_nonneg _)]; omega
  refine do_ok hi ?_
  have hq3 : (0 : Int) ≤ ((c.toNat / d : Nat) : Int) := Int.natCast_nonneg _
  rw [b_quo (by omega), hq, wrap8_id hq3 (by omega), b_rem (by omega), hr, b_add, wrap8_id (by omega) (by omega)]
  refine c_turn 0 ho rfl (writeByteN_ret (k := 48 + c.toNat / d % 8) (ho.at_ 0 rfl) hl (by omega) (by omega)) ?_
  rintro _ _ w5 ⟨rfl, v5, rfl⟩ ho5
  rw [b_add, wrap64_id (by omega) (by omega), show ((i : Int) + 1) = ((i + 1 : Nat) : Int) by omega]
  exact hk _ _ ho5
theorem each_esc : Each 83 Pl.esc := by
  intro b v l c w h hl
  refine ret_of fun K hK => S_plain_String_1_ok ?_
  unfold S_plain_String_1
  have ho := OwnS.lend h
  have done : ∀ {v' : Value} {w' : World} {e' : Ent}, OwnS (Bld b v l).blk w w' [e'] → (∃ v', e' = Bld b v' (l ++ Pl.esc c)) → K (.returned (.tuple #[])) w' := fun hx he => hK _ _ ⟨_, he, hx.back⟩
  have two : (c = 40 ∨ c = 41 ∨ c = 92) → CallX Tryd.prog 84 #[.pointer (some ⟨b, 0, none⟩), (.int .u8 92)] w (pk K) fun t21 w =>
      CallX Tryd.prog 84 #[.pointer (some ⟨b, 0, none⟩), .int .u8 c.toNat] w (pk K) fun t24 w => K (.returned (.tuple #[])) w := by
    intro hc
    refine c_turn 0 ho rfl (writeByteN_ret (k := 92) h (by omega) rfl (by omega)) ?_
    rintro _ _ w1 ⟨rfl, v1, rfl⟩ ho1
    refine c_turn 0 ho1 rfl (writeByte_ret (c := c) (ho1.at_ 0 rfl) (by simp; omega)) ?_
    rintro _ _ w2 ⟨rfl, v2, rfl⟩ ho2
    exact done (v' := v2) ho2 ⟨v2, by rw [Pl.esc, if_pos hc, List.append_assoc]; rfl⟩
  have e1 := u8d c 40 40 rfl
  have e2 := u8d c 41 41 rfl
  have e3 := u8d c 92 92 rfl
  by_cases h1 : c = 40
  · simp only [rs, e1, decide_eq_true h1, g_un]
    exact two (by simp [h1])
  · simp only [rs, e1, decide_eq_false h1, g_un]
    by_cases h2 : c = 41
    · simp only [rs, e2, decide_eq_true h2, g_un]
      exact two (by simp [h2])
    · simp only [rs, e2, decide_eq_false h2, g_un]
      by_cases h3 : c = 92
      · simp only [rs, e3, decide_eq_true h3, g_un]
        exact two (by simp [h3])
      · simp only [rs, e3, decide_eq_false h3, g_un]
        have hn : ¬ (c = 40 ∨ c = 41 ∨ c = 92) := by simp [h1, h2, h3]
        have oct : (c.toNat < 32 ∨ 126 < c.toNat) → CallX Tryd.prog 84 #[.pointer (some ⟨b, 0, none⟩), (.int .u8 92)] w (pk K) fun t33 w =>
            DoX Tryd.prog (mBuild 88 #[(0, (.int .u8 64)), (1, (.int .u8 8)), (2, (.int .u8 1))]) w (pk K) fun t34 w =>
            LoopX [(.int .i64 0)] w (fun vs1 w N1 => ∀ _ : Sg, S_plain_String_1_0 (.pointer (some ⟨b, 0, none⟩)) (.int .u8 c.toNat) t34 (vs1.getD 0 undef) w N1 K) := by
          intro hc
          refine c_turn 0 ho rfl (writeByteN_ret (k := 92) h (by omega) rfl (by omega)) ?_
          rintro _ _ w1 ⟨rfl, v1, rfl⟩ ho1
          refine do_ok (w' := w1) (v := .agg #[.int .u8 64, .int .u8 8, .int .u8 1]) (by kernel_rfl) ?_
          refine loop (fun vs w' => ∃ (i : Nat) (v' : Value), vs = [.int .i64 i] ∧ i ≤ 3 ∧ OwnS (Bld b v l).blk w w' [Bld b v' (l ++ (Pl.oct c).take (i + 1))])
            (fun vs _ => 3 - n0 vs) ⟨0, v1, rfl, by omega, by simpa [Pl.oct] using ho1⟩ ?_
          rintro vs w2 ⟨i, v2, rfl, hi, ho2⟩ _
          simp only [S_plain_String_1_0, gd]
          rw [b_lss]
          by_cases hlt : (i : Int) < 3
          · simp only [hlt, decide_true, i_t]
            have hi3 : i = 0 ∨ i = 1 ∨ i = 2 := by omega
            have h256 := c.toNat_lt
            rcases hi3 with rfl | rfl | rfl
            · refine octd_ret (t0 := undef) 64 0 (.inl rfl) (by kernel_rfl) ho2 (by simp [Pl.oct]; omega) (by omega) fun v' w' h' => ?_
              refine nextX ⟨1, v', rfl, by omega, ?_⟩ (by simp [n0, intOf])
              have e : c.toNat / 64 % 8 = c.toNat / 64 := by omega
              rw [e, List.append_assoc] at h'
              exact h'
            · refine octd_ret (t0 := undef) 8 1 (.inr (.inl rfl)) (by kernel_rfl) ho2 (by simp [Pl.oct]; omega) (by omega) fun v' w' h' => ?_
              refine nextX ⟨2, v', rfl, by omega, ?_⟩ (by simp [n0, intOf])
              rw [List.append_assoc] at h'
              exact h'
            · refine octd_ret (t0 := undef) 1 2 (.inr (.inr rfl)) (by kernel_rfl) ho2 (by simp [Pl.oct]; omega) (by omega) fun v' w' h' => ?_
              refine nextX ⟨3, v', rfl, by omega, ?_⟩ (by simp [n0, intOf])
              rw [Nat.div_one, List.append_assoc] at h'
              exact h'
          · have hi3 : i = 3 := by omega
            subst hi3
            simp only [hlt, decide_false, i_f]
            refine done (v' := v2) ho2 ⟨v2, ?_⟩
            rw [Pl.esc, if_neg hn, if_pos hc]
            rfl
        by_cases h4 : (c.toNat : Int) < 32
        · simp only [rs, h4, decide_true, g_un]
          exact oct (.inl (by omega))
        · simp only [rs, h4, decide_false, g_un]
          by_cases h5 : (126 : Int) < (c.toNat : Int)
          · simp only [rs, h5, decide_true, g_un]
            exact oct (.inr (by omega))
          · simp only [rs, h5, decide_false, g_un]
            refine c_turn 0 ho rfl (writeByte_ret (c := c) h (by omega)) ?_
            rintro _ _ w1 ⟨rfl, v1, rfl⟩ ho1
            exact done (v' := v1) ho1 ⟨v1, by rw [Pl.esc, if_neg hn, if_neg (by omega)]⟩
theorem pstr_ret (l : List UInt8) (w : World) (hl : l.length ≤ 1000000) : Ret Tryd.prog 41 #[.string ⟨l.toArray⟩] w (fun v w' => v = .tuple #[.string ⟨(Pl.pStr l).1.toArray⟩, .int .i64 (Pl.pStr l).2] ∧ Below w.heap.size w w') := by
  refine ret_of fun K hK => S_plain_String_ok ?_
  unfold S_plain_String
  rw [s_len Tryd.underlying9]
  by_cases h1 : (32767 : Int) < l.length
  · simp only [rs, h1, decide_true]
    exact hK _ _ ⟨by rw [Pl.pStr, if_pos (by omega)], Below.refl _ _⟩
  · simp only [rs, h1, decide_false]
    refine c_ret (write_ret [40] l [41] _ Pl.esc (by kernel_rfl) each_esc (fun c => (Pl.esc_len c).2) rfl (by simp) (by omega) w) ?_
    rintro _ w' ⟨rfl, hb⟩
    exact hK _ _ ⟨by rw [Pl.pStr, if_neg (by omega)]; rfl, hb⟩
theorem each_nmc : Each 87 Pl.nmc := by
  intro b v l c w h hl
  refine ret_of fun K hK => S_plain_Name_1_ok ?_
  unfold S_plain_Name_1
  have ho := OwnS.lend h
  have yes : Pl.nmOk c = true → CallX Tryd.prog 84 #[.pointer (some ⟨b, 0, none⟩), .int .u8 c.toNat] w (pk K) fun t21 w => K (.returned (.tuple #[])) w := by
    intro hc
    refine c_turn 0 ho rfl (writeByte_ret (c := c) h (by omega)) ?_
    rintro _ _ w1 ⟨rfl, v1, rfl⟩ ho1
    exact hK _ _ ⟨_, ⟨v1, by rw [Pl.nmc, if_pos hc]⟩, ho1.back⟩
  have no : Pl.nmOk c = false → DoX Tryd.prog (mBuildS 64 1 #[(0, .int .u8 c.toNat)]) w (pk K) fun t24 w =>
      DoX Tryd.prog (mConv 64 9 t24) w (pk K) fun t25 w =>
      CallX Tryd.prog 85 #[t25] w (pk K) fun t26 w =>
      DoX Tryd.prog (mBin .add 9 (.string ⟨#[35]⟩) t26) w (pk K) fun t27 w =>
      CallX Tryd.prog 89 #[.pointer (some ⟨b, 0, none⟩), t27] w (pk K) fun t28 w => K (.returned (.tuple #[])) w := by
    intro hc
    refine o_new (fun b => .slice (some ⟨b, 0, none⟩) 1 1) [.int .u8 c.toNat] 5 (fun _ => by kernel_rfl) ho fun nb w1 h1 => ?_
    rw [c_bytes (l := [c]) Tryd.underlying64 Tryd.underlying5 Tryd.underlying9 (h1.sl 0 rfl 1 1 1 rfl)]
    refine c_below h1.tail (R := fun v => v = .string ⟨(Oc.hex [c]).toArray⟩) (hex_ret [c] w1 (by simp)) ?_
    rintro _ w2 rfl ho2
    change DoX Tryd.prog (mBin .add 9 (.string ⟨([35] : List UInt8).toArray⟩) (.string ⟨(Oc.hex [c]).toArray⟩)) _ _ _
    have hx := Oc.hex_length [c]
    rw [s_add (by simp only [List.length_cons, List.length_nil] at hx ⊢; omega)]
    refine c_turn 0 ho2 rfl (writeString_ret (ho2.at_ 0 rfl) (by simp only [List.length_append, List.length_cons, List.length_nil] at hx ⊢; omega)) ?_
    rintro _ _ w3 ⟨_, v1, rfl⟩ ho3
    exact hK _ _ ⟨_, ⟨v1, by rw [Pl.nmc, if_neg (by simp [hc])]⟩, ho3.back⟩
  by_cases h1 : (32 : Int) < (c.toNat : Int)
  · simp only [rs, h1, decide_true]
    by_cases h2 : (c.toNat : Int) ≤ 126
    · simp only [rs, h2, decide_true]
      have e3 : decide ((c.toNat : Int) ≠ 35) = decide (c ≠ 35) := by
        have := u8d c 35 35 rfl
        by_cases hc : c = 35
        · subst hc; rfl
        · rw [decide_eq_false hc] at this
          rw [decide_eq_true hc, decide_eq_true (of_decide_eq_false this)]
      by_cases h3 : c ≠ 35
      · simp only [rs, e3, decide_eq_true h3]
        refine c_eq (delim_ret c w) ?_
        cases hd : Oc.delim c with
        | true => simp only [rs]; exact no (by simp [Pl.nmOk, hd])
        | false => simp only [rs]; exact yes (by simp [Pl.nmOk, hd, h3]; omega)
      · simp only [rs, e3, decide_eq_false h3, g_un]
        exact no (by simp at h3; simp [Pl.nmOk, h3])
    · simp only [rs, h2, decide_false, g_un]
      exact no (by simp [Pl.nmOk]; omega)
  · simp only [rs, h1, decide_false, g_un]
    exact no (by simp [Pl.nmOk]; omega)
theorem pname_ret (l : List UInt8) (w : World) : Ret Tryd.prog 45 #[.string ⟨l.toArray⟩] w (fun v w' => v = .tuple #[.string ⟨(Pl.pName l).1.toArray⟩, .int .i64 (Pl.pName l).2] ∧ Below w.heap.size w w') := by
  refine ret_of fun K hK => S_plain_Name_ok ?_
  unfold S_plain_Name
  rw [s_len Tryd.underlying9]
  by_cases h1 : (127 : Int) < l.length
  · simp only [rs, h1, decide_true]
    exact hK _ _ ⟨by rw [Pl.pName, if_pos (by omega)], Below.refl _ _⟩
  · simp only [rs, h1, decide_false]
    refine c_eq (indexByte_ret l 0 w) ?_
    simp only [rs, Oc.indexByte_nonneg]
    cases h2 : l.contains 0 with
    | true => simp only [rs]; exact hK _ _ ⟨by rw [Pl.pName, if_neg (by omega), if_pos h2], Below.refl _ _⟩
    | false =>
      simp only [rs]
      refine c_ret (write_ret [47] l [] _ Pl.nmc (by kernel_rfl) each_nmc (fun c => Nat.le_trans (Pl.nmc_len c).2 (by omega)) rfl (by simp) (by omega) w) ?_
      rintro _ w' ⟨rfl, hb⟩
      exact hK _ _ ⟨by rw [Pl.pName, if_neg (by omega), if_neg (by simp at h2; simp [h2]), List.append_nil]; rfl, hb⟩
end Go.Proofs.YtfnpfbgnhncgpaaDoor
