/- Texts that go together: LxW Plain03C EngH LxX LxY LxZ EngI LxAA LxAB LxAC LxAD SLaw03 LxAE LxAF Plain03D EngJ LxAG Plain03E LawKit3 LxAH Plain04B Plain03F LxAI. -/
import Derived.Laws.StructEq
import Derived.Test.YtihjejmmldpelaaDoorRows
import Derived.Test.YtihjejmmldpelaaDoorMkodnnfpl
import Derived.Test.YtihjejmmldpelaaDoorMncbmfchn
import Derived.Test.YtihjejmmldpelaaDoorMhoknmcol
/- Contracts of foliantref03: hex, token, Next. -/
namespace Go.Proofs.YtihjejmmldpelaaDoor
set_option linter.unusedVariables false
set_option linter.unusedSimpArgs false
set_option linter.defProp false
open Eng Go.RowKit

/-- The digits up to the end of a hexadecimal string. -/
def digF : List UInt8 → (List UInt8 × Nat) ⊕ Int
  | [] => .inr 4
  | c :: t =>
    if c = 62 then .inl ([], 1)
    else if 0 ≤ Lx.digit c then match digF t with | .inl r => .inl (c :: r.1, r.2 + 1) | .inr e => .inr e
    else if Oc.white c then match digF t with | .inl r => .inl (r.1, r.2 + 1) | .inr e => .inr e
    else .inr 3
def hexOf : List UInt8 → List UInt8
  | [] => []
  | [a] => [Lx.byte (Lx.digit a) 0]
  | a :: b :: t => Lx.byte (Lx.digit a) (Lx.digit b) :: hexOf t
def padH (l : List UInt8) : List UInt8 := if l.length % 2 = 0 then l else l ++ [48]
theorem white_digit (c : UInt8) (h : Oc.white c = true) : Lx.digit c < 0 := by
  have : ∀ n : Fin 256, Oc.white (UInt8.ofNat n.val) = true → Lx.digit (UInt8.ofNat n.val) < 0 := by decide +kernel
  have h2 := this ⟨c.toNat, c.toNat_lt⟩
  simp only [UInt8.ofNat_toNat] at h2
  exact h2 h
theorem hexF_digF : ∀ l : List UInt8, (Lx.hexF (-1) l = match digF l with | .inl r => .inl (hexOf r.1, r.2) | .inr e => .inr e) ∧
    ∀ c : UInt8, 0 ≤ Lx.digit c → Lx.hexF (Lx.digit c) l = match digF l with | .inl r => .inl (hexOf (c :: r.1), r.2) | .inr e => .inr e
  | [] => ⟨rfl, fun _ _ => rfl⟩
  | x :: t => by
    have ih := hexF_digF t
    by_cases g1 : x = 62
    · refine ⟨?_, fun c hc => ?_⟩
      · rw [Lx.hexF, if_pos g1, digF, if_pos g1]; rfl
      · rw [Lx.hexF, if_pos g1, digF, if_pos g1, if_pos hc]; rfl
    by_cases g2 : 0 ≤ Lx.digit x
    · have hw : ¬ Oc.white x = true := fun h => by have := white_digit x h; omega
      refine ⟨?_, fun c hc => ?_⟩
      · rw [Lx.hexF, if_neg g1, if_neg hw, if_neg (by omega), if_pos (by omega), digF, if_neg g1, if_pos g2, ih.2 x g2]
        cases digF t <;> rfl
      · rw [Lx.hexF, if_neg g1, if_neg hw, if_neg (by omega), if_neg (by omega), digF, if_neg g1, if_pos g2, ih.1]
        cases digF t <;> rfl
    by_cases g3 : Oc.white x = true
    · refine ⟨?_, fun c hc => ?_⟩
      · rw [Lx.hexF, if_neg g1, if_pos g3, digF, if_neg g1, if_neg g2, if_pos g3, ih.1]
        cases digF t <;> rfl
      · rw [Lx.hexF, if_neg g1, if_pos g3, digF, if_neg g1, if_neg g2, if_pos g3, ih.2 c hc]
        cases digF t <;> rfl
    · refine ⟨?_, fun c hc => ?_⟩
      · rw [Lx.hexF, if_neg g1, if_neg g3, if_pos (by omega), digF, if_neg g1, if_neg g2, if_neg g3]
      · rw [Lx.hexF, if_neg g1, if_neg g3, if_pos (by omega), digF, if_neg g1, if_neg g2, if_neg g3]
theorem unhex_pad : ∀ (n : Nat) (l : List UInt8), l.length ≤ n → (∀ c ∈ l, 0 ≤ Lx.digit c) → Lx.unhex (padH l) = some (hexOf l)
  | _, [], _, _ => rfl
  | _, [a], _, h => by
    have h0 := h a (by simp)
    have e : padH [a] = [a, 48] := rfl
    rw [e, Lx.unhex, if_neg (by rw [show Lx.digit 48 = 0 from rfl]; omega), Lx.unhex]
    rfl
  | 0, _ :: _ :: _, h, _ => by simp at h
  | n + 1, a :: b :: t, hl, h => by
    simp only [List.length_cons] at hl
    have ih := unhex_pad n t (by omega) (fun c hc => h c (by simp [hc]))
    have ha := h a (by simp)
    have hb := h b (by simp)
    have e : padH (a :: b :: t) = a :: b :: padH t := by
      unfold padH
      simp only [List.length_cons, Nat.add_mod_right, show t.length + 1 + 1 = t.length + 2 from rfl]
      split <;> simp
    rw [e, Lx.unhex, if_neg (by omega), ih, hexOf]; rfl
def hexR (s : List UInt8) (at_ : Nat) : (List UInt8 × Nat) ⊕ Int := Lx.hexF (-1) (s.drop at_)
 attribute [local congr] g_congr in
theorem rhex3_ret (s : List UInt8) (a : Nat) (w : World) (hs : s.length ≤ 1099511627776) (ha : a ≤ s.length) : Ret Tryd.prog 78 #[.string ⟨s.toArray⟩, .int .i64 a] w (fun v w' => v = strR s a (hexR s a) ∧ Below w.heap.size w w') := by
  refine ret_of fun K hK => S_foliantref03_hex_ok ?_
  unfold S_foliantref03_hex
  let ext (acc : List UInt8) (n : Nat) (r : (List UInt8 × Nat) ⊕ Int) : (List UInt8 × Nat) ⊕ Int := match r with | .inl r => .inl (acc ++ r.1, r.2 + n) | .inr e => .inr e
  refine loop (fun vs w' => ∃ (i : Nat) (v : Value) (acc : List UInt8), vs = [.int .i64 i, v] ∧ a ≤ i ∧ i ≤ s.length ∧ acc.length ≤ i ∧ (∀ c ∈ acc, 0 ≤ Lx.digit c) ∧ digF (s.drop a) = ext acc (i - a) (digF (s.drop i)) ∧ Own w w' [BRow v acc])
    (fun vs _ => s.length - n0 vs) ⟨a, _, [], rfl, by omega, ha, by simp, by simp, ?_, (Own.start w).nilRow _ 1⟩ ?_
  · cases digF (s.drop a) <;> simp [ext]
  rintro vs w4 ⟨i, v, acc, rfl, hi1, hi2, hacc, hall, he, ho⟩ _
  simp only [S_foliantref03_hex_0, gd, s_len Tryd.underlying9]
  have hHF := (hexF_digF (s.drop a)).1
  by_cases hlt : (i : Int) < (s.length : Int)
  · have hi3 : i < s.length := by omega
    have hd := Lx.drop_cons hi3
    rw [hd, digF] at he
    have e1 : decide ((s[i].toNat : Int) ≠ 62) = decide (s[i] ≠ 62) := by
      have := u8d s[i] 62 62 rfl
      rw [decide_not, decide_not, this]
    by_cases g1 : s[i] = 62
    · have hlt2 : ¬ ((s.length : Int) ≤ (i : Int)) := by omega
      have g1' : ¬ (s[i] ≠ 62) := fun h => h g1
      simp only [rs, hlt, decide_true, s_at hi3, e1, decide_eq_false g1', s_len Tryd.underlying9, hlt2, decide_false, sl_len Tryd.underlying44 (ho.slRow 0 rfl)]
      rw [if_pos g1] at he
      have he : digF (s.drop a) = .inl (acc, 1 + (i - a)) := by rw [he]; simp [ext]
      rw [he] at hHF
      refine join fun J3 hJ3 => ?_
      have fin : ∀ (v' : Value) (w5 : World), Own w w5 [BRow v' (padH acc)] → J3 [v'] w5 := by
        intro v' w5 ho
        refine hJ3 _ _ fun _ => ?_
        simp only [S_foliantref03_hex_2, gd, o_strB 0 ho rfl]
        have hpl : (padH acc).length ≤ acc.length + 1 := by unfold padH; split <;> simp
        refine c_below ho (runhex_ret (padH acc) w5 (by omega)) ?_
        rintro _ w6 rfl ho
        rw [unhexE_some (unhex_pad _ acc (Nat.le_refl _) hall)]
        simp only [ex, rs, s_len Tryd.underlying9]
        by_cases hbig : (32767 : Int) < ((hexOf acc).length : Int)
        · simp only [hbig, decide_true, i_t]
          exact hK _ _ ⟨by rw [hexR, hHF]; simp only [strR]; rw [if_pos (by omega)], ho.done⟩
        · simp only [hbig, decide_false, i_f, rs]
          rw [wrap64_id (by omega) (by omega)]
          exact hK _ _ ⟨by rw [hexR, hHF]; simp only [strR]; rw [if_neg (by omega), show ((a + (1 + (i - a)) : Nat) : Int) = (i : Int) + 1 by omega], ho.done⟩
      rw [b_rem (by omega)]
      have hr : ((acc.length : Int).tmod 2) = ((acc.length % 2 : Nat) : Int) := by rw [Int.tmod_eq_emod_of_nonneg (by omega)]; omega
      rw [hr]
      by_cases hodd : acc.length % 2 = 0
      · rw [hodd]
        simp only [rs, ne_eq, Int.natCast_zero, not_true, decide_false]
        exact fin _ _ (by rw [padH, if_pos hodd]; exact ho)
      · have hne : ((acc.length % 2 : Nat) : Int) ≠ 0 := by omega
        simp only [rs, decide_eq_true hne]
        refine o_app1 48 rfl ho (by omega) fun v' w5 ho => ?_
        exact fin _ _ (by rw [padH, if_neg hodd]; exact ho)
    · simp only [rs, hlt, decide_true, s_at hi3, e1, decide_eq_true g1]
      rw [if_neg g1] at he
      refine join fun J2 hJ2 => ?_
      have go : ∀ (v' : Value) (acc' : List UInt8) (w5 : World), acc'.length ≤ i + 1 → (∀ c ∈ acc', 0 ≤ Lx.digit c) → digF (s.drop a) = ext acc' (i + 1 - a) (digF (s.drop (i + 1))) → Own w w5 [BRow v' acc'] → J2 [v'] w5 := by
        intro v' acc' w5 h1 h2 h3 ho
        refine hJ2 _ _ fun _ => ?_
        simp only [S_foliantref03_hex_1, gd, rs]
        rw [wrap64_id (by omega) (by omega)]
        exact nextX ⟨i + 1, v', acc', rfl, by omega, by omega, h1, h2, h3, ho⟩ (by simp [n0, intOf]; omega)
      refine c_eq (rdigit_ret s[i] w4) ?_
      by_cases g2 : 0 ≤ Lx.digit s[i]
      · simp only [rs, g2, decide_true, s_at hi3]
        rw [if_pos g2] at he
        refine o_app1 s[i] rfl ho (by omega) fun v' w5 ho => ?_
        refine go v' _ _ (by simp; omega) ?_ ?_ ho
        · intro c hc
          rcases List.mem_append.1 hc with h | h
          · exact hall c h
          · rw [List.mem_singleton] at h; rw [h]; exact g2
        · rw [he]
          cases digF (s.drop (i + 1)) with
          | inl r => simp only [ext, List.append_assoc, List.singleton_append]; rw [show r.2 + 1 + (i - a) = r.2 + (i + 1 - a) by omega]
          | inr e => rfl
      · simp only [rs, g2, decide_false, s_at hi3]
        rw [if_neg g2] at he
        refine c_eq (rwhite_ret s[i] w4) ?_
        cases hw : Oc.white s[i] with
        | true =>
          simp only [rs, Bool.not_true]
          rw [if_pos hw] at he
          refine go v acc _ (by omega) hall ?_ ho
          rw [he]
          cases digF (s.drop (i + 1)) with
          | inl r => simp only [ext]; rw [show r.2 + 1 + (i - a) = r.2 + (i + 1 - a) by omega]
          | inr e => rfl
        | false =>
          simp only [rs, Bool.not_false]
          rw [if_neg (by rw [hw]; decide)] at he
          rw [he] at hHF
          exact hK _ _ ⟨by rw [hexR, hHF]; rfl, ho.done⟩
  · have hi3 : i = s.length := by omega
    have hge : ((s.length : Int) ≤ (i : Int)) := by omega
    rw [hi3, List.drop_length] at he
    rw [he] at hHF
    simp only [rs, hlt, decide_false, g_un, s_len Tryd.underlying9, hge, decide_true]
    exact hK _ _ ⟨by rw [hexR, hHF]; rfl, ho.done⟩
theorem strR_inl {s : List UInt8} {a : Nat} {r : List UInt8 × Nat} : strR s a (.inl r) = .tuple #[.string ⟨(if 32767 < r.1.length then ([] : List UInt8) else r.1).toArray⟩, .int .i64 (if 32767 < r.1.length then 0 else ((a + r.2 : Nat) : Int)), .int .i64 (if 32767 < r.1.length then 5 else 0)] := by
  unfold strR
  simp only
  by_cases h : 32767 < r.1.length
  · simp only [if_pos h]
  · simp only [if_neg h]
theorem told_str (a : Nat) (r : (List UInt8 × Nat) ⊕ Int) : (match r with | .inr e => Lx.refused e | .inl r => Lx.told 3 a (a + 1 + r.2 : Nat) r.1 32767) =
    match r with
    | .inr e => Lx.refused e
    | .inl r => if 32767 < r.1.length then Lx.refused 5 else (⟨3, a, (a + 1 + r.2 : Nat), 0, r.1⟩, 0) := by
  cases r with
  | inr e => rfl
  | inl r =>
    simp only [Lx.told]
    by_cases h : 32767 < r.1.length
    · rw [if_pos h, if_pos (by omega)]
    · rw [if_neg h, if_neg (by omega)]
theorem text_textR (s : List UInt8) (a : Nat) : Lx.text s a = match textR s (a + 1) with | .inr e => Lx.refused e | .inl r => Lx.told 3 a (a + 1 + r.2 : Nat) r.1 32767 := by
  unfold Lx.text textR
  cases Lx.textG 0 1 (s.drop (a + 1)) <;> rfl
theorem textR_pos (s : List UInt8) (a : Nat) (e : Int) (h : textR s a = .inr e) : e ≠ 0 := by
  unfold textR at h
  split at h
  · cases h; decide
  · cases h
theorem hexF_pos : ∀ (l : List UInt8) (h e : Int), Lx.hexF h l = .inr e → e ≠ 0
  | [], _, e, h => by rw [Lx.hexF] at h; cases h; decide
  | c :: t, h, e, he => by
    rw [Lx.hexF] at he
    split at he
    · cases he
    · split at he
      · cases hh : Lx.hexF h t with
        | inl r => rw [hh] at he; cases he
        | inr e' => rw [hh] at he; cases he; exact hexF_pos t h e hh
      · split at he
        · cases he; decide
        · split at he
          · cases hh : Lx.hexF (Lx.digit c) t with
            | inl r => rw [hh] at he; cases he
            | inr e' => rw [hh] at he; cases he; exact hexF_pos t _ e hh
          · cases hh : Lx.hexF (-1) t with
            | inl r => rw [hh] at he; cases he
            | inr e' => rw [hh] at he; cases he; exact hexF_pos t _ e hh
theorem rtoken_ret (s : List UInt8) (a : Nat) (w : World) (hs : s.length ≤ 1099511627776) (ha : a < s.length) : Ret Tryd.prog 47 #[.string ⟨s.toArray⟩, .int .i64 a] w (fun v w' => v = tokR (Lx.token s a) ∧ Below w.heap.size w w') := by
  refine ret_of fun K hK => S_foliantref03_token_ok ?_
  unfold S_foliantref03_token
  refine o_tok (Own.start w) fun b w1 ho => ?_
  have hd := Lx.drop_cons ha
  have hT : Lx.token s a = if s[a] = 91 ∨ s[a] = 93 ∨ s[a] = 123 ∨ s[a] = 125 then Lx.mark s a 1
    else if s[a] = 60 then (if (s.drop (a + 1)).head? = some s[a] then Lx.mark s a 2 else Lx.hex s a)
    else if s[a] = 62 then (if (s.drop (a + 1)).head? = some s[a] then Lx.mark s a 2 else Lx.refused 3)
    else if s[a] = 47 then Lx.name s a
    else if s[a] = 40 then Lx.text s a
    else if s[a] = 41 then Lx.refused 3
    else Lx.word s a := by rw [Lx.token, hd]
  have hw1 : IntKind.wrap .i64 ((a : Int) + 1) = ((a + 1 : Nat) : Int) := by rw [wrap64_id (by omega) (by omega)]; omega
  have hw2 : IntKind.wrap .i64 ((a : Int) + 2) = ((a + 2 : Nat) : Int) := by rw [wrap64_id (by omega) (by omega)]; omega
  -- the byte behind is the same
  have two : (s.drop (a + 1)).head? = some s[a] → a + 2 ≤ s.length := by
    intro h
    cases hdd : s.drop (a + 1) with
    | nil => rw [hdd] at h; cases h
    | cons x t =>
      have := congrArg List.length hdd
      simp at this; omega
  have hdbl : ∀ {E : Value → World → Prop}, E (.bool (decide ((s.drop (a + 1)).head? = some s[a]))) w1 → DoX Tryd.prog (mB .len #[9] 3 #[false] #[.string ⟨s.toArray⟩]) w1 (pk K) fun t23 w =>
      DoX Tryd.prog (mBin .lss 3 (.int .i64 ((a + 1 : Nat) : Int)) t23) w (pk K) fun t24 w =>
      GDo t24 true (fun E => E (.string ⟨s.toArray⟩) w) w fun t26 w =>
      GDo t24 true (fun E => E (.int .i64 a) w) w fun t27 w =>
      GDo t24 true (fun E => DoX Tryd.prog (mBin .add 3 t27 (.int .i64 1)) w (pk K) E) w fun t28 w =>
      GDo t24 true (fun E => DoX Tryd.prog (mIx 9 t26 t28) w (pk K) E) w fun t29 w =>
      GDo t24 true (fun E => E (.int .u8 s[a].toNat) w) w fun t30 w =>
      GDo t24 true (fun E => DoX Tryd.prog (mEq .eql 5 (.tmp 29) (.tmp 30) t29 t30) w (pk K) E) w fun t31 w =>
      DoX Tryd.prog (mPick t24 t31 (.bool false)) w (pk K) E := by
    intro E hE
    by_cases h : ((a + 1 : Nat) : Int) < (s.length : Int)
    · have h2 : a + 1 < s.length := by omega
      simp only [s_len Tryd.underlying9, rs, h, decide_true, hw1, s_at h2]
      rw [show decide ((s[a + 1].toNat : Int) = (s[a].toNat : Int)) = decide ((s.drop (a + 1)).head? = some s[a]) by
        rw [u8d s[a + 1] _ s[a] rfl, Lx.drop_cons h2, List.head?_cons]
        by_cases g : s[a + 1] = s[a]
        · rw [decide_eq_true g, decide_eq_true (by rw [g])]
        · rw [decide_eq_false g, decide_eq_false (by simpa using g)]]
      exact hE
    · rw [decide_eq_false (by rw [List.drop_eq_nil_of_le (by omega)]; simp)] at hE
      simp only [s_len Tryd.underlying9, rs, h, decide_false, g_un]
      exact hE
  simp only [s_at ha]
  rw [b_add, hw1]
  refine hdbl ?_
  generalize hD : decide ((s.drop (a + 1)).head? = some s[a]) = D at *
  have hDt : D = true → (s.drop (a + 1)).head? = some s[a] := fun h => by rw [h] at hD; exact of_decide_eq_true hD
  have hDf : D = false → ¬ (s.drop (a + 1)).head? = some s[a] := fun h => by rw [h] at hD; exact of_decide_eq_false hD
  have q1 := u8d s[a] 60 60 rfl
  have q2 := u8d s[a] 62 62 rfl
  have q3 := u8d s[a] 47 47 rfl
  have q4 := u8d s[a] 40 40 rfl
  have q5 := u8d s[a] 41 41 rfl
  have p1 := u8d s[a] 91 91 rfl
  have p2 := u8d s[a] 93 93 rfl
  have p3 := u8d s[a] 123 123 rfl
  have p4 := u8d s[a] 125 125 rfl
  have mk : ∀ n : Nat, a + n ≤ s.length → Lx.token s a = Lx.mark s a n → DoX Tryd.prog (mSlice 9 (.string ⟨s.toArray⟩) (some (.int .i64 a)) (some (.int .i64 ((a + n : Nat) : Int))) none) w1 (pk K) fun t49 w =>
      DoX Tryd.prog (mBuild 33 #[(0, (.int .i64 6)), (1, .int .i64 a), (2, .int .i64 ((a + n : Nat) : Int)), (4, t49)]) w (pk K) fun t50 w =>
      DoX Tryd.prog (mStore 33 (.pointer (some ⟨b, 0, none⟩)) t50) w (pk K) fun _ w =>
      RetX Tryd.prog [.cell (.pointer (some ⟨b, 0, none⟩)) 33, .val (.int .i64 0)] w K := by
    intro n hn hm
    rw [s_cut (i := a) (j := a + n) rfl rfl (by omega) hn, m_tok4]
    exact tok_put 0 ho rfl fun w' ho => hK _ _ ⟨by rw [hm]; rfl, ho.done⟩
  have no : ∀ (e : Int), Lx.token s a = Lx.refused e → DoX Tryd.prog (mBuild 33 #[]) w1 (pk K) fun t50 w =>
      DoX Tryd.prog (mStore 33 (.pointer (some ⟨b, 0, none⟩)) t50) w (pk K) fun _ w =>
      RetX Tryd.prog [.cell (.pointer (some ⟨b, 0, none⟩)) 33, .val (.int .i64 e)] w K := by
    intro e hm
    rw [m_tok0]
    exact tok_put 0 ho rfl fun w' ho => hK _ _ ⟨by rw [hm]; rfl, ho.done⟩
  -- strings
  have str : ∀ (r : (List UInt8 × Nat) ⊕ Int) (w2 : World), Own w w2 [tokE b Lx.none_] → (∀ e, r = .inr e → e ≠ 0) → Lx.token s a = (match r with | .inr e => Lx.refused e | .inl r => Lx.told 3 a (a + 1 + r.2 : Nat) r.1 32767) → ∀ x y z, strR s (a + 1) r = .tuple #[x, y, z] → S_foliantref03_token_0 (.int .i64 a) (.pointer (some ⟨b, 0, none⟩)) x y z w2 K := by
    intro r w2 ho hpos hm x y z hxyz
    rw [told_str] at hm
    unfold S_foliantref03_token_0
    cases r with
    | inr e =>
      simp only [strR] at hxyz
      injection hxyz with hxyz
      injection hxyz with hxyz
      simp only [List.cons.injEq, and_true] at hxyz
      obtain ⟨rfl, rfl, rfl⟩ := hxyz
      have he := hpos e rfl
      simp only [rs, decide_eq_true he, m_tok0]
      exact tok_put 0 ho rfl fun w' ho => hK _ _ ⟨by rw [hm]; rfl, ho.done⟩
    | inl r =>
      rw [strR_inl] at hxyz
      injection hxyz with hxyz
      injection hxyz with hxyz
      simp only [List.cons.injEq, and_true] at hxyz
      obtain ⟨rfl, rfl, rfl⟩ := hxyz
      by_cases hbig : 32767 < r.1.length
      · simp only [if_pos hbig, rs, ne_eq, show ¬ ((5 : Int) = 0) by decide, not_false_eq_true, decide_true, m_tok0]
        exact tok_put 0 ho rfl fun w' ho => hK _ _ ⟨by rw [hm]; simp only; rw [if_pos hbig]; rfl, ho.done⟩
      · simp only [if_neg hbig, rs, ne_eq, not_true, decide_false, m_tok4]
        exact tok_put 0 ho rfl fun w' ho => hK _ _ ⟨by rw [hm]; simp only; rw [if_neg hbig], ho.done⟩
  have trip : ∀ r, ∃ x y z, strR s (a + 1) r = .tuple #[x, y, z] := by
    intro r
    cases r with
    | inr e => exact ⟨_, _, _, rfl⟩
    | inl r => exact ⟨_, _, _, strR_inl⟩
  by_cases g1 : s[a] = 60
  · have hT : Lx.token s a = if (s.drop (a + 1)).head? = some s[a] then Lx.mark s a 2 else Lx.hex s a := by
      rw [hT, if_neg (by rw [g1]; decide), if_pos g1]
    simp only [rs, q1, decide_eq_true g1, g_un]
    cases hDD : D with
    | true =>
      have h2 := hDt hDD
      simp only [rs, hw2]
      exact mk 2 (two h2) (by rw [hT, if_pos h2])
    | false =>
      have h2 := hDf hDD
      rw [if_neg h2] at hT
      have n1 : ¬ s[a] = 91 := by rw [g1]; decide
      have n2 : ¬ s[a] = 93 := by rw [g1]; decide
      have n3 : ¬ s[a] = 123 := by rw [g1]; decide
      have n4 : ¬ s[a] = 125 := by rw [g1]; decide
      have n5 : ¬ s[a] = 62 := by rw [g1]; decide
      have n6 : ¬ s[a] = 41 := by rw [g1]; decide
      have n7 : ¬ s[a] = 47 := by rw [g1]; decide
      have n8 : ¬ s[a] = 40 := by rw [g1]; decide
      simp only [rs, p1, p2, p3, p4, q2, q5, q3, q4, q1, decide_eq_false n1, decide_eq_false n2, decide_eq_false n3, decide_eq_false n4, decide_eq_false n5, decide_eq_false n6, decide_eq_false n7, decide_eq_false n8, decide_eq_true g1, g_un, hw1]
      refine c_below ho (rlit_ret s (a + 1) w1 hs (by omega)) ?_
      rintro _ w2 rfl ho
      obtain ⟨x, y, z, hxyz⟩ := trip (textR s (a + 1))
      rw [hxyz]
      simp only [ex]
      refine join fun J hJ => ?_
      refine c_below ho (rhex3_ret s (a + 1) w2 hs (by omega)) ?_
      rintro _ w3 rfl ho
      obtain ⟨x', y', z', hxyz'⟩ := trip (hexR s (a + 1))
      rw [hxyz']
      simp only [ex]
      refine hJ _ _ fun _ => ?_
      simp only [gd]
      exact str (hexR s (a + 1)) w3 ho (fun e he => hexF_pos _ _ _ he) (by rw [hT, Lx.hex, hexR]; cases Lx.hexF (-1) (s.drop (a + 1)) <;> rfl) _ _ _ hxyz'
  by_cases g2 : s[a] = 62
  · have hT : Lx.token s a = if (s.drop (a + 1)).head? = some s[a] then Lx.mark s a 2 else Lx.refused 3 := by
      rw [hT, if_neg (by rw [g2]; decide), if_neg g1, if_pos g2]
    simp only [rs, q1, decide_eq_false g1, q2, decide_eq_true g2, g_un]
    cases hDD : D with
    | true =>
      have h2 := hDt hDD
      simp only [rs, hw2]
      exact mk 2 (two h2) (by rw [hT, if_pos h2])
    | false =>
      have h2 := hDf hDD
      rw [if_neg h2] at hT
      have n1 : ¬ s[a] = 91 := by rw [g2]; decide
      have n2 : ¬ s[a] = 93 := by rw [g2]; decide
      have n3 : ¬ s[a] = 123 := by rw [g2]; decide
      have n4 : ¬ s[a] = 125 := by rw [g2]; decide
      simp only [rs, p1, p2, p3, p4, q2, decide_eq_false n1, decide_eq_false n2, decide_eq_false n3, decide_eq_false n4, decide_eq_true g2, g_un]
      exact no 3 hT
  simp only [rs, q1, decide_eq_false g1, q2, decide_eq_false g2, g_un]
  by_cases b1 : s[a] = 91
  · simp only [rs, p1, decide_eq_true b1, g_un, hw1]
    exact mk 1 (by omega) (by rw [hT, if_pos (.inl b1)])
  by_cases b2 : s[a] = 93
  · simp only [rs, p1, decide_eq_false b1, p2, decide_eq_true b2, g_un, hw1]
    exact mk 1 (by omega) (by rw [hT, if_pos (.inr (.inl b2))])
  by_cases b3 : s[a] = 123
  · simp only [rs, p1, decide_eq_false b1, p2, decide_eq_false b2, p3, decide_eq_true b3, g_un, hw1]
    exact mk 1 (by omega) (by rw [hT, if_pos (.inr (.inr (.inl b3)))])
  by_cases b4 : s[a] = 125
  · simp only [rs, p1, decide_eq_false b1, p2, decide_eq_false b2, p3, decide_eq_false b3, p4, decide_eq_true b4, g_un, hw1]
    exact mk 1 (by omega) (by rw [hT, if_pos (.inr (.inr (.inr b4)))])
  rw [if_neg (by rintro (h | h | h | h) <;> contradiction), if_neg g1, if_neg g2] at hT
  simp only [rs, p1, p2, p3, p4, decide_eq_false b1, decide_eq_false b2, decide_eq_false b3, decide_eq_false b4, g_un, q2, decide_eq_false g2]
  by_cases g5 : s[a] = 41
  · simp only [rs, q5, decide_eq_true g5, g_un]
    exact no 3 (by rw [hT, if_neg (by rw [g5]; decide), if_neg (by rw [g5]; decide), if_pos g5])
  simp only [rs, q5, decide_eq_false g5]
  by_cases g3 : s[a] = 47
  · rw [if_pos g3] at hT
    simp only [rs, q3, decide_eq_true g3, hw1]
    refine c_eq (rrun_ret s (a + 1) w1 hs (by omega)) ?_
    have hto := Lx.run_le s (show a + 1 ≤ s.length by omega)
    have hto2 : a + 1 ≤ Lx.run s (a + 1) := by unfold Lx.run; omega
    rw [s_cut rfl rfl hto2 hto]
    have hcl : (Lx.cut s (a + 1) (Lx.run s (a + 1))).length ≤ s.length := by rw [cut_length hto]; omega
    refine c_below ho (rnamet_ret _ w1 (by omega)) ?_
    rintro _ w2 rfl ho
    have hN : Lx.token s a = if (nameR (Lx.cut s (a + 1) (Lx.run s (a + 1)))).2 ≠ 0 then Lx.refused (nameR (Lx.cut s (a + 1) (Lx.run s (a + 1)))).2 else (⟨4, a, Lx.run s (a + 1), 0, (nameR (Lx.cut s (a + 1) (Lx.run s (a + 1)))).1⟩, 0) := by
      rw [hT, Lx.name, nameR]
      cases Lx.nameF (Lx.cut s (a + 1) (Lx.run s (a + 1))) with
      | none => rfl
      | some x =>
        simp only [Lx.told]
        by_cases h : 127 < x.length
        · rw [if_pos (by omega), if_pos h]; simp [Lx.refused]
        · rw [if_neg (by omega), if_neg h]; simp
    simp only [ex, rs]
    by_cases he : (nameR (Lx.cut s (a + 1) (Lx.run s (a + 1)))).2 ≠ 0
    · rw [if_pos he] at hN
      simp only [decide_eq_true he, i_t, m_tok0]
      exact tok_put 0 ho rfl fun w' ho => hK _ _ ⟨by rw [hN]; rfl, ho.done⟩
    · rw [if_neg he] at hN
      simp only [decide_eq_false he, i_f, m_tok4]
      exact tok_put 0 ho rfl fun w' ho => hK _ _ ⟨by rw [hN], ho.done⟩
  simp only [rs, q3, decide_eq_false g3]
  rw [if_neg g3] at hT
  by_cases g4 : s[a] = 40
  · rw [if_pos g4] at hT
    simp only [rs, q4, decide_eq_true g4, g_un, hw1]
    refine c_below ho (rlit_ret s (a + 1) w1 hs (by omega)) ?_
    rintro _ w2 rfl ho
    obtain ⟨x, y, z, hxyz⟩ := trip (textR s (a + 1))
    rw [hxyz]
    simp only [ex]
    refine join fun J hJ => ?_
    refine hJ _ _ fun _ => ?_
    simp only [gd]
    exact str (textR s (a + 1)) w2 ho (fun e he => textR_pos _ _ _ he) (by rw [hT, text_textR]) _ _ _ hxyz
  rw [if_neg g4, if_neg g5] at hT
  simp only [rs, q4, decide_eq_false g4, q1, decide_eq_false g1]
  refine c_eq (rrun_ret s a w1 hs (by omega)) ?_
  have hto := Lx.run_le s (show a ≤ s.length by omega)
  have hto2 : a ≤ Lx.run s a := by unfold Lx.run; omega
  rw [s_cut rfl rfl hto2 hto]
  have hcl : (Lx.cut s a (Lx.run s a)).length ≤ s.length := by rw [cut_length hto]; omega
  refine c_below ho (rword_ret _ w1 (by omega)) ?_
  rintro _ w2 rfl ho
  have hW : Lx.token s a = _ := hT.trans (wordR_wordT (Lx.cut s a (Lx.run s a)) a (Lx.run s a))
  simp only [tokR, ex]
  refine o_tok ho fun b2 w3 ho => ?_
  refine o_put 0 ho rfl (new := tokC (wordR (Lx.cut s a (Lx.run s a))).1) szTok (tokC_one _) rfl fun w4 ho => ?_
  have ho : Own w w4 [tokE b2 (wordR (Lx.cut s a (Lx.run s a))).1, tokE b Lx.none_] := ho
  simp only [rs]
  by_cases he : (wordR (Lx.cut s a (Lx.run s a))).2 ≠ 0
  · rw [if_pos he] at hW
    simp only [decide_eq_true he, i_t, m_tok0]
    exact tok_put 1 ho rfl fun w' ho => hK _ _ ⟨by rw [hW]; rfl, ho.done⟩
  · rw [if_neg he] at hW
    simp only [decide_eq_false he, i_f]
    rw [f_addr (show fOff Tryd.prog 33 1 = some 1 by kernel_rfl)]
    refine o_store 0 ho rfl (by kernel_rfl) rfl (by simp [tokC]) fun w5 ho => ?_
    rw [f_addr (show fOff Tryd.prog 33 2 = some 2 by kernel_rfl)]
    refine o_store 0 ho rfl (by kernel_rfl) rfl (by simp [tokC]) fun w6 ho => ?_
    have ho : Own w w6 [tokE b2 { (wordR (Lx.cut s a (Lx.run s a))).1 with a := a, t := Lx.run s a }, tokE b Lx.none_] := ho
    rw [l_at (ho.agg 0 rfl aggTok)]
    exact tok_put 1 ho rfl fun w' ho => hK _ _ ⟨by rw [hW], ho.done⟩
theorem rnext_ret (s : List UInt8) (i : Int) (w : World) (hs : s.length ≤ 1099511627776) : Ret Tryd.prog 15 #[.string ⟨s.toArray⟩, .int .i64 i] w (fun v w' => v = tokR (Lx.next s i) ∧ Below w.heap.size w w') := by
  refine ret_of fun K hK => S_foliantref03_Next_ok ?_
  unfold S_foliantref03_Next
  refine o_tok (Own.start w) fun b w1 ho => ?_
  have out : (i < 0 ∨ (s.length : Int) < i) → DoX Tryd.prog (mBuild 33 #[]) w1 (pk K) fun t50 w =>
      DoX Tryd.prog (mStore 33 (.pointer (some ⟨b, 0, none⟩)) t50) w (pk K) fun _ w =>
      RetX Tryd.prog [.cell (.pointer (some ⟨b, 0, none⟩)) 33, .val (.int .i64 1)] w K := by
    intro h
    rw [m_tok0]
    exact tok_put 0 ho rfl fun w' ho => hK _ _ ⟨by rw [Lx.next, if_pos h]; rfl, ho.done⟩
  by_cases h1 : i < 0
  · simp only [rs, h1, decide_true, g_un]
    exact out (.inl h1)
  simp only [rs, h1, decide_false, s_len Tryd.underlying9]
  by_cases h2 : (s.length : Int) < i
  · simp only [rs, h2, decide_true]
    exact out (.inr h2)
  simp only [rs, h2, decide_false]
  have hsk : Lx.skipI s i = ((Lx.skip s i.toNat : Nat) : Int) := by rw [Lx.skipI, if_neg (by omega)]
  have hN : Lx.next s i = Lx.token s (Lx.skip s i.toNat) := by rw [Lx.next, if_neg (by omega)]
  have hle := Lx.skip_le s (k := i.toNat) (by omega)
  refine c_eq (rskip_ret s i w1 hs) ?_
  rw [hsk]
  generalize Lx.skip s i.toNat = a at *
  simp only [s_len Tryd.underlying9, rs]
  by_cases hend : (s.length : Int) ≤ (a : Int)
  · have : a = s.length := by omega
    simp only [hend, decide_true, i_t, m_tok012]
    refine tok_put 0 ho rfl fun w' ho => hK _ _ ⟨?_, ho.done⟩
    rw [hN, Lx.token, this, List.drop_length]
  · simp only [hend, decide_false, i_f]
    exact tok_tail 0 ho rfl (rtoken_ret s a w1 hs (by omega)) fun w' hb => hK _ _ ⟨by rw [hN], hb⟩
end Go.Proofs.YtihjejmmldpelaaDoor
/- Plain mathematics of layer 3: where tokens end; lists of tokens. -/
namespace Go.Proofs.YtihjejmmldpelaaDoor
set_option linter.unusedVariables false
set_option linter.unusedSimpArgs false
set_option linter.defProp false
open Go
namespace Lx
open Oc
theorem hexF_le : ∀ (l : List UInt8) (h : Int) (r : List UInt8 × Nat), hexF h l = .inl r → 1 ≤ r.2 ∧ r.2 ≤ l.length
  | [], _, r, h => by rw [hexF] at h; cases h
  | c :: t, h, r, he => by
    rw [hexF] at he
    have step : ∀ h', (∀ r, hexF h' t = .inl r → 1 ≤ r.2 ∧ r.2 ≤ t.length) := fun h' r hr => hexF_le t h' r hr
    split at he
    · cases he; simp
    · split at he
      · cases hh : hexF h t with
        | inr e => rw [hh] at he; cases he
        | inl q => rw [hh] at he; cases he; have := step _ q hh; simp; omega
      · split at he
        · cases he
        · split at he
          · cases hh : hexF (digit c) t with
            | inr e => rw [hh] at he; cases he
            | inl q => rw [hh] at he; cases he; have := step _ q hh; simp; omega
          · cases hh : hexF (-1) t with
            | inr e => rw [hh] at he; cases he
            | inl q => rw [hh] at he; cases he; have := step _ q hh; simp; omega
theorem textG_le : ∀ (l : List UInt8) (k o : Nat) (r : List UInt8 × Nat), textG k o l = some r → 1 ≤ r.2 ∧ r.2 ≤ l.length
  | [], k, o, r, h => by
    cases k <;> (rw [textG] at h; cases h)
  | c :: t, k + 1, o, r, h => by
    rw [textG] at h
    cases hh : textG k o t with
    | none => rw [hh] at h; cases h
    | some q => rw [hh] at h; cases h; have := textG_le t k o q hh; simp; omega
  | c :: t, 0, o, r, h => by
    rw [textG] at h
    have step : ∀ (k o : Nat) (f : List UInt8 → List UInt8), (textG k o t).map (fun r => (f r.1, r.2 + 1)) = some r → 1 ≤ r.2 ∧ r.2 ≤ (c :: t).length := by
      intro k o f h
      cases hh : textG k o t with
      | none => rw [hh] at h; cases h
      | some q => rw [hh] at h; cases h; have := textG_le t k o q hh; simp; omega
    split at h
    · exact step _ _ _ h
    · split at h
      · split at h
        · cases h
        · exact step _ _ _ h
      · split at h
        · exact step _ _ (fun x => c :: x) h
        · split at h
          · split at h
            · cases h; simp
            · exact step _ _ (fun x => c :: x) h
          · exact step _ _ (fun x => c :: x) h
theorem told_ok {k a t : Int} {x : List UInt8} {m : Int} (h : (told k a t x m).2 = 0) : told k a t x m = (⟨k, a, t, 0, x⟩, 0) := by
  unfold told at h ⊢
  split
  · rename_i hh; rw [if_pos hh] at h; cases h
  · rfl
theorem skipF_stop : ∀ (b : Bool) (l : List UInt8), skipF false (l.drop (skipF b l)) = 0
  | _, [] => by simp [skipF]
  | true, c :: t => by
    simp only [skipF]
    rw [Nat.add_comm, List.drop_succ_cons]
    exact skipF_stop _ t
  | false, c :: t => by
    simp only [skipF]
    split
    · rw [Nat.add_comm, List.drop_succ_cons]; exact skipF_stop _ t
    · split
      · rw [Nat.add_comm, List.drop_succ_cons]; exact skipF_stop _ t
      · rename_i h1 h2
        rw [List.drop_zero, skipF, if_neg h1, if_neg h2]
theorem skip_stop (s : List UInt8) (k : Nat) : skipF false (s.drop (skip s k)) = 0 := by
  have := skipF_stop false (s.drop k)
  rw [List.drop_drop] at this
  exact this
theorem skip_skip (s : List UInt8) (k : Nat) : skip s (skip s k) = skip s k := by
  have := skip_stop s k
  show skip s k + skipF false (s.drop (skip s k)) = skip s k
  rw [this]; rfl
theorem stop_head {c : UInt8} {t : List UInt8} (h : skipF false (c :: t) = 0) : c ≠ 37 ∧ white c = false := by
  rw [skipF] at h
  split at h
  · omega
  · rename_i h1
    split at h
    · omega
    · rename_i h2
      exact ⟨h1, by simpa using h2⟩
theorem regular_of (c : UInt8) (hw : white c = false) (h1 : ¬ (c = 91 ∨ c = 93 ∨ c = 123 ∨ c = 125)) (h2 : c ≠ 60) (h3 : c ≠ 62) (h4 : c ≠ 47) (h5 : c ≠ 40) (h6 : c ≠ 41) (h7 : c ≠ 37) : regular c = true := by
  have g1 : ¬ c = 91 := fun e => h1 (.inl e)
  have g2 : ¬ c = 93 := fun e => h1 (.inr (.inl e))
  have g3 : ¬ c = 123 := fun e => h1 (.inr (.inr (.inl e)))
  have g4 : ¬ c = 125 := fun e => h1 (.inr (.inr (.inr e)))
  simp [regular, hw, delim, delims, g1, g2, g3, g4, h2, h3, h4, h5, h6, h7]
theorem wordT_ok {t : List UInt8} {a r : Int} (h : (wordT t a r).2 = 0) : (wordT t a r).1.k ≠ 0 ∧ (wordT t a r).1.a = a ∧ (wordT t a r).1.t = r := by
  unfold wordT at h ⊢
  split at h
  · rename_i h1
    rw [if_pos h1]
    split at h
    · rename_i h2; exact absurd h h2
    · rename_i h2; rw [if_neg h2]; exact ⟨by simp, rfl, rfl⟩
  · rename_i h1
    rw [if_neg h1]
    split at h
    · rename_i h2; rw [if_pos h2]; exact ⟨by simp, rfl, rfl⟩
    · rename_i h2
      rw [if_neg h2]
      split at h
      · cases h
      · rename_i h3
        rw [if_neg h3, told_ok h]
        exact ⟨by simp, rfl, rfl⟩
/-- Where a token stands. -/
theorem token_bd {s : List UInt8} {a : Nat} (ha : a < s.length) (hsk : skipF false (s.drop a) = 0) (h : (token s a).2 = 0) : (token s a).1.k ≠ 0 ∧ (token s a).1.a = a ∧ (a : Int) < (token s a).1.t ∧ (token s a).1.t ≤ s.length := by
  have hd := drop_cons ha
  have hT : token s a = if s[a] = 91 ∨ s[a] = 93 ∨ s[a] = 123 ∨ s[a] = 125 then mark s a 1
    else if s[a] = 60 then (if (s.drop (a + 1)).head? = some s[a] then mark s a 2 else hex s a)
    else if s[a] = 62 then (if (s.drop (a + 1)).head? = some s[a] then mark s a 2 else refused 3)
    else if s[a] = 47 then name s a
    else if s[a] = 40 then text s a
    else if s[a] = 41 then refused 3
    else word s a := by rw [token, hd]
  rw [hd] at hsk
  obtain ⟨h37, hw⟩ := stop_head hsk
  have two : (s.drop (a + 1)).head? = some s[a] → a + 2 ≤ s.length := by
    intro h
    cases hdd : s.drop (a + 1) with
    | nil => rw [hdd] at h; cases h
    | cons x t =>
      have := congrArg List.length hdd
      simp at this; omega
  rw [hT] at h ⊢
  by_cases g0 : s[a] = 91 ∨ s[a] = 93 ∨ s[a] = 123 ∨ s[a] = 125
  · rw [if_pos g0]; exact ⟨by simp [mark], rfl, by simp only [mark]; omega, by simp only [mark]; omega⟩
  rw [if_neg g0] at h ⊢
  by_cases g1 : s[a] = 60
  · rw [if_pos g1] at h ⊢
    by_cases g : (s.drop (a + 1)).head? = some s[a]
    · have := two g
      rw [if_pos g]; exact ⟨by simp [mark], rfl, by simp only [mark]; omega, by simp only [mark]; omega⟩
    · rw [if_neg g] at h ⊢
      unfold hex at h ⊢
      cases hh : hexF (-1) (s.drop (a + 1)) with
      | inr e =>
        rw [hh] at h
        exfalso
        have : ∀ (l : List UInt8) (x e : Int), hexF x l = .inr e → e ≠ 0 := by
          intro l
          induction l with
          | nil => intro x e he; rw [hexF] at he; cases he; decide
          | cons c t ih =>
            intro x e he
            rw [hexF] at he
            split at he
            · cases he
            · split at he
              · cases hq : hexF x t with
                | inl r => rw [hq] at he; cases he
                | inr e' => rw [hq] at he; cases he; exact ih _ _ hq
              · split at he
                · cases he; decide
                · split at he
                  · cases hq : hexF (digit c) t with
                    | inl r => rw [hq] at he; cases he
                    | inr e' => rw [hq] at he; cases he; exact ih _ _ hq
                  · cases hq : hexF (-1) t with
                    | inl r => rw [hq] at he; cases he
                    | inr e' => rw [hq] at he; cases he; exact ih _ _ hq
        exact this _ _ _ hh h
      | inl r =>
        rw [hh] at h
        simp only at h ⊢
        have := hexF_le _ _ _ hh
        rw [List.length_drop] at this
        rw [told_ok h]
        exact ⟨by simp, rfl, by simp only; omega, by simp only; omega⟩
  rw [if_neg g1] at h ⊢
  by_cases g2 : s[a] = 62
  · rw [if_pos g2] at h ⊢
    by_cases g : (s.drop (a + 1)).head? = some s[a]
    · have := two g
      rw [if_pos g]; exact ⟨by simp [mark], rfl, by simp only [mark]; omega, by simp only [mark]; omega⟩
    · rw [if_neg g] at h; cases h
  rw [if_neg g2] at h ⊢
  by_cases g3 : s[a] = 47
  · rw [if_pos g3] at h ⊢
    have hto := run_le s (show a + 1 ≤ s.length by omega)
    have hto2 : a + 1 ≤ run s (a + 1) := by unfold run; omega
    unfold name at h ⊢
    cases hh : nameF (cut s (a + 1) (run s (a + 1))) with
    | none => rw [hh] at h; cases h
    | some x =>
      rw [hh] at h
      simp only at h ⊢
      rw [told_ok h]
      exact ⟨by simp, rfl, by simp only; omega, by simp only; omega⟩
  rw [if_neg g3] at h ⊢
  by_cases g4 : s[a] = 40
  · rw [if_pos g4] at h ⊢
    unfold text at h ⊢
    cases hh : textG 0 1 (s.drop (a + 1)) with
    | none => rw [hh] at h; cases h
    | some r =>
      rw [hh] at h
      simp only at h ⊢
      have := textG_le _ _ _ _ hh
      rw [List.length_drop] at this
      rw [told_ok h]
      exact ⟨by simp, rfl, by simp only; omega, by simp only; omega⟩
  rw [if_neg g4] at h ⊢
  by_cases g5 : s[a] = 41
  · rw [if_pos g5] at h; cases h
  rw [if_neg g5] at h ⊢
  have hreg := regular_of s[a] hw g0 g1 g2 g3 g4 g5 h37
  have hto := run_le s (show a ≤ s.length by omega)
  have hto2 : a < run s a := by unfold run; rw [hd, runF, if_pos hreg]; omega
  obtain ⟨k1, k2, k3⟩ := wordT_ok h
  exact ⟨k1, k2, by rw [show (word s a).1.t = _ from k3]; omega, by rw [show (word s a).1.t = _ from k3]; omega⟩
theorem next_bd {s : List UInt8} {i : Int} (h : (next s i).2 = 0) (hk : (next s i).1.k ≠ 0) : 0 ≤ i ∧ i ≤ s.length ∧ (next s i).1.a = skip s i.toNat ∧ (next s i).1.a < (next s i).1.t ∧ (next s i).1.t ≤ s.length := by
  unfold next at h hk ⊢
  split
  · rename_i hh; rw [if_pos hh] at h; cases h
  · rename_i hh
    rw [if_neg hh] at h hk
    have hle := skip_le s (k := i.toNat) (by omega)
    rcases Nat.lt_or_ge (skip s i.toNat) s.length with h1 | h1
    · have := token_bd h1 (skip_stop s i.toNat) h
      exact ⟨by omega, by omega, this.2.1, by rw [this.2.1]; exact this.2.2.1, this.2.2.2⟩
    · exfalso
      rw [token, List.drop_eq_nil_of_le h1] at hk
      exact hk rfl
theorem skip_ge (s : List UInt8) (k : Nat) : k ≤ skip s k := by unfold skip; omega
/-- From a on the tokens l are read, up to b. -/
def Steps (s : List UInt8) (a : Int) (l : List Tok) (b : Int) : Prop := ∀ m, upto s (l.length + m) a = match upto s m b with | .inl r => .inl (l ++ r) | .inr f => .inr f
theorem Steps.nil (s : List UInt8) (a : Int) : Steps s a [] a := by
  intro m
  rw [List.length_nil, Nat.zero_add]
  cases upto s m a <;> rfl
theorem Steps.snoc {s : List UInt8} {a b : Int} {l : List Tok} (h : Steps s a l b) (h1 : (next s b).2 = 0) (h2 : (next s b).1.k ≠ 0) : Steps s a (l ++ [(next s b).1]) (next s b).1.t := by
  intro m
  have := h (m + 1)
  rw [List.length_append, List.length_singleton, Nat.add_assoc, Nat.add_comm 1 m, this]
  rw [upto, if_neg (by rw [h1]; simp), if_neg h2]
  cases upto s m (next s b).1.t <;> simp
theorem Steps.fin {s : List UInt8} {a b : Int} {l : List Tok} (h : Steps s a l b) (m : Nat) : upto s (l.length + m) a = match upto s m b with | .inl r => .inl (l ++ r) | .inr f => .inr f := h m
end Lx
end Go.Proofs.YtihjejmmldpelaaDoor
/- The engine's rules for ranges over functions. -/
namespace Go.Proofs.YtihjejmmldpelaaDoor
set_option linter.unusedVariables false
set_option linter.unusedSimpArgs false
set_option linter.defProp false
set_option linter.unusedSimpArgs false
set_option linter.unusedVariables false
namespace Eng
open Go.RowKit

section
variable {S : Nat → Prop} {P : Program} {w w0 : World} {L : List Ent} {PK : List PanicEntry → World → Prop} {K : Value → World → Prop}
theorem OwnS.join {w' : World} {L' : List Ent} (h : OwnS S w0 w L) (k : OwnS NoB w w' L') : OwnS S w0 w' (L' ++ L) := by
  have h' := h.grow k.below
  refine ⟨h'.grew, fun e he => ?_, List.pairwise_append.2 ⟨k.apart, h'.apart, fun e he f hf b hb hb' => ?_⟩⟩
  · rcases List.mem_append.1 he with he | he
    · obtain ⟨a, b⟩ := k.all e he
      refine ⟨a, fun j hj => .inr ?_⟩
      rcases b j hj with h1 | h1
      · exact h1.elim
      · exact Nat.le_trans h.size h1
    · exact h'.all e he
  · have h2 := f.lt (h.mem hf) b hb'
    rcases (k.all e he).2 b hb with h1 | h1
    · exact h1
    · omega
theorem o_beg {l : Nat} {L0 : Loop} {K : World → Prop} (i : Nat) (ho : OwnS S w0 w L) (hi : L[i]? = some (.obj l (lp L0 .ready none))) (k : ∀ w', OwnS S w0 w' (L.set i (.obj l (lp L0 .busy none))) → K w') : BegX P l w K :=
  ⟨_, run_beginRound (ho.at_ i hi), k _ (put_iter ho i hi)⟩
theorem o_end {l : Nat} {L0 : Loop} {j : Option Code} {R : Value → World → Prop} (i : Nat) (ho : OwnS S w0 w L) (hi : L[i]? = some (.obj l (lp L0 .busy none))) (k : ∀ w', OwnS S w0 w' (L.set i (.obj l (lp L0 (if j.isNone then .ready else .done) j))) → R (.bool j.isNone) w') : EndX P l j w R :=
  ⟨_, _, run_endRound (ho.at_ i hi), k _ (put_iter ho i hi)⟩
theorem c_yld {l : Nat} {args : List Value} {R : Value → World → Prop} (h : Yld P l args w R) (k : ∀ v w', R v w' → K v w') : DoX P (mCallV (.func (.yield l) #[] #[]) args.toArray) w PK K := by
  obtain ⟨fn, tmps, asn, bdy, h1, h2⟩ := h
  have hr : (mCallV (.func (.yield l) #[] #[]) args.toArray).run P w = .ok (.round l fn tmps asn bdy) w := by
    rw [← h1]
    simp [mCallV, invoke, Deferred.ofValue, resolve]
  refine ⟨?_⟩
  rw [hr]
  refine ⟨RoundIn.mono h2 ?_⟩
  rintro e w' ⟨v, rfl, hv⟩
  exact k v w' hv
theorem range {js : List (Option Code × (Nat → World → Prop))} {B : Nat → List Value → World → (Value → World → Prop) → Prop} {np f : Nat} {fa ca : Array Value} (ho : OwnS S w0 w L) (hp : plainB P f = true)
    (h : ∀ (L0 : Loop) (df lb : Nat) (w1 : World), OwnS S w0 w1 (.obj lb (lp L0 .ready none) :: .obj df (.deferred (some [])) :: L) →
      (∀ args W R, W.heap[lb]? = some (lp L0 .ready none) → args.length = np → B lb args W R → Yld P lb args W R) →
      Calls P f (fa ++ #[.func (.yield lb) #[] #[]] ++ ca) w1 fun e w3 => ∃ v st pd k, e = .returned v ∧ st ≠ .busy ∧ w3.heap[lb]? = some (lp L0 st pd) ∧ (pd, k) ∈ js ∧ k df (putO w3 lb (lp L0 .exhausted pd))) :
    RangeX P none np (.func (.func f) fa ca) w B js := by
  refine ⟨f, fa, ca, w.heap.size, w.alloc (.deferred (some [])), rfl, hp, ⟨rfl, rfl⟩, fun L0 _ hy => ?_⟩
  exact h L0 w.heap.size (w.alloc (.deferred (some []))).heap.size _ ((ho.allocObj _).allocObj _) (fun args W R h1 h2 h3 => hy _ args W R h1 h2 h3)
/-- The mark of a loop is taken; then the results are read. -/
theorem leave1 {rs : List RV} {K : Ending → World → Prop} {df : Nat} (i : Nat) (ho : OwnS S w0 w L) (hi : L[i]? = some (.obj df (.deferred (some [])))) (k : ∀ w', OwnS S w0 w' (L.set i (.obj df (.deferred none))) → RetD P rs w' K) : LeaveM P rs K [mkD df] .returning w := by
  refine ⟨(fun h => by cases h), df, _, rfl, ?_, k _ (put_iter ho i hi)⟩
  have h : w.heap[df]? = some (.deferred (some [])) := ho.at_ i hi
  simp [Instr.takeDeferred, getObj, setObj, Sem.run, h]
end
end Eng
end Go.Proofs.YtihjejmmldpelaaDoor
/- Contracts: lex.tokens, and the function that it hands back. -/
namespace Go.Proofs.YtihjejmmldpelaaDoor
set_option linter.unusedVariables false
set_option linter.unusedSimpArgs false
set_option linter.defProp false
open Eng Go.RowKit

def fltC (a e : Int) : List Value := [.int .i64 a, .int .i64 e]
def fltV (f : Int × Int) : Value := .agg (fltC f.1 f.2).toArray
def fltE (b : Nat) (f : Int × Int) : Ent := .cells b (fltC f.1 f.2) 39
theorem aggFlt : aggN Tryd.prog 39 = some 2 := by kernel_rfl
theorem szFlt : (Tryd.prog.info? 39).map (·.size) = some 2 := by kernel_rfl
theorem fltC_one (a e : Int) : ∀ v ∈ fltC a e, v.oneCell' = true := by
  intro v hv
  simp only [fltC, List.mem_cons, List.not_mem_nil, or_false] at hv
  rcases hv with rfl | rfl <;> rfl
section
variable {w : World} {PK : List PanicEntry → World → Prop} {K : Value → World → Prop} {S : Nat → Prop} {w0 : World} {L : List Ent}
theorem o_flt (ho : OwnS S w0 w L) (k : ∀ b w', OwnS S w0 w' (fltE b (0, 0) :: L) → K (.pointer (some ⟨b, 0, none⟩)) w') : DoX Tryd.prog (mAlloc 39) w PK K :=
  o_new (fun b => .pointer (some ⟨b, 0, none⟩)) (fltC 0 0) 39 (fun _ => by kernel_rfl) ho k
theorem flt_put (i : Nat) {b : Nat} {f g : Int × Int} (ho : OwnS S w0 w L) (hi : L[i]? = some (fltE b f)) (k : ∀ w', OwnS S w0 w' (L.set i (fltE b g)) → K undef w') : DoX Tryd.prog (mStore 39 (.pointer (some ⟨b, 0, none⟩)) (fltV g)) w PK K :=
  o_put i ho hi (new := fltC g.1 g.2) szFlt (fltC_one _ _) rfl k
theorem m_flt0 : DoX Tryd.prog (mBuild 39 #[]) w PK K = K (fltV (0, 0)) w := do_eq (by kernel_rfl)
theorem m_flt1 {e : Int} : DoX Tryd.prog (mBuild 39 #[(1, .int .i64 e)]) w PK K = K (fltV (0, e)) w := do_eq (by kernel_rfl)
theorem m_flt2 {a e : Int} : DoX Tryd.prog (mBuild 39 #[(0, .int .i64 a), (1, .int .i64 e)]) w PK K = K (fltV (a, e)) w := do_eq (by kernel_rfl)
theorem r_flt2 {a e : Int} : (mBuild 39 #[(0, .int .i64 a), (1, .int .i64 e)]).run Tryd.prog w = .ok (.value (fltV (a, e))) w := by kernel_rfl
theorem fa_f1 {b : Nat} : DoX Tryd.prog (mFA 39 (.pointer (some ⟨b, 0, none⟩)) 1) w PK K = K (.pointer (some ⟨b, 1, none⟩)) w := f_addr (show fOff Tryd.prog 39 1 = some 1 by kernel_rfl)
theorem fa_f0 {b : Nat} : DoX Tryd.prog (mFA 39 (.pointer (some ⟨b, 0, none⟩)) 0) w PK K = K (.pointer (some ⟨b, 0, none⟩)) w := f_addr (show fOff Tryd.prog 39 0 = some 0 by kernel_rfl)
theorem fa_t0 {b : Nat} : DoX Tryd.prog (mFA 33 (.pointer (some ⟨b, 0, none⟩)) 0) w PK K = K (.pointer (some ⟨b, 0, none⟩)) w := f_addr (show fOff Tryd.prog 33 0 = some 0 by kernel_rfl)
theorem fa_t1 {b : Nat} : DoX Tryd.prog (mFA 33 (.pointer (some ⟨b, 0, none⟩)) 1) w PK K = K (.pointer (some ⟨b, 1, none⟩)) w := f_addr (show fOff Tryd.prog 33 1 = some 1 by kernel_rfl)
theorem fa_t2 {b : Nat} : DoX Tryd.prog (mFA 33 (.pointer (some ⟨b, 0, none⟩)) 2) w PK K = K (.pointer (some ⟨b, 2, none⟩)) w := f_addr (show fOff Tryd.prog 33 2 = some 2 by kernel_rfl)
end
def ptrE (b : Nat) (f : Nat) : Ent := .cells b [.pointer (some ⟨f, 0, none⟩)] 74
def intE (b : Nat) (i : Int) : Ent := .cells b [.int .i64 i] 3
def strE (b : Nat) (s : List UInt8) : Ent := .cells b [.string ⟨s.toArray⟩] 9
theorem tokens_ret (s : List UInt8) (i : Int) (fb : Nat) (w : World) : Ret Tryd.prog 48 #[.string ⟨s.toArray⟩, .int .i64 i, .pointer (some ⟨fb, 0, none⟩)] w
    (fun v w' => ∃ b3 b4 b5, v = .func (.func 80) #[] #[.pointer (some ⟨b3, 0, none⟩), .pointer (some ⟨b4, 0, none⟩), .pointer (some ⟨b5, 0, none⟩)] ∧ Own w w' [ptrE b5 fb, intE b4 i, strE b3 s]) := by
  refine ret_of fun K hK => S_lex_tokens_ok ?_
  unfold S_lex_tokens
  refine o_new (fun b => .pointer (some ⟨b, 0, none⟩)) [.string ⟨s.toArray⟩] 9 (fun _ => by kernel_rfl) (Own.start w) fun b3 w1 ho => ?_
  refine o_new (fun b => .pointer (some ⟨b, 0, none⟩)) [.int .i64 i] 3 (fun _ => by kernel_rfl) ho fun b4 w2 ho => ?_
  refine o_new (fun b => .pointer (some ⟨b, 0, none⟩)) [.pointer (some ⟨fb, 0, none⟩)] 74 (fun _ => by kernel_rfl) ho fun b5 w3 ho => ?_
  simp only [rs]
  exact hK _ _ ⟨b3, b4, b5, rfl, ho⟩
/-- The pieces that the iteration holds: the loop, its mark, the captured variables, the fault. -/
def front (L0 : Loop) (lb df b3 b4 b5 fb : Nat) (s : List UInt8) (i : Int) (f : Int × Int) : List Ent :=
  [.obj lb (lp L0 .ready none), .obj df (.deferred (some [])), ptrE b5 fb, intE b4 i, strE b3 s, fltE fb f]
theorem tokens1_calls {s : List UInt8} {i0 : Int} {L0 : Loop} {lb df b3 b4 b5 fb : Nat} {w0 w1 : World} {M0 : List Ent} (R : List Lx.Tok → List Ent → Prop) {K : Ending → World → Prop} (hs : s.length ≤ 1099511627776)
    (ho : Own w0 w1 (front L0 lb df b3 b4 b5 fb s i0 (0, 0) ++ M0)) (hM : R [] M0)
    (hy : ∀ (l : List Lx.Tok) (i : Int) (M : List Ent) (W : World) (b : Nat), Lx.Steps s i0 l i → (Lx.next s i).2 = 0 → (Lx.next s i).1.k ≠ 0 → i0 + l.length ≤ i → R l M → Own w0 W (tokE b (Lx.next s i).1 :: (front L0 lb df b3 b4 b5 fb s i (0, 0) ++ M)) →
      Yld Tryd.prog lb [tokV (Lx.next s i).1] W (fun v W' => (v = .bool true ∧ ∃ M', R (l ++ [(Lx.next s i).1]) M' ∧ Own w0 W' (tokE b (Lx.next s i).1 :: (front L0 lb df b3 b4 b5 fb s i (0, 0) ++ M'))) ∨ (v = .bool false ∧ K (.returned (.tuple #[])) W')))
    (hend : ∀ (l : List Lx.Tok) (i : Int) (M : List Ent) (W : World), Lx.Steps s i0 l i → R l M → (Lx.next s i).2 = 0 → (Lx.next s i).1.k = 0 → Own w0 W (front L0 lb df b3 b4 b5 fb s i (0, 0) ++ M) → K (.returned (.tuple #[])) W)
    (herr : ∀ (l : List Lx.Tok) (i : Int) (M : List Ent) (W : World), Lx.Steps s i0 l i → R l M → (Lx.next s i).2 ≠ 0 → Own w0 W (front L0 lb df b3 b4 b5 fb s i (Lx.skipI s i, (Lx.next s i).2) ++ M) → K (.returned (.tuple #[])) W) :
    Calls Tryd.prog 80 #[.func (.yield lb) #[] #[], .pointer (some ⟨b3, 0, none⟩), .pointer (some ⟨b4, 0, none⟩), .pointer (some ⟨b5, 0, none⟩)] w1 K := by
  refine S_lex_tokens_1_ok ?_
  unfold S_lex_tokens_1
  refine loop (fun vs w' => ∃ (l : List Lx.Tok) (i : Int) (M : List Ent), vs = [] ∧ Lx.Steps s i0 l i ∧ i0 + l.length ≤ i ∧ R l M ∧ Own w0 w' (front L0 lb df b3 b4 b5 fb s i (0, 0) ++ M))
    (fun _ w' => match w'.heap[b4]? with | some (.cells cs _ _) => (match cs.toList with | [.int _ n] => (s.length - n).toNat | _ => 0) | _ => 0) ⟨[], i0, M0, rfl, Lx.Steps.nil s i0, by simp, hM, ho⟩ ?_
  rintro vs w2 ⟨l, i, M, rfl, hst, hil, hR, ho⟩ _
  unfold S_lex_tokens_1_0
  have h4 : w2.heap[b4]? = some (.cells #[.int .i64 i] 3 (0, 0)) := ho.at_ 3 rfl
  rw [l_cell nStr (ho.cell 4 rfl 0 rfl), l_cell nInt (ho.cell 3 rfl 0 rfl)]
  refine c_below ho (next_ret s i w2 hs) ?_
  rintro _ w3 rfl ho
  simp only [tokR, ex]
  refine o_tok ho fun b w4 ho => ?_
  refine o_put 0 ho rfl (new := tokC (Lx.next s i).1) szTok (tokC_one _) rfl fun w5 ho => ?_
  have ho : Own w0 w5 (tokE b (Lx.next s i).1 :: (front L0 lb df b3 b4 b5 fb s i (0, 0) ++ M)) := ho
  simp only [rs]
  by_cases he : (Lx.next s i).2 ≠ 0
  · simp only [decide_eq_true he, i_t]
    refine quiet (q_at _ (fun _ hb => run_load_cell (by kernel_rfl) ((ho.grow hb).cell 3 rfl 0 rfl)) ?_)
    refine q_at _ (fun _ hb => run_load_cell nStr ((ho.grow hb).cell 5 rfl 0 rfl)) ?_
    refine q_at _ (fun _ hb => run_load_cell nInt ((ho.grow hb).cell 4 rfl 0 rfl)) ?_
    refine q_call (.int .i64 (Lx.skipI s i)) (fun w hb => ret_same (skip_ret s i w (by omega)) hb) ?_
    refine q_do _ (fun _ => r_flt2) (q_do _ (fun _ => run_nil) ?_)
    intro w6 hb
    refine flt_put 6 (ho.grow hb) rfl fun w7 ho => ?_
    exact herr l i M w7 hst hR he ho.tail
  have he0 : (Lx.next s i).2 = 0 := by omega
  simp only [decide_eq_false he, i_f, fa_t0]
  rw [l_cell nInt (ho.cell 0 rfl 0 rfl)]
  simp only [rs]
  by_cases hk : (Lx.next s i).1.k = 0
  · simp only [hk, decide_true, rs, g_un]
    exact hend l i M w5 hst hR he0 hk ho.tail
  · simp only [hk, decide_false, rs, l_at (ho.agg 0 rfl aggTok)]
    refine c_yld (args := [tokV (Lx.next s i).1]) (hy l i M w5 b hst he0 hk hil hR ho) ?_
    have hbd := Lx.next_bd he0 hk
    rintro v w6 (⟨rfl, M', hR', ho⟩ | ⟨rfl, hK⟩)
    · simp only [rs, Bool.not_true, fa_t2]
      rw [l_cell nInt (ho.cell 0 rfl 2 rfl)]
      refine o_store 4 ho rfl (by kernel_rfl) rfl (by simp) fun w7 ho => ?_
      have ho : Own w0 w7 (front L0 lb df b3 b4 b5 fb s (Lx.next s i).1.t (0, 0) ++ M') := ho.tail
      have h4' : w7.heap[b4]? = some (.cells #[.int .i64 (Lx.next s i).1.t] 3 (0, 0)) := ho.at_ 3 rfl
      have hge := Lx.skip_ge s i.toNat
      refine nextX ⟨_, _, M', rfl, hst.snoc he0 hk, by rw [List.length_append, List.length_singleton]; omega, hR', ho⟩ ?_
      simp only [h4, h4']
      omega
    · simp only [rs, Bool.not_false]
      exact hK
end Go.Proofs.YtihjejmmldpelaaDoor
/- Contract: lex.Upto. -/
namespace Go.Proofs.YtihjejmmldpelaaDoor
set_option linter.unusedVariables false
set_option linter.unusedSimpArgs false
set_option linter.defProp false
open Eng Go.RowKit

def TRow (v : Value) (l : List Lx.Tok) : Ent := .row 33 5 v l.length (l.flatMap tokC)
def slcE (b : Nat) (v : Value) : Ent := .cells b [v] 37
theorem tokC_len (l : List Lx.Tok) : (l.flatMap tokC).length = l.length * 5 := by
  induction l with
  | nil => rfl
  | cons x l ih => rw [List.flatMap_cons, List.length_append, ih, List.length_cons]; show 5 + _ = _; omega
theorem nSl : notAgg Tryd.prog 37 = true := by kernel_rfl
section
variable {w : World} {PK : List PanicEntry → World → Prop} {K : Value → World → Prop} {S : Nat → Prop} {w0 : World} {L : List Ent}
theorem trow_one {v : Value} {l : List Lx.Tok} (i : Nat) (ho : OwnS S w0 w L) (hi : L[i]? = some (TRow v l)) : v.oneCell' = true := by
  obtain ⟨_, a, cap, rfl, _⟩ := ho.slRow i hi
  rfl
theorem trow_sl {v : Value} {l : List Lx.Tok} (i : Nat) (ho : OwnS S w0 w L) (hi : L[i]? = some (TRow v l)) : Sl w v 5 l.length (l.flatMap tokC) := ho.slRow i hi
/-- append(l, x): the row is the i-th piece. -/
theorem o_appT (i : Nat) {v : Value} {l : List Lx.Tok} {x : Lx.Tok} {cs : Array Bool} {PK2 : List PanicEntry → World → Prop} (ho : OwnS S w0 w L) (hi : L[i]? = some (TRow v l)) (hb : l.length ≤ 1099511627776)
    (k : ∀ v' w', OwnS S w0 w' (L.set i (TRow v' (l ++ [x]))) → K v' w') :
    DoX Tryd.prog (mBuildS 37 1 #[(0, tokV x)]) w PK fun t w => DoX Tryd.prog (mB .append #[37, 37] 37 cs #[v, t]) w PK2 K := by
  refine o_new (fun b => .slice (some ⟨b, 0, none⟩) 1 1) (tokC x) 33 (fun _ => by kernel_rfl) ho fun nb w4 h4 => ?_
  refine o_append (i + 1) Tryd.underlying37 (show elB Tryd.prog 33 5 48 = true by kernel_rfl) (by decide) h4 (by rw [List.getElem?_cons_succ]; exact hi) (h4.sl 0 rfl 5 1 1 rfl) (tokC_one x) (by omega) (by omega) fun v' w5 h5 => ?_
  refine k v' w5 ?_
  have e : TRow v' (l ++ [x]) = .row 33 5 v' (l.length + 1) (l.flatMap tokC ++ tokC x) := by
    rw [TRow, List.length_append, List.flatMap_append]; simp
  rw [e]
  exact h5.tail
end
def uptoP (s : List UInt8) (i n : Int) : List Lx.Tok × (Int × Int) :=
  if i < 0 ∨ (s.length : Int) < i then ([], (0, 1)) else match Lx.upto s n.toNat i with | .inl l => (l, (0, 0)) | .inr f => ([], f)
theorem upto_end {s : List UInt8} {i b : Int} {l : List Lx.Tok} {n : Nat} (h : Lx.Steps s i l b) (hn : l.length < n) (he : (Lx.next s b).2 = 0) (hk : (Lx.next s b).1.k = 0) : Lx.upto s n i = .inl l := by
  obtain ⟨m, rfl⟩ : ∃ m, n = l.length + (m + 1) := ⟨n - l.length - 1, by omega⟩
  rw [h (m + 1), Lx.upto, if_neg (by rw [he]; simp), if_pos hk]
  simp
theorem upto_err {s : List UInt8} {i b : Int} {l : List Lx.Tok} {n : Nat} (h : Lx.Steps s i l b) (hn : l.length < n) (he : (Lx.next s b).2 ≠ 0) : Lx.upto s n i = .inr (Lx.skipI s b, (Lx.next s b).2) := by
  obtain ⟨m, rfl⟩ : ∃ m, n = l.length + (m + 1) := ⟨n - l.length - 1, by omega⟩
  rw [h (m + 1), Lx.upto, if_pos he]
theorem upto_full {s : List UInt8} {i b : Int} {l : List Lx.Tok} (h : Lx.Steps s i l b) : Lx.upto s l.length i = .inl l := by
  have := h 0
  rw [Nat.add_zero, Lx.upto] at this
  simpa using this
theorem upto_ret (s : List UInt8) (i n : Int) (w : World) (hs : s.length ≤ 1099511627776) : Ret Tryd.prog 20 #[.string ⟨s.toArray⟩, .int .i64 i, .int .i64 n] w
    (fun r w' => ∃ v, r = .tuple #[v, fltV (uptoP s i n).2] ∧ Own w w' [TRow v (uptoP s i n).1]) := by
  refine ret_of fun K hK => S_lex_Upto_ok ?_
  unfold S_lex_Upto
  have ho := (Own.start w).nilRow 33 5
  refine o_new (fun b => .pointer (some ⟨b, 0, none⟩)) [.int .i64 n] 3 (fun _ => by kernel_rfl) ho fun bm w1 ho => ?_
  refine o_flt ho fun b7 w2 ho => ?_
  have early : ∀ f : Int × Int, uptoP s i n = ([], f) → DoX Tryd.prog (mStore 39 (.pointer (some ⟨b7, 0, none⟩)) (fltV f)) w2 (pk K) fun _ w =>
      RetX Tryd.prog [.val (.slice none 0 0), .cell (.pointer (some ⟨b7, 0, none⟩)) 39] w K := by
    intro f hf
    refine flt_put 0 ho rfl fun w3 ho => ?_
    have ho : Own w w3 [fltE b7 f, .cells bm [.int .i64 n] 3, TRow (.slice none 0 0) []] := ho
    refine ret_v2 rv_val (rv_cell (ho.agg 0 rfl aggFlt)) (hK _ _ ⟨.slice none 0 0, by rw [hf]; rfl, ?_⟩)
    rw [hf]
    exact ho.tail.tail
  by_cases h1 : i < 0
  · simp only [rs, h1, decide_true, g_un, m_flt1]
    exact early _ (by rw [uptoP, if_pos (.inl h1)])
  simp only [rs, h1, decide_false, s_len Tryd.underlying9]
  by_cases h2 : (s.length : Int) < i
  · simp only [rs, h2, decide_true, m_flt1]
    exact early _ (by rw [uptoP, if_pos (.inr h2)])
  simp only [rs, h2, decide_false]
  rw [l_cell nInt (ho.cell 1 rfl 0 rfl)]
  simp only [rs]
  by_cases h3 : n < 1
  · simp only [h3, decide_true, i_t, m_flt0]
    exact early _ (by rw [uptoP, if_neg (by omega), show n.toNat = 0 by omega]; rfl)
  simp only [h3, decide_false, i_f]
  have hP : uptoP s i n = match Lx.upto s n.toNat i with | .inl l => (l, (0, 0)) | .inr f => ([], f) := by rw [uptoP, if_neg (by omega)]
  refine o_new (fun b => .pointer (some ⟨b, 0, none⟩)) [.slice none 0 0] 37 (fun _ => by kernel_rfl) ho fun b8 w3 ho => ?_
  refine o_flt ho fun fb w4 ho => ?_
  refine joinD fun H hH => ?_
  refine c_ret (tokens_ret s i fb w4) ?_
  rintro _ w5 ⟨b3, b4, b5, rfl, hn5⟩
  have ho := ho.join hn5
  let M (v : Value) (l : List Lx.Tok) : List Ent := [slcE b8 v, fltE b7 (0, 0), .cells bm [.int .i64 n] 3, TRow v l]
  have done : ∀ (df : Nat) (f : Int × Int) (v : Value) (l : List Lx.Tok) (W : World), Own w W (.obj df (.deferred (some [])) :: fltE fb f :: M v l) → (uptoP s i n = if f.2 ≠ 0 then ([], f) else (l, (0, 0))) → H [mkD df] [] W := by
    intro df f v l W ho hf
    refine hH _ _ _ fun _ => ?_
    unfold S_lex_Upto_0
    rw [fa_f1, l_cell nErr (ho.cell 1 rfl 1 rfl)]
    simp only [rs]
    by_cases he : f.2 ≠ 0
    · rw [if_pos he] at hf
      simp only [decide_eq_true he, i_t]
      refine quiet (q_at _ (fun _ hb => run_load_at ((ho.grow hb).agg 1 rfl aggFlt)) ?_)
      intro W2 hb
      refine flt_put (g := f) 3 (ho.grow hb) rfl fun W3 ho => ?_
      refine leave1 0 ho rfl fun W4 ho => ?_
      refine ret_v2 rv_val (rv_cell (ho.agg 3 rfl aggFlt)) (hK _ _ ⟨.slice none 0 0, by rw [hf]; rfl, ?_⟩)
      rw [hf]
      exact (ho.sub (List.nil_sublist _)).nilRow _ 5
    · rw [if_neg he] at hf
      simp only [decide_eq_false he, i_f]
      rw [l_cell nSl (ho.cell 2 rfl 0 rfl), m_flt0]
      refine flt_put (g := (0, 0)) 3 ho rfl fun W3 ho => ?_
      refine leave1 0 ho rfl fun W4 ho => ?_
      refine ret_v2 rv_val (rv_cell (ho.agg 3 rfl aggFlt)) (hK _ _ ⟨v, by rw [hf]; rfl, ?_⟩)
      rw [hf]
      exact ho.tail.tail.tail.tail.tail
  refine range ho (by kernel_rfl) fun L0 df lb w6 ho hy => ?_
  refine tokens1_calls (s := s) (i0 := i) (L0 := L0) (lb := lb) (df := df) (b3 := b3) (b4 := b4) (b5 := b5) (fb := fb) (w0 := w) (M0 := M (.slice none 0 0) []) (fun l M' => ∃ v, M' = M v l ∧ (l.length : Int) < n) hs ho ⟨_, rfl, by simp; omega⟩ ?_ ?_ ?_
  · rintro l b M' W bt hst he hk hil ⟨v, rfl, hln⟩ ho
    refine hy _ W _ (ho.at_ 1 rfl) rfl ?_
    have hbd := Lx.next_bd he hk
    have hs2 := hst.snoc he hk
    generalize Lx.next s b = nx at *
    refine o_tok ho fun b10 W1 ho => ?_
    refine o_put 0 ho rfl (new := tokC nx.1) szTok (tokC_one _) rfl fun W2 ho => ?_
    refine o_beg 2 ho rfl fun W3 ho => ?_
    rw [l_cell nSl (ho.cell 8 rfl 0 rfl), l_at (ho.agg 0 rfl aggTok)]
    refine o_appT (x := nx.1) 11 ho rfl (by omega) fun v' W4 ho => ?_
    refine o_store 8 ho rfl (by kernel_rfl) (trow_one 11 ho rfl) (by simp) fun W5 ho => ?_
    rw [l_cell nSl (ho.cell 8 rfl 0 rfl), sl_len Tryd.underlying37 (trow_sl 11 ho rfl), l_cell nInt (ho.cell 10 rfl 0 rfl)]
    simp only [rs]
    by_cases hfull : (((l ++ [nx.1]).length : Nat) : Int) = n
    · simp only [hfull, decide_true, i_t]
      refine o_end 2 ho rfl fun W6 ho => .inr ⟨rfl, ?_⟩
      have ho : Own w W6 (tokE b10 nx.1 :: tokE bt nx.1 :: .obj lb (lp L0 .done (some (.exit 0))) :: .obj df (.deferred (some [])) :: ptrE b5 fb :: intE b4 b :: strE b3 s :: fltE fb (0, 0) :: M v' (l ++ [nx.1])) := ho
      refine ⟨_, .done, some (.exit 0), _, rfl, (by intro h; cases h), ho.at_ 2 rfl, List.mem_cons.2 (.inr (List.mem_cons.2 (.inl rfl))), ?_⟩
      have hp := put_iter (o' := lp L0 .exhausted (some (.exit 0))) ho 2 rfl
      have hp : Own w _ (tokE b10 nx.1 :: tokE bt nx.1 :: .obj lb (lp L0 .exhausted (some (.exit 0))) :: .obj df (.deferred (some [])) :: ptrE b5 fb :: intE b4 b :: strE b3 s :: fltE fb (0, 0) :: M v' (l ++ [nx.1])) := hp
      refine done df (0, 0) v' (l ++ [nx.1]) _ (hp.tail.tail.tail.sub (.cons_cons _ (.cons _ (.cons _ (.cons _ (List.Sublist.refl _)))))) ?_
      rw [hP, show n.toNat = (l ++ [nx.1]).length by omega, upto_full hs2]
      rfl
    · simp only [hfull, decide_false, i_f]
      refine o_end 2 ho rfl fun W6 ho => .inl ⟨rfl, M v' (l ++ [nx.1]), ⟨v', rfl, ?_⟩, ho.tail⟩
      rw [List.length_append, List.length_singleton] at hfull ⊢; omega
  · rintro l b M' W hst ⟨v, rfl, hln⟩ he hk ho
    refine ⟨_, .ready, none, _, rfl, (by intro h; cases h), ho.at_ 0 rfl, List.mem_cons.2 (.inl rfl), ?_⟩
    have hp : Own w _ (.obj lb (lp L0 .exhausted none) :: .obj df (.deferred (some [])) :: ptrE b5 fb :: intE b4 b :: strE b3 s :: fltE fb (0, 0) :: M v l) := put_iter (o' := lp L0 .exhausted none) ho 0 rfl
    refine done df (0, 0) v l _ (hp.tail.sub (.cons_cons _ (.cons _ (.cons _ (.cons _ (List.Sublist.refl _)))))) ?_
    rw [hP, upto_end hst (by omega) he hk]
    rfl
  · rintro l b M' W hst ⟨v, rfl, hln⟩ he ho
    refine ⟨_, .ready, none, _, rfl, (by intro h; cases h), ho.at_ 0 rfl, List.mem_cons.2 (.inl rfl), ?_⟩
    have hp : Own w _ (.obj lb (lp L0 .exhausted none) :: .obj df (.deferred (some [])) :: ptrE b5 fb :: intE b4 b :: strE b3 s :: fltE fb (Lx.skipI s b, (Lx.next s b).2) :: M v l) := put_iter (o' := lp L0 .exhausted none) ho 0 rfl
    refine done df (Lx.skipI s b, (Lx.next s b).2) v l _ (hp.tail.sub (.cons_cons _ (.cons _ (.cons _ (.cons _ (List.Sublist.refl _)))))) ?_
    rw [hP, upto_err hst (by omega) he, if_pos he]
end Go.Proofs.YtihjejmmldpelaaDoor
/- Contract: lex.All. -/
namespace Go.Proofs.YtihjejmmldpelaaDoor
set_option linter.unusedVariables false
set_option linter.unusedSimpArgs false
set_option linter.defProp false
open Eng Go.RowKit

def allP (s : List UInt8) : List Lx.Tok × (Int × Int) :=
  match Lx.upto s 1048577 0 with
  | .inl l => if 1048576 < l.length then ([], ((l.getD 1048576 Lx.none_).a, 6)) else (l, (0, 0))
  | .inr f => ([], f)
theorem draw {w : World} {F : World → Prop} (h : F w.drew) : DrawX w F := ⟨h⟩
theorem all_ret (s : List UInt8) (w : World) (hs : s.length ≤ 1099511627776) : Ret Tryd.prog 16 #[.string ⟨s.toArray⟩] w
    (fun r w' => ∃ v, r = .tuple #[v, fltV (allP s).2] ∧ Own w w' [TRow v (allP s).1]) := by
  refine ret_of fun K hK => S_lex_All_ok ?_
  unfold S_lex_All
  have ho := (Own.start w).nilRow 33 5
  refine o_new (fun b => .pointer (some ⟨b, 0, none⟩)) [.slice none 0 0] 37 (fun _ => by kernel_rfl) ho fun b2 w1 ho => ?_
  refine o_flt ho fun b3' w2 ho => ?_
  refine o_new (fun b => .pointer (some ⟨b, 0, none⟩)) [.slice none 0 0] 37 (fun _ => by kernel_rfl) ho fun b4' w3 ho => ?_
  refine o_flt ho fun fb w4 ho => ?_
  refine c_ret (tokens_ret s 0 fb w4) ?_
  rintro _ w5 ⟨b3, b4, b5, rfl, hn5⟩
  have ho := ho.join hn5
  let M (v : Value) (l : List Lx.Tok) (u : Value) (g : Int × Int) : List Ent := [slcE b4' v, fltE b3' g, slcE b2 u, TRow v l]
  -- the results are read
  have fin : ∀ (df : Nat) (f : Int × Int) (v u : Value) (l : List Lx.Tok) (g : Int × Int) (W : World), Own w W (.obj df (.deferred (some [])) :: fltE fb f :: M v l u g) → ((u = v ∧ (allP s) = (l, g)) ∨ (u = .slice none 0 0 ∧ allP s = ([], g))) →
      LeaveM Tryd.prog [.cell (.pointer (some ⟨b2, 0, none⟩)) 37, .cell (.pointer (some ⟨b3', 0, none⟩)) 39] K [(mkD df)] .returning W := by
    intro df f v u l g W ho hr
    refine leave1 0 ho rfl fun W2 ho => ?_
    refine ret_v2 (rv_cell (ho.fld 4 rfl 0 rfl nSl)) (rv_cell (ho.agg 3 rfl aggFlt)) (hK _ _ ⟨u, ?_⟩)
    rcases hr with ⟨rfl, hr⟩ | ⟨rfl, hr⟩
    · rw [hr]; exact ⟨rfl, ho.tail.tail.tail.tail.tail⟩
    · rw [hr]; exact ⟨rfl, (ho.sub (List.nil_sublist _)).nilRow _ 5⟩
  refine range ho (by kernel_rfl) fun L0 df lb w6 ho hy => ?_
  refine tokens1_calls (s := s) (i0 := 0) (L0 := L0) (lb := lb) (df := df) (b3 := b3) (b4 := b4) (b5 := b5) (fb := fb) (w0 := w) (M0 := M (.slice none 0 0) [] (.slice none 0 0) (0, 0)) (fun l M' => ∃ v, M' = M v l (.slice none 0 0) (0, 0) ∧ l.length ≤ 1048576) hs ho ⟨_, rfl, by simp⟩ ?_ ?_ ?_
  · rintro l b M' W bt hst he hk hil ⟨v, rfl, hln⟩ ho
    have hbd := Lx.next_bd he hk
    have hs2 := hst.snoc he hk
    generalize Lx.next s b = nx at *
    have key : ∀ R : Value → World → Prop, (∀ v' W6, l.length < 1048576 → Own w W6 (tokE bt nx.1 :: (front L0 lb df b3 b4 b5 fb s b (0, 0) ++ M v' (l ++ [nx.1]) (.slice none 0 0) (0, 0))) → R (.bool true) W6) →
        (∀ W6, l.length = 1048576 → Own w W6 (.obj lb (lp L0 .done (some .ret)) :: .obj df (.deferred (some [])) :: ptrE b5 fb :: intE b4 b :: strE b3 s :: fltE fb (0, 0) :: M v l (.slice none 0 0) (nx.1.a, 6)) → R (.bool false) W6) → Yld Tryd.prog lb [tokV nx.1] W R := by
     intro R hR1 hR2
     refine hy _ W _ (ho.at_ 1 rfl) rfl ?_
     refine o_tok ho fun b10 W1 ho => ?_
     refine o_put 0 ho rfl (new := tokC nx.1) szTok (tokC_one _) rfl fun W2 ho => ?_
     refine o_beg 2 ho rfl fun W3 ho => ?_
     rw [l_cell nSl (ho.cell 8 rfl 0 rfl), sl_len Tryd.underlying37 (trow_sl 11 ho rfl)]
     simp only [rs]
     by_cases hfull : (l.length : Int) = 1048576
     · simp only [hfull, decide_true, i_t]
       refine draw ?_
       have ho := ho.drew
       have hout : ∀ W5, Own w W5 (tokE b10 nx.1 :: tokE bt nx.1 :: .obj lb (lp L0 .busy none) :: .obj df (.deferred (some [])) :: ptrE b5 fb :: intE b4 b :: strE b3 s :: fltE fb (0, 0) :: M v l (.slice none 0 0) (nx.1.a, 6)) → S_lex_All_0 lb R W5 := by
         intro W5 ho
         unfold S_lex_All_0
         exact o_end 2 ho rfl fun W6 ho => hR2 W6 (by omega) ho.tail.tail
       have ho : Own w _ (tokE b10 nx.1 :: tokE bt nx.1 :: .obj lb (lp L0 .busy none) :: .obj df (.deferred (some [])) :: ptrE b5 fb :: intE b4 b :: strE b3 s :: fltE fb (0, 0) :: M v l (.slice none 0 0) (0, 0)) := ho
       refine ⟨?_, ?_⟩
       · rw [fa_t1]
         refine ⟨?_, ?_⟩
         · rw [l_cell nInt (ho.cell 0 rfl 1 rfl)]
           refine ⟨?_, ?_⟩
           · rw [m_flt2]
             refine o_store 10 ho rfl (by kernel_rfl) rfl (by simp) fun W3 ho => ?_
             exact flt_put (g := (nx.1.a, 6)) 9 ho rfl fun W4 ho => hout W4 ho
           · refine o_store 10 ho rfl (by kernel_rfl) rfl (by simp) fun W3 ho => ?_
             rw [m_flt2]
             exact flt_put (g := (nx.1.a, 6)) 9 ho rfl fun W4 ho => hout W4 ho
         · refine o_store 10 ho rfl (by kernel_rfl) rfl (by simp) fun W3 ho => ?_
           rw [l_cell nInt (ho.cell 0 rfl 1 rfl), m_flt2]
           exact flt_put (g := (nx.1.a, 6)) 9 ho rfl fun W4 ho => hout W4 ho
       · refine o_store 10 ho rfl (by kernel_rfl) rfl (by simp) fun W3 ho => ?_
         rw [fa_t1, l_cell nInt (ho.cell 0 rfl 1 rfl), m_flt2]
         exact flt_put (g := (nx.1.a, 6)) 9 ho rfl fun W4 ho => hout W4 ho
     · simp only [hfull, decide_false, i_f]
       rw [l_cell nSl (ho.cell 8 rfl 0 rfl), l_at (ho.agg 0 rfl aggTok)]
       refine o_appT (x := nx.1) 11 ho rfl (by omega) fun v' W4 ho => ?_
       refine o_store 8 ho rfl (by kernel_rfl) (trow_one 11 ho rfl) (by simp) fun W5 ho => ?_
       exact o_end 2 ho rfl fun W6 ho => hR1 v' W6 (by omega) ho.tail
    refine key _ (fun v' W6 hl ho => .inl ⟨rfl, M v' (l ++ [nx.1]) (.slice none 0 0) (0, 0), ⟨v', rfl, by rw [List.length_append, List.length_singleton]; omega⟩, ho⟩) fun W6 hl ho => .inr ⟨rfl, ?_⟩
    have hA : allP s = ([], (nx.1.a, 6)) := by
      have hu := upto_full hs2
      rw [show (l ++ [nx.1]).length = 1048577 by rw [List.length_append, List.length_singleton]; omega] at hu
      rw [allP, hu]
      simp only
      rw [if_pos (by rw [List.length_append, List.length_singleton]; omega)]
      have hg : (l ++ [nx.1]).getD 1048576 Lx.none_ = nx.1 := by
        rw [List.getD_eq_getElem?_getD, List.getElem?_append_right (by omega), show 1048576 - l.length = 0 by omega]; rfl
      rw [hg]
    refine ⟨_, .done, some .ret, _, rfl, (by intro h; cases h), ho.at_ 0 rfl, List.mem_cons.2 (.inr (List.mem_cons.2 (.inl rfl))), ?_⟩
    have hp : Own w _ (.obj lb (lp L0 .exhausted (some .ret)) :: .obj df (.deferred (some [])) :: ptrE b5 fb :: intE b4 b :: strE b3 s :: fltE fb (0, 0) :: M v l (.slice none 0 0) (nx.1.a, 6)) := put_iter (o' := lp L0 .exhausted (some .ret)) ho 0 rfl
    exact fin df (0, 0) v _ l _ _ (hp.tail.sub (.cons_cons _ (.cons _ (.cons _ (.cons _ (List.Sublist.refl _)))))) (.inr ⟨rfl, hA⟩)
  · rintro l b M' W hst ⟨v, rfl, hln⟩ he hk ho
    refine ⟨_, .ready, none, _, rfl, (by intro h; cases h), ho.at_ 0 rfl, List.mem_cons.2 (.inl rfl), ?_⟩
    have hp : Own w (putO W lb (lp L0 .exhausted none)) (.obj lb (lp L0 .exhausted none) :: .obj df (.deferred (some [])) :: ptrE b5 fb :: intE b4 b :: strE b3 s :: fltE fb (0, 0) :: M v l (.slice none 0 0) (0, 0)) := put_iter (o' := lp L0 .exhausted none) ho 0 rfl
    have hp : Own w (putO W lb (lp L0 .exhausted none)) (.obj df (.deferred (some [])) :: fltE fb (0, 0) :: M v l (.slice none 0 0) (0, 0)) := hp.tail.sub (.cons_cons _ (.cons _ (.cons _ (.cons _ (List.Sublist.refl _)))))
    have hA : allP s = (l, (0, 0)) := by
      rw [allP, upto_end hst (by omega) he hk]
      simp only
      rw [if_neg (by omega)]
    rw [fa_f1, l_cell nErr (hp.cell 1 rfl 1 rfl)]
    simp only [rs, ne_eq, not_true, decide_false]
    rw [l_cell nSl (hp.cell 2 rfl 0 rfl), m_flt0]
    refine o_store 4 hp rfl (by kernel_rfl) (trow_one 5 hp rfl) (by simp) fun W3 ho => ?_
    refine flt_put (g := (0, 0)) 3 ho rfl fun W4 ho => ?_
    exact fin df (0, 0) v v l (0, 0) W4 ho (.inl ⟨rfl, hA⟩)
  · rintro l b M' W hst ⟨v, rfl, hln⟩ he ho
    refine ⟨_, .ready, none, _, rfl, (by intro h; cases h), ho.at_ 0 rfl, List.mem_cons.2 (.inl rfl), ?_⟩
    have hp : Own w (putO W lb (lp L0 .exhausted none)) (.obj lb (lp L0 .exhausted none) :: .obj df (.deferred (some [])) :: ptrE b5 fb :: intE b4 b :: strE b3 s :: fltE fb (Lx.skipI s b, (Lx.next s b).2) :: M v l (.slice none 0 0) (0, 0)) := put_iter (o' := lp L0 .exhausted none) ho 0 rfl
    have hp : Own w (putO W lb (lp L0 .exhausted none)) (.obj df (.deferred (some [])) :: fltE fb (Lx.skipI s b, (Lx.next s b).2) :: M v l (.slice none 0 0) (0, 0)) := hp.tail.sub (.cons_cons _ (.cons _ (.cons _ (.cons _ (List.Sublist.refl _)))))
    have hA : allP s = ([], (Lx.skipI s b, (Lx.next s b).2)) := by
      rw [allP, upto_err hst (by omega) he]
    rw [fa_f1, l_cell nErr (hp.cell 1 rfl 1 rfl)]
    simp only [rs, decide_eq_true he]
    refine draw ?_
    have hp := hp.drew
    refine ⟨?_, ?_⟩
    · rw [l_at (hp.agg 1 rfl aggFlt)]
      refine o_store 4 hp rfl (by kernel_rfl) rfl (by simp) fun W3 ho => ?_
      refine flt_put (g := (Lx.skipI s b, (Lx.next s b).2)) 3 ho rfl fun W4 ho => ?_
      exact fin df _ v _ l _ W4 ho (.inr ⟨rfl, hA⟩)
    · refine o_store 4 hp rfl (by kernel_rfl) rfl (by simp) fun W3 ho => ?_
      rw [l_at (ho.agg 1 rfl aggFlt)]
      refine flt_put (g := (Lx.skipI s b, (Lx.next s b).2)) 3 ho rfl fun W4 ho => ?_
      exact fin df _ v _ l _ W4 ho (.inr ⟨rfl, hA⟩)
end Go.Proofs.YtihjejmmldpelaaDoor
/- The engine's rule for comparing structs of integers and strings. -/
namespace Go.Proofs.YtihjejmmldpelaaDoor
set_option linter.unusedVariables false
set_option linter.unusedSimpArgs false
set_option linter.defProp false
set_option linter.unusedSimpArgs false
set_option linter.unusedVariables false
namespace Eng
open Go.RowKit

/-- The fields' places, and whether they hold strings. -/
def eqSh (P : Program) : List Field → Option (List (Nat × Bool))
  | [] => some []
  | f :: fs =>
    if f.name == "_" then none
    else match P.underlying f.type with
      | some (.int _) => (eqSh P fs).map ((f.offset, false) :: ·)
      | some .string => (eqSh P fs).map ((f.offset, true) :: ·)
      | _ => none
def cellOk : Bool → Option Value → Option Value → Bool
  | false, some (.int k _), some (.int k' _) => decide (k = k')
  | true, some (.string _), some (.string _) => true
  | _, _, _ => false
def cellEq : Option Value → Option Value → Bool
  | some (.int _ a), some (.int _ b) => a == b
  | some (.string a), some (.string b) => a.toList == b.toList
  | _, _ => false
section
variable {P : Program} {w : World} {PK : List PanicEntry → World → Prop} {K : Value → World → Prop}
theorem run_eqSh (d : Nat) (xs ys : Array Value) : ∀ (fs : List Field) (sh : List (Nat × Bool)), eqSh P fs = some sh → (sh.all fun p => cellOk p.2 xs[p.1]? ys[p.1]?) = true →
    (Op.eqFields (d + 1) xs ys fs).run P w = .ok (sh.all fun p => cellEq xs[p.1]? ys[p.1]?) w
  | [], sh, h, _ => by
    cases h
    simp [Op.eqFields]
  | f :: fs, sh, h, hok => by
    rw [eqSh] at h
    split at h
    · cases h
    · rename_i hn
      have hn' : f.name ≠ "_" := by simpa using hn
      split at h
      · rename_i k hu
        obtain ⟨sh', h', rfl⟩ := Option.map_eq_some_iff.1 h
        simp only [List.all_cons, Bool.and_eq_true] at hok
        obtain ⟨h0, hok⟩ := hok
        have ih := run_eqSh d xs ys fs sh' h' hok
        cases hx : xs[f.offset]? with
        | none => rw [hx] at h0; cases h0
        | some a =>
          cases hy : ys[f.offset]? with
          | none => rw [hx, hy] at h0; cases a <;> cases h0
          | some b =>
            rw [hx, hy] at h0
            cases a <;> cases b <;> first | (cases h0; done) | skip
            rename_i k1 a k2 b
            simp only [cellOk, decide_eq_true_eq] at h0
            subst h0
            simp only [Op.eqFields, hn', ne_eq, not_false_eq_true, if_true, Sem.run_bind, part, isAgg, run_underlying hu, Result.andThen_ok, Sem.run_pure, Bool.false_eq_true, if_false, hx, hy, run_equalIn_int w d f.type k1 k a b hu, List.all_cons, cellEq]
            cases hab : (a == b)
            · simp
            · simp [ih]; rfl
      · rename_i hu
        obtain ⟨sh', h', rfl⟩ := Option.map_eq_some_iff.1 h
        simp only [List.all_cons, Bool.and_eq_true] at hok
        obtain ⟨h0, hok⟩ := hok
        have ih := run_eqSh d xs ys fs sh' h' hok
        cases hx : xs[f.offset]? with
        | none => rw [hx] at h0; cases h0
        | some a =>
          cases hy : ys[f.offset]? with
          | none => rw [hx, hy] at h0; cases a <;> cases h0
          | some b =>
            rw [hx, hy] at h0
            cases a <;> cases b <;> first | (cases h0; done) | skip
            rename_i a b
            simp only [Op.eqFields, hn', ne_eq, not_false_eq_true, if_true, Sem.run_bind, part, isAgg, run_underlying hu, Result.andThen_ok, Sem.run_pure, Bool.false_eq_true, if_false, hx, hy, run_equalIn_string w d f.type a b hu, List.all_cons, cellEq]
            cases hab : (a.toList == b.toList)
            · simp
            · simp [ih]; rfl
      · cases h
/-- What makes a struct type comparable by its cells. -/
def eqT (P : Program) (T : TypeId) (sh : List (Nat × Bool)) : Prop :=
  P.underlying T = some (.struct (P.fieldsOf T)) ∧ P.stoodInHeld T = false ∧ P.eqGuardType P.depth T = false ∧ eqSh P (P.fieldsOf T).toList = some sh
theorem run_eql_agg {T : TypeId} {sh : List (Nat × Bool)} (h : eqT P T sh) {xo yo : Operand} {xs ys : Array Value} (hok : (sh.all fun p => cellOk p.2 xs[p.1]? ys[p.1]?) = true) :
    (mEq .eql T xo yo (.agg xs) (.agg ys)).run P w = .ok (.value (.bool (sh.all fun p => cellEq xs[p.1]? ys[p.1]?))) w := by
  obtain ⟨h1, h2, h3, h4⟩ := h
  refine mv_run ?_
  rw [Sem.run_bind, run_eqGuard_agg w .eql T xo yo xs ys h3]
  simp only [Result.andThen_ok]
  rw [run_eql_struct, run_equalIn_struct w 9999 T xs ys h1 h2, run_eqSh 9998 xs ys _ sh h4 hok]
  rfl
theorem run_neq_agg {T : TypeId} {sh : List (Nat × Bool)} (h : eqT P T sh) {xo yo : Operand} {xs ys : Array Value} (hok : (sh.all fun p => cellOk p.2 xs[p.1]? ys[p.1]?) = true) :
    (mEq .neq T xo yo (.agg xs) (.agg ys)).run P w = .ok (.value (.bool (!(sh.all fun p => cellEq xs[p.1]? ys[p.1]?)))) w := by
  obtain ⟨h1, h2, h3, h4⟩ := h
  refine mv_run ?_
  rw [Sem.run_bind, run_eqGuard_agg w .neq T xo yo xs ys h3]
  simp only [Result.andThen_ok]
  rw [run_neq_struct, run_equalIn_struct w 9999 T xs ys h1 h2, run_eqSh 9998 xs ys _ sh h4 hok]
  rfl
end
end Eng
end Go.Proofs.YtihjejmmldpelaaDoor
/- Tokens and faults are compared. -/
namespace Go.Proofs.YtihjejmmldpelaaDoor
set_option linter.unusedVariables false
set_option linter.unusedSimpArgs false
set_option linter.defProp false
open Eng Go.RowKit

theorem eqTok : eqT Tryd.prog 33 [(0, false), (1, false), (2, false), (3, false), (4, true)] := ⟨by kernel_rfl, by kernel_rfl, by kernel_rfl, by kernel_rfl⟩
theorem eqFlt : eqT Tryd.prog 39 [(0, false), (1, false)] := ⟨by kernel_rfl, by kernel_rfl, by kernel_rfl, by kernel_rfl⟩
theorem str_beq (a b : List UInt8) : ((⟨a.toArray⟩ : ByteArray).toList == (⟨b.toArray⟩ : ByteArray).toList) = decide (a = b) := by
  rw [str_toList, str_toList]
  by_cases h : a = b <;> simp [h]
theorem tok_beq (x y : Lx.Tok) : ([(0, false), (1, false), (2, false), (3, false), (4, true)] : List (Nat × Bool)).all (fun p => cellEq (tokC x).toArray[p.1]? (tokC y).toArray[p.1]?) = decide (x = y) := by
  have e : ([(0, false), (1, false), (2, false), (3, false), (4, true)] : List (Nat × Bool)).all (fun p => cellEq (tokC x).toArray[p.1]? (tokC y).toArray[p.1]?) = ((x.k == y.k) && ((x.a == y.a) && ((x.t == y.t) && ((x.n == y.n) && (((⟨x.s.toArray⟩ : ByteArray).toList == (⟨y.s.toArray⟩ : ByteArray).toList) && true))))) := rfl
  rw [e, str_beq, Bool.eq_iff_iff]
  obtain ⟨a, b, c, d, f⟩ := x
  obtain ⟨a', b', c', d', f'⟩ := y
  simp
theorem flt_beq (x y : Int × Int) : ([(0, false), (1, false)] : List (Nat × Bool)).all (fun p => cellEq (fltC x.1 x.2).toArray[p.1]? (fltC y.1 y.2).toArray[p.1]?) = decide (x = y) := by
  have e : ([(0, false), (1, false)] : List (Nat × Bool)).all (fun p => cellEq (fltC x.1 x.2).toArray[p.1]? (fltC y.1 y.2).toArray[p.1]?) = ((x.1 == y.1) && ((x.2 == y.2) && true)) := rfl
  rw [e, Bool.eq_iff_iff]
  obtain ⟨a, b⟩ := x
  obtain ⟨a', b'⟩ := y
  simp
section
variable {w : World} {PK : List PanicEntry → World → Prop} {K : Value → World → Prop}
theorem r_tokne {xo yo : Operand} {x y : Lx.Tok} : (mEq .neq 33 xo yo (tokV x) (tokV y)).run Tryd.prog w = .ok (.value (.bool (!decide (x = y)))) w := by
  rw [← tok_beq]; exact run_neq_agg eqTok rfl
theorem e_tok {xo yo : Operand} {x y : Lx.Tok} : DoX Tryd.prog (mEq .eql 33 xo yo (tokV x) (tokV y)) w PK K = K (.bool (decide (x = y))) w := by
  refine do_eq ?_
  rw [← tok_beq]; exact run_eql_agg eqTok rfl
theorem n_tok {xo yo : Operand} {x y : Lx.Tok} : DoX Tryd.prog (mEq .neq 33 xo yo (tokV x) (tokV y)) w PK K = K (.bool (!decide (x = y))) w := do_eq r_tokne
theorem e_flt {xo yo : Operand} {x y : Int × Int} : DoX Tryd.prog (mEq .eql 39 xo yo (fltV x) (fltV y)) w PK K = K (.bool (decide (x = y))) w := by
  refine do_eq ?_
  rw [← flt_beq]; exact run_eql_agg eqFlt rfl
end
end Go.Proofs.YtihjejmmldpelaaDoor
/- Contracts of foliantref03: Upto, All, Same. -/
namespace Go.Proofs.YtihjejmmldpelaaDoor
set_option linter.unusedVariables false
set_option linter.unusedSimpArgs false
set_option linter.defProp false
open Eng Go.RowKit

theorem rupto_ret (s : List UInt8) (i n : Int) (w : World) (hs : s.length ≤ 1099511627776) : Ret Tryd.prog 21 #[.string ⟨s.toArray⟩, .int .i64 i, .int .i64 n] w
    (fun r w' => ∃ v, r = .tuple #[v, fltV (uptoP s i n).2] ∧ Own w w' [TRow v (uptoP s i n).1]) := by
  refine ret_of fun K hK => S_foliantref03_Upto_ok ?_
  unfold S_foliantref03_Upto
  have ho := (Own.start w).nilRow 33 5
  refine o_flt ho fun b7 w2 ho => ?_
  have ho : Own w w2 [fltE b7 (0, 0), TRow (.slice none 0 0) []] := ho
  have early : ∀ (f : Int × Int) (W : World) (v : Value) (l : List Lx.Tok), Own w W [fltE b7 (0, 0), TRow v l] → uptoP s i n = ([], f) → DoX Tryd.prog (mStore 39 (.pointer (some ⟨b7, 0, none⟩)) (fltV f)) W (pk K) fun _ w =>
      RetX Tryd.prog [.val (.slice none 0 0), .cell (.pointer (some ⟨b7, 0, none⟩)) 39] w K := by
    intro f W v l ho hf
    refine flt_put (g := f) 0 ho rfl fun w3 ho => ?_
    refine ret_v2 rv_val (rv_cell (ho.agg 0 rfl aggFlt)) (hK _ _ ⟨.slice none 0 0, by rw [hf]; rfl, ?_⟩)
    rw [hf]
    exact (ho.sub (List.nil_sublist _)).nilRow _ 5
  by_cases h1 : i < 0
  · simp only [rs, h1, decide_true, g_un, m_flt1]
    exact early _ _ _ _ ho (by rw [uptoP, if_pos (.inl h1)])
  simp only [rs, h1, decide_false, s_len Tryd.underlying9]
  by_cases h2 : (s.length : Int) < i
  · simp only [rs, h2, decide_true, m_flt1]
    exact early _ _ _ _ ho (by rw [uptoP, if_pos (.inr h2)])
  simp only [rs, h2, decide_false]
  have hP : uptoP s i n = match Lx.upto s n.toNat i with | .inl l => (l, (0, 0)) | .inr f => ([], f) := by rw [uptoP, if_neg (by omega)]; try rfl
  refine join fun J hJ => ?_
  have done : ∀ (d v : Value) (l : List Lx.Tok) (W : World), Own w W [fltE b7 (0, 0), TRow v l] → uptoP s i n = (l, (0, 0)) → J [d, v] W := by
    intro d v l W ho hf
    refine hJ _ _ fun _ => ?_
    simp only [S_foliantref03_Upto_1, gd, m_flt0]
    refine flt_put (g := (0, 0)) 0 ho rfl fun w3 ho => ?_
    refine ret_v2 rv_val (rv_cell (ho.agg 0 rfl aggFlt)) (hK _ _ ⟨v, by rw [hf]; rfl, ?_⟩)
    rw [hf]
    exact ho.tail
  refine loop (fun vs w' => ∃ (l : List Lx.Tok) (b : Int) (v d : Value), vs = [.int .i64 b, d, v] ∧ Lx.Steps s i l b ∧ i + l.length ≤ b ∧ (l.length : Int) ≤ max n 0 ∧ Own w w' [fltE b7 (0, 0), TRow v l])
    (fun vs _ => (s.length - intOf (vs.getD 0 undef)).toNat) ⟨[], i, _, _, rfl, Lx.Steps.nil s i, by simp, by simp; omega, ho⟩ ?_
  rintro vs W ⟨l, b, v, d, rfl, hst, hil, hln, ho⟩ _
  simp only [S_foliantref03_Upto_0, gd, sl_len Tryd.underlying37 (trow_sl 1 ho rfl), rs]
  by_cases hlt : (l.length : Int) < n
  · simp only [hlt, decide_true, i_t]
    refine c_below ho (rnext_ret s b W hs) ?_
    rintro _ W2 rfl ho
    simp only [tokR, ex]
    refine o_tok ho fun b9 W3 ho => ?_
    refine o_put 0 ho rfl (new := tokC (Lx.next s b).1) szTok (tokC_one _) rfl fun W4 ho => ?_
    have ho : Own w W4 [tokE b9 (Lx.next s b).1, fltE b7 (0, 0), TRow v l] := ho
    simp only [rs]
    by_cases he : (Lx.next s b).2 ≠ 0
    · simp only [decide_eq_true he, i_t]
      refine c_eq (rskip_ret s b W4 hs) ?_
      rw [m_flt2]
      exact early _ _ _ _ ho.tail (by rw [hP, upto_err hst (by omega) he])
    have he0 : (Lx.next s b).2 = 0 := by omega
    simp only [decide_eq_false he, i_f, fa_t0]
    rw [l_cell nInt (ho.cell 0 rfl 0 rfl)]
    simp only [rs]
    by_cases hk : (Lx.next s b).1.k = 0
    · simp only [hk, decide_true, i_t]
      exact done _ _ _ _ ho.tail (by rw [hP, upto_end hst (by omega) he0 hk])
    simp only [hk, decide_false, i_f]
    have hbd := Lx.next_bd he0 hk
    rw [l_at (ho.agg 0 rfl aggTok)]
    refine o_appT (x := (Lx.next s b).1) 2 ho rfl (by omega) fun v' W5 ho => ?_
    rw [fa_t2, l_cell nInt (ho.cell 0 rfl 2 rfl)]
    have hge := Lx.skip_ge s b.toNat
    exact nextX ⟨_, _, v', _, rfl, hst.snoc he0 hk, by rw [List.length_append, List.length_singleton]; omega, by rw [List.length_append, List.length_singleton]; omega, ho.tail⟩ (by simp only [gd, intOf]; omega)
  · simp only [hlt, decide_false, i_f]
    refine done _ _ _ _ ho ?_
    rw [hP, show n.toNat = l.length by omega, upto_full hst]
end Go.Proofs.YtihjejmmldpelaaDoor
/- Contracts of foliantref03: All, Same. -/
namespace Go.Proofs.YtihjejmmldpelaaDoor
set_option linter.unusedVariables false
set_option linter.unusedSimpArgs false
set_option linter.defProp false
open Eng Go.RowKit

theorem flat_get : ∀ (l : List Lx.Tok) (k j : Nat) (hk : k < l.length), j < 5 → (l.flatMap tokC)[k * 5 + j]? = (tokC l[k])[j]?
  | x :: l, 0, j, _, hj => by
    rw [List.flatMap_cons, List.getElem?_append_left (by simpa [tokC] using hj)]; simp
  | x :: l, k + 1, j, hk, hj => by
    have h5 : (tokC x).length = 5 := rfl
    rw [List.flatMap_cons, List.getElem?_append_right (by rw [h5]; omega), h5, show (k + 1) * 5 + j - 5 = k * 5 + j by omega]
    rw [flat_get l k j (by simpa using hk) hj]; simp
/-- The k-th token of a slice. -/
theorem tok_at {w : World} {b off : Nat} {l : List Lx.Tok} (hc : ∀ j u, (l.flatMap tokC)[j]? = some u → w.cell? ⟨b, off + j, none⟩ = some u) {k : Nat} (hk : k < l.length) : AtV Tryd.prog w 33 ⟨b, off + k * 5, none⟩ (tokV l[k]) :=
  AtV.agg aggTok (cs := tokC l[k]) rfl fun j v hj => by
    have h5 : j < 5 := (List.getElem?_eq_some_iff.1 hj).1
    have := hc (k * 5 + j) v (by rw [flat_get l k j hk h5]; exact hj)
    rwa [Nat.add_assoc]
theorem rsame_ret (va vb : Value) (la lb : List Lx.Tok) (w : World) (ha : Sl w va 5 la.length (la.flatMap tokC)) (hb : Sl w vb 5 lb.length (lb.flatMap tokC)) (hl : la.length ≤ 1099511627776) :
    Ret Tryd.prog 22 #[va, vb] w (fun r w' => r = .bool (decide (la = lb)) ∧ Below w.heap.size w w') := by
  refine ret_of fun K hK => S_foliantref03_Same_ok ?_
  unfold S_foliantref03_Same
  rw [sl_len Tryd.underlying37 ha, sl_len Tryd.underlying37 hb]
  simp only [rs]
  by_cases hlen : (la.length : Int) ≠ (lb.length : Int)
  · simp only [decide_eq_true hlen, i_t]
    have hne : la ≠ lb := fun e => hlen (by rw [e])
    exact hK _ _ ⟨by rw [decide_eq_false hne], (Own.start w).done⟩
  have hle : la.length = lb.length := by omega
  simp only [decide_eq_false hlen, i_f]
  refine loop (fun vs w' => ∃ (i : Nat), vs = [.int .i64 i] ∧ i ≤ la.length ∧ la.take i = lb.take i ∧ Own w w' []) (fun vs _ => la.length - n0 vs) ⟨0, rfl, by omega, by simp, Own.start w⟩ ?_
  rintro vs w2 ⟨i, rfl, hi, he, ho⟩ _
  simp only [S_foliantref03_Same_0, gd, sl_len Tryd.underlying37 (ho.oldSl ha), rs]
  by_cases hlt : (i : Int) < (la.length : Int)
  · have h1 : i < la.length := by omega
    have h2 : i < lb.length := by omega
    have hlt2 : (i : Int) < (lb.length : Int) := by omega
    simp only [hlt, decide_true, rs, sl_len Tryd.underlying37 (ho.oldSl hb), hlt2]
    obtain ⟨ba, oa, ca, rfl, hca⟩ := sl_open ha (by omega)
    obtain ⟨bb, ob, cb, rfl, hcb⟩ := sl_open hb (by omega)
    refine quiet (q_do _ (fun _ => run_ia Tryd.underlying37 (show _ = some 5 by kernel_rfl) (by omega) (by omega)) ?_)
    refine q_at (tokV la[i]) (fun wc hw => run_load_at ?_) ?_
    · have := tok_at (w := wc) (l := la) (fun j u hj => (ho.grow hw).old (hca j u hj)) h1
      rw [Int.toNat_natCast]; exact this
    refine q_do _ (fun _ => run_ia Tryd.underlying37 (show _ = some 5 by kernel_rfl) (by omega) (by omega)) ?_
    refine q_at (tokV lb[i]) (fun wc hw => run_load_at ?_) ?_
    · have := tok_at (w := wc) (l := lb) (fun j u hj => (ho.grow hw).old (hcb j u hj)) h2
      rw [Int.toNat_natCast]; exact this
    refine q_do _ (fun _ => r_tokne) ?_
    intro w3 hw
    have ho := ho.grow hw
    by_cases hq : la[i] = lb[i]
    · simp only [hq, decide_true, Bool.not_true, i_f, rs]
      rw [wrap64_id (by omega) (by omega)]
      refine nextX ⟨i + 1, rfl, by omega, ?_, ho⟩ (by simp [n0, intOf]; omega)
      rw [List.take_succ_eq_append_getElem h1, List.take_succ_eq_append_getElem h2, he, hq]
    · simp only [hq, decide_false, Bool.not_false, i_t]
      have hne : la ≠ lb := fun e => hq (by subst e; rfl)
      exact hK _ _ ⟨by rw [decide_eq_false hne], ho.done⟩
  · simp only [hlt, decide_false, rs, g_un]
    have hab : la = lb := by
      rw [List.take_of_length_le (by omega), List.take_of_length_le (by omega)] at he; exact he
    exact hK _ _ ⟨by rw [decide_eq_true hab], ho.done⟩
theorem upto_pos (s : List UInt8) : ∀ (m : Nat) (a : Int) (f : Int × Int), Lx.upto s m a = .inr f → f.2 ≠ 0
  | 0, a, f, h => by rw [Lx.upto] at h; cases h
  | m + 1, a, f, h => by
    rw [Lx.upto] at h
    split at h
    · rename_i he; cases h; exact he
    · split at h
      · cases h
      · cases hu : Lx.upto s m (Lx.next s a).1.t with
        | inl l => rw [hu] at h; cases h
        | inr g => rw [hu] at h; cases h; exact upto_pos s m _ f hu
theorem rall_ret (s : List UInt8) (w : World) (hs : s.length ≤ 1099511627776) : Ret Tryd.prog 19 #[.string ⟨s.toArray⟩] w
    (fun r w' => ∃ v, r = .tuple #[v, fltV (allP s).2] ∧ Own w w' [TRow v (allP s).1]) := by
  refine ret_of fun K hK => S_foliantref03_All_ok ?_
  unfold S_foliantref03_All
  refine o_flt (Own.start w) fun b3 w1 ho => ?_
  refine c_ret (rupto_ret s 0 1048577 w1 hs) ?_
  rintro _ w2 ⟨v, rfl, hn⟩
  have ho := ho.join hn
  simp only [ex]
  refine o_flt ho fun b5 w3 ho => ?_
  refine flt_put (g := (uptoP s 0 1048577).2) 0 ho rfl fun w4 ho => ?_
  have ho : Own w w4 [fltE b5 (uptoP s 0 1048577).2, TRow v (uptoP s 0 1048577).1, fltE b3 (0, 0)] := ho
  have hU : uptoP s 0 1048577 = match Lx.upto s 1048577 0 with | .inl l => (l, (0, 0)) | .inr f => ([], f) := by
    rw [uptoP, if_neg (by omega)]; try rfl
  have hA : allP s = if (uptoP s 0 1048577).2.2 = 0 ∧ 1048576 < (uptoP s 0 1048577).1.length then ([], (((uptoP s 0 1048577).1.getD 1048576 Lx.none_).a, 6)) else uptoP s 0 1048577 := by
    rw [hU, allP]
    cases hh : Lx.upto s 1048577 0 with
    | inl l =>
      simp only
      by_cases h : 1048576 < l.length
      · rw [if_pos h, if_pos ⟨trivial, h⟩]
      · rw [if_neg h, if_neg (fun x => h x.2)]
    | inr f =>
      simp only
      rw [if_neg (fun x => upto_pos s _ _ f hh x.1)]
  generalize uptoP s 0 1048577 = u at *
  rw [fa_f1, l_cell nErr (ho.cell 0 rfl 1 rfl)]
  have other : ¬ (u.2.2 = 0 ∧ 1048576 < u.1.length) → QuietX w4 (fun C2 =>
      QDo Tryd.prog C2 (mLoad 39 (.pointer (some ⟨b5, 0, none⟩))) fun t25 =>
      ∀ w, C2 w →
      DoX Tryd.prog (mStore 39 (.pointer (some ⟨b3, 0, none⟩)) t25) w (pk K) fun _ w =>
      RetX Tryd.prog [.val v, .cell (.pointer (some ⟨b3, 0, none⟩)) 39] w K) := by
    intro hn
    rw [if_neg hn] at hA
    refine quiet (q_at _ (fun _ hb => run_load_at ((ho.grow hb).agg 0 rfl aggFlt)) ?_)
    intro w5 hb
    refine flt_put (g := u.2) 2 (ho.grow hb) rfl fun w6 ho => ?_
    refine ret_v2 rv_val (rv_cell (ho.agg 2 rfl aggFlt)) (hK _ _ ⟨v, by rw [hA]; rfl, ?_⟩)
    rw [hA]
    exact ho.tail.sub (.cons_cons _ (.cons _ (List.Sublist.refl _)))
  by_cases h0 : u.2.2 = 0
  · simp only [rs, h0, decide_true, sl_len Tryd.underlying37 (trow_sl 1 ho rfl)]
    by_cases hbig : (1048576 : Int) < (u.1.length : Int)
    · simp only [hbig, decide_true, rs]
      rw [if_pos ⟨h0, by omega⟩] at hA
      have hk : 1048576 < u.1.length := by omega
      obtain ⟨ba, oa, ca, rfl, hca⟩ := sl_open (trow_sl 1 ho rfl) (by omega)
      refine quiet (q_do _ (fun _ => run_ia Tryd.underlying37 (show _ = some 5 by kernel_rfl) (by omega) (by omega)) ?_)
      refine q_do _ (fun _ => run_fa (show fOff Tryd.prog 33 1 = some 1 by kernel_rfl)) ?_
      refine q_at (.int .i64 (u.1[1048576]).a) (fun wc hw => run_load_cell nInt ?_) ?_
      · obtain ⟨b', o', c', he, hc'⟩ := sl_open (trow_sl 1 (ho.grow hw) rfl) (by omega)
        injection he with he _ _
        injection he with he
        injection he with e1 e2 _
        subst e1; subst e2
        have := hc' (1048576 * 5 + 1) (.int .i64 (u.1[1048576]).a) (by rw [flat_get u.1 1048576 1 hk (by omega)]; rfl)
        rw [← this]; rfl
      refine q_do _ (fun _ => r_flt2) ?_
      intro w5 hb
      refine flt_put (g := ((u.1[1048576]).a, 6)) 2 (ho.grow hb) rfl fun w6 ho => ?_
      have hg : u.1.getD 1048576 Lx.none_ = u.1[1048576] := by rw [List.getD_eq_getElem?_getD, List.getElem?_eq_getElem hk]; rfl
      rw [hg] at hA
      refine ret_v2 rv_val (rv_cell (ho.agg 2 rfl aggFlt)) (hK _ _ ⟨.slice none 0 0, by rw [hA]; rfl, ?_⟩)
      rw [hA]
      exact (ho.sub (List.nil_sublist _)).nilRow _ 5
    · simp only [hbig, decide_false, rs]
      exact other fun x => hbig (by omega)
  · simp only [rs, h0, decide_false, g_un]
    exact other fun x => h0 x.1
end Go.Proofs.YtihjejmmldpelaaDoor
/- The samples of layer 3's laws. -/
namespace Go.Proofs.YtihjejmmldpelaaDoor
set_option linter.unusedVariables false
set_option linter.unusedSimpArgs false
set_option linter.defProp false
open Eng Go.RowKit

theorem smp_all1 : allP [47, 65, 35, 50, 48, 98, 40, 120, 92, 48, 53, 49, 41, 60, 52, 62] = ([⟨4, 0, 6, 0, [65, 32, 98]⟩, ⟨3, 6, 13, 0, [120, 41]⟩, ⟨3, 13, 16, 0, [64]⟩], (0, 0)) := by
  have h : Lx.upto [47, 65, 35, 50, 48, 98, 40, 120, 92, 48, 53, 49, 41, 60, 52, 62] (3 + 1048574) 0 = .inl [⟨4, 0, 6, 0, [65, 32, 98]⟩, ⟨3, 6, 13, 0, [120, 41]⟩, ⟨3, 13, 16, 0, [64]⟩] := by
    have n1 : Lx.next [47, 65, 35, 50, 48, 98, 40, 120, 92, 48, 53, 49, 41, 60, 52, 62] 0 = (⟨4, 0, 6, 0, [65, 32, 98]⟩, 0) := by decide +kernel
    have n2 : Lx.next [47, 65, 35, 50, 48, 98, 40, 120, 92, 48, 53, 49, 41, 60, 52, 62] 6 = (⟨3, 6, 13, 0, [120, 41]⟩, 0) := by decide +kernel
    have n3 : Lx.next [47, 65, 35, 50, 48, 98, 40, 120, 92, 48, 53, 49, 41, 60, 52, 62] 13 = (⟨3, 13, 16, 0, [64]⟩, 0) := by decide +kernel
    have n4 : Lx.next [47, 65, 35, 50, 48, 98, 40, 120, 92, 48, 53, 49, 41, 60, 52, 62] 16 = (⟨0, 16, 16, 0, []⟩, 0) := by decide +kernel
    have s1 := (Lx.Steps.nil [47, 65, 35, 50, 48, 98, 40, 120, 92, 48, 53, 49, 41, 60, 52, 62] 0).snoc (by rw [n1]) (by rw [n1]; decide)
    rw [n1] at s1
    have s2 := s1.snoc (by rw [n2]) (by rw [n2]; decide)
    rw [n2] at s2
    have s3 := s2.snoc (by rw [n3]) (by rw [n3]; decide)
    rw [n3] at s3
    exact upto_end s3 (by simp) (by rw [n4]) (by rw [n4])
  rw [allP, show 1048577 = 3 + 1048574 from rfl, h]
  rfl
theorem smp_all2 : allP [97, 32, 41] = ([], (2, 3)) := by
  have n1 : Lx.next [97, 32, 41] 0 = (⟨5, 0, 1, 0, [97]⟩, 0) := by decide +kernel
  have n2 : Lx.next [97, 32, 41] 1 = (Lx.none_, 3) := by decide +kernel
  have s1 := (Lx.Steps.nil [97, 32, 41] 0).snoc (by rw [n1]) (by rw [n1]; decide)
  rw [n1] at s1
  rw [allP, upto_err s1 (by simp) (by rw [n2]; decide), n2]
  rfl
theorem smp1 : Lx.next [55, 46] 0 = (⟨2, 0, 2, 70000, []⟩, 0) := by decide +kernel
theorem smp2 : Lx.next [32, 55, 120] 0 = (⟨5, 1, 3, 0, [55, 120]⟩, 0) := by decide +kernel
theorem smp3 : Lx.next [45, 48] 0 = (⟨1, 0, 2, 0, []⟩, 0) := by decide +kernel
theorem smp4 : Lx.next [41] 0 = (Lx.none_, 3) := by decide +kernel
theorem smp5 : Lx.next [40, 97] 0 = (Lx.none_, 4) := by decide +kernel
end Go.Proofs.YtihjejmmldpelaaDoor
/- Code in continuation form, by program (gen.py): 6 functions. -/
namespace Go.Proofs.YtihjejmmldpelaaDoor
set_option linter.unusedVariables false
set_option linter.unusedSimpArgs false
set_option linter.defProp false
set_option linter.unusedVariables false
set_option maxRecDepth 20000
open Eng

/- foliantlaw03.lives -/
def S_foliantlaw03_lives (w : World) (K : Ending → World → Prop) : Prop :=
 CallX Tryd.prog 16 #[(.string ⟨#[47, 65, 35, 50, 48, 98, 40, 120, 92, 48, 53, 49, 41, 60, 52, 62]⟩)] w (pk K) fun t16 w =>
 DoX Tryd.prog (mExt t16 0) w (pk K) fun t17 w =>
 DoX Tryd.prog (mExt t16 1) w (pk K) fun t18 w =>
 DoX Tryd.prog (mAlloc 39) w (pk K) fun t2 w =>
 DoX Tryd.prog (mStore 39 t2 t18) w (pk K) fun _ w =>
 CallX Tryd.prog 14 #[(.string ⟨#[55, 46]⟩), (.int .i64 0)] w (pk K) fun t20 w =>
 DoX Tryd.prog (mExt t20 0) w (pk K) fun t21 w =>
 DoX Tryd.prog (mExt t20 1) w (pk K) fun t22 w =>
 DoX Tryd.prog (mAlloc 33) w (pk K) fun t3 w =>
 DoX Tryd.prog (mStore 33 t3 t21) w (pk K) fun _ w =>
 CallX Tryd.prog 14 #[(.string ⟨#[32, 55, 120]⟩), (.int .i64 0)] w (pk K) fun t24 w =>
 DoX Tryd.prog (mExt t24 0) w (pk K) fun t25 w =>
 DoX Tryd.prog (mExt t24 1) w (pk K) fun t26 w =>
 DoX Tryd.prog (mAlloc 33) w (pk K) fun t5 w =>
 DoX Tryd.prog (mStore 33 t5 t25) w (pk K) fun _ w =>
 CallX Tryd.prog 14 #[(.string ⟨#[45, 48]⟩), (.int .i64 0)] w (pk K) fun t28 w =>
 DoX Tryd.prog (mExt t28 0) w (pk K) fun t29 w =>
 DoX Tryd.prog (mExt t28 1) w (pk K) fun t30 w =>
 DoX Tryd.prog (mAlloc 33) w (pk K) fun t7 w =>
 DoX Tryd.prog (mStore 33 t7 t29) w (pk K) fun _ w =>
 CallX Tryd.prog 14 #[(.string ⟨#[41]⟩), (.int .i64 0)] w (pk K) fun t32 w =>
 DoX Tryd.prog (mExt t32 0) w (pk K) fun t33 w =>
 DoX Tryd.prog (mExt t32 1) w (pk K) fun t34 w =>
 DoX Tryd.prog (mAlloc 33) w (pk K) fun t9 w =>
 DoX Tryd.prog (mStore 33 t9 t33) w (pk K) fun _ w =>
 CallX Tryd.prog 14 #[(.string ⟨#[40, 97]⟩), (.int .i64 0)] w (pk K) fun t36 w =>
 DoX Tryd.prog (mExt t36 0) w (pk K) fun t37 w =>
 DoX Tryd.prog (mExt t36 1) w (pk K) fun t38 w =>
 DoX Tryd.prog (mAlloc 33) w (pk K) fun t11 w =>
 DoX Tryd.prog (mStore 33 t11 t37) w (pk K) fun _ w =>
 CallX Tryd.prog 16 #[(.string ⟨#[97, 32, 41]⟩)] w (pk K) fun t40 w =>
 DoX Tryd.prog (mExt t40 0) w (pk K) fun t41 w =>
 DoX Tryd.prog (mExt t40 1) w (pk K) fun t42 w =>
 DoX Tryd.prog (mAlloc 39) w (pk K) fun t14 w =>
 DoX Tryd.prog (mStore 39 t14 t42) w (pk K) fun _ w =>
 DoX Tryd.prog (mFA 39 t2 1) w (pk K) fun t43 w =>
 DoX Tryd.prog (mLoad 28 t43) w (pk K) fun t44 w =>
 DoX Tryd.prog (mEq .neq 28 (.tmp 44) (.const (.int .i64 0)) t44 (.int .i64 0)) w (pk K) fun t45 w =>
 GDo t45 false (fun E => E t17 w) w fun t47 w =>
 GDo t45 false (fun E => DoX Tryd.prog (mB .len #[37] 3 #[false] #[t47]) w (pk K) E) w fun t48 w =>
 GDo t45 false (fun E => DoX Tryd.prog (mEq .neq 3 (.tmp 48) (.const (.int .i64 3)) t48 (.int .i64 3)) w (pk K) E) w fun t49 w =>
 DoX Tryd.prog (mPick t45 (.bool true) t49) w (pk K) fun t50 w =>
 GDo t50 false (fun E => E t17 w) w fun t52 w =>
 GDo t50 false (fun E => DoX Tryd.prog (mIA 37 t52 (.int .i64 0)) w (pk K) E) w fun t53 w =>
 GDo t50 false (fun E => DoX Tryd.prog (mLoad 33 t53) w (pk K) E) w fun t54 w =>
 GDo t50 false (fun E => DoX Tryd.prog (mBuild 33 #[(0, (.int .i64 4)), (2, (.int .i64 6)), (4, (.string ⟨#[65, 32, 98]⟩))]) w (pk K) E) w fun t55 w =>
 GDo t50 false (fun E => DoX Tryd.prog (mEq .neq 33 (.tmp 54) (.tmp 55) t54 t55) w (pk K) E) w fun t56 w =>
 DoX Tryd.prog (mPick t50 (.bool true) t56) w (pk K) fun t57 w =>
 GDo t57 false (fun E => E t17 w) w fun t59 w =>
 GDo t57 false (fun E => DoX Tryd.prog (mIA 37 t59 (.int .i64 1)) w (pk K) E) w fun t60 w =>
 GDo t57 false (fun E => DoX Tryd.prog (mLoad 33 t60) w (pk K) E) w fun t61 w =>
 GDo t57 false (fun E => DoX Tryd.prog (mBuild 33 #[(0, (.int .i64 3)), (1, (.int .i64 6)), (2, (.int .i64 13)), (4, (.string ⟨#[120, 41]⟩))]) w (pk K) E) w fun t62 w =>
 GDo t57 false (fun E => DoX Tryd.prog (mEq .neq 33 (.tmp 61) (.tmp 62) t61 t62) w (pk K) E) w fun t63 w =>
 DoX Tryd.prog (mPick t57 (.bool true) t63) w (pk K) fun t64 w =>
 GDo t64 false (fun E => E t17 w) w fun t66 w =>
 GDo t64 false (fun E => DoX Tryd.prog (mIA 37 t66 (.int .i64 2)) w (pk K) E) w fun t67 w =>
 GDo t64 false (fun E => DoX Tryd.prog (mLoad 33 t67) w (pk K) E) w fun t68 w =>
 GDo t64 false (fun E => DoX Tryd.prog (mBuild 33 #[(0, (.int .i64 3)), (1, (.int .i64 13)), (2, (.int .i64 16)), (4, (.string ⟨#[64]⟩))]) w (pk K) E) w fun t69 w =>
 GDo t64 false (fun E => DoX Tryd.prog (mEq .neq 33 (.tmp 68) (.tmp 69) t68 t69) w (pk K) E) w fun t70 w =>
 DoX Tryd.prog (mPick t64 (.bool true) t70) w (pk K) fun t71 w =>
 IfX t71 (K (.returned (.bool false)) w) (DoX Tryd.prog (mLoad 33 t3) w (pk K) fun t72 w =>
 DoX Tryd.prog (mBuild 33 #[(0, (.int .i64 2)), (2, (.int .i64 2)), (3, (.int .i64 70000))]) w (pk K) fun t73 w =>
 DoX Tryd.prog (mEq .eql 33 (.tmp 72) (.tmp 73) t72 t73) w (pk K) fun t74 w =>
 GDo t74 true (fun E => E t22 w) w fun t76 w =>
 GDo t74 true (fun E => DoX Tryd.prog (mEq .eql 28 (.tmp 76) (.const (.int .i64 0)) t76 (.int .i64 0)) w (pk K) E) w fun t77 w =>
 DoX Tryd.prog (mPick t74 t77 (.bool false)) w (pk K) fun t78 w =>
 GDo t78 true (fun E => DoX Tryd.prog (mLoad 33 t5) w (pk K) E) w fun t80 w =>
 GDo t78 true (fun E => DoX Tryd.prog (mBuild 33 #[(0, (.int .i64 5)), (1, (.int .i64 1)), (2, (.int .i64 3)), (4, (.string ⟨#[55, 120]⟩))]) w (pk K) E) w fun t81 w =>
 GDo t78 true (fun E => DoX Tryd.prog (mEq .eql 33 (.tmp 80) (.tmp 81) t80 t81) w (pk K) E) w fun t82 w =>
 DoX Tryd.prog (mPick t78 t82 (.bool false)) w (pk K) fun t83 w =>
 GDo t83 true (fun E => E t26 w) w fun t85 w =>
 GDo t83 true (fun E => DoX Tryd.prog (mEq .eql 28 (.tmp 85) (.const (.int .i64 0)) t85 (.int .i64 0)) w (pk K) E) w fun t86 w =>
 DoX Tryd.prog (mPick t83 t86 (.bool false)) w (pk K) fun t87 w =>
 GDo t87 true (fun E => DoX Tryd.prog (mLoad 33 t7) w (pk K) E) w fun t89 w =>
 GDo t87 true (fun E => DoX Tryd.prog (mBuild 33 #[(0, (.int .i64 1)), (2, (.int .i64 2))]) w (pk K) E) w fun t90 w =>
 GDo t87 true (fun E => DoX Tryd.prog (mEq .eql 33 (.tmp 89) (.tmp 90) t89 t90) w (pk K) E) w fun t91 w =>
 DoX Tryd.prog (mPick t87 t91 (.bool false)) w (pk K) fun t92 w =>
 GDo t92 true (fun E => E t30 w) w fun t94 w =>
 GDo t92 true (fun E => DoX Tryd.prog (mEq .eql 28 (.tmp 94) (.const (.int .i64 0)) t94 (.int .i64 0)) w (pk K) E) w fun t95 w =>
 DoX Tryd.prog (mPick t92 t95 (.bool false)) w (pk K) fun t96 w =>
 GDo t96 true (fun E => E t34 w) w fun t98 w =>
 GDo t96 true (fun E => DoX Tryd.prog (mEq .eql 28 (.tmp 98) (.const (.int .i64 3)) t98 (.int .i64 3)) w (pk K) E) w fun t99 w =>
 DoX Tryd.prog (mPick t96 t99 (.bool false)) w (pk K) fun t100 w =>
 GDo t100 true (fun E => E t38 w) w fun t102 w =>
 GDo t100 true (fun E => DoX Tryd.prog (mEq .eql 28 (.tmp 102) (.const (.int .i64 4)) t102 (.int .i64 4)) w (pk K) E) w fun t103 w =>
 DoX Tryd.prog (mPick t100 t103 (.bool false)) w (pk K) fun t104 w =>
 GDo t104 true (fun E => DoX Tryd.prog (mLoad 39 t14) w (pk K) E) w fun t106 w =>
 GDo t104 true (fun E => DoX Tryd.prog (mBuild 39 #[(0, (.int .i64 2)), (1, (.int .i64 3))]) w (pk K) E) w fun t107 w =>
 GDo t104 true (fun E => DoX Tryd.prog (mEq .eql 39 (.tmp 106) (.tmp 107) t106 t107) w (pk K) E) w fun t108 w =>
 DoX Tryd.prog (mPick t104 t108 (.bool false)) w (pk K) fun t109 w =>
 K (.returned t109) w)
theorem S_foliantlaw03_lives_eq (w : World) (K : Ending → World → Prop) : wpX Tryd.prog 110 [] [] none (bodyOf Tryd.f13) (topQ Tryd.prog [.tmp 0] K) (startX []) [] w = S_foliantlaw03_lives w K := by kernel_rfl
theorem S_foliantlaw03_lives_ok {w : World} {K : Ending → World → Prop} (h : S_foliantlaw03_lives w K) : Calls Tryd.prog 13 #[] w K :=
  calls_of_wpX Tryd.func13 rfl rfl rfl rfl (Eq.mpr (S_foliantlaw03_lives_eq w K) h)

/- foliantlaw03.LexNext -/
def S_foliantlaw03_LexNext (t0 t1 : Value) (w : World) (K : Ending → World → Prop) : Prop :=
 DoX Tryd.prog (mB .len #[9] 3 #[false] #[t0]) w (pk K) fun t10 w =>
 DoX Tryd.prog (mBin .gtr 3 t10 (.int .i64 3000)) w (pk K) fun t11 w =>
 IfX t11 (CallX Tryd.prog 13 #[] w (pk K) fun t12 w =>
 K (.returned t12) w) (CallX Tryd.prog 14 #[t0, t1] w (pk K) fun t16 w =>
 DoX Tryd.prog (mExt t16 0) w (pk K) fun t17 w =>
 DoX Tryd.prog (mExt t16 1) w (pk K) fun t18 w =>
 DoX Tryd.prog (mAlloc 33) w (pk K) fun t5 w =>
 DoX Tryd.prog (mStore 33 t5 t17) w (pk K) fun _ w =>
 CallX Tryd.prog 15 #[t0, t1] w (pk K) fun t22 w =>
 DoX Tryd.prog (mExt t22 0) w (pk K) fun t23 w =>
 DoX Tryd.prog (mExt t22 1) w (pk K) fun t24 w =>
 DoX Tryd.prog (mAlloc 33) w (pk K) fun t7 w =>
 DoX Tryd.prog (mStore 33 t7 t23) w (pk K) fun _ w =>
 DoX Tryd.prog (mLoad 33 t5) w (pk K) fun t25 w =>
 DoX Tryd.prog (mLoad 33 t7) w (pk K) fun t26 w =>
 DoX Tryd.prog (mEq .eql 33 (.tmp 25) (.tmp 26) t25 t26) w (pk K) fun t27 w =>
 GDo t27 true (fun E => E t18 w) w fun t29 w =>
 GDo t27 true (fun E => E t24 w) w fun t30 w =>
 GDo t27 true (fun E => DoX Tryd.prog (mEq .eql 28 (.tmp 29) (.tmp 30) t29 t30) w (pk K) E) w fun t31 w =>
 DoX Tryd.prog (mPick t27 t31 (.bool false)) w (pk K) fun t32 w =>
 GDo t32 true (fun E => CallX Tryd.prog 13 #[] w (pk K) E) w fun t34 w =>
 DoX Tryd.prog (mPick t32 t34 (.bool false)) w (pk K) fun t35 w =>
 K (.returned t35) w)
theorem S_foliantlaw03_LexNext_eq (t0 t1 : Value) (w : World) (K : Ending → World → Prop) : wpX Tryd.prog 36 [] [] none (bodyOf Tryd.f4) (topQ Tryd.prog [.tmp 4] K) (startX [t0, t1]) [] w = S_foliantlaw03_LexNext t0 t1 w K := by kernel_rfl
theorem S_foliantlaw03_LexNext_ok {t0 t1 : Value} {w : World} {K : Ending → World → Prop} (h : S_foliantlaw03_LexNext t0 t1 w K) : Calls Tryd.prog 4 #[t0, t1] w K :=
  calls_of_wpX Tryd.func4 rfl rfl rfl rfl (Eq.mpr (S_foliantlaw03_LexNext_eq t0 t1 w K) h)

/- foliantlaw03.LexAll -/
def S_foliantlaw03_LexAll (t0 t1 t2 : Value) (w : World) (K : Ending → World → Prop) : Prop :=
 DoX Tryd.prog (mB .len #[9] 3 #[false] #[t0]) w (pk K) fun t16 w =>
 DoX Tryd.prog (mBin .gtr 3 t16 (.int .i64 2000)) w (pk K) fun t17 w =>
 IfX t17 (CallX Tryd.prog 13 #[] w (pk K) fun t18 w =>
 K (.returned t18) w) (CallX Tryd.prog 16 #[t0] w (pk K) fun t21 w =>
 DoX Tryd.prog (mExt t21 0) w (pk K) fun t22 w =>
 DoX Tryd.prog (mExt t21 1) w (pk K) fun t23 w =>
 DoX Tryd.prog (mAlloc 39) w (pk K) fun t8 w =>
 DoX Tryd.prog (mStore 39 t8 t23) w (pk K) fun _ w =>
 CallX Tryd.prog 19 #[t0] w (pk K) fun t26 w =>
 DoX Tryd.prog (mExt t26 0) w (pk K) fun t27 w =>
 DoX Tryd.prog (mExt t26 1) w (pk K) fun t28 w =>
 DoX Tryd.prog (mAlloc 39) w (pk K) fun t10 w =>
 DoX Tryd.prog (mStore 39 t10 t28) w (pk K) fun _ w =>
 CallX Tryd.prog 20 #[t0, t1, t2] w (pk K) fun t33 w =>
 DoX Tryd.prog (mExt t33 0) w (pk K) fun t34 w =>
 DoX Tryd.prog (mExt t33 1) w (pk K) fun t35 w =>
 DoX Tryd.prog (mAlloc 39) w (pk K) fun t12 w =>
 DoX Tryd.prog (mStore 39 t12 t35) w (pk K) fun _ w =>
 CallX Tryd.prog 21 #[t0, t1, t2] w (pk K) fun t40 w =>
 DoX Tryd.prog (mExt t40 0) w (pk K) fun t41 w =>
 DoX Tryd.prog (mExt t40 1) w (pk K) fun t42 w =>
 DoX Tryd.prog (mAlloc 39) w (pk K) fun t14 w =>
 DoX Tryd.prog (mStore 39 t14 t42) w (pk K) fun _ w =>
 CallX Tryd.prog 22 #[t22, t27] w (pk K) fun t45 w =>
 GDo t45 true (fun E => DoX Tryd.prog (mLoad 39 t8) w (pk K) E) w fun t47 w =>
 GDo t45 true (fun E => DoX Tryd.prog (mLoad 39 t10) w (pk K) E) w fun t48 w =>
 GDo t45 true (fun E => DoX Tryd.prog (mEq .eql 39 (.tmp 47) (.tmp 48) t47 t48) w (pk K) E) w fun t49 w =>
 DoX Tryd.prog (mPick t45 t49 (.bool false)) w (pk K) fun t50 w =>
 GDo t50 true (fun E => E t34 w) w fun t52 w =>
 GDo t50 true (fun E => E t41 w) w fun t53 w =>
 GDo t50 true (fun E => CallX Tryd.prog 22 #[t52, t53] w (pk K) E) w fun t54 w =>
 DoX Tryd.prog (mPick t50 t54 (.bool false)) w (pk K) fun t55 w =>
 GDo t55 true (fun E => DoX Tryd.prog (mLoad 39 t12) w (pk K) E) w fun t57 w =>
 GDo t55 true (fun E => DoX Tryd.prog (mLoad 39 t14) w (pk K) E) w fun t58 w =>
 GDo t55 true (fun E => DoX Tryd.prog (mEq .eql 39 (.tmp 57) (.tmp 58) t57 t58) w (pk K) E) w fun t59 w =>
 DoX Tryd.prog (mPick t55 t59 (.bool false)) w (pk K) fun t60 w =>
 GDo t60 true (fun E => CallX Tryd.prog 13 #[] w (pk K) E) w fun t62 w =>
 DoX Tryd.prog (mPick t60 t62 (.bool false)) w (pk K) fun t63 w =>
 K (.returned t63) w)
theorem S_foliantlaw03_LexAll_eq (t0 t1 t2 : Value) (w : World) (K : Ending → World → Prop) : wpX Tryd.prog 64 [] [] none (bodyOf Tryd.f8) (topQ Tryd.prog [.tmp 6] K) (startX [t0, t1, t2]) [] w = S_foliantlaw03_LexAll t0 t1 t2 w K := by kernel_rfl
theorem S_foliantlaw03_LexAll_ok {t0 t1 t2 : Value} {w : World} {K : Ending → World → Prop} (h : S_foliantlaw03_LexAll t0 t1 t2 w K) : Calls Tryd.prog 8 #[t0, t1, t2] w K :=
  calls_of_wpX Tryd.func8 rfl rfl rfl rfl (Eq.mpr (S_foliantlaw03_LexAll_eq t0 t1 t2 w K) h)

/- foliantlaw03.LexApart -/
def S_foliantlaw03_LexApart_0 (t0 t3 t5 t6 : Value) (w : World) (N2 : List Value → World → Prop) (K : Ending → World → Prop) : Prop :=
 DoX Tryd.prog (mB .len #[37] 3 #[false] #[t3]) w (pk K) fun t51 w =>
 DoX Tryd.prog (mBin .lss 3 t6 t51) w (pk K) fun t52 w =>
 IfX t52 (DoX Tryd.prog (mIA 37 t3 t6) w (pk K) fun t57 w =>
 DoX Tryd.prog (mLoad 33 t57) w (pk K) fun t58 w =>
 DoX Tryd.prog (mAlloc 33) w (pk K) fun t7 w =>
 DoX Tryd.prog (mStore 33 t7 t58) w (pk K) fun _ w =>
 QuietX w (fun C3 =>
 QDo Tryd.prog C3 (mFA 33 t7 1) fun t59 =>
 QDo Tryd.prog C3 (mLoad 3 t59) fun t60 =>
 QDo Tryd.prog C3 (mBin .lss 3 t60 t5) fun t62 =>
 GQ t62 false (fun E => QDo Tryd.prog C3 (mFA 33 t7 2) E) fun t64 =>
 GQ t62 false (fun E => QDo Tryd.prog C3 (mLoad 3 t64) E) fun t65 =>
 GQ t62 false (fun E => QDo Tryd.prog C3 (mFA 33 t7 1) E) fun t66 =>
 GQ t62 false (fun E => QDo Tryd.prog C3 (mLoad 3 t66) E) fun t67 =>
 GQ t62 false (fun E => QDo Tryd.prog C3 (mBin .leq 3 t65 t67) E) fun t68 =>
 QDo Tryd.prog C3 (mPick t62 (.bool true) t68) fun t69 =>
 GQ t69 false (fun E => QDo Tryd.prog C3 (mFA 33 t7 2) E) fun t71 =>
 GQ t69 false (fun E => QDo Tryd.prog C3 (mLoad 3 t71) E) fun t72 =>
 GQ t69 false (fun E => E t0) fun t73 =>
 GQ t69 false (fun E => QDo Tryd.prog C3 (mB .len #[9] 3 #[false] #[t73]) E) fun t74 =>
 GQ t69 false (fun E => QDo Tryd.prog C3 (mBin .gtr 3 t72 t74) E) fun t75 =>
 QDo Tryd.prog C3 (mPick t69 (.bool true) t75) fun t76 =>
 GQ t76 false (fun E => E t0) fun t78 =>
 GQ t76 false (fun E => E t5) fun t79 =>
 GQ t76 false (fun E => QCall Tryd.prog C3 17 #[t78, t79] E) fun t80 =>
 GQ t76 false (fun E => QDo Tryd.prog C3 (mFA 33 t7 1) E) fun t81 =>
 GQ t76 false (fun E => QDo Tryd.prog C3 (mLoad 3 t81) E) fun t82 =>
 GQ t76 false (fun E => QDo Tryd.prog C3 (mEq .neq 3 (.tmp 80) (.tmp 82) t80 t82) E) fun t83 =>
 QDo Tryd.prog C3 (mPick t76 (.bool true) t83) fun t84 =>
 GQ t84 false (fun E => QDo Tryd.prog C3 (mFA 33 t7 0) E) fun t86 =>
 GQ t84 false (fun E => QDo Tryd.prog C3 (mLoad 3 t86) E) fun t87 =>
 GQ t84 false (fun E => QDo Tryd.prog C3 (mEq .eql 3 (.tmp 87) (.const (.int .i64 0)) t87 (.int .i64 0)) E) fun t88 =>
 QDo Tryd.prog C3 (mPick t84 (.bool true) t88) fun t89 =>
 ∀ w, C3 w →
 IfX t89 (K (.returned (.bool false)) w) (DoX Tryd.prog (mFA 33 t7 1) w (pk K) fun t92 w =>
 DoX Tryd.prog (mLoad 3 t92) w (pk K) fun t93 w =>
 DoX Tryd.prog (mFA 33 t7 2) w (pk K) fun t94 w =>
 DoX Tryd.prog (mLoad 3 t94) w (pk K) fun t95 w =>
 DoX Tryd.prog (mSlice 9 t0 (some t93) (some t95) none) w (pk K) fun t96 w =>
 CallX Tryd.prog 14 #[t96, (.int .i64 0)] w (pk K) fun t97 w =>
 DoX Tryd.prog (mExt t97 0) w (pk K) fun t98 w =>
 DoX Tryd.prog (mExt t97 1) w (pk K) fun t99 w =>
 DoX Tryd.prog (mAlloc 33) w (pk K) fun t8 w =>
 DoX Tryd.prog (mStore 33 t8 t98) w (pk K) fun _ w =>
 DoX Tryd.prog (mFA 33 t8 1) w (pk K) fun t100 w =>
 DoX Tryd.prog (mLoad 3 t100) w (pk K) fun t101 w =>
 DoX Tryd.prog (mFA 33 t7 1) w (pk K) fun t102 w =>
 DoX Tryd.prog (mLoad 3 t102) w (pk K) fun t103 w =>
 DoX Tryd.prog (mBin .add 3 t101 t103) w (pk K) fun t104 w =>
 DoX Tryd.prog (mFA 33 t8 1) w (pk K) fun t105 w =>
 DoX Tryd.prog (mStore 3 t105 t104) w (pk K) fun _ w =>
 DoX Tryd.prog (mFA 33 t8 2) w (pk K) fun t106 w =>
 DoX Tryd.prog (mLoad 3 t106) w (pk K) fun t107 w =>
 DoX Tryd.prog (mFA 33 t7 1) w (pk K) fun t108 w =>
 DoX Tryd.prog (mLoad 3 t108) w (pk K) fun t109 w =>
 DoX Tryd.prog (mBin .add 3 t107 t109) w (pk K) fun t110 w =>
 DoX Tryd.prog (mFA 33 t8 2) w (pk K) fun t111 w =>
 DoX Tryd.prog (mStore 3 t111 t110) w (pk K) fun _ w =>
 DoX Tryd.prog (mEq .neq 28 (.tmp 112) (.const (.int .i64 0)) t99 (.int .i64 0)) w (pk K) fun t113 w =>
 GDo t113 false (fun E => DoX Tryd.prog (mLoad 33 t8) w (pk K) E) w fun t115 w =>
 GDo t113 false (fun E => DoX Tryd.prog (mLoad 33 t7) w (pk K) E) w fun t116 w =>
 GDo t113 false (fun E => DoX Tryd.prog (mEq .neq 33 (.tmp 115) (.tmp 116) t115 t116) w (pk K) E) w fun t117 w =>
 DoX Tryd.prog (mPick t113 (.bool true) t117) w (pk K) fun t118 w =>
 IfX t118 (K (.returned (.bool false)) w) (DoX Tryd.prog (mFA 33 t7 2) w (pk K) fun t119 w =>
 DoX Tryd.prog (mLoad 3 t119) w (pk K) fun t120 w =>
 DoX Tryd.prog (mBin .add 3 t6 (.int .i64 1)) w (pk K) fun t54 w =>
 N2 [t120, t54] w)))) (CallX Tryd.prog 17 #[t0, t5] w (pk K) fun t123 w =>
 DoX Tryd.prog (mB .len #[9] 3 #[false] #[t0]) w (pk K) fun t125 w =>
 DoX Tryd.prog (mEq .eql 3 (.tmp 123) (.tmp 125) t123 t125) w (pk K) fun t126 w =>
 GDo t126 true (fun E => CallX Tryd.prog 13 #[] w (pk K) E) w fun t128 w =>
 DoX Tryd.prog (mPick t126 t128 (.bool false)) w (pk K) fun t129 w =>
 K (.returned t129) w)
def S_foliantlaw03_LexApart (t0 : Value) (w : World) (K : Ending → World → Prop) : Prop :=
 DoX Tryd.prog (mB .len #[9] 3 #[false] #[t0]) w (pk K) fun t11 w =>
 DoX Tryd.prog (mBin .gtr 3 t11 (.int .i64 1500)) w (pk K) fun t12 w =>
 IfX t12 (CallX Tryd.prog 13 #[] w (pk K) fun t13 w =>
 K (.returned t13) w) (CallX Tryd.prog 16 #[t0] w (pk K) fun t16 w =>
 DoX Tryd.prog (mExt t16 0) w (pk K) fun t17 w =>
 DoX Tryd.prog (mExt t16 1) w (pk K) fun t18 w =>
 DoX Tryd.prog (mAlloc 39) w (pk K) fun t4 w =>
 DoX Tryd.prog (mStore 39 t4 t18) w (pk K) fun _ w =>
 DoX Tryd.prog (mFA 39 t4 1) w (pk K) fun t19 w =>
 DoX Tryd.prog (mLoad 28 t19) w (pk K) fun t20 w =>
 DoX Tryd.prog (mEq .neq 28 (.tmp 20) (.const (.int .i64 0)) t20 (.int .i64 0)) w (pk K) fun t21 w =>
 IfX t21 (QuietX w (fun C1 =>
 QDo Tryd.prog C1 (mB .len #[37] 3 #[false] #[t17]) fun t23 =>
 QDo Tryd.prog C1 (mEq .eql 3 (.tmp 23) (.const (.int .i64 0)) t23 (.int .i64 0)) fun t24 =>
 GQ t24 true (fun E => QDo Tryd.prog C1 (mFA 39 t4 0) E) fun t26 =>
 GQ t24 true (fun E => QDo Tryd.prog C1 (mLoad 3 t26) E) fun t27 =>
 GQ t24 true (fun E => QDo Tryd.prog C1 (mBin .geq 3 t27 (.int .i64 0)) E) fun t28 =>
 QDo Tryd.prog C1 (mPick t24 t28 (.bool false)) fun t29 =>
 GQ t29 true (fun E => QDo Tryd.prog C1 (mFA 39 t4 0) E) fun t31 =>
 GQ t29 true (fun E => QDo Tryd.prog C1 (mLoad 3 t31) E) fun t32 =>
 GQ t29 true (fun E => E t0) fun t33 =>
 GQ t29 true (fun E => QDo Tryd.prog C1 (mB .len #[9] 3 #[false] #[t33]) E) fun t34 =>
 GQ t29 true (fun E => QDo Tryd.prog C1 (mBin .lss 3 t32 t34) E) fun t35 =>
 QDo Tryd.prog C1 (mPick t29 t35 (.bool false)) fun t36 =>
 GQ t36 true (fun E => E t0) fun t38 =>
 GQ t36 true (fun E => QDo Tryd.prog C1 (mFA 39 t4 0) E) fun t39 =>
 GQ t36 true (fun E => QDo Tryd.prog C1 (mLoad 3 t39) E) fun t40 =>
 GQ t36 true (fun E => QCall Tryd.prog C1 17 #[t38, t40] E) fun t41 =>
 GQ t36 true (fun E => QDo Tryd.prog C1 (mFA 39 t4 0) E) fun t42 =>
 GQ t36 true (fun E => QDo Tryd.prog C1 (mLoad 3 t42) E) fun t43 =>
 GQ t36 true (fun E => QDo Tryd.prog C1 (mEq .eql 3 (.tmp 41) (.tmp 43) t41 t43) E) fun t44 =>
 QDo Tryd.prog C1 (mPick t36 t44 (.bool false)) fun t45 =>
 GQ t45 true (fun E => QCall Tryd.prog C1 13 #[] E) fun t47 =>
 QDo Tryd.prog C1 (mPick t45 t47 (.bool false)) fun t48 =>
 ∀ w, C1 w →
 K (.returned t48) w)) (LoopX [(.int .i64 0), (.int .i64 0)] w (fun vs2 w N2 => ∀ _ : Sg, S_foliantlaw03_LexApart_0 t0 t17 (vs2.getD 0 undef) (vs2.getD 1 undef) w N2 K)))
theorem S_foliantlaw03_LexApart_eq (t0 : Value) (w : World) (K : Ending → World → Prop) : wpX Tryd.prog 130 [] [(8, [5, 6])] none (bodyOf Tryd.f5) (topQ Tryd.prog [.tmp 2] K) (startX [t0]) [] w = S_foliantlaw03_LexApart t0 w K := by kernel_rfl
theorem S_foliantlaw03_LexApart_ok {t0 : Value} {w : World} {K : Ending → World → Prop} (h : S_foliantlaw03_LexApart t0 w K) : Calls Tryd.prog 5 #[t0] w K :=
  calls_of_wpX Tryd.func5 rfl rfl rfl rfl (Eq.mpr (S_foliantlaw03_LexApart_eq t0 w K) h)

/- foliantlaw03.LexNumbers -/
def S_foliantlaw03_LexNumbers_2 (t0 t1 t5 t7 t8 : Value) (w : World) (N3 : List Value → World → Prop) (K : Ending → World → Prop) : Prop :=
 DoX Tryd.prog (mBin .rem 5 t1 (.int .u8 200)) w (pk K) fun t41 w =>
 DoX Tryd.prog (mConv 5 3 t41) w (pk K) fun t42 w =>
 DoX Tryd.prog (mBin .lss 3 t8 t42) w (pk K) fun t43 w =>
 IfX t43 (DoX Tryd.prog (mBin .add 9 (.string ⟨#[48]⟩) t7) w (pk K) fun t47 w =>
 DoX Tryd.prog (mBin .add 3 t8 (.int .i64 1)) w (pk K) fun t45 w =>
 N3 [t47, t45] w) (DoX Tryd.prog (mBin .add 9 (.string ⟨#[10]⟩) t5) w (pk K) fun t50 w =>
 DoX Tryd.prog (mBin .add 9 t50 t7) w (pk K) fun t52 w =>
 DoX Tryd.prog (mBin .add 9 t52 (.string ⟨#[47]⟩)) w (pk K) fun t53 w =>
 CallX Tryd.prog 14 #[t53, (.int .i64 0)] w (pk K) fun t54 w =>
 DoX Tryd.prog (mExt t54 0) w (pk K) fun t55 w =>
 DoX Tryd.prog (mExt t54 1) w (pk K) fun t56 w =>
 DoX Tryd.prog (mAlloc 33) w (pk K) fun t9 w =>
 DoX Tryd.prog (mStore 33 t9 t55) w (pk K) fun _ w =>
 DoX Tryd.prog (mBin .lss 2 t0 (.int .i64 (-2147483647))) w (pk K) fun t58 w =>
 GDo t58 false (fun E => E t0 w) w fun t60 w =>
 GDo t58 false (fun E => DoX Tryd.prog (mBin .gtr 2 t60 (.int .i64 2147483647)) w (pk K) E) w fun t61 w =>
 DoX Tryd.prog (mPick t58 (.bool true) t61) w (pk K) fun t62 w =>
 IfX t62 (DoX Tryd.prog (mEq .eql 28 (.tmp 63) (.const (.int .i64 2)) t56 (.int .i64 2)) w (pk K) fun t64 w =>
 GDo t64 true (fun E => DoX Tryd.prog (mLoad 33 t9) w (pk K) E) w fun t66 w =>
 GDo t64 true (fun E => DoX Tryd.prog (mBuild 33 #[]) w (pk K) E) w fun t67 w =>
 GDo t64 true (fun E => DoX Tryd.prog (mEq .eql 33 (.tmp 66) (.tmp 67) t66 t67) w (pk K) E) w fun t68 w =>
 DoX Tryd.prog (mPick t64 t68 (.bool false)) w (pk K) fun t69 w =>
 GDo t69 true (fun E => CallX Tryd.prog 13 #[] w (pk K) E) w fun t71 w =>
 DoX Tryd.prog (mPick t69 t71 (.bool false)) w (pk K) fun t72 w =>
 K (.returned t72) w) (DoX Tryd.prog (mEq .eql 28 (.tmp 73) (.const (.int .i64 0)) t56 (.int .i64 0)) w (pk K) fun t74 w =>
 GDo t74 true (fun E => DoX Tryd.prog (mFA 33 t9 0) w (pk K) E) w fun t76 w =>
 GDo t74 true (fun E => DoX Tryd.prog (mLoad 3 t76) w (pk K) E) w fun t77 w =>
 GDo t74 true (fun E => DoX Tryd.prog (mEq .eql 3 (.tmp 77) (.const (.int .i64 1)) t77 (.int .i64 1)) w (pk K) E) w fun t78 w =>
 DoX Tryd.prog (mPick t74 t78 (.bool false)) w (pk K) fun t79 w =>
 GDo t79 true (fun E => DoX Tryd.prog (mFA 33 t9 3) w (pk K) E) w fun t81 w =>
 GDo t79 true (fun E => DoX Tryd.prog (mLoad 2 t81) w (pk K) E) w fun t82 w =>
 GDo t79 true (fun E => E t0 w) w fun t83 w =>
 GDo t79 true (fun E => DoX Tryd.prog (mEq .eql 2 (.tmp 82) (.tmp 83) t82 t83) w (pk K) E) w fun t84 w =>
 DoX Tryd.prog (mPick t79 t84 (.bool false)) w (pk K) fun t85 w =>
 GDo t85 true (fun E => DoX Tryd.prog (mFA 33 t9 1) w (pk K) E) w fun t87 w =>
 GDo t85 true (fun E => DoX Tryd.prog (mLoad 3 t87) w (pk K) E) w fun t88 w =>
 GDo t85 true (fun E => DoX Tryd.prog (mEq .eql 3 (.tmp 88) (.const (.int .i64 1)) t88 (.int .i64 1)) w (pk K) E) w fun t89 w =>
 DoX Tryd.prog (mPick t85 t89 (.bool false)) w (pk K) fun t90 w =>
 GDo t90 true (fun E => DoX Tryd.prog (mFA 33 t9 2) w (pk K) E) w fun t92 w =>
 GDo t90 true (fun E => DoX Tryd.prog (mLoad 3 t92) w (pk K) E) w fun t93 w =>
 GDo t90 true (fun E => E t5 w) w fun t94 w =>
 GDo t90 true (fun E => DoX Tryd.prog (mB .len #[9] 3 #[false] #[t94]) w (pk K) E) w fun t95 w =>
 GDo t90 true (fun E => DoX Tryd.prog (mBin .add 3 (.int .i64 1) t95) w (pk K) E) w fun t96 w =>
 GDo t90 true (fun E => E t7 w) w fun t97 w =>
 GDo t90 true (fun E => DoX Tryd.prog (mB .len #[9] 3 #[false] #[t97]) w (pk K) E) w fun t98 w =>
 GDo t90 true (fun E => DoX Tryd.prog (mBin .add 3 t96 t98) w (pk K) E) w fun t99 w =>
 GDo t90 true (fun E => DoX Tryd.prog (mEq .eql 3 (.tmp 93) (.tmp 99) t93 t99) w (pk K) E) w fun t100 w =>
 DoX Tryd.prog (mPick t90 t100 (.bool false)) w (pk K) fun t101 w =>
 GDo t101 true (fun E => DoX Tryd.prog (mFA 33 t9 4) w (pk K) E) w fun t103 w =>
 GDo t101 true (fun E => DoX Tryd.prog (mLoad 9 t103) w (pk K) E) w fun t104 w =>
 GDo t101 true (fun E => DoX Tryd.prog (mEq .eql 9 (.tmp 104) (.const (.string ⟨#[]⟩)) t104 (.string ⟨#[]⟩)) w (pk K) E) w fun t105 w =>
 DoX Tryd.prog (mPick t101 t105 (.bool false)) w (pk K) fun t106 w =>
 GDo t106 true (fun E => CallX Tryd.prog 13 #[] w (pk K) E) w fun t108 w =>
 DoX Tryd.prog (mPick t106 t108 (.bool false)) w (pk K) fun t109 w =>
 K (.returned t109) w))
def S_foliantlaw03_LexNumbers_1 (t0 t1 t5 t6 t7 : Value) (w : World) (N2 : List Value → World → Prop) (K : Ending → World → Prop) : Prop :=
 DoX Tryd.prog (mBin .gtr 2 t6 (.int .i64 0)) w (pk K) fun t24 w =>
 GDo t24 false (fun E => E t7 w) w fun t26 w =>
 GDo t24 false (fun E => DoX Tryd.prog (mEq .eql 9 (.tmp 26) (.const (.string ⟨#[]⟩)) t26 (.string ⟨#[]⟩)) w (pk K) E) w fun t27 w =>
 DoX Tryd.prog (mPick t24 (.bool true) t27) w (pk K) fun t28 w =>
 IfX t28 (DoX Tryd.prog (mBin .rem 2 t6 (.int .i64 10)) w (pk K) fun t30 w =>
 DoX Tryd.prog (mBin .add 2 (.int .i64 48) t30) w (pk K) fun t31 w =>
 DoX Tryd.prog (mConv 2 5 t31) w (pk K) fun t32 w =>
 DoX Tryd.prog (mBuildS 44 1 #[(0, t32)]) w (pk K) fun t33 w =>
 DoX Tryd.prog (mConv 44 9 t33) w (pk K) fun t34 w =>
 DoX Tryd.prog (mBin .add 9 t34 t7) w (pk K) fun t36 w =>
 DoX Tryd.prog (mBin .quo 2 t6 (.int .i64 10)) w (pk K) fun t38 w =>
 N2 [t38, t36] w) (LoopX [t7, (.int .i64 0)] w (fun vs3 w N3 => ∀ _ : Sg, S_foliantlaw03_LexNumbers_2 t0 t1 t5 (vs3.getD 0 undef) (vs3.getD 1 undef) w N3 K))
def S_foliantlaw03_LexNumbers_0 (t0 t1 t5 t6 : Value) (w : World) (K : Ending → World → Prop) : Prop :=
 LoopX [t6, (.string ⟨#[]⟩)] w (fun vs2 w N2 => ∀ _ : Sg, S_foliantlaw03_LexNumbers_1 t0 t1 t5 (vs2.getD 0 undef) (vs2.getD 1 undef) w N2 K)
def S_foliantlaw03_LexNumbers (t0 t1 : Value) (w : World) (K : Ending → World → Prop) : Prop :=
 DoX Tryd.prog (mBin .lss 2 t0 (.int .i64 (-8589934588))) w (pk K) fun t12 w =>
 GDo t12 false (fun E => E t0 w) w fun t14 w =>
 GDo t12 false (fun E => DoX Tryd.prog (mBin .gtr 2 t14 (.int .i64 8589934588)) w (pk K) E) w fun t15 w =>
 DoX Tryd.prog (mPick t12 (.bool true) t15) w (pk K) fun t16 w =>
 IfX t16 (CallX Tryd.prog 13 #[] w (pk K) fun t17 w =>
 K (.returned t17) w) (JoinX (fun J1 =>
 DoX Tryd.prog (mBin .lss 2 t0 (.int .i64 0)) w (pk K) fun t20 w =>
 IfX t20 (DoX Tryd.prog (mUn .neg t0) w (pk K) fun t22 w =>
 J1 [(.string ⟨#[45]⟩), t22] w) (J1 [(.string ⟨#[]⟩), t0] w)) (fun vs1 w => ∀ _ : Sg, S_foliantlaw03_LexNumbers_0 t0 t1 (vs1.getD 0 undef) (vs1.getD 1 undef) w K))
theorem S_foliantlaw03_LexNumbers_eq (t0 t1 : Value) (w : World) (K : Ending → World → Prop) : wpX Tryd.prog 110 [(6, [5, 6])] [(7, [6, 7]), (11, [7, 8])] none (bodyOf Tryd.f6) (topQ Tryd.prog [.tmp 4] K) (startX [t0, t1]) [] w = S_foliantlaw03_LexNumbers t0 t1 w K := by kernel_rfl
theorem S_foliantlaw03_LexNumbers_ok {t0 t1 : Value} {w : World} {K : Ending → World → Prop} (h : S_foliantlaw03_LexNumbers t0 t1 w K) : Calls Tryd.prog 6 #[t0, t1] w K :=
  calls_of_wpX Tryd.func6 rfl rfl rfl rfl (Eq.mpr (S_foliantlaw03_LexNumbers_eq t0 t1 w K) h)

/- foliantlaw03.LexStrings -/
def S_foliantlaw03_LexStrings_2 (t0 t6 t7 t9 : Value) (w : World) (N3 : List Value → World → Prop) (K : Ending → World → Prop) : Prop :=
 DoX Tryd.prog (mB .len #[9] 3 #[false] #[t0]) w (pk K) fun t40 w =>
 DoX Tryd.prog (mBin .lss 3 t9 t40) w (pk K) fun t41 w =>
 IfX t41 (QuietX w (fun C4 =>
 PDo Tryd.prog (mBin .add 9 t7 (.string ⟨#[92]⟩)) fun t45 =>
 QDo Tryd.prog C4 (mIx 9 t0 t9) fun t48 =>
 QDo Tryd.prog C4 (mBin .quo 5 t48 (.int .u8 64)) fun t49 =>
 QDo Tryd.prog C4 (mBin .add 5 (.int .u8 48) t49) fun t50 =>
 QDo Tryd.prog C4 (mIx 9 t0 t9) fun t53 =>
 QDo Tryd.prog C4 (mBin .quo 5 t53 (.int .u8 8)) fun t54 =>
 QDo Tryd.prog C4 (mBin .rem 5 t54 (.int .u8 8)) fun t55 =>
 QDo Tryd.prog C4 (mBin .add 5 (.int .u8 48) t55) fun t56 =>
 QDo Tryd.prog C4 (mIx 9 t0 t9) fun t59 =>
 QDo Tryd.prog C4 (mBin .rem 5 t59 (.int .u8 8)) fun t60 =>
 QDo Tryd.prog C4 (mBin .add 5 (.int .u8 48) t60) fun t61 =>
 ∀ w, C4 w →
 DoX Tryd.prog (mBuildS 44 3 #[(0, t50), (1, t56), (2, t61)]) w (pm1 (pm1 (pk K))) fun t62 w =>
 DoX Tryd.prog (mConv 44 9 t62) w (pm1 (pm1 (pk K))) fun t63 w =>
 DoX Tryd.prog (mBin .add 9 t45 t63) w (pm1 (pm1 (pk K))) fun t64 w =>
 DoX Tryd.prog (mBin .add 3 t9 (.int .i64 1)) w (pk K) fun t43 w =>
 N3 [t64, t43] w)) (DoX Tryd.prog (mBin .add 9 t6 (.string ⟨#[62, 120]⟩)) w (pk K) fun t67 w =>
 CallX Tryd.prog 14 #[t67, (.int .i64 0)] w (pk K) fun t68 w =>
 DoX Tryd.prog (mExt t68 0) w (pk K) fun t69 w =>
 DoX Tryd.prog (mExt t68 1) w (pk K) fun t70 w =>
 DoX Tryd.prog (mAlloc 33) w (pk K) fun t10 w =>
 DoX Tryd.prog (mStore 33 t10 t69) w (pk K) fun _ w =>
 DoX Tryd.prog (mBin .add 9 t7 (.string ⟨#[41, 120]⟩)) w (pk K) fun t73 w =>
 CallX Tryd.prog 14 #[t73, (.int .i64 0)] w (pk K) fun t74 w =>
 DoX Tryd.prog (mExt t74 0) w (pk K) fun t75 w =>
 DoX Tryd.prog (mExt t74 1) w (pk K) fun t76 w =>
 DoX Tryd.prog (mAlloc 33) w (pk K) fun t12 w =>
 DoX Tryd.prog (mStore 33 t12 t75) w (pk K) fun _ w =>
 DoX Tryd.prog (mEq .eql 28 (.tmp 77) (.const (.int .i64 0)) t70 (.int .i64 0)) w (pk K) fun t78 w =>
 GDo t78 true (fun E => E t76 w) w fun t80 w =>
 GDo t78 true (fun E => DoX Tryd.prog (mEq .eql 28 (.tmp 80) (.const (.int .i64 0)) t80 (.int .i64 0)) w (pk K) E) w fun t81 w =>
 DoX Tryd.prog (mPick t78 t81 (.bool false)) w (pk K) fun t82 w =>
 GDo t82 true (fun E => DoX Tryd.prog (mFA 33 t10 4) w (pk K) E) w fun t84 w =>
 GDo t82 true (fun E => DoX Tryd.prog (mLoad 9 t84) w (pk K) E) w fun t85 w =>
 GDo t82 true (fun E => E t0 w) w fun t86 w =>
 GDo t82 true (fun E => DoX Tryd.prog (mEq .eql 9 (.tmp 85) (.tmp 86) t85 t86) w (pk K) E) w fun t87 w =>
 DoX Tryd.prog (mPick t82 t87 (.bool false)) w (pk K) fun t88 w =>
 GDo t88 true (fun E => DoX Tryd.prog (mFA 33 t12 4) w (pk K) E) w fun t90 w =>
 GDo t88 true (fun E => DoX Tryd.prog (mLoad 9 t90) w (pk K) E) w fun t91 w =>
 GDo t88 true (fun E => E t0 w) w fun t92 w =>
 GDo t88 true (fun E => DoX Tryd.prog (mEq .eql 9 (.tmp 91) (.tmp 92) t91 t92) w (pk K) E) w fun t93 w =>
 DoX Tryd.prog (mPick t88 t93 (.bool false)) w (pk K) fun t94 w =>
 GDo t94 true (fun E => DoX Tryd.prog (mFA 33 t10 0) w (pk K) E) w fun t96 w =>
 GDo t94 true (fun E => DoX Tryd.prog (mLoad 3 t96) w (pk K) E) w fun t97 w =>
 GDo t94 true (fun E => DoX Tryd.prog (mEq .eql 3 (.tmp 97) (.const (.int .i64 3)) t97 (.int .i64 3)) w (pk K) E) w fun t98 w =>
 DoX Tryd.prog (mPick t94 t98 (.bool false)) w (pk K) fun t99 w =>
 GDo t99 true (fun E => DoX Tryd.prog (mFA 33 t12 0) w (pk K) E) w fun t101 w =>
 GDo t99 true (fun E => DoX Tryd.prog (mLoad 3 t101) w (pk K) E) w fun t102 w =>
 GDo t99 true (fun E => DoX Tryd.prog (mEq .eql 3 (.tmp 102) (.const (.int .i64 3)) t102 (.int .i64 3)) w (pk K) E) w fun t103 w =>
 DoX Tryd.prog (mPick t99 t103 (.bool false)) w (pk K) fun t104 w =>
 GDo t104 true (fun E => DoX Tryd.prog (mFA 33 t10 2) w (pk K) E) w fun t106 w =>
 GDo t104 true (fun E => DoX Tryd.prog (mLoad 3 t106) w (pk K) E) w fun t107 w =>
 GDo t104 true (fun E => E t6 w) w fun t108 w =>
 GDo t104 true (fun E => DoX Tryd.prog (mB .len #[9] 3 #[false] #[t108]) w (pk K) E) w fun t109 w =>
 GDo t104 true (fun E => DoX Tryd.prog (mBin .add 3 t109 (.int .i64 1)) w (pk K) E) w fun t110 w =>
 GDo t104 true (fun E => DoX Tryd.prog (mEq .eql 3 (.tmp 107) (.tmp 110) t107 t110) w (pk K) E) w fun t111 w =>
 DoX Tryd.prog (mPick t104 t111 (.bool false)) w (pk K) fun t112 w =>
 GDo t112 true (fun E => DoX Tryd.prog (mFA 33 t12 2) w (pk K) E) w fun t114 w =>
 GDo t112 true (fun E => DoX Tryd.prog (mLoad 3 t114) w (pk K) E) w fun t115 w =>
 GDo t112 true (fun E => E t7 w) w fun t116 w =>
 GDo t112 true (fun E => DoX Tryd.prog (mB .len #[9] 3 #[false] #[t116]) w (pk K) E) w fun t117 w =>
 GDo t112 true (fun E => DoX Tryd.prog (mBin .add 3 t117 (.int .i64 1)) w (pk K) E) w fun t118 w =>
 GDo t112 true (fun E => DoX Tryd.prog (mEq .eql 3 (.tmp 115) (.tmp 118) t115 t118) w (pk K) E) w fun t119 w =>
 DoX Tryd.prog (mPick t112 t119 (.bool false)) w (pk K) fun t120 w =>
 GDo t120 true (fun E => CallX Tryd.prog 13 #[] w (pk K) E) w fun t122 w =>
 DoX Tryd.prog (mPick t120 t122 (.bool false)) w (pk K) fun t123 w =>
 K (.returned t123) w)
def S_foliantlaw03_LexStrings_1 (t6 t8 : Value) (w : World) (N1 : List Value → World → Prop) (K : Ending → World → Prop) : Prop :=
 DoX Tryd.prog (mBin .add 3 t8 (.int .i64 1)) w (pk K) fun t25 w =>
 N1 [t6, t25] w
def S_foliantlaw03_LexStrings_0 (t0 t1 t5 t6 t7 t8 : Value) (w : World) (N1 : List Value → World → Prop) (K : Ending → World → Prop) : Prop :=
 DoX Tryd.prog (mB .len #[9] 3 #[false] #[t5]) w (pk K) fun t22 w =>
 DoX Tryd.prog (mBin .lss 3 t8 t22) w (pk K) fun t23 w =>
 IfX t23 (JoinX (fun J2 =>
 DoX Tryd.prog (mBin .add 3 t8 (.int .i64 1)) w (pk K) fun t30 w =>
 DoX Tryd.prog (mSlice 9 t5 (some t8) (some t30) none) w (pk K) fun t31 w =>
 DoX Tryd.prog (mBin .add 9 t6 t31) w (pk K) fun t32 w =>
 DoX Tryd.prog (mBin .rem 5 t1 (.int .u8 3)) w (pk K) fun t34 w =>
 DoX Tryd.prog (mEq .eql 5 (.tmp 34) (.const (.int .u8 1)) t34 (.int .u8 1)) w (pk K) fun t35 w =>
 IfX t35 (DoX Tryd.prog (mBin .add 9 t32 (.string ⟨#[32, 13, 10]⟩)) w (pk K) fun t37 w =>
 J2 [t37] w) (J2 [t32] w)) (fun vs2 w => ∀ _ : Sg, S_foliantlaw03_LexStrings_1 (vs2.getD 0 undef) t8 w N1 K)) (LoopX [t7, (.int .i64 0)] w (fun vs3 w N3 => ∀ _ : Sg, S_foliantlaw03_LexStrings_2 t0 t6 (vs3.getD 0 undef) (vs3.getD 1 undef) w N3 K))
def S_foliantlaw03_LexStrings (t0 t1 : Value) (w : World) (K : Ending → World → Prop) : Prop :=
 DoX Tryd.prog (mB .len #[9] 3 #[false] #[t0]) w (pk K) fun t15 w =>
 DoX Tryd.prog (mBin .gtr 3 t15 (.int .i64 500)) w (pk K) fun t16 w =>
 IfX t16 (CallX Tryd.prog 13 #[] w (pk K) fun t17 w =>
 K (.returned t17) w) (CallX Tryd.prog 18 #[t0] w (pk K) fun t19 w =>
 LoopX [(.string ⟨#[60]⟩), (.int .i64 0)] w (fun vs1 w N1 => ∀ _ : Sg, S_foliantlaw03_LexStrings_0 t0 t1 t19 (vs1.getD 0 undef) (.string ⟨#[40]⟩) (vs1.getD 1 undef) w N1 K))
theorem S_foliantlaw03_LexStrings_eq (t0 t1 : Value) (w : World) (K : Ending → World → Prop) : wpX Tryd.prog 124 [(7, [6])] [(6, [6, 8]), (12, [7, 9])] none (bodyOf Tryd.f7) (topQ Tryd.prog [.tmp 4] K) (startX [t0, t1]) [] w = S_foliantlaw03_LexStrings t0 t1 w K := by kernel_rfl
theorem S_foliantlaw03_LexStrings_ok {t0 t1 : Value} {w : World} {K : Ending → World → Prop} (h : S_foliantlaw03_LexStrings t0 t1 w K) : Calls Tryd.prog 7 #[t0, t1] w K :=
  calls_of_wpX Tryd.func7 rfl rfl rfl rfl (Eq.mpr (S_foliantlaw03_LexStrings_eq t0 t1 w K) h)

end Go.Proofs.YtihjejmmldpelaaDoor
/- foliantlaw03.lives, LexNext. -/
namespace Go.Proofs.YtihjejmmldpelaaDoor
set_option linter.unusedVariables false
set_option linter.unusedSimpArgs false
set_option linter.defProp false
open Eng Go.RowKit

section
variable {w : World} {PK : List PanicEntry → World → Prop} {K : Value → World → Prop}
theorem m_tok024 {k t : Int} {s : List UInt8} : DoX Tryd.prog (mBuild 33 #[(0, .int .i64 k), (2, .int .i64 t), (4, .string ⟨s.toArray⟩)]) w PK K = K (tokV ⟨k, 0, t, 0, s⟩) w := do_eq (by kernel_rfl)
theorem m_tok023 {k t n : Int} : DoX Tryd.prog (mBuild 33 #[(0, .int .i64 k), (2, .int .i64 t), (3, .int .i64 n)]) w PK K = K (tokV ⟨k, 0, t, n, []⟩) w := do_eq (by kernel_rfl)
theorem m_tok02 {k t : Int} : DoX Tryd.prog (mBuild 33 #[(0, .int .i64 k), (2, .int .i64 t)]) w PK K = K (tokV ⟨k, 0, t, 0, []⟩) w := do_eq (by kernel_rfl)
/-- A token in a new variable, and the error. -/
theorem tok_new {w0 : World} {L : List Ent} {f : Nat} {args : Array Value} {r x : Lx.Tok × Int} {PK1 PK2 PK3 PK4 PK5 : List PanicEntry → World → Prop} {K : Value → Value → World → Prop} (ho : Own w0 w L) (h : Ret Tryd.prog f args w (fun v w' => v = tokR r ∧ Below w.heap.size w w')) (hx : r = x)
    (k : ∀ b w', Own w0 w' (tokE b x.1 :: L) → K (.int .i64 x.2) (.pointer (some ⟨b, 0, none⟩)) w') :
    CallX Tryd.prog f args w PK1 fun t w => DoX Tryd.prog (mExt t 0) w PK2 fun u w => DoX Tryd.prog (mExt t 1) w PK3 fun e w => DoX Tryd.prog (mAlloc 33) w PK4 fun p w => DoX Tryd.prog (mStore 33 p u) w PK5 fun _ w => K e p w := by
  subst hx
  refine c_below ho h ?_
  rintro _ w' rfl ho
  simp only [tokR, ex]
  refine o_tok ho fun b w1 ho => ?_
  exact o_put 0 ho rfl (new := tokC r.1) szTok (tokC_one _) rfl fun w2 ho => k b w2 ho
end
theorem xlives_ret (w : World) : Ret Tryd.prog 13 #[] w (fun v w' => v = .bool true ∧ Below w.heap.size w w') := by
  refine ret_of fun K hK => S_foliantlaw03_lives_ok ?_
  unfold S_foliantlaw03_lives
  refine c_ret (all_ret [47, 65, 35, 50, 48, 98, 40, 120, 92, 48, 53, 49, 41, 60, 52, 62] w (by decide)) ?_
  rintro _ w1 ⟨v, rfl, ho⟩
  rw [smp_all1] at ho ⊢
  simp only [ex]
  refine o_flt ho fun b2 w2 ho => ?_
  refine flt_put (g := (0, 0)) 0 ho rfl fun w3 ho => ?_
  refine tok_new ho (next_ret [55, 46] 0 w3 (by decide)) smp1 fun b3 w4 ho => ?_
  refine tok_new ho (next_ret [32, 55, 120] 0 w4 (by decide)) smp2 fun b5 w5 ho => ?_
  refine tok_new ho (next_ret [45, 48] 0 w5 (by decide)) smp3 fun b7 w6 ho => ?_
  refine tok_new ho (next_ret [41] 0 w6 (by decide)) smp4 fun b9 w7 ho => ?_
  refine tok_new ho (next_ret [40, 97] 0 w7 (by decide)) smp5 fun b11 w8 ho => ?_
  refine c_ret (all_ret [97, 32, 41] w8 (by decide)) ?_
  rintro _ w9 ⟨v2, rfl, hn⟩
  rw [smp_all2] at hn ⊢
  have ho := ho.join hn
  simp only [ex]
  refine o_flt ho fun b14 w10 ho => ?_
  refine flt_put (g := (2, 3)) 0 ho rfl fun w11 ho => ?_
  have ho : Own w w11 [fltE b14 (2, 3), TRow v2 [], tokE b11 Lx.none_, tokE b9 Lx.none_, tokE b7 ⟨1, 0, 2, 0, []⟩, tokE b5 ⟨5, 1, 3, 0, [55, 120]⟩, tokE b3 ⟨2, 0, 2, 70000, []⟩, fltE b2 (0, 0), TRow v [⟨4, 0, 6, 0, [65, 32, 98]⟩, ⟨3, 6, 13, 0, [120, 41]⟩, ⟨3, 13, 16, 0, [64]⟩]] := ho
  rw [fa_f1, l_cell nErr (ho.cell 7 rfl 1 rfl)]
  obtain ⟨ba, oa, ca, rfl, hca⟩ := sl_open (trow_sl 8 ho rfl) (by decide)
  have ix : ∀ (k : Nat) (hk : k < 3) {PK K}, DoX Tryd.prog (mIA 37 (.slice (some ⟨ba, oa, none⟩) 3 ca) (.int .i64 (k : Int))) w11 PK K = K (.pointer (some ⟨ba, oa + k * 5, none⟩)) w11 := by
    intro k hk PK K
    refine do_eq ?_
    have := @run_ia Tryd.prog w11 37 33 .i64 ba oa 3 ca 5 (k : Int) Tryd.underlying37 (by kernel_rfl) (by omega) (by omega)
    rw [Int.toNat_natCast] at this
    exact this
  have t0 : AtV Tryd.prog w11 33 ⟨ba, oa + 0 * 5, none⟩ (tokV ⟨4, 0, 6, 0, [65, 32, 98]⟩) := tok_at (w := w11) hca (k := 0) (by decide)
  have t1 : AtV Tryd.prog w11 33 ⟨ba, oa + 1 * 5, none⟩ (tokV ⟨3, 6, 13, 0, [120, 41]⟩) := tok_at (w := w11) hca (k := 1) (by decide)
  have t2 : AtV Tryd.prog w11 33 ⟨ba, oa + 2 * 5, none⟩ (tokV ⟨3, 13, 16, 0, [64]⟩) := tok_at (w := w11) hca (k := 2) (by decide)
  have i0 : ∀ {PK K}, DoX Tryd.prog (mIA 37 (.slice (some ⟨ba, oa, none⟩) 3 ca) (.int .i64 0)) w11 PK K = K (.pointer (some ⟨ba, oa + 0 * 5, none⟩)) w11 := ix 0 (by decide)
  have i1 : ∀ {PK K}, DoX Tryd.prog (mIA 37 (.slice (some ⟨ba, oa, none⟩) 3 ca) (.int .i64 1)) w11 PK K = K (.pointer (some ⟨ba, oa + 1 * 5, none⟩)) w11 := ix 1 (by decide)
  have i2 : ∀ {PK K}, DoX Tryd.prog (mIA 37 (.slice (some ⟨ba, oa, none⟩) 3 ca) (.int .i64 2)) w11 PK K = K (.pointer (some ⟨ba, oa + 2 * 5, none⟩)) w11 := ix 2 (by decide)
  have hlen : ∀ {PK K}, DoX Tryd.prog (mB .len #[37] 3 #[false] #[.slice (some ⟨ba, oa, none⟩) 3 ca]) w11 PK K = K (.int .i64 3) w11 := sl_len_any Tryd.underlying37
  simp only [rs, ne_eq, not_true, decide_false, List.length_cons, List.length_nil, Nat.zero_add, Nat.reduceAdd, hlen]
  simp only [i0, l_at t0, m_tok024, n_tok, rs, eq_self, decide_true, Bool.not_true]
  simp only [i1, l_at t1, m_tok4, n_tok, rs, eq_self, decide_true, Bool.not_true]
  simp only [i2, l_at t2, m_tok4, n_tok, rs, eq_self, decide_true, Bool.not_true]
  rw [l_at (ho.agg 6 rfl aggTok)]
  rw [m_tok023]
  refine (e_tok (x := ⟨2, 0, 2, 70000, []⟩)).mpr ?_
  simp only [rs, eq_self, decide_true]
  have q5 : AtV Tryd.prog w11 33 ⟨b5, 0, none⟩ (tokV ⟨5, 1, 3, 0, [55, 120]⟩) := ho.agg 5 rfl aggTok
  have q7 : AtV Tryd.prog w11 33 ⟨b7, 0, none⟩ (tokV ⟨1, 0, 2, 0, []⟩) := ho.agg 4 rfl aggTok
  have q14 : AtV Tryd.prog w11 39 ⟨b14, 0, none⟩ (fltV (2, 3)) := ho.agg 0 rfl aggFlt
  simp only [l_at q5, m_tok4, e_tok, rs, eq_self, decide_true]
  simp only [l_at q7, m_tok02, e_tok, rs, eq_self, decide_true]
  simp only [l_at q14, m_flt2, e_flt, rs, eq_self, decide_true]
  exact hK _ _ ⟨rfl, ho.done⟩
end Go.Proofs.YtihjejmmldpelaaDoor
/- foliantlaw03.LexNext, LexAll. -/
namespace Go.Proofs.YtihjejmmldpelaaDoor
set_option linter.unusedVariables false
set_option linter.unusedSimpArgs false
set_option linter.defProp false
open Eng Go.RowKit

theorem lexNext_ret (s : List UInt8) (i : Int) (w : World) : Ret Tryd.prog 4 #[.string ⟨s.toArray⟩, .int .i64 i] w (fun v w' => v = .bool true ∧ Below w.heap.size w w') := by
  refine ret_of fun K hK => S_foliantlaw03_LexNext_ok ?_
  unfold S_foliantlaw03_LexNext
  simp only [s_len Tryd.underlying9, rs]
  by_cases hl : (3000 : Int) < (s.length : Int)
  · simp only [hl, decide_true, i_t]
    refine c_below (Own.start w) (xlives_ret w) ?_
    rintro _ w1 rfl ho
    exact hK _ _ ⟨rfl, ho.done⟩
  simp only [hl, decide_false, i_f]
  refine tok_new (Own.start w) (next_ret s i w (by omega)) rfl fun b5 w1 ho => ?_
  refine tok_new ho (rnext_ret s i w1 (by omega)) rfl fun b7 w2 ho => ?_
  have q5 : AtV Tryd.prog w2 33 ⟨b5, 0, none⟩ (tokV (Lx.next s i).1) := ho.agg 1 rfl aggTok
  have q7 : AtV Tryd.prog w2 33 ⟨b7, 0, none⟩ (tokV (Lx.next s i).1) := ho.agg 0 rfl aggTok
  simp only [l_at q5, l_at q7, e_tok, rs, eq_self, decide_true]
  refine c_below ho (xlives_ret w2) ?_
  rintro _ w3 rfl ho
  exact hK _ _ ⟨rfl, ho.done⟩
theorem trow_len {w0 w : World} {L : List Ent} {v : Value} {l : List Lx.Tok} (i : Nat) (ho : Own w0 w L) (hi : L[i]? = some (TRow v l)) : Sl w v 5 l.length (l.flatMap tokC) := trow_sl i ho hi
theorem upto_len (s : List UInt8) : ∀ (m : Nat) (a : Int) (l : List Lx.Tok), Lx.upto s m a = .inl l → l.length ≤ m
  | 0, a, l, h => by rw [Lx.upto] at h; cases h; simp
  | m + 1, a, l, h => by
    rw [Lx.upto] at h
    split at h
    · cases h
    · split at h
      · cases h; simp
      · cases hu : Lx.upto s m (Lx.next s a).1.t with
        | inl r => rw [hu] at h; cases h; have := upto_len s m _ r hu; simp; omega
        | inr g => rw [hu] at h; cases h
end Go.Proofs.YtihjejmmldpelaaDoor
/- Plain mathematics of layer 3: a token cut alone is the same token. -/
namespace Go.Proofs.YtihjejmmldpelaaDoor
set_option linter.unusedVariables false
set_option linter.unusedSimpArgs false
set_option linter.defProp false
open Go
namespace Lx
open Oc
theorem head_take {t : List UInt8} {n : Nat} (h : 1 ≤ n) : (t.take n).head? = t.head? := by
  cases t with
  | nil => simp
  | cons c t => obtain ⟨m, rfl⟩ : ∃ m, n = m + 1 := ⟨n - 1, by omega⟩; rfl
theorem take_cons {c : UInt8} {t : List UInt8} {n : Nat} (h : 1 ≤ n) : (c :: t).take n = c :: t.take (n - 1) := by
  obtain ⟨m, rfl⟩ : ∃ m, n = m + 1 := ⟨n - 1, by omega⟩; rfl
theorem lineF_take {c : UInt8} {t : List UInt8} {n : Nat} (he : eol c = true) (h : 1 ≤ n) : lineF (c :: t.take n) = lineF (c :: t) := by
  simp only [lineF, head_take h]
  by_cases h1 : c = 10
  · simp [h1]
  · by_cases h2 : c = 13
    · simp [h2]
    · simp [eol, h1, h2] at he
theorem octF_take : ∀ (m n : Nat) (l : List UInt8) (k : Nat), (octF m n l).2 + 1 ≤ k → octF m n (l.take k) = octF m n l
  | 0, n, l, k, h => by simp [octF]
  | m + 1, n, [], k, h => by simp
  | m + 1, n, c :: t, k, h => by
    have hk : 1 ≤ k := by omega
    rw [take_cons hk]
    simp only [octF] at h ⊢
    by_cases ho : oct c = true
    · rw [if_pos ho] at h ⊢
      rw [if_pos ho]
      simp only at h
      rw [octF_take m _ t (k - 1) (by omega)]
    · rw [if_neg ho, if_neg ho]
theorem escF_take {l : List UInt8} {k : Nat} (h : (escF l).2 + 1 ≤ k) : escF (l.take k) = escF l := by
  cases l with
  | nil => simp
  | cons c t =>
    have hk : 1 ≤ k := by omega
    rw [take_cons hk]
    simp only [escF] at h ⊢
    cases hl : escL c with
    | some b => rfl
    | none =>
      simp only [hl] at h ⊢
      by_cases he : eol c = true
      · rw [if_pos he] at h ⊢
        rw [if_pos he]
        have hp := lineF_pos c t
        simp only at h
        rw [lineF_take he (by omega)]
      · rw [if_neg he] at h ⊢
        rw [if_neg he]
        have h3 : (octF 3 0 (c :: t)).2 + 1 ≤ k := by
          by_cases h0 : 0 < (octF 3 0 (c :: t)).2
          · rw [if_pos h0] at h; exact h
          · omega
        have ht := octF_take 3 0 (c :: t) k h3
        rw [take_cons hk] at ht
        rw [ht]
theorem textG_ge : ∀ (l : List UInt8) (k o : Nat) (r : List UInt8 × Nat), textG k o l = some r → k + 1 ≤ r.2
  | [], k, o, r, h => by cases k <;> (rw [textG] at h; cases h)
  | c :: t, 0, o, r, h => by have := textG_le _ _ _ _ h; omega
  | c :: t, k + 1, o, r, h => by
    rw [textG] at h
    cases hh : textG k o t with
    | none => rw [hh] at h; cases h
    | some q => rw [hh] at h; cases h; have := textG_ge t k o q hh; simp; omega
theorem map_some {α β : Type} {f : α → β} {x : Option α} {r : β} (h : x.map f = some r) : ∃ q, x = some q ∧ r = f q := by
  cases x with
  | none => cases h
  | some q => cases h; exact ⟨q, rfl, rfl⟩
theorem textG_take : ∀ (l : List UInt8) (k o : Nat) (r : List UInt8 × Nat), textG k o l = some r → textG k o (l.take r.2) = some r
  | [], k, o, r, h => by cases k <;> (rw [textG] at h; cases h)
  | c :: t, k + 1, o, r, h => by
    rw [textG] at h
    obtain ⟨q, hq, rfl⟩ := map_some h
    rw [take_cons (by simp), textG]
    simp only [Nat.add_sub_cancel]
    rw [textG_take t k o q hq]; rfl
  | c :: t, 0, o, r, h => by
    have h1 := (textG_le _ _ _ _ h).1
    rw [take_cons h1]
    rw [textG] at h ⊢
    by_cases g1 : eol c = true
    · rw [if_pos g1] at h ⊢
      obtain ⟨q, hq, rfl⟩ := map_some h
      have h2 := textG_ge _ _ _ _ hq
      simp only [Nat.add_sub_cancel]
      rw [lineF_take g1 (by omega), textG_take t _ o q hq]; rfl
    · rw [if_neg g1] at h ⊢
      by_cases g2 : c = 92
      · rw [if_pos g2] at h ⊢
        by_cases g3 : t = []
        · rw [if_pos g3] at h; cases h
        · rw [if_neg g3] at h
          obtain ⟨q, hq, rfl⟩ := map_some h
          have h2 := textG_ge _ _ _ _ hq
          simp only [Nat.add_sub_cancel]
          rw [escF_take (by omega), textG_take t _ o q hq, if_neg]
          · rfl
          · intro e
            have := textG_le _ _ _ _ hq
            cases t with
            | nil => exact g3 rfl
            | cons d t => rw [take_cons (by omega)] at e; cases e
      · rw [if_neg g2] at h ⊢
        by_cases g4 : c = 40
        · rw [if_pos g4] at h ⊢
          obtain ⟨q, hq, rfl⟩ := map_some h
          simp only [Nat.add_sub_cancel]
          rw [textG_take t _ _ q hq]; rfl
        · rw [if_neg g4] at h ⊢
          by_cases g5 : c = 41
          · rw [if_pos g5] at h ⊢
            by_cases g6 : o ≤ 1
            · rw [if_pos g6] at h ⊢
              exact h
            · rw [if_neg g6] at h ⊢
              obtain ⟨q, hq, rfl⟩ := map_some h
              simp only [Nat.add_sub_cancel]
              rw [textG_take t _ _ q hq]; rfl
          · rw [if_neg g5] at h ⊢
            obtain ⟨q, hq, rfl⟩ := map_some h
            simp only [Nat.add_sub_cancel]
            rw [textG_take t _ _ q hq]; rfl
theorem hexF_take : ∀ (l : List UInt8) (h : Int) (r : List UInt8 × Nat), hexF h l = .inl r → hexF h (l.take r.2) = .inl r
  | [], _, r, h => by rw [hexF] at h; cases h
  | c :: t, h, r, he => by
    have h1 := (hexF_le _ _ _ he).1
    rw [take_cons h1]
    rw [hexF] at he ⊢
    have step : ∀ (h' : Int) (f : List UInt8 → List UInt8), (match hexF h' t with | .inl r => (Sum.inl (f r.1, r.2 + 1) : (List UInt8 × Nat) ⊕ Int) | .inr e => .inr e) = .inl r →
        (match hexF h' (t.take (r.2 - 1)) with | .inl r => (Sum.inl (f r.1, r.2 + 1) : (List UInt8 × Nat) ⊕ Int) | .inr e => .inr e) = .inl r := by
      intro h' f hh
      cases hq : hexF h' t with
      | inr e => rw [hq] at hh; cases hh
      | inl q =>
        rw [hq] at hh
        cases hh
        simp only [Nat.add_sub_cancel]
        rw [hexF_take t h' q hq]
    by_cases g1 : c = 62
    · rw [if_pos g1] at he ⊢; exact he
    · rw [if_neg g1] at he ⊢
      by_cases g2 : white c = true
      · rw [if_pos g2] at he ⊢
        exact step h (fun x => x) he
      · rw [if_neg g2] at he ⊢
        by_cases g3 : digit c < 0
        · rw [if_pos g3] at he; cases he
        · rw [if_neg g3] at he ⊢
          by_cases g4 : h < 0
          · rw [if_pos g4] at he ⊢
            exact step (digit c) (fun x => x) he
          · rw [if_neg g4] at he ⊢
            exact step (-1) (fun x => byte h (digit c) :: x) he
theorem runF_take : ∀ l : List UInt8, (l.take (runF l)).all regular = true ∧ runF (l.take (runF l)) = runF l
  | [] => by simp [runF]
  | c :: t => by
    obtain ⟨i1, i2⟩ := runF_take t
    simp only [runF]
    by_cases h : regular c = true
    · rw [if_pos h, take_cons (by omega), Nat.add_sub_cancel_left]
      simp only [runF, i2, List.all_cons, h, i1, Bool.and_self, if_true, and_self]
    · rw [if_neg h]; simp [runF]
theorem wordT_move {t : List UInt8} {a r : Int} (h : (wordT t a r).2 = 0) (b q : Int) : wordT t b q = ({ (wordT t a r).1 with a := b, t := q }, 0) := by
  unfold wordT at h ⊢
  by_cases h1 : intForm t = true
  · simp only [if_pos h1] at h ⊢
    by_cases h2 : (whole t).2 ≠ 0
    · rw [if_pos h2] at h; exact absurd h h2
    · simp only [if_neg h2]
  · simp only [if_neg h1] at h ⊢
    by_cases h2 : t.contains 46 ∧ (Fx.read t).2 = 0
    · simp only [if_pos h2]
    · simp only [if_neg h2] at h ⊢
      by_cases h3 : t.contains 46 ∧ (Fx.read t).2 = 2
      · rw [if_pos h3] at h; cases h
      · simp only [if_neg h3] at h ⊢
        unfold told at h ⊢
        by_cases h4 : (127 : Int) < t.length
        · rw [if_pos h4] at h; cases h
        · simp only [if_neg h4]
theorem cut_length {s : List UInt8} {i j : Nat} (h : j ≤ s.length) : (cut s i j).length = j - i := by
  unfold cut; rw [List.length_take, List.length_drop]; omega
theorem cut_cons {s : List UInt8} {a b : Nat} (ha : a < s.length) (h : a < b) : cut s a b = s[a] :: (s.drop (a + 1)).take (b - (a + 1)) := by
  unfold cut
  rw [drop_cons ha, take_cons (by omega), show b - a - 1 = b - (a + 1) by omega]
theorem cut_full (u : List UInt8) : cut u 0 u.length = u := by simp [cut]
/-- THE LOCALITY: the token at a, cut alone, is the same. -/
theorem token_cut {s : List UInt8} {a : Nat} (ha : a < s.length) (hsk : skipF false (s.drop a) = 0) (h : (token s a).2 = 0) :
    next (cut s a (token s a).1.t.toNat) 0 = ({ (token s a).1 with a := 0, t := (token s a).1.t - a }, 0) := by
  have hbd := token_bd ha hsk h
  have hd := drop_cons ha
  have hT : token s a = if s[a] = 91 ∨ s[a] = 93 ∨ s[a] = 123 ∨ s[a] = 125 then mark s a 1
    else if s[a] = 60 then (if (s.drop (a + 1)).head? = some s[a] then mark s a 2 else hex s a)
    else if s[a] = 62 then (if (s.drop (a + 1)).head? = some s[a] then mark s a 2 else refused 3)
    else if s[a] = 47 then name s a
    else if s[a] = 40 then text s a
    else if s[a] = 41 then refused 3
    else word s a := by rw [token, hd]
  rw [hd] at hsk
  obtain ⟨h37, hw⟩ := stop_head hsk
  obtain ⟨-, hA, hlt, hle⟩ := hbd
  have hc := cut_cons (b := (token s a).1.t.toNat) ha (by omega)
  have hN : ∀ u : List UInt8, u = cut s a (token s a).1.t.toNat → next u 0 = token u 0 := by
    intro u hu
    unfold next
    rw [if_neg (by omega), Int.toNat_zero]
    have : skip u 0 = 0 := by
      unfold skip
      rw [List.drop_zero, hu, hc, skipF, if_neg h37, if_neg (by rw [hw]; decide)]
    rw [this]
  rw [hN _ rfl]
  have hlen := cut_length (s := s) (i := a) (j := (token s a).1.t.toNat) (by omega)
  generalize hU : cut s a (token s a).1.t.toNat = u at *
  have hTu : token u 0 = if s[a] = 91 ∨ s[a] = 93 ∨ s[a] = 123 ∨ s[a] = 125 then mark u 0 1
    else if s[a] = 60 then (if ((s.drop (a + 1)).take ((token s a).1.t.toNat - (a + 1))).head? = some s[a] then mark u 0 2 else hex u 0)
    else if s[a] = 62 then (if ((s.drop (a + 1)).take ((token s a).1.t.toNat - (a + 1))).head? = some s[a] then mark u 0 2 else refused 3)
    else if s[a] = 47 then name u 0
    else if s[a] = 40 then text u 0
    else if s[a] = 41 then refused 3
    else word u 0 := by
      have : u.drop 0 = s[a] :: (s.drop (a + 1)).take ((token s a).1.t.toNat - (a + 1)) := by rw [List.drop_zero]; exact hc
      rw [token, this]
  have hu1 : u.drop 1 = (s.drop (a + 1)).take ((token s a).1.t.toNat - (a + 1)) := by rw [hc]; rfl
  have hmk : ∀ n : Nat, token s a = mark s a n → n = u.length ∧ mark u 0 n = ({ (mark s a n).1 with a := 0, t := (mark s a n).1.t - a }, 0) := by
    intro n hn
    rw [hn] at hlen hU
    have e : (mark s a n).1.t.toNat = a + n := by simp only [mark]; omega
    rw [e] at hlen hU
    have hl : n = u.length := by omega
    refine ⟨hl, ?_⟩
    simp only [mark, Nat.zero_add]
    rw [hU]
    have : cut u 0 n = u := by rw [hl]; exact cut_full u
    rw [this]
    simp only [Prod.mk.injEq, Tok.mk.injEq, and_true, true_and]
    omega
  have two : ∀ n : Nat, token s a = mark s a 2 → (s.drop (a + 1)).head? = some s[a] → ((s.drop (a + 1)).take ((token s a).1.t.toNat - (a + 1))).head? = some s[a] := by
    intro _ hn hh
    rw [hn, head_take, hh]
    simp only [mark]; omega
  rw [hTu]
  by_cases g0 : s[a] = 91 ∨ s[a] = 93 ∨ s[a] = 123 ∨ s[a] = 125
  · rw [if_pos g0]
    rw [if_pos g0] at hT
    rw [(hmk 1 hT).2, hT]
  rw [if_neg g0]
  rw [if_neg g0] at hT
  by_cases g1 : s[a] = 60
  · rw [if_pos g1]
    rw [if_pos g1] at hT
    by_cases g : (s.drop (a + 1)).head? = some s[a]
    · rw [if_pos g] at hT
      rw [if_pos (two 0 hT g), (hmk 2 hT).2, hT]
    · rw [if_neg g] at hT
      have hh := hT ▸ h
      unfold hex at hT hh
      cases hx : hexF (-1) (s.drop (a + 1)) with
      | inr e =>
        exfalso
        rw [hx] at hT
        simp only at hT
        rw [hT] at hlt
        simp only [refused, none_] at hlt
        omega
      | inl r =>
        rw [hx] at hT hh
        simp only at hT hh
        have h1 := hexF_le _ _ _ hx
        have ht := told_ok hh
        rw [ht] at hT
        have e : (token s a).1.t.toNat - (a + 1) = r.2 := by rw [hT]; simp only; omega
        rw [e] at hu1 ⊢
        rw [if_neg (by rw [head_take h1.1]; exact g)]
        unfold hex
        rw [Nat.zero_add, hu1, hexF_take _ _ _ hx]
        simp only
        unfold told at hh ⊢
        split at hh
        · cases hh
        · rename_i hl
          rw [if_neg hl, hT]
          simp only [Prod.mk.injEq, Tok.mk.injEq, and_true, true_and]
          omega
  rw [if_neg g1]
  rw [if_neg g1] at hT
  by_cases g2 : s[a] = 62
  · rw [if_pos g2]
    rw [if_pos g2] at hT
    by_cases g : (s.drop (a + 1)).head? = some s[a]
    · rw [if_pos g] at hT
      rw [if_pos (two 0 hT g), (hmk 2 hT).2, hT]
    · rw [if_neg g] at hT
      rw [hT] at h; cases h
  rw [if_neg g2]
  rw [if_neg g2] at hT
  by_cases g3 : s[a] = 47
  · rw [if_pos g3]
    rw [if_pos g3] at hT
    have hh := hT ▸ h
    unfold name at hT hh
    cases hx : nameF (cut s (a + 1) (run s (a + 1))) with
    | none => rw [hx] at hh; cases hh
    | some x =>
      rw [hx] at hT hh
      simp only at hT hh
      have ht := told_ok hh
      rw [ht] at hT
      have hr : (token s a).1.t.toNat = run s (a + 1) := by rw [hT]; simp only; omega
      have hge : a + 1 ≤ run s (a + 1) := by unfold run; omega
      rw [hr] at hu1 hlen
      have hl := run_le s (show a + 1 ≤ s.length by omega)
      have hru : run u 1 = u.length := by
        unfold run
        rw [hu1, show run s (a + 1) - (a + 1) = runF (s.drop (a + 1)) by unfold run; omega, (runF_take _).2]
        rw [hlen]; unfold run; omega
      have hcu : cut u 1 (run u 1) = cut s (a + 1) (run s (a + 1)) := by
        rw [hru]
        unfold cut
        rw [hu1, List.take_of_length_le]
        rw [List.length_take, List.length_drop]; omega
      unfold name
      rw [Nat.zero_add, hcu, hx, hru]
      simp only
      unfold told at hh ⊢
      split at hh
      · cases hh
      · rename_i hl
        rw [if_neg hl, hT]
        simp only [Prod.mk.injEq, Tok.mk.injEq, and_true, true_and]
        omega
  rw [if_neg g3]
  rw [if_neg g3] at hT
  by_cases g4 : s[a] = 40
  · rw [if_pos g4]
    rw [if_pos g4] at hT
    have hh := hT ▸ h
    unfold text at hT hh
    cases hx : textG 0 1 (s.drop (a + 1)) with
    | none => rw [hx] at hh; cases hh
    | some r =>
      rw [hx] at hT hh
      simp only at hT hh
      have ht := told_ok hh
      rw [ht] at hT
      have e : (token s a).1.t.toNat - (a + 1) = r.2 := by rw [hT]; simp only; omega
      rw [e] at hu1
      unfold text
      rw [Nat.zero_add, hu1, textG_take _ _ _ _ hx]
      simp only
      unfold told at hh ⊢
      split at hh
      · cases hh
      · rename_i hl
        rw [if_neg hl, hT]
        simp only [Prod.mk.injEq, Tok.mk.injEq, and_true, true_and]
        omega
  rw [if_neg g4]
  rw [if_neg g4] at hT
  by_cases g5 : s[a] = 41
  · rw [if_pos g5] at hT
    rw [hT] at h; cases h
  rw [if_neg g5]
  rw [if_neg g5] at hT
  have hh := hT ▸ h
  unfold word at hT hh ⊢
  have hk := wordT_ok hh
  have hr : (token s a).1.t.toNat = run s a := by rw [hT, hk.2.2]; omega
  rw [hr] at hU hlen
  have hl := run_le s (show a ≤ s.length by omega)
  have hru : run u 0 = u.length := by
    have e : run s a - a = runF (s.drop a) := by unfold run; omega
    have hu : u = (s.drop a).take (runF (s.drop a)) := by rw [← hU]; unfold cut; rw [e]
    unfold run
    rw [List.drop_zero, hlen, e, hu, (runF_take _).2, Nat.zero_add]
  rw [hru, cut_full, hT, hU]
  have hge : a ≤ run s a := by unfold run; omega
  have hmv := wordT_move hh 0 (u.length : Int)
  rw [hU] at hmv hk
  refine hmv.trans ?_
  simp only [Prod.mk.injEq, Tok.mk.injEq, and_true, true_and]
  rw [hk.2.2]; omega
/- LISTS OF TOKENS -/
/-- From at_ on the tokens are l, and then nothing is left. -/
def Chain (s : List UInt8) : Int → List Tok → Prop
  | at_, [] => 0 ≤ at_ ∧ at_ ≤ s.length ∧ skip s at_.toNat = s.length
  | at_, x :: l => 0 ≤ at_ ∧ at_ ≤ s.length ∧ next s at_ = (x, 0) ∧ x.k ≠ 0 ∧ Chain s x.t l
theorem next_end {s : List UInt8} {i : Int} (h0 : 0 ≤ i) (h1 : i ≤ s.length) (h : (next s i).2 = 0) (hk : (next s i).1.k = 0) : skip s i.toNat = s.length := by
  unfold next at h hk
  rw [if_neg (by omega)] at h hk
  have hle := skip_le s (k := i.toNat) (by omega)
  rcases Nat.lt_or_ge (skip s i.toNat) s.length with h2 | h2
  · exact absurd hk (token_bd h2 (skip_stop s i.toNat) h).1
  · omega
theorem upto_chain (s : List UInt8) : ∀ (m : Nat) (a : Int) (l : List Tok), 0 ≤ a → a ≤ s.length → upto s m a = .inl l → l.length < m → Chain s a l
  | 0, a, l, _, _, _, h => by omega
  | m + 1, a, l, h0, h1, hu, hl => by
    rw [upto] at hu
    by_cases he : (next s a).2 ≠ 0
    · rw [if_pos he] at hu; cases hu
    · rw [if_neg he] at hu
      have he0 : (next s a).2 = 0 := by omega
      by_cases hk : (next s a).1.k = 0
      · rw [if_pos hk] at hu; cases hu
        exact ⟨h0, h1, next_end h0 h1 he0 hk⟩
      · rw [if_neg hk] at hu
        cases hh : upto s m (next s a).1.t with
        | inr f => rw [hh] at hu; cases hu
        | inl r =>
          rw [hh] at hu; cases hu
          have hbd := next_bd he0 hk
          refine ⟨h0, h1, by rw [← he0], hk, upto_chain s m _ r (by omega) hbd.2.2.2.2 hh (by simpa using hl)⟩
theorem upto_fault (s : List UInt8) : ∀ (m : Nat) (a : Int) (f : Int × Int), 0 ≤ a → a ≤ s.length → upto s m a = .inr f → 0 ≤ f.1 ∧ f.1 < s.length ∧ skipI s f.1 = f.1
  | 0, a, f, _, _, h => by rw [upto] at h; cases h
  | m + 1, a, f, h0, h1, hu => by
    rw [upto] at hu
    by_cases he : (next s a).2 ≠ 0
    · rw [if_pos he] at hu; cases hu
      have e1 : skipI s a = (skip s a.toNat : Nat) := by rw [skipI, if_neg (by omega)]
      have hle := skip_le s (k := a.toNat) (by omega)
      have hlt : skip s a.toNat < s.length := by
        refine Nat.lt_of_le_of_ne hle fun e => he ?_
        unfold next
        rw [if_neg (by omega), e, token, List.drop_eq_nil_of_le (Nat.le_refl _)]
      simp only [e1]
      refine ⟨by omega, by omega, ?_⟩
      rw [skipI, if_neg (by omega), Int.toNat_natCast, skip_skip]
    · rw [if_neg he] at hu
      have he0 : (next s a).2 = 0 := by omega
      by_cases hk : (next s a).1.k = 0
      · rw [if_pos hk] at hu; cases hu
      · rw [if_neg hk] at hu
        cases hh : upto s m (next s a).1.t with
        | inl r => rw [hh] at hu; cases hu
        | inr g =>
          rw [hh] at hu; cases hu
          have hbd := next_bd he0 hk
          exact upto_fault s m _ f (by omega) hbd.2.2.2.2 hh
theorem upto_most (s : List UInt8) : ∀ (m : Nat) (a : Int) (l : List Tok), 0 ≤ a → a ≤ s.length → upto s m a = .inl l → a + l.length ≤ s.length
  | 0, a, l, h0, h1, h => by rw [upto] at h; cases h; simp; omega
  | m + 1, a, l, h0, h1, h => by
    rw [upto] at h
    by_cases he : (next s a).2 ≠ 0
    · rw [if_pos he] at h; cases h
    · rw [if_neg he] at h
      have he0 : (next s a).2 = 0 := by omega
      by_cases hk : (next s a).1.k = 0
      · rw [if_pos hk] at h; cases h; simp; omega
      · rw [if_neg hk] at h
        cases hh : upto s m (next s a).1.t with
        | inr f => rw [hh] at h; cases h
        | inl r =>
          rw [hh] at h; cases h
          have hbd := next_bd he0 hk
          have := upto_most s m _ r (by omega) hbd.2.2.2.2 hh
          have hge := skip_ge s a.toNat
          simp; omega
end Lx
end Go.Proofs.YtihjejmmldpelaaDoor
/- The engine's rules for drawn regions that are quiet: guards, comparisons, choices. -/
namespace Go.Proofs.YtihjejmmldpelaaDoor
set_option linter.unusedVariables false
set_option linter.unusedSimpArgs false
set_option linter.defProp false
set_option linter.unusedSimpArgs false
set_option linter.unusedVariables false
namespace Eng
open Go.RowKit
section
variable {P : Program} {C : World → Prop} {K : Value → Prop}
theorem gq_tt {E : (Value → Prop) → Prop} : GQ (.bool true) true E K = E K := propext ⟨fun x => x.out, fun x => ⟨x⟩⟩
theorem gq_ft {E : (Value → Prop) → Prop} : GQ (.bool false) true E K = K undef := propext ⟨fun x => x.out, fun x => ⟨x⟩⟩
theorem gq_ff {E : (Value → Prop) → Prop} : GQ (.bool false) false E K = E K := propext ⟨fun x => x.out, fun x => ⟨x⟩⟩
theorem gq_tf {E : (Value → Prop) → Prop} : GQ (.bool true) false E K = K undef := propext ⟨fun x => x.out, fun x => ⟨x⟩⟩
theorem gq_un {want : Bool} {E : (Value → Prop) → Prop} : GQ undef want E K = K undef := propext ⟨fun x => x.out, fun x => ⟨x⟩⟩
def gq := And.intro @gq_tt (And.intro @gq_ft (And.intro @gq_ff (And.intro @gq_tf @gq_un)))
theorem q_add {T : TypeId} {k : IntKind} {a b : Int} (h : K (.int k (k.wrap (a + b)))) : QDo P C (mBin .add T (.int k a) (.int k b)) K := q_do _ (fun _ => r_add) h
theorem q_lss {T : TypeId} {k : IntKind} {a b : Int} (h : K (.bool (decide (a < b)))) : QDo P C (mBin .lss T (.int k a) (.int k b)) K := q_do _ (fun _ => mv_run (by simp [binOp, Op.intCmp])) h
theorem q_leq {T : TypeId} {k : IntKind} {a b : Int} (h : K (.bool (decide (a ≤ b)))) : QDo P C (mBin .leq T (.int k a) (.int k b)) K := q_do _ (fun _ => mv_run (by simp [binOp, Op.intCmp])) h
theorem q_gtr {T : TypeId} {k : IntKind} {a b : Int} (h : K (.bool (decide (b < a)))) : QDo P C (mBin .gtr T (.int k a) (.int k b)) K := q_do _ (fun _ => mv_run (by simp [binOp, Op.intCmp])) h
theorem q_geq {T : TypeId} {k : IntKind} {a b : Int} (h : K (.bool (decide (b ≤ a)))) : QDo P C (mBin .geq T (.int k a) (.int k b)) K := q_do _ (fun _ => mv_run (by simp [binOp, Op.intCmp])) h
theorem q_eq {T : TypeId} {xo yo : Operand} {k : IntKind} {a b : Int} (h : K (.bool (decide (a = b)))) : QDo P C (mEq .eql T xo yo (.int k a) (.int k b)) K := q_do _ (fun _ => mv_run (by simp [eqGuard, binOp, Op.intCmp, int_beq])) h
theorem q_ne {T : TypeId} {xo yo : Operand} {k : IntKind} {a b : Int} (h : K (.bool (decide (a ≠ b)))) : QDo P C (mEq .neq T xo yo (.int k a) (.int k b)) K := q_do _ (fun _ => mv_run (by simp [eqGuard, binOp, Op.intCmp, int_bne])) h
theorem q_pick {c : Bool} {a b : Value} (h : K (if c then a else b)) : QDo P C (mPick (.bool c) a b) K := q_do _ (fun _ => by simp [mPick, asBool]) h
theorem q_pt {a b : Value} (h : K a) : QDo P C (mPick (.bool true) a b) K := q_pick h
theorem q_pf {a b : Value} (h : K b) : QDo P C (mPick (.bool false) a b) K := q_pick h
theorem q_slen {T U : TypeId} {cs : Array Bool} {a : List UInt8} (ht : P.underlying T = some .string) (h : K (.int .i64 (a.length : Int))) : QDo P C (mB .len #[T] U cs #[.string ⟨a.toArray⟩]) K := q_do _ (fun _ => run_len ht) h
theorem p_do {m : Sem Next} (v : Value) (h : ∀ w, m.run P w = .ok (.value v) w) (k : K v) : PDo P m K := ⟨v, h, k⟩
theorem run_s_add {w : World} {T : TypeId} {a b : List UInt8} (h : a.length + b.length ≤ 9223372036854775807) : (mBin .add T (.string ⟨a.toArray⟩) (.string ⟨b.toArray⟩)).run P w = .ok (.value (.string ⟨(a ++ b).toArray⟩)) w := by
  refine mv_run ?_
  have e : IntKind.i64.max = 9223372036854775807 := rfl
  have e2 : ¬ (((⟨a.toArray⟩ : ByteArray).size + (⟨b.toArray⟩ : ByteArray).size : Nat) : Int) > IntKind.i64.max := by rw [str_size, str_size, e]; omega
  simp only [binOp, Op.stringOp, if_neg e2, str_append]
  rfl
theorem q_quo {T : TypeId} {k : IntKind} {a b : Int} (hb : b ≠ 0) (h : K (.int k (k.wrap (a.tdiv b)))) : QDo P C (mBin .quo T (.int k a) (.int k b)) K := q_do _ (fun _ => r_quo hb) h
theorem q_rem {T : TypeId} {k : IntKind} {a b : Int} (hb : b ≠ 0) (h : K (.int k (a.tmod b))) : QDo P C (mBin .rem T (.int k a) (.int k b)) K := q_do _ (fun _ => r_rem hb) h
theorem q_ix {T : TypeId} {k : IntKind} {i : Int} {a : List UInt8} {c : UInt8} (ht : P.underlying T = some .string) (h0 : 0 ≤ i) (hc : a[i.toNat]? = some c) (h : K (.int .u8 (c.toNat : Int))) : QDo P C (mIx T (.string ⟨a.toArray⟩) (.int k i)) K := q_do _ (fun _ => run_s_ix ht h0 hc) h
theorem run_sl_len {T U E : TypeId} {w : World} {cb : Array Bool} {v : Value} {sz n : Nat} {cs : List Value} (h : P.underlying T = some (.slice E)) (hs : Sl w v sz n cs) : (mB .len #[T] U cb #[v]).run P w = .ok (.value (.int .i64 (n : Int))) w := by
  obtain ⟨_, a, cap, rfl, _⟩ := hs
  simp [mB, builtin, Builtin.len_, run_underlying h, goInt]
end
end Eng
end Go.Proofs.YtihjejmmldpelaaDoor
/- foliantlaw03.LexAll, LexApart. -/
namespace Go.Proofs.YtihjejmmldpelaaDoor
set_option linter.unusedVariables false
set_option linter.unusedSimpArgs false
set_option linter.defProp false
open Eng Go.RowKit

theorem uptoP_len (s : List UInt8) (i n : Int) : (uptoP s i n).1.length ≤ s.length := by
  unfold uptoP
  split
  · simp
  · rename_i h
    cases hu : Lx.upto s n.toNat i with
    | inl l => have := Lx.upto_most s _ i l (by omega) (by omega) hu; simp only; omega
    | inr f => simp
theorem allP_len (s : List UInt8) : (allP s).1.length ≤ s.length := by
  unfold allP
  cases hu : Lx.upto s 1048577 0 with
  | inl l =>
    have := Lx.upto_most s _ 0 l (by omega) (by omega) hu
    simp only
    split
    · simp
    · simp only; omega
  | inr f => simp
/-- Short strings: the tokens, or the first fault. -/
theorem allP_short (s : List UInt8) (h : s.length ≤ 1048576) : ((allP s).2 = (0, 0) ∧ Lx.Chain s 0 (allP s).1) ∨ ((allP s).1 = [] ∧ (allP s).2.2 ≠ 0 ∧ 0 ≤ (allP s).2.1 ∧ (allP s).2.1 < s.length ∧ Lx.skipI s (allP s).2.1 = (allP s).2.1) := by
  unfold allP
  cases hu : Lx.upto s 1048577 0 with
  | inl l =>
    have := Lx.upto_most s _ 0 l (by omega) (by omega) hu
    simp only
    rw [if_neg (by omega)]
    exact .inl ⟨rfl, Lx.upto_chain s _ 0 l (by omega) (by omega) hu (by omega)⟩
  | inr f =>
    have := Lx.upto_fault s _ 0 f (by omega) (by omega) hu
    exact .inr ⟨rfl, upto_pos s _ _ f hu, this⟩
theorem lexAll_ret (s : List UInt8) (i n : Int) (w : World) : Ret Tryd.prog 8 #[.string ⟨s.toArray⟩, .int .i64 i, .int .i64 n] w (fun v w' => v = .bool true ∧ Below w.heap.size w w') := by
  refine ret_of fun K hK => S_foliantlaw03_LexAll_ok ?_
  unfold S_foliantlaw03_LexAll
  simp only [s_len Tryd.underlying9, rs]
  by_cases hl : (2000 : Int) < (s.length : Int)
  · simp only [hl, decide_true, i_t]
    refine c_below (Own.start w) (xlives_ret w) ?_
    rintro _ w1 rfl ho
    exact hK _ _ ⟨rfl, ho.done⟩
  simp only [hl, decide_false, i_f]
  refine c_ret (all_ret s w (by omega)) ?_
  rintro _ w1 ⟨v1, rfl, ho⟩
  simp only [ex]
  refine o_flt ho fun b8 w2 ho => ?_
  refine flt_put (g := (allP s).2) 0 ho rfl fun w3 ho => ?_
  refine c_ret (rall_ret s w3 (by omega)) ?_
  rintro _ w4 ⟨v2, rfl, hn⟩
  have ho := ho.join hn
  simp only [ex]
  refine o_flt ho fun b10 w5 ho => ?_
  refine flt_put (g := (allP s).2) 0 ho rfl fun w6 ho => ?_
  refine c_ret (upto_ret s i n w6 (by omega)) ?_
  rintro _ w7 ⟨v3, rfl, hn⟩
  have ho := ho.join hn
  simp only [ex]
  refine o_flt ho fun b12 w8 ho => ?_
  refine flt_put (g := (uptoP s i n).2) 0 ho rfl fun w9 ho => ?_
  refine c_ret (rupto_ret s i n w9 (by omega)) ?_
  rintro _ w10 ⟨v4, rfl, hn⟩
  have ho := ho.join hn
  simp only [ex]
  refine o_flt ho fun b14 w11 ho => ?_
  refine flt_put (g := (uptoP s i n).2) 0 ho rfl fun w12 ho => ?_
  have ha := allP_len s
  have hu := uptoP_len s i n
  have ho : Own w w12 [fltE b14 (uptoP s i n).2, TRow v4 (uptoP s i n).1, fltE b12 (uptoP s i n).2, TRow v3 (uptoP s i n).1, fltE b10 (allP s).2, TRow v2 (allP s).1, fltE b8 (allP s).2, TRow v1 (allP s).1] := ho
  refine c_below ho (rsame_ret v1 v2 (allP s).1 (allP s).1 w12 (trow_sl 7 ho rfl) (trow_sl 5 ho rfl) (by omega)) ?_
  rintro _ w13 rfl ho
  have q8 : AtV Tryd.prog w13 39 ⟨b8, 0, none⟩ (fltV (allP s).2) := ho.agg 6 rfl aggFlt
  have q10 : AtV Tryd.prog w13 39 ⟨b10, 0, none⟩ (fltV (allP s).2) := ho.agg 4 rfl aggFlt
  simp only [l_at q8, l_at q10, e_flt, rs, eq_self, decide_true]
  refine c_below ho (rsame_ret v3 v4 (uptoP s i n).1 (uptoP s i n).1 w13 (trow_sl 3 ho rfl) (trow_sl 1 ho rfl) (by omega)) ?_
  rintro _ w14 rfl ho
  have q12 : AtV Tryd.prog w14 39 ⟨b12, 0, none⟩ (fltV (uptoP s i n).2) := ho.agg 2 rfl aggFlt
  have q14 : AtV Tryd.prog w14 39 ⟨b14, 0, none⟩ (fltV (uptoP s i n).2) := ho.agg 0 rfl aggFlt
  simp only [l_at q12, l_at q14, e_flt, rs, eq_self, decide_true]
  refine c_below ho (xlives_ret w14) ?_
  rintro _ w15 rfl ho
  exact hK _ _ ⟨rfl, ho.done⟩
/-- What is left of the tokens, from at_ on. -/
theorem chain_at (s : List UInt8) : ∀ (l : List Lx.Tok) (a : Int) (k : Nat), Lx.Chain s a l → k ≤ l.length → ∃ b : Int, Lx.Chain s b (l.drop k) ∧ (k = 0 → b = a) ∧ (∀ x, 0 < k → l[k - 1]? = some x → b = x.t)
  | l, a, 0, h, _ => ⟨a, by simpa using h, fun _ => rfl, fun _ h => by omega⟩
  | [], a, k + 1, h, hk => by simp at hk
  | x :: l, a, k + 1, h, hk => by
    obtain ⟨h0, h1, hn, hx, hc⟩ := h
    obtain ⟨b, g1, g2, g3⟩ := chain_at s l x.t k hc (by simpa using hk)
    refine ⟨b, by simpa using g1, fun h => by omega, fun y _ hy => ?_⟩
    cases k with
    | zero =>
      simp only [Nat.zero_add, Nat.sub_self, List.getElem?_cons_zero, Option.some.injEq] at hy
      rw [g2 rfl, hy]
    | succ k => exact g3 y (by omega) (by simpa using hy)
theorem lexApart_ret (s : List UInt8) (w : World) : Ret Tryd.prog 5 #[.string ⟨s.toArray⟩] w (fun v w' => v = .bool true ∧ Below w.heap.size w w') := by
  refine ret_of fun K hK => S_foliantlaw03_LexApart_ok ?_
  unfold S_foliantlaw03_LexApart
  simp only [s_len Tryd.underlying9, rs]
  by_cases hl : (1500 : Int) < (s.length : Int)
  · simp only [hl, decide_true, i_t]
    refine c_below (Own.start w) (xlives_ret w) ?_
    rintro _ w1 rfl ho
    exact hK _ _ ⟨rfl, ho.done⟩
  simp only [hl, decide_false, i_f]
  refine c_ret (all_ret s w (by omega)) ?_
  rintro _ w1 ⟨v1, rfl, ho⟩
  simp only [ex]
  refine o_flt ho fun b4 w2 ho => ?_
  refine flt_put (g := (allP s).2) 0 ho rfl fun w3 ho => ?_
  have ho : Own w w3 [fltE b4 (allP s).2, TRow v1 (allP s).1] := ho
  rw [fa_f1, l_cell nErr (ho.cell 0 rfl 1 rfl)]
  simp only [rs]
  have hlen := allP_len s
  rcases allP_short s (by omega) with ⟨hf, hch⟩ | ⟨hnil, hne, hf0, hf1, hsk⟩
  · generalize (allP s).1 = l at *
    rw [hf] at ho ⊢
    simp only [ne_eq, not_true, decide_false, i_f]
    refine loop (fun vs w' => ∃ (i : Nat) (a : Int), vs = [.int .i64 a, .int .i64 i] ∧ i ≤ l.length ∧ Lx.Chain s a (l.drop i) ∧ Own w w' [fltE b4 (0, 0), TRow v1 l]) (fun vs _ => l.length - n1 vs) ⟨0, 0, rfl, by omega, by simpa using hch, ho⟩ ?_
    rintro vs w4 ⟨i, a, rfl, hi, hc, ho⟩ _
    simp only [S_foliantlaw03_LexApart_0, gd, sl_len Tryd.underlying37 (trow_sl 1 ho rfl), rs]
    by_cases hlt : (i : Int) < (l.length : Int)
    · simp only [hlt, decide_true, i_t]
      have hi' : i < l.length := by omega
      have hd : l.drop i = l[i] :: l.drop (i + 1) := List.drop_eq_getElem_cons hi'
      rw [hd] at hc
      obtain ⟨ha0, ha1, hn, hk, hc⟩ := hc
      obtain ⟨ba, oa, ca, rfl, hca⟩ := sl_open (trow_sl 1 ho rfl) (by omega)
      have hx : AtV Tryd.prog w4 33 ⟨ba, oa + i * 5, none⟩ (tokV l[i]) := tok_at hca hi'
      have hix : ∀ {PK K}, DoX Tryd.prog (mIA 37 (.slice (some ⟨ba, oa, none⟩) l.length ca) (.int .i64 (i : Int))) w4 PK K = K (.pointer (some ⟨ba, oa + i * 5, none⟩)) w4 := by
        intro PK K
        refine do_eq ?_
        have := @run_ia Tryd.prog w4 37 33 .i64 ba oa l.length ca 5 (i : Int) Tryd.underlying37 (by kernel_rfl) (by omega) (by omega)
        rw [Int.toNat_natCast] at this
        exact this
      rw [hix, l_at hx]
      have e2 : (Lx.next s a).2 = 0 := by rw [hn]
      have e1 : (Lx.next s a).1 = l[i] := by rw [hn]
      have hbd := Lx.next_bd e2 (by rw [e1]; exact hk)
      rw [e1] at hbd
      have hge := Lx.skip_ge s a.toNat
      have hskI : Lx.skipI s a = l[i].a := by rw [Lx.skipI, if_neg (by omega), hbd.2.2.1]
      have hcut : Lx.next (Lx.cut s l[i].a.toNat l[i].t.toNat) 0 = ({ l[i] with a := 0, t := l[i].t - l[i].a }, 0) := by
        have hsl : Lx.skip s a.toNat < s.length := by omega
        have ht : Lx.next s a = Lx.token s (Lx.skip s a.toNat) := by rw [Lx.next, if_neg (by omega)]
        have := Lx.token_cut hsl (Lx.skip_stop s a.toNat) (by rw [← ht, e2])
        rw [← ht, e1] at this
        rw [hbd.2.2.1] at *
        simpa using this
      generalize l[i] = x at *
      refine o_tok ho fun b7 w5 ho => ?_
      refine o_put 0 ho rfl (new := tokC x) szTok (tokC_one _) rfl fun w6 ho => ?_
      have ho : Own w w6 [tokE b7 x, fltE b4 (0, 0), TRow (.slice (some ⟨ba, oa, none⟩) l.length ca) l] := ho
      have g1 : ¬ x.a < a := by omega
      have g2 : ¬ x.t ≤ x.a := by omega
      have g3 : ¬ (s.length : Int) < x.t := by omega
      have f1 : ∀ wc, Below w6.heap.size w6 wc → (mLoad 3 (.pointer (some ⟨b7, 1, none⟩))).run Tryd.prog wc = .ok (.value (.int .i64 x.a)) wc := fun wc hb => run_load_cell nInt ((ho.grow hb).cell 0 rfl 1 rfl)
      have f2 : ∀ wc, Below w6.heap.size w6 wc → (mLoad 3 (.pointer (some ⟨b7, 2, none⟩))).run Tryd.prog wc = .ok (.value (.int .i64 x.t)) wc := fun wc hb => run_load_cell nInt ((ho.grow hb).cell 0 rfl 2 rfl)
      have f0 : ∀ wc, Below w6.heap.size w6 wc → (mLoad 3 (.pointer (some ⟨b7, 0, none⟩))).run Tryd.prog wc = .ok (.value (.int .i64 x.k)) wc := fun wc hb => run_load_cell nInt ((ho.grow hb).cell 0 rfl 0 rfl)
      have r0 : fOff Tryd.prog 33 0 = some 0 := by kernel_rfl
      have r1 : fOff Tryd.prog 33 1 = some 1 := by kernel_rfl
      have r2 : fOff Tryd.prog 33 2 = some 2 := by kernel_rfl
      refine quiet (q_do _ (fun _ => run_fa r1) ?_)
      refine q_at _ f1 (q_lss ?_)
      simp only [g1, decide_false, gq]
      refine q_do _ (fun _ => run_fa r2) (q_at _ f2 (q_do _ (fun _ => run_fa r1) (q_at _ f1 (q_leq ?_))))
      simp only [g2, decide_false]
      refine q_pf ?_
      simp only [gq]
      refine q_do _ (fun _ => run_fa r2) (q_at _ f2 (q_slen Tryd.underlying9 (q_gtr ?_)))
      simp only [g3, decide_false]
      refine q_pf ?_
      simp only [gq]
      refine q_call (.int .i64 (Lx.skipI s a)) (fun w hb => ret_same (rskip_ret s a w (by omega)) hb) ?_
      refine q_do _ (fun _ => run_fa r1) (q_at _ f1 (q_ne ?_))
      simp only [hskI, ne_eq, not_true, decide_false]
      refine q_pf ?_
      simp only [gq]
      refine q_do _ (fun _ => run_fa r0) (q_at _ f0 (q_eq ?_))
      simp only [hk, decide_false]
      refine q_pf ?_
      intro w7 hb
      have ho := ho.grow hb
      simp only [i_f, fa_t1, fa_t2]
      rw [l_cell nInt (ho.cell 0 rfl 1 rfl), l_cell nInt (ho.cell 0 rfl 2 rfl), s_slice Tryd.underlying9 (by omega) (by omega) (by omega)]
      have hcut' : Lx.next ((s.drop x.a.toNat).take (x.t.toNat - x.a.toNat)) 0 = ({ x with a := 0, t := x.t - x.a }, 0) := hcut
      refine tok_new ho (next_ret _ 0 w7 (by rw [List.length_take, List.length_drop]; omega)) hcut' fun b8 w8 ho => ?_
      have ho : Own w w8 [tokE b8 { x with a := 0, t := x.t - x.a }, tokE b7 x, fltE b4 (0, 0), TRow (.slice (some ⟨ba, oa, none⟩) l.length ca) l] := ho
      simp only [fa_t1, fa_t2]
      rw [l_cell nInt (ho.cell 0 rfl 1 rfl), l_cell nInt (ho.cell 1 rfl 1 rfl)]
      simp only [rs]
      refine o_store 0 ho rfl (by kernel_rfl) rfl (show 1 < 5 by omega) fun w9 ho => ?_
      rw [wrap64_id (by omega) (by omega)] at ho
      rw [l_cell nInt (ho.cell 0 rfl 2 rfl), l_cell nInt (ho.cell 1 rfl 1 rfl)]
      simp only [rs]
      refine o_store 0 ho rfl (by kernel_rfl) rfl (show 2 < 5 by omega) fun w10 ho => ?_
      rw [wrap64_id (by omega) (by omega)] at ho
      have he : tokC { x with a := 0 + x.a, t := x.t - x.a + x.a } = tokC x := by
        obtain ⟨k, a', t, n, z⟩ := x
        simp only [tokC, Int.zero_add, Int.sub_add_cancel]
      have ho : Own w w10 [.cells b8 (tokC { x with a := 0 + x.a, t := x.t - x.a + x.a }) 33, tokE b7 x, fltE b4 (0, 0), TRow (.slice (some ⟨ba, oa, none⟩) l.length ca) l] := ho
      rw [he] at ho
      have ho : Own w w10 [tokE b8 x, tokE b7 x, fltE b4 (0, 0), TRow (.slice (some ⟨ba, oa, none⟩) l.length ca) l] := ho
      have q8 : AtV Tryd.prog w10 33 ⟨b8, 0, none⟩ (tokV x) := ho.agg 0 rfl aggTok
      have q7 : AtV Tryd.prog w10 33 ⟨b7, 0, none⟩ (tokV x) := ho.agg 1 rfl aggTok
      simp only [l_at q8, l_at q7, n_tok, rs, eq_self, ne_eq, not_true, decide_true, decide_false, Bool.not_true, fa_t2]
      rw [l_cell nInt (ho.cell 1 rfl 2 rfl)]
      rw [wrap64_id (by omega) (by omega)]
      exact nextX ⟨i + 1, x.t, rfl, by omega, hc, ho.tail.tail⟩ (by simp [n1, intOf]; omega)
    · simp only [hlt, decide_false, i_f]
      have hd : l.drop i = [] := List.drop_eq_nil_of_le (by omega)
      rw [hd] at hc
      refine c_eq (rskip_ret s a w4 (by omega)) ?_
      have hsk : Lx.skipI s a = s.length := by rw [Lx.skipI, if_neg (by have := hc.1; have := hc.2.1; omega), hc.2.2]
      simp only [hsk, rs, eq_self, decide_true, s_len Tryd.underlying9]
      refine c_below ho (xlives_ret w4) ?_
      rintro _ w5 rfl ho
      exact hK _ _ ⟨rfl, ho.done⟩
  · have hl0 : (allP s).1.length = 0 := by rw [hnil]; rfl
    generalize hF : (allP s).2 = f at *
    simp only [decide_eq_true hne, i_t]
    have f0 : ∀ wc, Below w3.heap.size w3 wc → (mLoad 3 (.pointer (some ⟨b4, 0, none⟩))).run Tryd.prog wc = .ok (.value (.int .i64 f.1)) wc := fun wc hb => run_load_cell nInt ((ho.grow hb).cell 0 rfl 0 rfl)
    have r0 : fOff Tryd.prog 39 0 = some 0 := by kernel_rfl
    refine quiet (q_at (.int .i64 ((allP s).1.length : Nat)) (fun wc hb => run_sl_len Tryd.underlying37 (trow_sl 1 (ho.grow hb) rfl)) (q_eq ?_))
    simp only [hl0, Int.natCast_zero, decide_true, gq]
    refine q_do _ (fun _ => run_fa r0) (q_at _ f0 (q_geq ?_))
    simp only [hf0, decide_true]
    refine q_pt ?_
    simp only [gq]
    refine q_do _ (fun _ => run_fa r0) (q_at _ f0 (q_slen Tryd.underlying9 (q_lss ?_)))
    simp only [hf1, decide_true]
    refine q_pt ?_
    simp only [gq]
    refine q_do _ (fun _ => run_fa r0) (q_at _ f0 ?_)
    refine q_call (.int .i64 (Lx.skipI s f.1)) (fun w hb => ret_same (rskip_ret s f.1 w (by omega)) hb) ?_
    refine q_do _ (fun _ => run_fa r0) (q_at _ f0 (q_eq ?_))
    simp only [hsk, eq_self, decide_true]
    refine q_pt ?_
    simp only [gq]
    refine q_call (.bool true) (fun w hb => ret_grew (xlives_ret w) hb) ?_
    refine q_pt ?_
    intro w4 hb
    exact hK _ _ ⟨rfl, (ho.grow hb).done⟩
end Go.Proofs.YtihjejmmldpelaaDoor
/- Plain mathematics of layer 3: whole numbers from their digits; strings from hexadecimal and octal digits. -/
namespace Go.Proofs.YtihjejmmldpelaaDoor
set_option linter.unusedVariables false
set_option linter.unusedSimpArgs false
set_option linter.defProp false
open Go
namespace Lx
open Oc
theorem all8 {p : UInt8 → Prop} (h : ∀ n : Fin 256, p (UInt8.ofNat n.val)) (c : UInt8) : p c := by
  have := h ⟨c.toNat, c.toNat_lt⟩
  simpa using this
theorem regular_ne (c : UInt8) : regular c = true → white c = false ∧ c ≠ 37 ∧ ¬ (c = 91 ∨ c = 93 ∨ c = 123 ∨ c = 125) ∧ c ≠ 60 ∧ c ≠ 62 ∧ c ≠ 47 ∧ c ≠ 40 ∧ c ≠ 41 := by
  refine all8 (p := fun c => regular c = true → white c = false ∧ c ≠ 37 ∧ ¬ (c = 91 ∨ c = 93 ∨ c = 123 ∨ c = 125) ∧ c ≠ 60 ∧ c ≠ 62 ∧ c ≠ 47 ∧ c ≠ 40 ∧ c ≠ 41) ?_ c
  decide +kernel
theorem dig_reg (c : UInt8) : dig c = true → regular c = true ∧ sgn c = false ∧ c ≠ 45 := by
  refine all8 (p := fun c => dig c = true → regular c = true ∧ sgn c = false ∧ c ≠ 45) ?_ c
  decide +kernel
theorem val_cons (n : Nat) (c : UInt8) (l : List UInt8) : val n (c :: l) = val (10 * n + (c.toNat - 48)) l := by simp only [val, List.foldl_cons]
theorem val_shift (l : List UInt8) : ∀ n : Nat, val n l = n * 10 ^ l.length + val 0 l := by
  induction l with
  | nil => intro n; simp [val]
  | cons c l ih =>
    intro n
    rw [val_cons, val_cons, ih (10 * n + (c.toNat - 48)), ih (10 * 0 + (c.toNat - 48)), List.length_cons, Nat.pow_succ, Nat.add_mul]
    have : 10 * n * 10 ^ l.length = n * (10 ^ l.length * 10) := by rw [Nat.mul_comm (10 ^ l.length) 10, ← Nat.mul_assoc, Nat.mul_comm n 10]
    rw [this, Nat.mul_zero, Nat.zero_add, Nat.add_assoc]
theorem val_front (c : UInt8) (l : List UInt8) : val 0 (c :: l) = (c.toNat - 48) * 10 ^ l.length + val 0 l := by
  rw [val_cons, val_shift]; simp
theorem runF_app : ∀ (t : List UInt8) (c : UInt8) (r : List UInt8), t.all regular = true → regular c = false → runF (t ++ c :: r) = t.length
  | [], c, r, _, h => by simp [runF, h]
  | x :: t, c, r, h, hc => by
    simp only [List.all_cons, Bool.and_eq_true] at h
    rw [List.cons_append, runF, if_pos h.1, runF_app t c r h.2 hc, List.length_cons]; omega
theorem token_word {s : List UInt8} {a : Nat} {c : UInt8} {t : List UInt8} (hd : s.drop a = c :: t) (h : regular c = true) : token s a = word s a := by
  obtain ⟨_, _, h1, h2, h3, h4, h5, h6⟩ := regular_ne c h
  rw [token, hd]
  simp only [if_neg h1, if_neg h2, if_neg h3, if_neg h4, if_neg h5, if_neg h6]
theorem all_reg {ds : List UInt8} (h : ds.all dig = true) : ds.all regular = true := by
  rw [List.all_eq_true] at h ⊢
  exact fun c hc => (dig_reg c (h c hc)).1
theorem unsign_num {sg ds : List UInt8} (hs : sg = [] ∨ sg = [45]) (h : ds.all dig = true) : unsign (sg ++ ds) = ds := by
  rcases hs with rfl | rfl
  · cases ds with
    | nil => rfl
    | cons c t =>
      simp only [List.all_cons, Bool.and_eq_true] at h
      rw [List.nil_append, unsign, (dig_reg c h.1).2.1]; rfl
  · rfl
theorem num_next {sg ds : List UInt8} (hs : sg = [] ∨ sg = [45]) (hd : ds.all dig = true) (hne : ds ≠ []) : next ([10] ++ sg ++ ds ++ [47]) 0 = if 2147483647 < val 0 ds then refused 2 else (⟨1, 1, (1 + sg.length + ds.length : Nat), if sg = [] then (val 0 ds : Int) else -(val 0 ds : Int), []⟩, 0) := by
  have ht : (sg ++ ds).all regular = true := by
    rw [List.all_append, all_reg hd, Bool.and_true]
    rcases hs with rfl | rfl <;> rfl
  have hu := unsign_num hs hd
  have hhead : (sg ++ ds).head? = some 45 ↔ sg = [45] := by
    rcases hs with rfl | rfl
    · cases ds with
      | nil => exact absurd rfl hne
      | cons c t =>
        simp only [List.all_cons, Bool.and_eq_true] at hd
        simp [(dig_reg c hd.1).2.2]
    · simp
  have hlen : (sg ++ ds).length = sg.length + ds.length := List.length_append
  have htn : sg ++ ds ≠ [] := by simp [hne]
  have hS : [10] ++ sg ++ ds ++ [47] = 10 :: ((sg ++ ds) ++ [47]) := by simp
  rw [hS]
  generalize sg ++ ds = t at *
  cases t with
  | nil => exact absurd rfl htn
  | cons c r =>
    have hc : regular c = true := by simp only [List.all_cons, Bool.and_eq_true] at ht; exact ht.1
    obtain ⟨hw, h37, _⟩ := regular_ne c hc
    have hd1 : (10 :: (c :: r ++ [47])).drop 1 = c :: r ++ 47 :: [] := rfl
    have hsk : skip (10 :: (c :: r ++ [47])) 0 = 1 := by
      unfold skip
      rw [List.drop_zero, skipF, if_neg (by decide), if_pos (by decide), List.cons_append, skipF, if_neg h37, if_neg (by rw [hw]; decide)]
    have hrun : run (10 :: (c :: r ++ [47])) 1 = 1 + (c :: r).length := by
      unfold run
      rw [hd1, runF_app _ _ _ ht (by decide)]
    have hcut : cut (10 :: (c :: r ++ [47])) 1 (1 + (c :: r).length) = c :: r := by
      unfold cut
      rw [hd1, Nat.add_sub_cancel_left, List.take_left']
      rfl
    unfold next
    rw [if_neg (by simp only [List.length_cons]; omega), Int.toNat_zero, hsk, token_word hd1 hc, word, hrun, hcut]
    have hI : intForm (c :: r) = true := by
      unfold intForm
      rw [hu, hd]
      cases ds with
      | nil => exact absurd rfl hne
      | cons => rfl
    rw [wordT, if_pos hI]
    unfold whole
    rw [hu]
    by_cases hb : 2147483647 < val 0 ds
    · rw [if_pos hb, if_pos hb, if_pos (by decide)]
    · rw [if_neg hb, if_neg hb, if_neg (by simp)]
      refine Prod.ext (Tok.mk.injEq .. ▸ ⟨rfl, rfl, ?_, ?_, rfl⟩) rfl
      · rw [hlen]; omega
      · simp only
        rcases hs with rfl | rfl
        · rw [if_neg (by rw [hhead]; simp), if_pos rfl]
        · rw [if_pos (by rw [hhead]), if_neg (by simp)]
end Lx
end Go.Proofs.YtihjejmmldpelaaDoor
/- Bounds of integers of a kind. -/
namespace Go.Proofs.YtihjejmmldpelaaDoor
set_option linter.unusedVariables false
set_option linter.unusedSimpArgs false
set_option linter.defProp false
open Eng Go.RowKit
theorem int_bounds_u8 {n : Int} (h : (Lit.int .u8 n).wf = true) : 0 ≤ n ∧ n ≤ 255 := by
  simp only [Lit.wf, Bool.and_eq_true, decide_eq_true_eq] at h
  exact h
theorem int_bounds_u32 {n : Int} (h : (Lit.int .u32 n).wf = true) : 0 ≤ n ∧ n ≤ 4294967295 := by
  simp only [Lit.wf, Bool.and_eq_true, decide_eq_true_eq] at h
  exact h
theorem int_bounds_i32 {n : Int} (h : (Lit.int .i32 n).wf = true) : -2147483648 ≤ n ∧ n ≤ 2147483647 := by
  simp only [Lit.wf, Bool.and_eq_true, decide_eq_true_eq] at h
  exact h
theorem int_bounds_u64 {n : Int} (h : (Lit.int .u64 n).wf = true) : 0 ≤ n ∧ n ≤ 18446744073709551615 := by
  simp only [Lit.wf, Bool.and_eq_true, decide_eq_true_eq] at h
  exact h
end Go.Proofs.YtihjejmmldpelaaDoor
/- foliantlaw03.LexNumbers. -/
namespace Go.Proofs.YtihjejmmldpelaaDoor
set_option linter.unusedVariables false
set_option linter.unusedSimpArgs false
set_option linter.defProp false
open Eng Go.RowKit

def emp1 (v : Value) : Nat := match v with | .string s => if s.size = 0 then 1 else 0 | _ => 0
theorem lexNumbers_ret (n c : Int) (w : World) (h0 : -9223372036854775808 ≤ n) (h0' : n ≤ 9223372036854775807) (h1 : 0 ≤ c) (h1' : c ≤ 255) : Ret Tryd.prog 6 #[.int .i64 n, .int .u8 c] w (fun v w' => v = .bool true ∧ Below w.heap.size w w') := by
  refine ret_of fun K hK => S_foliantlaw03_LexNumbers_ok ?_
  unfold S_foliantlaw03_LexNumbers
  by_cases g1 : n < -8589934588
  · simp only [rs, g1, decide_true, g_un]
    refine c_below (Own.start w) (xlives_ret w) ?_
    rintro _ w1 rfl ho
    exact hK _ _ ⟨rfl, ho.done⟩
  by_cases g2 : 8589934588 < n
  · simp only [rs, g1, g2, decide_true, decide_false]
    refine c_below (Own.start w) (xlives_ret w) ?_
    rintro _ w1 rfl ho
    exact hK _ _ ⟨rfl, ho.done⟩
  simp only [rs, g1, g2, decide_false]
  refine join fun J hJ => ?_
  have main : ∀ (sg : List UInt8) (k0 : Nat), (sg = [] ∨ sg = [45]) → n = (if sg = [] then (k0 : Int) else -(k0 : Int)) → J [.string ⟨sg.toArray⟩, .int .i64 k0] w := by
    intro sg k0 hsg hn
    have hk0 : k0 ≤ 8589934588 := by rcases hsg with rfl | rfl <;> simp at hn <;> omega
    refine hJ _ _ fun _ => ?_
    simp only [S_foliantlaw03_LexNumbers_0, gd]
    refine loop (fun vs w' => ∃ (k : Nat) (ds : List UInt8), vs = [.int .i64 k, .string ⟨ds.toArray⟩] ∧ ds.all Lx.dig = true ∧ k * 10 ^ ds.length + Lx.val 0 ds = k0 ∧ ds.length + k ≤ k0 + 1 ∧ (ds = [] → k = k0) ∧ Own w w' [])
      (fun vs _ => n0 vs + emp1 (vs.getD 1 undef)) ⟨k0, [], rfl, rfl, by simp [Lx.val], by simp, fun _ => rfl, Own.start w⟩ ?_
    rintro vs w1 ⟨k, ds, rfl, hd, hv, hl, he, ho⟩ _
    simp only [S_foliantlaw03_LexNumbers_1, gd, rs]
    have step : (0 < k ∨ ds = []) → DoX Tryd.prog (mBin .rem 2 (.int .i64 (k : Int)) (.int .i64 10)) w1 (pk K) fun t30 x =>
        DoX Tryd.prog (mBin .add 2 (.int .i64 48) t30) x (pk K) fun t31 x =>
        DoX Tryd.prog (mConv 2 5 t31) x (pk K) fun t32 x =>
        DoX Tryd.prog (mBuildS 44 1 #[(0, t32)]) x (pk K) fun t33 x =>
        DoX Tryd.prog (mConv 44 9 t33) x (pk K) fun t34 x =>
        DoX Tryd.prog (mBin .add 9 t34 (.string ⟨ds.toArray⟩)) x (pk K) fun t36 x =>
        DoX Tryd.prog (mBin .quo 2 (.int .i64 (k : Int)) (.int .i64 10)) x (pk K) fun t38 x =>
        NextX (fun vs w' => ∃ (k : Nat) (ds : List UInt8), vs = [.int .i64 k, .string ⟨ds.toArray⟩] ∧ ds.all Lx.dig = true ∧ k * 10 ^ ds.length + Lx.val 0 ds = k0 ∧ ds.length + k ≤ k0 + 1 ∧ (ds = [] → k = k0) ∧ Own w w' [])
          (fun vs _ => n0 vs + emp1 (vs.getD 1 undef)) [.int .i64 k, .string ⟨ds.toArray⟩] w1 [t38, t36] x := by
      intro hor
      have hr : ((k : Int).tmod 10) = ((k % 10 : Nat) : Int) := by rw [Int.tmod_eq_emod_of_nonneg (by omega)]; omega
      have hq : ((k : Int).tdiv 10) = ((k / 10 : Nat) : Int) := by rw [Int.tdiv_eq_ediv_of_nonneg (by omega)]; omega
      rw [b_rem (show (10 : Int) ≠ 0 by omega), hr]
      simp only [rs]
      rw [wrap64_id (by omega) (by omega), c_int (by kernel_rfl) Tryd.underlying5, wrap8_id (by omega) (by omega)]
      refine o_str1 (UInt8.ofNat (48 + k % 10)) (by rw [UInt8.toNat_ofNat']; omega) ho fun w2 ho => ?_
      rw [s_add (by simp; omega), b_quo (show (10 : Int) ≠ 0 by omega), hq, wrap64_id (by omega) (by omega)]
      have hc : (UInt8.ofNat (48 + k % 10)).toNat = 48 + k % 10 := by rw [UInt8.toNat_ofNat']; omega
      refine nextX ⟨k / 10, UInt8.ofNat (48 + k % 10) :: ds, rfl, ?_, ?_, ?_, (fun h => by cases h), ho⟩ ?_
      · rw [List.all_cons, hd, Bool.and_true]
        simp only [Lx.dig, hc, Bool.and_eq_true, decide_eq_true_eq]; omega
      · rw [Lx.val_front, hc, List.length_cons, Nat.pow_succ, ← hv]
        have e1 : k / 10 * (10 ^ ds.length * 10) = (k / 10 * 10) * 10 ^ ds.length := by rw [Nat.mul_comm (10 ^ ds.length) 10, Nat.mul_assoc]
        have e2 : k = k / 10 * 10 + k % 10 := by omega
        rw [e1, Nat.add_sub_cancel_left, ← Nat.add_assoc, ← Nat.add_mul, ← e2]
      · rw [List.length_cons]
        rcases Nat.eq_zero_or_pos k with h | h
        · subst h
          rcases hor with h | h
          · omega
          · subst h; simp
        · omega
      · simp only [n0, gd, intOf, emp1, str_size, List.length_append, List.length_singleton]
        rw [if_neg (by simp)]
        rcases Nat.eq_zero_or_pos k with h | h
        · subst h
          rcases hor with h | h
          · omega
          · subst h; simp
        · split <;> omega
    by_cases hk : (0 : Int) < (k : Int)
    · simp only [hk, decide_true, g_un, rs]
      exact step (.inl (by omega))
    have hk0' : k = 0 := by omega
    by_cases hds : ds = []
    · have hs0 : ∀ {T : TypeId} {xo yo : Operand} {w : World} {PK : List PanicEntry → World → Prop} {K : Value → World → Prop}, DoX Tryd.prog (mEq .eql T xo yo (.string ⟨ds.toArray⟩) (.string ⟨#[]⟩)) w PK K = K (.bool true) w := by
        intro T xo yo w PK K
        have := @e_str Tryd.prog w PK K T xo yo ds []
        rw [decide_eq_true hds] at this
        exact this
      simp only [hk, decide_false, rs, hs0]
      exact step (.inr hds)
    have hs0 : ∀ {T : TypeId} {xo yo : Operand} {w : World} {PK : List PanicEntry → World → Prop} {K : Value → World → Prop}, DoX Tryd.prog (mEq .eql T xo yo (.string ⟨ds.toArray⟩) (.string ⟨#[]⟩)) w PK K = K (.bool false) w := by
      intro T xo yo w PK K
      have := @e_str Tryd.prog w PK K T xo yo ds []
      rw [decide_eq_false hds] at this
      exact this
    simp only [hk, decide_false, rs, hs0]
    clear step hs0
    subst hk0'
    rw [Nat.zero_mul, Nat.zero_add] at hv
    have hcr : c.tmod 200 = ((c.toNat % 200 : Nat) : Int) := by rw [Int.tmod_eq_emod_of_nonneg (by omega)]; omega
    refine loop (fun vs w' => ∃ (i : Nat) (ds : List UInt8), vs = [.string ⟨ds.toArray⟩, .int .i64 i] ∧ i ≤ 200 ∧ ds.all Lx.dig = true ∧ ds ≠ [] ∧ Lx.val 0 ds = k0 ∧ ds.length ≤ k0 + 1 + i ∧ Own w w' [])
      (fun vs _ => 300 - n1 vs) ⟨0, ds, rfl, by omega, hd, hds, hv, by omega, ho⟩ ?_
    clear hd hv hl he ho hds
    rintro vs w2 ⟨i, ds, rfl, hi, hd, hds, hv, hl, ho⟩ _
    simp only [S_foliantlaw03_LexNumbers_2, gd]
    rw [b_rem (show (200 : Int) ≠ 0 by omega), hcr, c_64 (by omega) (by omega)]
    simp only [rs]
    by_cases hlt : (i : Int) < ((c.toNat % 200 : Nat) : Int)
    · simp only [hlt, decide_true, i_t]
      have ha : ∀ {T : TypeId} {w : World} {PK : List PanicEntry → World → Prop} {K : Value → World → Prop}, DoX Tryd.prog (mBin .add T (.string ⟨#[48]⟩) (.string ⟨ds.toArray⟩)) w PK K = K (.string ⟨(48 :: ds).toArray⟩) w := by
        intro T w PK K
        exact s_add (a := [48]) (b := ds) (by simp; omega)
      rw [ha, wrap64_id (by omega) (by omega)]
      refine nextX ⟨i + 1, 48 :: ds, rfl, by omega, ?_, by simp, ?_, by rw [List.length_cons]; omega, ho⟩ (by simp [n1, intOf]; omega)
      · rw [List.all_cons, hd]; rfl
      · rw [Lx.val_front, hv]; simp
    · simp only [hlt, decide_false, i_f]
      have a1 : ∀ {T : TypeId} {w : World} {PK : List PanicEntry → World → Prop} {K : Value → World → Prop}, DoX Tryd.prog (mBin .add T (.string ⟨#[10]⟩) (.string ⟨sg.toArray⟩)) w PK K = K (.string ⟨([10] ++ sg).toArray⟩) w := by
        intro T w PK K
        exact s_add (a := [10]) (b := sg) (by rcases hsg with rfl | rfl <;> simp)
      have hsl : sg.length ≤ 1 := by rcases hsg with rfl | rfl <;> simp
      have a3 : ∀ {T : TypeId} {w : World} {PK : List PanicEntry → World → Prop} {K : Value → World → Prop}, DoX Tryd.prog (mBin .add T (.string ⟨([10] ++ sg ++ ds).toArray⟩) (.string ⟨#[47]⟩)) w PK K = K (.string ⟨([10] ++ sg ++ ds ++ [47]).toArray⟩) w := by
        intro T w PK K
        exact s_add (a := [10] ++ sg ++ ds) (b := [47]) (by simp; omega)
      rw [a1, s_add (by simp; omega), a3]
      have hN := Lx.num_next hsg hd hds
      refine tok_new ho (next_ret _ 0 w2 (by simp; omega)) hN fun b9 w3 ho => ?_
      rw [hv]
      by_cases hbig : 2147483647 < k0
      · rw [hv] at ho
        simp only [if_pos hbig, Lx.refused] at ho ⊢
        have q9 : AtV Tryd.prog w3 33 ⟨b9, 0, none⟩ (tokV Lx.none_) := ho.agg 0 rfl aggTok
        have fin : ∀ {PK}, CallX Tryd.prog 13 #[] w3 PK fun t72 w => K (.returned t72) w := by
          intro PK
          refine c_below ho (xlives_ret w3) ?_
          rintro _ w4 rfl ho
          exact hK _ _ ⟨rfl, ho.done⟩
        have mt : ∀ {w : World} {PK : List PanicEntry → World → Prop} {K : Value → World → Prop}, DoX Tryd.prog (mBuild 33 #[]) w PK K = K (tokV Lx.none_) w := do_eq (by kernel_rfl)
        rcases hsg with rfl | rfl
        · simp only [if_true] at hn
          have h3 : ¬ n < -2147483647 := by omega
          have h4 : 2147483647 < n := by omega
          simp only [h3, h4, decide_false, decide_true, rs, l_at q9, mt, e_tok, eq_self]
          exact fin
        · simp only [List.cons_ne_nil, if_false] at hn
          have h3 : n < -2147483647 := by omega
          simp only [h3, decide_true, rs, g_un, l_at q9, mt, e_tok, eq_self]
          exact fin
      · rw [hv] at ho
        simp only [if_neg hbig] at ho ⊢
        have h3 : ¬ n < -2147483647 := by rcases hsg with rfl | rfl <;> simp at hn <;> omega
        have h4 : ¬ 2147483647 < n := by rcases hsg with rfl | rfl <;> simp at hn <;> omega
        rw [← hn] at ho
        have fa3 : ∀ {w : World} {PK : List PanicEntry → World → Prop} {K : Value → World → Prop}, DoX Tryd.prog (mFA 33 (.pointer (some ⟨b9, 0, none⟩)) 3) w PK K = K (.pointer (some ⟨b9, 3, none⟩)) w := f_addr (show fOff Tryd.prog 33 3 = some 3 by kernel_rfl)
        have fa4 : ∀ {w : World} {PK : List PanicEntry → World → Prop} {K : Value → World → Prop}, DoX Tryd.prog (mFA 33 (.pointer (some ⟨b9, 0, none⟩)) 4) w PK K = K (.pointer (some ⟨b9, 4, none⟩)) w := f_addr (show fOff Tryd.prog 33 4 = some 4 by kernel_rfl)
        have n64 : notAgg Tryd.prog 2 = true := by kernel_rfl
        have e0 : ∀ {T : TypeId} {xo yo : Operand} {w : World} {PK : List PanicEntry → World → Prop} {K : Value → World → Prop}, DoX Tryd.prog (mEq .eql T xo yo (.string ⟨([] : List UInt8).toArray⟩) (.string ⟨#[]⟩)) w PK K = K (.bool true) w := by
          intro T xo yo w PK K
          exact (@e_str Tryd.prog w PK K T xo yo [] []).trans (by simp)
        simp only [h3, h4, decide_false, decide_true, rs, eq_self, fa_t0, fa_t1, fa_t2, fa3, fa4]
        simp only [l_cell nInt (ho.cell 0 rfl 0 rfl), l_cell n64 (ho.cell 0 rfl 3 rfl), l_cell nInt (ho.cell 0 rfl 1 rfl), l_cell nInt (ho.cell 0 rfl 2 rfl), l_cell nStr (ho.cell 0 rfl 4 rfl), rs, eq_self, decide_true, s_len Tryd.underlying9]
        rw [wrap64_id (n := (1 : Int) + (sg.length : Int)) (by omega) (by omega), wrap64_id (by omega) (by omega)]
        have hto : ((1 + sg.length + ds.length : Nat) : Int) = 1 + (sg.length : Int) + (ds.length : Int) := by omega
        have q4 : ∀ {w' : World} {PK : List PanicEntry → World → Prop} {K : Value → World → Prop}, w' = w3 → DoX Tryd.prog (mLoad 9 (.pointer (some ⟨b9, 4, none⟩))) w' PK K = K (.string ⟨([] : List UInt8).toArray⟩) w' := by
          rintro w' PK K rfl
          exact l_cell nStr (ho.cell 0 rfl 4 rfl)
        simp only [hto, decide_true, rs, q4, e0]
        refine c_below ho (xlives_ret w3) ?_
        rintro _ w4 rfl ho
        exact hK _ _ ⟨rfl, ho.done⟩
  by_cases h : n < 0
  · simp only [h, decide_true, rs]
    rw [wrap64_id (by omega) (by omega)]
    have := main [45] n.natAbs (.inr rfl) (by simp; omega)
    rwa [show ((n.natAbs : Nat) : Int) = -n by omega] at this
  · simp only [h, decide_false, rs]
    have := main [] n.natAbs (.inl rfl) (by simp; omega)
    rwa [show ((n.natAbs : Nat) : Int) = n by omega] at this
end Go.Proofs.YtihjejmmldpelaaDoor
/- Plain mathematics of layer 4: encodings are one-to-one; no program in sight. -/
namespace Go.Proofs.YtihjejmmldpelaaDoor
set_option linter.unusedVariables false
set_option linter.unusedSimpArgs false
set_option linter.defProp false
open Go
namespace Pl
open Oc
/-- A code of bytes that tells each byte by its head. -/
def Head (f : UInt8 → List UInt8) : Prop := ∀ c d x y, f c ++ x = f d ++ y → c = d ∧ x = y
theorem flat_inj {f : UInt8 → List UInt8} (h : Head f) (hn : ∀ c, f c ≠ []) : ∀ (l m x y : List UInt8), l.flatMap f ++ x = m.flatMap f ++ y → (∀ c z, x = f c ++ z → False) → (∀ c z, y = f c ++ z → False) → l = m ∧ x = y
  | [], [], x, y, e, _, _ => ⟨rfl, by simpa using e⟩
  | [], d :: m, x, y, e, hx, _ => by
    simp only [List.flatMap_nil, List.nil_append, List.flatMap_cons, List.append_assoc] at e
    exact (hx d _ e).elim
  | c :: l, [], x, y, e, _, hy => by
    simp only [List.flatMap_nil, List.nil_append, List.flatMap_cons, List.append_assoc] at e
    exact (hy c _ e.symm).elim
  | c :: l, d :: m, x, y, e, hx, hy => by
    simp only [List.flatMap_cons, List.append_assoc] at e
    obtain ⟨rfl, e2⟩ := h c d _ _ e
    obtain ⟨rfl, rfl⟩ := flat_inj h hn l m x y e2 hx hy
    exact ⟨rfl, rfl⟩
theorem ofNat_inj {a b : Nat} (ha : a < 256) (hb : b < 256) (h : UInt8.ofNat a = UInt8.ofNat b) : a = b := by
  have := congrArg UInt8.toNat h
  rw [UInt8.toNat_ofNat', UInt8.toNat_ofNat'] at this
  omega
theorem esc_head : Head esc := by
  intro c d x y h
  have hc := c.toNat_lt
  have hd := d.toNat_lt
  have kc : ∀ k : UInt8, (UInt8.ofNat (48 + k.toNat / 64) = 40 ∨ UInt8.ofNat (48 + k.toNat / 64) = 41 ∨ UInt8.ofNat (48 + k.toNat / 64) = 92) → False := by
    intro k hk
    have hkl := k.toNat_lt
    rcases hk with hk | hk | hk
    · have := ofNat_inj (b := 40) (by omega) (by omega) hk; omega
    · have := ofNat_inj (b := 41) (by omega) (by omega) hk; omega
    · have := ofNat_inj (b := 92) (by omega) (by omega) hk; omega
  unfold esc at h
  by_cases c1 : c = 40 ∨ c = 41 ∨ c = 92
  · by_cases d1 : d = 40 ∨ d = 41 ∨ d = 92
    · rw [if_pos c1, if_pos d1] at h
      simp at h
      exact h
    · rw [if_pos c1, if_neg d1] at h
      by_cases d2 : d.toNat < 32 ∨ 126 < d.toNat
      · rw [if_pos d2] at h
        simp only [oct, List.cons_append, List.nil_append, List.cons.injEq, true_and] at h
        exact (kc d (by rw [← h.1]; exact c1)).elim
      · rw [if_neg d2] at h
        simp at h
        exact (d1 (.inr (.inr h.1.symm))).elim
  · by_cases d1 : d = 40 ∨ d = 41 ∨ d = 92
    · rw [if_neg c1, if_pos d1] at h
      by_cases c2 : c.toNat < 32 ∨ 126 < c.toNat
      · rw [if_pos c2] at h
        simp only [oct, List.cons_append, List.nil_append, List.cons.injEq, true_and] at h
        exact (kc c (by rw [h.1]; exact d1)).elim
      · rw [if_neg c2] at h
        simp at h
        exact (c1 (.inr (.inr h.1))).elim
    · rw [if_neg c1, if_neg d1] at h
      by_cases c2 : c.toNat < 32 ∨ 126 < c.toNat
      · by_cases d2 : d.toNat < 32 ∨ 126 < d.toNat
        · rw [if_pos c2, if_pos d2] at h
          simp only [oct, List.cons_append, List.nil_append, List.cons.injEq, true_and] at h
          obtain ⟨h1, h2, h3, h4⟩ := h
          have g1 := ofNat_inj (by omega) (by omega) h1
          have g2 := ofNat_inj (by omega) (by omega) h2
          have g3 := ofNat_inj (by omega) (by omega) h3
          exact ⟨UInt8.toNat_inj.1 (by omega), h4⟩
        · rw [if_pos c2, if_neg d2] at h
          simp [oct] at h
          exact (d1 (.inr (.inr h.1.symm))).elim
      · by_cases d2 : d.toNat < 32 ∨ 126 < d.toNat
        · rw [if_neg c2, if_pos d2] at h
          simp [oct] at h
          exact (c1 (.inr (.inr h.1))).elim
        · rw [if_neg c2, if_neg d2] at h
          simpa using h
theorem hexD_inj : ∀ a b : Fin 16, hexD a.val = hexD b.val → a = b := by decide +kernel
theorem nmc_head : Head nmc := by
  intro c d x y h
  have hc := c.toNat_lt
  have hd := d.toNat_lt
  have ne : ∀ k, nmOk k = true → k ≠ 35 := by intro k hk; simp [nmOk] at hk; exact hk.1.2
  unfold nmc at h
  by_cases c1 : nmOk c = true
  · by_cases d1 : nmOk d = true
    · rw [if_pos c1, if_pos d1] at h; simpa using h
    · rw [if_pos c1, if_neg d1] at h
      simp at h
      exact (ne c c1 h.1).elim
  · by_cases d1 : nmOk d = true
    · rw [if_neg c1, if_pos d1] at h
      simp at h
      exact (ne d d1 h.1.symm).elim
    · rw [if_neg c1, if_neg d1] at h
      simp only [hex, hex1, List.flatMap_cons, List.flatMap_nil, List.append_nil, List.cons_append, List.nil_append, List.cons.injEq, true_and] at h
      obtain ⟨h1, h2, h3⟩ := h
      have g1 := hexD_inj ⟨c.toNat / 16, by omega⟩ ⟨d.toNat / 16, by omega⟩ h1
      have g2 := hexD_inj ⟨c.toNat % 16, by omega⟩ ⟨d.toNat % 16, by omega⟩ h2
      simp only [Fin.mk.injEq] at g1 g2
      exact ⟨UInt8.toNat_inj.1 (by omega), h3⟩
theorem esc_41 (c : UInt8) (z : List UInt8) (h : [41] = esc c ++ z) : False := by
  unfold esc at h
  by_cases c1 : c = 40 ∨ c = 41 ∨ c = 92
  · rw [if_pos c1] at h; simp at h
  · rw [if_neg c1] at h
    by_cases c2 : c.toNat < 32 ∨ 126 < c.toNat
    · rw [if_pos c2] at h; simp [oct] at h
    · rw [if_neg c2] at h
      simp at h
      exact c1 (.inr (.inl h.1.symm))
theorem str_inj {l m : List UInt8} (h : str l = str m) : l = m := by
  unfold str at h
  simp only [List.append_assoc] at h
  have h2 := List.append_cancel_left h
  exact (flat_inj esc_head (fun c => by have := (esc_len c).1; intro e; rw [e] at this; simp at this) l m [41] [41] h2 (fun c z e => esc_41 c z e) (fun c z e => esc_41 c z e)).1
theorem name_inj {l m : List UInt8} (h : name l = name m) : l = m := by
  unfold name at h
  have h2 := List.append_cancel_left h
  have hn : ∀ c, nmc c ≠ [] := fun c => by have := (nmc_len c).1; intro e; rw [e] at this; simp at this
  refine (flat_inj nmc_head hn l m [] [] (by simpa using h2) (fun c z e => ?_) (fun c z e => ?_)).1 <;>
  · have := congrArg List.length e
    have h1 := (nmc_len c).1
    simp at this; omega
/- NUMBERS -/
theorem dec_val : ∀ u : Nat, Fx.val 0 (Lib.decDigits u) = (u : Int) ∧ (Lib.decDigits u).all Fx.isDig = true := by
  intro u
  induction u using Nat.strongRecOn with
  | _ u ih =>
    have dig : ∀ k, k < 10 → Fx.isDig (UInt8.ofNat (48 + k)) = true ∧ ((UInt8.ofNat (48 + k)).toNat : Int) - 48 = (k : Int) := by
      intro k hk
      have e : (UInt8.ofNat (48 + k)).toNat = 48 + k := by rw [UInt8.toNat_ofNat']; omega
      refine ⟨?_, by omega⟩
      unfold Fx.isDig
      rw [e]
      simp only [Bool.and_eq_true, decide_eq_true_eq]
      omega
    rw [Lib.decDigits]
    split
    · rename_i h
      obtain ⟨h1, h2⟩ := dig u h
      refine ⟨?_, by rw [List.all_cons, h1]; rfl⟩
      simp only [Fx.val, List.foldl_cons, List.foldl_nil, h2]
      omega
    · rename_i h
      obtain ⟨i1, i2⟩ := ih (u / 10) (by omega)
      obtain ⟨h1, h2⟩ := dig (u % 10) (by omega)
      refine ⟨?_, by rw [List.all_append, i2, List.all_cons, h1]; rfl⟩
      rw [Fx.val_append, i1]
      simp only [Fx.val, List.foldl_cons, List.foldl_nil, h2]
      omega
theorem itoa_shape (n : Int) : (∃ u : Nat, n = u ∧ Lib.itoa n = Lib.decDigits u) ∨ (∃ u : Nat, n = -(u : Int) ∧ 0 < u ∧ Lib.itoa n = 45 :: Lib.decDigits u) := by
  unfold Lib.itoa
  by_cases h : n < 0
  · rw [if_pos h]; exact .inr ⟨n.natAbs, by omega, by omega, rfl⟩
  · rw [if_neg h]; exact .inl ⟨n.toNat, by omega, rfl⟩
theorem dec_no (u : Nat) (c : UInt8) (hc : Fx.isDig c = false) : c ∉ Lib.decDigits u := fun hm => by
  have := List.all_eq_true.1 (dec_val u).2 c hm
  rw [hc] at this; cases this
theorem dec_inj {u v : Nat} (h : Lib.decDigits u = Lib.decDigits v) : u = v := by
  have h1 := (dec_val u).1
  have h2 := (dec_val v).1
  rw [h] at h1
  omega
theorem itoa_inj {n m : Int} (h : Lib.itoa n = Lib.itoa m) : n = m := by
  rcases itoa_shape n with ⟨u, hu, e1⟩ | ⟨u, hu, _, e1⟩ <;> rcases itoa_shape m with ⟨v, hv, e2⟩ | ⟨v, hv, _, e2⟩ <;> rw [e1, e2] at h
  · have := dec_inj h; omega
  · exact (dec_no u 45 rfl (by rw [h]; simp)).elim
  · exact (dec_no v 45 rfl (by rw [← h]; simp)).elim
  · simp only [List.cons.injEq, true_and] at h
    have := dec_inj h; omega
theorem itoa_no46 (n : Int) : (46 : UInt8) ∉ Lib.itoa n := by
  rcases itoa_shape n with ⟨u, _, e⟩ | ⟨u, _, _, e⟩ <;> rw [e]
  · exact dec_no u 46 rfl
  · simp only [List.mem_cons, not_or]
    exact ⟨by decide, dec_no u 46 rfl⟩
theorem text_has46 {n : Int} (h : Fx.okB n = true) : (46 : UInt8) ∈ Fx.text n := by
  rw [Fx.text, if_pos h]; simp
theorem text_inj {n m : Int} (hn : Fx.okB n = true) (hm : Fx.okB m = true) (h : Fx.text n = Fx.text m) : n = m := by
  have h1 := (Fx.read_text n hn 0 (by omega)).1
  have h2 := (Fx.read_text m hm 0 (by omega)).1
  rw [h, h2] at h1
  injection h1 with h3 _
  exact h3.symm
end Pl
end Go.Proofs.YtihjejmmldpelaaDoor
/- Plain mathematics of layers 3 and 4: every encoding is one token; strings from hexadecimal and octal digits. -/
namespace Go.Proofs.YtihjejmmldpelaaDoor
set_option linter.unusedVariables false
set_option linter.unusedSimpArgs false
set_option linter.defProp false
open Go
namespace Lx
open Oc
theorem word_next {t : List UInt8} (h : t ≠ []) (hr : t.all regular = true) : next t 0 = wordT t 0 t.length := by
  cases t with
  | nil => exact absurd rfl h
  | cons c r =>
    have hc : regular c = true := by simp only [List.all_cons, Bool.and_eq_true] at hr; exact hr.1
    obtain ⟨hw, h37, _⟩ := regular_ne c hc
    have hsk : skip (c :: r) 0 = 0 := by
      unfold skip
      rw [List.drop_zero, skipF, if_neg h37, if_neg (by rw [hw]; decide)]
    have all_run : ∀ l : List UInt8, l.all regular = true → runF l = l.length := by
      intro l
      induction l with
      | nil => intro _; rfl
      | cons d l ih =>
        intro hl
        simp only [List.all_cons, Bool.and_eq_true] at hl
        rw [runF, if_pos hl.1, ih hl.2, List.length_cons]; omega
    have hrun : run (c :: r) 0 = (c :: r).length := by
      unfold run
      rw [List.drop_zero, all_run _ hr, Nat.zero_add]
    unfold next
    rw [if_neg (by omega), Int.toNat_zero, hsk, token_word (List.drop_zero) hc, word, hrun, cut_full]; rfl
theorem val_fx : ∀ (l : List UInt8) (n : Nat), l.all dig = true → ((val n l : Nat) : Int) = Fx.val n l
  | [], n, _ => rfl
  | c :: l, n, h => by
    simp only [List.all_cons, Bool.and_eq_true] at h
    have hc : 48 ≤ c.toNat := by have := h.1; simp only [dig, Bool.and_eq_true, decide_eq_true_eq] at this; omega
    rw [val_cons, Fx.val_cons, val_fx l _ h.2]
    congr 1
    omega
theorem itoa_next {n : Int} (h1 : -2147483647 ≤ n) (h2 : n ≤ 2147483647) : next (Lib.itoa n) 0 = (⟨1, 0, (Lib.itoa n).length, n, []⟩, 0) := by
  have dec : ∀ u : Nat, (Lib.decDigits u).all dig = true ∧ val 0 (Lib.decDigits u) = u ∧ Lib.decDigits u ≠ [] := by
    intro u
    obtain ⟨d1, d2⟩ := Pl.dec_val u
    refine ⟨d2, by have := val_fx (Lib.decDigits u) 0 d2; rw [show ((0 : Nat) : Int) = 0 from rfl, d1] at this; omega, fun e => ?_⟩
    have := Lib.decDigits_length u
    rw [e] at this
    have h1 : 1 ≤ Lib.nDigits u := by unfold Lib.nDigits; split <;> omega
    simp at this; omega
  have go : ∀ (sg : List UInt8) (u : Nat), (sg = [] ∨ sg = [45]) → u ≤ 2147483647 → n = (if sg = [] then (u : Int) else -(u : Int)) → Lib.itoa n = sg ++ Lib.decDigits u → next (Lib.itoa n) 0 = (⟨1, 0, (Lib.itoa n).length, n, []⟩, 0) := by
    intro sg u hs hu hn he
    obtain ⟨d1, d2, d3⟩ := dec u
    have ht : (sg ++ Lib.decDigits u).all regular = true := by
      rw [List.all_append, all_reg d1, Bool.and_true]
      rcases hs with rfl | rfl <;> rfl
    rw [he, word_next (by simp [d3]) ht, wordT]
    have hus := unsign_num hs d1
    have hI : intForm (sg ++ Lib.decDigits u) = true := by
      unfold intForm
      rw [hus, d1]
      cases hd : Lib.decDigits u with
      | nil => exact absurd hd d3
      | cons => rfl
    have hhead : (sg ++ Lib.decDigits u).head? = some 45 ↔ sg = [45] := by
      rcases hs with rfl | rfl
      · cases hd : Lib.decDigits u with
        | nil => exact absurd hd d3
        | cons c t =>
          rw [hd] at d1
          simp only [List.all_cons, Bool.and_eq_true] at d1
          simp [(dig_reg c d1.1).2.2]
      · simp
    have hW : whole (sg ++ Lib.decDigits u) = (n, 0) := by
      unfold whole
      rw [hus, d2, if_neg (by omega)]
      rcases hs with rfl | rfl
      · rw [if_neg (by rw [hhead]; simp), hn, if_pos rfl]
      · rw [if_pos (by rw [hhead]), hn, if_neg (by simp)]
    rw [if_pos hI, hW, if_neg (by simp)]
  rcases Pl.itoa_shape n with ⟨u, hu, e⟩ | ⟨u, hu, hp, e⟩
  · exact go [] u (.inl rfl) (by omega) (by simpa using hu) (by simpa using e)
  · exact go [45] u (.inr rfl) (by omega) (by simpa using hu) (by simpa using e)
theorem dig_all_reg {l : List UInt8} (h : l.all Fx.isDig = true) : l.all regular = true := all_reg h
theorem text_next {n : Int} (h : Fx.okB n = true) : next (Fx.text n) 0 = (⟨2, 0, (Fx.text n).length, n, []⟩, 0) := by
  have h46 := Pl.text_has46 h
  have hr : (Fx.text n).all regular = true := by
    rw [Fx.text, if_pos h, List.all_append, List.all_append, List.all_append, dig_all_reg (Fx.row_all _ _)]
    obtain ⟨j, _, hf⟩ := Fx.fpart_rep n.natAbs
    rw [hf, List.all_append, dig_all_reg (Fx.tr_all (Fx.row_all _ _)), dig_all_reg (Fx.rep_all _)]
    split <;> rfl
  have hread : Fx.read (Fx.text n) = (n, 0) := by
    have := (Fx.read_text n h 0 (by omega)).1
    simpa using this
  have hne : Fx.text n ≠ [] := by intro e; rw [e] at h46; cases h46
  rw [word_next hne hr, wordT]
  have hI : intForm (Fx.text n) = false := by
    unfold intForm
    rw [Bool.and_eq_false_iff]
    right
    have hm : (46 : UInt8) ∈ unsign (Fx.text n) := by
      cases ht : Fx.text n with
      | nil => exact absurd ht hne
      | cons c t =>
        rw [ht] at h46
        rw [unsign]
        split
        · rename_i hs
          rcases List.mem_cons.1 h46 with e | e
          · rw [← e] at hs; cases hs
          · exact e
        · exact h46
    rw [List.all_eq_false]
    exact ⟨46, hm, by decide⟩
  rw [hI, hread]
  simp only [Bool.false_eq_true, if_false]
  rw [if_pos ⟨by simpa using h46, trivial⟩]
/- STRINGS -/
theorem oct_facts (c : UInt8) : oct (UInt8.ofNat (48 + c.toNat / 64)) = true ∧ oct (UInt8.ofNat (48 + c.toNat / 8 % 8)) = true ∧ oct (UInt8.ofNat (48 + c.toNat % 8)) = true ∧ escL (UInt8.ofNat (48 + c.toNat / 64)) = none ∧ eol (UInt8.ofNat (48 + c.toNat / 64)) = false
    ∧ UInt8.ofNat (8 * (8 * (8 * 0 + ((UInt8.ofNat (48 + c.toNat / 64)).toNat - 48)) + ((UInt8.ofNat (48 + c.toNat / 8 % 8)).toNat - 48)) + ((UInt8.ofNat (48 + c.toNat % 8)).toNat - 48)) = c := by
  refine all8 (p := fun c => oct (UInt8.ofNat (48 + c.toNat / 64)) = true ∧ oct (UInt8.ofNat (48 + c.toNat / 8 % 8)) = true ∧ oct (UInt8.ofNat (48 + c.toNat % 8)) = true ∧ escL (UInt8.ofNat (48 + c.toNat / 64)) = none ∧ eol (UInt8.ofNat (48 + c.toNat / 64)) = false
    ∧ UInt8.ofNat (8 * (8 * (8 * 0 + ((UInt8.ofNat (48 + c.toNat / 64)).toNat - 48)) + ((UInt8.ofNat (48 + c.toNat / 8 % 8)).toNat - 48)) + ((UInt8.ofNat (48 + c.toNat % 8)).toNat - 48)) = c) ?_ c
  decide +kernel
theorem escF_oct (c : UInt8) (t : List UInt8) : escF (UInt8.ofNat (48 + c.toNat / 64) :: UInt8.ofNat (48 + c.toNat / 8 % 8) :: UInt8.ofNat (48 + c.toNat % 8) :: t) = ([c], 3) := by
  obtain ⟨h1, h2, h3, h4, h5, h6⟩ := oct_facts c
  generalize UInt8.ofNat (48 + c.toNat / 64) = x at *
  generalize UInt8.ofNat (48 + c.toNat / 8 % 8) = y at *
  generalize UInt8.ofNat (48 + c.toNat % 8) = z at *
  have ho : octF 3 0 (x :: y :: z :: t) = (8 * (8 * (8 * 0 + (x.toNat - 48)) + (y.toNat - 48)) + (z.toNat - 48), 3) := by
    simp only [octF, h1, h2, h3, if_true]
  simp only [escF, h4, h5, ho, Bool.false_eq_true, if_false]
  rw [if_pos (by omega), h6]
/-- A backslash and three octal digits. -/
theorem textG_oct (c : UInt8) (o : Nat) (t : List UInt8) : textG 0 o (Pl.oct c ++ t) = (textG 0 o t).map fun r => (c :: r.1, r.2 + 4) := by
  unfold Pl.oct
  rw [List.cons_append, textG, if_neg (by decide), if_pos rfl, if_neg (by simp)]
  simp only [List.cons_append, List.nil_append]
  rw [escF_oct, textG_skip 3 o _ (by simp), Option.map_map]
  simp only [List.drop_succ_cons, List.drop_zero]
  congr 1
theorem textG_octs (o : Nat) : ∀ (l t : List UInt8), textG 0 o (l.flatMap Pl.oct ++ t) = (textG 0 o t).map fun r => (l ++ r.1, r.2 + 4 * l.length)
  | [], t => by simp
  | c :: l, t => by
    rw [List.flatMap_cons, List.append_assoc, textG_oct, textG_octs o l t, Option.map_map]
    congr 1
theorem textG_esc (c : UInt8) (t : List UInt8) : textG 0 1 (Pl.esc c ++ t) = (textG 0 1 t).map fun r => (c :: r.1, r.2 + (Pl.esc c).length) := by
  unfold Pl.esc
  by_cases h1 : c = 40 ∨ c = 41 ∨ c = 92
  · rw [if_pos h1]
    have hl : escL c = none := by rcases h1 with rfl | rfl | rfl <;> rfl
    have he : eol c = false := by rcases h1 with rfl | rfl | rfl <;> rfl
    have ho : oct c = false := by rcases h1 with rfl | rfl | rfl <;> rfl
    have hE : escF (c :: t) = ([c], 1) := by
      have h0 : octF 3 0 (c :: t) = (0, 0) := by simp only [octF, ho, Bool.false_eq_true, if_false]
      simp only [escF, hl, he, h0, Bool.false_eq_true, if_false]
      rw [if_neg (by omega)]
    rw [List.cons_append, List.cons_append, List.nil_append, textG, if_neg (by decide), if_pos rfl, if_neg (by simp), hE, textG_skip 1 1 _ (by simp), Option.map_map]
    simp only [List.drop_succ_cons, List.drop_zero]
    congr 1
  · rw [if_neg h1]
    by_cases h2 : c.toNat < 32 ∨ 126 < c.toNat
    · rw [if_pos h2, textG_oct]; rfl
    · rw [if_neg h2, List.cons_append, List.nil_append, textG]
      have he : eol c = false := by
        unfold eol
        rw [Bool.or_eq_false_iff]
        refine ⟨decide_eq_false fun e => ?_, decide_eq_false fun e => ?_⟩ <;>
        · rw [e] at h2
          exact h2 (.inl (by decide))
      rw [if_neg (by rw [he]; decide), if_neg (fun e => h1 (.inr (.inr e))), if_neg (fun e => h1 (.inl e)), if_neg (fun e => h1 (.inr (.inl e)))]
      rfl
theorem textG_escs : ∀ (l t : List UInt8), textG 0 1 (l.flatMap Pl.esc ++ t) = (textG 0 1 t).map fun r => (l ++ r.1, r.2 + (l.flatMap Pl.esc).length)
  | [], t => by simp
  | c :: l, t => by
    rw [List.flatMap_cons, List.append_assoc, textG_esc, textG_escs l t, Option.map_map]
    congr 1
    funext r
    simp only [Function.comp, List.cons_append, List.length_append]
    refine Prod.ext rfl ?_
    simp only; omega
theorem textG_close (t : List UInt8) : textG 0 1 (41 :: t) = some ([], 1) := by
  rw [textG, if_neg (by decide), if_neg (by decide), if_neg (by decide), if_pos rfl, if_pos (by omega)]
theorem next_open (c : UInt8) (t : List UInt8) (h : c ≠ 37 ∧ white c = false) : next (c :: t) 0 = token (c :: t) 0 := by
  have hsk : skip (c :: t) 0 = 0 := by
    unfold skip
    rw [List.drop_zero, skipF, if_neg h.1, if_neg (by rw [h.2]; decide)]
  unfold next
  rw [if_neg (by omega), Int.toNat_zero, hsk]
theorem token_text (t : List UInt8) : token (40 :: t) 0 = text (40 :: t) 0 := by
  rw [token, List.drop_zero]
  simp only
  rw [if_neg (by decide), if_neg (by decide), if_neg (by decide), if_neg (by decide), if_pos trivial]
theorem text_of {t x : List UInt8} {n : Nat} (h : textG 0 1 t = some (x, n)) (hx : x.length ≤ 32767) : next (40 :: t) 0 = (⟨3, 0, (1 + n : Nat), 0, x⟩, 0) := by
  rw [next_open 40 t (by decide), token_text, text]
  have : (40 :: t).drop (0 + 1) = t := rfl
  rw [this, h]
  simp only [told]
  rw [if_neg (by omega), Nat.zero_add]; rfl
theorem str_next {l : List UInt8} (h : l.length ≤ 32767) : next (Pl.str l) 0 = (⟨3, 0, (Pl.str l).length, 0, l⟩, 0) := by
  have hs : Pl.str l = 40 :: (l.flatMap Pl.esc ++ 41 :: []) := by simp [Pl.str]
  have := text_of (t := l.flatMap Pl.esc ++ 41 :: []) (x := l) (n := 1 + (l.flatMap Pl.esc).length) (by rw [textG_escs, textG_close]; simp) h
  rw [hs, this]
  simp only [List.length_cons, List.length_append, List.length_nil]
  rw [show 1 + (1 + (l.flatMap Pl.esc).length) = (l.flatMap Pl.esc).length + (0 + 1) + 1 by omega]
/- HEXADECIMAL -/
theorem hex_facts (c : UInt8) : digit (hexD (c.toNat / 16)) = (c.toNat / 16 : Nat) ∧ digit (hexD (c.toNat % 16)) = (c.toNat % 16 : Nat) ∧ byte (c.toNat / 16 : Nat) (c.toNat % 16 : Nat) = c ∧ hexD (c.toNat / 16) ≠ 62 ∧ hexD (c.toNat % 16) ≠ 62 ∧ white (hexD (c.toNat / 16)) = false ∧ white (hexD (c.toNat % 16)) = false
    ∧ regular (hexD (c.toNat / 16)) = true ∧ regular (hexD (c.toNat % 16)) = true ∧ hexD (c.toNat / 16) ≠ 60 := by
  refine all8 (p := fun c => digit (hexD (c.toNat / 16)) = (c.toNat / 16 : Nat) ∧ digit (hexD (c.toNat % 16)) = (c.toNat % 16 : Nat) ∧ byte (c.toNat / 16 : Nat) (c.toNat % 16 : Nat) = c ∧ hexD (c.toNat / 16) ≠ 62 ∧ hexD (c.toNat % 16) ≠ 62 ∧ white (hexD (c.toNat / 16)) = false ∧ white (hexD (c.toNat % 16)) = false
    ∧ regular (hexD (c.toNat / 16)) = true ∧ regular (hexD (c.toNat % 16)) = true ∧ hexD (c.toNat / 16) ≠ 60) ?_ c
  decide +kernel
theorem hexF_white {ws : List UInt8} (h : ws.all white = true) (h62 : (62 : UInt8) ∉ ws) (x : Int) (t : List UInt8) (r : List UInt8 × Nat) (ht : hexF x t = .inl r) : hexF x (ws ++ t) = .inl (r.1, r.2 + ws.length) := by
  induction ws with
  | nil => simpa using ht
  | cons c ws ih =>
    simp only [List.all_cons, Bool.and_eq_true] at h
    simp only [List.mem_cons, not_or] at h62
    rw [List.cons_append, hexF, if_neg (fun e => h62.1 e.symm), if_pos h.1, ih h.2 h62.2]
    simp only [List.length_cons]
    rw [Nat.add_assoc]
def spread (ws : List UInt8) (l : List UInt8) : List UInt8 := l.flatMap fun d => d :: ws
theorem spread_append (ws a b : List UInt8) : spread ws (a ++ b) = spread ws a ++ spread ws b := by simp [spread]
theorem hexF_spread {ws : List UInt8} (h : ws.all white = true) (h62 : (62 : UInt8) ∉ ws) (t : List UInt8) : ∀ l : List UInt8, hexF (-1) (spread ws (Oc.hex l) ++ 62 :: t) = .inl (l, (spread ws (Oc.hex l)).length + 1)
  | [] => by rw [show spread ws (Oc.hex []) ++ 62 :: t = 62 :: t from rfl, hexF, if_pos rfl, if_neg (by omega)]; rfl
  | c :: l => by
    obtain ⟨f1, f2, f3, f4, f5, f6, f7, -⟩ := hex_facts c
    have ih := hexF_spread h h62 t l
    have e : spread ws (Oc.hex (c :: l)) ++ 62 :: t = hexD (c.toNat / 16) :: (ws ++ hexD (c.toNat % 16) :: (ws ++ (spread ws (Oc.hex l) ++ 62 :: t))) := by
      simp [spread, Oc.hex, hex1]
    have el : (spread ws (Oc.hex (c :: l))).length = ws.length + ws.length + 2 + (spread ws (Oc.hex l)).length := by
      simp [spread, Oc.hex, hex1]; omega
    have h2 : hexF (c.toNat / 16 : Nat) (hexD (c.toNat % 16) :: (ws ++ (spread ws (Oc.hex l) ++ 62 :: t))) = .inl (c :: l, (spread ws (Oc.hex l)).length + 1 + ws.length + 1) := by
      rw [hexF, if_neg f5, if_neg (by rw [f7]; decide), f2, if_neg (by omega), if_neg (by omega), hexF_white h h62 _ _ _ ih]
      simp only [f3]
    rw [e, hexF, if_neg f4, if_neg (by rw [f6]; decide), f1, if_neg (by omega), if_pos (by omega), hexF_white h h62 _ _ _ h2, el]
    simp only
    rw [show (spread ws (Oc.hex l)).length + 1 + ws.length + 1 + ws.length + 1 = ws.length + ws.length + 2 + (spread ws (Oc.hex l)).length + 1 by omega]
theorem spread_nil (l : List UInt8) : spread [] l = l := by
  induction l with
  | nil => rfl
  | cons c l ih => rw [spread, List.flatMap_cons] ; rw [spread] at ih; rw [ih]; rfl
theorem hex_of {t x : List UInt8} {n : Nat} (h : hexF (-1) t = .inl (x, n)) (h60 : t.head? ≠ some 60) (hx : x.length ≤ 32767) : next (60 :: t) 0 = (⟨3, 0, (1 + n : Nat), 0, x⟩, 0) := by
  rw [next_open 60 t (by decide), token, List.drop_zero]
  simp only
  rw [if_neg (by decide), if_pos trivial, if_neg h60, Lx.hex]
  have : (60 :: t).drop (0 + 1) = t := rfl
  rw [this, h]
  simp only [told]
  rw [if_neg (by omega), Nat.zero_add]; rfl
theorem spread_head (ws l t : List UInt8) : (spread ws (Oc.hex l) ++ 62 :: t).head? ≠ some 60 := by
  cases l with
  | nil => simp [spread, Oc.hex]
  | cons c l =>
    have := (hex_facts c).2.2.2.2.2.2.2.2.2
    simp [spread, Oc.hex, hex1, this]
theorem hexs_next {ws l : List UInt8} (h : ws.all white = true) (h62 : (62 : UInt8) ∉ ws) (t : List UInt8) (hl : l.length ≤ 32767) : next ([60] ++ spread ws (Oc.hex l) ++ 62 :: t) 0 = (⟨3, 0, (1 + ((spread ws (Oc.hex l)).length + 1) : Nat), 0, l⟩, 0) := by
  have : [60] ++ spread ws (Oc.hex l) ++ 62 :: t = 60 :: (spread ws (Oc.hex l) ++ 62 :: t) := by simp
  rw [this]
  exact hex_of (hexF_spread h h62 t l) (spread_head ws l t) hl
theorem pHex_next {l : List UInt8} (hl : l.length ≤ 32767) : next ([60] ++ Oc.hex l ++ [62]) 0 = (⟨3, 0, ([60] ++ Oc.hex l ++ [62]).length, 0, l⟩, 0) := by
  have := hexs_next (ws := []) (l := l) rfl (by simp) [] hl
  rw [spread_nil] at this
  rw [this]
  simp only [List.length_append, List.length_singleton]
  rw [show 1 + ((Oc.hex l).length + 1) = 1 + (Oc.hex l).length + 1 by omega]
theorem octs_next {l : List UInt8} (t : List UInt8) (hl : l.length ≤ 32767) : next ([40] ++ l.flatMap Pl.oct ++ 41 :: t) 0 = (⟨3, 0, (1 + (1 + 4 * l.length) : Nat), 0, l⟩, 0) := by
  have : [40] ++ l.flatMap Pl.oct ++ 41 :: t = 40 :: (l.flatMap Pl.oct ++ 41 :: t) := by simp
  rw [this]
  exact text_of (by rw [textG_octs, textG_close]; simp) hl
/- NAMES -/
theorem nmOk_reg (c : UInt8) : Pl.nmOk c = true → regular c = true ∧ c ≠ 35 := by
  refine all8 (p := fun c => Pl.nmOk c = true → regular c = true ∧ c ≠ 35) ?_ c
  decide +kernel
theorem nmc_reg (c : UInt8) : (Pl.nmc c).all regular = true := by
  unfold Pl.nmc
  split
  · rename_i h; rw [List.all_cons, (nmOk_reg c h).1]; rfl
  · obtain ⟨-, -, -, -, -, -, -, f8, f9, -⟩ := hex_facts c
    simp only [Oc.hex, hex1, List.flatMap_cons, List.flatMap_nil, List.append_nil, List.cons_append, List.nil_append, List.all_cons, f8, f9, List.all_nil, Bool.and_true]
    decide
theorem nmcs_reg (l : List UInt8) : (l.flatMap Pl.nmc).all regular = true := by
  rw [List.all_flatMap, List.all_eq_true]
  exact fun c _ => nmc_reg c
theorem nameF_nmc : ∀ l : List UInt8, (0 : UInt8) ∉ l → nameF (l.flatMap Pl.nmc) = some l
  | [], _ => rfl
  | c :: l, h => by
    simp only [List.mem_cons, not_or] at h
    have ih := nameF_nmc l h.2
    rw [List.flatMap_cons]
    generalize l.flatMap Pl.nmc = z at *
    unfold Pl.nmc
    by_cases hc : Pl.nmOk c = true
    · rw [if_pos hc, List.cons_append, List.nil_append, nameF_ne (nmOk_reg c hc).2, ih]; rfl
    · rw [if_neg hc]
      obtain ⟨f1, f2, f3, -⟩ := hex_facts c
      have h0 : c.toNat ≠ 0 := fun e => h.1 (UInt8.toNat_inj.1 (by rw [e]; rfl))
      simp only [Oc.hex, hex1, List.flatMap_cons, List.flatMap_nil, List.append_nil, List.cons_append, List.nil_append]
      rw [nameF, if_pos rfl]
      simp only [f1, f2]
      rw [if_neg (by omega), ih, f3]; rfl
theorem name_next {l : List UInt8} (hl : l.length ≤ 127) (h0 : (0 : UInt8) ∉ l) : next (Pl.name l) 0 = (⟨4, 0, (Pl.name l).length, 0, l⟩, 0) := by
  have hs : Pl.name l = 47 :: l.flatMap Pl.nmc := by simp [Pl.name]
  rw [hs, next_open 47 _ (by decide), token, List.drop_zero]
  simp only
  rw [if_neg (by decide), if_neg (by decide), if_neg (by decide), if_pos trivial, Lx.name]
  have hd : (47 :: l.flatMap Pl.nmc).drop (0 + 1) = l.flatMap Pl.nmc := rfl
  have all_run : ∀ l : List UInt8, l.all regular = true → runF l = l.length := by
    intro l
    induction l with
    | nil => intro _; rfl
    | cons d l ih =>
      intro hl
      simp only [List.all_cons, Bool.and_eq_true] at hl
      rw [runF, if_pos hl.1, ih hl.2, List.length_cons]; omega
  have hrun : run (47 :: l.flatMap Pl.nmc) (0 + 1) = (47 :: l.flatMap Pl.nmc).length := by
    unfold run
    rw [hd, all_run _ (nmcs_reg l), List.length_cons]; omega
  have hcut : cut (47 :: l.flatMap Pl.nmc) (0 + 1) (47 :: l.flatMap Pl.nmc).length = l.flatMap Pl.nmc := by
    unfold cut
    rw [hd, List.take_of_length_le]
    rw [List.length_cons]; omega
  rw [hrun, hcut, nameF_nmc l h0]
  simp only [told]
  rw [if_neg (by omega)]; rfl
end Lx
end Go.Proofs.YtihjejmmldpelaaDoor
/- foliantlaw03.LexStrings. -/
namespace Go.Proofs.YtihjejmmldpelaaDoor
set_option linter.unusedVariables false
set_option linter.unusedSimpArgs false
set_option linter.defProp false
open Eng Go.RowKit

theorem m_b3 {a b c : Int} (w : World) (x y z : UInt8) (h1 : (x.toNat : Int) = a) (h2 : (y.toNat : Int) = b) (h3 : (z.toNat : Int) = c) : (mBuildS 44 3 #[(0, .int .u8 a), (1, .int .u8 b), (2, .int .u8 c)]).run Tryd.prog w = .ok (.value (.slice (some ⟨w.heap.size, 0, none⟩) [x, y, z].length [x, y, z].length)) (w.alloc (.cells (bytesV [x, y, z]).toArray 5)) := by
  subst h1; subst h2; subst h3; kernel_rfl
theorem o_str3 {S : Nat → Prop} {w0 w : World} {L : List Ent} {a b c : Int} {PK PK2 : List PanicEntry → World → Prop} {K : Value → World → Prop} (x y z : UInt8) (h1 : (x.toNat : Int) = a) (h2 : (y.toNat : Int) = b) (h3 : (z.toNat : Int) = c) (ho : OwnS S w0 w L)
    (k : ∀ w', OwnS S w0 w' L → K (.string ⟨[x, y, z].toArray⟩) w') :
    DoX Tryd.prog (mBuildS 44 3 #[(0, .int .u8 a), (1, .int .u8 b), (2, .int .u8 c)]) w PK fun t w => DoX Tryd.prog (mConv 44 9 t) w PK2 K := by
  refine o_new (fun b => .slice (some ⟨b, 0, none⟩) [x, y, z].length [x, y, z].length) (bytesV [x, y, z]) 5 (fun w => m_b3 w x y z h1 h2 h3) ho fun b w' ho' => ?_
  rw [c_bytes (l := [x, y, z]) Tryd.underlying44 Tryd.underlying5 Tryd.underlying9 (ho'.sl 0 rfl 1 [x, y, z].length [x, y, z].length rfl)]
  exact k _ ho'.tail
theorem fa_t4 {b : Nat} {w : World} {PK : List PanicEntry → World → Prop} {K : Value → World → Prop} : DoX Tryd.prog (mFA 33 (.pointer (some ⟨b, 0, none⟩)) 4) w PK K = K (.pointer (some ⟨b, 4, none⟩)) w := f_addr (show fOff Tryd.prog 33 4 = some 4 by kernel_rfl)
theorem spread_take (ws H : List UInt8) (i : Nat) (h : i < H.length) : Lx.spread ws (H.take (i + 1)) = Lx.spread ws (H.take i) ++ (H[i] :: ws) := by
  rw [List.take_succ_eq_append_getElem h, Lx.spread_append]; simp [Lx.spread]
theorem spread_len (ws : List UInt8) : ∀ H : List UInt8, (Lx.spread ws H).length = (ws.length + 1) * H.length
  | [] => by simp [Lx.spread]
  | c :: H => by
    have := spread_len ws H
    rw [show Lx.spread ws (c :: H) = (c :: ws) ++ Lx.spread ws H by simp [Lx.spread], List.length_append, this, List.length_cons, List.length_cons, Nat.mul_add]; omega
theorem octs_len : ∀ l : List UInt8, (l.flatMap Pl.oct).length = 4 * l.length
  | [] => rfl
  | c :: l => by rw [List.flatMap_cons, List.length_append, octs_len l, List.length_cons]; simp [Pl.oct]; omega
theorem lexStrings_ret (s : List UInt8) (c : Int) (w : World) (h1 : 0 ≤ c) (h1' : c ≤ 255) : Ret Tryd.prog 7 #[.string ⟨s.toArray⟩, .int .u8 c] w (fun v w' => v = .bool true ∧ Below w.heap.size w w') := by
  refine ret_of fun K hK => S_foliantlaw03_LexStrings_ok ?_
  unfold S_foliantlaw03_LexStrings
  simp only [s_len Tryd.underlying9, rs]
  by_cases hl : (500 : Int) < (s.length : Int)
  · simp only [hl, decide_true, i_t]
    refine c_below (Own.start w) (xlives_ret w) ?_
    rintro _ w1 rfl ho
    exact hK _ _ ⟨rfl, ho.done⟩
  simp only [hl, decide_false, i_f]
  refine c_below (Own.start w) (rhex_ret s w (by omega)) ?_
  rintro _ w1 rfl ho
  obtain ⟨ws, hws, hwl, hw1, hw2⟩ : ∃ ws : List UInt8, ws = (if c.tmod 3 = 1 then [32, 13, 10] else []) ∧ ws.length ≤ 3 ∧ ws.all Oc.white = true ∧ (62 : UInt8) ∉ ws := by
    refine ⟨_, rfl, ?_⟩
    by_cases h : c.tmod 3 = 1
    · rw [if_pos h]; decide
    · rw [if_neg h]; decide
  have hNx := fun t => Lx.hexs_next (l := s) hw1 hw2 t (by omega)
  have hHl : (Oc.hex s).length = 2 * s.length := Oc.hex_length s
  generalize Oc.hex s = H at *
  have sl0 : ∀ l : List UInt8, (Lx.spread ws l).length ≤ 4 * l.length := by
    intro l
    rw [spread_len]
    exact Nat.mul_le_mul_right _ (by omega)
  refine loop (fun vs w' => ∃ i : Nat, vs = [.string ⟨([60] ++ Lx.spread ws (H.take i)).toArray⟩, .int .i64 i] ∧ i ≤ H.length ∧ Own w w' []) (fun vs _ => H.length - n1 vs) ⟨0, rfl, by omega, ho⟩ ?_
  rintro vs w2 ⟨i, rfl, hi, ho⟩ _
  simp only [S_foliantlaw03_LexStrings_0, gd, s_len Tryd.underlying9, rs]
  have hsl := sl0 (H.take i)
  rw [List.length_take] at hsl
  by_cases hlt : (i : Int) < (H.length : Int)
  · have hi' : i < H.length := by omega
    simp only [hlt, decide_true, i_t]
    refine join fun J hJ => ?_
    have go : ∀ x : List UInt8, x = [60] ++ Lx.spread ws (H.take (i + 1)) → J [.string ⟨x.toArray⟩] w2 := by
      rintro x rfl
      refine hJ _ _ fun _ => ?_
      simp only [S_foliantlaw03_LexStrings_1, gd, rs]
      rw [wrap64_id (by omega) (by omega)]
      exact nextX ⟨i + 1, rfl, by omega, ho⟩ (by simp [n1, intOf]; omega)
    rw [wrap64_id (by omega) (by omega), s_cut (i := i) (j := i + 1) rfl (by simp) (by omega) (by omega), cut_one hi', s_add (by simp; omega), b_rem (show (3 : Int) ≠ 0 by omega)]
    simp only [rs]
    by_cases h3 : c.tmod 3 = 1
    · rw [if_pos h3] at hws
      simp only [h3, decide_true, i_t]
      refine do_eq (run_s_add (a := [60] ++ Lx.spread ws (H.take i) ++ [H[i]]) (b := [32, 13, 10]) (by simp; omega)) |>.mpr ?_
      exact go _ (by rw [spread_take ws H i hi', hws]; simp)
    · rw [if_neg h3] at hws
      simp only [h3, decide_false, i_f]
      exact go _ (by rw [spread_take ws H i hi', hws]; simp)
  simp only [hlt, decide_false, i_f]
  have hHi : H.take i = H := List.take_of_length_le (by omega)
  rw [hHi] at hsl ⊢
  clear hHi hlt hi
  refine loop (fun vs w' => ∃ j : Nat, vs = [.string ⟨([40] ++ (s.take j).flatMap Pl.oct).toArray⟩, .int .i64 j] ∧ j ≤ s.length ∧ Own w w' []) (fun vs _ => s.length - n1 vs) ⟨0, rfl, by omega, ho⟩ ?_
  clear ho
  rintro vs w3 ⟨j, rfl, hj, ho⟩ _
  simp only [S_foliantlaw03_LexStrings_2, gd, s_len Tryd.underlying9, rs]
  have hol : ((s.take j).flatMap Pl.oct).length = 4 * j := by rw [octs_len, List.length_take]; omega
  have hol2 : ([40] ++ (s.take j).flatMap Pl.oct).length = 1 + 4 * j := by rw [List.length_append, hol]; rfl
  by_cases hlt : (j : Int) < (s.length : Int)
  · have hj' : j < s.length := by omega
    have h256 := s[j].toNat_lt
    have hc : s[(j : Int).toNat]? = some s[j] := by rw [Int.toNat_natCast]; exact List.getElem?_eq_getElem hj'
    simp only [hlt, decide_true, i_t]
    have d1 : ((s[j].toNat : Int).tdiv 64) = ((s[j].toNat / 64 : Nat) : Int) := by rw [Int.tdiv_eq_ediv_of_nonneg (by omega)]; omega
    have d2 : ((s[j].toNat : Int).tdiv 8) = ((s[j].toNat / 8 : Nat) : Int) := by rw [Int.tdiv_eq_ediv_of_nonneg (by omega)]; omega
    have d3 : (((s[j].toNat / 8 : Nat) : Int).tmod 8) = ((s[j].toNat / 8 % 8 : Nat) : Int) := by rw [Int.tmod_eq_emod_of_nonneg (by omega)]; omega
    have d4 : ((s[j].toNat : Int).tmod 8) = ((s[j].toNat % 8 : Nat) : Int) := by rw [Int.tmod_eq_emod_of_nonneg (by omega)]; omega
    refine quiet (p_do _ (fun _ => run_s_add (b := [92]) (by rw [hol2, List.length_singleton]; omega)) ?_)
    refine q_ix Tryd.underlying9 (by omega) hc (q_quo (by omega) ?_)
    rw [d1, wrap8_id (by omega) (by omega)]
    refine q_add ?_
    rw [wrap8_id (by omega) (by omega)]
    refine q_ix Tryd.underlying9 (by omega) hc (q_quo (by omega) ?_)
    rw [d2, wrap8_id (by omega) (by omega)]
    refine q_rem (by omega) ?_
    rw [d3]
    refine q_add ?_
    rw [wrap8_id (by omega) (by omega)]
    refine q_ix Tryd.underlying9 (by omega) hc (q_rem (by omega) ?_)
    rw [d4]
    refine q_add ?_
    rw [wrap8_id (by omega) (by omega)]
    intro w4 hb
    refine o_str3 (UInt8.ofNat (48 + s[j].toNat / 64)) (UInt8.ofNat (48 + s[j].toNat / 8 % 8)) (UInt8.ofNat (48 + s[j].toNat % 8)) (by rw [UInt8.toNat_ofNat']; omega) (by rw [UInt8.toNat_ofNat']; omega) (by rw [UInt8.toNat_ofNat']; omega) (ho.grow hb) fun w5 ho => ?_
    rw [s_add (by rw [List.length_append, hol2]; simp only [List.length_cons, List.length_nil]; omega)]
    rw [wrap64_id (by omega) (by omega)]
    refine nextX ⟨j + 1, ?_, by omega, ho⟩ (by simp [n1, intOf]; omega)
    have e : (s.take (j + 1)).flatMap Pl.oct = (s.take j).flatMap Pl.oct ++ Pl.oct s[j] := by
      rw [List.take_succ_eq_append_getElem hj', List.flatMap_append]
      simp only [List.flatMap_cons, List.flatMap_nil, List.append_nil]
    rw [e]
    simp only [Pl.oct, List.append_assoc, List.cons_append, List.nil_append]
    rfl
  simp only [hlt, decide_false, i_f]
  have hsj : s.take j = s := List.take_of_length_le (by omega)
  rw [hsj] at hol hol2 ⊢
  have hjl : j = s.length := by omega
  subst hjl
  have hO := Lx.octs_next (l := s) [120] (by omega)
  have hN := hNx [120]
  refine do_eq (run_s_add (a := [60] ++ Lx.spread ws H) (b := [62, 120]) (by simp; omega)) |>.mpr ?_
  refine tok_new ho (next_ret _ 0 w3 (by simp; omega)) hN fun b10 w4 ho => ?_
  refine do_eq (run_s_add (a := [40] ++ s.flatMap Pl.oct) (b := [41, 120]) (by rw [hol2]; simp only [List.length_cons, List.length_nil]; omega)) |>.mpr ?_
  refine tok_new ho (next_ret _ 0 w4 (by rw [List.length_append, hol2]; simp only [List.length_cons, List.length_nil]; omega)) hO fun b12 w5 ho => ?_
  have A0 : ∀ {PK : List PanicEntry → World → Prop} {K : Value → World → Prop}, DoX Tryd.prog (mLoad 3 (.pointer (some ⟨b10, 0, none⟩))) w5 PK K = K (.int .i64 3) w5 := l_cell nInt (ho.cell 1 rfl 0 rfl)
  have A2 : ∀ {PK : List PanicEntry → World → Prop} {K : Value → World → Prop}, DoX Tryd.prog (mLoad 3 (.pointer (some ⟨b10, 2, none⟩))) w5 PK K = K (.int .i64 ((1 + ((Lx.spread ws H).length + 1) : Nat) : Int)) w5 := l_cell nInt (ho.cell 1 rfl 2 rfl)
  have A4 : ∀ {PK : List PanicEntry → World → Prop} {K : Value → World → Prop}, DoX Tryd.prog (mLoad 9 (.pointer (some ⟨b10, 4, none⟩))) w5 PK K = K (.string ⟨s.toArray⟩) w5 := l_cell nStr (ho.cell 1 rfl 4 rfl)
  have B0 : ∀ {PK : List PanicEntry → World → Prop} {K : Value → World → Prop}, DoX Tryd.prog (mLoad 3 (.pointer (some ⟨b12, 0, none⟩))) w5 PK K = K (.int .i64 3) w5 := l_cell nInt (ho.cell 0 rfl 0 rfl)
  have B2 : ∀ {PK : List PanicEntry → World → Prop} {K : Value → World → Prop}, DoX Tryd.prog (mLoad 3 (.pointer (some ⟨b12, 2, none⟩))) w5 PK K = K (.int .i64 ((1 + (1 + 4 * s.length) : Nat) : Int)) w5 := l_cell nInt (ho.cell 0 rfl 2 rfl)
  have B4 : ∀ {PK : List PanicEntry → World → Prop} {K : Value → World → Prop}, DoX Tryd.prog (mLoad 9 (.pointer (some ⟨b12, 4, none⟩))) w5 PK K = K (.string ⟨s.toArray⟩) w5 := l_cell nStr (ho.cell 0 rfl 4 rfl)
  have e1 : IntKind.wrap .i64 ((([60] ++ Lx.spread ws H).length : Int) + 1) = ((1 + ((Lx.spread ws H).length + 1) : Nat) : Int) := by
    rw [wrap64_id (by simp only [List.length_append, List.length_singleton]; omega) (by simp only [List.length_append, List.length_singleton]; omega)]
    simp only [List.length_append, List.length_singleton]; omega
  have e2 : IntKind.wrap .i64 ((([40] ++ s.flatMap Pl.oct).length : Int) + 1) = ((1 + (1 + 4 * s.length) : Nat) : Int) := by
    rw [wrap64_id (by simp only [List.length_append, List.length_singleton, hol]; omega) (by simp only [List.length_append, List.length_singleton, hol]; omega)]
    simp only [List.length_append, List.length_singleton, hol]; omega
  simp only [rs, eq_self, decide_true, fa_t0, fa_t2, fa_t4, A4, B4]
  simp only [A0, B0, A2, B2, rs, eq_self, decide_true, s_len Tryd.underlying9, e1, e2]
  refine c_below ho (xlives_ret w5) ?_
  rintro _ w6 rfl ho
  exact hK _ _ ⟨rfl, ho.done⟩
end Go.Proofs.YtihjejmmldpelaaDoor
