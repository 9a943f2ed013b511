/- Texts that go together: Plain03C Plain03D Plain03E Plain04B Plain03F Plain03G Plain17 Plain17B Plain55 SOct LxA SLex LxB LxC LxD LxE LxF LxG LxH LxI SRef03 LxR SHead SRef17 HdA LxS LxT LxU LxV LxW LxX LxY LxZ LxAA LxAB LxAC SLaw04 PlT LxAD SLaw03 LxAE HdB HdC SLaw17 HdD SRef55 ScA ObJ SWrite ObK ObL ObM ObN ObO SLaw07 ObP ObQ ObR STexts OcTx SSame SApart Plain07B Plain07C ObS0 ObT. -/
import Derived.Lib.IndexMore
import Derived.Lib.LastIndexLaws
import Derived.Test.YtiklhhdohckfiaaDoorRows
import Derived.Lib.SmallJoins
import Derived.Test.YtiklhhdohckfiaaDoorMcbeblmkc
import Derived.Test.YtiklhhdohckfiaaDoorMkeoiojcg
/- Plain mathematics of layer 3: where tokens end; lists of tokens. -/
namespace Go.Proofs.YtiklhhdohckfiaaDoor
set_option linter.unusedVariables false
set_option linter.unusedSimpArgs false
set_option linter.defProp false
open Go
namespace Lx
open Oc
theorem hexF_le : ∀ (l : List UInt8) (h : Int) (r : List UInt8 × Nat), hexF h l = .inl r → 1 ≤ r.2 ∧ r.2 ≤ l.length
  | [], _, r, h => by rw [hexF] at h; cases h
  | c :: t, h, r, he => by
    rw [hexF] at he
    have step : ∀ h', (∀ r, hexF h' t = .inl r → 1 ≤ r.2 ∧ r.2 ≤ t.length) := fun h' r hr => hexF_le t h' r hr
    split at he
    · cases he; simp
    · split at he
      · cases hh : hexF h t with
        | inr e => rw [hh] at he; cases he
        | inl q => rw [hh] at he; cases he; have := step _ q hh; simp; omega
      · split at he
        · cases he
        · split at he
          · cases hh : hexF (digit c) t with
            | inr e => rw [hh] at he; cases he
            | inl q => rw [hh] at he; cases he; have := step _ q hh; simp; omega
          · cases hh : hexF (-1) t with
            | inr e => rw [hh] at he; cases he
            | inl q => rw [hh] at he; cases he; have := step _ q hh; simp; omega
theorem textG_le : ∀ (l : List UInt8) (k o : Nat) (r : List UInt8 × Nat), textG k o l = some r → 1 ≤ r.2 ∧ r.2 ≤ l.length
  | [], k, o, r, h => by
    cases k <;> (rw [textG] at h; cases h)
  | c :: t, k + 1, o, r, h => by
    rw [textG] at h
    cases hh : textG k o t with
    | none => rw [hh] at h; cases h
    | some q => rw [hh] at h; cases h; have := textG_le t k o q hh; simp; omega
  | c :: t, 0, o, r, h => by
    rw [textG] at h
    have step : ∀ (k o : Nat) (f : List UInt8 → List UInt8), (textG k o t).map (fun r => (f r.1, r.2 + 1)) = some r → 1 ≤ r.2 ∧ r.2 ≤ (c :: t).length := by
      intro k o f h
      cases hh : textG k o t with
      | none => rw [hh] at h; cases h
      | some q => rw [hh] at h; cases h; have := textG_le t k o q hh; simp; omega
    split at h
    · exact step _ _ _ h
    · split at h
      · split at h
        · cases h
        · exact step _ _ _ h
      · split at h
        · exact step _ _ (fun x => c :: x) h
        · split at h
          · split at h
            · cases h; simp
            · exact step _ _ (fun x => c :: x) h
          · exact step _ _ (fun x => c :: x) h
theorem told_ok {k a t : Int} {x : List UInt8} {m : Int} (h : (told k a t x m).2 = 0) : told k a t x m = (⟨k, a, t, 0, x⟩, 0) := by
  unfold told at h ⊢
  split
  · rename_i hh; rw [if_pos hh] at h; cases h
  · rfl
theorem skipF_stop : ∀ (b : Bool) (l : List UInt8), skipF false (l.drop (skipF b l)) = 0
  | _, [] => by simp [skipF]
  | true, c :: t => by
    simp only [skipF]
    rw [Nat.add_comm, List.drop_succ_cons]
    exact skipF_stop _ t
  | false, c :: t => by
    simp only [skipF]
    split
    · rw [Nat.add_comm, List.drop_succ_cons]; exact skipF_stop _ t
    · split
      · rw [Nat.add_comm, List.drop_succ_cons]; exact skipF_stop _ t
      · rename_i h1 h2
        rw [List.drop_zero, skipF, if_neg h1, if_neg h2]
theorem skip_stop (s : List UInt8) (k : Nat) : skipF false (s.drop (skip s k)) = 0 := by
  have := skipF_stop false (s.drop k)
  rw [List.drop_drop] at this
  exact this
theorem stop_head {c : UInt8} {t : List UInt8} (h : skipF false (c :: t) = 0) : c ≠ 37 ∧ white c = false := by
  rw [skipF] at h
  split at h
  · omega
  · rename_i h1
    split at h
    · omega
    · rename_i h2
      exact ⟨h1, by simpa using h2⟩
theorem regular_of (c : UInt8) (hw : white c = false) (h1 : ¬ (c = 91 ∨ c = 93 ∨ c = 123 ∨ c = 125)) (h2 : c ≠ 60) (h3 : c ≠ 62) (h4 : c ≠ 47) (h5 : c ≠ 40) (h6 : c ≠ 41) (h7 : c ≠ 37) : regular c = true := by
  have g1 : ¬ c = 91 := fun e => h1 (.inl e)
  have g2 : ¬ c = 93 := fun e => h1 (.inr (.inl e))
  have g3 : ¬ c = 123 := fun e => h1 (.inr (.inr (.inl e)))
  have g4 : ¬ c = 125 := fun e => h1 (.inr (.inr (.inr e)))
  simp [regular, hw, delim, delims, g1, g2, g3, g4, h2, h3, h4, h5, h6, h7]
theorem wordT_ok {t : List UInt8} {a r : Int} (h : (wordT t a r).2 = 0) : (wordT t a r).1.k ≠ 0 ∧ (wordT t a r).1.a = a ∧ (wordT t a r).1.t = r := by
  unfold wordT at h ⊢
  split at h
  · rename_i h1
    rw [if_pos h1]
    split at h
    · rename_i h2; exact absurd h h2
    · rename_i h2; rw [if_neg h2]; exact ⟨by simp, rfl, rfl⟩
  · rename_i h1
    rw [if_neg h1]
    split at h
    · rename_i h2; rw [if_pos h2]; exact ⟨by simp, rfl, rfl⟩
    · rename_i h2
      rw [if_neg h2]
      split at h
      · cases h
      · rename_i h3
        rw [if_neg h3, told_ok h]
        exact ⟨by simp, rfl, rfl⟩
/-- Where a token stands. -/
theorem token_bd {s : List UInt8} {a : Nat} (ha : a < s.length) (hsk : skipF false (s.drop a) = 0) (h : (token s a).2 = 0) : (token s a).1.k ≠ 0 ∧ (token s a).1.a = a ∧ (a : Int) < (token s a).1.t ∧ (token s a).1.t ≤ s.length := by
  have hd := drop_cons ha
  have hT : token s a = if s[a] = 91 ∨ s[a] = 93 ∨ s[a] = 123 ∨ s[a] = 125 then mark s a 1
    else if s[a] = 60 then (if (s.drop (a + 1)).head? = some s[a] then mark s a 2 else hex s a)
    else if s[a] = 62 then (if (s.drop (a + 1)).head? = some s[a] then mark s a 2 else refused 3)
    else if s[a] = 47 then name s a
    else if s[a] = 40 then text s a
    else if s[a] = 41 then refused 3
    else word s a := by rw [token, hd]
  rw [hd] at hsk
  obtain ⟨h37, hw⟩ := stop_head hsk
  have two : (s.drop (a + 1)).head? = some s[a] → a + 2 ≤ s.length := by
    intro h
    cases hdd : s.drop (a + 1) with
    | nil => rw [hdd] at h; cases h
    | cons x t =>
      have := congrArg List.length hdd
      simp at this; omega
  rw [hT] at h ⊢
  by_cases g0 : s[a] = 91 ∨ s[a] = 93 ∨ s[a] = 123 ∨ s[a] = 125
  · rw [if_pos g0]; exact ⟨by simp [mark], rfl, by simp only [mark]; omega, by simp only [mark]; omega⟩
  rw [if_neg g0] at h ⊢
  by_cases g1 : s[a] = 60
  · rw [if_pos g1] at h ⊢
    by_cases g : (s.drop (a + 1)).head? = some s[a]
    · have := two g
      rw [if_pos g]; exact ⟨by simp [mark], rfl, by simp only [mark]; omega, by simp only [mark]; omega⟩
    · rw [if_neg g] at h ⊢
      unfold hex at h ⊢
      cases hh : hexF (-1) (s.drop (a + 1)) with
      | inr e =>
        rw [hh] at h
        exfalso
        have : ∀ (l : List UInt8) (x e : Int), hexF x l = .inr e → e ≠ 0 := by
          intro l
          induction l with
          | nil => intro x e he; rw [hexF] at he; cases he; decide
          | cons c t ih =>
            intro x e he
            rw [hexF] at he
            split at he
            · cases he
            · split at he
              · cases hq : hexF x t with
                | inl r => rw [hq] at he; cases he
                | inr e' => rw [hq] at he; cases he; exact ih _ _ hq
              · split at he
                · cases he; decide
                · split at he
                  · cases hq : hexF (digit c) t with
                    | inl r => rw [hq] at he; cases he
                    | inr e' => rw [hq] at he; cases he; exact ih _ _ hq
                  · cases hq : hexF (-1) t with
                    | inl r => rw [hq] at he; cases he
                    | inr e' => rw [hq] at he; cases he; exact ih _ _ hq
        exact this _ _ _ hh h
      | inl r =>
        rw [hh] at h
        simp only at h ⊢
        have := hexF_le _ _ _ hh
        rw [List.length_drop] at this
        rw [told_ok h]
        exact ⟨by simp, rfl, by simp only; omega, by simp only; omega⟩
  rw [if_neg g1] at h ⊢
  by_cases g2 : s[a] = 62
  · rw [if_pos g2] at h ⊢
    by_cases g : (s.drop (a + 1)).head? = some s[a]
    · have := two g
      rw [if_pos g]; exact ⟨by simp [mark], rfl, by simp only [mark]; omega, by simp only [mark]; omega⟩
    · rw [if_neg g] at h; cases h
  rw [if_neg g2] at h ⊢
  by_cases g3 : s[a] = 47
  · rw [if_pos g3] at h ⊢
    have hto := run_le s (show a + 1 ≤ s.length by omega)
    have hto2 : a + 1 ≤ run s (a + 1) := by unfold run; omega
    unfold name at h ⊢
    cases hh : nameF (cut s (a + 1) (run s (a + 1))) with
    | none => rw [hh] at h; cases h
    | some x =>
      rw [hh] at h
      simp only at h ⊢
      rw [told_ok h]
      exact ⟨by simp, rfl, by simp only; omega, by simp only; omega⟩
  rw [if_neg g3] at h ⊢
  by_cases g4 : s[a] = 40
  · rw [if_pos g4] at h ⊢
    unfold text at h ⊢
    cases hh : textG 0 1 (s.drop (a + 1)) with
    | none => rw [hh] at h; cases h
    | some r =>
      rw [hh] at h
      simp only at h ⊢
      have := textG_le _ _ _ _ hh
      rw [List.length_drop] at this
      rw [told_ok h]
      exact ⟨by simp, rfl, by simp only; omega, by simp only; omega⟩
  rw [if_neg g4] at h ⊢
  by_cases g5 : s[a] = 41
  · rw [if_pos g5] at h; cases h
  rw [if_neg g5] at h ⊢
  have hreg := regular_of s[a] hw g0 g1 g2 g3 g4 g5 h37
  have hto := run_le s (show a ≤ s.length by omega)
  have hto2 : a < run s a := by unfold run; rw [hd, runF, if_pos hreg]; omega
  obtain ⟨k1, k2, k3⟩ := wordT_ok h
  exact ⟨k1, k2, by rw [show (word s a).1.t = _ from k3]; omega, by rw [show (word s a).1.t = _ from k3]; omega⟩
theorem next_bd {s : List UInt8} {i : Int} (h : (next s i).2 = 0) (hk : (next s i).1.k ≠ 0) : 0 ≤ i ∧ i ≤ s.length ∧ (next s i).1.a = skip s i.toNat ∧ (next s i).1.a < (next s i).1.t ∧ (next s i).1.t ≤ s.length := by
  unfold next at h hk ⊢
  split
  · rename_i hh; rw [if_pos hh] at h; cases h
  · rename_i hh
    rw [if_neg hh] at h hk
    have hle := skip_le s (k := i.toNat) (by omega)
    rcases Nat.lt_or_ge (skip s i.toNat) s.length with h1 | h1
    · have := token_bd h1 (skip_stop s i.toNat) h
      exact ⟨by omega, by omega, this.2.1, by rw [this.2.1]; exact this.2.2.1, this.2.2.2⟩
    · exfalso
      rw [token, List.drop_eq_nil_of_le h1] at hk
      exact hk rfl
/-- From a on the tokens l are read, up to b. -/
def Steps (s : List UInt8) (a : Int) (l : List Tok) (b : Int) : Prop := ∀ m, upto s (l.length + m) a = match upto s m b with | .inl r => .inl (l ++ r) | .inr f => .inr f
theorem Steps.nil (s : List UInt8) (a : Int) : Steps s a [] a := by
  intro m
  rw [List.length_nil, Nat.zero_add]
  cases upto s m a <;> rfl
theorem Steps.snoc {s : List UInt8} {a b : Int} {l : List Tok} (h : Steps s a l b) (h1 : (next s b).2 = 0) (h2 : (next s b).1.k ≠ 0) : Steps s a (l ++ [(next s b).1]) (next s b).1.t := by
  intro m
  have := h (m + 1)
  rw [List.length_append, List.length_singleton, Nat.add_assoc, Nat.add_comm 1 m, this]
  rw [upto, if_neg (by rw [h1]; simp), if_neg h2]
  cases upto s m (next s b).1.t <;> simp
theorem Steps.fin {s : List UInt8} {a b : Int} {l : List Tok} (h : Steps s a l b) (m : Nat) : upto s (l.length + m) a = match upto s m b with | .inl r => .inl (l ++ r) | .inr f => .inr f := h m
end Lx
end Go.Proofs.YtiklhhdohckfiaaDoor
/- Plain mathematics of layer 3: a token cut alone is the same token. -/
namespace Go.Proofs.YtiklhhdohckfiaaDoor
set_option linter.unusedVariables false
set_option linter.unusedSimpArgs false
set_option linter.defProp false
open Go
namespace Lx
open Oc
theorem take_cons {c : UInt8} {t : List UInt8} {n : Nat} (h : 1 ≤ n) : (c :: t).take n = c :: t.take (n - 1) := by
  obtain ⟨m, rfl⟩ : ∃ m, n = m + 1 := ⟨n - 1, by omega⟩; rfl
theorem textG_ge : ∀ (l : List UInt8) (k o : Nat) (r : List UInt8 × Nat), textG k o l = some r → k + 1 ≤ r.2
  | [], k, o, r, h => by cases k <;> (rw [textG] at h; cases h)
  | c :: t, 0, o, r, h => by have := textG_le _ _ _ _ h; omega
  | c :: t, k + 1, o, r, h => by
    rw [textG] at h
    cases hh : textG k o t with
    | none => rw [hh] at h; cases h
    | some q => rw [hh] at h; cases h; have := textG_ge t k o q hh; simp; omega
theorem map_some {α β : Type} {f : α → β} {x : Option α} {r : β} (h : x.map f = some r) : ∃ q, x = some q ∧ r = f q := by
  cases x with
  | none => cases h
  | some q => cases h; exact ⟨q, rfl, rfl⟩
theorem runF_take : ∀ l : List UInt8, (l.take (runF l)).all regular = true ∧ runF (l.take (runF l)) = runF l
  | [] => by simp [runF]
  | c :: t => by
    obtain ⟨i1, i2⟩ := runF_take t
    simp only [runF]
    by_cases h : regular c = true
    · rw [if_pos h, take_cons (by omega), Nat.add_sub_cancel_left]
      simp only [runF, i2, List.all_cons, h, i1, Bool.and_self, if_true, and_self]
    · rw [if_neg h]; simp [runF]
theorem wordT_move {t : List UInt8} {a r : Int} (h : (wordT t a r).2 = 0) (b q : Int) : wordT t b q = ({ (wordT t a r).1 with a := b, t := q }, 0) := by
  unfold wordT at h ⊢
  by_cases h1 : intForm t = true
  · simp only [if_pos h1] at h ⊢
    by_cases h2 : (whole t).2 ≠ 0
    · rw [if_pos h2] at h; exact absurd h h2
    · simp only [if_neg h2]
  · simp only [if_neg h1] at h ⊢
    by_cases h2 : t.contains 46 ∧ (Fx.read t).2 = 0
    · simp only [if_pos h2]
    · simp only [if_neg h2] at h ⊢
      by_cases h3 : t.contains 46 ∧ (Fx.read t).2 = 2
      · rw [if_pos h3] at h; cases h
      · simp only [if_neg h3] at h ⊢
        unfold told at h ⊢
        by_cases h4 : (127 : Int) < t.length
        · rw [if_pos h4] at h; cases h
        · simp only [if_neg h4]
theorem cut_full (u : List UInt8) : cut u 0 u.length = u := by simp [cut]
/- LISTS OF TOKENS -/
/-- From at_ on the tokens are l, and then nothing is left. -/
def Chain (s : List UInt8) : Int → List Tok → Prop
  | at_, [] => 0 ≤ at_ ∧ at_ ≤ s.length ∧ skip s at_.toNat = s.length
  | at_, x :: l => 0 ≤ at_ ∧ at_ ≤ s.length ∧ next s at_ = (x, 0) ∧ x.k ≠ 0 ∧ Chain s x.t l
end Lx
end Go.Proofs.YtiklhhdohckfiaaDoor
/- Plain mathematics of layer 3: whole numbers from their digits; strings from hexadecimal and octal digits. -/
namespace Go.Proofs.YtiklhhdohckfiaaDoor
set_option linter.unusedVariables false
set_option linter.unusedSimpArgs false
set_option linter.defProp false
open Go
namespace Lx
open Oc
theorem all8 {p : UInt8 → Prop} (h : ∀ n : Fin 256, p (UInt8.ofNat n.val)) (c : UInt8) : p c := by
  have := h ⟨c.toNat, c.toNat_lt⟩
  simpa using this
theorem regular_ne (c : UInt8) : regular c = true → white c = false ∧ c ≠ 37 ∧ ¬ (c = 91 ∨ c = 93 ∨ c = 123 ∨ c = 125) ∧ c ≠ 60 ∧ c ≠ 62 ∧ c ≠ 47 ∧ c ≠ 40 ∧ c ≠ 41 := by
  refine all8 (p := fun c => regular c = true → white c = false ∧ c ≠ 37 ∧ ¬ (c = 91 ∨ c = 93 ∨ c = 123 ∨ c = 125) ∧ c ≠ 60 ∧ c ≠ 62 ∧ c ≠ 47 ∧ c ≠ 40 ∧ c ≠ 41) ?_ c
  decide +kernel
theorem dig_reg (c : UInt8) : dig c = true → regular c = true ∧ sgn c = false ∧ c ≠ 45 := by
  refine all8 (p := fun c => dig c = true → regular c = true ∧ sgn c = false ∧ c ≠ 45) ?_ c
  decide +kernel
theorem val_cons (n : Nat) (c : UInt8) (l : List UInt8) : val n (c :: l) = val (10 * n + (c.toNat - 48)) l := by simp only [val, List.foldl_cons]
theorem token_word {s : List UInt8} {a : Nat} {c : UInt8} {t : List UInt8} (hd : s.drop a = c :: t) (h : regular c = true) : token s a = word s a := by
  obtain ⟨_, _, h1, h2, h3, h4, h5, h6⟩ := regular_ne c h
  rw [token, hd]
  simp only [if_neg h1, if_neg h2, if_neg h3, if_neg h4, if_neg h5, if_neg h6]
theorem all_reg {ds : List UInt8} (h : ds.all dig = true) : ds.all regular = true := by
  rw [List.all_eq_true] at h ⊢
  exact fun c hc => (dig_reg c (h c hc)).1
theorem unsign_num {sg ds : List UInt8} (hs : sg = [] ∨ sg = [45]) (h : ds.all dig = true) : unsign (sg ++ ds) = ds := by
  rcases hs with rfl | rfl
  · cases ds with
    | nil => rfl
    | cons c t =>
      simp only [List.all_cons, Bool.and_eq_true] at h
      rw [List.nil_append, unsign, (dig_reg c h.1).2.1]; rfl
  · rfl
end Lx
end Go.Proofs.YtiklhhdohckfiaaDoor
/- Plain mathematics of layer 4: encodings are one-to-one; no program in sight. -/
namespace Go.Proofs.YtiklhhdohckfiaaDoor
set_option linter.unusedVariables false
set_option linter.unusedSimpArgs false
set_option linter.defProp false
open Go
namespace Pl
open Oc
/- NUMBERS -/
theorem dec_val : ∀ u : Nat, Fx.val 0 (Lib.decDigits u) = (u : Int) ∧ (Lib.decDigits u).all Fx.isDig = true := by
  intro u
  induction u using Nat.strongRecOn with
  | _ u ih =>
    have dig : ∀ k, k < 10 → Fx.isDig (UInt8.ofNat (48 + k)) = true ∧ ((UInt8.ofNat (48 + k)).toNat : Int) - 48 = (k : Int) := by
      intro k hk
      have e : (UInt8.ofNat (48 + k)).toNat = 48 + k := by rw [UInt8.toNat_ofNat']; omega
      refine ⟨?_, by omega⟩
      unfold Fx.isDig
      rw [e]
      simp only [Bool.and_eq_true, decide_eq_true_eq]
      omega
    rw [Lib.decDigits]
    split
    · rename_i h
      obtain ⟨h1, h2⟩ := dig u h
      refine ⟨?_, by rw [List.all_cons, h1]; rfl⟩
      simp only [Fx.val, List.foldl_cons, List.foldl_nil, h2]
      omega
    · rename_i h
      obtain ⟨i1, i2⟩ := ih (u / 10) (by omega)
      obtain ⟨h1, h2⟩ := dig (u % 10) (by omega)
      refine ⟨?_, by rw [List.all_append, i2, List.all_cons, h1]; rfl⟩
      rw [Fx.val_append, i1]
      simp only [Fx.val, List.foldl_cons, List.foldl_nil, h2]
      omega
theorem itoa_shape (n : Int) : (∃ u : Nat, n = u ∧ Lib.itoa n = Lib.decDigits u) ∨ (∃ u : Nat, n = -(u : Int) ∧ 0 < u ∧ Lib.itoa n = 45 :: Lib.decDigits u) := by
  unfold Lib.itoa
  by_cases h : n < 0
  · rw [if_pos h]; exact .inr ⟨n.natAbs, by omega, by omega, rfl⟩
  · rw [if_neg h]; exact .inl ⟨n.toNat, by omega, rfl⟩
theorem text_has46 {n : Int} (h : Fx.okB n = true) : (46 : UInt8) ∈ Fx.text n := by
  rw [Fx.text, if_pos h]; simp
theorem text_inj {n m : Int} (hn : Fx.okB n = true) (hm : Fx.okB m = true) (h : Fx.text n = Fx.text m) : n = m := by
  have h1 := (Fx.read_text n hn 0 (by omega)).1
  have h2 := (Fx.read_text m hm 0 (by omega)).1
  rw [h, h2] at h1
  injection h1 with h3 _
  exact h3.symm
end Pl
end Go.Proofs.YtiklhhdohckfiaaDoor
/- Plain mathematics of layers 3 and 4: every encoding is one token; strings from hexadecimal and octal digits. -/
namespace Go.Proofs.YtiklhhdohckfiaaDoor
set_option linter.unusedVariables false
set_option linter.unusedSimpArgs false
set_option linter.defProp false
open Go
namespace Lx
open Oc
theorem word_next {t : List UInt8} (h : t ≠ []) (hr : t.all regular = true) : next t 0 = wordT t 0 t.length := by
  cases t with
  | nil => exact absurd rfl h
  | cons c r =>
    have hc : regular c = true := by simp only [List.all_cons, Bool.and_eq_true] at hr; exact hr.1
    obtain ⟨hw, h37, _⟩ := regular_ne c hc
    have hsk : skip (c :: r) 0 = 0 := by
      unfold skip
      rw [List.drop_zero, skipF, if_neg h37, if_neg (by rw [hw]; decide)]
    have all_run : ∀ l : List UInt8, l.all regular = true → runF l = l.length := by
      intro l
      induction l with
      | nil => intro _; rfl
      | cons d l ih =>
        intro hl
        simp only [List.all_cons, Bool.and_eq_true] at hl
        rw [runF, if_pos hl.1, ih hl.2, List.length_cons]; omega
    have hrun : run (c :: r) 0 = (c :: r).length := by
      unfold run
      rw [List.drop_zero, all_run _ hr, Nat.zero_add]
    unfold next
    rw [if_neg (by omega), Int.toNat_zero, hsk, token_word (List.drop_zero) hc, word, hrun, cut_full]; rfl
theorem val_fx : ∀ (l : List UInt8) (n : Nat), l.all dig = true → ((val n l : Nat) : Int) = Fx.val n l
  | [], n, _ => rfl
  | c :: l, n, h => by
    simp only [List.all_cons, Bool.and_eq_true] at h
    have hc : 48 ≤ c.toNat := by have := h.1; simp only [dig, Bool.and_eq_true, decide_eq_true_eq] at this; omega
    rw [val_cons, Fx.val_cons, val_fx l _ h.2]
    congr 1
    omega
theorem itoa_next {n : Int} (h1 : -2147483647 ≤ n) (h2 : n ≤ 2147483647) : next (Lib.itoa n) 0 = (⟨1, 0, (Lib.itoa n).length, n, []⟩, 0) := by
  have dec : ∀ u : Nat, (Lib.decDigits u).all dig = true ∧ val 0 (Lib.decDigits u) = u ∧ Lib.decDigits u ≠ [] := by
    intro u
    obtain ⟨d1, d2⟩ := Pl.dec_val u
    refine ⟨d2, by have := val_fx (Lib.decDigits u) 0 d2; rw [show ((0 : Nat) : Int) = 0 from rfl, d1] at this; omega, fun e => ?_⟩
    have := Lib.decDigits_length u
    rw [e] at this
    have h1 : 1 ≤ Lib.nDigits u := by unfold Lib.nDigits; split <;> omega
    simp at this; omega
  have go : ∀ (sg : List UInt8) (u : Nat), (sg = [] ∨ sg = [45]) → u ≤ 2147483647 → n = (if sg = [] then (u : Int) else -(u : Int)) → Lib.itoa n = sg ++ Lib.decDigits u → next (Lib.itoa n) 0 = (⟨1, 0, (Lib.itoa n).length, n, []⟩, 0) := by
    intro sg u hs hu hn he
    obtain ⟨d1, d2, d3⟩ := dec u
    have ht : (sg ++ Lib.decDigits u).all regular = true := by
      rw [List.all_append, all_reg d1, Bool.and_true]
      rcases hs with rfl | rfl <;> rfl
    rw [he, word_next (by simp [d3]) ht, wordT]
    have hus := unsign_num hs d1
    have hI : intForm (sg ++ Lib.decDigits u) = true := by
      unfold intForm
      rw [hus, d1]
      cases hd : Lib.decDigits u with
      | nil => exact absurd hd d3
      | cons => rfl
    have hhead : (sg ++ Lib.decDigits u).head? = some 45 ↔ sg = [45] := by
      rcases hs with rfl | rfl
      · cases hd : Lib.decDigits u with
        | nil => exact absurd hd d3
        | cons c t =>
          rw [hd] at d1
          simp only [List.all_cons, Bool.and_eq_true] at d1
          simp [(dig_reg c d1.1).2.2]
      · simp
    have hW : whole (sg ++ Lib.decDigits u) = (n, 0) := by
      unfold whole
      rw [hus, d2, if_neg (by omega)]
      rcases hs with rfl | rfl
      · rw [if_neg (by rw [hhead]; simp), hn, if_pos rfl]
      · rw [if_pos (by rw [hhead]), hn, if_neg (by simp)]
    rw [if_pos hI, hW, if_neg (by simp)]
  rcases Pl.itoa_shape n with ⟨u, hu, e⟩ | ⟨u, hu, hp, e⟩
  · exact go [] u (.inl rfl) (by omega) (by simpa using hu) (by simpa using e)
  · exact go [45] u (.inr rfl) (by omega) (by simpa using hu) (by simpa using e)
theorem dig_all_reg {l : List UInt8} (h : l.all Fx.isDig = true) : l.all regular = true := all_reg h
theorem text_next {n : Int} (h : Fx.okB n = true) : next (Fx.text n) 0 = (⟨2, 0, (Fx.text n).length, n, []⟩, 0) := by
  have h46 := Pl.text_has46 h
  have hr : (Fx.text n).all regular = true := by
    rw [Fx.text, if_pos h, List.all_append, List.all_append, List.all_append, dig_all_reg (Fx.row_all _ _)]
    obtain ⟨j, _, hf⟩ := Fx.fpart_rep n.natAbs
    rw [hf, List.all_append, dig_all_reg (Fx.tr_all (Fx.row_all _ _)), dig_all_reg (Fx.rep_all _)]
    split <;> rfl
  have hread : Fx.read (Fx.text n) = (n, 0) := by
    have := (Fx.read_text n h 0 (by omega)).1
    simpa using this
  have hne : Fx.text n ≠ [] := by intro e; rw [e] at h46; cases h46
  rw [word_next hne hr, wordT]
  have hI : intForm (Fx.text n) = false := by
    unfold intForm
    rw [Bool.and_eq_false_iff]
    right
    have hm : (46 : UInt8) ∈ unsign (Fx.text n) := by
      cases ht : Fx.text n with
      | nil => exact absurd ht hne
      | cons c t =>
        rw [ht] at h46
        rw [unsign]
        split
        · rename_i hs
          rcases List.mem_cons.1 h46 with e | e
          · rw [← e] at hs; cases hs
          · exact e
        · exact h46
    rw [List.all_eq_false]
    exact ⟨46, hm, by decide⟩
  rw [hI, hread]
  simp only [Bool.false_eq_true, if_false]
  rw [if_pos ⟨by simpa using h46, trivial⟩]
/- STRINGS -/
theorem oct_facts (c : UInt8) : oct (UInt8.ofNat (48 + c.toNat / 64)) = true ∧ oct (UInt8.ofNat (48 + c.toNat / 8 % 8)) = true ∧ oct (UInt8.ofNat (48 + c.toNat % 8)) = true ∧ escL (UInt8.ofNat (48 + c.toNat / 64)) = none ∧ eol (UInt8.ofNat (48 + c.toNat / 64)) = false
    ∧ UInt8.ofNat (8 * (8 * (8 * 0 + ((UInt8.ofNat (48 + c.toNat / 64)).toNat - 48)) + ((UInt8.ofNat (48 + c.toNat / 8 % 8)).toNat - 48)) + ((UInt8.ofNat (48 + c.toNat % 8)).toNat - 48)) = c := by
  refine all8 (p := fun c => oct (UInt8.ofNat (48 + c.toNat / 64)) = true ∧ oct (UInt8.ofNat (48 + c.toNat / 8 % 8)) = true ∧ oct (UInt8.ofNat (48 + c.toNat % 8)) = true ∧ escL (UInt8.ofNat (48 + c.toNat / 64)) = none ∧ eol (UInt8.ofNat (48 + c.toNat / 64)) = false
    ∧ UInt8.ofNat (8 * (8 * (8 * 0 + ((UInt8.ofNat (48 + c.toNat / 64)).toNat - 48)) + ((UInt8.ofNat (48 + c.toNat / 8 % 8)).toNat - 48)) + ((UInt8.ofNat (48 + c.toNat % 8)).toNat - 48)) = c) ?_ c
  decide +kernel
theorem escF_oct (c : UInt8) (t : List UInt8) : escF (UInt8.ofNat (48 + c.toNat / 64) :: UInt8.ofNat (48 + c.toNat / 8 % 8) :: UInt8.ofNat (48 + c.toNat % 8) :: t) = ([c], 3) := by
  obtain ⟨h1, h2, h3, h4, h5, h6⟩ := oct_facts c
  generalize UInt8.ofNat (48 + c.toNat / 64) = x at *
  generalize UInt8.ofNat (48 + c.toNat / 8 % 8) = y at *
  generalize UInt8.ofNat (48 + c.toNat % 8) = z at *
  have ho : octF 3 0 (x :: y :: z :: t) = (8 * (8 * (8 * 0 + (x.toNat - 48)) + (y.toNat - 48)) + (z.toNat - 48), 3) := by
    simp only [octF, h1, h2, h3, if_true]
  simp only [escF, h4, h5, ho, Bool.false_eq_true, if_false]
  rw [if_pos (by omega), h6]
/-- A backslash and three octal digits. -/
theorem textG_oct (c : UInt8) (o : Nat) (t : List UInt8) : textG 0 o (Pl.oct c ++ t) = (textG 0 o t).map fun r => (c :: r.1, r.2 + 4) := by
  unfold Pl.oct
  rw [List.cons_append, textG, if_neg (by decide), if_pos rfl, if_neg (by simp)]
  simp only [List.cons_append, List.nil_append]
  rw [escF_oct, textG_skip 3 o _ (by simp), Option.map_map]
  simp only [List.drop_succ_cons, List.drop_zero]
  congr 1
theorem textG_esc (c : UInt8) (t : List UInt8) : textG 0 1 (Pl.esc c ++ t) = (textG 0 1 t).map fun r => (c :: r.1, r.2 + (Pl.esc c).length) := by
  unfold Pl.esc
  by_cases h1 : c = 40 ∨ c = 41 ∨ c = 92
  · rw [if_pos h1]
    have hl : escL c = none := by rcases h1 with rfl | rfl | rfl <;> rfl
    have he : eol c = false := by rcases h1 with rfl | rfl | rfl <;> rfl
    have ho : oct c = false := by rcases h1 with rfl | rfl | rfl <;> rfl
    have hE : escF (c :: t) = ([c], 1) := by
      have h0 : octF 3 0 (c :: t) = (0, 0) := by simp only [octF, ho, Bool.false_eq_true, if_false]
      simp only [escF, hl, he, h0, Bool.false_eq_true, if_false]
      rw [if_neg (by omega)]
    rw [List.cons_append, List.cons_append, List.nil_append, textG, if_neg (by decide), if_pos rfl, if_neg (by simp), hE, textG_skip 1 1 _ (by simp), Option.map_map]
    simp only [List.drop_succ_cons, List.drop_zero]
    congr 1
  · rw [if_neg h1]
    by_cases h2 : c.toNat < 32 ∨ 126 < c.toNat
    · rw [if_pos h2, textG_oct]; rfl
    · rw [if_neg h2, List.cons_append, List.nil_append, textG]
      have he : eol c = false := by
        unfold eol
        rw [Bool.or_eq_false_iff]
        refine ⟨decide_eq_false fun e => ?_, decide_eq_false fun e => ?_⟩ <;>
        · rw [e] at h2
          exact h2 (.inl (by decide))
      rw [if_neg (by rw [he]; decide), if_neg (fun e => h1 (.inr (.inr e))), if_neg (fun e => h1 (.inl e)), if_neg (fun e => h1 (.inr (.inl e)))]
      rfl
theorem textG_escs : ∀ (l t : List UInt8), textG 0 1 (l.flatMap Pl.esc ++ t) = (textG 0 1 t).map fun r => (l ++ r.1, r.2 + (l.flatMap Pl.esc).length)
  | [], t => by simp
  | c :: l, t => by
    rw [List.flatMap_cons, List.append_assoc, textG_esc, textG_escs l t, Option.map_map]
    congr 1
    funext r
    simp only [Function.comp, List.cons_append, List.length_append]
    refine Prod.ext rfl ?_
    simp only; omega
theorem textG_close (t : List UInt8) : textG 0 1 (41 :: t) = some ([], 1) := by
  rw [textG, if_neg (by decide), if_neg (by decide), if_neg (by decide), if_pos rfl, if_pos (by omega)]
theorem next_open (c : UInt8) (t : List UInt8) (h : c ≠ 37 ∧ white c = false) : next (c :: t) 0 = token (c :: t) 0 := by
  have hsk : skip (c :: t) 0 = 0 := by
    unfold skip
    rw [List.drop_zero, skipF, if_neg h.1, if_neg (by rw [h.2]; decide)]
  unfold next
  rw [if_neg (by omega), Int.toNat_zero, hsk]
theorem token_text (t : List UInt8) : token (40 :: t) 0 = text (40 :: t) 0 := by
  rw [token, List.drop_zero]
  simp only
  rw [if_neg (by decide), if_neg (by decide), if_neg (by decide), if_neg (by decide), if_pos trivial]
theorem text_of {t x : List UInt8} {n : Nat} (h : textG 0 1 t = some (x, n)) (hx : x.length ≤ 32767) : next (40 :: t) 0 = (⟨3, 0, (1 + n : Nat), 0, x⟩, 0) := by
  rw [next_open 40 t (by decide), token_text, text]
  have : (40 :: t).drop (0 + 1) = t := rfl
  rw [this, h]
  simp only [told]
  rw [if_neg (by omega), Nat.zero_add]; rfl
theorem str_next {l : List UInt8} (h : l.length ≤ 32767) : next (Pl.str l) 0 = (⟨3, 0, (Pl.str l).length, 0, l⟩, 0) := by
  have hs : Pl.str l = 40 :: (l.flatMap Pl.esc ++ 41 :: []) := by simp [Pl.str]
  have := text_of (t := l.flatMap Pl.esc ++ 41 :: []) (x := l) (n := 1 + (l.flatMap Pl.esc).length) (by rw [textG_escs, textG_close]; simp) h
  rw [hs, this]
  simp only [List.length_cons, List.length_append, List.length_nil]
  rw [show 1 + (1 + (l.flatMap Pl.esc).length) = (l.flatMap Pl.esc).length + (0 + 1) + 1 by omega]
/- HEXADECIMAL -/
theorem hex_facts (c : UInt8) : digit (hexD (c.toNat / 16)) = (c.toNat / 16 : Nat) ∧ digit (hexD (c.toNat % 16)) = (c.toNat % 16 : Nat) ∧ byte (c.toNat / 16 : Nat) (c.toNat % 16 : Nat) = c ∧ hexD (c.toNat / 16) ≠ 62 ∧ hexD (c.toNat % 16) ≠ 62 ∧ white (hexD (c.toNat / 16)) = false ∧ white (hexD (c.toNat % 16)) = false
    ∧ regular (hexD (c.toNat / 16)) = true ∧ regular (hexD (c.toNat % 16)) = true ∧ hexD (c.toNat / 16) ≠ 60 := by
  refine all8 (p := fun c => digit (hexD (c.toNat / 16)) = (c.toNat / 16 : Nat) ∧ digit (hexD (c.toNat % 16)) = (c.toNat % 16 : Nat) ∧ byte (c.toNat / 16 : Nat) (c.toNat % 16 : Nat) = c ∧ hexD (c.toNat / 16) ≠ 62 ∧ hexD (c.toNat % 16) ≠ 62 ∧ white (hexD (c.toNat / 16)) = false ∧ white (hexD (c.toNat % 16)) = false
    ∧ regular (hexD (c.toNat / 16)) = true ∧ regular (hexD (c.toNat % 16)) = true ∧ hexD (c.toNat / 16) ≠ 60) ?_ c
  decide +kernel
/- NAMES -/
theorem nmOk_reg (c : UInt8) : Pl.nmOk c = true → regular c = true ∧ c ≠ 35 := by
  refine all8 (p := fun c => Pl.nmOk c = true → regular c = true ∧ c ≠ 35) ?_ c
  decide +kernel
theorem nmc_reg (c : UInt8) : (Pl.nmc c).all regular = true := by
  unfold Pl.nmc
  split
  · rename_i h; rw [List.all_cons, (nmOk_reg c h).1]; rfl
  · obtain ⟨-, -, -, -, -, -, -, f8, f9, -⟩ := hex_facts c
    simp only [Oc.hex, hex1, List.flatMap_cons, List.flatMap_nil, List.append_nil, List.cons_append, List.nil_append, List.all_cons, f8, f9, List.all_nil, Bool.and_true]
    decide
theorem nmcs_reg (l : List UInt8) : (l.flatMap Pl.nmc).all regular = true := by
  rw [List.all_flatMap, List.all_eq_true]
  exact fun c _ => nmc_reg c
theorem nameF_nmc : ∀ l : List UInt8, (0 : UInt8) ∉ l → nameF (l.flatMap Pl.nmc) = some l
  | [], _ => rfl
  | c :: l, h => by
    simp only [List.mem_cons, not_or] at h
    have ih := nameF_nmc l h.2
    rw [List.flatMap_cons]
    generalize l.flatMap Pl.nmc = z at *
    unfold Pl.nmc
    by_cases hc : Pl.nmOk c = true
    · rw [if_pos hc, List.cons_append, List.nil_append, nameF_ne (nmOk_reg c hc).2, ih]; rfl
    · rw [if_neg hc]
      obtain ⟨f1, f2, f3, -⟩ := hex_facts c
      have h0 : c.toNat ≠ 0 := fun e => h.1 (UInt8.toNat_inj.1 (by rw [e]; rfl))
      simp only [Oc.hex, hex1, List.flatMap_cons, List.flatMap_nil, List.append_nil, List.cons_append, List.nil_append]
      rw [nameF, if_pos rfl]
      simp only [f1, f2]
      rw [if_neg (by omega), ih, f3]; rfl
theorem name_next {l : List UInt8} (hl : l.length ≤ 127) (h0 : (0 : UInt8) ∉ l) : next (Pl.name l) 0 = (⟨4, 0, (Pl.name l).length, 0, l⟩, 0) := by
  have hs : Pl.name l = 47 :: l.flatMap Pl.nmc := by simp [Pl.name]
  rw [hs, next_open 47 _ (by decide), token, List.drop_zero]
  simp only
  rw [if_neg (by decide), if_neg (by decide), if_neg (by decide), if_pos trivial, Lx.name]
  have hd : (47 :: l.flatMap Pl.nmc).drop (0 + 1) = l.flatMap Pl.nmc := rfl
  have all_run : ∀ l : List UInt8, l.all regular = true → runF l = l.length := by
    intro l
    induction l with
    | nil => intro _; rfl
    | cons d l ih =>
      intro hl
      simp only [List.all_cons, Bool.and_eq_true] at hl
      rw [runF, if_pos hl.1, ih hl.2, List.length_cons]; omega
  have hrun : run (47 :: l.flatMap Pl.nmc) (0 + 1) = (47 :: l.flatMap Pl.nmc).length := by
    unfold run
    rw [hd, all_run _ (nmcs_reg l), List.length_cons]; omega
  have hcut : cut (47 :: l.flatMap Pl.nmc) (0 + 1) (47 :: l.flatMap Pl.nmc).length = l.flatMap Pl.nmc := by
    unfold cut
    rw [hd, List.take_of_length_le]
    rw [List.length_cons]; omega
  rw [hrun, hcut, nameF_nmc l h0]
  simp only [told]
  rw [if_neg (by omega)]; rfl
end Lx
end Go.Proofs.YtiklhhdohckfiaaDoor
/- Plain mathematics of layers 3 and 4: joined tokens scan into the same tokens. -/
namespace Go.Proofs.YtiklhhdohckfiaaDoor
set_option linter.unusedVariables false
set_option linter.unusedSimpArgs false
set_option linter.defProp false
open Go
namespace Lx
open Oc
theorem head_app {t m : List UInt8} (h : t ≠ []) : (t ++ m).head? = t.head? := by
  cases t with
  | nil => exact absurd rfl h
  | cons => rfl
theorem lineF_ext {c : UInt8} {t : List UInt8} (m : List UInt8) (he : eol c = true) (h : t ≠ []) : lineF (c :: (t ++ m)) = lineF (c :: t) := by
  simp only [lineF, head_app h]
  by_cases h1 : c = 10
  · simp [h1]
  · by_cases h2 : c = 13
    · simp [h2]
    · simp [eol, h1, h2] at he
theorem octF_ext : ∀ (k n : Nat) (l m : List UInt8), (octF k n l).2 + 1 ≤ l.length → octF k n (l ++ m) = octF k n l
  | 0, n, l, m, h => by simp [octF]
  | k + 1, n, [], m, h => by simp at h
  | k + 1, n, c :: t, m, h => by
    rw [List.cons_append]
    simp only [octF] at h ⊢
    by_cases ho : oct c = true
    · rw [if_pos ho] at h ⊢
      rw [if_pos ho]
      simp only [List.length_cons] at h
      rw [octF_ext k _ t m (by omega)]
    · rw [if_neg ho, if_neg ho]
theorem escF_ext {l : List UInt8} (m : List UInt8) (h : (escF l).2 + 1 ≤ l.length) : escF (l ++ m) = escF l := by
  cases l with
  | nil => simp at h
  | cons c t =>
    rw [List.cons_append]
    simp only [escF, List.length_cons] at h ⊢
    cases hl : escL c with
    | some b => rfl
    | none =>
      simp only [hl] at h ⊢
      by_cases he : eol c = true
      · rw [if_pos he] at h ⊢
        rw [if_pos he]
        have hp := lineF_pos c t
        simp only at h
        rw [lineF_ext m he (by intro e; subst e; simp at h; omega)]
      · rw [if_neg he] at h ⊢
        rw [if_neg he]
        have h3 : (octF 3 0 (c :: t)).2 + 1 ≤ (c :: t).length := by
          by_cases h0 : 0 < (octF 3 0 (c :: t)).2
          · rw [if_pos h0] at h; rw [List.length_cons]; exact h
          · rw [List.length_cons]; omega
        have ht := octF_ext 3 0 (c :: t) m h3
        rw [List.cons_append] at ht
        rw [ht]
theorem textG_ext : ∀ (l : List UInt8) (k o : Nat) (r : List UInt8 × Nat) (m : List UInt8), textG k o l = some r → textG k o (l ++ m) = some r
  | [], k, o, r, m, h => by cases k <;> (rw [textG] at h; cases h)
  | c :: t, k + 1, o, r, m, h => by
    rw [textG] at h
    obtain ⟨q, hq, rfl⟩ := map_some h
    rw [List.cons_append, textG, textG_ext t k o q m hq]; rfl
  | c :: t, 0, o, r, m, h => by
    rw [List.cons_append]
    rw [textG] at h ⊢
    have ne : ∀ k o q, textG k o t = some q → t ≠ [] := by
      intro k o q hq e
      subst e
      cases k <;> (rw [textG] at hq; cases hq)
    by_cases g1 : eol c = true
    · rw [if_pos g1] at h ⊢
      obtain ⟨q, hq, rfl⟩ := map_some h
      rw [lineF_ext m g1 (ne _ _ _ hq), textG_ext t _ o q m hq]; rfl
    · rw [if_neg g1] at h ⊢
      by_cases g2 : c = 92
      · rw [if_pos g2] at h ⊢
        by_cases g3 : t = []
        · rw [if_pos g3] at h; cases h
        · rw [if_neg g3] at h
          obtain ⟨q, hq, rfl⟩ := map_some h
          have h2 := textG_ge _ _ _ _ hq
          have h3 := textG_le _ _ _ _ hq
          rw [escF_ext m (by omega), textG_ext t _ o q m hq, if_neg (by simp [g3])]; rfl
      · rw [if_neg g2] at h ⊢
        by_cases g4 : c = 40
        · rw [if_pos g4] at h ⊢
          obtain ⟨q, hq, rfl⟩ := map_some h
          rw [textG_ext t _ _ q m hq]; rfl
        · rw [if_neg g4] at h ⊢
          by_cases g5 : c = 41
          · rw [if_pos g5] at h ⊢
            by_cases g6 : o ≤ 1
            · rw [if_pos g6] at h ⊢; exact h
            · rw [if_neg g6] at h ⊢
              obtain ⟨q, hq, rfl⟩ := map_some h
              rw [textG_ext t _ _ q m hq]; rfl
          · rw [if_neg g5] at h ⊢
            obtain ⟨q, hq, rfl⟩ := map_some h
            rw [textG_ext t _ _ q m hq]; rfl
theorem hexF_ext : ∀ (l : List UInt8) (h : Int) (r : List UInt8 × Nat) (m : List UInt8), hexF h l = .inl r → hexF h (l ++ m) = .inl r
  | [], _, r, m, h => by rw [hexF] at h; cases h
  | c :: t, h, r, m, he => by
    rw [List.cons_append]
    rw [hexF] at he ⊢
    have step : ∀ (h' : Int) (f : List UInt8 → List UInt8), (match hexF h' t with | .inl r => (Sum.inl (f r.1, r.2 + 1) : (List UInt8 × Nat) ⊕ Int) | .inr e => .inr e) = .inl r →
        (match hexF h' (t ++ m) with | .inl r => (Sum.inl (f r.1, r.2 + 1) : (List UInt8 × Nat) ⊕ Int) | .inr e => .inr e) = .inl r := by
      intro h' f hh
      cases hq : hexF h' t with
      | inr e => rw [hq] at hh; cases hh
      | inl q =>
        rw [hq] at hh
        cases hh
        rw [hexF_ext t h' q m hq]
    by_cases g1 : c = 62
    · rw [if_pos g1] at he ⊢; exact he
    · rw [if_neg g1] at he ⊢
      by_cases g2 : white c = true
      · rw [if_pos g2] at he ⊢
        exact step h (fun x => x) he
      · rw [if_neg g2] at he ⊢
        by_cases g3 : digit c < 0
        · rw [if_pos g3] at he; cases he
        · rw [if_neg g3] at he ⊢
          by_cases g4 : h < 0
          · rw [if_pos g4] at he ⊢
            exact step (digit c) (fun x => x) he
          · rw [if_neg g4] at he ⊢
            exact step (-1) (fun x => byte h (digit c) :: x) he
/-- m goes on with no regular byte. -/
def stops (m : List UInt8) : Prop := ∀ c t, m = c :: t → regular c = false
theorem runF_stop : ∀ (l m : List UInt8), l.all regular = true → stops m → runF (l ++ m) = l.length
  | [], [], _, _ => rfl
  | [], c :: t, _, h => by rw [List.nil_append, runF, if_neg (by rw [h c t rfl]; decide)]; rfl
  | c :: l, m, h, hm => by
    simp only [List.all_cons, Bool.and_eq_true] at h
    rw [List.cons_append, runF, if_pos h.1, runF_stop l m h.2 hm, List.length_cons]; omega
theorem runF_all {l : List UInt8} (h : runF l = l.length) : l.all regular = true := by
  have := (runF_take l).1
  rwa [h, List.take_length] at this
theorem lastC_all {l : List UInt8} (h : l ≠ []) (hr : l.all regular = true) : regular (Pl.lastC l) = true := by
  have hg := Pl.last_get l h
  exact List.all_eq_true.1 hr _ (List.mem_of_getElem? hg)
/-- A string that is one token. -/
def Single (u : List UInt8) (x : Tok) : Prop := next u 0 = (x, 0) ∧ x.k ≠ 0 ∧ x.a = 0 ∧ x.t = u.length
theorem single_head {u : List UInt8} {x : Tok} (h : Single u x) : ∃ c t, u = c :: t ∧ c ≠ 37 ∧ white c = false ∧ token u 0 = (x, 0) := by
  obtain ⟨hn, hk, ha, ht⟩ := h
  have hb := next_bd (s := u) (i := 0) (by rw [hn]) (by rw [hn]; exact hk)
  rw [hn] at hb
  obtain ⟨-, -, h1, h2, h3⟩ := hb
  have hsk : skip u 0 = 0 := by
    simp only [Int.toNat_zero] at h1; omega
  cases u with
  | nil => simp at ht h2; omega
  | cons c t =>
    have hs : skipF false (c :: t) = 0 := by unfold skip at hsk; rw [List.drop_zero] at hsk; omega
    obtain ⟨h37, hw⟩ := stop_head hs
    refine ⟨c, t, rfl, h37, hw, ?_⟩
    rw [← hn, next_open c t ⟨h37, hw⟩]
/-- The token of u, where u stands within a longer string. -/
theorem token_ext {u : List UInt8} {x : Tok} (pre m : List UInt8) (h : Single u x) (hm : (regular (Pl.lastC u) || decide (Pl.lastC u = 47)) = true → stops m) :
    token (pre ++ (u ++ m)) pre.length = ({ x with a := pre.length, t := pre.length + u.length }, 0) := by
  obtain ⟨c, t, rfl, h37, hw, hT⟩ := single_head h
  obtain ⟨-, hk, hA, hL⟩ := h
  have hd : (pre ++ (c :: t ++ m)).drop pre.length = c :: (t ++ m) := by rw [List.drop_left]; rfl
  have hd1 : (pre ++ (c :: t ++ m)).drop (pre.length + 1) = t ++ m := by rw [← List.drop_drop, hd]; rfl
  have hTu : token (c :: t) 0 = if c = 91 ∨ c = 93 ∨ c = 123 ∨ c = 125 then mark (c :: t) 0 1
    else if c = 60 then (if t.head? = some c then mark (c :: t) 0 2 else hex (c :: t) 0)
    else if c = 62 then (if t.head? = some c then mark (c :: t) 0 2 else refused 3)
    else if c = 47 then name (c :: t) 0
    else if c = 40 then text (c :: t) 0
    else if c = 41 then refused 3
    else word (c :: t) 0 := by rw [token, List.drop_zero]
  have hTS : token (pre ++ (c :: t ++ m)) pre.length = if c = 91 ∨ c = 93 ∨ c = 123 ∨ c = 125 then mark (pre ++ (c :: t ++ m)) pre.length 1
    else if c = 60 then (if (t ++ m).head? = some c then mark (pre ++ (c :: t ++ m)) pre.length 2 else hex (pre ++ (c :: t ++ m)) pre.length)
    else if c = 62 then (if (t ++ m).head? = some c then mark (pre ++ (c :: t ++ m)) pre.length 2 else refused 3)
    else if c = 47 then name (pre ++ (c :: t ++ m)) pre.length
    else if c = 40 then text (pre ++ (c :: t ++ m)) pre.length
    else if c = 41 then refused 3
    else word (pre ++ (c :: t ++ m)) pre.length := by rw [token, hd]
  rw [hTu] at hT
  rw [hTS]
  have cutS : ∀ n : Nat, n ≤ (c :: t).length → cut (pre ++ (c :: t ++ m)) pre.length (pre.length + n) = (c :: t).take n := by
    intro n hn
    unfold cut
    rw [hd, Nat.add_sub_cancel_left]
    show ((c :: t) ++ m).take n = _
    rw [List.take_append_of_le_length hn]
  have mk : ∀ n : Nat, mark (c :: t) 0 n = (x, 0) → mark (pre ++ (c :: t ++ m)) pre.length n = ({ x with a := pre.length, t := pre.length + (c :: t).length }, 0) := by
    intro n hn
    unfold mark at hn ⊢
    have hx := (Prod.ext_iff.1 hn).1
    simp only at hx
    have hn' : n = (c :: t).length := by rw [← hx] at hL; simp only at hL; omega
    rw [cutS n (by omega), ← hx]
    unfold cut
    rw [List.drop_zero]
    simp only [Prod.mk.injEq, Tok.mk.injEq, and_true, true_and]
    refine ⟨by omega, ?_⟩
    congr 1
    omega
  by_cases g0 : c = 91 ∨ c = 93 ∨ c = 123 ∨ c = 125
  · rw [if_pos g0] at hT ⊢
    exact mk 1 hT
  rw [if_neg g0] at hT ⊢
  by_cases g1 : c = 60
  · rw [if_pos g1] at hT ⊢
    by_cases g : t.head? = some c
    · rw [if_pos g] at hT
      have htn : t ≠ [] := by intro e; rw [e] at g; cases g
      rw [if_pos (by rw [head_app htn]; exact g)]
      exact mk 2 hT
    · rw [if_neg g] at hT
      unfold hex at hT
      rw [show (c :: t).drop (0 + 1) = t from rfl] at hT
      cases hx : hexF (-1) t with
      | inr e => rw [hx] at hT; simp only [refused] at hT; have := (Prod.ext_iff.1 hT).1; simp only at this; rw [← this] at hk; exact absurd rfl hk
      | inl r =>
        rw [hx] at hT
        simp only at hT
        have htn : t ≠ [] := by intro e; subst e; rw [hexF] at hx; cases hx
        rw [if_neg (by rw [head_app htn]; exact g)]
        unfold hex
        rw [hd1, hexF_ext t _ r m hx]
        simp only
        have ht := told_ok (by rw [hT])
        rw [ht] at hT
        have hx' := (Prod.ext_iff.1 hT).1
        simp only at hx'
        unfold told at ht ⊢
        by_cases hl : (32767 : Int) < (r.1.length : Int)
        · rw [if_pos hl] at ht; cases ht
        · rw [if_neg hl, ← hx']
          rw [← hx'] at hL
          simp only at hL
          simp only [Prod.mk.injEq, Tok.mk.injEq, and_true, true_and]
          omega
  rw [if_neg g1] at hT ⊢
  by_cases g2 : c = 62
  · rw [if_pos g2] at hT ⊢
    by_cases g : t.head? = some c
    · rw [if_pos g] at hT
      have htn : t ≠ [] := by intro e; rw [e] at g; cases g
      rw [if_pos (by rw [head_app htn]; exact g)]
      exact mk 2 hT
    · rw [if_neg g] at hT
      simp only [refused] at hT; have := (Prod.ext_iff.1 hT).1; simp only at this; rw [← this] at hk; exact absurd rfl hk
  rw [if_neg g2] at hT ⊢
  by_cases g3 : c = 47
  · rw [if_pos g3] at hT ⊢
    unfold name at hT ⊢
    have hru : run (c :: t) (0 + 1) = 1 + runF t := rfl
    rw [hru] at hT
    have hrS : run (pre ++ (c :: t ++ m)) (pre.length + 1) = pre.length + 1 + runF (t ++ m) := by unfold run; rw [hd1]
    cases hx : nameF (cut (c :: t) (0 + 1) (1 + runF t)) with
    | none => rw [hx] at hT; simp only [refused] at hT; have := (Prod.ext_iff.1 hT).1; simp only at this; rw [← this] at hk; exact absurd rfl hk
    | some y =>
      rw [hx] at hT
      simp only at hT
      have ht := told_ok (by rw [hT])
      rw [ht] at hT
      have hx' := (Prod.ext_iff.1 hT).1
      simp only at hx'
      have hrl : runF t = t.length := by rw [← hx'] at hL; simp only [List.length_cons] at hL; omega
      have hall := runF_all hrl
      have hst : stops m := by
        refine hm ?_
        cases t with
        | nil => rw [g3]; decide
        | cons d t =>
          have : Pl.lastC (c :: d :: t) = Pl.lastC (d :: t) := Pl.lastC_append [c] (d :: t) (by simp)
          rw [this, lastC_all (by simp) hall]; rfl
      rw [hrS, runF_stop t m hall hst]
      have hc2 : cut (pre ++ (c :: t ++ m)) (pre.length + 1) (pre.length + 1 + t.length) = t := by
        unfold cut
        rw [hd1, Nat.add_sub_cancel_left, List.take_left]
      have hc1 : cut (c :: t) (0 + 1) (1 + runF t) = t := by
        unfold cut
        rw [hrl, show 1 + t.length - (0 + 1) = t.length by omega]
        exact List.take_length
      rw [hc1] at hx
      rw [hc2, hx]
      simp only
      unfold told at ht ⊢
      by_cases hl : (127 : Int) < (y.length : Int)
      · rw [if_pos hl] at ht; cases ht
      · rw [if_neg hl, ← hx']
        simp only [Prod.mk.injEq, Tok.mk.injEq, and_true, true_and, List.length_cons]
        omega
  rw [if_neg g3] at hT ⊢
  by_cases g4 : c = 40
  · rw [if_pos g4] at hT ⊢
    unfold text at hT
    rw [show (c :: t).drop (0 + 1) = t from rfl] at hT
    cases hx : textG 0 1 t with
    | none => rw [hx] at hT; simp only [refused] at hT; have := (Prod.ext_iff.1 hT).1; simp only at this; rw [← this] at hk; exact absurd rfl hk
    | some r =>
      rw [hx] at hT
      simp only at hT
      unfold text
      rw [hd1, textG_ext t _ _ r m hx]
      simp only
      have ht := told_ok (by rw [hT])
      rw [ht] at hT
      have hx' := (Prod.ext_iff.1 hT).1
      simp only at hx'
      unfold told at ht ⊢
      by_cases hl : (32767 : Int) < (r.1.length : Int)
      · rw [if_pos hl] at ht; cases ht
      · rw [if_neg hl, ← hx']
        rw [← hx'] at hL
        simp only at hL
        simp only [Prod.mk.injEq, Tok.mk.injEq, and_true, true_and]
        omega
  rw [if_neg g4] at hT ⊢
  by_cases g5 : c = 41
  · rw [if_pos g5] at hT
    simp only [refused] at hT; have := (Prod.ext_iff.1 hT).1; simp only at this; rw [← this] at hk; exact absurd rfl hk
  rw [if_neg g5] at hT ⊢
  unfold word at hT ⊢
  have hwk := wordT_ok (by rw [hT])
  have hru : run (c :: t) 0 = runF (c :: t) := by unfold run; rw [List.drop_zero, Nat.zero_add]
  rw [hru] at hT hwk
  have hrl : runF (c :: t) = (c :: t).length := by
    have := hwk.2.2
    rw [hT] at this
    simp only at this
    omega
  have hall := runF_all hrl
  have hst : stops m := hm (by rw [lastC_all (by simp) hall]; rfl)
  have hrS : run (pre ++ (c :: t ++ m)) pre.length = pre.length + (c :: t).length := by
    unfold run
    rw [hd]
    show _ + runF ((c :: t) ++ m) = _
    rw [runF_stop _ _ hall hst]
  rw [hrl, cut_full] at hT
  rw [hrS, cutS _ (Nat.le_refl _), List.take_length]
  rw [wordT_move (by rw [hT]) (pre.length : Int) ((pre.length + (c :: t).length : Nat) : Int), hT]
  simp only [Prod.mk.injEq, Tok.mk.injEq, and_true, true_and]
  omega
/- JOINS -/
def gap (last : UInt8) (p : List UInt8) : List UInt8 := if (regular last || decide (last = 47)) && (p.head?.any regular) then [32] else []
def joinR : UInt8 → List (List UInt8) → List UInt8
  | _, [] => []
  | last, p :: ps => gap last p ++ (p ++ joinR (Pl.lastC p) ps)
theorem gap_cons (last c : UInt8) (t : List UInt8) : gap last (c :: t) = if ((regular last || decide (last = 47)) && regular c) = true then [32] else [] := rfl
theorem glue_gap (acc p : List UInt8) (h : p ≠ []) : Pl.glue acc p = acc ++ (gap (Pl.lastC acc) p ++ p) := by
  cases p with
  | nil => exact absurd rfl h
  | cons c t =>
    rw [gap_cons, Pl.glue]
    by_cases hc : ((regular (Pl.lastC acc) || decide (Pl.lastC acc = 47)) && regular c) = true
    · rw [if_pos hc, if_pos hc]; simp
    · rw [if_neg hc, if_neg hc]; simp
theorem foldl_joinR : ∀ (ps : List (List UInt8)) (acc : List UInt8), (∀ p ∈ ps, p ≠ []) → ps.foldl Pl.glue acc = acc ++ joinR (Pl.lastC acc) ps
  | [], acc, _ => by simp [joinR]
  | p :: ps, acc, h => by
    have hp := h p (List.mem_cons_self ..)
    rw [List.foldl_cons, foldl_joinR ps _ (fun q hq => h q (List.mem_cons_of_mem _ hq)), Pl.lastC_glue _ _ hp, glue_gap _ _ hp, joinR]
    simp
theorem join_joinR (ps : List (List UInt8)) (h : ∀ p ∈ ps, p ≠ []) : Pl.join ps = joinR 32 ps := by
  rw [Pl.join, foldl_joinR ps [] h]; rfl
/-- The tokens and the parts fit. -/
def Fits (s : List UInt8) : Int → List Tok → List (List UInt8) → Prop
  | a, [], [] => a = s.length
  | a, x :: l, p :: ps => 0 ≤ a ∧ (x.a = a ∨ (x.a = a + 1 ∧ x.a ≤ s.length ∧ cut s a.toNat x.a.toNat = [32])) ∧ x.a ≤ x.t ∧ x.t ≤ s.length ∧ cut s x.a.toNat x.t.toNat = p ∧ Fits s x.t l ps
  | _, _, _ => False
theorem stops_join (last : UInt8) (ps : List (List UInt8)) (h : ∀ p ∈ ps, p ≠ []) (hl : (regular last || decide (last = 47)) = true) : stops (joinR last ps) := by
  intro c t he
  cases ps with
  | nil => cases he
  | cons p ps =>
    have hp := h p (List.mem_cons_self ..)
    cases p with
    | nil => exact absurd rfl hp
    | cons d p =>
      rw [joinR, gap_cons, hl, Bool.true_and] at he
      by_cases hd : regular d = true
      · rw [if_pos hd] at he
        injection he with e1 _
        subst e1; decide
      · rw [if_neg hd] at he
        injection he with e1 _
        subst e1; simpa using hd
theorem joins_chain : ∀ (ps : List (List UInt8)) (pre : List UInt8) (last : UInt8), (∀ p ∈ ps, ∃ x, Single p x) → ∃ l : List Tok, Chain (pre ++ joinR last ps) pre.length l ∧ l.length = ps.length ∧ Fits (pre ++ joinR last ps) pre.length l ps
  | [], pre, last, _ => by
    refine ⟨[], ?_, rfl, ?_⟩
    · simp only [joinR, List.append_nil, Chain]
      refine ⟨by omega, by omega, ?_⟩
      unfold skip
      rw [Int.toNat_natCast, List.drop_length]; rfl
    · simp [joinR, Fits]
  | p :: ps, pre, last, h => by
    obtain ⟨x, hx⟩ := h p (List.mem_cons_self ..)
    have hne : ∀ q ∈ ps, q ≠ [] := by
      intro q hq
      obtain ⟨y, hy⟩ := h q (List.mem_cons_of_mem _ hq)
      obtain ⟨c, t, e, _⟩ := single_head hy
      rw [e]; simp
    obtain ⟨c, t, hp, h37, hw, _⟩ := single_head hx
    have hS : pre ++ joinR last (p :: ps) = (pre ++ gap last p) ++ (p ++ joinR (Pl.lastC p) ps) := by rw [joinR]; simp
    have hS2 : pre ++ joinR last (p :: ps) = (pre ++ gap last p ++ p) ++ joinR (Pl.lastC p) ps := by rw [joinR]; simp
    have hT := token_ext (pre ++ gap last p) (joinR (Pl.lastC p) ps) hx (fun hl => stops_join _ ps hne hl)
    rw [← hS] at hT
    obtain ⟨l, hc, hlen, hf⟩ := joins_chain ps (pre ++ gap last p ++ p) (Pl.lastC p) (fun q hq => h q (List.mem_cons_of_mem _ hq))
    rw [← hS2] at hc hf
    have hgap : gap last p = [] ∨ gap last p = [32] := by unfold gap; split <;> simp
    have hsk : skip (pre ++ joinR last (p :: ps)) pre.length = (pre ++ gap last p).length := by
      unfold skip
      rw [joinR, List.drop_left, List.length_append]
      congr 1
      rcases hgap with e | e
      · rw [e, List.nil_append, hp, List.cons_append, skipF, if_neg h37, if_neg (by rw [hw]; decide)]; rfl
      · rw [e, hp, List.cons_append, List.nil_append, List.cons_append, skipF, if_neg (by decide), if_pos (by decide), skipF, if_neg h37, if_neg (by rw [hw]; decide)]; rfl
    have hlp : (pre ++ joinR last (p :: ps)).length = pre.length + (gap last p).length + p.length + (joinR (Pl.lastC p) ps).length := by
      rw [hS2]; simp; omega
    have hlj : (joinR last (p :: ps)).length = (gap last p).length + p.length + (joinR (Pl.lastC p) ps).length := by rw [joinR]; simp; omega
    have hn : next (pre ++ joinR last (p :: ps)) pre.length = ({ x with a := (pre ++ gap last p).length, t := (pre ++ gap last p).length + p.length }, 0) := by
      unfold next
      rw [if_neg (by omega), Int.toNat_natCast, hsk, hT]
    have hto : (((pre ++ gap last p).length : Nat) : Int) + (p.length : Int) = ((pre ++ gap last p ++ p).length : Nat) := by simp; omega
    refine ⟨{ x with a := (pre ++ gap last p).length, t := (pre ++ gap last p).length + p.length } :: l, ⟨by omega, by omega, hn, hx.2.1, ?_⟩, by simp [hlen], by omega, ?_, by simp only; omega, by simp only [List.length_append]; omega, ?_, ?_⟩
    · simp only; rw [hto]; exact hc
    · simp only
      rcases hgap with e | e
      · left; rw [e]; simp
      · right
        rw [e]
        refine ⟨by simp, by rw [e, List.length_singleton] at hlj; simp only [List.length_append, List.length_singleton]; omega, ?_⟩
        unfold cut
        rw [joinR, e, Int.toNat_natCast, Int.toNat_natCast, List.drop_left, List.length_append, Nat.add_sub_cancel_left]; rfl
    · simp only
      rw [hto, Int.toNat_natCast, Int.toNat_natCast]
      unfold cut
      rw [hS, List.drop_left, show (pre ++ gap last p ++ p).length = (pre ++ gap last p).length + p.length from List.length_append, Nat.add_sub_cancel_left, List.take_left]
    · simp only; rw [hto]; exact hf
theorem chain_upto (s : List UInt8) : ∀ (l : List Tok) (a : Int) (m : Nat), Chain s a l → l.length < m → upto s m a = .inl l
  | [], a, 0, _, h => by simp at h
  | [], a, m + 1, hc, _ => by
    obtain ⟨h0, h1, h2⟩ := hc
    have hn : next s a = (⟨0, s.length, s.length, 0, []⟩, 0) := by
      unfold next
      rw [if_neg (by omega), h2, token, List.drop_length]
    rw [upto, hn, if_neg (by simp), if_pos rfl]
  | x :: l, a, 0, _, h => by simp at h
  | x :: l, a, m + 1, hc, h => by
    obtain ⟨h0, h1, hn, hk, hc⟩ := hc
    rw [upto, hn, if_neg (by simp), if_neg hk, chain_upto s l x.t m hc (by simpa using h)]
theorem joins_upto (ps : List (List UInt8)) (m : Nat) (hm : ps.length < m) (h : ∀ p ∈ ps, ∃ x, Single p x) : ∃ l : List Tok, upto (Pl.join ps) m 0 = .inl l ∧ l.length = ps.length ∧ Fits (Pl.join ps) 0 l ps := by
  have hne : ∀ q ∈ ps, q ≠ [] := by
    intro q hq
    obtain ⟨y, hy⟩ := h q hq
    obtain ⟨c, t, e, _⟩ := single_head hy
    rw [e]; simp
  obtain ⟨l, h1, h2, h3⟩ := joins_chain ps [] 32 h
  rw [List.nil_append, ← join_joinR ps hne] at h1 h3
  exact ⟨l, chain_upto _ l 0 m h1 (by omega), h2, h3⟩
end Lx
end Go.Proofs.YtiklhhdohckfiaaDoor
/- Plain mathematics of layer 17: places of parts, file headers, file ends; no program in sight. -/
namespace Go.Proofs.YtiklhhdohckfiaaDoor
set_option linter.unusedVariables false
set_option linter.unusedSimpArgs false
set_option linter.defProp false
open Go
namespace Hd
open Oc Lx
/- PLACES -/
def last (s p : List UInt8) : Int := if p = [] then -1 else Lib.lastIndex s p
/- HEADERS -/
def mark : List UInt8 := [37, 80, 68, 70, 45]
def startx : List UInt8 := [115, 116, 97, 114, 116, 120, 114, 101, 102]
def eof : List UInt8 := [37, 37, 69, 79, 70]
def headTail : List UInt8 := [10, 37, 226, 227, 207, 211, 10]
def text (m : Int) : List UInt8 × Int := if m < 0 ∨ 9 < m then ([], 2) else (mark ++ [49, 46] ++ [UInt8.ofNat (48 + m.toNat)] ++ headTail, 0)
def start (s : List UInt8) : Int × Int :=
  if last s startx < 0 then (0, 18)
  else if (next s (last s startx + 9)).2 ≠ 0 ∨ (next s (last s startx + 9)).1.k ≠ 1 ∨ (next s (last s startx + 9)).1.n < 0 ∨ (s.length : Int) ≤ (next s (last s startx + 9)).1.n then (0, 18)
  else ((next s (last s startx + 9)).1.n, 0)
def tail (n : Int) : List UInt8 := if n < 0 ∨ 2147483647 < n then [] else startx ++ [10] ++ Lib.itoa n ++ [10] ++ eof ++ [10]
/- ENDS -/
end Hd
end Go.Proofs.YtiklhhdohckfiaaDoor
/- Plain mathematics of layer 17: written headers and tails are read back; ends of a concatenation. -/
namespace Go.Proofs.YtiklhhdohckfiaaDoor
set_option linter.unusedVariables false
set_option linter.unusedSimpArgs false
set_option linter.defProp false
open Go
namespace Hd
open Oc Lx
/- BACK -/
/- CONCATENATIONS -/
theorem last_get {s : List UInt8} (h : s.getLast? = some 10) : 0 < s.length ∧ s[s.length - 1]? = some 10 := by
  rw [List.getLast?_eq_getElem?] at h
  exact ⟨by cases s with | nil => simp at h | cons => simp, h⟩
/- THEY RISE -/
end Hd
end Go.Proofs.YtiklhhdohckfiaaDoor
/- Plain mathematics of layer 55: steps, their lines; no program in sight. -/
namespace Go.Proofs.YtiklhhdohckfiaaDoor
set_option linter.unusedVariables false
set_option linter.unusedSimpArgs false
set_option linter.defProp false
open Go
namespace Sc
open Lx
structure Step where
  k : Int
  a : Int
  b : Int
  s : List UInt8
  t : List UInt8
 deriving DecidableEq
def words : List (List UInt8) := [[111, 112, 101, 110], [110, 101, 119], [112, 117, 116], [100, 114, 111, 112], [105, 110, 115, 101, 114, 116], [114, 101, 109, 111, 118, 101], [109, 111, 118, 101], [110, 97, 109, 101], [102, 105, 108, 108], [99, 108, 101, 97, 110], [115, 97, 118, 101], [114, 101, 111, 112, 101, 110], [116, 101, 120, 116], [102, 105, 110, 100], [99, 111, 117, 110, 116], [111, 98, 106, 101, 99, 116], [97, 117, 100, 105, 116], [115, 112, 111, 105, 108], [111, 117, 116, 108, 105, 110, 101], [102, 105, 101, 108, 100, 115], [99, 111, 110, 116, 101, 110, 116, 115]]
def usesL : List (List UInt8) := [[83], [65], [65, 83], [65], [65, 83], [65], [65, 66], [83, 65], [83, 84], [], [65], [], [65], [83], [], [65], [], [65, 66], [], [], [65]]
def uses (k : Int) : Option (List UInt8) := if 1 ≤ k ∧ k ≤ 21 then usesL[k.toNat - 1]? else none
def check (x : Step) : Int :=
  match uses x.k with
  | none => 10
  | some u => if (65 ∉ u ∧ x.a ≠ 0) ∨ (66 ∉ u ∧ x.b ≠ 0) ∨ (83 ∉ u ∧ x.s ≠ []) ∨ (84 ∉ u ∧ x.t ≠ []) then 10
    else if x.a < 0 ∨ 2147483647 < x.a ∨ x.b < 0 ∨ 2147483647 < x.b then 2
    else if 32767 < x.s.length ∨ 32767 < x.t.length then 5 else 0
def field (x : Step) (c : UInt8) : List UInt8 :=
  if c = 65 then Lib.itoa x.a else if c = 66 then Lib.itoa x.b else if c = 83 then Pl.str x.s else if c = 84 then Pl.str x.t else []
def word (k : Int) : List UInt8 := words.getD (k.toNat - 1) []
/- THE PROGRAM'S WAY BACK -/
def head (l : List UInt8) : List UInt8 := l.takeWhile fun c => c != 32
def put (x : Step) (c : UInt8) (n : Int) (s : List UInt8) : Step :=
  if c = 65 then { x with a := n } else if c = 66 then { x with b := n } else if c = 83 then { x with s := s } else if c = 84 then { x with t := s } else x
def want (c : UInt8) : Int := if c = 65 ∨ c = 66 then 1 else 3
end Sc
end Go.Proofs.YtiklhhdohckfiaaDoor
/- Code in continuation form, by program (gen.py): 6 functions. -/
namespace Go.Proofs.YtiklhhdohckfiaaDoor
set_option linter.unusedVariables false
set_option linter.unusedSimpArgs false
set_option linter.defProp false
set_option linter.unusedVariables false
set_option maxRecDepth 20000
open Eng

/- octet.Digit -/
/- octet.Unhex -/
/- octet.Begins -/
/- octet.Skip -/
/- octet.Line -/
/- octet.ends -/
end Go.Proofs.YtiklhhdohckfiaaDoor
/- Contracts: octet (ends, Begins, Line, Skip, Digit, Unhex) of the program. -/
namespace Go.Proofs.YtiklhhdohckfiaaDoor
set_option linter.unusedVariables false
set_option linter.unusedSimpArgs false
set_option linter.defProp false
open Eng Go.RowKit

end Go.Proofs.YtiklhhdohckfiaaDoor
/- Code in continuation form, by program (gen.py): 17 functions. -/
namespace Go.Proofs.YtiklhhdohckfiaaDoor
set_option linter.unusedVariables false
set_option linter.unusedSimpArgs false
set_option linter.defProp false
set_option linter.unusedVariables false
set_option maxRecDepth 20000
open Eng

/- lex.Next -/
/- lex.All -/
/- lex.Upto -/
/- lex.tokens -/
/- lex.tokens$1 -/
/- (lex.cutter).mark -/
/- lex.refused -/
/- (lex.cutter).run -/
/- (lex.cutter).told -/
/- (lex.cutter).name -/
/- (lex.cutter).end -/
/- (lex.cutter).escaped -/
/- (lex.cutter).text -/
/- (lex.cutter).hex -/
/- lex.class -/
/- lex.whole -/
/- (lex.cutter).word -/
end Go.Proofs.YtiklhhdohckfiaaDoor
/- Contracts: lex (mark, refused, run, told, name, end) of the program. -/
namespace Go.Proofs.YtiklhhdohckfiaaDoor
set_option linter.unusedVariables false
set_option linter.unusedSimpArgs false
set_option linter.defProp false
open Eng Go.RowKit

section
variable {w : World} {PK : List PanicEntry → World → Prop} {K : Value → World → Prop} {S : Nat → Prop} {w0 : World} {L : List Ent}
end
end Go.Proofs.YtiklhhdohckfiaaDoor
/- Contracts: octet.Unhex, names of the program. -/
namespace Go.Proofs.YtiklhhdohckfiaaDoor
set_option linter.unusedVariables false
set_option linter.unusedSimpArgs false
set_option linter.defProp false
open Eng Go.RowKit

end Go.Proofs.YtiklhhdohckfiaaDoor
/- Contracts: names and escapes of the program. -/
namespace Go.Proofs.YtiklhhdohckfiaaDoor
set_option linter.unusedVariables false
set_option linter.unusedSimpArgs false
set_option linter.defProp false
open Eng Go.RowKit

end Go.Proofs.YtiklhhdohckfiaaDoor
/- Contracts: escapes and literal strings of the program. -/
namespace Go.Proofs.YtiklhhdohckfiaaDoor
set_option linter.unusedVariables false
set_option linter.unusedSimpArgs false
set_option linter.defProp false
open Eng Go.RowKit

end Go.Proofs.YtiklhhdohckfiaaDoor
/- Contracts: literal strings of the program. -/
namespace Go.Proofs.YtiklhhdohckfiaaDoor
set_option linter.unusedVariables false
set_option linter.unusedSimpArgs false
set_option linter.defProp false
open Eng Go.RowKit

theorem textG_esc {s : List UInt8} {i o : Nat} (h : i + 1 < s.length) (he : s[i] = 92) : Lx.textG 0 o (s.drop i) = (Lx.textG 0 o (s.drop (i + 1 + (Lx.escF (s.drop (i + 1))).2))).map fun r => ((Lx.escF (s.drop (i + 1))).1 ++ r.1, r.2 + 1 + (Lx.escF (s.drop (i + 1))).2) := by
  have hd := Lx.drop_cons (show i < s.length by omega)
  have hd2 := Lx.drop_cons h
  have h2 := Lx.escF_le (s.drop (i + 1))
  have hn : Lx.eol s[i] = false := by rw [he]; rfl
  rw [hd, Lx.textG, if_neg (by rw [hn]; decide), if_pos he]
  rw [if_neg (by rw [hd2]; exact List.cons_ne_nil _ _), Lx.textG_skip _ _ _ h2, Option.map_map, List.drop_drop]
  congr 1
  funext r
  refine Prod.ext rfl ?_
  simp only [Function.comp]; omega
end Go.Proofs.YtiklhhdohckfiaaDoor
/- Contracts: hexadecimal strings of the program. -/
namespace Go.Proofs.YtiklhhdohckfiaaDoor
set_option linter.unusedVariables false
set_option linter.unusedSimpArgs false
set_option linter.defProp false
open Eng Go.RowKit

end Go.Proofs.YtiklhhdohckfiaaDoor
/- Contracts: words of the program, Next. -/
namespace Go.Proofs.YtiklhhdohckfiaaDoor
set_option linter.unusedVariables false
set_option linter.unusedSimpArgs false
set_option linter.defProp false
open Eng Go.RowKit

end Go.Proofs.YtiklhhdohckfiaaDoor
/- Contract: lex.Next. -/
namespace Go.Proofs.YtiklhhdohckfiaaDoor
set_option linter.unusedVariables false
set_option linter.unusedSimpArgs false
set_option linter.defProp false
open Eng Go.RowKit

end Go.Proofs.YtiklhhdohckfiaaDoor
/- Code in continuation form, by program (gen.py): 20 functions. -/
namespace Go.Proofs.YtiklhhdohckfiaaDoor
set_option linter.unusedVariables false
set_option linter.unusedSimpArgs false
set_option linter.defProp false
set_option linter.unusedVariables false
set_option maxRecDepth 20000
open Eng

/- foliantref03.Run -/
/- foliantref03.Integer -/
/- foliantref03.whole -/
/- foliantref03.point -/
/- foliantref03.long -/
/- foliantref03.word -/
/- foliantref03.name -/
/- foliantref03.escape -/
/- foliantref03.text -/
/- foliantref03.hex -/
/- foliantref03.token -/
/- foliantref03.Next -/
/- foliantref03.Upto -/
/- foliantref03.All -/
/- foliantref03.Same -/
/- foliantref01.Digit -/
/- foliantref01.Unhex -/
/- foliantref01.Begins -/
/- foliantref01.Line -/
/- foliantref01.Skip -/
end Go.Proofs.YtiklhhdohckfiaaDoor
/- Contracts of foliantref01: Digit, Unhex, Begins, Line, Skip. -/
namespace Go.Proofs.YtiklhhdohckfiaaDoor
set_option linter.unusedVariables false
set_option linter.unusedSimpArgs false
set_option linter.defProp false
open Eng Go.RowKit

end Go.Proofs.YtiklhhdohckfiaaDoor
/- Code in continuation form, by program (gen.py): 11 functions. -/
namespace Go.Proofs.YtiklhhdohckfiaaDoor
set_option linter.unusedVariables false
set_option linter.unusedSimpArgs false
set_option linter.defProp false
set_option linter.unusedVariables false
set_option maxRecDepth 20000
open Eng

/- octet.Find -/
/- octet.Last -/
/- head.Version -/
/- head.Text -/
/- head.Start -/
/- head.Tail -/
/- head.ends$1 -/
/- head.ends -/
/- slices.AppendSeq[[]int,int] -/
/- slices.Collect[int] -/
/- head.Ends -/
end Go.Proofs.YtiklhhdohckfiaaDoor
/- Code in continuation form, by program (gen.py): 8 functions. -/
namespace Go.Proofs.YtiklhhdohckfiaaDoor
set_option linter.unusedVariables false
set_option linter.unusedSimpArgs false
set_option linter.defProp false
set_option linter.unusedVariables false
set_option maxRecDepth 20000
open Eng

/- foliantref01.Find -/
/- foliantref01.Last -/
/- foliantref17.Version -/
/- foliantref17.Text -/
/- foliantref17.Start -/
/- foliantref17.Tail -/
/- foliantref17.Ends -/
/- foliantref10.Same -/
end Go.Proofs.YtiklhhdohckfiaaDoor
/- Contracts: octet.Find, octet.Last, and foliantref01's. -/
namespace Go.Proofs.YtiklhhdohckfiaaDoor
set_option linter.unusedVariables false
set_option linter.unusedSimpArgs false
set_option linter.defProp false
open Eng Go.RowKit

/-- bytealg's variable is laid. -/
def Mx (w : World) : Prop := ∃ m, w.cell? ⟨0, 0, none⟩ = some (.int .i64 m)
theorem Mx.own {w0 w : World} {L : List Ent} (h : Mx w0) (ho : Own w0 w L) : Mx w := by
  obtain ⟨m, hm⟩ := h
  exact ⟨m, ho.old hm⟩
end Go.Proofs.YtiklhhdohckfiaaDoor
/- Contracts of foliantref03: Run, Integer, whole, point, long, word, name. -/
namespace Go.Proofs.YtiklhhdohckfiaaDoor
set_option linter.unusedVariables false
set_option linter.unusedSimpArgs false
set_option linter.defProp false
open Eng Go.RowKit

end Go.Proofs.YtiklhhdohckfiaaDoor
/- Contracts of foliantref03: point, long, word, name. -/
namespace Go.Proofs.YtiklhhdohckfiaaDoor
set_option linter.unusedVariables false
set_option linter.unusedSimpArgs false
set_option linter.defProp false
open Eng Go.RowKit

section
variable {w : World} {PK : List PanicEntry → World → Prop} {K : Value → World → Prop}
end
end Go.Proofs.YtiklhhdohckfiaaDoor
/- Contracts of foliantref03: escape, text, hex. -/
namespace Go.Proofs.YtiklhhdohckfiaaDoor
set_option linter.unusedVariables false
set_option linter.unusedSimpArgs false
set_option linter.defProp false
open Eng Go.RowKit

end Go.Proofs.YtiklhhdohckfiaaDoor
/- Contracts of foliantref03: text, hex. -/
namespace Go.Proofs.YtiklhhdohckfiaaDoor
set_option linter.unusedVariables false
set_option linter.unusedSimpArgs false
set_option linter.defProp false
open Eng Go.RowKit

end Go.Proofs.YtiklhhdohckfiaaDoor
/- Contracts of foliantref03: hex, token, Next. -/
namespace Go.Proofs.YtiklhhdohckfiaaDoor
set_option linter.unusedVariables false
set_option linter.unusedSimpArgs false
set_option linter.defProp false
open Eng Go.RowKit

end Go.Proofs.YtiklhhdohckfiaaDoor
/- Contracts: lex.tokens, and the function that it hands back. -/
namespace Go.Proofs.YtiklhhdohckfiaaDoor
set_option linter.unusedVariables false
set_option linter.unusedSimpArgs false
set_option linter.defProp false
open Eng Go.RowKit

section
variable {w : World} {PK : List PanicEntry → World → Prop} {K : Value → World → Prop} {S : Nat → Prop} {w0 : World} {L : List Ent}
end
end Go.Proofs.YtiklhhdohckfiaaDoor
/- Contract: lex.Upto. -/
namespace Go.Proofs.YtiklhhdohckfiaaDoor
set_option linter.unusedVariables false
set_option linter.unusedSimpArgs false
set_option linter.defProp false
open Eng Go.RowKit

section
variable {w : World} {PK : List PanicEntry → World → Prop} {K : Value → World → Prop} {S : Nat → Prop} {w0 : World} {L : List Ent}
end
end Go.Proofs.YtiklhhdohckfiaaDoor
/- Contract: lex.All. -/
namespace Go.Proofs.YtiklhhdohckfiaaDoor
set_option linter.unusedVariables false
set_option linter.unusedSimpArgs false
set_option linter.defProp false
open Eng Go.RowKit

theorem draw {w : World} {F : World → Prop} (h : F w.drew) : DrawX w F := ⟨h⟩
end Go.Proofs.YtiklhhdohckfiaaDoor
/- Tokens and faults are compared. -/
namespace Go.Proofs.YtiklhhdohckfiaaDoor
set_option linter.unusedVariables false
set_option linter.unusedSimpArgs false
set_option linter.defProp false
open Eng Go.RowKit

section
variable {w : World} {PK : List PanicEntry → World → Prop} {K : Value → World → Prop}
end
end Go.Proofs.YtiklhhdohckfiaaDoor
/- Contracts of foliantref03: Upto, All, Same. -/
namespace Go.Proofs.YtiklhhdohckfiaaDoor
set_option linter.unusedVariables false
set_option linter.unusedSimpArgs false
set_option linter.defProp false
open Eng Go.RowKit

end Go.Proofs.YtiklhhdohckfiaaDoor
/- Contracts of foliantref03: All, Same. -/
namespace Go.Proofs.YtiklhhdohckfiaaDoor
set_option linter.unusedVariables false
set_option linter.unusedSimpArgs false
set_option linter.defProp false
open Eng Go.RowKit

end Go.Proofs.YtiklhhdohckfiaaDoor
/- Code in continuation form, by program (gen.py): 4 functions. -/
namespace Go.Proofs.YtiklhhdohckfiaaDoor
set_option linter.unusedVariables false
set_option linter.unusedSimpArgs false
set_option linter.defProp false
set_option linter.unusedVariables false
set_option maxRecDepth 20000
open Eng

/- foliantlaw04.lives -/
/- foliantlaw04.PlainTells -/
/- foliantlaw04.PlainOneWay -/
/- foliantlaw04.PlainPads -/
end Go.Proofs.YtiklhhdohckfiaaDoor
/- The laws of layer 4, walked: lives. -/
namespace Go.Proofs.YtiklhhdohckfiaaDoor
set_option linter.unusedVariables false
set_option linter.unusedSimpArgs false
set_option linter.defProp false
open Eng Go.RowKit

theorem Tb.mono {w w' : World} (h : Tb w) (hb : Below w.heap.size w w') : Tb w' :=
  Go.Joins.tab_stays (show Tryd.prog.globalNamed "internal/strconv.uint64pow10" = some 1 by kernel_rfl) h hb (Nat.le_refl _)
theorem Tb.own {w w' : World} {L : List Ent} (h : Tb w) (ho : Own w w' L) : Tb w' := h.mono ho.done
end Go.Proofs.YtiklhhdohckfiaaDoor
/- The samples of layer 3's laws. -/
namespace Go.Proofs.YtiklhhdohckfiaaDoor
set_option linter.unusedVariables false
set_option linter.unusedSimpArgs false
set_option linter.defProp false
open Eng Go.RowKit

end Go.Proofs.YtiklhhdohckfiaaDoor
/- Code in continuation form, by program (gen.py): 6 functions. -/
namespace Go.Proofs.YtiklhhdohckfiaaDoor
set_option linter.unusedVariables false
set_option linter.unusedSimpArgs false
set_option linter.defProp false
set_option linter.unusedVariables false
set_option maxRecDepth 20000
open Eng

/- foliantlaw03.lives -/
/- foliantlaw03.LexNext -/
/- foliantlaw03.LexAll -/
/- foliantlaw03.LexApart -/
/- foliantlaw03.LexNumbers -/
/- foliantlaw03.LexStrings -/
end Go.Proofs.YtiklhhdohckfiaaDoor
/- foliantlaw03.lives, LexNext. -/
namespace Go.Proofs.YtiklhhdohckfiaaDoor
set_option linter.unusedVariables false
set_option linter.unusedSimpArgs false
set_option linter.defProp false
open Eng Go.RowKit

section
variable {w : World} {PK : List PanicEntry → World → Prop} {K : Value → World → Prop}
end
end Go.Proofs.YtiklhhdohckfiaaDoor
/- Contracts: head.Version, Text, Start, Tail; foliantref17's. -/
namespace Go.Proofs.YtiklhhdohckfiaaDoor
set_option linter.unusedVariables false
set_option linter.unusedSimpArgs false
set_option linter.defProp false
open Eng Go.RowKit

end Go.Proofs.YtiklhhdohckfiaaDoor
/- Contracts: head.ends (an iterator), slices.Collect of int, head.Ends; foliantref17.Ends, foliantref10.Same. -/
namespace Go.Proofs.YtiklhhdohckfiaaDoor
set_option linter.unusedVariables false
set_option linter.unusedSimpArgs false
set_option linter.defProp false
open Eng Go.RowKit

end Go.Proofs.YtiklhhdohckfiaaDoor
/- Code in continuation form, by program (gen.py): 4 functions. -/
namespace Go.Proofs.YtiklhhdohckfiaaDoor
set_option linter.unusedVariables false
set_option linter.unusedSimpArgs false
set_option linter.defProp false
set_option linter.unusedVariables false
set_option maxRecDepth 20000
open Eng

/- foliantlaw17.lives -/
/- foliantlaw17.HeadTells -/
/- foliantlaw17.HeadBack -/
/- foliantlaw17.HeadEnds -/
end Go.Proofs.YtiklhhdohckfiaaDoor
/- Contracts: foliantref17.Ends, foliantref10.Same; foliantlaw17.lives. -/
namespace Go.Proofs.YtiklhhdohckfiaaDoor
set_option linter.unusedVariables false
set_option linter.unusedSimpArgs false
set_option linter.defProp false
open Eng Go.RowKit

end Go.Proofs.YtiklhhdohckfiaaDoor
/- Code in continuation form, by program (gen.py): 18 functions. -/
namespace Go.Proofs.YtiklhhdohckfiaaDoor
set_option linter.unusedVariables false
set_option linter.unusedSimpArgs false
set_option linter.defProp false
set_option linter.unusedVariables false
set_option maxRecDepth 20000
open Eng

/- foliantref55.Words -/
/- foliantref55.Uses -/
/- foliantref55.has -/
/- foliantref55.Check -/
/- foliantref55.Int -/
/- foliantref55.Quote -/
/- foliantref55.line -/
/- foliantref55.Line -/
/- foliantref55.number -/
/- foliantref55.quoted -/
/- foliantref55.Parse -/
/- foliantref55.Text -/
/- foliantref55.Lines -/
/- foliantref55.Read -/
/- foliantref55.Tell -/
/- foliantref55.Same -/
/- foliantref55.Light -/
end Go.Proofs.YtiklhhdohckfiaaDoor
/- Steps in memory; contracts: foliantref55 (Words, Uses, has, Check). -/
namespace Go.Proofs.YtiklhhdohckfiaaDoor
set_option linter.unusedVariables false
set_option linter.unusedSimpArgs false
set_option linter.defProp false
open Eng Go.RowKit

section
variable {w : World} {PK : List PanicEntry → World → Prop} {K : Value → World → Prop} {S : Nat → Prop} {w0 : World} {L : List Ent}
end
abbrev StrRow (v : Value) (l : List (List UInt8)) : Ent := .row 9 1 v l.length (strsV l)
end Go.Proofs.YtiklhhdohckfiaaDoor
/- Contracts: foliantref07 (number, leaf, Parts). -/
namespace Go.Proofs.YtiklhhdohckfiaaDoor
set_option linter.unusedVariables false
set_option linter.unusedSimpArgs false
set_option linter.defProp false
open Eng Go.RowKit

/-- A kid is read, wherever its memory is as it was. -/
theorem kid_at {A : Nat → Prop} {wb : World} {o : Ob} {vk vc : Value} {cs : List Value} (h : ObAt A wb o vk vc cs) {i : Nat} (hi : i < o.kids.length) :
    ∃ v p, OV A wb v o.kids[i] ∧ ∀ W, Kept A wb W → (mIA 23 vc (.int .i64 (i : Int))).run Tryd.prog W = .ok (.value (.pointer (some p))) W ∧ (mLoad 25 (.pointer (some p))).run Tryd.prog W = .ok (.value v) W := by
  obtain ⟨b, off, cap, rfl, _⟩ := sl_open h.kids.1 (by omega)
  obtain ⟨a, hl, hov, hget⟩ := OVs.get _ _ i hi h.all
  refine ⟨.agg a.toArray, ⟨b, off + i * 6, none⟩, hov, fun W hk => ⟨?_, ?_⟩⟩
  · have := run_ia (P := Tryd.prog) (T := 23) (b := b) (off := off) (cap := cap) (n := o.kids.length) (k := .i64) (i := (i : Int)) (w := W) Tryd.underlying23 szOb (by omega) (by omega)
    rw [Int.toNat_natCast] at this
    exact this
  · obtain ⟨b', off', cap', he, hc⟩ := sl_open (h.kept hk).kids.1 (by omega)
    cases he
    refine run_load_at (v := .agg a.toArray) (AtV.agg aggOb hl fun j v hj => ?_)
    rw [Nat.add_assoc]
    exact hc _ _ (hget j v hj)
theorem key_at {A : Nat → Prop} {wb : World} {o : Ob} {vk vc : Value} {cs : List Value} (h : ObAt A wb o vk vc cs) {i : Nat} (hi : i < o.keys.length) :
    ∃ p, ∀ W, Kept A wb W → (mIA 22 vk (.int .i64 (i : Int))).run Tryd.prog W = .ok (.value (.pointer (some p))) W ∧ (mLoad 9 (.pointer (some p))).run Tryd.prog W = .ok (.value (.string ⟨o.keys[i].toArray⟩)) W := by
  obtain ⟨b, off, cap, rfl, _⟩ := sl_open h.keys.1 (by omega)
  refine ⟨⟨b, off + i, none⟩, fun W hk => ⟨?_, ?_⟩⟩
  · have := run_ia (P := Tryd.prog) (T := 22) (b := b) (off := off) (cap := cap) (n := o.keys.length) (k := .i64) (i := (i : Int)) (w := W) Tryd.underlying22 (show _ = some 1 by kernel_rfl) (by omega) (by omega)
    rw [Int.toNat_natCast, Nat.mul_one] at this
    exact this
  · obtain ⟨b', off', cap', he, hc⟩ := sl_open (h.kept hk).keys.1 (by omega)
    cases he
    exact run_load_cell nStr5 (hc i _ (strsV_get hi))
theorem sl_one5 {w : World} {v : Value} {sz n : Nat} {cs : List Value} (h : Sl w v sz n cs) : v.oneCell' = true := by
  obtain ⟨_, a, cap, rfl, _⟩ := h
  rfl
theorem strsV_one' {l : List (List UInt8)} : ∀ x ∈ strsV l, x.oneCell' = true := by
  intro x hx
  obtain ⟨y, _, rfl⟩ := List.mem_map.1 hx
  rfl
section
variable {w : World} {PK : List PanicEntry → World → Prop} {K : Value → World → Prop} {S : Nat → Prop} {w0 : World} {L : List Ent}
/-- append of a slice of strings. -/
theorem o_appSs (i : Nat) {v v2 : Value} {xs ys : List (List UInt8)} {cs : Array Bool} (ho : OwnS S w0 w L) (hi : L[i]? = some (StrRow v xs)) (hs : Sl w v2 1 ys.length (strsV ys)) (hb : xs.length + ys.length ≤ 1099511627776)
    (k : ∀ v' w', OwnS S w0 w' (L.set i (StrRow v' (xs ++ ys))) → K v' w') : DoX Tryd.prog (mB .append #[22, 22] 22 cs #[v, v2]) w PK K := by
  refine o_append i Tryd.underlying22 (show elB Tryd.prog 9 1 16 = true by kernel_rfl) (by decide) ho hi hs strsV_one' (by omega) (by omega) fun v' w' h => k v' w' ?_
  have e : StrRow v' (xs ++ ys) = .row 9 1 v' (xs.length + ys.length) (strsV xs ++ strsV ys) := by
    rw [StrRow, List.length_append]; simp [strsV]
  rw [e]; exact h
/-- append of one string. -/
theorem o_appS1 (i : Nat) {v : Value} {xs : List (List UInt8)} {y : List UInt8} {cs : Array Bool} {PK2 : List PanicEntry → World → Prop} (ho : OwnS S w0 w L) (hi : L[i]? = some (StrRow v xs)) (hb : xs.length ≤ 100000000000)
    (k : ∀ v' w', OwnS S w0 w' (L.set i (StrRow v' (xs ++ [y]))) → K v' w') :
    DoX Tryd.prog (mBuildS 22 1 #[(0, .string ⟨y.toArray⟩)]) w PK fun t w => DoX Tryd.prog (mB .append #[22, 22] 22 cs #[v, t]) w PK2 K := by
  refine o_new (fun b => .slice (some ⟨b, 0, none⟩) 1 1) [.string ⟨y.toArray⟩] 9 (fun _ => by kernel_rfl) ho fun nb w4 h4 => ?_
  refine o_appSs (i + 1) h4 (by rw [List.getElem?_cons_succ]; exact hi) (ys := [y]) (h4.sl 0 rfl 1 1 1 rfl) (by simp; omega) fun v' w5 h5 => k v' w5 h5.tail
end
theorem why_fields {d : Nat} {o : Ob} (h : Vl.why d o = 0) : d ≤ 24 ∧ Vl.usesOk o = true ∧ ¬ (o.k = 9 ∧ 1 < d) ∧ Vl.fits o = true ∧ o.s.length ≤ Vl.long o.k ∧ o.kids.length ≤ 8191 ∧ Vl.form o = true := by
  unfold Vl.why at h
  split at h
  · cases h
  split at h
  · cases h
  split at h
  · cases h
  split at h
  · cases h
  split at h
  · cases h
  split at h
  · cases h
  rename_i h1 h2 h3 h4 h5 h6
  rw [not_or] at h2
  exact ⟨by omega, by simpa using h2.1, h2.2, by simpa using h3, by omega, by omega, by simpa using h6⟩
end Go.Proofs.YtiklhhdohckfiaaDoor
/- Code in continuation form, by program (gen.py): 9 functions. -/
namespace Go.Proofs.YtiklhhdohckfiaaDoor
set_option linter.unusedVariables false
set_option linter.unusedSimpArgs false
set_option linter.defProp false
set_option linter.unusedVariables false
set_option maxRecDepth 20000
open Eng

/- write.single -/
def S_write_single_0 (t3 : Value) (w : World) (K : Ending → World → Prop) : Prop :=
 DoX Tryd.prog (mBuildS 22 1 #[(0, t3)]) w (pk K) fun t68 w =>
 K (.returned t68) w
def S_write_single (t0 : Value) (w : World) (K : Ending → World → Prop) : Prop :=
 DoX Tryd.prog (mBox 25 t0) w (pk K) fun t1 w =>
 JoinX (fun J1 =>
 DoX Tryd.prog (mFA 25 t1 0) w (pk K) fun t8 w =>
 DoX Tryd.prog (mLoad 3 t8) w (pk K) fun t9 w =>
 DoX Tryd.prog (mEq .eql 3 (.tmp 9) (.const (.int .i64 0)) t9 (.int .i64 0)) w (pk K) fun t11 w =>
 IfX t11 (J1 [(.string ⟨#[110, 117, 108, 108]⟩)] w) (DoX Tryd.prog (mEq .eql 3 (.tmp 9) (.const (.int .i64 1)) t9 (.int .i64 1)) w (pk K) fun t13 w =>
 IfX t13 (DoX Tryd.prog (mBuild 63 #[(0, (.string ⟨#[102, 97, 108, 115, 101]⟩)), (1, (.string ⟨#[116, 114, 117, 101]⟩))]) w (pk K) fun t14 w =>
 DoX Tryd.prog (mFA 25 t1 1) w (pk K) fun t15 w =>
 DoX Tryd.prog (mLoad 2 t15) w (pk K) fun t16 w =>
 DoX Tryd.prog (mIx 63 t14 t16) w (pk K) fun t17 w =>
 J1 [t17] w) (DoX Tryd.prog (mEq .eql 3 (.tmp 9) (.const (.int .i64 2)) t9 (.int .i64 2)) w (pk K) fun t19 w =>
 IfX t19 (DoX Tryd.prog (mFA 25 t1 1) w (pk K) fun t21 w =>
 DoX Tryd.prog (mLoad 2 t21) w (pk K) fun t22 w =>
 CallX Tryd.prog 46 #[t22] w (pk K) fun t23 w =>
 DoX Tryd.prog (mExt t23 0) w (pk K) fun t24 w =>
 DoX Tryd.prog (mExt t23 1) w (pk K) fun t25 w =>
 J1 [t24] w) (DoX Tryd.prog (mEq .eql 3 (.tmp 9) (.const (.int .i64 3)) t9 (.int .i64 3)) w (pk K) fun t27 w =>
 IfX t27 (DoX Tryd.prog (mFA 25 t1 1) w (pk K) fun t29 w =>
 DoX Tryd.prog (mLoad 2 t29) w (pk K) fun t30 w =>
 CallX Tryd.prog 47 #[t30] w (pk K) fun t31 w =>
 DoX Tryd.prog (mExt t31 0) w (pk K) fun t32 w =>
 DoX Tryd.prog (mExt t31 1) w (pk K) fun t33 w =>
 J1 [t32] w) (DoX Tryd.prog (mEq .eql 3 (.tmp 9) (.const (.int .i64 4)) t9 (.int .i64 4)) w (pk K) fun t35 w =>
 IfX t35 (DoX Tryd.prog (mFA 25 t1 3) w (pk K) fun t37 w =>
 DoX Tryd.prog (mLoad 9 t37) w (pk K) fun t38 w =>
 CallX Tryd.prog 48 #[t38] w (pk K) fun t39 w =>
 DoX Tryd.prog (mExt t39 0) w (pk K) fun t40 w =>
 DoX Tryd.prog (mExt t39 1) w (pk K) fun t41 w =>
 J1 [t40] w) (DoX Tryd.prog (mEq .eql 3 (.tmp 9) (.const (.int .i64 5)) t9 (.int .i64 5)) w (pk K) fun t43 w =>
 IfX t43 (DoX Tryd.prog (mFA 25 t1 3) w (pk K) fun t45 w =>
 DoX Tryd.prog (mLoad 9 t45) w (pk K) fun t46 w =>
 CallX Tryd.prog 35 #[t46] w (pk K) fun t47 w =>
 DoX Tryd.prog (mExt t47 0) w (pk K) fun t48 w =>
 DoX Tryd.prog (mExt t47 1) w (pk K) fun t49 w =>
 J1 [t48] w) (DoX Tryd.prog (mEq .eql 3 (.tmp 9) (.const (.int .i64 8)) t9 (.int .i64 8)) w (pk K) fun t51 w =>
 IfX t51 (DoX Tryd.prog (mFA 25 t1 1) w (pk K) fun t53 w =>
 DoX Tryd.prog (mLoad 2 t53) w (pk K) fun t54 w =>
 CallX Tryd.prog 46 #[t54] w (pk K) fun t55 w =>
 DoX Tryd.prog (mExt t55 0) w (pk K) fun t56 w =>
 DoX Tryd.prog (mExt t55 1) w (pk K) fun t57 w =>
 DoX Tryd.prog (mFA 25 t1 2) w (pk K) fun t59 w =>
 DoX Tryd.prog (mLoad 3 t59) w (pk K) fun t60 w =>
 CallX Tryd.prog 46 #[t60] w (pk K) fun t61 w =>
 DoX Tryd.prog (mExt t61 0) w (pk K) fun t62 w =>
 DoX Tryd.prog (mExt t61 1) w (pk K) fun t63 w =>
 DoX Tryd.prog (mBuildS 22 3 #[(0, t56), (1, t62), (2, (.string ⟨#[82]⟩))]) w (pk K) fun t66 w =>
 K (.returned t66) w) (J1 [(.string ⟨#[]⟩)] w)))))))) (fun vs1 w => ∀ _ : Sg, S_write_single_0 (vs1.getD 0 undef) w K)
theorem S_write_single_eq (t0 : Value) (w : World) (K : Ending → World → Prop) : wpX Tryd.prog 69 [(19, [3])] [] none (bodyOf Tryd.f34) (topQ Tryd.prog [.tmp 2] K) (startX [t0]) [] w = S_write_single t0 w K := by kernel_rfl
theorem S_write_single_ok {t0 : Value} {w : World} {K : Ending → World → Prop} (h : S_write_single t0 w K) : Calls Tryd.prog 34 #[t0] w K :=
  calls_of_wpX Tryd.func34 rfl rfl rfl rfl (Eq.mpr (S_write_single_eq t0 w K) h)

/- write.parts$1$1 -/
def S_write_parts_1_1_3 (t2 t9 t40 : Value) (w : World) (N3 : List Value → World → Prop) (K : Ending → World → Prop) : Prop :=
 DoX Tryd.prog (mLoad 62 t2) w (pk K) fun t61 w =>
 DoX Tryd.prog (mLoad 25 t9) w (pk K) fun t62 w =>
 DoX Tryd.prog (mCallV t61 #[t62]) w (pk K) fun t63 w =>
 DoX Tryd.prog (mUn .not t63) w (pk K) fun t64 w =>
 IfX t64 (K (.returned (.bool false)) w) (DoX Tryd.prog (mBin .add 3 t40 (.int .i64 1)) w (pk K) fun t65 w =>
 N3 [t65] w)
def S_write_parts_1_1_2 (t1 t2 t3 t5 t38 t39 t40 : Value) (w : World) (N3 : List Value → World → Prop) (K : Ending → World → Prop) : Prop :=
 DoX Tryd.prog (mBin .lss 3 t40 t39) w (pk K) fun t41 w =>
 IfX t41 (DoX Tryd.prog (mIA 23 t38 t40) w (pk K) fun t43 w =>
 DoX Tryd.prog (mLoad 25 t43) w (pk K) fun t44 w =>
 DoX Tryd.prog (mAlloc 25) w (pk K) fun t9 w =>
 DoX Tryd.prog (mStore 25 t9 t44) w (pk K) fun _ w =>
 JoinX (fun J4 =>
 DoX Tryd.prog (mFA 25 t3 0) w (pk K) fun t45 w =>
 DoX Tryd.prog (mLoad 3 t45) w (pk K) fun t46 w =>
 DoX Tryd.prog (mEq .eql 3 (.tmp 46) (.const (.int .i64 7)) t46 (.int .i64 7)) w (pk K) fun t47 w =>
 IfX t47 (DoX Tryd.prog (mFA 25 t3 4) w (pk K) fun t49 w =>
 DoX Tryd.prog (mLoad 22 t49) w (pk K) fun t50 w =>
 DoX Tryd.prog (mIA 22 t50 t40) w (pk K) fun t52 w =>
 DoX Tryd.prog (mLoad 9 t52) w (pk K) fun t53 w =>
 CallX Tryd.prog 35 #[t53] w (pk K) fun t54 w =>
 DoX Tryd.prog (mExt t54 0) w (pk K) fun t55 w =>
 DoX Tryd.prog (mExt t54 1) w (pk K) fun t56 w =>
 DoX Tryd.prog (mLoad 61 t1) w (pk K) fun t57 w =>
 DoX Tryd.prog (mCallV t57 #[t55]) w (pk K) fun t59 w =>
 DoX Tryd.prog (mUn .not t59) w (pk K) fun t60 w =>
 IfX t60 (K (.returned (.bool false)) w) (J4 [] w)) (J4 [] w)) (fun vs4 w => ∀ _ : Sg, S_write_parts_1_1_3 t2 t9 t40 w N3 K)) (DoX Tryd.prog (mLoad 61 t1) w (pk K) fun t66 w =>
 DoX Tryd.prog (mIA 63 t5 (.int .i64 1)) w (pk K) fun t67 w =>
 DoX Tryd.prog (mLoad 9 t67) w (pk K) fun t68 w =>
 DoX Tryd.prog (mCallV t66 #[t68]) w (pk K) fun t69 w =>
 K (.returned t69) w)
def S_write_parts_1_1_1 (t1 t2 t3 t5 : Value) (w : World) (K : Ending → World → Prop) : Prop :=
 DoX Tryd.prog (mLoad 61 t1) w (pk K) fun t32 w =>
 DoX Tryd.prog (mIA 63 t5 (.int .i64 0)) w (pk K) fun t33 w =>
 DoX Tryd.prog (mLoad 9 t33) w (pk K) fun t34 w =>
 DoX Tryd.prog (mCallV t32 #[t34]) w (pk K) fun t35 w =>
 DoX Tryd.prog (mUn .not t35) w (pk K) fun t36 w =>
 IfX t36 (K (.returned (.bool false)) w) (DoX Tryd.prog (mFA 25 t3 5) w (pk K) fun t37 w =>
 DoX Tryd.prog (mLoad 23 t37) w (pk K) fun t38 w =>
 DoX Tryd.prog (mB .len #[23] 3 #[false] #[t38]) w (pk K) fun t39 w =>
 LoopX [(.int .i64 0)] w (fun vs3 w N3 => ∀ _ : Sg, S_write_parts_1_1_2 t1 t2 t3 t5 t38 t39 (vs3.getD 0 undef) w N3 K))
def S_write_parts_1_1_0 (t1 t16 t17 t18 : Value) (w : World) (N2 : List Value → World → Prop) (K : Ending → World → Prop) : Prop :=
 DoX Tryd.prog (mBin .lss 3 t18 t17) w (pk K) fun t19 w =>
 IfX t19 (DoX Tryd.prog (mIA 22 t16 t18) w (pk K) fun t20 w =>
 DoX Tryd.prog (mLoad 9 t20) w (pk K) fun t21 w =>
 DoX Tryd.prog (mLoad 61 t1) w (pk K) fun t22 w =>
 DoX Tryd.prog (mCallV t22 #[t21]) w (pk K) fun t24 w =>
 DoX Tryd.prog (mUn .not t24) w (pk K) fun t25 w =>
 IfX t25 (K (.returned (.bool false)) w) (DoX Tryd.prog (mBin .add 3 t18 (.int .i64 1)) w (pk K) fun t26 w =>
 N2 [t26] w)) (K (.returned (.bool true)) w)
def S_write_parts_1_1 (t0 t1 t2 : Value) (w : World) (K : Ending → World → Prop) : Prop :=
 DoX Tryd.prog (mBox 25 t0) w (pk K) fun t3 w =>
 DoX Tryd.prog (mBuild 63 #[(0, (.string ⟨#[91]⟩)), (1, (.string ⟨#[93]⟩))]) w (pk K) fun t12 w =>
 DoX Tryd.prog (mAlloc 63) w (pk K) fun t5 w =>
 DoX Tryd.prog (mStore 63 t5 t12) w (pk K) fun _ w =>
 JoinX (fun J1 =>
 DoX Tryd.prog (mFA 25 t3 0) w (pk K) fun t13 w =>
 DoX Tryd.prog (mLoad 3 t13) w (pk K) fun t14 w =>
 DoX Tryd.prog (mEq .eql 3 (.tmp 14) (.const (.int .i64 6)) t14 (.int .i64 6)) w (pk K) fun t28 w =>
 IfX t28 (J1 [] w) (DoX Tryd.prog (mEq .eql 3 (.tmp 14) (.const (.int .i64 7)) t14 (.int .i64 7)) w (pk K) fun t30 w =>
 IfX t30 (DoX Tryd.prog (mBuild 63 #[(0, (.string ⟨#[60, 60]⟩)), (1, (.string ⟨#[62, 62]⟩))]) w (pk K) fun t31 w =>
 DoX Tryd.prog (mStore 63 t5 t31) w (pk K) fun _ w =>
 J1 [] w) (DoX Tryd.prog (mLoad 25 t3) w (pk K) fun t15 w =>
 CallX Tryd.prog 34 #[t15] w (pk K) fun t16 w =>
 DoX Tryd.prog (mB .len #[22] 3 #[false] #[t16]) w (pk K) fun t17 w =>
 LoopX [(.int .i64 0)] w (fun vs2 w N2 => ∀ _ : Sg, S_write_parts_1_1_0 t1 t16 t17 (vs2.getD 0 undef) w N2 K)))) (fun vs1 w => ∀ _ : Sg, S_write_parts_1_1_1 t1 t2 t3 t5 w K)
theorem S_write_parts_1_1_eq (t0 t1 t2 : Value) (w : World) (K : Ending → World → Prop) : wpX Tryd.prog 70 [(13, []), (22, [])] [(4, [18]), (16, [40])] none (bodyOf Tryd.f33) (topQ Tryd.prog [.tmp 4] K) (startX [t0, t1, t2]) [] w = S_write_parts_1_1 t0 t1 t2 w K := by kernel_rfl
theorem S_write_parts_1_1_ok {t0 t1 t2 : Value} {w : World} {K : Ending → World → Prop} (h : S_write_parts_1_1 t0 t1 t2 w K) : Calls Tryd.prog 33 #[t0, t1, t2] w K :=
  calls_of_wpX Tryd.func33 rfl rfl rfl rfl (Eq.mpr (S_write_parts_1_1_eq t0 t1 t2 w K) h)

/- write.parts$1 -/
def S_write_parts_1 (t0 t1 : Value) (w : World) (K : Ending → World → Prop) : Prop :=
 DoX Tryd.prog (mBox 61 t0) w (pk K) fun t2 w =>
 DoX Tryd.prog (mAlloc 62) w (pk K) fun t3 w =>
 DoX Tryd.prog (mFunc (.func 33) #[] #[t2, t3]) w (pk K) fun t4 w =>
 DoX Tryd.prog (mStore 62 t3 t4) w (pk K) fun _ w =>
 DoX Tryd.prog (mLoad 62 t3) w (pk K) fun t5 w =>
 DoX Tryd.prog (mLoad 25 t1) w (pk K) fun t6 w =>
 DoX Tryd.prog (mCallV t5 #[t6]) w (pk K) fun t7 w =>
 K (.returned (.tuple #[])) w
theorem S_write_parts_1_eq (t0 t1 : Value) (w : World) (K : Ending → World → Prop) : wpX Tryd.prog 8 [] [] none (bodyOf Tryd.f32) (topQ Tryd.prog [] K) (startX [t0, t1]) [] w = S_write_parts_1 t0 t1 w K := by kernel_rfl
theorem S_write_parts_1_ok {t0 t1 : Value} {w : World} {K : Ending → World → Prop} (h : S_write_parts_1 t0 t1 w K) : Calls Tryd.prog 32 #[t0, t1] w K :=
  calls_of_wpX Tryd.func32 rfl rfl rfl rfl (Eq.mpr (S_write_parts_1_eq t0 t1 w K) h)

/- write.parts -/
def S_write_parts (t0 : Value) (w : World) (K : Ending → World → Prop) : Prop :=
 DoX Tryd.prog (mBox 25 t0) w (pk K) fun t1 w =>
 DoX Tryd.prog (mFunc (.func 32) #[] #[t1]) w (pk K) fun t3 w =>
 K (.returned t3) w
theorem S_write_parts_eq (t0 : Value) (w : World) (K : Ending → World → Prop) : wpX Tryd.prog 4 [] [] none (bodyOf Tryd.f21) (topQ Tryd.prog [.tmp 2] K) (startX [t0]) [] w = S_write_parts t0 w K := by kernel_rfl
theorem S_write_parts_ok {t0 : Value} {w : World} {K : Ending → World → Prop} (h : S_write_parts t0 w K) : Calls Tryd.prog 21 #[t0] w K :=
  calls_of_wpX Tryd.func21 rfl rfl rfl rfl (Eq.mpr (S_write_parts_eq t0 w K) h)

/- slices.AppendSeq[[]string,string] -/
def S_slices_AppendSeq_string_string_p0 (x0 : Nat) (K : Ending → World → Prop) := pdM Tryd.prog [.val (.slice none 0 0)] K [(mkD x0)]
def S_slices_AppendSeq_string_string (t0 t1 : Value) (w : World) (K : Ending → World → Prop) : Prop :=
 DoX Tryd.prog (mBox 22 t0) w (pk K) fun t2 w =>
 RangeX Tryd.prog none 1 t1 w (fun l1 as1 w R1 =>
 BegX Tryd.prog l1 w (fun w =>
 DoX Tryd.prog (mLoad 22 t2) w pkR fun t8 w =>
 DoX Tryd.prog (mBuildS 22 1 #[(0, (as1.getD 0 undef))]) w pkR fun t10 w =>
 DoX Tryd.prog (mB .append #[22, 22] 22 #[false, false] #[t8, t10]) w pkR fun t11 w =>
 DoX Tryd.prog (mStore 22 t2 t11) w pkR fun _ w =>
 EndX Tryd.prog l1 none w R1))
 [(none, fun r1 w =>
 DoX Tryd.prog (mLoad 22 t2) w (S_slices_AppendSeq_string_string_p0 r1 K) fun t12 w =>
 LeaveM Tryd.prog [.val t12] K [(mkD r1)] .returning w)]
theorem S_slices_AppendSeq_string_string_eq (t0 t1 : Value) (w : World) (K : Ending → World → Prop) : wpX Tryd.prog 13 [] [] none (bodyOf Tryd.f31) (topM Tryd.prog [.tmp 4] K) (startX [t0, t1]) [] w = S_slices_AppendSeq_string_string t0 t1 w K := by kernel_rfl
theorem S_slices_AppendSeq_string_string_ok {t0 t1 : Value} {w : World} {K : Ending → World → Prop} (h : S_slices_AppendSeq_string_string t0 t1 w K) : Calls Tryd.prog 31 #[t0, t1] w K :=
  calls_of_wpM Tryd.func31 rfl rfl rfl rfl (Eq.mpr (S_slices_AppendSeq_string_string_eq t0 t1 w K) h)

/- slices.Collect[string] -/
def S_slices_Collect_string (t0 : Value) (w : World) (K : Ending → World → Prop) : Prop :=
 CallX Tryd.prog 31 #[(.slice none 0 0), t0] w (pk K) fun t4 w =>
 K (.returned t4) w
theorem S_slices_Collect_string_eq (t0 : Value) (w : World) (K : Ending → World → Prop) : wpX Tryd.prog 5 [] [] none (bodyOf Tryd.f20) (topQ Tryd.prog [.tmp 2] K) (startX [t0]) [] w = S_slices_Collect_string t0 w K := by kernel_rfl
theorem S_slices_Collect_string_ok {t0 : Value} {w : World} {K : Ending → World → Prop} (h : S_slices_Collect_string t0 w K) : Calls Tryd.prog 20 #[t0] w K :=
  calls_of_wpX Tryd.func20 rfl rfl rfl rfl (Eq.mpr (S_slices_Collect_string_eq t0 w K) h)

/- write.Text -/
def S_write_Text (t0 : Value) (w : World) (K : Ending → World → Prop) : Prop :=
 DoX Tryd.prog (mBox 25 t0) w (pk K) fun t1 w =>
 DoX Tryd.prog (mLoad 25 t1) w (pk K) fun t5 w =>
 CallX Tryd.prog 18 #[t5] w (pk K) fun t6 w =>
 DoX Tryd.prog (mEq .neq 28 (.tmp 7) (.const (.int .i64 0)) t6 (.int .i64 0)) w (pk K) fun t8 w =>
 IfX t8 (K (.returned (.tuple #[(.string ⟨#[]⟩), t6])) w) (DoX Tryd.prog (mFA 25 t1 0) w (pk K) fun t10 w =>
 DoX Tryd.prog (mLoad 3 t10) w (pk K) fun t11 w =>
 DoX Tryd.prog (mEq .eql 3 (.tmp 11) (.const (.int .i64 9)) t11 (.int .i64 9)) w (pk K) fun t12 w =>
 IfX t12 (K (.returned (.tuple #[(.string ⟨#[]⟩), (.int .i64 10)])) w) (DoX Tryd.prog (mLoad 25 t1) w (pk K) fun t13 w =>
 CallX Tryd.prog 21 #[t13] w (pk K) fun t14 w =>
 CallX Tryd.prog 20 #[t14] w (pk K) fun t15 w =>
 CallX Tryd.prog 19 #[t15] w (pk K) fun t16 w =>
 K (.returned (.tuple #[t16, (.int .i64 0)])) w))
theorem S_write_Text_eq (t0 : Value) (w : World) (K : Ending → World → Prop) : wpX Tryd.prog 17 [] [] none (bodyOf Tryd.f6) (topQ Tryd.prog [.tmp 2, .tmp 3] K) (startX [t0]) [] w = S_write_Text t0 w K := by kernel_rfl
theorem S_write_Text_ok {t0 : Value} {w : World} {K : Ending → World → Prop} (h : S_write_Text t0 w K) : Calls Tryd.prog 6 #[t0] w K :=
  calls_of_wpX Tryd.func6 rfl rfl rfl rfl (Eq.mpr (S_write_Text_eq t0 w K) h)

/- write.Many -/
def S_write_Many_0 (t4 t9 t10 t11 : Value) (w : World) (N1 : List Value → World → Prop) (K : Ending → World → Prop) : Prop :=
 DoX Tryd.prog (mBin .lss 3 t11 t10) w (pk K) fun t12 w =>
 IfX t12 (DoX Tryd.prog (mIA 23 t9 t11) w (pk K) fun t13 w =>
 DoX Tryd.prog (mLoad 25 t13) w (pk K) fun t14 w =>
 DoX Tryd.prog (mAlloc 25) w (pk K) fun t6 w =>
 DoX Tryd.prog (mStore 25 t6 t14) w (pk K) fun _ w =>
 DoX Tryd.prog (mLoad 25 t6) w (pk K) fun t16 w =>
 CallX Tryd.prog 6 #[t16] w (pk K) fun t17 w =>
 DoX Tryd.prog (mExt t17 0) w (pk K) fun t18 w =>
 DoX Tryd.prog (mExt t17 1) w (pk K) fun t19 w =>
 DoX Tryd.prog (mEq .neq 28 (.tmp 20) (.const (.int .i64 0)) t19 (.int .i64 0)) w (pk K) fun t21 w =>
 IfX t21 (K (.returned (.tuple #[(.string ⟨#[]⟩), t19])) w) (CallX Tryd.prog 24 #[t4, t18] w (pk K) fun t24 w =>
 CallX Tryd.prog 25 #[t4, (.int .u8 10)] w (pk K) fun t25 w =>
 DoX Tryd.prog (mBin .add 3 t11 (.int .i64 1)) w (pk K) fun t26 w =>
 N1 [t26] w)) (CallX Tryd.prog 26 #[t4] w (pk K) fun t27 w =>
 K (.returned (.tuple #[t27, (.int .i64 0)])) w)
def S_write_Many (t0 : Value) (w : World) (K : Ending → World → Prop) : Prop :=
 DoX Tryd.prog (mAlloc 50) w (pk K) fun t4 w =>
 DoX Tryd.prog (mB .len #[23] 3 #[false] #[t0]) w (pk K) fun t10 w =>
 LoopX [(.int .i64 0)] w (fun vs1 w N1 => ∀ _ : Sg, S_write_Many_0 t4 t0 t10 (vs1.getD 0 undef) w N1 K)
theorem S_write_Many_eq (t0 : Value) (w : World) (K : Ending → World → Prop) : wpX Tryd.prog 28 [] [(3, [11])] none (bodyOf Tryd.f13) (topQ Tryd.prog [.tmp 2, .tmp 3] K) (startX [t0]) [] w = S_write_Many t0 w K := by kernel_rfl
theorem S_write_Many_ok {t0 : Value} {w : World} {K : Ending → World → Prop} (h : S_write_Many t0 w K) : Calls Tryd.prog 13 #[t0] w K :=
  calls_of_wpX Tryd.func13 rfl rfl rfl rfl (Eq.mpr (S_write_Many_eq t0 w K) h)

/- write.Size -/
def S_write_Size (t0 : Value) (w : World) (K : Ending → World → Prop) : Prop :=
 DoX Tryd.prog (mBox 25 t0) w (pk K) fun t1 w =>
 DoX Tryd.prog (mLoad 25 t1) w (pk K) fun t6 w =>
 CallX Tryd.prog 6 #[t6] w (pk K) fun t7 w =>
 DoX Tryd.prog (mExt t7 0) w (pk K) fun t8 w =>
 DoX Tryd.prog (mExt t7 1) w (pk K) fun t9 w =>
 DoX Tryd.prog (mB .len #[9] 3 #[false] #[t8]) w (pk K) fun t11 w =>
 K (.returned t11) w
theorem S_write_Size_eq (t0 : Value) (w : World) (K : Ending → World → Prop) : wpX Tryd.prog 12 [] [] none (bodyOf Tryd.f17) (topQ Tryd.prog [.tmp 2] K) (startX [t0]) [] w = S_write_Size t0 w K := by kernel_rfl
theorem S_write_Size_ok {t0 : Value} {w : World} {K : Ending → World → Prop} (h : S_write_Size t0 w K) : Calls Tryd.prog 17 #[t0] w K :=
  calls_of_wpX Tryd.func17 rfl rfl rfl rfl (Eq.mpr (S_write_Size_eq t0 w K) h)

end Go.Proofs.YtiklhhdohckfiaaDoor
/- Contracts: write (single, the iterator parts). -/
namespace Go.Proofs.YtiklhhdohckfiaaDoor
set_option linter.unusedVariables false
set_option linter.unusedSimpArgs false
set_option linter.defProp false
open Eng Go.RowKit

section
variable {w : World} {PK : List PanicEntry → World → Prop} {K : Value → World → Prop} {S : Nat → Prop} {w0 : World}
theorem perm3 {A B C : List Ent} : (A ++ (B ++ C)).Perm (B ++ (A ++ C)) := by
  rw [← List.append_assoc, ← List.append_assoc]; exact List.Perm.append_right C List.perm_append_comm
theorem own_sink {A B M X : List Ent} (h : OwnS S w0 w (A ++ (B ++ (M ++ X)))) : OwnS S w0 w (B ++ (M ++ (A ++ X))) := h.perm (perm3.trans (perm3.append_left _))
theorem own_float {A B M X : List Ent} (h : OwnS S w0 w (B ++ (M ++ (A ++ X)))) : OwnS S w0 w (A ++ (B ++ (M ++ X))) := h.perm (perm3.trans (perm3.append_left _)).symm
theorem ia2_0 {b : Nat} : DoX Tryd.prog (mIA 63 (.pointer (some ⟨b, 0, none⟩)) (.int .i64 0)) w PK K = K (.pointer (some ⟨b, 0, none⟩)) w := do_eq (by kernel_rfl)
theorem ia2_1 {b : Nat} : DoX Tryd.prog (mIA 63 (.pointer (some ⟨b, 0, none⟩)) (.int .i64 1)) w PK K = K (.pointer (some ⟨b, 1, none⟩)) w := do_eq (by kernel_rfl)
theorem ix2_0 {x y : Value} : DoX Tryd.prog (mIx 63 (.agg #[x, y]) (.int .i64 0)) w PK K = K x w := do_eq (by kernel_rfl)
theorem ix2_1 {x y : Value} : DoX Tryd.prog (mIx 63 (.agg #[x, y]) (.int .i64 1)) w PK K = K y w := do_eq (by kernel_rfl)
end
theorem single_ret (o : Ob) (v : Value) (d : Nat) (w : World) (ht : Tb w) (hov : OV (InW w) w v o) (hc : Vl.check d o = 0) (k6 : o.k ≠ 6) (k7 : o.k ≠ 7) (k9 : o.k ≠ 9) :
    Ret Tryd.prog 34 #[v] w (fun v' w' => Own w w' [StrRow v' (Wr.parts o)]) := by
  obtain ⟨vk, vc, cs, rfl, ha⟩ := hov.open
  obtain ⟨_, huse, _, hfit, hsl, _, _⟩ := why_fields (Wr.check_why hc)
  refine ret_of fun K hK => S_write_single_ok ?_
  unfold S_write_single
  refine o_obb o ha.keys.one ha.kids.one (Own.start w) fun b w1 ho => ?_
  rw [Wr.parts_eq, if_neg k6, if_neg k7] at hK
  refine join fun J hJ => ?_
  have fin : ∀ {t : List UInt8} {W : World} {L : List Ent}, Own w W L → o.k ≠ 8 → t = Wr.leaf o.k o.n o.s → J [.string ⟨t.toArray⟩] W := by
    rintro t W L ho h8 rfl
    refine hJ _ _ fun _ => ?_
    simp only [S_write_single_0, gd]
    rw [if_neg h8] at hK
    refine o_new (fun b => .slice (some ⟨b, 0, none⟩) 1 1) [.string ⟨(Wr.leaf o.k o.n o.s).toArray⟩] 9 (fun _ => by kernel_rfl) ho fun nb w4 h4 => ?_
    exact hK _ _ ((h4.toRow 1 1 1 rfl (by omega) (by omega)).sub (.cons_cons _ (List.nil_sublist _)))
  rw [fa_o0, ob_k ho 0 rfl]
  simp only [rs, fa_o1, fa_o2, fa_o3, ob_n ho 0 rfl, ob_s ho 0 rfl]
  by_cases k0 : o.k = 0
  · simp only [k0, decide_true, i_t]
    exact fin (t := Wr.nul) ho (by omega) (by simp [Wr.leaf, k0])
  by_cases k1 : o.k = 1
  · simp only [k1, Int.reduceEq, decide_true, decide_false, i_t, i_f]
    have hf : 0 ≤ o.n ∧ o.n ≤ 1 := by simpa [Vl.fits, k1] using hfit
    have hb : ∀ {PK : List PanicEntry → World → Prop} {K : Value → World → Prop}, DoX Tryd.prog (mBuild 63 #[(0, (.string ⟨#[102, 97, 108, 115, 101]⟩)), (1, (.string ⟨#[116, 114, 117, 101]⟩))]) w1 PK K = K (.agg #[.string ⟨Wr.fal.toArray⟩, .string ⟨Wr.tru.toArray⟩]) w1 := do_eq (by kernel_rfl)
    rw [hb, ob_n ho 0 rfl]
    rcases (show o.n = 0 ∨ o.n = 1 by omega) with hn | hn
    · skip
      rw [hn, ix2_0]
      exact fin ho (by omega) (by simp [Wr.leaf, k1, hn])
    · rw [hn, ix2_1]
      exact fin ho (by omega) (by simp [Wr.leaf, k1, hn])
  by_cases k2 : o.k = 2
  · simp only [k2, Int.reduceEq, decide_true, decide_false, i_t, i_f]
    refine c_told (pint_ret o.n w1 (ht.own ho)) rfl ho fun w2 ho => ?_
    simp only [ex]
    exact fin ho (by omega) (by simp [Wr.leaf, k2, Wr.num])
  by_cases k3 : o.k = 3
  · simp only [k3, Int.reduceEq, decide_true, decide_false, i_t, i_f]
    refine c_told (preal_ret o.n w1) rfl ho fun w2 ho => ?_
    simp only [ex]
    exact fin ho (by omega) (by simp [Wr.leaf, k3])
  by_cases k4 : o.k = 4
  · simp only [k4, Int.reduceEq, decide_true, decide_false, i_t, i_f]
    have hl : Vl.long o.k = 32767 := by rw [k4]; rfl
    refine c_told (pstr_ret o.s w1 (by omega)) rfl ho fun w2 ho => ?_
    simp only [ex]
    exact fin ho (by omega) (by simp [Wr.leaf, k4])
  by_cases k5 : o.k = 5
  · simp only [k5, Int.reduceEq, decide_true, decide_false, i_t, i_f]
    refine c_told (pname_ret o.s w1) rfl ho fun w2 ho => ?_
    simp only [ex]
    exact fin ho (by omega) (by simp [Wr.leaf, k5])
  have k8 : o.k = 8 := by
    unfold Vl.usesOk Vl.used at huse
    simp only [k0, k1, k2, k3, k4, k5, k6, k7, k9, or_self, if_false] at huse
    by_cases h : o.k = 8
    · exact h
    · simp [h] at huse
  rw [if_pos k8] at hK
  simp only [k8, Int.reduceEq, decide_true, decide_false, i_t, i_f]
  refine c_told (pint_ret o.n w1 (ht.own ho)) rfl ho fun w2 ho => ?_
  simp only [ex, ob_g ho 0 rfl]
  refine c_told (pint_ret o.g w2 (ht.own ho)) rfl ho fun w3 ho => ?_
  simp only [ex]
  refine o_new (fun b => .slice (some ⟨b, 0, none⟩) 3 3) [.string ⟨(Wr.num o.n).toArray⟩, .string ⟨(Wr.num o.g).toArray⟩, .string ⟨#[82]⟩] 9 (fun _ => by kernel_rfl) ho fun nb w4 h4 => ?_
  exact hK _ _ ((h4.toRow 1 3 3 rfl (by omega) (by omega)).sub (.cons_cons _ (List.nil_sublist _)))
end Go.Proofs.YtiklhhdohckfiaaDoor
/- Contracts: the iterator write.parts. -/
namespace Go.Proofs.YtiklhhdohckfiaaDoor
set_option linter.unusedVariables false
set_option linter.unusedSimpArgs false
set_option linter.defProp false
open Eng Go.RowKit

def yldE (b lb : Nat) : Ent := .cells b [.func (.yield lb) #[] #[]] 61
def telV (b1 b2 : Nat) : Value := .func (.func 33) #[] #[.pointer (some ⟨b1, 0, none⟩), .pointer (some ⟨b2, 0, none⟩)]
def telE (b1 b2 : Nat) : Ent := .cells b2 [telV b1 b2] 62
def endE (b : Nat) (x y : List UInt8) : Ent := .cells b [.string ⟨x.toArray⟩, .string ⟨y.toArray⟩] 63
theorem nFs : notAgg Tryd.prog 61 = true := by kernel_rfl
theorem nFo : notAgg Tryd.prog 62 = true := by kernel_rfl
theorem sz2 : (Tryd.prog.info? 63).map (·.size) = some 2 := by kernel_rfl
theorem tell_plain : plainB Tryd.prog 33 = true := by kernel_rfl
/-- What stands between the brackets, up to the i-th kid. -/
def midTo (o : Ob) (i : Nat) : List (List UInt8) := if o.k = 7 then Wr.partsD (o.keys.take i) (o.kids.take i) else Wr.partsL (o.kids.take i)
theorem strs_get {ps : List (List UInt8)} {j : Nat} {x : Value} (h : (strsV ps)[j]? = some x) : ∃ y, ps[j]? = some y ∧ x = .string ⟨y.toArray⟩ := by
  unfold strsV at h
  rw [List.getElem?_map] at h
  cases hy : ps[j]? with
  | none => rw [hy] at h; cases h
  | some y => rw [hy] at h; exact ⟨y, rfl, by simpa [strV] using h.symm⟩
theorem mid_split (o : Ob) (i : Nat) : ∃ t, midTo o o.kids.length = midTo o i ++ t := by
  unfold midTo
  split
  · rw [Wr.partsD_min _ _ _ (.inr (Nat.le_refl _))]; exact ⟨_, Wr.partsD_split o.keys o.kids i⟩
  · rw [List.take_length]
    exact ⟨Wr.partsL (o.kids.drop i), by rw [← Wr.partsL_app, List.take_append_drop]⟩
theorem tell_any (A : Nat → Prop) (wb : World) (S : Nat → Prop) (w0 : World) (L0 : Loop) (lb df b1 b2 : Nat) (R : Nat → List Ent → Prop) (vs : List Value) (Kf : World → Prop)
    (hI : ∀ (L : List Ent) (W : World), OwnS S w0 W L → Tb W ∧ Kept A wb W) (hA : ∀ (L : List Ent) (W : World), OwnS S w0 W L → ∀ b, A b → b < W.heap.size)
    (hy : ∀ (k : Nat) (v : Value) (M X : List Ent) (W : World), vs[k]? = some v → R k M → OwnS S w0 W (loopE L0 lb df ++ (M ++ X)) →
      Yld Tryd.prog lb [v] W (fun r W' => (r = .bool true ∧ ∃ M', R (k + 1) M' ∧ OwnS S w0 W' (loopE L0 lb df ++ (M' ++ X))) ∨ (r = .bool false ∧ Kf W'))) (n : Nat) :
    ∀ (o : Ob) (v : Value) (d : Nat) (M X : List Ent) (k : Nat) (w1 : World) (K : Ending → World → Prop), o.wt ≤ n → OV A wb v o → o.wt ≤ 100000000 → Vl.check d o = 0 → 1 ≤ d → o.k ≠ 9 →
      yldE b1 lb ∈ X → telE b1 b2 ∈ X → OwnS S w0 w1 (loopE L0 lb df ++ (M ++ X)) → R k M → (∀ (j : Nat) (x : List UInt8), (Wr.parts o)[j]? = some x → vs[k + j]? = some (.string ⟨x.toArray⟩)) →
      (∀ (M' : List Ent) (W : World), R (k + (Wr.parts o).length) M' → OwnS S w0 W (loopE L0 lb df ++ (M' ++ X)) → K (.returned (.bool true)) W) → (∀ W, Kf W → K (.returned (.bool false)) W) →
      Calls Tryd.prog 33 #[v, .pointer (some ⟨b1, 0, none⟩), .pointer (some ⟨b2, 0, none⟩)] w1 K := by
  induction n with
  | zero => intro o v d M X k w1 K h; have := o.wt_pos; omega
  | succ n ih =>
  intro o v d M X k w1 K hn hov hb hc hd k9 hX1 hX2 ho hR hseg hK hKf
  obtain ⟨vk, vc, cs, rfl, ha⟩ := hov.open
  obtain ⟨hd24, _, _, _, hsl, hkl, hform⟩ := why_fields (Wr.check_why hc)
  have hkc := Wr.check_kids hc
  -- the cells of the closure
  have c1 : ∀ {A' M' : List Ent} {W : World}, OwnS S w0 W (A' ++ (loopE L0 lb df ++ (M' ++ X))) → ∀ {PK : List PanicEntry → World → Prop} {K : Value → World → Prop}, DoX Tryd.prog (mLoad 61 (.pointer (some ⟨b1, 0, none⟩))) W PK K = K (.func (.yield lb) #[] #[]) W := fun h => l_cell nFs (cells_cell (h.mem (e := yldE b1 lb) (by simp [hX1])) (i := 0) rfl)
  have c2 : ∀ {A' M' : List Ent} {W : World}, OwnS S w0 W (A' ++ (loopE L0 lb df ++ (M' ++ X))) → ∀ {PK : List PanicEntry → World → Prop} {K : Value → World → Prop}, DoX Tryd.prog (mLoad 62 (.pointer (some ⟨b2, 0, none⟩))) W PK K = K (telV b1 b2) W := fun h => l_cell nFo (cells_cell (h.mem (e := telE b1 b2) (by simp [hX2])) (i := 0) rfl)
  -- one piece is handed out
  have give : ∀ (A' M' : List Ent) (j : Nat) (x : List UInt8) (W : World) (PK : List PanicEntry → World → Prop) (K' : Value → World → Prop), (Wr.parts o)[j]? = some x → R (k + j) M' → OwnS S w0 W (A' ++ (loopE L0 lb df ++ (M' ++ X))) →
      (∀ M2 W2, R (k + j + 1) M2 → OwnS S w0 W2 (A' ++ (loopE L0 lb df ++ (M2 ++ X))) → K' (.bool true) W2) → (∀ W2, Kf W2 → K' (.bool false) W2) →
      DoX Tryd.prog (mCallV (.func (.yield lb) #[] #[]) #[.string ⟨x.toArray⟩]) W PK K' := by
    intro A' M' j x W PK K' hx hR ho h1 h2
    refine c_yld (hy (k + j) _ M' (A' ++ X) W (hseg j x hx) hR (own_sink ho)) ?_
    rintro r W2 (⟨rfl, M2, hR2, ho2⟩ | ⟨rfl, hk⟩)
    · exact h1 M2 W2 hR2 (own_float ho2)
    · exact h2 W2 hk
  refine S_write_parts_1_1_ok ?_
  unfold S_write_parts_1_1
  refine o_obb o ha.keys.one ha.kids.one ho fun b3 w2 ho => ?_
  have mb : ∀ {x y : List UInt8} {W : World} {PK : List PanicEntry → World → Prop} {K : Value → World → Prop}, DoX Tryd.prog (mBuild 63 #[(0, .string ⟨x.toArray⟩), (1, .string ⟨y.toArray⟩)]) W PK K = K (.agg #[.string ⟨x.toArray⟩, .string ⟨y.toArray⟩]) W := do_eq (by kernel_rfl)
  rw [mb (x := [91]) (y := [93])]
  refine o_new (fun b => .pointer (some ⟨b, 0, none⟩)) [.string ⟨#[]⟩, .string ⟨#[]⟩] 63 (fun _ => by kernel_rfl) ho fun b5 w3 ho => ?_
  refine o_put 0 ho rfl (new := [.string ⟨([91] : List UInt8).toArray⟩, .string ⟨([93] : List UInt8).toArray⟩]) sz2 (by simp; exact ⟨rfl, rfl⟩) rfl fun w4 ho => ?_
  have ho : OwnS S w0 w4 ([endE b5 [91] [93], obE b3 o vk vc] ++ (loopE L0 lb df ++ (M ++ X))) := ho
  refine join fun J hJ => ?_
  -- behind the choice of the brackets
  have main : ∀ (x y : List UInt8) (W : World), OwnS S w0 W ([endE b5 x y, obE b3 o vk vc] ++ (loopE L0 lb df ++ (M ++ X))) → (o.k = 6 ∨ o.k = 7) → Wr.parts o = [x] ++ (midTo o o.kids.length ++ [y]) →
      S_write_parts_1_1_1 (.pointer (some ⟨b1, 0, none⟩)) (.pointer (some ⟨b2, 0, none⟩)) (.pointer (some ⟨b3, 0, none⟩)) (.pointer (some ⟨b5, 0, none⟩)) W K := by
    intro x y W ho h67 hp
    unfold S_write_parts_1_1_1
    have le0 : ∀ {A' : List Ent} {W : World}, OwnS S w0 W (endE b5 x y :: A') → ∀ {PK : List PanicEntry → World → Prop} {K : Value → World → Prop}, DoX Tryd.prog (mLoad 9 (.pointer (some ⟨b5, 0, none⟩))) W PK K = K (.string ⟨x.toArray⟩) W := fun h => l_cell nStr5 (h.cell 0 rfl 0 rfl)
    have le1 : ∀ {A' : List Ent} {W : World}, OwnS S w0 W (endE b5 x y :: A') → ∀ {PK : List PanicEntry → World → Prop} {K : Value → World → Prop}, DoX Tryd.prog (mLoad 9 (.pointer (some ⟨b5, 1, none⟩))) W PK K = K (.string ⟨y.toArray⟩) W := fun h => l_cell nStr5 (h.cell 0 rfl 1 rfl)
    rw [c1 ho, ia2_0, le0 ho]
    refine give [endE b5 x y, obE b3 o vk vc] M 0 x W _ _ (by rw [hp]; rfl) hR ho ?_ (fun W2 hk => by rw [u_not, Bool.not_false, i_t]; exact hKf W2 hk)
    intro M2 W2 hR2 ho
    rw [u_not, Bool.not_true, i_f, fa_o5, ob_kids ho 1 rfl]
    have lc : ∀ {W : World} {L : List Ent}, OwnS S w0 W L → ∀ {PK : List PanicEntry → World → Prop} {K : Value → World → Prop}, DoX Tryd.prog (mB .len #[23] 3 #[false] #[vc]) W PK K = K (.int .i64 (o.kids.length : Int)) W := fun ho => sl_len Tryd.underlying23 (ha.kept (hI _ _ ho).2).kids.1
    rw [lc ho]
    have hmem : ∀ (i q : Nat) (z : List UInt8), (midTo o i)[q]? = some z → (Wr.parts o)[1 + q]? = some z := by
      intro i q z hz
      obtain ⟨t, ht⟩ := mid_split o i
      rw [hp, List.getElem?_append_right (by simp), List.length_singleton, Nat.add_sub_cancel_left, ht, List.append_assoc, List.getElem?_append_left (List.getElem?_eq_some_iff.1 hz).1]
      exact hz
    refine loop (fun vs' w' => ∃ (i : Nat) (M' : List Ent), vs' = [.int .i64 i] ∧ i ≤ o.kids.length ∧ R (k + 1 + (midTo o i).length) M' ∧ OwnS S w0 w' ([endE b5 x y, obE b3 o vk vc] ++ (loopE L0 lb df ++ (M' ++ X)))) (fun vs' _ => o.kids.length - n0 vs')
      ⟨0, M2, rfl, by omega, by simpa [midTo, Wr.partsD, Wr.partsL] using hR2, ho⟩ ?_
    rintro vs' w5 ⟨i, M3, rfl, hi, hR3, ho⟩ _
    simp only [S_write_parts_1_1_2, gd, rs]
    by_cases hlt : (i : Int) < (o.kids.length : Int)
    · have hi' : i < o.kids.length := by omega
      simp only [hlt, decide_true, i_t]
      obtain ⟨v, p, hv, hr⟩ := kid_at ha hi'
      obtain ⟨r1, r2⟩ := hr w5 (hI _ _ ho).2
      refine do_eq r1 |>.mpr (do_eq r2 |>.mpr ?_)
      obtain ⟨vk', vc', cs', rfl, hkid⟩ := hv.open
      refine o_oba ho fun b9 w6 ho => ?_
      refine ob_put 0 hkid.keys.one hkid.kids.one ho rfl fun w7 ho => ?_
      have ho : OwnS S w0 w7 ([obE b9 o.kids[i] vk' vc', endE b5 x y, obE b3 o vk vc] ++ (loopE L0 lb df ++ (M3 ++ X))) := ho
      refine join fun J2 hJ2 => ?_
      have hkw := kid_wt hi'
      -- the kid, behind its key
      have kid : ∀ (m : Nat) (M4 : List Ent) (W : World), (midTo o (i + 1)).length = m + (Wr.parts o.kids[i]).length → (∀ (j : Nat) (z : List UInt8), (Wr.parts o.kids[i])[j]? = some z → (Wr.parts o)[1 + m + j]? = some z) → R (k + 1 + m) M4 →
          OwnS S w0 W ([obE b9 o.kids[i] vk' vc', endE b5 x y, obE b3 o vk vc] ++ (loopE L0 lb df ++ (M4 ++ X))) → J2 [] W := by
        intro m M4 W hm hsub hR4 ho
        refine hJ2 _ _ fun _ => ?_
        unfold S_write_parts_1_1_3
        rw [c2 ho, ob_v ho 0 rfl]
        refine c_val tell_plain ?_
        refine c_any (ih o.kids[i] _ (d + 1) M4 ([obE b9 o.kids[i] vk' vc', endE b5 x y, obE b3 o vk vc] ++ X) (k + 1 + m) W
          (fun e w' => (e = .returned (.bool true) ∧ ∃ M', R (k + 1 + m + (Wr.parts o.kids[i]).length) M' ∧ OwnS S w0 w' (loopE L0 lb df ++ (M' ++ ([obE b9 o.kids[i] vk' vc', endE b5 x y, obE b3 o vk vc] ++ X)))) ∨ (e = .returned (.bool false) ∧ Kf w'))
          (by omega) hkid.ov (by omega) (hkc _ (List.getElem_mem hi')) (by omega) ?_ (by simp [hX1]) (by simp [hX2]) (own_sink ho) hR4 ?_ (fun M' W' h1 h2 => .inl ⟨rfl, M', h1, h2⟩) (fun W' h => .inr ⟨rfl, h⟩)) ?_
        · intro h9
          have := (why_fields (Wr.check_why (hkc _ (List.getElem_mem hi')))).2.2.1
          exact this ⟨h9, by omega⟩
        · intro j z hz
          rw [show k + 1 + m + j = k + (1 + m + j) by omega]
          exact hseg _ z (hsub j z hz)
        · rintro e w8 (⟨rfl, M5, hR5, ho5⟩ | ⟨rfl, hk⟩)
          · simp only [Cont]
            rw [u_not, Bool.not_true, i_f, b_add, wrap64_id (by omega) (by omega)]
            refine nextX ⟨i + 1, M5, rfl, by omega, ?_, (own_float ho5).tail⟩ (by simp [n0, intOf]; omega)
            rw [hm, ← Nat.add_assoc]; exact hR5
          · simp only [Cont]
            rw [u_not, Bool.not_false, i_t]
            exact hKf w8 hk
      rw [fa_o0, ob_k ho 2 rfl]
      simp only [rs]
      by_cases k7 : o.k = 7
      · have hle : o.keys.length = o.kids.length := by
          have hf := hform
          simp only [Vl.form, k7, true_or, decide_true, Bool.not_true, Bool.false_or, Bool.and_eq_true] at hf
          have := hf.2
          simp only [Vl.rising, Bool.and_eq_true, decide_eq_true_eq] at this
          exact this.1
        have hik : i < o.keys.length := by omega
        have hs : midTo o (i + 1) = midTo o i ++ (Pl.pName o.keys[i]).1 :: Wr.parts o.kids[i] := by
          unfold midTo; rw [if_pos k7, if_pos k7]; exact Wr.partsD_succ o.keys o.kids i hik hi'
        simp only [k7, decide_true, i_t, fa_o4, ob_keys ho 2 rfl]
        obtain ⟨pk', hrk⟩ := key_at ha hik
        obtain ⟨q1, q2⟩ := hrk w7 (hI _ _ ho).2
        refine do_eq q1 |>.mpr (do_eq q2 |>.mpr ?_)
        refine c_ret (pname_ret o.keys[i] w7) ?_
        rintro v8 w8 ⟨rfl, hb8⟩
        have ho := ho.grow hb8
        simp only [ex]
        rw [c1 ho]
        refine give [obE b9 o.kids[i] vk' vc', endE b5 x y, obE b3 o vk vc] M3 (1 + (midTo o i).length) (Pl.pName o.keys[i]).1 w8 _ _ (hmem (i + 1) _ _ ?_) (by rw [← Nat.add_assoc]; exact hR3) ho (fun M4 W4 hR4 ho4 => ?_) (fun W hk => ?_)
        · rw [hs, List.getElem?_append_right (Nat.le_refl _)]; simp
        · rw [u_not, Bool.not_true, i_f]
          refine kid ((midTo o i).length + 1) M4 W4 ?_ ?_ ?_ ho4
          · rw [hs]; simp; omega
          · intro j z hz
            rw [Nat.add_assoc]
            refine hmem (i + 1) _ z ?_
            rw [hs, List.getElem?_append_right (by omega), show (midTo o i).length + 1 + j - (midTo o i).length = j + 1 by omega, List.getElem?_cons_succ]
            exact hz
          · rw [show k + 1 + ((midTo o i).length + 1) = k + (1 + (midTo o i).length) + 1 by omega]; exact hR4
        · rw [u_not, Bool.not_false, i_t]; exact hKf W hk
      · have hs : midTo o (i + 1) = midTo o i ++ Wr.parts o.kids[i] := by
          unfold midTo; rw [if_neg k7, if_neg k7]; exact Wr.partsL_succ o.kids i hi'
        simp only [k7, decide_false, i_f]
        refine kid (midTo o i).length M3 w7 (by rw [hs, List.length_append]) ?_ hR3 ho
        intro j z hz
        rw [Nat.add_assoc]
        refine hmem (i + 1) _ z ?_
        rw [hs, List.getElem?_append_right (by omega), Nat.add_sub_cancel_left]
        exact hz
    · simp only [hlt, decide_false, i_f]
      have hie : i = o.kids.length := by omega
      subst hie
      rw [c1 ho, ia2_1, le1 ho]
      refine give [endE b5 x y, obE b3 o vk vc] M3 (1 + (midTo o o.kids.length).length) y w5 _ _ ?_ (by rw [← Nat.add_assoc]; exact hR3) ho (fun M4 W4 hR4 ho4 => hK M4 W4 ?_ ?_) (fun W2 hk => hKf W2 hk)
      · rw [hp, List.getElem?_append_right (by simp), List.getElem?_append_right (by simp)]; simp
      · rw [hp]; simp only [List.length_append, List.length_cons, List.length_nil]
        have e : k + (0 + 1 + ((midTo o o.kids.length).length + (0 + 1))) = k + (1 + (midTo o o.kids.length).length) + 1 := by omega
        rw [e]; exact hR4
      · exact ho4.tail.tail
  rw [fa_o0, ob_k ho 1 rfl]
  simp only [rs]
  by_cases k6 : o.k = 6
  · simp only [k6, decide_true, i_t]
    refine hJ _ _ fun _ => main [91] [93] w4 ho (.inl k6) ?_
    rw [Wr.parts_eq, if_neg (by omega), if_pos k6, midTo, if_neg (by omega), List.take_length]; rfl
  by_cases k7 : o.k = 7
  · simp only [k7, Int.reduceEq, decide_true, decide_false, i_t, i_f]
    rw [mb (x := [60, 60]) (y := [62, 62])]
    refine o_put 0 ho rfl (new := [.string ⟨([60, 60] : List UInt8).toArray⟩, .string ⟨([62, 62] : List UInt8).toArray⟩]) sz2 (by simp; exact ⟨rfl, rfl⟩) rfl fun w5 ho => ?_
    refine hJ _ _ fun _ => main [60, 60] [62, 62] w5 ho (.inr k7) ?_
    rw [Wr.parts_eq, if_neg (by omega), if_neg (by omega), if_pos k7, midTo, if_pos k7, Wr.partsD_min _ _ _ (.inr (Nat.le_refl _))]; rfl
  simp only [k6, k7, decide_false, i_f]
  rw [ob_v ho 1 rfl]
  refine c_ret (single_ret o _ d w4 (hI _ _ ho).1 (OV.mono (hA _ _ ho) _ _ (ha.kept (hI _ _ ho).2).ov) hc k6 k7 k9) ?_
  intro v5 w5 hnew
  have ho := ho.join hnew
  have ho : OwnS S w0 w5 ([StrRow v5 (Wr.parts o), endE b5 [91] [93], obE b3 o vk vc] ++ (loopE L0 lb df ++ (M ++ X))) := ho
  have hpos : 0 < (Wr.parts o).length := by rw [Wr.parts_eq, if_neg k6, if_neg k7]; split <;> simp
  have hpl := Wr.parts_len o
  obtain ⟨g, off, cap, rfl, _⟩ := sl_open (ho.slRow 0 rfl) hpos
  rw [show DoX Tryd.prog (mB .len #[22] 3 #[false] #[.slice (some ⟨g, off, none⟩) (Wr.parts o).length cap]) w5 = DoX Tryd.prog (mB .len #[22] 3 #[false] #[.slice (some ⟨g, off, none⟩) (Wr.parts o).length cap]) w5 from rfl, sl_len Tryd.underlying22 (ho.slRow 0 rfl)]
  refine loop (fun vs' w' => ∃ (i : Nat) (M' : List Ent), vs' = [.int .i64 i] ∧ i ≤ (Wr.parts o).length ∧ R (k + i) M' ∧ OwnS S w0 w' ([StrRow (.slice (some ⟨g, off, none⟩) (Wr.parts o).length cap) (Wr.parts o), endE b5 [91] [93], obE b3 o vk vc] ++ (loopE L0 lb df ++ (M' ++ X))))
    (fun vs' _ => (Wr.parts o).length - n0 vs') ⟨0, M, rfl, by omega, hR, ho⟩ ?_
  rintro vs' w6 ⟨i, M3, rfl, hi, hR3, ho⟩ _
  simp only [S_write_parts_1_1_0, gd, rs]
  by_cases hlt : (i : Int) < ((Wr.parts o).length : Int)
  · have hi' : i < (Wr.parts o).length := by omega
    simp only [hlt, decide_true, i_t]
    obtain ⟨g', off', cap', he, hcl⟩ := sl_open (ho.slRow 0 rfl) hpos
    cases he
    refine do_eq (run_ia Tryd.underlying22 (show _ = some 1 by kernel_rfl) (by omega) (by omega)) |>.mpr ?_
    have hq := hcl i _ (strsV_get hi')
    rw [Int.toNat_natCast, Nat.mul_one, l_cell nStr5 hq, c1 ho]
    refine give [StrRow (.slice (some ⟨g, off, none⟩) (Wr.parts o).length cap) (Wr.parts o), endE b5 [91] [93], obE b3 o vk vc] M3 i (Wr.parts o)[i] w6 _ _ (List.getElem?_eq_getElem hi') hR3 ho (fun M4 W4 hR4 ho4 => ?_) (fun W hk => ?_)
    · rw [u_not, Bool.not_true, i_f, wrap64_id (by omega) (by omega)]
      exact nextX ⟨i + 1, M4, rfl, by omega, hR4, ho4⟩ (by simp [n0, intOf]; omega)
    · rw [u_not, Bool.not_false, i_t]; exact hKf W hk
  · simp only [hlt, decide_false, i_f]
    have hie : i = (Wr.parts o).length := by omega
    subst hie
    exact hK M3 w6 hR3 ho.tail.tail.tail
end Go.Proofs.YtiklhhdohckfiaaDoor
/- Contracts: write (parts, Text, Size), slices.Collect of string; foliantref07.Text. -/
namespace Go.Proofs.YtiklhhdohckfiaaDoor
set_option linter.unusedVariables false
set_option linter.unusedSimpArgs false
set_option linter.defProp false
open Eng Go.RowKit

/-- What the iterator asks of the world: the objects' memory is as it was. -/
def Obw (wb : World) (W : World) : Prop := Tb W ∧ Kept (InW wb) wb W ∧ wb.heap.size ≤ W.heap.size
theorem parts_seq (wb : World) (o : Ob) (vk vc : Value) (cs : List Value) (b : Nat) (ha : ObAt (InW wb) wb o vk vc cs) (hb : o.wt ≤ 100000000) (hc : Vl.check 1 o = 0) (k9 : o.k ≠ 9) :
    Seq Tryd.prog (Obw wb) 32 #[] #[.pointer (some ⟨b, 0, none⟩)] [obE b o vk vc] (strsV (Wr.parts o)) := by
  intro S w0 w1 L0 lb df M0 R K hI ho hR hy hend
  show Calls Tryd.prog 32 #[.func (.yield lb) #[] #[], .pointer (some ⟨b, 0, none⟩)] w1 K
  refine S_write_parts_1_ok ?_
  unfold S_write_parts_1
  refine o_new (fun b => .pointer (some ⟨b, 0, none⟩)) [.func (.yield lb) #[] #[]] 61 (fun _ => by kernel_rfl) ho fun b1 w2 ho => ?_
  refine o_new (fun b => .pointer (some ⟨b, 0, none⟩)) [.nilFunc] 62 (fun _ => by kernel_rfl) ho fun b2 w3 ho => ?_
  rw [m_func]
  refine o_store 0 ho rfl (by kernel_rfl) rfl (by simp) fun w4 ho => ?_
  have ho : OwnS S w0 w4 ([telE b1 b2, yldE b1 lb] ++ (loopE L0 lb df ++ (M0 ++ [obE b o vk vc]))) := ho
  rw [l_cell nFo (ho.cell 0 rfl 0 rfl), l_at ((show (Ent.cells b (obC o vk vc) 25).is w4 from ho.mem (by simp [obE])) |> fun h => AtV.agg aggOb rfl fun j v hj => by simpa using cells_cell h hj)]
  refine c_val tell_plain ?_
  refine c_any (tell_any (InW wb) wb S w0 L0 lb df b1 b2 R (strsV (Wr.parts o)) (fun W => K (.returned (.tuple #[])) W) (fun L W h => ⟨(hI L W h).1, (hI L W h).2.1⟩) (fun L W h b hb => Nat.lt_of_lt_of_le hb (hI L W h).2.2) hy o.wt o _ 1 M0 ([telE b1 b2, yldE b1 lb] ++ [obE b o vk vc]) 0 w4
    (fun e w' => (e = .returned (.bool true) ∧ ∃ M', R (0 + (Wr.parts o).length) M' ∧ OwnS S w0 w' (loopE L0 lb df ++ (M' ++ ([telE b1 b2, yldE b1 lb] ++ [obE b o vk vc])))) ∨ (e = .returned (.bool false) ∧ K (.returned (.tuple #[])) w'))
    (Nat.le_refl _) ha.ov hb hc (by omega) k9 (by simp) (by simp) (own_sink ho) hR ?_ (fun M' W' h1 h2 => .inl ⟨rfl, M', h1, h2⟩) (fun W' h => .inr ⟨rfl, h⟩)) ?_
  · intro j x hx
    rw [Nat.zero_add]
    unfold strsV
    rw [List.getElem?_map, hx]; rfl
  · rintro e w8 (⟨rfl, M5, hR5, ho5⟩ | ⟨rfl, hk⟩)
    · simp only [Cont]
      refine hend M5 _ w8 ?_ ho5
      rw [strsV_length, ← Nat.zero_add (Wr.parts o).length]; exact hR5
    · exact hk
def slc7 (b : Nat) (v : Value) : Ent := .cells b [v] 22
/-- slices.Collect, over an iterator that hands out strings. -/
theorem collectS_ret {I : World → Prop} {f : Nat} {fa ca : Array Value} {F : List Ent} {ns : List (List UInt8)} (hseq : Seq Tryd.prog I f fa ca F (strsV ns)) (hp : plainB Tryd.prog f = true) (hl : ns.length ≤ 100000000000)
    {S : Nat → Prop} {w0 w : World} {L : List Ent} (hI : ∀ (L : List Ent) (W : World), OwnS S w0 W L → I W) (ho : OwnS S w0 w (F ++ L)) :
    Ret Tryd.prog 20 #[.func (.func f) fa ca] w (fun v w' => OwnS S w0 w' (StrRow v ns :: L)) := by
  refine ret_of fun K hK => S_slices_Collect_string_ok ?_
  unfold S_slices_Collect_string
  refine c_any (S_slices_AppendSeq_string_string_ok (K := RetK fun v w' => OwnS S w0 w' (StrRow v ns :: L)) ?_) (fun e w' ⟨v, he, hv⟩ => by subst he; exact hK _ _ hv)
  unfold S_slices_AppendSeq_string_string
  have ho := ho.nilRow 9 1
  refine o_new (fun b => .pointer (some ⟨b, 0, none⟩)) [.slice none 0 0] 22 (fun _ => by kernel_rfl) ho fun b2 w1 ho => ?_
  refine range ho hp fun L0 df lb w2 ho hy => ?_
  refine hseq S w0 w2 L0 lb df (slc7 b2 (.slice none 0 0) :: StrRow (.slice none 0 0) [] :: L) (fun k M => ∃ v, M = slc7 b2 v :: StrRow v (ns.take k) :: L) _ hI ?_ ⟨.slice none 0 0, by rw [List.take_zero]⟩ ?_ ?_
  · refine ho.perm ?_
    show List.Perm (_ :: _ :: _ :: _ :: (F ++ L)) (_ :: _ :: _ :: _ :: (L ++ F))
    exact (List.Perm.cons _ (List.Perm.cons _ (List.Perm.cons _ (List.Perm.cons _ List.perm_append_comm))))
  · rintro k v M X W hk ⟨u, rfl⟩ ho
    obtain ⟨x, hx, rfl⟩ := strs_get hk
    have hkl : k < ns.length := (List.getElem?_eq_some_iff.1 hx).1
    have ho : OwnS S w0 W (.obj lb (lp L0 .ready none) :: .obj df (.deferred (some [])) :: slc7 b2 u :: StrRow u (ns.take k) :: (L ++ X)) := ho
    refine hy _ W _ (ho.at_ 0 rfl) rfl ?_
    refine o_beg 0 ho rfl fun W3 ho => ?_
    rw [l_cell nSlS5 (ho.cell 2 rfl 0 rfl)]
    refine o_appS1 3 ho rfl (by rw [List.length_take]; omega) fun v' W4 ho => ?_
    refine o_store 2 ho rfl (by kernel_rfl) (sl_one5 (ho.slRow 3 rfl)) (by simp) fun W5 ho => ?_
    refine o_end 0 ho rfl fun W6 ho => ?_
    refine .inl ⟨rfl, slc7 b2 v' :: StrRow v' (ns.take (k + 1)) :: L, ⟨v', rfl⟩, ?_⟩
    have e : ns.take (k + 1) = ns.take k ++ [x] := by
      rw [List.take_succ_eq_append_getElem hkl, (List.getElem?_eq_some_iff.1 hx).2]
    rw [e]
    exact ho
  · rintro M X W ⟨u, rfl⟩ ho
    rw [strsV_length, List.take_length] at ho
    refine ⟨_, .ready, none, _, rfl, (by intro h; cases h), ho.at_ 0 rfl, List.mem_cons.2 (.inl rfl), ?_⟩
    have hp' : OwnS S w0 (putO W lb (lp L0 .exhausted none)) (.obj lb (lp L0 .exhausted none) :: .obj df (.deferred (some [])) :: slc7 b2 u :: StrRow u ns :: (L ++ X)) := put_iter (o' := lp L0 .exhausted none) ho 0 rfl
    have hp' : OwnS S w0 (putO W lb (lp L0 .exhausted none)) (.obj df (.deferred (some [])) :: slc7 b2 u :: StrRow u ns :: (L ++ X)) := hp'.tail
    rw [l_cell nSlS5 (hp'.cell 1 rfl 0 rfl)]
    refine leave1 0 hp' rfl fun W4 ho => ?_
    show RetK (fun v w' => OwnS S w0 w' (StrRow v ns :: L)) (.returned u) W4
    refine retK ?_
    exact ho.tail.tail.sub (.cons_cons _ (List.sublist_append_left _ _))
def txtV (x : List UInt8 × Int) : Value := .tuple #[.string ⟨x.1.toArray⟩, .int .i64 x.2]
theorem parts_plain : plainB Tryd.prog 32 = true := by kernel_rfl
theorem n_err {xo yo : Operand} {a b : Int} {w : World} {PK : List PanicEntry → World → Prop} {K : Value → World → Prop} : DoX Tryd.prog (mEq .neq 28 xo yo (.int .i64 a) (.int .i64 b)) w PK K = K (.bool (decide (a ≠ b))) w := n_int
theorem wtext7_ret (o : Ob) (v : Value) (w : World) (ht : Tb w) (hov : OV (InW w) w v o) (hb : o.wt ≤ 100000000) : Ret Tryd.prog 6 #[v] w (fun v w' => v = txtV (Wr.text o) ∧ Below w.heap.size w w') := by
  obtain ⟨vk, vc, cs, rfl, ha⟩ := hov.open
  refine ret_of fun K hK => S_write_Text_ok ?_
  unfold S_write_Text
  refine o_obb o ha.keys.one ha.kids.one (Own.start w) fun b w1 ho => ?_
  rw [ob_v ho 0 rfl]
  refine c_told (vCheck_ret o _ w1 (ha.in_ ho).ov (by omega)) rfl ho fun w2 ho => ?_
  rw [n_err]
  by_cases hc : Vl.check 1 o = 0
  case neg =>
    simp only [ne_eq, hc, not_false_eq_true, decide_true, i_t]
    refine hK _ _ ⟨?_, ho.done⟩
    simp [Wr.text, hc, txtV]
  simp only [hc, ne_eq, not_true, decide_false, i_f]
  rw [fa_o0, ob_k ho 0 rfl]
  simp only [rs]
  by_cases k9 : o.k = 9
  · simp only [k9, decide_true, i_t]
    refine hK _ _ ⟨?_, ho.done⟩
    simp [Wr.text, hc, k9, txtV]
  simp only [k9, decide_false, i_f]
  rw [ob_v ho 0 rfl]
  have ha2 := ha.own ho
  refine c_any (S_write_parts_ok (K := RetK fun v w' => ∃ b, v = .func (.func 32) #[] #[.pointer (some ⟨b, 0, none⟩)] ∧ Own w w' [obE b o vk vc]) ?_) ?_
  · unfold S_write_parts
    refine o_obb o ha.keys.one ha.kids.one ho fun b' w3 ho => ?_
    rw [m_func]
    exact ⟨_, rfl, b', rfl, ho.sub (.cons_cons _ (List.nil_sublist _))⟩
  · rintro e w3 ⟨_, rfl, b', rfl, ho⟩
    have hpl := Wr.parts_len o
    have hpt := Wr.parts_tot o
    refine c_ret (collectS_ret (S := NoB) (w0 := w) (L := []) (parts_seq w o vk vc cs b' ha hb hc k9) parts_plain (by omega) (fun L W h => ⟨ht.own h, OwnS.keptIn h, h.size⟩) (by simpa using ho)) ?_
    intro v4 w4 ho
    refine c_told (pjoin_ret (Wr.parts o) v4 w4 (ho.slRow 0 rfl) (by omega)) rfl ho fun w5 ho => ?_
    refine hK _ _ ⟨?_, ho.done⟩
    simp [Wr.text, hc, k9, txtV]
theorem wsize7_ret (o : Ob) (v : Value) (w : World) (ht : Tb w) (hov : OV (InW w) w v o) (hb : o.wt ≤ 100000000) : Ret Tryd.prog 17 #[v] w (fun v w' => v = .int .i64 ((Wr.text o).1.length : Int) ∧ Below w.heap.size w w') := by
  obtain ⟨vk, vc, cs, rfl, ha⟩ := hov.open
  refine ret_of fun K hK => S_write_Size_ok ?_
  unfold S_write_Size
  refine o_obb o ha.keys.one ha.kids.one (Own.start w) fun b w1 ho => ?_
  rw [ob_v ho 0 rfl]
  refine c_told (wtext7_ret o _ w1 (ht.own ho) (ha.in_ ho).ov hb) rfl ho fun w2 ho => ?_
  simp only [txtV, ex]
  rw [s_len Tryd.underlying9]
  exact hK _ _ ⟨rfl, ho.done⟩
end Go.Proofs.YtiklhhdohckfiaaDoor
/- Contracts: write.Many, foliantref07.Many. The list is the kids of an object. -/
namespace Go.Proofs.YtiklhhdohckfiaaDoor
set_option linter.unusedVariables false
set_option linter.unusedSimpArgs false
set_option linter.defProp false
open Eng Go.RowKit

theorem wmany_ret (o : Ob) (vk vc : Value) (cs : List Value) (w : World) (ht : Tb w) (ha : ObAt (InW w) w o vk vc cs) (hb : Ob.wts o.kids ≤ 100000000) : Ret Tryd.prog 13 #[vc] w (fun v w' => v = txtV (Wr.many o.kids) ∧ Below w.heap.size w w') := by
  refine ret_of fun K hK => S_write_Many_ok ?_
  unfold S_write_Many
  have lc : ∀ {W : World} {L : List Ent}, Own w W L → ∀ {PK : List PanicEntry → World → Prop} {K : Value → World → Prop}, DoX Tryd.prog (mB .len #[23] 3 #[false] #[vc]) W PK K = K (.int .i64 (o.kids.length : Int)) W := fun ho => sl_len Tryd.underlying23 (ha.own ho).kids.1
  have hol := Wr.outs_len o.kids
  have hlw := Ob.len_wts o.kids
  refine o_new (fun b => .pointer (some ⟨b, 0, none⟩)) [.pointer none, .slice none 0 0] 50 (fun _ => by kernel_rfl) (Own.start w) fun b w1 ho => ?_
  rw [lc ho]
  have hB0 : ∃ v0, Own w w1 [Bld b v0 []] := by
    have h1 := (ho.nilRow 5 1).swap
    exact ⟨_, OwnS.closeB (l := []) (.inl rfl) roomy_nil h1⟩
  obtain ⟨v0, ho0⟩ := hB0
  refine loop (fun vs w' => ∃ (i : Nat) (bv : Value), vs = [.int .i64 i] ∧ i ≤ o.kids.length ∧ (∀ x ∈ o.kids.take i, (Wr.text x).2 = 0) ∧ Own w w' [Bld b bv (Wr.outs (o.kids.take i))]) (fun vs _ => o.kids.length - n0 vs) ⟨0, v0, rfl, by omega, by simp, ho0⟩ ?_
  rintro vs w2 ⟨i, bv, rfl, hi, hall, ho⟩ _
  simp only [S_write_Many_0, gd, rs]
  by_cases hlt : (i : Int) < (o.kids.length : Int)
  · have hi' : i < o.kids.length := by omega
    simp only [hlt, decide_true, i_t]
    obtain ⟨v, p, hv, hr⟩ := kid_at ha hi'
    obtain ⟨r1, r2⟩ := hr w2 (OwnS.keptIn ho)
    refine do_eq r1 |>.mpr (do_eq r2 |>.mpr ?_)
    have hkw := Ob.get_wts o.kids i hi'
    obtain ⟨vk', vc', cs', rfl, hkid⟩ := hv.open
    refine o_oba ho fun b9 w6 ho => ?_
    refine ob_put 0 hkid.keys.one hkid.kids.one ho rfl fun w7 ho => ?_
    rw [ob_v ho 0 rfl]
    refine c_told (wtext7_ret o.kids[i] _ w7 (ht.own ho) (hv.at_ ho) (by omega)) rfl ho fun w3 ho => ?_
    simp only [txtV, ex]
    rw [n_err]
    by_cases he : (Wr.text o.kids[i]).2 = 0
    case neg =>
      simp only [ne_eq, he, not_false_eq_true, decide_true, i_t]
      refine hK _ _ ⟨?_, ho.done⟩
      rw [Wr.many_err o.kids i hi' hall he, txtV]
    simp only [he, ne_eq, not_true, decide_false, i_f]
    have ht1 := Wr.outs_take_len o.kids (i + 1)
    rw [Wr.outs_succ o.kids i hi'] at ht1
    simp only [List.length_append, List.length_cons, List.length_nil] at ht1
    have ho : Own w w3 [Bld b bv (Wr.outs (o.kids.take i))] := ho.tail
    refine c_turn 0 ho rfl (writeString_ret (ho.at_ 0 rfl) (by omega)) ?_
    rintro _ _ w4 ⟨_, v3, rfl⟩ ho
    have ho : Own w w4 [Bld b v3 (Wr.outs (o.kids.take i) ++ (Wr.text o.kids[i]).1)] := ho
    refine c_turn 0 ho rfl (writeByteN_ret (k := 10) (ho.at_ 0 rfl) (by simp; omega) rfl (by omega)) ?_
    rintro _ _ w5 ⟨_, v4, rfl⟩ ho
    rw [wrap64_id (by omega) (by omega)]
    refine nextX ⟨i + 1, v4, rfl, by omega, ?_, ?_⟩ (by simp [n0, intOf]; omega)
    · intro x hx
      rw [List.take_succ_eq_append_getElem hi', List.mem_append, List.mem_singleton] at hx
      rcases hx with hx | rfl
      · exact hall x hx
      · exact he
    · rw [Wr.outs_succ o.kids i hi', ← List.append_assoc]; exact ho
  · simp only [hlt, decide_false, i_f]
    refine c_turn 0 ho rfl (bldString_ret (ho.at_ 0 rfl)) ?_
    rintro _ _ w6 ⟨rfl, rfl⟩ ho
    refine hK _ _ ⟨?_, ho.done⟩
    rw [List.take_of_length_le (by omega)] at hall
    rw [Wr.many_ok _ hall, txtV, List.take_of_length_le (by omega)]
end Go.Proofs.YtiklhhdohckfiaaDoor
/- Objects that the code makes; contracts: foliantref05 (Null, Bool, Int, Real, Text, Key, Ref, Array). -/
namespace Go.Proofs.YtiklhhdohckfiaaDoor
set_option linter.unusedVariables false
set_option linter.unusedSimpArgs false
set_option linter.defProp false
open Eng Go.RowKit

abbrev nilS : Value := .slice none 0 0
/-- An object without parts. -/
abbrev ob1 (k n g : Int) (s : List UInt8) : Ob := .mk k n g s [] []
theorem ov_plain {A : Nat → Prop} {w : World} (k n g : Int) (s : List UInt8) : OV A w (obV (ob1 k n g s) nilS nilS) (ob1 k n g s) := ObAt.ov (cs := []) ⟨SlA.nil _ _ _ _, SlA.nil _ _ _ _, OVs.nil⟩
theorem ovs_cons {A : Nat → Prop} {w : World} {o : Ob} {vk vc : Value} {rest : List Value} {os : List Ob} (h : OV A w (obV o vk vc) o) (hr : OVs A w rest os) : OVs A w (obC o vk vc ++ rest) (o :: os) := by
  rw [OVs]; exact ⟨obC o vk vc, rest, rfl, rfl, h, hr⟩
/-- A slice that is a whole block of cells. -/
theorem sla_cells {w : World} {b : Nat} {cs : List Value} {T : TypeId} (h : (Ent.cells b cs T).is w) (sz n cap : Nat) (hn : cs.length = n * sz) : SlA (InW w) w (.slice (some ⟨b, 0, none⟩) n cap) sz n cs := by
  refine ⟨Sl.cells h sz n cap hn, fun p l c e _ => ?_⟩
  cases e
  have h' : w.heap[b]? = some (.cells cs.toArray T (0, 0)) := h
  exact lt_of_get h'
section
variable {w : World} {S : Nat → Prop} {w0 : World} {L : List Ent}
theorem ret_ob {K : Ending → World → Prop} {b : Nat} {o : Ob} {vk vc : Value} (ho : OwnS S w0 w (obE b o vk vc :: L)) (k : K (.returned (obV o vk vc)) w) : RetX Tryd.prog [.cell (.pointer (some ⟨b, 0, none⟩)) 25] w K := ret_v1 (rv_cell (ho.agg 0 rfl aggOb)) k
end
def obR (o : Ob) (vk vc : Value) (w : World) : Value → World → Prop := fun v w' => v = obV o vk vc ∧ Below w.heap.size w w'
theorem rnull_ret (w : World) : Ret Tryd.prog 14 #[] w (obR (ob1 0 0 0 []) nilS nilS w) := by
  refine ret_of fun K hK => S_foliantref05_Null_ok ?_
  unfold S_foliantref05_Null
  refine o_oba (Own.start w) fun b w1 ho => ?_
  have hb : ∀ {PK : List PanicEntry → World → Prop} {K : Value → World → Prop}, DoX Tryd.prog (mBuild 25 #[]) w1 PK K = K (obV (ob1 0 0 0 []) nilS nilS) w1 := do_eq (by kernel_rfl)
  rw [hb]
  refine ob_put 0 rfl rfl ho rfl fun w2 ho => ?_
  exact ret_ob ho (hK _ _ ⟨rfl, ho.done⟩)
theorem rint05_ret (n : Int) (w : World) : Ret Tryd.prog 12 #[.int .i64 n] w (obR (ob1 2 n 0 []) nilS nilS w) := by
  refine ret_of fun K hK => S_foliantref05_Int_ok ?_
  unfold S_foliantref05_Int
  refine o_oba (Own.start w) fun b w1 ho => ?_
  have hb : ∀ {PK : List PanicEntry → World → Prop} {K : Value → World → Prop}, DoX Tryd.prog (mBuild 25 #[(0, (.int .i64 2)), (1, .int .i64 n)]) w1 PK K = K (obV (ob1 2 n 0 []) nilS nilS) w1 := do_eq (by kernel_rfl)
  rw [hb]
  refine ob_put 0 rfl rfl ho rfl fun w2 ho => ?_
  exact ret_ob ho (hK _ _ ⟨rfl, ho.done⟩)
theorem rreal05_ret (n : Int) (w : World) : Ret Tryd.prog 15 #[.int .i64 n] w (obR (ob1 3 n 0 []) nilS nilS w) := by
  refine ret_of fun K hK => S_foliantref05_Real_ok ?_
  unfold S_foliantref05_Real
  refine o_oba (Own.start w) fun b w1 ho => ?_
  have hb : ∀ {PK : List PanicEntry → World → Prop} {K : Value → World → Prop}, DoX Tryd.prog (mBuild 25 #[(0, (.int .i64 3)), (1, .int .i64 n)]) w1 PK K = K (obV (ob1 3 n 0 []) nilS nilS) w1 := do_eq (by kernel_rfl)
  rw [hb]
  refine ob_put 0 rfl rfl ho rfl fun w2 ho => ?_
  exact ret_ob ho (hK _ _ ⟨rfl, ho.done⟩)
theorem rtxt05_ret (s : List UInt8) (w : World) : Ret Tryd.prog 10 #[.string ⟨s.toArray⟩] w (obR (ob1 4 0 0 s) nilS nilS w) := by
  refine ret_of fun K hK => S_foliantref05_Text_ok ?_
  unfold S_foliantref05_Text
  refine o_oba (Own.start w) fun b w1 ho => ?_
  have hb : ∀ {PK : List PanicEntry → World → Prop} {K : Value → World → Prop}, DoX Tryd.prog (mBuild 25 #[(0, (.int .i64 4)), (3, .string ⟨s.toArray⟩)]) w1 PK K = K (obV (ob1 4 0 0 s) nilS nilS) w1 := do_eq (by kernel_rfl)
  rw [hb]
  refine ob_put 0 rfl rfl ho rfl fun w2 ho => ?_
  exact ret_ob ho (hK _ _ ⟨rfl, ho.done⟩)
theorem rkey05_ret (s : List UInt8) (w : World) : Ret Tryd.prog 9 #[.string ⟨s.toArray⟩] w (obR (ob1 5 0 0 s) nilS nilS w) := by
  refine ret_of fun K hK => S_foliantref05_Key_ok ?_
  unfold S_foliantref05_Key
  refine o_oba (Own.start w) fun b w1 ho => ?_
  have hb : ∀ {PK : List PanicEntry → World → Prop} {K : Value → World → Prop}, DoX Tryd.prog (mBuild 25 #[(0, (.int .i64 5)), (3, .string ⟨s.toArray⟩)]) w1 PK K = K (obV (ob1 5 0 0 s) nilS nilS) w1 := do_eq (by kernel_rfl)
  rw [hb]
  refine ob_put 0 rfl rfl ho rfl fun w2 ho => ?_
  exact ret_ob ho (hK _ _ ⟨rfl, ho.done⟩)
theorem rref05_ret (n g : Int) (w : World) : Ret Tryd.prog 11 #[.int .i64 n, .int .i64 g] w (obR (ob1 8 n g []) nilS nilS w) := by
  refine ret_of fun K hK => S_foliantref05_Ref_ok ?_
  unfold S_foliantref05_Ref
  refine o_oba (Own.start w) fun b w1 ho => ?_
  have hb : ∀ {PK : List PanicEntry → World → Prop} {K : Value → World → Prop}, DoX Tryd.prog (mBuild 25 #[(0, (.int .i64 8)), (1, .int .i64 n), (2, .int .i64 g)]) w1 PK K = K (obV (ob1 8 n g []) nilS nilS) w1 := do_eq (by kernel_rfl)
  rw [hb]
  refine ob_put 0 rfl rfl ho rfl fun w2 ho => ?_
  exact ret_ob ho (hK _ _ ⟨rfl, ho.done⟩)
theorem rarr05_ret (a : Option Addr) (l c : Nat) (os : List Ob) (w : World) : Ret Tryd.prog 8 #[.slice a l c] w (obR ((.mk 6 0 0 [] [] os)) nilS (.slice a l c) w) := by
  refine ret_of fun K hK => S_foliantref05_Array_ok ?_
  unfold S_foliantref05_Array
  refine o_oba (Own.start w) fun b w1 ho => ?_
  have hb : ∀ {PK : List PanicEntry → World → Prop} {K : Value → World → Prop}, DoX Tryd.prog (mBuild 25 #[(0, (.int .i64 6)), (5, .slice a l c)]) w1 PK K = K (obV ((.mk 6 0 0 [] [] os)) nilS (.slice a l c)) w1 := do_eq (by kernel_rfl)
  rw [hb]
  refine ob_put 0 rfl rfl ho rfl fun w2 ho => ?_
  exact ret_ob ho (hK _ _ ⟨rfl, ho.done⟩)
theorem rtrue05_ret (w : World) : Ret Tryd.prog 16 #[.bool true] w (obR (ob1 1 1 0 []) nilS nilS w) := by
  refine ret_of fun K hK => S_foliantref05_Bool_ok ?_
  unfold S_foliantref05_Bool
  refine o_oba (Own.start w) fun b w1 ho => ?_
  rw [i_t]
  have hb : ∀ {PK : List PanicEntry → World → Prop} {K : Value → World → Prop}, DoX Tryd.prog (mBuild 25 #[(0, (.int .i64 1)), (1, (.int .i64 1))]) w1 PK K = K (obV (ob1 1 1 0 []) nilS nilS) w1 := do_eq (by kernel_rfl)
  rw [hb]
  refine ob_put 0 rfl rfl ho rfl fun w2 ho => ?_
  exact ret_ob ho (hK _ _ ⟨rfl, ho.done⟩)
end Go.Proofs.YtiklhhdohckfiaaDoor
/- Code in continuation form, by program (gen.py): 4 functions. -/
namespace Go.Proofs.YtiklhhdohckfiaaDoor
set_option linter.unusedVariables false
set_option linter.unusedSimpArgs false
set_option linter.defProp false
set_option linter.unusedVariables false
set_option maxRecDepth 20000
open Eng

/- foliantlaw07.lives -/
def S_foliantlaw07_lives_0 (t2 : Value) (w : World) (K : Ending → World → Prop) : Prop :=
 DoX Tryd.prog (mLoad 25 t2) w (pk K) fun t22 w =>
 CallX Tryd.prog 6 #[t22] w (pk K) fun t23 w =>
 DoX Tryd.prog (mExt t23 0) w (pk K) fun t24 w =>
 DoX Tryd.prog (mExt t23 1) w (pk K) fun t25 w =>
 DoX Tryd.prog (mBuild 25 #[(0, (.int .i64 9))]) w (pk K) fun t27 w =>
 CallX Tryd.prog 6 #[t27] w (pk K) fun t28 w =>
 DoX Tryd.prog (mExt t28 0) w (pk K) fun t29 w =>
 DoX Tryd.prog (mExt t28 1) w (pk K) fun t30 w =>
 DoX Tryd.prog (mBuild 25 #[(0, (.int .i64 99))]) w (pk K) fun t32 w =>
 CallX Tryd.prog 6 #[t32] w (pk K) fun t33 w =>
 DoX Tryd.prog (mExt t33 0) w (pk K) fun t34 w =>
 DoX Tryd.prog (mExt t33 1) w (pk K) fun t35 w =>
 CallX Tryd.prog 14 #[] w (pk K) fun t37 w =>
 CallX Tryd.prog 15 #[(.int .i64 (-2500))] w (pk K) fun t38 w =>
 CallX Tryd.prog 12 #[(.int .i64 1)] w (pk K) fun t39 w =>
 CallX Tryd.prog 16 #[(.bool true)] w (pk K) fun t40 w =>
 DoX Tryd.prog (mBuildS 23 2 #[(0, t39), (1, t40)]) w (pk K) fun t41 w =>
 CallX Tryd.prog 8 #[t41] w (pk K) fun t42 w =>
 DoX Tryd.prog (mBuildS 23 3 #[(0, t37), (1, t38), (2, t42)]) w (pk K) fun t43 w =>
 CallX Tryd.prog 13 #[t43] w (pk K) fun t44 w =>
 DoX Tryd.prog (mExt t44 0) w (pk K) fun t45 w =>
 DoX Tryd.prog (mExt t44 1) w (pk K) fun t46 w =>
 DoX Tryd.prog (mEq .eql 9 (.tmp 47) (.const (.string ⟨#[60, 60, 47, 65, 32, 49, 47, 66, 91, 47, 120, 40, 121, 41, 50, 32, 48, 32, 82, 93, 62, 62]⟩)) t24 (.string ⟨#[60, 60, 47, 65, 32, 49, 47, 66, 91, 47, 120, 40, 121, 41, 50, 32, 48, 32, 82, 93, 62, 62]⟩)) w (pk K) fun t48 w =>
 GDo t48 true (fun E => E t25 w) w fun t50 w =>
 GDo t48 true (fun E => DoX Tryd.prog (mEq .eql 28 (.tmp 50) (.const (.int .i64 0)) t50 (.int .i64 0)) w (pk K) E) w fun t51 w =>
 DoX Tryd.prog (mPick t48 t51 (.bool false)) w (pk K) fun t52 w =>
 GDo t52 true (fun E => E t30 w) w fun t54 w =>
 GDo t52 true (fun E => DoX Tryd.prog (mEq .eql 28 (.tmp 54) (.const (.int .i64 10)) t54 (.int .i64 10)) w (pk K) E) w fun t55 w =>
 DoX Tryd.prog (mPick t52 t55 (.bool false)) w (pk K) fun t56 w =>
 GDo t56 true (fun E => E t35 w) w fun t58 w =>
 GDo t56 true (fun E => DoX Tryd.prog (mEq .eql 28 (.tmp 58) (.const (.int .i64 10)) t58 (.int .i64 10)) w (pk K) E) w fun t59 w =>
 DoX Tryd.prog (mPick t56 t59 (.bool false)) w (pk K) fun t60 w =>
 GDo t60 true (fun E => E t45 w) w fun t62 w =>
 GDo t60 true (fun E => DoX Tryd.prog (mEq .eql 9 (.tmp 62) (.const (.string ⟨#[110, 117, 108, 108, 10, 45, 48, 46, 50, 53, 10, 91, 49, 32, 116, 114, 117, 101, 93, 10]⟩)) t62 (.string ⟨#[110, 117, 108, 108, 10, 45, 48, 46, 50, 53, 10, 91, 49, 32, 116, 114, 117, 101, 93, 10]⟩)) w (pk K) E) w fun t63 w =>
 DoX Tryd.prog (mPick t60 t63 (.bool false)) w (pk K) fun t64 w =>
 GDo t64 true (fun E => E t46 w) w fun t66 w =>
 GDo t64 true (fun E => DoX Tryd.prog (mEq .eql 28 (.tmp 66) (.const (.int .i64 0)) t66 (.int .i64 0)) w (pk K) E) w fun t67 w =>
 DoX Tryd.prog (mPick t64 t67 (.bool false)) w (pk K) fun t68 w =>
 GDo t68 true (fun E => DoX Tryd.prog (mLoad 25 t2) w (pk K) E) w fun t70 w =>
 GDo t68 true (fun E => CallX Tryd.prog 17 #[t70] w (pk K) E) w fun t71 w =>
 GDo t68 true (fun E => DoX Tryd.prog (mEq .eql 3 (.tmp 71) (.const (.int .i64 22)) t71 (.int .i64 22)) w (pk K) E) w fun t72 w =>
 DoX Tryd.prog (mPick t68 t72 (.bool false)) w (pk K) fun t73 w =>
 GDo t73 true (fun E => DoX Tryd.prog (mBuild 25 #[(0, (.int .i64 99))]) w (pk K) E) w fun t75 w =>
 GDo t73 true (fun E => CallX Tryd.prog 17 #[t75] w (pk K) E) w fun t76 w =>
 GDo t73 true (fun E => DoX Tryd.prog (mEq .eql 3 (.tmp 76) (.const (.int .i64 0)) t76 (.int .i64 0)) w (pk K) E) w fun t77 w =>
 DoX Tryd.prog (mPick t73 t77 (.bool false)) w (pk K) fun t78 w =>
 K (.returned t78) w
def S_foliantlaw07_lives (w : World) (K : Ending → World → Prop) : Prop :=
 CallX Tryd.prog 9 #[(.string ⟨#[120]⟩)] w (pk K) fun t11 w =>
 CallX Tryd.prog 10 #[(.string ⟨#[121]⟩)] w (pk K) fun t12 w =>
 CallX Tryd.prog 11 #[(.int .i64 2), (.int .i64 0)] w (pk K) fun t13 w =>
 DoX Tryd.prog (mBuildS 23 3 #[(0, t11), (1, t12), (2, t13)]) w (pk K) fun t14 w =>
 CallX Tryd.prog 8 #[t14] w (pk K) fun t15 w =>
 DoX Tryd.prog (mAlloc 25) w (pk K) fun t1 w =>
 DoX Tryd.prog (mStore 25 t1 t15) w (pk K) fun _ w =>
 HeldX w (fun S1 w =>
 HDo Tryd.prog S1 (mLoad 25 t1) fun t18 =>
 (DoX Tryd.prog (mBuildS 22 2 #[(0, (.string ⟨#[65]⟩)), (1, (.string ⟨#[66]⟩))]) w (pm1 (pm1 (pk K))) fun t16 w =>
 S1 w ∧ ((CallX Tryd.prog 12 #[(.int .i64 1)] w (pm1 (pm1 (pk K))) fun t17 w =>
 S1 w ∧ ((DoX Tryd.prog (mBuildS 23 2 #[(0, t17), (1, t18)]) w (pm1 (pm1 (pk K))) fun t19 w =>
 S1 w ∧ (HDo Tryd.prog S1 (mBuild 25 #[(0, (.int .i64 7)), (4, t16), (5, t19)]) fun t20 =>
 DoX Tryd.prog (mAlloc 25) w (pm1 (pm1 (pk K))) fun t2 w =>
 S1 w ∧ (DoX Tryd.prog (mStore 25 t2 t20) w (pm1 (pm1 (pk K))) fun _ w =>
 S1 w ∧ (S_foliantlaw07_lives_0 t2 w K)))) ∧ (DoX Tryd.prog (mAlloc 25) w (pm1 (pm1 (pk K))) fun t2_1 w =>
 S1 w ∧ (DoX Tryd.prog (mBuildS 23 2 #[(0, t17), (1, t18)]) w (pm1 (pm1 (pk K))) fun t19_1 w =>
 S1 w ∧ (HDo Tryd.prog S1 (mBuild 25 #[(0, (.int .i64 7)), (4, t16), (5, t19_1)]) fun t20_1 =>
 DoX Tryd.prog (mStore 25 t2_1 t20_1) w (pm1 (pm1 (pk K))) fun _ w =>
 S1 w ∧ (S_foliantlaw07_lives_0 t2_1 w K)))))) ∧ (DoX Tryd.prog (mAlloc 25) w (pm1 (pm1 (pk K))) fun t2_2 w =>
 S1 w ∧ (CallX Tryd.prog 12 #[(.int .i64 1)] w (pm1 (pm1 (pk K))) fun t17_1 w =>
 S1 w ∧ (DoX Tryd.prog (mBuildS 23 2 #[(0, t17_1), (1, t18)]) w (pm1 (pm1 (pk K))) fun t19_2 w =>
 S1 w ∧ (HDo Tryd.prog S1 (mBuild 25 #[(0, (.int .i64 7)), (4, t16), (5, t19_2)]) fun t20_2 =>
 DoX Tryd.prog (mStore 25 t2_2 t20_2) w (pm1 (pm1 (pk K))) fun _ w =>
 S1 w ∧ (S_foliantlaw07_lives_0 t2_2 w K))))))) ∧ (CallX Tryd.prog 12 #[(.int .i64 1)] w (pm1 (pm1 (pk K))) fun t17_2 w =>
 S1 w ∧ ((DoX Tryd.prog (mBuildS 22 2 #[(0, (.string ⟨#[65]⟩)), (1, (.string ⟨#[66]⟩))]) w (pm1 (pm1 (pk K))) fun t16_1 w =>
 S1 w ∧ ((DoX Tryd.prog (mBuildS 23 2 #[(0, t17_2), (1, t18)]) w (pm1 (pm1 (pk K))) fun t19_3 w =>
 S1 w ∧ (HDo Tryd.prog S1 (mBuild 25 #[(0, (.int .i64 7)), (4, t16_1), (5, t19_3)]) fun t20_3 =>
 DoX Tryd.prog (mAlloc 25) w (pm1 (pm1 (pk K))) fun t2_3 w =>
 S1 w ∧ (DoX Tryd.prog (mStore 25 t2_3 t20_3) w (pm1 (pm1 (pk K))) fun _ w =>
 S1 w ∧ (S_foliantlaw07_lives_0 t2_3 w K)))) ∧ (DoX Tryd.prog (mAlloc 25) w (pm1 (pm1 (pk K))) fun t2_4 w =>
 S1 w ∧ (DoX Tryd.prog (mBuildS 23 2 #[(0, t17_2), (1, t18)]) w (pm1 (pm1 (pk K))) fun t19_4 w =>
 S1 w ∧ (HDo Tryd.prog S1 (mBuild 25 #[(0, (.int .i64 7)), (4, t16_1), (5, t19_4)]) fun t20_4 =>
 DoX Tryd.prog (mStore 25 t2_4 t20_4) w (pm1 (pm1 (pk K))) fun _ w =>
 S1 w ∧ (S_foliantlaw07_lives_0 t2_4 w K)))))) ∧ (DoX Tryd.prog (mBuildS 23 2 #[(0, t17_2), (1, t18)]) w (pm1 (pm1 (pk K))) fun t19_5 w =>
 S1 w ∧ ((DoX Tryd.prog (mBuildS 22 2 #[(0, (.string ⟨#[65]⟩)), (1, (.string ⟨#[66]⟩))]) w (pm1 (pm1 (pk K))) fun t16_2 w =>
 S1 w ∧ (HDo Tryd.prog S1 (mBuild 25 #[(0, (.int .i64 7)), (4, t16_2), (5, t19_5)]) fun t20_5 =>
 DoX Tryd.prog (mAlloc 25) w (pm1 (pm1 (pk K))) fun t2_5 w =>
 S1 w ∧ (DoX Tryd.prog (mStore 25 t2_5 t20_5) w (pm1 (pm1 (pk K))) fun _ w =>
 S1 w ∧ (S_foliantlaw07_lives_0 t2_5 w K)))) ∧ (DoX Tryd.prog (mAlloc 25) w (pm1 (pm1 (pk K))) fun t2_6 w =>
 S1 w ∧ (DoX Tryd.prog (mBuildS 22 2 #[(0, (.string ⟨#[65]⟩)), (1, (.string ⟨#[66]⟩))]) w (pm1 (pm1 (pk K))) fun t16_3 w =>
 S1 w ∧ (HDo Tryd.prog S1 (mBuild 25 #[(0, (.int .i64 7)), (4, t16_3), (5, t19_5)]) fun t20_6 =>
 DoX Tryd.prog (mStore 25 t2_6 t20_6) w (pm1 (pm1 (pk K))) fun _ w =>
 S1 w ∧ (S_foliantlaw07_lives_0 t2_6 w K)))))) ∧ (DoX Tryd.prog (mAlloc 25) w (pm1 (pm1 (pk K))) fun t2_7 w =>
 S1 w ∧ ((DoX Tryd.prog (mBuildS 22 2 #[(0, (.string ⟨#[65]⟩)), (1, (.string ⟨#[66]⟩))]) w (pm1 (pm1 (pk K))) fun t16_4 w =>
 S1 w ∧ (DoX Tryd.prog (mBuildS 23 2 #[(0, t17_2), (1, t18)]) w (pm1 (pm1 (pk K))) fun t19_6 w =>
 S1 w ∧ (HDo Tryd.prog S1 (mBuild 25 #[(0, (.int .i64 7)), (4, t16_4), (5, t19_6)]) fun t20_7 =>
 DoX Tryd.prog (mStore 25 t2_7 t20_7) w (pm1 (pm1 (pk K))) fun _ w =>
 S1 w ∧ (S_foliantlaw07_lives_0 t2_7 w K)))) ∧ (DoX Tryd.prog (mBuildS 23 2 #[(0, t17_2), (1, t18)]) w (pm1 (pm1 (pk K))) fun t19_7 w =>
 S1 w ∧ (DoX Tryd.prog (mBuildS 22 2 #[(0, (.string ⟨#[65]⟩)), (1, (.string ⟨#[66]⟩))]) w (pm1 (pm1 (pk K))) fun t16_5 w =>
 S1 w ∧ (HDo Tryd.prog S1 (mBuild 25 #[(0, (.int .i64 7)), (4, t16_5), (5, t19_7)]) fun t20_8 =>
 DoX Tryd.prog (mStore 25 t2_7 t20_8) w (pm1 (pm1 (pk K))) fun _ w =>
 S1 w ∧ (S_foliantlaw07_lives_0 t2_7 w K)))))))) ∧ (DoX Tryd.prog (mAlloc 25) w (pm1 (pm1 (pk K))) fun t2_8 w =>
 S1 w ∧ ((DoX Tryd.prog (mBuildS 22 2 #[(0, (.string ⟨#[65]⟩)), (1, (.string ⟨#[66]⟩))]) w (pm1 (pm1 (pk K))) fun t16_6 w =>
 S1 w ∧ (CallX Tryd.prog 12 #[(.int .i64 1)] w (pm1 (pm1 (pk K))) fun t17_3 w =>
 S1 w ∧ (DoX Tryd.prog (mBuildS 23 2 #[(0, t17_3), (1, t18)]) w (pm1 (pm1 (pk K))) fun t19_8 w =>
 S1 w ∧ (HDo Tryd.prog S1 (mBuild 25 #[(0, (.int .i64 7)), (4, t16_6), (5, t19_8)]) fun t20_9 =>
 DoX Tryd.prog (mStore 25 t2_8 t20_9) w (pm1 (pm1 (pk K))) fun _ w =>
 S1 w ∧ (S_foliantlaw07_lives_0 t2_8 w K))))) ∧ (CallX Tryd.prog 12 #[(.int .i64 1)] w (pm1 (pm1 (pk K))) fun t17_4 w =>
 S1 w ∧ ((DoX Tryd.prog (mBuildS 22 2 #[(0, (.string ⟨#[65]⟩)), (1, (.string ⟨#[66]⟩))]) w (pm1 (pm1 (pk K))) fun t16_7 w =>
 S1 w ∧ (DoX Tryd.prog (mBuildS 23 2 #[(0, t17_4), (1, t18)]) w (pm1 (pm1 (pk K))) fun t19_9 w =>
 S1 w ∧ (HDo Tryd.prog S1 (mBuild 25 #[(0, (.int .i64 7)), (4, t16_7), (5, t19_9)]) fun t20_10 =>
 DoX Tryd.prog (mStore 25 t2_8 t20_10) w (pm1 (pm1 (pk K))) fun _ w =>
 S1 w ∧ (S_foliantlaw07_lives_0 t2_8 w K)))) ∧ (DoX Tryd.prog (mBuildS 23 2 #[(0, t17_4), (1, t18)]) w (pm1 (pm1 (pk K))) fun t19_10 w =>
 S1 w ∧ (DoX Tryd.prog (mBuildS 22 2 #[(0, (.string ⟨#[65]⟩)), (1, (.string ⟨#[66]⟩))]) w (pm1 (pm1 (pk K))) fun t16_8 w =>
 S1 w ∧ (HDo Tryd.prog S1 (mBuild 25 #[(0, (.int .i64 7)), (4, t16_8), (5, t19_10)]) fun t20_11 =>
 DoX Tryd.prog (mStore 25 t2_8 t20_11) w (pm1 (pm1 (pk K))) fun _ w =>
 S1 w ∧ (S_foliantlaw07_lives_0 t2_8 w K)))))))))
theorem S_foliantlaw07_lives_eq (w : World) (K : Ending → World → Prop) : wpX Tryd.prog 79 [] [] none (bodyOf Tryd.f5) (topQ Tryd.prog [.tmp 0] K) (startX []) [] w = S_foliantlaw07_lives w K := by kernel_rfl
theorem S_foliantlaw07_lives_ok {w : World} {K : Ending → World → Prop} (h : S_foliantlaw07_lives w K) : Calls Tryd.prog 5 #[] w K :=
  calls_of_wpX Tryd.func5 rfl rfl rfl rfl (Eq.mpr (S_foliantlaw07_lives_eq w K) h)

/- foliantlaw07.WriteText -/
/- foliantlaw07.WriteMany -/
/- foliantlaw07.WriteTokens -/
end Go.Proofs.YtiklhhdohckfiaaDoor
/- Contract: foliantlaw07.lives. -/
namespace Go.Proofs.YtiklhhdohckfiaaDoor
set_option linter.unusedVariables false
set_option linter.unusedSimpArgs false
set_option linter.defProp false
open Eng Go.RowKit

def oL : Ob := .mk 6 0 0 [] [] [ob1 5 0 0 [120], ob1 4 0 0 [121], ob1 8 2 0 []]
def oD : Ob := .mk 7 0 0 [] [[65], [66]] [ob1 2 1 0 [], oL]
def oM : List Ob := [ob1 0 0 0 [], ob1 3 (-2500) 0 [], .mk 6 0 0 [] [] [ob1 2 1 0 [], ob1 1 1 0 []]]
theorem smw_1 : Wr.text oD = ([60, 60, 47, 65, 32, 49, 47, 66, 91, 47, 120, 40, 121, 41, 50, 32, 48, 32, 82, 93, 62, 62], 0) := by decide +kernel
theorem smw_2 : Wr.text (ob1 9 0 0 []) = ([], 10) := by decide +kernel
theorem smw_3 : Wr.text (ob1 99 0 0 []) = ([], 10) := by decide +kernel
theorem smw_4 : Wr.many oM = ([110, 117, 108, 108, 10, 45, 48, 46, 50, 53, 10, 91, 49, 32, 116, 114, 117, 101, 93, 10], 0) := by decide +kernel
theorem smw_5 : oD.wt ≤ 100000000 := by decide +kernel
def obs (l : List (Ob × Value)) : List Value := l.flatMap fun x => obC x.1 nilS x.2
def kE (b : Nat) : Ent := .cells b (obs [(ob1 5 0 0 [120], nilS), (ob1 4 0 0 [121], nilS), (ob1 8 2 0 [], nilS)]) 25
def sE (b : Nat) : Ent := .cells b [.string ⟨#[65]⟩, .string ⟨#[66]⟩] 9
def kidsE (b bK : Nat) : Ent := .cells b (obs [(ob1 2 1 0 [], nilS), (oL, .slice (some ⟨bK, 0, none⟩) 3 3)]) 25
abbrev slc (b n : Nat) : Value := .slice (some ⟨b, 0, none⟩) n n
theorem lives0 {w W : World} {L : List Ent} (ht : Tb w) (ho : Own w W L) (bD bA bB bK : Nat) (hD : obE bD oD (slc bA 2) (slc bB 2) ∈ L) (hA : sE bA ∈ L) (hB : kidsE bB bK ∈ L) (hk : kE bK ∈ L) (K : Ending → World → Prop)
    (hK : ∀ W', Below w.heap.size w W' → K (.returned (.bool true)) W') : S_foliantlaw07_lives_0 (.pointer (some ⟨bD, 0, none⟩)) W K := by
  have ovD : ∀ {W : World}, Own w W L → OV (InW W) W (obV oD (slc bA 2) (slc bB 2)) oD := by
    intro W ho
    have ovL : OV (InW W) W (obV oL nilS (slc bK 3)) oL := ObAt.ov (cs := obs [(ob1 5 0 0 [120], nilS), (ob1 4 0 0 [121], nilS), (ob1 8 2 0 [], nilS)])
      ⟨SlA.nil _ _ _ _, sla_cells (ho.mem hk) 6 3 3 rfl, ovs_cons (ov_plain 5 0 0 [120]) (ovs_cons (ov_plain 4 0 0 [121]) (ovs_cons (ov_plain 8 2 0 []) OVs.nil))⟩
    exact ObAt.ov (cs := obs [(ob1 2 1 0 [], nilS), (oL, slc bK 3)]) ⟨sla_cells (ho.mem hA) 1 2 2 rfl, sla_cells (ho.mem hB) 6 2 2 rfl, ovs_cons (ov_plain 2 1 0 []) (ovs_cons ovL OVs.nil)⟩
  have ld : ∀ {W' : World}, Own w W' L → ∀ {PK : List PanicEntry → World → Prop} {K : Value → World → Prop}, DoX Tryd.prog (mLoad 25 (.pointer (some ⟨bD, 0, none⟩))) W' PK K = K (obV oD (slc bA 2) (slc bB 2)) W' :=
    fun h => l_at (AtV.agg aggOb rfl fun j v hj => by simpa using cells_cell (h.mem hD) hj)
  have mb : ∀ (k : Int) {W : World} {PK : List PanicEntry → World → Prop} {K : Value → World → Prop}, DoX Tryd.prog (mBuild 25 #[(0, .int .i64 k)]) W PK K = K (obV (ob1 k 0 0 []) nilS nilS) W := fun k => do_eq (by kernel_rfl)
  unfold S_foliantlaw07_lives_0
  rw [ld ho]
  refine c_told (wtext7_ret oD _ W (ht.own ho) (ovD ho) smw_5) (by rw [smw_1]) ho fun w1 ho => ?_
  simp only [txtV, ex, mb]
  refine c_told (wtext7_ret (ob1 9 0 0 []) _ w1 (ht.own ho) (ov_plain 9 0 0 []) (by decide +kernel)) (by rw [smw_2]) ho fun w2 ho => ?_
  simp only [txtV, ex, mb]
  refine c_told (wtext7_ret (ob1 99 0 0 []) _ w2 (ht.own ho) (ov_plain 99 0 0 []) (by decide +kernel)) (by rw [smw_3]) ho fun w3 ho => ?_
  simp only [txtV, ex]
  refine c_told (rnull_ret w3) rfl ho fun w4 ho => ?_
  refine c_told (rreal05_ret (-2500) w4) rfl ho fun w5 ho => ?_
  refine c_told (rint05_ret 1 w5) rfl ho fun w6 ho => ?_
  refine c_told (rtrue05_ret w6) rfl ho fun w7 ho => ?_
  refine o_new (fun b => slc b 2) (obs [(ob1 2 1 0 [], nilS), (ob1 1 1 0 [], nilS)]) 25 (fun _ => by kernel_rfl) ho fun b8 w8 ho => ?_
  refine c_told (rarr05_ret (some ⟨b8, 0, none⟩) 2 2 [ob1 2 1 0 [], ob1 1 1 0 []] w8) rfl ho fun w9 ho => ?_
  refine o_new (fun b => slc b 3) (obs [(ob1 0 0 0 [], nilS), (ob1 3 (-2500) 0 [], nilS), (.mk 6 0 0 [] [] [ob1 2 1 0 [], ob1 1 1 0 []], slc b8 2)]) 25 (fun _ => by kernel_rfl) ho fun b10 w10 ho => ?_
  have ovA : OV (InW w10) w10 (obV (.mk 6 0 0 [] [] [ob1 2 1 0 [], ob1 1 1 0 []]) nilS (slc b8 2)) (.mk 6 0 0 [] [] [ob1 2 1 0 [], ob1 1 1 0 []]) := ObAt.ov (cs := obs [(ob1 2 1 0 [], nilS), (ob1 1 1 0 [], nilS)])
    ⟨SlA.nil _ _ _ _, sla_cells (ho.at_ 1 rfl) 6 2 2 rfl, ovs_cons (ov_plain 2 1 0 []) (ovs_cons (ov_plain 1 1 0 []) OVs.nil)⟩
  have hat : ObAt (InW w10) w10 (.mk 0 0 0 [] [] oM) nilS (slc b10 3) (obs [(ob1 0 0 0 [], nilS), (ob1 3 (-2500) 0 [], nilS), (.mk 6 0 0 [] [] [ob1 2 1 0 [], ob1 1 1 0 []], slc b8 2)]) :=
    ⟨SlA.nil _ _ _ _, sla_cells (ho.at_ 0 rfl) 6 3 3 rfl, ovs_cons (ov_plain 0 0 0 []) (ovs_cons (ov_plain 3 (-2500) 0 []) (ovs_cons ovA OVs.nil))⟩
  refine c_told (wmany_ret (.mk 0 0 0 [] [] oM) nilS _ _ w10 (ht.own ho) hat (by decide +kernel)) (by rw [show (Ob.mk 0 0 0 [] [] oM).kids = oM from rfl, smw_4]) ho fun w11 ho => ?_
  have ho := ho.tail.tail
  simp only [txtV, ex, rs, eq_self, decide_true, ld ho]
  refine c_told (wsize7_ret oD _ w11 (ht.own ho) (ovD ho) smw_5) (by rw [smw_1]) ho fun w12 ho => ?_
  simp only [rs, eq_self, decide_true, mb, List.length_cons, List.length_nil]
  have e22 : decide (((0 + 1 + 1 + 1 + 1 + 1 + 1 + 1 + 1 + 1 + 1 + 1 + 1 + 1 + 1 + 1 + 1 + 1 + 1 + 1 + 1 + 1 + 1 : Nat) : Int) = 22) = true := by decide
  simp only [e22, rs]
  refine c_told (wsize7_ret (ob1 99 0 0 []) _ w12 (ht.own ho) (ov_plain 99 0 0 []) (by decide +kernel)) (by rw [smw_3]) ho fun w13 ho => ?_
  have e0 : decide (((0 : Nat) : Int) = 0) = true := by decide
  simp only [rs, List.length_nil, e0]
  exact hK _ ho.done
/-- What is made of the sample, in whatever order: before the object's cell, and behind. -/
def St0 (w : World) (bL bK : Nat) (W : World) (a b : Option Nat) : Prop := ∃ L, Own w W (L ++ [obE bL oL nilS (slc bK 3), kE bK]) ∧ (∀ x, a = some x → sE x ∈ L) ∧ (∀ x, b = some x → kidsE x bK ∈ L)
def St1 (w : World) (bL bK : Nat) (W : World) (a b : Option Nat) (d : Nat) : Prop := ∃ L, Own w W (obE d ob0 nilS nilS :: (L ++ [obE bL oL nilS (slc bK 3), kE bK])) ∧ (∀ x, a = some x → sE x ∈ L) ∧ (∀ x, b = some x → kidsE x bK ∈ L)
def St2 (w : World) (bL bK : Nat) (W : World) (a b d : Nat) : Prop := ∃ L, Own w W (obE d oD (slc a 2) (slc b 2) :: (L ++ [obE bL oL nilS (slc bK 3), kE bK])) ∧ sE a ∈ L ∧ kidsE b bK ∈ L
def StS (w : World) (bL bK : Nat) : World → Prop := fun W => ∃ L, Own w W (L ++ [obE bL oL nilS (slc bK 3), kE bK])
section
variable {w W : World} {bL bK d : Nat} {a b : Option Nat} {PK : List PanicEntry → World → Prop} {K : Value → World → Prop}
theorem st0_s (h : St0 w bL bK W a b) : StS w bL bK W := by obtain ⟨L, h, _⟩ := h; exact ⟨L, h⟩
theorem st1_s (h : St1 w bL bK W a b d) : StS w bL bK W := by obtain ⟨L, h, _⟩ := h; exact ⟨_ :: L, h⟩
theorem st2_s {a b : Nat} (h : St2 w bL bK W a b d) : StS w bL bK W := by obtain ⟨L, h, _⟩ := h; exact ⟨_ :: L, h⟩
theorem stA0 (h : St0 w bL bK W none b) (k : ∀ x W', St0 w bL bK W' (some x) b → K (slc x 2) W') : DoX Tryd.prog (mBuildS 22 2 #[(0, (.string ⟨#[65]⟩)), (1, (.string ⟨#[66]⟩))]) W PK K := by
  obtain ⟨L, ho, h1, h2⟩ := h
  refine o_new (fun b => slc b 2) [.string ⟨#[65]⟩, .string ⟨#[66]⟩] 9 (fun _ => by kernel_rfl) ho fun x W' ho => k x W' ⟨sE x :: L, ho, fun y hy => ?_, fun y hy => List.mem_cons_of_mem _ (h2 y hy)⟩
  cases hy; exact List.mem_cons_self ..
theorem stA1 (h : St1 w bL bK W none b d) (k : ∀ x W', St1 w bL bK W' (some x) b d → K (slc x 2) W') : DoX Tryd.prog (mBuildS 22 2 #[(0, (.string ⟨#[65]⟩)), (1, (.string ⟨#[66]⟩))]) W PK K := by
  obtain ⟨L, ho, h1, h2⟩ := h
  refine o_new (fun b => slc b 2) [.string ⟨#[65]⟩, .string ⟨#[66]⟩] 9 (fun _ => by kernel_rfl) ho fun x W' ho => k x W' ⟨sE x :: L, ho.swap, fun y hy => ?_, fun y hy => List.mem_cons_of_mem _ (h2 y hy)⟩
  cases hy; exact List.mem_cons_self ..
theorem stB0 (h : St0 w bL bK W a none) (k : ∀ x W', St0 w bL bK W' a (some x) → K (slc x 2) W') : DoX Tryd.prog (mBuildS 23 2 #[(0, obV (ob1 2 1 0 []) nilS nilS), (1, obV oL nilS (slc bK 3))]) W PK K := by
  obtain ⟨L, ho, h1, h2⟩ := h
  refine o_new (fun b => slc b 2) (obs [(ob1 2 1 0 [], nilS), (oL, slc bK 3)]) 25 (fun _ => by kernel_rfl) ho fun x W' ho => k x W' ⟨kidsE x bK :: L, ho, fun y hy => List.mem_cons_of_mem _ (h1 y hy), fun y hy => ?_⟩
  cases hy; exact List.mem_cons_self ..
theorem stB1 (h : St1 w bL bK W a none d) (k : ∀ x W', St1 w bL bK W' a (some x) d → K (slc x 2) W') : DoX Tryd.prog (mBuildS 23 2 #[(0, obV (ob1 2 1 0 []) nilS nilS), (1, obV oL nilS (slc bK 3))]) W PK K := by
  obtain ⟨L, ho, h1, h2⟩ := h
  refine o_new (fun b => slc b 2) (obs [(ob1 2 1 0 [], nilS), (oL, slc bK 3)]) 25 (fun _ => by kernel_rfl) ho fun x W' ho => k x W' ⟨kidsE x bK :: L, ho.swap, fun y hy => List.mem_cons_of_mem _ (h1 y hy), fun y hy => ?_⟩
  cases hy; exact List.mem_cons_self ..
theorem stC0 (h : St0 w bL bK W a b) (k : ∀ W', St0 w bL bK W' a b → K (obV (ob1 2 1 0 []) nilS nilS) W') : CallX Tryd.prog 12 #[(.int .i64 1)] W PK K := by
  obtain ⟨L, ho, h1, h2⟩ := h
  exact c_told (rint05_ret 1 W) rfl ho fun W' ho => k W' ⟨L, ho, h1, h2⟩
theorem stC1 (h : St1 w bL bK W a b d) (k : ∀ W', St1 w bL bK W' a b d → K (obV (ob1 2 1 0 []) nilS nilS) W') : CallX Tryd.prog 12 #[(.int .i64 1)] W PK K := by
  obtain ⟨L, ho, h1, h2⟩ := h
  exact c_told (rint05_ret 1 W) rfl ho fun W' ho => k W' ⟨L, ho, h1, h2⟩
theorem stD (h : St0 w bL bK W a b) (k : ∀ x W', St1 w bL bK W' a b x → K (.pointer (some ⟨x, 0, none⟩)) W') : DoX Tryd.prog (mAlloc 25) W PK K := by
  obtain ⟨L, ho, h1, h2⟩ := h
  exact o_oba ho fun x W' ho => k x W' ⟨L, ho, h1, h2⟩
theorem stE7 {x y : Nat} (h : St1 w bL bK W (some x) (some y) d) (k : ∀ W', St2 w bL bK W' x y d → K undef W') : DoX Tryd.prog (mStore 25 (.pointer (some ⟨d, 0, none⟩)) (obV oD (slc x 2) (slc y 2))) W PK K := by
  obtain ⟨L, ho, h1, h2⟩ := h
  exact ob_put 0 rfl rfl ho rfl fun W' ho => k W' ⟨L, ho, h1 x rfl, h2 y rfl⟩
theorem stH {x y : Nat} {S : World → Prop} {K : Value → Prop} (k : K (obV oD (slc x 2) (slc y 2))) : HDo Tryd.prog S (mBuild 25 #[(0, (.int .i64 7)), (4, slc x 2), (5, slc y 2)]) K := ⟨_, fun _ _ => by kernel_rfl, k⟩
end
theorem wlives_ret (w : World) (ht : Tb w) : Ret Tryd.prog 5 #[] w (fun v w' => v = .bool true ∧ Below w.heap.size w w') := by
  refine ret_of fun K hK => S_foliantlaw07_lives_ok ?_
  unfold S_foliantlaw07_lives
  refine c_told (rkey05_ret [120] w) rfl (Own.start w) fun w1 ho => ?_
  refine c_told (rtxt05_ret [121] w1) rfl ho fun w2 ho => ?_
  refine c_told (rref05_ret 2 0 w2) rfl ho fun w3 ho => ?_
  refine o_new (fun b => slc b 3) (obs [(ob1 5 0 0 [120], nilS), (ob1 4 0 0 [121], nilS), (ob1 8 2 0 [], nilS)]) 25 (fun _ => by kernel_rfl) ho fun bK w4 ho => ?_
  refine c_told (rarr05_ret (some ⟨bK, 0, none⟩) 3 3 [ob1 5 0 0 [120], ob1 4 0 0 [121], ob1 8 2 0 []] w4) rfl ho fun w5 ho => ?_
  refine o_oba ho fun bL w6 ho => ?_
  refine ob_put (o' := oL) (vk' := nilS) (vc' := slc bK 3) 0 rfl rfl ho rfl fun w7 ho => ?_
  have hst : St0 w bL bK w7.drew none none := ⟨[], ho.drew, (fun _ h => by cases h), (fun _ h => by cases h)⟩
  refine ⟨StS w bL bK, st0_s hst, ?_⟩
  refine ⟨obV oL nilS (slc bK 3), fun W' ⟨L, h⟩ => run_load_at (AtV.agg aggOb rfl fun j v hj => by simpa using cells_cell (h.mem (e := obE bL oL nilS (slc bK 3)) (by simp)) hj), ?_⟩
  have fin : ∀ (W : World) (x y d : Nat), St2 w bL bK W x y d → S_foliantlaw07_lives_0 (.pointer (some ⟨d, 0, none⟩)) W K := by
    rintro W x y d ⟨L, ho, h1, h2⟩
    exact lives0 ht ho d x y bK (by simp) (by simp [h1]) (by simp [h2]) (by simp) K fun W' hb => hK _ _ ⟨rfl, hb⟩
  clear hK ho
  repeat' (first
    | exact st0_s (by assumption) | exact st1_s (by assumption) | exact st2_s (by assumption) | exact fin _ _ _ _ (by assumption)
    | refine And.intro ?_ ?_
    | refine stA0 (by assumption) fun _ _ _ => ?_ | refine stA1 (by assumption) fun _ _ _ => ?_
    | refine stB0 (by assumption) fun _ _ _ => ?_ | refine stB1 (by assumption) fun _ _ _ => ?_
    | refine stC0 (by assumption) fun _ _ => ?_ | refine stC1 (by assumption) fun _ _ => ?_
    | refine stD (by assumption) fun _ _ _ => ?_
    | refine stE7 (by assumption) fun _ _ => ?_
    | refine stH ?_)
end Go.Proofs.YtiklhhdohckfiaaDoor
/- The laws WriteText, WriteMany hold. -/
namespace Go.Proofs.YtiklhhdohckfiaaDoor
set_option linter.unusedVariables false
set_option linter.unusedSimpArgs false
set_option linter.defProp false
open Eng Go.RowKit

end Go.Proofs.YtiklhhdohckfiaaDoor
/- Objects and lists of objects that came in, opened, with the bound of the bulk. -/
namespace Go.Proofs.YtiklhhdohckfiaaDoor
set_option linter.unusedVariables false
set_option linter.unusedSimpArgs false
set_option linter.defProp false
open Eng Go.RowKit Go.ChangeShapes Go.WideShapes Go.ChangeAt

set_option maxRecDepth 100000
section
variable {H : Type} {enc : TypeId × Value → H} {W : World} {sp : Nat → Bool} {held : Bool}
theorem row_obj {b0 : Nat} {v : Value} {d : DataW H} {ps : List MemPlace} (hval : Value.okWide Tryd.prog W .any b0 25 v) (hd : DataW.Trod enc Tryd.prog W 0 sp held 25 v d ps) : ∃ o : Ob, OV (InW W) W v o ∧ o.wt ≤ Rows.uptoBulk d := by
  obtain ⟨cs, rfl, _⟩ := okWide_struct Tryd.underlying25 hval
  obtain ⟨fuel, hf⟩ := hd
  obtain ⟨o, h1, h2, _⟩ := open_obj fuel _ _ hf
  exact ⟨o, by simpa [Value.cells] using h1, h2⟩
theorem bulk2 {d e : DataW H} (hk : Rows.uptoSmall H [d, e] = true) : Rows.uptoBulk d ≤ 1048576 ∧ Rows.uptoBulk e ≤ 1048576 := by
  have h : Rows.uptoBulkAll [d, e] ≤ 1048576 := of_decide_eq_true hk
  simp only [Rows.uptoBulkAll] at h
  omega
end
end Go.Proofs.YtiklhhdohckfiaaDoor
/- Code in continuation form, by program (gen.py): 1 functions. -/
namespace Go.Proofs.YtiklhhdohckfiaaDoor
set_option linter.unusedVariables false
set_option linter.unusedSimpArgs false
set_option linter.defProp false
set_option linter.unusedVariables false
set_option maxRecDepth 20000
open Eng

/- foliantref05.Texts -/
def S_foliantref05_Texts_0 (t0 t1 t12 t13 : Value) (w : World) (N1 : List Value → World → Prop) (K : Ending → World → Prop) : Prop :=
 DoX Tryd.prog (mBin .lss 3 t13 t12) w (pk K) fun t14 w =>
 IfX t14 (QuietX w (fun C2 =>
 QDo Tryd.prog C2 (mIA 22 t0 t13) fun t18 =>
 QDo Tryd.prog C2 (mLoad 9 t18) fun t19 =>
 QDo Tryd.prog C2 (mIA 22 t1 t13) fun t22 =>
 QDo Tryd.prog C2 (mLoad 9 t22) fun t23 =>
 QDo Tryd.prog C2 (mEq .neq 9 (.tmp 19) (.tmp 23) t19 t23) fun t24 =>
 ∀ w, C2 w →
 IfX t24 (K (.returned (.bool false)) w) (DoX Tryd.prog (mBin .add 3 t13 (.int .i64 1)) w (pk K) fun t25 w =>
 N1 [t25] w))) (K (.returned (.bool true)) w)
def S_foliantref05_Texts (t0 t1 : Value) (w : World) (K : Ending → World → Prop) : Prop :=
 DoX Tryd.prog (mB .len #[22] 3 #[false] #[t0]) w (pk K) fun t7 w =>
 DoX Tryd.prog (mB .len #[22] 3 #[false] #[t1]) w (pk K) fun t9 w =>
 DoX Tryd.prog (mEq .neq 3 (.tmp 7) (.tmp 9) t7 t9) w (pk K) fun t10 w =>
 IfX t10 (K (.returned (.bool false)) w) (DoX Tryd.prog (mB .len #[22] 3 #[false] #[t0]) w (pk K) fun t12 w =>
 LoopX [(.int .i64 0)] w (fun vs1 w N1 => ∀ _ : Sg, S_foliantref05_Texts_0 t0 t1 t12 (vs1.getD 0 undef) w N1 K))
theorem S_foliantref05_Texts_eq (t0 t1 : Value) (w : World) (K : Ending → World → Prop) : wpX Tryd.prog 26 [] [(4, [13])] none (bodyOf Tryd.f22) (topQ Tryd.prog [.tmp 4] K) (startX [t0, t1]) [] w = S_foliantref05_Texts t0 t1 w K := by kernel_rfl
theorem S_foliantref05_Texts_ok {t0 t1 : Value} {w : World} {K : Ending → World → Prop} (h : S_foliantref05_Texts t0 t1 w K) : Calls Tryd.prog 22 #[t0, t1] w K :=
  calls_of_wpX Tryd.func22 rfl rfl rfl rfl (Eq.mpr (S_foliantref05_Texts_eq t0 t1 w K) h)

end Go.Proofs.YtiklhhdohckfiaaDoor
/- Contract: foliantref05.Texts. -/
namespace Go.Proofs.YtiklhhdohckfiaaDoor
set_option linter.unusedVariables false
set_option linter.unusedSimpArgs false
set_option linter.defProp false
open Eng Go.RowKit

theorem nStrT : notAgg Tryd.prog 9 = true := by kernel_rfl
theorem rtexts_ret (va vb : Value) (la lb : List (List UInt8)) (w : World) (ha : Sl w va 1 la.length (strsV la)) (hb : Sl w vb 1 lb.length (strsV lb)) (hl : la.length ≤ 1099511627776) :
    Ret Tryd.prog 22 #[va, vb] w (fun r w' => r = .bool (decide (la = lb)) ∧ Below w.heap.size w w') := by
  refine ret_of fun K hK => S_foliantref05_Texts_ok ?_
  unfold S_foliantref05_Texts
  rw [sl_len Tryd.underlying22 ha, sl_len Tryd.underlying22 hb]
  simp only [rs]
  by_cases hlen : (la.length : Int) ≠ (lb.length : Int)
  · simp only [decide_eq_true hlen, i_t]
    have hne : la ≠ lb := fun e => hlen (by rw [e])
    exact hK _ _ ⟨by rw [decide_eq_false hne], (Own.start w).done⟩
  have hle : la.length = lb.length := by omega
  simp only [decide_eq_false hlen, i_f, sl_len Tryd.underlying22 ha]
  refine loop (fun vs w' => ∃ (i : Nat), vs = [.int .i64 i] ∧ i ≤ la.length ∧ la.take i = lb.take i ∧ Own w w' []) (fun vs _ => la.length - n0 vs) ⟨0, rfl, by omega, by simp, Own.start w⟩ ?_
  rintro vs w2 ⟨i, rfl, hi, he, ho⟩ _
  simp only [S_foliantref05_Texts_0, gd, rs]
  by_cases hlt : (i : Int) < (la.length : Int)
  · have h1 : i < la.length := by omega
    have h2 : i < lb.length := by omega
    simp only [hlt, decide_true, rs]
    obtain ⟨ba, oa, ca, rfl, hca⟩ := sl_open ha (by omega)
    obtain ⟨bb, ob, cb, rfl, hcb⟩ := sl_open hb (by omega)
    refine quiet (q_do _ (fun _ => run_ia Tryd.underlying22 (show _ = some 1 by kernel_rfl) (by omega) (by omega)) ?_)
    refine q_at (.string ⟨(la[i]).toArray⟩) (fun wc hw => run_load_cell nStrT ((ho.grow hw).old ?_)) ?_
    · rw [Int.toNat_natCast, Nat.mul_one]; exact hca i _ (strsV_get h1)
    refine q_do _ (fun _ => run_ia Tryd.underlying22 (show _ = some 1 by kernel_rfl) (by omega) (by omega)) ?_
    refine q_at (.string ⟨(lb[i]).toArray⟩) (fun wc hw => run_load_cell nStrT ((ho.grow hw).old ?_)) ?_
    · rw [Int.toNat_natCast, Nat.mul_one]; exact hcb i _ (strsV_get h2)
    refine q_sne ?_
    intro w3 hw
    have ho := ho.grow hw
    by_cases hq : la[i] = lb[i]
    · simp only [hq, ne_eq, not_true, decide_false, i_f, rs]
      rw [wrap64_id (by omega) (by omega)]
      refine nextX ⟨i + 1, rfl, by omega, ?_, ho⟩ (by simp [n0, intOf]; omega)
      rw [List.take_succ_eq_append_getElem h1, List.take_succ_eq_append_getElem h2, he, hq]
    · simp only [hq, ne_eq, not_false_eq_true, decide_true, i_t]
      have hne : la ≠ lb := fun e => hq (by subst e; rfl)
      exact hK _ _ ⟨by rw [decide_eq_false hne], ho.done⟩
  · simp only [hlt, decide_false, rs, g_un]
    have hab : la = lb := by
      rw [List.take_of_length_le (by omega), List.take_of_length_le (by omega)] at he; exact he
    exact hK _ _ ⟨by rw [decide_eq_true hab], ho.done⟩
end Go.Proofs.YtiklhhdohckfiaaDoor
/- Code in continuation form, by program (gen.py): 2 functions. -/
namespace Go.Proofs.YtiklhhdohckfiaaDoor
set_option linter.unusedVariables false
set_option linter.unusedSimpArgs false
set_option linter.defProp false
set_option linter.unusedVariables false
set_option maxRecDepth 20000
open Eng

/- foliantref05.Same -/
def S_foliantref05_Same (t0 t1 : Value) (w : World) (K : Ending → World → Prop) : Prop :=
 DoX Tryd.prog (mBox 25 t0) w (pk K) fun t2 w =>
 DoX Tryd.prog (mBox 25 t1) w (pk K) fun t3 w =>
 DoX Tryd.prog (mFA 25 t2 0) w (pk K) fun t5 w =>
 DoX Tryd.prog (mLoad 3 t5) w (pk K) fun t6 w =>
 DoX Tryd.prog (mFA 25 t3 0) w (pk K) fun t7 w =>
 DoX Tryd.prog (mLoad 3 t7) w (pk K) fun t8 w =>
 DoX Tryd.prog (mEq .eql 3 (.tmp 6) (.tmp 8) t6 t8) w (pk K) fun t9 w =>
 GDo t9 true (fun E => DoX Tryd.prog (mFA 25 t2 1) w (pk K) E) w fun t11 w =>
 GDo t9 true (fun E => DoX Tryd.prog (mLoad 2 t11) w (pk K) E) w fun t12 w =>
 GDo t9 true (fun E => DoX Tryd.prog (mFA 25 t3 1) w (pk K) E) w fun t13 w =>
 GDo t9 true (fun E => DoX Tryd.prog (mLoad 2 t13) w (pk K) E) w fun t14 w =>
 GDo t9 true (fun E => DoX Tryd.prog (mEq .eql 2 (.tmp 12) (.tmp 14) t12 t14) w (pk K) E) w fun t15 w =>
 DoX Tryd.prog (mPick t9 t15 (.bool false)) w (pk K) fun t16 w =>
 GDo t16 true (fun E => DoX Tryd.prog (mFA 25 t2 2) w (pk K) E) w fun t18 w =>
 GDo t16 true (fun E => DoX Tryd.prog (mLoad 3 t18) w (pk K) E) w fun t19 w =>
 GDo t16 true (fun E => DoX Tryd.prog (mFA 25 t3 2) w (pk K) E) w fun t20 w =>
 GDo t16 true (fun E => DoX Tryd.prog (mLoad 3 t20) w (pk K) E) w fun t21 w =>
 GDo t16 true (fun E => DoX Tryd.prog (mEq .eql 3 (.tmp 19) (.tmp 21) t19 t21) w (pk K) E) w fun t22 w =>
 DoX Tryd.prog (mPick t16 t22 (.bool false)) w (pk K) fun t23 w =>
 GDo t23 true (fun E => DoX Tryd.prog (mFA 25 t2 3) w (pk K) E) w fun t25 w =>
 GDo t23 true (fun E => DoX Tryd.prog (mLoad 9 t25) w (pk K) E) w fun t26 w =>
 GDo t23 true (fun E => DoX Tryd.prog (mFA 25 t3 3) w (pk K) E) w fun t27 w =>
 GDo t23 true (fun E => DoX Tryd.prog (mLoad 9 t27) w (pk K) E) w fun t28 w =>
 GDo t23 true (fun E => DoX Tryd.prog (mEq .eql 9 (.tmp 26) (.tmp 28) t26 t28) w (pk K) E) w fun t29 w =>
 DoX Tryd.prog (mPick t23 t29 (.bool false)) w (pk K) fun t30 w =>
 GDo t30 true (fun E => DoX Tryd.prog (mFA 25 t2 4) w (pk K) E) w fun t32 w =>
 GDo t30 true (fun E => DoX Tryd.prog (mLoad 22 t32) w (pk K) E) w fun t33 w =>
 GDo t30 true (fun E => DoX Tryd.prog (mFA 25 t3 4) w (pk K) E) w fun t34 w =>
 GDo t30 true (fun E => DoX Tryd.prog (mLoad 22 t34) w (pk K) E) w fun t35 w =>
 GDo t30 true (fun E => CallX Tryd.prog 22 #[t33, t35] w (pk K) E) w fun t36 w =>
 DoX Tryd.prog (mPick t30 t36 (.bool false)) w (pk K) fun t37 w =>
 GDo t37 true (fun E => DoX Tryd.prog (mFA 25 t2 5) w (pk K) E) w fun t39 w =>
 GDo t37 true (fun E => DoX Tryd.prog (mLoad 23 t39) w (pk K) E) w fun t40 w =>
 GDo t37 true (fun E => DoX Tryd.prog (mFA 25 t3 5) w (pk K) E) w fun t41 w =>
 GDo t37 true (fun E => DoX Tryd.prog (mLoad 23 t41) w (pk K) E) w fun t42 w =>
 GDo t37 true (fun E => CallX Tryd.prog 23 #[t40, t42] w (pk K) E) w fun t43 w =>
 DoX Tryd.prog (mPick t37 t43 (.bool false)) w (pk K) fun t44 w =>
 K (.returned t44) w
theorem S_foliantref05_Same_eq (t0 t1 : Value) (w : World) (K : Ending → World → Prop) : wpX Tryd.prog 45 [] [] none (bodyOf Tryd.f7) (topQ Tryd.prog [.tmp 4] K) (startX [t0, t1]) [] w = S_foliantref05_Same t0 t1 w K := by kernel_rfl
theorem S_foliantref05_Same_ok {t0 t1 : Value} {w : World} {K : Ending → World → Prop} (h : S_foliantref05_Same t0 t1 w K) : Calls Tryd.prog 7 #[t0, t1] w K :=
  calls_of_wpX Tryd.func7 rfl rfl rfl rfl (Eq.mpr (S_foliantref05_Same_eq t0 t1 w K) h)

/- foliantref05.List -/
def S_foliantref05_List_0 (t0 t1 t12 t13 : Value) (w : World) (N1 : List Value → World → Prop) (K : Ending → World → Prop) : Prop :=
 DoX Tryd.prog (mBin .lss 3 t13 t12) w (pk K) fun t14 w =>
 IfX t14 (QuietX w (fun C2 =>
 QDo Tryd.prog C2 (mIA 23 t0 t13) fun t18 =>
 QDo Tryd.prog C2 (mLoad 25 t18) fun t19 =>
 QDo Tryd.prog C2 (mIA 23 t1 t13) fun t22 =>
 QDo Tryd.prog C2 (mLoad 25 t22) fun t23 =>
 QCall Tryd.prog C2 7 #[t19, t23] fun t24 =>
 QDo Tryd.prog C2 (mUn .not t24) fun t25 =>
 ∀ w, C2 w →
 IfX t25 (K (.returned (.bool false)) w) (DoX Tryd.prog (mBin .add 3 t13 (.int .i64 1)) w (pk K) fun t26 w =>
 N1 [t26] w))) (K (.returned (.bool true)) w)
def S_foliantref05_List (t0 t1 : Value) (w : World) (K : Ending → World → Prop) : Prop :=
 DoX Tryd.prog (mB .len #[23] 3 #[false] #[t0]) w (pk K) fun t7 w =>
 DoX Tryd.prog (mB .len #[23] 3 #[false] #[t1]) w (pk K) fun t9 w =>
 DoX Tryd.prog (mEq .neq 3 (.tmp 7) (.tmp 9) t7 t9) w (pk K) fun t10 w =>
 IfX t10 (K (.returned (.bool false)) w) (DoX Tryd.prog (mB .len #[23] 3 #[false] #[t0]) w (pk K) fun t12 w =>
 LoopX [(.int .i64 0)] w (fun vs1 w N1 => ∀ _ : Sg, S_foliantref05_List_0 t0 t1 t12 (vs1.getD 0 undef) w N1 K))
theorem S_foliantref05_List_eq (t0 t1 : Value) (w : World) (K : Ending → World → Prop) : wpX Tryd.prog 27 [] [(4, [13])] none (bodyOf Tryd.f23) (topQ Tryd.prog [.tmp 4] K) (startX [t0, t1]) [] w = S_foliantref05_List t0 t1 w K := by kernel_rfl
theorem S_foliantref05_List_ok {t0 t1 : Value} {w : World} {K : Ending → World → Prop} (h : S_foliantref05_List t0 t1 w K) : Calls Tryd.prog 23 #[t0, t1] w K :=
  calls_of_wpX Tryd.func23 rfl rfl rfl rfl (Eq.mpr (S_foliantref05_List_eq t0 t1 w K) h)

end Go.Proofs.YtiklhhdohckfiaaDoor
/- Code in continuation form, by program (gen.py): 1 functions. -/
namespace Go.Proofs.YtiklhhdohckfiaaDoor
set_option linter.unusedVariables false
set_option linter.unusedSimpArgs false
set_option linter.defProp false
set_option linter.unusedVariables false
set_option maxRecDepth 20000
open Eng

/- foliantlaw07.WriteApart -/
def S_foliantlaw07_WriteApart (t0 t1 : Value) (w : World) (K : Ending → World → Prop) : Prop :=
 DoX Tryd.prog (mBox 25 t0) w (pk K) fun t2 w =>
 DoX Tryd.prog (mBox 25 t1) w (pk K) fun t3 w =>
 QuietX w (fun C1 =>
 QDo Tryd.prog C1 (mLoad 25 t2) fun t9 =>
 QCall Tryd.prog C1 4 #[t9] fun t10 =>
 QDo Tryd.prog C1 (mLoad 25 t3) fun t11 =>
 QCall Tryd.prog C1 4 #[t11] fun t12 =>
 QDo Tryd.prog C1 (mBin .add 3 t10 t12) fun t13 =>
 QDo Tryd.prog C1 (mBin .gtr 3 t13 (.int .i64 3000)) fun t14 =>
 ∀ w, C1 w →
 IfX t14 (CallX Tryd.prog 5 #[] w (pk K) fun t15 w =>
 K (.returned t15) w) (DoX Tryd.prog (mLoad 25 t2) w (pk K) fun t17 w =>
 CallX Tryd.prog 6 #[t17] w (pk K) fun t18 w =>
 DoX Tryd.prog (mExt t18 0) w (pk K) fun t19 w =>
 DoX Tryd.prog (mExt t18 1) w (pk K) fun t20 w =>
 DoX Tryd.prog (mLoad 25 t3) w (pk K) fun t22 w =>
 CallX Tryd.prog 6 #[t22] w (pk K) fun t23 w =>
 DoX Tryd.prog (mExt t23 0) w (pk K) fun t24 w =>
 DoX Tryd.prog (mExt t23 1) w (pk K) fun t25 w =>
 DoX Tryd.prog (mEq .neq 28 (.tmp 26) (.const (.int .i64 0)) t20 (.int .i64 0)) w (pk K) fun t27 w =>
 GDo t27 false (fun E => E t25 w) w fun t29 w =>
 GDo t27 false (fun E => DoX Tryd.prog (mEq .neq 28 (.tmp 29) (.const (.int .i64 0)) t29 (.int .i64 0)) w (pk K) E) w fun t30 w =>
 DoX Tryd.prog (mPick t27 (.bool true) t30) w (pk K) fun t31 w =>
 IfX t31 (CallX Tryd.prog 5 #[] w (pk K) fun t32 w =>
 K (.returned t32) w) (DoX Tryd.prog (mEq .eql 9 (.tmp 33) (.tmp 34) t19 t24) w (pk K) fun t35 w =>
 DoX Tryd.prog (mLoad 25 t2) w (pk K) fun t36 w =>
 DoX Tryd.prog (mLoad 25 t3) w (pk K) fun t37 w =>
 CallX Tryd.prog 7 #[t36, t37] w (pk K) fun t38 w =>
 DoX Tryd.prog (mEq .eql 4 (.tmp 35) (.tmp 38) t35 t38) w (pk K) fun t39 w =>
 GDo t39 true (fun E => CallX Tryd.prog 5 #[] w (pk K) E) w fun t41 w =>
 DoX Tryd.prog (mPick t39 t41 (.bool false)) w (pk K) fun t42 w =>
 K (.returned t42) w)))
theorem S_foliantlaw07_WriteApart_eq (t0 t1 : Value) (w : World) (K : Ending → World → Prop) : wpX Tryd.prog 43 [] [] none (bodyOf Tryd.f3) (topQ Tryd.prog [.tmp 4] K) (startX [t0, t1]) [] w = S_foliantlaw07_WriteApart t0 t1 w K := by kernel_rfl
theorem S_foliantlaw07_WriteApart_ok {t0 t1 : Value} {w : World} {K : Ending → World → Prop} (h : S_foliantlaw07_WriteApart t0 t1 w K) : Calls Tryd.prog 3 #[t0, t1] w K :=
  calls_of_wpX Tryd.func3 rfl rfl rfl rfl (Eq.mpr (S_foliantlaw07_WriteApart_eq t0 t1 w K) h)

end Go.Proofs.YtiklhhdohckfiaaDoor
/- Plain mathematics of layer 7: every part of a valid object is one token. -/
namespace Go.Proofs.YtiklhhdohckfiaaDoor
set_option linter.unusedVariables false
set_option linter.unusedSimpArgs false
set_option linter.defProp false
open Go
namespace Wr
open Lx (Single next)
theorem sg_of {u : List UInt8} {k : Int} {t : Nat} {n : Int} {s : List UInt8} (h : next u 0 = (⟨k, 0, t, n, s⟩, 0)) (ht : t = u.length) (hk : k ≠ 0) : ∃ x, Single u x := ⟨_, h, hk, rfl, by simp [ht]⟩
theorem sg_num {n : Int} (h1 : -2147483647 ≤ n) (h2 : n ≤ 2147483647) : ∃ x, Single (num n) x := by
  have e : num n = Lib.itoa n := by unfold num Pl.pInt; rw [if_pos ⟨h1, h2⟩]
  rw [e]; exact sg_of (Lx.itoa_next h1 h2) rfl (by decide)
theorem sg_name {l : List UInt8} (h : Vl.name l = true) : ∃ x, Single (Pl.pName l).1 x := by
  unfold Vl.name at h
  simp only [Bool.and_eq_true, decide_eq_true_eq] at h
  have e : (Pl.pName l).1 = Pl.name l := by unfold Pl.pName; rw [if_neg (by omega), if_neg (by simpa using h.2)]
  rw [e]; exact sg_of (Lx.name_next h.1 h.2) rfl (by decide)
theorem sg_str {l : List UInt8} (h : l.length ≤ 32767) : ∃ x, Single (Pl.pStr l).1 x := by
  have e : (Pl.pStr l).1 = Pl.str l := by unfold Pl.pStr; rw [if_neg (by omega)]
  rw [e]; exact sg_of (Lx.str_next h) rfl (by decide)
theorem sg_real {n : Int} (h : Fx.okB n = true) : ∃ x, Single (Pl.pReal n).1 x := by
  have e : (Pl.pReal n).1 = Fx.text n := by unfold Pl.pReal; rw [if_pos h]
  rw [e]; exact sg_of (Lx.text_next h) rfl (by decide)
theorem sg_R : ∃ x, Single [82] x := ⟨(next [82] 0).1, by unfold Single; decide +kernel⟩
theorem sg_a : ∃ x, Single [91] x := ⟨(next [91] 0).1, by unfold Single; decide +kernel⟩
theorem sg_b : ∃ x, Single [93] x := ⟨(next [93] 0).1, by unfold Single; decide +kernel⟩
theorem sg_c : ∃ x, Single [60, 60] x := ⟨(next [60, 60] 0).1, by unfold Single; decide +kernel⟩
theorem sg_d : ∃ x, Single [62, 62] x := ⟨(next [62, 62] 0).1, by unfold Single; decide +kernel⟩
theorem sg_nul : ∃ x, Single nul x := ⟨(next nul 0).1, by unfold Single; decide +kernel⟩
theorem sg_tru : ∃ x, Single tru x := ⟨(next tru 0).1, by unfold Single; decide +kernel⟩
theorem sg_fal : ∃ x, Single fal x := ⟨(next fal 0).1, by unfold Single; decide +kernel⟩
theorem form_name {o : Ob} (h : Vl.form o = true) (k5 : o.k = 5) : Vl.name o.s = true := by
  have := h
  simp only [Vl.form, k5, decide_true, Bool.not_true, Bool.false_or, Bool.and_eq_true] at this
  exact this.1
theorem form_keys {o : Ob} (h : Vl.form o = true) (k7 : o.k = 7) : o.keys.length = o.kids.length ∧ ∀ key ∈ o.keys, Vl.name key = true := by
  have hf := h
  simp only [Vl.form, k7, true_or, decide_true, Bool.not_true, Bool.false_or, Bool.and_eq_true] at hf
  have h2 := hf.2
  simp only [Vl.rising, Bool.and_eq_true, decide_eq_true_eq] at h2
  refine ⟨h2.1, fun key hk => ?_⟩
  obtain ⟨i, hi, rfl⟩ := List.getElem_of_mem hk
  have := List.all_eq_true.1 h2.2 i (List.mem_range.2 hi)
  unfold Vl.keyAt at this
  simp only [Bool.and_eq_true] at this
  have e : o.keys.getD i [] = o.keys[i] := by rw [List.getD_eq_getElem?_getD, List.getElem?_eq_getElem hi]; rfl
  rw [e] at this
  exact this.1.1.1
theorem why_parts {d : Nat} {o : Ob} (h : Vl.check d o = 0) : Vl.usesOk o = true ∧ ¬ (o.k = 9 ∧ 1 < d) ∧ Vl.fits o = true ∧ o.s.length ≤ Vl.long o.k ∧ Vl.form o = true := by
  have h := check_why h
  unfold Vl.why at h
  split at h
  · cases h
  split at h
  · cases h
  split at h
  · cases h
  split at h
  · cases h
  split at h
  · cases h
  split at h
  · cases h
  rename_i h1 h2 h3 h4 h5 h6
  rw [not_or] at h2
  exact ⟨by simpa using h2.1, h2.2, by simpa using h3, by omega, by simpa using h6⟩
theorem leaf_single {d : Nat} {o : Ob} (h : Vl.check d o = 0) : ∃ x, Single (leaf o.k o.n o.s) x := by
  obtain ⟨_, _, hf, hl, hm⟩ := why_parts h
  unfold leaf
  split
  · split
    · exact sg_fal
    · exact sg_tru
  split
  · rename_i h1 h2
    have : -2147483647 ≤ o.n ∧ o.n ≤ 2147483647 := by simpa [Vl.fits, h2] using hf
    exact sg_num this.1 this.2
  split
  · rename_i h1 h2 h3
    have : -1073741824 ≤ o.n ∧ o.n ≤ 1073741824 := by simpa [Vl.fits, h3] using hf
    exact sg_real (by simp [Fx.okB]; omega)
  split
  · rename_i h1 h2 h3 h4
    have : Vl.long o.k = 32767 := by rw [h4]; rfl
    exact sg_str (by omega)
  split
  · rename_i h1 h2 h3 h4 h5
    exact sg_name (form_name hm h5)
  · exact sg_nul
 mutual
theorem parts_single : ∀ (o : Ob) (d : Nat), Vl.check d o = 0 → ∀ p ∈ parts o, ∃ x, Single p x
  | .mk k n g s keys kids, d, h => by
    have hk := check_kids h
    obtain ⟨_, _, hf, _, hm⟩ := why_parts h
    have hleaf := leaf_single h
    have h1 := partsL_single kids (d + 1) hk
    intro p hp
    rw [parts] at hp
    split at hp
    · rename_i k8
      have hn : (1 ≤ n ∧ n ≤ 8191) ∧ (0 ≤ g ∧ g ≤ 65535) := by
        have k8 : (Ob.mk k n g s keys kids).k = 8 := k8
        simp [Vl.fits, k8, Ob.n, Ob.g] at hf
        exact ⟨of_decide_eq_true hf.1, of_decide_eq_true hf.2⟩
      simp only [List.mem_cons, List.not_mem_nil, or_false] at hp
      rcases hp with rfl | rfl | rfl
      · exact sg_num (by omega) (by omega)
      · exact sg_num (by omega) (by omega)
      · exact sg_R
    split at hp
    · simp only [List.mem_cons, List.mem_append, List.not_mem_nil, or_false] at hp
      rcases hp with rfl | hp | rfl
      · exact sg_a
      · exact h1 p hp
      · exact sg_b
    split at hp
    · rename_i k8 k6 k7
      obtain ⟨_, hkeys⟩ := form_keys hm k7
      simp only [List.mem_cons, List.mem_append, List.not_mem_nil, or_false] at hp
      rcases hp with rfl | hp | rfl
      · exact sg_c
      · exact partsD_single kids (d + 1) hk keys hkeys p hp
      · exact sg_d
    · simp only [List.mem_singleton] at hp
      subst hp
      exact hleaf
theorem partsL_single : ∀ (os : List Ob) (d : Nat), (∀ x ∈ os, Vl.check d x = 0) → ∀ p ∈ partsL os, ∃ x, Single p x
  | [], _, _ => by simp [partsL]
  | o :: os, d, h => by
    intro p hp
    rw [partsL, List.mem_append] at hp
    rcases hp with hp | hp
    · exact parts_single o d (h o (by simp)) p hp
    · exact partsL_single os d (fun x hx => h x (by simp [hx])) p hp
theorem partsD_single : ∀ (os : List Ob) (d : Nat), (∀ x ∈ os, Vl.check d x = 0) → ∀ (keys : List (List UInt8)), (∀ key ∈ keys, Vl.name key = true) → ∀ p ∈ partsD keys os, ∃ x, Single p x
  | [], _, _, _, _ => by simp [partsD]
  | o :: os, d, h, keys, hkeys => by
    intro p hp
    cases keys with
    | nil => rw [partsD] at hp; cases hp
    | cons key ks =>
      rw [partsD, List.mem_cons, List.mem_append] at hp
      rcases hp with rfl | hp | hp
      · exact sg_name (hkeys key (by simp))
      · exact parts_single o d (h o (by simp)) p hp
      · exact partsD_single os d (fun x hx => h x (by simp [hx])) ks (fun k hk => hkeys k (by simp [hk])) p hp
end
end Wr
end Go.Proofs.YtiklhhdohckfiaaDoor
/- Plain mathematics of layer 7: the parts of valid objects tell the objects; so do their texts. -/
namespace Go.Proofs.YtiklhhdohckfiaaDoor
set_option linter.unusedVariables false
set_option linter.unusedSimpArgs false
set_option linter.defProp false
open Go
namespace Wr
open Lx (Single next)
/-- What a token says. -/
def sig (p : List UInt8) : Int × Int × List UInt8 := ((next p 0).1.k, (next p 0).1.n, (next p 0).1.s)
theorem sig_of {u s : List UInt8} {k n : Int} {t : Nat} (h : next u 0 = (⟨k, 0, t, n, s⟩, 0)) : sig u = (k, n, s) := by unfold sig; rw [h]
theorem sig_num {n : Int} (h1 : -2147483647 ≤ n) (h2 : n ≤ 2147483647) : sig (num n) = (1, n, []) := by
  have e : num n = Lib.itoa n := by unfold num Pl.pInt; rw [if_pos ⟨h1, h2⟩]
  rw [e]; exact sig_of (Lx.itoa_next h1 h2)
theorem sig_name {l : List UInt8} (h : Vl.name l = true) : sig (Pl.pName l).1 = (4, 0, l) := by
  unfold Vl.name at h
  simp only [Bool.and_eq_true, decide_eq_true_eq] at h
  have e : (Pl.pName l).1 = Pl.name l := by unfold Pl.pName; rw [if_neg (by omega), if_neg (by simpa using h.2)]
  rw [e]; exact sig_of (Lx.name_next h.1 h.2)
theorem sig_str {l : List UInt8} (h : l.length ≤ 32767) : sig (Pl.pStr l).1 = (3, 0, l) := by
  have e : (Pl.pStr l).1 = Pl.str l := by unfold Pl.pStr; rw [if_neg (by omega)]
  rw [e]; exact sig_of (Lx.str_next h)
theorem sig_real {n : Int} (h : Fx.okB n = true) : sig (Pl.pReal n).1 = (2, n, []) := by
  have e : (Pl.pReal n).1 = Fx.text n := by unfold Pl.pReal; rw [if_pos h]
  rw [e]; exact sig_of (Lx.text_next h)
theorem sig_R : sig [82] = (5, 0, [82]) := by decide +kernel
theorem sig_a : sig [91] = (6, 0, [91]) := by decide +kernel
theorem sig_b : sig [93] = (6, 0, [93]) := by decide +kernel
theorem sig_c : sig [60, 60] = (6, 0, [60, 60]) := by decide +kernel
theorem sig_d : sig [62, 62] = (6, 0, [62, 62]) := by decide +kernel
theorem sig_nul : sig nul = (5, 0, nul) := by decide +kernel
theorem sig_tru : sig tru = (5, 0, tru) := by decide +kernel
theorem sig_fal : sig fal = (5, 0, fal) := by decide +kernel
/-- A valid object that is no stream. -/
def fine (o : Ob) : Prop := ∃ d, 1 ≤ d ∧ Vl.check d o = 0 ∧ o.k ≠ 9
theorem fine.kids {o : Ob} (h : fine o) : ∀ x ∈ o.kids, fine x := by
  obtain ⟨d, hd, hc, _⟩ := h
  intro x hx
  have hx := check_kids hc x hx
  obtain ⟨_, h9, _⟩ := why_parts hx
  exact ⟨d + 1, by omega, hx, fun h => h9 ⟨h, by omega⟩⟩
theorem uses_of {o : Ob} {n g s ks cs : Bool} (h : Vl.usesOk o = true) (hu : Vl.used o.k = some (n, g, s, ks, cs)) : (n = false → o.n = 0) ∧ (g = false → o.g = 0) ∧ (s = false → o.s = []) ∧ (ks = false → o.keys = []) ∧ (cs = false → o.kids = []) := by
  unfold Vl.usesOk at h
  rw [hu] at h
  simp only [Bool.and_eq_true, Bool.or_eq_true] at h
  obtain ⟨⟨⟨⟨h1, h2⟩, h3⟩, h4⟩, h5⟩ := h
  refine ⟨fun e => ?_, fun e => ?_, fun e => ?_, fun e => ?_, fun e => ?_⟩
  · rcases h1 with h | h
    · rw [e] at h; cases h
    · exact of_decide_eq_true h
  · rcases h2 with h | h
    · rw [e] at h; cases h
    · exact of_decide_eq_true h
  · rcases h3 with h | h
    · rw [e] at h; cases h
    · exact of_decide_eq_true h
  · rcases h4 with h | h
    · rw [e] at h; cases h
    · exact of_decide_eq_true h
  · rcases h5 with h | h
    · rw [e] at h; cases h
    · exact List.eq_nil_of_length_eq_zero (of_decide_eq_true h)
theorem ob_eta (o : Ob) : o = .mk o.k o.n o.g o.s o.keys o.kids := by cases o; rfl
theorem ob_of {o : Ob} {k n g : Int} {s : List UInt8} {keys : List (List UInt8)} {kids : List Ob} (h1 : o.k = k) (h2 : o.n = n) (h3 : o.g = g) (h4 : o.s = s) (h5 : o.keys = keys) (h6 : o.kids = kids) : o = .mk k n g s keys kids := by
  subst h1; subst h2; subst h3; subst h4; subst h5; subst h6; exact ob_eta o
/-- What the fields of a valid object are that its kind does not use. -/
theorem fine.form {o : Ob} (h : fine o) :
    (o.k = 0 ∧ o = .mk 0 0 0 [] [] []) ∨ (o.k = 1 ∧ (o = .mk 1 0 0 [] [] [] ∨ o = .mk 1 1 0 [] [] [])) ∨ (o.k = 2 ∧ o = .mk 2 o.n 0 [] [] [] ∧ -2147483647 ≤ o.n ∧ o.n ≤ 2147483647) ∨
    (o.k = 3 ∧ o = .mk 3 o.n 0 [] [] [] ∧ Fx.okB o.n = true) ∨ (o.k = 4 ∧ o = .mk 4 0 0 o.s [] [] ∧ o.s.length ≤ 32767) ∨ (o.k = 5 ∧ o = .mk 5 0 0 o.s [] [] ∧ Vl.name o.s = true) ∨
    (o.k = 6 ∧ o = .mk 6 0 0 [] [] o.kids) ∨ (o.k = 7 ∧ o = .mk 7 0 0 [] o.keys o.kids ∧ o.keys.length = o.kids.length ∧ ∀ key ∈ o.keys, Vl.name key = true) ∨
    (o.k = 8 ∧ o = .mk 8 o.n o.g [] [] [] ∧ 1 ≤ o.n ∧ o.n ≤ 8191 ∧ 0 ≤ o.g ∧ o.g ≤ 65535) := by
  obtain ⟨d, hd, hc, h9⟩ := h
  obtain ⟨hu, _, hf, hl, hm⟩ := why_parts hc
  have fname := form_name hm
  have fkeys := form_keys hm
  by_cases k0 : o.k = 0
  · obtain ⟨u1, u2, u3, u4, u5⟩ := uses_of (n := false) (g := false) (s := false) (ks := false) (cs := false) hu (by simp [Vl.used, k0])
    exact .inl ⟨k0, ob_of k0 (u1 rfl) (u2 rfl) (u3 rfl) (u4 rfl) (u5 rfl)⟩
  by_cases k1 : o.k = 1
  · obtain ⟨u1, u2, u3, u4, u5⟩ := uses_of (n := true) (g := false) (s := false) (ks := false) (cs := false) hu (by simp [Vl.used, k1])
    have hn : 0 ≤ o.n ∧ o.n ≤ 1 := by simpa [Vl.fits, k1] using hf
    refine .inr (.inl ⟨k1, ?_⟩)
    rcases (show o.n = 0 ∨ o.n = 1 by omega) with h | h
    · exact .inl (ob_of k1 h (u2 rfl) (u3 rfl) (u4 rfl) (u5 rfl))
    · exact .inr (ob_of k1 h (u2 rfl) (u3 rfl) (u4 rfl) (u5 rfl))
  by_cases k2 : o.k = 2
  · obtain ⟨u1, u2, u3, u4, u5⟩ := uses_of (n := true) (g := false) (s := false) (ks := false) (cs := false) hu (by simp [Vl.used, k2])
    have hn : -2147483647 ≤ o.n ∧ o.n ≤ 2147483647 := by simpa [Vl.fits, k2] using hf
    exact .inr (.inr (.inl ⟨k2, ob_of k2 rfl (u2 rfl) (u3 rfl) (u4 rfl) (u5 rfl), hn.1, hn.2⟩))
  by_cases k3 : o.k = 3
  · obtain ⟨u1, u2, u3, u4, u5⟩ := uses_of (n := true) (g := false) (s := false) (ks := false) (cs := false) hu (by simp [Vl.used, k3])
    have hn : -1073741824 ≤ o.n ∧ o.n ≤ 1073741824 := by simpa [Vl.fits, k3] using hf
    exact .inr (.inr (.inr (.inl ⟨k3, ob_of k3 rfl (u2 rfl) (u3 rfl) (u4 rfl) (u5 rfl), by simp [Fx.okB]; omega⟩)))
  by_cases k4 : o.k = 4
  · obtain ⟨u1, u2, u3, u4, u5⟩ := uses_of (n := false) (g := false) (s := true) (ks := false) (cs := false) hu (by simp [Vl.used, k4])
    have hl : o.s.length ≤ 32767 := by simpa [Vl.long, k4] using hl
    exact .inr (.inr (.inr (.inr (.inl ⟨k4, ob_of k4 (u1 rfl) (u2 rfl) rfl (u4 rfl) (u5 rfl), hl⟩))))
  by_cases k5 : o.k = 5
  · obtain ⟨u1, u2, u3, u4, u5⟩ := uses_of (n := false) (g := false) (s := true) (ks := false) (cs := false) hu (by simp [Vl.used, k5])
    exact .inr (.inr (.inr (.inr (.inr (.inl ⟨k5, ob_of k5 (u1 rfl) (u2 rfl) rfl (u4 rfl) (u5 rfl), fname k5⟩)))))
  by_cases k6 : o.k = 6
  · obtain ⟨u1, u2, u3, u4, u5⟩ := uses_of (n := false) (g := false) (s := false) (ks := false) (cs := true) hu (by simp [Vl.used, k6])
    exact .inr (.inr (.inr (.inr (.inr (.inr (.inl ⟨k6, ob_of k6 (u1 rfl) (u2 rfl) (u3 rfl) (u4 rfl) rfl⟩))))))
  by_cases k7 : o.k = 7
  · obtain ⟨u1, u2, u3, u4, u5⟩ := uses_of (n := false) (g := false) (s := false) (ks := true) (cs := true) hu (by simp [Vl.used, k7])
    exact .inr (.inr (.inr (.inr (.inr (.inr (.inr (.inl ⟨k7, ob_of k7 (u1 rfl) (u2 rfl) (u3 rfl) rfl rfl, fkeys k7⟩)))))))
  by_cases k8 : o.k = 8
  · obtain ⟨u1, u2, u3, u4, u5⟩ := uses_of (n := true) (g := true) (s := false) (ks := false) (cs := false) hu (by simp [Vl.used, k8])
    have hn : (1 ≤ o.n ∧ o.n ≤ 8191) ∧ (0 ≤ o.g ∧ o.g ≤ 65535) := by
      simp [Vl.fits, k8] at hf
      exact hf
    exact .inr (.inr (.inr (.inr (.inr (.inr (.inr (.inr ⟨k8, ob_of k8 rfl rfl (u3 rfl) (u4 rfl) (u5 rfl), hn.1.1, hn.1.2, hn.2.1, hn.2.2⟩)))))))
  · exfalso
    unfold Vl.usesOk Vl.used at hu
    simp [k0, k1, k2, k3, k4, k5, k6, k7, k8, h9] at hu
/-- What stands first tells the kind, all but numbers from references. -/
def head (o : Ob) : Int × Int × List UInt8 := if o.k = 0 then (5, 0, nul) else if o.k = 1 then (5, 0, if o.n = 0 then fal else tru) else if o.k = 2 ∨ o.k = 8 then (1, o.n, []) else if o.k = 3 then (2, o.n, []) else if o.k = 4 then (3, 0, o.s) else if o.k = 5 then (4, 0, o.s) else if o.k = 6 then (6, 0, [91]) else (6, 0, [60, 60])
def rest (o : Ob) : List (List UInt8) := if o.k = 8 then [num o.g, [82]] else if o.k = 6 then partsL o.kids ++ [[93]] else if o.k = 7 then partsD o.keys o.kids ++ [[62, 62]] else []
theorem fine.parts {o : Ob} (h : fine o) : ∃ p, parts o = p :: rest o ∧ sig p = head o := by
  rcases h.form with ⟨k, e⟩ | ⟨k, e⟩ | ⟨k, e, h1, h2⟩ | ⟨k, e, h1⟩ | ⟨k, e, h1⟩ | ⟨k, e, h1⟩ | ⟨k, e⟩ | ⟨k, e, h1, h2⟩ | ⟨k, e, h1, h2, h3, h4⟩
  · refine ⟨nul, ?_, ?_⟩
    · rw [parts_eq]; simp [k, rest, leaf]
    · simp [head, k, sig_nul]
  · rcases e with e | e
    · refine ⟨fal, ?_, ?_⟩
      · rw [e, parts_eq]; simp [Ob.k, Ob.n, rest, leaf]
      · rw [e]; simp [head, Ob.k, Ob.n, sig_fal]
    · refine ⟨tru, ?_, ?_⟩
      · rw [e, parts_eq]; simp [Ob.k, Ob.n, rest, leaf]
      · rw [e]; simp [head, Ob.k, Ob.n, sig_tru]
  · refine ⟨num o.n, ?_, ?_⟩
    · rw [parts_eq]; simp [k, rest, leaf]
    · simp [head, k, sig_num h1 h2]
  · refine ⟨(Pl.pReal o.n).1, ?_, ?_⟩
    · rw [parts_eq]; simp [k, rest, leaf]
    · simp [head, k, sig_real h1]
  · refine ⟨(Pl.pStr o.s).1, ?_, ?_⟩
    · rw [parts_eq]; simp [k, rest, leaf]
    · simp [head, k, sig_str h1]
  · refine ⟨(Pl.pName o.s).1, ?_, ?_⟩
    · rw [parts_eq]; simp [k, rest, leaf]
    · simp [head, k, sig_name h1]
  · refine ⟨[91], ?_, ?_⟩
    · rw [parts_eq]; simp [k, rest]
    · simp [head, k, sig_a]
  · refine ⟨[60, 60], ?_, ?_⟩
    · rw [parts_eq]; simp [k, rest]
    · simp [head, k, sig_c]
  · refine ⟨num o.n, ?_, ?_⟩
    · rw [parts_eq]; simp [k, rest]
    · simp [head, k, sig_num (show -2147483647 ≤ o.n by omega) (show o.n ≤ 2147483647 by omega)]
/-- Nothing that ends, and no "R", stands first. -/
theorem fine.first {o : Ob} (h : fine o) : head o ≠ sig [82] ∧ head o ≠ sig [93] ∧ head o ≠ sig [62, 62] := by
  rw [sig_R, sig_b, sig_d]
  rcases h.form with ⟨k, e⟩ | ⟨k, e⟩ | ⟨k, e, h1, h2⟩ | ⟨k, e, h1⟩ | ⟨k, e, h1⟩ | ⟨k, e, h1⟩ | ⟨k, e⟩ | ⟨k, e, h1, h2⟩ | ⟨k, e, h1, h2, h3, h4⟩
  · simp [head, k, nul]
  · rcases e with e | e <;> rw [e] <;> simp [head, Ob.k, Ob.n, fal, tru]
  all_goals simp [head, k]
theorem head_inj {a b : Ob} (ha : fine a) (hb : fine b) (h : head a = head b) : a = b ∨ (a.k = 6 ∧ b.k = 6) ∨ (a.k = 7 ∧ b.k = 7) ∨ (a.k = 2 ∧ b.k = 8) ∨ (a.k = 8 ∧ b.k = 2) ∨ (a.k = 8 ∧ b.k = 8 ∧ a.n = b.n) := by
  rcases ha.form with ⟨k1, e1⟩ | ⟨k1, e1⟩ | ⟨k1, e1, _⟩ | ⟨k1, e1, _⟩ | ⟨k1, e1, _⟩ | ⟨k1, e1, _⟩ | ⟨k1, e1⟩ | ⟨k1, e1, _⟩ | ⟨k1, e1, _⟩ <;>
  rcases hb.form with ⟨k2, e2⟩ | ⟨k2, e2⟩ | ⟨k2, e2, _⟩ | ⟨k2, e2, _⟩ | ⟨k2, e2, _⟩ | ⟨k2, e2, _⟩ | ⟨k2, e2⟩ | ⟨k2, e2, _⟩ | ⟨k2, e2, _⟩ <;>
  simp only [head, k1, k2] at h ⊢ <;> first
    | (simp at h; done)
    | (left; rw [e1, e2]; done)
    | (simp at h; left; rw [e1, e2, h]; done)
    | (simp at h; simp; done)
    | (simp at h; simp [h]; done)
    | (rcases e1 with e1 | e1 <;> rcases e2 with e2 | e2 <;> first | (left; rw [e1, e2]; done) | (rw [e1, e2] at h; simp [Ob.n, fal, tru] at h; done))
    | (rcases e1 with e1 | e1 <;> rw [e1] at h <;> simp [Ob.n, nul, fal, tru] at h; done)
    | (rcases e2 with e2 | e2 <;> rw [e2] at h <;> simp [Ob.n, nul, fal, tru] at h; done)
/-- What follows holds no "R" at its first two places. -/
def calm0 (r : List (List UInt8)) : Prop := r.head? ≠ some [82]
def calm (r : List (List UInt8)) : Prop := calm0 r ∧ calm0 r.tail
theorem fine.calm0 {o : Ob} (h : fine o) (r : List (List UInt8)) : calm0 (Wr.parts o ++ r) := by
  obtain ⟨p, e, hp⟩ := h.parts
  rw [e]
  intro hc
  simp only [List.cons_append, List.head?_cons, Option.some.injEq] at hc
  rw [hc] at hp
  exact h.first.1 hp.symm
theorem calm0_L : ∀ (os : List Ob) (r : List (List UInt8)), (∀ x ∈ os, fine x) → calm0 (partsL os ++ [93] :: r)
  | [], r, _ => by simp [partsL, Wr.calm0]
  | o :: os, r, h => by rw [partsL, List.append_assoc]; exact (h o (by simp)).calm0 _
theorem name_ne {l : List UInt8} (h : Vl.name l = true) : (Pl.pName l).1 ≠ [82] ∧ (Pl.pName l).1 ≠ [62, 62] := by
  constructor
  · intro e; have := sig_name h; rw [e, sig_R] at this; simp at this
  · intro e; have := sig_name h; rw [e, sig_d] at this; simp at this
theorem calm0_D : ∀ (ks : List (List UInt8)) (os : List Ob) (r : List (List UInt8)), (∀ key ∈ ks, Vl.name key = true) → calm0 (partsD ks os ++ [62, 62] :: r)
  | _, [], r, _ => by simp [partsD, Wr.calm0]
  | [], o :: os, r, _ => by simp [partsD, Wr.calm0]
  | key :: ks, o :: os, r, h => by
    rw [partsD]
    intro hc
    simp only [List.cons_append, List.head?_cons, Option.some.injEq] at hc
    exact (name_ne (h key (by simp))).1 hc
/-- An object, and something behind it. -/
theorem fine.calm {o : Ob} (h : fine o) {r : List (List UInt8)} (hr : Wr.calm0 r) : calm (Wr.parts o ++ r) := by
  refine ⟨h.calm0 r, ?_⟩
  obtain ⟨p, e, hp⟩ := h.parts
  rw [e, List.cons_append, List.tail_cons, rest]
  rcases h.form with ⟨k, e⟩ | ⟨k, e⟩ | ⟨k, e, h1, h2⟩ | ⟨k, e, h1⟩ | ⟨k, e, h1⟩ | ⟨k, e, h1⟩ | ⟨k, e⟩ | ⟨k, e, h1, h2⟩ | ⟨k, e, h1, h2, h3, h4⟩
  · simpa [k] using hr
  · simpa [k] using hr
  · simpa [k] using hr
  · simpa [k] using hr
  · simpa [k] using hr
  · simpa [k] using hr
  · have := calm0_L o.kids r h.kids
    simpa [k] using this
  · have := calm0_D o.keys o.kids r h2
    simpa [k] using this
  · simp only [k, if_true]
    intro hc
    simp only [List.cons_append, List.head?_cons, Option.some.injEq] at hc
    have := sig_num (n := o.g) (by omega) (by omega)
    rw [hc, sig_R] at this
    simp at this
theorem calm_L : ∀ (os : List Ob) (r : List (List UInt8)), (∀ x ∈ os, fine x) → calm0 r → calm (partsL os ++ [93] :: r)
  | [], r, _, hr => ⟨by simp [partsL, Wr.calm0], by simpa [partsL] using hr⟩
  | o :: os, r, h, _ => by
    rw [partsL, List.append_assoc]
    exact (h o (by simp)).calm (calm0_L os r (fun x hx => h x (by simp [hx])))
theorem calm_D : ∀ (ks : List (List UInt8)) (os : List Ob) (r : List (List UInt8)), ks.length = os.length → (∀ x ∈ os, fine x) → (∀ key ∈ ks, Vl.name key = true) → calm0 r → calm (partsD ks os ++ [62, 62] :: r)
  | _, [], r, _, _, _, hr => ⟨by simp [partsD, Wr.calm0], by simpa [partsD] using hr⟩
  | [], o :: os, r, hl, _, _, _ => by simp at hl
  | key :: ks, o :: os, r, hl, h, hn, _ => by
    rw [partsD]
    refine ⟨?_, ?_⟩
    · intro hc
      simp only [List.cons_append, List.head?_cons, Option.some.injEq] at hc
      exact (name_ne (hn key (by simp))).1 hc
    · rw [List.cons_append, List.tail_cons, List.append_assoc]
      exact (h o (by simp)).calm0 _
theorem fine.arr {o : Ob} (h : fine o) (k : o.k = 6) : o = .mk 6 0 0 [] [] o.kids := by
  rcases h.form with ⟨k1, _⟩ | ⟨k1, _⟩ | ⟨k1, _⟩ | ⟨k1, _⟩ | ⟨k1, _⟩ | ⟨k1, _⟩ | ⟨k1, e⟩ | ⟨k1, _⟩ | ⟨k1, _⟩ <;> first | exact e | (rw [k] at k1; cases k1)
theorem fine.dict {o : Ob} (h : fine o) (k : o.k = 7) : o = .mk 7 0 0 [] o.keys o.kids ∧ o.keys.length = o.kids.length ∧ ∀ key ∈ o.keys, Vl.name key = true := by
  rcases h.form with ⟨k1, _⟩ | ⟨k1, _⟩ | ⟨k1, _⟩ | ⟨k1, _⟩ | ⟨k1, _⟩ | ⟨k1, _⟩ | ⟨k1, _⟩ | ⟨k1, e⟩ | ⟨k1, _⟩ <;> first | exact e | (rw [k] at k1; cases k1)
theorem fine.ref {o : Ob} (h : fine o) (k : o.k = 8) : o = .mk 8 o.n o.g [] [] [] ∧ (1 ≤ o.n ∧ o.n ≤ 8191) ∧ 0 ≤ o.g ∧ o.g ≤ 65535 := by
  rcases h.form with ⟨k1, _⟩ | ⟨k1, _⟩ | ⟨k1, _⟩ | ⟨k1, _⟩ | ⟨k1, _⟩ | ⟨k1, _⟩ | ⟨k1, _⟩ | ⟨k1, _⟩ | ⟨k1, e, h1, h2, h3, h4⟩ <;> first | exact ⟨e, ⟨h1, h2⟩, h3, h4⟩ | (rw [k] at k1; cases k1)
 mutual
theorem parts_inj : ∀ (a b : Ob) (r q : List (List UInt8)), fine a → fine b → calm r → calm q → parts a ++ r = parts b ++ q → a = b ∧ r = q
  | .mk k n g s keys kids, b, r, q, ha, hb, hr, hq, he => by
    have ihL := partsL_inj kids
    have ihD := partsD_inj kids
    have hak : ∀ x ∈ kids, fine x := ha.kids
    have hbk := hb.kids
    obtain ⟨p, e1, h1⟩ := ha.parts
    obtain ⟨p', e2, h2⟩ := hb.parts
    rw [e1, e2, List.cons_append, List.cons_append] at he
    injection he with hp he
    subst hp
    rw [h1] at h2
    rcases head_inj ha hb h2 with h | ⟨k1, k2⟩ | ⟨k1, k2⟩ | ⟨k1, k2⟩ | ⟨k1, k2⟩ | ⟨k1, k2, hn⟩
    · subst h
      exact ⟨rfl, List.append_cancel_left he⟩
    · simp only [rest, k1, k2] at he
      simp at he
      have hr0 : calm0 r := hr.1
      obtain ⟨h3, h4⟩ := ihL b.kids r q hak hbk hr.1 hq.1 (by simpa [Ob.kids] using he)
      refine ⟨?_, h4⟩
      have f1 := fine.arr ha k1
      have f2 := fine.arr hb k2
      rw [f1, f2, ← h3]; rfl
    · simp only [rest, k1, k2] at he
      simp at he
      obtain ⟨f1, l1, n1⟩ := fine.dict ha k1
      obtain ⟨f2, l2, n2⟩ := fine.dict hb k2
      obtain ⟨h5, h3, h4⟩ := ihD b.kids keys b.keys r q hak hbk l1 l2 n1 n2 hr.1 hq.1 (by simpa [Ob.kids, Ob.keys] using he)
      refine ⟨?_, h4⟩
      rw [f1, f2, ← h3, ← h5]; rfl
    · exfalso
      simp only [rest, k1, k2] at he
      simp at he
      rw [he] at hr
      exact hr.2 rfl
    · exfalso
      simp only [rest, k1, k2] at he
      simp at he
      rw [← he] at hq
      exact hq.2 rfl
    · simp only [rest, k1, k2] at he
      simp at he
      obtain ⟨f1, n1, g1⟩ := fine.ref ha k1
      obtain ⟨f2, n2, g2⟩ := fine.ref hb k2
      have hg := sig_num (n := (Ob.mk k n g s keys kids).g) (by omega) (by omega)
      rw [he.1, sig_num (by omega) (by omega)] at hg
      simp only [Prod.mk.injEq, true_and, and_true] at hg
      refine ⟨?_, he.2⟩
      rw [f1, f2, hn, hg]
theorem partsL_inj : ∀ (os bs : List Ob) (r q : List (List UInt8)), (∀ x ∈ os, fine x) → (∀ x ∈ bs, fine x) → calm0 r → calm0 q → partsL os ++ [93] :: r = partsL bs ++ [93] :: q → os = bs ∧ r = q
  | [], [], r, q, _, _, _, _, he => by simpa [partsL] using he
  | [], b :: bs, r, q, _, hb, _, _, he => by
    have hf := (hb b (by simp)).first
    obtain ⟨p, e, hp⟩ := (hb b (by simp)).parts
    rw [partsL, partsL, e] at he
    simp only [List.nil_append, List.cons_append] at he
    injection he with h _
    rw [← h] at hp
    exact absurd hp.symm hf.2.1
  | a :: os, [], r, q, ha, _, _, _, he => by
    have hf := (ha a (by simp)).first
    obtain ⟨p, e, hp⟩ := (ha a (by simp)).parts
    rw [partsL, partsL, e] at he
    simp only [List.nil_append, List.cons_append] at he
    injection he with h _
    rw [h] at hp
    exact absurd hp.symm hf.2.1
  | a :: os, b :: bs, r, q, ha, hb, hr, hq, he => by
    have ha' : ∀ x ∈ os, fine x := fun x hx => ha x (by simp [hx])
    have hb' : ∀ x ∈ bs, fine x := fun x hx => hb x (by simp [hx])
    rw [partsL, partsL, List.append_assoc, List.append_assoc] at he
    obtain ⟨rfl, he⟩ := parts_inj a b _ _ (ha a (by simp)) (hb b (by simp)) (calm_L os r ha' hr) (calm_L bs q hb' hq) he
    obtain ⟨rfl, rfl⟩ := partsL_inj os bs r q ha' hb' hr hq (by simpa using he)
    exact ⟨rfl, rfl⟩
theorem partsD_inj : ∀ (os bs : List Ob) (ka kb : List (List UInt8)) (r q : List (List UInt8)), (∀ x ∈ os, fine x) → (∀ x ∈ bs, fine x) → ka.length = os.length → kb.length = bs.length → (∀ key ∈ ka, Vl.name key = true) → (∀ key ∈ kb, Vl.name key = true) → calm0 r → calm0 q →
    partsD ka os ++ [62, 62] :: r = partsD kb bs ++ [62, 62] :: q → ka = kb ∧ os = bs ∧ r = q
  | [], [], ka, kb, r, q, _, _, hla, hlb, _, _, _, _, he => by
    rw [List.eq_nil_of_length_eq_zero hla, List.eq_nil_of_length_eq_zero hlb]
    simpa [partsD] using he
  | [], b :: bs, ka, [], r, q, _, _, _, hlb, _, _, _, _, _ => by simp at hlb
  | [], b :: bs, ka, key :: kb, r, q, _, _, _, _, _, hnb, _, _, he => by
    rw [partsD, partsD] at he
    simp only [List.nil_append, List.cons_append] at he
    injection he with h _
    exact absurd h.symm (name_ne (hnb key (by simp))).2
  | a :: os, bs, [], kb, r, q, _, _, hla, _, _, _, _, _, _ => by simp at hla
  | a :: os, [], key :: ka, kb, r, q, _, _, _, _, hna, _, _, _, he => by
    rw [partsD, partsD] at he
    simp only [List.nil_append, List.cons_append] at he
    injection he with h _
    exact absurd h (name_ne (hna key (by simp))).2
  | a :: os, b :: bs, key :: ka, [], r, q, _, _, _, hlb, _, _, _, _, _ => by simp at hlb
  | a :: os, b :: bs, key :: ka, key' :: kb, r, q, ha, hb, hla, hlb, hna, hnb, hr, hq, he => by
    have ha' : ∀ x ∈ os, fine x := fun x hx => ha x (by simp [hx])
    have hb' : ∀ x ∈ bs, fine x := fun x hx => hb x (by simp [hx])
    have hna' : ∀ x ∈ ka, Vl.name x = true := fun x hx => hna x (by simp [hx])
    have hnb' : ∀ x ∈ kb, Vl.name x = true := fun x hx => hnb x (by simp [hx])
    rw [partsD, partsD] at he
    simp only [List.cons_append, List.append_assoc] at he
    injection he with hk he
    have hs := sig_name (hna key (by simp))
    rw [hk, sig_name (hnb key' (by simp))] at hs
    simp only [Prod.mk.injEq, true_and] at hs
    obtain ⟨rfl, he⟩ := parts_inj a b _ _ (ha a (by simp)) (hb b (by simp)) (calm_D ka os r (by simpa using hla) ha' hna' hr) (calm_D kb bs q (by simpa using hlb) hb' hnb' hq) he
    obtain ⟨rfl, rfl, rfl⟩ := partsD_inj os bs ka kb r q ha' hb' (by simpa using hla) (by simpa using hlb) hna' hnb' hr hq (by simpa using he)
    rw [hs]
    exact ⟨rfl, rfl, rfl⟩
end
theorem fits_det {s : List UInt8} : ∀ (l : List Lx.Tok) (a : Int) (ps qs : List (List UInt8)), Lx.Fits s a l ps → Lx.Fits s a l qs → ps = qs
  | [], _, [], [], _, _ => rfl
  | [], _, p :: ps, _, h, _ => by simp [Lx.Fits] at h
  | [], _, [], q :: qs, _, h => by simp [Lx.Fits] at h
  | x :: l, _, [], _, h, _ => by simp [Lx.Fits] at h
  | x :: l, _, p :: ps, [], _, h => by simp [Lx.Fits] at h
  | x :: l, a, p :: ps, q :: qs, h, g => by
    obtain ⟨_, _, _, _, h1, h2⟩ := h
    obtain ⟨_, _, _, _, g1, g2⟩ := g
    rw [fits_det l x.t ps qs h2 g2, ← h1, ← g1]
theorem text_inj {a b : Ob} (ha : Vl.check 1 a = 0) (ha9 : a.k ≠ 9) (hb : Vl.check 1 b = 0) (hb9 : b.k ≠ 9) (h : Pl.join (parts a) = Pl.join (parts b)) : a = b := by
  have m1 : (parts a).length < (parts a).length + (parts b).length + 1 := by omega
  have m2 : (parts b).length < (parts a).length + (parts b).length + 1 := by omega
  obtain ⟨l, hu, _, hf⟩ := Lx.joins_upto (parts a) _ m1 (parts_single a 1 ha)
  obtain ⟨l', hu', _, hf'⟩ := Lx.joins_upto (parts b) _ m2 (parts_single b 1 hb)
  rw [h] at hu hf
  rw [hu'] at hu
  injection hu with hu
  subst hu
  have he := fits_det _ _ _ _ hf hf'
  exact (parts_inj a b [] [] ⟨1, by omega, ha, ha9⟩ ⟨1, by omega, hb, hb9⟩ ⟨by simp [calm0], by simp [calm0]⟩ ⟨by simp [calm0], by simp [calm0]⟩ (by rw [he])).1
end Wr
end Go.Proofs.YtiklhhdohckfiaaDoor
/- When there is a text. -/
namespace Go.Proofs.YtiklhhdohckfiaaDoor
set_option linter.unusedVariables false
set_option linter.unusedSimpArgs false
set_option linter.defProp false
open Eng Go.RowKit

theorem text_ok {o : Ob} (h : (Wr.text o).2 = 0) : Vl.check 1 o = 0 ∧ o.k ≠ 9 ∧ (Wr.text o).1 = Pl.join (Wr.parts o) := by
  unfold Wr.text at h ⊢
  split at h
  · rename_i hc; exact absurd h hc
  split at h
  · cases h
  rename_i hc h9
  rw [if_neg hc, if_neg h9]
  exact ⟨Classical.not_not.1 hc, h9, rfl⟩
end Go.Proofs.YtiklhhdohckfiaaDoor
/- foliantref05.Same, List; the law WriteApart holds. -/
namespace Go.Proofs.YtiklhhdohckfiaaDoor
set_option linter.unusedVariables false
set_option linter.unusedSimpArgs false
set_option linter.defProp false
open Eng Go.RowKit
namespace Ob
 mutual
def eqb : Ob → Ob → Bool
  | .mk k n g s ks cs, b => decide (k = b.k) && decide (n = b.n) && decide (g = b.g) && decide (s = b.s) && decide (ks = b.keys) && eqbs cs b.kids
def eqbs : List Ob → List Ob → Bool
  | [], [] => true
  | a :: l, b :: m => eqb a b && eqbs l m
  | [], _ :: _ => false
  | _ :: _, [] => false
end
 mutual
theorem eqb_iff : ∀ a b : Ob, eqb a b = true ↔ a = b
  | .mk k n g s ks cs, .mk k' n' g' s' ks' cs' => by
    have ih := eqbs_iff cs cs'
    rw [eqb]
    simp only [Bool.and_eq_true, decide_eq_true_eq]
    simp only [Ob.k, Ob.n, Ob.g, Ob.s, Ob.keys, Ob.kids, ih, Ob.mk.injEq, and_assoc]
theorem eqbs_iff : ∀ a b : List Ob, eqbs a b = true ↔ a = b
  | [], [] => by simp [eqbs]
  | a :: l, b :: m => by
    rw [eqbs, Bool.and_eq_true, eqb_iff a b, eqbs_iff l m]
    simp
  | [], _ :: _ => by simp [eqbs]
  | _ :: _, [] => by simp [eqbs]
end
theorem eqb_eq (a b : Ob) : eqb a b = (decide (a.k = b.k) && decide (a.n = b.n) && decide (a.g = b.g) && decide (a.s = b.s) && decide (a.keys = b.keys) && eqbs a.kids b.kids) := by cases a; rw [eqb]; rfl
theorem eqbs_drop {a b : List Ob} {i : Nat} (h1 : i < a.length) (h2 : i < b.length) : eqbs (a.drop i) (b.drop i) = (eqb a[i] b[i] && eqbs (a.drop (i + 1)) (b.drop (i + 1))) := by
  rw [List.drop_eq_getElem_cons h1, List.drop_eq_getElem_cons h2, eqbs]
theorem eqbs_len : ∀ {a b : List Ob}, a.length ≠ b.length → eqbs a b = false := by
  intro a b h
  cases he : eqbs a b with
  | false => rfl
  | true => rw [eqbs_iff] at he; exact absurd (by rw [he]) h
end Ob
theorem rlist_ret {a b : Ob} {ka va kb vb : Value} {ca cb : List Value} (w : World) (ha : ObAt (InW w) w a ka va ca) (hb : ObAt (InW w) w b kb vb cb) (hl : a.kids.length ≤ 100000000)
    (ih : ∀ (i : Nat) (h1 : i < a.kids.length) (h2 : i < b.kids.length) (x y : Value) (W : World), OV (InW W) W x a.kids[i] → OV (InW W) W y b.kids[i] → Ret Tryd.prog 7 #[x, y] W (fun v w' => v = .bool (Ob.eqb a.kids[i] b.kids[i]) ∧ Below W.heap.size W w')) :
    Ret Tryd.prog 23 #[va, vb] w (fun v w' => v = .bool (Ob.eqbs a.kids b.kids) ∧ Below w.heap.size w w') := by
  refine ret_of fun K hK => S_foliantref05_List_ok ?_
  unfold S_foliantref05_List
  rw [sl_len Tryd.underlying23 ha.kids.1, sl_len Tryd.underlying23 hb.kids.1]
  simp only [rs]
  by_cases hlen : (a.kids.length : Int) ≠ (b.kids.length : Int)
  · simp only [decide_eq_true hlen, i_t]
    exact hK _ _ ⟨by rw [Ob.eqbs_len (by omega)], (Own.start w).done⟩
  have hle : a.kids.length = b.kids.length := by omega
  simp only [decide_eq_false hlen, i_f, sl_len Tryd.underlying23 ha.kids.1]
  refine loop (fun vs w' => ∃ (i : Nat), vs = [.int .i64 i] ∧ i ≤ a.kids.length ∧ Ob.eqbs a.kids b.kids = Ob.eqbs (a.kids.drop i) (b.kids.drop i) ∧ Own w w' []) (fun vs _ => a.kids.length - n0 vs) ⟨0, rfl, by omega, by simp, Own.start w⟩ ?_
  rintro vs w2 ⟨i, rfl, hi, he, ho⟩ _
  simp only [S_foliantref05_List_0, gd, rs]
  by_cases hlt : (i : Int) < (a.kids.length : Int)
  · have h1 : i < a.kids.length := by omega
    have h2 : i < b.kids.length := by omega
    simp only [hlt, decide_true, rs]
    obtain ⟨x, p, hx, hrx⟩ := kid_at ha h1
    obtain ⟨y, q, hy, hry⟩ := kid_at hb h2
    refine quiet (q_at _ (fun W hW => (hrx W (OwnS.keptIn (ho.grow hW))).1) ?_)
    refine q_at _ (fun W hW => (hrx W (OwnS.keptIn (ho.grow hW))).2) ?_
    refine q_at _ (fun W hW => (hry W (OwnS.keptIn (ho.grow hW))).1) ?_
    refine q_at _ (fun W hW => (hry W (OwnS.keptIn (ho.grow hW))).2) ?_
    refine q_call _ (fun W hW => ret_grew (ih i h1 h2 x y W (hx.at_ (ho.grow hW)) (hy.at_ (ho.grow hW))) hW) ?_
    refine q_do _ (fun W => mv_run (by simp [Op.unary]; rfl)) ?_
    intro w3 hw
    have ho := ho.grow hw
    rw [Ob.eqbs_drop h1 h2] at he
    cases hq : Ob.eqb a.kids[i] b.kids[i] with
    | true =>
      simp only [Bool.not_true, i_f, rs]
      rw [wrap64_id (by omega) (by omega)]
      refine nextX ⟨i + 1, rfl, by omega, ?_, ho⟩ (by simp [n0, intOf]; omega)
      rw [he, hq]; rfl
    | false =>
      simp only [Bool.not_false, i_t]
      exact hK _ _ ⟨by rw [he, hq]; rfl, ho.done⟩
  · simp only [hlt, decide_false, rs]
    refine hK _ _ ⟨?_, ho.done⟩
    rw [he, List.drop_eq_nil_of_le (by omega), List.drop_eq_nil_of_le (by omega), Ob.eqbs]
theorem rsame5_ret (n : Nat) : ∀ (a b : Ob) (x y : Value) (w : World), a.wt ≤ n → a.wt ≤ 100000000 → OV (InW w) w x a → OV (InW w) w y b → Ret Tryd.prog 7 #[x, y] w (fun v w' => v = .bool (Ob.eqb a b) ∧ Below w.heap.size w w') := by
  induction n with
  | zero => intro a b x y w h; have := a.wt_pos; omega
  | succ n ih =>
  intro a b x y w hn hw hx hy
  obtain ⟨ka, va, ca, rfl, ha⟩ := hx.open
  obtain ⟨kb, vb, cb, rfl, hb⟩ := hy.open
  have hww : Ob.wts a.kids ≤ 100000000 := by cases a; rw [Ob.wt] at hw; simp only [Ob.kids]; omega
  have hkt : Pl.tot a.keys ≤ 100000000 := by cases a; rw [Ob.wt] at hw; simp only [Ob.keys]; omega
  have hlk := Ob.len_wts a.kids
  rw [Ob.eqb_eq]
  refine ret_of fun K hK => S_foliantref05_Same_ok ?_
  unfold S_foliantref05_Same
  refine o_obb a ha.keys.one ha.kids.one (Own.start w) fun p w1 ho => ?_
  refine o_obb b hb.keys.one hb.kids.one ho fun q w2 ho => ?_
  rw [fa_o0, ob_k ho 1 rfl, fa_o0, ob_k ho 0 rfl]
  by_cases h1 : a.k = b.k
  case neg => simp only [rs, h1, decide_false, Bool.false_and] at hK ⊢; exact hK _ _ ⟨rfl, ho.done⟩
  simp only [rs, h1, decide_true, fa_o1, ob_n ho 1 rfl, ob_n ho 0 rfl, Bool.true_and] at hK ⊢
  by_cases h2 : a.n = b.n
  case neg => simp only [rs, h2, decide_false, Bool.false_and] at hK ⊢; exact hK _ _ ⟨rfl, ho.done⟩
  simp only [rs, h2, decide_true, fa_o2, ob_g ho 1 rfl, ob_g ho 0 rfl, Bool.true_and] at hK ⊢
  by_cases h3 : a.g = b.g
  case neg => simp only [rs, h3, decide_false, Bool.false_and] at hK ⊢; exact hK _ _ ⟨rfl, ho.done⟩
  simp only [rs, h3, decide_true, fa_o3, ob_s ho 1 rfl, ob_s ho 0 rfl, Bool.true_and] at hK ⊢
  by_cases h4 : a.s = b.s
  case neg => simp only [rs, h4, decide_false, Bool.false_and] at hK ⊢; exact hK _ _ ⟨rfl, ho.done⟩
  simp only [rs, h4, decide_true, fa_o4, ob_keys ho 1 rfl, ob_keys ho 0 rfl, Bool.true_and] at hK ⊢
  have hkl := Pl.length_tot a.keys
  refine c_told (rtexts_ret ka kb a.keys b.keys w2 (ho.oldSl ha.keys.1) (ho.oldSl hb.keys.1) (by omega)) rfl ho fun w3 ho => ?_
  by_cases h5 : a.keys = b.keys
  case neg => simp only [rs, h5, decide_false, Bool.false_and] at hK ⊢; exact hK _ _ ⟨rfl, ho.done⟩
  simp only [rs, h5, decide_true, fa_o5, ob_kids ho 1 rfl, ob_kids ho 0 rfl, Bool.true_and] at hK ⊢
  refine c_told (rlist_ret w3 (ha.in_ ho) (hb.in_ ho) (by omega) ?_) rfl ho fun w4 ho => ?_
  · intro i hi hj x y W hx hy
    have := kid_wt hi
    exact ih _ _ x y W (by omega) (by omega) hx hy
  exact hK _ _ ⟨rfl, ho.done⟩
theorem writeApart_ret (a b : Ob) (x y : Value) (w : World) (ht : Tb w) (hx : OV (InW w) w x a) (hy : OV (InW w) w y b) (hwa : a.wt ≤ 100000000) (hwb : b.wt ≤ 100000000) : Ret Tryd.prog 3 #[x, y] w (fun v w' => v = .bool true ∧ Below w.heap.size w w') := by
  obtain ⟨ka, va, ca, rfl, ha⟩ := hx.open
  obtain ⟨kb, vb, cb, rfl, hb⟩ := hy.open
  refine ret_of fun K hK => S_foliantlaw07_WriteApart_ok ?_
  unfold S_foliantlaw07_WriteApart
  refine o_obb a ha.keys.one ha.kids.one (Own.start w) fun p w1 ho => ?_
  refine o_obb b hb.keys.one hb.kids.one ho fun q w2 ho => ?_
  have hsa := Vl.size_wt a
  have hsb := Vl.size_wt b
  refine quiet ?_
  refine q_at _ (fun W hW => run_load_at ((ho.grow hW).agg 1 rfl aggOb)) ?_
  refine q_call _ (fun W hW => ret_grew (rsize_ret a.wt a _ W (Nat.le_refl _) (ha.in_ (ho.grow hW)).ov (by omega)) hW) ?_
  refine q_at _ (fun W hW => run_load_at ((ho.grow hW).agg 0 rfl aggOb)) ?_
  refine q_call _ (fun W hW => ret_grew (rsize_ret b.wt b _ W (Nat.le_refl _) (hb.in_ (ho.grow hW)).ov (by omega)) hW) ?_
  refine q_add ?_
  rw [wrap64_id (by omega) (by omega)]
  refine q_gtr ?_
  intro w3 hW
  have ho := ho.grow hW
  by_cases h3 : (3000 : Int) < (Vl.size a : Nat) + (Vl.size b : Nat)
  · simp only [h3, decide_true, i_t]
    refine c_told (wlives_ret w3 (ht.own ho)) rfl ho fun w4 ho => ?_
    exact hK _ _ ⟨rfl, ho.done⟩
  simp only [h3, decide_false, i_f]
  rw [ob_v ho 1 rfl]
  refine c_told (wtext7_ret a _ w3 (ht.own ho) (ha.in_ ho).ov hwa) rfl ho fun w4 ho => ?_
  simp only [txtV, ex]
  rw [ob_v ho 0 rfl]
  refine c_told (wtext7_ret b _ w4 (ht.own ho) (hb.in_ ho).ov hwb) rfl ho fun w5 ho => ?_
  simp only [txtV, ex, n_err]
  by_cases h1 : (Wr.text a).2 = 0
  case neg =>
    simp only [rs, h1, ne_eq, not_false_iff, decide_true]
    refine c_told (wlives_ret w5 (ht.own ho)) rfl ho fun w6 ho => ?_
    exact hK _ _ ⟨rfl, ho.done⟩
  by_cases h2 : (Wr.text b).2 = 0
  case neg =>
    simp only [rs, h1, h2, n_err, ne_eq, not_true, not_false_iff, decide_true, decide_false]
    refine c_told (wlives_ret w5 (ht.own ho)) rfl ho fun w6 ho => ?_
    exact hK _ _ ⟨rfl, ho.done⟩
  simp only [rs, h1, h2, n_err, ne_eq, not_true, decide_false, ob_v ho 1 rfl, ob_v ho 0 rfl]
  refine c_told (rsame5_ret a.wt a b _ _ w5 (Nat.le_refl _) hwa (ha.in_ ho).ov (hb.in_ ho).ov) rfl ho fun w6 ho => ?_
  obtain ⟨c1, k1, e1⟩ := text_ok h1
  obtain ⟨c2, k2, e2⟩ := text_ok h2
  have hq : (decide ((Wr.text a).1 = (Wr.text b).1) == Ob.eqb a b) = true := by
    rw [beq_iff_eq, Bool.eq_iff_iff, decide_eq_true_eq, Ob.eqb_iff]
    refine ⟨fun h => Wr.text_inj c1 k1 c2 k2 (by rw [← e1, ← e2, h]), fun h => by rw [h]⟩
  rw [e_bool Tryd.underlying4, hq]
  simp only [rs]
  refine c_told (wlives_ret w6 (ht.own ho)) rfl ho fun w7 ho => ?_
  exact hK _ _ ⟨rfl, ho.done⟩
end Go.Proofs.YtiklhhdohckfiaaDoor
