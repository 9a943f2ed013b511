/- Texts that go together: Plain03G SLaw04B PlW PlX. -/
import Derived.Test.YtihjejmmldpelaaGreatDoorRows
import Derived.Test.YtihjejmmldpelaaGreatDoorMmnanknjl
import Derived.Test.YtihjejmmldpelaaGreatDoorMpnkbkcap
import Derived.Test.YtihjejmmldpelaaGreatDoorMfibcmaon
import Derived.Test.YtihjejmmldpelaaGreatDoorMkgkmlgij
/- Plain mathematics of layers 3 and 4: joined tokens scan into the same tokens. -/
namespace Go.Proofs.YtihjejmmldpelaaGreatDoor
set_option linter.unusedVariables false
set_option linter.unusedSimpArgs false
set_option linter.defProp false
open Go
namespace Lx
open Oc
theorem head_app {t m : List UInt8} (h : t ≠ []) : (t ++ m).head? = t.head? := by
  cases t with
  | nil => exact absurd rfl h
  | cons => rfl
theorem lineF_ext {c : UInt8} {t : List UInt8} (m : List UInt8) (he : eol c = true) (h : t ≠ []) : lineF (c :: (t ++ m)) = lineF (c :: t) := by
  simp only [lineF, head_app h]
  by_cases h1 : c = 10
  · simp [h1]
  · by_cases h2 : c = 13
    · simp [h2]
    · simp [eol, h1, h2] at he
theorem octF_ext : ∀ (k n : Nat) (l m : List UInt8), (octF k n l).2 + 1 ≤ l.length → octF k n (l ++ m) = octF k n l
  | 0, n, l, m, h => by simp [octF]
  | k + 1, n, [], m, h => by simp at h
  | k + 1, n, c :: t, m, h => by
    rw [List.cons_append]
    simp only [octF] at h ⊢
    by_cases ho : oct c = true
    · rw [if_pos ho] at h ⊢
      rw [if_pos ho]
      simp only [List.length_cons] at h
      rw [octF_ext k _ t m (by omega)]
    · rw [if_neg ho, if_neg ho]
theorem escF_ext {l : List UInt8} (m : List UInt8) (h : (escF l).2 + 1 ≤ l.length) : escF (l ++ m) = escF l := by
  cases l with
  | nil => simp at h
  | cons c t =>
    rw [List.cons_append]
    simp only [escF, List.length_cons] at h ⊢
    cases hl : escL c with
    | some b => rfl
    | none =>
      simp only [hl] at h ⊢
      by_cases he : eol c = true
      · rw [if_pos he] at h ⊢
        rw [if_pos he]
        have hp := lineF_pos c t
        simp only at h
        rw [lineF_ext m he (by intro e; subst e; simp at h; omega)]
      · rw [if_neg he] at h ⊢
        rw [if_neg he]
        have h3 : (octF 3 0 (c :: t)).2 + 1 ≤ (c :: t).length := by
          by_cases h0 : 0 < (octF 3 0 (c :: t)).2
          · rw [if_pos h0] at h; rw [List.length_cons]; exact h
          · rw [List.length_cons]; omega
        have ht := octF_ext 3 0 (c :: t) m h3
        rw [List.cons_append] at ht
        rw [ht]
theorem textG_ext : ∀ (l : List UInt8) (k o : Nat) (r : List UInt8 × Nat) (m : List UInt8), textG k o l = some r → textG k o (l ++ m) = some r
  | [], k, o, r, m, h => by cases k <;> (rw [textG] at h; cases h)
  | c :: t, k + 1, o, r, m, h => by
    rw [textG] at h
    obtain ⟨q, hq, rfl⟩ := map_some h
    rw [List.cons_append, textG, textG_ext t k o q m hq]; rfl
  | c :: t, 0, o, r, m, h => by
    rw [List.cons_append]
    rw [textG] at h ⊢
    have ne : ∀ k o q, textG k o t = some q → t ≠ [] := by
      intro k o q hq e
      subst e
      cases k <;> (rw [textG] at hq; cases hq)
    by_cases g1 : eol c = true
    · rw [if_pos g1] at h ⊢
      obtain ⟨q, hq, rfl⟩ := map_some h
      rw [lineF_ext m g1 (ne _ _ _ hq), textG_ext t _ o q m hq]; rfl
    · rw [if_neg g1] at h ⊢
      by_cases g2 : c = 92
      · rw [if_pos g2] at h ⊢
        by_cases g3 : t = []
        · rw [if_pos g3] at h; cases h
        · rw [if_neg g3] at h
          obtain ⟨q, hq, rfl⟩ := map_some h
          have h2 := textG_ge _ _ _ _ hq
          have h3 := textG_le _ _ _ _ hq
          rw [escF_ext m (by omega), textG_ext t _ o q m hq, if_neg (by simp [g3])]; rfl
      · rw [if_neg g2] at h ⊢
        by_cases g4 : c = 40
        · rw [if_pos g4] at h ⊢
          obtain ⟨q, hq, rfl⟩ := map_some h
          rw [textG_ext t _ _ q m hq]; rfl
        · rw [if_neg g4] at h ⊢
          by_cases g5 : c = 41
          · rw [if_pos g5] at h ⊢
            by_cases g6 : o ≤ 1
            · rw [if_pos g6] at h ⊢; exact h
            · rw [if_neg g6] at h ⊢
              obtain ⟨q, hq, rfl⟩ := map_some h
              rw [textG_ext t _ _ q m hq]; rfl
          · rw [if_neg g5] at h ⊢
            obtain ⟨q, hq, rfl⟩ := map_some h
            rw [textG_ext t _ _ q m hq]; rfl
theorem hexF_ext : ∀ (l : List UInt8) (h : Int) (r : List UInt8 × Nat) (m : List UInt8), hexF h l = .inl r → hexF h (l ++ m) = .inl r
  | [], _, r, m, h => by rw [hexF] at h; cases h
  | c :: t, h, r, m, he => by
    rw [List.cons_append]
    rw [hexF] at he ⊢
    have step : ∀ (h' : Int) (f : List UInt8 → List UInt8), (match hexF h' t with | .inl r => (Sum.inl (f r.1, r.2 + 1) : (List UInt8 × Nat) ⊕ Int) | .inr e => .inr e) = .inl r →
        (match hexF h' (t ++ m) with | .inl r => (Sum.inl (f r.1, r.2 + 1) : (List UInt8 × Nat) ⊕ Int) | .inr e => .inr e) = .inl r := by
      intro h' f hh
      cases hq : hexF h' t with
      | inr e => rw [hq] at hh; cases hh
      | inl q =>
        rw [hq] at hh
        cases hh
        rw [hexF_ext t h' q m hq]
    by_cases g1 : c = 62
    · rw [if_pos g1] at he ⊢; exact he
    · rw [if_neg g1] at he ⊢
      by_cases g2 : white c = true
      · rw [if_pos g2] at he ⊢
        exact step h (fun x => x) he
      · rw [if_neg g2] at he ⊢
        by_cases g3 : digit c < 0
        · rw [if_pos g3] at he; cases he
        · rw [if_neg g3] at he ⊢
          by_cases g4 : h < 0
          · rw [if_pos g4] at he ⊢
            exact step (digit c) (fun x => x) he
          · rw [if_neg g4] at he ⊢
            exact step (-1) (fun x => byte h (digit c) :: x) he
/-- m goes on with no regular byte. -/
def stops (m : List UInt8) : Prop := ∀ c t, m = c :: t → regular c = false
theorem runF_stop : ∀ (l m : List UInt8), l.all regular = true → stops m → runF (l ++ m) = l.length
  | [], [], _, _ => rfl
  | [], c :: t, _, h => by rw [List.nil_append, runF, if_neg (by rw [h c t rfl]; decide)]; rfl
  | c :: l, m, h, hm => by
    simp only [List.all_cons, Bool.and_eq_true] at h
    rw [List.cons_append, runF, if_pos h.1, runF_stop l m h.2 hm, List.length_cons]; omega
theorem runF_all {l : List UInt8} (h : runF l = l.length) : l.all regular = true := by
  have := (runF_take l).1
  rwa [h, List.take_length] at this
theorem lastC_all {l : List UInt8} (h : l ≠ []) (hr : l.all regular = true) : regular (Pl.lastC l) = true := by
  have hg := Pl.last_get l h
  exact List.all_eq_true.1 hr _ (List.mem_of_getElem? hg)
/-- A string that is one token. -/
def Single (u : List UInt8) (x : Tok) : Prop := next u 0 = (x, 0) ∧ x.k ≠ 0 ∧ x.a = 0 ∧ x.t = u.length
theorem single_head {u : List UInt8} {x : Tok} (h : Single u x) : ∃ c t, u = c :: t ∧ c ≠ 37 ∧ white c = false ∧ token u 0 = (x, 0) := by
  obtain ⟨hn, hk, ha, ht⟩ := h
  have hb := next_bd (s := u) (i := 0) (by rw [hn]) (by rw [hn]; exact hk)
  rw [hn] at hb
  obtain ⟨-, -, h1, h2, h3⟩ := hb
  have hsk : skip u 0 = 0 := by
    simp only [Int.toNat_zero] at h1; omega
  cases u with
  | nil => simp at ht h2; omega
  | cons c t =>
    have hs : skipF false (c :: t) = 0 := by unfold skip at hsk; rw [List.drop_zero] at hsk; omega
    obtain ⟨h37, hw⟩ := stop_head hs
    refine ⟨c, t, rfl, h37, hw, ?_⟩
    rw [← hn, next_open c t ⟨h37, hw⟩]
/-- The token of u, where u stands within a longer string. -/
theorem token_ext {u : List UInt8} {x : Tok} (pre m : List UInt8) (h : Single u x) (hm : (regular (Pl.lastC u) || decide (Pl.lastC u = 47)) = true → stops m) :
    token (pre ++ (u ++ m)) pre.length = ({ x with a := pre.length, t := pre.length + u.length }, 0) := by
  obtain ⟨c, t, rfl, h37, hw, hT⟩ := single_head h
  obtain ⟨-, hk, hA, hL⟩ := h
  have hd : (pre ++ (c :: t ++ m)).drop pre.length = c :: (t ++ m) := by rw [List.drop_left]; rfl
  have hd1 : (pre ++ (c :: t ++ m)).drop (pre.length + 1) = t ++ m := by rw [← List.drop_drop, hd]; rfl
  have hTu : token (c :: t) 0 = if c = 91 ∨ c = 93 ∨ c = 123 ∨ c = 125 then mark (c :: t) 0 1
    else if c = 60 then (if t.head? = some c then mark (c :: t) 0 2 else hex (c :: t) 0)
    else if c = 62 then (if t.head? = some c then mark (c :: t) 0 2 else refused 3)
    else if c = 47 then name (c :: t) 0
    else if c = 40 then text (c :: t) 0
    else if c = 41 then refused 3
    else word (c :: t) 0 := by rw [token, List.drop_zero]
  have hTS : token (pre ++ (c :: t ++ m)) pre.length = if c = 91 ∨ c = 93 ∨ c = 123 ∨ c = 125 then mark (pre ++ (c :: t ++ m)) pre.length 1
    else if c = 60 then (if (t ++ m).head? = some c then mark (pre ++ (c :: t ++ m)) pre.length 2 else hex (pre ++ (c :: t ++ m)) pre.length)
    else if c = 62 then (if (t ++ m).head? = some c then mark (pre ++ (c :: t ++ m)) pre.length 2 else refused 3)
    else if c = 47 then name (pre ++ (c :: t ++ m)) pre.length
    else if c = 40 then text (pre ++ (c :: t ++ m)) pre.length
    else if c = 41 then refused 3
    else word (pre ++ (c :: t ++ m)) pre.length := by rw [token, hd]
  rw [hTu] at hT
  rw [hTS]
  have cutS : ∀ n : Nat, n ≤ (c :: t).length → cut (pre ++ (c :: t ++ m)) pre.length (pre.length + n) = (c :: t).take n := by
    intro n hn
    unfold cut
    rw [hd, Nat.add_sub_cancel_left]
    show ((c :: t) ++ m).take n = _
    rw [List.take_append_of_le_length hn]
  have mk : ∀ n : Nat, mark (c :: t) 0 n = (x, 0) → mark (pre ++ (c :: t ++ m)) pre.length n = ({ x with a := pre.length, t := pre.length + (c :: t).length }, 0) := by
    intro n hn
    unfold mark at hn ⊢
    have hx := (Prod.ext_iff.1 hn).1
    simp only at hx
    have hn' : n = (c :: t).length := by rw [← hx] at hL; simp only at hL; omega
    rw [cutS n (by omega), ← hx]
    unfold cut
    rw [List.drop_zero]
    simp only [Prod.mk.injEq, Tok.mk.injEq, and_true, true_and]
    refine ⟨by omega, ?_⟩
    congr 1
    omega
  by_cases g0 : c = 91 ∨ c = 93 ∨ c = 123 ∨ c = 125
  · rw [if_pos g0] at hT ⊢
    exact mk 1 hT
  rw [if_neg g0] at hT ⊢
  by_cases g1 : c = 60
  · rw [if_pos g1] at hT ⊢
    by_cases g : t.head? = some c
    · rw [if_pos g] at hT
      have htn : t ≠ [] := by intro e; rw [e] at g; cases g
      rw [if_pos (by rw [head_app htn]; exact g)]
      exact mk 2 hT
    · rw [if_neg g] at hT
      unfold hex at hT
      rw [show (c :: t).drop (0 + 1) = t from rfl] at hT
      cases hx : hexF (-1) t with
      | inr e => rw [hx] at hT; simp only [refused] at hT; have := (Prod.ext_iff.1 hT).1; simp only at this; rw [← this] at hk; exact absurd rfl hk
      | inl r =>
        rw [hx] at hT
        simp only at hT
        have htn : t ≠ [] := by intro e; subst e; rw [hexF] at hx; cases hx
        rw [if_neg (by rw [head_app htn]; exact g)]
        unfold hex
        rw [hd1, hexF_ext t _ r m hx]
        simp only
        have ht := told_ok (by rw [hT])
        rw [ht] at hT
        have hx' := (Prod.ext_iff.1 hT).1
        simp only at hx'
        unfold told at ht ⊢
        by_cases hl : (32767 : Int) < (r.1.length : Int)
        · rw [if_pos hl] at ht; cases ht
        · rw [if_neg hl, ← hx']
          rw [← hx'] at hL
          simp only at hL
          simp only [Prod.mk.injEq, Tok.mk.injEq, and_true, true_and]
          omega
  rw [if_neg g1] at hT ⊢
  by_cases g2 : c = 62
  · rw [if_pos g2] at hT ⊢
    by_cases g : t.head? = some c
    · rw [if_pos g] at hT
      have htn : t ≠ [] := by intro e; rw [e] at g; cases g
      rw [if_pos (by rw [head_app htn]; exact g)]
      exact mk 2 hT
    · rw [if_neg g] at hT
      simp only [refused] at hT; have := (Prod.ext_iff.1 hT).1; simp only at this; rw [← this] at hk; exact absurd rfl hk
  rw [if_neg g2] at hT ⊢
  by_cases g3 : c = 47
  · rw [if_pos g3] at hT ⊢
    unfold name at hT ⊢
    have hru : run (c :: t) (0 + 1) = 1 + runF t := rfl
    rw [hru] at hT
    have hrS : run (pre ++ (c :: t ++ m)) (pre.length + 1) = pre.length + 1 + runF (t ++ m) := by unfold run; rw [hd1]
    cases hx : nameF (cut (c :: t) (0 + 1) (1 + runF t)) with
    | none => rw [hx] at hT; simp only [refused] at hT; have := (Prod.ext_iff.1 hT).1; simp only at this; rw [← this] at hk; exact absurd rfl hk
    | some y =>
      rw [hx] at hT
      simp only at hT
      have ht := told_ok (by rw [hT])
      rw [ht] at hT
      have hx' := (Prod.ext_iff.1 hT).1
      simp only at hx'
      have hrl : runF t = t.length := by rw [← hx'] at hL; simp only [List.length_cons] at hL; omega
      have hall := runF_all hrl
      have hst : stops m := by
        refine hm ?_
        cases t with
        | nil => rw [g3]; decide
        | cons d t =>
          have : Pl.lastC (c :: d :: t) = Pl.lastC (d :: t) := Pl.lastC_append [c] (d :: t) (by simp)
          rw [this, lastC_all (by simp) hall]; rfl
      rw [hrS, runF_stop t m hall hst]
      have hc2 : cut (pre ++ (c :: t ++ m)) (pre.length + 1) (pre.length + 1 + t.length) = t := by
        unfold cut
        rw [hd1, Nat.add_sub_cancel_left, List.take_left]
      have hc1 : cut (c :: t) (0 + 1) (1 + runF t) = t := by
        unfold cut
        rw [hrl, show 1 + t.length - (0 + 1) = t.length by omega]
        exact List.take_length
      rw [hc1] at hx
      rw [hc2, hx]
      simp only
      unfold told at ht ⊢
      by_cases hl : (127 : Int) < (y.length : Int)
      · rw [if_pos hl] at ht; cases ht
      · rw [if_neg hl, ← hx']
        simp only [Prod.mk.injEq, Tok.mk.injEq, and_true, true_and, List.length_cons]
        omega
  rw [if_neg g3] at hT ⊢
  by_cases g4 : c = 40
  · rw [if_pos g4] at hT ⊢
    unfold text at hT
    rw [show (c :: t).drop (0 + 1) = t from rfl] at hT
    cases hx : textG 0 1 t with
    | none => rw [hx] at hT; simp only [refused] at hT; have := (Prod.ext_iff.1 hT).1; simp only at this; rw [← this] at hk; exact absurd rfl hk
    | some r =>
      rw [hx] at hT
      simp only at hT
      unfold text
      rw [hd1, textG_ext t _ _ r m hx]
      simp only
      have ht := told_ok (by rw [hT])
      rw [ht] at hT
      have hx' := (Prod.ext_iff.1 hT).1
      simp only at hx'
      unfold told at ht ⊢
      by_cases hl : (32767 : Int) < (r.1.length : Int)
      · rw [if_pos hl] at ht; cases ht
      · rw [if_neg hl, ← hx']
        rw [← hx'] at hL
        simp only at hL
        simp only [Prod.mk.injEq, Tok.mk.injEq, and_true, true_and]
        omega
  rw [if_neg g4] at hT ⊢
  by_cases g5 : c = 41
  · rw [if_pos g5] at hT
    simp only [refused] at hT; have := (Prod.ext_iff.1 hT).1; simp only at this; rw [← this] at hk; exact absurd rfl hk
  rw [if_neg g5] at hT ⊢
  unfold word at hT ⊢
  have hwk := wordT_ok (by rw [hT])
  have hru : run (c :: t) 0 = runF (c :: t) := by unfold run; rw [List.drop_zero, Nat.zero_add]
  rw [hru] at hT hwk
  have hrl : runF (c :: t) = (c :: t).length := by
    have := hwk.2.2
    rw [hT] at this
    simp only at this
    omega
  have hall := runF_all hrl
  have hst : stops m := hm (by rw [lastC_all (by simp) hall]; rfl)
  have hrS : run (pre ++ (c :: t ++ m)) pre.length = pre.length + (c :: t).length := by
    unfold run
    rw [hd]
    show _ + runF ((c :: t) ++ m) = _
    rw [runF_stop _ _ hall hst]
  rw [hrl, cut_full] at hT
  rw [hrS, cutS _ (Nat.le_refl _), List.take_length]
  rw [wordT_move (by rw [hT]) (pre.length : Int) ((pre.length + (c :: t).length : Nat) : Int), hT]
  simp only [Prod.mk.injEq, Tok.mk.injEq, and_true, true_and]
  omega
/- JOINS -/
def gap (last : UInt8) (p : List UInt8) : List UInt8 := if (regular last || decide (last = 47)) && (p.head?.any regular) then [32] else []
def joinR : UInt8 → List (List UInt8) → List UInt8
  | _, [] => []
  | last, p :: ps => gap last p ++ (p ++ joinR (Pl.lastC p) ps)
theorem gap_cons (last c : UInt8) (t : List UInt8) : gap last (c :: t) = if ((regular last || decide (last = 47)) && regular c) = true then [32] else [] := rfl
theorem glue_gap (acc p : List UInt8) (h : p ≠ []) : Pl.glue acc p = acc ++ (gap (Pl.lastC acc) p ++ p) := by
  cases p with
  | nil => exact absurd rfl h
  | cons c t =>
    rw [gap_cons, Pl.glue]
    by_cases hc : ((regular (Pl.lastC acc) || decide (Pl.lastC acc = 47)) && regular c) = true
    · rw [if_pos hc, if_pos hc]; simp
    · rw [if_neg hc, if_neg hc]; simp
theorem foldl_joinR : ∀ (ps : List (List UInt8)) (acc : List UInt8), (∀ p ∈ ps, p ≠ []) → ps.foldl Pl.glue acc = acc ++ joinR (Pl.lastC acc) ps
  | [], acc, _ => by simp [joinR]
  | p :: ps, acc, h => by
    have hp := h p (List.mem_cons_self ..)
    rw [List.foldl_cons, foldl_joinR ps _ (fun q hq => h q (List.mem_cons_of_mem _ hq)), Pl.lastC_glue _ _ hp, glue_gap _ _ hp, joinR]
    simp
theorem join_joinR (ps : List (List UInt8)) (h : ∀ p ∈ ps, p ≠ []) : Pl.join ps = joinR 32 ps := by
  rw [Pl.join, foldl_joinR ps [] h]; rfl
/-- The tokens and the parts fit. -/
def Fits (s : List UInt8) : Int → List Tok → List (List UInt8) → Prop
  | a, [], [] => a = s.length
  | a, x :: l, p :: ps => 0 ≤ a ∧ (x.a = a ∨ (x.a = a + 1 ∧ x.a ≤ s.length ∧ cut s a.toNat x.a.toNat = [32])) ∧ x.a ≤ x.t ∧ x.t ≤ s.length ∧ cut s x.a.toNat x.t.toNat = p ∧ Fits s x.t l ps
  | _, _, _ => False
theorem stops_join (last : UInt8) (ps : List (List UInt8)) (h : ∀ p ∈ ps, p ≠ []) (hl : (regular last || decide (last = 47)) = true) : stops (joinR last ps) := by
  intro c t he
  cases ps with
  | nil => cases he
  | cons p ps =>
    have hp := h p (List.mem_cons_self ..)
    cases p with
    | nil => exact absurd rfl hp
    | cons d p =>
      rw [joinR, gap_cons, hl, Bool.true_and] at he
      by_cases hd : regular d = true
      · rw [if_pos hd] at he
        injection he with e1 _
        subst e1; decide
      · rw [if_neg hd] at he
        injection he with e1 _
        subst e1; simpa using hd
theorem joins_chain : ∀ (ps : List (List UInt8)) (pre : List UInt8) (last : UInt8), (∀ p ∈ ps, ∃ x, Single p x) → ∃ l : List Tok, Chain (pre ++ joinR last ps) pre.length l ∧ l.length = ps.length ∧ Fits (pre ++ joinR last ps) pre.length l ps
  | [], pre, last, _ => by
    refine ⟨[], ?_, rfl, ?_⟩
    · simp only [joinR, List.append_nil, Chain]
      refine ⟨by omega, by omega, ?_⟩
      unfold skip
      rw [Int.toNat_natCast, List.drop_length]; rfl
    · simp [joinR, Fits]
  | p :: ps, pre, last, h => by
    obtain ⟨x, hx⟩ := h p (List.mem_cons_self ..)
    have hne : ∀ q ∈ ps, q ≠ [] := by
      intro q hq
      obtain ⟨y, hy⟩ := h q (List.mem_cons_of_mem _ hq)
      obtain ⟨c, t, e, _⟩ := single_head hy
      rw [e]; simp
    obtain ⟨c, t, hp, h37, hw, _⟩ := single_head hx
    have hS : pre ++ joinR last (p :: ps) = (pre ++ gap last p) ++ (p ++ joinR (Pl.lastC p) ps) := by rw [joinR]; simp
    have hS2 : pre ++ joinR last (p :: ps) = (pre ++ gap last p ++ p) ++ joinR (Pl.lastC p) ps := by rw [joinR]; simp
    have hT := token_ext (pre ++ gap last p) (joinR (Pl.lastC p) ps) hx (fun hl => stops_join _ ps hne hl)
    rw [← hS] at hT
    obtain ⟨l, hc, hlen, hf⟩ := joins_chain ps (pre ++ gap last p ++ p) (Pl.lastC p) (fun q hq => h q (List.mem_cons_of_mem _ hq))
    rw [← hS2] at hc hf
    have hgap : gap last p = [] ∨ gap last p = [32] := by unfold gap; split <;> simp
    have hsk : skip (pre ++ joinR last (p :: ps)) pre.length = (pre ++ gap last p).length := by
      unfold skip
      rw [joinR, List.drop_left, List.length_append]
      congr 1
      rcases hgap with e | e
      · rw [e, List.nil_append, hp, List.cons_append, skipF, if_neg h37, if_neg (by rw [hw]; decide)]; rfl
      · rw [e, hp, List.cons_append, List.nil_append, List.cons_append, skipF, if_neg (by decide), if_pos (by decide), skipF, if_neg h37, if_neg (by rw [hw]; decide)]; rfl
    have hlp : (pre ++ joinR last (p :: ps)).length = pre.length + (gap last p).length + p.length + (joinR (Pl.lastC p) ps).length := by
      rw [hS2]; simp; omega
    have hlj : (joinR last (p :: ps)).length = (gap last p).length + p.length + (joinR (Pl.lastC p) ps).length := by rw [joinR]; simp; omega
    have hn : next (pre ++ joinR last (p :: ps)) pre.length = ({ x with a := (pre ++ gap last p).length, t := (pre ++ gap last p).length + p.length }, 0) := by
      unfold next
      rw [if_neg (by omega), Int.toNat_natCast, hsk, hT]
    have hto : (((pre ++ gap last p).length : Nat) : Int) + (p.length : Int) = ((pre ++ gap last p ++ p).length : Nat) := by simp; omega
    refine ⟨{ x with a := (pre ++ gap last p).length, t := (pre ++ gap last p).length + p.length } :: l, ⟨by omega, by omega, hn, hx.2.1, ?_⟩, by simp [hlen], by omega, ?_, by simp only; omega, by simp only [List.length_append]; omega, ?_, ?_⟩
    · simp only; rw [hto]; exact hc
    · simp only
      rcases hgap with e | e
      · left; rw [e]; simp
      · right
        rw [e]
        refine ⟨by simp, by rw [e, List.length_singleton] at hlj; simp only [List.length_append, List.length_singleton]; omega, ?_⟩
        unfold cut
        rw [joinR, e, Int.toNat_natCast, Int.toNat_natCast, List.drop_left, List.length_append, Nat.add_sub_cancel_left]; rfl
    · simp only
      rw [hto, Int.toNat_natCast, Int.toNat_natCast]
      unfold cut
      rw [hS, List.drop_left, show (pre ++ gap last p ++ p).length = (pre ++ gap last p).length + p.length from List.length_append, Nat.add_sub_cancel_left, List.take_left]
    · simp only; rw [hto]; exact hf
theorem chain_upto (s : List UInt8) : ∀ (l : List Tok) (a : Int) (m : Nat), Chain s a l → l.length < m → upto s m a = .inl l
  | [], a, 0, _, h => by simp at h
  | [], a, m + 1, hc, _ => by
    obtain ⟨h0, h1, h2⟩ := hc
    have hn : next s a = (⟨0, s.length, s.length, 0, []⟩, 0) := by
      unfold next
      rw [if_neg (by omega), h2, token, List.drop_length]
    rw [upto, hn, if_neg (by simp), if_pos rfl]
  | x :: l, a, 0, _, h => by simp at h
  | x :: l, a, m + 1, hc, h => by
    obtain ⟨h0, h1, hn, hk, hc⟩ := hc
    rw [upto, hn, if_neg (by simp), if_neg hk, chain_upto s l x.t m hc (by simpa using h)]
theorem joins_upto (ps : List (List UInt8)) (m : Nat) (hm : ps.length < m) (h : ∀ p ∈ ps, ∃ x, Single p x) : ∃ l : List Tok, upto (Pl.join ps) m 0 = .inl l ∧ l.length = ps.length ∧ Fits (Pl.join ps) 0 l ps := by
  have hne : ∀ q ∈ ps, q ≠ [] := by
    intro q hq
    obtain ⟨y, hy⟩ := h q hq
    obtain ⟨c, t, e, _⟩ := single_head hy
    rw [e]; simp
  obtain ⟨l, h1, h2, h3⟩ := joins_chain ps [] 32 h
  rw [List.nil_append, ← join_joinR ps hne] at h1 h3
  exact ⟨l, chain_upto _ l 0 m h1 (by omega), h2, h3⟩
end Lx
end Go.Proofs.YtihjejmmldpelaaGreatDoor
/- Code in continuation form, by program (gen.py): 3 functions. -/
namespace Go.Proofs.YtihjejmmldpelaaGreatDoor
set_option linter.unusedVariables false
set_option linter.unusedSimpArgs false
set_option linter.defProp false
set_option linter.unusedVariables false
set_option maxRecDepth 20000
open Eng

/- foliantlaw04.one -/
def S_foliantlaw04_one (t0 t1 t2 t3 : Value) (w : World) (K : Ending → World → Prop) : Prop :=
 CallX Tryz.prog 24 #[t0, (.int .i64 0)] w (pk K) fun t13 w =>
 DoX Tryz.prog (mExt t13 0) w (pk K) fun t14 w =>
 DoX Tryz.prog (mExt t13 1) w (pk K) fun t15 w =>
 DoX Tryz.prog (mAlloc 41) w (pk K) fun t9 w =>
 DoX Tryz.prog (mStore 41 t9 t14) w (pk K) fun _ w =>
 DoX Tryz.prog (mEq .eql 28 (.tmp 16) (.const (.int .i64 0)) t15 (.int .i64 0)) w (pk K) fun t17 w =>
 GDo t17 true (fun E => DoX Tryz.prog (mFA 41 t9 0) w (pk K) E) w fun t19 w =>
 GDo t17 true (fun E => DoX Tryz.prog (mLoad 3 t19) w (pk K) E) w fun t20 w =>
 GDo t17 true (fun E => E t1 w) w fun t21 w =>
 GDo t17 true (fun E => DoX Tryz.prog (mEq .eql 3 (.tmp 20) (.tmp 21) t20 t21) w (pk K) E) w fun t22 w =>
 DoX Tryz.prog (mPick t17 t22 (.bool false)) w (pk K) fun t23 w =>
 GDo t23 true (fun E => DoX Tryz.prog (mFA 41 t9 1) w (pk K) E) w fun t25 w =>
 GDo t23 true (fun E => DoX Tryz.prog (mLoad 3 t25) w (pk K) E) w fun t26 w =>
 GDo t23 true (fun E => DoX Tryz.prog (mEq .eql 3 (.tmp 26) (.const (.int .i64 0)) t26 (.int .i64 0)) w (pk K) E) w fun t27 w =>
 DoX Tryz.prog (mPick t23 t27 (.bool false)) w (pk K) fun t28 w =>
 GDo t28 true (fun E => DoX Tryz.prog (mFA 41 t9 2) w (pk K) E) w fun t30 w =>
 GDo t28 true (fun E => DoX Tryz.prog (mLoad 3 t30) w (pk K) E) w fun t31 w =>
 GDo t28 true (fun E => E t0 w) w fun t32 w =>
 GDo t28 true (fun E => DoX Tryz.prog (mB .len #[9] 3 #[false] #[t32]) w (pk K) E) w fun t33 w =>
 GDo t28 true (fun E => DoX Tryz.prog (mEq .eql 3 (.tmp 31) (.tmp 33) t31 t33) w (pk K) E) w fun t34 w =>
 DoX Tryz.prog (mPick t28 t34 (.bool false)) w (pk K) fun t35 w =>
 GDo t35 true (fun E => DoX Tryz.prog (mFA 41 t9 3) w (pk K) E) w fun t37 w =>
 GDo t35 true (fun E => DoX Tryz.prog (mLoad 2 t37) w (pk K) E) w fun t38 w =>
 GDo t35 true (fun E => E t2 w) w fun t39 w =>
 GDo t35 true (fun E => DoX Tryz.prog (mEq .eql 2 (.tmp 38) (.tmp 39) t38 t39) w (pk K) E) w fun t40 w =>
 DoX Tryz.prog (mPick t35 t40 (.bool false)) w (pk K) fun t41 w =>
 GDo t41 true (fun E => DoX Tryz.prog (mFA 41 t9 4) w (pk K) E) w fun t43 w =>
 GDo t41 true (fun E => DoX Tryz.prog (mLoad 9 t43) w (pk K) E) w fun t44 w =>
 GDo t41 true (fun E => E t3 w) w fun t45 w =>
 GDo t41 true (fun E => DoX Tryz.prog (mEq .eql 9 (.tmp 44) (.tmp 45) t44 t45) w (pk K) E) w fun t46 w =>
 DoX Tryz.prog (mPick t41 t46 (.bool false)) w (pk K) fun t47 w =>
 K (.returned t47) w
theorem S_foliantlaw04_one_eq (t0 t1 t2 t3 : Value) (w : World) (K : Ending → World → Prop) : wpX Tryz.prog 48 [] [] none (bodyOf Tryz.f23) (topQ Tryz.prog [.tmp 8] K) (startX [t0, t1, t2, t3]) [] w = S_foliantlaw04_one t0 t1 t2 t3 w K := by kernel_rfl
theorem S_foliantlaw04_one_ok {t0 t1 t2 t3 : Value} {w : World} {K : Ending → World → Prop} (h : S_foliantlaw04_one t0 t1 t2 t3 w K) : Calls Tryz.prog 23 #[t0, t1, t2, t3] w K :=
  calls_of_wpX Tryz.func23 rfl rfl rfl rfl (Eq.mpr (S_foliantlaw04_one_eq t0 t1 t2 t3 w K) h)

/- foliantlaw04.PlainReads -/
def S_foliantlaw04_PlainReads (t0 t1 t2 t3 : Value) (w : World) (K : Ending → World → Prop) : Prop :=
 CallX Tryz.prog 17 #[] w (pk K) fun t19 w =>
 DoX Tryz.prog (mUn .not t19) w (pk K) fun t20 w =>
 IfX t20 (K (.returned (.bool false)) w) (DoX Tryz.prog (mB .len #[9] 3 #[false] #[t2]) w (pk K) fun t22 w =>
 DoX Tryz.prog (mBin .gtr 3 t22 (.int .i64 3000)) w (pk K) fun t23 w =>
 GDo t23 false (fun E => E t3 w) w fun t25 w =>
 GDo t23 false (fun E => DoX Tryz.prog (mB .len #[9] 3 #[false] #[t25]) w (pk K) E) w fun t26 w =>
 GDo t23 false (fun E => DoX Tryz.prog (mBin .gtr 3 t26 (.int .i64 300)) w (pk K) E) w fun t27 w =>
 DoX Tryz.prog (mPick t23 (.bool true) t27) w (pk K) fun t28 w =>
 IfX t28 (K (.returned (.bool true)) w) (CallX Tryz.prog 18 #[t0] w (pk K) fun t31 w =>
 DoX Tryz.prog (mExt t31 0) w (pk K) fun t32 w =>
 DoX Tryz.prog (mExt t31 1) w (pk K) fun t33 w =>
 CallX Tryz.prog 19 #[t1] w (pk K) fun t36 w =>
 DoX Tryz.prog (mExt t36 0) w (pk K) fun t37 w =>
 DoX Tryz.prog (mExt t36 1) w (pk K) fun t38 w =>
 CallX Tryz.prog 20 #[t2] w (pk K) fun t41 w =>
 DoX Tryz.prog (mExt t41 0) w (pk K) fun t42 w =>
 DoX Tryz.prog (mExt t41 1) w (pk K) fun t43 w =>
 CallX Tryz.prog 21 #[t2] w (pk K) fun t46 w =>
 DoX Tryz.prog (mExt t46 0) w (pk K) fun t47 w =>
 DoX Tryz.prog (mExt t46 1) w (pk K) fun t48 w =>
 CallX Tryz.prog 22 #[t3] w (pk K) fun t51 w =>
 DoX Tryz.prog (mExt t51 0) w (pk K) fun t52 w =>
 DoX Tryz.prog (mExt t51 1) w (pk K) fun t53 w =>
 DoX Tryz.prog (mEq .neq 28 (.tmp 54) (.const (.int .i64 0)) t43 (.int .i64 0)) w (pk K) fun t55 w =>
 GDo t55 false (fun E => E t48 w) w fun t57 w =>
 GDo t55 false (fun E => DoX Tryz.prog (mEq .neq 28 (.tmp 57) (.const (.int .i64 0)) t57 (.int .i64 0)) w (pk K) E) w fun t58 w =>
 DoX Tryz.prog (mPick t55 (.bool true) t58) w (pk K) fun t59 w =>
 GDo t59 false (fun E => E t33 w) w fun t61 w =>
 GDo t59 false (fun E => DoX Tryz.prog (mEq .eql 28 (.tmp 61) (.const (.int .i64 0)) t61 (.int .i64 0)) w (pk K) E) w fun t62 w =>
 GDo t59 false (fun E => E t62 w) w fun t63 w =>
 GDo t63 true (fun E => E t32 w) w fun t64 w =>
 GDo t63 true (fun E => E t0 w) w fun t65 w =>
 GDo t63 true (fun E => CallX Tryz.prog 23 #[t64, (.int .i64 1), t65, (.string ⟨#[]⟩)] w (pk K) E) w fun t66 w =>
 GDo t63 true (fun E => DoX Tryz.prog (mUn .not t66) w (pk K) E) w fun t67 w =>
 GDo t59 false (fun E => DoX Tryz.prog (mPick t63 t67 (.bool false)) w (pk K) E) w fun t68 w =>
 DoX Tryz.prog (mPick t59 (.bool true) t68) w (pk K) fun t69 w =>
 GDo t69 false (fun E => E t38 w) w fun t71 w =>
 GDo t69 false (fun E => DoX Tryz.prog (mEq .eql 28 (.tmp 71) (.const (.int .i64 0)) t71 (.int .i64 0)) w (pk K) E) w fun t72 w =>
 GDo t69 false (fun E => E t72 w) w fun t73 w =>
 GDo t73 true (fun E => E t37 w) w fun t74 w =>
 GDo t73 true (fun E => E t1 w) w fun t75 w =>
 GDo t73 true (fun E => CallX Tryz.prog 23 #[t74, (.int .i64 2), t75, (.string ⟨#[]⟩)] w (pk K) E) w fun t76 w =>
 GDo t73 true (fun E => DoX Tryz.prog (mUn .not t76) w (pk K) E) w fun t77 w =>
 GDo t69 false (fun E => DoX Tryz.prog (mPick t73 t77 (.bool false)) w (pk K) E) w fun t78 w =>
 DoX Tryz.prog (mPick t69 (.bool true) t78) w (pk K) fun t79 w =>
 GDo t79 false (fun E => E t53 w) w fun t81 w =>
 GDo t79 false (fun E => DoX Tryz.prog (mEq .eql 28 (.tmp 81) (.const (.int .i64 0)) t81 (.int .i64 0)) w (pk K) E) w fun t82 w =>
 GDo t79 false (fun E => E t82 w) w fun t83 w =>
 GDo t83 true (fun E => E t52 w) w fun t84 w =>
 GDo t83 true (fun E => E t3 w) w fun t85 w =>
 GDo t83 true (fun E => CallX Tryz.prog 23 #[t84, (.int .i64 4), (.int .i64 0), t85] w (pk K) E) w fun t86 w =>
 GDo t83 true (fun E => DoX Tryz.prog (mUn .not t86) w (pk K) E) w fun t87 w =>
 GDo t79 false (fun E => DoX Tryz.prog (mPick t83 t87 (.bool false)) w (pk K) E) w fun t88 w =>
 DoX Tryz.prog (mPick t79 (.bool true) t88) w (pk K) fun t89 w =>
 IfX t89 (K (.returned (.bool false)) w) (CallX Tryz.prog 23 #[t42, (.int .i64 3), (.int .i64 0), t2] w (pk K) fun t92 w =>
 GDo t92 true (fun E => E t47 w) w fun t94 w =>
 GDo t92 true (fun E => E t2 w) w fun t95 w =>
 GDo t92 true (fun E => CallX Tryz.prog 23 #[t94, (.int .i64 3), (.int .i64 0), t95] w (pk K) E) w fun t96 w =>
 DoX Tryz.prog (mPick t92 t96 (.bool false)) w (pk K) fun t97 w =>
 K (.returned t97) w)))
theorem S_foliantlaw04_PlainReads_eq (t0 t1 t2 t3 : Value) (w : World) (K : Ending → World → Prop) : wpX Tryz.prog 98 [] [] none (bodyOf Tryz.f6) (topQ Tryz.prog [.tmp 8] K) (startX [t0, t1, t2, t3]) [] w = S_foliantlaw04_PlainReads t0 t1 t2 t3 w K := by kernel_rfl
theorem S_foliantlaw04_PlainReads_ok {t0 t1 t2 t3 : Value} {w : World} {K : Ending → World → Prop} (h : S_foliantlaw04_PlainReads t0 t1 t2 t3 w K) : Calls Tryz.prog 6 #[t0, t1, t2, t3] w K :=
  calls_of_wpX Tryz.func6 rfl rfl rfl rfl (Eq.mpr (S_foliantlaw04_PlainReads_eq t0 t1 t2 t3 w K) h)

/- foliantlaw04.PlainJoins -/
def S_foliantlaw04_PlainJoins_1 (t0 t8 t11 t84 t85 t86 : Value) (w : World) (N2 : List Value → World → Prop) (K : Ending → World → Prop) : Prop :=
 DoX Tryz.prog (mBin .lss 3 t86 t85) w (pk K) fun t87 w =>
 IfX t87 (DoX Tryz.prog (mIA 34 t84 t86) w (pk K) fun t89 w =>
 DoX Tryz.prog (mLoad 41 t89) w (pk K) fun t90 w =>
 DoX Tryz.prog (mAlloc 41) w (pk K) fun t13 w =>
 DoX Tryz.prog (mStore 41 t13 t90) w (pk K) fun _ w =>
 QuietX w (fun C3 =>
 QDo Tryz.prog C3 (mFA 41 t13 1) fun t91 =>
 QDo Tryz.prog C3 (mLoad 3 t91) fun t92 =>
 QDo Tryz.prog C3 (mBin .gtr 3 t92 t11) fun t94 =>
 GQ t94 true (fun E => E t8) fun t96 =>
 GQ t94 true (fun E => E t11) fun t97 =>
 GQ t94 true (fun E => QDo Tryz.prog C3 (mFA 41 t13 1) E) fun t98 =>
 GQ t94 true (fun E => QDo Tryz.prog C3 (mLoad 3 t98) E) fun t99 =>
 GQ t94 true (fun E => QDo Tryz.prog C3 (mSlice 9 t96 (some t97) (some t99) none) E) fun t100 =>
 GQ t94 true (fun E => QDo Tryz.prog C3 (mEq .neq 9 (.tmp 100) (.const (.string ⟨#[32]⟩)) t100 (.string ⟨#[32]⟩)) E) fun t101 =>
 QDo Tryz.prog C3 (mPick t94 t101 (.bool false)) fun t102 =>
 GQ t102 false (fun E => E t8) fun t104 =>
 GQ t102 false (fun E => QDo Tryz.prog C3 (mFA 41 t13 1) E) fun t105 =>
 GQ t102 false (fun E => QDo Tryz.prog C3 (mLoad 3 t105) E) fun t106 =>
 GQ t102 false (fun E => QDo Tryz.prog C3 (mFA 41 t13 2) E) fun t107 =>
 GQ t102 false (fun E => QDo Tryz.prog C3 (mLoad 3 t107) E) fun t108 =>
 GQ t102 false (fun E => QDo Tryz.prog C3 (mSlice 9 t104 (some t106) (some t108) none) E) fun t109 =>
 GQ t102 false (fun E => E t0) fun t110 =>
 GQ t102 false (fun E => E t86) fun t111 =>
 GQ t102 false (fun E => QDo Tryz.prog C3 (mIA 22 t110 t111) E) fun t112 =>
 GQ t102 false (fun E => QDo Tryz.prog C3 (mLoad 9 t112) E) fun t113 =>
 GQ t102 false (fun E => QDo Tryz.prog C3 (mEq .neq 9 (.tmp 109) (.tmp 113) t109 t113) E) fun t114 =>
 QDo Tryz.prog C3 (mPick t102 (.bool true) t114) fun t115 =>
 ∀ w, C3 w →
 IfX t115 (K (.returned (.bool false)) w) (DoX Tryz.prog (mFA 41 t13 2) w (pk K) fun t116 w =>
 DoX Tryz.prog (mLoad 3 t116) w (pk K) fun t117 w =>
 DoX Tryz.prog (mBin .add 3 t86 (.int .i64 1)) w (pk K) fun t118 w =>
 N2 [t117, t118] w))) (DoX Tryz.prog (mB .len #[9] 3 #[false] #[t8]) w (pk K) fun t121 w =>
 DoX Tryz.prog (mEq .eql 3 (.tmp 119) (.tmp 121) t11 t121) w (pk K) fun t122 w =>
 K (.returned t122) w)
def S_foliantlaw04_PlainJoins_0 (t0 t3 t19 t20 t21 : Value) (w : World) (N1 : List Value → World → Prop) (K : Ending → World → Prop) : Prop :=
 DoX Tryz.prog (mBin .lss 3 t21 t20) w (pk K) fun t22 w =>
 IfX t22 (DoX Tryz.prog (mIA 22 t19 t21) w (pk K) fun t23 w =>
 DoX Tryz.prog (mLoad 9 t23) w (pk K) fun t24 w =>
 DoX Tryz.prog (mEq .eql 9 (.tmp 25) (.const (.string ⟨#[]⟩)) t24 (.string ⟨#[]⟩)) w (pk K) fun t26 w =>
 GDo t26 false (fun E => E t24 w) w fun t28 w =>
 GDo t26 false (fun E => DoX Tryz.prog (mB .len #[9] 3 #[false] #[t28]) w (pk K) E) w fun t29 w =>
 GDo t26 false (fun E => DoX Tryz.prog (mBin .gtr 3 t29 (.int .i64 100)) w (pk K) E) w fun t30 w =>
 DoX Tryz.prog (mPick t26 (.bool true) t30) w (pk K) fun t31 w =>
 IfX t31 (K (.returned (.bool true)) w) (CallX Tryz.prog 24 #[t24, (.int .i64 0)] w (pk K) fun t34 w =>
 DoX Tryz.prog (mExt t34 0) w (pk K) fun t35 w =>
 DoX Tryz.prog (mExt t34 1) w (pk K) fun t36 w =>
 DoX Tryz.prog (mAlloc 41) w (pk K) fun t6 w =>
 DoX Tryz.prog (mStore 41 t6 t35) w (pk K) fun _ w =>
 DoX Tryz.prog (mEq .neq 28 (.tmp 37) (.const (.int .i64 0)) t36 (.int .i64 0)) w (pk K) fun t38 w =>
 GDo t38 false (fun E => DoX Tryz.prog (mFA 41 t6 0) w (pk K) E) w fun t40 w =>
 GDo t38 false (fun E => DoX Tryz.prog (mLoad 3 t40) w (pk K) E) w fun t41 w =>
 GDo t38 false (fun E => DoX Tryz.prog (mEq .eql 3 (.tmp 41) (.const (.int .i64 0)) t41 (.int .i64 0)) w (pk K) E) w fun t42 w =>
 DoX Tryz.prog (mPick t38 (.bool true) t42) w (pk K) fun t43 w =>
 GDo t43 false (fun E => DoX Tryz.prog (mFA 41 t6 1) w (pk K) E) w fun t45 w =>
 GDo t43 false (fun E => DoX Tryz.prog (mLoad 3 t45) w (pk K) E) w fun t46 w =>
 GDo t43 false (fun E => DoX Tryz.prog (mEq .neq 3 (.tmp 46) (.const (.int .i64 0)) t46 (.int .i64 0)) w (pk K) E) w fun t47 w =>
 DoX Tryz.prog (mPick t43 (.bool true) t47) w (pk K) fun t48 w =>
 GDo t48 false (fun E => DoX Tryz.prog (mFA 41 t6 2) w (pk K) E) w fun t50 w =>
 GDo t48 false (fun E => DoX Tryz.prog (mLoad 3 t50) w (pk K) E) w fun t51 w =>
 GDo t48 false (fun E => E t24 w) w fun t52 w =>
 GDo t48 false (fun E => DoX Tryz.prog (mB .len #[9] 3 #[false] #[t52]) w (pk K) E) w fun t53 w =>
 GDo t48 false (fun E => DoX Tryz.prog (mEq .neq 3 (.tmp 51) (.tmp 53) t51 t53) w (pk K) E) w fun t54 w =>
 DoX Tryz.prog (mPick t48 (.bool true) t54) w (pk K) fun t55 w =>
 IfX t55 (K (.returned (.bool true)) w) (DoX Tryz.prog (mB .len #[9] 3 #[false] #[t24]) w (pk K) fun t58 w =>
 DoX Tryz.prog (mBin .add 3 t3 t58) w (pk K) fun t59 w =>
 DoX Tryz.prog (mBin .add 3 t21 (.int .i64 1)) w (pk K) fun t60 w =>
 N1 [t59, t60] w))) (CallX Tryz.prog 25 #[t0] w (pk K) fun t62 w =>
 CallX Tryz.prog 26 #[t62] w (pk K) fun t65 w =>
 DoX Tryz.prog (mExt t65 0) w (pk K) fun t66 w =>
 DoX Tryz.prog (mExt t65 1) w (pk K) fun t67 w =>
 DoX Tryz.prog (mAlloc 36) w (pk K) fun t10 w =>
 DoX Tryz.prog (mStore 36 t10 t67) w (pk K) fun _ w =>
 DoX Tryz.prog (mLoad 36 t10) w (pk K) fun t68 w =>
 DoX Tryz.prog (mBuild 36 #[]) w (pk K) fun t69 w =>
 DoX Tryz.prog (mEq .neq 36 (.tmp 68) (.tmp 69) t68 t69) w (pk K) fun t70 w =>
 GDo t70 false (fun E => E t66 w) w fun t72 w =>
 GDo t70 false (fun E => DoX Tryz.prog (mB .len #[34] 3 #[false] #[t72]) w (pk K) E) w fun t73 w =>
 GDo t70 false (fun E => E t0 w) w fun t74 w =>
 GDo t70 false (fun E => DoX Tryz.prog (mB .len #[22] 3 #[false] #[t74]) w (pk K) E) w fun t75 w =>
 GDo t70 false (fun E => DoX Tryz.prog (mEq .neq 3 (.tmp 73) (.tmp 75) t73 t75) w (pk K) E) w fun t76 w =>
 DoX Tryz.prog (mPick t70 (.bool true) t76) w (pk K) fun t77 w =>
 GDo t77 false (fun E => E t62 w) w fun t79 w =>
 GDo t77 false (fun E => DoX Tryz.prog (mB .len #[9] 3 #[false] #[t79]) w (pk K) E) w fun t80 w =>
 GDo t77 false (fun E => E t3 w) w fun t81 w =>
 GDo t77 false (fun E => DoX Tryz.prog (mBin .lss 3 t80 t81) w (pk K) E) w fun t82 w =>
 DoX Tryz.prog (mPick t77 (.bool true) t82) w (pk K) fun t83 w =>
 IfX t83 (K (.returned (.bool false)) w) (DoX Tryz.prog (mB .len #[34] 3 #[false] #[t66]) w (pk K) fun t85 w =>
 LoopX [(.int .i64 0), (.int .i64 0)] w (fun vs2 w N2 => ∀ _ : Sg, S_foliantlaw04_PlainJoins_1 t0 t62 (vs2.getD 0 undef) t66 t85 (vs2.getD 1 undef) w N2 K)))
def S_foliantlaw04_PlainJoins (t0 : Value) (w : World) (K : Ending → World → Prop) : Prop :=
 CallX Tryz.prog 17 #[] w (pk K) fun t14 w =>
 DoX Tryz.prog (mUn .not t14) w (pk K) fun t15 w =>
 IfX t15 (K (.returned (.bool false)) w) (DoX Tryz.prog (mB .len #[22] 3 #[false] #[t0]) w (pk K) fun t17 w =>
 DoX Tryz.prog (mBin .gtr 3 t17 (.int .i64 20)) w (pk K) fun t18 w =>
 IfX t18 (K (.returned (.bool true)) w) (DoX Tryz.prog (mB .len #[22] 3 #[false] #[t0]) w (pk K) fun t20 w =>
 LoopX [(.int .i64 0), (.int .i64 0)] w (fun vs1 w N1 => ∀ _ : Sg, S_foliantlaw04_PlainJoins_0 t0 (vs1.getD 0 undef) t0 t20 (vs1.getD 1 undef) w N1 K)))
theorem S_foliantlaw04_PlainJoins_eq (t0 : Value) (w : World) (K : Ending → World → Prop) : wpX Tryz.prog 123 [] [(7, [3, 21]), (22, [11, 86])] none (bodyOf Tryz.f7) (topQ Tryz.prog [.tmp 2] K) (startX [t0]) [] w = S_foliantlaw04_PlainJoins t0 w K := by kernel_rfl
theorem S_foliantlaw04_PlainJoins_ok {t0 : Value} {w : World} {K : Ending → World → Prop} (h : S_foliantlaw04_PlainJoins t0 w K) : Calls Tryz.prog 7 #[t0] w K :=
  calls_of_wpX Tryz.func7 rfl rfl rfl rfl (Eq.mpr (S_foliantlaw04_PlainJoins_eq t0 w K) h)

end Go.Proofs.YtihjejmmldpelaaGreatDoor
/- foliantlaw04: one, PlainReads. -/
namespace Go.Proofs.YtihjejmmldpelaaGreatDoor
set_option linter.unusedVariables false
set_option linter.unusedSimpArgs false
set_option linter.defProp false
open Eng Go.RowKit

section
variable {P : Program} {w w0 : World} {L : List Ent} {PK : List PanicEntry → World → Prop} {K : Value → World → Prop}
/-- A guarded call that makes memory at most. -/
theorem g_call {b : Bool} {f : Nat} {args : Array Value} {x : Value} (ho : Own w0 w L) (h : b = true → Ret P f args w (fun v w' => v = x ∧ Below w.heap.size w w')) (k : ∀ w', Own w0 w' L → K (sel b x) w') : GDo (.bool b) true (fun E => CallX P f args w PK E) w K := by
  cases b with
  | true =>
    rw [g_tt]
    refine c_below ho (h rfl) ?_
    rintro _ w' rfl ho
    exact k w' ho
  | false =>
    rw [g_ft]
    exact k w ho
end
theorem fa_t3 {b : Nat} {w : World} {PK : List PanicEntry → World → Prop} {K : Value → World → Prop} : DoX Tryz.prog (mFA 41 (.pointer (some ⟨b, 0, none⟩)) 3) w PK K = K (.pointer (some ⟨b, 3, none⟩)) w := f_addr (show fOff Tryz.prog 41 3 = some 3 by kernel_rfl)
theorem fa_t4' {b : Nat} {w : World} {PK : List PanicEntry → World → Prop} {K : Value → World → Prop} : DoX Tryz.prog (mFA 41 (.pointer (some ⟨b, 0, none⟩)) 4) w PK K = K (.pointer (some ⟨b, 4, none⟩)) w := f_addr (show fOff Tryz.prog 41 4 = some 4 by kernel_rfl)
theorem one_ret {l s : List UInt8} {k n : Int} (w : World) (hl : l.length ≤ 1000000000) (h : Lx.next l 0 = (⟨k, 0, l.length, n, s⟩, 0)) :
    Ret Tryz.prog 23 #[.string ⟨l.toArray⟩, .int .i64 k, .int .i64 n, .string ⟨s.toArray⟩] w (fun v w' => v = .bool true ∧ Below w.heap.size w w') := by
  refine ret_of fun K hK => S_foliantlaw04_one_ok ?_
  unfold S_foliantlaw04_one
  refine tok_new (Own.start w) (next_ret l 0 w (by omega)) h fun b9 w1 ho => ?_
  have n64 : notAgg Tryz.prog 2 = true := by kernel_rfl
  have A0 : ∀ {PK : List PanicEntry → World → Prop} {K : Value → World → Prop}, DoX Tryz.prog (mLoad 3 (.pointer (some ⟨b9, 0, none⟩))) w1 PK K = K (.int .i64 k) w1 := l_cell nInt (ho.cell 0 rfl 0 rfl)
  have A1 : ∀ {PK : List PanicEntry → World → Prop} {K : Value → World → Prop}, DoX Tryz.prog (mLoad 3 (.pointer (some ⟨b9, 1, none⟩))) w1 PK K = K (.int .i64 0) w1 := l_cell nInt (ho.cell 0 rfl 1 rfl)
  have A2 : ∀ {PK : List PanicEntry → World → Prop} {K : Value → World → Prop}, DoX Tryz.prog (mLoad 3 (.pointer (some ⟨b9, 2, none⟩))) w1 PK K = K (.int .i64 (l.length : Int)) w1 := l_cell nInt (ho.cell 0 rfl 2 rfl)
  have A3 : ∀ {PK : List PanicEntry → World → Prop} {K : Value → World → Prop}, DoX Tryz.prog (mLoad 2 (.pointer (some ⟨b9, 3, none⟩))) w1 PK K = K (.int .i64 n) w1 := l_cell n64 (ho.cell 0 rfl 3 rfl)
  have A4 : ∀ {PK : List PanicEntry → World → Prop} {K : Value → World → Prop}, DoX Tryz.prog (mLoad 9 (.pointer (some ⟨b9, 4, none⟩))) w1 PK K = K (.string ⟨s.toArray⟩) w1 := l_cell nStr (ho.cell 0 rfl 4 rfl)
  simp only [rs, eq_self, decide_true, fa_t0, fa_t1, fa_t2, fa_t3, fa_t4', A0, A1, A2, A3, A4, s_len Tryz.underlying9]
  exact hK _ _ ⟨rfl, ho.done⟩
 attribute [local congr] g_congr in
theorem plainReads_ret (n m : Int) (s t : List UInt8) (w : World) (ht : Tb w) (htl : t.length ≤ 9223372036854775807) :
    Ret Tryz.prog 6 #[.int .i64 n, .int .i64 m, .string ⟨s.toArray⟩, .string ⟨t.toArray⟩] w (fun v w' => v = .bool true ∧ Below w.heap.size w w') := by
  refine ret_of fun K hK => S_foliantlaw04_PlainReads_ok ?_
  unfold S_foliantlaw04_PlainReads
  refine c_told (plives_ret w ht) rfl (Own.start w) fun w1 h1 => ?_
  rw [u_not, Bool.not_true, i_f]
  simp only [s_len Tryz.underlying9, rs]
  by_cases hl : (3000 : Int) < (s.length : Int)
  · simp only [hl, decide_true, rs, g_un]
    exact hK _ _ ⟨rfl, h1.done⟩
  by_cases hl2 : (300 : Int) < (t.length : Int)
  · simp only [hl, hl2, decide_true, decide_false, rs, s_len Tryz.underlying9]
    exact hK _ _ ⟨rfl, h1.done⟩
  simp only [hl, hl2, decide_false, rs, s_len Tryz.underlying9]
  refine c_told (pint_ret n w1 (ht.own h1)) rfl h1 fun w2 h2 => ?_
  simp only [ex]
  refine c_told (preal_ret m w2) rfl h2 fun w3 h3 => ?_
  simp only [ex]
  refine c_told (pstr_ret s w3 (by omega)) rfl h3 fun w4 h4 => ?_
  simp only [ex]
  refine c_told (phex_ret s w4 (by omega)) rfl h4 fun w5 h5 => ?_
  simp only [ex]
  refine c_told (pname_ret t w5) rfl h5 fun w6 h6 => ?_
  have e3 : Pl.pStr s = (Pl.str s, 0) := by rw [Pl.pStr, if_neg (by omega)]
  have e4 : Pl.pHex s = ([60] ++ Oc.hex s ++ [62], 0) := by rw [Pl.pHex, if_neg (by omega)]
  rw [e3, e4]
  simp +contextual only [ex, rs, gs, ne_eq, not_true, decide_false]
  refine g_call (x := .bool true) h6 (fun hb => ?_) fun w7 h7 => ?_
  · have he : (Pl.pInt n).2 = 0 := by simpa using hb
    unfold Pl.pInt at he ⊢
    by_cases hr : -2147483647 ≤ n ∧ n ≤ 2147483647
    · rw [if_pos hr]
      have hlen : (Lib.itoa n).length ≤ 1000000 := by
        rcases Pl.itoa_shape n with ⟨u, hu, e⟩ | ⟨u, hu, _, e⟩ <;> rw [e]
        · have := decDigits_len u (by omega); omega
        · have := decDigits_len u (by omega); simp only [List.length_cons]; omega
      exact one_ret (l := Lib.itoa n) (s := []) w6 (by omega) (Lx.itoa_next hr.1 hr.2)
    · rw [if_neg hr] at he; cases he
  simp +contextual only [rs, gs, Bool.not_true, Bool.and_false]
  refine g_call (x := .bool true) h7 (fun hb => ?_) fun w8 h8 => ?_
  · have he : (Pl.pReal m).2 = 0 := by simpa using hb
    unfold Pl.pReal at he ⊢
    by_cases hr : Fx.okB m = true
    · rw [if_pos hr]
      have hlen : (Fx.text m).length ≤ 1000000 := by
        have h1 := Fx.row_len (m.natAbs / 10000) 1
        have h2 := Fx.fpart_len m.natAbs
        rw [Fx.text, if_pos hr]
        simp only [List.length_append, List.length_singleton]
        split <;> simp only [List.length_singleton, List.length_nil] <;> omega
      exact one_ret (l := Fx.text m) (s := []) w7 (by omega) (Lx.text_next hr)
    · rw [if_neg hr] at he; cases he
  simp +contextual only [rs, gs, Bool.not_true, Bool.and_false]
  refine g_call (x := .bool true) h8 (fun hb => ?_) fun w9 h9 => ?_
  · have he : (Pl.pName t).2 = 0 := by simpa using hb
    unfold Pl.pName at he ⊢
    by_cases hr : 127 < t.length
    · rw [if_pos hr] at he; cases he
    · rw [if_neg hr] at he ⊢
      by_cases h0 : t.contains 0 = true
      · rw [if_pos h0] at he; cases he
      · rw [if_neg h0]
        have hlen := Pl.flat_len Pl.nmc 3 (fun c => (Pl.nmc_len c).2) t
        exact one_ret (l := Pl.name t) (s := t) w8 (by simp only [Pl.name, List.length_append, List.length_singleton]; omega) (Lx.name_next (by omega) (by simpa using h0))
  simp +contextual only [rs, gs, Bool.not_true, Bool.and_false]
  have hlen := Pl.flat_len Pl.esc 4 (fun c => (Pl.esc_len c).2) s
  refine c_told (one_ret (l := Pl.str s) (s := s) w9 (by simp only [Pl.str, List.length_append, List.length_singleton]; omega) (Lx.str_next (by omega))) rfl h9 fun w10 h10 => ?_
  simp only [rs]
  have hlen2 := Oc.hex_length s
  refine c_told (one_ret (l := [60] ++ Oc.hex s ++ [62]) (s := s) w10 (by simp only [List.length_append, List.length_singleton]; omega) (Lx.pHex_next (by omega))) rfl h10 fun w11 h11 => ?_
  exact hK _ _ ⟨rfl, h11.done⟩
end Go.Proofs.YtihjejmmldpelaaGreatDoor
/- foliantlaw04.PlainJoins. -/
namespace Go.Proofs.YtihjejmmldpelaaGreatDoor
set_option linter.unusedVariables false
set_option linter.unusedSimpArgs false
set_option linter.defProp false
open Eng Go.RowKit

theorem n_flt {xo yo : Operand} {x y : Int × Int} {w : World} {PK : List PanicEntry → World → Prop} {K : Value → World → Prop} : DoX Tryz.prog (mEq .neq 36 xo yo (fltV x) (fltV y)) w PK K = K (.bool (!decide (x = y))) w := by
  refine do_eq ?_
  rw [← flt_beq]; exact run_neq_agg eqFlt rfl
def sumL (ps : List (List UInt8)) : Nat := (ps.map List.length).sum
theorem sumL_snoc (ps : List (List UInt8)) (p : List UInt8) : sumL (ps ++ [p]) = sumL ps + p.length := by simp [sumL]
theorem joinR_len : ∀ (ps : List (List UInt8)) (last : UInt8), sumL ps ≤ (Lx.joinR last ps).length
  | [], _ => by simp [sumL]
  | p :: ps, last => by
    have := joinR_len ps (Pl.lastC p)
    rw [Lx.joinR, List.length_append, List.length_append, show sumL (p :: ps) = p.length + sumL ps by simp [sumL]]; omega
theorem sumL_bd : ∀ ps : List (List UInt8), (∀ p ∈ ps, p.length ≤ 100) → sumL ps ≤ 100 * ps.length
  | [], _ => by simp [sumL]
  | p :: ps, h => by
    have h1 := sumL_bd ps (fun q hq => h q (List.mem_cons_of_mem _ hq))
    have h2 := h p (List.mem_cons_self ..)
    rw [show sumL (p :: ps) = p.length + sumL ps by simp [sumL], List.length_cons]; omega
theorem tot_bd : ∀ ps : List (List UInt8), (∀ p ∈ ps, p.length ≤ 100) → Pl.tot ps ≤ 101 * ps.length
  | [], _ => by simp [Pl.tot]
  | p :: ps, h => by
    have h1 := tot_bd ps (fun q hq => h q (List.mem_cons_of_mem _ hq))
    have h2 := h p (List.mem_cons_self ..)
    rw [show Pl.tot (p :: ps) = p.length + 1 + Pl.tot ps by simp [Pl.tot], List.length_cons]; omega
theorem plainJoins_ret (pv : Value) (ps : List (List UInt8)) (w : World) (ht : Tb w) (hp : Sl w pv 1 ps.length (strsV ps)) (hpl : ps.length ≤ 9223372036854775807) (hpe : ∀ p ∈ ps, p.length ≤ 9223372036854775807) :
    Ret Tryz.prog 7 #[pv] w (fun v w' => v = .bool true ∧ Below w.heap.size w w') := by
  refine ret_of fun K hK => S_foliantlaw04_PlainJoins_ok ?_
  unfold S_foliantlaw04_PlainJoins
  refine c_told (plives_ret w ht) rfl (Own.start w) fun w1 h1 => ?_
  rw [u_not, Bool.not_true, i_f]
  simp only [sl_len Tryz.underlying22 (h1.oldSl hp), rs]
  by_cases hl : (20 : Int) < (ps.length : Int)
  · simp only [hl, decide_true, i_t]
    exact hK _ _ ⟨rfl, h1.done⟩
  simp only [hl, decide_false, i_f]
  refine loop (fun vs w' => ∃ i : Nat, vs = [.int .i64 (sumL (ps.take i)), .int .i64 i] ∧ i ≤ ps.length ∧ (∀ p ∈ ps.take i, p.length ≤ 100 ∧ ∃ x, Lx.Single p x) ∧ Own w w' []) (fun vs _ => ps.length - n1 vs) ⟨0, rfl, by omega, by simp, h1⟩ ?_
  clear h1
  rintro vs w2 ⟨i, rfl, hi, hall, ho⟩ _
  simp only [S_foliantlaw04_PlainJoins_0, gd, rs]
  have hsb := sumL_bd (ps.take i) (fun p hp => (hall p hp).1)
  rw [List.length_take] at hsb
  by_cases hlt : (i : Int) < (ps.length : Int)
  · have hi' : i < ps.length := by omega
    simp only [hlt, decide_true, i_t]
    refine sl_ia1 (.string ⟨ps[i].toArray⟩) Tryz.underlying22 (by kernel_rfl) (ho.oldSl hp) (by omega) (by rw [Int.toNat_natCast]; exact strsV_get hi') fun q hpc => ?_
    rw [l_cell nStr hpc]
    have hs0 : ∀ {T : TypeId} {xo yo : Operand} {w : World} {PK : List PanicEntry → World → Prop} {K : Value → World → Prop}, DoX Tryz.prog (mEq .eql T xo yo (.string ⟨ps[i].toArray⟩) (.string ⟨#[]⟩)) w PK K = K (.bool (decide (ps[i] = []))) w := e_str (b := [])
    by_cases he : ps[i] = []
    · simp only [hs0, he, decide_true, rs, g_un]
      exact hK _ _ ⟨rfl, ho.done⟩
    by_cases h100 : (100 : Int) < (ps[i].length : Int)
    · simp only [hs0, he, h100, decide_true, decide_false, rs, s_len Tryz.underlying9]
      exact hK _ _ ⟨rfl, ho.done⟩
    simp only [hs0, he, h100, decide_false, rs, s_len Tryz.underlying9]
    refine tok_new ho (next_ret ps[i] 0 w2 (by omega)) rfl fun b6 w3 ho => ?_
    generalize hnx : Lx.next ps[i] 0 = nx at *
    have A0 : ∀ {PK : List PanicEntry → World → Prop} {K : Value → World → Prop}, DoX Tryz.prog (mLoad 3 (.pointer (some ⟨b6, 0, none⟩))) w3 PK K = K (.int .i64 nx.1.k) w3 := l_cell nInt (ho.cell 0 rfl 0 rfl)
    have A1 : ∀ {PK : List PanicEntry → World → Prop} {K : Value → World → Prop}, DoX Tryz.prog (mLoad 3 (.pointer (some ⟨b6, 1, none⟩))) w3 PK K = K (.int .i64 nx.1.a) w3 := l_cell nInt (ho.cell 0 rfl 1 rfl)
    have A2 : ∀ {PK : List PanicEntry → World → Prop} {K : Value → World → Prop}, DoX Tryz.prog (mLoad 3 (.pointer (some ⟨b6, 2, none⟩))) w3 PK K = K (.int .i64 nx.1.t) w3 := l_cell nInt (ho.cell 0 rfl 2 rfl)
    have out : K (.returned (.bool true)) w3 := hK _ _ ⟨rfl, ho.done⟩
    by_cases t1 : nx.2 ≠ 0
    · simp only [rs, decide_eq_true t1, g_un]; exact out
    by_cases t2 : nx.1.k = 0
    · simp only [rs, decide_eq_false t1, fa_t0, A0, decide_eq_true t2, g_un]; exact out
    by_cases t3 : nx.1.a ≠ 0
    · simp only [rs, decide_eq_false t1, fa_t0, A0, decide_eq_false t2, fa_t1, A1, decide_eq_true t3, g_un]; exact out
    by_cases t4 : nx.1.t ≠ (ps[i].length : Int)
    · simp only [rs, decide_eq_false t1, fa_t0, A0, decide_eq_false t2, fa_t1, A1, decide_eq_false t3, fa_t2, A2, s_len Tryz.underlying9, decide_eq_true t4, g_un]; exact out
    simp only [rs, decide_eq_false t1, fa_t0, A0, decide_eq_false t2, fa_t1, A1, decide_eq_false t3, fa_t2, A2, s_len Tryz.underlying9, decide_eq_false t4]
    have hsum : sumL (ps.take (i + 1)) = sumL (ps.take i) + ps[i].length := by rw [List.take_succ_eq_append_getElem hi', sumL_snoc]
    rw [wrap64_id (by omega) (by omega), wrap64_id (by omega) (by omega)]
    refine nextX ⟨i + 1, by rw [hsum]; rfl, by omega, ?_, ho.tail⟩ (by simp [n1, intOf]; omega)
    rw [List.take_succ_eq_append_getElem hi']
    intro p hp'
    rcases List.mem_append.1 hp' with h | h
    · exact hall p h
    · rw [List.mem_singleton] at h
      subst h
      have t1' : nx.2 = 0 := by omega
      exact ⟨by omega, nx.1, by rw [hnx, ← t1'], t2, by omega, by omega⟩
  · have hii : i = ps.length := by omega
    subst hii
    rw [List.take_length] at hall hsb ⊢
    simp only [hlt, decide_false, i_f]
    have hb := tot_bd ps (fun p hp => (hall p hp).1)
    have hjl := Pl.join_len ps
    obtain ⟨l, hu, hll, hfit⟩ := Lx.joins_upto ps 1048577 (by omega) (fun p hp => (hall p hp).2)
    have hA : allP (Pl.join ps) = (l, (0, 0)) := by
      rw [allP, hu]
      simp only
      rw [if_neg (by omega)]
    have hsj : sumL ps ≤ (Pl.join ps).length := by
      have hne : ∀ q ∈ ps, q ≠ [] := by
        intro q hq
        obtain ⟨y, hy⟩ := (hall q hq).2
        obtain ⟨c, t, e, _⟩ := Lx.single_head hy
        rw [e]; simp
      rw [Lx.join_joinR ps hne]
      exact joinR_len ps 32
    refine c_told (pjoin_ret ps pv w2 (ho.oldSl hp) (by omega)) rfl ho fun w3 ho => ?_
    generalize Pl.join ps = s at *
    refine c_ret (all_ret s w3 (by omega)) ?_
    rintro _ w4 ⟨tv, rfl, hn⟩
    rw [hA] at hn ⊢
    have ho := ho.join hn
    simp only [ex]
    refine o_flt ho fun b10 w5 ho => ?_
    refine flt_put (g := (0, 0)) 0 ho rfl fun w6 ho => ?_
    have ho : Own w w6 [fltE b10 (0, 0), TRow tv l] := ho
    have q10 : AtV Tryz.prog w6 36 ⟨b10, 0, none⟩ (fltV (0, 0)) := ho.agg 0 rfl aggFlt
    have hc1 : ¬ ((s.length : Int) < (sumL ps : Int)) := by omega
    simp only [l_at q10, m_flt0, n_flt, eq_self, decide_true, Bool.not_true, rs, sl_len Tryz.underlying34 (trow_sl 1 ho rfl), sl_len Tryz.underlying22 (ho.oldSl hp), hll, ne_eq, not_true, decide_false, s_len Tryz.underlying9, hc1]
    refine loop (fun vs w' => ∃ (i : Nat) (a : Int), vs = [.int .i64 a, .int .i64 i] ∧ i ≤ ps.length ∧ Lx.Fits s a (l.drop i) (ps.drop i) ∧ Own w w' [fltE b10 (0, 0), TRow tv l]) (fun vs _ => ps.length - n1 vs) ⟨0, 0, rfl, by omega, by simpa using hfit, ho⟩ ?_
    clear ho q10
    rintro vs w7 ⟨i, a, rfl, hi, hf, ho⟩ _
    simp only [S_foliantlaw04_PlainJoins_1, gd, rs]
    by_cases hlt : (i : Int) < (ps.length : Int)
    · simp only [hlt, decide_true, i_t]
      have hi1 : i < ps.length := by omega
      have hi2 : i < l.length := by omega
      rw [List.drop_eq_getElem_cons hi1, List.drop_eq_getElem_cons hi2] at hf
      obtain ⟨ha0, hgap, hle1, hle2, hcut, hf⟩ := hf
      obtain ⟨ba, oa, ca, rfl, hca⟩ := sl_open (trow_sl 1 ho rfl) (by omega)
      have hx : AtV Tryz.prog w7 41 ⟨ba, oa + i * 5, none⟩ (tokV l[i]) := tok_at hca hi2
      have hix : ∀ {PK K}, DoX Tryz.prog (mIA 34 (.slice (some ⟨ba, oa, none⟩) l.length ca) (.int .i64 (i : Int))) w7 PK K = K (.pointer (some ⟨ba, oa + i * 5, none⟩)) w7 := by
        intro PK K
        refine do_eq ?_
        have := @run_ia Tryz.prog w7 34 41 .i64 ba oa l.length ca 5 (i : Int) Tryz.underlying34 (by kernel_rfl) (by omega) (by omega)
        rw [Int.toNat_natCast] at this
        exact this
      rw [hix, l_at hx]
      generalize l[i] = x at *
      refine o_tok ho fun b13 w8 ho => ?_
      refine o_put 0 ho rfl (new := tokC x) szTok (tokC_one _) rfl fun w9 ho => ?_
      have ho : Own w w9 [tokE b13 x, fltE b10 (0, 0), TRow (.slice (some ⟨ba, oa, none⟩) l.length ca) l] := ho
      have f1 : ∀ wc, Below w9.heap.size w9 wc → (mLoad 3 (.pointer (some ⟨b13, 1, none⟩))).run Tryz.prog wc = .ok (.value (.int .i64 x.a)) wc := fun wc hb => run_load_cell nInt ((ho.grow hb).cell 0 rfl 1 rfl)
      have f2 : ∀ wc, Below w9.heap.size w9 wc → (mLoad 3 (.pointer (some ⟨b13, 2, none⟩))).run Tryz.prog wc = .ok (.value (.int .i64 x.t)) wc := fun wc hb => run_load_cell nInt ((ho.grow hb).cell 0 rfl 2 rfl)
      have r1 : fOff Tryz.prog 41 1 = some 1 := by kernel_rfl
      have r2 : fOff Tryz.prog 41 2 = some 2 := by kernel_rfl
      obtain ⟨bp, op, cp, rfl, hcp⟩ := sl_open hp (by omega)
      have tail : ∀ v94 : Bool, ∀ t101 : Value, (if v94 then t101 else .bool false) = .bool false → QDo Tryz.prog (Below w9.heap.size w9) (mPick (.bool v94) t101 (.bool false)) fun t102 =>
          GQ t102 false (fun E => E (.string ⟨s.toArray⟩)) fun t104 =>
          GQ t102 false (fun E => QDo Tryz.prog (Below w9.heap.size w9) (mFA 41 (.pointer (some ⟨b13, 0, none⟩)) 1) E) fun t105 =>
          GQ t102 false (fun E => QDo Tryz.prog (Below w9.heap.size w9) (mLoad 3 t105) E) fun t106 =>
          GQ t102 false (fun E => QDo Tryz.prog (Below w9.heap.size w9) (mFA 41 (.pointer (some ⟨b13, 0, none⟩)) 2) E) fun t107 =>
          GQ t102 false (fun E => QDo Tryz.prog (Below w9.heap.size w9) (mLoad 3 t107) E) fun t108 =>
          GQ t102 false (fun E => QDo Tryz.prog (Below w9.heap.size w9) (mSlice 9 t104 (some t106) (some t108) none) E) fun t109 =>
          GQ t102 false (fun E => E (.slice (some ⟨bp, op, none⟩) ps.length cp)) fun t110 =>
          GQ t102 false (fun E => E (.int .i64 i)) fun t111 =>
          GQ t102 false (fun E => QDo Tryz.prog (Below w9.heap.size w9) (mIA 22 t110 t111) E) fun t112 =>
          GQ t102 false (fun E => QDo Tryz.prog (Below w9.heap.size w9) (mLoad 9 t112) E) fun t113 =>
          GQ t102 false (fun E => QDo Tryz.prog (Below w9.heap.size w9) (mEq .neq 9 (.tmp 109) (.tmp 113) t109 t113) E) fun t114 =>
          QDo Tryz.prog (Below w9.heap.size w9) (mPick t102 (.bool true) t114) fun t115 =>
          ∀ x, Below w9.heap.size w9 x →
          IfX t115 (K (.returned (.bool false)) x) (DoX Tryz.prog (mFA 41 (.pointer (some ⟨b13, 0, none⟩)) 2) x (pk K) fun t116 x =>
          DoX Tryz.prog (mLoad 3 t116) x (pk K) fun t117 x =>
          NextX (fun vs w' => ∃ (i : Nat) (a : Int), vs = [.int .i64 a, .int .i64 i] ∧ i ≤ ps.length ∧ Lx.Fits s a (l.drop i) (ps.drop i) ∧ Own w w' [fltE b10 (0, 0), TRow (.slice (some ⟨ba, oa, none⟩) l.length ca) l]) (fun vs _ => ps.length - n1 vs) [.int .i64 a, .int .i64 i] w7 [t117, .int .i64 (IntKind.wrap .i64 ((i : Int) + 1))] x) := by
        intro v94 t101 hv
        refine q_pick ?_
        rw [hv]
        simp only [gq]
        refine q_do _ (fun _ => run_fa r1) (q_at _ f1 (q_do _ (fun _ => run_fa r2) (q_at _ f2 ?_)))
        refine q_do _ (fun _ => run_s_slice Tryz.underlying9 (by omega) hle1 hle2) ?_
        refine q_do _ (fun _ => run_ia Tryz.underlying22 (show _ = some 1 by kernel_rfl) (by omega) (by omega)) ?_
        refine q_at (.string ⟨ps[i].toArray⟩) (fun wc hw => run_load_cell nStr ?_) ?_
        · have := hcp i _ (strsV_get hi1)
          rw [Int.toNat_natCast, Nat.mul_one]
          exact (ho.grow hw).old this
        refine q_sne ?_
        have hcut' : (s.drop x.a.toNat).take (x.t.toNat - x.a.toNat) = ps[i] := hcut
        simp only [hcut', ne_eq, not_true, decide_false]
        refine q_pf ?_
        intro w10 hb
        have ho := ho.grow hb
        simp only [i_f, fa_t2]
        rw [l_cell nInt (ho.cell 0 rfl 2 rfl)]
        rw [wrap64_id (by omega) (by omega)]
        exact nextX ⟨i + 1, x.t, rfl, by omega, hf, ho.tail⟩ (by simp [n1, intOf]; omega)
      refine quiet (q_do _ (fun _ => run_fa r1) ?_)
      refine q_at _ f1 (q_gtr ?_)
      by_cases hgt : a < x.a
      · have hg : x.a = a + 1 ∧ x.a ≤ s.length ∧ Lx.cut s a.toNat x.a.toNat = [32] := by
          rcases hgap with h | h
          · omega
          · exact h
        simp only [hgt, decide_true, gq]
        refine q_do _ (fun _ => run_fa r1) (q_at _ f1 ?_)
        refine q_do _ (fun _ => run_s_slice Tryz.underlying9 ha0 (by omega) hg.2.1) ?_
        have hcut' : (s.drop a.toNat).take (x.a.toNat - a.toNat) = [32] := hg.2.2
        rw [hcut']
        refine q_sne (b := [32]) ?_
        refine tail true _ ?_
        simp
      · simp only [hgt, decide_false, gq]
        exact tail false _ rfl
    · simp only [hlt, decide_false, i_f]
      have h1 : ps.drop i = [] := List.drop_eq_nil_of_le (by omega)
      have h2 : l.drop i = [] := List.drop_eq_nil_of_le (by omega)
      rw [h1, h2] at hf
      have hf : a = s.length := hf
      simp only [s_len Tryz.underlying9, rs, hf, eq_self, decide_true]
      exact hK _ _ ⟨rfl, ho.done⟩
end Go.Proofs.YtihjejmmldpelaaGreatDoor
