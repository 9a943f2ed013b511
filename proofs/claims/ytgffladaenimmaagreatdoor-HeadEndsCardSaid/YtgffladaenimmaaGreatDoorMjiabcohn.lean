/- Texts that go together: Plain03G Plain17 SHead SRef17 EngH EngI EngJ EngK HdA LxS LxT LxU LxV LxW LxX LxY LxZ LxAA LxAB LxAC PlS FixX SLaw02 FixY SLaw04 PlT LxAD SLaw03 LxAE HdB HdC Plain17B SLaw17. -/
import Derived.Lib.IndexMore
import Derived.Lib.LastIndexLaws
import Derived.Test.YtgffladaenimmaaGreatDoorRows
import Derived.Laws.StructEq
import Derived.Lib.SmallJoins
import Derived.Test.YtgffladaenimmaaGreatDoorMabjmbpao
import Derived.Test.YtgffladaenimmaaGreatDoorMcajbfhim
import Derived.Test.YtgffladaenimmaaGreatDoorMnikkkobh
/- Plain mathematics of layers 3 and 4: joined tokens scan into the same tokens. -/
namespace Go.Proofs.YtgffladaenimmaaGreatDoor
set_option linter.unusedVariables false
set_option linter.unusedSimpArgs false
set_option linter.defProp false
open Go
namespace Lx
open Oc
theorem head_app {t m : List UInt8} (h : t ≠ []) : (t ++ m).head? = t.head? := by
  cases t with
  | nil => exact absurd rfl h
  | cons => rfl
theorem lineF_ext {c : UInt8} {t : List UInt8} (m : List UInt8) (he : eol c = true) (h : t ≠ []) : lineF (c :: (t ++ m)) = lineF (c :: t) := by
  simp only [lineF, head_app h]
  by_cases h1 : c = 10
  · simp [h1]
  · by_cases h2 : c = 13
    · simp [h2]
    · simp [eol, h1, h2] at he
theorem octF_ext : ∀ (k n : Nat) (l m : List UInt8), (octF k n l).2 + 1 ≤ l.length → octF k n (l ++ m) = octF k n l
  | 0, n, l, m, h => by simp [octF]
  | k + 1, n, [], m, h => by simp at h
  | k + 1, n, c :: t, m, h => by
    rw [List.cons_append]
    simp only [octF] at h ⊢
    by_cases ho : oct c = true
    · rw [if_pos ho] at h ⊢
      rw [if_pos ho]
      simp only [List.length_cons] at h
      rw [octF_ext k _ t m (by omega)]
    · rw [if_neg ho, if_neg ho]
theorem escF_ext {l : List UInt8} (m : List UInt8) (h : (escF l).2 + 1 ≤ l.length) : escF (l ++ m) = escF l := by
  cases l with
  | nil => simp at h
  | cons c t =>
    rw [List.cons_append]
    simp only [escF, List.length_cons] at h ⊢
    cases hl : escL c with
    | some b => rfl
    | none =>
      simp only [hl] at h ⊢
      by_cases he : eol c = true
      · rw [if_pos he] at h ⊢
        rw [if_pos he]
        have hp := lineF_pos c t
        simp only at h
        rw [lineF_ext m he (by intro e; subst e; simp at h; omega)]
      · rw [if_neg he] at h ⊢
        rw [if_neg he]
        have h3 : (octF 3 0 (c :: t)).2 + 1 ≤ (c :: t).length := by
          by_cases h0 : 0 < (octF 3 0 (c :: t)).2
          · rw [if_pos h0] at h; rw [List.length_cons]; exact h
          · rw [List.length_cons]; omega
        have ht := octF_ext 3 0 (c :: t) m h3
        rw [List.cons_append] at ht
        rw [ht]
theorem textG_ext : ∀ (l : List UInt8) (k o : Nat) (r : List UInt8 × Nat) (m : List UInt8), textG k o l = some r → textG k o (l ++ m) = some r
  | [], k, o, r, m, h => by cases k <;> (rw [textG] at h; cases h)
  | c :: t, k + 1, o, r, m, h => by
    rw [textG] at h
    obtain ⟨q, hq, rfl⟩ := map_some h
    rw [List.cons_append, textG, textG_ext t k o q m hq]; rfl
  | c :: t, 0, o, r, m, h => by
    rw [List.cons_append]
    rw [textG] at h ⊢
    have ne : ∀ k o q, textG k o t = some q → t ≠ [] := by
      intro k o q hq e
      subst e
      cases k <;> (rw [textG] at hq; cases hq)
    by_cases g1 : eol c = true
    · rw [if_pos g1] at h ⊢
      obtain ⟨q, hq, rfl⟩ := map_some h
      rw [lineF_ext m g1 (ne _ _ _ hq), textG_ext t _ o q m hq]; rfl
    · rw [if_neg g1] at h ⊢
      by_cases g2 : c = 92
      · rw [if_pos g2] at h ⊢
        by_cases g3 : t = []
        · rw [if_pos g3] at h; cases h
        · rw [if_neg g3] at h
          obtain ⟨q, hq, rfl⟩ := map_some h
          have h2 := textG_ge _ _ _ _ hq
          have h3 := textG_le _ _ _ _ hq
          rw [escF_ext m (by omega), textG_ext t _ o q m hq, if_neg (by simp [g3])]; rfl
      · rw [if_neg g2] at h ⊢
        by_cases g4 : c = 40
        · rw [if_pos g4] at h ⊢
          obtain ⟨q, hq, rfl⟩ := map_some h
          rw [textG_ext t _ _ q m hq]; rfl
        · rw [if_neg g4] at h ⊢
          by_cases g5 : c = 41
          · rw [if_pos g5] at h ⊢
            by_cases g6 : o ≤ 1
            · rw [if_pos g6] at h ⊢; exact h
            · rw [if_neg g6] at h ⊢
              obtain ⟨q, hq, rfl⟩ := map_some h
              rw [textG_ext t _ _ q m hq]; rfl
          · rw [if_neg g5] at h ⊢
            obtain ⟨q, hq, rfl⟩ := map_some h
            rw [textG_ext t _ _ q m hq]; rfl
theorem hexF_ext : ∀ (l : List UInt8) (h : Int) (r : List UInt8 × Nat) (m : List UInt8), hexF h l = .inl r → hexF h (l ++ m) = .inl r
  | [], _, r, m, h => by rw [hexF] at h; cases h
  | c :: t, h, r, m, he => by
    rw [List.cons_append]
    rw [hexF] at he ⊢
    have step : ∀ (h' : Int) (f : List UInt8 → List UInt8), (match hexF h' t with | .inl r => (Sum.inl (f r.1, r.2 + 1) : (List UInt8 × Nat) ⊕ Int) | .inr e => .inr e) = .inl r →
        (match hexF h' (t ++ m) with | .inl r => (Sum.inl (f r.1, r.2 + 1) : (List UInt8 × Nat) ⊕ Int) | .inr e => .inr e) = .inl r := by
      intro h' f hh
      cases hq : hexF h' t with
      | inr e => rw [hq] at hh; cases hh
      | inl q =>
        rw [hq] at hh
        cases hh
        rw [hexF_ext t h' q m hq]
    by_cases g1 : c = 62
    · rw [if_pos g1] at he ⊢; exact he
    · rw [if_neg g1] at he ⊢
      by_cases g2 : white c = true
      · rw [if_pos g2] at he ⊢
        exact step h (fun x => x) he
      · rw [if_neg g2] at he ⊢
        by_cases g3 : digit c < 0
        · rw [if_pos g3] at he; cases he
        · rw [if_neg g3] at he ⊢
          by_cases g4 : h < 0
          · rw [if_pos g4] at he ⊢
            exact step (digit c) (fun x => x) he
          · rw [if_neg g4] at he ⊢
            exact step (-1) (fun x => byte h (digit c) :: x) he
/-- m goes on with no regular byte. -/
def stops (m : List UInt8) : Prop := ∀ c t, m = c :: t → regular c = false
theorem runF_stop : ∀ (l m : List UInt8), l.all regular = true → stops m → runF (l ++ m) = l.length
  | [], [], _, _ => rfl
  | [], c :: t, _, h => by rw [List.nil_append, runF, if_neg (by rw [h c t rfl]; decide)]; rfl
  | c :: l, m, h, hm => by
    simp only [List.all_cons, Bool.and_eq_true] at h
    rw [List.cons_append, runF, if_pos h.1, runF_stop l m h.2 hm, List.length_cons]; omega
theorem runF_all {l : List UInt8} (h : runF l = l.length) : l.all regular = true := by
  have := (runF_take l).1
  rwa [h, List.take_length] at this
theorem lastC_all {l : List UInt8} (h : l ≠ []) (hr : l.all regular = true) : regular (Pl.lastC l) = true := by
  have hg := Pl.last_get l h
  exact List.all_eq_true.1 hr _ (List.mem_of_getElem? hg)
/-- A string that is one token. -/
def Single (u : List UInt8) (x : Tok) : Prop := next u 0 = (x, 0) ∧ x.k ≠ 0 ∧ x.a = 0 ∧ x.t = u.length
theorem single_head {u : List UInt8} {x : Tok} (h : Single u x) : ∃ c t, u = c :: t ∧ c ≠ 37 ∧ white c = false ∧ token u 0 = (x, 0) := by
  obtain ⟨hn, hk, ha, ht⟩ := h
  have hb := next_bd (s := u) (i := 0) (by rw [hn]) (by rw [hn]; exact hk)
  rw [hn] at hb
  obtain ⟨-, -, h1, h2, h3⟩ := hb
  have hsk : skip u 0 = 0 := by
    simp only [Int.toNat_zero] at h1; omega
  cases u with
  | nil => simp at ht h2; omega
  | cons c t =>
    have hs : skipF false (c :: t) = 0 := by unfold skip at hsk; rw [List.drop_zero] at hsk; omega
    obtain ⟨h37, hw⟩ := stop_head hs
    refine ⟨c, t, rfl, h37, hw, ?_⟩
    rw [← hn, next_open c t ⟨h37, hw⟩]
/-- The token of u, where u stands within a longer string. -/
theorem token_ext {u : List UInt8} {x : Tok} (pre m : List UInt8) (h : Single u x) (hm : (regular (Pl.lastC u) || decide (Pl.lastC u = 47)) = true → stops m) :
    token (pre ++ (u ++ m)) pre.length = ({ x with a := pre.length, t := pre.length + u.length }, 0) := by
  obtain ⟨c, t, rfl, h37, hw, hT⟩ := single_head h
  obtain ⟨-, hk, hA, hL⟩ := h
  have hd : (pre ++ (c :: t ++ m)).drop pre.length = c :: (t ++ m) := by rw [List.drop_left]; rfl
  have hd1 : (pre ++ (c :: t ++ m)).drop (pre.length + 1) = t ++ m := by rw [← List.drop_drop, hd]; rfl
  have hTu : token (c :: t) 0 = if c = 91 ∨ c = 93 ∨ c = 123 ∨ c = 125 then mark (c :: t) 0 1
    else if c = 60 then (if t.head? = some c then mark (c :: t) 0 2 else hex (c :: t) 0)
    else if c = 62 then (if t.head? = some c then mark (c :: t) 0 2 else refused 3)
    else if c = 47 then name (c :: t) 0
    else if c = 40 then text (c :: t) 0
    else if c = 41 then refused 3
    else word (c :: t) 0 := by rw [token, List.drop_zero]
  have hTS : token (pre ++ (c :: t ++ m)) pre.length = if c = 91 ∨ c = 93 ∨ c = 123 ∨ c = 125 then mark (pre ++ (c :: t ++ m)) pre.length 1
    else if c = 60 then (if (t ++ m).head? = some c then mark (pre ++ (c :: t ++ m)) pre.length 2 else hex (pre ++ (c :: t ++ m)) pre.length)
    else if c = 62 then (if (t ++ m).head? = some c then mark (pre ++ (c :: t ++ m)) pre.length 2 else refused 3)
    else if c = 47 then name (pre ++ (c :: t ++ m)) pre.length
    else if c = 40 then text (pre ++ (c :: t ++ m)) pre.length
    else if c = 41 then refused 3
    else word (pre ++ (c :: t ++ m)) pre.length := by rw [token, hd]
  rw [hTu] at hT
  rw [hTS]
  have cutS : ∀ n : Nat, n ≤ (c :: t).length → cut (pre ++ (c :: t ++ m)) pre.length (pre.length + n) = (c :: t).take n := by
    intro n hn
    unfold cut
    rw [hd, Nat.add_sub_cancel_left]
    show ((c :: t) ++ m).take n = _
    rw [List.take_append_of_le_length hn]
  have mk : ∀ n : Nat, mark (c :: t) 0 n = (x, 0) → mark (pre ++ (c :: t ++ m)) pre.length n = ({ x with a := pre.length, t := pre.length + (c :: t).length }, 0) := by
    intro n hn
    unfold mark at hn ⊢
    have hx := (Prod.ext_iff.1 hn).1
    simp only at hx
    have hn' : n = (c :: t).length := by rw [← hx] at hL; simp only at hL; omega
    rw [cutS n (by omega), ← hx]
    unfold cut
    rw [List.drop_zero]
    simp only [Prod.mk.injEq, Tok.mk.injEq, and_true, true_and]
    refine ⟨by omega, ?_⟩
    congr 1
    omega
  by_cases g0 : c = 91 ∨ c = 93 ∨ c = 123 ∨ c = 125
  · rw [if_pos g0] at hT ⊢
    exact mk 1 hT
  rw [if_neg g0] at hT ⊢
  by_cases g1 : c = 60
  · rw [if_pos g1] at hT ⊢
    by_cases g : t.head? = some c
    · rw [if_pos g] at hT
      have htn : t ≠ [] := by intro e; rw [e] at g; cases g
      rw [if_pos (by rw [head_app htn]; exact g)]
      exact mk 2 hT
    · rw [if_neg g] at hT
      unfold hex at hT
      rw [show (c :: t).drop (0 + 1) = t from rfl] at hT
      cases hx : hexF (-1) t with
      | inr e => rw [hx] at hT; simp only [refused] at hT; have := (Prod.ext_iff.1 hT).1; simp only at this; rw [← this] at hk; exact absurd rfl hk
      | inl r =>
        rw [hx] at hT
        simp only at hT
        have htn : t ≠ [] := by intro e; subst e; rw [hexF] at hx; cases hx
        rw [if_neg (by rw [head_app htn]; exact g)]
        unfold hex
        rw [hd1, hexF_ext t _ r m hx]
        simp only
        have ht := told_ok (by rw [hT])
        rw [ht] at hT
        have hx' := (Prod.ext_iff.1 hT).1
        simp only at hx'
        unfold told at ht ⊢
        by_cases hl : (32767 : Int) < (r.1.length : Int)
        · rw [if_pos hl] at ht; cases ht
        · rw [if_neg hl, ← hx']
          rw [← hx'] at hL
          simp only at hL
          simp only [Prod.mk.injEq, Tok.mk.injEq, and_true, true_and]
          omega
  rw [if_neg g1] at hT ⊢
  by_cases g2 : c = 62
  · rw [if_pos g2] at hT ⊢
    by_cases g : t.head? = some c
    · rw [if_pos g] at hT
      have htn : t ≠ [] := by intro e; rw [e] at g; cases g
      rw [if_pos (by rw [head_app htn]; exact g)]
      exact mk 2 hT
    · rw [if_neg g] at hT
      simp only [refused] at hT; have := (Prod.ext_iff.1 hT).1; simp only at this; rw [← this] at hk; exact absurd rfl hk
  rw [if_neg g2] at hT ⊢
  by_cases g3 : c = 47
  · rw [if_pos g3] at hT ⊢
    unfold name at hT ⊢
    have hru : run (c :: t) (0 + 1) = 1 + runF t := rfl
    rw [hru] at hT
    have hrS : run (pre ++ (c :: t ++ m)) (pre.length + 1) = pre.length + 1 + runF (t ++ m) := by unfold run; rw [hd1]
    cases hx : nameF (cut (c :: t) (0 + 1) (1 + runF t)) with
    | none => rw [hx] at hT; simp only [refused] at hT; have := (Prod.ext_iff.1 hT).1; simp only at this; rw [← this] at hk; exact absurd rfl hk
    | some y =>
      rw [hx] at hT
      simp only at hT
      have ht := told_ok (by rw [hT])
      rw [ht] at hT
      have hx' := (Prod.ext_iff.1 hT).1
      simp only at hx'
      have hrl : runF t = t.length := by rw [← hx'] at hL; simp only [List.length_cons] at hL; omega
      have hall := runF_all hrl
      have hst : stops m := by
        refine hm ?_
        cases t with
        | nil => rw [g3]; decide
        | cons d t =>
          have : Pl.lastC (c :: d :: t) = Pl.lastC (d :: t) := Pl.lastC_append [c] (d :: t) (by simp)
          rw [this, lastC_all (by simp) hall]; rfl
      rw [hrS, runF_stop t m hall hst]
      have hc2 : cut (pre ++ (c :: t ++ m)) (pre.length + 1) (pre.length + 1 + t.length) = t := by
        unfold cut
        rw [hd1, Nat.add_sub_cancel_left, List.take_left]
      have hc1 : cut (c :: t) (0 + 1) (1 + runF t) = t := by
        unfold cut
        rw [hrl, show 1 + t.length - (0 + 1) = t.length by omega]
        exact List.take_length
      rw [hc1] at hx
      rw [hc2, hx]
      simp only
      unfold told at ht ⊢
      by_cases hl : (127 : Int) < (y.length : Int)
      · rw [if_pos hl] at ht; cases ht
      · rw [if_neg hl, ← hx']
        simp only [Prod.mk.injEq, Tok.mk.injEq, and_true, true_and, List.length_cons]
        omega
  rw [if_neg g3] at hT ⊢
  by_cases g4 : c = 40
  · rw [if_pos g4] at hT ⊢
    unfold text at hT
    rw [show (c :: t).drop (0 + 1) = t from rfl] at hT
    cases hx : textG 0 1 t with
    | none => rw [hx] at hT; simp only [refused] at hT; have := (Prod.ext_iff.1 hT).1; simp only at this; rw [← this] at hk; exact absurd rfl hk
    | some r =>
      rw [hx] at hT
      simp only at hT
      unfold text
      rw [hd1, textG_ext t _ _ r m hx]
      simp only
      have ht := told_ok (by rw [hT])
      rw [ht] at hT
      have hx' := (Prod.ext_iff.1 hT).1
      simp only at hx'
      unfold told at ht ⊢
      by_cases hl : (32767 : Int) < (r.1.length : Int)
      · rw [if_pos hl] at ht; cases ht
      · rw [if_neg hl, ← hx']
        rw [← hx'] at hL
        simp only at hL
        simp only [Prod.mk.injEq, Tok.mk.injEq, and_true, true_and]
        omega
  rw [if_neg g4] at hT ⊢
  by_cases g5 : c = 41
  · rw [if_pos g5] at hT
    simp only [refused] at hT; have := (Prod.ext_iff.1 hT).1; simp only at this; rw [← this] at hk; exact absurd rfl hk
  rw [if_neg g5] at hT ⊢
  unfold word at hT ⊢
  have hwk := wordT_ok (by rw [hT])
  have hru : run (c :: t) 0 = runF (c :: t) := by unfold run; rw [List.drop_zero, Nat.zero_add]
  rw [hru] at hT hwk
  have hrl : runF (c :: t) = (c :: t).length := by
    have := hwk.2.2
    rw [hT] at this
    simp only at this
    omega
  have hall := runF_all hrl
  have hst : stops m := hm (by rw [lastC_all (by simp) hall]; rfl)
  have hrS : run (pre ++ (c :: t ++ m)) pre.length = pre.length + (c :: t).length := by
    unfold run
    rw [hd]
    show _ + runF ((c :: t) ++ m) = _
    rw [runF_stop _ _ hall hst]
  rw [hrl, cut_full] at hT
  rw [hrS, cutS _ (Nat.le_refl _), List.take_length]
  rw [wordT_move (by rw [hT]) (pre.length : Int) ((pre.length + (c :: t).length : Nat) : Int), hT]
  simp only [Prod.mk.injEq, Tok.mk.injEq, and_true, true_and]
  omega
/- JOINS -/
def gap (last : UInt8) (p : List UInt8) : List UInt8 := if (regular last || decide (last = 47)) && (p.head?.any regular) then [32] else []
def joinR : UInt8 → List (List UInt8) → List UInt8
  | _, [] => []
  | last, p :: ps => gap last p ++ (p ++ joinR (Pl.lastC p) ps)
theorem gap_cons (last c : UInt8) (t : List UInt8) : gap last (c :: t) = if ((regular last || decide (last = 47)) && regular c) = true then [32] else [] := rfl
theorem glue_gap (acc p : List UInt8) (h : p ≠ []) : Pl.glue acc p = acc ++ (gap (Pl.lastC acc) p ++ p) := by
  cases p with
  | nil => exact absurd rfl h
  | cons c t =>
    rw [gap_cons, Pl.glue]
    by_cases hc : ((regular (Pl.lastC acc) || decide (Pl.lastC acc = 47)) && regular c) = true
    · rw [if_pos hc, if_pos hc]; simp
    · rw [if_neg hc, if_neg hc]; simp
theorem foldl_joinR : ∀ (ps : List (List UInt8)) (acc : List UInt8), (∀ p ∈ ps, p ≠ []) → ps.foldl Pl.glue acc = acc ++ joinR (Pl.lastC acc) ps
  | [], acc, _ => by simp [joinR]
  | p :: ps, acc, h => by
    have hp := h p (List.mem_cons_self ..)
    rw [List.foldl_cons, foldl_joinR ps _ (fun q hq => h q (List.mem_cons_of_mem _ hq)), Pl.lastC_glue _ _ hp, glue_gap _ _ hp, joinR]
    simp
theorem join_joinR (ps : List (List UInt8)) (h : ∀ p ∈ ps, p ≠ []) : Pl.join ps = joinR 32 ps := by
  rw [Pl.join, foldl_joinR ps [] h]; rfl
/-- The tokens and the parts fit. -/
def Fits (s : List UInt8) : Int → List Tok → List (List UInt8) → Prop
  | a, [], [] => a = s.length
  | a, x :: l, p :: ps => 0 ≤ a ∧ (x.a = a ∨ (x.a = a + 1 ∧ x.a ≤ s.length ∧ cut s a.toNat x.a.toNat = [32])) ∧ x.a ≤ x.t ∧ x.t ≤ s.length ∧ cut s x.a.toNat x.t.toNat = p ∧ Fits s x.t l ps
  | _, _, _ => False
theorem stops_join (last : UInt8) (ps : List (List UInt8)) (h : ∀ p ∈ ps, p ≠ []) (hl : (regular last || decide (last = 47)) = true) : stops (joinR last ps) := by
  intro c t he
  cases ps with
  | nil => cases he
  | cons p ps =>
    have hp := h p (List.mem_cons_self ..)
    cases p with
    | nil => exact absurd rfl hp
    | cons d p =>
      rw [joinR, gap_cons, hl, Bool.true_and] at he
      by_cases hd : regular d = true
      · rw [if_pos hd] at he
        injection he with e1 _
        subst e1; decide
      · rw [if_neg hd] at he
        injection he with e1 _
        subst e1; simpa using hd
theorem joins_chain : ∀ (ps : List (List UInt8)) (pre : List UInt8) (last : UInt8), (∀ p ∈ ps, ∃ x, Single p x) → ∃ l : List Tok, Chain (pre ++ joinR last ps) pre.length l ∧ l.length = ps.length ∧ Fits (pre ++ joinR last ps) pre.length l ps
  | [], pre, last, _ => by
    refine ⟨[], ?_, rfl, ?_⟩
    · simp only [joinR, List.append_nil, Chain]
      refine ⟨by omega, by omega, ?_⟩
      unfold skip
      rw [Int.toNat_natCast, List.drop_length]; rfl
    · simp [joinR, Fits]
  | p :: ps, pre, last, h => by
    obtain ⟨x, hx⟩ := h p (List.mem_cons_self ..)
    have hne : ∀ q ∈ ps, q ≠ [] := by
      intro q hq
      obtain ⟨y, hy⟩ := h q (List.mem_cons_of_mem _ hq)
      obtain ⟨c, t, e, _⟩ := single_head hy
      rw [e]; simp
    obtain ⟨c, t, hp, h37, hw, _⟩ := single_head hx
    have hS : pre ++ joinR last (p :: ps) = (pre ++ gap last p) ++ (p ++ joinR (Pl.lastC p) ps) := by rw [joinR]; simp
    have hS2 : pre ++ joinR last (p :: ps) = (pre ++ gap last p ++ p) ++ joinR (Pl.lastC p) ps := by rw [joinR]; simp
    have hT := token_ext (pre ++ gap last p) (joinR (Pl.lastC p) ps) hx (fun hl => stops_join _ ps hne hl)
    rw [← hS] at hT
    obtain ⟨l, hc, hlen, hf⟩ := joins_chain ps (pre ++ gap last p ++ p) (Pl.lastC p) (fun q hq => h q (List.mem_cons_of_mem _ hq))
    rw [← hS2] at hc hf
    have hgap : gap last p = [] ∨ gap last p = [32] := by unfold gap; split <;> simp
    have hsk : skip (pre ++ joinR last (p :: ps)) pre.length = (pre ++ gap last p).length := by
      unfold skip
      rw [joinR, List.drop_left, List.length_append]
      congr 1
      rcases hgap with e | e
      · rw [e, List.nil_append, hp, List.cons_append, skipF, if_neg h37, if_neg (by rw [hw]; decide)]; rfl
      · rw [e, hp, List.cons_append, List.nil_append, List.cons_append, skipF, if_neg (by decide), if_pos (by decide), skipF, if_neg h37, if_neg (by rw [hw]; decide)]; rfl
    have hlp : (pre ++ joinR last (p :: ps)).length = pre.length + (gap last p).length + p.length + (joinR (Pl.lastC p) ps).length := by
      rw [hS2]; simp; omega
    have hlj : (joinR last (p :: ps)).length = (gap last p).length + p.length + (joinR (Pl.lastC p) ps).length := by rw [joinR]; simp; omega
    have hn : next (pre ++ joinR last (p :: ps)) pre.length = ({ x with a := (pre ++ gap last p).length, t := (pre ++ gap last p).length + p.length }, 0) := by
      unfold next
      rw [if_neg (by omega), Int.toNat_natCast, hsk, hT]
    have hto : (((pre ++ gap last p).length : Nat) : Int) + (p.length : Int) = ((pre ++ gap last p ++ p).length : Nat) := by simp; omega
    refine ⟨{ x with a := (pre ++ gap last p).length, t := (pre ++ gap last p).length + p.length } :: l, ⟨by omega, by omega, hn, hx.2.1, ?_⟩, by simp [hlen], by omega, ?_, by simp only; omega, by simp only [List.length_append]; omega, ?_, ?_⟩
    · simp only; rw [hto]; exact hc
    · simp only
      rcases hgap with e | e
      · left; rw [e]; simp
      · right
        rw [e]
        refine ⟨by simp, by rw [e, List.length_singleton] at hlj; simp only [List.length_append, List.length_singleton]; omega, ?_⟩
        unfold cut
        rw [joinR, e, Int.toNat_natCast, Int.toNat_natCast, List.drop_left, List.length_append, Nat.add_sub_cancel_left]; rfl
    · simp only
      rw [hto, Int.toNat_natCast, Int.toNat_natCast]
      unfold cut
      rw [hS, List.drop_left, show (pre ++ gap last p ++ p).length = (pre ++ gap last p).length + p.length from List.length_append, Nat.add_sub_cancel_left, List.take_left]
    · simp only; rw [hto]; exact hf
theorem chain_upto (s : List UInt8) : ∀ (l : List Tok) (a : Int) (m : Nat), Chain s a l → l.length < m → upto s m a = .inl l
  | [], a, 0, _, h => by simp at h
  | [], a, m + 1, hc, _ => by
    obtain ⟨h0, h1, h2⟩ := hc
    have hn : next s a = (⟨0, s.length, s.length, 0, []⟩, 0) := by
      unfold next
      rw [if_neg (by omega), h2, token, List.drop_length]
    rw [upto, hn, if_neg (by simp), if_pos rfl]
  | x :: l, a, 0, _, h => by simp at h
  | x :: l, a, m + 1, hc, h => by
    obtain ⟨h0, h1, hn, hk, hc⟩ := hc
    rw [upto, hn, if_neg (by simp), if_neg hk, chain_upto s l x.t m hc (by simpa using h)]
theorem joins_upto (ps : List (List UInt8)) (m : Nat) (hm : ps.length < m) (h : ∀ p ∈ ps, ∃ x, Single p x) : ∃ l : List Tok, upto (Pl.join ps) m 0 = .inl l ∧ l.length = ps.length ∧ Fits (Pl.join ps) 0 l ps := by
  have hne : ∀ q ∈ ps, q ≠ [] := by
    intro q hq
    obtain ⟨y, hy⟩ := h q hq
    obtain ⟨c, t, e, _⟩ := single_head hy
    rw [e]; simp
  obtain ⟨l, h1, h2, h3⟩ := joins_chain ps [] 32 h
  rw [List.nil_append, ← join_joinR ps hne] at h1 h3
  exact ⟨l, chain_upto _ l 0 m h1 (by omega), h2, h3⟩
end Lx
end Go.Proofs.YtgffladaenimmaaGreatDoor
/- Plain mathematics of layer 17: places of parts, file headers, file ends; no program in sight. -/
namespace Go.Proofs.YtgffladaenimmaaGreatDoor
set_option linter.unusedVariables false
set_option linter.unusedSimpArgs false
set_option linter.defProp false
open Go
namespace Hd
open Oc Lx
/- PLACES -/
abbrev occ (s p : List UInt8) (i : Nat) : Bool := Lib.occAt s p i
theorem occ_room {s p : List UInt8} {i : Nat} (hi : i ≤ s.length) (h : occ s p i = true) : i + p.length ≤ s.length := by
  unfold occ Lib.occAt at h
  have := (List.isPrefixOf_iff_prefix.1 h).length_le
  rw [List.length_drop] at this
  omega
theorem occ_past {s p : List UInt8} {i : Nat} (hp : p ≠ []) (h : s.length < i + p.length) : occ s p i = false := by
  cases hb : occ s p i with
  | false => rfl
  | true =>
    unfold occ Lib.occAt at hb
    have := (List.isPrefixOf_iff_prefix.1 hb).length_le
    rw [List.length_drop] at this
    have hp0 : 0 < p.length := List.length_pos_iff.2 hp
    omega
def find (s p : List UInt8) (k : Int) : Int :=
  if p = [] ∨ (s.length : Int) < max k 0 then -1 else if Lib.index (s.drop (max k 0).toNat) p < 0 then -1 else max k 0 + Lib.index (s.drop (max k 0).toNat) p
theorem occ_drop (s p : List UInt8) (a i : Nat) : occ (s.drop a) p i = occ s p (a + i) := by
  unfold occ Lib.occAt
  rw [List.drop_drop]
theorem find_hit {s p : List UInt8} {k : Int} {i : Nat} (hp : p ≠ []) (hk : max k 0 ≤ (i : Int)) (hi : i ≤ s.length) (ho : occ s p i = true) (hn : ∀ j : Nat, max k 0 ≤ (j : Int) → j < i → occ s p j = false) : find s p k = i := by
  unfold find
  rw [if_neg (by rintro (h | h) <;> first | exact hp h | omega)]
  obtain ⟨a, ha⟩ : ∃ a : Nat, max k 0 = (a : Int) := ⟨(max k 0).toNat, by omega⟩
  rw [ha, Int.toNat_natCast]
  rw [ha] at hk hn
  have hx : Lib.index (s.drop a) p = ((i - a : Nat) : Int) := by
    refine Lib.index_first (by rw [List.length_drop]; omega) ?_ fun j hj => ?_
    · have := occ_drop s p a (i - a)
      rw [show a + (i - a) = i by omega, ho] at this
      exact this
    · have := occ_drop s p a j
      rw [hn (a + j) (by omega) (by omega)] at this
      exact this
  rw [hx, if_neg (by omega)]
  omega
theorem find_none {s p : List UInt8} {k : Int} (hn : ∀ j : Nat, max k 0 ≤ (j : Int) → j < s.length → occ s p j = false) : find s p k = -1 := by
  unfold find
  split
  · rfl
  · rename_i h
    have hp : p ≠ [] := fun e => h (.inl e)
    have hl : ¬ (s.length : Int) < max k 0 := fun e => h (.inr e)
    obtain ⟨a, ha⟩ : ∃ a : Nat, max k 0 = (a : Int) := ⟨(max k 0).toNat, by omega⟩
    rw [ha, Int.toNat_natCast]
    rw [ha] at hn hl
    have hx : Lib.index (s.drop a) p = -1 := by
      refine Lib.index_none fun j hj => ?_
      have := occ_drop s p a j
      rw [List.length_drop] at hj
      rcases Nat.lt_or_ge (a + j) s.length with h1 | h1
      · exact this.trans (hn (a + j) (by omega) h1)
      · exact this.trans (occ_past hp (by have : 0 < p.length := List.length_pos_iff.2 hp; omega))
    rw [hx, if_pos (by omega)]
/-- What 'find' says. -/
theorem find_spec (s p : List UInt8) (k : Int) (hp : p ≠ []) : (find s p k = -1 ∧ ∀ j : Nat, max k 0 ≤ (j : Int) → occ s p j = false) ∨
    ∃ i : Nat, find s p k = i ∧ max k 0 ≤ (i : Int) ∧ i + p.length ≤ s.length ∧ occ s p i = true ∧ ∀ j : Nat, max k 0 ≤ (j : Int) → j < i → occ s p j = false := by
  obtain ⟨a, ha⟩ : ∃ a : Nat, max k 0 = (a : Int) := ⟨(max k 0).toNat, by omega⟩
  rw [ha]
  have hp0 : 0 < p.length := List.length_pos_iff.2 hp
  rcases Nat.lt_or_ge s.length a with h | h
  · left
    refine ⟨by unfold find; rw [if_pos (.inr (by omega))], fun j hj => occ_past hp (by omega)⟩
  · have hf : find s p k = if Lib.index (s.drop a) p < 0 then -1 else (a : Int) + Lib.index (s.drop a) p := by
      unfold find
      rw [if_neg (by rintro (e | e) <;> first | exact hp e | omega), ha, Int.toNat_natCast]
    rcases Lib.index_spec (s.drop a) p with ⟨e, hn⟩ | ⟨i, e, hi, ho, hn⟩
    · left
      refine ⟨by rw [hf, e, if_pos (by omega)], fun j hj => ?_⟩
      rcases Nat.lt_or_ge s.length j with h1 | h1
      · exact occ_past hp (by omega)
      · have := hn (j - a) (by rw [List.length_drop]; omega)
        have e2 := occ_drop s p a (j - a)
        rw [show a + (j - a) = j by omega] at e2
        rw [← e2]; exact this
    · right
      have e2 := occ_drop s p a i
      refine ⟨a + i, by rw [hf, e, if_neg (by omega)]; omega, by omega, ?_, by rw [← e2]; exact ho, fun j hj hji => ?_⟩
      · rw [List.length_drop] at hi
        exact occ_room (by omega) (by rw [← e2]; exact ho)
      · have e3 := occ_drop s p a (j - a)
        rw [show a + (j - a) = j by omega] at e3
        rw [← e3]
        exact hn (j - a) (by omega)
def last (s p : List UInt8) : Int := if p = [] then -1 else Lib.lastIndex s p
theorem lastOcc_more (s p : List UInt8) (a : Nat) (h : ∀ j, a ≤ j → occ s p j = false) : ∀ k, a ≤ k → Lib.lastOcc s p k = Lib.lastOcc s p a
  | 0, hk => by rw [show a = 0 by omega]
  | k + 1, hk => by
    rcases Nat.lt_or_ge k a with h1 | h1
    · rw [show k + 1 = a by omega]
    · rw [Lib.lastOcc_miss s p k (h k h1), lastOcc_more s p a h k h1]
theorem last_occ {s p : List UInt8} (hp : p ≠ []) : last s p = Lib.lastOcc s p s.length := by
  have hp0 : 0 < p.length := List.length_pos_iff.2 hp
  unfold last Lib.lastIndex
  rw [if_neg hp]
  split
  · rename_i h
    exact (lastOcc_more s p (s.length - p.length + 1) (fun j hj => occ_past hp (by omega)) s.length (by omega)).symm
  · rename_i h
    rw [lastOcc_more s p 0 (fun j _ => occ_past hp (by omega)) s.length (by omega)]; rfl
/- HEADERS -/
def mark : List UInt8 := [37, 80, 68, 70, 45]
def startx : List UInt8 := [115, 116, 97, 114, 116, 120, 114, 101, 102]
def eof : List UInt8 := [37, 37, 69, 79, 70]
def version (s : List UInt8) : Int × Int × Int :=
  if find s mark 0 < 0 ∨ 1016 < find s mark 0 ∨ (s.length : Int) < find s mark 0 + 8 then (0, 0, 17)
  else if occ s [49, 46] (find s mark 0 + 5).toNat && dig (s.getD (find s mark 0 + 7).toNat 0) then (1, ((s.getD (find s mark 0 + 7).toNat 0).toNat : Int) - 48, 0)
  else (0, 0, 17)
def headTail : List UInt8 := [10, 37, 226, 227, 207, 211, 10]
def text (m : Int) : List UInt8 × Int := if m < 0 ∨ 9 < m then ([], 2) else (mark ++ [49, 46] ++ [UInt8.ofNat (48 + m.toNat)] ++ headTail, 0)
def start (s : List UInt8) : Int × Int :=
  if last s startx < 0 then (0, 18)
  else if (next s (last s startx + 9)).2 ≠ 0 ∨ (next s (last s startx + 9)).1.k ≠ 1 ∨ (next s (last s startx + 9)).1.n < 0 ∨ (s.length : Int) ≤ (next s (last s startx + 9)).1.n then (0, 18)
  else ((next s (last s startx + 9)).1.n, 0)
def tail (n : Int) : List UInt8 := if n < 0 ∨ 2147483647 < n then [] else startx ++ [10] ++ Lib.itoa n ++ [10] ++ eof ++ [10]
/- ENDS -/
/-- An end-of-file mark stands at i, at the start of a line. -/
def endAt (s : List UInt8) (i : Nat) : Bool := occ s eof i && (decide (i = 0) || eol (s.getD (i - 1) 0))
def endsTo (s : List UInt8) (k : Nat) : List Nat := ((List.range k).filter (endAt s)).map fun i => line s (i + 5)
def ends (s : List UInt8) : List Nat := endsTo s s.length
theorem endsTo_succ (s : List UInt8) (k : Nat) : endsTo s (k + 1) = endsTo s k ++ (if endAt s k then [line s (k + 5)] else []) := by
  unfold endsTo
  rw [List.range_succ, List.filter_append, List.map_append]
  congr 1
  by_cases h : endAt s k = true
  · simp [h]
  · simp [h]
theorem endsTo_skip (s : List UInt8) : ∀ (b a : Nat), a ≤ b → (∀ j, a ≤ j → j < b → endAt s j = false) → endsTo s b = endsTo s a
  | 0, a, h, _ => by rw [show a = 0 by omega]
  | b + 1, a, h, hn => by
    rcases Nat.lt_or_ge b a with h1 | h1
    · rw [show b + 1 = a by omega]
    · rw [endsTo_succ, hn b h1 (by omega), endsTo_skip s b a h1 (fun j h2 h3 => hn j h2 (by omega))]; simp
theorem endsTo_len (s : List UInt8) : ∀ k, (endsTo s k).length ≤ k
  | 0 => by simp [endsTo]
  | k + 1 => by
    have := endsTo_len s k
    rw [endsTo_succ, List.length_append]
    split <;> simp <;> omega
end Hd
end Go.Proofs.YtgffladaenimmaaGreatDoor
/- Code in continuation form, by program (gen.py): 11 functions. -/
namespace Go.Proofs.YtgffladaenimmaaGreatDoor
set_option linter.unusedVariables false
set_option linter.unusedSimpArgs false
set_option linter.defProp false
set_option linter.unusedVariables false
set_option maxRecDepth 20000
open Eng

/- octet.Find -/
def S_octet_Find (t0 t1 t2 : Value) (w : World) (K : Ending → World → Prop) : Prop :=
 DoX Tryz.prog (mB .max #[3, 3] 3 #[false, true] #[t2, (.int .i64 0)]) w (pk K) fun t9 w =>
 DoX Tryz.prog (mEq .eql 9 (.tmp 10) (.const (.string ⟨#[]⟩)) t1 (.string ⟨#[]⟩)) w (pk K) fun t11 w =>
 GDo t11 false (fun E => E t9 w) w fun t13 w =>
 GDo t11 false (fun E => E t0 w) w fun t14 w =>
 GDo t11 false (fun E => DoX Tryz.prog (mB .len #[9] 3 #[false] #[t14]) w (pk K) E) w fun t15 w =>
 GDo t11 false (fun E => DoX Tryz.prog (mBin .gtr 3 t13 t15) w (pk K) E) w fun t16 w =>
 DoX Tryz.prog (mPick t11 (.bool true) t16) w (pk K) fun t17 w =>
 IfX t17 (K (.returned (.int .i64 (-1))) w) (DoX Tryz.prog (mSlice 9 t0 (some t9) none none) w (pk K) fun t20 w =>
 CallX Tryz.prog 74 #[t20, t1] w (pk K) fun t22 w =>
 DoX Tryz.prog (mBin .geq 3 t22 (.int .i64 0)) w (pk K) fun t24 w =>
 IfX t24 (DoX Tryz.prog (mBin .add 3 t9 t22) w (pk K) fun t27 w =>
 K (.returned t27) w) (K (.returned (.int .i64 (-1))) w))
theorem S_octet_Find_eq (t0 t1 t2 : Value) (w : World) (K : Ending → World → Prop) : wpX Tryz.prog 28 [] [] none (bodyOf Tryz.f37) (topQ Tryz.prog [.tmp 6] K) (startX [t0, t1, t2]) [] w = S_octet_Find t0 t1 t2 w K := by kernel_rfl
theorem S_octet_Find_ok {t0 t1 t2 : Value} {w : World} {K : Ending → World → Prop} (h : S_octet_Find t0 t1 t2 w K) : Calls Tryz.prog 37 #[t0, t1, t2] w K :=
  calls_of_wpX Tryz.func37 rfl rfl rfl rfl (Eq.mpr (S_octet_Find_eq t0 t1 t2 w K) h)

/- octet.Last -/
def S_octet_Last (t0 t1 : Value) (w : World) (K : Ending → World → Prop) : Prop :=
 DoX Tryz.prog (mEq .eql 9 (.tmp 5) (.const (.string ⟨#[]⟩)) t1 (.string ⟨#[]⟩)) w (pk K) fun t6 w =>
 IfX t6 (K (.returned (.int .i64 (-1))) w) (CallX Tryz.prog 77 #[t0, t1] w (pk K) fun t9 w =>
 K (.returned t9) w)
theorem S_octet_Last_eq (t0 t1 : Value) (w : World) (K : Ending → World → Prop) : wpX Tryz.prog 10 [] [] none (bodyOf Tryz.f43) (topQ Tryz.prog [.tmp 4] K) (startX [t0, t1]) [] w = S_octet_Last t0 t1 w K := by kernel_rfl
theorem S_octet_Last_ok {t0 t1 : Value} {w : World} {K : Ending → World → Prop} (h : S_octet_Last t0 t1 w K) : Calls Tryz.prog 43 #[t0, t1] w K :=
  calls_of_wpX Tryz.func43 rfl rfl rfl rfl (Eq.mpr (S_octet_Last_eq t0 t1 w K) h)

/- head.Version -/
def S_head_Version (t0 : Value) (w : World) (K : Ending → World → Prop) : Prop :=
 CallX Tryz.prog 37 #[t0, (.string ⟨#[37, 80, 68, 70, 45]⟩), (.int .i64 0)] w (pk K) fun t8 w =>
 DoX Tryz.prog (mBin .lss 3 t8 (.int .i64 0)) w (pk K) fun t10 w =>
 GDo t10 false (fun E => E t8 w) w fun t12 w =>
 GDo t10 false (fun E => DoX Tryz.prog (mBin .gtr 3 t12 (.int .i64 1016)) w (pk K) E) w fun t13 w =>
 DoX Tryz.prog (mPick t10 (.bool true) t13) w (pk K) fun t14 w =>
 GDo t14 false (fun E => E t0 w) w fun t16 w =>
 GDo t14 false (fun E => DoX Tryz.prog (mB .len #[9] 3 #[false] #[t16]) w (pk K) E) w fun t17 w =>
 GDo t14 false (fun E => E t8 w) w fun t18 w =>
 GDo t14 false (fun E => DoX Tryz.prog (mBin .add 3 t18 (.int .i64 5)) w (pk K) E) w fun t19 w =>
 GDo t14 false (fun E => DoX Tryz.prog (mBin .add 3 t19 (.int .i64 3)) w (pk K) E) w fun t20 w =>
 GDo t14 false (fun E => DoX Tryz.prog (mBin .lss 3 t17 t20) w (pk K) E) w fun t21 w =>
 DoX Tryz.prog (mPick t14 (.bool true) t21) w (pk K) fun t22 w =>
 IfX t22 (K (.returned (.tuple #[(.int .i64 0), (.int .i64 0), (.int .i64 17)])) w) (DoX Tryz.prog (mBin .add 3 t8 (.int .i64 5)) w (pk K) fun t25 w =>
 DoX Tryz.prog (mBin .add 3 t25 (.int .i64 2)) w (pk K) fun t26 w =>
 DoX Tryz.prog (mIx 9 t0 t26) w (pk K) fun t27 w =>
 CallX Tryz.prog 38 #[t27] w (pk K) fun t28 w =>
 DoX Tryz.prog (mBin .add 3 t8 (.int .i64 5)) w (pk K) fun t31 w =>
 CallX Tryz.prog 39 #[t0, (.string ⟨#[49, 46]⟩), t31] w (pk K) fun t32 w =>
 DoX Tryz.prog (mUn .not t32) w (pk K) fun t33 w =>
 GDo t33 false (fun E => E t28 w) w fun t35 w =>
 GDo t33 false (fun E => DoX Tryz.prog (mBin .lss 3 t35 (.int .i64 0)) w (pk K) E) w fun t36 w =>
 DoX Tryz.prog (mPick t33 (.bool true) t36) w (pk K) fun t37 w =>
 GDo t37 false (fun E => E t28 w) w fun t39 w =>
 GDo t37 false (fun E => DoX Tryz.prog (mBin .gtr 3 t39 (.int .i64 9)) w (pk K) E) w fun t40 w =>
 DoX Tryz.prog (mPick t37 (.bool true) t40) w (pk K) fun t41 w =>
 IfX t41 (K (.returned (.tuple #[(.int .i64 0), (.int .i64 0), (.int .i64 17)])) w) (K (.returned (.tuple #[(.int .i64 1), t28, (.int .i64 0)])) w))
theorem S_head_Version_eq (t0 : Value) (w : World) (K : Ending → World → Prop) : wpX Tryz.prog 43 [] [] none (bodyOf Tryz.f10) (topQ Tryz.prog [.tmp 2, .tmp 3, .tmp 4] K) (startX [t0]) [] w = S_head_Version t0 w K := by kernel_rfl
theorem S_head_Version_ok {t0 : Value} {w : World} {K : Ending → World → Prop} (h : S_head_Version t0 w K) : Calls Tryz.prog 10 #[t0] w K :=
  calls_of_wpX Tryz.func10 rfl rfl rfl rfl (Eq.mpr (S_head_Version_eq t0 w K) h)

/- head.Text -/
def S_head_Text (t0 : Value) (w : World) (K : Ending → World → Prop) : Prop :=
 DoX Tryz.prog (mBin .lss 3 t0 (.int .i64 0)) w (pk K) fun t5 w =>
 GDo t5 false (fun E => E t0 w) w fun t7 w =>
 GDo t5 false (fun E => DoX Tryz.prog (mBin .gtr 3 t7 (.int .i64 9)) w (pk K) E) w fun t8 w =>
 DoX Tryz.prog (mPick t5 (.bool true) t8) w (pk K) fun t9 w =>
 IfX t9 (K (.returned (.tuple #[(.string ⟨#[]⟩), (.int .i64 2)])) w) (CallX Tryz.prog 42 #[t0, (.int .i64 1)] w (pk K) fun t11 w =>
 DoX Tryz.prog (mBin .add 9 (.string ⟨#[37, 80, 68, 70, 45, 49, 46]⟩) t11) w (pk K) fun t12 w =>
 DoX Tryz.prog (mBin .add 9 t12 (.string ⟨#[10, 37, 226, 227, 207, 211, 10]⟩)) w (pk K) fun t13 w =>
 K (.returned (.tuple #[t13, (.int .i64 0)])) w)
theorem S_head_Text_eq (t0 : Value) (w : World) (K : Ending → World → Prop) : wpX Tryz.prog 14 [] [] none (bodyOf Tryz.f12) (topQ Tryz.prog [.tmp 2, .tmp 3] K) (startX [t0]) [] w = S_head_Text t0 w K := by kernel_rfl
theorem S_head_Text_ok {t0 : Value} {w : World} {K : Ending → World → Prop} (h : S_head_Text t0 w K) : Calls Tryz.prog 12 #[t0] w K :=
  calls_of_wpX Tryz.func12 rfl rfl rfl rfl (Eq.mpr (S_head_Text_eq t0 w K) h)

/- head.Start -/
def S_head_Start (t0 : Value) (w : World) (K : Ending → World → Prop) : Prop :=
 CallX Tryz.prog 43 #[t0, (.string ⟨#[115, 116, 97, 114, 116, 120, 114, 101, 102]⟩)] w (pk K) fun t8 w =>
 DoX Tryz.prog (mBin .lss 3 t8 (.int .i64 0)) w (pk K) fun t10 w =>
 IfX t10 (K (.returned (.tuple #[(.int .i64 0), (.int .i64 18)])) w) (DoX Tryz.prog (mBin .add 3 t8 (.int .i64 9)) w (pk K) fun t14 w =>
 CallX Tryz.prog 44 #[t0, t14] w (pk K) fun t15 w =>
 DoX Tryz.prog (mExt t15 0) w (pk K) fun t16 w =>
 DoX Tryz.prog (mExt t15 1) w (pk K) fun t17 w =>
 DoX Tryz.prog (mAlloc 63) w (pk K) fun t5 w =>
 DoX Tryz.prog (mStore 63 t5 t16) w (pk K) fun _ w =>
 DoX Tryz.prog (mEq .neq 23 (.tmp 18) (.const (.int .i64 0)) t17 (.int .i64 0)) w (pk K) fun t19 w =>
 GDo t19 false (fun E => DoX Tryz.prog (mFA 63 t5 0) w (pk K) E) w fun t21 w =>
 GDo t19 false (fun E => DoX Tryz.prog (mLoad 3 t21) w (pk K) E) w fun t22 w =>
 GDo t19 false (fun E => DoX Tryz.prog (mEq .neq 3 (.tmp 22) (.const (.int .i64 1)) t22 (.int .i64 1)) w (pk K) E) w fun t23 w =>
 DoX Tryz.prog (mPick t19 (.bool true) t23) w (pk K) fun t24 w =>
 GDo t24 false (fun E => DoX Tryz.prog (mFA 63 t5 3) w (pk K) E) w fun t26 w =>
 GDo t24 false (fun E => DoX Tryz.prog (mLoad 2 t26) w (pk K) E) w fun t27 w =>
 GDo t24 false (fun E => DoX Tryz.prog (mBin .lss 2 t27 (.int .i64 0)) w (pk K) E) w fun t28 w =>
 DoX Tryz.prog (mPick t24 (.bool true) t28) w (pk K) fun t29 w =>
 GDo t29 false (fun E => DoX Tryz.prog (mFA 63 t5 3) w (pk K) E) w fun t31 w =>
 GDo t29 false (fun E => DoX Tryz.prog (mLoad 2 t31) w (pk K) E) w fun t32 w =>
 GDo t29 false (fun E => E t0 w) w fun t33 w =>
 GDo t29 false (fun E => DoX Tryz.prog (mB .len #[9] 3 #[false] #[t33]) w (pk K) E) w fun t34 w =>
 GDo t29 false (fun E => DoX Tryz.prog (mBin .geq 2 t32 t34) w (pk K) E) w fun t35 w =>
 DoX Tryz.prog (mPick t29 (.bool true) t35) w (pk K) fun t36 w =>
 IfX t36 (K (.returned (.tuple #[(.int .i64 0), (.int .i64 18)])) w) (DoX Tryz.prog (mFA 63 t5 3) w (pk K) fun t37 w =>
 DoX Tryz.prog (mLoad 2 t37) w (pk K) fun t38 w =>
 K (.returned (.tuple #[t38, (.int .i64 0)])) w))
theorem S_head_Start_eq (t0 : Value) (w : World) (K : Ending → World → Prop) : wpX Tryz.prog 39 [] [] none (bodyOf Tryz.f14) (topQ Tryz.prog [.tmp 2, .tmp 3] K) (startX [t0]) [] w = S_head_Start t0 w K := by kernel_rfl
theorem S_head_Start_ok {t0 : Value} {w : World} {K : Ending → World → Prop} (h : S_head_Start t0 w K) : Calls Tryz.prog 14 #[t0] w K :=
  calls_of_wpX Tryz.func14 rfl rfl rfl rfl (Eq.mpr (S_head_Start_eq t0 w K) h)

/- head.Tail -/
def S_head_Tail (t0 : Value) (w : World) (K : Ending → World → Prop) : Prop :=
 CallX Tryz.prog 47 #[t0] w (pk K) fun t7 w =>
 DoX Tryz.prog (mExt t7 0) w (pk K) fun t8 w =>
 DoX Tryz.prog (mExt t7 1) w (pk K) fun t9 w =>
 DoX Tryz.prog (mBin .lss 3 t0 (.int .i64 0)) w (pk K) fun t11 w =>
 GDo t11 false (fun E => E t9 w) w fun t13 w =>
 GDo t11 false (fun E => DoX Tryz.prog (mEq .neq 23 (.tmp 13) (.const (.int .i64 0)) t13 (.int .i64 0)) w (pk K) E) w fun t14 w =>
 DoX Tryz.prog (mPick t11 (.bool true) t14) w (pk K) fun t15 w =>
 IfX t15 (K (.returned (.string ⟨#[]⟩)) w) (DoX Tryz.prog (mBin .add 9 (.string ⟨#[115, 116, 97, 114, 116, 120, 114, 101, 102, 10]⟩) t8) w (pk K) fun t17 w =>
 DoX Tryz.prog (mBin .add 9 t17 (.string ⟨#[10]⟩)) w (pk K) fun t18 w =>
 DoX Tryz.prog (mBin .add 9 t18 (.string ⟨#[37, 37, 69, 79, 70]⟩)) w (pk K) fun t19 w =>
 DoX Tryz.prog (mBin .add 9 t19 (.string ⟨#[10]⟩)) w (pk K) fun t20 w =>
 K (.returned t20) w)
theorem S_head_Tail_eq (t0 : Value) (w : World) (K : Ending → World → Prop) : wpX Tryz.prog 21 [] [] none (bodyOf Tryz.f16) (topQ Tryz.prog [.tmp 2] K) (startX [t0]) [] w = S_head_Tail t0 w K := by kernel_rfl
theorem S_head_Tail_ok {t0 : Value} {w : World} {K : Ending → World → Prop} (h : S_head_Tail t0 w K) : Calls Tryz.prog 16 #[t0] w K :=
  calls_of_wpX Tryz.func16 rfl rfl rfl rfl (Eq.mpr (S_head_Tail_eq t0 w K) h)

/- head.ends$1 -/
def S_head_ends_1_1 (t1 t3 : Value) (w : World) (N1 : List Value → World → Prop) (K : Ending → World → Prop) : Prop :=
 DoX Tryz.prog (mLoad 9 t1) w (pk K) fun t8 w =>
 DoX Tryz.prog (mBin .add 3 t3 (.int .i64 1)) w (pk K) fun t10 w =>
 CallX Tryz.prog 37 #[t8, (.string ⟨#[37, 37, 69, 79, 70]⟩), t10] w (pk K) fun t11 w =>
 N1 [t11] w
def S_head_ends_1_0 (t0 t1 t3 : Value) (w : World) (N1 : List Value → World → Prop) (K : Ending → World → Prop) : Prop :=
 DoX Tryz.prog (mBin .geq 3 t3 (.int .i64 0)) w (pk K) fun t7 w =>
 IfX t7 (JoinX (fun J2 =>
 DoX Tryz.prog (mBin .gtr 3 t3 (.int .i64 0)) w (pk K) fun t13 w =>
 GDo t13 true (fun E => DoX Tryz.prog (mLoad 9 t1) w (pk K) E) w fun t15 w =>
 GDo t13 true (fun E => E t3 w) w fun t16 w =>
 GDo t13 true (fun E => DoX Tryz.prog (mBin .sub 3 t16 (.int .i64 1)) w (pk K) E) w fun t17 w =>
 GDo t13 true (fun E => DoX Tryz.prog (mIx 9 t15 t17) w (pk K) E) w fun t18 w =>
 GDo t13 true (fun E => DoX Tryz.prog (mEq .neq 5 (.tmp 18) (.const (.int .u8 10)) t18 (.int .u8 10)) w (pk K) E) w fun t19 w =>
 DoX Tryz.prog (mPick t13 t19 (.bool false)) w (pk K) fun t20 w =>
 GDo t20 true (fun E => DoX Tryz.prog (mLoad 9 t1) w (pk K) E) w fun t22 w =>
 GDo t20 true (fun E => E t3 w) w fun t23 w =>
 GDo t20 true (fun E => DoX Tryz.prog (mBin .sub 3 t23 (.int .i64 1)) w (pk K) E) w fun t24 w =>
 GDo t20 true (fun E => DoX Tryz.prog (mIx 9 t22 t24) w (pk K) E) w fun t25 w =>
 GDo t20 true (fun E => DoX Tryz.prog (mEq .neq 5 (.tmp 25) (.const (.int .u8 13)) t25 (.int .u8 13)) w (pk K) E) w fun t26 w =>
 DoX Tryz.prog (mPick t20 t26 (.bool false)) w (pk K) fun t27 w =>
 IfX t27 (J2 [] w) (DoX Tryz.prog (mLoad 9 t1) w (pk K) fun t29 w =>
 DoX Tryz.prog (mBin .add 3 t3 (.int .i64 5)) w (pk K) fun t31 w =>
 CallX Tryz.prog 91 #[t29, t31] w (pk K) fun t32 w =>
 DoX Tryz.prog (mCallV t0 #[t32]) w (pk K) fun t33 w =>
 DoX Tryz.prog (mUn .not t33) w (pk K) fun t34 w =>
 IfX t34 (K (.returned (.tuple #[])) w) (J2 [] w))) (fun vs2 w => ∀ _ : Sg, S_head_ends_1_1 t1 t3 w N1 K)) (K (.returned (.tuple #[])) w)
def S_head_ends_1 (t0 t1 : Value) (w : World) (K : Ending → World → Prop) : Prop :=
 DoX Tryz.prog (mLoad 9 t1) w (pk K) fun t4 w =>
 CallX Tryz.prog 37 #[t4, (.string ⟨#[37, 37, 69, 79, 70]⟩), (.int .i64 0)] w (pk K) fun t5 w =>
 LoopX [t5] w (fun vs1 w N1 => ∀ _ : Sg, S_head_ends_1_0 t0 t1 (vs1.getD 0 undef) w N1 K)
theorem S_head_ends_1_eq (t0 t1 : Value) (w : World) (K : Ending → World → Prop) : wpX Tryz.prog 35 [(2, [])] [(1, [3])] none (bodyOf Tryz.f90) (topQ Tryz.prog [] K) (startX [t0, t1]) [] w = S_head_ends_1 t0 t1 w K := by kernel_rfl
theorem S_head_ends_1_ok {t0 t1 : Value} {w : World} {K : Ending → World → Prop} (h : S_head_ends_1 t0 t1 w K) : Calls Tryz.prog 90 #[t0, t1] w K :=
  calls_of_wpX Tryz.func90 rfl rfl rfl rfl (Eq.mpr (S_head_ends_1_eq t0 t1 w K) h)

/- head.ends -/
def S_head_ends (t0 : Value) (w : World) (K : Ending → World → Prop) : Prop :=
 DoX Tryz.prog (mBox 9 t0) w (pk K) fun t1 w =>
 DoX Tryz.prog (mFunc (.func 90) #[] #[t1]) w (pk K) fun t3 w =>
 K (.returned t3) w
theorem S_head_ends_eq (t0 : Value) (w : World) (K : Ending → World → Prop) : wpX Tryz.prog 4 [] [] none (bodyOf Tryz.f50) (topQ Tryz.prog [.tmp 2] K) (startX [t0]) [] w = S_head_ends t0 w K := by kernel_rfl
theorem S_head_ends_ok {t0 : Value} {w : World} {K : Ending → World → Prop} (h : S_head_ends t0 w K) : Calls Tryz.prog 50 #[t0] w K :=
  calls_of_wpX Tryz.func50 rfl rfl rfl rfl (Eq.mpr (S_head_ends_eq t0 w K) h)

/- slices.AppendSeq[[]int,int] -/
def S_slices_AppendSeq_int_int_p0 (x0 : Nat) (K : Ending → World → Prop) := pdM Tryz.prog [.val (.slice none 0 0)] K [(mkD x0)]
def S_slices_AppendSeq_int_int (t0 t1 : Value) (w : World) (K : Ending → World → Prop) : Prop :=
 DoX Tryz.prog (mBox 32 t0) w (pk K) fun t2 w =>
 RangeX Tryz.prog none 1 t1 w (fun l1 as1 w R1 =>
 BegX Tryz.prog l1 w (fun w =>
 DoX Tryz.prog (mLoad 32 t2) w pkR fun t8 w =>
 DoX Tryz.prog (mBuildS 32 1 #[(0, (as1.getD 0 undef))]) w pkR fun t10 w =>
 DoX Tryz.prog (mB .append #[32, 32] 32 #[false, false] #[t8, t10]) w pkR fun t11 w =>
 DoX Tryz.prog (mStore 32 t2 t11) w pkR fun _ w =>
 EndX Tryz.prog l1 none w R1))
 [(none, fun r1 w =>
 DoX Tryz.prog (mLoad 32 t2) w (S_slices_AppendSeq_int_int_p0 r1 K) fun t12 w =>
 LeaveM Tryz.prog [.val t12] K [(mkD r1)] .returning w)]
theorem S_slices_AppendSeq_int_int_eq (t0 t1 : Value) (w : World) (K : Ending → World → Prop) : wpX Tryz.prog 13 [] [] none (bodyOf Tryz.f89) (topM Tryz.prog [.tmp 4] K) (startX [t0, t1]) [] w = S_slices_AppendSeq_int_int t0 t1 w K := by kernel_rfl
theorem S_slices_AppendSeq_int_int_ok {t0 t1 : Value} {w : World} {K : Ending → World → Prop} (h : S_slices_AppendSeq_int_int t0 t1 w K) : Calls Tryz.prog 89 #[t0, t1] w K :=
  calls_of_wpM Tryz.func89 rfl rfl rfl rfl (Eq.mpr (S_slices_AppendSeq_int_int_eq t0 t1 w K) h)

/- slices.Collect[int] -/
def S_slices_Collect_int (t0 : Value) (w : World) (K : Ending → World → Prop) : Prop :=
 CallX Tryz.prog 89 #[(.slice none 0 0), t0] w (pk K) fun t4 w =>
 K (.returned t4) w
theorem S_slices_Collect_int_eq (t0 : Value) (w : World) (K : Ending → World → Prop) : wpX Tryz.prog 5 [] [] none (bodyOf Tryz.f49) (topQ Tryz.prog [.tmp 2] K) (startX [t0]) [] w = S_slices_Collect_int t0 w K := by kernel_rfl
theorem S_slices_Collect_int_ok {t0 : Value} {w : World} {K : Ending → World → Prop} (h : S_slices_Collect_int t0 w K) : Calls Tryz.prog 49 #[t0] w K :=
  calls_of_wpX Tryz.func49 rfl rfl rfl rfl (Eq.mpr (S_slices_Collect_int_eq t0 w K) h)

/- head.Ends -/
def S_head_Ends (t0 : Value) (w : World) (K : Ending → World → Prop) : Prop :=
 CallX Tryz.prog 50 #[t0] w (pk K) fun t4 w =>
 CallX Tryz.prog 49 #[t4] w (pk K) fun t5 w =>
 K (.returned t5) w
theorem S_head_Ends_eq (t0 : Value) (w : World) (K : Ending → World → Prop) : wpX Tryz.prog 6 [] [] none (bodyOf Tryz.f19) (topQ Tryz.prog [.tmp 2] K) (startX [t0]) [] w = S_head_Ends t0 w K := by kernel_rfl
theorem S_head_Ends_ok {t0 : Value} {w : World} {K : Ending → World → Prop} (h : S_head_Ends t0 w K) : Calls Tryz.prog 19 #[t0] w K :=
  calls_of_wpX Tryz.func19 rfl rfl rfl rfl (Eq.mpr (S_head_Ends_eq t0 w K) h)

end Go.Proofs.YtgffladaenimmaaGreatDoor
/- Code in continuation form, by program (gen.py): 8 functions. -/
namespace Go.Proofs.YtgffladaenimmaaGreatDoor
set_option linter.unusedVariables false
set_option linter.unusedSimpArgs false
set_option linter.defProp false
set_option linter.unusedVariables false
set_option maxRecDepth 20000
open Eng

/- foliantref01.Find -/
def S_foliantref01_Find_0 (t0 t1 t7 : Value) (w : World) (N1 : List Value → World → Prop) (K : Ending → World → Prop) : Prop :=
 DoX Tryz.prog (mB .len #[9] 3 #[false] #[t0]) w (pk K) fun t14 w =>
 DoX Tryz.prog (mBin .lss 3 t7 t14) w (pk K) fun t15 w =>
 IfX t15 (CallX Tryz.prog 41 #[t0, t1, t7] w (pk K) fun t21 w =>
 IfX t21 (K (.returned t7) w) (DoX Tryz.prog (mBin .add 3 t7 (.int .i64 1)) w (pk K) fun t17 w =>
 N1 [t17] w)) (K (.returned (.int .i64 (-1))) w)
def S_foliantref01_Find (t0 t1 t2 : Value) (w : World) (K : Ending → World → Prop) : Prop :=
 DoX Tryz.prog (mEq .eql 9 (.tmp 8) (.const (.string ⟨#[]⟩)) t1 (.string ⟨#[]⟩)) w (pk K) fun t9 w =>
 IfX t9 (K (.returned (.int .i64 (-1))) w) (DoX Tryz.prog (mB .max #[3, 3] 3 #[false, true] #[t2, (.int .i64 0)]) w (pk K) fun t11 w =>
 LoopX [t11] w (fun vs1 w N1 => ∀ _ : Sg, S_foliantref01_Find_0 t0 t1 (vs1.getD 0 undef) w N1 K))
theorem S_foliantref01_Find_eq (t0 t1 t2 : Value) (w : World) (K : Ending → World → Prop) : wpX Tryz.prog 23 [] [(4, [7])] none (bodyOf Tryz.f40) (topQ Tryz.prog [.tmp 6] K) (startX [t0, t1, t2]) [] w = S_foliantref01_Find t0 t1 t2 w K := by kernel_rfl
theorem S_foliantref01_Find_ok {t0 t1 t2 : Value} {w : World} {K : Ending → World → Prop} (h : S_foliantref01_Find t0 t1 t2 w K) : Calls Tryz.prog 40 #[t0, t1, t2] w K :=
  calls_of_wpX Tryz.func40 rfl rfl rfl rfl (Eq.mpr (S_foliantref01_Find_eq t0 t1 t2 w K) h)

/- foliantref01.Last -/
def S_foliantref01_Last_1 (t5 t6 : Value) (w : World) (N1 : List Value → World → Prop) (K : Ending → World → Prop) : Prop :=
 DoX Tryz.prog (mBin .add 3 t6 (.int .i64 1)) w (pk K) fun t12 w =>
 N1 [t5, t12] w
def S_foliantref01_Last_0 (t0 t1 t5 t6 : Value) (w : World) (N1 : List Value → World → Prop) (K : Ending → World → Prop) : Prop :=
 DoX Tryz.prog (mB .len #[9] 3 #[false] #[t0]) w (pk K) fun t9 w =>
 DoX Tryz.prog (mBin .lss 3 t6 t9) w (pk K) fun t10 w =>
 IfX t10 (JoinX (fun J2 =>
 DoX Tryz.prog (mEq .neq 9 (.tmp 13) (.const (.string ⟨#[]⟩)) t1 (.string ⟨#[]⟩)) w (pk K) fun t14 w =>
 GDo t14 true (fun E => E t0 w) w fun t16 w =>
 GDo t14 true (fun E => E t1 w) w fun t17 w =>
 GDo t14 true (fun E => E t6 w) w fun t18 w =>
 GDo t14 true (fun E => CallX Tryz.prog 41 #[t16, t17, t18] w (pk K) E) w fun t19 w =>
 DoX Tryz.prog (mPick t14 t19 (.bool false)) w (pk K) fun t20 w =>
 IfX t20 (J2 [t6] w) (J2 [t5] w)) (fun vs2 w => ∀ _ : Sg, S_foliantref01_Last_1 (vs2.getD 0 undef) t6 w N1 K)) (K (.returned t5) w)
def S_foliantref01_Last (t0 t1 : Value) (w : World) (K : Ending → World → Prop) : Prop :=
 LoopX [(.int .i64 (-1)), (.int .i64 0)] w (fun vs1 w N1 => ∀ _ : Sg, S_foliantref01_Last_0 t0 t1 (vs1.getD 0 undef) (vs1.getD 1 undef) w N1 K)
theorem S_foliantref01_Last_eq (t0 t1 : Value) (w : World) (K : Ending → World → Prop) : wpX Tryz.prog 23 [(4, [5])] [(3, [5, 6])] none (bodyOf Tryz.f45) (topQ Tryz.prog [.tmp 4] K) (startX [t0, t1]) [] w = S_foliantref01_Last t0 t1 w K := by kernel_rfl
theorem S_foliantref01_Last_ok {t0 t1 : Value} {w : World} {K : Ending → World → Prop} (h : S_foliantref01_Last t0 t1 w K) : Calls Tryz.prog 45 #[t0, t1] w K :=
  calls_of_wpX Tryz.func45 rfl rfl rfl rfl (Eq.mpr (S_foliantref01_Last_eq t0 t1 w K) h)

/- foliantref17.Version -/
def S_foliantref17_Version (t0 : Value) (w : World) (K : Ending → World → Prop) : Prop :=
 CallX Tryz.prog 40 #[t0, (.string ⟨#[37, 80, 68, 70, 45]⟩), (.int .i64 0)] w (pk K) fun t7 w =>
 DoX Tryz.prog (mBin .lss 3 t7 (.int .i64 0)) w (pk K) fun t9 w =>
 GDo t9 false (fun E => E t7 w) w fun t11 w =>
 GDo t9 false (fun E => DoX Tryz.prog (mBin .gtr 3 t11 (.int .i64 1016)) w (pk K) E) w fun t12 w =>
 DoX Tryz.prog (mPick t9 (.bool true) t12) w (pk K) fun t13 w =>
 GDo t13 false (fun E => E t0 w) w fun t15 w =>
 GDo t13 false (fun E => E t7 w) w fun t16 w =>
 GDo t13 false (fun E => DoX Tryz.prog (mBin .add 3 t16 (.int .i64 5)) w (pk K) E) w fun t17 w =>
 GDo t13 false (fun E => CallX Tryz.prog 41 #[t15, (.string ⟨#[49, 46]⟩), t17] w (pk K) E) w fun t18 w =>
 GDo t13 false (fun E => DoX Tryz.prog (mUn .not t18) w (pk K) E) w fun t19 w =>
 DoX Tryz.prog (mPick t13 (.bool true) t19) w (pk K) fun t20 w =>
 GDo t20 false (fun E => E t7 w) w fun t22 w =>
 GDo t20 false (fun E => DoX Tryz.prog (mBin .add 3 t22 (.int .i64 7)) w (pk K) E) w fun t23 w =>
 GDo t20 false (fun E => E t0 w) w fun t24 w =>
 GDo t20 false (fun E => DoX Tryz.prog (mB .len #[9] 3 #[false] #[t24]) w (pk K) E) w fun t25 w =>
 GDo t20 false (fun E => DoX Tryz.prog (mBin .geq 3 t23 t25) w (pk K) E) w fun t26 w =>
 DoX Tryz.prog (mPick t20 (.bool true) t26) w (pk K) fun t27 w =>
 GDo t27 false (fun E => E t0 w) w fun t29 w =>
 GDo t27 false (fun E => E t7 w) w fun t30 w =>
 GDo t27 false (fun E => DoX Tryz.prog (mBin .add 3 t30 (.int .i64 7)) w (pk K) E) w fun t31 w =>
 GDo t27 false (fun E => DoX Tryz.prog (mIx 9 t29 t31) w (pk K) E) w fun t32 w =>
 GDo t27 false (fun E => DoX Tryz.prog (mBin .lss 5 t32 (.int .u8 48)) w (pk K) E) w fun t33 w =>
 DoX Tryz.prog (mPick t27 (.bool true) t33) w (pk K) fun t34 w =>
 GDo t34 false (fun E => E t0 w) w fun t36 w =>
 GDo t34 false (fun E => E t7 w) w fun t37 w =>
 GDo t34 false (fun E => DoX Tryz.prog (mBin .add 3 t37 (.int .i64 7)) w (pk K) E) w fun t38 w =>
 GDo t34 false (fun E => DoX Tryz.prog (mIx 9 t36 t38) w (pk K) E) w fun t39 w =>
 GDo t34 false (fun E => DoX Tryz.prog (mBin .gtr 5 t39 (.int .u8 57)) w (pk K) E) w fun t40 w =>
 DoX Tryz.prog (mPick t34 (.bool true) t40) w (pk K) fun t41 w =>
 IfX t41 (K (.returned (.tuple #[(.int .i64 0), (.int .i64 0), (.int .i64 17)])) w) (QuietX w (fun C1 =>
 QDo Tryz.prog C1 (mBin .add 3 t7 (.int .i64 7)) fun t44 =>
 QDo Tryz.prog C1 (mIx 9 t0 t44) fun t45 =>
 QDo Tryz.prog C1 (mConv 5 3 t45) fun t46 =>
 QDo Tryz.prog C1 (mBin .sub 3 t46 (.int .i64 48)) fun t47 =>
 ∀ w, C1 w →
 K (.returned (.tuple #[(.int .i64 1), t47, (.int .i64 0)])) w))
theorem S_foliantref17_Version_eq (t0 : Value) (w : World) (K : Ending → World → Prop) : wpX Tryz.prog 48 [] [] none (bodyOf Tryz.f11) (topQ Tryz.prog [.tmp 2, .tmp 3, .tmp 4] K) (startX [t0]) [] w = S_foliantref17_Version t0 w K := by kernel_rfl
theorem S_foliantref17_Version_ok {t0 : Value} {w : World} {K : Ending → World → Prop} (h : S_foliantref17_Version t0 w K) : Calls Tryz.prog 11 #[t0] w K :=
  calls_of_wpX Tryz.func11 rfl rfl rfl rfl (Eq.mpr (S_foliantref17_Version_eq t0 w K) h)

/- foliantref17.Text -/
def S_foliantref17_Text (t0 : Value) (w : World) (K : Ending → World → Prop) : Prop :=
 DoX Tryz.prog (mBin .lss 3 t0 (.int .i64 0)) w (pk K) fun t5 w =>
 GDo t5 false (fun E => E t0 w) w fun t7 w =>
 GDo t5 false (fun E => DoX Tryz.prog (mBin .gtr 3 t7 (.int .i64 9)) w (pk K) E) w fun t8 w =>
 DoX Tryz.prog (mPick t5 (.bool true) t8) w (pk K) fun t9 w =>
 IfX t9 (K (.returned (.tuple #[(.string ⟨#[]⟩), (.int .i64 2)])) w) (DoX Tryz.prog (mBin .add 3 t0 (.int .i64 1)) w (pk K) fun t12 w =>
 DoX Tryz.prog (mSlice 9 (.string ⟨#[48, 49, 50, 51, 52, 53, 54, 55, 56, 57]⟩) (some t0) (some t12) none) w (pk K) fun t13 w =>
 DoX Tryz.prog (mBin .add 9 (.string ⟨#[37, 80, 68, 70, 45, 49, 46]⟩) t13) w (pk K) fun t14 w =>
 DoX Tryz.prog (mBin .add 9 t14 (.string ⟨#[10, 37, 226, 227, 207, 211, 10]⟩)) w (pk K) fun t15 w =>
 K (.returned (.tuple #[t15, (.int .i64 0)])) w)
theorem S_foliantref17_Text_eq (t0 : Value) (w : World) (K : Ending → World → Prop) : wpX Tryz.prog 16 [] [] none (bodyOf Tryz.f13) (topQ Tryz.prog [.tmp 2, .tmp 3] K) (startX [t0]) [] w = S_foliantref17_Text t0 w K := by kernel_rfl
theorem S_foliantref17_Text_ok {t0 : Value} {w : World} {K : Ending → World → Prop} (h : S_foliantref17_Text t0 w K) : Calls Tryz.prog 13 #[t0] w K :=
  calls_of_wpX Tryz.func13 rfl rfl rfl rfl (Eq.mpr (S_foliantref17_Text_eq t0 w K) h)

/- foliantref17.Start -/
def S_foliantref17_Start (t0 : Value) (w : World) (K : Ending → World → Prop) : Prop :=
 CallX Tryz.prog 45 #[t0, (.string ⟨#[115, 116, 97, 114, 116, 120, 114, 101, 102]⟩)] w (pk K) fun t8 w =>
 DoX Tryz.prog (mBin .lss 3 t8 (.int .i64 0)) w (pk K) fun t10 w =>
 IfX t10 (K (.returned (.tuple #[(.int .i64 0), (.int .i64 18)])) w) (DoX Tryz.prog (mBin .add 3 t8 (.int .i64 9)) w (pk K) fun t14 w =>
 CallX Tryz.prog 46 #[t0, t14] w (pk K) fun t15 w =>
 DoX Tryz.prog (mExt t15 0) w (pk K) fun t16 w =>
 DoX Tryz.prog (mExt t15 1) w (pk K) fun t17 w =>
 DoX Tryz.prog (mAlloc 63) w (pk K) fun t5 w =>
 DoX Tryz.prog (mStore 63 t5 t16) w (pk K) fun _ w =>
 DoX Tryz.prog (mEq .neq 23 (.tmp 18) (.const (.int .i64 0)) t17 (.int .i64 0)) w (pk K) fun t19 w =>
 GDo t19 false (fun E => DoX Tryz.prog (mFA 63 t5 0) w (pk K) E) w fun t21 w =>
 GDo t19 false (fun E => DoX Tryz.prog (mLoad 3 t21) w (pk K) E) w fun t22 w =>
 GDo t19 false (fun E => DoX Tryz.prog (mEq .neq 3 (.tmp 22) (.const (.int .i64 1)) t22 (.int .i64 1)) w (pk K) E) w fun t23 w =>
 DoX Tryz.prog (mPick t19 (.bool true) t23) w (pk K) fun t24 w =>
 GDo t24 false (fun E => DoX Tryz.prog (mFA 63 t5 3) w (pk K) E) w fun t26 w =>
 GDo t24 false (fun E => DoX Tryz.prog (mLoad 2 t26) w (pk K) E) w fun t27 w =>
 GDo t24 false (fun E => DoX Tryz.prog (mBin .lss 2 t27 (.int .i64 0)) w (pk K) E) w fun t28 w =>
 DoX Tryz.prog (mPick t24 (.bool true) t28) w (pk K) fun t29 w =>
 GDo t29 false (fun E => DoX Tryz.prog (mFA 63 t5 3) w (pk K) E) w fun t31 w =>
 GDo t29 false (fun E => DoX Tryz.prog (mLoad 2 t31) w (pk K) E) w fun t32 w =>
 GDo t29 false (fun E => E t0 w) w fun t33 w =>
 GDo t29 false (fun E => DoX Tryz.prog (mB .len #[9] 3 #[false] #[t33]) w (pk K) E) w fun t34 w =>
 GDo t29 false (fun E => DoX Tryz.prog (mBin .geq 2 t32 t34) w (pk K) E) w fun t35 w =>
 DoX Tryz.prog (mPick t29 (.bool true) t35) w (pk K) fun t36 w =>
 IfX t36 (K (.returned (.tuple #[(.int .i64 0), (.int .i64 18)])) w) (DoX Tryz.prog (mFA 63 t5 3) w (pk K) fun t37 w =>
 DoX Tryz.prog (mLoad 2 t37) w (pk K) fun t38 w =>
 K (.returned (.tuple #[t38, (.int .i64 0)])) w))
theorem S_foliantref17_Start_eq (t0 : Value) (w : World) (K : Ending → World → Prop) : wpX Tryz.prog 39 [] [] none (bodyOf Tryz.f15) (topQ Tryz.prog [.tmp 2, .tmp 3] K) (startX [t0]) [] w = S_foliantref17_Start t0 w K := by kernel_rfl
theorem S_foliantref17_Start_ok {t0 : Value} {w : World} {K : Ending → World → Prop} (h : S_foliantref17_Start t0 w K) : Calls Tryz.prog 15 #[t0] w K :=
  calls_of_wpX Tryz.func15 rfl rfl rfl rfl (Eq.mpr (S_foliantref17_Start_eq t0 w K) h)

/- foliantref17.Tail -/
def S_foliantref17_Tail (t0 : Value) (w : World) (K : Ending → World → Prop) : Prop :=
 DoX Tryz.prog (mBin .lss 3 t0 (.int .i64 0)) w (pk K) fun t6 w =>
 GDo t6 false (fun E => E t0 w) w fun t8 w =>
 GDo t6 false (fun E => DoX Tryz.prog (mBin .gtr 3 t8 (.int .i64 2147483647)) w (pk K) E) w fun t9 w =>
 DoX Tryz.prog (mPick t6 (.bool true) t9) w (pk K) fun t10 w =>
 IfX t10 (K (.returned (.string ⟨#[]⟩)) w) (CallX Tryz.prog 48 #[t0] w (pk K) fun t13 w =>
 DoX Tryz.prog (mExt t13 0) w (pk K) fun t14 w =>
 DoX Tryz.prog (mExt t13 1) w (pk K) fun t15 w =>
 DoX Tryz.prog (mBin .add 9 (.string ⟨#[115, 116, 97, 114, 116, 120, 114, 101, 102, 10]⟩) t14) w (pk K) fun t17 w =>
 DoX Tryz.prog (mBin .add 9 t17 (.string ⟨#[10, 37, 37, 69, 79, 70, 10]⟩)) w (pk K) fun t18 w =>
 K (.returned t18) w)
theorem S_foliantref17_Tail_eq (t0 : Value) (w : World) (K : Ending → World → Prop) : wpX Tryz.prog 19 [] [] none (bodyOf Tryz.f17) (topQ Tryz.prog [.tmp 2] K) (startX [t0]) [] w = S_foliantref17_Tail t0 w K := by kernel_rfl
theorem S_foliantref17_Tail_ok {t0 : Value} {w : World} {K : Ending → World → Prop} (h : S_foliantref17_Tail t0 w K) : Calls Tryz.prog 17 #[t0] w K :=
  calls_of_wpX Tryz.func17 rfl rfl rfl rfl (Eq.mpr (S_foliantref17_Tail_eq t0 w K) h)

/- foliantref17.Ends -/
def S_foliantref17_Ends_1 (t3 t4 : Value) (w : World) (N1 : List Value → World → Prop) (K : Ending → World → Prop) : Prop :=
 DoX Tryz.prog (mBin .add 3 t4 (.int .i64 1)) w (pk K) fun t10 w =>
 N1 [t3, t10] w
def S_foliantref17_Ends_0 (t0 t3 t4 : Value) (w : World) (N1 : List Value → World → Prop) (K : Ending → World → Prop) : Prop :=
 DoX Tryz.prog (mB .len #[9] 3 #[false] #[t0]) w (pk K) fun t7 w =>
 DoX Tryz.prog (mBin .lss 3 t4 t7) w (pk K) fun t8 w =>
 IfX t8 (JoinX (fun J2 =>
 CallX Tryz.prog 41 #[t0, (.string ⟨#[37, 37, 69, 79, 70]⟩), t4] w (pk K) fun t13 w =>
 GDo t13 true (fun E => E t4 w) w fun t15 w =>
 GDo t13 true (fun E => DoX Tryz.prog (mEq .eql 3 (.tmp 15) (.const (.int .i64 0)) t15 (.int .i64 0)) w (pk K) E) w fun t16 w =>
 GDo t13 true (fun E => E t16 w) w fun t17 w =>
 GDo t17 false (fun E => E t0 w) w fun t18 w =>
 GDo t17 false (fun E => E t4 w) w fun t19 w =>
 GDo t17 false (fun E => DoX Tryz.prog (mBin .sub 3 t19 (.int .i64 1)) w (pk K) E) w fun t20 w =>
 GDo t17 false (fun E => DoX Tryz.prog (mIx 9 t18 t20) w (pk K) E) w fun t21 w =>
 GDo t17 false (fun E => DoX Tryz.prog (mEq .eql 5 (.tmp 21) (.const (.int .u8 10)) t21 (.int .u8 10)) w (pk K) E) w fun t22 w =>
 GDo t13 true (fun E => DoX Tryz.prog (mPick t17 (.bool true) t22) w (pk K) E) w fun t23 w =>
 GDo t13 true (fun E => E t23 w) w fun t24 w =>
 GDo t24 false (fun E => E t0 w) w fun t25 w =>
 GDo t24 false (fun E => E t4 w) w fun t26 w =>
 GDo t24 false (fun E => DoX Tryz.prog (mBin .sub 3 t26 (.int .i64 1)) w (pk K) E) w fun t27 w =>
 GDo t24 false (fun E => DoX Tryz.prog (mIx 9 t25 t27) w (pk K) E) w fun t28 w =>
 GDo t24 false (fun E => DoX Tryz.prog (mEq .eql 5 (.tmp 28) (.const (.int .u8 13)) t28 (.int .u8 13)) w (pk K) E) w fun t29 w =>
 GDo t13 true (fun E => DoX Tryz.prog (mPick t24 (.bool true) t29) w (pk K) E) w fun t30 w =>
 DoX Tryz.prog (mPick t13 t30 (.bool false)) w (pk K) fun t31 w =>
 IfX t31 (DoX Tryz.prog (mBin .add 3 t4 (.int .i64 5)) w (pk K) fun t35 w =>
 CallX Tryz.prog 51 #[t0, t35] w (pk K) fun t36 w =>
 DoX Tryz.prog (mBuildS 32 1 #[(0, t36)]) w (pk K) fun t37 w =>
 DoX Tryz.prog (mB .append #[32, 32] 32 #[false, false] #[t3, t37]) w (pk K) fun t38 w =>
 J2 [t38] w) (J2 [t3] w)) (fun vs2 w => ∀ _ : Sg, S_foliantref17_Ends_1 (vs2.getD 0 undef) t4 w N1 K)) (K (.returned t3) w)
def S_foliantref17_Ends (t0 : Value) (w : World) (K : Ending → World → Prop) : Prop :=
 LoopX [(.slice none 0 0), (.int .i64 0)] w (fun vs1 w N1 => ∀ _ : Sg, S_foliantref17_Ends_0 t0 (vs1.getD 0 undef) (vs1.getD 1 undef) w N1 K)
theorem S_foliantref17_Ends_eq (t0 : Value) (w : World) (K : Ending → World → Prop) : wpX Tryz.prog 40 [(4, [3])] [(3, [3, 4])] none (bodyOf Tryz.f20) (topQ Tryz.prog [.tmp 2] K) (startX [t0]) [] w = S_foliantref17_Ends t0 w K := by kernel_rfl
theorem S_foliantref17_Ends_ok {t0 : Value} {w : World} {K : Ending → World → Prop} (h : S_foliantref17_Ends t0 w K) : Calls Tryz.prog 20 #[t0] w K :=
  calls_of_wpX Tryz.func20 rfl rfl rfl rfl (Eq.mpr (S_foliantref17_Ends_eq t0 w K) h)

/- foliantref10.Same -/
def S_foliantref10_Same_0 (t0 t1 t5 : Value) (w : World) (N1 : List Value → World → Prop) (K : Ending → World → Prop) : Prop :=
 DoX Tryz.prog (mB .len #[32] 3 #[false] #[t0]) w (pk K) fun t13 w =>
 DoX Tryz.prog (mBin .lss 3 t5 t13) w (pk K) fun t14 w =>
 GDo t14 true (fun E => E t5 w) w fun t16 w =>
 GDo t14 true (fun E => E t1 w) w fun t17 w =>
 GDo t14 true (fun E => DoX Tryz.prog (mB .len #[32] 3 #[false] #[t17]) w (pk K) E) w fun t18 w =>
 GDo t14 true (fun E => DoX Tryz.prog (mBin .lss 3 t16 t18) w (pk K) E) w fun t19 w =>
 DoX Tryz.prog (mPick t14 t19 (.bool false)) w (pk K) fun t20 w =>
 IfX t20 (QuietX w (fun C2 =>
 QDo Tryz.prog C2 (mIA 32 t0 t5) fun t25 =>
 QDo Tryz.prog C2 (mLoad 3 t25) fun t26 =>
 QDo Tryz.prog C2 (mIA 32 t1 t5) fun t29 =>
 QDo Tryz.prog C2 (mLoad 3 t29) fun t30 =>
 QDo Tryz.prog C2 (mEq .neq 3 (.tmp 26) (.tmp 30) t26 t30) fun t31 =>
 ∀ w, C2 w →
 IfX t31 (K (.returned (.bool false)) w) (DoX Tryz.prog (mBin .add 3 t5 (.int .i64 1)) w (pk K) fun t22 w =>
 N1 [t22] w))) (K (.returned (.bool true)) w)
def S_foliantref10_Same (t0 t1 : Value) (w : World) (K : Ending → World → Prop) : Prop :=
 DoX Tryz.prog (mB .len #[32] 3 #[false] #[t0]) w (pk K) fun t7 w =>
 DoX Tryz.prog (mB .len #[32] 3 #[false] #[t1]) w (pk K) fun t9 w =>
 DoX Tryz.prog (mEq .neq 3 (.tmp 7) (.tmp 9) t7 t9) w (pk K) fun t10 w =>
 IfX t10 (K (.returned (.bool false)) w) (LoopX [(.int .i64 0)] w (fun vs1 w N1 => ∀ _ : Sg, S_foliantref10_Same_0 t0 t1 (vs1.getD 0 undef) w N1 K))
theorem S_foliantref10_Same_eq (t0 t1 : Value) (w : World) (K : Ending → World → Prop) : wpX Tryz.prog 32 [] [(4, [5])] none (bodyOf Tryz.f18) (topQ Tryz.prog [.tmp 4] K) (startX [t0, t1]) [] w = S_foliantref10_Same t0 t1 w K := by kernel_rfl
theorem S_foliantref10_Same_ok {t0 t1 : Value} {w : World} {K : Ending → World → Prop} (h : S_foliantref10_Same t0 t1 w K) : Calls Tryz.prog 18 #[t0, t1] w K :=
  calls_of_wpX Tryz.func18 rfl rfl rfl rfl (Eq.mpr (S_foliantref10_Same_eq t0 t1 w K) h)

end Go.Proofs.YtgffladaenimmaaGreatDoor
/- The engine's rules for ranges over functions. -/
namespace Go.Proofs.YtgffladaenimmaaGreatDoor
set_option linter.unusedVariables false
set_option linter.unusedSimpArgs false
set_option linter.defProp false
set_option linter.unusedSimpArgs false
set_option linter.unusedVariables false
namespace Eng
open Go.RowKit

section
variable {S : Nat → Prop} {P : Program} {w w0 : World} {L : List Ent} {PK : List PanicEntry → World → Prop} {K : Value → World → Prop}
theorem OwnS.join {w' : World} {L' : List Ent} (h : OwnS S w0 w L) (k : OwnS NoB w w' L') : OwnS S w0 w' (L' ++ L) := by
  have h' := h.grow k.below
  refine ⟨h'.grew, fun e he => ?_, List.pairwise_append.2 ⟨k.apart, h'.apart, fun e he f hf b hb hb' => ?_⟩⟩
  · rcases List.mem_append.1 he with he | he
    · obtain ⟨a, b⟩ := k.all e he
      refine ⟨a, fun j hj => .inr ?_⟩
      rcases b j hj with h1 | h1
      · exact h1.elim
      · exact Nat.le_trans h.size h1
    · exact h'.all e he
  · have h2 := f.lt (h.mem hf) b hb'
    rcases (k.all e he).2 b hb with h1 | h1
    · exact h1
    · omega
theorem o_beg {l : Nat} {L0 : Loop} {K : World → Prop} (i : Nat) (ho : OwnS S w0 w L) (hi : L[i]? = some (.obj l (lp L0 .ready none))) (k : ∀ w', OwnS S w0 w' (L.set i (.obj l (lp L0 .busy none))) → K w') : BegX P l w K :=
  ⟨_, run_beginRound (ho.at_ i hi), k _ (put_iter ho i hi)⟩
theorem o_end {l : Nat} {L0 : Loop} {j : Option Code} {R : Value → World → Prop} (i : Nat) (ho : OwnS S w0 w L) (hi : L[i]? = some (.obj l (lp L0 .busy none))) (k : ∀ w', OwnS S w0 w' (L.set i (.obj l (lp L0 (if j.isNone then .ready else .done) j))) → R (.bool j.isNone) w') : EndX P l j w R :=
  ⟨_, _, run_endRound (ho.at_ i hi), k _ (put_iter ho i hi)⟩
theorem c_yld {l : Nat} {args : List Value} {R : Value → World → Prop} (h : Yld P l args w R) (k : ∀ v w', R v w' → K v w') : DoX P (mCallV (.func (.yield l) #[] #[]) args.toArray) w PK K := by
  obtain ⟨fn, tmps, asn, bdy, h1, h2⟩ := h
  have hr : (mCallV (.func (.yield l) #[] #[]) args.toArray).run P w = .ok (.round l fn tmps asn bdy) w := by
    rw [← h1]
    simp [mCallV, invoke, Deferred.ofValue, resolve]
  refine ⟨?_⟩
  rw [hr]
  refine ⟨RoundIn.mono h2 ?_⟩
  rintro e w' ⟨v, rfl, hv⟩
  exact k v w' hv
theorem range {js : List (Option Code × (Nat → World → Prop))} {B : Nat → List Value → World → (Value → World → Prop) → Prop} {np f : Nat} {fa ca : Array Value} (ho : OwnS S w0 w L) (hp : plainB P f = true)
    (h : ∀ (L0 : Loop) (df lb : Nat) (w1 : World), OwnS S w0 w1 (.obj lb (lp L0 .ready none) :: .obj df (.deferred (some [])) :: L) →
      (∀ args W R, W.heap[lb]? = some (lp L0 .ready none) → args.length = np → B lb args W R → Yld P lb args W R) →
      Calls P f (fa ++ #[.func (.yield lb) #[] #[]] ++ ca) w1 fun e w3 => ∃ v st pd k, e = .returned v ∧ st ≠ .busy ∧ w3.heap[lb]? = some (lp L0 st pd) ∧ (pd, k) ∈ js ∧ k df (putO w3 lb (lp L0 .exhausted pd))) :
    RangeX P none np (.func (.func f) fa ca) w B js := by
  refine ⟨f, fa, ca, w.heap.size, w.alloc (.deferred (some [])), rfl, hp, ⟨rfl, rfl⟩, fun L0 _ hy => ?_⟩
  exact h L0 w.heap.size (w.alloc (.deferred (some []))).heap.size _ ((ho.allocObj _).allocObj _) (fun args W R h1 h2 h3 => hy _ args W R h1 h2 h3)
/-- The mark of a loop is taken; then the results are read. -/
theorem leave1 {rs : List RV} {K : Ending → World → Prop} {df : Nat} (i : Nat) (ho : OwnS S w0 w L) (hi : L[i]? = some (.obj df (.deferred (some [])))) (k : ∀ w', OwnS S w0 w' (L.set i (.obj df (.deferred none))) → RetD P rs w' K) : LeaveM P rs K [mkD df] .returning w := by
  refine ⟨(fun h => by cases h), df, _, rfl, ?_, k _ (put_iter ho i hi)⟩
  have h : w.heap[df]? = some (.deferred (some [])) := ho.at_ i hi
  simp [Instr.takeDeferred, getObj, setObj, Sem.run, h]
end
end Eng
end Go.Proofs.YtgffladaenimmaaGreatDoor
/- The engine's rule for comparing structs of integers and strings. -/
namespace Go.Proofs.YtgffladaenimmaaGreatDoor
set_option linter.unusedVariables false
set_option linter.unusedSimpArgs false
set_option linter.defProp false
set_option linter.unusedSimpArgs false
set_option linter.unusedVariables false
namespace Eng
open Go.RowKit

/-- The fields' places, and whether they hold strings. -/
def eqSh (P : Program) : List Field → Option (List (Nat × Bool))
  | [] => some []
  | f :: fs =>
    if f.name == "_" then none
    else match P.underlying f.type with
      | some (.int _) => (eqSh P fs).map ((f.offset, false) :: ·)
      | some .string => (eqSh P fs).map ((f.offset, true) :: ·)
      | _ => none
def cellOk : Bool → Option Value → Option Value → Bool
  | false, some (.int k _), some (.int k' _) => decide (k = k')
  | true, some (.string _), some (.string _) => true
  | _, _, _ => false
def cellEq : Option Value → Option Value → Bool
  | some (.int _ a), some (.int _ b) => a == b
  | some (.string a), some (.string b) => a.toList == b.toList
  | _, _ => false
section
variable {P : Program} {w : World} {PK : List PanicEntry → World → Prop} {K : Value → World → Prop}
theorem run_eqSh (d : Nat) (xs ys : Array Value) : ∀ (fs : List Field) (sh : List (Nat × Bool)), eqSh P fs = some sh → (sh.all fun p => cellOk p.2 xs[p.1]? ys[p.1]?) = true →
    (Op.eqFields (d + 1) xs ys fs).run P w = .ok (sh.all fun p => cellEq xs[p.1]? ys[p.1]?) w
  | [], sh, h, _ => by
    cases h
    simp [Op.eqFields]
  | f :: fs, sh, h, hok => by
    rw [eqSh] at h
    split at h
    · cases h
    · rename_i hn
      have hn' : f.name ≠ "_" := by simpa using hn
      split at h
      · rename_i k hu
        obtain ⟨sh', h', rfl⟩ := Option.map_eq_some_iff.1 h
        simp only [List.all_cons, Bool.and_eq_true] at hok
        obtain ⟨h0, hok⟩ := hok
        have ih := run_eqSh d xs ys fs sh' h' hok
        cases hx : xs[f.offset]? with
        | none => rw [hx] at h0; cases h0
        | some a =>
          cases hy : ys[f.offset]? with
          | none => rw [hx, hy] at h0; cases a <;> cases h0
          | some b =>
            rw [hx, hy] at h0
            cases a <;> cases b <;> first | (cases h0; done) | skip
            rename_i k1 a k2 b
            simp only [cellOk, decide_eq_true_eq] at h0
            subst h0
            simp only [Op.eqFields, hn', ne_eq, not_false_eq_true, if_true, Sem.run_bind, part, isAgg, run_underlying hu, Result.andThen_ok, Sem.run_pure, Bool.false_eq_true, if_false, hx, hy, run_equalIn_int w d f.type k1 k a b hu, List.all_cons, cellEq]
            cases hab : (a == b)
            · simp
            · simp [ih]; rfl
      · rename_i hu
        obtain ⟨sh', h', rfl⟩ := Option.map_eq_some_iff.1 h
        simp only [List.all_cons, Bool.and_eq_true] at hok
        obtain ⟨h0, hok⟩ := hok
        have ih := run_eqSh d xs ys fs sh' h' hok
        cases hx : xs[f.offset]? with
        | none => rw [hx] at h0; cases h0
        | some a =>
          cases hy : ys[f.offset]? with
          | none => rw [hx, hy] at h0; cases a <;> cases h0
          | some b =>
            rw [hx, hy] at h0
            cases a <;> cases b <;> first | (cases h0; done) | skip
            rename_i a b
            simp only [Op.eqFields, hn', ne_eq, not_false_eq_true, if_true, Sem.run_bind, part, isAgg, run_underlying hu, Result.andThen_ok, Sem.run_pure, Bool.false_eq_true, if_false, hx, hy, run_equalIn_string w d f.type a b hu, List.all_cons, cellEq]
            cases hab : (a.toList == b.toList)
            · simp
            · simp [ih]; rfl
      · cases h
/-- What makes a struct type comparable by its cells. -/
def eqT (P : Program) (T : TypeId) (sh : List (Nat × Bool)) : Prop :=
  P.underlying T = some (.struct (P.fieldsOf T)) ∧ P.stoodInHeld T = false ∧ P.eqGuardType P.depth T = false ∧ eqSh P (P.fieldsOf T).toList = some sh
theorem run_eql_agg {T : TypeId} {sh : List (Nat × Bool)} (h : eqT P T sh) {xo yo : Operand} {xs ys : Array Value} (hok : (sh.all fun p => cellOk p.2 xs[p.1]? ys[p.1]?) = true) :
    (mEq .eql T xo yo (.agg xs) (.agg ys)).run P w = .ok (.value (.bool (sh.all fun p => cellEq xs[p.1]? ys[p.1]?))) w := by
  obtain ⟨h1, h2, h3, h4⟩ := h
  refine mv_run ?_
  rw [Sem.run_bind, run_eqGuard_agg w .eql T xo yo xs ys h3]
  simp only [Result.andThen_ok]
  rw [run_eql_struct, run_equalIn_struct w 9999 T xs ys h1 h2, run_eqSh 9998 xs ys _ sh h4 hok]
  rfl
theorem run_neq_agg {T : TypeId} {sh : List (Nat × Bool)} (h : eqT P T sh) {xo yo : Operand} {xs ys : Array Value} (hok : (sh.all fun p => cellOk p.2 xs[p.1]? ys[p.1]?) = true) :
    (mEq .neq T xo yo (.agg xs) (.agg ys)).run P w = .ok (.value (.bool (!(sh.all fun p => cellEq xs[p.1]? ys[p.1]?)))) w := by
  obtain ⟨h1, h2, h3, h4⟩ := h
  refine mv_run ?_
  rw [Sem.run_bind, run_eqGuard_agg w .neq T xo yo xs ys h3]
  simp only [Result.andThen_ok]
  rw [run_neq_struct, run_equalIn_struct w 9999 T xs ys h1 h2, run_eqSh 9998 xs ys _ sh h4 hok]
  rfl
end
end Eng
end Go.Proofs.YtgffladaenimmaaGreatDoor
/- The engine's rules for drawn regions that are quiet: guards, comparisons, choices. -/
namespace Go.Proofs.YtgffladaenimmaaGreatDoor
set_option linter.unusedVariables false
set_option linter.unusedSimpArgs false
set_option linter.defProp false
set_option linter.unusedSimpArgs false
set_option linter.unusedVariables false
namespace Eng
open Go.RowKit
section
variable {P : Program} {C : World → Prop} {K : Value → Prop}
theorem gq_tt {E : (Value → Prop) → Prop} : GQ (.bool true) true E K = E K := propext ⟨fun x => x.out, fun x => ⟨x⟩⟩
theorem gq_ft {E : (Value → Prop) → Prop} : GQ (.bool false) true E K = K undef := propext ⟨fun x => x.out, fun x => ⟨x⟩⟩
theorem gq_ff {E : (Value → Prop) → Prop} : GQ (.bool false) false E K = E K := propext ⟨fun x => x.out, fun x => ⟨x⟩⟩
theorem gq_tf {E : (Value → Prop) → Prop} : GQ (.bool true) false E K = K undef := propext ⟨fun x => x.out, fun x => ⟨x⟩⟩
theorem gq_un {want : Bool} {E : (Value → Prop) → Prop} : GQ undef want E K = K undef := propext ⟨fun x => x.out, fun x => ⟨x⟩⟩
def gq := And.intro @gq_tt (And.intro @gq_ft (And.intro @gq_ff (And.intro @gq_tf @gq_un)))
theorem q_add {T : TypeId} {k : IntKind} {a b : Int} (h : K (.int k (k.wrap (a + b)))) : QDo P C (mBin .add T (.int k a) (.int k b)) K := q_do _ (fun _ => r_add) h
theorem q_lss {T : TypeId} {k : IntKind} {a b : Int} (h : K (.bool (decide (a < b)))) : QDo P C (mBin .lss T (.int k a) (.int k b)) K := q_do _ (fun _ => mv_run (by simp [binOp, Op.intCmp])) h
theorem q_leq {T : TypeId} {k : IntKind} {a b : Int} (h : K (.bool (decide (a ≤ b)))) : QDo P C (mBin .leq T (.int k a) (.int k b)) K := q_do _ (fun _ => mv_run (by simp [binOp, Op.intCmp])) h
theorem q_gtr {T : TypeId} {k : IntKind} {a b : Int} (h : K (.bool (decide (b < a)))) : QDo P C (mBin .gtr T (.int k a) (.int k b)) K := q_do _ (fun _ => mv_run (by simp [binOp, Op.intCmp])) h
theorem q_geq {T : TypeId} {k : IntKind} {a b : Int} (h : K (.bool (decide (b ≤ a)))) : QDo P C (mBin .geq T (.int k a) (.int k b)) K := q_do _ (fun _ => mv_run (by simp [binOp, Op.intCmp])) h
theorem q_eq {T : TypeId} {xo yo : Operand} {k : IntKind} {a b : Int} (h : K (.bool (decide (a = b)))) : QDo P C (mEq .eql T xo yo (.int k a) (.int k b)) K := q_do _ (fun _ => mv_run (by simp [eqGuard, binOp, Op.intCmp, int_beq])) h
theorem q_ne {T : TypeId} {xo yo : Operand} {k : IntKind} {a b : Int} (h : K (.bool (decide (a ≠ b)))) : QDo P C (mEq .neq T xo yo (.int k a) (.int k b)) K := q_do _ (fun _ => mv_run (by simp [eqGuard, binOp, Op.intCmp, int_bne])) h
theorem q_pick {c : Bool} {a b : Value} (h : K (if c then a else b)) : QDo P C (mPick (.bool c) a b) K := q_do _ (fun _ => by simp [mPick, asBool]) h
theorem q_pt {a b : Value} (h : K a) : QDo P C (mPick (.bool true) a b) K := q_pick h
theorem q_pf {a b : Value} (h : K b) : QDo P C (mPick (.bool false) a b) K := q_pick h
theorem q_slen {T U : TypeId} {cs : Array Bool} {a : List UInt8} (ht : P.underlying T = some .string) (h : K (.int .i64 (a.length : Int))) : QDo P C (mB .len #[T] U cs #[.string ⟨a.toArray⟩]) K := q_do _ (fun _ => run_len ht) h
theorem p_do {m : Sem Next} (v : Value) (h : ∀ w, m.run P w = .ok (.value v) w) (k : K v) : PDo P m K := ⟨v, h, k⟩
theorem run_s_add {w : World} {T : TypeId} {a b : List UInt8} (h : a.length + b.length ≤ 9223372036854775807) : (mBin .add T (.string ⟨a.toArray⟩) (.string ⟨b.toArray⟩)).run P w = .ok (.value (.string ⟨(a ++ b).toArray⟩)) w := by
  refine mv_run ?_
  have e : IntKind.i64.max = 9223372036854775807 := rfl
  have e2 : ¬ (((⟨a.toArray⟩ : ByteArray).size + (⟨b.toArray⟩ : ByteArray).size : Nat) : Int) > IntKind.i64.max := by rw [str_size, str_size, e]; omega
  simp only [binOp, Op.stringOp, if_neg e2, str_append]
  rfl
theorem q_quo {T : TypeId} {k : IntKind} {a b : Int} (hb : b ≠ 0) (h : K (.int k (k.wrap (a.tdiv b)))) : QDo P C (mBin .quo T (.int k a) (.int k b)) K := q_do _ (fun _ => r_quo hb) h
theorem q_rem {T : TypeId} {k : IntKind} {a b : Int} (hb : b ≠ 0) (h : K (.int k (a.tmod b))) : QDo P C (mBin .rem T (.int k a) (.int k b)) K := q_do _ (fun _ => r_rem hb) h
theorem q_ix {T : TypeId} {k : IntKind} {i : Int} {a : List UInt8} {c : UInt8} (ht : P.underlying T = some .string) (h0 : 0 ≤ i) (hc : a[i.toNat]? = some c) (h : K (.int .u8 (c.toNat : Int))) : QDo P C (mIx T (.string ⟨a.toArray⟩) (.int k i)) K := q_do _ (fun _ => run_s_ix ht h0 hc) h
theorem q_sne {T : TypeId} {xo yo : Operand} {a b : List UInt8} (h : K (.bool (decide (a ≠ b)))) : QDo P C (mEq .neq T xo yo (.string ⟨a.toArray⟩) (.string ⟨b.toArray⟩)) K := by
  refine q_do _ (fun _ => mv_run ?_) h
  have e : (a == b) = decide (a = b) := by by_cases h : a = b <;> simp [h]
  simp [eqGuard, binOp, Op.stringOp, str_toList, e]
theorem q_seq {T : TypeId} {xo yo : Operand} {a b : List UInt8} (h : K (.bool (decide (a = b)))) : QDo P C (mEq .eql T xo yo (.string ⟨a.toArray⟩) (.string ⟨b.toArray⟩)) K := by
  refine q_do _ (fun _ => mv_run ?_) h
  have e : (a == b) = decide (a = b) := by by_cases h : a = b <;> simp [h]
  simp [eqGuard, binOp, Op.stringOp, str_toList, e]
theorem run_c_int {w : World} {S D : TypeId} {k k' : IntKind} {n : Int} (hs : (P.underlying S).isSome = true) (hd : P.underlying D = some (.int k')) : (mConv S D (.int k n)).run P w = .ok (.value (.int k' (k'.wrap n))) w := by
  cases h : P.underlying S with
  | none => rw [h] at hs; cases hs
  | some d => exact mv_run (by simp [convert, run_underlying h, run_underlying hd, Conv.intToInt])
theorem run_sl_len {T U E : TypeId} {w : World} {cb : Array Bool} {v : Value} {sz n : Nat} {cs : List Value} (h : P.underlying T = some (.slice E)) (hs : Sl w v sz n cs) : (mB .len #[T] U cb #[v]).run P w = .ok (.value (.int .i64 (n : Int))) w := by
  obtain ⟨_, a, cap, rfl, _⟩ := hs
  simp [mB, builtin, Builtin.len_, run_underlying h, goInt]
end
end Eng
end Go.Proofs.YtgffladaenimmaaGreatDoor
/- The engine's rules for iterators: what hands values, one by one, to the body of a loop. -/
namespace Go.Proofs.YtgffladaenimmaaGreatDoor
set_option linter.unusedVariables false
set_option linter.unusedSimpArgs false
set_option linter.defProp false
set_option linter.unusedSimpArgs false
set_option linter.unusedVariables false
namespace Eng
open Go.RowKit
theorem OwnS.perm {S : Nat → Prop} {w0 w : World} {L L' : List Ent} (h : OwnS S w0 w L) (hp : L.Perm L') : OwnS S w0 w L' :=
  ⟨h.grew, fun e he => h.all e (hp.mem_iff.2 he), (hp.pairwise_iff (fun {x y} hxy k hy hx => hxy k hx hy)).1 h.apart⟩
theorem OwnS.front {S : Nat → Prop} {w0 w : World} {A B C : List Ent} (h : OwnS S w0 w (A ++ (B ++ C))) : OwnS S w0 w (B ++ (A ++ C)) :=
  h.perm (by rw [← List.append_assoc, ← List.append_assoc]; exact List.Perm.append_right C List.perm_append_comm)
/-- The two objects of a running loop. -/
def loopE (L0 : Loop) (lb df : Nat) : List Ent := [.obj lb (lp L0 .ready none), .obj df (.deferred (some []))]
/-- The function f hands the values vs to the body of a loop, one by one. F: the pieces of memory that it holds at the start. I: what it asks of the world. -/
def Seq (P : Program) (I : World → Prop) (f : Nat) (fa ca : Array Value) (F : List Ent) (vs : List Value) : Prop :=
  ∀ (S : Nat → Prop) (w0 w1 : World) (L0 : Loop) (lb df : Nat) (M0 : List Ent) (R : Nat → List Ent → Prop) (K : Ending → World → Prop),
    (∀ (L : List Ent) (W : World), OwnS S w0 W L → I W) → OwnS S w0 w1 (loopE L0 lb df ++ (M0 ++ F)) → R 0 M0 →
    (∀ (k : Nat) (v : Value) (M X : List Ent) (W : World), vs[k]? = some v → R k M → OwnS S w0 W (loopE L0 lb df ++ (M ++ X)) →
      Yld P lb [v] W (fun r W' => (r = .bool true ∧ ∃ M', R (k + 1) M' ∧ OwnS S w0 W' (loopE L0 lb df ++ (M' ++ X))) ∨ (r = .bool false ∧ K (.returned (.tuple #[])) W'))) →
    (∀ (M X : List Ent) (W : World), R vs.length M → OwnS S w0 W (loopE L0 lb df ++ (M ++ X)) → K (.returned (.tuple #[])) W) →
    Calls P f (fa ++ #[.func (.yield lb) #[] #[]] ++ ca) w1 K
end Eng
end Go.Proofs.YtgffladaenimmaaGreatDoor
/- Contracts: octet.Find, octet.Last, and foliantref01's. -/
namespace Go.Proofs.YtgffladaenimmaaGreatDoor
set_option linter.unusedVariables false
set_option linter.unusedSimpArgs false
set_option linter.defProp false
open Eng Go.RowKit

/-- bytealg's variable is laid. -/
def Mx (w : World) : Prop := ∃ m, w.cell? ⟨1, 0, none⟩ = some (.int .i64 m)
theorem Mx.own {w0 w : World} {L : List Ent} (h : Mx w0) (ho : Own w0 w L) : Mx w := by
  obtain ⟨m, hm⟩ := h
  exact ⟨m, ho.old hm⟩
theorem m_max {P : Program} {T1 T2 U : TypeId} {cb : Array Bool} {k k' : IntKind} {a b : Int} {w : World} {PK : List PanicEntry → World → Prop} {K : Value → World → Prop} : DoX P (mB .max #[T1, T2] U cb #[.int k a, .int k' b]) w PK K = K (.int k (max a b)) w := by
  refine do_eq ?_
  have e : (if a < b then b else a) = max a b := by split <;> omega
  simp [mB, builtin, Builtin.max_, Builtin.max2, e]
theorem index_ret (s p : List UInt8) (w : World) (hm : Mx w) (hs : s.length < 4294967281) : Ret Tryz.prog 74 #[.string ⟨s.toArray⟩, .string ⟨p.toArray⟩] w (fun v w' => v = .int .i64 (Lib.index s p) ∧ w = w') := by
  obtain ⟨m, hm⟩ := hm
  refine ret_of fun K hK => Calls.mono (Tryz.strings_Index ⟨s.toArray⟩ ⟨p.toArray⟩ m w (by rw [str_size]; exact hs) hm) ?_
  rintro e w' ⟨rfl, rfl⟩
  exact hK _ _ ⟨by simp, rfl⟩
theorem lastIndex_ret (s p : List UInt8) (w : World) (hs : s.length < 4611686018427387904) : Ret Tryz.prog 77 #[.string ⟨s.toArray⟩, .string ⟨p.toArray⟩] w (fun v w' => v = .int .i64 (Lib.lastIndex s p) ∧ w = w') := by
  refine ret_of fun K hK => Calls.mono (Tryz.strings_LastIndex ⟨s.toArray⟩ ⟨p.toArray⟩ (by rw [str_size]; exact hs) w) ?_
  rintro e w' ⟨rfl, rfl⟩
  exact hK _ _ ⟨by simp, rfl⟩
theorem e_emp {p : List UInt8} {T : TypeId} {xo yo : Operand} {w : World} {PK : List PanicEntry → World → Prop} {K : Value → World → Prop} : DoX Tryz.prog (mEq .eql T xo yo (.string ⟨p.toArray⟩) (.string ⟨#[]⟩)) w PK K = K (.bool (decide (p = []))) w := e_str (b := [])
theorem n_emp {p : List UInt8} {T : TypeId} {xo yo : Operand} {w : World} {PK : List PanicEntry → World → Prop} {K : Value → World → Prop} : DoX Tryz.prog (mEq .neq T xo yo (.string ⟨p.toArray⟩) (.string ⟨#[]⟩)) w PK K = K (.bool (decide (p ≠ []))) w := n_str (b := [])
theorem index_bd (s p : List UInt8) : -1 ≤ Lib.index s p ∧ Lib.index s p ≤ s.length := by
  rcases Lib.index_spec s p with ⟨h, _⟩ | ⟨i, h, hi, _⟩
  · rw [h]; omega
  · rw [h]; omega
theorem find_ret (s p : List UInt8) (k : Int) (w : World) (hm : Mx w) (hs : s.length < 4294967281) : Ret Tryz.prog 37 #[.string ⟨s.toArray⟩, .string ⟨p.toArray⟩, .int .i64 k] w (fun v w' => v = .int .i64 (Hd.find s p k) ∧ w = w') := by
  refine ret_of fun K hK => S_octet_Find_ok ?_
  unfold S_octet_Find
  rw [m_max]
  simp only [e_emp]
  by_cases hp : p = []
  · simp only [hp, decide_true, rs, g_un]
    exact hK _ _ ⟨by rw [Hd.find, if_pos (.inl hp)], rfl⟩
  simp only [hp, decide_false, rs, s_len Tryz.underlying9]
  by_cases hl : (s.length : Int) < max k 0
  · simp only [hl, decide_true, i_t]
    exact hK _ _ ⟨by rw [Hd.find, if_pos (.inr hl)], rfl⟩
  simp only [hl, decide_false, i_f]
  rw [s_from Tryz.underlying9 (by omega) (by omega)]
  have hd : (s.drop (max k 0).toNat).length ≤ s.length := by rw [List.length_drop]; omega
  refine c_eq (index_ret _ p w hm (by omega)) ?_
  have hb := index_bd (s.drop (max k 0).toNat) p
  simp only [rs]
  by_cases hi : 0 ≤ Lib.index (s.drop (max k 0).toNat) p
  · simp only [hi, decide_true, i_t]
    rw [wrap64_id (by omega) (by omega)]
    exact hK _ _ ⟨by rw [Hd.find, if_neg (by rintro (h | h) <;> first | exact hp h | exact hl h), if_neg (by omega)], rfl⟩
  · simp only [hi, decide_false, i_f]
    exact hK _ _ ⟨by rw [Hd.find, if_neg (by rintro (h | h) <;> first | exact hp h | exact hl h), if_pos (by omega)], rfl⟩
theorem last_ret (s p : List UInt8) (w : World) (hs : s.length < 4611686018427387904) : Ret Tryz.prog 43 #[.string ⟨s.toArray⟩, .string ⟨p.toArray⟩] w (fun v w' => v = .int .i64 (Hd.last s p) ∧ w = w') := by
  refine ret_of fun K hK => S_octet_Last_ok ?_
  unfold S_octet_Last
  simp only [e_emp]
  by_cases hp : p = []
  · simp only [hp, decide_true, i_t]
    exact hK _ _ ⟨by rw [Hd.last, if_pos hp], rfl⟩
  · simp only [hp, decide_false, i_f]
    refine c_eq (lastIndex_ret s p w hs) ?_
    exact hK _ _ ⟨by rw [Hd.last, if_neg hp], rfl⟩
theorem begins_occ (s p : List UInt8) (i : Nat) (h : i ≤ s.length) : begins s p (i : Int) = Hd.occ s p i := by
  unfold begins Hd.occ Lib.occAt
  rw [decide_eq_true (by omega), decide_eq_true (by omega), Int.toNat_natCast]; rfl
theorem rfind_ret (s p : List UInt8) (k : Int) (w : World) (hs : s.length ≤ 1099511627776) (hk : k ≤ 1099511627776) : Ret Tryz.prog 40 #[.string ⟨s.toArray⟩, .string ⟨p.toArray⟩, .int .i64 k] w (fun v w' => v = .int .i64 (Hd.find s p k) ∧ w = w') := by
  refine ret_of fun K hK => S_foliantref01_Find_ok ?_
  unfold S_foliantref01_Find
  simp only [e_emp]
  by_cases hp : p = []
  · simp only [hp, decide_true, i_t]
    exact hK _ _ ⟨by rw [Hd.find, if_pos (.inl hp)], rfl⟩
  simp only [hp, decide_false, i_f]
  rw [m_max]
  refine loop (fun vs w' => ∃ i : Nat, vs = [.int .i64 i] ∧ max k 0 ≤ (i : Int) ∧ ((i : Int) ≤ max k 0 ∨ i ≤ s.length) ∧ (∀ j : Nat, max k 0 ≤ (j : Int) → j < i → Hd.occ s p j = false) ∧ w = w') (fun vs _ => s.length - n0 vs) ⟨(max k 0).toNat, by rw [Int.toNat_of_nonneg (by omega)], by omega, by omega, fun j h1 h2 => by omega, rfl⟩ ?_
  rintro vs w2 ⟨i, rfl, hki, hi, hn, rfl⟩ _
  simp only [S_foliantref01_Find_0, gd, s_len Tryz.underlying9, rs]
  by_cases hlt : (i : Int) < (s.length : Int)
  · simp only [hlt, decide_true, i_t]
    refine c_eq (rbegins_ret s p i w hs) ?_
    rw [begins_occ s p i (by omega)]
    cases ho : Hd.occ s p i with
    | true =>
      simp only [i_t]
      exact hK _ _ ⟨by rw [Hd.find_hit hp hki (by omega) ho hn], rfl⟩
    | false =>
      simp only [i_f]
      rw [wrap64_id (by omega) (by omega)]
      refine nextX ⟨i + 1, rfl, by omega, by omega, fun j h1 h2 => ?_, rfl⟩ (by simp [n0, intOf]; omega)
      rcases Nat.lt_or_ge j i with h | h
      · exact hn j h1 h
      · rw [show j = i by omega]; exact ho
  · simp only [hlt, decide_false, i_f]
    exact hK _ _ ⟨by rw [Hd.find_none fun j h1 h2 => hn j h1 (by omega)], rfl⟩
theorem rlast_ret (s p : List UInt8) (w : World) (hs : s.length ≤ 1099511627776) : Ret Tryz.prog 45 #[.string ⟨s.toArray⟩, .string ⟨p.toArray⟩] w (fun v w' => v = .int .i64 (Hd.last s p) ∧ w = w') := by
  refine ret_of fun K hK => S_foliantref01_Last_ok ?_
  unfold S_foliantref01_Last
  refine loop (fun vs w' => ∃ i : Nat, vs = [.int .i64 (if p = [] then -1 else Lib.lastOcc s p i), .int .i64 i] ∧ i ≤ s.length ∧ w = w') (fun vs _ => s.length - n1 vs) ⟨0, by simp [Lib.lastOcc], by omega, rfl⟩ ?_
  rintro vs w2 ⟨i, rfl, hi, rfl⟩ _
  simp only [S_foliantref01_Last_0, gd, s_len Tryz.underlying9, rs]
  by_cases hlt : (i : Int) < (s.length : Int)
  · simp only [hlt, decide_true, i_t]
    refine join fun J hJ => ?_
    have go : ∀ x : Int, x = (if p = [] then -1 else Lib.lastOcc s p (i + 1)) → J [.int .i64 x] w := by
      rintro x rfl
      refine hJ _ _ fun _ => ?_
      simp only [S_foliantref01_Last_1, gd, rs]
      rw [wrap64_id (by omega) (by omega)]
      exact nextX ⟨i + 1, rfl, by omega, rfl⟩ (by simp [n1, intOf]; omega)
    by_cases hp : p = []
    · simp only [hp, ne_eq, not_true, decide_false, rs, g_un]
      exact go _ (by rw [if_pos hp]; simp)
    · simp only [hp, ne_eq, not_false_eq_true, decide_true, rs]
      refine c_eq (rbegins_ret s p i w hs) ?_
      rw [begins_occ s p i (by omega)]
      cases ho : Hd.occ s p i with
      | true =>
        simp only [rs]
        exact go _ (by rw [if_neg hp, Lib.lastOcc_hit s p i ho])
      | false =>
        simp only [rs]
        exact go _ (by rw [if_neg hp, Lib.lastOcc_miss s p i ho]; simp [hp])
  · simp only [hlt, decide_false, i_f]
    refine hK _ _ ⟨?_, rfl⟩
    have : i = s.length := by omega
    subst this
    by_cases hp : p = []
    · rw [if_pos hp, Hd.last, if_pos hp]
    · rw [if_neg hp, Hd.last_occ hp]
end Go.Proofs.YtgffladaenimmaaGreatDoor
/- Contracts of foliantref03: Run, Integer, whole, point, long, word, name. -/
namespace Go.Proofs.YtgffladaenimmaaGreatDoor
set_option linter.unusedVariables false
set_option linter.unusedSimpArgs false
set_option linter.defProp false
open Eng Go.RowKit

theorem rrun_ret (s : List UInt8) (i : Nat) (w : World) (hs : s.length ≤ 1099511627776) (h : i ≤ s.length) : Ret Tryz.prog 119 #[.string ⟨s.toArray⟩, .int .i64 i] w (fun v w' => v = .int .i64 (Lx.run s i) ∧ w = w') := by
  refine ret_of fun K hK => S_foliantref03_Run_ok ?_
  unfold S_foliantref03_Run
  refine loop (fun vs w' => ∃ (j : Nat), vs = [.int .i64 j] ∧ j ≤ s.length ∧ Lx.run s j = Lx.run s i ∧ w = w') (fun vs _ => s.length - n0 vs) ⟨i, rfl, h, rfl, rfl⟩ ?_
  rintro vs w2 ⟨j, rfl, hj, he, rfl⟩ _
  simp only [S_foliantref03_Run_0, gd, s_len Tryz.underlying9]
  rw [b_lss]
  by_cases hlt : (j : Int) < (s.length : Int)
  · have hi2 : j < s.length := by omega
    have hd := Lx.drop_cons hi2
    simp only [hlt, decide_true, rs, s_at hi2]
    refine c_eq (rregular_ret s[j] w) ?_
    cases hr : Oc.regular s[j] with
    | true =>
      simp only [rs]
      rw [wrap64_id (by omega) (by omega)]
      refine nextX ⟨j + 1, rfl, by omega, ?_, rfl⟩ (by simp [n0, intOf]; omega)
      rw [← he, Lx.run, Lx.run, hd, Lx.runF, if_pos hr]; omega
    | false =>
      simp only [rs]
      refine hK _ _ ⟨?_, rfl⟩
      rw [← he, Lx.run, hd, Lx.runF, if_neg (by simp [hr])]; simp
  · have hi2 : j = s.length := by omega
    subst hi2
    simp only [hlt, decide_false, rs, g_un]
    refine hK _ _ ⟨?_, rfl⟩
    rw [← he, Lx.run, List.drop_length]; simp [Lx.runF]
theorem all_drop {s : List UInt8} {p : UInt8 → Bool} {i : Nat} (h : i < s.length) : (s.drop i).all p = (p s[i] && (s.drop (i + 1)).all p) := by
  rw [Lx.drop_cons h, List.all_cons]
theorem rinteger_ret (s : List UInt8) (w : World) (hs : s.length ≤ 1099511627776) : Ret Tryz.prog 151 #[.string ⟨s.toArray⟩] w (fun v w' => v = .bool (Lx.intForm s) ∧ w = w') := by
  refine ret_of fun K hK => S_foliantref03_Integer_ok ?_
  unfold S_foliantref03_Integer
  refine join fun J hJ => ?_
  have fin : J [.string ⟨(Lx.unsign s).toArray⟩] w := by
    refine hJ _ _ fun _ => ?_
    simp only [gd]
    have hu : (Lx.unsign s).length ≤ s.length := by
      cases s with
      | nil => simp [Lx.unsign]
      | cons c t => simp only [Lx.unsign]; split <;> simp
    have hI : Lx.intForm s = (!(Lx.unsign s).isEmpty && (Lx.unsign s).all Lx.dig) := rfl
    rw [hI] at hK
    generalize Lx.unsign s = u at *
    unfold S_foliantref03_Integer_0
    refine loop (fun vs w' => ∃ (i : Nat), vs = [.int .i64 i] ∧ i ≤ u.length ∧ u.all Lx.dig = (u.drop i).all Lx.dig ∧ w = w') (fun vs _ => u.length - n0 vs) ⟨0, rfl, by omega, rfl, rfl⟩ ?_
    rintro vs w2 ⟨i, rfl, hi, he, rfl⟩ _
    simp only [S_foliantref03_Integer_1, gd, s_len Tryz.underlying9]
    rw [b_lss]
    by_cases hlt : (i : Int) < (u.length : Int)
    · have hi2 : i < u.length := by omega
      have hne : u.isEmpty = false := by cases u with | nil => simp at hi2 | cons => rfl
      simp only [hlt, decide_true, i_t, s_at hi2]
      rw [all_drop hi2] at he
      by_cases h1 : (u[i].toNat : Int) < 48
      · simp only [rs, h1, decide_true, g_un]
        have hd : Lx.dig u[i] = false := by simp [Lx.dig]; omega
        exact hK _ _ ⟨by rw [he, hd, hne]; rfl, rfl⟩
      · by_cases h2 : (57 : Int) < (u[i].toNat : Int)
        · simp only [rs, h1, decide_false, s_at hi2, h2, decide_true]
          have hd : Lx.dig u[i] = false := by simp [Lx.dig]; omega
          exact hK _ _ ⟨by rw [he, hd, hne]; rfl, rfl⟩
        · simp only [rs, h1, decide_false, s_at hi2, h2]
          have hd : Lx.dig u[i] = true := by simp [Lx.dig]; omega
          rw [hd, Bool.true_and] at he
          rw [wrap64_id (by omega) (by omega)]
          exact nextX ⟨i + 1, rfl, by omega, he, rfl⟩ (by simp [n0, intOf]; omega)
    · have hi2 : i = u.length := by omega
      rw [show (⟨#[]⟩ : ByteArray) = ⟨([] : List UInt8).toArray⟩ from rfl]
      simp only [hlt, decide_false, i_f, rs]
      rw [hi2, List.drop_length, List.all_nil] at he
      refine hK _ _ ⟨?_, rfl⟩
      rw [he, Bool.and_true]
      cases u with
      | nil => rfl
      | cons => rfl
  rw [show (⟨#[]⟩ : ByteArray) = ⟨([] : List UInt8).toArray⟩ from rfl]
  cases s with
  | nil =>
    simp only [rs, ne_eq, not_true, decide_false, g_un]
    exact fin
  | cons c t =>
    have hx : ∀ {PK K}, DoX Tryz.prog (mIx 9 (.string ⟨(c :: t).toArray⟩) (.int .i64 0)) w PK K = K (.int .u8 (c.toNat : Int)) w := s_ix (c := c) Tryz.underlying9 (by omega) rfl
    have e1 := u8d c 43 43 rfl
    have e2 := u8d c 45 45 rfl
    have hne : ((c :: t) ≠ ([] : List UInt8)) := List.cons_ne_nil _ _
    simp only [rs, decide_eq_true hne, hx, e1]
    by_cases h1 : c = 43
    · simp only [rs, decide_eq_true h1, g_un]
      rw [s_from Tryz.underlying9 (by omega) (by simp; omega)]
      have : Lx.unsign (c :: t) = t := by simp [Lx.unsign, Lx.sgn, h1]
      rw [this] at fin
      exact fin
    · simp only [rs, decide_eq_false h1, hx, e2]
      by_cases h2 : c = 45
      · simp only [rs, decide_eq_true h2]
        rw [s_from Tryz.underlying9 (by omega) (by simp; omega)]
        have : Lx.unsign (c :: t) = t := by simp [Lx.unsign, Lx.sgn, h2]
        rw [this] at fin
        exact fin
      · simp only [rs, decide_eq_false h2]
        have : Lx.unsign (c :: t) = c :: t := by simp [Lx.unsign, Lx.sgn, h1, h2]
        rw [this] at fin
        exact fin
theorem val_le (l : List UInt8) : ∀ n, n ≤ Lx.val n l := by
  induction l with
  | nil => intro n; unfold Lx.val; exact Nat.le_refl n
  | cons c t ih =>
    intro n
    have h := ih (10 * n + (c.toNat - 48))
    unfold Lx.val at h ⊢
    rw [List.foldl_cons]
    omega
/-- The value of a run of digits with a sign: the sign counts nought. -/
def valS : Nat → List UInt8 → Nat
  | n, [] => n
  | n, c :: t => if Lx.sgn c then valS n t else valS (10 * n + (c.toNat - 48)) t
theorem rwhole_ret (s : List UInt8) (w : World) (hs : s.length ≤ 1099511627776) (hf : Lx.intForm s = true) : Ret Tryz.prog 152 #[.string ⟨s.toArray⟩] w (fun v w' => v = pair (Lx.whole s) ∧ w = w') := by
  refine ret_of fun K hK => S_foliantref03_whole_ok ?_
  unfold S_foliantref03_whole
  have hall : (Lx.unsign s).all Lx.dig = true := by
    rw [Lx.intForm, Bool.and_eq_true] at hf; exact hf.2
  obtain ⟨c, t, rfl⟩ : ∃ c t, s = c :: t := by
    cases s with
    | nil => simp [Lx.intForm, Lx.unsign] at hf
    | cons c t => exact ⟨c, t, rfl⟩
  have hd1 : ∀ x ∈ t, Lx.dig x = true := by
    intro x hx
    refine List.all_eq_true.1 hall x ?_
    cases hc : Lx.sgn c with
    | true => simpa [Lx.unsign, hc] using hx
    | false => simp [Lx.unsign, hc, hx]
  have hd0 : Lx.sgn c = false → Lx.dig c = true := by
    intro hc
    refine List.all_eq_true.1 hall c ?_
    simp [Lx.unsign, hc]
  have ns : ∀ x, Lx.dig x = true → Lx.sgn x = false := by
    intro x hx
    cases h : Lx.sgn x with
    | false => rfl
    | true => rw [sgn_not_dig x h] at hx; cases hx
  have hval : ∀ i, 1 ≤ i → i ≤ (c :: t).length → ∀ hi : i < (c :: t).length, Lx.dig (c :: t)[i] = true := by
    intro i h1 _ hi
    obtain ⟨j, rfl⟩ : ∃ j, i = j + 1 := ⟨i - 1, by omega⟩
    rw [List.getElem_cons_succ]
    exact hd1 _ (List.getElem_mem _)
  -- what stands behind i
  let rest (i : Nat) : List UInt8 := if i = 0 then Lx.unsign (c :: t) else (c :: t).drop i
  refine loop (fun vs w' => ∃ (i n : Nat), vs = [.int .i64 n, .int .i64 i] ∧ i ≤ (c :: t).length ∧ n ≤ 2147483647 ∧ Lx.val 0 (Lx.unsign (c :: t)) = Lx.val n (rest i) ∧ w = w') (fun vs _ => (c :: t).length - n1 vs) ⟨0, 0, rfl, by omega, by omega, rfl, rfl⟩ ?_
  rintro vs w2 ⟨i, n, rfl, hi, hn, he, rfl⟩ _
  simp only [S_foliantref03_whole_0, gd, s_len Tryz.underlying9]
  rw [b_lss]
  by_cases hlt : (i : Int) < ((c :: t).length : Int)
  · have hi2 : i < (c :: t).length := by omega
    simp only [hlt, decide_true, i_t]
    refine join fun J hJ => ?_
    simp only [s_at hi2]
    have e1 := u8d (c :: t)[i] 43 43 rfl
    have e2 := u8d (c :: t)[i] 45 45 rfl
    have go : ∀ n' : Nat, n' ≤ 2147483647 → Lx.val 0 (Lx.unsign (c :: t)) = Lx.val n' ((c :: t).drop (i + 1)) → J [.int .i64 n'] w := by
      intro n' h1 h2
      refine hJ _ _ fun _ => ?_
      simp only [S_foliantref03_whole_1, gd, rs]
      rw [wrap64_id (by omega) (by omega)]
      exact nextX ⟨i + 1, n', rfl, by omega, h1, h2, rfl⟩ (by simp [n1, intOf] at hi2 ⊢; omega)
    have skip : Lx.sgn (c :: t)[i] = true → J [.int .i64 n] w := by
      intro h
      rcases Nat.eq_zero_or_pos i with rfl | h0
      · refine go n hn ?_
        rw [he]
        have hc : Lx.sgn c = true := h
        simp [rest, Lx.unsign, hc]
      · rw [ns _ (hval i h0 hi hi2)] at h; cases h
    by_cases h1 : (c :: t)[i] = 43
    · simp only [rs, e1, decide_eq_true h1, g_un]
      exact skip (by rw [h1]; rfl)
    simp only [rs, e1, decide_eq_false h1, s_at hi2]
    by_cases h2 : (c :: t)[i] = 45
    · simp only [rs, e2, decide_eq_true h2]
      exact skip (by rw [h2]; rfl)
    simp only [rs, e2, decide_eq_false h2, s_at hi2]
    have hsg : Lx.sgn (c :: t)[i] = false := by simp only [Lx.sgn, h1, h2, decide_false, Bool.or_false]
    have hdg : Lx.dig (c :: t)[i] = true := by
      rcases Nat.eq_zero_or_pos i with rfl | h0
      · exact hd0 hsg
      · exact hval i h0 hi hi2
    have hd2 : 48 ≤ (c :: t)[i].toNat ∧ (c :: t)[i].toNat ≤ 57 := by simpa [Lx.dig] using hdg
    have hrest : rest i = (c :: t)[i] :: (c :: t).drop (i + 1) := by
      rcases Nat.eq_zero_or_pos i with rfl | h0
      · have hc : Lx.sgn c = false := hsg
        simp [rest, Lx.unsign, hc]
      · simp only [rest, if_neg (show ¬ i = 0 by omega)]
        exact Lx.drop_cons hi2
    have hstep : Lx.val n (rest i) = Lx.val (10 * n + ((c :: t)[i].toNat - 48)) ((c :: t).drop (i + 1)) := by
      rw [hrest]; unfold Lx.val; rw [List.foldl_cons]
    rw [wrap64_id (n := 10 * (n : Int)) (by omega) (by omega), c_int (show (Tryz.prog.underlying 5).isSome = true by kernel_rfl) Tryz.underlying2, wrap64_id (n := ((c :: t)[i].toNat : Int)) (by omega) (by omega)]
    simp only [rs]
    rw [wrap64_id (n := 10 * (n : Int) + ((c :: t)[i].toNat : Int)) (by omega) (by omega), wrap64_id (by omega) (by omega)]
    rw [show 10 * (n : Int) + ((c :: t)[i].toNat : Int) - 48 = ((10 * n + ((c :: t)[i].toNat - 48) : Nat) : Int) by omega]
    by_cases hbig : (2147483647 : Int) < ((10 * n + ((c :: t)[i].toNat - 48) : Nat) : Int)
    · simp only [hbig, decide_true, i_t]
      have hv := val_le ((c :: t).drop (i + 1)) (10 * n + ((c :: t)[i].toNat - 48))
      exact hK _ _ ⟨by rw [Lx.whole, if_pos (by rw [he, hstep]; omega)], rfl⟩
    · simp only [hbig, decide_false, i_f]
      exact go _ (by omega) (by rw [he, hstep])
  · have hi2 : i = (c :: t).length := by omega
    simp only [hlt, decide_false, i_f]
    have hr : rest i = [] := by
      simp only [rest, if_neg (show ¬ i = 0 by rw [hi2]; simp)]
      rw [hi2, List.drop_length]
    rw [hr] at he
    have he : Lx.val 0 (Lx.unsign (c :: t)) = n := he
    refine join fun J hJ => ?_
    rw [s_ix (c := c) Tryz.underlying9 (by omega) rfl]
    have e1 := u8d c 45 45 rfl
    by_cases h45 : c = 45
    · simp only [rs, e1, decide_eq_true h45]
      refine hJ _ _ fun _ => ?_
      simp only [S_foliantref03_whole_2, gd]
      rw [wrap64_id (by omega) (by omega)]
      exact hK _ _ ⟨by rw [Lx.whole, if_neg (by omega), if_pos (by rw [h45]; rfl), he], rfl⟩
    · simp only [rs, e1, decide_eq_false h45]
      refine hJ _ _ fun _ => ?_
      simp only [S_foliantref03_whole_2, gd]
      exact hK _ _ ⟨by rw [Lx.whole, if_neg (by omega), if_neg (by simpa using h45), he], rfl⟩
end Go.Proofs.YtgffladaenimmaaGreatDoor
/- Contracts of foliantref03: point, long, word, name. -/
namespace Go.Proofs.YtgffladaenimmaaGreatDoor
set_option linter.unusedVariables false
set_option linter.unusedSimpArgs false
set_option linter.defProp false
open Eng Go.RowKit

theorem rpoint_ret (s : List UInt8) (w : World) (hs : s.length ≤ 1099511627776) : Ret Tryz.prog 153 #[.string ⟨s.toArray⟩] w (fun v w' => v = .bool (s.contains 46) ∧ w = w') := by
  refine ret_of fun K hK => S_foliantref03_point_ok ?_
  unfold S_foliantref03_point
  refine loop (fun vs w' => ∃ (i : Nat), vs = [.int .i64 i] ∧ i ≤ s.length ∧ s.contains 46 = (s.drop i).contains 46 ∧ w = w') (fun vs _ => s.length - n0 vs) ⟨0, rfl, by omega, rfl, rfl⟩ ?_
  rintro vs w2 ⟨i, rfl, hi, he, rfl⟩ _
  simp only [S_foliantref03_point_0, gd, s_len Tryz.underlying9]
  rw [b_lss]
  by_cases hlt : (i : Int) < (s.length : Int)
  · have hi2 : i < s.length := by omega
    simp only [hlt, decide_true, i_t, s_at hi2]
    rw [Lx.drop_cons hi2, List.contains_cons] at he
    have e1 := u8d s[i] 46 46 rfl
    by_cases h : s[i] = 46
    · simp only [rs, e1, decide_eq_true h]
      exact hK _ _ ⟨by rw [he, h]; rfl, rfl⟩
    · simp only [rs, e1, decide_eq_false h]
      have hb : ((46 : UInt8) == s[i]) = false := by simpa using fun e : 46 = s[i] => h e.symm
      rw [hb, Bool.false_or] at he
      rw [wrap64_id (by omega) (by omega)]
      exact nextX ⟨i + 1, rfl, by omega, he, rfl⟩ (by simp [n0, intOf]; omega)
  · have hi2 : i = s.length := by omega
    simp only [hlt, decide_false, i_f]
    rw [hi2, List.drop_length] at he
    exact hK _ _ ⟨by rw [he]; rfl, rfl⟩
def wordR (t : List UInt8) : Lx.Tok × Int :=
  if Lx.intForm t then (⟨1, 0, 0, (Lx.whole t).1, []⟩, (Lx.whole t).2)
  else if t.contains 46 ∧ ((Fx.read t).2 = 0 ∨ (Fx.read t).2 = 2) then (⟨2, 0, 0, (Fx.read t).1, []⟩, (Fx.read t).2)
  else if 127 < t.length then Lx.refused 5
  else (⟨5, 0, 0, 0, t⟩, 0)
theorem wordR_wordT (t : List UInt8) (a r : Int) : Lx.wordT t a r = if (wordR t).2 ≠ 0 then Lx.refused (wordR t).2 else ({ (wordR t).1 with a := a, t := r }, 0) := by
  by_cases h1 : Lx.intForm t = true
  · have hW : wordR t = (⟨1, 0, 0, (Lx.whole t).1, []⟩, (Lx.whole t).2) := by rw [wordR, if_pos h1]
    rw [hW, Lx.wordT, if_pos h1]
  by_cases h2 : t.contains 46 = true ∧ (Fx.read t).2 = 0
  · have hW : wordR t = (⟨2, 0, 0, (Fx.read t).1, []⟩, 0) := by rw [wordR, if_neg h1, if_pos ⟨h2.1, .inl h2.2⟩, h2.2]
    rw [hW, Lx.wordT, if_neg h1, if_pos h2]; simp
  by_cases h3 : t.contains 46 = true ∧ (Fx.read t).2 = 2
  · have hW : wordR t = (⟨2, 0, 0, (Fx.read t).1, []⟩, 2) := by rw [wordR, if_neg h1, if_pos ⟨h3.1, .inr h3.2⟩, h3.2]
    rw [hW, Lx.wordT, if_neg h1, if_neg h2, if_pos h3]; simp
  have hn : ¬ (t.contains 46 = true ∧ ((Fx.read t).2 = 0 ∨ (Fx.read t).2 = 2)) := by
    rintro ⟨h, h' | h'⟩
    · exact h2 ⟨h, h'⟩
    · exact h3 ⟨h, h'⟩
  rw [Lx.wordT, if_neg h1, if_neg h2, if_neg h3, Lx.told]
  by_cases h4 : 127 < t.length
  · have hW : wordR t = Lx.refused 5 := by rw [wordR, if_neg h1, if_neg hn, if_pos h4]
    rw [hW, if_pos (by omega)]; simp [Lx.refused]
  · have hW : wordR t = (⟨5, 0, 0, 0, t⟩, 0) := by rw [wordR, if_neg h1, if_neg hn, if_neg h4]
    rw [hW, if_neg (by omega)]; simp
theorem read_long {t : List UInt8} (h : 508 < t.length) : (Fx.read t).2 = 3 := by
  rw [Fx.read, if_neg]
  simp [Fx.form]; omega
section
variable {w : World} {PK : List PanicEntry → World → Prop} {K : Value → World → Prop}
theorem m_tok03 {k n : Int} : DoX Tryz.prog (mBuild 63 #[(0, .int .i64 k), (3, .int .i64 n)]) w PK K = K (tokV ⟨k, 0, 0, n, []⟩) w := do_eq (by kernel_rfl)
theorem m_tok04 {k : Int} {s : List UInt8} : DoX Tryz.prog (mBuild 63 #[(0, .int .i64 k), (4, .string ⟨s.toArray⟩)]) w PK K = K (tokV ⟨k, 0, 0, 0, s⟩) w := do_eq (by kernel_rfl)
theorem m_tok012 {k a t : Int} : DoX Tryz.prog (mBuild 63 #[(0, .int .i64 k), (1, .int .i64 a), (2, .int .i64 t)]) w PK K = K (tokV ⟨k, a, t, 0, []⟩) w := do_eq (by kernel_rfl)
end
theorem rlong_ret (s : List UInt8) (w : World) (hs : s.length ≤ 1099511627776) (hl : 508 < s.length) : Ret Tryz.prog 150 #[.string ⟨s.toArray⟩] w (fun v w' => v = tokR (wordR s) ∧ Below w.heap.size w w') := by
  refine ret_of fun K hK => S_foliantref03_long_ok ?_
  unfold S_foliantref03_long
  refine o_tok (Own.start w) fun b w1 ho => ?_
  refine c_eq (rinteger_ret s w1 hs) ?_
  by_cases hi : Lx.intForm s = true
  · simp only [hi, rs, Bool.not_true]
    refine c_eq (rwhole_ret s w1 hs hi) ?_
    simp only [pair, ex, m_tok03]
    exact tok_put 0 ho rfl fun w' ho => hK _ _ ⟨by rw [wordR, if_pos hi], ho.done⟩
  · have hi' : Lx.intForm s = false := by simpa using hi
    simp only [hi', rs, Bool.not_false, m_tok0]
    refine tok_put 0 ho rfl fun w' ho => hK _ _ ⟨?_, ho.done⟩
    rw [wordR, if_neg hi, if_neg (by rw [read_long hl]; rintro ⟨_, h | h⟩ <;> cases h), if_pos (by omega)]
    rfl
 attribute [local congr] g_congr in
theorem rword_ret (s : List UInt8) (w : World) (hs : s.length ≤ 1099511627776) : Ret Tryz.prog 123 #[.string ⟨s.toArray⟩] w (fun v w' => v = tokR (wordR s) ∧ Below w.heap.size w w') := by
  refine ret_of fun K hK => S_foliantref03_word_ok ?_
  unfold S_foliantref03_word
  refine o_tok (Own.start w) fun b w1 ho => ?_
  by_cases hl : (508 : Int) < (s.length : Int)
  · simp only [s_len Tryz.underlying9, rs, hl, decide_true]
    exact tok_tail 0 ho rfl (rlong_ret s w1 hs (by omega)) fun w' hb => hK _ _ ⟨rfl, hb⟩
  simp only [s_len Tryz.underlying9, rs, hl, decide_false]
  refine c_eq (rinteger_ret s w1 hs) ?_
  by_cases hi : Lx.intForm s = true
  · simp only [hi, i_t]
    refine c_eq (rwhole_ret s w1 hs hi) ?_
    simp only [pair, ex, m_tok03]
    exact tok_put 0 ho rfl fun w' ho => hK _ _ ⟨by rw [wordR, if_pos hi], ho.done⟩
  have hi' : Lx.intForm s = false := by simpa using hi
  simp only [hi', i_f]
  refine join fun J hJ => ?_
  have fin : ∀ w2 n, Own w w2 [tokE b Lx.none_] → ¬ (s.contains 46 = true ∧ ((Fx.read s).2 = 0 ∨ (Fx.read s).2 = 2)) → J [.int .i64 n] w2 := by
    intro w2 n ho hn
    refine hJ _ _ fun _ => ?_
    simp only [S_foliantref03_word_0, s_len Tryz.underlying9, rs]
    by_cases h : (127 : Int) < (s.length : Int)
    · simp only [h, decide_true, i_t, m_tok0]
      exact tok_put 0 ho rfl fun w' ho => hK _ _ ⟨by rw [wordR, if_neg hi, if_neg hn, if_pos (by omega)]; rfl, ho.done⟩
    · simp only [h, decide_false, i_f, m_tok04]
      exact tok_put 0 ho rfl fun w' ho => hK _ _ ⟨by rw [wordR, if_neg hi, if_neg hn, if_neg (by omega)], ho.done⟩
  refine c_eq (rpoint_ret s w1 hs) ?_
  by_cases hp : s.contains 46 = true
  · simp only [hp, i_t]
    refine c_below ho (rread_ret s w1 (by omega)) ?_
    rintro _ w2 rfl ho
    simp only [pair, ex]
    by_cases h1 : (Fx.read s).2 = 0 ∨ (Fx.read s).2 = 2
    · have hb : (decide ((Fx.read s).2 = 0) || decide ((Fx.read s).2 = 2)) = true := by simpa using h1
      simp +contextual only [rs, gs, hb, i_t, m_tok03]
      exact tok_put 0 ho rfl fun w' ho => hK _ _ ⟨by rw [wordR, if_neg hi, if_pos ⟨hp, h1⟩], ho.done⟩
    · have hb : (decide ((Fx.read s).2 = 0) || decide ((Fx.read s).2 = 2)) = false := by simpa using h1
      simp +contextual only [rs, gs, hb, i_f]
      exact fin _ _ ho fun h => h1 h.2
  · have hp' : s.contains 46 = false := by simpa using hp
    simp only [hp', i_f]
    exact fin _ _ ho fun h => hp h.1
def nameR (t : List UInt8) : List UInt8 × Int := match Lx.nameF t with
  | none => ([], 3)
  | some x => if 127 < x.length then ([], 5) else (x, 0)
theorem nameF_hash {t : List UInt8} {i : Nat} (h : i < t.length) (h35 : t[i] = 35) : Lx.nameF (t.drop i) = if h2 : i + 2 < t.length then (if Lx.digit t[i + 1] < 0 ∨ Lx.digit t[i + 2] < 0 ∨ 16 * Lx.digit t[i + 1] + Lx.digit t[i + 2] = 0 then none else (Lx.nameF (t.drop (i + 3))).map (Lx.byte (Lx.digit t[i + 1]) (Lx.digit t[i + 2]) :: ·)) else none := by
  rw [Lx.drop_cons h]
  by_cases h2 : i + 2 < t.length
  · rw [dif_pos h2, Lx.drop_cons (show i + 1 < t.length by omega), Lx.drop_cons (show i + 1 + 1 < t.length by omega), Lx.nameF, if_pos h35]
  · rw [dif_neg h2]
    cases hd : t.drop (i + 1) with
    | nil => simp [Lx.nameF, h35]
    | cons x u =>
      cases u with
      | nil => simp [Lx.nameF, h35]
      | cons y u =>
        have := congrArg List.length hd
        simp at this; omega
 attribute [local congr] g_congr in
theorem rnamet_ret (t : List UInt8) (w : World) (hs : t.length ≤ 1099511627776) : Ret Tryz.prog 120 #[.string ⟨t.toArray⟩] w (fun v w' => v = .tuple #[.string ⟨(nameR t).1.toArray⟩, .int .i64 (nameR t).2] ∧ Below w.heap.size w w') := by
  refine ret_of fun K hK => S_foliantref03_name_ok ?_
  unfold S_foliantref03_name
  refine loop (fun vs w' => ∃ (i : Nat) (v : Value) (acc : List UInt8), vs = [v, .int .i64 i] ∧ i ≤ t.length ∧ acc.length ≤ i ∧ Lx.nameF t = (Lx.nameF (t.drop i)).map (acc ++ ·) ∧ Own w w' [BRow v acc])
    (fun vs _ => t.length - n1 vs) ⟨0, _, [], rfl, by omega, by simp, by simp, (Own.start w).nilRow _ 1⟩ ?_
  rintro vs w4 ⟨i, v, acc, rfl, hi, hacc, he, ho⟩ _
  simp only [S_foliantref03_name_0, gd, s_len Tryz.underlying9]
  rw [b_lss]
  have bad : ∀ {w5}, Own w w5 [BRow v acc] → Lx.nameF (t.drop i) = none → K (.returned (.tuple #[.string ⟨#[]⟩, .int .i64 3])) w5 := by
    intro w5 ho hn
    rw [hn] at he
    exact hK _ _ ⟨by rw [nameR, he]; rfl, ho.done⟩
  by_cases hlt : (i : Int) < (t.length : Int)
  · have hi3 : i < t.length := by omega
    simp only [hlt, decide_true, i_t, s_at hi3]
    have e1 := u8d t[i] 35 35 rfl
    refine join fun J hJ => ?_
    have fin : ∀ (j : Nat) (c : UInt8) (n : Int) (w5 : World), (c.toNat : Int) = n → i ≤ j → j < t.length → Lx.nameF t = (Lx.nameF (t.drop (j + 1))).map (acc ++ c :: ·) → Own w w5 [BRow v acc] → J [.int .i64 j, .int .u8 n] w5 := by
      intro j c n w5 hc hij hjt he ho
      refine hJ _ _ fun _ => ?_
      simp only [S_foliantref03_name_1, gd]
      refine o_app1 c hc ho (by omega) fun v' w6 ho => ?_
      rw [b_add, wrap64_id (by omega) (by omega)]
      refine nextX ⟨j + 1, v', acc ++ [c], rfl, by omega, by simp; omega, ?_, ho⟩ (by simp [n1, intOf]; omega)
      rw [he]
      congr 1
      funext x; simp
    by_cases h35 : t[i] = 35
    · simp only [rs, e1, decide_eq_true h35, s_len Tryz.underlying9]
      rw [wrap64_id (by omega) (by omega)]
      have hnf := nameF_hash hi3 h35
      by_cases hend : (t.length : Int) ≤ (i : Int) + 2
      · simp only [hend, decide_true, i_t]
        rw [dif_neg (by omega)] at hnf
        exact bad ho hnf
      · simp only [hend, decide_false, i_f]
        have hi6 : i + 2 < t.length := by omega
        have hi5 : i + 1 < t.length := by omega
        rw [dif_pos hi6] at hnf
        have b1 := Lx.digit_bd t[i + 1]
        have b2 := Lx.digit_bd t[i + 2]
        have hw1 : IntKind.wrap .i64 ((i : Int) + 1) = ((i + 1 : Nat) : Int) := by rw [wrap64_id (by omega) (by omega)]; omega
        have hw2 : IntKind.wrap .i64 ((i : Int) + 2) = ((i + 2 : Nat) : Int) := by rw [wrap64_id (by omega) (by omega)]; omega
        have hc1 : t[((i + 1 : Nat) : Int).toNat]? = some t[i + 1] := by rw [Int.toNat_natCast]; simp [hi5]
        have hc2 : t[((i + 2 : Nat) : Int).toNat]? = some t[i + 2] := by rw [Int.toNat_natCast]; simp [hi6]
        refine quiet (q_do (.int .i64 ((i + 1 : Nat) : Int)) (fun w => by rw [r_add, hw1]) ?_)
        refine q_do _ (fun w => run_s_ix (c := t[i + 1]) Tryz.underlying9 (Int.natCast_nonneg _) hc1) ?_
        refine q_call (.int .i64 (Lx.digit t[i + 1])) (fun w hb => ret_same (rdigit_ret t[i + 1] w) hb) ?_
        refine q_do (.int .i64 ((i + 2 : Nat) : Int)) (fun w => by rw [r_add, hw2]) ?_
        refine q_do _ (fun w => run_s_ix (c := t[i + 2]) Tryz.underlying9 (Int.natCast_nonneg _) hc2) ?_
        refine q_call (.int .i64 (Lx.digit t[i + 2])) (fun w hb => ret_same (rdigit_ret t[i + 2] w) hb) ?_
        intro w5 hb
        have ho := ho.grow hb
        have hw3 : IntKind.wrap .i64 (16 * Lx.digit t[i + 1]) = 16 * Lx.digit t[i + 1] := wrap64_id (by omega) (by omega)
        have hw4 : IntKind.wrap .i64 (16 * Lx.digit t[i + 1] + Lx.digit t[i + 2]) = 16 * Lx.digit t[i + 1] + Lx.digit t[i + 2] := wrap64_id (by omega) (by omega)
        simp +contextual only [rs, gs, hw3, hw4]
        by_cases hbad : Lx.digit t[i + 1] < 0 ∨ Lx.digit t[i + 2] < 0 ∨ 16 * Lx.digit t[i + 1] + Lx.digit t[i + 2] = 0
        · have hb2 : (decide (Lx.digit t[i + 1] < 0) || decide (Lx.digit t[i + 2] < 0) || decide (16 * Lx.digit t[i + 1] + Lx.digit t[i + 2] = 0)) = true := by
            simpa [or_assoc] using hbad
          simp only [hb2, i_t]
          rw [if_pos hbad] at hnf
          exact bad ho hnf
        · have hb2 : (decide (Lx.digit t[i + 1] < 0) || decide (Lx.digit t[i + 2] < 0) || decide (16 * Lx.digit t[i + 1] + Lx.digit t[i + 2] = 0)) = false := by
            rw [Bool.or_eq_false_iff, Bool.or_eq_false_iff]; simp only [decide_eq_false_iff_not]; exact ⟨⟨fun h => hbad (.inl h), fun h => hbad (.inr (.inl h))⟩, fun h => hbad (.inr (.inr h))⟩
          simp only [hb2, i_f]
          rw [if_neg hbad] at hnf
          have hb0 := byte_nat (a := Lx.digit t[i + 1]) (b := Lx.digit t[i + 2]) (by omega) (by omega) (by omega) (by omega)
          rw [c_8, wrap8_id (by omega) (by omega)]
          refine fin (i + 2) _ _ _ hb0 (by omega) (by omega) ?_ ho
          rw [he, hnf, Option.map_map]
          rfl
    · simp only [rs, e1, decide_eq_false h35]
      refine fin i t[i] _ _ rfl (by omega) hi3 ?_ ho
      rw [he, Lx.drop_cons hi3, Lx.nameF_ne h35, Option.map_map]
      rfl
  · have hi3 : i = t.length := by omega
    subst hi3
    rw [List.drop_length, Lx.nameF, Option.map_some, List.append_nil] at he
    simp only [hlt, decide_false, i_f, sl_len Tryz.underlying88 (ho.slRow 0 rfl), rs]
    by_cases h127 : (127 : Int) < (acc.length : Int)
    · simp only [h127, decide_true, i_t]
      exact hK _ _ ⟨by rw [nameR, he]; simp only; rw [if_pos (by omega)], ho.done⟩
    · simp only [h127, decide_false, i_f, o_strB 0 ho rfl]
      exact hK _ _ ⟨by rw [nameR, he]; simp only; rw [if_neg (by omega)], ho.done⟩
end Go.Proofs.YtgffladaenimmaaGreatDoor
/- Contracts of foliantref03: escape, text, hex. -/
namespace Go.Proofs.YtgffladaenimmaaGreatDoor
set_option linter.unusedVariables false
set_option linter.unusedSimpArgs false
set_option linter.defProp false
open Eng Go.RowKit

theorem o_appS {S : Nat → Prop} {w0 w : World} {L : List Ent} {v : Value} {l m : List UInt8} {cs : Array Bool} {PK : List PanicEntry → World → Prop} {K : Value → World → Prop}
    (ho : OwnS S w0 w (BRow v l :: L)) (hb : l.length + m.length ≤ 140737488355328) (k : ∀ v' w', OwnS S w0 w' (BRow v' (l ++ m) :: L) → K v' w') :
    DoX Tryz.prog (mB .append #[88, 9] 88 cs #[v, .string ⟨m.toArray⟩]) w PK K := by
  refine o_append_str 0 Tryz.underlying88 Tryz.underlying9 (show elB Tryz.prog 5 1 1 = true by kernel_rfl) Tryz.underlying5 (by kernel_rfl) ho rfl (by omega) fun v' w5 _ h5 => ?_
  refine k v' w5 ?_
  have e : BRow v' (l ++ m) = .row 5 1 v' (l.length + m.length) (bytesV l ++ bytesV m) := by
    rw [BRow, bytesV_append, List.length_append]
  rw [e]
  exact h5
def escs : List UInt8 := [110, 114, 116, 98, 102]
def escB : List UInt8 := [10, 13, 9, 8, 12]
theorem escL_hit : ∀ i : Fin 5, Lx.escL (escs[i.val]'(i.isLt)) = some (escB[i.val]'(i.isLt)) := by decide
theorem escL_miss (c : UInt8) (h : ∀ j (hj : j < 5), escs[j]'hj ≠ c) : Lx.escL c = none := by
  have h0 : (110 : UInt8) ≠ c := h 0 (by decide)
  have h1 : (114 : UInt8) ≠ c := h 1 (by decide)
  have h2 : (116 : UInt8) ≠ c := h 2 (by decide)
  have h3 : (98 : UInt8) ≠ c := h 3 (by decide)
  have h4 : (102 : UInt8) ≠ c := h 4 (by decide)
  have n : ∀ x : UInt8, x ≠ c → ¬ c = x := fun x hx e => hx e.symm
  rw [Lx.escL, if_neg (n _ h0), if_neg (n _ h1), if_neg (n _ h2), if_neg (n _ h3), if_neg (n _ h4)]
theorem rescape_ret (s : List UInt8) (a : Nat) (w : World) (hs : s.length ≤ 1099511627776) (h : a + 1 < s.length) : Ret Tryz.prog 148 #[.string ⟨s.toArray⟩, .int .i64 a] w (fun v w' => v = .tuple #[.string ⟨(Lx.escF (s.drop (a + 1))).1.toArray⟩, .int .i64 ((a + 1 + (Lx.escF (s.drop (a + 1))).2 : Nat) : Int)] ∧ Below w.heap.size w w') := by
  refine ret_of fun K hK => S_foliantref03_escape_ok ?_
  unfold S_foliantref03_escape
  have hw : ∀ k : Nat, k ≤ 100 → IntKind.wrap .i64 ((a : Int) + (k : Int)) = ((a + k : Nat) : Int) := fun k hk => by rw [wrap64_id (by omega) (by omega)]; omega
  have hw1 : IntKind.wrap .i64 ((a : Int) + 1) = ((a + 1 : Nat) : Int) := hw 1 (by omega)
  have hw2 : IntKind.wrap .i64 ((a : Int) + 2) = ((a + 2 : Nat) : Int) := hw 2 (by omega)
  have hw3 : IntKind.wrap .i64 ((a : Int) + 3) = ((a + 3 : Nat) : Int) := hw 3 (by omega)
  have hw4 : IntKind.wrap .i64 ((a : Int) + 4) = ((a + 4 : Nat) : Int) := hw 4 (by omega)
  simp only [rs, hw1, s_at h]
  have hd := Lx.drop_cons h
  generalize hc : s[a + 1] = c at *
  refine loop (fun vs w' => ∃ (i : Nat), vs = [.int .i64 i] ∧ i ≤ 5 ∧ (∀ j (hj : j < 5), j < i → escs[j]'hj ≠ c) ∧ w = w') (fun vs _ => 5 - n0 vs) ⟨0, rfl, by omega, fun j _ hj => absurd hj (by omega), rfl⟩ ?_
  rintro vs w2 ⟨i, rfl, hi, hmiss, rfl⟩ _
  simp only [S_foliantref03_escape_0, gd]
  rw [show (⟨#[110, 114, 116, 98, 102]⟩ : ByteArray) = ⟨escs.toArray⟩ from rfl, show (⟨#[10, 13, 9, 8, 12]⟩ : ByteArray) = ⟨escB.toArray⟩ from rfl, s_len Tryz.underlying9, b_lss, show ((escs.length : Nat) : Int) = 5 from rfl]
  by_cases hlt : (i : Int) < 5
  · have hi2 : i < 5 := by omega
    have hi3 : i < escs.length := hi2
    simp only [hlt, decide_true, i_t, s_at hi3]
    rw [e_int, show decide ((c.toNat : Int) = (escs[i].toNat : Int)) = decide (c = escs[i]) from u8d c _ _ rfl]
    by_cases he : c = escs[i]
    · simp only [decide_eq_true he, i_t, rs, hw2]
      rw [wrap64_id (by omega) (by omega), s_cut (s := escB) (i := i) (j := i + 1) rfl (by simp) (by omega) (by show i + 1 ≤ 5; omega), cut_one (s := escB) (i := i) hi2]
      have hh : Lx.escL c = some (escB[i]'hi2) := by rw [he]; exact escL_hit ⟨i, hi2⟩
      refine hK _ _ ⟨?_, (Own.start w).done⟩
      rw [hd, Lx.escF, hh]
      rfl
    · simp only [decide_eq_false he, i_f, rs]
      rw [wrap64_id (by omega) (by omega)]
      refine nextX ⟨i + 1, rfl, by omega, ?_, rfl⟩ (by simp [n0, intOf]; omega)
      intro j hj hji e
      rcases Nat.lt_or_ge j i with h1 | h1
      · exact hmiss j hj h1 e
      · have : j = i := by omega
        subst this
        exact he e.symm
  · have hi2 : i = 5 := by omega
    have hl : Lx.escL c = none := escL_miss c fun j hj => hmiss j hj (by omega)
    simp only [hlt, decide_false, i_f]
    have e1 := u8d c 13 13 rfl
    have e2 := u8d c 10 10 rfl
    have hEol : ∀ n, Lx.eol c = true → Lx.lineF (c :: s.drop (a + 1 + 1)) = n → Lx.escF (s.drop (a + 1)) = ([], n) := by
      intro n h1 h2
      rw [hd, Lx.escF, hl]
      simp only [h1, if_true, h2]
    by_cases g1 : c = 13
    · have g10 : ¬ c = 10 := by rw [g1]; decide
      have one : (¬ (s.drop (a + 1 + 1)).head? = some 10) → K (.returned (.tuple #[.string ⟨#[]⟩, .int .i64 ((a + 2 : Nat) : Int)])) w := by
        intro hh
        refine hK _ _ ⟨?_, (Own.start w).done⟩
        rw [hEol 1 (by simp [Lx.eol, g1]) (by rw [Lx.lineF, if_neg g10, if_pos g1, if_neg hh])]
        rfl
      by_cases g2 : ((a + 2 : Nat) : Int) < (s.length : Int)
      · have ha2 : a + 2 < s.length := by omega
        have hd2 := Lx.drop_cons ha2
        simp only [rs, e1, decide_eq_true g1, hw2, s_len Tryz.underlying9, g2, decide_true, s_at ha2]
        have e3 := u8d s[a + 2] 10 10 rfl
        by_cases g3 : s[a + 2] = 10
        · simp only [rs, e3, decide_eq_true g3, hw3]
          refine hK _ _ ⟨?_, (Own.start w).done⟩
          rw [hEol 2 (by simp [Lx.eol, g1]) (by rw [Lx.lineF, if_neg g10, if_pos g1, if_pos (by rw [show a + 1 + 1 = a + 2 from rfl, hd2, List.head?_cons, g3])])]
          rfl
        · simp only [rs, e3, decide_eq_false g3, g_un, e1, decide_eq_true g1, hw2]
          exact one (by rw [show a + 1 + 1 = a + 2 from rfl, hd2, List.head?_cons]; simpa using g3)
      · simp only [rs, e1, decide_eq_true g1, hw2, s_len Tryz.underlying9, g2, decide_false, g_un]
        exact one (by rw [List.drop_eq_nil_of_le (by omega)]; simp)
    simp only [rs, e1, decide_eq_false g1, g_un]
    by_cases g2 : c = 10
    · simp only [rs, e2, decide_eq_true g2, hw2]
      refine hK _ _ ⟨?_, (Own.start w).done⟩
      rw [hEol 1 (by simp [Lx.eol, g2]) (by rw [Lx.lineF, if_pos g2])]
      rfl
    simp only [rs, e2, decide_eq_false g2, hw1]
    have hE : Lx.escF (s.drop (a + 1)) = if 0 < (Lx.octF 3 0 (s.drop (a + 1))).2 then ([UInt8.ofNat (Lx.octF 3 0 (s.drop (a + 1))).1], (Lx.octF 3 0 (s.drop (a + 1))).2) else ([c], 1) := by
      rw [hd, Lx.escF, hl]
      simp only [Lx.eol, g1, g2, decide_false, Bool.or_false, Bool.false_eq_true, if_false]
    refine loop (fun vs w' => ∃ (j n : Nat), vs = [.int .i64 n, .int .i64 j] ∧ a + 1 ≤ j ∧ j ≤ a + 4 ∧ j ≤ s.length ∧ n < 8 ^ (j - (a + 1)) ∧ Lx.octF 3 0 (s.drop (a + 1)) = ((Lx.octF (3 - (j - (a + 1))) n (s.drop j)).1, (Lx.octF (3 - (j - (a + 1))) n (s.drop j)).2 + (j - (a + 1))) ∧ w = w')
      (fun vs _ => a + 4 - n1 vs) ⟨a + 1, 0, rfl, by omega, by omega, by omega, by simp, by simp, rfl⟩ ?_
    rintro vs w3 ⟨j, n, rfl, hj1, hj2, hj3, hn, ho8, rfl⟩ _
    simp only [S_foliantref03_escape_1, gd, s_len Tryz.underlying9]
    have hn2 : n < 512 := Nat.lt_of_lt_of_le hn (Nat.pow_le_pow_right (by decide) (by omega : j - (a + 1) ≤ 3))
    have stop : Lx.octF (3 - (j - (a + 1))) n (s.drop j) = (n, 0) → DoX Tryz.prog (mBin .add 3 (.int .i64 a) (.int .i64 1)) w (pk K) fun t96 w =>
        DoX Tryz.prog (mBin .gtr 3 (.int .i64 j) t96) w (pk K) fun t97 w =>
        IfX t97 (DoX Tryz.prog (mBin .rem 3 (.int .i64 n) (.int .i64 256)) w (pk K) fun t99 w =>
        DoX Tryz.prog (mConv 3 5 t99) w (pk K) fun t100 w =>
        DoX Tryz.prog (mBuildS 88 1 #[(0, t100)]) w (pk K) fun t101 w =>
        DoX Tryz.prog (mConv 88 9 t101) w (pk K) fun t102 w =>
        K (.returned (.tuple #[t102, .int .i64 j])) w) (DoX Tryz.prog (mBin .add 3 (.int .i64 a) (.int .i64 1)) w (pk K) fun t106 w =>
        DoX Tryz.prog (mBin .add 3 (.int .i64 a) (.int .i64 2)) w (pk K) fun t108 w =>
        DoX Tryz.prog (mSlice 9 (.string ⟨s.toArray⟩) (some t106) (some t108) none) w (pk K) fun t109 w =>
        DoX Tryz.prog (mBin .add 3 (.int .i64 a) (.int .i64 2)) w (pk K) fun t111 w =>
        K (.returned (.tuple #[t109, t111])) w) := by
      intro h0
      rw [h0] at ho8
      simp only [rs, hw1, hw2]
      by_cases hij : ((a + 1 : Nat) : Int) < (j : Int)
      · simp only [hij, decide_true, i_t]
        rw [b_rem (by omega), c_8, wrap8_mod, Int.tmod_eq_emod_of_nonneg (by omega)]
        refine o_str1 (UInt8.ofNat n) (by rw [UInt8.toNat_ofNat']; omega) (Own.start w) fun w' ho => ?_
        refine hK _ _ ⟨?_, ho.done⟩
        rw [hE, ho8, if_pos (by simp; omega)]
        simp only
        rw [show a + 1 + (0 + (j - (a + 1))) = j by omega]
      · simp only [hij, decide_false, i_f]
        rw [s_cut (i := a + 1) (j := a + 2) rfl rfl (by omega) (by omega), show Lx.cut s (a + 1) (a + 2) = [s[a + 1]] from cut_one h, hc]
        refine hK _ _ ⟨?_, (Own.start w).done⟩
        rw [hE, ho8, if_neg (by simp; omega)]
        rfl
    by_cases hlt : (j : Int) < (s.length : Int)
    · have hj4 : j < s.length := by omega
      have hdj := Lx.drop_cons hj4
      by_cases hj5 : (j : Int) < ((a + 4 : Nat) : Int)
      · obtain ⟨m, hm⟩ : ∃ m, 3 - (j - (a + 1)) = m + 1 := ⟨3 - (j - (a + 1)) - 1, by omega⟩
        rw [hm, hdj, Lx.octF] at ho8
        by_cases h48 : (48 : Int) ≤ (s[j].toNat : Int)
        · by_cases h55 : (s[j].toNat : Int) ≤ 55
          · have hoct : Lx.oct s[j] = true := by simp [Lx.oct]; omega
            simp only [hlt, decide_true, rs, hw4, hj5, s_at hj4, h48, h55]
            rw [c_64 (by omega) (by omega)]
            simp only [rs]
            rw [wrap64_id (n := 8 * (n : Int)) (by omega) (by omega), wrap64_id (n := 8 * (n : Int) + (s[j].toNat : Int)) (by omega) (by omega), wrap64_id (by omega) (by omega), wrap64_id (by omega) (by omega)]
            rw [if_pos hoct] at ho8
            refine nextX ⟨j + 1, 8 * n + (s[j].toNat - 48), by simp; omega, by omega, by omega, by omega, ?_, ?_, rfl⟩ (by simp [n1, intOf]; omega)
            · rw [show j + 1 - (a + 1) = (j - (a + 1)) + 1 by omega, Nat.pow_succ]; omega
            · rw [ho8, show 3 - (j + 1 - (a + 1)) = m by omega]
              refine Prod.ext rfl ?_
              simp only; omega
          · have hst := stop (by rw [hm, hdj, Lx.octF, if_neg]; simp [Lx.oct]; omega)
            simp only [rs, hlt, decide_true, hw4, hj5, s_at hj4, h48, h55, decide_false, g_un] at hst ⊢
            exact hst
        · have hst := stop (by rw [hm, hdj, Lx.octF, if_neg]; simp [Lx.oct]; omega)
          simp only [rs, hlt, decide_true, hw4, hj5, s_at hj4, h48, decide_false, g_un] at hst ⊢
          exact hst
      · have hst := stop (by rw [show 3 - (j - (a + 1)) = 0 by omega, Lx.octF])
        simp only [rs, hlt, decide_true, hw4, hj5, decide_false, g_un] at hst ⊢
        exact hst
    · have hst := stop (by rw [show j = s.length by omega, List.drop_length]; cases 3 - (s.length - (a + 1)) <;> rfl)
      simp only [rs, hlt, decide_false, g_un] at hst ⊢
      exact hst
end Go.Proofs.YtgffladaenimmaaGreatDoor
/- Contracts of foliantref03: text, hex. -/
namespace Go.Proofs.YtgffladaenimmaaGreatDoor
set_option linter.unusedVariables false
set_option linter.unusedSimpArgs false
set_option linter.defProp false
open Eng Go.RowKit

def strR (s : List UInt8) (at_ : Nat) (r : (List UInt8 × Nat) ⊕ Int) : Value :=
  match r with
  | .inr e => .tuple #[.string ⟨#[]⟩, .int .i64 0, .int .i64 e]
  | .inl r => if 32767 < r.1.length then .tuple #[.string ⟨#[]⟩, .int .i64 0, .int .i64 5] else .tuple #[.string ⟨r.1.toArray⟩, .int .i64 ((at_ + r.2 : Nat) : Int), .int .i64 0]
def textR (s : List UInt8) (at_ : Nat) : (List UInt8 × Nat) ⊕ Int := match Lx.textG 0 1 (s.drop at_) with | none => .inr 4 | some r => .inl r
theorem rlit_ret (s : List UInt8) (a : Nat) (w : World) (hs : s.length ≤ 1099511627776) (ha : a ≤ s.length) : Ret Tryz.prog 121 #[.string ⟨s.toArray⟩, .int .i64 a] w (fun v w' => v = strR s a (textR s a) ∧ Below w.heap.size w w') := by
  refine ret_of fun K hK => S_foliantref03_text_ok ?_
  unfold S_foliantref03_text
  refine loop (fun vs w' => ∃ (i o : Nat) (v : Value) (acc : List UInt8), vs = [.int .i64 i, v, .int .i64 o] ∧ a ≤ i ∧ i ≤ s.length ∧ 1 ≤ o ∧ o ≤ i + 1 ∧ acc.length ≤ i ∧ Lx.textG 0 1 (s.drop a) = (Lx.textG 0 o (s.drop i)).map (fun r => (acc ++ r.1, r.2 + (i - a))) ∧ Own w w' [BRow v acc])
    (fun vs _ => s.length - n0 vs) ⟨a, 1, _, [], rfl, by omega, ha, by omega, by omega, by simp, by simp, (Own.start w).nilRow _ 1⟩ ?_
  rintro vs w4 ⟨i, o, v, acc, rfl, hi1, hi2, ho1, ho2, hacc, he, ho⟩ _
  simp only [S_foliantref03_text_0, gd, s_len Tryz.underlying9]
  rw [b_lss]
  have bad : ∀ {w5}, Own w w5 [BRow v acc] → Lx.textG 0 o (s.drop i) = none → K (.returned (.tuple #[.string ⟨#[]⟩, .int .i64 0, .int .i64 4])) w5 := by
    intro w5 ho hn
    rw [hn, Option.map_none] at he
    exact hK _ _ ⟨by rw [textR, he]; rfl, ho.done⟩
  by_cases hlt : (i : Int) < (s.length : Int)
  · have hi3 : i < s.length := by omega
    have hd := Lx.drop_cons hi3
    have hw1 : IntKind.wrap .i64 ((i : Int) + 1) = ((i + 1 : Nat) : Int) := by rw [wrap64_id (by omega) (by omega)]; omega
    simp only [hlt, decide_true, i_t, s_at hi3]
    have e1 := u8d s[i] 92 92 rfl
    have e2 := u8d s[i] 40 40 rfl
    have e3 := u8d s[i] 41 41 rfl
    have e4 := u8d s[i] 13 13 rfl
    by_cases g1 : s[i] = 92
    · have hne : ¬ (Lx.eol s[i] = true) := by rw [g1]; decide
      simp only [rs, e1, decide_eq_true g1, hw1, s_len Tryz.underlying9]
      by_cases hend : (s.length : Int) ≤ ((i + 1 : Nat) : Int)
      · simp only [hend, decide_true, i_t]
        refine bad ho ?_
        rw [hd, Lx.textG, if_neg hne, if_pos g1, if_pos (List.drop_eq_nil_of_le (by omega))]
      · have hi4 : i + 1 < s.length := by omega
        simp only [hend, decide_false, i_f]
        have hel := Lx.escF_le (s.drop (i + 1))
        rw [List.length_drop] at hel
        refine c_below ho (rescape_ret s i w4 hs hi4) ?_
        rintro _ w6 rfl ho
        rw [x_0, x_1]
        have hxl : (Lx.escF (s.drop (i + 1))).1.length ≤ 1 := by
          rw [Lx.drop_cons hi4, Lx.escF]
          split
          · simp
          · split
            · simp
            · split <;> simp
        refine o_appS ho (by omega) fun v' w7 ho => ?_
        refine nextX ⟨i + 1 + (Lx.escF (s.drop (i + 1))).2, o, v', acc ++ (Lx.escF (s.drop (i + 1))).1, rfl, by omega, by omega, ho1, by omega, by simp; omega, ?_, ho⟩ (by simp [n0, intOf]; omega)
        rw [he, textG_esc hi4 g1, Option.map_map]
        congr 1
        funext r
        refine Prod.ext (by simp) ?_
        simp only [Function.comp]; omega
    simp only [rs, e1, decide_eq_false g1]
    refine join fun J2 hJ2 => ?_
    have fin : ∀ o' : Nat, (s[i] = 40 → o' = o + 1) → (s[i] ≠ 40 → o' = o) → J2 [.int .i64 o'] w4 := by
      intro o' h40 hn40
      refine hJ2 _ _ fun _ => ?_
      simp only [S_foliantref03_text_1, gd]
      refine join fun J3 hJ3 => ?_
      have fin3 : ∀ o' : Nat, 1 ≤ o' → o' ≤ i + 2 → (Lx.eol s[i] = true → o' = o) → (Lx.eol s[i] = false → Lx.textG 0 1 (s.drop a) = (Lx.textG 0 o' (s.drop (i + 1))).map (fun r => (acc ++ s[i] :: r.1, r.2 + 1 + (i - a)))) → J3 [.int .i64 o'] w4 := by
        intro o' h1 h2 heol hgen
        refine hJ3 _ _ fun _ => ?_
        simp only [S_foliantref03_text_2, gd]
        refine join fun J4 hJ4 => ?_
        have fin4 : ∀ (k : Nat) (c : UInt8), i ≤ k → k < s.length → (c = if s[i] = 13 then 10 else s[i]) → Lx.textG 0 1 (s.drop a) = (Lx.textG 0 o' (s.drop (k + 1))).map (fun r => (acc ++ c :: r.1, r.2 + (k + 1 - a))) → J4 [.int .i64 k] w4 := by
          intro k c hk1 hk2 hc hT
          refine hJ4 _ _ fun _ => ?_
          simp only [S_foliantref03_text_3, gd]
          refine join fun J5 hJ5 => ?_
          have fin5 : ∀ n : Int, (c.toNat : Int) = n → J5 [.int .u8 n] w4 := by
            intro n hn
            refine hJ5 _ _ fun _ => ?_
            simp only [S_foliantref03_text_4, gd]
            refine o_app1 c hn ho (by omega) fun v' w6 ho => ?_
            rw [b_add, wrap64_id (by omega) (by omega)]
            refine nextX ⟨k + 1, o', v', acc ++ [c], rfl, by omega, by omega, h1, by omega, by simp; omega, ?_, ho⟩ (by simp [n0, intOf]; omega)
            rw [hT]
            congr 1
            funext r
            refine Prod.ext (by simp) rfl
          by_cases g : s[i] = 13
          · simp only [rs, e4, decide_eq_true g]
            exact fin5 10 (by rw [hc, if_pos g]; rfl)
          · simp only [rs, e4, decide_eq_false g]
            exact fin5 _ (by rw [hc, if_neg g])
        have one : (Lx.eol s[i] = true → Lx.lineF (s.drop i) = 1) → J4 [.int .i64 i] w4 := by
          intro hl
          cases hE : Lx.eol s[i] with
          | false =>
            have hn13 : ¬ s[i] = 13 := by intro e; rw [e] at hE; cases hE
            refine fin4 i s[i] (Nat.le_refl _) hi3 (by rw [if_neg hn13]) ?_
            rw [hgen hE]
            congr 1
            funext r
            refine Prod.ext rfl ?_
            simp only; omega
          | true =>
            have h10 : (10 : UInt8) = if s[i] = 13 then 10 else s[i] := by
              simp only [Lx.eol, Bool.or_eq_true, decide_eq_true_eq] at hE
              rcases hE with h | h
              · rw [if_pos h]
              · rw [if_neg (by rw [h]; decide), h]
            refine fin4 i 10 (Nat.le_refl _) hi3 h10 ?_
            rw [he, heol hE, textG_eol hi3 hE, Lx.line, hl hE, Option.map_map]
            congr 1
            funext r
            refine Prod.ext rfl ?_
            simp only [Function.comp]; omega
        by_cases g : s[i] = 13
        · have g10 : ¬ s[i] = 10 := by rw [g]; decide
          by_cases h3 : ((i + 1 : Nat) : Int) < (s.length : Int)
          · have hi4 : i + 1 < s.length := by omega
            simp only [rs, e4, decide_eq_true g, hw1, s_len Tryz.underlying9, h3, decide_true, s_at hi4]
            have e5 := u8d s[i + 1] 10 10 rfl
            have hh : (s.drop (i + 1)).head? = some s[i + 1] := by rw [Lx.drop_cons hi4, List.head?_cons]
            by_cases h5 : s[i + 1] = 10
            · simp only [rs, e5, decide_eq_true h5, hw1]
              have hE : Lx.eol s[i] = true := by simp [Lx.eol, g]
              refine fin4 (i + 1) 10 (by omega) hi4 (by rw [if_pos g]) ?_
              have hL : Lx.lineF (s.drop i) = 2 := by rw [hd, Lx.lineF, if_neg g10, if_pos g, if_pos (by rw [hh, h5])]
              rw [he, heol hE, textG_eol hi3 hE, Lx.line, hL, Option.map_map]
              congr 1
              funext r
              refine Prod.ext rfl ?_
              simp only [Function.comp]; omega
            · simp only [rs, e5, decide_eq_false h5]
              refine one fun _ => ?_
              rw [hd, Lx.lineF, if_neg g10, if_pos g, if_neg (by rw [hh]; simpa using h5)]
          · simp only [rs, e4, decide_eq_true g, hw1, s_len Tryz.underlying9, h3, decide_false, g_un]
            refine one fun _ => ?_
            rw [hd, Lx.lineF, if_neg g10, if_pos g, if_neg (by rw [List.drop_eq_nil_of_le (by omega)]; simp)]
        · simp only [rs, e4, decide_eq_false g, g_un]
          refine one fun hE => ?_
          have : s[i] = 10 := by simpa [Lx.eol, g] using hE
          rw [hd, Lx.lineF, if_pos this]
      have step : Lx.eol s[i] = false → Lx.textG 0 o (s.drop i) = if s[i] = 40 then (Lx.textG 0 (o + 1) (s.drop (i + 1))).map (fun r => (s[i] :: r.1, r.2 + 1))
          else if s[i] = 41 then if o ≤ 1 then some ([], 1) else (Lx.textG 0 (o - 1) (s.drop (i + 1))).map (fun r => (s[i] :: r.1, r.2 + 1))
          else (Lx.textG 0 o (s.drop (i + 1))).map (fun r => (s[i] :: r.1, r.2 + 1)) := by
        intro hE
        rw [hd, Lx.textG, if_neg (by rw [hE]; decide), if_neg g1]
      by_cases g3 : s[i] = 41
      · have hE : Lx.eol s[i] = false := by rw [g3]; rfl
        have g40 : s[i] ≠ 40 := by rw [g3]; decide
        have hst := step hE
        rw [if_neg g40, if_pos g3] at hst
        simp only [rs, e3, decide_eq_true g3]
        rw [hn40 g40, wrap64_id (by omega) (by omega)]
        by_cases g4 : o ≤ 1
        · have g5 : (o : Int) - 1 = 0 := by omega
          rw [if_pos g4] at hst
          simp only [g5, decide_true, i_t, sl_len Tryz.underlying88 (ho.slRow 0 rfl), rs]
          rw [hst, Option.map_some, List.append_nil] at he
          by_cases hbig : (32767 : Int) < (acc.length : Int)
          · simp only [hbig, decide_true, i_t]
            exact hK _ _ ⟨by rw [textR, he]; simp only [strR]; rw [if_pos (by omega)], ho.done⟩
          · simp only [hbig, decide_false, i_f, o_strB 0 ho rfl, hw1]
            exact hK _ _ ⟨by rw [textR, he]; simp only [strR]; rw [if_neg (by omega), show a + (1 + (i - a)) = i + 1 by omega], ho.done⟩
        · have g5 : ¬ ((o : Int) - 1 = 0) := by omega
          rw [if_neg g4] at hst
          simp only [g5, decide_false, i_f]
          rw [show (o : Int) - 1 = ((o - 1 : Nat) : Int) by omega]
          refine fin3 (o - 1) (by omega) (by omega) (fun h => by rw [hE] at h; cases h) fun _ => ?_
          rw [he, hst, Option.map_map]; rfl
      · simp only [rs, e3, decide_eq_false g3]
        by_cases g2 : s[i] = 40
        · have hE : Lx.eol s[i] = false := by rw [g2]; rfl
          refine fin3 o' (by have := h40 g2; omega) (by have := h40 g2; omega) (fun h => by rw [hE] at h; cases h) fun _ => ?_
          rw [he, step hE, if_pos g2, h40 g2, Option.map_map]; rfl
        · refine fin3 o' (by have := hn40 g2; omega) (by have := hn40 g2; omega) (fun _ => hn40 g2) fun hE => ?_
          rw [he, step hE, if_neg g2, if_neg g3, hn40 g2, Option.map_map]; rfl
    by_cases g2 : s[i] = 40
    · simp only [rs, e2, decide_eq_true g2]
      rw [wrap64_id (by omega) (by omega), show (o : Int) + 1 = ((o + 1 : Nat) : Int) by omega]
      exact fin (o + 1) (fun _ => rfl) (fun h => absurd g2 h)
    · simp only [rs, e2, decide_eq_false g2]
      exact fin o (fun h => absurd h g2) (fun _ => rfl)
  · have hi3 : i = s.length := by omega
    simp only [hlt, decide_false, i_f]
    refine bad ho ?_
    rw [hi3, List.drop_length]; rfl
end Go.Proofs.YtgffladaenimmaaGreatDoor
/- Contracts of foliantref03: hex, token, Next. -/
namespace Go.Proofs.YtgffladaenimmaaGreatDoor
set_option linter.unusedVariables false
set_option linter.unusedSimpArgs false
set_option linter.defProp false
open Eng Go.RowKit

/-- The digits up to the end of a hexadecimal string. -/
def digF : List UInt8 → (List UInt8 × Nat) ⊕ Int
  | [] => .inr 4
  | c :: t =>
    if c = 62 then .inl ([], 1)
    else if 0 ≤ Lx.digit c then match digF t with | .inl r => .inl (c :: r.1, r.2 + 1) | .inr e => .inr e
    else if Oc.white c then match digF t with | .inl r => .inl (r.1, r.2 + 1) | .inr e => .inr e
    else .inr 3
def hexOf : List UInt8 → List UInt8
  | [] => []
  | [a] => [Lx.byte (Lx.digit a) 0]
  | a :: b :: t => Lx.byte (Lx.digit a) (Lx.digit b) :: hexOf t
def padH (l : List UInt8) : List UInt8 := if l.length % 2 = 0 then l else l ++ [48]
theorem white_digit (c : UInt8) (h : Oc.white c = true) : Lx.digit c < 0 := by
  have : ∀ n : Fin 256, Oc.white (UInt8.ofNat n.val) = true → Lx.digit (UInt8.ofNat n.val) < 0 := by decide +kernel
  have h2 := this ⟨c.toNat, c.toNat_lt⟩
  simp only [UInt8.ofNat_toNat] at h2
  exact h2 h
theorem hexF_digF : ∀ l : List UInt8, (Lx.hexF (-1) l = match digF l with | .inl r => .inl (hexOf r.1, r.2) | .inr e => .inr e) ∧
    ∀ c : UInt8, 0 ≤ Lx.digit c → Lx.hexF (Lx.digit c) l = match digF l with | .inl r => .inl (hexOf (c :: r.1), r.2) | .inr e => .inr e
  | [] => ⟨rfl, fun _ _ => rfl⟩
  | x :: t => by
    have ih := hexF_digF t
    by_cases g1 : x = 62
    · refine ⟨?_, fun c hc => ?_⟩
      · rw [Lx.hexF, if_pos g1, digF, if_pos g1]; rfl
      · rw [Lx.hexF, if_pos g1, digF, if_pos g1, if_pos hc]; rfl
    by_cases g2 : 0 ≤ Lx.digit x
    · have hw : ¬ Oc.white x = true := fun h => by have := white_digit x h; omega
      refine ⟨?_, fun c hc => ?_⟩
      · rw [Lx.hexF, if_neg g1, if_neg hw, if_neg (by omega), if_pos (by omega), digF, if_neg g1, if_pos g2, ih.2 x g2]
        cases digF t <;> rfl
      · rw [Lx.hexF, if_neg g1, if_neg hw, if_neg (by omega), if_neg (by omega), digF, if_neg g1, if_pos g2, ih.1]
        cases digF t <;> rfl
    by_cases g3 : Oc.white x = true
    · refine ⟨?_, fun c hc => ?_⟩
      · rw [Lx.hexF, if_neg g1, if_pos g3, digF, if_neg g1, if_neg g2, if_pos g3, ih.1]
        cases digF t <;> rfl
      · rw [Lx.hexF, if_neg g1, if_pos g3, digF, if_neg g1, if_neg g2, if_pos g3, ih.2 c hc]
        cases digF t <;> rfl
    · refine ⟨?_, fun c hc => ?_⟩
      · rw [Lx.hexF, if_neg g1, if_neg g3, if_pos (by omega), digF, if_neg g1, if_neg g2, if_neg g3]
      · rw [Lx.hexF, if_neg g1, if_neg g3, if_pos (by omega), digF, if_neg g1, if_neg g2, if_neg g3]
theorem unhex_pad : ∀ (n : Nat) (l : List UInt8), l.length ≤ n → (∀ c ∈ l, 0 ≤ Lx.digit c) → Lx.unhex (padH l) = some (hexOf l)
  | _, [], _, _ => rfl
  | _, [a], _, h => by
    have h0 := h a (by simp)
    have e : padH [a] = [a, 48] := rfl
    rw [e, Lx.unhex, if_neg (by rw [show Lx.digit 48 = 0 from rfl]; omega), Lx.unhex]
    rfl
  | 0, _ :: _ :: _, h, _ => by simp at h
  | n + 1, a :: b :: t, hl, h => by
    simp only [List.length_cons] at hl
    have ih := unhex_pad n t (by omega) (fun c hc => h c (by simp [hc]))
    have ha := h a (by simp)
    have hb := h b (by simp)
    have e : padH (a :: b :: t) = a :: b :: padH t := by
      unfold padH
      simp only [List.length_cons, Nat.add_mod_right, show t.length + 1 + 1 = t.length + 2 from rfl]
      split <;> simp
    rw [e, Lx.unhex, if_neg (by omega), ih, hexOf]; rfl
def hexR (s : List UInt8) (at_ : Nat) : (List UInt8 × Nat) ⊕ Int := Lx.hexF (-1) (s.drop at_)
 attribute [local congr] g_congr in
theorem rhex3_ret (s : List UInt8) (a : Nat) (w : World) (hs : s.length ≤ 1099511627776) (ha : a ≤ s.length) : Ret Tryz.prog 122 #[.string ⟨s.toArray⟩, .int .i64 a] w (fun v w' => v = strR s a (hexR s a) ∧ Below w.heap.size w w') := by
  refine ret_of fun K hK => S_foliantref03_hex_ok ?_
  unfold S_foliantref03_hex
  let ext (acc : List UInt8) (n : Nat) (r : (List UInt8 × Nat) ⊕ Int) : (List UInt8 × Nat) ⊕ Int := match r with | .inl r => .inl (acc ++ r.1, r.2 + n) | .inr e => .inr e
  refine loop (fun vs w' => ∃ (i : Nat) (v : Value) (acc : List UInt8), vs = [.int .i64 i, v] ∧ a ≤ i ∧ i ≤ s.length ∧ acc.length ≤ i ∧ (∀ c ∈ acc, 0 ≤ Lx.digit c) ∧ digF (s.drop a) = ext acc (i - a) (digF (s.drop i)) ∧ Own w w' [BRow v acc])
    (fun vs _ => s.length - n0 vs) ⟨a, _, [], rfl, by omega, ha, by simp, by simp, ?_, (Own.start w).nilRow _ 1⟩ ?_
  · cases digF (s.drop a) <;> simp [ext]
  rintro vs w4 ⟨i, v, acc, rfl, hi1, hi2, hacc, hall, he, ho⟩ _
  simp only [S_foliantref03_hex_0, gd, s_len Tryz.underlying9]
  have hHF := (hexF_digF (s.drop a)).1
  by_cases hlt : (i : Int) < (s.length : Int)
  · have hi3 : i < s.length := by omega
    have hd := Lx.drop_cons hi3
    rw [hd, digF] at he
    have e1 : decide ((s[i].toNat : Int) ≠ 62) = decide (s[i] ≠ 62) := by
      have := u8d s[i] 62 62 rfl
      rw [decide_not, decide_not, this]
    by_cases g1 : s[i] = 62
    · have hlt2 : ¬ ((s.length : Int) ≤ (i : Int)) := by omega
      have g1' : ¬ (s[i] ≠ 62) := fun h => h g1
      simp only [rs, hlt, decide_true, s_at hi3, e1, decide_eq_false g1', s_len Tryz.underlying9, hlt2, decide_false, sl_len Tryz.underlying88 (ho.slRow 0 rfl)]
      rw [if_pos g1] at he
      have he : digF (s.drop a) = .inl (acc, 1 + (i - a)) := by rw [he]; simp [ext]
      rw [he] at hHF
      refine join fun J3 hJ3 => ?_
      have fin : ∀ (v' : Value) (w5 : World), Own w w5 [BRow v' (padH acc)] → J3 [v'] w5 := by
        intro v' w5 ho
        refine hJ3 _ _ fun _ => ?_
        simp only [S_foliantref03_hex_2, gd, o_strB 0 ho rfl]
        have hpl : (padH acc).length ≤ acc.length + 1 := by unfold padH; split <;> simp
        refine c_below ho (runhex_ret (padH acc) w5 (by omega)) ?_
        rintro _ w6 rfl ho
        rw [unhexE_some (unhex_pad _ acc (Nat.le_refl _) hall)]
        simp only [ex, rs, s_len Tryz.underlying9]
        by_cases hbig : (32767 : Int) < ((hexOf acc).length : Int)
        · simp only [hbig, decide_true, i_t]
          exact hK _ _ ⟨by rw [hexR, hHF]; simp only [strR]; rw [if_pos (by omega)], ho.done⟩
        · simp only [hbig, decide_false, i_f, rs]
          rw [wrap64_id (by omega) (by omega)]
          exact hK _ _ ⟨by rw [hexR, hHF]; simp only [strR]; rw [if_neg (by omega), show ((a + (1 + (i - a)) : Nat) : Int) = (i : Int) + 1 by omega], ho.done⟩
      rw [b_rem (by omega)]
      have hr : ((acc.length : Int).tmod 2) = ((acc.length % 2 : Nat) : Int) := by rw [Int.tmod_eq_emod_of_nonneg (by omega)]; omega
      rw [hr]
      by_cases hodd : acc.length % 2 = 0
      · rw [hodd]
        simp only [rs, ne_eq, Int.natCast_zero, not_true, decide_false]
        exact fin _ _ (by rw [padH, if_pos hodd]; exact ho)
      · have hne : ((acc.length % 2 : Nat) : Int) ≠ 0 := by omega
        simp only [rs, decide_eq_true hne]
        refine o_app1 48 rfl ho (by omega) fun v' w5 ho => ?_
        exact fin _ _ (by rw [padH, if_neg hodd]; exact ho)
    · simp only [rs, hlt, decide_true, s_at hi3, e1, decide_eq_true g1]
      rw [if_neg g1] at he
      refine join fun J2 hJ2 => ?_
      have go : ∀ (v' : Value) (acc' : List UInt8) (w5 : World), acc'.length ≤ i + 1 → (∀ c ∈ acc', 0 ≤ Lx.digit c) → digF (s.drop a) = ext acc' (i + 1 - a) (digF (s.drop (i + 1))) → Own w w5 [BRow v' acc'] → J2 [v'] w5 := by
        intro v' acc' w5 h1 h2 h3 ho
        refine hJ2 _ _ fun _ => ?_
        simp only [S_foliantref03_hex_1, gd, rs]
        rw [wrap64_id (by omega) (by omega)]
        exact nextX ⟨i + 1, v', acc', rfl, by omega, by omega, h1, h2, h3, ho⟩ (by simp [n0, intOf]; omega)
      refine c_eq (rdigit_ret s[i] w4) ?_
      by_cases g2 : 0 ≤ Lx.digit s[i]
      · simp only [rs, g2, decide_true, s_at hi3]
        rw [if_pos g2] at he
        refine o_app1 s[i] rfl ho (by omega) fun v' w5 ho => ?_
        refine go v' _ _ (by simp; omega) ?_ ?_ ho
        · intro c hc
          rcases List.mem_append.1 hc with h | h
          · exact hall c h
          · rw [List.mem_singleton] at h; rw [h]; exact g2
        · rw [he]
          cases digF (s.drop (i + 1)) with
          | inl r => simp only [ext, List.append_assoc, List.singleton_append]; rw [show r.2 + 1 + (i - a) = r.2 + (i + 1 - a) by omega]
          | inr e => rfl
      · simp only [rs, g2, decide_false, s_at hi3]
        rw [if_neg g2] at he
        refine c_eq (rwhite_ret s[i] w4) ?_
        cases hw : Oc.white s[i] with
        | true =>
          simp only [rs, Bool.not_true]
          rw [if_pos hw] at he
          refine go v acc _ (by omega) hall ?_ ho
          rw [he]
          cases digF (s.drop (i + 1)) with
          | inl r => simp only [ext]; rw [show r.2 + 1 + (i - a) = r.2 + (i + 1 - a) by omega]
          | inr e => rfl
        | false =>
          simp only [rs, Bool.not_false]
          rw [if_neg (by rw [hw]; decide)] at he
          rw [he] at hHF
          exact hK _ _ ⟨by rw [hexR, hHF]; rfl, ho.done⟩
  · have hi3 : i = s.length := by omega
    have hge : ((s.length : Int) ≤ (i : Int)) := by omega
    rw [hi3, List.drop_length] at he
    rw [he] at hHF
    simp only [rs, hlt, decide_false, g_un, s_len Tryz.underlying9, hge, decide_true]
    exact hK _ _ ⟨by rw [hexR, hHF]; rfl, ho.done⟩
theorem strR_inl {s : List UInt8} {a : Nat} {r : List UInt8 × Nat} : strR s a (.inl r) = .tuple #[.string ⟨(if 32767 < r.1.length then ([] : List UInt8) else r.1).toArray⟩, .int .i64 (if 32767 < r.1.length then 0 else ((a + r.2 : Nat) : Int)), .int .i64 (if 32767 < r.1.length then 5 else 0)] := by
  unfold strR
  simp only
  by_cases h : 32767 < r.1.length
  · simp only [if_pos h]
  · simp only [if_neg h]
theorem told_str (a : Nat) (r : (List UInt8 × Nat) ⊕ Int) : (match r with | .inr e => Lx.refused e | .inl r => Lx.told 3 a (a + 1 + r.2 : Nat) r.1 32767) =
    match r with
    | .inr e => Lx.refused e
    | .inl r => if 32767 < r.1.length then Lx.refused 5 else (⟨3, a, (a + 1 + r.2 : Nat), 0, r.1⟩, 0) := by
  cases r with
  | inr e => rfl
  | inl r =>
    simp only [Lx.told]
    by_cases h : 32767 < r.1.length
    · rw [if_pos h, if_pos (by omega)]
    · rw [if_neg h, if_neg (by omega)]
theorem text_textR (s : List UInt8) (a : Nat) : Lx.text s a = match textR s (a + 1) with | .inr e => Lx.refused e | .inl r => Lx.told 3 a (a + 1 + r.2 : Nat) r.1 32767 := by
  unfold Lx.text textR
  cases Lx.textG 0 1 (s.drop (a + 1)) <;> rfl
theorem textR_pos (s : List UInt8) (a : Nat) (e : Int) (h : textR s a = .inr e) : e ≠ 0 := by
  unfold textR at h
  split at h
  · cases h; decide
  · cases h
theorem hexF_pos : ∀ (l : List UInt8) (h e : Int), Lx.hexF h l = .inr e → e ≠ 0
  | [], _, e, h => by rw [Lx.hexF] at h; cases h; decide
  | c :: t, h, e, he => by
    rw [Lx.hexF] at he
    split at he
    · cases he
    · split at he
      · cases hh : Lx.hexF h t with
        | inl r => rw [hh] at he; cases he
        | inr e' => rw [hh] at he; cases he; exact hexF_pos t h e hh
      · split at he
        · cases he; decide
        · split at he
          · cases hh : Lx.hexF (Lx.digit c) t with
            | inl r => rw [hh] at he; cases he
            | inr e' => rw [hh] at he; cases he; exact hexF_pos t _ e hh
          · cases hh : Lx.hexF (-1) t with
            | inl r => rw [hh] at he; cases he
            | inr e' => rw [hh] at he; cases he; exact hexF_pos t _ e hh
theorem rtoken_ret (s : List UInt8) (a : Nat) (w : World) (hs : s.length ≤ 1099511627776) (ha : a < s.length) : Ret Tryz.prog 86 #[.string ⟨s.toArray⟩, .int .i64 a] w (fun v w' => v = tokR (Lx.token s a) ∧ Below w.heap.size w w') := by
  refine ret_of fun K hK => S_foliantref03_token_ok ?_
  unfold S_foliantref03_token
  refine o_tok (Own.start w) fun b w1 ho => ?_
  have hd := Lx.drop_cons ha
  have hT : Lx.token s a = if s[a] = 91 ∨ s[a] = 93 ∨ s[a] = 123 ∨ s[a] = 125 then Lx.mark s a 1
    else if s[a] = 60 then (if (s.drop (a + 1)).head? = some s[a] then Lx.mark s a 2 else Lx.hex s a)
    else if s[a] = 62 then (if (s.drop (a + 1)).head? = some s[a] then Lx.mark s a 2 else Lx.refused 3)
    else if s[a] = 47 then Lx.name s a
    else if s[a] = 40 then Lx.text s a
    else if s[a] = 41 then Lx.refused 3
    else Lx.word s a := by rw [Lx.token, hd]
  have hw1 : IntKind.wrap .i64 ((a : Int) + 1) = ((a + 1 : Nat) : Int) := by rw [wrap64_id (by omega) (by omega)]; omega
  have hw2 : IntKind.wrap .i64 ((a : Int) + 2) = ((a + 2 : Nat) : Int) := by rw [wrap64_id (by omega) (by omega)]; omega
  -- the byte behind is the same
  have two : (s.drop (a + 1)).head? = some s[a] → a + 2 ≤ s.length := by
    intro h
    cases hdd : s.drop (a + 1) with
    | nil => rw [hdd] at h; cases h
    | cons x t =>
      have := congrArg List.length hdd
      simp at this; omega
  have hdbl : ∀ {E : Value → World → Prop}, E (.bool (decide ((s.drop (a + 1)).head? = some s[a]))) w1 → DoX Tryz.prog (mB .len #[9] 3 #[false] #[.string ⟨s.toArray⟩]) w1 (pk K) fun t23 w =>
      DoX Tryz.prog (mBin .lss 3 (.int .i64 ((a + 1 : Nat) : Int)) t23) w (pk K) fun t24 w =>
      GDo t24 true (fun E => E (.string ⟨s.toArray⟩) w) w fun t26 w =>
      GDo t24 true (fun E => E (.int .i64 a) w) w fun t27 w =>
      GDo t24 true (fun E => DoX Tryz.prog (mBin .add 3 t27 (.int .i64 1)) w (pk K) E) w fun t28 w =>
      GDo t24 true (fun E => DoX Tryz.prog (mIx 9 t26 t28) w (pk K) E) w fun t29 w =>
      GDo t24 true (fun E => E (.int .u8 s[a].toNat) w) w fun t30 w =>
      GDo t24 true (fun E => DoX Tryz.prog (mEq .eql 5 (.tmp 29) (.tmp 30) t29 t30) w (pk K) E) w fun t31 w =>
      DoX Tryz.prog (mPick t24 t31 (.bool false)) w (pk K) E := by
    intro E hE
    by_cases h : ((a + 1 : Nat) : Int) < (s.length : Int)
    · have h2 : a + 1 < s.length := by omega
      simp only [s_len Tryz.underlying9, rs, h, decide_true, hw1, s_at h2]
      rw [show decide ((s[a + 1].toNat : Int) = (s[a].toNat : Int)) = decide ((s.drop (a + 1)).head? = some s[a]) by
        rw [u8d s[a + 1] _ s[a] rfl, Lx.drop_cons h2, List.head?_cons]
        by_cases g : s[a + 1] = s[a]
        · rw [decide_eq_true g, decide_eq_true (by rw [g])]
        · rw [decide_eq_false g, decide_eq_false (by simpa using g)]]
      exact hE
    · rw [decide_eq_false (by rw [List.drop_eq_nil_of_le (by omega)]; simp)] at hE
      simp only [s_len Tryz.underlying9, rs, h, decide_false, g_un]
      exact hE
  simp only [s_at ha]
  rw [b_add, hw1]
  refine hdbl ?_
  generalize hD : decide ((s.drop (a + 1)).head? = some s[a]) = D at *
  have hDt : D = true → (s.drop (a + 1)).head? = some s[a] := fun h => by rw [h] at hD; exact of_decide_eq_true hD
  have hDf : D = false → ¬ (s.drop (a + 1)).head? = some s[a] := fun h => by rw [h] at hD; exact of_decide_eq_false hD
  have q1 := u8d s[a] 60 60 rfl
  have q2 := u8d s[a] 62 62 rfl
  have q3 := u8d s[a] 47 47 rfl
  have q4 := u8d s[a] 40 40 rfl
  have q5 := u8d s[a] 41 41 rfl
  have p1 := u8d s[a] 91 91 rfl
  have p2 := u8d s[a] 93 93 rfl
  have p3 := u8d s[a] 123 123 rfl
  have p4 := u8d s[a] 125 125 rfl
  have mk : ∀ n : Nat, a + n ≤ s.length → Lx.token s a = Lx.mark s a n → DoX Tryz.prog (mSlice 9 (.string ⟨s.toArray⟩) (some (.int .i64 a)) (some (.int .i64 ((a + n : Nat) : Int))) none) w1 (pk K) fun t49 w =>
      DoX Tryz.prog (mBuild 63 #[(0, (.int .i64 6)), (1, .int .i64 a), (2, .int .i64 ((a + n : Nat) : Int)), (4, t49)]) w (pk K) fun t50 w =>
      DoX Tryz.prog (mStore 63 (.pointer (some ⟨b, 0, none⟩)) t50) w (pk K) fun _ w =>
      RetX Tryz.prog [.cell (.pointer (some ⟨b, 0, none⟩)) 63, .val (.int .i64 0)] w K := by
    intro n hn hm
    rw [s_cut (i := a) (j := a + n) rfl rfl (by omega) hn, m_tok4]
    exact tok_put 0 ho rfl fun w' ho => hK _ _ ⟨by rw [hm]; rfl, ho.done⟩
  have no : ∀ (e : Int), Lx.token s a = Lx.refused e → DoX Tryz.prog (mBuild 63 #[]) w1 (pk K) fun t50 w =>
      DoX Tryz.prog (mStore 63 (.pointer (some ⟨b, 0, none⟩)) t50) w (pk K) fun _ w =>
      RetX Tryz.prog [.cell (.pointer (some ⟨b, 0, none⟩)) 63, .val (.int .i64 e)] w K := by
    intro e hm
    rw [m_tok0]
    exact tok_put 0 ho rfl fun w' ho => hK _ _ ⟨by rw [hm]; rfl, ho.done⟩
  -- strings
  have str : ∀ (r : (List UInt8 × Nat) ⊕ Int) (w2 : World), Own w w2 [tokE b Lx.none_] → (∀ e, r = .inr e → e ≠ 0) → Lx.token s a = (match r with | .inr e => Lx.refused e | .inl r => Lx.told 3 a (a + 1 + r.2 : Nat) r.1 32767) → ∀ x y z, strR s (a + 1) r = .tuple #[x, y, z] → S_foliantref03_token_0 (.int .i64 a) (.pointer (some ⟨b, 0, none⟩)) x y z w2 K := by
    intro r w2 ho hpos hm x y z hxyz
    rw [told_str] at hm
    unfold S_foliantref03_token_0
    cases r with
    | inr e =>
      simp only [strR] at hxyz
      injection hxyz with hxyz
      injection hxyz with hxyz
      simp only [List.cons.injEq, and_true] at hxyz
      obtain ⟨rfl, rfl, rfl⟩ := hxyz
      have he := hpos e rfl
      simp only [rs, decide_eq_true he, m_tok0]
      exact tok_put 0 ho rfl fun w' ho => hK _ _ ⟨by rw [hm]; rfl, ho.done⟩
    | inl r =>
      rw [strR_inl] at hxyz
      injection hxyz with hxyz
      injection hxyz with hxyz
      simp only [List.cons.injEq, and_true] at hxyz
      obtain ⟨rfl, rfl, rfl⟩ := hxyz
      by_cases hbig : 32767 < r.1.length
      · simp only [if_pos hbig, rs, ne_eq, show ¬ ((5 : Int) = 0) by decide, not_false_eq_true, decide_true, m_tok0]
        exact tok_put 0 ho rfl fun w' ho => hK _ _ ⟨by rw [hm]; simp only; rw [if_pos hbig]; rfl, ho.done⟩
      · simp only [if_neg hbig, rs, ne_eq, not_true, decide_false, m_tok4]
        exact tok_put 0 ho rfl fun w' ho => hK _ _ ⟨by rw [hm]; simp only; rw [if_neg hbig], ho.done⟩
  have trip : ∀ r, ∃ x y z, strR s (a + 1) r = .tuple #[x, y, z] := by
    intro r
    cases r with
    | inr e => exact ⟨_, _, _, rfl⟩
    | inl r => exact ⟨_, _, _, strR_inl⟩
  by_cases g1 : s[a] = 60
  · have hT : Lx.token s a = if (s.drop (a + 1)).head? = some s[a] then Lx.mark s a 2 else Lx.hex s a := by
      rw [hT, if_neg (by rw [g1]; decide), if_pos g1]
    simp only [rs, q1, decide_eq_true g1, g_un]
    cases hDD : D with
    | true =>
      have h2 := hDt hDD
      simp only [rs, hw2]
      exact mk 2 (two h2) (by rw [hT, if_pos h2])
    | false =>
      have h2 := hDf hDD
      rw [if_neg h2] at hT
      have n1 : ¬ s[a] = 91 := by rw [g1]; decide
      have n2 : ¬ s[a] = 93 := by rw [g1]; decide
      have n3 : ¬ s[a] = 123 := by rw [g1]; decide
      have n4 : ¬ s[a] = 125 := by rw [g1]; decide
      have n5 : ¬ s[a] = 62 := by rw [g1]; decide
      have n6 : ¬ s[a] = 41 := by rw [g1]; decide
      have n7 : ¬ s[a] = 47 := by rw [g1]; decide
      have n8 : ¬ s[a] = 40 := by rw [g1]; decide
      simp only [rs, p1, p2, p3, p4, q2, q5, q3, q4, q1, decide_eq_false n1, decide_eq_false n2, decide_eq_false n3, decide_eq_false n4, decide_eq_false n5, decide_eq_false n6, decide_eq_false n7, decide_eq_false n8, decide_eq_true g1, g_un, hw1]
      refine c_below ho (rlit_ret s (a + 1) w1 hs (by omega)) ?_
      rintro _ w2 rfl ho
      obtain ⟨x, y, z, hxyz⟩ := trip (textR s (a + 1))
      rw [hxyz]
      simp only [ex]
      refine join fun J hJ => ?_
      refine c_below ho (rhex3_ret s (a + 1) w2 hs (by omega)) ?_
      rintro _ w3 rfl ho
      obtain ⟨x', y', z', hxyz'⟩ := trip (hexR s (a + 1))
      rw [hxyz']
      simp only [ex]
      refine hJ _ _ fun _ => ?_
      simp only [gd]
      exact str (hexR s (a + 1)) w3 ho (fun e he => hexF_pos _ _ _ he) (by rw [hT, Lx.hex, hexR]; cases Lx.hexF (-1) (s.drop (a + 1)) <;> rfl) _ _ _ hxyz'
  by_cases g2 : s[a] = 62
  · have hT : Lx.token s a = if (s.drop (a + 1)).head? = some s[a] then Lx.mark s a 2 else Lx.refused 3 := by
      rw [hT, if_neg (by rw [g2]; decide), if_neg g1, if_pos g2]
    simp only [rs, q1, decide_eq_false g1, q2, decide_eq_true g2, g_un]
    cases hDD : D with
    | true =>
      have h2 := hDt hDD
      simp only [rs, hw2]
      exact mk 2 (two h2) (by rw [hT, if_pos h2])
    | false =>
      have h2 := hDf hDD
      rw [if_neg h2] at hT
      have n1 : ¬ s[a] = 91 := by rw [g2]; decide
      have n2 : ¬ s[a] = 93 := by rw [g2]; decide
      have n3 : ¬ s[a] = 123 := by rw [g2]; decide
      have n4 : ¬ s[a] = 125 := by rw [g2]; decide
      simp only [rs, p1, p2, p3, p4, q2, decide_eq_false n1, decide_eq_false n2, decide_eq_false n3, decide_eq_false n4, decide_eq_true g2, g_un]
      exact no 3 hT
  simp only [rs, q1, decide_eq_false g1, q2, decide_eq_false g2, g_un]
  by_cases b1 : s[a] = 91
  · simp only [rs, p1, decide_eq_true b1, g_un, hw1]
    exact mk 1 (by omega) (by rw [hT, if_pos (.inl b1)])
  by_cases b2 : s[a] = 93
  · simp only [rs, p1, decide_eq_false b1, p2, decide_eq_true b2, g_un, hw1]
    exact mk 1 (by omega) (by rw [hT, if_pos (.inr (.inl b2))])
  by_cases b3 : s[a] = 123
  · simp only [rs, p1, decide_eq_false b1, p2, decide_eq_false b2, p3, decide_eq_true b3, g_un, hw1]
    exact mk 1 (by omega) (by rw [hT, if_pos (.inr (.inr (.inl b3)))])
  by_cases b4 : s[a] = 125
  · simp only [rs, p1, decide_eq_false b1, p2, decide_eq_false b2, p3, decide_eq_false b3, p4, decide_eq_true b4, g_un, hw1]
    exact mk 1 (by omega) (by rw [hT, if_pos (.inr (.inr (.inr b4)))])
  rw [if_neg (by rintro (h | h | h | h) <;> contradiction), if_neg g1, if_neg g2] at hT
  simp only [rs, p1, p2, p3, p4, decide_eq_false b1, decide_eq_false b2, decide_eq_false b3, decide_eq_false b4, g_un, q2, decide_eq_false g2]
  by_cases g5 : s[a] = 41
  · simp only [rs, q5, decide_eq_true g5, g_un]
    exact no 3 (by rw [hT, if_neg (by rw [g5]; decide), if_neg (by rw [g5]; decide), if_pos g5])
  simp only [rs, q5, decide_eq_false g5]
  by_cases g3 : s[a] = 47
  · rw [if_pos g3] at hT
    simp only [rs, q3, decide_eq_true g3, hw1]
    refine c_eq (rrun_ret s (a + 1) w1 hs (by omega)) ?_
    have hto := Lx.run_le s (show a + 1 ≤ s.length by omega)
    have hto2 : a + 1 ≤ Lx.run s (a + 1) := by unfold Lx.run; omega
    rw [s_cut rfl rfl hto2 hto]
    have hcl : (Lx.cut s (a + 1) (Lx.run s (a + 1))).length ≤ s.length := by rw [cut_length hto]; omega
    refine c_below ho (rnamet_ret _ w1 (by omega)) ?_
    rintro _ w2 rfl ho
    have hN : Lx.token s a = if (nameR (Lx.cut s (a + 1) (Lx.run s (a + 1)))).2 ≠ 0 then Lx.refused (nameR (Lx.cut s (a + 1) (Lx.run s (a + 1)))).2 else (⟨4, a, Lx.run s (a + 1), 0, (nameR (Lx.cut s (a + 1) (Lx.run s (a + 1)))).1⟩, 0) := by
      rw [hT, Lx.name, nameR]
      cases Lx.nameF (Lx.cut s (a + 1) (Lx.run s (a + 1))) with
      | none => rfl
      | some x =>
        simp only [Lx.told]
        by_cases h : 127 < x.length
        · rw [if_pos (by omega), if_pos h]; simp [Lx.refused]
        · rw [if_neg (by omega), if_neg h]; simp
    simp only [ex, rs]
    by_cases he : (nameR (Lx.cut s (a + 1) (Lx.run s (a + 1)))).2 ≠ 0
    · rw [if_pos he] at hN
      simp only [decide_eq_true he, i_t, m_tok0]
      exact tok_put 0 ho rfl fun w' ho => hK _ _ ⟨by rw [hN]; rfl, ho.done⟩
    · rw [if_neg he] at hN
      simp only [decide_eq_false he, i_f, m_tok4]
      exact tok_put 0 ho rfl fun w' ho => hK _ _ ⟨by rw [hN], ho.done⟩
  simp only [rs, q3, decide_eq_false g3]
  rw [if_neg g3] at hT
  by_cases g4 : s[a] = 40
  · rw [if_pos g4] at hT
    simp only [rs, q4, decide_eq_true g4, g_un, hw1]
    refine c_below ho (rlit_ret s (a + 1) w1 hs (by omega)) ?_
    rintro _ w2 rfl ho
    obtain ⟨x, y, z, hxyz⟩ := trip (textR s (a + 1))
    rw [hxyz]
    simp only [ex]
    refine join fun J hJ => ?_
    refine hJ _ _ fun _ => ?_
    simp only [gd]
    exact str (textR s (a + 1)) w2 ho (fun e he => textR_pos _ _ _ he) (by rw [hT, text_textR]) _ _ _ hxyz
  rw [if_neg g4, if_neg g5] at hT
  simp only [rs, q4, decide_eq_false g4, q1, decide_eq_false g1]
  refine c_eq (rrun_ret s a w1 hs (by omega)) ?_
  have hto := Lx.run_le s (show a ≤ s.length by omega)
  have hto2 : a ≤ Lx.run s a := by unfold Lx.run; omega
  rw [s_cut rfl rfl hto2 hto]
  have hcl : (Lx.cut s a (Lx.run s a)).length ≤ s.length := by rw [cut_length hto]; omega
  refine c_below ho (rword_ret _ w1 (by omega)) ?_
  rintro _ w2 rfl ho
  have hW : Lx.token s a = _ := hT.trans (wordR_wordT (Lx.cut s a (Lx.run s a)) a (Lx.run s a))
  simp only [tokR, ex]
  refine o_tok ho fun b2 w3 ho => ?_
  refine o_put 0 ho rfl (new := tokC (wordR (Lx.cut s a (Lx.run s a))).1) szTok (tokC_one _) rfl fun w4 ho => ?_
  have ho : Own w w4 [tokE b2 (wordR (Lx.cut s a (Lx.run s a))).1, tokE b Lx.none_] := ho
  simp only [rs]
  by_cases he : (wordR (Lx.cut s a (Lx.run s a))).2 ≠ 0
  · rw [if_pos he] at hW
    simp only [decide_eq_true he, i_t, m_tok0]
    exact tok_put 1 ho rfl fun w' ho => hK _ _ ⟨by rw [hW]; rfl, ho.done⟩
  · rw [if_neg he] at hW
    simp only [decide_eq_false he, i_f]
    rw [f_addr (show fOff Tryz.prog 63 1 = some 1 by kernel_rfl)]
    refine o_store 0 ho rfl (by kernel_rfl) rfl (by simp [tokC]) fun w5 ho => ?_
    rw [f_addr (show fOff Tryz.prog 63 2 = some 2 by kernel_rfl)]
    refine o_store 0 ho rfl (by kernel_rfl) rfl (by simp [tokC]) fun w6 ho => ?_
    have ho : Own w w6 [tokE b2 { (wordR (Lx.cut s a (Lx.run s a))).1 with a := a, t := Lx.run s a }, tokE b Lx.none_] := ho
    rw [l_at (ho.agg 0 rfl aggTok)]
    exact tok_put 1 ho rfl fun w' ho => hK _ _ ⟨by rw [hW], ho.done⟩
theorem rnext_ret (s : List UInt8) (i : Int) (w : World) (hs : s.length ≤ 1099511627776) : Ret Tryz.prog 46 #[.string ⟨s.toArray⟩, .int .i64 i] w (fun v w' => v = tokR (Lx.next s i) ∧ Below w.heap.size w w') := by
  refine ret_of fun K hK => S_foliantref03_Next_ok ?_
  unfold S_foliantref03_Next
  refine o_tok (Own.start w) fun b w1 ho => ?_
  have out : (i < 0 ∨ (s.length : Int) < i) → DoX Tryz.prog (mBuild 63 #[]) w1 (pk K) fun t50 w =>
      DoX Tryz.prog (mStore 63 (.pointer (some ⟨b, 0, none⟩)) t50) w (pk K) fun _ w =>
      RetX Tryz.prog [.cell (.pointer (some ⟨b, 0, none⟩)) 63, .val (.int .i64 1)] w K := by
    intro h
    rw [m_tok0]
    exact tok_put 0 ho rfl fun w' ho => hK _ _ ⟨by rw [Lx.next, if_pos h]; rfl, ho.done⟩
  by_cases h1 : i < 0
  · simp only [rs, h1, decide_true, g_un]
    exact out (.inl h1)
  simp only [rs, h1, decide_false, s_len Tryz.underlying9]
  by_cases h2 : (s.length : Int) < i
  · simp only [rs, h2, decide_true]
    exact out (.inr h2)
  simp only [rs, h2, decide_false]
  have hsk : Lx.skipI s i = ((Lx.skip s i.toNat : Nat) : Int) := by rw [Lx.skipI, if_neg (by omega)]
  have hN : Lx.next s i = Lx.token s (Lx.skip s i.toNat) := by rw [Lx.next, if_neg (by omega)]
  have hle := Lx.skip_le s (k := i.toNat) (by omega)
  refine c_eq (rskip_ret s i w1 hs) ?_
  rw [hsk]
  generalize Lx.skip s i.toNat = a at *
  simp only [s_len Tryz.underlying9, rs]
  by_cases hend : (s.length : Int) ≤ (a : Int)
  · have : a = s.length := by omega
    simp only [hend, decide_true, i_t, m_tok012]
    refine tok_put 0 ho rfl fun w' ho => hK _ _ ⟨?_, ho.done⟩
    rw [hN, Lx.token, this, List.drop_length]
  · simp only [hend, decide_false, i_f]
    exact tok_tail 0 ho rfl (rtoken_ret s a w1 hs (by omega)) fun w' hb => hK _ _ ⟨by rw [hN], hb⟩
end Go.Proofs.YtgffladaenimmaaGreatDoor
/- Contracts: lex.tokens, and the function that it hands back. -/
namespace Go.Proofs.YtgffladaenimmaaGreatDoor
set_option linter.unusedVariables false
set_option linter.unusedSimpArgs false
set_option linter.defProp false
open Eng Go.RowKit

def fltC (a e : Int) : List Value := [.int .i64 a, .int .i64 e]
def fltV (f : Int × Int) : Value := .agg (fltC f.1 f.2).toArray
def fltE (b : Nat) (f : Int × Int) : Ent := .cells b (fltC f.1 f.2) 48
theorem aggFlt : aggN Tryz.prog 48 = some 2 := by kernel_rfl
theorem szFlt : (Tryz.prog.info? 48).map (·.size) = some 2 := by kernel_rfl
theorem fltC_one (a e : Int) : ∀ v ∈ fltC a e, v.oneCell' = true := by
  intro v hv
  simp only [fltC, List.mem_cons, List.not_mem_nil, or_false] at hv
  rcases hv with rfl | rfl <;> rfl
section
variable {w : World} {PK : List PanicEntry → World → Prop} {K : Value → World → Prop} {S : Nat → Prop} {w0 : World} {L : List Ent}
theorem o_flt (ho : OwnS S w0 w L) (k : ∀ b w', OwnS S w0 w' (fltE b (0, 0) :: L) → K (.pointer (some ⟨b, 0, none⟩)) w') : DoX Tryz.prog (mAlloc 48) w PK K :=
  o_new (fun b => .pointer (some ⟨b, 0, none⟩)) (fltC 0 0) 48 (fun _ => by kernel_rfl) ho k
theorem flt_put (i : Nat) {b : Nat} {f g : Int × Int} (ho : OwnS S w0 w L) (hi : L[i]? = some (fltE b f)) (k : ∀ w', OwnS S w0 w' (L.set i (fltE b g)) → K undef w') : DoX Tryz.prog (mStore 48 (.pointer (some ⟨b, 0, none⟩)) (fltV g)) w PK K :=
  o_put i ho hi (new := fltC g.1 g.2) szFlt (fltC_one _ _) rfl k
theorem m_flt0 : DoX Tryz.prog (mBuild 48 #[]) w PK K = K (fltV (0, 0)) w := do_eq (by kernel_rfl)
theorem m_flt1 {e : Int} : DoX Tryz.prog (mBuild 48 #[(1, .int .i64 e)]) w PK K = K (fltV (0, e)) w := do_eq (by kernel_rfl)
theorem m_flt2 {a e : Int} : DoX Tryz.prog (mBuild 48 #[(0, .int .i64 a), (1, .int .i64 e)]) w PK K = K (fltV (a, e)) w := do_eq (by kernel_rfl)
theorem r_flt2 {a e : Int} : (mBuild 48 #[(0, .int .i64 a), (1, .int .i64 e)]).run Tryz.prog w = .ok (.value (fltV (a, e))) w := by kernel_rfl
theorem fa_f1 {b : Nat} : DoX Tryz.prog (mFA 48 (.pointer (some ⟨b, 0, none⟩)) 1) w PK K = K (.pointer (some ⟨b, 1, none⟩)) w := f_addr (show fOff Tryz.prog 48 1 = some 1 by kernel_rfl)
theorem fa_f0 {b : Nat} : DoX Tryz.prog (mFA 48 (.pointer (some ⟨b, 0, none⟩)) 0) w PK K = K (.pointer (some ⟨b, 0, none⟩)) w := f_addr (show fOff Tryz.prog 48 0 = some 0 by kernel_rfl)
theorem fa_t0 {b : Nat} : DoX Tryz.prog (mFA 63 (.pointer (some ⟨b, 0, none⟩)) 0) w PK K = K (.pointer (some ⟨b, 0, none⟩)) w := f_addr (show fOff Tryz.prog 63 0 = some 0 by kernel_rfl)
theorem fa_t1 {b : Nat} : DoX Tryz.prog (mFA 63 (.pointer (some ⟨b, 0, none⟩)) 1) w PK K = K (.pointer (some ⟨b, 1, none⟩)) w := f_addr (show fOff Tryz.prog 63 1 = some 1 by kernel_rfl)
theorem fa_t2 {b : Nat} : DoX Tryz.prog (mFA 63 (.pointer (some ⟨b, 0, none⟩)) 2) w PK K = K (.pointer (some ⟨b, 2, none⟩)) w := f_addr (show fOff Tryz.prog 63 2 = some 2 by kernel_rfl)
end
def intE (b : Nat) (i : Int) : Ent := .cells b [.int .i64 i] 3
def strE (b : Nat) (s : List UInt8) : Ent := .cells b [.string ⟨s.toArray⟩] 9
end Go.Proofs.YtgffladaenimmaaGreatDoor
/- Contract: lex.Upto. -/
namespace Go.Proofs.YtgffladaenimmaaGreatDoor
set_option linter.unusedVariables false
set_option linter.unusedSimpArgs false
set_option linter.defProp false
open Eng Go.RowKit

def TRow (v : Value) (l : List Lx.Tok) : Ent := .row 63 5 v l.length (l.flatMap tokC)
theorem tokC_len (l : List Lx.Tok) : (l.flatMap tokC).length = l.length * 5 := by
  induction l with
  | nil => rfl
  | cons x l ih => rw [List.flatMap_cons, List.length_append, ih, List.length_cons]; show 5 + _ = _; omega
section
variable {w : World} {PK : List PanicEntry → World → Prop} {K : Value → World → Prop} {S : Nat → Prop} {w0 : World} {L : List Ent}
theorem trow_one {v : Value} {l : List Lx.Tok} (i : Nat) (ho : OwnS S w0 w L) (hi : L[i]? = some (TRow v l)) : v.oneCell' = true := by
  obtain ⟨_, a, cap, rfl, _⟩ := ho.slRow i hi
  rfl
theorem trow_sl {v : Value} {l : List Lx.Tok} (i : Nat) (ho : OwnS S w0 w L) (hi : L[i]? = some (TRow v l)) : Sl w v 5 l.length (l.flatMap tokC) := ho.slRow i hi
end
def uptoP (s : List UInt8) (i n : Int) : List Lx.Tok × (Int × Int) :=
  if i < 0 ∨ (s.length : Int) < i then ([], (0, 1)) else match Lx.upto s n.toNat i with | .inl l => (l, (0, 0)) | .inr f => ([], f)
theorem upto_end {s : List UInt8} {i b : Int} {l : List Lx.Tok} {n : Nat} (h : Lx.Steps s i l b) (hn : l.length < n) (he : (Lx.next s b).2 = 0) (hk : (Lx.next s b).1.k = 0) : Lx.upto s n i = .inl l := by
  obtain ⟨m, rfl⟩ : ∃ m, n = l.length + (m + 1) := ⟨n - l.length - 1, by omega⟩
  rw [h (m + 1), Lx.upto, if_neg (by rw [he]; simp), if_pos hk]
  simp
theorem upto_err {s : List UInt8} {i b : Int} {l : List Lx.Tok} {n : Nat} (h : Lx.Steps s i l b) (hn : l.length < n) (he : (Lx.next s b).2 ≠ 0) : Lx.upto s n i = .inr (Lx.skipI s b, (Lx.next s b).2) := by
  obtain ⟨m, rfl⟩ : ∃ m, n = l.length + (m + 1) := ⟨n - l.length - 1, by omega⟩
  rw [h (m + 1), Lx.upto, if_pos he]
theorem upto_full {s : List UInt8} {i b : Int} {l : List Lx.Tok} (h : Lx.Steps s i l b) : Lx.upto s l.length i = .inl l := by
  have := h 0
  rw [Nat.add_zero, Lx.upto] at this
  simpa using this
end Go.Proofs.YtgffladaenimmaaGreatDoor
/- Contract: lex.All. -/
namespace Go.Proofs.YtgffladaenimmaaGreatDoor
set_option linter.unusedVariables false
set_option linter.unusedSimpArgs false
set_option linter.defProp false
open Eng Go.RowKit

def allP (s : List UInt8) : List Lx.Tok × (Int × Int) :=
  match Lx.upto s 1048577 0 with
  | .inl l => if 1048576 < l.length then ([], ((l.getD 1048576 Lx.none_).a, 6)) else (l, (0, 0))
  | .inr f => ([], f)
theorem draw {w : World} {F : World → Prop} (h : F w.drew) : DrawX w F := ⟨h⟩
end Go.Proofs.YtgffladaenimmaaGreatDoor
/- Tokens and faults are compared. -/
namespace Go.Proofs.YtgffladaenimmaaGreatDoor
set_option linter.unusedVariables false
set_option linter.unusedSimpArgs false
set_option linter.defProp false
open Eng Go.RowKit

theorem eqTok : eqT Tryz.prog 63 [(0, false), (1, false), (2, false), (3, false), (4, true)] := ⟨by kernel_rfl, by kernel_rfl, by kernel_rfl, by kernel_rfl⟩
theorem eqFlt : eqT Tryz.prog 48 [(0, false), (1, false)] := ⟨by kernel_rfl, by kernel_rfl, by kernel_rfl, by kernel_rfl⟩
theorem str_beq (a b : List UInt8) : ((⟨a.toArray⟩ : ByteArray).toList == (⟨b.toArray⟩ : ByteArray).toList) = decide (a = b) := by
  rw [str_toList, str_toList]
  by_cases h : a = b <;> simp [h]
theorem tok_beq (x y : Lx.Tok) : ([(0, false), (1, false), (2, false), (3, false), (4, true)] : List (Nat × Bool)).all (fun p => cellEq (tokC x).toArray[p.1]? (tokC y).toArray[p.1]?) = decide (x = y) := by
  have e : ([(0, false), (1, false), (2, false), (3, false), (4, true)] : List (Nat × Bool)).all (fun p => cellEq (tokC x).toArray[p.1]? (tokC y).toArray[p.1]?) = ((x.k == y.k) && ((x.a == y.a) && ((x.t == y.t) && ((x.n == y.n) && (((⟨x.s.toArray⟩ : ByteArray).toList == (⟨y.s.toArray⟩ : ByteArray).toList) && true))))) := rfl
  rw [e, str_beq, Bool.eq_iff_iff]
  obtain ⟨a, b, c, d, f⟩ := x
  obtain ⟨a', b', c', d', f'⟩ := y
  simp
theorem flt_beq (x y : Int × Int) : ([(0, false), (1, false)] : List (Nat × Bool)).all (fun p => cellEq (fltC x.1 x.2).toArray[p.1]? (fltC y.1 y.2).toArray[p.1]?) = decide (x = y) := by
  have e : ([(0, false), (1, false)] : List (Nat × Bool)).all (fun p => cellEq (fltC x.1 x.2).toArray[p.1]? (fltC y.1 y.2).toArray[p.1]?) = ((x.1 == y.1) && ((x.2 == y.2) && true)) := rfl
  rw [e, Bool.eq_iff_iff]
  obtain ⟨a, b⟩ := x
  obtain ⟨a', b'⟩ := y
  simp
section
variable {w : World} {PK : List PanicEntry → World → Prop} {K : Value → World → Prop}
theorem r_tokne {xo yo : Operand} {x y : Lx.Tok} : (mEq .neq 63 xo yo (tokV x) (tokV y)).run Tryz.prog w = .ok (.value (.bool (!decide (x = y)))) w := by
  rw [← tok_beq]; exact run_neq_agg eqTok rfl
theorem e_tok {xo yo : Operand} {x y : Lx.Tok} : DoX Tryz.prog (mEq .eql 63 xo yo (tokV x) (tokV y)) w PK K = K (.bool (decide (x = y))) w := by
  refine do_eq ?_
  rw [← tok_beq]; exact run_eql_agg eqTok rfl
theorem n_tok {xo yo : Operand} {x y : Lx.Tok} : DoX Tryz.prog (mEq .neq 63 xo yo (tokV x) (tokV y)) w PK K = K (.bool (!decide (x = y))) w := do_eq r_tokne
theorem e_flt {xo yo : Operand} {x y : Int × Int} : DoX Tryz.prog (mEq .eql 48 xo yo (fltV x) (fltV y)) w PK K = K (.bool (decide (x = y))) w := by
  refine do_eq ?_
  rw [← flt_beq]; exact run_eql_agg eqFlt rfl
end
end Go.Proofs.YtgffladaenimmaaGreatDoor
/- Contracts of foliantref03: Upto, All, Same. -/
namespace Go.Proofs.YtgffladaenimmaaGreatDoor
set_option linter.unusedVariables false
set_option linter.unusedSimpArgs false
set_option linter.defProp false
open Eng Go.RowKit

end Go.Proofs.YtgffladaenimmaaGreatDoor
/- Contracts of foliantref03: All, Same. -/
namespace Go.Proofs.YtgffladaenimmaaGreatDoor
set_option linter.unusedVariables false
set_option linter.unusedSimpArgs false
set_option linter.defProp false
open Eng Go.RowKit

theorem flat_get : ∀ (l : List Lx.Tok) (k j : Nat) (hk : k < l.length), j < 5 → (l.flatMap tokC)[k * 5 + j]? = (tokC l[k])[j]?
  | x :: l, 0, j, _, hj => by
    rw [List.flatMap_cons, List.getElem?_append_left (by simpa [tokC] using hj)]; simp
  | x :: l, k + 1, j, hk, hj => by
    have h5 : (tokC x).length = 5 := rfl
    rw [List.flatMap_cons, List.getElem?_append_right (by rw [h5]; omega), h5, show (k + 1) * 5 + j - 5 = k * 5 + j by omega]
    rw [flat_get l k j (by simpa using hk) hj]; simp
/-- The k-th token of a slice. -/
theorem tok_at {w : World} {b off : Nat} {l : List Lx.Tok} (hc : ∀ j u, (l.flatMap tokC)[j]? = some u → w.cell? ⟨b, off + j, none⟩ = some u) {k : Nat} (hk : k < l.length) : AtV Tryz.prog w 63 ⟨b, off + k * 5, none⟩ (tokV l[k]) :=
  AtV.agg aggTok (cs := tokC l[k]) rfl fun j v hj => by
    have h5 : j < 5 := (List.getElem?_eq_some_iff.1 hj).1
    have := hc (k * 5 + j) v (by rw [flat_get l k j hk h5]; exact hj)
    rwa [Nat.add_assoc]
theorem upto_pos (s : List UInt8) : ∀ (m : Nat) (a : Int) (f : Int × Int), Lx.upto s m a = .inr f → f.2 ≠ 0
  | 0, a, f, h => by rw [Lx.upto] at h; cases h
  | m + 1, a, f, h => by
    rw [Lx.upto] at h
    split at h
    · rename_i he; cases h; exact he
    · split at h
      · cases h
      · cases hu : Lx.upto s m (Lx.next s a).1.t with
        | inl l => rw [hu] at h; cases h
        | inr g => rw [hu] at h; cases h; exact upto_pos s m _ f hu
end Go.Proofs.YtgffladaenimmaaGreatDoor
/- Contracts: the reference of layer 4: String, Name, Join, Pad. -/
namespace Go.Proofs.YtgffladaenimmaaGreatDoor
set_option linter.unusedVariables false
set_option linter.unusedSimpArgs false
set_option linter.defProp false
open Eng Go.RowKit

end Go.Proofs.YtgffladaenimmaaGreatDoor
/- Contracts: the reference's arithmetic. -/
namespace Go.Proofs.YtgffladaenimmaaGreatDoor
set_option linter.unusedVariables false
set_option linter.unusedSimpArgs false
set_option linter.defProp false
open Eng Go.RowKit
set_option linter.unusedVariables false
set_option linter.unusedSimpArgs false

def Fx.rootP (n : Int) (x : Int × Int) : Prop := if Fx.okB n then (if n < 0 then x = (0, 1) else ∃ r, Fx.isqrt (10000 * n) r ∧ x = (r, 0)) else x = (0, 2)
theorem rootP_unique {n : Int} {x y : Int × Int} (hx : Fx.rootP n x) (hy : Fx.rootP n y) : x = y := by
  unfold Fx.rootP at hx hy
  split at hx
  · rename_i h
    rw [if_pos h] at hy
    split at hx
    · rename_i h2
      rw [if_pos h2] at hy; rw [hx, hy]
    · rename_i h2
      rw [if_neg h2] at hy
      obtain ⟨r, hr, rfl⟩ := hx
      obtain ⟨q, hq, rfl⟩ := hy
      rw [Fx.isqrt_unique hr hq]
  · rename_i h
    rw [if_neg h] at hy; rw [hx, hy]
theorem all_not {zs : List Int} {k : Nat} (hlt : k < zs.length) (h : Fx.okB zs[k] = false) : zs.all Fx.okB = false := by
  cases hh : zs.all Fx.okB with
  | false => rfl
  | true => have := List.all_eq_true.1 hh zs[k] (List.getElem_mem hlt); rw [h] at this; cases this
end Go.Proofs.YtgffladaenimmaaGreatDoor
/- Code in continuation form, by program (gen.py): 6 functions. -/
namespace Go.Proofs.YtgffladaenimmaaGreatDoor
set_option linter.unusedVariables false
set_option linter.unusedSimpArgs false
set_option linter.defProp false
set_option linter.unusedVariables false
set_option maxRecDepth 20000
open Eng

/- foliantlaw02.lives -/
/- foliantlaw02.FixTells -/
/- foliantlaw02.FixReckons -/
/- foliantlaw02.FixBack -/
/- foliantlaw02.FixNear -/
/- foliantlaw02.FixTurns -/
end Go.Proofs.YtgffladaenimmaaGreatDoor
/- The laws of layer 2, walked: lives, FixTells, FixReckons, FixNear. -/
namespace Go.Proofs.YtgffladaenimmaaGreatDoor
set_option linter.unusedVariables false
set_option linter.unusedSimpArgs false
set_option linter.defProp false
open Eng Go.RowKit
set_option linter.unusedVariables false
set_option linter.unusedSimpArgs false

theorem c_told {P : Program} {f : Nat} {args : Array Value} {w0 w : World} {L : List Ent} {PK : List PanicEntry → World → Prop} {K : Value → World → Prop} {x y : Value} (h : Ret P f args w (fun v w' => v = x ∧ Below w.heap.size w w')) (hx : x = y) (ho : Own w0 w L)
    (k : ∀ w', Own w0 w' L → K y w') : CallX P f args w PK K := by
  refine c_ret h ?_
  rintro v w' ⟨rfl, hb⟩
  rw [hx]; exact k _ (ho.grow hb)
theorem rootP_20000 {x : Int × Int} (h : Fx.rootP 20000 x) : x = (14142, 0) :=
  rootP_unique h (by rw [Fx.rootP, if_pos (by decide), if_neg (by decide)]; exact ⟨14142, ⟨by decide, by decide, by decide⟩, rfl⟩)
abbrev I64 (n : Int) : Prop := -9223372036854775808 ≤ n ∧ n ≤ 9223372036854775807
end Go.Proofs.YtgffladaenimmaaGreatDoor
/- Code in continuation form, by program (gen.py): 4 functions. -/
namespace Go.Proofs.YtgffladaenimmaaGreatDoor
set_option linter.unusedVariables false
set_option linter.unusedSimpArgs false
set_option linter.defProp false
set_option linter.unusedVariables false
set_option maxRecDepth 20000
open Eng

/- foliantlaw04.lives -/
/- foliantlaw04.PlainTells -/
/- foliantlaw04.PlainOneWay -/
/- foliantlaw04.PlainPads -/
def S_foliantlaw04_PlainPads_0 (t0 t1 t5 t6 t8 : Value) (w : World) (N1 : List Value → World → Prop) (K : Ending → World → Prop) : Prop :=
 DoX Tryz.prog (mB .len #[9] 3 #[false] #[t6]) w (pk K) fun t53 w =>
 DoX Tryz.prog (mBin .sub 3 t1 t53) w (pk K) fun t54 w =>
 DoX Tryz.prog (mBin .lss 3 t8 t54) w (pk K) fun t55 w =>
 GDo t55 true (fun E => E t8 w) w fun t57 w =>
 GDo t55 true (fun E => E t5 w) w fun t58 w =>
 GDo t55 true (fun E => DoX Tryz.prog (mB .len #[9] 3 #[false] #[t58]) w (pk K) E) w fun t59 w =>
 GDo t55 true (fun E => DoX Tryz.prog (mBin .lss 3 t57 t59) w (pk K) E) w fun t60 w =>
 DoX Tryz.prog (mPick t55 t60 (.bool false)) w (pk K) fun t61 w =>
 IfX t61 (DoX Tryz.prog (mIx 9 t5 t8) w (pk K) fun t66 w =>
 DoX Tryz.prog (mEq .neq 5 (.tmp 66) (.const (.int .u8 48)) t66 (.int .u8 48)) w (pk K) fun t67 w =>
 IfX t67 (K (.returned (.bool false)) w) (DoX Tryz.prog (mBin .add 3 t8 (.int .i64 1)) w (pk K) fun t63 w =>
 N1 [t63] w)) (DoX Tryz.prog (mB .len #[9] 3 #[false] #[t5]) w (pk K) fun t69 w =>
 DoX Tryz.prog (mEq .eql 3 (.tmp 69) (.tmp 70) t69 t1) w (pk K) fun t71 w =>
 GDo t71 true (fun E => E t5 w) w fun t73 w =>
 GDo t71 true (fun E => E t1 w) w fun t74 w =>
 GDo t71 true (fun E => E t6 w) w fun t75 w =>
 GDo t71 true (fun E => DoX Tryz.prog (mB .len #[9] 3 #[false] #[t75]) w (pk K) E) w fun t76 w =>
 GDo t71 true (fun E => DoX Tryz.prog (mBin .sub 3 t74 t76) w (pk K) E) w fun t77 w =>
 GDo t71 true (fun E => DoX Tryz.prog (mSlice 9 t73 (some t77) none none) w (pk K) E) w fun t78 w =>
 GDo t71 true (fun E => E t6 w) w fun t79 w =>
 GDo t71 true (fun E => DoX Tryz.prog (mEq .eql 9 (.tmp 78) (.tmp 79) t78 t79) w (pk K) E) w fun t80 w =>
 DoX Tryz.prog (mPick t71 t80 (.bool false)) w (pk K) fun t81 w =>
 GDo t81 true (fun E => E t0 w) w fun t83 w =>
 GDo t81 true (fun E => E t1 w) w fun t84 w =>
 GDo t81 true (fun E => DoX Tryz.prog (mBin .add 3 t84 (.int .i64 1)) w (pk K) E) w fun t85 w =>
 GDo t81 true (fun E => CallX Tryz.prog 42 #[t83, t85] w (pk K) E) w fun t86 w =>
 GDo t81 true (fun E => E t5 w) w fun t87 w =>
 GDo t81 true (fun E => DoX Tryz.prog (mBin .add 9 (.string ⟨#[48]⟩) t87) w (pk K) E) w fun t88 w =>
 GDo t81 true (fun E => DoX Tryz.prog (mEq .eql 9 (.tmp 86) (.tmp 88) t86 t88) w (pk K) E) w fun t89 w =>
 DoX Tryz.prog (mPick t81 t89 (.bool false)) w (pk K) fun t90 w =>
 K (.returned t90) w)
end Go.Proofs.YtgffladaenimmaaGreatDoor
/- The laws of layer 4, walked: lives. -/
namespace Go.Proofs.YtgffladaenimmaaGreatDoor
set_option linter.unusedVariables false
set_option linter.unusedSimpArgs false
set_option linter.defProp false
open Eng Go.RowKit

theorem Tb.mono {w w' : World} (h : Tb w) (hb : Below w.heap.size w w') : Tb w' :=
  Go.Joins.tab_stays (show Tryz.prog.globalNamed "internal/strconv.uint64pow10" = some 3 by kernel_rfl) h hb (Nat.le_refl _)
theorem Tb.own {w w' : World} {L : List Ent} (h : Tb w) (ho : Own w w' L) : Tb w' := h.mono ho.done
def tupV (x : List UInt8 × Int) : Value := .tuple #[.string ⟨x.1.toArray⟩, .int .i64 x.2]
end Go.Proofs.YtgffladaenimmaaGreatDoor
/- The samples of layer 3's laws. -/
namespace Go.Proofs.YtgffladaenimmaaGreatDoor
set_option linter.unusedVariables false
set_option linter.unusedSimpArgs false
set_option linter.defProp false
open Eng Go.RowKit

theorem smp_all1 : allP [47, 65, 35, 50, 48, 98, 40, 120, 92, 48, 53, 49, 41, 60, 52, 62] = ([⟨4, 0, 6, 0, [65, 32, 98]⟩, ⟨3, 6, 13, 0, [120, 41]⟩, ⟨3, 13, 16, 0, [64]⟩], (0, 0)) := by
  have h : Lx.upto [47, 65, 35, 50, 48, 98, 40, 120, 92, 48, 53, 49, 41, 60, 52, 62] (3 + 1048574) 0 = .inl [⟨4, 0, 6, 0, [65, 32, 98]⟩, ⟨3, 6, 13, 0, [120, 41]⟩, ⟨3, 13, 16, 0, [64]⟩] := by
    have n1 : Lx.next [47, 65, 35, 50, 48, 98, 40, 120, 92, 48, 53, 49, 41, 60, 52, 62] 0 = (⟨4, 0, 6, 0, [65, 32, 98]⟩, 0) := by decide +kernel
    have n2 : Lx.next [47, 65, 35, 50, 48, 98, 40, 120, 92, 48, 53, 49, 41, 60, 52, 62] 6 = (⟨3, 6, 13, 0, [120, 41]⟩, 0) := by decide +kernel
    have n3 : Lx.next [47, 65, 35, 50, 48, 98, 40, 120, 92, 48, 53, 49, 41, 60, 52, 62] 13 = (⟨3, 13, 16, 0, [64]⟩, 0) := by decide +kernel
    have n4 : Lx.next [47, 65, 35, 50, 48, 98, 40, 120, 92, 48, 53, 49, 41, 60, 52, 62] 16 = (⟨0, 16, 16, 0, []⟩, 0) := by decide +kernel
    have s1 := (Lx.Steps.nil [47, 65, 35, 50, 48, 98, 40, 120, 92, 48, 53, 49, 41, 60, 52, 62] 0).snoc (by rw [n1]) (by rw [n1]; decide)
    rw [n1] at s1
    have s2 := s1.snoc (by rw [n2]) (by rw [n2]; decide)
    rw [n2] at s2
    have s3 := s2.snoc (by rw [n3]) (by rw [n3]; decide)
    rw [n3] at s3
    exact upto_end s3 (by simp) (by rw [n4]) (by rw [n4])
  rw [allP, show 1048577 = 3 + 1048574 from rfl, h]
  rfl
theorem smp_all2 : allP [97, 32, 41] = ([], (2, 3)) := by
  have n1 : Lx.next [97, 32, 41] 0 = (⟨5, 0, 1, 0, [97]⟩, 0) := by decide +kernel
  have n2 : Lx.next [97, 32, 41] 1 = (Lx.none_, 3) := by decide +kernel
  have s1 := (Lx.Steps.nil [97, 32, 41] 0).snoc (by rw [n1]) (by rw [n1]; decide)
  rw [n1] at s1
  rw [allP, upto_err s1 (by simp) (by rw [n2]; decide), n2]
  rfl
theorem smp1 : Lx.next [55, 46] 0 = (⟨2, 0, 2, 70000, []⟩, 0) := by decide +kernel
theorem smp2 : Lx.next [32, 55, 120] 0 = (⟨5, 1, 3, 0, [55, 120]⟩, 0) := by decide +kernel
theorem smp3 : Lx.next [45, 48] 0 = (⟨1, 0, 2, 0, []⟩, 0) := by decide +kernel
theorem smp4 : Lx.next [41] 0 = (Lx.none_, 3) := by decide +kernel
theorem smp5 : Lx.next [40, 97] 0 = (Lx.none_, 4) := by decide +kernel
end Go.Proofs.YtgffladaenimmaaGreatDoor
/- Code in continuation form, by program (gen.py): 6 functions. -/
namespace Go.Proofs.YtgffladaenimmaaGreatDoor
set_option linter.unusedVariables false
set_option linter.unusedSimpArgs false
set_option linter.defProp false
set_option linter.unusedVariables false
set_option maxRecDepth 20000
open Eng

/- foliantlaw03.lives -/
/- foliantlaw03.LexNext -/
/- foliantlaw03.LexAll -/
/- foliantlaw03.LexApart -/
/- foliantlaw03.LexNumbers -/
/- foliantlaw03.LexStrings -/
def S_foliantlaw03_LexStrings_1 (t6 t8 : Value) (w : World) (N1 : List Value → World → Prop) (K : Ending → World → Prop) : Prop :=
 DoX Tryz.prog (mBin .add 3 t8 (.int .i64 1)) w (pk K) fun t25 w =>
 N1 [t6, t25] w
end Go.Proofs.YtgffladaenimmaaGreatDoor
/- foliantlaw03.lives, LexNext. -/
namespace Go.Proofs.YtgffladaenimmaaGreatDoor
set_option linter.unusedVariables false
set_option linter.unusedSimpArgs false
set_option linter.defProp false
open Eng Go.RowKit

section
variable {w : World} {PK : List PanicEntry → World → Prop} {K : Value → World → Prop}
theorem m_tok024 {k t : Int} {s : List UInt8} : DoX Tryz.prog (mBuild 63 #[(0, .int .i64 k), (2, .int .i64 t), (4, .string ⟨s.toArray⟩)]) w PK K = K (tokV ⟨k, 0, t, 0, s⟩) w := do_eq (by kernel_rfl)
theorem m_tok023 {k t n : Int} : DoX Tryz.prog (mBuild 63 #[(0, .int .i64 k), (2, .int .i64 t), (3, .int .i64 n)]) w PK K = K (tokV ⟨k, 0, t, n, []⟩) w := do_eq (by kernel_rfl)
theorem m_tok02 {k t : Int} : DoX Tryz.prog (mBuild 63 #[(0, .int .i64 k), (2, .int .i64 t)]) w PK K = K (tokV ⟨k, 0, t, 0, []⟩) w := do_eq (by kernel_rfl)
/-- A token in a new variable, and the error. -/
theorem tok_new {w0 : World} {L : List Ent} {f : Nat} {args : Array Value} {r x : Lx.Tok × Int} {PK1 PK2 PK3 PK4 PK5 : List PanicEntry → World → Prop} {K : Value → Value → World → Prop} (ho : Own w0 w L) (h : Ret Tryz.prog f args w (fun v w' => v = tokR r ∧ Below w.heap.size w w')) (hx : r = x)
    (k : ∀ b w', Own w0 w' (tokE b x.1 :: L) → K (.int .i64 x.2) (.pointer (some ⟨b, 0, none⟩)) w') :
    CallX Tryz.prog f args w PK1 fun t w => DoX Tryz.prog (mExt t 0) w PK2 fun u w => DoX Tryz.prog (mExt t 1) w PK3 fun e w => DoX Tryz.prog (mAlloc 63) w PK4 fun p w => DoX Tryz.prog (mStore 63 p u) w PK5 fun _ w => K e p w := by
  subst hx
  refine c_below ho h ?_
  rintro _ w' rfl ho
  simp only [tokR, ex]
  refine o_tok ho fun b w1 ho => ?_
  exact o_put 0 ho rfl (new := tokC r.1) szTok (tokC_one _) rfl fun w2 ho => k b w2 ho
end
end Go.Proofs.YtgffladaenimmaaGreatDoor
/- Contracts: head.Version, Text, Start, Tail; foliantref17's. -/
namespace Go.Proofs.YtgffladaenimmaaGreatDoor
set_option linter.unusedVariables false
set_option linter.unusedSimpArgs false
set_option linter.defProp false
open Eng Go.RowKit

theorem digit_dig (c : UInt8) : (Lx.dig c = true → Lx.digit c = (c.toNat : Int) - 48 ∧ 0 ≤ Lx.digit c ∧ Lx.digit c ≤ 9) ∧ (Lx.dig c = false → Lx.digit c < 0 ∨ 9 < Lx.digit c) := by
  refine Lx.all8 (p := fun c => (Lx.dig c = true → Lx.digit c = (c.toNat : Int) - 48 ∧ 0 ≤ Lx.digit c ∧ Lx.digit c ≤ 9) ∧ (Lx.dig c = false → Lx.digit c < 0 ∨ 9 < Lx.digit c)) ?_ c
  decide +kernel
theorem find_bd (s p : List UInt8) (k : Int) (hp : p ≠ []) : Hd.find s p k = -1 ∨ (0 ≤ Hd.find s p k ∧ Hd.find s p k + p.length ≤ s.length) := by
  rcases Hd.find_spec s p k hp with ⟨h, _⟩ | ⟨i, h, h1, h2, _⟩
  · exact .inl h
  · right; rw [h]; omega
theorem last_bd (s p : List UInt8) (hp : p ≠ []) : Hd.last s p = -1 ∨ (0 ≤ Hd.last s p ∧ Hd.last s p + p.length ≤ s.length) := by
  rw [Hd.last_occ hp]
  rcases Lib.lastOcc_spec s p s.length with ⟨h, _⟩ | ⟨i, hi, h, ho, _⟩
  · exact .inl h
  · right
    rw [h]
    have := Hd.occ_room (by omega) ho
    omega
def verV (x : Int × Int × Int) : Value := .tuple #[.int .i64 x.1, .int .i64 x.2.1, .int .i64 x.2.2]
theorem version_ret (s : List UInt8) (w : World) (hm : Mx w) (hs : s.length < 4294967281) : Ret Tryz.prog 10 #[.string ⟨s.toArray⟩] w (fun v w' => v = verV (Hd.version s) ∧ w = w') := by
  refine ret_of fun K hK => S_head_Version_ok ?_
  unfold S_head_Version
  refine c_eq (find_ret s Hd.mark 0 w hm hs) ?_
  have hb := find_bd s Hd.mark 0 (by decide)
  have hml : Hd.mark.length = 5 := rfl
  rw [hml] at hb
  unfold Hd.version at hK
  generalize Hd.find s Hd.mark 0 = f at *
  simp only [rs]
  by_cases h1 : f < 0
  · simp only [h1, decide_true, rs, g_un]
    exact hK _ _ ⟨by rw [if_pos (.inl h1)]; rfl, rfl⟩
  by_cases h2 : 1016 < f
  · simp only [h1, h2, decide_true, decide_false, rs, g_un]
    exact hK _ _ ⟨by rw [if_pos (.inr (.inl h2))]; rfl, rfl⟩
  have w1 : IntKind.wrap .i64 (f + 5) = f + 5 := wrap64_id (by omega) (by omega)
  have w2 : IntKind.wrap .i64 (f + 5 + 3) = f + 8 := by rw [wrap64_id (by omega) (by omega)]; omega
  have w3 : IntKind.wrap .i64 (f + 5 + 2) = f + 7 := by rw [wrap64_id (by omega) (by omega)]; omega
  simp only [h1, h2, decide_false, rs, s_len Tryz.underlying9, w1, w2]
  by_cases h3 : (s.length : Int) < f + 8
  · simp only [h3, decide_true, i_t]
    exact hK _ _ ⟨by rw [if_pos (.inr (.inr h3))]; rfl, rfl⟩
  have hlt : (f + 7).toNat < s.length := by omega
  have hc : s[(f + 7).toNat]? = some s[(f + 7).toNat] := List.getElem?_eq_getElem hlt
  have hg : s.getD (f + 7).toNat 0 = s[(f + 7).toNat] := by rw [List.getD_eq_getElem?_getD, hc]; rfl
  rw [if_neg (by rintro (h | h | h) <;> first | exact h1 h | exact h2 h | exact h3 h), hg] at hK
  simp only [h3, decide_false, i_f, w3]
  rw [s_ix Tryz.underlying9 (by omega) hc]
  refine c_eq (digit_ret s[(f + 7).toNat] w) ?_
  refine c_eq (begins_ret s [49, 46] (f + 5) w) ?_
  have hbo := begins_occ s [49, 46] (f + 5).toNat (by omega)
  rw [Int.toNat_of_nonneg (by omega)] at hbo
  rw [hbo]
  have hdd := digit_dig s[(f + 7).toNat]
  generalize s[(f + 7).toNat] = c at *
  cases ho : Hd.occ s [49, 46] (f + 5).toNat with
  | false =>
    rw [ho] at hK
    simp only [rs, Bool.not_false, g_un]
    exact hK _ _ ⟨by rw [Bool.false_and, if_neg (by decide)]; rfl, rfl⟩
  | true =>
    rw [ho] at hK
    simp only [rs, Bool.not_true]
    cases hd : Lx.dig c with
    | true =>
      obtain ⟨d1, d2, d3⟩ := hdd.1 hd
      rw [hd] at hK
      simp only [show ¬ Lx.digit c < 0 by omega, show ¬ 9 < Lx.digit c by omega, decide_false, rs]
      exact hK _ _ ⟨by rw [d1]; rfl, rfl⟩
    | false =>
      rw [hd] at hK
      rcases hdd.2 hd with h | h
      · simp only [h, decide_true, rs, g_un]
        exact hK _ _ ⟨by rfl, rfl⟩
      · simp only [show ¬ Lx.digit c < 0 by omega, h, decide_true, decide_false, rs]
        exact hK _ _ ⟨by rfl, rfl⟩
theorem run_8_64 (w : World) {n : Int} (h0 : 0 ≤ n) (h1 : n ≤ 255) : (mConv 5 3 (.int .u8 n)).run Tryz.prog w = .ok (.value (.int .i64 n)) w := by
  have h : (mConv 5 3 (.int .u8 n)).run Tryz.prog w = .ok (.value (.int .i64 (IntKind.wrap .i64 n))) w := run_c_int (show (Tryz.prog.underlying 5).isSome = true by kernel_rfl) Tryz.underlying3
  rw [wrap64_id (by omega) (by omega)] at h
  exact h
theorem rversion_ret (s : List UInt8) (w : World) (hs : s.length ≤ 1099511627776) : Ret Tryz.prog 11 #[.string ⟨s.toArray⟩] w (fun v w' => v = verV (Hd.version s) ∧ Below w.heap.size w w') := by
  refine ret_of fun K hK => S_foliantref17_Version_ok ?_
  unfold S_foliantref17_Version
  refine c_eq (rfind_ret s Hd.mark 0 w hs (by omega)) ?_
  have hb := find_bd s Hd.mark 0 (by decide)
  have hml : Hd.mark.length = 5 := rfl
  rw [hml] at hb
  unfold Hd.version at hK
  generalize Hd.find s Hd.mark 0 = f at *
  have hW : Below w.heap.size w w := Below.refl _ _
  simp only [rs]
  by_cases h1 : f < 0
  · simp only [h1, decide_true, rs, g_un]
    exact hK _ _ ⟨by rw [if_pos (.inl h1)]; rfl, hW⟩
  by_cases h2 : 1016 < f
  · simp only [h1, h2, decide_true, decide_false, rs, g_un]
    exact hK _ _ ⟨by rw [if_pos (.inr (.inl h2))]; rfl, hW⟩
  have w1 : IntKind.wrap .i64 (f + 5) = f + 5 := wrap64_id (by omega) (by omega)
  have w2 : IntKind.wrap .i64 (f + 7) = f + 7 := wrap64_id (by omega) (by omega)
  simp only [h1, h2, decide_false, rs, w1]
  refine c_eq (rbegins_ret s [49, 46] (f + 5) w hs) ?_
  have hbo := begins_occ s [49, 46] (f + 5).toNat (by omega)
  rw [Int.toNat_of_nonneg (by omega)] at hbo
  rw [hbo]
  simp only [rs]
  cases ho : Hd.occ s [49, 46] (f + 5).toNat with
  | false =>
    rw [ho] at hK
    simp only [rs, Bool.not_false, g_un]
    refine hK _ _ ⟨?_, hW⟩
    rw [Bool.false_and, if_neg (show ¬ (false = true) by decide)]
    split <;> rfl
  | true =>
    rw [ho] at hK
    simp only [rs, Bool.not_true, w2, s_len Tryz.underlying9]
    by_cases h3 : (s.length : Int) ≤ f + 7
    · simp only [h3, decide_true, rs, g_un]
      exact hK _ _ ⟨by rw [if_pos (.inr (.inr (by omega)))]; rfl, hW⟩
    have hlt : (f + 7).toNat < s.length := by omega
    have hc : s[(f + 7).toNat]? = some s[(f + 7).toNat] := List.getElem?_eq_getElem hlt
    have hg : s.getD (f + 7).toNat 0 = s[(f + 7).toNat] := by rw [List.getD_eq_getElem?_getD, hc]; rfl
    rw [if_neg (by rintro (h | h | h) <;> first | exact h1 h | exact h2 h | omega), hg] at hK
    have hix : ∀ {w : World} {PK : List PanicEntry → World → Prop} {K : Value → World → Prop}, DoX Tryz.prog (mIx 9 (.string ⟨s.toArray⟩) (.int .i64 (f + 7))) w PK K = K (.int .u8 (s[(f + 7).toNat].toNat : Int)) w := s_ix Tryz.underlying9 (by omega) hc
    simp only [h3, decide_false, rs, w2, hix]
    generalize hcc : s[(f + 7).toNat] = c at *
    by_cases h4 : (c.toNat : Int) < 48
    · simp only [h4, decide_true, rs, g_un]
      refine hK _ _ ⟨?_, hW⟩
      rw [show Lx.dig c = false by simp [Lx.dig]; omega]; rfl
    by_cases h5 : (57 : Int) < (c.toNat : Int)
    · simp only [h4, h5, decide_true, decide_false, rs, w2, hix]
      refine hK _ _ ⟨?_, hW⟩
      rw [show Lx.dig c = false by simp [Lx.dig]; omega]; rfl
    simp only [h4, h5, decide_false, rs, w2, hix]
    have hc256 := c.toNat_lt
    refine quiet (q_add ?_)
    rw [w2]
    refine q_ix Tryz.underlying9 (by omega) hc ?_
    have h0c : (0 : Int) ≤ (c.toNat : Int) := by omega
    have h1c : (c.toNat : Int) ≤ 255 := by omega
    refine q_do _ (fun w1 => run_8_64 w1 h0c h1c) ?_
    refine q_do _ (fun _ => r_sub) ?_
    rw [wrap64_id (by omega) (by omega)]
    intro w3 hb3
    refine hK _ _ ⟨?_, hb3⟩
    rw [show Lx.dig c = true by simp [Lx.dig]; omega]; rfl
def strErrV (x : List UInt8 × Int) : Value := .tuple #[.string ⟨x.1.toArray⟩, .int .i64 x.2]
theorem dig_one (m : Nat) (h : m ≤ 9) : Lib.itoa (m : Int) = [UInt8.ofNat (48 + m)] := by
  unfold Lib.itoa
  rw [if_neg (by omega), Int.toNat_natCast, Lib.decDigits, dif_pos (by omega)]
theorem htext_ret (m : Int) (w : World) (ht : Tb w) (h0 : -9223372036854775808 ≤ m) (h1 : m ≤ 9223372036854775807) : Ret Tryz.prog 12 #[.int .i64 m] w (fun v w' => v = strErrV (Hd.text m) ∧ Below w.heap.size w w') := by
  refine ret_of fun K hK => S_head_Text_ok ?_
  unfold S_head_Text
  simp only [rs]
  by_cases g1 : m < 0
  · simp only [g1, decide_true, rs, g_un]
    exact hK _ _ ⟨by rw [Hd.text, if_pos (.inl g1)]; rfl, Below.refl _ _⟩
  by_cases g2 : 9 < m
  · simp only [g1, g2, decide_true, decide_false, rs]
    exact hK _ _ ⟨by rw [Hd.text, if_pos (.inr g2)]; rfl, Below.refl _ _⟩
  simp only [g1, g2, decide_false, rs]
  obtain ⟨k, rfl⟩ : ∃ k : Nat, m = k := ⟨m.toNat, by omega⟩
  refine c_told (ppad_ret k 1 h0 h1 (by omega) (by omega) w ht) rfl (Own.start w) fun w1 ho => ?_
  have hp : Pl.pad (k : Int) 1 = [UInt8.ofNat (48 + k)] := by
    unfold Pl.pad
    rw [dig_one k (by omega), if_neg (by simp)]; rfl
  rw [hp]
  refine do_eq (run_s_add (a := [37, 80, 68, 70, 45, 49, 46]) (b := [UInt8.ofNat (48 + k)]) (by simp)) |>.mpr ?_
  refine do_eq (run_s_add (a := [37, 80, 68, 70, 45, 49, 46] ++ [UInt8.ofNat (48 + k)]) (b := [10, 37, 226, 227, 207, 211, 10]) (by simp)) |>.mpr ?_
  refine hK _ _ ⟨?_, ho.done⟩
  rw [Hd.text, if_neg (by omega), Int.toNat_natCast]; rfl
theorem digs_cut : ∀ k : Fin 10, (([48, 49, 50, 51, 52, 53, 54, 55, 56, 57] : List UInt8).drop k.val).take (k.val + 1 - k.val) = [UInt8.ofNat (48 + k.val)] := by decide
theorem rtext_ret (m : Int) (w : World) : Ret Tryz.prog 13 #[.int .i64 m] w (fun v w' => v = strErrV (Hd.text m) ∧ w = w') := by
  refine ret_of fun K hK => S_foliantref17_Text_ok ?_
  unfold S_foliantref17_Text
  simp only [rs]
  by_cases g1 : m < 0
  · simp only [g1, decide_true, rs, g_un]
    exact hK _ _ ⟨by rw [Hd.text, if_pos (.inl g1)]; rfl, rfl⟩
  by_cases g2 : 9 < m
  · simp only [g1, g2, decide_true, decide_false, rs]
    exact hK _ _ ⟨by rw [Hd.text, if_pos (.inr g2)]; rfl, rfl⟩
  simp only [g1, g2, decide_false, rs]
  obtain ⟨k, rfl⟩ : ∃ k : Nat, m = k := ⟨m.toNat, by omega⟩
  rw [wrap64_id (by omega) (by omega)]
  change DoX Tryz.prog (mSlice 9 (.string ⟨([48, 49, 50, 51, 52, 53, 54, 55, 56, 57] : List UInt8).toArray⟩) _ _ _) _ _ _
  rw [s_slice Tryz.underlying9 (by omega) (by omega) (by simp only [List.length_cons, List.length_nil]; omega)]
  have hp := digs_cut ⟨k, by omega⟩
  simp only at hp
  rw [show ((k : Int) + 1).toNat = k + 1 by omega, Int.toNat_natCast, hp]
  refine do_eq (run_s_add (a := [37, 80, 68, 70, 45, 49, 46]) (b := [UInt8.ofNat (48 + k)]) (by simp)) |>.mpr ?_
  refine do_eq (run_s_add (a := [37, 80, 68, 70, 45, 49, 46] ++ [UInt8.ofNat (48 + k)]) (b := [10, 37, 226, 227, 207, 211, 10]) (by simp)) |>.mpr ?_
  refine hK _ _ ⟨?_, rfl⟩
  rw [Hd.text, if_neg (by omega), Int.toNat_natCast]; rfl
def intErrV (x : Int × Int) : Value := .tuple #[.int .i64 x.1, .int .i64 x.2]
theorem fa_t3h {b : Nat} {w : World} {PK : List PanicEntry → World → Prop} {K : Value → World → Prop} : DoX Tryz.prog (mFA 63 (.pointer (some ⟨b, 0, none⟩)) 3) w PK K = K (.pointer (some ⟨b, 3, none⟩)) w := f_addr (show fOff Tryz.prog 63 3 = some 3 by kernel_rfl)
theorem nI64 : notAgg Tryz.prog 2 = true := by kernel_rfl
theorem start_ret (s : List UInt8) (w : World) (hs : s.length ≤ 1099511627776) : Ret Tryz.prog 14 #[.string ⟨s.toArray⟩] w (fun v w' => v = intErrV (Hd.start s) ∧ Below w.heap.size w w') := by
  refine ret_of fun K hK => S_head_Start_ok ?_
  unfold S_head_Start
  refine c_eq (last_ret s Hd.startx w (by omega)) ?_
  have hb := last_bd s Hd.startx (by decide)
  rw [show Hd.startx.length = 9 from rfl] at hb
  unfold Hd.start at hK
  generalize Hd.last s Hd.startx = f at *
  simp only [rs]
  by_cases h1 : f < 0
  · simp only [h1, decide_true, i_t]
    exact hK _ _ ⟨by rw [if_pos h1]; rfl, Below.refl _ _⟩
  simp only [h1, decide_false, i_f]
  rw [if_neg h1] at hK
  rw [wrap64_id (by omega) (by omega)]
  refine tok_new (Own.start w) (next_ret s (f + 9) w hs) rfl fun b5 w1 ho => ?_
  generalize Lx.next s (f + 9) = x at *
  have A0 : ∀ {PK : List PanicEntry → World → Prop} {K : Value → World → Prop}, DoX Tryz.prog (mLoad 3 (.pointer (some ⟨b5, 0, none⟩))) w1 PK K = K (.int .i64 x.1.k) w1 := l_cell nInt (ho.cell 0 rfl 0 rfl)
  have A3 : ∀ {PK : List PanicEntry → World → Prop} {K : Value → World → Prop}, DoX Tryz.prog (mLoad 2 (.pointer (some ⟨b5, 3, none⟩))) w1 PK K = K (.int .i64 x.1.n) w1 := l_cell nI64 (ho.cell 0 rfl 3 rfl)
  simp only [rs]
  by_cases g1 : x.2 ≠ 0
  · simp only [decide_eq_true g1, rs, g_un]
    exact hK _ _ ⟨by rw [if_pos (.inl g1)]; rfl, ho.done⟩
  by_cases g2 : x.1.k ≠ 1
  · simp only [decide_eq_false g1, rs, fa_t0, A0, decide_eq_true g2, g_un]
    exact hK _ _ ⟨by rw [if_pos (.inr (.inl g2))]; rfl, ho.done⟩
  by_cases g3 : x.1.n < 0
  · simp only [decide_eq_false g1, rs, fa_t0, fa_t3h, A0, A3, decide_eq_false g2, decide_eq_true g3, g_un]
    exact hK _ _ ⟨by rw [if_pos (.inr (.inr (.inl g3)))]; rfl, ho.done⟩
  by_cases g4 : (s.length : Int) ≤ x.1.n
  · simp only [decide_eq_false g1, rs, fa_t0, fa_t3h, A0, A3, decide_eq_false g2, decide_eq_false g3, s_len Tryz.underlying9, decide_eq_true g4]
    exact hK _ _ ⟨by rw [if_pos (.inr (.inr (.inr g4)))]; rfl, ho.done⟩
  simp only [decide_eq_false g1, rs, fa_t0, fa_t3h, A0, A3, decide_eq_false g2, decide_eq_false g3, s_len Tryz.underlying9, decide_eq_false g4]
  exact hK _ _ ⟨by rw [if_neg (by rintro (h | h | h | h) <;> first | exact g1 h | exact g2 h | exact g3 h | exact g4 h)]; rfl, ho.done⟩
theorem rstart_ret (s : List UInt8) (w : World) (hs : s.length ≤ 1099511627776) : Ret Tryz.prog 15 #[.string ⟨s.toArray⟩] w (fun v w' => v = intErrV (Hd.start s) ∧ Below w.heap.size w w') := by
  refine ret_of fun K hK => S_foliantref17_Start_ok ?_
  unfold S_foliantref17_Start
  refine c_eq (rlast_ret s Hd.startx w hs) ?_
  have hb := last_bd s Hd.startx (by decide)
  rw [show Hd.startx.length = 9 from rfl] at hb
  unfold Hd.start at hK
  generalize Hd.last s Hd.startx = f at *
  simp only [rs]
  by_cases h1 : f < 0
  · simp only [h1, decide_true, i_t]
    exact hK _ _ ⟨by rw [if_pos h1]; rfl, Below.refl _ _⟩
  simp only [h1, decide_false, i_f]
  rw [if_neg h1] at hK
  rw [wrap64_id (by omega) (by omega)]
  refine tok_new (Own.start w) (rnext_ret s (f + 9) w hs) rfl fun b5 w1 ho => ?_
  generalize Lx.next s (f + 9) = x at *
  have A0 : ∀ {PK : List PanicEntry → World → Prop} {K : Value → World → Prop}, DoX Tryz.prog (mLoad 3 (.pointer (some ⟨b5, 0, none⟩))) w1 PK K = K (.int .i64 x.1.k) w1 := l_cell nInt (ho.cell 0 rfl 0 rfl)
  have A3 : ∀ {PK : List PanicEntry → World → Prop} {K : Value → World → Prop}, DoX Tryz.prog (mLoad 2 (.pointer (some ⟨b5, 3, none⟩))) w1 PK K = K (.int .i64 x.1.n) w1 := l_cell nI64 (ho.cell 0 rfl 3 rfl)
  simp only [rs]
  by_cases g1 : x.2 ≠ 0
  · simp only [decide_eq_true g1, rs, g_un]
    exact hK _ _ ⟨by rw [if_pos (.inl g1)]; rfl, ho.done⟩
  by_cases g2 : x.1.k ≠ 1
  · simp only [decide_eq_false g1, rs, fa_t0, A0, decide_eq_true g2, g_un]
    exact hK _ _ ⟨by rw [if_pos (.inr (.inl g2))]; rfl, ho.done⟩
  by_cases g3 : x.1.n < 0
  · simp only [decide_eq_false g1, rs, fa_t0, fa_t3h, A0, A3, decide_eq_false g2, decide_eq_true g3, g_un]
    exact hK _ _ ⟨by rw [if_pos (.inr (.inr (.inl g3)))]; rfl, ho.done⟩
  by_cases g4 : (s.length : Int) ≤ x.1.n
  · simp only [decide_eq_false g1, rs, fa_t0, fa_t3h, A0, A3, decide_eq_false g2, decide_eq_false g3, s_len Tryz.underlying9, decide_eq_true g4]
    exact hK _ _ ⟨by rw [if_pos (.inr (.inr (.inr g4)))]; rfl, ho.done⟩
  simp only [decide_eq_false g1, rs, fa_t0, fa_t3h, A0, A3, decide_eq_false g2, decide_eq_false g3, s_len Tryz.underlying9, decide_eq_false g4]
  exact hK _ _ ⟨by rw [if_neg (by rintro (h | h | h | h) <;> first | exact g1 h | exact g2 h | exact g3 h | exact g4 h)]; rfl, ho.done⟩
theorem itoa_len30 {n : Int} (h : -2147483647 ≤ n) (h2 : n ≤ 2147483647) : (Lib.itoa n).length ≤ 30 := by
  rcases Pl.itoa_shape n with ⟨u, hu, e⟩ | ⟨u, hu, _, e⟩ <;> rw [e]
  · have := decDigits_len u (by omega); omega
  · have := decDigits_len u (by omega); simp only [List.length_cons]; omega
theorem tail_ret (n : Int) (w : World) (ht : Tb w) : Ret Tryz.prog 16 #[.int .i64 n] w (fun v w' => v = .string ⟨(Hd.tail n).toArray⟩ ∧ Below w.heap.size w w') := by
  refine ret_of fun K hK => S_head_Tail_ok ?_
  unfold S_head_Tail
  refine c_told (pint_ret n w ht) rfl (Own.start w) fun w1 ho => ?_
  unfold Hd.tail at hK
  simp only [ex, rs]
  by_cases h1 : n < 0
  · simp only [h1, decide_true, rs, g_un]
    exact hK _ _ ⟨by rw [if_pos (.inl h1)], ho.done⟩
  by_cases h2 : 2147483647 < n
  · have e : Pl.pInt n = ([], 2) := by rw [Pl.pInt, if_neg (by omega)]
    simp only [h1, e, ne_eq, decide_false, rs, show ((2 : Int) = 0) = False by decide, not_false_eq_true, decide_true]
    exact hK _ _ ⟨by rw [if_pos (.inr h2)], ho.done⟩
  have e : Pl.pInt n = (Lib.itoa n, 0) := by rw [Pl.pInt, if_pos (by omega)]
  have hl := itoa_len30 (n := n) (by omega) (by omega)
  rw [if_neg (by omega)] at hK
  simp only [h1, e, ne_eq, not_true, decide_false, rs]
  refine do_eq (run_s_add (a := [115, 116, 97, 114, 116, 120, 114, 101, 102, 10]) (b := Lib.itoa n) (by simp; omega)) |>.mpr ?_
  refine do_eq (run_s_add (a := [115, 116, 97, 114, 116, 120, 114, 101, 102, 10] ++ Lib.itoa n) (b := [10]) (by simp; omega)) |>.mpr ?_
  refine do_eq (run_s_add (a := [115, 116, 97, 114, 116, 120, 114, 101, 102, 10] ++ Lib.itoa n ++ [10]) (b := [37, 37, 69, 79, 70]) (by simp; omega)) |>.mpr ?_
  refine do_eq (run_s_add (a := [115, 116, 97, 114, 116, 120, 114, 101, 102, 10] ++ Lib.itoa n ++ [10] ++ [37, 37, 69, 79, 70]) (b := [10]) (by simp; omega)) |>.mpr ?_
  exact hK _ _ ⟨rfl, ho.done⟩
theorem rtail_ret (n : Int) (w : World) : Ret Tryz.prog 17 #[.int .i64 n] w (fun v w' => v = .string ⟨(Hd.tail n).toArray⟩ ∧ w = w') := by
  refine ret_of fun K hK => S_foliantref17_Tail_ok ?_
  unfold S_foliantref17_Tail
  unfold Hd.tail at hK
  simp only [rs]
  by_cases h1 : n < 0
  · simp only [h1, decide_true, rs, g_un]
    exact hK _ _ ⟨by rw [if_pos (.inl h1)], rfl⟩
  by_cases h2 : 2147483647 < n
  · simp only [h1, h2, decide_true, decide_false, rs]
    exact hK _ _ ⟨by rw [if_pos (.inr h2)], rfl⟩
  have e : Pl.pInt n = (Lib.itoa n, 0) := by rw [Pl.pInt, if_pos (by omega)]
  have hl := itoa_len30 (n := n) (by omega) (by omega)
  rw [if_neg (by omega)] at hK
  simp only [h1, h2, decide_false, rs]
  refine c_eq (rint_ret n w) ?_
  simp only [ex, e]
  refine do_eq (run_s_add (a := [115, 116, 97, 114, 116, 120, 114, 101, 102, 10]) (b := Lib.itoa n) (by simp; omega)) |>.mpr ?_
  refine do_eq (run_s_add (a := [115, 116, 97, 114, 116, 120, 114, 101, 102, 10] ++ Lib.itoa n) (b := [10, 37, 37, 69, 79, 70, 10]) (by simp; omega)) |>.mpr ?_
  refine hK _ _ ⟨?_, rfl⟩
  simp [Hd.startx, Hd.eof]
end Go.Proofs.YtgffladaenimmaaGreatDoor
/- Contracts: head.ends (an iterator), slices.Collect of int, head.Ends; foliantref17.Ends, foliantref10.Same. -/
namespace Go.Proofs.YtgffladaenimmaaGreatDoor
set_option linter.unusedVariables false
set_option linter.unusedSimpArgs false
set_option linter.defProp false
open Eng Go.RowKit

def intsV (l : List Nat) : List Value := l.map fun n : Nat => .int .i64 (n : Int)
def IRow (v : Value) (xs : List Value) : Ent := .row 3 1 v xs.length xs
theorem nSlI : notAgg Tryz.prog 32 = true := by kernel_rfl
/-- append(l, n): the row is the i-th piece. -/
theorem o_appI {S : Nat → Prop} {w0 w : World} {L : List Ent} {PK : List PanicEntry → World → Prop} {K : Value → World → Prop} (i : Nat) {v : Value} {xs : List Value} {n : Int} {cs : Array Bool} {PK2 : List PanicEntry → World → Prop} (ho : OwnS S w0 w L) (hi : L[i]? = some (IRow v xs)) (hb : xs.length ≤ 1099511627776)
    (k : ∀ v' w', OwnS S w0 w' (L.set i (IRow v' (xs ++ [.int .i64 n]))) → K v' w') :
    DoX Tryz.prog (mBuildS 32 1 #[(0, .int .i64 n)]) w PK fun t w => DoX Tryz.prog (mB .append #[32, 32] 32 cs #[v, t]) w PK2 K := by
  refine o_new (fun b => .slice (some ⟨b, 0, none⟩) 1 1) [.int .i64 n] 3 (fun _ => by kernel_rfl) ho fun nb w4 h4 => ?_
  refine o_append (i + 1) Tryz.underlying32 (show elB Tryz.prog 3 1 8 = true by kernel_rfl) (by decide) h4 (by rw [List.getElem?_cons_succ]; exact hi) (h4.sl 0 rfl 1 1 1 rfl) (fun x hx => by rw [List.mem_singleton] at hx; subst hx; rfl) (by omega) (by omega) fun v' w5 h5 => ?_
  refine k v' w5 ?_
  have e : IRow v' (xs ++ [.int .i64 n]) = .row 3 1 v' (xs.length + 1) (xs ++ [.int .i64 n]) := by
    rw [IRow, List.length_append]; rfl
  rw [e]
  exact h5.tail
theorem irow_sl {S : Nat → Prop} {w0 w : World} {L : List Ent} {v : Value} {xs : List Value} (i : Nat) (ho : OwnS S w0 w L) (hi : L[i]? = some (IRow v xs)) : Sl w v 1 xs.length xs := ho.slRow i hi
theorem irow_one {S : Nat → Prop} {w0 w : World} {L : List Ent} {v : Value} {xs : List Value} (i : Nat) (ho : OwnS S w0 w L) (hi : L[i]? = some (IRow v xs)) : v.oneCell' = true := by
  obtain ⟨_, a, cap, rfl, _⟩ := ho.slRow i hi
  rfl
def slcI (b : Nat) (v : Value) : Ent := .cells b [v] 32
/-- slices.Collect, over an iterator that hands out integers. -/
theorem collectI_ret {I : World → Prop} {f : Nat} {fa ca : Array Value} {F : List Ent} {ns : List Nat} (hseq : Seq Tryz.prog I f fa ca F (intsV ns)) (hp : plainB Tryz.prog f = true) (hl : ns.length ≤ 1099511627776)
    {S : Nat → Prop} {w0 w : World} {L : List Ent} (hI : ∀ (L : List Ent) (W : World), OwnS S w0 W L → I W) (ho : OwnS S w0 w (F ++ L)) :
    Ret Tryz.prog 49 #[.func (.func f) fa ca] w (fun v w' => OwnS S w0 w' (IRow v (intsV ns) :: L)) := by
  refine ret_of fun K hK => S_slices_Collect_int_ok ?_
  unfold S_slices_Collect_int
  refine c_any (S_slices_AppendSeq_int_int_ok (K := RetK fun v w' => OwnS S w0 w' (IRow v (intsV ns) :: L)) ?_) (fun e w' ⟨v, he, hv⟩ => by subst he; exact hK _ _ hv)
  unfold S_slices_AppendSeq_int_int
  have ho := ho.nilRow 3 1
  refine o_new (fun b => .pointer (some ⟨b, 0, none⟩)) [.slice none 0 0] 32 (fun _ => by kernel_rfl) ho fun b2 w1 ho => ?_
  refine range ho hp fun L0 df lb w2 ho hy => ?_
  have hlen : (intsV ns).length = ns.length := by simp [intsV]
  refine hseq S w0 w2 L0 lb df (slcI b2 (.slice none 0 0) :: IRow (.slice none 0 0) [] :: L) (fun k M => ∃ v, M = slcI b2 v :: IRow v ((intsV ns).take k) :: L) _ hI ?_ ⟨.slice none 0 0, by rw [List.take_zero]⟩ ?_ ?_
  · refine ho.perm ?_
    show List.Perm (_ :: _ :: _ :: _ :: (F ++ L)) (_ :: _ :: _ :: _ :: (L ++ F))
    exact (List.Perm.cons _ (List.Perm.cons _ (List.Perm.cons _ (List.Perm.cons _ List.perm_append_comm))))
  · rintro k v M X W hk ⟨u, rfl⟩ ho
    have hkl : k < (intsV ns).length := (List.getElem?_eq_some_iff.1 hk).1
    obtain ⟨n, hn⟩ : ∃ n : Nat, v = .int .i64 (n : Int) := by
      have := List.mem_of_getElem? hk
      obtain ⟨n, _, e⟩ := List.mem_map.1 this
      exact ⟨n, e.symm⟩
    subst hn
    have ho : OwnS S w0 W (.obj lb (lp L0 .ready none) :: .obj df (.deferred (some [])) :: slcI b2 u :: IRow u ((intsV ns).take k) :: (L ++ X)) := ho
    refine hy _ W _ (ho.at_ 0 rfl) rfl ?_
    refine o_beg 0 ho rfl fun W3 ho => ?_
    rw [l_cell nSlI (ho.cell 2 rfl 0 rfl)]
    refine o_appI 3 ho rfl (by rw [List.length_take]; omega) fun v' W4 ho => ?_
    refine o_store 2 ho rfl (by kernel_rfl) (irow_one 3 ho rfl) (by simp) fun W5 ho => ?_
    refine o_end 0 ho rfl fun W6 ho => ?_
    refine .inl ⟨rfl, slcI b2 v' :: IRow v' ((intsV ns).take (k + 1)) :: L, ⟨v', rfl⟩, ?_⟩
    have e : (intsV ns).take (k + 1) = (intsV ns).take k ++ [.int .i64 (n : Int)] := by
      rw [List.take_succ_eq_append_getElem hkl, (List.getElem?_eq_some_iff.1 hk).2]
    rw [e]
    exact ho
  · rintro M X W ⟨u, rfl⟩ ho
    rw [List.take_length] at ho
    refine ⟨_, .ready, none, _, rfl, (by intro h; cases h), ho.at_ 0 rfl, List.mem_cons.2 (.inl rfl), ?_⟩
    have hp' : OwnS S w0 (putO W lb (lp L0 .exhausted none)) (.obj lb (lp L0 .exhausted none) :: .obj df (.deferred (some [])) :: slcI b2 u :: IRow u (intsV ns) :: (L ++ X)) := put_iter (o' := lp L0 .exhausted none) ho 0 rfl
    have hp' : OwnS S w0 (putO W lb (lp L0 .exhausted none)) (.obj df (.deferred (some [])) :: slcI b2 u :: IRow u (intsV ns) :: (L ++ X)) := hp'.tail
    rw [l_cell nSlI (hp'.cell 1 rfl 0 rfl)]
    refine leave1 0 hp' rfl fun W4 ho => ?_
    show RetK (fun v w' => OwnS S w0 w' (IRow v (intsV ns) :: L)) (.returned u) W4
    refine retK ?_
    exact ho.tail.tail.sub (.cons_cons _ (List.sublist_append_left _ _))
theorem endsTo_prefix (s : List UInt8) {a b : Nat} (h : a ≤ b) : Hd.endsTo s a <+: Hd.endsTo s b := by
  induction b with
  | zero => rw [show a = 0 by omega]; exact List.prefix_rfl
  | succ b ih =>
    rcases Nat.lt_or_ge b a with h1 | h1
    · rw [show a = b + 1 by omega]; exact List.prefix_rfl
    · rw [Hd.endsTo_succ]
      exact (ih h1).trans (List.prefix_append _ _)
theorem ends_get (s : List UInt8) {i : Nat} (hi : i < s.length) (he : Hd.endAt s i = true) : (Hd.ends s)[(Hd.endsTo s i).length]? = some (Lx.line s (i + 5)) := by
  obtain ⟨t, ht⟩ := endsTo_prefix s (show i + 1 ≤ s.length by omega)
  unfold Hd.ends
  rw [← ht, Hd.endsTo_succ, if_pos he, List.append_assoc, List.getElem?_append_right (Nat.le_refl _), Nat.sub_self]; rfl
theorem ends_seq (s : List UInt8) (b : Nat) (hs : s.length < 4294967281) : Seq Tryz.prog Mx 90 #[] #[.pointer (some ⟨b, 0, none⟩)] [strE b s] (intsV (Hd.ends s)) := by
  intro S w0 w1 L0 lb df M0 R K hI ho hR hy hend
  show Calls Tryz.prog 90 #[.func (.yield lb) #[] #[], .pointer (some ⟨b, 0, none⟩)] w1 K
  refine S_head_ends_1_ok ?_
  unfold S_head_ends_1
  have cellS : ∀ (M : List Ent) (W : World), OwnS S w0 W (loopE L0 lb df ++ (M ++ [strE b s])) → W.cell? ⟨b, 0, none⟩ = some (.string ⟨s.toArray⟩) := by
    intro M W h
    have : strE b s ∈ loopE L0 lb df ++ (M ++ [strE b s]) := by simp
    exact cells_cell (h.mem this) (i := 0) rfl
  have el : Hd.eof ≠ [] := by decide
  rw [l_cell nStr (cellS _ _ ho)]
  refine c_eq (find_ret s Hd.eof 0 w1 (hI _ _ ho) hs) ?_
  refine loop (fun vs w' => ∃ (k : Nat) (M : List Ent), vs = [.int .i64 (Hd.find s Hd.eof k)] ∧ R (Hd.endsTo s k).length M ∧ OwnS S w0 w' (loopE L0 lb df ++ (M ++ [strE b s])) ∧ k ≤ s.length + 1)
    (fun vs _ => if intOf (vs.getD 0 undef) < 0 then 0 else s.length + 1 - n0 vs) ⟨0, M0, rfl, hR, ho, by omega⟩ ?_
  rintro vs w2 ⟨k, M, rfl, hR, ho, hk⟩ _
  simp only [S_head_ends_1_0, gd, rs]
  rcases Hd.find_spec s Hd.eof (k : Int) el with ⟨e, hn⟩ | ⟨i, e, hki, hroom, hocc, hn⟩
  · rw [e]
    simp only [show ¬ ((0 : Int) ≤ -1) by decide, decide_false, i_f]
    have h0 : Hd.endsTo s s.length = Hd.endsTo s k ∨ s.length < k := by
      rcases Nat.lt_or_ge s.length k with h | h
      · exact .inr h
      · refine .inl (Hd.endsTo_skip s s.length k h fun j h1 h2 => ?_)
        unfold Hd.endAt
        rw [hn j (by omega), Bool.false_and]
    have hlen : (intsV (Hd.ends s)).length = (Hd.endsTo s k).length := by
      rw [show (intsV (Hd.ends s)).length = (Hd.ends s).length by simp [intsV]]
      unfold Hd.ends
      rcases h0 with h | h
      · rw [h]
      · rw [show k = s.length + 1 by omega, Hd.endsTo_succ]
        have : Hd.endAt s s.length = false := by
          unfold Hd.endAt
          rw [Hd.occ_past el (by show s.length < s.length + 5; omega), Bool.false_and]
        rw [this]; simp
    exact hend M [strE b s] w2 (by rw [hlen]; exact hR) ho
  · rw [e]
    have hroom : i + 5 ≤ s.length := hroom
    have hil : i < s.length := by omega
    simp only [show (0 : Int) ≤ (i : Int) by omega, decide_true, i_t]
    have hEi : Hd.endsTo s i = Hd.endsTo s k := Hd.endsTo_skip s i k (by omega) fun j h1 h2 => by
      unfold Hd.endAt
      rw [hn j (by omega) h2, Bool.false_and]
    refine join fun J hJ => ?_
    have go : ∀ (M' : List Ent) (W : World), R (Hd.endsTo s (i + 1)).length M' → OwnS S w0 W (loopE L0 lb df ++ (M' ++ [strE b s])) → J [] W := by
      intro M' W hR' ho'
      refine hJ _ _ fun _ => ?_
      unfold S_head_ends_1_1
      rw [l_cell nStr (cellS _ _ ho')]
      simp only [rs]
      rw [wrap64_id (by omega) (by omega)]
      refine c_eq (find_ret s Hd.eof (i + 1) W (hI _ _ ho') hs) ?_
      refine nextX ⟨i + 1, M', by simp, hR', ho', by omega⟩ ?_
      simp only [gd, n0, intOf, Int.toNat_natCast]
      rw [if_neg (show ¬ (i : Int) < 0 by omega)]
      rcases Hd.find_spec s Hd.eof ((i : Int) + 1) el with ⟨e2, _⟩ | ⟨i2, e2, h2, _⟩
      · rw [e2, if_pos (by omega)]; omega
      · rw [e2, if_neg (by omega)]; omega
    have hit : Hd.endAt s i = true → DoX Tryz.prog (mLoad 9 (.pointer (some ⟨b, 0, none⟩))) w2 (pk K) fun t29 w =>
        DoX Tryz.prog (mBin .add 3 (.int .i64 i) (.int .i64 5)) w (pk K) fun t31 w =>
        CallX Tryz.prog 91 #[t29, t31] w (pk K) fun t32 w =>
        DoX Tryz.prog (mCallV (.func (.yield lb) #[] #[]) #[t32]) w (pk K) fun t33 w =>
        DoX Tryz.prog (mUn .not t33) w (pk K) fun t34 w =>
        IfX t34 (K (.returned (.tuple #[])) w) (J [] w) := by
      intro he
      rw [l_cell nStr (cellS _ _ ho), b_add, wrap64_id (by omega) (by omega)]
      refine c_eq (line_ret s (i + 5) w2 hroom (by omega)) ?_
      refine c_yld (args := [.int .i64 (Lx.line s (i + 5))]) (hy (Hd.endsTo s k).length _ M [strE b s] w2 ?_ hR ho) ?_
      · rw [← hEi]
        have := ends_get s hil he
        unfold intsV
        rw [List.getElem?_map, this]; rfl
      · rintro v w3 (⟨rfl, M', hR', ho'⟩ | ⟨rfl, hK⟩)
        · rw [u_not, Bool.not_true, i_f]
          refine go M' w3 ?_ ho'
          rw [Hd.endsTo_succ, if_pos he, hEi, List.length_append]; exact hR'
        · rw [u_not, Bool.not_false, i_t]
          exact hK
    have miss : Hd.endAt s i = false → J [] w2 := by
      intro he
      refine go M w2 ?_ ho
      rw [Hd.endsTo_succ, he, hEi]
      simpa using hR
    by_cases h0 : (0 : Int) < (i : Int)
    · have hlt : i - 1 < s.length := by omega
      have hc : s[((i : Int) - 1).toNat]? = some s[i - 1] := by rw [show ((i : Int) - 1).toNat = i - 1 by omega]; exact List.getElem?_eq_getElem hlt
      have hg : s.getD (i - 1) 0 = s[i - 1] := by rw [List.getD_eq_getElem?_getD, List.getElem?_eq_getElem hlt]; rfl
      have hea : Hd.endAt s i = Lx.eol s[i - 1] := by
        unfold Hd.endAt
        rw [show Hd.occ s Hd.eof i = true from hocc, Bool.true_and, decide_eq_false (show ¬ i = 0 by omega), Bool.false_or, hg]
      have w1' : IntKind.wrap .i64 ((i : Int) - 1) = (i : Int) - 1 := wrap64_id (by omega) (by omega)
      have hix : ∀ {w : World} {PK : List PanicEntry → World → Prop} {K : Value → World → Prop}, DoX Tryz.prog (mIx 9 (.string ⟨s.toArray⟩) (.int .i64 ((i : Int) - 1))) w PK K = K (.int .u8 (s[i - 1].toNat : Int)) w := s_ix Tryz.underlying9 (by omega) hc
      have hld : ∀ {PK : List PanicEntry → World → Prop} {K : Value → World → Prop}, DoX Tryz.prog (mLoad 9 (.pointer (some ⟨b, 0, none⟩))) w2 PK K = K (.string ⟨s.toArray⟩) w2 := l_cell nStr (cellS _ _ ho)
      by_cases g1 : s[i - 1] = 10
      · have e1 : ¬ ((s[i - 1].toNat : Int) ≠ 10) := by rw [g1]; decide
        simp only [h0, decide_true, rs, hld, w1', hix, decide_eq_false e1, g_un]
        have := hit (by rw [hea, g1]; rfl)
        simp only [rs, hld] at this ⊢
        exact this
      · have e1 : (s[i - 1].toNat : Int) ≠ 10 := fun h => g1 (UInt8.toNat_inj.1 (by have : (10 : UInt8).toNat = 10 := rfl; omega))
        by_cases g2 : s[i - 1] = 13
        · have e2 : ¬ ((s[i - 1].toNat : Int) ≠ 13) := by rw [g2]; decide
          simp only [h0, decide_true, rs, hld, w1', hix, decide_eq_true e1, decide_eq_false e2]
          have := hit (by rw [hea, g2]; rfl)
          simp only [rs, hld] at this ⊢
          exact this
        · have e2 : (s[i - 1].toNat : Int) ≠ 13 := fun h => g2 (UInt8.toNat_inj.1 (by have : (13 : UInt8).toNat = 13 := rfl; omega))
          simp only [h0, decide_true, rs, hld, w1', hix, decide_eq_true e1, decide_eq_true e2]
          exact miss (by rw [hea]; simp [Lx.eol, g1, g2])
    · have hi0 : i = 0 := by omega
      have hld : ∀ {PK : List PanicEntry → World → Prop} {K : Value → World → Prop}, DoX Tryz.prog (mLoad 9 (.pointer (some ⟨b, 0, none⟩))) w2 PK K = K (.string ⟨s.toArray⟩) w2 := l_cell nStr (cellS _ _ ho)
      simp only [h0, decide_false, rs, g_un]
      have := hit (by
        unfold Hd.endAt
        rw [show Hd.occ s Hd.eof i = true from hocc, hi0]; rfl)
      simp only [rs, hld] at this ⊢
      exact this
theorem headEnds_ret (s : List UInt8) (w : World) (hm : Mx w) (hs : s.length < 4294967281) : Ret Tryz.prog 19 #[.string ⟨s.toArray⟩] w (fun v w' => Own w w' [IRow v (intsV (Hd.ends s))]) := by
  refine ret_of fun K hK => S_head_Ends_ok ?_
  unfold S_head_Ends
  refine c_any (S_head_ends_ok (K := RetK fun v w' => ∃ b, v = .func (.func 90) #[] #[.pointer (some ⟨b, 0, none⟩)] ∧ Own w w' [strE b s]) ?_) ?_
  · unfold S_head_ends
    refine o_new (fun b => .pointer (some ⟨b, 0, none⟩)) [.string ⟨s.toArray⟩] 9 (fun _ => by kernel_rfl) (Own.start w) fun b w1 ho => ?_
    rw [m_func]
    exact ⟨_, rfl, b, rfl, ho⟩
  · rintro e w1 ⟨_, rfl, b, rfl, ho⟩
    have hlen := Hd.endsTo_len s s.length
    refine c_ret (collectI_ret (S := NoB) (w0 := w) (L := []) (ends_seq s b hs) (by kernel_rfl) (by unfold Hd.ends; omega) (fun L W h => hm.own h) (by simpa using ho)) ?_
    intro v w2 ho
    exact hK _ _ ho
end Go.Proofs.YtgffladaenimmaaGreatDoor
/- Plain mathematics of layer 17: written headers and tails are read back; ends of a concatenation. -/
namespace Go.Proofs.YtgffladaenimmaaGreatDoor
set_option linter.unusedVariables false
set_option linter.unusedSimpArgs false
set_option linter.defProp false
open Go
namespace Hd
open Oc Lx
theorem occ_get {s p : List UInt8} {i : Nat} (h : occ s p i = true) (j : Nat) (hj : j < p.length) : s[i + j]? = p[j]? := by
  unfold occ Lib.occAt at h
  obtain ⟨t, ht⟩ := List.isPrefixOf_iff_prefix.1 h
  rw [← List.getElem?_drop, ← ht, List.getElem?_append_left hj]
theorem occ_mid (pre p t : List UInt8) : occ (pre ++ (p ++ t)) p pre.length = true := by
  unfold occ Lib.occAt
  rw [List.drop_left]
  exact List.isPrefixOf_iff_prefix.2 (List.prefix_append p t)
theorem occ_app {s p t : List UInt8} {i : Nat} (h : i + p.length ≤ s.length) : occ (s ++ t) p i = occ s p i := by
  unfold occ Lib.occAt
  rw [List.drop_append_of_le_length (by omega), Bool.eq_iff_iff, List.isPrefixOf_iff_prefix, List.isPrefixOf_iff_prefix]
  constructor
  · intro hp
    exact List.prefix_of_prefix_length_le hp (List.prefix_append _ _) (by rw [List.length_drop]; omega)
  · intro hp
    exact hp.trans (List.prefix_append _ _)
theorem occ_right (s t p : List UInt8) (k : Nat) : occ (s ++ t) p (s.length + k) = occ t p k := by
  unfold occ Lib.occAt
  rw [← List.drop_drop, List.drop_left]
/- BACK -/
theorem text_eq {m : Int} (h0 : 0 ≤ m) (h1 : m ≤ 9) : text m = (mark ++ [49, 46] ++ [UInt8.ofNat (48 + m.toNat)] ++ headTail, 0) := by
  rw [text, if_neg (by omega)]
theorem version_back {m : Int} (h0 : 0 ≤ m) (h1 : m ≤ 9) (r : List UInt8) : version ((text m).1 ++ r) = (1, m, 0) := by
  rw [text_eq h0 h1]
  simp only
  have hf : find (mark ++ [49, 46] ++ [UInt8.ofNat (48 + m.toNat)] ++ headTail ++ r) mark 0 = (0 : Nat) := by
    refine find_hit (by decide) (by omega) (by omega) ?_ fun j _ hj => by omega
    have := occ_mid [] mark ([49, 46] ++ [UInt8.ofNat (48 + m.toNat)] ++ headTail ++ r)
    simpa using this
  unfold version
  rw [hf]
  have hl : (mark ++ [49, 46] ++ [UInt8.ofNat (48 + m.toNat)] ++ headTail ++ r).length = 15 + r.length := by simp [mark, headTail]; omega
  rw [if_neg (by rw [hl]; omega)]
  have ho : occ (mark ++ [49, 46] ++ [UInt8.ofNat (48 + m.toNat)] ++ headTail ++ r) [49, 46] (((0 : Nat) : Int) + 5).toNat = true := by
    have := occ_mid mark [49, 46] ([UInt8.ofNat (48 + m.toNat)] ++ headTail ++ r)
    rw [show mark.length = (((0 : Nat) : Int) + 5).toNat from rfl] at this
    simpa only [List.append_assoc] using this
  have hg : (mark ++ [49, 46] ++ [UInt8.ofNat (48 + m.toNat)] ++ headTail ++ r).getD (((0 : Nat) : Int) + 7).toNat 0 = UInt8.ofNat (48 + m.toNat) := rfl
  have hn : (UInt8.ofNat (48 + m.toNat)).toNat = 48 + m.toNat := by rw [UInt8.toNat_ofNat']; omega
  have hd : dig (UInt8.ofNat (48 + m.toNat)) = true := by
    simp only [dig, hn, Bool.and_eq_true, decide_eq_true_eq]; omega
  rw [ho, hg, hd, hn]
  simp only [Bool.and_self, if_true]
  rw [show ((48 + m.toNat : Nat) : Int) - 48 = m by omega]
theorem itoa_no115 (n : Int) : (115 : UInt8) ∉ Lib.itoa n := by
  rcases Pl.itoa_shape n with ⟨u, _, e⟩ | ⟨u, _, _, e⟩ <;> rw [e]
  · exact Pl.dec_no u 115 rfl
  · simp only [List.mem_cons, not_or]
    exact ⟨by decide, Pl.dec_no u 115 rfl⟩
theorem last_back {pre T : List UInt8} (hT : (115 : UInt8) ∉ T) : last (pre ++ (startx ++ T)) startx = pre.length := by
  rw [last_occ (by decide)]
  have ho := occ_mid pre startx T
  rcases Lib.lastOcc_spec (pre ++ (startx ++ T)) startx (pre ++ (startx ++ T)).length with ⟨_, hn⟩ | ⟨i, hi, e, hoi, hn⟩
  · have := hn pre.length (by simp [startx])
    rw [show Lib.occAt _ _ _ = _ from ho] at this; cases this
  · rw [e]
    rcases Nat.lt_trichotomy i pre.length with h | h | h
    · have := hn pre.length h (by simp [startx])
      rw [show Lib.occAt _ _ _ = _ from ho] at this; cases this
    · rw [h]
    · exfalso
      have h0 := occ_get hoi 0 (by decide)
      rw [Nat.add_zero, show startx[0]? = some 115 from rfl, List.getElem?_append_right (by omega)] at h0
      obtain ⟨k, hk⟩ : ∃ k, i - pre.length = k + 1 := ⟨i - pre.length - 1, by omega⟩
      rw [hk, show startx ++ T = 115 :: ([116, 97, 114, 116, 120, 114, 101, 102] ++ T) from rfl, List.getElem?_cons_succ] at h0
      have := List.mem_of_getElem? h0
      rcases List.mem_append.1 this with h | h
      · revert h; decide
      · exact hT h
theorem stops10 (r : List UInt8) : stops (10 :: r) := by
  intro c t h
  injection h with h _
  subst h; decide
theorem start_back {n : Int} (h0 : 0 ≤ n) (h1 : n ≤ 2147483647) (pre : List UInt8) : start (pre ++ tail n) = if ((pre ++ tail n).length : Int) ≤ n then (0, 18) else (n, 0) := by
  have hT : tail n = startx ++ (10 :: (Lib.itoa n ++ 10 :: (eof ++ [10]))) := by
    rw [tail, if_neg (by omega)]; simp
  rw [hT]
  have hl := last_back (pre := pre) (T := 10 :: (Lib.itoa n ++ 10 :: (eof ++ [10]))) (by
    simp only [List.mem_cons, List.mem_append, not_or]
    exact ⟨by decide, itoa_no115 n, by decide, by decide, by decide, by simp⟩)
  have hx := itoa_next (n := n) (by omega) h1
  have hs : Single (Lib.itoa n) ⟨1, 0, (Lib.itoa n).length, n, []⟩ := ⟨hx, by simp, rfl, rfl⟩
  obtain ⟨c, t, he, h37, hw, _⟩ := single_head hs
  have hte := token_ext (pre ++ startx ++ [10]) (10 :: (eof ++ [10])) hs (fun _ => stops10 _)
  have hS : pre ++ (startx ++ (10 :: (Lib.itoa n ++ 10 :: (eof ++ [10])))) = pre ++ startx ++ [10] ++ (Lib.itoa n ++ 10 :: (eof ++ [10])) := by simp
  have hlen9 : (pre ++ startx).length = pre.length + 9 := by rw [List.length_append]; rfl
  have hn : next (pre ++ (startx ++ (10 :: (Lib.itoa n ++ 10 :: (eof ++ [10]))))) ((pre.length : Int) + 9) = ({ (⟨1, 0, (Lib.itoa n).length, n, []⟩ : Tok) with a := ((pre ++ startx ++ [10]).length : Nat), t := ((pre ++ startx ++ [10]).length : Nat) + ((Lib.itoa n).length : Nat) }, 0) := by
    have hsk : skip (pre ++ (startx ++ (10 :: (Lib.itoa n ++ 10 :: (eof ++ [10]))))) (pre.length + 9) = (pre ++ startx ++ [10]).length := by
      unfold skip
      have hd : (pre ++ (startx ++ (10 :: (Lib.itoa n ++ 10 :: (eof ++ [10]))))).drop (pre.length + 9) = 10 :: (Lib.itoa n ++ 10 :: (eof ++ [10])) := by
        rw [← List.append_assoc, ← hlen9, List.drop_left]
      rw [hd, he, List.cons_append, skipF, if_neg (by decide), if_pos (by decide), skipF, if_neg h37, if_neg (by rw [hw]; decide), List.length_append, hlen9]; rfl
    unfold next
    rw [if_neg (by simp only [List.length_append]; rw [show startx.length = 9 from rfl]; omega), show ((pre.length : Int) + 9).toNat = pre.length + 9 by omega, hsk, hS, hte]
  unfold start
  rw [hl, if_neg (by omega), hn]
  simp only
  by_cases hb : ((pre ++ (startx ++ (10 :: (Lib.itoa n ++ 10 :: (eof ++ [10]))))).length : Int) ≤ n
  · rw [if_pos (.inr (.inr (.inr hb))), if_pos hb]
  · rw [if_neg (by rintro (h | h | h | h) <;> first | exact h rfl | exact hb h | omega), if_neg hb]
theorem ends_back (q : List UInt8) : ends (q ++ (10 :: (eof ++ [10]))) = endsTo (q ++ (10 :: (eof ++ [10]))) (q.length + 1) ++ [(q ++ (10 :: (eof ++ [10]))).length] := by
  have hS : q ++ (10 :: (eof ++ [10])) = (q ++ [10]) ++ (eof ++ [10]) := by simp
  have hl1 : (q ++ [10]).length = q.length + 1 := by simp
  have hlen : (q ++ (10 :: (eof ++ [10]))).length = q.length + 7 := by simp [eof]
  have ho : endAt (q ++ (10 :: (eof ++ [10]))) (q.length + 1) = true := by
    unfold endAt
    rw [Bool.and_eq_true]
    refine ⟨?_, ?_⟩
    · rw [hS, ← hl1]; exact occ_mid _ _ _
    · have : (q ++ (10 :: (eof ++ [10]))).getD (q.length + 1 - 1) 0 = 10 := by
        rw [List.getD_eq_getElem?_getD, Nat.add_sub_cancel, List.getElem?_append_right (Nat.le_refl _), Nat.sub_self]; rfl
      rw [this]; simp [eol]
  have hline : line (q ++ (10 :: (eof ++ [10]))) (q.length + 1 + 5) = (q ++ (10 :: (eof ++ [10]))).length := by
    unfold line
    have hd : (q ++ (10 :: (eof ++ [10]))).drop (q.length + 1 + 5) = [10] := by
      rw [hS, ← hl1, ← List.drop_drop, List.drop_left]; rfl
    rw [hd, hlen]; rfl
  have hz : ∀ j, q.length + 2 ≤ j → j < (q ++ (10 :: (eof ++ [10]))).length → endAt (q ++ (10 :: (eof ++ [10]))) j = false := by
    intro j h1 h2
    unfold endAt
    rw [Bool.and_eq_false_iff]
    left
    rcases Nat.lt_or_ge (q.length + 2) j with h3 | h3
    · exact occ_past (by decide) (by rw [hlen]; show _ < j + 5; omega)
    · have hj : j = (q ++ [10]).length + 1 := by omega
      rw [hS, hj, occ_right]; decide
  unfold ends
  rw [endsTo_skip _ _ (q.length + 2) (by omega) hz, show q.length + 2 = (q.length + 1) + 1 by omega, endsTo_succ, ho, if_pos rfl, hline]
/- CONCATENATIONS -/
theorem lineF_app : ∀ (l t : List UInt8), l.getLast? = some 10 → lineF (l ++ t) = lineF l
  | [], t, h => by cases h
  | [c], t, h => by simp at h; subst h; simp [lineF]
  | c :: d :: l, t, h => by
    have ih := lineF_app (d :: l) t (by simpa using h)
    rw [List.cons_append, lineF, lineF]
    by_cases h1 : c = 10
    · rw [if_pos h1, if_pos h1]
    · rw [if_neg h1, if_neg h1, ih]; rfl
theorem line_app {s t : List UInt8} {k : Nat} (hk : k < s.length) (h : s.getLast? = some 10) : line (s ++ t) k = line s k := by
  unfold line
  rw [List.drop_append_of_le_length (by omega), lineF_app]
  rw [List.getLast?_drop, if_neg (by omega)]; exact h
theorem line_right (s t : List UInt8) (k : Nat) : line (s ++ t) (s.length + k) = s.length + line t k := by
  unfold line
  rw [← List.drop_drop, List.drop_left]; omega
theorem last_get {s : List UInt8} (h : s.getLast? = some 10) : 0 < s.length ∧ s[s.length - 1]? = some 10 := by
  rw [List.getLast?_eq_getElem?] at h
  exact ⟨by cases s with | nil => simp at h | cons => simp, h⟩
theorem endAt_left {s t : List UInt8} (h : s.getLast? = some 10) {i : Nat} (hi : i < s.length) : endAt (s ++ t) i = endAt s i ∧ (endAt s i = true → i + 5 < s.length) := by
  obtain ⟨hl, hg⟩ := last_get h
  have no : ∀ r : List UInt8, (∀ j, j < s.length → r[j]? = s[j]?) → occ r eof i = true → s.length ≤ i + 5 → False := by
    intro r hr ho h5
    have h1 := occ_get ho (s.length - 1 - i) (by show _ < 5; omega)
    rw [show i + (s.length - 1 - i) = s.length - 1 by omega, hr _ (by omega), hg] at h1
    have := List.mem_of_getElem? h1.symm
    revert this; decide
  have hgd : (s ++ t).getD (i - 1) 0 = s.getD (i - 1) 0 := by
    rw [List.getD_eq_getElem?_getD, List.getD_eq_getElem?_getD, List.getElem?_append_left (by omega)]
  have hocc : occ (s ++ t) eof i = occ s eof i := by
    rcases Nat.lt_or_ge (i + 5) s.length with h5 | h5
    · exact occ_app (by show i + 5 ≤ _; omega)
    · have e1 : occ s eof i = false := by
        cases hb : occ s eof i with
        | false => rfl
        | true => exact (no s (fun _ _ => rfl) hb h5).elim
      have e2 : occ (s ++ t) eof i = false := by
        cases hb : occ (s ++ t) eof i with
        | false => rfl
        | true => exact (no (s ++ t) (fun j hj => List.getElem?_append_left hj) hb h5).elim
      rw [e1, e2]
  refine ⟨by unfold endAt; rw [hocc, hgd], fun he => ?_⟩
  unfold endAt at he
  rw [Bool.and_eq_true] at he
  rcases Nat.lt_or_ge (i + 5) s.length with h5 | h5
  · exact h5
  · exact (no s (fun _ _ => rfl) he.1 h5).elim
theorem endAt_right {s t : List UInt8} (h : s.getLast? = some 10) (k : Nat) : endAt (s ++ t) (s.length + k) = endAt t k := by
  obtain ⟨hl, hg⟩ := last_get h
  unfold endAt
  rw [occ_right]
  congr 1
  have e0 : decide (s.length + k = 0) = false := decide_eq_false (by omega)
  rw [e0, Bool.false_or]
  cases k with
  | zero =>
    have : (s ++ t).getD (s.length + 0 - 1) 0 = 10 := by
      rw [List.getD_eq_getElem?_getD, Nat.add_zero, List.getElem?_append_left (by omega), hg]; rfl
    rw [this]; simp [eol]
  | succ k =>
    have : (s ++ t).getD (s.length + (k + 1) - 1) 0 = t.getD (k + 1 - 1) 0 := by
      rw [List.getD_eq_getElem?_getD, List.getD_eq_getElem?_getD, List.getElem?_append_right (by omega)]
      rw [show s.length + (k + 1) - 1 - s.length = k + 1 - 1 by omega]
    rw [this]; simp
theorem endsTo_left {s t : List UInt8} (h : s.getLast? = some 10) : ∀ k, k ≤ s.length → endsTo (s ++ t) k = endsTo s k
  | 0, _ => by simp [endsTo]
  | k + 1, hk => by
    obtain ⟨h1, h2⟩ := endAt_left (t := t) h (i := k) (by omega)
    rw [endsTo_succ, endsTo_succ, endsTo_left h k (by omega), h1]
    by_cases he : endAt s k = true
    · rw [if_pos he, if_pos he, line_app (h2 he) h]
    · rw [if_neg he, if_neg he]
theorem endsTo_right {s t : List UInt8} (h : s.getLast? = some 10) : ∀ k, endsTo (s ++ t) (s.length + k) = endsTo s s.length ++ (endsTo t k).map (s.length + ·)
  | 0 => by rw [Nat.add_zero, endsTo_left h s.length (Nat.le_refl _)]; simp [endsTo]
  | k + 1 => by
    rw [show s.length + (k + 1) = (s.length + k) + 1 by omega, endsTo_succ, endsTo_right h k, endsTo_succ, endAt_right h]
    by_cases he : endAt t k = true
    · rw [if_pos he, if_pos he, show s.length + k + 5 = s.length + (k + 5) by omega, line_right]; simp
    · rw [if_neg he, if_neg he]; simp
theorem ends_app {s t : List UInt8} (h : s.getLast? = some 10) : ends (s ++ t) = ends s ++ (ends t).map (s.length + ·) := by
  unfold ends
  rw [List.length_append, endsTo_right h]
/- THEY RISE -/
theorem lineF_eol : ∀ (l : List UInt8) (m : Nat) (c : UInt8), l[m]? = some c → eol c = true → l[m + 1]? ≠ some 10 → lineF l ≤ m + 1
  | [], m, c, h, _, _ => by simp at h
  | d :: l, 0, c, h, he, hn => by
    simp at h; subst h
    rw [lineF]
    split
    · omega
    · split
      · rw [if_neg]
        · omega
        · intro e
          apply hn
          cases l with
          | nil => cases e
          | cons => simpa using e
      · rename_i h1 h2
        simp [eol, h1, h2] at he
  | d :: l, m + 1, c, h, he, hn => by
    have ih := lineF_eol l m c (by simpa using h) he (by simpa using hn)
    rw [lineF]
    split
    · omega
    · split
      · split <;> omega
      · omega
theorem endAt_apart {s : List UInt8} {j i : Nat} (hj : endAt s j = true) (hi : endAt s i = true) (h : j < i) : line s (j + 5) ≤ i := by
  unfold endAt at hj hi
  rw [Bool.and_eq_true] at hj hi
  have gj := fun k hk => occ_get hj.1 k hk
  have gi := fun k hk => occ_get hi.1 k hk
  have i0 := gi 0 (by decide)
  have i1 := gi 1 (by decide)
  have j2 := gj 2 (by decide)
  have j3 := gj 3 (by decide)
  have j4 := gj 4 (by decide)
  rw [Nat.add_zero, show eof[0]? = some 37 from rfl] at i0
  rw [show eof[1]? = some 37 from rfl] at i1
  rw [show eof[2]? = some 69 from rfl] at j2
  rw [show eof[3]? = some 79 from rfl] at j3
  rw [show eof[4]? = some 70 from rfl] at j4
  have h5 : j + 5 ≤ i := by
    rcases Nat.lt_or_ge i (j + 5) with h5 | h5
    · exfalso
      have : i = j + 1 ∨ i = j + 2 ∨ i = j + 3 ∨ i = j + 4 := by omega
      rcases this with rfl | rfl | rfl | rfl
      · rw [show j + 1 + 1 = j + 2 by omega, j2] at i1; cases i1
      · rw [j2] at i0; cases i0
      · rw [j3] at i0; cases i0
      · rw [j4] at i0; cases i0
    · exact h5
  have hlt : i < s.length := (List.getElem?_eq_some_iff.1 i0).1
  have he : eol (s.getD (i - 1) 0) = true := by
    have := hi.2
    rw [show decide (i = 0) = false from decide_eq_false (by omega), Bool.false_or] at this
    exact this
  have hg : s[i - 1]? = some (s.getD (i - 1) 0) := by
    rw [List.getD_eq_getElem?_getD, List.getElem?_eq_getElem (by omega)]; rfl
  have h6 : j + 6 ≤ i := by
    rcases Nat.lt_or_ge i (j + 6) with h6 | h6
    · exfalso
      have : i - 1 = j + 4 := by omega
      rw [this] at hg he
      rw [j4] at hg
      have := Option.some.inj hg
      rw [← this] at he
      revert he; decide
    · exact h6
  unfold line
  have := lineF_eol (s.drop (j + 5)) (i - 1 - (j + 5)) (s.getD (i - 1) 0) (by rw [List.getElem?_drop, show j + 5 + (i - 1 - (j + 5)) = i - 1 by omega]; exact hg) he (by
    rw [List.getElem?_drop, show j + 5 + (i - 1 - (j + 5) + 1) = i by omega, i0]; simp)
  omega
theorem endsTo_mem {s : List UInt8} {k e : Nat} (h : e ∈ endsTo s k) : ∃ j, j < k ∧ endAt s j = true ∧ e = line s (j + 5) := by
  unfold endsTo at h
  obtain ⟨j, hj, rfl⟩ := List.mem_map.1 h
  rw [List.mem_filter, List.mem_range] at hj
  exact ⟨j, hj.1, hj.2, rfl⟩
theorem endsTo_rise (s : List UInt8) : ∀ k, (endsTo s k).Pairwise (· < ·)
  | 0 => by simp [endsTo]
  | k + 1 => by
    rw [endsTo_succ]
    refine List.pairwise_append.2 ⟨endsTo_rise s k, by split <;> simp, fun a ha b hb => ?_⟩
    split at hb
    · rename_i he
      rw [List.mem_singleton] at hb
      subst hb
      obtain ⟨j, hj, hje, rfl⟩ := endsTo_mem ha
      have := endAt_apart hje he hj
      have h2 : k + 5 ≤ line s (k + 5) := by unfold line; omega
      omega
    · cases hb
end Hd
end Go.Proofs.YtgffladaenimmaaGreatDoor
/- Code in continuation form, by program (gen.py): 4 functions. -/
namespace Go.Proofs.YtgffladaenimmaaGreatDoor
set_option linter.unusedVariables false
set_option linter.unusedSimpArgs false
set_option linter.defProp false
set_option linter.unusedVariables false
set_option maxRecDepth 20000
open Eng

/- foliantlaw17.lives -/
def S_foliantlaw17_lives (w : World) (K : Ending → World → Prop) : Prop :=
 CallX Tryz.prog 12 #[(.int .i64 7)] w (pk K) fun t24 w =>
 DoX Tryz.prog (mExt t24 0) w (pk K) fun t25 w =>
 DoX Tryz.prog (mExt t24 1) w (pk K) fun t26 w =>
 CallX Tryz.prog 12 #[(.int .i64 10)] w (pk K) fun t28 w =>
 DoX Tryz.prog (mExt t28 0) w (pk K) fun t29 w =>
 DoX Tryz.prog (mExt t28 1) w (pk K) fun t30 w =>
 DoX Tryz.prog (mBin .add 9 (.string ⟨#[120]⟩) t25) w (pk K) fun t33 w =>
 CallX Tryz.prog 10 #[t33] w (pk K) fun t34 w =>
 DoX Tryz.prog (mExt t34 0) w (pk K) fun t35 w =>
 DoX Tryz.prog (mExt t34 1) w (pk K) fun t36 w =>
 DoX Tryz.prog (mExt t34 2) w (pk K) fun t37 w =>
 CallX Tryz.prog 10 #[(.string ⟨#[37, 80, 68, 70, 45, 50, 46, 48]⟩)] w (pk K) fun t39 w =>
 DoX Tryz.prog (mExt t39 0) w (pk K) fun t40 w =>
 DoX Tryz.prog (mExt t39 1) w (pk K) fun t41 w =>
 DoX Tryz.prog (mExt t39 2) w (pk K) fun t42 w =>
 CallX Tryz.prog 10 #[(.string ⟨#[37, 80, 68, 70, 45, 49, 46]⟩)] w (pk K) fun t44 w =>
 DoX Tryz.prog (mExt t44 0) w (pk K) fun t45 w =>
 DoX Tryz.prog (mExt t44 1) w (pk K) fun t46 w =>
 DoX Tryz.prog (mExt t44 2) w (pk K) fun t47 w =>
 CallX Tryz.prog 16 #[(.int .i64 5)] w (pk K) fun t49 w =>
 DoX Tryz.prog (mBin .add 9 (.string ⟨#[97, 98, 99, 100, 101, 102, 103, 104, 105, 106]⟩) t49) w (pk K) fun t50 w =>
 CallX Tryz.prog 14 #[t50] w (pk K) fun t51 w =>
 DoX Tryz.prog (mExt t51 0) w (pk K) fun t52 w =>
 DoX Tryz.prog (mExt t51 1) w (pk K) fun t53 w =>
 CallX Tryz.prog 14 #[(.string ⟨#[115, 116, 97, 114, 116, 120, 114, 101, 102, 32, 57, 57, 32, 120]⟩)] w (pk K) fun t55 w =>
 DoX Tryz.prog (mExt t55 0) w (pk K) fun t56 w =>
 DoX Tryz.prog (mExt t55 1) w (pk K) fun t57 w =>
 CallX Tryz.prog 14 #[(.string ⟨#[115, 116, 97, 114, 116, 120, 114, 101, 102, 32, 45, 49, 32, 120]⟩)] w (pk K) fun t59 w =>
 DoX Tryz.prog (mExt t59 0) w (pk K) fun t60 w =>
 DoX Tryz.prog (mExt t59 1) w (pk K) fun t61 w =>
 CallX Tryz.prog 14 #[(.string ⟨#[]⟩)] w (pk K) fun t63 w =>
 DoX Tryz.prog (mExt t63 0) w (pk K) fun t64 w =>
 DoX Tryz.prog (mExt t63 1) w (pk K) fun t65 w =>
 CallX Tryz.prog 19 #[(.string ⟨#[37, 37, 69, 79, 70, 10, 120, 13, 37, 37, 69, 79, 70]⟩)] w (pk K) fun t66 w =>
 DoX Tryz.prog (mEq .eql 9 (.tmp 67) (.const (.string ⟨#[37, 80, 68, 70, 45, 49, 46, 55, 10, 37, 226, 227, 207, 211, 10]⟩)) t25 (.string ⟨#[37, 80, 68, 70, 45, 49, 46, 55, 10, 37, 226, 227, 207, 211, 10]⟩)) w (pk K) fun t68 w =>
 GDo t68 true (fun E => E t26 w) w fun t70 w =>
 GDo t68 true (fun E => DoX Tryz.prog (mEq .eql 23 (.tmp 70) (.const (.int .i64 0)) t70 (.int .i64 0)) w (pk K) E) w fun t71 w =>
 DoX Tryz.prog (mPick t68 t71 (.bool false)) w (pk K) fun t72 w =>
 GDo t72 true (fun E => E t30 w) w fun t74 w =>
 GDo t72 true (fun E => DoX Tryz.prog (mEq .eql 23 (.tmp 74) (.const (.int .i64 2)) t74 (.int .i64 2)) w (pk K) E) w fun t75 w =>
 DoX Tryz.prog (mPick t72 t75 (.bool false)) w (pk K) fun t76 w =>
 GDo t76 true (fun E => E t35 w) w fun t78 w =>
 GDo t76 true (fun E => DoX Tryz.prog (mEq .eql 3 (.tmp 78) (.const (.int .i64 1)) t78 (.int .i64 1)) w (pk K) E) w fun t79 w =>
 DoX Tryz.prog (mPick t76 t79 (.bool false)) w (pk K) fun t80 w =>
 GDo t80 true (fun E => E t36 w) w fun t82 w =>
 GDo t80 true (fun E => DoX Tryz.prog (mEq .eql 3 (.tmp 82) (.const (.int .i64 7)) t82 (.int .i64 7)) w (pk K) E) w fun t83 w =>
 DoX Tryz.prog (mPick t80 t83 (.bool false)) w (pk K) fun t84 w =>
 GDo t84 true (fun E => E t37 w) w fun t86 w =>
 GDo t84 true (fun E => DoX Tryz.prog (mEq .eql 23 (.tmp 86) (.const (.int .i64 0)) t86 (.int .i64 0)) w (pk K) E) w fun t87 w =>
 DoX Tryz.prog (mPick t84 t87 (.bool false)) w (pk K) fun t88 w =>
 GDo t88 true (fun E => E t42 w) w fun t90 w =>
 GDo t88 true (fun E => DoX Tryz.prog (mEq .eql 23 (.tmp 90) (.const (.int .i64 17)) t90 (.int .i64 17)) w (pk K) E) w fun t91 w =>
 DoX Tryz.prog (mPick t88 t91 (.bool false)) w (pk K) fun t92 w =>
 GDo t92 true (fun E => E t47 w) w fun t94 w =>
 GDo t92 true (fun E => DoX Tryz.prog (mEq .eql 23 (.tmp 94) (.const (.int .i64 17)) t94 (.int .i64 17)) w (pk K) E) w fun t95 w =>
 DoX Tryz.prog (mPick t92 t95 (.bool false)) w (pk K) fun t96 w =>
 GDo t96 true (fun E => CallX Tryz.prog 16 #[(.int .i64 5)] w (pk K) E) w fun t98 w =>
 GDo t96 true (fun E => DoX Tryz.prog (mEq .eql 9 (.tmp 98) (.const (.string ⟨#[115, 116, 97, 114, 116, 120, 114, 101, 102, 10, 53, 10, 37, 37, 69, 79, 70, 10]⟩)) t98 (.string ⟨#[115, 116, 97, 114, 116, 120, 114, 101, 102, 10, 53, 10, 37, 37, 69, 79, 70, 10]⟩)) w (pk K) E) w fun t99 w =>
 DoX Tryz.prog (mPick t96 t99 (.bool false)) w (pk K) fun t100 w =>
 GDo t100 true (fun E => CallX Tryz.prog 16 #[(.int .i64 (-1))] w (pk K) E) w fun t102 w =>
 GDo t100 true (fun E => DoX Tryz.prog (mEq .eql 9 (.tmp 102) (.const (.string ⟨#[]⟩)) t102 (.string ⟨#[]⟩)) w (pk K) E) w fun t103 w =>
 DoX Tryz.prog (mPick t100 t103 (.bool false)) w (pk K) fun t104 w =>
 GDo t104 true (fun E => E t52 w) w fun t106 w =>
 GDo t104 true (fun E => DoX Tryz.prog (mEq .eql 3 (.tmp 106) (.const (.int .i64 5)) t106 (.int .i64 5)) w (pk K) E) w fun t107 w =>
 DoX Tryz.prog (mPick t104 t107 (.bool false)) w (pk K) fun t108 w =>
 GDo t108 true (fun E => E t53 w) w fun t110 w =>
 GDo t108 true (fun E => DoX Tryz.prog (mEq .eql 23 (.tmp 110) (.const (.int .i64 0)) t110 (.int .i64 0)) w (pk K) E) w fun t111 w =>
 DoX Tryz.prog (mPick t108 t111 (.bool false)) w (pk K) fun t112 w =>
 GDo t112 true (fun E => E t57 w) w fun t114 w =>
 GDo t112 true (fun E => DoX Tryz.prog (mEq .eql 23 (.tmp 114) (.const (.int .i64 18)) t114 (.int .i64 18)) w (pk K) E) w fun t115 w =>
 DoX Tryz.prog (mPick t112 t115 (.bool false)) w (pk K) fun t116 w =>
 GDo t116 true (fun E => E t61 w) w fun t118 w =>
 GDo t116 true (fun E => DoX Tryz.prog (mEq .eql 23 (.tmp 118) (.const (.int .i64 18)) t118 (.int .i64 18)) w (pk K) E) w fun t119 w =>
 DoX Tryz.prog (mPick t116 t119 (.bool false)) w (pk K) fun t120 w =>
 GDo t120 true (fun E => E t65 w) w fun t122 w =>
 GDo t120 true (fun E => DoX Tryz.prog (mEq .eql 23 (.tmp 122) (.const (.int .i64 18)) t122 (.int .i64 18)) w (pk K) E) w fun t123 w =>
 DoX Tryz.prog (mPick t120 t123 (.bool false)) w (pk K) fun t124 w =>
 GDo t124 true (fun E => E t66 w) w fun t126 w =>
 GDo t124 true (fun E => DoX Tryz.prog (mB .len #[32] 3 #[false] #[t126]) w (pk K) E) w fun t127 w =>
 GDo t124 true (fun E => DoX Tryz.prog (mEq .eql 3 (.tmp 127) (.const (.int .i64 2)) t127 (.int .i64 2)) w (pk K) E) w fun t128 w =>
 DoX Tryz.prog (mPick t124 t128 (.bool false)) w (pk K) fun t129 w =>
 GDo t129 true (fun E => E t66 w) w fun t131 w =>
 GDo t129 true (fun E => DoX Tryz.prog (mIA 32 t131 (.int .i64 0)) w (pk K) E) w fun t132 w =>
 GDo t129 true (fun E => DoX Tryz.prog (mLoad 3 t132) w (pk K) E) w fun t133 w =>
 GDo t129 true (fun E => DoX Tryz.prog (mEq .eql 3 (.tmp 133) (.const (.int .i64 6)) t133 (.int .i64 6)) w (pk K) E) w fun t134 w =>
 DoX Tryz.prog (mPick t129 t134 (.bool false)) w (pk K) fun t135 w =>
 GDo t135 true (fun E => E t66 w) w fun t137 w =>
 GDo t135 true (fun E => DoX Tryz.prog (mIA 32 t137 (.int .i64 1)) w (pk K) E) w fun t138 w =>
 GDo t135 true (fun E => DoX Tryz.prog (mLoad 3 t138) w (pk K) E) w fun t139 w =>
 GDo t135 true (fun E => DoX Tryz.prog (mEq .eql 3 (.tmp 139) (.const (.int .i64 13)) t139 (.int .i64 13)) w (pk K) E) w fun t140 w =>
 DoX Tryz.prog (mPick t135 t140 (.bool false)) w (pk K) fun t141 w =>
 K (.returned t141) w
theorem S_foliantlaw17_lives_eq (w : World) (K : Ending → World → Prop) : wpX Tryz.prog 142 [] [] none (bodyOf Tryz.f9) (topQ Tryz.prog [.tmp 0] K) (startX []) [] w = S_foliantlaw17_lives w K := by kernel_rfl
theorem S_foliantlaw17_lives_ok {w : World} {K : Ending → World → Prop} (h : S_foliantlaw17_lives w K) : Calls Tryz.prog 9 #[] w K :=
  calls_of_wpX Tryz.func9 rfl rfl rfl rfl (Eq.mpr (S_foliantlaw17_lives_eq w K) h)

/- foliantlaw17.HeadTells -/
def S_foliantlaw17_HeadTells (t0 t1 t2 : Value) (w : World) (K : Ending → World → Prop) : Prop :=
 DoX Tryz.prog (mB .len #[9] 3 #[false] #[t0]) w (pk K) fun t22 w =>
 DoX Tryz.prog (mBin .gtr 3 t22 (.int .i64 3000)) w (pk K) fun t23 w =>
 IfX t23 (CallX Tryz.prog 9 #[] w (pk K) fun t24 w =>
 K (.returned t24) w) (CallX Tryz.prog 10 #[t0] w (pk K) fun t27 w =>
 DoX Tryz.prog (mExt t27 0) w (pk K) fun t28 w =>
 DoX Tryz.prog (mExt t27 1) w (pk K) fun t29 w =>
 DoX Tryz.prog (mExt t27 2) w (pk K) fun t30 w =>
 CallX Tryz.prog 11 #[t0] w (pk K) fun t33 w =>
 DoX Tryz.prog (mExt t33 0) w (pk K) fun t34 w =>
 DoX Tryz.prog (mExt t33 1) w (pk K) fun t35 w =>
 DoX Tryz.prog (mExt t33 2) w (pk K) fun t36 w =>
 CallX Tryz.prog 12 #[t1] w (pk K) fun t39 w =>
 DoX Tryz.prog (mExt t39 0) w (pk K) fun t40 w =>
 DoX Tryz.prog (mExt t39 1) w (pk K) fun t41 w =>
 CallX Tryz.prog 13 #[t1] w (pk K) fun t44 w =>
 DoX Tryz.prog (mExt t44 0) w (pk K) fun t45 w =>
 DoX Tryz.prog (mExt t44 1) w (pk K) fun t46 w =>
 CallX Tryz.prog 14 #[t0] w (pk K) fun t49 w =>
 DoX Tryz.prog (mExt t49 0) w (pk K) fun t50 w =>
 DoX Tryz.prog (mExt t49 1) w (pk K) fun t51 w =>
 CallX Tryz.prog 15 #[t0] w (pk K) fun t54 w =>
 DoX Tryz.prog (mExt t54 0) w (pk K) fun t55 w =>
 DoX Tryz.prog (mExt t54 1) w (pk K) fun t56 w =>
 DoX Tryz.prog (mEq .eql 3 (.tmp 57) (.tmp 58) t28 t34) w (pk K) fun t59 w =>
 GDo t59 true (fun E => E t29 w) w fun t61 w =>
 GDo t59 true (fun E => E t35 w) w fun t62 w =>
 GDo t59 true (fun E => DoX Tryz.prog (mEq .eql 3 (.tmp 61) (.tmp 62) t61 t62) w (pk K) E) w fun t63 w =>
 DoX Tryz.prog (mPick t59 t63 (.bool false)) w (pk K) fun t64 w =>
 GDo t64 true (fun E => E t30 w) w fun t66 w =>
 GDo t64 true (fun E => E t36 w) w fun t67 w =>
 GDo t64 true (fun E => DoX Tryz.prog (mEq .eql 23 (.tmp 66) (.tmp 67) t66 t67) w (pk K) E) w fun t68 w =>
 DoX Tryz.prog (mPick t64 t68 (.bool false)) w (pk K) fun t69 w =>
 GDo t69 true (fun E => E t40 w) w fun t71 w =>
 GDo t69 true (fun E => E t45 w) w fun t72 w =>
 GDo t69 true (fun E => DoX Tryz.prog (mEq .eql 9 (.tmp 71) (.tmp 72) t71 t72) w (pk K) E) w fun t73 w =>
 DoX Tryz.prog (mPick t69 t73 (.bool false)) w (pk K) fun t74 w =>
 GDo t74 true (fun E => E t41 w) w fun t76 w =>
 GDo t74 true (fun E => E t46 w) w fun t77 w =>
 GDo t74 true (fun E => DoX Tryz.prog (mEq .eql 23 (.tmp 76) (.tmp 77) t76 t77) w (pk K) E) w fun t78 w =>
 DoX Tryz.prog (mPick t74 t78 (.bool false)) w (pk K) fun t79 w =>
 GDo t79 true (fun E => E t50 w) w fun t81 w =>
 GDo t79 true (fun E => E t55 w) w fun t82 w =>
 GDo t79 true (fun E => DoX Tryz.prog (mEq .eql 3 (.tmp 81) (.tmp 82) t81 t82) w (pk K) E) w fun t83 w =>
 DoX Tryz.prog (mPick t79 t83 (.bool false)) w (pk K) fun t84 w =>
 GDo t84 true (fun E => E t51 w) w fun t86 w =>
 GDo t84 true (fun E => E t56 w) w fun t87 w =>
 GDo t84 true (fun E => DoX Tryz.prog (mEq .eql 23 (.tmp 86) (.tmp 87) t86 t87) w (pk K) E) w fun t88 w =>
 DoX Tryz.prog (mPick t84 t88 (.bool false)) w (pk K) fun t89 w =>
 GDo t89 true (fun E => E t2 w) w fun t91 w =>
 GDo t89 true (fun E => CallX Tryz.prog 16 #[t91] w (pk K) E) w fun t92 w =>
 GDo t89 true (fun E => E t2 w) w fun t93 w =>
 GDo t89 true (fun E => CallX Tryz.prog 17 #[t93] w (pk K) E) w fun t94 w =>
 GDo t89 true (fun E => DoX Tryz.prog (mEq .eql 9 (.tmp 92) (.tmp 94) t92 t94) w (pk K) E) w fun t95 w =>
 DoX Tryz.prog (mPick t89 t95 (.bool false)) w (pk K) fun t96 w =>
 GDo t96 true (fun E => E t0 w) w fun t98 w =>
 GDo t96 true (fun E => CallX Tryz.prog 19 #[t98] w (pk K) E) w fun t99 w =>
 GDo t96 true (fun E => E t0 w) w fun t100 w =>
 GDo t96 true (fun E => CallX Tryz.prog 20 #[t100] w (pk K) E) w fun t101 w =>
 GDo t96 true (fun E => CallX Tryz.prog 18 #[t99, t101] w (pk K) E) w fun t102 w =>
 DoX Tryz.prog (mPick t96 t102 (.bool false)) w (pk K) fun t103 w =>
 GDo t103 true (fun E => CallX Tryz.prog 9 #[] w (pk K) E) w fun t105 w =>
 DoX Tryz.prog (mPick t103 t105 (.bool false)) w (pk K) fun t106 w =>
 K (.returned t106) w)
theorem S_foliantlaw17_HeadTells_eq (t0 t1 t2 : Value) (w : World) (K : Ending → World → Prop) : wpX Tryz.prog 107 [] [] none (bodyOf Tryz.f3) (topQ Tryz.prog [.tmp 6] K) (startX [t0, t1, t2]) [] w = S_foliantlaw17_HeadTells t0 t1 t2 w K := by kernel_rfl
theorem S_foliantlaw17_HeadTells_ok {t0 t1 t2 : Value} {w : World} {K : Ending → World → Prop} (h : S_foliantlaw17_HeadTells t0 t1 t2 w K) : Calls Tryz.prog 3 #[t0, t1, t2] w K :=
  calls_of_wpX Tryz.func3 rfl rfl rfl rfl (Eq.mpr (S_foliantlaw17_HeadTells_eq t0 t1 t2 w K) h)

/- foliantlaw17.HeadBack -/
def S_foliantlaw17_HeadBack (t0 t1 t2 : Value) (w : World) (K : Ending → World → Prop) : Prop :=
 CallX Tryz.prog 9 #[] w (pk K) fun t16 w =>
 DoX Tryz.prog (mUn .not t16) w (pk K) fun t17 w =>
 IfX t17 (K (.returned (.bool false)) w) (DoX Tryz.prog (mB .len #[9] 3 #[false] #[t0]) w (pk K) fun t19 w =>
 DoX Tryz.prog (mBin .gtr 3 t19 (.int .i64 3000)) w (pk K) fun t20 w =>
 GDo t20 false (fun E => E t2 w) w fun t22 w =>
 GDo t20 false (fun E => DoX Tryz.prog (mBin .lss 3 t22 (.int .i64 0)) w (pk K) E) w fun t23 w =>
 DoX Tryz.prog (mPick t20 (.bool true) t23) w (pk K) fun t24 w =>
 GDo t24 false (fun E => E t2 w) w fun t26 w =>
 GDo t24 false (fun E => DoX Tryz.prog (mBin .gtr 3 t26 (.int .i64 10000)) w (pk K) E) w fun t27 w =>
 DoX Tryz.prog (mPick t24 (.bool true) t27) w (pk K) fun t28 w =>
 GDo t28 false (fun E => E t1 w) w fun t30 w =>
 GDo t28 false (fun E => DoX Tryz.prog (mBin .lss 3 t30 (.int .i64 0)) w (pk K) E) w fun t31 w =>
 DoX Tryz.prog (mPick t28 (.bool true) t31) w (pk K) fun t32 w =>
 GDo t32 false (fun E => E t1 w) w fun t34 w =>
 GDo t32 false (fun E => DoX Tryz.prog (mBin .gtr 3 t34 (.int .i64 9)) w (pk K) E) w fun t35 w =>
 DoX Tryz.prog (mPick t32 (.bool true) t35) w (pk K) fun t36 w =>
 IfX t36 (K (.returned (.bool true)) w) (CallX Tryz.prog 12 #[t1] w (pk K) fun t39 w =>
 DoX Tryz.prog (mExt t39 0) w (pk K) fun t40 w =>
 DoX Tryz.prog (mExt t39 1) w (pk K) fun t41 w =>
 DoX Tryz.prog (mBin .add 9 t40 t0) w (pk K) fun t44 w =>
 DoX Tryz.prog (mBin .add 9 t44 (.string ⟨#[10]⟩)) w (pk K) fun t45 w =>
 CallX Tryz.prog 16 #[t2] w (pk K) fun t47 w =>
 DoX Tryz.prog (mBin .add 9 t45 t47) w (pk K) fun t48 w =>
 CallX Tryz.prog 10 #[t48] w (pk K) fun t51 w =>
 DoX Tryz.prog (mExt t51 0) w (pk K) fun t52 w =>
 DoX Tryz.prog (mExt t51 1) w (pk K) fun t53 w =>
 DoX Tryz.prog (mExt t51 2) w (pk K) fun t54 w =>
 CallX Tryz.prog 14 #[t48] w (pk K) fun t57 w =>
 DoX Tryz.prog (mExt t57 0) w (pk K) fun t58 w =>
 DoX Tryz.prog (mExt t57 1) w (pk K) fun t59 w =>
 CallX Tryz.prog 19 #[t48] w (pk K) fun t61 w =>
 DoX Tryz.prog (mEq .neq 23 (.tmp 62) (.const (.int .i64 0)) t41 (.int .i64 0)) w (pk K) fun t63 w =>
 GDo t63 false (fun E => E t52 w) w fun t65 w =>
 GDo t63 false (fun E => DoX Tryz.prog (mEq .neq 3 (.tmp 65) (.const (.int .i64 1)) t65 (.int .i64 1)) w (pk K) E) w fun t66 w =>
 DoX Tryz.prog (mPick t63 (.bool true) t66) w (pk K) fun t67 w =>
 GDo t67 false (fun E => E t53 w) w fun t69 w =>
 GDo t67 false (fun E => E t1 w) w fun t70 w =>
 GDo t67 false (fun E => DoX Tryz.prog (mEq .neq 3 (.tmp 69) (.tmp 70) t69 t70) w (pk K) E) w fun t71 w =>
 DoX Tryz.prog (mPick t67 (.bool true) t71) w (pk K) fun t72 w =>
 GDo t72 false (fun E => E t54 w) w fun t74 w =>
 GDo t72 false (fun E => DoX Tryz.prog (mEq .neq 23 (.tmp 74) (.const (.int .i64 0)) t74 (.int .i64 0)) w (pk K) E) w fun t75 w =>
 DoX Tryz.prog (mPick t72 (.bool true) t75) w (pk K) fun t76 w =>
 GDo t76 false (fun E => E t61 w) w fun t78 w =>
 GDo t76 false (fun E => DoX Tryz.prog (mB .len #[32] 3 #[false] #[t78]) w (pk K) E) w fun t79 w =>
 GDo t76 false (fun E => DoX Tryz.prog (mEq .eql 3 (.tmp 79) (.const (.int .i64 0)) t79 (.int .i64 0)) w (pk K) E) w fun t80 w =>
 DoX Tryz.prog (mPick t76 (.bool true) t80) w (pk K) fun t81 w =>
 GDo t81 false (fun E => E t61 w) w fun t83 w =>
 GDo t81 false (fun E => E t61 w) w fun t84 w =>
 GDo t81 false (fun E => DoX Tryz.prog (mB .len #[32] 3 #[false] #[t84]) w (pk K) E) w fun t85 w =>
 GDo t81 false (fun E => DoX Tryz.prog (mBin .sub 3 t85 (.int .i64 1)) w (pk K) E) w fun t86 w =>
 GDo t81 false (fun E => DoX Tryz.prog (mIA 32 t83 t86) w (pk K) E) w fun t87 w =>
 GDo t81 false (fun E => DoX Tryz.prog (mLoad 3 t87) w (pk K) E) w fun t88 w =>
 GDo t81 false (fun E => E t48 w) w fun t89 w =>
 GDo t81 false (fun E => DoX Tryz.prog (mB .len #[9] 3 #[false] #[t89]) w (pk K) E) w fun t90 w =>
 GDo t81 false (fun E => DoX Tryz.prog (mEq .neq 3 (.tmp 88) (.tmp 90) t88 t90) w (pk K) E) w fun t91 w =>
 DoX Tryz.prog (mPick t81 (.bool true) t91) w (pk K) fun t92 w =>
 IfX t92 (K (.returned (.bool false)) w) (DoX Tryz.prog (mB .len #[9] 3 #[false] #[t48]) w (pk K) fun t95 w =>
 DoX Tryz.prog (mBin .lss 3 t2 t95) w (pk K) fun t96 w =>
 IfX t96 (DoX Tryz.prog (mEq .eql 3 (.tmp 97) (.tmp 98) t58 t2) w (pk K) fun t99 w =>
 GDo t99 true (fun E => E t59 w) w fun t101 w =>
 GDo t99 true (fun E => DoX Tryz.prog (mEq .eql 23 (.tmp 101) (.const (.int .i64 0)) t101 (.int .i64 0)) w (pk K) E) w fun t102 w =>
 DoX Tryz.prog (mPick t99 t102 (.bool false)) w (pk K) fun t103 w =>
 K (.returned t103) w) (DoX Tryz.prog (mEq .eql 3 (.tmp 104) (.const (.int .i64 0)) t58 (.int .i64 0)) w (pk K) fun t105 w =>
 GDo t105 true (fun E => E t59 w) w fun t107 w =>
 GDo t105 true (fun E => DoX Tryz.prog (mEq .eql 23 (.tmp 107) (.const (.int .i64 18)) t107 (.int .i64 18)) w (pk K) E) w fun t108 w =>
 DoX Tryz.prog (mPick t105 t108 (.bool false)) w (pk K) fun t109 w =>
 K (.returned t109) w))))
theorem S_foliantlaw17_HeadBack_eq (t0 t1 t2 : Value) (w : World) (K : Ending → World → Prop) : wpX Tryz.prog 110 [] [] none (bodyOf Tryz.f4) (topQ Tryz.prog [.tmp 6] K) (startX [t0, t1, t2]) [] w = S_foliantlaw17_HeadBack t0 t1 t2 w K := by kernel_rfl
theorem S_foliantlaw17_HeadBack_ok {t0 t1 t2 : Value} {w : World} {K : Ending → World → Prop} (h : S_foliantlaw17_HeadBack t0 t1 t2 w K) : Calls Tryz.prog 4 #[t0, t1, t2] w K :=
  calls_of_wpX Tryz.func4 rfl rfl rfl rfl (Eq.mpr (S_foliantlaw17_HeadBack_eq t0 t1 t2 w K) h)

/- foliantlaw17.HeadEnds -/
def S_foliantlaw17_HeadEnds_0 (t0 t5 t6 t7 t38 t39 t40 : Value) (w : World) (N1 : List Value → World → Prop) (K : Ending → World → Prop) : Prop :=
 DoX Tryz.prog (mBin .lss 3 t40 t39) w (pk K) fun t41 w =>
 IfX t41 (DoX Tryz.prog (mIA 32 t38 t40) w (pk K) fun t43 w =>
 DoX Tryz.prog (mLoad 3 t43) w (pk K) fun t44 w =>
 DoX Tryz.prog (mB .len #[32] 3 #[false] #[t5]) w (pk K) fun t47 w =>
 DoX Tryz.prog (mBin .lss 3 t40 t47) w (pk K) fun t48 w =>
 GDo t48 true (fun E => E t44 w) w fun t50 w =>
 GDo t48 true (fun E => E t5 w) w fun t51 w =>
 GDo t48 true (fun E => E t40 w) w fun t52 w =>
 GDo t48 true (fun E => DoX Tryz.prog (mIA 32 t51 t52) w (pk K) E) w fun t53 w =>
 GDo t48 true (fun E => DoX Tryz.prog (mLoad 3 t53) w (pk K) E) w fun t54 w =>
 GDo t48 true (fun E => DoX Tryz.prog (mEq .neq 3 (.tmp 50) (.tmp 54) t50 t54) w (pk K) E) w fun t55 w =>
 DoX Tryz.prog (mPick t48 t55 (.bool false)) w (pk K) fun t56 w =>
 GDo t56 false (fun E => E t40 w) w fun t58 w =>
 GDo t56 false (fun E => E t5 w) w fun t59 w =>
 GDo t56 false (fun E => DoX Tryz.prog (mB .len #[32] 3 #[false] #[t59]) w (pk K) E) w fun t60 w =>
 GDo t56 false (fun E => DoX Tryz.prog (mBin .geq 3 t58 t60) w (pk K) E) w fun t61 w =>
 GDo t56 false (fun E => E t61 w) w fun t62 w =>
 GDo t62 true (fun E => E t44 w) w fun t63 w =>
 GDo t62 true (fun E => E t6 w) w fun t64 w =>
 GDo t62 true (fun E => E t40 w) w fun t65 w =>
 GDo t62 true (fun E => E t5 w) w fun t66 w =>
 GDo t62 true (fun E => DoX Tryz.prog (mB .len #[32] 3 #[false] #[t66]) w (pk K) E) w fun t67 w =>
 GDo t62 true (fun E => DoX Tryz.prog (mBin .sub 3 t65 t67) w (pk K) E) w fun t68 w =>
 GDo t62 true (fun E => DoX Tryz.prog (mIA 32 t64 t68) w (pk K) E) w fun t69 w =>
 GDo t62 true (fun E => DoX Tryz.prog (mLoad 3 t69) w (pk K) E) w fun t70 w =>
 GDo t62 true (fun E => E t0 w) w fun t71 w =>
 GDo t62 true (fun E => DoX Tryz.prog (mB .len #[9] 3 #[false] #[t71]) w (pk K) E) w fun t72 w =>
 GDo t62 true (fun E => DoX Tryz.prog (mBin .add 3 t70 t72) w (pk K) E) w fun t73 w =>
 GDo t62 true (fun E => DoX Tryz.prog (mEq .neq 3 (.tmp 63) (.tmp 73) t63 t73) w (pk K) E) w fun t74 w =>
 GDo t56 false (fun E => DoX Tryz.prog (mPick t62 t74 (.bool false)) w (pk K) E) w fun t75 w =>
 DoX Tryz.prog (mPick t56 (.bool true) t75) w (pk K) fun t76 w =>
 GDo t76 false (fun E => E t40 w) w fun t78 w =>
 GDo t76 false (fun E => DoX Tryz.prog (mBin .gtr 3 t78 (.int .i64 0)) w (pk K) E) w fun t79 w =>
 GDo t76 false (fun E => E t79 w) w fun t80 w =>
 GDo t80 true (fun E => E t44 w) w fun t81 w =>
 GDo t80 true (fun E => E t7 w) w fun t82 w =>
 GDo t80 true (fun E => E t40 w) w fun t83 w =>
 GDo t80 true (fun E => DoX Tryz.prog (mBin .sub 3 t83 (.int .i64 1)) w (pk K) E) w fun t84 w =>
 GDo t80 true (fun E => DoX Tryz.prog (mIA 32 t82 t84) w (pk K) E) w fun t85 w =>
 GDo t80 true (fun E => DoX Tryz.prog (mLoad 3 t85) w (pk K) E) w fun t86 w =>
 GDo t80 true (fun E => DoX Tryz.prog (mBin .leq 3 t81 t86) w (pk K) E) w fun t87 w =>
 GDo t76 false (fun E => DoX Tryz.prog (mPick t80 t87 (.bool false)) w (pk K) E) w fun t88 w =>
 DoX Tryz.prog (mPick t76 (.bool true) t88) w (pk K) fun t89 w =>
 IfX t89 (K (.returned (.bool false)) w) (DoX Tryz.prog (mBin .add 3 t40 (.int .i64 1)) w (pk K) fun t90 w =>
 N1 [t90] w)) (K (.returned (.bool true)) w)
def S_foliantlaw17_HeadEnds (t0 t1 : Value) (w : World) (K : Ending → World → Prop) : Prop :=
 CallX Tryz.prog 9 #[] w (pk K) fun t10 w =>
 DoX Tryz.prog (mUn .not t10) w (pk K) fun t11 w =>
 IfX t11 (K (.returned (.bool false)) w) (DoX Tryz.prog (mB .len #[9] 3 #[false] #[t0]) w (pk K) fun t13 w =>
 DoX Tryz.prog (mBin .gtr 3 t13 (.int .i64 1500)) w (pk K) fun t14 w =>
 GDo t14 false (fun E => E t1 w) w fun t16 w =>
 GDo t14 false (fun E => DoX Tryz.prog (mB .len #[9] 3 #[false] #[t16]) w (pk K) E) w fun t17 w =>
 GDo t14 false (fun E => DoX Tryz.prog (mBin .gtr 3 t17 (.int .i64 1500)) w (pk K) E) w fun t18 w =>
 DoX Tryz.prog (mPick t14 (.bool true) t18) w (pk K) fun t19 w =>
 IfX t19 (K (.returned (.bool true)) w) (DoX Tryz.prog (mBin .add 9 t0 (.string ⟨#[120, 10]⟩)) w (pk K) fun t21 w =>
 CallX Tryz.prog 19 #[t21] w (pk K) fun t23 w =>
 CallX Tryz.prog 19 #[t1] w (pk K) fun t25 w =>
 DoX Tryz.prog (mBin .add 9 t21 t1) w (pk K) fun t28 w =>
 CallX Tryz.prog 19 #[t28] w (pk K) fun t29 w =>
 DoX Tryz.prog (mB .len #[32] 3 #[false] #[t29]) w (pk K) fun t31 w =>
 DoX Tryz.prog (mB .len #[32] 3 #[false] #[t23]) w (pk K) fun t33 w =>
 DoX Tryz.prog (mB .len #[32] 3 #[false] #[t25]) w (pk K) fun t35 w =>
 DoX Tryz.prog (mBin .add 3 t33 t35) w (pk K) fun t36 w =>
 DoX Tryz.prog (mEq .neq 3 (.tmp 31) (.tmp 36) t31 t36) w (pk K) fun t37 w =>
 IfX t37 (K (.returned (.bool false)) w) (DoX Tryz.prog (mB .len #[32] 3 #[false] #[t29]) w (pk K) fun t39 w =>
 LoopX [(.int .i64 0)] w (fun vs1 w N1 => ∀ _ : Sg, S_foliantlaw17_HeadEnds_0 t21 t23 t25 t29 t29 t39 (vs1.getD 0 undef) w N1 K))))
theorem S_foliantlaw17_HeadEnds_eq (t0 t1 : Value) (w : World) (K : Ending → World → Prop) : wpX Tryz.prog 91 [] [(10, [40])] none (bodyOf Tryz.f5) (topQ Tryz.prog [.tmp 4] K) (startX [t0, t1]) [] w = S_foliantlaw17_HeadEnds t0 t1 w K := by kernel_rfl
theorem S_foliantlaw17_HeadEnds_ok {t0 t1 : Value} {w : World} {K : Ending → World → Prop} (h : S_foliantlaw17_HeadEnds t0 t1 w K) : Calls Tryz.prog 5 #[t0, t1] w K :=
  calls_of_wpX Tryz.func5 rfl rfl rfl rfl (Eq.mpr (S_foliantlaw17_HeadEnds_eq t0 t1 w K) h)

end Go.Proofs.YtgffladaenimmaaGreatDoor
