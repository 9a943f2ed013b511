/- Plain mathematics of layer 4: encodings are one-to-one; no program in sight. -/
import Derived.Test.YtfnpfbgnhncgpaaDoorPlain04
namespace Go.Proofs.YtfnpfbgnhncgpaaDoor
set_option linter.unusedVariables false
set_option linter.unusedSimpArgs false
set_option linter.defProp false
open Go
namespace Pl
open Oc
/-- A code of bytes that tells each byte by its head. -/
def Head (f : UInt8 → List UInt8) : Prop := ∀ c d x y, f c ++ x = f d ++ y → c = d ∧ x = y
theorem flat_inj {f : UInt8 → List UInt8} (h : Head f) (hn : ∀ c, f c ≠ []) : ∀ (l m x y : List UInt8), l.flatMap f ++ x = m.flatMap f ++ y → (∀ c z, x = f c ++ z → False) → (∀ c z, y = f c ++ z → False) → l = m ∧ x = y
  | [], [], x, y, e, _, _ => ⟨rfl, by simpa using e⟩
  | [], d :: m, x, y, e, hx, _ => by
    simp only [List.flatMap_nil, List.nil_append, List.flatMap_cons, List.append_assoc] at e
    exact (hx d _ e).elim
  | c :: l, [], x, y, e, _, hy => by
    simp only [List.flatMap_nil, List.nil_append, List.flatMap_cons, List.append_assoc] at e
    exact (hy c _ e.symm).elim
  | c :: l, d :: m, x, y, e, hx, hy => by
    simp only [List.flatMap_cons, List.append_assoc] at e
    obtain ⟨rfl, e2⟩ := h c d _ _ e
    obtain ⟨rfl, rfl⟩ := flat_inj h hn l m x y e2 hx hy
    exact ⟨rfl, rfl⟩
theorem ofNat_inj {a b : Nat} (ha : a < 256) (hb : b < 256) (h : UInt8.ofNat a = UInt8.ofNat b) : a = b := by
  have := congrArg UInt8.toNat h
  rw [UInt8.toNat_ofNat', UInt8.toNat_ofNat'] at this
  omega
theorem esc_head : Head esc := by
  intro c d x y h
  have hc := c.toNat_lt
  have hd := d.toNat_lt
  have kc : ∀ k : UInt8, (UInt8.ofNat (48 + k.toNat / 64) = 40 ∨ UInt8.ofNat (48 + k.toNat / 64) = 41 ∨ UInt8.ofNat (48 + k.toNat / 64) = 92) → False := by
    intro k hk
    have hkl := k.toNat_lt
    rcases hk with hk | hk | hk
    · have := ofNat_inj (b := 40) (by omega) (by omega) hk; omega
    · have := ofNat_inj (b := 41) (by omega) (by omega) hk; omega
    · have := ofNat_inj (b := 92) (by omega) (by omega) hk; omega
  unfold esc at h
  by_cases c1 : c = 40 ∨ c = 41 ∨ c = 92
  · by_cases d1 : d = 40 ∨ d = 41 ∨ d = 92
    · rw [if_pos c1, if_pos d1] at h
      simp at h
      exact h
    · rw [if_pos c1, if_neg d1] at h
      by_cases d2 : d.toNat < 32 ∨ 126 < d.toNat
      · rw [if_pos d2] at h
        simp only [oct, List.cons_append, List.nil_append, List.cons.injEq, true_and] at h
        exact (kc d (by rw [← h.1]; exact c1)).elim
      · rw [if_neg d2] at h
        simp at h
        exact (d1 (.inr (.inr h.1.symm))).elim
  · by_cases d1 : d = 40 ∨ d = 41 ∨ d = 92
    · rw [if_neg c1, if_pos d1] at h
      by_cases c2 : c.toNat < 32 ∨ 126 < c.toNat
      · rw [if_pos c2] at h
        simp only [oct, List.cons_append, List.nil_append, List.cons.injEq, true_and] at h
        exact (kc c (by rw [h.1]; exact d1)).elim
      · rw [if_neg c2] at h
        simp at h
        exact (c1 (.inr (.inr h.1))).elim
    · rw [if_neg c1, if_neg d1] at h
      by_cases c2 : c.toNat < 32 ∨ 126 < c.toNat
      · by_cases d2 : d.toNat < 32 ∨ 126 < d.toNat
        · rw [if_pos c2, if_pos d2] at h
          simp only [oct, List.cons_append, List.nil_append, List.cons.injEq, true_and] at h
          obtain ⟨h1, h2, h3, h4⟩ := h
          have g1 := ofNat_inj (by omega) (by omega) h1
          have g2 := ofNat_inj (by omega) (by omega) h2
          have g3 := ofNat_inj (by omega) (by omega) h3
          exact ⟨UInt8.toNat_inj.1 (by omega), h4⟩
        · rw [if_pos c2, if_neg d2] at h
          simp [oct] at h
          exact (d1 (.inr (.inr h.1.symm))).elim
      · by_cases d2 : d.toNat < 32 ∨ 126 < d.toNat
        · rw [if_neg c2, if_pos d2] at h
          simp [oct] at h
          exact (c1 (.inr (.inr h.1))).elim
        · rw [if_neg c2, if_neg d2] at h
          simpa using h
theorem hexD_inj : ∀ a b : Fin 16, hexD a.val = hexD b.val → a = b := by decide +kernel
theorem nmc_head : Head nmc := by
  intro c d x y h
  have hc := c.toNat_lt
  have hd := d.toNat_lt
  have ne : ∀ k, nmOk k = true → k ≠ 35 := by intro k hk; simp [nmOk] at hk; exact hk.1.2
  unfold nmc at h
  by_cases c1 : nmOk c = true
  · by_cases d1 : nmOk d = true
    · rw [if_pos c1, if_pos d1] at h; simpa using h
    · rw [if_pos c1, if_neg d1] at h
      simp at h
      exact (ne c c1 h.1).elim
  · by_cases d1 : nmOk d = true
    · rw [if_neg c1, if_pos d1] at h
      simp at h
      exact (ne d d1 h.1.symm).elim
    · rw [if_neg c1, if_neg d1] at h
      simp only [hex, hex1, List.flatMap_cons, List.flatMap_nil, List.append_nil, List.cons_append, List.nil_append, List.cons.injEq, true_and] at h
      obtain ⟨h1, h2, h3⟩ := h
      have g1 := hexD_inj ⟨c.toNat / 16, by omega⟩ ⟨d.toNat / 16, by omega⟩ h1
      have g2 := hexD_inj ⟨c.toNat % 16, by omega⟩ ⟨d.toNat % 16, by omega⟩ h2
      simp only [Fin.mk.injEq] at g1 g2
      exact ⟨UInt8.toNat_inj.1 (by omega), h3⟩
theorem esc_41 (c : UInt8) (z : List UInt8) (h : [41] = esc c ++ z) : False := by
  unfold esc at h
  by_cases c1 : c = 40 ∨ c = 41 ∨ c = 92
  · rw [if_pos c1] at h; simp at h
  · rw [if_neg c1] at h
    by_cases c2 : c.toNat < 32 ∨ 126 < c.toNat
    · rw [if_pos c2] at h; simp [oct] at h
    · rw [if_neg c2] at h
      simp at h
      exact c1 (.inr (.inl h.1.symm))
theorem str_inj {l m : List UInt8} (h : str l = str m) : l = m := by
  unfold str at h
  simp only [List.append_assoc] at h
  have h2 := List.append_cancel_left h
  exact (flat_inj esc_head (fun c => by have := (esc_len c).1; intro e; rw [e] at this; simp at this) l m [41] [41] h2 (fun c z e => esc_41 c z e) (fun c z e => esc_41 c z e)).1
theorem name_inj {l m : List UInt8} (h : name l = name m) : l = m := by
  unfold name at h
  have h2 := List.append_cancel_left h
  have hn : ∀ c, nmc c ≠ [] := fun c => by have := (nmc_len c).1; intro e; rw [e] at this; simp at this
  refine (flat_inj nmc_head hn l m [] [] (by simpa using h2) (fun c z e => ?_) (fun c z e => ?_)).1 <;>
  · have := congrArg List.length e
    have h1 := (nmc_len c).1
    simp at this; omega
/- NUMBERS -/
theorem dec_val : ∀ u : Nat, Fx.val 0 (Lib.decDigits u) = (u : Int) ∧ (Lib.decDigits u).all Fx.isDig = true := by
  intro u
  induction u using Nat.strongRecOn with
  | _ u ih =>
    have dig : ∀ k, k < 10 → Fx.isDig (UInt8.ofNat (48 + k)) = true ∧ ((UInt8.ofNat (48 + k)).toNat : Int) - 48 = (k : Int) := by
      intro k hk
      have e : (UInt8.ofNat (48 + k)).toNat = 48 + k := by rw [UInt8.toNat_ofNat']; omega
      refine ⟨?_, by omega⟩
      unfold Fx.isDig
      rw [e]
      simp only [Bool.and_eq_true, decide_eq_true_eq]
      omega
    rw [Lib.decDigits]
    split
    · rename_i h
      obtain ⟨h1, h2⟩ := dig u h
      refine ⟨?_, by rw [List.all_cons, h1]; rfl⟩
      simp only [Fx.val, List.foldl_cons, List.foldl_nil, h2]
      omega
    · rename_i h
      obtain ⟨i1, i2⟩ := ih (u / 10) (by omega)
      obtain ⟨h1, h2⟩ := dig (u % 10) (by omega)
      refine ⟨?_, by rw [List.all_append, i2, List.all_cons, h1]; rfl⟩
      rw [Fx.val_append, i1]
      simp only [Fx.val, List.foldl_cons, List.foldl_nil, h2]
      omega
theorem itoa_shape (n : Int) : (∃ u : Nat, n = u ∧ Lib.itoa n = Lib.decDigits u) ∨ (∃ u : Nat, n = -(u : Int) ∧ 0 < u ∧ Lib.itoa n = 45 :: Lib.decDigits u) := by
  unfold Lib.itoa
  by_cases h : n < 0
  · rw [if_pos h]; exact .inr ⟨n.natAbs, by omega, by omega, rfl⟩
  · rw [if_neg h]; exact .inl ⟨n.toNat, by omega, rfl⟩
theorem dec_no (u : Nat) (c : UInt8) (hc : Fx.isDig c = false) : c ∉ Lib.decDigits u := fun hm => by
  have := List.all_eq_true.1 (dec_val u).2 c hm
  rw [hc] at this; cases this
theorem dec_inj {u v : Nat} (h : Lib.decDigits u = Lib.decDigits v) : u = v := by
  have h1 := (dec_val u).1
  have h2 := (dec_val v).1
  rw [h] at h1
  omega
theorem itoa_inj {n m : Int} (h : Lib.itoa n = Lib.itoa m) : n = m := by
  rcases itoa_shape n with ⟨u, hu, e1⟩ | ⟨u, hu, _, e1⟩ <;> rcases itoa_shape m with ⟨v, hv, e2⟩ | ⟨v, hv, _, e2⟩ <;> rw [e1, e2] at h
  · have := dec_inj h; omega
  · exact (dec_no u 45 rfl (by rw [h]; simp)).elim
  · exact (dec_no v 45 rfl (by rw [← h]; simp)).elim
  · simp only [List.cons.injEq, true_and] at h
    have := dec_inj h; omega
theorem itoa_no46 (n : Int) : (46 : UInt8) ∉ Lib.itoa n := by
  rcases itoa_shape n with ⟨u, _, e⟩ | ⟨u, _, _, e⟩ <;> rw [e]
  · exact dec_no u 46 rfl
  · simp only [List.mem_cons, not_or]
    exact ⟨by decide, dec_no u 46 rfl⟩
theorem text_has46 {n : Int} (h : Fx.okB n = true) : (46 : UInt8) ∈ Fx.text n := by
  rw [Fx.text, if_pos h]; simp
theorem text_inj {n m : Int} (hn : Fx.okB n = true) (hm : Fx.okB m = true) (h : Fx.text n = Fx.text m) : n = m := by
  have h1 := (Fx.read_text n hn 0 (by omega)).1
  have h2 := (Fx.read_text m hm 0 (by omega)).1
  rw [h, h2] at h1
  injection h1 with h3 _
  exact h3.symm
end Pl
end Go.Proofs.YtfnpfbgnhncgpaaDoor
