/- Plain mathematics of layer 2 (fixed-point numbers): what the functions compute, on integers and lists of bytes; no program in sight. -/
import Derived.Lib.Strings
namespace Go.Proofs.YtfnpfbgnhncgpaaDoor
set_option linter.unusedVariables false
set_option linter.unusedSimpArgs false
set_option linter.defProp false
namespace Fx

/-- The nearest integer to n / d, halves up (d > 0). -/
def near (n d : Int) : Int := (2 * n + d) / (2 * d)
theorem near_spec (n d : Int) (hd : 0 < d) : d * (2 * near n d - 1) ≤ 2 * n ∧ 2 * n < d * (2 * near n d + 1) := by
  unfold near
  have h1 := Int.mul_ediv_add_emod (2 * n + d) (2 * d)
  have h2 := Int.emod_nonneg (2 * n + d) (b := 2 * d) (by omega)
  have h3 := Int.emod_lt_of_pos (2 * n + d) (b := 2 * d) (by omega)
  generalize (2 * n + d) / (2 * d) = q at *
  generalize (2 * n + d) % (2 * d) = r at *
  have e1 : d * (2 * q - 1) = 2 * d * q - d := by rw [Int.mul_sub, Int.mul_one, Int.mul_comm 2 d, Int.mul_assoc]
  have e2 : d * (2 * q + 1) = 2 * d * q + d := by rw [Int.mul_add, Int.mul_one, Int.mul_comm 2 d, Int.mul_assoc]
  omega
theorem near_unique (n d q : Int) (hd : 0 < d) (h1 : d * (2 * q - 1) ≤ 2 * n) (h2 : 2 * n < d * (2 * q + 1)) : near n d = q := by
  obtain ⟨g1, g2⟩ := near_spec n d hd
  generalize near n d = p at *
  have a : 2 * p - 1 < 2 * q + 1 := Int.lt_of_mul_lt_mul_left (Int.lt_of_le_of_lt g1 h2) (Int.le_of_lt hd)
  have b : 2 * q - 1 < 2 * p + 1 := Int.lt_of_mul_lt_mul_left (Int.lt_of_le_of_lt h1 g2) (Int.le_of_lt hd)
  omega
/-- The two-step rounding of the Go text. -/
theorem near_of_div (n d q r : Int) (hd : 0 < d) (hn : n = d * q + r) (h0 : 0 ≤ r) (h1 : r < d) : near n d = if d - r ≤ r then q + 1 else q := by
  split
  · refine near_unique n d _ hd ?_ ?_
    · have e : d * (2 * (q + 1) - 1) = 2 * (d * q) + d := by rw [Int.mul_sub, Int.mul_one, Int.mul_add, Int.mul_one, Int.mul_add, Int.mul_left_comm]; omega
      omega
    · have e : d * (2 * (q + 1) + 1) = 2 * (d * q) + 3 * d := by rw [Int.mul_add, Int.mul_one, Int.mul_add, Int.mul_one, Int.mul_add, Int.mul_left_comm]; omega
      omega
  · refine near_unique n d _ hd ?_ ?_
    · have e : d * (2 * q - 1) = 2 * (d * q) - d := by rw [Int.mul_sub, Int.mul_one, Int.mul_left_comm]
      omega
    · have e : d * (2 * q + 1) = 2 * (d * q) + d := by rw [Int.mul_add, Int.mul_one, Int.mul_left_comm]
      omega
theorem near_tdiv_neg (n d : Int) (hd : 0 < d) (hr : n.tmod d < 0) : near n d = if d - (n.tmod d + d) ≤ n.tmod d + d then n.tdiv d - 1 + 1 else n.tdiv d - 1 := by
  have h := Int.mul_tdiv_add_tmod n d
  have h2 := Int.lt_tmod_of_pos n hd
  refine near_of_div n d (n.tdiv d - 1) (n.tmod d + d) hd ?_ (by omega) (by omega)
  rw [Int.mul_sub, Int.mul_one]; omega
theorem near_tdiv_pos (n d : Int) (hd : 0 < d) (hr : 0 ≤ n.tmod d) : near n d = if d - n.tmod d ≤ n.tmod d then n.tdiv d + 1 else n.tdiv d := by
  have h := Int.mul_tdiv_add_tmod n d
  have h2 := Int.tmod_lt_of_pos n hd
  exact near_of_div n d (n.tdiv d) (n.tmod d) hd h.symm hr h2
theorem near_bd (n d : Int) (m : Int) (hd : 1 ≤ d) (h0 : 0 ≤ m) (h1 : -m ≤ n) (h2 : n ≤ m) : -m ≤ near n d ∧ near n d ≤ m := by
  obtain ⟨g1, g2⟩ := near_spec n d (by omega)
  generalize near n d = q at *
  have k1 : q ≤ m := by
    apply Classical.byContradiction; intro hc
    have : 2 * m + 1 ≤ 2 * q - 1 := by omega
    have e : d * (2 * m + 1) ≤ d * (2 * q - 1) := Int.mul_le_mul_of_nonneg_left this (by omega)
    have e2 : 1 * (2 * m + 1) ≤ d * (2 * m + 1) := Int.mul_le_mul_of_nonneg_right hd (by omega)
    omega
  have k2 : -m ≤ q := by
    apply Classical.byContradiction; intro hc
    have : 2 * q + 1 ≤ -(2 * m + 1) := by omega
    have e : d * (2 * q + 1) ≤ d * (-(2 * m + 1)) := Int.mul_le_mul_of_nonneg_left this (by omega)
    have e2 : 1 * (2 * m + 1) ≤ d * (2 * m + 1) := Int.mul_le_mul_of_nonneg_right hd (by omega)
    rw [Int.mul_neg] at e
    omega
  exact ⟨k2, k1⟩
theorem near_one (n : Int) : near n 1 = n := near_unique n 1 n (by omega) (by omega) (by omega)
theorem near_mul (a d : Int) (hd : 0 < d) : near (a * d) d = a :=
  near_unique _ _ _ hd (by rw [Int.mul_comm a d, Int.mul_sub, Int.mul_one, Int.mul_left_comm]; omega) (by rw [Int.mul_comm a d, Int.mul_add, Int.mul_one, Int.mul_left_comm]; omega)

def okB (n : Int) : Bool := decide (-1073741824 ≤ n) && decide (n ≤ 1073741824)
def ans (n : Int) : Int × Int := if okB n then (n, 0) else (0, 2)
def mul (a b : Int) : Int × Int := if okB a && okB b then ans (near (a * b) 10000) else (0, 2)
def div (a b : Int) : Int × Int := if okB a && okB b then (if b = 0 then (0, 1) else if b < 0 then ans (near (10000 * -a) (-b)) else ans (near (10000 * a) b)) else (0, 2)
def dotS : List Int → Int
  | a :: b :: t => a * b + dotS t
  | _ => 0
def dot (l : List Int) : Int × Int := if l.length % 2 = 1 ∨ 8 < l.length then (0, 1) else if l.all okB then ans (near (dotS l) 10000) else (0, 2)
def sum (l : List Int) : Int × Int := if l.all okB then ans l.sum else (0, 2)
def nearE (n d : Int) : Int × Int := if d < 1 then (0, 1) else if n < -4611686018427387904 ∨ 4611686018427387904 < n then (0, 2) else (near n d, 0)
theorem dotS_snoc : ∀ (l : List Int) (a b : Int), l.length % 2 = 0 → dotS (l ++ [a, b]) = dotS l + a * b
  | [], a, b, _ => by simp [dotS]
  | [x], a, b, h => by simp at h
  | x :: y :: t, a, b, h => by
    have := dotS_snoc t a b (by simp only [List.length_cons] at h; omega)
    simp only [List.cons_append, dotS, this, Int.add_assoc]
theorem dotS_take (zs : List Int) (k : Nat) (h : k + 1 < zs.length) (he : k % 2 = 0) : dotS (zs.take (k + 2)) = dotS (zs.take k) + zs[k] * zs[k + 1] := by
  have e : zs.take (k + 2) = zs.take k ++ [zs[k], zs[k + 1]] := by
    rw [List.take_succ_eq_append_getElem h, List.take_succ_eq_append_getElem (by omega), List.append_assoc]; rfl
  rw [e, dotS_snoc _ _ _ (by simp; omega)]
theorem okB_mul {a b : Int} (ha : okB a = true) (hb : okB b = true) : -1152921504606846976 ≤ a * b ∧ a * b ≤ 1152921504606846976 := by
  have h1 : -1073741824 ≤ a ∧ a ≤ 1073741824 := by simpa [okB] using ha
  have h2 : -1073741824 ≤ b ∧ b ≤ 1073741824 := by simpa [okB] using hb
  have h3 : (a * b).natAbs ≤ 1073741824 * 1073741824 := by
    rw [Int.natAbs_mul]
    exact Nat.mul_le_mul (by omega) (by omega)
  omega
theorem dotS_bd : ∀ l : List Int, l.all okB = true → -(576460752303423488 * (l.length : Int)) ≤ dotS l ∧ dotS l ≤ 576460752303423488 * (l.length : Int)
  | [], _ => by simp [dotS]
  | [x], _ => by simp [dotS]
  | x :: y :: t, h => by
    simp only [List.all_cons, Bool.and_eq_true] at h
    have h1 := dotS_bd t h.2.2
    have h2 := okB_mul h.1 h.2.1
    simp only [dotS, List.length_cons]
    push_cast
    omega
/-- The greatest integer whose square is at most n. -/
def isqrt (n r : Int) : Prop := 0 ≤ r ∧ r * r ≤ n ∧ n < (r + 1) * (r + 1)
theorem isqrt_unique {n a b : Int} (ha : isqrt n a) (hb : isqrt n b) : a = b := by
  obtain ⟨a0, a1, a2⟩ := ha
  obtain ⟨b0, b1, b2⟩ := hb
  have h1 : a < b + 1 := by
    apply Classical.byContradiction; intro hc
    have : (b + 1) * (b + 1) ≤ a * a := Int.mul_le_mul (by omega) (by omega) (by omega) (by omega)
    omega
  have h2 : b < a + 1 := by
    apply Classical.byContradiction; intro hc
    have : (a + 1) * (a + 1) ≤ b * b := Int.mul_le_mul (by omega) (by omega) (by omega) (by omega)
    omega
  omega
/-- One bit of the root: r is a multiple of 2 d, (r + 2 d)^2 is too much. -/
theorem isqrt_bit {n r d : Int} (hd : 0 ≤ d) (h0 : 0 ≤ r) (h1 : r * r ≤ n) (h2 : n < (r + 2 * d) * (r + 2 * d)) :
    ((r + d) * (r + d) ≤ n → (r + d) * (r + d) ≤ n ∧ n < (r + d + d) * (r + d + d)) ∧ (¬ (r + d) * (r + d) ≤ n → n < (r + d) * (r + d)) := by
  refine ⟨fun h => ⟨h, ?_⟩, fun h => by omega⟩
  rw [show r + d + d = r + 2 * d by omega]; exact h2
end Fx
end Go.Proofs.YtfnpfbgnhncgpaaDoor
