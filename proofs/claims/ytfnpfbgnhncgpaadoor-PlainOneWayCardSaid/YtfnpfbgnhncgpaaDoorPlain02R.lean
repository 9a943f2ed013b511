/- Plain mathematics of layer 2: the text of numbers (Read, Text), on lists of bytes; no program in sight. -/
import Derived.Test.YtfnpfbgnhncgpaaDoorPlain02
import Derived.Lib.SlTrimSet
import Derived.Lib.TrimByte
import GoSem.Op.String
namespace Go.Proofs.YtfnpfbgnhncgpaaDoor
set_option linter.unusedVariables false
set_option linter.unusedSimpArgs false
set_option linter.defProp false
namespace Fx
open Go

def isDig (c : UInt8) : Bool := decide (48 ≤ c.toNat) && decide (c.toNat ≤ 57)
theorem isDig_bd {c : UInt8} (h : isDig c = true) : 48 ≤ c.toNat ∧ c.toNat ≤ 57 := by simpa [isDig] using h
def val (n : Int) (l : List UInt8) : Int := l.foldl (fun n c => 10 * n + ((c.toNat : Int) - 48)) n
def whole (l : List UInt8) : List UInt8 := l.takeWhile (fun c => c != 46)
def part (l : List UInt8) : List UInt8 := (l.dropWhile (fun c => c != 46)).drop 1
def body : List UInt8 → List UInt8
  | [] => []
  | c :: t => if c = 45 ∨ c = 43 then t else c :: t
def minus : List UInt8 → Bool
  | [] => false
  | c :: _ => decide (c = 45)
def form (l : List UInt8) : Bool := decide (l.length ≤ 40) && (whole (body l)).all isDig && (part (body l)).all isDig && decide (0 < (whole (body l)).length + (part (body l)).length)
/-- Whether the rest behind four digits rounds the magnitude up. -/
def more (rest : List UInt8) (neg : Bool) : Bool :=
  match rest with
  | [] => false
  | c :: t => decide (53 ≤ c.toNat) && (!neg || decide (53 < c.toNat) || t.any (fun c => decide (48 < c.toNat)))
def four (p : List UInt8) : List UInt8 := (p ++ [48, 48, 48, 48]).take 4
def mag (l : List UInt8) : Int := val (val 0 (whole (body l))) (four (part (body l))) + (if more ((part (body l)).drop 4) (minus l) then 1 else 0)
def read (l : List UInt8) : Int × Int :=
  if form l then
    if val 0 (whole (body l)) > 1073741824 then (0, 2)
    else ans (if minus l then - mag l else mag l)
  else (0, 3)

/- THE REFERENCE's SCAN -/
def scan : List UInt8 → List UInt8 → List UInt8 → Bool → Option (List UInt8 × List UInt8)
  | [], w, p, _ => some (w, p)
  | c :: t, w, p, false => if c = 46 then scan t w p true else if isDig c then scan t (w ++ [c]) p false else none
  | c :: t, w, p, true => if isDig c then scan t w (p ++ [c]) true else none
theorem scan_true : ∀ (l w p : List UInt8), scan l w p true = if l.all isDig then some (w, p ++ l) else none
  | [], w, p => by simp [scan]
  | c :: t, w, p => by
    rw [scan, scan_true t w (p ++ [c])]
    by_cases h : isDig c = true <;> simp [h]
theorem scan_false : ∀ (l w : List UInt8), scan l w [] false = if (whole l).all isDig && (part l).all isDig then some (w ++ whole l, part l) else none
  | [], w => by simp [scan, whole, part]
  | c :: t, w => by
    by_cases h : c = 46
    · subst h
      rw [scan, if_pos rfl, scan_true]
      simp [whole, part]
    · have hb : (c != 46) = true := by simpa using h
      have e1 : whole (c :: t) = c :: whole t := by simp [whole, hb]
      have e2 : part (c :: t) = part t := by simp [part, hb]
      rw [scan, if_neg h, e1, e2, scan_false t (w ++ [c])]
      by_cases hd : isDig c = true <;> simp [hd]

/- VALUES -/
theorem val_append (n : Int) (a b : List UInt8) : val n (a ++ b) = val (val n a) b := by simp [val]
theorem val_nil (n : Int) : val n [] = n := rfl
theorem val_cons (n : Int) (c : UInt8) (t : List UInt8) : val n (c :: t) = val (10 * n + ((c.toNat : Int) - 48)) t := rfl
theorem val_snoc (n : Int) (a : List UInt8) (c : UInt8) : val n (a ++ [c]) = 10 * val n a + ((c.toNat : Int) - 48) := by simp [val]
theorem val_take (n : Int) (l : List UInt8) (k : Nat) (h : k < l.length) : val n (l.take (k + 1)) = 10 * val n (l.take k) + ((l[k].toNat : Int) - 48) := by
  rw [List.take_succ_eq_append_getElem h, val_snoc]
theorem val_ge : ∀ (l : List UInt8) (n : Int), l.all isDig = true → 0 ≤ n → n ≤ val n l
  | [], n, _, _ => Int.le_refl _
  | c :: t, n, h, h0 => by
    simp only [List.all_cons, Bool.and_eq_true] at h
    have := isDig_bd h.1
    rw [val_cons]
    exact Int.le_trans (by omega) (val_ge t _ h.2 (by omega))
theorem val_mono : ∀ (l : List UInt8) (n m : Int), n ≤ m → val n l ≤ val m l
  | [], _, _, h => h
  | c :: t, n, m, h => by rw [val_cons, val_cons]; exact val_mono t _ _ (by omega)
theorem val4 : ∀ (l : List UInt8) (n : Int), l.length = 4 → l.all isDig = true → 10000 * n ≤ val n l ∧ val n l ≤ 10000 * n + 9999
  | [a, b, c, d], n, _, h => by
    simp only [List.all_cons, Bool.and_eq_true, List.all_nil, and_true] at h
    have h1 := isDig_bd h.1; have h2 := isDig_bd h.2.1; have h3 := isDig_bd h.2.2.1; have h4 := isDig_bd h.2.2.2
    simp only [val_cons, val_nil]
    omega
theorem four_length (p : List UInt8) : (four p).length = 4 := by simp [four]
theorem four_all {p : List UInt8} (h : p.all isDig = true) : (four p).all isDig = true := by
  rw [List.all_eq_true] at h ⊢
  intro x hx
  have := List.mem_of_mem_take hx
  simp only [List.mem_append, List.mem_cons, List.not_mem_nil, or_false] at this
  rcases this with h1 | h1 | h1 | h1 | h1
  · exact h x h1
  all_goals subst h1; rfl
theorem four_five (p : List UInt8) : (p ++ [48, 48, 48, 48, 48]).take 4 = four p := by
  unfold four
  rw [show ([48, 48, 48, 48, 48] : List UInt8) = [48, 48, 48, 48] ++ [48] from rfl, ← List.append_assoc, List.take_append_of_le_length (by simp)]
/-- The reference's values are cut at 2^40. -/
def cap (n : Int) (l : List UInt8) : Int := l.foldl (fun n c => min (10 * n + ((c.toNat : Int) - 48)) 1099511627776) n
theorem cap_take (n : Int) (l : List UInt8) (k : Nat) (h : k < l.length) : cap n (l.take (k + 1)) = min (10 * cap n (l.take k) + ((l[k].toNat : Int) - 48)) 1099511627776 := by
  rw [List.take_succ_eq_append_getElem h]; simp only [cap, List.foldl_append, List.foldl_cons, List.foldl_nil]
theorem cap_eq : ∀ (l : List UInt8) (n m : Int), l.all isDig = true → 0 ≤ m → n = min m 1099511627776 → cap n l = min (val m l) 1099511627776
  | [], n, m, _, _, h => h
  | c :: t, n, m, h, h0, hn => by
    simp only [List.all_cons, Bool.and_eq_true] at h
    have := isDig_bd h.1
    show cap (min (10 * n + ((c.toNat : Int) - 48)) 1099511627776) t = _
    rw [val_cons]
    exact cap_eq t _ _ h.2 (by omega) (by omega)
theorem cap_bd (l : List UInt8) (h : l.all isDig = true) : 0 ≤ cap 0 l ∧ cap 0 l ≤ 1099511627776 := by
  rw [cap_eq l 0 0 h (by omega) (by omega)]
  have := val_ge l 0 h (by omega)
  omega

/- THE REST -/
abbrev less := Op.bytesLess
def tr (l : List UInt8) : List UInt8 := Lib.trimRightB l 48
theorem tr_nil : tr [] = [] := rfl
theorem tr_cons (c : UInt8) (t : List UInt8) : tr (c :: t) = if tr t = [] then (if c = 48 then [] else [c]) else c :: tr t := by
  simp only [tr, Lib.trimRightB]
  rw [List.reverse_cons, List.dropWhile_append]
  by_cases hd : List.dropWhile (fun x => x == 48) t.reverse = []
  · by_cases h : c = 48
    · subst h; simp [hd]
    · have hb : (c == 48) = false := by simpa using h
      simp [hd, h]
  · have h2 : (List.dropWhile (fun x => x == 48) t.reverse).isEmpty = false := by
      cases hh : List.dropWhile (fun x => x == 48) t.reverse with
      | nil => exact absurd hh hd
      | cons a b => rfl
    have h3 : ¬ (List.dropWhile (fun x => x == 48) t.reverse).reverse = [] := by simpa using hd
    simp only [h2, h3, if_false, Bool.false_eq_true]; simp
theorem tr_empty : ∀ (l : List UInt8), l.all isDig = true → (tr l = [] ↔ l.any (fun c => decide (48 < c.toNat)) = false)
  | [], _ => by simp [tr_nil]
  | c :: t, h => by
    simp only [List.all_cons, Bool.and_eq_true] at h
    have h1 := isDig_bd h.1
    have ih := tr_empty t h.2
    rw [tr_cons]
    have hc : c = 48 ↔ ¬ 48 < c.toNat := by
      constructor
      · intro e; subst e; decide
      · intro e; exact UInt8.toNat_inj.1 (show c.toNat = (48 : UInt8).toNat by rw [show (48 : UInt8).toNat = 48 from rfl]; omega)
    by_cases ht : tr t = []
    · rw [if_pos ht]
      have hn := ih.1 ht
      by_cases h48 : c = 48
      · have := hc.1 h48
        rw [if_pos h48, List.any_cons, hn]; simp; omega
      · rw [if_neg h48]
        have : 48 < c.toNat := Classical.byContradiction fun e => h48 (hc.2 e)
        simp [this]
    · rw [if_neg ht]
      have : t.any (fun c => decide (48 < c.toNat)) = true := by
        cases hh : t.any (fun c => decide (48 < c.toNat)) with
        | true => rfl
        | false => exact absurd (ih.2 hh) ht
      simp only [List.any_cons, this, Bool.or_true]
      simp
theorem more_tr (r : List UInt8) (neg : Bool) (h : r.all isDig = true) : more r neg = if neg then !(less (tr r) [53] || tr r == [53]) else !(less (tr r) [53]) := by
  cases r with
  | nil => cases neg <;> rfl
  | cons c t =>
    simp only [List.all_cons, Bool.and_eq_true] at h
    have h1 := isDig_bd h.1
    have ih := tr_empty t h.2
    have lt53 : (c < 53) ↔ c.toNat < 53 := by rw [UInt8.lt_iff_toNat_lt]; rfl
    have eq53 : (c = 53) ↔ c.toNat = 53 := by rw [← UInt8.toNat_inj]; rfl
    have eq48 : (c = 48) ↔ c.toNat = 48 := by rw [← UInt8.toNat_inj]; rfl
    have beq53 : (c == 53) = decide (c.toNat = 53) := by
      by_cases hh : c = 53
      · subst hh; rfl
      · rw [show (c == 53) = false from by simpa using hh, decide_eq_false (fun e => hh (eq53.2 e))]
    rw [tr_cons, more]
    by_cases ht : tr t = []
    · have hn := ih.1 ht
      rw [if_pos ht, hn]
      by_cases h48 : c = 48
      · rw [if_pos h48]
        have := eq48.1 h48
        have e : decide (53 ≤ c.toNat) = false := by simp; omega
        rw [e]
        cases neg <;> rfl
      · rw [if_neg h48]
        simp only [less, Op.bytesLess, beq53, Bool.and_false, Bool.or_false, lt53]
        have e1 : (([c] : List UInt8) == [53]) = decide (c.toNat = 53) := by
          rw [← beq53]; simp
        rw [e1]
        cases neg
        · by_cases hh : c.toNat < 53
          · have : ¬ 53 ≤ c.toNat := by omega
            simp [hh, this]
          · have : 53 ≤ c.toNat := by omega
            simp [hh, this]
        · by_cases hh : c.toNat < 53
          · have : ¬ 53 ≤ c.toNat := by omega
            simp [hh, this]
          · by_cases h5 : c.toNat = 53
            · simp [h5]
            · have a1 : 53 ≤ c.toNat := by omega
              have a2 : 53 < c.toNat := by omega
              simp [hh, h5, a1, a2]
    · have hn : t.any (fun c => decide (48 < c.toNat)) = true := by
        cases hh : t.any (fun c => decide (48 < c.toNat)) with
        | true => rfl
        | false => exact absurd (ih.2 hh) ht
      rw [if_neg ht, hn]
      have e1 : ((c :: tr t) == ([53] : List UInt8)) = false := by
        cases htt : tr t with
        | nil => exact absurd htt ht
        | cons a b => simp
      rw [e1]
      simp only [less, Op.bytesLess, Bool.and_false, Bool.or_false, lt53, Bool.or_true, Bool.and_true, ite_self]
      by_cases hh : c.toNat < 53
      · have : ¬ 53 ≤ c.toNat := by omega
        simp [hh, this]
      · have : 53 ≤ c.toNat := by omega
        simp [hh, this]
theorem tr_zeros (l : List UInt8) (k : Nat) : tr (l ++ List.replicate k 48) = tr l := by
  simp only [tr, Lib.trimRightB]
  rw [List.reverse_append, List.reverse_replicate]
  congr 1
  induction k with
  | zero => simp
  | succ k ih => rw [List.replicate_succ]; simp [ih]
theorem tr_drop (p : List UInt8) : tr ((p ++ [48, 48, 48, 48, 48]).drop 4) = tr (p.drop 4) := by
  rw [List.drop_append]
  rw [show ([48, 48, 48, 48, 48] : List UInt8).drop (4 - p.length) = List.replicate (5 - (4 - p.length)) 48 from ?_, tr_zeros]
  rw [show ([48, 48, 48, 48, 48] : List UInt8) = List.replicate 5 48 from rfl, List.drop_replicate]
/- NUMBERS AS TEXT -/
def dg (k : Nat) : UInt8 := UInt8.ofNat (48 + k)
def rowF : Nat → Nat → Nat → List UInt8 → List UInt8
  | 0, _, _, s => s
  | f + 1, n, least, s => if 0 < n ∨ s.length < least then rowF f (n / 10) least (dg (n % 10) :: s) else s
def row (n least : Nat) : List UInt8 := rowF 64 n least []
def fpart (n : Nat) : List UInt8 := if tr (row (n % 10000) 4) = [] then [48] else tr (row (n % 10000) 4)
def text (n : Int) : List UInt8 := if okB n then (if n < 0 then [45] else []) ++ row (n.natAbs / 10000) 1 ++ [46] ++ fpart n.natAbs else []
theorem dg_toNat {k : Nat} (h : k < 10) : (dg k).toNat = 48 + k := by
  unfold dg
  rw [UInt8.toNat_ofNat']
  omega
theorem rowF_len : ∀ (f n least : Nat) (s : List UInt8), (rowF f n least s).length ≤ f + s.length
  | 0, n, least, s => by simp [rowF]
  | f + 1, n, least, s => by
    rw [rowF]
    split
    · have := rowF_len f (n / 10) least (dg (n % 10) :: s)
      simp only [List.length_cons] at this; omega
    · omega
theorem row_len (n least : Nat) : (row n least).length ≤ 64 := by
  have := rowF_len 64 n least []
  simpa [row] using this
theorem rowF_mono : ∀ (f n least : Nat) (s : List UInt8), s.length ≤ (rowF f n least s).length
  | 0, n, least, s => by simp [rowF]
  | f + 1, n, least, s => by
    rw [rowF]
    split
    · have := rowF_mono f (n / 10) least (dg (n % 10) :: s)
      simp only [List.length_cons] at this; omega
    · omega
theorem row_pos (n least : Nat) (h : 0 < least) : 1 ≤ (row n least).length := by
  rw [row, rowF, if_pos (.inr (by simpa using h))]
  have := rowF_mono 63 (n / 10) least [dg (n % 10)]
  simpa using this
theorem tr_len (l : List UInt8) : (tr l).length ≤ l.length := by
  rw [tr, Lib.trimRightB, List.length_reverse]
  have := (List.dropWhile_sublist (fun x => x == 48) (l := l.reverse)).length_le
  simpa using this
theorem fpart_len (n : Nat) : (fpart n).length ≤ 64 := by
  unfold fpart
  split
  · simp
  · exact Nat.le_trans (tr_len _) (row_len _ _)
end Fx
end Go.Proofs.YtfnpfbgnhncgpaaDoor
