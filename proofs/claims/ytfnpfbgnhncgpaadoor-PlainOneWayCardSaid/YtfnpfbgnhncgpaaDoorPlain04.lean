/- Plain mathematics of layers 1 and 4 (octet, plain): kinds of bytes, hexadecimal digits, the text of scalars; no program in sight. -/
import Derived.Test.YtfnpfbgnhncgpaaDoorPlain02B
import Derived.Lib.ItoaNum
import Derived.Lib.ItoaLen
import Derived.Lib.IndexEntry
namespace Go.Proofs.YtfnpfbgnhncgpaaDoor
set_option linter.unusedVariables false
set_option linter.unusedSimpArgs false
set_option linter.defProp false
open Go
namespace Oc
def whites : List UInt8 := [0, 9, 10, 12, 13, 32]
def delims : List UInt8 := [40, 41, 60, 62, 91, 93, 123, 125, 47, 37]
def white (c : UInt8) : Bool := whites.contains c
def delim (c : UInt8) : Bool := delims.contains c
def regular (c : UInt8) : Bool := !white c && !delim c
def hexs : List UInt8 := [48, 49, 50, 51, 52, 53, 54, 55, 56, 57, 65, 66, 67, 68, 69, 70]
def hexD (n : Nat) : UInt8 := hexs.getD n 0
def hex1 (c : UInt8) : List UInt8 := [hexD (c.toNat / 16), hexD (c.toNat % 16)]
def hex (l : List UInt8) : List UInt8 := l.flatMap hex1
theorem hexs_get {n : Nat} (h : n < 16) : hexs[n]? = some (hexD n) := by
  have hl : n < hexs.length := h
  rw [List.getElem?_eq_getElem hl, hexD, List.getD_eq_getElem?_getD, List.getElem?_eq_getElem hl]; rfl
theorem hex_snoc (l : List UInt8) (c : UInt8) : hex (l ++ [c]) = hex l ++ hex1 c := by simp [hex]
theorem hex_length (l : List UInt8) : (hex l).length = 2 * l.length := by
  induction l with
  | nil => rfl
  | cons c l ih =>
    have e : hex (c :: l) = hex1 c ++ hex l := by simp [hex]
    rw [e, List.length_append, ih]
    simp only [hex1, List.length_cons, List.length_nil]; omega
theorem indexByte_nonneg (c : UInt8) : ∀ l : List UInt8, decide (0 ≤ Lib.indexByte l c) = l.contains c
  | [] => by simp [Lib.indexByte]
  | b :: l => by
    have ih := indexByte_nonneg c l
    have hm : -1 ≤ Lib.indexByte l c := by
      clear ih
      induction l with
      | nil => simp [Lib.indexByte]
      | cons a l ih =>
        simp only [Lib.indexByte]
        split
        · omega
        · split <;> omega
    rw [List.contains_cons]
    by_cases h : b = c
    · subst h; simp [Lib.indexByte]
    · have hb : (b == c) = false := by simpa using h
      have hc : (c == b) = false := by simpa using fun e : c = b => h e.symm
      rw [hc, Bool.false_or, ← ih]
      simp only [Lib.indexByte, hb, Bool.false_eq_true, if_false]
      split
      · rename_i he
        have he' : Lib.indexByte l c = -1 := by simpa using he
        rw [he']
      · rename_i he
        have he' : Lib.indexByte l c ≠ -1 := by simpa using he
        have h0 : 0 ≤ Lib.indexByte l c := by omega
        rw [decide_eq_true h0, decide_eq_true (by omega)]
end Oc
namespace Pl
open Oc
/- STRINGS, NAMES -/
def oct (c : UInt8) : List UInt8 := [92, UInt8.ofNat (48 + c.toNat / 64), UInt8.ofNat (48 + c.toNat / 8 % 8), UInt8.ofNat (48 + c.toNat % 8)]
def esc (c : UInt8) : List UInt8 := if c = 40 ∨ c = 41 ∨ c = 92 then [92, c] else if c.toNat < 32 ∨ 126 < c.toNat then oct c else [c]
def str (l : List UInt8) : List UInt8 := [40] ++ l.flatMap esc ++ [41]
def nmOk (c : UInt8) : Bool := decide (32 < c.toNat) && decide (c.toNat ≤ 126) && decide (c ≠ 35) && !delim c
def nmc (c : UInt8) : List UInt8 := if nmOk c then [c] else [35] ++ hex [c]
def name (l : List UInt8) : List UInt8 := [47] ++ l.flatMap nmc
theorem esc_len (c : UInt8) : 1 ≤ (esc c).length ∧ (esc c).length ≤ 4 := by
  unfold esc
  split
  · simp
  · split <;> simp [oct]
theorem nmc_len (c : UInt8) : 1 ≤ (nmc c).length ∧ (nmc c).length ≤ 3 := by unfold nmc; split <;> simp [hex, hex1]
theorem flat_len (f : UInt8 → List UInt8) (m : Nat) (h : ∀ c, (f c).length ≤ m) : ∀ l : List UInt8, (l.flatMap f).length ≤ m * l.length
  | [] => by simp
  | c :: l => by
    have := flat_len f m h l
    have h2 := h c
    simp only [List.flatMap_cons, List.length_append, List.length_cons, Nat.mul_add, Nat.mul_one]; omega
theorem flat_snoc (f : UInt8 → List UInt8) (l : List UInt8) (c : UInt8) : (l ++ [c]).flatMap f = l.flatMap f ++ f c := by simp
/- THE FUNCTIONS: text and errno -/
def pInt (n : Int) : List UInt8 × Int := if -2147483647 ≤ n ∧ n ≤ 2147483647 then (Lib.itoa n, 0) else ([], 2)
def pReal (n : Int) : List UInt8 × Int := if Fx.okB n then (Fx.text n, 0) else ([], 2)
def pStr (l : List UInt8) : List UInt8 × Int := if 32767 < l.length then ([], 5) else (str l, 0)
def pHex (l : List UInt8) : List UInt8 × Int := if 32767 < l.length then ([], 5) else ([60] ++ hex l ++ [62], 0)
def pName (l : List UInt8) : List UInt8 × Int := if 127 < l.length then ([], 5) else if l.contains 0 then ([], 3) else (name l, 0)
/- JOIN -/
def lastC (l : List UInt8) : UInt8 := l.getLast?.getD 32
def glue (acc p : List UInt8) : List UInt8 :=
  match p with
  | [] => acc
  | c :: t => if (regular (lastC acc) || decide (lastC acc = 47)) && regular c then acc ++ [32] ++ c :: t else acc ++ c :: t
def join (ps : List (List UInt8)) : List UInt8 := ps.foldl glue []
theorem join_snoc (ps : List (List UInt8)) (p : List UInt8) : join (ps ++ [p]) = glue (join ps) p := by simp [join]
theorem lastC_nil : lastC [] = 32 := rfl
theorem lastC_snoc (l : List UInt8) (c : UInt8) : lastC (l ++ [c]) = c := by simp [lastC]
theorem lastC_append (l m : List UInt8) (h : m ≠ []) : lastC (l ++ m) = lastC m := by
  unfold lastC
  rw [List.getLast?_append]
  cases hm : m.getLast? with
  | none => rw [List.getLast?_eq_none_iff] at hm; exact absurd hm h
  | some c => rfl
theorem lastC_glue (acc p : List UInt8) (h : p ≠ []) : lastC (glue acc p) = lastC p := by
  cases p with
  | nil => exact absurd rfl h
  | cons c t =>
    simp only [glue]
    split <;> rw [lastC_append _ _ h]
theorem glue_len (acc p : List UInt8) : (glue acc p).length ≤ acc.length + p.length + 1 := by
  cases p with
  | nil => simp [glue]
  | cons c t =>
    simp only [glue]
    split
    · simp
      omega
    · simp
theorem glue_nil (acc : List UInt8) : glue acc [] = acc := rfl
theorem glue_ne (acc p : List UInt8) (h : p ≠ []) : glue acc p ≠ [] := by
  cases p with
  | nil => exact absurd rfl h
  | cons c t => simp only [glue]; split <;> simp
theorem last_get (l : List UInt8) (h : l ≠ []) : l[l.length - 1]? = some (lastC l) := by
  rw [lastC, List.getLast?_eq_getElem?]
  have h0 : 0 < l.length := List.length_pos_iff.2 h
  rw [List.getElem?_eq_getElem (by omega)]; rfl
def tot (ps : List (List UInt8)) : Nat := (ps.map (fun p => p.length + 1)).sum
theorem tot_append (a b : List (List UInt8)) : tot (a ++ b) = tot a + tot b := by simp [tot]
theorem tot_take (ps : List (List UInt8)) (i : Nat) : tot (ps.take i) ≤ tot ps := by
  have := tot_append (ps.take i) (ps.drop i)
  rw [List.take_append_drop] at this; omega
theorem length_tot : ∀ ps : List (List UInt8), ps.length ≤ tot ps
  | [] => by simp
  | p :: ps => by have := length_tot ps; simp only [tot, List.map_cons, List.sum_cons, List.length_cons] at this ⊢; omega
theorem get_tot (ps : List (List UInt8)) (i : Nat) (h : i < ps.length) : tot (ps.take i) + ps[i].length + 1 ≤ tot ps := by
  have := tot_take ps (i + 1)
  rw [List.take_succ_eq_append_getElem h, tot_append] at this
  simp only [tot, List.map_cons, List.map_nil, List.sum_cons, List.sum_nil] at this ⊢; omega
theorem foldl_glue_len : ∀ (ps : List (List UInt8)) (acc : List UInt8), (ps.foldl glue acc).length ≤ acc.length + tot ps
  | [], acc => by simp [tot]
  | p :: ps, acc => by
    have h1 := foldl_glue_len ps (glue acc p)
    have h2 := glue_len acc p
    simp only [List.foldl_cons, tot, List.map_cons, List.sum_cons] at h1 ⊢; omega
theorem join_len (ps : List (List UInt8)) : (join ps).length ≤ tot ps := by have := foldl_glue_len ps []; simpa [join] using this
/- PAD -/
def pad (n k : Int) : List UInt8 := if n < 0 ∨ k < 1 ∨ 20 < k ∨ k < (Lib.itoa n).length then [] else List.replicate (k - (Lib.itoa n).length).toNat 48 ++ Lib.itoa n
end Pl
end Go.Proofs.YtfnpfbgnhncgpaaDoor
