/- Contracts: the reference's form and Read. -/
import Derived.Test.YtfnpfbgnhncgpaaDoorFixT
namespace Go.Proofs.YtfnpfbgnhncgpaaDoor
set_option linter.unusedVariables false
set_option linter.unusedSimpArgs false
set_option linter.defProp false
open Eng Go.RowKit
set_option linter.unusedVariables false
set_option linter.unusedSimpArgs false

theorem u8i (c : UInt8) (k : Nat) (d : UInt8) (hd : d.toNat = k) : ((c.toNat : Int) = (k : Int)) ↔ c = d := by
  rw [← UInt8.toNat_inj, hd]; omega

theorem form_ret (s : List UInt8) (w : World) (hs : s.length ≤ 4611686018427387904) : Ret Tryd.prog 71 #[.string ⟨s.toArray⟩] w
    (fun v w' => (∃ (a b : List UInt8) (m : Bool), v = .tuple #[.string ⟨a.toArray⟩, .string ⟨b.toArray⟩, .bool m, .bool (Fx.form s)] ∧ (Fx.form s = true → a = Fx.whole (Fx.body s) ∧ b = Fx.part (Fx.body s) ∧ m = Fx.minus s)) ∧ w = w') := by
  refine ret_of fun K hK => S_foliantref02_form_ok ?_
  unfold S_foliantref02_form
  simp only [s_len Tryd.underlying9, rs]
  by_cases h40 : (40 : Int) < (s.length : Int)
  · simp only [h40, decide_true, rs]
    have hf : Fx.form s = false := by rw [Fx.form, decide_eq_false (by omega), Bool.false_and, Bool.false_and, Bool.false_and]
    exact hK _ _ ⟨⟨[], [], false, by rw [hf], by rw [hf]; intro h; cases h⟩, rfl⟩
  · simp only [h40, decide_false, rs]
    have main : ∀ (l : List UInt8) (m : Bool), l = Fx.body s → m = Fx.minus s → l.length ≤ s.length → S_foliantref02_form_0 (.string ⟨l.toArray⟩) (.bool m) w K := by
      intro l m hl hm hls
      unfold S_foliantref02_form_0
      have hscan := Fx.scan_false l []
      refine loop (fun vs w' => ∃ (a b : List UInt8) (pt : Bool) (k : Nat), vs = [.string ⟨a.toArray⟩, .string ⟨b.toArray⟩, .bool pt, .int .i64 k] ∧ k ≤ l.length ∧ a.length + b.length ≤ k ∧ Fx.scan (l.drop k) a b pt = Fx.scan l [] [] false ∧ w = w')
        (fun vs _ => l.length - (intOf (vs.getD 3 undef)).toNat) ⟨[], [], false, 0, rfl, by omega, by simp, by simp, rfl⟩ ?_
      rintro vs w' ⟨a, b, pt, k, rfl, hk, hab, hsc, rfl⟩ _
      simp only [S_foliantref02_form_1, gd, s_len Tryd.underlying9, rs]
      by_cases hlt : k < l.length
      · have hlt' : (k : Int) < (l.length : Int) := by omega
        simp only [hlt', decide_true, rs]
        have hd : l.drop k = l[k] :: l.drop (k + 1) := (List.getElem_cons_drop hlt).symm
        have hg : l[(k : Int).toNat]? = some l[k] := by rw [Int.toNat_natCast]; exact List.getElem?_eq_getElem hlt
        rw [hd] at hsc
        generalize l[k] = c at *
        have hsl : ((l.drop (k : Int).toNat).take (((k : Int) + 1).toNat - (k : Int).toNat)) = [c] := by
          rw [Int.toNat_natCast, hd, show ((k : Int) + 1).toNat - k = 1 by omega]; rfl
        refine join fun J hJ => ?_
        have next : ∀ (a' b' : List UInt8) (pt' : Bool), a'.length + b'.length ≤ k + 1 → Fx.scan (l.drop (k + 1)) a' b' pt' = Fx.scan l [] [] false → J [.string ⟨a'.toArray⟩, .string ⟨b'.toArray⟩, .bool pt'] w := by
          intro a' b' pt' h1 h2
          refine hJ _ _ fun _ => ?_
          simp only [S_foliantref02_form_2, gd, rs]
          rw [wrap64_id (by omega) (by omega)]
          exact nextX ⟨a', b', pt', k + 1, by simp, by omega, h1, h2, rfl⟩ (by simp [intOf]; omega)
        simp only [s_ix Tryd.underlying9 (show (0 : Int) ≤ (k : Int) by omega) hg, rs]
        have rest : ¬ (c = 46 ∧ pt = false) → Fx.isDig c = true → IfX (.bool pt) (DoX Tryd.prog (mSlice 9 (.string ⟨l.toArray⟩) (some (.int .i64 k)) (some (.int .i64 (k + 1))) none) w (pk K) fun t61 ww =>
            DoX Tryd.prog (mBin .add 9 (.string ⟨b.toArray⟩) t61) ww (pk K) fun t62 ww =>
            J [.string ⟨a.toArray⟩, t62, .bool pt] ww) (DoX Tryd.prog (mSlice 9 (.string ⟨l.toArray⟩) (some (.int .i64 k)) (some (.int .i64 (k + 1))) none) w (pk K) fun t68 ww =>
            DoX Tryd.prog (mBin .add 9 (.string ⟨a.toArray⟩) t68) ww (pk K) fun t69 ww =>
            J [t69, .string ⟨b.toArray⟩, .bool pt] ww) := by
          intro hn hdg
          cases pt with
          | true =>
            simp only [rs]
            rw [s_slice Tryd.underlying9 (by omega) (by omega) (by omega), hsl, s_add (by simp; omega)]
            refine next a (b ++ [c]) true (by simp; omega) ?_
            rw [← hsc, Fx.scan, if_pos hdg]
          | false =>
            simp only [rs]
            rw [s_slice Tryd.underlying9 (by omega) (by omega) (by omega), hsl, s_add (by simp; omega)]
            refine next (a ++ [c]) b false (by simp; omega) ?_
            have hc : c ≠ 46 := fun e => hn ⟨e, rfl⟩
            rw [← hsc, Fx.scan, if_neg hc, if_pos hdg]
        have fail : Fx.scan l [] [] false = none → K (.returned (.tuple #[.string ⟨#[]⟩, .string ⟨#[]⟩, .bool false, .bool false])) w := by
          intro hno
          have hf : Fx.form s = false := by
            rw [hscan] at hno
            have hall : ((Fx.whole l).all Fx.isDig && (Fx.part l).all Fx.isDig) = false := by
              cases hh : ((Fx.whole l).all Fx.isDig && (Fx.part l).all Fx.isDig) with
              | false => rfl
              | true => rw [hh] at hno; cases hno
            rw [hl] at hall
            rw [Fx.form, Bool.and_assoc (decide _), hall, Bool.and_false, Bool.false_and]
          exact hK _ _ ⟨⟨[], [], false, by rw [hf], by rw [hf]; intro h; cases h⟩, rfl⟩
        by_cases hc : c = 46
        · subst hc
          simp only [show (((46 : UInt8).toNat : Nat) : Int) = 46 from rfl, decide_true, rs]
          cases pt with
          | false =>
            simp only [rs]
            refine next a b true (by omega) ?_
            rw [← hsc, Fx.scan, if_pos rfl]
          | true =>
            simp only [rs, show ((46 : Int) < 48) by omega, decide_true]
            refine fail ?_
            rw [← hsc, Fx.scan]; rfl
        · have hc' : ¬ ((c.toNat : Int) = 46) := fun e => hc ((u8i c 46 46 rfl).1 e)
          simp only [hc', decide_false, rs]
          by_cases hdg : Fx.isDig c = true
          · have hdb := Fx.isDig_bd hdg
            simp only [show ¬ ((c.toNat : Int) < 48) by omega, show ¬ ((57 : Int) < (c.toNat : Int)) by omega, decide_false, rs, s_ix Tryd.underlying9 (show (0 : Int) ≤ (k : Int) by omega) hg]
            rw [wrap64_id (by omega) (by omega)]
            exact rest (fun e => hc e.1) hdg
          · have hnd : Fx.scan l [] [] false = none := by
              rw [← hsc]
              cases pt with
              | true => rw [Fx.scan, if_neg hdg]
              | false => rw [Fx.scan, if_neg hc, if_neg hdg]
            have hdb : (c.toNat : Int) < 48 ∨ (57 : Int) < (c.toNat : Int) := by
              simp [Fx.isDig] at hdg; omega
            by_cases h48 : (c.toNat : Int) < 48
            · simp only [h48, decide_true, rs]; exact fail hnd
            · have h57 : (57 : Int) < (c.toNat : Int) := by omega
              simp only [h48, h57, decide_true, decide_false, rs, s_ix Tryd.underlying9 (show (0 : Int) ≤ (k : Int) by omega) hg]; exact fail hnd
      · have hlt' : ¬ (k : Int) < (l.length : Int) := by omega
        simp only [hlt', decide_false, rs]
        rw [wrap64_id (by omega) (by omega)]
        have hd : l.drop k = [] := List.drop_eq_nil_of_le (by omega)
        have he : Fx.scan [] a b pt = some (a, b) := by cases pt <;> rfl
        rw [hd, he, hscan] at hsc
        have hall : ((Fx.whole l).all Fx.isDig && (Fx.part l).all Fx.isDig) = true := by
          cases hh : ((Fx.whole l).all Fx.isDig && (Fx.part l).all Fx.isDig) with
          | true => rfl
          | false => rw [hh] at hsc; cases hsc
        rw [if_pos hall] at hsc
        simp only [List.nil_append, Option.some.injEq, Prod.mk.injEq] at hsc
        obtain ⟨rfl, rfl⟩ := hsc
        have hf : Fx.form s = decide ((0 : Int) < ((Fx.whole l).length : Int) + ((Fx.part l).length : Int)) := by
          rw [Fx.form, ← hl, Bool.and_assoc (decide _), hall, Bool.and_true, decide_eq_true (show s.length ≤ 40 by omega), Bool.true_and, decide_eq_decide]; omega
        exact hK _ _ ⟨⟨_, _, _, by rw [hf], fun _ => ⟨by rw [hl], by rw [hl], hm⟩⟩, rfl⟩
    refine join fun J hJ => ?_
    cases s with
    | nil =>
      simp only [ne_eq, not_true_eq_false, decide_false, rs, g_un]
      refine hJ _ _ fun _ => ?_
      exact main [] false rfl rfl (by simp)
    | cons c t =>
      have hix : (c :: t)[(0 : Int).toNat]? = some c := rfl
      simp only [ne_eq, reduceCtorEq, not_false_eq_true, decide_true, rs, s_ix Tryd.underlying9 (show (0 : Int) ≤ 0 by omega) hix]
      by_cases h43 : c = 43
      · subst h43
        simp only [show (((43 : UInt8).toNat : Nat) : Int) = 43 from rfl, show ¬ ((43 : Int) = 45) by omega, decide_true, decide_false, rs, s_ix Tryd.underlying9 (show (0 : Int) ≤ 0 by omega) hix]
        rw [s_from Tryd.underlying9 (by omega) (by simp; omega)]
        exact hJ _ _ fun _ => main t false rfl rfl (by simp)
      · have h43' : ¬ ((c.toNat : Int) = 43) := fun e => h43 ((u8i c 43 43 rfl).1 e)
        simp only [h43', decide_false, rs]
        by_cases h45 : c = 45
        · subst h45
          simp only [show (((45 : UInt8).toNat : Nat) : Int) = 45 from rfl, decide_true, rs, s_ix Tryd.underlying9 (show (0 : Int) ≤ 0 by omega) hix]
          rw [s_from Tryd.underlying9 (by omega) (by simp; omega)]
          exact hJ _ _ fun _ => main t true rfl rfl (by simp)
        · have h45' : ¬ ((c.toNat : Int) = 45) := fun e => h45 ((u8i c 45 45 rfl).1 e)
          simp only [h45', decide_false, rs, s_ix Tryd.underlying9 (show (0 : Int) ≤ 0 by omega) hix]
          refine hJ _ _ fun _ => ?_
          exact main (c :: t) false (by rw [Fx.body, if_neg (by simp [h43, h45])]) (by rw [Fx.minus, decide_eq_false h45]) (by simp)
end Go.Proofs.YtfnpfbgnhncgpaaDoor
