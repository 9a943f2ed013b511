/- The engine's soundness: what 'wpX' says of a body is a contract of the call. -/
import Derived.Test.YtfnpfbgnhncgpaaDoorEng
namespace Go.Proofs.YtfnpfbgnhncgpaaDoor
set_option linter.unusedVariables false
set_option linter.unusedSimpArgs false
set_option linter.defProp false
set_option linter.unusedSimpArgs false
set_option linter.unusedVariables false
namespace Eng
open Go.RowKit

theorem beq_self (n : Nat) : Nat.beq n n = true := by rw [Nat.beq_eq]
theorem beq_iff {a b : Nat} : Nat.beq a b = true ↔ a = b := by rw [Nat.beq_eq]
theorem mem_iff {i : Nat} : ∀ {l : List Nat}, mem i l = true ↔ i ∈ l
  | [] => by simp [mem]
  | j :: l => by simp [mem, mem_iff (l := l), beq_iff]

def Off (A : List Nat) (σ σ' : Sg) : Prop := ∀ i, mem i A = false → σ' i = σ i
theorem Off.refl (A : List Nat) (σ : Sg) : Off A σ σ := fun _ _ => rfl
theorem Off.trans {A : List Nat} {a b c : Sg} (h : Off A a b) (k : Off A b c) : Off A a c := fun i hi => (k i hi).trans (h i hi)
theorem Off.mono {A B : List Nat} {a b : Sg} (h : Off A a b) (hs : ∀ i, i ∈ A → i ∈ B) : Off B a b := fun i hi => h i (by
  cases hm : mem i A with
  | false => rfl
  | true =>
    have := mem_iff.2 (hs i (mem_iff.1 hm))
    rw [this] at hi; cases hi)
theorem Off.put {A : List Nat} (σ : Sg) (d : Option Nat) (v : Value) (h : ∀ i, d = some i → i ∈ A) : Off A σ (put σ d v) := by
  intro i hi
  cases d with
  | none => rfl
  | some d =>
    simp only [Eng.put, upd]
    cases hb : Nat.beq i d with
    | false => rfl
    | true =>
      have e := beq_iff.1 hb
      subst e
      rw [mem_iff.2 (h i rfl)] at hi; cases hi

theorem Cont.mono {K K' : Value → World → Prop} {PK PK' : List PanicEntry → World → Prop} (h : ∀ v w, K v w → K' v w) (hp : ∀ c w, PK c w → PK' c w) : ∀ e w, Cont K PK e w → Cont K' PK' e w
  | .returned v, w => h v w
  | .panicked c, w => hp c w
  | .outgrown, _ => id
theorem Upon.mono {P : Program} {r : Result Next} {K K' : Value → World → Prop} {PK PK' : List PanicEntry → World → Prop} (h : ∀ v w, K v w → K' v w) (hp : ∀ c w, PK c w → PK' c w) (hu : Upon P r K PK) : Upon P r K' PK' := by
  unfold Upon at *
  split at hu
  · exact h _ _ hu
  · exact h _ _ hu
  · exact ⟨Calls.mono hu.out (Cont.mono h hp)⟩
  · exact hp _ _ hu
  · exact hu.elim
theorem opV.mono {P : Program} {o : Oper} {σ : Sg} {w : World} {K K' : Value → World → Prop} {PK PK' : List PanicEntry → World → Prop} (h : ∀ v w, K v w → K' v w) (hp : ∀ c w, PK c w → PK' c w) (hu : opV P o σ w K PK) : opV P o σ w K' PK' := by
  unfold opV at *
  split at hu
  · exact h _ _ hu
  · exact h _ _ hu
  · cases hb : plainB P _ with
    | true => rw [hb, bc_true] at hu; rw [bc_true]; exact ⟨Calls.mono hu.out (Cont.mono h hp)⟩
    | false => rw [hb, bc_false] at hu; rw [bc_false]; exact ⟨Upon.mono h hp hu.out⟩
  · exact hu.elim
  · exact ⟨Upon.mono h hp hu.out⟩

/-- More is known at the end, and of the slots that are not written. -/
theorem opsX.strong {P : Program} {n : Nat} {ops : Array Oper} {K K' : Nx} {PK PK' : List PanicEntry → Nx} {A : List Nat} {σ₀ : Sg}
    (h : ∀ σ ds w, Off A σ₀ σ → K σ ds w → K' σ ds w) (hp : ∀ c σ ds w, Off A σ₀ σ → PK c σ ds w → PK' c σ ds w) :
    ∀ (l : List Oper) (σ : Sg) (ds : List Deferred) (w : World), (∀ i, i ∈ dsts l → i ∈ A) → Off A σ₀ σ → opsX P n ops K PK l σ ds w → opsX P n ops K' PK' l σ ds w := by
  intro l
  induction l with
  | nil => intro σ ds w _ ho hu; exact h _ _ _ ho hu
  | cons o rest ih =>
    intro σ ds w hA ho hu
    have hA' : ∀ i, i ∈ dsts rest → i ∈ A := fun i hi => hA i (by unfold dsts; split <;> simp [hi])
    have hput : ∀ v, Off A σ₀ (put σ o.dst v) := fun v => ho.trans (Off.put σ o.dst v (fun i hi => hA i (by simp [dsts, hi])))
    unfold opsX at hu ⊢
    cases hd : inB n o.dst with
    | false => rw [hd, bc_false] at hu; exact hu.elim
    | true =>
      rw [hd, bc_true] at hu; rw [bc_true]
      cases hg : o.guard with
      | none =>
        simp only [hg] at hu ⊢
        split at hu
        · rename_i c hc
          split at hu
          · exact ih _ _ _ hA' (hput _) hu
          · obtain ⟨d, hdf, hu⟩ := hu.out
            exact ⟨d, hdf, ih _ _ _ hA' (hput _) hu⟩
        · rename_i hnd
          exact opV.mono (fun v w hk => ih _ _ _ hA' (hput v) hk) (fun c w hk => hp c σ ds w ho hk) hu
      | some jw =>
        obtain ⟨j, want⟩ := jw
        simp only [hg] at hu ⊢
        split at hu
        · rename_i d hj
          cases hdn : Nat.blt d n with
          | false => rw [hdn, bc_false] at hu; exact hu.elim
          | true =>
            rw [hdn, bc_true] at hu; rw [bc_true]
            refine ⟨?_⟩
            replace hu := hu.out
            cases hwv : wants (σ d) want with
            | true => rw [hwv, bc_true] at hu; rw [bc_true]; exact opV.mono (fun v w hk => ih _ _ _ hA' (hput v) hk) (fun c w hk => hp c σ ds w ho hk) hu
            | false => rw [hwv, bc_false] at hu; rw [bc_false]; exact ih _ _ _ hA' (hput _) hu
        · exact hu.elim

theorem opQ.mono {P : Program} {C : World → Prop} {o : Oper} {σ : Sg} {K K' : Value → Prop} (h : ∀ v, K v → K' v) (hu : opQ P C o σ K) : opQ P C o σ K' := by
  unfold opQ at *
  split at hu
  · exact h _ hu
  · exact h _ hu
  · cases hb : plainB P _ with
    | true => rw [hb, bc_true] at hu; rw [bc_true]; exact let ⟨v, a, b⟩ := hu.out; ⟨v, a, h _ b⟩
    | false => rw [hb, bc_false] at hu; rw [bc_false]; exact let ⟨v, a, b⟩ := hu.out; ⟨v, a, h _ b⟩
  · exact let ⟨v, a, b⟩ := hu.out; ⟨v, a, h _ b⟩
theorem quietX.strong {P : Program} {n : Nat} {ops : Array Oper} {C : World → Prop} {K K' : Sg → Prop} {A : List Nat} {σ₀ : Sg}
    (h : ∀ σ, Off A σ₀ σ → K σ → K' σ) :
    ∀ (l : List Oper) (σ : Sg), (∀ i, i ∈ dsts l → i ∈ A) → Off A σ₀ σ → quietX P n ops C K l σ → quietX P n ops C K' l σ := by
  intro l
  induction l with
  | nil => intro σ _ ho hu; exact h _ ho hu
  | cons o rest ih =>
    intro σ hA ho hu
    have hA' : ∀ i, i ∈ dsts rest → i ∈ A := fun i hi => hA i (by unfold dsts; split <;> simp [hi])
    have hput : ∀ v, Off A σ₀ (put σ o.dst v) := fun v => ho.trans (Off.put σ o.dst v (fun i hi => hA i (by simp [dsts, hi])))
    unfold quietX at hu ⊢
    cases hd : inB n o.dst with
    | false => rw [hd, bc_false] at hu; exact hu.elim
    | true =>
      rw [hd, bc_true] at hu; rw [bc_true]
      cases hg : o.guard with
      | none =>
        simp only [hg] at hu ⊢
        exact opQ.mono (fun v hk => ih _ hA' (hput v) hk) hu
      | some jw =>
        obtain ⟨j, want⟩ := jw
        simp only [hg] at hu ⊢
        split at hu
        · rename_i d hj
          cases hdn : Nat.blt d n with
          | false => rw [hdn, bc_false] at hu; exact hu.elim
          | true =>
            rw [hdn, bc_true] at hu; rw [bc_true]
            refine ⟨?_⟩
            replace hu := hu.out
            cases hwv : wants (σ d) want with
            | true => rw [hwv, bc_true] at hu; rw [bc_true]; exact opQ.mono (fun v hk => ih _ hA' (hput v) hk) hu
            | false => rw [hwv, bc_false] at hu; rw [bc_false]; exact ih _ hA' (hput _) hu
        · exact hu.elim

theorem mem_dsts {i : Nat} : ∀ {l : List Oper}, i ∈ dsts l ↔ ∃ o, o ∈ l ∧ o.dst = some i
  | [] => by simp [dsts]
  | o :: l => by
    unfold dsts
    split
    · rename_i d hd
      simp only [List.mem_cons, mem_dsts (l := l)]
      constructor
      · rintro (rfl | ⟨o', h1, h2⟩)
        · exact ⟨o, .inl rfl, hd⟩
        · exact ⟨o', .inr h1, h2⟩
      · rintro ⟨o', rfl | h1, h2⟩
        · rw [hd] at h2; cases h2; exact .inl rfl
        · exact .inr ⟨o', h1, h2⟩
    · rename_i hd
      simp only [List.mem_cons, mem_dsts (l := l)]
      constructor
      · rintro ⟨o', h1, h2⟩; exact ⟨o', .inr h1, h2⟩
      · rintro ⟨o', rfl | h1, h2⟩
        · rw [hd] at h2; cases h2
        · exact ⟨o', h1, h2⟩
theorem mvL_mem (l : List Oper) : ∀ (k : Nat) (ms : List Nat) (p : Nat × Oper), p ∈ mvL l k ms → k ≤ p.1 ∧ l[p.1 - k]? = some p.2 := by
  induction l with
  | nil => intro k ms p h; cases h
  | cons o l ih =>
    intro k ms p h
    unfold mvL at h
    cases hc : (isMv o && afterIn ms o) with
    | true =>
      rw [hc, bc_true] at h
      rcases List.mem_cons.1 h with rfl | h
      · exact ⟨Nat.le_refl _, by simp⟩
      · obtain ⟨h1, h2⟩ := ih (k + 1) _ p h
        refine ⟨by omega, ?_⟩
        rw [show p.1 - k = (p.1 - (k + 1)) + 1 by omega]; exact h2
    | false =>
      rw [hc, bc_false] at h
      obtain ⟨h1, h2⟩ := ih (k + 1) _ p h
      refine ⟨by omega, ?_⟩
      rw [show p.1 - k = (p.1 - (k + 1)) + 1 by omega]; exact h2
theorem hdL_mem (l : List Oper) : ∀ (k : Nat) (ms : List Nat) (p : Nat × Oper), p ∈ hdL l k ms → k ≤ p.1 ∧ l[p.1 - k]? = some p.2 := by
  induction l with
  | nil => intro k ms p h; cases h
  | cons o l ih =>
    intro k ms p h
    unfold hdL at h
    cases hc : (isMv o && afterIn ms o) with
    | false =>
      rw [hc, bc_false] at h
      rcases List.mem_cons.1 h with rfl | h
      · exact ⟨Nat.le_refl _, by simp⟩
      · obtain ⟨h1, h2⟩ := ih (k + 1) _ p h
        refine ⟨by omega, ?_⟩
        rw [show p.1 - k = (p.1 - (k + 1)) + 1 by omega]; exact h2
    | true =>
      rw [hc, bc_true] at h
      obtain ⟨h1, h2⟩ := ih (k + 1) _ p h
      refine ⟨by omega, ?_⟩
      rw [show p.1 - k = (p.1 - (k + 1)) + 1 by omega]; exact h2
theorem mem_snds {o : Oper} : ∀ {l : List (Nat × Oper)}, o ∈ snds l → ∃ p, p ∈ l ∧ p.2 = o
  | [], h => by cases h
  | p :: l, h => by
    rcases List.mem_cons.1 h with rfl | h
    · exact ⟨p, by simp, rfl⟩
    · obtain ⟨q, h1, h2⟩ := mem_snds h
      exact ⟨q, by simp [h1], h2⟩
theorem takeX_off {A : List Nat} {σ₀ : Sg} (ms : List (Nat × Oper)) : ∀ (σ : Sg), (∀ p, p ∈ ms → ∀ i, p.2.dst = some i → i ∈ A) → Off A σ₀ σ → Off A σ₀ (takeX ms σ) := by
  induction ms with
  | nil => intro σ _ h; exact h
  | cons p r ih =>
    intro σ hA h
    exact ih _ (fun q hq => hA q (by simp [hq])) (h.trans (Off.put σ p.2.dst _ (fun i hi => hA p (by simp) i hi)))
theorem pmX_strong {A : List Nat} {σ₀ : Sg} {K K' : Nx} (h : ∀ σ ds w, Off A σ₀ σ → K σ ds w → K' σ ds w) (ms : List (Nat × Oper)) : ∀ (σ : Sg) (ds : List Deferred) (w : World), (∀ p, p ∈ ms → ∀ i, p.2.dst = some i → i ∈ A) → Off A σ₀ σ → pmX ms K σ ds w → pmX ms K' σ ds w := by
  induction ms with
  | nil => intro σ ds w _ ho hk; exact h _ _ _ ho hk
  | cons p r ih =>
    intro σ ds w hA ho hk u
    exact ih _ _ _ (fun q hq => hA q (by simp [hq])) (ho.trans (Off.put σ p.2.dst _ (fun i hi => hA p (by simp) i hi))) (hk u)
theorem mix_off {σ : Sg} {A ls : List Nat} {vs : List Value} {j : Sg} : Off A σ (mix σ A ls vs j) := by
  intro i hi
  simp [mix, hi]

theorem blockQ_exit {id j : Nat} {Q : Ex} {σ : Sg} {ds : List Deferred} {w : World} : blockQ id Q (.exit j) σ ds w = bc (Nat.beq j id) (Q .normal σ ds w) (Q (.exit j) σ ds w) := rfl
/-- Both at once: weakening, and that the slots outside 'asg c' stand. -/
theorem wpX.strong {P : Program} {n : Nat} {aj al : List (Nat × List Nat)} : ∀ (c : Code) (Q Q' : Ex) (A : List Nat) (σ₀ : Sg),
    (∀ i, i ∈ asg c → i ∈ A) → (∀ e σ ds w, Off A σ₀ σ → Q e σ ds w → Q' e σ ds w) →
    ∀ (σ : Sg) (ds : List Deferred) (w : World), Off A σ₀ σ → wpX P n aj al c Q σ ds w → wpX P n aj al c Q' σ ds w := by
  intro c
  induction c with
  | skip => intro Q Q' A σ₀ hA h σ ds w ho hu; exact h _ _ _ _ ho hu
  | region id ops draw =>
    intro Q Q' A σ₀ hA h σ ds w ho hu
    unfold wpX at hu ⊢
    cases draw with
    | true =>
      rw [bc_true] at hu ⊢
      cases hh : Nat.beq (headLen P ops.toList) ops.toList.length with
      | true =>
        rw [hh, bc_true] at hu
        rw [bc_true]
        cases hb : (P.follows .mixedOrders && Region.lexB .any ops) with
        | false => rw [hb, bc_false] at hu; exact hu.elim
        | true =>
          rw [hb, bc_true] at hu
          rw [bc_true]
          refine ⟨?_⟩
          replace hu := hu.out
          exact quietX.strong (fun σ' ho' hk w' hw' => h _ _ _ _ ho' (hk w' hw')) _ _ hA ho hu
      | false =>
        rw [hh, bc_false] at hu
        rw [bc_false]
        cases hb : (P.follows .mixedOrders && Region.lexTailB .any ops (headLen P ops.toList)) with
        | false =>
          rw [hb, bc_false] at hu
          rw [bc_false]
          clear hb
          have hm0 := mvL_mem (ops.toList.take (headLen P ops.toList)) 0 []
          have hh0 := hdL_mem (ops.toList.take (headLen P ops.toList)) 0 []
          generalize mvL (ops.toList.take (headLen P ops.toList)) 0 [] = ms at *
          generalize hdL (ops.toList.take (headLen P ops.toList)) 0 [] = hs at *
          cases hb : (P.follows .mixedOrders && (movesB ops (headLen P ops.toList) ms hs && inBs n ms)) with
          | false => rw [hb, bc_false] at hu; exact hu.elim
          | true =>
            rw [hb, bc_true] at hu
            rw [bc_true]
            refine ⟨?_⟩
            replace hu := hu.out
            have hAm : ∀ p, p ∈ ms → ∀ i, p.2.dst = some i → i ∈ A := fun p hp i hi =>
              hA i (mem_dsts.2 ⟨p.2, List.mem_of_mem_take (List.mem_of_getElem? (hm0 p hp).2), hi⟩)
            have hAh : ∀ i, i ∈ dsts (snds hs) → i ∈ A := fun i hi => by
              obtain ⟨o, ho, hd⟩ := mem_dsts.1 hi
              obtain ⟨p, hp, rfl⟩ := mem_snds ho
              exact hA i (mem_dsts.2 ⟨p.2, List.mem_of_mem_take (List.mem_of_getElem? (hh0 p hp).2), hd⟩)
            have hAt : ∀ i, i ∈ dsts (ops.toList.drop (headLen P ops.toList)) → i ∈ A := fun i hi => by
              obtain ⟨o, ho, hd⟩ := mem_dsts.1 hi
              exact hA i (mem_dsts.2 ⟨o, List.mem_of_mem_drop ho, hd⟩)
            refine quietX.strong (fun σ' ho' hk w' hw' => ?_) _ _ hAh (takeX_off ms _ hAm ho) hu
            exact opsX.strong (fun σ ds w ho hk => h _ _ _ _ ho hk) (fun c σ ds w ho hk => pmX_strong (fun σ ds w ho hk => h _ _ _ _ ho hk) ms _ _ _ hAm ho hk) _ _ _ _ hAt ho' (hk w' hw')
        | true =>
          rw [hb, bc_true] at hu
          rw [bc_true]
          refine ⟨?_⟩
          replace hu := hu.out
          have hsub : ∀ l l' : List Oper, (∀ o, o ∈ l → o ∈ l') → ∀ i, i ∈ dsts l → i ∈ dsts l' := by
            intro l l' hl i hi
            rw [mem_dsts] at hi ⊢
            obtain ⟨o, ho, hd⟩ := hi
            exact ⟨o, hl o ho, hd⟩
          refine quietX.strong (fun σ' ho' hk w' hw' => ?_) _ _ (fun i hi => hA i (hsub _ _ (fun o ho => List.mem_of_mem_take ho) i hi)) ho hu
          exact opsX.strong (fun σ ds w ho hk => h _ _ _ _ ho hk) (fun c σ ds w ho hk => h _ _ _ _ ho hk) _ _ _ _ (fun i hi => hA i (hsub _ _ (fun o ho => List.mem_of_mem_drop ho) i hi)) ho' (hk w' hw')
    | false =>
      rw [bc_false] at hu ⊢
      exact opsX.strong (fun σ ds w ho hk => h _ _ _ _ ho hk) (fun c σ ds w ho hk => h _ _ _ _ ho hk) _ _ _ _ hA ho hu
  | seq a b iha ihb =>
    intro Q Q' A σ₀ hA h σ ds w ho hu
    have hAa : ∀ i, i ∈ asg a → i ∈ A := fun i hi => hA i (by simp [asg, hi])
    have hAb : ∀ i, i ∈ asg b → i ∈ A := fun i hi => hA i (by simp [asg, hi])
    unfold wpX at hu ⊢
    cases hw : Nat.ble (ways a) 1 with
    | true =>
      rw [hw, bc_true] at hu; rw [bc_true]
      refine iha _ _ A σ₀ hAa ?_ σ ds w ho hu
      intro e σ' ds' w' ho' hk
      cases e with
      | normal => exact ihb _ _ A σ₀ hAb h σ' ds' w' ho' hk
      | _ => exact h _ _ _ _ ho' hk
    | false =>
      rw [hw, bc_false] at hu; rw [bc_false]
      refine ⟨fun J hJ => ?_⟩
      have hu' := hu.out J (fun vs w' hr => hJ vs w' (fun j => by
        refine ihb _ _ A σ₀ hAb h _ _ _ (ho.trans (mix_off.mono hAa)) (hr j)))
      refine iha _ _ A σ₀ hAa ?_ σ ds w ho hu'
      intro e σ' ds' w' ho' hk
      cases e with
      | normal => exact hk
      | _ => exact h _ _ _ _ ho' hk
  | cond c a b iha ihb =>
    intro Q Q' A σ₀ hA h σ ds w ho hu
    have hAa : ∀ i, i ∈ asg a → i ∈ A := fun i hi => hA i (by simp [asg, hi])
    have hAb : ∀ i, i ∈ asg b → i ∈ A := fun i hi => hA i (by simp [asg, hi])
    unfold wpX at hu ⊢
    refine ⟨?_⟩
    replace hu := hu.out
    split at hu
    · exact ⟨fun hb => iha _ _ A σ₀ hAa h σ ds w ho (hu.1 hb), fun hb => ihb _ _ A σ₀ hAb h σ ds w ho (hu.2 hb)⟩
    · exact hu.elim
  | block id a iha =>
    intro Q Q' A σ₀ hA h σ ds w ho hu
    unfold wpX at hu ⊢
    refine iha _ _ A σ₀ hA ?_ σ ds w ho hu
    intro e σ' ds' w' ho' hk
    cases e with
    | exit j =>
      rw [blockQ_exit] at hk ⊢
      cases hb : Nat.beq j id with
      | true => rw [hb, bc_true] at hk; exact h _ _ _ _ ho' hk
      | false => rw [hb, bc_false] at hk; exact h _ _ _ _ ho' hk
    | _ => exact h _ _ _ _ ho' hk
  | loop a iha =>
    intro Q Q' A σ₀ hA h σ ds w ho hu
    unfold wpX at hu ⊢
    obtain ⟨I, μ, h0, hs⟩ := hu.out
    refine ⟨I, μ, h0, fun vs w hI j => ?_⟩
    refine iha _ _ A σ₀ hA ?_ _ ds w (ho.trans (mix_off.mono hA)) (hs vs w hI j)
    intro e σ' ds' w' ho' hk
    cases e with
    | normal => exact hk
    | _ => exact h _ _ _ _ ho' hk
  | exit id => intro Q Q' A σ₀ hA h σ ds w ho hu; exact h _ _ _ _ ho hu
  | ret => intro Q Q' A σ₀ hA h σ ds w ho hu; exact h _ _ _ _ ho hu
  | rangeFunc f p x y _ _ => intro Q Q' A σ₀ hA h σ ds w ho hu; exact hu.elim
  | scope a _ => intro Q Q' A σ₀ hA h σ ds w ho hu; exact hu.elim
  | label l => intro Q Q' A σ₀ hA h σ ds w ho hu; exact hu.elim
  | goto l => intro Q Q' A σ₀ hA h σ ds w ho hu; exact hu.elim
  | refuse y => intro Q Q' A σ₀ hA h σ ds w ho hu; exact hu.elim

theorem pick_pos {σ : Sg} : ∀ {ls : List Nat} {i k : Nat}, pos i ls = some k → (pick ls σ).getD k undef = σ i
  | [], i, k, h => by cases h
  | j :: l, i, k, h => by
    unfold pos at h
    cases hb : Nat.beq i j with
    | true => rw [hb, bc_true] at h; cases h; rw [beq_iff.1 hb]; rfl
    | false =>
      rw [hb, bc_false] at h
      cases hp : pos i l with
      | none => rw [hp] at h; cases h
      | some m => rw [hp] at h; cases h; simpa [pick] using pick_pos hp
/-- A state is its own mixture. -/
theorem mix_self {σ σ' : Sg} {A ls : List Nat} (h : Off A σ σ') : mix σ A ls (pick ls σ') σ' = σ' := by
  funext i
  unfold mix
  cases hm : mem i A with
  | false => rw [bc_false]; exact (h i hm).symm
  | true =>
    rw [bc_true]
    split
    · rename_i k hk; exact pick_pos hk
    · rfl

def liftE (n : Nat) (Q : Ex) (e : Exit) (a : Act) (w : World) : Prop := ∃ σ, Rep n σ a.tmps ∧ Q e σ a.defers w

theorem upd_upd (σ : Sg) (d : Option Nat) (x u : Value) : put (put σ d x) d u = put σ d u := by
  cases d with
  | none => rfl
  | some d =>
    funext i
    simp only [put, upd]
    cases Nat.beq i d <;> rfl
def slotV (σ : Sg) : Option Nat → Value
  | some i => σ i
  | none => undef
theorem put_self (σ : Sg) (d : Option Nat) : put σ d (slotV σ d) = σ := by
  cases d with
  | none => rfl
  | some d =>
    funext i
    simp only [put, upd]
    cases h : Nat.beq i d with
    | true => have := Nat.eq_of_beq_eq_true h; subst this; rfl
    | false => rfl
theorem pmX_elim {K : Nx} : ∀ (ms : List (Nat × Oper)) {σ : Sg} {ds : List Deferred} {w : World}, pmX ms K σ ds w → K σ ds w
  | [], _, _, _, h => h
  | p :: r, σ, ds, w, h => by
    have h' := pmX_elim r (h (slotV σ p.2.dst))
    rwa [put_self] at h'
theorem put_swap (σ : Sg) {d e : Option Nat} (x u : Value) (h : d ≠ e) : put (put σ e x) d u = put (put σ d u) e x := by
  cases d with
  | none => rfl
  | some i =>
    cases e with
    | none => rfl
    | some j =>
      have hij : i ≠ j := fun hh => h (by rw [hh])
      funext k
      simp only [put, upd]
      cases h1 : Nat.beq k i with
      | true =>
        have := Nat.eq_of_beq_eq_true h1
        subst this
        have h2 : Nat.beq k j = false := by
          cases h3 : Nat.beq k j with
          | false => rfl
          | true => exact absurd (Nat.eq_of_beq_eq_true h3) hij
        rw [h2]
      | false => cases Nat.beq k j <;> rfl
theorem pmX_put {K : Nx} (x : Value) (p : Nat × Oper) (ms : List (Nat × Oper)) : ∀ {σ : Sg} {ds : List Deferred} {w : World}, p ∈ ms → pmX ms K σ ds w → pmX ms K (put σ p.2.dst x) ds w := by
  induction ms with
  | nil => intro σ ds w hp _; cases hp
  | cons q r ih =>
    intro σ ds w hp h u
    by_cases e : q.2.dst = p.2.dst
    · have hh : pmX r K (put σ p.2.dst u) ds w := by rw [← e]; exact h u
      rw [e, upd_upd]; exact hh
    · rcases List.mem_cons.1 hp with rfl | hp
      · exact absurd rfl e
      · rw [put_swap σ x u e]
        exact ih hp (h u)
theorem take_get {l : List Oper} {n k : Nat} {o : Oper} (h : (l.take n)[k - 0]? = some o) : l.toArray[k]? = some o := by
  rw [Nat.sub_zero, List.getElem?_take] at h
  split at h
  · simpa using h
  · cases h
theorem takeX_rep {n : Nat} : ∀ (ms : List (Nat × Oper)) (σ : Sg) (a : Act), inBs n ms = true → Rep n σ a.tmps → Rep n (takeX ms σ) (takeAll ms a).tmps ∧ (takeAll ms a).defers = a.defers
  | [], σ, a, _, h => ⟨h, rfl⟩
  | p :: r, σ, a, hb, h => by
    simp only [inBs, Bool.and_eq_true] at hb
    have e : mvX p.2 σ = mvVal p.2 a := by
      unfold mvX mvVal
      rw [h.eval]
      generalize p.2.op = x
      cases x <;> rfl
    obtain ⟨h1, h2⟩ := takeX_rep r (put σ p.2.dst (mvX p.2 σ)) (a.put p.2.dst (mvX p.2 σ)) hb.2 (h.put hb.1 _)
    unfold takeX
    rw [show takeAll (p :: r) a = takeAll r (a.put p.2.dst (mvVal p.2 a)) from rfl, ← e]
    exact ⟨h1, h2.trans (by cases p.2.dst <;> rfl)⟩

theorem wpX_sound {P : Program} {n : Nat} {aj al : List (Nat × List Nat)} : ∀ (c : Code) (Q : Ex) (σ : Sg) (a : Act) (w : World), Rep n σ a.tmps → wpX P n aj al c Q σ a.defers w → c.wp P (liftE n Q) a w := by
  intro c
  induction c with
  | skip => intro Q σ a w hr h; exact wp_skip ⟨σ, hr, h⟩
  | exit id => intro Q σ a w hr h; exact wp_exit ⟨σ, hr, h⟩
  | ret => intro Q σ a w hr h; exact wp_ret ⟨σ, hr, h⟩
  | region id ops draw =>
    intro Q σ a w hr h
    unfold wpX at h
    cases draw with
    | false =>
      rw [bc_false] at h
      refine wp_region_list (opsX_sound (K := fun σ ds w => Q .normal σ ds w) (PK := fun c σ ds w => Q (.panic c) σ ds w) ?_ ?_ _ σ a w hr h)
      · rintro c a w ⟨σ, hr, h⟩; exact ⟨σ, hr, h⟩
      · rintro a w ⟨σ, hr, h⟩; exact ⟨σ, hr, h⟩
    | true =>
      rw [bc_true] at h
      cases hh : Nat.beq (headLen P ops.toList) ops.toList.length with
      | true =>
        rw [hh, bc_true] at h
        cases hb : (P.follows .mixedOrders && Region.lexB .any ops) with
        | false => rw [hb, bc_false] at h; exact h.elim
        | true =>
          rw [hb, bc_true] at h
          simp only [Bool.and_eq_true] at hb
          refine wp_region_quiet (C := Below w.heap.size w) hb.1 hb.2 ((Below.refl _ _).drew) ?_
          replace h := h.out
          refine quietX_sound (ds := a.defers) (K := fun σ => ∀ w', Below w.heap.size w w' → Q .normal σ a.defers w') ?_ _ σ a hr rfl h
          intro σ' a' hr' hds hk w' hw'
          exact ⟨σ', hr', by rw [hds]; exact hk w' hw'⟩
      | false =>
        rw [hh, bc_false] at h
        cases hb : (P.follows .mixedOrders && Region.lexTailB .any ops (headLen P ops.toList)) with
        | false =>
          rw [hb, bc_false] at h
          clear hb
          have hm0 := mvL_mem (ops.toList.take (headLen P ops.toList)) 0 []
          have hh0 := hdL_mem (ops.toList.take (headLen P ops.toList)) 0 []
          generalize mvL (ops.toList.take (headLen P ops.toList)) 0 [] = ms at *
          generalize hdL (ops.toList.take (headLen P ops.toList)) 0 [] = hs at *
          cases hb : (P.follows .mixedOrders && (movesB ops (headLen P ops.toList) ms hs && inBs n ms)) with
          | false => rw [hb, bc_false] at h; exact h.elim
          | true =>
            rw [hb, bc_true] at h
            simp only [Bool.and_eq_true] at hb
            obtain ⟨hb1, hb2, hb3⟩ := hb
            replace h := h.out
            have harr : ops.toList.toArray = ops := by simp
            obtain ⟨hr1, hd1⟩ := takeX_rep ms σ a hb3 hr
            have key := wp_region_moves_tail (P := P) (id := id) (Q := liftE n Q) (Q' := fun e a w => match e with
                | .panic c => liftN n (pmX ms (fun σ ds w => Q (.panic c) σ ds w)) a w
                | e => liftE n Q e a w) (a := a) (w := w) (l := ops.toList) (C := Below w.heap.size w) (headLen P ops.toList) ms hs hb1 (by rw [harr]; exact hb2) ((Below.refl _ _).drew)
              (fun p hp => take_get (hm0 p hp).2) (fun p hp => take_get (hh0 p hp).2)
              (fun e a w he => by
                cases e <;> first | exact he | skip
                obtain ⟨σ, hr, h⟩ := he
                exact ⟨σ, hr, pmX_elim ms h⟩)
              (fun p hp v c a w he => by
                obtain ⟨σ', hr', h'⟩ := he
                have hin : inB n p.2.dst = true := by
                  have : ∀ l : List (Nat × Oper), inBs n l = true → p ∈ l → inB n p.2.dst = true := by
                    intro l
                    induction l with
                    | nil => intro _ h; cases h
                    | cons q l ih =>
                      intro h1 h2
                      simp only [inBs, Bool.and_eq_true] at h1
                      rcases List.mem_cons.1 h2 with rfl | h2
                      · exact h1.1
                      · exact ih h1.2 h2
                  exact this ms hb3 hp
                cases hd : p.2.dst with
                | none => rw [hd] at hr' h'; exact ⟨σ', hr', h'⟩
                | some i =>
                  rw [hd] at hr' h' hin
                  refine ⟨put σ' (some i) (a.tmps.getD i undef), ?_, ?_⟩
                  · have := Rep.put (a := a.put (some i) v) hr' hin (a.tmps.getD i undef)
                    have e2 : ((a.put (some i) v).put (some i) (a.tmps.getD i undef)).tmps = a.tmps := by
                      have hi : i < a.tmps.size := by
                        have h3 : a.tmps.size = n := by have := hr'.size; simpa [Act.put] using this
                        have h4 : i < n := by simpa [inB, Nat.blt_eq] using hin
                        rw [h3]; exact h4
                      simp only [Act.put]
                      apply Array.ext_getElem?
                      intro j
                      by_cases hij : i = j
                      · subst hij; simp [hi]
                      · rw [Array.getElem?_setIfInBounds_ne hij, Array.getElem?_setIfInBounds_ne hij]
                    rwa [e2] at this
                  · have := pmX_put (K := fun σ ds w => Q (.panic c) σ ds w) (a.tmps.getD i undef) p ms hp h'
                    rw [hd] at this
                    exact this) (by
              rw [harr]
              refine quietX_sound (ds := a.defers) (K := fun σ => ∀ w', Below w.heap.size w w' → opsX P n ops (fun σ ds w => Q .normal σ ds w) (fun c => pmX ms (fun σ ds w => Q (.panic c) σ ds w)) (ops.toList.drop (headLen P ops.toList)) σ a.defers w') ?_ _ (takeX ms σ) (takeAll ms a) hr1 hd1 h
              intro σ' a' hr' hds hk w' hw'
              refine opsX_sound (K := fun σ ds w => Q .normal σ ds w) (PK := fun c => pmX ms (fun σ ds w => Q (.panic c) σ ds w)) ?_ ?_ _ σ' a' w' hr' (by rw [hds]; exact hk w' hw')
              · rintro c a w h; exact h
              · rintro a w ⟨σ, hr, h⟩; exact ⟨σ, hr, h⟩)
            rw [harr] at key
            exact key
        | true =>
          rw [hb, bc_true] at h
          simp only [Bool.and_eq_true] at hb
          replace h := h.out
          have harr : ops.toList.toArray = ops := by simp
          have key := wp_region_quiet_tail (P := P) (id := id) (Q := liftE n Q) (a := a) (w := w) (l := ops.toList) (C := Below w.heap.size w) (headLen P ops.toList) hb.1 (by rw [harr]; exact hb.2) ((Below.refl _ _).drew) (by
            rw [harr]
            refine quietX_sound (ds := a.defers) (K := fun σ => ∀ w', Below w.heap.size w w' → opsX P n ops (fun σ ds w => Q .normal σ ds w) (fun c σ ds w => Q (.panic c) σ ds w) (ops.toList.drop (headLen P ops.toList)) σ a.defers w') ?_ _ σ a hr rfl h
            intro σ' a' hr' hds hk w' hw'
            refine opsX_sound (K := fun σ ds w => Q .normal σ ds w) (PK := fun c σ ds w => Q (.panic c) σ ds w) ?_ ?_ _ σ' a' w' hr' (by rw [hds]; exact hk w' hw')
            · rintro c a w ⟨σ, hr, h⟩; exact ⟨σ, hr, h⟩
            · rintro a w ⟨σ, hr, h⟩; exact ⟨σ, hr, h⟩)
          rw [harr] at key
          exact key
  | seq x y ihx ihy =>
    intro Q σ a w hr h
    unfold wpX at h
    refine wp_seq ?_
    cases hw : Nat.ble (ways x) 1 with
    | true =>
      rw [hw, bc_true] at h
      refine Code.wp_mono ?_ (ihx _ σ a w hr h)
      rintro e a' w' ⟨σ', hr', hk⟩
      cases e with
      | normal => exact ihy _ σ' a' w' hr' hk
      | _ => exact ⟨σ', hr', hk⟩
    | false =>
      rw [hw, bc_false] at h
      have h' := h.out (fun vs w' => ∀ j, wpX P n aj al y Q (mix σ (asg x) (look (keyOf y) aj) vs j) a.defers w') (fun _ _ hr => hr)
      have h'' := wpX.strong x _ (fun e σ' ds' w' => Off (asg x) σ σ' ∧ thenQ Q (fun σ' ds' w' => AtX ds' a.defers (∀ j, wpX P n aj al y Q (mix σ (asg x) (look (keyOf y) aj) (pick (look (keyOf y) aj) σ') j) a.defers w')) e σ' ds' w') (asg x) σ (fun i hi => hi) (fun e σ' ds' w' ho hk => ⟨ho, hk⟩) σ a.defers w (Off.refl _ _) h'
      refine Code.wp_mono ?_ (ihx _ σ a w hr h'')
      rintro e a' w' ⟨σ', hr', ho, hk⟩
      cases e with
      | normal =>
        obtain ⟨hds, hk⟩ := hk.out
        have := hk σ'
        rw [mix_self ho, ← hds] at this
        exact ihy _ σ' a' w' hr' this
      | _ => exact ⟨σ', hr', hk⟩
  | cond c x y ihx ihy =>
    intro Q σ a w hr h
    unfold wpX at h
    replace h := h.out
    split at h
    · rename_i b hb
      refine wp_cond_split (t := b) (by rw [hr.eval]; exact hb) (fun ht => ihx _ σ a w hr (h.1 ht)) (fun ht => ihy _ σ a w hr (h.2 ht))
    · exact h.elim
  | block id x ihx =>
    intro Q σ a w hr h
    unfold wpX at h
    refine wp_block (Code.wp_mono ?_ (ihx _ σ a w hr h))
    rintro e a' w' ⟨σ', hr', hk⟩
    cases e with
    | exit j =>
      simp only [Exit.inBlock]
      rw [blockQ_exit] at hk
      cases hb : Nat.beq j id with
      | true => rw [hb, bc_true] at hk; rw [if_pos (beq_iff.1 hb)]; exact ⟨σ', hr', hk⟩
      | false =>
        rw [hb, bc_false] at hk
        rw [if_neg (fun e => by rw [beq_iff.2 e] at hb; cases hb)]
        exact ⟨σ', hr', hk⟩
    | _ => exact ⟨σ', hr', hk⟩
  | loop x ihx =>
    intro Q σ a w hr h
    unfold wpX at h
    obtain ⟨I, μ, h0, hs⟩ := h.out
    refine wp_loop (fun a' w' => ∃ σ', Rep n σ' a'.tmps ∧ a'.defers = a.defers ∧ Off (asg x) σ σ' ∧ I (pick (look (keyOf x) al) σ') w')
      (fun a' w' => μ (pick (look (keyOf x) al) (fun i => a'.tmps.getD i undef)) w') ⟨σ, hr, rfl, Off.refl _ _, h0⟩ ?_
    rintro a' w' ⟨σ', hr', hds, ho, hI⟩
    have e1 : (fun i => a'.tmps.getD i undef) = σ' := funext hr'.get
    have h1 := hs _ w' hI σ'
    rw [mix_self ho] at h1
    have h2 := wpX.strong x _ (fun e σ'' ds' w'' => Off (asg x) σ σ'' ∧ thenQ Q (fun σ'' ds' w'' => AtX ds' a.defers (I (pick (look (keyOf x) al) σ'') w'' ∧ μ (pick (look (keyOf x) al) σ'') w'' < μ (pick (look (keyOf x) al) σ') w')) e σ'' ds' w'')
      (asg x) σ (fun i hi => hi) (fun e σ' ds' w' ho hk => ⟨ho, hk⟩) σ' a.defers w' ho h1
    rw [← hds] at h2
    refine Code.wp_mono ?_ (ihx _ σ' a' w' hr' h2)
    rintro e a'' w'' ⟨σ'', hr'', ho'', hk⟩
    cases e with
    | normal =>
      obtain ⟨k1, k2, k3⟩ := hk.out
      refine ⟨⟨σ'', hr'', k1.trans hds, ho'', k2⟩, ?_⟩
      have e2 : (fun i => a''.tmps.getD i undef) = σ'' := funext hr''.get
      rw [e1, e2]; exact k3
    | _ => exact ⟨σ'', hr'', hk⟩
  | rangeFunc f p x y _ _ => intro Q σ a w hr h; exact h.elim
  | scope x _ => intro Q σ a w hr h; exact h.elim
  | label l => intro Q σ a w hr h; exact h.elim
  | goto l => intro Q σ a w hr h; exact h.elim
  | refuse y => intro Q σ a w hr h; exact h.elim

/- THE WAY OUT OF A FUNCTION -/
inductive RV where
  | val (v : Value)
  | cell (a : Value) (T : TypeId)
def RV.of (σ : Sg) : ResultVar → RV
  | .tmp t => .val (σ t)
  | .cell a t => .cell (σ a) t
def RV.read : RV → Sem Value
  | .val v => pure v
  | .cell a t => do loadVar t (← asAddr a)
def rvOf (σ : Sg) : List ResultVar → List RV
  | [] => []
  | r :: l => RV.of σ r :: rvOf σ l
def allVal : List RV → Option (List Value)
  | [] => some []
  | .val v :: l => (allVal l).map (v :: ·)
  | .cell .. :: _ => none
def tup : List Value → Value
  | [v] => v
  | l => .tuple l.toArray
def resRun (rs : List RV) : Sem Value := do
  let vs ← rs.toArray.mapM RV.read
  pure (if h : vs.size = 1 then vs[0] else .tuple vs)
structure RetX (P : Program) (rs : List RV) (w : World) (K : Ending → World → Prop) : Prop where
  mk ::
  out : ∃ v, (resRun rs).run P w = .ok v w ∧ K (.returned v) w
/-- The results, where they all lie in slots, at once. -/
def RetD (P : Program) (rs : List RV) (w : World) (K : Ending → World → Prop) : Prop :=
  match allVal rs with
  | some l => K (.returned (tup l)) w
  | none => RetX P rs w K
/-- The deferred calls, the last one laid first; then the results are read. -/
def Leave (P : Program) (rs : List RV) (K : Ending → World → Prop) : List Deferred → FrameMode → World → Prop
  | [], .returning, w => RetD P rs w K
  | [], .panicking c, w => K (.panicked c) w
  | [], .run, _ => False
  | d :: ds, u, w => u ≠ .run ∧ ∃ fv cap f args, d.target = .fn fv cap ∧ (invoke d.target d.args).run P w = .ok (.enter f args) w ∧
      CallsD P f args u w fun
        | .returned _, u', w' => Leave P rs K ds (settle u') w'
        | .panicked chain, u', w' => Leave P rs K ds (raised u' chain) w'
        | .outgrown, _, _ => False
def topQ (P : Program) (rs : List ResultVar) (K : Ending → World → Prop) : Ex
  | .normal, σ, ds, w => Leave P (rvOf σ rs) K ds .returning w
  | .ret, σ, ds, w => Leave P (rvOf σ rs) K ds .returning w
  | .panic c, σ, ds, w => Leave P (rvOf σ rs) K ds (.panicking c) w
  | _, _, _, _ => False
def startX (args : List Value) : Sg := fun i => args.getD i undef

theorem results_eq {n : Nat} {σ : Sg} {t : Array Value} (h : Rep n σ t) (fn : Func) : results fn t = resRun (rvOf σ fn.results.toList) := by
  have e : ∀ l : List ResultVar, (rvOf σ l).mapM RV.read = l.mapM (fun r => match r with
      | .tmp t' => (pure (t.getD t' undef) : Sem Value)
      | .cell a ty => do loadVar ty (← asAddr (t.getD a undef))) := by
    intro l
    induction l with
    | nil => rfl
    | cons r l ih =>
      simp only [rvOf, List.mapM_cons]
      rw [ih]
      cases r <;> simp only [RV.of, RV.read] <;> rw [h.get]
  unfold results resRun
  congr 1
  rw [← Array.toArray_toList (xs := fn.results)]
  rw [List.mapM_toArray, List.mapM_toArray, e]
  rfl

theorem allVal_run {rs : List RV} {l : List Value} (h : allVal rs = some l) : rs.mapM RV.read = (pure l : Sem (List Value)) := by
  induction rs generalizing l with
  | nil => cases h; rfl
  | cons r rs ih =>
    cases r with
    | cell a t => cases h
    | val v =>
      unfold allVal at h
      cases hr : allVal rs with
      | none => rw [hr] at h; cases h
      | some l' =>
        rw [hr] at h; cases h
        rw [List.mapM_cons, ih hr]; rfl

theorem retX_iff {P : Program} {rs : List RV} {w : World} {K : Ending → World → Prop} (h : RetD P rs w K) : ∃ v, (resRun rs).run P w = .ok v w ∧ K (.returned v) w := by
  unfold RetD at h
  split at h
  · rename_i l hl
    refine ⟨tup l, ?_, h⟩
    unfold resRun
    rw [List.mapM_toArray, allVal_run hl]
    simp only [pure, bind, Sem.bind, Sem.run, Functor.map]
    congr 1
    cases l with
    | nil => rfl
    | cons v l =>
      cases l with
      | nil => rfl
      | cons v' l => simp [tup, Sem.bind, Sem.run]
  · exact h.out

theorem leave_leaves {P : Program} {n : Nat} {σ : Sg} {t : Array Value} (hr : Rep n σ t) (fn : Func) {K : Ending → World → Prop} : ∀ (ds : List Deferred) (u : FrameMode) (w : World),
    Leave P (rvOf σ fn.results.toList) K ds u w → Leaves P fn t K ds u w := by
  intro ds
  induction ds with
  | nil =>
    intro u w h
    cases u with
    | run => exact h.elim
    | returning =>
      obtain ⟨v, h1, h2⟩ := retX_iff h
      exact ⟨v, by rw [results_eq hr]; exact h1, h2⟩
    | panicking c => exact h
  | cons d ds ih =>
    intro u w h
    obtain ⟨h1, fv, cap, f, args, h2, h3, h4⟩ := h
    refine ⟨h1, fv, cap, f, args, h2, h3, h4.mono ?_⟩
    intro e u' w' hk
    cases e with
    | returned v => exact ih _ _ hk
    | panicked c => exact ih _ _ hk
    | outgrown => exact hk.elim

theorem start_rep {args : List Value} {n : Nat} (h : Nat.ble args.length n = true) : Rep n (startX args) (args.toArray ++ Array.replicate (n - args.toArray.size) undef) := by
  have h' : args.length ≤ n := by simpa [Nat.ble_eq] using h
  refine ⟨by simp; omega, fun i => ?_⟩
  unfold startX
  rw [Array.getD_eq_getD_getElem?, List.getD_eq_getElem?_getD, Array.getElem?_append]
  split
  · simp
  · rename_i hi
    simp only [List.size_toArray, Nat.not_lt] at hi
    rw [List.getElem?_eq_none hi, Array.getElem?_replicate]
    split <;> rfl

theorem calls_of_wpX {P : Program} {f : FuncId} {fn : Func} {c : Code} {args : List Value} {w : World} {K : Ending → World → Prop} {n : Nat} {aj al : List (Nat × List Nat)} {rs : List ResultVar}
    (hf : P.funcs[f]? = some fn) (hb : fn.body = some c) (hn : fn.ntmps = n) (hrs : fn.results.toList = rs) (hl : Nat.ble args.length n = true)
    (h : wpX P n aj al c (topQ P rs K) (startX args) [] w) : Calls P f args.toArray w K := by
  refine calls_of_wp_defers hf hb ?_
  rw [hn]
  refine Code.wp_mono ?_ (wpX_sound c _ (startX args) _ w (start_rep hl) h)
  rintro e a w' ⟨σ, hr, hk⟩
  subst hrs
  cases e with
  | normal => exact leave_leaves hr fn _ _ _ hk
  | ret => exact leave_leaves hr fn _ _ _ hk
  | panic ch => exact leave_leaves hr fn _ _ _ hk
  | exit id => exact hk.elim
  | goto l => exact hk.elim
  | outgrown => exact hk.elim

end Eng
end Go.Proofs.YtfnpfbgnhncgpaaDoor
