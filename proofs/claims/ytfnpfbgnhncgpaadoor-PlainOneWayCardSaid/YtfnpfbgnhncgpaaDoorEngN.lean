/- A region whose order is drawn, with a tail in one forced order: the head's moves first, for they wait for nothing; then the rest of the head, which only reads. -/
import Derived.StillTail
import Derived.Deep.Quiet
namespace Go.Proofs.YtfnpfbgnhncgpaaDoor
set_option linter.unusedVariables false
set_option linter.unusedSimpArgs false
set_option linter.defProp false
namespace Eng
section
variable {P : Program} {ops : Array Oper} {md : Region.Mode} {C : World → Prop}

def sinkM (md : Region.Mode) (ops : Array Oper) (n : Nat) (ms : List Nat) : Bool :=
  (List.range n).all fun i => ms.contains i || (List.range (n + 1)).any fun j => decide (i < j) && Region.waitsFor md ops j i
structure InvM (md : Region.Mode) (ops : Array Oper) (n : Nat) (ms : List Nat) (listed : Array Bool) : Prop where
  head : HeadInv md ops n listed
  moves : ∀ m ∈ ms, listed.getD m false = true
theorem InvM.set {n i : Nat} {ms : List Nat} {listed : Array Bool} (inv : InvM md ops n ms listed) (hi : i ∈ Region.ready md ops listed) (hin : i < n) : InvM md ops n ms (listed.setIfInBounds i true) :=
  ⟨inv.head.set hi hin, fun m hm => getD_set_true (inv.moves m hm)⟩
theorem tail_waitsM {n : Nat} {ms : List Nat} {listed : Array Bool} (hs : sinkM md ops n ms = true) (hc : Region.chainB md ops n = true) (hn : n < ops.size) (inv : InvM md ops n ms listed) :
    ∀ (d i : Nat), n - i = d → i < n → listed.getD i true = false → ∀ t, n ≤ t → t ∉ Region.ready md ops listed := by
  intro d
  induction d using Nat.strongRecOn with
  | _ d ih =>
    intro i hd hi hun t ht hr
    obtain ⟨_, ot, hot, hall⟩ := mem_ready.1 hr
    have htlt : t < ops.size := (Array.getElem?_eq_some_iff.1 hot).1
    by_cases htn : t = n
    · subst htn
      have h0 := List.all_eq_true.1 hs i (List.mem_range.2 hi)
      simp only [Bool.or_eq_true] at h0
      rcases h0 with h0 | h1
      · have := inv.moves i (by simpa using h0)
        rw [getD_both hun] at this; cases this
      obtain ⟨j, hj, hj2⟩ := List.any_eq_true.1 h1
      simp only [Bool.and_eq_true, decide_eq_true_eq] at hj2
      obtain ⟨oj, hoj, e, he, hb, hon⟩ := Region.waitsFor_spec hj2.2
      have hjle : j ≤ t := by have := List.mem_range.1 hj; omega
      by_cases hjt : j = t
      · subst hjt
        have : oj = ot := Option.some.inj (hoj.symm.trans hot)
        subst this
        have h2 := hall e he hb
        rw [hon, getD_both hun] at h2
        cases h2
      · cases hl : listed.getD j false with
        | true =>
          have h2 := inv.head.closed j oj hoj hl e he hb
          rw [hon, getD_both hun] at h2
          cases h2
        | false =>
          have hjs : j < listed.size := by rw [inv.head.size]; omega
          exact ih (t - j) (by omega) j rfl (by omega) (getD_in hjs hl) t (Nat.le_refl _) hr
    · have h1 := List.all_eq_true.1 hc t (List.mem_range.2 htlt)
      simp only [Bool.or_eq_true, decide_eq_true_eq] at h1
      rcases h1 with h1 | h1
      · omega
      · obtain ⟨o', ho', e, he, hb, hon⟩ := Region.waitsFor_spec h1
        have : o' = ot := Option.some.inj (ho'.symm.trans hot)
        subst this
        have h2 := hall e he hb
        rw [hon, getD_both (inv.head.tail (t - 1) (by omega) (by omega))] at h2
        cases h2
theorem monoQ {Q Q' : Exit → Act → World → Prop} (hQ : ∀ e a w, Q e a w → Q' e a w) : ∀ (f : Nat) (listed : Array Bool) (a : Act) (w : World), wpAny P md ops Q f listed a w → wpAny P md ops Q' f listed a w
  | 0, _, _, _, h => ⟨h.1, hQ _ _ _ h.2⟩
  | f + 1, listed, a, w, h => by
    refine ⟨fun h0 => hQ _ _ _ (h.1 h0), fun i hi => ?_⟩
    have h1 := wpOp_mono (fun a' w' h' => monoQ hQ f _ a' w' h') (h.2 i hi)
    unfold wpOp at h1 ⊢
    split
    · simpa [*] using h1
    · rename_i o ho
      simp only [ho] at h1
      split
      · rename_i hw
        simp only [hw, if_true] at h1
        rcases h1 with h1 | ⟨h1, a', w', h2⟩
        · left
          unfold Oper.wp at *
          generalize (execOp a.eval o).run P w = r at *
          cases r with
          | ok x w' =>
            cases x <;> simp only [Oper.upon] at h1 ⊢ <;> first | exact h1 | skip
            exact h1.mono fun e w'' hc => by
              cases e with
              | returned u => exact hc
              | panicked c => exact hQ _ _ _ hc
              | outgrown => obtain ⟨a', w', h2⟩ := hc; exact ⟨a', w', hQ _ _ _ h2⟩
          | halt x w' => cases x <;> simp only [Oper.upon] at h1 ⊢ <;> first | exact h1 | exact hQ _ _ _ h1
        · exact .inr ⟨h1, a', w', hQ _ _ _ h2⟩
      · rename_i hw; simp only [hw] at h1; exact h1
def wpAnyLQ (P : Program) (md : Region.Mode) (ops : Array Oper) (C : World → Prop) (n : Nat) (L : Array Bool → Act → Prop) : Nat → Array Bool → Act → Prop
  | 0, listed, a => L listed a
  | f + 1, listed, a =>
    Region.ready md ops listed ≠ [] ∧ ∀ i ∈ Region.ready md ops listed, i < n ∧ qOp P ops C i (wpAnyLQ P md ops C n L f (listed.setIfInBounds i true)) a
theorem wpAnyQ_of_head {n g : Nat} {L : Array Bool → Act → Prop} {Q' : Exit → Act → World → Prop} (hL : ∀ listed a w, C w → L listed a → wpAny P md ops Q' g listed a w) :
    ∀ (f : Nat) (listed : Array Bool) (a : Act) (w : World), C w → wpAnyLQ P md ops C n L f listed a → wpAny P md ops Q' (f + g) listed a w
  | 0, listed, a, w, hC, h => by rw [Nat.zero_add]; exact hL _ _ _ hC h
  | f + 1, listed, a, w, hC, h => by
    rw [show f + 1 + g = (f + g) + 1 by omega]
    exact ⟨fun h0 => absurd h0 h.1, fun i hi => wpOp_of_qOp hC (fun a' w' hw' h' => wpAnyQ_of_head hL f _ a' w' hw' h') (h.2 i hi).2⟩
theorem wpAnyLQ_firstM {n i : Nat} {ms : List Nat} {oi : Oper} {v : Value} {L : Array Bool → Act → Prop} (hi : ops[i]? = some oi) (hsel : ∀ (j : Nat) (o : Oper) cs b, ops[j]? = some o → o.op ≠ .select cs b)
    (hs : sinkM md ops n ms = true) (hc : Region.chainB md ops n = true) (hn : n < ops.size) (hin : i < n)
    (hdone : ∀ listed a, L listed a → ∀ j ∈ Region.ready md ops listed, n ≤ j) :
    ∀ (f : Nat) (listed : Array Bool) (a : Act), InvM md ops n ms listed →
      (∀ j oj, ops[j]? = some oj → j ≠ i → listed.getD j true = false → (∀ e ∈ oj.after, Region.binds md e = true → e.on ≠ i) → oi.apart ops oj = true) →
      i ∈ Region.ready md ops listed → YieldsIn P ops C oi v a →
      wpAnyLQ P md ops C n L f (listed.setIfInBounds i true) (a.put oi.dst v) → wpAnyLQ P md ops C n L (f + 1) listed a := by
  intro f
  induction f with
  | zero =>
    intro listed a inv _ hr hy H
    have hun := (mem_ready.1 hr).1
    refine ⟨fun h => (by rw [h] at hr; cases hr), fun j hj => ?_⟩
    have hjn : j < n := by
      rcases Nat.lt_or_ge j n with h | h
      · exact h
      · exact absurd hj (tail_waitsM hs hc hn inv _ i rfl hin hun j h)
    refine ⟨hjn, ?_⟩
    by_cases hji : j = i
    · subst hji; exact hy.qOp hi H
    · have := hdone _ _ H j (ready_mono hj hji)
      omega
  | succ f ih =>
    intro listed a inv hfree hr hy H
    have hun := (mem_ready.1 hr).1
    refine ⟨fun h => (by rw [h] at hr; cases hr), fun j hj => ?_⟩
    have hjn : j < n := by
      rcases Nat.lt_or_ge j n with h | h
      · exact h
      · exact absurd hj (tail_waitsM hs hc hn inv _ i rfl hin hun j h)
    refine ⟨hjn, ?_⟩
    by_cases hji : j = i
    · subst hji; exact hy.qOp hi H
    · have h1 := (H.2 j (ready_mono hj hji)).2
      obtain ⟨hjun, oj, hoj, hall⟩ := mem_ready.1 hj
      have hnot : ∀ e ∈ oj.after, Region.binds md e = true → e.on ≠ i := fun e he hb heq => by
        have h1 := hall e he hb
        rw [heq, getD_both hun] at h1
        cases h1
      have h2 := qOp_put hoj (hfree j oj hoj hji hjun hnot) (fun cs b => hsel i oi cs b hi) (fun cs b => hsel j oj cs b hoj) hy h1
      have hfree' : ∀ k ok, ops[k]? = some ok → k ≠ i → (listed.setIfInBounds j true).getD k true = false →
          (∀ e ∈ ok.after, Region.binds md e = true → e.on ≠ i) → oi.apart ops ok = true := fun k ok hk hki hun hno => by
        refine hfree k ok hk hki ?_ hno
        by_cases hjk : j = k
        · subst hjk; exact hjun
        · rw [getD_set_ne true hjk] at hun; exact hun
      refine qOp_mono (fun a' h3 => ih (listed.setIfInBounds j true) a' (inv.set hj hjn) hfree' (ready_mono hr (Ne.symm hji)) h3.1 ?_) h2
      rw [Array.setIfInBounds_comm _ _ hji]
      exact h3.2

def lexHeadM (md : Region.Mode) (ops : Array Oper) (g n : Nat) : List (Nat × Oper) → Array Bool → Bool
  | [], listed => Region.seqB md ops g n listed
  | (k, _) :: r, listed => (Region.ready md ops listed).contains k && Region.free md ops listed k && decide (k < n) && lexHeadM md ops g n r (listed.setIfInBounds k true)
def snds : List (Nat × Oper) → List Oper
  | [] => []
  | p :: l => p.2 :: snds l
def fsts : List (Nat × Oper) → List Nat
  | [] => []
  | p :: l => p.1 :: fsts l
theorem wpAnyLQ_lexM {n g : Nat} {ms : List Nat} {Lq : Act → Prop} (hsel : Region.noSelect ops = true) (hs : sinkM md ops n ms = true) (hc : Region.chainB md ops n = true) (hn : n < ops.size) :
    ∀ (l : List (Nat × Oper)) (listed : Array Bool) (a : Act), (∀ p ∈ l, ops[p.1]? = some p.2) → InvM md ops n ms listed →
    lexHeadM md ops g n l listed = true → wpQuiet P ops C Lq (snds l) a →
    wpAnyLQ P md ops C n (fun listed' a' => Region.seqB md ops g n listed' = true ∧ Lq a') l.length listed a
  | [], listed, a, _, inv, hB, h => ⟨hB, h⟩
  | (k, o) :: l, listed, a, hl, inv, hB, h => by
    have h0 : ops[k]? = some o := hl (k, o) (by simp)
    simp only [lexHeadM, Bool.and_eq_true, decide_eq_true_eq] at hB
    obtain ⟨⟨⟨hr, hf⟩, hkn⟩, hB'⟩ := hB
    have hr' : k ∈ Region.ready md ops listed := by simpa using hr
    have hst : qOp P ops C k (wpQuiet P ops C Lq (snds l)) a := by unfold qOp; simp only [h0]; exact h
    obtain ⟨v, hy, hK⟩ := yieldsIn_of_qOp h0 hst
    exact wpAnyLQ_firstM h0 (Region.noSelect_spec hsel) hs hc hn hkn (fun listed' a' hL => seqB_ready hL.1) l.length listed a inv (Region.free_spec h0 hf) hr' hy
      (wpAnyLQ_lexM hsel hs hc hn l _ _ (fun p hp => hl p (by simp [hp])) (inv.set hr' hkn) hB' hK)
def isMv (o : Oper) : Bool :=
  match o.op with
  | .move _ | .assign _ => match o.guard with
    | none => true
    | some _ => false
  | _ => false
/-- The moves taken: the list of what has come up; each is ready, and apart from what does not wait for it. -/
def takesM (md : Region.Mode) (ops : Array Oper) (n : Nat) : List (Nat × Oper) → Array Bool → Option (Array Bool)
  | [], listed => some listed
  | (k, o) :: r, listed => if (Region.ready md ops listed).contains k && Region.free md ops listed k && decide (k < n) && isMv o then takesM md ops n r (listed.setIfInBounds k true) else none
def mvVal (o : Oper) (a : Act) : Value :=
  match o.op with
  | .move x | .assign x => a.eval x
  | _ => undef
def takeAll : List (Nat × Oper) → Act → Act
  | [], a => a
  | (_, o) :: r, a => takeAll r (a.put o.dst (mvVal o a))
theorem yields_mv {o : Oper} (h : isMv o = true) (a : Act) : Yields P ops o (mvVal o a) a := by
  unfold isMv at h
  left
  split at h
  · rename_i x hx
    split at h
    · rename_i hg
      refine ⟨by simp [Region.wanted, hg], fun w => ?_⟩
      rw [show execOp a.eval o = pure (.value (a.eval x)) by unfold execOp; rw [hx]]
      simp only [mvVal, hx]; rfl
    · cases h
  · rename_i x hx
    split at h
    · rename_i hg
      refine ⟨by simp [Region.wanted, hg], fun w => ?_⟩
      rw [show execOp a.eval o = pure (.value (a.eval x)) by unfold execOp; rw [hx]]
      simp only [mvVal, hx]; rfl
    · cases h
  · cases h
theorem wpAny_takes {n : Nat} {Q : Exit → Act → World → Prop} {fuel : Nat} (hsel : Region.noSelect ops = true) (ms0 : List Nat) : ∀ (ms : List (Nat × Oper)) (listed listed' : Array Bool) (a : Act) (w : World), (∀ p ∈ ms, ops[p.1]? = some p.2) → takesM md ops n ms listed = some listed' →
    (∀ p ∈ ms, ∀ v c a w, Q (.panic c) (a.put p.2.dst v) w → Q (.panic c) a w) →
    InvM md ops n ms0 listed → (InvM md ops n (fsts ms ++ ms0) listed' → wpAny P md ops Q fuel listed' (takeAll ms a) w) → wpAny P md ops Q (ms.length + fuel) listed a w
  | [], listed, listed', a, w, _, ht, _, inv, h => by
    cases ht
    rw [List.length_nil, Nat.zero_add]
    exact h inv
  | (k, o) :: ms, listed, listed', a, w, hl, ht, hQ, inv, h => by
    have h0 : ops[k]? = some o := hl (k, o) (by simp)
    unfold takesM at ht
    split at ht
    · rename_i hc
      simp only [Bool.and_eq_true, decide_eq_true_eq] at hc
      obtain ⟨⟨⟨hr, hf⟩, hkn⟩, hmv⟩ := hc
      have hr' : k ∈ Region.ready md ops listed := by simpa using hr
      have hks : k < listed.size := by rw [inv.head.size]; exact (Array.getElem?_eq_some_iff.1 h0).1
      rw [List.length_cons, show ms.length + 1 + fuel = ms.length + fuel + 1 by omega]
      refine wpAny_take h0 hsel hf hr (hQ (k, o) (by simp) _) (yields_mv hmv a) ?_
      refine wpAny_takes hsel (k :: ms0) ms _ listed' _ w (fun p hp => hl p (by simp [hp])) ht (fun p hp => hQ p (by simp [hp])) ⟨inv.head.set hr' hkn, fun m hm => ?_⟩ (fun inv' => h ⟨inv'.head, fun m hm => inv'.moves m ?_⟩)
      · rcases List.mem_cons.1 hm with rfl | hm
        · simp [hks]
        · exact getD_set_true (inv.moves m hm)
      · simp only [fsts, List.cons_append, List.mem_cons, List.mem_append] at hm ⊢
        rcases hm with h | h | h
        · exact .inr (.inl h)
        · exact .inl h
        · exact .inr (.inr h)
    · cases ht
def movesB (ops : Array Oper) (n : Nat) (ms hs : List (Nat × Oper)) : Bool :=
  Region.noSelect ops && decide (n < ops.size) && sinkM .any ops n (fsts ms ++ []) && Region.chainB .any ops n && decide (ms.length + hs.length = n) &&
    (match takesM .any ops n ms (Array.replicate ops.size false) with
    | some listed => lexHeadM .any ops (ops.size - n) n hs listed
    | none => false)
theorem wp_region_moves_tail {id : Nat} {Q Q' : Exit → Act → World → Prop} {a : Act} {w : World} {l : List Oper} (n : Nat) (ms hs : List (Nat × Oper)) (hm : P.follows .mixedOrders = true) (hB : movesB l.toArray n ms hs = true) (hC : C { w with drawn := w.drawn + 1 })
    (hms : ∀ p ∈ ms, l.toArray[p.1]? = some p.2) (hhs : ∀ p ∈ hs, l.toArray[p.1]? = some p.2) (hQQ : ∀ e a w, Q' e a w → Q e a w)
    (hQ : ∀ p ∈ ms, ∀ v c a w, Q' (.panic c) (a.put p.2.dst v) w → Q' (.panic c) a w)
    (h : wpQuiet P l.toArray C (fun a' => ∀ w', C w' → wpList P l.toArray Q' (l.drop n) a' w') (snds hs) (takeAll ms a)) : (Code.region id l.toArray true).wp P Q a w := by
  simp only [movesB, Bool.and_eq_true, decide_eq_true_eq] at hB
  obtain ⟨⟨⟨⟨⟨hsel, hn⟩, hsk⟩, hc⟩, hlen⟩, hlex⟩ := hB
  split at hlex
  · rename_i listed' htk
    have inv0 : InvM .any l.toArray n [] (Array.replicate l.toArray.size false) :=
      ⟨⟨by simp, fun j oj _ hl => (by rw [getD_replicate_false] at hl; cases hl), fun t _ ht => getD_in (by simpa using ht) (getD_replicate_false _ _)⟩, fun m hm => by cases hm⟩
    have hn' : n < l.length := by simpa using hn
    have hdl : (l.drop n).length = l.toArray.size - n := by simp
    refine wp_region_any hm (monoQ hQQ _ _ _ _ ?_)
    have e : l.toArray.size = ms.length + (hs.length + (l.toArray.size - n)) := by omega
    rw [e]
    rw [← e]
    have H := wpAny_takes (P := P) (md := .any) (fuel := hs.length + (l.toArray.size - n)) hsel [] ms (Array.replicate l.toArray.size false) listed' a { w with drawn := w.drawn + 1 } hms htk hQ inv0 (fun inv' => by
      have H2 := wpAnyLQ_lexM (P := P) (md := .any) (g := l.toArray.size - n) hsel hsk hc hn hs listed' (takeAll ms a) hhs inv' hlex h
      exact wpAnyQ_of_head (Q' := Q') (g := l.toArray.size - n) (fun listed a' w' hw' hL => by
        have := wpAny_of_seq (md := .any) (Q' := Q') (l.drop n) n listed a' w' (fun j => by simp [List.getElem?_drop]) (by rw [hdl]; exact hL.1) (hL.2 w' hw')
        rwa [hdl] at this) _ _ _ _ hC H2)
    rw [← e] at H
    exact H
  · cases hlex
end
end Eng
end Go.Proofs.YtfnpfbgnhncgpaaDoor
