/- Texts that go together: Plain38E Plain38F Plain38G LbM LbN LbO. -/
import Derived.Test.YtiklhhdohckfiaaGreatDoorMeiakmcke
import Derived.Test.YtiklhhdohckfiaaGreatDoorMnaffnpeb
import Derived.Test.YtiklhhdohckfiaaGreatDoorMnlealcae
import Derived.Test.YtiklhhdohckfiaaGreatDoorMjiojilnl
import Derived.Test.YtiklhhdohckfiaaGreatDoorMfbpklgmj
namespace Go.Proofs.YtiklhhdohckfiaaGreatDoor
set_option linter.unusedVariables false
set_option linter.unusedSimpArgs false
set_option linter.defProp false
open Go
namespace Vl
theorem dropK_app (key : List UInt8) : ∀ {ks : List (List UInt8)} {cs : List Ob} (ks' : List (List UInt8)) (cs' : List Ob), ks.length = cs.length →
    dropK key (ks ++ ks') (cs ++ cs') = ((dropK key ks cs).1 ++ (dropK key ks' cs').1, (dropK key ks cs).2 ++ (dropK key ks' cs').2)
  | [], [], _, _, _ => by simp [dropK]
  | [], _ :: _, _, _, h => by simp at h
  | _ :: _, [], _, _, h => by simp at h
  | a :: ks, c :: cs, ks', cs', h => by
    have ih := dropK_app key (ks := ks) (cs := cs) ks' cs' (by simpa using h)
    rw [List.cons_append, List.cons_append, dropK, dropK, ih]
    split <;> simp
theorem dropK_out (key : List UInt8) : ∀ (ks : List (List UInt8)) (cs : List Ob), key ∉ (dropK key ks cs).1
  | [], _ => by simp [dropK]
  | _ :: _, [] => by simp [dropK]
  | a :: ks, c :: cs => by
    rw [dropK]
    split
    · exact dropK_out key ks cs
    · rename_i h
      simp only [List.mem_cons, not_or]
      exact ⟨fun e => h e.symm, dropK_out key ks cs⟩
theorem dropK_lens (key : List UInt8) : ∀ (ks : List (List UInt8)) (cs : List Ob), (dropK key ks cs).1.length = (dropK key ks cs).2.length
  | [], _ => by simp [dropK]
  | _ :: _, [] => by simp [dropK]
  | a :: ks, c :: cs => by
    rw [dropK]
    split
    · exact dropK_lens key ks cs
    · simp [dropK_lens key ks cs]
theorem dropK_sub1 (key : List UInt8) : ∀ (ks : List (List UInt8)) (cs : List Ob), (dropK key ks cs).1.Sublist ks
  | [], _ => by simp [dropK]
  | _ :: _, [] => by simp [dropK]
  | a :: ks, c :: cs => by
    rw [dropK]
    split
    · exact (dropK_sub1 key ks cs).trans (List.sublist_cons_self _ _)
    · exact (dropK_sub1 key ks cs).cons_cons _
theorem dropK_sub2 (key : List UInt8) : ∀ (ks : List (List UInt8)) (cs : List Ob), (dropK key ks cs).2.Sublist cs
  | [], _ => by simp [dropK]
  | _ :: _, [] => by simp [dropK]
  | a :: ks, c :: cs => by
    rw [dropK]
    split
    · exact (dropK_sub2 key ks cs).trans (List.sublist_cons_self _ _)
    · exact (dropK_sub2 key ks cs).cons_cons _
theorem dropK_twice (key : List UInt8) (ks : List (List UInt8)) (cs : List Ob) : dropK key (dropK key ks cs).1 (dropK key ks cs).2 = dropK key ks cs :=
  dropK_none (dropK_lens key ks cs) (dropK_out key ks cs)
theorem without_twice (o : Ob) (key : List UInt8) : without (without o key) key = without o key := by
  have h := dropK_twice key o.keys o.kids
  unfold without
  simp only [Ob.keys, Ob.kids, Ob.k, Ob.n, Ob.g, Ob.s] at h ⊢
  rw [h]
theorem get_without (o : Ob) (key : List UInt8) : get (without o key) key = none := by
  unfold get
  split
  · rw [if_neg]
    rw [List.idxOf_lt_length_iff]
    exact dropK_out key o.keys o.kids
  · rfl
theorem not_mem_take {l : List (List UInt8)} {key : List UInt8} : key ∉ l.take (place l key) := by
  intro h
  obtain ⟨m, hm, he⟩ := List.getElem_of_mem h
  rw [List.length_take] at hm
  have hlt : m < place l key := by omega
  have := place_lt hlt
  rw [List.getElem_take] at he
  rw [he, less_irrefl] at this
  cases this
theorem get_put {o : Ob} {key : List UInt8} {v : Ob} (hk : keyed o = true) (hl : o.keys.length = o.kids.length) : get (put o key v) key = some v := by
  have hp := place_le o.keys key
  unfold get
  rw [show keyed (put o key v) = keyed o from rfl, hk, if_pos rfl]
  have e : (put o key v).keys = o.keys.take (place o.keys key) ++ key :: o.keys.drop (place o.keys key + if hit o.keys key then 1 else 0) := rfl
  have e2 : (put o key v).kids = o.kids.take (place o.keys key) ++ v :: o.kids.drop (place o.keys key + if hit o.keys key then 1 else 0) := rfl
  have hi : (put o key v).keys.idxOf key = place o.keys key := by
    rw [e]
    refine idx_at (by simp; omega) ?_ ?_
    · rw [List.take_left' (by rw [List.length_take]; omega)]
      exact not_mem_take
    · rw [List.getElem_append_right (by rw [List.length_take]; omega)]
      simp [List.length_take, Nat.min_eq_left hp]
  rw [hi, if_pos (by rw [e]; simp; omega), e2, List.getElem?_append_right (by rw [List.length_take]; omega), List.length_take]
  have : place o.keys key - min (place o.keys key) o.kids.length = 0 := by omega
  rw [this]; rfl
theorem without_put {o : Ob} {key : List UInt8} {v : Ob} (hl : o.keys.length = o.kids.length) : without (put o key v) key = without o key := by
  have hp := place_le o.keys key
  have h1 : (dropK key (o.keys.take (place o.keys key) ++ key :: o.keys.drop (place o.keys key + if hit o.keys key then 1 else 0)) (o.kids.take (place o.keys key) ++ v :: o.kids.drop (place o.keys key + if hit o.keys key then 1 else 0))) = dropK key o.keys o.kids := by
    have h2 : dropK key o.keys o.kids = dropK key (o.keys.take (place o.keys key) ++ o.keys.drop (place o.keys key)) (o.kids.take (place o.keys key) ++ o.kids.drop (place o.keys key)) := by rw [List.take_append_drop, List.take_append_drop]
    rw [h2, dropK_app key _ _ (by simp [hl]), dropK_app key _ _ (by simp [hl]), dropK, if_pos rfl]
    by_cases hh : hit o.keys key = true
    · rw [if_pos hh]
      have hg : o.keys[place o.keys key]? = some key := by simpa [hit] using hh
      obtain ⟨hlt, hg⟩ := List.getElem?_eq_some_iff.1 hg
      rw [List.drop_eq_getElem_cons (i := place o.keys key) hlt, List.drop_eq_getElem_cons (i := place o.keys key) (l := o.kids) (by omega), dropK, if_pos hg]
    · rw [if_neg hh]; simp
  unfold without
  rw [show (put o key v).keys = o.keys.take (place o.keys key) ++ key :: o.keys.drop (place o.keys key + if hit o.keys key then 1 else 0) from rfl,
    show (put o key v).kids = o.kids.take (place o.keys key) ++ v :: o.kids.drop (place o.keys key + if hit o.keys key then 1 else 0) from rfl, h1]
  rfl
theorem checks_iff {d : Nat} : ∀ {os : List Ob}, checks d os = 0 ↔ ∀ o ∈ os, check d o = 0
  | [] => by simp [checks]
  | o :: os => by
    rw [checks]
    split
    · rename_i h
      constructor
      · intro e; exact absurd e h
      · intro e; exact absurd (e o List.mem_cons_self) h
    · rename_i h
      have h := Classical.not_not.1 h
      rw [checks_iff]
      simp [h]
theorem gd_at (l : List (List UInt8)) {i : Nat} (h : i < l.length) : l.getD i [] = l[i] := by rw [List.getD_eq_getElem?_getD, List.getElem?_eq_getElem h]; rfl
theorem rising_iff {o : Ob} : rising o = true ↔ o.keys.length = o.kids.length ∧ Rise o.keys ∧ (∀ k ∈ o.keys, name k = true ∧ (o.k = 9 → k ≠ lenK)) ∧ ∀ c ∈ o.kids, c.k ≠ 0 := by
  unfold rising
  simp only [Bool.and_eq_true, decide_eq_true_eq, List.all_eq_true, List.mem_range]
  constructor
  · rintro ⟨hl, h⟩
    have hat : ∀ i (hi : i < o.keys.length), name o.keys[i] = true ∧ (i = 0 ∨ less (o.keys.getD (i - 1) []) o.keys[i] = true) ∧ (o.k = 9 → o.keys[i] ≠ lenK) ∧ (o.kids[i]'(by omega)).k ≠ 0 := by
      intro i hi
      have := h i hi
      unfold keyAt at this
      rw [gd_at _ hi, List.getD_eq_getElem?_getD (l := o.kids), List.getElem?_eq_getElem (by omega : i < o.kids.length)] at this
      simp only [Bool.and_eq_true, Bool.or_eq_true, decide_eq_true_eq, Option.getD_some, Bool.not_eq_true', Bool.and_eq_false_iff, decide_eq_false_iff_not] at this
      obtain ⟨⟨⟨a, b⟩, c⟩, e⟩ := this
      exact ⟨a, b, fun h9 hk => c.elim (fun x => x h9) (fun x => x hk), e⟩
    refine ⟨hl, ?_, ?_, ?_⟩
    · refine List.pairwise_iff_getElem.2 fun i j hi hj hij => ?_
      have step : ∀ i (hi : i + 1 < o.keys.length), less o.keys[i] o.keys[i + 1] = true := by
        intro i hi
        have := (hat (i + 1) hi).2.1
        rcases this with h0 | h0
        · omega
        · rwa [Nat.add_sub_cancel, gd_at _ (by omega : i < o.keys.length)] at h0
      have : ∀ d, ∀ j (hj : j < o.keys.length), j = i + 1 + d → less o.keys[i] o.keys[j] = true := by
        intro d
        induction d with
        | zero => intro j hj he; subst he; exact step i hj
        | succ d ih =>
          intro j hj he
          subst he
          exact less_trans (ih (i + 1 + d) (by omega) rfl) (step (i + 1 + d) hj)
      exact this (j - (i + 1)) j hj (by omega)
    · intro k hk
      obtain ⟨i, hi, rfl⟩ := List.getElem_of_mem hk
      exact ⟨(hat i hi).1, (hat i hi).2.2.1⟩
    · intro c hc
      obtain ⟨i, hi, rfl⟩ := List.getElem_of_mem hc
      exact (hat i (by omega)).2.2.2
  · rintro ⟨hl, hr, hk, hc⟩
    refine ⟨hl, fun i hi => ?_⟩
    unfold keyAt
    rw [gd_at _ hi, List.getD_eq_getElem?_getD (l := o.kids), List.getElem?_eq_getElem (by omega : i < o.kids.length)]
    simp only [Bool.and_eq_true, Bool.or_eq_true, decide_eq_true_eq, Option.getD_some, Bool.not_eq_true', Bool.and_eq_false_iff, decide_eq_false_iff_not]
    refine ⟨⟨⟨(hk _ (List.getElem_mem hi)).1, ?_⟩, ?_⟩, hc _ (List.getElem_mem _)⟩
    · rcases Nat.eq_zero_or_pos i with h0 | h0
      · exact .inl h0
      · refine .inr ?_
        rw [gd_at _ (by omega : i - 1 < o.keys.length)]
        exact rise_get hr (by omega) hi
    · by_cases h9 : o.k = 9
      · exact .inr ((hk _ (List.getElem_mem hi)).2 h9)
      · exact .inl h9
theorem check_iff {d : Nat} {o : Ob} : check d o = 0 ↔ (d ≤ 24 ∧ usesOk o = true ∧ (o.k = 9 → d ≤ 1) ∧ fits o = true ∧ o.s.length ≤ long o.k ∧ o.kids.length ≤ 8191 ∧ form o = true) ∧ ∀ c ∈ o.kids, check (d + 1) c = 0 := by
  rw [check_eq]
  have hw : why d o = 0 ↔ (d ≤ 24 ∧ usesOk o = true ∧ (o.k = 9 → d ≤ 1) ∧ fits o = true ∧ o.s.length ≤ long o.k ∧ o.kids.length ≤ 8191 ∧ form o = true) := by
    unfold why
    split
    · simp; omega
    rename_i h1
    split
    · rename_i h2
      simp only [show (10 : Int) ≠ 0 by decide, false_iff, not_and]
      rintro - a b
      rcases h2 with h2 | h2
      · rw [h2] at a; cases a
      · have := b h2.1; omega
    rename_i h2
    simp only [not_or, Bool.not_eq_false, not_and, Nat.not_lt] at h2
    split
    · rename_i h3; simp [h3]
    rename_i h3
    split
    · rename_i h4; simp; intros; omega
    rename_i h4
    split
    · rename_i h5; simp; intros; omega
    rename_i h5
    split
    · rename_i h6; simp [h6]
    rename_i h6
    simp only [Bool.not_eq_false] at h3 h6
    exact ⟨fun _ => ⟨by omega, h2.1, h2.2, h3, by omega, by omega, h6⟩, fun _ => rfl⟩
  split
  · rename_i h
    constructor
    · intro e; exact absurd e h
    · intro e; exact absurd (hw.2 e.1) h
  · rename_i h
    have h := Classical.not_not.1 h
    rw [checks_iff]
    exact ⟨fun e => ⟨hw.1 h, e⟩, fun e => e.2⟩
theorem without_check {d : Nat} {o : Ob} {key : List UInt8} (h : check d o = 0) (hk : keyed o = true) : check d (without o key) = 0 := by
  obtain ⟨⟨a1, a2, a3, a4, a5, a6, a7⟩, hc⟩ := check_iff.1 h
  have s1 := dropK_sub1 key o.keys o.kids
  have s2 := dropK_sub2 key o.keys o.kids
  have h79 : o.k = 7 ∨ o.k = 9 := by simpa [keyed] using hk
  have ek : (without o key).k = o.k := rfl
  have eks : (without o key).keys = (dropK key o.keys o.kids).1 := rfl
  have ecs : (without o key).kids = (dropK key o.keys o.kids).2 := rfl
  refine check_iff.2 ⟨⟨a1, ?_, a3, a4, a5, ?_, ?_⟩, fun c hc' => hc c (s2.subset hc')⟩
  · unfold usesOk at a2 ⊢
    rw [ek]
    rcases h79 with h7 | h9
    · rw [h7] at a2 ⊢
      simpa [used, show (without o key).n = o.n from rfl, show (without o key).g = o.g from rfl, show (without o key).s = o.s from rfl] using a2
    · rw [h9] at a2 ⊢
      simpa [used, show (without o key).n = o.n from rfl, show (without o key).g = o.g from rfl, show (without o key).s = o.s from rfl] using a2
  · rw [ecs]
    exact Nat.le_trans s2.length_le a6
  · unfold form at a7 ⊢
    rw [ek]
    simp only [Bool.and_eq_true] at a7 ⊢
    refine ⟨a7.1, ?_⟩
    rw [decide_eq_true h79] at a7 ⊢
    have hr : rising o = true := by simpa using a7.2
    obtain ⟨r1, r2, r3, r4⟩ := rising_iff.1 hr
    have : rising (without o key) = true := by
      refine rising_iff.2 ⟨?_, ?_, ?_, ?_⟩
      · rw [eks, ecs]; exact dropK_lens key _ _
      · rw [eks]; exact List.Pairwise.sublist s1 r2
      · rw [eks]; exact fun k hk => r3 k (s1.subset hk)
      · rw [ecs]; exact fun c hc => r4 c (s2.subset hc)
    simp [this]
end Vl
namespace Dk
def swap (i j : It) : It := if j.num = i.num then i else j
theorem swap_num (i j : It) : (swap i j).num = j.num := by unfold swap; split <;> simp_all
theorem lay_lt {a : It} {l : List It} {i : It} (h : a.num < i.num) : lay (a :: l) i = a :: lay l i := by
  have hp : place (a :: l) i.num = place l i.num + 1 := by unfold place; rw [List.takeWhile_cons]; simp [h]
  have hh : hit (a :: l) i.num = hit l i.num := by unfold hit; rw [hp, List.getElem?_cons_succ]
  unfold lay
  rw [hp, hh, List.take_succ_cons, List.cons_append]
  congr 2
  rw [Nat.add_right_comm, List.drop_succ_cons]
theorem lay_eq {a : It} {l : List It} {i : It} (h : a.num = i.num) : lay (a :: l) i = i :: l := by
  have hp : place (a :: l) i.num = 0 := by unfold place; rw [List.takeWhile_cons]; simp [h]
  have hh : hit (a :: l) i.num = true := by unfold hit; rw [hp]; simp [h]
  unfold lay
  rw [hp, hh]; simp
theorem lay_map {i : It} : ∀ {l : List It}, Rise l → (∃ j ∈ l, j.num = i.num) → lay l i = l.map (swap i)
  | [], _, h => by obtain ⟨j, hj, _⟩ := h; cases hj
  | a :: l, hr, h => by
    obtain ⟨h1, h2⟩ := List.pairwise_cons.1 hr
    obtain ⟨j, hj, hn⟩ := h
    by_cases ha : a.num = i.num
    · rw [lay_eq ha, List.map_cons]
      have e1 : swap i a = i := by unfold swap; rw [if_pos ha]
      have e2 : l.map (swap i) = l := by
        conv => rhs; rw [← List.map_id l]
        refine List.map_congr_left fun b hb => ?_
        have := h1 b hb
        unfold swap
        rw [if_neg (by omega)]; rfl
      rw [e1, e2]
    · have hjl : j ∈ l := by
        rcases List.mem_cons.1 hj with rfl | hj
        · exact absurd hn ha
        · exact hj
      have hlt : a.num < i.num := by have := h1 j hjl; omega
      rw [lay_lt hlt, lay_map h2 ⟨j, hjl, hn⟩, List.map_cons]
      congr 1
      unfold swap
      rw [if_neg ha]
theorem swap_swap {i i' : It} (h : i.num = i'.num) (l : List It) : (l.map (swap i)).map (swap i') = l.map (swap i') := by
  rw [List.map_map]
  refine List.map_congr_left fun j _ => ?_
  show swap i' (swap i j) = swap i' j
  unfold swap
  by_cases hj : j.num = i.num
  · rw [if_pos hj, if_pos h, if_pos (by omega)]
  · rw [if_neg hj]
theorem find_map {i : It} : ∀ {l : List It}, (∃ j ∈ l, j.num = i.num) → find (l.map (swap i)) i.num = some i
  | [], h => by obtain ⟨j, hj, _⟩ := h; cases hj
  | a :: l, h => by
    unfold find
    rw [List.map_cons, List.find?_cons]
    by_cases ha : a.num = i.num
    · have e1 : swap i a = i := by unfold swap; rw [if_pos ha]
      rw [e1]; simp
    · have e1 : swap i a = a := by unfold swap; rw [if_neg ha]
      rw [e1]
      simp only [ha, decide_false]
      obtain ⟨j, hj, hn⟩ := h
      rcases List.mem_cons.1 hj with rfl | hj
      · exact absurd hn ha
      · exact find_map ⟨j, hj, hn⟩
theorem itemsG_cons {last : Option Int} {i : It} {l : List It} : itemsG last (i :: l) = 0 ↔ numbers i = true ∧ (∀ n, last = some n → n < i.num) ∧ content i = 0 ∧ itemsG (some i.num) l = 0 := by
  rw [itemsG]
  split
  · rename_i h; simp [h]
  rename_i h1
  have h1 : numbers i = true := by simpa using h1
  split
  · rename_i h2
    simp only [show (9 : Int) ≠ 0 by decide, false_iff, not_and]
    intro _ h3
    cases last with
    | none => simp at h2
    | some n => have := h3 n rfl; simp at h2; omega
  rename_i h2
  have h2 : ∀ n, last = some n → n < i.num := by
    intro n hn
    subst hn
    simp at h2
    omega
  split
  · rename_i h3
    constructor
    · intro e; exact absurd e h3
    · rintro ⟨-, -, e, -⟩; exact absurd e h3
  · rename_i h3
    have h3 := Classical.not_not.1 h3
    exact ⟨fun e => ⟨h1, h2, h3, e⟩, fun e => e.2.2.2⟩
theorem items_map {i : It} (hn : numbers i = true) (hc : content i = 0) : ∀ {l : List It} {last : Option Int}, itemsG last l = 0 → itemsG last (l.map (swap i)) = 0
  | [], _, _ => by rw [List.map_nil, itemsG]
  | a :: l, last, h => by
    obtain ⟨h1, h2, h3, h4⟩ := itemsG_cons.1 h
    rw [List.map_cons]
    refine itemsG_cons.2 ⟨?_, ?_, ?_, ?_⟩
    · unfold swap; split <;> assumption
    · rw [swap_num]; exact h2
    · unfold swap; split <;> assumption
    · rw [swap_num]; exact items_map hn hc h4
theorem items_all : ∀ {l : List It} {last : Option Int}, itemsG last l = 0 → ∀ i ∈ l, numbers i = true ∧ content i = 0
  | [], _, _, i, hi => by cases hi
  | a :: l, last, h, i, hi => by
    obtain ⟨h1, h2, h3, h4⟩ := itemsG_cons.1 h
    rcases List.mem_cons.1 hi with rfl | hi
    · exact ⟨h1, h3⟩
    · exact items_all h4 i hi
theorem check_parts {d : Dc} : check d = 0 ↔ itemsG none d.items = 0 ∧ trail d = 0 := by
  unfold check
  split
  · rename_i h
    constructor
    · intro e; exact absurd e h
    · intro e; exact absurd e.1 h
  · rename_i h
    exact ⟨fun e => ⟨Classical.not_not.1 h, e⟩, fun e => e.2⟩
theorem trail_parts {d : Dc} : trail d = 0 ↔ Vl.check 1 d.trailer = 0 ∧ d.trailer.k = 7 ∧ d.trailer.keys.all known = true ∧ (root d).k = 8 ∧ (follow d (root d)).k = 7 := by
  unfold trail
  split
  · rename_i h
    constructor
    · intro e; exact absurd e h
    · intro e; exact absurd e.1 h
  rename_i h1
  have h1 := Classical.not_not.1 h1
  split
  · rename_i h; simp [h]
  rename_i h2
  have h2 := Classical.not_not.1 h2
  split
  · rename_i h; simp [h]
  rename_i h3
  have h3 : d.trailer.keys.all known = true := by simpa using h3
  split
  · rename_i h
    simp only [show (22 : Int) ≠ 0 by decide, false_iff, not_and]
    intro _ _ _ h4 h5
    rcases h with h | h
    · exact h h4
    · exact h h5
  · rename_i h
    simp only [not_or, Classical.not_not] at h
    exact ⟨fun _ => ⟨h1, h2, h3, h.1, h.2⟩, fun _ => rfl⟩
theorem find_mem {l : List It} {n : Int} {i : It} (h : find l n = some i) : i ∈ l ∧ i.num = n := by
  unfold find at h
  exact ⟨List.mem_of_find?_eq_some h, by simpa using List.find?_some h⟩
theorem root_item {d : Dc} (h : check d = 0) : ∃ i, find d.items (root d).n = some i ∧ i ∈ d.items ∧ i.num = (root d).n ∧ i.gen = (root d).g ∧ i.obj.k = 7 ∧ Vl.check 1 i.obj = 0 ∧ numbers i = true := by
  obtain ⟨h1, h2⟩ := check_parts.1 h
  obtain ⟨-, -, -, h4, h5⟩ := trail_parts.1 h2
  unfold follow at h5
  rw [if_neg (by simp [h4])] at h5
  cases hf : find d.items (root d).n with
  | none => rw [hf] at h5; simp [pick, Vl.ob0, Ob.k] at h5
  | some i =>
    rw [hf] at h5
    unfold pick at h5
    simp only at h5
    split at h5
    · simp [Vl.ob0, Ob.k] at h5
    · rename_i hg
      obtain ⟨hm, hn⟩ := find_mem hf
      obtain ⟨a, b⟩ := items_all h1 i hm
      refine ⟨i, rfl, hm, hn, Classical.not_not.1 hg, h5, ?_, a⟩
      unfold content at b
      split at b
      · rename_i hc; exact absurd b hc
      · rename_i hc; exact Classical.not_not.1 hc
theorem put_root {d : Dc} (h : check d = 0) {i j : It} (hf : find d.items (root d).n = some i) (hn : j.num = i.num) (hg : j.gen = i.gen) (h7 : j.obj.k = 7) (hc : Vl.check 1 j.obj = 0) :
    put d j = (⟨d.items.map (swap j), d.trailer⟩, 0) ∧ check ⟨d.items.map (swap j), d.trailer⟩ = 0 := by
  obtain ⟨i', hf', hm, hin, hig, hk7, hci, hnum⟩ := root_item h
  rw [hf] at hf'
  cases hf'
  obtain ⟨h1, h2⟩ := check_parts.1 h
  obtain ⟨t1, t2, t3, t4, t5⟩ := trail_parts.1 h2
  have hnj : numbers j = true := by unfold numbers at hnum ⊢; rw [hn, hg]; exact hnum
  have hcj : content j = 0 := by
    unfold content
    rw [if_neg (by simp [hc]), if_neg]
    rintro (h8 | h9)
    · rw [h7] at h8; cases h8
    · unfold holds at h9; rw [h7] at h9; simp at h9
  have hex : ∃ x ∈ d.items, x.num = j.num := ⟨i, hm, hn.symm⟩
  have hchk : check ⟨d.items.map (swap j), d.trailer⟩ = 0 := by
    refine check_parts.2 ⟨items_map hnj hcj h1, trail_parts.2 ⟨t1, t2, t3, t4, ?_⟩⟩
    unfold follow
    rw [if_neg (by simp; exact t4)]
    have e : find (d.items.map (swap j)) (root ⟨d.items.map (swap j), d.trailer⟩).n = some j := by
      have := find_map (i := j) hex
      rw [show (root ⟨d.items.map (swap j), d.trailer⟩).n = j.num by rw [hn, hin]; rfl]
      exact this
    show (pick (find (d.items.map (swap j)) (root ⟨d.items.map (swap j), d.trailer⟩).n) _).k = 7
    rw [e]
    unfold pick
    simp only
    rw [if_neg (by rw [Classical.not_not, hg, hig]; rfl)]
    exact h7
  refine ⟨?_, hchk⟩
  unfold put
  rw [if_neg (by simp [h]), if_neg (by unfold alone; rw [if_neg (by simp [hnj])]; simp [hcj]), lay_map (check_rise h) hex]
  unfold right
  rw [if_neg (by simp [hchk])]
end Dk
end Go.Proofs.YtiklhhdohckfiaaGreatDoor
namespace Go.Proofs.YtiklhhdohckfiaaGreatDoor
set_option linter.unusedVariables false
set_option linter.unusedSimpArgs false
set_option linter.defProp false
open Go
namespace Lb
theorem check_nil : check [] = 0 := rfl
theorem rootI_eq {d : Dc} {i : It} (hf : Dk.find d.items (Dk.root d).n = some i) : rootI d = i := by
  unfold rootI
  rw [show (g d.trailer Dk.rootK).n = (Dk.root d).n from rfl, hf]; rfl
theorem set_eq {d : Dc} {l : List Lx} {i : It} {o : Ob} (hd : Dk.check d = 0) (hl : check l = 0) (hf : Dk.find d.items (Dk.root d).n = some i) (ho : Vl.set i.obj plK (treeO l) = (o, 0)) (hk : o.k = 7) (hc : Vl.check 1 o = 0) :
    set d l = (⟨d.items.map (Dk.swap ⟨i.num, i.gen, o⟩), d.trailer⟩, 0) ∧ Dk.check ⟨d.items.map (Dk.swap ⟨i.num, i.gen, o⟩), d.trailer⟩ = 0 := by
  have h := Dk.put_root hd hf (j := ⟨i.num, i.gen, o⟩) rfl rfl hk hc
  refine ⟨?_, h.2⟩
  unfold set
  rw [if_neg (by simp [hd]), if_neg (by simp [hl]), rootI_eq hf, ho]
  simp only [ne_eq, not_true, if_false]
  exact h.1
theorem set_null {o : Ob} (hk : o.k = 7) (hc : Vl.check 1 o = 0) : Vl.set o plK (treeO []) = (Vl.without o plK, 0) := by
  unfold Vl.set
  rw [if_neg (by simp [Vl.keyed, hk]), if_neg (by simp [hc]), if_pos (by rw [treeO, if_pos rfl]; rfl)]
theorem set_obj {i : Ob} {l : List Lx} (hk : i.k = 7) (hc : Vl.check 1 i = 0) (h : (Vl.set i plK (treeO l)).2 = 0) :
    ∃ o, Vl.set i plK (treeO l) = (o, 0) ∧ o.k = 7 ∧ Vl.check 1 o = 0 ∧ Vl.without o plK = Vl.without i plK ∧ Vl.get o plK = if l = [] then none else some (treeO l) := by
  have hkd : Vl.keyed i = true := by simp [Vl.keyed, hk]
  by_cases hl : l = []
  · subst hl
    refine ⟨_, set_null hk hc, hk, Vl.without_check hc hkd, Vl.without_twice _ _, ?_⟩
    rw [if_pos rfl]; exact Vl.get_without _ _
  · have ht : treeO l = .mk 7 0 0 [] [numsK] [arrO l] := by unfold treeO; rw [if_neg hl]
    have hr := (Vl.valid_keys hc hkd).2
    have e : Vl.set i plK (treeO l) = Vl.right (Vl.put i plK (treeO l)) := by
      unfold Vl.set
      rw [if_neg (by simp [hkd]), if_neg (by simp [hc]), if_neg (by rw [ht]; simp [Ob.k])]
    rw [e] at h ⊢
    unfold Vl.right at h ⊢
    split at h
    · rename_i h1; exact absurd h h1
    · rename_i h1
      rw [if_neg h1, if_neg hl]
      exact ⟨_, rfl, hk, Classical.not_not.1 h1, Vl.without_put hr, Vl.get_put hkd hr⟩
theorem get1 {k : List UInt8} {v : Ob} : Vl.get (.mk 7 0 0 [] [k] [v]) k = some v := by
  simp [Vl.get, Vl.keyed, Ob.k, Ob.keys, Ob.kids]
theorem obj_get {x : Lx} : Vl.get (obj x) kS = oS x ∧ Vl.get (obj x) kP = oP x ∧ Vl.get (obj x) kSt = oT x := by
  have n1 : (kP == kS) = false := by decide
  have n2 : (kP == kSt) = false := by decide
  have n3 : (kS == kP) = false := by decide
  have n4 : (kS == kSt) = false := by decide
  have n5 : (kSt == kP) = false := by decide
  have n6 : (kSt == kS) = false := by decide
  unfold obj
  generalize oS x = s
  generalize oP x = p
  generalize oT x = t
  cases s <;> cases p <;> cases t <;> simp [dct, Vl.get, Vl.keyed, Ob.k, Ob.keys, Ob.kids, List.idxOf_cons, n1, n2, n3, n4, n5, n6]
theorem obj_back {d : Dc} {x : Lx} (_ : Good x) : Dk.follow d (obj x) = obj x ∧ oneB (intO x.off) (obj x) = true ∧ oneX (intO x.off) (obj x) = x := by
  obtain ⟨g1, g2, g3⟩ := obj_get (x := x)
  refine ⟨?_, ?_, ?_⟩
  · unfold Dk.follow
    rw [if_pos (by simp [obj, dct, Ob.k])]
  · unfold oneB fieldB
    rw [g1, g2, g3]
    unfold oS oP oT
    split <;> split <;> split <;> simp [intO, nameO, strO, obj, dct, Ob.k]
  · unfold oneX g
    rw [g1, g2, g3]
    obtain ⟨a, s, p, t⟩ := x
    unfold oS oP oT
    simp only
    split <;> split <;> split <;> simp_all [intO, nameO, strO, Ob.k, Ob.s, Ob.n, Vl.ob0]
theorem pairs_back {d : Dc} : ∀ {l : List Lx}, (∀ x ∈ l, Good x) → pairs d (kidsO l) = some l
  | [], _ => by rw [kidsO, List.flatMap_nil, pairs]
  | x :: l, h => by
    obtain ⟨h1, h2, h3⟩ := obj_back (d := d) (h x List.mem_cons_self)
    rw [kids_cons, pairs, h1, h2, h3, pairs_back fun y hy => h y (List.mem_cons_of_mem _ hy)]
    rfl
theorem set_back {d : Dc} {l : List Lx} (h : (set d l).2 = 0) : read (set d l).1 = (l, 0) ∧ (set (set d l).1 []).2 = 0 ∧ (set d []).2 = 0 ∧ (set (set d l).1 []).1 = (set d []).1 := by
  have hd : Dk.check d = 0 := by
    unfold set at h
    split at h
    · rename_i h1; exact absurd h h1
    · rename_i h1; exact Classical.not_not.1 h1
  have hl : check l = 0 := by
    unfold set at h
    rw [if_neg (by simp [hd])] at h
    split at h
    · rename_i h1; exact absurd h h1
    · rename_i h1; exact Classical.not_not.1 h1
  obtain ⟨i, hf, hm, hin, hig, h7, hci, hnum⟩ := Dk.root_item hd
  have he : (Vl.set i.obj plK (treeO l)).2 = 0 := by
    unfold set at h
    rw [if_neg (by simp [hd]), if_neg (by simp [hl]), rootI_eq hf] at h
    split at h
    · rename_i h1; exact absurd h h1
    · rename_i h1; exact Classical.not_not.1 h1
  obtain ⟨o, hso, hok, hoc, how, hog⟩ := set_obj h7 hci he
  obtain ⟨hs, hx⟩ := set_eq hd hl hf hso hok hoc
  rw [hs]
  simp only
  have hex : ∃ j ∈ d.items, j.num = (⟨i.num, i.gen, o⟩ : It).num := ⟨i, hm, rfl⟩
  have hfx : Dk.find (d.items.map (Dk.swap ⟨i.num, i.gen, o⟩)) (Dk.root d).n = some ⟨i.num, i.gen, o⟩ := by
    rw [← hin]; exact Dk.find_map hex
  obtain ⟨s3, s3c⟩ := set_eq hd check_nil hf (set_null h7 hci) h7 (Vl.without_check hci (by simp [Vl.keyed, h7]))
  obtain ⟨s2, s2c⟩ := set_eq (d := ⟨d.items.map (Dk.swap ⟨i.num, i.gen, o⟩), d.trailer⟩) hx check_nil hfx (set_null hok hoc) hok (Vl.without_check hoc (by simp [Vl.keyed, hok]))
  rw [s2, s3]
  refine ⟨?_, rfl, rfl, ?_⟩
  · -- what is read
    obtain ⟨t1, t2⟩ := Dk.check_parts.1 hx
    obtain ⟨-, tk, -, tr, -⟩ := Dk.trail_parts.1 t2
    have hgr : Vl.get d.trailer Dk.rootK = some (Dk.root d) := by
      have tr' : (Dk.root d).k = 8 := tr
      unfold Dk.root at tr' ⊢
      cases hg : Vl.get d.trailer Dk.rootK with
      | none => rw [hg] at tr'; simp [Vl.ob0, Ob.k] at tr'
      | some v => rfl
    have hfo : Dk.follow ⟨d.items.map (Dk.swap ⟨i.num, i.gen, o⟩), d.trailer⟩ (Dk.root d) = o := by
      unfold Dk.follow
      rw [if_neg (by simp; exact tr)]
      simp only
      rw [hfx]
      unfold Dk.pick
      simp only
      rw [if_neg (by simp [hig])]
    have htr : tree ⟨d.items.map (Dk.swap ⟨i.num, i.gen, o⟩), d.trailer⟩ = if l = [] then Vl.ob0 else treeO l := by
      unfold tree
      have e1 : Dk.follow ⟨d.items.map (Dk.swap ⟨i.num, i.gen, o⟩), d.trailer⟩ d.trailer = d.trailer := by
        unfold Dk.follow
        rw [if_pos (by have : d.trailer.k = 7 := tk; omega)]
      simp only
      rw [e1, Dk.path, hgr]
      simp only
      rw [hfo, Dk.path, hog]
      by_cases hl0 : l = []
      · rw [if_pos hl0, if_pos hl0]
      · rw [if_neg hl0, if_neg hl0]
        simp only
        rw [Dk.path]
        unfold Dk.follow
        rw [if_pos (by rw [treeO, if_neg hl0]; simp [Ob.k])]
    unfold read
    rw [if_neg (by simp [hx]), htr]
    by_cases hl0 : l = []
    · subst hl0
      simp [Vl.ob0, Ob.k]
    · have ht : treeO l = .mk 7 0 0 [] [numsK] [arrO l] := by unfold treeO; rw [if_neg hl0]
      have hn : nums ⟨d.items.map (Dk.swap ⟨i.num, i.gen, o⟩), d.trailer⟩ = arrO l := by
        unfold nums g
        rw [htr, if_neg hl0, ht, get1]
        simp only [Option.getD_some]
        unfold Dk.follow
        rw [if_pos (by simp [arrO, Ob.k])]
      have hkl : (arrO l).kids = kidsO l := rfl
      rw [if_neg hl0, hn, hkl, if_neg (by rw [ht]; simp [Ob.k]), if_neg, pairs_back fun x hx => (good_of hl x hx).1]
      · unfold told2
        simp only
        rw [if_neg (by simp [hl])]
      · rw [ht, kids_len]
        simp [arrO, Ob.k]
  · have e : Dk.swap ⟨i.num, i.gen, Vl.without o plK⟩ = Dk.swap ⟨i.num, i.gen, Vl.without i.obj plK⟩ := by rw [how]
    show (⟨(d.items.map (Dk.swap ⟨i.num, i.gen, o⟩)).map (Dk.swap ⟨i.num, i.gen, Vl.without o plK⟩), d.trailer⟩ : Dc) = ⟨d.items.map (Dk.swap ⟨i.num, i.gen, Vl.without i.obj plK⟩), d.trailer⟩
    rw [e, Dk.swap_swap (i := ⟨i.num, i.gen, o⟩) (i' := ⟨i.num, i.gen, Vl.without i.obj plK⟩) rfl]
end Lb
end Go.Proofs.YtiklhhdohckfiaaGreatDoor
namespace Go.Proofs.YtiklhhdohckfiaaGreatDoor
set_option linter.unusedVariables false
set_option linter.unusedSimpArgs false
set_option linter.defProp false
open Go
structure Lb.Sm (B : Nat) (d : Dc) : Prop where
  len : d.items.length ≤ B
  items : ∀ i ∈ d.items, i.obj.wt ≤ B
  trailer : d.trailer.wt ≤ B
namespace Lb
theorem Sm.ok {B : Nat} {d : Dc} (h : Sm B d) (hB : B ≤ 900000000) : Dk.Ok d := ⟨by have := h.len; omega, fun i hi => by have := h.items i hi; omega, by have := h.trailer; omega⟩
theorem sm0 {B : Nat} (hB : 6 ≤ B) : Sm B Dk.dc0 := ⟨by simp [Dk.dc0], by simp [Dk.dc0], by simp [Dk.dc0, Vl.ob0, Ob.wt, Ob.wts, Pl.tot]; omega⟩
theorem right_sm {B : Nat} {d : Dc} (h : Sm B d) (hB : 6 ≤ B) : Sm B (Dk.right d).1 := by
  unfold Dk.right
  split
  · exact sm0 hB
  · exact h
theorem put_sm {B C : Nat} {d : Dc} {i : It} (h : Sm B d) (hi : i.obj.wt ≤ C) (hBC : B + 1 ≤ C) (hB : 6 ≤ B) : Sm C (Dk.put d i).1 := by
  unfold Dk.put
  split
  · exact sm0 (by omega)
  split
  · exact sm0 (by omega)
  refine right_sm ⟨?_, fun x hx => ?_, ?_⟩ (by omega)
  · have := h.len
    show (Dk.lay d.items i).length ≤ C
    cases hh : Dk.hit d.items i.num with
    | true => rw [Dk.lay_len_hit hh]; omega
    | false => rw [Dk.lay_len_miss hh]; omega
  · rcases Dk.lay_mem hx with rfl | hx
    · exact hi
    · have := h.items x hx; omega
  · have := h.trailer; show d.trailer.wt ≤ C; omega
theorem rootI_wt {B : Nat} {d : Dc} (h : Sm B d) (hB : 6 ≤ B) : (rootI d).obj.wt ≤ B := by
  unfold rootI
  cases hfi : Dk.find d.items (g d.trailer Dk.rootK).n with
  | none => simp [Dk.it0, Vl.ob0, Ob.wt, Ob.wts, Pl.tot]; omega
  | some i => exact h.items i (List.mem_of_find?_eq_some hfi)
theorem set_sm {B : Nat} {d : Dc} {l : List Lx} (h : Sm B d) (hB : 6 ≤ B) : Sm (B + 3000000) (set d l).1 := by
  unfold set
  split
  · exact sm0 (by omega)
  split
  · exact sm0 (by omega)
  rename_i hl
  have hl := Classical.not_not.1 hl
  split
  · exact sm0 (by omega)
  have h1 := rootI_wt h hB
  have h2 := tree_wt hl
  have h3 := Vl.set_wt (rootI d).obj plK (treeO l)
  have h4 : plK.length = 10 := rfl
  exact put_sm h (by show (Vl.set (rootI d).obj plK (treeO l)).1.wt ≤ _; omega) (by omega) hB
end Lb
end Go.Proofs.YtiklhhdohckfiaaGreatDoor
namespace Go.Proofs.YtiklhhdohckfiaaGreatDoor
set_option linter.unusedVariables false
set_option linter.unusedSimpArgs false
set_option linter.defProp false
set_option maxRecDepth 20000
open Eng Go.RowKit

section
variable {P : Program} {S : World → Prop} {K : Value → Prop}
theorem hd_ieq {T : TypeId} {xo yo : Operand} {k : IntKind} {a b : Int} (h : K (.bool (decide (a = b)))) : HDo P S (mEq .eql T xo yo (.int k a) (.int k b)) K := hd_pure _ (fun _ => mv_run (by simp [eqGuard, binOp, Op.intCmp, int_beq])) h
theorem hd_seq {T : TypeId} {xo yo : Operand} {a b : List UInt8} (h : K (.bool (decide (a = b)))) : HDo P S (mEq .eql T xo yo (.string ⟨a.toArray⟩) (.string ⟨b.toArray⟩)) K := by
  refine hd_pure _ (fun _ => mv_run ?_) h
  have e : (a == b) = decide (a = b) := by by_cases h : a = b <;> simp [h]
  simp [eqGuard, binOp, Op.stringOp, str_toList, e]
theorem hd_pt {a b : Value} (h : K a) : HDo P S (mPick (.bool true) a b) K := hd_pure _ (fun _ => by simp [mPick, asBool]) h
theorem hd_str {T : TypeId} {xo yo : Operand} {a : List UInt8} (h : K (.bool true)) : HDo P S (mEq .eql T xo yo (.string ⟨a.toArray⟩) (.string ⟨a.toArray⟩)) K := hd_seq (by rw [decide_eq_true rfl]; exact h)
theorem hd_int {T : TypeId} {xo yo : Operand} {k : IntKind} {a : Int} (h : K (.bool true)) : HDo P S (mEq .eql T xo yo (.int k a) (.int k a)) K := hd_ieq (by rw [decide_eq_true rfl]; exact h)
end
theorem sml_1 : Lb.roman 1994 = [77, 67, 77, 88, 67, 73, 86] := by decide +kernel
theorem sml_2 : Lb.roman 4000 = [] := by decide +kernel
theorem sml_3 : Lb.letters 28 = [66, 66] := by decide +kernel
theorem sml_4 : Lb.letters 677 = [] := by decide +kernel
theorem sml_5 : Lb.text Lb.two 1 = [105, 105] := by decide +kernel
theorem sml_6 : Lb.text Lb.two 3 = [50] := by decide +kernel
theorem sml_7 : Lb.text [] 0 = [49] := by decide +kernel
theorem sml_8 : Lb.text Lb.two (-1) = [] := by decide +kernel
theorem sml_9 : (Lb.set Lb.docS Lb.two).2 = 0 := by decide +kernel
theorem sml_10 : Dk.same (Lb.set Lb.docS []).1 Lb.docS = true := by decide +kernel
theorem sml_11 : Lb.read Lb.docS = ([], 0) := by decide +kernel
theorem sml_12 : Lb.read Dk.dc0 = ([], 10) := by decide +kernel
theorem sml_13 : Lb.check [⟨0, [120], [], 1⟩] = 1 := by decide +kernel
theorem docS_sm : Lb.Sm 1000 Lb.docS := by
  refine ⟨by decide, fun i hi => ?_, by decide +kernel⟩
  have : i = Lb.itS := by simpa [Lb.docS] using hi
  rw [this]; decide +kernel
theorem fit_two : Lb.Fit Lb.two := ⟨by decide, by decide⟩
theorem fit_nil : Lb.Fit [] := ⟨by decide, by decide⟩
theorem llives_ret (w : World) (ht : Tb w) : Ret Tryz.prog 21 #[] w (fun v w' => v = .bool true ∧ Below w.heap.size w w') := by
  refine ret_of fun K hK => S_foliantlaw38_lives_ok ?_
  unfold S_foliantlaw38_lives
  have hM := Mem.all_has w
  generalize Mem.all w = M at hM
  have ho : OwnS M.A w w [.mem M] := OwnS.memS hM
  have s1 := docS_sm
  have s2 : Lb.Sm 3001000 (Lb.set Lb.docS Lb.two).1 := Lb.set_sm s1 (by omega)
  have s3 : Lb.Sm 6001000 (Lb.set (Lb.set Lb.docS Lb.two).1 []).1 := Lb.set_sm s2 (by omega)
  obtain ⟨bk1, bk2, bk3, bk4⟩ := Lb.set_back sml_9
  refine c_mem ho 0 rfl (sample_ret M w hM) fun x N1 w1 hle1 hx ho => ?_
  refine c_mem ho 0 rfl (two_ret N1 w1 (ho.hasM 0 rfl)) fun y N2 w2 hle2 hy ho => ?_
  refine c_mem ho 0 rfl (lset_ret Lb.docS Lb.two x y N2 w2 (s1.ok (by omega)) (by decide) (fun i hi => by have := s1.items i hi; omega) fit_two (ho.hasM 0 rfl) (hx.le hle2) hy) ?_
  rintro _ N3 w3 hle3 ⟨d, rfl, hd⟩ ho
  rw [sml_9]
  obtain ⟨di, dk, dc, dcs, rfl, hda⟩ := hd
  simp only [errV, ex]
  refine o_dca ho fun b1 w4 ho => ?_
  refine dc_put 0 hda.items.one hda.trailer.oneK hda.trailer.oneC ho rfl fun w5 ho => ?_
  have ho : OwnS M.A w w5 [dcE b1 (Lb.set Lb.docS Lb.two).1 di dk dc, .mem N3] := ho
  rw [dc_v ho 0 rfl]
  refine c_mem ho 1 rfl (lread_ret (Lb.set Lb.docS Lb.two).1 _ N3 w5 (s2.ok (by omega)) (ho.hasM 1 rfl) hda.dv) ?_
  rintro _ N4 w6 hle4 ⟨lv, rfl, hlv⟩ ho
  rw [bk1] at hlv ⊢
  simp only [errV, ex]
  rw [dc_v ho 0 rfl]
  refine c_mem ho 1 rfl (lset_ret (Lb.set Lb.docS Lb.two).1 [] _ nilS N4 w6 (s2.ok (by omega)) (by have := s2.len; omega) (fun i hi => by have := s2.items i hi; omega) fit_nil (ho.hasM 1 rfl) (hda.dv.le hle4) (lb_nil _)) ?_
  rintro _ N5 w7 hle5 ⟨e, rfl, he⟩ ho
  rw [bk2]
  obtain ⟨ei, ek, ec, ecs, rfl, hea⟩ := he
  simp only [errV, ex]
  refine o_dca ho fun b5 w8 ho => ?_
  refine dc_put 0 hea.items.one hea.trailer.oneK hea.trailer.oneC ho rfl fun w9 ho => ?_
  refine c_mem ho 2 rfl (sample_ret N5 w9 (ho.hasM 2 rfl)) fun x2 N6 w10 hle6 hx2 ho => ?_
  refine c_mem ho 2 rfl (lread_ret Lb.docS x2 N6 w10 (s1.ok (by omega)) (ho.hasM 2 rfl) hx2) ?_
  rintro _ N7 w11 hle7 ⟨lm, rfl, hlm⟩ ho
  rw [sml_11] at hlm ⊢
  simp only [errV, ex]
  rw [m_dc0]
  refine c_mem ho 2 rfl (lread_ret Dk.dc0 _ N7 w11 ((Lb.sm0 (B := 6) (by omega)).ok (by omega)) (ho.hasM 2 rfl) (dc0_at N7).dv) ?_
  rintro _ N8 w12 hle8 ⟨lo, rfl, hlo⟩ ho
  rw [sml_12] at hlo ⊢
  simp only [errV, ex]
  have ho : OwnS M.A w w12 [dcE b5 (Lb.set (Lb.set Lb.docS Lb.two).1 []).1 ei ek ec, dcE b1 (Lb.set Lb.docS Lb.two).1 di dk dc, .mem N8] := ho
  have ho := ho.drew
  have bl : ∀ {W : World} {N : Mem} {L : List Ent}, OwnS M.A w W (dcE b5 (Lb.set (Lb.set Lb.docS Lb.two).1 []).1 ei ek ec :: dcE b1 (Lb.set Lb.docS Lb.two).1 di dk dc :: .mem N :: L) → M.le N → Below w.heap.size w W := fun ho hle => (ho.toGives 2 rfl hle hM).below
  have l8 : M.le N8 := ((((((hle1.trans hle2).trans hle3).trans hle4).trans hle5).trans hle6).trans hle7).trans hle8
  refine ⟨(dcE b5 (Lb.set (Lb.set Lb.docS Lb.two).1 []).1 ei ek ec).is, ho.at_ 0 rfl, ?_⟩
  refine c_below ho (R := fun v => v = .string ⟨(Lb.roman 1994).toArray⟩) (lroman_ret 1994 _) ?_
  rintro _ w13 rfl ho
  rw [sml_1]
  refine ⟨ho.at_ 0 rfl, hd_str ?_⟩
  try simp only [rs]
  refine c_below ho (R := fun v => v = .string ⟨(Lb.roman 4000).toArray⟩) (lroman_ret 4000 _) ?_
  rintro _ w14 rfl ho
  rw [sml_2]
  refine ⟨ho.at_ 0 rfl, ?_⟩
  try simp only [gq]
  refine hd_str (hd_pt ?_)
  try simp only [rs]
  refine c_below ho (R := fun v => v = .string ⟨(Lb.letters 28).toArray⟩) (lletters_ret 28 (by omega) _) ?_
  rintro _ w15 rfl ho
  rw [sml_3]
  refine ⟨ho.at_ 0 rfl, ?_⟩
  try simp only [gq]
  refine hd_str (hd_pt ?_)
  try simp only [rs]
  refine c_below ho (R := fun v => v = .string ⟨(Lb.letters 677).toArray⟩) (lletters_ret 677 (by omega) _) ?_
  rintro _ w16 rfl ho
  rw [sml_4]
  refine ⟨ho.at_ 0 rfl, ?_⟩
  try simp only [gq]
  refine hd_str (hd_pt ?_)
  try simp only [rs]
  refine c_mem ho 2 rfl (two_ret N8 w16 (ho.hasM 2 rfl)) fun y9 N9 w17 hle9 hy9 ho => ?_
  have l9 := l8.trans hle9
  refine ⟨ho.at_ 0 rfl, ?_⟩
  try simp only [rs]
  refine c_below ho (R := fun v => v = .string ⟨(Lb.text Lb.two 1).toArray⟩) (ltext_ret Lb.two 1 y9 N9 w17 fit_two (ho.hasM 2 rfl) hy9 (ht.mono (bl ho l9))) ?_
  rintro _ w18 rfl ho
  rw [sml_5]
  refine ⟨ho.at_ 0 rfl, ?_⟩
  try simp only [gq]
  refine hd_str (hd_pt ?_)
  try simp only [rs]
  refine c_mem ho 2 rfl (two_ret N9 w18 (ho.hasM 2 rfl)) fun y10 N10 w19 hle10 hy10 ho => ?_
  have l10 := l9.trans hle10
  refine ⟨ho.at_ 0 rfl, ?_⟩
  try simp only [rs]
  refine c_below ho (R := fun v => v = .string ⟨(Lb.text Lb.two 3).toArray⟩) (ltext_ret Lb.two 3 y10 N10 w19 fit_two (ho.hasM 2 rfl) hy10 (ht.mono (bl ho l10))) ?_
  rintro _ w20 rfl ho
  rw [sml_6]
  refine ⟨ho.at_ 0 rfl, ?_⟩
  try simp only [gq]
  refine hd_str (hd_pt ?_)
  try simp only [rs]
  refine c_below ho (R := fun v => v = .string ⟨(Lb.text [] 0).toArray⟩) (ltext_ret [] 0 nilS N10 w20 fit_nil (ho.hasM 2 rfl) (lb_nil _) (ht.mono (bl ho l10))) ?_
  rintro _ w21 rfl ho
  rw [sml_7]
  refine ⟨ho.at_ 0 rfl, ?_⟩
  try simp only [gq]
  refine hd_str (hd_pt ?_)
  try simp only [rs]
  refine c_mem ho 2 rfl (two_ret N10 w21 (ho.hasM 2 rfl)) fun y11 N11 w22 hle11 hy11 ho => ?_
  have l11 := l10.trans hle11
  refine ⟨ho.at_ 0 rfl, ?_⟩
  try simp only [rs]
  refine c_below ho (R := fun v => v = .string ⟨(Lb.text Lb.two (-1)).toArray⟩) (ltext_ret Lb.two (-1) y11 N11 w22 fit_two (ho.hasM 2 rfl) hy11 (ht.mono (bl ho l11))) ?_
  rintro _ w23 rfl ho
  rw [sml_8]
  refine ⟨ho.at_ 0 rfl, ?_⟩
  try simp only [gq]
  refine hd_str (hd_pt ?_)
  try simp only [gq]
  refine hd_int (hd_pt ?_)
  try simp only [gq]
  refine hd_int (hd_pt ?_)
  try simp only [gq, rs]
  refine c_mem ho 2 rfl (two_ret N11 w23 (ho.hasM 2 rfl)) fun y12 N12 w24 hle12 hy12 ho => ?_
  have l12 := l11.trans hle12
  refine ⟨ho.at_ 0 rfl, ?_⟩
  try simp only [rs]
  have h4 : N4.le N12 := ((((((hle5.trans hle6).trans hle7).trans hle8).trans hle9).trans hle10).trans hle11).trans hle12
  refine c_below ho (R := fun v => v = .bool (decide (Lb.two = Lb.two))) (lsame_ret lv y12 Lb.two Lb.two N12 w24 (ho.hasM 2 rfl) (hlv.le h4) hy12 (by decide)) ?_
  rintro _ w25 rfl ho
  rw [decide_eq_true (rfl : Lb.two = Lb.two)]
  refine ⟨ho.at_ 0 rfl, hd_pt ?_⟩
  try simp only [gq]
  refine hd_int (hd_pt ?_)
  try simp only [gq]
  refine hd_do (dcV (Lb.set (Lb.set Lb.docS Lb.two).1 []).1 ei ek ec) (fun W h => run_load_at (AtV.agg aggDc (cs := dcC (Lb.set (Lb.set Lb.docS Lb.two).1 []).1 ei ek ec) rfl fun j u hj => by rw [Nat.zero_add]; exact cells_cell (T := 44) h hj)) ?_
  try simp only [rs]
  refine c_mem ho 2 rfl (sample_ret N12 w25 (ho.hasM 2 rfl)) fun x13 N13 w26 hle13 hx13 ho => ?_
  have l13 := l12.trans hle13
  refine ⟨ho.at_ 0 rfl, ?_⟩
  try simp only [rs]
  have h5 : N5.le N13 := (((((((hle6.trans hle7).trans hle8).trans hle9).trans hle10).trans hle11).trans hle12).trans hle13)
  refine c_below ho (R := fun v => v = .bool (Dk.same (Lb.set (Lb.set Lb.docS Lb.two).1 []).1 Lb.docS)) (rsameD_ret _ _ _ _ N13 w26 (by have := s3.len; omega) (fun i hi => by have := s3.items i hi; omega) (by have := s3.trailer; omega) (ho.hasM 2 rfl) (hea.dv.le h5) hx13) ?_
  rintro _ w27 rfl ho
  rw [bk4, sml_10]
  refine ⟨ho.at_ 0 rfl, hd_pt ?_⟩
  try simp only [gq]
  refine hd_int (hd_pt ?_)
  try simp only [gq]
  refine hd_pure (.int .i64 (([] : List Lx).length : Int)) (fun W => ?_) ?_
  · obtain ⟨a, cap, rfl, _⟩ := hlm.form
    exact run_len_sl Tryz.underlying46
  refine hd_int (a := 0) (hd_pt ?_)
  try simp only [gq]
  refine hd_int (hd_pt ?_)
  try simp only [gq]
  refine hd_pure (lbV ⟨0, [120], [], 1⟩) (fun W => by kernel_rfl) ?_
  try simp only [rs]
  refine o_lbs1 ⟨0, [120], [], 1⟩ ho fun b14 w28 ho => ?_
  refine ⟨ho.at_ 1 rfl, ?_⟩
  try simp only [rs]
  obtain ⟨N14, hle14, hrow, ho2⟩ := OwnS.freezeU (L := [dcE b5 (Lb.set (Lb.set Lb.docS Lb.two).1 []).1 ei ek ec, dcE b1 (Lb.set Lb.docS Lb.two).1 di dk dc, .mem N13]) (OwnS.toU (cs := lbC ⟨0, [120], [], 1⟩) ho 4 1 1 rfl (by omega) (by omega)) 2 rfl
  have ho : OwnS M.A w w28 [dcE b5 (Lb.set (Lb.set Lb.docS Lb.two).1 []).1 ei ek ec, dcE b1 (Lb.set Lb.docS Lb.two).1 di dk dc, .mem N14] := ho2
  have l14 := l13.trans hle14
  refine c_below ho (R := fun v => v = .int .i64 (Lb.check [⟨0, [120], [], 1⟩])) (lcheck_ret [⟨0, [120], [], 1⟩] _ N14 w28 ⟨by decide, by decide⟩ (ho.hasM 2 rfl) hrow) ?_
  rintro _ w29 rfl ho
  rw [sml_13]
  refine ⟨ho.at_ 0 rfl, ?_⟩
  try simp only [gq]
  refine hd_int (hd_pt ?_)
  exact hK _ _ ⟨rfl, bl ho l14⟩
end Go.Proofs.YtiklhhdohckfiaaGreatDoor
namespace Go.Proofs.YtiklhhdohckfiaaGreatDoor
set_option linter.unusedVariables false
set_option linter.unusedSimpArgs false
set_option linter.defProp false
set_option maxRecDepth 20000
open Eng Go.RowKit

theorem same_refl (d : Dc) : Dk.same d d = true := (Dk.same_iff d d).2 rfl
theorem labelSets_ret (d : Dc) (l : List Lx) (dv v : Value) (w : World) (ht : Tb w) (hdv : DV (InW w) w dv d) (hsm : Lb.Sm 1048576 d) (hsz : Dk.size d ≤ 1000000000) (hs : SlA (InW w) w v 4 l.length (lbsC l)) (hf : Lb.Fit l) : Ret Tryz.prog 7 #[dv, v] w (fun v w' => v = .bool true ∧ Below w.heap.size w w') := by
  have hM := Mem.all_has w
  have hdv : DV (Mem.all w).A (Mem.all w).w dv d := hdv
  have hs : SlA (Mem.all w).A (Mem.all w).w v 4 l.length (lbsC l) := hs
  generalize Mem.all w = M at hM hdv hs
  have hd := hsm.ok (by omega)
  have hss := Lb.set_sm (l := l) hsm (by omega)
  obtain ⟨vi, dk, dc, dcs, rfl, hda⟩ := hdv
  refine ret_of fun K hK => S_foliantlaw38_LabelSets_ok ?_
  unfold S_foliantlaw38_LabelSets
  refine o_dcb d hda.items.one hda.trailer.oneK hda.trailer.oneC (OwnS.memS hM) fun b2 w1 ho => ?_
  have bl : ∀ {W : World} {N : Mem} {L : List Ent}, OwnS M.A w W (dcE b2 d vi dk dc :: .mem N :: L) → M.le N → Below w.heap.size w W := fun ho hle => (ho.toGives 1 rfl hle hM).below
  have liv : ∀ {W : World} {N : Mem} {L : List Ent} {PK : List PanicEntry → World → Prop}, OwnS M.A w W (dcE b2 d vi dk dc :: .mem N :: L) → M.le N → CallX Tryz.prog 21 #[] W PK fun t W => K (.returned t) W := by
    intro W N L PK ho hle
    refine c_below ho (R := fun v => v = .bool true) (llives_ret W (ht.mono (bl ho hle))) ?_
    rintro _ w3 rfl ho
    exact hK _ _ ⟨rfl, bl ho hle⟩
  rw [dc_v ho 0 rfl]
  refine c_mem ho 1 rfl (small_retL d _ M w1 hd (by omega) (ho.hasM 1 rfl) hda.dv) ?_
  rintro _ N w2 hle ⟨b, rfl⟩ ho
  cases b with
  | false =>
    simp only [rs, Bool.not_false, g_un]
    exact liv ho hle
  | true =>
  simp only [rs, Bool.not_true]
  refine c_mem ho 1 rfl (light_retL l v N w2 hf.1 (ho.hasM 1 rfl) (hs.le hle)) ?_
  rintro _ N2 w3 hle2 ⟨b, rfl⟩ ho
  have h2 := hle.trans hle2
  cases b with
  | false =>
    simp only [rs, Bool.not_false, g_un]
    exact liv ho h2
  | true =>
  simp only [rs, Bool.not_true]
  have hn := hsm.len
  have hit : ∀ i ∈ d.items, i.obj.wt ≤ 900000000 := fun i hi => by have := hsm.items i hi; omega
  rw [dc_v ho 0 rfl]
  refine c_mem ho 1 rfl (lset_ret d l _ v N2 w3 hd (by omega) hit hf (ho.hasM 1 rfl) (hda.le h2).dv (hs.le h2)) ?_
  rintro _ N3 w4 hle3 ⟨x, rfl, hx⟩ ho
  have h3 := h2.trans hle3
  obtain ⟨xi, xk, xc, xcs, rfl, hxa⟩ := hx
  simp only [errV, ex]
  refine o_dca ho fun b5 w5 ho => ?_
  refine dc_put 0 hxa.items.one hxa.trailer.oneK hxa.trailer.oneC ho rfl fun w6 ho => ?_
  have ho : OwnS M.A w w6 [dcE b5 (Lb.set d l).1 xi xk xc, dcE b2 d vi dk dc, .mem N3] := ho
  rw [dc_v ho 1 rfl]
  refine c_mem ho 2 rfl (rsetL_ret d l _ v N3 w6 hd (by omega) hit hf (ho.hasM 2 rfl) (hda.le h3).dv (hs.le h3)) ?_
  rintro _ N4 w7 hle4 ⟨y, rfl, hy⟩ ho
  have h4 := h3.trans hle4
  obtain ⟨yi, yk, yc, ycs, rfl, hya⟩ := hy
  simp only [errV, ex]
  refine o_dca ho fun b7 w8 ho => ?_
  refine dc_put 0 hya.items.one hya.trailer.oneK hya.trailer.oneC ho rfl fun w9 ho => ?_
  have ho : OwnS M.A w w9 [dcE b7 (Lb.set d l).1 yi yk yc, dcE b5 (Lb.set d l).1 xi xk xc, dcE b2 d vi dk dc, .mem N4] := ho
  rw [dc_v ho 1 rfl, dc_v ho 0 rfl]
  refine c_below ho (R := fun v => v = .bool (Dk.same (Lb.set d l).1 (Lb.set d l).1)) (rsameD_ret _ _ _ _ N4 w9 (by have := hss.len; omega) (fun i hi => by have := hss.items i hi; omega) (by have := hss.trailer; omega) (ho.hasM 3 rfl) (hxa.dv.le hle4) hya.dv) ?_
  rintro _ w10 rfl ho
  rw [same_refl]
  try simp only [rs, decide_true]
  refine c_below ho (R := fun v => v = .int .i64 (Lb.check l)) (lcheck_ret l v N4 w10 hf (ho.hasM 3 rfl) (hs.le h4)) ?_
  rintro _ w11 rfl ho
  try simp only [rs]
  refine c_below ho (R := fun v => v = .int .i64 (Lb.check l)) (rcheckL_ret' l v N4 w11 hf (ho.hasM 3 rfl) (hs.le h4)) ?_
  rintro _ w12 rfl ho
  try simp only [rs, decide_true]
  have ho := ho.tail.tail
  refine c_below ho (R := fun v => v = .bool true) (llives_ret w12 (ht.mono (bl ho h4))) ?_
  rintro _ w13 rfl ho
  try simp only [rs]
  exact hK _ _ ⟨rfl, bl ho h4⟩
theorem labelBack_ret (d : Dc) (l : List Lx) (dv v : Value) (w : World) (ht : Tb w) (hdv : DV (InW w) w dv d) (hsm : Lb.Sm 1048576 d) (hsz : Dk.size d ≤ 1000000000) (hs : SlA (InW w) w v 4 l.length (lbsC l)) (hf : Lb.Fit l) : Ret Tryz.prog 9 #[dv, v] w (fun v w' => v = .bool true ∧ Below w.heap.size w w') := by
  have hM := Mem.all_has w
  have hdv : DV (Mem.all w).A (Mem.all w).w dv d := hdv
  have hs : SlA (Mem.all w).A (Mem.all w).w v 4 l.length (lbsC l) := hs
  generalize Mem.all w = M at hM hdv hs
  have hd := hsm.ok (by omega)
  have s2 := Lb.set_sm (l := l) hsm (by omega)
  have s3 := Lb.set_sm (l := []) s2 (by omega)
  have s4 := Lb.set_sm (l := []) hsm (by omega)
  obtain ⟨vi, dk, dc, dcs, rfl, hda⟩ := hdv
  refine ret_of fun K hK => S_foliantlaw38_LabelBack_ok ?_
  unfold S_foliantlaw38_LabelBack
  refine o_dcb d hda.items.one hda.trailer.oneK hda.trailer.oneC (OwnS.memS hM) fun b2 w1 ho => ?_
  have bl : ∀ {W : World} {N : Mem} {L : List Ent}, OwnS M.A w W (dcE b2 d vi dk dc :: .mem N :: L) → M.le N → Below w.heap.size w W := fun ho hle => (ho.toGives 1 rfl hle hM).below
  have liv : ∀ {W : World} {N : Mem} {L : List Ent} {PK : List PanicEntry → World → Prop}, OwnS M.A w W (dcE b2 d vi dk dc :: .mem N :: L) → M.le N → CallX Tryz.prog 21 #[] W PK fun t W => K (.returned t) W := by
    intro W N L PK ho hle
    refine c_below ho (R := fun v => v = .bool true) (llives_ret W (ht.mono (bl ho hle))) ?_
    rintro _ w3 rfl ho
    exact hK _ _ ⟨rfl, bl ho hle⟩
  rw [dc_v ho 0 rfl]
  refine c_mem ho 1 rfl (small_retL d _ M w1 hd (by omega) (ho.hasM 1 rfl) hda.dv) ?_
  rintro _ N w2 hle ⟨b, rfl⟩ ho
  cases b with
  | false =>
    simp only [rs, Bool.not_false, g_un]
    exact liv ho hle
  | true =>
  simp only [rs, Bool.not_true]
  refine c_mem ho 1 rfl (light_retL l v N w2 hf.1 (ho.hasM 1 rfl) (hs.le hle)) ?_
  rintro _ N2 w3 hle2 ⟨b, rfl⟩ ho
  have h2 := hle.trans hle2
  cases b with
  | false =>
    simp only [rs, Bool.not_false, g_un]
    exact liv ho h2
  | true =>
  simp only [rs, Bool.not_true]
  have hn := hsm.len
  have hit : ∀ i ∈ d.items, i.obj.wt ≤ 900000000 := fun i hi => by have := hsm.items i hi; omega
  rw [dc_v ho 0 rfl]
  refine c_mem ho 1 rfl (lset_ret d l _ v N2 w3 hd (by omega) hit hf (ho.hasM 1 rfl) (hda.le h2).dv (hs.le h2)) ?_
  rintro _ N3 w4 hle3 ⟨x, rfl, hx⟩ ho
  have h3 := h2.trans hle3
  obtain ⟨xi, xk, xc, xcs, rfl, hxa⟩ := hx
  simp only [errV, ex]
  refine o_dca ho fun b5 w5 ho => ?_
  refine dc_put 0 hxa.items.one hxa.trailer.oneK hxa.trailer.oneC ho rfl fun w6 ho => ?_
  have ho : OwnS M.A w w6 [dcE b5 (Lb.set d l).1 xi xk xc, dcE b2 d vi dk dc, .mem N3] := ho
  simp only [n_err]
  by_cases he : (Lb.set d l).2 = 0
  case neg =>
    simp only [he, ne_eq, not_false_eq_true, decide_true, i_t]
    exact liv ho.tail h3
  simp only [he, ne_eq, not_true, decide_false, i_f]
  obtain ⟨k1, k2, k3, k4⟩ := Lb.set_back he
  rw [dc_v ho 0 rfl]
  refine c_mem ho 2 rfl (lread_ret (Lb.set d l).1 _ N3 w6 (s2.ok (by omega)) (ho.hasM 2 rfl) hxa.dv) ?_
  rintro _ N4 w7 hle4 ⟨m, rfl, hm⟩ ho
  rw [k1] at hm ⊢
  simp only [errV, ex]
  have h4 := h3.trans hle4
  rw [dc_v ho 0 rfl]
  refine c_mem ho 2 rfl (lset_ret (Lb.set d l).1 [] _ nilS N4 w7 (s2.ok (by omega)) (by have := s2.len; omega) (fun i hi => by have := s2.items i hi; omega) fit_nil (ho.hasM 2 rfl) (hxa.dv.le hle4) (lb_nil _)) ?_
  rintro _ N5 w8 hle5 ⟨y, rfl, hy⟩ ho
  have h5 := h4.trans hle5
  rw [k2]
  obtain ⟨yi, yk, yc, ycs, rfl, hya⟩ := hy
  simp only [errV, ex]
  refine o_dca ho fun b9 w9 ho => ?_
  refine dc_put 0 hya.items.one hya.trailer.oneK hya.trailer.oneC ho rfl fun w10 ho => ?_
  have ho : OwnS M.A w w10 [dcE b9 (Lb.set (Lb.set d l).1 []).1 yi yk yc, dcE b5 (Lb.set d l).1 xi xk xc, dcE b2 d vi dk dc, .mem N5] := ho
  rw [dc_v ho 2 rfl]
  refine c_mem ho 3 rfl (lset_ret d [] _ nilS N5 w10 hd (by omega) hit fit_nil (ho.hasM 3 rfl) (hda.le h5).dv (lb_nil _)) ?_
  rintro _ N6 w11 hle6 ⟨z, rfl, hz⟩ ho
  have h6 := h5.trans hle6
  rw [k3]
  obtain ⟨zi, zk, zc, zcs, rfl, hza⟩ := hz
  simp only [errV, ex]
  refine o_dca ho fun b11 w12 ho => ?_
  refine dc_put 0 hza.items.one hza.trailer.oneK hza.trailer.oneC ho rfl fun w13 ho => ?_
  have ho : OwnS M.A w w13 [dcE b11 (Lb.set d []).1 zi zk zc, dcE b9 (Lb.set (Lb.set d l).1 []).1 yi yk yc, dcE b5 (Lb.set d l).1 xi xk xc, dcE b2 d vi dk dc, .mem N6] := ho
  try simp only [rs, decide_true]
  refine c_below ho (R := fun v => v = .bool (decide (l = l))) (lsame_ret v m l l N6 w13 (ho.hasM 4 rfl) (hs.le h6) (hm.le (hle5.trans hle6)) (by have := hf.1; omega)) ?_
  rintro _ w14 rfl ho
  rw [decide_eq_true (rfl : l = l)]
  simp only [rs, decide_true, dc_v ho 1 rfl, dc_v ho 0 rfl]
  refine c_below ho (R := fun v => v = .bool (Dk.same (Lb.set (Lb.set d l).1 []).1 (Lb.set d []).1)) (rsameD_ret _ _ _ _ N6 w14 (by have := s3.len; omega) (fun i hi => by have := s3.items i hi; omega) (by have := s3.trailer; omega) (ho.hasM 4 rfl) (hya.dv.le hle6) hza.dv) ?_
  rintro _ w15 rfl ho
  rw [k4, same_refl]
  try simp only [rs]
  have ho := ho.tail.tail.tail
  refine c_below ho (R := fun v => v = .bool true) (llives_ret w15 (ht.mono (bl ho h6))) ?_
  rintro _ w16 rfl ho
  try simp only [rs]
  exact hK _ _ ⟨rfl, bl ho h6⟩
end Go.Proofs.YtiklhhdohckfiaaGreatDoor
namespace Go.Proofs.YtiklhhdohckfiaaGreatDoor
set_option linter.unusedVariables false
set_option linter.unusedSimpArgs false
set_option linter.defProp false
open Eng Go.RowKit Go.ChangeShapes Go.WideShapes Go.ChangeAt

set_option maxRecDepth 100000
theorem list3d {α : Type} : ∀ {l : List α}, l.length = 3 → ∃ a b c, l = [a, b, c]
  | [a, b, c], _ => ⟨a, b, c, rfl⟩
theorem list2d {α : Type} : ∀ {l : List α}, l.length = 2 → ∃ a b, l = [a, b]
  | [a, b], _ => ⟨a, b, rfl⟩
theorem list8d {α : Type} : ∀ {l : List α}, l.length = 8 → ∃ a b c d e f g h, l = [a, b, c, d, e, f, g, h]
  | [a, b, c, d, e, f, g, h], _ => ⟨a, b, c, d, e, f, g, h, rfl⟩
theorem list7d {α : Type} : ∀ {l : List α}, l.length = 7 → ∃ a b c d e f g, l = [a, b, c, d, e, f, g]
  | [a, b, c, d, e, f, g], _ => ⟨a, b, c, d, e, f, g, rfl⟩
theorem list4d {α : Type} : ∀ {l : List α}, l.length = 4 → ∃ a b c d, l = [a, b, c, d]
  | [a, b, c, d], _ => ⟨a, b, c, d, rfl⟩
section
variable {H : Type} {enc : TypeId × Value → H} {W : World} {sp : Nat → Bool} {held : Bool}
theorem open_item (fuel : Nat) (cs : List Value) (x : DataW H × List MemPlace) (h : DataW.trod enc Tryz.prog W 0 sp held fuel 102 cs = some x) : ∃ i : It, itR (InW W) W cs i ∧ cs.length = 8 ∧ i.obj.wt ≤ Rows.uptoBulk x.1 := by
  obtain ⟨xs, n, rfl, rfl, hl, hxl, hf⟩ := DataW.trod_struct Tryz.underlying102 h
  have c8 : Tryz.prog.cellsOf 102 = 8 := by kernel_rfl
  rw [c8] at hl
  have hxl : xs.length = 3 := hxl
  obtain ⟨x0, x1, x2, rfl⟩ := list3d hxl
  obtain ⟨v0, v1, v2, v3, v4, v5, v6, v7, rfl⟩ := list8d hl
  have e0 := hf 0 _ rfl
  have e1 := hf 1 _ rfl
  have e2 := hf 2 _ rfl
  have k0 : Tryz.prog.cellsOf 3 = 1 := by kernel_rfl
  have k6 : Tryz.prog.cellsOf 25 = 6 := by kernel_rfl
  simp only [k0, k6, List.drop_zero, List.drop_succ_cons, List.take_succ_cons, List.take_zero, List.getElem?_cons_zero, List.getElem?_cons_succ] at e0 e1 e2
  obtain ⟨m, hm, rfl, _⟩ := DataW.trod_int Tryz.underlying3 e0
  obtain ⟨g, hg, rfl, _⟩ := DataW.trod_int Tryz.underlying3 e1
  obtain ⟨o, h1, h2, h3⟩ := open_obj _ _ _ e2
  injection hm with hm _
  injection hg with hg _
  subst hm; subst hg
  obtain ⟨vk, vc, ocs, he, ha⟩ := h1.open
  have he : [v2, v3, v4, v5, v6, v7] = obC o vk vc := by
    have : [v2, v3, v4, v5, v6, v7].toArray = (obC o vk vc).toArray := by injection he
    simpa using congrArg Array.toList this
  refine ⟨⟨m, g, o⟩, ⟨vk, vc, ?_, ha.ov⟩, rfl, ?_⟩
  · show _ = .int .i64 m :: .int .i64 g :: obC o vk vc
    rw [← he]
  · show o.wt ≤ _
    simp only [Rows.uptoBulk, List.map_cons, List.map_nil, Rows.uptoBulkAll]
    omega
theorem wti_le : ∀ {l : List It} {i : It}, i ∈ l → i.obj.wt ≤ (l.map fun i => i.obj.wt).sum
  | a :: l, i, h => by
    rw [List.map_cons, List.sum_cons]
    rcases List.mem_cons.1 h with rfl | h
    · omega
    · have := wti_le h; omega
theorem len_wti : ∀ l : List It, l.length ≤ (l.map fun i => i.obj.wt).sum
  | [] => by simp
  | a :: l => by
    have := len_wti l
    have := a.obj.wt_pos
    rw [List.map_cons, List.sum_cons, List.length_cons]; omega
theorem size_wti : ∀ l : List It, (l.map fun i => Vl.size i.obj).sum ≤ (l.map fun i => i.obj.wt).sum
  | [] => by simp
  | a :: l => by
    have := size_wti l
    have := Vl.size_wt a.obj
    rw [List.map_cons, List.sum_cons, List.map_cons, List.sum_cons]; omega
theorem row_doc {b0 : Nat} {v : Value} {d : DataW H} {ps : List MemPlace} (hval : Value.okWide Tryz.prog W .any b0 44 v) (hd : DataW.Trod enc Tryz.prog W 0 sp held 44 v d ps) :
    ∃ x : Dc, DV (InW W) W v x ∧ Lb.Sm (Rows.uptoBulk d) x ∧ Dk.size x ≤ Rows.uptoBulk d := by
  obtain ⟨cs, rfl, _⟩ := okWide_struct Tryz.underlying44 hval
  obtain ⟨fuel, h⟩ := hd
  have h : DataW.trod enc Tryz.prog W 0 sp held fuel 44 cs.toList = some (d, ps) := h
  obtain ⟨xs, n, rfl, hdd, hl, hxl, hf⟩ := DataW.trod_struct Tryz.underlying44 h
  have c7 : Tryz.prog.cellsOf 44 = 7 := by kernel_rfl
  rw [c7] at hl
  have hxl : xs.length = 2 := hxl
  obtain ⟨x0, x1, rfl⟩ := list2d hxl
  obtain ⟨v0, v1, v2, v3, v4, v5, v6, hcs⟩ := list7d hl
  rw [hcs] at hf
  have e0 := hf 0 _ rfl
  have e1 := hf 1 _ rfl
  have k0 : Tryz.prog.cellsOf 42 = 1 := by kernel_rfl
  have k6 : Tryz.prog.cellsOf 25 = 6 := by kernel_rfl
  simp only [k0, k6, List.drop_zero, List.drop_succ_cons, List.take_succ_cons, List.take_zero, List.getElem?_cons_zero, List.getElem?_cons_succ] at e0 e1
  obtain ⟨v', ds, is, h1, h2, h3, h4, h5⟩ := open_slice_of (R := itR (InW W) W) (wt := fun i => i.obj.wt) (n := 8) Tryz.underlying42 (by kernel_rfl) (by decide) open_item e0
  injection h1 with h1 _
  subst h1
  obtain ⟨o, g1, g2, g3⟩ := open_obj _ _ _ e1
  obtain ⟨vk, vc, ocs, he, ha⟩ := g1.open
  have he : [v1, v2, v3, v4, v5, v6] = obC o vk vc := by
    have : [v1, v2, v3, v4, v5, v6].toArray = (obC o vk vc).toArray := by injection he
    simpa using congrArg Array.toList this
  have hb : Rows.uptoBulk x0.1 + Rows.uptoBulk x1.1 ≤ Rows.uptoBulk d := by
    have hdd : d = _ := congrArg Prod.fst hdd
    rw [hdd]
    simp only [Rows.uptoBulk, List.map_cons, List.map_nil, Rows.uptoBulkAll]
    omega
  have hw : ∀ i ∈ is, i.obj.wt ≤ (is.map fun i => i.obj.wt).sum := fun i hi => wti_le hi
  have hl := len_wti is
  have hz := size_wti is
  have ho := Vl.size_wt o
  refine ⟨⟨is, o⟩, ⟨v0, vk, vc, ds, ?_, h2, h3, ha.ov⟩, ⟨?_, fun i hi => ?_, ?_⟩, ?_⟩
  · rw [dcV, dcC]
    show Value.agg cs = .agg (v0 :: obC o vk vc).toArray
    rw [← he, ← hcs]
  · show is.length ≤ _; omega
  · have := hw i hi; omega
  · show o.wt ≤ _; omega
  · show Vl.size o + (is.map fun i => Vl.size i.obj).sum ≤ _; omega
theorem open_label (fuel : Nat) (cs : List Value) (x : DataW H × List MemPlace) (h : DataW.trod enc Tryz.prog W 0 sp held fuel 90 cs = some x) : ∃ l : Lx, cs = lbC l ∧ cs.length = 4 ∧ l.sty.length + l.pre.length + 1 ≤ Rows.uptoBulk x.1 := by
  obtain ⟨xs, n, rfl, rfl, hl, hxl, hf⟩ := DataW.trod_struct Tryz.underlying90 h
  have c4 : Tryz.prog.cellsOf 90 = 4 := by kernel_rfl
  rw [c4] at hl
  have hxl : xs.length = 4 := hxl
  obtain ⟨x0, x1, x2, x3, rfl⟩ := list4d hxl
  obtain ⟨v0, v1, v2, v3, rfl⟩ := list4d hl
  have e0 := hf 0 _ rfl
  have e1 := hf 1 _ rfl
  have e2 := hf 2 _ rfl
  have e3 := hf 3 _ rfl
  have k0 : Tryz.prog.cellsOf 3 = 1 := by kernel_rfl
  have k3 : Tryz.prog.cellsOf 9 = 1 := by kernel_rfl
  simp only [k0, k3, List.drop_zero, List.drop_succ_cons, List.take_succ_cons, List.take_zero, List.getElem?_cons_zero, List.getElem?_cons_succ] at e0 e1 e2 e3
  obtain ⟨a, ha, rfl, _⟩ := DataW.trod_int Tryz.underlying3 e0
  obtain ⟨s, hs, rfl, _⟩ := DataW.trod_string Tryz.underlying9 e1
  obtain ⟨t, ht, rfl, _⟩ := DataW.trod_string Tryz.underlying9 e2
  obtain ⟨b, hb, rfl, _⟩ := DataW.trod_int Tryz.underlying3 e3
  injection ha with ha _
  injection hs with hs _
  injection ht with ht _
  injection hb with hb _
  subst ha; subst hs; subst ht; subst hb
  refine ⟨⟨a, s.data.toList, t.data.toList, b⟩, rfl, rfl, ?_⟩
  simp only [Rows.uptoBulk, List.map_cons, List.map_nil, Rows.uptoBulkAll]
  omega
theorem lbw_le : ∀ {l : List Lx} {x : Lx}, x ∈ l → x.sty.length + x.pre.length + 1 ≤ (l.map fun x => x.sty.length + x.pre.length + 1).sum
  | a :: l, i, h => by
    rw [List.map_cons, List.sum_cons]
    rcases List.mem_cons.1 h with rfl | h
    · omega
    · have := lbw_le h; omega
theorem len_lbw : ∀ l : List Lx, l.length ≤ (l.map fun x => x.sty.length + x.pre.length + 1).sum
  | [] => by simp
  | a :: l => by
    have := len_lbw l
    rw [List.map_cons, List.sum_cons, List.length_cons]; omega
theorem row_labels {b0 : Nat} {v : Value} {d : DataW H} {ps : List MemPlace} (hval : Value.okWide Tryz.prog W .any b0 46 v) (hd : DataW.Trod enc Tryz.prog W 0 sp held 46 v d ps) :
    ∃ l : List Lx, SlA (InW W) W v 4 l.length (lbsC l) ∧ (Rows.uptoBulk d ≤ 1000000000 → Lb.Fit l) := by
  obtain ⟨a, len, cap, rfl⟩ := okWide_slice Tryz.underlying46 hval
  obtain ⟨fuel, hf⟩ := hd
  obtain ⟨v', ds, xs, h1, h2, h3, h4, h5⟩ := open_slice_of (R := fun cs l => cs = lbC l) (wt := fun x : Lx => x.sty.length + x.pre.length + 1) (n := 4) Tryz.underlying46 (by kernel_rfl) (by decide) open_label hf
  have e : v' = .slice a len cap := by
    have h1 : [Value.slice a len cap] = [v'] := h1
    injection h1 with h1 _
    exact h1.symm
  subst e
  have hfl : ds = xs.flatMap lbC := Rws.flat h3
  subst hfl
  have h5 : _ + 1 ≤ Rows.uptoBulk d := h5
  have hl := len_lbw xs
  refine ⟨xs, h2, fun hb => ⟨by omega, fun x hx => ?_⟩⟩
  have := lbw_le hx
  omega
end
theorem Lb.Sm.mono {B C : Nat} {d : Dc} (h : Lb.Sm B d) (hBC : B ≤ C) : Lb.Sm C d := ⟨Nat.le_trans h.len hBC, fun i hi => Nat.le_trans (h.items i hi) hBC, Nat.le_trans h.trailer hBC⟩
end Go.Proofs.YtiklhhdohckfiaaGreatDoor
