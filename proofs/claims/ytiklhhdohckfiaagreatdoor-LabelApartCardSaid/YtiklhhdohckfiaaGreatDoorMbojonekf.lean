/- Texts that go together: SlcA SMake Plain05 Plain05B SIdx OcIdx SRef05 ObD EngW ObE ObF SVal ObG ObH ObI MkA SMake5 Plain07 SRef07 Plain03 Plain03B Plain03C Plain03D Plain03E Plain03F Plain03G Plain17 Plain17B Plain55 SOct LxA SLex LxB LxC LxD LxE LxF LxG LxH LxI SRef03 LxR SHead SRef17 HdA LxS LxT LxU LxV LxW LxX LxY LxZ LxAA LxAB LxAC LxAD SLaw03. -/
import Derived.Lib.Overlaps
import Derived.Laws.Externs
import Derived.Test.YtiklhhdohckfiaaGreatDoorRows
import Derived.Sort.Walk0
import Derived.Lib.IndexMore
import Derived.Lib.LastIndexLaws
import Derived.Test.YtiklhhdohckfiaaGreatDoorMjggdabcl
import Derived.Test.YtiklhhdohckfiaaGreatDoorMjhfdamlk
namespace Go.Proofs.YtiklhhdohckfiaaGreatDoor
set_option linter.unusedVariables false
set_option linter.unusedSimpArgs false
set_option linter.defProp false
set_option maxRecDepth 20000
open Eng Go.RowKit

theorem sclone_s_ret (v : Value) (n : Nat) (cs : List Value) (w : World) (hs : Sl w v 1 n cs) (h1 : ∀ u ∈ cs, u.oneCell' = true) (hb : n ≤ 1000000000000) :
    Ret Tryz.prog 183 #[v] w (fun v' w' => Own w w' [.urow 9 1 v' n cs]) := by
  have hs' := hs
  obtain ⟨hl, a, cap, rfl, hn, hc⟩ := hs
  refine ret_of fun K hK => S_slices_Clone_string_string_ok ?_
  unfold S_slices_Clone_string_string
  rw [e_nilS Tryz.underlying22]
  cases a with
  | none =>
    obtain rfl := hn rfl
    obtain rfl : cs = [] := List.eq_nil_of_length_eq_zero (by omega)
    simp only [Option.isNone_none, i_t]
    exact hK _ _ ((Own.start w).nilU 9 1)
  | some p =>
    simp only [Option.isNone_some, i_f]
    refine o_new (fun b => .slice (some ⟨b, 0, none⟩) 0 0) [] 9 (fun _ => by kernel_rfl) (Own.start w) fun b w1 ho => ?_
    have ho := ho.toU 1 0 0 (by simp) (by omega) (by omega)
    refine o_appendU 0 Tryz.underlying22 (show elB Tryz.prog 9 1 16 = true by kernel_rfl) (by decide) ho rfl (ho.oldSl hs') h1 (by omega) (by omega) fun v' w2 ho => ?_
    refine hK _ _ ?_
    simpa using ho
theorem sclone_o_ret (v : Value) (n : Nat) (cs : List Value) (w : World) (hs : Sl w v 6 n cs) (h1 : ∀ u ∈ cs, u.oneCell' = true) (hb : n ≤ 1000000000000) :
    Ret Tryz.prog 184 #[v] w (fun v' w' => Own w w' [.urow 25 6 v' n cs]) := by
  have hs' := hs
  obtain ⟨hl, a, cap, rfl, hn, hc⟩ := hs
  refine ret_of fun K hK => S_slices_Clone_foliant_api_Object_foliant_api_Object_ok ?_
  unfold S_slices_Clone_foliant_api_Object_foliant_api_Object
  rw [e_nilS Tryz.underlying23]
  cases a with
  | none =>
    obtain rfl := hn rfl
    obtain rfl : cs = [] := List.eq_nil_of_length_eq_zero (by omega)
    simp only [Option.isNone_none, i_t]
    exact hK _ _ ((Own.start w).nilU 25 6)
  | some p =>
    simp only [Option.isNone_some, i_f]
    refine o_new (fun b => .slice (some ⟨b, 0, none⟩) 0 0) [] 25 (fun _ => by kernel_rfl) (Own.start w) fun b w1 ho => ?_
    have ho := ho.toU 6 0 0 (by simp) (by omega) (by omega)
    refine o_appendU 0 Tryz.underlying23 (show elB Tryz.prog 25 6 88 = true by kernel_rfl) (by decide) ho rfl (ho.oldSl hs') h1 (by omega) (by omega) fun v' w2 ho => ?_
    refine hK _ _ ?_
    simpa using ho
theorem ov_s {w : World} {a b : Addr} {la ca lb cb : Nat} (hne : a.block ≠ b.block) {tA tB : TypeId} {kA kB : Nat} (hsa : w.shape? a.block = some (tA, kA)) (hsb : w.shape? b.block = some (tB, kB)) (hkB : kB ≠ 0) (hfa : w.frozen? a = false) (hfe : w.frozen? { block := a.block, off := kA } = false) :
    (mCallV (.func (.func 224) #[] #[]) #[.slice (some a) la ca, .slice (some b) lb cb]).run Tryz.prog w = .ok (.value (.bool false)) w := by
  have hx : (callFunc 224 #[.slice (some a) la ca, .slice (some b) lb cb]).run Tryz.prog w = .ok (.value (.bool false)) w := by
    rw [run_callFunc_extern (e := Extern.SlicesOverlaps.overlaps #[22, 22] #[4]) Tryz.func224 (by kernel_rfl) (by kernel_rfl) (by kernel_rfl) (by kernel_rfl)]
    rw [Lib.run_overlaps_apart w 22 4 9 Tryz.underlying22 1 (fun w => by kernel_rfl) a b la ca lb cb hne tA tB kA kB hsa hsb hkB hfa hfe]
    rfl
  simpa [mCallV, invoke, Deferred.ofValue, resolve] using hx
theorem sinsert_s_ret (v : Value) (n : Nat) (xs : List Value) (k nb : Nat) (new : List Value) (w : World) (hu : (Ent.urow 9 1 v n xs).is w) (hnb : w.heap[nb]? = some (.cells new.toArray 9 (0, 0))) (hl : new.length = 1)
    (hne : ¬ (Ent.urow 9 1 v n xs).blk nb) (h1 : ∀ u ∈ xs, u.oneCell' = true) (h2 : ∀ u ∈ new, u.oneCell' = true) (hk : k ≤ n) (hb : n ≤ 100000000000) :
    Ret Tryz.prog 185 #[v, .int .i64 (k : Int), .slice (some ⟨nb, 0, none⟩) 1 1] w
      (fun v' w' => ∃ e', e' = Ent.urow 9 1 v' (n + 1) (xs.take (k * 1) ++ new ++ xs.drop (k * 1)) ∧ Turn (.urow 9 1 v n xs) e' w w') := by
  have hxl : xs.length = n * 1 := (show w.ownsRow 0 9 1 v n xs from hu).1
  have hs2 : Sl w (.slice (some ⟨nb, 0, none⟩) 1 1) 1 1 new := ⟨by omega, some ⟨nb, 0, none⟩, 1, rfl, fun h => (by cases h), fun p hp => by cases hp; exact ⟨fun _ => rfl, fun j u hj => by rw [Nat.zero_add]; exact cells_cell (T := 9) hnb hj⟩⟩
  have ho := OwnS.lend hu
  refine ret_of fun K hK => S_slices_Insert_string_string_ok ?_
  unfold S_slices_Insert_string_string
  have hel : elB Tryz.prog 9 1 16 = true := by kernel_rfl
  have hsz : (Tryz.prog.info? 9).map (·.size) = some 1 := by kernel_rfl
  obtain ⟨a, cap, rfl, hcap⟩ : ∃ a cap, v = .slice a n cap ∧ n ≤ cap := by
    rcases (show w.ownsRow 0 9 1 v n xs from hu).2 with ⟨rfl, rfl⟩ | ⟨g, cap, cur, rfl, _, _, hnc, _⟩
    · exact ⟨none, 0, rfl, Nat.le_refl _⟩
    · exact ⟨_, cap, rfl, hnc⟩
  refine do_eq (run_sl_l Tryz.underlying22 hsz (by omega) (by omega)) |>.mpr ?_
  rw [sl_len Tryz.underlying22 hs2]
  simp only [rs, Int.natCast_one, Int.one_ne_zero, decide_false]
  rw [sl_len_any Tryz.underlying22]
  simp only [rs]
  by_cases hkn : k = n
  · subst hkn
    simp only [decide_true, rs]
    refine o_appendU 0 Tryz.underlying22 hel (by decide) ho rfl hs2 h2 (by omega) (by omega) fun v' w2 ho => ?_
    refine hK _ _ ⟨_, rfl, ?_⟩
    have e : xs.take (k * 1) ++ new ++ xs.drop (k * 1) = xs ++ new := by rw [List.take_of_length_le (by omega), List.drop_eq_nil_of_le (by omega), List.append_nil]
    rw [e]
    exact OwnS.back (L := []) ho
  have hlt : k < n := by omega
  have hne' : ¬ (k : Int) = (n : Int) := by omega
  simp only [hne', decide_false, rs]
  rcases (show w.ownsRow 0 9 1 (.slice a n cap) n xs from hu).2 with ⟨_, h0⟩ | ⟨g, cap', cur, he, hbg, hg, hnc, hcm, hcs, htake⟩
  · omega
  injection he with he1 _ he2
  subst he1; subst he2
  rw [wrap64_id (by omega) (by omega), cap_sl Tryz.underlying22]
  simp only [rs]
  have hgn : nb ≠ g := fun e => hne (by rw [e]; rfl)
  have hcl : cur.toList.length = cap * 1 := by simpa using hcs
  have hoc : OwnS (Ent.urow 9 1 (.slice (some ⟨g, 0, none⟩) n cap) n xs).blk w w [.cells g cur.toList 9] :=
    ho.turn 0 rfl ⟨Grew.refl _ _, by show w.heap[g]? = _; rw [hg], fun j hj => .inl (by simp only [Ent.cells] at hj; subst hj; rfl)⟩
  have hxc : ∀ j u, xs[j]? = some u → w.cell? ⟨g, 0 + j, none⟩ = some u := fun j u hj => by
    rw [Nat.zero_add]
    exact hoc.cell 0 rfl j (by rw [← htake] at hj; rw [List.getElem?_take] at hj; split at hj <;> first | exact hj | cases hj)
  have htl : (xs.drop (k * 1)).length = (n - k) * 1 := by rw [List.length_drop, hxl, ← Nat.mul_sub_right_distrib]
  have h1t : ∀ u ∈ xs.drop (k * 1), u.oneCell' = true := fun u hu => h1 u (List.mem_of_mem_drop hu)
  by_cases hroom : (cap : Int) < (n : Int) + 1
  · simp only [hroom, decide_true, rs]
    refine do_eq (run_sl_h Tryz.underlying22 hsz (by omega) (by omega)) |>.mpr ?_
    rw [show subA (some (⟨g, 0, none⟩ : Addr)) 0 cap 1 = some ⟨g, 0, none⟩ from subA_0 (a := ⟨g, 0, none⟩), Int.toNat_natCast]
    rw [wrap64_id (n := (n : Int) + 1 - k) (by omega) (by omega), show (n : Int) + 1 - k = ((n + 1 - k : Nat) : Int) by omega]
    refine o_growZ (olds := xs.take (k * 1)) Tryz.underlying22 Tryz.underlying3 hel (by decide) hoc (by rw [List.length_take, hxl, Nat.min_eq_left (by omega)]) (fun j u hj => hxc j u (by rw [List.getElem?_take] at hj; split at hj <;> first | exact hj | cases hj)) (by omega) (by omega) (by omega) (by omega) fun b c zs w2 hc1 hc2 hzs ho => ?_
    rw [show k + (n + 1 - k) = n + 1 by omega] at hc1 ⊢
    have hol : (xs.take (k * 1)).length = k * 1 := by rw [List.length_take, hxl, Nat.min_eq_left (by omega)]
    refine do_eq (run_sl_l Tryz.underlying22 hsz (by omega) (by omega)) |>.mpr ?_
    rw [Int.toNat_natCast, subA_in (by omega)]
    have hbg2 : b ≠ g := by
      have := (List.pairwise_cons.1 ho.apart).1 (.cells g cur.toList 9) (by simp)
      intro e; exact this b rfl e
    have old2 : ∀ {W : World} {b' : Nat} {x y : List Value}, OwnS (Ent.urow 9 1 (.slice (some ⟨g, 0, none⟩) n cap) n xs).blk w W [.cells b' x 9, .cells g y 9] → W.heap[nb]? = some (.cells new.toArray 9 (0, 0)) := fun h => (h.grew.block nb (lt_of_get hnb) hne).trans hnb
    refine o_copyC 0 (src := new) Tryz.underlying22 hsz ho rfl ?_ (fun j u hj => by rw [add_none, Nat.zero_add]; exact cells_cell (T := 9) (old2 ho) hj) ?_ h2 fun _ w3 ho => ?_
    · rw [hl, Nat.min_eq_left (by omega)]
    · rw [List.length_append, hol, hl]; omega
    refine quiet ?_
    refine q_add ?_
    rw [wrap64_id (by omega) (by omega), show (k : Int) + 1 = ((k + 1 : Nat) : Int) by omega]
    refine q_do _ (fun W => run_sl_l Tryz.underlying22 hsz (by omega) (by omega)) ?_
    refine q_do _ (fun W => run_sl_l Tryz.underlying22 hsz (by omega) (by omega)) ?_
    rw [Int.toNat_natCast, Int.toNat_natCast, subA_in (by omega), subA_in (by omega)]
    intro w4 hw
    have ho := ho.grow hw
    simp only [Nat.zero_add, List.take_left' hol, List.drop_append, hol] at ho
    rw [show k * 1 + new.length - k * 1 = 1 by omega, List.drop_eq_nil_of_le (show (xs.take (k * 1)).length ≤ k * 1 + new.length by omega), List.nil_append] at ho
    refine o_copyC 0 (src := xs.drop (k * 1)) Tryz.underlying22 hsz ho rfl ?_ (fun j u hj => ?_) ?_ h1t fun _ w5 ho => ?_
    · rw [htl]; congr 1; rw [Nat.min_eq_left (by omega)]
    · rw [add_none]
      refine ho.cell 1 rfl (0 + k * 1 + j) ?_
      rw [List.getElem?_drop] at hj
      rw [Nat.zero_add]
      rw [← htake] at hj
      rw [List.getElem?_take] at hj
      split at hj <;> first | exact hj | cases hj
    · simp only [List.length_append, List.length_drop, hol, hl, hxl]; omega
    have hcur : ((xs.take (k * 1) ++ new ++ zs.drop 1).take (0 + (k + 1) * 1) ++ xs.drop (k * 1) ++ (xs.take (k * 1) ++ new ++ zs.drop 1).drop (0 + (k + 1) * 1 + (xs.drop (k * 1)).length)) = (xs.take (k * 1) ++ new ++ xs.drop (k * 1)) ++ (zs.drop 1).drop ((n - k) * 1) := by
      rw [List.take_left' (show (xs.take (k * 1) ++ new).length = 0 + (k + 1) * 1 by rw [List.length_append, hol, hl]; omega)]
      rw [List.drop_append, List.drop_eq_nil_of_le (show (xs.take (k * 1) ++ new).length ≤ _ by rw [List.length_append, hol, hl, htl]; omega), List.nil_append]
      congr 2
      rw [List.length_append, hol, hl, htl]; omega
    simp only [List.set_cons_zero] at ho
    rw [hcur] at ho
    have ho := ho.toU 1 (n + 1) c (by simp only [List.length_append, List.length_drop, hol, hl, hxl]; omega) hc1 hc2
    rw [List.take_left' (show (xs.take (k * 1) ++ new ++ xs.drop (k * 1)).length = (n + 1) * 1 by simp only [List.length_append, List.length_drop, hol, hl, hxl]; omega)] at ho
    exact hK _ _ ⟨_, rfl, OwnS.back ho⟩
  · have hroom' : n + 1 ≤ cap := by omega
    simp only [hroom, decide_false, rs]
    rw [show (n : Int) + 1 = ((n + 1 : Nat) : Int) by omega]
    refine do_eq (run_sl_h Tryz.underlying22 hsz (by omega) (by omega)) |>.mpr ?_
    rw [show subA (some (⟨g, 0, none⟩ : Addr)) 0 cap 1 = some ⟨g, 0, none⟩ from subA_0 (a := ⟨g, 0, none⟩), Int.toNat_natCast]
    rw [wrap64_id (n := (k : Int) + 1) (by omega) (by omega), show (k : Int) + 1 = ((k + 1 : Nat) : Int) by omega]
    refine do_eq (run_sl_l Tryz.underlying22 hsz (by omega) (by omega)) |>.mpr ?_
    rw [Int.toNat_natCast, subA_in (by omega)]
    refine do_eq (ov_s (a := ⟨nb, 0, none⟩) (b := ⟨g, 0 + (k + 1) * 1, none⟩) hgn (tA := 9) (tB := 9) (kA := new.length) (kB := cur.size) (by simp [World.shape?, hnb]) (by simp [World.shape?, hg]) (by rw [hcs]; omega) (by simp [World.frozen?, hnb]) (by simp [World.frozen?, hnb])) |>.mpr ?_
    simp only [rs, Bool.not_false]
    refine quiet ?_
    refine q_add ?_
    rw [wrap64_id (by omega) (by omega), show (k : Int) + 1 = ((k + 1 : Nat) : Int) by omega]
    refine q_do _ (fun W => run_sl_l Tryz.underlying22 hsz (by omega) (by omega)) ?_
    refine q_do _ (fun W => run_sl_l Tryz.underlying22 hsz (by omega) (by omega)) ?_
    rw [Int.toNat_natCast, Int.toNat_natCast, subA_in (by omega), subA_in (by omega)]
    intro w3 hw
    have ho := hoc.grow hw
    have hxcur : ∀ j u, (xs.drop (k * 1))[j]? = some u → cur.toList[k * 1 + j]? = some u := fun j u hj => by
      rw [List.getElem?_drop, ← htake, List.getElem?_take] at hj
      split at hj <;> first | exact hj | cases hj
    refine o_copyC 0 (src := xs.drop (k * 1)) Tryz.underlying22 hsz ho rfl ?_ (fun j u hj => ?_) ?_ h1t fun _ w4 ho => ?_
    · rw [htl]; congr 1; rw [Nat.min_eq_right (by omega)]; omega
    · rw [add_none, Nat.zero_add]
      exact ho.cell 0 rfl _ (hxcur j u hj)
    · rw [htl, hcl]
      have : (n - k) * 1 + (k + 1) * 1 = (n + 1) * 1 := by rw [← Nat.add_mul]; congr 1; omega
      have : (n + 1) * 1 ≤ cap * 1 := Nat.mul_le_mul_right _ hroom'
      omega
    simp only [List.set_cons_zero] at ho
    refine do_eq (run_sl_l Tryz.underlying22 hsz (by omega) (by omega)) |>.mpr ?_
    rw [Int.toNat_natCast, subA_in (by omega)]
    have hnew : w4.heap[nb]? = some (.cells new.toArray 9 (0, 0)) := (ho.grew.block nb (lt_of_get hnb) hne).trans hnb
    have hkc : (k + 1) * 1 ≤ cap * 1 := Nat.mul_le_mul_right _ (by omega)
    have hnc2 : (n + 1) * 1 ≤ cap * 1 := Nat.mul_le_mul_right _ hroom'
    have hsum : (n - k) * 1 + (k + 1) * 1 = (n + 1) * 1 := by rw [← Nat.add_mul]; congr 1; omega
    refine o_copyC 0 (src := new) Tryz.underlying22 hsz ho rfl ?_ (fun j u hj => by rw [add_none, Nat.zero_add]; exact cells_cell (T := 9) hnew hj) ?_ h2 fun _ w5 ho => ?_
    · rw [hl, Nat.min_eq_left (by omega)]
    · simp only [List.length_append, List.length_take, List.length_drop, hcl, hl, htl]; omega
    simp only [List.set_cons_zero] at ho
    have hck : cur.toList.take (k * 1) = xs.take (k * 1) := by
      rw [← htake, List.take_take, Nat.min_eq_left (Nat.mul_le_mul_right _ (by omega))]
    have hcur : ((cur.toList.take (0 + (k + 1) * 1) ++ xs.drop (k * 1) ++ cur.toList.drop (0 + (k + 1) * 1 + (xs.drop (k * 1)).length)).take (0 + k * 1) ++ new ++ (cur.toList.take (0 + (k + 1) * 1) ++ xs.drop (k * 1) ++ cur.toList.drop (0 + (k + 1) * 1 + (xs.drop (k * 1)).length)).drop (0 + k * 1 + new.length))
        = (xs.take (k * 1) ++ new ++ xs.drop (k * 1)) ++ cur.toList.drop (0 + (k + 1) * 1 + (xs.drop (k * 1)).length) := by
      have hlt : (cur.toList.take (0 + (k + 1) * 1)).length = 0 + (k + 1) * 1 := by rw [List.length_take, hcl]; omega
      rw [List.append_assoc (cur.toList.take (0 + (k + 1) * 1))]
      rw [List.take_append_of_le_length (by rw [hlt]; omega), List.take_take, Nat.min_eq_left (by omega), Nat.zero_add, hck]
      rw [List.drop_append, List.drop_eq_nil_of_le (show (cur.toList.take (0 + (k + 1) * 1)).length ≤ k * 1 + new.length by rw [hlt, hl]; omega), List.nil_append]
      rw [show k * 1 + new.length - (cur.toList.take (0 + (k + 1) * 1)).length = 0 by rw [hlt, hl]; omega, List.drop_zero]
      simp only [Nat.zero_add, List.append_assoc]
    rw [hcur] at ho
    have ho := ho.toU 1 (n + 1) cap (by simp only [List.length_append, List.length_take, List.length_drop, hcl, hl, hxl]; omega) hroom' (by simp only [maxLen] at hcm; exact hcm)
    rw [List.take_left' (show (xs.take (k * 1) ++ new ++ xs.drop (k * 1)).length = (n + 1) * 1 by simp only [List.length_append, List.length_take, List.length_drop, hl, hxl]; omega)] at ho
    exact hK _ _ ⟨_, rfl, OwnS.back ho⟩
theorem ov_o {w : World} {a b : Addr} {la ca lb cb : Nat} (hne : a.block ≠ b.block) {tA tB : TypeId} {kA kB : Nat} (hsa : w.shape? a.block = some (tA, kA)) (hsb : w.shape? b.block = some (tB, kB)) (hkB : kB ≠ 0) (hfa : w.frozen? a = false) (hfe : w.frozen? { block := a.block, off := kA } = false) :
    (mCallV (.func (.func 226) #[] #[]) #[.slice (some a) la ca, .slice (some b) lb cb]).run Tryz.prog w = .ok (.value (.bool false)) w := by
  have hx : (callFunc 226 #[.slice (some a) la ca, .slice (some b) lb cb]).run Tryz.prog w = .ok (.value (.bool false)) w := by
    rw [run_callFunc_extern (e := Extern.SlicesOverlaps.overlaps #[23, 23] #[4]) Tryz.func226 (by kernel_rfl) (by kernel_rfl) (by kernel_rfl) (by kernel_rfl)]
    rw [Lib.run_overlaps_apart w 23 4 25 Tryz.underlying23 6 (fun w => by kernel_rfl) a b la ca lb cb hne tA tB kA kB hsa hsb hkB hfa hfe]
    rfl
  simpa [mCallV, invoke, Deferred.ofValue, resolve] using hx
theorem sinsert_o_ret (v : Value) (n : Nat) (xs : List Value) (k nb : Nat) (new : List Value) (w : World) (hu : (Ent.urow 25 6 v n xs).is w) (hnb : w.heap[nb]? = some (.cells new.toArray 25 (0, 0))) (hl : new.length = 6)
    (hne : ¬ (Ent.urow 25 6 v n xs).blk nb) (h1 : ∀ u ∈ xs, u.oneCell' = true) (h2 : ∀ u ∈ new, u.oneCell' = true) (hk : k ≤ n) (hb : n ≤ 100000000000) :
    Ret Tryz.prog 186 #[v, .int .i64 (k : Int), .slice (some ⟨nb, 0, none⟩) 1 1] w
      (fun v' w' => ∃ e', e' = Ent.urow 25 6 v' (n + 1) (xs.take (k * 6) ++ new ++ xs.drop (k * 6)) ∧ Turn (.urow 25 6 v n xs) e' w w') := by
  have hxl : xs.length = n * 6 := (show w.ownsRow 0 25 6 v n xs from hu).1
  have hs2 : Sl w (.slice (some ⟨nb, 0, none⟩) 1 1) 6 1 new := ⟨by omega, some ⟨nb, 0, none⟩, 1, rfl, fun h => (by cases h), fun p hp => by cases hp; exact ⟨fun _ => rfl, fun j u hj => by rw [Nat.zero_add]; exact cells_cell (T := 25) hnb hj⟩⟩
  have ho := OwnS.lend hu
  refine ret_of fun K hK => S_slices_Insert_foliant_api_Object_foliant_api_Object_ok ?_
  unfold S_slices_Insert_foliant_api_Object_foliant_api_Object
  have hel : elB Tryz.prog 25 6 88 = true := by kernel_rfl
  have hsz : (Tryz.prog.info? 25).map (·.size) = some 6 := by kernel_rfl
  obtain ⟨a, cap, rfl, hcap⟩ : ∃ a cap, v = .slice a n cap ∧ n ≤ cap := by
    rcases (show w.ownsRow 0 25 6 v n xs from hu).2 with ⟨rfl, rfl⟩ | ⟨g, cap, cur, rfl, _, _, hnc, _⟩
    · exact ⟨none, 0, rfl, Nat.le_refl _⟩
    · exact ⟨_, cap, rfl, hnc⟩
  refine do_eq (run_sl_l Tryz.underlying23 hsz (by omega) (by omega)) |>.mpr ?_
  rw [sl_len Tryz.underlying23 hs2]
  simp only [rs, Int.natCast_one, Int.one_ne_zero, decide_false]
  rw [sl_len_any Tryz.underlying23]
  simp only [rs]
  by_cases hkn : k = n
  · subst hkn
    simp only [decide_true, rs]
    refine o_appendU 0 Tryz.underlying23 hel (by decide) ho rfl hs2 h2 (by omega) (by omega) fun v' w2 ho => ?_
    refine hK _ _ ⟨_, rfl, ?_⟩
    have e : xs.take (k * 6) ++ new ++ xs.drop (k * 6) = xs ++ new := by rw [List.take_of_length_le (by omega), List.drop_eq_nil_of_le (by omega), List.append_nil]
    rw [e]
    exact OwnS.back (L := []) ho
  have hlt : k < n := by omega
  have hne' : ¬ (k : Int) = (n : Int) := by omega
  simp only [hne', decide_false, rs]
  rcases (show w.ownsRow 0 25 6 (.slice a n cap) n xs from hu).2 with ⟨_, h0⟩ | ⟨g, cap', cur, he, hbg, hg, hnc, hcm, hcs, htake⟩
  · omega
  injection he with he1 _ he2
  subst he1; subst he2
  rw [wrap64_id (by omega) (by omega), cap_sl Tryz.underlying23]
  simp only [rs]
  have hgn : nb ≠ g := fun e => hne (by rw [e]; rfl)
  have hcl : cur.toList.length = cap * 6 := by simpa using hcs
  have hoc : OwnS (Ent.urow 25 6 (.slice (some ⟨g, 0, none⟩) n cap) n xs).blk w w [.cells g cur.toList 25] :=
    ho.turn 0 rfl ⟨Grew.refl _ _, by show w.heap[g]? = _; rw [hg], fun j hj => .inl (by simp only [Ent.cells] at hj; subst hj; rfl)⟩
  have hxc : ∀ j u, xs[j]? = some u → w.cell? ⟨g, 0 + j, none⟩ = some u := fun j u hj => by
    rw [Nat.zero_add]
    exact hoc.cell 0 rfl j (by rw [← htake] at hj; rw [List.getElem?_take] at hj; split at hj <;> first | exact hj | cases hj)
  have htl : (xs.drop (k * 6)).length = (n - k) * 6 := by rw [List.length_drop, hxl, ← Nat.mul_sub_right_distrib]
  have h1t : ∀ u ∈ xs.drop (k * 6), u.oneCell' = true := fun u hu => h1 u (List.mem_of_mem_drop hu)
  by_cases hroom : (cap : Int) < (n : Int) + 1
  · simp only [hroom, decide_true, rs]
    refine do_eq (run_sl_h Tryz.underlying23 hsz (by omega) (by omega)) |>.mpr ?_
    rw [show subA (some (⟨g, 0, none⟩ : Addr)) 0 cap 6 = some ⟨g, 0, none⟩ from subA_0 (a := ⟨g, 0, none⟩), Int.toNat_natCast]
    rw [wrap64_id (n := (n : Int) + 1 - k) (by omega) (by omega), show (n : Int) + 1 - k = ((n + 1 - k : Nat) : Int) by omega]
    refine o_growZ (olds := xs.take (k * 6)) Tryz.underlying23 Tryz.underlying3 hel (by decide) hoc (by rw [List.length_take, hxl, Nat.min_eq_left (by omega)]) (fun j u hj => hxc j u (by rw [List.getElem?_take] at hj; split at hj <;> first | exact hj | cases hj)) (by omega) (by omega) (by omega) (by omega) fun b c zs w2 hc1 hc2 hzs ho => ?_
    rw [show k + (n + 1 - k) = n + 1 by omega] at hc1 ⊢
    have hol : (xs.take (k * 6)).length = k * 6 := by rw [List.length_take, hxl, Nat.min_eq_left (by omega)]
    refine do_eq (run_sl_l Tryz.underlying23 hsz (by omega) (by omega)) |>.mpr ?_
    rw [Int.toNat_natCast, subA_in (by omega)]
    have hbg2 : b ≠ g := by
      have := (List.pairwise_cons.1 ho.apart).1 (.cells g cur.toList 25) (by simp)
      intro e; exact this b rfl e
    have old2 : ∀ {W : World} {b' : Nat} {x y : List Value}, OwnS (Ent.urow 25 6 (.slice (some ⟨g, 0, none⟩) n cap) n xs).blk w W [.cells b' x 25, .cells g y 25] → W.heap[nb]? = some (.cells new.toArray 25 (0, 0)) := fun h => (h.grew.block nb (lt_of_get hnb) hne).trans hnb
    refine o_copyC 0 (src := new) Tryz.underlying23 hsz ho rfl ?_ (fun j u hj => by rw [add_none, Nat.zero_add]; exact cells_cell (T := 25) (old2 ho) hj) ?_ h2 fun _ w3 ho => ?_
    · rw [hl, Nat.min_eq_left (by omega)]
    · rw [List.length_append, hol, hl]; omega
    refine quiet ?_
    refine q_add ?_
    rw [wrap64_id (by omega) (by omega), show (k : Int) + 1 = ((k + 1 : Nat) : Int) by omega]
    refine q_do _ (fun W => run_sl_l Tryz.underlying23 hsz (by omega) (by omega)) ?_
    refine q_do _ (fun W => run_sl_l Tryz.underlying23 hsz (by omega) (by omega)) ?_
    rw [Int.toNat_natCast, Int.toNat_natCast, subA_in (by omega), subA_in (by omega)]
    intro w4 hw
    have ho := ho.grow hw
    simp only [Nat.zero_add, List.take_left' hol, List.drop_append, hol] at ho
    rw [show k * 6 + new.length - k * 6 = 6 by omega, List.drop_eq_nil_of_le (show (xs.take (k * 6)).length ≤ k * 6 + new.length by omega), List.nil_append] at ho
    refine o_copyC 0 (src := xs.drop (k * 6)) Tryz.underlying23 hsz ho rfl ?_ (fun j u hj => ?_) ?_ h1t fun _ w5 ho => ?_
    · rw [htl]; congr 1; rw [Nat.min_eq_left (by omega)]
    · rw [add_none]
      refine ho.cell 1 rfl (0 + k * 6 + j) ?_
      rw [List.getElem?_drop] at hj
      rw [Nat.zero_add]
      rw [← htake] at hj
      rw [List.getElem?_take] at hj
      split at hj <;> first | exact hj | cases hj
    · simp only [List.length_append, List.length_drop, hol, hl, hxl]; omega
    have hcur : ((xs.take (k * 6) ++ new ++ zs.drop 6).take (0 + (k + 1) * 6) ++ xs.drop (k * 6) ++ (xs.take (k * 6) ++ new ++ zs.drop 6).drop (0 + (k + 1) * 6 + (xs.drop (k * 6)).length)) = (xs.take (k * 6) ++ new ++ xs.drop (k * 6)) ++ (zs.drop 6).drop ((n - k) * 6) := by
      rw [List.take_left' (show (xs.take (k * 6) ++ new).length = 0 + (k + 1) * 6 by rw [List.length_append, hol, hl]; omega)]
      rw [List.drop_append, List.drop_eq_nil_of_le (show (xs.take (k * 6) ++ new).length ≤ _ by rw [List.length_append, hol, hl, htl]; omega), List.nil_append]
      congr 2
      rw [List.length_append, hol, hl, htl]; omega
    simp only [List.set_cons_zero] at ho
    rw [hcur] at ho
    have ho := ho.toU 6 (n + 1) c (by simp only [List.length_append, List.length_drop, hol, hl, hxl]; omega) hc1 hc2
    rw [List.take_left' (show (xs.take (k * 6) ++ new ++ xs.drop (k * 6)).length = (n + 1) * 6 by simp only [List.length_append, List.length_drop, hol, hl, hxl]; omega)] at ho
    exact hK _ _ ⟨_, rfl, OwnS.back ho⟩
  · have hroom' : n + 1 ≤ cap := by omega
    simp only [hroom, decide_false, rs]
    rw [show (n : Int) + 1 = ((n + 1 : Nat) : Int) by omega]
    refine do_eq (run_sl_h Tryz.underlying23 hsz (by omega) (by omega)) |>.mpr ?_
    rw [show subA (some (⟨g, 0, none⟩ : Addr)) 0 cap 6 = some ⟨g, 0, none⟩ from subA_0 (a := ⟨g, 0, none⟩), Int.toNat_natCast]
    rw [wrap64_id (n := (k : Int) + 1) (by omega) (by omega), show (k : Int) + 1 = ((k + 1 : Nat) : Int) by omega]
    refine do_eq (run_sl_l Tryz.underlying23 hsz (by omega) (by omega)) |>.mpr ?_
    rw [Int.toNat_natCast, subA_in (by omega)]
    refine do_eq (ov_o (a := ⟨nb, 0, none⟩) (b := ⟨g, 0 + (k + 1) * 6, none⟩) hgn (tA := 25) (tB := 25) (kA := new.length) (kB := cur.size) (by simp [World.shape?, hnb]) (by simp [World.shape?, hg]) (by rw [hcs]; omega) (by simp [World.frozen?, hnb]) (by simp [World.frozen?, hnb])) |>.mpr ?_
    simp only [rs, Bool.not_false]
    refine quiet ?_
    refine q_add ?_
    rw [wrap64_id (by omega) (by omega), show (k : Int) + 1 = ((k + 1 : Nat) : Int) by omega]
    refine q_do _ (fun W => run_sl_l Tryz.underlying23 hsz (by omega) (by omega)) ?_
    refine q_do _ (fun W => run_sl_l Tryz.underlying23 hsz (by omega) (by omega)) ?_
    rw [Int.toNat_natCast, Int.toNat_natCast, subA_in (by omega), subA_in (by omega)]
    intro w3 hw
    have ho := hoc.grow hw
    have hxcur : ∀ j u, (xs.drop (k * 6))[j]? = some u → cur.toList[k * 6 + j]? = some u := fun j u hj => by
      rw [List.getElem?_drop, ← htake, List.getElem?_take] at hj
      split at hj <;> first | exact hj | cases hj
    refine o_copyC 0 (src := xs.drop (k * 6)) Tryz.underlying23 hsz ho rfl ?_ (fun j u hj => ?_) ?_ h1t fun _ w4 ho => ?_
    · rw [htl]; congr 1; rw [Nat.min_eq_right (by omega)]; omega
    · rw [add_none, Nat.zero_add]
      exact ho.cell 0 rfl _ (hxcur j u hj)
    · rw [htl, hcl]
      have : (n - k) * 6 + (k + 1) * 6 = (n + 1) * 6 := by rw [← Nat.add_mul]; congr 1; omega
      have : (n + 1) * 6 ≤ cap * 6 := Nat.mul_le_mul_right _ hroom'
      omega
    simp only [List.set_cons_zero] at ho
    refine do_eq (run_sl_l Tryz.underlying23 hsz (by omega) (by omega)) |>.mpr ?_
    rw [Int.toNat_natCast, subA_in (by omega)]
    have hnew : w4.heap[nb]? = some (.cells new.toArray 25 (0, 0)) := (ho.grew.block nb (lt_of_get hnb) hne).trans hnb
    have hkc : (k + 1) * 6 ≤ cap * 6 := Nat.mul_le_mul_right _ (by omega)
    have hnc2 : (n + 1) * 6 ≤ cap * 6 := Nat.mul_le_mul_right _ hroom'
    have hsum : (n - k) * 6 + (k + 1) * 6 = (n + 1) * 6 := by rw [← Nat.add_mul]; congr 1; omega
    refine o_copyC 0 (src := new) Tryz.underlying23 hsz ho rfl ?_ (fun j u hj => by rw [add_none, Nat.zero_add]; exact cells_cell (T := 25) hnew hj) ?_ h2 fun _ w5 ho => ?_
    · rw [hl, Nat.min_eq_left (by omega)]
    · simp only [List.length_append, List.length_take, List.length_drop, hcl, hl, htl]; omega
    simp only [List.set_cons_zero] at ho
    have hck : cur.toList.take (k * 6) = xs.take (k * 6) := by
      rw [← htake, List.take_take, Nat.min_eq_left (Nat.mul_le_mul_right _ (by omega))]
    have hcur : ((cur.toList.take (0 + (k + 1) * 6) ++ xs.drop (k * 6) ++ cur.toList.drop (0 + (k + 1) * 6 + (xs.drop (k * 6)).length)).take (0 + k * 6) ++ new ++ (cur.toList.take (0 + (k + 1) * 6) ++ xs.drop (k * 6) ++ cur.toList.drop (0 + (k + 1) * 6 + (xs.drop (k * 6)).length)).drop (0 + k * 6 + new.length))
        = (xs.take (k * 6) ++ new ++ xs.drop (k * 6)) ++ cur.toList.drop (0 + (k + 1) * 6 + (xs.drop (k * 6)).length) := by
      have hlt : (cur.toList.take (0 + (k + 1) * 6)).length = 0 + (k + 1) * 6 := by rw [List.length_take, hcl]; omega
      rw [List.append_assoc (cur.toList.take (0 + (k + 1) * 6))]
      rw [List.take_append_of_le_length (by rw [hlt]; omega), List.take_take, Nat.min_eq_left (by omega), Nat.zero_add, hck]
      rw [List.drop_append, List.drop_eq_nil_of_le (show (cur.toList.take (0 + (k + 1) * 6)).length ≤ k * 6 + new.length by rw [hlt, hl]; omega), List.nil_append]
      rw [show k * 6 + new.length - (cur.toList.take (0 + (k + 1) * 6)).length = 0 by rw [hlt, hl]; omega, List.drop_zero]
      simp only [Nat.zero_add, List.append_assoc]
    rw [hcur] at ho
    have ho := ho.toU 6 (n + 1) cap (by simp only [List.length_append, List.length_take, List.length_drop, hcl, hl, hxl]; omega) hroom' (by simp only [maxLen] at hcm; exact hcm)
    rw [List.take_left' (show (xs.take (k * 6) ++ new ++ xs.drop (k * 6)).length = (n + 1) * 6 by simp only [List.length_append, List.length_take, List.length_drop, hl, hxl]; omega)] at ho
    exact hK _ _ ⟨_, rfl, OwnS.back ho⟩
theorem sdelete_s_ret (v : Value) (n : Nat) (xs : List Value) (k : Nat) (w : World) (hu : (Ent.urow 9 1 v n xs).is w) (h1 : ∀ u ∈ xs, u.oneCell' = true) (hk : k < n) (hb : n ≤ 100000000000) :
    Ret Tryz.prog 228 #[v, .int .i64 (k : Int), .int .i64 ((k + 1 : Nat) : Int)] w
      (fun v' w' => ∃ e', e' = Ent.urow 9 1 v' (n - 1) (xs.take (k * 1) ++ xs.drop ((k + 1) * 1)) ∧ Turn (.urow 9 1 v n xs) e' w w') := by
  have hxl : xs.length = n * 1 := (show w.ownsRow 0 9 1 v n xs from hu).1
  have ho := OwnS.lend hu
  refine ret_of fun K hK => S_slices_Delete_string_string_ok ?_
  unfold S_slices_Delete_string_string
  have hel : elB Tryz.prog 9 1 16 = true := by kernel_rfl
  have hsz : (Tryz.prog.info? 9).map (·.size) = some 1 := by kernel_rfl
  rcases (show w.ownsRow 0 9 1 v n xs from hu).2 with ⟨_, h0⟩ | ⟨g, cap, cur, rfl, hbg, hg, hnc, hcm, hcs, htake⟩
  · omega
  have hcl : cur.toList.length = cap * 1 := by simpa using hcs
  have hnc2 : n * 1 ≤ cap * 1 := Nat.mul_le_mul_right _ hnc
  have hoc : OwnS (Ent.urow 9 1 (.slice (some ⟨g, 0, none⟩) n cap) n xs).blk w w [.cells g cur.toList 9] :=
    ho.turn 0 rfl ⟨Grew.refl _ _, by show w.heap[g]? = _; rw [hg], fun j hj => .inl (by simp only [Ent.cells] at hj; subst hj; rfl)⟩
  rw [sl_len_any Tryz.underlying22]
  refine do_eq (run_sl_lhm Tryz.underlying22 hsz (by omega) (by omega) (by omega) (by omega)) |>.mpr ?_
  have hne : ¬ (k : Int) = ((k + 1 : Nat) : Int) := by omega
  simp only [rs, hne, decide_false]
  rw [sl_len_any Tryz.underlying22]
  refine quiet ?_
  refine q_do _ (fun W => run_sl_h Tryz.underlying22 hsz (by omega) (by omega)) ?_
  refine q_do _ (fun W => run_sl_l Tryz.underlying22 hsz (by omega) (by omega)) ?_
  rw [show subA (some (⟨g, 0, none⟩ : Addr)) 0 cap 1 = some ⟨g, 0, none⟩ from subA_0 (a := ⟨g, 0, none⟩), Int.toNat_natCast, Int.toNat_natCast]
  obtain ⟨a, ha, hac⟩ : ∃ a, subA (some (⟨g, 0, none⟩ : Addr)) (k + 1) cap 1 = some a ∧ (k + 1 < cap → a = ⟨g, (k + 1) * 1, none⟩) := by
    by_cases h : k + 1 < cap
    · exact ⟨_, by rw [subA_in h, Nat.zero_add], fun _ => rfl⟩
    · exact ⟨⟨g, 0, none⟩, by unfold subA; rw [if_pos (by omega)], fun h' => absurd h' h⟩
  rw [ha]
  intro w3 hw
  have ho := hoc.grow hw
  have htl : (xs.drop ((k + 1) * 1)).length = (n - (k + 1)) * 1 := by rw [List.length_drop, hxl, ← Nat.mul_sub_right_distrib]
  have hkk : (k + 1) * 1 ≤ n * 1 := Nat.mul_le_mul_right _ (by omega)
  have hsum : k * 1 + (n - (k + 1)) * 1 = (n - 1) * 1 := by rw [← Nat.add_mul]; congr 1; omega
  have hn1 : (n - 1) * 1 + 1 = n * 1 := by rw [← Nat.succ_mul]; congr 1; omega
  refine o_appRoomC 0 (news := xs.drop ((k + 1) * 1)) Tryz.underlying22 hel ho rfl htl (fun j u hj => ?_) (fun u hu => h1 u (List.mem_of_mem_drop hu)) (by omega) (by rw [htl, hcl]; omega) fun w4 ho => ?_
  · have hjl : j < (xs.drop ((k + 1) * 1)).length := (List.getElem?_eq_some_iff.1 hj).1
    have hlt : k + 1 < cap := by
      rcases Nat.lt_or_ge (k + 1) n with h | h
      · omega
      · rw [htl, show n - (k + 1) = 0 by omega] at hjl; omega
    rw [hac hlt, add_none]
    refine ho.cell 0 rfl _ ?_
    rw [List.getElem?_drop, ← htake, List.getElem?_take] at hj
    split at hj <;> first | exact hj | cases hj
  simp only [List.set_cons_zero] at ho
  rw [sl_len_any Tryz.underlying22]
  rw [show k + (n - (k + 1)) = n - 1 by omega]
  refine do_eq (run_sl_lh Tryz.underlying22 hsz (by omega) (by omega) (by omega)) |>.mpr ?_
  rw [Int.toNat_natCast, Int.toNat_natCast, subA_in (by omega), Nat.zero_add, show n - (n - 1) = 1 by omega]
  have hck : cur.toList.take (k * 1) = xs.take (k * 1) := by
    rw [← htake, List.take_take, Nat.min_eq_left (Nat.mul_le_mul_right _ (by omega))]
  have hkl : (xs.take (k * 1)).length = k * 1 := by rw [List.length_take, hxl, Nat.min_eq_left (by omega)]
  rw [hck] at ho
  have hal : (xs.take (k * 1) ++ xs.drop ((k + 1) * 1)).length = (n - 1) * 1 := by rw [List.length_append, hkl, htl, hsum]
  refine o_clearC 0 Tryz.underlying22 hel (show zB Tryz.prog 9 = true by kernel_rfl) (by omega) ho rfl (by simp only [List.length_append, List.length_drop, hcl, hkl, hxl]; omega) fun _ w5 zs hzs ho => ?_
  simp only [List.set_cons_zero] at ho
  rw [List.take_left' hal, List.append_assoc (xs.take (k * 1) ++ xs.drop ((k + 1) * 1))] at ho
  have ho := ho.toU 1 (n - 1) cap (by simp only [List.length_append, List.length_drop, hcl, hkl, hxl, hzs]; omega) (by omega) (by simp only [maxLen] at hcm; exact hcm)
  rw [List.take_left' hal] at ho
  exact hK _ _ ⟨_, rfl, OwnS.back ho⟩
theorem sdelete_o_ret (v : Value) (n : Nat) (xs : List Value) (k : Nat) (w : World) (hu : (Ent.urow 25 6 v n xs).is w) (h1 : ∀ u ∈ xs, u.oneCell' = true) (hk : k < n) (hb : n ≤ 100000000000) :
    Ret Tryz.prog 229 #[v, .int .i64 (k : Int), .int .i64 ((k + 1 : Nat) : Int)] w
      (fun v' w' => ∃ e', e' = Ent.urow 25 6 v' (n - 1) (xs.take (k * 6) ++ xs.drop ((k + 1) * 6)) ∧ Turn (.urow 25 6 v n xs) e' w w') := by
  have hxl : xs.length = n * 6 := (show w.ownsRow 0 25 6 v n xs from hu).1
  have ho := OwnS.lend hu
  refine ret_of fun K hK => S_slices_Delete_foliant_api_Object_foliant_api_Object_ok ?_
  unfold S_slices_Delete_foliant_api_Object_foliant_api_Object
  have hel : elB Tryz.prog 25 6 88 = true := by kernel_rfl
  have hsz : (Tryz.prog.info? 25).map (·.size) = some 6 := by kernel_rfl
  rcases (show w.ownsRow 0 25 6 v n xs from hu).2 with ⟨_, h0⟩ | ⟨g, cap, cur, rfl, hbg, hg, hnc, hcm, hcs, htake⟩
  · omega
  have hcl : cur.toList.length = cap * 6 := by simpa using hcs
  have hnc2 : n * 6 ≤ cap * 6 := Nat.mul_le_mul_right _ hnc
  have hoc : OwnS (Ent.urow 25 6 (.slice (some ⟨g, 0, none⟩) n cap) n xs).blk w w [.cells g cur.toList 25] :=
    ho.turn 0 rfl ⟨Grew.refl _ _, by show w.heap[g]? = _; rw [hg], fun j hj => .inl (by simp only [Ent.cells] at hj; subst hj; rfl)⟩
  rw [sl_len_any Tryz.underlying23]
  refine do_eq (run_sl_lhm Tryz.underlying23 hsz (by omega) (by omega) (by omega) (by omega)) |>.mpr ?_
  have hne : ¬ (k : Int) = ((k + 1 : Nat) : Int) := by omega
  simp only [rs, hne, decide_false]
  rw [sl_len_any Tryz.underlying23]
  refine quiet ?_
  refine q_do _ (fun W => run_sl_h Tryz.underlying23 hsz (by omega) (by omega)) ?_
  refine q_do _ (fun W => run_sl_l Tryz.underlying23 hsz (by omega) (by omega)) ?_
  rw [show subA (some (⟨g, 0, none⟩ : Addr)) 0 cap 6 = some ⟨g, 0, none⟩ from subA_0 (a := ⟨g, 0, none⟩), Int.toNat_natCast, Int.toNat_natCast]
  obtain ⟨a, ha, hac⟩ : ∃ a, subA (some (⟨g, 0, none⟩ : Addr)) (k + 1) cap 6 = some a ∧ (k + 1 < cap → a = ⟨g, (k + 1) * 6, none⟩) := by
    by_cases h : k + 1 < cap
    · exact ⟨_, by rw [subA_in h, Nat.zero_add], fun _ => rfl⟩
    · exact ⟨⟨g, 0, none⟩, by unfold subA; rw [if_pos (by omega)], fun h' => absurd h' h⟩
  rw [ha]
  intro w3 hw
  have ho := hoc.grow hw
  have htl : (xs.drop ((k + 1) * 6)).length = (n - (k + 1)) * 6 := by rw [List.length_drop, hxl, ← Nat.mul_sub_right_distrib]
  have hkk : (k + 1) * 6 ≤ n * 6 := Nat.mul_le_mul_right _ (by omega)
  have hsum : k * 6 + (n - (k + 1)) * 6 = (n - 1) * 6 := by rw [← Nat.add_mul]; congr 1; omega
  have hn1 : (n - 1) * 6 + 6 = n * 6 := by rw [← Nat.succ_mul]; congr 1; omega
  refine o_appRoomC 0 (news := xs.drop ((k + 1) * 6)) Tryz.underlying23 hel ho rfl htl (fun j u hj => ?_) (fun u hu => h1 u (List.mem_of_mem_drop hu)) (by omega) (by rw [htl, hcl]; omega) fun w4 ho => ?_
  · have hjl : j < (xs.drop ((k + 1) * 6)).length := (List.getElem?_eq_some_iff.1 hj).1
    have hlt : k + 1 < cap := by
      rcases Nat.lt_or_ge (k + 1) n with h | h
      · omega
      · rw [htl, show n - (k + 1) = 0 by omega] at hjl; omega
    rw [hac hlt, add_none]
    refine ho.cell 0 rfl _ ?_
    rw [List.getElem?_drop, ← htake, List.getElem?_take] at hj
    split at hj <;> first | exact hj | cases hj
  simp only [List.set_cons_zero] at ho
  rw [sl_len_any Tryz.underlying23]
  rw [show k + (n - (k + 1)) = n - 1 by omega]
  refine do_eq (run_sl_lh Tryz.underlying23 hsz (by omega) (by omega) (by omega)) |>.mpr ?_
  rw [Int.toNat_natCast, Int.toNat_natCast, subA_in (by omega), Nat.zero_add, show n - (n - 1) = 1 by omega]
  have hck : cur.toList.take (k * 6) = xs.take (k * 6) := by
    rw [← htake, List.take_take, Nat.min_eq_left (Nat.mul_le_mul_right _ (by omega))]
  have hkl : (xs.take (k * 6)).length = k * 6 := by rw [List.length_take, hxl, Nat.min_eq_left (by omega)]
  rw [hck] at ho
  have hal : (xs.take (k * 6) ++ xs.drop ((k + 1) * 6)).length = (n - 1) * 6 := by rw [List.length_append, hkl, htl, hsum]
  refine o_clearC 0 Tryz.underlying23 hel (show zB Tryz.prog 25 = true by kernel_rfl) (by omega) ho rfl (by simp only [List.length_append, List.length_drop, hcl, hkl, hxl]; omega) fun _ w5 zs hzs ho => ?_
  simp only [List.set_cons_zero] at ho
  rw [List.take_left' hal, List.append_assoc (xs.take (k * 6) ++ xs.drop ((k + 1) * 6))] at ho
  have ho := ho.toU 6 (n - 1) cap (by simp only [List.length_append, List.length_drop, hcl, hkl, hxl, hzs]; omega) (by omega) (by simp only [maxLen] at hcm; exact hcm)
  rw [List.take_left' hal] at ho
  exact hK _ _ ⟨_, rfl, OwnS.back ho⟩
end Go.Proofs.YtiklhhdohckfiaaGreatDoor
namespace Go.Proofs.YtiklhhdohckfiaaGreatDoor
set_option linter.unusedVariables false
set_option linter.unusedSimpArgs false
set_option linter.defProp false
set_option linter.unusedVariables false
set_option maxRecDepth 20000
open Eng

def S_value_Null (w : World) (K : Ending → World → Prop) : Prop :=
 DoX Tryz.prog (mAlloc 25) w (pk K) fun t0 w =>
 DoX Tryz.prog (mBuild 25 #[]) w (pk K) fun t1 w =>
 DoX Tryz.prog (mStore 25 t0 t1) w (pk K) fun _ w =>
 RetX Tryz.prog [.cell t0 25] w K
theorem S_value_Null_eq (w : World) (K : Ending → World → Prop) : wpX Tryz.prog 2 [] [] none (bodyOf Tryz.f69) (topQ Tryz.prog [.cell 0 25] K) (startX []) [] w = S_value_Null w K := by kernel_rfl
theorem S_value_Null_ok {w : World} {K : Ending → World → Prop} (h : S_value_Null w K) : Calls Tryz.prog 69 #[] w K :=
  calls_of_wpX Tryz.func69 rfl rfl rfl rfl (Eq.mpr (S_value_Null_eq w K) h)

def S_value_Int (t0 : Value) (w : World) (K : Ending → World → Prop) : Prop :=
 DoX Tryz.prog (mAlloc 25) w (pk K) fun t2 w =>
 DoX Tryz.prog (mBuild 25 #[(0, (.int .i64 2)), (1, t0)]) w (pk K) fun t4 w =>
 DoX Tryz.prog (mStore 25 t2 t4) w (pk K) fun _ w =>
 RetX Tryz.prog [.cell t2 25] w K
theorem S_value_Int_eq (t0 : Value) (w : World) (K : Ending → World → Prop) : wpX Tryz.prog 5 [] [] none (bodyOf Tryz.f70) (topQ Tryz.prog [.cell 2 25] K) (startX [t0]) [] w = S_value_Int t0 w K := by kernel_rfl
theorem S_value_Int_ok {t0 : Value} {w : World} {K : Ending → World → Prop} (h : S_value_Int t0 w K) : Calls Tryz.prog 70 #[t0] w K :=
  calls_of_wpX Tryz.func70 rfl rfl rfl rfl (Eq.mpr (S_value_Int_eq t0 w K) h)

def S_value_Name (t0 : Value) (w : World) (K : Ending → World → Prop) : Prop :=
 DoX Tryz.prog (mAlloc 25) w (pk K) fun t2 w =>
 DoX Tryz.prog (mBuild 25 #[(0, (.int .i64 5)), (3, t0)]) w (pk K) fun t4 w =>
 DoX Tryz.prog (mStore 25 t2 t4) w (pk K) fun _ w =>
 RetX Tryz.prog [.cell t2 25] w K
theorem S_value_Name_eq (t0 : Value) (w : World) (K : Ending → World → Prop) : wpX Tryz.prog 5 [] [] none (bodyOf Tryz.f73) (topQ Tryz.prog [.cell 2 25] K) (startX [t0]) [] w = S_value_Name t0 w K := by kernel_rfl
theorem S_value_Name_ok {t0 : Value} {w : World} {K : Ending → World → Prop} (h : S_value_Name t0 w K) : Calls Tryz.prog 73 #[t0] w K :=
  calls_of_wpX Tryz.func73 rfl rfl rfl rfl (Eq.mpr (S_value_Name_eq t0 w K) h)

def S_value_String (t0 : Value) (w : World) (K : Ending → World → Prop) : Prop :=
 DoX Tryz.prog (mAlloc 25) w (pk K) fun t2 w =>
 DoX Tryz.prog (mBuild 25 #[(0, (.int .i64 4)), (3, t0)]) w (pk K) fun t4 w =>
 DoX Tryz.prog (mStore 25 t2 t4) w (pk K) fun _ w =>
 RetX Tryz.prog [.cell t2 25] w K
theorem S_value_String_eq (t0 : Value) (w : World) (K : Ending → World → Prop) : wpX Tryz.prog 5 [] [] none (bodyOf Tryz.f118) (topQ Tryz.prog [.cell 2 25] K) (startX [t0]) [] w = S_value_String t0 w K := by kernel_rfl
theorem S_value_String_ok {t0 : Value} {w : World} {K : Ending → World → Prop} (h : S_value_String t0 w K) : Calls Tryz.prog 118 #[t0] w K :=
  calls_of_wpX Tryz.func118 rfl rfl rfl rfl (Eq.mpr (S_value_String_eq t0 w K) h)

def S_value_Array (t0 : Value) (w : World) (K : Ending → World → Prop) : Prop :=
 DoX Tryz.prog (mAlloc 25) w (pk K) fun t2 w =>
 DoX Tryz.prog (mBuild 25 #[(0, (.int .i64 6)), (5, t0)]) w (pk K) fun t4 w =>
 CallX Tryz.prog 121 #[t4] w (pk K) fun t5 w =>
 DoX Tryz.prog (mStore 25 t2 t5) w (pk K) fun _ w =>
 RetX Tryz.prog [.cell t2 25] w K
theorem S_value_Array_eq (t0 : Value) (w : World) (K : Ending → World → Prop) : wpX Tryz.prog 6 [] [] none (bodyOf Tryz.f74) (topQ Tryz.prog [.cell 2 25] K) (startX [t0]) [] w = S_value_Array t0 w K := by kernel_rfl
theorem S_value_Array_ok {t0 : Value} {w : World} {K : Ending → World → Prop} (h : S_value_Array t0 w K) : Calls Tryz.prog 74 #[t0] w K :=
  calls_of_wpX Tryz.func74 rfl rfl rfl rfl (Eq.mpr (S_value_Array_eq t0 w K) h)

def S_value_sound (t0 : Value) (w : World) (K : Ending → World → Prop) : Prop :=
 DoX Tryz.prog (mBox 25 t0) w (pk K) fun t1 w =>
 DoX Tryz.prog (mAlloc 25) w (pk K) fun t2 w =>
 DoX Tryz.prog (mLoad 25 t1) w (pk K) fun t5 w =>
 CallX Tryz.prog 45 #[t5] w (pk K) fun t6 w =>
 DoX Tryz.prog (mEq .neq 28 (.tmp 7) (.const (.int .i64 0)) t6 (.int .i64 0)) w (pk K) fun t8 w =>
 IfX t8 (DoX Tryz.prog (mBuild 25 #[]) w (pk K) fun t9 w =>
 DoX Tryz.prog (mStore 25 t2 t9) w (pk K) fun _ w =>
 RetX Tryz.prog [.cell t2 25, .val t6] w K) (DoX Tryz.prog (mLoad 25 t1) w (pk K) fun t11 w =>
 DoX Tryz.prog (mStore 25 t2 t11) w (pk K) fun _ w =>
 RetX Tryz.prog [.cell t2 25, .val (.int .i64 0)] w K)
theorem S_value_sound_eq (t0 : Value) (w : World) (K : Ending → World → Prop) : wpX Tryz.prog 12 [] [] none (bodyOf Tryz.f120) (topQ Tryz.prog [.cell 2 25, .tmp 3] K) (startX [t0]) [] w = S_value_sound t0 w K := by kernel_rfl
theorem S_value_sound_ok {t0 : Value} {w : World} {K : Ending → World → Prop} (h : S_value_sound t0 w K) : Calls Tryz.prog 120 #[t0] w K :=
  calls_of_wpX Tryz.func120 rfl rfl rfl rfl (Eq.mpr (S_value_sound_eq t0 w K) h)

def S_value_keyed (t0 : Value) (w : World) (K : Ending → World → Prop) : Prop :=
 DoX Tryz.prog (mBox 25 t0) w (pk K) fun t1 w =>
 DoX Tryz.prog (mFA 25 t1 0) w (pk K) fun t3 w =>
 DoX Tryz.prog (mLoad 3 t3) w (pk K) fun t4 w =>
 DoX Tryz.prog (mEq .eql 3 (.tmp 4) (.const (.int .i64 7)) t4 (.int .i64 7)) w (pk K) fun t5 w =>
 GDo t5 false (fun E => DoX Tryz.prog (mFA 25 t1 0) w (pk K) E) w fun t7 w =>
 GDo t5 false (fun E => DoX Tryz.prog (mLoad 3 t7) w (pk K) E) w fun t8 w =>
 GDo t5 false (fun E => DoX Tryz.prog (mEq .eql 3 (.tmp 8) (.const (.int .i64 9)) t8 (.int .i64 9)) w (pk K) E) w fun t9 w =>
 DoX Tryz.prog (mPick t5 (.bool true) t9) w (pk K) fun t10 w =>
 K (.returned t10) w
theorem S_value_keyed_eq (t0 : Value) (w : World) (K : Ending → World → Prop) : wpX Tryz.prog 11 [] [] none (bodyOf Tryz.f122) (topQ Tryz.prog [.tmp 2] K) (startX [t0]) [] w = S_value_keyed t0 w K := by kernel_rfl
theorem S_value_keyed_ok {t0 : Value} {w : World} {K : Ending → World → Prop} (h : S_value_keyed t0 w K) : Calls Tryz.prog 122 #[t0] w K :=
  calls_of_wpX Tryz.func122 rfl rfl rfl rfl (Eq.mpr (S_value_keyed_eq t0 w K) h)

def S_value_with_0 (t3 t6 : Value) (w : World) (K : Ending → World → Prop) : Prop :=
 DoX Tryz.prog (mLoad 25 t3) w (pk K) fun t44 w =>
 DoX Tryz.prog (mStore 25 t6 t44) w (pk K) fun _ w =>
 RetX Tryz.prog [.cell t6 25] w K
def S_value_with (t0 t1 t2 : Value) (w : World) (K : Ending → World → Prop) : Prop :=
 DoX Tryz.prog (mBox 25 t0) w (pk K) fun t3 w =>
 DoX Tryz.prog (mBox 25 t2) w (pk K) fun t5 w =>
 DoX Tryz.prog (mAlloc 25) w (pk K) fun t6 w =>
 DoX Tryz.prog (mFA 25 t3 4) w (pk K) fun t10 w =>
 DoX Tryz.prog (mLoad 22 t10) w (pk K) fun t11 w =>
 CallX Tryz.prog 182 #[t11, t1] w (pk K) fun t13 w =>
 DoX Tryz.prog (mExt t13 0) w (pk K) fun t14 w =>
 DoX Tryz.prog (mExt t13 1) w (pk K) fun t15 w =>
 DoX Tryz.prog (mFA 25 t3 4) w (pk K) fun t16 w =>
 DoX Tryz.prog (mLoad 22 t16) w (pk K) fun t17 w =>
 CallX Tryz.prog 183 #[t17] w (pk K) fun t18 w =>
 DoX Tryz.prog (mFA 25 t3 4) w (pk K) fun t19 w =>
 DoX Tryz.prog (mStore 22 t19 t18) w (pk K) fun _ w =>
 DoX Tryz.prog (mFA 25 t3 5) w (pk K) fun t20 w =>
 DoX Tryz.prog (mLoad 23 t20) w (pk K) fun t21 w =>
 CallX Tryz.prog 184 #[t21] w (pk K) fun t22 w =>
 DoX Tryz.prog (mFA 25 t3 5) w (pk K) fun t23 w =>
 DoX Tryz.prog (mStore 23 t23 t22) w (pk K) fun _ w =>
 JoinX (fun J1 =>
 IfX t15 (DoX Tryz.prog (mFA 25 t3 5) w (pk K) fun t25 w =>
 DoX Tryz.prog (mLoad 23 t25) w (pk K) fun t26 w =>
 DoX Tryz.prog (mLoad 25 t5) w (pk K) fun t28 w =>
 DoX Tryz.prog (mIA 23 t26 t14) w (pk K) fun t29 w =>
 DoX Tryz.prog (mStore 25 t29 t28) w (pk K) fun _ w =>
 J1 [] w) (DoX Tryz.prog (mFA 25 t3 4) w (pk K) fun t30 w =>
 DoX Tryz.prog (mLoad 22 t30) w (pk K) fun t31 w =>
 DoX Tryz.prog (mBuildS 22 1 #[(0, t1)]) w (pk K) fun t34 w =>
 CallX Tryz.prog 185 #[t31, t14, t34] w (pk K) fun t35 w =>
 DoX Tryz.prog (mFA 25 t3 4) w (pk K) fun t36 w =>
 DoX Tryz.prog (mStore 22 t36 t35) w (pk K) fun _ w =>
 DoX Tryz.prog (mFA 25 t3 5) w (pk K) fun t37 w =>
 DoX Tryz.prog (mLoad 23 t37) w (pk K) fun t38 w =>
 DoX Tryz.prog (mLoad 25 t5) w (pk K) fun t40 w =>
 DoX Tryz.prog (mBuildS 23 1 #[(0, t40)]) w (pk K) fun t41 w =>
 CallX Tryz.prog 186 #[t38, t14, t41] w (pk K) fun t42 w =>
 DoX Tryz.prog (mFA 25 t3 5) w (pk K) fun t43 w =>
 DoX Tryz.prog (mStore 23 t43 t42) w (pk K) fun _ w =>
 J1 [] w)) (fun vs1 w => ∀ _ : Sg, S_value_with_0 t3 t6 w K)
theorem S_value_with_eq (t0 t1 t2 : Value) (w : World) (K : Ending → World → Prop) : wpX Tryz.prog 45 [(8, [])] [] none (bodyOf Tryz.f119) (topQ Tryz.prog [.cell 6 25] K) (startX [t0, t1, t2]) [] w = S_value_with t0 t1 t2 w K := by kernel_rfl
theorem S_value_with_ok {t0 t1 t2 : Value} {w : World} {K : Ending → World → Prop} (h : S_value_with t0 t1 t2 w K) : Calls Tryz.prog 119 #[t0, t1, t2] w K :=
  calls_of_wpX Tryz.func119 rfl rfl rfl rfl (Eq.mpr (S_value_with_eq t0 t1 t2 w K) h)

def S_value_without (t0 t1 : Value) (w : World) (K : Ending → World → Prop) : Prop :=
 DoX Tryz.prog (mBox 25 t0) w (pk K) fun t2 w =>
 DoX Tryz.prog (mAlloc 25) w (pk K) fun t4 w =>
 DoX Tryz.prog (mFA 25 t2 4) w (pk K) fun t5 w =>
 DoX Tryz.prog (mLoad 22 t5) w (pk K) fun t6 w =>
 CallX Tryz.prog 183 #[t6] w (pk K) fun t7 w =>
 DoX Tryz.prog (mBin .add 3 t1 (.int .i64 1)) w (pk K) fun t10 w =>
 CallX Tryz.prog 228 #[t7, t1, t10] w (pk K) fun t11 w =>
 DoX Tryz.prog (mFA 25 t2 4) w (pk K) fun t12 w =>
 DoX Tryz.prog (mStore 22 t12 t11) w (pk K) fun _ w =>
 DoX Tryz.prog (mFA 25 t2 5) w (pk K) fun t13 w =>
 DoX Tryz.prog (mLoad 23 t13) w (pk K) fun t14 w =>
 CallX Tryz.prog 184 #[t14] w (pk K) fun t15 w =>
 DoX Tryz.prog (mBin .add 3 t1 (.int .i64 1)) w (pk K) fun t18 w =>
 CallX Tryz.prog 229 #[t15, t1, t18] w (pk K) fun t19 w =>
 DoX Tryz.prog (mFA 25 t2 5) w (pk K) fun t20 w =>
 DoX Tryz.prog (mStore 23 t20 t19) w (pk K) fun _ w =>
 DoX Tryz.prog (mLoad 25 t2) w (pk K) fun t21 w =>
 DoX Tryz.prog (mStore 25 t4 t21) w (pk K) fun _ w =>
 RetX Tryz.prog [.cell t4 25] w K
theorem S_value_without_eq (t0 t1 : Value) (w : World) (K : Ending → World → Prop) : wpX Tryz.prog 22 [] [] none (bodyOf Tryz.f189) (topQ Tryz.prog [.cell 4 25] K) (startX [t0, t1]) [] w = S_value_without t0 t1 w K := by kernel_rfl
theorem S_value_without_ok {t0 t1 : Value} {w : World} {K : Ending → World → Prop} (h : S_value_without t0 t1 w K) : Calls Tryz.prog 189 #[t0, t1] w K :=
  calls_of_wpX Tryz.func189 rfl rfl rfl rfl (Eq.mpr (S_value_without_eq t0 t1 w K) h)

def S_value_Dict_2 (t3 t7 : Value) (w : World) (N2 : List Value → World → Prop) (K : Ending → World → Prop) : Prop :=
 DoX Tryz.prog (mBin .add 3 t7 (.int .i64 2)) w (pk K) fun t34 w =>
 N2 [t3, t34] w
def S_value_Dict_1 (t0 t2 t3 t5 t6 t7 : Value) (w : World) (N2 : List Value → World → Prop) (K : Ending → World → Prop) : Prop :=
 DoX Tryz.prog (mB .len #[23] 3 #[false] #[t0]) w (pk K) fun t31 w =>
 DoX Tryz.prog (mBin .lss 3 t7 t31) w (pk K) fun t32 w =>
 IfX t32 (JoinX (fun J3 =>
 DoX Tryz.prog (mIA 23 t0 t7) w (pk K) fun t37 w =>
 DoX Tryz.prog (mFA 25 t37 3) w (pk K) fun t38 w =>
 DoX Tryz.prog (mLoad 9 t38) w (pk K) fun t39 w =>
 DoX Tryz.prog (mLook 130 t6 t39 false) w (pk K) fun t42 w =>
 IfX t42 (DoX Tryz.prog (mBuild 25 #[]) w (pk K) fun t43 w =>
 DoX Tryz.prog (mStore 25 t2 t43) w (pk K) fun _ w =>
 RetX Tryz.prog [.cell t2 25, .val (.int .i64 9)] w K) (DoX Tryz.prog (mMapU 130 t6 t39 (.bool true)) w (pk K) fun _ w =>
 DoX Tryz.prog (mBin .add 3 t7 (.int .i64 1)) w (pk K) fun t48 w =>
 DoX Tryz.prog (mIA 23 t0 t48) w (pk K) fun t49 w =>
 DoX Tryz.prog (mFA 25 t49 0) w (pk K) fun t50 w =>
 DoX Tryz.prog (mLoad 3 t50) w (pk K) fun t51 w =>
 DoX Tryz.prog (mEq .neq 3 (.tmp 51) (.const (.int .i64 0)) t51 (.int .i64 0)) w (pk K) fun t52 w =>
 IfX t52 (QuietX w (fun C4 =>
 QDo Tryz.prog C4 (mLoad 25 t5) fun t53 =>
 QDo Tryz.prog C4 (mBin .add 3 t7 (.int .i64 1)) fun t57 =>
 QDo Tryz.prog C4 (mIA 23 t0 t57) fun t58 =>
 QDo Tryz.prog C4 (mLoad 25 t58) fun t59 =>
 ∀ w, C4 w →
 CallX Tryz.prog 119 #[t53, t39, t59] w (pk K) fun t60 w =>
 DoX Tryz.prog (mStore 25 t5 t60) w (pk K) fun _ w =>
 J3 [t3] w)) (J3 [t3] w))) (fun vs3 w => ∀ _ : Sg, S_value_Dict_2 (vs3.getD 0 undef) t7 w N2 K)) (DoX Tryz.prog (mLoad 25 t5) w (pk K) fun t61 w =>
 CallX Tryz.prog 121 #[t61] w (pk K) fun t62 w =>
 CallX Tryz.prog 120 #[t62] w (pk K) fun t63 w =>
 DoX Tryz.prog (mExt t63 0) w (pk K) fun t64 w =>
 DoX Tryz.prog (mExt t63 1) w (pk K) fun t65 w =>
 DoX Tryz.prog (mStore 25 t2 t64) w (pk K) fun _ w =>
 RetX Tryz.prog [.cell t2 25, .val t65] w K)
def S_value_Dict_0 (t0 t2 t3 t4 : Value) (w : World) (N1 : List Value → World → Prop) (K : Ending → World → Prop) : Prop :=
 DoX Tryz.prog (mB .len #[23] 3 #[false] #[t0]) w (pk K) fun t16 w =>
 DoX Tryz.prog (mBin .lss 3 t4 t16) w (pk K) fun t17 w =>
 IfX t17 (DoX Tryz.prog (mIA 23 t0 t4) w (pk K) fun t22 w =>
 DoX Tryz.prog (mFA 25 t22 0) w (pk K) fun t23 w =>
 DoX Tryz.prog (mLoad 3 t23) w (pk K) fun t24 w =>
 DoX Tryz.prog (mEq .neq 3 (.tmp 24) (.const (.int .i64 5)) t24 (.int .i64 5)) w (pk K) fun t25 w =>
 IfX t25 (DoX Tryz.prog (mBuild 25 #[]) w (pk K) fun t26 w =>
 DoX Tryz.prog (mStore 25 t2 t26) w (pk K) fun _ w =>
 RetX Tryz.prog [.cell t2 25, .val (.int .i64 1)] w K) (DoX Tryz.prog (mBin .add 3 t4 (.int .i64 2)) w (pk K) fun t19 w =>
 N1 [t3, t19] w)) (DoX Tryz.prog (mBuild 25 #[(0, (.int .i64 7))]) w (pk K) fun t27 w =>
 DoX Tryz.prog (mAlloc 25) w (pk K) fun t5 w =>
 DoX Tryz.prog (mStore 25 t5 t27) w (pk K) fun _ w =>
 DoX Tryz.prog (mMap 130 none) w (pk K) fun t28 w =>
 LoopX [t3, (.int .i64 0)] w (fun vs2 w N2 => ∀ _ : Sg, S_value_Dict_1 t0 t2 (vs2.getD 0 undef) t5 t28 (vs2.getD 1 undef) w N2 K))
def S_value_Dict (t0 : Value) (w : World) (K : Ending → World → Prop) : Prop :=
 DoX Tryz.prog (mAlloc 25) w (pk K) fun t2 w =>
 DoX Tryz.prog (mB .len #[23] 3 #[false] #[t0]) w (pk K) fun t10 w =>
 DoX Tryz.prog (mBin .rem 3 t10 (.int .i64 2)) w (pk K) fun t11 w =>
 DoX Tryz.prog (mEq .neq 3 (.tmp 11) (.const (.int .i64 0)) t11 (.int .i64 0)) w (pk K) fun t12 w =>
 IfX t12 (DoX Tryz.prog (mBuild 25 #[]) w (pk K) fun t13 w =>
 DoX Tryz.prog (mStore 25 t2 t13) w (pk K) fun _ w =>
 RetX Tryz.prog [.cell t2 25, .val (.int .i64 1)] w K) (LoopX [(.int .i64 0), (.int .i64 0)] w (fun vs1 w N1 => ∀ _ : Sg, S_value_Dict_0 t0 t2 (vs1.getD 0 undef) (vs1.getD 1 undef) w N1 K))
theorem S_value_Dict_eq (t0 : Value) (w : World) (K : Ending → World → Prop) : wpX Tryz.prog 66 [(12, [3])] [(4, [3, 4]), (11, [3, 7])] none (bodyOf Tryz.f72) (topQ Tryz.prog [.cell 2 25, .tmp 3] K) (startX [t0]) [] w = S_value_Dict t0 w K := by kernel_rfl
theorem S_value_Dict_ok {t0 : Value} {w : World} {K : Ending → World → Prop} (h : S_value_Dict t0 w K) : Calls Tryz.prog 72 #[t0] w K :=
  calls_of_wpX Tryz.func72 rfl rfl rfl rfl (Eq.mpr (S_value_Dict_eq t0 w K) h)

def S_value_Get (t0 t1 : Value) (w : World) (K : Ending → World → Prop) : Prop :=
 DoX Tryz.prog (mBox 25 t0) w (pk K) fun t2 w =>
 DoX Tryz.prog (mAlloc 25) w (pk K) fun t4 w =>
 DoX Tryz.prog (mLoad 25 t2) w (pk K) fun t7 w =>
 CallX Tryz.prog 122 #[t7] w (pk K) fun t8 w =>
 DoX Tryz.prog (mUn .not t8) w (pk K) fun t9 w =>
 IfX t9 (DoX Tryz.prog (mBuild 25 #[]) w (pk K) fun t10 w =>
 DoX Tryz.prog (mStore 25 t4 t10) w (pk K) fun _ w =>
 RetX Tryz.prog [.cell t4 25, .val (.bool false)] w K) (DoX Tryz.prog (mFA 25 t2 4) w (pk K) fun t11 w =>
 DoX Tryz.prog (mLoad 22 t11) w (pk K) fun t12 w =>
 CallX Tryz.prog 123 #[t12, t1] w (pk K) fun t14 w =>
 DoX Tryz.prog (mBin .lss 3 t14 (.int .i64 0)) w (pk K) fun t16 w =>
 GDo t16 false (fun E => E t14 w) w fun t18 w =>
 GDo t16 false (fun E => DoX Tryz.prog (mFA 25 t2 5) w (pk K) E) w fun t19 w =>
 GDo t16 false (fun E => DoX Tryz.prog (mLoad 23 t19) w (pk K) E) w fun t20 w =>
 GDo t16 false (fun E => DoX Tryz.prog (mB .len #[23] 3 #[false] #[t20]) w (pk K) E) w fun t21 w =>
 GDo t16 false (fun E => DoX Tryz.prog (mBin .geq 3 t18 t21) w (pk K) E) w fun t22 w =>
 DoX Tryz.prog (mPick t16 (.bool true) t22) w (pk K) fun t23 w =>
 IfX t23 (DoX Tryz.prog (mBuild 25 #[]) w (pk K) fun t24 w =>
 DoX Tryz.prog (mStore 25 t4 t24) w (pk K) fun _ w =>
 RetX Tryz.prog [.cell t4 25, .val (.bool false)] w K) (DoX Tryz.prog (mFA 25 t2 5) w (pk K) fun t25 w =>
 DoX Tryz.prog (mLoad 23 t25) w (pk K) fun t26 w =>
 DoX Tryz.prog (mIA 23 t26 t14) w (pk K) fun t28 w =>
 DoX Tryz.prog (mLoad 25 t28) w (pk K) fun t29 w =>
 CallX Tryz.prog 121 #[t29] w (pk K) fun t30 w =>
 DoX Tryz.prog (mStore 25 t4 t30) w (pk K) fun _ w =>
 RetX Tryz.prog [.cell t4 25, .val (.bool true)] w K))
theorem S_value_Get_eq (t0 t1 : Value) (w : World) (K : Ending → World → Prop) : wpX Tryz.prog 31 [] [] none (bodyOf Tryz.f75) (topQ Tryz.prog [.cell 4 25, .tmp 5] K) (startX [t0, t1]) [] w = S_value_Get t0 t1 w K := by kernel_rfl
theorem S_value_Get_ok {t0 t1 : Value} {w : World} {K : Ending → World → Prop} (h : S_value_Get t0 t1 w K) : Calls Tryz.prog 75 #[t0, t1] w K :=
  calls_of_wpX Tryz.func75 rfl rfl rfl rfl (Eq.mpr (S_value_Get_eq t0 t1 w K) h)

def S_value_Set (t0 t1 t2 : Value) (w : World) (K : Ending → World → Prop) : Prop :=
 DoX Tryz.prog (mBox 25 t0) w (pk K) fun t3 w =>
 DoX Tryz.prog (mBox 25 t2) w (pk K) fun t5 w =>
 DoX Tryz.prog (mAlloc 25) w (pk K) fun t6 w =>
 DoX Tryz.prog (mLoad 25 t3) w (pk K) fun t9 w =>
 CallX Tryz.prog 122 #[t9] w (pk K) fun t10 w =>
 DoX Tryz.prog (mUn .not t10) w (pk K) fun t11 w =>
 IfX t11 (DoX Tryz.prog (mBuild 25 #[]) w (pk K) fun t12 w =>
 DoX Tryz.prog (mStore 25 t6 t12) w (pk K) fun _ w =>
 RetX Tryz.prog [.cell t6 25, .val (.int .i64 10)] w K) (DoX Tryz.prog (mLoad 25 t3) w (pk K) fun t13 w =>
 CallX Tryz.prog 45 #[t13] w (pk K) fun t14 w =>
 DoX Tryz.prog (mEq .neq 28 (.tmp 15) (.const (.int .i64 0)) t14 (.int .i64 0)) w (pk K) fun t16 w =>
 IfX t16 (DoX Tryz.prog (mBuild 25 #[]) w (pk K) fun t17 w =>
 DoX Tryz.prog (mStore 25 t6 t17) w (pk K) fun _ w =>
 RetX Tryz.prog [.cell t6 25, .val t14] w K) (DoX Tryz.prog (mFA 25 t5 0) w (pk K) fun t19 w =>
 DoX Tryz.prog (mLoad 3 t19) w (pk K) fun t20 w =>
 DoX Tryz.prog (mEq .eql 3 (.tmp 20) (.const (.int .i64 0)) t20 (.int .i64 0)) w (pk K) fun t21 w =>
 IfX t21 (DoX Tryz.prog (mLoad 25 t3) w (pk K) fun t22 w =>
 CallX Tryz.prog 127 #[t22, t1] w (pk K) fun t24 w =>
 DoX Tryz.prog (mStore 25 t6 t24) w (pk K) fun _ w =>
 RetX Tryz.prog [.cell t6 25, .val (.int .i64 0)] w K) (DoX Tryz.prog (mLoad 25 t3) w (pk K) fun t25 w =>
 DoX Tryz.prog (mLoad 25 t5) w (pk K) fun t27 w =>
 CallX Tryz.prog 119 #[t25, t1, t27] w (pk K) fun t28 w =>
 CallX Tryz.prog 121 #[t28] w (pk K) fun t29 w =>
 CallX Tryz.prog 120 #[t29] w (pk K) fun t30 w =>
 DoX Tryz.prog (mExt t30 0) w (pk K) fun t31 w =>
 DoX Tryz.prog (mExt t30 1) w (pk K) fun t32 w =>
 DoX Tryz.prog (mStore 25 t6 t31) w (pk K) fun _ w =>
 RetX Tryz.prog [.cell t6 25, .val t32] w K)))
theorem S_value_Set_eq (t0 t1 t2 : Value) (w : World) (K : Ending → World → Prop) : wpX Tryz.prog 33 [] [] none (bodyOf Tryz.f77) (topQ Tryz.prog [.cell 6 25, .tmp 7] K) (startX [t0, t1, t2]) [] w = S_value_Set t0 t1 t2 w K := by kernel_rfl
theorem S_value_Set_ok {t0 t1 t2 : Value} {w : World} {K : Ending → World → Prop} (h : S_value_Set t0 t1 t2 w K) : Calls Tryz.prog 77 #[t0, t1, t2] w K :=
  calls_of_wpX Tryz.func77 rfl rfl rfl rfl (Eq.mpr (S_value_Set_eq t0 t1 t2 w K) h)

def S_value_Drop_0 (t2 t4 : Value) (w : World) (K : Ending → World → Prop) : Prop :=
 DoX Tryz.prog (mLoad 25 t2) w (pk K) fun t25 w =>
 CallX Tryz.prog 121 #[t25] w (pk K) fun t26 w =>
 DoX Tryz.prog (mStore 25 t4 t26) w (pk K) fun _ w =>
 RetX Tryz.prog [.cell t4 25] w K
def S_value_Drop (t0 t1 : Value) (w : World) (K : Ending → World → Prop) : Prop :=
 DoX Tryz.prog (mBox 25 t0) w (pk K) fun t2 w =>
 DoX Tryz.prog (mAlloc 25) w (pk K) fun t4 w =>
 JoinX (fun J1 =>
 DoX Tryz.prog (mLoad 25 t2) w (pk K) fun t7 w =>
 CallX Tryz.prog 122 #[t7] w (pk K) fun t8 w =>
 GDo t8 true (fun E => DoX Tryz.prog (mLoad 25 t2) w (pk K) E) w fun t10 w =>
 GDo t8 true (fun E => CallX Tryz.prog 45 #[t10] w (pk K) E) w fun t11 w =>
 GDo t8 true (fun E => DoX Tryz.prog (mEq .eql 28 (.tmp 11) (.const (.int .i64 0)) t11 (.int .i64 0)) w (pk K) E) w fun t12 w =>
 DoX Tryz.prog (mPick t8 t12 (.bool false)) w (pk K) fun t13 w =>
 IfX t13 (DoX Tryz.prog (mFA 25 t2 4) w (pk K) fun t15 w =>
 DoX Tryz.prog (mLoad 22 t15) w (pk K) fun t16 w =>
 CallX Tryz.prog 182 #[t16, t1] w (pk K) fun t18 w =>
 DoX Tryz.prog (mExt t18 0) w (pk K) fun t19 w =>
 DoX Tryz.prog (mExt t18 1) w (pk K) fun t20 w =>
 IfX t20 (DoX Tryz.prog (mLoad 25 t2) w (pk K) fun t22 w =>
 CallX Tryz.prog 189 #[t22, t19] w (pk K) fun t24 w =>
 DoX Tryz.prog (mStore 25 t2 t24) w (pk K) fun _ w =>
 J1 [] w) (J1 [] w)) (J1 [] w)) (fun vs1 w => ∀ _ : Sg, S_value_Drop_0 t2 t4 w K)
theorem S_value_Drop_eq (t0 t1 : Value) (w : World) (K : Ending → World → Prop) : wpX Tryz.prog 27 [(5, [])] [] none (bodyOf Tryz.f127) (topQ Tryz.prog [.cell 4 25] K) (startX [t0, t1]) [] w = S_value_Drop t0 t1 w K := by kernel_rfl
theorem S_value_Drop_ok {t0 t1 : Value} {w : World} {K : Ending → World → Prop} (h : S_value_Drop t0 t1 w K) : Calls Tryz.prog 127 #[t0, t1] w K :=
  calls_of_wpX Tryz.func127 rfl rfl rfl rfl (Eq.mpr (S_value_Drop_eq t0 t1 w K) h)

def S_value_Clone (t0 : Value) (w : World) (K : Ending → World → Prop) : Prop :=
 DoX Tryz.prog (mBox 25 t0) w (pk K) fun t1 w =>
 DoX Tryz.prog (mAlloc 25) w (pk K) fun t2 w =>
 DoX Tryz.prog (mLoad 25 t1) w (pk K) fun t3 w =>
 CallX Tryz.prog 187 #[t3, (.func (.func 188) #[] #[])] w (pk K) fun t4 w =>
 DoX Tryz.prog (mStore 25 t2 t4) w (pk K) fun _ w =>
 RetX Tryz.prog [.cell t2 25] w K
theorem S_value_Clone_eq (t0 : Value) (w : World) (K : Ending → World → Prop) : wpX Tryz.prog 5 [] [] none (bodyOf Tryz.f121) (topQ Tryz.prog [.cell 2 25] K) (startX [t0]) [] w = S_value_Clone t0 w K := by kernel_rfl
theorem S_value_Clone_ok {t0 : Value} {w : World} {K : Ending → World → Prop} (h : S_value_Clone t0 w K) : Calls Tryz.prog 121 #[t0] w K :=
  calls_of_wpX Tryz.func121 rfl rfl rfl rfl (Eq.mpr (S_value_Clone_eq t0 w K) h)

def S_value_Clone_1 (t0 : Value) (w : World) (K : Ending → World → Prop) : Prop :=
 DoX Tryz.prog (mBox 25 t0) w (pk K) fun t1 w =>
 DoX Tryz.prog (mAlloc 25) w (pk K) fun t2 w =>
 DoX Tryz.prog (mLoad 25 t1) w (pk K) fun t3 w =>
 DoX Tryz.prog (mStore 25 t2 t3) w (pk K) fun _ w =>
 RetX Tryz.prog [.cell t2 25] w K
theorem S_value_Clone_1_eq (t0 : Value) (w : World) (K : Ending → World → Prop) : wpX Tryz.prog 4 [] [] none (bodyOf Tryz.f188) (topQ Tryz.prog [.cell 2 25] K) (startX [t0]) [] w = S_value_Clone_1 t0 w K := by kernel_rfl
theorem S_value_Clone_1_ok {t0 : Value} {w : World} {K : Ending → World → Prop} (h : S_value_Clone_1 t0 w K) : Calls Tryz.prog 188 #[t0] w K :=
  calls_of_wpX Tryz.func188 rfl rfl rfl rfl (Eq.mpr (S_value_Clone_1_eq t0 w K) h)

def S_value_changed_1 (t2 t4 : Value) (w : World) (K : Ending → World → Prop) : Prop :=
 DoX Tryz.prog (mLoad 25 t2) w (pk K) fun t39 w =>
 DoX Tryz.prog (mStore 25 t4 t39) w (pk K) fun _ w =>
 RetX Tryz.prog [.cell t4 25] w K
def S_value_changed_0 (t1 t2 t5 t23 t24 t25 : Value) (w : World) (J1 N2 : List Value → World → Prop) (K : Ending → World → Prop) : Prop :=
 DoX Tryz.prog (mBin .lss 3 t25 t24) w (pk K) fun t26 w =>
 IfX t26 (DoX Tryz.prog (mIA 23 t23 t25) w (pk K) fun t28 w =>
 DoX Tryz.prog (mLoad 25 t28) w (pk K) fun t29 w =>
 DoX Tryz.prog (mAlloc 25) w (pk K) fun t7 w =>
 DoX Tryz.prog (mStore 25 t7 t29) w (pk K) fun _ w =>
 DoX Tryz.prog (mLoad 25 t7) w (pk K) fun t32 w =>
 CallX Tryz.prog 187 #[t32, t1] w (pk K) fun t34 w =>
 DoX Tryz.prog (mIA 23 t5 t25) w (pk K) fun t35 w =>
 DoX Tryz.prog (mStore 25 t35 t34) w (pk K) fun _ w =>
 DoX Tryz.prog (mBin .add 3 t25 (.int .i64 1)) w (pk K) fun t36 w =>
 N2 [t36] w) (DoX Tryz.prog (mFA 25 t2 5) w (pk K) fun t38 w =>
 DoX Tryz.prog (mStore 23 t38 t5) w (pk K) fun _ w =>
 J1 [] w)
def S_value_changed (t0 t1 : Value) (w : World) (K : Ending → World → Prop) : Prop :=
 DoX Tryz.prog (mBox 25 t0) w (pk K) fun t2 w =>
 DoX Tryz.prog (mAlloc 25) w (pk K) fun t4 w =>
 DoX Tryz.prog (mLoad 25 t2) w (pk K) fun t9 w =>
 DoX Tryz.prog (mCallV t1 #[t9]) w (pk K) fun t10 w =>
 DoX Tryz.prog (mStore 25 t2 t10) w (pk K) fun _ w =>
 DoX Tryz.prog (mFA 25 t2 4) w (pk K) fun t11 w =>
 DoX Tryz.prog (mLoad 22 t11) w (pk K) fun t12 w =>
 CallX Tryz.prog 183 #[t12] w (pk K) fun t13 w =>
 DoX Tryz.prog (mFA 25 t2 4) w (pk K) fun t14 w =>
 DoX Tryz.prog (mStore 22 t14 t13) w (pk K) fun _ w =>
 JoinX (fun J1 =>
 DoX Tryz.prog (mFA 25 t2 5) w (pk K) fun t15 w =>
 DoX Tryz.prog (mLoad 23 t15) w (pk K) fun t16 w =>
 DoX Tryz.prog (mEq .neq 23 (.tmp 16) (.const (.slice none 0 0)) t16 (.slice none 0 0)) w (pk K) fun t17 w =>
 IfX t17 (DoX Tryz.prog (mFA 25 t2 5) w (pk K) fun t18 w =>
 DoX Tryz.prog (mLoad 23 t18) w (pk K) fun t19 w =>
 DoX Tryz.prog (mB .len #[23] 3 #[false] #[t19]) w (pk K) fun t20 w =>
 DoX Tryz.prog (mMake 23 t20 t20) w (pk K) fun t21 w =>
 DoX Tryz.prog (mFA 25 t2 5) w (pk K) fun t22 w =>
 DoX Tryz.prog (mLoad 23 t22) w (pk K) fun t23 w =>
 DoX Tryz.prog (mB .len #[23] 3 #[false] #[t23]) w (pk K) fun t24 w =>
 LoopX [(.int .i64 0)] w (fun vs2 w N2 => ∀ _ : Sg, S_value_changed_0 t1 t2 t21 t23 t24 (vs2.getD 0 undef) w J1 N2 K)) (J1 [] w)) (fun vs1 w => ∀ _ : Sg, S_value_changed_1 t2 t4 w K)
theorem S_value_changed_eq (t0 t1 : Value) (w : World) (K : Ending → World → Prop) : wpX Tryz.prog 40 [(11, [])] [(6, [25])] none (bodyOf Tryz.f187) (topQ Tryz.prog [.cell 4 25] K) (startX [t0, t1]) [] w = S_value_changed t0 t1 w K := by kernel_rfl
theorem S_value_changed_ok {t0 t1 : Value} {w : World} {K : Ending → World → Prop} (h : S_value_changed t0 t1 w K) : Calls Tryz.prog 187 #[t0, t1] w K :=
  calls_of_wpX Tryz.func187 rfl rfl rfl rfl (Eq.mpr (S_value_changed_eq t0 t1 w K) h)

end Go.Proofs.YtiklhhdohckfiaaGreatDoor
namespace Go.Proofs.YtiklhhdohckfiaaGreatDoor
set_option linter.unusedVariables false
set_option linter.unusedSimpArgs false
set_option linter.defProp false
open Go
namespace Vl
def used (k : Int) : Option (Bool × Bool × Bool × Bool × Bool) :=
  if k = 0 then some (false, false, false, false, false)
  else if k = 1 ∨ k = 2 ∨ k = 3 then some (true, false, false, false, false)
  else if k = 4 ∨ k = 5 then some (false, false, true, false, false)
  else if k = 6 then some (false, false, false, false, true)
  else if k = 7 then some (false, false, false, true, true)
  else if k = 8 then some (true, true, false, false, false)
  else if k = 9 then some (false, false, true, true, true)
  else none
def usesOk (o : Ob) : Bool :=
  match used o.k with
  | none => false
  | some (n, g, s, ks, cs) => (n || decide (o.n = 0)) && (g || decide (o.g = 0)) && (s || decide (o.s = [])) && (ks || decide (o.keys = [])) && (cs || decide (o.kids.length = 0))
def fits (o : Ob) : Bool :=
  if o.k = 1 then decide (0 ≤ o.n ∧ o.n ≤ 1)
  else if o.k = 2 then decide (-2147483647 ≤ o.n ∧ o.n ≤ 2147483647)
  else if o.k = 3 then decide (-1073741824 ≤ o.n ∧ o.n ≤ 1073741824)
  else if o.k = 8 then decide (1 ≤ o.n ∧ o.n ≤ 8191) && decide (0 ≤ o.g ∧ o.g ≤ 65535)
  else true
def long (k : Int) : Nat := if k = 5 then 127 else if k = 9 then 1048576 else 32767
def name (s : List UInt8) : Bool := decide (s.length ≤ 127) && decide ((0 : UInt8) ∉ s)
def lenK : List UInt8 := [76, 101, 110, 103, 116, 104]
abbrev less (a b : List UInt8) : Bool := Op.bytesLess a b
def keyAt (o : Ob) (i : Nat) : Bool :=
  name (o.keys.getD i []) && (decide (i = 0) || less (o.keys.getD (i - 1) []) (o.keys.getD i [])) && !(decide (o.k = 9) && decide (o.keys.getD i [] = lenK)) && decide ((o.kids.getD i (.mk 0 0 0 [] [] [])).k ≠ 0)
def rising (o : Ob) : Bool := decide (o.keys.length = o.kids.length) && (List.range o.keys.length).all (keyAt o)
def form (o : Ob) : Bool := (!(decide (o.k = 5)) || name o.s) && (!(decide (o.k = 7 ∨ o.k = 9)) || rising o)
def why (d : Nat) (o : Ob) : Int :=
  if 24 < d then 7
  else if usesOk o = false ∨ (o.k = 9 ∧ 1 < d) then 10
  else if fits o = false then 2
  else if long o.k < o.s.length then 5
  else if 8191 < o.kids.length then 6
  else if form o = false then 3
  else 0
 mutual
def check (d : Nat) : Ob → Int
  | .mk k n g s keys kids => if why d (.mk k n g s keys kids) ≠ 0 then why d (.mk k n g s keys kids) else checks (d + 1) kids
def checks (d : Nat) : List Ob → Int
  | [] => 0
  | o :: os => if check d o ≠ 0 then check d o else checks d os
end
theorem check_eq (d : Nat) (o : Ob) : check d o = if why d o ≠ 0 then why d o else checks (d + 1) o.kids := by cases o; rw [check]; rfl
 mutual
def size : Ob → Nat
  | .mk _ _ _ s keys kids => 1 + s.length / 50 + (keys.map fun k => k.length / 50).sum + sizes kids
def sizes : List Ob → Nat
  | [] => 0
  | o :: os => size o + sizes os
end
theorem size_eq (o : Ob) : size o = 1 + o.s.length / 50 + (o.keys.map fun k => k.length / 50).sum + sizes o.kids := by cases o; rw [size]; rfl
theorem tot50 (l : List (List UInt8)) : (l.map fun k => k.length / 50).sum ≤ Pl.tot l := by
  induction l with
  | nil => simp
  | cons a l ih => simp only [Pl.tot, List.map_cons, List.sum_cons] at ih ⊢; omega
 mutual
theorem size_wt : ∀ o : Ob, size o ≤ o.wt
  | .mk k n g s keys kids => by
    have := sizes_wt kids
    have := tot50 keys
    rw [size, Ob.wt]; omega
theorem sizes_wt : ∀ os : List Ob, sizes os ≤ Ob.wts os
  | [] => by rw [sizes, Ob.wts]; omega
  | o :: os => by
    have := size_wt o
    have := sizes_wt os
    rw [sizes, Ob.wts]; omega
end
end Vl
end Go.Proofs.YtiklhhdohckfiaaGreatDoor
namespace Go.Proofs.YtiklhhdohckfiaaGreatDoor
set_option linter.unusedVariables false
set_option linter.unusedSimpArgs false
set_option linter.defProp false
open Go
namespace Vl
theorem less_lt (a b : List UInt8) : less a b = true ↔ a < b := by rw [less, bytesLess_eq, decide_eq_true_eq]
theorem less_trans {a b c : List UInt8} (h : less a b = true) (k : less b c = true) : less a c = true := by
  rw [less_lt] at *; exact List.lt_trans h k
theorem less_irrefl (a : List UInt8) : less a a = false := by
  cases h : less a a with
  | false => rfl
  | true => rw [less_lt] at h; exact absurd h (List.lt_irrefl _)
theorem less_total {a b : List UInt8} (h : less a b = false) (h' : a ≠ b) : less b a = true := by
  have h1 : ¬ a < b := by rw [← less_lt, h]; simp
  rw [less_lt]
  rcases Classical.em (b < a) with h2 | h2
  · exact h2
  · exact absurd (List.le_antisymm (List.not_lt.1 h2) (List.not_lt.1 h1)) h'
def Rise (l : List (List UInt8)) : Prop := l.Pairwise fun a b => less a b = true
def place (l : List (List UInt8)) (x : List UInt8) : Nat := (l.takeWhile fun k => less k x).length
def hit (l : List (List UInt8)) (x : List UInt8) : Bool := decide (l[place l x]? = some x)
theorem takeWhile_at {α : Type} {p : α → Bool} : ∀ (l : List α) (i : Nat), i ≤ l.length → (∀ m (h : m < l.length), m < i → p l[m] = true) → (∀ h : i < l.length, p l[i] = false) → (l.takeWhile p).length = i
  | [], i, hi, _, _ => by simp at hi; simp [hi]
  | a :: l, 0, _, _, h => by
    have := h (by simp)
    rw [List.getElem_cons_zero] at this
    simp [List.takeWhile_cons, this]
  | a :: l, i + 1, hi, h1, h2 => by
    have h0 := h1 0 (by simp) (by omega)
    rw [List.getElem_cons_zero] at h0
    rw [List.takeWhile_cons, h0]
    simp only [if_true, List.length_cons]
    rw [takeWhile_at l i (by simpa using hi) (fun m hm hmi => by
      have := h1 (m + 1) (by simpa using hm) (by omega)
      rwa [List.getElem_cons_succ] at this) (fun h => by
      have := h2 (by simpa using h)
      rwa [List.getElem_cons_succ] at this)]
theorem place_le (l : List (List UInt8)) (x : List UInt8) : place l x ≤ l.length := (List.takeWhile_prefix _).length_le
theorem place_at {l : List (List UInt8)} {x : List UInt8} {i : Nat} (hi : i ≤ l.length) (h1 : ∀ m (h : m < l.length), m < i → less l[m] x = true) (h2 : ∀ h : i < l.length, less l[i] x = false) : place l x = i := takeWhile_at l i hi h1 h2
theorem place_lt {l : List (List UInt8)} {x : List UInt8} {m : Nat} (h : m < place l x) : less (l[m]'(Nat.lt_of_lt_of_le h (place_le l x))) x = true := by
  unfold place at h
  have hm := List.all_takeWhile (l := l) (p := fun k => less k x)
  have h1 : (l.takeWhile fun k => less k x)[m] ∈ l.takeWhile fun k => less k x := List.getElem_mem h
  have h2 := List.all_eq_true.1 hm _ h1
  have h3 : (l.takeWhile fun k => less k x)[m] = l[m]'(Nat.lt_of_lt_of_le h (place_le l x)) := by
    have hp : (l.takeWhile fun k => less k x) <+: l := List.takeWhile_prefix _
    exact hp.getElem h
  rw [h3] at h2; exact h2
theorem place_ge {l : List (List UInt8)} {x : List UInt8} (h : place l x < l.length) : less l[place l x] x = false := by
  unfold place at h ⊢
  induction l with
  | nil => simp at h
  | cons a l ih =>
    cases ha : less a x with
    | false => simp only [List.takeWhile_cons, ha]; simpa using ha
    | true =>
      simp only [List.takeWhile_cons, ha, if_true, List.length_cons] at h ⊢
      rw [List.getElem_cons_succ]
      exact ih (by simpa using h)
theorem rise_get {l : List (List UInt8)} (h : Rise l) {i j : Nat} (hij : i < j) (hj : j < l.length) : less (l[i]'(by omega)) l[j] = true := List.pairwise_iff_getElem.1 h i j (by omega) hj hij
def ob0 : Ob := .mk 0 0 0 [] [] []
def keyed (o : Ob) : Bool := decide (o.k = 7) || decide (o.k = 9)
def get (o : Ob) (key : List UInt8) : Option Ob := if keyed o then (if o.keys.idxOf key < o.keys.length then o.kids[o.keys.idxOf key]? else none) else none
def put (o : Ob) (key : List UInt8) (v : Ob) : Ob :=
  .mk o.k o.n o.g o.s (o.keys.take (place o.keys key) ++ key :: o.keys.drop (place o.keys key + if hit o.keys key then 1 else 0)) (o.kids.take (place o.keys key) ++ v :: o.kids.drop (place o.keys key + if hit o.keys key then 1 else 0))
def dropK (key : List UInt8) : List (List UInt8) → List Ob → List (List UInt8) × List Ob
  | k :: ks, c :: cs => if k = key then dropK key ks cs else (k :: (dropK key ks cs).1, c :: (dropK key ks cs).2)
  | _, _ => ([], [])
def without (o : Ob) (key : List UInt8) : Ob := .mk o.k o.n o.g o.s (dropK key o.keys o.kids).1 (dropK key o.keys o.kids).2
def right (o : Ob) : Ob × Int := if check 1 o ≠ 0 then (ob0, check 1 o) else (o, 0)
def set (o : Ob) (key : List UInt8) (v : Ob) : Ob × Int :=
  if keyed o = false then (ob0, 10) else if check 1 o ≠ 0 then (ob0, check 1 o) else if v.k = 0 then (without o key, 0) else right (put o key v)
theorem valid_keys {d : Nat} {o : Ob} (h : check d o = 0) (hk : keyed o = true) : Rise o.keys ∧ o.keys.length = o.kids.length := by
  rw [check_eq] at h
  split at h
  · rename_i hw; exact absurd h hw
  · rename_i hw
    have hw := Classical.not_not.1 hw
    unfold why at hw
    split at hw
    · cases hw
    split at hw
    · cases hw
    split at hw
    · cases hw
    split at hw
    · cases hw
    split at hw
    · cases hw
    split at hw
    · cases hw
    rename_i hf
    have hf : form o = true := by simpa using hf
    have h79 : o.k = 7 ∨ o.k = 9 := by
      unfold keyed at hk
      simpa using hk
    have hr : rising o = true := by
      unfold form at hf
      simp only [Bool.and_eq_true] at hf
      have := hf.2
      rw [decide_eq_true h79] at this
      simpa using this
    unfold rising at hr
    simp only [Bool.and_eq_true, decide_eq_true_eq] at hr
    refine ⟨?_, hr.1⟩
    have step : ∀ i, i + 1 < o.keys.length → less (o.keys.getD i []) (o.keys.getD (i + 1) []) = true := by
      intro i hi
      have := List.all_eq_true.1 hr.2 (i + 1) (List.mem_range.2 hi)
      unfold keyAt at this
      simp only [Bool.and_eq_true, Bool.or_eq_true] at this
      have := this.1.1.2
      rcases this with h0 | h0
      · have := of_decide_eq_true h0; omega
      · simpa using h0
    have gd : ∀ i (h : i < o.keys.length), o.keys.getD i [] = o.keys[i] := fun i h => by rw [List.getD_eq_getElem?_getD, List.getElem?_eq_getElem h]; rfl
    refine List.pairwise_iff_getElem.2 fun i j hi hj hij => ?_
    have : ∀ d, ∀ j (hj : j < o.keys.length), j = i + 1 + d → less o.keys[i] o.keys[j] = true := by
      intro d
      induction d with
      | zero =>
        intro j hj he
        have := step i (by omega)
        rw [gd i hi, gd (i + 1) (by omega)] at this
        subst he; exact this
      | succ d ih =>
        intro j hj he
        have h1 := ih (i + 1 + d) (by omega) rfl
        have h2 := step (i + 1 + d) (by omega)
        rw [gd _ (by omega), gd _ (by omega)] at h2
        subst he
        exact less_trans h1 h2
    exact this (j - (i + 1)) j hj (by omega)
theorem dropK_none {key : List UInt8} : ∀ {ks : List (List UInt8)} {cs : List Ob}, ks.length = cs.length → key ∉ ks → dropK key ks cs = (ks, cs)
  | [], [], _, _ => rfl
  | k :: ks, c :: cs, hl, hn => by
    rw [dropK, if_neg (fun e => hn (by simp [e])), dropK_none (by simpa using hl) (fun h => hn (by simp [h]))]
  | [], _ :: _, hl, _ => by simp at hl
  | _ :: _, [], hl, _ => by simp at hl
theorem dropK_at {key : List UInt8} : ∀ {ks : List (List UInt8)} {cs : List Ob} {i : Nat}, ks.length = cs.length → ks[i]? = some key → (∀ m (h : m < ks.length), m ≠ i → ks[m] ≠ key) → dropK key ks cs = (ks.take i ++ ks.drop (i + 1), cs.take i ++ cs.drop (i + 1))
  | [], [], _, _, h, _ => by simp at h
  | k :: ks, c :: cs, 0, hl, h, hn => by
    simp only [List.getElem?_cons_zero, Option.some.injEq] at h
    rw [dropK, if_pos h, dropK_none (by simpa using hl)]
    · simp
    · intro hm
      obtain ⟨m, hml, rfl⟩ := List.getElem_of_mem hm
      exact hn (m + 1) (by simpa using hml) (by omega) (by simp)
  | k :: ks, c :: cs, i + 1, hl, h, hn => by
    have h0 := hn 0 (by simp) (by omega)
    rw [List.getElem_cons_zero] at h0
    rw [dropK, if_neg h0, dropK_at (i := i) (by simpa using hl) (by simpa using h) (fun m hm hmi => by
      have := hn (m + 1) (by simpa using hm) (by omega)
      rwa [List.getElem_cons_succ] at this)]
    simp
  | [], _ :: _, _, hl, _, _ => by simp at hl
  | _ :: _, [], _, hl, _, _ => by simp at hl
theorem rise_ne {l : List (List UInt8)} (h : Rise l) {i j : Nat} (hi : i < l.length) (hj : j < l.length) (hij : i ≠ j) : l[i] ≠ l[j] := by
  intro e
  rcases Nat.lt_or_ge i j with h1 | h1
  · have := rise_get h h1 hj; rw [e, less_irrefl] at this; cases this
  · have := rise_get h (show j < i by omega) hi; rw [e, less_irrefl] at this; cases this
theorem not_hit {l : List (List UInt8)} (h : Rise l) {x : List UInt8} (hh : hit l x = false) : x ∉ l := by
  intro hm
  obtain ⟨m, hml, rfl⟩ := List.getElem_of_mem hm
  have hp : place l l[m] = m := place_at (by omega) (fun j hj hjm => rise_get h hjm hml) (fun _ => less_irrefl _)
  unfold hit at hh
  rw [hp, List.getElem?_eq_getElem hml] at hh
  simp at hh
theorem dropK_rise {o : Ob} {d : Nat} (h : check d o = 0) (hk : keyed o = true) (key : List UInt8) : without o key = if hit o.keys key then .mk o.k o.n o.g o.s (o.keys.take (place o.keys key) ++ o.keys.drop (place o.keys key + 1)) (o.kids.take (place o.keys key) ++ o.kids.drop (place o.keys key + 1)) else o := by
  obtain ⟨hr, hl⟩ := valid_keys h hk
  cases hh : hit o.keys key with
  | true =>
    have hi : o.keys[place o.keys key]? = some key := of_decide_eq_true hh
    have hlt : place o.keys key < o.keys.length := (List.getElem?_eq_some_iff.1 hi).1
    have hg : o.keys[place o.keys key] = key := (List.getElem?_eq_some_iff.1 hi).2
    unfold without
    rw [dropK_at hl hi (fun m hm hne => by rw [← hg]; exact rise_ne hr hm hlt hne)]
    rfl
  | false =>
    unfold without
    rw [dropK_none hl (not_hit hr hh)]
    cases o; rfl
end Vl
end Go.Proofs.YtiklhhdohckfiaaGreatDoor
namespace Go.Proofs.YtiklhhdohckfiaaGreatDoor
set_option linter.unusedVariables false
set_option linter.unusedSimpArgs false
set_option linter.defProp false
set_option linter.unusedVariables false
set_option maxRecDepth 20000
open Eng

def S_slices_Index_string_string_0 (t0 t1 t7 t8 : Value) (w : World) (N1 : List Value → World → Prop) (K : Ending → World → Prop) : Prop :=
 DoX Tryz.prog (mBin .lss 3 t8 t7) w (pk K) fun t9 w =>
 IfX t9 (DoX Tryz.prog (mIA 22 t0 t8) w (pk K) fun t14 w =>
 DoX Tryz.prog (mLoad 9 t14) w (pk K) fun t15 w =>
 DoX Tryz.prog (mEq .eql 9 (.tmp 11) (.tmp 15) t1 t15) w (pk K) fun t16 w =>
 IfX t16 (K (.returned t8) w) (DoX Tryz.prog (mBin .add 3 t8 (.int .i64 1)) w (pk K) fun t18 w =>
 N1 [t18] w)) (K (.returned (.int .i64 (-1))) w)
def S_slices_Index_string_string (t0 t1 : Value) (w : World) (K : Ending → World → Prop) : Prop :=
 DoX Tryz.prog (mB .len #[22] 3 #[false] #[t0]) w (pk K) fun t7 w =>
 LoopX [(.int .i64 0)] w (fun vs1 w N1 => ∀ _ : Sg, S_slices_Index_string_string_0 t0 t1 t7 (vs1.getD 0 undef) w N1 K)
theorem S_slices_Index_string_string_eq (t0 t1 : Value) (w : World) (K : Ending → World → Prop) : wpX Tryz.prog 19 [] [(2, [8])] none (bodyOf Tryz.f123) (topQ Tryz.prog [.tmp 4] K) (startX [t0, t1]) [] w = S_slices_Index_string_string t0 t1 w K := by kernel_rfl
theorem S_slices_Index_string_string_ok {t0 t1 : Value} {w : World} {K : Ending → World → Prop} (h : S_slices_Index_string_string t0 t1 w K) : Calls Tryz.prog 123 #[t0, t1] w K :=
  calls_of_wpX Tryz.func123 rfl rfl rfl rfl (Eq.mpr (S_slices_Index_string_string_eq t0 t1 w K) h)

end Go.Proofs.YtiklhhdohckfiaaGreatDoor
namespace Go.Proofs.YtiklhhdohckfiaaGreatDoor
set_option linter.unusedVariables false
set_option linter.unusedSimpArgs false
set_option linter.defProp false
open Eng Go.RowKit

theorem nStrI : notAgg Tryz.prog 9 = true := by kernel_rfl
theorem idx_at {l : List (List UInt8)} {x : List UInt8} {i : Nat} (h : i < l.length) (hn : x ∉ l.take i) (he : l[i] = x) : l.idxOf x = i := by
  have e : l = l.take i ++ (l[i] :: l.drop (i + 1)) := by
    rw [← List.drop_eq_getElem_cons h, List.take_append_drop]
  rw [e, List.idxOf_append, if_neg hn, he, List.idxOf_cons_self, List.length_take]
  omega
theorem sindex_ret (va : Value) (l : List (List UInt8)) (x : List UInt8) (w : World) (ha : Sl w va 1 l.length (strsV l)) (hl : l.length ≤ 1099511627776) :
    Ret Tryz.prog 123 #[va, .string ⟨x.toArray⟩] w (fun v w' => v = .int .i64 (if l.idxOf x < l.length then (l.idxOf x : Int) else -1) ∧ w = w') := by
  refine ret_of fun K hK => S_slices_Index_string_string_ok ?_
  unfold S_slices_Index_string_string
  rw [sl_len Tryz.underlying22 ha]
  refine loop (fun vs w' => ∃ (i : Nat), vs = [.int .i64 i] ∧ i ≤ l.length ∧ x ∉ l.take i ∧ w = w') (fun vs _ => l.length - n0 vs) ⟨0, rfl, by omega, by simp, rfl⟩ ?_
  rintro vs w2 ⟨i, rfl, hi, hm, rfl⟩ _
  simp only [S_slices_Index_string_string_0, gd, rs]
  by_cases hlt : (i : Int) < (l.length : Int)
  · have hi' : i < l.length := by omega
    simp only [hlt, decide_true, rs]
    refine sl_ia1 (.string ⟨(l[i]).toArray⟩) Tryz.underlying22 (by kernel_rfl) ha (by omega) (by rw [Int.toNat_natCast]; exact strsV_get hi') fun q hq => ?_
    rw [l_cell nStrI hq]
    simp only [rs]
    by_cases he : x = l[i]
    · simp only [← he, decide_true, rs]
      have := idx_at hi' hm he.symm
      exact hK _ _ ⟨by rw [this, if_pos hi'], rfl⟩
    · simp only [he, decide_false, rs]
      rw [wrap64_id (by omega) (by omega)]
      refine nextX ⟨i + 1, rfl, by omega, ?_, rfl⟩ (by simp [n0, intOf]; omega)
      rw [List.take_add_one, List.getElem?_eq_getElem hi']
      simp only [Option.toList, List.mem_append, List.mem_singleton, not_or]
      exact ⟨hm, he⟩
  · simp only [hlt, decide_false, i_f]
    rw [List.take_of_length_le (by omega)] at hm
    exact hK _ _ ⟨by rw [if_neg (by rw [List.idxOf_lt_length_iff]; exact hm)], rfl⟩
end Go.Proofs.YtiklhhdohckfiaaGreatDoor
namespace Go.Proofs.YtiklhhdohckfiaaGreatDoor
set_option linter.unusedVariables false
set_option linter.unusedSimpArgs false
set_option linter.defProp false
set_option linter.unusedVariables false
set_option maxRecDepth 20000
open Eng

def S_foliantref05_Size_1 (t3 t27 t28 t29 : Value) (w : World) (N2 : List Value → World → Prop) (K : Ending → World → Prop) : Prop :=
 DoX Tryz.prog (mBin .lss 3 t29 t28) w (pk K) fun t30 w =>
 IfX t30 (DoX Tryz.prog (mIA 23 t27 t29) w (pk K) fun t31 w =>
 DoX Tryz.prog (mLoad 25 t31) w (pk K) fun t32 w =>
 DoX Tryz.prog (mAlloc 25) w (pk K) fun t7 w =>
 DoX Tryz.prog (mStore 25 t7 t32) w (pk K) fun _ w =>
 DoX Tryz.prog (mLoad 25 t7) w (pk K) fun t34 w =>
 CallX Tryz.prog 11 #[t34] w (pk K) fun t35 w =>
 DoX Tryz.prog (mBin .add 3 t3 t35) w (pk K) fun t36 w =>
 DoX Tryz.prog (mBin .add 3 t29 (.int .i64 1)) w (pk K) fun t37 w =>
 N2 [t36, t37] w) (K (.returned t3) w)
def S_foliantref05_Size_0 (t1 t3 t14 t15 t16 : Value) (w : World) (N1 : List Value → World → Prop) (K : Ending → World → Prop) : Prop :=
 DoX Tryz.prog (mBin .lss 3 t16 t15) w (pk K) fun t17 w =>
 IfX t17 (DoX Tryz.prog (mIA 22 t14 t16) w (pk K) fun t18 w =>
 DoX Tryz.prog (mLoad 9 t18) w (pk K) fun t19 w =>
 DoX Tryz.prog (mB .len #[9] 3 #[false] #[t19]) w (pk K) fun t22 w =>
 DoX Tryz.prog (mBin .quo 3 t22 (.int .i64 50)) w (pk K) fun t23 w =>
 DoX Tryz.prog (mBin .add 3 t3 t23) w (pk K) fun t24 w =>
 DoX Tryz.prog (mBin .add 3 t16 (.int .i64 1)) w (pk K) fun t25 w =>
 N1 [t24, t25] w) (DoX Tryz.prog (mFA 25 t1 5) w (pk K) fun t26 w =>
 DoX Tryz.prog (mLoad 23 t26) w (pk K) fun t27 w =>
 DoX Tryz.prog (mB .len #[23] 3 #[false] #[t27]) w (pk K) fun t28 w =>
 LoopX [t3, (.int .i64 0)] w (fun vs2 w N2 => ∀ _ : Sg, S_foliantref05_Size_1 (vs2.getD 0 undef) t27 t28 (vs2.getD 1 undef) w N2 K))
def S_foliantref05_Size (t0 : Value) (w : World) (K : Ending → World → Prop) : Prop :=
 DoX Tryz.prog (mBox 25 t0) w (pk K) fun t1 w =>
 DoX Tryz.prog (mFA 25 t1 3) w (pk K) fun t8 w =>
 DoX Tryz.prog (mLoad 9 t8) w (pk K) fun t9 w =>
 DoX Tryz.prog (mB .len #[9] 3 #[false] #[t9]) w (pk K) fun t10 w =>
 DoX Tryz.prog (mBin .quo 3 t10 (.int .i64 50)) w (pk K) fun t11 w =>
 DoX Tryz.prog (mBin .add 3 (.int .i64 1) t11) w (pk K) fun t12 w =>
 DoX Tryz.prog (mFA 25 t1 4) w (pk K) fun t13 w =>
 DoX Tryz.prog (mLoad 22 t13) w (pk K) fun t14 w =>
 DoX Tryz.prog (mB .len #[22] 3 #[false] #[t14]) w (pk K) fun t15 w =>
 LoopX [t12, (.int .i64 0)] w (fun vs1 w N1 => ∀ _ : Sg, S_foliantref05_Size_0 t1 (vs1.getD 0 undef) t14 t15 (vs1.getD 1 undef) w N1 K)
theorem S_foliantref05_Size_eq (t0 : Value) (w : World) (K : Ending → World → Prop) : wpX Tryz.prog 39 [] [(3, [3, 16]), (8, [3, 29])] none (bodyOf Tryz.f11) (topQ Tryz.prog [.tmp 2] K) (startX [t0]) [] w = S_foliantref05_Size t0 w K := by kernel_rfl
theorem S_foliantref05_Size_ok {t0 : Value} {w : World} {K : Ending → World → Prop} (h : S_foliantref05_Size t0 w K) : Calls Tryz.prog 11 #[t0] w K :=
  calls_of_wpX Tryz.func11 rfl rfl rfl rfl (Eq.mpr (S_foliantref05_Size_eq t0 w K) h)

def S_foliantref05_Key (t0 : Value) (w : World) (K : Ending → World → Prop) : Prop :=
 DoX Tryz.prog (mAlloc 25) w (pk K) fun t2 w =>
 DoX Tryz.prog (mBuild 25 #[(0, (.int .i64 5)), (3, t0)]) w (pk K) fun t4 w =>
 DoX Tryz.prog (mStore 25 t2 t4) w (pk K) fun _ w =>
 RetX Tryz.prog [.cell t2 25] w K
theorem S_foliantref05_Key_eq (t0 : Value) (w : World) (K : Ending → World → Prop) : wpX Tryz.prog 5 [] [] none (bodyOf Tryz.f38) (topQ Tryz.prog [.cell 2 25] K) (startX [t0]) [] w = S_foliantref05_Key t0 w K := by kernel_rfl
theorem S_foliantref05_Key_ok {t0 : Value} {w : World} {K : Ending → World → Prop} (h : S_foliantref05_Key t0 w K) : Calls Tryz.prog 38 #[t0] w K :=
  calls_of_wpX Tryz.func38 rfl rfl rfl rfl (Eq.mpr (S_foliantref05_Key_eq t0 w K) h)

def S_foliantref05_Ref (t0 t1 : Value) (w : World) (K : Ending → World → Prop) : Prop :=
 DoX Tryz.prog (mAlloc 25) w (pk K) fun t4 w =>
 DoX Tryz.prog (mBuild 25 #[(0, (.int .i64 8)), (1, t0), (2, t1)]) w (pk K) fun t7 w =>
 DoX Tryz.prog (mStore 25 t4 t7) w (pk K) fun _ w =>
 RetX Tryz.prog [.cell t4 25] w K
theorem S_foliantref05_Ref_eq (t0 t1 : Value) (w : World) (K : Ending → World → Prop) : wpX Tryz.prog 8 [] [] none (bodyOf Tryz.f40) (topQ Tryz.prog [.cell 4 25] K) (startX [t0, t1]) [] w = S_foliantref05_Ref t0 t1 w K := by kernel_rfl
theorem S_foliantref05_Ref_ok {t0 t1 : Value} {w : World} {K : Ending → World → Prop} (h : S_foliantref05_Ref t0 t1 w K) : Calls Tryz.prog 40 #[t0, t1] w K :=
  calls_of_wpX Tryz.func40 rfl rfl rfl rfl (Eq.mpr (S_foliantref05_Ref_eq t0 t1 w K) h)

def S_foliantref05_uses_1 (t1 t4 t15 : Value) (w : World) (K : Ending → World → Prop) : Prop :=
 IfX t15 (DoX Tryz.prog (mLoad 25 t1) w (pk K) fun t18 w =>
 CallX Tryz.prog 210 #[t18, (.bool false), (.bool false), (.bool true), (.bool false)] w (pk K) fun t19 w =>
 K (.returned t19) w) (DoX Tryz.prog (mEq .eql 3 (.tmp 4) (.const (.int .i64 6)) t4 (.int .i64 6)) w (pk K) fun t21 w =>
 IfX t21 (DoX Tryz.prog (mLoad 25 t1) w (pk K) fun t22 w =>
 CallX Tryz.prog 210 #[t22, (.bool false), (.bool false), (.bool false), (.bool true)] w (pk K) fun t23 w =>
 GDo t23 true (fun E => DoX Tryz.prog (mFA 25 t1 4) w (pk K) E) w fun t25 w =>
 GDo t23 true (fun E => DoX Tryz.prog (mLoad 22 t25) w (pk K) E) w fun t26 w =>
 GDo t23 true (fun E => DoX Tryz.prog (mB .len #[22] 3 #[false] #[t26]) w (pk K) E) w fun t27 w =>
 GDo t23 true (fun E => DoX Tryz.prog (mEq .eql 3 (.tmp 27) (.const (.int .i64 0)) t27 (.int .i64 0)) w (pk K) E) w fun t28 w =>
 DoX Tryz.prog (mPick t23 t28 (.bool false)) w (pk K) fun t29 w =>
 K (.returned t29) w) (DoX Tryz.prog (mEq .eql 3 (.tmp 4) (.const (.int .i64 7)) t4 (.int .i64 7)) w (pk K) fun t31 w =>
 IfX t31 (DoX Tryz.prog (mLoad 25 t1) w (pk K) fun t32 w =>
 CallX Tryz.prog 210 #[t32, (.bool false), (.bool false), (.bool false), (.bool true)] w (pk K) fun t33 w =>
 K (.returned t33) w) (DoX Tryz.prog (mEq .eql 3 (.tmp 4) (.const (.int .i64 8)) t4 (.int .i64 8)) w (pk K) fun t35 w =>
 IfX t35 (DoX Tryz.prog (mLoad 25 t1) w (pk K) fun t36 w =>
 CallX Tryz.prog 210 #[t36, (.bool true), (.bool true), (.bool false), (.bool false)] w (pk K) fun t37 w =>
 K (.returned t37) w) (DoX Tryz.prog (mEq .eql 3 (.tmp 4) (.const (.int .i64 9)) t4 (.int .i64 9)) w (pk K) fun t39 w =>
 IfX t39 (DoX Tryz.prog (mLoad 25 t1) w (pk K) fun t40 w =>
 CallX Tryz.prog 210 #[t40, (.bool false), (.bool false), (.bool true), (.bool true)] w (pk K) fun t41 w =>
 K (.returned t41) w) (K (.returned (.bool false)) w)))))
def S_foliantref05_uses_0 (t1 t4 t9 : Value) (w : World) (K : Ending → World → Prop) : Prop :=
 IfX t9 (DoX Tryz.prog (mLoad 25 t1) w (pk K) fun t13 w =>
 CallX Tryz.prog 210 #[t13, (.bool true), (.bool false), (.bool false), (.bool false)] w (pk K) fun t14 w =>
 K (.returned t14) w) (JoinX (fun J2 =>
 DoX Tryz.prog (mEq .eql 3 (.tmp 4) (.const (.int .i64 4)) t4 (.int .i64 4)) w (pk K) fun t16 w =>
 IfX t16 (J2 [t16] w) (DoX Tryz.prog (mEq .eql 3 (.tmp 4) (.const (.int .i64 5)) t4 (.int .i64 5)) w (pk K) fun t17 w =>
 J2 [t17] w)) (fun vs2 w => ∀ _ : Sg, S_foliantref05_uses_1 t1 t4 (vs2.getD 0 undef) w K))
def S_foliantref05_uses (t0 : Value) (w : World) (K : Ending → World → Prop) : Prop :=
 DoX Tryz.prog (mBox 25 t0) w (pk K) fun t1 w =>
 DoX Tryz.prog (mFA 25 t1 0) w (pk K) fun t3 w =>
 DoX Tryz.prog (mLoad 3 t3) w (pk K) fun t4 w =>
 DoX Tryz.prog (mEq .eql 3 (.tmp 4) (.const (.int .i64 0)) t4 (.int .i64 0)) w (pk K) fun t6 w =>
 IfX t6 (DoX Tryz.prog (mLoad 25 t1) w (pk K) fun t7 w =>
 CallX Tryz.prog 210 #[t7, (.bool false), (.bool false), (.bool false), (.bool false)] w (pk K) fun t8 w =>
 K (.returned t8) w) (JoinX (fun J1 =>
 DoX Tryz.prog (mEq .eql 3 (.tmp 4) (.const (.int .i64 1)) t4 (.int .i64 1)) w (pk K) fun t10 w =>
 IfX t10 (J1 [t10] w) (DoX Tryz.prog (mEq .eql 3 (.tmp 4) (.const (.int .i64 2)) t4 (.int .i64 2)) w (pk K) fun t11 w =>
 IfX t11 (J1 [t11] w) (DoX Tryz.prog (mEq .eql 3 (.tmp 4) (.const (.int .i64 3)) t4 (.int .i64 3)) w (pk K) fun t12 w =>
 J1 [t12] w))) (fun vs1 w => ∀ _ : Sg, S_foliantref05_uses_0 t1 t4 (vs1.getD 0 undef) w K))
theorem S_foliantref05_uses_eq (t0 : Value) (w : World) (K : Ending → World → Prop) : wpX Tryz.prog 42 [(7, [9]), (10, [15])] [] none (bodyOf Tryz.f166) (topQ Tryz.prog [.tmp 2] K) (startX [t0]) [] w = S_foliantref05_uses t0 w K := by kernel_rfl
theorem S_foliantref05_uses_ok {t0 : Value} {w : World} {K : Ending → World → Prop} (h : S_foliantref05_uses t0 w K) : Calls Tryz.prog 166 #[t0] w K :=
  calls_of_wpX Tryz.func166 rfl rfl rfl rfl (Eq.mpr (S_foliantref05_uses_eq t0 w K) h)

def S_foliantref05_fits (t0 : Value) (w : World) (K : Ending → World → Prop) : Prop :=
 DoX Tryz.prog (mBox 25 t0) w (pk K) fun t1 w =>
 DoX Tryz.prog (mFA 25 t1 0) w (pk K) fun t3 w =>
 DoX Tryz.prog (mLoad 3 t3) w (pk K) fun t4 w =>
 DoX Tryz.prog (mEq .eql 3 (.tmp 4) (.const (.int .i64 1)) t4 (.int .i64 1)) w (pk K) fun t6 w =>
 IfX t6 (DoX Tryz.prog (mFA 25 t1 1) w (pk K) fun t7 w =>
 DoX Tryz.prog (mLoad 2 t7) w (pk K) fun t8 w =>
 DoX Tryz.prog (mEq .eql 2 (.tmp 8) (.const (.int .i64 0)) t8 (.int .i64 0)) w (pk K) fun t9 w =>
 GDo t9 false (fun E => DoX Tryz.prog (mFA 25 t1 1) w (pk K) E) w fun t11 w =>
 GDo t9 false (fun E => DoX Tryz.prog (mLoad 2 t11) w (pk K) E) w fun t12 w =>
 GDo t9 false (fun E => DoX Tryz.prog (mEq .eql 2 (.tmp 12) (.const (.int .i64 1)) t12 (.int .i64 1)) w (pk K) E) w fun t13 w =>
 DoX Tryz.prog (mPick t9 (.bool true) t13) w (pk K) fun t14 w =>
 K (.returned t14) w) (DoX Tryz.prog (mEq .eql 3 (.tmp 4) (.const (.int .i64 2)) t4 (.int .i64 2)) w (pk K) fun t16 w =>
 IfX t16 (DoX Tryz.prog (mFA 25 t1 1) w (pk K) fun t17 w =>
 DoX Tryz.prog (mLoad 2 t17) w (pk K) fun t18 w =>
 DoX Tryz.prog (mBin .geq 2 t18 (.int .i64 (-2147483647))) w (pk K) fun t19 w =>
 GDo t19 true (fun E => DoX Tryz.prog (mFA 25 t1 1) w (pk K) E) w fun t21 w =>
 GDo t19 true (fun E => DoX Tryz.prog (mLoad 2 t21) w (pk K) E) w fun t22 w =>
 GDo t19 true (fun E => DoX Tryz.prog (mBin .leq 2 t22 (.int .i64 2147483647)) w (pk K) E) w fun t23 w =>
 DoX Tryz.prog (mPick t19 t23 (.bool false)) w (pk K) fun t24 w =>
 K (.returned t24) w) (DoX Tryz.prog (mEq .eql 3 (.tmp 4) (.const (.int .i64 3)) t4 (.int .i64 3)) w (pk K) fun t26 w =>
 IfX t26 (DoX Tryz.prog (mFA 25 t1 1) w (pk K) fun t27 w =>
 DoX Tryz.prog (mLoad 2 t27) w (pk K) fun t28 w =>
 DoX Tryz.prog (mBin .geq 2 t28 (.int .i64 (-1073741824))) w (pk K) fun t29 w =>
 GDo t29 true (fun E => DoX Tryz.prog (mFA 25 t1 1) w (pk K) E) w fun t31 w =>
 GDo t29 true (fun E => DoX Tryz.prog (mLoad 2 t31) w (pk K) E) w fun t32 w =>
 GDo t29 true (fun E => DoX Tryz.prog (mBin .leq 2 t32 (.int .i64 1073741824)) w (pk K) E) w fun t33 w =>
 DoX Tryz.prog (mPick t29 t33 (.bool false)) w (pk K) fun t34 w =>
 K (.returned t34) w) (DoX Tryz.prog (mEq .eql 3 (.tmp 4) (.const (.int .i64 8)) t4 (.int .i64 8)) w (pk K) fun t36 w =>
 IfX t36 (DoX Tryz.prog (mFA 25 t1 1) w (pk K) fun t37 w =>
 DoX Tryz.prog (mLoad 2 t37) w (pk K) fun t38 w =>
 DoX Tryz.prog (mBin .geq 2 t38 (.int .i64 1)) w (pk K) fun t39 w =>
 GDo t39 true (fun E => DoX Tryz.prog (mFA 25 t1 1) w (pk K) E) w fun t41 w =>
 GDo t39 true (fun E => DoX Tryz.prog (mLoad 2 t41) w (pk K) E) w fun t42 w =>
 GDo t39 true (fun E => DoX Tryz.prog (mBin .leq 2 t42 (.int .i64 8191)) w (pk K) E) w fun t43 w =>
 DoX Tryz.prog (mPick t39 t43 (.bool false)) w (pk K) fun t44 w =>
 GDo t44 true (fun E => DoX Tryz.prog (mFA 25 t1 2) w (pk K) E) w fun t46 w =>
 GDo t44 true (fun E => DoX Tryz.prog (mLoad 3 t46) w (pk K) E) w fun t47 w =>
 GDo t44 true (fun E => DoX Tryz.prog (mBin .geq 3 t47 (.int .i64 0)) w (pk K) E) w fun t48 w =>
 DoX Tryz.prog (mPick t44 t48 (.bool false)) w (pk K) fun t49 w =>
 GDo t49 true (fun E => DoX Tryz.prog (mFA 25 t1 2) w (pk K) E) w fun t51 w =>
 GDo t49 true (fun E => DoX Tryz.prog (mLoad 3 t51) w (pk K) E) w fun t52 w =>
 GDo t49 true (fun E => DoX Tryz.prog (mBin .leq 3 t52 (.int .i64 65535)) w (pk K) E) w fun t53 w =>
 DoX Tryz.prog (mPick t49 t53 (.bool false)) w (pk K) fun t54 w =>
 K (.returned t54) w) (K (.returned (.bool true)) w))))
theorem S_foliantref05_fits_eq (t0 : Value) (w : World) (K : Ending → World → Prop) : wpX Tryz.prog 55 [] [] none (bodyOf Tryz.f167) (topQ Tryz.prog [.tmp 2] K) (startX [t0]) [] w = S_foliantref05_fits t0 w K := by kernel_rfl
theorem S_foliantref05_fits_ok {t0 : Value} {w : World} {K : Ending → World → Prop} (h : S_foliantref05_fits t0 w K) : Calls Tryz.prog 167 #[t0] w K :=
  calls_of_wpX Tryz.func167 rfl rfl rfl rfl (Eq.mpr (S_foliantref05_fits_eq t0 w K) h)

def S_foliantref05_long (t0 : Value) (w : World) (K : Ending → World → Prop) : Prop :=
 DoX Tryz.prog (mEq .eql 3 (.tmp 3) (.const (.int .i64 5)) t0 (.int .i64 5)) w (pk K) fun t4 w =>
 IfX t4 (K (.returned (.int .i64 127)) w) (DoX Tryz.prog (mEq .eql 3 (.tmp 5) (.const (.int .i64 9)) t0 (.int .i64 9)) w (pk K) fun t6 w =>
 IfX t6 (K (.returned (.int .i64 1048576)) w) (K (.returned (.int .i64 32767)) w))
theorem S_foliantref05_long_eq (t0 : Value) (w : World) (K : Ending → World → Prop) : wpX Tryz.prog 7 [] [] none (bodyOf Tryz.f168) (topQ Tryz.prog [.tmp 2] K) (startX [t0]) [] w = S_foliantref05_long t0 w K := by kernel_rfl
theorem S_foliantref05_long_ok {t0 : Value} {w : World} {K : Ending → World → Prop} (h : S_foliantref05_long t0 w K) : Calls Tryz.prog 168 #[t0] w K :=
  calls_of_wpX Tryz.func168 rfl rfl rfl rfl (Eq.mpr (S_foliantref05_long_eq t0 w K) h)

def S_foliantref05_zero (t0 t1 t2 t3 t4 : Value) (w : World) (K : Ending → World → Prop) : Prop :=
 DoX Tryz.prog (mBox 25 t0) w (pk K) fun t5 w =>
 GDo t1 false (fun E => DoX Tryz.prog (mFA 25 t5 1) w (pk K) E) w fun t13 w =>
 GDo t1 false (fun E => DoX Tryz.prog (mLoad 2 t13) w (pk K) E) w fun t14 w =>
 GDo t1 false (fun E => DoX Tryz.prog (mEq .eql 2 (.tmp 14) (.const (.int .i64 0)) t14 (.int .i64 0)) w (pk K) E) w fun t15 w =>
 DoX Tryz.prog (mPick t1 (.bool true) t15) w (pk K) fun t16 w =>
 GDo t16 true (fun E => E t2 w) w fun t18 w =>
 GDo t16 true (fun E => E t18 w) w fun t19 w =>
 GDo t19 false (fun E => DoX Tryz.prog (mFA 25 t5 2) w (pk K) E) w fun t20 w =>
 GDo t19 false (fun E => DoX Tryz.prog (mLoad 3 t20) w (pk K) E) w fun t21 w =>
 GDo t19 false (fun E => DoX Tryz.prog (mEq .eql 3 (.tmp 21) (.const (.int .i64 0)) t21 (.int .i64 0)) w (pk K) E) w fun t22 w =>
 GDo t16 true (fun E => DoX Tryz.prog (mPick t19 (.bool true) t22) w (pk K) E) w fun t23 w =>
 DoX Tryz.prog (mPick t16 t23 (.bool false)) w (pk K) fun t24 w =>
 GDo t24 true (fun E => E t3 w) w fun t26 w =>
 GDo t24 true (fun E => E t26 w) w fun t27 w =>
 GDo t27 false (fun E => DoX Tryz.prog (mFA 25 t5 3) w (pk K) E) w fun t28 w =>
 GDo t27 false (fun E => DoX Tryz.prog (mLoad 9 t28) w (pk K) E) w fun t29 w =>
 GDo t27 false (fun E => DoX Tryz.prog (mEq .eql 9 (.tmp 29) (.const (.string ⟨#[]⟩)) t29 (.string ⟨#[]⟩)) w (pk K) E) w fun t30 w =>
 GDo t24 true (fun E => DoX Tryz.prog (mPick t27 (.bool true) t30) w (pk K) E) w fun t31 w =>
 DoX Tryz.prog (mPick t24 t31 (.bool false)) w (pk K) fun t32 w =>
 GDo t32 true (fun E => E t4 w) w fun t34 w =>
 GDo t32 true (fun E => E t34 w) w fun t35 w =>
 GDo t35 false (fun E => DoX Tryz.prog (mFA 25 t5 4) w (pk K) E) w fun t36 w =>
 GDo t35 false (fun E => DoX Tryz.prog (mLoad 22 t36) w (pk K) E) w fun t37 w =>
 GDo t35 false (fun E => DoX Tryz.prog (mB .len #[22] 3 #[false] #[t37]) w (pk K) E) w fun t38 w =>
 GDo t35 false (fun E => DoX Tryz.prog (mEq .eql 3 (.tmp 38) (.const (.int .i64 0)) t38 (.int .i64 0)) w (pk K) E) w fun t39 w =>
 GDo t35 false (fun E => E t39 w) w fun t40 w =>
 GDo t40 true (fun E => DoX Tryz.prog (mFA 25 t5 5) w (pk K) E) w fun t41 w =>
 GDo t40 true (fun E => DoX Tryz.prog (mLoad 23 t41) w (pk K) E) w fun t42 w =>
 GDo t40 true (fun E => DoX Tryz.prog (mB .len #[23] 3 #[false] #[t42]) w (pk K) E) w fun t43 w =>
 GDo t40 true (fun E => DoX Tryz.prog (mEq .eql 3 (.tmp 43) (.const (.int .i64 0)) t43 (.int .i64 0)) w (pk K) E) w fun t44 w =>
 GDo t35 false (fun E => DoX Tryz.prog (mPick t40 t44 (.bool false)) w (pk K) E) w fun t45 w =>
 GDo t32 true (fun E => DoX Tryz.prog (mPick t35 (.bool true) t45) w (pk K) E) w fun t46 w =>
 DoX Tryz.prog (mPick t32 t46 (.bool false)) w (pk K) fun t47 w =>
 K (.returned t47) w
theorem S_foliantref05_zero_eq (t0 t1 t2 t3 t4 : Value) (w : World) (K : Ending → World → Prop) : wpX Tryz.prog 48 [] [] none (bodyOf Tryz.f210) (topQ Tryz.prog [.tmp 10] K) (startX [t0, t1, t2, t3, t4]) [] w = S_foliantref05_zero t0 t1 t2 t3 t4 w K := by kernel_rfl
theorem S_foliantref05_zero_ok {t0 t1 t2 t3 t4 : Value} {w : World} {K : Ending → World → Prop} (h : S_foliantref05_zero t0 t1 t2 t3 t4 w K) : Calls Tryz.prog 210 #[t0, t1, t2, t3, t4] w K :=
  calls_of_wpX Tryz.func210 rfl rfl rfl rfl (Eq.mpr (S_foliantref05_zero_eq t0 t1 t2 t3 t4 w K) h)

def S_foliantref05_Name_0 (t0 t3 : Value) (w : World) (N1 : List Value → World → Prop) (K : Ending → World → Prop) : Prop :=
 DoX Tryz.prog (mB .len #[9] 3 #[false] #[t0]) w (pk K) fun t6 w =>
 DoX Tryz.prog (mBin .lss 3 t3 t6) w (pk K) fun t7 w =>
 IfX t7 (DoX Tryz.prog (mIx 9 t0 t3) w (pk K) fun t12 w =>
 DoX Tryz.prog (mEq .eql 5 (.tmp 12) (.const (.int .u8 0)) t12 (.int .u8 0)) w (pk K) fun t13 w =>
 IfX t13 (K (.returned (.bool false)) w) (DoX Tryz.prog (mBin .add 3 t3 (.int .i64 1)) w (pk K) fun t9 w =>
 N1 [t9] w)) (DoX Tryz.prog (mB .len #[9] 3 #[false] #[t0]) w (pk K) fun t15 w =>
 DoX Tryz.prog (mBin .leq 3 t15 (.int .i64 127)) w (pk K) fun t16 w =>
 K (.returned t16) w)
def S_foliantref05_Name (t0 : Value) (w : World) (K : Ending → World → Prop) : Prop :=
 LoopX [(.int .i64 0)] w (fun vs1 w N1 => ∀ _ : Sg, S_foliantref05_Name_0 t0 (vs1.getD 0 undef) w N1 K)
theorem S_foliantref05_Name_eq (t0 : Value) (w : World) (K : Ending → World → Prop) : wpX Tryz.prog 17 [] [(2, [3])] none (bodyOf Tryz.f211) (topQ Tryz.prog [.tmp 2] K) (startX [t0]) [] w = S_foliantref05_Name t0 w K := by kernel_rfl
theorem S_foliantref05_Name_ok {t0 : Value} {w : World} {K : Ending → World → Prop} (h : S_foliantref05_Name t0 w K) : Calls Tryz.prog 211 #[t0] w K :=
  calls_of_wpX Tryz.func211 rfl rfl rfl rfl (Eq.mpr (S_foliantref05_Name_eq t0 w K) h)

def S_foliantref05_keys_0 (t1 t27 t28 t29 : Value) (w : World) (N1 : List Value → World → Prop) (K : Ending → World → Prop) : Prop :=
 DoX Tryz.prog (mBin .lss 3 t29 t28) w (pk K) fun t30 w =>
 IfX t30 (DoX Tryz.prog (mIA 22 t27 t29) w (pk K) fun t32 w =>
 DoX Tryz.prog (mLoad 9 t32) w (pk K) fun t33 w =>
 CallX Tryz.prog 211 #[t33] w (pk K) fun t35 w =>
 DoX Tryz.prog (mUn .not t35) w (pk K) fun t36 w =>
 GDo t36 false (fun E => E t29 w) w fun t38 w =>
 GDo t36 false (fun E => DoX Tryz.prog (mBin .gtr 3 t38 (.int .i64 0)) w (pk K) E) w fun t39 w =>
 GDo t36 false (fun E => E t39 w) w fun t40 w =>
 GDo t40 true (fun E => E t33 w) w fun t41 w =>
 GDo t40 true (fun E => DoX Tryz.prog (mFA 25 t1 4) w (pk K) E) w fun t42 w =>
 GDo t40 true (fun E => DoX Tryz.prog (mLoad 22 t42) w (pk K) E) w fun t43 w =>
 GDo t40 true (fun E => E t29 w) w fun t44 w =>
 GDo t40 true (fun E => DoX Tryz.prog (mBin .sub 3 t44 (.int .i64 1)) w (pk K) E) w fun t45 w =>
 GDo t40 true (fun E => DoX Tryz.prog (mIA 22 t43 t45) w (pk K) E) w fun t46 w =>
 GDo t40 true (fun E => DoX Tryz.prog (mLoad 9 t46) w (pk K) E) w fun t47 w =>
 GDo t40 true (fun E => DoX Tryz.prog (mBin .leq 9 t41 t47) w (pk K) E) w fun t48 w =>
 GDo t36 false (fun E => DoX Tryz.prog (mPick t40 t48 (.bool false)) w (pk K) E) w fun t49 w =>
 DoX Tryz.prog (mPick t36 (.bool true) t49) w (pk K) fun t50 w =>
 GDo t50 false (fun E => E t33 w) w fun t52 w =>
 GDo t50 false (fun E => DoX Tryz.prog (mEq .eql 9 (.tmp 52) (.const (.string ⟨#[76, 101, 110, 103, 116, 104]⟩)) t52 (.string ⟨#[76, 101, 110, 103, 116, 104]⟩)) w (pk K) E) w fun t53 w =>
 GDo t50 false (fun E => E t53 w) w fun t54 w =>
 GDo t54 true (fun E => DoX Tryz.prog (mFA 25 t1 0) w (pk K) E) w fun t55 w =>
 GDo t54 true (fun E => DoX Tryz.prog (mLoad 3 t55) w (pk K) E) w fun t56 w =>
 GDo t54 true (fun E => DoX Tryz.prog (mEq .eql 3 (.tmp 56) (.const (.int .i64 9)) t56 (.int .i64 9)) w (pk K) E) w fun t57 w =>
 GDo t50 false (fun E => DoX Tryz.prog (mPick t54 t57 (.bool false)) w (pk K) E) w fun t58 w =>
 DoX Tryz.prog (mPick t50 (.bool true) t58) w (pk K) fun t59 w =>
 GDo t59 false (fun E => DoX Tryz.prog (mFA 25 t1 5) w (pk K) E) w fun t61 w =>
 GDo t59 false (fun E => DoX Tryz.prog (mLoad 23 t61) w (pk K) E) w fun t62 w =>
 GDo t59 false (fun E => E t29 w) w fun t63 w =>
 GDo t59 false (fun E => DoX Tryz.prog (mIA 23 t62 t63) w (pk K) E) w fun t64 w =>
 GDo t59 false (fun E => DoX Tryz.prog (mFA 25 t64 0) w (pk K) E) w fun t65 w =>
 GDo t59 false (fun E => DoX Tryz.prog (mLoad 3 t65) w (pk K) E) w fun t66 w =>
 GDo t59 false (fun E => DoX Tryz.prog (mEq .eql 3 (.tmp 66) (.const (.int .i64 0)) t66 (.int .i64 0)) w (pk K) E) w fun t67 w =>
 DoX Tryz.prog (mPick t59 (.bool true) t67) w (pk K) fun t68 w =>
 IfX t68 (K (.returned (.bool false)) w) (DoX Tryz.prog (mBin .add 3 t29 (.int .i64 1)) w (pk K) fun t69 w =>
 N1 [t69] w)) (K (.returned (.bool true)) w)
def S_foliantref05_keys (t0 : Value) (w : World) (K : Ending → World → Prop) : Prop :=
 DoX Tryz.prog (mBox 25 t0) w (pk K) fun t1 w =>
 DoX Tryz.prog (mFA 25 t1 0) w (pk K) fun t5 w =>
 DoX Tryz.prog (mLoad 3 t5) w (pk K) fun t6 w =>
 DoX Tryz.prog (mEq .eql 3 (.tmp 6) (.const (.int .i64 5)) t6 (.int .i64 5)) w (pk K) fun t7 w =>
 IfX t7 (DoX Tryz.prog (mFA 25 t1 3) w (pk K) fun t8 w =>
 DoX Tryz.prog (mLoad 9 t8) w (pk K) fun t9 w =>
 CallX Tryz.prog 211 #[t9] w (pk K) fun t10 w =>
 K (.returned t10) w) (DoX Tryz.prog (mFA 25 t1 0) w (pk K) fun t11 w =>
 DoX Tryz.prog (mLoad 3 t11) w (pk K) fun t12 w =>
 DoX Tryz.prog (mEq .neq 3 (.tmp 12) (.const (.int .i64 7)) t12 (.int .i64 7)) w (pk K) fun t13 w =>
 GDo t13 true (fun E => DoX Tryz.prog (mFA 25 t1 0) w (pk K) E) w fun t15 w =>
 GDo t13 true (fun E => DoX Tryz.prog (mLoad 3 t15) w (pk K) E) w fun t16 w =>
 GDo t13 true (fun E => DoX Tryz.prog (mEq .neq 3 (.tmp 16) (.const (.int .i64 9)) t16 (.int .i64 9)) w (pk K) E) w fun t17 w =>
 DoX Tryz.prog (mPick t13 t17 (.bool false)) w (pk K) fun t18 w =>
 IfX t18 (K (.returned (.bool true)) w) (DoX Tryz.prog (mFA 25 t1 4) w (pk K) fun t19 w =>
 DoX Tryz.prog (mLoad 22 t19) w (pk K) fun t20 w =>
 DoX Tryz.prog (mB .len #[22] 3 #[false] #[t20]) w (pk K) fun t21 w =>
 DoX Tryz.prog (mFA 25 t1 5) w (pk K) fun t22 w =>
 DoX Tryz.prog (mLoad 23 t22) w (pk K) fun t23 w =>
 DoX Tryz.prog (mB .len #[23] 3 #[false] #[t23]) w (pk K) fun t24 w =>
 DoX Tryz.prog (mEq .neq 3 (.tmp 21) (.tmp 24) t21 t24) w (pk K) fun t25 w =>
 IfX t25 (K (.returned (.bool false)) w) (DoX Tryz.prog (mFA 25 t1 4) w (pk K) fun t26 w =>
 DoX Tryz.prog (mLoad 22 t26) w (pk K) fun t27 w =>
 DoX Tryz.prog (mB .len #[22] 3 #[false] #[t27]) w (pk K) fun t28 w =>
 LoopX [(.int .i64 0)] w (fun vs1 w N1 => ∀ _ : Sg, S_foliantref05_keys_0 t1 t27 t28 (vs1.getD 0 undef) w N1 K))))
theorem S_foliantref05_keys_eq (t0 : Value) (w : World) (K : Ending → World → Prop) : wpX Tryz.prog 70 [] [(8, [29])] none (bodyOf Tryz.f169) (topQ Tryz.prog [.tmp 2] K) (startX [t0]) [] w = S_foliantref05_keys t0 w K := by kernel_rfl
theorem S_foliantref05_keys_ok {t0 : Value} {w : World} {K : Ending → World → Prop} (h : S_foliantref05_keys t0 w K) : Calls Tryz.prog 169 #[t0] w K :=
  calls_of_wpX Tryz.func169 rfl rfl rfl rfl (Eq.mpr (S_foliantref05_keys_eq t0 w K) h)

def S_foliantref05_check_0 (t1 t40 t41 t42 : Value) (w : World) (N2 : List Value → World → Prop) (K : Ending → World → Prop) : Prop :=
 DoX Tryz.prog (mBin .lss 3 t42 t41) w (pk K) fun t43 w =>
 IfX t43 (DoX Tryz.prog (mIA 23 t40 t42) w (pk K) fun t44 w =>
 DoX Tryz.prog (mLoad 25 t44) w (pk K) fun t45 w =>
 DoX Tryz.prog (mAlloc 25) w (pk K) fun t6 w =>
 DoX Tryz.prog (mStore 25 t6 t45) w (pk K) fun _ w =>
 DoX Tryz.prog (mLoad 25 t6) w (pk K) fun t46 w =>
 DoX Tryz.prog (mBin .add 3 t1 (.int .i64 1)) w (pk K) fun t48 w =>
 CallX Tryz.prog 102 #[t46, t48] w (pk K) fun t49 w =>
 DoX Tryz.prog (mEq .neq 28 (.tmp 50) (.const (.int .i64 0)) t49 (.int .i64 0)) w (pk K) fun t51 w =>
 IfX t51 (K (.returned t49) w) (DoX Tryz.prog (mBin .add 3 t42 (.int .i64 1)) w (pk K) fun t53 w =>
 N2 [t53] w)) (K (.returned (.int .i64 0)) w)
def S_foliantref05_check (t0 t1 : Value) (w : World) (K : Ending → World → Prop) : Prop :=
 DoX Tryz.prog (mBox 25 t0) w (pk K) fun t2 w =>
 DoX Tryz.prog (mBin .gtr 3 t1 (.int .i64 24)) w (pk K) fun t9 w =>
 IfX t9 (K (.returned (.int .i64 7)) w) (DoX Tryz.prog (mLoad 25 t2) w (pk K) fun t10 w =>
 CallX Tryz.prog 166 #[t10] w (pk K) fun t11 w =>
 DoX Tryz.prog (mUn .not t11) w (pk K) fun t12 w =>
 GDo t12 false (fun E => DoX Tryz.prog (mFA 25 t2 0) w (pk K) E) w fun t14 w =>
 GDo t12 false (fun E => DoX Tryz.prog (mLoad 3 t14) w (pk K) E) w fun t15 w =>
 GDo t12 false (fun E => DoX Tryz.prog (mEq .eql 3 (.tmp 15) (.const (.int .i64 9)) t15 (.int .i64 9)) w (pk K) E) w fun t16 w =>
 GDo t12 false (fun E => E t16 w) w fun t17 w =>
 GDo t17 true (fun E => E t1 w) w fun t18 w =>
 GDo t17 true (fun E => DoX Tryz.prog (mBin .gtr 3 t18 (.int .i64 1)) w (pk K) E) w fun t19 w =>
 GDo t12 false (fun E => DoX Tryz.prog (mPick t17 t19 (.bool false)) w (pk K) E) w fun t20 w =>
 DoX Tryz.prog (mPick t12 (.bool true) t20) w (pk K) fun t21 w =>
 IfX t21 (K (.returned (.int .i64 10)) w) (DoX Tryz.prog (mLoad 25 t2) w (pk K) fun t22 w =>
 CallX Tryz.prog 167 #[t22] w (pk K) fun t23 w =>
 DoX Tryz.prog (mUn .not t23) w (pk K) fun t24 w =>
 IfX t24 (K (.returned (.int .i64 2)) w) (QuietX w (fun C1 =>
 QDo Tryz.prog C1 (mFA 25 t2 3) fun t25 =>
 QDo Tryz.prog C1 (mLoad 9 t25) fun t26 =>
 QDo Tryz.prog C1 (mB .len #[9] 3 #[false] #[t26]) fun t27 =>
 QDo Tryz.prog C1 (mFA 25 t2 0) fun t28 =>
 QDo Tryz.prog C1 (mLoad 3 t28) fun t29 =>
 QCall Tryz.prog C1 168 #[t29] fun t30 =>
 QDo Tryz.prog C1 (mBin .gtr 3 t27 t30) fun t31 =>
 ∀ w, C1 w →
 IfX t31 (K (.returned (.int .i64 5)) w) (DoX Tryz.prog (mFA 25 t2 5) w (pk K) fun t32 w =>
 DoX Tryz.prog (mLoad 23 t32) w (pk K) fun t33 w =>
 DoX Tryz.prog (mB .len #[23] 3 #[false] #[t33]) w (pk K) fun t34 w =>
 DoX Tryz.prog (mBin .gtr 3 t34 (.int .i64 8191)) w (pk K) fun t35 w =>
 IfX t35 (K (.returned (.int .i64 6)) w) (DoX Tryz.prog (mLoad 25 t2) w (pk K) fun t36 w =>
 CallX Tryz.prog 169 #[t36] w (pk K) fun t37 w =>
 DoX Tryz.prog (mUn .not t37) w (pk K) fun t38 w =>
 IfX t38 (K (.returned (.int .i64 3)) w) (DoX Tryz.prog (mFA 25 t2 5) w (pk K) fun t39 w =>
 DoX Tryz.prog (mLoad 23 t39) w (pk K) fun t40 w =>
 DoX Tryz.prog (mB .len #[23] 3 #[false] #[t40]) w (pk K) fun t41 w =>
 LoopX [(.int .i64 0)] w (fun vs2 w N2 => ∀ _ : Sg, S_foliantref05_check_0 t1 t40 t41 (vs2.getD 0 undef) w N2 K))))))))
theorem S_foliantref05_check_eq (t0 t1 : Value) (w : World) (K : Ending → World → Prop) : wpX Tryz.prog 54 [] [(14, [42])] none (bodyOf Tryz.f102) (topQ Tryz.prog [.tmp 4] K) (startX [t0, t1]) [] w = S_foliantref05_check t0 t1 w K := by kernel_rfl
theorem S_foliantref05_check_ok {t0 t1 : Value} {w : World} {K : Ending → World → Prop} (h : S_foliantref05_check t0 t1 w K) : Calls Tryz.prog 102 #[t0, t1] w K :=
  calls_of_wpX Tryz.func102 rfl rfl rfl rfl (Eq.mpr (S_foliantref05_check_eq t0 t1 w K) h)

def S_foliantref05_Check (t0 : Value) (w : World) (K : Ending → World → Prop) : Prop :=
 DoX Tryz.prog (mBox 25 t0) w (pk K) fun t1 w =>
 DoX Tryz.prog (mLoad 25 t1) w (pk K) fun t3 w =>
 CallX Tryz.prog 102 #[t3, (.int .i64 1)] w (pk K) fun t4 w =>
 K (.returned t4) w
theorem S_foliantref05_Check_eq (t0 : Value) (w : World) (K : Ending → World → Prop) : wpX Tryz.prog 5 [] [] none (bodyOf Tryz.f49) (topQ Tryz.prog [.tmp 2] K) (startX [t0]) [] w = S_foliantref05_Check t0 w K := by kernel_rfl
theorem S_foliantref05_Check_ok {t0 : Value} {w : World} {K : Ending → World → Prop} (h : S_foliantref05_Check t0 w K) : Calls Tryz.prog 49 #[t0] w K :=
  calls_of_wpX Tryz.func49 rfl rfl rfl rfl (Eq.mpr (S_foliantref05_Check_eq t0 w K) h)

end Go.Proofs.YtiklhhdohckfiaaGreatDoor
namespace Go.Proofs.YtiklhhdohckfiaaGreatDoor
set_option linter.unusedVariables false
set_option linter.unusedSimpArgs false
set_option linter.defProp false
open Eng Go.RowKit
 attribute [local congr] g_congr

theorem e_int0 {T : TypeId} {xo yo : Operand} {n : Nat} {w : World} {PK : List PanicEntry → World → Prop} {K : Value → World → Prop} : DoX Tryz.prog (mEq .eql T xo yo (.int .i64 (n : Int)) (.int .i64 0)) w PK K = K (.bool (decide (n = 0))) w := by
  rw [e_int]; congr 2; simp
theorem e_nil {T : TypeId} {xo yo : Operand} {s : List UInt8} {w : World} {PK : List PanicEntry → World → Prop} {K : Value → World → Prop} : DoX Tryz.prog (mEq .eql T xo yo (.string ⟨s.toArray⟩) (.string ⟨#[]⟩)) w PK K = K (.bool (decide (s = []))) w := e_str (b := [])
theorem ilen0 {α : Type} (l : List α) : decide (((l.length : Nat) : Int) = 0) = decide (l = []) := by cases l <;> simp; omega
theorem ilenN {α : Type} (l : List α) : decide (((l.length : Nat) : Int) = 0) = decide (l.length = 0) := by rw [decide_eq_decide]; omega
theorem rzero_ret (o : Ob) (vk vc : Value) (cs : List Value) (n g s l : Bool) (w : World) (h : ObAt (InW w) w o vk vc cs) : Ret Tryz.prog 210 #[obV o vk vc, .bool n, .bool g, .bool s, .bool l] w
    (fun v w' => v = .bool ((n || decide (o.n = 0)) && (g || decide (o.g = 0)) && (s || decide (o.s = [])) && (l || (decide (o.keys = []) && decide (o.kids.length = 0)))) ∧ Below w.heap.size w w') := by
  refine ret_of fun K hK => S_foliantref05_zero_ok ?_
  unfold S_foliantref05_zero
  refine o_obb o h.keys.one h.kids.one (Own.start w) fun b w1 ho => ?_
  have hk := h.own ho
  have lk : ∀ {PK : List PanicEntry → World → Prop} {K : Value → World → Prop}, DoX Tryz.prog (mB .len #[22] 3 #[false] #[vk]) w1 PK K = K (.int .i64 (o.keys.length : Int)) w1 := sl_len Tryz.underlying22 hk.keys.1
  have lc : ∀ {PK : List PanicEntry → World → Prop} {K : Value → World → Prop}, DoX Tryz.prog (mB .len #[23] 3 #[false] #[vc]) w1 PK K = K (.int .i64 (o.kids.length : Int)) w1 := sl_len Tryz.underlying23 hk.kids.1
  simp +contextual only [rs, gs, fa_o1, fa_o2, fa_o3, fa_o4, fa_o5, ob_n ho 0 rfl, ob_g ho 0 rfl, ob_s ho 0 rfl, ob_keys ho 0 rfl, ob_kids ho 0 rfl, lk, lc, e_int0, e_nil]
  refine hK _ _ ⟨?_, ho.done⟩
  rw [ilen0 o.keys, ilenN o.kids]
theorem rnm5_ret (s : List UInt8) (w : World) (hs : s.length ≤ 9223372036854775807) : Ret Tryz.prog 211 #[.string ⟨s.toArray⟩] w (fun v w' => v = .bool (Vl.name s) ∧ w = w') := by
  refine ret_of fun K hK => S_foliantref05_Name_ok ?_
  unfold S_foliantref05_Name
  refine loop (fun vs w' => ∃ (i : Nat), vs = [.int .i64 i] ∧ i ≤ s.length ∧ (0 : UInt8) ∉ s.take i ∧ w = w') (fun vs _ => s.length - n0 vs) ⟨0, rfl, by omega, by simp, rfl⟩ ?_
  rintro vs w2 ⟨i, rfl, hi, hm, rfl⟩ _
  simp only [S_foliantref05_Name_0, gd, s_len Tryz.underlying9, rs]
  by_cases hlt : (i : Int) < (s.length : Int)
  · have hi' : i < s.length := by omega
    have hx : ∀ {PK : List PanicEntry → World → Prop} {K : Value → World → Prop}, DoX Tryz.prog (mIx 9 (.string ⟨s.toArray⟩) (.int .i64 (i : Int))) w PK K = K (.int .u8 (s[i].toNat : Int)) w := s_ix (c := s[i]) Tryz.underlying9 (Int.natCast_nonneg i) (by simp [hi'])
    simp only [hlt, decide_true, rs, hx]
    by_cases h0 : s[i] = 0
    · have e : (s[i].toNat : Int) = 0 := by rw [h0]; rfl
      simp only [e, decide_true, i_t]
      have hm0 : (0 : UInt8) ∈ s := h0 ▸ List.getElem_mem hi'
      exact hK _ _ ⟨by simp [Vl.name, hm0], rfl⟩
    · have e : ¬ (s[i].toNat : Int) = 0 := fun h => h0 (UInt8.toNat_inj.1 (by have : (0 : UInt8).toNat = 0 := rfl; omega))
      simp only [e, decide_false, i_f]
      rw [wrap64_id (by omega) (by omega)]
      refine nextX ⟨i + 1, rfl, by omega, ?_, rfl⟩ (by simp [n0, intOf]; omega)
      rw [List.take_add_one, List.getElem?_eq_getElem hi']
      simp only [Option.toList, List.mem_append, List.mem_singleton, not_or]
      exact ⟨hm, fun e => h0 e.symm⟩
  · rw [List.take_of_length_le (by omega)] at hm
    simp only [hlt, decide_false, i_f]
    refine hK _ _ ⟨?_, rfl⟩
    rw [Vl.name, decide_eq_true hm, Bool.and_true]
    congr 1
    rw [decide_eq_decide]; omega
theorem ruses05_ret (o : Ob) (v : Value) (w : World) (h : OV (InW w) w v o) : Ret Tryz.prog 166 #[v] w (fun v w' => v = .bool (Vl.usesOk o) ∧ Below w.heap.size w w') := by
  obtain ⟨vk, vc, cs, rfl, ha⟩ := h.open
  refine ret_of fun K hK => S_foliantref05_uses_ok ?_
  unfold S_foliantref05_uses
  refine o_obb o ha.keys.one ha.kids.one (Own.start w) fun b w1 ho => ?_
  have hk := ha.own ho
  have hk1 : ObAt (InW w1) w1 o vk vc cs := ⟨⟨hk.keys.1, (fun p l c e hn => Nat.lt_of_lt_of_le (hk.keys.2.1 p l c e hn) ho.size), hk.keys.2.2⟩, ⟨hk.kids.1, (fun p l c e hn => Nat.lt_of_lt_of_le (hk.kids.2.1 p l c e hn) ho.size), hk.kids.2.2⟩, OVs.mono (fun _ hb => Nat.lt_of_lt_of_le hb ho.size) _ _ hk.all⟩
  have zero : ∀ (n g s l : Bool) {K' : Value → World → Prop}, (∀ w', Own w w' [obE b o vk vc] → K' (.bool ((n || decide (o.n = 0)) && (g || decide (o.g = 0)) && (s || decide (o.s = [])) && (l || (decide (o.keys = []) && decide (o.kids.length = 0))))) w') →
      CallX Tryz.prog 210 #[obV o vk vc, .bool n, .bool g, .bool s, .bool l] w1 (pk K) K' := fun n g s l {K'} hk' => c_told (rzero_ret o vk vc cs n g s l w1 hk1) rfl ho hk'
  rw [fa_o0, ob_k ho 0 rfl]
  simp only [rs, ob_v ho 0 rfl]
  by_cases k0 : o.k = 0
  · simp only [k0, decide_true, i_t]
    refine zero _ _ _ _ fun w2 ho => hK _ _ ⟨?_, ho.done⟩
    simp [Vl.usesOk, Vl.used, k0, Bool.and_assoc]
  simp only [k0, decide_false, i_f]
  refine join fun J hJ => ?_
  by_cases k123 : o.k = 1 ∨ o.k = 2 ∨ o.k = 3
  · have : J [.bool true] w1 := by
      refine hJ _ _ fun _ => ?_
      simp only [S_foliantref05_uses_0, gd, i_t, ob_v ho 0 rfl]
      refine zero _ _ _ _ fun w2 ho => hK _ _ ⟨?_, ho.done⟩
      simp [Vl.usesOk, Vl.used, k0, k123, Bool.and_assoc]
    by_cases k1 : o.k = 1
    · simp only [k1, decide_true, i_t]; exact this
    by_cases k2 : o.k = 2
    · simp only [k2, Int.reduceEq, decide_true, decide_false, i_t, i_f]; exact this
    have k3 : o.k = 3 := by omega
    simp only [k3, Int.reduceEq, decide_true, decide_false, i_t, i_f]; exact this
  have k1 : ¬ o.k = 1 := fun h => k123 (.inl h)
  have k2 : ¬ o.k = 2 := fun h => k123 (.inr (.inl h))
  have k3 : ¬ o.k = 3 := fun h => k123 (.inr (.inr h))
  simp only [k1, k2, k3, decide_false, i_f]
  refine hJ _ _ fun _ => ?_
  clear hJ
  simp only [S_foliantref05_uses_0, gd, i_f, rs]
  refine join fun J hJ => ?_
  by_cases k45 : o.k = 4 ∨ o.k = 5
  · have : J [.bool true] w1 := by
      refine hJ _ _ fun _ => ?_
      simp only [S_foliantref05_uses_1, gd, i_t, ob_v ho 0 rfl]
      refine zero _ _ _ _ fun w2 ho => hK _ _ ⟨?_, ho.done⟩
      simp [Vl.usesOk, Vl.used, k0, k1, k2, k3, k45, Bool.and_assoc]
    by_cases k4 : o.k = 4
    · simp only [k4, decide_true, i_t]; exact this
    have k5 : o.k = 5 := by omega
    simp only [k5, Int.reduceEq, decide_true, decide_false, i_t, i_f]; exact this
  have k4 : ¬ o.k = 4 := fun h => k45 (.inl h)
  have k5 : ¬ o.k = 5 := fun h => k45 (.inr h)
  simp only [k4, k5, decide_false, i_f]
  refine hJ _ _ fun _ => ?_
  clear hJ
  simp only [S_foliantref05_uses_1, gd, i_f, rs, ob_v ho 0 rfl]
  by_cases k6 : o.k = 6
  · simp only [k6, decide_true, i_t]
    refine zero _ _ _ _ fun w2 ho => ?_
    have lk : ∀ {PK : List PanicEntry → World → Prop} {K : Value → World → Prop}, DoX Tryz.prog (mB .len #[22] 3 #[false] #[vk]) w2 PK K = K (.int .i64 (o.keys.length : Int)) w2 := sl_len Tryz.underlying22 (ha.own ho).keys.1
    simp +contextual only [rs, gs, fa_o4, ob_keys ho 0 rfl, lk, e_int0]
    refine hK _ _ ⟨?_, ho.done⟩
    rw [ilen0 o.keys]
    simp [Vl.usesOk, Vl.used, k6, Bool.and_assoc]
  by_cases k7 : o.k = 7
  · simp only [k7, Int.reduceEq, decide_true, decide_false, i_t, i_f]
    refine zero _ _ _ _ fun w2 ho => hK _ _ ⟨?_, ho.done⟩
    simp [Vl.usesOk, Vl.used, k7, Bool.and_assoc]
  by_cases k8 : o.k = 8
  · simp only [k8, Int.reduceEq, decide_true, decide_false, i_t, i_f]
    refine zero _ _ _ _ fun w2 ho => hK _ _ ⟨?_, ho.done⟩
    simp [Vl.usesOk, Vl.used, k8, Bool.and_assoc]
  by_cases k9 : o.k = 9
  · simp only [k9, Int.reduceEq, decide_true, decide_false, i_t, i_f]
    refine zero _ _ _ _ fun w2 ho => hK _ _ ⟨?_, ho.done⟩
    simp [Vl.usesOk, Vl.used, k9, Bool.and_assoc]
  simp only [k6, k7, k8, k9, decide_false, i_f]
  refine hK _ _ ⟨?_, ho.done⟩
  simp [Vl.usesOk, Vl.used, k0, k123, k45, k6, k7, k8, k9]
theorem rfits_ret (o : Ob) (v : Value) (w : World) (h : OV (InW w) w v o) : Ret Tryz.prog 167 #[v] w (fun v w' => v = .bool (Vl.fits o) ∧ Below w.heap.size w w') := by
  obtain ⟨vk, vc, cs, rfl, ha⟩ := h.open
  refine ret_of fun K hK => S_foliantref05_fits_ok ?_
  unfold S_foliantref05_fits
  refine o_obb o ha.keys.one ha.kids.one (Own.start w) fun b w1 ho => ?_
  simp only [fa_o0, ob_k ho 0 rfl, rs]
  by_cases k1 : o.k = 1
  · simp +contextual only [k1, decide_true, i_t, fa_o1, ob_n ho 0 rfl, rs, gs, decide_true, decide_false, nn_t, nn_f]
    refine hK _ _ ⟨?_, ho.done⟩
    rw [Vl.fits, if_pos k1]; congr 1
    rw [Bool.eq_iff_iff]; simp; omega
  by_cases k2 : o.k = 2
  · simp +contextual only [k2, Int.reduceEq, decide_true, decide_false, i_t, i_f, fa_o1, ob_n ho 0 rfl, rs, gs, decide_true, decide_false, nn_t, nn_f]
    refine hK _ _ ⟨?_, ho.done⟩
    rw [Vl.fits, if_neg k1, if_pos k2, Bool.decide_and]
  by_cases k3 : o.k = 3
  · simp +contextual only [k3, Int.reduceEq, decide_true, decide_false, i_t, i_f, fa_o1, ob_n ho 0 rfl, rs, gs, decide_true, decide_false, nn_t, nn_f]
    refine hK _ _ ⟨?_, ho.done⟩
    rw [Vl.fits, if_neg k1, if_neg k2, if_pos k3, Bool.decide_and]
  by_cases k8 : o.k = 8
  · simp +contextual only [k8, Int.reduceEq, decide_true, decide_false, i_t, i_f, fa_o1, fa_o2, ob_n ho 0 rfl, ob_g ho 0 rfl, rs, gs, decide_true, decide_false, nn_t, nn_f]
    refine hK _ _ ⟨?_, ho.done⟩
    rw [Vl.fits, if_neg k1, if_neg k2, if_neg k3, if_pos k8, Bool.decide_and, Bool.decide_and, Bool.and_assoc, Bool.and_assoc]
  simp only [k1, k2, k3, k8, decide_false, i_f]
  refine hK _ _ ⟨?_, ho.done⟩
  rw [Vl.fits, if_neg k1, if_neg k2, if_neg k3, if_neg k8]
theorem rlong5_ret (k : Int) (w : World) : Ret Tryz.prog 168 #[.int .i64 k] w (fun v w' => v = .int .i64 (Vl.long k : Nat) ∧ w = w') := by
  refine ret_of fun K hK => S_foliantref05_long_ok ?_
  unfold S_foliantref05_long
  simp only [rs]
  by_cases k5 : k = 5
  · simp only [k5, decide_true, i_t]
    exact hK _ _ ⟨by rw [k5]; rfl, rfl⟩
  by_cases k9 : k = 9
  · simp only [k9, Int.reduceEq, decide_true, decide_false, i_t, i_f]
    exact hK _ _ ⟨by rw [k9]; rfl, rfl⟩
  simp only [k5, k9, decide_false, i_f]
  exact hK _ _ ⟨by rw [Vl.long, if_neg k5, if_neg k9]; rfl, rfl⟩
end Go.Proofs.YtiklhhdohckfiaaGreatDoor
namespace Go.Proofs.YtiklhhdohckfiaaGreatDoor
set_option linter.unusedVariables false
set_option linter.unusedSimpArgs false
set_option linter.defProp false
set_option linter.unusedSimpArgs false
set_option linter.unusedVariables false
namespace Eng
open Go.RowKit
theorem sel_sel {c : Bool} {x : Value} : sel c (sel c x) = sel c x := by cases c <;> rfl
theorem g_off {v : Value} {want : Bool} {E : (Value → World → Prop) → Prop} {w : World} {K : Value → World → Prop} (h : wants v want = false) : GDo v want E w K = K undef w := by
  refine propext ⟨fun x => ?_, fun x => ⟨?_⟩⟩
  · have := x.out; rw [h] at this; exact this
  · rw [h]; exact x
theorem less_ge : ∀ a b : List UInt8, (Op.bytesLess a b || a == b) = !(Op.bytesLess b a) := by
  intro a b
  rw [bytesLess_eq, bytesLess_eq, Bool.eq_iff_iff]
  simp only [Bool.or_eq_true, decide_eq_true_eq, beq_iff_eq, Bool.not_eq_true', decide_eq_false_iff_not]
  constructor
  · rintro (h | rfl)
    · exact fun h' => List.lt_asymm h h'
    · exact List.lt_irrefl _
  · intro h
    by_cases h1 : a < b
    · exact .inl h1
    · exact .inr (List.le_antisymm (List.not_lt.1 h) (List.not_lt.1 h1))
theorem pick_orn {P : Program} {b y : Bool} {w : World} {PK : List PanicEntry → World → Prop} {K : Value → World → Prop} : DoX P (mPick (.bool (!b)) (.bool true) (sel b (.bool y))) w PK K = K (.bool (!b || y)) w := by
  rw [p_pick]; cases b <;> rfl
theorem ifx_of {q r : Bool} {A B : Prop} (h : q = r) (k : IfX (.bool r) A B) : IfX (.bool q) A B := by subst h; exact k

end Eng
end Go.Proofs.YtiklhhdohckfiaaGreatDoor
namespace Go.Proofs.YtiklhhdohckfiaaGreatDoor
set_option linter.unusedVariables false
set_option linter.unusedSimpArgs false
set_option linter.defProp false
open Eng Go.RowKit
 attribute [local congr] g_congr

theorem ObAt.in_ {w0 w : World} {L : List Ent} {o : Ob} {vk vc : Value} {cs : List Value} (h : ObAt (InW w0) w0 o vk vc cs) (ho : Own w0 w L) : ObAt (InW w) w o vk vc cs := by
  have hk := h.own ho
  exact ⟨⟨hk.keys.1, (fun p l c e hn => Nat.lt_of_lt_of_le (hk.keys.2.1 p l c e hn) ho.size), hk.keys.2.2⟩, ⟨hk.kids.1, (fun p l c e hn => Nat.lt_of_lt_of_le (hk.kids.2.1 p l c e hn) ho.size), hk.kids.2.2⟩, OVs.mono (fun _ hb => Nat.lt_of_lt_of_le hb ho.size) _ _ hk.all⟩
theorem range_all_succ {p : Nat → Bool} (n : Nat) : (List.range (n + 1)).all p = ((List.range n).all p && p n) := by
  rw [List.range_succ, List.all_append]; simp
theorem range_all_not {p : Nat → Bool} {n m : Nat} (hp : p n = false) (hn : n < m) : (List.range m).all p = false := by
  rw [← Bool.not_eq_true]
  intro h
  have := List.all_eq_true.1 h n (List.mem_range.2 hn)
  rw [hp] at this; cases this
theorem run_kid_k {A : Nat → Prop} {w : World} {vc : Value} {os : List Ob} {cs : List Value} (hs : Sl w vc 6 os.length cs) (hall : OVs A w cs os) {i : Nat} (hi : i < os.length) :
    ∃ b off, (∀ {PK : List PanicEntry → World → Prop} {K : Value → World → Prop}, DoX Tryz.prog (mIA 23 vc (.int .i64 (i : Int))) w PK K = K (.pointer (some ⟨b, off, none⟩)) w) ∧ w.cell? ⟨b, off, none⟩ = some (.int .i64 os[i].k) := by
  obtain ⟨b, off, cap, rfl, hc⟩ := sl_open hs (by omega)
  obtain ⟨a, hl, hov, hget⟩ := OVs.get os cs i hi hall
  refine ⟨b, off + i * 6, ?_, ?_⟩
  · intro PK K
    have := run_ia (P := Tryz.prog) (T := 23) (b := b) (off := off) (cap := cap) (n := os.length) (k := .i64) (i := (i : Int)) (w := w) Tryz.underlying23 szOb (by omega) (by omega)
    rw [Int.toNat_natCast] at this
    exact do_eq this
  · obtain ⟨vk, vc', cs', hv, _⟩ := hov.open
    have e : a = obC os[i] vk vc' := by
      injection hv with hv
      have := congrArg Array.toList hv
      simpa using this
    have := hc (i * 6 + 0) _ (hget 0 (.int .i64 os[i].k) (by rw [e]; rfl))
    simpa using this
theorem rkeys_ret (o : Ob) (v : Value) (w : World) (h : OV (InW w) w v o) (hs : o.s.length ≤ 9223372036854775807) (hb : o.keys.length ≤ 9223372036854775807) (hks : ∀ k ∈ o.keys, k.length ≤ 9223372036854775807) :
    Ret Tryz.prog 169 #[v] w (fun v w' => v = .bool (Vl.form o) ∧ Below w.heap.size w w') := by
  obtain ⟨vk, vc, cs, rfl, ha⟩ := h.open
  refine ret_of fun K hK => S_foliantref05_keys_ok ?_
  unfold S_foliantref05_keys
  refine o_obb o ha.keys.one ha.kids.one (Own.start w) fun b w1 ho => ?_
  simp only [fa_o0, ob_k ho 0 rfl, rs]
  by_cases k5 : o.k = 5
  · simp only [k5, decide_true, i_t, fa_o3, ob_s ho 0 rfl]
    refine c_eq (rnm5_ret o.s w1 hs) ?_
    refine hK _ _ ⟨?_, ho.done⟩
    simp [Vl.form, k5]
  by_cases k7 : o.k = 7 ∨ o.k = 9
  case neg =>
    have k7' : ¬ o.k = 7 := fun h => k7 (.inl h)
    have k9' : ¬ o.k = 9 := fun h => k7 (.inr h)
    simp only [k5, k7', k9', ne_eq, not_false_eq_true, decide_true, decide_false, rs, ob_k ho 0 rfl]
    refine hK _ _ ⟨?_, ho.done⟩
    simp [Vl.form, k5, k7]
  have lk : ∀ {W : World} {L : List Ent}, Own w W L → ∀ {PK : List PanicEntry → World → Prop} {K : Value → World → Prop}, DoX Tryz.prog (mB .len #[22] 3 #[false] #[vk]) W PK K = K (.int .i64 (o.keys.length : Int)) W := fun ho => sl_len Tryz.underlying22 (ha.own ho).keys.1
  have lc : ∀ {W : World} {L : List Ent}, Own w W L → ∀ {PK : List PanicEntry → World → Prop} {K : Value → World → Prop}, DoX Tryz.prog (mB .len #[23] 3 #[false] #[vc]) W PK K = K (.int .i64 (o.kids.length : Int)) W := fun ho => sl_len Tryz.underlying23 (ha.own ho).kids.1
  have hf : Vl.form o = Vl.rising o := by simp [Vl.form, k5, k7]
  rw [hf] at hK
  simp +contextual only [k5, decide_false, i_f, rs, gs, ob_k ho 0 rfl, fa_o4, fa_o5, ob_keys ho 0 rfl, ob_kids ho 0 rfl, lk ho, lc ho]
  refine ifx_of (r := false) (by rcases k7 with h | h <;> simp [h]) ?_
  rw [i_f]
  by_cases hlen : (o.keys.length : Int) ≠ (o.kids.length : Int)
  · simp only [decide_eq_true hlen, i_t]
    refine hK _ _ ⟨?_, ho.done⟩
    have : ¬ o.keys.length = o.kids.length := fun e => hlen (by rw [e])
    simp [Vl.rising, this]
  have hle : o.keys.length = o.kids.length := by omega
  simp only [decide_eq_false hlen, i_f]
  have hR : Vl.rising o = (List.range o.keys.length).all (Vl.keyAt o) := by simp [Vl.rising, hle]
  rw [hR] at hK
  refine loop (fun vs w' => ∃ (i : Nat), vs = [.int .i64 i] ∧ i ≤ o.keys.length ∧ (List.range i).all (Vl.keyAt o) = true ∧ Own w w' [obE b o vk vc]) (fun vs _ => o.keys.length - n0 vs) ⟨0, rfl, by omega, by simp, ho⟩ ?_
  rintro vs w2 ⟨i, rfl, hi, hall, ho⟩ _
  simp only [S_foliantref05_keys_0, gd, rs]
  by_cases hlt : (i : Int) < (o.keys.length : Int)
  · have hi' : i < o.keys.length := by omega
    simp only [hlt, decide_true, i_t]
    have ho2 := ha.own ho
    refine sl_ia1 (.string ⟨(o.keys[i]).toArray⟩) Tryz.underlying22 (by kernel_rfl) ho2.keys.1 (by omega) (by rw [Int.toNat_natCast]; exact strsV_get hi') fun q hq => ?_
    rw [l_cell nStr5 hq]
    refine c_eq (rnm5_ret o.keys[i] w2 (hks _ (List.getElem_mem hi'))) ?_
    obtain ⟨kb, koff, hia, hkc⟩ := run_kid_k ho2.kids.1 ho2.all (show i < o.kids.length by omega)
    have hlk : ∀ {PK : List PanicEntry → World → Prop} {K : Value → World → Prop}, DoX Tryz.prog (mLoad 3 (.pointer (some ⟨kb, koff, none⟩))) w2 PK K = K (.int .i64 o.kids[i].k) w2 := l_cell nInt5 hkc
    have hprev : decide (0 < (i : Int)) = true → ∃ (b' off' : Nat), (∀ {PK : List PanicEntry → World → Prop} {K : Value → World → Prop}, DoX Tryz.prog (mIA 22 vk (.int .i64 (IntKind.wrap .i64 ((i : Int) - 1)))) w2 PK K = K (.pointer (some ⟨b', off', none⟩)) w2) ∧
        (∀ {PK : List PanicEntry → World → Prop} {K : Value → World → Prop}, DoX Tryz.prog (mLoad 9 (.pointer (some ⟨b', off', none⟩))) w2 PK K = K (.string ⟨(o.keys.getD (i - 1) []).toArray⟩) w2) := by
      intro h
      have h := of_decide_eq_true h
      have hj : i - 1 < o.keys.length := by omega
      obtain ⟨b', off', cap', rfl, hc'⟩ := sl_open ho2.keys.1 (show 0 < o.keys.length by omega)
      refine ⟨b', off' + (i - 1), ?_, ?_⟩
      · intro PK K
        rw [wrap64_id (by omega) (by omega)]
        refine do_eq ?_
        rw [run_ia Tryz.underlying22 (show _ = some 1 by kernel_rfl) (by omega) (by omega), show ((i : Int) - 1).toNat * 1 = i - 1 by omega]
      · intro PK K
        rw [List.getD_eq_getElem?_getD, List.getElem?_eq_getElem hj]
        exact l_cell nStr5 (hc' _ _ (strsV_get hj))
    have hgi : o.keys.getD i [] = o.keys[i] := by rw [List.getD_eq_getElem?_getD, List.getElem?_eq_getElem hi']; rfl
    have hgk : o.kids.getD i (.mk 0 0 0 [] [] []) = o.kids[i]'(by omega) := by rw [List.getD_eq_getElem?_getD, List.getElem?_eq_getElem (by omega)]; rfl
    have tail : ∀ (q : Bool) (N : Prop), q = !(Vl.keyAt o i) → (Vl.keyAt o i = true → N) → IfX (.bool q) (K (.returned (.bool false)) w2) N := by
      intro q N hq hN
      cases hk : Vl.keyAt o i with
      | false =>
        rw [hk] at hq; subst hq
        rw [show (!false) = true from rfl, i_t]
        exact hK _ _ ⟨by rw [range_all_not hk hi'], ho.done⟩
      | true =>
        rw [hk] at hq; subst hq
        rw [show (!true) = false from rfl, i_f]
        exact hN hk
    have hki : Vl.keyAt o i = (Vl.name o.keys[i] && (decide (i = 0) || Vl.less (o.keys.getD (i - 1) []) o.keys[i]) && !(decide (o.k = 9) && decide (o.keys[i] = Vl.lenK)) && decide ((o.kids[i]'(by omega)).k ≠ 0)) := by
      rw [Vl.keyAt, hgi, hgk]
    by_cases hi0 : i = 0
    · have hz : decide (0 < (i : Int)) = false := by rw [decide_eq_false_iff_not]; omega
      simp +contextual only [rs, gs, hz, sel_sel, g_off, pick_orn, Bool.and_false, Bool.not_not, Bool.or_false, less_ge, fa_o0, fa_o5, ob_k ho 0 rfl, ob_kids ho 0 rfl, hia, hlk, g_un, p_f]
      refine tail _ _ ?_ fun hk => ?_
      · rw [hki, decide_eq_true hi0]
        simp only [Bool.true_or, Bool.and_true, Vl.lenK, ne_eq, decide_not]
        generalize Vl.name o.keys[i] = a
        generalize decide (o.k = 9) = c
        generalize decide ((o.kids[i]'(by omega)).k = 0) = d
        by_cases hL : o.keys[i] = [76, 101, 110, 103, 116, 104] <;> simp only [hL, decide_true, decide_false] <;> cases a <;> cases c <;> cases d <;> rfl
      · rw [wrap64_id (by omega) (by omega)]
        exact nextX ⟨i + 1, rfl, by omega, by rw [range_all_succ, hall, hk]; rfl, ho⟩ (by simp [n0, intOf]; omega)
    · have hz : decide (0 < (i : Int)) = true := by rw [decide_eq_true_iff]; omega
      obtain ⟨b', off', hpa, hpl⟩ := hprev hz
      simp +contextual only [rs, gs, hz, sel_sel, g_off, pick_orn, Bool.and_false, Bool.not_not, Bool.or_false, less_ge, fa_o0, fa_o4, fa_o5, ob_k ho 0 rfl, ob_keys ho 0 rfl, ob_kids ho 0 rfl, hia, hlk, hpa, hpl, g_un]
      refine tail _ _ ?_ fun hk => ?_
      · rw [hki, decide_eq_false hi0]
        simp only [Bool.false_or, Vl.lenK, ne_eq, decide_not]
        generalize Vl.name o.keys[i] = a
        generalize decide (o.k = 9) = c
        generalize decide ((o.kids[i]'(by omega)).k = 0) = d
        show _ = !(_ && Op.bytesLess (o.keys.getD (i - 1) []) o.keys[i] && _ && _)
        generalize Op.bytesLess (o.keys.getD (i - 1) []) o.keys[i] = e
        by_cases hL : o.keys[i] = [76, 101, 110, 103, 116, 104] <;> simp only [hL, decide_true, decide_false] <;> cases a <;> cases c <;> cases d <;> cases e <;> rfl
      · rw [wrap64_id (by omega) (by omega)]
        exact nextX ⟨i + 1, rfl, by omega, by rw [range_all_succ, hall, hk]; rfl, ho⟩ (by simp [n0, intOf]; omega)
  · simp only [hlt, decide_false, i_f]
    refine hK _ _ ⟨?_, ho.done⟩
    rw [show o.keys.length = i by omega, hall]
end Go.Proofs.YtiklhhdohckfiaaGreatDoor
namespace Go.Proofs.YtiklhhdohckfiaaGreatDoor
set_option linter.unusedVariables false
set_option linter.unusedSimpArgs false
set_option linter.defProp false
open Eng Go.RowKit
 attribute [local congr] g_congr

theorem OwnS.kept2 {w0 w2 w4 : World} {L2 L4 : List Ent} (h2 : Own w0 w2 L2) (h4 : Own w0 w4 L4) : Kept (InW w0) w2 w4 := fun b hb => (h4.done.block b hb).trans (h2.done.block b hb).symm
theorem ObAt.later {w0 w2 w4 : World} {L2 L4 : List Ent} {o : Ob} {vk vc : Value} {cs : List Value} (h : ObAt (InW w0) w2 o vk vc cs) (h2 : Own w0 w2 L2) (h4 : Own w0 w4 L4) : ObAt (InW w4) w4 o vk vc cs := by
  have hk := h.kept (OwnS.kept2 h2 h4)
  exact ⟨⟨hk.keys.1, (fun p l c e hn => Nat.lt_of_lt_of_le (hk.keys.2.1 p l c e hn) h4.size), hk.keys.2.2⟩, ⟨hk.kids.1, (fun p l c e hn => Nat.lt_of_lt_of_le (hk.kids.2.1 p l c e hn) h4.size), hk.kids.2.2⟩, OVs.mono (fun _ hb => Nat.lt_of_lt_of_le hb h4.size) _ _ hk.all⟩
theorem tot_mem : ∀ {l : List (List UInt8)} {k : List UInt8}, k ∈ l → k.length ≤ Pl.tot l
  | a :: l, k, h => by
    simp only [Pl.tot, List.map_cons, List.sum_cons]
    rcases List.mem_cons.1 h with rfl | h
    · omega
    · have := tot_mem h; simp only [Pl.tot] at this; omega
theorem wts_mem : ∀ {l : List Ob} {o : Ob}, o ∈ l → o.wt ≤ Ob.wts l
  | a :: l, o, h => by
    rw [Ob.wts]
    rcases List.mem_cons.1 h with rfl | h
    · omega
    · have := wts_mem h; omega
theorem Ob.wt_eq (o : Ob) : o.wt = 6 + o.s.length + Pl.tot o.keys + Ob.wts o.kids := by cases o; rw [Ob.wt]; rfl
theorem Ob.wt_pos (o : Ob) : 6 ≤ o.wt := by rw [o.wt_eq]; omega
theorem wts_len : ∀ l : List Ob, l.length * 6 ≤ Ob.wts l
  | [] => by simp
  | a :: l => by
    have := wts_len l
    have := a.wt_pos
    rw [Ob.wts, List.length_cons]; omega
theorem kid_wt {o : Ob} {i : Nat} (hi : i < o.kids.length) : o.kids[i].wt < o.wt := by
  have := wts_mem (List.getElem_mem hi)
  rw [o.wt_eq]; omega
theorem checks_drop (d : Nat) (l : List Ob) (i : Nat) (hi : i < l.length) : Vl.checks d (l.drop i) = if Vl.check d l[i] ≠ 0 then Vl.check d l[i] else Vl.checks d (l.drop (i + 1)) := by
  rw [List.drop_eq_getElem_cons hi, Vl.checks]
theorem key_len {o : Ob} : o.keys.length ≤ o.wt := by
  have h : ∀ l : List (List UInt8), l.length ≤ Pl.tot l := by
    intro l
    induction l with
    | nil => simp
    | cons a l ih => simp only [Pl.tot, List.map_cons, List.sum_cons, List.length_cons] at ih ⊢; omega
  have := h o.keys
  rw [o.wt_eq]; omega
theorem kids_len {o : Ob} : o.kids.length ≤ o.wt := by
  have := wts_len o.kids
  rw [o.wt_eq]; omega
theorem s_len05 {o : Ob} : o.s.length ≤ o.wt := by rw [o.wt_eq]; omega
theorem keys_mem {o : Ob} {k : List UInt8} (h : k ∈ o.keys) : k.length ≤ o.wt := by
  have := tot_mem h
  rw [o.wt_eq]; omega
theorem why_pos {d : Nat} {o : Ob} (h : Vl.why d o ≠ 0) : Vl.check d o = Vl.why d o := by rw [Vl.check_eq, if_pos h]
theorem rcheck05_ret (n : Nat) : ∀ (o : Ob) (v : Value) (d : Nat) (w : World), o.wt ≤ n → OV (InW w) w v o → o.wt ≤ 4611686018427387904 → d ≤ 1000 →
    Ret Tryz.prog 102 #[v, .int .i64 (d : Int)] w (fun v w' => v = .int .i64 (Vl.check d o) ∧ Below w.heap.size w w') := by
  induction n with
  | zero => intro o v d w h; have := o.wt_pos; omega
  | succ n ih =>
  intro o v d w hn hov hb hd
  obtain ⟨vk, vc, cs, rfl, ha⟩ := hov.open
  refine ret_of fun K hK => S_foliantref05_check_ok ?_
  unfold S_foliantref05_check
  refine o_obb o ha.keys.one ha.kids.one (Own.start w) fun b w1 ho => ?_
  simp only [rs]
  have out : ∀ (e : Int) (W : World) (L : List Ent), Own w W L → Vl.why d o = e → e ≠ 0 → K (.returned (.int .i64 e)) W := by
    intro e W L ho h1 h2
    exact hK _ _ ⟨by rw [why_pos (by rw [h1]; exact h2), h1], ho.done⟩
  by_cases h24 : (24 : Int) < (d : Int)
  · simp only [h24, decide_true, i_t]
    exact out 7 w1 _ ho (by rw [Vl.why, if_pos (by omega)]) (by decide)
  simp only [h24, decide_false, i_f, ob_v ho 0 rfl]
  refine c_told (ruses05_ret o _ w1 (ha.in_ ho).ov) rfl ho fun w2 ho => ?_
  have h24' : ¬ 24 < d := by omega
  cases hu : Vl.usesOk o with
  | false =>
    simp only [rs, Bool.not_false, g_un]
    exact out 10 w2 _ ho (by rw [Vl.why, if_neg h24', if_pos (.inl hu)]) (by decide)
  | true =>
  have hst : (o.k = 9 ∧ 1 < d) ∨ ¬ (o.k = 9 ∧ 1 < d) := by by_cases h : (o.k = 9 ∧ 1 < d) <;> simp [h]
  have hgt : ∀ (A B : Prop), (o.k = 9 ∧ 1 < d → A) → (¬ (o.k = 9 ∧ 1 < d) → B) → IfX (.bool (decide (o.k = 9) && decide ((1 : Int) < (d : Int)))) A B := by
    intro A B hA hB
    by_cases h : (o.k = 9 ∧ 1 < d)
    · have e : (decide (o.k = 9) && decide ((1 : Int) < (d : Int))) = true := by simp [h.1]; omega
      rw [e, i_t]; exact hA h
    · have e : (decide (o.k = 9) && decide ((1 : Int) < (d : Int))) = false := by
        rw [Bool.and_eq_false_iff]
        by_cases h9 : o.k = 9
        · right; rw [decide_eq_false_iff_not]; intro h1; exact h ⟨h9, by omega⟩
        · left; exact decide_eq_false h9
      rw [e, i_f]; exact hB h
  simp +contextual only [rs, gs, Bool.not_true, fa_o0, ob_k ho 0 rfl]
  refine hgt _ _ (fun h9 => ?_) fun h9 => ?_
  · exact out 10 w2 _ ho (by rw [Vl.why, if_neg h24', if_pos (.inr h9)]) (by decide)
  have hno : ¬ (Vl.usesOk o = false ∨ (o.k = 9 ∧ 1 < d)) := by
    rintro (h | h)
    · rw [hu] at h; cases h
    · exact h9 h
  rw [ob_v ho 0 rfl]
  refine c_told (rfits_ret o _ w2 (ha.in_ ho).ov) rfl ho fun w3 ho => ?_
  cases hfi : Vl.fits o with
  | false =>
    simp only [rs, Bool.not_false]
    exact out 2 w3 _ ho (by rw [Vl.why, if_neg h24', if_neg hno, if_pos hfi]) (by decide)
  | true =>
  have hfi' : ¬ Vl.fits o = false := by rw [hfi]; decide
  simp only [rs, Bool.not_true]
  refine quiet ?_
  refine q_do _ (fun _ => run_fa fo_o3) ?_
  refine q_at (.string ⟨o.s.toArray⟩) (fun W hW => run_load_cell nStr5 ((ho.grow hW).cell 0 rfl 3 rfl)) ?_
  refine q_slen Tryz.underlying9 ?_
  refine q_do _ (fun _ => run_fa fo_o0) ?_
  refine q_at (.int .i64 o.k) (fun W hW => run_load_cell nInt5 ((ho.grow hW).cell 0 rfl 0 rfl)) ?_
  refine q_call _ (fun W hW => ret_same (rlong5_ret o.k W) hW) ?_
  refine q_gtr ?_
  intro w4 hW
  have ho := ho.grow hW
  by_cases hlo : ((Vl.long o.k : Nat) : Int) < (o.s.length : Int)
  · simp only [hlo, decide_true, i_t]
    exact out 5 w4 _ ho (by rw [Vl.why, if_neg h24', if_neg hno, if_neg hfi', if_pos (by omega)]) (by decide)
  have hlo' : ¬ Vl.long o.k < o.s.length := by omega
  have lc : ∀ {W : World} {L : List Ent}, Own w W L → ∀ {PK : List PanicEntry → World → Prop} {K : Value → World → Prop}, DoX Tryz.prog (mB .len #[23] 3 #[false] #[vc]) W PK K = K (.int .i64 (o.kids.length : Int)) W := fun ho => sl_len Tryz.underlying23 (ha.own ho).kids.1
  simp only [hlo, decide_false, i_f, fa_o5, ob_kids ho 0 rfl, lc ho, rs]
  by_cases hmany : (8191 : Int) < (o.kids.length : Int)
  · simp only [hmany, decide_true, i_t]
    exact out 6 w4 _ ho (by rw [Vl.why, if_neg h24', if_neg hno, if_neg hfi', if_neg hlo', if_pos (by omega)]) (by decide)
  have hmany' : ¬ 8191 < o.kids.length := by omega
  simp only [hmany, decide_false, i_f, ob_v ho 0 rfl]
  refine c_told (rkeys_ret o _ w4 (ha.in_ ho).ov (by have := s_len05 (o := o); omega) (by have := key_len (o := o); omega) (fun k hk => by have := keys_mem hk; omega)) rfl ho fun w5 ho => ?_
  cases hfo : Vl.form o with
  | false =>
    simp only [rs, Bool.not_false]
    exact out 3 w5 _ ho (by rw [Vl.why, if_neg h24', if_neg hno, if_neg hfi', if_neg hlo', if_neg hmany', if_pos hfo]) (by decide)
  | true =>
  have hfo' : ¬ Vl.form o = false := by rw [hfo]; decide
  have hw0 : Vl.why d o = 0 := by rw [Vl.why, if_neg h24', if_neg hno, if_neg hfi', if_neg hlo', if_neg hmany', if_neg hfo']
  have hch : Vl.check d o = Vl.checks (d + 1) o.kids := by rw [Vl.check_eq, if_neg (by simp [hw0])]
  rw [hch] at hK
  simp only [rs, Bool.not_true, ob_kids ho 0 rfl, lc ho]
  refine loop (fun vs w' => ∃ (i : Nat), vs = [.int .i64 i] ∧ i ≤ o.kids.length ∧ Vl.checks (d + 1) o.kids = Vl.checks (d + 1) (o.kids.drop i) ∧ Own w w' [obE b o vk vc]) (fun vs _ => o.kids.length - n0 vs) ⟨0, rfl, by omega, rfl, ho⟩ ?_
  rintro vs w6 ⟨i, rfl, hi, hT, ho⟩ _
  rw [hT] at hK
  simp only [S_foliantref05_check_0, gd, rs]
  by_cases hlt : (i : Int) < (o.kids.length : Int)
  · have hi' : i < o.kids.length := by omega
    simp only [hlt, decide_true, i_t]
    rw [checks_drop _ _ _ hi'] at hK hT
    have hai := ha.own ho
    refine ob_ia hai.kids.1 hai.all hi' fun v hv => ?_
    obtain ⟨vk', vc', cs', rfl, hkid⟩ := hv.open
    have ho6 := ho
    refine o_oba ho fun b7 w7 ho => ?_
    refine ob_put 0 hkid.keys.one hkid.kids.one ho rfl fun w8 ho => ?_
    have ho : Own w w8 [obE b7 o.kids[i] vk' vc', obE b o vk vc] := ho
    rw [ob_v ho 0 rfl, wrap64_id (by omega) (by omega), show (d : Int) + 1 = ((d + 1 : Nat) : Int) by omega]
    have hkw := kid_wt hi'
    refine c_told (ih o.kids[i] _ (d + 1) w8 (by omega) (hkid.later ho6 ho).ov (by omega) (by omega)) rfl ho fun w9 ho => ?_
    simp only [rs]
    by_cases hc0 : Vl.check (d + 1) o.kids[i] = 0
    · simp only [hc0, ne_eq, not_true, decide_false, i_f]
      rw [wrap64_id (by omega) (by omega)]
      rw [if_neg (by simp [hc0])] at hT
      exact nextX ⟨i + 1, rfl, by omega, hT, ho.tail⟩ (by simp [n0, intOf]; omega)
    · simp only [hc0, ne_eq, not_false_eq_true, decide_true, i_t]
      rw [if_pos hc0] at hK
      exact hK _ _ ⟨rfl, ho.done⟩
  · simp only [hlt, decide_false, i_f]
    rw [List.drop_of_length_le (by omega), Vl.checks] at hK
    exact hK _ _ ⟨rfl, ho.done⟩
theorem rCheck05_ret (o : Ob) (v : Value) (w : World) (h : OV (InW w) w v o) (hb : o.wt ≤ 4611686018427387904) : Ret Tryz.prog 49 #[v] w (fun v w' => v = .int .i64 (Vl.check 1 o) ∧ Below w.heap.size w w') := by
  obtain ⟨vk, vc, cs, rfl, ha⟩ := h.open
  refine ret_of fun K hK => S_foliantref05_Check_ok ?_
  unfold S_foliantref05_Check
  refine o_obb o ha.keys.one ha.kids.one (Own.start w) fun b w1 ho => ?_
  rw [ob_v ho 0 rfl]
  refine c_told (rcheck05_ret o.wt o _ 1 w1 (Nat.le_refl _) (ha.in_ ho).ov hb (by omega)) rfl ho fun w2 ho => ?_
  exact hK _ _ ⟨rfl, ho.done⟩
theorem sizes_drop (l : List Ob) (i : Nat) (hi : i < l.length) : Vl.sizes (l.take (i + 1)) = Vl.sizes (l.take i) + Vl.size l[i] := by
  have h : ∀ (l : List Ob) (o : Ob), Vl.sizes (l ++ [o]) = Vl.sizes l + Vl.size o := by
    intro l o
    induction l with
    | nil => simp [Vl.sizes]
    | cons a l ih => rw [List.cons_append, Vl.sizes, ih, Vl.sizes]; omega
  rw [List.take_succ_eq_append_getElem hi, h]
theorem sizes_take (l : List Ob) (i : Nat) : Vl.sizes (l.take i) ≤ Vl.sizes l := by
  induction l generalizing i with
  | nil => simp
  | cons a l ih =>
    cases i with
    | zero => simp [Vl.sizes]
    | succ i => rw [List.take_succ_cons, Vl.sizes, Vl.sizes]; have := ih i; omega
theorem rsize_ret (n : Nat) : ∀ (o : Ob) (v : Value) (w : World), o.wt ≤ n → OV (InW w) w v o → o.wt ≤ 4611686018427387904 →
    Ret Tryz.prog 11 #[v] w (fun v w' => v = .int .i64 (Vl.size o : Nat) ∧ Below w.heap.size w w') := by
  induction n with
  | zero => intro o v w h; have := o.wt_pos; omega
  | succ n ih =>
  intro o v w hn hov hb
  obtain ⟨vk, vc, cs, rfl, ha⟩ := hov.open
  refine ret_of fun K hK => S_foliantref05_Size_ok ?_
  unfold S_foliantref05_Size
  refine o_obb o ha.keys.one ha.kids.one (Own.start w) fun b w1 ho => ?_
  have hsl := s_len05 (o := o)
  have hkl := key_len (o := o)
  have hcl := kids_len (o := o)
  have hsz := Vl.size_wt o
  have htd : ∀ m : Nat, (m : Int).tdiv 50 = ((m / 50 : Nat) : Int) := fun m => by rw [Int.tdiv_eq_ediv_of_nonneg (by omega)]; omega
  have lk : ∀ {W : World} {L : List Ent}, Own w W L → ∀ {PK : List PanicEntry → World → Prop} {K : Value → World → Prop}, DoX Tryz.prog (mB .len #[22] 3 #[false] #[vk]) W PK K = K (.int .i64 (o.keys.length : Int)) W := fun ho => sl_len Tryz.underlying22 (ha.own ho).keys.1
  have lc : ∀ {W : World} {L : List Ent}, Own w W L → ∀ {PK : List PanicEntry → World → Prop} {K : Value → World → Prop}, DoX Tryz.prog (mB .len #[23] 3 #[false] #[vc]) W PK K = K (.int .i64 (o.kids.length : Int)) W := fun ho => sl_len Tryz.underlying23 (ha.own ho).kids.1
  rw [fa_o3, ob_s ho 0 rfl, s_len Tryz.underlying9, b_quo (by decide), htd, wrap64_id (by omega) (by omega), b_add, wrap64_id (by omega) (by omega), fa_o4, ob_keys ho 0 rfl, lk ho]
  have ht50 : ∀ i, ((o.keys.take i).map fun k => k.length / 50).sum ≤ (o.keys.map fun k => k.length / 50).sum := by
    intro i
    conv => rhs; rw [← List.take_append_drop i o.keys, List.map_append, List.sum_append]
    omega
  have hse := Vl.size_eq o
  refine loop (fun vs w' => ∃ (i : Nat) (m : Int), vs = [.int .i64 m, .int .i64 i] ∧ i ≤ o.keys.length ∧ m = ((1 + o.s.length / 50 + ((o.keys.take i).map fun k => k.length / 50).sum : Nat) : Int) ∧ Own w w' [obE b o vk vc]) (fun vs _ => o.keys.length - n1 vs) ⟨0, _, rfl, by omega, by simp, ho⟩ ?_
  rintro vs w2 ⟨i, m, rfl, hi, rfl, ho⟩ _
  have h5i := ht50 i
  simp only [S_foliantref05_Size_0, gd, rs]
  by_cases hlt : (i : Int) < (o.keys.length : Int)
  · have hi' : i < o.keys.length := by omega
    simp only [hlt, decide_true, i_t]
    refine sl_ia1 (.string ⟨(o.keys[i]).toArray⟩) Tryz.underlying22 (by kernel_rfl) (ha.own ho).keys.1 (by omega) (by rw [Int.toNat_natCast]; exact strsV_get hi') fun q hq => ?_
    have hkm := keys_mem (List.getElem_mem hi')
    have h5s := ht50 (i + 1)
    have hss : ((o.keys.take (i + 1)).map fun k => k.length / 50).sum = ((o.keys.take i).map fun k => k.length / 50).sum + o.keys[i].length / 50 := by
      rw [List.take_succ_eq_append_getElem hi', List.map_append, List.sum_append]; simp
    rw [l_cell nStr5 hq, s_len Tryz.underlying9, b_quo (by decide), htd, wrap64_id (n := ((o.keys[i].length / 50 : Nat) : Int)) (by omega) (by omega)]
    simp only [rs]
    rw [wrap64_id (by omega) (by omega), wrap64_id (by omega) (by omega)]
    exact nextX ⟨i + 1, _, rfl, by omega, by rw [hss]; omega, ho⟩ (by simp [n1, intOf]; omega)
  simp only [hlt, decide_false, i_f, fa_o5, ob_kids ho 0 rfl, lc ho]
  have hik : i = o.keys.length := by omega
  subst hik
  rw [List.take_length]
  refine loop (fun vs w' => ∃ (i : Nat) (m : Int), vs = [.int .i64 m, .int .i64 i] ∧ i ≤ o.kids.length ∧ m = ((1 + o.s.length / 50 + (o.keys.map fun k => k.length / 50).sum + Vl.sizes (o.kids.take i) : Nat) : Int) ∧ Own w w' [obE b o vk vc]) (fun vs _ => o.kids.length - n1 vs) ⟨0, _, rfl, by omega, by simp [Vl.sizes], ho⟩ ?_
  rintro vs w3 ⟨i, m, rfl, hi2, rfl, ho⟩ _
  simp only [S_foliantref05_Size_1, gd, rs]
  have hst := sizes_take o.kids i
  by_cases hlt : (i : Int) < (o.kids.length : Int)
  · have hi' : i < o.kids.length := by omega
    simp only [hlt, decide_true, i_t]
    have hai := ha.own ho
    refine ob_ia hai.kids.1 hai.all hi' fun v hv => ?_
    obtain ⟨vk', vc', cs', rfl, hkid⟩ := hv.open
    have ho6 := ho
    refine o_oba ho fun b7 w7 ho => ?_
    refine ob_put 0 hkid.keys.one hkid.kids.one ho rfl fun w8 ho => ?_
    have ho : Own w w8 [obE b7 o.kids[i] vk' vc', obE b o vk vc] := ho
    rw [ob_v ho 0 rfl]
    have hkw := kid_wt hi'
    refine c_told (ih o.kids[i] _ w8 (by omega) (hkid.later ho6 ho).ov (by omega)) rfl ho fun w9 ho => ?_
    have hsd := sizes_drop o.kids i hi'
    have hst2 := sizes_take o.kids (i + 1)
    simp only [rs]
    rw [wrap64_id (by omega) (by omega), wrap64_id (by omega) (by omega)]
    exact nextX ⟨i + 1, _, rfl, by omega, by rw [hsd]; omega, ho.tail⟩ (by simp [n1, intOf]; omega)
  · simp only [hlt, decide_false, i_f]
    rw [List.take_of_length_le (by omega)]
    refine hK _ _ ⟨?_, ho.done⟩
    rw [hse]
end Go.Proofs.YtiklhhdohckfiaaGreatDoor
namespace Go.Proofs.YtiklhhdohckfiaaGreatDoor
set_option linter.unusedVariables false
set_option linter.unusedSimpArgs false
set_option linter.defProp false
set_option linter.unusedVariables false
set_option maxRecDepth 20000
open Eng

def S_value_within_int64 (t0 t1 t2 : Value) (w : World) (K : Ending → World → Prop) : Prop :=
 DoX Tryz.prog (mBin .leq 2 t1 t0) w (pk K) fun t9 w =>
 GDo t9 true (fun E => E t0 w) w fun t11 w =>
 GDo t9 true (fun E => E t2 w) w fun t12 w =>
 GDo t9 true (fun E => DoX Tryz.prog (mBin .leq 2 t11 t12) w (pk K) E) w fun t13 w =>
 DoX Tryz.prog (mPick t9 t13 (.bool false)) w (pk K) fun t14 w =>
 K (.returned t14) w
theorem S_value_within_int64_eq (t0 t1 t2 : Value) (w : World) (K : Ending → World → Prop) : wpX Tryz.prog 15 [] [] none (bodyOf Tryz.f205) (topQ Tryz.prog [.tmp 6] K) (startX [t0, t1, t2]) [] w = S_value_within_int64 t0 t1 t2 w K := by kernel_rfl
theorem S_value_within_int64_ok {t0 t1 t2 : Value} {w : World} {K : Ending → World → Prop} (h : S_value_within_int64 t0 t1 t2 w K) : Calls Tryz.prog 205 #[t0, t1, t2] w K :=
  calls_of_wpX Tryz.func205 rfl rfl rfl rfl (Eq.mpr (S_value_within_int64_eq t0 t1 t2 w K) h)

def S_value_within_int (t0 t1 t2 : Value) (w : World) (K : Ending → World → Prop) : Prop :=
 DoX Tryz.prog (mBin .leq 3 t1 t0) w (pk K) fun t9 w =>
 GDo t9 true (fun E => E t0 w) w fun t11 w =>
 GDo t9 true (fun E => E t2 w) w fun t12 w =>
 GDo t9 true (fun E => DoX Tryz.prog (mBin .leq 3 t11 t12) w (pk K) E) w fun t13 w =>
 DoX Tryz.prog (mPick t9 t13 (.bool false)) w (pk K) fun t14 w =>
 K (.returned t14) w
theorem S_value_within_int_eq (t0 t1 t2 : Value) (w : World) (K : Ending → World → Prop) : wpX Tryz.prog 15 [] [] none (bodyOf Tryz.f206) (topQ Tryz.prog [.tmp 6] K) (startX [t0, t1, t2]) [] w = S_value_within_int t0 t1 t2 w K := by kernel_rfl
theorem S_value_within_int_ok {t0 t1 t2 : Value} {w : World} {K : Ending → World → Prop} (h : S_value_within_int t0 t1 t2 w K) : Calls Tryz.prog 206 #[t0, t1, t2] w K :=
  calls_of_wpX Tryz.func206 rfl rfl rfl rfl (Eq.mpr (S_value_within_int_eq t0 t1 t2 w K) h)

def S_value_key (t0 : Value) (w : World) (K : Ending → World → Prop) : Prop :=
 DoX Tryz.prog (mB .len #[9] 3 #[false] #[t0]) w (pk K) fun t4 w =>
 DoX Tryz.prog (mBin .leq 3 t4 (.int .i64 127)) w (pk K) fun t5 w =>
 GDo t5 true (fun E => E t0 w) w fun t7 w =>
 GDo t5 true (fun E => CallX Tryz.prog 162 #[t7, (.int .u8 0)] w (pk K) E) w fun t8 w =>
 GDo t5 true (fun E => DoX Tryz.prog (mBin .lss 3 t8 (.int .i64 0)) w (pk K) E) w fun t9 w =>
 DoX Tryz.prog (mPick t5 t9 (.bool false)) w (pk K) fun t10 w =>
 K (.returned t10) w
theorem S_value_key_eq (t0 : Value) (w : World) (K : Ending → World → Prop) : wpX Tryz.prog 11 [] [] none (bodyOf Tryz.f156) (topQ Tryz.prog [.tmp 2] K) (startX [t0]) [] w = S_value_key t0 w K := by kernel_rfl
theorem S_value_key_ok {t0 : Value} {w : World} {K : Ending → World → Prop} (h : S_value_key t0 w K) : Calls Tryz.prog 156 #[t0] w K :=
  calls_of_wpX Tryz.func156 rfl rfl rfl rfl (Eq.mpr (S_value_key_eq t0 w K) h)

def S_value_rising_0 (t1 t13 t14 t15 : Value) (w : World) (N1 : List Value → World → Prop) (K : Ending → World → Prop) : Prop :=
 DoX Tryz.prog (mBin .lss 3 t15 t14) w (pk K) fun t16 w =>
 IfX t16 (DoX Tryz.prog (mIA 22 t13 t15) w (pk K) fun t18 w =>
 DoX Tryz.prog (mLoad 9 t18) w (pk K) fun t19 w =>
 CallX Tryz.prog 156 #[t19] w (pk K) fun t21 w =>
 DoX Tryz.prog (mUn .not t21) w (pk K) fun t22 w =>
 GDo t22 false (fun E => E t15 w) w fun t24 w =>
 GDo t22 false (fun E => DoX Tryz.prog (mBin .gtr 3 t24 (.int .i64 0)) w (pk K) E) w fun t25 w =>
 GDo t22 false (fun E => E t25 w) w fun t26 w =>
 GDo t26 true (fun E => DoX Tryz.prog (mFA 25 t1 4) w (pk K) E) w fun t27 w =>
 GDo t26 true (fun E => DoX Tryz.prog (mLoad 22 t27) w (pk K) E) w fun t28 w =>
 GDo t26 true (fun E => E t15 w) w fun t29 w =>
 GDo t26 true (fun E => DoX Tryz.prog (mBin .sub 3 t29 (.int .i64 1)) w (pk K) E) w fun t30 w =>
 GDo t26 true (fun E => DoX Tryz.prog (mIA 22 t28 t30) w (pk K) E) w fun t31 w =>
 GDo t26 true (fun E => DoX Tryz.prog (mLoad 9 t31) w (pk K) E) w fun t32 w =>
 GDo t26 true (fun E => E t19 w) w fun t33 w =>
 GDo t26 true (fun E => DoX Tryz.prog (mBin .geq 9 t32 t33) w (pk K) E) w fun t34 w =>
 GDo t22 false (fun E => DoX Tryz.prog (mPick t26 t34 (.bool false)) w (pk K) E) w fun t35 w =>
 DoX Tryz.prog (mPick t22 (.bool true) t35) w (pk K) fun t36 w =>
 GDo t36 false (fun E => DoX Tryz.prog (mFA 25 t1 0) w (pk K) E) w fun t38 w =>
 GDo t36 false (fun E => DoX Tryz.prog (mLoad 3 t38) w (pk K) E) w fun t39 w =>
 GDo t36 false (fun E => DoX Tryz.prog (mEq .eql 3 (.tmp 39) (.const (.int .i64 9)) t39 (.int .i64 9)) w (pk K) E) w fun t40 w =>
 GDo t36 false (fun E => E t40 w) w fun t41 w =>
 GDo t41 true (fun E => E t19 w) w fun t42 w =>
 GDo t41 true (fun E => DoX Tryz.prog (mEq .eql 9 (.tmp 42) (.const (.string ⟨#[76, 101, 110, 103, 116, 104]⟩)) t42 (.string ⟨#[76, 101, 110, 103, 116, 104]⟩)) w (pk K) E) w fun t43 w =>
 GDo t36 false (fun E => DoX Tryz.prog (mPick t41 t43 (.bool false)) w (pk K) E) w fun t44 w =>
 DoX Tryz.prog (mPick t36 (.bool true) t44) w (pk K) fun t45 w =>
 GDo t45 false (fun E => DoX Tryz.prog (mFA 25 t1 5) w (pk K) E) w fun t47 w =>
 GDo t45 false (fun E => DoX Tryz.prog (mLoad 23 t47) w (pk K) E) w fun t48 w =>
 GDo t45 false (fun E => E t15 w) w fun t49 w =>
 GDo t45 false (fun E => DoX Tryz.prog (mIA 23 t48 t49) w (pk K) E) w fun t50 w =>
 GDo t45 false (fun E => DoX Tryz.prog (mFA 25 t50 0) w (pk K) E) w fun t51 w =>
 GDo t45 false (fun E => DoX Tryz.prog (mLoad 3 t51) w (pk K) E) w fun t52 w =>
 GDo t45 false (fun E => DoX Tryz.prog (mEq .eql 3 (.tmp 52) (.const (.int .i64 0)) t52 (.int .i64 0)) w (pk K) E) w fun t53 w =>
 DoX Tryz.prog (mPick t45 (.bool true) t53) w (pk K) fun t54 w =>
 IfX t54 (K (.returned (.bool false)) w) (DoX Tryz.prog (mBin .add 3 t15 (.int .i64 1)) w (pk K) fun t55 w =>
 N1 [t55] w)) (K (.returned (.bool true)) w)
def S_value_rising (t0 : Value) (w : World) (K : Ending → World → Prop) : Prop :=
 DoX Tryz.prog (mBox 25 t0) w (pk K) fun t1 w =>
 DoX Tryz.prog (mFA 25 t1 4) w (pk K) fun t5 w =>
 DoX Tryz.prog (mLoad 22 t5) w (pk K) fun t6 w =>
 DoX Tryz.prog (mB .len #[22] 3 #[false] #[t6]) w (pk K) fun t7 w =>
 DoX Tryz.prog (mFA 25 t1 5) w (pk K) fun t8 w =>
 DoX Tryz.prog (mLoad 23 t8) w (pk K) fun t9 w =>
 DoX Tryz.prog (mB .len #[23] 3 #[false] #[t9]) w (pk K) fun t10 w =>
 DoX Tryz.prog (mEq .neq 3 (.tmp 7) (.tmp 10) t7 t10) w (pk K) fun t11 w =>
 IfX t11 (K (.returned (.bool false)) w) (DoX Tryz.prog (mFA 25 t1 4) w (pk K) fun t12 w =>
 DoX Tryz.prog (mLoad 22 t12) w (pk K) fun t13 w =>
 DoX Tryz.prog (mB .len #[22] 3 #[false] #[t13]) w (pk K) fun t14 w =>
 LoopX [(.int .i64 0)] w (fun vs1 w N1 => ∀ _ : Sg, S_value_rising_0 t1 t13 t14 (vs1.getD 0 undef) w N1 K))
theorem S_value_rising_eq (t0 : Value) (w : World) (K : Ending → World → Prop) : wpX Tryz.prog 56 [] [(4, [15])] none (bodyOf Tryz.f157) (topQ Tryz.prog [.tmp 2] K) (startX [t0]) [] w = S_value_rising t0 w K := by kernel_rfl
theorem S_value_rising_ok {t0 : Value} {w : World} {K : Ending → World → Prop} (h : S_value_rising t0 w K) : Calls Tryz.prog 157 #[t0] w K :=
  calls_of_wpX Tryz.func157 rfl rfl rfl rfl (Eq.mpr (S_value_rising_eq t0 w K) h)

def S_value_fits (t0 : Value) (w : World) (K : Ending → World → Prop) : Prop :=
 DoX Tryz.prog (mBox 25 t0) w (pk K) fun t1 w =>
 DoX Tryz.prog (mFA 25 t1 0) w (pk K) fun t3 w =>
 DoX Tryz.prog (mLoad 3 t3) w (pk K) fun t4 w =>
 DoX Tryz.prog (mEq .eql 3 (.tmp 4) (.const (.int .i64 1)) t4 (.int .i64 1)) w (pk K) fun t6 w =>
 IfX t6 (DoX Tryz.prog (mFA 25 t1 1) w (pk K) fun t7 w =>
 DoX Tryz.prog (mLoad 2 t7) w (pk K) fun t8 w =>
 CallX Tryz.prog 205 #[t8, (.int .i64 0), (.int .i64 1)] w (pk K) fun t9 w =>
 K (.returned t9) w) (DoX Tryz.prog (mEq .eql 3 (.tmp 4) (.const (.int .i64 2)) t4 (.int .i64 2)) w (pk K) fun t11 w =>
 IfX t11 (DoX Tryz.prog (mFA 25 t1 1) w (pk K) fun t12 w =>
 DoX Tryz.prog (mLoad 2 t12) w (pk K) fun t13 w =>
 CallX Tryz.prog 205 #[t13, (.int .i64 (-2147483647)), (.int .i64 2147483647)] w (pk K) fun t14 w =>
 K (.returned t14) w) (DoX Tryz.prog (mEq .eql 3 (.tmp 4) (.const (.int .i64 3)) t4 (.int .i64 3)) w (pk K) fun t16 w =>
 IfX t16 (DoX Tryz.prog (mFA 25 t1 1) w (pk K) fun t17 w =>
 DoX Tryz.prog (mLoad 2 t17) w (pk K) fun t18 w =>
 CallX Tryz.prog 205 #[t18, (.int .i64 (-1073741824)), (.int .i64 1073741824)] w (pk K) fun t19 w =>
 K (.returned t19) w) (DoX Tryz.prog (mEq .eql 3 (.tmp 4) (.const (.int .i64 8)) t4 (.int .i64 8)) w (pk K) fun t21 w =>
 IfX t21 (DoX Tryz.prog (mFA 25 t1 1) w (pk K) fun t22 w =>
 DoX Tryz.prog (mLoad 2 t22) w (pk K) fun t23 w =>
 CallX Tryz.prog 205 #[t23, (.int .i64 1), (.int .i64 8191)] w (pk K) fun t24 w =>
 GDo t24 true (fun E => DoX Tryz.prog (mFA 25 t1 2) w (pk K) E) w fun t26 w =>
 GDo t24 true (fun E => DoX Tryz.prog (mLoad 3 t26) w (pk K) E) w fun t27 w =>
 GDo t24 true (fun E => CallX Tryz.prog 206 #[t27, (.int .i64 0), (.int .i64 65535)] w (pk K) E) w fun t28 w =>
 DoX Tryz.prog (mPick t24 t28 (.bool false)) w (pk K) fun t29 w =>
 K (.returned t29) w) (K (.returned (.bool true)) w))))
theorem S_value_fits_eq (t0 : Value) (w : World) (K : Ending → World → Prop) : wpX Tryz.prog 30 [] [] none (bodyOf Tryz.f154) (topQ Tryz.prog [.tmp 2] K) (startX [t0]) [] w = S_value_fits t0 w K := by kernel_rfl
theorem S_value_fits_ok {t0 : Value} {w : World} {K : Ending → World → Prop} (h : S_value_fits t0 w K) : Calls Tryz.prog 154 #[t0] w K :=
  calls_of_wpX Tryz.func154 rfl rfl rfl rfl (Eq.mpr (S_value_fits_eq t0 w K) h)

def S_value_short (t0 : Value) (w : World) (K : Ending → World → Prop) : Prop :=
 DoX Tryz.prog (mBox 25 t0) w (pk K) fun t1 w =>
 DoX Tryz.prog (mFA 25 t1 0) w (pk K) fun t3 w =>
 DoX Tryz.prog (mLoad 3 t3) w (pk K) fun t4 w =>
 DoX Tryz.prog (mEq .eql 3 (.tmp 4) (.const (.int .i64 4)) t4 (.int .i64 4)) w (pk K) fun t6 w =>
 IfX t6 (DoX Tryz.prog (mFA 25 t1 3) w (pk K) fun t7 w =>
 DoX Tryz.prog (mLoad 9 t7) w (pk K) fun t8 w =>
 DoX Tryz.prog (mB .len #[9] 3 #[false] #[t8]) w (pk K) fun t9 w =>
 DoX Tryz.prog (mBin .leq 3 t9 (.int .i64 32767)) w (pk K) fun t10 w =>
 K (.returned t10) w) (DoX Tryz.prog (mEq .eql 3 (.tmp 4) (.const (.int .i64 5)) t4 (.int .i64 5)) w (pk K) fun t12 w =>
 IfX t12 (DoX Tryz.prog (mFA 25 t1 3) w (pk K) fun t13 w =>
 DoX Tryz.prog (mLoad 9 t13) w (pk K) fun t14 w =>
 DoX Tryz.prog (mB .len #[9] 3 #[false] #[t14]) w (pk K) fun t15 w =>
 DoX Tryz.prog (mBin .leq 3 t15 (.int .i64 127)) w (pk K) fun t16 w =>
 K (.returned t16) w) (DoX Tryz.prog (mFA 25 t1 3) w (pk K) fun t17 w =>
 DoX Tryz.prog (mLoad 9 t17) w (pk K) fun t18 w =>
 DoX Tryz.prog (mB .len #[9] 3 #[false] #[t18]) w (pk K) fun t19 w =>
 DoX Tryz.prog (mBin .leq 3 t19 (.int .i64 1048576)) w (pk K) fun t20 w =>
 K (.returned t20) w))
theorem S_value_short_eq (t0 : Value) (w : World) (K : Ending → World → Prop) : wpX Tryz.prog 21 [] [] none (bodyOf Tryz.f155) (topQ Tryz.prog [.tmp 2] K) (startX [t0]) [] w = S_value_short t0 w K := by kernel_rfl
theorem S_value_short_ok {t0 : Value} {w : World} {K : Ending → World → Prop} (h : S_value_short t0 w K) : Calls Tryz.prog 155 #[t0] w K :=
  calls_of_wpX Tryz.func155 rfl rfl rfl rfl (Eq.mpr (S_value_short_eq t0 w K) h)

def S_value_used_1 (t2 t4 t13 : Value) (w : World) (K : Ending → World → Prop) : Prop :=
 IfX t13 (DoX Tryz.prog (mBuild 159 #[(2, (.bool true))]) w (pk K) fun t16 w =>
 DoX Tryz.prog (mStore 159 t2 t16) w (pk K) fun _ w =>
 RetX Tryz.prog [.cell t2 159, .val (.bool true)] w K) (DoX Tryz.prog (mEq .eql 3 (.tmp 4) (.const (.int .i64 6)) t4 (.int .i64 6)) w (pk K) fun t18 w =>
 IfX t18 (DoX Tryz.prog (mBuild 159 #[(4, (.bool true))]) w (pk K) fun t19 w =>
 DoX Tryz.prog (mStore 159 t2 t19) w (pk K) fun _ w =>
 RetX Tryz.prog [.cell t2 159, .val (.bool true)] w K) (DoX Tryz.prog (mEq .eql 3 (.tmp 4) (.const (.int .i64 7)) t4 (.int .i64 7)) w (pk K) fun t21 w =>
 IfX t21 (DoX Tryz.prog (mBuild 159 #[(3, (.bool true)), (4, (.bool true))]) w (pk K) fun t22 w =>
 DoX Tryz.prog (mStore 159 t2 t22) w (pk K) fun _ w =>
 RetX Tryz.prog [.cell t2 159, .val (.bool true)] w K) (DoX Tryz.prog (mEq .eql 3 (.tmp 4) (.const (.int .i64 8)) t4 (.int .i64 8)) w (pk K) fun t24 w =>
 IfX t24 (DoX Tryz.prog (mBuild 159 #[(0, (.bool true)), (1, (.bool true))]) w (pk K) fun t25 w =>
 DoX Tryz.prog (mStore 159 t2 t25) w (pk K) fun _ w =>
 RetX Tryz.prog [.cell t2 159, .val (.bool true)] w K) (DoX Tryz.prog (mEq .eql 3 (.tmp 4) (.const (.int .i64 9)) t4 (.int .i64 9)) w (pk K) fun t27 w =>
 IfX t27 (DoX Tryz.prog (mBuild 159 #[(2, (.bool true)), (3, (.bool true)), (4, (.bool true))]) w (pk K) fun t28 w =>
 DoX Tryz.prog (mStore 159 t2 t28) w (pk K) fun _ w =>
 RetX Tryz.prog [.cell t2 159, .val (.bool true)] w K) (DoX Tryz.prog (mBuild 159 #[]) w (pk K) fun t29 w =>
 DoX Tryz.prog (mStore 159 t2 t29) w (pk K) fun _ w =>
 RetX Tryz.prog [.cell t2 159, .val (.bool false)] w K)))))
def S_value_used_0 (t2 t4 t8 : Value) (w : World) (K : Ending → World → Prop) : Prop :=
 IfX t8 (DoX Tryz.prog (mBuild 159 #[(0, (.bool true))]) w (pk K) fun t12 w =>
 DoX Tryz.prog (mStore 159 t2 t12) w (pk K) fun _ w =>
 RetX Tryz.prog [.cell t2 159, .val (.bool true)] w K) (JoinX (fun J2 =>
 DoX Tryz.prog (mEq .eql 3 (.tmp 4) (.const (.int .i64 4)) t4 (.int .i64 4)) w (pk K) fun t14 w =>
 IfX t14 (J2 [t14] w) (DoX Tryz.prog (mEq .eql 3 (.tmp 4) (.const (.int .i64 5)) t4 (.int .i64 5)) w (pk K) fun t15 w =>
 J2 [t15] w)) (fun vs2 w => ∀ _ : Sg, S_value_used_1 t2 t4 (vs2.getD 0 undef) w K))
def S_value_used (t0 : Value) (w : World) (K : Ending → World → Prop) : Prop :=
 DoX Tryz.prog (mAlloc 159) w (pk K) fun t2 w =>
 DoX Tryz.prog (mEq .eql 3 (.tmp 4) (.const (.int .i64 0)) t0 (.int .i64 0)) w (pk K) fun t6 w =>
 IfX t6 (DoX Tryz.prog (mBuild 159 #[]) w (pk K) fun t7 w =>
 DoX Tryz.prog (mStore 159 t2 t7) w (pk K) fun _ w =>
 RetX Tryz.prog [.cell t2 159, .val (.bool true)] w K) (JoinX (fun J1 =>
 DoX Tryz.prog (mEq .eql 3 (.tmp 4) (.const (.int .i64 1)) t0 (.int .i64 1)) w (pk K) fun t9 w =>
 IfX t9 (J1 [t9] w) (DoX Tryz.prog (mEq .eql 3 (.tmp 4) (.const (.int .i64 2)) t0 (.int .i64 2)) w (pk K) fun t10 w =>
 IfX t10 (J1 [t10] w) (DoX Tryz.prog (mEq .eql 3 (.tmp 4) (.const (.int .i64 3)) t0 (.int .i64 3)) w (pk K) fun t11 w =>
 J1 [t11] w))) (fun vs1 w => ∀ _ : Sg, S_value_used_0 t2 t0 (vs1.getD 0 undef) w K))
theorem S_value_used_eq (t0 : Value) (w : World) (K : Ending → World → Prop) : wpX Tryz.prog 30 [(7, [8]), (10, [13])] [] none (bodyOf Tryz.f153) (topQ Tryz.prog [.cell 2 159, .tmp 3] K) (startX [t0]) [] w = S_value_used t0 w K := by kernel_rfl
theorem S_value_used_ok {t0 : Value} {w : World} {K : Ending → World → Prop} (h : S_value_used t0 w K) : Calls Tryz.prog 153 #[t0] w K :=
  calls_of_wpX Tryz.func153 rfl rfl rfl rfl (Eq.mpr (S_value_used_eq t0 w K) h)

def S_value_must (t0 t1 : Value) (w : World) (K : Ending → World → Prop) : Prop :=
 DoX Tryz.prog (mUn .not t0) w (pk K) fun t5 w =>
 IfX t5 (DoX Tryz.prog (mBuild 156 #[(0, t1)]) w (pk K) fun t7 w =>
 DoX Tryz.prog (mIface 156 t7) w (pk K) fun t8 w =>
 DoX Tryz.prog (mPanic t8) w (pk K) fun _ w =>
 K (.returned (.tuple #[])) w) (K (.returned (.tuple #[])) w)
theorem S_value_must_eq (t0 t1 : Value) (w : World) (K : Ending → World → Prop) : wpX Tryz.prog 9 [] [] none (bodyOf Tryz.f152) (topQ Tryz.prog [] K) (startX [t0, t1]) [] w = S_value_must t0 t1 w K := by kernel_rfl
theorem S_value_must_ok {t0 t1 : Value} {w : World} {K : Ending → World → Prop} (h : S_value_must t0 t1 w K) : Calls Tryz.prog 152 #[t0, t1] w K :=
  calls_of_wpX Tryz.func152 rfl rfl rfl rfl (Eq.mpr (S_value_must_eq t0 t1 w K) h)

def S_value_check_0 (t1 t105 t106 t107 : Value) (w : World) (N1 : List Value → World → Prop) (K : Ending → World → Prop) : Prop :=
 DoX Tryz.prog (mBin .lss 3 t107 t106) w (pk K) fun t108 w =>
 IfX t108 (DoX Tryz.prog (mIA 23 t105 t107) w (pk K) fun t109 w =>
 DoX Tryz.prog (mLoad 25 t109) w (pk K) fun t110 w =>
 DoX Tryz.prog (mAlloc 25) w (pk K) fun t7 w =>
 DoX Tryz.prog (mStore 25 t7 t110) w (pk K) fun _ w =>
 DoX Tryz.prog (mLoad 25 t7) w (pk K) fun t111 w =>
 DoX Tryz.prog (mBin .add 3 t1 (.int .i64 1)) w (pk K) fun t113 w =>
 CallX Tryz.prog 95 #[t111, t113] w (pk K) fun t114 w =>
 DoX Tryz.prog (mBin .add 3 t107 (.int .i64 1)) w (pk K) fun t115 w =>
 N1 [t115] w) (K (.returned (.tuple #[])) w)
def S_value_check (t0 t1 : Value) (w : World) (K : Ending → World → Prop) : Prop :=
 DoX Tryz.prog (mBox 25 t0) w (pk K) fun t2 w =>
 DoX Tryz.prog (mBin .leq 3 t1 (.int .i64 24)) w (pk K) fun t9 w =>
 CallX Tryz.prog 152 #[t9, (.int .i64 7)] w (pk K) fun t10 w =>
 DoX Tryz.prog (mFA 25 t2 0) w (pk K) fun t12 w =>
 DoX Tryz.prog (mLoad 3 t12) w (pk K) fun t13 w =>
 CallX Tryz.prog 153 #[t13] w (pk K) fun t14 w =>
 DoX Tryz.prog (mExt t14 0) w (pk K) fun t15 w =>
 DoX Tryz.prog (mExt t14 1) w (pk K) fun t16 w =>
 DoX Tryz.prog (mAlloc 159) w (pk K) fun t4 w =>
 DoX Tryz.prog (mStore 159 t4 t15) w (pk K) fun _ w =>
 GDo t16 true (fun E => DoX Tryz.prog (mFA 159 t4 0) w (pk K) E) w fun t19 w =>
 GDo t16 true (fun E => DoX Tryz.prog (mLoad 4 t19) w (pk K) E) w fun t20 w =>
 GDo t16 true (fun E => E t20 w) w fun t21 w =>
 GDo t21 false (fun E => DoX Tryz.prog (mFA 25 t2 1) w (pk K) E) w fun t22 w =>
 GDo t21 false (fun E => DoX Tryz.prog (mLoad 2 t22) w (pk K) E) w fun t23 w =>
 GDo t21 false (fun E => DoX Tryz.prog (mEq .eql 2 (.tmp 23) (.const (.int .i64 0)) t23 (.int .i64 0)) w (pk K) E) w fun t24 w =>
 GDo t16 true (fun E => DoX Tryz.prog (mPick t21 (.bool true) t24) w (pk K) E) w fun t25 w =>
 DoX Tryz.prog (mPick t16 t25 (.bool false)) w (pk K) fun t26 w =>
 GDo t26 true (fun E => DoX Tryz.prog (mFA 159 t4 1) w (pk K) E) w fun t28 w =>
 GDo t26 true (fun E => DoX Tryz.prog (mLoad 4 t28) w (pk K) E) w fun t29 w =>
 GDo t26 true (fun E => E t29 w) w fun t30 w =>
 GDo t30 false (fun E => DoX Tryz.prog (mFA 25 t2 2) w (pk K) E) w fun t31 w =>
 GDo t30 false (fun E => DoX Tryz.prog (mLoad 3 t31) w (pk K) E) w fun t32 w =>
 GDo t30 false (fun E => DoX Tryz.prog (mEq .eql 3 (.tmp 32) (.const (.int .i64 0)) t32 (.int .i64 0)) w (pk K) E) w fun t33 w =>
 GDo t26 true (fun E => DoX Tryz.prog (mPick t30 (.bool true) t33) w (pk K) E) w fun t34 w =>
 DoX Tryz.prog (mPick t26 t34 (.bool false)) w (pk K) fun t35 w =>
 GDo t35 true (fun E => DoX Tryz.prog (mFA 159 t4 2) w (pk K) E) w fun t37 w =>
 GDo t35 true (fun E => DoX Tryz.prog (mLoad 4 t37) w (pk K) E) w fun t38 w =>
 GDo t35 true (fun E => E t38 w) w fun t39 w =>
 GDo t39 false (fun E => DoX Tryz.prog (mFA 25 t2 3) w (pk K) E) w fun t40 w =>
 GDo t39 false (fun E => DoX Tryz.prog (mLoad 9 t40) w (pk K) E) w fun t41 w =>
 GDo t39 false (fun E => DoX Tryz.prog (mEq .eql 9 (.tmp 41) (.const (.string ⟨#[]⟩)) t41 (.string ⟨#[]⟩)) w (pk K) E) w fun t42 w =>
 GDo t35 true (fun E => DoX Tryz.prog (mPick t39 (.bool true) t42) w (pk K) E) w fun t43 w =>
 DoX Tryz.prog (mPick t35 t43 (.bool false)) w (pk K) fun t44 w =>
 GDo t44 true (fun E => DoX Tryz.prog (mFA 159 t4 3) w (pk K) E) w fun t46 w =>
 GDo t44 true (fun E => DoX Tryz.prog (mLoad 4 t46) w (pk K) E) w fun t47 w =>
 GDo t44 true (fun E => E t47 w) w fun t48 w =>
 GDo t48 false (fun E => DoX Tryz.prog (mFA 25 t2 4) w (pk K) E) w fun t49 w =>
 GDo t48 false (fun E => DoX Tryz.prog (mLoad 22 t49) w (pk K) E) w fun t50 w =>
 GDo t48 false (fun E => DoX Tryz.prog (mB .len #[22] 3 #[false] #[t50]) w (pk K) E) w fun t51 w =>
 GDo t48 false (fun E => DoX Tryz.prog (mEq .eql 3 (.tmp 51) (.const (.int .i64 0)) t51 (.int .i64 0)) w (pk K) E) w fun t52 w =>
 GDo t44 true (fun E => DoX Tryz.prog (mPick t48 (.bool true) t52) w (pk K) E) w fun t53 w =>
 DoX Tryz.prog (mPick t44 t53 (.bool false)) w (pk K) fun t54 w =>
 GDo t54 true (fun E => DoX Tryz.prog (mFA 159 t4 4) w (pk K) E) w fun t56 w =>
 GDo t54 true (fun E => DoX Tryz.prog (mLoad 4 t56) w (pk K) E) w fun t57 w =>
 GDo t54 true (fun E => E t57 w) w fun t58 w =>
 GDo t58 false (fun E => DoX Tryz.prog (mFA 25 t2 5) w (pk K) E) w fun t59 w =>
 GDo t58 false (fun E => DoX Tryz.prog (mLoad 23 t59) w (pk K) E) w fun t60 w =>
 GDo t58 false (fun E => DoX Tryz.prog (mB .len #[23] 3 #[false] #[t60]) w (pk K) E) w fun t61 w =>
 GDo t58 false (fun E => DoX Tryz.prog (mEq .eql 3 (.tmp 61) (.const (.int .i64 0)) t61 (.int .i64 0)) w (pk K) E) w fun t62 w =>
 GDo t54 true (fun E => DoX Tryz.prog (mPick t58 (.bool true) t62) w (pk K) E) w fun t63 w =>
 DoX Tryz.prog (mPick t54 t63 (.bool false)) w (pk K) fun t64 w =>
 GDo t64 true (fun E => E t1 w) w fun t66 w =>
 GDo t64 true (fun E => DoX Tryz.prog (mEq .eql 3 (.tmp 66) (.const (.int .i64 1)) t66 (.int .i64 1)) w (pk K) E) w fun t67 w =>
 GDo t64 true (fun E => E t67 w) w fun t68 w =>
 GDo t68 false (fun E => DoX Tryz.prog (mFA 25 t2 0) w (pk K) E) w fun t69 w =>
 GDo t68 false (fun E => DoX Tryz.prog (mLoad 3 t69) w (pk K) E) w fun t70 w =>
 GDo t68 false (fun E => DoX Tryz.prog (mEq .neq 3 (.tmp 70) (.const (.int .i64 9)) t70 (.int .i64 9)) w (pk K) E) w fun t71 w =>
 GDo t64 true (fun E => DoX Tryz.prog (mPick t68 (.bool true) t71) w (pk K) E) w fun t72 w =>
 DoX Tryz.prog (mPick t64 t72 (.bool false)) w (pk K) fun t73 w =>
 CallX Tryz.prog 152 #[t73, (.int .i64 10)] w (pk K) fun t74 w =>
 DoX Tryz.prog (mLoad 25 t2) w (pk K) fun t75 w =>
 CallX Tryz.prog 154 #[t75] w (pk K) fun t76 w =>
 CallX Tryz.prog 152 #[t76, (.int .i64 2)] w (pk K) fun t77 w =>
 DoX Tryz.prog (mLoad 25 t2) w (pk K) fun t78 w =>
 CallX Tryz.prog 155 #[t78] w (pk K) fun t79 w =>
 CallX Tryz.prog 152 #[t79, (.int .i64 5)] w (pk K) fun t80 w =>
 DoX Tryz.prog (mFA 25 t2 5) w (pk K) fun t81 w =>
 DoX Tryz.prog (mLoad 23 t81) w (pk K) fun t82 w =>
 DoX Tryz.prog (mB .len #[23] 3 #[false] #[t82]) w (pk K) fun t83 w =>
 DoX Tryz.prog (mBin .leq 3 t83 (.int .i64 8191)) w (pk K) fun t84 w =>
 CallX Tryz.prog 152 #[t84, (.int .i64 6)] w (pk K) fun t85 w =>
 DoX Tryz.prog (mFA 25 t2 0) w (pk K) fun t86 w =>
 DoX Tryz.prog (mLoad 3 t86) w (pk K) fun t87 w =>
 DoX Tryz.prog (mEq .neq 3 (.tmp 87) (.const (.int .i64 5)) t87 (.int .i64 5)) w (pk K) fun t88 w =>
 GDo t88 false (fun E => DoX Tryz.prog (mFA 25 t2 3) w (pk K) E) w fun t90 w =>
 GDo t88 false (fun E => DoX Tryz.prog (mLoad 9 t90) w (pk K) E) w fun t91 w =>
 GDo t88 false (fun E => CallX Tryz.prog 156 #[t91] w (pk K) E) w fun t92 w =>
 DoX Tryz.prog (mPick t88 (.bool true) t92) w (pk K) fun t93 w =>
 GDo t93 true (fun E => DoX Tryz.prog (mFA 159 t4 3) w (pk K) E) w fun t95 w =>
 GDo t93 true (fun E => DoX Tryz.prog (mLoad 4 t95) w (pk K) E) w fun t96 w =>
 GDo t93 true (fun E => DoX Tryz.prog (mUn .not t96) w (pk K) E) w fun t97 w =>
 GDo t93 true (fun E => E t97 w) w fun t98 w =>
 GDo t98 false (fun E => DoX Tryz.prog (mLoad 25 t2) w (pk K) E) w fun t99 w =>
 GDo t98 false (fun E => CallX Tryz.prog 157 #[t99] w (pk K) E) w fun t100 w =>
 GDo t93 true (fun E => DoX Tryz.prog (mPick t98 (.bool true) t100) w (pk K) E) w fun t101 w =>
 DoX Tryz.prog (mPick t93 t101 (.bool false)) w (pk K) fun t102 w =>
 CallX Tryz.prog 152 #[t102, (.int .i64 3)] w (pk K) fun t103 w =>
 DoX Tryz.prog (mFA 25 t2 5) w (pk K) fun t104 w =>
 DoX Tryz.prog (mLoad 23 t104) w (pk K) fun t105 w =>
 DoX Tryz.prog (mB .len #[23] 3 #[false] #[t105]) w (pk K) fun t106 w =>
 LoopX [(.int .i64 0)] w (fun vs1 w N1 => ∀ _ : Sg, S_value_check_0 t1 t105 t106 (vs1.getD 0 undef) w N1 K)
theorem S_value_check_eq (t0 t1 : Value) (w : World) (K : Ending → World → Prop) : wpX Tryz.prog 116 [] [(9, [107])] none (bodyOf Tryz.f95) (topQ Tryz.prog [] K) (startX [t0, t1]) [] w = S_value_check t0 t1 w K := by kernel_rfl
theorem S_value_check_ok {t0 t1 : Value} {w : World} {K : Ending → World → Prop} (h : S_value_check t0 t1 w K) : Calls Tryz.prog 95 #[t0, t1] w K :=
  calls_of_wpX Tryz.func95 rfl rfl rfl rfl (Eq.mpr (S_value_check_eq t0 t1 w K) h)

def S_value_Check_1 (t0 : Value) (w : World) (K : Ending → World → Prop) : Prop :=
 DoX Tryz.prog (mLoad 25 t0) w (pk K) fun t1 w =>
 CallX Tryz.prog 95 #[t1, (.int .i64 1)] w (pk K) fun t2 w =>
 K (.returned (.tuple #[])) w
theorem S_value_Check_1_eq (t0 : Value) (w : World) (K : Ending → World → Prop) : wpX Tryz.prog 3 [] [] none (bodyOf Tryz.f94) (topQ Tryz.prog [] K) (startX [t0]) [] w = S_value_Check_1 t0 w K := by kernel_rfl
theorem S_value_Check_1_ok {t0 : Value} {w : World} {K : Ending → World → Prop} (h : S_value_Check_1 t0 w K) : Calls Tryz.prog 94 #[t0] w K :=
  calls_of_wpX Tryz.func94 rfl rfl rfl rfl (Eq.mpr (S_value_Check_1_eq t0 w K) h)

def S_value_caught_1 (t0 r : Value) (w : World) (K : Ending → World → Prop) : Prop :=
 DoX Tryz.prog (mEq .eql 20 (.tmp 4) (.const .nilIface) r .nilIface) w (pk K) fun t6 w =>
 IfX t6 (K (.returned (.tuple #[])) w) (DoX Tryz.prog (mTA r 20 156 true) w (pk K) fun t7 w =>
 DoX Tryz.prog (mExt t7 1) w (pk K) fun t8 w =>
 DoX Tryz.prog (mExt t7 0) w (pk K) fun t9 w =>
 IfX t8 (DoX Tryz.prog (mAlloc 156) w (pk K) fun t2 w =>
 DoX Tryz.prog (mStore 156 t2 t9) w (pk K) fun _ w =>
 DoX Tryz.prog (mFA 156 t2 0) w (pk K) fun t10 w =>
 DoX Tryz.prog (mLoad 28 t10) w (pk K) fun t11 w =>
 DoX Tryz.prog (mStore 28 t0 t11) w (pk K) fun _ w =>
 K (.returned (.tuple #[])) w) (DoX Tryz.prog (mPanic r) w (pk K) fun _ w =>
 K (.returned (.tuple #[])) w))
theorem S_value_caught_1_eq (t0 r : Value) (w : World) (K : Ending → World → Prop) : wpX Tryz.prog 12 [] [] none (sndOf (bodyOf Tryz.f151)) (topD Tryz.prog [] K) (upd (startX [t0]) 4 r) [] w = S_value_caught_1 t0 r w K := by kernel_rfl
theorem S_value_caught_1_dok {t0 : Value} {u : FrameMode} {w : World} {R : Ending → FrameMode → World → Prop} (h : S_value_caught_1 t0 (recV u) w (fun e w => R e (recM u) w)) : CallsD Tryz.prog 151 #[t0] u w R :=
  callsD_recover Tryz.func151 rfl rfl rfl rfl rfl rfl rfl rfl (Eq.mpr (S_value_caught_1_eq t0 (recV u) w _) h)

def S_value_caught_p0 (x0 : Deferred) (x1 : Value) (K : Ending → World → Prop) := pd Tryz.prog [.cell x1 28] K [x0]
def S_value_caught (t0 : Value) (w : World) (K : Ending → World → Prop) : Prop :=
 DoX Tryz.prog (mAlloc 28) w (pk K) fun t2 w =>
 DoX Tryz.prog (mFunc (.func 151) #[] #[t2]) w (pk K) fun t3 w =>
 DfrX (dfrV t3 #[]) (fun d1 =>
 DoX Tryz.prog (mCallV t0 #[]) w (S_value_caught_p0 d1 t2 K) fun t5 w =>
 DoX Tryz.prog (mStore 28 t2 (.int .i64 0)) w (S_value_caught_p0 d1 t2 K) fun _ w =>
 Leave Tryz.prog [.cell t2 28] K [d1] .returning w)
theorem S_value_caught_eq (t0 : Value) (w : World) (K : Ending → World → Prop) : wpX Tryz.prog 6 [] [] none (bodyOf Tryz.f93) (topQ Tryz.prog [.cell 2 28] K) (startX [t0]) [] w = S_value_caught t0 w K := by kernel_rfl
theorem S_value_caught_ok {t0 : Value} {w : World} {K : Ending → World → Prop} (h : S_value_caught t0 w K) : Calls Tryz.prog 93 #[t0] w K :=
  calls_of_wpX Tryz.func93 rfl rfl rfl rfl (Eq.mpr (S_value_caught_eq t0 w K) h)

def S_value_Check (t0 : Value) (w : World) (K : Ending → World → Prop) : Prop :=
 DoX Tryz.prog (mBox 25 t0) w (pk K) fun t1 w =>
 DoX Tryz.prog (mFunc (.func 94) #[] #[t1]) w (pk K) fun t3 w =>
 CallX Tryz.prog 93 #[t3] w (pk K) fun t4 w =>
 K (.returned t4) w
theorem S_value_Check_eq (t0 : Value) (w : World) (K : Ending → World → Prop) : wpX Tryz.prog 5 [] [] none (bodyOf Tryz.f45) (topQ Tryz.prog [.tmp 2] K) (startX [t0]) [] w = S_value_Check t0 w K := by kernel_rfl
theorem S_value_Check_ok {t0 : Value} {w : World} {K : Ending → World → Prop} (h : S_value_Check t0 w K) : Calls Tryz.prog 45 #[t0] w K :=
  calls_of_wpX Tryz.func45 rfl rfl rfl rfl (Eq.mpr (S_value_Check_eq t0 w K) h)

end Go.Proofs.YtiklhhdohckfiaaGreatDoor
namespace Go.Proofs.YtiklhhdohckfiaaGreatDoor
set_option linter.unusedVariables false
set_option linter.unusedSimpArgs false
set_option linter.defProp false
open Eng Go.RowKit
 attribute [local congr] g_congr

theorem within64_ret (n a b : Int) (w : World) : Ret Tryz.prog 205 #[.int .i64 n, .int .i64 a, .int .i64 b] w (fun v w' => v = .bool (decide (a ≤ n) && decide (n ≤ b)) ∧ w = w') := by
  refine ret_of fun K hK => S_value_within_int64_ok ?_
  unfold S_value_within_int64
  simp +contextual only [rs, gs]
  exact hK _ _ ⟨rfl, rfl⟩
theorem withinI_ret (n a b : Int) (w : World) : Ret Tryz.prog 206 #[.int .i64 n, .int .i64 a, .int .i64 b] w (fun v w' => v = .bool (decide (a ≤ n) && decide (n ≤ b)) ∧ w = w') := by
  refine ret_of fun K hK => S_value_within_int_ok ?_
  unfold S_value_within_int
  simp +contextual only [rs, gs]
  exact hK _ _ ⟨rfl, rfl⟩
theorem tw_self {p : UInt8 → Bool} : ∀ (s : List UInt8), s.takeWhile p = s → ∀ x ∈ s, p x = true
  | [], _, x, hx => by cases hx
  | a :: s, h, x, hx => by
    rw [List.takeWhile_cons] at h
    split at h
    · rename_i ha
      injection h with _ h
      rcases List.mem_cons.1 hx with rfl | hx
      · exact ha
      · exact tw_self s h x hx
    · cases h
theorem dw_head {p : UInt8 → Bool} : ∀ (s : List UInt8) {a : UInt8} {t : List UInt8}, s.dropWhile p = a :: t → p a = false
  | [], _, _, h => by cases h
  | b :: s, a, t, h => by
    rw [List.dropWhile_cons] at h
    split at h
    · exact dw_head s h
    · rename_i hb
      injection h with h _
      subst h
      simpa using hb
theorem vkey_ret (s : List UInt8) (w : World) : Ret Tryz.prog 156 #[.string ⟨s.toArray⟩] w (fun v w' => v = .bool (Vl.name s) ∧ w = w') := by
  refine ret_of fun K hK => S_value_key_ok ?_
  unfold S_value_key
  rw [s_len Tryz.underlying9, b_leq]
  by_cases h : (s.length : Int) ≤ 127
  · have hi : ∀ {K' : Value → World → Prop}, K' (.int .i64 (Lib.indexByte s 0)) w → CallX Tryz.prog 162 #[.string ⟨s.toArray⟩, .int .u8 0] w (pk K) K' := fun hk => c_eq (indexByte_ret s 0 w) hk
    simp only [h, decide_true, rs]
    refine hi ?_
    simp only [rs]
    refine hK _ _ ⟨?_, rfl⟩
    rw [Vl.name, decide_eq_true (show s.length ≤ 127 by omega), Bool.true_and]
    congr 1
    rw [decide_eq_decide]
    rcases ix_cases 0 s with ⟨h1, h2, h3⟩ | ⟨i, h1, hil, h3, h4⟩
    · rw [h1]
      refine ⟨fun _ hm => ?_, fun _ => by decide⟩
      have := tw_self s h2 0 hm
      simp at this
    · rw [h1]
      refine ⟨fun h => by omega, fun hm => absurd ?_ hm⟩
      have hd : s.drop i = s[i] :: s.drop (i + 1) := List.drop_eq_getElem_cons hil
      have h0 : s[i] = 0 := by
        have := dw_head s (h4.trans hd)
        simpa using this
      exact h0 ▸ List.getElem_mem hil
  · simp only [h, decide_false, rs, g_un]
    refine hK _ _ ⟨?_, rfl⟩
    rw [Vl.name, decide_eq_false (show ¬ s.length ≤ 127 by omega)]; rfl
theorem vrising_ret (o : Ob) (v : Value) (w : World) (h : OV (InW w) w v o) (hb : o.keys.length ≤ 9223372036854775807) :
    Ret Tryz.prog 157 #[v] w (fun v w' => v = .bool (Vl.rising o) ∧ Below w.heap.size w w') := by
  obtain ⟨vk, vc, cs, rfl, ha⟩ := h.open
  refine ret_of fun K hK => S_value_rising_ok ?_
  unfold S_value_rising
  refine o_obb o ha.keys.one ha.kids.one (Own.start w) fun b w1 ho => ?_
  have lk : ∀ {W : World} {L : List Ent}, Own w W L → ∀ {PK : List PanicEntry → World → Prop} {K : Value → World → Prop}, DoX Tryz.prog (mB .len #[22] 3 #[false] #[vk]) W PK K = K (.int .i64 (o.keys.length : Int)) W := fun ho => sl_len Tryz.underlying22 (ha.own ho).keys.1
  have lc : ∀ {W : World} {L : List Ent}, Own w W L → ∀ {PK : List PanicEntry → World → Prop} {K : Value → World → Prop}, DoX Tryz.prog (mB .len #[23] 3 #[false] #[vc]) W PK K = K (.int .i64 (o.kids.length : Int)) W := fun ho => sl_len Tryz.underlying23 (ha.own ho).kids.1
  simp only [rs, fa_o4, fa_o5, ob_keys ho 0 rfl, ob_kids ho 0 rfl, lk ho, lc ho]
  by_cases hlen : (o.keys.length : Int) ≠ (o.kids.length : Int)
  · simp only [decide_eq_true hlen, i_t]
    refine hK _ _ ⟨?_, ho.done⟩
    have : ¬ o.keys.length = o.kids.length := fun e => hlen (by rw [e])
    simp [Vl.rising, this]
  have hle : o.keys.length = o.kids.length := by omega
  simp only [decide_eq_false hlen, i_f]
  have hR : Vl.rising o = (List.range o.keys.length).all (Vl.keyAt o) := by simp [Vl.rising, hle]
  rw [hR] at hK
  refine loop (fun vs w' => ∃ (i : Nat), vs = [.int .i64 i] ∧ i ≤ o.keys.length ∧ (List.range i).all (Vl.keyAt o) = true ∧ Own w w' [obE b o vk vc]) (fun vs _ => o.keys.length - n0 vs) ⟨0, rfl, by omega, by simp, ho⟩ ?_
  rintro vs w2 ⟨i, rfl, hi, hall, ho⟩ _
  simp only [S_value_rising_0, gd, rs]
  by_cases hlt : (i : Int) < (o.keys.length : Int)
  · have hi' : i < o.keys.length := by omega
    simp only [hlt, decide_true, i_t]
    have ho2 := ha.own ho
    refine sl_ia1 (.string ⟨(o.keys[i]).toArray⟩) Tryz.underlying22 (by kernel_rfl) ho2.keys.1 (by omega) (by rw [Int.toNat_natCast]; exact strsV_get hi') fun q hq => ?_
    rw [l_cell nStr5 hq]
    refine c_eq (vkey_ret o.keys[i] w2) ?_
    obtain ⟨kb, koff, hia, hkc⟩ := run_kid_k ho2.kids.1 ho2.all (show i < o.kids.length by omega)
    have hlk : ∀ {PK : List PanicEntry → World → Prop} {K : Value → World → Prop}, DoX Tryz.prog (mLoad 3 (.pointer (some ⟨kb, koff, none⟩))) w2 PK K = K (.int .i64 o.kids[i].k) w2 := l_cell nInt5 hkc
    have hprev : decide (0 < (i : Int)) = true → ∃ (b' off' : Nat), (∀ {PK : List PanicEntry → World → Prop} {K : Value → World → Prop}, DoX Tryz.prog (mIA 22 vk (.int .i64 (IntKind.wrap .i64 ((i : Int) - 1)))) w2 PK K = K (.pointer (some ⟨b', off', none⟩)) w2) ∧
        (∀ {PK : List PanicEntry → World → Prop} {K : Value → World → Prop}, DoX Tryz.prog (mLoad 9 (.pointer (some ⟨b', off', none⟩))) w2 PK K = K (.string ⟨(o.keys.getD (i - 1) []).toArray⟩) w2) := by
      intro h
      have h := of_decide_eq_true h
      have hj : i - 1 < o.keys.length := by omega
      obtain ⟨b', off', cap', rfl, hc'⟩ := sl_open ho2.keys.1 (show 0 < o.keys.length by omega)
      refine ⟨b', off' + (i - 1), ?_, ?_⟩
      · intro PK K
        rw [wrap64_id (by omega) (by omega)]
        refine do_eq ?_
        rw [run_ia Tryz.underlying22 (show _ = some 1 by kernel_rfl) (by omega) (by omega), show ((i : Int) - 1).toNat * 1 = i - 1 by omega]
      · intro PK K
        rw [List.getD_eq_getElem?_getD, List.getElem?_eq_getElem hj]
        exact l_cell nStr5 (hc' _ _ (strsV_get hj))
    have hgi : o.keys.getD i [] = o.keys[i] := by rw [List.getD_eq_getElem?_getD, List.getElem?_eq_getElem hi']; rfl
    have hgk : o.kids.getD i (.mk 0 0 0 [] [] []) = o.kids[i]'(by omega) := by rw [List.getD_eq_getElem?_getD, List.getElem?_eq_getElem (by omega)]; rfl
    have tail : ∀ (q : Bool) (N : Prop), q = !(Vl.keyAt o i) → (Vl.keyAt o i = true → N) → IfX (.bool q) (K (.returned (.bool false)) w2) N := by
      intro q N hq hN
      cases hk : Vl.keyAt o i with
      | false =>
        rw [hk] at hq; subst hq
        rw [show (!false) = true from rfl, i_t]
        exact hK _ _ ⟨by rw [range_all_not hk hi'], ho.done⟩
      | true =>
        rw [hk] at hq; subst hq
        rw [show (!true) = false from rfl, i_f]
        exact hN hk
    have hki : Vl.keyAt o i = (Vl.name o.keys[i] && (decide (i = 0) || Vl.less (o.keys.getD (i - 1) []) o.keys[i]) && !(decide (o.k = 9) && decide (o.keys[i] = Vl.lenK)) && decide ((o.kids[i]'(by omega)).k ≠ 0)) := by
      rw [Vl.keyAt, hgi, hgk]
    by_cases hi0 : i = 0
    · have hz : decide (0 < (i : Int)) = false := by rw [decide_eq_false_iff_not]; omega
      simp +contextual only [rs, gs, hz, sel_sel, g_off, pick_orn, Bool.and_false, Bool.not_not, Bool.or_false, fa_o0, fa_o5, ob_k ho 0 rfl, ob_kids ho 0 rfl, hia, hlk, g_un, p_f]
      refine tail _ _ ?_ fun hk => ?_
      · rw [hki, decide_eq_true hi0]
        simp only [Bool.true_or, Bool.and_true, Vl.lenK, ne_eq, decide_not]
        generalize Vl.name o.keys[i] = a
        generalize decide (o.k = 9) = c
        generalize decide ((o.kids[i]'(by omega)).k = 0) = d
        by_cases hL : o.keys[i] = [76, 101, 110, 103, 116, 104] <;> simp only [hL, decide_true, decide_false] <;> cases a <;> cases c <;> cases d <;> rfl
      · rw [wrap64_id (by omega) (by omega)]
        exact nextX ⟨i + 1, rfl, by omega, by rw [range_all_succ, hall, hk]; rfl, ho⟩ (by simp [n0, intOf]; omega)
    · have hz : decide (0 < (i : Int)) = true := by rw [decide_eq_true_iff]; omega
      obtain ⟨b', off', hpa, hpl⟩ := hprev hz
      simp +contextual only [rs, gs, hz, sel_sel, g_off, pick_orn, Bool.and_false, Bool.not_not, Bool.or_false, fa_o0, fa_o4, fa_o5, ob_k ho 0 rfl, ob_keys ho 0 rfl, ob_kids ho 0 rfl, hia, hlk, hpa, hpl, g_un]
      refine tail _ _ ?_ fun hk => ?_
      · rw [hki, decide_eq_false hi0]
        simp only [Bool.false_or, Vl.lenK, ne_eq, decide_not]
        generalize Vl.name o.keys[i] = a
        generalize decide (o.k = 9) = c
        generalize decide ((o.kids[i]'(by omega)).k = 0) = d
        show _ = !(_ && Op.bytesLess (o.keys.getD (i - 1) []) o.keys[i] && _ && _)
        generalize Op.bytesLess (o.keys.getD (i - 1) []) o.keys[i] = e
        by_cases hL : o.keys[i] = [76, 101, 110, 103, 116, 104] <;> simp only [hL, decide_true, decide_false] <;> cases a <;> cases c <;> cases d <;> cases e <;> rfl
      · rw [wrap64_id (by omega) (by omega)]
        exact nextX ⟨i + 1, rfl, by omega, by rw [range_all_succ, hall, hk]; rfl, ho⟩ (by simp [n0, intOf]; omega)
  · simp only [hlt, decide_false, i_f]
    refine hK _ _ ⟨?_, ho.done⟩
    rw [show o.keys.length = i by omega, hall]
theorem vfits_ret (o : Ob) (v : Value) (w : World) (h : OV (InW w) w v o) : Ret Tryz.prog 154 #[v] w (fun v w' => v = .bool (Vl.fits o) ∧ Below w.heap.size w w') := by
  obtain ⟨vk, vc, cs, rfl, ha⟩ := h.open
  refine ret_of fun K hK => S_value_fits_ok ?_
  unfold S_value_fits
  refine o_obb o ha.keys.one ha.kids.one (Own.start w) fun b w1 ho => ?_
  simp only [fa_o0, ob_k ho 0 rfl, rs]
  by_cases k1 : o.k = 1
  · simp only [k1, decide_true, i_t, fa_o1, ob_n ho 0 rfl]
    refine c_eq (within64_ret _ _ _ w1) (hK _ _ ⟨?_, ho.done⟩)
    rw [Vl.fits, if_pos k1, Bool.decide_and]
  by_cases k2 : o.k = 2
  · simp only [k2, Int.reduceEq, decide_true, decide_false, i_t, i_f, fa_o1, ob_n ho 0 rfl]
    refine c_eq (within64_ret _ _ _ w1) (hK _ _ ⟨?_, ho.done⟩)
    rw [Vl.fits, if_neg k1, if_pos k2, Bool.decide_and]
  by_cases k3 : o.k = 3
  · simp only [k3, Int.reduceEq, decide_true, decide_false, i_t, i_f, fa_o1, ob_n ho 0 rfl]
    refine c_eq (within64_ret _ _ _ w1) (hK _ _ ⟨?_, ho.done⟩)
    rw [Vl.fits, if_neg k1, if_neg k2, if_pos k3, Bool.decide_and]
  by_cases k8 : o.k = 8
  · simp only [k8, Int.reduceEq, decide_true, decide_false, i_t, i_f, fa_o1, ob_n ho 0 rfl]
    refine c_eq (within64_ret _ _ _ w1) ?_
    have hf : Vl.fits o = (decide (1 ≤ o.n) && decide (o.n ≤ 8191) && (decide (0 ≤ o.g) && decide (o.g ≤ 65535))) := by
      rw [Vl.fits, if_neg k1, if_neg k2, if_neg k3, if_pos k8, Bool.decide_and, Bool.decide_and]
    rw [hf] at hK
    cases hc : (decide (1 ≤ o.n) && decide (o.n ≤ 8191)) with
    | false =>
      rw [hc] at hK
      rw [g_ft, g_ft, g_ft, p_f]
      exact hK _ _ ⟨rfl, ho.done⟩
    | true =>
      rw [hc] at hK
      rw [g_tt, fa_o2, g_tt, ob_g ho 0 rfl, g_tt]
      refine c_eq (withinI_ret _ _ _ w1) ?_
      rw [p_t]
      exact hK _ _ ⟨rfl, ho.done⟩
  simp only [k1, k2, k3, k8, decide_false, i_f]
  refine hK _ _ ⟨?_, ho.done⟩
  rw [Vl.fits, if_neg k1, if_neg k2, if_neg k3, if_neg k8]
def vShort (o : Ob) : Bool := if o.k = 4 then decide (o.s.length ≤ 32767) else if o.k = 5 then decide (o.s.length ≤ 127) else decide (o.s.length ≤ 1048576)
theorem vshort_ret (o : Ob) (v : Value) (w : World) (h : OV (InW w) w v o) : Ret Tryz.prog 155 #[v] w (fun v w' => v = .bool (vShort o) ∧ Below w.heap.size w w') := by
  obtain ⟨vk, vc, cs, rfl, ha⟩ := h.open
  refine ret_of fun K hK => S_value_short_ok ?_
  unfold S_value_short
  refine o_obb o ha.keys.one ha.kids.one (Own.start w) fun b w1 ho => ?_
  simp only [fa_o0, ob_k ho 0 rfl, rs]
  have hi : ∀ m : Nat, decide ((o.s.length : Int) ≤ (m : Int)) = decide (o.s.length ≤ m) := fun m => by rw [decide_eq_decide]; omega
  by_cases k4 : o.k = 4
  · simp only [k4, decide_true, i_t, fa_o3, ob_s ho 0 rfl, s_len Tryz.underlying9, rs]
    refine hK _ _ ⟨?_, ho.done⟩
    rw [vShort, if_pos k4, ← hi]; rfl
  by_cases k5 : o.k = 5
  · simp only [k5, Int.reduceEq, decide_true, decide_false, i_t, i_f, fa_o3, ob_s ho 0 rfl, s_len Tryz.underlying9, rs]
    refine hK _ _ ⟨?_, ho.done⟩
    rw [vShort, if_neg k4, if_pos k5, ← hi]; rfl
  simp only [k4, k5, decide_false, i_f, fa_o3, ob_s ho 0 rfl, s_len Tryz.underlying9, rs]
  refine hK _ _ ⟨?_, ho.done⟩
  rw [vShort, if_neg k4, if_neg k5, ← hi]; rfl
theorem short_long {o : Ob} (h : Vl.usesOk o = true) : vShort o = !decide (Vl.long o.k < o.s.length) := by
  have key : ∀ m : Nat, decide (o.s.length ≤ m) = !decide (m < o.s.length) := fun m => by
    rw [Bool.eq_iff_iff]; simp
  unfold vShort Vl.long
  by_cases k4 : o.k = 4
  · rw [if_pos k4, if_neg (by omega), if_neg (by omega), key]
  by_cases k5 : o.k = 5
  · rw [if_neg k4, if_pos k5, if_pos k5, key]
  by_cases k9 : o.k = 9
  · rw [if_neg k4, if_neg k5, if_neg k5, if_pos k9, key]
  have hs : o.s = [] := by
    unfold Vl.usesOk Vl.used at h
    revert h
    split
    · intro h; cases h
    · rename_i n g s ks cs he
      intro h
      simp only [Bool.and_eq_true, Bool.or_eq_true, decide_eq_true_eq] at h
      have hsf : s = false := by
        revert he
        repeat' split
        all_goals (intro he; first | (cases he; done) | skip)
        all_goals (simp only [Option.some.injEq, Prod.mk.injEq] at he; first | exact he.2.2.1.symm | omega)
      rcases h.1.1.2 with h1 | h1
      · rw [hsf] at h1; cases h1
      · exact h1
  rw [if_neg k4, if_neg k5, if_neg k5, if_neg k9, hs]; rfl
end Go.Proofs.YtiklhhdohckfiaaGreatDoor
namespace Go.Proofs.YtiklhhdohckfiaaGreatDoor
set_option linter.unusedVariables false
set_option linter.unusedSimpArgs false
set_option linter.defProp false
open Eng Go.RowKit
 attribute [local congr] g_congr

def uC (u : Bool × Bool × Bool × Bool × Bool) : List Value := [.bool u.1, .bool u.2.1, .bool u.2.2.1, .bool u.2.2.2.1, .bool u.2.2.2.2]
def uV (u : Bool × Bool × Bool × Bool × Bool) : Value := .agg (uC u).toArray
def uE (b : Nat) (u : Bool × Bool × Bool × Bool × Bool) : Ent := .cells b (uC u) 159
def u0 : Bool × Bool × Bool × Bool × Bool := (false, false, false, false, false)
theorem aggU : aggN Tryz.prog 159 = some 5 := by kernel_rfl
theorem szU : (Tryz.prog.info? 159).map (·.size) = some 5 := by kernel_rfl
theorem uC_one (u : Bool × Bool × Bool × Bool × Bool) : ∀ v ∈ uC u, v.oneCell' = true := by
  intro v hv
  simp only [uC, List.mem_cons, List.not_mem_nil, or_false] at hv
  rcases hv with rfl | rfl | rfl | rfl | rfl <;> rfl
theorem nBool : notAgg Tryz.prog 4 = true := by kernel_rfl
section
variable {w : World} {PK : List PanicEntry → World → Prop} {K : Value → World → Prop} {S : Nat → Prop} {w0 : World} {L : List Ent}
theorem fa_u0 {b : Nat} : DoX Tryz.prog (mFA 159 (.pointer (some ⟨b, 0, none⟩)) 0) w PK K = K (.pointer (some ⟨b, 0, none⟩)) w := f_addr (show fOff Tryz.prog 159 0 = some 0 by kernel_rfl)
theorem fa_u1 {b : Nat} : DoX Tryz.prog (mFA 159 (.pointer (some ⟨b, 0, none⟩)) 1) w PK K = K (.pointer (some ⟨b, 0 + 1, none⟩)) w := f_addr (show fOff Tryz.prog 159 1 = some 1 by kernel_rfl)
theorem fa_u2 {b : Nat} : DoX Tryz.prog (mFA 159 (.pointer (some ⟨b, 0, none⟩)) 2) w PK K = K (.pointer (some ⟨b, 0 + 2, none⟩)) w := f_addr (show fOff Tryz.prog 159 2 = some 2 by kernel_rfl)
theorem fa_u3 {b : Nat} : DoX Tryz.prog (mFA 159 (.pointer (some ⟨b, 0, none⟩)) 3) w PK K = K (.pointer (some ⟨b, 0 + 3, none⟩)) w := f_addr (show fOff Tryz.prog 159 3 = some 3 by kernel_rfl)
theorem fa_u4 {b : Nat} : DoX Tryz.prog (mFA 159 (.pointer (some ⟨b, 0, none⟩)) 4) w PK K = K (.pointer (some ⟨b, 0 + 4, none⟩)) w := f_addr (show fOff Tryz.prog 159 4 = some 4 by kernel_rfl)
theorem u_put (i : Nat) {b : Nat} {u : Bool × Bool × Bool × Bool × Bool} (u' : Bool × Bool × Bool × Bool × Bool) (ho : OwnS S w0 w L) (hi : L[i]? = some (uE b u)) (k : ∀ w', OwnS S w0 w' (L.set i (uE b u')) → K undef w') :
    DoX Tryz.prog (mStore 159 (.pointer (some ⟨b, 0, none⟩)) (uV u')) w PK K := o_put i ho hi (new := uC u') szU (uC_one u') rfl k
end
def usedV (k : Int) : Value := .tuple #[uV ((Vl.used k).getD u0), .bool (Vl.used k).isSome]
theorem vused_ret (k : Int) (w : World) : Ret Tryz.prog 153 #[.int .i64 k] w (fun v w' => v = usedV k ∧ Below w.heap.size w w') := by
  refine ret_of fun K hK => S_value_used_ok ?_
  unfold S_value_used
  refine o_new (fun b => .pointer (some ⟨b, 0, none⟩)) (uC u0) 159 (fun _ => by kernel_rfl) (Own.start w) fun b w1 ho => ?_
  have fin : ∀ (u : Bool × Bool × Bool × Bool × Bool) (ok : Bool), Vl.used k = (if ok then some u else none) → (ok = false → u = u0) → DoX Tryz.prog (mStore 159 (.pointer (some ⟨b, 0, none⟩)) (uV u)) w1 (pk K) fun _ w =>
      RetX Tryz.prog [.cell (.pointer (some ⟨b, 0, none⟩)) 159, .val (.bool ok)] w K := by
    intro u ok hu h0
    refine u_put 0 u ho rfl fun w2 ho => ?_
    refine ret_v2 (rv_cell (ho.agg 0 rfl aggU)) rv_val (hK _ _ ⟨?_, ho.done⟩)
    rw [usedV, hu]
    cases ok with
    | true => rfl
    | false => rw [h0 rfl]; rfl
  have b0 : ∀ {PK : List PanicEntry → World → Prop} {K : Value → World → Prop}, DoX Tryz.prog (mBuild 159 #[]) w1 PK K = K (uV u0) w1 := do_eq (by kernel_rfl)
  have b1 : ∀ {PK : List PanicEntry → World → Prop} {K : Value → World → Prop}, DoX Tryz.prog (mBuild 159 #[(0, .bool true)]) w1 PK K = K (uV (true, false, false, false, false)) w1 := do_eq (by kernel_rfl)
  have b2 : ∀ {PK : List PanicEntry → World → Prop} {K : Value → World → Prop}, DoX Tryz.prog (mBuild 159 #[(2, .bool true)]) w1 PK K = K (uV (false, false, true, false, false)) w1 := do_eq (by kernel_rfl)
  have b3 : ∀ {PK : List PanicEntry → World → Prop} {K : Value → World → Prop}, DoX Tryz.prog (mBuild 159 #[(4, .bool true)]) w1 PK K = K (uV (false, false, false, false, true)) w1 := do_eq (by kernel_rfl)
  have b4 : ∀ {PK : List PanicEntry → World → Prop} {K : Value → World → Prop}, DoX Tryz.prog (mBuild 159 #[(3, .bool true), (4, .bool true)]) w1 PK K = K (uV (false, false, false, true, true)) w1 := do_eq (by kernel_rfl)
  have b5 : ∀ {PK : List PanicEntry → World → Prop} {K : Value → World → Prop}, DoX Tryz.prog (mBuild 159 #[(0, .bool true), (1, .bool true)]) w1 PK K = K (uV (true, true, false, false, false)) w1 := do_eq (by kernel_rfl)
  have b6 : ∀ {PK : List PanicEntry → World → Prop} {K : Value → World → Prop}, DoX Tryz.prog (mBuild 159 #[(2, .bool true), (3, .bool true), (4, .bool true)]) w1 PK K = K (uV (false, false, true, true, true)) w1 := do_eq (by kernel_rfl)
  simp only [rs]
  by_cases k0 : k = 0
  · simp only [k0, decide_true, i_t, b0]
    exact fin _ true (by simp [Vl.used, k0, u0]) (by simp)
  simp only [k0, decide_false, i_f]
  refine join fun J hJ => ?_
  by_cases k123 : k = 1 ∨ k = 2 ∨ k = 3
  · have : J [.bool true] w1 := by
      refine hJ _ _ fun _ => ?_
      simp only [S_value_used_0, gd, i_t, b1]
      exact fin _ true (by simp [Vl.used, k0, k123]) (by simp)
    by_cases k1 : k = 1
    · simp only [k1, decide_true, i_t]; exact this
    by_cases k2 : k = 2
    · simp only [k2, Int.reduceEq, decide_true, decide_false, i_t, i_f]; exact this
    have k3 : k = 3 := by omega
    simp only [k3, Int.reduceEq, decide_true, decide_false, i_t, i_f]; exact this
  have k1 : ¬ k = 1 := fun h => k123 (.inl h)
  have k2 : ¬ k = 2 := fun h => k123 (.inr (.inl h))
  have k3 : ¬ k = 3 := fun h => k123 (.inr (.inr h))
  simp only [k1, k2, k3, decide_false, i_f]
  refine hJ _ _ fun _ => ?_
  clear hJ
  simp only [S_value_used_0, gd, i_f, rs]
  refine join fun J hJ => ?_
  by_cases k45 : k = 4 ∨ k = 5
  · have : J [.bool true] w1 := by
      refine hJ _ _ fun _ => ?_
      simp only [S_value_used_1, gd, i_t, b2]
      exact fin _ true (by simp [Vl.used, k0, k1, k2, k3, k45]) (by simp)
    by_cases k4 : k = 4
    · simp only [k4, decide_true, i_t]; exact this
    have k5 : k = 5 := by omega
    simp only [k5, Int.reduceEq, decide_true, decide_false, i_t, i_f]; exact this
  have k4 : ¬ k = 4 := fun h => k45 (.inl h)
  have k5 : ¬ k = 5 := fun h => k45 (.inr h)
  simp only [k4, k5, decide_false, i_f]
  refine hJ _ _ fun _ => ?_
  clear hJ
  simp only [S_value_used_1, gd, i_f, rs]
  by_cases k6 : k = 6
  · simp only [k6, decide_true, i_t, b3]
    exact fin _ true (by simp [Vl.used, k6]) (by simp)
  by_cases k7 : k = 7
  · simp only [k7, Int.reduceEq, decide_true, decide_false, i_t, i_f, b4]
    exact fin _ true (by simp [Vl.used, k7]) (by simp)
  by_cases k8 : k = 8
  · simp only [k8, Int.reduceEq, decide_true, decide_false, i_t, i_f, b5]
    exact fin _ true (by simp [Vl.used, k8]) (by simp)
  by_cases k9 : k = 9
  · simp only [k9, Int.reduceEq, decide_true, decide_false, i_t, i_f, b6]
    exact fin _ true (by simp [Vl.used, k9]) (by simp)
  simp only [k6, k7, k8, k9, decide_false, i_f, b0]
  exact fin _ false (by simp [Vl.used, k0, k123, k45, k6, k7, k8, k9]) (by simp)
theorem used_keys {k : Int} {n g s ks cs : Bool} (h : Vl.used k = some (n, g, s, ks, cs)) : ks = decide (k = 7 ∨ k = 9) := by
  revert h
  unfold Vl.used
  repeat' split
  all_goals (intro h; first | (cases h; done) | skip)
  all_goals simp only [Option.some.injEq, Prod.mk.injEq] at h
  all_goals rw [← h.2.2.2.1]
  all_goals symm
  all_goals first | (rw [decide_eq_false_iff_not]; omega) | (rw [decide_eq_true_iff]; omega)
abbrev badE (e : Int) : PanicEntry := { v := .iface 156 (.agg #[.int .i64 e]), recovered := false }
theorem c_must {q r : Bool} {e : Int} {w : World} {PK : List PanicEntry → World → Prop} {K : Value → World → Prop} (h : q = r) (hok : r = true → K (.tuple #[]) w) (hbad : r = false → PK [badE e] w) : CallX Tryz.prog 152 #[.bool q, .int .i64 e] w PK K := by
  subst h
  refine c_any (S_value_must_ok (K := fun e' w' => (q = true → e' = .returned (.tuple #[]) ∧ w' = w) ∧ (q = false → e' = .panicked [badE e] ∧ w' = w)) ?_) ?_
  · unfold S_value_must
    cases q with
    | true =>
      rw [u_not, show (!true) = false from rfl, i_f]
      exact ⟨fun _ => ⟨rfl, rfl⟩, fun h => by cases h⟩
    | false =>
      rw [u_not, show (!false) = true from rfl, i_t]
      have hb : ∀ {PK : List PanicEntry → World → Prop} {K : Value → World → Prop}, DoX Tryz.prog (mBuild 156 #[(0, .int .i64 e)]) w PK K = K (.agg #[.int .i64 e]) w := do_eq (by kernel_rfl)
      rw [hb, m_iface (show notIface Tryz.prog 156 = true by kernel_rfl), m_panic]
      exact ⟨fun h => (by cases h), fun _ => ⟨rfl, rfl⟩⟩
  · rintro e' w' ⟨h1, h2⟩
    cases q with
    | true => obtain ⟨rfl, rfl⟩ := h1 rfl; exact hok rfl
    | false => obtain ⟨rfl, rfl⟩ := h2 rfl; exact hbad rfl
end Go.Proofs.YtiklhhdohckfiaaGreatDoor
namespace Go.Proofs.YtiklhhdohckfiaaGreatDoor
set_option linter.unusedVariables false
set_option linter.unusedSimpArgs false
set_option linter.defProp false
open Eng Go.RowKit
 attribute [local congr] g_congr

theorem vcheck_any (n : Nat) : ∀ (o : Ob) (v : Value) (d : Nat) (w : World) (K : Ending → World → Prop), o.wt ≤ n → OV (InW w) w v o → o.wt ≤ 4611686018427387904 → 1 ≤ d → d ≤ 1000 →
    (Vl.check d o = 0 → ∀ w', Below w.heap.size w w' → K (.returned (.tuple #[])) w') → (Vl.check d o ≠ 0 → ∀ w', Below w.heap.size w w' → K (.panicked [badE (Vl.check d o)]) w') →
    Calls Tryz.prog 95 #[v, .int .i64 (d : Int)] w K := by
  induction n with
  | zero => intro o v d w K h; have := o.wt_pos; omega
  | succ n ih =>
  intro o v d w K hn hov hb hd1 hd hok hbad
  obtain ⟨vk, vc, cs, rfl, ha⟩ := hov.open
  refine S_value_check_ok ?_
  unfold S_value_check
  refine o_obb o ha.keys.one ha.kids.one (Own.start w) fun b w1 ho => ?_
  have out : ∀ (e : Int) (W : World) (L : List Ent), Own w W L → Vl.why d o = e → e ≠ 0 → (pk K) [badE e] W := by
    intro e W L ho h1 h2
    have h3 : Vl.check d o = e := by rw [why_pos (by rw [h1]; exact h2), h1]
    rw [h3] at hbad
    exact hbad h2 W ho.done
  rw [b_leq]
  refine c_must (r := decide (d ≤ 24)) (by rw [decide_eq_decide]; omega) (fun h24 => ?_) fun h24 => out 7 w1 _ ho (by rw [Vl.why, if_pos (by have := of_decide_eq_false h24; omega)]) (by decide)
  have h24' : ¬ 24 < d := by have := of_decide_eq_true h24; omega
  rw [fa_o0, ob_k ho 0 rfl]
  refine c_told (vused_ret o.k w1) rfl ho fun w2 ho => ?_
  simp only [usedV, ex]
  refine o_new (fun b => .pointer (some ⟨b, 0, none⟩)) (uC u0) 159 (fun _ => by kernel_rfl) ho fun b4 w3 ho => ?_
  refine u_put 0 ((Vl.used o.k).getD u0) ho rfl fun w4 ho => ?_
  have ho : Own w w4 [uE b4 ((Vl.used o.k).getD u0), obE b o vk vc] := ho
  have bad10 : (Vl.usesOk o = false ∨ (o.k = 9 ∧ 1 < d)) → (pk K) [badE 10] w4 := fun h => out 10 w4 _ ho (by rw [Vl.why, if_neg h24', if_pos h]) (by decide)
  have lk : ∀ {W : World} {L : List Ent}, Own w W L → ∀ {PK : List PanicEntry → World → Prop} {K : Value → World → Prop}, DoX Tryz.prog (mB .len #[22] 3 #[false] #[vk]) W PK K = K (.int .i64 (o.keys.length : Int)) W := fun ho => sl_len Tryz.underlying22 (ha.own ho).keys.1
  have lc : ∀ {W : World} {L : List Ent}, Own w W L → ∀ {PK : List PanicEntry → World → Prop} {K : Value → World → Prop}, DoX Tryz.prog (mB .len #[23] 3 #[false] #[vc]) W PK K = K (.int .i64 (o.kids.length : Int)) W := fun ho => sl_len Tryz.underlying23 (ha.own ho).kids.1
  cases hu : Vl.used o.k with
  | none =>
    have hb10 := bad10 (.inl (by rw [Vl.usesOk, hu]))
    simp only [Option.isSome_none, rs, g_un]
    exact c_must (r := false) rfl (fun h => by cases h) fun _ => hb10
  | some u =>
  obtain ⟨un, ug, us, uks, ucs⟩ := u
  rw [hu, Option.getD_some] at ho
  have hUo : Vl.usesOk o = ((un || decide (o.n = 0)) && (ug || decide (o.g = 0)) && (us || decide (o.s = [])) && (uks || decide (o.keys = [])) && (ucs || decide (o.kids.length = 0))) := by rw [Vl.usesOk, hu]
  have l0 : ∀ {PK : List PanicEntry → World → Prop} {K : Value → World → Prop}, DoX Tryz.prog (mLoad 4 (.pointer (some ⟨b4, 0, none⟩))) w4 PK K = K (.bool un) w4 := l_cell nBool (ho.cell 0 rfl 0 rfl)
  have l1 : ∀ {PK : List PanicEntry → World → Prop} {K : Value → World → Prop}, DoX Tryz.prog (mLoad 4 (.pointer (some ⟨b4, 0 + 1, none⟩))) w4 PK K = K (.bool ug) w4 := l_cell nBool (ho.cell 0 rfl 1 rfl)
  have l2 : ∀ {PK : List PanicEntry → World → Prop} {K : Value → World → Prop}, DoX Tryz.prog (mLoad 4 (.pointer (some ⟨b4, 0 + 2, none⟩))) w4 PK K = K (.bool us) w4 := l_cell nBool (ho.cell 0 rfl 2 rfl)
  have l3 : ∀ {W : World} {L : List Ent}, Own w W (uE b4 (un, ug, us, uks, ucs) :: L) → ∀ {PK : List PanicEntry → World → Prop} {K : Value → World → Prop}, DoX Tryz.prog (mLoad 4 (.pointer (some ⟨b4, 0 + 3, none⟩))) W PK K = K (.bool uks) W := fun ho => l_cell nBool (ho.cell 0 rfl 3 rfl)
  have l4 : ∀ {PK : List PanicEntry → World → Prop} {K : Value → World → Prop}, DoX Tryz.prog (mLoad 4 (.pointer (some ⟨b4, 0 + 4, none⟩))) w4 PK K = K (.bool ucs) w4 := l_cell nBool (ho.cell 0 rfl 4 rfl)
  simp +contextual only [Option.isSome_some, rs, gs, sel_sel, g_off, pick_orn, Bool.and_false, Bool.not_not, Bool.or_false, fa_u0, fa_u1, fa_u2, fa_u3, fa_u4, l0, l1, l2, l3 ho, l4, fa_o0, fa_o1, fa_o2, fa_o3, fa_o4, fa_o5, ob_k ho 1 rfl, ob_n ho 1 rfl, ob_g ho 1 rfl, ob_s ho 1 rfl, ob_keys ho 1 rfl, ob_kids ho 1 rfl, lk ho, lc ho, e_nil]
  refine c_must (r := Vl.usesOk o && !(decide (o.k = 9) && decide (1 < d))) ?_ (fun hq => ?_) fun hq => ?_
  · rw [hUo, ilen0 o.keys, ilenN o.kids]
    congr 1
    by_cases h9 : o.k = 9
    · simp only [h9, ne_eq, not_true, decide_false, Bool.or_false, decide_true, Bool.true_and]
      rw [Bool.eq_iff_iff]; simp; omega
    · simp only [h9, ne_eq, not_false_eq_true, decide_true, Bool.or_true, decide_false, Bool.false_and, Bool.not_false]
  rotate_left
  · refine bad10 ?_
    rw [Bool.and_eq_false_iff] at hq
    rcases hq with h | h
    · exact .inl h
    · right
      have : (decide (o.k = 9) && decide (1 < d)) = true := by simpa using h
      rw [Bool.and_eq_true] at this
      exact ⟨of_decide_eq_true this.1, of_decide_eq_true this.2⟩
  rw [Bool.and_eq_true] at hq
  obtain ⟨huo, hq9⟩ := hq
  have hno : ¬ (Vl.usesOk o = false ∨ (o.k = 9 ∧ 1 < d)) := by
    rintro (h | ⟨h1, h2⟩)
    · rw [huo] at h; cases h
    · rw [decide_eq_true h1, decide_eq_true h2] at hq9; cases hq9
  rw [ob_v ho 1 rfl]
  refine c_told (vfits_ret o _ w4 (ha.in_ ho).ov) rfl ho fun w5 ho => ?_
  refine c_must (r := Vl.fits o) rfl (fun hfi => ?_) fun hfi => out 2 w5 _ ho (by rw [Vl.why, if_neg h24', if_neg hno, if_pos hfi]) (by decide)
  have hfi' : ¬ Vl.fits o = false := by rw [hfi]; decide
  rw [ob_v ho 1 rfl]
  refine c_told (vshort_ret o _ w5 (ha.in_ ho).ov) rfl ho fun w6 ho => ?_
  refine c_must (r := !decide (Vl.long o.k < o.s.length)) (short_long huo) (fun hlo => ?_) fun hlo => out 5 w6 _ ho (by rw [Vl.why, if_neg h24', if_neg hno, if_neg hfi', if_pos (by simpa using hlo)]) (by decide)
  have hlo' : ¬ Vl.long o.k < o.s.length := by simpa using hlo
  rw [ob_kids ho 1 rfl, lc ho, b_leq]
  refine c_must (r := decide (o.kids.length ≤ 8191)) (by rw [decide_eq_decide]; omega) (fun hm => ?_) fun hm => out 6 w6 _ ho (by rw [Vl.why, if_neg h24', if_neg hno, if_neg hfi', if_neg hlo', if_pos (by have := of_decide_eq_false hm; omega)]) (by decide)
  have hm' : ¬ 8191 < o.kids.length := by have := of_decide_eq_true hm; omega
  rw [ob_k ho 1 rfl, n_int]
  have huk := used_keys hu
  -- behind the form: the kids
  have rest : ∀ (W : World), Vl.form o = true → Own w W [uE b4 (un, ug, us, uks, ucs), obE b o vk vc] →
      DoX Tryz.prog (mLoad 23 (.pointer (some ⟨b, 0 + 5, none⟩))) W (pk K) fun t105 w =>
      DoX Tryz.prog (mB .len #[23] 3 #[false] #[t105]) w (pk K) fun t106 w =>
      LoopX [(.int .i64 0)] w (fun vs1 w N1 => ∀ _ : Sg, S_value_check_0 (.int .i64 (d : Int)) t105 t106 (vs1.getD 0 undef) w N1 K) := by
    intro W hfo ho
    have hw0 : Vl.why d o = 0 := by rw [Vl.why, if_neg h24', if_neg hno, if_neg hfi', if_neg hlo', if_neg hm', if_neg (by rw [hfo]; decide)]
    have hch : Vl.check d o = Vl.checks (d + 1) o.kids := by rw [Vl.check_eq, if_neg (by simp [hw0])]
    rw [hch] at hok hbad
    rw [ob_kids ho 1 rfl, lc ho]
    refine loop (fun vs w' => ∃ (i : Nat), vs = [.int .i64 i] ∧ i ≤ o.kids.length ∧ Vl.checks (d + 1) o.kids = Vl.checks (d + 1) (o.kids.drop i) ∧ Own w w' [uE b4 (un, ug, us, uks, ucs), obE b o vk vc]) (fun vs _ => o.kids.length - n0 vs) ⟨0, rfl, by omega, rfl, ho⟩ ?_
    rintro vs w6 ⟨i, rfl, hi, hT, ho⟩ _
    rw [hT] at hok hbad
    simp only [S_value_check_0, gd, rs]
    by_cases hlt : (i : Int) < (o.kids.length : Int)
    · have hi' : i < o.kids.length := by omega
      simp only [hlt, decide_true, i_t]
      rw [checks_drop _ _ _ hi'] at hok hbad hT
      have hai := ha.own ho
      refine ob_ia hai.kids.1 hai.all hi' fun v hv => ?_
      obtain ⟨vk', vc', cs', rfl, hkid⟩ := hv.open
      have ho6 := ho
      refine o_oba ho fun b7 w7 ho => ?_
      refine ob_put 0 hkid.keys.one hkid.kids.one ho rfl fun w8 ho => ?_
      have ho : Own w w8 [obE b7 o.kids[i] vk' vc', uE b4 (un, ug, us, uks, ucs), obE b o vk vc] := ho
      rw [ob_v ho 0 rfl, wrap64_id (by omega) (by omega), show (d : Int) + 1 = ((d + 1 : Nat) : Int) by omega]
      have hkw := kid_wt hi'
      refine c_any (ih o.kids[i] _ (d + 1) w8 _ (by omega) (hkid.later ho6 ho).ov (by omega) (by omega) (by omega) (fun hc0 w9 hb9 => ?_) (fun hc0 w9 hb9 => ?_)) (fun _ _ h => h)
      · have ho := ho.grow hb9
        rw [if_neg (by simp [hc0])] at hT
        simp only [Cont, rs]
        rw [wrap64_id (by omega) (by omega)]
        exact nextX ⟨i + 1, rfl, by omega, hT, ho.tail⟩ (by simp [n0, intOf]; omega)
      · rw [if_pos hc0] at hbad
        exact hbad hc0 w9 (ho.grow hb9).done
    · simp only [hlt, decide_false, i_f]
      rw [List.drop_of_length_le (by omega), Vl.checks] at hok
      exact hok rfl w6 ho.done
  have bad3 : ∀ (W : World) (L : List Ent), Own w W L → Vl.form o = false → (pk K) [badE 3] W := fun W L ho h => out 3 W _ ho (by rw [Vl.why, if_neg h24', if_neg hno, if_neg hfi', if_neg hlo', if_neg hm', if_pos h]) (by decide)
  by_cases k5 : o.k = 5
  · have k79 : ¬ (o.k = 7 ∨ o.k = 9) := by omega
    have hks : uks = false := by rw [huk, decide_eq_false k79]
    have hf : Vl.form o = Vl.name o.s := by simp [Vl.form, k5]
    rw [show decide (o.k ≠ 5) = false by rw [decide_eq_false_iff_not]; omega, g_ff, ob_s ho 1 rfl, g_ff]
    refine c_eq (vkey_ret o.s w6) ?_
    rw [p_f]
    cases hnm : Vl.name o.s with
    | false =>
      rw [g_ft, g_ft, show sel (wants (Value.bool false) true) undef = undef from rfl, g_un, g_un, g_ft, p_f]
      exact c_must (r := false) rfl (fun h => by cases h) fun _ => bad3 w6 _ ho (by rw [hf, hnm])
    | true =>
      rw [g_tt, l3 ho, hks, g_tt, u_not, show (!false) = true from rfl, show sel (wants (Value.bool true) true) (Value.bool true) = .bool true from rfl, g_tf, g_tf, g_tt, p_t, p_t]
      exact c_must (r := true) rfl (fun _ => rest w6 (by rw [hf, hnm]) ho) fun h => by cases h
  · rw [show decide (o.k ≠ 5) = true by rw [decide_eq_true_iff]; exact k5, g_tf, g_tf, p_t, g_tt, l3 ho, g_tt, u_not]
    cases hks : uks with
    | false =>
      have k79 : ¬ (o.k = 7 ∨ o.k = 9) := by rw [huk, decide_eq_false_iff_not] at hks; exact hks
      rw [show (!false) = true from rfl, show sel (wants (Value.bool true) true) (Value.bool true) = .bool true from rfl, g_tf, g_tf, g_tt, p_t, p_t]
      rw [hks] at ho rest
      exact c_must (r := true) rfl (fun _ => rest w6 (by simp [Vl.form, k5, k79]) ho) fun h => by cases h
    | true =>
      have k79 : o.k = 7 ∨ o.k = 9 := by rw [huk, decide_eq_true_iff] at hks; exact hks
      have hf : Vl.form o = Vl.rising o := by simp [Vl.form, k5, k79]
      rw [show (!true) = false from rfl, show sel (wants (Value.bool true) true) (Value.bool false) = .bool false from rfl, g_ff, ob_v ho 1 rfl, g_ff]
      refine c_told (vrising_ret o _ w6 (ha.in_ ho).ov (by have := key_len (o := o); omega)) rfl ho fun w7 ho => ?_
      rw [g_tt, p_f, p_t]
      rw [hks] at ho rest
      exact c_must (r := Vl.form o) hf.symm (fun hfo => rest w7 hfo ho) fun h => bad3 w7 _ ho h
theorem caught_plain : plainB Tryz.prog 151 = true := by kernel_rfl
theorem leave_fn {rs : List RV} {K : Ending → World → Prop} {f : Nat} {args caps : Array Value} {ds : List Deferred} {u : FrameMode} (hu : u ≠ .run) (hp : plainB Tryz.prog f = true) {w : World}
    (h : CallsD Tryz.prog f (args ++ caps) u w fun
        | .returned _, u', w' => Leave Tryz.prog rs K ds (settle u') w'
        | .panicked chain, u', w' => Leave Tryz.prog rs K ds (raised u' chain) w'
        | .outgrown, _, _ => False) : Leave Tryz.prog rs K ({ target := .fn (.func f) caps, args := args } :: ds) u w :=
  ⟨hu, .func f, caps, f, args ++ caps, rfl, by simpa [invoke] using plain_run hp _ w, h⟩
theorem run_plain : plainB Tryz.prog 94 = true := by kernel_rfl
abbrev nErr5 : notAgg Tryz.prog 28 = true := by kernel_rfl
theorem vCheck_ret (o : Ob) (v : Value) (w : World) (h : OV (InW w) w v o) (hb : o.wt ≤ 4611686018427387904) : Ret Tryz.prog 45 #[v] w (fun v w' => v = .int .i64 (Vl.check 1 o) ∧ Below w.heap.size w w') := by
  refine ret_of fun K hK => S_value_Check_ok ?_
  obtain ⟨vk, vc, cs, rfl, ha⟩ := h.open
  unfold S_value_Check
  refine o_obb o ha.keys.one ha.kids.one (Own.start w) fun b w1 ho => ?_
  rw [m_func]
  refine c_any (S_value_caught_ok (K := fun e w' => e = .returned (.int .i64 (Vl.check 1 o)) ∧ Below w.heap.size w w') ?_) ?_
  rotate_left
  · rintro e w' ⟨rfl, hb'⟩
    exact hK _ _ ⟨rfl, hb'⟩
  unfold S_value_caught
  refine o_new (fun b => .pointer (some ⟨b, 0, none⟩)) [.int .i64 0] 28 (fun _ => by kernel_rfl) ho fun b2 w2 ho => ?_
  rw [m_func]
  refine ⟨_, rfl, ?_⟩
  refine c_val run_plain ?_
  show CallX Tryz.prog _ #[.pointer (some ⟨b, 0, none⟩)] _ _ _
  refine c_any (S_value_Check_1_ok (K := fun e w' => (Vl.check 1 o = 0 → e = .returned (.tuple #[]) ∧ Below w2.heap.size w2 w') ∧ (Vl.check 1 o ≠ 0 → e = .panicked [badE (Vl.check 1 o)] ∧ Below w2.heap.size w2 w')) ?_) ?_
  · unfold S_value_Check_1
    rw [ob_v ho 1 rfl]
    refine c_any (vcheck_any o.wt o _ 1 w2 (fun e w' => (Vl.check 1 o = 0 → e = .returned (.tuple #[]) ∧ Below w2.heap.size w2 w') ∧ (Vl.check 1 o ≠ 0 → e = .panicked [badE (Vl.check 1 o)] ∧ Below w2.heap.size w2 w')) (Nat.le_refl _) (ha.in_ ho).ov hb (by omega) (by omega)
      (fun h0 w' hb' => ⟨fun _ => ⟨rfl, hb'⟩, fun h => absurd h0 h⟩) (fun h0 w' hb' => ⟨fun h => absurd h h0, fun _ => ⟨rfl, hb'⟩⟩)) ?_
    rintro e w' ⟨h1, h2⟩
    by_cases h0 : Vl.check 1 o = 0
    · obtain ⟨rfl, hb'⟩ := h1 h0; exact ⟨fun _ => ⟨rfl, hb'⟩, fun h => absurd h0 h⟩
    · obtain ⟨rfl, hb'⟩ := h2 h0; exact ⟨fun h => absurd h h0, fun _ => ⟨rfl, hb'⟩⟩
  rintro e w' ⟨h1, h2⟩
  by_cases h0 : Vl.check 1 o = 0
  · obtain ⟨rfl, hb'⟩ := h1 h0
    simp only [Cont]
    have ho := ho.grow hb'
    refine o_store 0 ho rfl (by kernel_rfl) rfl (by simp) fun w4 ho => ?_
    refine leave_fn (by simp) caught_plain (S_value_caught_1_dok ?_)
    simp only [S_value_caught_1, recV, recM, Eng.e_nil Tryz.underlying20, rs]
    refine ret_cell1 nErr5 (ho.cell 0 rfl 0 rfl) (And.intro ?_ ho.done)
    rw [h0]
  · obtain ⟨rfl, hb'⟩ := h2 h0
    simp only [Cont, S_value_caught_p0, pd]
    have ho := ho.grow hb'
    refine leave_fn (by simp) caught_plain (S_value_caught_1_dok ?_)
    simp only [S_value_caught_1, recV, recM, Eng.e_some Tryz.underlying20, rs, t_hit (show notIface Tryz.prog 156 = true by kernel_rfl),
      x_ext (show [Value.agg #[.int .i64 (Vl.check 1 o)], Value.bool true][1]? = some (Value.bool true) from rfl), x_ext (show [Value.agg #[.int .i64 (Vl.check 1 o)], Value.bool true][0]? = some (Value.agg #[.int .i64 (Vl.check 1 o)]) from rfl)]
    refine o_new (fun b => .pointer (some ⟨b, 0, none⟩)) [.int .i64 0] 156 (fun _ => by kernel_rfl) ho fun b5 w5 ho => ?_
    refine o_put 0 ho rfl (new := [.int .i64 (Vl.check 1 o)]) (show (Tryz.prog.info? 156).map (·.size) = some 1 by kernel_rfl) (by simp; rfl) rfl fun w6 ho => ?_
    rw [f_addr (show fOff Tryz.prog 156 0 = some 0 by kernel_rfl), l_cell nErr5 (ho.cell 0 rfl 0 rfl)]
    refine o_store 1 ho rfl (by kernel_rfl) rfl (by simp) fun w7 ho => ?_
    exact ret_cell1 nErr5 (ho.cell 1 rfl 0 rfl) (And.intro rfl ho.done)
end Go.Proofs.YtiklhhdohckfiaaGreatDoor
namespace Go.Proofs.YtiklhhdohckfiaaGreatDoor
set_option linter.unusedVariables false
set_option linter.unusedSimpArgs false
set_option linter.defProp false
open Eng Go.RowKit

theorem isnanC_ret (x : List UInt8) (w : World) : Ret Tryz.prog 252 #[.string ⟨x.toArray⟩] w (fun v w' => v = .bool false ∧ w = w') := by
  refine ret_of fun K hK => S_cmp_isNaN_string_ok ?_
  unfold S_cmp_isNaN_string
  rw [n_str]
  exact hK _ _ ⟨by simp, rfl⟩
theorem isnanS_ret (x : List UInt8) (w : World) : Ret Tryz.prog 223 #[.string ⟨x.toArray⟩] w (fun v w' => v = .bool false ∧ w = w') := by
  refine ret_of fun K hK => S_slices_isNaN_string_ok ?_
  unfold S_slices_isNaN_string
  rw [n_str]
  exact hK _ _ ⟨by simp, rfl⟩
theorem cless_ret (x y : List UInt8) (w : World) : Ret Tryz.prog 222 #[.string ⟨x.toArray⟩, .string ⟨y.toArray⟩] w (fun v w' => v = .bool (Vl.less x y) ∧ w = w') := by
  refine ret_of fun K hK => S_cmp_Less_string_ok ?_
  unfold S_cmp_Less_string
  refine c_eq (isnanC_ret x w) ?_
  simp only [rs, s_lss]
  exact hK _ _ ⟨rfl, rfl⟩
theorem shr1 {a : Int} (h0 : 0 ≤ a) (h1 : a ≤ 4611686018427387904) : Int.fdiv (IntKind.wrap .u64 a) (2 ^ (min (1 : Int).toNat IntKind.u64.bits)) = a / 2 := by
  rw [wrapu64_id h0 (by omega)]
  show Int.fdiv a 2 = a / 2
  rw [Int.fdiv_eq_ediv_of_nonneg _ (by omega)]
theorem bsearch_ret (va : Value) (l : List (List UInt8)) (x : List UInt8) (w : World) (ha : Sl w va 1 l.length (strsV l)) (hr : Vl.Rise l) (hl : l.length ≤ 1099511627776) :
    Ret Tryz.prog 182 #[va, .string ⟨x.toArray⟩] w (fun v w' => v = .tuple #[.int .i64 (Vl.place l x : Nat), .bool (Vl.hit l x)] ∧ w = w') := by
  refine ret_of fun K hK => S_slices_BinarySearch_string_string_ok ?_
  unfold S_slices_BinarySearch_string_string
  rw [sl_len Tryz.underlying22 ha]
  refine loop (fun vs w' => ∃ (i j : Nat), vs = [.int .i64 i, .int .i64 j] ∧ i ≤ j ∧ j ≤ l.length ∧ (∀ m (h : m < l.length), m < i → Vl.less l[m] x = true) ∧ (∀ m (h : m < l.length), j ≤ m → Vl.less l[m] x = false) ∧ w = w') (fun vs _ => n1 vs - n0 vs)
    ⟨0, l.length, rfl, by omega, by omega, fun m _ h => by omega, fun m h1 h2 => by omega, rfl⟩ ?_
  rintro vs w2 ⟨i, j, rfl, hij, hj, hlo, hhi, rfl⟩ _
  simp only [S_slices_BinarySearch_string_string_0, gd, rs]
  by_cases hlt : (i : Int) < (j : Int)
  · simp only [hlt, decide_true, i_t]
    rw [wrap64_id (by omega) (by omega), c_int (show (Tryz.prog.underlying 3).isSome = true by kernel_rfl) Tryz.underlying151, b_shr (by omega), shr1 (by omega) (by omega),
      c_int (show (Tryz.prog.underlying 151).isSome = true by kernel_rfl) Tryz.underlying3, wrap64_id (by omega) (by omega)]
    obtain ⟨h, hh⟩ : ∃ h : Nat, ((i : Int) + (j : Int)) / 2 = (h : Int) := ⟨(i + j) / 2, by omega⟩
    rw [hh]
    have h1 : i ≤ h := by omega
    have h2 : h < j := by omega
    have h3 : h < l.length := by omega
    refine sl_ia1 (.string ⟨(l[h]).toArray⟩) Tryz.underlying22 (by kernel_rfl) ha (by omega) (by rw [Int.toNat_natCast]; exact strsV_get h3) fun q hq => ?_
    rw [l_cell nStrI hq]
    refine c_eq (cless_ret l[h] x w) ?_
    cases hc : Vl.less l[h] x with
    | true =>
      simp only [rs]
      rw [wrap64_id (by omega) (by omega)]
      refine nextX ⟨h + 1, j, rfl, by omega, by omega, fun m hm hmi => ?_, hhi, rfl⟩ (by simp [n0, n1, intOf]; omega)
      rcases Nat.lt_or_ge m h with h4 | h4
      · exact Vl.less_trans (Vl.rise_get hr h4 h3) hc
      · have : m = h := by omega
        subst this; exact hc
    | false =>
      simp only [rs]
      refine nextX ⟨i, h, rfl, by omega, by omega, hlo, fun m hm hmi => ?_, rfl⟩ (by simp [n0, n1, intOf]; omega)
      rcases Nat.lt_or_ge h m with h4 | h4
      · cases hm2 : Vl.less l[m] x with
        | false => rfl
        | true => have := Vl.less_trans (Vl.rise_get hr h4 hm) hm2; rw [hc] at this; cases this
      · have : m = h := by omega
        subst this; exact hc
  · have he : i = j := by omega
    subst he
    simp only [hlt, decide_false, i_f]
    have hp : Vl.place l x = i := Vl.place_at hj hlo (fun h => hhi i h (Nat.le_refl _))
    by_cases hn : (i : Int) < (l.length : Int)
    · have hi' : i < l.length := by omega
      simp only [hn, decide_true, rs]
      refine sl_ia1 (.string ⟨(l[i]).toArray⟩) Tryz.underlying22 (by kernel_rfl) ha (by omega) (by rw [Int.toNat_natCast]; exact strsV_get hi') fun q hq => ?_
      rw [l_cell nStrI hq]
      simp only [rs]
      by_cases hx : l[i] = x
      · simp only [hx, decide_true, rs, g_un]
        refine hK _ _ ⟨?_, rfl⟩
        rw [hp]
        unfold Vl.hit
        rw [hp, List.getElem?_eq_getElem hi', hx]; simp
      · simp only [hx, decide_false, rs]
        refine sl_ia1 (.string ⟨(l[i]).toArray⟩) Tryz.underlying22 (by kernel_rfl) ha (by omega) (by rw [Int.toNat_natCast]; exact strsV_get hi') fun q hq => ?_
        rw [l_cell nStrI hq]
        refine c_eq (isnanS_ret l[i] w) ?_
        simp only [rs]
        refine hK _ _ ⟨?_, rfl⟩
        rw [hp]
        unfold Vl.hit
        rw [hp, List.getElem?_eq_getElem hi']; simp [hx]
    · simp only [hn, decide_false, rs, g_un]
      refine hK _ _ ⟨?_, rfl⟩
      rw [hp]
      unfold Vl.hit
      rw [hp, List.getElem?_eq_none (by omega)]; simp
end Go.Proofs.YtiklhhdohckfiaaGreatDoor
namespace Go.Proofs.YtiklhhdohckfiaaGreatDoor
set_option linter.unusedVariables false
set_option linter.unusedSimpArgs false
set_option linter.defProp false
set_option linter.unusedVariables false
set_option maxRecDepth 20000
open Eng

def S_foliantref05_Get_0 (t1 t2 t4 t5 t18 t19 t20 : Value) (w : World) (N1 : List Value → World → Prop) (K : Ending → World → Prop) : Prop :=
 DoX Tryz.prog (mBin .lss 3 t20 t19) w (pk K) fun t21 w =>
 IfX t21 (DoX Tryz.prog (mIA 22 t18 t20) w (pk K) fun t23 w =>
 DoX Tryz.prog (mLoad 9 t23) w (pk K) fun t24 w =>
 DoX Tryz.prog (mEq .eql 9 (.tmp 25) (.tmp 26) t24 t1) w (pk K) fun t27 w =>
 IfX t27 (DoX Tryz.prog (mFA 25 t2 5) w (pk K) fun t29 w =>
 DoX Tryz.prog (mLoad 23 t29) w (pk K) fun t30 w =>
 DoX Tryz.prog (mB .len #[23] 3 #[false] #[t30]) w (pk K) fun t31 w =>
 DoX Tryz.prog (mBin .geq 3 t20 t31) w (pk K) fun t32 w =>
 IfX t32 (DoX Tryz.prog (mBuild 25 #[]) w (pk K) fun t33 w =>
 DoX Tryz.prog (mStore 25 t4 t33) w (pk K) fun _ w =>
 RetX Tryz.prog [.cell t4 25, .val (.bool false)] w K) (DoX Tryz.prog (mFA 25 t2 5) w (pk K) fun t34 w =>
 DoX Tryz.prog (mLoad 23 t34) w (pk K) fun t35 w =>
 DoX Tryz.prog (mIA 23 t35 t20) w (pk K) fun t37 w =>
 DoX Tryz.prog (mLoad 25 t37) w (pk K) fun t38 w =>
 DoX Tryz.prog (mStore 25 t4 t38) w (pk K) fun _ w =>
 RetX Tryz.prog [.cell t4 25, .val (.bool true)] w K)) (DoX Tryz.prog (mBin .add 3 t20 (.int .i64 1)) w (pk K) fun t39 w =>
 N1 [t5, t39] w)) (DoX Tryz.prog (mBuild 25 #[]) w (pk K) fun t40 w =>
 DoX Tryz.prog (mStore 25 t4 t40) w (pk K) fun _ w =>
 RetX Tryz.prog [.cell t4 25, .val (.bool false)] w K)
def S_foliantref05_Get (t0 t1 : Value) (w : World) (K : Ending → World → Prop) : Prop :=
 DoX Tryz.prog (mBox 25 t0) w (pk K) fun t2 w =>
 DoX Tryz.prog (mAlloc 25) w (pk K) fun t4 w =>
 DoX Tryz.prog (mFA 25 t2 0) w (pk K) fun t8 w =>
 DoX Tryz.prog (mLoad 3 t8) w (pk K) fun t9 w =>
 DoX Tryz.prog (mEq .neq 3 (.tmp 9) (.const (.int .i64 7)) t9 (.int .i64 7)) w (pk K) fun t10 w =>
 GDo t10 true (fun E => DoX Tryz.prog (mFA 25 t2 0) w (pk K) E) w fun t12 w =>
 GDo t10 true (fun E => DoX Tryz.prog (mLoad 3 t12) w (pk K) E) w fun t13 w =>
 GDo t10 true (fun E => DoX Tryz.prog (mEq .neq 3 (.tmp 13) (.const (.int .i64 9)) t13 (.int .i64 9)) w (pk K) E) w fun t14 w =>
 DoX Tryz.prog (mPick t10 t14 (.bool false)) w (pk K) fun t15 w =>
 IfX t15 (DoX Tryz.prog (mBuild 25 #[]) w (pk K) fun t16 w =>
 DoX Tryz.prog (mStore 25 t4 t16) w (pk K) fun _ w =>
 RetX Tryz.prog [.cell t4 25, .val (.bool false)] w K) (DoX Tryz.prog (mFA 25 t2 4) w (pk K) fun t17 w =>
 DoX Tryz.prog (mLoad 22 t17) w (pk K) fun t18 w =>
 DoX Tryz.prog (mB .len #[22] 3 #[false] #[t18]) w (pk K) fun t19 w =>
 LoopX [(.bool false), (.int .i64 0)] w (fun vs1 w N1 => ∀ _ : Sg, S_foliantref05_Get_0 t1 t2 t4 (vs1.getD 0 undef) t18 t19 (vs1.getD 1 undef) w N1 K))
theorem S_foliantref05_Get_eq (t0 t1 : Value) (w : World) (K : Ending → World → Prop) : wpX Tryz.prog 41 [] [(4, [5, 20])] none (bodyOf Tryz.f66) (topQ Tryz.prog [.cell 4 25, .tmp 5] K) (startX [t0, t1]) [] w = S_foliantref05_Get t0 t1 w K := by kernel_rfl
theorem S_foliantref05_Get_ok {t0 t1 : Value} {w : World} {K : Ending → World → Prop} (h : S_foliantref05_Get t0 t1 w K) : Calls Tryz.prog 66 #[t0, t1] w K :=
  calls_of_wpX Tryz.func66 rfl rfl rfl rfl (Eq.mpr (S_foliantref05_Get_eq t0 t1 w K) h)

end Go.Proofs.YtiklhhdohckfiaaGreatDoor
namespace Go.Proofs.YtiklhhdohckfiaaGreatDoor
set_option linter.unusedVariables false
set_option linter.unusedSimpArgs false
set_option linter.defProp false
open Go
theorem Ob.len_wts : ∀ os : List Ob, os.length ≤ Ob.wts os
  | [] => by simp
  | o :: os => by
    have := Ob.len_wts os
    have : 1 ≤ o.wt := by cases o; rw [Ob.wt]; omega
    rw [Ob.wts, List.length_cons]; omega
namespace Wr
def num (n : Int) : List UInt8 := (Pl.pInt n).1
def nul : List UInt8 := [110, 117, 108, 108]
def tru : List UInt8 := [116, 114, 117, 101]
def fal : List UInt8 := [102, 97, 108, 115, 101]
def leaf (k n : Int) (s : List UInt8) : List UInt8 :=
  if k = 1 then (if n = 0 then fal else tru)
  else if k = 2 then num n
  else if k = 3 then (Pl.pReal n).1
  else if k = 4 then (Pl.pStr s).1
  else if k = 5 then (Pl.pName s).1
  else nul
 mutual
def parts : Ob → List (List UInt8)
  | .mk k n g s keys kids =>
    if k = 8 then [num n, num g, [82]]
    else if k = 6 then [91] :: (partsL kids ++ [[93]])
    else if k = 7 then [60, 60] :: (partsD keys kids ++ [[62, 62]])
    else [leaf k n s]
def partsL : List Ob → List (List UInt8)
  | [] => []
  | o :: os => parts o ++ partsL os
def partsD (keys : List (List UInt8)) : List Ob → List (List UInt8)
  | [] => []
  | o :: os => match keys with
    | [] => []
    | key :: ks => (Pl.pName key).1 :: (parts o ++ partsD ks os)
end
theorem parts_eq (o : Ob) : parts o = if o.k = 8 then [num o.n, num o.g, [82]] else if o.k = 6 then [91] :: (partsL o.kids ++ [[93]]) else if o.k = 7 then [60, 60] :: (partsD o.keys o.kids ++ [[62, 62]]) else [leaf o.k o.n o.s] := by
  cases o; rw [parts]; rfl
def text (o : Ob) : List UInt8 × Int := if Vl.check 1 o ≠ 0 then ([], Vl.check 1 o) else if o.k = 9 then ([], 10) else (Pl.join (parts o), 0)
theorem check_kids {d : Nat} {o : Ob} (h : Vl.check d o = 0) : ∀ x ∈ o.kids, Vl.check (d + 1) x = 0 := by
  rw [Vl.check_eq] at h
  split at h
  · rename_i hw; exact absurd h hw
  · generalize o.kids = os at h ⊢
    induction os with
    | nil => intro x hx; cases hx
    | cons a os ih =>
      rw [Vl.checks] at h
      split at h
      · rename_i hw; exact absurd h hw
      · rename_i hw
        intro x hx
        rcases List.mem_cons.1 hx with rfl | hx
        · exact Classical.not_not.1 hw
        · exact ih h x hx
theorem check_why {d : Nat} {o : Ob} (h : Vl.check d o = 0) : Vl.why d o = 0 := by
  rw [Vl.check_eq] at h
  split at h
  · exact h
  · rename_i hw; exact Classical.not_not.1 hw
end Wr
end Go.Proofs.YtiklhhdohckfiaaGreatDoor
namespace Go.Proofs.YtiklhhdohckfiaaGreatDoor
set_option linter.unusedVariables false
set_option linter.unusedSimpArgs false
set_option linter.defProp false
set_option linter.unusedVariables false
set_option maxRecDepth 20000
open Eng

end Go.Proofs.YtiklhhdohckfiaaGreatDoor
namespace Go.Proofs.YtiklhhdohckfiaaGreatDoor
set_option linter.unusedVariables false
set_option linter.unusedSimpArgs false
set_option linter.defProp false
open Go
namespace Lx
open Oc
def eol (c : UInt8) : Bool := decide (c = 13) || decide (c = 10)
def skipF : Bool → List UInt8 → Nat
  | _, [] => 0
  | true, c :: t => 1 + skipF (!eol c) t
  | false, c :: t => if c = 37 then 1 + skipF true t else if white c then 1 + skipF false t else 0
def skip (s : List UInt8) (k : Nat) : Nat := k + skipF false (s.drop k)
def skipI (s : List UInt8) (k : Int) : Int := if k < 0 ∨ (s.length : Int) < k then k else ((skip s k.toNat : Nat) : Int)
def lineF : List UInt8 → Nat
  | [] => 0
  | c :: t => if c = 10 then 1 else if c = 13 then (if t.head? = some 10 then 2 else 1) else 1 + lineF t
theorem lineF_le : ∀ l : List UInt8, lineF l ≤ l.length
  | [] => by simp [lineF]
  | c :: t => by
    have := lineF_le t
    simp only [lineF, List.length_cons]
    split
    · omega
    · split
      · split
        · rename_i h
          cases t with
          | nil => cases h
          | cons d t => simp
        · omega
      · omega
theorem drop_cons {s : List UInt8} {i : Nat} (h : i < s.length) : s.drop i = s[i] :: s.drop (i + 1) := List.drop_eq_getElem_cons h
def digit (c : UInt8) : Int :=
  if 48 ≤ c.toNat ∧ c.toNat ≤ 57 then (c.toNat : Int) - 48
  else if 65 ≤ c.toNat ∧ c.toNat ≤ 70 then (c.toNat : Int) - 65 + 10
  else if 97 ≤ c.toNat ∧ c.toNat ≤ 102 then (c.toNat : Int) - 97 + 10
  else -1
def byte (a b : Int) : UInt8 := UInt8.ofNat (16 * a + b).toNat
end Lx
end Go.Proofs.YtiklhhdohckfiaaGreatDoor
namespace Go.Proofs.YtiklhhdohckfiaaGreatDoor
set_option linter.unusedVariables false
set_option linter.unusedSimpArgs false
set_option linter.defProp false
open Go
namespace Lx
open Oc
structure Tok where
  k : Int
  a : Int
  t : Int
  n : Int
  s : List UInt8
  deriving DecidableEq
def none_ : Tok := ⟨0, 0, 0, 0, []⟩
def refused (e : Int) : Tok × Int := (none_, e)
def told (k a t : Int) (x : List UInt8) (most : Int) : Tok × Int := if most < (x.length : Int) then refused 5 else (⟨k, a, t, 0, x⟩, 0)
def runF : List UInt8 → Nat
  | [] => 0
  | c :: t => if regular c then 1 + runF t else 0
def run (s : List UInt8) (i : Nat) : Nat := i + runF (s.drop i)
def cut (s : List UInt8) (i j : Nat) : List UInt8 := (s.drop i).take (j - i)
def nameF : List UInt8 → Option (List UInt8)
  | [] => some []
  | c :: t =>
    if c = 35 then match t with
      | a :: b :: t => if digit a < 0 ∨ digit b < 0 ∨ 16 * digit a + digit b = 0 then none else (nameF t).map (byte (digit a) (digit b) :: ·)
      | _ => none
    else (nameF t).map (c :: ·)
theorem nameF_ne {c : UInt8} {t : List UInt8} (h : ¬ c = 35) : nameF (c :: t) = (nameF t).map (c :: ·) := by
  cases t with
  | nil => simp [nameF, h]
  | cons a t => cases t <;> simp [nameF, h]
def name (s : List UInt8) (at_ : Nat) : Tok × Int :=
  match nameF (cut s (at_ + 1) (run s (at_ + 1))) with
  | none => refused 3
  | some x => told 4 at_ (run s (at_ + 1)) x 127
def oct (c : UInt8) : Bool := decide (48 ≤ c.toNat) && decide (c.toNat ≤ 55)
def octF : Nat → Nat → List UInt8 → Nat × Nat
  | 0, n, _ => (n, 0)
  | _ + 1, n, [] => (n, 0)
  | m + 1, n, c :: t => if oct c then ((octF m (8 * n + (c.toNat - 48)) t).1, (octF m (8 * n + (c.toNat - 48)) t).2 + 1) else (n, 0)
def escL (c : UInt8) : Option UInt8 := if c = 110 then some 10 else if c = 114 then some 13 else if c = 116 then some 9 else if c = 98 then some 8 else if c = 102 then some 12 else none
def escF : List UInt8 → List UInt8 × Nat
  | [] => ([], 0)
  | c :: t => match escL c with
    | some b => ([b], 1)
    | none => if eol c then ([], lineF (c :: t)) else if 0 < (octF 3 0 (c :: t)).2 then ([UInt8.ofNat (octF 3 0 (c :: t)).1], (octF 3 0 (c :: t)).2) else ([c], 1)
def textG : Nat → Nat → List UInt8 → Option (List UInt8 × Nat)
  | _, _, [] => none
  | k + 1, o, _ :: t => (textG k o t).map fun r => (r.1, r.2 + 1)
  | 0, o, c :: t =>
    if eol c then (textG (lineF (c :: t) - 1) o t).map fun r => (10 :: r.1, r.2 + 1)
    else if c = 92 then if t = [] then none else (textG (escF t).2 o t).map fun r => ((escF t).1 ++ r.1, r.2 + 1)
    else if c = 40 then (textG 0 (o + 1) t).map fun r => (c :: r.1, r.2 + 1)
    else if c = 41 then if o ≤ 1 then some ([], 1) else (textG 0 (o - 1) t).map fun r => (c :: r.1, r.2 + 1)
    else (textG 0 o t).map fun r => (c :: r.1, r.2 + 1)
theorem textG_skip : ∀ (k o : Nat) (l : List UInt8), k ≤ l.length → textG k o l = (textG 0 o (l.drop k)).map fun r => (r.1, r.2 + k)
  | 0, o, l, _ => by simp
  | k + 1, o, [], h => by simp at h
  | k + 1, o, c :: t, h => by
    have ih := textG_skip k o t (by simpa using h)
    simp only [textG, ih, List.drop_succ_cons, Option.map_map]
    congr 1
theorem octF_le : ∀ (m n : Nat) (l : List UInt8), (octF m n l).2 ≤ l.length ∧ (octF m n l).2 ≤ m
  | 0, n, l => by simp [octF]
  | m + 1, n, [] => by simp [octF]
  | m + 1, n, c :: t => by
    have := octF_le m (8 * n + (c.toNat - 48)) t
    simp only [octF]
    split <;> simp <;> omega
theorem escF_le (l : List UInt8) : (escF l).2 ≤ l.length := by
  cases l with
  | nil => simp [escF]
  | cons c t =>
    simp only [escF]
    split
    · simp
    · split
      · exact lineF_le _
      · split
        · exact (octF_le _ _ _).1
        · simp
def text (s : List UInt8) (at_ : Nat) : Tok × Int :=
  match textG 0 1 (s.drop (at_ + 1)) with
  | none => refused 4
  | some r => told 3 at_ (at_ + 1 + r.2 : Nat) r.1 32767
def hexF : Int → List UInt8 → (List UInt8 × Nat) ⊕ Int
  | _, [] => .inr 4
  | h, c :: t =>
    if c = 62 then .inl (if 0 ≤ h then [byte h 0] else [], 1)
    else if white c then match hexF h t with | .inl r => .inl (r.1, r.2 + 1) | .inr e => .inr e
    else if digit c < 0 then .inr 3
    else if h < 0 then match hexF (digit c) t with | .inl r => .inl (r.1, r.2 + 1) | .inr e => .inr e
    else match hexF (-1) t with | .inl r => .inl (byte h (digit c) :: r.1, r.2 + 1) | .inr e => .inr e
def hex (s : List UInt8) (at_ : Nat) : Tok × Int :=
  match hexF (-1) (s.drop (at_ + 1)) with
  | .inr e => refused e
  | .inl r => told 3 at_ (at_ + 1 + r.2 : Nat) r.1 32767
def sgn (c : UInt8) : Bool := decide (c = 43) || decide (c = 45)
def dig (c : UInt8) : Bool := decide (48 ≤ c.toNat) && decide (c.toNat ≤ 57)
def unsign : List UInt8 → List UInt8
  | [] => []
  | c :: t => if sgn c then t else c :: t
def intForm (t : List UInt8) : Bool := !(unsign t).isEmpty && (unsign t).all dig
def val (n : Nat) (l : List UInt8) : Nat := l.foldl (fun n c => 10 * n + (c.toNat - 48)) n
def whole (t : List UInt8) : Int × Int :=
  if 2147483647 < val 0 (unsign t) then (0, 2) else (if t.head? = some 45 then -(val 0 (unsign t) : Int) else (val 0 (unsign t) : Int), 0)
def wordT (t : List UInt8) (a b : Int) : Tok × Int :=
  if intForm t then (if (whole t).2 ≠ 0 then refused (whole t).2 else (⟨1, a, b, (whole t).1, []⟩, 0))
  else if t.contains 46 ∧ (Fx.read t).2 = 0 then (⟨2, a, b, (Fx.read t).1, []⟩, 0)
  else if t.contains 46 ∧ (Fx.read t).2 = 2 then refused 2
  else told 5 a b t 127
def word (s : List UInt8) (at_ : Nat) : Tok × Int := wordT (cut s at_ (run s at_)) at_ (run s at_)
def mark (s : List UInt8) (at_ n : Nat) : Tok × Int := (⟨6, at_, (at_ + n : Nat), 0, cut s at_ (at_ + n)⟩, 0)
def token (s : List UInt8) (a : Nat) : Tok × Int :=
  match s.drop a with
  | [] => (⟨0, a, a, 0, []⟩, 0)
  | c :: t =>
    if c = 91 ∨ c = 93 ∨ c = 123 ∨ c = 125 then mark s a 1
    else if c = 60 then (if t.head? = some c then mark s a 2 else hex s a)
    else if c = 62 then (if t.head? = some c then mark s a 2 else refused 3)
    else if c = 47 then name s a
    else if c = 40 then text s a
    else if c = 41 then refused 3
    else word s a
def next (s : List UInt8) (at_ : Int) : Tok × Int := if at_ < 0 ∨ (s.length : Int) < at_ then refused 1 else token s (skip s at_.toNat)
def upto (s : List UInt8) : Nat → Int → List Tok ⊕ (Int × Int)
  | 0, _ => .inl []
  | m + 1, at_ =>
    if (next s at_).2 ≠ 0 then .inr (skipI s at_, (next s at_).2)
    else if (next s at_).1.k = 0 then .inl []
    else match upto s m (next s at_).1.t with
      | .inl l => .inl ((next s at_).1 :: l)
      | .inr f => .inr f
end Lx
end Go.Proofs.YtiklhhdohckfiaaGreatDoor
namespace Go.Proofs.YtiklhhdohckfiaaGreatDoor
set_option linter.unusedVariables false
set_option linter.unusedSimpArgs false
set_option linter.defProp false
open Go
namespace Lx
open Oc
def Steps (s : List UInt8) (a : Int) (l : List Tok) (b : Int) : Prop := ∀ m, upto s (l.length + m) a = match upto s m b with | .inl r => .inl (l ++ r) | .inr f => .inr f
theorem Steps.nil (s : List UInt8) (a : Int) : Steps s a [] a := by
  intro m
  rw [List.length_nil, Nat.zero_add]
  cases upto s m a <;> rfl
theorem Steps.snoc {s : List UInt8} {a b : Int} {l : List Tok} (h : Steps s a l b) (h1 : (next s b).2 = 0) (h2 : (next s b).1.k ≠ 0) : Steps s a (l ++ [(next s b).1]) (next s b).1.t := by
  intro m
  have := h (m + 1)
  rw [List.length_append, List.length_singleton, Nat.add_assoc, Nat.add_comm 1 m, this]
  rw [upto, if_neg (by rw [h1]; simp), if_neg h2]
  cases upto s m (next s b).1.t <;> simp
theorem Steps.fin {s : List UInt8} {a b : Int} {l : List Tok} (h : Steps s a l b) (m : Nat) : upto s (l.length + m) a = match upto s m b with | .inl r => .inl (l ++ r) | .inr f => .inr f := h m
end Lx
end Go.Proofs.YtiklhhdohckfiaaGreatDoor
namespace Go.Proofs.YtiklhhdohckfiaaGreatDoor
set_option linter.unusedVariables false
set_option linter.unusedSimpArgs false
set_option linter.defProp false
open Go
namespace Lx
open Oc
theorem map_some {α β : Type} {f : α → β} {x : Option α} {r : β} (h : x.map f = some r) : ∃ q, x = some q ∧ r = f q := by
  cases x with
  | none => cases h
  | some q => cases h; exact ⟨q, rfl, rfl⟩
theorem cut_full (u : List UInt8) : cut u 0 u.length = u := by simp [cut]
end Lx
end Go.Proofs.YtiklhhdohckfiaaGreatDoor
namespace Go.Proofs.YtiklhhdohckfiaaGreatDoor
set_option linter.unusedVariables false
set_option linter.unusedSimpArgs false
set_option linter.defProp false
open Go
namespace Lx
open Oc
theorem all8 {p : UInt8 → Prop} (h : ∀ n : Fin 256, p (UInt8.ofNat n.val)) (c : UInt8) : p c := by
  have := h ⟨c.toNat, c.toNat_lt⟩
  simpa using this
theorem regular_ne (c : UInt8) : regular c = true → white c = false ∧ c ≠ 37 ∧ ¬ (c = 91 ∨ c = 93 ∨ c = 123 ∨ c = 125) ∧ c ≠ 60 ∧ c ≠ 62 ∧ c ≠ 47 ∧ c ≠ 40 ∧ c ≠ 41 := by
  refine all8 (p := fun c => regular c = true → white c = false ∧ c ≠ 37 ∧ ¬ (c = 91 ∨ c = 93 ∨ c = 123 ∨ c = 125) ∧ c ≠ 60 ∧ c ≠ 62 ∧ c ≠ 47 ∧ c ≠ 40 ∧ c ≠ 41) ?_ c
  decide +kernel
theorem dig_reg (c : UInt8) : dig c = true → regular c = true ∧ sgn c = false ∧ c ≠ 45 := by
  refine all8 (p := fun c => dig c = true → regular c = true ∧ sgn c = false ∧ c ≠ 45) ?_ c
  decide +kernel
theorem val_cons (n : Nat) (c : UInt8) (l : List UInt8) : val n (c :: l) = val (10 * n + (c.toNat - 48)) l := by simp only [val, List.foldl_cons]
theorem token_word {s : List UInt8} {a : Nat} {c : UInt8} {t : List UInt8} (hd : s.drop a = c :: t) (h : regular c = true) : token s a = word s a := by
  obtain ⟨_, _, h1, h2, h3, h4, h5, h6⟩ := regular_ne c h
  rw [token, hd]
  simp only [if_neg h1, if_neg h2, if_neg h3, if_neg h4, if_neg h5, if_neg h6]
theorem all_reg {ds : List UInt8} (h : ds.all dig = true) : ds.all regular = true := by
  rw [List.all_eq_true] at h ⊢
  exact fun c hc => (dig_reg c (h c hc)).1
theorem unsign_num {sg ds : List UInt8} (hs : sg = [] ∨ sg = [45]) (h : ds.all dig = true) : unsign (sg ++ ds) = ds := by
  rcases hs with rfl | rfl
  · cases ds with
    | nil => rfl
    | cons c t =>
      simp only [List.all_cons, Bool.and_eq_true] at h
      rw [List.nil_append, unsign, (dig_reg c h.1).2.1]; rfl
  · rfl
end Lx
end Go.Proofs.YtiklhhdohckfiaaGreatDoor
namespace Go.Proofs.YtiklhhdohckfiaaGreatDoor
set_option linter.unusedVariables false
set_option linter.unusedSimpArgs false
set_option linter.defProp false
open Go
namespace Lx
open Oc
theorem word_next {t : List UInt8} (h : t ≠ []) (hr : t.all regular = true) : next t 0 = wordT t 0 t.length := by
  cases t with
  | nil => exact absurd rfl h
  | cons c r =>
    have hc : regular c = true := by simp only [List.all_cons, Bool.and_eq_true] at hr; exact hr.1
    obtain ⟨hw, h37, _⟩ := regular_ne c hc
    have hsk : skip (c :: r) 0 = 0 := by
      unfold skip
      rw [List.drop_zero, skipF, if_neg h37, if_neg (by rw [hw]; decide)]
    have all_run : ∀ l : List UInt8, l.all regular = true → runF l = l.length := by
      intro l
      induction l with
      | nil => intro _; rfl
      | cons d l ih =>
        intro hl
        simp only [List.all_cons, Bool.and_eq_true] at hl
        rw [runF, if_pos hl.1, ih hl.2, List.length_cons]; omega
    have hrun : run (c :: r) 0 = (c :: r).length := by
      unfold run
      rw [List.drop_zero, all_run _ hr, Nat.zero_add]
    unfold next
    rw [if_neg (by omega), Int.toNat_zero, hsk, token_word (List.drop_zero) hc, word, hrun, cut_full]; rfl
theorem val_fx : ∀ (l : List UInt8) (n : Nat), l.all dig = true → ((val n l : Nat) : Int) = Fx.val n l
  | [], n, _ => rfl
  | c :: l, n, h => by
    simp only [List.all_cons, Bool.and_eq_true] at h
    have hc : 48 ≤ c.toNat := by have := h.1; simp only [dig, Bool.and_eq_true, decide_eq_true_eq] at this; omega
    rw [val_cons, Fx.val_cons, val_fx l _ h.2]
    congr 1
    omega
theorem itoa_next {n : Int} (h1 : -2147483647 ≤ n) (h2 : n ≤ 2147483647) : next (Lib.itoa n) 0 = (⟨1, 0, (Lib.itoa n).length, n, []⟩, 0) := by
  have dec : ∀ u : Nat, (Lib.decDigits u).all dig = true ∧ val 0 (Lib.decDigits u) = u ∧ Lib.decDigits u ≠ [] := by
    intro u
    obtain ⟨d1, d2⟩ := Pl.dec_val u
    refine ⟨d2, by have := val_fx (Lib.decDigits u) 0 d2; rw [show ((0 : Nat) : Int) = 0 from rfl, d1] at this; omega, fun e => ?_⟩
    have := Lib.decDigits_length u
    rw [e] at this
    have h1 : 1 ≤ Lib.nDigits u := by unfold Lib.nDigits; split <;> omega
    simp at this; omega
  have go : ∀ (sg : List UInt8) (u : Nat), (sg = [] ∨ sg = [45]) → u ≤ 2147483647 → n = (if sg = [] then (u : Int) else -(u : Int)) → Lib.itoa n = sg ++ Lib.decDigits u → next (Lib.itoa n) 0 = (⟨1, 0, (Lib.itoa n).length, n, []⟩, 0) := by
    intro sg u hs hu hn he
    obtain ⟨d1, d2, d3⟩ := dec u
    have ht : (sg ++ Lib.decDigits u).all regular = true := by
      rw [List.all_append, all_reg d1, Bool.and_true]
      rcases hs with rfl | rfl <;> rfl
    rw [he, word_next (by simp [d3]) ht, wordT]
    have hus := unsign_num hs d1
    have hI : intForm (sg ++ Lib.decDigits u) = true := by
      unfold intForm
      rw [hus, d1]
      cases hd : Lib.decDigits u with
      | nil => exact absurd hd d3
      | cons => rfl
    have hhead : (sg ++ Lib.decDigits u).head? = some 45 ↔ sg = [45] := by
      rcases hs with rfl | rfl
      · cases hd : Lib.decDigits u with
        | nil => exact absurd hd d3
        | cons c t =>
          rw [hd] at d1
          simp only [List.all_cons, Bool.and_eq_true] at d1
          simp [(dig_reg c d1.1).2.2]
      · simp
    have hW : whole (sg ++ Lib.decDigits u) = (n, 0) := by
      unfold whole
      rw [hus, d2, if_neg (by omega)]
      rcases hs with rfl | rfl
      · rw [if_neg (by rw [hhead]; simp), hn, if_pos rfl]
      · rw [if_pos (by rw [hhead]), hn, if_neg (by simp)]
    rw [if_pos hI, hW, if_neg (by simp)]
  rcases Pl.itoa_shape n with ⟨u, hu, e⟩ | ⟨u, hu, hp, e⟩
  · exact go [] u (.inl rfl) (by omega) (by simpa using hu) (by simpa using e)
  · exact go [45] u (.inr rfl) (by omega) (by simpa using hu) (by simpa using e)
theorem dig_all_reg {l : List UInt8} (h : l.all Fx.isDig = true) : l.all regular = true := all_reg h
theorem text_next {n : Int} (h : Fx.okB n = true) : next (Fx.text n) 0 = (⟨2, 0, (Fx.text n).length, n, []⟩, 0) := by
  have h46 := Pl.text_has46 h
  have hr : (Fx.text n).all regular = true := by
    rw [Fx.text, if_pos h, List.all_append, List.all_append, List.all_append, dig_all_reg (Fx.row_all _ _)]
    obtain ⟨j, _, hf⟩ := Fx.fpart_rep n.natAbs
    rw [hf, List.all_append, dig_all_reg (Fx.tr_all (Fx.row_all _ _)), dig_all_reg (Fx.rep_all _)]
    split <;> rfl
  have hread : Fx.read (Fx.text n) = (n, 0) := by
    have := (Fx.read_text n h 0 (by omega)).1
    simpa using this
  have hne : Fx.text n ≠ [] := by intro e; rw [e] at h46; cases h46
  rw [word_next hne hr, wordT]
  have hI : intForm (Fx.text n) = false := by
    unfold intForm
    rw [Bool.and_eq_false_iff]
    right
    have hm : (46 : UInt8) ∈ unsign (Fx.text n) := by
      cases ht : Fx.text n with
      | nil => exact absurd ht hne
      | cons c t =>
        rw [ht] at h46
        rw [unsign]
        split
        · rename_i hs
          rcases List.mem_cons.1 h46 with e | e
          · rw [← e] at hs; cases hs
          · exact e
        · exact h46
    rw [List.all_eq_false]
    exact ⟨46, hm, by decide⟩
  rw [hI, hread]
  simp only [Bool.false_eq_true, if_false]
  rw [if_pos ⟨by simpa using h46, trivial⟩]
theorem oct_facts (c : UInt8) : oct (UInt8.ofNat (48 + c.toNat / 64)) = true ∧ oct (UInt8.ofNat (48 + c.toNat / 8 % 8)) = true ∧ oct (UInt8.ofNat (48 + c.toNat % 8)) = true ∧ escL (UInt8.ofNat (48 + c.toNat / 64)) = none ∧ eol (UInt8.ofNat (48 + c.toNat / 64)) = false
    ∧ UInt8.ofNat (8 * (8 * (8 * 0 + ((UInt8.ofNat (48 + c.toNat / 64)).toNat - 48)) + ((UInt8.ofNat (48 + c.toNat / 8 % 8)).toNat - 48)) + ((UInt8.ofNat (48 + c.toNat % 8)).toNat - 48)) = c := by
  refine all8 (p := fun c => oct (UInt8.ofNat (48 + c.toNat / 64)) = true ∧ oct (UInt8.ofNat (48 + c.toNat / 8 % 8)) = true ∧ oct (UInt8.ofNat (48 + c.toNat % 8)) = true ∧ escL (UInt8.ofNat (48 + c.toNat / 64)) = none ∧ eol (UInt8.ofNat (48 + c.toNat / 64)) = false
    ∧ UInt8.ofNat (8 * (8 * (8 * 0 + ((UInt8.ofNat (48 + c.toNat / 64)).toNat - 48)) + ((UInt8.ofNat (48 + c.toNat / 8 % 8)).toNat - 48)) + ((UInt8.ofNat (48 + c.toNat % 8)).toNat - 48)) = c) ?_ c
  decide +kernel
theorem escF_oct (c : UInt8) (t : List UInt8) : escF (UInt8.ofNat (48 + c.toNat / 64) :: UInt8.ofNat (48 + c.toNat / 8 % 8) :: UInt8.ofNat (48 + c.toNat % 8) :: t) = ([c], 3) := by
  obtain ⟨h1, h2, h3, h4, h5, h6⟩ := oct_facts c
  generalize UInt8.ofNat (48 + c.toNat / 64) = x at *
  generalize UInt8.ofNat (48 + c.toNat / 8 % 8) = y at *
  generalize UInt8.ofNat (48 + c.toNat % 8) = z at *
  have ho : octF 3 0 (x :: y :: z :: t) = (8 * (8 * (8 * 0 + (x.toNat - 48)) + (y.toNat - 48)) + (z.toNat - 48), 3) := by
    simp only [octF, h1, h2, h3, if_true]
  simp only [escF, h4, h5, ho, Bool.false_eq_true, if_false]
  rw [if_pos (by omega), h6]
theorem textG_oct (c : UInt8) (o : Nat) (t : List UInt8) : textG 0 o (Pl.oct c ++ t) = (textG 0 o t).map fun r => (c :: r.1, r.2 + 4) := by
  unfold Pl.oct
  rw [List.cons_append, textG, if_neg (by decide), if_pos rfl, if_neg (by simp)]
  simp only [List.cons_append, List.nil_append]
  rw [escF_oct, textG_skip 3 o _ (by simp), Option.map_map]
  simp only [List.drop_succ_cons, List.drop_zero]
  congr 1
theorem textG_esc (c : UInt8) (t : List UInt8) : textG 0 1 (Pl.esc c ++ t) = (textG 0 1 t).map fun r => (c :: r.1, r.2 + (Pl.esc c).length) := by
  unfold Pl.esc
  by_cases h1 : c = 40 ∨ c = 41 ∨ c = 92
  · rw [if_pos h1]
    have hl : escL c = none := by rcases h1 with rfl | rfl | rfl <;> rfl
    have he : eol c = false := by rcases h1 with rfl | rfl | rfl <;> rfl
    have ho : oct c = false := by rcases h1 with rfl | rfl | rfl <;> rfl
    have hE : escF (c :: t) = ([c], 1) := by
      have h0 : octF 3 0 (c :: t) = (0, 0) := by simp only [octF, ho, Bool.false_eq_true, if_false]
      simp only [escF, hl, he, h0, Bool.false_eq_true, if_false]
      rw [if_neg (by omega)]
    rw [List.cons_append, List.cons_append, List.nil_append, textG, if_neg (by decide), if_pos rfl, if_neg (by simp), hE, textG_skip 1 1 _ (by simp), Option.map_map]
    simp only [List.drop_succ_cons, List.drop_zero]
    congr 1
  · rw [if_neg h1]
    by_cases h2 : c.toNat < 32 ∨ 126 < c.toNat
    · rw [if_pos h2, textG_oct]; rfl
    · rw [if_neg h2, List.cons_append, List.nil_append, textG]
      have he : eol c = false := by
        unfold eol
        rw [Bool.or_eq_false_iff]
        refine ⟨decide_eq_false fun e => ?_, decide_eq_false fun e => ?_⟩ <;>
        · rw [e] at h2
          exact h2 (.inl (by decide))
      rw [if_neg (by rw [he]; decide), if_neg (fun e => h1 (.inr (.inr e))), if_neg (fun e => h1 (.inl e)), if_neg (fun e => h1 (.inr (.inl e)))]
      rfl
theorem textG_escs : ∀ (l t : List UInt8), textG 0 1 (l.flatMap Pl.esc ++ t) = (textG 0 1 t).map fun r => (l ++ r.1, r.2 + (l.flatMap Pl.esc).length)
  | [], t => by simp
  | c :: l, t => by
    rw [List.flatMap_cons, List.append_assoc, textG_esc, textG_escs l t, Option.map_map]
    congr 1
    funext r
    simp only [Function.comp, List.cons_append, List.length_append]
    refine Prod.ext rfl ?_
    simp only; omega
theorem textG_close (t : List UInt8) : textG 0 1 (41 :: t) = some ([], 1) := by
  rw [textG, if_neg (by decide), if_neg (by decide), if_neg (by decide), if_pos rfl, if_pos (by omega)]
theorem next_open (c : UInt8) (t : List UInt8) (h : c ≠ 37 ∧ white c = false) : next (c :: t) 0 = token (c :: t) 0 := by
  have hsk : skip (c :: t) 0 = 0 := by
    unfold skip
    rw [List.drop_zero, skipF, if_neg h.1, if_neg (by rw [h.2]; decide)]
  unfold next
  rw [if_neg (by omega), Int.toNat_zero, hsk]
theorem token_text (t : List UInt8) : token (40 :: t) 0 = text (40 :: t) 0 := by
  rw [token, List.drop_zero]
  simp only
  rw [if_neg (by decide), if_neg (by decide), if_neg (by decide), if_neg (by decide), if_pos trivial]
theorem text_of {t x : List UInt8} {n : Nat} (h : textG 0 1 t = some (x, n)) (hx : x.length ≤ 32767) : next (40 :: t) 0 = (⟨3, 0, (1 + n : Nat), 0, x⟩, 0) := by
  rw [next_open 40 t (by decide), token_text, text]
  have : (40 :: t).drop (0 + 1) = t := rfl
  rw [this, h]
  simp only [told]
  rw [if_neg (by omega), Nat.zero_add]; rfl
theorem str_next {l : List UInt8} (h : l.length ≤ 32767) : next (Pl.str l) 0 = (⟨3, 0, (Pl.str l).length, 0, l⟩, 0) := by
  have hs : Pl.str l = 40 :: (l.flatMap Pl.esc ++ 41 :: []) := by simp [Pl.str]
  have := text_of (t := l.flatMap Pl.esc ++ 41 :: []) (x := l) (n := 1 + (l.flatMap Pl.esc).length) (by rw [textG_escs, textG_close]; simp) h
  rw [hs, this]
  simp only [List.length_cons, List.length_append, List.length_nil]
  rw [show 1 + (1 + (l.flatMap Pl.esc).length) = (l.flatMap Pl.esc).length + (0 + 1) + 1 by omega]
theorem hex_facts (c : UInt8) : digit (hexD (c.toNat / 16)) = (c.toNat / 16 : Nat) ∧ digit (hexD (c.toNat % 16)) = (c.toNat % 16 : Nat) ∧ byte (c.toNat / 16 : Nat) (c.toNat % 16 : Nat) = c ∧ hexD (c.toNat / 16) ≠ 62 ∧ hexD (c.toNat % 16) ≠ 62 ∧ white (hexD (c.toNat / 16)) = false ∧ white (hexD (c.toNat % 16)) = false
    ∧ regular (hexD (c.toNat / 16)) = true ∧ regular (hexD (c.toNat % 16)) = true ∧ hexD (c.toNat / 16) ≠ 60 := by
  refine all8 (p := fun c => digit (hexD (c.toNat / 16)) = (c.toNat / 16 : Nat) ∧ digit (hexD (c.toNat % 16)) = (c.toNat % 16 : Nat) ∧ byte (c.toNat / 16 : Nat) (c.toNat % 16 : Nat) = c ∧ hexD (c.toNat / 16) ≠ 62 ∧ hexD (c.toNat % 16) ≠ 62 ∧ white (hexD (c.toNat / 16)) = false ∧ white (hexD (c.toNat % 16)) = false
    ∧ regular (hexD (c.toNat / 16)) = true ∧ regular (hexD (c.toNat % 16)) = true ∧ hexD (c.toNat / 16) ≠ 60) ?_ c
  decide +kernel
theorem nmOk_reg (c : UInt8) : Pl.nmOk c = true → regular c = true ∧ c ≠ 35 := by
  refine all8 (p := fun c => Pl.nmOk c = true → regular c = true ∧ c ≠ 35) ?_ c
  decide +kernel
theorem nmc_reg (c : UInt8) : (Pl.nmc c).all regular = true := by
  unfold Pl.nmc
  split
  · rename_i h; rw [List.all_cons, (nmOk_reg c h).1]; rfl
  · obtain ⟨-, -, -, -, -, -, -, f8, f9, -⟩ := hex_facts c
    simp only [Oc.hex, hex1, List.flatMap_cons, List.flatMap_nil, List.append_nil, List.cons_append, List.nil_append, List.all_cons, f8, f9, List.all_nil, Bool.and_true]
    decide
theorem nmcs_reg (l : List UInt8) : (l.flatMap Pl.nmc).all regular = true := by
  rw [List.all_flatMap, List.all_eq_true]
  exact fun c _ => nmc_reg c
theorem nameF_nmc : ∀ l : List UInt8, (0 : UInt8) ∉ l → nameF (l.flatMap Pl.nmc) = some l
  | [], _ => rfl
  | c :: l, h => by
    simp only [List.mem_cons, not_or] at h
    have ih := nameF_nmc l h.2
    rw [List.flatMap_cons]
    generalize l.flatMap Pl.nmc = z at *
    unfold Pl.nmc
    by_cases hc : Pl.nmOk c = true
    · rw [if_pos hc, List.cons_append, List.nil_append, nameF_ne (nmOk_reg c hc).2, ih]; rfl
    · rw [if_neg hc]
      obtain ⟨f1, f2, f3, -⟩ := hex_facts c
      have h0 : c.toNat ≠ 0 := fun e => h.1 (UInt8.toNat_inj.1 (by rw [e]; rfl))
      simp only [Oc.hex, hex1, List.flatMap_cons, List.flatMap_nil, List.append_nil, List.cons_append, List.nil_append]
      rw [nameF, if_pos rfl]
      simp only [f1, f2]
      rw [if_neg (by omega), ih, f3]; rfl
theorem name_next {l : List UInt8} (hl : l.length ≤ 127) (h0 : (0 : UInt8) ∉ l) : next (Pl.name l) 0 = (⟨4, 0, (Pl.name l).length, 0, l⟩, 0) := by
  have hs : Pl.name l = 47 :: l.flatMap Pl.nmc := by simp [Pl.name]
  rw [hs, next_open 47 _ (by decide), token, List.drop_zero]
  simp only
  rw [if_neg (by decide), if_neg (by decide), if_neg (by decide), if_pos trivial, Lx.name]
  have hd : (47 :: l.flatMap Pl.nmc).drop (0 + 1) = l.flatMap Pl.nmc := rfl
  have all_run : ∀ l : List UInt8, l.all regular = true → runF l = l.length := by
    intro l
    induction l with
    | nil => intro _; rfl
    | cons d l ih =>
      intro hl
      simp only [List.all_cons, Bool.and_eq_true] at hl
      rw [runF, if_pos hl.1, ih hl.2, List.length_cons]; omega
  have hrun : run (47 :: l.flatMap Pl.nmc) (0 + 1) = (47 :: l.flatMap Pl.nmc).length := by
    unfold run
    rw [hd, all_run _ (nmcs_reg l), List.length_cons]; omega
  have hcut : cut (47 :: l.flatMap Pl.nmc) (0 + 1) (47 :: l.flatMap Pl.nmc).length = l.flatMap Pl.nmc := by
    unfold cut
    rw [hd, List.take_of_length_le]
    rw [List.length_cons]; omega
  rw [hrun, hcut, nameF_nmc l h0]
  simp only [told]
  rw [if_neg (by omega)]; rfl
end Lx
end Go.Proofs.YtiklhhdohckfiaaGreatDoor
namespace Go.Proofs.YtiklhhdohckfiaaGreatDoor
set_option linter.unusedVariables false
set_option linter.unusedSimpArgs false
set_option linter.defProp false
open Go
namespace Lx
open Oc
def stops (m : List UInt8) : Prop := ∀ c t, m = c :: t → regular c = false
def Single (u : List UInt8) (x : Tok) : Prop := next u 0 = (x, 0) ∧ x.k ≠ 0 ∧ x.a = 0 ∧ x.t = u.length
end Lx
end Go.Proofs.YtiklhhdohckfiaaGreatDoor
namespace Go.Proofs.YtiklhhdohckfiaaGreatDoor
set_option linter.unusedVariables false
set_option linter.unusedSimpArgs false
set_option linter.defProp false
open Go
namespace Hd
open Oc Lx
def find (s p : List UInt8) (k : Int) : Int :=
  if p = [] ∨ (s.length : Int) < max k 0 then -1 else if Lib.index (s.drop (max k 0).toNat) p < 0 then -1 else max k 0 + Lib.index (s.drop (max k 0).toNat) p
def last (s p : List UInt8) : Int := if p = [] then -1 else Lib.lastIndex s p
def mark : List UInt8 := [37, 80, 68, 70, 45]
def startx : List UInt8 := [115, 116, 97, 114, 116, 120, 114, 101, 102]
def eof : List UInt8 := [37, 37, 69, 79, 70]
def headTail : List UInt8 := [10, 37, 226, 227, 207, 211, 10]
def text (m : Int) : List UInt8 × Int := if m < 0 ∨ 9 < m then ([], 2) else (mark ++ [49, 46] ++ [UInt8.ofNat (48 + m.toNat)] ++ headTail, 0)
def start (s : List UInt8) : Int × Int :=
  if last s startx < 0 then (0, 18)
  else if (next s (last s startx + 9)).2 ≠ 0 ∨ (next s (last s startx + 9)).1.k ≠ 1 ∨ (next s (last s startx + 9)).1.n < 0 ∨ (s.length : Int) ≤ (next s (last s startx + 9)).1.n then (0, 18)
  else ((next s (last s startx + 9)).1.n, 0)
def tail (n : Int) : List UInt8 := if n < 0 ∨ 2147483647 < n then [] else startx ++ [10] ++ Lib.itoa n ++ [10] ++ eof ++ [10]
end Hd
end Go.Proofs.YtiklhhdohckfiaaGreatDoor
namespace Go.Proofs.YtiklhhdohckfiaaGreatDoor
set_option linter.unusedVariables false
set_option linter.unusedSimpArgs false
set_option linter.defProp false
open Go
namespace Hd
open Oc Lx
end Hd
end Go.Proofs.YtiklhhdohckfiaaGreatDoor
namespace Go.Proofs.YtiklhhdohckfiaaGreatDoor
set_option linter.unusedVariables false
set_option linter.unusedSimpArgs false
set_option linter.defProp false
open Go
namespace Sc
open Lx
structure Step where
  k : Int
  a : Int
  b : Int
  s : List UInt8
  t : List UInt8
 deriving DecidableEq
def words : List (List UInt8) := [[111, 112, 101, 110], [110, 101, 119], [112, 117, 116], [100, 114, 111, 112], [105, 110, 115, 101, 114, 116], [114, 101, 109, 111, 118, 101], [109, 111, 118, 101], [110, 97, 109, 101], [102, 105, 108, 108], [99, 108, 101, 97, 110], [115, 97, 118, 101], [114, 101, 111, 112, 101, 110], [116, 101, 120, 116], [102, 105, 110, 100], [99, 111, 117, 110, 116], [111, 98, 106, 101, 99, 116], [97, 117, 100, 105, 116], [115, 112, 111, 105, 108], [111, 117, 116, 108, 105, 110, 101], [102, 105, 101, 108, 100, 115], [99, 111, 110, 116, 101, 110, 116, 115]]
def usesL : List (List UInt8) := [[83], [65], [65, 83], [65], [65, 83], [65], [65, 66], [83, 65], [83, 84], [], [65], [], [65], [83], [], [65], [], [65, 66], [], [], [65]]
def uses (k : Int) : Option (List UInt8) := if 1 ≤ k ∧ k ≤ 21 then usesL[k.toNat - 1]? else none
def check (x : Step) : Int :=
  match uses x.k with
  | none => 10
  | some u => if (65 ∉ u ∧ x.a ≠ 0) ∨ (66 ∉ u ∧ x.b ≠ 0) ∨ (83 ∉ u ∧ x.s ≠ []) ∨ (84 ∉ u ∧ x.t ≠ []) then 10
    else if x.a < 0 ∨ 2147483647 < x.a ∨ x.b < 0 ∨ 2147483647 < x.b then 2
    else if 32767 < x.s.length ∨ 32767 < x.t.length then 5 else 0
def field (x : Step) (c : UInt8) : List UInt8 :=
  if c = 65 then Lib.itoa x.a else if c = 66 then Lib.itoa x.b else if c = 83 then Pl.str x.s else if c = 84 then Pl.str x.t else []
def word (k : Int) : List UInt8 := words.getD (k.toNat - 1) []
def head (l : List UInt8) : List UInt8 := l.takeWhile fun c => c != 32
def kind (w : List UInt8) : Option Int := if words.idxOf w < 21 then some (words.idxOf w + 1) else none
def put (x : Step) (c : UInt8) (n : Int) (s : List UInt8) : Step :=
  if c = 65 then { x with a := n } else if c = 66 then { x with b := n } else if c = 83 then { x with s := s } else if c = 84 then { x with t := s } else x
def want (c : UInt8) : Int := if c = 65 ∨ c = 66 then 1 else 3
end Sc
end Go.Proofs.YtiklhhdohckfiaaGreatDoor
namespace Go.Proofs.YtiklhhdohckfiaaGreatDoor
set_option linter.unusedVariables false
set_option linter.unusedSimpArgs false
set_option linter.defProp false
set_option linter.unusedVariables false
set_option maxRecDepth 20000
open Eng

end Go.Proofs.YtiklhhdohckfiaaGreatDoor
namespace Go.Proofs.YtiklhhdohckfiaaGreatDoor
set_option linter.unusedVariables false
set_option linter.unusedSimpArgs false
set_option linter.defProp false
open Eng Go.RowKit

end Go.Proofs.YtiklhhdohckfiaaGreatDoor
namespace Go.Proofs.YtiklhhdohckfiaaGreatDoor
set_option linter.unusedVariables false
set_option linter.unusedSimpArgs false
set_option linter.defProp false
set_option linter.unusedVariables false
set_option maxRecDepth 20000
open Eng

end Go.Proofs.YtiklhhdohckfiaaGreatDoor
namespace Go.Proofs.YtiklhhdohckfiaaGreatDoor
set_option linter.unusedVariables false
set_option linter.unusedSimpArgs false
set_option linter.defProp false
open Eng Go.RowKit

section
variable {w : World} {PK : List PanicEntry → World → Prop} {K : Value → World → Prop} {S : Nat → Prop} {w0 : World} {L : List Ent}
end
end Go.Proofs.YtiklhhdohckfiaaGreatDoor
namespace Go.Proofs.YtiklhhdohckfiaaGreatDoor
set_option linter.unusedVariables false
set_option linter.unusedSimpArgs false
set_option linter.defProp false
open Eng Go.RowKit

end Go.Proofs.YtiklhhdohckfiaaGreatDoor
namespace Go.Proofs.YtiklhhdohckfiaaGreatDoor
set_option linter.unusedVariables false
set_option linter.unusedSimpArgs false
set_option linter.defProp false
open Eng Go.RowKit

end Go.Proofs.YtiklhhdohckfiaaGreatDoor
namespace Go.Proofs.YtiklhhdohckfiaaGreatDoor
set_option linter.unusedVariables false
set_option linter.unusedSimpArgs false
set_option linter.defProp false
open Eng Go.RowKit

end Go.Proofs.YtiklhhdohckfiaaGreatDoor
namespace Go.Proofs.YtiklhhdohckfiaaGreatDoor
set_option linter.unusedVariables false
set_option linter.unusedSimpArgs false
set_option linter.defProp false
open Eng Go.RowKit

theorem textG_esc {s : List UInt8} {i o : Nat} (h : i + 1 < s.length) (he : s[i] = 92) : Lx.textG 0 o (s.drop i) = (Lx.textG 0 o (s.drop (i + 1 + (Lx.escF (s.drop (i + 1))).2))).map fun r => ((Lx.escF (s.drop (i + 1))).1 ++ r.1, r.2 + 1 + (Lx.escF (s.drop (i + 1))).2) := by
  have hd := Lx.drop_cons (show i < s.length by omega)
  have hd2 := Lx.drop_cons h
  have h2 := Lx.escF_le (s.drop (i + 1))
  have hn : Lx.eol s[i] = false := by rw [he]; rfl
  rw [hd, Lx.textG, if_neg (by rw [hn]; decide), if_pos he]
  rw [if_neg (by rw [hd2]; exact List.cons_ne_nil _ _), Lx.textG_skip _ _ _ h2, Option.map_map, List.drop_drop]
  congr 1
  funext r
  refine Prod.ext rfl ?_
  simp only [Function.comp]; omega
end Go.Proofs.YtiklhhdohckfiaaGreatDoor
namespace Go.Proofs.YtiklhhdohckfiaaGreatDoor
set_option linter.unusedVariables false
set_option linter.unusedSimpArgs false
set_option linter.defProp false
open Eng Go.RowKit

def n3 (vs : List Value) : Nat := (intOf (vs.getD 3 undef)).toNat
end Go.Proofs.YtiklhhdohckfiaaGreatDoor
namespace Go.Proofs.YtiklhhdohckfiaaGreatDoor
set_option linter.unusedVariables false
set_option linter.unusedSimpArgs false
set_option linter.defProp false
open Eng Go.RowKit

end Go.Proofs.YtiklhhdohckfiaaGreatDoor
namespace Go.Proofs.YtiklhhdohckfiaaGreatDoor
set_option linter.unusedVariables false
set_option linter.unusedSimpArgs false
set_option linter.defProp false
open Eng Go.RowKit

end Go.Proofs.YtiklhhdohckfiaaGreatDoor
namespace Go.Proofs.YtiklhhdohckfiaaGreatDoor
set_option linter.unusedVariables false
set_option linter.unusedSimpArgs false
set_option linter.defProp false
set_option linter.unusedVariables false
set_option maxRecDepth 20000
open Eng

end Go.Proofs.YtiklhhdohckfiaaGreatDoor
namespace Go.Proofs.YtiklhhdohckfiaaGreatDoor
set_option linter.unusedVariables false
set_option linter.unusedSimpArgs false
set_option linter.defProp false
open Eng Go.RowKit

end Go.Proofs.YtiklhhdohckfiaaGreatDoor
namespace Go.Proofs.YtiklhhdohckfiaaGreatDoor
set_option linter.unusedVariables false
set_option linter.unusedSimpArgs false
set_option linter.defProp false
set_option linter.unusedVariables false
set_option maxRecDepth 20000
open Eng

end Go.Proofs.YtiklhhdohckfiaaGreatDoor
namespace Go.Proofs.YtiklhhdohckfiaaGreatDoor
set_option linter.unusedVariables false
set_option linter.unusedSimpArgs false
set_option linter.defProp false
set_option linter.unusedVariables false
set_option maxRecDepth 20000
open Eng

end Go.Proofs.YtiklhhdohckfiaaGreatDoor
namespace Go.Proofs.YtiklhhdohckfiaaGreatDoor
set_option linter.unusedVariables false
set_option linter.unusedSimpArgs false
set_option linter.defProp false
open Eng Go.RowKit

def Mx (w : World) : Prop := ∃ m, w.cell? ⟨1, 0, none⟩ = some (.int .i64 m)
theorem Mx.own {w0 w : World} {L : List Ent} (h : Mx w0) (ho : Own w0 w L) : Mx w := by
  obtain ⟨m, hm⟩ := h
  exact ⟨m, ho.old hm⟩
end Go.Proofs.YtiklhhdohckfiaaGreatDoor
namespace Go.Proofs.YtiklhhdohckfiaaGreatDoor
set_option linter.unusedVariables false
set_option linter.unusedSimpArgs false
set_option linter.defProp false
open Eng Go.RowKit

end Go.Proofs.YtiklhhdohckfiaaGreatDoor
namespace Go.Proofs.YtiklhhdohckfiaaGreatDoor
set_option linter.unusedVariables false
set_option linter.unusedSimpArgs false
set_option linter.defProp false
open Eng Go.RowKit

section
variable {w : World} {PK : List PanicEntry → World → Prop} {K : Value → World → Prop}
end
end Go.Proofs.YtiklhhdohckfiaaGreatDoor
namespace Go.Proofs.YtiklhhdohckfiaaGreatDoor
set_option linter.unusedVariables false
set_option linter.unusedSimpArgs false
set_option linter.defProp false
open Eng Go.RowKit

end Go.Proofs.YtiklhhdohckfiaaGreatDoor
namespace Go.Proofs.YtiklhhdohckfiaaGreatDoor
set_option linter.unusedVariables false
set_option linter.unusedSimpArgs false
set_option linter.defProp false
open Eng Go.RowKit

end Go.Proofs.YtiklhhdohckfiaaGreatDoor
namespace Go.Proofs.YtiklhhdohckfiaaGreatDoor
set_option linter.unusedVariables false
set_option linter.unusedSimpArgs false
set_option linter.defProp false
open Eng Go.RowKit

end Go.Proofs.YtiklhhdohckfiaaGreatDoor
namespace Go.Proofs.YtiklhhdohckfiaaGreatDoor
set_option linter.unusedVariables false
set_option linter.unusedSimpArgs false
set_option linter.defProp false
open Eng Go.RowKit

section
variable {w : World} {PK : List PanicEntry → World → Prop} {K : Value → World → Prop} {S : Nat → Prop} {w0 : World} {L : List Ent}
end
end Go.Proofs.YtiklhhdohckfiaaGreatDoor
namespace Go.Proofs.YtiklhhdohckfiaaGreatDoor
set_option linter.unusedVariables false
set_option linter.unusedSimpArgs false
set_option linter.defProp false
open Eng Go.RowKit

section
variable {w : World} {PK : List PanicEntry → World → Prop} {K : Value → World → Prop} {S : Nat → Prop} {w0 : World} {L : List Ent}
end
end Go.Proofs.YtiklhhdohckfiaaGreatDoor
namespace Go.Proofs.YtiklhhdohckfiaaGreatDoor
set_option linter.unusedVariables false
set_option linter.unusedSimpArgs false
set_option linter.defProp false
open Eng Go.RowKit

theorem draw {w : World} {F : World → Prop} (h : F w.drew) : DrawX w F := ⟨h⟩
end Go.Proofs.YtiklhhdohckfiaaGreatDoor
namespace Go.Proofs.YtiklhhdohckfiaaGreatDoor
set_option linter.unusedVariables false
set_option linter.unusedSimpArgs false
set_option linter.defProp false
open Eng Go.RowKit

theorem str_beq (a b : List UInt8) : ((⟨a.toArray⟩ : ByteArray).toList == (⟨b.toArray⟩ : ByteArray).toList) = decide (a = b) := by
  rw [str_toList, str_toList]
  by_cases h : a = b <;> simp [h]
section
variable {w : World} {PK : List PanicEntry → World → Prop} {K : Value → World → Prop}
end
end Go.Proofs.YtiklhhdohckfiaaGreatDoor
namespace Go.Proofs.YtiklhhdohckfiaaGreatDoor
set_option linter.unusedVariables false
set_option linter.unusedSimpArgs false
set_option linter.defProp false
open Eng Go.RowKit

end Go.Proofs.YtiklhhdohckfiaaGreatDoor
namespace Go.Proofs.YtiklhhdohckfiaaGreatDoor
set_option linter.unusedVariables false
set_option linter.unusedSimpArgs false
set_option linter.defProp false
open Eng Go.RowKit

end Go.Proofs.YtiklhhdohckfiaaGreatDoor
namespace Go.Proofs.YtiklhhdohckfiaaGreatDoor
set_option linter.unusedVariables false
set_option linter.unusedSimpArgs false
set_option linter.defProp false
open Eng Go.RowKit

end Go.Proofs.YtiklhhdohckfiaaGreatDoor
namespace Go.Proofs.YtiklhhdohckfiaaGreatDoor
set_option linter.unusedVariables false
set_option linter.unusedSimpArgs false
set_option linter.defProp false
set_option linter.unusedVariables false
set_option maxRecDepth 20000
open Eng

end Go.Proofs.YtiklhhdohckfiaaGreatDoor
