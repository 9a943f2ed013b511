/- Contracts: the program's Read. -/
import Derived.Test.YtfnpfbgnhncgpaaDoorFixV
import Derived.Laws.RangeAny
namespace Go.Proofs.YtfnpfbgnhncgpaaDoor
set_option linter.unusedVariables false
set_option linter.unusedSimpArgs false
set_option linter.defProp false
open Eng Go.RowKit
set_option linter.unusedVariables false
set_option linter.unusedSimpArgs false

theorem body_prefix (s : List UInt8) : Fx.minus s = ([45] : List UInt8).isPrefixOf s ∧ Fx.body s = (if ([45] : List UInt8).isPrefixOf s || ([43] : List UInt8).isPrefixOf s then s.drop 1 else s) ∧ (([45] : List UInt8).isPrefixOf s || ([43] : List UInt8).isPrefixOf s → 1 ≤ s.length) := by
  cases s with
  | nil => exact ⟨rfl, rfl, fun h => (by cases h)⟩
  | cons c t =>
    have e1 : ([45] : List UInt8).isPrefixOf (c :: t) = decide (c = 45) := by
      simp only [List.isPrefixOf, Bool.and_true]
      by_cases h : c = 45
      · subst h; rfl
      · rw [decide_eq_false h]; simp; exact fun e => h e.symm
    have e2 : ([43] : List UInt8).isPrefixOf (c :: t) = decide (c = 43) := by
      simp only [List.isPrefixOf, Bool.and_true]
      by_cases h : c = 43
      · subst h; rfl
      · rw [decide_eq_false h]; simp; exact fun e => h e.symm
    rw [e1, e2]
    refine ⟨rfl, ?_, fun _ => by simp⟩
    rw [Fx.body]
    by_cases h1 : c = 45 <;> by_cases h2 : c = 43 <;> simp [h1, h2]

theorem iterPos_obj {w0 w : World} {L : List Ent} (h : Own w0 w L) (i : Nat) {b : Nat} {s : ByteArray} {p : Nat} (hi : L[i]? = some (.obj b (.stringIter s p))) : w.iterPos b = p := by
  have : w.heap[b]? = some (.stringIter s p) := h.at_ i hi
  simp [World.iterPos, this]

theorem read3_any (w0 w : World) (b1 b2 : Nat) (m : Int) (neg : Bool) (h0 : 0 ≤ m) (h1 : m ≤ 1152921504606846976) (h : Own w0 w [.cells b2 [.int .i64 0] 23, .cells b1 [.int .i64 m] 2]) (K : Ending → World → Prop)
    (hk : ∀ w', Below w0.heap.size w0 w' → K (.returned (pair (Fx.ans (if neg then -m else m)))) w') :
    S_fix_Read_3 (.pointer (some ⟨b1, 0, none⟩)) (.pointer (some ⟨b2, 0, none⟩)) (.bool neg) w K := by
  rw [S_fix_Read_3]
  refine join fun J hJ => ?_
  have fin : ∀ (q : Int) (w1 : World), q = (if neg then -m else m) → Own w0 w1 [.cells b2 [.int .i64 0] 23, .cells b1 [.int .i64 q] 2] → J [] w1 := by
    intro q w1 hq ho
    refine hJ _ _ fun _ => ?_
    rw [S_fix_Read_4, l_cell (show notAgg Tryd.prog 2 = true by kernel_rfl) (ho.cell 1 rfl 0 rfl)]
    refine o_new (fun b => .slice (some ⟨b, 0, none⟩) 1 1) [.int .i64 q] 2 (fun _ => by kernel_rfl) ho fun b3 w3 h3 => ?_
    refine c_any (bounded_any _ [q] w3 (h3.sl 0 rfl 1 1 1 rfl) (by simp) _ (fun hok => ?_) (fun hbad => ?_)) (fun _ _ h => h)
    · have hok' : Fx.okB q = true := by simpa using hok
      simp only [Cont]
      rw [l_cell (show notAgg Tryd.prog 2 = true by kernel_rfl) (h3.cell 2 rfl 0 rfl)]
      refine o_store 2 h3 rfl (by kernel_rfl) rfl (by simp) fun w4 h4 => ?_
      refine o_store 1 h4 rfl (by kernel_rfl) rfl (by simp) fun w5 h5 => ?_
      refine door_ok 2 1 h5 rfl rfl K (fun w' hb => ?_)
      have := hk w' hb
      rw [← hq, Fx.ans, if_pos hok'] at this
      exact this
    · have hbad' : Fx.okB q = false := by simpa using hbad
      refine door_bad h3.tail K (fun w' hb => ?_)
      have := hk w' hb
      rw [← hq, Fx.ans, hbad'] at this
      exact this
  cases neg with
  | true =>
    simp only [rs, l_cell (show notAgg Tryd.prog 2 = true by kernel_rfl) (h.cell 1 rfl 0 rfl)]
    rw [wrap64_id (by omega) (by omega)]
    refine o_store 1 h rfl (by kernel_rfl) rfl (by simp) fun w4 h4 => ?_
    exact AtX.mk rfl (fin (-m) w4 rfl h4)
  | false =>
    simp only [rs]
    exact AtX.mk rfl (fin m w rfl h)

theorem pread_ret (s : List UInt8) (w : World) (hs : s.length ≤ 4611686018427387904) : Ret Tryd.prog 18 #[.string ⟨s.toArray⟩] w (fun v w' => v = pair (Fx.read s) ∧ Below w.heap.size w w') := by
  refine ret_of fun K hK => S_fix_Read_ok ?_
  unfold S_fix_Read
  refine o_new (fun b => .pointer (some ⟨b, 0, none⟩)) [.int .i64 0] 2 (fun _ => by kernel_rfl) (Own.start w) fun b1 w1 h1 => ?_
  refine o_new (fun b => .pointer (some ⟨b, 0, none⟩)) [.int .i64 0] 23 (fun _ => by kernel_rfl) h1 fun b2 w2 h2 => ?_
  simp only [s_len Tryd.underlying9, rs]
  have bad3 : Fx.form s = false → ∀ w', Below w.heap.size w w' → K (.returned (.tuple #[.int .i64 0, .int .i64 3])) w' := by
    intro hf w' hb
    exact hK _ _ ⟨by rw [Fx.read, hf]; rfl, hb⟩
  by_cases h40 : (40 : Int) < (s.length : Int)
  · simp only [h40, decide_true, rs]
    refine o_store 1 h2 rfl (by kernel_rfl) rfl (by simp) fun w4 h4 => ?_
    refine o_store 0 h4 rfl (by kernel_rfl) rfl (by simp) fun w5 h5 => ?_
    refine door_ok 1 0 h5 rfl rfl K (bad3 ?_)
    rw [Fx.form, decide_eq_false (by omega), Bool.false_and, Bool.false_and, Bool.false_and]
  · simp only [h40, decide_false, rs]
    obtain ⟨hmin, hbody, hpos⟩ := body_prefix s
    refine c_ret (hasPrefix_ret s [45] w2) ?_
    rintro v w3 ⟨rfl, rfl⟩
    have hlen : (Fx.body s).length ≤ s.length := by
      rw [hbody]; split
      · rw [List.length_drop]; omega
      · omega
    have main : S_fix_Read_0 (.string ⟨(Fx.body s).toArray⟩) (.pointer (some ⟨b1, 0, none⟩)) (.pointer (some ⟨b2, 0, none⟩)) (.bool (Fx.minus s)) w2 K := by
      rw [S_fix_Read_0]
      have hcut : Ret Tryd.prog 67 #[.string ⟨(Fx.body s).toArray⟩, .string ⟨#[46]⟩] w2 (fun v w' => (∃ b, v = .tuple #[.string ⟨(Fx.whole (Fx.body s)).toArray⟩, .string ⟨(Fx.part (Fx.body s)).toArray⟩, .bool b]) ∧ Below w2.heap.size w2 w') := cut_ret (Fx.body s) 46 w2 (by omega)
      refine c_ret hcut ?_
      rintro v w3 ⟨⟨fnd, rfl⟩, b3⟩
      have hform : Fx.form s = ((Fx.whole (Fx.body s)).all Fx.isDig && (Fx.part (Fx.body s)).all Fx.isDig && decide (0 < (Fx.whole (Fx.body s)).length + (Fx.part (Fx.body s)).length)) := by
        rw [Fx.form, decide_eq_true (show s.length ≤ 40 by omega), Bool.true_and]
      have hread : Fx.form s = true → Fx.read s = if Fx.val 0 (Fx.whole (Fx.body s)) > 1073741824 then (0, 2) else Fx.ans (if Fx.minus s then - Fx.mag s else Fx.mag s) := fun h => by rw [Fx.read, if_pos h]
      have hmag : Fx.mag s = Fx.val (Fx.val 0 (Fx.whole (Fx.body s))) (Fx.four (Fx.part (Fx.body s))) + (if Fx.more ((Fx.part (Fx.body s)).drop 4) (Fx.minus s) then 1 else 0) := rfl
      have hwl : (Fx.whole (Fx.body s)).length ≤ (Fx.body s).length := by
        have := (List.takeWhile_sublist (fun c => c != 46) (l := Fx.body s)).length_le; exact this
      have hpl : (Fx.part (Fx.body s)).length ≤ (Fx.body s).length := by
        have := (List.dropWhile_sublist (fun c => c != 46) (l := Fx.body s)).length_le
        rw [Fx.part, List.length_drop]; omega
      generalize Fx.whole (Fx.body s) = wh at *
      generalize Fx.part (Fx.body s) = part at *
      simp only [ex]
      rw [s_add (by omega)]
      have h3 := h2.grow b3
      simp only [rs]
      have good : Fx.form s = true → ∀ w4, Own w w4 [.cells b2 [.int .i64 0] 23, .cells b1 [.int .i64 0] 2] →
          DoX Tryd.prog (mRange 9 (.string ⟨wh.toArray⟩)) w4 (S_fix_Read_p0 (.pointer (some ⟨b1, 0, none⟩)) (.pointer (some ⟨b2, 0, none⟩)) K) fun t46 ww =>
          LoopX [] ww (fun vs2 w N2 => ∀ _ : Sg, S_fix_Read_1 (.pointer (some ⟨b1, 0, none⟩)) (.pointer (some ⟨b2, 0, none⟩)) (.bool (Fx.minus s)) (.string ⟨part.toArray⟩) t46 w N2 K) := by
        intro hf w4 h4
        have hread2 := hread hf
        have hdw : wh.all Fx.isDig = true ∧ part.all Fx.isDig = true := by
          rw [hform] at hf; simp only [Bool.and_eq_true] at hf; exact hf.1
        refine o_range Tryd.underlying9 h4 fun b5 w5 h5 => ?_
        refine loop (fun vs w' => ∃ k : Nat, k ≤ wh.length ∧ vs = [] ∧ Fx.val 0 (wh.take k) ≤ 1073741824 ∧ Own w w' [.obj b5 (.stringIter ⟨wh.toArray⟩ k), .cells b2 [.int .i64 0] 23, .cells b1 [.int .i64 (Fx.val 0 (wh.take k))] 2])
          (fun vs w' => wh.length - w'.iterPos b5) ⟨0, by omega, rfl, by simp [Fx.val], h5⟩ ?_
        rintro vs w6 ⟨k, hk, rfl, hv, ho⟩ _
        have hip := iterPos_obj ho 0 rfl
        rw [S_fix_Read_1]
        have hv0 := Fx.val_ge (wh.take k) 0 (by
          rw [List.all_eq_true]; exact fun x hx => List.all_eq_true.1 hdw.1 x (List.mem_of_mem_take hx)) (by omega)
        by_cases hlt : k < wh.length
        · have hdg := Fx.isDig_bd (List.all_eq_true.1 hdw.1 wh[k] (List.getElem_mem hlt))
          refine o_next 0 ho rfl (List.getElem?_eq_getElem hlt) (by omega) fun w7 h7 => ?_
          simp only [ex, rs, l_cell (show notAgg Tryd.prog 2 = true by kernel_rfl) (h7.cell 2 rfl 0 rfl)]
          rw [wrap32_id (by omega) (by omega), c_int (show (Tryd.prog.underlying 21).isSome = true by kernel_rfl) Tryd.underlying2]
          simp only [rs]
          rw [wrap64_id (n := ((wh[k].toNat : Nat) : Int) - 48) (by omega) (by omega), wrap64_id (n := 10 * _) (by omega) (by omega), wrap64_id (by omega) (by omega)]
          refine o_store 2 h7 rfl (by kernel_rfl) rfl (by simp) fun w8 h8 => ?_
          rw [l_cell (show notAgg Tryd.prog 2 = true by kernel_rfl) (h8.cell 2 rfl 0 rfl)]
          simp only [rs]
          have hvt := Fx.val_take 0 wh k hlt
          by_cases hbig : (1073741824 : Int) < 10 * Fx.val 0 (wh.take k) + ((wh[k].toNat : Int) - 48)
          · simp only [hbig, decide_true, rs]
            refine o_store 2 h8 rfl (by kernel_rfl) rfl (by simp) fun w9 h9 => ?_
            refine o_store 1 h9 rfl (by kernel_rfl) rfl (by simp) fun wa ha => ?_
            refine door_ok 2 1 ha rfl rfl K (fun w' hb => hK _ _ ⟨?_, hb⟩)
            have hge := Fx.val_ge (wh.drop (k + 1)) (Fx.val 0 (wh.take (k + 1))) (by
              rw [List.all_eq_true]; exact fun x hx => List.all_eq_true.1 hdw.1 x (List.mem_of_mem_drop hx)) (by omega)
            rw [← Fx.val_append, List.take_append_drop] at hge
            rw [hread2, if_pos (by omega)]
          · simp only [hbig, decide_false, rs]
            refine AtX.mk rfl (nextX ⟨k + 1, by omega, rfl, by omega, ?_⟩ ?_)
            · rw [hvt]; exact h8
            · show wh.length - w8.iterPos b5 < wh.length - w6.iterPos b5
              rw [hip, iterPos_obj h8 0 rfl]; omega
        · rw [o_next_end 0 ho rfl (by omega)]
          simp only [ex, rs]
          have hke : wh.take k = wh := List.take_of_length_le (by omega)
          rw [hke] at ho hv hv0
          rw [s_add (b := [48, 48, 48, 48, 48]) (by simp; omega), s_upto Tryd.underlying9 (by omega) (by simp; omega)]
          rw [show (4 : Int).toNat = 4 from rfl, Fx.four_five]
          rw [if_neg (by omega)] at hread2
          have h4d := Fx.four_all hdw.2
          have h4l := Fx.four_length part
          have hval4 := Fx.val4 (Fx.four part) (Fx.val 0 wh) h4l h4d
          refine o_range Tryd.underlying9 (ho.tail) fun b7 w7 h7 => ?_
          generalize Fx.val 0 wh = V at *
          generalize hfr : Fx.four part = fr at *
          refine loop (fun vs w' => ∃ k : Nat, k ≤ fr.length ∧ vs = [] ∧ Own w w' [.obj b7 (.stringIter ⟨fr.toArray⟩ k), .cells b2 [.int .i64 0] 23, .cells b1 [.int .i64 (Fx.val V (fr.take k))] 2])
            (fun vs w' => fr.length - w'.iterPos b7) ⟨0, by omega, rfl, h7⟩ ?_
          rintro vs w8 ⟨j, hj, rfl, ho2⟩ _
          have hip2 := iterPos_obj ho2 0 rfl
          rw [S_fix_Read_2]
          by_cases hjt : j < fr.length
          · have hdg := Fx.isDig_bd (List.all_eq_true.1 h4d fr[j] (List.getElem_mem hjt))
            have hvj0 := Fx.val_ge (fr.take j) V (by
              rw [List.all_eq_true]; exact fun x hx => List.all_eq_true.1 h4d x (List.mem_of_mem_take hx)) hv0
            have hvj1 := Fx.val_ge (fr.drop j) (Fx.val V (fr.take j)) (by
              rw [List.all_eq_true]; exact fun x hx => List.all_eq_true.1 h4d x (List.mem_of_mem_drop hx)) (by omega)
            rw [← Fx.val_append, List.take_append_drop] at hvj1
            refine o_next 0 ho2 rfl (List.getElem?_eq_getElem hjt) (by omega) fun w9 h9 => ?_
            simp only [ex, rs, l_cell (show notAgg Tryd.prog 2 = true by kernel_rfl) (h9.cell 2 rfl 0 rfl)]
            rw [wrap32_id (by omega) (by omega), c_int (show (Tryd.prog.underlying 21).isSome = true by kernel_rfl) Tryd.underlying2]
            simp only [rs]
            rw [wrap64_id (n := ((fr[j].toNat : Nat) : Int) - 48) (by omega) (by omega), wrap64_id (n := 10 * _) (by omega) (by omega), wrap64_id (by omega) (by omega)]
            refine o_store 2 h9 rfl (by kernel_rfl) rfl (by simp) fun wa ha => ?_
            refine AtX.mk rfl (nextX ⟨j + 1, by omega, rfl, ?_⟩ ?_)
            · rw [Fx.val_take V fr j hjt]; exact ha
            · show fr.length - wa.iterPos b7 < fr.length - w8.iterPos b7
              rw [hip2, iterPos_obj ha 0 rfl]; omega
          · rw [o_next_end 0 ho2 rfl (by omega)]
            simp only [ex, rs]
            have hje : fr.take j = fr := List.take_of_length_le (by omega)
            rw [hje] at ho2
            rw [s_from Tryd.underlying9 (by omega) (by simp; omega), show (4 : Int).toNat = 4 from rfl]
            have htr : Ret Tryd.prog 69 #[.string ⟨((part ++ [48, 48, 48, 48, 48]).drop 4).toArray⟩, .string ⟨#[48]⟩] w8 (fun v w' => v = .string ⟨(Fx.tr (part.drop 4)).toArray⟩ ∧ w8 = w') := by
              rw [← Fx.tr_drop]
              exact trimRight_ret _ 48 (by decide) w8 (by rw [List.length_drop]; simp; omega)
            refine c_ret htr ?_
            rintro v w9 ⟨rfl, rfl⟩
            have hmr := Fx.more_tr (part.drop 4) (Fx.minus s) (by
              rw [List.all_eq_true]; exact fun x hx => List.all_eq_true.1 hdw.2 x (List.mem_of_mem_drop hx))
            generalize Fx.tr (part.drop 4) = r at *
            generalize Fx.more (part.drop 4) (Fx.minus s) = more at *
            refine join fun J hJ => ?_
            have fin : ∀ (m : Int) (wb : World), m = Fx.mag s → Own w wb [.obj b7 (.stringIter ⟨fr.toArray⟩ j), .cells b2 [.int .i64 0] 23, .cells b1 [.int .i64 m] 2] → J [] wb := by
              intro m wb hm hob
              refine hJ _ _ fun _ => ?_
              have hm01 : m = Fx.val V fr ∨ m = Fx.val V fr + 1 := by
                rw [hm, hmag]; cases more <;> simp
              refine read3_any w wb b1 b2 m (Fx.minus s) (by omega) (by omega) hob.tail K (fun w' hb => hK _ _ ⟨?_, hb⟩)
              rw [hread2, hm]
            have wayT : more = true → DoX Tryd.prog (mLoad 2 (.pointer (some ⟨b1, 0, none⟩))) w8 (S_fix_Read_p0 (.pointer (some ⟨b1, 0, none⟩)) (.pointer (some ⟨b2, 0, none⟩)) K) fun t88 ww =>
                DoX Tryd.prog (mBin .add 2 t88 (.int .i64 1)) ww (S_fix_Read_p0 (.pointer (some ⟨b1, 0, none⟩)) (.pointer (some ⟨b2, 0, none⟩)) K) fun t89 ww =>
                DoX Tryd.prog (mStore 2 (.pointer (some ⟨b1, 0, none⟩)) t89) ww (S_fix_Read_p0 (.pointer (some ⟨b1, 0, none⟩)) (.pointer (some ⟨b2, 0, none⟩)) K) fun _ ww =>
                AtX [{ target := .fn (.func 65) #[], args := #[.pointer (some ⟨b1, 0, none⟩), .pointer (some ⟨b2, 0, none⟩)] }] [{ target := .fn (.func 65) #[], args := #[.pointer (some ⟨b1, 0, none⟩), .pointer (some ⟨b2, 0, none⟩)] }] (J [] ww) := by
              intro hmo
              rw [l_cell (show notAgg Tryd.prog 2 = true by kernel_rfl) (ho2.cell 2 rfl 0 rfl)]
              simp only [rs]
              rw [wrap64_id (by omega) (by omega)]
              refine o_store 2 ho2 rfl (by kernel_rfl) rfl (by simp) fun wb hb => ?_
              exact AtX.mk rfl (fin (Fx.val V fr + 1) wb (by rw [hmag, hmo]; rfl) hb)
            have wayF : more = false → J [] w8 := by
              intro hmo
              exact fin (Fx.val V fr) w8 (by rw [hmag, hmo]; simp) ho2
            cases hn : Fx.minus s with
            | true =>
              rw [hn] at hmr
              simp only [if_true] at hmr
              simp only [rs]
              rw [← hmr]
              cases more with
              | true => simp only [rs, g_un]; exact wayT rfl
              | false => simp only [rs, g_un]; exact AtX.mk rfl (wayF rfl)
            | false =>
              rw [hn] at hmr
              simp only [Bool.false_eq_true, if_false] at hmr
              simp only [rs]
              rw [← hmr]
              cases more with
              | true => simp only [rs, g_un]; exact wayT rfl
              | false => simp only [rs, g_un]; exact AtX.mk rfl (wayF rfl)
      have bad : Fx.form s = false → ∀ w4, Own w w4 [.cells b2 [.int .i64 0] 23, .cells b1 [.int .i64 0] 2] →
          DoX Tryd.prog (mStore 2 (.pointer (some ⟨b1, 0, none⟩)) (.int .i64 0)) w4 (S_fix_Read_p0 (.pointer (some ⟨b1, 0, none⟩)) (.pointer (some ⟨b2, 0, none⟩)) K) fun _ ww =>
          DoX Tryd.prog (mStore 23 (.pointer (some ⟨b2, 0, none⟩)) (.int .i64 3)) ww (S_fix_Read_p0 (.pointer (some ⟨b1, 0, none⟩)) (.pointer (some ⟨b2, 0, none⟩)) K) fun _ ww =>
          Leave Tryd.prog [.cell (.pointer (some ⟨b1, 0, none⟩)) 2, .cell (.pointer (some ⟨b2, 0, none⟩)) 23] K [{ target := .fn (.func 65) #[], args := #[.pointer (some ⟨b1, 0, none⟩), .pointer (some ⟨b2, 0, none⟩)] }] .returning ww := by
        intro hf w4 h4
        refine o_store 1 h4 rfl (by kernel_rfl) rfl (by simp) fun w5 h5 => ?_
        refine o_store 0 h5 rfl (by kernel_rfl) rfl (by simp) fun w6 h6 => ?_
        exact door_ok 1 0 h6 rfl rfl K (bad3 hf)
      by_cases hemp : wh ++ part = []
      · simp only [e_str, hemp, decide_true, rs, g_un]
        refine bad ?_ _ h3
        rw [hform]
        have : wh = [] ∧ part = [] := by simpa using hemp
        rw [this.1, this.2]; rfl
      · simp only [e_str, hemp, decide_false, rs, g_un]
        have hne : 0 < wh.length + part.length := by
          rw [← List.length_append]; exact List.length_pos_iff.2 hemp
        refine c_ret (pdigits_ret wh w3 (by omega)) ?_
        rintro v w4 ⟨rfl, b4⟩
        have h4 := h3.grow b4
        cases hd1 : wh.all Fx.isDig with
        | false =>
          simp only [rs, g_un]
          refine bad ?_ _ h4
          rw [hform, hd1]; rfl
        | true =>
          simp only [rs, g_un]
          refine c_ret (pdigits_ret part w4 (by omega)) ?_
          rintro v w5 ⟨rfl, b5⟩
          have h5 := h4.grow b5
          cases hd2 : part.all Fx.isDig with
          | false =>
            simp only [rs, g_un]
            refine bad ?_ _ h5
            rw [hform, hd1, hd2]; rfl
          | true =>
            simp only [rs, g_un]
            refine good ?_ _ h5
            rw [hform, hd1, hd2, decide_eq_true hne]; rfl
    refine join fun J hJ => ?_
    have goJ : ∀ l : List UInt8, l = Fx.body s → J [.string ⟨l.toArray⟩] w2 := by
      intro l hl
      refine hJ _ _ fun _ => ?_
      rw [hl, ← hmin]
      exact main
    cases hm45 : ([45] : List UInt8).isPrefixOf s with
    | true =>
      rw [hm45, Bool.true_or, if_pos rfl] at hbody
      simp only [rs, g_un]
      rw [s_from Tryd.underlying9 (by omega) (by have := hpos (by rw [hm45]; rfl); omega)]
      exact AtX.mk rfl (goJ (s.drop 1) hbody.symm)
    | false =>
      simp only [rs]
      refine c_ret (hasPrefix_ret s [43] w2) ?_
      rintro v w4 ⟨rfl, rfl⟩
      rw [hm45, Bool.false_or] at hbody
      cases hm43 : ([43] : List UInt8).isPrefixOf s with
      | true =>
        rw [hm43, if_pos rfl] at hbody
        simp only [rs]
        rw [s_from Tryd.underlying9 (by omega) (by have := hpos (by rw [hm43, Bool.or_true]); omega)]
        exact AtX.mk rfl (goJ (s.drop 1) hbody.symm)
      | false =>
        rw [hm43] at hbody
        simp only [rs]
        exact AtX.mk rfl (goJ s (by rw [hbody]; simp))
end Go.Proofs.YtfnpfbgnhncgpaaDoor
