/- Texts that go together: HdD HdE. -/
import Derived.Test.YtgffladaenimmaaGreatDoorMabjmbpao
import Derived.Test.YtgffladaenimmaaGreatDoorMcajbfhim
import Derived.Test.YtgffladaenimmaaGreatDoorMnikkkobh
import Derived.Test.YtgffladaenimmaaGreatDoorMjiabcohn
/- Contracts: foliantref17.Ends, foliantref10.Same; foliantlaw17.lives. -/
namespace Go.Proofs.YtgffladaenimmaaGreatDoor
set_option linter.unusedVariables false
set_option linter.unusedSimpArgs false
set_option linter.defProp false
open Eng Go.RowKit

theorem nInt' : notAgg Tryz.prog 3 = true := by kernel_rfl
/-- A slice of integers is read. -/
theorem ints_open {w : World} {v : Value} {xs : List Value} (hs : Sl w v 1 xs.length xs) (hn : 0 < xs.length) : ∃ b off cap, v = .slice (some ⟨b, off, none⟩) xs.length cap ∧ ∀ (i : Int) (x : Value), 0 ≤ i → xs[i.toNat]? = some x →
    (∀ {PK : List PanicEntry → World → Prop} {K : Value → World → Prop}, DoX Tryz.prog (mIA 32 (.slice (some ⟨b, off, none⟩) xs.length cap) (.int .i64 i)) w PK K = K (.pointer (some ⟨b, off + i.toNat, none⟩)) w) ∧
    (∀ {PK : List PanicEntry → World → Prop} {K : Value → World → Prop}, DoX Tryz.prog (mLoad 3 (.pointer (some ⟨b, off + i.toNat, none⟩))) w PK K = K x w) := by
  obtain ⟨b, off, cap, rfl, hc⟩ := sl_open hs hn
  refine ⟨b, off, cap, rfl, fun i x hi hx => ⟨?_, ?_⟩⟩
  · intro PK K
    refine do_eq ?_
    have hlt := (List.getElem?_eq_some_iff.1 hx).1
    have := @run_ia Tryz.prog w 32 3 .i64 b off xs.length cap 1 i Tryz.underlying32 (by kernel_rfl) hi (by omega)
    rw [Nat.mul_one] at this
    exact this
  · intro PK K
    exact l_cell nInt' (hc i.toNat x hx)
theorem rEnds_ret (s : List UInt8) (w : World) (hs : s.length ≤ 1099511627776) : Ret Tryz.prog 20 #[.string ⟨s.toArray⟩] w (fun v w' => Own w w' [IRow v (intsV (Hd.ends s))]) := by
  refine ret_of fun K hK => S_foliantref17_Ends_ok ?_
  unfold S_foliantref17_Ends
  refine loop (fun vs w' => ∃ (i : Nat) (v : Value), vs = [v, .int .i64 i] ∧ i ≤ s.length ∧ Own w w' [IRow v (intsV (Hd.endsTo s i))]) (fun vs _ => s.length - n1 vs) ⟨0, .slice none 0 0, rfl, by omega, (Own.start w).nilRow _ 1⟩ ?_
  rintro vs w2 ⟨i, v, rfl, hi, ho⟩ _
  simp only [S_foliantref17_Ends_0, gd, s_len Tryz.underlying9, rs]
  by_cases hlt : (i : Int) < (s.length : Int)
  · have hi' : i < s.length := by omega
    simp only [hlt, decide_true, i_t]
    refine join fun J hJ => ?_
    refine c_eq (rbegins_ret s Hd.eof i w2 hs) ?_
    rw [begins_occ s Hd.eof i (by omega)]
    have go : ∀ (v' : Value) (W : World), Own w W [IRow v' (intsV (Hd.endsTo s (i + 1)))] → J [v'] W := by
      intro v' W ho'
      refine hJ _ _ fun _ => ?_
      simp only [S_foliantref17_Ends_1, gd, rs]
      rw [wrap64_id (by omega) (by omega)]
      exact nextX ⟨i + 1, v', rfl, by omega, ho'⟩ (by simp [n1, intOf]; omega)
    have miss : Hd.endAt s i = false → J [v] w2 := by
      intro he
      refine go v w2 ?_
      rw [Hd.endsTo_succ, he]
      simpa using ho
    have hit : Hd.endAt s i = true → Hd.occ s Hd.eof i = true → CallX Tryz.prog 51 #[.string ⟨s.toArray⟩, .int .i64 (IntKind.wrap .i64 ((i : Int) + 5))] w2 (pk K) fun t36 w =>
        DoX Tryz.prog (mBuildS 32 1 #[(0, t36)]) w (pk K) fun t37 w =>
        DoX Tryz.prog (mB .append #[32, 32] 32 #[false, false] #[v, t37]) w (pk K) fun t38 w =>
        J [t38] w := by
      intro he ho5
      have hr := Hd.occ_room (by omega) ho5
      have hr : i + 5 ≤ s.length := hr
      rw [wrap64_id (by omega) (by omega)]
      refine c_eq (rline_ret s (i + 5) w2 hr hs) ?_
      have hl := Hd.endsTo_len s i
      refine o_appI 0 ho rfl (by rw [show (intsV (Hd.endsTo s i)).length = (Hd.endsTo s i).length by simp [intsV]]; omega) fun v' W ho' => ?_
      refine go v' W ?_
      rw [Hd.endsTo_succ, if_pos he]
      have e : intsV (Hd.endsTo s i ++ [Lx.line s (i + 5)]) = intsV (Hd.endsTo s i) ++ [.int .i64 (Lx.line s (i + 5) : Nat)] := by simp [intsV]
      rw [e]
      exact ho'
    cases hocc : Hd.occ s Hd.eof i with
    | false =>
      simp only [rs, g_un]
      exact miss (by unfold Hd.endAt; rw [hocc, Bool.false_and])
    | true =>
      simp only [rs]
      by_cases h0 : (i : Int) = 0
      · simp only [h0, decide_true, rs, g_un]
        have := hit (by unfold Hd.endAt; rw [hocc, Bool.true_and, decide_eq_true (by omega)]; rfl) hocc
        rw [h0] at this
        exact this
      · have hlt1 : i - 1 < s.length := by omega
        have hc : s[((i : Int) - 1).toNat]? = some s[i - 1] := by rw [show ((i : Int) - 1).toNat = i - 1 by omega]; exact List.getElem?_eq_getElem hlt1
        have hg : s.getD (i - 1) 0 = s[i - 1] := by rw [List.getD_eq_getElem?_getD, List.getElem?_eq_getElem hlt1]; rfl
        have hea : Hd.endAt s i = Lx.eol s[i - 1] := by
          unfold Hd.endAt
          rw [hocc, Bool.true_and, decide_eq_false (show ¬ i = 0 by omega), Bool.false_or, hg]
        have w1' : IntKind.wrap .i64 ((i : Int) - 1) = (i : Int) - 1 := wrap64_id (by omega) (by omega)
        have hix : ∀ {w : World} {PK : List PanicEntry → World → Prop} {K : Value → World → Prop}, DoX Tryz.prog (mIx 9 (.string ⟨s.toArray⟩) (.int .i64 ((i : Int) - 1))) w PK K = K (.int .u8 (s[i - 1].toNat : Int)) w := s_ix Tryz.underlying9 (by omega) hc
        by_cases g1 : s[i - 1] = 10
        · have e1 : (s[i - 1].toNat : Int) = 10 := by rw [g1]; decide
          simp only [h0, decide_false, rs, w1', hix, e1, decide_true, g_un]
          exact hit (by rw [hea, g1]; rfl) hocc
        · have e1 : ¬ ((s[i - 1].toNat : Int) = 10) := fun h => g1 (UInt8.toNat_inj.1 (by have : (10 : UInt8).toNat = 10 := rfl; omega))
          by_cases g2 : s[i - 1] = 13
          · have e2 : (s[i - 1].toNat : Int) = 13 := by rw [g2]; decide
            simp only [h0, decide_false, rs, w1', hix, decide_eq_false e1, decide_eq_true e2]
            exact hit (by rw [hea, g2]; rfl) hocc
          · have e2 : ¬ ((s[i - 1].toNat : Int) = 13) := fun h => g2 (UInt8.toNat_inj.1 (by have : (13 : UInt8).toNat = 13 := rfl; omega))
            simp only [h0, decide_false, rs, w1', hix, decide_eq_false e1, decide_eq_false e2]
            exact miss (by rw [hea]; simp [Lx.eol, g1, g2])
  · simp only [hlt, decide_false, i_f]
    have : i = s.length := by omega
    subst this
    exact hK _ _ ho
theorem intsV_get {l : List Nat} {i : Nat} (h : i < l.length) : (intsV l)[i]? = some (.int .i64 (l[i] : Int)) := by simp [intsV, h]
theorem intsV_len (l : List Nat) : (intsV l).length = l.length := by simp [intsV]
/-- The same integers. -/
theorem sameI_ret (va vb : Value) (xs : List Nat) (w : World) (ha : Sl w va 1 (intsV xs).length (intsV xs)) (hb : Sl w vb 1 (intsV xs).length (intsV xs)) (hl : xs.length ≤ 1099511627776) :
    Ret Tryz.prog 18 #[va, vb] w (fun r w' => r = .bool true ∧ Below w.heap.size w w') := by
  refine ret_of fun K hK => S_foliantref10_Same_ok ?_
  unfold S_foliantref10_Same
  rw [sl_len Tryz.underlying32 ha, sl_len Tryz.underlying32 hb]
  simp only [rs, ne_eq, not_true, decide_false]
  refine loop (fun vs w' => ∃ (i : Nat), vs = [.int .i64 i] ∧ i ≤ xs.length ∧ Own w w' []) (fun vs _ => xs.length - n0 vs) ⟨0, rfl, by omega, Own.start w⟩ ?_
  rintro vs w2 ⟨i, rfl, hi, ho⟩ _
  simp only [S_foliantref10_Same_0, gd, sl_len Tryz.underlying32 (ho.oldSl ha), rs]
  have hxl := intsV_len xs
  by_cases hlt : (i : Int) < ((intsV xs).length : Int)
  · have h1 : i < xs.length := by omega
    simp only [hlt, decide_true, rs, sl_len Tryz.underlying32 (ho.oldSl hb)]
    obtain ⟨ba, oa, ca, rfl, hca⟩ := sl_open ha (by omega)
    obtain ⟨bb, ob, cb, rfl, hcb⟩ := sl_open hb (by omega)
    refine quiet (q_do _ (fun _ => run_ia Tryz.underlying32 (show _ = some 1 by kernel_rfl) (by omega) (by omega)) ?_)
    refine q_at (.int .i64 (xs[i] : Int)) (fun wc hw => run_load_cell nInt' ?_) ?_
    · rw [Int.toNat_natCast, Nat.mul_one]
      exact (ho.grow hw).old (hca i _ (intsV_get h1))
    refine q_do _ (fun _ => run_ia Tryz.underlying32 (show _ = some 1 by kernel_rfl) (by omega) (by omega)) ?_
    refine q_at (.int .i64 (xs[i] : Int)) (fun wc hw => run_load_cell nInt' ?_) ?_
    · rw [Int.toNat_natCast, Nat.mul_one]
      exact (ho.grow hw).old (hcb i _ (intsV_get h1))
    refine q_ne ?_
    intro w3 hw
    have ho := ho.grow hw
    simp only [ne_eq, not_true, decide_false, i_f, rs]
    rw [wrap64_id (by omega) (by omega)]
    exact nextX ⟨i + 1, rfl, by omega, ho⟩ (by simp [n0, intOf]; omega)
  · simp only [hlt, decide_false, rs, g_un]
    exact hK _ _ ⟨rfl, ho.done⟩
theorem smp_t7 : Hd.text 7 = ([37, 80, 68, 70, 45, 49, 46, 55, 10, 37, 226, 227, 207, 211, 10], 0) := by decide +kernel
theorem smp_t10 : Hd.text 10 = ([], 2) := by decide +kernel
theorem smp_v1 : Hd.version ([120] ++ [37, 80, 68, 70, 45, 49, 46, 55, 10, 37, 226, 227, 207, 211, 10]) = (1, 7, 0) := by decide +kernel
theorem smp_v2 : Hd.version [37, 80, 68, 70, 45, 50, 46, 48] = (0, 0, 17) := by decide +kernel
theorem smp_v3 : Hd.version [37, 80, 68, 70, 45, 49, 46] = (0, 0, 17) := by decide +kernel
theorem smp_l5 : Hd.tail 5 = [115, 116, 97, 114, 116, 120, 114, 101, 102, 10, 53, 10, 37, 37, 69, 79, 70, 10] := by
  rw [Hd.tail, if_neg (by decide), show (5 : Int) = ((5 : Nat) : Int) from rfl, dig_one 5 (by omega)]; rfl
theorem smp_l1 : Hd.tail (-1) = [] := by rw [Hd.tail, if_pos (by decide)]
theorem smp_s1 : Hd.start ([97, 98, 99, 100, 101, 102, 103, 104, 105, 106] ++ [115, 116, 97, 114, 116, 120, 114, 101, 102, 10, 53, 10, 37, 37, 69, 79, 70, 10]) = (5, 0) := by decide +kernel
theorem smp_s2 : Hd.start [115, 116, 97, 114, 116, 120, 114, 101, 102, 32, 57, 57, 32, 120] = (0, 18) := by decide +kernel
theorem smp_s3 : Hd.start [115, 116, 97, 114, 116, 120, 114, 101, 102, 32, 45, 49, 32, 120] = (0, 18) := by decide +kernel
theorem smp_s4 : Hd.start [] = (0, 18) := by decide +kernel
theorem smp_e : Hd.ends [37, 37, 69, 79, 70, 10, 120, 13, 37, 37, 69, 79, 70] = [6, 13] := by decide +kernel
theorem hlives_ret (w : World) (ht : Tb w) (hm : Mx w) : Ret Tryz.prog 9 #[] w (fun v w' => v = .bool true ∧ Below w.heap.size w w') := by
  refine ret_of fun K hK => S_foliantlaw17_lives_ok ?_
  unfold S_foliantlaw17_lives
  refine c_told (htext_ret 7 w ht (by omega) (by omega)) (by rw [smp_t7]) (Own.start w) fun w1 h1 => ?_
  simp only [strErrV, ex]
  refine c_told (htext_ret 10 w1 (ht.own h1) (by omega) (by omega)) (by rw [smp_t10]) h1 fun w2 h2 => ?_
  simp only [strErrV, ex]
  refine do_eq (run_s_add (a := [120]) (b := [37, 80, 68, 70, 45, 49, 46, 55, 10, 37, 226, 227, 207, 211, 10]) (by decide)) |>.mpr ?_
  refine c_eq (version_ret _ w2 (hm.own h2) (by decide)) ?_
  rw [smp_v1]
  simp only [verV, ex]
  refine c_eq (version_ret [37, 80, 68, 70, 45, 50, 46, 48] w2 (hm.own h2) (by decide)) ?_
  rw [smp_v2]
  simp only [verV, ex]
  refine c_eq (version_ret [37, 80, 68, 70, 45, 49, 46] w2 (hm.own h2) (by decide)) ?_
  rw [smp_v3]
  simp only [verV, ex]
  refine c_told (tail_ret 5 w2 (ht.own h2)) (by rw [smp_l5]) h2 fun w3 h3 => ?_
  refine do_eq (run_s_add (a := [97, 98, 99, 100, 101, 102, 103, 104, 105, 106]) (b := [115, 116, 97, 114, 116, 120, 114, 101, 102, 10, 53, 10, 37, 37, 69, 79, 70, 10]) (by decide)) |>.mpr ?_
  refine c_told (start_ret _ w3 (by decide)) (by rw [smp_s1]) h3 fun w4 h4 => ?_
  simp only [intErrV, ex]
  refine c_told (start_ret [115, 116, 97, 114, 116, 120, 114, 101, 102, 32, 57, 57, 32, 120] w4 (by decide)) (by rw [smp_s2]) h4 fun w5 h5 => ?_
  simp only [intErrV, ex]
  refine c_told (start_ret [115, 116, 97, 114, 116, 120, 114, 101, 102, 32, 45, 49, 32, 120] w5 (by decide)) (by rw [smp_s3]) h5 fun w6 h6 => ?_
  simp only [intErrV, ex]
  refine c_told (start_ret [] w6 (by decide)) (by rw [smp_s4]) h6 fun w7 h7 => ?_
  simp only [intErrV, ex]
  refine c_ret (headEnds_ret [37, 37, 69, 79, 70, 10, 120, 13, 37, 37, 69, 79, 70] w7 (hm.own h7) (by decide)) ?_
  intro v w8 hn
  rw [smp_e] at hn
  have h8 := h7.join hn
  have q7 : ∀ {T : TypeId} {xo yo : Operand} {w : World} {PK : List PanicEntry → World → Prop} {K : Value → World → Prop}, DoX Tryz.prog (mEq .eql T xo yo (.string ⟨([37, 80, 68, 70, 45, 49, 46, 55, 10, 37, 226, 227, 207, 211, 10] : List UInt8).toArray⟩) (.string ⟨#[37, 80, 68, 70, 45, 49, 46, 55, 10, 37, 226, 227, 207, 211, 10]⟩)) w PK K = K (.bool true) w := by
    intro T xo yo w PK K
    exact (@e_str Tryz.prog w PK K T xo yo [37, 80, 68, 70, 45, 49, 46, 55, 10, 37, 226, 227, 207, 211, 10] [37, 80, 68, 70, 45, 49, 46, 55, 10, 37, 226, 227, 207, 211, 10]).trans (by simp)
  simp only [q7]
  simp only [rs, eq_self, decide_true]
  refine c_told (tail_ret 5 w8 (ht.own h8)) (by rw [smp_l5]) h8 fun w9 h9 => ?_
  have q5 : ∀ {T : TypeId} {xo yo : Operand} {w : World} {PK : List PanicEntry → World → Prop} {K : Value → World → Prop}, DoX Tryz.prog (mEq .eql T xo yo (.string ⟨([115, 116, 97, 114, 116, 120, 114, 101, 102, 10, 53, 10, 37, 37, 69, 79, 70, 10] : List UInt8).toArray⟩) (.string ⟨#[115, 116, 97, 114, 116, 120, 114, 101, 102, 10, 53, 10, 37, 37, 69, 79, 70, 10]⟩)) w PK K = K (.bool true) w := by
    intro T xo yo w PK K
    exact (@e_str Tryz.prog w PK K T xo yo [115, 116, 97, 114, 116, 120, 114, 101, 102, 10, 53, 10, 37, 37, 69, 79, 70, 10] [115, 116, 97, 114, 116, 120, 114, 101, 102, 10, 53, 10, 37, 37, 69, 79, 70, 10]).trans (by simp)
  simp only [q5]
  simp only [rs]
  refine c_told (tail_ret (-1) w9 (ht.own h9)) (by rw [smp_l1]) h9 fun w10 h10 => ?_
  have q0 : ∀ {T : TypeId} {xo yo : Operand} {w : World} {PK : List PanicEntry → World → Prop} {K : Value → World → Prop}, DoX Tryz.prog (mEq .eql T xo yo (.string ⟨([] : List UInt8).toArray⟩) (.string ⟨#[]⟩)) w PK K = K (.bool true) w := by
    intro T xo yo w PK K
    exact (@e_str Tryz.prog w PK K T xo yo [] []).trans (by simp)
  simp only [q0]
  have hsl : Sl w10 v 1 2 (intsV [6, 13]) := irow_sl 0 h10 rfl
  obtain ⟨b, off, cap, rfl, hrd⟩ := ints_open (xs := intsV [6, 13]) hsl (by decide)
  obtain ⟨a0, l0⟩ := hrd 0 (.int .i64 6) (by omega) rfl
  obtain ⟨a1, l1⟩ := hrd 1 (.int .i64 13) (by omega) rfl
  have hlen : ∀ {PK K}, DoX Tryz.prog (mB .len #[32] 3 #[false] #[.slice (some ⟨b, off, none⟩) (intsV [6, 13]).length cap]) w10 PK K = K (.int .i64 2) w10 := sl_len_any Tryz.underlying32
  simp only [rs, eq_self, decide_true, hlen, a0, l0, a1, l1]
  exact hK _ _ ⟨rfl, h10.done⟩
end Go.Proofs.YtgffladaenimmaaGreatDoor
/- foliantlaw17.HeadTells, HeadBack, HeadEnds. -/
namespace Go.Proofs.YtgffladaenimmaaGreatDoor
set_option linter.unusedVariables false
set_option linter.unusedSimpArgs false
set_option linter.defProp false
open Eng Go.RowKit

theorem headTells_ret (s : List UInt8) (m at_ : Int) (w : World) (ht : Tb w) (hm : Mx w) (h0 : -9223372036854775808 ≤ m) (h1 : m ≤ 9223372036854775807) :
    Ret Tryz.prog 3 #[.string ⟨s.toArray⟩, .int .i64 m, .int .i64 at_] w (fun v w' => v = .bool true ∧ Below w.heap.size w w') := by
  refine ret_of fun K hK => S_foliantlaw17_HeadTells_ok ?_
  unfold S_foliantlaw17_HeadTells
  simp only [s_len Tryz.underlying9, rs]
  by_cases hl : (3000 : Int) < (s.length : Int)
  · simp only [hl, decide_true, i_t]
    exact c_told (hlives_ret w ht hm) rfl (Own.start w) fun w1 k1 => hK _ _ ⟨rfl, k1.done⟩
  simp only [hl, decide_false, i_f]
  refine c_eq (version_ret s w hm (by omega)) ?_
  simp only [verV, ex]
  refine c_told (rversion_ret s w (by omega)) rfl (Own.start w) fun w1 k1 => ?_
  simp only [verV, ex]
  refine c_told (htext_ret m w1 (ht.own k1) h0 h1) rfl k1 fun w2 k2 => ?_
  simp only [strErrV, ex]
  refine c_eq (rtext_ret m w2) ?_
  simp only [strErrV, ex]
  refine c_told (start_ret s w2 (by omega)) rfl k2 fun w3 k3 => ?_
  simp only [intErrV, ex]
  refine c_told (rstart_ret s w3 (by omega)) rfl k3 fun w4 k4 => ?_
  simp only [intErrV, ex]
  simp only [rs, eq_self, decide_true]
  refine c_told (tail_ret at_ w4 (ht.own k4)) rfl k4 fun w5 k5 => ?_
  refine c_eq (rtail_ret at_ w5) ?_
  simp only [rs, eq_self, decide_true]
  refine c_ret (headEnds_ret s w5 (hm.own k5) (by omega)) ?_
  intro va w6 n6
  have k6 := k5.join n6
  refine c_ret (rEnds_ret s w6 (by omega)) ?_
  intro vb w7 n7
  have k7 := k6.join n7
  have hel := Hd.endsTo_len s s.length
  refine c_told (sameI_ret va vb (Hd.ends s) w7 (irow_sl 1 k7 rfl) (irow_sl 0 k7 rfl) (by unfold Hd.ends; omega)) rfl k7 fun w8 k8 => ?_
  rw [g_tt]
  refine c_told (hlives_ret w8 (ht.own k8) (hm.own k8)) rfl k8 fun w9 k9 => ?_
  simp only [rs]
  exact hK _ _ ⟨rfl, k9.done⟩
theorem text_len {m : Int} (h0 : 0 ≤ m) (h1 : m ≤ 9) : (Hd.text m).1.length = 15 := by rw [Hd.text_eq h0 h1]; simp [Hd.mark, Hd.headTail]
theorem tail_len {n : Int} (h0 : 0 ≤ n) (h1 : n ≤ 10000) : (Hd.tail n).length = 17 + (Lib.itoa n).length := by
  rw [Hd.tail, if_neg (by omega)]; simp [Hd.startx, Hd.eof]; omega
theorem headBack_ret (s : List UInt8) (m at_ : Int) (w : World) (ht : Tb w) (hm : Mx w) :
    Ret Tryz.prog 4 #[.string ⟨s.toArray⟩, .int .i64 m, .int .i64 at_] w (fun v w' => v = .bool true ∧ Below w.heap.size w w') := by
  refine ret_of fun K hK => S_foliantlaw17_HeadBack_ok ?_
  unfold S_foliantlaw17_HeadBack
  refine c_told (hlives_ret w ht hm) rfl (Own.start w) fun w1 k1 => ?_
  simp only [u_not, Bool.not_true, i_f, s_len Tryz.underlying9, rs]
  have out : K (.returned (.bool true)) w1 := hK _ _ ⟨rfl, k1.done⟩
  by_cases g1 : (3000 : Int) < (s.length : Int)
  · simp only [g1, decide_true, rs, g_un]; exact out
  by_cases g2 : at_ < 0
  · simp only [g1, g2, decide_true, decide_false, rs, g_un]; exact out
  by_cases g3 : 10000 < at_
  · simp only [g1, g2, g3, decide_true, decide_false, rs, g_un]; exact out
  by_cases g4 : m < 0
  · simp only [g1, g2, g3, g4, decide_true, decide_false, rs, g_un]; exact out
  by_cases g5 : 9 < m
  · simp only [g1, g2, g3, g4, g5, decide_true, decide_false, rs, g_un]; exact out
  simp only [g1, g2, g3, g4, g5, decide_false, rs]
  clear out
  have htl := text_len (m := m) (by omega) (by omega)
  have hal := tail_len (n := at_) (by omega) (by omega)
  have h30 := itoa_len30 (n := at_) (by omega) (by omega)
  refine c_told (htext_ret m w1 (ht.own k1) (by omega) (by omega)) rfl k1 fun w2 k2 => ?_
  have hte : (Hd.text m).2 = 0 := by rw [Hd.text_eq (by omega) (by omega)]
  simp only [strErrV, ex, hte]
  generalize hT : (Hd.text m).1 = T at *
  rw [s_add (by omega)]
  refine do_eq (run_s_add (a := T ++ s) (b := [10]) (by simp; omega)) |>.mpr ?_
  refine c_told (tail_ret at_ w2 (ht.own k2)) rfl k2 fun w3 k3 => ?_
  rw [s_add (by simp; omega)]
  generalize hS : T ++ s ++ [10] ++ Hd.tail at_ = S at *
  have hSl : S.length = T.length + s.length + 1 + (Hd.tail at_).length := by rw [← hS]; simp; omega
  have hv : Hd.version S = (1, m, 0) := by rw [← hS, ← hT, List.append_assoc, List.append_assoc]; exact Hd.version_back (by omega) (by omega) _
  have hst : Hd.start S = if (S.length : Int) ≤ at_ then (0, 18) else (at_, 0) := by rw [← hS]; exact Hd.start_back (by omega) (by omega) _
  have hen : Hd.ends S = Hd.endsTo S (T.length + s.length + 1 + 10 + (Lib.itoa at_).length + 1) ++ [S.length] := by
    have e : S = (T ++ s ++ [10] ++ Hd.startx ++ [10] ++ Lib.itoa at_) ++ (10 :: (Hd.eof ++ [10])) := by
      rw [← hS, Hd.tail, if_neg (by omega)]; simp
    have := Hd.ends_back (T ++ s ++ [10] ++ Hd.startx ++ [10] ++ Lib.itoa at_)
    rw [← e] at this
    rw [this]
    congr 2
    simp [Hd.startx]; omega
  refine c_eq (version_ret S w3 (hm.own k3) (by omega)) ?_
  rw [hv]
  simp only [verV, ex]
  refine c_told (start_ret S w3 (by omega)) rfl k3 fun w4 k4 => ?_
  simp only [intErrV, ex]
  refine c_ret (headEnds_ret S w4 (hm.own k4) (by omega)) ?_
  intro v w5 n5
  have k5 := k4.join n5
  generalize hes : Hd.endsTo S (T.length + s.length + 1 + 10 + (Lib.itoa at_).length + 1) = es at *
  have hesl : es.length ≤ T.length + s.length + 1 + 10 + (Lib.itoa at_).length + 1 := by rw [← hes]; exact Hd.endsTo_len _ _
  have hxl : (intsV (Hd.ends S)).length = es.length + 1 := by rw [intsV_len, hen]; simp
  have hsl := irow_sl 0 k5 rfl
  have hlen : ∀ {PK K}, DoX Tryz.prog (mB .len #[32] 3 #[false] #[v]) w5 PK K = K (.int .i64 ((intsV (Hd.ends S)).length : Int)) w5 := sl_len Tryz.underlying32 hsl
  obtain ⟨b, off, cap, rfl, hrd⟩ := ints_open hsl (by omega)
  obtain ⟨a0, l0⟩ := hrd (es.length : Int) (.int .i64 (S.length : Int)) (by omega) (by rw [Int.toNat_natCast, hen]; simp [intsV])
  have w1' : IntKind.wrap .i64 (((intsV (Hd.ends S)).length : Int) - 1) = (es.length : Int) := by rw [wrap64_id (by omega) (by omega)]; omega
  have hne : ¬ (((intsV (Hd.ends S)).length : Int) = 0) := by omega
  rw [hst]
  simp only [rs, ne_eq, not_true, decide_false, hlen, hne, w1', a0, l0, s_len Tryz.underlying9]
  by_cases hat : (S.length : Int) ≤ at_
  · have : ¬ (at_ < (S.length : Int)) := by omega
    simp only [if_pos hat, this, decide_false, rs, decide_true]
    exact hK _ _ ⟨rfl, k5.done⟩
  · have : at_ < (S.length : Int) := by omega
    simp only [if_neg hat, this, rs, decide_true]
    exact hK _ _ ⟨rfl, k5.done⟩
theorem headEndsLaw_ret (s t : List UInt8) (w : World) (ht : Tb w) (hm : Mx w) :
    Ret Tryz.prog 5 #[.string ⟨s.toArray⟩, .string ⟨t.toArray⟩] w (fun v w' => v = .bool true ∧ Below w.heap.size w w') := by
  refine ret_of fun K hK => S_foliantlaw17_HeadEnds_ok ?_
  unfold S_foliantlaw17_HeadEnds
  refine c_told (hlives_ret w ht hm) rfl (Own.start w) fun w1 k1 => ?_
  simp only [u_not, Bool.not_true, i_f, s_len Tryz.underlying9, rs]
  have out : K (.returned (.bool true)) w1 := hK _ _ ⟨rfl, k1.done⟩
  by_cases g1 : (1500 : Int) < (s.length : Int)
  · simp only [g1, decide_true, rs, g_un]; exact out
  by_cases g2 : (1500 : Int) < (t.length : Int)
  · simp only [g1, g2, s_len Tryz.underlying9, decide_true, decide_false, rs, g_un]; exact out
  simp only [g1, g2, s_len Tryz.underlying9, decide_false, rs]
  clear out
  refine do_eq (run_s_add (a := s) (b := [120, 10]) (by simp; omega)) |>.mpr ?_
  generalize hS : s ++ [120, 10] = S at *
  have hSl : S.length = s.length + 2 := by rw [← hS]; simp
  have hla : S.getLast? = some 10 := by rw [← hS]; simp
  refine c_ret (headEnds_ret S w1 (hm.own k1) (by omega)) ?_
  intro va w2 n2
  have k2 := k1.join n2
  refine c_ret (headEnds_ret t w2 (hm.own k2) (by omega)) ?_
  intro vb w3 n3
  have k3 := k2.join n3
  rw [s_add (by omega)]
  refine c_ret (headEnds_ret (S ++ t) w3 (hm.own k3) (by simp; omega)) ?_
  intro vc w4 n4
  have k4 := k3.join n4
  have ha := irow_sl 2 k4 rfl
  have hb := irow_sl 1 k4 rfl
  have hc := irow_sl 0 k4 rfl
  have hap := Hd.ends_app (t := t) hla
  have hri : (Hd.ends (S ++ t)).Pairwise (· < ·) := Hd.endsTo_rise _ _
  have hbd : ∀ e ∈ Hd.ends (S ++ t), e ≤ 4000 := by
    intro e he
    obtain ⟨j, hj, _, rfl⟩ := Hd.endsTo_mem he
    have := Lx.lineF_le ((S ++ t).drop (j + 5))
    unfold Lx.line
    simp at this hj ⊢
    omega
  have hal : (Hd.ends S).length ≤ S.length := Hd.endsTo_len _ _
  have hbl : (Hd.ends t).length ≤ t.length := Hd.endsTo_len _ _
  generalize Hd.ends S = A at *
  generalize Hd.ends t = B at *
  generalize Hd.ends (S ++ t) = C at *
  have hCl : C.length = A.length + B.length := by rw [hap]; simp
  simp only [sl_len Tryz.underlying32 ha, sl_len Tryz.underlying32 hb, sl_len Tryz.underlying32 hc, rs, intsV_len]
  rw [wrap64_id (by omega) (by omega)]
  have : ¬ ((C.length : Int) ≠ (A.length : Int) + (B.length : Int)) := by omega
  simp only [this, decide_false, i_f]
  refine loop (fun vs w' => ∃ i : Nat, vs = [.int .i64 i] ∧ i ≤ C.length ∧ w' = w4) (fun vs _ => C.length - n0 vs) ⟨0, rfl, by omega, rfl⟩ ?_
  rintro vs w5 ⟨i, rfl, hi, rfl⟩ _
  simp only [S_foliantlaw17_HeadEnds_0, gd, rs]
  by_cases hlt : (i : Int) < (C.length : Int)
  · have hi' : i < C.length := by omega
    simp only [hlt, decide_true, i_t]
    have hcl := intsV_len C
    obtain ⟨bc, oc, cc, rfl, rc⟩ := ints_open hc (by omega)
    obtain ⟨ac, lc⟩ := rc (i : Int) (.int .i64 (C[i] : Int)) (by omega) (by rw [Int.toNat_natCast]; exact intsV_get hi')
    have hCi := hbd C[i] (List.getElem_mem hi')
    have hgt : (0 : Int) < (i : Int) → ∀ {PK : List PanicEntry → World → Prop} {K : Value → World → Prop}, DoX Tryz.prog (mIA 32 (.slice (some ⟨bc, oc, none⟩) (intsV C).length cc) (.int .i64 (IntKind.wrap .i64 ((i : Int) - 1)))) w5 PK K = K (.pointer (some ⟨bc, oc + (i - 1), none⟩)) w5 := by
      intro h0 PK K
      obtain ⟨ap, lp⟩ := rc ((i : Int) - 1) (.int .i64 (C[i - 1]'(by omega) : Int)) (by omega) (by rw [show ((i : Int) - 1).toNat = i - 1 by omega]; exact intsV_get (by omega))
      rw [wrap64_id (by omega) (by omega), ap, show ((i : Int) - 1).toNat = i - 1 by omega]
    have hgl : (0 : Int) < (i : Int) → ∀ {PK : List PanicEntry → World → Prop} {K : Value → World → Prop}, DoX Tryz.prog (mLoad 3 (.pointer (some ⟨bc, oc + (i - 1), none⟩))) w5 PK K = K (.int .i64 (C.getD (i - 1) 0 : Int)) w5 := by
      intro h0 PK K
      obtain ⟨ap, lp⟩ := rc ((i : Int) - 1) (.int .i64 (C[i - 1]'(by omega) : Int)) (by omega) (by rw [show ((i : Int) - 1).toNat = i - 1 by omega]; exact intsV_get (by omega))
      rw [show ((i : Int) - 1).toNat = i - 1 by omega] at lp
      rw [lp, List.getD_eq_getElem?_getD, List.getElem?_eq_getElem (by omega)]; rfl
    have hle : (0 : Int) < (i : Int) → ¬ ((C[i] : Int) ≤ (C.getD (i - 1) 0 : Int)) := by
      intro h0
      rw [List.getD_eq_getElem?_getD, List.getElem?_eq_getElem (show i - 1 < C.length by omega)]
      have := List.pairwise_iff_getElem.1 hri (i - 1) i (by omega) hi' (by omega)
      simp only [Option.getD_some]
      omega
    have hAl := intsV_len A
    have hBl := intsV_len B
    have slA : ∀ {PK : List PanicEntry → World → Prop} {K : Value → World → Prop}, DoX Tryz.prog (mB .len #[32] 3 #[false] #[va]) w5 PK K = K (.int .i64 ((intsV A).length : Int)) w5 := sl_len Tryz.underlying32 ha
    by_cases hA : (i : Int) < ((intsV A).length : Int)
    · obtain ⟨ba, oa, ca, rfl, ra⟩ := ints_open ha (by omega)
      have hAi : A[i]'(by omega) = C[i] := by
        rw [List.getElem_of_eq hap, List.getElem_append_left (by omega)]
      obtain ⟨aa, la⟩ := ra (i : Int) (.int .i64 (C[i] : Int)) (by omega) (by rw [Int.toNat_natCast, ← hAi]; exact intsV_get (by omega))
      have hA' : ¬ ((intsV A).length : Int) ≤ (i : Int) := by omega
      by_cases hz : (0 : Int) < (i : Int)
      · simp only [slA, hA, hA', ac, lc, aa, la, hgt hz, hgl hz, hle hz, hz, decide_true, decide_false, ne_eq, not_true, rs, g_un]
        rw [wrap64_id (by omega) (by omega)]
        exact nextX ⟨i + 1, rfl, by omega, rfl⟩ (by simp [n0, intOf]; omega)
      · simp only [slA, hA, hA', ac, lc, aa, la, hz, decide_true, decide_false, ne_eq, not_true, rs, g_un]
        rw [wrap64_id (by omega) (by omega)]
        exact nextX ⟨i + 1, rfl, by omega, rfl⟩ (by simp [n0, intOf]; omega)
    · obtain ⟨bb, ob, cb, rfl, rb⟩ := ints_open hb (by omega)
      have hBi : C[i] = S.length + B[i - A.length]'(by omega) := by
        rw [List.getElem_of_eq hap, List.getElem_append_right (by omega), List.getElem_map]
      obtain ⟨aa, la⟩ := rb ((i : Int) - ((intsV A).length : Int)) (.int .i64 (B[i - A.length]'(by omega) : Int)) (by omega) (by rw [show ((i : Int) - ((intsV A).length : Int)).toNat = i - A.length by omega]; exact intsV_get (by omega))
      have hA' : ((intsV A).length : Int) ≤ (i : Int) := by omega
      have w2' : IntKind.wrap .i64 ((i : Int) - ((intsV A).length : Int)) = (i : Int) - ((intsV A).length : Int) := wrap64_id (by omega) (by omega)
      have w3' : IntKind.wrap .i64 (((B[i - A.length]'(by omega) : Nat) : Int) + (S.length : Int)) = (C[i] : Int) := by rw [wrap64_id (by omega) (by omega)]; omega
      by_cases hz : (0 : Int) < (i : Int)
      · simp only [slA, hA, hA', ac, lc, w2', aa, la, w3', s_len Tryz.underlying9, hgt hz, hgl hz, hle hz, hz, decide_true, decide_false, ne_eq, not_true, rs, g_un]
        rw [wrap64_id (by omega) (by omega)]
        exact nextX ⟨i + 1, rfl, by omega, rfl⟩ (by simp [n0, intOf]; omega)
      · simp only [slA, hA, hA', ac, lc, w2', aa, la, w3', s_len Tryz.underlying9, hz, decide_true, decide_false, ne_eq, not_true, rs, g_un]
        rw [wrap64_id (by omega) (by omega)]
        exact nextX ⟨i + 1, rfl, by omega, rfl⟩ (by simp [n0, intOf]; omega)
  · simp only [hlt, decide_false, i_f]
    exact hK _ _ ⟨rfl, k4.done⟩
end Go.Proofs.YtgffladaenimmaaGreatDoor
