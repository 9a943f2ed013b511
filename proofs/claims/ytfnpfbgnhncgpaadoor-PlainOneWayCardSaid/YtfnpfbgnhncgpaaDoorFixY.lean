/- The laws of layer 2, walked: lives, FixTells, FixReckons, FixNear. -/
import Derived.Test.YtfnpfbgnhncgpaaDoorFixX
import Derived.Test.YtfnpfbgnhncgpaaDoorSLaw02
namespace Go.Proofs.YtfnpfbgnhncgpaaDoor
set_option linter.unusedVariables false
set_option linter.unusedSimpArgs false
set_option linter.defProp false
open Eng Go.RowKit
set_option linter.unusedVariables false
set_option linter.unusedSimpArgs false

theorem c_told {P : Program} {f : Nat} {args : Array Value} {w0 w : World} {L : List Ent} {PK : List PanicEntry → World → Prop} {K : Value → World → Prop} {x y : Value} (h : Ret P f args w (fun v w' => v = x ∧ Below w.heap.size w w')) (hx : x = y) (ho : Own w0 w L)
    (k : ∀ w', Own w0 w' L → K y w') : CallX P f args w PK K := by
  refine c_ret h ?_
  rintro v w' ⟨rfl, hb⟩
  rw [hx]; exact k _ (ho.grow hb)
theorem rootP_20000 {x : Int × Int} (h : Fx.rootP 20000 x) : x = (14142, 0) :=
  rootP_unique h (by rw [Fx.rootP, if_pos (by decide), if_neg (by decide)]; exact ⟨14142, ⟨by decide, by decide, by decide⟩, rfl⟩)
theorem lives_ret (w : World) : Ret Tryd.prog 17 #[] w (fun v w' => v = .bool true ∧ Below w.heap.size w w') := by
  refine ret_of fun K hK => S_foliantlaw02_lives_ok ?_
  unfold S_foliantlaw02_lives
  refine c_told (pread_ret [45, 46, 50, 53] w (by decide)) (show _ = pair (-2500, 0) by rw [show Fx.read [45, 46, 50, 53] = (-2500, 0) by decide]) (Own.start w) fun w1 h1 => ?_
  simp only [pair, ex]
  refine c_told (pread_ret [48, 46, 48, 48, 48, 48, 53] w1 (by decide)) (show _ = pair (1, 0) by rw [show Fx.read [48, 46, 48, 48, 48, 48, 53] = (1, 0) by decide]) h1 fun w2 h2 => ?_
  simp only [pair, ex]
  refine c_told (pread_ret [45, 48, 46, 48, 48, 48, 48, 53] w2 (by decide)) (show _ = pair (0, 0) by rw [show Fx.read [45, 48, 46, 48, 48, 48, 48, 53] = (0, 0) by decide]) h2 fun w3 h3 => ?_
  simp only [pair, ex]
  refine c_told (pread_ret [49, 101, 51] w3 (by decide)) (show _ = pair (0, 3) by rw [show Fx.read [49, 101, 51] = (0, 3) by decide]) h3 fun w4 h4 => ?_
  simp only [pair, ex]
  refine c_told (pread_ret [49, 48, 55, 51, 55, 53] w4 (by decide)) (show _ = pair (0, 2) by rw [show Fx.read [49, 48, 55, 51, 55, 53] = (0, 2) by decide]) h4 fun w5 h5 => ?_
  simp only [pair, ex, rs, ne_eq, not_true_eq_false, decide_false]
  refine c_told (ptext_ret 30000 w5) (show _ = .string ⟨([51, 46, 48] : List UInt8).toArray⟩ by rw [show Fx.text 30000 = [51, 46, 48] by decide]) h5 fun w6 h6 => ?_
  simp only [rs, ne_eq, not_true_eq_false, decide_false]
  refine c_told (ptext_ret 1 w6) (show _ = .string ⟨([48, 46, 48, 48, 48, 49] : List UInt8).toArray⟩ by rw [show Fx.text 1 = [48, 46, 48, 48, 48, 49] by decide]) h6 fun w7 h7 => ?_
  simp only [rs, ne_eq, not_true_eq_false, decide_false]
  refine c_told (ptext_ret 0 w7) (show _ = .string ⟨([48, 46, 48] : List UInt8).toArray⟩ by rw [show Fx.text 0 = [48, 46, 48] by decide]) h7 fun w8 h8 => ?_
  simp only [rs, ne_eq, not_true_eq_false, decide_false]
  refine c_told (near_ret (-5) 2 w8 (by decide) (by decide) (by decide)) (show _ = pair (-2, 0) by rw [show Fx.nearE (-5) 2 = (-2, 0) by decide]) h8 fun w9 h9 => ?_
  simp only [pair, ex]
  refine c_told (mul_ret 15000 15000 w9) (show _ = pair (22500, 0) by rw [show Fx.mul 15000 15000 = (22500, 0) by decide]) h9 fun w10 h10 => ?_
  simp only [pair, ex]
  refine c_told (div_ret 10000 30000 w10) (show _ = pair (3333, 0) by rw [show Fx.div 10000 30000 = (3333, 0) by decide]) h10 fun w11 h11 => ?_
  simp only [pair, ex]
  refine o_new (fun b => .slice (some ⟨b, 0, none⟩) 4 4) [.int .i64 5000, .int .i64 1, .int .i64 5000, .int .i64 1] 2 (fun _ => by kernel_rfl) h11 fun b3 w12 h12 => ?_
  refine c_told (dot_ret _ [5000, 1, 5000, 1] w12 (h12.sl 0 rfl 1 4 4 rfl) (by simp)) (show _ = pair (1, 0) by rw [show Fx.dot [5000, 1, 5000, 1] = (1, 0) by decide]) h12.tail fun w13 h13 => ?_
  simp only [pair, ex]
  refine c_ret (proot_ret 20000 w13) ?_
  rintro v w14 ⟨⟨x, rfl, hx⟩, b14⟩
  have h14 := h13.grow b14
  rw [rootP_20000 hx]
  simp only [pair, ex]
  refine o_new (fun b => .slice (some ⟨b, 0, none⟩) 2 2) [.int .i64 3, .int .i64 4] 2 (fun _ => by kernel_rfl) h14 fun b4 w15 h15 => ?_
  refine c_told (sum_ret _ [3, 4] w15 (h15.sl 0 rfl 1 2 2 rfl) (by simp)) (show _ = pair (7, 0) by rw [show Fx.sum [3, 4] = (7, 0) by decide]) h15.tail fun w16 h16 => ?_
  simp only [pair, ex]
  refine c_told (div_ret 1 0 w16) (show _ = pair (0, 1) by rw [show Fx.div 1 0 = (0, 1) by decide]) h16 fun w17 h17 => ?_
  simp only [pair, ex, rs, decide_true]
  refine c_told (whole_ret 15000 w17 (by decide) (by decide)) (show _ = .int .i64 2 by rw [show Fx.near 15000 10000 = 2 by decide]) h17 fun w18 h18 => ?_
  simp only [rs, decide_true]
  exact hK _ _ ⟨rfl, h18.done⟩

abbrev I64 (n : Int) : Prop := -9223372036854775808 ≤ n ∧ n ≤ 9223372036854775807
theorem fixTells_ret (s : List UInt8) (n d : Int) (w : World) (hs : s.length ≤ 9223372036854775807) (hn : I64 n) (hd : I64 d) :
    Ret Tryd.prog 3 #[.string ⟨s.toArray⟩, .int .i64 n, .int .i64 d] w (fun v w' => v = .bool true ∧ Below w.heap.size w w') := by
  refine ret_of fun K hK => S_foliantlaw02_FixTells_ok ?_
  unfold S_foliantlaw02_FixTells
  simp only [s_len Tryd.underlying9, rs]
  by_cases h3 : (3000 : Int) < (s.length : Int)
  · simp only [h3, decide_true, rs]
    refine c_told (lives_ret w) rfl (Own.start w) fun w1 h1 => ?_
    exact hK _ _ ⟨rfl, h1.done⟩
  · simp only [h3, decide_false, rs]
    refine c_told (pread_ret s w (by omega)) rfl (Own.start w) fun w1 h1 => ?_
    simp only [pair, ex]
    refine c_told (rread_ret s w1 (by omega)) rfl h1 fun w2 h2 => ?_
    simp only [pair, ex]
    refine c_told (near_ret n d w2 hd hn.1 hn.2) rfl h2 fun w3 h3 => ?_
    simp only [pair, ex]
    refine c_told (rnear_ret n d w3 hd hn.1 hn.2) rfl h3 fun w4 h4 => ?_
    simp only [pair, ex]
    refine c_ret (proot_ret n w4) ?_
    rintro v w5 ⟨⟨x, rfl, hx⟩, b5⟩
    have h5 := h4.grow b5
    simp only [pair, ex]
    refine c_ret (rroot_ret n w5) ?_
    rintro v w6 ⟨⟨y, rfl, hy⟩, b6⟩
    have h6 := h5.grow b6
    have hxy := rootP_unique hx hy
    subst hxy
    simp only [pair, ex, rs, decide_true]
    refine c_told (ptext_ret n w6) rfl h6 fun w7 h7 => ?_
    refine c_told (rtext_ret n w7) rfl h7 fun w8 h8 => ?_
    simp only [rs, decide_true]
    refine c_told (whole_ret n w8 hn.1 hn.2) rfl h8 fun w9 h9 => ?_
    refine c_told (rwhole_ret n w9 hn.1 hn.2) rfl h9 fun w10 h10 => ?_
    simp only [rs, decide_true]
    refine c_told (lives_ret w10) rfl h10 fun w11 h11 => ?_
    exact hK _ _ ⟨rfl, h11.done⟩

theorem fixReckons_ret (a b : Int) (v : Value) (zs : List Int) (w : World) (hs : Sl w v 1 zs.length (ints zs)) :
    Ret Tryd.prog 4 #[.int .i64 a, .int .i64 b, v] w (fun v w' => v = .bool true ∧ Below w.heap.size w w') := by
  refine ret_of fun K hK => S_foliantlaw02_FixReckons_ok ?_
  unfold S_foliantlaw02_FixReckons
  simp only [sl_len Tryd.underlying31 hs, rs]
  by_cases h3 : (300 : Int) < (zs.length : Int)
  · simp only [h3, decide_true, rs]
    refine c_told (lives_ret w) rfl (Own.start w) fun w1 h1 => ?_
    exact hK _ _ ⟨rfl, h1.done⟩
  · simp only [h3, decide_false, rs]
    refine c_told (mul_ret a b w) rfl (Own.start w) fun w1 h1 => ?_
    simp only [pair, ex]
    refine c_told (rmul_ret a b w1) rfl h1 fun w2 h2 => ?_
    simp only [pair, ex]
    refine c_told (div_ret a b w2) rfl h2 fun w3 h3 => ?_
    simp only [pair, ex]
    refine c_told (rdiv_ret a b w3) rfl h3 fun w4 h4 => ?_
    simp only [pair, ex]
    refine c_told (dot_ret v zs w4 (h4.oldSl hs) (by omega)) rfl h4 fun w5 h5 => ?_
    simp only [pair, ex]
    refine c_told (rdot_ret v zs w5 (h5.oldSl hs) (by omega)) rfl h5 fun w6 h6 => ?_
    simp only [pair, ex]
    refine c_told (sum_ret v zs w6 (h6.oldSl hs) (by omega)) rfl h6 fun w7 h7 => ?_
    simp only [pair, ex]
    refine c_told (rsum_ret v zs w7 (h7.oldSl hs) (by omega)) rfl h7 fun w8 h8 => ?_
    simp only [pair, ex, rs, decide_true]
    refine c_told (lives_ret w8) rfl h8 fun w11 h11 => ?_
    exact hK _ _ ⟨rfl, h11.done⟩

theorem fixNear_ret (n d : Int) (w : World) (hn : I64 n) (hd : I64 d) :
    Ret Tryd.prog 6 #[.int .i64 n, .int .i64 d] w (fun v w' => v = .bool true ∧ Below w.heap.size w w') := by
  refine ret_of fun K hK => S_foliantlaw02_FixNear_ok ?_
  unfold S_foliantlaw02_FixNear
  have out : CallX Tryd.prog 17 #[] w (pk K) fun t21 ww => K (.returned t21) ww :=
    c_told (lives_ret w) rfl (Own.start w) fun w1 h1 => hK _ _ ⟨rfl, h1.done⟩
  by_cases c1 : n < -1073741824
  · simp only [rs, c1, decide_true, g_un]; exact out
  · by_cases c2 : 1073741824 < n
    · simp only [rs, c1, c2, decide_true, decide_false, g_un]; exact out
    · by_cases c3 : d < 1
      · simp only [rs, c1, c2, c3, decide_true, decide_false, g_un]; exact out
      · by_cases c4 : 1073741824 < d
        · simp only [rs, c1, c2, c3, c4, decide_true, decide_false, g_un]; exact out
        · simp only [rs, c1, c2, c3, c4, decide_false, g_un]
          refine c_told (near_ret n d w hd hn.1 hn.2) (show _ = pair (Fx.near n d, 0) by rw [Fx.nearE, if_neg c3, if_neg (by omega)]) (Own.start w) fun w1 h1 => ?_
          simp only [pair, ex, rs, decide_true]
          obtain ⟨s1, s2⟩ := Fx.near_spec n d (by omega)
          obtain ⟨b1, b2⟩ := Fx.near_bd n d 1073741824 (by omega) (by omega) (by omega) (by omega)
          generalize Fx.near n d = q at *
          have e : d * (2 * q + 1) = d * (2 * q - 1) + 2 * d := by rw [show 2 * q + 1 = (2 * q - 1) + 2 by omega, Int.mul_add, Int.mul_comm d 2]
          have c5 : -1073741824 ≤ q := b1
          have c6 : q ≤ 1073741824 := b2
          have e1 := wrap64_id (n := 2 * q) (by omega) (by omega)
          have e2 := wrap64_id (n := 2 * q - 1) (by omega) (by omega)
          have e3 := wrap64_id (n := 2 * q + 1) (by omega) (by omega)
          have e4 := wrap64_id (n := 2 * n) (by omega) (by omega)
          have e5 := wrap64_id (n := d * (2 * q - 1)) (by omega) (by omega)
          have e6 := wrap64_id (n := d * (2 * q + 1)) (by omega) (by omega)
          simp only [c5, c6, e1, e2, e3, e4, e5, e6, s1, s2, decide_true, rs]
          refine c_told (lives_ret w1) rfl h1 fun w2 h2 => ?_
          exact hK _ _ ⟨rfl, h2.done⟩
end Go.Proofs.YtfnpfbgnhncgpaaDoor
