/- Texts that go together: LxF LxG FixU FixV FixW LxH LxI SRef03 LxR SHead SRef17 EngH EngI EngJ EngK HdA LxS LxT LxU LxV LxW LxX LxY LxZ LxAA LxAB LxAC PlS FixX SLaw02 FixY SLaw04 PlT LxAD SLaw03 LxAE HdB HdC SLaw17 HdD SRef55 ScA ScB SScript ScC ScD ScE Plain55B ScF ScG ScH Plain55C ScI ScJ ScK. -/
import Derived.Laws.RangeAny
import Derived.Test.YtjajlcacbbnodaaGreatDoorRows
import Derived.Laws.StructEq
import Derived.Lib.SmallJoins
import Derived.Test.YtjajlcacbbnodaaGreatDoorMllbmeeao
import Derived.Test.YtjajlcacbbnodaaGreatDoorMpipplaom
/- Contracts: literal strings of the program. -/
namespace Go.Proofs.YtjajlcacbbnodaaGreatDoor
set_option linter.unusedVariables false
set_option linter.unusedSimpArgs false
set_option linter.defProp false
open Eng Go.RowKit

/-- A Builder's bytes, in a region that reads. -/
theorem bldString_q {w0 w : World} {L : List Ent} (i : Nat) {b : Nat} {v : Value} {l : List UInt8} (ho : Own w0 w L) (hi : L[i]? = some (Bld b v l)) : Ret Tryz.prog 72 #[.pointer (some ⟨b, 0, none⟩)] w (fun r w' => r = .string ⟨l.toArray⟩ ∧ Own w0 w' L) := by
  refine (bldString_ret (ho.at_ i hi)).mono ?_
  rintro r w' ⟨e', ⟨rfl, rfl⟩, ht⟩
  have := ho.turn i hi ht
  have e : L.set i (Bld b v l) = L := by
    obtain ⟨h1, h2⟩ := List.getElem?_eq_some_iff.1 hi
    rw [← h2]; exact List.set_getElem_self h1
  rw [e] at this
  exact ⟨rfl, this⟩
theorem told_q {w0 w : World} {L : List Ent} {x : Value} {f : Nat} {args : Array Value} (ho : Own w0 w L) (h : Ret Tryz.prog f args w (fun v w' => v = x ∧ Below w.heap.size w w')) : Ret Tryz.prog f args w (fun r w' => r = x ∧ Own w0 w' L) :=
  h.mono fun _ _ r => ⟨r.1, ho.grow r.2⟩
theorem textG_eol {s : List UInt8} {i o : Nat} (h : i < s.length) (he : Lx.eol s[i] = true) : Lx.textG 0 o (s.drop i) = (Lx.textG 0 o (s.drop (Lx.line s i))).map fun r => (10 :: r.1, r.2 + (Lx.line s i - i)) := by
  have hd := Lx.drop_cons h
  have h1 := Lx.lineF_pos s[i] (s.drop (i + 1))
  have h2 := Lx.lineF_le (s.drop i)
  rw [hd] at h2
  have hl : Lx.line s i = i + Lx.lineF (s[i] :: s.drop (i + 1)) := by rw [Lx.line, hd]
  rw [hd, Lx.textG, if_pos he, Lx.textG_skip _ _ _ (by simp at h2 ⊢; omega), Option.map_map, List.drop_drop, hl, show i + 1 + (Lx.lineF (s[i] :: s.drop (i + 1)) - 1) = i + Lx.lineF (s[i] :: s.drop (i + 1)) by omega]
  congr 1
  funext r
  refine Prod.ext rfl ?_
  simp only [Function.comp]; omega
theorem textG_esc {s : List UInt8} {i o : Nat} (h : i + 1 < s.length) (he : s[i] = 92) : Lx.textG 0 o (s.drop i) = (Lx.textG 0 o (s.drop (i + 1 + (Lx.escF (s.drop (i + 1))).2))).map fun r => ((Lx.escF (s.drop (i + 1))).1 ++ r.1, r.2 + 1 + (Lx.escF (s.drop (i + 1))).2) := by
  have hd := Lx.drop_cons (show i < s.length by omega)
  have hd2 := Lx.drop_cons h
  have h2 := Lx.escF_le (s.drop (i + 1))
  have hn : Lx.eol s[i] = false := by rw [he]; rfl
  rw [hd, Lx.textG, if_neg (by rw [hn]; decide), if_pos he]
  rw [if_neg (by rw [hd2]; exact List.cons_ne_nil _ _), Lx.textG_skip _ _ _ h2, Option.map_map, List.drop_drop]
  congr 1
  funext r
  refine Prod.ext rfl ?_
  simp only [Function.comp]; omega
theorem text_ret (s : List UInt8) (a : Nat) (w : World) (hs : s.length ≤ 1099511627776) (ha : a < s.length) : Ret Tryz.prog 164 #[cutV s a] w (fun v w' => v = tokR (Lx.text s a) ∧ Below w.heap.size w w') := by
  refine ret_of fun K hK => S_lex_cutter_text_ok ?_
  unfold S_lex_cutter_text
  refine o_cut s a (Own.start w) fun b1 w1 ho => ?_
  refine o_tok ho fun b w2 ho => ?_
  refine o_new (fun b => .pointer (some ⟨b, 0, none⟩)) [.pointer none, .slice none 0 0] 93 (fun _ => by kernel_rfl) ho fun b4 w3 ho => ?_
  have ho : Own w w3 [Bld b4 (.slice none 0 0) [], tokE b Lx.none_, cutE b1 s a] := OwnS.closeB (l := []) (.inl rfl) roomy_nil ((ho.nilRow 5 1).swap)
  have hw1 : IntKind.wrap .i64 ((a : Int) + 1) = ((a + 1 : Nat) : Int) := by rw [wrap64_id (by omega) (by omega)]; omega
  simp only [fa_c1, cut_a ho 2 rfl, rs, hw1]
  refine loop (fun vs w' => ∃ (i o : Nat) (v d : Value) (acc : List UInt8), vs = [d, .int .i64 o, .int .i64 i] ∧ a + 1 ≤ i ∧ i ≤ s.length ∧ 1 ≤ o ∧ o ≤ i ∧ acc.length ≤ i ∧ Lx.textG 0 1 (s.drop (a + 1)) = (Lx.textG 0 o (s.drop i)).map (fun r => (acc ++ r.1, r.2 + (i - (a + 1)))) ∧ Own w w' [Bld b4 v acc, tokE b Lx.none_, cutE b1 s a])
    (fun vs _ => s.length - n2 vs) ⟨a + 1, 1, _, _, [], rfl, by omega, by omega, by omega, by omega, by simp, by simp, ho⟩ ?_
  rintro vs w4 ⟨i, o, v, d, acc, rfl, hi1, hi2, ho1, ho2, hacc, he, ho⟩ _
  simp only [S_lex_cutter_text_0, gd, fa_c0, cut_s ho 2 rfl, s_len Tryz.underlying9]
  rw [b_lss]
  have bad : ∀ {w5}, Own w w5 [Bld b4 v acc, tokE b Lx.none_, cutE b1 s a] → Lx.textG 0 o (s.drop i) = none → CallX Tryz.prog 158 #[(.int .i64 4)] w5 (pk K) fun t42 w =>
      DoX Tryz.prog (mExt t42 0) w (pk K) fun t43 w =>
      DoX Tryz.prog (mExt t42 1) w (pk K) fun t44 w =>
      DoX Tryz.prog (mStore 41 (.pointer (some ⟨b, 0, none⟩)) t43) w (pk K) fun _ w =>
      RetX Tryz.prog [.cell (.pointer (some ⟨b, 0, none⟩)) 41, .val t44] w K := by
    intro w5 ho hn
    rw [hn, Option.map_none] at he
    exact tok_tail 1 ho rfl (refused_ret 4 _) fun w' hb => hK _ _ ⟨by rw [Lx.text, he], hb⟩
  by_cases hlt : (i : Int) < (s.length : Int)
  · have hi3 : i < s.length := by omega
    have hd := Lx.drop_cons hi3
    simp only [hlt, decide_true, i_t, cut_v ho 2 rfl]
    refine c_below ho (end_ret s a i w4 hs hi3) ?_
    rintro _ w5 rfl ho
    rw [x_0, x_1]
    cases hE : Lx.eol s[i] with
    | true =>
      simp only [if_true, i_t]
      have hlp := Lx.lineF_pos s[i] (s.drop (i + 1))
      have hll := Lx.lineF_le (s.drop i)
      have hL : Lx.line s i = i + Lx.lineF (s.drop i) := rfl
      rw [← hd] at hlp
      rw [List.length_drop] at hll
      refine c_turn 0 ho rfl (writeByteN_ret (k := 10) (ho.at_ 0 rfl) (by omega) rfl (by omega)) ?_
      rintro _ _ w6 ⟨rfl, v', rfl⟩ ho
      refine nextX ⟨Lx.line s i, o, v', _, acc ++ [10], rfl, by omega, by omega, ho1, by omega, by simp; omega, ?_, ho⟩ (by simp [n2, intOf]; omega)
      rw [he, textG_eol hi3 hE, Option.map_map]
      congr 1
      funext r
      refine Prod.ext (by simp) ?_
      simp only [Function.comp]; omega
    | false =>
      simp only [Bool.false_eq_true, if_false, i_f]
      refine join fun J hJ => ?_
      simp only [fa_c0, cut_s ho 2 rfl, s_at hi3]
      have e1 := u8d s[i] 92 92 rfl
      have e2 := u8d s[i] 40 40 rfl
      have e3 := u8d s[i] 41 41 rfl
      have hne : ¬ (Lx.eol s[i] = true) := by rw [hE]; decide
      rw [hd, Lx.textG, if_neg hne] at he
      have hput : ∀ (o' : Nat) (d : Value), 1 ≤ o' → o' ≤ i + 1 → Lx.textG 0 1 (s.drop (a + 1)) = (Lx.textG 0 o' (s.drop (i + 1))).map (fun r => (acc ++ s[i] :: r.1, r.2 + 1 + (i - (a + 1)))) → J [d, .int .i64 o', .int .i64 i] w5 := by
        intro o' d h1 h2 he
        refine hJ _ _ fun _ => ?_
        have h0 : ¬ ((o' : Int) = 0) := by omega
        simp only [S_lex_cutter_text_1, gd, rs, h0, decide_false, fa_c0, cut_s ho 2 rfl, s_at hi3]
        refine c_turn 0 ho rfl (writeByte_ret (c := s[i]) (ho.at_ 0 rfl) (by omega)) ?_
        rintro _ _ w6 ⟨rfl, v', rfl⟩ ho
        rw [wrap64_id (by omega) (by omega)]
        refine nextX ⟨i + 1, o', v', _, acc ++ [s[i]], rfl, by omega, by omega, h1, by omega, by simp; omega, ?_, ho⟩ (by simp [n2, intOf]; omega)
        rw [he]
        congr 1
        funext r
        refine Prod.ext (by simp) ?_
        simp only; omega
      by_cases g1 : s[i] = 92
      · simp only [rs, e1, decide_eq_true g1]
        rw [wrap64_id (by omega) (by omega)]
        simp only [fa_c0, cut_s ho 2 rfl, s_len Tryz.underlying9, rs]
        rw [if_pos g1] at he
        by_cases hend : (i : Int) + 1 = (s.length : Int)
        · simp only [hend, decide_true, i_t]
          refine bad ho ?_
          rw [hd, Lx.textG, if_neg hne, if_pos g1, if_pos (List.drop_eq_nil_of_le (by omega))]
        · have hi4 : i + 1 < s.length := by omega
          simp only [hend, decide_false, i_f, cut_v ho 2 rfl, rs]
          rw [show (i : Int) + 1 = ((i + 1 : Nat) : Int) by omega]
          have hel := Lx.escF_le (s.drop (i + 1))
          rw [List.length_drop] at hel
          refine c_below ho (escaped_ret s a (i + 1) w5 hs hi4) ?_
          rintro _ w6 rfl ho
          rw [x_0, x_1]
          have hxl : (Lx.escF (s.drop (i + 1))).1.length ≤ 1 := by
            rw [Lx.drop_cons hi4, Lx.escF]
            split
            · simp
            · split
              · simp
              · split <;> simp
          refine c_turn 0 ho rfl (writeString_ret (ho.at_ 0 rfl) (by omega)) ?_
          rintro _ _ w7 ⟨_, v', rfl⟩ ho
          refine nextX ⟨i + 1 + (Lx.escF (s.drop (i + 1))).2, o, v', _, acc ++ (Lx.escF (s.drop (i + 1))).1, rfl, by omega, by omega, ho1, by omega, by simp; omega, ?_, ho⟩ (by simp [n2, intOf]; omega)
          have := textG_esc (o := o) hi4 g1
          rw [hd, Lx.textG, if_neg hne, if_pos g1] at this
          rw [he, this, Option.map_map]
          congr 1
          funext r
          refine Prod.ext (by simp) ?_
          simp only [Function.comp]; omega
      rw [if_neg g1] at he
      simp only [rs, e1, decide_eq_false g1]
      by_cases g2 : s[i] = 40
      · simp only [rs, e2, decide_eq_true g2]
        rw [wrap64_id (by omega) (by omega)]
        rw [if_pos g2, Option.map_map] at he
        exact hput (o + 1) d (by omega) (by omega) he
      rw [if_neg g2] at he
      simp only [rs, e2, decide_eq_false g2]
      by_cases g3 : s[i] = 41
      · simp only [rs, e3, decide_eq_true g3]
        rw [wrap64_id (by omega) (by omega)]
        rw [if_pos g3] at he
        by_cases g4 : o ≤ 1
        · have g5 : (o : Int) - 1 = 0 := by omega
          rw [if_pos g4, Option.map_some, List.append_nil] at he
          rw [g5]
          refine hJ _ _ fun _ => ?_
          simp only [S_lex_cutter_text_1, gd, rs, decide_true]
          refine quietC (fun w' => Own w w' [Bld b4 v acc, tokE b Lx.none_, cutE b1 s a]) ho.drew ?_
          refine q_at _ (fun _ ho => cutr_v ho 2 rfl) ?_
          refine q_do (.int .i64 ((i : Int) + 1)) (fun _ => by rw [r_add, wrap64_id (by omega) (by omega)]) ?_
          refine q_call _ (fun _ ho => bldString_q 0 ho rfl) ?_
          refine q_call (tokR (Lx.told 3 a ((i : Int) + 1) acc 32767)) (fun w' ho => told_q ho (told_ret s a 3 _ acc 32767 w')) ?_
          refine q_do _ (fun _ => run_ext0) (q_do _ (fun _ => run_ext1) ?_)
          intro w6 ho
          refine tok_put 1 ho rfl fun w' ho => hK _ _ ⟨?_, ho.done⟩
          simp only [Lx.text, he]
          rw [show ((a + 1 + (1 + (i - (a + 1))) : Nat) : Int) = (i : Int) + 1 by omega]
        · rw [if_neg g4, Option.map_map] at he
          rw [show (o : Int) - 1 = ((o - 1 : Nat) : Int) by omega]
          exact hput (o - 1) d (by omega) (by omega) he
      rw [if_neg g3, Option.map_map] at he
      simp only [rs, e3, decide_eq_false g3]
      exact hput o d ho1 (by omega) he
  · have hi3 : i = s.length := by omega
    simp only [hlt, decide_false, i_f]
    refine bad ho ?_
    rw [hi3, List.drop_length]; rfl
end Go.Proofs.YtjajlcacbbnodaaGreatDoor
/- Contracts: hexadecimal strings of the program. -/
namespace Go.Proofs.YtjajlcacbbnodaaGreatDoor
set_option linter.unusedVariables false
set_option linter.unusedSimpArgs false
set_option linter.defProp false
open Eng Go.RowKit

def n3 (vs : List Value) : Nat := (intOf (vs.getD 3 undef)).toNat
theorem hexS {w : World} {PK : List PanicEntry → World → Prop} {K : Value → World → Prop} {a : Int} (c : Nat) (ha : 0 ≤ a) (ha2 : a ≤ 15) : DoX Tryz.prog (mBin .shl 3 (.int .i64 a) (.int .u64 4)) w PK K = K (.int .i64 (16 * a)) w := by
  rw [b_shl (by omega)]
  have := hexor_fin ⟨a.toNat, by omega⟩ ⟨0, by omega⟩
  have e : a * 2 ^ (min (4 : Int).toNat IntKind.i64.bits) = 16 * a := by
    rw [show (2 : Int) ^ (min (4 : Int).toNat IntKind.i64.bits) = 16 from rfl]; omega
  rw [e, wrap64_id (by omega) (by omega)]
theorem cut_hex_ret (s : List UInt8) (a : Nat) (w : World) (hs : s.length ≤ 1099511627776) (ha : a < s.length) : Ret Tryz.prog 162 #[cutV s a] w (fun v w' => v = tokR (Lx.hex s a) ∧ Below w.heap.size w w') := by
  refine ret_of fun K hK => S_lex_cutter_hex_ok ?_
  unfold S_lex_cutter_hex
  refine o_cut s a (Own.start w) fun b1 w1 ho => ?_
  refine o_tok ho fun b w2 ho => ?_
  have hw1 : IntKind.wrap .i64 ((a : Int) + 1) = ((a + 1 : Nat) : Int) := by rw [wrap64_id (by omega) (by omega)]; omega
  simp only [fa_c1, cut_a ho 1 rfl, rs, hw1]
  let ext (acc : List UInt8) (n : Nat) (r : (List UInt8 × Nat) ⊕ Int) : (List UInt8 × Nat) ⊕ Int := match r with | .inl r => .inl (acc ++ r.1, r.2 + n) | .inr e => .inr e
  refine loop (fun vs w' => ∃ (i : Nat) (h : Int) (v d : Value) (acc : List UInt8), vs = [d, v, .int .i64 h, .int .i64 i] ∧ a + 1 ≤ i ∧ i ≤ s.length ∧ -1 ≤ h ∧ h ≤ 15 ∧ acc.length ≤ i ∧ Lx.hexF (-1) (s.drop (a + 1)) = ext acc (i - (a + 1)) (Lx.hexF h (s.drop i)) ∧ Own w w' [BRow v acc, tokE b Lx.none_, cutE b1 s a])
    (fun vs _ => s.length - n3 vs) ⟨a + 1, -1, _, _, [], rfl, by omega, by omega, by omega, by omega, by simp, ?_, ho.nilRow _ 1⟩ ?_
  · cases Lx.hexF (-1) (s.drop (a + 1)) <;> simp [ext]
  rintro vs w4 ⟨i, h, v, d, acc, rfl, hi1, hi2, hh1, hh2, hacc, he, ho⟩ _
  simp only [S_lex_cutter_hex_0, gd, fa_c0, cut_s ho 2 rfl, s_len Tryz.underlying9]
  rw [b_lss]
  have bad : ∀ (e : Int) {w5}, Own w w5 [BRow v acc, tokE b Lx.none_, cutE b1 s a] → Lx.hexF h (s.drop i) = .inr e → CallX Tryz.prog 158 #[(.int .i64 e)] w5 (pk K) fun t42 w =>
      DoX Tryz.prog (mExt t42 0) w (pk K) fun t43 w =>
      DoX Tryz.prog (mExt t42 1) w (pk K) fun t44 w =>
      DoX Tryz.prog (mStore 41 (.pointer (some ⟨b, 0, none⟩)) t43) w (pk K) fun _ w =>
      RetX Tryz.prog [.cell (.pointer (some ⟨b, 0, none⟩)) 41, .val t44] w K := by
    intro e w5 ho hn
    rw [hn] at he
    exact tok_tail 1 ho rfl (refused_ret e _) fun w' hb => hK _ _ ⟨by simp only [Lx.hex, he, ext], hb⟩
  by_cases hlt : (i : Int) < (s.length : Int)
  · have hi3 : i < s.length := by omega
    have hd := Lx.drop_cons hi3
    simp only [hlt, decide_true, i_t]
    refine join fun J hJ => ?_
    simp only [fa_c0, cut_s ho 2 rfl, s_at hi3]
    have e1 := u8d s[i] 62 62 rfl
    have go : ∀ (h' : Int) (v' d' : Value) (acc' : List UInt8) (w5 : World), -1 ≤ h' → h' ≤ 15 → acc'.length ≤ i + 1 → Lx.hexF (-1) (s.drop (a + 1)) = ext acc' (i + 1 - (a + 1)) (Lx.hexF h' (s.drop (i + 1))) → Own w w5 [BRow v' acc', tokE b Lx.none_, cutE b1 s a] → J [d', v', .int .i64 h'] w5 := by
      intro h' v' d' acc' w5 h1 h2 h3 h4 ho
      refine hJ _ _ fun _ => ?_
      simp only [S_lex_cutter_hex_2, gd, rs]
      rw [wrap64_id (by omega) (by omega)]
      exact nextX ⟨i + 1, h', v', _, acc', rfl, by omega, by omega, h1, h2, h3, h4, ho⟩ (by simp [n3, intOf]; omega)
    rw [hd, Lx.hexF] at he
    have hb0 := Lx.digit_bd s[i]
    by_cases g1 : s[i] = 62
    · simp only [rs, e1, decide_eq_true g1]
      rw [if_pos g1] at he
      refine join fun J3 hJ3 => ?_
      have fin : ∀ (v' : Value) (acc' : List UInt8) (w5 : World), acc' = acc ++ (if 0 ≤ h then [Lx.byte h 0] else []) → Own w w5 [BRow v' acc', tokE b Lx.none_, cutE b1 s a] → J3 [v'] w5 := by
        intro v' acc' w5 hacc' ho
        refine hJ3 _ _ fun _ => ?_
        simp only [S_lex_cutter_hex_1, gd, rs, cut_v ho 2 rfl, o_strB 0 ho rfl]
        rw [wrap64_id (by omega) (by omega)]
        refine tok_tail 1 ho rfl (told_ret s a 3 _ acc' 32767 _) fun w' hb => hK _ _ ⟨?_, hb⟩
        simp only [Lx.hex, he, ext]
        rw [hacc', show ((a + 1 + (1 + (i - (a + 1))) : Nat) : Int) = (i : Int) + 1 by omega]
      by_cases g2 : 0 ≤ h
      · simp only [rs, g2, decide_true]
        rw [hexS 0 g2 hh2, c_8, wrap8_mod]
        have hb := byte_nat (a := h) (b := 0) g2 hh2 (by omega) (by omega)
        refine o_app1 (Lx.byte h 0) (by omega) ho (by omega) fun v' w6 ho => ?_
        exact fin _ _ _ (by rw [if_pos g2]) ho
      · simp only [rs, g2, decide_false]
        exact fin _ _ _ (by rw [if_neg g2, List.append_nil]) ho
    rw [if_neg g1] at he
    simp only [rs, e1, decide_eq_false g1]
    refine c_eq (digit_ret s[i] w4) ?_
    refine c_eq (white_ret s[i] w4) ?_
    cases hw : Oc.white s[i] with
    | true =>
      simp only [rs]
      rw [if_pos hw] at he
      refine go h v _ acc _ hh1 hh2 (by omega) ?_ ho
      rw [he]
      cases Lx.hexF h (s.drop (i + 1)) with
      | inl r => simp only [ext]; rw [show r.2 + 1 + (i - (a + 1)) = r.2 + (i + 1 - (a + 1)) by omega]
      | inr e => rfl
    | false =>
      rw [if_neg (by rw [hw]; decide)] at he
      by_cases g2 : Lx.digit s[i] < 0
      · simp only [rs, g2, decide_true]
        refine bad 3 ho ?_
        rw [hd, Lx.hexF, if_neg g1, if_neg (by rw [hw]; decide), if_pos g2]
      rw [if_neg g2] at he
      by_cases g3 : h < 0
      · simp only [rs, g2, g3, decide_false, decide_true]
        rw [if_pos g3] at he
        refine go _ v _ acc _ hb0.1 hb0.2 (by omega) ?_ ho
        rw [he]
        cases Lx.hexF (Lx.digit s[i]) (s.drop (i + 1)) with
        | inl r => simp only [ext]; rw [show r.2 + 1 + (i - (a + 1)) = r.2 + (i + 1 - (a + 1)) by omega]
        | inr e => rfl
      · simp only [rs, g2, g3, decide_false]
        rw [if_neg g3] at he
        have hor := hexor (a := h) (b := Lx.digit s[i]) (by omega) (by omega) (by omega) (by omega)
        rw [b_shl (by omega), b_or, hor, c_8, wrap8_id (by omega) (by omega)]
        refine o_app1 (Lx.byte h (Lx.digit s[i])) (byte_nat (by omega) (by omega) (by omega) (by omega)) ho (by omega) fun v' w6 ho => ?_
        refine go (-1) v' _ _ _ (by omega) (by omega) (by simp; omega) ?_ ho
        rw [he]
        cases Lx.hexF (-1) (s.drop (i + 1)) with
        | inl r => simp only [ext, List.append_assoc, List.singleton_append]; rw [show r.2 + 1 + (i - (a + 1)) = r.2 + (i + 1 - (a + 1)) by omega]
        | inr e => rfl
  · have hi3 : i = s.length := by omega
    simp only [hlt, decide_false, i_f]
    refine bad 4 ho ?_
    rw [hi3, List.drop_length]; rfl
end Go.Proofs.YtjajlcacbbnodaaGreatDoor
/- Contracts: the reference's form and Read. -/
namespace Go.Proofs.YtjajlcacbbnodaaGreatDoor
set_option linter.unusedVariables false
set_option linter.unusedSimpArgs false
set_option linter.defProp false
open Eng Go.RowKit
set_option linter.unusedVariables false
set_option linter.unusedSimpArgs false

end Go.Proofs.YtjajlcacbbnodaaGreatDoor
/- Contracts: Read, of the reference and of the program. -/
namespace Go.Proofs.YtjajlcacbbnodaaGreatDoor
set_option linter.unusedVariables false
set_option linter.unusedSimpArgs false
set_option linter.defProp false
open Eng Go.RowKit
set_option linter.unusedVariables false
set_option linter.unusedSimpArgs false

end Go.Proofs.YtjajlcacbbnodaaGreatDoor
/- Contracts: the program's Read. -/
namespace Go.Proofs.YtjajlcacbbnodaaGreatDoor
set_option linter.unusedVariables false
set_option linter.unusedSimpArgs false
set_option linter.defProp false
open Eng Go.RowKit
set_option linter.unusedVariables false
set_option linter.unusedSimpArgs false

theorem body_prefix (s : List UInt8) : Fx.minus s = ([45] : List UInt8).isPrefixOf s ∧ Fx.body s = (if ([45] : List UInt8).isPrefixOf s || ([43] : List UInt8).isPrefixOf s then s.drop 1 else s) ∧ (([45] : List UInt8).isPrefixOf s || ([43] : List UInt8).isPrefixOf s → 1 ≤ s.length) := by
  cases s with
  | nil => exact ⟨rfl, rfl, fun h => (by cases h)⟩
  | cons c t =>
    have e1 : ([45] : List UInt8).isPrefixOf (c :: t) = decide (c = 45) := by
      simp only [List.isPrefixOf, Bool.and_true]
      by_cases h : c = 45
      · subst h; rfl
      · rw [decide_eq_false h]; simp; exact fun e => h e.symm
    have e2 : ([43] : List UInt8).isPrefixOf (c :: t) = decide (c = 43) := by
      simp only [List.isPrefixOf, Bool.and_true]
      by_cases h : c = 43
      · subst h; rfl
      · rw [decide_eq_false h]; simp; exact fun e => h e.symm
    rw [e1, e2]
    refine ⟨rfl, ?_, fun _ => by simp⟩
    rw [Fx.body]
    by_cases h1 : c = 45 <;> by_cases h2 : c = 43 <;> simp [h1, h2]

theorem iterPos_obj {w0 w : World} {L : List Ent} (h : Own w0 w L) (i : Nat) {b : Nat} {s : ByteArray} {p : Nat} (hi : L[i]? = some (.obj b (.stringIter s p))) : w.iterPos b = p := by
  have : w.heap[b]? = some (.stringIter s p) := h.at_ i hi
  simp [World.iterPos, this]

theorem read3_any (w0 w : World) (b1 b2 : Nat) (m : Int) (neg : Bool) (h0 : 0 ≤ m) (h1 : m ≤ 1152921504606846976) (h : Own w0 w [.cells b2 [.int .i64 0] 28, .cells b1 [.int .i64 m] 2]) (K : Ending → World → Prop)
    (hk : ∀ w', Below w0.heap.size w0 w' → K (.returned (pair (Fx.ans (if neg then -m else m)))) w') :
    S_fix_Read_3 (.pointer (some ⟨b1, 0, none⟩)) (.pointer (some ⟨b2, 0, none⟩)) (.bool neg) w K := by
  rw [S_fix_Read_3]
  refine join fun J hJ => ?_
  have fin : ∀ (q : Int) (w1 : World), q = (if neg then -m else m) → Own w0 w1 [.cells b2 [.int .i64 0] 28, .cells b1 [.int .i64 q] 2] → J [] w1 := by
    intro q w1 hq ho
    refine hJ _ _ fun _ => ?_
    rw [S_fix_Read_4, l_cell (show notAgg Tryz.prog 2 = true by kernel_rfl) (ho.cell 1 rfl 0 rfl)]
    refine o_new (fun b => .slice (some ⟨b, 0, none⟩) 1 1) [.int .i64 q] 2 (fun _ => by kernel_rfl) ho fun b3 w3 h3 => ?_
    refine c_any (bounded_any _ [q] w3 (h3.sl 0 rfl 1 1 1 rfl) (by simp) _ (fun hok => ?_) (fun hbad => ?_)) (fun _ _ h => h)
    · have hok' : Fx.okB q = true := by simpa using hok
      simp only [Cont]
      rw [l_cell (show notAgg Tryz.prog 2 = true by kernel_rfl) (h3.cell 2 rfl 0 rfl)]
      refine o_store 2 h3 rfl (by kernel_rfl) rfl (by simp) fun w4 h4 => ?_
      refine o_store 1 h4 rfl (by kernel_rfl) rfl (by simp) fun w5 h5 => ?_
      refine door_ok 2 1 h5 rfl rfl K (fun w' hb => ?_)
      have := hk w' hb
      rw [← hq, Fx.ans, if_pos hok'] at this
      exact this
    · have hbad' : Fx.okB q = false := by simpa using hbad
      refine door_bad h3.tail K (fun w' hb => ?_)
      have := hk w' hb
      rw [← hq, Fx.ans, hbad'] at this
      exact this
  cases neg with
  | true =>
    simp only [rs, l_cell (show notAgg Tryz.prog 2 = true by kernel_rfl) (h.cell 1 rfl 0 rfl)]
    rw [wrap64_id (by omega) (by omega)]
    refine o_store 1 h rfl (by kernel_rfl) rfl (by simp) fun w4 h4 => ?_
    exact AtX.mk rfl (fin (-m) w4 rfl h4)
  | false =>
    simp only [rs]
    exact AtX.mk rfl (fin m w rfl h)

theorem pread_ret (s : List UInt8) (w : World) (hs : s.length ≤ 4611686018427387904) : Ret Tryz.prog 240 #[.string ⟨s.toArray⟩] w (fun v w' => v = pair (Fx.read s) ∧ Below w.heap.size w w') := by
  refine ret_of fun K hK => S_fix_Read_ok ?_
  unfold S_fix_Read
  refine o_new (fun b => .pointer (some ⟨b, 0, none⟩)) [.int .i64 0] 2 (fun _ => by kernel_rfl) (Own.start w) fun b1 w1 h1 => ?_
  refine o_new (fun b => .pointer (some ⟨b, 0, none⟩)) [.int .i64 0] 28 (fun _ => by kernel_rfl) h1 fun b2 w2 h2 => ?_
  simp only [s_len Tryz.underlying9, rs]
  have bad3 : Fx.form s = false → ∀ w', Below w.heap.size w w' → K (.returned (.tuple #[.int .i64 0, .int .i64 3])) w' := by
    intro hf w' hb
    exact hK _ _ ⟨by rw [Fx.read, hf]; rfl, hb⟩
  by_cases h40 : (40 : Int) < (s.length : Int)
  · simp only [h40, decide_true, rs]
    refine o_store 1 h2 rfl (by kernel_rfl) rfl (by simp) fun w4 h4 => ?_
    refine o_store 0 h4 rfl (by kernel_rfl) rfl (by simp) fun w5 h5 => ?_
    refine door_ok 1 0 h5 rfl rfl K (bad3 ?_)
    rw [Fx.form, decide_eq_false (by omega), Bool.false_and, Bool.false_and, Bool.false_and]
  · simp only [h40, decide_false, rs]
    obtain ⟨hmin, hbody, hpos⟩ := body_prefix s
    refine c_ret (hasPrefix_ret s [45] w2) ?_
    rintro v w3 ⟨rfl, rfl⟩
    have hlen : (Fx.body s).length ≤ s.length := by
      rw [hbody]; split
      · rw [List.length_drop]; omega
      · omega
    have main : S_fix_Read_0 (.string ⟨(Fx.body s).toArray⟩) (.pointer (some ⟨b1, 0, none⟩)) (.pointer (some ⟨b2, 0, none⟩)) (.bool (Fx.minus s)) w2 K := by
      rw [S_fix_Read_0]
      have hcut : Ret Tryz.prog 82 #[.string ⟨(Fx.body s).toArray⟩, .string ⟨#[46]⟩] w2 (fun v w' => (∃ b, v = .tuple #[.string ⟨(Fx.whole (Fx.body s)).toArray⟩, .string ⟨(Fx.part (Fx.body s)).toArray⟩, .bool b]) ∧ Below w2.heap.size w2 w') := cut_ret (Fx.body s) 46 w2 (by omega)
      refine c_ret hcut ?_
      rintro v w3 ⟨⟨fnd, rfl⟩, b3⟩
      have hform : Fx.form s = ((Fx.whole (Fx.body s)).all Fx.isDig && (Fx.part (Fx.body s)).all Fx.isDig && decide (0 < (Fx.whole (Fx.body s)).length + (Fx.part (Fx.body s)).length)) := by
        rw [Fx.form, decide_eq_true (show s.length ≤ 40 by omega), Bool.true_and]
      have hread : Fx.form s = true → Fx.read s = if Fx.val 0 (Fx.whole (Fx.body s)) > 1073741824 then (0, 2) else Fx.ans (if Fx.minus s then - Fx.mag s else Fx.mag s) := fun h => by rw [Fx.read, if_pos h]
      have hmag : Fx.mag s = Fx.val (Fx.val 0 (Fx.whole (Fx.body s))) (Fx.four (Fx.part (Fx.body s))) + (if Fx.more ((Fx.part (Fx.body s)).drop 4) (Fx.minus s) then 1 else 0) := rfl
      have hwl : (Fx.whole (Fx.body s)).length ≤ (Fx.body s).length := by
        have := (List.takeWhile_sublist (fun c => c != 46) (l := Fx.body s)).length_le; exact this
      have hpl : (Fx.part (Fx.body s)).length ≤ (Fx.body s).length := by
        have := (List.dropWhile_sublist (fun c => c != 46) (l := Fx.body s)).length_le
        rw [Fx.part, List.length_drop]; omega
      generalize Fx.whole (Fx.body s) = wh at *
      generalize Fx.part (Fx.body s) = part at *
      simp only [ex]
      rw [s_add (by omega)]
      have h3 := h2.grow b3
      simp only [rs]
      have good : Fx.form s = true → ∀ w4, Own w w4 [.cells b2 [.int .i64 0] 28, .cells b1 [.int .i64 0] 2] →
          DoX Tryz.prog (mRange 9 (.string ⟨wh.toArray⟩)) w4 (S_fix_Read_p0 (.pointer (some ⟨b1, 0, none⟩)) (.pointer (some ⟨b2, 0, none⟩)) K) fun t46 ww =>
          LoopX [] ww (fun vs2 w N2 => ∀ _ : Sg, S_fix_Read_1 (.pointer (some ⟨b1, 0, none⟩)) (.pointer (some ⟨b2, 0, none⟩)) (.bool (Fx.minus s)) (.string ⟨part.toArray⟩) t46 w N2 K) := by
        intro hf w4 h4
        have hread2 := hread hf
        have hdw : wh.all Fx.isDig = true ∧ part.all Fx.isDig = true := by
          rw [hform] at hf; simp only [Bool.and_eq_true] at hf; exact hf.1
        refine o_range Tryz.underlying9 h4 fun b5 w5 h5 => ?_
        refine loop (fun vs w' => ∃ k : Nat, k ≤ wh.length ∧ vs = [] ∧ Fx.val 0 (wh.take k) ≤ 1073741824 ∧ Own w w' [.obj b5 (.stringIter ⟨wh.toArray⟩ k), .cells b2 [.int .i64 0] 28, .cells b1 [.int .i64 (Fx.val 0 (wh.take k))] 2])
          (fun vs w' => wh.length - w'.iterPos b5) ⟨0, by omega, rfl, by simp [Fx.val], h5⟩ ?_
        rintro vs w6 ⟨k, hk, rfl, hv, ho⟩ _
        have hip := iterPos_obj ho 0 rfl
        rw [S_fix_Read_1]
        have hv0 := Fx.val_ge (wh.take k) 0 (by
          rw [List.all_eq_true]; exact fun x hx => List.all_eq_true.1 hdw.1 x (List.mem_of_mem_take hx)) (by omega)
        by_cases hlt : k < wh.length
        · have hdg := Fx.isDig_bd (List.all_eq_true.1 hdw.1 wh[k] (List.getElem_mem hlt))
          refine o_next 0 ho rfl (List.getElem?_eq_getElem hlt) (by omega) fun w7 h7 => ?_
          simp only [ex, rs, l_cell (show notAgg Tryz.prog 2 = true by kernel_rfl) (h7.cell 2 rfl 0 rfl)]
          rw [wrap32_id (by omega) (by omega), c_int (show (Tryz.prog.underlying 21).isSome = true by kernel_rfl) Tryz.underlying2]
          simp only [rs]
          rw [wrap64_id (n := ((wh[k].toNat : Nat) : Int) - 48) (by omega) (by omega), wrap64_id (n := 10 * _) (by omega) (by omega), wrap64_id (by omega) (by omega)]
          refine o_store 2 h7 rfl (by kernel_rfl) rfl (by simp) fun w8 h8 => ?_
          rw [l_cell (show notAgg Tryz.prog 2 = true by kernel_rfl) (h8.cell 2 rfl 0 rfl)]
          simp only [rs]
          have hvt := Fx.val_take 0 wh k hlt
          by_cases hbig : (1073741824 : Int) < 10 * Fx.val 0 (wh.take k) + ((wh[k].toNat : Int) - 48)
          · simp only [hbig, decide_true, rs]
            refine o_store 2 h8 rfl (by kernel_rfl) rfl (by simp) fun w9 h9 => ?_
            refine o_store 1 h9 rfl (by kernel_rfl) rfl (by simp) fun wa ha => ?_
            refine door_ok 2 1 ha rfl rfl K (fun w' hb => hK _ _ ⟨?_, hb⟩)
            have hge := Fx.val_ge (wh.drop (k + 1)) (Fx.val 0 (wh.take (k + 1))) (by
              rw [List.all_eq_true]; exact fun x hx => List.all_eq_true.1 hdw.1 x (List.mem_of_mem_drop hx)) (by omega)
            rw [← Fx.val_append, List.take_append_drop] at hge
            rw [hread2, if_pos (by omega)]
          · simp only [hbig, decide_false, rs]
            refine AtX.mk rfl (nextX ⟨k + 1, by omega, rfl, by omega, ?_⟩ ?_)
            · rw [hvt]; exact h8
            · show wh.length - w8.iterPos b5 < wh.length - w6.iterPos b5
              rw [hip, iterPos_obj h8 0 rfl]; omega
        · rw [o_next_end 0 ho rfl (by omega)]
          simp only [ex, rs]
          have hke : wh.take k = wh := List.take_of_length_le (by omega)
          rw [hke] at ho hv hv0
          rw [s_add (b := [48, 48, 48, 48, 48]) (by simp; omega), s_upto Tryz.underlying9 (by omega) (by simp; omega)]
          rw [show (4 : Int).toNat = 4 from rfl, Fx.four_five]
          rw [if_neg (by omega)] at hread2
          have h4d := Fx.four_all hdw.2
          have h4l := Fx.four_length part
          have hval4 := Fx.val4 (Fx.four part) (Fx.val 0 wh) h4l h4d
          refine o_range Tryz.underlying9 (ho.tail) fun b7 w7 h7 => ?_
          generalize Fx.val 0 wh = V at *
          generalize hfr : Fx.four part = fr at *
          refine loop (fun vs w' => ∃ k : Nat, k ≤ fr.length ∧ vs = [] ∧ Own w w' [.obj b7 (.stringIter ⟨fr.toArray⟩ k), .cells b2 [.int .i64 0] 28, .cells b1 [.int .i64 (Fx.val V (fr.take k))] 2])
            (fun vs w' => fr.length - w'.iterPos b7) ⟨0, by omega, rfl, h7⟩ ?_
          rintro vs w8 ⟨j, hj, rfl, ho2⟩ _
          have hip2 := iterPos_obj ho2 0 rfl
          rw [S_fix_Read_2]
          by_cases hjt : j < fr.length
          · have hdg := Fx.isDig_bd (List.all_eq_true.1 h4d fr[j] (List.getElem_mem hjt))
            have hvj0 := Fx.val_ge (fr.take j) V (by
              rw [List.all_eq_true]; exact fun x hx => List.all_eq_true.1 h4d x (List.mem_of_mem_take hx)) hv0
            have hvj1 := Fx.val_ge (fr.drop j) (Fx.val V (fr.take j)) (by
              rw [List.all_eq_true]; exact fun x hx => List.all_eq_true.1 h4d x (List.mem_of_mem_drop hx)) (by omega)
            rw [← Fx.val_append, List.take_append_drop] at hvj1
            refine o_next 0 ho2 rfl (List.getElem?_eq_getElem hjt) (by omega) fun w9 h9 => ?_
            simp only [ex, rs, l_cell (show notAgg Tryz.prog 2 = true by kernel_rfl) (h9.cell 2 rfl 0 rfl)]
            rw [wrap32_id (by omega) (by omega), c_int (show (Tryz.prog.underlying 21).isSome = true by kernel_rfl) Tryz.underlying2]
            simp only [rs]
            rw [wrap64_id (n := ((fr[j].toNat : Nat) : Int) - 48) (by omega) (by omega), wrap64_id (n := 10 * _) (by omega) (by omega), wrap64_id (by omega) (by omega)]
            refine o_store 2 h9 rfl (by kernel_rfl) rfl (by simp) fun wa ha => ?_
            refine AtX.mk rfl (nextX ⟨j + 1, by omega, rfl, ?_⟩ ?_)
            · rw [Fx.val_take V fr j hjt]; exact ha
            · show fr.length - wa.iterPos b7 < fr.length - w8.iterPos b7
              rw [hip2, iterPos_obj ha 0 rfl]; omega
          · rw [o_next_end 0 ho2 rfl (by omega)]
            simp only [ex, rs]
            have hje : fr.take j = fr := List.take_of_length_le (by omega)
            rw [hje] at ho2
            rw [s_from Tryz.underlying9 (by omega) (by simp; omega), show (4 : Int).toNat = 4 from rfl]
            have htr : Ret Tryz.prog 297 #[.string ⟨((part ++ [48, 48, 48, 48, 48]).drop 4).toArray⟩, .string ⟨#[48]⟩] w8 (fun v w' => v = .string ⟨(Fx.tr (part.drop 4)).toArray⟩ ∧ w8 = w') := by
              rw [← Fx.tr_drop]
              exact trimRight_ret _ 48 (by decide) w8 (by rw [List.length_drop]; simp; omega)
            refine c_ret htr ?_
            rintro v w9 ⟨rfl, rfl⟩
            have hmr := Fx.more_tr (part.drop 4) (Fx.minus s) (by
              rw [List.all_eq_true]; exact fun x hx => List.all_eq_true.1 hdw.2 x (List.mem_of_mem_drop hx))
            generalize Fx.tr (part.drop 4) = r at *
            generalize Fx.more (part.drop 4) (Fx.minus s) = more at *
            refine join fun J hJ => ?_
            have fin : ∀ (m : Int) (wb : World), m = Fx.mag s → Own w wb [.obj b7 (.stringIter ⟨fr.toArray⟩ j), .cells b2 [.int .i64 0] 28, .cells b1 [.int .i64 m] 2] → J [] wb := by
              intro m wb hm hob
              refine hJ _ _ fun _ => ?_
              have hm01 : m = Fx.val V fr ∨ m = Fx.val V fr + 1 := by
                rw [hm, hmag]; cases more <;> simp
              refine read3_any w wb b1 b2 m (Fx.minus s) (by omega) (by omega) hob.tail K (fun w' hb => hK _ _ ⟨?_, hb⟩)
              rw [hread2, hm]
            have wayT : more = true → DoX Tryz.prog (mLoad 2 (.pointer (some ⟨b1, 0, none⟩))) w8 (S_fix_Read_p0 (.pointer (some ⟨b1, 0, none⟩)) (.pointer (some ⟨b2, 0, none⟩)) K) fun t88 ww =>
                DoX Tryz.prog (mBin .add 2 t88 (.int .i64 1)) ww (S_fix_Read_p0 (.pointer (some ⟨b1, 0, none⟩)) (.pointer (some ⟨b2, 0, none⟩)) K) fun t89 ww =>
                DoX Tryz.prog (mStore 2 (.pointer (some ⟨b1, 0, none⟩)) t89) ww (S_fix_Read_p0 (.pointer (some ⟨b1, 0, none⟩)) (.pointer (some ⟨b2, 0, none⟩)) K) fun _ ww =>
                AtX [{ target := .fn (.func 295) #[], args := #[.pointer (some ⟨b1, 0, none⟩), .pointer (some ⟨b2, 0, none⟩)] }] [{ target := .fn (.func 295) #[], args := #[.pointer (some ⟨b1, 0, none⟩), .pointer (some ⟨b2, 0, none⟩)] }] (J [] ww) := by
              intro hmo
              rw [l_cell (show notAgg Tryz.prog 2 = true by kernel_rfl) (ho2.cell 2 rfl 0 rfl)]
              simp only [rs]
              rw [wrap64_id (by omega) (by omega)]
              refine o_store 2 ho2 rfl (by kernel_rfl) rfl (by simp) fun wb hb => ?_
              exact AtX.mk rfl (fin (Fx.val V fr + 1) wb (by rw [hmag, hmo]; rfl) hb)
            have wayF : more = false → J [] w8 := by
              intro hmo
              exact fin (Fx.val V fr) w8 (by rw [hmag, hmo]; simp) ho2
            cases hn : Fx.minus s with
            | true =>
              rw [hn] at hmr
              simp only [if_true] at hmr
              simp only [rs]
              rw [← hmr]
              cases more with
              | true => simp only [rs, g_un]; exact wayT rfl
              | false => simp only [rs, g_un]; exact AtX.mk rfl (wayF rfl)
            | false =>
              rw [hn] at hmr
              simp only [Bool.false_eq_true, if_false] at hmr
              simp only [rs]
              rw [← hmr]
              cases more with
              | true => simp only [rs, g_un]; exact wayT rfl
              | false => simp only [rs, g_un]; exact AtX.mk rfl (wayF rfl)
      have bad : Fx.form s = false → ∀ w4, Own w w4 [.cells b2 [.int .i64 0] 28, .cells b1 [.int .i64 0] 2] →
          DoX Tryz.prog (mStore 2 (.pointer (some ⟨b1, 0, none⟩)) (.int .i64 0)) w4 (S_fix_Read_p0 (.pointer (some ⟨b1, 0, none⟩)) (.pointer (some ⟨b2, 0, none⟩)) K) fun _ ww =>
          DoX Tryz.prog (mStore 28 (.pointer (some ⟨b2, 0, none⟩)) (.int .i64 3)) ww (S_fix_Read_p0 (.pointer (some ⟨b1, 0, none⟩)) (.pointer (some ⟨b2, 0, none⟩)) K) fun _ ww =>
          Leave Tryz.prog [.cell (.pointer (some ⟨b1, 0, none⟩)) 2, .cell (.pointer (some ⟨b2, 0, none⟩)) 28] K [{ target := .fn (.func 295) #[], args := #[.pointer (some ⟨b1, 0, none⟩), .pointer (some ⟨b2, 0, none⟩)] }] .returning ww := by
        intro hf w4 h4
        refine o_store 1 h4 rfl (by kernel_rfl) rfl (by simp) fun w5 h5 => ?_
        refine o_store 0 h5 rfl (by kernel_rfl) rfl (by simp) fun w6 h6 => ?_
        exact door_ok 1 0 h6 rfl rfl K (bad3 hf)
      by_cases hemp : wh ++ part = []
      · simp only [e_str, hemp, decide_true, rs, g_un]
        refine bad ?_ _ h3
        rw [hform]
        have : wh = [] ∧ part = [] := by simpa using hemp
        rw [this.1, this.2]; rfl
      · simp only [e_str, hemp, decide_false, rs, g_un]
        have hne : 0 < wh.length + part.length := by
          rw [← List.length_append]; exact List.length_pos_iff.2 hemp
        refine c_ret (pdigits_ret wh w3 (by omega)) ?_
        rintro v w4 ⟨rfl, b4⟩
        have h4 := h3.grow b4
        cases hd1 : wh.all Fx.isDig with
        | false =>
          simp only [rs, g_un]
          refine bad ?_ _ h4
          rw [hform, hd1]; rfl
        | true =>
          simp only [rs, g_un]
          refine c_ret (pdigits_ret part w4 (by omega)) ?_
          rintro v w5 ⟨rfl, b5⟩
          have h5 := h4.grow b5
          cases hd2 : part.all Fx.isDig with
          | false =>
            simp only [rs, g_un]
            refine bad ?_ _ h5
            rw [hform, hd1, hd2]; rfl
          | true =>
            simp only [rs, g_un]
            refine good ?_ _ h5
            rw [hform, hd1, hd2, decide_eq_true hne]; rfl
    refine join fun J hJ => ?_
    have goJ : ∀ l : List UInt8, l = Fx.body s → J [.string ⟨l.toArray⟩] w2 := by
      intro l hl
      refine hJ _ _ fun _ => ?_
      rw [hl, ← hmin]
      exact main
    cases hm45 : ([45] : List UInt8).isPrefixOf s with
    | true =>
      rw [hm45, Bool.true_or, if_pos rfl] at hbody
      simp only [rs, g_un]
      rw [s_from Tryz.underlying9 (by omega) (by have := hpos (by rw [hm45]; rfl); omega)]
      exact AtX.mk rfl (goJ (s.drop 1) hbody.symm)
    | false =>
      simp only [rs]
      refine c_ret (hasPrefix_ret s [43] w2) ?_
      rintro v w4 ⟨rfl, rfl⟩
      rw [hm45, Bool.false_or] at hbody
      cases hm43 : ([43] : List UInt8).isPrefixOf s with
      | true =>
        rw [hm43, if_pos rfl] at hbody
        simp only [rs]
        rw [s_from Tryz.underlying9 (by omega) (by have := hpos (by rw [hm43, Bool.or_true]); omega)]
        exact AtX.mk rfl (goJ (s.drop 1) hbody.symm)
      | false =>
        rw [hm43] at hbody
        simp only [rs]
        exact AtX.mk rfl (goJ s (by rw [hbody]; simp))
end Go.Proofs.YtjajlcacbbnodaaGreatDoor
/- Contracts: words of the program, Next. -/
namespace Go.Proofs.YtjajlcacbbnodaaGreatDoor
set_option linter.unusedVariables false
set_option linter.unusedSimpArgs false
set_option linter.defProp false
open Eng Go.RowKit

theorem trimLeft_ret (s cs : List UInt8) (w : World) (hcs : cs.length < 4294967281) (ha : cs.all (fun c => decide (c.toNat < 128)) = true) : Ret Tryz.prog 293 #[.string ⟨s.toArray⟩, .string ⟨cs.toArray⟩] w
    (fun v w' => v = .string ⟨(s.dropWhile (cs.contains ·)).toArray⟩ ∧ Below w.heap.size w w') :=
  Calls.mono (Any.strings_TrimLeft_laid Tryz.lays161 (by kernel_rfl) ⟨s.toArray⟩ ⟨cs.toArray⟩ w (by rw [str_size]; exact hcs)
    (fun j b hj => by
      have := List.all_eq_true.1 ha b (List.mem_of_getElem? hj)
      simpa using this)) (by rintro e w' ⟨rfl, h⟩; exact retK ⟨rfl, h⟩)
theorem tw_all {p : UInt8 → Bool} : ∀ l : List UInt8, l.takeWhile p = l ↔ ∀ x ∈ l, p x = true
  | [] => by simp
  | c :: t => by
    have ih := tw_all (p := p) t
    cases h : p c with
    | true => rw [List.takeWhile_cons_of_pos h]; simp [ih, h]
    | false => rw [List.takeWhile_cons_of_neg (by simp [h])]; simp [h]
theorem dw_le {p : UInt8 → Bool} (l : List UInt8) : (l.dropWhile p).length ≤ l.length := (List.dropWhile_sublist p).length_le
theorem contains1_ret (s : List UInt8) (c : UInt8) (w : World) : Ret Tryz.prog 93 #[.string ⟨s.toArray⟩, .string ⟨#[c]⟩] w (fun v w' => v = .bool (s.contains c) ∧ w = w') := by
  refine Calls.mono (Tryz.strings_Contains_one ⟨s.toArray⟩ c w) ?_
  rintro e w' ⟨rfl, rfl⟩
  refine retK ⟨?_, rfl⟩
  have e : decide (0 ≤ Lib.indexByte s c) = s.contains c := by
    rcases ix_cases c s with ⟨h1, h2, _⟩ | ⟨i, h1, h2, h3, _⟩
    · rw [h1]
      have hn : s.contains c = false := by
        rw [List.contains_eq_any_beq, List.any_eq_false]
        intro x hx
        have := (tw_all s).1 h2 x hx
        intro h; rw [beq_iff_eq] at h; subst h; simp at this
      rw [hn]; rfl
    · rw [h1]
      have hy : s.contains c = true := by
        by_cases h : c ∈ s
        · simpa using h
        · exfalso
          have h4 : s.takeWhile (fun x => x != c) = s := (tw_all s).2 fun x hx => by
            have : x ≠ c := fun e => h (e ▸ hx)
            simpa using this
          rw [h4] at h3
          have := congrArg List.length h3
          simp at this; omega
      rw [hy]; simp
  rw [← e]
theorem sgn_mem (c : UInt8) : ([43, 45] : List UInt8).contains c = Lx.sgn c := by
  simp [Lx.sgn]
theorem dig_mem (c : UInt8) : ([48, 49, 50, 51, 52, 53, 54, 55, 56, 57] : List UInt8).contains c = Lx.dig c := by
  have : ∀ n : Fin 256, ([48, 49, 50, 51, 52, 53, 54, 55, 56, 57] : List UInt8).contains (UInt8.ofNat n.val) = (decide (48 ≤ n.val) && decide (n.val ≤ 57)) := by decide +kernel
  have h := this ⟨c.toNat, c.toNat_lt⟩
  simpa [Lx.dig] using h
theorem sgn_not_dig (c : UInt8) (h : Lx.sgn c = true) : Lx.dig c = false := by
  simp only [Lx.sgn, Bool.or_eq_true, decide_eq_true_eq] at h
  rcases h with rfl | rfl <;> rfl
/-- The class of a run, as the program finds it. -/
theorem class_form (s : List UInt8) : (decide (s.length - (s.dropWhile Lx.sgn).length ≤ 1) && (decide (s.dropWhile Lx.sgn ≠ []) && (s.dropWhile Lx.sgn).all Lx.dig)) = Lx.intForm s := by
  cases s with
  | nil => rfl
  | cons c t =>
    cases hc : Lx.sgn c with
    | false =>
      have h1 : (c :: t).dropWhile Lx.sgn = c :: t := by rw [List.dropWhile_cons_of_neg (by simp [hc])]
      have h2 : Lx.unsign (c :: t) = c :: t := by simp [Lx.unsign, hc]
      rw [h1, Lx.intForm, h2]; simp
    | true =>
      have h1 : (c :: t).dropWhile Lx.sgn = t.dropWhile Lx.sgn := List.dropWhile_cons_of_pos hc
      have h2 : Lx.unsign (c :: t) = t := by simp [Lx.unsign, hc]
      rw [h1, Lx.intForm, h2]
      cases t with
      | nil => rfl
      | cons d u =>
        cases hd : Lx.sgn d with
        | false =>
          have h3 : (d :: u).dropWhile Lx.sgn = d :: u := by rw [List.dropWhile_cons_of_neg (by simp [hd])]
          rw [h3]; simp
        | true =>
          have h3 : (d :: u).dropWhile Lx.sgn = u.dropWhile Lx.sgn := List.dropWhile_cons_of_pos hd
          have h4 := dw_le (p := Lx.sgn) u
          have h5 : ¬ ((c :: d :: u).length - ((d :: u).dropWhile Lx.sgn).length ≤ 1) := by
            rw [h3]; simp only [List.length_cons]; omega
          rw [decide_eq_false h5]
          simp [sgn_not_dig d hd]
theorem intForm_drop {s : List UInt8} (h : Lx.intForm s = true) : s.dropWhile Lx.sgn = Lx.unsign s := by
  cases s with
  | nil => rfl
  | cons c t =>
    cases hc : Lx.sgn c with
    | false => rw [List.dropWhile_cons_of_neg (by simp [hc])]; simp [Lx.unsign, hc]
    | true =>
      rw [List.dropWhile_cons_of_pos hc]
      have h2 : Lx.unsign (c :: t) = t := by simp [Lx.unsign, hc]
      rw [Lx.intForm, h2] at h
      rw [h2]
      cases t with
      | nil => rfl
      | cons d u =>
        cases hd : Lx.sgn d with
        | false => rw [List.dropWhile_cons_of_neg (by simp [hd])]
        | true => simp [sgn_not_dig d hd] at h
theorem class_ret (s : List UInt8) (w : World) (hs : s.length ≤ 1099511627776) : Ret Tryz.prog 238 #[.string ⟨s.toArray⟩] w (fun v w' => v = .int .i64 (if Lx.intForm s then 1 else if s.contains 46 then 2 else 0) ∧ Below w.heap.size w w') := by
  refine ret_of fun K hK => S_lex_class_ok ?_
  unfold S_lex_class
  refine c_below (Own.start w) (trimLeft_ret s [43, 45] w (by decide) rfl) ?_
  rintro _ w1 rfl ho
  have hds : s.dropWhile (fun x => ([43, 45] : List UInt8).contains x) = s.dropWhile Lx.sgn := by
    congr 1; funext c; exact sgn_mem c
  rw [hds, s_len Tryz.underlying9]
  rw [s_len Tryz.underlying9]
  have hle := dw_le (p := Lx.sgn) s
  have hcf := class_form s
  have tl : ∀ w2, Own w w2 [] → Lx.intForm s = false → CallX Tryz.prog 93 #[.string ⟨s.toArray⟩, (.string ⟨#[46]⟩)] w2 (pk K) fun t22 w =>
      IfX t22 (K (.returned (.int .i64 2)) w) (K (.returned (.int .i64 0)) w) := by
    intro w2 ho hi
    refine c_eq (contains1_ret s 46 w2) ?_
    cases hc : s.contains 46 with
    | true => simp only [rs]; exact hK _ _ ⟨by rw [if_neg (by rw [hi]; decide), if_pos hc], ho.done⟩
    | false => simp only [rs]; exact hK _ _ ⟨by rw [if_neg (by rw [hi]; decide), if_neg (by rw [hc]; decide)], ho.done⟩
  simp only [rs]
  rw [wrap64_id (by omega) (by omega)]
  by_cases h1 : (s.length : Int) - ((s.dropWhile Lx.sgn).length : Int) ≤ 1
  · have h1' : s.length - (s.dropWhile Lx.sgn).length ≤ 1 := by omega
    rw [decide_eq_true h1'] at hcf
    simp only [h1, decide_true, rs]
    by_cases h2 : s.dropWhile Lx.sgn ≠ []
    · rw [decide_eq_true h2] at hcf
      rw [show (⟨#[]⟩ : ByteArray) = ⟨([] : List UInt8).toArray⟩ from rfl]
      simp only [rs, decide_eq_true h2]
      refine c_below ho (trim_ret (s.dropWhile Lx.sgn) [48, 49, 50, 51, 52, 53, 54, 55, 56, 57] w1 (by omega) (by decide) rfl) ?_
      rintro _ w2 rfl ho
      have ht : decide (Lib.trimS (s.dropWhile Lx.sgn) [48, 49, 50, 51, 52, 53, 54, 55, 56, 57] = []) = (s.dropWhile Lx.sgn).all Lx.dig := by
        have hp : Fx.isDig = Lx.dig := by funext c; rw [← dig_mem c, ← digs_contains c]
        have this := trimS_nil (s.dropWhile Lx.sgn)
        rw [hp] at this
        cases hall : (s.dropWhile Lx.sgn).all Lx.dig with
        | true => rw [decide_eq_true (this.2 hall)]
        | false => rw [decide_eq_false (fun e => by rw [this.1 e] at hall; cases hall)]
      simp only [rs, ht]
      rw [Bool.true_and, Bool.true_and] at hcf
      rw [hcf]
      cases hi : Lx.intForm s with
      | true => simp only [i_t]; exact hK _ _ ⟨by rw [if_pos hi], ho.done⟩
      | false => simp only [i_f]; exact tl w2 ho hi
    · rw [decide_eq_false h2, Bool.false_and, Bool.and_false] at hcf
      rw [show (⟨#[]⟩ : ByteArray) = ⟨([] : List UInt8).toArray⟩ from rfl]
      simp only [rs, decide_eq_false h2, g_un]
      exact tl w1 ho hcf.symm
  · have h1' : ¬ (s.length - (s.dropWhile Lx.sgn).length ≤ 1) := by omega
    rw [decide_eq_false h1', Bool.false_and] at hcf
    simp only [h1, decide_false, rs, g_un]
    exact tl w1 ho hcf.symm
theorem val_snoc (c : UInt8) (l : List UInt8) (n : Nat) : Lx.val n (l ++ [c]) = 10 * Lx.val n l + (c.toNat - 48) := by
  unfold Lx.val
  rw [List.foldl_append, List.foldl_cons, List.foldl_nil]
theorem lwhole_ret (s : List UInt8) (w : World) (hs : s.length ≤ 1099511627776) (hf : Lx.intForm s = true) : Ret Tryz.prog 239 #[.string ⟨s.toArray⟩] w (fun v w' => v = pair (Lx.whole s) ∧ Below w.heap.size w w') := by
  refine ret_of fun K hK => S_lex_whole_ok ?_
  unfold S_lex_whole
  refine c_below (Own.start w) (trimLeft_ret s [43, 45] w (by decide) rfl) ?_
  rintro _ w1 rfl ho
  have hds : s.dropWhile (fun x => ([43, 45] : List UInt8).contains x) = Lx.unsign s := by
    rw [← intForm_drop hf]; congr 1; funext c; exact sgn_mem c
  rw [hds]
  have hall : (Lx.unsign s).all Lx.dig = true := by
    rw [Lx.intForm, Bool.and_eq_true] at hf; exact hf.2
  have hne : s ≠ [] := by rintro rfl; simp [Lx.intForm, Lx.unsign] at hf
  have hlen : (Lx.unsign s).length ≤ s.length := by rw [← intForm_drop hf]; exact dw_le s
  refine o_range Tryz.underlying9 ho fun b w2 ho => ?_
  refine loop (fun vs w' => ∃ (i : Nat), vs = [.int .i64 ((min (Lx.val 0 ((Lx.unsign s).take i)) 2147483648 : Nat) : Int)] ∧ i ≤ (Lx.unsign s).length ∧ Own w w' [.obj b (.stringIter ⟨(Lx.unsign s).toArray⟩ i)])
    (fun _ w' => match w'.heap[b]? with | some (.stringIter _ i) => (Lx.unsign s).length - i | _ => 0) ⟨0, rfl, by omega, ho⟩ ?_
  rintro vs w3 ⟨i, rfl, hi, ho⟩ _
  simp only [S_lex_whole_0, gd]
  by_cases hlt : i < (Lx.unsign s).length
  · have hdig := List.all_eq_true.1 hall _ (List.getElem_mem hlt)
    have hd2 : 48 ≤ (Lx.unsign s)[i].toNat ∧ (Lx.unsign s)[i].toNat ≤ 57 := by simpa [Lx.dig] using hdig
    have h0 : w3.heap[b]? = some (.stringIter ⟨(Lx.unsign s).toArray⟩ i) := ho.at_ 0 rfl
    refine o_next 0 ho rfl (List.getElem?_eq_getElem hlt) (by omega) fun w4 ho => ?_
    have h1 : w4.heap[b]? = some (.stringIter ⟨(Lx.unsign s).toArray⟩ (i + 1)) := ho.at_ 0 rfl
    simp only [ex, i_t, rs]
    rw [wrap64_id (by omega) (by omega), wrap32_id (by omega) (by omega), c_int (show (Tryz.prog.underlying 21).isSome = true by kernel_rfl) Tryz.underlying2, wrap64_id (n := ((Lx.unsign s)[i].toNat : Int) - 48) (by omega) (by omega)]
    simp only [rs]
    rw [wrap64_id (by omega) (by omega), m_min]
    have e : min (10 * ((min (Lx.val 0 ((Lx.unsign s).take i)) 2147483648 : Nat) : Int) + (((Lx.unsign s)[i].toNat : Int) - 48)) 2147483648 = ((min (Lx.val 0 ((Lx.unsign s).take (i + 1))) 2147483648 : Nat) : Int) := by
      rw [List.take_succ_eq_append_getElem hlt, val_snoc]; omega
    rw [e]
    exact nextX ⟨i + 1, rfl, by omega, ho⟩ (by simp only [h0, h1]; omega)
  · rw [o_next_end 0 ho rfl (by omega)]
    have hi2 : i = (Lx.unsign s).length := by omega
    simp only [ex, i_f, rs, hi2, List.take_length]
    by_cases hbig : 2147483647 < Lx.val 0 (Lx.unsign s)
    · have h1 : (2147483647 : Int) < ((min (Lx.val 0 (Lx.unsign s)) 2147483648 : Nat) : Int) := by omega
      simp only [h1, decide_true, i_t]
      exact hK _ _ ⟨by rw [Lx.whole, if_pos hbig], ho.done⟩
    · have h1 : ¬ (2147483647 : Int) < ((min (Lx.val 0 (Lx.unsign s)) 2147483648 : Nat) : Int) := by omega
      simp only [h1, decide_false, i_f]
      refine join fun J hJ => ?_
      obtain ⟨c, t, rfl⟩ : ∃ c t, s = c :: t := by cases s with | nil => exact absurd rfl hne | cons c t => exact ⟨c, t, rfl⟩
      rw [s_ix (c := c) Tryz.underlying9 (by omega) rfl]
      have e1 := u8d c 45 45 rfl
      rw [Nat.min_eq_left (by omega)]
      by_cases h45 : c = 45
      · simp only [rs, e1, decide_eq_true h45]
        refine hJ _ _ fun _ => ?_
        simp only [S_lex_whole_1, gd]
        rw [wrap64_id (by omega) (by omega)]
        exact hK _ _ ⟨by rw [Lx.whole, if_neg hbig, if_pos (by rw [h45]; rfl)], ho.done⟩
      · simp only [rs, e1, decide_eq_false h45]
        refine hJ _ _ fun _ => ?_
        simp only [S_lex_whole_1, gd]
        exact hK _ _ ⟨by rw [Lx.whole, if_neg hbig, if_neg (by simpa using h45)], ho.done⟩
theorem word_ret (s : List UInt8) (a : Nat) (w : World) (hs : s.length ≤ 1099511627776) (ha : a ≤ s.length) : Ret Tryz.prog 165 #[cutV s a] w (fun v w' => v = tokR (Lx.word s a) ∧ Below w.heap.size w w') := by
  refine ret_of fun K hK => S_lex_cutter_word_ok ?_
  unfold S_lex_cutter_word
  refine o_cut s a (Own.start w) fun b1 w1 ho => ?_
  refine o_tok ho fun b w2 ho => ?_
  simp only [cut_v ho 1 rfl, fa_c1, cut_a ho 1 rfl]
  refine c_below ho (run_ret s a a w2 hs ha) ?_
  rintro _ w3 rfl ho
  have hto := Lx.run_le s ha
  have hto2 : a ≤ Lx.run s a := by unfold Lx.run; omega
  simp only [fa_c0, fa_c1, cut_a ho 1 rfl, cut_s ho 1 rfl]
  rw [s_cut rfl rfl hto2 hto]
  have hcl : (Lx.cut s a (Lx.run s a)).length ≤ s.length := by rw [cut_length hto]; omega
  have hW : Lx.word s a = Lx.wordT (Lx.cut s a (Lx.run s a)) a (Lx.run s a) := rfl
  generalize hT : Lx.cut s a (Lx.run s a) = t at *
  generalize Lx.run s a = r at *
  refine join fun J hJ => ?_
  refine c_below ho (class_ret t w3 (by omega)) ?_
  rintro _ w4 rfl ho
  have fin : ∀ w5 n, Own w w5 [tokE b Lx.none_, cutE b1 s a] → Lx.wordT t a r = Lx.told 5 a r t 127 → J [.int .i64 n] w5 := by
    intro w5 n ho he
    refine hJ _ _ fun _ => ?_
    simp only [S_lex_cutter_word_0, cut_v ho 1 rfl]
    exact tok_tail 0 ho rfl (told_ret s a 5 r t 127 _) fun w' hb => hK _ _ ⟨by rw [hW, he], hb⟩
  by_cases hi : Lx.intForm t = true
  · rw [if_pos hi]
    simp only [rs, decide_true]
    refine c_below ho (lwhole_ret t w4 (by omega) hi) ?_
    rintro _ w5 rfl ho
    simp only [pair, ex, rs]
    by_cases he : (Lx.whole t).2 ≠ 0
    · simp only [decide_eq_true he, i_t]
      exact tok_tail 0 ho rfl (refused_ret _ _) fun w' hb => hK _ _ ⟨by rw [hW, Lx.wordT, if_pos hi, if_pos he], hb⟩
    · simp only [decide_eq_false he, i_f, fa_c1, cut_a ho 1 rfl, m_tokn]
      exact tok_put 0 ho rfl fun w' ho => hK _ _ ⟨by rw [hW, Lx.wordT, if_pos hi, if_neg he], ho.done⟩
  rw [if_neg hi]
  by_cases hp : t.contains 46 = true
  · rw [if_pos hp]
    simp only [rs, decide_true, show ¬ ((2 : Int) = 1) by decide, decide_false]
    refine c_below ho (pread_ret t w4 (by omega)) ?_
    rintro _ w5 rfl ho
    simp only [pair, ex, rs]
    by_cases he : (Fx.read t).2 = 0
    · simp only [decide_eq_true he, i_t, fa_c1, cut_a ho 1 rfl, m_tokn]
      exact tok_put 0 ho rfl fun w' ho => hK _ _ ⟨by rw [hW, Lx.wordT, if_neg hi, if_pos ⟨hp, he⟩], ho.done⟩
    simp only [decide_eq_false he, i_f]
    by_cases he2 : (Fx.read t).2 = 2
    · simp only [he2, decide_true, i_t]
      exact tok_tail 0 ho rfl (refused_ret _ _) fun w' hb => hK _ _ ⟨by rw [hW, Lx.wordT, if_neg hi, if_neg (fun h => he h.2), if_pos ⟨hp, he2⟩], hb⟩
    · simp only [he2, decide_false, i_f]
      exact fin _ _ ho (by rw [Lx.wordT, if_neg hi, if_neg (fun h => he h.2), if_neg (fun h => he2 h.2)])
  · rw [if_neg hp]
    simp only [rs, show ¬ ((0 : Int) = 1) by decide, show ¬ ((0 : Int) = 2) by decide, decide_false]
    exact fin _ _ ho (by rw [Lx.wordT, if_neg hi, if_neg (fun h => hp h.1), if_neg (fun h => hp h.1)])
end Go.Proofs.YtjajlcacbbnodaaGreatDoor
/- Contract: lex.Next. -/
namespace Go.Proofs.YtjajlcacbbnodaaGreatDoor
set_option linter.unusedVariables false
set_option linter.unusedSimpArgs false
set_option linter.defProp false
open Eng Go.RowKit

theorem begins_one (s : List UInt8) (c : UInt8) (k : Nat) (hk : k ≤ s.length) : begins s [c] (k : Int) = decide ((s.drop k).head? = some c) := by
  unfold begins
  rw [Int.toNat_natCast, decide_eq_true (by omega), decide_eq_true (by omega)]
  cases hd : s.drop k with
  | nil => simp
  | cons d t =>
    by_cases h : d = c
    · subst h; simp [List.isPrefixOf]
    · have h11 : (c == d) = false := by simpa using fun e : c = d => h e.symm
      have h12 : ¬ (some d = some c) := by simpa using h
      rw [List.head?_cons, decide_eq_false h12]
      simp [List.isPrefixOf, h11]
theorem m_cut {w : World} {PK : List PanicEntry → World → Prop} {K : Value → World → Prop} {s : List UInt8} {a : Int} : DoX Tryz.prog (mBuild 171 #[(0, .string ⟨s.toArray⟩), (1, .int .i64 a)]) w PK K = K (cutV s a) w := do_eq (by kernel_rfl)
theorem next_ret (s : List UInt8) (i : Int) (w : World) (hs : s.length ≤ 1099511627776) : Ret Tryz.prog 84 #[.string ⟨s.toArray⟩, .int .i64 i] w (fun v w' => v = tokR (Lx.next s i) ∧ Below w.heap.size w w') := by
  refine ret_of fun K hK => S_lex_Next_ok ?_
  unfold S_lex_Next
  refine o_tok (Own.start w) fun b w1 ho => ?_
  have out : (i < 0 ∨ (s.length : Int) < i) → CallX Tryz.prog 158 #[(.int .i64 1)] w1 (pk K) fun t42 w =>
      DoX Tryz.prog (mExt t42 0) w (pk K) fun t43 w =>
      DoX Tryz.prog (mExt t42 1) w (pk K) fun t44 w =>
      DoX Tryz.prog (mStore 41 (.pointer (some ⟨b, 0, none⟩)) t43) w (pk K) fun _ w =>
      RetX Tryz.prog [.cell (.pointer (some ⟨b, 0, none⟩)) 41, .val t44] w K := fun h =>
    tok_tail 0 ho rfl (refused_ret 1 _) fun w' hb => hK _ _ ⟨by rw [Lx.next, if_pos h], hb⟩
  by_cases h1 : i < 0
  · simp only [rs, h1, decide_true, g_un]
    exact out (.inl h1)
  simp only [rs, h1, decide_false, s_len Tryz.underlying9]
  by_cases h2 : (s.length : Int) < i
  · simp only [rs, h2, decide_true]
    exact out (.inr h2)
  simp only [rs, h2, decide_false]
  have hsk : Lx.skipI s i = ((Lx.skip s i.toNat : Nat) : Int) := by rw [Lx.skipI, if_neg (by omega)]
  have hN : Lx.next s i = Lx.token s (Lx.skip s i.toNat) := by rw [Lx.next, if_neg (by omega)]
  have hle := Lx.skip_le s (k := i.toNat) (by omega)
  refine c_eq (skip_ret s i w1 (by omega)) ?_
  rw [hsk]
  generalize Lx.skip s i.toNat = a at *
  rw [m_cut]
  refine o_new (fun b => .pointer (some ⟨b, 0, none⟩)) (cutC [] 0) 171 (fun _ => by kernel_rfl) ho fun b1 w2 ho => ?_
  refine o_put 0 ho rfl (new := cutC s a) (show _ = some 2 by kernel_rfl) (by
    intro v hv
    simp only [cutC, List.mem_cons, List.not_mem_nil, or_false] at hv
    rcases hv with rfl | rfl <;> rfl) rfl fun w3 ho => ?_
  have ho : Own w w3 [cutE b1 s a, tokE b Lx.none_] := ho
  simp only [fa_c1, cut_a ho 0 rfl, s_len Tryz.underlying9, rs]
  by_cases hend : (a : Int) = (s.length : Int)
  · simp only [hend, decide_true, i_t]
    rw [← hend]
    simp only [cut_a ho 0 rfl, m_tok2]
    refine tok_put 1 ho rfl fun w' ho => hK _ _ ⟨?_, ho.done⟩
    rw [hN, Lx.token, List.drop_eq_nil_of_le (by omega)]
  have ha : a < s.length := by omega
  have hd := Lx.drop_cons ha
  simp only [hend, decide_false, i_f]
  have f1 : fOff Tryz.prog 171 1 = some 1 := by kernel_rfl
  have hw1 : IntKind.wrap .i64 ((a : Int) + 1) = ((a + 1 : Nat) : Int) := by rw [wrap64_id (by omega) (by omega)]; omega
  refine quiet (q_do _ (fun _ => run_fa f1) (q_at _ (fun _ hb => cutr_a (ho.grow hb) 0 rfl) (q_do _ (fun _ => run_fa f1) (q_at _ (fun _ hb => cutr_a (ho.grow hb) 0 rfl) (q_do _ (fun _ => by rw [r_add, hw1]) ?_)))))
  refine q_do (.string ⟨([s[a]] : List UInt8).toArray⟩) (fun w => ?_) ?_
  · have := @run_s_slice Tryz.prog w 9 s .i64 .i64 (a : Int) ((a + 1 : Nat) : Int) Tryz.underlying9 (by omega) (by omega) (by omega)
    rw [this, show (s.drop (a : Int).toNat).take (((a + 1 : Nat) : Int).toNat - (a : Int).toNat) = Lx.cut s a (a + 1) from rfl, cut_one ha]
  refine q_do _ (fun _ => run_fa f1) (q_at _ (fun _ hb => cutr_a (ho.grow hb) 0 rfl) (q_do _ (fun _ => by rw [r_add, hw1]) ?_))
  refine q_call (.bool (decide ((s.drop (a + 1)).head? = some s[a]))) (fun w hb => ret_same ?_ hb) ?_
  · rw [← begins_one s s[a] (a + 1) (by omega)]; exact begins_ret s [s[a]] _ w
  intro w4 hb
  have ho := ho.grow hb
  simp only [fa_c1, cut_a ho 0 rfl, s_at ha]
  have hT : Lx.next s i = if s[a] = 91 ∨ s[a] = 93 ∨ s[a] = 123 ∨ s[a] = 125 then Lx.mark s a 1
    else if s[a] = 60 then (if (s.drop (a + 1)).head? = some s[a] then Lx.mark s a 2 else Lx.hex s a)
    else if s[a] = 62 then (if (s.drop (a + 1)).head? = some s[a] then Lx.mark s a 2 else Lx.refused 3)
    else if s[a] = 47 then Lx.name s a
    else if s[a] = 40 then Lx.text s a
    else if s[a] = 41 then Lx.refused 3
    else Lx.word s a := by rw [hN, Lx.token, hd]
  refine join fun J hJ => ?_
  have rest : ∀ b : Bool, (b = true ↔ (s[a] = 91 ∨ s[a] = 93 ∨ s[a] = 123 ∨ s[a] = 125)) → J [.bool b] w4 := by
    intro bb hbb
    refine hJ _ _ fun _ => ?_
    simp only [S_lex_Next_0, gd]
    cases bb with
    | true =>
      simp only [i_t, cut_v ho 0 rfl]
      exact tok_tail 1 ho rfl (mark_ret s a 1 _ hs (by omega)) fun w' hb => hK _ _ ⟨by rw [hT, if_pos (hbb.1 rfl)], hb⟩
    | false =>
      have hn : ¬ (s[a] = 91 ∨ s[a] = 93 ∨ s[a] = 123 ∨ s[a] = 125) := fun h => by have := hbb.2 h; cases this
      rw [if_neg hn] at hT
      have two : (s.drop (a + 1)).head? = some s[a] → a + 2 ≤ s.length := by
        intro h
        cases hdd : s.drop (a + 1) with
        | nil => rw [hdd] at h; cases h
        | cons x t =>
          have := congrArg List.length hdd
          simp at this; omega
      have q1 := u8d s[a] 60 60 rfl
      have q2 := u8d s[a] 62 62 rfl
      have q3 := u8d s[a] 47 47 rfl
      have q4 := u8d s[a] 40 40 rfl
      have q5 := u8d s[a] 41 41 rfl
      by_cases g1 : s[a] = 60
      · simp only [rs, q1, decide_eq_true g1]
        rw [if_pos g1] at hT
        by_cases g : (s.drop (a + 1)).head? = some s[a]
        · simp only [decide_eq_true g, i_t, cut_v ho 0 rfl]
          exact tok_tail 1 ho rfl (mark_ret s a 2 _ hs (two g)) fun w' hb => hK _ _ ⟨by rw [hT, if_pos g], hb⟩
        · simp only [decide_eq_false g, i_f, cut_v ho 0 rfl]
          exact tok_tail 1 ho rfl (cut_hex_ret s a _ hs ha) fun w' hb => hK _ _ ⟨by rw [hT, if_neg g], hb⟩
      rw [if_neg g1] at hT
      simp only [rs, q1, decide_eq_false g1]
      by_cases g2 : s[a] = 62
      · simp only [rs, q2, decide_eq_true g2]
        rw [if_pos g2] at hT
        by_cases g : (s.drop (a + 1)).head? = some s[a]
        · simp only [decide_eq_true g, i_t, cut_v ho 0 rfl]
          exact tok_tail 1 ho rfl (mark_ret s a 2 _ hs (two g)) fun w' hb => hK _ _ ⟨by rw [hT, if_pos g], hb⟩
        · simp only [decide_eq_false g, i_f]
          exact tok_tail 1 ho rfl (refused_ret 3 _) fun w' hb => hK _ _ ⟨by rw [hT, if_neg g], hb⟩
      rw [if_neg g2] at hT
      simp only [rs, q2, decide_eq_false g2]
      by_cases g3 : s[a] = 47
      · simp only [rs, q3, decide_eq_true g3, cut_v ho 0 rfl]
        exact tok_tail 1 ho rfl (name_ret s a _ hs ha) fun w' hb => hK _ _ ⟨by rw [hT, if_pos g3], hb⟩
      rw [if_neg g3] at hT
      simp only [rs, q3, decide_eq_false g3]
      by_cases g4 : s[a] = 40
      · simp only [rs, q4, decide_eq_true g4, cut_v ho 0 rfl]
        exact tok_tail 1 ho rfl (text_ret s a _ hs ha) fun w' hb => hK _ _ ⟨by rw [hT, if_pos g4], hb⟩
      rw [if_neg g4] at hT
      simp only [rs, q4, decide_eq_false g4]
      by_cases g5 : s[a] = 41
      · simp only [rs, q5, decide_eq_true g5]
        exact tok_tail 1 ho rfl (refused_ret 3 _) fun w' hb => hK _ _ ⟨by rw [hT, if_pos g5], hb⟩
      rw [if_neg g5] at hT
      simp only [rs, q5, decide_eq_false g5, cut_v ho 0 rfl]
      exact tok_tail 1 ho rfl (word_ret s a _ hs (by omega)) fun w' hb => hK _ _ ⟨by rw [hT], hb⟩
  have p1 := u8d s[a] 91 91 rfl
  have p2 := u8d s[a] 93 93 rfl
  have p3 := u8d s[a] 123 123 rfl
  have p4 := u8d s[a] 125 125 rfl
  by_cases g1 : s[a] = 91
  · simp only [rs, p1, decide_eq_true g1]; exact rest true (by simp [g1])
  simp only [rs, p1, decide_eq_false g1]
  by_cases g2 : s[a] = 93
  · simp only [rs, p2, decide_eq_true g2]; exact rest true (by simp [g2])
  simp only [rs, p2, decide_eq_false g2]
  by_cases g3 : s[a] = 123
  · simp only [rs, p3, decide_eq_true g3]; exact rest true (by simp [g3])
  simp only [rs, p3, decide_eq_false g3]
  by_cases g4 : s[a] = 125
  · simp only [rs, p4, decide_eq_true g4]; exact rest true (by simp [g4])
  simp only [rs, p4, decide_eq_false g4]
  exact rest false (by simp [g1, g2, g3, g4])
end Go.Proofs.YtjajlcacbbnodaaGreatDoor
/- Code in continuation form, by program (gen.py): 20 functions. -/
namespace Go.Proofs.YtjajlcacbbnodaaGreatDoor
set_option linter.unusedVariables false
set_option linter.unusedSimpArgs false
set_option linter.defProp false
set_option linter.unusedVariables false
set_option maxRecDepth 20000
open Eng

/- foliantref03.Run -/
/- foliantref03.Integer -/
/- foliantref03.whole -/
/- foliantref03.point -/
/- foliantref03.long -/
/- foliantref03.word -/
/- foliantref03.name -/
/- foliantref03.escape -/
/- foliantref03.text -/
/- foliantref03.hex -/
/- foliantref03.token -/
/- foliantref03.Next -/
/- foliantref03.Upto -/
/- foliantref03.All -/
/- foliantref03.Same -/
/- foliantref01.Digit -/
/- foliantref01.Unhex -/
/- foliantref01.Begins -/
/- foliantref01.Line -/
/- foliantref01.Skip -/
end Go.Proofs.YtjajlcacbbnodaaGreatDoor
/- Contracts of foliantref01: Digit, Unhex, Begins, Line, Skip. -/
namespace Go.Proofs.YtjajlcacbbnodaaGreatDoor
set_option linter.unusedVariables false
set_option linter.unusedSimpArgs false
set_option linter.defProp false
open Eng Go.RowKit

end Go.Proofs.YtjajlcacbbnodaaGreatDoor
/- Code in continuation form, by program (gen.py): 11 functions. -/
namespace Go.Proofs.YtjajlcacbbnodaaGreatDoor
set_option linter.unusedVariables false
set_option linter.unusedSimpArgs false
set_option linter.defProp false
set_option linter.unusedVariables false
set_option maxRecDepth 20000
open Eng

/- octet.Find -/
/- octet.Last -/
/- head.Version -/
/- head.Text -/
/- head.Start -/
/- head.Tail -/
/- head.ends$1 -/
/- head.ends -/
/- slices.AppendSeq[[]int,int] -/
/- slices.Collect[int] -/
/- head.Ends -/
end Go.Proofs.YtjajlcacbbnodaaGreatDoor
/- Code in continuation form, by program (gen.py): 8 functions. -/
namespace Go.Proofs.YtjajlcacbbnodaaGreatDoor
set_option linter.unusedVariables false
set_option linter.unusedSimpArgs false
set_option linter.defProp false
set_option linter.unusedVariables false
set_option maxRecDepth 20000
open Eng

/- foliantref01.Find -/
/- foliantref01.Last -/
/- foliantref17.Version -/
/- foliantref17.Text -/
/- foliantref17.Start -/
/- foliantref17.Tail -/
/- foliantref17.Ends -/
/- foliantref10.Same -/
end Go.Proofs.YtjajlcacbbnodaaGreatDoor
/- The engine's rules for ranges over functions. -/
namespace Go.Proofs.YtjajlcacbbnodaaGreatDoor
set_option linter.unusedVariables false
set_option linter.unusedSimpArgs false
set_option linter.defProp false
set_option linter.unusedSimpArgs false
set_option linter.unusedVariables false
namespace Eng
open Go.RowKit

section
variable {S : Nat → Prop} {P : Program} {w w0 : World} {L : List Ent} {PK : List PanicEntry → World → Prop} {K : Value → World → Prop}
theorem OwnS.join {w' : World} {L' : List Ent} (h : OwnS S w0 w L) (k : OwnS NoB w w' L') : OwnS S w0 w' (L' ++ L) := by
  have h' := h.grow k.below
  refine ⟨h'.grew, fun e he => ?_, List.pairwise_append.2 ⟨k.apart, h'.apart, fun e he f hf b hb hb' => ?_⟩⟩
  · rcases List.mem_append.1 he with he | he
    · obtain ⟨a, b⟩ := k.all e he
      refine ⟨a, fun j hj => .inr ?_⟩
      rcases b j hj with h1 | h1
      · exact h1.elim
      · exact Nat.le_trans h.size h1
    · exact h'.all e he
  · have h2 := f.lt (h.mem hf) b hb'
    rcases (k.all e he).2 b hb with h1 | h1
    · exact h1
    · omega
theorem o_beg {l : Nat} {L0 : Loop} {K : World → Prop} (i : Nat) (ho : OwnS S w0 w L) (hi : L[i]? = some (.obj l (lp L0 .ready none))) (k : ∀ w', OwnS S w0 w' (L.set i (.obj l (lp L0 .busy none))) → K w') : BegX P l w K :=
  ⟨_, run_beginRound (ho.at_ i hi), k _ (put_iter ho i hi)⟩
theorem o_end {l : Nat} {L0 : Loop} {j : Option Code} {R : Value → World → Prop} (i : Nat) (ho : OwnS S w0 w L) (hi : L[i]? = some (.obj l (lp L0 .busy none))) (k : ∀ w', OwnS S w0 w' (L.set i (.obj l (lp L0 (if j.isNone then .ready else .done) j))) → R (.bool j.isNone) w') : EndX P l j w R :=
  ⟨_, _, run_endRound (ho.at_ i hi), k _ (put_iter ho i hi)⟩
theorem c_yld {l : Nat} {args : List Value} {R : Value → World → Prop} (h : Yld P l args w R) (k : ∀ v w', R v w' → K v w') : DoX P (mCallV (.func (.yield l) #[] #[]) args.toArray) w PK K := by
  obtain ⟨fn, tmps, asn, bdy, h1, h2⟩ := h
  have hr : (mCallV (.func (.yield l) #[] #[]) args.toArray).run P w = .ok (.round l fn tmps asn bdy) w := by
    rw [← h1]
    simp [mCallV, invoke, Deferred.ofValue, resolve]
  refine ⟨?_⟩
  rw [hr]
  refine ⟨RoundIn.mono h2 ?_⟩
  rintro e w' ⟨v, rfl, hv⟩
  exact k v w' hv
theorem range {js : List (Option Code × (Nat → World → Prop))} {B : Nat → List Value → World → (Value → World → Prop) → Prop} {np f : Nat} {fa ca : Array Value} (ho : OwnS S w0 w L) (hp : plainB P f = true)
    (h : ∀ (L0 : Loop) (df lb : Nat) (w1 : World), OwnS S w0 w1 (.obj lb (lp L0 .ready none) :: .obj df (.deferred (some [])) :: L) →
      (∀ args W R, W.heap[lb]? = some (lp L0 .ready none) → args.length = np → B lb args W R → Yld P lb args W R) →
      Calls P f (fa ++ #[.func (.yield lb) #[] #[]] ++ ca) w1 fun e w3 => ∃ v st pd k, e = .returned v ∧ st ≠ .busy ∧ w3.heap[lb]? = some (lp L0 st pd) ∧ (pd, k) ∈ js ∧ k df (putO w3 lb (lp L0 .exhausted pd))) :
    RangeX P none np (.func (.func f) fa ca) w B js := by
  refine ⟨f, fa, ca, w.heap.size, w.alloc (.deferred (some [])), rfl, hp, ⟨rfl, rfl⟩, fun L0 _ hy => ?_⟩
  exact h L0 w.heap.size (w.alloc (.deferred (some []))).heap.size _ ((ho.allocObj _).allocObj _) (fun args W R h1 h2 h3 => hy _ args W R h1 h2 h3)
/-- The mark of a loop is taken; then the results are read. -/
theorem leave1 {rs : List RV} {K : Ending → World → Prop} {df : Nat} (i : Nat) (ho : OwnS S w0 w L) (hi : L[i]? = some (.obj df (.deferred (some [])))) (k : ∀ w', OwnS S w0 w' (L.set i (.obj df (.deferred none))) → RetD P rs w' K) : LeaveM P rs K [mkD df] .returning w := by
  refine ⟨(fun h => by cases h), df, _, rfl, ?_, k _ (put_iter ho i hi)⟩
  have h : w.heap[df]? = some (.deferred (some [])) := ho.at_ i hi
  simp [Instr.takeDeferred, getObj, setObj, Sem.run, h]
end
end Eng
end Go.Proofs.YtjajlcacbbnodaaGreatDoor
/- The engine's rule for comparing structs of integers and strings. -/
namespace Go.Proofs.YtjajlcacbbnodaaGreatDoor
set_option linter.unusedVariables false
set_option linter.unusedSimpArgs false
set_option linter.defProp false
set_option linter.unusedSimpArgs false
set_option linter.unusedVariables false
namespace Eng
open Go.RowKit

/-- The fields' places, and whether they hold strings. -/
def eqSh (P : Program) : List Field → Option (List (Nat × Bool))
  | [] => some []
  | f :: fs =>
    if f.name == "_" then none
    else match P.underlying f.type with
      | some (.int _) => (eqSh P fs).map ((f.offset, false) :: ·)
      | some .string => (eqSh P fs).map ((f.offset, true) :: ·)
      | _ => none
def cellOk : Bool → Option Value → Option Value → Bool
  | false, some (.int k _), some (.int k' _) => decide (k = k')
  | true, some (.string _), some (.string _) => true
  | _, _, _ => false
def cellEq : Option Value → Option Value → Bool
  | some (.int _ a), some (.int _ b) => a == b
  | some (.string a), some (.string b) => a.toList == b.toList
  | _, _ => false
section
variable {P : Program} {w : World} {PK : List PanicEntry → World → Prop} {K : Value → World → Prop}
theorem run_eqSh (d : Nat) (xs ys : Array Value) : ∀ (fs : List Field) (sh : List (Nat × Bool)), eqSh P fs = some sh → (sh.all fun p => cellOk p.2 xs[p.1]? ys[p.1]?) = true →
    (Op.eqFields (d + 1) xs ys fs).run P w = .ok (sh.all fun p => cellEq xs[p.1]? ys[p.1]?) w
  | [], sh, h, _ => by
    cases h
    simp [Op.eqFields]
  | f :: fs, sh, h, hok => by
    rw [eqSh] at h
    split at h
    · cases h
    · rename_i hn
      have hn' : f.name ≠ "_" := by simpa using hn
      split at h
      · rename_i k hu
        obtain ⟨sh', h', rfl⟩ := Option.map_eq_some_iff.1 h
        simp only [List.all_cons, Bool.and_eq_true] at hok
        obtain ⟨h0, hok⟩ := hok
        have ih := run_eqSh d xs ys fs sh' h' hok
        cases hx : xs[f.offset]? with
        | none => rw [hx] at h0; cases h0
        | some a =>
          cases hy : ys[f.offset]? with
          | none => rw [hx, hy] at h0; cases a <;> cases h0
          | some b =>
            rw [hx, hy] at h0
            cases a <;> cases b <;> first | (cases h0; done) | skip
            rename_i k1 a k2 b
            simp only [cellOk, decide_eq_true_eq] at h0
            subst h0
            simp only [Op.eqFields, hn', ne_eq, not_false_eq_true, if_true, Sem.run_bind, part, isAgg, run_underlying hu, Result.andThen_ok, Sem.run_pure, Bool.false_eq_true, if_false, hx, hy, run_equalIn_int w d f.type k1 k a b hu, List.all_cons, cellEq]
            cases hab : (a == b)
            · simp
            · simp [ih]; rfl
      · rename_i hu
        obtain ⟨sh', h', rfl⟩ := Option.map_eq_some_iff.1 h
        simp only [List.all_cons, Bool.and_eq_true] at hok
        obtain ⟨h0, hok⟩ := hok
        have ih := run_eqSh d xs ys fs sh' h' hok
        cases hx : xs[f.offset]? with
        | none => rw [hx] at h0; cases h0
        | some a =>
          cases hy : ys[f.offset]? with
          | none => rw [hx, hy] at h0; cases a <;> cases h0
          | some b =>
            rw [hx, hy] at h0
            cases a <;> cases b <;> first | (cases h0; done) | skip
            rename_i a b
            simp only [Op.eqFields, hn', ne_eq, not_false_eq_true, if_true, Sem.run_bind, part, isAgg, run_underlying hu, Result.andThen_ok, Sem.run_pure, Bool.false_eq_true, if_false, hx, hy, run_equalIn_string w d f.type a b hu, List.all_cons, cellEq]
            cases hab : (a.toList == b.toList)
            · simp
            · simp [ih]; rfl
      · cases h
/-- What makes a struct type comparable by its cells. -/
def eqT (P : Program) (T : TypeId) (sh : List (Nat × Bool)) : Prop :=
  P.underlying T = some (.struct (P.fieldsOf T)) ∧ P.stoodInHeld T = false ∧ P.eqGuardType P.depth T = false ∧ eqSh P (P.fieldsOf T).toList = some sh
theorem run_eql_agg {T : TypeId} {sh : List (Nat × Bool)} (h : eqT P T sh) {xo yo : Operand} {xs ys : Array Value} (hok : (sh.all fun p => cellOk p.2 xs[p.1]? ys[p.1]?) = true) :
    (mEq .eql T xo yo (.agg xs) (.agg ys)).run P w = .ok (.value (.bool (sh.all fun p => cellEq xs[p.1]? ys[p.1]?))) w := by
  obtain ⟨h1, h2, h3, h4⟩ := h
  refine mv_run ?_
  rw [Sem.run_bind, run_eqGuard_agg w .eql T xo yo xs ys h3]
  simp only [Result.andThen_ok]
  rw [run_eql_struct, run_equalIn_struct w 9999 T xs ys h1 h2, run_eqSh 9998 xs ys _ sh h4 hok]
  rfl
theorem run_neq_agg {T : TypeId} {sh : List (Nat × Bool)} (h : eqT P T sh) {xo yo : Operand} {xs ys : Array Value} (hok : (sh.all fun p => cellOk p.2 xs[p.1]? ys[p.1]?) = true) :
    (mEq .neq T xo yo (.agg xs) (.agg ys)).run P w = .ok (.value (.bool (!(sh.all fun p => cellEq xs[p.1]? ys[p.1]?)))) w := by
  obtain ⟨h1, h2, h3, h4⟩ := h
  refine mv_run ?_
  rw [Sem.run_bind, run_eqGuard_agg w .neq T xo yo xs ys h3]
  simp only [Result.andThen_ok]
  rw [run_neq_struct, run_equalIn_struct w 9999 T xs ys h1 h2, run_eqSh 9998 xs ys _ sh h4 hok]
  rfl
end
end Eng
end Go.Proofs.YtjajlcacbbnodaaGreatDoor
/- The engine's rules for drawn regions that are quiet: guards, comparisons, choices. -/
namespace Go.Proofs.YtjajlcacbbnodaaGreatDoor
set_option linter.unusedVariables false
set_option linter.unusedSimpArgs false
set_option linter.defProp false
set_option linter.unusedSimpArgs false
set_option linter.unusedVariables false
namespace Eng
open Go.RowKit
section
variable {P : Program} {C : World → Prop} {K : Value → Prop}
theorem gq_tt {E : (Value → Prop) → Prop} : GQ (.bool true) true E K = E K := propext ⟨fun x => x.out, fun x => ⟨x⟩⟩
theorem gq_ft {E : (Value → Prop) → Prop} : GQ (.bool false) true E K = K undef := propext ⟨fun x => x.out, fun x => ⟨x⟩⟩
theorem gq_ff {E : (Value → Prop) → Prop} : GQ (.bool false) false E K = E K := propext ⟨fun x => x.out, fun x => ⟨x⟩⟩
theorem gq_tf {E : (Value → Prop) → Prop} : GQ (.bool true) false E K = K undef := propext ⟨fun x => x.out, fun x => ⟨x⟩⟩
theorem gq_un {want : Bool} {E : (Value → Prop) → Prop} : GQ undef want E K = K undef := propext ⟨fun x => x.out, fun x => ⟨x⟩⟩
def gq := And.intro @gq_tt (And.intro @gq_ft (And.intro @gq_ff (And.intro @gq_tf @gq_un)))
theorem q_add {T : TypeId} {k : IntKind} {a b : Int} (h : K (.int k (k.wrap (a + b)))) : QDo P C (mBin .add T (.int k a) (.int k b)) K := q_do _ (fun _ => r_add) h
theorem run_s_add {w : World} {T : TypeId} {a b : List UInt8} (h : a.length + b.length ≤ 9223372036854775807) : (mBin .add T (.string ⟨a.toArray⟩) (.string ⟨b.toArray⟩)).run P w = .ok (.value (.string ⟨(a ++ b).toArray⟩)) w := by
  refine mv_run ?_
  have e : IntKind.i64.max = 9223372036854775807 := rfl
  have e2 : ¬ (((⟨a.toArray⟩ : ByteArray).size + (⟨b.toArray⟩ : ByteArray).size : Nat) : Int) > IntKind.i64.max := by rw [str_size, str_size, e]; omega
  simp only [binOp, Op.stringOp, if_neg e2, str_append]
  rfl
theorem q_ix {T : TypeId} {k : IntKind} {i : Int} {a : List UInt8} {c : UInt8} (ht : P.underlying T = some .string) (h0 : 0 ≤ i) (hc : a[i.toNat]? = some c) (h : K (.int .u8 (c.toNat : Int))) : QDo P C (mIx T (.string ⟨a.toArray⟩) (.int k i)) K := q_do _ (fun _ => run_s_ix ht h0 hc) h
theorem q_sne {T : TypeId} {xo yo : Operand} {a b : List UInt8} (h : K (.bool (decide (a ≠ b)))) : QDo P C (mEq .neq T xo yo (.string ⟨a.toArray⟩) (.string ⟨b.toArray⟩)) K := by
  refine q_do _ (fun _ => mv_run ?_) h
  have e : (a == b) = decide (a = b) := by by_cases h : a = b <;> simp [h]
  simp [eqGuard, binOp, Op.stringOp, str_toList, e]
theorem run_sl_len {T U E : TypeId} {w : World} {cb : Array Bool} {v : Value} {sz n : Nat} {cs : List Value} (h : P.underlying T = some (.slice E)) (hs : Sl w v sz n cs) : (mB .len #[T] U cb #[v]).run P w = .ok (.value (.int .i64 (n : Int))) w := by
  obtain ⟨_, a, cap, rfl, _⟩ := hs
  simp [mB, builtin, Builtin.len_, run_underlying h, goInt]
end
end Eng
end Go.Proofs.YtjajlcacbbnodaaGreatDoor
/- The engine's rules for iterators: what hands values, one by one, to the body of a loop. -/
namespace Go.Proofs.YtjajlcacbbnodaaGreatDoor
set_option linter.unusedVariables false
set_option linter.unusedSimpArgs false
set_option linter.defProp false
set_option linter.unusedSimpArgs false
set_option linter.unusedVariables false
namespace Eng
open Go.RowKit
theorem OwnS.perm {S : Nat → Prop} {w0 w : World} {L L' : List Ent} (h : OwnS S w0 w L) (hp : L.Perm L') : OwnS S w0 w L' :=
  ⟨h.grew, fun e he => h.all e (hp.mem_iff.2 he), (hp.pairwise_iff (fun {x y} hxy k hy hx => hxy k hx hy)).1 h.apart⟩
/-- The two objects of a running loop. -/
def loopE (L0 : Loop) (lb df : Nat) : List Ent := [.obj lb (lp L0 .ready none), .obj df (.deferred (some []))]
/-- The function f hands the values vs to the body of a loop, one by one. F: the pieces of memory that it holds at the start. I: what it asks of the world. -/
def Seq (P : Program) (I : World → Prop) (f : Nat) (fa ca : Array Value) (F : List Ent) (vs : List Value) : Prop :=
  ∀ (S : Nat → Prop) (w0 w1 : World) (L0 : Loop) (lb df : Nat) (M0 : List Ent) (R : Nat → List Ent → Prop) (K : Ending → World → Prop),
    (∀ (L : List Ent) (W : World), OwnS S w0 W L → I W) → OwnS S w0 w1 (loopE L0 lb df ++ (M0 ++ F)) → R 0 M0 →
    (∀ (k : Nat) (v : Value) (M X : List Ent) (W : World), vs[k]? = some v → R k M → OwnS S w0 W (loopE L0 lb df ++ (M ++ X)) →
      Yld P lb [v] W (fun r W' => (r = .bool true ∧ ∃ M', R (k + 1) M' ∧ OwnS S w0 W' (loopE L0 lb df ++ (M' ++ X))) ∨ (r = .bool false ∧ K (.returned (.tuple #[])) W'))) →
    (∀ (M X : List Ent) (W : World), R vs.length M → OwnS S w0 W (loopE L0 lb df ++ (M ++ X)) → K (.returned (.tuple #[])) W) →
    Calls P f (fa ++ #[.func (.yield lb) #[] #[]] ++ ca) w1 K
end Eng
end Go.Proofs.YtjajlcacbbnodaaGreatDoor
/- Contracts: octet.Find, octet.Last, and foliantref01's. -/
namespace Go.Proofs.YtjajlcacbbnodaaGreatDoor
set_option linter.unusedVariables false
set_option linter.unusedSimpArgs false
set_option linter.defProp false
open Eng Go.RowKit

/-- bytealg's variable is laid. -/
def Mx (w : World) : Prop := ∃ m, w.cell? ⟨2, 0, none⟩ = some (.int .i64 m)
theorem Mx.own {w0 w : World} {L : List Ent} (h : Mx w0) (ho : Own w0 w L) : Mx w := by
  obtain ⟨m, hm⟩ := h
  exact ⟨m, ho.old hm⟩
theorem n_emp {p : List UInt8} {T : TypeId} {xo yo : Operand} {w : World} {PK : List PanicEntry → World → Prop} {K : Value → World → Prop} : DoX Tryz.prog (mEq .neq T xo yo (.string ⟨p.toArray⟩) (.string ⟨#[]⟩)) w PK K = K (.bool (decide (p ≠ []))) w := n_str (b := [])
end Go.Proofs.YtjajlcacbbnodaaGreatDoor
/- Contracts of foliantref03: Run, Integer, whole, point, long, word, name. -/
namespace Go.Proofs.YtjajlcacbbnodaaGreatDoor
set_option linter.unusedVariables false
set_option linter.unusedSimpArgs false
set_option linter.defProp false
open Eng Go.RowKit

end Go.Proofs.YtjajlcacbbnodaaGreatDoor
/- Contracts of foliantref03: point, long, word, name. -/
namespace Go.Proofs.YtjajlcacbbnodaaGreatDoor
set_option linter.unusedVariables false
set_option linter.unusedSimpArgs false
set_option linter.defProp false
open Eng Go.RowKit

section
variable {w : World} {PK : List PanicEntry → World → Prop} {K : Value → World → Prop}
end
end Go.Proofs.YtjajlcacbbnodaaGreatDoor
/- Contracts of foliantref03: escape, text, hex. -/
namespace Go.Proofs.YtjajlcacbbnodaaGreatDoor
set_option linter.unusedVariables false
set_option linter.unusedSimpArgs false
set_option linter.defProp false
open Eng Go.RowKit

end Go.Proofs.YtjajlcacbbnodaaGreatDoor
/- Contracts of foliantref03: text, hex. -/
namespace Go.Proofs.YtjajlcacbbnodaaGreatDoor
set_option linter.unusedVariables false
set_option linter.unusedSimpArgs false
set_option linter.defProp false
open Eng Go.RowKit

end Go.Proofs.YtjajlcacbbnodaaGreatDoor
/- Contracts of foliantref03: hex, token, Next. -/
namespace Go.Proofs.YtjajlcacbbnodaaGreatDoor
set_option linter.unusedVariables false
set_option linter.unusedSimpArgs false
set_option linter.defProp false
open Eng Go.RowKit

end Go.Proofs.YtjajlcacbbnodaaGreatDoor
/- Contracts: lex.tokens, and the function that it hands back. -/
namespace Go.Proofs.YtjajlcacbbnodaaGreatDoor
set_option linter.unusedVariables false
set_option linter.unusedSimpArgs false
set_option linter.defProp false
open Eng Go.RowKit

def fltC (a e : Int) : List Value := [.int .i64 a, .int .i64 e]
def fltV (f : Int × Int) : Value := .agg (fltC f.1 f.2).toArray
def fltE (b : Nat) (f : Int × Int) : Ent := .cells b (fltC f.1 f.2) 36
theorem aggFlt : aggN Tryz.prog 36 = some 2 := by kernel_rfl
theorem szFlt : (Tryz.prog.info? 36).map (·.size) = some 2 := by kernel_rfl
theorem fltC_one (a e : Int) : ∀ v ∈ fltC a e, v.oneCell' = true := by
  intro v hv
  simp only [fltC, List.mem_cons, List.not_mem_nil, or_false] at hv
  rcases hv with rfl | rfl <;> rfl
section
variable {w : World} {PK : List PanicEntry → World → Prop} {K : Value → World → Prop} {S : Nat → Prop} {w0 : World} {L : List Ent}
theorem o_flt (ho : OwnS S w0 w L) (k : ∀ b w', OwnS S w0 w' (fltE b (0, 0) :: L) → K (.pointer (some ⟨b, 0, none⟩)) w') : DoX Tryz.prog (mAlloc 36) w PK K :=
  o_new (fun b => .pointer (some ⟨b, 0, none⟩)) (fltC 0 0) 36 (fun _ => by kernel_rfl) ho k
theorem flt_put (i : Nat) {b : Nat} {f g : Int × Int} (ho : OwnS S w0 w L) (hi : L[i]? = some (fltE b f)) (k : ∀ w', OwnS S w0 w' (L.set i (fltE b g)) → K undef w') : DoX Tryz.prog (mStore 36 (.pointer (some ⟨b, 0, none⟩)) (fltV g)) w PK K :=
  o_put i ho hi (new := fltC g.1 g.2) szFlt (fltC_one _ _) rfl k
theorem m_flt0 : DoX Tryz.prog (mBuild 36 #[]) w PK K = K (fltV (0, 0)) w := do_eq (by kernel_rfl)
theorem m_flt1 {e : Int} : DoX Tryz.prog (mBuild 36 #[(1, .int .i64 e)]) w PK K = K (fltV (0, e)) w := do_eq (by kernel_rfl)
theorem m_flt2 {a e : Int} : DoX Tryz.prog (mBuild 36 #[(0, .int .i64 a), (1, .int .i64 e)]) w PK K = K (fltV (a, e)) w := do_eq (by kernel_rfl)
theorem fa_f1 {b : Nat} : DoX Tryz.prog (mFA 36 (.pointer (some ⟨b, 0, none⟩)) 1) w PK K = K (.pointer (some ⟨b, 1, none⟩)) w := f_addr (show fOff Tryz.prog 36 1 = some 1 by kernel_rfl)
theorem fa_t2 {b : Nat} : DoX Tryz.prog (mFA 41 (.pointer (some ⟨b, 0, none⟩)) 2) w PK K = K (.pointer (some ⟨b, 2, none⟩)) w := f_addr (show fOff Tryz.prog 41 2 = some 2 by kernel_rfl)
end
def intE (b : Nat) (i : Int) : Ent := .cells b [.int .i64 i] 3
def strE (b : Nat) (s : List UInt8) : Ent := .cells b [.string ⟨s.toArray⟩] 9
end Go.Proofs.YtjajlcacbbnodaaGreatDoor
/- Contract: lex.Upto. -/
namespace Go.Proofs.YtjajlcacbbnodaaGreatDoor
set_option linter.unusedVariables false
set_option linter.unusedSimpArgs false
set_option linter.defProp false
open Eng Go.RowKit

section
variable {w : World} {PK : List PanicEntry → World → Prop} {K : Value → World → Prop} {S : Nat → Prop} {w0 : World} {L : List Ent}
end
end Go.Proofs.YtjajlcacbbnodaaGreatDoor
/- Contract: lex.All. -/
namespace Go.Proofs.YtjajlcacbbnodaaGreatDoor
set_option linter.unusedVariables false
set_option linter.unusedSimpArgs false
set_option linter.defProp false
open Eng Go.RowKit

theorem draw {w : World} {F : World → Prop} (h : F w.drew) : DrawX w F := ⟨h⟩
end Go.Proofs.YtjajlcacbbnodaaGreatDoor
/- Tokens and faults are compared. -/
namespace Go.Proofs.YtjajlcacbbnodaaGreatDoor
set_option linter.unusedVariables false
set_option linter.unusedSimpArgs false
set_option linter.defProp false
open Eng Go.RowKit

theorem eqFlt : eqT Tryz.prog 36 [(0, false), (1, false)] := ⟨by kernel_rfl, by kernel_rfl, by kernel_rfl, by kernel_rfl⟩
theorem str_beq (a b : List UInt8) : ((⟨a.toArray⟩ : ByteArray).toList == (⟨b.toArray⟩ : ByteArray).toList) = decide (a = b) := by
  rw [str_toList, str_toList]
  by_cases h : a = b <;> simp [h]
theorem flt_beq (x y : Int × Int) : ([(0, false), (1, false)] : List (Nat × Bool)).all (fun p => cellEq (fltC x.1 x.2).toArray[p.1]? (fltC y.1 y.2).toArray[p.1]?) = decide (x = y) := by
  have e : ([(0, false), (1, false)] : List (Nat × Bool)).all (fun p => cellEq (fltC x.1 x.2).toArray[p.1]? (fltC y.1 y.2).toArray[p.1]?) = ((x.1 == y.1) && ((x.2 == y.2) && true)) := rfl
  rw [e, Bool.eq_iff_iff]
  obtain ⟨a, b⟩ := x
  obtain ⟨a', b'⟩ := y
  simp
section
variable {w : World} {PK : List PanicEntry → World → Prop} {K : Value → World → Prop}
theorem e_flt {xo yo : Operand} {x y : Int × Int} : DoX Tryz.prog (mEq .eql 36 xo yo (fltV x) (fltV y)) w PK K = K (.bool (decide (x = y))) w := by
  refine do_eq ?_
  rw [← flt_beq]; exact run_eql_agg eqFlt rfl
end
end Go.Proofs.YtjajlcacbbnodaaGreatDoor
/- Contracts of foliantref03: Upto, All, Same. -/
namespace Go.Proofs.YtjajlcacbbnodaaGreatDoor
set_option linter.unusedVariables false
set_option linter.unusedSimpArgs false
set_option linter.defProp false
open Eng Go.RowKit

end Go.Proofs.YtjajlcacbbnodaaGreatDoor
/- Contracts of foliantref03: All, Same. -/
namespace Go.Proofs.YtjajlcacbbnodaaGreatDoor
set_option linter.unusedVariables false
set_option linter.unusedSimpArgs false
set_option linter.defProp false
open Eng Go.RowKit

end Go.Proofs.YtjajlcacbbnodaaGreatDoor
/- Contracts: the reference of layer 4: String, Name, Join, Pad. -/
namespace Go.Proofs.YtjajlcacbbnodaaGreatDoor
set_option linter.unusedVariables false
set_option linter.unusedSimpArgs false
set_option linter.defProp false
open Eng Go.RowKit

end Go.Proofs.YtjajlcacbbnodaaGreatDoor
/- Contracts: the reference's arithmetic. -/
namespace Go.Proofs.YtjajlcacbbnodaaGreatDoor
set_option linter.unusedVariables false
set_option linter.unusedSimpArgs false
set_option linter.defProp false
open Eng Go.RowKit
set_option linter.unusedVariables false
set_option linter.unusedSimpArgs false

end Go.Proofs.YtjajlcacbbnodaaGreatDoor
/- Code in continuation form, by program (gen.py): 6 functions. -/
namespace Go.Proofs.YtjajlcacbbnodaaGreatDoor
set_option linter.unusedVariables false
set_option linter.unusedSimpArgs false
set_option linter.defProp false
set_option linter.unusedVariables false
set_option maxRecDepth 20000
open Eng

/- foliantlaw02.lives -/
/- foliantlaw02.FixTells -/
/- foliantlaw02.FixReckons -/
/- foliantlaw02.FixBack -/
/- foliantlaw02.FixNear -/
/- foliantlaw02.FixTurns -/
end Go.Proofs.YtjajlcacbbnodaaGreatDoor
/- The laws of layer 2, walked: lives, FixTells, FixReckons, FixNear. -/
namespace Go.Proofs.YtjajlcacbbnodaaGreatDoor
set_option linter.unusedVariables false
set_option linter.unusedSimpArgs false
set_option linter.defProp false
open Eng Go.RowKit
set_option linter.unusedVariables false
set_option linter.unusedSimpArgs false

theorem c_told {P : Program} {f : Nat} {args : Array Value} {w0 w : World} {L : List Ent} {PK : List PanicEntry → World → Prop} {K : Value → World → Prop} {x y : Value} (h : Ret P f args w (fun v w' => v = x ∧ Below w.heap.size w w')) (hx : x = y) (ho : Own w0 w L)
    (k : ∀ w', Own w0 w' L → K y w') : CallX P f args w PK K := by
  refine c_ret h ?_
  rintro v w' ⟨rfl, hb⟩
  rw [hx]; exact k _ (ho.grow hb)
end Go.Proofs.YtjajlcacbbnodaaGreatDoor
/- Code in continuation form, by program (gen.py): 4 functions. -/
namespace Go.Proofs.YtjajlcacbbnodaaGreatDoor
set_option linter.unusedVariables false
set_option linter.unusedSimpArgs false
set_option linter.defProp false
set_option linter.unusedVariables false
set_option maxRecDepth 20000
open Eng

/- foliantlaw04.lives -/
/- foliantlaw04.PlainTells -/
/- foliantlaw04.PlainOneWay -/
/- foliantlaw04.PlainPads -/
end Go.Proofs.YtjajlcacbbnodaaGreatDoor
/- The laws of layer 4, walked: lives. -/
namespace Go.Proofs.YtjajlcacbbnodaaGreatDoor
set_option linter.unusedVariables false
set_option linter.unusedSimpArgs false
set_option linter.defProp false
open Eng Go.RowKit

theorem Tb.mono {w w' : World} (h : Tb w) (hb : Below w.heap.size w w') : Tb w' :=
  Go.Joins.tab_stays (show Tryz.prog.globalNamed "internal/strconv.uint64pow10" = some 4 by kernel_rfl) h hb (Nat.le_refl _)
theorem Tb.own {w w' : World} {L : List Ent} (h : Tb w) (ho : Own w w' L) : Tb w' := h.mono ho.done
end Go.Proofs.YtjajlcacbbnodaaGreatDoor
/- The samples of layer 3's laws. -/
namespace Go.Proofs.YtjajlcacbbnodaaGreatDoor
set_option linter.unusedVariables false
set_option linter.unusedSimpArgs false
set_option linter.defProp false
open Eng Go.RowKit

end Go.Proofs.YtjajlcacbbnodaaGreatDoor
/- Code in continuation form, by program (gen.py): 6 functions. -/
namespace Go.Proofs.YtjajlcacbbnodaaGreatDoor
set_option linter.unusedVariables false
set_option linter.unusedSimpArgs false
set_option linter.defProp false
set_option linter.unusedVariables false
set_option maxRecDepth 20000
open Eng

/- foliantlaw03.lives -/
/- foliantlaw03.LexNext -/
/- foliantlaw03.LexAll -/
/- foliantlaw03.LexApart -/
/- foliantlaw03.LexNumbers -/
/- foliantlaw03.LexStrings -/
end Go.Proofs.YtjajlcacbbnodaaGreatDoor
/- foliantlaw03.lives, LexNext. -/
namespace Go.Proofs.YtjajlcacbbnodaaGreatDoor
set_option linter.unusedVariables false
set_option linter.unusedSimpArgs false
set_option linter.defProp false
open Eng Go.RowKit

section
variable {w : World} {PK : List PanicEntry → World → Prop} {K : Value → World → Prop}
/-- A token in a new variable, and the error. -/
theorem tok_new {w0 : World} {L : List Ent} {f : Nat} {args : Array Value} {r x : Lx.Tok × Int} {PK1 PK2 PK3 PK4 PK5 : List PanicEntry → World → Prop} {K : Value → Value → World → Prop} (ho : Own w0 w L) (h : Ret Tryz.prog f args w (fun v w' => v = tokR r ∧ Below w.heap.size w w')) (hx : r = x)
    (k : ∀ b w', Own w0 w' (tokE b x.1 :: L) → K (.int .i64 x.2) (.pointer (some ⟨b, 0, none⟩)) w') :
    CallX Tryz.prog f args w PK1 fun t w => DoX Tryz.prog (mExt t 0) w PK2 fun u w => DoX Tryz.prog (mExt t 1) w PK3 fun e w => DoX Tryz.prog (mAlloc 41) w PK4 fun p w => DoX Tryz.prog (mStore 41 p u) w PK5 fun _ w => K e p w := by
  subst hx
  refine c_below ho h ?_
  rintro _ w' rfl ho
  simp only [tokR, ex]
  refine o_tok ho fun b w1 ho => ?_
  exact o_put 0 ho rfl (new := tokC r.1) szTok (tokC_one _) rfl fun w2 ho => k b w2 ho
end
end Go.Proofs.YtjajlcacbbnodaaGreatDoor
/- Contracts: head.Version, Text, Start, Tail; foliantref17's. -/
namespace Go.Proofs.YtjajlcacbbnodaaGreatDoor
set_option linter.unusedVariables false
set_option linter.unusedSimpArgs false
set_option linter.defProp false
open Eng Go.RowKit

def strErrV (x : List UInt8 × Int) : Value := .tuple #[.string ⟨x.1.toArray⟩, .int .i64 x.2]
theorem itoa_len30 {n : Int} (h : -2147483647 ≤ n) (h2 : n ≤ 2147483647) : (Lib.itoa n).length ≤ 30 := by
  rcases Pl.itoa_shape n with ⟨u, hu, e⟩ | ⟨u, hu, _, e⟩ <;> rw [e]
  · have := decDigits_len u (by omega); omega
  · have := decDigits_len u (by omega); simp only [List.length_cons]; omega
end Go.Proofs.YtjajlcacbbnodaaGreatDoor
/- Contracts: head.ends (an iterator), slices.Collect of int, head.Ends; foliantref17.Ends, foliantref10.Same. -/
namespace Go.Proofs.YtjajlcacbbnodaaGreatDoor
set_option linter.unusedVariables false
set_option linter.unusedSimpArgs false
set_option linter.defProp false
open Eng Go.RowKit

end Go.Proofs.YtjajlcacbbnodaaGreatDoor
/- Code in continuation form, by program (gen.py): 4 functions. -/
namespace Go.Proofs.YtjajlcacbbnodaaGreatDoor
set_option linter.unusedVariables false
set_option linter.unusedSimpArgs false
set_option linter.defProp false
set_option linter.unusedVariables false
set_option maxRecDepth 20000
open Eng

/- foliantlaw17.lives -/
/- foliantlaw17.HeadTells -/
/- foliantlaw17.HeadBack -/
/- foliantlaw17.HeadEnds -/
end Go.Proofs.YtjajlcacbbnodaaGreatDoor
/- Contracts: foliantref17.Ends, foliantref10.Same; foliantlaw17.lives. -/
namespace Go.Proofs.YtjajlcacbbnodaaGreatDoor
set_option linter.unusedVariables false
set_option linter.unusedSimpArgs false
set_option linter.defProp false
open Eng Go.RowKit

end Go.Proofs.YtjajlcacbbnodaaGreatDoor
/- Code in continuation form, by program (gen.py): 18 functions. -/
namespace Go.Proofs.YtjajlcacbbnodaaGreatDoor
set_option linter.unusedVariables false
set_option linter.unusedSimpArgs false
set_option linter.defProp false
set_option linter.unusedVariables false
set_option maxRecDepth 20000
open Eng

/- foliantref55.Words -/
def S_foliantref55_Words (w : World) (K : Ending → World → Prop) : Prop :=
 DoX Tryz.prog (mBuildS 22 21 #[(0, (.string ⟨#[111, 112, 101, 110]⟩)), (1, (.string ⟨#[110, 101, 119]⟩)), (2, (.string ⟨#[112, 117, 116]⟩)), (3, (.string ⟨#[100, 114, 111, 112]⟩)), (4, (.string ⟨#[105, 110, 115, 101, 114, 116]⟩)), (5, (.string ⟨#[114, 101, 109, 111, 118, 101]⟩)), (6, (.string ⟨#[109, 111, 118, 101]⟩)), (7, (.string ⟨#[110, 97, 109, 101]⟩)), (8, (.string ⟨#[102, 105, 108, 108]⟩)), (9, (.string ⟨#[99, 108, 101, 97, 110]⟩)), (10, (.string ⟨#[115, 97, 118, 101]⟩)), (11, (.string ⟨#[114, 101, 111, 112, 101, 110]⟩)), (12, (.string ⟨#[116, 101, 120, 116]⟩)), (13, (.string ⟨#[102, 105, 110, 100]⟩)), (14, (.string ⟨#[99, 111, 117, 110, 116]⟩)), (15, (.string ⟨#[111, 98, 106, 101, 99, 116]⟩)), (16, (.string ⟨#[97, 117, 100, 105, 116]⟩)), (17, (.string ⟨#[115, 112, 111, 105, 108]⟩)), (18, (.string ⟨#[111, 117, 116, 108, 105, 110, 101]⟩)), (19, (.string ⟨#[102, 105, 101, 108, 100, 115]⟩)), (20, (.string ⟨#[99, 111, 110, 116, 101, 110, 116, 115]⟩))]) w (pk K) fun t1 w =>
 K (.returned t1) w
theorem S_foliantref55_Words_eq (w : World) (K : Ending → World → Prop) : wpX Tryz.prog 2 [] [] none (bodyOf Tryz.f86) (topQ Tryz.prog [.tmp 0] K) (startX []) [] w = S_foliantref55_Words w K := by kernel_rfl
theorem S_foliantref55_Words_ok {w : World} {K : Ending → World → Prop} (h : S_foliantref55_Words w K) : Calls Tryz.prog 86 #[] w K :=
  calls_of_wpX Tryz.func86 rfl rfl rfl rfl (Eq.mpr (S_foliantref55_Words_eq w K) h)

/- foliantref55.Uses -/
def S_foliantref55_Uses (t0 : Value) (w : World) (K : Ending → World → Prop) : Prop :=
 DoX Tryz.prog (mBuildS 22 21 #[(0, (.string ⟨#[83]⟩)), (1, (.string ⟨#[65]⟩)), (2, (.string ⟨#[65, 83]⟩)), (3, (.string ⟨#[65]⟩)), (4, (.string ⟨#[65, 83]⟩)), (5, (.string ⟨#[65]⟩)), (6, (.string ⟨#[65, 66]⟩)), (7, (.string ⟨#[83, 65]⟩)), (8, (.string ⟨#[83, 84]⟩)), (9, (.string ⟨#[]⟩)), (10, (.string ⟨#[65]⟩)), (11, (.string ⟨#[]⟩)), (12, (.string ⟨#[65]⟩)), (13, (.string ⟨#[83]⟩)), (14, (.string ⟨#[]⟩)), (15, (.string ⟨#[65]⟩)), (16, (.string ⟨#[]⟩)), (17, (.string ⟨#[65, 66]⟩)), (18, (.string ⟨#[]⟩)), (19, (.string ⟨#[]⟩)), (20, (.string ⟨#[65]⟩))]) w (pk K) fun t4 w =>
 DoX Tryz.prog (mBin .lss 3 t0 (.int .i64 1)) w (pk K) fun t6 w =>
 GDo t6 false (fun E => E t0 w) w fun t8 w =>
 GDo t6 false (fun E => E t4 w) w fun t9 w =>
 GDo t6 false (fun E => DoX Tryz.prog (mB .len #[22] 3 #[false] #[t9]) w (pk K) E) w fun t10 w =>
 GDo t6 false (fun E => DoX Tryz.prog (mBin .gtr 3 t8 t10) w (pk K) E) w fun t11 w =>
 DoX Tryz.prog (mPick t6 (.bool true) t11) w (pk K) fun t12 w =>
 IfX t12 (K (.returned (.string ⟨#[63]⟩)) w) (DoX Tryz.prog (mBin .sub 3 t0 (.int .i64 1)) w (pk K) fun t15 w =>
 DoX Tryz.prog (mIA 22 t4 t15) w (pk K) fun t16 w =>
 DoX Tryz.prog (mLoad 9 t16) w (pk K) fun t17 w =>
 K (.returned t17) w)
theorem S_foliantref55_Uses_eq (t0 : Value) (w : World) (K : Ending → World → Prop) : wpX Tryz.prog 18 [] [] none (bodyOf Tryz.f87) (topQ Tryz.prog [.tmp 2] K) (startX [t0]) [] w = S_foliantref55_Uses t0 w K := by kernel_rfl
theorem S_foliantref55_Uses_ok {t0 : Value} {w : World} {K : Ending → World → Prop} (h : S_foliantref55_Uses t0 w K) : Calls Tryz.prog 87 #[t0] w K :=
  calls_of_wpX Tryz.func87 rfl rfl rfl rfl (Eq.mpr (S_foliantref55_Uses_eq t0 w K) h)

/- foliantref55.has -/
def S_foliantref55_has_0 (t0 t1 t5 : Value) (w : World) (N1 : List Value → World → Prop) (K : Ending → World → Prop) : Prop :=
 DoX Tryz.prog (mB .len #[9] 3 #[false] #[t0]) w (pk K) fun t8 w =>
 DoX Tryz.prog (mBin .lss 3 t5 t8) w (pk K) fun t9 w =>
 IfX t9 (DoX Tryz.prog (mIx 9 t0 t5) w (pk K) fun t14 w =>
 DoX Tryz.prog (mEq .eql 5 (.tmp 14) (.tmp 15) t14 t1) w (pk K) fun t16 w =>
 IfX t16 (K (.returned (.bool true)) w) (DoX Tryz.prog (mBin .add 3 t5 (.int .i64 1)) w (pk K) fun t11 w =>
 N1 [t11] w)) (K (.returned (.bool false)) w)
def S_foliantref55_has (t0 t1 : Value) (w : World) (K : Ending → World → Prop) : Prop :=
 LoopX [(.int .i64 0)] w (fun vs1 w N1 => ∀ _ : Sg, S_foliantref55_has_0 t0 t1 (vs1.getD 0 undef) w N1 K)
theorem S_foliantref55_has_eq (t0 t1 : Value) (w : World) (K : Ending → World → Prop) : wpX Tryz.prog 17 [] [(2, [5])] none (bodyOf Tryz.f95) (topQ Tryz.prog [.tmp 4] K) (startX [t0, t1]) [] w = S_foliantref55_has t0 t1 w K := by kernel_rfl
theorem S_foliantref55_has_ok {t0 t1 : Value} {w : World} {K : Ending → World → Prop} (h : S_foliantref55_has t0 t1 w K) : Calls Tryz.prog 95 #[t0, t1] w K :=
  calls_of_wpX Tryz.func95 rfl rfl rfl rfl (Eq.mpr (S_foliantref55_has_eq t0 t1 w K) h)

/- foliantref55.Check -/
def S_foliantref55_Check (t0 : Value) (w : World) (K : Ending → World → Prop) : Prop :=
 DoX Tryz.prog (mBox 43 t0) w (pk K) fun t1 w =>
 DoX Tryz.prog (mFA 43 t1 0) w (pk K) fun t4 w =>
 DoX Tryz.prog (mLoad 3 t4) w (pk K) fun t5 w =>
 CallX Tryz.prog 87 #[t5] w (pk K) fun t6 w =>
 DoX Tryz.prog (mEq .eql 9 (.tmp 7) (.const (.string ⟨#[63]⟩)) t6 (.string ⟨#[63]⟩)) w (pk K) fun t8 w =>
 GDo t8 false (fun E => E t6 w) w fun t10 w =>
 GDo t8 false (fun E => CallX Tryz.prog 95 #[t10, (.int .u8 65)] w (pk K) E) w fun t11 w =>
 GDo t8 false (fun E => DoX Tryz.prog (mUn .not t11) w (pk K) E) w fun t12 w =>
 GDo t8 false (fun E => E t12 w) w fun t13 w =>
 GDo t13 true (fun E => DoX Tryz.prog (mFA 43 t1 1) w (pk K) E) w fun t14 w =>
 GDo t13 true (fun E => DoX Tryz.prog (mLoad 3 t14) w (pk K) E) w fun t15 w =>
 GDo t13 true (fun E => DoX Tryz.prog (mEq .neq 3 (.tmp 15) (.const (.int .i64 0)) t15 (.int .i64 0)) w (pk K) E) w fun t16 w =>
 GDo t8 false (fun E => DoX Tryz.prog (mPick t13 t16 (.bool false)) w (pk K) E) w fun t17 w =>
 DoX Tryz.prog (mPick t8 (.bool true) t17) w (pk K) fun t18 w =>
 GDo t18 false (fun E => E t6 w) w fun t20 w =>
 GDo t18 false (fun E => CallX Tryz.prog 95 #[t20, (.int .u8 66)] w (pk K) E) w fun t21 w =>
 GDo t18 false (fun E => DoX Tryz.prog (mUn .not t21) w (pk K) E) w fun t22 w =>
 GDo t18 false (fun E => E t22 w) w fun t23 w =>
 GDo t23 true (fun E => DoX Tryz.prog (mFA 43 t1 2) w (pk K) E) w fun t24 w =>
 GDo t23 true (fun E => DoX Tryz.prog (mLoad 3 t24) w (pk K) E) w fun t25 w =>
 GDo t23 true (fun E => DoX Tryz.prog (mEq .neq 3 (.tmp 25) (.const (.int .i64 0)) t25 (.int .i64 0)) w (pk K) E) w fun t26 w =>
 GDo t18 false (fun E => DoX Tryz.prog (mPick t23 t26 (.bool false)) w (pk K) E) w fun t27 w =>
 DoX Tryz.prog (mPick t18 (.bool true) t27) w (pk K) fun t28 w =>
 GDo t28 false (fun E => E t6 w) w fun t30 w =>
 GDo t28 false (fun E => CallX Tryz.prog 95 #[t30, (.int .u8 83)] w (pk K) E) w fun t31 w =>
 GDo t28 false (fun E => DoX Tryz.prog (mUn .not t31) w (pk K) E) w fun t32 w =>
 GDo t28 false (fun E => E t32 w) w fun t33 w =>
 GDo t33 true (fun E => DoX Tryz.prog (mFA 43 t1 3) w (pk K) E) w fun t34 w =>
 GDo t33 true (fun E => DoX Tryz.prog (mLoad 9 t34) w (pk K) E) w fun t35 w =>
 GDo t33 true (fun E => DoX Tryz.prog (mEq .neq 9 (.tmp 35) (.const (.string ⟨#[]⟩)) t35 (.string ⟨#[]⟩)) w (pk K) E) w fun t36 w =>
 GDo t28 false (fun E => DoX Tryz.prog (mPick t33 t36 (.bool false)) w (pk K) E) w fun t37 w =>
 DoX Tryz.prog (mPick t28 (.bool true) t37) w (pk K) fun t38 w =>
 GDo t38 false (fun E => E t6 w) w fun t40 w =>
 GDo t38 false (fun E => CallX Tryz.prog 95 #[t40, (.int .u8 84)] w (pk K) E) w fun t41 w =>
 GDo t38 false (fun E => DoX Tryz.prog (mUn .not t41) w (pk K) E) w fun t42 w =>
 GDo t38 false (fun E => E t42 w) w fun t43 w =>
 GDo t43 true (fun E => DoX Tryz.prog (mFA 43 t1 4) w (pk K) E) w fun t44 w =>
 GDo t43 true (fun E => DoX Tryz.prog (mLoad 9 t44) w (pk K) E) w fun t45 w =>
 GDo t43 true (fun E => DoX Tryz.prog (mEq .neq 9 (.tmp 45) (.const (.string ⟨#[]⟩)) t45 (.string ⟨#[]⟩)) w (pk K) E) w fun t46 w =>
 GDo t38 false (fun E => DoX Tryz.prog (mPick t43 t46 (.bool false)) w (pk K) E) w fun t47 w =>
 DoX Tryz.prog (mPick t38 (.bool true) t47) w (pk K) fun t48 w =>
 IfX t48 (K (.returned (.int .i64 10)) w) (DoX Tryz.prog (mFA 43 t1 1) w (pk K) fun t49 w =>
 DoX Tryz.prog (mLoad 3 t49) w (pk K) fun t50 w =>
 DoX Tryz.prog (mBin .lss 3 t50 (.int .i64 0)) w (pk K) fun t51 w =>
 GDo t51 false (fun E => DoX Tryz.prog (mFA 43 t1 1) w (pk K) E) w fun t53 w =>
 GDo t51 false (fun E => DoX Tryz.prog (mLoad 3 t53) w (pk K) E) w fun t54 w =>
 GDo t51 false (fun E => DoX Tryz.prog (mBin .gtr 3 t54 (.int .i64 2147483647)) w (pk K) E) w fun t55 w =>
 DoX Tryz.prog (mPick t51 (.bool true) t55) w (pk K) fun t56 w =>
 GDo t56 false (fun E => DoX Tryz.prog (mFA 43 t1 2) w (pk K) E) w fun t58 w =>
 GDo t56 false (fun E => DoX Tryz.prog (mLoad 3 t58) w (pk K) E) w fun t59 w =>
 GDo t56 false (fun E => DoX Tryz.prog (mBin .lss 3 t59 (.int .i64 0)) w (pk K) E) w fun t60 w =>
 DoX Tryz.prog (mPick t56 (.bool true) t60) w (pk K) fun t61 w =>
 GDo t61 false (fun E => DoX Tryz.prog (mFA 43 t1 2) w (pk K) E) w fun t63 w =>
 GDo t61 false (fun E => DoX Tryz.prog (mLoad 3 t63) w (pk K) E) w fun t64 w =>
 GDo t61 false (fun E => DoX Tryz.prog (mBin .gtr 3 t64 (.int .i64 2147483647)) w (pk K) E) w fun t65 w =>
 DoX Tryz.prog (mPick t61 (.bool true) t65) w (pk K) fun t66 w =>
 IfX t66 (K (.returned (.int .i64 2)) w) (DoX Tryz.prog (mFA 43 t1 3) w (pk K) fun t67 w =>
 DoX Tryz.prog (mLoad 9 t67) w (pk K) fun t68 w =>
 DoX Tryz.prog (mB .len #[9] 3 #[false] #[t68]) w (pk K) fun t69 w =>
 DoX Tryz.prog (mBin .gtr 3 t69 (.int .i64 32767)) w (pk K) fun t70 w =>
 GDo t70 false (fun E => DoX Tryz.prog (mFA 43 t1 4) w (pk K) E) w fun t72 w =>
 GDo t70 false (fun E => DoX Tryz.prog (mLoad 9 t72) w (pk K) E) w fun t73 w =>
 GDo t70 false (fun E => DoX Tryz.prog (mB .len #[9] 3 #[false] #[t73]) w (pk K) E) w fun t74 w =>
 GDo t70 false (fun E => DoX Tryz.prog (mBin .gtr 3 t74 (.int .i64 32767)) w (pk K) E) w fun t75 w =>
 DoX Tryz.prog (mPick t70 (.bool true) t75) w (pk K) fun t76 w =>
 IfX t76 (K (.returned (.int .i64 5)) w) (K (.returned (.int .i64 0)) w)))
theorem S_foliantref55_Check_eq (t0 : Value) (w : World) (K : Ending → World → Prop) : wpX Tryz.prog 77 [] [] none (bodyOf Tryz.f34) (topQ Tryz.prog [.tmp 2] K) (startX [t0]) [] w = S_foliantref55_Check t0 w K := by kernel_rfl
theorem S_foliantref55_Check_ok {t0 : Value} {w : World} {K : Ending → World → Prop} (h : S_foliantref55_Check t0 w K) : Calls Tryz.prog 34 #[t0] w K :=
  calls_of_wpX Tryz.func34 rfl rfl rfl rfl (Eq.mpr (S_foliantref55_Check_eq t0 w K) h)

/- foliantref55.Int -/
def S_foliantref55_Int (t0 : Value) (w : World) (K : Ending → World → Prop) : Prop :=
 DoX Tryz.prog (mBin .lss 3 t0 (.int .i64 0)) w (pk K) fun t5 w =>
 IfX t5 (DoX Tryz.prog (mUn .neg t0) w (pk K) fun t7 w =>
 CallX Tryz.prog 96 #[t7] w (pk K) fun t8 w =>
 DoX Tryz.prog (mBin .add 9 (.string ⟨#[45]⟩) t8) w (pk K) fun t9 w =>
 K (.returned t9) w) (DoX Tryz.prog (mBin .rem 3 t0 (.int .i64 10)) w (pk K) fun t11 w =>
 DoX Tryz.prog (mBin .add 3 (.int .i64 48) t11) w (pk K) fun t12 w =>
 DoX Tryz.prog (mConv 3 5 t12) w (pk K) fun t13 w =>
 DoX Tryz.prog (mBuildS 91 1 #[(0, t13)]) w (pk K) fun t14 w =>
 DoX Tryz.prog (mConv 91 9 t14) w (pk K) fun t15 w =>
 DoX Tryz.prog (mBin .lss 3 t0 (.int .i64 10)) w (pk K) fun t17 w =>
 IfX t17 (K (.returned t15) w) (DoX Tryz.prog (mBin .quo 3 t0 (.int .i64 10)) w (pk K) fun t20 w =>
 CallX Tryz.prog 96 #[t20] w (pk K) fun t21 w =>
 DoX Tryz.prog (mBin .add 9 t21 t15) w (pk K) fun t23 w =>
 K (.returned t23) w))
theorem S_foliantref55_Int_eq (t0 : Value) (w : World) (K : Ending → World → Prop) : wpX Tryz.prog 24 [] [] none (bodyOf Tryz.f96) (topQ Tryz.prog [.tmp 2] K) (startX [t0]) [] w = S_foliantref55_Int t0 w K := by kernel_rfl
theorem S_foliantref55_Int_ok {t0 : Value} {w : World} {K : Ending → World → Prop} (h : S_foliantref55_Int t0 w K) : Calls Tryz.prog 96 #[t0] w K :=
  calls_of_wpX Tryz.func96 rfl rfl rfl rfl (Eq.mpr (S_foliantref55_Int_eq t0 w K) h)

/- foliantref55.Quote -/
def S_foliantref55_Quote_1 (t3 t4 : Value) (w : World) (N1 : List Value → World → Prop) (K : Ending → World → Prop) : Prop :=
 DoX Tryz.prog (mBin .add 3 t4 (.int .i64 1)) w (pk K) fun t12 w =>
 N1 [t3, t12] w
def S_foliantref55_Quote_0 (t0 t3 t4 : Value) (w : World) (N1 : List Value → World → Prop) (K : Ending → World → Prop) : Prop :=
 DoX Tryz.prog (mB .len #[9] 3 #[false] #[t0]) w (pk K) fun t9 w =>
 DoX Tryz.prog (mBin .lss 3 t4 t9) w (pk K) fun t10 w =>
 IfX t10 (JoinX (fun J2 =>
 DoX Tryz.prog (mIx 9 t0 t4) w (pk K) fun t15 w =>
 DoX Tryz.prog (mEq .eql 5 (.tmp 16) (.const (.int .u8 40)) t15 (.int .u8 40)) w (pk K) fun t17 w =>
 GDo t17 false (fun E => E t15 w) w fun t19 w =>
 GDo t17 false (fun E => DoX Tryz.prog (mEq .eql 5 (.tmp 19) (.const (.int .u8 41)) t19 (.int .u8 41)) w (pk K) E) w fun t20 w =>
 DoX Tryz.prog (mPick t17 (.bool true) t20) w (pk K) fun t21 w =>
 GDo t21 false (fun E => E t15 w) w fun t23 w =>
 GDo t21 false (fun E => DoX Tryz.prog (mEq .eql 5 (.tmp 23) (.const (.int .u8 92)) t23 (.int .u8 92)) w (pk K) E) w fun t24 w =>
 DoX Tryz.prog (mPick t21 (.bool true) t24) w (pk K) fun t25 w =>
 IfX t25 (DoX Tryz.prog (mBuildS 91 2 #[(0, (.int .u8 92)), (1, t15)]) w (pk K) fun t28 w =>
 DoX Tryz.prog (mB .append #[91, 91] 91 #[false, false] #[t3, t28]) w (pk K) fun t29 w =>
 J2 [t29] w) (DoX Tryz.prog (mBin .lss 5 t15 (.int .u8 32)) w (pk K) fun t31 w =>
 GDo t31 false (fun E => E t15 w) w fun t33 w =>
 GDo t31 false (fun E => DoX Tryz.prog (mBin .gtr 5 t33 (.int .u8 126)) w (pk K) E) w fun t34 w =>
 DoX Tryz.prog (mPick t31 (.bool true) t34) w (pk K) fun t35 w =>
 IfX t35 (DoX Tryz.prog (mBin .quo 5 t15 (.int .u8 64)) w (pk K) fun t38 w =>
 DoX Tryz.prog (mBin .add 5 (.int .u8 48) t38) w (pk K) fun t39 w =>
 DoX Tryz.prog (mBin .quo 5 t15 (.int .u8 8)) w (pk K) fun t41 w =>
 DoX Tryz.prog (mBin .rem 5 t41 (.int .u8 8)) w (pk K) fun t42 w =>
 DoX Tryz.prog (mBin .add 5 (.int .u8 48) t42) w (pk K) fun t43 w =>
 DoX Tryz.prog (mBin .rem 5 t15 (.int .u8 8)) w (pk K) fun t45 w =>
 DoX Tryz.prog (mBin .add 5 (.int .u8 48) t45) w (pk K) fun t46 w =>
 DoX Tryz.prog (mBuildS 91 4 #[(0, (.int .u8 92)), (1, t39), (2, t43), (3, t46)]) w (pk K) fun t47 w =>
 DoX Tryz.prog (mB .append #[91, 91] 91 #[false, false] #[t3, t47]) w (pk K) fun t48 w =>
 J2 [t48] w) (DoX Tryz.prog (mBuildS 91 1 #[(0, t15)]) w (pk K) fun t51 w =>
 DoX Tryz.prog (mB .append #[91, 91] 91 #[false, false] #[t3, t51]) w (pk K) fun t52 w =>
 J2 [t52] w))) (fun vs2 w => ∀ _ : Sg, S_foliantref55_Quote_1 (vs2.getD 0 undef) t4 w N1 K)) (DoX Tryz.prog (mBuildS 91 1 #[(0, (.int .u8 41))]) w (pk K) fun t54 w =>
 DoX Tryz.prog (mB .append #[91, 91] 91 #[false, false] #[t3, t54]) w (pk K) fun t55 w =>
 DoX Tryz.prog (mConv 91 9 t55) w (pk K) fun t56 w =>
 K (.returned t56) w)
def S_foliantref55_Quote (t0 : Value) (w : World) (K : Ending → World → Prop) : Prop :=
 DoX Tryz.prog (mBuildS 91 1 #[(0, (.int .u8 40))]) w (pk K) fun t6 w =>
 LoopX [t6, (.int .i64 0)] w (fun vs1 w N1 => ∀ _ : Sg, S_foliantref55_Quote_0 t0 (vs1.getD 0 undef) (vs1.getD 1 undef) w N1 K)
theorem S_foliantref55_Quote_eq (t0 : Value) (w : World) (K : Ending → World → Prop) : wpX Tryz.prog 57 [(4, [3])] [(3, [3, 4])] none (bodyOf Tryz.f155) (topQ Tryz.prog [.tmp 2] K) (startX [t0]) [] w = S_foliantref55_Quote t0 w K := by kernel_rfl
theorem S_foliantref55_Quote_ok {t0 : Value} {w : World} {K : Ending → World → Prop} (h : S_foliantref55_Quote t0 w K) : Calls Tryz.prog 155 #[t0] w K :=
  calls_of_wpX Tryz.func155 rfl rfl rfl rfl (Eq.mpr (S_foliantref55_Quote_eq t0 w K) h)

/- foliantref55.line -/
def S_foliantref55_line_1 (t3 t5 : Value) (w : World) (N2 : List Value → World → Prop) (K : Ending → World → Prop) : Prop :=
 DoX Tryz.prog (mBin .add 3 t5 (.int .i64 1)) w (pk K) fun t20 w =>
 N2 [t3, t20] w
def S_foliantref55_line_0 (t1 t3 t4 t5 : Value) (w : World) (N2 : List Value → World → Prop) (K : Ending → World → Prop) : Prop :=
 DoX Tryz.prog (mB .len #[9] 3 #[false] #[t4]) w (pk K) fun t17 w =>
 DoX Tryz.prog (mBin .lss 3 t5 t17) w (pk K) fun t18 w =>
 IfX t18 (JoinX (fun J3 =>
 DoX Tryz.prog (mIx 9 t4 t5) w (pk K) fun t23 w =>
 DoX Tryz.prog (mEq .eql 5 (.tmp 23) (.const (.int .u8 65)) t23 (.int .u8 65)) w (pk K) fun t25 w =>
 IfX t25 (DoX Tryz.prog (mFA 43 t1 1) w (pk K) fun t27 w =>
 DoX Tryz.prog (mLoad 3 t27) w (pk K) fun t28 w =>
 CallX Tryz.prog 96 #[t28] w (pk K) fun t29 w =>
 DoX Tryz.prog (mBin .add 9 (.string ⟨#[32]⟩) t29) w (pk K) fun t30 w =>
 DoX Tryz.prog (mBin .add 9 t3 t30) w (pk K) fun t31 w =>
 J3 [t31] w) (DoX Tryz.prog (mEq .eql 5 (.tmp 23) (.const (.int .u8 66)) t23 (.int .u8 66)) w (pk K) fun t33 w =>
 IfX t33 (DoX Tryz.prog (mFA 43 t1 2) w (pk K) fun t35 w =>
 DoX Tryz.prog (mLoad 3 t35) w (pk K) fun t36 w =>
 CallX Tryz.prog 96 #[t36] w (pk K) fun t37 w =>
 DoX Tryz.prog (mBin .add 9 (.string ⟨#[32]⟩) t37) w (pk K) fun t38 w =>
 DoX Tryz.prog (mBin .add 9 t3 t38) w (pk K) fun t39 w =>
 J3 [t39] w) (DoX Tryz.prog (mEq .eql 5 (.tmp 23) (.const (.int .u8 83)) t23 (.int .u8 83)) w (pk K) fun t41 w =>
 IfX t41 (DoX Tryz.prog (mFA 43 t1 3) w (pk K) fun t43 w =>
 DoX Tryz.prog (mLoad 9 t43) w (pk K) fun t44 w =>
 CallX Tryz.prog 155 #[t44] w (pk K) fun t45 w =>
 DoX Tryz.prog (mBin .add 9 (.string ⟨#[32]⟩) t45) w (pk K) fun t46 w =>
 DoX Tryz.prog (mBin .add 9 t3 t46) w (pk K) fun t47 w =>
 J3 [t47] w) (DoX Tryz.prog (mEq .eql 5 (.tmp 23) (.const (.int .u8 84)) t23 (.int .u8 84)) w (pk K) fun t49 w =>
 IfX t49 (DoX Tryz.prog (mFA 43 t1 4) w (pk K) fun t51 w =>
 DoX Tryz.prog (mLoad 9 t51) w (pk K) fun t52 w =>
 CallX Tryz.prog 155 #[t52] w (pk K) fun t53 w =>
 DoX Tryz.prog (mBin .add 9 (.string ⟨#[32]⟩) t53) w (pk K) fun t54 w =>
 DoX Tryz.prog (mBin .add 9 t3 t54) w (pk K) fun t55 w =>
 J3 [t55] w) (J3 [t3] w))))) (fun vs3 w => ∀ _ : Sg, S_foliantref55_line_1 (vs3.getD 0 undef) t5 w N2 K)) (K (.returned t3) w)
def S_foliantref55_line (t0 : Value) (w : World) (K : Ending → World → Prop) : Prop :=
 DoX Tryz.prog (mBox 43 t0) w (pk K) fun t1 w =>
 HeldX w (fun S1 w =>
 HDo Tryz.prog S1 (mFA 43 t1 0) fun t7 =>
 HDo Tryz.prog S1 (mLoad 3 t7) fun t8 =>
 HDo Tryz.prog S1 (mBin .sub 3 t8 (.int .i64 1)) fun t9 =>
 CallX Tryz.prog 86 #[] w (pm1 (pm1 (pm1 (pm1 (pm1 (pk K)))))) fun t6 w =>
 S1 w ∧ (HDo Tryz.prog S1 (mIA 22 t6 t9) fun t10 =>
 DoX Tryz.prog (mLoad 9 t10) w (pm1 (pm1 (pm1 (pm1 (pm1 (pk K)))))) fun t11 w =>
 S1 w ∧ (DoX Tryz.prog (mFA 43 t1 0) w (pk K) fun t12 w =>
 DoX Tryz.prog (mLoad 3 t12) w (pk K) fun t13 w =>
 CallX Tryz.prog 87 #[t13] w (pk K) fun t14 w =>
 LoopX [t11, (.int .i64 0)] w (fun vs2 w N2 => ∀ _ : Sg, S_foliantref55_line_0 t1 (vs2.getD 0 undef) t14 (vs2.getD 1 undef) w N2 K))))
theorem S_foliantref55_line_eq (t0 : Value) (w : World) (K : Ending → World → Prop) : wpX Tryz.prog 57 [(5, [3])] [(4, [3, 5])] none (bodyOf Tryz.f81) (topQ Tryz.prog [.tmp 2] K) (startX [t0]) [] w = S_foliantref55_line t0 w K := by kernel_rfl
theorem S_foliantref55_line_ok {t0 : Value} {w : World} {K : Ending → World → Prop} (h : S_foliantref55_line t0 w K) : Calls Tryz.prog 81 #[t0] w K :=
  calls_of_wpX Tryz.func81 rfl rfl rfl rfl (Eq.mpr (S_foliantref55_line_eq t0 w K) h)

/- foliantref55.Line -/
def S_foliantref55_Line (t0 : Value) (w : World) (K : Ending → World → Prop) : Prop :=
 DoX Tryz.prog (mBox 43 t0) w (pk K) fun t1 w =>
 DoX Tryz.prog (mLoad 43 t1) w (pk K) fun t6 w =>
 CallX Tryz.prog 34 #[t6] w (pk K) fun t7 w =>
 DoX Tryz.prog (mEq .neq 28 (.tmp 8) (.const (.int .i64 0)) t7 (.int .i64 0)) w (pk K) fun t9 w =>
 IfX t9 (K (.returned (.tuple #[(.string ⟨#[]⟩), t7])) w) (DoX Tryz.prog (mLoad 43 t1) w (pk K) fun t11 w =>
 CallX Tryz.prog 81 #[t11] w (pk K) fun t12 w =>
 DoX Tryz.prog (mB .len #[9] 3 #[false] #[t12]) w (pk K) fun t14 w =>
 DoX Tryz.prog (mBin .gtr 3 t14 (.int .i64 65535)) w (pk K) fun t15 w =>
 IfX t15 (K (.returned (.tuple #[(.string ⟨#[]⟩), (.int .i64 5)])) w) (K (.returned (.tuple #[t12, (.int .i64 0)])) w))
theorem S_foliantref55_Line_eq (t0 : Value) (w : World) (K : Ending → World → Prop) : wpX Tryz.prog 17 [] [] none (bodyOf Tryz.f26) (topQ Tryz.prog [.tmp 2, .tmp 3] K) (startX [t0]) [] w = S_foliantref55_Line t0 w K := by kernel_rfl
theorem S_foliantref55_Line_ok {t0 : Value} {w : World} {K : Ending → World → Prop} (h : S_foliantref55_Line t0 w K) : Calls Tryz.prog 26 #[t0] w K :=
  calls_of_wpX Tryz.func26 rfl rfl rfl rfl (Eq.mpr (S_foliantref55_Line_eq t0 w K) h)

/- foliantref55.number -/
def S_foliantref55_number_0 (t0 t1 t6 : Value) (w : World) (N1 : List Value → World → Prop) (K : Ending → World → Prop) : Prop :=
 DoX Tryz.prog (mB .len #[9] 3 #[false] #[t0]) w (pk K) fun t9 w =>
 DoX Tryz.prog (mBin .lss 3 t1 t9) w (pk K) fun t10 w =>
 GDo t10 true (fun E => E t0 w) w fun t12 w =>
 GDo t10 true (fun E => E t1 w) w fun t13 w =>
 GDo t10 true (fun E => DoX Tryz.prog (mIx 9 t12 t13) w (pk K) E) w fun t14 w =>
 GDo t10 true (fun E => DoX Tryz.prog (mBin .geq 5 t14 (.int .u8 48)) w (pk K) E) w fun t15 w =>
 DoX Tryz.prog (mPick t10 t15 (.bool false)) w (pk K) fun t16 w =>
 GDo t16 true (fun E => E t0 w) w fun t18 w =>
 GDo t16 true (fun E => E t1 w) w fun t19 w =>
 GDo t16 true (fun E => DoX Tryz.prog (mIx 9 t18 t19) w (pk K) E) w fun t20 w =>
 GDo t16 true (fun E => DoX Tryz.prog (mBin .leq 5 t20 (.int .u8 57)) w (pk K) E) w fun t21 w =>
 DoX Tryz.prog (mPick t16 t21 (.bool false)) w (pk K) fun t22 w =>
 GDo t22 true (fun E => E t6 w) w fun t24 w =>
 GDo t22 true (fun E => DoX Tryz.prog (mBin .leq 3 t24 (.int .i64 2147483647)) w (pk K) E) w fun t25 w =>
 DoX Tryz.prog (mPick t22 t25 (.bool false)) w (pk K) fun t26 w =>
 IfX t26 (DoX Tryz.prog (mBin .mul 3 (.int .i64 10) t6) w (pk K) fun t28 w =>
 DoX Tryz.prog (mIx 9 t0 t1) w (pk K) fun t31 w =>
 DoX Tryz.prog (mBin .sub 5 t31 (.int .u8 48)) w (pk K) fun t32 w =>
 DoX Tryz.prog (mConv 5 3 t32) w (pk K) fun t33 w =>
 DoX Tryz.prog (mBin .add 3 t28 t33) w (pk K) fun t34 w =>
 DoX Tryz.prog (mBin .add 3 t1 (.int .i64 1)) w (pk K) fun t36 w =>
 N1 [t36, t34] w) (K (.returned (.tuple #[t6, t1])) w)
def S_foliantref55_number (t0 t1 : Value) (w : World) (K : Ending → World → Prop) : Prop :=
 LoopX [t1, (.int .i64 0)] w (fun vs1 w N1 => ∀ _ : Sg, S_foliantref55_number_0 t0 (vs1.getD 0 undef) (vs1.getD 1 undef) w N1 K)
theorem S_foliantref55_number_eq (t0 t1 : Value) (w : World) (K : Ending → World → Prop) : wpX Tryz.prog 39 [] [(2, [1, 6])] none (bodyOf Tryz.f88) (topQ Tryz.prog [.tmp 4, .tmp 5] K) (startX [t0, t1]) [] w = S_foliantref55_number t0 t1 w K := by kernel_rfl
theorem S_foliantref55_number_ok {t0 t1 : Value} {w : World} {K : Ending → World → Prop} (h : S_foliantref55_number t0 t1 w K) : Calls Tryz.prog 88 #[t0, t1] w K :=
  calls_of_wpX Tryz.func88 rfl rfl rfl rfl (Eq.mpr (S_foliantref55_number_eq t0 t1 w K) h)

/- foliantref55.quoted -/
def S_foliantref55_quoted_0 (t0 t1 t6 : Value) (w : World) (N1 : List Value → World → Prop) (K : Ending → World → Prop) : Prop :=
 DoX Tryz.prog (mB .len #[9] 3 #[false] #[t0]) w (pk K) fun t11 w =>
 DoX Tryz.prog (mBin .lss 3 t1 t11) w (pk K) fun t12 w =>
 GDo t12 true (fun E => E t0 w) w fun t14 w =>
 GDo t12 true (fun E => E t1 w) w fun t15 w =>
 GDo t12 true (fun E => DoX Tryz.prog (mIx 9 t14 t15) w (pk K) E) w fun t16 w =>
 GDo t12 true (fun E => DoX Tryz.prog (mEq .neq 5 (.tmp 16) (.const (.int .u8 41)) t16 (.int .u8 41)) w (pk K) E) w fun t17 w =>
 DoX Tryz.prog (mPick t12 t17 (.bool false)) w (pk K) fun t18 w =>
 IfX t18 (DoX Tryz.prog (mIx 9 t0 t1) w (pk K) fun t21 w =>
 DoX Tryz.prog (mEq .neq 5 (.tmp 21) (.const (.int .u8 92)) t21 (.int .u8 92)) w (pk K) fun t22 w =>
 IfX t22 (DoX Tryz.prog (mIx 9 t0 t1) w (pk K) fun t26 w =>
 DoX Tryz.prog (mBuildS 91 1 #[(0, t26)]) w (pk K) fun t27 w =>
 DoX Tryz.prog (mB .append #[91, 91] 91 #[false, false] #[t6, t27]) w (pk K) fun t28 w =>
 DoX Tryz.prog (mBin .add 3 t1 (.int .i64 1)) w (pk K) fun t30 w =>
 N1 [t30, t28] w) (DoX Tryz.prog (mBin .add 3 t1 (.int .i64 3)) w (pk K) fun t32 w =>
 DoX Tryz.prog (mB .len #[9] 3 #[false] #[t0]) w (pk K) fun t34 w =>
 DoX Tryz.prog (mBin .lss 3 t32 t34) w (pk K) fun t35 w =>
 GDo t35 true (fun E => E t0 w) w fun t37 w =>
 GDo t35 true (fun E => E t1 w) w fun t38 w =>
 GDo t35 true (fun E => DoX Tryz.prog (mBin .add 3 t38 (.int .i64 1)) w (pk K) E) w fun t39 w =>
 GDo t35 true (fun E => DoX Tryz.prog (mIx 9 t37 t39) w (pk K) E) w fun t40 w =>
 GDo t35 true (fun E => DoX Tryz.prog (mBin .geq 5 t40 (.int .u8 48)) w (pk K) E) w fun t41 w =>
 DoX Tryz.prog (mPick t35 t41 (.bool false)) w (pk K) fun t42 w =>
 GDo t42 true (fun E => E t0 w) w fun t44 w =>
 GDo t42 true (fun E => E t1 w) w fun t45 w =>
 GDo t42 true (fun E => DoX Tryz.prog (mBin .add 3 t45 (.int .i64 1)) w (pk K) E) w fun t46 w =>
 GDo t42 true (fun E => DoX Tryz.prog (mIx 9 t44 t46) w (pk K) E) w fun t47 w =>
 GDo t42 true (fun E => DoX Tryz.prog (mBin .leq 5 t47 (.int .u8 51)) w (pk K) E) w fun t48 w =>
 DoX Tryz.prog (mPick t42 t48 (.bool false)) w (pk K) fun t49 w =>
 IfX t49 (QuietX w (fun C2 =>
 QDo Tryz.prog C2 (mBin .add 3 t1 (.int .i64 1)) fun t53 =>
 QDo Tryz.prog C2 (mIx 9 t0 t53) fun t54 =>
 QDo Tryz.prog C2 (mBin .sub 5 t54 (.int .u8 48)) fun t55 =>
 QDo Tryz.prog C2 (mBin .mul 5 t55 (.int .u8 64)) fun t56 =>
 QDo Tryz.prog C2 (mBin .add 3 t1 (.int .i64 2)) fun t59 =>
 QDo Tryz.prog C2 (mIx 9 t0 t59) fun t60 =>
 QDo Tryz.prog C2 (mBin .sub 5 t60 (.int .u8 48)) fun t61 =>
 QDo Tryz.prog C2 (mBin .mul 5 t61 (.int .u8 8)) fun t62 =>
 QDo Tryz.prog C2 (mBin .add 5 t56 t62) fun t63 =>
 QDo Tryz.prog C2 (mBin .add 3 t1 (.int .i64 3)) fun t66 =>
 QDo Tryz.prog C2 (mIx 9 t0 t66) fun t67 =>
 QDo Tryz.prog C2 (mBin .sub 5 t67 (.int .u8 48)) fun t68 =>
 QDo Tryz.prog C2 (mBin .add 5 t63 t68) fun t69 =>
 ∀ w, C2 w →
 DoX Tryz.prog (mBuildS 91 1 #[(0, t69)]) w (pm1 (pm1 (pm1 (pm1 (pm1 (pm1 (pm1 (pk K)))))))) fun t70 w =>
 DoX Tryz.prog (mB .append #[91, 91] 91 #[false, false] #[t6, t70]) w (pm1 (pm1 (pm1 (pm1 (pm1 (pm1 (pm1 (pk K)))))))) fun t71 w =>
 DoX Tryz.prog (mBin .add 3 t1 (.int .i64 4)) w (pk K) fun t73 w =>
 N1 [t73, t71] w)) (DoX Tryz.prog (mBin .add 3 t1 (.int .i64 1)) w (pk K) fun t75 w =>
 DoX Tryz.prog (mB .len #[9] 3 #[false] #[t0]) w (pk K) fun t77 w =>
 DoX Tryz.prog (mBin .lss 3 t75 t77) w (pk K) fun t78 w =>
 IfX t78 (DoX Tryz.prog (mBin .add 3 t1 (.int .i64 1)) w (pk K) fun t82 w =>
 DoX Tryz.prog (mIx 9 t0 t82) w (pk K) fun t83 w =>
 DoX Tryz.prog (mBuildS 91 1 #[(0, t83)]) w (pk K) fun t84 w =>
 DoX Tryz.prog (mB .append #[91, 91] 91 #[false, false] #[t6, t84]) w (pk K) fun t85 w =>
 DoX Tryz.prog (mBin .add 3 t1 (.int .i64 2)) w (pk K) fun t87 w =>
 N1 [t87, t85] w) (DoX Tryz.prog (mBin .add 3 t1 (.int .i64 1)) w (pk K) fun t89 w =>
 N1 [t89, t6] w)))) (DoX Tryz.prog (mConv 91 9 t6) w (pk K) fun t91 w =>
 DoX Tryz.prog (mBin .add 3 t1 (.int .i64 1)) w (pk K) fun t93 w =>
 K (.returned (.tuple #[t91, t93])) w)
def S_foliantref55_quoted (t0 t1 : Value) (w : World) (K : Ending → World → Prop) : Prop :=
 DoX Tryz.prog (mBin .add 3 t1 (.int .i64 1)) w (pk K) fun t8 w =>
 LoopX [t8, (.slice none 0 0)] w (fun vs1 w N1 => ∀ _ : Sg, S_foliantref55_quoted_0 t0 (vs1.getD 0 undef) (vs1.getD 1 undef) w N1 K)
theorem S_foliantref55_quoted_eq (t0 t1 : Value) (w : World) (K : Ending → World → Prop) : wpX Tryz.prog 94 [] [(3, [1, 6])] none (bodyOf Tryz.f89) (topQ Tryz.prog [.tmp 4, .tmp 5] K) (startX [t0, t1]) [] w = S_foliantref55_quoted t0 t1 w K := by kernel_rfl
theorem S_foliantref55_quoted_ok {t0 t1 : Value} {w : World} {K : Ending → World → Prop} (h : S_foliantref55_quoted t0 t1 w K) : Calls Tryz.prog 89 #[t0, t1] w K :=
  calls_of_wpX Tryz.func89 rfl rfl rfl rfl (Eq.mpr (S_foliantref55_quoted_eq t0 t1 w K) h)

/- foliantref55.Parse -/
def S_foliantref55_Parse_4 (t4 t9 : Value) (w : World) (N4 : List Value → World → Prop) (K : Ending → World → Prop) : Prop :=
 DoX Tryz.prog (mBin .add 3 t9 (.int .i64 1)) w (pk K) fun t64 w =>
 N4 [t4, t64] w
def S_foliantref55_Parse_3 (t0 t2 t4 t5 t8 t9 : Value) (w : World) (N4 : List Value → World → Prop) (K : Ending → World → Prop) : Prop :=
 DoX Tryz.prog (mB .len #[9] 3 #[false] #[t8]) w (pk K) fun t50 w =>
 DoX Tryz.prog (mBin .lss 3 t9 t50) w (pk K) fun t51 w =>
 GDo t51 true (fun E => E t4 w) w fun t53 w =>
 GDo t51 true (fun E => DoX Tryz.prog (mBin .add 3 t53 (.int .i64 1)) w (pk K) E) w fun t54 w =>
 GDo t51 true (fun E => E t0 w) w fun t55 w =>
 GDo t51 true (fun E => DoX Tryz.prog (mB .len #[9] 3 #[false] #[t55]) w (pk K) E) w fun t56 w =>
 GDo t51 true (fun E => DoX Tryz.prog (mBin .lss 3 t54 t56) w (pk K) E) w fun t57 w =>
 DoX Tryz.prog (mPick t51 t57 (.bool false)) w (pk K) fun t58 w =>
 GDo t58 true (fun E => E t8 w) w fun t60 w =>
 GDo t58 true (fun E => DoX Tryz.prog (mEq .neq 9 (.tmp 60) (.const (.string ⟨#[63]⟩)) t60 (.string ⟨#[63]⟩)) w (pk K) E) w fun t61 w =>
 DoX Tryz.prog (mPick t58 t61 (.bool false)) w (pk K) fun t62 w =>
 IfX t62 (JoinX (fun J5 =>
 DoX Tryz.prog (mBin .add 3 t4 (.int .i64 1)) w (pk K) fun t66 w =>
 DoX Tryz.prog (mIx 9 t8 t9) w (pk K) fun t69 w =>
 DoX Tryz.prog (mEq .eql 5 (.tmp 69) (.const (.int .u8 65)) t69 (.int .u8 65)) w (pk K) fun t71 w =>
 IfX t71 (CallX Tryz.prog 88 #[t0, t66] w (pk K) fun t75 w =>
 DoX Tryz.prog (mExt t75 0) w (pk K) fun t76 w =>
 DoX Tryz.prog (mExt t75 1) w (pk K) fun t77 w =>
 DoX Tryz.prog (mFA 43 t5 1) w (pk K) fun t78 w =>
 DoX Tryz.prog (mStore 3 t78 t76) w (pk K) fun _ w =>
 J5 [t77] w) (DoX Tryz.prog (mEq .eql 5 (.tmp 69) (.const (.int .u8 66)) t69 (.int .u8 66)) w (pk K) fun t80 w =>
 IfX t80 (CallX Tryz.prog 88 #[t0, t66] w (pk K) fun t84 w =>
 DoX Tryz.prog (mExt t84 0) w (pk K) fun t85 w =>
 DoX Tryz.prog (mExt t84 1) w (pk K) fun t86 w =>
 DoX Tryz.prog (mFA 43 t5 2) w (pk K) fun t87 w =>
 DoX Tryz.prog (mStore 3 t87 t85) w (pk K) fun _ w =>
 J5 [t86] w) (DoX Tryz.prog (mEq .eql 5 (.tmp 69) (.const (.int .u8 83)) t69 (.int .u8 83)) w (pk K) fun t89 w =>
 IfX t89 (CallX Tryz.prog 89 #[t0, t66] w (pk K) fun t93 w =>
 DoX Tryz.prog (mExt t93 0) w (pk K) fun t94 w =>
 DoX Tryz.prog (mExt t93 1) w (pk K) fun t95 w =>
 DoX Tryz.prog (mFA 43 t5 3) w (pk K) fun t96 w =>
 DoX Tryz.prog (mStore 9 t96 t94) w (pk K) fun _ w =>
 J5 [t95] w) (DoX Tryz.prog (mEq .eql 5 (.tmp 69) (.const (.int .u8 84)) t69 (.int .u8 84)) w (pk K) fun t98 w =>
 IfX t98 (CallX Tryz.prog 89 #[t0, t66] w (pk K) fun t102 w =>
 DoX Tryz.prog (mExt t102 0) w (pk K) fun t103 w =>
 DoX Tryz.prog (mExt t102 1) w (pk K) fun t104 w =>
 DoX Tryz.prog (mFA 43 t5 4) w (pk K) fun t105 w =>
 DoX Tryz.prog (mStore 9 t105 t103) w (pk K) fun _ w =>
 J5 [t104] w) (J5 [t66] w))))) (fun vs5 w => ∀ _ : Sg, S_foliantref55_Parse_4 (vs5.getD 0 undef) t9 w N4 K)) (DoX Tryz.prog (mLoad 43 t5) w (pk K) fun t107 w =>
 CallX Tryz.prog 26 #[t107] w (pk K) fun t108 w =>
 DoX Tryz.prog (mExt t108 0) w (pk K) fun t109 w =>
 DoX Tryz.prog (mExt t108 1) w (pk K) fun t110 w =>
 DoX Tryz.prog (mEq .neq 28 (.tmp 111) (.const (.int .i64 0)) t110 (.int .i64 0)) w (pk K) fun t112 w =>
 GDo t112 false (fun E => E t109 w) w fun t114 w =>
 GDo t112 false (fun E => E t0 w) w fun t115 w =>
 GDo t112 false (fun E => DoX Tryz.prog (mEq .neq 9 (.tmp 114) (.tmp 115) t114 t115) w (pk K) E) w fun t116 w =>
 DoX Tryz.prog (mPick t112 (.bool true) t116) w (pk K) fun t117 w =>
 IfX t117 (DoX Tryz.prog (mBuild 43 #[]) w (pk K) fun t118 w =>
 DoX Tryz.prog (mStore 43 t2 t118) w (pk K) fun _ w =>
 RetX Tryz.prog [.cell t2 43, .val (.int .i64 33)] w K) (DoX Tryz.prog (mLoad 43 t5) w (pk K) fun t119 w =>
 DoX Tryz.prog (mStore 43 t2 t119) w (pk K) fun _ w =>
 RetX Tryz.prog [.cell t2 43, .val (.int .i64 0)] w K))
def S_foliantref55_Parse_2 (t31 : Value) (w : World) (N2 : List Value → World → Prop) (K : Ending → World → Prop) : Prop :=
 DoX Tryz.prog (mBin .add 3 t31 (.int .i64 1)) w (pk K) fun t44 w =>
 N2 [t44] w
def S_foliantref55_Parse_1 (t0 t2 t4 t5 t29 t30 t31 : Value) (w : World) (N2 : List Value → World → Prop) (K : Ending → World → Prop) : Prop :=
 DoX Tryz.prog (mBin .lss 3 t31 t30) w (pk K) fun t32 w =>
 IfX t32 (JoinX (fun J3 =>
 DoX Tryz.prog (mIA 22 t29 t31) w (pk K) fun t34 w =>
 DoX Tryz.prog (mLoad 9 t34) w (pk K) fun t35 w =>
 DoX Tryz.prog (mSlice 9 t0 none (some t4) none) w (pk K) fun t39 w =>
 DoX Tryz.prog (mEq .eql 9 (.tmp 36) (.tmp 39) t35 t39) w (pk K) fun t40 w =>
 IfX t40 (DoX Tryz.prog (mBin .add 3 t31 (.int .i64 1)) w (pk K) fun t42 w =>
 DoX Tryz.prog (mFA 43 t5 0) w (pk K) fun t43 w =>
 DoX Tryz.prog (mStore 3 t43 t42) w (pk K) fun _ w =>
 J3 [] w) (J3 [] w)) (fun vs3 w => ∀ _ : Sg, S_foliantref55_Parse_2 t31 w N2 K)) (DoX Tryz.prog (mFA 43 t5 0) w (pk K) fun t45 w =>
 DoX Tryz.prog (mLoad 3 t45) w (pk K) fun t46 w =>
 CallX Tryz.prog 87 #[t46] w (pk K) fun t47 w =>
 LoopX [t4, (.int .i64 0)] w (fun vs4 w N4 => ∀ _ : Sg, S_foliantref55_Parse_3 t0 t2 (vs4.getD 0 undef) t5 t47 (vs4.getD 1 undef) w N4 K))
def S_foliantref55_Parse_0 (t0 t2 t4 : Value) (w : World) (N1 : List Value → World → Prop) (K : Ending → World → Prop) : Prop :=
 DoX Tryz.prog (mB .len #[9] 3 #[false] #[t0]) w (pk K) fun t18 w =>
 DoX Tryz.prog (mBin .lss 3 t4 t18) w (pk K) fun t19 w =>
 GDo t19 true (fun E => E t0 w) w fun t21 w =>
 GDo t19 true (fun E => E t4 w) w fun t22 w =>
 GDo t19 true (fun E => DoX Tryz.prog (mIx 9 t21 t22) w (pk K) E) w fun t23 w =>
 GDo t19 true (fun E => DoX Tryz.prog (mEq .neq 5 (.tmp 23) (.const (.int .u8 32)) t23 (.int .u8 32)) w (pk K) E) w fun t24 w =>
 DoX Tryz.prog (mPick t19 t24 (.bool false)) w (pk K) fun t25 w =>
 IfX t25 (DoX Tryz.prog (mBin .add 3 t4 (.int .i64 1)) w (pk K) fun t27 w =>
 N1 [t27] w) (DoX Tryz.prog (mBuild 43 #[]) w (pk K) fun t28 w =>
 DoX Tryz.prog (mAlloc 43) w (pk K) fun t5 w =>
 DoX Tryz.prog (mStore 43 t5 t28) w (pk K) fun _ w =>
 CallX Tryz.prog 86 #[] w (pk K) fun t29 w =>
 DoX Tryz.prog (mB .len #[22] 3 #[false] #[t29]) w (pk K) fun t30 w =>
 LoopX [(.int .i64 0)] w (fun vs2 w N2 => ∀ _ : Sg, S_foliantref55_Parse_1 t0 t2 t4 t5 t29 t30 (vs2.getD 0 undef) w N2 K))
def S_foliantref55_Parse (t0 : Value) (w : World) (K : Ending → World → Prop) : Prop :=
 DoX Tryz.prog (mAlloc 43) w (pk K) fun t2 w =>
 DoX Tryz.prog (mB .len #[9] 3 #[false] #[t0]) w (pk K) fun t13 w =>
 DoX Tryz.prog (mBin .gtr 3 t13 (.int .i64 65535)) w (pk K) fun t14 w =>
 IfX t14 (DoX Tryz.prog (mBuild 43 #[]) w (pk K) fun t15 w =>
 DoX Tryz.prog (mStore 43 t2 t15) w (pk K) fun _ w =>
 RetX Tryz.prog [.cell t2 43, .val (.int .i64 5)] w K) (LoopX [(.int .i64 0)] w (fun vs1 w N1 => ∀ _ : Sg, S_foliantref55_Parse_0 t0 t2 (vs1.getD 0 undef) w N1 K))
theorem S_foliantref55_Parse_eq (t0 : Value) (w : World) (K : Ending → World → Prop) : wpX Tryz.prog 120 [(12, []), (16, [4])] [(4, [4]), (8, [31]), (15, [4, 9])] none (bodyOf Tryz.f28) (topQ Tryz.prog [.cell 2 43, .tmp 3] K) (startX [t0]) [] w = S_foliantref55_Parse t0 w K := by kernel_rfl
theorem S_foliantref55_Parse_ok {t0 : Value} {w : World} {K : Ending → World → Prop} (h : S_foliantref55_Parse t0 w K) : Calls Tryz.prog 28 #[t0] w K :=
  calls_of_wpX Tryz.func28 rfl rfl rfl rfl (Eq.mpr (S_foliantref55_Parse_eq t0 w K) h)

/- foliantref55.Text -/
def S_foliantref55_Text_0 (t4 t12 t13 t14 : Value) (w : World) (N1 : List Value → World → Prop) (K : Ending → World → Prop) : Prop :=
 DoX Tryz.prog (mBin .lss 3 t14 t13) w (pk K) fun t15 w =>
 IfX t15 (DoX Tryz.prog (mIA 44 t12 t14) w (pk K) fun t16 w =>
 DoX Tryz.prog (mLoad 43 t16) w (pk K) fun t17 w =>
 DoX Tryz.prog (mAlloc 43) w (pk K) fun t6 w =>
 DoX Tryz.prog (mStore 43 t6 t17) w (pk K) fun _ w =>
 DoX Tryz.prog (mLoad 43 t6) w (pk K) fun t19 w =>
 CallX Tryz.prog 26 #[t19] w (pk K) fun t20 w =>
 DoX Tryz.prog (mExt t20 0) w (pk K) fun t21 w =>
 DoX Tryz.prog (mExt t20 1) w (pk K) fun t22 w =>
 DoX Tryz.prog (mEq .neq 28 (.tmp 23) (.const (.int .i64 0)) t22 (.int .i64 0)) w (pk K) fun t24 w =>
 IfX t24 (K (.returned (.tuple #[(.string ⟨#[]⟩), t22])) w) (DoX Tryz.prog (mBin .add 9 t21 (.string ⟨#[10]⟩)) w (pk K) fun t28 w =>
 DoX Tryz.prog (mBin .add 9 t4 t28) w (pk K) fun t29 w =>
 DoX Tryz.prog (mBin .add 3 t14 (.int .i64 1)) w (pk K) fun t30 w =>
 N1 [t29, t30] w)) (K (.returned (.tuple #[t4, (.int .i64 0)])) w)
def S_foliantref55_Text (t0 : Value) (w : World) (K : Ending → World → Prop) : Prop :=
 DoX Tryz.prog (mB .len #[44] 3 #[false] #[t0]) w (pk K) fun t10 w =>
 DoX Tryz.prog (mBin .gtr 3 t10 (.int .i64 256)) w (pk K) fun t11 w =>
 IfX t11 (K (.returned (.tuple #[(.string ⟨#[]⟩), (.int .i64 6)])) w) (DoX Tryz.prog (mB .len #[44] 3 #[false] #[t0]) w (pk K) fun t13 w =>
 LoopX [(.string ⟨#[]⟩), (.int .i64 0)] w (fun vs1 w N1 => ∀ _ : Sg, S_foliantref55_Text_0 (vs1.getD 0 undef) t0 t13 (vs1.getD 1 undef) w N1 K))
theorem S_foliantref55_Text_eq (t0 : Value) (w : World) (K : Ending → World → Prop) : wpX Tryz.prog 32 [] [(5, [4, 14])] none (bodyOf Tryz.f30) (topQ Tryz.prog [.tmp 2, .tmp 3] K) (startX [t0]) [] w = S_foliantref55_Text t0 w K := by kernel_rfl
theorem S_foliantref55_Text_ok {t0 : Value} {w : World} {K : Ending → World → Prop} (h : S_foliantref55_Text t0 w K) : Calls Tryz.prog 30 #[t0] w K :=
  calls_of_wpX Tryz.func30 rfl rfl rfl rfl (Eq.mpr (S_foliantref55_Text_eq t0 w K) h)

/- foliantref55.Lines -/
def S_foliantref55_Lines_1 (t3 t4 : Value) (w : World) (N1 : List Value → World → Prop) (K : Ending → World → Prop) : Prop :=
 DoX Tryz.prog (mBin .add 3 t4 (.int .i64 1)) w (pk K) fun t11 w =>
 N1 [t3, t11] w
def S_foliantref55_Lines_0 (t0 t3 t4 : Value) (w : World) (N1 : List Value → World → Prop) (K : Ending → World → Prop) : Prop :=
 DoX Tryz.prog (mB .len #[9] 3 #[false] #[t0]) w (pk K) fun t8 w =>
 DoX Tryz.prog (mBin .lss 3 t4 t8) w (pk K) fun t9 w =>
 IfX t9 (JoinX (fun J2 =>
 DoX Tryz.prog (mIx 9 t0 t4) w (pk K) fun t14 w =>
 DoX Tryz.prog (mEq .eql 5 (.tmp 14) (.const (.int .u8 10)) t14 (.int .u8 10)) w (pk K) fun t15 w =>
 IfX t15 (DoX Tryz.prog (mBuildS 22 1 #[(0, (.string ⟨#[]⟩))]) w (pk K) fun t17 w =>
 DoX Tryz.prog (mB .append #[22, 22] 22 #[false, false] #[t3, t17]) w (pk K) fun t18 w =>
 J2 [t18] w) (QuietX w (fun C3 =>
 QDo Tryz.prog C3 (mB .len #[22] 3 #[false] #[t3]) fun t21 =>
 QDo Tryz.prog C3 (mBin .sub 3 t21 (.int .i64 1)) fun t22 =>
 QDo Tryz.prog C3 (mIA 22 t3 t22) fun t23 =>
 QDo Tryz.prog C3 (mLoad 9 t23) fun t24 =>
 QDo Tryz.prog C3 (mBin .add 3 t4 (.int .i64 1)) fun t28 =>
 QDo Tryz.prog C3 (mSlice 9 t0 (some t4) (some t28) none) fun t29 =>
 QDo Tryz.prog C3 (mBin .add 9 t24 t29) fun t30 =>
 QDo Tryz.prog C3 (mIA 22 t3 t22) fun t31 =>
 ∀ w, C3 w →
 DoX Tryz.prog (mStore 9 t31 t30) w (pk K) fun _ w =>
 J2 [t3] w))) (fun vs2 w => ∀ _ : Sg, S_foliantref55_Lines_1 (vs2.getD 0 undef) t4 w N1 K)) (K (.returned t3) w)
def S_foliantref55_Lines (t0 : Value) (w : World) (K : Ending → World → Prop) : Prop :=
 DoX Tryz.prog (mBuildS 22 1 #[(0, (.string ⟨#[]⟩))]) w (pk K) fun t5 w =>
 LoopX [t5, (.int .i64 0)] w (fun vs1 w N1 => ∀ _ : Sg, S_foliantref55_Lines_0 t0 (vs1.getD 0 undef) (vs1.getD 1 undef) w N1 K)
theorem S_foliantref55_Lines_eq (t0 : Value) (w : World) (K : Ending → World → Prop) : wpX Tryz.prog 33 [(4, [3])] [(3, [3, 4])] none (bodyOf Tryz.f91) (topQ Tryz.prog [.tmp 2] K) (startX [t0]) [] w = S_foliantref55_Lines t0 w K := by kernel_rfl
theorem S_foliantref55_Lines_ok {t0 : Value} {w : World} {K : Ending → World → Prop} (h : S_foliantref55_Lines t0 w K) : Calls Tryz.prog 91 #[t0] w K :=
  calls_of_wpX Tryz.func91 rfl rfl rfl rfl (Eq.mpr (S_foliantref55_Lines_eq t0 w K) h)

/- foliantref55.Read -/
def S_foliantref55_Read_1 (t2 t4 t16 : Value) (w : World) (N1 : List Value → World → Prop) (K : Ending → World → Prop) : Prop :=
 DoX Tryz.prog (mBin .add 3 t16 (.int .i64 1)) w (pk K) fun t49 w =>
 N1 [t2, t4, t49] w
def S_foliantref55_Read_0 (t2 t3 t4 t14 t15 t16 : Value) (w : World) (N1 : List Value → World → Prop) (K : Ending → World → Prop) : Prop :=
 DoX Tryz.prog (mBin .lss 3 t16 t15) w (pk K) fun t17 w =>
 IfX t17 (JoinX (fun J2 =>
 DoX Tryz.prog (mIA 22 t14 t16) w (pk K) fun t19 w =>
 DoX Tryz.prog (mLoad 9 t19) w (pk K) fun t20 w =>
 DoX Tryz.prog (mEq .eql 9 (.tmp 21) (.const (.string ⟨#[]⟩)) t20 (.string ⟨#[]⟩)) w (pk K) fun t22 w =>
 GDo t22 false (fun E => E t20 w) w fun t24 w =>
 GDo t22 false (fun E => DoX Tryz.prog (mIx 9 t24 (.int .i64 0)) w (pk K) E) w fun t25 w =>
 GDo t22 false (fun E => DoX Tryz.prog (mEq .eql 5 (.tmp 25) (.const (.int .u8 35)) t25 (.int .u8 35)) w (pk K) E) w fun t26 w =>
 DoX Tryz.prog (mPick t22 (.bool true) t26) w (pk K) fun t27 w =>
 IfX t27 (J2 [t2, t4] w) (DoX Tryz.prog (mB .len #[44] 3 #[false] #[t4]) w (pk K) fun t29 w =>
 DoX Tryz.prog (mEq .eql 3 (.tmp 29) (.const (.int .i64 256)) t29 (.int .i64 256)) w (pk K) fun t30 w =>
 IfX t30 (DoX Tryz.prog (mBin .add 3 t16 (.int .i64 1)) w (pk K) fun t32 w =>
 DoX Tryz.prog (mBuild 36 #[(0, t32), (1, (.int .i64 6))]) w (pk K) fun t33 w =>
 DoX Tryz.prog (mStore 36 t3 t33) w (pk K) fun _ w =>
 RetX Tryz.prog [.val (.slice none 0 0), .cell t3 36] w K) (CallX Tryz.prog 28 #[t20] w (pk K) fun t36 w =>
 DoX Tryz.prog (mExt t36 0) w (pk K) fun t37 w =>
 DoX Tryz.prog (mExt t36 1) w (pk K) fun t38 w =>
 DoX Tryz.prog (mAlloc 43) w (pk K) fun t7 w =>
 DoX Tryz.prog (mStore 43 t7 t37) w (pk K) fun _ w =>
 DoX Tryz.prog (mEq .neq 28 (.tmp 39) (.const (.int .i64 0)) t38 (.int .i64 0)) w (pk K) fun t40 w =>
 IfX t40 (DoX Tryz.prog (mBin .add 3 t16 (.int .i64 1)) w (pk K) fun t42 w =>
 DoX Tryz.prog (mBuild 36 #[(0, t42), (1, t38)]) w (pk K) fun t44 w =>
 DoX Tryz.prog (mStore 36 t3 t44) w (pk K) fun _ w =>
 RetX Tryz.prog [.val (.slice none 0 0), .cell t3 36] w K) (DoX Tryz.prog (mLoad 43 t7) w (pk K) fun t46 w =>
 DoX Tryz.prog (mBuildS 44 1 #[(0, t46)]) w (pk K) fun t47 w =>
 DoX Tryz.prog (mB .append #[44, 44] 44 #[false, false] #[t4, t47]) w (pk K) fun t48 w =>
 J2 [t2, t48] w)))) (fun vs2 w => ∀ _ : Sg, S_foliantref55_Read_1 (vs2.getD 0 undef) (vs2.getD 1 undef) t16 w N1 K)) (DoX Tryz.prog (mBuild 36 #[]) w (pk K) fun t51 w =>
 DoX Tryz.prog (mStore 36 t3 t51) w (pk K) fun _ w =>
 RetX Tryz.prog [.val t4, .cell t3 36] w K)
def S_foliantref55_Read (t0 : Value) (w : World) (K : Ending → World → Prop) : Prop :=
 DoX Tryz.prog (mAlloc 36) w (pk K) fun t3 w =>
 DoX Tryz.prog (mB .len #[9] 3 #[false] #[t0]) w (pk K) fun t10 w =>
 DoX Tryz.prog (mBin .gtr 3 t10 (.int .i64 1048576)) w (pk K) fun t11 w =>
 IfX t11 (DoX Tryz.prog (mBuild 36 #[(1, (.int .i64 5))]) w (pk K) fun t12 w =>
 DoX Tryz.prog (mStore 36 t3 t12) w (pk K) fun _ w =>
 RetX Tryz.prog [.val (.slice none 0 0), .cell t3 36] w K) (CallX Tryz.prog 91 #[t0] w (pk K) fun t14 w =>
 DoX Tryz.prog (mB .len #[22] 3 #[false] #[t14]) w (pk K) fun t15 w =>
 LoopX [(.slice none 0 0), (.slice none 0 0), (.int .i64 0)] w (fun vs1 w N1 => ∀ _ : Sg, S_foliantref55_Read_0 (vs1.getD 0 undef) t3 (vs1.getD 1 undef) t14 t15 (vs1.getD 2 undef) w N1 K))
theorem S_foliantref55_Read_eq (t0 : Value) (w : World) (K : Ending → World → Prop) : wpX Tryz.prog 52 [(14, [2, 4])] [(5, [2, 4, 16])] none (bodyOf Tryz.f32) (topQ Tryz.prog [.tmp 2, .cell 3 36] K) (startX [t0]) [] w = S_foliantref55_Read t0 w K := by kernel_rfl
theorem S_foliantref55_Read_ok {t0 : Value} {w : World} {K : Ending → World → Prop} (h : S_foliantref55_Read t0 w K) : Calls Tryz.prog 32 #[t0] w K :=
  calls_of_wpX Tryz.func32 rfl rfl rfl rfl (Eq.mpr (S_foliantref55_Read_eq t0 w K) h)

/- foliantref55.Tell -/
def S_foliantref55_Tell (t0 : Value) (w : World) (K : Ending → World → Prop) : Prop :=
 DoX Tryz.prog (mBox 46 t0) w (pk K) fun t1 w =>
 DoX Tryz.prog (mFA 46 t1 0) w (pk K) fun t3 w =>
 DoX Tryz.prog (mLoad 28 t3) w (pk K) fun t4 w =>
 DoX Tryz.prog (mEq .neq 28 (.tmp 4) (.const (.int .i64 0)) t4 (.int .i64 0)) w (pk K) fun t5 w =>
 IfX t5 (DoX Tryz.prog (mFA 46 t1 0) w (pk K) fun t6 w =>
 DoX Tryz.prog (mLoad 28 t6) w (pk K) fun t7 w =>
 CallX Tryz.prog 96 #[t7] w (pk K) fun t8 w =>
 DoX Tryz.prog (mBin .add 9 (.string ⟨#[101, 114, 114, 111, 114, 32]⟩) t8) w (pk K) fun t9 w =>
 DoX Tryz.prog (mBuildS 22 1 #[(0, t9)]) w (pk K) fun t10 w =>
 K (.returned t10) w) (HeldX w (fun S1 w =>
 HDo Tryz.prog S1 (mFA 46 t1 1) fun t11 =>
 HDo Tryz.prog S1 (mLoad 3 t11) fun t12 =>
 HDo Tryz.prog S1 (mFA 46 t1 2) fun t16 =>
 HDo Tryz.prog S1 (mLoad 22 t16) fun t17 =>
 HDo Tryz.prog S1 (mB .len #[22] 3 #[false] #[t17]) fun t18 =>
 HDo Tryz.prog S1 (mFA 46 t1 2) fun t22 =>
 HDo Tryz.prog S1 (mLoad 22 t22) fun t23 =>
 CallX Tryz.prog 96 #[t12] w (pm1 (pm1 (pm1 (pm1 (pm1 (pm1 (pm1 (pm1 (pm1 (pm1 (pm1 (pk K)))))))))))) fun t13 w =>
 S1 w ∧ (HDo Tryz.prog S1 (mBin .add 9 (.string ⟨#[111, 107, 32]⟩) t13) fun t14 =>
 HDo Tryz.prog S1 (mBin .add 9 t14 (.string ⟨#[32]⟩)) fun t15 =>
 CallX Tryz.prog 96 #[t18] w (pm1 (pm1 (pm1 (pm1 (pm1 (pm1 (pm1 (pm1 (pm1 (pm1 (pm1 (pk K)))))))))))) fun t19 w =>
 S1 w ∧ (HDo Tryz.prog S1 (mBin .add 9 t15 t19) fun t20 =>
 DoX Tryz.prog (mBuildS 22 1 #[(0, t20)]) w (pm1 (pm1 (pm1 (pm1 (pm1 (pm1 (pm1 (pm1 (pm1 (pm1 (pm1 (pk K)))))))))))) fun t21 w =>
 S1 w ∧ (DoX Tryz.prog (mB .append #[22, 22] 22 #[false, false] #[t21, t23]) w (pm1 (pm1 (pm1 (pm1 (pm1 (pm1 (pm1 (pm1 (pm1 (pm1 (pm1 (pk K)))))))))))) fun t24 w =>
 S1 w ∧ (K (.returned t24) w))))))
theorem S_foliantref55_Tell_eq (t0 : Value) (w : World) (K : Ending → World → Prop) : wpX Tryz.prog 25 [] [] none (bodyOf Tryz.f38) (topQ Tryz.prog [.tmp 2] K) (startX [t0]) [] w = S_foliantref55_Tell t0 w K := by kernel_rfl
theorem S_foliantref55_Tell_ok {t0 : Value} {w : World} {K : Ending → World → Prop} (h : S_foliantref55_Tell t0 w K) : Calls Tryz.prog 38 #[t0] w K :=
  calls_of_wpX Tryz.func38 rfl rfl rfl rfl (Eq.mpr (S_foliantref55_Tell_eq t0 w K) h)

/- foliantref55.Same -/
def S_foliantref55_Same_0 (t0 t1 t12 t13 : Value) (w : World) (N1 : List Value → World → Prop) (K : Ending → World → Prop) : Prop :=
 DoX Tryz.prog (mBin .lss 3 t13 t12) w (pk K) fun t14 w =>
 IfX t14 (QuietX w (fun C2 =>
 QDo Tryz.prog C2 (mIA 44 t0 t13) fun t18 =>
 QDo Tryz.prog C2 (mLoad 43 t18) fun t19 =>
 QDo Tryz.prog C2 (mIA 44 t1 t13) fun t22 =>
 QDo Tryz.prog C2 (mLoad 43 t22) fun t23 =>
 QDo Tryz.prog C2 (mEq .neq 43 (.tmp 19) (.tmp 23) t19 t23) fun t24 =>
 ∀ w, C2 w →
 IfX t24 (K (.returned (.bool false)) w) (DoX Tryz.prog (mBin .add 3 t13 (.int .i64 1)) w (pk K) fun t25 w =>
 N1 [t25] w))) (K (.returned (.bool true)) w)
def S_foliantref55_Same (t0 t1 : Value) (w : World) (K : Ending → World → Prop) : Prop :=
 DoX Tryz.prog (mB .len #[44] 3 #[false] #[t0]) w (pk K) fun t7 w =>
 DoX Tryz.prog (mB .len #[44] 3 #[false] #[t1]) w (pk K) fun t9 w =>
 DoX Tryz.prog (mEq .neq 3 (.tmp 7) (.tmp 9) t7 t9) w (pk K) fun t10 w =>
 IfX t10 (K (.returned (.bool false)) w) (DoX Tryz.prog (mB .len #[44] 3 #[false] #[t0]) w (pk K) fun t12 w =>
 LoopX [(.int .i64 0)] w (fun vs1 w N1 => ∀ _ : Sg, S_foliantref55_Same_0 t0 t1 t12 (vs1.getD 0 undef) w N1 K))
theorem S_foliantref55_Same_eq (t0 t1 : Value) (w : World) (K : Ending → World → Prop) : wpX Tryz.prog 26 [] [(4, [13])] none (bodyOf Tryz.f35) (topQ Tryz.prog [.tmp 4] K) (startX [t0, t1]) [] w = S_foliantref55_Same t0 t1 w K := by kernel_rfl
theorem S_foliantref55_Same_ok {t0 t1 : Value} {w : World} {K : Ending → World → Prop} (h : S_foliantref55_Same t0 t1 w K) : Calls Tryz.prog 35 #[t0, t1] w K :=
  calls_of_wpX Tryz.func35 rfl rfl rfl rfl (Eq.mpr (S_foliantref55_Same_eq t0 t1 w K) h)

/- foliantref55.Light -/
def S_foliantref55_Light_0 (t0 t3 t6 t7 t8 : Value) (w : World) (N1 : List Value → World → Prop) (K : Ending → World → Prop) : Prop :=
 DoX Tryz.prog (mBin .lss 3 t8 t7) w (pk K) fun t9 w =>
 IfX t9 (DoX Tryz.prog (mIA 44 t6 t8) w (pk K) fun t10 w =>
 DoX Tryz.prog (mLoad 43 t10) w (pk K) fun t11 w =>
 DoX Tryz.prog (mAlloc 43) w (pk K) fun t5 w =>
 DoX Tryz.prog (mStore 43 t5 t11) w (pk K) fun _ w =>
 DoX Tryz.prog (mFA 43 t5 3) w (pk K) fun t12 w =>
 DoX Tryz.prog (mLoad 9 t12) w (pk K) fun t13 w =>
 DoX Tryz.prog (mB .len #[9] 3 #[false] #[t13]) w (pk K) fun t14 w =>
 DoX Tryz.prog (mBin .gtr 3 t14 (.int .i64 3000)) w (pk K) fun t15 w =>
 GDo t15 false (fun E => DoX Tryz.prog (mFA 43 t5 4) w (pk K) E) w fun t17 w =>
 GDo t15 false (fun E => DoX Tryz.prog (mLoad 9 t17) w (pk K) E) w fun t18 w =>
 GDo t15 false (fun E => DoX Tryz.prog (mB .len #[9] 3 #[false] #[t18]) w (pk K) E) w fun t19 w =>
 GDo t15 false (fun E => DoX Tryz.prog (mBin .gtr 3 t19 (.int .i64 3000)) w (pk K) E) w fun t20 w =>
 DoX Tryz.prog (mPick t15 (.bool true) t20) w (pk K) fun t21 w =>
 IfX t21 (K (.returned (.bool false)) w) (DoX Tryz.prog (mFA 43 t5 3) w (pk K) fun t23 w =>
 DoX Tryz.prog (mLoad 9 t23) w (pk K) fun t24 w =>
 DoX Tryz.prog (mB .len #[9] 3 #[false] #[t24]) w (pk K) fun t25 w =>
 DoX Tryz.prog (mFA 43 t5 4) w (pk K) fun t26 w =>
 DoX Tryz.prog (mLoad 9 t26) w (pk K) fun t27 w =>
 DoX Tryz.prog (mB .len #[9] 3 #[false] #[t27]) w (pk K) fun t28 w =>
 DoX Tryz.prog (mBin .add 3 t25 t28) w (pk K) fun t29 w =>
 DoX Tryz.prog (mBin .add 3 t3 t29) w (pk K) fun t30 w =>
 DoX Tryz.prog (mBin .add 3 t8 (.int .i64 1)) w (pk K) fun t31 w =>
 N1 [t30, t31] w)) (DoX Tryz.prog (mB .len #[44] 3 #[false] #[t0]) w (pk K) fun t33 w =>
 DoX Tryz.prog (mBin .leq 3 t33 (.int .i64 300)) w (pk K) fun t34 w =>
 GDo t34 true (fun E => E t3 w) w fun t36 w =>
 GDo t34 true (fun E => DoX Tryz.prog (mBin .leq 3 t36 (.int .i64 6000)) w (pk K) E) w fun t37 w =>
 DoX Tryz.prog (mPick t34 t37 (.bool false)) w (pk K) fun t38 w =>
 K (.returned t38) w)
def S_foliantref55_Light (t0 : Value) (w : World) (K : Ending → World → Prop) : Prop :=
 DoX Tryz.prog (mB .len #[44] 3 #[false] #[t0]) w (pk K) fun t7 w =>
 LoopX [(.int .i64 0), (.int .i64 0)] w (fun vs1 w N1 => ∀ _ : Sg, S_foliantref55_Light_0 t0 (vs1.getD 0 undef) t0 t7 (vs1.getD 1 undef) w N1 K)
theorem S_foliantref55_Light_eq (t0 : Value) (w : World) (K : Ending → World → Prop) : wpX Tryz.prog 39 [] [(3, [3, 8])] none (bodyOf Tryz.f23) (topQ Tryz.prog [.tmp 2] K) (startX [t0]) [] w = S_foliantref55_Light t0 w K := by kernel_rfl
theorem S_foliantref55_Light_ok {t0 : Value} {w : World} {K : Ending → World → Prop} (h : S_foliantref55_Light t0 w K) : Calls Tryz.prog 23 #[t0] w K :=
  calls_of_wpX Tryz.func23 rfl rfl rfl rfl (Eq.mpr (S_foliantref55_Light_eq t0 w K) h)

/- foliantref05.Texts -/
def S_foliantref05_Texts_0 (t0 t1 t12 t13 : Value) (w : World) (N1 : List Value → World → Prop) (K : Ending → World → Prop) : Prop :=
 DoX Tryz.prog (mBin .lss 3 t13 t12) w (pk K) fun t14 w =>
 IfX t14 (QuietX w (fun C2 =>
 QDo Tryz.prog C2 (mIA 22 t0 t13) fun t18 =>
 QDo Tryz.prog C2 (mLoad 9 t18) fun t19 =>
 QDo Tryz.prog C2 (mIA 22 t1 t13) fun t22 =>
 QDo Tryz.prog C2 (mLoad 9 t22) fun t23 =>
 QDo Tryz.prog C2 (mEq .neq 9 (.tmp 19) (.tmp 23) t19 t23) fun t24 =>
 ∀ w, C2 w →
 IfX t24 (K (.returned (.bool false)) w) (DoX Tryz.prog (mBin .add 3 t13 (.int .i64 1)) w (pk K) fun t25 w =>
 N1 [t25] w))) (K (.returned (.bool true)) w)
def S_foliantref05_Texts (t0 t1 : Value) (w : World) (K : Ending → World → Prop) : Prop :=
 DoX Tryz.prog (mB .len #[22] 3 #[false] #[t0]) w (pk K) fun t7 w =>
 DoX Tryz.prog (mB .len #[22] 3 #[false] #[t1]) w (pk K) fun t9 w =>
 DoX Tryz.prog (mEq .neq 3 (.tmp 7) (.tmp 9) t7 t9) w (pk K) fun t10 w =>
 IfX t10 (K (.returned (.bool false)) w) (DoX Tryz.prog (mB .len #[22] 3 #[false] #[t0]) w (pk K) fun t12 w =>
 LoopX [(.int .i64 0)] w (fun vs1 w N1 => ∀ _ : Sg, S_foliantref05_Texts_0 t0 t1 t12 (vs1.getD 0 undef) w N1 K))
theorem S_foliantref05_Texts_eq (t0 t1 : Value) (w : World) (K : Ending → World → Prop) : wpX Tryz.prog 26 [] [(4, [13])] none (bodyOf Tryz.f36) (topQ Tryz.prog [.tmp 4] K) (startX [t0, t1]) [] w = S_foliantref05_Texts t0 t1 w K := by kernel_rfl
theorem S_foliantref05_Texts_ok {t0 t1 : Value} {w : World} {K : Ending → World → Prop} (h : S_foliantref05_Texts t0 t1 w K) : Calls Tryz.prog 36 #[t0, t1] w K :=
  calls_of_wpX Tryz.func36 rfl rfl rfl rfl (Eq.mpr (S_foliantref05_Texts_eq t0 t1 w K) h)

end Go.Proofs.YtjajlcacbbnodaaGreatDoor
/- Steps in memory; contracts: foliantref55 (Words, Uses, has, Check). -/
namespace Go.Proofs.YtjajlcacbbnodaaGreatDoor
set_option linter.unusedVariables false
set_option linter.unusedSimpArgs false
set_option linter.defProp false
open Eng Go.RowKit

def stC (x : Sc.Step) : List Value := [.int .i64 x.k, .int .i64 x.a, .int .i64 x.b, .string ⟨x.s.toArray⟩, .string ⟨x.t.toArray⟩]
def stV (x : Sc.Step) : Value := .agg (stC x).toArray
def stE (b : Nat) (x : Sc.Step) : Ent := .cells b (stC x) 43
theorem aggSt : aggN Tryz.prog 43 = some 5 := by kernel_rfl
theorem szSt : (Tryz.prog.info? 43).map (·.size) = some 5 := by kernel_rfl
theorem szInt' : (Tryz.prog.info? 3).map (·.size) = some 1 := by kernel_rfl
theorem szStr' : (Tryz.prog.info? 9).map (·.size) = some 1 := by kernel_rfl
theorem stC_one (x : Sc.Step) : ∀ v ∈ stC x, v.oneCell' = true := by
  intro v hv
  simp only [stC, List.mem_cons, List.not_mem_nil, or_false] at hv
  rcases hv with rfl | rfl | rfl | rfl | rfl <;> rfl
section
variable {w : World} {PK : List PanicEntry → World → Prop} {K : Value → World → Prop} {S : Nat → Prop} {w0 : World} {L : List Ent}
theorem fa_s0 {b : Nat} : DoX Tryz.prog (mFA 43 (.pointer (some ⟨b, 0, none⟩)) 0) w PK K = K (.pointer (some ⟨b, 0, none⟩)) w := f_addr (show fOff Tryz.prog 43 0 = some 0 by kernel_rfl)
theorem fa_s1 {b : Nat} : DoX Tryz.prog (mFA 43 (.pointer (some ⟨b, 0, none⟩)) 1) w PK K = K (.pointer (some ⟨b, 1, none⟩)) w := f_addr (show fOff Tryz.prog 43 1 = some 1 by kernel_rfl)
theorem fa_s2 {b : Nat} : DoX Tryz.prog (mFA 43 (.pointer (some ⟨b, 0, none⟩)) 2) w PK K = K (.pointer (some ⟨b, 2, none⟩)) w := f_addr (show fOff Tryz.prog 43 2 = some 2 by kernel_rfl)
theorem fa_s3 {b : Nat} : DoX Tryz.prog (mFA 43 (.pointer (some ⟨b, 0, none⟩)) 3) w PK K = K (.pointer (some ⟨b, 3, none⟩)) w := f_addr (show fOff Tryz.prog 43 3 = some 3 by kernel_rfl)
theorem fa_s4 {b : Nat} : DoX Tryz.prog (mFA 43 (.pointer (some ⟨b, 0, none⟩)) 4) w PK K = K (.pointer (some ⟨b, 4, none⟩)) w := f_addr (show fOff Tryz.prog 43 4 = some 4 by kernel_rfl)
theorem st_k (ho : OwnS S w0 w L) (i : Nat) {b : Nat} {x : Sc.Step} (hi : L[i]? = some (stE b x)) : DoX Tryz.prog (mLoad 3 (.pointer (some ⟨b, 0, none⟩))) w PK K = K (.int .i64 x.k) w := l_cell nInt (ho.cell i hi 0 rfl)
theorem st_a (ho : OwnS S w0 w L) (i : Nat) {b : Nat} {x : Sc.Step} (hi : L[i]? = some (stE b x)) : DoX Tryz.prog (mLoad 3 (.pointer (some ⟨b, 1, none⟩))) w PK K = K (.int .i64 x.a) w := l_cell nInt (ho.cell i hi 1 rfl)
theorem st_b (ho : OwnS S w0 w L) (i : Nat) {b : Nat} {x : Sc.Step} (hi : L[i]? = some (stE b x)) : DoX Tryz.prog (mLoad 3 (.pointer (some ⟨b, 2, none⟩))) w PK K = K (.int .i64 x.b) w := l_cell nInt (ho.cell i hi 2 rfl)
theorem st_s (ho : OwnS S w0 w L) (i : Nat) {b : Nat} {x : Sc.Step} (hi : L[i]? = some (stE b x)) : DoX Tryz.prog (mLoad 9 (.pointer (some ⟨b, 3, none⟩))) w PK K = K (.string ⟨x.s.toArray⟩) w := l_cell nStr (ho.cell i hi 3 rfl)
theorem st_t (ho : OwnS S w0 w L) (i : Nat) {b : Nat} {x : Sc.Step} (hi : L[i]? = some (stE b x)) : DoX Tryz.prog (mLoad 9 (.pointer (some ⟨b, 4, none⟩))) w PK K = K (.string ⟨x.t.toArray⟩) w := l_cell nStr (ho.cell i hi 4 rfl)
theorem st_v (ho : OwnS S w0 w L) (i : Nat) {b : Nat} {x : Sc.Step} (hi : L[i]? = some (stE b x)) : DoX Tryz.prog (mLoad 43 (.pointer (some ⟨b, 0, none⟩))) w PK K = K (stV x) w := l_at (ho.agg i hi aggSt)
theorem o_stb (x : Sc.Step) (ho : OwnS S w0 w L) (k : ∀ b w', OwnS S w0 w' (stE b x :: L) → K (.pointer (some ⟨b, 0, none⟩)) w') : DoX Tryz.prog (mBox 43 (stV x)) w PK K :=
  o_new (fun b => .pointer (some ⟨b, 0, none⟩)) (stC x) 43 (fun _ => by kernel_rfl) ho k
theorem o_sta (ho : OwnS S w0 w L) (k : ∀ b w', OwnS S w0 w' (stE b Sc.none' :: L) → K (.pointer (some ⟨b, 0, none⟩)) w') : DoX Tryz.prog (mAlloc 43) w PK K :=
  o_new (fun b => .pointer (some ⟨b, 0, none⟩)) (stC Sc.none') 43 (fun _ => by kernel_rfl) ho k
theorem st_set (i : Nat) {b : Nat} {x : Sc.Step} (y : Sc.Step) (ho : OwnS S w0 w L) (hi : L[i]? = some (stE b x)) (k : ∀ w', OwnS S w0 w' (L.set i (stE b y)) → K undef w') :
    DoX Tryz.prog (mStore 43 (.pointer (some ⟨b, 0, none⟩)) (stV y)) w PK K := o_put i ho hi (new := stC y) szSt (stC_one y) rfl k
theorem m_st0 : DoX Tryz.prog (mBuild 43 #[]) w PK K = K (stV Sc.none') w := do_eq (by kernel_rfl)
theorem m_stk {k : Int} : DoX Tryz.prog (mBuild 43 #[(0, .int .i64 k)]) w PK K = K (stV ⟨k, 0, 0, [], []⟩) w := do_eq (by kernel_rfl)
/-- A guarded call that leaves the world. -/
theorem g_callF {b : Bool} {f : Nat} {args : Array Value} {x : Value} (h : b = false → Ret Tryz.prog f args w (fun v w' => v = x ∧ w = w')) (k : K (sel (!b) x) w) : GDo (.bool b) false (fun E => CallX Tryz.prog f args w PK E) w K := by
  cases b with
  | false => rw [g_ff]; exact c_eq (h rfl) k
  | true => rw [g_tf]; exact k
end
abbrev StrRow (v : Value) (l : List (List UInt8)) : Ent := .row 9 1 v l.length (strsV l)
theorem rwords_ret (w : World) : Ret Tryz.prog 86 #[] w (fun v w' => Own w w' [StrRow v Sc.words]) := by
  refine ret_of fun K hK => S_foliantref55_Words_ok ?_
  unfold S_foliantref55_Words
  refine o_new (fun b => .slice (some ⟨b, 0, none⟩) 21 21) (strsV Sc.words) 9 (fun _ => by kernel_rfl) (Own.start w) fun b w1 ho => ?_
  have := ho.toRow 1 21 21 (by rfl) (by omega) (by omega)
  exact hK _ _ this
def usesR (k : Int) : List UInt8 := (Sc.uses k).getD [63]
theorem ruses_ret (k : Int) (w : World) (h0 : -9223372036854775808 ≤ k) (h1 : k ≤ 9223372036854775807) : Ret Tryz.prog 87 #[.int .i64 k] w (fun v w' => v = .string ⟨(usesR k).toArray⟩ ∧ Below w.heap.size w w') := by
  refine ret_of fun K hK => S_foliantref55_Uses_ok ?_
  unfold S_foliantref55_Uses
  refine o_new (fun b => .slice (some ⟨b, 0, none⟩) 21 21) (strsV Sc.usesL) 9 (fun _ => by kernel_rfl) (Own.start w) fun b w1 ho => ?_
  have hsl : Sl w1 (.slice (some ⟨b, 0, none⟩) 21 21) 1 Sc.usesL.length (strsV Sc.usesL) := Sl.cells (ho.at_ 0 rfl) 1 21 21 (by rfl)
  have hlen : ∀ {PK K}, DoX Tryz.prog (mB .len #[22] 3 #[false] #[.slice (some ⟨b, 0, none⟩) 21 21]) w1 PK K = K (.int .i64 21) w1 := sl_len_any Tryz.underlying22
  simp only [rs]
  by_cases g1 : k < 1
  · simp only [g1, decide_true, rs, g_un]
    exact hK _ _ ⟨by rw [usesR, Sc.uses, if_neg (by omega)]; rfl, ho.done⟩
  by_cases g2 : (21 : Int) < k
  · simp only [g1, g2, hlen, decide_true, decide_false, rs, g_un]
    exact hK _ _ ⟨by rw [usesR, Sc.uses, if_neg (by omega)]; rfl, ho.done⟩
  simp only [g1, g2, hlen, decide_false, rs]
  have hul : Sc.usesL.length = 21 := rfl
  have hi : k.toNat - 1 < Sc.usesL.length := by omega
  rw [wrap64_id (by omega) (by omega)]
  refine sl_ia1 (.string ⟨(Sc.usesL[k.toNat - 1]).toArray⟩) Tryz.underlying22 (by kernel_rfl) hsl (by omega) (by rw [show (k - 1).toNat = k.toNat - 1 by omega]; exact strsV_get hi) fun q hq => ?_
  rw [l_cell nStr hq]
  refine hK _ _ ⟨?_, ho.done⟩
  rw [usesR, Sc.uses, if_pos (by omega), List.getElem?_eq_getElem hi]; rfl
theorem rhas_ret (u : List UInt8) (c : UInt8) (n : Int) (hn : (c.toNat : Int) = n) (w : World) (hu : u.length ≤ 1099511627776) : Ret Tryz.prog 95 #[.string ⟨u.toArray⟩, .int .u8 n] w (fun v w' => v = .bool (decide (c ∈ u)) ∧ w = w') := by
  subst hn
  refine ret_of fun K hK => S_foliantref55_has_ok ?_
  unfold S_foliantref55_has
  refine loop (fun vs w' => ∃ (i : Nat), vs = [.int .i64 i] ∧ i ≤ u.length ∧ c ∉ u.take i ∧ w = w') (fun vs _ => u.length - n0 vs) ⟨0, rfl, by omega, by simp, rfl⟩ ?_
  rintro vs w2 ⟨i, rfl, hi, hm, rfl⟩ _
  simp only [S_foliantref55_has_0, gd, s_len Tryz.underlying9, rs]
  by_cases hlt : (i : Int) < (u.length : Int)
  · have hi' : i < u.length := by omega
    have hx : ∀ {PK K}, DoX Tryz.prog (mIx 9 (.string ⟨u.toArray⟩) (.int .i64 (i : Int))) w PK K = K (.int .u8 (u[i].toNat : Int)) w := s_ix (c := u[i]) Tryz.underlying9 (Int.natCast_nonneg i) (by simp [hi'])
    simp only [hlt, decide_true, rs, hx]
    by_cases he : u[i] = c
    · have : (u[i].toNat : Int) = (c.toNat : Int) := by rw [he]
      simp only [this, decide_true, rs]
      exact hK _ _ ⟨by rw [decide_eq_true (he ▸ List.getElem_mem hi')], rfl⟩
    · have : ¬ ((u[i].toNat : Int) = (c.toNat : Int)) := fun h => he (UInt8.toNat_inj.1 (by omega))
      simp only [this, decide_false, rs]
      rw [wrap64_id (by omega) (by omega)]
      refine nextX ⟨i + 1, rfl, by omega, ?_, rfl⟩ (by simp [n0, intOf]; omega)
      rw [List.take_add_one, List.getElem?_eq_getElem hi']
      simp only [Option.toList, List.mem_append, List.mem_singleton, not_or]
      exact ⟨hm, fun h => he h.symm⟩
  · simp only [hlt, decide_false, i_f]
    rw [List.take_of_length_le (by omega)] at hm
    exact hK _ _ ⟨by rw [decide_eq_false hm], rfl⟩
end Go.Proofs.YtjajlcacbbnodaaGreatDoor
/- Contracts: foliantref55 (Check). -/
namespace Go.Proofs.YtjajlcacbbnodaaGreatDoor
set_option linter.unusedVariables false
set_option linter.unusedSimpArgs false
set_option linter.defProp false
open Eng Go.RowKit
 attribute [local congr] g_congr

theorem uses_len : ∀ i : Fin 21, (Sc.usesL.getD i.val []).length ≤ 2 := by decide
theorem uses_short {k : Int} {u : List UInt8} (h : Sc.uses k = some u) : u.length ≤ 2 := by
  obtain ⟨h1, h2⟩ := Sc.uses_in h
  rw [Sc.uses_some h1 h2] at h
  obtain rfl := Option.some.inj h
  exact uses_len ⟨k.toNat - 1, by omega⟩
theorem uses_ne63 {k : Int} {u : List UInt8} (h : Sc.uses k = some u) : u ≠ [63] := by
  rintro rfl
  rcases Sc.uses_ok h 63 (by simp) with h | h | h | h <;> exact absurd h (by decide)
theorem rcheck_ret (x : Sc.Step) (w : World) (h0 : -9223372036854775808 ≤ x.k) (h1 : x.k ≤ 9223372036854775807) : Ret Tryz.prog 34 #[stV x] w (fun v w' => v = .int .i64 (Sc.check x) ∧ Below w.heap.size w w') := by
  refine ret_of fun K hK => S_foliantref55_Check_ok ?_
  unfold S_foliantref55_Check
  refine o_stb x (Own.start w) fun b w1 ho => ?_
  simp only [fa_s0, st_k ho 0 rfl]
  refine c_told (ruses_ret x.k w1 h0 h1) rfl ho fun w2 ho => ?_
  have hq : ∀ {T : TypeId} {xo yo : Operand} {w : World} {PK : List PanicEntry → World → Prop} {K : Value → World → Prop}, DoX Tryz.prog (mEq .eql T xo yo (.string ⟨(usesR x.k).toArray⟩) (.string ⟨#[63]⟩)) w PK K = K (.bool (decide (usesR x.k = [63]))) w := e_str (b := [63])
  cases hu : Sc.uses x.k with
  | none =>
    have e : usesR x.k = [63] := by rw [usesR, hu]; rfl
    simp only [hq, e, decide_true, rs, g_un]
    exact hK _ _ ⟨by rw [Sc.check, hu], ho.done⟩
  | some u =>
    have e : usesR x.k = u := by rw [usesR, hu]; rfl
    have hne := uses_ne63 hu
    have hul := uses_short hu
    rw [e] at hq ⊢
    simp only [hq, hne, decide_false, rs]
    refine c_eq (rhas_ret u 65 65 (by decide) w2 (by omega)) ?_
    simp +contextual only [rs, gs, fa_s1, st_a ho 0 rfl, n_emp]
    refine g_callF (fun _ => rhas_ret u 66 66 (by decide) w2 (by omega)) ?_
    simp +contextual only [rs, gs, fa_s2, st_b ho 0 rfl, n_emp]
    refine g_callF (fun _ => rhas_ret u 83 83 (by decide) w2 (by omega)) ?_
    simp +contextual only [rs, gs, fa_s3, st_s ho 0 rfl, n_emp]
    refine g_callF (fun _ => rhas_ret u 84 84 (by decide) w2 (by omega)) ?_
    simp +contextual only [rs, gs, fa_s4, st_t ho 0 rfl, n_emp]
    rw [i_bool]
    refine ⟨fun hB => hK _ _ ⟨?_, ho.done⟩, fun hB => ?_⟩
    · rw [Sc.check, hu]
      simp only
      rw [if_pos]
      simp at hB ⊢
      grind
    have c1 : ¬ ((65 ∉ u ∧ x.a ≠ 0) ∨ (66 ∉ u ∧ x.b ≠ 0) ∨ (83 ∉ u ∧ x.s ≠ []) ∨ (84 ∉ u ∧ x.t ≠ [])) := by
      simp at hB ⊢
      grind
    simp +contextual only [rs, gs, fa_s1, st_a ho 0 rfl, fa_s2, st_b ho 0 rfl]
    rw [i_bool]
    refine ⟨fun hB2 => hK _ _ ⟨?_, ho.done⟩, fun hB2 => ?_⟩
    · rw [Sc.check, hu]
      simp only
      rw [if_neg c1, if_pos]
      simp at hB2 ⊢
      omega
    have c2 : ¬ (x.a < 0 ∨ 2147483647 < x.a ∨ x.b < 0 ∨ 2147483647 < x.b) := by
      simp at hB2 ⊢
      omega
    simp +contextual only [rs, gs, fa_s3, st_s ho 0 rfl, fa_s4, st_t ho 0 rfl, s_len Tryz.underlying9]
    rw [i_bool]
    refine ⟨fun hB3 => hK _ _ ⟨?_, ho.done⟩, fun hB3 => hK _ _ ⟨?_, ho.done⟩⟩
    · rw [Sc.check, hu]
      simp only
      rw [if_neg c1, if_neg c2, if_pos]
      simp at hB3 ⊢
      omega
    · rw [Sc.check, hu]
      simp only
      rw [if_neg c1, if_neg c2, if_neg]
      simp at hB3 ⊢
      omega
end Go.Proofs.YtjajlcacbbnodaaGreatDoor
/- Code in continuation form, by program (gen.py): 16 functions. -/
namespace Go.Proofs.YtjajlcacbbnodaaGreatDoor
set_option linter.unusedVariables false
set_option linter.unusedSimpArgs false
set_option linter.defProp false
set_option linter.unusedVariables false
set_option maxRecDepth 20000
open Eng

/- script.uses -/
def S_script_uses_3 (t0 t4 t19 : Value) (w : World) (K : Ending → World → Prop) : Prop :=
 IfX t19 (K (.returned (.tuple #[(.string ⟨#[65, 66]⟩), (.bool true)])) w) (DoX Tryz.prog (mEq .eql 3 (.tmp 4) (.const (.int .i64 8)) t4 (.int .i64 8)) w (pk K) fun t23 w =>
 IfX t23 (K (.returned (.tuple #[(.string ⟨#[83, 65]⟩), (.bool true)])) w) (DoX Tryz.prog (mEq .eql 3 (.tmp 4) (.const (.int .i64 9)) t4 (.int .i64 9)) w (pk K) fun t25 w =>
 IfX t25 (K (.returned (.tuple #[(.string ⟨#[83, 84]⟩), (.bool true)])) w) (DoX Tryz.prog (mBin .geq 3 t0 (.int .i64 1)) w (pk K) fun t27 w =>
 GDo t27 true (fun E => E t0 w) w fun t29 w =>
 GDo t27 true (fun E => DoX Tryz.prog (mBin .leq 3 t29 (.int .i64 21)) w (pk K) E) w fun t30 w =>
 DoX Tryz.prog (mPick t27 t30 (.bool false)) w (pk K) fun t31 w =>
 K (.returned (.tuple #[(.string ⟨#[]⟩), t31])) w)))
def S_script_uses_2 (t0 t4 t16 : Value) (w : World) (K : Ending → World → Prop) : Prop :=
 IfX t16 (K (.returned (.tuple #[(.string ⟨#[65, 83]⟩), (.bool true)])) w) (JoinX (fun J4 =>
 DoX Tryz.prog (mEq .eql 3 (.tmp 4) (.const (.int .i64 7)) t4 (.int .i64 7)) w (pk K) fun t20 w =>
 IfX t20 (J4 [t20] w) (DoX Tryz.prog (mEq .eql 3 (.tmp 4) (.const (.int .i64 18)) t4 (.int .i64 18)) w (pk K) fun t21 w =>
 J4 [t21] w)) (fun vs4 w => ∀ _ : Sg, S_script_uses_3 t0 t4 (vs4.getD 0 undef) w K))
def S_script_uses_1 (t0 t4 t8 : Value) (w : World) (K : Ending → World → Prop) : Prop :=
 IfX t8 (K (.returned (.tuple #[(.string ⟨#[65]⟩), (.bool true)])) w) (JoinX (fun J3 =>
 DoX Tryz.prog (mEq .eql 3 (.tmp 4) (.const (.int .i64 3)) t4 (.int .i64 3)) w (pk K) fun t17 w =>
 IfX t17 (J3 [t17] w) (DoX Tryz.prog (mEq .eql 3 (.tmp 4) (.const (.int .i64 5)) t4 (.int .i64 5)) w (pk K) fun t18 w =>
 J3 [t18] w)) (fun vs3 w => ∀ _ : Sg, S_script_uses_2 t0 t4 (vs3.getD 0 undef) w K))
def S_script_uses_0 (t0 t4 t5 : Value) (w : World) (K : Ending → World → Prop) : Prop :=
 IfX t5 (K (.returned (.tuple #[(.string ⟨#[83]⟩), (.bool true)])) w) (JoinX (fun J2 =>
 DoX Tryz.prog (mEq .eql 3 (.tmp 4) (.const (.int .i64 2)) t4 (.int .i64 2)) w (pk K) fun t9 w =>
 IfX t9 (J2 [t9] w) (DoX Tryz.prog (mEq .eql 3 (.tmp 4) (.const (.int .i64 4)) t4 (.int .i64 4)) w (pk K) fun t10 w =>
 IfX t10 (J2 [t10] w) (DoX Tryz.prog (mEq .eql 3 (.tmp 4) (.const (.int .i64 6)) t4 (.int .i64 6)) w (pk K) fun t11 w =>
 IfX t11 (J2 [t11] w) (DoX Tryz.prog (mEq .eql 3 (.tmp 4) (.const (.int .i64 11)) t4 (.int .i64 11)) w (pk K) fun t12 w =>
 IfX t12 (J2 [t12] w) (DoX Tryz.prog (mEq .eql 3 (.tmp 4) (.const (.int .i64 13)) t4 (.int .i64 13)) w (pk K) fun t13 w =>
 IfX t13 (J2 [t13] w) (DoX Tryz.prog (mEq .eql 3 (.tmp 4) (.const (.int .i64 16)) t4 (.int .i64 16)) w (pk K) fun t14 w =>
 IfX t14 (J2 [t14] w) (DoX Tryz.prog (mEq .eql 3 (.tmp 4) (.const (.int .i64 21)) t4 (.int .i64 21)) w (pk K) fun t15 w =>
 J2 [t15] w))))))) (fun vs2 w => ∀ _ : Sg, S_script_uses_1 t0 t4 (vs2.getD 0 undef) w K))
def S_script_uses (t0 : Value) (w : World) (K : Ending → World → Prop) : Prop :=
 JoinX (fun J1 =>
 DoX Tryz.prog (mEq .eql 3 (.tmp 4) (.const (.int .i64 1)) t0 (.int .i64 1)) w (pk K) fun t6 w =>
 IfX t6 (J1 [t6] w) (DoX Tryz.prog (mEq .eql 3 (.tmp 4) (.const (.int .i64 14)) t0 (.int .i64 14)) w (pk K) fun t7 w =>
 J1 [t7] w)) (fun vs1 w => ∀ _ : Sg, S_script_uses_0 t0 t0 (vs1.getD 0 undef) w K)
theorem S_script_uses_eq (t0 : Value) (w : World) (K : Ending → World → Prop) : wpX Tryz.prog 32 [(4, [5]), (12, [8]), (15, [16]), (18, [19])] [] none (bodyOf Tryz.f77) (topQ Tryz.prog [.tmp 2, .tmp 3] K) (startX [t0]) [] w = S_script_uses t0 w K := by kernel_rfl
theorem S_script_uses_ok {t0 : Value} {w : World} {K : Ending → World → Prop} (h : S_script_uses t0 w K) : Calls Tryz.prog 77 #[t0] w K :=
  calls_of_wpX Tryz.func77 rfl rfl rfl rfl (Eq.mpr (S_script_uses_eq t0 w K) h)

/- script.word -/
def S_script_word (t0 : Value) (w : World) (K : Ending → World → Prop) : Prop :=
 CallX Tryz.prog 151 #[(.string ⟨#[111, 112, 101, 110, 32, 110, 101, 119, 32, 112, 117, 116, 32, 100, 114, 111, 112, 32, 105, 110, 115, 101, 114, 116, 32, 114, 101, 109, 111, 118, 101, 32, 109, 111, 118, 101, 32, 110, 97, 109, 101, 32, 102, 105, 108, 108, 32, 99, 108, 101, 97, 110, 32, 115, 97, 118, 101, 32, 114, 101, 111, 112, 101, 110, 32, 116, 101, 120, 116, 32, 102, 105, 110, 100, 32, 99, 111, 117, 110, 116, 32, 111, 98, 106, 101, 99, 116, 32, 97, 117, 100, 105, 116, 32, 115, 112, 111, 105, 108, 32, 111, 117, 116, 108, 105, 110, 101, 32, 102, 105, 101, 108, 100, 115, 32, 99, 111, 110, 116, 101, 110, 116, 115]⟩)] w (pk K) fun t3 w =>
 DoX Tryz.prog (mBin .sub 3 t0 (.int .i64 1)) w (pk K) fun t5 w =>
 DoX Tryz.prog (mIA 22 t3 t5) w (pk K) fun t6 w =>
 DoX Tryz.prog (mLoad 9 t6) w (pk K) fun t7 w =>
 K (.returned t7) w
theorem S_script_word_eq (t0 : Value) (w : World) (K : Ending → World → Prop) : wpX Tryz.prog 8 [] [] none (bodyOf Tryz.f78) (topQ Tryz.prog [.tmp 2] K) (startX [t0]) [] w = S_script_word t0 w K := by kernel_rfl
theorem S_script_word_ok {t0 : Value} {w : World} {K : Ending → World → Prop} (h : S_script_word t0 w K) : Calls Tryz.prog 78 #[t0] w K :=
  calls_of_wpX Tryz.func78 rfl rfl rfl rfl (Eq.mpr (S_script_word_eq t0 w K) h)

/- script.kind -/
def S_script_kind (t0 : Value) (w : World) (K : Ending → World → Prop) : Prop :=
 CallX Tryz.prog 151 #[(.string ⟨#[111, 112, 101, 110, 32, 110, 101, 119, 32, 112, 117, 116, 32, 100, 114, 111, 112, 32, 105, 110, 115, 101, 114, 116, 32, 114, 101, 109, 111, 118, 101, 32, 109, 111, 118, 101, 32, 110, 97, 109, 101, 32, 102, 105, 108, 108, 32, 99, 108, 101, 97, 110, 32, 115, 97, 118, 101, 32, 114, 101, 111, 112, 101, 110, 32, 116, 101, 120, 116, 32, 102, 105, 110, 100, 32, 99, 111, 117, 110, 116, 32, 111, 98, 106, 101, 99, 116, 32, 97, 117, 100, 105, 116, 32, 115, 112, 111, 105, 108, 32, 111, 117, 116, 108, 105, 110, 101, 32, 102, 105, 101, 108, 100, 115, 32, 99, 111, 110, 116, 101, 110, 116, 115]⟩)] w (pk K) fun t5 w =>
 CallX Tryz.prog 157 #[t5, t0] w (pk K) fun t7 w =>
 DoX Tryz.prog (mBin .add 3 t7 (.int .i64 1)) w (pk K) fun t9 w =>
 DoX Tryz.prog (mBin .geq 3 t7 (.int .i64 0)) w (pk K) fun t11 w =>
 K (.returned (.tuple #[t9, t11])) w
theorem S_script_kind_eq (t0 : Value) (w : World) (K : Ending → World → Prop) : wpX Tryz.prog 12 [] [] none (bodyOf Tryz.f83) (topQ Tryz.prog [.tmp 2, .tmp 3] K) (startX [t0]) [] w = S_script_kind t0 w K := by kernel_rfl
theorem S_script_kind_ok {t0 : Value} {w : World} {K : Ending → World → Prop} (h : S_script_kind t0 w K) : Calls Tryz.prog 83 #[t0] w K :=
  calls_of_wpX Tryz.func83 rfl rfl rfl rfl (Eq.mpr (S_script_kind_eq t0 w K) h)

/- script.within -/
def S_script_within (t0 : Value) (w : World) (K : Ending → World → Prop) : Prop :=
 DoX Tryz.prog (mBin .geq 3 t0 (.int .i64 0)) w (pk K) fun t4 w =>
 GDo t4 true (fun E => E t0 w) w fun t6 w =>
 GDo t4 true (fun E => DoX Tryz.prog (mBin .leq 3 t6 (.int .i64 2147483647)) w (pk K) E) w fun t7 w =>
 DoX Tryz.prog (mPick t4 t7 (.bool false)) w (pk K) fun t8 w =>
 K (.returned t8) w
theorem S_script_within_eq (t0 : Value) (w : World) (K : Ending → World → Prop) : wpX Tryz.prog 9 [] [] none (bodyOf Tryz.f94) (topQ Tryz.prog [.tmp 2] K) (startX [t0]) [] w = S_script_within t0 w K := by kernel_rfl
theorem S_script_within_ok {t0 : Value} {w : World} {K : Ending → World → Prop} (h : S_script_within t0 w K) : Calls Tryz.prog 94 #[t0] w K :=
  calls_of_wpX Tryz.func94 rfl rfl rfl rfl (Eq.mpr (S_script_within_eq t0 w K) h)

/- script.Check$1 -/
def S_script_Check_fn1 (t0 t1 : Value) (w : World) (K : Ending → World → Prop) : Prop :=
 DoX Tryz.prog (mLoad 9 t1) w (pk K) fun t4 w =>
 CallX Tryz.prog 93 #[t4, t0] w (pk K) fun t6 w =>
 K (.returned t6) w
theorem S_script_Check_fn1_eq (t0 t1 : Value) (w : World) (K : Ending → World → Prop) : wpX Tryz.prog 7 [] [] none (bodyOf Tryz.f92) (topQ Tryz.prog [.tmp 3] K) (startX [t0, t1]) [] w = S_script_Check_fn1 t0 t1 w K := by kernel_rfl
theorem S_script_Check_fn1_ok {t0 t1 : Value} {w : World} {K : Ending → World → Prop} (h : S_script_Check_fn1 t0 t1 w K) : Calls Tryz.prog 92 #[t0, t1] w K :=
  calls_of_wpX Tryz.func92 rfl rfl rfl rfl (Eq.mpr (S_script_Check_fn1_eq t0 t1 w K) h)

/- script.Check -/
def S_script_Check_2 (t57 : Value) (w : World) (K : Ending → World → Prop) : Prop :=
 IfX t57 (K (.returned (.int .i64 5)) w) (K (.returned (.int .i64 0)) w)
def S_script_Check_1 (t1 t48 : Value) (w : World) (K : Ending → World → Prop) : Prop :=
 IfX t48 (K (.returned (.int .i64 2)) w) (JoinX (fun J3 =>
 DoX Tryz.prog (mFA 43 t1 3) w (pk K) fun t58 w =>
 DoX Tryz.prog (mLoad 9 t58) w (pk K) fun t59 w =>
 DoX Tryz.prog (mB .len #[9] 3 #[false] #[t59]) w (pk K) fun t60 w =>
 DoX Tryz.prog (mBin .gtr 3 t60 (.int .i64 32767)) w (pk K) fun t61 w =>
 IfX t61 (J3 [t61] w) (DoX Tryz.prog (mFA 43 t1 4) w (pk K) fun t62 w =>
 DoX Tryz.prog (mLoad 9 t62) w (pk K) fun t63 w =>
 DoX Tryz.prog (mB .len #[9] 3 #[false] #[t63]) w (pk K) fun t64 w =>
 DoX Tryz.prog (mBin .gtr 3 t64 (.int .i64 32767)) w (pk K) fun t65 w =>
 J3 [t65] w)) (fun vs3 w => ∀ _ : Sg, S_script_Check_2 (vs3.getD 0 undef) w K))
def S_script_Check_0 (t1 t13 : Value) (w : World) (K : Ending → World → Prop) : Prop :=
 IfX t13 (K (.returned (.int .i64 10)) w) (JoinX (fun J2 =>
 DoX Tryz.prog (mFA 43 t1 1) w (pk K) fun t49 w =>
 DoX Tryz.prog (mLoad 3 t49) w (pk K) fun t50 w =>
 CallX Tryz.prog 94 #[t50] w (pk K) fun t51 w =>
 DoX Tryz.prog (mUn .not t51) w (pk K) fun t52 w =>
 IfX t52 (J2 [t52] w) (DoX Tryz.prog (mFA 43 t1 2) w (pk K) fun t53 w =>
 DoX Tryz.prog (mLoad 3 t53) w (pk K) fun t54 w =>
 CallX Tryz.prog 94 #[t54] w (pk K) fun t55 w =>
 DoX Tryz.prog (mUn .not t55) w (pk K) fun t56 w =>
 J2 [t56] w)) (fun vs2 w => ∀ _ : Sg, S_script_Check_1 t1 (vs2.getD 0 undef) w K))
def S_script_Check (t0 : Value) (w : World) (K : Ending → World → Prop) : Prop :=
 DoX Tryz.prog (mBox 43 t0) w (pk K) fun t1 w =>
 DoX Tryz.prog (mFA 43 t1 0) w (pk K) fun t7 w =>
 DoX Tryz.prog (mLoad 3 t7) w (pk K) fun t8 w =>
 CallX Tryz.prog 77 #[t8] w (pk K) fun t9 w =>
 DoX Tryz.prog (mExt t9 0) w (pk K) fun t10 w =>
 DoX Tryz.prog (mExt t9 1) w (pk K) fun t11 w =>
 DoX Tryz.prog (mAlloc 9) w (pk K) fun t3 w =>
 DoX Tryz.prog (mStore 9 t3 t10) w (pk K) fun _ w =>
 DoX Tryz.prog (mFunc (.func 92) #[] #[t3]) w (pk K) fun t12 w =>
 JoinX (fun J1 =>
 DoX Tryz.prog (mUn .not t11) w (pk K) fun t15 w =>
 IfX t15 (J1 [t15] w) (DoX Tryz.prog (mCallV t12 #[(.string ⟨#[65]⟩)]) w (pk K) fun t17 w =>
 DoX Tryz.prog (mUn .not t17) w (pk K) fun t18 w =>
 GDo t18 true (fun E => DoX Tryz.prog (mFA 43 t1 1) w (pk K) E) w fun t20 w =>
 GDo t18 true (fun E => DoX Tryz.prog (mLoad 3 t20) w (pk K) E) w fun t21 w =>
 GDo t18 true (fun E => DoX Tryz.prog (mEq .neq 3 (.tmp 21) (.const (.int .i64 0)) t21 (.int .i64 0)) w (pk K) E) w fun t22 w =>
 DoX Tryz.prog (mPick t18 t22 (.bool false)) w (pk K) fun t23 w =>
 IfX t23 (J1 [t23] w) (DoX Tryz.prog (mCallV t12 #[(.string ⟨#[66]⟩)]) w (pk K) fun t25 w =>
 DoX Tryz.prog (mUn .not t25) w (pk K) fun t26 w =>
 GDo t26 true (fun E => DoX Tryz.prog (mFA 43 t1 2) w (pk K) E) w fun t28 w =>
 GDo t26 true (fun E => DoX Tryz.prog (mLoad 3 t28) w (pk K) E) w fun t29 w =>
 GDo t26 true (fun E => DoX Tryz.prog (mEq .neq 3 (.tmp 29) (.const (.int .i64 0)) t29 (.int .i64 0)) w (pk K) E) w fun t30 w =>
 DoX Tryz.prog (mPick t26 t30 (.bool false)) w (pk K) fun t31 w =>
 IfX t31 (J1 [t31] w) (DoX Tryz.prog (mCallV t12 #[(.string ⟨#[83]⟩)]) w (pk K) fun t33 w =>
 DoX Tryz.prog (mUn .not t33) w (pk K) fun t34 w =>
 GDo t34 true (fun E => DoX Tryz.prog (mFA 43 t1 3) w (pk K) E) w fun t36 w =>
 GDo t34 true (fun E => DoX Tryz.prog (mLoad 9 t36) w (pk K) E) w fun t37 w =>
 GDo t34 true (fun E => DoX Tryz.prog (mEq .neq 9 (.tmp 37) (.const (.string ⟨#[]⟩)) t37 (.string ⟨#[]⟩)) w (pk K) E) w fun t38 w =>
 DoX Tryz.prog (mPick t34 t38 (.bool false)) w (pk K) fun t39 w =>
 IfX t39 (J1 [t39] w) (DoX Tryz.prog (mCallV t12 #[(.string ⟨#[84]⟩)]) w (pk K) fun t41 w =>
 DoX Tryz.prog (mUn .not t41) w (pk K) fun t42 w =>
 GDo t42 true (fun E => DoX Tryz.prog (mFA 43 t1 4) w (pk K) E) w fun t44 w =>
 GDo t42 true (fun E => DoX Tryz.prog (mLoad 9 t44) w (pk K) E) w fun t45 w =>
 GDo t42 true (fun E => DoX Tryz.prog (mEq .neq 9 (.tmp 45) (.const (.string ⟨#[]⟩)) t45 (.string ⟨#[]⟩)) w (pk K) E) w fun t46 w =>
 DoX Tryz.prog (mPick t42 t46 (.bool false)) w (pk K) fun t47 w =>
 J1 [t47] w))))) (fun vs1 w => ∀ _ : Sg, S_script_Check_0 t1 (vs1.getD 0 undef) w K)
theorem S_script_Check_eq (t0 : Value) (w : World) (K : Ending → World → Prop) : wpX Tryz.prog 66 [(8, [13]), (11, [48]), (14, [57])] [] none (bodyOf Tryz.f33) (topQ Tryz.prog [.tmp 2] K) (startX [t0]) [] w = S_script_Check t0 w K := by kernel_rfl
theorem S_script_Check_ok {t0 : Value} {w : World} {K : Ending → World → Prop} (h : S_script_Check t0 w K) : Calls Tryz.prog 33 #[t0] w K :=
  calls_of_wpX Tryz.func33 rfl rfl rfl rfl (Eq.mpr (S_script_Check_eq t0 w K) h)

/- script.Line -/
def S_script_Line_1 (t7 t10 : Value) (w : World) (N1 : List Value → World → Prop) (K : Ending → World → Prop) : Prop :=
 DoX Tryz.prog (mBin .add 9 (.string ⟨#[32]⟩) t10) w (pk K) fun t59 w =>
 DoX Tryz.prog (mBin .add 9 t7 t59) w (pk K) fun t60 w =>
 N1 [t60] w
def S_script_Line_0 (t1 t7 t26 : Value) (w : World) (N1 : List Value → World → Prop) (K : Ending → World → Prop) : Prop :=
 DoX Tryz.prog (mNext t26 true 0) w (pk K) fun t27 w =>
 DoX Tryz.prog (mExt t27 0) w (pk K) fun t28 w =>
 IfX t28 (DoX Tryz.prog (mExt t27 2) w (pk K) fun t29 w =>
 JoinX (fun J2 =>
 DoX Tryz.prog (mEq .eql 21 (.tmp 30) (.const (.int .i32 65)) t29 (.int .i32 65)) w (pk K) fun t32 w =>
 IfX t32 (DoX Tryz.prog (mFA 43 t1 1) w (pk K) fun t33 w =>
 DoX Tryz.prog (mLoad 3 t33) w (pk K) fun t34 w =>
 CallX Tryz.prog 79 #[t34] w (pk K) fun t35 w =>
 J2 [t35] w) (DoX Tryz.prog (mEq .eql 21 (.tmp 30) (.const (.int .i32 66)) t29 (.int .i32 66)) w (pk K) fun t37 w =>
 IfX t37 (DoX Tryz.prog (mFA 43 t1 2) w (pk K) fun t38 w =>
 DoX Tryz.prog (mLoad 3 t38) w (pk K) fun t39 w =>
 CallX Tryz.prog 79 #[t39] w (pk K) fun t40 w =>
 J2 [t40] w) (DoX Tryz.prog (mEq .eql 21 (.tmp 30) (.const (.int .i32 83)) t29 (.int .i32 83)) w (pk K) fun t42 w =>
 IfX t42 (DoX Tryz.prog (mFA 43 t1 3) w (pk K) fun t44 w =>
 DoX Tryz.prog (mLoad 9 t44) w (pk K) fun t45 w =>
 CallX Tryz.prog 80 #[t45] w (pk K) fun t46 w =>
 DoX Tryz.prog (mExt t46 0) w (pk K) fun t47 w =>
 DoX Tryz.prog (mExt t46 1) w (pk K) fun t48 w =>
 J2 [t47] w) (DoX Tryz.prog (mEq .eql 21 (.tmp 30) (.const (.int .i32 84)) t29 (.int .i32 84)) w (pk K) fun t50 w =>
 IfX t50 (DoX Tryz.prog (mFA 43 t1 4) w (pk K) fun t52 w =>
 DoX Tryz.prog (mLoad 9 t52) w (pk K) fun t53 w =>
 CallX Tryz.prog 80 #[t53] w (pk K) fun t54 w =>
 DoX Tryz.prog (mExt t54 0) w (pk K) fun t55 w =>
 DoX Tryz.prog (mExt t54 1) w (pk K) fun t56 w =>
 J2 [t55] w) (J2 [(.string ⟨#[]⟩)] w))))) (fun vs2 w => ∀ _ : Sg, S_script_Line_1 t7 (vs2.getD 0 undef) w N1 K)) (DoX Tryz.prog (mB .len #[9] 3 #[false] #[t7]) w (pk K) fun t62 w =>
 DoX Tryz.prog (mBin .gtr 3 t62 (.int .i64 65535)) w (pk K) fun t63 w =>
 IfX t63 (K (.returned (.tuple #[(.string ⟨#[]⟩), (.int .i64 5)])) w) (K (.returned (.tuple #[t7, (.int .i64 0)])) w))
def S_script_Line (t0 : Value) (w : World) (K : Ending → World → Prop) : Prop :=
 DoX Tryz.prog (mBox 43 t0) w (pk K) fun t1 w =>
 DoX Tryz.prog (mLoad 43 t1) w (pk K) fun t11 w =>
 CallX Tryz.prog 33 #[t11] w (pk K) fun t12 w =>
 DoX Tryz.prog (mEq .neq 28 (.tmp 13) (.const (.int .i64 0)) t12 (.int .i64 0)) w (pk K) fun t14 w =>
 IfX t14 (K (.returned (.tuple #[(.string ⟨#[]⟩), t12])) w) (DoX Tryz.prog (mFA 43 t1 0) w (pk K) fun t17 w =>
 DoX Tryz.prog (mLoad 3 t17) w (pk K) fun t18 w =>
 CallX Tryz.prog 77 #[t18] w (pk K) fun t19 w =>
 DoX Tryz.prog (mExt t19 0) w (pk K) fun t20 w =>
 DoX Tryz.prog (mExt t19 1) w (pk K) fun t21 w =>
 DoX Tryz.prog (mFA 43 t1 0) w (pk K) fun t22 w =>
 DoX Tryz.prog (mLoad 3 t22) w (pk K) fun t23 w =>
 CallX Tryz.prog 78 #[t23] w (pk K) fun t24 w =>
 DoX Tryz.prog (mRange 9 t20) w (pk K) fun t26 w =>
 LoopX [t24] w (fun vs1 w N1 => ∀ _ : Sg, S_script_Line_0 t1 (vs1.getD 0 undef) t26 w N1 K))
theorem S_script_Line_eq (t0 : Value) (w : World) (K : Ending → World → Prop) : wpX Tryz.prog 65 [(19, [10])] [(7, [7])] none (bodyOf Tryz.f25) (topQ Tryz.prog [.tmp 2, .tmp 3] K) (startX [t0]) [] w = S_script_Line t0 w K := by kernel_rfl
theorem S_script_Line_ok {t0 : Value} {w : World} {K : Ending → World → Prop} (h : S_script_Line t0 w K) : Calls Tryz.prog 25 #[t0] w K :=
  calls_of_wpX Tryz.func25 rfl rfl rfl rfl (Eq.mpr (S_script_Line_eq t0 w K) h)

/- script.taken -/
def S_script_taken_1 (t3 t5 t6 t8 : Value) (w : World) (K : Ending → World → Prop) : Prop :=
 HeldX w (fun S3 w =>
 HDo Tryz.prog S3 (mLoad 43 t3) fun t36 =>
 HDo Tryz.prog S3 (mFA 41 t5 0) fun t37 =>
 HDo Tryz.prog S3 (mLoad 3 t37) fun t38 =>
 HDo Tryz.prog S3 (mEq .eql 3 (.tmp 38) (.tmp 39) t38 t8) fun t40 =>
 DoX Tryz.prog (mStore 43 t6 t36) w (pm1 (pm1 (pm1 (pm1 (pm1 (pm1 (pk K))))))) fun _ w =>
 S3 w ∧ (RetX Tryz.prog [.cell t6 43, .val t40] w K))
def S_script_taken_0 (t1 t3 t5 t6 t8 : Value) (w : World) (K : Ending → World → Prop) : Prop :=
 JoinX (fun J2 =>
 DoX Tryz.prog (mEq .eql 21 (.tmp 15) (.const (.int .i32 65)) t1 (.int .i32 65)) w (pk K) fun t17 w =>
 IfX t17 (DoX Tryz.prog (mFA 41 t5 3) w (pk K) fun t18 w =>
 DoX Tryz.prog (mLoad 2 t18) w (pk K) fun t19 w =>
 DoX Tryz.prog (mFA 43 t3 1) w (pk K) fun t20 w =>
 DoX Tryz.prog (mStore 3 t20 t19) w (pk K) fun _ w =>
 J2 [] w) (DoX Tryz.prog (mEq .eql 21 (.tmp 15) (.const (.int .i32 66)) t1 (.int .i32 66)) w (pk K) fun t22 w =>
 IfX t22 (DoX Tryz.prog (mFA 41 t5 3) w (pk K) fun t23 w =>
 DoX Tryz.prog (mLoad 2 t23) w (pk K) fun t24 w =>
 DoX Tryz.prog (mFA 43 t3 2) w (pk K) fun t25 w =>
 DoX Tryz.prog (mStore 3 t25 t24) w (pk K) fun _ w =>
 J2 [] w) (DoX Tryz.prog (mEq .eql 21 (.tmp 15) (.const (.int .i32 83)) t1 (.int .i32 83)) w (pk K) fun t27 w =>
 IfX t27 (DoX Tryz.prog (mFA 41 t5 4) w (pk K) fun t28 w =>
 DoX Tryz.prog (mLoad 9 t28) w (pk K) fun t29 w =>
 DoX Tryz.prog (mFA 43 t3 3) w (pk K) fun t30 w =>
 DoX Tryz.prog (mStore 9 t30 t29) w (pk K) fun _ w =>
 J2 [] w) (DoX Tryz.prog (mEq .eql 21 (.tmp 15) (.const (.int .i32 84)) t1 (.int .i32 84)) w (pk K) fun t32 w =>
 IfX t32 (DoX Tryz.prog (mFA 41 t5 4) w (pk K) fun t33 w =>
 DoX Tryz.prog (mLoad 9 t33) w (pk K) fun t34 w =>
 DoX Tryz.prog (mFA 43 t3 4) w (pk K) fun t35 w =>
 DoX Tryz.prog (mStore 9 t35 t34) w (pk K) fun _ w =>
 J2 [] w) (J2 [] w))))) (fun vs2 w => ∀ _ : Sg, S_script_taken_1 t3 t5 t6 t8 w K)
def S_script_taken (t0 t1 t2 : Value) (w : World) (K : Ending → World → Prop) : Prop :=
 DoX Tryz.prog (mBox 43 t0) w (pk K) fun t3 w =>
 DoX Tryz.prog (mBox 41 t2) w (pk K) fun t5 w =>
 DoX Tryz.prog (mAlloc 43) w (pk K) fun t6 w =>
 JoinX (fun J1 =>
 DoX Tryz.prog (mEq .eql 21 (.tmp 9) (.const (.int .i32 65)) t1 (.int .i32 65)) w (pk K) fun t10 w =>
 GDo t10 false (fun E => E t1 w) w fun t12 w =>
 GDo t10 false (fun E => DoX Tryz.prog (mEq .eql 21 (.tmp 12) (.const (.int .i32 66)) t12 (.int .i32 66)) w (pk K) E) w fun t13 w =>
 DoX Tryz.prog (mPick t10 (.bool true) t13) w (pk K) fun t14 w =>
 IfX t14 (J1 [(.int .i64 1)] w) (J1 [(.int .i64 3)] w)) (fun vs1 w => ∀ _ : Sg, S_script_taken_0 t1 t3 t5 t6 (vs1.getD 0 undef) w K)
theorem S_script_taken_eq (t0 t1 t2 : Value) (w : World) (K : Ending → World → Prop) : wpX Tryz.prog 41 [(4, [8]), (13, [])] [] none (bodyOf Tryz.f85) (topQ Tryz.prog [.cell 6 43, .tmp 7] K) (startX [t0, t1, t2]) [] w = S_script_taken t0 t1 t2 w K := by kernel_rfl
theorem S_script_taken_ok {t0 t1 t2 : Value} {w : World} {K : Ending → World → Prop} (h : S_script_taken t0 t1 t2 w K) : Calls Tryz.prog 85 #[t0, t1, t2] w K :=
  calls_of_wpX Tryz.func85 rfl rfl rfl rfl (Eq.mpr (S_script_taken_eq t0 t1 t2 w K) h)

/- script.Parse -/
def S_script_Parse_0 (t0 t2 t3 t9 t12 t47 : Value) (w : World) (N1 : List Value → World → Prop) (K : Ending → World → Prop) : Prop :=
 DoX Tryz.prog (mNext t47 true 0) w (pk K) fun t48 w =>
 DoX Tryz.prog (mExt t48 0) w (pk K) fun t49 w =>
 IfX t49 (DoX Tryz.prog (mExt t48 2) w (pk K) fun t50 w =>
 CallX Tryz.prog 84 #[t0, t12] w (pk K) fun t54 w =>
 DoX Tryz.prog (mExt t54 0) w (pk K) fun t55 w =>
 DoX Tryz.prog (mExt t54 1) w (pk K) fun t56 w =>
 DoX Tryz.prog (mAlloc 41) w (pk K) fun t15 w =>
 DoX Tryz.prog (mStore 41 t15 t55) w (pk K) fun _ w =>
 DoX Tryz.prog (mEq .neq 28 (.tmp 57) (.const (.int .i64 0)) t56 (.int .i64 0)) w (pk K) fun t58 w =>
 IfX t58 (DoX Tryz.prog (mBuild 43 #[]) w (pk K) fun t59 w =>
 DoX Tryz.prog (mStore 43 t2 t59) w (pk K) fun _ w =>
 RetX Tryz.prog [.cell t2 43, .val (.int .i64 33)] w K) (DoX Tryz.prog (mLoad 43 t9) w (pk K) fun t61 w =>
 DoX Tryz.prog (mLoad 41 t15) w (pk K) fun t63 w =>
 CallX Tryz.prog 85 #[t61, t50, t63] w (pk K) fun t64 w =>
 DoX Tryz.prog (mExt t64 0) w (pk K) fun t65 w =>
 DoX Tryz.prog (mExt t64 1) w (pk K) fun t66 w =>
 DoX Tryz.prog (mStore 43 t9 t65) w (pk K) fun _ w =>
 DoX Tryz.prog (mUn .not t66) w (pk K) fun t68 w =>
 IfX t68 (DoX Tryz.prog (mBuild 43 #[]) w (pk K) fun t69 w =>
 DoX Tryz.prog (mStore 43 t2 t69) w (pk K) fun _ w =>
 RetX Tryz.prog [.cell t2 43, .val (.int .i64 33)] w K) (DoX Tryz.prog (mFA 41 t15 2) w (pk K) fun t70 w =>
 DoX Tryz.prog (mLoad 3 t70) w (pk K) fun t71 w =>
 N1 [t3, t71] w))) (DoX Tryz.prog (mLoad 43 t9) w (pk K) fun t73 w =>
 CallX Tryz.prog 25 #[t73] w (pk K) fun t74 w =>
 DoX Tryz.prog (mExt t74 0) w (pk K) fun t75 w =>
 DoX Tryz.prog (mExt t74 1) w (pk K) fun t76 w =>
 DoX Tryz.prog (mEq .neq 28 (.tmp 77) (.const (.int .i64 0)) t76 (.int .i64 0)) w (pk K) fun t78 w =>
 GDo t78 false (fun E => E t75 w) w fun t80 w =>
 GDo t78 false (fun E => E t0 w) w fun t81 w =>
 GDo t78 false (fun E => DoX Tryz.prog (mEq .neq 9 (.tmp 80) (.tmp 81) t80 t81) w (pk K) E) w fun t82 w =>
 DoX Tryz.prog (mPick t78 (.bool true) t82) w (pk K) fun t83 w =>
 IfX t83 (DoX Tryz.prog (mBuild 43 #[]) w (pk K) fun t84 w =>
 DoX Tryz.prog (mStore 43 t2 t84) w (pk K) fun _ w =>
 RetX Tryz.prog [.cell t2 43, .val (.int .i64 33)] w K) (DoX Tryz.prog (mLoad 43 t9) w (pk K) fun t85 w =>
 DoX Tryz.prog (mStore 43 t2 t85) w (pk K) fun _ w =>
 RetX Tryz.prog [.cell t2 43, .val (.int .i64 0)] w K))
def S_script_Parse (t0 : Value) (w : World) (K : Ending → World → Prop) : Prop :=
 DoX Tryz.prog (mAlloc 43) w (pk K) fun t2 w =>
 DoX Tryz.prog (mB .len #[9] 3 #[false] #[t0]) w (pk K) fun t20 w =>
 DoX Tryz.prog (mBin .gtr 3 t20 (.int .i64 65535)) w (pk K) fun t21 w =>
 IfX t21 (DoX Tryz.prog (mBuild 43 #[]) w (pk K) fun t22 w =>
 DoX Tryz.prog (mStore 43 t2 t22) w (pk K) fun _ w =>
 RetX Tryz.prog [.cell t2 43, .val (.int .i64 5)] w K) (CallX Tryz.prog 82 #[t0, (.string ⟨#[32]⟩)] w (pk K) fun t25 w =>
 DoX Tryz.prog (mExt t25 0) w (pk K) fun t26 w =>
 DoX Tryz.prog (mExt t25 1) w (pk K) fun t27 w =>
 DoX Tryz.prog (mExt t25 2) w (pk K) fun t28 w =>
 CallX Tryz.prog 83 #[t26] w (pk K) fun t31 w =>
 DoX Tryz.prog (mExt t31 0) w (pk K) fun t32 w =>
 DoX Tryz.prog (mExt t31 1) w (pk K) fun t33 w =>
 DoX Tryz.prog (mUn .not t33) w (pk K) fun t35 w =>
 IfX t35 (DoX Tryz.prog (mBuild 43 #[]) w (pk K) fun t36 w =>
 DoX Tryz.prog (mStore 43 t2 t36) w (pk K) fun _ w =>
 RetX Tryz.prog [.cell t2 43, .val (.int .i64 33)] w K) (DoX Tryz.prog (mBuild 43 #[(0, t32)]) w (pk K) fun t38 w =>
 DoX Tryz.prog (mAlloc 43) w (pk K) fun t9 w =>
 DoX Tryz.prog (mStore 43 t9 t38) w (pk K) fun _ w =>
 CallX Tryz.prog 77 #[t32] w (pk K) fun t41 w =>
 DoX Tryz.prog (mExt t41 0) w (pk K) fun t42 w =>
 DoX Tryz.prog (mExt t41 1) w (pk K) fun t43 w =>
 DoX Tryz.prog (mB .len #[9] 3 #[false] #[t26]) w (pk K) fun t45 w =>
 DoX Tryz.prog (mRange 9 t42) w (pk K) fun t47 w =>
 LoopX [(.int .i64 0), t45] w (fun vs1 w N1 => ∀ _ : Sg, S_script_Parse_0 t0 t2 (vs1.getD 0 undef) t9 (vs1.getD 1 undef) t47 w N1 K)))
theorem S_script_Parse_eq (t0 : Value) (w : World) (K : Ending → World → Prop) : wpX Tryz.prog 86 [] [(11, [3, 12])] none (bodyOf Tryz.f27) (topQ Tryz.prog [.cell 2 43, .tmp 3] K) (startX [t0]) [] w = S_script_Parse t0 w K := by kernel_rfl
theorem S_script_Parse_ok {t0 : Value} {w : World} {K : Ending → World → Prop} (h : S_script_Parse t0 w K) : Calls Tryz.prog 27 #[t0] w K :=
  calls_of_wpX Tryz.func27 rfl rfl rfl rfl (Eq.mpr (S_script_Parse_eq t0 w K) h)

/- script.Text -/
def S_script_Text_0 (t4 t12 t13 t14 : Value) (w : World) (N1 : List Value → World → Prop) (K : Ending → World → Prop) : Prop :=
 DoX Tryz.prog (mBin .lss 3 t14 t13) w (pk K) fun t15 w =>
 IfX t15 (DoX Tryz.prog (mIA 44 t12 t14) w (pk K) fun t16 w =>
 DoX Tryz.prog (mLoad 43 t16) w (pk K) fun t17 w =>
 DoX Tryz.prog (mAlloc 43) w (pk K) fun t6 w =>
 DoX Tryz.prog (mStore 43 t6 t17) w (pk K) fun _ w =>
 DoX Tryz.prog (mLoad 43 t6) w (pk K) fun t19 w =>
 CallX Tryz.prog 25 #[t19] w (pk K) fun t20 w =>
 DoX Tryz.prog (mExt t20 0) w (pk K) fun t21 w =>
 DoX Tryz.prog (mExt t20 1) w (pk K) fun t22 w =>
 DoX Tryz.prog (mEq .neq 28 (.tmp 23) (.const (.int .i64 0)) t22 (.int .i64 0)) w (pk K) fun t24 w =>
 IfX t24 (K (.returned (.tuple #[(.string ⟨#[]⟩), t22])) w) (CallX Tryz.prog 70 #[t4, t21] w (pk K) fun t27 w =>
 CallX Tryz.prog 71 #[t4, (.int .u8 10)] w (pk K) fun t28 w =>
 DoX Tryz.prog (mBin .add 3 t14 (.int .i64 1)) w (pk K) fun t29 w =>
 N1 [t29] w)) (CallX Tryz.prog 72 #[t4] w (pk K) fun t30 w =>
 K (.returned (.tuple #[t30, (.int .i64 0)])) w)
def S_script_Text (t0 : Value) (w : World) (K : Ending → World → Prop) : Prop :=
 DoX Tryz.prog (mB .len #[44] 3 #[false] #[t0]) w (pk K) fun t10 w =>
 DoX Tryz.prog (mBin .gtr 3 t10 (.int .i64 256)) w (pk K) fun t11 w =>
 IfX t11 (K (.returned (.tuple #[(.string ⟨#[]⟩), (.int .i64 6)])) w) (DoX Tryz.prog (mAlloc 93) w (pk K) fun t4 w =>
 DoX Tryz.prog (mB .len #[44] 3 #[false] #[t0]) w (pk K) fun t13 w =>
 LoopX [(.int .i64 0)] w (fun vs1 w N1 => ∀ _ : Sg, S_script_Text_0 t4 t0 t13 (vs1.getD 0 undef) w N1 K))
theorem S_script_Text_eq (t0 : Value) (w : World) (K : Ending → World → Prop) : wpX Tryz.prog 31 [] [(5, [14])] none (bodyOf Tryz.f29) (topQ Tryz.prog [.tmp 2, .tmp 3] K) (startX [t0]) [] w = S_script_Text t0 w K := by kernel_rfl
theorem S_script_Text_ok {t0 : Value} {w : World} {K : Ending → World → Prop} (h : S_script_Text t0 w K) : Calls Tryz.prog 29 #[t0] w K :=
  calls_of_wpX Tryz.func29 rfl rfl rfl rfl (Eq.mpr (S_script_Text_eq t0 w K) h)

/- script.Read -/
def S_script_Read_p0 (x0 : Nat) (x1 : Value) (x2 : Value) (K : Ending → World → Prop) := pdM Tryz.prog [.cell x1 44, .cell x2 36] K [(mkD x0)]
def S_script_Read_1 (l1 : Nat) (R1 : Value → World → Prop) (w : World) : Prop :=
 EndX Tryz.prog l1 (some .ret) w R1
def S_script_Read_0 (l1 : Nat) (R1 : Value → World → Prop) (w : World) : Prop :=
 EndX Tryz.prog l1 (some .ret) w R1
def S_script_Read (t0 : Value) (w : World) (K : Ending → World → Prop) : Prop :=
 DoX Tryz.prog (mAlloc 44) w (pk K) fun t2 w =>
 DoX Tryz.prog (mAlloc 36) w (pk K) fun t3 w =>
 DoX Tryz.prog (mB .len #[9] 3 #[false] #[t0]) w (pk K) fun t10 w =>
 DoX Tryz.prog (mBin .gtr 3 t10 (.int .i64 1048576)) w (pk K) fun t11 w =>
 IfX t11 (DoX Tryz.prog (mBuild 36 #[(1, (.int .i64 5))]) w (pk K) fun t12 w =>
 DoX Tryz.prog (mStore 44 t2 (.slice none 0 0)) w (pk K) fun _ w =>
 DoX Tryz.prog (mStore 36 t3 t12) w (pk K) fun _ w =>
 RetX Tryz.prog [.cell t2 44, .cell t3 36] w K) (DoX Tryz.prog (mAlloc 44) w (pk K) fun t4 w =>
 DoX Tryz.prog (mAlloc 3) w (pk K) fun t5 w =>
 DoX Tryz.prog (mStore 3 t5 (.int .i64 0)) w (pk K) fun _ w =>
 CallX Tryz.prog 90 #[t0, (.string ⟨#[10]⟩)] w (pk K) fun t14 w =>
 RangeX Tryz.prog none 1 t14 w (fun l1 as1 w R1 =>
 BegX Tryz.prog l1 w (fun w =>
 DoX Tryz.prog (mLoad 3 t5) w pkR fun t16 w =>
 DoX Tryz.prog (mBin .add 3 t16 (.int .i64 1)) w pkR fun t17 w =>
 DoX Tryz.prog (mStore 3 t5 t17) w pkR fun _ w =>
 DoX Tryz.prog (mEq .eql 9 (.tmp 18) (.const (.string ⟨#[]⟩)) (as1.getD 0 undef) (.string ⟨#[]⟩)) w pkR fun t19 w =>
 GDo t19 false (fun E => E (as1.getD 0 undef) w) w fun t21 w =>
 GDo t19 false (fun E => DoX Tryz.prog (mIx 9 t21 (.int .i64 0)) w pkR E) w fun t22 w =>
 GDo t19 false (fun E => DoX Tryz.prog (mEq .eql 5 (.tmp 22) (.const (.int .u8 35)) t22 (.int .u8 35)) w pkR E) w fun t23 w =>
 DoX Tryz.prog (mPick t19 (.bool true) t23) w pkR fun t24 w =>
 IfX t24 (EndX Tryz.prog l1 none w R1) (DoX Tryz.prog (mLoad 44 t4) w pkR fun t25 w =>
 DoX Tryz.prog (mB .len #[44] 3 #[false] #[t25]) w pkR fun t26 w =>
 DoX Tryz.prog (mEq .eql 3 (.tmp 26) (.const (.int .i64 256)) t26 (.int .i64 256)) w pkR fun t27 w =>
 IfX t27 (DrawX w (fun w =>
 (DoX Tryz.prog (mLoad 3 t5) w pkR fun t28 w =>
 (DoX Tryz.prog (mBuild 36 #[(0, t28), (1, (.int .i64 6))]) w pkR fun t29 w =>
 DoX Tryz.prog (mStore 44 t2 (.slice none 0 0)) w pkR fun _ w =>
 DoX Tryz.prog (mStore 36 t3 t29) w pkR fun _ w =>
 S_script_Read_0 l1 R1 w) ∧ (DoX Tryz.prog (mStore 44 t2 (.slice none 0 0)) w pkR fun _ w =>
 DoX Tryz.prog (mBuild 36 #[(0, t28), (1, (.int .i64 6))]) w pkR fun t29_1 w =>
 DoX Tryz.prog (mStore 36 t3 t29_1) w pkR fun _ w =>
 S_script_Read_0 l1 R1 w)) ∧ (DoX Tryz.prog (mStore 44 t2 (.slice none 0 0)) w pkR fun _ w =>
 DoX Tryz.prog (mLoad 3 t5) w pkR fun t28_1 w =>
 DoX Tryz.prog (mBuild 36 #[(0, t28_1), (1, (.int .i64 6))]) w pkR fun t29_2 w =>
 DoX Tryz.prog (mStore 36 t3 t29_2) w pkR fun _ w =>
 S_script_Read_0 l1 R1 w))) (CallX Tryz.prog 27 #[(as1.getD 0 undef)] w pkR fun t32 w =>
 DoX Tryz.prog (mExt t32 0) w pkR fun t33 w =>
 DoX Tryz.prog (mExt t32 1) w pkR fun t34 w =>
 DoX Tryz.prog (mAlloc 43) w pkR fun t7 w =>
 DoX Tryz.prog (mStore 43 t7 t33) w pkR fun _ w =>
 DoX Tryz.prog (mEq .neq 28 (.tmp 35) (.const (.int .i64 0)) t34 (.int .i64 0)) w pkR fun t36 w =>
 IfX t36 (DrawX w (fun w =>
 (DoX Tryz.prog (mLoad 3 t5) w pkR fun t37 w =>
 ((DoX Tryz.prog (mBuild 36 #[(0, t37), (1, t34)]) w pkR fun t39 w =>
 DoX Tryz.prog (mStore 44 t2 (.slice none 0 0)) w pkR fun _ w =>
 DoX Tryz.prog (mStore 36 t3 t39) w pkR fun _ w =>
 S_script_Read_1 l1 R1 w) ∧ (DoX Tryz.prog (mStore 44 t2 (.slice none 0 0)) w pkR fun _ w =>
 DoX Tryz.prog (mBuild 36 #[(0, t37), (1, t34)]) w pkR fun t39_1 w =>
 DoX Tryz.prog (mStore 36 t3 t39_1) w pkR fun _ w =>
 S_script_Read_1 l1 R1 w)) ∧ (DoX Tryz.prog (mStore 44 t2 (.slice none 0 0)) w pkR fun _ w =>
 DoX Tryz.prog (mBuild 36 #[(0, t37), (1, t34)]) w pkR fun t39_2 w =>
 DoX Tryz.prog (mStore 36 t3 t39_2) w pkR fun _ w =>
 S_script_Read_1 l1 R1 w)) ∧ ((DoX Tryz.prog (mLoad 3 t5) w pkR fun t37_1 w =>
 (DoX Tryz.prog (mBuild 36 #[(0, t37_1), (1, t34)]) w pkR fun t39_3 w =>
 DoX Tryz.prog (mStore 44 t2 (.slice none 0 0)) w pkR fun _ w =>
 DoX Tryz.prog (mStore 36 t3 t39_3) w pkR fun _ w =>
 S_script_Read_1 l1 R1 w) ∧ (DoX Tryz.prog (mStore 44 t2 (.slice none 0 0)) w pkR fun _ w =>
 DoX Tryz.prog (mBuild 36 #[(0, t37_1), (1, t34)]) w pkR fun t39_4 w =>
 DoX Tryz.prog (mStore 36 t3 t39_4) w pkR fun _ w =>
 S_script_Read_1 l1 R1 w)) ∧ (DoX Tryz.prog (mStore 44 t2 (.slice none 0 0)) w pkR fun _ w =>
 DoX Tryz.prog (mLoad 3 t5) w pkR fun t37_2 w =>
 DoX Tryz.prog (mBuild 36 #[(0, t37_2), (1, t34)]) w pkR fun t39_5 w =>
 DoX Tryz.prog (mStore 36 t3 t39_5) w pkR fun _ w =>
 S_script_Read_1 l1 R1 w)) ∧ (DoX Tryz.prog (mStore 44 t2 (.slice none 0 0)) w pkR fun _ w =>
 (DoX Tryz.prog (mLoad 3 t5) w pkR fun t37_3 w =>
 DoX Tryz.prog (mBuild 36 #[(0, t37_3), (1, t34)]) w pkR fun t39_6 w =>
 DoX Tryz.prog (mStore 36 t3 t39_6) w pkR fun _ w =>
 S_script_Read_1 l1 R1 w) ∧ (DoX Tryz.prog (mLoad 3 t5) w pkR fun t37_4 w =>
 DoX Tryz.prog (mBuild 36 #[(0, t37_4), (1, t34)]) w pkR fun t39_7 w =>
 DoX Tryz.prog (mStore 36 t3 t39_7) w pkR fun _ w =>
 S_script_Read_1 l1 R1 w)))) (DoX Tryz.prog (mLoad 44 t4) w pkR fun t40 w =>
 DoX Tryz.prog (mLoad 43 t7) w pkR fun t41 w =>
 DoX Tryz.prog (mBuildS 44 1 #[(0, t41)]) w pkR fun t42 w =>
 DoX Tryz.prog (mB .append #[44, 44] 44 #[false, false] #[t40, t42]) w pkR fun t43 w =>
 DoX Tryz.prog (mStore 44 t4 t43) w pkR fun _ w =>
 EndX Tryz.prog l1 none w R1)))))
 [(none, fun r1 w =>
 DoX Tryz.prog (mLoad 44 t4) w (S_script_Read_p0 r1 t2 t3 K) fun t44 w =>
 DoX Tryz.prog (mBuild 36 #[]) w (S_script_Read_p0 r1 t2 t3 K) fun t45 w =>
 DoX Tryz.prog (mStore 44 t2 t44) w (S_script_Read_p0 r1 t2 t3 K) fun _ w =>
 DoX Tryz.prog (mStore 36 t3 t45) w (S_script_Read_p0 r1 t2 t3 K) fun _ w =>
 LeaveM Tryz.prog [.cell t2 44, .cell t3 36] K [(mkD r1)] .returning w), (some .ret, fun r1 w =>
 LeaveM Tryz.prog [.cell t2 44, .cell t3 36] K [(mkD r1)] .returning w)])
theorem S_script_Read_eq (t0 : Value) (w : World) (K : Ending → World → Prop) : wpX Tryz.prog 46 [] [] none (bodyOf Tryz.f31) (topM Tryz.prog [.cell 2 44, .cell 3 36] K) (startX [t0]) [] w = S_script_Read t0 w K := by kernel_rfl
theorem S_script_Read_ok {t0 : Value} {w : World} {K : Ending → World → Prop} (h : S_script_Read t0 w K) : Calls Tryz.prog 31 #[t0] w K :=
  calls_of_wpM Tryz.func31 rfl rfl rfl rfl (Eq.mpr (S_script_Read_eq t0 w K) h)

/- script.Tell -/
def S_script_Tell (t0 : Value) (w : World) (K : Ending → World → Prop) : Prop :=
 DoX Tryz.prog (mBox 46 t0) w (pk K) fun t1 w =>
 DoX Tryz.prog (mFA 46 t1 0) w (pk K) fun t4 w =>
 DoX Tryz.prog (mLoad 28 t4) w (pk K) fun t5 w =>
 DoX Tryz.prog (mEq .neq 28 (.tmp 5) (.const (.int .i64 0)) t5 (.int .i64 0)) w (pk K) fun t6 w =>
 IfX t6 (DoX Tryz.prog (mFA 46 t1 0) w (pk K) fun t7 w =>
 DoX Tryz.prog (mLoad 28 t7) w (pk K) fun t8 w =>
 CallX Tryz.prog 79 #[t8] w (pk K) fun t9 w =>
 DoX Tryz.prog (mBin .add 9 (.string ⟨#[101, 114, 114, 111, 114, 32]⟩) t9) w (pk K) fun t10 w =>
 DoX Tryz.prog (mBuildS 22 1 #[(0, t10)]) w (pk K) fun t11 w =>
 K (.returned t11) w) (QuietX w (fun C1 =>
 QDo Tryz.prog C1 (mFA 46 t1 1) fun t12 =>
 QDo Tryz.prog C1 (mLoad 3 t12) fun t13 =>
 QCall Tryz.prog C1 79 #[t13] fun t14 =>
 QDo Tryz.prog C1 (mBin .add 9 (.string ⟨#[111, 107, 32]⟩) t14) fun t15 =>
 QDo Tryz.prog C1 (mBin .add 9 t15 (.string ⟨#[32]⟩)) fun t16 =>
 QDo Tryz.prog C1 (mFA 46 t1 2) fun t17 =>
 QDo Tryz.prog C1 (mLoad 22 t17) fun t18 =>
 QDo Tryz.prog C1 (mB .len #[22] 3 #[false] #[t18]) fun t19 =>
 QCall Tryz.prog C1 79 #[t19] fun t20 =>
 QDo Tryz.prog C1 (mBin .add 9 t16 t20) fun t21 =>
 ∀ w, C1 w →
 DoX Tryz.prog (mBuildS 22 1 #[(0, t21)]) w (pk K) fun t23 w =>
 DoX Tryz.prog (mFA 46 t1 2) w (pk K) fun t24 w =>
 DoX Tryz.prog (mLoad 22 t24) w (pk K) fun t25 w =>
 DoX Tryz.prog (mB .append #[22, 22] 22 #[false, false] #[t23, t25]) w (pk K) fun t26 w =>
 K (.returned t26) w))
theorem S_script_Tell_eq (t0 : Value) (w : World) (K : Ending → World → Prop) : wpX Tryz.prog 27 [] [] none (bodyOf Tryz.f37) (topQ Tryz.prog [.tmp 2] K) (startX [t0]) [] w = S_script_Tell t0 w K := by kernel_rfl
theorem S_script_Tell_ok {t0 : Value} {w : World} {K : Ending → World → Prop} (h : S_script_Tell t0 w K) : Calls Tryz.prog 37 #[t0] w K :=
  calls_of_wpX Tryz.func37 rfl rfl rfl rfl (Eq.mpr (S_script_Tell_eq t0 w K) h)

/- strings.splitSeq$1 -/
def S_strings_splitSeq_1_1 (t0 t1 t2 t3 : Value) (w : World) (N2 : List Value → World → Prop) (K : Ending → World → Prop) : Prop :=
 DoX Tryz.prog (mLoad 9 t2) w (pk K) fun t29 w =>
 DoX Tryz.prog (mLoad 9 t1) w (pk K) fun t30 w =>
 CallX Tryz.prog 167 #[t29, t30] w (pk K) fun t31 w =>
 DoX Tryz.prog (mBin .lss 3 t31 (.int .i64 0)) w (pk K) fun t33 w =>
 IfX t33 (DoX Tryz.prog (mLoad 9 t2) w (pk K) fun t50 w =>
 DoX Tryz.prog (mCallV t0 #[t50]) w (pk K) fun t51 w =>
 K (.returned (.tuple #[])) w) (DoX Tryz.prog (mLoad 9 t2) w (pk K) fun t34 w =>
 DoX Tryz.prog (mLoad 3 t3) w (pk K) fun t36 w =>
 DoX Tryz.prog (mBin .add 3 t31 t36) w (pk K) fun t37 w =>
 DoX Tryz.prog (mSlice 9 t34 none (some t37) none) w (pk K) fun t38 w =>
 DoX Tryz.prog (mCallV t0 #[t38]) w (pk K) fun t41 w =>
 DoX Tryz.prog (mUn .not t41) w (pk K) fun t42 w =>
 IfX t42 (K (.returned (.tuple #[])) w) (DoX Tryz.prog (mLoad 9 t2) w (pk K) fun t43 w =>
 DoX Tryz.prog (mLoad 9 t1) w (pk K) fun t45 w =>
 DoX Tryz.prog (mB .len #[9] 3 #[false] #[t45]) w (pk K) fun t46 w =>
 DoX Tryz.prog (mBin .add 3 t31 t46) w (pk K) fun t47 w =>
 DoX Tryz.prog (mSlice 9 t43 (some t47) none none) w (pk K) fun t48 w =>
 DoX Tryz.prog (mStore 9 t2 t48) w (pk K) fun _ w =>
 N2 [] w))
def S_strings_splitSeq_1_0 (t0 t2 : Value) (w : World) (N1 : List Value → World → Prop) (K : Ending → World → Prop) : Prop :=
 DoX Tryz.prog (mLoad 9 t2) w (pk K) fun t12 w =>
 DoX Tryz.prog (mB .len #[9] 3 #[false] #[t12]) w (pk K) fun t13 w =>
 DoX Tryz.prog (mBin .gtr 3 t13 (.int .i64 0)) w (pk K) fun t14 w =>
 IfX t14 (DoX Tryz.prog (mLoad 9 t2) w (pk K) fun t16 w =>
 CallX Tryz.prog 242 #[t16] w (pk K) fun t17 w =>
 DoX Tryz.prog (mExt t17 0) w (pk K) fun t18 w =>
 DoX Tryz.prog (mExt t17 1) w (pk K) fun t19 w =>
 DoX Tryz.prog (mLoad 9 t2) w (pk K) fun t21 w =>
 DoX Tryz.prog (mSlice 9 t21 none (some t19) none) w (pk K) fun t23 w =>
 DoX Tryz.prog (mCallV t0 #[t23]) w (pk K) fun t24 w =>
 DoX Tryz.prog (mUn .not t24) w (pk K) fun t25 w =>
 IfX t25 (K (.returned (.tuple #[])) w) (DoX Tryz.prog (mLoad 9 t2) w (pk K) fun t26 w =>
 DoX Tryz.prog (mSlice 9 t26 (some t19) none none) w (pk K) fun t28 w =>
 DoX Tryz.prog (mStore 9 t2 t28) w (pk K) fun _ w =>
 N1 [] w)) (K (.returned (.tuple #[])) w)
def S_strings_splitSeq_1 (t0 t1 t2 t3 : Value) (w : World) (K : Ending → World → Prop) : Prop :=
 DoX Tryz.prog (mLoad 9 t1) w (pk K) fun t9 w =>
 DoX Tryz.prog (mB .len #[9] 3 #[false] #[t9]) w (pk K) fun t10 w =>
 DoX Tryz.prog (mEq .eql 3 (.tmp 10) (.const (.int .i64 0)) t10 (.int .i64 0)) w (pk K) fun t11 w =>
 IfX t11 (LoopX [] w (fun vs1 w N1 => ∀ _ : Sg, S_strings_splitSeq_1_0 t0 t2 w N1 K)) (LoopX [] w (fun vs2 w N2 => ∀ _ : Sg, S_strings_splitSeq_1_1 t0 t1 t2 t3 w N2 K))
theorem S_strings_splitSeq_1_eq (t0 t1 t2 t3 : Value) (w : World) (K : Ending → World → Prop) : wpX Tryz.prog 52 [] [(1, []), (5, [])] none (bodyOf Tryz.f241) (topQ Tryz.prog [] K) (startX [t0, t1, t2, t3]) [] w = S_strings_splitSeq_1 t0 t1 t2 t3 w K := by kernel_rfl
theorem S_strings_splitSeq_1_ok {t0 t1 t2 t3 : Value} {w : World} {K : Ending → World → Prop} (h : S_strings_splitSeq_1 t0 t1 t2 t3 w K) : Calls Tryz.prog 241 #[t0, t1, t2, t3] w K :=
  calls_of_wpX Tryz.func241 rfl rfl rfl rfl (Eq.mpr (S_strings_splitSeq_1_eq t0 t1 t2 t3 w K) h)

/- strings.splitSeq -/
def S_strings_splitSeq (t0 t1 t2 : Value) (w : World) (K : Ending → World → Prop) : Prop :=
 DoX Tryz.prog (mBox 9 t0) w (pk K) fun t3 w =>
 DoX Tryz.prog (mBox 9 t1) w (pk K) fun t4 w =>
 DoX Tryz.prog (mBox 3 t2) w (pk K) fun t5 w =>
 DoX Tryz.prog (mFunc (.func 241) #[] #[t4, t3, t5]) w (pk K) fun t7 w =>
 K (.returned t7) w
theorem S_strings_splitSeq_eq (t0 t1 t2 : Value) (w : World) (K : Ending → World → Prop) : wpX Tryz.prog 8 [] [] none (bodyOf Tryz.f166) (topQ Tryz.prog [.tmp 6] K) (startX [t0, t1, t2]) [] w = S_strings_splitSeq t0 t1 t2 w K := by kernel_rfl
theorem S_strings_splitSeq_ok {t0 t1 t2 : Value} {w : World} {K : Ending → World → Prop} (h : S_strings_splitSeq t0 t1 t2 w K) : Calls Tryz.prog 166 #[t0, t1, t2] w K :=
  calls_of_wpX Tryz.func166 rfl rfl rfl rfl (Eq.mpr (S_strings_splitSeq_eq t0 t1 t2 w K) h)

/- strings.SplitSeq -/
def S_strings_SplitSeq (t0 t1 : Value) (w : World) (K : Ending → World → Prop) : Prop :=
 CallX Tryz.prog 166 #[t0, t1, (.int .i64 0)] w (pk K) fun t7 w =>
 K (.returned t7) w
theorem S_strings_SplitSeq_eq (t0 t1 : Value) (w : World) (K : Ending → World → Prop) : wpX Tryz.prog 8 [] [] none (bodyOf Tryz.f90) (topQ Tryz.prog [.tmp 4] K) (startX [t0, t1]) [] w = S_strings_SplitSeq t0 t1 w K := by kernel_rfl
theorem S_strings_SplitSeq_ok {t0 t1 : Value} {w : World} {K : Ending → World → Prop} (h : S_strings_SplitSeq t0 t1 w K) : Calls Tryz.prog 90 #[t0, t1] w K :=
  calls_of_wpX Tryz.func90 rfl rfl rfl rfl (Eq.mpr (S_strings_SplitSeq_eq t0 t1 w K) h)

/- slices.Index[[]string,string] -/
def S_slices_Index_string_string_0 (t0 t1 t7 t8 : Value) (w : World) (N1 : List Value → World → Prop) (K : Ending → World → Prop) : Prop :=
 DoX Tryz.prog (mBin .lss 3 t8 t7) w (pk K) fun t9 w =>
 IfX t9 (DoX Tryz.prog (mIA 22 t0 t8) w (pk K) fun t14 w =>
 DoX Tryz.prog (mLoad 9 t14) w (pk K) fun t15 w =>
 DoX Tryz.prog (mEq .eql 9 (.tmp 11) (.tmp 15) t1 t15) w (pk K) fun t16 w =>
 IfX t16 (K (.returned t8) w) (DoX Tryz.prog (mBin .add 3 t8 (.int .i64 1)) w (pk K) fun t18 w =>
 N1 [t18] w)) (K (.returned (.int .i64 (-1))) w)
def S_slices_Index_string_string (t0 t1 : Value) (w : World) (K : Ending → World → Prop) : Prop :=
 DoX Tryz.prog (mB .len #[22] 3 #[false] #[t0]) w (pk K) fun t7 w =>
 LoopX [(.int .i64 0)] w (fun vs1 w N1 => ∀ _ : Sg, S_slices_Index_string_string_0 t0 t1 t7 (vs1.getD 0 undef) w N1 K)
theorem S_slices_Index_string_string_eq (t0 t1 : Value) (w : World) (K : Ending → World → Prop) : wpX Tryz.prog 19 [] [(2, [8])] none (bodyOf Tryz.f157) (topQ Tryz.prog [.tmp 4] K) (startX [t0, t1]) [] w = S_slices_Index_string_string t0 t1 w K := by kernel_rfl
theorem S_slices_Index_string_string_ok {t0 t1 : Value} {w : World} {K : Ending → World → Prop} (h : S_slices_Index_string_string t0 t1 w K) : Calls Tryz.prog 157 #[t0, t1] w K :=
  calls_of_wpX Tryz.func157 rfl rfl rfl rfl (Eq.mpr (S_slices_Index_string_string_eq t0 t1 w K) h)

end Go.Proofs.YtjajlcacbbnodaaGreatDoor
/- Contracts: script (uses, within, Check). -/
namespace Go.Proofs.YtjajlcacbbnodaaGreatDoor
set_option linter.unusedVariables false
set_option linter.unusedSimpArgs false
set_option linter.defProp false
open Eng Go.RowKit
 attribute [local congr] g_congr

def usesV (k : Int) : Value := .tuple #[.string ⟨((Sc.uses k).getD []).toArray⟩, .bool (Sc.uses k).isSome]
theorem suses_ret (k : Int) (w : World) : Ret Tryz.prog 77 #[.int .i64 k] w (fun v w' => v = usesV k ∧ w = w') := by
  refine ret_of fun K hK => S_script_uses_ok ?_
  unfold S_script_uses
  by_cases hk : 1 ≤ k ∧ k ≤ 21
  · obtain ⟨n, rfl⟩ : ∃ n : Fin 21, k = ((n.val + 1 : Nat) : Int) := ⟨⟨k.toNat - 1, by omega⟩, by simp only; omega⟩
    have : n.val < 21 := n.isLt
    obtain ⟨n, hn⟩ := n
    simp only
    match n, hn with
    | 0, _ =>
      repeat (first
        | exact hK _ _ ⟨by rfl, rfl⟩
        | (refine join fun J hJ => ?_
           try simp only [rs, Nat.reduceAdd, Int.cast_ofNat_Int, Int.reduceEq, decide_true, decide_false]
           refine hJ _ _ fun _ => ?_
           simp only [S_script_uses_0, S_script_uses_1, S_script_uses_2, S_script_uses_3, gd, rs, Nat.reduceAdd, Int.cast_ofNat_Int, Int.reduceEq, Int.reduceLE, decide_true, decide_false]))
    | 1, _ =>
      repeat (first
        | exact hK _ _ ⟨by rfl, rfl⟩
        | (refine join fun J hJ => ?_
           try simp only [rs, Nat.reduceAdd, Int.cast_ofNat_Int, Int.reduceEq, decide_true, decide_false]
           refine hJ _ _ fun _ => ?_
           simp only [S_script_uses_0, S_script_uses_1, S_script_uses_2, S_script_uses_3, gd, rs, Nat.reduceAdd, Int.cast_ofNat_Int, Int.reduceEq, Int.reduceLE, decide_true, decide_false]))
    | 2, _ =>
      repeat (first
        | exact hK _ _ ⟨by rfl, rfl⟩
        | (refine join fun J hJ => ?_
           try simp only [rs, Nat.reduceAdd, Int.cast_ofNat_Int, Int.reduceEq, decide_true, decide_false]
           refine hJ _ _ fun _ => ?_
           simp only [S_script_uses_0, S_script_uses_1, S_script_uses_2, S_script_uses_3, gd, rs, Nat.reduceAdd, Int.cast_ofNat_Int, Int.reduceEq, Int.reduceLE, decide_true, decide_false]))
    | 3, _ =>
      repeat (first
        | exact hK _ _ ⟨by rfl, rfl⟩
        | (refine join fun J hJ => ?_
           try simp only [rs, Nat.reduceAdd, Int.cast_ofNat_Int, Int.reduceEq, decide_true, decide_false]
           refine hJ _ _ fun _ => ?_
           simp only [S_script_uses_0, S_script_uses_1, S_script_uses_2, S_script_uses_3, gd, rs, Nat.reduceAdd, Int.cast_ofNat_Int, Int.reduceEq, Int.reduceLE, decide_true, decide_false]))
    | 4, _ =>
      repeat (first
        | exact hK _ _ ⟨by rfl, rfl⟩
        | (refine join fun J hJ => ?_
           try simp only [rs, Nat.reduceAdd, Int.cast_ofNat_Int, Int.reduceEq, decide_true, decide_false]
           refine hJ _ _ fun _ => ?_
           simp only [S_script_uses_0, S_script_uses_1, S_script_uses_2, S_script_uses_3, gd, rs, Nat.reduceAdd, Int.cast_ofNat_Int, Int.reduceEq, Int.reduceLE, decide_true, decide_false]))
    | 5, _ =>
      repeat (first
        | exact hK _ _ ⟨by rfl, rfl⟩
        | (refine join fun J hJ => ?_
           try simp only [rs, Nat.reduceAdd, Int.cast_ofNat_Int, Int.reduceEq, decide_true, decide_false]
           refine hJ _ _ fun _ => ?_
           simp only [S_script_uses_0, S_script_uses_1, S_script_uses_2, S_script_uses_3, gd, rs, Nat.reduceAdd, Int.cast_ofNat_Int, Int.reduceEq, Int.reduceLE, decide_true, decide_false]))
    | 6, _ =>
      repeat (first
        | exact hK _ _ ⟨by rfl, rfl⟩
        | (refine join fun J hJ => ?_
           try simp only [rs, Nat.reduceAdd, Int.cast_ofNat_Int, Int.reduceEq, decide_true, decide_false]
           refine hJ _ _ fun _ => ?_
           simp only [S_script_uses_0, S_script_uses_1, S_script_uses_2, S_script_uses_3, gd, rs, Nat.reduceAdd, Int.cast_ofNat_Int, Int.reduceEq, Int.reduceLE, decide_true, decide_false]))
    | 7, _ =>
      repeat (first
        | exact hK _ _ ⟨by rfl, rfl⟩
        | (refine join fun J hJ => ?_
           try simp only [rs, Nat.reduceAdd, Int.cast_ofNat_Int, Int.reduceEq, decide_true, decide_false]
           refine hJ _ _ fun _ => ?_
           simp only [S_script_uses_0, S_script_uses_1, S_script_uses_2, S_script_uses_3, gd, rs, Nat.reduceAdd, Int.cast_ofNat_Int, Int.reduceEq, Int.reduceLE, decide_true, decide_false]))
    | 8, _ =>
      repeat (first
        | exact hK _ _ ⟨by rfl, rfl⟩
        | (refine join fun J hJ => ?_
           try simp only [rs, Nat.reduceAdd, Int.cast_ofNat_Int, Int.reduceEq, decide_true, decide_false]
           refine hJ _ _ fun _ => ?_
           simp only [S_script_uses_0, S_script_uses_1, S_script_uses_2, S_script_uses_3, gd, rs, Nat.reduceAdd, Int.cast_ofNat_Int, Int.reduceEq, Int.reduceLE, decide_true, decide_false]))
    | 9, _ =>
      repeat (first
        | exact hK _ _ ⟨by rfl, rfl⟩
        | (refine join fun J hJ => ?_
           try simp only [rs, Nat.reduceAdd, Int.cast_ofNat_Int, Int.reduceEq, decide_true, decide_false]
           refine hJ _ _ fun _ => ?_
           simp only [S_script_uses_0, S_script_uses_1, S_script_uses_2, S_script_uses_3, gd, rs, Nat.reduceAdd, Int.cast_ofNat_Int, Int.reduceEq, Int.reduceLE, decide_true, decide_false]))
    | 10, _ =>
      repeat (first
        | exact hK _ _ ⟨by rfl, rfl⟩
        | (refine join fun J hJ => ?_
           try simp only [rs, Nat.reduceAdd, Int.cast_ofNat_Int, Int.reduceEq, decide_true, decide_false]
           refine hJ _ _ fun _ => ?_
           simp only [S_script_uses_0, S_script_uses_1, S_script_uses_2, S_script_uses_3, gd, rs, Nat.reduceAdd, Int.cast_ofNat_Int, Int.reduceEq, Int.reduceLE, decide_true, decide_false]))
    | 11, _ =>
      repeat (first
        | exact hK _ _ ⟨by rfl, rfl⟩
        | (refine join fun J hJ => ?_
           try simp only [rs, Nat.reduceAdd, Int.cast_ofNat_Int, Int.reduceEq, decide_true, decide_false]
           refine hJ _ _ fun _ => ?_
           simp only [S_script_uses_0, S_script_uses_1, S_script_uses_2, S_script_uses_3, gd, rs, Nat.reduceAdd, Int.cast_ofNat_Int, Int.reduceEq, Int.reduceLE, decide_true, decide_false]))
    | 12, _ =>
      repeat (first
        | exact hK _ _ ⟨by rfl, rfl⟩
        | (refine join fun J hJ => ?_
           try simp only [rs, Nat.reduceAdd, Int.cast_ofNat_Int, Int.reduceEq, decide_true, decide_false]
           refine hJ _ _ fun _ => ?_
           simp only [S_script_uses_0, S_script_uses_1, S_script_uses_2, S_script_uses_3, gd, rs, Nat.reduceAdd, Int.cast_ofNat_Int, Int.reduceEq, Int.reduceLE, decide_true, decide_false]))
    | 13, _ =>
      repeat (first
        | exact hK _ _ ⟨by rfl, rfl⟩
        | (refine join fun J hJ => ?_
           try simp only [rs, Nat.reduceAdd, Int.cast_ofNat_Int, Int.reduceEq, decide_true, decide_false]
           refine hJ _ _ fun _ => ?_
           simp only [S_script_uses_0, S_script_uses_1, S_script_uses_2, S_script_uses_3, gd, rs, Nat.reduceAdd, Int.cast_ofNat_Int, Int.reduceEq, Int.reduceLE, decide_true, decide_false]))
    | 14, _ =>
      repeat (first
        | exact hK _ _ ⟨by rfl, rfl⟩
        | (refine join fun J hJ => ?_
           try simp only [rs, Nat.reduceAdd, Int.cast_ofNat_Int, Int.reduceEq, decide_true, decide_false]
           refine hJ _ _ fun _ => ?_
           simp only [S_script_uses_0, S_script_uses_1, S_script_uses_2, S_script_uses_3, gd, rs, Nat.reduceAdd, Int.cast_ofNat_Int, Int.reduceEq, Int.reduceLE, decide_true, decide_false]))
    | 15, _ =>
      repeat (first
        | exact hK _ _ ⟨by rfl, rfl⟩
        | (refine join fun J hJ => ?_
           try simp only [rs, Nat.reduceAdd, Int.cast_ofNat_Int, Int.reduceEq, decide_true, decide_false]
           refine hJ _ _ fun _ => ?_
           simp only [S_script_uses_0, S_script_uses_1, S_script_uses_2, S_script_uses_3, gd, rs, Nat.reduceAdd, Int.cast_ofNat_Int, Int.reduceEq, Int.reduceLE, decide_true, decide_false]))
    | 16, _ =>
      repeat (first
        | exact hK _ _ ⟨by rfl, rfl⟩
        | (refine join fun J hJ => ?_
           try simp only [rs, Nat.reduceAdd, Int.cast_ofNat_Int, Int.reduceEq, decide_true, decide_false]
           refine hJ _ _ fun _ => ?_
           simp only [S_script_uses_0, S_script_uses_1, S_script_uses_2, S_script_uses_3, gd, rs, Nat.reduceAdd, Int.cast_ofNat_Int, Int.reduceEq, Int.reduceLE, decide_true, decide_false]))
    | 17, _ =>
      repeat (first
        | exact hK _ _ ⟨by rfl, rfl⟩
        | (refine join fun J hJ => ?_
           try simp only [rs, Nat.reduceAdd, Int.cast_ofNat_Int, Int.reduceEq, decide_true, decide_false]
           refine hJ _ _ fun _ => ?_
           simp only [S_script_uses_0, S_script_uses_1, S_script_uses_2, S_script_uses_3, gd, rs, Nat.reduceAdd, Int.cast_ofNat_Int, Int.reduceEq, Int.reduceLE, decide_true, decide_false]))
    | 18, _ =>
      repeat (first
        | exact hK _ _ ⟨by rfl, rfl⟩
        | (refine join fun J hJ => ?_
           try simp only [rs, Nat.reduceAdd, Int.cast_ofNat_Int, Int.reduceEq, decide_true, decide_false]
           refine hJ _ _ fun _ => ?_
           simp only [S_script_uses_0, S_script_uses_1, S_script_uses_2, S_script_uses_3, gd, rs, Nat.reduceAdd, Int.cast_ofNat_Int, Int.reduceEq, Int.reduceLE, decide_true, decide_false]))
    | 19, _ =>
      repeat (first
        | exact hK _ _ ⟨by rfl, rfl⟩
        | (refine join fun J hJ => ?_
           try simp only [rs, Nat.reduceAdd, Int.cast_ofNat_Int, Int.reduceEq, decide_true, decide_false]
           refine hJ _ _ fun _ => ?_
           simp only [S_script_uses_0, S_script_uses_1, S_script_uses_2, S_script_uses_3, gd, rs, Nat.reduceAdd, Int.cast_ofNat_Int, Int.reduceEq, Int.reduceLE, decide_true, decide_false]))
    | 20, _ =>
      repeat (first
        | exact hK _ _ ⟨by rfl, rfl⟩
        | (refine join fun J hJ => ?_
           try simp only [rs, Nat.reduceAdd, Int.cast_ofNat_Int, Int.reduceEq, decide_true, decide_false]
           refine hJ _ _ fun _ => ?_
           simp only [S_script_uses_0, S_script_uses_1, S_script_uses_2, S_script_uses_3, gd, rs, Nat.reduceAdd, Int.cast_ofNat_Int, Int.reduceEq, Int.reduceLE, decide_true, decide_false]))
    | n + 21, h => omega
  · have hu : usesV k = .tuple #[.string ⟨#[]⟩, .bool false] := by rw [usesV, Sc.uses, if_neg hk]; rfl
    refine join fun J hJ => ?_
    simp only [show ¬ (k = 1) by omega, show ¬ (k = 14) by omega, show ¬ (k = 2) by omega, show ¬ (k = 4) by omega, show ¬ (k = 6) by omega, show ¬ (k = 11) by omega, show ¬ (k = 13) by omega, show ¬ (k = 16) by omega, show ¬ (k = 21) by omega, show ¬ (k = 3) by omega, show ¬ (k = 5) by omega, show ¬ (k = 7) by omega, show ¬ (k = 18) by omega, show ¬ (k = 8) by omega, show ¬ (k = 9) by omega, rs, decide_false]
    refine hJ _ _ fun _ => ?_
    simp only [S_script_uses_0, gd, rs]
    refine join fun J hJ => ?_
    simp only [show ¬ (k = 1) by omega, show ¬ (k = 14) by omega, show ¬ (k = 2) by omega, show ¬ (k = 4) by omega, show ¬ (k = 6) by omega, show ¬ (k = 11) by omega, show ¬ (k = 13) by omega, show ¬ (k = 16) by omega, show ¬ (k = 21) by omega, show ¬ (k = 3) by omega, show ¬ (k = 5) by omega, show ¬ (k = 7) by omega, show ¬ (k = 18) by omega, show ¬ (k = 8) by omega, show ¬ (k = 9) by omega, rs, decide_false]
    refine hJ _ _ fun _ => ?_
    simp only [S_script_uses_1, gd, rs]
    refine join fun J hJ => ?_
    simp only [show ¬ (k = 1) by omega, show ¬ (k = 14) by omega, show ¬ (k = 2) by omega, show ¬ (k = 4) by omega, show ¬ (k = 6) by omega, show ¬ (k = 11) by omega, show ¬ (k = 13) by omega, show ¬ (k = 16) by omega, show ¬ (k = 21) by omega, show ¬ (k = 3) by omega, show ¬ (k = 5) by omega, show ¬ (k = 7) by omega, show ¬ (k = 18) by omega, show ¬ (k = 8) by omega, show ¬ (k = 9) by omega, rs, decide_false]
    refine hJ _ _ fun _ => ?_
    simp only [S_script_uses_2, gd, rs]
    refine join fun J hJ => ?_
    simp only [show ¬ (k = 1) by omega, show ¬ (k = 14) by omega, show ¬ (k = 2) by omega, show ¬ (k = 4) by omega, show ¬ (k = 6) by omega, show ¬ (k = 11) by omega, show ¬ (k = 13) by omega, show ¬ (k = 16) by omega, show ¬ (k = 21) by omega, show ¬ (k = 3) by omega, show ¬ (k = 5) by omega, show ¬ (k = 7) by omega, show ¬ (k = 18) by omega, show ¬ (k = 8) by omega, show ¬ (k = 9) by omega, rs, decide_false]
    refine hJ _ _ fun _ => ?_
    simp only [S_script_uses_3, gd, show ¬ (k = 1) by omega, show ¬ (k = 14) by omega, show ¬ (k = 2) by omega, show ¬ (k = 4) by omega, show ¬ (k = 6) by omega, show ¬ (k = 11) by omega, show ¬ (k = 13) by omega, show ¬ (k = 16) by omega, show ¬ (k = 21) by omega, show ¬ (k = 3) by omega, show ¬ (k = 5) by omega, show ¬ (k = 7) by omega, show ¬ (k = 18) by omega, show ¬ (k = 8) by omega, show ¬ (k = 9) by omega, decide_false, rs]
    by_cases h1 : 1 ≤ k
    · simp only [h1, show ¬ (k ≤ 21) by omega, decide_true, decide_false, rs]
      exact hK _ _ ⟨hu.symm, rfl⟩
    · simp only [h1, decide_false, rs, g_un]
      exact hK _ _ ⟨hu.symm, rfl⟩
theorem swithin_ret (n : Int) (w : World) : Ret Tryz.prog 94 #[.int .i64 n] w (fun v w' => v = .bool (decide (0 ≤ n ∧ n ≤ 2147483647)) ∧ w = w') := by
  refine ret_of fun K hK => S_script_within_ok ?_
  unfold S_script_within
  by_cases h : 0 ≤ n
  · simp only [rs, h, decide_true]
    exact hK _ _ ⟨by simp [h], rfl⟩
  · simp only [rs, h, decide_false, g_un]
    exact hK _ _ ⟨by simp [h], rfl⟩
end Go.Proofs.YtjajlcacbbnodaaGreatDoor
/- Contracts: script (Check). -/
namespace Go.Proofs.YtjajlcacbbnodaaGreatDoor
set_option linter.unusedVariables false
set_option linter.unusedSimpArgs false
set_option linter.defProp false
open Eng Go.RowKit
 attribute [local congr] g_congr

theorem chk1_ret (u : List UInt8) (c : UInt8) (b : Nat) (w : World) (hb : w.cell? ⟨b, 0, none⟩ = some (.string ⟨u.toArray⟩)) : Ret Tryz.prog 92 #[.string ⟨#[c]⟩, .pointer (some ⟨b, 0, none⟩)] w (fun v w' => v = .bool (decide (c ∈ u)) ∧ w = w') := by
  refine ret_of fun K hK => S_script_Check_fn1_ok ?_
  unfold S_script_Check_fn1
  rw [l_cell nStr hb]
  exact c_eq (contains1_ret u c w) (hK _ _ ⟨by rw [List.contains_eq_mem], rfl⟩)
theorem plain_chk1 : plainB Tryz.prog 92 = true := by kernel_rfl
theorem scheck_ret (x : Sc.Step) (w : World) : Ret Tryz.prog 33 #[stV x] w (fun v w' => v = .int .i64 (Sc.check x) ∧ Below w.heap.size w w') := by
  refine ret_of fun K hK => S_script_Check_ok ?_
  unfold S_script_Check
  refine o_stb x (Own.start w) fun b w1 ho => ?_
  simp only [fa_s0, st_k ho 0 rfl]
  refine c_eq (suses_ret x.k w1) ?_
  simp only [usesV, ex]
  refine o_new (fun b => .pointer (some ⟨b, 0, none⟩)) [.string ⟨#[]⟩] 9 (fun _ => by kernel_rfl) ho fun b3 w2 ho => ?_
  generalize hug : (Sc.uses x.k).getD [] = u
  refine o_store 0 ho rfl (v := .string ⟨u.toArray⟩) szStr' rfl (by simp) fun w3 ho => ?_
  have ho : Own w w3 [strE b3 u, stE b x] := ho
  simp only [rs, Array.append_empty, Array.empty_append]
  have hcell := ho.cell 0 rfl 0 rfl
  have hst : ∀ c : UInt8, Ret Tryz.prog 92 #[.string ⟨#[c]⟩, .pointer (some ⟨b3, 0, none⟩)] w3 (fun v w' => v = .bool (decide (c ∈ u)) ∧ w3 = w') := fun c => chk1_ret u c b3 w3 hcell
  refine join fun J hJ => ?_
  have bad : Sc.check x = 10 → J [.bool true] w3 := by
    intro e
    refine hJ _ _ fun _ => ?_
    simp only [S_script_Check_0, gd, rs]
    exact hK _ _ ⟨by rw [e], ho.done⟩
  cases hu : Sc.uses x.k with
  | none =>
    simp only [Option.isSome_none, Bool.not_false, rs]
    exact bad (by rw [Sc.check, hu])
  | some u' =>
    obtain rfl : u = u' := by rw [← hug, hu]; rfl
    simp only [Option.isSome_some, Bool.not_true, rs]
    have chk : ∀ (p : Prop), (p → (65 ∉ u ∧ x.a ≠ 0) ∨ (66 ∉ u ∧ x.b ≠ 0) ∨ (83 ∉ u ∧ x.s ≠ []) ∨ (84 ∉ u ∧ x.t ≠ [])) → p → J [.bool true] w3 := by
      intro p hp h
      refine bad ?_
      rw [Sc.check, hu]
      simp only
      rw [if_pos (hp h)]
    refine c_val plain_chk1 (c_eq (hst 65) ?_)
    simp +contextual only [rs, gs, fa_s1, st_a ho 1 rfl, n_emp]
    rw [i_bool]
    refine ⟨fun h => by rw [h]; exact chk _ id (.inl (by simpa using h)), fun q1 => ?_⟩
    refine c_val plain_chk1 (c_eq (hst 66) ?_)
    simp +contextual only [rs, gs, fa_s2, st_b ho 1 rfl, n_emp]
    rw [i_bool]
    refine ⟨fun h => by rw [h]; exact chk _ id (.inr (.inl (by simpa using h))), fun q2 => ?_⟩
    refine c_val plain_chk1 (c_eq (hst 83) ?_)
    simp +contextual only [rs, gs, fa_s3, st_s ho 1 rfl, n_emp]
    rw [i_bool]
    refine ⟨fun h => by rw [h]; exact chk _ id (.inr (.inr (.inl (by simpa using h)))), fun q3 => ?_⟩
    refine c_val plain_chk1 (c_eq (hst 84) ?_)
    simp +contextual only [rs, gs, fa_s4, st_t ho 1 rfl, n_emp]
    by_cases q4 : 84 ∉ u ∧ x.t ≠ []
    · rw [show (!decide (84 ∈ u) && decide (x.t ≠ [])) = true by simp [q4.1, q4.2]]
      exact chk _ id (.inr (.inr (.inr q4)))
    rw [show (!decide (84 ∈ u) && decide (x.t ≠ [])) = false by
      simp at q4 ⊢
      exact q4]
    have c1 : ¬ ((65 ∉ u ∧ x.a ≠ 0) ∨ (66 ∉ u ∧ x.b ≠ 0) ∨ (83 ∉ u ∧ x.s ≠ []) ∨ (84 ∉ u ∧ x.t ≠ [])) := by
      simp at q1 q2 q3 q4 ⊢
      exact ⟨q1, q2, q3, q4⟩
    refine hJ _ _ fun _ => ?_
    clear hJ bad chk
    simp only [S_script_Check_0, gd, rs, fa_s1, st_a ho 1 rfl]
    refine join fun J hJ => ?_
    have bad : ¬ ((0 ≤ x.a ∧ x.a ≤ 2147483647) ∧ 0 ≤ x.b ∧ x.b ≤ 2147483647) → J [.bool true] w3 := by
      intro e
      refine hJ _ _ fun _ => ?_
      simp only [S_script_Check_1, gd, rs]
      refine hK _ _ ⟨?_, ho.done⟩
      rw [Sc.check, hu]
      simp only
      rw [if_neg c1, if_pos (by omega)]
    refine c_eq (swithin_ret x.a w3) ?_
    by_cases r1 : 0 ≤ x.a ∧ x.a ≤ 2147483647
    · simp only [r1, decide_true, Bool.not_true, rs, and_self, fa_s2, st_b ho 1 rfl]
      refine c_eq (swithin_ret x.b w3) ?_
      by_cases r2 : 0 ≤ x.b ∧ x.b ≤ 2147483647
      · simp only [r2, decide_true, Bool.not_true, rs, and_self]
        have c2 : ¬ (x.a < 0 ∨ 2147483647 < x.a ∨ x.b < 0 ∨ 2147483647 < x.b) := by omega
        refine hJ _ _ fun _ => ?_
        clear hJ bad
        simp only [S_script_Check_1, gd, rs, fa_s3, st_s ho 1 rfl, s_len Tryz.underlying9]
        refine join fun J hJ => ?_
        by_cases r3 : (32767 : Int) < (x.s.length : Int)
        · simp only [r3, decide_true, rs]
          refine hJ _ _ fun _ => ?_
          simp only [S_script_Check_2, gd, rs]
          refine hK _ _ ⟨?_, ho.done⟩
          rw [Sc.check, hu]
          simp only
          rw [if_neg c1, if_neg c2, if_pos (by omega)]
        · simp only [r3, decide_false, rs, fa_s4, st_t ho 1 rfl, s_len Tryz.underlying9]
          refine hJ _ _ fun _ => ?_
          by_cases r4 : (32767 : Int) < (x.t.length : Int)
          · simp only [S_script_Check_2, gd, rs, r4, decide_true]
            refine hK _ _ ⟨?_, ho.done⟩
            rw [Sc.check, hu]
            simp only
            rw [if_neg c1, if_neg c2, if_pos (by omega)]
          · simp only [S_script_Check_2, gd, rs, r4, decide_false]
            refine hK _ _ ⟨?_, ho.done⟩
            rw [Sc.check, hu]
            simp only
            rw [if_neg c1, if_neg c2, if_neg (by omega)]
      · simp only [r2, decide_false, Bool.not_false, rs]
        exact bad fun h => r2 h.2
    · simp only [r1, decide_false, Bool.not_false, rs]
      exact bad fun h => r1 h.1
end Go.Proofs.YtjajlcacbbnodaaGreatDoor
/- Contracts: script (word, kind); slices.Index over strings. -/
namespace Go.Proofs.YtjajlcacbbnodaaGreatDoor
set_option linter.unusedVariables false
set_option linter.unusedSimpArgs false
set_option linter.defProp false
open Eng Go.RowKit

def wordsT : List UInt8 := [111, 112, 101, 110, 32, 110, 101, 119, 32, 112, 117, 116, 32, 100, 114, 111, 112, 32, 105, 110, 115, 101, 114, 116, 32, 114, 101, 109, 111, 118, 101, 32, 109, 111, 118, 101, 32, 110, 97, 109, 101, 32, 102, 105, 108, 108, 32, 99, 108, 101, 97, 110, 32, 115, 97, 118, 101, 32, 114, 101, 111, 112, 101, 110, 32, 116, 101, 120, 116, 32, 102, 105, 110, 100, 32, 99, 111, 117, 110, 116, 32, 111, 98, 106, 101, 99, 116, 32, 97, 117, 100, 105, 116, 32, 115, 112, 111, 105, 108, 32, 111, 117, 116, 108, 105, 110, 101, 32, 102, 105, 101, 108, 100, 115, 32, 99, 111, 110, 116, 101, 110, 116, 115]
/-- strings.asciiSpace is laid. -/
abbrev Sp (w : World) : Prop := Lib.TabIs Tryz.prog w "strings.asciiSpace" .u8 Lib.asciiSpaceTab
theorem Sp.mono {w w' : World} (h : Sp w) (hb : Below w.heap.size w w') : Sp w' :=
  Go.Joins.tab_stays (show Tryz.prog.globalNamed "strings.asciiSpace" = some 0 by kernel_rfl) h hb (Nat.le_refl _)
theorem Sp.own {w w' : World} {L : List Ent} (h : Sp w) (ho : Own w w' L) : Sp w' := h.mono ho.done
theorem words_fields : Lib.fields wordsT = Sc.words := by decide +kernel
theorem words_ascii : wordsT.all (fun b => decide (b.toNat < 128)) = true := by decide +kernel
theorem fields_ret (w : World) (hs : Sp w) : Ret Tryz.prog 151 #[.string ⟨wordsT.toArray⟩] w (fun v w' => Own w w' [StrRow v Sc.words]) := by
  refine ret_of fun K hK => Calls.mono (Tryz.strings_Fields ⟨wordsT.toArray⟩ w (by decide +kernel) (fun j b h => ?_) hs) ?_
  · have hm := List.mem_of_getElem? h
    exact of_decide_eq_true (List.all_eq_true.1 words_ascii b hm)
  · rintro e w' ⟨rfl, rfl⟩
    have ho := (Own.start w).alloc (strsV Sc.words) 9
    have := ho.toRow 1 21 21 (by rfl) (by omega) (by omega)
    refine hK _ _ ?_
    have e : (⟨wordsT.toArray⟩ : ByteArray).data.toList = wordsT := rfl
    rw [e, words_fields]
    exact this
theorem scword_ret (k : Int) (w : World) (hs : Sp w) (h1 : 1 ≤ k) (h2 : k ≤ 21) : Ret Tryz.prog 78 #[.int .i64 k] w (fun v w' => v = .string ⟨(Sc.word k).toArray⟩ ∧ Below w.heap.size w w') := by
  refine ret_of fun K hK => S_script_word_ok ?_
  unfold S_script_word
  refine c_ret (fields_ret w hs) fun v w1 ho => ?_
  have hsl := ho.slRow 0 rfl
  have hwl : Sc.words.length = 21 := rfl
  have hi : k.toNat - 1 < Sc.words.length := by omega
  simp only [rs]
  rw [wrap64_id (by omega) (by omega)]
  refine sl_ia1 (.string ⟨(Sc.words[k.toNat - 1]).toArray⟩) Tryz.underlying22 (by kernel_rfl) hsl (by omega) (by rw [show (k - 1).toNat = k.toNat - 1 by omega]; exact strsV_get hi) fun q hq => ?_
  rw [l_cell nStr hq]
  refine hK _ _ ⟨?_, ho.done⟩
  rw [Sc.word, List.getD_eq_getElem?_getD, List.getElem?_eq_getElem hi]; rfl
theorem idx_at {l : List (List UInt8)} {x : List UInt8} {i : Nat} (h : i < l.length) (hn : x ∉ l.take i) (he : l[i] = x) : l.idxOf x = i := by
  have e : l = l.take i ++ (l[i] :: l.drop (i + 1)) := by
    rw [← List.drop_eq_getElem_cons h, List.take_append_drop]
  rw [e, List.idxOf_append, if_neg hn, he, List.idxOf_cons_self, List.length_take]
  omega
theorem sindex_ret (va : Value) (l : List (List UInt8)) (x : List UInt8) (w : World) (ha : Sl w va 1 l.length (strsV l)) (hl : l.length ≤ 1099511627776) :
    Ret Tryz.prog 157 #[va, .string ⟨x.toArray⟩] w (fun v w' => v = .int .i64 (if l.idxOf x < l.length then (l.idxOf x : Int) else -1) ∧ w = w') := by
  refine ret_of fun K hK => S_slices_Index_string_string_ok ?_
  unfold S_slices_Index_string_string
  rw [sl_len Tryz.underlying22 ha]
  refine loop (fun vs w' => ∃ (i : Nat), vs = [.int .i64 i] ∧ i ≤ l.length ∧ x ∉ l.take i ∧ w = w') (fun vs _ => l.length - n0 vs) ⟨0, rfl, by omega, by simp, rfl⟩ ?_
  rintro vs w2 ⟨i, rfl, hi, hm, rfl⟩ _
  simp only [S_slices_Index_string_string_0, gd, rs]
  by_cases hlt : (i : Int) < (l.length : Int)
  · have hi' : i < l.length := by omega
    simp only [hlt, decide_true, rs]
    refine sl_ia1 (.string ⟨(l[i]).toArray⟩) Tryz.underlying22 (by kernel_rfl) ha (by omega) (by rw [Int.toNat_natCast]; exact strsV_get hi') fun q hq => ?_
    rw [l_cell nStr hq]
    simp only [rs]
    by_cases he : x = l[i]
    · simp only [← he, decide_true, rs]
      have := idx_at hi' hm he.symm
      exact hK _ _ ⟨by rw [this, if_pos hi'], rfl⟩
    · simp only [he, decide_false, rs]
      rw [wrap64_id (by omega) (by omega)]
      refine nextX ⟨i + 1, rfl, by omega, ?_, rfl⟩ (by simp [n0, intOf]; omega)
      rw [List.take_add_one, List.getElem?_eq_getElem hi']
      simp only [Option.toList, List.mem_append, List.mem_singleton, not_or]
      exact ⟨hm, he⟩
  · simp only [hlt, decide_false, i_f]
    rw [List.take_of_length_le (by omega)] at hm
    exact hK _ _ ⟨by rw [if_neg (by rw [List.idxOf_lt_length_iff]; exact hm)], rfl⟩
def kindV (h : List UInt8) : Value := .tuple #[.int .i64 ((Sc.kind h).getD 0), .bool (Sc.kind h).isSome]
theorem skind_ret (h : List UInt8) (w : World) (hs : Sp w) : Ret Tryz.prog 83 #[.string ⟨h.toArray⟩] w (fun v w' => v = kindV h ∧ Below w.heap.size w w') := by
  refine ret_of fun K hK => S_script_kind_ok ?_
  unfold S_script_kind
  refine c_ret (fields_ret w hs) fun v w1 ho => ?_
  have hwl : Sc.words.length = 21 := rfl
  refine c_eq (sindex_ret v Sc.words h w1 (ho.slRow 0 rfl) (by omega)) ?_
  rw [hwl]
  by_cases hk : Sc.words.idxOf h < 21
  · simp only [if_pos hk, rs, show (0 : Int) ≤ (Sc.words.idxOf h : Int) by omega, decide_true]
    rw [wrap64_id (by omega) (by omega)]
    exact hK _ _ ⟨by rw [kindV, Sc.kind, if_pos hk]; rfl, ho.done⟩
  · simp only [if_neg hk, rs]
    exact hK _ _ ⟨by rw [kindV, Sc.kind, if_neg hk]; rfl, ho.done⟩
end Go.Proofs.YtjajlcacbbnodaaGreatDoor
/- Plain mathematics of layer 55: the reference's way back. -/
namespace Go.Proofs.YtjajlcacbbnodaaGreatDoor
set_option linter.unusedVariables false
set_option linter.unusedSimpArgs false
set_option linter.defProp false
open Go
namespace Sc
open Lx
def num : Nat → List UInt8 → Nat × Nat
  | n, [] => (n, 0)
  | n, c :: t => if dig c = true ∧ n ≤ 2147483647 then ((num (10 * n + (c.toNat - 48)) t).1, (num (10 * n + (c.toNat - 48)) t).2 + 1) else (n, 0)
theorem val_ge : ∀ (l : List UInt8) (n : Nat), n ≤ val n l
  | [], n => Nat.le_refl _
  | c :: l, n => by rw [val_cons]; have := val_ge l (10 * n + (c.toNat - 48)); omega
theorem num_digs : ∀ (l : List UInt8) (n : Nat) (r : List UInt8), l.all dig = true → val n l ≤ 2147483647 → (r = [] ∨ ∃ t, r = 32 :: t) → num n (l ++ r) = (val n l, l.length)
  | [], n, r, _, _, hr => by
    rcases hr with rfl | ⟨t, rfl⟩
    · rfl
    · rw [List.nil_append, num, if_neg (fun h => absurd h.1 (by decide))]; rfl
  | c :: l, n, r, hd, hv, hr => by
    simp only [List.all_cons, Bool.and_eq_true] at hd
    rw [val_cons] at hv
    have := val_ge l (10 * n + (c.toNat - 48))
    rw [List.cons_append, num, if_pos ⟨hd.1, by omega⟩, num_digs l _ r hd.2 hv hr, val_cons]; rfl
theorem num_itoa {m : Int} (h0 : 0 ≤ m) (h1 : m ≤ 2147483647) (r : List UInt8) (hr : r = [] ∨ ∃ t, r = 32 :: t) : num 0 (Lib.itoa m ++ r) = (m.toNat, (Lib.itoa m).length) := by
  rcases Pl.itoa_shape m with ⟨u, hu, e⟩ | ⟨u, hu, hp, e⟩
  · obtain ⟨d1, d2⟩ := Pl.dec_val u
    have hv : val 0 (Lib.decDigits u) = u := by
      have := val_fx (Lib.decDigits u) 0 d2
      rw [show ((0 : Nat) : Int) = 0 from rfl, d1] at this; omega
    rw [e, num_digs _ 0 r d2 (by omega) hr, hv]
    congr 1
    omega
  · omega
/-- A string's bytes up to the bracket that ends it, and how many. -/
def quo : Nat → List UInt8 → List UInt8 × Nat
  | 0, _ => ([], 0)
  | _ + 1, [] => ([], 0)
  | f + 1, c :: t =>
    if c = 41 then ([], 0)
    else if c ≠ 92 then (c :: (quo f t).1, (quo f t).2 + 1)
    else if 3 ≤ t.length ∧ 48 ≤ (t.getD 0 0).toNat ∧ (t.getD 0 0).toNat ≤ 51 then ((((t.getD 0 0) - 48) * 64 + ((t.getD 1 0) - 48) * 8 + ((t.getD 2 0) - 48)) :: (quo f (t.drop 3)).1, (quo f (t.drop 3)).2 + 4)
    else if 1 ≤ t.length then (t.getD 0 0 :: (quo f (t.drop 1)).1, (quo f (t.drop 1)).2 + 2)
    else ((quo f t).1, (quo f t).2 + 1)
theorem oct_byte (c : UInt8) : (UInt8.ofNat (48 + c.toNat / 64) - 48) * 64 + (UInt8.ofNat (48 + c.toNat / 8 % 8) - 48) * 8 + (UInt8.ofNat (48 + c.toNat % 8) - 48) = c ∧
    48 ≤ (UInt8.ofNat (48 + c.toNat / 64)).toNat ∧ (UInt8.ofNat (48 + c.toNat / 64)).toNat ≤ 51 := all8 (p := fun c => (UInt8.ofNat (48 + c.toNat / 64) - 48) * 64 + (UInt8.ofNat (48 + c.toNat / 8 % 8) - 48) * 8 + (UInt8.ofNat (48 + c.toNat % 8) - 48) = c ∧
    48 ≤ (UInt8.ofNat (48 + c.toNat / 64)).toNat ∧ (UInt8.ofNat (48 + c.toNat / 64)).toNat ≤ 51) (by decide +kernel) c
theorem quo_escs : ∀ (l r : List UInt8) (f : Nat), l.length < f → quo f (l.flatMap Pl.esc ++ 41 :: r) = (l, (l.flatMap Pl.esc).length)
  | [], r, f, h => by
    obtain ⟨f, rfl⟩ : ∃ g, f = g + 1 := ⟨f - 1, by simp at h; omega⟩
    rw [List.flatMap_nil, List.nil_append, quo, if_pos rfl]; rfl
  | c :: l, r, f, h => by
    obtain ⟨f, rfl⟩ : ∃ g, f = g + 1 := ⟨f - 1, by simp at h; omega⟩
    have ih := quo_escs l r f (by simp at h; omega)
    rw [List.flatMap_cons, List.append_assoc]
    by_cases h1 : c = 40 ∨ c = 41 ∨ c = 92
    · rw [Pl.esc, if_pos h1, List.cons_append, List.cons_append, List.nil_append, quo, if_neg (show ¬ ((92 : UInt8) = 41) by decide), if_neg (show ¬ ((92 : UInt8) ≠ 92) by decide), if_neg, if_pos (by simp)]
      · simp [ih]
      · rcases h1 with rfl | rfl | rfl <;> simp
    · by_cases h2 : c.toNat < 32 ∨ 126 < c.toNat
      · obtain ⟨o1, o2, o3⟩ := oct_byte c
        rw [Pl.esc, if_neg h1, if_pos h2, Pl.oct, List.cons_append, List.cons_append, List.cons_append, List.cons_append, List.nil_append, quo, if_neg (show ¬ ((92 : UInt8) = 41) by decide), if_neg (show ¬ ((92 : UInt8) ≠ 92) by decide), if_pos]
        · simp only [List.getD_cons_zero, List.getD_cons_succ, List.drop_succ_cons, List.drop_zero, ih, o1]
          simp
        · exact ⟨by simp, o2, o3⟩
      · rw [Pl.esc, if_neg h1, if_neg h2, List.cons_append, List.nil_append, quo, if_neg (fun e => h1 (.inr (.inl e))), if_pos (fun e => h1 (.inr (.inr e))), ih]
        simp
theorem quo_str (l r : List UInt8) (f : Nat) (h : l.length < f) : quo f ((Pl.str l ++ r).drop 1) = (l, (Pl.str l).length - 2) := by
  have := quo_escs l r f h
  rw [Pl.str]
  simp only [List.cons_append, List.nil_append, List.append_assoc, List.drop_succ_cons, List.drop_zero]
  rw [this]
  simp
/-- The reference's fields: the step so far, and where. -/
def takesR (l : List UInt8) : List UInt8 → Step → Nat → Step
  | [], x, _ => x
  | c :: u, x, at_ =>
    if at_ + 1 < l.length then
      if c = 65 then takesR l u { x with a := (num 0 (l.drop (at_ + 1))).1 } (at_ + 1 + (num 0 (l.drop (at_ + 1))).2)
      else if c = 66 then takesR l u { x with b := (num 0 (l.drop (at_ + 1))).1 } (at_ + 1 + (num 0 (l.drop (at_ + 1))).2)
      else if c = 83 then takesR l u { x with s := (quo l.length (l.drop (at_ + 2))).1 } (at_ + 2 + (quo l.length (l.drop (at_ + 2))).2 + 1)
      else if c = 84 then takesR l u { x with t := (quo l.length (l.drop (at_ + 2))).1 } (at_ + 2 + (quo l.length (l.drop (at_ + 2))).2 + 1)
      else takesR l u x (at_ + 1)
    else x
def parseR (l : List UInt8) : Step × Int :=
  if 65535 < l.length then (none', 5)
  else if line (takesR l ((uses ((kind (head l)).getD 0)).getD []) ⟨(kind (head l)).getD 0, 0, 0, [], []⟩ (head l).length) = (l, 0)
    then (takesR l ((uses ((kind (head l)).getD 0)).getD []) ⟨(kind (head l)).getD 0, 0, 0, [], []⟩ (head l).length, 0) else (none', 33)
theorem itoa_ne (n : Int) : 1 ≤ (Lib.itoa n).length := by
  have dec : ∀ u : Nat, 1 ≤ (Lib.decDigits u).length := by
    intro u
    rw [Lib.decDigits_length u]; unfold Lib.nDigits; split <;> omega
  rcases Pl.itoa_shape n with ⟨u, hu, e⟩ | ⟨u, hu, hp, e⟩ <;> rw [e]
  · exact dec u
  · simp
theorem str_len_gt (l : List UInt8) : l.length + 2 ≤ (Pl.str l).length := by
  rw [Pl.str]
  have : ∀ l : List UInt8, l.length ≤ (l.flatMap Pl.esc).length := by
    intro l
    induction l with
    | nil => simp
    | cons c l ih => have := (Pl.esc_len c).1; rw [List.flatMap_cons, List.length_append, List.length_cons]; omega
  have := this l
  simp only [List.length_append, List.length_cons, List.length_nil]; omega
theorem takesR_back (x : Step) (h : check x = 0) : ∀ (u pre : List UInt8) (z : Step), (∀ c ∈ u, c = 65 ∨ c = 66 ∨ c = 83 ∨ c = 84) →
    takesR (pre ++ fields x u) u z pre.length = puts x u z
  | [], pre, z, _ => rfl
  | c :: u, pre, z, hu => by
    obtain ⟨_, _, _, _, _, _, _, _, ha0, ha1, hb0, hb1, hs, ht⟩ := check_zero h
    have e : pre ++ fields x (c :: u) = (pre ++ (32 :: field x c)) ++ fields x u := by rw [fields_cons]; simp
    have hL : (pre ++ fields x (c :: u)).length = pre.length + 1 + (field x c).length + (fields x u).length := by rw [e]; simp; omega
    have hd1 : (pre ++ fields x (c :: u)).drop (pre.length + 1) = field x c ++ fields x u := by
      rw [fields_cons, ← List.drop_drop, List.drop_left]; rfl
    have hd2 : (pre ++ fields x (c :: u)).drop (pre.length + 2) = (field x c ++ fields x u).drop 1 := by
      rw [← hd1, List.drop_drop]
    have ih := fun z => takesR_back x h u (pre ++ (32 :: field x c)) z (fun d hd => hu d (List.mem_cons_of_mem _ hd))
    rw [← e] at ih
    have hp : (pre ++ 32 :: field x c).length = pre.length + 1 + (field x c).length := by simp; omega
    rw [hp] at ih
    rcases hu c (List.mem_cons_self ..) with rfl | rfl | rfl | rfl
    · have hf : field x 65 = Lib.itoa x.a := rfl
      have := itoa_ne x.a
      rw [takesR, if_pos (by rw [hL, hf]; omega), if_pos rfl, hd1, hf, num_itoa ha0 ha1 _ (fields_head x u), puts, if_pos rfl, ← ih, hf]
      simp only
      rw [Int.toNat_of_nonneg ha0]
    · have hf : field x 66 = Lib.itoa x.b := rfl
      have := itoa_ne x.b
      rw [takesR, if_pos (by rw [hL, hf]; omega), if_neg (by decide), if_pos rfl, hd1, hf, num_itoa hb0 hb1 _ (fields_head x u), puts, if_neg (by decide), if_pos rfl, ← ih, hf]
      simp only
      rw [Int.toNat_of_nonneg hb0]
    · have hf : field x 83 = Pl.str x.s := rfl
      have := str_len_gt x.s
      rw [takesR, if_pos (by rw [hL, hf]; omega), if_neg (by decide), if_neg (by decide), if_pos rfl, hd2, hf, quo_str _ _ _ (by rw [hL, hf]; omega), puts, if_neg (by decide), if_neg (by decide), if_pos rfl, ← ih, hf]
      simp only
      congr 1
      omega
    · have hf : field x 84 = Pl.str x.t := rfl
      have := str_len_gt x.t
      rw [takesR, if_pos (by rw [hL, hf]; omega), if_neg (by decide), if_neg (by decide), if_neg (by decide), if_pos rfl, hd2, hf, quo_str _ _ _ (by rw [hL, hf]; omega), puts, if_neg (by decide), if_neg (by decide), if_neg (by decide), ← ih, hf]
      simp only
      congr 1
      omega
theorem parseR_back {x : Step} {l : List UInt8} (h : line x = (l, 0)) : parseR l = (x, 0) := by
  obtain ⟨hc, hl, hn⟩ := line_zero h
  obtain ⟨u, hu, h1, h2, _⟩ := check_zero hc
  unfold parseR
  rw [if_neg (by omega)]
  have hh : head l = word x.k := by rw [hl]; exact head_line x h1 h2
  rw [hh, kind_word h1 h2, Option.getD_some, hu, Option.getD_some]
  have ht := takesR_back x hc u (word x.k) ⟨x.k, 0, 0, [], []⟩ (uses_ok hu)
  have e : word x.k ++ fields x u = l := by rw [hl, lineT, hu, Option.getD_some]
  rw [e, puts_all x hc hu (uses_ok hu)] at ht
  rw [ht, if_pos h]
theorem parseR_eq (l : List UInt8) : parseR l = parse l := by
  rcases parse_spec l with ⟨x, hx, hp⟩ | ⟨hn, hp⟩
  · rw [hp, parseR_back hx]
  · rw [hp]
    unfold parseR
    split
    · rfl
    · rw [if_neg (hn _)]
end Sc
end Go.Proofs.YtjajlcacbbnodaaGreatDoor
/- Contracts: script (Line). -/
namespace Go.Proofs.YtjajlcacbbnodaaGreatDoor
set_option linter.unusedVariables false
set_option linter.unusedSimpArgs false
set_option linter.defProp false
open Eng Go.RowKit

theorem itoa1_ret (n : Int) (w : World) (ht : Tb w) (h0 : 0 ≤ n) (h1 : n ≤ 2147483647) : Ret Tryz.prog 79 #[.int .i64 n] w (fun v w' => v = .string ⟨(Lib.itoa n).toArray⟩ ∧ Below w.heap.size w w') := by
  refine ret_of fun K hK => Calls.mono (Tryz.strconv_Itoa n (by omega) (by omega) w ht) ?_
  rintro e w' ⟨rfl, d, os, rfl⟩
  exact hK _ _ ⟨rfl, below_gr w d os⟩
theorem field_len (x : Sc.Step) (h : Sc.check x = 0) (c : UInt8) : (Sc.field x c).length ≤ 140000 := by
  obtain ⟨_, _, _, _, _, _, _, _, ha0, ha1, hb0, hb1, hs, ht⟩ := Sc.check_zero h
  have hst : ∀ l : List UInt8, l.length ≤ 32767 → (Pl.str l).length ≤ 140000 := by
    intro l hl
    have : ∀ l : List UInt8, (l.flatMap Pl.esc).length ≤ 4 * l.length := by
      intro l
      induction l with
      | nil => simp
      | cons c l ih => have := (Pl.esc_len c).2; rw [List.flatMap_cons, List.length_append, List.length_cons]; omega
    have := this l
    rw [Pl.str]
    simp only [List.length_append, List.length_cons, List.length_nil]; omega
  unfold Sc.field
  split
  · have := itoa_len30 (n := x.a) (by omega) (by omega); omega
  split
  · have := itoa_len30 (n := x.b) (by omega) (by omega); omega
  split
  · exact hst _ hs
  split
  · exact hst _ ht
  · simp
theorem fields_len (x : Sc.Step) (h : Sc.check x = 0) : ∀ u : List UInt8, (Sc.fields x u).length ≤ 140001 * u.length
  | [] => by simp [Sc.fields]
  | c :: u => by
    have := field_len x h c
    have ih := fields_len x h u
    rw [Sc.fields_cons]
    simp only [List.length_cons, List.length_append]; omega
theorem fields_snoc (x : Sc.Step) (u : List UInt8) (c : UInt8) : Sc.fields x (u ++ [c]) = Sc.fields x u ++ (32 :: Sc.field x c) := by simp [Sc.fields]
theorem words_short : ∀ i : Fin 21, (Sc.words.getD i.val []).length ≤ 8 := by decide
theorem scline_ret (x : Sc.Step) (w : World) (ht : Tb w) (hs : Sp w) : Ret Tryz.prog 25 #[stV x] w (fun v w' => v = strErrV (Sc.line x) ∧ Below w.heap.size w w') := by
  refine ret_of fun K hK => S_script_Line_ok ?_
  unfold S_script_Line
  refine o_stb x (Own.start w) fun b w1 ho => ?_
  rw [st_v ho 0 rfl]
  refine c_told (scheck_ret x w1) rfl ho fun w2 ho => ?_
  simp only [rs]
  by_cases hc : Sc.check x = 0
  case neg =>
    simp only [ne_eq, hc, not_false_eq_true, decide_true, rs]
    exact hK _ _ ⟨by rw [Sc.line, if_pos hc]; rfl, ho.done⟩
  obtain ⟨u, hu, k1, k2, _, _, _, _, ha0, ha1, hb0, hb1, hsl, htl⟩ := Sc.check_zero hc
  simp only [ne_eq, hc, not_true, decide_false, rs, fa_s0, st_k ho 0 rfl]
  refine c_eq (suses_ret x.k w2) ?_
  simp only [usesV, ex, hu, Option.getD_some, fa_s0, st_k ho 0 rfl]
  refine c_told (scword_ret x.k w2 (hs.own ho) k1 k2) rfl ho fun w3 ho => ?_
  have hul := uses_short hu
  have hwl : (Sc.word x.k).length ≤ 8 := words_short ⟨x.k.toNat - 1, by omega⟩
  refine o_range Tryz.underlying9 ho fun bi w4 ho => ?_
  refine loop (fun vs w' => ∃ (i : Nat), vs = [.string ⟨(Sc.word x.k ++ Sc.fields x (u.take i)).toArray⟩] ∧ i ≤ u.length ∧ Own w w' [.obj bi (.stringIter ⟨u.toArray⟩ i), stE b x])
    (fun _ w' => match w'.heap[bi]? with | some (.stringIter _ i) => u.length - i | _ => 0) ⟨0, by simp [Sc.fields], by omega, ho⟩ ?_
  rintro vs w5 ⟨i, rfl, hi, ho⟩ _
  simp only [S_script_Line_0, gd]
  have hfl := fields_len x hc (u.take i)
  rw [List.length_take] at hfl
  by_cases hlt : i < u.length
  · have h0 : w5.heap[bi]? = some (.stringIter ⟨u.toArray⟩ i) := ho.at_ 0 rfl
    have hcu := Sc.uses_ok hu u[i] (List.getElem_mem hlt)
    have hasc : u[i].toNat < 128 := by rcases hcu with h | h | h | h <;> rw [h] <;> decide
    refine o_next 0 ho rfl (List.getElem?_eq_getElem hlt) hasc fun w6 ho => ?_
    have ho : Own w w6 [.obj bi (.stringIter ⟨u.toArray⟩ (i + 1)), stE b x] := ho
    simp only [ex, i_t, rs]
    refine join fun J hJ => ?_
    have fin : ∀ (f : List UInt8) (W : World), f = Sc.field x u[i] → Own w W [.obj bi (.stringIter ⟨u.toArray⟩ (i + 1)), stE b x] → J [.string ⟨f.toArray⟩] W := by
      rintro f W rfl ho
      have h1 : W.heap[bi]? = some (.stringIter ⟨u.toArray⟩ (i + 1)) := ho.at_ 0 rfl
      have hf1 := field_len x hc u[i]
      refine hJ _ _ fun _ => ?_
      simp only [S_script_Line_1, gd]
      refine do_eq (run_s_add (a := [32]) (b := Sc.field x u[i]) (by simp; omega)) |>.mpr ?_
      rw [s_add (by simp; omega)]
      refine nextX ⟨i + 1, ?_, by omega, ho⟩ (by simp only [h0, h1]; omega)
      rw [List.take_add_one, List.getElem?_eq_getElem hlt]
      simp only [Option.toList, fields_snoc]
      simp
    rcases hcu with h | h | h | h
    · simp only [h, show ((65 : UInt8).toNat : Int) = 65 from rfl, decide_true, rs, fa_s1, st_a ho 1 rfl]
      exact c_told (itoa1_ret x.a w6 (ht.own ho) ha0 ha1) rfl ho fun w7 ho => fin _ w7 (by rw [h]; rfl) ho
    · simp only [h, show ((66 : UInt8).toNat : Int) = 66 from rfl, Int.reduceEq, decide_true, decide_false, rs, fa_s2, st_b ho 1 rfl]
      exact c_told (itoa1_ret x.b w6 (ht.own ho) hb0 hb1) rfl ho fun w7 ho => fin _ w7 (by rw [h]; rfl) ho
    · simp only [h, show ((83 : UInt8).toNat : Int) = 83 from rfl, Int.reduceEq, decide_true, decide_false, rs, fa_s3, st_s ho 1 rfl]
      refine c_told (pstr_ret x.s w6 (by omega)) rfl ho fun w7 ho => ?_
      simp only [ex, Pl.pStr, if_neg (show ¬ 32767 < x.s.length by omega)]
      exact fin _ w7 (by rw [h]; rfl) ho
    · simp only [h, show ((84 : UInt8).toNat : Int) = 84 from rfl, Int.reduceEq, decide_true, decide_false, rs, fa_s4, st_t ho 1 rfl]
      refine c_told (pstr_ret x.t w6 (by omega)) rfl ho fun w7 ho => ?_
      simp only [ex, Pl.pStr, if_neg (show ¬ 32767 < x.t.length by omega)]
      exact fin _ w7 (by rw [h]; rfl) ho
  · rw [o_next_end 0 ho rfl (by omega)]
    have hi2 : i = u.length := by omega
    subst hi2
    have eT : Sc.word x.k ++ Sc.fields x u = Sc.lineT x := by rw [Sc.lineT, hu, Option.getD_some]
    simp only [ex, i_f, rs, List.take_length, s_len Tryz.underlying9, eT]
    by_cases hbig : (65535 : Int) < ((Sc.lineT x).length : Int)
    · simp only [hbig, decide_true, rs]
      exact hK _ _ ⟨by rw [Sc.line, if_neg (by simp [hc]), if_pos (by omega)]; rfl, ho.done⟩
    · simp only [hbig, decide_false, rs]
      exact hK _ _ ⟨by rw [Sc.line, if_neg (by simp [hc]), if_neg (by omega)]; rfl, ho.done⟩
end Go.Proofs.YtjajlcacbbnodaaGreatDoor
/- Contracts: script (taken). -/
namespace Go.Proofs.YtjajlcacbbnodaaGreatDoor
set_option linter.unusedVariables false
set_option linter.unusedSimpArgs false
set_option linter.defProp false
open Eng Go.RowKit

theorem fs_t3 {b : Nat} {w : World} {PK : List PanicEntry → World → Prop} {K : Value → World → Prop} : DoX Tryz.prog (mFA 41 (.pointer (some ⟨b, 0, none⟩)) 3) w PK K = K (.pointer (some ⟨b, 3, none⟩)) w := f_addr (show fOff Tryz.prog 41 3 = some 3 by kernel_rfl)
theorem fs_t4 {b : Nat} {w : World} {PK : List PanicEntry → World → Prop} {K : Value → World → Prop} : DoX Tryz.prog (mFA 41 (.pointer (some ⟨b, 0, none⟩)) 4) w PK K = K (.pointer (some ⟨b, 4, none⟩)) w := f_addr (show fOff Tryz.prog 41 4 = some 4 by kernel_rfl)
theorem ns_i64 : notAgg Tryz.prog 2 = true := by kernel_rfl
theorem fo_t0 : fOff Tryz.prog 41 0 = some 0 := by kernel_rfl
theorem r_eqi {T : TypeId} {xo yo : Operand} {k : IntKind} {a b : Int} {w : World} : (mEq .eql T xo yo (.int k a) (.int k b)).run Tryz.prog w = .ok (.value (.bool (decide (a = b)))) w := mv_run (by simp [eqGuard, binOp, Op.intCmp, int_beq])
def takenV (x : Sc.Step) (c : UInt8) (t : Lx.Tok) : Value := .tuple #[stV (Sc.put x c t.n t.s), .bool (decide (t.k = Sc.want c))]
theorem taken_ret (x : Sc.Step) (c : UInt8) (t : Lx.Tok) (w : World) (hc : c = 65 ∨ c = 66 ∨ c = 83 ∨ c = 84) : Ret Tryz.prog 85 #[stV x, .int .i32 (c.toNat : Int), tokV t] w (fun v w' => v = takenV x c t ∧ Below w.heap.size w w') := by
  refine ret_of fun K hK => S_script_taken_ok ?_
  unfold S_script_taken
  refine o_stb x (Own.start w) fun b3 w1 ho => ?_
  refine o_new (fun b => .pointer (some ⟨b, 0, none⟩)) (tokC t) 41 (fun _ => by kernel_rfl) ho fun b5 w2 ho => ?_
  refine o_sta ho fun b6 w3 ho => ?_
  have ho : Own w w3 [stE b6 Sc.none', tokE b5 t, stE b3 x] := ho
  have fin : ∀ (y : Sc.Step) (W : World), y = Sc.put x c t.n t.s → Own w W [stE b6 Sc.none', tokE b5 t, stE b3 y] → S_script_taken_1 (.pointer (some ⟨b3, 0, none⟩)) (.pointer (some ⟨b5, 0, none⟩)) (.pointer (some ⟨b6, 0, none⟩)) (.int .i64 (Sc.want c)) W K := by
    rintro y W rfl ho
    unfold S_script_taken_1
    refine ⟨fun W' => ∃ z, Own w W' [stE b6 z, tokE b5 t, stE b3 (Sc.put x c t.n t.s)], ⟨_, ho.drew⟩, ?_⟩
    refine ⟨_, fun W' ⟨z, h⟩ => run_load_at (h.agg 2 rfl aggSt), ?_⟩
    refine ⟨_, fun W' _ => run_fa fo_t0, ?_⟩
    refine ⟨_, fun W' ⟨z, h⟩ => run_load_cell nInt (h.cell 1 rfl 0 rfl), ?_⟩
    refine ⟨_, fun W' _ => r_eqi, ?_⟩
    refine st_set 0 (Sc.put x c t.n t.s) ho.drew rfl fun w' ho' => ?_
    have ho' : Own w w' [stE b6 (Sc.put x c t.n t.s), tokE b5 t, stE b3 (Sc.put x c t.n t.s)] := ho'
    exact ⟨⟨_, ho'⟩, ret_v2 (rv_cell (ho'.agg 0 rfl aggSt)) rv_val (hK _ _ ⟨rfl, ho'.done⟩)⟩
  have ln : ∀ {PK : List PanicEntry → World → Prop} {K : Value → World → Prop}, DoX Tryz.prog (mLoad 2 (.pointer (some ⟨b5, 3, none⟩))) w3 PK K = K (.int .i64 t.n) w3 := l_cell ns_i64 (ho.cell 1 rfl 3 rfl)
  have ls : ∀ {PK : List PanicEntry → World → Prop} {K : Value → World → Prop}, DoX Tryz.prog (mLoad 9 (.pointer (some ⟨b5, 4, none⟩))) w3 PK K = K (.string ⟨t.s.toArray⟩) w3 := l_cell nStr (ho.cell 1 rfl 4 rfl)
  refine join fun J hJ => ?_
  have mid : ∀ (v : Value), v = .int .i64 (Sc.want c) → J [v] w3 := by
    rintro v rfl
    refine hJ _ _ fun _ => ?_
    clear hJ
    simp only [S_script_taken_0, gd]
    refine join fun J hJ => ?_
    rcases hc with rfl | rfl | rfl | rfl
    · simp only [show ((65 : UInt8).toNat : Int) = 65 from rfl, Int.reduceEq, decide_true, decide_false, rs, fs_t3, ln, fa_s1]
      refine o_store 2 ho rfl (v := .int .i64 t.n) szInt' rfl (by simp [stC]) fun w4 ho => hJ _ _ fun _ => fin _ w4 rfl ho
    · simp only [show ((66 : UInt8).toNat : Int) = 66 from rfl, Int.reduceEq, decide_true, decide_false, rs, fs_t3, ln, fa_s2]
      refine o_store 2 ho rfl (v := .int .i64 t.n) szInt' rfl (by simp [stC]) fun w4 ho => hJ _ _ fun _ => fin _ w4 rfl ho
    · simp only [show ((83 : UInt8).toNat : Int) = 83 from rfl, Int.reduceEq, decide_true, decide_false, rs, fs_t4, ls, fa_s3]
      refine o_store 2 ho rfl (v := .string ⟨t.s.toArray⟩) szStr' rfl (by simp [stC]) fun w4 ho => hJ _ _ fun _ => fin _ w4 rfl ho
    · simp only [show ((84 : UInt8).toNat : Int) = 84 from rfl, Int.reduceEq, decide_true, decide_false, rs, fs_t4, ls, fa_s4]
      refine o_store 2 ho rfl (v := .string ⟨t.s.toArray⟩) szStr' rfl (by simp [stC]) fun w4 ho => hJ _ _ fun _ => fin _ w4 rfl ho
  clear hJ
  rcases hc with rfl | rfl | rfl | rfl
  · simp only [show ((65 : UInt8).toNat : Int) = 65 from rfl, Int.reduceEq, decide_true, decide_false, rs, g_un]
    exact mid _ rfl
  · simp only [show ((66 : UInt8).toNat : Int) = 66 from rfl, Int.reduceEq, decide_true, decide_false, rs, g_un]
    exact mid _ rfl
  · simp only [show ((83 : UInt8).toNat : Int) = 83 from rfl, Int.reduceEq, decide_true, decide_false, rs, g_un]
    exact mid _ rfl
  · simp only [show ((84 : UInt8).toNat : Int) = 84 from rfl, Int.reduceEq, decide_true, decide_false, rs, g_un]
    exact mid _ rfl
end Go.Proofs.YtjajlcacbbnodaaGreatDoor
/- Contracts: script (Parse). -/
namespace Go.Proofs.YtjajlcacbbnodaaGreatDoor
set_option linter.unusedVariables false
set_option linter.unusedSimpArgs false
set_option linter.defProp false
open Eng Go.RowKit

def parV (r : Sc.Step × Int) : Value := .tuple #[stV r.1, .int .i64 r.2]
theorem st_put {w w0 : World} {L : List Ent} {PK : List PanicEntry → World → Prop} {KE : Ending → World → Prop} (i : Nat) {b : Nat} {x : Sc.Step} (y : Sc.Step) {e : Int} (ho : Own w0 w L) (hi : L[i]? = some (stE b x)) (k : ∀ w', Own w0 w' (L.set i (stE b y)) → KE (.returned (parV (y, e))) w') :
    DoX Tryz.prog (mStore 43 (.pointer (some ⟨b, 0, none⟩)) (stV y)) w PK fun _ w => RetX Tryz.prog [.cell (.pointer (some ⟨b, 0, none⟩)) 43, .val (.int .i64 e)] w KE := by
  refine st_set i y ho hi fun w' ho' => ?_
  have hi' : (L.set i (stE b y))[i]? = some (stE b y) := by
    have := (List.getElem?_eq_some_iff.1 hi).1
    simp [this]
  exact ret_v2 (rv_cell (ho'.agg i hi' aggSt)) rv_val (k w' ho')
theorem sparse_ret (l : List UInt8) (w : World) (ht : Tb w) (hs : Sp w) (hl : l.length ≤ 1099511627776) : Ret Tryz.prog 27 #[.string ⟨l.toArray⟩] w (fun v w' => v = parV (Sc.parse l) ∧ Below w.heap.size w w') := by
  refine ret_of fun K hK => S_script_Parse_ok ?_
  unfold S_script_Parse
  refine o_sta (Own.start w) fun b2 w1 ho => ?_
  simp only [s_len Tryz.underlying9, rs]
  by_cases hbig : (65535 : Int) < (l.length : Int)
  · simp only [hbig, decide_true, rs, m_st0]
    exact st_put 0 _ ho rfl fun w' ho => hK _ _ ⟨by rw [Sc.parse, if_pos (by omega)], ho.done⟩
  simp only [hbig, decide_false, rs]
  have hp : Sc.parse l = (match Sc.kind (Sc.head l) with
    | none => (Sc.none', 33)
    | some k => match Sc.takes l ((Sc.uses k).getD []) ⟨k, 0, 0, [], []⟩ (Sc.head l).length with
      | none => (Sc.none', 33)
      | some x => if Sc.line x = (l, 0) then (x, 0) else (Sc.none', 33)) := by rw [Sc.parse, if_neg (by omega)]; rfl
  rw [hp] at hK
  clear hp
  have hhl : (Sc.head l).length ≤ l.length := (List.takeWhile_prefix _).length_le
  refine c_ret (cut_ret l 32 w1 (by omega)) ?_
  rintro _ w2 ⟨⟨bq, rfl⟩, hb2⟩
  have ho := ho.grow hb2
  simp only [ex]
  refine c_told (skind_ret (Sc.head l) w2 (hs.own ho)) rfl ho fun w3 ho => ?_
  simp only [kindV, ex, rs]
  cases hk : Sc.kind (Sc.head l) with
  | none =>
    simp only [Option.isSome_none, Bool.not_false, rs, m_st0]
    exact st_put 0 _ ho rfl fun w' ho => hK _ _ ⟨by rw [hk], ho.done⟩
  | some k =>
    have hk12 : 1 ≤ k ∧ k ≤ 21 := by
      unfold Sc.kind at hk
      split at hk
      · injection hk with hk; omega
      · cases hk
    rw [hk] at hK
    simp only at hK
    have huk := Sc.uses_some hk12.1 hk12.2
    generalize Sc.usesL.getD (k.toNat - 1) [] = u at huk
    rw [huk, Option.getD_some] at hK
    simp only [Option.isSome_some, Bool.not_true, rs, m_stk, Option.getD_some]
    refine o_sta ho fun b9 w4 ho => ?_
    refine st_set 0 ⟨k, 0, 0, [], []⟩ ho rfl fun w5 ho => ?_
    have ho : Own w w5 [stE b9 ⟨k, 0, 0, [], []⟩, stE b2 Sc.none'] := ho
    refine c_eq (suses_ret k w5) ?_
    simp only [usesV, ex, huk, Option.getD_some, s_len Tryz.underlying9]
    have hul := uses_short huk
    refine o_range Tryz.underlying9 ho fun bi w6 ho => ?_
    refine loop (fun vs w' => ∃ (i : Nat) (at_ : Int) (z : Sc.Step), vs = [.int .i64 0, .int .i64 at_] ∧ i ≤ u.length ∧ Sc.takes l u ⟨k, 0, 0, [], []⟩ (Sc.head l).length = Sc.takes l (u.drop i) z at_ ∧ Own w w' [.obj bi (.stringIter ⟨u.toArray⟩ i), stE b9 z, stE b2 Sc.none'])
      (fun _ w' => match w'.heap[bi]? with | some (.stringIter _ i) => u.length - i | _ => 0) ⟨0, _, _, rfl, by omega, rfl, ho⟩ ?_
    rintro vs w7 ⟨i, at_, z, rfl, hi, hT, ho⟩ _
    rw [hT] at hK
    simp only [S_script_Parse_0, gd]
    by_cases hlt : i < u.length
    · have h0 : w7.heap[bi]? = some (.stringIter ⟨u.toArray⟩ i) := ho.at_ 0 rfl
      have hcu := Sc.uses_ok huk u[i] (List.getElem_mem hlt)
      have hasc : u[i].toNat < 128 := by rcases hcu with h | h | h | h <;> rw [h] <;> decide
      rw [List.drop_eq_getElem_cons hlt, Sc.takes] at hK hT
      refine o_next 0 ho rfl (List.getElem?_eq_getElem hlt) hasc fun w8 ho => ?_
      have ho : Own w w8 [.obj bi (.stringIter ⟨u.toArray⟩ (i + 1)), stE b9 z, stE b2 Sc.none'] := ho
      simp only [ex, i_t]
      refine tok_new ho (next_ret l at_ w8 (by omega)) rfl fun b15 w9 ho => ?_
      generalize Lx.next l at_ = nx at *
      simp only [rs]
      by_cases he : nx.2 = 0
      case neg =>
        simp only [ne_eq, he, not_false_eq_true, decide_true, rs, m_st0]
        rw [if_pos he] at hK
        exact st_put 3 _ ho rfl fun w' ho => hK _ _ ⟨rfl, ho.done⟩
      simp only [ne_eq, he, not_true, decide_false, rs, st_v ho 2 rfl]
      have lt : ∀ {PK : List PanicEntry → World → Prop} {K : Value → World → Prop}, DoX Tryz.prog (mLoad 41 (.pointer (some ⟨b15, 0, none⟩))) w9 PK K = K (tokV nx.1) w9 := l_at (ho.agg 0 rfl aggTok)
      rw [lt]
      refine c_told (taken_ret z u[i] nx.1 w9 hcu) rfl ho fun w10 ho => ?_
      simp only [takenV, ex]
      refine st_set 2 _ ho rfl fun w11 ho => ?_
      have ho : Own w w11 [tokE b15 nx.1, .obj bi (.stringIter ⟨u.toArray⟩ (i + 1)), stE b9 (Sc.put z u[i] nx.1.n nx.1.s), stE b2 Sc.none'] := ho
      rw [if_neg (by simp [he])] at hK hT
      by_cases hw : nx.1.k = Sc.want u[i]
      case neg =>
        simp only [hw, decide_false, Bool.not_false, rs, m_st0]
        rw [if_pos hw] at hK
        exact st_put 3 _ ho rfl fun w' ho => hK _ _ ⟨rfl, ho.done⟩
      have l2 : ∀ {PK : List PanicEntry → World → Prop} {K : Value → World → Prop}, DoX Tryz.prog (mLoad 3 (.pointer (some ⟨b15, 2, none⟩))) w11 PK K = K (.int .i64 nx.1.t) w11 := l_cell nInt (ho.cell 0 rfl 2 rfl)
      simp only [hw, decide_true, Bool.not_true, rs, fa_t2, l2]
      rw [if_neg (by simp [hw])] at hT
      have ho := ho.tail
      have h1 : w11.heap[bi]? = some (.stringIter ⟨u.toArray⟩ (i + 1)) := ho.at_ 0 rfl
      exact nextX ⟨i + 1, _, _, rfl, by omega, hT, ho⟩ (by simp only [h0, h1]; omega)
    · rw [o_next_end 0 ho rfl (by omega)]
      rw [List.drop_of_length_le (by omega), Sc.takes] at hK
      simp only at hK
      simp only [ex, i_f, st_v ho 1 rfl]
      refine c_told (scline_ret z w7 (ht.own ho) (hs.own ho)) rfl ho fun w8 ho => ?_
      generalize hln : Sc.line z = ln at *
      simp only [strErrV, ex, rs]
      by_cases h1 : ln.2 = 0
      · by_cases h2 : ln.1 = l
        · simp only [ne_eq, h1, h2, not_true, decide_false, rs, st_v ho 1 rfl]
          refine st_put 2 _ ho rfl fun w' ho => hK _ _ ⟨?_, ho.done⟩
          rw [if_pos (by rw [← h1, ← h2])]
        · simp only [ne_eq, h1, h2, not_true, not_false_eq_true, decide_true, decide_false, rs, m_st0]
          refine st_put 2 _ ho rfl fun w' ho => hK _ _ ⟨?_, ho.done⟩
          rw [if_neg (by rintro rfl; exact h2 rfl)]
      · simp only [ne_eq, h1, not_false_eq_true, decide_true, rs, g_un, m_st0]
        refine st_put 2 _ ho rfl fun w' ho => hK _ _ ⟨?_, ho.done⟩
        rw [if_neg (by rintro rfl; exact h1 rfl)]
end Go.Proofs.YtjajlcacbbnodaaGreatDoor
/- Plain mathematics of layer 55: scripts, lines, what is read of a script; no program in sight. -/
namespace Go.Proofs.YtjajlcacbbnodaaGreatDoor
set_option linter.unusedVariables false
set_option linter.unusedSimpArgs false
set_option linter.defProp false
open Go
namespace Sc
open Lx
def textG : List UInt8 → List Step → List UInt8 × Int
  | acc, [] => (acc, 0)
  | acc, x :: l => if (line x).2 ≠ 0 then ([], (line x).2) else textG (acc ++ (line x).1 ++ [10]) l
def text (l : List Step) : List UInt8 × Int := if 256 < l.length then ([], 6) else textG [] l
/-- Split at line feeds. -/
def lines : List UInt8 → List (List UInt8)
  | [] => [[]]
  | c :: t => if c = 10 then [] :: lines t else match lines t with
    | [] => [[c]]
    | l :: r => (c :: l) :: r
theorem lines_ne (s : List UInt8) : lines s ≠ [] := by
  cases s with
  | nil => simp [lines]
  | cons c t =>
    rw [lines]
    split
    · simp
    · split <;> simp
theorem lines_cut : ∀ s : List UInt8, lines s = match s.dropWhile (fun c => c != 10) with
    | [] => [s.takeWhile (fun c => c != 10)]
    | _ :: t => s.takeWhile (fun c => c != 10) :: lines t
  | [] => rfl
  | c :: s => by
    have ih := lines_cut s
    by_cases h : c = 10
    · subst h; simp [lines]
    · have hb : (c != 10) = true := by simpa using h
      rw [lines, if_neg h, ih]
      simp only [List.dropWhile_cons, List.takeWhile_cons, hb, if_true]
      cases s.dropWhile (fun c => c != 10) <;> rfl
/-- Behind n lines and the steps so far: the steps, or the place and the error. -/
def readG : Nat → List Step → List (List UInt8) → List Step ⊕ (Int × Int)
  | _, acc, [] => .inl acc
  | n, acc, l :: r =>
    if l = [] ∨ l.head? = some 35 then readG (n + 1) acc r
    else if acc.length = 256 then .inr ((n : Int) + 1, 6)
    else if (parse l).2 ≠ 0 then .inr ((n : Int) + 1, (parse l).2)
    else readG (n + 1) (acc ++ [(parse l).1]) r
def read (s : List UInt8) : List Step × (Int × Int) :=
  if 1048576 < s.length then ([], (0, 5)) else match readG 0 [] (lines s) with
    | .inl l => (l, (0, 0))
    | .inr f => ([], f)
def tell (e n : Int) (ls : List (List UInt8)) : List (List UInt8) :=
  if e ≠ 0 then [[101, 114, 114, 111, 114, 32] ++ Lib.itoa e] else ([111, 107, 32] ++ Lib.itoa n ++ [32] ++ Lib.itoa ls.length) :: ls
end Sc
end Go.Proofs.YtjajlcacbbnodaaGreatDoor
/- Contracts: script (Text). -/
namespace Go.Proofs.YtjajlcacbbnodaaGreatDoor
set_option linter.unusedVariables false
set_option linter.unusedSimpArgs false
set_option linter.defProp false
open Eng Go.RowKit

theorem sflat_get : ∀ (l : List Sc.Step) (k j : Nat) (hk : k < l.length), j < 5 → (l.flatMap stC)[k * 5 + j]? = (stC l[k])[j]?
  | x :: l, 0, j, _, hj => by
    rw [List.flatMap_cons, Nat.zero_mul, Nat.zero_add, List.getElem?_append_left (by simpa [stC] using hj)]; rfl
  | x :: l, k + 1, j, hk, hj => by
    have h5 : (stC x).length = 5 := rfl
    rw [List.flatMap_cons, List.getElem?_append_right (by rw [h5]; omega), h5, show (k + 1) * 5 + j - 5 = k * 5 + j by omega]
    exact sflat_get l k j (by simpa using hk) hj
theorem st_at {w : World} {b off : Nat} {l : List Sc.Step} (hc : ∀ j u, (l.flatMap stC)[j]? = some u → w.cell? ⟨b, off + j, none⟩ = some u) {k : Nat} (hk : k < l.length) : AtV Tryz.prog w 43 ⟨b, off + k * 5, none⟩ (stV l[k]) := by
  refine AtV.agg aggSt rfl fun j v hj => ?_
  have h5 : j < 5 := (List.getElem?_eq_some_iff.1 hj).1
  rw [Nat.add_assoc]
  exact hc _ _ (by rw [sflat_get l k j hk h5]; exact hj)
theorem line_short (x : Sc.Step) : (Sc.line x).1.length ≤ 65535 := by
  unfold Sc.line
  split
  · simp
  split
  · simp
  · simp only; omega
/-- An element of a slice of steps is read. -/
theorem st_ia {w : World} {v : Value} {l : List Sc.Step} {K : Value → World → Prop} {PK PK2 : List PanicEntry → World → Prop} (hs : Sl w v 5 l.length (l.flatMap stC)) {i : Nat} (hi : i < l.length) (hb : l.length ≤ 9223372036854775807) (k : K (stV l[i]) w) :
    DoX Tryz.prog (mIA 44 v (.int .i64 (i : Int))) w PK fun t w => DoX Tryz.prog (mLoad 43 t) w PK2 K := by
  obtain ⟨b, off, cap, rfl, hc⟩ := sl_open hs (by omega)
  refine do_eq (run_ia Tryz.underlying44 (show _ = some 5 by kernel_rfl) (by omega) (by omega)) |>.mpr ?_
  rw [Int.toNat_natCast]
  rw [l_at (st_at hc hi)]
  exact k
theorem stext_ret (l : List Sc.Step) (v : Value) (w : World) (ht : Tb w) (hsp : Sp w) (hs : Sl w v 5 l.length (l.flatMap stC)) : Ret Tryz.prog 29 #[v] w (fun v w' => v = strErrV (Sc.text l) ∧ Below w.heap.size w w') := by
  refine ret_of fun K hK => S_script_Text_ok ?_
  unfold S_script_Text
  simp only [sl_len Tryz.underlying44 hs, rs]
  by_cases hbig : (256 : Int) < (l.length : Int)
  · simp only [hbig, decide_true, rs]
    exact hK _ _ ⟨by rw [Sc.text, if_pos (by omega)]; rfl, Below.refl _ _⟩
  simp only [hbig, decide_false, rs]
  rw [Sc.text, if_neg (by omega)] at hK
  refine o_new (fun b => .pointer (some ⟨b, 0, none⟩)) [.pointer none, .slice none 0 0] 93 (fun _ => by kernel_rfl) (Own.start w) fun b w1 ho => ?_
  rw [sl_len Tryz.underlying44 (ho.oldSl hs)]
  have hB0 : ∃ v0, Own w w1 [Bld b v0 []] := by
    have h1 := (ho.nilRow 5 1).swap
    exact ⟨_, OwnS.closeB (l := []) (.inl rfl) roomy_nil h1⟩
  obtain ⟨v0, ho0⟩ := hB0
  refine loop (fun vs w' => ∃ (i : Nat) (bv : Value) (acc : List UInt8), vs = [.int .i64 i] ∧ i ≤ l.length ∧ acc.length ≤ i * 65536 ∧ Sc.textG [] l = Sc.textG acc (l.drop i) ∧ Own w w' [Bld b bv acc])
    (fun vs _ => l.length - n0 vs) ⟨0, v0, [], rfl, by omega, by simp, rfl, ho0⟩ ?_
  rintro vs w2 ⟨i, bv, acc, rfl, hi, hal, hT, ho⟩ _
  simp only [S_script_Text_0, gd, rs]
  rw [hT] at hK
  by_cases hlt : (i : Int) < (l.length : Int)
  · have hi' : i < l.length := by omega
    simp only [hlt, decide_true, rs]
    rw [List.drop_eq_getElem_cons hi', Sc.textG] at hK hT
    refine st_ia (ho.oldSl hs) hi' (by omega) ?_
    refine o_sta ho fun b6 w3 ho => ?_
    refine st_set 0 l[i] ho rfl fun w4 ho => ?_
    have ho : Own w w4 [stE b6 l[i], Bld b bv acc] := ho
    rw [st_v ho 0 rfl]
    refine c_told (scline_ret l[i] w4 (ht.own ho) (hsp.own ho)) rfl ho fun w5 ho => ?_
    have hsh := line_short l[i]
    generalize Sc.line l[i] = ln at *
    simp only [strErrV, ex, rs]
    by_cases he : ln.2 = 0
    case neg =>
      simp only [ne_eq, he, not_false_eq_true, decide_true, rs]
      rw [if_pos he] at hK
      exact hK _ _ ⟨rfl, ho.done⟩
    simp only [ne_eq, he, not_true, decide_false, rs]
    rw [if_neg (by simp [he])] at hT
    have ho := ho.tail
    refine c_turn 0 ho rfl (writeString_ret (ho.at_ 0 rfl) (by omega)) ?_
    rintro _ _ w6 ⟨_, v3, rfl⟩ ho
    refine c_turn 0 ho rfl (writeByteN_ret (k := 10) (ho.at_ 0 rfl) (by simp; omega) rfl (by omega)) ?_
    rintro _ _ w7 ⟨rfl, v4, rfl⟩ ho
    rw [wrap64_id (by omega) (by omega)]
    exact nextX ⟨i + 1, v4, _, rfl, by omega, by simp; omega, hT, ho⟩ (by simp [n0, intOf]; omega)
  · simp only [hlt, decide_false, rs]
    rw [List.drop_of_length_le (by omega), Sc.textG] at hK
    refine c_turn 0 ho rfl (bldString_ret (ho.at_ 0 rfl)) ?_
    rintro _ _ w6 ⟨rfl, rfl⟩ ho
    exact hK _ _ ⟨rfl, ho.done⟩
end Go.Proofs.YtjajlcacbbnodaaGreatDoor
/- Contracts: strings.SplitSeq at a line feed, as an iterator. -/
namespace Go.Proofs.YtjajlcacbbnodaaGreatDoor
set_option linter.unusedVariables false
set_option linter.unusedSimpArgs false
set_option linter.defProp false
open Eng Go.RowKit

theorem index1_ret (s : List UInt8) (c : UInt8) (w : World) : Ret Tryz.prog 167 #[.string ⟨s.toArray⟩, .string ⟨#[c]⟩] w (fun v w' => v = .int .i64 (Lib.indexByte s c) ∧ w = w') := by
  refine ret_of fun K hK => Calls.mono (Tryz.strings_Index_one ⟨s.toArray⟩ c w) ?_
  rintro e w' ⟨rfl, rfl⟩
  exact hK _ _ ⟨rfl, rfl⟩
abbrev cutF (b3 b4 b5 : Nat) (r : List UInt8) : List Ent := [intE b5 0, strE b4 [10], strE b3 r]
theorem split_seq (s : List UInt8) (b3 b4 b5 : Nat) (hs : s.length ≤ 1099511627776) : Seq Tryz.prog (fun _ => True) 241 #[] #[.pointer (some ⟨b4, 0, none⟩), .pointer (some ⟨b3, 0, none⟩), .pointer (some ⟨b5, 0, none⟩)] (cutF b3 b4 b5 s) (strsV (Sc.lines s)) := by
  intro S w0 w1 L0 lb df M0 R K hI ho hR hy hend
  show Calls Tryz.prog 241 #[.func (.yield lb) #[] #[], .pointer (some ⟨b4, 0, none⟩), .pointer (some ⟨b3, 0, none⟩), .pointer (some ⟨b5, 0, none⟩)] w1 K
  refine S_strings_splitSeq_1_ok ?_
  unfold S_strings_splitSeq_1
  have cellR : ∀ (M : List Ent) (r : List UInt8) (W : World), OwnS S w0 W (loopE L0 lb df ++ (M ++ cutF b3 b4 b5 r)) → W.cell? ⟨b3, 0, none⟩ = some (.string ⟨r.toArray⟩) := by
    intro M r W h
    have : strE b3 r ∈ loopE L0 lb df ++ (M ++ cutF b3 b4 b5 r) := by simp
    exact cells_cell (h.mem this) (i := 0) rfl
  have cellC : ∀ (M : List Ent) (r : List UInt8) (W : World), OwnS S w0 W (loopE L0 lb df ++ (M ++ cutF b3 b4 b5 r)) → W.cell? ⟨b4, 0, none⟩ = some (.string ⟨#[10]⟩) := by
    intro M r W h
    have : strE b4 [10] ∈ loopE L0 lb df ++ (M ++ cutF b3 b4 b5 r) := by simp
    exact cells_cell (h.mem this) (i := 0) rfl
  have cell0 : ∀ (M : List Ent) (r : List UInt8) (W : World), OwnS S w0 W (loopE L0 lb df ++ (M ++ cutF b3 b4 b5 r)) → W.cell? ⟨b5, 0, none⟩ = some (.int .i64 0) := by
    intro M r W h
    have : intE b5 0 ∈ loopE L0 lb df ++ (M ++ cutF b3 b4 b5 r) := by simp
    exact cells_cell (h.mem this) (i := 0) rfl
  have len1 : ∀ {W : World} {PK : List PanicEntry → World → Prop} {K : Value → World → Prop}, DoX Tryz.prog (mB .len #[9] 3 #[false] #[.string ⟨#[10]⟩]) W PK K = K (.int .i64 1) W := s_len (a := [10]) Tryz.underlying9
  rw [l_cell nStr (cellC _ _ _ ho), len1]
  simp only [rs, show ¬ ((1 : Int) = 0) by decide, decide_false]
  refine loop (fun vs w' => ∃ (k : Nat) (M : List Ent) (r : List UInt8), vs = [] ∧ (∃ pre, Sc.lines s = pre ++ Sc.lines r ∧ pre.length = k) ∧ r.length ≤ s.length ∧ R k M ∧ OwnS S w0 w' (loopE L0 lb df ++ (M ++ cutF b3 b4 b5 r)))
    (fun _ w' => match w'.cell? ⟨b3, 0, none⟩ with | some (.string x) => x.size | _ => 0) ⟨0, M0, s, rfl, ⟨[], rfl, rfl⟩, Nat.le_refl _, hR, ho⟩ ?_
  rintro vs w2 ⟨k, M, r, rfl, ⟨pre, hpre, hpk⟩, hrl, hR, ho⟩ _
  have c3 := cellR M r w2 ho
  have hget : (strsV (Sc.lines s))[k]? = (strsV (Sc.lines r))[0]? := by
    unfold strsV
    rw [hpre, ← hpk, List.map_append, List.getElem?_append_right (by simp), List.length_map, Nat.sub_self]
  have hcut := Sc.lines_cut r
  simp only [S_strings_splitSeq_1_1]
  rw [l_cell nStr c3, l_cell nStr (cellC _ _ _ ho)]
  refine c_eq (index1_ret r 10 w2) ?_
  rcases ix_cases 10 r with ⟨h1, h2, h3⟩ | ⟨i, h1, hil, h3, h4⟩
  · rw [h1]
    rw [h3, h2] at hcut
    simp only at hcut
    simp only [rs, show (-1 : Int) < 0 by decide, decide_true, l_cell nStr c3]
    refine c_yld (args := [.string ⟨r.toArray⟩]) (hy k _ M _ w2 (by rw [hget, hcut]; rfl) hR ho) ?_
    rintro v w3 (⟨rfl, M', hR', ho'⟩ | ⟨rfl, hK⟩)
    · refine hend M' _ w3 ?_ ho'
      have : (strsV (Sc.lines s)).length = k + 1 := by rw [hpre, hcut, ← hpk]; simp [strsV]
      rw [this]; exact hR'
    · exact hK
  · rw [h1]
    have hd : r.drop i = r[i] :: r.drop (i + 1) := List.drop_eq_getElem_cons hil
    rw [h3, h4, hd] at hcut
    simp only at hcut
    simp only [rs, show ¬ ((i : Int) < 0) by omega, decide_false, l_cell nStr c3, l_cell nInt (cell0 _ _ _ ho)]
    rw [wrap64_id (by omega) (by omega)]
    refine do_eq (run_upto Tryz.underlying9 (by omega) (by omega)) |>.mpr ?_
    rw [show ((i : Int) + 0).toNat = i by omega]
    refine c_yld (args := [.string ⟨(r.take i).toArray⟩]) (hy k _ M _ w2 (by rw [hget, hcut]; rfl) hR ho) ?_
    rintro v w3 (⟨rfl, M', hR', ho'⟩ | ⟨rfl, hK⟩)
    · rw [u_not, Bool.not_true, i_f, l_cell nStr (cellR _ _ _ ho'), l_cell nStr (cellC _ _ _ ho'), len1, b_add, wrap64_id (by omega) (by omega)]
      refine do_eq (run_from Tryz.underlying9 (by omega) (by omega)) |>.mpr ?_
      rw [show ((i : Int) + 1).toNat = i + 1 by omega]
      have e : ∀ x : List UInt8, loopE L0 lb df ++ (M' ++ cutF b3 b4 b5 x) = (loopE L0 lb df ++ (M' ++ [intE b5 0, strE b4 [10]])) ++ [strE b3 x] := by intro x; simp
      rw [e] at ho'
      refine o_store (loopE L0 lb df ++ (M' ++ [intE b5 0, strE b4 [10]])).length ho' (by rw [List.getElem?_append_right (Nat.le_refl _), Nat.sub_self]; rfl) (v := .string ⟨(r.drop (i + 1)).toArray⟩) szStr' rfl (by simp) fun w4 ho4 => ?_
      have ho5 : OwnS S w0 w4 (loopE L0 lb df ++ (M' ++ cutF b3 b4 b5 (r.drop (i + 1)))) := by
        rw [e]
        rw [List.set_append_right _ _ (Nat.le_refl _), Nat.sub_self] at ho4
        exact ho4
      have c4 := cellR _ _ _ ho5
      refine nextX ⟨k + 1, M', r.drop (i + 1), rfl, ⟨pre ++ [r.take i], by rw [hpre, hcut]; simp, by simp [hpk]⟩, by simp; omega, hR', ho5⟩ ?_
      simp only [c3, c4]
      simp [ByteArray.size]
      omega
    · rw [u_not, Bool.not_false, i_t]
      exact hK
end Go.Proofs.YtjajlcacbbnodaaGreatDoor
/- Contracts: foliantref55 (Quote, Int). -/
namespace Go.Proofs.YtjajlcacbbnodaaGreatDoor
set_option linter.unusedVariables false
set_option linter.unusedSimpArgs false
set_option linter.defProp false
open Eng Go.RowKit

theorem rquote_ret (l : List UInt8) (w : World) (hl : l.length ≤ 32767) : Ret Tryz.prog 155 #[.string ⟨l.toArray⟩] w (fun v w' => v = .string ⟨(Pl.str l).toArray⟩ ∧ Below w.heap.size w w') := by
  refine ret_of fun K hK => S_foliantref55_Quote_ok ?_
  unfold S_foliantref55_Quote
  refine o_new (fun b => .slice (some ⟨b, 0, none⟩) 1 1) (bytesV [40]) 5 (fun _ => by kernel_rfl) (Own.start w) fun nb w1 ho1 => ?_
  have ho := OwnS.toRow ho1 1 1 1 rfl (by omega) (by omega)
  refine loop (fun vs w' => ∃ (i : Nat) (v : Value), vs = [v, .int .i64 i] ∧ i ≤ l.length ∧ Own w w' [BRow v ([40] ++ (l.take i).flatMap Pl.esc)])
    (fun vs _ => l.length - n1 vs) ⟨0, _, rfl, by omega, by simpa [BRow, bytesV] using ho⟩ ?_
  rintro vs w2 ⟨i, v, rfl, hi, ho2⟩ _
  simp only [S_foliantref55_Quote_0, gd, s_len Tryz.underlying9]
  rw [b_lss]
  have hfl := Pl.flat_len Pl.esc 4 (fun c => (Pl.esc_len c).2) (l.take i)
  have htk : (l.take i).length ≤ l.length := by rw [List.length_take]; omega
  have hbd : ([40] ++ (l.take i).flatMap Pl.esc).length ≤ 140000 := by simp only [List.length_append, List.length_cons, List.length_nil]; omega
  by_cases hlt : (i : Int) < (l.length : Int)
  · have hi2 : i < l.length := by omega
    simp only [hlt, decide_true, i_t]
    refine join fun J2 hJ2 => ?_
    rw [s_ix (c := l[i]) Tryz.underlying9 (by omega) (by simp [hi2])]
    have fin : ∀ (v' : Value) (w' : World), Own w w' [BRow v' ([40] ++ (l.take i).flatMap Pl.esc ++ Pl.esc l[i])] → J2 [v'] w' := by
      intro v' w' h'
      refine hJ2 _ _ fun _ => ?_
      simp only [S_foliantref55_Quote_1, gd]
      rw [b_add, wrap64_id (by omega) (by omega)]
      refine nextX ⟨i + 1, v', rfl, by omega, ?_⟩ (by simp [n1, intOf]; omega)
      rw [List.take_succ_eq_append_getElem hi2, Pl.flat_snoc, ← List.append_assoc]
      exact h'
    generalize hc : l[i] = c at *
    have h256 := c.toNat_lt
    have oct : ¬ (c = 40 ∨ c = 41 ∨ c = 92) → (c.toNat < 32 ∨ 126 < c.toNat) →
        DoX Tryz.prog (mBin .quo 5 (.int .u8 c.toNat) (.int .u8 64)) w2 (pk K) fun t28 w =>
        DoX Tryz.prog (mBin .add 5 (.int .u8 48) t28) w (pk K) fun t29 w =>
        DoX Tryz.prog (mBin .quo 5 (.int .u8 c.toNat) (.int .u8 8)) w (pk K) fun t31 w =>
        DoX Tryz.prog (mBin .rem 5 t31 (.int .u8 8)) w (pk K) fun t32 w =>
        DoX Tryz.prog (mBin .add 5 (.int .u8 48) t32) w (pk K) fun t33 w =>
        DoX Tryz.prog (mBin .rem 5 (.int .u8 c.toNat) (.int .u8 8)) w (pk K) fun t35 w =>
        DoX Tryz.prog (mBin .add 5 (.int .u8 48) t35) w (pk K) fun t36 w =>
        DoX Tryz.prog (mBuildS 91 4 #[(0, (.int .u8 92)), (1, t29), (2, t33), (3, t36)]) w (pk K) fun t37 w =>
        DoX Tryz.prog (mB .append #[91, 91] 91 #[false, false] #[v, t37]) w (pk K) fun t38 w =>
        J2 [t38] w := by
      intro hn hcc
      have q64 : ((c.toNat : Int).tdiv 64) = ((c.toNat / 64 : Nat) : Int) := by rw [Int.tdiv_eq_ediv_of_nonneg (by omega)]; omega
      have q8 : ((c.toNat : Int).tdiv 8) = ((c.toNat / 8 : Nat) : Int) := by rw [Int.tdiv_eq_ediv_of_nonneg (by omega)]; omega
      have r8 : ((c.toNat : Int).tmod 8) = ((c.toNat % 8 : Nat) : Int) := by rw [Int.tmod_eq_emod_of_nonneg (by omega)]; omega
      have qr : (((c.toNat / 8 : Nat) : Int).tmod 8) = ((c.toNat / 8 % 8 : Nat) : Int) := by rw [Int.tmod_eq_emod_of_nonneg (by omega)]; omega
      rw [b_quo (by omega), q64, wrap8_id (by omega) (by omega), b_add, wrap8_id (by omega) (by omega), b_quo (by omega), q8, wrap8_id (by omega) (by omega), b_rem (by omega), qr, b_add, wrap8_id (by omega) (by omega), b_rem (by omega), r8, b_add, wrap8_id (by omega) (by omega)]
      rw [show ((48 : Int) + ((c.toNat / 64 : Nat) : Int)) = ((48 + c.toNat / 64 : Nat) : Int) by omega, show ((48 : Int) + ((c.toNat / 8 % 8 : Nat) : Int)) = ((48 + c.toNat / 8 % 8 : Nat) : Int) by omega, show ((48 : Int) + ((c.toNat % 8 : Nat) : Int)) = ((48 + c.toNat % 8 : Nat) : Int) by omega]
      rw [← u8_of (48 + c.toNat / 64) (by omega), ← u8_of (48 + c.toNat / 8 % 8) (by omega), ← u8_of (48 + c.toNat % 8) (by omega)]
      refine o_appB (m := Pl.oct c) (fun _ => by kernel_rfl) ho2 (by simp only [Pl.oct, List.length_cons, List.length_nil]; omega) fun v' w5 h5 => ?_
      refine fin v' w5 ?_
      rw [show Pl.esc c = Pl.oct c by rw [Pl.esc, if_neg hn, if_pos hcc]]
      exact h5
    have two : (c = 40 ∨ c = 41 ∨ c = 92) → DoX Tryz.prog (mBuildS 91 2 #[(0, (.int .u8 92)), (1, .int .u8 c.toNat)]) w2 (pk K) fun t28 w =>
        DoX Tryz.prog (mB .append #[91, 91] 91 #[false, false] #[v, t28]) w (pk K) fun t29 w => J2 [t29] w := by
      intro hcc
      refine o_appB (m := [92, c]) (fun _ => by kernel_rfl) ho2 (by simp only [List.length_cons, List.length_nil]; omega) fun v' w5 h5 => ?_
      refine fin v' w5 ?_
      rw [show Pl.esc c = [92, c] by rw [Pl.esc, if_pos hcc]]
      exact h5
    have e1 := u8d c 40 40 rfl
    have e2 := u8d c 41 41 rfl
    have e3 := u8d c 92 92 rfl
    by_cases g1 : c = 40
    · simp only [rs, e1, decide_eq_true g1, g_un]; exact two (.inl g1)
    simp only [rs, e1, decide_eq_false g1, g_un]
    by_cases g2 : c = 41
    · simp only [rs, e2, decide_eq_true g2, g_un]; exact two (.inr (.inl g2))
    simp only [rs, e2, decide_eq_false g2, g_un]
    by_cases g3 : c = 92
    · simp only [rs, e3, decide_eq_true g3, g_un]; exact two (.inr (.inr g3))
    simp only [rs, e3, decide_eq_false g3, g_un]
    have g0 : ¬ (c = 40 ∨ c = 41 ∨ c = 92) := by simp [g1, g2, g3]
    by_cases h2 : (c.toNat : Int) < 32
    · simp only [rs, h2, decide_true, g_un]
      have := oct g0 (.inl (by omega))
      simpa only [rs] using this
    simp only [rs, h2, decide_false, g_un]
    by_cases h3 : (126 : Int) < (c.toNat : Int)
    · simp only [rs, h3, decide_true, g_un]
      have := oct g0 (.inr (by omega))
      simpa only [rs] using this
    simp only [rs, h3, decide_false, g_un]
    refine o_appB (m := [c]) (fun _ => by kernel_rfl) ho2 (by simp only [List.length_cons, List.length_nil]; omega) fun v' w5 h5 => ?_
    refine fin v' w5 ?_
    rw [show Pl.esc c = [c] by rw [Pl.esc, if_neg g0, if_neg (by omega)]]
    exact h5
  · have hi2 : i = l.length := by omega
    subst hi2
    simp only [hlt, decide_false, i_f]
    rw [List.take_length] at ho2 hbd
    refine o_appB (m := [41]) (fun _ => by kernel_rfl) ho2 (by simp only [List.length_cons, List.length_nil]; omega) fun v' w5 h5 => ?_
    rw [o_strB 0 h5 rfl]
    exact hK _ _ ⟨rfl, h5.done⟩
end Go.Proofs.YtjajlcacbbnodaaGreatDoor
