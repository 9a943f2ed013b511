/- Contracts: strings.Builder (copyCheck, WriteByte, WriteString, Grow on a fresh one, String), in terms of a piece of memory that is lent. -/
import Derived.Test.YtfnpfbgnhncgpaaDoorEngD
import Derived.Test.YtfnpfbgnhncgpaaDoorSBuild
import Derived.Test.YtfnpfbgnhncgpaaDoorShelf
namespace Go.Proofs.YtfnpfbgnhncgpaaDoor
set_option linter.unusedVariables false
set_option linter.unusedSimpArgs false
set_option linter.defProp false
open Eng Go.RowKit

abbrev Bld (b : Nat) (v : Value) (l : List UInt8) : Ent := .bld 95 5 b v l
theorem bytesV_append (a b : List UInt8) : bytesV (a ++ b) = bytesV a ++ bytesV b := by simp [bytesV]
theorem bytesV_one (l : List UInt8) : ∀ u ∈ bytesV l, u.oneCell' = true := by
  intro u hu
  simp only [bytesV, List.mem_map] at hu
  obtain ⟨c, _, rfl⟩ := hu
  rfl
theorem e_pnone {P : Program} {T U : TypeId} {xo : Operand} {a : Option Addr} {c : Value} {w : World} {PK : List PanicEntry → World → Prop} {K : Value → World → Prop} (h : P.underlying T = some (.pointer U)) :
    DoX P (mEq .eql T xo (.const c) (.pointer a) (.pointer none)) w PK K = K (.bool a.isNone) w := by
  refine mv_do ?_
  have e : (eqGuard .eql T xo (.const c) (.pointer a) (.pointer none)) = pure () := by cases xo <;> rfl
  rw [e]
  have h2 : ∀ d : Nat, (Op.equalIn (d + 1) T (.pointer a) (.pointer none)).run P w = .ok a.isNone w := fun d => by
    cases a <;> simp [Op.equalIn, run_underlying h]
  simp only [binOp]
  simp [Op.equal, Op.maxDepth, h2 9999]
theorem n_psame {P : Program} {T U : TypeId} {xo yo : Operand} {a : Addr} {w : World} {PK : List PanicEntry → World → Prop} {K : Value → World → Prop} (h : P.underlying T = some (.pointer U)) (hi : (P.info? U).isSome = true) (hg : eqGuard .neq T xo yo (.pointer (some a)) (.pointer (some a)) = pure ()) :
    DoX P (mEq .neq T xo yo (.pointer (some a)) (.pointer (some a))) w PK K = K (.bool false) w := by
  obtain ⟨j, hj⟩ := Option.isSome_iff_exists.1 hi
  refine mv_do ?_
  rw [hg]
  simp [Lib.run_neq_ptr_same w a h hj]

theorem copyCheck_ret {b : Nat} {v : Value} {l : List UInt8} {w : World} (h : (Bld b v l).is w) : Ret Tryd.prog 132 #[.pointer (some ⟨b, 0, none⟩)] w
    (fun r w' => ∃ e', (r = .tuple #[] ∧ e' = Bld b v l) ∧ Turn (Bld b v l) e' w w') := by
  obtain ⟨p, hp, hcap, ho⟩ := (OwnS.lend h).openB
  refine ret_of fun K hK => S_strings_Builder_copyCheck_ok ?_
  unfold S_strings_Builder_copyCheck
  simp only [rs, f_addr (show fOff Tryd.prog 95 0 = some 0 by kernel_rfl)]
  rw [l_cell (by kernel_rfl) (ho.cell 0 rfl 0 rfl)]
  rcases hp with rfl | rfl
  · rw [e_pnone Tryd.underlying84]
    simp only [Option.isNone_none, rs]
    obtain ⟨j, hj⟩ := Option.isSome_iff_exists.1 (show (Tryd.prog.info? 95).isSome = true by kernel_rfl)
    have hjs : j.size ≠ 0 := by
      have : (Tryd.prog.info? 95).map (·.size) = some 2 := by kernel_rfl
      rw [hj] at this
      simp only [Option.map_some, Option.some.injEq] at this
      omega
    have hsh : w.shape? b = some (95, 2) := by
      have hb : w.heap[b]? = some (.cells #[.pointer none, v] 95 (0, 0)) := ho.at_ 0 rfl
      simp [World.shape?, hb]
    refine do_ok (mv_run (Lib.run_to_unsafe w ⟨b, 0, none⟩ Tryd.underlying84 Tryd.underlying164 hj hjs hsh (by show 0 < 2; omega))) ?_
    refine do_ok (show (mCallV (.func (.func 173) #[] #[]) #[.pointer (some ⟨b, 0, none⟩)]).run Tryd.prog w = .ok (.value (.pointer (some ⟨b, 0, none⟩))) w by kernel_rfl) ?_
    refine do_ok (mv_run (Lib.run_from_unsafe w ⟨b, 0, none⟩ Tryd.underlying164 Tryd.underlying84 hj hsh (by kernel_rfl))) ?_
    refine o_store 0 ho rfl (by kernel_rfl) rfl (by simp) fun w2 ho2 => ?_
    exact hK _ _ ⟨_, ⟨rfl, rfl⟩, (OwnS.closeB (.inr rfl) hcap ho2).back⟩
  · rw [e_pnone Tryd.underlying84]
    simp only [Option.isNone_some, rs, f_addr (show fOff Tryd.prog 95 0 = some 0 by kernel_rfl)]
    rw [l_cell (by kernel_rfl) (ho.cell 0 rfl 0 rfl)]
    rw [n_psame Tryd.underlying84 (by kernel_rfl) rfl]
    simp only [rs]
    exact hK _ _ ⟨_, ⟨rfl, rfl⟩, (ho.closeB (.inr rfl) hcap).back⟩
theorem writeByte_ret {b : Nat} {v : Value} {l : List UInt8} {c : UInt8} {w : World} (h : (Bld b v l).is w) (hl : l.length < 140737488355328) : Ret Tryd.prog 84 #[.pointer (some ⟨b, 0, none⟩), .int .u8 c.toNat] w
    (fun r w' => ∃ e', (r = .nilIface ∧ ∃ v', e' = Bld b v' (l ++ [c])) ∧ Turn (Bld b v l) e' w w') := by
  refine ret_of fun K hK => S_strings_Builder_WriteByte_ok ?_
  unfold S_strings_Builder_WriteByte
  refine c_turn 0 (OwnS.lend h) rfl (copyCheck_ret h) ?_
  rintro _ _ w1 ⟨rfl, rfl⟩ ho1
  obtain ⟨p, hp, hcap, ho⟩ := OwnS.openB ho1
  simp only [rs, f_addr (show fOff Tryd.prog 95 1 = some 1 by kernel_rfl)]
  rw [l_cell (by kernel_rfl) (ho.cell 0 rfl 1 rfl)]
  refine o_new (fun b => .slice (some ⟨b, 0, none⟩) 1 1) [.int .u8 c.toNat] 5 (fun _ => by kernel_rfl) ho fun nb w2 h2 => ?_
  refine o_append 2 Tryd.underlying64 (show elB Tryd.prog 5 1 1 = true by kernel_rfl) (by decide) h2 rfl (h2.sl 0 rfl 1 1 1 rfl) (bytesV_one [c]) (by omega) (by omega) fun v' w3 h3 => ?_
  refine o_store 1 h3 rfl (by kernel_rfl) (by
    have := h3.at_ 2 rfl
    rcases this.2 with ⟨hv, _⟩ | ⟨_, _, _, _, hv, _⟩ <;> rw [hv] <;> rfl) (by simp) fun w4 h4 => ?_
  have h5 := h4.tail
  have h6 : OwnS (Bld b v l).blk w w4 (.cells b [p, v'] 95 :: .row 5 1 v' (l.length + 1) (bytesV (l ++ [c])) :: []) := by
    rw [bytesV_append]; exact h5
  exact hK _ _ ⟨_, ⟨rfl, v', rfl⟩, (OwnS.closeB hp (roomy_row (h6.at_ 1 rfl) (by omega)) h6).back⟩
theorem writeString_ret {b : Nat} {v : Value} {l s : List UInt8} {w : World} (h : (Bld b v l).is w) (hl : l.length + s.length ≤ 140737488355328) : Ret Tryd.prog 89 #[.pointer (some ⟨b, 0, none⟩), .string ⟨s.toArray⟩] w
    (fun r w' => ∃ e', ((∃ x, r = .tuple #[x, .nilIface]) ∧ ∃ v', e' = Bld b v' (l ++ s)) ∧ Turn (Bld b v l) e' w w') := by
  refine ret_of fun K hK => S_strings_Builder_WriteString_ok ?_
  unfold S_strings_Builder_WriteString
  refine c_turn 0 (OwnS.lend h) rfl (copyCheck_ret h) ?_
  rintro _ _ w1 ⟨rfl, rfl⟩ ho1
  obtain ⟨p, hp, hcap, ho⟩ := OwnS.openB ho1
  simp only [rs, f_addr (show fOff Tryd.prog 95 1 = some 1 by kernel_rfl)]
  rw [l_cell (by kernel_rfl) (ho.cell 0 rfl 1 rfl)]
  refine o_append_str 1 Tryd.underlying64 Tryd.underlying9 (show elB Tryd.prog 5 1 1 = true by kernel_rfl) Tryd.underlying5 (by kernel_rfl) ho rfl (by omega) fun v' w3 hro h3 => ?_
  refine o_store 0 h3 rfl (by kernel_rfl) (by
    have := h3.at_ 1 rfl
    rcases this.2 with ⟨hv, _⟩ | ⟨_, _, _, _, hv, _⟩ <;> rw [hv] <;> rfl) (by simp) fun w4 h4 => ?_
  rw [s_len Tryd.underlying9]
  have h6 : OwnS (Bld b v l).blk w w4 (.cells b [p, v'] 95 :: .row 5 1 v' (l.length + s.length) (bytesV (l ++ s)) :: []) := by
    rw [bytesV_append]; exact h4
  exact hK _ _ ⟨_, ⟨⟨_, rfl⟩, v', rfl⟩, (OwnS.closeB hp (hro hcap) h6).back⟩
theorem row_froze {E : TypeId} {g n cap : Nat} {xs : List Value} {w : World} (h : w.ownsRowF 0 E 1 (.slice (some ⟨g, 0, none⟩) n cap) n xs) (hn0 : n ≠ 0) :
    Turn (.row E 1 (.slice (some ⟨g, 0, none⟩) n cap) n xs) (.row E 1 (.slice (some ⟨g, 0, none⟩) n cap) n xs) w (w.freeze ⟨g, 0, none⟩ n) := by
  refine ⟨?_, ?_, fun k hk => .inl hk⟩
  · unfold World.freeze
    rw [if_neg hn0]
    refine ⟨rfl, rfl, rfl, by simp, fun k hk hne => ?_⟩
    have hkg : ¬ g = k := fun e => hne (by show some g = some k; rw [e])
    simp only [Array.getElem?_modify]
    rw [if_neg hkg]
  · refine ⟨h.1, ?_⟩
    unfold World.freeze
    rw [if_neg hn0]
    rcases h.2 with ⟨hv, _⟩ | ⟨g', cap', cur, fz, hv, hbg, hg, hfz, rest⟩
    · cases hv
    · injection hv with ha _ hcap
      injection ha with ha
      injection ha with hgg _ _
      subst hgg
      subst hcap
      obtain ⟨lo, hi⟩ := fz
      refine .inr ⟨g, _, cur, (if lo == hi then (0, 0 + n) else (min lo 0, max hi (0 + n))), rfl, hbg, ?_, ?_, rest⟩
      · simp [Array.getElem?_modify, hg]
      · simp only at hfz
        split <;> simp <;> omega
theorem run_usd {v : Value} {n : Nat} {T U : TypeId} {cs : Array Bool} {w : World} {E : TypeId} {xs : List Value} (h : w.ownsRowF 0 E 1 v n xs) (hr : roomy v) : ∃ q, (∀ w' : World, (mB .unsafeSliceData #[T] U cs #[v]).run Tryd.prog w' = .ok (.value (.pointer q)) w') ∧ (0 < n → ∃ g cap, v = .slice (some ⟨g, 0, none⟩) n cap ∧ q = some ⟨g, 0, none⟩) := by
  rcases h.2 with ⟨rfl, rfl⟩ | ⟨g, cap, cur, fz, rfl, hbg, hg, hfz, rest⟩
  · exact ⟨none, fun w' => by simp [mB, builtin, Lib.run_unsafeSliceData_nil], fun h => by omega⟩
  · refine ⟨some ⟨g, 0, none⟩, fun w' => ?_, fun _ => ⟨g, cap, rfl, rfl⟩⟩
    have hc : cap ≠ 0 := fun e => hr ⟨g, 0, none⟩ n (by rw [e])
    simp [mB, builtin, Lib.run_unsafeSliceData_row _ _ _ _ _ _ hc]
theorem bldString_ret {b : Nat} {v : Value} {l : List UInt8} {w : World} (h : (Bld b v l).is w) : Ret Tryd.prog 92 #[.pointer (some ⟨b, 0, none⟩)] w
    (fun r w' => ∃ e', (r = .string ⟨l.toArray⟩ ∧ e' = Bld b v l) ∧ Turn (Bld b v l) e' w w') := by
  obtain ⟨p, hp, hcap, ho⟩ := (OwnS.lend h).openB
  refine ret_of fun K hK => S_strings_Builder_String_ok ?_
  unfold S_strings_Builder_String
  have hrow : w.ownsRowF 0 5 1 v l.length (bytesV l) := ho.at_ 1 rfl
  obtain ⟨q, hq, hq2⟩ := run_usd (T := 64) (U := 132) (cs := #[false]) hrow hcap
  have hload : ∀ w', Below w.heap.size w w' → (mLoad 64 (.pointer (some ⟨b, 0 + 1, none⟩))).run Tryd.prog w' = .ok (.value v) w' := fun w' hb => run_load_cell (by kernel_rfl) ((ho.grow hb).cell 0 rfl 1 rfl)
  have hlen : ∀ w', Below w.heap.size w w' → (mB .len #[64] 3 #[false] #[v]).run Tryd.prog w' = .ok (.value (.int .i64 l.length)) w' := fun w' hb => by
    have hs := (ho.grow hb).slRow 1 rfl
    obtain ⟨_, a, cp, rfl, _⟩ := hs
    simp [mB, builtin, Builtin.len_, run_underlying Tryd.underlying64, goInt]
  refine quiet (q_do _ (fun w => run_nil) (q_do _ (fun w => run_fa (show fOff Tryd.prog 95 1 = some 1 by kernel_rfl)) (q_at v hload (q_do _ hq (q_do _ (fun w => run_nil) (q_do _ (fun w => run_fa (show fOff Tryd.prog 95 1 = some 1 by kernel_rfl)) (q_at v hload (q_at _ hlen ?_))))))))
  intro w2 hb2
  have h2 := ho.grow hb2
  rcases Nat.eq_zero_or_pos l.length with h0 | h0
  · have hl : l = [] := List.eq_nil_of_length_eq_zero h0
    subst hl
    refine do_ok (show (mB .unsafeString #[132, 3] 9 #[false, false] #[.pointer q, .int .i64 0]).run Tryd.prog w2 = .ok (.value (.string ⟨([] : List UInt8).toArray⟩)) w2 by
      simp [mB, builtin, Lib.run_unsafeString_none]; rfl) ?_
    exact hK _ _ ⟨_, ⟨rfl, rfl⟩, (OwnS.closeB hp hcap h2).back⟩
  · obtain ⟨g, cap, rfl, rfl⟩ := hq2 h0
    have hr2 : w2.ownsRowF 0 5 1 (.slice (some ⟨g, 0, none⟩) l.length cap) l.length (bytesV l) := h2.at_ 1 rfl
    have hne : l ≠ [] := List.length_pos_iff.1 h0
    have hsh : ∃ cells, w2.shape? g = some (5, cells) ∧ l.length ≤ cells ∧ l.length ≤ 9223372036854775807 := by
      rcases hr2.2 with ⟨hv, _⟩ | ⟨g', cap', cur, fz, hv, hbg, hg, hfz, hnc, hcm, hcs, _⟩
      · cases hv
      · injection hv with ha _ hcap
        injection ha with ha
        injection ha with hgg _ _
        subst hgg
        refine ⟨cur.size, by simp [World.shape?, hg], by omega, ?_⟩
        simp only [maxLen] at hcm; omega
    obtain ⟨cells, hsh, hle, h63⟩ := hsh
    have hr := Lib.run_unsafeString_row (P := Tryd.prog) w2 132 3 9 5 Tryd.underlying132 (by kernel_rfl) g cells hsh l hne hle h63 (fun j x hj => by
      have := World.ownsRowF.cells hr2 (g := g) rfl j (.int .u8 x.toNat) (bytesV_get hj)
      exact this)
    refine do_ok (show (mB .unsafeString #[132, 3] 9 #[false, false] #[.pointer (some ⟨g, 0, none⟩), .int .i64 l.length]).run Tryd.prog w2 = .ok (.value (.string ⟨l.toArray⟩)) (w2.freeze ⟨g, 0, none⟩ l.length) by
      simp [mB, builtin, hr]) ?_
    have h3 := h2.turn 1 rfl (row_froze hr2 (by omega))
    exact hK _ _ ⟨_, ⟨rfl, rfl⟩, (OwnS.closeB hp hcap h3).back⟩
theorem grow_ret {b n : Nat} {w0 w1 : World} (ho : Own w0 w1 [.cells b [.pointer none, .slice none 0 0] 95]) (h0 : 0 < n) (hn : n ≤ 281474976710656) : Ret Tryd.prog 131 #[.pointer (some ⟨b, 0, none⟩), .int .i64 n] w1
    (fun r w2 => r = .tuple #[] ∧ ∃ v, Own w0 w2 [Bld b v []]) := by
  have hbk : w1.heap[b]? = some (.cells #[.pointer none, .slice none 0 0] 95 (0, 0)) := ho.at_ 0 rfl
  have hB : w0.heap.size ≤ b := ((ho.all (.cells b [.pointer none, .slice none 0 0] 95) (by simp)).2 b rfl).elim (fun x => x.elim) id
  refine Calls.mono (Tryd.Builder_Grow_fresh_cap w0.heap.size b n w1 hB hbk ho.size hn) ?_
  rintro e w2 ⟨rfl, ⟨⟨_, v, hb, hrow, hne⟩, hbl⟩, p, cap, hcell, hcap⟩
  refine retK ⟨rfl, v, ?_⟩
  have hv : v = .slice p 0 cap := by
    rw [Lib.cell_of_heap hb] at hcell
    simpa using hcell
  refine ⟨⟨hbl.os.trans ho.grew.os, hbl.tape.trans ho.grew.tape, hbl.output.trans ho.grew.output, Nat.le_trans ho.size hbl.size, fun k hk hk2 => (hbl.block k hk).trans (ho.grew.block k hk hk2)⟩, fun e he => ?_, List.pairwise_singleton _ _⟩
  rw [List.mem_singleton] at he
  subst he
  refine ⟨⟨⟨_, .inr rfl, hb⟩, ⟨hrow.1, ?_⟩, hne, fun a k hc => ?_⟩, fun k hk => .inr ?_⟩
  · rcases hrow.2 with h | ⟨g, cp, cur, h1, h2, h3, h4⟩
    · exact .inl h
    · exact .inr ⟨g, cp, cur, (0, 0), h1, Nat.zero_le _, h3, Nat.zero_le _, h4⟩
  · rw [hv] at hc
    injection hc with c1 c2 c3
    omega
  · rcases hk with hk | hk
    · rw [hk]; exact hB
    · rcases hrow.2 with ⟨h, _⟩ | ⟨g, cp, cur, h1, h2, h3, h4⟩
      · rw [h] at hk; cases hk
      · rw [h1] at hk; cases hk; exact h2
end Go.Proofs.YtfnpfbgnhncgpaaDoor
