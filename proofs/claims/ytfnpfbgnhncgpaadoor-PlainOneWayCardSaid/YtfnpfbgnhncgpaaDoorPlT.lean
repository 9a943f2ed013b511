/- The laws of layer 4, walked: lives. -/
import Derived.Test.YtfnpfbgnhncgpaaDoorPlS
import Derived.Test.YtfnpfbgnhncgpaaDoorPlain04B
import Derived.Test.YtfnpfbgnhncgpaaDoorEngG
import Derived.Test.YtfnpfbgnhncgpaaDoorFixY
import Derived.Test.YtfnpfbgnhncgpaaDoorSLaw04
import Derived.Lib.SmallJoins
namespace Go.Proofs.YtfnpfbgnhncgpaaDoor
set_option linter.unusedVariables false
set_option linter.unusedSimpArgs false
set_option linter.defProp false
open Eng Go.RowKit

theorem Tb.mono {w w' : World} (h : Tb w) (hb : Below w.heap.size w w') : Tb w' :=
  Go.Joins.tab_stays (show Tryd.prog.globalNamed "internal/strconv.uint64pow10" = some 1 by kernel_rfl) h hb (Nat.le_refl _)
theorem Tb.own {w w' : World} {L : List Ent} (h : Tb w) (ho : Own w w' L) : Tb w' := h.mono ho.done
def tupV (x : List UInt8 × Int) : Value := .tuple #[.string ⟨x.1.toArray⟩, .int .i64 x.2]
theorem plives_ret (w : World) (ht : Tb w) : Ret Tryd.prog 36 #[] w (fun v w' => v = .bool true ∧ Below w.heap.size w w') := by
  refine ret_of fun K hK => S_foliantlaw04_lives_ok ?_
  unfold S_foliantlaw04_lives
  refine c_told (pint_ret (-7) w ht) (show _ = tupV ([45, 55], 0) by rw [show Pl.pInt (-7) = ([45, 55], 0) by decide +kernel]; rfl) (Own.start w) fun w1 h1 => ?_
  simp only [tupV, ex]
  refine c_told (pint_ret 2147483648 w1 (ht.own h1)) (show _ = tupV ([], 2) by rw [show Pl.pInt 2147483648 = ([], 2) by decide +kernel]; rfl) h1 fun w2 h2 => ?_
  simp only [tupV, ex]
  refine c_told (preal_ret (-2500) w2) (show _ = tupV ([45, 48, 46, 50, 53], 0) by rw [show Pl.pReal (-2500) = ([45, 48, 46, 50, 53], 0) by decide +kernel]; rfl) h2 fun w3 h3 => ?_
  simp only [tupV, ex]
  refine c_told (preal_ret 1073741825 w3) (show _ = tupV ([], 2) by rw [show Pl.pReal 1073741825 = ([], 2) by decide +kernel]; rfl) h3 fun w4 h4 => ?_
  simp only [tupV, ex]
  refine c_told (pstr_ret [97, 40, 98, 92, 10] w4 (by decide)) (show _ = tupV ([40, 97, 92, 40, 98, 92, 92, 92, 48, 49, 50, 41], 0) by rw [show Pl.pStr [97, 40, 98, 92, 10] = ([40, 97, 92, 40, 98, 92, 92, 92, 48, 49, 50, 41], 0) by decide +kernel]; rfl) h4 fun w5 h5 => ?_
  simp only [tupV, ex]
  refine c_told (phex_ret [97, 98] w5 (by decide)) (show _ = tupV ([60, 54, 49, 54, 50, 62], 0) by rw [show Pl.pHex [97, 98] = ([60, 54, 49, 54, 50, 62], 0) by decide +kernel]; rfl) h5 fun w6 h6 => ?_
  simp only [tupV, ex]
  refine c_told (pname_ret [65, 32, 66, 35] w6) (show _ = tupV ([47, 65, 35, 50, 48, 66, 35, 50, 51], 0) by rw [show Pl.pName [65, 32, 66, 35] = ([47, 65, 35, 50, 48, 66, 35, 50, 51], 0) by decide +kernel]; rfl) h6 fun w7 h7 => ?_
  simp only [tupV, ex]
  refine c_told (pname_ret [97, 0] w7) (show _ = tupV ([], 3) by rw [show Pl.pName [97, 0] = ([], 3) by decide +kernel]; rfl) h7 fun w8 h8 => ?_
  simp only [tupV, ex]
  refine c_told (pname_ret [] w8) (show _ = tupV ([47], 0) by rw [show Pl.pName [] = ([47], 0) by decide +kernel]; rfl) h8 fun w9 h9 => ?_
  simp only [tupV, ex]
  simp only [rs, eq_self, decide_true]
  refine o_new (fun b => .slice (some ⟨b, 0, none⟩) 6 6) (strsV [[49, 50], [111, 98, 106], [60, 60], [47, 65], [49], [62, 62]]) 9 (fun _ => by kernel_rfl) h9 fun b9 w10 h10 => ?_
  refine c_told (pjoin_ret [[49, 50], [111, 98, 106], [60, 60], [47, 65], [49], [62, 62]] _ w10 (h10.sl 0 rfl 1 6 6 rfl) (by decide)) (show _ = .string ⟨([49, 50, 32, 111, 98, 106, 60, 60, 47, 65, 32, 49, 62, 62] : List UInt8).toArray⟩ by rw [show Pl.join [[49, 50], [111, 98, 106], [60, 60], [47, 65], [49], [62, 62]] = [49, 50, 32, 111, 98, 106, 60, 60, 47, 65, 32, 49, 62, 62] by decide +kernel]) h10.tail fun w11 h11 => ?_
  simp only [rs, eq_self, decide_true]
  refine o_new (fun b => .slice (some ⟨b, 0, none⟩) 3 3) (strsV [[40, 97, 41], [], [55]]) 9 (fun _ => by kernel_rfl) h11 fun b11 w12 h12 => ?_
  refine c_told (pjoin_ret [[40, 97, 41], [], [55]] _ w12 (h12.sl 0 rfl 1 3 3 rfl) (by decide)) (show _ = .string ⟨([40, 97, 41, 55] : List UInt8).toArray⟩ by rw [show Pl.join [[40, 97, 41], [], [55]] = [40, 97, 41, 55] by decide +kernel]) h12.tail fun w13 h13 => ?_
  simp only [rs, eq_self, decide_true]
  refine o_new (fun b => .slice (some ⟨b, 0, none⟩) 2 2) (strsV [[47], [55]]) 9 (fun _ => by kernel_rfl) h13 fun b13 w14 h14 => ?_
  refine c_told (pjoin_ret [[47], [55]] _ w14 (h14.sl 0 rfl 1 2 2 rfl) (by decide)) (show _ = .string ⟨([47, 32, 55] : List UInt8).toArray⟩ by rw [show Pl.join [[47], [55]] = [47, 32, 55] by decide +kernel]) h14.tail fun w15 h15 => ?_
  simp only [rs, eq_self, decide_true]
  refine c_told (pjoin_ret [] _ w15 (Sl.nil _ _ _) (by decide)) (show _ = .string ⟨([] : List UInt8).toArray⟩ by rfl) h15 fun w16 h16 => ?_
  simp only [rs, eq_self, decide_true]
  refine c_told (ppad_ret (42) 5 (by decide) (by decide) (by decide) (by decide) w16 (ht.own h16)) (show _ = .string ⟨([48, 48, 48, 52, 50] : List UInt8).toArray⟩ by rw [show Pl.pad (42) 5 = [48, 48, 48, 52, 50] by decide +kernel]) h16 fun w17 h17 => ?_
  simp only [rs, eq_self, decide_true]
  refine c_told (ppad_ret (100000) 5 (by decide) (by decide) (by decide) (by decide) w17 (ht.own h17)) (show _ = .string ⟨([] : List UInt8).toArray⟩ by rw [show Pl.pad (100000) 5 = [] by decide +kernel]) h17 fun w18 h18 => ?_
  simp only [rs, eq_self, decide_true]
  refine c_told (ppad_ret (-1) 5 (by decide) (by decide) (by decide) (by decide) w18 (ht.own h18)) (show _ = .string ⟨([] : List UInt8).toArray⟩ by rw [show Pl.pad (-1) 5 = [] by decide +kernel]) h18 fun w19 h19 => ?_
  simp only [rs, eq_self, decide_true]
  refine c_told (ppad_ret (1) 21 (by decide) (by decide) (by decide) (by decide) w19 (ht.own h19)) (show _ = .string ⟨([] : List UInt8).toArray⟩ by rw [show Pl.pad (1) 21 = [] by decide +kernel]) h19 fun w20 h20 => ?_
  simp only [rs, eq_self, decide_true]
  exact hK _ _ ⟨rfl, h20.done⟩
end Go.Proofs.YtfnpfbgnhncgpaaDoor
