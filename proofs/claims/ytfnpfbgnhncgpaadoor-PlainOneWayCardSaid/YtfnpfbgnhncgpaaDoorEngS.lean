/- The engine's rules for strings: range, bytes to a string, min. -/
import Derived.Test.YtfnpfbgnhncgpaaDoorEngO
import Derived.Laws.RangeString
import Derived.Laws.BytesArg
namespace Go.Proofs.YtfnpfbgnhncgpaaDoor
set_option linter.unusedVariables false
set_option linter.unusedSimpArgs false
set_option linter.defProp false
set_option linter.unusedSimpArgs false
set_option linter.unusedVariables false
namespace Eng
open Go.RowKit

def bytesV (l : List UInt8) : List Value := l.map fun c => .int .u8 (c.toNat : Int)
theorem bytesV_length (l : List UInt8) : (bytesV l).length = l.length := by simp [bytesV]
theorem bytesV_get {l : List UInt8} {i : Nat} {c : UInt8} (h : l[i]? = some c) : (bytesV l)[i]? = some (.int .u8 (c.toNat : Int)) := by simp [bytesV, h]

section
variable {S : Nat → Prop} {P : Program} {w : World} {PK : List PanicEntry → World → Prop} {K : Value → World → Prop}
theorem run_len {T U : TypeId} {cs : Array Bool} {l : List UInt8} (h : P.underlying T = some .string) : (mB .len #[T] U cs #[.string ⟨l.toArray⟩]).run P w = .ok (.value (.int .i64 (l.length : Int))) w := by
  simp [mB, builtin, Builtin.len_, run_underlying h, goInt, str_size]
theorem run_from {T : TypeId} {a : List UInt8} {k : IntKind} {lo : Int} (h : P.underlying T = some .string) (h0 : 0 ≤ lo) (h1 : lo ≤ a.length) :
    (mSlice T (.string ⟨a.toArray⟩) (some (.int k lo)) none none).run P w = .ok (.value (.string ⟨(a.drop lo.toNat).toArray⟩)) w := by
  refine mv_run ?_
  have e : (⟨a.toArray⟩ : ByteArray).extract lo.toNat a.length = ⟨(a.drop lo.toNat).toArray⟩ := by
    rw [str_ext (s := (⟨a.toArray⟩ : ByteArray).extract lo.toNat a.length), Lib.extract_data]
    rw [List.take_of_length_le (by simp)]
  simp only [Instr.sliceAt, Instr.slice, Instr.sliceBounds, Instr.sliceBound, asIntOf, run_underlying h, str_size]
  simp [run_underlying h, str_size, h0, h1, e]
theorem run_upto {T : TypeId} {a : List UInt8} {k' : IntKind} {hi : Int} (h : P.underlying T = some .string) (h1 : 0 ≤ hi) (h2 : hi ≤ a.length) :
    (mSlice T (.string ⟨a.toArray⟩) none (some (.int k' hi)) none).run P w = .ok (.value (.string ⟨(a.take hi.toNat).toArray⟩)) w := by
  refine mv_run ?_
  have e : (⟨a.toArray⟩ : ByteArray).extract 0 hi.toNat = ⟨(a.take hi.toNat).toArray⟩ := by
    rw [str_ext (s := (⟨a.toArray⟩ : ByteArray).extract 0 hi.toNat), Lib.extract_data]
    simp
  simp only [Instr.sliceAt, Instr.slice, Instr.sliceBounds, Instr.sliceBound, asIntOf, run_underlying h, str_size]
  simp [run_underlying h, str_size, h1, h2, e]
theorem m_min {T1 T2 U : TypeId} {cb : Array Bool} {k k' : IntKind} {a b : Int} : DoX P (mB .min #[T1, T2] U cb #[.int k a, .int k' b]) w PK K = K (.int k (min a b)) w := by
  refine do_eq ?_
  have e : (if b < a then b else a) = min a b := by split <;> omega
  simp [mB, builtin, Builtin.min_, Builtin.min2, e]
theorem c_bytes {S D E : TypeId} {v : Value} {l : List UInt8} (hs : P.underlying S = some (.slice E)) (he : P.underlying E = some (.int .u8)) (hd : P.underlying D = some .string) (h : Sl w v 1 l.length (bytesV l)) : DoX P (mConv S D v) w PK K = K (.string ⟨l.toArray⟩) w := by
  obtain ⟨hl, a, cap, rfl, hn, hc⟩ := h
  cases a with
  | none =>
    have h0 := hn rfl
    have : l = [] := List.eq_nil_of_length_eq_zero h0
    subst this
    exact mv_do (run_convert_bytes_nil w S E hs he _ _ D hd)
  | some p =>
    obtain ⟨hsp, hcell⟩ := hc p rfl
    by_cases h0 : l = []
    · subst h0
      refine mv_do ?_
      have hl0 : (loadCells p 0).run P w = .ok (([] : List Int).map (Value.int .u8)).toArray w := rfl
      rw [show ([] : List UInt8).length = 0 from rfl, run_convert_bytes_string w S D E _ 0 cap hs he hd, run_bytesToString w p 0 cap [] hl0]
      rfl
    replace hsp := hsp (List.length_pos_iff.2 h0)
    obtain ⟨b, off, spot⟩ := p
    simp only at hsp hcell
    subst hsp
    have := run_convert_bytes_arg (P := P) w S E hs he b off l.length cap (l.map fun c => (c.toNat : Int)) (by simp) (fun i hi => by
      refine hcell i _ ?_
      simp [bytesV, List.getElem?_eq_getElem hi]) D hd
    refine mv_do ?_
    rw [this]
    have e : strOfNums (l.map fun c => (c.toNat : Int)) = ⟨l.toArray⟩ := by
      unfold strOfNums
      rw [List.map_map]
      congr 2
      conv => rhs; rw [← List.map_id l]
      refine List.map_congr_left fun c _ => ?_
      simp
    rw [e]
theorem o_range {T : TypeId} {l : List UInt8} {w0 : World} {L : List Ent} (h : P.underlying T = some .string) (ho : OwnS S w0 w L)
    (k : ∀ b w', OwnS S w0 w' (.obj b (.stringIter ⟨l.toArray⟩ 0) :: L) → K (.pointer (some ⟨b, 0, none⟩)) w') : DoX P (mRange T (.string ⟨l.toArray⟩)) w PK K :=
  do_ok (mv_run (run_range_string w T _ h)) (k _ _ (ho.allocObj _))
theorem run_next_at {s : ByteArray} {pos b : Nat} {ty : TypeId} (hb : w.heap[b]? = some (.stringIter s pos)) (h : pos < s.size) (ha : (s[pos]'h).toNat < 128) :
    (Instr.next (.pointer (some ⟨b, 0, none⟩)) true ty).run P w = .ok (.tuple #[.bool true, .int .i64 pos, .int .i32 (s[pos]'h).toNat]) { w with heap := w.heap.setIfInBounds b (.stringIter s (pos + 1)) } := by
  simp only [Instr.next, getObj, setObj, Sem.run_bind, Sem.run, hb, Result.andThen, h, if_true, decode_ascii s pos h ha]
  simp [goInt, Sem.run, hb]
theorem put_iter {w0 : World} {L : List Ent} (ho : OwnS S w0 w L) (i : Nat) {b : Nat} {o o' : Obj} (hi : L[i]? = some (.obj b o)) : OwnS S w0 { w with heap := w.heap.setIfInBounds b o' } (L.set i (.obj b o')) := by
  have h : w.heap[b]? = some o := ho.at_ i hi
  refine ho.put i hi (w' := { w with heap := w.heap.setIfInBounds b o' }) ⟨rfl, rfl, rfl, by simp, fun k _ hk => ?_⟩ (.obj b o') ?_ (fun k hk => .inl hk)
  · show (w.heap.setIfInBounds b o')[k]? = _
    exact Array.getElem?_setIfInBounds_ne (fun e => hk (by simp [Ent.obj, e]))
  · show (w.heap.setIfInBounds b o')[b]? = _
    exact Array.getElem?_setIfInBounds_self_of_lt (lt_of_get h)
theorem o_next {w0 : World} {L : List Ent} (i : Nat) {ty : TypeId} {b pos : Nat} {l : List UInt8} {c : UInt8} (ho : OwnS S w0 w L) (hi : L[i]? = some (.obj b (.stringIter ⟨l.toArray⟩ pos))) (hc : l[pos]? = some c) (ha : c.toNat < 128)
    (k : ∀ w', OwnS S w0 w' (L.set i (.obj b (.stringIter ⟨l.toArray⟩ (pos + 1)))) → K (.tuple #[.bool true, .int .i64 pos, .int .i32 (c.toNat : Int)]) w') : DoX P (mNext (.pointer (some ⟨b, 0, none⟩)) true ty) w PK K := by
  have hl : pos < l.length := (List.getElem?_eq_some_iff.1 hc).1
  have h1 : pos < (⟨l.toArray⟩ : ByteArray).size := by rw [str_size]; exact hl
  have hg : (⟨l.toArray⟩ : ByteArray)[pos]'h1 = c := (List.getElem?_eq_some_iff.1 hc).2
  have hr := run_next_at (P := P) (ty := ty) (ho.at_ i hi) h1 (by rw [hg]; exact ha)
  rw [hg] at hr
  exact do_ok (mv_run hr) (k _ (put_iter ho i hi))
theorem o_next_end {w0 : World} {L : List Ent} (i : Nat) {ty : TypeId} {b pos : Nat} {l : List UInt8} (ho : OwnS S w0 w L) (hi : L[i]? = some (.obj b (.stringIter ⟨l.toArray⟩ pos))) (hc : l.length ≤ pos) :
    DoX P (mNext (.pointer (some ⟨b, 0, none⟩)) true ty) w PK K = K (.tuple #[.bool false]) w := by
  have h : w.heap[b]? = some (.stringIter ⟨l.toArray⟩ pos) := ho.at_ i hi
  have h1 : ¬ pos < (⟨l.toArray⟩ : ByteArray).size := by rw [str_size]; omega
  refine mv_do ?_
  simp [Instr.next, getObj, Sem.run, h, h1]
theorem x_ext3 {a b c : Value} : DoX P (mExt (.tuple #[a, b, c]) 0) w PK K = K a w ∧ DoX P (mExt (.tuple #[a, b, c]) 1) w PK K = K b w ∧ DoX P (mExt (.tuple #[a, b, c]) 2) w PK K = K c w :=
  ⟨x_ext (l := [a, b, c]) rfl, x_ext (l := [a, b, c]) rfl, x_ext (l := [a, b, c]) rfl⟩
theorem x1_0 {a : Value} : DoX P (mExt (.tuple #[a]) 0) w PK K = K a w := x_ext (l := [a]) rfl
theorem x2_0 {a b : Value} : DoX P (mExt (.tuple #[a, b]) 0) w PK K = K a w := x_ext (l := [a, b]) rfl
theorem x2_1 {a b : Value} : DoX P (mExt (.tuple #[a, b]) 1) w PK K = K b w := x_ext (l := [a, b]) rfl
theorem x3_0 {a b c : Value} : DoX P (mExt (.tuple #[a, b, c]) 0) w PK K = K a w := x_ext (l := [a, b, c]) rfl
theorem x3_1 {a b c : Value} : DoX P (mExt (.tuple #[a, b, c]) 1) w PK K = K b w := x_ext (l := [a, b, c]) rfl
theorem x3_2 {a b c : Value} : DoX P (mExt (.tuple #[a, b, c]) 2) w PK K = K c w := x_ext (l := [a, b, c]) rfl
theorem x4_0 {a b c d : Value} : DoX P (mExt (.tuple #[a, b, c, d]) 0) w PK K = K a w := x_ext (l := [a, b, c, d]) rfl
theorem x4_1 {a b c d : Value} : DoX P (mExt (.tuple #[a, b, c, d]) 1) w PK K = K b w := x_ext (l := [a, b, c, d]) rfl
theorem x4_2 {a b c d : Value} : DoX P (mExt (.tuple #[a, b, c, d]) 2) w PK K = K c w := x_ext (l := [a, b, c, d]) rfl
theorem x4_3 {a b c d : Value} : DoX P (mExt (.tuple #[a, b, c, d]) 3) w PK K = K d w := x_ext (l := [a, b, c, d]) rfl
end
theorem g_un {want : Bool} {E : (Value → World → Prop) → Prop} {w : World} {K : Value → World → Prop} : GDo undef want E w K = K undef w := propext ⟨fun x => x.out, fun x => ⟨x⟩⟩
/-- Tuples' parts, for 'simp only'. -/
def ex := And.intro @x1_0 (And.intro @x2_0 (And.intro @x2_1 (And.intro @x3_0 (And.intro @x3_1 (And.intro @x3_2 (And.intro @x4_0 (And.intro @x4_1 (And.intro @x4_2 @x4_3))))))))
theorem wrap8_id {n : Int} (h1 : 0 ≤ n) (h2 : n ≤ 255) : IntKind.wrap .u8 n = n := IntWalk.u8_in n ⟨h1, h2⟩
theorem wrap32_id {n : Int} (h1 : -2147483648 ≤ n) (h2 : n ≤ 2147483647) : IntKind.wrap .i32 n = n := IntWalk.i32_in n ⟨h1, h2⟩
theorem wrapu64_id {n : Int} (h1 : 0 ≤ n) (h2 : n ≤ 18446744073709551615) : IntKind.wrap .u64 n = n := IntWalk.u64_in n ⟨h1, h2⟩
end Eng
end Go.Proofs.YtfnpfbgnhncgpaaDoor
