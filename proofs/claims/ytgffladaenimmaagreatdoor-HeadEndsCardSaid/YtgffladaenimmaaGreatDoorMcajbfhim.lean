/- Texts that go together: EngS EngD SBuild LibBld SPlain SFix SRef02 FixP FixR FixQ SStr LibCut FixT PlA PlB PlC LawKit2 Plain03 EngG SOct LxA Plain03B EngT SLex LxB. -/
import Derived.Laws.RangeString
import Derived.Laws.BytesArg
import Derived.Test.YtgffladaenimmaaGreatDoorRows
import Derived.Test.YtgffladaenimmaaGreatDoorShelf
import Derived.Recover
import Derived.Shelf.Strings.SlTrimAscii
import Derived.Lib.Repeat
import Derived.SliceStrings
import Derived.Test.YtgffladaenimmaaGreatDoorMabjmbpao
/- The engine's rules for strings: range, bytes to a string, min. -/
namespace Go.Proofs.YtgffladaenimmaaGreatDoor
set_option linter.unusedVariables false
set_option linter.unusedSimpArgs false
set_option linter.defProp false
set_option linter.unusedSimpArgs false
set_option linter.unusedVariables false
namespace Eng
open Go.RowKit

def bytesV (l : List UInt8) : List Value := l.map fun c => .int .u8 (c.toNat : Int)
theorem bytesV_length (l : List UInt8) : (bytesV l).length = l.length := by simp [bytesV]
theorem bytesV_get {l : List UInt8} {i : Nat} {c : UInt8} (h : l[i]? = some c) : (bytesV l)[i]? = some (.int .u8 (c.toNat : Int)) := by simp [bytesV, h]

section
variable {S : Nat → Prop} {P : Program} {w : World} {PK : List PanicEntry → World → Prop} {K : Value → World → Prop}
theorem run_len {T U : TypeId} {cs : Array Bool} {l : List UInt8} (h : P.underlying T = some .string) : (mB .len #[T] U cs #[.string ⟨l.toArray⟩]).run P w = .ok (.value (.int .i64 (l.length : Int))) w := by
  simp [mB, builtin, Builtin.len_, run_underlying h, goInt, str_size]
theorem run_from {T : TypeId} {a : List UInt8} {k : IntKind} {lo : Int} (h : P.underlying T = some .string) (h0 : 0 ≤ lo) (h1 : lo ≤ a.length) :
    (mSlice T (.string ⟨a.toArray⟩) (some (.int k lo)) none none).run P w = .ok (.value (.string ⟨(a.drop lo.toNat).toArray⟩)) w := by
  refine mv_run ?_
  have e : (⟨a.toArray⟩ : ByteArray).extract lo.toNat a.length = ⟨(a.drop lo.toNat).toArray⟩ := by
    rw [str_ext (s := (⟨a.toArray⟩ : ByteArray).extract lo.toNat a.length), Lib.extract_data]
    rw [List.take_of_length_le (by simp)]
  simp only [Instr.sliceAt, Instr.slice, Instr.sliceBounds, Instr.sliceBound, asIntOf, run_underlying h, str_size]
  simp [run_underlying h, str_size, h0, h1, e]
theorem run_upto {T : TypeId} {a : List UInt8} {k' : IntKind} {hi : Int} (h : P.underlying T = some .string) (h1 : 0 ≤ hi) (h2 : hi ≤ a.length) :
    (mSlice T (.string ⟨a.toArray⟩) none (some (.int k' hi)) none).run P w = .ok (.value (.string ⟨(a.take hi.toNat).toArray⟩)) w := by
  refine mv_run ?_
  have e : (⟨a.toArray⟩ : ByteArray).extract 0 hi.toNat = ⟨(a.take hi.toNat).toArray⟩ := by
    rw [str_ext (s := (⟨a.toArray⟩ : ByteArray).extract 0 hi.toNat), Lib.extract_data]
    simp
  simp only [Instr.sliceAt, Instr.slice, Instr.sliceBounds, Instr.sliceBound, asIntOf, run_underlying h, str_size]
  simp [run_underlying h, str_size, h1, h2, e]
theorem m_min {T1 T2 U : TypeId} {cb : Array Bool} {k k' : IntKind} {a b : Int} : DoX P (mB .min #[T1, T2] U cb #[.int k a, .int k' b]) w PK K = K (.int k (min a b)) w := by
  refine do_eq ?_
  have e : (if b < a then b else a) = min a b := by split <;> omega
  simp [mB, builtin, Builtin.min_, Builtin.min2, e]
theorem c_bytes {S D E : TypeId} {v : Value} {l : List UInt8} (hs : P.underlying S = some (.slice E)) (he : P.underlying E = some (.int .u8)) (hd : P.underlying D = some .string) (h : Sl w v 1 l.length (bytesV l)) : DoX P (mConv S D v) w PK K = K (.string ⟨l.toArray⟩) w := by
  obtain ⟨hl, a, cap, rfl, hn, hc⟩ := h
  cases a with
  | none =>
    have h0 := hn rfl
    have : l = [] := List.eq_nil_of_length_eq_zero h0
    subst this
    exact mv_do (run_convert_bytes_nil w S E hs he _ _ D hd)
  | some p =>
    obtain ⟨hsp, hcell⟩ := hc p rfl
    by_cases h0 : l = []
    · subst h0
      refine mv_do ?_
      have hl0 : (loadCells p 0).run P w = .ok (([] : List Int).map (Value.int .u8)).toArray w := rfl
      rw [show ([] : List UInt8).length = 0 from rfl, run_convert_bytes_string w S D E _ 0 cap hs he hd, run_bytesToString w p 0 cap [] hl0]
      rfl
    replace hsp := hsp (List.length_pos_iff.2 h0)
    obtain ⟨b, off, spot⟩ := p
    simp only at hsp hcell
    subst hsp
    have := run_convert_bytes_arg (P := P) w S E hs he b off l.length cap (l.map fun c => (c.toNat : Int)) (by simp) (fun i hi => by
      refine hcell i _ ?_
      simp [bytesV, List.getElem?_eq_getElem hi]) D hd
    refine mv_do ?_
    rw [this]
    have e : strOfNums (l.map fun c => (c.toNat : Int)) = ⟨l.toArray⟩ := by
      unfold strOfNums
      rw [List.map_map]
      congr 2
      conv => rhs; rw [← List.map_id l]
      refine List.map_congr_left fun c _ => ?_
      simp
    rw [e]
theorem o_range {T : TypeId} {l : List UInt8} {w0 : World} {L : List Ent} (h : P.underlying T = some .string) (ho : OwnS S w0 w L)
    (k : ∀ b w', OwnS S w0 w' (.obj b (.stringIter ⟨l.toArray⟩ 0) :: L) → K (.pointer (some ⟨b, 0, none⟩)) w') : DoX P (mRange T (.string ⟨l.toArray⟩)) w PK K :=
  do_ok (mv_run (run_range_string w T _ h)) (k _ _ (ho.allocObj _))
theorem run_next_at {s : ByteArray} {pos b : Nat} {ty : TypeId} (hb : w.heap[b]? = some (.stringIter s pos)) (h : pos < s.size) (ha : (s[pos]'h).toNat < 128) :
    (Instr.next (.pointer (some ⟨b, 0, none⟩)) true ty).run P w = .ok (.tuple #[.bool true, .int .i64 pos, .int .i32 (s[pos]'h).toNat]) { w with heap := w.heap.setIfInBounds b (.stringIter s (pos + 1)) } := by
  simp only [Instr.next, getObj, setObj, Sem.run_bind, Sem.run, hb, Result.andThen, h, if_true, decode_ascii s pos h ha]
  simp [goInt, Sem.run, hb]
theorem put_iter {w0 : World} {L : List Ent} (ho : OwnS S w0 w L) (i : Nat) {b : Nat} {o o' : Obj} (hi : L[i]? = some (.obj b o)) : OwnS S w0 { w with heap := w.heap.setIfInBounds b o' } (L.set i (.obj b o')) := by
  have h : w.heap[b]? = some o := ho.at_ i hi
  refine ho.put i hi (w' := { w with heap := w.heap.setIfInBounds b o' }) ⟨rfl, rfl, rfl, by simp, fun k _ hk => ?_⟩ (.obj b o') ?_ (fun k hk => .inl hk)
  · show (w.heap.setIfInBounds b o')[k]? = _
    exact Array.getElem?_setIfInBounds_ne (fun e => hk (by simp [Ent.obj, e]))
  · show (w.heap.setIfInBounds b o')[b]? = _
    exact Array.getElem?_setIfInBounds_self_of_lt (lt_of_get h)
theorem o_next {w0 : World} {L : List Ent} (i : Nat) {ty : TypeId} {b pos : Nat} {l : List UInt8} {c : UInt8} (ho : OwnS S w0 w L) (hi : L[i]? = some (.obj b (.stringIter ⟨l.toArray⟩ pos))) (hc : l[pos]? = some c) (ha : c.toNat < 128)
    (k : ∀ w', OwnS S w0 w' (L.set i (.obj b (.stringIter ⟨l.toArray⟩ (pos + 1)))) → K (.tuple #[.bool true, .int .i64 pos, .int .i32 (c.toNat : Int)]) w') : DoX P (mNext (.pointer (some ⟨b, 0, none⟩)) true ty) w PK K := by
  have hl : pos < l.length := (List.getElem?_eq_some_iff.1 hc).1
  have h1 : pos < (⟨l.toArray⟩ : ByteArray).size := by rw [str_size]; exact hl
  have hg : (⟨l.toArray⟩ : ByteArray)[pos]'h1 = c := (List.getElem?_eq_some_iff.1 hc).2
  have hr := run_next_at (P := P) (ty := ty) (ho.at_ i hi) h1 (by rw [hg]; exact ha)
  rw [hg] at hr
  exact do_ok (mv_run hr) (k _ (put_iter ho i hi))
theorem o_next_end {w0 : World} {L : List Ent} (i : Nat) {ty : TypeId} {b pos : Nat} {l : List UInt8} (ho : OwnS S w0 w L) (hi : L[i]? = some (.obj b (.stringIter ⟨l.toArray⟩ pos))) (hc : l.length ≤ pos) :
    DoX P (mNext (.pointer (some ⟨b, 0, none⟩)) true ty) w PK K = K (.tuple #[.bool false]) w := by
  have h : w.heap[b]? = some (.stringIter ⟨l.toArray⟩ pos) := ho.at_ i hi
  have h1 : ¬ pos < (⟨l.toArray⟩ : ByteArray).size := by rw [str_size]; omega
  refine mv_do ?_
  simp [Instr.next, getObj, Sem.run, h, h1]
theorem x_ext3 {a b c : Value} : DoX P (mExt (.tuple #[a, b, c]) 0) w PK K = K a w ∧ DoX P (mExt (.tuple #[a, b, c]) 1) w PK K = K b w ∧ DoX P (mExt (.tuple #[a, b, c]) 2) w PK K = K c w :=
  ⟨x_ext (l := [a, b, c]) rfl, x_ext (l := [a, b, c]) rfl, x_ext (l := [a, b, c]) rfl⟩
theorem x1_0 {a : Value} : DoX P (mExt (.tuple #[a]) 0) w PK K = K a w := x_ext (l := [a]) rfl
theorem x2_0 {a b : Value} : DoX P (mExt (.tuple #[a, b]) 0) w PK K = K a w := x_ext (l := [a, b]) rfl
theorem x2_1 {a b : Value} : DoX P (mExt (.tuple #[a, b]) 1) w PK K = K b w := x_ext (l := [a, b]) rfl
theorem x3_0 {a b c : Value} : DoX P (mExt (.tuple #[a, b, c]) 0) w PK K = K a w := x_ext (l := [a, b, c]) rfl
theorem x3_1 {a b c : Value} : DoX P (mExt (.tuple #[a, b, c]) 1) w PK K = K b w := x_ext (l := [a, b, c]) rfl
theorem x3_2 {a b c : Value} : DoX P (mExt (.tuple #[a, b, c]) 2) w PK K = K c w := x_ext (l := [a, b, c]) rfl
theorem x4_0 {a b c d : Value} : DoX P (mExt (.tuple #[a, b, c, d]) 0) w PK K = K a w := x_ext (l := [a, b, c, d]) rfl
theorem x4_1 {a b c d : Value} : DoX P (mExt (.tuple #[a, b, c, d]) 1) w PK K = K b w := x_ext (l := [a, b, c, d]) rfl
theorem x4_2 {a b c d : Value} : DoX P (mExt (.tuple #[a, b, c, d]) 2) w PK K = K c w := x_ext (l := [a, b, c, d]) rfl
theorem x4_3 {a b c d : Value} : DoX P (mExt (.tuple #[a, b, c, d]) 3) w PK K = K d w := x_ext (l := [a, b, c, d]) rfl
end
theorem g_un {want : Bool} {E : (Value → World → Prop) → Prop} {w : World} {K : Value → World → Prop} : GDo undef want E w K = K undef w := propext ⟨fun x => x.out, fun x => ⟨x⟩⟩
/-- Tuples' parts, for 'simp only'. -/
def ex := And.intro @x1_0 (And.intro @x2_0 (And.intro @x2_1 (And.intro @x3_0 (And.intro @x3_1 (And.intro @x3_2 (And.intro @x4_0 (And.intro @x4_1 (And.intro @x4_2 @x4_3))))))))
theorem wrap8_id {n : Int} (h1 : 0 ≤ n) (h2 : n ≤ 255) : IntKind.wrap .u8 n = n := IntWalk.u8_in n ⟨h1, h2⟩
theorem wrap32_id {n : Int} (h1 : -2147483648 ≤ n) (h2 : n ≤ 2147483647) : IntKind.wrap .i32 n = n := IntWalk.i32_in n ⟨h1, h2⟩
theorem wrapu64_id {n : Int} (h1 : 0 ≤ n) (h2 : n ≤ 18446744073709551615) : IntKind.wrap .u64 n = n := IntWalk.u64_in n ⟨h1, h2⟩
end Eng
end Go.Proofs.YtgffladaenimmaaGreatDoor
/- The engine's rules for structs in memory, rows that grow (append), and strings.Builder as a piece of memory. -/
namespace Go.Proofs.YtgffladaenimmaaGreatDoor
set_option linter.unusedVariables false
set_option linter.unusedSimpArgs false
set_option linter.defProp false
set_option linter.unusedSimpArgs false
set_option linter.unusedVariables false
namespace Eng
open Go.RowKit

theorem add_none (b off n : Nat) : (⟨b, off, none⟩ : Addr).add n = ⟨b, off + n, none⟩ := by unfold Addr.add; split <;> simp_all

/-- The place of a field (of at least one cell). -/
def fOff (P : Program) (T : TypeId) (f : Nat) : Option Nat :=
  match P.underlying T with
  | some (.struct fs) => match fs[f]? with
    | some fd => match P.info? fd.type with
      | some i => match i.size with
        | 0 => none
        | _ + 1 => some fd.offset
      | none => none
    | none => none
  | _ => none
/-- What a type's elements are: cells each, bytes each, a zero value of as many cells. -/
def elB (P : Program) (E : TypeId) (sz bytes : Nat) : Bool :=
  match P.info? E with
  | some i => Nat.beq i.size sz && Nat.beq i.bytes bytes && (match i.zero with | some z => Nat.beq z.cells.size sz | none => false)
  | none => false
theorem elB_spec {P : Program} {E : TypeId} {sz bytes : Nat} (h : elB P E sz bytes = true) : ∃ i z, P.info? E = some i ∧ i.zero = some z ∧ i.size = sz ∧ i.bytes = bytes ∧ z.cells.size = sz := by
  unfold elB at h
  split at h
  · rename_i i hi
    simp only [Bool.and_eq_true, Nat.beq_eq] at h
    obtain ⟨⟨h1, h2⟩, h3⟩ := h
    split at h3
    · rename_i z hz; exact ⟨i, z, hi, hz, h1, h2, by simpa using h3⟩
    · cases h3
  · cases h

section
variable {S : Nat → Prop} {P : Program} {w : World} {PK : List PanicEntry → World → Prop} {K : Value → World → Prop}

theorem run_fa {T : TypeId} {f b off o : Nat} (h : fOff P T f = some o) : (mFA T (.pointer (some ⟨b, off, none⟩)) f).run P w = .ok (.value (.pointer (some ⟨b, off + o, none⟩))) w := by
  unfold fOff at h
  split at h
  · rename_i fs hu
    split at h
    · rename_i fd hfd
      split at h
      · rename_i i hi
        cases hs : i.size with
        | zero => rw [hs] at h; cases h
        | succ m =>
          rw [hs] at h
          simp only [Option.some.injEq] at h
          subst h
          refine mv_run ?_
          simp [Instr.fieldAt, run_underlying hu, hfd, Instr.sureAddr, fieldPlace, sizeOf, typeInfo, hi, hs, add_none]
      · cases h
    · cases h
  · cases h
theorem f_addr {T : TypeId} {f b off o : Nat} (h : fOff P T f = some o) : DoX P (mFA T (.pointer (some ⟨b, off, none⟩)) f) w PK K = K (.pointer (some ⟨b, off + o, none⟩)) w := do_eq (run_fa h)
theorem run_nil {a : Addr} : (mNil (.pointer (some a))).run P w = .ok (.value (.pointer (some a))) w := by simp [mNil, execOp]

/- BITS -/
def bAnd (k : IntKind) (x y : Int) : Int := k.wrap ((BitVec.ofInt k.bits x &&& BitVec.ofInt k.bits y).toNat : Int)
def bOr (k : IntKind) (x y : Int) : Int := k.wrap ((BitVec.ofInt k.bits x ||| BitVec.ofInt k.bits y).toNat : Int)
def bXor (k : IntKind) (x y : Int) : Int := k.wrap ((BitVec.ofInt k.bits x ^^^ BitVec.ofInt k.bits y).toNat : Int)
theorem r_and {T : TypeId} {k : IntKind} {a b : Int} : (mBin .and T (.int k a) (.int k b)).run P w = .ok (.value (.int k (bAnd k a b))) w := mv_run (by simp [binOp, Op.intBits, bAnd])
theorem r_or {T : TypeId} {k : IntKind} {a b : Int} : (mBin .or T (.int k a) (.int k b)).run P w = .ok (.value (.int k (bOr k a b))) w := mv_run (by simp [binOp, Op.intBits, bOr])
theorem r_xor {T : TypeId} {k : IntKind} {a b : Int} : (mBin .xor T (.int k a) (.int k b)).run P w = .ok (.value (.int k (bXor k a b))) w := mv_run (by simp [binOp, Op.intBits, bXor])
theorem r_shr {T : TypeId} {k k' : IntKind} {a b : Int} (h : 0 ≤ b) : (mBin .shr T (.int k a) (.int k' b)).run P w = .ok (.value (.int k (a.fdiv (2 ^ (min b.toNat k.bits))))) w := mv_run (by
  have h' : ¬ b < 0 := by omega
  simp [binOp, Op.shift, h'])
theorem r_shl {T : TypeId} {k k' : IntKind} {a b : Int} (h : 0 ≤ b) : (mBin .shl T (.int k a) (.int k' b)).run P w = .ok (.value (.int k (k.wrap (a * 2 ^ (min b.toNat k.bits))))) w := mv_run (by
  have h' : ¬ b < 0 := by omega
  simp [binOp, Op.shift, h'])
theorem b_and {T : TypeId} {k : IntKind} {a b : Int} : DoX P (mBin .and T (.int k a) (.int k b)) w PK K = K (.int k (bAnd k a b)) w := do_eq r_and
theorem b_or {T : TypeId} {k : IntKind} {a b : Int} : DoX P (mBin .or T (.int k a) (.int k b)) w PK K = K (.int k (bOr k a b)) w := do_eq r_or
theorem b_xor {T : TypeId} {k : IntKind} {a b : Int} : DoX P (mBin .xor T (.int k a) (.int k b)) w PK K = K (.int k (bXor k a b)) w := do_eq r_xor
theorem b_shr {T : TypeId} {k k' : IntKind} {a b : Int} (h : 0 ≤ b) : DoX P (mBin .shr T (.int k a) (.int k' b)) w PK K = K (.int k (a.fdiv (2 ^ (min b.toNat k.bits)))) w := do_eq (r_shr h)
theorem b_shl {T : TypeId} {k k' : IntKind} {a b : Int} (h : 0 ≤ b) : DoX P (mBin .shl T (.int k a) (.int k' b)) w PK K = K (.int k (k.wrap (a * 2 ^ (min b.toNat k.bits)))) w := do_eq (r_shl h)
theorem run_s_ix {T : TypeId} {k : IntKind} {i : Int} {a : List UInt8} {c : UInt8} (h : P.underlying T = some .string) (h0 : 0 ≤ i) (hc : a[i.toNat]? = some c) : (mIx T (.string ⟨a.toArray⟩) (.int k i)).run P w = .ok (.value (.int .u8 (c.toNat : Int))) w := by
  refine mv_run ?_
  have e : (⟨a.toArray⟩ : ByteArray)[i.toNat]? = some c := by
    have hl : i.toNat < a.length := (List.getElem?_eq_some_iff.1 hc).1
    have h1 : i.toNat < (⟨a.toArray⟩ : ByteArray).size := by rw [str_size]; exact hl
    rw [getElem?_pos (⟨a.toArray⟩ : ByteArray) i.toNat h1]
    have h2 := (List.getElem?_eq_some_iff.1 hc).2
    rw [← h2]; rfl
  simp only [Instr.index, asIntOf, run_underlying h, h0, e]
  simp [h0, e, run_underlying h]
/- APPEND -/
theorem newer {E : TypeId} {sz bytes : Nat} {T U : TypeId} {i : TypeInfo} {z : Value} (ht : P.underlying T = some (.slice E)) (hi : P.info? E = some i) (hz : i.zero = some z) (hi1 : i.size = sz) (hi2 : i.bytes = bytes) (hz1 : z.cells.size = sz) (hsz : 0 < sz)
    {v v' : Value} {w' : World} {n m c : Nat} {xs news : List Value} {a : Addr} (hown : w.ownsRowF 0 E sz v n xs) (hl : news.length = m * sz) (hnews : ∀ j u, news[j]? = some u → w.cell? (a.add j) = some u) (h1 : ∀ u ∈ news, u.oneCell' = true)
    (hmx : n + m ≤ 9223372036854775807) (hb : (n + m) * bytes ≤ 140737488355328) (hr : (Builtin.append_ #[T, T] U #[v, .slice (some a) m c]).run P w = .ok v' w') :
    ∀ k, v'.ownBlock = some k → v.ownBlock = some k ∨ w.heap.size ≤ k := by
  intro k hk
  have hmx' : n + m ≤ maxLen := by simp only [maxLen]; omega
  rcases hown.2 with ⟨rfl, rfl⟩ | ⟨g, cap, cur, fz, rfl, hbg, hg, hfz, hnc, hcm, hcs, htake⟩
  · obtain ⟨v2, w2, r1, r2, r3, r4⟩ := run_append_ownF (P := P) w w.heap.size T U E i z sz bytes ht hi hz hi1 hi2 hz1 hsz (.slice none 0 0) 0 xs ⟨hown.1, .inl ⟨rfl, rfl⟩⟩ a m c news hl hnews h1 hmx' hb (Nat.le_refl _)
    rw [r1] at hr
    cases hr
    exact .inr (World.ownsRowF.lt r2 k hk).1
  · subst hi1
    subst hi2
    by_cases hroom : n + m ≤ cap
    · have hfit : n * i.size + news.length ≤ cur.size := by rw [hl, hcs, ← Nat.add_mul]; exact Nat.mul_le_mul_right _ hroom
      rw [run_append_roomF (P := P) w T U E i ht hi g n cap cur fz hg hfz a m c news hl hnews h1 hroom hfit] at hr
      cases hr
      exact .inl hk
    · have holds : ∀ j u, xs[j]? = some u → w.cell? ((⟨g, 0, none⟩ : Addr).add j) = some u := hown.cells (g := g) rfl
      rw [run_append_grow (P := P) w T U E i z ht hi hz ⟨g, 0, none⟩ n cap xs hown.1 holds a m c news hl hnews (by omega) (by omega) (growslice_fits (by omega) hb)] at hr
      cases hr
      simp only [Value.ownBlock, Option.some.injEq] at hk
      exact .inr (by omega)
theorem run_append_any {T E U : TypeId} {cs : Array Bool} {v v2 : Value} {sz bytes n m : Nat} {xs news : List Value} (ht : P.underlying T = some (.slice E)) (he : elB P E sz bytes = true) (hsz : 0 < sz)
    (hown : w.ownsRowF 0 E sz v n xs) (hs : Sl w v2 sz m news) (h1 : ∀ u ∈ news, u.oneCell' = true) (hb : (n + m) * bytes ≤ 140737488355328) (hb2 : n + m ≤ 140737488355328) :
    ∃ v' w', (mB .append #[T, T] U cs #[v, v2]).run P w = .ok (.value v') w' ∧ Turn (.row E sz v n xs) (.row E sz v' (n + m) (xs ++ news)) w w' := by
  obtain ⟨i, z, hi, hz, hi1, hi2, hz1⟩ := elB_spec he
  obtain ⟨hl, a, cap, rfl, hn, hc⟩ := hs
  have hmx : n + m ≤ maxLen := by simp only [maxLen]; omega
  have fin : ∀ (a : Addr), (∀ j u, news[j]? = some u → w.cell? (a.add j) = some u) → ∃ v' w', (mB .append #[T, T] U cs #[v, .slice (some a) m cap]).run P w = .ok (.value v') w' ∧ Turn (.row E sz v n xs) (.row E sz v' (n + m) (xs ++ news)) w w' := by
    intro a hh
    obtain ⟨v', w', r1, r2, r3, r4⟩ := run_append_ownF (P := P) w 0 T U E i z sz bytes ht hi hz hi1 hi2 hz1 hsz v n xs hown a m cap news hl hh h1 hmx hb (Nat.zero_le _)
    refine ⟨v', w', ?_, grew_by r3, r2, newer (P := P) ht hi hz hi1 hi2 hz1 hsz hown hl hh h1 (by omega) hb r1⟩
    simp [mB, builtin, r1]
  cases a with
  | some p =>
    refine fin p fun j u hj => ?_
    have hlt : j < news.length := (List.getElem?_eq_some_iff.1 hj).1
    have hm : 0 < m := by
      rcases Nat.eq_zero_or_pos m with h0 | h0
      · subst h0; simp at hl; rw [hl] at hlt; simp at hlt
      · exact h0
    obtain ⟨hsp, hcell⟩ := hc p rfl
    have := hsp hm
    obtain ⟨b, off, spot⟩ := p
    simp only at this hcell
    subst this
    rw [add_none]; exact hcell j u hj
  | none =>
    have h0 := hn rfl
    subst h0
    have hnil : news = [] := List.eq_nil_of_length_eq_zero (by simpa using hl)
    subst hnil
    refine ⟨v, w, ?_, by rw [List.append_nil]; exact Turn.refl (e := .row E sz v n xs) hown⟩
    rcases hown.2 with ⟨rfl, rfl⟩ | ⟨g, cp, cur, fz, rfl, _, _, _, hnc, _⟩
    · simp [mB, builtin, Builtin.append_, run_underlying ht, sizeOf, typeInfo, hi, Builtin.lenOf, Builtin.firstCells]
    · simp [mB, builtin, Builtin.append_, run_underlying ht, sizeOf, typeInfo, hi, Builtin.lenOf, Builtin.firstCells, hnc, storeCells]
/-- append(s, more...): the i-th piece is the row; what is appended may be read anywhere. -/
theorem o_append {w0 : World} {L : List Ent} (i : Nat) {T E U : TypeId} {cs : Array Bool} {v v2 : Value} {sz bytes n m : Nat} {xs news : List Value} (ht : P.underlying T = some (.slice E)) (he : elB P E sz bytes = true) (hsz : 0 < sz)
    (ho : OwnS S w0 w L) (hi : L[i]? = some (.row E sz v n xs)) (hs : Sl w v2 sz m news) (h1 : ∀ u ∈ news, u.oneCell' = true) (hb : (n + m) * bytes ≤ 140737488355328) (hb2 : n + m ≤ 140737488355328)
    (k : ∀ v' w', OwnS S w0 w' (L.set i (.row E sz v' (n + m) (xs ++ news))) → K v' w') : DoX P (mB .append #[T, T] U cs #[v, v2]) w PK K := by
  obtain ⟨v', w', r, t⟩ := run_append_any (cs := cs) (U := U) ht he hsz (ho.at_ i hi) hs h1 hb hb2
  exact do_ok r (k _ _ (ho.turn i hi t))
/-- No slice of a block, without room. -/
def roomy (v : Value) : Prop := ∀ a k, v ≠ .slice (some a) k 0
theorem roomy_nil : roomy (.slice none 0 0) := fun _ _ h => by cases h
theorem roomy_row {E : TypeId} {sz : Nat} {v : Value} {n : Nat} {xs : List Value} (h : w.ownsRowF 0 E sz v n xs) (hn : 0 < n) : roomy v := by
  intro a k hc
  rcases h.2 with ⟨rfl, _⟩ | ⟨g, cap, cur, fz, rfl, hbg, hg, hfz, hnc, hcm, hcs, htake⟩
  · cases hc
  · injection hc with c1 c2 c3
    omega
theorem strCells_bytesV (l : List UInt8) : Lib.strCells ⟨l.toArray⟩ = bytesV l := by
  simp [Lib.strCells, bytesV]
theorem run_append_string {T U2 E U : TypeId} {cs : Array Bool} {v : Value} {n : Nat} {xs : List Value} {l : List UInt8} (ht : P.underlying T = some (.slice E)) (hu : P.underlying U2 = some .string) (he : elB P E 1 1 = true) (h8 : P.underlying E = some (.int .u8))
    (hz8 : (P.info? E).bind (·.zero) = some (.int .u8 0))
    (hown : w.ownsRowF 0 E 1 v n xs) (hb2 : n + l.length ≤ 140737488355328) :
    ∃ v' w', (mB .append #[T, U2] U cs #[v, .string ⟨l.toArray⟩]).run P w = .ok (.value v') w' ∧ Turn (.row E 1 v n xs) (.row E 1 v' (n + l.length) (xs ++ bytesV l)) w w' ∧ (roomy v → roomy v') := by
  obtain ⟨i, z, hi, hz, hi1, hi2, hz1⟩ := elB_spec he
  have hz0 : i.zero = some (.int .u8 0) := by rw [hi] at hz8; exact hz8
  have hsz := str_size l
  have hmx : n + (⟨l.toArray⟩ : ByteArray).size ≤ maxLen := by rw [hsz]; simp only [maxLen]; omega
  obtain ⟨v', w', r1, r2, r3, r4⟩ := Lib.run_append_own_stringF (P := P) w 0 T U2 U E i ht hu hi hz0 hi1 hi2 v n xs hown ⟨l.toArray⟩ hmx (by rw [hsz]; omega) (Nat.zero_le _)
  rw [strCells_bytesV, hsz] at r2
  have hro : roomy v → roomy v' := by
    intro hv a k hc
    rcases Nat.eq_zero_or_pos (n + l.length) with h0 | h0
    · rcases hown.2 with ⟨rfl, _⟩ | ⟨g, cap, cur, fz, rfl, hbg, hg, hfz, hnc, hcm, hcs, htake⟩
      · have := r4.2 ⟨rfl, by rw [hsz]; omega⟩
        rw [this] at hc; cases hc
      · have hroom : n + (⟨l.toArray⟩ : ByteArray).size ≤ cap := by rw [hsz]; omega
        rw [Lib.run_append_room_stringF (P := P) w T U2 U E i ht hu hi hi1 g n cap cur fz hg (by simpa using hfz) ⟨l.toArray⟩ hroom (by simp at hcs; omega)] at r1
        injection r1 with r1a r1b
        rw [← r1a] at hc
        injection hc with c1 c2 c3
        exact hv ⟨g, 0, none⟩ n (by rw [c3])
    · exact roomy_row r2 h0 a k hc
  refine ⟨v', w', by simp [mB, builtin, r1], ⟨grew_by r3, r2, ?_⟩, hro⟩
  intro k hk
  rcases hown.2 with ⟨rfl, rfl⟩ | ⟨g, cap, cur, fz, rfl, hbg, hg, hfz, hnc, hcm, hcs, htake⟩
  · obtain ⟨v2, w2, q1, q2, q3, q4⟩ := Lib.run_append_own_stringF (P := P) w w.heap.size T U2 U E i ht hu hi hz0 hi1 hi2 (.slice none 0 0) 0 xs ⟨hown.1, .inl ⟨rfl, rfl⟩⟩ ⟨l.toArray⟩ hmx (by rw [hsz]; omega) (Nat.le_refl _)
    rw [q1] at r1
    cases r1
    exact .inr (World.ownsRowF.lt q2 k hk).1
  · by_cases hroom : n + (⟨l.toArray⟩ : ByteArray).size ≤ cap
    · rw [Lib.run_append_room_stringF (P := P) w T U2 U E i ht hu hi hi1 g n cap cur fz hg (by simpa using hfz) ⟨l.toArray⟩ hroom (by simp at hcs; omega)] at r1
      cases r1
      exact .inl hk
    · have holds : ∀ j u, xs[j]? = some u → w.cell? ((⟨g, 0, none⟩ : Addr).add j) = some u := hown.cells (g := g) rfl
      rw [Lib.run_append_grow_string (P := P) w T U2 U E i (.int .u8 0) ht hu hi hz0 ⟨g, 0, none⟩ n cap xs (by rw [hi1]; simpa using hown.1) holds ⟨l.toArray⟩ (by omega) (by rw [hsz]; omega) (by rw [hi2]; exact growslice_fits (by omega) (by rw [hsz]; omega))] at r1
      cases r1
      have hk' : some w.heap.size = some k := hk
      cases hk'
      exact .inr (Nat.le_refl _)
theorem o_append_str {w0 : World} {L : List Ent} (i : Nat) {T U2 E U : TypeId} {cs : Array Bool} {v : Value} {n : Nat} {xs : List Value} {l : List UInt8} (ht : P.underlying T = some (.slice E)) (hu : P.underlying U2 = some .string) (he : elB P E 1 1 = true) (h8 : P.underlying E = some (.int .u8))
    (hz8 : (P.info? E).bind (·.zero) = some (.int .u8 0)) (ho : OwnS S w0 w L) (hi : L[i]? = some (.row E 1 v n xs)) (hb2 : n + l.length ≤ 140737488355328)
    (k : ∀ v' w', (roomy v → roomy v') → OwnS S w0 w' (L.set i (.row E 1 v' (n + l.length) (xs ++ bytesV l))) → K v' w') : DoX P (mB .append #[T, U2] U cs #[v, .string ⟨l.toArray⟩]) w PK K := by
  obtain ⟨v', w', r, t, hc⟩ := run_append_string (cs := cs) (U := U) ht hu he h8 hz8 (ho.at_ i hi) hb2
  exact do_ok r (k _ _ hc (ho.turn i hi t))
/-- A nil slice is a row. -/
theorem OwnS.nilRow {w0 : World} {L : List Ent} (ho : OwnS S w0 w L) (E : TypeId) (sz : Nat) : OwnS S w0 w (.row E sz (.slice none 0 0) 0 [] :: L) := by
  refine ⟨ho.grew, fun e he => ?_, .cons (fun f hf k hk => by simp [Ent.row, Value.ownBlock] at hk) ho.apart⟩
  rcases List.mem_cons.1 he with rfl | he
  · exact ⟨World.ownsRowF_nil w 0 E sz, fun k hk => by simp [Ent.row, Value.ownBlock] at hk⟩
  · exact ho.all e he
theorem OwnS.slRow {w0 : World} {L : List Ent} (ho : OwnS S w0 w L) (i : Nat) {T : TypeId} {sz : Nat} {v : Value} {n : Nat} {xs : List Value} (hi : L[i]? = some (.row T sz v n xs)) : Sl w v sz n xs := Sl.row (ho.at_ i hi)
/-- A block of cells, all of them in use, is a row. -/
theorem OwnS.toRow {w0 : World} {L : List Ent} {b : Nat} {cs : List Value} {E : TypeId} (ho : OwnS S w0 w (.cells b cs E :: L)) (sz n cap : Nat) (hl : cs.length = cap * sz) (hn : n ≤ cap) (hc : cap ≤ 9223372036854775807) :
    OwnS S w0 w (.row E sz (.slice (some ⟨b, 0, none⟩) n cap) n (cs.take (n * sz)) :: L) := by
  refine ⟨ho.grew, fun e he => ?_, ?_⟩
  · rcases List.mem_cons.1 he with rfl | he
    · refine ⟨⟨by rw [List.length_take, hl, Nat.min_eq_left (Nat.mul_le_mul_right _ hn)], .inr ⟨b, cap, cs.toArray, (0, 0), rfl, Nat.zero_le _, ho.at_ 0 rfl, Nat.zero_le _, hn, by simp only [maxLen]; omega, by simpa using hl, by simp⟩⟩, fun k hk => ?_⟩
      simp only [Ent.row, Value.ownBlock, Option.some.injEq] at hk
      exact (ho.all (.cells b cs E) (by simp)).2 k hk.symm
    · exact ho.all e (by simp [he])
  · refine .cons (fun f hf k hk => ?_) (List.pairwise_cons.1 ho.apart).2
    simp only [Ent.row, Value.ownBlock, Option.some.injEq] at hk
    exact (List.pairwise_cons.1 ho.apart).1 f hf k hk.symm

/-- make([]T, 0, c). -/
theorem o_make {w0 : World} {L : List Ent} {T E : TypeId} {sz bytes c : Nat} {kl kc : IntKind} {x : Int} (hx : x = c) (ht : P.underlying T = some (.slice E)) (he : elB P E sz bytes = true) (hb : bytes * c ≤ 281474976710656) (hc : c ≤ 281474976710656) (ho : OwnS S w0 w L)
    (k : ∀ v w', OwnS S w0 w' (.row E sz v 0 [] :: L) → K v w') : DoX P (mMake T (.int kl 0) (.int kc x)) w PK K := by
  subst hx
  obtain ⟨i, z, hi, hz, hi1, hi2, hz1⟩ := elB_spec he
  obtain ⟨w', r1, r2, r3⟩ := run_make_own (P := P) w w.heap.size T E i z sz ht hi hz hi1 kl kc c (by rw [hi2]; exact hb) (by simp only [maxLen]; omega) (Nat.le_refl _)
  refine do_ok (mv_run r1) (k _ _ (ho.add r3 (.row E sz (.slice (some ⟨w.heap.size, 0, none⟩) 0 c) 0 []) ?_ (fun k hk => ?_)))
  · have := World.ownsRowF_of r2
    refine ⟨this.1, ?_⟩
    rcases this.2 with h | ⟨g, cp, cur, fz, h1, h2, h3⟩
    · exact .inl h
    · exact .inr ⟨g, cp, cur, fz, h1, Nat.zero_le _, h3⟩
  · have hk' : some w.heap.size = some k := hk
    cases hk'; exact Nat.le_refl _
/- STRINGS.BUILDER -/
/-- A Builder in block b, its buffer the slice v, that holds l. -/
def Ent.bld (T E : TypeId) (b : Nat) (v : Value) (l : List UInt8) : Ent :=
  ⟨fun k => k = b ∨ v.ownBlock = some k,
   fun w => (∃ p, (p = .pointer none ∨ p = .pointer (some ⟨b, 0, none⟩)) ∧ w.heap[b]? = some (.cells #[p, v] T (0, 0))) ∧ w.ownsRowF 0 E 1 v l.length (bytesV l) ∧ v.ownBlock ≠ some b ∧ roomy v,
   fun {w w'} h k => ⟨by obtain ⟨p, hp, hb⟩ := h.1; exact ⟨p, hp, (k b (.inl rfl)).trans hb⟩, (Ent.row E 1 v l.length (bytesV l)).keep h.2.1 (fun j hj => k j (.inr hj)), h.2.2⟩,
   fun {w} h k hk => by
    rcases hk with rfl | hk
    · obtain ⟨p, hp, hb⟩ := h.1; exact lt_of_get hb
    · exact (World.ownsRowF.lt h.2.1 k hk).2⟩
theorem OwnS.openB {w0 : World} {L : List Ent} {T E : TypeId} {b : Nat} {v : Value} {l : List UInt8} (ho : OwnS S w0 w (.bld T E b v l :: L)) :
    ∃ p, (p = .pointer none ∨ p = .pointer (some ⟨b, 0, none⟩)) ∧ roomy v ∧ OwnS S w0 w (.cells b [p, v] T :: .row E 1 v l.length (bytesV l) :: L) := by
  have hm := ho.all (.bld T E b v l) (by simp)
  obtain ⟨⟨p, hp, hb⟩, hr, hne, hcap⟩ := hm.1
  refine ⟨p, hp, hcap, ho.grew, fun e he => ?_, ?_⟩
  · rcases List.mem_cons.1 he with rfl | he
    · exact ⟨hb, fun k hk => hm.2 k (.inl hk)⟩
    · rcases List.mem_cons.1 he with rfl | he
      · exact ⟨hr, fun k hk => hm.2 k (.inr hk)⟩
      · exact ho.all e (by simp [he])
  · obtain ⟨h1, h2⟩ := List.pairwise_cons.1 ho.apart
    refine .cons (fun f hf k hk hk' => ?_) (.cons (fun f hf k hk => h1 f hf k (.inr hk)) h2)
    rcases List.mem_cons.1 hf with rfl | hf
    · have hkb : k = b := hk
      rw [hkb] at hk'
      exact hne hk'
    · exact h1 f hf k (.inl hk) hk'
theorem OwnS.closeB {w0 : World} {L : List Ent} {T E : TypeId} {b n : Nat} {p v : Value} {l : List UInt8} (hp : p = .pointer none ∨ p = .pointer (some ⟨b, 0, none⟩)) (hcap : roomy v) (ho : OwnS S w0 w (.cells b [p, v] T :: .row E 1 v n (bytesV l) :: L)) :
    OwnS S w0 w (.bld T E b v l :: L) := by
  have h0 := ho.all (.cells b [p, v] T) (by simp)
  have h1 := ho.all (.row E 1 v n (bytesV l)) (by simp)
  obtain ⟨a1, a2⟩ := List.pairwise_cons.1 ho.apart
  obtain ⟨a3, a4⟩ := List.pairwise_cons.1 a2
  have hn : n = l.length := by have := h1.1.1; rw [bytesV_length] at this; omega
  subst hn
  refine ⟨ho.grew, fun e he => ?_, .cons (fun f hf k hk hk' => ?_) a4⟩
  · rcases List.mem_cons.1 he with rfl | he
    · refine ⟨⟨⟨p, hp, h0.1⟩, h1.1, fun hc => a1 (.row E 1 v l.length (bytesV l)) (by simp) b rfl hc, hcap⟩, fun k hk => ?_⟩
      rcases hk with hk | hk
      · exact h0.2 k hk
      · exact h1.2 k hk
    · exact ho.all e (by simp [he])
  · rcases hk with hk | hk
    · exact a1 f (by simp [hf]) k hk hk'
    · exact a3 f hf k hk hk'
theorem OwnS.swap {w0 : World} {e f : Ent} {L : List Ent} (ho : OwnS S w0 w (e :: f :: L)) : OwnS S w0 w (f :: e :: L) := by
  obtain ⟨a1, a2⟩ := List.pairwise_cons.1 ho.apart
  obtain ⟨a3, a4⟩ := List.pairwise_cons.1 a2
  exact ⟨ho.grew, fun g hg => ho.all g (by simp only [List.mem_cons] at hg ⊢; rcases hg with h | h | h <;> simp [h]), .cons (fun g hg k hk hk' => by
    rcases List.mem_cons.1 hg with rfl | hg
    · exact a1 f (by simp) k hk' hk
    · exact a3 g hg k hk hk') (.cons (fun g hg k hk hk' => a1 g (by simp [hg]) k hk hk') a4)⟩

/-- A callee turns the i-th piece. -/
theorem c_turn {w0 : World} {L : List Ent} (i : Nat) {f : Nat} {args : Array Value} {e : Ent} {R : Value → Ent → Prop} (ho : OwnS S w0 w L) (hi : L[i]? = some e) (h : Ret P f args w (fun v w' => ∃ e', R v e' ∧ Turn e e' w w'))
    (k : ∀ v e' w', R v e' → OwnS S w0 w' (L.set i e') → K v w') : CallX P f args w PK K :=
  c_ret h fun v w' ⟨e', hr, ht⟩ => k v e' w' hr (ho.turn i hi ht)
/-- A callee that only makes memory. -/
theorem c_below {w0 : World} {L : List Ent} {f : Nat} {args : Array Value} {R : Value → Prop} (ho : OwnS S w0 w L) (h : Ret P f args w (fun v w' => R v ∧ Below w.heap.size w w'))
    (k : ∀ v w', R v → OwnS S w0 w' L → K v w') : CallX P f args w PK K :=
  c_ret h fun v w' ⟨hr, hb⟩ => k v w' hr (ho.grow hb)
end
end Eng
end Go.Proofs.YtgffladaenimmaaGreatDoor
/- Code in continuation form, by program (gen.py): 7 functions. -/
namespace Go.Proofs.YtgffladaenimmaaGreatDoor
set_option linter.unusedVariables false
set_option linter.unusedSimpArgs false
set_option linter.defProp false
set_option linter.unusedVariables false
set_option maxRecDepth 20000
open Eng

/- (*strings.Builder).copyCheck -/
def S_strings_Builder_copyCheck (t0 : Value) (w : World) (K : Ending → World → Prop) : Prop :=
 DoX Tryz.prog (mNil t0) w (pk K) fun t3 w =>
 DoX Tryz.prog (mFA 90 t3 0) w (pk K) fun t4 w =>
 DoX Tryz.prog (mLoad 87 t4) w (pk K) fun t5 w =>
 DoX Tryz.prog (mEq .eql 87 (.tmp 5) (.const (.pointer none)) t5 (.pointer none)) w (pk K) fun t6 w =>
 IfX t6 (DoX Tryz.prog (mConv 87 140 t0) w (pk K) fun t9 w =>
 DoX Tryz.prog (mCallV (.func (.func 127) #[] #[]) #[t9]) w (pk K) fun t10 w =>
 DoX Tryz.prog (mConv 140 87 t10) w (pk K) fun t11 w =>
 DoX Tryz.prog (mNil t0) w (pk K) fun t12 w =>
 DoX Tryz.prog (mFA 90 t12 0) w (pk K) fun t13 w =>
 DoX Tryz.prog (mStore 87 t13 t11) w (pk K) fun _ w =>
 K (.returned (.tuple #[])) w) (DoX Tryz.prog (mNil t0) w (pk K) fun t15 w =>
 DoX Tryz.prog (mFA 90 t15 0) w (pk K) fun t16 w =>
 DoX Tryz.prog (mLoad 87 t16) w (pk K) fun t17 w =>
 DoX Tryz.prog (mEq .neq 87 (.tmp 17) (.tmp 18) t17 t0) w (pk K) fun t19 w =>
 IfX t19 (False) (K (.returned (.tuple #[])) w))
theorem S_strings_Builder_copyCheck_eq (t0 : Value) (w : World) (K : Ending → World → Prop) : wpX Tryz.prog 20 [] [] none (bodyOf Tryz.f99) (topQ Tryz.prog [] K) (startX [t0]) [] w = S_strings_Builder_copyCheck t0 w K := by kernel_rfl
theorem S_strings_Builder_copyCheck_ok {t0 : Value} {w : World} {K : Ending → World → Prop} (h : S_strings_Builder_copyCheck t0 w K) : Calls Tryz.prog 99 #[t0] w K :=
  calls_of_wpX Tryz.func99 rfl rfl rfl rfl (Eq.mpr (S_strings_Builder_copyCheck_eq t0 w K) h)

/- (*strings.Builder).WriteByte -/
def S_strings_Builder_WriteByte (t0 t1 : Value) (w : World) (K : Ending → World → Prop) : Prop :=
 CallX Tryz.prog 99 #[t0] w (pk K) fun t6 w =>
 DoX Tryz.prog (mNil t0) w (pk K) fun t9 w =>
 DoX Tryz.prog (mFA 90 t9 1) w (pk K) fun t10 w =>
 DoX Tryz.prog (mLoad 88 t10) w (pk K) fun t11 w =>
 DoX Tryz.prog (mBuildS 88 1 #[(0, t1)]) w (pk K) fun t13 w =>
 DoX Tryz.prog (mB .append #[88, 88] 88 #[false, false] #[t11, t13]) w (pk K) fun t14 w =>
 DoX Tryz.prog (mNil t0) w (pk K) fun t15 w =>
 DoX Tryz.prog (mFA 90 t15 1) w (pk K) fun t16 w =>
 DoX Tryz.prog (mStore 88 t16 t14) w (pk K) fun _ w =>
 K (.returned .nilIface) w
theorem S_strings_Builder_WriteByte_eq (t0 t1 : Value) (w : World) (K : Ending → World → Prop) : wpX Tryz.prog 17 [] [] none (bodyOf Tryz.f65) (topQ Tryz.prog [.tmp 4] K) (startX [t0, t1]) [] w = S_strings_Builder_WriteByte t0 t1 w K := by kernel_rfl
theorem S_strings_Builder_WriteByte_ok {t0 t1 : Value} {w : World} {K : Ending → World → Prop} (h : S_strings_Builder_WriteByte t0 t1 w K) : Calls Tryz.prog 65 #[t0, t1] w K :=
  calls_of_wpX Tryz.func65 rfl rfl rfl rfl (Eq.mpr (S_strings_Builder_WriteByte_eq t0 t1 w K) h)

/- (*strings.Builder).WriteString -/
def S_strings_Builder_WriteString (t0 t1 : Value) (w : World) (K : Ending → World → Prop) : Prop :=
 CallX Tryz.prog 99 #[t0] w (pk K) fun t7 w =>
 DoX Tryz.prog (mNil t0) w (pk K) fun t10 w =>
 DoX Tryz.prog (mFA 90 t10 1) w (pk K) fun t11 w =>
 DoX Tryz.prog (mLoad 88 t11) w (pk K) fun t12 w =>
 DoX Tryz.prog (mB .append #[88, 9] 88 #[false, false] #[t12, t1]) w (pk K) fun t14 w =>
 DoX Tryz.prog (mNil t0) w (pk K) fun t15 w =>
 DoX Tryz.prog (mFA 90 t15 1) w (pk K) fun t16 w =>
 DoX Tryz.prog (mStore 88 t16 t14) w (pk K) fun _ w =>
 DoX Tryz.prog (mB .len #[9] 3 #[false] #[t1]) w (pk K) fun t18 w =>
 K (.returned (.tuple #[t18, .nilIface])) w
theorem S_strings_Builder_WriteString_eq (t0 t1 : Value) (w : World) (K : Ending → World → Prop) : wpX Tryz.prog 19 [] [] none (bodyOf Tryz.f64) (topQ Tryz.prog [.tmp 4, .tmp 5] K) (startX [t0, t1]) [] w = S_strings_Builder_WriteString t0 t1 w K := by kernel_rfl
theorem S_strings_Builder_WriteString_ok {t0 t1 : Value} {w : World} {K : Ending → World → Prop} (h : S_strings_Builder_WriteString t0 t1 w K) : Calls Tryz.prog 64 #[t0, t1] w K :=
  calls_of_wpX Tryz.func64 rfl rfl rfl rfl (Eq.mpr (S_strings_Builder_WriteString_eq t0 t1 w K) h)

/- (*strings.Builder).String -/
def S_strings_Builder_String (t0 : Value) (w : World) (K : Ending → World → Prop) : Prop :=
 QuietX w (fun C1 =>
 QDo Tryz.prog C1 (mNil t0) fun t4 =>
 QDo Tryz.prog C1 (mFA 90 t4 1) fun t5 =>
 QDo Tryz.prog C1 (mLoad 88 t5) fun t6 =>
 QDo Tryz.prog C1 (mB .unsafeSliceData #[88] 118 #[false] #[t6]) fun t7 =>
 QDo Tryz.prog C1 (mNil t0) fun t9 =>
 QDo Tryz.prog C1 (mFA 90 t9 1) fun t10 =>
 QDo Tryz.prog C1 (mLoad 88 t10) fun t11 =>
 QDo Tryz.prog C1 (mB .len #[88] 3 #[false] #[t11]) fun t12 =>
 ∀ w, C1 w →
 DoX Tryz.prog (mB .unsafeString #[118, 3] 9 #[false, false] #[t7, t12]) w (pk K) fun t13 w =>
 K (.returned t13) w)
theorem S_strings_Builder_String_eq (t0 : Value) (w : World) (K : Ending → World → Prop) : wpX Tryz.prog 14 [] [] none (bodyOf Tryz.f66) (topQ Tryz.prog [.tmp 2] K) (startX [t0]) [] w = S_strings_Builder_String t0 w K := by kernel_rfl
theorem S_strings_Builder_String_ok {t0 : Value} {w : World} {K : Ending → World → Prop} (h : S_strings_Builder_String t0 w K) : Calls Tryz.prog 66 #[t0] w K :=
  calls_of_wpX Tryz.func66 rfl rfl rfl rfl (Eq.mpr (S_strings_Builder_String_eq t0 w K) h)

/- (*strings.Builder).Grow -/
def S_strings_Builder_Grow_0 (t0 t1 : Value) (w : World) (K : Ending → World → Prop) : Prop :=
 QuietX w (fun C2 =>
 QDo Tryz.prog C2 (mNil t0) fun t10 =>
 QDo Tryz.prog C2 (mFA 90 t10 1) fun t11 =>
 QDo Tryz.prog C2 (mLoad 88 t11) fun t12 =>
 QDo Tryz.prog C2 (mB .cap #[88] 3 #[false] #[t12]) fun t13 =>
 QDo Tryz.prog C2 (mNil t0) fun t15 =>
 QDo Tryz.prog C2 (mFA 90 t15 1) fun t16 =>
 QDo Tryz.prog C2 (mLoad 88 t16) fun t17 =>
 QDo Tryz.prog C2 (mB .len #[88] 3 #[false] #[t17]) fun t18 =>
 QDo Tryz.prog C2 (mBin .sub 3 t13 t18) fun t19 =>
 QDo Tryz.prog C2 (mBin .lss 3 t19 t1) fun t21 =>
 ∀ w, C2 w →
 IfX t21 (CallX Tryz.prog 136 #[t0, t1] w (pk K) fun t24 w =>
 K (.returned (.tuple #[])) w) (K (.returned (.tuple #[])) w))
def S_strings_Builder_Grow (t0 t1 : Value) (w : World) (K : Ending → World → Prop) : Prop :=
 CallX Tryz.prog 99 #[t0] w (pk K) fun t5 w =>
 JoinX (fun J1 =>
 DoX Tryz.prog (mBin .lss 3 t1 (.int .i64 0)) w (pk K) fun t7 w =>
 IfX t7 (DoX Tryz.prog (mIface 9 (.string ⟨#[115, 116, 114, 105, 110, 103, 115, 46, 66, 117, 105, 108, 100, 101, 114, 46, 71, 114, 111, 119, 58, 32, 110, 101, 103, 97, 116, 105, 118, 101, 32, 99, 111, 117, 110, 116]⟩)) w (pk K) fun t8 w =>
 DoX Tryz.prog (mPanic t8) w (pk K) fun _ w =>
 J1 [] w) (J1 [] w)) (fun vs1 w => ∀ _ : Sg, S_strings_Builder_Grow_0 t0 t1 w K)
theorem S_strings_Builder_Grow_eq (t0 t1 : Value) (w : World) (K : Ending → World → Prop) : wpX Tryz.prog 25 [(3, [])] [] none (bodyOf Tryz.f104) (topQ Tryz.prog [] K) (startX [t0, t1]) [] w = S_strings_Builder_Grow t0 t1 w K := by kernel_rfl
theorem S_strings_Builder_Grow_ok {t0 t1 : Value} {w : World} {K : Ending → World → Prop} (h : S_strings_Builder_Grow t0 t1 w K) : Calls Tryz.prog 104 #[t0, t1] w K :=
  calls_of_wpX Tryz.func104 rfl rfl rfl rfl (Eq.mpr (S_strings_Builder_Grow_eq t0 t1 w K) h)

/- (*strings.Builder).grow -/
def S_strings_Builder_grow (t0 t1 : Value) (w : World) (K : Ending → World → Prop) : Prop :=
 QuietX w (fun C1 =>
 QDo Tryz.prog C1 (mNil t0) fun t6 =>
 QDo Tryz.prog C1 (mFA 90 t6 1) fun t7 =>
 QDo Tryz.prog C1 (mLoad 88 t7) fun t8 =>
 QDo Tryz.prog C1 (mB .cap #[88] 3 #[false] #[t8]) fun t9 =>
 QDo Tryz.prog C1 (mBin .mul 3 (.int .i64 2) t9) fun t10 =>
 QDo Tryz.prog C1 (mBin .add 3 t10 t1) fun t12 =>
 QDo Tryz.prog C1 (mCallV (.func (.func 163) #[] #[]) #[t12]) fun t13 =>
 QDo Tryz.prog C1 (mNil t0) fun t15 =>
 QDo Tryz.prog C1 (mFA 90 t15 1) fun t16 =>
 QDo Tryz.prog C1 (mLoad 88 t16) fun t17 =>
 QDo Tryz.prog C1 (mB .len #[88] 3 #[false] #[t17]) fun t18 =>
 QDo Tryz.prog C1 (mSlice 88 t13 none (some t18) none) fun t19 =>
 ∀ w, C1 w →
 DoX Tryz.prog (mNil t0) w (pk K) fun t22 w =>
 DoX Tryz.prog (mFA 90 t22 1) w (pk K) fun t23 w =>
 DoX Tryz.prog (mLoad 88 t23) w (pk K) fun t24 w =>
 DoX Tryz.prog (mB .copy #[88, 88] 3 #[false, false] #[t19, t24]) w (pk K) fun t25 w =>
 DoX Tryz.prog (mNil t0) w (pk K) fun t28 w =>
 DoX Tryz.prog (mFA 90 t28 1) w (pk K) fun t29 w =>
 DoX Tryz.prog (mStore 88 t29 t19) w (pk K) fun _ w =>
 K (.returned (.tuple #[])) w)
theorem S_strings_Builder_grow_eq (t0 t1 : Value) (w : World) (K : Ending → World → Prop) : wpX Tryz.prog 30 [] [] none (bodyOf Tryz.f136) (topQ Tryz.prog [] K) (startX [t0, t1]) [] w = S_strings_Builder_grow t0 t1 w K := by kernel_rfl
theorem S_strings_Builder_grow_ok {t0 t1 : Value} {w : World} {K : Ending → World → Prop} (h : S_strings_Builder_grow t0 t1 w K) : Calls Tryz.prog 136 #[t0, t1] w K :=
  calls_of_wpX Tryz.func136 rfl rfl rfl rfl (Eq.mpr (S_strings_Builder_grow_eq t0 t1 w K) h)

/- (*strings.Builder).Len -/
def S_strings_Builder_Len (t0 : Value) (w : World) (K : Ending → World → Prop) : Prop :=
 DoX Tryz.prog (mNil t0) w (pk K) fun t4 w =>
 DoX Tryz.prog (mFA 90 t4 1) w (pk K) fun t5 w =>
 DoX Tryz.prog (mLoad 88 t5) w (pk K) fun t6 w =>
 DoX Tryz.prog (mB .len #[88] 3 #[false] #[t6]) w (pk K) fun t7 w =>
 K (.returned t7) w
theorem S_strings_Builder_Len_eq (t0 : Value) (w : World) (K : Ending → World → Prop) : wpX Tryz.prog 8 [] [] none (bodyOf Tryz.f105) (topQ Tryz.prog [.tmp 2] K) (startX [t0]) [] w = S_strings_Builder_Len t0 w K := by kernel_rfl
theorem S_strings_Builder_Len_ok {t0 : Value} {w : World} {K : Ending → World → Prop} (h : S_strings_Builder_Len t0 w K) : Calls Tryz.prog 105 #[t0] w K :=
  calls_of_wpX Tryz.func105 rfl rfl rfl rfl (Eq.mpr (S_strings_Builder_Len_eq t0 w K) h)

end Go.Proofs.YtgffladaenimmaaGreatDoor
/- Contracts: strings.Builder (copyCheck, WriteByte, WriteString, Grow on a fresh one, String), in terms of a piece of memory that is lent. -/
namespace Go.Proofs.YtgffladaenimmaaGreatDoor
set_option linter.unusedVariables false
set_option linter.unusedSimpArgs false
set_option linter.defProp false
open Eng Go.RowKit

abbrev Bld (b : Nat) (v : Value) (l : List UInt8) : Ent := .bld 90 5 b v l
theorem bytesV_append (a b : List UInt8) : bytesV (a ++ b) = bytesV a ++ bytesV b := by simp [bytesV]
theorem bytesV_one (l : List UInt8) : ∀ u ∈ bytesV l, u.oneCell' = true := by
  intro u hu
  simp only [bytesV, List.mem_map] at hu
  obtain ⟨c, _, rfl⟩ := hu
  rfl
theorem e_pnone {P : Program} {T U : TypeId} {xo : Operand} {a : Option Addr} {c : Value} {w : World} {PK : List PanicEntry → World → Prop} {K : Value → World → Prop} (h : P.underlying T = some (.pointer U)) :
    DoX P (mEq .eql T xo (.const c) (.pointer a) (.pointer none)) w PK K = K (.bool a.isNone) w := by
  refine mv_do ?_
  have e : (eqGuard .eql T xo (.const c) (.pointer a) (.pointer none)) = pure () := by cases xo <;> rfl
  rw [e]
  have h2 : ∀ d : Nat, (Op.equalIn (d + 1) T (.pointer a) (.pointer none)).run P w = .ok a.isNone w := fun d => by
    cases a <;> simp [Op.equalIn, run_underlying h]
  simp only [binOp]
  simp [Op.equal, Op.maxDepth, h2 9999]
theorem n_psame {P : Program} {T U : TypeId} {xo yo : Operand} {a : Addr} {w : World} {PK : List PanicEntry → World → Prop} {K : Value → World → Prop} (h : P.underlying T = some (.pointer U)) (hi : (P.info? U).isSome = true) (hg : eqGuard .neq T xo yo (.pointer (some a)) (.pointer (some a)) = pure ()) :
    DoX P (mEq .neq T xo yo (.pointer (some a)) (.pointer (some a))) w PK K = K (.bool false) w := by
  obtain ⟨j, hj⟩ := Option.isSome_iff_exists.1 hi
  refine mv_do ?_
  rw [hg]
  simp [Lib.run_neq_ptr_same w a h hj]

theorem copyCheck_ret {b : Nat} {v : Value} {l : List UInt8} {w : World} (h : (Bld b v l).is w) : Ret Tryz.prog 99 #[.pointer (some ⟨b, 0, none⟩)] w
    (fun r w' => ∃ e', (r = .tuple #[] ∧ e' = Bld b v l) ∧ Turn (Bld b v l) e' w w') := by
  obtain ⟨p, hp, hcap, ho⟩ := (OwnS.lend h).openB
  refine ret_of fun K hK => S_strings_Builder_copyCheck_ok ?_
  unfold S_strings_Builder_copyCheck
  simp only [rs, f_addr (show fOff Tryz.prog 90 0 = some 0 by kernel_rfl)]
  rw [l_cell (by kernel_rfl) (ho.cell 0 rfl 0 rfl)]
  rcases hp with rfl | rfl
  · rw [e_pnone Tryz.underlying87]
    simp only [Option.isNone_none, rs]
    obtain ⟨j, hj⟩ := Option.isSome_iff_exists.1 (show (Tryz.prog.info? 90).isSome = true by kernel_rfl)
    have hjs : j.size ≠ 0 := by
      have : (Tryz.prog.info? 90).map (·.size) = some 2 := by kernel_rfl
      rw [hj] at this
      simp only [Option.map_some, Option.some.injEq] at this
      omega
    have hsh : w.shape? b = some (90, 2) := by
      have hb : w.heap[b]? = some (.cells #[.pointer none, v] 90 (0, 0)) := ho.at_ 0 rfl
      simp [World.shape?, hb]
    refine do_ok (mv_run (Lib.run_to_unsafe w ⟨b, 0, none⟩ Tryz.underlying87 Tryz.underlying140 hj hjs hsh (by show 0 < 2; omega))) ?_
    refine do_ok (show (mCallV (.func (.func 127) #[] #[]) #[.pointer (some ⟨b, 0, none⟩)]).run Tryz.prog w = .ok (.value (.pointer (some ⟨b, 0, none⟩))) w by kernel_rfl) ?_
    refine do_ok (mv_run (Lib.run_from_unsafe w ⟨b, 0, none⟩ Tryz.underlying140 Tryz.underlying87 hj hsh (by kernel_rfl))) ?_
    refine o_store 0 ho rfl (by kernel_rfl) rfl (by simp) fun w2 ho2 => ?_
    exact hK _ _ ⟨_, ⟨rfl, rfl⟩, (OwnS.closeB (.inr rfl) hcap ho2).back⟩
  · rw [e_pnone Tryz.underlying87]
    simp only [Option.isNone_some, rs, f_addr (show fOff Tryz.prog 90 0 = some 0 by kernel_rfl)]
    rw [l_cell (by kernel_rfl) (ho.cell 0 rfl 0 rfl)]
    rw [n_psame Tryz.underlying87 (by kernel_rfl) rfl]
    simp only [rs]
    exact hK _ _ ⟨_, ⟨rfl, rfl⟩, (ho.closeB (.inr rfl) hcap).back⟩
theorem writeByte_ret {b : Nat} {v : Value} {l : List UInt8} {c : UInt8} {w : World} (h : (Bld b v l).is w) (hl : l.length < 140737488355328) : Ret Tryz.prog 65 #[.pointer (some ⟨b, 0, none⟩), .int .u8 c.toNat] w
    (fun r w' => ∃ e', (r = .nilIface ∧ ∃ v', e' = Bld b v' (l ++ [c])) ∧ Turn (Bld b v l) e' w w') := by
  refine ret_of fun K hK => S_strings_Builder_WriteByte_ok ?_
  unfold S_strings_Builder_WriteByte
  refine c_turn 0 (OwnS.lend h) rfl (copyCheck_ret h) ?_
  rintro _ _ w1 ⟨rfl, rfl⟩ ho1
  obtain ⟨p, hp, hcap, ho⟩ := OwnS.openB ho1
  simp only [rs, f_addr (show fOff Tryz.prog 90 1 = some 1 by kernel_rfl)]
  rw [l_cell (by kernel_rfl) (ho.cell 0 rfl 1 rfl)]
  refine o_new (fun b => .slice (some ⟨b, 0, none⟩) 1 1) [.int .u8 c.toNat] 5 (fun _ => by kernel_rfl) ho fun nb w2 h2 => ?_
  refine o_append 2 Tryz.underlying88 (show elB Tryz.prog 5 1 1 = true by kernel_rfl) (by decide) h2 rfl (h2.sl 0 rfl 1 1 1 rfl) (bytesV_one [c]) (by omega) (by omega) fun v' w3 h3 => ?_
  refine o_store 1 h3 rfl (by kernel_rfl) (by
    have := h3.at_ 2 rfl
    rcases this.2 with ⟨hv, _⟩ | ⟨_, _, _, _, hv, _⟩ <;> rw [hv] <;> rfl) (by simp) fun w4 h4 => ?_
  have h5 := h4.tail
  have h6 : OwnS (Bld b v l).blk w w4 (.cells b [p, v'] 90 :: .row 5 1 v' (l.length + 1) (bytesV (l ++ [c])) :: []) := by
    rw [bytesV_append]; exact h5
  exact hK _ _ ⟨_, ⟨rfl, v', rfl⟩, (OwnS.closeB hp (roomy_row (h6.at_ 1 rfl) (by omega)) h6).back⟩
theorem writeString_ret {b : Nat} {v : Value} {l s : List UInt8} {w : World} (h : (Bld b v l).is w) (hl : l.length + s.length ≤ 140737488355328) : Ret Tryz.prog 64 #[.pointer (some ⟨b, 0, none⟩), .string ⟨s.toArray⟩] w
    (fun r w' => ∃ e', ((∃ x, r = .tuple #[x, .nilIface]) ∧ ∃ v', e' = Bld b v' (l ++ s)) ∧ Turn (Bld b v l) e' w w') := by
  refine ret_of fun K hK => S_strings_Builder_WriteString_ok ?_
  unfold S_strings_Builder_WriteString
  refine c_turn 0 (OwnS.lend h) rfl (copyCheck_ret h) ?_
  rintro _ _ w1 ⟨rfl, rfl⟩ ho1
  obtain ⟨p, hp, hcap, ho⟩ := OwnS.openB ho1
  simp only [rs, f_addr (show fOff Tryz.prog 90 1 = some 1 by kernel_rfl)]
  rw [l_cell (by kernel_rfl) (ho.cell 0 rfl 1 rfl)]
  refine o_append_str 1 Tryz.underlying88 Tryz.underlying9 (show elB Tryz.prog 5 1 1 = true by kernel_rfl) Tryz.underlying5 (by kernel_rfl) ho rfl (by omega) fun v' w3 hro h3 => ?_
  refine o_store 0 h3 rfl (by kernel_rfl) (by
    have := h3.at_ 1 rfl
    rcases this.2 with ⟨hv, _⟩ | ⟨_, _, _, _, hv, _⟩ <;> rw [hv] <;> rfl) (by simp) fun w4 h4 => ?_
  rw [s_len Tryz.underlying9]
  have h6 : OwnS (Bld b v l).blk w w4 (.cells b [p, v'] 90 :: .row 5 1 v' (l.length + s.length) (bytesV (l ++ s)) :: []) := by
    rw [bytesV_append]; exact h4
  exact hK _ _ ⟨_, ⟨⟨_, rfl⟩, v', rfl⟩, (OwnS.closeB hp (hro hcap) h6).back⟩
theorem row_froze {E : TypeId} {g n cap : Nat} {xs : List Value} {w : World} (h : w.ownsRowF 0 E 1 (.slice (some ⟨g, 0, none⟩) n cap) n xs) (hn0 : n ≠ 0) :
    Turn (.row E 1 (.slice (some ⟨g, 0, none⟩) n cap) n xs) (.row E 1 (.slice (some ⟨g, 0, none⟩) n cap) n xs) w (w.freeze ⟨g, 0, none⟩ n) := by
  refine ⟨?_, ?_, fun k hk => .inl hk⟩
  · unfold World.freeze
    rw [if_neg hn0]
    refine ⟨rfl, rfl, rfl, by simp, fun k hk hne => ?_⟩
    have hkg : ¬ g = k := fun e => hne (by show some g = some k; rw [e])
    simp only [Array.getElem?_modify]
    rw [if_neg hkg]
  · refine ⟨h.1, ?_⟩
    unfold World.freeze
    rw [if_neg hn0]
    rcases h.2 with ⟨hv, _⟩ | ⟨g', cap', cur, fz, hv, hbg, hg, hfz, rest⟩
    · cases hv
    · injection hv with ha _ hcap
      injection ha with ha
      injection ha with hgg _ _
      subst hgg
      subst hcap
      obtain ⟨lo, hi⟩ := fz
      refine .inr ⟨g, _, cur, (if lo == hi then (0, 0 + n) else (min lo 0, max hi (0 + n))), rfl, hbg, ?_, ?_, rest⟩
      · simp [Array.getElem?_modify, hg]
      · simp only at hfz
        split <;> simp <;> omega
theorem run_usd {v : Value} {n : Nat} {T U : TypeId} {cs : Array Bool} {w : World} {E : TypeId} {xs : List Value} (h : w.ownsRowF 0 E 1 v n xs) (hr : roomy v) : ∃ q, (∀ w' : World, (mB .unsafeSliceData #[T] U cs #[v]).run Tryz.prog w' = .ok (.value (.pointer q)) w') ∧ (0 < n → ∃ g cap, v = .slice (some ⟨g, 0, none⟩) n cap ∧ q = some ⟨g, 0, none⟩) := by
  rcases h.2 with ⟨rfl, rfl⟩ | ⟨g, cap, cur, fz, rfl, hbg, hg, hfz, rest⟩
  · exact ⟨none, fun w' => by simp [mB, builtin, Lib.run_unsafeSliceData_nil], fun h => by omega⟩
  · refine ⟨some ⟨g, 0, none⟩, fun w' => ?_, fun _ => ⟨g, cap, rfl, rfl⟩⟩
    have hc : cap ≠ 0 := fun e => hr ⟨g, 0, none⟩ n (by rw [e])
    simp [mB, builtin, Lib.run_unsafeSliceData_row _ _ _ _ _ _ hc]
theorem bldString_ret {b : Nat} {v : Value} {l : List UInt8} {w : World} (h : (Bld b v l).is w) : Ret Tryz.prog 66 #[.pointer (some ⟨b, 0, none⟩)] w
    (fun r w' => ∃ e', (r = .string ⟨l.toArray⟩ ∧ e' = Bld b v l) ∧ Turn (Bld b v l) e' w w') := by
  obtain ⟨p, hp, hcap, ho⟩ := (OwnS.lend h).openB
  refine ret_of fun K hK => S_strings_Builder_String_ok ?_
  unfold S_strings_Builder_String
  have hrow : w.ownsRowF 0 5 1 v l.length (bytesV l) := ho.at_ 1 rfl
  obtain ⟨q, hq, hq2⟩ := run_usd (T := 88) (U := 118) (cs := #[false]) hrow hcap
  have hload : ∀ w', Below w.heap.size w w' → (mLoad 88 (.pointer (some ⟨b, 0 + 1, none⟩))).run Tryz.prog w' = .ok (.value v) w' := fun w' hb => run_load_cell (by kernel_rfl) ((ho.grow hb).cell 0 rfl 1 rfl)
  have hlen : ∀ w', Below w.heap.size w w' → (mB .len #[88] 3 #[false] #[v]).run Tryz.prog w' = .ok (.value (.int .i64 l.length)) w' := fun w' hb => by
    have hs := (ho.grow hb).slRow 1 rfl
    obtain ⟨_, a, cp, rfl, _⟩ := hs
    simp [mB, builtin, Builtin.len_, run_underlying Tryz.underlying88, goInt]
  refine quiet (q_do _ (fun w => run_nil) (q_do _ (fun w => run_fa (show fOff Tryz.prog 90 1 = some 1 by kernel_rfl)) (q_at v hload (q_do _ hq (q_do _ (fun w => run_nil) (q_do _ (fun w => run_fa (show fOff Tryz.prog 90 1 = some 1 by kernel_rfl)) (q_at v hload (q_at _ hlen ?_))))))))
  intro w2 hb2
  have h2 := ho.grow hb2
  rcases Nat.eq_zero_or_pos l.length with h0 | h0
  · have hl : l = [] := List.eq_nil_of_length_eq_zero h0
    subst hl
    refine do_ok (show (mB .unsafeString #[118, 3] 9 #[false, false] #[.pointer q, .int .i64 0]).run Tryz.prog w2 = .ok (.value (.string ⟨([] : List UInt8).toArray⟩)) w2 by
      simp [mB, builtin, Lib.run_unsafeString_none]; rfl) ?_
    exact hK _ _ ⟨_, ⟨rfl, rfl⟩, (OwnS.closeB hp hcap h2).back⟩
  · obtain ⟨g, cap, rfl, rfl⟩ := hq2 h0
    have hr2 : w2.ownsRowF 0 5 1 (.slice (some ⟨g, 0, none⟩) l.length cap) l.length (bytesV l) := h2.at_ 1 rfl
    have hne : l ≠ [] := List.length_pos_iff.1 h0
    have hsh : ∃ cells, w2.shape? g = some (5, cells) ∧ l.length ≤ cells ∧ l.length ≤ 9223372036854775807 := by
      rcases hr2.2 with ⟨hv, _⟩ | ⟨g', cap', cur, fz, hv, hbg, hg, hfz, hnc, hcm, hcs, _⟩
      · cases hv
      · injection hv with ha _ hcap
        injection ha with ha
        injection ha with hgg _ _
        subst hgg
        refine ⟨cur.size, by simp [World.shape?, hg], by omega, ?_⟩
        simp only [maxLen] at hcm; omega
    obtain ⟨cells, hsh, hle, h63⟩ := hsh
    have hr := Lib.run_unsafeString_row (P := Tryz.prog) w2 118 3 9 5 Tryz.underlying118 (by kernel_rfl) g cells hsh l hne hle h63 (fun j x hj => by
      have := World.ownsRowF.cells hr2 (g := g) rfl j (.int .u8 x.toNat) (bytesV_get hj)
      exact this)
    refine do_ok (show (mB .unsafeString #[118, 3] 9 #[false, false] #[.pointer (some ⟨g, 0, none⟩), .int .i64 l.length]).run Tryz.prog w2 = .ok (.value (.string ⟨l.toArray⟩)) (w2.freeze ⟨g, 0, none⟩ l.length) by
      simp [mB, builtin, hr]) ?_
    have h3 := h2.turn 1 rfl (row_froze hr2 (by omega))
    exact hK _ _ ⟨_, ⟨rfl, rfl⟩, (OwnS.closeB hp hcap h3).back⟩
theorem grow_ret {b n : Nat} {w0 w1 : World} (ho : Own w0 w1 [.cells b [.pointer none, .slice none 0 0] 90]) (h0 : 0 < n) (hn : n ≤ 281474976710656) : Ret Tryz.prog 104 #[.pointer (some ⟨b, 0, none⟩), .int .i64 n] w1
    (fun r w2 => r = .tuple #[] ∧ ∃ v, Own w0 w2 [Bld b v []]) := by
  have hbk : w1.heap[b]? = some (.cells #[.pointer none, .slice none 0 0] 90 (0, 0)) := ho.at_ 0 rfl
  have hB : w0.heap.size ≤ b := ((ho.all (.cells b [.pointer none, .slice none 0 0] 90) (by simp)).2 b rfl).elim (fun x => x.elim) id
  refine Calls.mono (Tryz.Builder_Grow_fresh_cap w0.heap.size b n w1 hB hbk ho.size hn) ?_
  rintro e w2 ⟨rfl, ⟨⟨_, v, hb, hrow, hne⟩, hbl⟩, p, cap, hcell, hcap⟩
  refine retK ⟨rfl, v, ?_⟩
  have hv : v = .slice p 0 cap := by
    rw [Lib.cell_of_heap hb] at hcell
    simpa using hcell
  refine ⟨⟨hbl.os.trans ho.grew.os, hbl.tape.trans ho.grew.tape, hbl.output.trans ho.grew.output, Nat.le_trans ho.size hbl.size, fun k hk hk2 => (hbl.block k hk).trans (ho.grew.block k hk hk2)⟩, fun e he => ?_, List.pairwise_singleton _ _⟩
  rw [List.mem_singleton] at he
  subst he
  refine ⟨⟨⟨_, .inr rfl, hb⟩, ⟨hrow.1, ?_⟩, hne, fun a k hc => ?_⟩, fun k hk => .inr ?_⟩
  · rcases hrow.2 with h | ⟨g, cp, cur, h1, h2, h3, h4⟩
    · exact .inl h
    · exact .inr ⟨g, cp, cur, (0, 0), h1, Nat.zero_le _, h3, Nat.zero_le _, h4⟩
  · rw [hv] at hc
    injection hc with c1 c2 c3
    omega
  · rcases hk with hk | hk
    · rw [hk]; exact hB
    · rcases hrow.2 with ⟨h, _⟩ | ⟨g, cp, cur, h1, h2, h3, h4⟩
      · rw [h] at hk; cases hk
      · rw [h1] at hk; cases hk; exact h2
end Go.Proofs.YtgffladaenimmaaGreatDoor
/- Code in continuation form, by program (gen.py): 14 functions. -/
namespace Go.Proofs.YtgffladaenimmaaGreatDoor
set_option linter.unusedVariables false
set_option linter.unusedSimpArgs false
set_option linter.defProp false
set_option linter.unusedVariables false
set_option maxRecDepth 20000
open Eng

/- plain.Int -/
def S_plain_Int (t0 : Value) (w : World) (K : Ending → World → Prop) : Prop :=
 DoX Tryz.prog (mBin .lss 2 t0 (.int .i64 (-2147483647))) w (pk K) fun t5 w =>
 GDo t5 false (fun E => E t0 w) w fun t7 w =>
 GDo t5 false (fun E => DoX Tryz.prog (mBin .gtr 2 t7 (.int .i64 2147483647)) w (pk K) E) w fun t8 w =>
 DoX Tryz.prog (mPick t5 (.bool true) t8) w (pk K) fun t9 w =>
 IfX t9 (K (.returned (.tuple #[(.string ⟨#[]⟩), (.int .i64 2)])) w) (CallX Tryz.prog 87 #[t0, (.int .i64 10)] w (pk K) fun t11 w =>
 K (.returned (.tuple #[t11, (.int .i64 0)])) w)
theorem S_plain_Int_eq (t0 : Value) (w : World) (K : Ending → World → Prop) : wpX Tryz.prog 12 [] [] none (bodyOf Tryz.f47) (topQ Tryz.prog [.tmp 2, .tmp 3] K) (startX [t0]) [] w = S_plain_Int t0 w K := by kernel_rfl
theorem S_plain_Int_ok {t0 : Value} {w : World} {K : Ending → World → Prop} (h : S_plain_Int t0 w K) : Calls Tryz.prog 47 #[t0] w K :=
  calls_of_wpX Tryz.func47 rfl rfl rfl rfl (Eq.mpr (S_plain_Int_eq t0 w K) h)

/- plain.Real -/
/- plain.String -/
def S_plain_String (t0 : Value) (w : World) (K : Ending → World → Prop) : Prop :=
 DoX Tryz.prog (mB .len #[9] 3 #[false] #[t0]) w (pk K) fun t5 w =>
 DoX Tryz.prog (mBin .gtr 3 t5 (.int .i64 32767)) w (pk K) fun t6 w =>
 IfX t6 (K (.returned (.tuple #[(.string ⟨#[]⟩), (.int .i64 5)])) w) (CallX Tryz.prog 94 #[(.string ⟨#[40]⟩), t0, (.string ⟨#[41]⟩), (.func (.func 95) #[] #[])] w (pk K) fun t8 w =>
 K (.returned (.tuple #[t8, (.int .i64 0)])) w)
theorem S_plain_String_eq (t0 : Value) (w : World) (K : Ending → World → Prop) : wpX Tryz.prog 9 [] [] none (bodyOf Tryz.f55) (topQ Tryz.prog [.tmp 2, .tmp 3] K) (startX [t0]) [] w = S_plain_String t0 w K := by kernel_rfl
theorem S_plain_String_ok {t0 : Value} {w : World} {K : Ending → World → Prop} (h : S_plain_String t0 w K) : Calls Tryz.prog 55 #[t0] w K :=
  calls_of_wpX Tryz.func55 rfl rfl rfl rfl (Eq.mpr (S_plain_String_eq t0 w K) h)

/- plain.Hex -/
/- plain.Name -/
/- plain.Join -/
def S_plain_Join_2 (t4 t9 : Value) (w : World) (N1 : List Value → World → Prop) (K : Ending → World → Prop) : Prop :=
 DoX Tryz.prog (mBin .add 3 t9 (.int .i64 1)) w (pk K) fun t34 w =>
 N1 [t4, t34] w
def S_plain_Join_1 (t3 t6 : Value) (w : World) (J2 : List Value → World → Prop) (K : Ending → World → Prop) : Prop :=
 CallX Tryz.prog 64 #[t3, t6] w (pk K) fun t28 w =>
 DoX Tryz.prog (mB .len #[9] 3 #[false] #[t6]) w (pk K) fun t31 w =>
 DoX Tryz.prog (mBin .sub 3 t31 (.int .i64 1)) w (pk K) fun t32 w =>
 DoX Tryz.prog (mIx 9 t6 t32) w (pk K) fun t33 w =>
 J2 [t33] w
def S_plain_Join_0 (t3 t4 t7 t8 t9 : Value) (w : World) (N1 : List Value → World → Prop) (K : Ending → World → Prop) : Prop :=
 DoX Tryz.prog (mBin .lss 3 t9 t8) w (pk K) fun t10 w =>
 IfX t10 (JoinX (fun J2 =>
 DoX Tryz.prog (mIA 39 t7 t9) w (pk K) fun t11 w =>
 DoX Tryz.prog (mLoad 9 t11) w (pk K) fun t12 w =>
 DoX Tryz.prog (mEq .eql 9 (.tmp 13) (.const (.string ⟨#[]⟩)) t12 (.string ⟨#[]⟩)) w (pk K) fun t14 w =>
 IfX t14 (J2 [t4] w) (JoinX (fun J3 =>
 CallX Tryz.prog 139 #[t4] w (pk K) fun t16 w =>
 GDo t16 false (fun E => E t4 w) w fun t18 w =>
 GDo t16 false (fun E => DoX Tryz.prog (mEq .eql 5 (.tmp 18) (.const (.int .u8 47)) t18 (.int .u8 47)) w (pk K) E) w fun t19 w =>
 DoX Tryz.prog (mPick t16 (.bool true) t19) w (pk K) fun t20 w =>
 GDo t20 true (fun E => E t12 w) w fun t22 w =>
 GDo t20 true (fun E => DoX Tryz.prog (mIx 9 t22 (.int .i64 0)) w (pk K) E) w fun t23 w =>
 GDo t20 true (fun E => CallX Tryz.prog 139 #[t23] w (pk K) E) w fun t24 w =>
 DoX Tryz.prog (mPick t20 t24 (.bool false)) w (pk K) fun t25 w =>
 IfX t25 (CallX Tryz.prog 65 #[t3, (.int .u8 32)] w (pk K) fun t26 w =>
 J3 [] w) (J3 [] w)) (fun vs3 w => ∀ _ : Sg, S_plain_Join_1 t3 t12 w J2 K))) (fun vs2 w => ∀ _ : Sg, S_plain_Join_2 (vs2.getD 0 undef) t9 w N1 K)) (CallX Tryz.prog 66 #[t3] w (pk K) fun t35 w =>
 K (.returned t35) w)
def S_plain_Join (t0 : Value) (w : World) (K : Ending → World → Prop) : Prop :=
 DoX Tryz.prog (mAlloc 90) w (pk K) fun t3 w =>
 DoX Tryz.prog (mB .len #[39] 3 #[false] #[t0]) w (pk K) fun t8 w =>
 LoopX [(.int .u8 32), (.int .i64 0)] w (fun vs1 w N1 => ∀ _ : Sg, S_plain_Join_0 t3 (vs1.getD 0 undef) t0 t8 (vs1.getD 1 undef) w N1 K)
/- plain.Pad -/
def S_plain_Pad (t0 t1 : Value) (w : World) (K : Ending → World → Prop) : Prop :=
 CallX Tryz.prog 54 #[t0] w (pk K) fun t7 w =>
 DoX Tryz.prog (mBin .lss 3 t0 (.int .i64 0)) w (pk K) fun t9 w =>
 GDo t9 false (fun E => E t1 w) w fun t11 w =>
 GDo t9 false (fun E => DoX Tryz.prog (mBin .lss 3 t11 (.int .i64 1)) w (pk K) E) w fun t12 w =>
 DoX Tryz.prog (mPick t9 (.bool true) t12) w (pk K) fun t13 w =>
 GDo t13 false (fun E => E t1 w) w fun t15 w =>
 GDo t13 false (fun E => DoX Tryz.prog (mBin .gtr 3 t15 (.int .i64 20)) w (pk K) E) w fun t16 w =>
 DoX Tryz.prog (mPick t13 (.bool true) t16) w (pk K) fun t17 w =>
 GDo t17 false (fun E => E t7 w) w fun t19 w =>
 GDo t17 false (fun E => DoX Tryz.prog (mB .len #[9] 3 #[false] #[t19]) w (pk K) E) w fun t20 w =>
 GDo t17 false (fun E => E t1 w) w fun t21 w =>
 GDo t17 false (fun E => DoX Tryz.prog (mBin .gtr 3 t20 t21) w (pk K) E) w fun t22 w =>
 DoX Tryz.prog (mPick t17 (.bool true) t22) w (pk K) fun t23 w =>
 IfX t23 (K (.returned (.string ⟨#[]⟩)) w) (DoX Tryz.prog (mB .len #[9] 3 #[false] #[t7]) w (pk K) fun t26 w =>
 DoX Tryz.prog (mBin .sub 3 t1 t26) w (pk K) fun t27 w =>
 CallX Tryz.prog 76 #[(.string ⟨#[48]⟩), t27] w (pk K) fun t28 w =>
 DoX Tryz.prog (mBin .add 9 t28 t7) w (pk K) fun t30 w =>
 K (.returned t30) w)
theorem S_plain_Pad_eq (t0 t1 : Value) (w : World) (K : Ending → World → Prop) : wpX Tryz.prog 31 [] [] none (bodyOf Tryz.f42) (topQ Tryz.prog [.tmp 4] K) (startX [t0, t1]) [] w = S_plain_Pad t0 t1 w K := by kernel_rfl
theorem S_plain_Pad_ok {t0 t1 : Value} {w : World} {K : Ending → World → Prop} (h : S_plain_Pad t0 t1 w K) : Calls Tryz.prog 42 #[t0, t1] w K :=
  calls_of_wpX Tryz.func42 rfl rfl rfl rfl (Eq.mpr (S_plain_Pad_eq t0 t1 w K) h)

/- plain.write -/
def S_plain_write_0 (t1 t2 t3 t9 t23 t24 : Value) (w : World) (N1 : List Value → World → Prop) (K : Ending → World → Prop) : Prop :=
 DoX Tryz.prog (mBin .lss 3 t24 t23) w (pk K) fun t25 w =>
 IfX t25 (DoX Tryz.prog (mIx 9 t1 t24) w (pk K) fun t30 w =>
 DoX Tryz.prog (mCallV t3 #[t9, t30]) w (pk K) fun t31 w =>
 DoX Tryz.prog (mBin .add 3 t24 (.int .i64 1)) w (pk K) fun t32 w =>
 N1 [t32] w) (CallX Tryz.prog 64 #[t9, t2] w (pk K) fun t34 w =>
 CallX Tryz.prog 66 #[t9] w (pk K) fun t35 w =>
 K (.returned t35) w)
def S_plain_write (t0 t1 t2 t3 : Value) (w : World) (K : Ending → World → Prop) : Prop :=
 DoX Tryz.prog (mAlloc 90) w (pk K) fun t9 w =>
 DoX Tryz.prog (mB .len #[9] 3 #[false] #[t0]) w (pk K) fun t12 w =>
 DoX Tryz.prog (mB .len #[9] 3 #[false] #[t1]) w (pk K) fun t14 w =>
 DoX Tryz.prog (mBin .add 3 t12 t14) w (pk K) fun t15 w =>
 DoX Tryz.prog (mB .len #[9] 3 #[false] #[t2]) w (pk K) fun t17 w =>
 DoX Tryz.prog (mBin .add 3 t15 t17) w (pk K) fun t18 w =>
 CallX Tryz.prog 104 #[t9, t18] w (pk K) fun t19 w =>
 CallX Tryz.prog 64 #[t9, t0] w (pk K) fun t21 w =>
 DoX Tryz.prog (mB .len #[9] 3 #[false] #[t1]) w (pk K) fun t23 w =>
 LoopX [(.int .i64 0)] w (fun vs1 w N1 => ∀ _ : Sg, S_plain_write_0 t1 t2 t3 t9 t23 (vs1.getD 0 undef) w N1 K)
theorem S_plain_write_eq (t0 t1 t2 t3 : Value) (w : World) (K : Ending → World → Prop) : wpX Tryz.prog 36 [] [(5, [24])] none (bodyOf Tryz.f94) (topQ Tryz.prog [.tmp 8] K) (startX [t0, t1, t2, t3]) [] w = S_plain_write t0 t1 t2 t3 w K := by kernel_rfl
theorem S_plain_write_ok {t0 t1 t2 t3 : Value} {w : World} {K : Ending → World → Prop} (h : S_plain_write t0 t1 t2 t3 w K) : Calls Tryz.prog 94 #[t0, t1, t2, t3] w K :=
  calls_of_wpX Tryz.func94 rfl rfl rfl rfl (Eq.mpr (S_plain_write_eq t0 t1 t2 t3 w K) h)

/- plain.String$1 -/
def S_plain_String_1_0 (t0 t1 t34 t35 : Value) (w : World) (N1 : List Value → World → Prop) (K : Ending → World → Prop) : Prop :=
 DoX Tryz.prog (mBin .lss 3 t35 (.int .i64 3)) w (pk K) fun t36 w =>
 IfX t36 (DoX Tryz.prog (mIx 114 t34 t35) w (pk K) fun t37 w =>
 DoX Tryz.prog (mBin .quo 5 t1 t37) w (pk K) fun t41 w =>
 DoX Tryz.prog (mBin .rem 5 t41 (.int .u8 8)) w (pk K) fun t42 w =>
 DoX Tryz.prog (mBin .add 5 (.int .u8 48) t42) w (pk K) fun t43 w =>
 CallX Tryz.prog 65 #[t0, t43] w (pk K) fun t44 w =>
 DoX Tryz.prog (mBin .add 3 t35 (.int .i64 1)) w (pk K) fun t45 w =>
 N1 [t45] w) (K (.returned (.tuple #[])) w)
def S_plain_String_1 (t0 t1 : Value) (w : World) (K : Ending → World → Prop) : Prop :=
 DoX Tryz.prog (mEq .eql 5 (.tmp 10) (.const (.int .u8 40)) t1 (.int .u8 40)) w (pk K) fun t11 w =>
 GDo t11 false (fun E => E t1 w) w fun t13 w =>
 GDo t11 false (fun E => DoX Tryz.prog (mEq .eql 5 (.tmp 13) (.const (.int .u8 41)) t13 (.int .u8 41)) w (pk K) E) w fun t14 w =>
 DoX Tryz.prog (mPick t11 (.bool true) t14) w (pk K) fun t15 w =>
 GDo t15 false (fun E => E t1 w) w fun t17 w =>
 GDo t15 false (fun E => DoX Tryz.prog (mEq .eql 5 (.tmp 17) (.const (.int .u8 92)) t17 (.int .u8 92)) w (pk K) E) w fun t18 w =>
 DoX Tryz.prog (mPick t15 (.bool true) t18) w (pk K) fun t19 w =>
 IfX t19 (CallX Tryz.prog 65 #[t0, (.int .u8 92)] w (pk K) fun t21 w =>
 CallX Tryz.prog 65 #[t0, t1] w (pk K) fun t24 w =>
 K (.returned (.tuple #[])) w) (DoX Tryz.prog (mBin .lss 5 t1 (.int .u8 32)) w (pk K) fun t27 w =>
 GDo t27 false (fun E => E t1 w) w fun t29 w =>
 GDo t27 false (fun E => DoX Tryz.prog (mBin .gtr 5 t29 (.int .u8 126)) w (pk K) E) w fun t30 w =>
 DoX Tryz.prog (mPick t27 (.bool true) t30) w (pk K) fun t31 w =>
 IfX t31 (CallX Tryz.prog 65 #[t0, (.int .u8 92)] w (pk K) fun t33 w =>
 DoX Tryz.prog (mBuild 114 #[(0, (.int .u8 64)), (1, (.int .u8 8)), (2, (.int .u8 1))]) w (pk K) fun t34 w =>
 LoopX [(.int .i64 0)] w (fun vs1 w N1 => ∀ _ : Sg, S_plain_String_1_0 t0 t1 t34 (vs1.getD 0 undef) w N1 K)) (CallX Tryz.prog 65 #[t0, t1] w (pk K) fun t8 w =>
 K (.returned (.tuple #[])) w))
theorem S_plain_String_1_eq (t0 t1 : Value) (w : World) (K : Ending → World → Prop) : wpX Tryz.prog 46 [] [(7, [35])] none (bodyOf Tryz.f95) (topQ Tryz.prog [] K) (startX [t0, t1]) [] w = S_plain_String_1 t0 t1 w K := by kernel_rfl
theorem S_plain_String_1_ok {t0 t1 : Value} {w : World} {K : Ending → World → Prop} (h : S_plain_String_1 t0 t1 w K) : Calls Tryz.prog 95 #[t0, t1] w K :=
  calls_of_wpX Tryz.func95 rfl rfl rfl rfl (Eq.mpr (S_plain_String_1_eq t0 t1 w K) h)

/- plain.Name$1 -/
/- octet.Hex -/
def S_octet_Hex_0 (t0 t3 t10 t11 : Value) (w : World) (N1 : List Value → World → Prop) (K : Ending → World → Prop) : Prop :=
 DoX Tryz.prog (mBin .lss 3 t11 t10) w (pk K) fun t12 w =>
 IfX t12 (QuietX w (fun C2 =>
 QDo Tryz.prog C2 (mIx 9 t0 t11) fun t17 =>
 QDo Tryz.prog C2 (mBin .shr 5 t17 (.int .u64 4)) fun t18 =>
 QDo Tryz.prog C2 (mIx 9 (.string ⟨#[48, 49, 50, 51, 52, 53, 54, 55, 56, 57, 65, 66, 67, 68, 69, 70]⟩) t18) fun t19 =>
 QDo Tryz.prog C2 (mIx 9 t0 t11) fun t22 =>
 QDo Tryz.prog C2 (mBin .and 5 t22 (.int .u8 15)) fun t23 =>
 QDo Tryz.prog C2 (mIx 9 (.string ⟨#[48, 49, 50, 51, 52, 53, 54, 55, 56, 57, 65, 66, 67, 68, 69, 70]⟩) t23) fun t24 =>
 ∀ w, C2 w →
 DoX Tryz.prog (mBuildS 88 2 #[(0, t19), (1, t24)]) w (pm1 (pm1 (pm1 (pm1 (pm1 (pk K)))))) fun t25 w =>
 DoX Tryz.prog (mB .append #[88, 88] 88 #[false, false] #[t3, t25]) w (pm1 (pm1 (pm1 (pm1 (pm1 (pk K)))))) fun t26 w =>
 DoX Tryz.prog (mBin .add 3 t11 (.int .i64 1)) w (pk K) fun t27 w =>
 N1 [t26, t27] w)) (DoX Tryz.prog (mConv 88 9 t3) w (pk K) fun t29 w =>
 K (.returned t29) w)
def S_octet_Hex (t0 : Value) (w : World) (K : Ending → World → Prop) : Prop :=
 DoX Tryz.prog (mB .len #[9] 3 #[false] #[t0]) w (pk K) fun t6 w =>
 DoX Tryz.prog (mBin .mul 3 (.int .i64 2) t6) w (pk K) fun t7 w =>
 DoX Tryz.prog (mMake 88 (.int .i64 0) t7) w (pk K) fun t8 w =>
 DoX Tryz.prog (mB .len #[9] 3 #[false] #[t0]) w (pk K) fun t10 w =>
 LoopX [t8, (.int .i64 0)] w (fun vs1 w N1 => ∀ _ : Sg, S_octet_Hex_0 t0 (vs1.getD 0 undef) t10 (vs1.getD 1 undef) w N1 K)
/- octet.Delim -/
def S_octet_Delim (t0 : Value) (w : World) (K : Ending → World → Prop) : Prop :=
 CallX Tryz.prog 138 #[(.string ⟨#[40, 41, 60, 62, 91, 93, 123, 125, 47, 37]⟩), t0] w (pk K) fun t4 w =>
 DoX Tryz.prog (mBin .geq 3 t4 (.int .i64 0)) w (pk K) fun t5 w =>
 K (.returned t5) w
theorem S_octet_Delim_eq (t0 : Value) (w : World) (K : Ending → World → Prop) : wpX Tryz.prog 6 [] [] none (bodyOf Tryz.f164) (topQ Tryz.prog [.tmp 2] K) (startX [t0]) [] w = S_octet_Delim t0 w K := by kernel_rfl
theorem S_octet_Delim_ok {t0 : Value} {w : World} {K : Ending → World → Prop} (h : S_octet_Delim t0 w K) : Calls Tryz.prog 164 #[t0] w K :=
  calls_of_wpX Tryz.func164 rfl rfl rfl rfl (Eq.mpr (S_octet_Delim_eq t0 w K) h)

/- octet.Regular -/
def S_octet_Regular (t0 : Value) (w : World) (K : Ending → World → Prop) : Prop :=
 CallX Tryz.prog 109 #[t0] w (pk K) fun t4 w =>
 DoX Tryz.prog (mUn .not t4) w (pk K) fun t5 w =>
 GDo t5 true (fun E => E t0 w) w fun t7 w =>
 GDo t5 true (fun E => CallX Tryz.prog 164 #[t7] w (pk K) E) w fun t8 w =>
 GDo t5 true (fun E => DoX Tryz.prog (mUn .not t8) w (pk K) E) w fun t9 w =>
 DoX Tryz.prog (mPick t5 t9 (.bool false)) w (pk K) fun t10 w =>
 K (.returned t10) w
theorem S_octet_Regular_eq (t0 : Value) (w : World) (K : Ending → World → Prop) : wpX Tryz.prog 11 [] [] none (bodyOf Tryz.f139) (topQ Tryz.prog [.tmp 2] K) (startX [t0]) [] w = S_octet_Regular t0 w K := by kernel_rfl
theorem S_octet_Regular_ok {t0 : Value} {w : World} {K : Ending → World → Prop} (h : S_octet_Regular t0 w K) : Calls Tryz.prog 139 #[t0] w K :=
  calls_of_wpX Tryz.func139 rfl rfl rfl rfl (Eq.mpr (S_octet_Regular_eq t0 w K) h)

/- octet.White -/
def S_octet_White (t0 : Value) (w : World) (K : Ending → World → Prop) : Prop :=
 CallX Tryz.prog 138 #[(.string ⟨#[0, 9, 10, 12, 13, 32]⟩), t0] w (pk K) fun t4 w =>
 DoX Tryz.prog (mBin .geq 3 t4 (.int .i64 0)) w (pk K) fun t5 w =>
 K (.returned t5) w
theorem S_octet_White_eq (t0 : Value) (w : World) (K : Ending → World → Prop) : wpX Tryz.prog 6 [] [] none (bodyOf Tryz.f109) (topQ Tryz.prog [.tmp 2] K) (startX [t0]) [] w = S_octet_White t0 w K := by kernel_rfl
theorem S_octet_White_ok {t0 : Value} {w : World} {K : Ending → World → Prop} (h : S_octet_White t0 w K) : Calls Tryz.prog 109 #[t0] w K :=
  calls_of_wpX Tryz.func109 rfl rfl rfl rfl (Eq.mpr (S_octet_White_eq t0 w K) h)

end Go.Proofs.YtgffladaenimmaaGreatDoor
/- Code in continuation form, by program (gen.py): 16 functions. -/
namespace Go.Proofs.YtgffladaenimmaaGreatDoor
set_option linter.unusedVariables false
set_option linter.unusedSimpArgs false
set_option linter.defProp false
set_option linter.unusedVariables false
set_option maxRecDepth 20000
open Eng

/- fix.face -/
def S_fix_face (t0 t1 r : Value) (w : World) (K : Ending → World → Prop) : Prop :=
 DoX Tryz.prog (mEq .eql 20 (.tmp 7) (.const .nilIface) r .nilIface) w (pk K) fun t9 w =>
 IfX t9 (K (.returned (.tuple #[])) w) (DoX Tryz.prog (mTA r 20 174 true) w (pk K) fun t10 w =>
 DoX Tryz.prog (mExt t10 1) w (pk K) fun t11 w =>
 DoX Tryz.prog (mExt t10 0) w (pk K) fun t12 w =>
 IfX t11 (DoX Tryz.prog (mNil t0) w (pk K) fun t16 w =>
 DoX Tryz.prog (mStore 2 t16 (.int .i64 0)) w (pk K) fun _ w =>
 DoX Tryz.prog (mNil t1) w (pk K) fun t17 w =>
 DoX Tryz.prog (mStore 23 t17 t12) w (pk K) fun _ w =>
 K (.returned (.tuple #[])) w) (DoX Tryz.prog (mPanic r) w (pk K) fun _ w =>
 K (.returned (.tuple #[])) w))
theorem S_fix_face_eq (t0 t1 r : Value) (w : World) (K : Ending → World → Prop) : wpX Tryz.prog 18 [] [] none (sndOf (bodyOf Tryz.f142)) (topD Tryz.prog [] K) (upd (startX [t0, t1]) 7 r) [] w = S_fix_face t0 t1 r w K := by kernel_rfl
theorem S_fix_face_dok {t0 t1 : Value} {u : FrameMode} {w : World} {R : Ending → FrameMode → World → Prop} (h : S_fix_face t0 t1 (recV u) w (fun e w => R e (recM u) w)) : CallsD Tryz.prog 142 #[t0, t1] u w R :=
  callsD_recover Tryz.func142 rfl rfl rfl rfl rfl rfl rfl rfl (Eq.mpr (S_fix_face_eq t0 t1 (recV u) w _) h)

/- fix.within -/
def S_fix_within (t0 : Value) (w : World) (K : Ending → World → Prop) : Prop :=
 DoX Tryz.prog (mBin .geq 2 t0 (.int .i64 (-1073741824))) w (pk K) fun t4 w =>
 GDo t4 true (fun E => E t0 w) w fun t6 w =>
 GDo t4 true (fun E => DoX Tryz.prog (mBin .leq 2 t6 (.int .i64 1073741824)) w (pk K) E) w fun t7 w =>
 DoX Tryz.prog (mPick t4 t7 (.bool false)) w (pk K) fun t8 w =>
 K (.returned t8) w
theorem S_fix_within_eq (t0 : Value) (w : World) (K : Ending → World → Prop) : wpX Tryz.prog 9 [] [] none (bodyOf Tryz.f172) (topQ Tryz.prog [.tmp 2] K) (startX [t0]) [] w = S_fix_within t0 w K := by kernel_rfl
theorem S_fix_within_ok {t0 : Value} {w : World} {K : Ending → World → Prop} (h : S_fix_within t0 w K) : Calls Tryz.prog 172 #[t0] w K :=
  calls_of_wpX Tryz.func172 rfl rfl rfl rfl (Eq.mpr (S_fix_within_eq t0 w K) h)

/- fix.bounded -/
def S_fix_bounded_1 (t6 : Value) (w : World) (N1 : List Value → World → Prop) (K : Ending → World → Prop) : Prop :=
 DoX Tryz.prog (mBin .add 3 t6 (.int .i64 1)) w (pk K) fun t14 w =>
 N1 [t14] w
def S_fix_bounded_0 (t4 t5 t6 : Value) (w : World) (N1 : List Value → World → Prop) (K : Ending → World → Prop) : Prop :=
 DoX Tryz.prog (mBin .lss 3 t6 t5) w (pk K) fun t7 w =>
 IfX t7 (JoinX (fun J2 =>
 DoX Tryz.prog (mIA 175 t4 t6) w (pk K) fun t8 w =>
 DoX Tryz.prog (mLoad 2 t8) w (pk K) fun t9 w =>
 CallX Tryz.prog 172 #[t9] w (pk K) fun t11 w =>
 DoX Tryz.prog (mUn .not t11) w (pk K) fun t12 w =>
 IfX t12 (DoX Tryz.prog (mIface 174 (.int .i64 2)) w (pk K) fun t13 w =>
 DoX Tryz.prog (mPanic t13) w (pk K) fun _ w =>
 J2 [] w) (J2 [] w)) (fun vs2 w => ∀ _ : Sg, S_fix_bounded_1 t6 w N1 K)) (K (.returned (.tuple #[])) w)
def S_fix_bounded (t0 : Value) (w : World) (K : Ending → World → Prop) : Prop :=
 DoX Tryz.prog (mB .len #[175] 3 #[false] #[t0]) w (pk K) fun t5 w =>
 LoopX [(.int .i64 0)] w (fun vs1 w N1 => ∀ _ : Sg, S_fix_bounded_0 t0 t5 (vs1.getD 0 undef) w N1 K)
theorem S_fix_bounded_eq (t0 : Value) (w : World) (K : Ending → World → Prop) : wpX Tryz.prog 15 [(5, [])] [(1, [6])] none (bodyOf Tryz.f145) (topQ Tryz.prog [] K) (startX [t0]) [] w = S_fix_bounded t0 w K := by kernel_rfl
theorem S_fix_bounded_ok {t0 : Value} {w : World} {K : Ending → World → Prop} (h : S_fix_bounded t0 w K) : Calls Tryz.prog 145 #[t0] w K :=
  calls_of_wpX Tryz.func145 rfl rfl rfl rfl (Eq.mpr (S_fix_bounded_eq t0 w K) h)

/- fix.answer -/
def S_fix_answer (t0 : Value) (w : World) (K : Ending → World → Prop) : Prop :=
 DoX Tryz.prog (mBuildS 175 1 #[(0, t0)]) w (pk K) fun t4 w =>
 CallX Tryz.prog 145 #[t4] w (pk K) fun t5 w =>
 K (.returned t0) w
/- fix.nearest -/
def S_fix_nearest_1 (t5 : Value) (w : World) (K : Ending → World → Prop) : Prop :=
 K (.returned t5) w
def S_fix_nearest_0 (t1 t5 t6 : Value) (w : World) (K : Ending → World → Prop) : Prop :=
 JoinX (fun J3 =>
 DoX Tryz.prog (mBin .sub 2 t1 t6) w (pk K) fun t23 w =>
 DoX Tryz.prog (mBin .geq 2 t6 t23) w (pk K) fun t24 w =>
 IfX t24 (DoX Tryz.prog (mBin .add 2 t5 (.int .i64 1)) w (pk K) fun t26 w =>
 J3 [t26] w) (J3 [t5] w)) (fun vs3 w => ∀ _ : Sg, S_fix_nearest_1 (vs3.getD 0 undef) w K)
def S_fix_nearest (t0 t1 : Value) (w : World) (K : Ending → World → Prop) : Prop :=
 QuietX w (fun C1 =>
 QDo Tryz.prog C1 (mBin .quo 2 t0 t1) fun t9 =>
 QDo Tryz.prog C1 (mBin .rem 2 t0 t1) fun t12 =>
 ∀ w, C1 w →
 JoinX (fun J2 =>
 DoX Tryz.prog (mBin .lss 2 t12 (.int .i64 0)) w (pk K) fun t14 w =>
 IfX t14 (DoX Tryz.prog (mBin .sub 2 t9 (.int .i64 1)) w (pk K) fun t16 w =>
 DoX Tryz.prog (mBin .add 2 t12 t1) w (pk K) fun t19 w =>
 J2 [t16, t19] w) (J2 [t9, t12] w)) (fun vs2 w => ∀ _ : Sg, S_fix_nearest_0 t1 (vs2.getD 0 undef) (vs2.getD 1 undef) w K))
/- fix.Near -/
/- fix.Whole -/
/- fix.Mul -/
def S_fix_Mul_p0 (x0 : Value) (x1 : Value) (K : Ending → World → Prop) := pd Tryz.prog [.cell x0 2, .cell x1 23] K [{ target := .fn (.func 142) #[], args := #[x0, x1] }]
/- fix.Div -/
def S_fix_Div_p0 (x0 : Value) (x1 : Value) (K : Ending → World → Prop) := pd Tryz.prog [.cell x0 2, .cell x1 23] K [{ target := .fn (.func 142) #[], args := #[x0, x1] }]
/- fix.Dot -/
def S_fix_Dot_p0 (x0 : Value) (x1 : Value) (K : Ending → World → Prop) := pd Tryz.prog [.cell x0 2, .cell x1 23] K [{ target := .fn (.func 142) #[], args := #[x0, x1] }]
/- fix.Sum -/
def S_fix_Sum_p0 (x0 : Value) (x1 : Value) (K : Ending → World → Prop) := pd Tryz.prog [.cell x0 2, .cell x1 23] K [{ target := .fn (.func 142) #[], args := #[x0, x1] }]
/- fix.Root -/
def S_fix_Root_p0 (x0 : Value) (x1 : Value) (K : Ending → World → Prop) := pd Tryz.prog [.cell x0 2, .cell x1 23] K [{ target := .fn (.func 142) #[], args := #[x0, x1] }]
def S_fix_Root_1 (t2 t3 t5 : Value) (w : World) (N1 : List Value → World → Prop) (K : Ending → World → Prop) : Prop :=
 DoX Tryz.prog (mBin .quo 2 t5 (.int .i64 2)) w (S_fix_Root_p0 t2 t3 K) fun t16 w =>
 AtX [{ target := .fn (.func 142) #[], args := #[t2, t3] }] [{ target := .fn (.func 142) #[], args := #[t2, t3] }] (N1 [t16] w)
def S_fix_Root_0 (t2 t3 t4 t5 : Value) (w : World) (N1 : List Value → World → Prop) (K : Ending → World → Prop) : Prop :=
 DoX Tryz.prog (mBin .gtr 2 t5 (.int .i64 0)) w (S_fix_Root_p0 t2 t3 K) fun t14 w =>
 IfX t14 (JoinX (fun J2 =>
 DoX Tryz.prog (mLoad 2 t2) w (S_fix_Root_p0 t2 t3 K) fun t17 w =>
 DoX Tryz.prog (mBin .add 2 t17 t5) w (S_fix_Root_p0 t2 t3 K) fun t19 w =>
 DoX Tryz.prog (mLoad 2 t2) w (S_fix_Root_p0 t2 t3 K) fun t20 w =>
 DoX Tryz.prog (mBin .add 2 t20 t5) w (S_fix_Root_p0 t2 t3 K) fun t22 w =>
 DoX Tryz.prog (mBin .mul 2 t19 t22) w (S_fix_Root_p0 t2 t3 K) fun t23 w =>
 DoX Tryz.prog (mBin .leq 2 t23 t4) w (S_fix_Root_p0 t2 t3 K) fun t25 w =>
 IfX t25 (DoX Tryz.prog (mLoad 2 t2) w (S_fix_Root_p0 t2 t3 K) fun t26 w =>
 DoX Tryz.prog (mBin .add 2 t26 t5) w (S_fix_Root_p0 t2 t3 K) fun t28 w =>
 DoX Tryz.prog (mStore 2 t2 t28) w (S_fix_Root_p0 t2 t3 K) fun _ w =>
 AtX [{ target := .fn (.func 142) #[], args := #[t2, t3] }] [{ target := .fn (.func 142) #[], args := #[t2, t3] }] (J2 [] w)) (AtX [{ target := .fn (.func 142) #[], args := #[t2, t3] }] [{ target := .fn (.func 142) #[], args := #[t2, t3] }] (J2 [] w))) (fun vs2 w => ∀ _ : Sg, S_fix_Root_1 t2 t3 t5 w N1 K)) (DoX Tryz.prog (mLoad 2 t2) w (S_fix_Root_p0 t2 t3 K) fun t29 w =>
 DoX Tryz.prog (mStore 2 t2 t29) w (S_fix_Root_p0 t2 t3 K) fun _ w =>
 DoX Tryz.prog (mStore 23 t3 (.int .i64 0)) w (S_fix_Root_p0 t2 t3 K) fun _ w =>
 Leave Tryz.prog [.cell t2 2, .cell t3 23] K [{ target := .fn (.func 142) #[], args := #[t2, t3] }] .returning w)
def S_fix_Root (t0 : Value) (w : World) (K : Ending → World → Prop) : Prop :=
 DoX Tryz.prog (mAlloc 2) w (pk K) fun t2 w =>
 DoX Tryz.prog (mAlloc 23) w (pk K) fun t3 w =>
 DoX Tryz.prog (mBuildS 175 1 #[(0, t0)]) w (S_fix_Root_p0 t2 t3 K) fun t7 w =>
 CallX Tryz.prog 145 #[t7] w (S_fix_Root_p0 t2 t3 K) fun t8 w =>
 DoX Tryz.prog (mBin .lss 2 t0 (.int .i64 0)) w (S_fix_Root_p0 t2 t3 K) fun t10 w =>
 IfX t10 (DoX Tryz.prog (mStore 2 t2 (.int .i64 0)) w (S_fix_Root_p0 t2 t3 K) fun _ w =>
 DoX Tryz.prog (mStore 23 t3 (.int .i64 1)) w (S_fix_Root_p0 t2 t3 K) fun _ w =>
 Leave Tryz.prog [.cell t2 2, .cell t3 23] K [{ target := .fn (.func 142) #[], args := #[t2, t3] }] .returning w) (DoX Tryz.prog (mBin .mul 2 (.int .i64 10000) t0) w (S_fix_Root_p0 t2 t3 K) fun t12 w =>
 LoopX [(.int .i64 4194304)] w (fun vs1 w N1 => ∀ _ : Sg, S_fix_Root_0 t2 t3 t12 (vs1.getD 0 undef) w N1 K))
/- fix.row -/
def S_fix_row_0 (t0 t1 t5 : Value) (w : World) (N1 : List Value → World → Prop) (K : Ending → World → Prop) : Prop :=
 DoX Tryz.prog (mBin .gtr 2 t0 (.int .i64 0)) w (pk K) fun t7 w =>
 GDo t7 false (fun E => E t5 w) w fun t9 w =>
 GDo t7 false (fun E => DoX Tryz.prog (mB .len #[9] 3 #[false] #[t9]) w (pk K) E) w fun t10 w =>
 GDo t7 false (fun E => E t1 w) w fun t11 w =>
 GDo t7 false (fun E => DoX Tryz.prog (mBin .lss 3 t10 t11) w (pk K) E) w fun t12 w =>
 DoX Tryz.prog (mPick t7 (.bool true) t12) w (pk K) fun t13 w =>
 IfX t13 (DoX Tryz.prog (mBin .rem 2 t0 (.int .i64 10)) w (pk K) fun t15 w =>
 DoX Tryz.prog (mBin .add 2 (.int .i64 48) t15) w (pk K) fun t16 w =>
 DoX Tryz.prog (mConv 2 5 t16) w (pk K) fun t17 w =>
 DoX Tryz.prog (mBuildS 88 1 #[(0, t17)]) w (pk K) fun t18 w =>
 DoX Tryz.prog (mConv 88 9 t18) w (pk K) fun t19 w =>
 DoX Tryz.prog (mBin .add 9 t19 t5) w (pk K) fun t21 w =>
 DoX Tryz.prog (mBin .quo 2 t0 (.int .i64 10)) w (pk K) fun t23 w =>
 N1 [t23, t21] w) (K (.returned t5) w)
def S_fix_row (t0 t1 : Value) (w : World) (K : Ending → World → Prop) : Prop :=
 LoopX [t0, (.string ⟨#[]⟩)] w (fun vs1 w N1 => ∀ _ : Sg, S_fix_row_0 (vs1.getD 0 undef) t1 (vs1.getD 1 undef) w N1 K)
/- fix.Text -/
def S_fix_Text_1 (t3 t4 t5 : Value) (w : World) (K : Ending → World → Prop) : Prop :=
 DoX Tryz.prog (mBin .add 9 t3 t4) w (pk K) fun t24 w =>
 DoX Tryz.prog (mBin .add 9 t24 (.string ⟨#[46]⟩)) w (pk K) fun t25 w =>
 DoX Tryz.prog (mBin .add 9 t25 t5) w (pk K) fun t27 w =>
 K (.returned t27) w
/- fix.digits -/
def S_fix_digits (t0 : Value) (w : World) (K : Ending → World → Prop) : Prop :=
 CallX Tryz.prog 141 #[t0, (.string ⟨#[48, 49, 50, 51, 52, 53, 54, 55, 56, 57]⟩)] w (pk K) fun t4 w =>
 DoX Tryz.prog (mEq .eql 9 (.tmp 4) (.const (.string ⟨#[]⟩)) t4 (.string ⟨#[]⟩)) w (pk K) fun t5 w =>
 K (.returned t5) w
theorem S_fix_digits_eq (t0 : Value) (w : World) (K : Ending → World → Prop) : wpX Tryz.prog 6 [] [] none (bodyOf Tryz.f143) (topQ Tryz.prog [.tmp 2] K) (startX [t0]) [] w = S_fix_digits t0 w K := by kernel_rfl
theorem S_fix_digits_ok {t0 : Value} {w : World} {K : Ending → World → Prop} (h : S_fix_digits t0 w K) : Calls Tryz.prog 143 #[t0] w K :=
  calls_of_wpX Tryz.func143 rfl rfl rfl rfl (Eq.mpr (S_fix_digits_eq t0 w K) h)

/- fix.Read -/
def S_fix_Read_p0 (x0 : Value) (x1 : Value) (K : Ending → World → Prop) := pd Tryz.prog [.cell x0 2, .cell x1 23] K [{ target := .fn (.func 142) #[], args := #[x0, x1] }]
def S_fix_Read_4 (t2 t3 : Value) (w : World) (K : Ending → World → Prop) : Prop :=
 DoX Tryz.prog (mLoad 2 t2) w (S_fix_Read_p0 t2 t3 K) fun t93 w =>
 DoX Tryz.prog (mBuildS 175 1 #[(0, t93)]) w (S_fix_Read_p0 t2 t3 K) fun t94 w =>
 CallX Tryz.prog 145 #[t94] w (S_fix_Read_p0 t2 t3 K) fun t95 w =>
 DoX Tryz.prog (mLoad 2 t2) w (S_fix_Read_p0 t2 t3 K) fun t96 w =>
 DoX Tryz.prog (mStore 2 t2 t96) w (S_fix_Read_p0 t2 t3 K) fun _ w =>
 DoX Tryz.prog (mStore 23 t3 (.int .i64 0)) w (S_fix_Read_p0 t2 t3 K) fun _ w =>
 Leave Tryz.prog [.cell t2 2, .cell t3 23] K [{ target := .fn (.func 142) #[], args := #[t2, t3] }] .returning w
def S_fix_Read_3 (t2 t3 t4 : Value) (w : World) (K : Ending → World → Prop) : Prop :=
 JoinX (fun J5 =>
 IfX t4 (DoX Tryz.prog (mLoad 2 t2) w (S_fix_Read_p0 t2 t3 K) fun t91 w =>
 DoX Tryz.prog (mUn .neg t91) w (S_fix_Read_p0 t2 t3 K) fun t92 w =>
 DoX Tryz.prog (mStore 2 t2 t92) w (S_fix_Read_p0 t2 t3 K) fun _ w =>
 AtX [{ target := .fn (.func 142) #[], args := #[t2, t3] }] [{ target := .fn (.func 142) #[], args := #[t2, t3] }] (J5 [] w)) (AtX [{ target := .fn (.func 142) #[], args := #[t2, t3] }] [{ target := .fn (.func 142) #[], args := #[t2, t3] }] (J5 [] w))) (fun vs5 w => ∀ _ : Sg, S_fix_Read_4 t2 t3 w K)
def S_fix_Read_2 (t2 t3 t4 t6 t62 : Value) (w : World) (N3 : List Value → World → Prop) (K : Ending → World → Prop) : Prop :=
 DoX Tryz.prog (mNext t62 true 0) w (S_fix_Read_p0 t2 t3 K) fun t63 w =>
 DoX Tryz.prog (mExt t63 0) w (S_fix_Read_p0 t2 t3 K) fun t64 w =>
 IfX t64 (DoX Tryz.prog (mExt t63 2) w (S_fix_Read_p0 t2 t3 K) fun t65 w =>
 DoX Tryz.prog (mLoad 2 t2) w (S_fix_Read_p0 t2 t3 K) fun t66 w =>
 DoX Tryz.prog (mBin .mul 2 (.int .i64 10) t66) w (S_fix_Read_p0 t2 t3 K) fun t67 w =>
 DoX Tryz.prog (mBin .sub 21 t65 (.int .i32 48)) w (S_fix_Read_p0 t2 t3 K) fun t69 w =>
 DoX Tryz.prog (mConv 21 2 t69) w (S_fix_Read_p0 t2 t3 K) fun t70 w =>
 DoX Tryz.prog (mBin .add 2 t67 t70) w (S_fix_Read_p0 t2 t3 K) fun t71 w =>
 DoX Tryz.prog (mStore 2 t2 t71) w (S_fix_Read_p0 t2 t3 K) fun _ w =>
 AtX [{ target := .fn (.func 142) #[], args := #[t2, t3] }] [{ target := .fn (.func 142) #[], args := #[t2, t3] }] (N3 [] w)) (DoX Tryz.prog (mSlice 9 t6 (some (.int .i64 4)) none none) w (S_fix_Read_p0 t2 t3 K) fun t73 w =>
 CallX Tryz.prog 144 #[t73, (.string ⟨#[48]⟩)] w (S_fix_Read_p0 t2 t3 K) fun t74 w =>
 JoinX (fun J4 =>
 GDo t4 true (fun E => E t74 w) w fun t77 w =>
 GDo t4 true (fun E => DoX Tryz.prog (mBin .gtr 9 t77 (.string ⟨#[53]⟩)) w (S_fix_Read_p0 t2 t3 K) E) w fun t78 w =>
 DoX Tryz.prog (mPick t4 t78 (.bool false)) w (S_fix_Read_p0 t2 t3 K) fun t79 w =>
 GDo t79 false (fun E => E t4 w) w fun t81 w =>
 GDo t79 false (fun E => DoX Tryz.prog (mUn .not t81) w (S_fix_Read_p0 t2 t3 K) E) w fun t82 w =>
 GDo t79 false (fun E => E t82 w) w fun t83 w =>
 GDo t83 true (fun E => E t74 w) w fun t84 w =>
 GDo t83 true (fun E => DoX Tryz.prog (mBin .geq 9 t84 (.string ⟨#[53]⟩)) w (S_fix_Read_p0 t2 t3 K) E) w fun t85 w =>
 GDo t79 false (fun E => DoX Tryz.prog (mPick t83 t85 (.bool false)) w (S_fix_Read_p0 t2 t3 K) E) w fun t86 w =>
 DoX Tryz.prog (mPick t79 (.bool true) t86) w (S_fix_Read_p0 t2 t3 K) fun t87 w =>
 IfX t87 (DoX Tryz.prog (mLoad 2 t2) w (S_fix_Read_p0 t2 t3 K) fun t88 w =>
 DoX Tryz.prog (mBin .add 2 t88 (.int .i64 1)) w (S_fix_Read_p0 t2 t3 K) fun t89 w =>
 DoX Tryz.prog (mStore 2 t2 t89) w (S_fix_Read_p0 t2 t3 K) fun _ w =>
 AtX [{ target := .fn (.func 142) #[], args := #[t2, t3] }] [{ target := .fn (.func 142) #[], args := #[t2, t3] }] (J4 [] w)) (AtX [{ target := .fn (.func 142) #[], args := #[t2, t3] }] [{ target := .fn (.func 142) #[], args := #[t2, t3] }] (J4 [] w))) (fun vs4 w => ∀ _ : Sg, S_fix_Read_3 t2 t3 t4 w K))
def S_fix_Read_1 (t2 t3 t4 t6 t46 : Value) (w : World) (N2 : List Value → World → Prop) (K : Ending → World → Prop) : Prop :=
 DoX Tryz.prog (mNext t46 true 0) w (S_fix_Read_p0 t2 t3 K) fun t47 w =>
 DoX Tryz.prog (mExt t47 0) w (S_fix_Read_p0 t2 t3 K) fun t48 w =>
 IfX t48 (DoX Tryz.prog (mExt t47 2) w (S_fix_Read_p0 t2 t3 K) fun t49 w =>
 DoX Tryz.prog (mLoad 2 t2) w (S_fix_Read_p0 t2 t3 K) fun t50 w =>
 DoX Tryz.prog (mBin .mul 2 (.int .i64 10) t50) w (S_fix_Read_p0 t2 t3 K) fun t51 w =>
 DoX Tryz.prog (mBin .sub 21 t49 (.int .i32 48)) w (S_fix_Read_p0 t2 t3 K) fun t53 w =>
 DoX Tryz.prog (mConv 21 2 t53) w (S_fix_Read_p0 t2 t3 K) fun t54 w =>
 DoX Tryz.prog (mBin .add 2 t51 t54) w (S_fix_Read_p0 t2 t3 K) fun t55 w =>
 DoX Tryz.prog (mStore 2 t2 t55) w (S_fix_Read_p0 t2 t3 K) fun _ w =>
 DoX Tryz.prog (mLoad 2 t2) w (S_fix_Read_p0 t2 t3 K) fun t56 w =>
 DoX Tryz.prog (mBin .gtr 2 t56 (.int .i64 1073741824)) w (S_fix_Read_p0 t2 t3 K) fun t57 w =>
 IfX t57 (DoX Tryz.prog (mStore 2 t2 (.int .i64 0)) w (S_fix_Read_p0 t2 t3 K) fun _ w =>
 DoX Tryz.prog (mStore 23 t3 (.int .i64 2)) w (S_fix_Read_p0 t2 t3 K) fun _ w =>
 Leave Tryz.prog [.cell t2 2, .cell t3 23] K [{ target := .fn (.func 142) #[], args := #[t2, t3] }] .returning w) (AtX [{ target := .fn (.func 142) #[], args := #[t2, t3] }] [{ target := .fn (.func 142) #[], args := #[t2, t3] }] (N2 [] w))) (DoX Tryz.prog (mBin .add 9 t6 (.string ⟨#[48, 48, 48, 48, 48]⟩)) w (S_fix_Read_p0 t2 t3 K) fun t59 w =>
 DoX Tryz.prog (mSlice 9 t59 none (some (.int .i64 4)) none) w (S_fix_Read_p0 t2 t3 K) fun t61 w =>
 DoX Tryz.prog (mRange 9 t61) w (S_fix_Read_p0 t2 t3 K) fun t62 w =>
 LoopX [] w (fun vs3 w N3 => ∀ _ : Sg, S_fix_Read_2 t2 t3 t4 t59 t62 w N3 K))
def S_fix_Read_0 (t0 t2 t3 t4 : Value) (w : World) (K : Ending → World → Prop) : Prop :=
 CallX Tryz.prog 57 #[t0, (.string ⟨#[46]⟩)] w (S_fix_Read_p0 t2 t3 K) fun t27 w =>
 DoX Tryz.prog (mExt t27 0) w (S_fix_Read_p0 t2 t3 K) fun t28 w =>
 DoX Tryz.prog (mExt t27 1) w (S_fix_Read_p0 t2 t3 K) fun t29 w =>
 DoX Tryz.prog (mExt t27 2) w (S_fix_Read_p0 t2 t3 K) fun t30 w =>
 DoX Tryz.prog (mBin .add 9 t28 t29) w (S_fix_Read_p0 t2 t3 K) fun t33 w =>
 DoX Tryz.prog (mEq .eql 9 (.tmp 33) (.const (.string ⟨#[]⟩)) t33 (.string ⟨#[]⟩)) w (S_fix_Read_p0 t2 t3 K) fun t34 w =>
 GDo t34 false (fun E => E t28 w) w fun t36 w =>
 GDo t34 false (fun E => CallX Tryz.prog 143 #[t36] w (S_fix_Read_p0 t2 t3 K) E) w fun t37 w =>
 GDo t34 false (fun E => DoX Tryz.prog (mUn .not t37) w (S_fix_Read_p0 t2 t3 K) E) w fun t38 w =>
 DoX Tryz.prog (mPick t34 (.bool true) t38) w (S_fix_Read_p0 t2 t3 K) fun t39 w =>
 GDo t39 false (fun E => E t29 w) w fun t41 w =>
 GDo t39 false (fun E => CallX Tryz.prog 143 #[t41] w (S_fix_Read_p0 t2 t3 K) E) w fun t42 w =>
 GDo t39 false (fun E => DoX Tryz.prog (mUn .not t42) w (S_fix_Read_p0 t2 t3 K) E) w fun t43 w =>
 DoX Tryz.prog (mPick t39 (.bool true) t43) w (S_fix_Read_p0 t2 t3 K) fun t44 w =>
 IfX t44 (DoX Tryz.prog (mStore 2 t2 (.int .i64 0)) w (S_fix_Read_p0 t2 t3 K) fun _ w =>
 DoX Tryz.prog (mStore 23 t3 (.int .i64 3)) w (S_fix_Read_p0 t2 t3 K) fun _ w =>
 Leave Tryz.prog [.cell t2 2, .cell t3 23] K [{ target := .fn (.func 142) #[], args := #[t2, t3] }] .returning w) (DoX Tryz.prog (mRange 9 t28) w (S_fix_Read_p0 t2 t3 K) fun t46 w =>
 LoopX [] w (fun vs2 w N2 => ∀ _ : Sg, S_fix_Read_1 t2 t3 t4 t29 t46 w N2 K))
def S_fix_Read (t0 : Value) (w : World) (K : Ending → World → Prop) : Prop :=
 DoX Tryz.prog (mAlloc 2) w (pk K) fun t2 w =>
 DoX Tryz.prog (mAlloc 23) w (pk K) fun t3 w =>
 DoX Tryz.prog (mB .len #[9] 3 #[false] #[t0]) w (S_fix_Read_p0 t2 t3 K) fun t14 w =>
 DoX Tryz.prog (mBin .gtr 3 t14 (.int .i64 40)) w (S_fix_Read_p0 t2 t3 K) fun t15 w =>
 IfX t15 (DoX Tryz.prog (mStore 2 t2 (.int .i64 0)) w (S_fix_Read_p0 t2 t3 K) fun _ w =>
 DoX Tryz.prog (mStore 23 t3 (.int .i64 3)) w (S_fix_Read_p0 t2 t3 K) fun _ w =>
 Leave Tryz.prog [.cell t2 2, .cell t3 23] K [{ target := .fn (.func 142) #[], args := #[t2, t3] }] .returning w) (CallX Tryz.prog 75 #[t0, (.string ⟨#[45]⟩)] w (S_fix_Read_p0 t2 t3 K) fun t17 w =>
 JoinX (fun J1 =>
 GDo t17 false (fun E => E t0 w) w fun t20 w =>
 GDo t17 false (fun E => CallX Tryz.prog 75 #[t20, (.string ⟨#[43]⟩)] w (S_fix_Read_p0 t2 t3 K) E) w fun t21 w =>
 DoX Tryz.prog (mPick t17 (.bool true) t21) w (S_fix_Read_p0 t2 t3 K) fun t22 w =>
 IfX t22 (DoX Tryz.prog (mSlice 9 t0 (some (.int .i64 1)) none none) w (S_fix_Read_p0 t2 t3 K) fun t24 w =>
 AtX [{ target := .fn (.func 142) #[], args := #[t2, t3] }] [{ target := .fn (.func 142) #[], args := #[t2, t3] }] (J1 [t24] w)) (AtX [{ target := .fn (.func 142) #[], args := #[t2, t3] }] [{ target := .fn (.func 142) #[], args := #[t2, t3] }] (J1 [t0] w))) (fun vs1 w => ∀ _ : Sg, S_fix_Read_0 (vs1.getD 0 undef) t2 t3 t17 w K))
theorem S_fix_Read_eq (t0 : Value) (w : World) (K : Ending → World → Prop) : wpX Tryz.prog 97 [(7, [0]), (24, []), (26, [])] [(11, []), (18, [])] none (bodyOf Tryz.f117) (topQ Tryz.prog [.cell 2 2, .cell 3 23] K) (startX [t0]) [] w = S_fix_Read t0 w K := by kernel_rfl
theorem S_fix_Read_ok {t0 : Value} {w : World} {K : Ending → World → Prop} (h : S_fix_Read t0 w K) : Calls Tryz.prog 117 #[t0] w K :=
  calls_of_wpX Tryz.func117 rfl rfl rfl rfl (Eq.mpr (S_fix_Read_eq t0 w K) h)

end Go.Proofs.YtgffladaenimmaaGreatDoor
/- Code in continuation form, by program (gen.py): 14 functions. -/
namespace Go.Proofs.YtgffladaenimmaaGreatDoor
set_option linter.unusedVariables false
set_option linter.unusedSimpArgs false
set_option linter.defProp false
set_option linter.unusedVariables false
set_option maxRecDepth 20000
open Eng

/- foliantref02.Within -/
def S_foliantref02_Within (t0 : Value) (w : World) (K : Ending → World → Prop) : Prop :=
 DoX Tryz.prog (mBin .geq 2 t0 (.int .i64 (-1073741824))) w (pk K) fun t4 w =>
 GDo t4 true (fun E => E t0 w) w fun t6 w =>
 GDo t4 true (fun E => DoX Tryz.prog (mBin .leq 2 t6 (.int .i64 1073741824)) w (pk K) E) w fun t7 w =>
 DoX Tryz.prog (mPick t4 t7 (.bool false)) w (pk K) fun t8 w =>
 K (.returned t8) w
theorem S_foliantref02_Within_eq (t0 : Value) (w : World) (K : Ending → World → Prop) : wpX Tryz.prog 9 [] [] none (bodyOf Tryz.f175) (topQ Tryz.prog [.tmp 2] K) (startX [t0]) [] w = S_foliantref02_Within t0 w K := by kernel_rfl
theorem S_foliantref02_Within_ok {t0 : Value} {w : World} {K : Ending → World → Prop} (h : S_foliantref02_Within t0 w K) : Calls Tryz.prog 175 #[t0] w K :=
  calls_of_wpX Tryz.func175 rfl rfl rfl rfl (Eq.mpr (S_foliantref02_Within_eq t0 w K) h)

/- foliantref02.told -/
def S_foliantref02_told (t0 : Value) (w : World) (K : Ending → World → Prop) : Prop :=
 CallX Tryz.prog 175 #[t0] w (pk K) fun t5 w =>
 DoX Tryz.prog (mUn .not t5) w (pk K) fun t6 w =>
 IfX t6 (K (.returned (.tuple #[(.int .i64 0), (.int .i64 2)])) w) (K (.returned (.tuple #[t0, (.int .i64 0)])) w)
/- foliantref02.nearest -/
def S_foliantref02_nearest_1 (t5 : Value) (w : World) (K : Ending → World → Prop) : Prop :=
 K (.returned t5) w
def S_foliantref02_nearest_0 (t1 t5 t6 : Value) (w : World) (K : Ending → World → Prop) : Prop :=
 JoinX (fun J2 =>
 DoX Tryz.prog (mBin .sub 2 t1 t6) w (pk K) fun t23 w =>
 DoX Tryz.prog (mBin .geq 2 t6 t23) w (pk K) fun t24 w =>
 IfX t24 (DoX Tryz.prog (mBin .add 2 t5 (.int .i64 1)) w (pk K) fun t26 w =>
 J2 [t26] w) (J2 [t5] w)) (fun vs2 w => ∀ _ : Sg, S_foliantref02_nearest_1 (vs2.getD 0 undef) w K)
def S_foliantref02_nearest (t0 t1 : Value) (w : World) (K : Ending → World → Prop) : Prop :=
 DoX Tryz.prog (mBin .quo 2 t0 t1) w (pk K) fun t9 w =>
 DoX Tryz.prog (mBin .rem 2 t0 t1) w (pk K) fun t12 w =>
 JoinX (fun J1 =>
 DoX Tryz.prog (mBin .lss 2 t12 (.int .i64 0)) w (pk K) fun t14 w =>
 IfX t14 (DoX Tryz.prog (mBin .sub 2 t9 (.int .i64 1)) w (pk K) fun t16 w =>
 DoX Tryz.prog (mBin .add 2 t12 t1) w (pk K) fun t19 w =>
 J1 [t16, t19] w) (J1 [t9, t12] w)) (fun vs1 w => ∀ _ : Sg, S_foliantref02_nearest_0 t1 (vs1.getD 0 undef) (vs1.getD 1 undef) w K)
/- foliantref02.Near -/
/- foliantref02.Whole -/
/- foliantref02.Mul -/
/- foliantref02.Div -/
/- foliantref02.Dot -/
/- foliantref02.Sum -/
/- foliantref02.Root -/
def S_foliantref02_Root_1 (t4 t5 : Value) (w : World) (N1 : List Value → World → Prop) (K : Ending → World → Prop) : Prop :=
 DoX Tryz.prog (mBin .quo 2 t5 (.int .i64 2)) w (pk K) fun t14 w =>
 N1 [t4, t14] w
def S_foliantref02_Root_0 (t0 t4 t5 : Value) (w : World) (N1 : List Value → World → Prop) (K : Ending → World → Prop) : Prop :=
 DoX Tryz.prog (mBin .gtr 2 t5 (.int .i64 0)) w (pk K) fun t12 w =>
 IfX t12 (JoinX (fun J2 =>
 DoX Tryz.prog (mBin .add 2 t4 t5) w (pk K) fun t17 w =>
 DoX Tryz.prog (mBin .add 2 t4 t5) w (pk K) fun t20 w =>
 DoX Tryz.prog (mBin .mul 2 t17 t20) w (pk K) fun t21 w =>
 DoX Tryz.prog (mBin .mul 2 t0 (.int .i64 10000)) w (pk K) fun t23 w =>
 DoX Tryz.prog (mBin .leq 2 t21 t23) w (pk K) fun t24 w =>
 IfX t24 (DoX Tryz.prog (mBin .add 2 t4 t5) w (pk K) fun t27 w =>
 J2 [t27] w) (J2 [t4] w)) (fun vs2 w => ∀ _ : Sg, S_foliantref02_Root_1 (vs2.getD 0 undef) t5 w N1 K)) (K (.returned (.tuple #[t4, (.int .i64 0)])) w)
def S_foliantref02_Root (t0 : Value) (w : World) (K : Ending → World → Prop) : Prop :=
 CallX Tryz.prog 175 #[t0] w (pk K) fun t7 w =>
 DoX Tryz.prog (mUn .not t7) w (pk K) fun t8 w =>
 IfX t8 (K (.returned (.tuple #[(.int .i64 0), (.int .i64 2)])) w) (DoX Tryz.prog (mBin .lss 2 t0 (.int .i64 0)) w (pk K) fun t10 w =>
 IfX t10 (K (.returned (.tuple #[(.int .i64 0), (.int .i64 1)])) w) (LoopX [(.int .i64 0), (.int .i64 1073741824)] w (fun vs1 w N1 => ∀ _ : Sg, S_foliantref02_Root_0 t0 (vs1.getD 0 undef) (vs1.getD 1 undef) w N1 K)))
/- foliantref02.digits -/
def S_foliantref02_digits_0 (t0 t1 t5 : Value) (w : World) (N1 : List Value → World → Prop) (K : Ending → World → Prop) : Prop :=
 DoX Tryz.prog (mBin .gtr 2 t0 (.int .i64 0)) w (pk K) fun t7 w =>
 GDo t7 false (fun E => E t5 w) w fun t9 w =>
 GDo t7 false (fun E => DoX Tryz.prog (mB .len #[9] 3 #[false] #[t9]) w (pk K) E) w fun t10 w =>
 GDo t7 false (fun E => E t1 w) w fun t11 w =>
 GDo t7 false (fun E => DoX Tryz.prog (mBin .lss 3 t10 t11) w (pk K) E) w fun t12 w =>
 DoX Tryz.prog (mPick t7 (.bool true) t12) w (pk K) fun t13 w =>
 IfX t13 (DoX Tryz.prog (mBin .rem 2 t0 (.int .i64 10)) w (pk K) fun t15 w =>
 DoX Tryz.prog (mBin .add 2 (.int .i64 48) t15) w (pk K) fun t16 w =>
 DoX Tryz.prog (mConv 2 5 t16) w (pk K) fun t17 w =>
 DoX Tryz.prog (mBuildS 88 1 #[(0, t17)]) w (pk K) fun t18 w =>
 DoX Tryz.prog (mConv 88 9 t18) w (pk K) fun t19 w =>
 DoX Tryz.prog (mBin .add 9 t19 t5) w (pk K) fun t21 w =>
 DoX Tryz.prog (mBin .quo 2 t0 (.int .i64 10)) w (pk K) fun t23 w =>
 N1 [t23, t21] w) (K (.returned t5) w)
def S_foliantref02_digits (t0 t1 : Value) (w : World) (K : Ending → World → Prop) : Prop :=
 LoopX [t0, (.string ⟨#[]⟩)] w (fun vs1 w N1 => ∀ _ : Sg, S_foliantref02_digits_0 (vs1.getD 0 undef) t1 (vs1.getD 1 undef) w N1 K)
/- foliantref02.Text -/
/- foliantref02.form -/
def S_foliantref02_form_2 (t7 t8 t9 t10 : Value) (w : World) (N2 : List Value → World → Prop) (K : Ending → World → Prop) : Prop :=
 DoX Tryz.prog (mBin .add 3 t10 (.int .i64 1)) w (pk K) fun t36 w =>
 N2 [t7, t8, t9, t36] w
def S_foliantref02_form_1 (t0 t6 t7 t8 t9 t10 : Value) (w : World) (N2 : List Value → World → Prop) (K : Ending → World → Prop) : Prop :=
 DoX Tryz.prog (mB .len #[9] 3 #[false] #[t0]) w (pk K) fun t33 w =>
 DoX Tryz.prog (mBin .lss 3 t10 t33) w (pk K) fun t34 w =>
 IfX t34 (JoinX (fun J3 =>
 DoX Tryz.prog (mIx 9 t0 t10) w (pk K) fun t39 w =>
 DoX Tryz.prog (mEq .eql 5 (.tmp 39) (.const (.int .u8 46)) t39 (.int .u8 46)) w (pk K) fun t40 w =>
 GDo t40 true (fun E => E t9 w) w fun t42 w =>
 GDo t40 true (fun E => DoX Tryz.prog (mUn .not t42) w (pk K) E) w fun t43 w =>
 DoX Tryz.prog (mPick t40 t43 (.bool false)) w (pk K) fun t44 w =>
 IfX t44 (J3 [t7, t8, (.bool true)] w) (DoX Tryz.prog (mIx 9 t0 t10) w (pk K) fun t47 w =>
 DoX Tryz.prog (mBin .lss 5 t47 (.int .u8 48)) w (pk K) fun t48 w =>
 GDo t48 false (fun E => E t0 w) w fun t50 w =>
 GDo t48 false (fun E => E t10 w) w fun t51 w =>
 GDo t48 false (fun E => DoX Tryz.prog (mIx 9 t50 t51) w (pk K) E) w fun t52 w =>
 GDo t48 false (fun E => DoX Tryz.prog (mBin .gtr 5 t52 (.int .u8 57)) w (pk K) E) w fun t53 w =>
 DoX Tryz.prog (mPick t48 (.bool true) t53) w (pk K) fun t54 w =>
 IfX t54 (K (.returned (.tuple #[(.string ⟨#[]⟩), (.string ⟨#[]⟩), (.bool false), (.bool false)])) w) (IfX t9 (DoX Tryz.prog (mBin .add 3 t10 (.int .i64 1)) w (pk K) fun t60 w =>
 DoX Tryz.prog (mSlice 9 t0 (some t10) (some t60) none) w (pk K) fun t61 w =>
 DoX Tryz.prog (mBin .add 9 t8 t61) w (pk K) fun t62 w =>
 J3 [t7, t62, t9] w) (DoX Tryz.prog (mBin .add 3 t10 (.int .i64 1)) w (pk K) fun t67 w =>
 DoX Tryz.prog (mSlice 9 t0 (some t10) (some t67) none) w (pk K) fun t68 w =>
 DoX Tryz.prog (mBin .add 9 t7 t68) w (pk K) fun t69 w =>
 J3 [t69, t8, t9] w)))) (fun vs3 w => ∀ _ : Sg, S_foliantref02_form_2 (vs3.getD 0 undef) (vs3.getD 1 undef) (vs3.getD 2 undef) t10 w N2 K)) (DoX Tryz.prog (mB .len #[9] 3 #[false] #[t7]) w (pk K) fun t74 w =>
 DoX Tryz.prog (mB .len #[9] 3 #[false] #[t8]) w (pk K) fun t76 w =>
 DoX Tryz.prog (mBin .add 3 t74 t76) w (pk K) fun t77 w =>
 DoX Tryz.prog (mBin .gtr 3 t77 (.int .i64 0)) w (pk K) fun t78 w =>
 K (.returned (.tuple #[t7, t8, t6, t78])) w)
def S_foliantref02_form_0 (t0 t6 : Value) (w : World) (K : Ending → World → Prop) : Prop :=
 LoopX [(.string ⟨#[]⟩), (.string ⟨#[]⟩), (.bool false), (.int .i64 0)] w (fun vs2 w N2 => ∀ _ : Sg, S_foliantref02_form_1 t0 t6 (vs2.getD 0 undef) (vs2.getD 1 undef) (vs2.getD 2 undef) (vs2.getD 3 undef) w N2 K)
def S_foliantref02_form (t0 : Value) (w : World) (K : Ending → World → Prop) : Prop :=
 DoX Tryz.prog (mB .len #[9] 3 #[false] #[t0]) w (pk K) fun t12 w =>
 DoX Tryz.prog (mBin .gtr 3 t12 (.int .i64 40)) w (pk K) fun t13 w =>
 IfX t13 (K (.returned (.tuple #[(.string ⟨#[]⟩), (.string ⟨#[]⟩), (.bool false), (.bool false)])) w) (JoinX (fun J1 =>
 DoX Tryz.prog (mEq .neq 9 (.tmp 14) (.const (.string ⟨#[]⟩)) t0 (.string ⟨#[]⟩)) w (pk K) fun t15 w =>
 GDo t15 true (fun E => E t0 w) w fun t17 w =>
 GDo t15 true (fun E => DoX Tryz.prog (mIx 9 t17 (.int .i64 0)) w (pk K) E) w fun t18 w =>
 GDo t15 true (fun E => DoX Tryz.prog (mEq .eql 5 (.tmp 18) (.const (.int .u8 43)) t18 (.int .u8 43)) w (pk K) E) w fun t19 w =>
 GDo t15 true (fun E => E t19 w) w fun t20 w =>
 GDo t20 false (fun E => E t0 w) w fun t21 w =>
 GDo t20 false (fun E => DoX Tryz.prog (mIx 9 t21 (.int .i64 0)) w (pk K) E) w fun t22 w =>
 GDo t20 false (fun E => DoX Tryz.prog (mEq .eql 5 (.tmp 22) (.const (.int .u8 45)) t22 (.int .u8 45)) w (pk K) E) w fun t23 w =>
 GDo t15 true (fun E => DoX Tryz.prog (mPick t20 (.bool true) t23) w (pk K) E) w fun t24 w =>
 DoX Tryz.prog (mPick t15 t24 (.bool false)) w (pk K) fun t25 w =>
 IfX t25 (DoX Tryz.prog (mIx 9 t0 (.int .i64 0)) w (pk K) fun t27 w =>
 DoX Tryz.prog (mEq .eql 5 (.tmp 27) (.const (.int .u8 45)) t27 (.int .u8 45)) w (pk K) fun t28 w =>
 DoX Tryz.prog (mSlice 9 t0 (some (.int .i64 1)) none none) w (pk K) fun t30 w =>
 J1 [t30, t28] w) (J1 [t0, (.bool false)] w)) (fun vs1 w => ∀ _ : Sg, S_foliantref02_form_0 (vs1.getD 0 undef) (vs1.getD 1 undef) w K))
theorem S_foliantref02_form_eq (t0 : Value) (w : World) (K : Ending → World → Prop) : wpX Tryz.prog 79 [(7, [0, 6]), (10, [7, 8, 9])] [(9, [7, 8, 9, 10])] none (bodyOf Tryz.f174) (topQ Tryz.prog [.tmp 2, .tmp 3, .tmp 4, .tmp 5] K) (startX [t0]) [] w = S_foliantref02_form t0 w K := by kernel_rfl
theorem S_foliantref02_form_ok {t0 : Value} {w : World} {K : Ending → World → Prop} (h : S_foliantref02_form t0 w K) : Calls Tryz.prog 174 #[t0] w K :=
  calls_of_wpX Tryz.func174 rfl rfl rfl rfl (Eq.mpr (S_foliantref02_form_eq t0 w K) h)

/- foliantref02.Read -/
def S_foliantref02_Read_5 (t8 : Value) (w : World) (K : Ending → World → Prop) : Prop :=
 CallX Tryz.prog 175 #[t8] w (pk K) fun t84 w =>
 DoX Tryz.prog (mUn .not t84) w (pk K) fun t85 w =>
 IfX t85 (K (.returned (.tuple #[(.int .i64 0), (.int .i64 2)])) w) (K (.returned (.tuple #[t8, (.int .i64 0)])) w)
def S_foliantref02_Read_4 (t6 t8 : Value) (w : World) (K : Ending → World → Prop) : Prop :=
 JoinX (fun J6 =>
 IfX t6 (DoX Tryz.prog (mUn .neg t8) w (pk K) fun t82 w =>
 J6 [t82] w) (J6 [t8] w)) (fun vs6 w => ∀ _ : Sg, S_foliantref02_Read_5 (vs6.getD 0 undef) w K)
def S_foliantref02_Read_3 (t6 t8 t12 : Value) (w : World) (K : Ending → World → Prop) : Prop :=
 JoinX (fun J5 =>
 IfX t12 (DoX Tryz.prog (mBin .add 2 t8 (.int .i64 1)) w (pk K) fun t79 w =>
 J5 [t79] w) (J5 [t8] w)) (fun vs5 w => ∀ _ : Sg, S_foliantref02_Read_4 t6 (vs5.getD 0 undef) w K)
def S_foliantref02_Read_2 (t11 t13 t14 : Value) (w : World) (J3 N4 : List Value → World → Prop) (K : Ending → World → Prop) : Prop :=
 DoX Tryz.prog (mB .len #[9] 3 #[false] #[t11]) w (pk K) fun t65 w =>
 DoX Tryz.prog (mBin .lss 3 t14 t65) w (pk K) fun t66 w =>
 IfX t66 (GDo t13 false (fun E => E t11 w) w fun t71 w =>
 GDo t13 false (fun E => E t14 w) w fun t72 w =>
 GDo t13 false (fun E => DoX Tryz.prog (mIx 9 t71 t72) w (pk K) E) w fun t73 w =>
 GDo t13 false (fun E => DoX Tryz.prog (mBin .gtr 5 t73 (.int .u8 48)) w (pk K) E) w fun t74 w =>
 DoX Tryz.prog (mPick t13 (.bool true) t74) w (pk K) fun t75 w =>
 DoX Tryz.prog (mBin .add 3 t14 (.int .i64 1)) w (pk K) fun t68 w =>
 N4 [t75, t68] w) (J3 [t13] w)
def S_foliantref02_Read_1 (t6 t8 t11 : Value) (w : World) (K : Ending → World → Prop) : Prop :=
 DoX Tryz.prog (mEq .neq 9 (.tmp 49) (.const (.string ⟨#[]⟩)) t11 (.string ⟨#[]⟩)) w (pk K) fun t50 w =>
 GDo t50 true (fun E => E t11 w) w fun t52 w =>
 GDo t50 true (fun E => DoX Tryz.prog (mIx 9 t52 (.int .i64 0)) w (pk K) E) w fun t53 w =>
 GDo t50 true (fun E => DoX Tryz.prog (mBin .geq 5 t53 (.int .u8 53)) w (pk K) E) w fun t54 w =>
 DoX Tryz.prog (mPick t50 t54 (.bool false)) w (pk K) fun t55 w =>
 JoinX (fun J3 =>
 GDo t55 true (fun E => E t6 w) w fun t58 w =>
 DoX Tryz.prog (mPick t55 t58 (.bool false)) w (pk K) fun t59 w =>
 IfX t59 (DoX Tryz.prog (mIx 9 t11 (.int .i64 0)) w (pk K) fun t61 w =>
 DoX Tryz.prog (mBin .gtr 5 t61 (.int .u8 53)) w (pk K) fun t62 w =>
 LoopX [t62, (.int .i64 1)] w (fun vs4 w N4 => ∀ _ : Sg, S_foliantref02_Read_2 t11 (vs4.getD 0 undef) (vs4.getD 1 undef) w J3 N4 K)) (J3 [t55] w)) (fun vs3 w => ∀ _ : Sg, S_foliantref02_Read_3 t6 t8 (vs3.getD 0 undef) w K)
def S_foliantref02_Read_0 (t5 t6 t8 t9 t10 : Value) (w : World) (N1 : List Value → World → Prop) (K : Ending → World → Prop) : Prop :=
 DoX Tryz.prog (mB .len #[9] 3 #[false] #[t9]) w (pk K) fun t31 w =>
 DoX Tryz.prog (mBin .lss 3 t10 t31) w (pk K) fun t32 w =>
 IfX t32 (DoX Tryz.prog (mBin .mul 2 (.int .i64 10) t8) w (pk K) fun t36 w =>
 DoX Tryz.prog (mIx 9 t9 t10) w (pk K) fun t39 w =>
 DoX Tryz.prog (mBin .sub 5 t39 (.int .u8 48)) w (pk K) fun t40 w =>
 DoX Tryz.prog (mConv 5 2 t40) w (pk K) fun t41 w =>
 DoX Tryz.prog (mBin .add 2 t36 t41) w (pk K) fun t42 w =>
 DoX Tryz.prog (mB .min #[2, 2] 2 #[false, true] #[t42, (.int .i64 1099511627776)]) w (pk K) fun t43 w =>
 DoX Tryz.prog (mBin .add 3 t10 (.int .i64 1)) w (pk K) fun t34 w =>
 N1 [t43, t34] w) (JoinX (fun J2 =>
 DoX Tryz.prog (mB .len #[9] 3 #[false] #[t5]) w (pk K) fun t45 w =>
 DoX Tryz.prog (mBin .gtr 3 t45 (.int .i64 4)) w (pk K) fun t46 w =>
 IfX t46 (DoX Tryz.prog (mSlice 9 t5 (some (.int .i64 4)) none none) w (pk K) fun t48 w =>
 J2 [t48] w) (J2 [(.string ⟨#[]⟩)] w)) (fun vs2 w => ∀ _ : Sg, S_foliantref02_Read_1 t6 t8 (vs2.getD 0 undef) w K))
def S_foliantref02_Read (t0 : Value) (w : World) (K : Ending → World → Prop) : Prop :=
 CallX Tryz.prog 174 #[t0] w (pk K) fun t17 w =>
 DoX Tryz.prog (mExt t17 0) w (pk K) fun t18 w =>
 DoX Tryz.prog (mExt t17 1) w (pk K) fun t19 w =>
 DoX Tryz.prog (mExt t17 2) w (pk K) fun t20 w =>
 DoX Tryz.prog (mExt t17 3) w (pk K) fun t21 w =>
 DoX Tryz.prog (mUn .not t21) w (pk K) fun t23 w =>
 IfX t23 (K (.returned (.tuple #[(.int .i64 0), (.int .i64 3)])) w) (DoX Tryz.prog (mBin .add 9 t19 (.string ⟨#[48, 48, 48, 48]⟩)) w (pk K) fun t26 w =>
 DoX Tryz.prog (mSlice 9 t26 none (some (.int .i64 4)) none) w (pk K) fun t27 w =>
 DoX Tryz.prog (mBin .add 9 t18 t27) w (pk K) fun t28 w =>
 LoopX [(.int .i64 0), (.int .i64 0)] w (fun vs1 w N1 => ∀ _ : Sg, S_foliantref02_Read_0 t19 t20 (vs1.getD 0 undef) t28 (vs1.getD 1 undef) w N1 K))
theorem S_foliantref02_Read_eq (t0 : Value) (w : World) (K : Ending → World → Prop) : wpX Tryz.prog 87 [(13, [11]), (21, [12]), (23, [8]), (25, [8])] [(7, [8, 10]), (17, [13, 14])] none (bodyOf Tryz.f154) (topQ Tryz.prog [.tmp 2, .tmp 3] K) (startX [t0]) [] w = S_foliantref02_Read t0 w K := by kernel_rfl
theorem S_foliantref02_Read_ok {t0 : Value} {w : World} {K : Ending → World → Prop} (h : S_foliantref02_Read t0 w K) : Calls Tryz.prog 154 #[t0] w K :=
  calls_of_wpX Tryz.func154 rfl rfl rfl rfl (Eq.mpr (S_foliantref02_Read_eq t0 w K) h)

end Go.Proofs.YtgffladaenimmaaGreatDoor
/- Contracts of the program's package fix. -/
namespace Go.Proofs.YtgffladaenimmaaGreatDoor
set_option linter.unusedVariables false
set_option linter.unusedSimpArgs false
set_option linter.defProp false
open Eng Go.RowKit
set_option linter.unusedVariables false
set_option linter.unusedSimpArgs false

theorem within_ret (n : Int) (w : World) : Ret Tryz.prog 172 #[.int .i64 n] w (fun v w' => v = .bool (Fx.okB n) ∧ w = w') := by
  refine ret_of fun K hK => S_fix_within_ok ?_
  unfold S_fix_within
  by_cases h : -1073741824 ≤ n <;> simp only [rs, h, decide_true, decide_false] <;> exact hK _ _ ⟨by simp [Fx.okB, h], rfl⟩
def ints (zs : List Int) : List Value := zs.map (Value.int .i64)
theorem ints_get {zs : List Int} {k : Nat} (h : k < zs.length) : (ints zs)[k]? = some (.int .i64 zs[k]) := by simp [ints, h]
theorem take_all (zs : List Int) (k : Nat) (h : k < zs.length) : (zs.take (k + 1)).all Fx.okB = ((zs.take k).all Fx.okB && Fx.okB zs[k]) := by
  rw [List.take_succ_eq_append_getElem h, List.all_append]; simp

theorem bounded_any (v : Value) (zs : List Int) (w : World) (hs : Sl w v 1 zs.length (ints zs)) (hn : zs.length ≤ 9223372036854775806) (K : Ending → World → Prop)
    (hk : zs.all Fx.okB = true → K (.returned (.tuple #[])) w) (hp : zs.all Fx.okB = false → K (.panicked [{ v := .iface 174 (.int .i64 2), recovered := false }]) w) :
    Calls Tryz.prog 145 #[v] w K := by
  refine S_fix_bounded_ok ?_
  unfold S_fix_bounded
  simp only [sl_len Tryz.underlying175 hs]
  refine loop (fun vs w' => w' = w ∧ ∃ k : Nat, k ≤ zs.length ∧ vs = [.int .i64 k] ∧ (zs.take k).all Fx.okB = true) (fun vs _ => zs.length - n0 vs) ⟨rfl, 0, by omega, rfl, by simp⟩ ?_
  rintro vs w' ⟨rfl, k, hkl, rfl, hall⟩ _
  simp only [S_fix_bounded_0, gd, rs]
  by_cases hlt : k < zs.length
  · have hlt' : (k : Int) < (zs.length : Int) := by omega
    simp only [rs, hlt', decide_true]
    refine join fun J hJ => ?_
    refine sl_ia1 (.int .i64 zs[k]) Tryz.underlying175 (by kernel_rfl) hs (by omega) (by rw [Int.toNat_natCast]; exact ints_get hlt) fun p hpc => ?_
    simp only [l_cell (show notAgg Tryz.prog 2 = true by kernel_rfl) hpc]
    refine c_eq (within_ret _ _) ?_
    have ht := take_all zs k hlt
    cases hb : Fx.okB zs[k] with
    | true =>
      simp only [rs]
      refine hJ _ _ fun _ => ?_
      simp only [S_fix_bounded_1, rs]
      rw [wrap64_id (by omega) (by omega)]
      exact nextX ⟨rfl, k + 1, hlt, by simp, by rw [ht, hall, hb]; rfl⟩ (by simp [n0, intOf]; omega)
    | false =>
      simp only [rs, m_iface (show notIface Tryz.prog 174 = true by kernel_rfl)]
      refine hp ?_
      have : (zs.take (k + 1)).all Fx.okB = false := by rw [ht, hb]; simp
      rw [← List.take_append_drop (k + 1) zs, List.all_append, this]; rfl
  · have hlt' : ¬ (k : Int) < (zs.length : Int) := by omega
    simp only [rs, hlt', decide_false]
    exact hk (by rw [List.take_of_length_le (by omega)] at hall; exact hall)

end Go.Proofs.YtgffladaenimmaaGreatDoor
/- Contracts: numbers as text. -/
namespace Go.Proofs.YtgffladaenimmaaGreatDoor
set_option linter.unusedVariables false
set_option linter.unusedSimpArgs false
set_option linter.defProp false
open Eng Go.RowKit
set_option linter.unusedVariables false
set_option linter.unusedSimpArgs false

def slen1 (vs : List Value) : Nat := match vs.getD 1 undef with | .string s => s.size | _ => 0
theorem slen1_mk {a : Value} {l : List UInt8} {t : List Value} : slen1 (a :: .string ⟨l.toArray⟩ :: t) = l.length := by simp [slen1, str_size]

end Go.Proofs.YtgffladaenimmaaGreatDoor
/- Contracts of the program's package fix: the functions that recover. -/
namespace Go.Proofs.YtgffladaenimmaaGreatDoor
set_option linter.unusedVariables false
set_option linter.unusedSimpArgs false
set_option linter.defProp false
open Eng Go.RowKit
set_option linter.unusedVariables false
set_option linter.unusedSimpArgs false

abbrev faceD (t4 t5 : Value) : Deferred := { target := .fn (.func 142) #[], args := #[t4, t5] }
/-- The panic that the package raises. -/
abbrev refusedE (e : Int) : PanicEntry := { v := .iface 174 (.int .i64 e), recovered := false }
theorem face_plain : plainB Tryz.prog 142 = true := by kernel_rfl
theorem face_idle (p q : Addr) (w : World) : CallsD Tryz.prog 142 #[.pointer (some p), .pointer (some q)] .returning w (fun e u' w' => e = .returned (.tuple #[]) ∧ u' = .returning ∧ w = w') := by
  refine S_fix_face_dok ?_
  simp only [S_fix_face, recV, recM, e_nil Tryz.underlying20, rs]
  simp
/-- No panic: the results are read out of their cells. -/
theorem door_ok {w0 w : World} {L : List Ent} (i j : Nat) {b1 b2 : Nat} {n e : Int} (h : Own w0 w L) (h1 : L[i]? = some (.cells b1 [.int .i64 n] 2)) (h2 : L[j]? = some (.cells b2 [.int .i64 e] 23)) (K : Ending → World → Prop)
    (hk : ∀ w', Below w0.heap.size w0 w' → K (.returned (.tuple #[.int .i64 n, .int .i64 e])) w') :
    Leave Tryz.prog [.cell (.pointer (some ⟨b1, 0, none⟩)) 2, .cell (.pointer (some ⟨b2, 0, none⟩)) 23] K [faceD (.pointer (some ⟨b1, 0, none⟩)) (.pointer (some ⟨b2, 0, none⟩))] .returning w := by
  refine leave_func (by simp) face_plain ((face_idle _ _ w).mono ?_)
  rintro e' u' w' ⟨rfl, rfl, rfl⟩
  exact ret_cell2 (by kernel_rfl) (by kernel_rfl) (h.cell i h1 0 rfl) (h.cell j h2 0 rfl) (hk _ h.done)
/-- A refusal: zero and the error. -/
theorem door_bad {w0 w : World} {b1 b2 : Nat} {n e0 e : Int} (h : Own w0 w [.cells b2 [.int .i64 e0] 23, .cells b1 [.int .i64 n] 2]) (K : Ending → World → Prop)
    (hk : ∀ w', Below w0.heap.size w0 w' → K (.returned (.tuple #[.int .i64 0, .int .i64 e])) w') :
    Leave Tryz.prog [.cell (.pointer (some ⟨b1, 0, none⟩)) 2, .cell (.pointer (some ⟨b2, 0, none⟩)) 23] K [faceD (.pointer (some ⟨b1, 0, none⟩)) (.pointer (some ⟨b2, 0, none⟩))] (.panicking [refusedE e]) w := by
  refine leave_func (by simp) face_plain (S_fix_face_dok ?_)
  simp only [S_fix_face, recV, recM, e_some Tryz.underlying20, rs, t_hit (show notIface Tryz.prog 174 = true by kernel_rfl),
    x_ext (show [Value.int .i64 e, Value.bool true][1]? = some (Value.bool true) from rfl), x_ext (show [Value.int .i64 e, Value.bool true][0]? = some (Value.int .i64 e) from rfl)]
  refine o_store 1 h rfl (by kernel_rfl) rfl (by simp) fun w1 h1 => ?_
  refine o_store 0 h1 rfl (by kernel_rfl) rfl (by simp) fun w2 h2 => ?_
  exact ret_cell2 (by kernel_rfl) (by kernel_rfl) (h2.cell 1 rfl 0 rfl) (h2.cell 0 rfl 0 rfl) (hk _ h2.done)

abbrev pair (x : Int × Int) : Value := .tuple #[.int .i64 x.1, .int .i64 x.2]
theorem okB_bd {n : Int} (h : Fx.okB n = true) : -1073741824 ≤ n ∧ n ≤ 1073741824 := by simpa [Fx.okB] using h
theorem mul_bd {a b m k : Int} (ha : -m ≤ a ∧ a ≤ m) (hb : -k ≤ b ∧ b ≤ k) (hm : 0 ≤ m) : -(m * k) ≤ a * b ∧ a * b ≤ m * k := by
  have h1 : a.natAbs ≤ m.toNat := by omega
  have h2 : b.natAbs ≤ k.toNat := by omega
  have h3 : (a * b).natAbs ≤ (m * k).natAbs := by
    rw [Int.natAbs_mul, Int.natAbs_mul]
    exact Nat.mul_le_mul (by omega) (by omega)
  have h4 : 0 ≤ m * k := Int.mul_nonneg hm (by omega)
  omega
theorem mul_ok {a b : Int} (ha : Fx.okB a = true) (hb : Fx.okB b = true) : -1152921504606846976 ≤ a * b ∧ a * b ≤ 1152921504606846976 := mul_bd (m := 1073741824) (k := 1073741824) (by have := okB_bd ha; omega) (by have := okB_bd hb; omega) (by omega)

theorem sum_take (zs : List Int) (k : Nat) (h : k < zs.length) : (zs.take (k + 1)).sum = (zs.take k).sum + zs[k] := by
  rw [List.take_succ_eq_append_getElem h, List.sum_append]; simp
theorem sum_bd (zs : List Int) (h : zs.all Fx.okB = true) : -(1073741824 * (zs.length : Int)) ≤ zs.sum ∧ zs.sum ≤ 1073741824 * (zs.length : Int) := by
  induction zs with
  | nil => simp
  | cons a t ih =>
    simp only [List.all_cons, Bool.and_eq_true] at h
    have := ih h.2
    have := okB_bd h.1
    simp only [List.sum_cons, List.length_cons]
    push_cast
    omega
end Go.Proofs.YtgffladaenimmaaGreatDoor
/- Code in continuation form, by program (gen.py): 13 functions. -/
namespace Go.Proofs.YtgffladaenimmaaGreatDoor
set_option linter.unusedVariables false
set_option linter.unusedSimpArgs false
set_option linter.defProp false
set_option linter.unusedVariables false
set_option maxRecDepth 20000
open Eng

/- strings.HasPrefix -/
def S_strings_HasPrefix (t0 t1 : Value) (w : World) (K : Ending → World → Prop) : Prop :=
 CallX Tryz.prog 102 #[t0, t1] w (pk K) fun t7 w =>
 K (.returned t7) w
theorem S_strings_HasPrefix_eq (t0 t1 : Value) (w : World) (K : Ending → World → Prop) : wpX Tryz.prog 8 [] [] none (bodyOf Tryz.f75) (topQ Tryz.prog [.tmp 4] K) (startX [t0, t1]) [] w = S_strings_HasPrefix t0 t1 w K := by kernel_rfl
theorem S_strings_HasPrefix_ok {t0 t1 : Value} {w : World} {K : Ending → World → Prop} (h : S_strings_HasPrefix t0 t1 w K) : Calls Tryz.prog 75 #[t0, t1] w K :=
  calls_of_wpX Tryz.func75 rfl rfl rfl rfl (Eq.mpr (S_strings_HasPrefix_eq t0 t1 w K) h)

/- internal/stringslite.HasPrefix -/
def S_internal_stringslite_HasPrefix (t0 t1 : Value) (w : World) (K : Ending → World → Prop) : Prop :=
 DoX Tryz.prog (mB .len #[9] 3 #[false] #[t0]) w (pk K) fun t6 w =>
 DoX Tryz.prog (mB .len #[9] 3 #[false] #[t1]) w (pk K) fun t8 w =>
 DoX Tryz.prog (mBin .geq 3 t6 t8) w (pk K) fun t9 w =>
 GDo t9 true (fun E => E t0 w) w fun t11 w =>
 GDo t9 true (fun E => E t1 w) w fun t12 w =>
 GDo t9 true (fun E => DoX Tryz.prog (mB .len #[9] 3 #[false] #[t12]) w (pk K) E) w fun t13 w =>
 GDo t9 true (fun E => DoX Tryz.prog (mSlice 9 t11 none (some t13) none) w (pk K) E) w fun t14 w =>
 GDo t9 true (fun E => E t1 w) w fun t15 w =>
 GDo t9 true (fun E => DoX Tryz.prog (mEq .eql 9 (.tmp 14) (.tmp 15) t14 t15) w (pk K) E) w fun t16 w =>
 DoX Tryz.prog (mPick t9 t16 (.bool false)) w (pk K) fun t17 w =>
 K (.returned t17) w
theorem S_internal_stringslite_HasPrefix_eq (t0 t1 : Value) (w : World) (K : Ending → World → Prop) : wpX Tryz.prog 18 [] [] none (bodyOf Tryz.f102) (topQ Tryz.prog [.tmp 4] K) (startX [t0, t1]) [] w = S_internal_stringslite_HasPrefix t0 t1 w K := by kernel_rfl
theorem S_internal_stringslite_HasPrefix_ok {t0 t1 : Value} {w : World} {K : Ending → World → Prop} (h : S_internal_stringslite_HasPrefix t0 t1 w K) : Calls Tryz.prog 102 #[t0, t1] w K :=
  calls_of_wpX Tryz.func102 rfl rfl rfl rfl (Eq.mpr (S_internal_stringslite_HasPrefix_eq t0 t1 w K) h)

/- strings.Cut -/
def S_strings_Cut (t0 t1 : Value) (w : World) (K : Ending → World → Prop) : Prop :=
 CallX Tryz.prog 97 #[t0, t1] w (pk K) fun t9 w =>
 DoX Tryz.prog (mExt t9 0) w (pk K) fun t10 w =>
 DoX Tryz.prog (mExt t9 1) w (pk K) fun t11 w =>
 DoX Tryz.prog (mExt t9 2) w (pk K) fun t12 w =>
 K (.returned (.tuple #[t10, t11, t12])) w
theorem S_strings_Cut_eq (t0 t1 : Value) (w : World) (K : Ending → World → Prop) : wpX Tryz.prog 13 [] [] none (bodyOf Tryz.f57) (topQ Tryz.prog [.tmp 4, .tmp 5, .tmp 6] K) (startX [t0, t1]) [] w = S_strings_Cut t0 t1 w K := by kernel_rfl
theorem S_strings_Cut_ok {t0 t1 : Value} {w : World} {K : Ending → World → Prop} (h : S_strings_Cut t0 t1 w K) : Calls Tryz.prog 57 #[t0, t1] w K :=
  calls_of_wpX Tryz.func57 rfl rfl rfl rfl (Eq.mpr (S_strings_Cut_eq t0 t1 w K) h)

/- internal/stringslite.Cut -/
def S_internal_stringslite_Cut (t0 t1 : Value) (w : World) (K : Ending → World → Prop) : Prop :=
 CallX Tryz.prog 101 #[t0, t1] w (pk K) fun t10 w =>
 DoX Tryz.prog (mBin .geq 3 t10 (.int .i64 0)) w (pk K) fun t12 w =>
 IfX t12 (QuietX w (fun C1 =>
 QDo Tryz.prog C1 (mSlice 9 t0 none (some t10) none) fun t15 =>
 QDo Tryz.prog C1 (mB .len #[9] 3 #[false] #[t1]) fun t19 =>
 QDo Tryz.prog C1 (mBin .add 3 t10 t19) fun t20 =>
 QDo Tryz.prog C1 (mSlice 9 t0 (some t20) none none) fun t21 =>
 ∀ w, C1 w →
 K (.returned (.tuple #[t15, t21, (.bool true)])) w)) (K (.returned (.tuple #[t0, (.string ⟨#[]⟩), (.bool false)])) w)
theorem S_internal_stringslite_Cut_eq (t0 t1 : Value) (w : World) (K : Ending → World → Prop) : wpX Tryz.prog 23 [] [] none (bodyOf Tryz.f97) (topQ Tryz.prog [.tmp 4, .tmp 5, .tmp 6] K) (startX [t0, t1]) [] w = S_internal_stringslite_Cut t0 t1 w K := by kernel_rfl
theorem S_internal_stringslite_Cut_ok {t0 t1 : Value} {w : World} {K : Ending → World → Prop} (h : S_internal_stringslite_Cut t0 t1 w K) : Calls Tryz.prog 97 #[t0, t1] w K :=
  calls_of_wpX Tryz.func97 rfl rfl rfl rfl (Eq.mpr (S_internal_stringslite_Cut_eq t0 t1 w K) h)

/- internal/stringslite.IndexByte -/
def S_internal_stringslite_IndexByte (t0 t1 : Value) (w : World) (K : Ending → World → Prop) : Prop :=
 DoX Tryz.prog (mCallV (.func (.func 161) #[] #[]) #[t0, t1]) w (pk K) fun t7 w =>
 K (.returned t7) w
theorem S_internal_stringslite_IndexByte_eq (t0 t1 : Value) (w : World) (K : Ending → World → Prop) : wpX Tryz.prog 8 [] [] none (bodyOf Tryz.f130) (topQ Tryz.prog [.tmp 4] K) (startX [t0, t1]) [] w = S_internal_stringslite_IndexByte t0 t1 w K := by kernel_rfl
theorem S_internal_stringslite_IndexByte_ok {t0 t1 : Value} {w : World} {K : Ending → World → Prop} (h : S_internal_stringslite_IndexByte t0 t1 w K) : Calls Tryz.prog 130 #[t0, t1] w K :=
  calls_of_wpX Tryz.func130 rfl rfl rfl rfl (Eq.mpr (S_internal_stringslite_IndexByte_eq t0 t1 w K) h)

/- internal/stringslite.Index -/
def S_internal_stringslite_Index_1 (t0 t1 t5 t7 t8 t9 t10 : Value) (w : World) (N1 : List Value → World → Prop) (K : Ending → World → Prop) : Prop :=
 DoX Tryz.prog (mBin .add 3 t8 (.int .i64 1)) w (pk K) fun t80 w =>
 DoX Tryz.prog (mIx 9 t0 t80) w (pk K) fun t81 w =>
 DoX Tryz.prog (mEq .eql 5 (.tmp 81) (.tmp 82) t81 t7) w (pk K) fun t83 w =>
 GDo t83 true (fun E => E t0 w) w fun t85 w =>
 GDo t83 true (fun E => E t8 w) w fun t86 w =>
 GDo t83 true (fun E => E t8 w) w fun t87 w =>
 GDo t83 true (fun E => E t5 w) w fun t88 w =>
 GDo t83 true (fun E => DoX Tryz.prog (mBin .add 3 t87 t88) w (pk K) E) w fun t89 w =>
 GDo t83 true (fun E => DoX Tryz.prog (mSlice 9 t85 (some t86) (some t89) none) w (pk K) E) w fun t90 w =>
 GDo t83 true (fun E => E t1 w) w fun t91 w =>
 GDo t83 true (fun E => DoX Tryz.prog (mEq .eql 9 (.tmp 90) (.tmp 91) t90 t91) w (pk K) E) w fun t92 w =>
 DoX Tryz.prog (mPick t83 t92 (.bool false)) w (pk K) fun t93 w =>
 IfX t93 (K (.returned t8) w) (DoX Tryz.prog (mBin .add 3 t8 (.int .i64 1)) w (pk K) fun t96 w =>
 DoX Tryz.prog (mBin .add 3 t10 (.int .i64 1)) w (pk K) fun t98 w =>
 DoX Tryz.prog (mLoad 3 (.pointer (some ⟨1, 0, none⟩))) w (pk K) fun t100 w =>
 DoX Tryz.prog (mBin .leq 3 t5 t100) w (pk K) fun t101 w =>
 GDo t101 true (fun E => E t98 w) w fun t103 w =>
 GDo t101 true (fun E => E t96 w) w fun t104 w =>
 GDo t101 true (fun E => CallX Tryz.prog 132 #[t104] w (pk K) E) w fun t105 w =>
 GDo t101 true (fun E => DoX Tryz.prog (mBin .gtr 3 t103 t105) w (pk K) E) w fun t106 w =>
 DoX Tryz.prog (mPick t101 t106 (.bool false)) w (pk K) fun t107 w =>
 IfX t107 (DoX Tryz.prog (mSlice 9 t0 (some t96) none none) w (pk K) fun t110 w =>
 DoX Tryz.prog (mCallV (.func (.func 131) #[] #[]) #[t110, t1]) w (pk K) fun t112 w =>
 DoX Tryz.prog (mBin .geq 3 t112 (.int .i64 0)) w (pk K) fun t114 w =>
 IfX t114 (DoX Tryz.prog (mBin .add 3 t112 t96) w (pk K) fun t117 w =>
 K (.returned t117) w) (K (.returned (.int .i64 (-1))) w)) (DoX Tryz.prog (mLoad 3 (.pointer (some ⟨1, 0, none⟩))) w (pk K) fun t119 w =>
 DoX Tryz.prog (mBin .gtr 3 t5 t119) w (pk K) fun t120 w =>
 GDo t120 true (fun E => E t98 w) w fun t122 w =>
 GDo t120 true (fun E => E t96 w) w fun t123 w =>
 GDo t120 true (fun E => DoX Tryz.prog (mBin .shr 3 t123 (.int .u64 4)) w (pk K) E) w fun t124 w =>
 GDo t120 true (fun E => DoX Tryz.prog (mBin .add 3 (.int .i64 4) t124) w (pk K) E) w fun t125 w =>
 GDo t120 true (fun E => DoX Tryz.prog (mBin .geq 3 t122 t125) w (pk K) E) w fun t126 w =>
 DoX Tryz.prog (mPick t120 t126 (.bool false)) w (pk K) fun t127 w =>
 GDo t127 true (fun E => E t96 w) w fun t129 w =>
 GDo t127 true (fun E => E t9 w) w fun t130 w =>
 GDo t127 true (fun E => DoX Tryz.prog (mBin .lss 3 t129 t130) w (pk K) E) w fun t131 w =>
 DoX Tryz.prog (mPick t127 t131 (.bool false)) w (pk K) fun t132 w =>
 IfX t132 (DoX Tryz.prog (mSlice 9 t0 (some t96) none none) w (pk K) fun t135 w =>
 CallX Tryz.prog 133 #[t135, t1] w (pk K) fun t137 w =>
 DoX Tryz.prog (mBin .lss 3 t137 (.int .i64 0)) w (pk K) fun t139 w =>
 IfX t139 (K (.returned (.int .i64 (-1))) w) (DoX Tryz.prog (mBin .add 3 t96 t137) w (pk K) fun t142 w =>
 K (.returned t142) w)) (N1 [t96, t98] w)))
def S_internal_stringslite_Index_0 (t0 t1 t5 t6 t7 t8 t9 t10 : Value) (w : World) (N1 : List Value → World → Prop) (K : Ending → World → Prop) : Prop :=
 DoX Tryz.prog (mBin .lss 3 t8 t9) w (pk K) fun t59 w =>
 IfX t59 (JoinX (fun J2 =>
 DoX Tryz.prog (mIx 9 t0 t8) w (pk K) fun t62 w =>
 DoX Tryz.prog (mEq .neq 5 (.tmp 62) (.tmp 63) t62 t6) w (pk K) fun t64 w =>
 IfX t64 (DoX Tryz.prog (mBin .add 3 t8 (.int .i64 1)) w (pk K) fun t67 w =>
 DoX Tryz.prog (mSlice 9 t0 (some t67) (some t9) none) w (pk K) fun t69 w =>
 CallX Tryz.prog 130 #[t69, t6] w (pk K) fun t71 w =>
 DoX Tryz.prog (mBin .lss 3 t71 (.int .i64 0)) w (pk K) fun t73 w =>
 IfX t73 (K (.returned (.int .i64 (-1))) w) (DoX Tryz.prog (mBin .add 3 t71 (.int .i64 1)) w (pk K) fun t76 w =>
 DoX Tryz.prog (mBin .add 3 t8 t76) w (pk K) fun t77 w =>
 J2 [t77] w)) (J2 [t8] w)) (fun vs2 w => ∀ _ : Sg, S_internal_stringslite_Index_1 t0 t1 t5 t7 (vs2.getD 0 undef) t9 t10 w N1 K)) (K (.returned (.int .i64 (-1))) w)
def S_internal_stringslite_Index (t0 t1 : Value) (w : World) (K : Ending → World → Prop) : Prop :=
 DoX Tryz.prog (mB .len #[9] 3 #[false] #[t1]) w (pk K) fun t15 w =>
 DoX Tryz.prog (mEq .eql 3 (.tmp 17) (.const (.int .i64 0)) t15 (.int .i64 0)) w (pk K) fun t18 w =>
 GDo t18 false (fun E => E t1 w) w fun t20 w =>
 GDo t18 false (fun E => E t0 w) w fun t21 w =>
 GDo t18 false (fun E => DoX Tryz.prog (mEq .eql 9 (.tmp 20) (.tmp 21) t20 t21) w (pk K) E) w fun t22 w =>
 DoX Tryz.prog (mPick t18 (.bool true) t22) w (pk K) fun t23 w =>
 IfX t23 (K (.returned (.int .i64 0)) w) (DoX Tryz.prog (mEq .eql 3 (.tmp 25) (.const (.int .i64 1)) t15 (.int .i64 1)) w (pk K) fun t26 w =>
 IfX t26 (DoX Tryz.prog (mIx 9 t1 (.int .i64 0)) w (pk K) fun t29 w =>
 CallX Tryz.prog 130 #[t0, t29] w (pk K) fun t30 w =>
 K (.returned t30) w) (DoX Tryz.prog (mB .len #[9] 3 #[false] #[t0]) w (pk K) fun t34 w =>
 DoX Tryz.prog (mBin .geq 3 t15 t34) w (pk K) fun t35 w =>
 IfX t35 (K (.returned (.int .i64 (-1))) w) (DoX Tryz.prog (mLoad 3 (.pointer (some ⟨1, 0, none⟩))) w (pk K) fun t38 w =>
 DoX Tryz.prog (mBin .leq 3 t15 t38) w (pk K) fun t39 w =>
 GDo t39 true (fun E => E t0 w) w fun t41 w =>
 GDo t39 true (fun E => DoX Tryz.prog (mB .len #[9] 3 #[false] #[t41]) w (pk K) E) w fun t42 w =>
 GDo t39 true (fun E => DoX Tryz.prog (mBin .leq 3 t42 (.int .i64 64)) w (pk K) E) w fun t43 w =>
 DoX Tryz.prog (mPick t39 t43 (.bool false)) w (pk K) fun t44 w =>
 IfX t44 (DoX Tryz.prog (mCallV (.func (.func 131) #[] #[]) #[t0, t1]) w (pk K) fun t47 w =>
 K (.returned t47) w) (DoX Tryz.prog (mIx 9 t1 (.int .i64 0)) w (pk K) fun t49 w =>
 DoX Tryz.prog (mIx 9 t1 (.int .i64 1)) w (pk K) fun t51 w =>
 DoX Tryz.prog (mB .len #[9] 3 #[false] #[t0]) w (pk K) fun t53 w =>
 DoX Tryz.prog (mBin .sub 3 t53 t15) w (pk K) fun t55 w =>
 DoX Tryz.prog (mBin .add 3 t55 (.int .i64 1)) w (pk K) fun t56 w =>
 LoopX [(.int .i64 0), (.int .i64 0)] w (fun vs1 w N1 => ∀ _ : Sg, S_internal_stringslite_Index_0 t0 t1 t15 t49 t51 (vs1.getD 0 undef) t56 (vs1.getD 1 undef) w N1 K)))))
theorem S_internal_stringslite_Index_eq (t0 t1 : Value) (w : World) (K : Ending → World → Prop) : wpX Tryz.prog 143 [(21, [8])] [(15, [8, 10])] none (bodyOf Tryz.f101) (topQ Tryz.prog [.tmp 4] K) (startX [t0, t1]) [] w = S_internal_stringslite_Index t0 t1 w K := by kernel_rfl
theorem S_internal_stringslite_Index_ok {t0 t1 : Value} {w : World} {K : Ending → World → Prop} (h : S_internal_stringslite_Index t0 t1 w K) : Calls Tryz.prog 101 #[t0, t1] w K :=
  calls_of_wpX Tryz.func101 rfl rfl rfl rfl (Eq.mpr (S_internal_stringslite_Index_eq t0 t1 w K) h)

/- strings.TrimRight -/
def S_strings_TrimRight (t0 t1 : Value) (w : World) (K : Ending → World → Prop) : Prop :=
 DoX Tryz.prog (mEq .eql 9 (.tmp 7) (.const (.string ⟨#[]⟩)) t0 (.string ⟨#[]⟩)) w (pk K) fun t8 w =>
 GDo t8 false (fun E => E t1 w) w fun t10 w =>
 GDo t8 false (fun E => DoX Tryz.prog (mEq .eql 9 (.tmp 10) (.const (.string ⟨#[]⟩)) t10 (.string ⟨#[]⟩)) w (pk K) E) w fun t11 w =>
 DoX Tryz.prog (mPick t8 (.bool true) t11) w (pk K) fun t12 w =>
 IfX t12 (K (.returned t0) w) (DoX Tryz.prog (mB .len #[9] 3 #[false] #[t1]) w (pk K) fun t15 w =>
 DoX Tryz.prog (mEq .eql 3 (.tmp 15) (.const (.int .i64 1)) t15 (.int .i64 1)) w (pk K) fun t16 w =>
 GDo t16 true (fun E => E t1 w) w fun t18 w =>
 GDo t16 true (fun E => DoX Tryz.prog (mIx 9 t18 (.int .i64 0)) w (pk K) E) w fun t19 w =>
 GDo t16 true (fun E => DoX Tryz.prog (mBin .lss 5 t19 (.int .u8 128)) w (pk K) E) w fun t20 w =>
 DoX Tryz.prog (mPick t16 t20 (.bool false)) w (pk K) fun t21 w =>
 IfX t21 (DoX Tryz.prog (mIx 9 t1 (.int .i64 0)) w (pk K) fun t24 w =>
 CallX Tryz.prog 169 #[t0, t24] w (pk K) fun t25 w =>
 K (.returned t25) w) (CallX Tryz.prog 166 #[t1] w (pk K) fun t28 w =>
 DoX Tryz.prog (mExt t28 0) w (pk K) fun t29 w =>
 DoX Tryz.prog (mExt t28 1) w (pk K) fun t30 w =>
 DoX Tryz.prog (mAlloc 169) w (pk K) fun t5 w =>
 DoX Tryz.prog (mStore 169 t5 t29) w (pk K) fun _ w =>
 IfX t30 (CallX Tryz.prog 170 #[t0, t5] w (pk K) fun t33 w =>
 K (.returned t33) w) (CallX Tryz.prog 171 #[t0, t1] w (pk K) fun t36 w =>
 K (.returned t36) w)))
theorem S_strings_TrimRight_eq (t0 t1 : Value) (w : World) (K : Ending → World → Prop) : wpX Tryz.prog 37 [] [] none (bodyOf Tryz.f144) (topQ Tryz.prog [.tmp 4] K) (startX [t0, t1]) [] w = S_strings_TrimRight t0 t1 w K := by kernel_rfl
theorem S_strings_TrimRight_ok {t0 t1 : Value} {w : World} {K : Ending → World → Prop} (h : S_strings_TrimRight t0 t1 w K) : Calls Tryz.prog 144 #[t0, t1] w K :=
  calls_of_wpX Tryz.func144 rfl rfl rfl rfl (Eq.mpr (S_strings_TrimRight_eq t0 t1 w K) h)

/- strings.trimRightByte -/
def S_strings_trimRightByte_0 (t0 t1 : Value) (w : World) (N1 : List Value → World → Prop) (K : Ending → World → Prop) : Prop :=
 DoX Tryz.prog (mB .len #[9] 3 #[false] #[t0]) w (pk K) fun t6 w =>
 DoX Tryz.prog (mBin .gtr 3 t6 (.int .i64 0)) w (pk K) fun t7 w =>
 GDo t7 true (fun E => E t0 w) w fun t9 w =>
 GDo t7 true (fun E => E t0 w) w fun t10 w =>
 GDo t7 true (fun E => DoX Tryz.prog (mB .len #[9] 3 #[false] #[t10]) w (pk K) E) w fun t11 w =>
 GDo t7 true (fun E => DoX Tryz.prog (mBin .sub 3 t11 (.int .i64 1)) w (pk K) E) w fun t12 w =>
 GDo t7 true (fun E => DoX Tryz.prog (mIx 9 t9 t12) w (pk K) E) w fun t13 w =>
 GDo t7 true (fun E => E t1 w) w fun t14 w =>
 GDo t7 true (fun E => DoX Tryz.prog (mEq .eql 5 (.tmp 13) (.tmp 14) t13 t14) w (pk K) E) w fun t15 w =>
 DoX Tryz.prog (mPick t7 t15 (.bool false)) w (pk K) fun t16 w =>
 IfX t16 (DoX Tryz.prog (mB .len #[9] 3 #[false] #[t0]) w (pk K) fun t19 w =>
 DoX Tryz.prog (mBin .sub 3 t19 (.int .i64 1)) w (pk K) fun t20 w =>
 DoX Tryz.prog (mSlice 9 t0 none (some t20) none) w (pk K) fun t21 w =>
 N1 [t21] w) (K (.returned t0) w)
def S_strings_trimRightByte (t0 t1 : Value) (w : World) (K : Ending → World → Prop) : Prop :=
 LoopX [t0] w (fun vs1 w N1 => ∀ _ : Sg, S_strings_trimRightByte_0 (vs1.getD 0 undef) t1 w N1 K)
theorem S_strings_trimRightByte_eq (t0 t1 : Value) (w : World) (K : Ending → World → Prop) : wpX Tryz.prog 23 [] [(1, [0])] none (bodyOf Tryz.f169) (topQ Tryz.prog [.tmp 4] K) (startX [t0, t1]) [] w = S_strings_trimRightByte t0 t1 w K := by kernel_rfl
theorem S_strings_trimRightByte_ok {t0 t1 : Value} {w : World} {K : Ending → World → Prop} (h : S_strings_trimRightByte t0 t1 w K) : Calls Tryz.prog 169 #[t0, t1] w K :=
  calls_of_wpX Tryz.func169 rfl rfl rfl rfl (Eq.mpr (S_strings_trimRightByte_eq t0 t1 w K) h)

/- strings.Trim -/
def S_strings_Trim (t0 t1 : Value) (w : World) (K : Ending → World → Prop) : Prop :=
 DoX Tryz.prog (mEq .eql 9 (.tmp 7) (.const (.string ⟨#[]⟩)) t0 (.string ⟨#[]⟩)) w (pk K) fun t8 w =>
 GDo t8 false (fun E => E t1 w) w fun t10 w =>
 GDo t8 false (fun E => DoX Tryz.prog (mEq .eql 9 (.tmp 10) (.const (.string ⟨#[]⟩)) t10 (.string ⟨#[]⟩)) w (pk K) E) w fun t11 w =>
 DoX Tryz.prog (mPick t8 (.bool true) t11) w (pk K) fun t12 w =>
 IfX t12 (K (.returned t0) w) (DoX Tryz.prog (mB .len #[9] 3 #[false] #[t1]) w (pk K) fun t15 w =>
 DoX Tryz.prog (mEq .eql 3 (.tmp 15) (.const (.int .i64 1)) t15 (.int .i64 1)) w (pk K) fun t16 w =>
 GDo t16 true (fun E => E t1 w) w fun t18 w =>
 GDo t16 true (fun E => DoX Tryz.prog (mIx 9 t18 (.int .i64 0)) w (pk K) E) w fun t19 w =>
 GDo t16 true (fun E => DoX Tryz.prog (mBin .lss 5 t19 (.int .u8 128)) w (pk K) E) w fun t20 w =>
 DoX Tryz.prog (mPick t16 t20 (.bool false)) w (pk K) fun t21 w =>
 IfX t21 (QuietX w (fun C1 =>
 QDo Tryz.prog C1 (mIx 9 t1 (.int .i64 0)) fun t24 =>
 QCall Tryz.prog C1 169 #[t0, t24] fun t25 =>
 QDo Tryz.prog C1 (mIx 9 t1 (.int .i64 0)) fun t27 =>
 QCall Tryz.prog C1 165 #[t25, t27] fun t28 =>
 ∀ w, C1 w →
 K (.returned t28) w)) (CallX Tryz.prog 166 #[t1] w (pk K) fun t31 w =>
 DoX Tryz.prog (mExt t31 0) w (pk K) fun t32 w =>
 DoX Tryz.prog (mExt t31 1) w (pk K) fun t33 w =>
 DoX Tryz.prog (mAlloc 169) w (pk K) fun t5 w =>
 DoX Tryz.prog (mStore 169 t5 t32) w (pk K) fun _ w =>
 IfX t33 (CallX Tryz.prog 170 #[t0, t5] w (pk K) fun t36 w =>
 CallX Tryz.prog 167 #[t36, t5] w (pk K) fun t37 w =>
 K (.returned t37) w) (CallX Tryz.prog 171 #[t0, t1] w (pk K) fun t40 w =>
 CallX Tryz.prog 168 #[t40, t1] w (pk K) fun t42 w =>
 K (.returned t42) w)))
theorem S_strings_Trim_eq (t0 t1 : Value) (w : World) (K : Ending → World → Prop) : wpX Tryz.prog 43 [] [] none (bodyOf Tryz.f141) (topQ Tryz.prog [.tmp 4] K) (startX [t0, t1]) [] w = S_strings_Trim t0 t1 w K := by kernel_rfl
theorem S_strings_Trim_ok {t0 t1 : Value} {w : World} {K : Ending → World → Prop} (h : S_strings_Trim t0 t1 w K) : Calls Tryz.prog 141 #[t0, t1] w K :=
  calls_of_wpX Tryz.func141 rfl rfl rfl rfl (Eq.mpr (S_strings_Trim_eq t0 t1 w K) h)

/- strings.makeASCIISet -/
def S_strings_makeASCIISet_0 (t0 t2 t3 t4 : Value) (w : World) (N1 : List Value → World → Prop) (K : Ending → World → Prop) : Prop :=
 DoX Tryz.prog (mB .len #[9] 3 #[false] #[t0]) w (pk K) fun t8 w =>
 DoX Tryz.prog (mBin .lss 3 t4 t8) w (pk K) fun t9 w =>
 IfX t9 (DoX Tryz.prog (mIx 9 t0 t4) w (pk K) fun t14 w =>
 DoX Tryz.prog (mBin .geq 5 t14 (.int .u8 128)) w (pk K) fun t16 w =>
 IfX t16 (DoX Tryz.prog (mLoad 169 t2) w (pk K) fun t17 w =>
 DoX Tryz.prog (mStore 169 t2 t17) w (pk K) fun _ w =>
 RetX Tryz.prog [.cell t2 169, .val (.bool false)] w K) (DoX Tryz.prog (mIA 169 t2 t14) w (pk K) fun t19 w =>
 DoX Tryz.prog (mStore 4 t19 (.bool true)) w (pk K) fun _ w =>
 DoX Tryz.prog (mBin .add 3 t4 (.int .i64 1)) w (pk K) fun t11 w =>
 N1 [t3, t11] w)) (DoX Tryz.prog (mLoad 169 t2) w (pk K) fun t20 w =>
 DoX Tryz.prog (mStore 169 t2 t20) w (pk K) fun _ w =>
 RetX Tryz.prog [.cell t2 169, .val (.bool true)] w K)
def S_strings_makeASCIISet (t0 : Value) (w : World) (K : Ending → World → Prop) : Prop :=
 DoX Tryz.prog (mAlloc 169) w (pk K) fun t2 w =>
 LoopX [(.bool false), (.int .i64 0)] w (fun vs1 w N1 => ∀ _ : Sg, S_strings_makeASCIISet_0 t0 t2 (vs1.getD 0 undef) (vs1.getD 1 undef) w N1 K)
theorem S_strings_makeASCIISet_eq (t0 : Value) (w : World) (K : Ending → World → Prop) : wpX Tryz.prog 21 [] [(2, [3, 4])] none (bodyOf Tryz.f166) (topQ Tryz.prog [.cell 2 169, .tmp 3] K) (startX [t0]) [] w = S_strings_makeASCIISet t0 w K := by kernel_rfl
theorem S_strings_makeASCIISet_ok {t0 : Value} {w : World} {K : Ending → World → Prop} (h : S_strings_makeASCIISet t0 w K) : Calls Tryz.prog 166 #[t0] w K :=
  calls_of_wpX Tryz.func166 rfl rfl rfl rfl (Eq.mpr (S_strings_makeASCIISet_eq t0 w K) h)

/- strings.trimRightASCII -/
def S_strings_trimRightASCII_1 (t0 : Value) (w : World) (K : Ending → World → Prop) : Prop :=
 K (.returned t0) w
def S_strings_trimRightASCII_0 (t0 t1 : Value) (w : World) (J1 N2 : List Value → World → Prop) (K : Ending → World → Prop) : Prop :=
 DoX Tryz.prog (mB .len #[9] 3 #[false] #[t0]) w (pk K) fun t6 w =>
 DoX Tryz.prog (mBin .gtr 3 t6 (.int .i64 0)) w (pk K) fun t7 w =>
 IfX t7 (DoX Tryz.prog (mB .len #[9] 3 #[false] #[t0]) w (pk K) fun t11 w =>
 DoX Tryz.prog (mBin .sub 3 t11 (.int .i64 1)) w (pk K) fun t12 w =>
 DoX Tryz.prog (mIx 9 t0 t12) w (pk K) fun t13 w =>
 CallX Tryz.prog 183 #[t1, t13] w (pk K) fun t14 w =>
 DoX Tryz.prog (mUn .not t14) w (pk K) fun t15 w =>
 IfX t15 (J1 [t0] w) (DoX Tryz.prog (mB .len #[9] 3 #[false] #[t0]) w (pk K) fun t18 w =>
 DoX Tryz.prog (mBin .sub 3 t18 (.int .i64 1)) w (pk K) fun t19 w =>
 DoX Tryz.prog (mSlice 9 t0 none (some t19) none) w (pk K) fun t20 w =>
 N2 [t20] w)) (J1 [t0] w)
def S_strings_trimRightASCII (t0 t1 : Value) (w : World) (K : Ending → World → Prop) : Prop :=
 JoinX (fun J1 =>
 LoopX [t0] w (fun vs2 w N2 => ∀ _ : Sg, S_strings_trimRightASCII_0 (vs2.getD 0 undef) t1 w J1 N2 K)) (fun vs1 w => ∀ _ : Sg, S_strings_trimRightASCII_1 (vs1.getD 0 undef) w K)
theorem S_strings_trimRightASCII_eq (t0 t1 : Value) (w : World) (K : Ending → World → Prop) : wpX Tryz.prog 22 [(4, [0])] [(1, [0])] none (bodyOf Tryz.f170) (topQ Tryz.prog [.tmp 4] K) (startX [t0, t1]) [] w = S_strings_trimRightASCII t0 t1 w K := by kernel_rfl
theorem S_strings_trimRightASCII_ok {t0 t1 : Value} {w : World} {K : Ending → World → Prop} (h : S_strings_trimRightASCII t0 t1 w K) : Calls Tryz.prog 170 #[t0, t1] w K :=
  calls_of_wpX Tryz.func170 rfl rfl rfl rfl (Eq.mpr (S_strings_trimRightASCII_eq t0 t1 w K) h)

/- strings.trimLeftASCII -/
def S_strings_trimLeftASCII_1 (t0 : Value) (w : World) (K : Ending → World → Prop) : Prop :=
 K (.returned t0) w
def S_strings_trimLeftASCII_0 (t0 t1 : Value) (w : World) (J1 N2 : List Value → World → Prop) (K : Ending → World → Prop) : Prop :=
 DoX Tryz.prog (mB .len #[9] 3 #[false] #[t0]) w (pk K) fun t6 w =>
 DoX Tryz.prog (mBin .gtr 3 t6 (.int .i64 0)) w (pk K) fun t7 w =>
 IfX t7 (DoX Tryz.prog (mIx 9 t0 (.int .i64 0)) w (pk K) fun t10 w =>
 CallX Tryz.prog 183 #[t1, t10] w (pk K) fun t11 w =>
 DoX Tryz.prog (mUn .not t11) w (pk K) fun t12 w =>
 IfX t12 (J1 [t0] w) (DoX Tryz.prog (mSlice 9 t0 (some (.int .i64 1)) none none) w (pk K) fun t14 w =>
 N2 [t14] w)) (J1 [t0] w)
def S_strings_trimLeftASCII (t0 t1 : Value) (w : World) (K : Ending → World → Prop) : Prop :=
 JoinX (fun J1 =>
 LoopX [t0] w (fun vs2 w N2 => ∀ _ : Sg, S_strings_trimLeftASCII_0 (vs2.getD 0 undef) t1 w J1 N2 K)) (fun vs1 w => ∀ _ : Sg, S_strings_trimLeftASCII_1 (vs1.getD 0 undef) w K)
theorem S_strings_trimLeftASCII_eq (t0 t1 : Value) (w : World) (K : Ending → World → Prop) : wpX Tryz.prog 16 [(4, [0])] [(1, [0])] none (bodyOf Tryz.f167) (topQ Tryz.prog [.tmp 4] K) (startX [t0, t1]) [] w = S_strings_trimLeftASCII t0 t1 w K := by kernel_rfl
theorem S_strings_trimLeftASCII_ok {t0 t1 : Value} {w : World} {K : Ending → World → Prop} (h : S_strings_trimLeftASCII t0 t1 w K) : Calls Tryz.prog 167 #[t0, t1] w K :=
  calls_of_wpX Tryz.func167 rfl rfl rfl rfl (Eq.mpr (S_strings_trimLeftASCII_eq t0 t1 w K) h)

/- (*strings.asciiSet).contains -/
def S_strings_asciiSet_contains (t0 t1 : Value) (w : World) (K : Ending → World → Prop) : Prop :=
 DoX Tryz.prog (mNil t0) w (pk K) fun t7 w =>
 DoX Tryz.prog (mIA 169 t7 t1) w (pk K) fun t8 w =>
 DoX Tryz.prog (mLoad 4 t8) w (pk K) fun t9 w =>
 K (.returned t9) w
theorem S_strings_asciiSet_contains_eq (t0 t1 : Value) (w : World) (K : Ending → World → Prop) : wpX Tryz.prog 10 [] [] none (bodyOf Tryz.f183) (topQ Tryz.prog [.tmp 4] K) (startX [t0, t1]) [] w = S_strings_asciiSet_contains t0 t1 w K := by kernel_rfl
theorem S_strings_asciiSet_contains_ok {t0 t1 : Value} {w : World} {K : Ending → World → Prop} (h : S_strings_asciiSet_contains t0 t1 w K) : Calls Tryz.prog 183 #[t0, t1] w K :=
  calls_of_wpX Tryz.func183 rfl rfl rfl rfl (Eq.mpr (S_strings_asciiSet_contains_eq t0 t1 w K) h)

end Go.Proofs.YtgffladaenimmaaGreatDoor
/- Contracts: strings.Cut at a separator of one byte; strings.HasPrefix, TrimRight, Trim in lists' words. -/
namespace Go.Proofs.YtgffladaenimmaaGreatDoor
set_option linter.unusedVariables false
set_option linter.unusedSimpArgs false
set_option linter.defProp false
open Eng Go.RowKit

theorem ix_cases (c : UInt8) : ∀ l : List UInt8, (Lib.indexByte l c = -1 ∧ l.takeWhile (fun x => x != c) = l ∧ l.dropWhile (fun x => x != c) = []) ∨
    ∃ i : Nat, Lib.indexByte l c = i ∧ i < l.length ∧ l.takeWhile (fun x => x != c) = l.take i ∧ l.dropWhile (fun x => x != c) = l.drop i
  | [] => .inl ⟨rfl, rfl, rfl⟩
  | b :: l => by
    by_cases h : b = c
    · subst h
      exact .inr ⟨0, by simp [Lib.indexByte], by simp, by simp, by simp⟩
    · have hb : (b == c) = false := by simpa using h
      have hb2 : (b != c) = true := by simpa using h
      rcases ix_cases c l with ⟨h1, h2, h3⟩ | ⟨i, h1, h2, h3, h4⟩
      · exact .inl ⟨by simp [Lib.indexByte, hb, h1], by simp [hb2, h2], by simp [hb2, h3]⟩
      · refine .inr ⟨i + 1, ?_, by simp; omega, by simp [hb2, h3], by simp [hb2, h4]⟩
        have e : ((i : Int) == -1) = false := by simp
        simp only [Lib.indexByte, hb, h1, e, Bool.false_eq_true, if_false]
        omega

theorem cut_ret (s : List UInt8) (c : UInt8) (w : World) (hs : s.length ≤ 4611686018427387904) : Ret Tryz.prog 57 #[.string ⟨s.toArray⟩, .string ⟨#[c]⟩] w
    (fun v w' => (∃ b, v = .tuple #[.string ⟨(s.takeWhile (fun x => x != c)).toArray⟩, .string ⟨((s.dropWhile (fun x => x != c)).drop 1).toArray⟩, .bool b]) ∧ Below w.heap.size w w') := by
  have inner : Ret Tryz.prog 97 #[.string ⟨s.toArray⟩, .string ⟨#[c]⟩] w
      (fun v w' => (∃ b, v = .tuple #[.string ⟨(s.takeWhile (fun x => x != c)).toArray⟩, .string ⟨((s.dropWhile (fun x => x != c)).drop 1).toArray⟩, .bool b]) ∧ Below w.heap.size w w') := by
    refine ret_of fun K hK => S_internal_stringslite_Cut_ok ?_
    unfold S_internal_stringslite_Cut
    refine c_any (Tryz.stringslite_Index_one ⟨s.toArray⟩ c w) ?_
    rintro e w' ⟨rfl, rfl⟩
    simp only [Cont, rs]
    rcases ix_cases c s with ⟨h1, h2, h3⟩ | ⟨i, h1, h2, h3, h4⟩
    · rw [h1]
      simp only [show ¬ ((0 : Int) ≤ -1) by omega, decide_false, rs]
      exact hK _ _ ⟨⟨false, by rw [h2, h3]; rfl⟩, Below.refl _ _⟩
    · rw [h1]
      have e0 : (0 : Int) ≤ (i : Int) := by omega
      simp only [e0, decide_true, rs]
      refine quiet (q_do (.string ⟨(s.take i).toArray⟩) (fun w => ?_) (q_do (.int .i64 1) (fun w => ?_) (q_do _ (fun w => r_add) (q_do (.string ⟨(s.drop (i + 1)).toArray⟩) (fun w => ?_) ?_))))
      · rw [run_upto Tryz.underlying9 (by omega) (by omega)]; simp
      · exact run_len (l := [c]) Tryz.underlying9
      · rw [wrap64_id (by omega) (by omega), run_from Tryz.underlying9 (by omega) (by omega)]
        rw [show ((i : Int) + 1).toNat = i + 1 by omega]
      · intro wc hw
        exact hK _ _ ⟨⟨true, by rw [h3, h4, List.drop_drop]⟩, hw⟩
  refine ret_of fun K hK => S_strings_Cut_ok ?_
  unfold S_strings_Cut
  refine c_ret inner ?_
  rintro v w' ⟨⟨b, rfl⟩, hb⟩
  simp only [ex]
  exact hK _ _ ⟨⟨b, rfl⟩, hb⟩

theorem trimRight_ret (s : List UInt8) (c : UInt8) (hc : c.toNat < 128) (w : World) (hs : s.length ≤ 9223372036854775807) : Ret Tryz.prog 144 #[.string ⟨s.toArray⟩, .string ⟨#[c]⟩] w
    (fun v w' => v = .string ⟨(Lib.trimRightB s c).toArray⟩ ∧ w = w') :=
  Calls.mono (Tryz.strings_TrimRight_one ⟨s.toArray⟩ c hc w (by rw [str_size]; exact hs)) (by rintro e w' ⟨rfl, rfl⟩; exact retK ⟨rfl, rfl⟩)
theorem hasPrefix_ret (s p : List UInt8) (w : World) : Ret Tryz.prog 75 #[.string ⟨s.toArray⟩, .string ⟨p.toArray⟩] w (fun v w' => v = .bool (p.isPrefixOf s) ∧ w = w') :=
  Calls.mono (Tryz.strings_HasPrefix ⟨s.toArray⟩ ⟨p.toArray⟩ w) (by rintro e w' ⟨rfl, rfl⟩; exact retK ⟨rfl, rfl⟩)
theorem trim_ret (s cs : List UInt8) (w : World) (hs : s.length ≤ 9223372036854775807) (hcs : cs.length < 4294967281) (ha : cs.all (fun c => decide (c.toNat < 128)) = true) : Ret Tryz.prog 141 #[.string ⟨s.toArray⟩, .string ⟨cs.toArray⟩] w
    (fun v w' => v = .string ⟨(Lib.trimS s cs).toArray⟩ ∧ Below w.heap.size w w') :=
  Calls.mono (Any.strings_Trim_laid Tryz.lays160 (by kernel_rfl) ⟨s.toArray⟩ ⟨cs.toArray⟩ w (by rw [str_size]; exact hs) (by rw [str_size]; exact hcs)
    (fun j b hj => by
      have := List.all_eq_true.1 ha b (List.mem_of_getElem? hj)
      simpa using this)) (by rintro e w' ⟨rfl, h⟩; exact retK ⟨rfl, h⟩)
end Go.Proofs.YtgffladaenimmaaGreatDoor
/- Contracts: Text (program and reference), digits, the reference's form. -/
namespace Go.Proofs.YtgffladaenimmaaGreatDoor
set_option linter.unusedVariables false
set_option linter.unusedSimpArgs false
set_option linter.defProp false
open Eng Go.RowKit
set_option linter.unusedVariables false
set_option linter.unusedSimpArgs false

theorem tr_snoc_zero (q : List UInt8) : Fx.tr (q ++ [48]) = Fx.tr q := Fx.tr_zeros q 1
theorem tr_snoc (q : List UInt8) (c : UInt8) (h : c ≠ 48) : Fx.tr (q ++ [c]) = q ++ [c] := by
  have hb : (c == 48) = false := by simpa using h
  simp [Fx.tr, Lib.trimRightB, hb]
theorem natAbs_mod {n : Int} (h : 0 ≤ n) : n.tmod 10000 = ((n.natAbs % 10000 : Nat) : Int) := by rw [Int.tmod_eq_emod_of_nonneg h]; omega
theorem natAbs_div {n : Int} (h : 0 ≤ n) : n.tdiv 10000 = ((n.natAbs / 10000 : Nat) : Int) := by rw [Int.tdiv_eq_ediv_of_nonneg h]; omega

theorem rwithin_ret (n : Int) (w : World) : Ret Tryz.prog 175 #[.int .i64 n] w (fun v w' => v = .bool (Fx.okB n) ∧ w = w') := by
  refine ret_of fun K hK => S_foliantref02_Within_ok ?_
  unfold S_foliantref02_Within
  by_cases h : -1073741824 ≤ n <;> simp only [rs, h, decide_true, decide_false] <;> exact hK _ _ ⟨by simp [Fx.okB, h], rfl⟩

def slen0 (vs : List Value) : Nat := match vs.getD 0 undef with | .string s => s.size | _ => 0
theorem slen0_mk {l : List UInt8} {t : List Value} : slen0 (.string ⟨l.toArray⟩ :: t) = l.length := by simp [slen0, str_size]

theorem digs_contains (c : UInt8) : ([48, 49, 50, 51, 52, 53, 54, 55, 56, 57] : List UInt8).contains c = Fx.isDig c := by
  rw [Bool.eq_iff_iff]
  simp [Fx.isDig, ← UInt8.toNat_inj]
  omega
theorem dropWhile_nil {p : UInt8 → Bool} : ∀ l : List UInt8, l.dropWhile p = [] ↔ l.all p = true
  | [] => by simp
  | c :: t => by
    by_cases h : p c = true
    · simp [h, dropWhile_nil t]
    · simp [h]
theorem dropWhile_all {p : UInt8 → Bool} : ∀ l : List UInt8, (l.dropWhile p).all p = l.all p
  | [] => rfl
  | c :: t => by
    by_cases h : p c = true
    · simp [h, dropWhile_all t]
    · simp [h]
theorem trimS_nil (l : List UInt8) : (Lib.trimS l [48, 49, 50, 51, 52, 53, 54, 55, 56, 57] = []) ↔ l.all Fx.isDig = true := by
  have e : (([48, 49, 50, 51, 52, 53, 54, 55, 56, 57] : List UInt8).contains ·) = Fx.isDig := funext digs_contains
  rw [Lib.trimS, Lib.trimLeftS, Lib.trimRightS]
  simp only [e]
  rw [dropWhile_nil, List.all_reverse, dropWhile_all, List.all_reverse]
theorem pdigits_ret (l : List UInt8) (w : World) (hl : l.length ≤ 9223372036854775807) : Ret Tryz.prog 143 #[.string ⟨l.toArray⟩] w (fun v w' => v = .bool (l.all Fx.isDig) ∧ Below w.heap.size w w') := by
  refine ret_of fun K hK => S_fix_digits_ok ?_
  unfold S_fix_digits
  refine c_ret (trim_ret l [48, 49, 50, 51, 52, 53, 54, 55, 56, 57] w hl (by decide) (by decide)) ?_
  rintro v w1 ⟨rfl, b1⟩
  change DoX _ (mEq .eql _ _ _ _ (.string ⟨([] : List UInt8).toArray⟩)) _ _ _
  rw [e_str]
  refine hK _ _ ⟨?_, b1⟩
  have := trimS_nil l
  by_cases h : l.all Fx.isDig = true
  · rw [h, decide_eq_true (this.2 h)]
  · rw [decide_eq_false (fun e => h (this.1 e))]; simpa using h
end Go.Proofs.YtgffladaenimmaaGreatDoor
/- Contracts: octet (White, Delim, Regular, Hex) and plain (Int, Real, Hex, Pad) of the program. -/
namespace Go.Proofs.YtgffladaenimmaaGreatDoor
set_option linter.unusedVariables false
set_option linter.unusedSimpArgs false
set_option linter.defProp false
open Eng Go.RowKit

/-- strconv's table of powers of ten is as it was laid. -/
abbrev Tb (w : World) : Prop := Lib.TabIs Tryz.prog w "internal/strconv.uint64pow10" .u64 Lib.pow10Tab

theorem indexByte_ret (l : List UInt8) (c : UInt8) (w : World) : Ret Tryz.prog 138 #[.string ⟨l.toArray⟩, .int .u8 c.toNat] w (fun v w' => v = .int .i64 (Lib.indexByte l c) ∧ w = w') := by
  refine Calls.mono (Tryz.strings_IndexByte ⟨l.toArray⟩ c.toNat w) ?_
  rintro e w' ⟨rfl, rfl⟩
  refine retK ⟨?_, rfl⟩
  simp
theorem white_ret (c : UInt8) (w : World) : Ret Tryz.prog 109 #[.int .u8 c.toNat] w (fun v w' => v = .bool (Oc.white c) ∧ w = w') := by
  refine ret_of fun K hK => S_octet_White_ok ?_
  unfold S_octet_White
  refine c_eq (indexByte_ret Oc.whites c w) ?_
  simp only [rs, Oc.indexByte_nonneg]
  exact hK _ _ ⟨rfl, rfl⟩
theorem delim_ret (c : UInt8) (w : World) : Ret Tryz.prog 164 #[.int .u8 c.toNat] w (fun v w' => v = .bool (Oc.delim c) ∧ w = w') := by
  refine ret_of fun K hK => S_octet_Delim_ok ?_
  unfold S_octet_Delim
  refine c_eq (indexByte_ret Oc.delims c w) ?_
  simp only [rs, Oc.indexByte_nonneg]
  exact hK _ _ ⟨rfl, rfl⟩
theorem regular_ret (c : UInt8) (w : World) : Ret Tryz.prog 139 #[.int .u8 c.toNat] w (fun v w' => v = .bool (Oc.regular c) ∧ w = w') := by
  refine ret_of fun K hK => S_octet_Regular_ok ?_
  unfold S_octet_Regular
  refine c_eq (white_ret c w) ?_
  cases hw : Oc.white c with
  | true => simp only [rs]; exact hK _ _ ⟨by simp [Oc.regular, hw], rfl⟩
  | false =>
    simp only [rs]
    refine c_eq (delim_ret c w) ?_
    simp only [rs]
    exact hK _ _ ⟨by simp [Oc.regular, hw], rfl⟩
theorem shr4 (c : UInt8) : (c.toNat : Int).fdiv (2 ^ (min (4 : Int).toNat IntKind.u8.bits)) = ((c.toNat / 16 : Nat) : Int) := by
  rw [Int.fdiv_eq_ediv_of_nonneg _ (by decide)]
  show ((c.toNat : Int) / 16) = _
  omega
theorem and15_fin : ∀ n : Fin 256, bAnd .u8 (n.val : Int) 15 = ((n.val % 16 : Nat) : Int) := by decide +kernel
theorem and15 (c : UInt8) : bAnd .u8 (c.toNat : Int) 15 = ((c.toNat % 16 : Nat) : Int) := and15_fin ⟨c.toNat, c.toNat_lt⟩
theorem hexD_get (k : IntKind) {n : Nat} (h : n < 16) (w : World) : (mIx 9 (.string ⟨#[48, 49, 50, 51, 52, 53, 54, 55, 56, 57, 65, 66, 67, 68, 69, 70]⟩) (.int k (n : Int))).run Tryz.prog w = .ok (.value (.int .u8 (Oc.hexD n).toNat)) w :=
  run_s_ix (a := Oc.hexs) (c := Oc.hexD n) Tryz.underlying9 (by omega) (by rw [Int.toNat_natCast]; exact Oc.hexs_get h)
theorem below_gr (w : World) (k : Nat) (os : Array Obj) : Below w.heap.size w (Go.Sort.grow (w.drewN k) os) :=
  ⟨rfl, rfl, rfl, by simp [Go.Sort.grow], fun i hi => by simp [Go.Sort.grow, Array.getElem?_append, hi]⟩
theorem itoa_len (n : Int) (h0 : -9223372036854775808 ≤ n) (h1 : n ≤ 9223372036854775807) : (Lib.itoa n).length ≤ 21 := Lib.itoa_length_le n h0 h1
theorem pint_ret (n : Int) (w : World) (ht : Tb w) : Ret Tryz.prog 47 #[.int .i64 n] w (fun v w' => v = .tuple #[.string ⟨(Pl.pInt n).1.toArray⟩, .int .i64 (Pl.pInt n).2] ∧ Below w.heap.size w w') := by
  refine ret_of fun K hK => S_plain_Int_ok ?_
  unfold S_plain_Int
  by_cases h1 : n < -2147483647
  · simp only [rs, h1, decide_true]
    exact hK _ _ ⟨by rw [Pl.pInt, if_neg (by omega)], Below.refl _ _⟩
  · simp only [rs, h1, decide_false]
    by_cases h2 : 2147483647 < n
    · simp only [rs, h2, decide_true]
      exact hK _ _ ⟨by rw [Pl.pInt, if_neg (by omega)], Below.refl _ _⟩
    · simp only [rs, h2, decide_false]
      refine c_any (Tryz.strconv_FormatInt_10 n (by omega) (by omega) w ht) ?_
      rintro e w' ⟨rfl, k, os, rfl⟩
      exact hK _ _ ⟨by rw [Pl.pInt, if_pos (by omega)], below_gr _ _ _⟩
end Go.Proofs.YtgffladaenimmaaGreatDoor
/- Contracts: plain (write, String, Name, Join, Pad) of the program. -/
namespace Go.Proofs.YtgffladaenimmaaGreatDoor
set_option linter.unusedVariables false
set_option linter.unusedSimpArgs false
set_option linter.defProp false
open Eng Go.RowKit

theorem repeatL_one (c : UInt8) (n : Nat) : Lib.repeatL [c] n = List.replicate n c := by
  induction n with
  | zero => rfl
  | succ n ih => simp [Lib.repeatL, List.replicate_succ, ih]
theorem ppad_ret (n k : Int) (hn0 : -9223372036854775808 ≤ n) (hn1 : n ≤ 9223372036854775807) (hk0 : -9223372036854775808 ≤ k) (hk1 : k ≤ 9223372036854775807) (w : World) (ht : Tb w) :
    Ret Tryz.prog 42 #[.int .i64 n, .int .i64 k] w (fun v w' => v = .string ⟨(Pl.pad n k).toArray⟩ ∧ Below w.heap.size w w') := by
  refine ret_of fun K hK => S_plain_Pad_ok ?_
  unfold S_plain_Pad
  refine c_any (Tryz.strconv_Itoa n hn0 hn1 w ht) ?_
  rintro e w1 ⟨rfl, d, os, rfl⟩
  have hb := below_gr w d os
  have hl := itoa_len n hn0 hn1
  simp only [Cont]
  by_cases h1 : n < 0
  · simp only [rs, h1, decide_true, g_un]
    exact hK _ _ ⟨by rw [Pl.pad, if_pos (by omega)], hb⟩
  · simp only [rs, h1, decide_false]
    by_cases h2 : k < 1
    · simp only [rs, h2, decide_true, g_un]
      exact hK _ _ ⟨by rw [Pl.pad, if_pos (by omega)], hb⟩
    · simp only [rs, h2, decide_false]
      by_cases h3 : 20 < k
      · simp only [rs, h3, decide_true, g_un]
        exact hK _ _ ⟨by rw [Pl.pad, if_pos (by omega)], hb⟩
      · simp only [rs, h3, decide_false, s_len Tryz.underlying9]
        by_cases h4 : k < ((Lib.itoa n).length : Int)
        · simp only [rs, h4, decide_true]
          exact hK _ _ ⟨by rw [Pl.pad, if_pos (by omega)], hb⟩
        · simp only [rs, h4, decide_false, s_len Tryz.underlying9]
          rw [wrap64_id (by omega) (by omega)]
          obtain ⟨c, hc⟩ : ∃ c : Nat, k - ((Lib.itoa n).length : Int) = c := ⟨(k - ((Lib.itoa n).length : Int)).toNat, by omega⟩
          rw [hc]
          refine c_any (Tryz.strings_Repeat ⟨#[48]⟩ c _ (by omega) (by show 1 * c ≤ _; omega)) ?_
          rintro e w2 ⟨rfl, hb2⟩
          simp only [Cont]
          rw [repeatL_one, s_add (by simp; omega)]
          refine hK _ _ ⟨?_, hb.trans (hb2.mono hb.size)⟩
          rw [Pl.pad, if_neg (by omega), hc, Int.toNat_natCast]

/-- What a function that writes a byte's text into a Builder must do. -/
def Each (F : Nat) (f : UInt8 → List UInt8) : Prop := ∀ (b : Nat) (v : Value) (l : List UInt8) (c : UInt8) (w : World), (Bld b v l).is w → l.length ≤ 1000000 →
  Ret Tryz.prog F #[.pointer (some ⟨b, 0, none⟩), .int .u8 c.toNat] w (fun r w' => ∃ e', (∃ v', e' = Bld b v' (l ++ f c)) ∧ Turn (Bld b v l) e' w w')
theorem write_ret (op s en : List UInt8) (F : Nat) (f : UInt8 → List UInt8) (hF : plainB Tryz.prog F = true) (he : Each F f) (hf : ∀ c, (f c).length ≤ 4) (h1 : op.length = 1) (h2 : en.length ≤ 1) (h3 : s.length ≤ 40000) (w : World) :
    Ret Tryz.prog 94 #[.string ⟨op.toArray⟩, .string ⟨s.toArray⟩, .string ⟨en.toArray⟩, .func (.func F) #[] #[]] w (fun v w' => v = .string ⟨(op ++ s.flatMap f ++ en).toArray⟩ ∧ Below w.heap.size w w') := by
  refine ret_of fun K hK => S_plain_write_ok ?_
  unfold S_plain_write
  refine o_new (fun b => .pointer (some ⟨b, 0, none⟩)) [.pointer none, .slice none 0 0] 90 (fun _ => by kernel_rfl) (Own.start w) fun b w1 ho => ?_
  simp only [s_len Tryz.underlying9, rs]
  rw [wrap64_id (n := (op.length : Int) + s.length) (by omega) (by omega), wrap64_id (by omega) (by omega)]
  rw [show ((op.length : Int) + s.length + en.length) = ((op.length + s.length + en.length : Nat) : Int) by omega]
  refine c_ret (grow_ret ho (by omega) (by omega)) ?_
  rintro _ w2 ⟨rfl, v, ho2⟩
  refine c_turn 0 ho2 rfl (writeString_ret (ho2.at_ 0 rfl) (by simp; omega)) ?_
  rintro _ _ w3 ⟨_, v3, rfl⟩ ho3
  refine loop (fun vs w' => ∃ (i : Nat) (v : Value), vs = [.int .i64 i] ∧ i ≤ s.length ∧ Own w w' [Bld b v (op ++ (s.take i).flatMap f)])
    (fun vs _ => s.length - n0 vs) ⟨0, v3, rfl, by omega, by simpa using ho3⟩ ?_
  rintro vs w4 ⟨i, v4, rfl, hi, ho4⟩ _
  simp only [S_plain_write_0, gd, rs]
  by_cases hlt : (i : Int) < (s.length : Int)
  · have hi2 : i < s.length := by omega
    simp only [hlt, decide_true, rs]
    rw [s_ix (c := s[i]) Tryz.underlying9 (by omega) (by simp [hi2])]
    have hfl := Pl.flat_len f 4 hf (s.take i)
    have htk : (s.take i).length ≤ s.length := by rw [List.length_take]; omega
    refine c_val hF (c_turn 0 ho4 rfl (R := fun _ e' => ∃ v', e' = Bld b v' (op ++ (s.take i).flatMap f ++ f s[i])) (he b v4 _ s[i] w4 (ho4.at_ 0 rfl) (by simp only [List.length_append]; omega)) ?_)
    rintro _ _ w5 ⟨v5, rfl⟩ ho5
    rw [wrap64_id (by omega) (by omega)]
    refine nextX ⟨i + 1, v5, rfl, by omega, ?_⟩ (by simp [n0, intOf]; omega)
    rw [List.take_succ_eq_append_getElem hi2, Pl.flat_snoc, ← List.append_assoc]
    exact ho5
  · have hi2 : i = s.length := by omega
    subst hi2
    simp only [hlt, decide_false, rs]
    rw [List.take_length] at ho4
    have hfl := Pl.flat_len f 4 hf s
    refine c_turn 0 ho4 rfl (writeString_ret (ho4.at_ 0 rfl) (by simp only [List.length_append]; omega)) ?_
    rintro _ _ w5 ⟨_, v5, rfl⟩ ho5
    refine c_turn 0 ho5 rfl (bldString_ret (ho5.at_ 0 rfl)) ?_
    rintro _ _ w6 ⟨rfl, rfl⟩ ho6
    exact hK _ _ ⟨rfl, ho6.done⟩
theorem u8_of (n : Nat) (h : n < 256) : ((UInt8.ofNat n).toNat : Int) = (n : Int) := by rw [UInt8.toNat_ofNat']; omega
/-- WriteByte of a byte that is reckoned. -/
theorem writeByteN_ret {b : Nat} {v : Value} {l : List UInt8} {n : Int} {k : Nat} {w : World} (h : (Bld b v l).is w) (hl : l.length < 140737488355328) (hn : n = k) (hk : k < 256) : Ret Tryz.prog 65 #[.pointer (some ⟨b, 0, none⟩), .int .u8 n] w
    (fun r w' => ∃ e', (r = .nilIface ∧ ∃ v', e' = Bld b v' (l ++ [UInt8.ofNat k])) ∧ Turn (Bld b v l) e' w w') := by
  have := writeByte_ret (c := UInt8.ofNat k) h hl
  rw [u8_of k hk, ← hn] at this
  exact this
theorem u8d (c : UInt8) (k : Int) (x : UInt8) (hx : (x.toNat : Int) = k) : decide ((c.toNat : Int) = k) = decide (c = x) := by
  by_cases h : c = x
  · subst h; rw [decide_eq_true hx, decide_eq_true rfl]
  · rw [decide_eq_false h, decide_eq_false]
    intro h2
    exact h (UInt8.toNat_inj.1 (by omega))
theorem octd_ret {b : Nat} {l : List UInt8} {c : UInt8} {w0 w : World} {v : Value} {S : Nat → Prop} (d : Nat) (i : Nat) (hd : d = 64 ∨ d = 8 ∨ d = 1) (hi : (mIx 114 (.agg #[.int .u8 64, .int .u8 8, .int .u8 1]) (.int .i64 (i : Int))).run Tryz.prog w = .ok (.value (.int .u8 (d : Int))) w)
    {t0 : Value} {K : Value → World → Prop} {PK : List PanicEntry → World → Prop} (ho : OwnS S w0 w [Bld b v l]) (hl : l.length < 140737488355328) (hi3 : i < 3)
    (hk : ∀ v' w', OwnS S w0 w' [Bld b v' (l ++ [UInt8.ofNat (48 + c.toNat / d % 8)])] → K (.int .i64 ((i + 1 : Nat) : Int)) w') :
    DoX Tryz.prog (mIx 114 (.agg #[.int .u8 64, .int .u8 8, .int .u8 1]) (.int .i64 (i : Int))) w PK fun t37 w =>
      DoX Tryz.prog (mBin .quo 5 (.int .u8 c.toNat) t37) w PK fun t41 w =>
      DoX Tryz.prog (mBin .rem 5 t41 (.int .u8 8)) w PK fun t42 w =>
      DoX Tryz.prog (mBin .add 5 (.int .u8 48) t42) w PK fun t43 w =>
      CallX Tryz.prog 65 #[.pointer (some ⟨b, 0, none⟩), t43] w PK fun t44 w =>
      DoX Tryz.prog (mBin .add 3 (.int .i64 (i : Int)) (.int .i64 1)) w PK K := by
  have h256 := c.toNat_lt
  have hq : ((c.toNat : Int).tdiv d) = ((c.toNat / d : Nat) : Int) := by rw [Int.tdiv_eq_ediv_of_nonneg (by omega)]; rcases hd with rfl | rfl | rfl <;> omega
  have hq2 : c.toNat / d < 256 := Nat.lt_of_le_of_lt (Nat.div_le_self _ _) h256
  have hr : (((c.toNat / d : Nat) : Int).tmod 8) = ((c.toNat / d % 8 : Nat) : Int) := by rw [Int.tmod_eq_emod_of_nonneg (by exact Int.natCast_nonneg _)]; omega
  refine do_ok hi ?_
  have hq3 : (0 : Int) ≤ ((c.toNat / d : Nat) : Int) := Int.natCast_nonneg _
  rw [b_quo (by omega), hq, wrap8_id hq3 (by omega), b_rem (by omega), hr, b_add, wrap8_id (by omega) (by omega)]
  refine c_turn 0 ho rfl (writeByteN_ret (k := 48 + c.toNat / d % 8) (ho.at_ 0 rfl) hl (by omega) (by omega)) ?_
  rintro _ _ w5 ⟨rfl, v5, rfl⟩ ho5
  rw [b_add, wrap64_id (by omega) (by omega), show ((i : Int) + 1) = ((i + 1 : Nat) : Int) by omega]
  exact hk _ _ ho5
theorem each_esc : Each 95 Pl.esc := by
  intro b v l c w h hl
  refine ret_of fun K hK => S_plain_String_1_ok ?_
  unfold S_plain_String_1
  have ho := OwnS.lend h
  have done : ∀ {v' : Value} {w' : World} {e' : Ent}, OwnS (Bld b v l).blk w w' [e'] → (∃ v', e' = Bld b v' (l ++ Pl.esc c)) → K (.returned (.tuple #[])) w' := fun hx he => hK _ _ ⟨_, he, hx.back⟩
  have two : (c = 40 ∨ c = 41 ∨ c = 92) → CallX Tryz.prog 65 #[.pointer (some ⟨b, 0, none⟩), (.int .u8 92)] w (pk K) fun t21 w =>
      CallX Tryz.prog 65 #[.pointer (some ⟨b, 0, none⟩), .int .u8 c.toNat] w (pk K) fun t24 w => K (.returned (.tuple #[])) w := by
    intro hc
    refine c_turn 0 ho rfl (writeByteN_ret (k := 92) h (by omega) rfl (by omega)) ?_
    rintro _ _ w1 ⟨rfl, v1, rfl⟩ ho1
    refine c_turn 0 ho1 rfl (writeByte_ret (c := c) (ho1.at_ 0 rfl) (by simp; omega)) ?_
    rintro _ _ w2 ⟨rfl, v2, rfl⟩ ho2
    exact done (v' := v2) ho2 ⟨v2, by rw [Pl.esc, if_pos hc, List.append_assoc]; rfl⟩
  have e1 := u8d c 40 40 rfl
  have e2 := u8d c 41 41 rfl
  have e3 := u8d c 92 92 rfl
  by_cases h1 : c = 40
  · simp only [rs, e1, decide_eq_true h1, g_un]
    exact two (by simp [h1])
  · simp only [rs, e1, decide_eq_false h1, g_un]
    by_cases h2 : c = 41
    · simp only [rs, e2, decide_eq_true h2, g_un]
      exact two (by simp [h2])
    · simp only [rs, e2, decide_eq_false h2, g_un]
      by_cases h3 : c = 92
      · simp only [rs, e3, decide_eq_true h3, g_un]
        exact two (by simp [h3])
      · simp only [rs, e3, decide_eq_false h3, g_un]
        have hn : ¬ (c = 40 ∨ c = 41 ∨ c = 92) := by simp [h1, h2, h3]
        have oct : (c.toNat < 32 ∨ 126 < c.toNat) → CallX Tryz.prog 65 #[.pointer (some ⟨b, 0, none⟩), (.int .u8 92)] w (pk K) fun t33 w =>
            DoX Tryz.prog (mBuild 114 #[(0, (.int .u8 64)), (1, (.int .u8 8)), (2, (.int .u8 1))]) w (pk K) fun t34 w =>
            LoopX [(.int .i64 0)] w (fun vs1 w N1 => ∀ _ : Sg, S_plain_String_1_0 (.pointer (some ⟨b, 0, none⟩)) (.int .u8 c.toNat) t34 (vs1.getD 0 undef) w N1 K) := by
          intro hc
          refine c_turn 0 ho rfl (writeByteN_ret (k := 92) h (by omega) rfl (by omega)) ?_
          rintro _ _ w1 ⟨rfl, v1, rfl⟩ ho1
          refine do_ok (w' := w1) (v := .agg #[.int .u8 64, .int .u8 8, .int .u8 1]) (by kernel_rfl) ?_
          refine loop (fun vs w' => ∃ (i : Nat) (v' : Value), vs = [.int .i64 i] ∧ i ≤ 3 ∧ OwnS (Bld b v l).blk w w' [Bld b v' (l ++ (Pl.oct c).take (i + 1))])
            (fun vs _ => 3 - n0 vs) ⟨0, v1, rfl, by omega, by simpa [Pl.oct] using ho1⟩ ?_
          rintro vs w2 ⟨i, v2, rfl, hi, ho2⟩ _
          simp only [S_plain_String_1_0, gd]
          rw [b_lss]
          by_cases hlt : (i : Int) < 3
          · simp only [hlt, decide_true, i_t]
            have hi3 : i = 0 ∨ i = 1 ∨ i = 2 := by omega
            have h256 := c.toNat_lt
            rcases hi3 with rfl | rfl | rfl
            · refine octd_ret (t0 := undef) 64 0 (.inl rfl) (by kernel_rfl) ho2 (by simp [Pl.oct]; omega) (by omega) fun v' w' h' => ?_
              refine nextX ⟨1, v', rfl, by omega, ?_⟩ (by simp [n0, intOf])
              have e : c.toNat / 64 % 8 = c.toNat / 64 := by omega
              rw [e, List.append_assoc] at h'
              exact h'
            · refine octd_ret (t0 := undef) 8 1 (.inr (.inl rfl)) (by kernel_rfl) ho2 (by simp [Pl.oct]; omega) (by omega) fun v' w' h' => ?_
              refine nextX ⟨2, v', rfl, by omega, ?_⟩ (by simp [n0, intOf])
              rw [List.append_assoc] at h'
              exact h'
            · refine octd_ret (t0 := undef) 1 2 (.inr (.inr rfl)) (by kernel_rfl) ho2 (by simp [Pl.oct]; omega) (by omega) fun v' w' h' => ?_
              refine nextX ⟨3, v', rfl, by omega, ?_⟩ (by simp [n0, intOf])
              rw [Nat.div_one, List.append_assoc] at h'
              exact h'
          · have hi3 : i = 3 := by omega
            subst hi3
            simp only [hlt, decide_false, i_f]
            refine done (v' := v2) ho2 ⟨v2, ?_⟩
            rw [Pl.esc, if_neg hn, if_pos hc]
            rfl
        by_cases h4 : (c.toNat : Int) < 32
        · simp only [rs, h4, decide_true, g_un]
          exact oct (.inl (by omega))
        · simp only [rs, h4, decide_false, g_un]
          by_cases h5 : (126 : Int) < (c.toNat : Int)
          · simp only [rs, h5, decide_true, g_un]
            exact oct (.inr (by omega))
          · simp only [rs, h5, decide_false, g_un]
            refine c_turn 0 ho rfl (writeByte_ret (c := c) h (by omega)) ?_
            rintro _ _ w1 ⟨rfl, v1, rfl⟩ ho1
            exact done (v' := v1) ho1 ⟨v1, by rw [Pl.esc, if_neg hn, if_neg (by omega)]⟩
theorem pstr_ret (l : List UInt8) (w : World) (hl : l.length ≤ 1000000) : Ret Tryz.prog 55 #[.string ⟨l.toArray⟩] w (fun v w' => v = .tuple #[.string ⟨(Pl.pStr l).1.toArray⟩, .int .i64 (Pl.pStr l).2] ∧ Below w.heap.size w w') := by
  refine ret_of fun K hK => S_plain_String_ok ?_
  unfold S_plain_String
  rw [s_len Tryz.underlying9]
  by_cases h1 : (32767 : Int) < l.length
  · simp only [rs, h1, decide_true]
    exact hK _ _ ⟨by rw [Pl.pStr, if_pos (by omega)], Below.refl _ _⟩
  · simp only [rs, h1, decide_false]
    refine c_ret (write_ret [40] l [41] _ Pl.esc (by kernel_rfl) each_esc (fun c => (Pl.esc_len c).2) rfl (by simp) (by omega) w) ?_
    rintro _ w' ⟨rfl, hb⟩
    exact hK _ _ ⟨by rw [Pl.pStr, if_neg (by omega)]; rfl, hb⟩
end Go.Proofs.YtgffladaenimmaaGreatDoor
/- Contracts: plain.Join of the program. -/
namespace Go.Proofs.YtgffladaenimmaaGreatDoor
set_option linter.unusedVariables false
set_option linter.unusedSimpArgs false
set_option linter.defProp false
open Eng Go.RowKit

def strV (p : List UInt8) : Value := .string ⟨p.toArray⟩
def strsV (ps : List (List UInt8)) : List Value := ps.map strV
theorem strsV_length (ps : List (List UInt8)) : (strsV ps).length = ps.length := by simp [strsV]
theorem strsV_get {ps : List (List UInt8)} {i : Nat} (h : i < ps.length) : (strsV ps)[i]? = some (.string ⟨ps[i].toArray⟩) := by simp [strsV, strV, h]

end Go.Proofs.YtgffladaenimmaaGreatDoor
/- What the rows of the laws of layer 4 and later ask besides: laid tables; slices of strings that came in. -/
namespace Go.Proofs.YtgffladaenimmaaGreatDoor
set_option linter.unusedVariables false
set_option linter.unusedSimpArgs false
set_option linter.defProp false
open Eng Go.RowKit Go.ChangeShapes Go.WideShapes Go.ChangeAt
theorem laidMet_tail {P : Program} {x : String × DataW Unit} {l : List (String × DataW Unit)} {W : World} (h : laidMet P (x :: l) W) : laidMet P l W := by
  obtain ⟨ps, ⟨g, t, cs, fuel, p, q, _, _, _, _, hr, rfl⟩, hn, hc⟩ := h
  exact ⟨q, hr, (List.nodup_append.1 hn).2.1, fun b off hm => hc b off (by simp [hm])⟩
/-- A slice of strings that came in. -/
theorem open_sl_str {H : Type} {enc : TypeId × Value → H} {P : Program} {W : World} {sp : Nat → Bool} {held : Bool} {b0 : Nat} {t e : TypeId} {v : Value} {d : DataW H} {ps : List MemPlace} (ht : P.underlying t = some (.slice e)) (he : P.underlying e = some .string) (hc : P.cellsOf e = 1)
    (hval : Value.okWide P W .any b0 t v) (hd : DataW.Trod enc P W 0 sp held t v d ps) : ∃ zs : List (List UInt8), Sl W v 1 zs.length (strsV zs) ∧ zs.length ≤ 9223372036854775807 ∧ ∀ p ∈ zs, p.length ≤ 9223372036854775807 := by
  obtain ⟨a, len, cap, rfl⟩ := okWide_slice ht hval
  obtain ⟨fuel, hf⟩ := hd
  rcases open_strings ht he hc hf with ⟨hcs, hx⟩ | ⟨a', len', cap', zs, hcs, _, hl, hm, hz, hx, hcell, hwz⟩
  · simp [Value.cells] at hcs
    obtain ⟨rfl, rfl, rfl⟩ := hcs
    exact ⟨[], Sl.nil _ _ _, by simp, by simp⟩
  · simp [Value.cells] at hcs
    obtain ⟨rfl, rfl, rfl⟩ := hcs
    have hlz : len ≤ zs.length := by rw [hz]; split <;> omega
    have htl : (zs.take len).length = len := by simp; omega
    have hml : len ≤ 9223372036854775807 := by simp only [maxLen] at hm; omega
    refine ⟨(zs.take len).map (·.data.toList), ?_, by rw [List.length_map, htl]; exact hml, fun p hp => ?_⟩
    · rw [List.length_map, htl]
      refine ⟨by simp [strsV]; omega, some a', cap, rfl, (fun h => by cases h), fun p hp => ?_⟩
      cases hp
      have hplain : ∀ i, i < zs.length → a'.spot = none := by
        intro i hi
        have h0 := hcell 0 (by omega)
        have e0 : a'.add 0 = a' := by simp [Addr.add]
        rw [e0] at h0
        unfold World.cell? at h0
        split at h0
        · split at h0
          · cases h0
          · rename_i hh; simpa using hh
        · cases h0
      refine ⟨fun h => hplain 0 (by omega), fun j u hj => ?_⟩
      have hjl : j < len := by
        have := (List.getElem?_eq_some_iff.1 hj).1
        simp [strsV] at this; omega
      have hs := hplain j (by omega)
      have h1 := hcell j (by omega)
      obtain ⟨b, off, spot⟩ := a'
      simp only at hs
      subst hs
      have e1 : (⟨b, off, none⟩ : Addr).add j = ⟨b, off + j, none⟩ := by unfold Addr.add; split <;> simp_all
      rw [e1] at h1
      rw [h1, ← hj]
      simp [strsV, strV, List.getElem?_take, hjl, List.getD, List.getElem?_eq_getElem (show j < zs.length by omega)]
    · obtain ⟨s, hs, rfl⟩ := List.mem_map.1 hp
      have := hwz s (List.mem_of_mem_take hs)
      rw [Lib.size_eq] at this
      simpa [maxLen] using this
end Go.Proofs.YtgffladaenimmaaGreatDoor
/- Plain mathematics of layers 1 and 3: white space and comments, hexadecimal digits; no program in sight. -/
namespace Go.Proofs.YtgffladaenimmaaGreatDoor
set_option linter.unusedVariables false
set_option linter.unusedSimpArgs false
set_option linter.defProp false
open Go
namespace Lx
open Oc
def eol (c : UInt8) : Bool := decide (c = 13) || decide (c = 10)
/-- How many bytes of white space and comments stand ahead (true: within a comment). -/
def skipF : Bool → List UInt8 → Nat
  | _, [] => 0
  | true, c :: t => 1 + skipF (!eol c) t
  | false, c :: t => if c = 37 then 1 + skipF true t else if white c then 1 + skipF false t else 0
def skip (s : List UInt8) (k : Nat) : Nat := k + skipF false (s.drop k)
def skipI (s : List UInt8) (k : Int) : Int := if k < 0 ∨ (s.length : Int) < k then k else ((skip s k.toNat : Nat) : Int)
def lineF : List UInt8 → Nat
  | [] => 0
  | c :: t => if c = 10 then 1 else if c = 13 then (if t.head? = some 10 then 2 else 1) else 1 + lineF t
def line (s : List UInt8) (k : Nat) : Nat := k + lineF (s.drop k)
theorem skipF_le : ∀ (b : Bool) (l : List UInt8), skipF b l ≤ l.length
  | _, [] => by simp [skipF]
  | true, c :: t => by have := skipF_le (!eol c) t; simp only [skipF, List.length_cons]; omega
  | false, c :: t => by
    have h1 := skipF_le true t
    have h2 := skipF_le false t
    simp only [skipF, List.length_cons]
    split
    · omega
    · split <;> omega
theorem lineF_le : ∀ l : List UInt8, lineF l ≤ l.length
  | [] => by simp [lineF]
  | c :: t => by
    have := lineF_le t
    simp only [lineF, List.length_cons]
    split
    · omega
    · split
      · split
        · rename_i h
          cases t with
          | nil => cases h
          | cons d t => simp
        · omega
      · omega
theorem lineF_pos (c : UInt8) (t : List UInt8) : 1 ≤ lineF (c :: t) := by
  simp only [lineF]
  split
  · omega
  · split
    · split <;> omega
    · omega
theorem skip_le (s : List UInt8) {k : Nat} (h : k ≤ s.length) : skip s k ≤ s.length := by
  have := skipF_le false (s.drop k)
  rw [List.length_drop] at this
  unfold skip; omega
theorem drop_cons {s : List UInt8} {i : Nat} (h : i < s.length) : s.drop i = s[i] :: s.drop (i + 1) := List.drop_eq_getElem_cons h
/-- A comment ends with its line. -/
theorem skipF_line : ∀ l : List UInt8, skipF true l = lineF l + skipF false (l.drop (lineF l))
  | [] => by simp [skipF, lineF]
  | c :: t => by
    have ih := skipF_line t
    by_cases h1 : c = 10
    · subst h1
      simp [skipF, lineF, eol]
    · by_cases h2 : c = 13
      · subst h2
        simp only [skipF, lineF, eol, h1, decide_true, Bool.true_or, Bool.not_true, if_true, if_false]
        cases t with
        | nil => simp [skipF]
        | cons d t =>
          by_cases h3 : d = 10
          · subst h3
            simp [skipF, white, whites]
            omega
          · have : ¬ (some d = some 10) := by simpa using h3
            simp [this]
      · have he : eol c = false := by simp [eol, h1, h2]
        simp only [skipF, lineF, he, h1, h2, Bool.not_false, if_false]
        rw [ih, Nat.add_comm 1 (lineF t), List.drop_succ_cons]; omega
/- HEXADECIMAL DIGITS -/
def digit (c : UInt8) : Int :=
  if 48 ≤ c.toNat ∧ c.toNat ≤ 57 then (c.toNat : Int) - 48
  else if 65 ≤ c.toNat ∧ c.toNat ≤ 70 then (c.toNat : Int) - 65 + 10
  else if 97 ≤ c.toNat ∧ c.toNat ≤ 102 then (c.toNat : Int) - 97 + 10
  else -1
theorem digit_bd (c : UInt8) : -1 ≤ digit c ∧ digit c ≤ 15 := by
  unfold digit
  split
  · omega
  · split
    · omega
    · split <;> omega
def byte (a b : Int) : UInt8 := UInt8.ofNat (16 * a + b).toNat
def unhex : List UInt8 → Option (List UInt8)
  | [] => some []
  | [_] => none
  | a :: b :: t => if digit a < 0 ∨ digit b < 0 then none else (unhex t).map (byte (digit a) (digit b) :: ·)
def unhexE (l : List UInt8) : List UInt8 × Int := match unhex l with | some x => (x, 0) | none => ([], 3)
end Lx
end Go.Proofs.YtgffladaenimmaaGreatDoor
/- The engine's rules for guarded operations whose guard is not known: values, without a split of the ways. -/
namespace Go.Proofs.YtgffladaenimmaaGreatDoor
set_option linter.unusedVariables false
set_option linter.unusedSimpArgs false
set_option linter.defProp false
set_option linter.unusedSimpArgs false
set_option linter.unusedVariables false
namespace Eng
open Go.RowKit

/-- x where c holds. -/
def sel (c : Bool) (x : Value) : Value := bc c x undef
theorem sel_t {x : Value} : sel true x = x := rfl
theorem sel_f {x : Value} : sel false x = undef := rfl
section
variable {P : Program} {w : World} {PK : List PanicEntry → World → Prop} {K : Value → World → Prop}
theorem g_move {v x : Value} {want : Bool} : GDo v want (fun E => E x w) w K = K (sel (wants v want) x) w := by
  refine propext ⟨fun h => ?_, fun h => ⟨?_⟩⟩
  · have := h.out
    cases hw : wants v want <;> rw [hw] at this <;> exact this
  · cases hw : wants v want <;> rw [hw] at h <;> exact h
theorem g_congr {v v' : Value} {want c : Bool} {E E' : (Value → World → Prop) → Prop} (hv : v = v') (hc : wants v' want = c) (h : c = true → ∀ K0, E K0 = E' K0) : GDo v want E w K = GDo v' want E' w K := by
  subst hv
  refine propext ⟨fun x => ⟨?_⟩, fun x => ⟨?_⟩⟩
  · have := x.out
    subst hc
    cases hw : wants v want with
    | false => rw [hw] at this; exact this
    | true => rw [hw, bc_true] at this; rw [bc_true, ← h hw]; exact this
  · have := x.out
    subst hc
    cases hw : wants v want with
    | false => rw [hw] at this; exact this
    | true => rw [hw, bc_true] at this; rw [bc_true, h hw]; exact this
theorem wants_t {b : Bool} : wants (.bool b) true = b := by cases b <;> rfl
theorem wants_f {b : Bool} : wants (.bool b) false = !b := by cases b <;> rfl
theorem wants_st {c y : Bool} : wants (sel c (.bool y)) true = (c && y) := by cases c <;> cases y <;> rfl
theorem wants_sf {c y : Bool} : wants (sel c (.bool y)) false = (c && !y) := by cases c <;> cases y <;> rfl
theorem b_tand {b : Bool} : (true && b) = b := rfl
theorem b_andt {b : Bool} : (b && true) = b := by cases b <;> rfl
theorem pick_and {b y : Bool} : DoX P (mPick (.bool b) (sel b (.bool y)) (.bool false)) w PK K = K (.bool (b && y)) w := by
  rw [p_pick]; cases b <;> rfl
theorem pick_or {b y : Bool} : DoX P (mPick (.bool b) (.bool true) (sel (!b) (.bool y))) w PK K = K (.bool (b || y)) w := by
  rw [p_pick]; cases b <;> rfl
theorem run_eq_bool {T : TypeId} {a b : Bool} (h : P.underlying T = some .bool) : (Op.equal T (.bool a) (.bool b)).run P w = .ok (a == b) w := by
  show (Op.equalIn (9999 + 1) T (.bool a) (.bool b)).run P w = _
  rw [Op.equalIn]
  simp [run_underlying h]
theorem e_bool {T : TypeId} {xo yo : Operand} {a b : Bool} (h : P.underlying T = some .bool) : DoX P (mEq .eql T xo yo (.bool a) (.bool b)) w PK K = K (.bool (a == b)) w := mv_do (by simp [eqGuard, binOp, run_eq_bool h])
theorem n_bool {T : TypeId} {xo yo : Operand} {a b : Bool} (h : P.underlying T = some .bool) : DoX P (mEq .neq T xo yo (.bool a) (.bool b)) w PK K = K (.bool (!(a == b))) w := mv_do (by simp [eqGuard, binOp, run_eq_bool h])
end
/-- For 'simp only [rs, gs]' with 'attribute [local congr] g_congr'. -/
def gs := And.intro @g_move (And.intro @wants_t (And.intro @wants_f (And.intro @pick_and (And.intro @pick_or (And.intro @sel_t (And.intro @sel_f (And.intro @wants_st (And.intro @wants_sf (And.intro @b_tand @b_andt)))))))))
end Eng
end Go.Proofs.YtgffladaenimmaaGreatDoor
/- Code in continuation form, by program (gen.py): 6 functions. -/
namespace Go.Proofs.YtgffladaenimmaaGreatDoor
set_option linter.unusedVariables false
set_option linter.unusedSimpArgs false
set_option linter.defProp false
set_option linter.unusedVariables false
set_option maxRecDepth 20000
open Eng

/- octet.Digit -/
def S_octet_Digit (t0 : Value) (w : World) (K : Ending → World → Prop) : Prop :=
 DoX Tryz.prog (mBin .geq 5 t0 (.int .u8 48)) w (pk K) fun t5 w =>
 GDo t5 true (fun E => E t0 w) w fun t7 w =>
 GDo t5 true (fun E => DoX Tryz.prog (mBin .leq 5 t7 (.int .u8 57)) w (pk K) E) w fun t8 w =>
 DoX Tryz.prog (mPick t5 t8 (.bool false)) w (pk K) fun t9 w =>
 IfX t9 (DoX Tryz.prog (mBin .sub 5 t0 (.int .u8 48)) w (pk K) fun t11 w =>
 DoX Tryz.prog (mConv 5 3 t11) w (pk K) fun t12 w =>
 K (.returned t12) w) (DoX Tryz.prog (mBin .geq 5 t0 (.int .u8 65)) w (pk K) fun t15 w =>
 GDo t15 true (fun E => E t0 w) w fun t17 w =>
 GDo t15 true (fun E => DoX Tryz.prog (mBin .leq 5 t17 (.int .u8 70)) w (pk K) E) w fun t18 w =>
 DoX Tryz.prog (mPick t15 t18 (.bool false)) w (pk K) fun t19 w =>
 IfX t19 (DoX Tryz.prog (mBin .sub 5 t0 (.int .u8 65)) w (pk K) fun t21 w =>
 DoX Tryz.prog (mConv 5 3 t21) w (pk K) fun t22 w =>
 DoX Tryz.prog (mBin .add 3 t22 (.int .i64 10)) w (pk K) fun t23 w =>
 K (.returned t23) w) (DoX Tryz.prog (mBin .geq 5 t0 (.int .u8 97)) w (pk K) fun t26 w =>
 GDo t26 true (fun E => E t0 w) w fun t28 w =>
 GDo t26 true (fun E => DoX Tryz.prog (mBin .leq 5 t28 (.int .u8 102)) w (pk K) E) w fun t29 w =>
 DoX Tryz.prog (mPick t26 t29 (.bool false)) w (pk K) fun t30 w =>
 IfX t30 (DoX Tryz.prog (mBin .sub 5 t0 (.int .u8 97)) w (pk K) fun t32 w =>
 DoX Tryz.prog (mConv 5 3 t32) w (pk K) fun t33 w =>
 DoX Tryz.prog (mBin .add 3 t33 (.int .i64 10)) w (pk K) fun t34 w =>
 K (.returned t34) w) (K (.returned (.int .i64 (-1))) w)))
theorem S_octet_Digit_eq (t0 : Value) (w : World) (K : Ending → World → Prop) : wpX Tryz.prog 35 [] [] none (bodyOf Tryz.f38) (topQ Tryz.prog [.tmp 2] K) (startX [t0]) [] w = S_octet_Digit t0 w K := by kernel_rfl
theorem S_octet_Digit_ok {t0 : Value} {w : World} {K : Ending → World → Prop} (h : S_octet_Digit t0 w K) : Calls Tryz.prog 38 #[t0] w K :=
  calls_of_wpX Tryz.func38 rfl rfl rfl rfl (Eq.mpr (S_octet_Digit_eq t0 w K) h)

/- octet.Unhex -/
def S_octet_Unhex_0 (t0 t4 t5 : Value) (w : World) (N1 : List Value → World → Prop) (K : Ending → World → Prop) : Prop :=
 DoX Tryz.prog (mB .len #[9] 3 #[false] #[t0]) w (pk K) fun t18 w =>
 DoX Tryz.prog (mBin .lss 3 t5 t18) w (pk K) fun t19 w =>
 IfX t19 (QuietX w (fun C2 =>
 QDo Tryz.prog C2 (mIx 9 t0 t5) fun t24 =>
 QCall Tryz.prog C2 38 #[t24] fun t25 =>
 QDo Tryz.prog C2 (mBin .add 3 t5 (.int .i64 1)) fun t28 =>
 QDo Tryz.prog C2 (mIx 9 t0 t28) fun t29 =>
 QCall Tryz.prog C2 38 #[t29] fun t30 =>
 ∀ w, C2 w →
 DoX Tryz.prog (mBin .lss 3 t25 (.int .i64 0)) w (pk K) fun t32 w =>
 GDo t32 false (fun E => E t30 w) w fun t34 w =>
 GDo t32 false (fun E => DoX Tryz.prog (mBin .lss 3 t34 (.int .i64 0)) w (pk K) E) w fun t35 w =>
 DoX Tryz.prog (mPick t32 (.bool true) t35) w (pk K) fun t36 w =>
 IfX t36 (K (.returned (.tuple #[(.string ⟨#[]⟩), (.int .i64 3)])) w) (DoX Tryz.prog (mBin .shl 3 t25 (.int .u64 4)) w (pk K) fun t39 w =>
 DoX Tryz.prog (mBin .or 3 t39 t30) w (pk K) fun t41 w =>
 DoX Tryz.prog (mConv 3 5 t41) w (pk K) fun t42 w =>
 DoX Tryz.prog (mBuildS 88 1 #[(0, t42)]) w (pk K) fun t43 w =>
 DoX Tryz.prog (mB .append #[88, 88] 88 #[false, false] #[t4, t43]) w (pk K) fun t44 w =>
 DoX Tryz.prog (mBin .add 3 t5 (.int .i64 2)) w (pk K) fun t21 w =>
 N1 [t44, t21] w))) (DoX Tryz.prog (mConv 88 9 t4) w (pk K) fun t46 w =>
 K (.returned (.tuple #[t46, (.int .i64 0)])) w)
def S_octet_Unhex (t0 : Value) (w : World) (K : Ending → World → Prop) : Prop :=
 DoX Tryz.prog (mB .len #[9] 3 #[false] #[t0]) w (pk K) fun t9 w =>
 DoX Tryz.prog (mBin .rem 3 t9 (.int .i64 2)) w (pk K) fun t10 w =>
 DoX Tryz.prog (mEq .neq 3 (.tmp 10) (.const (.int .i64 0)) t10 (.int .i64 0)) w (pk K) fun t11 w =>
 IfX t11 (K (.returned (.tuple #[(.string ⟨#[]⟩), (.int .i64 3)])) w) (DoX Tryz.prog (mB .len #[9] 3 #[false] #[t0]) w (pk K) fun t13 w =>
 DoX Tryz.prog (mBin .quo 3 t13 (.int .i64 2)) w (pk K) fun t14 w =>
 DoX Tryz.prog (mMake 88 (.int .i64 0) t14) w (pk K) fun t15 w =>
 LoopX [t15, (.int .i64 0)] w (fun vs1 w N1 => ∀ _ : Sg, S_octet_Unhex_0 t0 (vs1.getD 0 undef) (vs1.getD 1 undef) w N1 K))
theorem S_octet_Unhex_eq (t0 : Value) (w : World) (K : Ending → World → Prop) : wpX Tryz.prog 47 [] [(5, [4, 5])] none (bodyOf Tryz.f112) (topQ Tryz.prog [.tmp 2, .tmp 3] K) (startX [t0]) [] w = S_octet_Unhex t0 w K := by kernel_rfl
theorem S_octet_Unhex_ok {t0 : Value} {w : World} {K : Ending → World → Prop} (h : S_octet_Unhex t0 w K) : Calls Tryz.prog 112 #[t0] w K :=
  calls_of_wpX Tryz.func112 rfl rfl rfl rfl (Eq.mpr (S_octet_Unhex_eq t0 w K) h)

/- octet.Begins -/
def S_octet_Begins (t0 t1 t2 : Value) (w : World) (K : Ending → World → Prop) : Prop :=
 DoX Tryz.prog (mBin .geq 3 t2 (.int .i64 0)) w (pk K) fun t8 w =>
 GDo t8 true (fun E => E t2 w) w fun t10 w =>
 GDo t8 true (fun E => E t0 w) w fun t11 w =>
 GDo t8 true (fun E => DoX Tryz.prog (mB .len #[9] 3 #[false] #[t11]) w (pk K) E) w fun t12 w =>
 GDo t8 true (fun E => DoX Tryz.prog (mBin .leq 3 t10 t12) w (pk K) E) w fun t13 w =>
 DoX Tryz.prog (mPick t8 t13 (.bool false)) w (pk K) fun t14 w =>
 GDo t14 true (fun E => E t0 w) w fun t16 w =>
 GDo t14 true (fun E => E t2 w) w fun t17 w =>
 GDo t14 true (fun E => DoX Tryz.prog (mSlice 9 t16 (some t17) none none) w (pk K) E) w fun t18 w =>
 GDo t14 true (fun E => E t1 w) w fun t19 w =>
 GDo t14 true (fun E => CallX Tryz.prog 75 #[t18, t19] w (pk K) E) w fun t20 w =>
 DoX Tryz.prog (mPick t14 t20 (.bool false)) w (pk K) fun t21 w =>
 K (.returned t21) w
theorem S_octet_Begins_eq (t0 t1 t2 : Value) (w : World) (K : Ending → World → Prop) : wpX Tryz.prog 22 [] [] none (bodyOf Tryz.f39) (topQ Tryz.prog [.tmp 6] K) (startX [t0, t1, t2]) [] w = S_octet_Begins t0 t1 t2 w K := by kernel_rfl
theorem S_octet_Begins_ok {t0 t1 t2 : Value} {w : World} {K : Ending → World → Prop} (h : S_octet_Begins t0 t1 t2 w K) : Calls Tryz.prog 39 #[t0, t1, t2] w K :=
  calls_of_wpX Tryz.func39 rfl rfl rfl rfl (Eq.mpr (S_octet_Begins_eq t0 t1 t2 w K) h)

/- octet.Skip -/
def S_octet_Skip_1 (t1 t5 : Value) (w : World) (N1 : List Value → World → Prop) (K : Ending → World → Prop) : Prop :=
 DoX Tryz.prog (mBin .add 3 t1 (.int .i64 1)) w (pk K) fun t21 w =>
 N1 [t21, t5] w
def S_octet_Skip_0 (t0 t1 t5 : Value) (w : World) (N1 : List Value → World → Prop) (K : Ending → World → Prop) : Prop :=
 DoX Tryz.prog (mB .len #[9] 3 #[false] #[t0]) w (pk K) fun t18 w =>
 DoX Tryz.prog (mBin .lss 3 t1 t18) w (pk K) fun t19 w =>
 IfX t19 (JoinX (fun J2 =>
 DoX Tryz.prog (mIx 9 t0 t1) w (pk K) fun t24 w =>
 IfX t5 (CallX Tryz.prog 108 #[t24] w (pk K) fun t28 w =>
 DoX Tryz.prog (mUn .not t28) w (pk K) fun t29 w =>
 J2 [t29] w) (DoX Tryz.prog (mEq .eql 5 (.tmp 31) (.const (.int .u8 37)) t24 (.int .u8 37)) w (pk K) fun t32 w =>
 IfX t32 (J2 [(.bool true)] w) (CallX Tryz.prog 109 #[t24] w (pk K) fun t35 w =>
 DoX Tryz.prog (mUn .not t35) w (pk K) fun t36 w =>
 IfX t36 (K (.returned t1) w) (J2 [t5] w)))) (fun vs2 w => ∀ _ : Sg, S_octet_Skip_1 t1 (vs2.getD 0 undef) w N1 K)) (DoX Tryz.prog (mB .len #[9] 3 #[false] #[t0]) w (pk K) fun t39 w =>
 K (.returned t39) w)
def S_octet_Skip (t0 t1 : Value) (w : World) (K : Ending → World → Prop) : Prop :=
 DoX Tryz.prog (mBin .lss 3 t1 (.int .i64 0)) w (pk K) fun t8 w =>
 GDo t8 false (fun E => E t1 w) w fun t10 w =>
 GDo t8 false (fun E => E t0 w) w fun t11 w =>
 GDo t8 false (fun E => DoX Tryz.prog (mB .len #[9] 3 #[false] #[t11]) w (pk K) E) w fun t12 w =>
 GDo t8 false (fun E => DoX Tryz.prog (mBin .gtr 3 t10 t12) w (pk K) E) w fun t13 w =>
 DoX Tryz.prog (mPick t8 (.bool true) t13) w (pk K) fun t14 w =>
 IfX t14 (K (.returned t1) w) (LoopX [t1, (.bool false)] w (fun vs1 w N1 => ∀ _ : Sg, S_octet_Skip_0 t0 (vs1.getD 0 undef) (vs1.getD 1 undef) w N1 K))
theorem S_octet_Skip_eq (t0 t1 : Value) (w : World) (K : Ending → World → Prop) : wpX Tryz.prog 40 [(5, [5])] [(4, [1, 5])] none (bodyOf Tryz.f79) (topQ Tryz.prog [.tmp 4] K) (startX [t0, t1]) [] w = S_octet_Skip t0 t1 w K := by kernel_rfl
theorem S_octet_Skip_ok {t0 t1 : Value} {w : World} {K : Ending → World → Prop} (h : S_octet_Skip t0 t1 w K) : Calls Tryz.prog 79 #[t0, t1] w K :=
  calls_of_wpX Tryz.func79 rfl rfl rfl rfl (Eq.mpr (S_octet_Skip_eq t0 t1 w K) h)

/- octet.Line -/
def S_octet_Line_0 (t0 t1 : Value) (w : World) (N1 : List Value → World → Prop) (K : Ending → World → Prop) : Prop :=
 DoX Tryz.prog (mB .len #[9] 3 #[false] #[t0]) w (pk K) fun t16 w =>
 DoX Tryz.prog (mBin .lss 3 t1 t16) w (pk K) fun t17 w =>
 IfX t17 (DoX Tryz.prog (mIx 9 t0 t1) w (pk K) fun t22 w =>
 DoX Tryz.prog (mEq .eql 5 (.tmp 22) (.const (.int .u8 10)) t22 (.int .u8 10)) w (pk K) fun t24 w =>
 IfX t24 (DoX Tryz.prog (mBin .add 3 t1 (.int .i64 1)) w (pk K) fun t26 w =>
 K (.returned t26) w) (DoX Tryz.prog (mEq .eql 5 (.tmp 22) (.const (.int .u8 13)) t22 (.int .u8 13)) w (pk K) fun t28 w =>
 IfX t28 (CallX Tryz.prog 39 #[t0, (.string ⟨#[13, 10]⟩), t1] w (pk K) fun t31 w =>
 IfX t31 (DoX Tryz.prog (mBin .add 3 t1 (.int .i64 2)) w (pk K) fun t33 w =>
 K (.returned t33) w) (DoX Tryz.prog (mBin .add 3 t1 (.int .i64 1)) w (pk K) fun t35 w =>
 K (.returned t35) w)) (DoX Tryz.prog (mBin .add 3 t1 (.int .i64 1)) w (pk K) fun t19 w =>
 N1 [t19] w))) (DoX Tryz.prog (mB .len #[9] 3 #[false] #[t0]) w (pk K) fun t37 w =>
 K (.returned t37) w)
def S_octet_Line (t0 t1 : Value) (w : World) (K : Ending → World → Prop) : Prop :=
 DoX Tryz.prog (mBin .lss 3 t1 (.int .i64 0)) w (pk K) fun t6 w =>
 GDo t6 false (fun E => E t1 w) w fun t8 w =>
 GDo t6 false (fun E => E t0 w) w fun t9 w =>
 GDo t6 false (fun E => DoX Tryz.prog (mB .len #[9] 3 #[false] #[t9]) w (pk K) E) w fun t10 w =>
 GDo t6 false (fun E => DoX Tryz.prog (mBin .gtr 3 t8 t10) w (pk K) E) w fun t11 w =>
 DoX Tryz.prog (mPick t6 (.bool true) t11) w (pk K) fun t12 w =>
 IfX t12 (K (.returned t1) w) (LoopX [t1] w (fun vs1 w N1 => ∀ _ : Sg, S_octet_Line_0 t0 (vs1.getD 0 undef) w N1 K))
theorem S_octet_Line_eq (t0 t1 : Value) (w : World) (K : Ending → World → Prop) : wpX Tryz.prog 38 [] [(3, [1])] none (bodyOf Tryz.f91) (topQ Tryz.prog [.tmp 4] K) (startX [t0, t1]) [] w = S_octet_Line t0 t1 w K := by kernel_rfl
theorem S_octet_Line_ok {t0 t1 : Value} {w : World} {K : Ending → World → Prop} (h : S_octet_Line t0 t1 w K) : Calls Tryz.prog 91 #[t0, t1] w K :=
  calls_of_wpX Tryz.func91 rfl rfl rfl rfl (Eq.mpr (S_octet_Line_eq t0 t1 w K) h)

/- octet.ends -/
def S_octet_ends (t0 : Value) (w : World) (K : Ending → World → Prop) : Prop :=
 DoX Tryz.prog (mEq .eql 5 (.tmp 3) (.const (.int .u8 13)) t0 (.int .u8 13)) w (pk K) fun t4 w =>
 GDo t4 false (fun E => E t0 w) w fun t6 w =>
 GDo t4 false (fun E => DoX Tryz.prog (mEq .eql 5 (.tmp 6) (.const (.int .u8 10)) t6 (.int .u8 10)) w (pk K) E) w fun t7 w =>
 DoX Tryz.prog (mPick t4 (.bool true) t7) w (pk K) fun t8 w =>
 K (.returned t8) w
theorem S_octet_ends_eq (t0 : Value) (w : World) (K : Ending → World → Prop) : wpX Tryz.prog 9 [] [] none (bodyOf Tryz.f108) (topQ Tryz.prog [.tmp 2] K) (startX [t0]) [] w = S_octet_ends t0 w K := by kernel_rfl
theorem S_octet_ends_ok {t0 : Value} {w : World} {K : Ending → World → Prop} (h : S_octet_ends t0 w K) : Calls Tryz.prog 108 #[t0] w K :=
  calls_of_wpX Tryz.func108 rfl rfl rfl rfl (Eq.mpr (S_octet_ends_eq t0 w K) h)

end Go.Proofs.YtgffladaenimmaaGreatDoor
/- Contracts: octet (ends, Begins, Line, Skip, Digit, Unhex) of the program. -/
namespace Go.Proofs.YtgffladaenimmaaGreatDoor
set_option linter.unusedVariables false
set_option linter.unusedSimpArgs false
set_option linter.defProp false
open Eng Go.RowKit

theorem ends_ret (c : UInt8) (w : World) : Ret Tryz.prog 108 #[.int .u8 c.toNat] w (fun v w' => v = .bool (Lx.eol c) ∧ w = w') := by
  refine ret_of fun K hK => S_octet_ends_ok ?_
  unfold S_octet_ends
  have e1 := u8d c 13 13 rfl
  have e2 := u8d c 10 10 rfl
  by_cases h1 : c = 13
  · simp only [rs, e1, decide_eq_true h1, g_un]
    exact hK _ _ ⟨by simp [Lx.eol, h1], rfl⟩
  simp only [rs, e1, decide_eq_false h1, g_un, e2]
  exact hK _ _ ⟨by simp [Lx.eol, h1], rfl⟩
def begins (s p : List UInt8) (k : Int) : Bool := decide (0 ≤ k) && decide (k ≤ (s.length : Int)) && p.isPrefixOf (s.drop k.toNat)
theorem begins_ret (s p : List UInt8) (k : Int) (w : World) : Ret Tryz.prog 39 #[.string ⟨s.toArray⟩, .string ⟨p.toArray⟩, .int .i64 k] w (fun v w' => v = .bool (begins s p k) ∧ w = w') := by
  refine ret_of fun K hK => S_octet_Begins_ok ?_
  unfold S_octet_Begins
  by_cases h1 : 0 ≤ k
  · simp only [rs, h1, decide_true, s_len Tryz.underlying9]
    by_cases h2 : k ≤ (s.length : Int)
    · simp only [rs, h2, decide_true]
      rw [s_from Tryz.underlying9 h1 h2]
      refine c_eq (hasPrefix_ret _ p w) ?_
      exact hK _ _ ⟨by simp [begins, h1, h2], rfl⟩
    · simp only [rs, h2, decide_false, g_un]
      exact hK _ _ ⟨by simp [begins, h2], rfl⟩
  · simp only [rs, h1, decide_false, g_un]
    exact hK _ _ ⟨by simp [begins, h1], rfl⟩
theorem crlf_begins (s : List UInt8) (k : Nat) (hk : k < s.length) (h : s[k] = 13) : begins s [13, 10] (k : Int) = decide ((s.drop (k + 1)).head? = some 10) := by
  unfold begins
  rw [Int.toNat_natCast, Lx.drop_cons hk, h, decide_eq_true (by omega), decide_eq_true (by omega)]
  cases hd : s.drop (k + 1) with
  | nil => simp
  | cons d t =>
    by_cases h10 : d = 10
    · subst h10; simp
    · have : ¬ (10 = d) := fun e => h10 e.symm
      have h11 : ((10 : UInt8) == d) = false := by simp [this]
      have h12 : ¬ (some d = some (10 : UInt8)) := by simpa using h10
      rw [List.head?_cons, decide_eq_false h12]
      simp [List.isPrefixOf, h11]
theorem line_ret (s : List UInt8) (k : Nat) (w : World) (hk : k ≤ s.length) (hs : s.length ≤ 4611686018427387904) : Ret Tryz.prog 91 #[.string ⟨s.toArray⟩, .int .i64 k] w (fun v w' => v = .int .i64 (Lx.line s k) ∧ w = w') := by
  refine ret_of fun K hK => S_octet_Line_ok ?_
  unfold S_octet_Line
  have h0 : ¬ ((k : Int) < 0) := by omega
  have h1 : ¬ ((s.length : Int) < (k : Int)) := by omega
  simp only [rs, h0, h1, decide_false, s_len Tryz.underlying9]
  refine loop (fun vs w' => ∃ (i : Nat), vs = [.int .i64 i] ∧ i ≤ s.length ∧ Lx.line s i = Lx.line s k ∧ w = w') (fun vs _ => s.length - n0 vs) ⟨k, rfl, hk, rfl, rfl⟩ ?_
  rintro vs w2 ⟨i, rfl, hi, he, rfl⟩ _
  simp only [S_octet_Line_0, gd, s_len Tryz.underlying9]
  rw [b_lss]
  by_cases hlt : (i : Int) < (s.length : Int)
  · have hi2 : i < s.length := by omega
    simp only [hlt, decide_true, i_t]
    rw [s_ix (c := s[i]) Tryz.underlying9 (by omega) (by simp [hi2])]
    have hd := Lx.drop_cons hi2
    have e1 := u8d s[i] 10 10 rfl
    have e2 := u8d s[i] 13 13 rfl
    by_cases g1 : s[i] = 10
    · simp only [rs, e1, decide_eq_true g1]
      rw [wrap64_id (by omega) (by omega)]
      refine hK _ _ ⟨?_, rfl⟩
      rw [← he, Lx.line, hd, Lx.lineF, if_pos g1]; simp
    simp only [rs, e1, decide_eq_false g1]
    by_cases g2 : s[i] = 13
    · simp only [rs, e2, decide_eq_true g2]
      refine c_eq (begins_ret s [13, 10] i w) ?_
      rw [crlf_begins s i hi2 g2]
      by_cases g3 : (s.drop (i + 1)).head? = some 10
      · simp only [decide_eq_true g3, i_t]
        rw [wrap64_id (by omega) (by omega)]
        refine hK _ _ ⟨?_, rfl⟩
        rw [← he, Lx.line, hd, Lx.lineF, if_neg g1, if_pos g2, if_pos g3]; simp
      · simp only [decide_eq_false g3, i_f]
        rw [wrap64_id (by omega) (by omega)]
        refine hK _ _ ⟨?_, rfl⟩
        rw [← he, Lx.line, hd, Lx.lineF, if_neg g1, if_pos g2, if_neg g3]; simp
    simp only [rs, e2, decide_eq_false g2]
    rw [wrap64_id (by omega) (by omega)]
    refine nextX ⟨i + 1, rfl, by omega, ?_, rfl⟩ (by simp [n0, intOf]; omega)
    rw [← he]
    simp only [Lx.line]
    rw [hd, Lx.lineF, if_neg g1, if_neg g2]; omega
  · have hi2 : i = s.length := by omega
    subst hi2
    simp only [hlt, decide_false, i_f]
    refine hK _ _ ⟨?_, rfl⟩
    rw [← he, Lx.line, List.drop_length]; simp [Lx.lineF]
theorem skip_ret (s : List UInt8) (k : Int) (w : World) (hs : s.length ≤ 4611686018427387904) : Ret Tryz.prog 79 #[.string ⟨s.toArray⟩, .int .i64 k] w (fun v w' => v = .int .i64 (Lx.skipI s k) ∧ w = w') := by
  refine ret_of fun K hK => S_octet_Skip_ok ?_
  unfold S_octet_Skip
  by_cases h0 : k < 0
  · simp only [rs, h0, decide_true, g_un]
    exact hK _ _ ⟨by rw [Lx.skipI, if_pos (.inl h0)], rfl⟩
  simp only [rs, h0, decide_false, s_len Tryz.underlying9]
  by_cases h1 : (s.length : Int) < k
  · simp only [rs, h1, decide_true]
    exact hK _ _ ⟨by rw [Lx.skipI, if_pos (.inr h1)], rfl⟩
  simp only [rs, h1, decide_false]
  have hsk : Lx.skipI s k = ((Lx.skip s k.toNat : Nat) : Int) := by rw [Lx.skipI, if_neg (by omega)]
  refine loop (fun vs w' => ∃ (i : Nat) (b : Bool), vs = [.int .i64 i, .bool b] ∧ i ≤ s.length ∧ i + Lx.skipF b (s.drop i) = Lx.skip s k.toNat ∧ w = w') (fun vs _ => s.length - n0 vs) ⟨k.toNat, false, by rw [Int.toNat_of_nonneg (by omega)], by omega, rfl, rfl⟩ ?_
  rintro vs w2 ⟨i, b, rfl, hi, he, rfl⟩ _
  simp only [S_octet_Skip_0, gd, s_len Tryz.underlying9]
  rw [b_lss]
  by_cases hlt : (i : Int) < (s.length : Int)
  · have hi2 : i < s.length := by omega
    simp only [hlt, decide_true, i_t]
    refine join fun J2 hJ2 => ?_
    rw [s_ix (c := s[i]) Tryz.underlying9 (by omega) (by simp [hi2])]
    have hd := Lx.drop_cons hi2
    rw [hd] at he
    have fin : ∀ b' : Bool, i + 1 + Lx.skipF b' (s.drop (i + 1)) = Lx.skip s k.toNat → J2 [.bool b'] w := by
      intro b' hb'
      refine hJ2 _ _ fun _ => ?_
      simp only [S_octet_Skip_1, gd]
      rw [b_add, wrap64_id (by omega) (by omega)]
      exact nextX ⟨i + 1, b', rfl, by omega, hb', rfl⟩ (by simp [n0, intOf]; omega)
    cases b with
    | true =>
      simp only [i_t]
      refine c_eq (ends_ret s[i] w) ?_
      simp only [rs]
      exact fin _ (by rw [Lx.skipF] at he; omega)
    | false =>
      simp only [i_f]
      have e1 := u8d s[i] 37 37 rfl
      by_cases g1 : s[i] = 37
      · simp only [rs, e1, decide_eq_true g1]
        exact fin _ (by rw [Lx.skipF, if_pos g1] at he; omega)
      simp only [rs, e1, decide_eq_false g1]
      refine c_eq (white_ret s[i] w) ?_
      cases hw : Oc.white s[i] with
      | true =>
        simp only [rs]
        exact fin _ (by rw [Lx.skipF, if_neg g1, if_pos hw] at he; omega)
      | false =>
        simp only [rs]
        refine hK _ _ ⟨?_, rfl⟩
        rw [Lx.skipF, if_neg g1, if_neg (by simp [hw])] at he
        rw [hsk, ← he]; simp
  · have hi2 : i = s.length := by omega
    subst hi2
    simp only [hlt, decide_false, i_f]
    rw [List.drop_length] at he
    refine hK _ _ ⟨?_, rfl⟩
    rw [hsk, ← he]
    cases b <;> simp [Lx.skipF]
 attribute [local congr] g_congr in
theorem digit_ret (c : UInt8) (w : World) : Ret Tryz.prog 38 #[.int .u8 c.toNat] w (fun v w' => v = .int .i64 (Lx.digit c) ∧ w = w') := by
  refine ret_of fun K hK => S_octet_Digit_ok ?_
  unfold S_octet_Digit
  have h256 := c.toNat_lt
  have conv : ∀ {n : Int} {PK K}, 0 ≤ n → n ≤ 255 → DoX Tryz.prog (mConv 5 3 (.int .u8 n)) w PK K = K (.int .i64 n) w := by
    intro n PK K h0 h1
    rw [c_int (show (Tryz.prog.underlying 5).isSome = true by kernel_rfl) Tryz.underlying3, wrap64_id (by omega) (by omega)]
  simp +contextual only [rs, gs]
  by_cases h1 : 48 ≤ c.toNat ∧ c.toNat ≤ 57
  · have hb : (decide ((48 : Int) ≤ (c.toNat : Int)) && decide ((c.toNat : Int) ≤ 57)) = true := by simp; omega
    simp only [hb, i_t]
    rw [wrap8_id (by omega) (by omega), conv (by omega) (by omega)]
    exact hK _ _ ⟨by rw [Lx.digit, if_pos h1], rfl⟩
  have hb : (decide ((48 : Int) ≤ (c.toNat : Int)) && decide ((c.toNat : Int) ≤ 57)) = false := by
    rw [Bool.and_eq_false_iff, decide_eq_false_iff_not, decide_eq_false_iff_not]; omega
  simp only [hb, i_f]
  by_cases h2 : 65 ≤ c.toNat ∧ c.toNat ≤ 70
  · have hb : (decide ((65 : Int) ≤ (c.toNat : Int)) && decide ((c.toNat : Int) ≤ 70)) = true := by simp; omega
    simp only [hb, i_t]
    rw [wrap8_id (by omega) (by omega), conv (by omega) (by omega), b_add, wrap64_id (by omega) (by omega)]
    exact hK _ _ ⟨by rw [Lx.digit, if_neg h1, if_pos h2], rfl⟩
  have hb : (decide ((65 : Int) ≤ (c.toNat : Int)) && decide ((c.toNat : Int) ≤ 70)) = false := by
    rw [Bool.and_eq_false_iff, decide_eq_false_iff_not, decide_eq_false_iff_not]; omega
  simp only [hb, i_f]
  by_cases h3 : 97 ≤ c.toNat ∧ c.toNat ≤ 102
  · have hb : (decide ((97 : Int) ≤ (c.toNat : Int)) && decide ((c.toNat : Int) ≤ 102)) = true := by simp; omega
    simp only [hb, i_t]
    rw [wrap8_id (by omega) (by omega), conv (by omega) (by omega), b_add, wrap64_id (by omega) (by omega)]
    exact hK _ _ ⟨by rw [Lx.digit, if_neg h1, if_neg h2, if_pos h3], rfl⟩
  have hb : (decide ((97 : Int) ≤ (c.toNat : Int)) && decide ((c.toNat : Int) ≤ 102)) = false := by
    rw [Bool.and_eq_false_iff, decide_eq_false_iff_not, decide_eq_false_iff_not]; omega
  simp only [hb, i_f]
  exact hK _ _ ⟨by rw [Lx.digit, if_neg h1, if_neg h2, if_neg h3], rfl⟩
end Go.Proofs.YtgffladaenimmaaGreatDoor
/- Plain mathematics of layer 3: tokens; no program in sight. -/
namespace Go.Proofs.YtgffladaenimmaaGreatDoor
set_option linter.unusedVariables false
set_option linter.unusedSimpArgs false
set_option linter.defProp false
open Go
namespace Lx
open Oc
structure Tok where
  k : Int
  a : Int
  t : Int
  n : Int
  s : List UInt8
  deriving DecidableEq
def none_ : Tok := ⟨0, 0, 0, 0, []⟩
def refused (e : Int) : Tok × Int := (none_, e)
def told (k a t : Int) (x : List UInt8) (most : Int) : Tok × Int := if most < (x.length : Int) then refused 5 else (⟨k, a, t, 0, x⟩, 0)
def runF : List UInt8 → Nat
  | [] => 0
  | c :: t => if regular c then 1 + runF t else 0
def run (s : List UInt8) (i : Nat) : Nat := i + runF (s.drop i)
theorem runF_le : ∀ l : List UInt8, runF l ≤ l.length
  | [] => by simp [runF]
  | c :: t => by
    have := runF_le t
    simp only [runF, List.length_cons]
    split <;> omega
theorem run_le (s : List UInt8) {k : Nat} (h : k ≤ s.length) : run s k ≤ s.length := by
  have := runF_le (s.drop k)
  rw [List.length_drop] at this
  unfold run; omega
/-- The bytes from i to j. -/
def cut (s : List UInt8) (i j : Nat) : List UInt8 := (s.drop i).take (j - i)
/- NAMES -/
def nameF : List UInt8 → Option (List UInt8)
  | [] => some []
  | c :: t =>
    if c = 35 then match t with
      | a :: b :: t => if digit a < 0 ∨ digit b < 0 ∨ 16 * digit a + digit b = 0 then none else (nameF t).map (byte (digit a) (digit b) :: ·)
      | _ => none
    else (nameF t).map (c :: ·)
theorem nameF_ne {c : UInt8} {t : List UInt8} (h : ¬ c = 35) : nameF (c :: t) = (nameF t).map (c :: ·) := by
  cases t with
  | nil => simp [nameF, h]
  | cons a t => cases t <;> simp [nameF, h]
def name (s : List UInt8) (at_ : Nat) : Tok × Int :=
  match nameF (cut s (at_ + 1) (run s (at_ + 1))) with
  | none => refused 3
  | some x => told 4 at_ (run s (at_ + 1)) x 127
/- LITERAL STRINGS -/
def oct (c : UInt8) : Bool := decide (48 ≤ c.toNat) && decide (c.toNat ≤ 55)
def octF : Nat → Nat → List UInt8 → Nat × Nat
  | 0, n, _ => (n, 0)
  | _ + 1, n, [] => (n, 0)
  | m + 1, n, c :: t => if oct c then ((octF m (8 * n + (c.toNat - 48)) t).1, (octF m (8 * n + (c.toNat - 48)) t).2 + 1) else (n, 0)
def escL (c : UInt8) : Option UInt8 := if c = 110 then some 10 else if c = 114 then some 13 else if c = 116 then some 9 else if c = 98 then some 8 else if c = 102 then some 12 else none
def escF : List UInt8 → List UInt8 × Nat
  | [] => ([], 0)
  | c :: t => match escL c with
    | some b => ([b], 1)
    | none => if eol c then ([], lineF (c :: t)) else if 0 < (octF 3 0 (c :: t)).2 then ([UInt8.ofNat (octF 3 0 (c :: t)).1], (octF 3 0 (c :: t)).2) else ([c], 1)
/-- What a literal string says, and how many bytes it takes (some are to be left out first). -/
def textG : Nat → Nat → List UInt8 → Option (List UInt8 × Nat)
  | _, _, [] => none
  | k + 1, o, _ :: t => (textG k o t).map fun r => (r.1, r.2 + 1)
  | 0, o, c :: t =>
    if eol c then (textG (lineF (c :: t) - 1) o t).map fun r => (10 :: r.1, r.2 + 1)
    else if c = 92 then if t = [] then none else (textG (escF t).2 o t).map fun r => ((escF t).1 ++ r.1, r.2 + 1)
    else if c = 40 then (textG 0 (o + 1) t).map fun r => (c :: r.1, r.2 + 1)
    else if c = 41 then if o ≤ 1 then some ([], 1) else (textG 0 (o - 1) t).map fun r => (c :: r.1, r.2 + 1)
    else (textG 0 o t).map fun r => (c :: r.1, r.2 + 1)
theorem textG_skip : ∀ (k o : Nat) (l : List UInt8), k ≤ l.length → textG k o l = (textG 0 o (l.drop k)).map fun r => (r.1, r.2 + k)
  | 0, o, l, _ => by simp
  | k + 1, o, [], h => by simp at h
  | k + 1, o, c :: t, h => by
    have ih := textG_skip k o t (by simpa using h)
    simp only [textG, ih, List.drop_succ_cons, Option.map_map]
    congr 1
theorem octF_le : ∀ (m n : Nat) (l : List UInt8), (octF m n l).2 ≤ l.length ∧ (octF m n l).2 ≤ m
  | 0, n, l => by simp [octF]
  | m + 1, n, [] => by simp [octF]
  | m + 1, n, c :: t => by
    have := octF_le m (8 * n + (c.toNat - 48)) t
    simp only [octF]
    split <;> simp <;> omega
theorem escF_le (l : List UInt8) : (escF l).2 ≤ l.length := by
  cases l with
  | nil => simp [escF]
  | cons c t =>
    simp only [escF]
    split
    · simp
    · split
      · exact lineF_le _
      · split
        · exact (octF_le _ _ _).1
        · simp
def text (s : List UInt8) (at_ : Nat) : Tok × Int :=
  match textG 0 1 (s.drop (at_ + 1)) with
  | none => refused 4
  | some r => told 3 at_ (at_ + 1 + r.2 : Nat) r.1 32767
/- HEXADECIMAL STRINGS -/
def hexF : Int → List UInt8 → (List UInt8 × Nat) ⊕ Int
  | _, [] => .inr 4
  | h, c :: t =>
    if c = 62 then .inl (if 0 ≤ h then [byte h 0] else [], 1)
    else if white c then match hexF h t with | .inl r => .inl (r.1, r.2 + 1) | .inr e => .inr e
    else if digit c < 0 then .inr 3
    else if h < 0 then match hexF (digit c) t with | .inl r => .inl (r.1, r.2 + 1) | .inr e => .inr e
    else match hexF (-1) t with | .inl r => .inl (byte h (digit c) :: r.1, r.2 + 1) | .inr e => .inr e
def hex (s : List UInt8) (at_ : Nat) : Tok × Int :=
  match hexF (-1) (s.drop (at_ + 1)) with
  | .inr e => refused e
  | .inl r => told 3 at_ (at_ + 1 + r.2 : Nat) r.1 32767
/- WORDS -/
def sgn (c : UInt8) : Bool := decide (c = 43) || decide (c = 45)
def dig (c : UInt8) : Bool := decide (48 ≤ c.toNat) && decide (c.toNat ≤ 57)
def unsign : List UInt8 → List UInt8
  | [] => []
  | c :: t => if sgn c then t else c :: t
def intForm (t : List UInt8) : Bool := !(unsign t).isEmpty && (unsign t).all dig
def val (n : Nat) (l : List UInt8) : Nat := l.foldl (fun n c => 10 * n + (c.toNat - 48)) n
def whole (t : List UInt8) : Int × Int :=
  if 2147483647 < val 0 (unsign t) then (0, 2) else (if t.head? = some 45 then -(val 0 (unsign t) : Int) else (val 0 (unsign t) : Int), 0)
def wordT (t : List UInt8) (a b : Int) : Tok × Int :=
  if intForm t then (if (whole t).2 ≠ 0 then refused (whole t).2 else (⟨1, a, b, (whole t).1, []⟩, 0))
  else if t.contains 46 ∧ (Fx.read t).2 = 0 then (⟨2, a, b, (Fx.read t).1, []⟩, 0)
  else if t.contains 46 ∧ (Fx.read t).2 = 2 then refused 2
  else told 5 a b t 127
def word (s : List UInt8) (at_ : Nat) : Tok × Int := wordT (cut s at_ (run s at_)) at_ (run s at_)
/- TOKENS -/
def mark (s : List UInt8) (at_ n : Nat) : Tok × Int := (⟨6, at_, (at_ + n : Nat), 0, cut s at_ (at_ + n)⟩, 0)
def token (s : List UInt8) (a : Nat) : Tok × Int :=
  match s.drop a with
  | [] => (⟨0, a, a, 0, []⟩, 0)
  | c :: t =>
    if c = 91 ∨ c = 93 ∨ c = 123 ∨ c = 125 then mark s a 1
    else if c = 60 then (if t.head? = some c then mark s a 2 else hex s a)
    else if c = 62 then (if t.head? = some c then mark s a 2 else refused 3)
    else if c = 47 then name s a
    else if c = 40 then text s a
    else if c = 41 then refused 3
    else word s a
def next (s : List UInt8) (at_ : Int) : Tok × Int := if at_ < 0 ∨ (s.length : Int) < at_ then refused 1 else token s (skip s at_.toNat)
/-- At most so many tokens, or a fault and its place. -/
def upto (s : List UInt8) : Nat → Int → List Tok ⊕ (Int × Int)
  | 0, _ => .inl []
  | m + 1, at_ =>
    if (next s at_).2 ≠ 0 then .inr (skipI s at_, (next s at_).2)
    else if (next s at_).1.k = 0 then .inl []
    else match upto s m (next s at_).1.t with
      | .inl l => .inl ((next s at_).1 :: l)
      | .inr f => .inr f
end Lx
end Go.Proofs.YtgffladaenimmaaGreatDoor
/- The engine's rules for variables of several cells (structs): loads, stores, results. -/
namespace Go.Proofs.YtgffladaenimmaaGreatDoor
set_option linter.unusedVariables false
set_option linter.unusedSimpArgs false
set_option linter.defProp false
set_option linter.unusedSimpArgs false
set_option linter.unusedVariables false
namespace Eng
open Go.RowKit

/-- A type of n cells whose values are aggregates. -/
def aggN (P : Program) (T : TypeId) : Option Nat :=
  match P.underlying T with
  | some (.struct _) | some (.array _ _) => (P.info? T).map (·.size)
  | _ => none
/-- The variable of type T at an address reads v. -/
def AtV (P : Program) (w : World) (T : TypeId) (a : Addr) (v : Value) : Prop := (loadVar T a).run P w = .ok v w

section
variable {S : Nat → Prop} {P : Program} {w : World} {PK : List PanicEntry → World → Prop} {K : Value → World → Prop}
theorem AtV.cell {T : TypeId} (ht : notAgg P T = true) {a : Addr} {v : Value} (h : w.cell? a = some v) : AtV P w T a v := run_loadVar_cell ht h
theorem AtV.agg {T : TypeId} {n : Nat} (ht : aggN P T = some n) {b off : Nat} {cs : List Value} (hl : cs.length = n) (h : ∀ j v, cs[j]? = some v → w.cell? ⟨b, off + j, none⟩ = some v) : AtV P w T ⟨b, off, none⟩ (.agg cs.toArray) := by
  have hc := run_loadCells_list (P := P) w ⟨b, off, none⟩ cs (fun j v hj => by rw [add_none]; exact h j v hj)
  unfold aggN at ht
  subst hl
  unfold AtV
  split at ht
  · rename_i fs hu
    obtain ⟨i, hi, h1⟩ := Option.map_eq_some_iff.1 ht
    simp [loadVar, isAgg, run_underlying hu, sizeOf, typeInfo, hi, h1, hc]
  · rename_i k e hu
    obtain ⟨i, hi, h1⟩ := Option.map_eq_some_iff.1 ht
    simp [loadVar, isAgg, run_underlying hu, sizeOf, typeInfo, hi, h1, hc]
  · cases ht
theorem run_load_at {T : TypeId} {a : Addr} {v : Value} (h : AtV P w T a v) : (mLoad T (.pointer (some a))).run P w = .ok (.value v) w := by
  unfold AtV at h
  exact mv_run (by simp [Instr.loadAt, Instr.sureAddr, h])
theorem l_at {T : TypeId} {a : Addr} {v : Value} (h : AtV P w T a v) : DoX P (mLoad T (.pointer (some a))) w PK K = K v w := do_eq (run_load_at h)
/-- A whole variable of the call's own: the i-th piece. -/
theorem OwnS.agg {w0 : World} {L : List Ent} (ho : OwnS S w0 w L) (i : Nat) {b : Nat} {cs : List Value} {E T : TypeId} (hi : L[i]? = some (.cells b cs E)) (ht : aggN P T = some cs.length) : AtV P w T ⟨b, 0, none⟩ (.agg cs.toArray) :=
  AtV.agg ht rfl fun j v hj => by rw [Nat.zero_add]; exact ho.cell i hi j hj
theorem OwnS.fld {w0 : World} {L : List Ent} (ho : OwnS S w0 w L) (i : Nat) {b : Nat} {cs : List Value} {E T : TypeId} (hi : L[i]? = some (.cells b cs E)) (j : Nat) {v : Value} (hv : cs[j]? = some v) (ht : notAgg P T = true) : AtV P w T ⟨b, j, none⟩ v :=
  AtV.cell ht (ho.cell i hi j hv)
theorem run_store_agg {T : TypeId} {b : Nat} {cs new : List Value} {E : TypeId} (hs : (P.info? T).map (·.size) = some new.length) (hv : ∀ v ∈ new, v.oneCell' = true) (hl : cs.length = new.length) (h : w.heap[b]? = some (.cells cs.toArray E (0, 0))) :
    (Instr.storeAt T (.pointer (some ⟨b, 0, none⟩)) (.agg new.toArray)).run P w = .ok () (w.setRow b new.toArray) := by
  have hst := run_storeCells_at P b 0 E new 0 cs.toArray w h (by simp; omega) hv
  obtain ⟨i, hi, h1⟩ := Option.map_eq_some_iff.1 hs
  have hd : cs.toArray.toList.drop new.length = [] := List.drop_eq_nil_of_le (by rw [← hl]; exact Nat.le_refl _)
  simp only [Nat.add_zero, Nat.zero_add, List.take_zero, List.nil_append, hd, List.append_nil] at hst
  have hc : (Value.agg new.toArray).cells = new.toArray := rfl
  simp [Instr.storeAt, Instr.sureAddr, storeVar, hc, sizeOf, typeInfo, hi, h1, hst]
/-- A store of a whole variable of the call's own. -/
theorem o_put {w0 : World} {L : List Ent} (i : Nat) {T : TypeId} {b : Nat} {cs new : List Value} {E : TypeId} (ho : OwnS S w0 w L) (hi : L[i]? = some (.cells b cs E)) (hs : (P.info? T).map (·.size) = some new.length) (hv : ∀ v ∈ new, v.oneCell' = true) (hl : cs.length = new.length)
    (k : ∀ w', OwnS S w0 w' (L.set i (.cells b new E)) → K undef w') : DoX P (mStore T (.pointer (some ⟨b, 0, none⟩)) (.agg new.toArray)) w PK K :=
  do_skip (mu_run (run_store_agg hs hv hl (ho.at_ i hi))) (k _ (setRow_own ho i hi _))
theorem run_s_slice {T : TypeId} {a : List UInt8} {k k' : IntKind} {lo hi : Int} (h : P.underlying T = some .string) (h0 : 0 ≤ lo) (h1 : lo ≤ hi) (h2 : hi ≤ a.length) :
    (mSlice T (.string ⟨a.toArray⟩) (some (.int k lo)) (some (.int k' hi)) none).run P w = .ok (.value (.string ⟨((a.drop lo.toNat).take (hi.toNat - lo.toNat)).toArray⟩)) w := by
  refine mv_run ?_
  have e : (⟨a.toArray⟩ : ByteArray).extract lo.toNat hi.toNat = ⟨((a.drop lo.toNat).take (hi.toNat - lo.toNat)).toArray⟩ := by
    rw [str_ext (s := (⟨a.toArray⟩ : ByteArray).extract lo.toNat hi.toNat), Lib.extract_data]
  have g1 : (0 ≤ hi ∧ hi ≤ ((a.length : Nat) : Int)) := by omega
  have g2 : (0 ≤ lo ∧ lo ≤ ((hi.toNat : Nat) : Int)) := by omega
  simp only [Instr.sliceAt, Instr.slice, Instr.sliceBounds, Instr.sliceBound, asIntOf, run_underlying h, str_size]
  have g3 : lo ≤ max hi 0 := by omega
  simp [run_underlying h, str_size, h2, g3, h0, g1.1, e]
theorem ret_same {f : Nat} {args : Array Value} {v : Value} {C : World → Prop} (h : Ret P f args w (fun v' w' => v' = v ∧ w = w')) (hb : C w) : Ret P f args w (fun v' w' => v' = v ∧ C w') :=
  h.mono fun v' w' r => ⟨r.1, r.2 ▸ hb⟩
theorem ret_grew {f : Nat} {args : Array Value} {v : Value} {w1 : World} (h : Ret P f args w (fun v' w' => v' = v ∧ Below w.heap.size w w')) (hb : Below w1.heap.size w1 w) : Ret P f args w (fun v' w' => v' = v ∧ Below w1.heap.size w1 w') :=
  h.mono fun v' w' r => ⟨r.1, (((Own.start w1).grow hb).grow r.2).done⟩
/- RESULTS -/
theorem ret_v1 {r1 : RV} {v1 : Value} {K : Ending → World → Prop} (h1 : r1.read.run P w = .ok v1 w) (k : K (.returned v1) w) : RetX P [r1] w K :=
  ⟨_, by simp [resRun, h1], k⟩
theorem ret_v2 {r1 r2 : RV} {v1 v2 : Value} {K : Ending → World → Prop} (h1 : r1.read.run P w = .ok v1 w) (h2 : r2.read.run P w = .ok v2 w) (k : K (.returned (.tuple #[v1, v2])) w) : RetX P [r1, r2] w K :=
  ⟨_, by simp [resRun, h1, h2], k⟩
theorem ret_v3 {r1 r2 r3 : RV} {v1 v2 v3 : Value} {K : Ending → World → Prop} (h1 : r1.read.run P w = .ok v1 w) (h2 : r2.read.run P w = .ok v2 w) (h3 : r3.read.run P w = .ok v3 w) (k : K (.returned (.tuple #[v1, v2, v3])) w) : RetX P [r1, r2, r3] w K :=
  ⟨_, by simp [resRun, h1, h2, h3], k⟩
theorem rv_cell {T : TypeId} {a : Addr} {v : Value} (h : AtV P w T a v) : (RV.cell (.pointer (some a)) T).read.run P w = .ok v w := by
  unfold AtV at h
  simp [RV.read, asAddr, h]
theorem rv_val {v : Value} : (RV.val v).read.run P w = .ok v w := by simp [RV.read]
end
end Eng
end Go.Proofs.YtgffladaenimmaaGreatDoor
/- Code in continuation form, by program (gen.py): 17 functions. -/
namespace Go.Proofs.YtgffladaenimmaaGreatDoor
set_option linter.unusedVariables false
set_option linter.unusedSimpArgs false
set_option linter.defProp false
set_option linter.unusedVariables false
set_option maxRecDepth 20000
open Eng

/- lex.Next -/
def S_lex_Next_0 (t4 t6 t7 t49 t50 : Value) (w : World) (K : Ending → World → Prop) : Prop :=
 IfX t50 (DoX Tryz.prog (mLoad 107 t6) w (pk K) fun t55 w =>
 CallX Tryz.prog 80 #[t55, (.int .i64 1)] w (pk K) fun t56 w =>
 DoX Tryz.prog (mExt t56 0) w (pk K) fun t57 w =>
 DoX Tryz.prog (mExt t56 1) w (pk K) fun t58 w =>
 DoX Tryz.prog (mStore 63 t4 t57) w (pk K) fun _ w =>
 RetX Tryz.prog [.cell t4 63, .val t58] w K) (DoX Tryz.prog (mEq .eql 5 (.tmp 49) (.const (.int .u8 60)) t49 (.int .u8 60)) w (pk K) fun t60 w =>
 IfX t60 (IfX t7 (DoX Tryz.prog (mLoad 107 t6) w (pk K) fun t62 w =>
 CallX Tryz.prog 80 #[t62, (.int .i64 2)] w (pk K) fun t63 w =>
 DoX Tryz.prog (mExt t63 0) w (pk K) fun t64 w =>
 DoX Tryz.prog (mExt t63 1) w (pk K) fun t65 w =>
 DoX Tryz.prog (mStore 63 t4 t64) w (pk K) fun _ w =>
 RetX Tryz.prog [.cell t4 63, .val t65] w K) (DoX Tryz.prog (mLoad 107 t6) w (pk K) fun t66 w =>
 CallX Tryz.prog 81 #[t66] w (pk K) fun t67 w =>
 DoX Tryz.prog (mExt t67 0) w (pk K) fun t68 w =>
 DoX Tryz.prog (mExt t67 1) w (pk K) fun t69 w =>
 DoX Tryz.prog (mStore 63 t4 t68) w (pk K) fun _ w =>
 RetX Tryz.prog [.cell t4 63, .val t69] w K)) (DoX Tryz.prog (mEq .eql 5 (.tmp 49) (.const (.int .u8 62)) t49 (.int .u8 62)) w (pk K) fun t71 w =>
 IfX t71 (IfX t7 (DoX Tryz.prog (mLoad 107 t6) w (pk K) fun t73 w =>
 CallX Tryz.prog 80 #[t73, (.int .i64 2)] w (pk K) fun t74 w =>
 DoX Tryz.prog (mExt t74 0) w (pk K) fun t75 w =>
 DoX Tryz.prog (mExt t74 1) w (pk K) fun t76 w =>
 DoX Tryz.prog (mStore 63 t4 t75) w (pk K) fun _ w =>
 RetX Tryz.prog [.cell t4 63, .val t76] w K) (CallX Tryz.prog 78 #[(.int .i64 3)] w (pk K) fun t77 w =>
 DoX Tryz.prog (mExt t77 0) w (pk K) fun t78 w =>
 DoX Tryz.prog (mExt t77 1) w (pk K) fun t79 w =>
 DoX Tryz.prog (mStore 63 t4 t78) w (pk K) fun _ w =>
 RetX Tryz.prog [.cell t4 63, .val t79] w K)) (DoX Tryz.prog (mEq .eql 5 (.tmp 49) (.const (.int .u8 47)) t49 (.int .u8 47)) w (pk K) fun t81 w =>
 IfX t81 (DoX Tryz.prog (mLoad 107 t6) w (pk K) fun t82 w =>
 CallX Tryz.prog 82 #[t82] w (pk K) fun t83 w =>
 DoX Tryz.prog (mExt t83 0) w (pk K) fun t84 w =>
 DoX Tryz.prog (mExt t83 1) w (pk K) fun t85 w =>
 DoX Tryz.prog (mStore 63 t4 t84) w (pk K) fun _ w =>
 RetX Tryz.prog [.cell t4 63, .val t85] w K) (DoX Tryz.prog (mEq .eql 5 (.tmp 49) (.const (.int .u8 40)) t49 (.int .u8 40)) w (pk K) fun t87 w =>
 IfX t87 (DoX Tryz.prog (mLoad 107 t6) w (pk K) fun t88 w =>
 CallX Tryz.prog 83 #[t88] w (pk K) fun t89 w =>
 DoX Tryz.prog (mExt t89 0) w (pk K) fun t90 w =>
 DoX Tryz.prog (mExt t89 1) w (pk K) fun t91 w =>
 DoX Tryz.prog (mStore 63 t4 t90) w (pk K) fun _ w =>
 RetX Tryz.prog [.cell t4 63, .val t91] w K) (DoX Tryz.prog (mEq .eql 5 (.tmp 49) (.const (.int .u8 41)) t49 (.int .u8 41)) w (pk K) fun t93 w =>
 IfX t93 (CallX Tryz.prog 78 #[(.int .i64 3)] w (pk K) fun t94 w =>
 DoX Tryz.prog (mExt t94 0) w (pk K) fun t95 w =>
 DoX Tryz.prog (mExt t94 1) w (pk K) fun t96 w =>
 DoX Tryz.prog (mStore 63 t4 t95) w (pk K) fun _ w =>
 RetX Tryz.prog [.cell t4 63, .val t96] w K) (DoX Tryz.prog (mLoad 107 t6) w (pk K) fun t97 w =>
 CallX Tryz.prog 84 #[t97] w (pk K) fun t98 w =>
 DoX Tryz.prog (mExt t98 0) w (pk K) fun t99 w =>
 DoX Tryz.prog (mExt t98 1) w (pk K) fun t100 w =>
 DoX Tryz.prog (mStore 63 t4 t99) w (pk K) fun _ w =>
 RetX Tryz.prog [.cell t4 63, .val t100] w K))))))
def S_lex_Next (t0 t1 : Value) (w : World) (K : Ending → World → Prop) : Prop :=
 DoX Tryz.prog (mAlloc 63) w (pk K) fun t4 w =>
 DoX Tryz.prog (mBin .lss 3 t1 (.int .i64 0)) w (pk K) fun t9 w =>
 GDo t9 false (fun E => E t1 w) w fun t11 w =>
 GDo t9 false (fun E => E t0 w) w fun t12 w =>
 GDo t9 false (fun E => DoX Tryz.prog (mB .len #[9] 3 #[false] #[t12]) w (pk K) E) w fun t13 w =>
 GDo t9 false (fun E => DoX Tryz.prog (mBin .gtr 3 t11 t13) w (pk K) E) w fun t14 w =>
 DoX Tryz.prog (mPick t9 (.bool true) t14) w (pk K) fun t15 w =>
 IfX t15 (CallX Tryz.prog 78 #[(.int .i64 1)] w (pk K) fun t16 w =>
 DoX Tryz.prog (mExt t16 0) w (pk K) fun t17 w =>
 DoX Tryz.prog (mExt t16 1) w (pk K) fun t18 w =>
 DoX Tryz.prog (mStore 63 t4 t17) w (pk K) fun _ w =>
 RetX Tryz.prog [.cell t4 63, .val t18] w K) (CallX Tryz.prog 79 #[t0, t1] w (pk K) fun t22 w =>
 DoX Tryz.prog (mBuild 107 #[(0, t0), (1, t22)]) w (pk K) fun t23 w =>
 DoX Tryz.prog (mAlloc 107) w (pk K) fun t6 w =>
 DoX Tryz.prog (mStore 107 t6 t23) w (pk K) fun _ w =>
 DoX Tryz.prog (mFA 107 t6 1) w (pk K) fun t24 w =>
 DoX Tryz.prog (mLoad 3 t24) w (pk K) fun t25 w =>
 DoX Tryz.prog (mB .len #[9] 3 #[false] #[t0]) w (pk K) fun t27 w =>
 DoX Tryz.prog (mEq .eql 3 (.tmp 25) (.tmp 27) t25 t27) w (pk K) fun t28 w =>
 IfX t28 (DoX Tryz.prog (mFA 107 t6 1) w (pk K) fun t29 w =>
 DoX Tryz.prog (mLoad 3 t29) w (pk K) fun t30 w =>
 DoX Tryz.prog (mFA 107 t6 1) w (pk K) fun t31 w =>
 DoX Tryz.prog (mLoad 3 t31) w (pk K) fun t32 w =>
 DoX Tryz.prog (mBuild 63 #[(1, t30), (2, t32)]) w (pk K) fun t33 w =>
 DoX Tryz.prog (mStore 63 t4 t33) w (pk K) fun _ w =>
 RetX Tryz.prog [.cell t4 63, .val (.int .i64 0)] w K) (QuietX w (fun C1 =>
 QDo Tryz.prog C1 (mFA 107 t6 1) fun t36 =>
 QDo Tryz.prog C1 (mLoad 3 t36) fun t37 =>
 QDo Tryz.prog C1 (mFA 107 t6 1) fun t38 =>
 QDo Tryz.prog C1 (mLoad 3 t38) fun t39 =>
 QDo Tryz.prog C1 (mBin .add 3 t39 (.int .i64 1)) fun t40 =>
 QDo Tryz.prog C1 (mSlice 9 t0 (some t37) (some t40) none) fun t41 =>
 QDo Tryz.prog C1 (mFA 107 t6 1) fun t42 =>
 QDo Tryz.prog C1 (mLoad 3 t42) fun t43 =>
 QDo Tryz.prog C1 (mBin .add 3 t43 (.int .i64 1)) fun t44 =>
 QCall Tryz.prog C1 39 #[t0, t41, t44] fun t45 =>
 ∀ w, C1 w →
 DoX Tryz.prog (mFA 107 t6 1) w (pk K) fun t47 w =>
 DoX Tryz.prog (mLoad 3 t47) w (pk K) fun t48 w =>
 DoX Tryz.prog (mIx 9 t0 t48) w (pk K) fun t49 w =>
 JoinX (fun J2 =>
 DoX Tryz.prog (mEq .eql 5 (.tmp 49) (.const (.int .u8 91)) t49 (.int .u8 91)) w (pk K) fun t51 w =>
 IfX t51 (J2 [t51] w) (DoX Tryz.prog (mEq .eql 5 (.tmp 49) (.const (.int .u8 93)) t49 (.int .u8 93)) w (pk K) fun t52 w =>
 IfX t52 (J2 [t52] w) (DoX Tryz.prog (mEq .eql 5 (.tmp 49) (.const (.int .u8 123)) t49 (.int .u8 123)) w (pk K) fun t53 w =>
 IfX t53 (J2 [t53] w) (DoX Tryz.prog (mEq .eql 5 (.tmp 49) (.const (.int .u8 125)) t49 (.int .u8 125)) w (pk K) fun t54 w =>
 J2 [t54] w)))) (fun vs2 w => ∀ _ : Sg, S_lex_Next_0 t4 t6 t45 t49 (vs2.getD 0 undef) w K))))
theorem S_lex_Next_eq (t0 t1 : Value) (w : World) (K : Ending → World → Prop) : wpX Tryz.prog 101 [(12, [50])] [] none (bodyOf Tryz.f44) (topQ Tryz.prog [.cell 4 63, .tmp 5] K) (startX [t0, t1]) [] w = S_lex_Next t0 t1 w K := by kernel_rfl
theorem S_lex_Next_ok {t0 t1 : Value} {w : World} {K : Ending → World → Prop} (h : S_lex_Next t0 t1 w K) : Calls Tryz.prog 44 #[t0, t1] w K :=
  calls_of_wpX Tryz.func44 rfl rfl rfl rfl (Eq.mpr (S_lex_Next_eq t0 t1 w K) h)

/- lex.All -/
def S_lex_All_0 (l1 : Nat) (R1 : Value → World → Prop) (w : World) : Prop :=
 EndX Tryz.prog l1 (some .ret) w R1
/- lex.Upto -/
def S_lex_Upto_p0 (x0 : List Deferred) (x1 : Value) (x2 : Value) (K : Ending → World → Prop) := pdM Tryz.prog [.val x1, .cell x2 48] K x0
def S_lex_Upto_p1 (x0 : List Deferred) (x1 : Value) (K : Ending → World → Prop) := pdM Tryz.prog [.val (.slice none 0 0), .cell x1 48] K x0
/- lex.tokens -/
/- lex.tokens$1 -/
/- (lex.cutter).mark -/
def S_lex_cutter_mark (t0 t1 : Value) (w : World) (K : Ending → World → Prop) : Prop :=
 DoX Tryz.prog (mBox 107 t0) w (pk K) fun t2 w =>
 DoX Tryz.prog (mAlloc 63) w (pk K) fun t4 w =>
 QuietX w (fun C1 =>
 QDo Tryz.prog C1 (mFA 107 t2 1) fun t6 =>
 QDo Tryz.prog C1 (mLoad 3 t6) fun t7 =>
 QDo Tryz.prog C1 (mFA 107 t2 1) fun t8 =>
 QDo Tryz.prog C1 (mLoad 3 t8) fun t9 =>
 QDo Tryz.prog C1 (mBin .add 3 t9 t1) fun t11 =>
 QDo Tryz.prog C1 (mFA 107 t2 0) fun t12 =>
 QDo Tryz.prog C1 (mLoad 9 t12) fun t13 =>
 QDo Tryz.prog C1 (mFA 107 t2 1) fun t14 =>
 QDo Tryz.prog C1 (mLoad 3 t14) fun t15 =>
 QDo Tryz.prog C1 (mFA 107 t2 1) fun t16 =>
 QDo Tryz.prog C1 (mLoad 3 t16) fun t17 =>
 QDo Tryz.prog C1 (mBin .add 3 t17 t1) fun t19 =>
 QDo Tryz.prog C1 (mSlice 9 t13 (some t15) (some t19) none) fun t20 =>
 QDo Tryz.prog C1 (mBuild 63 #[(0, (.int .i64 6)), (1, t7), (2, t11), (4, t20)]) fun t21 =>
 ∀ w, C1 w →
 DoX Tryz.prog (mStore 63 t4 t21) w (pk K) fun _ w =>
 RetX Tryz.prog [.cell t4 63, .val (.int .i64 0)] w K)
theorem S_lex_cutter_mark_eq (t0 t1 : Value) (w : World) (K : Ending → World → Prop) : wpX Tryz.prog 22 [] [] none (bodyOf Tryz.f80) (topQ Tryz.prog [.cell 4 63, .tmp 5] K) (startX [t0, t1]) [] w = S_lex_cutter_mark t0 t1 w K := by kernel_rfl
theorem S_lex_cutter_mark_ok {t0 t1 : Value} {w : World} {K : Ending → World → Prop} (h : S_lex_cutter_mark t0 t1 w K) : Calls Tryz.prog 80 #[t0, t1] w K :=
  calls_of_wpX Tryz.func80 rfl rfl rfl rfl (Eq.mpr (S_lex_cutter_mark_eq t0 t1 w K) h)

/- lex.refused -/
def S_lex_refused (t0 : Value) (w : World) (K : Ending → World → Prop) : Prop :=
 DoX Tryz.prog (mAlloc 63) w (pk K) fun t2 w =>
 DoX Tryz.prog (mBuild 63 #[]) w (pk K) fun t4 w =>
 DoX Tryz.prog (mStore 63 t2 t4) w (pk K) fun _ w =>
 RetX Tryz.prog [.cell t2 63, .val t0] w K
theorem S_lex_refused_eq (t0 : Value) (w : World) (K : Ending → World → Prop) : wpX Tryz.prog 6 [] [] none (bodyOf Tryz.f78) (topQ Tryz.prog [.cell 2 63, .tmp 3] K) (startX [t0]) [] w = S_lex_refused t0 w K := by kernel_rfl
theorem S_lex_refused_ok {t0 : Value} {w : World} {K : Ending → World → Prop} (h : S_lex_refused t0 w K) : Calls Tryz.prog 78 #[t0] w K :=
  calls_of_wpX Tryz.func78 rfl rfl rfl rfl (Eq.mpr (S_lex_refused_eq t0 w K) h)

/- (lex.cutter).run -/
def S_lex_cutter_run_0 (t1 t2 : Value) (w : World) (N1 : List Value → World → Prop) (K : Ending → World → Prop) : Prop :=
 DoX Tryz.prog (mFA 107 t2 0) w (pk K) fun t6 w =>
 DoX Tryz.prog (mLoad 9 t6) w (pk K) fun t7 w =>
 DoX Tryz.prog (mB .len #[9] 3 #[false] #[t7]) w (pk K) fun t8 w =>
 DoX Tryz.prog (mBin .lss 3 t1 t8) w (pk K) fun t9 w =>
 GDo t9 true (fun E => DoX Tryz.prog (mFA 107 t2 0) w (pk K) E) w fun t11 w =>
 GDo t9 true (fun E => DoX Tryz.prog (mLoad 9 t11) w (pk K) E) w fun t12 w =>
 GDo t9 true (fun E => E t1 w) w fun t13 w =>
 GDo t9 true (fun E => DoX Tryz.prog (mIx 9 t12 t13) w (pk K) E) w fun t14 w =>
 GDo t9 true (fun E => CallX Tryz.prog 139 #[t14] w (pk K) E) w fun t15 w =>
 DoX Tryz.prog (mPick t9 t15 (.bool false)) w (pk K) fun t16 w =>
 IfX t16 (DoX Tryz.prog (mBin .add 3 t1 (.int .i64 1)) w (pk K) fun t18 w =>
 N1 [t18] w) (K (.returned t1) w)
def S_lex_cutter_run (t0 t1 : Value) (w : World) (K : Ending → World → Prop) : Prop :=
 DoX Tryz.prog (mBox 107 t0) w (pk K) fun t2 w =>
 LoopX [t1] w (fun vs1 w N1 => ∀ _ : Sg, S_lex_cutter_run_0 (vs1.getD 0 undef) t2 w N1 K)
theorem S_lex_cutter_run_eq (t0 t1 : Value) (w : World) (K : Ending → World → Prop) : wpX Tryz.prog 20 [] [(1, [1])] none (bodyOf Tryz.f111) (topQ Tryz.prog [.tmp 4] K) (startX [t0, t1]) [] w = S_lex_cutter_run t0 t1 w K := by kernel_rfl
theorem S_lex_cutter_run_ok {t0 t1 : Value} {w : World} {K : Ending → World → Prop} (h : S_lex_cutter_run t0 t1 w K) : Calls Tryz.prog 111 #[t0, t1] w K :=
  calls_of_wpX Tryz.func111 rfl rfl rfl rfl (Eq.mpr (S_lex_cutter_run_eq t0 t1 w K) h)

/- (lex.cutter).told -/
def S_lex_cutter_told (t0 t1 t2 t3 t4 : Value) (w : World) (K : Ending → World → Prop) : Prop :=
 DoX Tryz.prog (mBox 107 t0) w (pk K) fun t5 w =>
 DoX Tryz.prog (mAlloc 63) w (pk K) fun t10 w =>
 DoX Tryz.prog (mB .len #[9] 3 #[false] #[t3]) w (pk K) fun t13 w =>
 DoX Tryz.prog (mBin .gtr 3 t13 t4) w (pk K) fun t15 w =>
 IfX t15 (CallX Tryz.prog 78 #[(.int .i64 5)] w (pk K) fun t16 w =>
 DoX Tryz.prog (mExt t16 0) w (pk K) fun t17 w =>
 DoX Tryz.prog (mExt t16 1) w (pk K) fun t18 w =>
 DoX Tryz.prog (mStore 63 t10 t17) w (pk K) fun _ w =>
 RetX Tryz.prog [.cell t10 63, .val t18] w K) (DoX Tryz.prog (mFA 107 t5 1) w (pk K) fun t20 w =>
 DoX Tryz.prog (mLoad 3 t20) w (pk K) fun t21 w =>
 DoX Tryz.prog (mBuild 63 #[(0, t1), (1, t21), (2, t2), (4, t3)]) w (pk K) fun t24 w =>
 DoX Tryz.prog (mStore 63 t10 t24) w (pk K) fun _ w =>
 RetX Tryz.prog [.cell t10 63, .val (.int .i64 0)] w K)
theorem S_lex_cutter_told_eq (t0 t1 t2 t3 t4 : Value) (w : World) (K : Ending → World → Prop) : wpX Tryz.prog 25 [] [] none (bodyOf Tryz.f110) (topQ Tryz.prog [.cell 10 63, .tmp 11] K) (startX [t0, t1, t2, t3, t4]) [] w = S_lex_cutter_told t0 t1 t2 t3 t4 w K := by kernel_rfl
theorem S_lex_cutter_told_ok {t0 t1 t2 t3 t4 : Value} {w : World} {K : Ending → World → Prop} (h : S_lex_cutter_told t0 t1 t2 t3 t4 w K) : Calls Tryz.prog 110 #[t0, t1, t2, t3, t4] w K :=
  calls_of_wpX Tryz.func110 rfl rfl rfl rfl (Eq.mpr (S_lex_cutter_told_eq t0 t1 t2 t3 t4 w K) h)

/- (lex.cutter).name -/
def S_lex_cutter_name_1 (t3 t5 t6 t7 : Value) (w : World) (N1 : List Value → World → Prop) (K : Ending → World → Prop) : Prop :=
 DoX Tryz.prog (mBuildS 88 1 #[(0, t7)]) w (pk K) fun t62 w =>
 DoX Tryz.prog (mB .append #[88, 88] 88 #[false, false] #[t5, t62]) w (pk K) fun t63 w =>
 DoX Tryz.prog (mBin .add 3 t6 (.int .i64 1)) w (pk K) fun t22 w =>
 N1 [t3, t63, t22] w
def S_lex_cutter_name_0 (t1 t2 t3 t4 t5 t6 : Value) (w : World) (N1 : List Value → World → Prop) (K : Ending → World → Prop) : Prop :=
 DoX Tryz.prog (mBin .lss 3 t6 t4) w (pk K) fun t20 w =>
 IfX t20 (DoX Tryz.prog (mFA 107 t1 0) w (pk K) fun t23 w =>
 DoX Tryz.prog (mLoad 9 t23) w (pk K) fun t24 w =>
 DoX Tryz.prog (mIx 9 t24 t6) w (pk K) fun t26 w =>
 JoinX (fun J2 =>
 DoX Tryz.prog (mEq .eql 5 (.tmp 27) (.const (.int .u8 35)) t26 (.int .u8 35)) w (pk K) fun t28 w =>
 IfX t28 (DoX Tryz.prog (mBin .add 3 t6 (.int .i64 2)) w (pk K) fun t30 w =>
 DoX Tryz.prog (mBin .geq 3 t30 t4) w (pk K) fun t32 w =>
 IfX t32 (CallX Tryz.prog 78 #[(.int .i64 3)] w (pk K) fun t33 w =>
 DoX Tryz.prog (mExt t33 0) w (pk K) fun t34 w =>
 DoX Tryz.prog (mExt t33 1) w (pk K) fun t35 w =>
 DoX Tryz.prog (mStore 63 t2 t34) w (pk K) fun _ w =>
 RetX Tryz.prog [.cell t2 63, .val t35] w K) (DoX Tryz.prog (mFA 107 t1 0) w (pk K) fun t37 w =>
 DoX Tryz.prog (mLoad 9 t37) w (pk K) fun t38 w =>
 DoX Tryz.prog (mBin .add 3 t6 (.int .i64 1)) w (pk K) fun t40 w =>
 DoX Tryz.prog (mBin .add 3 t6 (.int .i64 3)) w (pk K) fun t42 w =>
 DoX Tryz.prog (mSlice 9 t38 (some t40) (some t42) none) w (pk K) fun t43 w =>
 CallX Tryz.prog 112 #[t43] w (pk K) fun t44 w =>
 DoX Tryz.prog (mExt t44 0) w (pk K) fun t45 w =>
 DoX Tryz.prog (mExt t44 1) w (pk K) fun t46 w =>
 DoX Tryz.prog (mEq .neq 23 (.tmp 47) (.const (.int .i64 0)) t46 (.int .i64 0)) w (pk K) fun t48 w =>
 GDo t48 false (fun E => E t45 w) w fun t50 w =>
 GDo t48 false (fun E => DoX Tryz.prog (mEq .eql 9 (.tmp 50) (.const (.string ⟨#[0]⟩)) t50 (.string ⟨#[0]⟩)) w (pk K) E) w fun t51 w =>
 DoX Tryz.prog (mPick t48 (.bool true) t51) w (pk K) fun t52 w =>
 IfX t52 (CallX Tryz.prog 78 #[(.int .i64 3)] w (pk K) fun t53 w =>
 DoX Tryz.prog (mExt t53 0) w (pk K) fun t54 w =>
 DoX Tryz.prog (mExt t53 1) w (pk K) fun t55 w =>
 DoX Tryz.prog (mStore 63 t2 t54) w (pk K) fun _ w =>
 RetX Tryz.prog [.cell t2 63, .val t55] w K) (DoX Tryz.prog (mIx 9 t45 (.int .i64 0)) w (pk K) fun t57 w =>
 DoX Tryz.prog (mBin .add 3 t6 (.int .i64 2)) w (pk K) fun t59 w =>
 J2 [t3, t59, t57] w))) (J2 [t3, t6, t26] w)) (fun vs2 w => ∀ _ : Sg, S_lex_cutter_name_1 (vs2.getD 0 undef) t5 (vs2.getD 1 undef) (vs2.getD 2 undef) w N1 K)) (DoX Tryz.prog (mLoad 107 t1) w (pk K) fun t64 w =>
 DoX Tryz.prog (mConv 88 9 t5) w (pk K) fun t67 w =>
 CallX Tryz.prog 110 #[t64, (.int .i64 4), t4, t67, (.int .i64 127)] w (pk K) fun t68 w =>
 DoX Tryz.prog (mExt t68 0) w (pk K) fun t69 w =>
 DoX Tryz.prog (mExt t68 1) w (pk K) fun t70 w =>
 DoX Tryz.prog (mStore 63 t2 t69) w (pk K) fun _ w =>
 RetX Tryz.prog [.cell t2 63, .val t70] w K)
def S_lex_cutter_name (t0 : Value) (w : World) (K : Ending → World → Prop) : Prop :=
 DoX Tryz.prog (mBox 107 t0) w (pk K) fun t1 w =>
 DoX Tryz.prog (mAlloc 63) w (pk K) fun t2 w =>
 DoX Tryz.prog (mLoad 107 t1) w (pk K) fun t10 w =>
 DoX Tryz.prog (mFA 107 t1 1) w (pk K) fun t11 w =>
 DoX Tryz.prog (mLoad 3 t11) w (pk K) fun t12 w =>
 DoX Tryz.prog (mBin .add 3 t12 (.int .i64 1)) w (pk K) fun t13 w =>
 CallX Tryz.prog 111 #[t10, t13] w (pk K) fun t14 w =>
 DoX Tryz.prog (mFA 107 t1 1) w (pk K) fun t15 w =>
 DoX Tryz.prog (mLoad 3 t15) w (pk K) fun t16 w =>
 DoX Tryz.prog (mBin .add 3 t16 (.int .i64 1)) w (pk K) fun t17 w =>
 LoopX [(.int .i64 0), (.slice none 0 0), t17] w (fun vs1 w N1 => ∀ _ : Sg, S_lex_cutter_name_0 t1 t2 (vs1.getD 0 undef) t14 (vs1.getD 1 undef) (vs1.getD 2 undef) w N1 K)
theorem S_lex_cutter_name_eq (t0 : Value) (w : World) (K : Ending → World → Prop) : wpX Tryz.prog 71 [(15, [3, 6, 7])] [(4, [3, 5, 6])] none (bodyOf Tryz.f82) (topQ Tryz.prog [.cell 2 63, .tmp 3] K) (startX [t0]) [] w = S_lex_cutter_name t0 w K := by kernel_rfl
theorem S_lex_cutter_name_ok {t0 : Value} {w : World} {K : Ending → World → Prop} (h : S_lex_cutter_name t0 w K) : Calls Tryz.prog 82 #[t0] w K :=
  calls_of_wpX Tryz.func82 rfl rfl rfl rfl (Eq.mpr (S_lex_cutter_name_eq t0 w K) h)

/- (lex.cutter).end -/
def S_lex_cutter_end (t0 t1 : Value) (w : World) (K : Ending → World → Prop) : Prop :=
 DoX Tryz.prog (mBox 107 t0) w (pk K) fun t2 w =>
 DoX Tryz.prog (mFA 107 t2 0) w (pk K) fun t6 w =>
 DoX Tryz.prog (mLoad 9 t6) w (pk K) fun t7 w =>
 DoX Tryz.prog (mIx 9 t7 t1) w (pk K) fun t9 w =>
 DoX Tryz.prog (mEq .eql 5 (.tmp 9) (.const (.int .u8 13)) t9 (.int .u8 13)) w (pk K) fun t10 w =>
 GDo t10 false (fun E => DoX Tryz.prog (mFA 107 t2 0) w (pk K) E) w fun t12 w =>
 GDo t10 false (fun E => DoX Tryz.prog (mLoad 9 t12) w (pk K) E) w fun t13 w =>
 GDo t10 false (fun E => E t1 w) w fun t14 w =>
 GDo t10 false (fun E => DoX Tryz.prog (mIx 9 t13 t14) w (pk K) E) w fun t15 w =>
 GDo t10 false (fun E => DoX Tryz.prog (mEq .eql 5 (.tmp 15) (.const (.int .u8 10)) t15 (.int .u8 10)) w (pk K) E) w fun t16 w =>
 DoX Tryz.prog (mPick t10 (.bool true) t16) w (pk K) fun t17 w =>
 IfX t17 (DoX Tryz.prog (mFA 107 t2 0) w (pk K) fun t18 w =>
 DoX Tryz.prog (mLoad 9 t18) w (pk K) fun t19 w =>
 CallX Tryz.prog 91 #[t19, t1] w (pk K) fun t21 w =>
 K (.returned (.tuple #[t21, (.bool true)])) w) (K (.returned (.tuple #[t1, (.bool false)])) w)
theorem S_lex_cutter_end_eq (t0 t1 : Value) (w : World) (K : Ending → World → Prop) : wpX Tryz.prog 23 [] [] none (bodyOf Tryz.f113) (topQ Tryz.prog [.tmp 4, .tmp 5] K) (startX [t0, t1]) [] w = S_lex_cutter_end t0 t1 w K := by kernel_rfl
theorem S_lex_cutter_end_ok {t0 t1 : Value} {w : World} {K : Ending → World → Prop} (h : S_lex_cutter_end t0 t1 w K) : Calls Tryz.prog 113 #[t0, t1] w K :=
  calls_of_wpX Tryz.func113 rfl rfl rfl rfl (Eq.mpr (S_lex_cutter_end_eq t0 t1 w K) h)

/- (lex.cutter).escaped -/
def S_lex_cutter_escaped_0 (t1 t2 t9 t10 : Value) (w : World) (N1 : List Value → World → Prop) (K : Ending → World → Prop) : Prop :=
 DoX Tryz.prog (mFA 107 t2 0) w (pk K) fun t34 w =>
 DoX Tryz.prog (mLoad 9 t34) w (pk K) fun t35 w =>
 DoX Tryz.prog (mB .len #[9] 3 #[false] #[t35]) w (pk K) fun t36 w =>
 DoX Tryz.prog (mBin .lss 3 t10 t36) w (pk K) fun t37 w =>
 GDo t37 true (fun E => E t10 w) w fun t39 w =>
 GDo t37 true (fun E => E t1 w) w fun t40 w =>
 GDo t37 true (fun E => DoX Tryz.prog (mBin .add 3 t40 (.int .i64 3)) w (pk K) E) w fun t41 w =>
 GDo t37 true (fun E => DoX Tryz.prog (mBin .lss 3 t39 t41) w (pk K) E) w fun t42 w =>
 DoX Tryz.prog (mPick t37 t42 (.bool false)) w (pk K) fun t43 w =>
 GDo t43 true (fun E => DoX Tryz.prog (mFA 107 t2 0) w (pk K) E) w fun t45 w =>
 GDo t43 true (fun E => DoX Tryz.prog (mLoad 9 t45) w (pk K) E) w fun t46 w =>
 GDo t43 true (fun E => E t10 w) w fun t47 w =>
 GDo t43 true (fun E => DoX Tryz.prog (mIx 9 t46 t47) w (pk K) E) w fun t48 w =>
 GDo t43 true (fun E => DoX Tryz.prog (mBin .geq 5 t48 (.int .u8 48)) w (pk K) E) w fun t49 w =>
 DoX Tryz.prog (mPick t43 t49 (.bool false)) w (pk K) fun t50 w =>
 GDo t50 true (fun E => DoX Tryz.prog (mFA 107 t2 0) w (pk K) E) w fun t52 w =>
 GDo t50 true (fun E => DoX Tryz.prog (mLoad 9 t52) w (pk K) E) w fun t53 w =>
 GDo t50 true (fun E => E t10 w) w fun t54 w =>
 GDo t50 true (fun E => DoX Tryz.prog (mIx 9 t53 t54) w (pk K) E) w fun t55 w =>
 GDo t50 true (fun E => DoX Tryz.prog (mBin .leq 5 t55 (.int .u8 55)) w (pk K) E) w fun t56 w =>
 DoX Tryz.prog (mPick t50 t56 (.bool false)) w (pk K) fun t57 w =>
 IfX t57 (DoX Tryz.prog (mBin .mul 3 (.int .i64 8) t9) w (pk K) fun t59 w =>
 DoX Tryz.prog (mFA 107 t2 0) w (pk K) fun t60 w =>
 DoX Tryz.prog (mLoad 9 t60) w (pk K) fun t61 w =>
 DoX Tryz.prog (mIx 9 t61 t10) w (pk K) fun t63 w =>
 DoX Tryz.prog (mBin .sub 5 t63 (.int .u8 48)) w (pk K) fun t64 w =>
 DoX Tryz.prog (mConv 5 3 t64) w (pk K) fun t65 w =>
 DoX Tryz.prog (mBin .add 3 t59 t65) w (pk K) fun t66 w =>
 DoX Tryz.prog (mBin .add 3 t10 (.int .i64 1)) w (pk K) fun t68 w =>
 N1 [t66, t68] w) (DoX Tryz.prog (mBin .gtr 3 t10 t1) w (pk K) fun t71 w =>
 IfX t71 (DoX Tryz.prog (mConv 3 5 t9) w (pk K) fun t73 w =>
 DoX Tryz.prog (mBuildS 88 1 #[(0, t73)]) w (pk K) fun t74 w =>
 DoX Tryz.prog (mConv 88 9 t74) w (pk K) fun t75 w =>
 K (.returned (.tuple #[t75, t10])) w) (DoX Tryz.prog (mFA 107 t2 0) w (pk K) fun t77 w =>
 DoX Tryz.prog (mLoad 9 t77) w (pk K) fun t78 w =>
 DoX Tryz.prog (mBin .add 3 t1 (.int .i64 1)) w (pk K) fun t81 w =>
 DoX Tryz.prog (mSlice 9 t78 (some t1) (some t81) none) w (pk K) fun t82 w =>
 DoX Tryz.prog (mBin .add 3 t1 (.int .i64 1)) w (pk K) fun t84 w =>
 K (.returned (.tuple #[t82, t84])) w))
def S_lex_cutter_escaped (t0 t1 : Value) (w : World) (K : Ending → World → Prop) : Prop :=
 DoX Tryz.prog (mBox 107 t0) w (pk K) fun t2 w =>
 DoX Tryz.prog (mFA 107 t2 0) w (pk K) fun t11 w =>
 DoX Tryz.prog (mLoad 9 t11) w (pk K) fun t12 w =>
 DoX Tryz.prog (mIx 9 t12 t1) w (pk K) fun t14 w =>
 CallX Tryz.prog 138 #[(.string ⟨#[110, 114, 116, 98, 102]⟩), t14] w (pk K) fun t15 w =>
 DoX Tryz.prog (mBin .geq 3 t15 (.int .i64 0)) w (pk K) fun t17 w =>
 IfX t17 (DoX Tryz.prog (mBin .add 3 t15 (.int .i64 1)) w (pk K) fun t20 w =>
 DoX Tryz.prog (mSlice 9 (.string ⟨#[10, 13, 9, 8, 12]⟩) (some t15) (some t20) none) w (pk K) fun t21 w =>
 DoX Tryz.prog (mBin .add 3 t1 (.int .i64 1)) w (pk K) fun t23 w =>
 K (.returned (.tuple #[t21, t23])) w) (DoX Tryz.prog (mLoad 107 t2) w (pk K) fun t25 w =>
 CallX Tryz.prog 113 #[t25, t1] w (pk K) fun t27 w =>
 DoX Tryz.prog (mExt t27 0) w (pk K) fun t28 w =>
 DoX Tryz.prog (mExt t27 1) w (pk K) fun t29 w =>
 IfX t29 (K (.returned (.tuple #[(.string ⟨#[]⟩), t28])) w) (LoopX [(.int .i64 0), t1] w (fun vs1 w N1 => ∀ _ : Sg, S_lex_cutter_escaped_0 t1 t2 (vs1.getD 0 undef) (vs1.getD 1 undef) w N1 K)))
theorem S_lex_cutter_escaped_eq (t0 t1 : Value) (w : World) (K : Ending → World → Prop) : wpX Tryz.prog 85 [] [(8, [9, 10])] none (bodyOf Tryz.f114) (topQ Tryz.prog [.tmp 4, .tmp 5] K) (startX [t0, t1]) [] w = S_lex_cutter_escaped t0 t1 w K := by kernel_rfl
theorem S_lex_cutter_escaped_ok {t0 t1 : Value} {w : World} {K : Ending → World → Prop} (h : S_lex_cutter_escaped t0 t1 w K) : Calls Tryz.prog 114 #[t0, t1] w K :=
  calls_of_wpX Tryz.func114 rfl rfl rfl rfl (Eq.mpr (S_lex_cutter_escaped_eq t0 t1 w K) h)

/- (lex.cutter).text -/
def S_lex_cutter_text_1 (t1 t2 t3 t4 t5 t6 : Value) (w : World) (N1 : List Value → World → Prop) (K : Ending → World → Prop) : Prop :=
 DoX Tryz.prog (mEq .eql 3 (.tmp 63) (.const (.int .i64 0)) t5 (.int .i64 0)) w (pk K) fun t64 w =>
 IfX t64 (QuietX w (fun C3 =>
 QDo Tryz.prog C3 (mLoad 107 t1) fun t65 =>
 QDo Tryz.prog C3 (mBin .add 3 t6 (.int .i64 1)) fun t67 =>
 QCall Tryz.prog C3 66 #[t4] fun t68 =>
 QCall Tryz.prog C3 110 #[t65, (.int .i64 3), t67, t68, (.int .i64 32767)] fun t69 =>
 QDo Tryz.prog C3 (mExt t69 0) fun t70 =>
 QDo Tryz.prog C3 (mExt t69 1) fun t71 =>
 ∀ w, C3 w →
 DoX Tryz.prog (mStore 63 t2 t70) w (pk K) fun _ w =>
 RetX Tryz.prog [.cell t2 63, .val t71] w K)) (DoX Tryz.prog (mFA 107 t1 0) w (pk K) fun t72 w =>
 DoX Tryz.prog (mLoad 9 t72) w (pk K) fun t73 w =>
 DoX Tryz.prog (mIx 9 t73 t6) w (pk K) fun t75 w =>
 CallX Tryz.prog 65 #[t4, t75] w (pk K) fun t76 w =>
 DoX Tryz.prog (mBin .add 3 t6 (.int .i64 1)) w (pk K) fun t78 w =>
 N1 [t3, t5, t78] w)
def S_lex_cutter_text_0 (t1 t2 t3 t4 t5 t6 : Value) (w : World) (N1 : List Value → World → Prop) (K : Ending → World → Prop) : Prop :=
 DoX Tryz.prog (mFA 107 t1 0) w (pk K) fun t16 w =>
 DoX Tryz.prog (mLoad 9 t16) w (pk K) fun t17 w =>
 DoX Tryz.prog (mB .len #[9] 3 #[false] #[t17]) w (pk K) fun t18 w =>
 DoX Tryz.prog (mBin .lss 3 t6 t18) w (pk K) fun t19 w =>
 IfX t19 (DoX Tryz.prog (mLoad 107 t1) w (pk K) fun t21 w =>
 CallX Tryz.prog 113 #[t21, t6] w (pk K) fun t23 w =>
 DoX Tryz.prog (mExt t23 0) w (pk K) fun t24 w =>
 DoX Tryz.prog (mExt t23 1) w (pk K) fun t25 w =>
 IfX t25 (CallX Tryz.prog 65 #[t4, (.int .u8 10)] w (pk K) fun t27 w =>
 N1 [t3, t5, t24] w) (JoinX (fun J2 =>
 DoX Tryz.prog (mFA 107 t1 0) w (pk K) fun t29 w =>
 DoX Tryz.prog (mLoad 9 t29) w (pk K) fun t30 w =>
 DoX Tryz.prog (mIx 9 t30 t6) w (pk K) fun t32 w =>
 DoX Tryz.prog (mEq .eql 5 (.tmp 33) (.const (.int .u8 92)) t32 (.int .u8 92)) w (pk K) fun t35 w =>
 IfX t35 (DoX Tryz.prog (mBin .add 3 t6 (.int .i64 1)) w (pk K) fun t37 w =>
 DoX Tryz.prog (mFA 107 t1 0) w (pk K) fun t38 w =>
 DoX Tryz.prog (mLoad 9 t38) w (pk K) fun t39 w =>
 DoX Tryz.prog (mB .len #[9] 3 #[false] #[t39]) w (pk K) fun t40 w =>
 DoX Tryz.prog (mEq .eql 3 (.tmp 37) (.tmp 40) t37 t40) w (pk K) fun t41 w =>
 IfX t41 (CallX Tryz.prog 78 #[(.int .i64 4)] w (pk K) fun t42 w =>
 DoX Tryz.prog (mExt t42 0) w (pk K) fun t43 w =>
 DoX Tryz.prog (mExt t42 1) w (pk K) fun t44 w =>
 DoX Tryz.prog (mStore 63 t2 t43) w (pk K) fun _ w =>
 RetX Tryz.prog [.cell t2 63, .val t44] w K) (DoX Tryz.prog (mLoad 107 t1) w (pk K) fun t46 w =>
 DoX Tryz.prog (mBin .add 3 t6 (.int .i64 1)) w (pk K) fun t48 w =>
 CallX Tryz.prog 114 #[t46, t48] w (pk K) fun t49 w =>
 DoX Tryz.prog (mExt t49 0) w (pk K) fun t50 w =>
 DoX Tryz.prog (mExt t49 1) w (pk K) fun t51 w =>
 CallX Tryz.prog 64 #[t4, t50] w (pk K) fun t53 w =>
 N1 [t3, t5, t51] w)) (DoX Tryz.prog (mEq .eql 5 (.tmp 33) (.const (.int .u8 40)) t32 (.int .u8 40)) w (pk K) fun t56 w =>
 IfX t56 (DoX Tryz.prog (mBin .add 3 t5 (.int .i64 1)) w (pk K) fun t58 w =>
 J2 [t3, t58, t6] w) (DoX Tryz.prog (mEq .eql 5 (.tmp 33) (.const (.int .u8 41)) t32 (.int .u8 41)) w (pk K) fun t60 w =>
 IfX t60 (DoX Tryz.prog (mBin .sub 3 t5 (.int .i64 1)) w (pk K) fun t62 w =>
 J2 [t3, t62, t6] w) (J2 [t3, t5, t6] w)))) (fun vs2 w => ∀ _ : Sg, S_lex_cutter_text_1 t1 t2 (vs2.getD 0 undef) t4 (vs2.getD 1 undef) (vs2.getD 2 undef) w N1 K))) (CallX Tryz.prog 78 #[(.int .i64 4)] w (pk K) fun t79 w =>
 DoX Tryz.prog (mExt t79 0) w (pk K) fun t80 w =>
 DoX Tryz.prog (mExt t79 1) w (pk K) fun t81 w =>
 DoX Tryz.prog (mStore 63 t2 t80) w (pk K) fun _ w =>
 RetX Tryz.prog [.cell t2 63, .val t81] w K)
def S_lex_cutter_text (t0 : Value) (w : World) (K : Ending → World → Prop) : Prop :=
 DoX Tryz.prog (mBox 107 t0) w (pk K) fun t1 w =>
 DoX Tryz.prog (mAlloc 63) w (pk K) fun t2 w =>
 DoX Tryz.prog (mAlloc 90) w (pk K) fun t4 w =>
 DoX Tryz.prog (mFA 107 t1 1) w (pk K) fun t12 w =>
 DoX Tryz.prog (mLoad 3 t12) w (pk K) fun t13 w =>
 DoX Tryz.prog (mBin .add 3 t13 (.int .i64 1)) w (pk K) fun t14 w =>
 LoopX [(.int .i64 0), (.int .i64 1), t14] w (fun vs1 w N1 => ∀ _ : Sg, S_lex_cutter_text_0 t1 t2 (vs1.getD 0 undef) t4 (vs1.getD 1 undef) (vs1.getD 2 undef) w N1 K)
theorem S_lex_cutter_text_eq (t0 : Value) (w : World) (K : Ending → World → Prop) : wpX Tryz.prog 82 [(21, [3, 5, 6])] [(4, [3, 5, 6])] none (bodyOf Tryz.f83) (topQ Tryz.prog [.cell 2 63, .tmp 3] K) (startX [t0]) [] w = S_lex_cutter_text t0 w K := by kernel_rfl
theorem S_lex_cutter_text_ok {t0 : Value} {w : World} {K : Ending → World → Prop} (h : S_lex_cutter_text t0 w K) : Calls Tryz.prog 83 #[t0] w K :=
  calls_of_wpX Tryz.func83 rfl rfl rfl rfl (Eq.mpr (S_lex_cutter_text_eq t0 w K) h)

/- (lex.cutter).hex -/
def S_lex_cutter_hex_2 (t3 t4 t5 t6 : Value) (w : World) (N1 : List Value → World → Prop) (K : Ending → World → Prop) : Prop :=
 DoX Tryz.prog (mBin .add 3 t6 (.int .i64 1)) w (pk K) fun t18 w =>
 N1 [t3, t4, t5, t18] w
def S_lex_cutter_hex_1 (t1 t2 t4 t6 : Value) (w : World) (K : Ending → World → Prop) : Prop :=
 DoX Tryz.prog (mLoad 107 t1) w (pk K) fun t33 w =>
 DoX Tryz.prog (mBin .add 3 t6 (.int .i64 1)) w (pk K) fun t35 w =>
 DoX Tryz.prog (mConv 88 9 t4) w (pk K) fun t37 w =>
 CallX Tryz.prog 110 #[t33, (.int .i64 3), t35, t37, (.int .i64 32767)] w (pk K) fun t38 w =>
 DoX Tryz.prog (mExt t38 0) w (pk K) fun t39 w =>
 DoX Tryz.prog (mExt t38 1) w (pk K) fun t40 w =>
 DoX Tryz.prog (mStore 63 t2 t39) w (pk K) fun _ w =>
 RetX Tryz.prog [.cell t2 63, .val t40] w K
def S_lex_cutter_hex_0 (t1 t2 t3 t4 t5 t6 : Value) (w : World) (N1 : List Value → World → Prop) (K : Ending → World → Prop) : Prop :=
 DoX Tryz.prog (mFA 107 t1 0) w (pk K) fun t13 w =>
 DoX Tryz.prog (mLoad 9 t13) w (pk K) fun t14 w =>
 DoX Tryz.prog (mB .len #[9] 3 #[false] #[t14]) w (pk K) fun t15 w =>
 DoX Tryz.prog (mBin .lss 3 t6 t15) w (pk K) fun t16 w =>
 IfX t16 (JoinX (fun J2 =>
 DoX Tryz.prog (mFA 107 t1 0) w (pk K) fun t19 w =>
 DoX Tryz.prog (mLoad 9 t19) w (pk K) fun t20 w =>
 DoX Tryz.prog (mIx 9 t20 t6) w (pk K) fun t22 w =>
 DoX Tryz.prog (mEq .eql 5 (.tmp 23) (.const (.int .u8 62)) t22 (.int .u8 62)) w (pk K) fun t24 w =>
 IfX t24 (JoinX (fun J3 =>
 DoX Tryz.prog (mBin .geq 3 t5 (.int .i64 0)) w (pk K) fun t26 w =>
 IfX t26 (DoX Tryz.prog (mBin .shl 3 t5 (.int .u64 4)) w (pk K) fun t29 w =>
 DoX Tryz.prog (mConv 3 5 t29) w (pk K) fun t30 w =>
 DoX Tryz.prog (mBuildS 88 1 #[(0, t30)]) w (pk K) fun t31 w =>
 DoX Tryz.prog (mB .append #[88, 88] 88 #[false, false] #[t4, t31]) w (pk K) fun t32 w =>
 J3 [t32] w) (J3 [t4] w)) (fun vs3 w => ∀ _ : Sg, S_lex_cutter_hex_1 t1 t2 (vs3.getD 0 undef) t6 w K)) (CallX Tryz.prog 38 #[t22] w (pk K) fun t42 w =>
 CallX Tryz.prog 109 #[t22] w (pk K) fun t53 w =>
 IfX t53 (J2 [t3, t4, t5] w) (DoX Tryz.prog (mBin .lss 3 t42 (.int .i64 0)) w (pk K) fun t56 w =>
 IfX t56 (CallX Tryz.prog 78 #[(.int .i64 3)] w (pk K) fun t57 w =>
 DoX Tryz.prog (mExt t57 0) w (pk K) fun t58 w =>
 DoX Tryz.prog (mExt t57 1) w (pk K) fun t59 w =>
 DoX Tryz.prog (mStore 63 t2 t58) w (pk K) fun _ w =>
 RetX Tryz.prog [.cell t2 63, .val t59] w K) (DoX Tryz.prog (mBin .lss 3 t5 (.int .i64 0)) w (pk K) fun t62 w =>
 IfX t62 (J2 [t3, t4, t42] w) (DoX Tryz.prog (mBin .shl 3 t5 (.int .u64 4)) w (pk K) fun t45 w =>
 DoX Tryz.prog (mBin .or 3 t45 t42) w (pk K) fun t47 w =>
 DoX Tryz.prog (mConv 3 5 t47) w (pk K) fun t48 w =>
 DoX Tryz.prog (mBuildS 88 1 #[(0, t48)]) w (pk K) fun t49 w =>
 DoX Tryz.prog (mB .append #[88, 88] 88 #[false, false] #[t4, t49]) w (pk K) fun t50 w =>
 J2 [t3, t50, (.int .i64 (-1))] w))))) (fun vs2 w => ∀ _ : Sg, S_lex_cutter_hex_2 (vs2.getD 0 undef) (vs2.getD 1 undef) (vs2.getD 2 undef) t6 w N1 K)) (CallX Tryz.prog 78 #[(.int .i64 4)] w (pk K) fun t64 w =>
 DoX Tryz.prog (mExt t64 0) w (pk K) fun t65 w =>
 DoX Tryz.prog (mExt t64 1) w (pk K) fun t66 w =>
 DoX Tryz.prog (mStore 63 t2 t65) w (pk K) fun _ w =>
 RetX Tryz.prog [.cell t2 63, .val t66] w K)
def S_lex_cutter_hex (t0 : Value) (w : World) (K : Ending → World → Prop) : Prop :=
 DoX Tryz.prog (mBox 107 t0) w (pk K) fun t1 w =>
 DoX Tryz.prog (mAlloc 63) w (pk K) fun t2 w =>
 DoX Tryz.prog (mFA 107 t1 1) w (pk K) fun t9 w =>
 DoX Tryz.prog (mLoad 3 t9) w (pk K) fun t10 w =>
 DoX Tryz.prog (mBin .add 3 t10 (.int .i64 1)) w (pk K) fun t11 w =>
 LoopX [(.int .i64 0), (.slice none 0 0), (.int .i64 (-1)), t11] w (fun vs1 w N1 => ∀ _ : Sg, S_lex_cutter_hex_0 t1 t2 (vs1.getD 0 undef) (vs1.getD 1 undef) (vs1.getD 2 undef) (vs1.getD 3 undef) w N1 K)
theorem S_lex_cutter_hex_eq (t0 : Value) (w : World) (K : Ending → World → Prop) : wpX Tryz.prog 67 [(5, [3, 4, 5]), (10, [4])] [(4, [3, 4, 5, 6])] none (bodyOf Tryz.f81) (topQ Tryz.prog [.cell 2 63, .tmp 3] K) (startX [t0]) [] w = S_lex_cutter_hex t0 w K := by kernel_rfl
theorem S_lex_cutter_hex_ok {t0 : Value} {w : World} {K : Ending → World → Prop} (h : S_lex_cutter_hex t0 w K) : Calls Tryz.prog 81 #[t0] w K :=
  calls_of_wpX Tryz.func81 rfl rfl rfl rfl (Eq.mpr (S_lex_cutter_hex_eq t0 w K) h)

/- lex.class -/
def S_lex_class (t0 : Value) (w : World) (K : Ending → World → Prop) : Prop :=
 CallX Tryz.prog 140 #[t0, (.string ⟨#[43, 45]⟩)] w (pk K) fun t5 w =>
 DoX Tryz.prog (mB .len #[9] 3 #[false] #[t0]) w (pk K) fun t7 w =>
 DoX Tryz.prog (mB .len #[9] 3 #[false] #[t5]) w (pk K) fun t9 w =>
 DoX Tryz.prog (mBin .sub 3 t7 t9) w (pk K) fun t10 w =>
 DoX Tryz.prog (mBin .leq 3 t10 (.int .i64 1)) w (pk K) fun t11 w =>
 GDo t11 true (fun E => E t5 w) w fun t13 w =>
 GDo t11 true (fun E => DoX Tryz.prog (mEq .neq 9 (.tmp 13) (.const (.string ⟨#[]⟩)) t13 (.string ⟨#[]⟩)) w (pk K) E) w fun t14 w =>
 DoX Tryz.prog (mPick t11 t14 (.bool false)) w (pk K) fun t15 w =>
 GDo t15 true (fun E => E t5 w) w fun t17 w =>
 GDo t15 true (fun E => CallX Tryz.prog 141 #[t17, (.string ⟨#[48, 49, 50, 51, 52, 53, 54, 55, 56, 57]⟩)] w (pk K) E) w fun t18 w =>
 GDo t15 true (fun E => DoX Tryz.prog (mEq .eql 9 (.tmp 18) (.const (.string ⟨#[]⟩)) t18 (.string ⟨#[]⟩)) w (pk K) E) w fun t19 w =>
 DoX Tryz.prog (mPick t15 t19 (.bool false)) w (pk K) fun t20 w =>
 IfX t20 (K (.returned (.int .i64 1)) w) (CallX Tryz.prog 70 #[t0, (.string ⟨#[46]⟩)] w (pk K) fun t22 w =>
 IfX t22 (K (.returned (.int .i64 2)) w) (K (.returned (.int .i64 0)) w))
theorem S_lex_class_eq (t0 : Value) (w : World) (K : Ending → World → Prop) : wpX Tryz.prog 23 [] [] none (bodyOf Tryz.f115) (topQ Tryz.prog [.tmp 2] K) (startX [t0]) [] w = S_lex_class t0 w K := by kernel_rfl
theorem S_lex_class_ok {t0 : Value} {w : World} {K : Ending → World → Prop} (h : S_lex_class t0 w K) : Calls Tryz.prog 115 #[t0] w K :=
  calls_of_wpX Tryz.func115 rfl rfl rfl rfl (Eq.mpr (S_lex_class_eq t0 w K) h)

/- lex.whole -/
def S_lex_whole_1 (t4 : Value) (w : World) (K : Ending → World → Prop) : Prop :=
 K (.returned (.tuple #[t4, (.int .i64 0)])) w
def S_lex_whole_0 (t0 t4 t9 : Value) (w : World) (N1 : List Value → World → Prop) (K : Ending → World → Prop) : Prop :=
 DoX Tryz.prog (mNext t9 true 0) w (pk K) fun t10 w =>
 DoX Tryz.prog (mExt t10 0) w (pk K) fun t11 w =>
 IfX t11 (DoX Tryz.prog (mExt t10 2) w (pk K) fun t12 w =>
 DoX Tryz.prog (mBin .mul 2 (.int .i64 10) t4) w (pk K) fun t14 w =>
 DoX Tryz.prog (mBin .sub 21 t12 (.int .i32 48)) w (pk K) fun t16 w =>
 DoX Tryz.prog (mConv 21 2 t16) w (pk K) fun t17 w =>
 DoX Tryz.prog (mBin .add 2 t14 t17) w (pk K) fun t18 w =>
 DoX Tryz.prog (mB .min #[2, 2] 2 #[false, true] #[t18, (.int .i64 2147483648)]) w (pk K) fun t19 w =>
 N1 [t19] w) (DoX Tryz.prog (mBin .gtr 2 t4 (.int .i64 2147483647)) w (pk K) fun t21 w =>
 IfX t21 (K (.returned (.tuple #[(.int .i64 0), (.int .i64 2)])) w) (JoinX (fun J2 =>
 DoX Tryz.prog (mIx 9 t0 (.int .i64 0)) w (pk K) fun t23 w =>
 DoX Tryz.prog (mEq .eql 5 (.tmp 23) (.const (.int .u8 45)) t23 (.int .u8 45)) w (pk K) fun t24 w =>
 IfX t24 (DoX Tryz.prog (mUn .neg t4) w (pk K) fun t26 w =>
 J2 [t26] w) (J2 [t4] w)) (fun vs2 w => ∀ _ : Sg, S_lex_whole_1 (vs2.getD 0 undef) w K)))
def S_lex_whole (t0 : Value) (w : World) (K : Ending → World → Prop) : Prop :=
 CallX Tryz.prog 140 #[t0, (.string ⟨#[43, 45]⟩)] w (pk K) fun t8 w =>
 DoX Tryz.prog (mRange 9 t8) w (pk K) fun t9 w =>
 LoopX [(.int .i64 0)] w (fun vs1 w N1 => ∀ _ : Sg, S_lex_whole_0 t0 (vs1.getD 0 undef) t9 w N1 K)
theorem S_lex_whole_eq (t0 : Value) (w : World) (K : Ending → World → Prop) : wpX Tryz.prog 28 [(10, [4])] [(3, [4])] none (bodyOf Tryz.f116) (topQ Tryz.prog [.tmp 2, .tmp 3] K) (startX [t0]) [] w = S_lex_whole t0 w K := by kernel_rfl
theorem S_lex_whole_ok {t0 : Value} {w : World} {K : Ending → World → Prop} (h : S_lex_whole t0 w K) : Calls Tryz.prog 116 #[t0] w K :=
  calls_of_wpX Tryz.func116 rfl rfl rfl rfl (Eq.mpr (S_lex_whole_eq t0 w K) h)

/- (lex.cutter).word -/
def S_lex_cutter_word_0 (t1 t2 t4 t5 : Value) (w : World) (K : Ending → World → Prop) : Prop :=
 DoX Tryz.prog (mLoad 107 t1) w (pk K) fun t61 w =>
 CallX Tryz.prog 110 #[t61, (.int .i64 5), t4, t5, (.int .i64 127)] w (pk K) fun t64 w =>
 DoX Tryz.prog (mExt t64 0) w (pk K) fun t65 w =>
 DoX Tryz.prog (mExt t64 1) w (pk K) fun t66 w =>
 DoX Tryz.prog (mStore 63 t2 t65) w (pk K) fun _ w =>
 RetX Tryz.prog [.cell t2 63, .val t66] w K
def S_lex_cutter_word (t0 : Value) (w : World) (K : Ending → World → Prop) : Prop :=
 DoX Tryz.prog (mBox 107 t0) w (pk K) fun t1 w =>
 DoX Tryz.prog (mAlloc 63) w (pk K) fun t2 w =>
 DoX Tryz.prog (mLoad 107 t1) w (pk K) fun t10 w =>
 DoX Tryz.prog (mFA 107 t1 1) w (pk K) fun t11 w =>
 DoX Tryz.prog (mLoad 3 t11) w (pk K) fun t12 w =>
 CallX Tryz.prog 111 #[t10, t12] w (pk K) fun t13 w =>
 DoX Tryz.prog (mFA 107 t1 0) w (pk K) fun t14 w =>
 DoX Tryz.prog (mLoad 9 t14) w (pk K) fun t15 w =>
 DoX Tryz.prog (mFA 107 t1 1) w (pk K) fun t16 w =>
 DoX Tryz.prog (mLoad 3 t16) w (pk K) fun t17 w =>
 DoX Tryz.prog (mSlice 9 t15 (some t17) (some t13) none) w (pk K) fun t19 w =>
 JoinX (fun J1 =>
 CallX Tryz.prog 115 #[t19] w (pk K) fun t21 w =>
 DoX Tryz.prog (mEq .eql 3 (.tmp 21) (.const (.int .i64 1)) t21 (.int .i64 1)) w (pk K) fun t23 w =>
 IfX t23 (CallX Tryz.prog 116 #[t19] w (pk K) fun t26 w =>
 DoX Tryz.prog (mExt t26 0) w (pk K) fun t27 w =>
 DoX Tryz.prog (mExt t26 1) w (pk K) fun t28 w =>
 DoX Tryz.prog (mEq .neq 23 (.tmp 29) (.const (.int .i64 0)) t28 (.int .i64 0)) w (pk K) fun t30 w =>
 IfX t30 (CallX Tryz.prog 78 #[t28] w (pk K) fun t32 w =>
 DoX Tryz.prog (mExt t32 0) w (pk K) fun t33 w =>
 DoX Tryz.prog (mExt t32 1) w (pk K) fun t34 w =>
 DoX Tryz.prog (mStore 63 t2 t33) w (pk K) fun _ w =>
 RetX Tryz.prog [.cell t2 63, .val t34] w K) (DoX Tryz.prog (mFA 107 t1 1) w (pk K) fun t35 w =>
 DoX Tryz.prog (mLoad 3 t35) w (pk K) fun t36 w =>
 DoX Tryz.prog (mBuild 63 #[(0, (.int .i64 1)), (1, t36), (2, t13), (3, t27)]) w (pk K) fun t39 w =>
 DoX Tryz.prog (mStore 63 t2 t39) w (pk K) fun _ w =>
 RetX Tryz.prog [.cell t2 63, .val (.int .i64 0)] w K)) (DoX Tryz.prog (mEq .eql 3 (.tmp 21) (.const (.int .i64 2)) t21 (.int .i64 2)) w (pk K) fun t41 w =>
 IfX t41 (CallX Tryz.prog 117 #[t19] w (pk K) fun t44 w =>
 DoX Tryz.prog (mExt t44 0) w (pk K) fun t45 w =>
 DoX Tryz.prog (mExt t44 1) w (pk K) fun t46 w =>
 DoX Tryz.prog (mEq .eql 23 (.tmp 47) (.const (.int .i64 0)) t46 (.int .i64 0)) w (pk K) fun t49 w =>
 IfX t49 (DoX Tryz.prog (mFA 107 t1 1) w (pk K) fun t50 w =>
 DoX Tryz.prog (mLoad 3 t50) w (pk K) fun t51 w =>
 DoX Tryz.prog (mBuild 63 #[(0, (.int .i64 2)), (1, t51), (2, t13), (3, t45)]) w (pk K) fun t54 w =>
 DoX Tryz.prog (mStore 63 t2 t54) w (pk K) fun _ w =>
 RetX Tryz.prog [.cell t2 63, .val (.int .i64 0)] w K) (DoX Tryz.prog (mEq .eql 23 (.tmp 47) (.const (.int .i64 2)) t46 (.int .i64 2)) w (pk K) fun t56 w =>
 IfX t56 (CallX Tryz.prog 78 #[t46] w (pk K) fun t58 w =>
 DoX Tryz.prog (mExt t58 0) w (pk K) fun t59 w =>
 DoX Tryz.prog (mExt t58 1) w (pk K) fun t60 w =>
 DoX Tryz.prog (mStore 63 t2 t59) w (pk K) fun _ w =>
 RetX Tryz.prog [.cell t2 63, .val t60] w K) (J1 [(.int .i64 0)] w))) (J1 [(.int .i64 0)] w))) (fun vs1 w => ∀ _ : Sg, S_lex_cutter_word_0 t1 t2 t13 t19 w K)
theorem S_lex_cutter_word_eq (t0 : Value) (w : World) (K : Ending → World → Prop) : wpX Tryz.prog 67 [(16, [3])] [] none (bodyOf Tryz.f84) (topQ Tryz.prog [.cell 2 63, .tmp 3] K) (startX [t0]) [] w = S_lex_cutter_word t0 w K := by kernel_rfl
theorem S_lex_cutter_word_ok {t0 : Value} {w : World} {K : Ending → World → Prop} (h : S_lex_cutter_word t0 w K) : Calls Tryz.prog 84 #[t0] w K :=
  calls_of_wpX Tryz.func84 rfl rfl rfl rfl (Eq.mpr (S_lex_cutter_word_eq t0 w K) h)

end Go.Proofs.YtgffladaenimmaaGreatDoor
/- Contracts: lex (mark, refused, run, told, name, end) of the program. -/
namespace Go.Proofs.YtgffladaenimmaaGreatDoor
set_option linter.unusedVariables false
set_option linter.unusedSimpArgs false
set_option linter.defProp false
open Eng Go.RowKit

def tokC (x : Lx.Tok) : List Value := [.int .i64 x.k, .int .i64 x.a, .int .i64 x.t, .int .i64 x.n, .string ⟨x.s.toArray⟩]
def tokV (x : Lx.Tok) : Value := .agg (tokC x).toArray
def tokR (r : Lx.Tok × Int) : Value := .tuple #[tokV r.1, .int .i64 r.2]
def cutC (s : List UInt8) (a : Int) : List Value := [.string ⟨s.toArray⟩, .int .i64 a]
def cutV (s : List UInt8) (a : Int) : Value := .agg (cutC s a).toArray
def cutE (b : Nat) (s : List UInt8) (a : Int) : Ent := .cells b (cutC s a) 107
def tokE (b : Nat) (x : Lx.Tok) : Ent := .cells b (tokC x) 63
def ptr (b : Nat) (i : Nat) : Value := .pointer (some ⟨b, i, none⟩)
theorem aggTok : aggN Tryz.prog 63 = some 5 := by kernel_rfl
theorem aggCut : aggN Tryz.prog 107 = some 2 := by kernel_rfl
theorem nStr : notAgg Tryz.prog 9 = true := by kernel_rfl
theorem nInt : notAgg Tryz.prog 3 = true := by kernel_rfl
theorem nErr : notAgg Tryz.prog 23 = true := by kernel_rfl
theorem szTok : (Tryz.prog.info? 63).map (·.size) = some 5 := by kernel_rfl
section
variable {w : World} {PK : List PanicEntry → World → Prop} {K : Value → World → Prop} {S : Nat → Prop} {w0 : World} {L : List Ent}
theorem fa_c0 {b : Nat} : DoX Tryz.prog (mFA 107 (.pointer (some ⟨b, 0, none⟩)) 0) w PK K = K (.pointer (some ⟨b, 0, none⟩)) w := f_addr (show fOff Tryz.prog 107 0 = some 0 by kernel_rfl)
theorem fa_c1 {b : Nat} : DoX Tryz.prog (mFA 107 (.pointer (some ⟨b, 0, none⟩)) 1) w PK K = K (.pointer (some ⟨b, 1, none⟩)) w := f_addr (show fOff Tryz.prog 107 1 = some 1 by kernel_rfl)
theorem cut_s (ho : OwnS S w0 w L) (i : Nat) {b : Nat} {s : List UInt8} {a : Int} (hi : L[i]? = some (cutE b s a)) : DoX Tryz.prog (mLoad 9 (.pointer (some ⟨b, 0, none⟩))) w PK K = K (.string ⟨s.toArray⟩) w := l_cell nStr (ho.cell i hi 0 rfl)
theorem cut_a (ho : OwnS S w0 w L) (i : Nat) {b : Nat} {s : List UInt8} {a : Int} (hi : L[i]? = some (cutE b s a)) : DoX Tryz.prog (mLoad 3 (.pointer (some ⟨b, 1, none⟩))) w PK K = K (.int .i64 a) w := l_cell nInt (ho.cell i hi 1 rfl)
theorem cut_v (ho : OwnS S w0 w L) (i : Nat) {b : Nat} {s : List UInt8} {a : Int} (hi : L[i]? = some (cutE b s a)) : DoX Tryz.prog (mLoad 107 (.pointer (some ⟨b, 0, none⟩))) w PK K = K (cutV s a) w := l_at (ho.agg i hi aggCut)
theorem cutr_s (ho : OwnS S w0 w L) (i : Nat) {b : Nat} {s : List UInt8} {a : Int} (hi : L[i]? = some (cutE b s a)) : (mLoad 9 (.pointer (some ⟨b, 0, none⟩))).run Tryz.prog w = .ok (.value (.string ⟨s.toArray⟩)) w := run_load_cell nStr (ho.cell i hi 0 rfl)
theorem cutr_a (ho : OwnS S w0 w L) (i : Nat) {b : Nat} {s : List UInt8} {a : Int} (hi : L[i]? = some (cutE b s a)) : (mLoad 3 (.pointer (some ⟨b, 1, none⟩))).run Tryz.prog w = .ok (.value (.int .i64 a)) w := run_load_cell nInt (ho.cell i hi 1 rfl)
theorem cutr_v (ho : OwnS S w0 w L) (i : Nat) {b : Nat} {s : List UInt8} {a : Int} (hi : L[i]? = some (cutE b s a)) : (mLoad 107 (.pointer (some ⟨b, 0, none⟩))).run Tryz.prog w = .ok (.value (cutV s a)) w := run_load_at (ho.agg i hi aggCut)
theorem o_cut (s : List UInt8) (a : Int) (ho : OwnS S w0 w L) (k : ∀ b w', OwnS S w0 w' (cutE b s a :: L) → K (.pointer (some ⟨b, 0, none⟩)) w') : DoX Tryz.prog (mBox 107 (cutV s a)) w PK K :=
  o_new (fun b => .pointer (some ⟨b, 0, none⟩)) (cutC s a) 107 (fun _ => by kernel_rfl) ho k
theorem o_tok (ho : OwnS S w0 w L) (k : ∀ b w', OwnS S w0 w' (tokE b Lx.none_ :: L) → K (.pointer (some ⟨b, 0, none⟩)) w') : DoX Tryz.prog (mAlloc 63) w PK K :=
  o_new (fun b => .pointer (some ⟨b, 0, none⟩)) (tokC Lx.none_) 63 (fun _ => by kernel_rfl) ho k
theorem tokC_one (x : Lx.Tok) : ∀ v ∈ tokC x, v.oneCell' = true := by
  intro v hv
  simp only [tokC, List.mem_cons, List.not_mem_nil, or_false] at hv
  rcases hv with rfl | rfl | rfl | rfl | rfl <;> rfl
/-- A token is put into a variable, and returned with an error. -/
theorem tok_put {KE : Ending → World → Prop} (i : Nat) {b : Nat} {x y : Lx.Tok} {e : Int} (ho : Own w0 w L) (hi : L[i]? = some (tokE b x)) (k : ∀ w', Own w0 w' (L.set i (tokE b y)) → KE (.returned (tokR (y, e))) w') :
    DoX Tryz.prog (mStore 63 (.pointer (some ⟨b, 0, none⟩)) (tokV y)) w PK fun _ w => RetX Tryz.prog [.cell (.pointer (some ⟨b, 0, none⟩)) 63, .val (.int .i64 e)] w KE := by
  refine o_put i ho hi (new := tokC y) szTok (tokC_one y) rfl fun w' ho' => ?_
  have hi' : (L.set i (tokE b y))[i]? = some (tokE b y) := by
    have := (List.getElem?_eq_some_iff.1 hi).1
    simp [this]
  exact ret_v2 (rv_cell (ho'.agg i hi' aggTok)) rv_val (k w' ho')
theorem run_ext0 {a b : Value} : (mExt (.tuple #[a, b]) 0).run Tryz.prog w = .ok (.value a) w := by kernel_rfl
theorem run_ext1 {a b : Value} : (mExt (.tuple #[a, b]) 1).run Tryz.prog w = .ok (.value b) w := by kernel_rfl
theorem x_0 {a b : Value} : DoX Tryz.prog (mExt (.tuple #[a, b]) 0) w PK K = K a w := do_eq (by kernel_rfl)
theorem x_1 {a b : Value} : DoX Tryz.prog (mExt (.tuple #[a, b]) 1) w PK K = K b w := do_eq (by kernel_rfl)
/-- A call whose token and error are returned. -/
theorem tok_tail {KE : Ending → World → Prop} {PK1 PK2 PK3 PK4 : List PanicEntry → World → Prop} (i : Nat) {b : Nat} {x : Lx.Tok} {r : Lx.Tok × Int} {f : Nat} {args : Array Value} (ho : Own w0 w L) (hi : L[i]? = some (tokE b x))
    (h : Ret Tryz.prog f args w (fun v w' => v = tokR r ∧ Below w.heap.size w w')) (k : ∀ w', Below w0.heap.size w0 w' → KE (.returned (tokR r)) w') :
    CallX Tryz.prog f args w PK1 fun t w => DoX Tryz.prog (mExt t 0) w PK2 fun u w => DoX Tryz.prog (mExt t 1) w PK3 fun v w => DoX Tryz.prog (mStore 63 (.pointer (some ⟨b, 0, none⟩)) u) w PK4 fun _ w => RetX Tryz.prog [.cell (.pointer (some ⟨b, 0, none⟩)) 63, .val v] w KE := by
  refine c_below ho h ?_
  rintro v w' rfl ho'
  rw [tokR, x_0, x_1]
  exact tok_put i ho' hi fun w' ho => k w' ho.done
theorem m_tok0 : DoX Tryz.prog (mBuild 63 #[]) w PK K = K (tokV Lx.none_) w := do_eq (by kernel_rfl)
theorem m_tok2 {a t : Int} : DoX Tryz.prog (mBuild 63 #[(1, .int .i64 a), (2, .int .i64 t)]) w PK K = K (tokV ⟨0, a, t, 0, []⟩) w := do_eq (by kernel_rfl)
theorem m_tok4 {k a t : Int} {s : List UInt8} : DoX Tryz.prog (mBuild 63 #[(0, .int .i64 k), (1, .int .i64 a), (2, .int .i64 t), (4, .string ⟨s.toArray⟩)]) w PK K = K (tokV ⟨k, a, t, 0, s⟩) w := do_eq (by kernel_rfl)
theorem r_tok4 {k a t : Int} {s : List UInt8} : (mBuild 63 #[(0, .int .i64 k), (1, .int .i64 a), (2, .int .i64 t), (4, .string ⟨s.toArray⟩)]).run Tryz.prog w = .ok (.value (tokV ⟨k, a, t, 0, s⟩)) w := by kernel_rfl
theorem m_tokn {k a t n : Int} : DoX Tryz.prog (mBuild 63 #[(0, .int .i64 k), (1, .int .i64 a), (2, .int .i64 t), (3, .int .i64 n)]) w PK K = K (tokV ⟨k, a, t, n, []⟩) w := do_eq (by kernel_rfl)
end
theorem refused_ret (e : Int) (w : World) : Ret Tryz.prog 78 #[.int .i64 e] w (fun v w' => v = tokR (Lx.refused e) ∧ Below w.heap.size w w') := by
  refine ret_of fun K hK => S_lex_refused_ok ?_
  unfold S_lex_refused
  refine o_tok (Own.start w) fun b w1 ho => ?_
  rw [m_tok0]
  exact tok_put 0 ho rfl fun w' ho => hK _ _ ⟨rfl, ho.done⟩
theorem told_ret (s : List UInt8) (a k t : Int) (x : List UInt8) (most : Int) (w : World) : Ret Tryz.prog 110 #[cutV s a, .int .i64 k, .int .i64 t, .string ⟨x.toArray⟩, .int .i64 most] w (fun v w' => v = tokR (Lx.told k a t x most) ∧ Below w.heap.size w w') := by
  refine ret_of fun K hK => S_lex_cutter_told_ok ?_
  unfold S_lex_cutter_told
  refine o_cut s a (Own.start w) fun b1 w1 ho => ?_
  refine o_tok ho fun b w2 ho => ?_
  by_cases h : most < (x.length : Int)
  · simp only [rs, s_len Tryz.underlying9, h, decide_true]
    exact tok_tail 0 ho rfl (refused_ret 5 _) fun w' hb => hK _ _ ⟨by rw [Lx.told, if_pos h], hb⟩
  · simp only [rs, s_len Tryz.underlying9, h, decide_false, fa_c1, cut_a ho 1 rfl, m_tok4]
    exact tok_put 0 ho rfl fun w' ho => hK _ _ ⟨by rw [Lx.told, if_neg h], ho.done⟩
theorem mark_ret (s : List UInt8) (a n : Nat) (w : World) (hs : s.length ≤ 1099511627776) (h : a + n ≤ s.length) : Ret Tryz.prog 80 #[cutV s a, .int .i64 n] w (fun v w' => v = tokR (Lx.mark s a n) ∧ Below w.heap.size w w') := by
  refine ret_of fun K hK => S_lex_cutter_mark_ok ?_
  unfold S_lex_cutter_mark
  refine o_cut s a (Own.start w) fun b1 w1 ho => ?_
  refine o_tok ho fun b w2 ho => ?_
  have f1 : fOff Tryz.prog 107 1 = some 1 := by kernel_rfl
  have f0 : fOff Tryz.prog 107 0 = some 0 := by kernel_rfl
  have hw : IntKind.wrap .i64 ((a : Int) + (n : Int)) = ((a + n : Nat) : Int) := by rw [wrap64_id (by omega) (by omega)]; simp
  refine quiet (q_do _ (fun _ => run_fa f1) (q_at _ (fun _ hb => cutr_a (ho.grow hb) 1 rfl) (q_do _ (fun _ => run_fa f1) (q_at _ (fun _ hb => cutr_a (ho.grow hb) 1 rfl) (q_do _ (fun _ => by rw [r_add, hw]) ?_)))))
  refine q_do _ (fun _ => run_fa f0) (q_at _ (fun _ hb => cutr_s (ho.grow hb) 1 rfl) (q_do _ (fun _ => run_fa f1) (q_at _ (fun _ hb => cutr_a (ho.grow hb) 1 rfl) (q_do _ (fun _ => run_fa f1) (q_at _ (fun _ hb => cutr_a (ho.grow hb) 1 rfl) (q_do _ (fun _ => by rw [r_add, hw]) ?_))))))
  refine q_do (.string ⟨(Lx.cut s a (a + n)).toArray⟩) (fun w => ?_) (q_do _ (fun _ => r_tok4) ?_)
  · have := @run_s_slice Tryz.prog w 9 s .i64 .i64 (a : Int) ((a + n : Nat) : Int) Tryz.underlying9 (by omega) (by omega) (by omega)
    rw [this]; rfl
  · intro w3 hb
    exact tok_put 0 (ho.grow hb) rfl fun w' ho => hK _ _ ⟨rfl, ho.done⟩
theorem run_ret (s : List UInt8) (a : Int) (i : Nat) (w : World) (hs : s.length ≤ 1099511627776) (h : i ≤ s.length) : Ret Tryz.prog 111 #[cutV s a, .int .i64 i] w (fun v w' => v = .int .i64 (Lx.run s i) ∧ Below w.heap.size w w') := by
  refine ret_of fun K hK => S_lex_cutter_run_ok ?_
  unfold S_lex_cutter_run
  refine o_cut s a (Own.start w) fun b1 w1 ho => ?_
  refine loop (fun vs w' => ∃ (j : Nat), vs = [.int .i64 j] ∧ j ≤ s.length ∧ Lx.run s j = Lx.run s i ∧ w1 = w') (fun vs _ => s.length - n0 vs) ⟨i, rfl, h, rfl, rfl⟩ ?_
  rintro vs w2 ⟨j, rfl, hj, he, rfl⟩ _
  simp only [S_lex_cutter_run_0, gd, fa_c0, cut_s ho 0 rfl, s_len Tryz.underlying9]
  rw [b_lss]
  by_cases hlt : (j : Int) < (s.length : Int)
  · have hi2 : j < s.length := by omega
    have hd := Lx.drop_cons hi2
    have hx : ∀ {PK K}, DoX Tryz.prog (mIx 9 (.string ⟨s.toArray⟩) (.int .i64 (j : Int))) w1 PK K = K (.int .u8 (s[j].toNat : Int)) w1 := s_ix (c := s[j]) Tryz.underlying9 (Int.natCast_nonneg j) (by simp [hi2])
    simp only [hlt, decide_true, rs, fa_c0, cut_s ho 0 rfl, hx]
    refine c_eq (regular_ret s[j] w1) ?_
    cases hr : Oc.regular s[j] with
    | true =>
      simp only [rs]
      rw [wrap64_id (by omega) (by omega)]
      refine nextX ⟨j + 1, rfl, by omega, ?_, rfl⟩ (by simp [n0, intOf]; omega)
      rw [← he, Lx.run, Lx.run, hd, Lx.runF, if_pos hr]; omega
    | false =>
      simp only [rs]
      refine hK _ _ ⟨?_, ho.done⟩
      rw [← he, Lx.run, hd, Lx.runF, if_neg (by simp [hr])]; simp
  · have hi2 : j = s.length := by omega
    subst hi2
    simp only [hlt, decide_false, rs, g_un]
    refine hK _ _ ⟨?_, ho.done⟩
    rw [← he, Lx.run, List.drop_length]; simp [Lx.runF]
theorem end_ret (s : List UInt8) (a : Int) (i : Nat) (w : World) (hs : s.length ≤ 1099511627776) (h : i < s.length) : Ret Tryz.prog 113 #[cutV s a, .int .i64 i] w (fun v w' => v = .tuple #[.int .i64 (if Lx.eol s[i] then (Lx.line s i : Int) else (i : Int)), .bool (Lx.eol s[i])] ∧ Below w.heap.size w w') := by
  refine ret_of fun K hK => S_lex_cutter_end_ok ?_
  unfold S_lex_cutter_end
  refine o_cut s a (Own.start w) fun b1 w1 ho => ?_
  have hx : ∀ {PK K}, DoX Tryz.prog (mIx 9 (.string ⟨s.toArray⟩) (.int .i64 (i : Int))) w1 PK K = K (.int .u8 (s[i].toNat : Int)) w1 := s_ix (c := s[i]) Tryz.underlying9 (Int.natCast_nonneg i) (by simp [h])
  have e1 := u8d s[i] 13 13 rfl
  have e2 := u8d s[i] 10 10 rfl
  have fin : ∀ e : Lx.eol s[i] = true, CallX Tryz.prog 91 #[.string ⟨s.toArray⟩, .int .i64 i] w1 (pk K) fun t21 w => K (.returned (.tuple #[t21, (.bool true)])) w := by
    intro e
    refine c_eq (line_ret s i w1 (by omega) (by omega)) ?_
    exact hK _ _ ⟨by rw [e]; rfl, ho.done⟩
  by_cases h1 : s[i] = 13
  · simp only [fa_c0, cut_s ho 0 rfl, hx, rs, e1, decide_eq_true h1, g_un]
    exact fin (by simp [Lx.eol, h1])
  simp only [fa_c0, cut_s ho 0 rfl, hx, rs, e1, decide_eq_false h1]
  by_cases h2 : s[i] = 10
  · simp only [rs, e2, decide_eq_true h2, g_un]
    exact fin (by simp [Lx.eol, h2])
  simp only [rs, e2, decide_eq_false h2, g_un]
  exact hK _ _ ⟨by simp [Lx.eol, h1, h2], ho.done⟩
end Go.Proofs.YtgffladaenimmaaGreatDoor
