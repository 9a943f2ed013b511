/- Texts that go together: EngD SBuild LibBld SPlain SFix SRef02 FixP FixR FixQ SStr LibCut FixT PlA PlB PlC LawKit2 LawKit3 EngT EngH EngI EngJ EngK ObA ObB KdA EngU ObC Plain05 SRef05 FixU FixV FixW FixX SLaw02 FixY EngG ObD EngW ObE ObF. -/
import Derived.Test.YtiklhhdohckfiaaGreatDoorRows
import Derived.Test.YtiklhhdohckfiaaGreatDoorShelf
import Derived.Recover
import Derived.Shelf.Strings.SlTrimAscii
import Derived.Lib.Repeat
import Derived.SliceStrings
import Derived.Laws.StructEq
import Derived.Laws.RangeAny
import Derived.Sort.Walk0
import Derived.Test.YtiklhhdohckfiaaGreatDoorMcpkpoill
/- The engine's rules for structs in memory, rows that grow (append), and strings.Builder as a piece of memory. -/
namespace Go.Proofs.YtiklhhdohckfiaaGreatDoor
set_option linter.unusedVariables false
set_option linter.unusedSimpArgs false
set_option linter.defProp false
set_option linter.unusedSimpArgs false
set_option linter.unusedVariables false
namespace Eng
open Go.RowKit

theorem add_none (b off n : Nat) : (⟨b, off, none⟩ : Addr).add n = ⟨b, off + n, none⟩ := by unfold Addr.add; split <;> simp_all

/-- The place of a field (of at least one cell). -/
def fOff (P : Program) (T : TypeId) (f : Nat) : Option Nat :=
  match P.underlying T with
  | some (.struct fs) => match fs[f]? with
    | some fd => match P.info? fd.type with
      | some i => match i.size with
        | 0 => none
        | _ + 1 => some fd.offset
      | none => none
    | none => none
  | _ => none
/-- What a type's elements are: cells each, bytes each, a zero value of as many cells. -/
def elB (P : Program) (E : TypeId) (sz bytes : Nat) : Bool :=
  match P.info? E with
  | some i => Nat.beq i.size sz && Nat.beq i.bytes bytes && (match i.zero with | some z => Nat.beq z.cells.size sz | none => false)
  | none => false
theorem elB_spec {P : Program} {E : TypeId} {sz bytes : Nat} (h : elB P E sz bytes = true) : ∃ i z, P.info? E = some i ∧ i.zero = some z ∧ i.size = sz ∧ i.bytes = bytes ∧ z.cells.size = sz := by
  unfold elB at h
  split at h
  · rename_i i hi
    simp only [Bool.and_eq_true, Nat.beq_eq] at h
    obtain ⟨⟨h1, h2⟩, h3⟩ := h
    split at h3
    · rename_i z hz; exact ⟨i, z, hi, hz, h1, h2, by simpa using h3⟩
    · cases h3
  · cases h

section
variable {S : Nat → Prop} {P : Program} {w : World} {PK : List PanicEntry → World → Prop} {K : Value → World → Prop}

theorem run_fa {T : TypeId} {f b off o : Nat} (h : fOff P T f = some o) : (mFA T (.pointer (some ⟨b, off, none⟩)) f).run P w = .ok (.value (.pointer (some ⟨b, off + o, none⟩))) w := by
  unfold fOff at h
  split at h
  · rename_i fs hu
    split at h
    · rename_i fd hfd
      split at h
      · rename_i i hi
        cases hs : i.size with
        | zero => rw [hs] at h; cases h
        | succ m =>
          rw [hs] at h
          simp only [Option.some.injEq] at h
          subst h
          refine mv_run ?_
          simp [Instr.fieldAt, run_underlying hu, hfd, Instr.sureAddr, fieldPlace, sizeOf, typeInfo, hi, hs, add_none]
      · cases h
    · cases h
  · cases h
theorem f_addr {T : TypeId} {f b off o : Nat} (h : fOff P T f = some o) : DoX P (mFA T (.pointer (some ⟨b, off, none⟩)) f) w PK K = K (.pointer (some ⟨b, off + o, none⟩)) w := do_eq (run_fa h)
theorem run_nil {a : Addr} : (mNil (.pointer (some a))).run P w = .ok (.value (.pointer (some a))) w := by simp [mNil, execOp]

/- BITS -/
def bAnd (k : IntKind) (x y : Int) : Int := k.wrap ((BitVec.ofInt k.bits x &&& BitVec.ofInt k.bits y).toNat : Int)
theorem r_and {T : TypeId} {k : IntKind} {a b : Int} : (mBin .and T (.int k a) (.int k b)).run P w = .ok (.value (.int k (bAnd k a b))) w := mv_run (by simp [binOp, Op.intBits, bAnd])
theorem r_shr {T : TypeId} {k k' : IntKind} {a b : Int} (h : 0 ≤ b) : (mBin .shr T (.int k a) (.int k' b)).run P w = .ok (.value (.int k (a.fdiv (2 ^ (min b.toNat k.bits))))) w := mv_run (by
  have h' : ¬ b < 0 := by omega
  simp [binOp, Op.shift, h'])
theorem run_s_ix {T : TypeId} {k : IntKind} {i : Int} {a : List UInt8} {c : UInt8} (h : P.underlying T = some .string) (h0 : 0 ≤ i) (hc : a[i.toNat]? = some c) : (mIx T (.string ⟨a.toArray⟩) (.int k i)).run P w = .ok (.value (.int .u8 (c.toNat : Int))) w := by
  refine mv_run ?_
  have e : (⟨a.toArray⟩ : ByteArray)[i.toNat]? = some c := by
    have hl : i.toNat < a.length := (List.getElem?_eq_some_iff.1 hc).1
    have h1 : i.toNat < (⟨a.toArray⟩ : ByteArray).size := by rw [str_size]; exact hl
    rw [getElem?_pos (⟨a.toArray⟩ : ByteArray) i.toNat h1]
    have h2 := (List.getElem?_eq_some_iff.1 hc).2
    rw [← h2]; rfl
  simp only [Instr.index, asIntOf, run_underlying h, h0, e]
  simp [h0, e, run_underlying h]
/- APPEND -/
theorem newer {E : TypeId} {sz bytes : Nat} {T U : TypeId} {i : TypeInfo} {z : Value} (ht : P.underlying T = some (.slice E)) (hi : P.info? E = some i) (hz : i.zero = some z) (hi1 : i.size = sz) (hi2 : i.bytes = bytes) (hz1 : z.cells.size = sz) (hsz : 0 < sz)
    {v v' : Value} {w' : World} {n m c : Nat} {xs news : List Value} {a : Addr} (hown : w.ownsRowF 0 E sz v n xs) (hl : news.length = m * sz) (hnews : ∀ j u, news[j]? = some u → w.cell? (a.add j) = some u) (h1 : ∀ u ∈ news, u.oneCell' = true)
    (hmx : n + m ≤ 9223372036854775807) (hb : (n + m) * bytes ≤ 140737488355328) (hr : (Builtin.append_ #[T, T] U #[v, .slice (some a) m c]).run P w = .ok v' w') :
    ∀ k, v'.ownBlock = some k → v.ownBlock = some k ∨ w.heap.size ≤ k := by
  intro k hk
  have hmx' : n + m ≤ maxLen := by simp only [maxLen]; omega
  rcases hown.2 with ⟨rfl, rfl⟩ | ⟨g, cap, cur, fz, rfl, hbg, hg, hfz, hnc, hcm, hcs, htake⟩
  · obtain ⟨v2, w2, r1, r2, r3, r4⟩ := run_append_ownF (P := P) w w.heap.size T U E i z sz bytes ht hi hz hi1 hi2 hz1 hsz (.slice none 0 0) 0 xs ⟨hown.1, .inl ⟨rfl, rfl⟩⟩ a m c news hl hnews h1 hmx' hb (Nat.le_refl _)
    rw [r1] at hr
    cases hr
    exact .inr (World.ownsRowF.lt r2 k hk).1
  · subst hi1
    subst hi2
    by_cases hroom : n + m ≤ cap
    · have hfit : n * i.size + news.length ≤ cur.size := by rw [hl, hcs, ← Nat.add_mul]; exact Nat.mul_le_mul_right _ hroom
      rw [run_append_roomF (P := P) w T U E i ht hi g n cap cur fz hg hfz a m c news hl hnews h1 hroom hfit] at hr
      cases hr
      exact .inl hk
    · have holds : ∀ j u, xs[j]? = some u → w.cell? ((⟨g, 0, none⟩ : Addr).add j) = some u := hown.cells (g := g) rfl
      rw [run_append_grow (P := P) w T U E i z ht hi hz ⟨g, 0, none⟩ n cap xs hown.1 holds a m c news hl hnews (by omega) (by omega) (growslice_fits (by omega) hb)] at hr
      cases hr
      simp only [Value.ownBlock, Option.some.injEq] at hk
      exact .inr (by omega)
theorem run_append_any {T E U : TypeId} {cs : Array Bool} {v v2 : Value} {sz bytes n m : Nat} {xs news : List Value} (ht : P.underlying T = some (.slice E)) (he : elB P E sz bytes = true) (hsz : 0 < sz)
    (hown : w.ownsRowF 0 E sz v n xs) (hs : Sl w v2 sz m news) (h1 : ∀ u ∈ news, u.oneCell' = true) (hb : (n + m) * bytes ≤ 140737488355328) (hb2 : n + m ≤ 140737488355328) :
    ∃ v' w', (mB .append #[T, T] U cs #[v, v2]).run P w = .ok (.value v') w' ∧ Turn (.row E sz v n xs) (.row E sz v' (n + m) (xs ++ news)) w w' := by
  obtain ⟨i, z, hi, hz, hi1, hi2, hz1⟩ := elB_spec he
  obtain ⟨hl, a, cap, rfl, hn, hc⟩ := hs
  have hmx : n + m ≤ maxLen := by simp only [maxLen]; omega
  have fin : ∀ (a : Addr), (∀ j u, news[j]? = some u → w.cell? (a.add j) = some u) → ∃ v' w', (mB .append #[T, T] U cs #[v, .slice (some a) m cap]).run P w = .ok (.value v') w' ∧ Turn (.row E sz v n xs) (.row E sz v' (n + m) (xs ++ news)) w w' := by
    intro a hh
    obtain ⟨v', w', r1, r2, r3, r4⟩ := run_append_ownF (P := P) w 0 T U E i z sz bytes ht hi hz hi1 hi2 hz1 hsz v n xs hown a m cap news hl hh h1 hmx hb (Nat.zero_le _)
    refine ⟨v', w', ?_, grew_by r3, r2, newer (P := P) ht hi hz hi1 hi2 hz1 hsz hown hl hh h1 (by omega) hb r1⟩
    simp [mB, builtin, r1]
  cases a with
  | some p =>
    refine fin p fun j u hj => ?_
    have hlt : j < news.length := (List.getElem?_eq_some_iff.1 hj).1
    have hm : 0 < m := by
      rcases Nat.eq_zero_or_pos m with h0 | h0
      · subst h0; simp at hl; rw [hl] at hlt; simp at hlt
      · exact h0
    obtain ⟨hsp, hcell⟩ := hc p rfl
    have := hsp hm
    obtain ⟨b, off, spot⟩ := p
    simp only at this hcell
    subst this
    rw [add_none]; exact hcell j u hj
  | none =>
    have h0 := hn rfl
    subst h0
    have hnil : news = [] := List.eq_nil_of_length_eq_zero (by simpa using hl)
    subst hnil
    refine ⟨v, w, ?_, by rw [List.append_nil]; exact Turn.refl (e := .row E sz v n xs) hown⟩
    rcases hown.2 with ⟨rfl, rfl⟩ | ⟨g, cp, cur, fz, rfl, _, _, _, hnc, _⟩
    · simp [mB, builtin, Builtin.append_, run_underlying ht, sizeOf, typeInfo, hi, Builtin.lenOf, Builtin.firstCells]
    · simp [mB, builtin, Builtin.append_, run_underlying ht, sizeOf, typeInfo, hi, Builtin.lenOf, Builtin.firstCells, hnc, storeCells]
/-- append(s, more...): the i-th piece is the row; what is appended may be read anywhere. -/
theorem o_append {w0 : World} {L : List Ent} (i : Nat) {T E U : TypeId} {cs : Array Bool} {v v2 : Value} {sz bytes n m : Nat} {xs news : List Value} (ht : P.underlying T = some (.slice E)) (he : elB P E sz bytes = true) (hsz : 0 < sz)
    (ho : OwnS S w0 w L) (hi : L[i]? = some (.row E sz v n xs)) (hs : Sl w v2 sz m news) (h1 : ∀ u ∈ news, u.oneCell' = true) (hb : (n + m) * bytes ≤ 140737488355328) (hb2 : n + m ≤ 140737488355328)
    (k : ∀ v' w', OwnS S w0 w' (L.set i (.row E sz v' (n + m) (xs ++ news))) → K v' w') : DoX P (mB .append #[T, T] U cs #[v, v2]) w PK K := by
  obtain ⟨v', w', r, t⟩ := run_append_any (cs := cs) (U := U) ht he hsz (ho.at_ i hi) hs h1 hb hb2
  exact do_ok r (k _ _ (ho.turn i hi t))
/-- No slice of a block, without room. -/
def roomy (v : Value) : Prop := ∀ a k, v ≠ .slice (some a) k 0
theorem roomy_nil : roomy (.slice none 0 0) := fun _ _ h => by cases h
theorem roomy_row {E : TypeId} {sz : Nat} {v : Value} {n : Nat} {xs : List Value} (h : w.ownsRowF 0 E sz v n xs) (hn : 0 < n) : roomy v := by
  intro a k hc
  rcases h.2 with ⟨rfl, _⟩ | ⟨g, cap, cur, fz, rfl, hbg, hg, hfz, hnc, hcm, hcs, htake⟩
  · cases hc
  · injection hc with c1 c2 c3
    omega
theorem strCells_bytesV (l : List UInt8) : Lib.strCells ⟨l.toArray⟩ = bytesV l := by
  simp [Lib.strCells, bytesV]
theorem run_append_string {T U2 E U : TypeId} {cs : Array Bool} {v : Value} {n : Nat} {xs : List Value} {l : List UInt8} (ht : P.underlying T = some (.slice E)) (hu : P.underlying U2 = some .string) (he : elB P E 1 1 = true) (h8 : P.underlying E = some (.int .u8))
    (hz8 : (P.info? E).bind (·.zero) = some (.int .u8 0))
    (hown : w.ownsRowF 0 E 1 v n xs) (hb2 : n + l.length ≤ 140737488355328) :
    ∃ v' w', (mB .append #[T, U2] U cs #[v, .string ⟨l.toArray⟩]).run P w = .ok (.value v') w' ∧ Turn (.row E 1 v n xs) (.row E 1 v' (n + l.length) (xs ++ bytesV l)) w w' ∧ (roomy v → roomy v') := by
  obtain ⟨i, z, hi, hz, hi1, hi2, hz1⟩ := elB_spec he
  have hz0 : i.zero = some (.int .u8 0) := by rw [hi] at hz8; exact hz8
  have hsz := str_size l
  have hmx : n + (⟨l.toArray⟩ : ByteArray).size ≤ maxLen := by rw [hsz]; simp only [maxLen]; omega
  obtain ⟨v', w', r1, r2, r3, r4⟩ := Lib.run_append_own_stringF (P := P) w 0 T U2 U E i ht hu hi hz0 hi1 hi2 v n xs hown ⟨l.toArray⟩ hmx (by rw [hsz]; omega) (Nat.zero_le _)
  rw [strCells_bytesV, hsz] at r2
  have hro : roomy v → roomy v' := by
    intro hv a k hc
    rcases Nat.eq_zero_or_pos (n + l.length) with h0 | h0
    · rcases hown.2 with ⟨rfl, _⟩ | ⟨g, cap, cur, fz, rfl, hbg, hg, hfz, hnc, hcm, hcs, htake⟩
      · have := r4.2 ⟨rfl, by rw [hsz]; omega⟩
        rw [this] at hc; cases hc
      · have hroom : n + (⟨l.toArray⟩ : ByteArray).size ≤ cap := by rw [hsz]; omega
        rw [Lib.run_append_room_stringF (P := P) w T U2 U E i ht hu hi hi1 g n cap cur fz hg (by simpa using hfz) ⟨l.toArray⟩ hroom (by simp at hcs; omega)] at r1
        injection r1 with r1a r1b
        rw [← r1a] at hc
        injection hc with c1 c2 c3
        exact hv ⟨g, 0, none⟩ n (by rw [c3])
    · exact roomy_row r2 h0 a k hc
  refine ⟨v', w', by simp [mB, builtin, r1], ⟨grew_by r3, r2, ?_⟩, hro⟩
  intro k hk
  rcases hown.2 with ⟨rfl, rfl⟩ | ⟨g, cap, cur, fz, rfl, hbg, hg, hfz, hnc, hcm, hcs, htake⟩
  · obtain ⟨v2, w2, q1, q2, q3, q4⟩ := Lib.run_append_own_stringF (P := P) w w.heap.size T U2 U E i ht hu hi hz0 hi1 hi2 (.slice none 0 0) 0 xs ⟨hown.1, .inl ⟨rfl, rfl⟩⟩ ⟨l.toArray⟩ hmx (by rw [hsz]; omega) (Nat.le_refl _)
    rw [q1] at r1
    cases r1
    exact .inr (World.ownsRowF.lt q2 k hk).1
  · by_cases hroom : n + (⟨l.toArray⟩ : ByteArray).size ≤ cap
    · rw [Lib.run_append_room_stringF (P := P) w T U2 U E i ht hu hi hi1 g n cap cur fz hg (by simpa using hfz) ⟨l.toArray⟩ hroom (by simp at hcs; omega)] at r1
      cases r1
      exact .inl hk
    · have holds : ∀ j u, xs[j]? = some u → w.cell? ((⟨g, 0, none⟩ : Addr).add j) = some u := hown.cells (g := g) rfl
      rw [Lib.run_append_grow_string (P := P) w T U2 U E i (.int .u8 0) ht hu hi hz0 ⟨g, 0, none⟩ n cap xs (by rw [hi1]; simpa using hown.1) holds ⟨l.toArray⟩ (by omega) (by rw [hsz]; omega) (by rw [hi2]; exact growslice_fits (by omega) (by rw [hsz]; omega))] at r1
      cases r1
      have hk' : some w.heap.size = some k := hk
      cases hk'
      exact .inr (Nat.le_refl _)
theorem o_append_str {w0 : World} {L : List Ent} (i : Nat) {T U2 E U : TypeId} {cs : Array Bool} {v : Value} {n : Nat} {xs : List Value} {l : List UInt8} (ht : P.underlying T = some (.slice E)) (hu : P.underlying U2 = some .string) (he : elB P E 1 1 = true) (h8 : P.underlying E = some (.int .u8))
    (hz8 : (P.info? E).bind (·.zero) = some (.int .u8 0)) (ho : OwnS S w0 w L) (hi : L[i]? = some (.row E 1 v n xs)) (hb2 : n + l.length ≤ 140737488355328)
    (k : ∀ v' w', (roomy v → roomy v') → OwnS S w0 w' (L.set i (.row E 1 v' (n + l.length) (xs ++ bytesV l))) → K v' w') : DoX P (mB .append #[T, U2] U cs #[v, .string ⟨l.toArray⟩]) w PK K := by
  obtain ⟨v', w', r, t, hc⟩ := run_append_string (cs := cs) (U := U) ht hu he h8 hz8 (ho.at_ i hi) hb2
  exact do_ok r (k _ _ hc (ho.turn i hi t))
/-- A nil slice is a row. -/
theorem OwnS.nilRow {w0 : World} {L : List Ent} (ho : OwnS S w0 w L) (E : TypeId) (sz : Nat) : OwnS S w0 w (.row E sz (.slice none 0 0) 0 [] :: L) := by
  refine ⟨ho.grew, fun e he => ?_, .cons (fun f hf k hk => by simp [Ent.row, Value.ownBlock] at hk) ho.apart⟩
  rcases List.mem_cons.1 he with rfl | he
  · exact ⟨World.ownsRowF_nil w 0 E sz, fun k hk => by simp [Ent.row, Value.ownBlock] at hk⟩
  · exact ho.all e he
theorem OwnS.slRow {w0 : World} {L : List Ent} (ho : OwnS S w0 w L) (i : Nat) {T : TypeId} {sz : Nat} {v : Value} {n : Nat} {xs : List Value} (hi : L[i]? = some (.row T sz v n xs)) : Sl w v sz n xs := Sl.row (ho.at_ i hi)
/-- A block of cells, all of them in use, is a row. -/
theorem OwnS.toRow {w0 : World} {L : List Ent} {b : Nat} {cs : List Value} {E : TypeId} (ho : OwnS S w0 w (.cells b cs E :: L)) (sz n cap : Nat) (hl : cs.length = cap * sz) (hn : n ≤ cap) (hc : cap ≤ 9223372036854775807) :
    OwnS S w0 w (.row E sz (.slice (some ⟨b, 0, none⟩) n cap) n (cs.take (n * sz)) :: L) := by
  refine ⟨ho.grew, fun e he => ?_, ?_⟩
  · rcases List.mem_cons.1 he with rfl | he
    · refine ⟨⟨by rw [List.length_take, hl, Nat.min_eq_left (Nat.mul_le_mul_right _ hn)], .inr ⟨b, cap, cs.toArray, (0, 0), rfl, Nat.zero_le _, ho.at_ 0 rfl, Nat.zero_le _, hn, by simp only [maxLen]; omega, by simpa using hl, by simp⟩⟩, fun k hk => ?_⟩
      simp only [Ent.row, Value.ownBlock, Option.some.injEq] at hk
      exact (ho.all (.cells b cs E) (by simp)).2 k hk.symm
    · exact ho.all e (by simp [he])
  · refine .cons (fun f hf k hk => ?_) (List.pairwise_cons.1 ho.apart).2
    simp only [Ent.row, Value.ownBlock, Option.some.injEq] at hk
    exact (List.pairwise_cons.1 ho.apart).1 f hf k hk.symm

/-- make([]T, 0, c). -/
theorem o_make {w0 : World} {L : List Ent} {T E : TypeId} {sz bytes c : Nat} {kl kc : IntKind} {x : Int} (hx : x = c) (ht : P.underlying T = some (.slice E)) (he : elB P E sz bytes = true) (hb : bytes * c ≤ 281474976710656) (hc : c ≤ 281474976710656) (ho : OwnS S w0 w L)
    (k : ∀ v w', OwnS S w0 w' (.row E sz v 0 [] :: L) → K v w') : DoX P (mMake T (.int kl 0) (.int kc x)) w PK K := by
  subst hx
  obtain ⟨i, z, hi, hz, hi1, hi2, hz1⟩ := elB_spec he
  obtain ⟨w', r1, r2, r3⟩ := run_make_own (P := P) w w.heap.size T E i z sz ht hi hz hi1 kl kc c (by rw [hi2]; exact hb) (by simp only [maxLen]; omega) (Nat.le_refl _)
  refine do_ok (mv_run r1) (k _ _ (ho.add r3 (.row E sz (.slice (some ⟨w.heap.size, 0, none⟩) 0 c) 0 []) ?_ (fun k hk => ?_)))
  · have := World.ownsRowF_of r2
    refine ⟨this.1, ?_⟩
    rcases this.2 with h | ⟨g, cp, cur, fz, h1, h2, h3⟩
    · exact .inl h
    · exact .inr ⟨g, cp, cur, fz, h1, Nat.zero_le _, h3⟩
  · have hk' : some w.heap.size = some k := hk
    cases hk'; exact Nat.le_refl _
/- STRINGS.BUILDER -/
/-- A Builder in block b, its buffer the slice v, that holds l. -/
def Ent.bld (T E : TypeId) (b : Nat) (v : Value) (l : List UInt8) : Ent :=
  ⟨fun k => k = b ∨ v.ownBlock = some k,
   fun w => (∃ p, (p = .pointer none ∨ p = .pointer (some ⟨b, 0, none⟩)) ∧ w.heap[b]? = some (.cells #[p, v] T (0, 0))) ∧ w.ownsRowF 0 E 1 v l.length (bytesV l) ∧ v.ownBlock ≠ some b ∧ roomy v,
   fun {w w'} h k => ⟨by obtain ⟨p, hp, hb⟩ := h.1; exact ⟨p, hp, (k b (.inl rfl)).trans hb⟩, (Ent.row E 1 v l.length (bytesV l)).keep h.2.1 (fun j hj => k j (.inr hj)), h.2.2⟩,
   fun {w} h k hk => by
    rcases hk with rfl | hk
    · obtain ⟨p, hp, hb⟩ := h.1; exact lt_of_get hb
    · exact (World.ownsRowF.lt h.2.1 k hk).2⟩
theorem OwnS.openB {w0 : World} {L : List Ent} {T E : TypeId} {b : Nat} {v : Value} {l : List UInt8} (ho : OwnS S w0 w (.bld T E b v l :: L)) :
    ∃ p, (p = .pointer none ∨ p = .pointer (some ⟨b, 0, none⟩)) ∧ roomy v ∧ OwnS S w0 w (.cells b [p, v] T :: .row E 1 v l.length (bytesV l) :: L) := by
  have hm := ho.all (.bld T E b v l) (by simp)
  obtain ⟨⟨p, hp, hb⟩, hr, hne, hcap⟩ := hm.1
  refine ⟨p, hp, hcap, ho.grew, fun e he => ?_, ?_⟩
  · rcases List.mem_cons.1 he with rfl | he
    · exact ⟨hb, fun k hk => hm.2 k (.inl hk)⟩
    · rcases List.mem_cons.1 he with rfl | he
      · exact ⟨hr, fun k hk => hm.2 k (.inr hk)⟩
      · exact ho.all e (by simp [he])
  · obtain ⟨h1, h2⟩ := List.pairwise_cons.1 ho.apart
    refine .cons (fun f hf k hk hk' => ?_) (.cons (fun f hf k hk => h1 f hf k (.inr hk)) h2)
    rcases List.mem_cons.1 hf with rfl | hf
    · have hkb : k = b := hk
      rw [hkb] at hk'
      exact hne hk'
    · exact h1 f hf k (.inl hk) hk'
theorem OwnS.closeB {w0 : World} {L : List Ent} {T E : TypeId} {b n : Nat} {p v : Value} {l : List UInt8} (hp : p = .pointer none ∨ p = .pointer (some ⟨b, 0, none⟩)) (hcap : roomy v) (ho : OwnS S w0 w (.cells b [p, v] T :: .row E 1 v n (bytesV l) :: L)) :
    OwnS S w0 w (.bld T E b v l :: L) := by
  have h0 := ho.all (.cells b [p, v] T) (by simp)
  have h1 := ho.all (.row E 1 v n (bytesV l)) (by simp)
  obtain ⟨a1, a2⟩ := List.pairwise_cons.1 ho.apart
  obtain ⟨a3, a4⟩ := List.pairwise_cons.1 a2
  have hn : n = l.length := by have := h1.1.1; rw [bytesV_length] at this; omega
  subst hn
  refine ⟨ho.grew, fun e he => ?_, .cons (fun f hf k hk hk' => ?_) a4⟩
  · rcases List.mem_cons.1 he with rfl | he
    · refine ⟨⟨⟨p, hp, h0.1⟩, h1.1, fun hc => a1 (.row E 1 v l.length (bytesV l)) (by simp) b rfl hc, hcap⟩, fun k hk => ?_⟩
      rcases hk with hk | hk
      · exact h0.2 k hk
      · exact h1.2 k hk
    · exact ho.all e (by simp [he])
  · rcases hk with hk | hk
    · exact a1 f (by simp [hf]) k hk hk'
    · exact a3 f hf k hk hk'
theorem OwnS.swap {w0 : World} {e f : Ent} {L : List Ent} (ho : OwnS S w0 w (e :: f :: L)) : OwnS S w0 w (f :: e :: L) := by
  obtain ⟨a1, a2⟩ := List.pairwise_cons.1 ho.apart
  obtain ⟨a3, a4⟩ := List.pairwise_cons.1 a2
  exact ⟨ho.grew, fun g hg => ho.all g (by simp only [List.mem_cons] at hg ⊢; rcases hg with h | h | h <;> simp [h]), .cons (fun g hg k hk hk' => by
    rcases List.mem_cons.1 hg with rfl | hg
    · exact a1 f (by simp) k hk' hk
    · exact a3 g hg k hk hk') (.cons (fun g hg k hk hk' => a1 g (by simp [hg]) k hk hk') a4)⟩

/-- A callee turns the i-th piece. -/
theorem c_turn {w0 : World} {L : List Ent} (i : Nat) {f : Nat} {args : Array Value} {e : Ent} {R : Value → Ent → Prop} (ho : OwnS S w0 w L) (hi : L[i]? = some e) (h : Ret P f args w (fun v w' => ∃ e', R v e' ∧ Turn e e' w w'))
    (k : ∀ v e' w', R v e' → OwnS S w0 w' (L.set i e') → K v w') : CallX P f args w PK K :=
  c_ret h fun v w' ⟨e', hr, ht⟩ => k v e' w' hr (ho.turn i hi ht)
/-- A callee that only makes memory. -/
theorem c_below {w0 : World} {L : List Ent} {f : Nat} {args : Array Value} {R : Value → Prop} (ho : OwnS S w0 w L) (h : Ret P f args w (fun v w' => R v ∧ Below w.heap.size w w'))
    (k : ∀ v w', R v → OwnS S w0 w' L → K v w') : CallX P f args w PK K :=
  c_ret h fun v w' ⟨hr, hb⟩ => k v w' hr (ho.grow hb)
end
end Eng
end Go.Proofs.YtiklhhdohckfiaaGreatDoor
/- Code in continuation form, by program (gen.py): 7 functions. -/
namespace Go.Proofs.YtiklhhdohckfiaaGreatDoor
set_option linter.unusedVariables false
set_option linter.unusedSimpArgs false
set_option linter.defProp false
set_option linter.unusedVariables false
set_option maxRecDepth 20000
open Eng

/- (*strings.Builder).copyCheck -/
def S_strings_Builder_copyCheck (t0 : Value) (w : World) (K : Ending → World → Prop) : Prop :=
 DoX Tryz.prog (mNil t0) w (pk K) fun t3 w =>
 DoX Tryz.prog (mFA 75 t3 0) w (pk K) fun t4 w =>
 DoX Tryz.prog (mLoad 72 t4) w (pk K) fun t5 w =>
 DoX Tryz.prog (mEq .eql 72 (.tmp 5) (.const (.pointer none)) t5 (.pointer none)) w (pk K) fun t6 w =>
 IfX t6 (DoX Tryz.prog (mConv 72 166 t0) w (pk K) fun t9 w =>
 DoX Tryz.prog (mCallV (.func (.func 171) #[] #[]) #[t9]) w (pk K) fun t10 w =>
 DoX Tryz.prog (mConv 166 72 t10) w (pk K) fun t11 w =>
 DoX Tryz.prog (mNil t0) w (pk K) fun t12 w =>
 DoX Tryz.prog (mFA 75 t12 0) w (pk K) fun t13 w =>
 DoX Tryz.prog (mStore 72 t13 t11) w (pk K) fun _ w =>
 K (.returned (.tuple #[])) w) (DoX Tryz.prog (mNil t0) w (pk K) fun t15 w =>
 DoX Tryz.prog (mFA 75 t15 0) w (pk K) fun t16 w =>
 DoX Tryz.prog (mLoad 72 t16) w (pk K) fun t17 w =>
 DoX Tryz.prog (mEq .neq 72 (.tmp 17) (.tmp 18) t17 t0) w (pk K) fun t19 w =>
 IfX t19 (False) (K (.returned (.tuple #[])) w))
theorem S_strings_Builder_copyCheck_eq (t0 : Value) (w : World) (K : Ending → World → Prop) : wpX Tryz.prog 20 [] [] none (bodyOf Tryz.f104) (topQ Tryz.prog [] K) (startX [t0]) [] w = S_strings_Builder_copyCheck t0 w K := by kernel_rfl
theorem S_strings_Builder_copyCheck_ok {t0 : Value} {w : World} {K : Ending → World → Prop} (h : S_strings_Builder_copyCheck t0 w K) : Calls Tryz.prog 104 #[t0] w K :=
  calls_of_wpX Tryz.func104 rfl rfl rfl rfl (Eq.mpr (S_strings_Builder_copyCheck_eq t0 w K) h)

/- (*strings.Builder).WriteByte -/
def S_strings_Builder_WriteByte (t0 t1 : Value) (w : World) (K : Ending → World → Prop) : Prop :=
 CallX Tryz.prog 104 #[t0] w (pk K) fun t6 w =>
 DoX Tryz.prog (mNil t0) w (pk K) fun t9 w =>
 DoX Tryz.prog (mFA 75 t9 1) w (pk K) fun t10 w =>
 DoX Tryz.prog (mLoad 73 t10) w (pk K) fun t11 w =>
 DoX Tryz.prog (mBuildS 73 1 #[(0, t1)]) w (pk K) fun t13 w =>
 DoX Tryz.prog (mB .append #[73, 73] 73 #[false, false] #[t11, t13]) w (pk K) fun t14 w =>
 DoX Tryz.prog (mNil t0) w (pk K) fun t15 w =>
 DoX Tryz.prog (mFA 75 t15 1) w (pk K) fun t16 w =>
 DoX Tryz.prog (mStore 73 t16 t14) w (pk K) fun _ w =>
 K (.returned .nilIface) w
theorem S_strings_Builder_WriteByte_eq (t0 t1 : Value) (w : World) (K : Ending → World → Prop) : wpX Tryz.prog 17 [] [] none (bodyOf Tryz.f52) (topQ Tryz.prog [.tmp 4] K) (startX [t0, t1]) [] w = S_strings_Builder_WriteByte t0 t1 w K := by kernel_rfl
theorem S_strings_Builder_WriteByte_ok {t0 t1 : Value} {w : World} {K : Ending → World → Prop} (h : S_strings_Builder_WriteByte t0 t1 w K) : Calls Tryz.prog 52 #[t0, t1] w K :=
  calls_of_wpX Tryz.func52 rfl rfl rfl rfl (Eq.mpr (S_strings_Builder_WriteByte_eq t0 t1 w K) h)

/- (*strings.Builder).WriteString -/
def S_strings_Builder_WriteString (t0 t1 : Value) (w : World) (K : Ending → World → Prop) : Prop :=
 CallX Tryz.prog 104 #[t0] w (pk K) fun t7 w =>
 DoX Tryz.prog (mNil t0) w (pk K) fun t10 w =>
 DoX Tryz.prog (mFA 75 t10 1) w (pk K) fun t11 w =>
 DoX Tryz.prog (mLoad 73 t11) w (pk K) fun t12 w =>
 DoX Tryz.prog (mB .append #[73, 9] 73 #[false, false] #[t12, t1]) w (pk K) fun t14 w =>
 DoX Tryz.prog (mNil t0) w (pk K) fun t15 w =>
 DoX Tryz.prog (mFA 75 t15 1) w (pk K) fun t16 w =>
 DoX Tryz.prog (mStore 73 t16 t14) w (pk K) fun _ w =>
 DoX Tryz.prog (mB .len #[9] 3 #[false] #[t1]) w (pk K) fun t18 w =>
 K (.returned (.tuple #[t18, .nilIface])) w
theorem S_strings_Builder_WriteString_eq (t0 t1 : Value) (w : World) (K : Ending → World → Prop) : wpX Tryz.prog 19 [] [] none (bodyOf Tryz.f51) (topQ Tryz.prog [.tmp 4, .tmp 5] K) (startX [t0, t1]) [] w = S_strings_Builder_WriteString t0 t1 w K := by kernel_rfl
theorem S_strings_Builder_WriteString_ok {t0 t1 : Value} {w : World} {K : Ending → World → Prop} (h : S_strings_Builder_WriteString t0 t1 w K) : Calls Tryz.prog 51 #[t0, t1] w K :=
  calls_of_wpX Tryz.func51 rfl rfl rfl rfl (Eq.mpr (S_strings_Builder_WriteString_eq t0 t1 w K) h)

/- (*strings.Builder).String -/
def S_strings_Builder_String (t0 : Value) (w : World) (K : Ending → World → Prop) : Prop :=
 QuietX w (fun C1 =>
 QDo Tryz.prog C1 (mNil t0) fun t4 =>
 QDo Tryz.prog C1 (mFA 75 t4 1) fun t5 =>
 QDo Tryz.prog C1 (mLoad 73 t5) fun t6 =>
 QDo Tryz.prog C1 (mB .unsafeSliceData #[73] 123 #[false] #[t6]) fun t7 =>
 QDo Tryz.prog C1 (mNil t0) fun t9 =>
 QDo Tryz.prog C1 (mFA 75 t9 1) fun t10 =>
 QDo Tryz.prog C1 (mLoad 73 t10) fun t11 =>
 QDo Tryz.prog C1 (mB .len #[73] 3 #[false] #[t11]) fun t12 =>
 ∀ w, C1 w →
 DoX Tryz.prog (mB .unsafeString #[123, 3] 9 #[false, false] #[t7, t12]) w (pk K) fun t13 w =>
 K (.returned t13) w)
theorem S_strings_Builder_String_eq (t0 : Value) (w : World) (K : Ending → World → Prop) : wpX Tryz.prog 14 [] [] none (bodyOf Tryz.f53) (topQ Tryz.prog [.tmp 2] K) (startX [t0]) [] w = S_strings_Builder_String t0 w K := by kernel_rfl
theorem S_strings_Builder_String_ok {t0 : Value} {w : World} {K : Ending → World → Prop} (h : S_strings_Builder_String t0 w K) : Calls Tryz.prog 53 #[t0] w K :=
  calls_of_wpX Tryz.func53 rfl rfl rfl rfl (Eq.mpr (S_strings_Builder_String_eq t0 w K) h)

/- (*strings.Builder).Grow -/
/- (*strings.Builder).grow -/
/- (*strings.Builder).Len -/
end Go.Proofs.YtiklhhdohckfiaaGreatDoor
/- Contracts: strings.Builder (copyCheck, WriteByte, WriteString, Grow on a fresh one, String), in terms of a piece of memory that is lent. -/
namespace Go.Proofs.YtiklhhdohckfiaaGreatDoor
set_option linter.unusedVariables false
set_option linter.unusedSimpArgs false
set_option linter.defProp false
open Eng Go.RowKit

abbrev Bld (b : Nat) (v : Value) (l : List UInt8) : Ent := .bld 75 5 b v l
theorem bytesV_append (a b : List UInt8) : bytesV (a ++ b) = bytesV a ++ bytesV b := by simp [bytesV]
theorem bytesV_one (l : List UInt8) : ∀ u ∈ bytesV l, u.oneCell' = true := by
  intro u hu
  simp only [bytesV, List.mem_map] at hu
  obtain ⟨c, _, rfl⟩ := hu
  rfl
theorem e_pnone {P : Program} {T U : TypeId} {xo : Operand} {a : Option Addr} {c : Value} {w : World} {PK : List PanicEntry → World → Prop} {K : Value → World → Prop} (h : P.underlying T = some (.pointer U)) :
    DoX P (mEq .eql T xo (.const c) (.pointer a) (.pointer none)) w PK K = K (.bool a.isNone) w := by
  refine mv_do ?_
  have e : (eqGuard .eql T xo (.const c) (.pointer a) (.pointer none)) = pure () := by cases xo <;> rfl
  rw [e]
  have h2 : ∀ d : Nat, (Op.equalIn (d + 1) T (.pointer a) (.pointer none)).run P w = .ok a.isNone w := fun d => by
    cases a <;> simp [Op.equalIn, run_underlying h]
  simp only [binOp]
  simp [Op.equal, Op.maxDepth, h2 9999]
theorem n_psame {P : Program} {T U : TypeId} {xo yo : Operand} {a : Addr} {w : World} {PK : List PanicEntry → World → Prop} {K : Value → World → Prop} (h : P.underlying T = some (.pointer U)) (hi : (P.info? U).isSome = true) (hg : eqGuard .neq T xo yo (.pointer (some a)) (.pointer (some a)) = pure ()) :
    DoX P (mEq .neq T xo yo (.pointer (some a)) (.pointer (some a))) w PK K = K (.bool false) w := by
  obtain ⟨j, hj⟩ := Option.isSome_iff_exists.1 hi
  refine mv_do ?_
  rw [hg]
  simp [Lib.run_neq_ptr_same w a h hj]

theorem copyCheck_ret {b : Nat} {v : Value} {l : List UInt8} {w : World} (h : (Bld b v l).is w) : Ret Tryz.prog 104 #[.pointer (some ⟨b, 0, none⟩)] w
    (fun r w' => ∃ e', (r = .tuple #[] ∧ e' = Bld b v l) ∧ Turn (Bld b v l) e' w w') := by
  obtain ⟨p, hp, hcap, ho⟩ := (OwnS.lend h).openB
  refine ret_of fun K hK => S_strings_Builder_copyCheck_ok ?_
  unfold S_strings_Builder_copyCheck
  simp only [rs, f_addr (show fOff Tryz.prog 75 0 = some 0 by kernel_rfl)]
  rw [l_cell (by kernel_rfl) (ho.cell 0 rfl 0 rfl)]
  rcases hp with rfl | rfl
  · rw [e_pnone Tryz.underlying72]
    simp only [Option.isNone_none, rs]
    obtain ⟨j, hj⟩ := Option.isSome_iff_exists.1 (show (Tryz.prog.info? 75).isSome = true by kernel_rfl)
    have hjs : j.size ≠ 0 := by
      have : (Tryz.prog.info? 75).map (·.size) = some 2 := by kernel_rfl
      rw [hj] at this
      simp only [Option.map_some, Option.some.injEq] at this
      omega
    have hsh : w.shape? b = some (75, 2) := by
      have hb : w.heap[b]? = some (.cells #[.pointer none, v] 75 (0, 0)) := ho.at_ 0 rfl
      simp [World.shape?, hb]
    refine do_ok (mv_run (Lib.run_to_unsafe w ⟨b, 0, none⟩ Tryz.underlying72 Tryz.underlying166 hj hjs hsh (by show 0 < 2; omega))) ?_
    refine do_ok (show (mCallV (.func (.func 171) #[] #[]) #[.pointer (some ⟨b, 0, none⟩)]).run Tryz.prog w = .ok (.value (.pointer (some ⟨b, 0, none⟩))) w by kernel_rfl) ?_
    refine do_ok (mv_run (Lib.run_from_unsafe w ⟨b, 0, none⟩ Tryz.underlying166 Tryz.underlying72 hj hsh (by kernel_rfl))) ?_
    refine o_store 0 ho rfl (by kernel_rfl) rfl (by simp) fun w2 ho2 => ?_
    exact hK _ _ ⟨_, ⟨rfl, rfl⟩, (OwnS.closeB (.inr rfl) hcap ho2).back⟩
  · rw [e_pnone Tryz.underlying72]
    simp only [Option.isNone_some, rs, f_addr (show fOff Tryz.prog 75 0 = some 0 by kernel_rfl)]
    rw [l_cell (by kernel_rfl) (ho.cell 0 rfl 0 rfl)]
    rw [n_psame Tryz.underlying72 (by kernel_rfl) rfl]
    simp only [rs]
    exact hK _ _ ⟨_, ⟨rfl, rfl⟩, (ho.closeB (.inr rfl) hcap).back⟩
theorem writeByte_ret {b : Nat} {v : Value} {l : List UInt8} {c : UInt8} {w : World} (h : (Bld b v l).is w) (hl : l.length < 140737488355328) : Ret Tryz.prog 52 #[.pointer (some ⟨b, 0, none⟩), .int .u8 c.toNat] w
    (fun r w' => ∃ e', (r = .nilIface ∧ ∃ v', e' = Bld b v' (l ++ [c])) ∧ Turn (Bld b v l) e' w w') := by
  refine ret_of fun K hK => S_strings_Builder_WriteByte_ok ?_
  unfold S_strings_Builder_WriteByte
  refine c_turn 0 (OwnS.lend h) rfl (copyCheck_ret h) ?_
  rintro _ _ w1 ⟨rfl, rfl⟩ ho1
  obtain ⟨p, hp, hcap, ho⟩ := OwnS.openB ho1
  simp only [rs, f_addr (show fOff Tryz.prog 75 1 = some 1 by kernel_rfl)]
  rw [l_cell (by kernel_rfl) (ho.cell 0 rfl 1 rfl)]
  refine o_new (fun b => .slice (some ⟨b, 0, none⟩) 1 1) [.int .u8 c.toNat] 5 (fun _ => by kernel_rfl) ho fun nb w2 h2 => ?_
  refine o_append 2 Tryz.underlying73 (show elB Tryz.prog 5 1 1 = true by kernel_rfl) (by decide) h2 rfl (h2.sl 0 rfl 1 1 1 rfl) (bytesV_one [c]) (by omega) (by omega) fun v' w3 h3 => ?_
  refine o_store 1 h3 rfl (by kernel_rfl) (by
    have := h3.at_ 2 rfl
    rcases this.2 with ⟨hv, _⟩ | ⟨_, _, _, _, hv, _⟩ <;> rw [hv] <;> rfl) (by simp) fun w4 h4 => ?_
  have h5 := h4.tail
  have h6 : OwnS (Bld b v l).blk w w4 (.cells b [p, v'] 75 :: .row 5 1 v' (l.length + 1) (bytesV (l ++ [c])) :: []) := by
    rw [bytesV_append]; exact h5
  exact hK _ _ ⟨_, ⟨rfl, v', rfl⟩, (OwnS.closeB hp (roomy_row (h6.at_ 1 rfl) (by omega)) h6).back⟩
theorem writeString_ret {b : Nat} {v : Value} {l s : List UInt8} {w : World} (h : (Bld b v l).is w) (hl : l.length + s.length ≤ 140737488355328) : Ret Tryz.prog 51 #[.pointer (some ⟨b, 0, none⟩), .string ⟨s.toArray⟩] w
    (fun r w' => ∃ e', ((∃ x, r = .tuple #[x, .nilIface]) ∧ ∃ v', e' = Bld b v' (l ++ s)) ∧ Turn (Bld b v l) e' w w') := by
  refine ret_of fun K hK => S_strings_Builder_WriteString_ok ?_
  unfold S_strings_Builder_WriteString
  refine c_turn 0 (OwnS.lend h) rfl (copyCheck_ret h) ?_
  rintro _ _ w1 ⟨rfl, rfl⟩ ho1
  obtain ⟨p, hp, hcap, ho⟩ := OwnS.openB ho1
  simp only [rs, f_addr (show fOff Tryz.prog 75 1 = some 1 by kernel_rfl)]
  rw [l_cell (by kernel_rfl) (ho.cell 0 rfl 1 rfl)]
  refine o_append_str 1 Tryz.underlying73 Tryz.underlying9 (show elB Tryz.prog 5 1 1 = true by kernel_rfl) Tryz.underlying5 (by kernel_rfl) ho rfl (by omega) fun v' w3 hro h3 => ?_
  refine o_store 0 h3 rfl (by kernel_rfl) (by
    have := h3.at_ 1 rfl
    rcases this.2 with ⟨hv, _⟩ | ⟨_, _, _, _, hv, _⟩ <;> rw [hv] <;> rfl) (by simp) fun w4 h4 => ?_
  rw [s_len Tryz.underlying9]
  have h6 : OwnS (Bld b v l).blk w w4 (.cells b [p, v'] 75 :: .row 5 1 v' (l.length + s.length) (bytesV (l ++ s)) :: []) := by
    rw [bytesV_append]; exact h4
  exact hK _ _ ⟨_, ⟨⟨_, rfl⟩, v', rfl⟩, (OwnS.closeB hp (hro hcap) h6).back⟩
theorem row_froze {E : TypeId} {g n cap : Nat} {xs : List Value} {w : World} (h : w.ownsRowF 0 E 1 (.slice (some ⟨g, 0, none⟩) n cap) n xs) (hn0 : n ≠ 0) :
    Turn (.row E 1 (.slice (some ⟨g, 0, none⟩) n cap) n xs) (.row E 1 (.slice (some ⟨g, 0, none⟩) n cap) n xs) w (w.freeze ⟨g, 0, none⟩ n) := by
  refine ⟨?_, ?_, fun k hk => .inl hk⟩
  · unfold World.freeze
    rw [if_neg hn0]
    refine ⟨rfl, rfl, rfl, by simp, fun k hk hne => ?_⟩
    have hkg : ¬ g = k := fun e => hne (by show some g = some k; rw [e])
    simp only [Array.getElem?_modify]
    rw [if_neg hkg]
  · refine ⟨h.1, ?_⟩
    unfold World.freeze
    rw [if_neg hn0]
    rcases h.2 with ⟨hv, _⟩ | ⟨g', cap', cur, fz, hv, hbg, hg, hfz, rest⟩
    · cases hv
    · injection hv with ha _ hcap
      injection ha with ha
      injection ha with hgg _ _
      subst hgg
      subst hcap
      obtain ⟨lo, hi⟩ := fz
      refine .inr ⟨g, _, cur, (if lo == hi then (0, 0 + n) else (min lo 0, max hi (0 + n))), rfl, hbg, ?_, ?_, rest⟩
      · simp [Array.getElem?_modify, hg]
      · simp only at hfz
        split <;> simp <;> omega
theorem run_usd {v : Value} {n : Nat} {T U : TypeId} {cs : Array Bool} {w : World} {E : TypeId} {xs : List Value} (h : w.ownsRowF 0 E 1 v n xs) (hr : roomy v) : ∃ q, (∀ w' : World, (mB .unsafeSliceData #[T] U cs #[v]).run Tryz.prog w' = .ok (.value (.pointer q)) w') ∧ (0 < n → ∃ g cap, v = .slice (some ⟨g, 0, none⟩) n cap ∧ q = some ⟨g, 0, none⟩) := by
  rcases h.2 with ⟨rfl, rfl⟩ | ⟨g, cap, cur, fz, rfl, hbg, hg, hfz, rest⟩
  · exact ⟨none, fun w' => by simp [mB, builtin, Lib.run_unsafeSliceData_nil], fun h => by omega⟩
  · refine ⟨some ⟨g, 0, none⟩, fun w' => ?_, fun _ => ⟨g, cap, rfl, rfl⟩⟩
    have hc : cap ≠ 0 := fun e => hr ⟨g, 0, none⟩ n (by rw [e])
    simp [mB, builtin, Lib.run_unsafeSliceData_row _ _ _ _ _ _ hc]
theorem bldString_ret {b : Nat} {v : Value} {l : List UInt8} {w : World} (h : (Bld b v l).is w) : Ret Tryz.prog 53 #[.pointer (some ⟨b, 0, none⟩)] w
    (fun r w' => ∃ e', (r = .string ⟨l.toArray⟩ ∧ e' = Bld b v l) ∧ Turn (Bld b v l) e' w w') := by
  obtain ⟨p, hp, hcap, ho⟩ := (OwnS.lend h).openB
  refine ret_of fun K hK => S_strings_Builder_String_ok ?_
  unfold S_strings_Builder_String
  have hrow : w.ownsRowF 0 5 1 v l.length (bytesV l) := ho.at_ 1 rfl
  obtain ⟨q, hq, hq2⟩ := run_usd (T := 73) (U := 123) (cs := #[false]) hrow hcap
  have hload : ∀ w', Below w.heap.size w w' → (mLoad 73 (.pointer (some ⟨b, 0 + 1, none⟩))).run Tryz.prog w' = .ok (.value v) w' := fun w' hb => run_load_cell (by kernel_rfl) ((ho.grow hb).cell 0 rfl 1 rfl)
  have hlen : ∀ w', Below w.heap.size w w' → (mB .len #[73] 3 #[false] #[v]).run Tryz.prog w' = .ok (.value (.int .i64 l.length)) w' := fun w' hb => by
    have hs := (ho.grow hb).slRow 1 rfl
    obtain ⟨_, a, cp, rfl, _⟩ := hs
    simp [mB, builtin, Builtin.len_, run_underlying Tryz.underlying73, goInt]
  refine quiet (q_do _ (fun w => run_nil) (q_do _ (fun w => run_fa (show fOff Tryz.prog 75 1 = some 1 by kernel_rfl)) (q_at v hload (q_do _ hq (q_do _ (fun w => run_nil) (q_do _ (fun w => run_fa (show fOff Tryz.prog 75 1 = some 1 by kernel_rfl)) (q_at v hload (q_at _ hlen ?_))))))))
  intro w2 hb2
  have h2 := ho.grow hb2
  rcases Nat.eq_zero_or_pos l.length with h0 | h0
  · have hl : l = [] := List.eq_nil_of_length_eq_zero h0
    subst hl
    refine do_ok (show (mB .unsafeString #[123, 3] 9 #[false, false] #[.pointer q, .int .i64 0]).run Tryz.prog w2 = .ok (.value (.string ⟨([] : List UInt8).toArray⟩)) w2 by
      simp [mB, builtin, Lib.run_unsafeString_none]; rfl) ?_
    exact hK _ _ ⟨_, ⟨rfl, rfl⟩, (OwnS.closeB hp hcap h2).back⟩
  · obtain ⟨g, cap, rfl, rfl⟩ := hq2 h0
    have hr2 : w2.ownsRowF 0 5 1 (.slice (some ⟨g, 0, none⟩) l.length cap) l.length (bytesV l) := h2.at_ 1 rfl
    have hne : l ≠ [] := List.length_pos_iff.1 h0
    have hsh : ∃ cells, w2.shape? g = some (5, cells) ∧ l.length ≤ cells ∧ l.length ≤ 9223372036854775807 := by
      rcases hr2.2 with ⟨hv, _⟩ | ⟨g', cap', cur, fz, hv, hbg, hg, hfz, hnc, hcm, hcs, _⟩
      · cases hv
      · injection hv with ha _ hcap
        injection ha with ha
        injection ha with hgg _ _
        subst hgg
        refine ⟨cur.size, by simp [World.shape?, hg], by omega, ?_⟩
        simp only [maxLen] at hcm; omega
    obtain ⟨cells, hsh, hle, h63⟩ := hsh
    have hr := Lib.run_unsafeString_row (P := Tryz.prog) w2 123 3 9 5 Tryz.underlying123 (by kernel_rfl) g cells hsh l hne hle h63 (fun j x hj => by
      have := World.ownsRowF.cells hr2 (g := g) rfl j (.int .u8 x.toNat) (bytesV_get hj)
      exact this)
    refine do_ok (show (mB .unsafeString #[123, 3] 9 #[false, false] #[.pointer (some ⟨g, 0, none⟩), .int .i64 l.length]).run Tryz.prog w2 = .ok (.value (.string ⟨l.toArray⟩)) (w2.freeze ⟨g, 0, none⟩ l.length) by
      simp [mB, builtin, hr]) ?_
    have h3 := h2.turn 1 rfl (row_froze hr2 (by omega))
    exact hK _ _ ⟨_, ⟨rfl, rfl⟩, (OwnS.closeB hp hcap h3).back⟩
theorem grow_ret {b n : Nat} {w0 w1 : World} (ho : Own w0 w1 [.cells b [.pointer none, .slice none 0 0] 75]) (h0 : 0 < n) (hn : n ≤ 281474976710656) : Ret Tryz.prog 143 #[.pointer (some ⟨b, 0, none⟩), .int .i64 n] w1
    (fun r w2 => r = .tuple #[] ∧ ∃ v, Own w0 w2 [Bld b v []]) := by
  have hbk : w1.heap[b]? = some (.cells #[.pointer none, .slice none 0 0] 75 (0, 0)) := ho.at_ 0 rfl
  have hB : w0.heap.size ≤ b := ((ho.all (.cells b [.pointer none, .slice none 0 0] 75) (by simp)).2 b rfl).elim (fun x => x.elim) id
  refine Calls.mono (Tryz.Builder_Grow_fresh_cap w0.heap.size b n w1 hB hbk ho.size hn) ?_
  rintro e w2 ⟨rfl, ⟨⟨_, v, hb, hrow, hne⟩, hbl⟩, p, cap, hcell, hcap⟩
  refine retK ⟨rfl, v, ?_⟩
  have hv : v = .slice p 0 cap := by
    rw [Lib.cell_of_heap hb] at hcell
    simpa using hcell
  refine ⟨⟨hbl.os.trans ho.grew.os, hbl.tape.trans ho.grew.tape, hbl.output.trans ho.grew.output, Nat.le_trans ho.size hbl.size, fun k hk hk2 => (hbl.block k hk).trans (ho.grew.block k hk hk2)⟩, fun e he => ?_, List.pairwise_singleton _ _⟩
  rw [List.mem_singleton] at he
  subst he
  refine ⟨⟨⟨_, .inr rfl, hb⟩, ⟨hrow.1, ?_⟩, hne, fun a k hc => ?_⟩, fun k hk => .inr ?_⟩
  · rcases hrow.2 with h | ⟨g, cp, cur, h1, h2, h3, h4⟩
    · exact .inl h
    · exact .inr ⟨g, cp, cur, (0, 0), h1, Nat.zero_le _, h3, Nat.zero_le _, h4⟩
  · rw [hv] at hc
    injection hc with c1 c2 c3
    omega
  · rcases hk with hk | hk
    · rw [hk]; exact hB
    · rcases hrow.2 with ⟨h, _⟩ | ⟨g, cp, cur, h1, h2, h3, h4⟩
      · rw [h] at hk; cases hk
      · rw [h1] at hk; cases hk; exact h2
end Go.Proofs.YtiklhhdohckfiaaGreatDoor
/- Code in continuation form, by program (gen.py): 14 functions. -/
namespace Go.Proofs.YtiklhhdohckfiaaGreatDoor
set_option linter.unusedVariables false
set_option linter.unusedSimpArgs false
set_option linter.defProp false
set_option linter.unusedVariables false
set_option maxRecDepth 20000
open Eng

/- plain.Int -/
def S_plain_Int (t0 : Value) (w : World) (K : Ending → World → Prop) : Prop :=
 DoX Tryz.prog (mBin .lss 2 t0 (.int .i64 (-2147483647))) w (pk K) fun t5 w =>
 GDo t5 false (fun E => E t0 w) w fun t7 w =>
 GDo t5 false (fun E => DoX Tryz.prog (mBin .gtr 2 t7 (.int .i64 2147483647)) w (pk K) E) w fun t8 w =>
 DoX Tryz.prog (mPick t5 (.bool true) t8) w (pk K) fun t9 w =>
 IfX t9 (K (.returned (.tuple #[(.string ⟨#[]⟩), (.int .i64 2)])) w) (CallX Tryz.prog 195 #[t0, (.int .i64 10)] w (pk K) fun t11 w =>
 K (.returned (.tuple #[t11, (.int .i64 0)])) w)
theorem S_plain_Int_eq (t0 : Value) (w : World) (K : Ending → World → Prop) : wpX Tryz.prog 12 [] [] none (bodyOf Tryz.f142) (topQ Tryz.prog [.tmp 2, .tmp 3] K) (startX [t0]) [] w = S_plain_Int t0 w K := by kernel_rfl
theorem S_plain_Int_ok {t0 : Value} {w : World} {K : Ending → World → Prop} (h : S_plain_Int t0 w K) : Calls Tryz.prog 142 #[t0] w K :=
  calls_of_wpX Tryz.func142 rfl rfl rfl rfl (Eq.mpr (S_plain_Int_eq t0 w K) h)

/- plain.Real -/
def S_plain_Real (t0 : Value) (w : World) (K : Ending → World → Prop) : Prop :=
 DoX Tryz.prog (mBin .lss 2 t0 (.int .i64 (-1073741824))) w (pk K) fun t5 w =>
 GDo t5 false (fun E => E t0 w) w fun t7 w =>
 GDo t5 false (fun E => DoX Tryz.prog (mBin .gtr 2 t7 (.int .i64 1073741824)) w (pk K) E) w fun t8 w =>
 DoX Tryz.prog (mPick t5 (.bool true) t8) w (pk K) fun t9 w =>
 IfX t9 (K (.returned (.tuple #[(.string ⟨#[]⟩), (.int .i64 2)])) w) (CallX Tryz.prog 207 #[t0] w (pk K) fun t11 w =>
 K (.returned (.tuple #[t11, (.int .i64 0)])) w)
theorem S_plain_Real_eq (t0 : Value) (w : World) (K : Ending → World → Prop) : wpX Tryz.prog 12 [] [] none (bodyOf Tryz.f160) (topQ Tryz.prog [.tmp 2, .tmp 3] K) (startX [t0]) [] w = S_plain_Real t0 w K := by kernel_rfl
theorem S_plain_Real_ok {t0 : Value} {w : World} {K : Ending → World → Prop} (h : S_plain_Real t0 w K) : Calls Tryz.prog 160 #[t0] w K :=
  calls_of_wpX Tryz.func160 rfl rfl rfl rfl (Eq.mpr (S_plain_Real_eq t0 w K) h)

/- plain.String -/
def S_plain_String (t0 : Value) (w : World) (K : Ending → World → Prop) : Prop :=
 DoX Tryz.prog (mB .len #[9] 3 #[false] #[t0]) w (pk K) fun t5 w =>
 DoX Tryz.prog (mBin .gtr 3 t5 (.int .i64 32767)) w (pk K) fun t6 w =>
 IfX t6 (K (.returned (.tuple #[(.string ⟨#[]⟩), (.int .i64 5)])) w) (CallX Tryz.prog 163 #[(.string ⟨#[40]⟩), t0, (.string ⟨#[41]⟩), (.func (.func 208) #[] #[])] w (pk K) fun t8 w =>
 K (.returned (.tuple #[t8, (.int .i64 0)])) w)
theorem S_plain_String_eq (t0 : Value) (w : World) (K : Ending → World → Prop) : wpX Tryz.prog 9 [] [] none (bodyOf Tryz.f161) (topQ Tryz.prog [.tmp 2, .tmp 3] K) (startX [t0]) [] w = S_plain_String t0 w K := by kernel_rfl
theorem S_plain_String_ok {t0 : Value} {w : World} {K : Ending → World → Prop} (h : S_plain_String t0 w K) : Calls Tryz.prog 161 #[t0] w K :=
  calls_of_wpX Tryz.func161 rfl rfl rfl rfl (Eq.mpr (S_plain_String_eq t0 w K) h)

/- plain.Hex -/
/- plain.Name -/
def S_plain_Name (t0 : Value) (w : World) (K : Ending → World → Prop) : Prop :=
 DoX Tryz.prog (mB .len #[9] 3 #[false] #[t0]) w (pk K) fun t6 w =>
 DoX Tryz.prog (mBin .gtr 3 t6 (.int .i64 127)) w (pk K) fun t7 w =>
 IfX t7 (K (.returned (.tuple #[(.string ⟨#[]⟩), (.int .i64 5)])) w) (CallX Tryz.prog 162 #[t0, (.int .u8 0)] w (pk K) fun t10 w =>
 DoX Tryz.prog (mBin .geq 3 t10 (.int .i64 0)) w (pk K) fun t11 w =>
 IfX t11 (K (.returned (.tuple #[(.string ⟨#[]⟩), (.int .i64 3)])) w) (CallX Tryz.prog 163 #[(.string ⟨#[47]⟩), t0, (.string ⟨#[]⟩), (.func (.func 164) #[] #[])] w (pk K) fun t13 w =>
 K (.returned (.tuple #[t13, (.int .i64 0)])) w))
theorem S_plain_Name_eq (t0 : Value) (w : World) (K : Ending → World → Prop) : wpX Tryz.prog 14 [] [] none (bodyOf Tryz.f101) (topQ Tryz.prog [.tmp 2, .tmp 3] K) (startX [t0]) [] w = S_plain_Name t0 w K := by kernel_rfl
theorem S_plain_Name_ok {t0 : Value} {w : World} {K : Ending → World → Prop} (h : S_plain_Name t0 w K) : Calls Tryz.prog 101 #[t0] w K :=
  calls_of_wpX Tryz.func101 rfl rfl rfl rfl (Eq.mpr (S_plain_Name_eq t0 w K) h)

/- plain.Join -/
def S_plain_Join_2 (t4 t9 : Value) (w : World) (N1 : List Value → World → Prop) (K : Ending → World → Prop) : Prop :=
 DoX Tryz.prog (mBin .add 3 t9 (.int .i64 1)) w (pk K) fun t34 w =>
 N1 [t4, t34] w
def S_plain_Join_1 (t3 t6 : Value) (w : World) (J2 : List Value → World → Prop) (K : Ending → World → Prop) : Prop :=
 CallX Tryz.prog 51 #[t3, t6] w (pk K) fun t28 w =>
 DoX Tryz.prog (mB .len #[9] 3 #[false] #[t6]) w (pk K) fun t31 w =>
 DoX Tryz.prog (mBin .sub 3 t31 (.int .i64 1)) w (pk K) fun t32 w =>
 DoX Tryz.prog (mIx 9 t6 t32) w (pk K) fun t33 w =>
 J2 [t33] w
def S_plain_Join_0 (t3 t4 t7 t8 t9 : Value) (w : World) (N1 : List Value → World → Prop) (K : Ending → World → Prop) : Prop :=
 DoX Tryz.prog (mBin .lss 3 t9 t8) w (pk K) fun t10 w =>
 IfX t10 (JoinX (fun J2 =>
 DoX Tryz.prog (mIA 22 t7 t9) w (pk K) fun t11 w =>
 DoX Tryz.prog (mLoad 9 t11) w (pk K) fun t12 w =>
 DoX Tryz.prog (mEq .eql 9 (.tmp 13) (.const (.string ⟨#[]⟩)) t12 (.string ⟨#[]⟩)) w (pk K) fun t14 w =>
 IfX t14 (J2 [t4] w) (JoinX (fun J3 =>
 CallX Tryz.prog 96 #[t4] w (pk K) fun t16 w =>
 GDo t16 false (fun E => E t4 w) w fun t18 w =>
 GDo t16 false (fun E => DoX Tryz.prog (mEq .eql 5 (.tmp 18) (.const (.int .u8 47)) t18 (.int .u8 47)) w (pk K) E) w fun t19 w =>
 DoX Tryz.prog (mPick t16 (.bool true) t19) w (pk K) fun t20 w =>
 GDo t20 true (fun E => E t12 w) w fun t22 w =>
 GDo t20 true (fun E => DoX Tryz.prog (mIx 9 t22 (.int .i64 0)) w (pk K) E) w fun t23 w =>
 GDo t20 true (fun E => CallX Tryz.prog 96 #[t23] w (pk K) E) w fun t24 w =>
 DoX Tryz.prog (mPick t20 t24 (.bool false)) w (pk K) fun t25 w =>
 IfX t25 (CallX Tryz.prog 52 #[t3, (.int .u8 32)] w (pk K) fun t26 w =>
 J3 [] w) (J3 [] w)) (fun vs3 w => ∀ _ : Sg, S_plain_Join_1 t3 t12 w J2 K))) (fun vs2 w => ∀ _ : Sg, S_plain_Join_2 (vs2.getD 0 undef) t9 w N1 K)) (CallX Tryz.prog 53 #[t3] w (pk K) fun t35 w =>
 K (.returned t35) w)
def S_plain_Join (t0 : Value) (w : World) (K : Ending → World → Prop) : Prop :=
 DoX Tryz.prog (mAlloc 75) w (pk K) fun t3 w =>
 DoX Tryz.prog (mB .len #[22] 3 #[false] #[t0]) w (pk K) fun t8 w =>
 LoopX [(.int .u8 32), (.int .i64 0)] w (fun vs1 w N1 => ∀ _ : Sg, S_plain_Join_0 t3 (vs1.getD 0 undef) t0 t8 (vs1.getD 1 undef) w N1 K)
theorem S_plain_Join_eq (t0 : Value) (w : World) (K : Ending → World → Prop) : wpX Tryz.prog 36 [(9, []), (11, [4])] [(4, [4, 9])] none (bodyOf Tryz.f46) (topQ Tryz.prog [.tmp 2] K) (startX [t0]) [] w = S_plain_Join t0 w K := by kernel_rfl
theorem S_plain_Join_ok {t0 : Value} {w : World} {K : Ending → World → Prop} (h : S_plain_Join t0 w K) : Calls Tryz.prog 46 #[t0] w K :=
  calls_of_wpX Tryz.func46 rfl rfl rfl rfl (Eq.mpr (S_plain_Join_eq t0 w K) h)

/- plain.Pad -/
/- plain.write -/
def S_plain_write_0 (t1 t2 t3 t9 t23 t24 : Value) (w : World) (N1 : List Value → World → Prop) (K : Ending → World → Prop) : Prop :=
 DoX Tryz.prog (mBin .lss 3 t24 t23) w (pk K) fun t25 w =>
 IfX t25 (DoX Tryz.prog (mIx 9 t1 t24) w (pk K) fun t30 w =>
 DoX Tryz.prog (mCallV t3 #[t9, t30]) w (pk K) fun t31 w =>
 DoX Tryz.prog (mBin .add 3 t24 (.int .i64 1)) w (pk K) fun t32 w =>
 N1 [t32] w) (CallX Tryz.prog 51 #[t9, t2] w (pk K) fun t34 w =>
 CallX Tryz.prog 53 #[t9] w (pk K) fun t35 w =>
 K (.returned t35) w)
def S_plain_write (t0 t1 t2 t3 : Value) (w : World) (K : Ending → World → Prop) : Prop :=
 DoX Tryz.prog (mAlloc 75) w (pk K) fun t9 w =>
 DoX Tryz.prog (mB .len #[9] 3 #[false] #[t0]) w (pk K) fun t12 w =>
 DoX Tryz.prog (mB .len #[9] 3 #[false] #[t1]) w (pk K) fun t14 w =>
 DoX Tryz.prog (mBin .add 3 t12 t14) w (pk K) fun t15 w =>
 DoX Tryz.prog (mB .len #[9] 3 #[false] #[t2]) w (pk K) fun t17 w =>
 DoX Tryz.prog (mBin .add 3 t15 t17) w (pk K) fun t18 w =>
 CallX Tryz.prog 143 #[t9, t18] w (pk K) fun t19 w =>
 CallX Tryz.prog 51 #[t9, t0] w (pk K) fun t21 w =>
 DoX Tryz.prog (mB .len #[9] 3 #[false] #[t1]) w (pk K) fun t23 w =>
 LoopX [(.int .i64 0)] w (fun vs1 w N1 => ∀ _ : Sg, S_plain_write_0 t1 t2 t3 t9 t23 (vs1.getD 0 undef) w N1 K)
theorem S_plain_write_eq (t0 t1 t2 t3 : Value) (w : World) (K : Ending → World → Prop) : wpX Tryz.prog 36 [] [(5, [24])] none (bodyOf Tryz.f163) (topQ Tryz.prog [.tmp 8] K) (startX [t0, t1, t2, t3]) [] w = S_plain_write t0 t1 t2 t3 w K := by kernel_rfl
theorem S_plain_write_ok {t0 t1 t2 t3 : Value} {w : World} {K : Ending → World → Prop} (h : S_plain_write t0 t1 t2 t3 w K) : Calls Tryz.prog 163 #[t0, t1, t2, t3] w K :=
  calls_of_wpX Tryz.func163 rfl rfl rfl rfl (Eq.mpr (S_plain_write_eq t0 t1 t2 t3 w K) h)

/- plain.String$1 -/
def S_plain_String_1_0 (t0 t1 t34 t35 : Value) (w : World) (N1 : List Value → World → Prop) (K : Ending → World → Prop) : Prop :=
 DoX Tryz.prog (mBin .lss 3 t35 (.int .i64 3)) w (pk K) fun t36 w =>
 IfX t36 (DoX Tryz.prog (mIx 196 t34 t35) w (pk K) fun t37 w =>
 DoX Tryz.prog (mBin .quo 5 t1 t37) w (pk K) fun t41 w =>
 DoX Tryz.prog (mBin .rem 5 t41 (.int .u8 8)) w (pk K) fun t42 w =>
 DoX Tryz.prog (mBin .add 5 (.int .u8 48) t42) w (pk K) fun t43 w =>
 CallX Tryz.prog 52 #[t0, t43] w (pk K) fun t44 w =>
 DoX Tryz.prog (mBin .add 3 t35 (.int .i64 1)) w (pk K) fun t45 w =>
 N1 [t45] w) (K (.returned (.tuple #[])) w)
def S_plain_String_1 (t0 t1 : Value) (w : World) (K : Ending → World → Prop) : Prop :=
 DoX Tryz.prog (mEq .eql 5 (.tmp 10) (.const (.int .u8 40)) t1 (.int .u8 40)) w (pk K) fun t11 w =>
 GDo t11 false (fun E => E t1 w) w fun t13 w =>
 GDo t11 false (fun E => DoX Tryz.prog (mEq .eql 5 (.tmp 13) (.const (.int .u8 41)) t13 (.int .u8 41)) w (pk K) E) w fun t14 w =>
 DoX Tryz.prog (mPick t11 (.bool true) t14) w (pk K) fun t15 w =>
 GDo t15 false (fun E => E t1 w) w fun t17 w =>
 GDo t15 false (fun E => DoX Tryz.prog (mEq .eql 5 (.tmp 17) (.const (.int .u8 92)) t17 (.int .u8 92)) w (pk K) E) w fun t18 w =>
 DoX Tryz.prog (mPick t15 (.bool true) t18) w (pk K) fun t19 w =>
 IfX t19 (CallX Tryz.prog 52 #[t0, (.int .u8 92)] w (pk K) fun t21 w =>
 CallX Tryz.prog 52 #[t0, t1] w (pk K) fun t24 w =>
 K (.returned (.tuple #[])) w) (DoX Tryz.prog (mBin .lss 5 t1 (.int .u8 32)) w (pk K) fun t27 w =>
 GDo t27 false (fun E => E t1 w) w fun t29 w =>
 GDo t27 false (fun E => DoX Tryz.prog (mBin .gtr 5 t29 (.int .u8 126)) w (pk K) E) w fun t30 w =>
 DoX Tryz.prog (mPick t27 (.bool true) t30) w (pk K) fun t31 w =>
 IfX t31 (CallX Tryz.prog 52 #[t0, (.int .u8 92)] w (pk K) fun t33 w =>
 DoX Tryz.prog (mBuild 196 #[(0, (.int .u8 64)), (1, (.int .u8 8)), (2, (.int .u8 1))]) w (pk K) fun t34 w =>
 LoopX [(.int .i64 0)] w (fun vs1 w N1 => ∀ _ : Sg, S_plain_String_1_0 t0 t1 t34 (vs1.getD 0 undef) w N1 K)) (CallX Tryz.prog 52 #[t0, t1] w (pk K) fun t8 w =>
 K (.returned (.tuple #[])) w))
theorem S_plain_String_1_eq (t0 t1 : Value) (w : World) (K : Ending → World → Prop) : wpX Tryz.prog 46 [] [(7, [35])] none (bodyOf Tryz.f208) (topQ Tryz.prog [] K) (startX [t0, t1]) [] w = S_plain_String_1 t0 t1 w K := by kernel_rfl
theorem S_plain_String_1_ok {t0 t1 : Value} {w : World} {K : Ending → World → Prop} (h : S_plain_String_1 t0 t1 w K) : Calls Tryz.prog 208 #[t0, t1] w K :=
  calls_of_wpX Tryz.func208 rfl rfl rfl rfl (Eq.mpr (S_plain_String_1_eq t0 t1 w K) h)

/- plain.Name$1 -/
def S_plain_Name_1 (t0 t1 : Value) (w : World) (K : Ending → World → Prop) : Prop :=
 DoX Tryz.prog (mBin .gtr 5 t1 (.int .u8 32)) w (pk K) fun t5 w =>
 GDo t5 true (fun E => E t1 w) w fun t7 w =>
 GDo t5 true (fun E => DoX Tryz.prog (mBin .leq 5 t7 (.int .u8 126)) w (pk K) E) w fun t8 w =>
 DoX Tryz.prog (mPick t5 t8 (.bool false)) w (pk K) fun t9 w =>
 GDo t9 true (fun E => E t1 w) w fun t11 w =>
 GDo t9 true (fun E => DoX Tryz.prog (mEq .neq 5 (.tmp 11) (.const (.int .u8 35)) t11 (.int .u8 35)) w (pk K) E) w fun t12 w =>
 DoX Tryz.prog (mPick t9 t12 (.bool false)) w (pk K) fun t13 w =>
 GDo t13 true (fun E => E t1 w) w fun t15 w =>
 GDo t13 true (fun E => CallX Tryz.prog 159 #[t15] w (pk K) E) w fun t16 w =>
 GDo t13 true (fun E => DoX Tryz.prog (mUn .not t16) w (pk K) E) w fun t17 w =>
 DoX Tryz.prog (mPick t13 t17 (.bool false)) w (pk K) fun t18 w =>
 IfX t18 (CallX Tryz.prog 52 #[t0, t1] w (pk K) fun t21 w =>
 K (.returned (.tuple #[])) w) (DoX Tryz.prog (mBuildS 73 1 #[(0, t1)]) w (pk K) fun t24 w =>
 DoX Tryz.prog (mConv 73 9 t24) w (pk K) fun t25 w =>
 CallX Tryz.prog 165 #[t25] w (pk K) fun t26 w =>
 DoX Tryz.prog (mBin .add 9 (.string ⟨#[35]⟩) t26) w (pk K) fun t27 w =>
 CallX Tryz.prog 51 #[t0, t27] w (pk K) fun t28 w =>
 K (.returned (.tuple #[])) w)
theorem S_plain_Name_1_eq (t0 t1 : Value) (w : World) (K : Ending → World → Prop) : wpX Tryz.prog 29 [] [] none (bodyOf Tryz.f164) (topQ Tryz.prog [] K) (startX [t0, t1]) [] w = S_plain_Name_1 t0 t1 w K := by kernel_rfl
theorem S_plain_Name_1_ok {t0 t1 : Value} {w : World} {K : Ending → World → Prop} (h : S_plain_Name_1 t0 t1 w K) : Calls Tryz.prog 164 #[t0, t1] w K :=
  calls_of_wpX Tryz.func164 rfl rfl rfl rfl (Eq.mpr (S_plain_Name_1_eq t0 t1 w K) h)

/- octet.Hex -/
def S_octet_Hex_0 (t0 t3 t10 t11 : Value) (w : World) (N1 : List Value → World → Prop) (K : Ending → World → Prop) : Prop :=
 DoX Tryz.prog (mBin .lss 3 t11 t10) w (pk K) fun t12 w =>
 IfX t12 (QuietX w (fun C2 =>
 QDo Tryz.prog C2 (mIx 9 t0 t11) fun t17 =>
 QDo Tryz.prog C2 (mBin .shr 5 t17 (.int .u64 4)) fun t18 =>
 QDo Tryz.prog C2 (mIx 9 (.string ⟨#[48, 49, 50, 51, 52, 53, 54, 55, 56, 57, 65, 66, 67, 68, 69, 70]⟩) t18) fun t19 =>
 QDo Tryz.prog C2 (mIx 9 t0 t11) fun t22 =>
 QDo Tryz.prog C2 (mBin .and 5 t22 (.int .u8 15)) fun t23 =>
 QDo Tryz.prog C2 (mIx 9 (.string ⟨#[48, 49, 50, 51, 52, 53, 54, 55, 56, 57, 65, 66, 67, 68, 69, 70]⟩) t23) fun t24 =>
 ∀ w, C2 w →
 DoX Tryz.prog (mBuildS 73 2 #[(0, t19), (1, t24)]) w (pm1 (pm1 (pm1 (pm1 (pm1 (pk K)))))) fun t25 w =>
 DoX Tryz.prog (mB .append #[73, 73] 73 #[false, false] #[t3, t25]) w (pm1 (pm1 (pm1 (pm1 (pm1 (pk K)))))) fun t26 w =>
 DoX Tryz.prog (mBin .add 3 t11 (.int .i64 1)) w (pk K) fun t27 w =>
 N1 [t26, t27] w)) (DoX Tryz.prog (mConv 73 9 t3) w (pk K) fun t29 w =>
 K (.returned t29) w)
def S_octet_Hex (t0 : Value) (w : World) (K : Ending → World → Prop) : Prop :=
 DoX Tryz.prog (mB .len #[9] 3 #[false] #[t0]) w (pk K) fun t6 w =>
 DoX Tryz.prog (mBin .mul 3 (.int .i64 2) t6) w (pk K) fun t7 w =>
 DoX Tryz.prog (mMake 73 (.int .i64 0) t7) w (pk K) fun t8 w =>
 DoX Tryz.prog (mB .len #[9] 3 #[false] #[t0]) w (pk K) fun t10 w =>
 LoopX [t8, (.int .i64 0)] w (fun vs1 w N1 => ∀ _ : Sg, S_octet_Hex_0 t0 (vs1.getD 0 undef) t10 (vs1.getD 1 undef) w N1 K)
theorem S_octet_Hex_eq (t0 : Value) (w : World) (K : Ending → World → Prop) : wpX Tryz.prog 30 [] [(3, [3, 11])] none (bodyOf Tryz.f165) (topQ Tryz.prog [.tmp 2] K) (startX [t0]) [] w = S_octet_Hex t0 w K := by kernel_rfl
theorem S_octet_Hex_ok {t0 : Value} {w : World} {K : Ending → World → Prop} (h : S_octet_Hex t0 w K) : Calls Tryz.prog 165 #[t0] w K :=
  calls_of_wpX Tryz.func165 rfl rfl rfl rfl (Eq.mpr (S_octet_Hex_eq t0 w K) h)

/- octet.Delim -/
def S_octet_Delim (t0 : Value) (w : World) (K : Ending → World → Prop) : Prop :=
 CallX Tryz.prog 162 #[(.string ⟨#[40, 41, 60, 62, 91, 93, 123, 125, 47, 37]⟩), t0] w (pk K) fun t4 w =>
 DoX Tryz.prog (mBin .geq 3 t4 (.int .i64 0)) w (pk K) fun t5 w =>
 K (.returned t5) w
theorem S_octet_Delim_eq (t0 : Value) (w : World) (K : Ending → World → Prop) : wpX Tryz.prog 6 [] [] none (bodyOf Tryz.f159) (topQ Tryz.prog [.tmp 2] K) (startX [t0]) [] w = S_octet_Delim t0 w K := by kernel_rfl
theorem S_octet_Delim_ok {t0 : Value} {w : World} {K : Ending → World → Prop} (h : S_octet_Delim t0 w K) : Calls Tryz.prog 159 #[t0] w K :=
  calls_of_wpX Tryz.func159 rfl rfl rfl rfl (Eq.mpr (S_octet_Delim_eq t0 w K) h)

/- octet.Regular -/
def S_octet_Regular (t0 : Value) (w : World) (K : Ending → World → Prop) : Prop :=
 CallX Tryz.prog 158 #[t0] w (pk K) fun t4 w =>
 DoX Tryz.prog (mUn .not t4) w (pk K) fun t5 w =>
 GDo t5 true (fun E => E t0 w) w fun t7 w =>
 GDo t5 true (fun E => CallX Tryz.prog 159 #[t7] w (pk K) E) w fun t8 w =>
 GDo t5 true (fun E => DoX Tryz.prog (mUn .not t8) w (pk K) E) w fun t9 w =>
 DoX Tryz.prog (mPick t5 t9 (.bool false)) w (pk K) fun t10 w =>
 K (.returned t10) w
theorem S_octet_Regular_eq (t0 : Value) (w : World) (K : Ending → World → Prop) : wpX Tryz.prog 11 [] [] none (bodyOf Tryz.f96) (topQ Tryz.prog [.tmp 2] K) (startX [t0]) [] w = S_octet_Regular t0 w K := by kernel_rfl
theorem S_octet_Regular_ok {t0 : Value} {w : World} {K : Ending → World → Prop} (h : S_octet_Regular t0 w K) : Calls Tryz.prog 96 #[t0] w K :=
  calls_of_wpX Tryz.func96 rfl rfl rfl rfl (Eq.mpr (S_octet_Regular_eq t0 w K) h)

/- octet.White -/
def S_octet_White (t0 : Value) (w : World) (K : Ending → World → Prop) : Prop :=
 CallX Tryz.prog 162 #[(.string ⟨#[0, 9, 10, 12, 13, 32]⟩), t0] w (pk K) fun t4 w =>
 DoX Tryz.prog (mBin .geq 3 t4 (.int .i64 0)) w (pk K) fun t5 w =>
 K (.returned t5) w
theorem S_octet_White_eq (t0 : Value) (w : World) (K : Ending → World → Prop) : wpX Tryz.prog 6 [] [] none (bodyOf Tryz.f158) (topQ Tryz.prog [.tmp 2] K) (startX [t0]) [] w = S_octet_White t0 w K := by kernel_rfl
theorem S_octet_White_ok {t0 : Value} {w : World} {K : Ending → World → Prop} (h : S_octet_White t0 w K) : Calls Tryz.prog 158 #[t0] w K :=
  calls_of_wpX Tryz.func158 rfl rfl rfl rfl (Eq.mpr (S_octet_White_eq t0 w K) h)

end Go.Proofs.YtiklhhdohckfiaaGreatDoor
/- Code in continuation form, by program (gen.py): 16 functions. -/
namespace Go.Proofs.YtiklhhdohckfiaaGreatDoor
set_option linter.unusedVariables false
set_option linter.unusedSimpArgs false
set_option linter.defProp false
set_option linter.unusedVariables false
set_option maxRecDepth 20000
open Eng

/- fix.face -/
/- fix.within -/
def S_fix_within (t0 : Value) (w : World) (K : Ending → World → Prop) : Prop :=
 DoX Tryz.prog (mBin .geq 2 t0 (.int .i64 (-1073741824))) w (pk K) fun t4 w =>
 GDo t4 true (fun E => E t0 w) w fun t6 w =>
 GDo t4 true (fun E => DoX Tryz.prog (mBin .leq 2 t6 (.int .i64 1073741824)) w (pk K) E) w fun t7 w =>
 DoX Tryz.prog (mPick t4 t7 (.bool false)) w (pk K) fun t8 w =>
 K (.returned t8) w
theorem S_fix_within_eq (t0 : Value) (w : World) (K : Ending → World → Prop) : wpX Tryz.prog 9 [] [] none (bodyOf Tryz.f239) (topQ Tryz.prog [.tmp 2] K) (startX [t0]) [] w = S_fix_within t0 w K := by kernel_rfl
theorem S_fix_within_ok {t0 : Value} {w : World} {K : Ending → World → Prop} (h : S_fix_within t0 w K) : Calls Tryz.prog 239 #[t0] w K :=
  calls_of_wpX Tryz.func239 rfl rfl rfl rfl (Eq.mpr (S_fix_within_eq t0 w K) h)

/- fix.bounded -/
/- fix.answer -/
/- fix.nearest -/
/- fix.Near -/
/- fix.Whole -/
/- fix.Mul -/
/- fix.Div -/
/- fix.Dot -/
/- fix.Sum -/
/- fix.Root -/
/- fix.row -/
def S_fix_row_0 (t0 t1 t5 : Value) (w : World) (N1 : List Value → World → Prop) (K : Ending → World → Prop) : Prop :=
 DoX Tryz.prog (mBin .gtr 2 t0 (.int .i64 0)) w (pk K) fun t7 w =>
 GDo t7 false (fun E => E t5 w) w fun t9 w =>
 GDo t7 false (fun E => DoX Tryz.prog (mB .len #[9] 3 #[false] #[t9]) w (pk K) E) w fun t10 w =>
 GDo t7 false (fun E => E t1 w) w fun t11 w =>
 GDo t7 false (fun E => DoX Tryz.prog (mBin .lss 3 t10 t11) w (pk K) E) w fun t12 w =>
 DoX Tryz.prog (mPick t7 (.bool true) t12) w (pk K) fun t13 w =>
 IfX t13 (DoX Tryz.prog (mBin .rem 2 t0 (.int .i64 10)) w (pk K) fun t15 w =>
 DoX Tryz.prog (mBin .add 2 (.int .i64 48) t15) w (pk K) fun t16 w =>
 DoX Tryz.prog (mConv 2 5 t16) w (pk K) fun t17 w =>
 DoX Tryz.prog (mBuildS 73 1 #[(0, t17)]) w (pk K) fun t18 w =>
 DoX Tryz.prog (mConv 73 9 t18) w (pk K) fun t19 w =>
 DoX Tryz.prog (mBin .add 9 t19 t5) w (pk K) fun t21 w =>
 DoX Tryz.prog (mBin .quo 2 t0 (.int .i64 10)) w (pk K) fun t23 w =>
 N1 [t23, t21] w) (K (.returned t5) w)
def S_fix_row (t0 t1 : Value) (w : World) (K : Ending → World → Prop) : Prop :=
 LoopX [t0, (.string ⟨#[]⟩)] w (fun vs1 w N1 => ∀ _ : Sg, S_fix_row_0 (vs1.getD 0 undef) t1 (vs1.getD 1 undef) w N1 K)
theorem S_fix_row_eq (t0 t1 : Value) (w : World) (K : Ending → World → Prop) : wpX Tryz.prog 25 [] [(2, [0, 5])] none (bodyOf Tryz.f240) (topQ Tryz.prog [.tmp 4] K) (startX [t0, t1]) [] w = S_fix_row t0 t1 w K := by kernel_rfl
theorem S_fix_row_ok {t0 t1 : Value} {w : World} {K : Ending → World → Prop} (h : S_fix_row t0 t1 w K) : Calls Tryz.prog 240 #[t0, t1] w K :=
  calls_of_wpX Tryz.func240 rfl rfl rfl rfl (Eq.mpr (S_fix_row_eq t0 t1 w K) h)

/- fix.Text -/
def S_fix_Text_1 (t3 t4 t5 : Value) (w : World) (K : Ending → World → Prop) : Prop :=
 DoX Tryz.prog (mBin .add 9 t3 t4) w (pk K) fun t24 w =>
 DoX Tryz.prog (mBin .add 9 t24 (.string ⟨#[46]⟩)) w (pk K) fun t25 w =>
 DoX Tryz.prog (mBin .add 9 t25 t5) w (pk K) fun t27 w =>
 K (.returned t27) w
def S_fix_Text_0 (t0 t3 : Value) (w : World) (K : Ending → World → Prop) : Prop :=
 DoX Tryz.prog (mBin .quo 2 t0 (.int .i64 10000)) w (pk K) fun t14 w =>
 CallX Tryz.prog 240 #[t14, (.int .i64 1)] w (pk K) fun t15 w =>
 DoX Tryz.prog (mBin .rem 2 t0 (.int .i64 10000)) w (pk K) fun t17 w =>
 CallX Tryz.prog 240 #[t17, (.int .i64 4)] w (pk K) fun t18 w =>
 CallX Tryz.prog 241 #[t18, (.string ⟨#[48]⟩)] w (pk K) fun t19 w =>
 JoinX (fun J2 =>
 DoX Tryz.prog (mEq .eql 9 (.tmp 20) (.const (.string ⟨#[]⟩)) t19 (.string ⟨#[]⟩)) w (pk K) fun t21 w =>
 IfX t21 (J2 [(.string ⟨#[48]⟩)] w) (J2 [t19] w)) (fun vs2 w => ∀ _ : Sg, S_fix_Text_1 t3 t15 (vs2.getD 0 undef) w K)
def S_fix_Text (t0 : Value) (w : World) (K : Ending → World → Prop) : Prop :=
 CallX Tryz.prog 239 #[t0] w (pk K) fun t7 w =>
 DoX Tryz.prog (mUn .not t7) w (pk K) fun t8 w =>
 IfX t8 (K (.returned (.string ⟨#[]⟩)) w) (JoinX (fun J1 =>
 DoX Tryz.prog (mBin .lss 2 t0 (.int .i64 0)) w (pk K) fun t10 w =>
 IfX t10 (DoX Tryz.prog (mUn .neg t0) w (pk K) fun t12 w =>
 J1 [t12, (.string ⟨#[45]⟩)] w) (J1 [t0, (.string ⟨#[]⟩)] w)) (fun vs1 w => ∀ _ : Sg, S_fix_Text_0 (vs1.getD 0 undef) (vs1.getD 1 undef) w K))
theorem S_fix_Text_eq (t0 : Value) (w : World) (K : Ending → World → Prop) : wpX Tryz.prog 28 [(6, [0, 3]), (10, [5])] [] none (bodyOf Tryz.f207) (topQ Tryz.prog [.tmp 2] K) (startX [t0]) [] w = S_fix_Text t0 w K := by kernel_rfl
theorem S_fix_Text_ok {t0 : Value} {w : World} {K : Ending → World → Prop} (h : S_fix_Text t0 w K) : Calls Tryz.prog 207 #[t0] w K :=
  calls_of_wpX Tryz.func207 rfl rfl rfl rfl (Eq.mpr (S_fix_Text_eq t0 w K) h)

/- fix.digits -/
/- fix.Read -/
end Go.Proofs.YtiklhhdohckfiaaGreatDoor
/- Code in continuation form, by program (gen.py): 14 functions. -/
namespace Go.Proofs.YtiklhhdohckfiaaGreatDoor
set_option linter.unusedVariables false
set_option linter.unusedSimpArgs false
set_option linter.defProp false
set_option linter.unusedVariables false
set_option maxRecDepth 20000
open Eng

/- foliantref02.Within -/
def S_foliantref02_Within (t0 : Value) (w : World) (K : Ending → World → Prop) : Prop :=
 DoX Tryz.prog (mBin .geq 2 t0 (.int .i64 (-1073741824))) w (pk K) fun t4 w =>
 GDo t4 true (fun E => E t0 w) w fun t6 w =>
 GDo t4 true (fun E => DoX Tryz.prog (mBin .leq 2 t6 (.int .i64 1073741824)) w (pk K) E) w fun t7 w =>
 DoX Tryz.prog (mPick t4 t7 (.bool false)) w (pk K) fun t8 w =>
 K (.returned t8) w
theorem S_foliantref02_Within_eq (t0 : Value) (w : World) (K : Ending → World → Prop) : wpX Tryz.prog 9 [] [] none (bodyOf Tryz.f218) (topQ Tryz.prog [.tmp 2] K) (startX [t0]) [] w = S_foliantref02_Within t0 w K := by kernel_rfl
theorem S_foliantref02_Within_ok {t0 : Value} {w : World} {K : Ending → World → Prop} (h : S_foliantref02_Within t0 w K) : Calls Tryz.prog 218 #[t0] w K :=
  calls_of_wpX Tryz.func218 rfl rfl rfl rfl (Eq.mpr (S_foliantref02_Within_eq t0 w K) h)

/- foliantref02.told -/
/- foliantref02.nearest -/
/- foliantref02.Near -/
/- foliantref02.Whole -/
/- foliantref02.Mul -/
/- foliantref02.Div -/
/- foliantref02.Dot -/
/- foliantref02.Sum -/
/- foliantref02.Root -/
/- foliantref02.digits -/
def S_foliantref02_digits_0 (t0 t1 t5 : Value) (w : World) (N1 : List Value → World → Prop) (K : Ending → World → Prop) : Prop :=
 DoX Tryz.prog (mBin .gtr 2 t0 (.int .i64 0)) w (pk K) fun t7 w =>
 GDo t7 false (fun E => E t5 w) w fun t9 w =>
 GDo t7 false (fun E => DoX Tryz.prog (mB .len #[9] 3 #[false] #[t9]) w (pk K) E) w fun t10 w =>
 GDo t7 false (fun E => E t1 w) w fun t11 w =>
 GDo t7 false (fun E => DoX Tryz.prog (mBin .lss 3 t10 t11) w (pk K) E) w fun t12 w =>
 DoX Tryz.prog (mPick t7 (.bool true) t12) w (pk K) fun t13 w =>
 IfX t13 (DoX Tryz.prog (mBin .rem 2 t0 (.int .i64 10)) w (pk K) fun t15 w =>
 DoX Tryz.prog (mBin .add 2 (.int .i64 48) t15) w (pk K) fun t16 w =>
 DoX Tryz.prog (mConv 2 5 t16) w (pk K) fun t17 w =>
 DoX Tryz.prog (mBuildS 73 1 #[(0, t17)]) w (pk K) fun t18 w =>
 DoX Tryz.prog (mConv 73 9 t18) w (pk K) fun t19 w =>
 DoX Tryz.prog (mBin .add 9 t19 t5) w (pk K) fun t21 w =>
 DoX Tryz.prog (mBin .quo 2 t0 (.int .i64 10)) w (pk K) fun t23 w =>
 N1 [t23, t21] w) (K (.returned t5) w)
def S_foliantref02_digits (t0 t1 : Value) (w : World) (K : Ending → World → Prop) : Prop :=
 LoopX [t0, (.string ⟨#[]⟩)] w (fun vs1 w N1 => ∀ _ : Sg, S_foliantref02_digits_0 (vs1.getD 0 undef) t1 (vs1.getD 1 undef) w N1 K)
theorem S_foliantref02_digits_eq (t0 t1 : Value) (w : World) (K : Ending → World → Prop) : wpX Tryz.prog 25 [] [(2, [0, 5])] none (bodyOf Tryz.f219) (topQ Tryz.prog [.tmp 4] K) (startX [t0, t1]) [] w = S_foliantref02_digits t0 t1 w K := by kernel_rfl
theorem S_foliantref02_digits_ok {t0 t1 : Value} {w : World} {K : Ending → World → Prop} (h : S_foliantref02_digits t0 t1 w K) : Calls Tryz.prog 219 #[t0, t1] w K :=
  calls_of_wpX Tryz.func219 rfl rfl rfl rfl (Eq.mpr (S_foliantref02_digits_eq t0 t1 w K) h)

/- foliantref02.Text -/
def S_foliantref02_Text_1 (t0 t3 t4 : Value) (w : World) (N2 : List Value → World → Prop) (K : Ending → World → Prop) : Prop :=
 DoX Tryz.prog (mB .len #[9] 3 #[false] #[t4]) w (pk K) fun t16 w =>
 DoX Tryz.prog (mBin .gtr 3 t16 (.int .i64 1)) w (pk K) fun t17 w =>
 GDo t17 true (fun E => E t4 w) w fun t19 w =>
 GDo t17 true (fun E => E t4 w) w fun t20 w =>
 GDo t17 true (fun E => DoX Tryz.prog (mB .len #[9] 3 #[false] #[t20]) w (pk K) E) w fun t21 w =>
 GDo t17 true (fun E => DoX Tryz.prog (mBin .sub 3 t21 (.int .i64 1)) w (pk K) E) w fun t22 w =>
 GDo t17 true (fun E => DoX Tryz.prog (mIx 9 t19 t22) w (pk K) E) w fun t23 w =>
 GDo t17 true (fun E => DoX Tryz.prog (mEq .eql 5 (.tmp 23) (.const (.int .u8 48)) t23 (.int .u8 48)) w (pk K) E) w fun t24 w =>
 DoX Tryz.prog (mPick t17 t24 (.bool false)) w (pk K) fun t25 w =>
 IfX t25 (DoX Tryz.prog (mB .len #[9] 3 #[false] #[t4]) w (pk K) fun t28 w =>
 DoX Tryz.prog (mBin .sub 3 t28 (.int .i64 1)) w (pk K) fun t29 w =>
 DoX Tryz.prog (mSlice 9 t4 none (some t29) none) w (pk K) fun t30 w =>
 N2 [t30] w) (DoX Tryz.prog (mBin .quo 2 t0 (.int .i64 10000)) w (pk K) fun t33 w =>
 CallX Tryz.prog 219 #[t33, (.int .i64 1)] w (pk K) fun t34 w =>
 DoX Tryz.prog (mBin .add 9 t3 t34) w (pk K) fun t35 w =>
 DoX Tryz.prog (mBin .add 9 t35 (.string ⟨#[46]⟩)) w (pk K) fun t36 w =>
 DoX Tryz.prog (mBin .add 9 t36 t4) w (pk K) fun t38 w =>
 K (.returned t38) w)
def S_foliantref02_Text_0 (t0 t3 : Value) (w : World) (K : Ending → World → Prop) : Prop :=
 DoX Tryz.prog (mBin .rem 2 t0 (.int .i64 10000)) w (pk K) fun t13 w =>
 CallX Tryz.prog 219 #[t13, (.int .i64 4)] w (pk K) fun t14 w =>
 LoopX [t14] w (fun vs2 w N2 => ∀ _ : Sg, S_foliantref02_Text_1 t0 t3 (vs2.getD 0 undef) w N2 K)
def S_foliantref02_Text (t0 : Value) (w : World) (K : Ending → World → Prop) : Prop :=
 CallX Tryz.prog 218 #[t0] w (pk K) fun t6 w =>
 DoX Tryz.prog (mUn .not t6) w (pk K) fun t7 w =>
 IfX t7 (K (.returned (.string ⟨#[]⟩)) w) (JoinX (fun J1 =>
 DoX Tryz.prog (mBin .lss 2 t0 (.int .i64 0)) w (pk K) fun t9 w =>
 IfX t9 (DoX Tryz.prog (mUn .neg t0) w (pk K) fun t11 w =>
 J1 [t11, (.string ⟨#[45]⟩)] w) (J1 [t0, (.string ⟨#[]⟩)] w)) (fun vs1 w => ∀ _ : Sg, S_foliantref02_Text_0 (vs1.getD 0 undef) (vs1.getD 1 undef) w K))
theorem S_foliantref02_Text_eq (t0 : Value) (w : World) (K : Ending → World → Prop) : wpX Tryz.prog 39 [(7, [0, 3])] [(8, [4])] none (bodyOf Tryz.f175) (topQ Tryz.prog [.tmp 2] K) (startX [t0]) [] w = S_foliantref02_Text t0 w K := by kernel_rfl
theorem S_foliantref02_Text_ok {t0 : Value} {w : World} {K : Ending → World → Prop} (h : S_foliantref02_Text t0 w K) : Calls Tryz.prog 175 #[t0] w K :=
  calls_of_wpX Tryz.func175 rfl rfl rfl rfl (Eq.mpr (S_foliantref02_Text_eq t0 w K) h)

/- foliantref02.form -/
def S_foliantref02_form_2 (t7 t8 t9 t10 : Value) (w : World) (N2 : List Value → World → Prop) (K : Ending → World → Prop) : Prop :=
 DoX Tryz.prog (mBin .add 3 t10 (.int .i64 1)) w (pk K) fun t36 w =>
 N2 [t7, t8, t9, t36] w
def S_foliantref02_form_1 (t0 t6 t7 t8 t9 t10 : Value) (w : World) (N2 : List Value → World → Prop) (K : Ending → World → Prop) : Prop :=
 DoX Tryz.prog (mB .len #[9] 3 #[false] #[t0]) w (pk K) fun t33 w =>
 DoX Tryz.prog (mBin .lss 3 t10 t33) w (pk K) fun t34 w =>
 IfX t34 (JoinX (fun J3 =>
 DoX Tryz.prog (mIx 9 t0 t10) w (pk K) fun t39 w =>
 DoX Tryz.prog (mEq .eql 5 (.tmp 39) (.const (.int .u8 46)) t39 (.int .u8 46)) w (pk K) fun t40 w =>
 GDo t40 true (fun E => E t9 w) w fun t42 w =>
 GDo t40 true (fun E => DoX Tryz.prog (mUn .not t42) w (pk K) E) w fun t43 w =>
 DoX Tryz.prog (mPick t40 t43 (.bool false)) w (pk K) fun t44 w =>
 IfX t44 (J3 [t7, t8, (.bool true)] w) (DoX Tryz.prog (mIx 9 t0 t10) w (pk K) fun t47 w =>
 DoX Tryz.prog (mBin .lss 5 t47 (.int .u8 48)) w (pk K) fun t48 w =>
 GDo t48 false (fun E => E t0 w) w fun t50 w =>
 GDo t48 false (fun E => E t10 w) w fun t51 w =>
 GDo t48 false (fun E => DoX Tryz.prog (mIx 9 t50 t51) w (pk K) E) w fun t52 w =>
 GDo t48 false (fun E => DoX Tryz.prog (mBin .gtr 5 t52 (.int .u8 57)) w (pk K) E) w fun t53 w =>
 DoX Tryz.prog (mPick t48 (.bool true) t53) w (pk K) fun t54 w =>
 IfX t54 (K (.returned (.tuple #[(.string ⟨#[]⟩), (.string ⟨#[]⟩), (.bool false), (.bool false)])) w) (IfX t9 (DoX Tryz.prog (mBin .add 3 t10 (.int .i64 1)) w (pk K) fun t60 w =>
 DoX Tryz.prog (mSlice 9 t0 (some t10) (some t60) none) w (pk K) fun t61 w =>
 DoX Tryz.prog (mBin .add 9 t8 t61) w (pk K) fun t62 w =>
 J3 [t7, t62, t9] w) (DoX Tryz.prog (mBin .add 3 t10 (.int .i64 1)) w (pk K) fun t67 w =>
 DoX Tryz.prog (mSlice 9 t0 (some t10) (some t67) none) w (pk K) fun t68 w =>
 DoX Tryz.prog (mBin .add 9 t7 t68) w (pk K) fun t69 w =>
 J3 [t69, t8, t9] w)))) (fun vs3 w => ∀ _ : Sg, S_foliantref02_form_2 (vs3.getD 0 undef) (vs3.getD 1 undef) (vs3.getD 2 undef) t10 w N2 K)) (DoX Tryz.prog (mB .len #[9] 3 #[false] #[t7]) w (pk K) fun t74 w =>
 DoX Tryz.prog (mB .len #[9] 3 #[false] #[t8]) w (pk K) fun t76 w =>
 DoX Tryz.prog (mBin .add 3 t74 t76) w (pk K) fun t77 w =>
 DoX Tryz.prog (mBin .gtr 3 t77 (.int .i64 0)) w (pk K) fun t78 w =>
 K (.returned (.tuple #[t7, t8, t6, t78])) w)
def S_foliantref02_form_0 (t0 t6 : Value) (w : World) (K : Ending → World → Prop) : Prop :=
 LoopX [(.string ⟨#[]⟩), (.string ⟨#[]⟩), (.bool false), (.int .i64 0)] w (fun vs2 w N2 => ∀ _ : Sg, S_foliantref02_form_1 t0 t6 (vs2.getD 0 undef) (vs2.getD 1 undef) (vs2.getD 2 undef) (vs2.getD 3 undef) w N2 K)
def S_foliantref02_form (t0 : Value) (w : World) (K : Ending → World → Prop) : Prop :=
 DoX Tryz.prog (mB .len #[9] 3 #[false] #[t0]) w (pk K) fun t12 w =>
 DoX Tryz.prog (mBin .gtr 3 t12 (.int .i64 40)) w (pk K) fun t13 w =>
 IfX t13 (K (.returned (.tuple #[(.string ⟨#[]⟩), (.string ⟨#[]⟩), (.bool false), (.bool false)])) w) (JoinX (fun J1 =>
 DoX Tryz.prog (mEq .neq 9 (.tmp 14) (.const (.string ⟨#[]⟩)) t0 (.string ⟨#[]⟩)) w (pk K) fun t15 w =>
 GDo t15 true (fun E => E t0 w) w fun t17 w =>
 GDo t15 true (fun E => DoX Tryz.prog (mIx 9 t17 (.int .i64 0)) w (pk K) E) w fun t18 w =>
 GDo t15 true (fun E => DoX Tryz.prog (mEq .eql 5 (.tmp 18) (.const (.int .u8 43)) t18 (.int .u8 43)) w (pk K) E) w fun t19 w =>
 GDo t15 true (fun E => E t19 w) w fun t20 w =>
 GDo t20 false (fun E => E t0 w) w fun t21 w =>
 GDo t20 false (fun E => DoX Tryz.prog (mIx 9 t21 (.int .i64 0)) w (pk K) E) w fun t22 w =>
 GDo t20 false (fun E => DoX Tryz.prog (mEq .eql 5 (.tmp 22) (.const (.int .u8 45)) t22 (.int .u8 45)) w (pk K) E) w fun t23 w =>
 GDo t15 true (fun E => DoX Tryz.prog (mPick t20 (.bool true) t23) w (pk K) E) w fun t24 w =>
 DoX Tryz.prog (mPick t15 t24 (.bool false)) w (pk K) fun t25 w =>
 IfX t25 (DoX Tryz.prog (mIx 9 t0 (.int .i64 0)) w (pk K) fun t27 w =>
 DoX Tryz.prog (mEq .eql 5 (.tmp 27) (.const (.int .u8 45)) t27 (.int .u8 45)) w (pk K) fun t28 w =>
 DoX Tryz.prog (mSlice 9 t0 (some (.int .i64 1)) none none) w (pk K) fun t30 w =>
 J1 [t30, t28] w) (J1 [t0, (.bool false)] w)) (fun vs1 w => ∀ _ : Sg, S_foliantref02_form_0 (vs1.getD 0 undef) (vs1.getD 1 undef) w K))
theorem S_foliantref02_form_eq (t0 : Value) (w : World) (K : Ending → World → Prop) : wpX Tryz.prog 79 [(7, [0, 6]), (10, [7, 8, 9])] [(9, [7, 8, 9, 10])] none (bodyOf Tryz.f271) (topQ Tryz.prog [.tmp 2, .tmp 3, .tmp 4, .tmp 5] K) (startX [t0]) [] w = S_foliantref02_form t0 w K := by kernel_rfl
theorem S_foliantref02_form_ok {t0 : Value} {w : World} {K : Ending → World → Prop} (h : S_foliantref02_form t0 w K) : Calls Tryz.prog 271 #[t0] w K :=
  calls_of_wpX Tryz.func271 rfl rfl rfl rfl (Eq.mpr (S_foliantref02_form_eq t0 w K) h)

/- foliantref02.Read -/
def S_foliantref02_Read_5 (t8 : Value) (w : World) (K : Ending → World → Prop) : Prop :=
 CallX Tryz.prog 218 #[t8] w (pk K) fun t84 w =>
 DoX Tryz.prog (mUn .not t84) w (pk K) fun t85 w =>
 IfX t85 (K (.returned (.tuple #[(.int .i64 0), (.int .i64 2)])) w) (K (.returned (.tuple #[t8, (.int .i64 0)])) w)
def S_foliantref02_Read_4 (t6 t8 : Value) (w : World) (K : Ending → World → Prop) : Prop :=
 JoinX (fun J6 =>
 IfX t6 (DoX Tryz.prog (mUn .neg t8) w (pk K) fun t82 w =>
 J6 [t82] w) (J6 [t8] w)) (fun vs6 w => ∀ _ : Sg, S_foliantref02_Read_5 (vs6.getD 0 undef) w K)
def S_foliantref02_Read_3 (t6 t8 t12 : Value) (w : World) (K : Ending → World → Prop) : Prop :=
 JoinX (fun J5 =>
 IfX t12 (DoX Tryz.prog (mBin .add 2 t8 (.int .i64 1)) w (pk K) fun t79 w =>
 J5 [t79] w) (J5 [t8] w)) (fun vs5 w => ∀ _ : Sg, S_foliantref02_Read_4 t6 (vs5.getD 0 undef) w K)
def S_foliantref02_Read_2 (t11 t13 t14 : Value) (w : World) (J3 N4 : List Value → World → Prop) (K : Ending → World → Prop) : Prop :=
 DoX Tryz.prog (mB .len #[9] 3 #[false] #[t11]) w (pk K) fun t65 w =>
 DoX Tryz.prog (mBin .lss 3 t14 t65) w (pk K) fun t66 w =>
 IfX t66 (GDo t13 false (fun E => E t11 w) w fun t71 w =>
 GDo t13 false (fun E => E t14 w) w fun t72 w =>
 GDo t13 false (fun E => DoX Tryz.prog (mIx 9 t71 t72) w (pk K) E) w fun t73 w =>
 GDo t13 false (fun E => DoX Tryz.prog (mBin .gtr 5 t73 (.int .u8 48)) w (pk K) E) w fun t74 w =>
 DoX Tryz.prog (mPick t13 (.bool true) t74) w (pk K) fun t75 w =>
 DoX Tryz.prog (mBin .add 3 t14 (.int .i64 1)) w (pk K) fun t68 w =>
 N4 [t75, t68] w) (J3 [t13] w)
def S_foliantref02_Read_1 (t6 t8 t11 : Value) (w : World) (K : Ending → World → Prop) : Prop :=
 DoX Tryz.prog (mEq .neq 9 (.tmp 49) (.const (.string ⟨#[]⟩)) t11 (.string ⟨#[]⟩)) w (pk K) fun t50 w =>
 GDo t50 true (fun E => E t11 w) w fun t52 w =>
 GDo t50 true (fun E => DoX Tryz.prog (mIx 9 t52 (.int .i64 0)) w (pk K) E) w fun t53 w =>
 GDo t50 true (fun E => DoX Tryz.prog (mBin .geq 5 t53 (.int .u8 53)) w (pk K) E) w fun t54 w =>
 DoX Tryz.prog (mPick t50 t54 (.bool false)) w (pk K) fun t55 w =>
 JoinX (fun J3 =>
 GDo t55 true (fun E => E t6 w) w fun t58 w =>
 DoX Tryz.prog (mPick t55 t58 (.bool false)) w (pk K) fun t59 w =>
 IfX t59 (DoX Tryz.prog (mIx 9 t11 (.int .i64 0)) w (pk K) fun t61 w =>
 DoX Tryz.prog (mBin .gtr 5 t61 (.int .u8 53)) w (pk K) fun t62 w =>
 LoopX [t62, (.int .i64 1)] w (fun vs4 w N4 => ∀ _ : Sg, S_foliantref02_Read_2 t11 (vs4.getD 0 undef) (vs4.getD 1 undef) w J3 N4 K)) (J3 [t55] w)) (fun vs3 w => ∀ _ : Sg, S_foliantref02_Read_3 t6 t8 (vs3.getD 0 undef) w K)
def S_foliantref02_Read_0 (t5 t6 t8 t9 t10 : Value) (w : World) (N1 : List Value → World → Prop) (K : Ending → World → Prop) : Prop :=
 DoX Tryz.prog (mB .len #[9] 3 #[false] #[t9]) w (pk K) fun t31 w =>
 DoX Tryz.prog (mBin .lss 3 t10 t31) w (pk K) fun t32 w =>
 IfX t32 (DoX Tryz.prog (mBin .mul 2 (.int .i64 10) t8) w (pk K) fun t36 w =>
 DoX Tryz.prog (mIx 9 t9 t10) w (pk K) fun t39 w =>
 DoX Tryz.prog (mBin .sub 5 t39 (.int .u8 48)) w (pk K) fun t40 w =>
 DoX Tryz.prog (mConv 5 2 t40) w (pk K) fun t41 w =>
 DoX Tryz.prog (mBin .add 2 t36 t41) w (pk K) fun t42 w =>
 DoX Tryz.prog (mB .min #[2, 2] 2 #[false, true] #[t42, (.int .i64 1099511627776)]) w (pk K) fun t43 w =>
 DoX Tryz.prog (mBin .add 3 t10 (.int .i64 1)) w (pk K) fun t34 w =>
 N1 [t43, t34] w) (JoinX (fun J2 =>
 DoX Tryz.prog (mB .len #[9] 3 #[false] #[t5]) w (pk K) fun t45 w =>
 DoX Tryz.prog (mBin .gtr 3 t45 (.int .i64 4)) w (pk K) fun t46 w =>
 IfX t46 (DoX Tryz.prog (mSlice 9 t5 (some (.int .i64 4)) none none) w (pk K) fun t48 w =>
 J2 [t48] w) (J2 [(.string ⟨#[]⟩)] w)) (fun vs2 w => ∀ _ : Sg, S_foliantref02_Read_1 t6 t8 (vs2.getD 0 undef) w K))
def S_foliantref02_Read (t0 : Value) (w : World) (K : Ending → World → Prop) : Prop :=
 CallX Tryz.prog 271 #[t0] w (pk K) fun t17 w =>
 DoX Tryz.prog (mExt t17 0) w (pk K) fun t18 w =>
 DoX Tryz.prog (mExt t17 1) w (pk K) fun t19 w =>
 DoX Tryz.prog (mExt t17 2) w (pk K) fun t20 w =>
 DoX Tryz.prog (mExt t17 3) w (pk K) fun t21 w =>
 DoX Tryz.prog (mUn .not t21) w (pk K) fun t23 w =>
 IfX t23 (K (.returned (.tuple #[(.int .i64 0), (.int .i64 3)])) w) (DoX Tryz.prog (mBin .add 9 t19 (.string ⟨#[48, 48, 48, 48]⟩)) w (pk K) fun t26 w =>
 DoX Tryz.prog (mSlice 9 t26 none (some (.int .i64 4)) none) w (pk K) fun t27 w =>
 DoX Tryz.prog (mBin .add 9 t18 t27) w (pk K) fun t28 w =>
 LoopX [(.int .i64 0), (.int .i64 0)] w (fun vs1 w N1 => ∀ _ : Sg, S_foliantref02_Read_0 t19 t20 (vs1.getD 0 undef) t28 (vs1.getD 1 undef) w N1 K))
theorem S_foliantref02_Read_eq (t0 : Value) (w : World) (K : Ending → World → Prop) : wpX Tryz.prog 87 [(13, [11]), (21, [12]), (23, [8]), (25, [8])] [(7, [8, 10]), (17, [13, 14])] none (bodyOf Tryz.f250) (topQ Tryz.prog [.tmp 2, .tmp 3] K) (startX [t0]) [] w = S_foliantref02_Read t0 w K := by kernel_rfl
theorem S_foliantref02_Read_ok {t0 : Value} {w : World} {K : Ending → World → Prop} (h : S_foliantref02_Read t0 w K) : Calls Tryz.prog 250 #[t0] w K :=
  calls_of_wpX Tryz.func250 rfl rfl rfl rfl (Eq.mpr (S_foliantref02_Read_eq t0 w K) h)

end Go.Proofs.YtiklhhdohckfiaaGreatDoor
/- Contracts of the program's package fix. -/
namespace Go.Proofs.YtiklhhdohckfiaaGreatDoor
set_option linter.unusedVariables false
set_option linter.unusedSimpArgs false
set_option linter.defProp false
open Eng Go.RowKit
set_option linter.unusedVariables false
set_option linter.unusedSimpArgs false

theorem within_ret (n : Int) (w : World) : Ret Tryz.prog 239 #[.int .i64 n] w (fun v w' => v = .bool (Fx.okB n) ∧ w = w') := by
  refine ret_of fun K hK => S_fix_within_ok ?_
  unfold S_fix_within
  by_cases h : -1073741824 ≤ n <;> simp only [rs, h, decide_true, decide_false] <;> exact hK _ _ ⟨by simp [Fx.okB, h], rfl⟩
end Go.Proofs.YtiklhhdohckfiaaGreatDoor
/- Contracts: numbers as text. -/
namespace Go.Proofs.YtiklhhdohckfiaaGreatDoor
set_option linter.unusedVariables false
set_option linter.unusedSimpArgs false
set_option linter.defProp false
open Eng Go.RowKit
set_option linter.unusedVariables false
set_option linter.unusedSimpArgs false

def slen1 (vs : List Value) : Nat := match vs.getD 1 undef with | .string s => s.size | _ => 0
theorem slen1_mk {a : Value} {l : List UInt8} {t : List Value} : slen1 (a :: .string ⟨l.toArray⟩ :: t) = l.length := by simp [slen1, str_size]

theorem row_ret (n least : Nat) (w : World) (hn : n < 4611686018427387904) (hl : least ≤ 4) : Ret Tryz.prog 240 #[.int .i64 n, .int .i64 least] w (fun v w' => v = .string ⟨(Fx.row n least).toArray⟩ ∧ Below w.heap.size w w') := by
  refine ret_of fun K hK => S_fix_row_ok ?_
  unfold S_fix_row
  refine loop (fun vs w' => ∃ (f n' : Nat) (s : List UInt8), vs = [.int .i64 n', .string ⟨s.toArray⟩] ∧ Fx.rowF f n' least s = Fx.row n least ∧ n' < 10 ^ f ∧ n' < 4611686018427387904 ∧ least ≤ s.length + f ∧ s.length + f = 64 ∧ Own w w' [])
    (fun vs _ => 64 - slen1 vs) ⟨64, n, [], rfl, rfl, by omega, hn, by simp; omega, by simp, Own.start w⟩ ?_
  rintro vs w' ⟨f, n', s, rfl, hr, hn', hn2, hl', hs, ho⟩ _
  simp only [S_fix_row_0, gd, rs]
  have step : 0 < n' ∨ s.length < least → DoX Tryz.prog (mBin .rem 2 (.int .i64 n') (.int .i64 10)) w' (pk K) fun t15 ww =>
      DoX Tryz.prog (mBin .add 2 (.int .i64 48) t15) ww (pk K) fun t16 ww =>
      DoX Tryz.prog (mConv 2 5 t16) ww (pk K) fun t17 ww =>
      DoX Tryz.prog (mBuildS 73 1 #[(0, t17)]) ww (pk K) fun t18 ww =>
      DoX Tryz.prog (mConv 73 9 t18) ww (pk K) fun t19 ww =>
      DoX Tryz.prog (mBin .add 9 t19 (.string ⟨s.toArray⟩)) ww (pk K) fun t21 ww =>
      DoX Tryz.prog (mBin .quo 2 (.int .i64 n') (.int .i64 10)) ww (pk K) fun t23 ww =>
      (NextX (fun vs w' => ∃ (f n' : Nat) (s : List UInt8), vs = [.int .i64 n', .string ⟨s.toArray⟩] ∧ Fx.rowF f n' least s = Fx.row n least ∧ n' < 10 ^ f ∧ n' < 4611686018427387904 ∧ least ≤ s.length + f ∧ s.length + f = 64 ∧ Own w w' [])
    (fun vs _ => 64 - slen1 vs) [.int .i64 n', .string ⟨s.toArray⟩] w') [t23, t21] ww := by
    intro hstep
    cases f with
    | zero => simp only [Nat.pow_zero] at hn'; omega
    | succ f =>
      rw [Fx.rowF, if_pos hstep] at hr
      have e1 : (n' : Int).tmod 10 = ((n' % 10 : Nat) : Int) := by rw [Int.tmod_eq_emod_of_nonneg (by omega)]; omega
      have e2 : (n' : Int).tdiv 10 = ((n' / 10 : Nat) : Int) := by rw [Int.tdiv_eq_ediv_of_nonneg (by omega)]; omega
      have e3 : ((48 : Int) + ((n' % 10 : Nat) : Int)) = (((Fx.dg (n' % 10)).toNat : Nat) : Int) := by rw [Fx.dg_toNat (by omega)]; omega
      have e4 := Fx.dg_toNat (k := n' % 10) (by omega)
      simp only [b_rem (show (10 : Int) ≠ 0 by omega), b_quo (show (10 : Int) ≠ 0 by omega), rs, e1, e2, e3]
      rw [wrap64_id (by omega) (by omega), c_int (show (Tryz.prog.underlying 2).isSome = true by kernel_rfl) Tryz.underlying5, wrap8_id (by omega) (by omega)]
      refine o_new (fun b => .slice (some ⟨b, 0, none⟩) 1 1) [.int .u8 (Fx.dg (n' % 10)).toNat] 5 (fun _ => by kernel_rfl) ho fun b w4 h4 => ?_
      rw [c_bytes (l := [Fx.dg (n' % 10)]) Tryz.underlying73 Tryz.underlying5 Tryz.underlying9 (h4.sl 0 rfl 1 1 1 rfl), s_add (by simp; omega), wrap64_id (by omega) (by omega)]
      refine nextX ⟨f, n' / 10, Fx.dg (n' % 10) :: s, rfl, hr, by rw [Nat.pow_succ] at hn'; omega, by omega, by simp; omega, by simp; omega, h4.tail⟩ (by rw [slen1_mk, slen1_mk]; simp; omega)
  by_cases h0 : (0 : Int) < (n' : Int)
  · simp only [rs, h0, decide_true]
    exact step (.inl (by omega))
  · simp only [rs, h0, decide_false, s_len Tryz.underlying9]
    by_cases h1 : (s.length : Int) < (least : Int)
    · simp only [rs, h1, decide_true]
      exact step (.inr (by omega))
    · simp only [rs, h1, decide_false]
      refine hK _ _ ⟨?_, ho.done⟩
      cases f with
      | zero => rw [← hr]; rfl
      | succ f => rw [Fx.rowF, if_neg (by omega)] at hr; rw [hr]
theorem digits_ret (n least : Nat) (w : World) (hn : n < 4611686018427387904) (hl : least ≤ 4) : Ret Tryz.prog 219 #[.int .i64 n, .int .i64 least] w (fun v w' => v = .string ⟨(Fx.row n least).toArray⟩ ∧ Below w.heap.size w w') := by
  refine ret_of fun K hK => S_foliantref02_digits_ok ?_
  unfold S_foliantref02_digits
  refine loop (fun vs w' => ∃ (f n' : Nat) (s : List UInt8), vs = [.int .i64 n', .string ⟨s.toArray⟩] ∧ Fx.rowF f n' least s = Fx.row n least ∧ n' < 10 ^ f ∧ n' < 4611686018427387904 ∧ least ≤ s.length + f ∧ s.length + f = 64 ∧ Own w w' [])
    (fun vs _ => 64 - slen1 vs) ⟨64, n, [], rfl, rfl, by omega, hn, by simp; omega, by simp, Own.start w⟩ ?_
  rintro vs w' ⟨f, n', s, rfl, hr, hn', hn2, hl', hs, ho⟩ _
  simp only [S_foliantref02_digits_0, gd, rs]
  have step : 0 < n' ∨ s.length < least → DoX Tryz.prog (mBin .rem 2 (.int .i64 n') (.int .i64 10)) w' (pk K) fun t15 ww =>
      DoX Tryz.prog (mBin .add 2 (.int .i64 48) t15) ww (pk K) fun t16 ww =>
      DoX Tryz.prog (mConv 2 5 t16) ww (pk K) fun t17 ww =>
      DoX Tryz.prog (mBuildS 73 1 #[(0, t17)]) ww (pk K) fun t18 ww =>
      DoX Tryz.prog (mConv 73 9 t18) ww (pk K) fun t19 ww =>
      DoX Tryz.prog (mBin .add 9 t19 (.string ⟨s.toArray⟩)) ww (pk K) fun t21 ww =>
      DoX Tryz.prog (mBin .quo 2 (.int .i64 n') (.int .i64 10)) ww (pk K) fun t23 ww =>
      (NextX (fun vs w' => ∃ (f n' : Nat) (s : List UInt8), vs = [.int .i64 n', .string ⟨s.toArray⟩] ∧ Fx.rowF f n' least s = Fx.row n least ∧ n' < 10 ^ f ∧ n' < 4611686018427387904 ∧ least ≤ s.length + f ∧ s.length + f = 64 ∧ Own w w' [])
    (fun vs _ => 64 - slen1 vs) [.int .i64 n', .string ⟨s.toArray⟩] w') [t23, t21] ww := by
    intro hstep
    cases f with
    | zero => simp only [Nat.pow_zero] at hn'; omega
    | succ f =>
      rw [Fx.rowF, if_pos hstep] at hr
      have e1 : (n' : Int).tmod 10 = ((n' % 10 : Nat) : Int) := by rw [Int.tmod_eq_emod_of_nonneg (by omega)]; omega
      have e2 : (n' : Int).tdiv 10 = ((n' / 10 : Nat) : Int) := by rw [Int.tdiv_eq_ediv_of_nonneg (by omega)]; omega
      have e3 : ((48 : Int) + ((n' % 10 : Nat) : Int)) = (((Fx.dg (n' % 10)).toNat : Nat) : Int) := by rw [Fx.dg_toNat (by omega)]; omega
      have e4 := Fx.dg_toNat (k := n' % 10) (by omega)
      simp only [b_rem (show (10 : Int) ≠ 0 by omega), b_quo (show (10 : Int) ≠ 0 by omega), rs, e1, e2, e3]
      rw [wrap64_id (by omega) (by omega), c_int (show (Tryz.prog.underlying 2).isSome = true by kernel_rfl) Tryz.underlying5, wrap8_id (by omega) (by omega)]
      refine o_new (fun b => .slice (some ⟨b, 0, none⟩) 1 1) [.int .u8 (Fx.dg (n' % 10)).toNat] 5 (fun _ => by kernel_rfl) ho fun b w4 h4 => ?_
      rw [c_bytes (l := [Fx.dg (n' % 10)]) Tryz.underlying73 Tryz.underlying5 Tryz.underlying9 (h4.sl 0 rfl 1 1 1 rfl), s_add (by simp; omega), wrap64_id (by omega) (by omega)]
      refine nextX ⟨f, n' / 10, Fx.dg (n' % 10) :: s, rfl, hr, by rw [Nat.pow_succ] at hn'; omega, by omega, by simp; omega, by simp; omega, h4.tail⟩ (by rw [slen1_mk, slen1_mk]; simp; omega)
  by_cases h0 : (0 : Int) < (n' : Int)
  · simp only [rs, h0, decide_true]
    exact step (.inl (by omega))
  · simp only [rs, h0, decide_false, s_len Tryz.underlying9]
    by_cases h1 : (s.length : Int) < (least : Int)
    · simp only [rs, h1, decide_true]
      exact step (.inr (by omega))
    · simp only [rs, h1, decide_false]
      refine hK _ _ ⟨?_, ho.done⟩
      cases f with
      | zero => rw [← hr]; rfl
      | succ f => rw [Fx.rowF, if_neg (by omega)] at hr; rw [hr]
end Go.Proofs.YtiklhhdohckfiaaGreatDoor
/- Contracts of the program's package fix: the functions that recover. -/
namespace Go.Proofs.YtiklhhdohckfiaaGreatDoor
set_option linter.unusedVariables false
set_option linter.unusedSimpArgs false
set_option linter.defProp false
open Eng Go.RowKit
set_option linter.unusedVariables false
set_option linter.unusedSimpArgs false

abbrev pair (x : Int × Int) : Value := .tuple #[.int .i64 x.1, .int .i64 x.2]
theorem okB_bd {n : Int} (h : Fx.okB n = true) : -1073741824 ≤ n ∧ n ≤ 1073741824 := by simpa [Fx.okB] using h
end Go.Proofs.YtiklhhdohckfiaaGreatDoor
/- Code in continuation form, by program (gen.py): 13 functions. -/
namespace Go.Proofs.YtiklhhdohckfiaaGreatDoor
set_option linter.unusedVariables false
set_option linter.unusedSimpArgs false
set_option linter.defProp false
set_option linter.unusedVariables false
set_option maxRecDepth 20000
open Eng

/- strings.HasPrefix -/
/- internal/stringslite.HasPrefix -/
/- strings.Cut -/
/- internal/stringslite.Cut -/
/- internal/stringslite.IndexByte -/
/- internal/stringslite.Index -/
/- strings.TrimRight -/
/- strings.trimRightByte -/
/- strings.Trim -/
/- strings.makeASCIISet -/
/- strings.trimRightASCII -/
/- strings.trimLeftASCII -/
/- (*strings.asciiSet).contains -/
end Go.Proofs.YtiklhhdohckfiaaGreatDoor
/- Contracts: strings.Cut at a separator of one byte; strings.HasPrefix, TrimRight, Trim in lists' words. -/
namespace Go.Proofs.YtiklhhdohckfiaaGreatDoor
set_option linter.unusedVariables false
set_option linter.unusedSimpArgs false
set_option linter.defProp false
open Eng Go.RowKit

theorem ix_cases (c : UInt8) : ∀ l : List UInt8, (Lib.indexByte l c = -1 ∧ l.takeWhile (fun x => x != c) = l ∧ l.dropWhile (fun x => x != c) = []) ∨
    ∃ i : Nat, Lib.indexByte l c = i ∧ i < l.length ∧ l.takeWhile (fun x => x != c) = l.take i ∧ l.dropWhile (fun x => x != c) = l.drop i
  | [] => .inl ⟨rfl, rfl, rfl⟩
  | b :: l => by
    by_cases h : b = c
    · subst h
      exact .inr ⟨0, by simp [Lib.indexByte], by simp, by simp, by simp⟩
    · have hb : (b == c) = false := by simpa using h
      have hb2 : (b != c) = true := by simpa using h
      rcases ix_cases c l with ⟨h1, h2, h3⟩ | ⟨i, h1, h2, h3, h4⟩
      · exact .inl ⟨by simp [Lib.indexByte, hb, h1], by simp [hb2, h2], by simp [hb2, h3]⟩
      · refine .inr ⟨i + 1, ?_, by simp; omega, by simp [hb2, h3], by simp [hb2, h4]⟩
        have e : ((i : Int) == -1) = false := by simp
        simp only [Lib.indexByte, hb, h1, e, Bool.false_eq_true, if_false]
        omega

theorem trimRight_ret (s : List UInt8) (c : UInt8) (hc : c.toNat < 128) (w : World) (hs : s.length ≤ 9223372036854775807) : Ret Tryz.prog 241 #[.string ⟨s.toArray⟩, .string ⟨#[c]⟩] w
    (fun v w' => v = .string ⟨(Lib.trimRightB s c).toArray⟩ ∧ w = w') :=
  Calls.mono (Tryz.strings_TrimRight_one ⟨s.toArray⟩ c hc w (by rw [str_size]; exact hs)) (by rintro e w' ⟨rfl, rfl⟩; exact retK ⟨rfl, rfl⟩)
end Go.Proofs.YtiklhhdohckfiaaGreatDoor
/- Contracts: Text (program and reference), digits, the reference's form. -/
namespace Go.Proofs.YtiklhhdohckfiaaGreatDoor
set_option linter.unusedVariables false
set_option linter.unusedSimpArgs false
set_option linter.defProp false
open Eng Go.RowKit
set_option linter.unusedVariables false
set_option linter.unusedSimpArgs false

theorem tr_snoc_zero (q : List UInt8) : Fx.tr (q ++ [48]) = Fx.tr q := Fx.tr_zeros q 1
theorem tr_snoc (q : List UInt8) (c : UInt8) (h : c ≠ 48) : Fx.tr (q ++ [c]) = q ++ [c] := by
  have hb : (c == 48) = false := by simpa using h
  simp [Fx.tr, Lib.trimRightB, hb]
theorem natAbs_mod {n : Int} (h : 0 ≤ n) : n.tmod 10000 = ((n.natAbs % 10000 : Nat) : Int) := by rw [Int.tmod_eq_emod_of_nonneg h]; omega
theorem natAbs_div {n : Int} (h : 0 ≤ n) : n.tdiv 10000 = ((n.natAbs / 10000 : Nat) : Int) := by rw [Int.tdiv_eq_ediv_of_nonneg h]; omega

theorem ptext_ret (n : Int) (w : World) : Ret Tryz.prog 207 #[.int .i64 n] w (fun v w' => v = .string ⟨(Fx.text n).toArray⟩ ∧ Below w.heap.size w w') := by
  refine ret_of fun K hK => S_fix_Text_ok ?_
  unfold S_fix_Text
  refine c_ret (within_ret n w) ?_
  rintro v w1 ⟨rfl, rfl⟩
  by_cases ho : Fx.okB n = true
  · have hb := okB_bd ho
    simp only [ho, rs]
    have main : ∀ (m : Int) (sg : List UInt8), 0 ≤ m → m.natAbs = n.natAbs → sg = (if n < 0 then [45] else []) → S_fix_Text_0 (.int .i64 m) (.string ⟨sg.toArray⟩) w K := by
      intro m sg h0 hm hsg
      have hm2 : m ≤ 1073741824 := by omega
      unfold S_fix_Text_0
      simp only [b_quo (show (10000 : Int) ≠ 0 by omega), b_rem (show (10000 : Int) ≠ 0 by omega), natAbs_div h0, natAbs_mod h0]
      rw [wrap64_id (by omega) (by omega)]
      refine c_ret (row_ret (m.natAbs / 10000) 1 w (by omega) (by omega)) ?_
      rintro v w2 ⟨rfl, b2⟩
      refine c_ret (row_ret (m.natAbs % 10000) 4 w2 (by omega) (by omega)) ?_
      rintro v w3 ⟨rfl, b3⟩
      refine c_ret (trimRight_ret (Fx.row (m.natAbs % 10000) 4) 48 (by decide) w3 (by have := Fx.row_len (m.natAbs % 10000) 4; omega)) ?_
      rintro v w4 ⟨rfl, rfl⟩
      have hlen := Fx.row_len (m.natAbs / 10000) 1
      have hfl := Fx.fpart_len n.natAbs
      have hsl : sg.length ≤ 1 := by rw [hsg]; split <;> simp
      refine join fun J hJ => ?_
      have fin : J [.string ⟨(Fx.fpart n.natAbs).toArray⟩] w3 := by
        refine hJ _ _ fun _ => ?_
        simp only [S_fix_Text_1, gd]
        rw [s_add (by omega), s_add (b := [46]) (by simp; omega), s_add (by simp; omega)]
        refine hK _ _ ⟨?_, b2.trans (b3.mono b2.size)⟩
        rw [Fx.text, if_pos ho, hsg, hm]
      change DoX _ (mEq .eql _ _ _ (.string ⟨(Fx.tr (Fx.row (m.natAbs % 10000) 4)).toArray⟩) (.string ⟨([] : List UInt8).toArray⟩)) _ _ _
      by_cases ht : Fx.tr (Fx.row (n.natAbs % 10000) 4) = []
      · simp only [e_str, hm, ht, decide_true, rs]
        rw [Fx.fpart, if_pos ht] at fin
        exact fin
      · simp only [e_str, hm, ht, decide_false, rs]
        rw [Fx.fpart, if_neg ht] at fin
        exact fin
    refine join fun J hJ => ?_
    by_cases hn : n < 0
    · simp only [rs, hn, decide_true]
      rw [wrap64_id (by omega) (by omega)]
      exact hJ _ _ fun _ => main (-n) [45] (by omega) (by omega) (by rw [if_pos hn])
    · simp only [rs, hn, decide_false]
      exact hJ _ _ fun _ => main n [] (by omega) rfl (by rw [if_neg hn])
  · have ho' : Fx.okB n = false := by simpa using ho
    simp only [ho', rs]
    exact hK _ _ ⟨by rw [Fx.text, if_neg ho], Below.refl _ _⟩

theorem rwithin_ret (n : Int) (w : World) : Ret Tryz.prog 218 #[.int .i64 n] w (fun v w' => v = .bool (Fx.okB n) ∧ w = w') := by
  refine ret_of fun K hK => S_foliantref02_Within_ok ?_
  unfold S_foliantref02_Within
  by_cases h : -1073741824 ≤ n <;> simp only [rs, h, decide_true, decide_false] <;> exact hK _ _ ⟨by simp [Fx.okB, h], rfl⟩

def slen0 (vs : List Value) : Nat := match vs.getD 0 undef with | .string s => s.size | _ => 0
theorem slen0_mk {l : List UInt8} {t : List Value} : slen0 (.string ⟨l.toArray⟩ :: t) = l.length := by simp [slen0, str_size]

theorem rtext_ret (n : Int) (w : World) : Ret Tryz.prog 175 #[.int .i64 n] w (fun v w' => v = .string ⟨(Fx.text n).toArray⟩ ∧ Below w.heap.size w w') := by
  refine ret_of fun K hK => S_foliantref02_Text_ok ?_
  unfold S_foliantref02_Text
  refine c_ret (rwithin_ret n w) ?_
  rintro v w1 ⟨rfl, rfl⟩
  by_cases ho : Fx.okB n = true
  · have hb := okB_bd ho
    simp only [ho, rs]
    have main : ∀ (m : Int) (sg : List UInt8), 0 ≤ m → m.natAbs = n.natAbs → sg = (if n < 0 then [45] else []) → S_foliantref02_Text_0 (.int .i64 m) (.string ⟨sg.toArray⟩) w K := by
      intro m sg h0 hm hsg
      have hm2 : m ≤ 1073741824 := by omega
      have hlen := Fx.row_len (m.natAbs / 10000) 1
      have hfl := Fx.fpart_len n.natAbs
      have hsl : sg.length ≤ 1 := by rw [hsg]; split <;> simp
      unfold S_foliantref02_Text_0
      simp only [b_rem (show (10000 : Int) ≠ 0 by omega), natAbs_mod h0]
      refine c_ret (digits_ret (m.natAbs % 10000) 4 w (by omega) (by omega)) ?_
      rintro v w2 ⟨rfl, b2⟩
      refine loop (fun vs w' => ∃ p : List UInt8, vs = [.string ⟨p.toArray⟩] ∧ (if Fx.tr p = [] then [48] else Fx.tr p) = Fx.fpart n.natAbs ∧ p.length ≤ 64 ∧ 1 ≤ p.length ∧ Below w.heap.size w w') (fun vs _ => slen0 vs)
        ⟨Fx.row (m.natAbs % 10000) 4, rfl, by rw [hm]; rfl, Fx.row_len _ _, Fx.row_pos _ _ (by omega), b2⟩ ?_
      rintro vs w3 ⟨p, rfl, hp, hpl, hp1, b3⟩ _
      simp only [S_foliantref02_Text_1, gd, s_len Tryz.underlying9, rs]
      have fin : p = Fx.fpart n.natAbs → DoX Tryz.prog (mBin .quo 2 (.int .i64 m) (.int .i64 10000)) w3 (pk K) fun t33 w =>
          CallX Tryz.prog 219 #[t33, (.int .i64 1)] w (pk K) fun t34 w =>
          DoX Tryz.prog (mBin .add 9 (.string ⟨sg.toArray⟩) t34) w (pk K) fun t35 w =>
          DoX Tryz.prog (mBin .add 9 t35 (.string ⟨#[46]⟩)) w (pk K) fun t36 w =>
          DoX Tryz.prog (mBin .add 9 t36 (.string ⟨p.toArray⟩)) w (pk K) fun t38 w =>
          K (.returned t38) w := by
        intro hpe
        simp only [b_quo (show (10000 : Int) ≠ 0 by omega), natAbs_div h0]
        rw [wrap64_id (by omega) (by omega)]
        refine c_ret (digits_ret (m.natAbs / 10000) 1 w3 (by omega) (by omega)) ?_
        rintro v w4 ⟨rfl, b4⟩
        rw [s_add (by omega), s_add (b := [46]) (by simp; omega), s_add (by simp; omega)]
        refine hK _ _ ⟨?_, b3.trans (b4.mono b3.size)⟩
        rw [Fx.text, if_pos ho, hsg, hm, hpe]
      have hne : p ≠ [] := by intro e; rw [e] at hp1; simp at hp1
      obtain ⟨q, c, rfl⟩ : ∃ q c, p = q ++ [c] := ⟨p.dropLast, p.getLast hne, (List.dropLast_concat_getLast hne).symm⟩
      have hql : (q ++ [c]).length = q.length + 1 := by simp
      by_cases h1 : 0 < q.length
      · have h1' : (1 : Int) < (((q ++ [c]).length : Nat) : Int) := by omega
        simp only [h1', decide_true, rs, s_len Tryz.underlying9]
        rw [wrap64_id (by omega) (by omega), s_ix (c := c) Tryz.underlying9 (by omega) (by
          rw [show ((((q ++ [c]).length : Nat) : Int) - 1).toNat = q.length by omega]; simp)]
        by_cases hc : c = 48
        · subst hc
          simp only [show (((48 : UInt8).toNat : Nat) : Int) = 48 from rfl, decide_true, rs]
          rw [s_upto Tryz.underlying9 (by omega) (by omega)]
          refine nextX ⟨q, ?_, by rw [← hp, tr_snoc_zero], by omega, h1, b3⟩ (by rw [slen0_mk, slen0_mk]; simp)
          have e : ((((q ++ [(48 : UInt8)]).length : Nat) : Int) - 1).toNat = q.length := by omega
          rw [e]; simp
        · have hc' : ¬ ((c.toNat : Int) = 48) := by
            intro e; exact hc (UInt8.toNat_inj.1 (show c.toNat = 48 by omega))
          simp only [hc', decide_false, rs]
          refine fin ?_
          rw [← hp, tr_snoc q c hc, if_neg (by simp)]
      · have h1' : ¬ (1 : Int) < (((q ++ [c]).length : Nat) : Int) := by omega
        have hq : q = [] := List.eq_nil_of_length_eq_zero (by omega)
        subst hq
        simp only [h1', decide_false, rs]
        refine fin ?_
        rw [← hp]
        by_cases hc : c = 48
        · subst hc; rfl
        · rw [tr_snoc [] c hc, if_neg (by simp)]
    refine join fun J hJ => ?_
    by_cases hn : n < 0
    · simp only [rs, hn, decide_true]
      rw [wrap64_id (by omega) (by omega)]
      exact hJ _ _ fun _ => main (-n) [45] (by omega) (by omega) (by rw [if_pos hn])
    · simp only [rs, hn, decide_false]
      exact hJ _ _ fun _ => main n [] (by omega) rfl (by rw [if_neg hn])
  · have ho' : Fx.okB n = false := by simpa using ho
    simp only [ho', rs]
    exact hK _ _ ⟨by rw [Fx.text, if_neg ho], Below.refl _ _⟩

end Go.Proofs.YtiklhhdohckfiaaGreatDoor
/- Contracts: octet (White, Delim, Regular, Hex) and plain (Int, Real, Hex, Pad) of the program. -/
namespace Go.Proofs.YtiklhhdohckfiaaGreatDoor
set_option linter.unusedVariables false
set_option linter.unusedSimpArgs false
set_option linter.defProp false
open Eng Go.RowKit

/-- strconv's table of powers of ten is as it was laid. -/
abbrev Tb (w : World) : Prop := Lib.TabIs Tryz.prog w "internal/strconv.uint64pow10" .u64 Lib.pow10Tab

theorem indexByte_ret (l : List UInt8) (c : UInt8) (w : World) : Ret Tryz.prog 162 #[.string ⟨l.toArray⟩, .int .u8 c.toNat] w (fun v w' => v = .int .i64 (Lib.indexByte l c) ∧ w = w') := by
  refine Calls.mono (Tryz.strings_IndexByte ⟨l.toArray⟩ c.toNat w) ?_
  rintro e w' ⟨rfl, rfl⟩
  refine retK ⟨?_, rfl⟩
  simp
theorem white_ret (c : UInt8) (w : World) : Ret Tryz.prog 158 #[.int .u8 c.toNat] w (fun v w' => v = .bool (Oc.white c) ∧ w = w') := by
  refine ret_of fun K hK => S_octet_White_ok ?_
  unfold S_octet_White
  refine c_eq (indexByte_ret Oc.whites c w) ?_
  simp only [rs, Oc.indexByte_nonneg]
  exact hK _ _ ⟨rfl, rfl⟩
theorem delim_ret (c : UInt8) (w : World) : Ret Tryz.prog 159 #[.int .u8 c.toNat] w (fun v w' => v = .bool (Oc.delim c) ∧ w = w') := by
  refine ret_of fun K hK => S_octet_Delim_ok ?_
  unfold S_octet_Delim
  refine c_eq (indexByte_ret Oc.delims c w) ?_
  simp only [rs, Oc.indexByte_nonneg]
  exact hK _ _ ⟨rfl, rfl⟩
theorem regular_ret (c : UInt8) (w : World) : Ret Tryz.prog 96 #[.int .u8 c.toNat] w (fun v w' => v = .bool (Oc.regular c) ∧ w = w') := by
  refine ret_of fun K hK => S_octet_Regular_ok ?_
  unfold S_octet_Regular
  refine c_eq (white_ret c w) ?_
  cases hw : Oc.white c with
  | true => simp only [rs]; exact hK _ _ ⟨by simp [Oc.regular, hw], rfl⟩
  | false =>
    simp only [rs]
    refine c_eq (delim_ret c w) ?_
    simp only [rs]
    exact hK _ _ ⟨by simp [Oc.regular, hw], rfl⟩
theorem shr4 (c : UInt8) : (c.toNat : Int).fdiv (2 ^ (min (4 : Int).toNat IntKind.u8.bits)) = ((c.toNat / 16 : Nat) : Int) := by
  rw [Int.fdiv_eq_ediv_of_nonneg _ (by decide)]
  show ((c.toNat : Int) / 16) = _
  omega
theorem and15_fin : ∀ n : Fin 256, bAnd .u8 (n.val : Int) 15 = ((n.val % 16 : Nat) : Int) := by decide +kernel
theorem and15 (c : UInt8) : bAnd .u8 (c.toNat : Int) 15 = ((c.toNat % 16 : Nat) : Int) := and15_fin ⟨c.toNat, c.toNat_lt⟩
theorem hexD_get (k : IntKind) {n : Nat} (h : n < 16) (w : World) : (mIx 9 (.string ⟨#[48, 49, 50, 51, 52, 53, 54, 55, 56, 57, 65, 66, 67, 68, 69, 70]⟩) (.int k (n : Int))).run Tryz.prog w = .ok (.value (.int .u8 (Oc.hexD n).toNat)) w :=
  run_s_ix (a := Oc.hexs) (c := Oc.hexD n) Tryz.underlying9 (by omega) (by rw [Int.toNat_natCast]; exact Oc.hexs_get h)
theorem hex_ret (l : List UInt8) (w : World) (hl : l.length ≤ 1000000) : Ret Tryz.prog 165 #[.string ⟨l.toArray⟩] w (fun v w' => v = .string ⟨(Oc.hex l).toArray⟩ ∧ Below w.heap.size w w') := by
  refine ret_of fun K hK => S_octet_Hex_ok ?_
  unfold S_octet_Hex
  rw [s_len Tryz.underlying9]
  simp only [rs]
  rw [wrap64_id (by omega) (by omega)]
  refine o_make (c := 2 * l.length) (by omega) Tryz.underlying73 (show elB Tryz.prog 5 1 1 = true by kernel_rfl) (by omega) (by omega) (Own.start w) fun v w1 h1 => ?_
  rw [s_len Tryz.underlying9]
  refine loop (fun vs w' => ∃ (i : Nat) (v : Value), vs = [v, .int .i64 i] ∧ i ≤ l.length ∧ Own w w' [.row 5 1 v (2 * i) (bytesV (Oc.hex (l.take i)))])
    (fun vs _ => l.length - n1 vs) ⟨0, v, rfl, by omega, by simpa [Oc.hex, bytesV] using h1⟩ ?_
  rintro vs w2 ⟨i, v, rfl, hi, ho⟩ _
  simp only [S_octet_Hex_0, gd, rs]
  by_cases hlt : (i : Int) < (l.length : Int)
  · have hi2 : i < l.length := by omega
    have hc : l[(i : Int).toNat]? = some l[i] := by simp [hi2]
    have hd1 : l[i].toNat / 16 < 16 := by have := l[i].toNat_lt; omega
    have hd2 : l[i].toNat % 16 < 16 := by omega
    simp only [hlt, decide_true, rs]
    refine quiet (q_do _ (fun w => run_s_ix Tryz.underlying9 (by omega) hc) (q_do _ (fun w => by rw [r_shr (by omega), shr4]) (q_do _ (fun w => hexD_get _ hd1 w)
      (q_do _ (fun w => run_s_ix Tryz.underlying9 (by omega) hc) (q_do _ (fun w => by rw [r_and, and15]) (q_do _ (fun w => hexD_get _ hd2 w) ?_))))))
    intro w3 hb3
    refine o_new (fun b => .slice (some ⟨b, 0, none⟩) 2 2) (bytesV (Oc.hex1 l[i])) 5 (fun _ => by kernel_rfl) (ho.grow hb3) fun nb w4 h4 => ?_
    refine o_append 1 Tryz.underlying73 (show elB Tryz.prog 5 1 1 = true by kernel_rfl) (by decide) h4 rfl (h4.sl 0 rfl 1 2 2 rfl) (bytesV_one _) (by omega) (by omega) fun v' w5 h5 => ?_
    rw [wrap64_id (by omega) (by omega)]
    refine nextX ⟨i + 1, v', rfl, by omega, ?_⟩ (by simp [n1, intOf]; omega)
    have e : bytesV (Oc.hex (l.take (i + 1))) = bytesV (Oc.hex (l.take i)) ++ bytesV (Oc.hex1 l[i]) := by
      rw [List.take_succ_eq_append_getElem hi2, Oc.hex_snoc, bytesV_append]
    rw [e]
    exact h5.tail
  · have hi2 : i = l.length := by omega
    subst hi2
    simp only [hlt, decide_false, rs]
    have hs := ho.slRow 0 rfl
    rw [c_bytes (l := Oc.hex l) Tryz.underlying73 Tryz.underlying5 Tryz.underlying9 (by rw [Oc.hex_length]; simpa using hs)]
    exact hK _ _ ⟨rfl, ho.done⟩
theorem below_gr (w : World) (k : Nat) (os : Array Obj) : Below w.heap.size w (Go.Sort.grow (w.drewN k) os) :=
  ⟨rfl, rfl, rfl, by simp [Go.Sort.grow], fun i hi => by simp [Go.Sort.grow, Array.getElem?_append, hi]⟩
theorem pint_ret (n : Int) (w : World) (ht : Tb w) : Ret Tryz.prog 142 #[.int .i64 n] w (fun v w' => v = .tuple #[.string ⟨(Pl.pInt n).1.toArray⟩, .int .i64 (Pl.pInt n).2] ∧ Below w.heap.size w w') := by
  refine ret_of fun K hK => S_plain_Int_ok ?_
  unfold S_plain_Int
  by_cases h1 : n < -2147483647
  · simp only [rs, h1, decide_true]
    exact hK _ _ ⟨by rw [Pl.pInt, if_neg (by omega)], Below.refl _ _⟩
  · simp only [rs, h1, decide_false]
    by_cases h2 : 2147483647 < n
    · simp only [rs, h2, decide_true]
      exact hK _ _ ⟨by rw [Pl.pInt, if_neg (by omega)], Below.refl _ _⟩
    · simp only [rs, h2, decide_false]
      refine c_any (Tryz.strconv_FormatInt_10 n (by omega) (by omega) w ht) ?_
      rintro e w' ⟨rfl, k, os, rfl⟩
      exact hK _ _ ⟨by rw [Pl.pInt, if_pos (by omega)], below_gr _ _ _⟩
theorem preal_ret (n : Int) (w : World) : Ret Tryz.prog 160 #[.int .i64 n] w (fun v w' => v = .tuple #[.string ⟨(Pl.pReal n).1.toArray⟩, .int .i64 (Pl.pReal n).2] ∧ Below w.heap.size w w') := by
  refine ret_of fun K hK => S_plain_Real_ok ?_
  unfold S_plain_Real
  by_cases h1 : n < -1073741824
  · simp only [rs, h1, decide_true]
    exact hK _ _ ⟨by rw [Pl.pReal, if_neg (by simp [Fx.okB]; omega)], Below.refl _ _⟩
  · simp only [rs, h1, decide_false]
    by_cases h2 : 1073741824 < n
    · simp only [rs, h2, decide_true]
      exact hK _ _ ⟨by rw [Pl.pReal, if_neg (by simp [Fx.okB]; omega)], Below.refl _ _⟩
    · simp only [rs, h2, decide_false]
      refine c_ret (ptext_ret n w) ?_
      rintro _ w' ⟨rfl, hb⟩
      exact hK _ _ ⟨by rw [Pl.pReal, if_pos (by simp [Fx.okB]; omega)], hb⟩
end Go.Proofs.YtiklhhdohckfiaaGreatDoor
/- Contracts: plain (write, String, Name, Join, Pad) of the program. -/
namespace Go.Proofs.YtiklhhdohckfiaaGreatDoor
set_option linter.unusedVariables false
set_option linter.unusedSimpArgs false
set_option linter.defProp false
open Eng Go.RowKit

/-- What a function that writes a byte's text into a Builder must do. -/
def Each (F : Nat) (f : UInt8 → List UInt8) : Prop := ∀ (b : Nat) (v : Value) (l : List UInt8) (c : UInt8) (w : World), (Bld b v l).is w → l.length ≤ 1000000 →
  Ret Tryz.prog F #[.pointer (some ⟨b, 0, none⟩), .int .u8 c.toNat] w (fun r w' => ∃ e', (∃ v', e' = Bld b v' (l ++ f c)) ∧ Turn (Bld b v l) e' w w')
theorem write_ret (op s en : List UInt8) (F : Nat) (f : UInt8 → List UInt8) (hF : plainB Tryz.prog F = true) (he : Each F f) (hf : ∀ c, (f c).length ≤ 4) (h1 : op.length = 1) (h2 : en.length ≤ 1) (h3 : s.length ≤ 40000) (w : World) :
    Ret Tryz.prog 163 #[.string ⟨op.toArray⟩, .string ⟨s.toArray⟩, .string ⟨en.toArray⟩, .func (.func F) #[] #[]] w (fun v w' => v = .string ⟨(op ++ s.flatMap f ++ en).toArray⟩ ∧ Below w.heap.size w w') := by
  refine ret_of fun K hK => S_plain_write_ok ?_
  unfold S_plain_write
  refine o_new (fun b => .pointer (some ⟨b, 0, none⟩)) [.pointer none, .slice none 0 0] 75 (fun _ => by kernel_rfl) (Own.start w) fun b w1 ho => ?_
  simp only [s_len Tryz.underlying9, rs]
  rw [wrap64_id (n := (op.length : Int) + s.length) (by omega) (by omega), wrap64_id (by omega) (by omega)]
  rw [show ((op.length : Int) + s.length + en.length) = ((op.length + s.length + en.length : Nat) : Int) by omega]
  refine c_ret (grow_ret ho (by omega) (by omega)) ?_
  rintro _ w2 ⟨rfl, v, ho2⟩
  refine c_turn 0 ho2 rfl (writeString_ret (ho2.at_ 0 rfl) (by simp; omega)) ?_
  rintro _ _ w3 ⟨_, v3, rfl⟩ ho3
  refine loop (fun vs w' => ∃ (i : Nat) (v : Value), vs = [.int .i64 i] ∧ i ≤ s.length ∧ Own w w' [Bld b v (op ++ (s.take i).flatMap f)])
    (fun vs _ => s.length - n0 vs) ⟨0, v3, rfl, by omega, by simpa using ho3⟩ ?_
  rintro vs w4 ⟨i, v4, rfl, hi, ho4⟩ _
  simp only [S_plain_write_0, gd, rs]
  by_cases hlt : (i : Int) < (s.length : Int)
  · have hi2 : i < s.length := by omega
    simp only [hlt, decide_true, rs]
    rw [s_ix (c := s[i]) Tryz.underlying9 (by omega) (by simp [hi2])]
    have hfl := Pl.flat_len f 4 hf (s.take i)
    have htk : (s.take i).length ≤ s.length := by rw [List.length_take]; omega
    refine c_val hF (c_turn 0 ho4 rfl (R := fun _ e' => ∃ v', e' = Bld b v' (op ++ (s.take i).flatMap f ++ f s[i])) (he b v4 _ s[i] w4 (ho4.at_ 0 rfl) (by simp only [List.length_append]; omega)) ?_)
    rintro _ _ w5 ⟨v5, rfl⟩ ho5
    rw [wrap64_id (by omega) (by omega)]
    refine nextX ⟨i + 1, v5, rfl, by omega, ?_⟩ (by simp [n0, intOf]; omega)
    rw [List.take_succ_eq_append_getElem hi2, Pl.flat_snoc, ← List.append_assoc]
    exact ho5
  · have hi2 : i = s.length := by omega
    subst hi2
    simp only [hlt, decide_false, rs]
    rw [List.take_length] at ho4
    have hfl := Pl.flat_len f 4 hf s
    refine c_turn 0 ho4 rfl (writeString_ret (ho4.at_ 0 rfl) (by simp only [List.length_append]; omega)) ?_
    rintro _ _ w5 ⟨_, v5, rfl⟩ ho5
    refine c_turn 0 ho5 rfl (bldString_ret (ho5.at_ 0 rfl)) ?_
    rintro _ _ w6 ⟨rfl, rfl⟩ ho6
    exact hK _ _ ⟨rfl, ho6.done⟩
theorem u8_of (n : Nat) (h : n < 256) : ((UInt8.ofNat n).toNat : Int) = (n : Int) := by rw [UInt8.toNat_ofNat']; omega
/-- WriteByte of a byte that is reckoned. -/
theorem writeByteN_ret {b : Nat} {v : Value} {l : List UInt8} {n : Int} {k : Nat} {w : World} (h : (Bld b v l).is w) (hl : l.length < 140737488355328) (hn : n = k) (hk : k < 256) : Ret Tryz.prog 52 #[.pointer (some ⟨b, 0, none⟩), .int .u8 n] w
    (fun r w' => ∃ e', (r = .nilIface ∧ ∃ v', e' = Bld b v' (l ++ [UInt8.ofNat k])) ∧ Turn (Bld b v l) e' w w') := by
  have := writeByte_ret (c := UInt8.ofNat k) h hl
  rw [u8_of k hk, ← hn] at this
  exact this
theorem u8d (c : UInt8) (k : Int) (x : UInt8) (hx : (x.toNat : Int) = k) : decide ((c.toNat : Int) = k) = decide (c = x) := by
  by_cases h : c = x
  · subst h; rw [decide_eq_true hx, decide_eq_true rfl]
  · rw [decide_eq_false h, decide_eq_false]
    intro h2
    exact h (UInt8.toNat_inj.1 (by omega))
theorem octd_ret {b : Nat} {l : List UInt8} {c : UInt8} {w0 w : World} {v : Value} {S : Nat → Prop} (d : Nat) (i : Nat) (hd : d = 64 ∨ d = 8 ∨ d = 1) (hi : (mIx 196 (.agg #[.int .u8 64, .int .u8 8, .int .u8 1]) (.int .i64 (i : Int))).run Tryz.prog w = .ok (.value (.int .u8 (d : Int))) w)
    {t0 : Value} {K : Value → World → Prop} {PK : List PanicEntry → World → Prop} (ho : OwnS S w0 w [Bld b v l]) (hl : l.length < 140737488355328) (hi3 : i < 3)
    (hk : ∀ v' w', OwnS S w0 w' [Bld b v' (l ++ [UInt8.ofNat (48 + c.toNat / d % 8)])] → K (.int .i64 ((i + 1 : Nat) : Int)) w') :
    DoX Tryz.prog (mIx 196 (.agg #[.int .u8 64, .int .u8 8, .int .u8 1]) (.int .i64 (i : Int))) w PK fun t37 w =>
      DoX Tryz.prog (mBin .quo 5 (.int .u8 c.toNat) t37) w PK fun t41 w =>
      DoX Tryz.prog (mBin .rem 5 t41 (.int .u8 8)) w PK fun t42 w =>
      DoX Tryz.prog (mBin .add 5 (.int .u8 48) t42) w PK fun t43 w =>
      CallX Tryz.prog 52 #[.pointer (some ⟨b, 0, none⟩), t43] w PK fun t44 w =>
      DoX Tryz.prog (mBin .add 3 (.int .i64 (i : Int)) (.int .i64 1)) w PK K := by
  have h256 := c.toNat_lt
  have hq : ((c.toNat : Int).tdiv d) = ((c.toNat / d : Nat) : Int) := by rw [Int.tdiv_eq_ediv_of_nonneg (by omega)]; rcases hd with rfl | rfl | rfl <;> omega
  have hq2 : c.toNat / d < 256 := Nat.lt_of_le_of_lt (Nat.div_le_self _ _) h256
  have hr : (((c.toNat / d : Nat) : Int).tmod 8) = ((c.toNat / d % 8 : Nat) : Int) := by rw [Int.tmod_eq_emod_of_nonneg (by exact Int.natCast_nonneg _)]; omega
  refine do_ok hi ?_
  have hq3 : (0 : Int) ≤ ((c.toNat / d : Nat) : Int) := Int.natCast_nonneg _
  rw [b_quo (by omega), hq, wrap8_id hq3 (by omega), b_rem (by omega), hr, b_add, wrap8_id (by omega) (by omega)]
  refine c_turn 0 ho rfl (writeByteN_ret (k := 48 + c.toNat / d % 8) (ho.at_ 0 rfl) hl (by omega) (by omega)) ?_
  rintro _ _ w5 ⟨rfl, v5, rfl⟩ ho5
  rw [b_add, wrap64_id (by omega) (by omega), show ((i : Int) + 1) = ((i + 1 : Nat) : Int) by omega]
  exact hk _ _ ho5
theorem each_esc : Each 208 Pl.esc := by
  intro b v l c w h hl
  refine ret_of fun K hK => S_plain_String_1_ok ?_
  unfold S_plain_String_1
  have ho := OwnS.lend h
  have done : ∀ {v' : Value} {w' : World} {e' : Ent}, OwnS (Bld b v l).blk w w' [e'] → (∃ v', e' = Bld b v' (l ++ Pl.esc c)) → K (.returned (.tuple #[])) w' := fun hx he => hK _ _ ⟨_, he, hx.back⟩
  have two : (c = 40 ∨ c = 41 ∨ c = 92) → CallX Tryz.prog 52 #[.pointer (some ⟨b, 0, none⟩), (.int .u8 92)] w (pk K) fun t21 w =>
      CallX Tryz.prog 52 #[.pointer (some ⟨b, 0, none⟩), .int .u8 c.toNat] w (pk K) fun t24 w => K (.returned (.tuple #[])) w := by
    intro hc
    refine c_turn 0 ho rfl (writeByteN_ret (k := 92) h (by omega) rfl (by omega)) ?_
    rintro _ _ w1 ⟨rfl, v1, rfl⟩ ho1
    refine c_turn 0 ho1 rfl (writeByte_ret (c := c) (ho1.at_ 0 rfl) (by simp; omega)) ?_
    rintro _ _ w2 ⟨rfl, v2, rfl⟩ ho2
    exact done (v' := v2) ho2 ⟨v2, by rw [Pl.esc, if_pos hc, List.append_assoc]; rfl⟩
  have e1 := u8d c 40 40 rfl
  have e2 := u8d c 41 41 rfl
  have e3 := u8d c 92 92 rfl
  by_cases h1 : c = 40
  · simp only [rs, e1, decide_eq_true h1, g_un]
    exact two (by simp [h1])
  · simp only [rs, e1, decide_eq_false h1, g_un]
    by_cases h2 : c = 41
    · simp only [rs, e2, decide_eq_true h2, g_un]
      exact two (by simp [h2])
    · simp only [rs, e2, decide_eq_false h2, g_un]
      by_cases h3 : c = 92
      · simp only [rs, e3, decide_eq_true h3, g_un]
        exact two (by simp [h3])
      · simp only [rs, e3, decide_eq_false h3, g_un]
        have hn : ¬ (c = 40 ∨ c = 41 ∨ c = 92) := by simp [h1, h2, h3]
        have oct : (c.toNat < 32 ∨ 126 < c.toNat) → CallX Tryz.prog 52 #[.pointer (some ⟨b, 0, none⟩), (.int .u8 92)] w (pk K) fun t33 w =>
            DoX Tryz.prog (mBuild 196 #[(0, (.int .u8 64)), (1, (.int .u8 8)), (2, (.int .u8 1))]) w (pk K) fun t34 w =>
            LoopX [(.int .i64 0)] w (fun vs1 w N1 => ∀ _ : Sg, S_plain_String_1_0 (.pointer (some ⟨b, 0, none⟩)) (.int .u8 c.toNat) t34 (vs1.getD 0 undef) w N1 K) := by
          intro hc
          refine c_turn 0 ho rfl (writeByteN_ret (k := 92) h (by omega) rfl (by omega)) ?_
          rintro _ _ w1 ⟨rfl, v1, rfl⟩ ho1
          refine do_ok (w' := w1) (v := .agg #[.int .u8 64, .int .u8 8, .int .u8 1]) (by kernel_rfl) ?_
          refine loop (fun vs w' => ∃ (i : Nat) (v' : Value), vs = [.int .i64 i] ∧ i ≤ 3 ∧ OwnS (Bld b v l).blk w w' [Bld b v' (l ++ (Pl.oct c).take (i + 1))])
            (fun vs _ => 3 - n0 vs) ⟨0, v1, rfl, by omega, by simpa [Pl.oct] using ho1⟩ ?_
          rintro vs w2 ⟨i, v2, rfl, hi, ho2⟩ _
          simp only [S_plain_String_1_0, gd]
          rw [b_lss]
          by_cases hlt : (i : Int) < 3
          · simp only [hlt, decide_true, i_t]
            have hi3 : i = 0 ∨ i = 1 ∨ i = 2 := by omega
            have h256 := c.toNat_lt
            rcases hi3 with rfl | rfl | rfl
            · refine octd_ret (t0 := undef) 64 0 (.inl rfl) (by kernel_rfl) ho2 (by simp [Pl.oct]; omega) (by omega) fun v' w' h' => ?_
              refine nextX ⟨1, v', rfl, by omega, ?_⟩ (by simp [n0, intOf])
              have e : c.toNat / 64 % 8 = c.toNat / 64 := by omega
              rw [e, List.append_assoc] at h'
              exact h'
            · refine octd_ret (t0 := undef) 8 1 (.inr (.inl rfl)) (by kernel_rfl) ho2 (by simp [Pl.oct]; omega) (by omega) fun v' w' h' => ?_
              refine nextX ⟨2, v', rfl, by omega, ?_⟩ (by simp [n0, intOf])
              rw [List.append_assoc] at h'
              exact h'
            · refine octd_ret (t0 := undef) 1 2 (.inr (.inr rfl)) (by kernel_rfl) ho2 (by simp [Pl.oct]; omega) (by omega) fun v' w' h' => ?_
              refine nextX ⟨3, v', rfl, by omega, ?_⟩ (by simp [n0, intOf])
              rw [Nat.div_one, List.append_assoc] at h'
              exact h'
          · have hi3 : i = 3 := by omega
            subst hi3
            simp only [hlt, decide_false, i_f]
            refine done (v' := v2) ho2 ⟨v2, ?_⟩
            rw [Pl.esc, if_neg hn, if_pos hc]
            rfl
        by_cases h4 : (c.toNat : Int) < 32
        · simp only [rs, h4, decide_true, g_un]
          exact oct (.inl (by omega))
        · simp only [rs, h4, decide_false, g_un]
          by_cases h5 : (126 : Int) < (c.toNat : Int)
          · simp only [rs, h5, decide_true, g_un]
            exact oct (.inr (by omega))
          · simp only [rs, h5, decide_false, g_un]
            refine c_turn 0 ho rfl (writeByte_ret (c := c) h (by omega)) ?_
            rintro _ _ w1 ⟨rfl, v1, rfl⟩ ho1
            exact done (v' := v1) ho1 ⟨v1, by rw [Pl.esc, if_neg hn, if_neg (by omega)]⟩
theorem pstr_ret (l : List UInt8) (w : World) (hl : l.length ≤ 1000000) : Ret Tryz.prog 161 #[.string ⟨l.toArray⟩] w (fun v w' => v = .tuple #[.string ⟨(Pl.pStr l).1.toArray⟩, .int .i64 (Pl.pStr l).2] ∧ Below w.heap.size w w') := by
  refine ret_of fun K hK => S_plain_String_ok ?_
  unfold S_plain_String
  rw [s_len Tryz.underlying9]
  by_cases h1 : (32767 : Int) < l.length
  · simp only [rs, h1, decide_true]
    exact hK _ _ ⟨by rw [Pl.pStr, if_pos (by omega)], Below.refl _ _⟩
  · simp only [rs, h1, decide_false]
    refine c_ret (write_ret [40] l [41] _ Pl.esc (by kernel_rfl) each_esc (fun c => (Pl.esc_len c).2) rfl (by simp) (by omega) w) ?_
    rintro _ w' ⟨rfl, hb⟩
    exact hK _ _ ⟨by rw [Pl.pStr, if_neg (by omega)]; rfl, hb⟩
theorem each_nmc : Each 164 Pl.nmc := by
  intro b v l c w h hl
  refine ret_of fun K hK => S_plain_Name_1_ok ?_
  unfold S_plain_Name_1
  have ho := OwnS.lend h
  have yes : Pl.nmOk c = true → CallX Tryz.prog 52 #[.pointer (some ⟨b, 0, none⟩), .int .u8 c.toNat] w (pk K) fun t21 w => K (.returned (.tuple #[])) w := by
    intro hc
    refine c_turn 0 ho rfl (writeByte_ret (c := c) h (by omega)) ?_
    rintro _ _ w1 ⟨rfl, v1, rfl⟩ ho1
    exact hK _ _ ⟨_, ⟨v1, by rw [Pl.nmc, if_pos hc]⟩, ho1.back⟩
  have no : Pl.nmOk c = false → DoX Tryz.prog (mBuildS 73 1 #[(0, .int .u8 c.toNat)]) w (pk K) fun t24 w =>
      DoX Tryz.prog (mConv 73 9 t24) w (pk K) fun t25 w =>
      CallX Tryz.prog 165 #[t25] w (pk K) fun t26 w =>
      DoX Tryz.prog (mBin .add 9 (.string ⟨#[35]⟩) t26) w (pk K) fun t27 w =>
      CallX Tryz.prog 51 #[.pointer (some ⟨b, 0, none⟩), t27] w (pk K) fun t28 w => K (.returned (.tuple #[])) w := by
    intro hc
    refine o_new (fun b => .slice (some ⟨b, 0, none⟩) 1 1) [.int .u8 c.toNat] 5 (fun _ => by kernel_rfl) ho fun nb w1 h1 => ?_
    rw [c_bytes (l := [c]) Tryz.underlying73 Tryz.underlying5 Tryz.underlying9 (h1.sl 0 rfl 1 1 1 rfl)]
    refine c_below h1.tail (R := fun v => v = .string ⟨(Oc.hex [c]).toArray⟩) (hex_ret [c] w1 (by simp)) ?_
    rintro _ w2 rfl ho2
    change DoX Tryz.prog (mBin .add 9 (.string ⟨([35] : List UInt8).toArray⟩) (.string ⟨(Oc.hex [c]).toArray⟩)) _ _ _
    have hx := Oc.hex_length [c]
    rw [s_add (by simp only [List.length_cons, List.length_nil] at hx ⊢; omega)]
    refine c_turn 0 ho2 rfl (writeString_ret (ho2.at_ 0 rfl) (by simp only [List.length_append, List.length_cons, List.length_nil] at hx ⊢; omega)) ?_
    rintro _ _ w3 ⟨_, v1, rfl⟩ ho3
    exact hK _ _ ⟨_, ⟨v1, by rw [Pl.nmc, if_neg (by simp [hc])]⟩, ho3.back⟩
  by_cases h1 : (32 : Int) < (c.toNat : Int)
  · simp only [rs, h1, decide_true]
    by_cases h2 : (c.toNat : Int) ≤ 126
    · simp only [rs, h2, decide_true]
      have e3 : decide ((c.toNat : Int) ≠ 35) = decide (c ≠ 35) := by
        have := u8d c 35 35 rfl
        by_cases hc : c = 35
        · subst hc; rfl
        · rw [decide_eq_false hc] at this
          rw [decide_eq_true hc, decide_eq_true (of_decide_eq_false this)]
      by_cases h3 : c ≠ 35
      · simp only [rs, e3, decide_eq_true h3]
        refine c_eq (delim_ret c w) ?_
        cases hd : Oc.delim c with
        | true => simp only [rs]; exact no (by simp [Pl.nmOk, hd])
        | false => simp only [rs]; exact yes (by simp [Pl.nmOk, hd, h3]; omega)
      · simp only [rs, e3, decide_eq_false h3, g_un]
        exact no (by simp at h3; simp [Pl.nmOk, h3])
    · simp only [rs, h2, decide_false, g_un]
      exact no (by simp [Pl.nmOk]; omega)
  · simp only [rs, h1, decide_false, g_un]
    exact no (by simp [Pl.nmOk]; omega)
theorem pname_ret (l : List UInt8) (w : World) : Ret Tryz.prog 101 #[.string ⟨l.toArray⟩] w (fun v w' => v = .tuple #[.string ⟨(Pl.pName l).1.toArray⟩, .int .i64 (Pl.pName l).2] ∧ Below w.heap.size w w') := by
  refine ret_of fun K hK => S_plain_Name_ok ?_
  unfold S_plain_Name
  rw [s_len Tryz.underlying9]
  by_cases h1 : (127 : Int) < l.length
  · simp only [rs, h1, decide_true]
    exact hK _ _ ⟨by rw [Pl.pName, if_pos (by omega)], Below.refl _ _⟩
  · simp only [rs, h1, decide_false]
    refine c_eq (indexByte_ret l 0 w) ?_
    simp only [rs, Oc.indexByte_nonneg]
    cases h2 : l.contains 0 with
    | true => simp only [rs]; exact hK _ _ ⟨by rw [Pl.pName, if_neg (by omega), if_pos h2], Below.refl _ _⟩
    | false =>
      simp only [rs]
      refine c_ret (write_ret [47] l [] _ Pl.nmc (by kernel_rfl) each_nmc (fun c => Nat.le_trans (Pl.nmc_len c).2 (by omega)) rfl (by simp) (by omega) w) ?_
      rintro _ w' ⟨rfl, hb⟩
      exact hK _ _ ⟨by rw [Pl.pName, if_neg (by omega), if_neg (by simp at h2; simp [h2]), List.append_nil]; rfl, hb⟩
end Go.Proofs.YtiklhhdohckfiaaGreatDoor
/- Contracts: plain.Join of the program. -/
namespace Go.Proofs.YtiklhhdohckfiaaGreatDoor
set_option linter.unusedVariables false
set_option linter.unusedSimpArgs false
set_option linter.defProp false
open Eng Go.RowKit

def strV (p : List UInt8) : Value := .string ⟨p.toArray⟩
def strsV (ps : List (List UInt8)) : List Value := ps.map strV
theorem strsV_length (ps : List (List UInt8)) : (strsV ps).length = ps.length := by simp [strsV]
theorem strsV_get {ps : List (List UInt8)} {i : Nat} (h : i < ps.length) : (strsV ps)[i]? = some (.string ⟨ps[i].toArray⟩) := by simp [strsV, strV, h]

theorem pjoin_ret (ps : List (List UInt8)) (v : Value) (w : World) (hs : Sl w v 1 ps.length (strsV ps)) (hb : Pl.tot ps ≤ 1000000000000) :
    Ret Tryz.prog 46 #[v] w (fun r w' => r = .string ⟨(Pl.join ps).toArray⟩ ∧ Below w.heap.size w w') := by
  refine ret_of fun K hK => S_plain_Join_ok ?_
  unfold S_plain_Join
  refine o_new (fun b => .pointer (some ⟨b, 0, none⟩)) [.pointer none, .slice none 0 0] 75 (fun _ => by kernel_rfl) (Own.start w) fun b w1 ho => ?_
  rw [sl_len Tryz.underlying22 (ho.oldSl hs)]
  have hB0 : ∃ v0, Own w w1 [Bld b v0 []] := by
    have h1 := (ho.nilRow 5 1).swap
    exact ⟨_, OwnS.closeB (l := []) (.inl rfl) roomy_nil h1⟩
  obtain ⟨v0, ho0⟩ := hB0
  have hlen := Pl.length_tot ps
  refine loop (fun vs w' => ∃ (i : Nat) (bv : Value), vs = [.int .u8 (Pl.lastC (Pl.join (ps.take i))).toNat, .int .i64 i] ∧ i ≤ ps.length ∧ Own w w' [Bld b bv (Pl.join (ps.take i))])
    (fun vs _ => ps.length - n1 vs) ⟨0, v0, rfl, by omega, ho0⟩ ?_
  rintro vs w2 ⟨i, bv, rfl, hi, ho2⟩ _
  simp only [S_plain_Join_0, gd]
  rw [b_lss]
  by_cases hlt : (i : Int) < (ps.length : Int)
  · have hi2 : i < ps.length := by omega
    simp only [hlt, decide_true, i_t]
    have hgt := Pl.get_tot ps i hi2
    have hjl := Pl.join_len (ps.take i)
    generalize hacc : Pl.join (ps.take i) = acc at *
    have hnext : Pl.join (ps.take (i + 1)) = Pl.glue acc ps[i] := by rw [List.take_succ_eq_append_getElem hi2, Pl.join_snoc, hacc]
    refine join fun J2 hJ2 => ?_
    refine sl_ia1 (.string ⟨ps[i].toArray⟩) Tryz.underlying22 (by kernel_rfl) (ho2.oldSl hs) (by omega) (by rw [Int.toNat_natCast]; exact strsV_get hi2) fun p hp => ?_
    rw [l_cell (by kernel_rfl) hp]
    have fin : ∀ (bv' : Value) (w' : World), Own w w' [Bld b bv' (Pl.glue acc ps[i])] → J2 [.int .u8 (Pl.lastC (Pl.glue acc ps[i])).toNat] w' := by
      intro bv' w' h'
      refine hJ2 _ _ fun _ => ?_
      simp only [S_plain_Join_2, gd, rs]
      rw [wrap64_id (by omega) (by omega)]
      refine nextX ⟨i + 1, bv', by rw [hnext]; rfl, by omega, by rw [hnext]; exact h'⟩ (by simp [n1, intOf]; omega)
    change DoX Tryz.prog (mEq .eql _ _ _ _ (.string ⟨([] : List UInt8).toArray⟩)) _ _ _
    rw [e_str]
    by_cases hp0 : ps[i] = []
    · simp only [decide_eq_true hp0, rs]
      have := fin bv w2 (by rw [hp0]; exact ho2)
      rw [hp0] at this
      exact this
    · simp only [decide_eq_false hp0, rs]
      obtain ⟨c, t, hct⟩ : ∃ c t, ps[i] = c :: t := by
        cases h : ps[i] with
        | nil => exact absurd h hp0
        | cons c t => exact ⟨c, t, rfl⟩
      refine join fun J3 hJ3 => ?_
      have last : ∀ (acc' : List UInt8) (bv' : Value) (w' : World), Own w w' [Bld b bv' acc'] → acc'.length ≤ acc.length + 1 → acc' ++ ps[i] = Pl.glue acc ps[i] → J3 [] w' := by
        intro acc' bv' w' h' hl' he
        refine hJ3 _ _ fun _ => ?_
        simp only [S_plain_Join_1]
        refine c_turn 0 h' rfl (writeString_ret (h'.at_ 0 rfl) (by omega)) ?_
        rintro _ _ w3 ⟨_, v3, rfl⟩ ho3
        rw [s_len Tryz.underlying9, b_sub]
        have hpos : 0 < ps[i].length := List.length_pos_iff.2 hp0
        rw [wrap64_id (by omega) (by omega), s_ix (c := Pl.lastC ps[i]) Tryz.underlying9 (by omega) (by
          rw [show (((ps[i].length : Nat) : Int) - 1).toNat = ps[i].length - 1 by omega]
          exact Pl.last_get _ hp0)]
        rw [← Pl.lastC_glue acc _ hp0]
        refine fin v3 w3 ?_
        rw [← he]; exact ho3
      refine c_eq (regular_ret _ w2) ?_
      have put : ((Oc.regular (Pl.lastC acc) || decide (Pl.lastC acc = 47)) && Oc.regular c) = true → CallX Tryz.prog 52 #[.pointer (some ⟨b, 0, none⟩), (.int .u8 32)] w2 (pk K) fun t26 w => J3 [] w := by
        intro hc
        refine c_turn 0 ho2 rfl (writeByteN_ret (k := 32) (ho2.at_ 0 rfl) (by omega) rfl (by omega)) ?_
        rintro _ _ w3 ⟨rfl, v3, rfl⟩ ho3
        refine last _ v3 w3 ho3 (by simp) ?_
        rw [hct]
        simp only [Pl.glue]
        rw [if_pos hc]; rfl
      have skip : ((Oc.regular (Pl.lastC acc) || decide (Pl.lastC acc = 47)) && Oc.regular c) = false → J3 [] w2 := by
        intro hc
        refine last acc bv w2 ho2 (by omega) ?_
        rw [hct]
        simp only [Pl.glue]
        rw [if_neg (by simp [hc])]
      have hix : ∀ {PK K}, DoX Tryz.prog (mIx 9 (.string ⟨ps[i].toArray⟩) (.int .i64 0)) w2 PK K = K (.int .u8 c.toNat) w2 := fun {PK K} => s_ix (c := c) Tryz.underlying9 (by omega) (by rw [hct]; rfl)
      have e47 := u8d (Pl.lastC acc) 47 47 rfl
      have rest : (Oc.regular (Pl.lastC acc) || decide (Pl.lastC acc = 47)) = true → CallX Tryz.prog 96 #[.int .u8 c.toNat] w2 (pk K) fun t25 w =>
          IfX t25 (CallX Tryz.prog 52 #[.pointer (some ⟨b, 0, none⟩), (.int .u8 32)] w (pk K) fun t26 w => J3 [] w) (J3 [] w) := by
        intro hr
        refine c_eq (regular_ret c w2) ?_
        cases hc : Oc.regular c with
        | true => simp only [rs]; exact put (by simp [hr, hc])
        | false => simp only [rs]; exact skip (by simp [hc])
      cases hr : Oc.regular (Pl.lastC acc) with
      | true =>
        simp only [rs, g_un, hix]
        exact rest (by simp [hr])
      | false =>
        simp only [rs, e47]
        by_cases h47 : Pl.lastC acc = 47
        · simp only [decide_eq_true h47, rs, hix]
          exact rest (by simp [h47])
        · simp only [decide_eq_false h47, rs, g_un]
          exact skip (by simp [hr, h47])
  · have hi2 : i = ps.length := by omega
    subst hi2
    simp only [hlt, decide_false, i_f]
    rw [List.take_length] at ho2
    refine c_turn 0 ho2 rfl (bldString_ret (ho2.at_ 0 rfl)) ?_
    rintro _ _ w6 ⟨rfl, rfl⟩ ho6
    exact hK _ _ ⟨rfl, ho6.done⟩
end Go.Proofs.YtiklhhdohckfiaaGreatDoor
/- What the rows of the laws of layer 4 and later ask besides: laid tables; slices of strings that came in. -/
namespace Go.Proofs.YtiklhhdohckfiaaGreatDoor
set_option linter.unusedVariables false
set_option linter.unusedSimpArgs false
set_option linter.defProp false
open Eng Go.RowKit Go.ChangeShapes Go.WideShapes Go.ChangeAt
theorem laidMet_tail {P : Program} {x : String × DataW Unit} {l : List (String × DataW Unit)} {W : World} (h : laidMet P (x :: l) W) : laidMet P l W := by
  obtain ⟨ps, ⟨g, t, cs, fuel, p, q, _, _, _, _, hr, rfl⟩, hn, hc⟩ := h
  exact ⟨q, hr, (List.nodup_append.1 hn).2.1, fun b off hm => hc b off (by simp [hm])⟩
end Go.Proofs.YtiklhhdohckfiaaGreatDoor
/- Bounds of integers of a kind. -/
namespace Go.Proofs.YtiklhhdohckfiaaGreatDoor
set_option linter.unusedVariables false
set_option linter.unusedSimpArgs false
set_option linter.defProp false
open Eng Go.RowKit
end Go.Proofs.YtiklhhdohckfiaaGreatDoor
/- The engine's rules for variables of several cells (structs): loads, stores, results. -/
namespace Go.Proofs.YtiklhhdohckfiaaGreatDoor
set_option linter.unusedVariables false
set_option linter.unusedSimpArgs false
set_option linter.defProp false
set_option linter.unusedSimpArgs false
set_option linter.unusedVariables false
namespace Eng
open Go.RowKit

/-- A type of n cells whose values are aggregates. -/
def aggN (P : Program) (T : TypeId) : Option Nat :=
  match P.underlying T with
  | some (.struct _) | some (.array _ _) => (P.info? T).map (·.size)
  | _ => none
/-- The variable of type T at an address reads v. -/
def AtV (P : Program) (w : World) (T : TypeId) (a : Addr) (v : Value) : Prop := (loadVar T a).run P w = .ok v w

section
variable {S : Nat → Prop} {P : Program} {w : World} {PK : List PanicEntry → World → Prop} {K : Value → World → Prop}
theorem AtV.cell {T : TypeId} (ht : notAgg P T = true) {a : Addr} {v : Value} (h : w.cell? a = some v) : AtV P w T a v := run_loadVar_cell ht h
theorem AtV.agg {T : TypeId} {n : Nat} (ht : aggN P T = some n) {b off : Nat} {cs : List Value} (hl : cs.length = n) (h : ∀ j v, cs[j]? = some v → w.cell? ⟨b, off + j, none⟩ = some v) : AtV P w T ⟨b, off, none⟩ (.agg cs.toArray) := by
  have hc := run_loadCells_list (P := P) w ⟨b, off, none⟩ cs (fun j v hj => by rw [add_none]; exact h j v hj)
  unfold aggN at ht
  subst hl
  unfold AtV
  split at ht
  · rename_i fs hu
    obtain ⟨i, hi, h1⟩ := Option.map_eq_some_iff.1 ht
    simp [loadVar, isAgg, run_underlying hu, sizeOf, typeInfo, hi, h1, hc]
  · rename_i k e hu
    obtain ⟨i, hi, h1⟩ := Option.map_eq_some_iff.1 ht
    simp [loadVar, isAgg, run_underlying hu, sizeOf, typeInfo, hi, h1, hc]
  · cases ht
theorem run_load_at {T : TypeId} {a : Addr} {v : Value} (h : AtV P w T a v) : (mLoad T (.pointer (some a))).run P w = .ok (.value v) w := by
  unfold AtV at h
  exact mv_run (by simp [Instr.loadAt, Instr.sureAddr, h])
theorem l_at {T : TypeId} {a : Addr} {v : Value} (h : AtV P w T a v) : DoX P (mLoad T (.pointer (some a))) w PK K = K v w := do_eq (run_load_at h)
/-- A whole variable of the call's own: the i-th piece. -/
theorem OwnS.agg {w0 : World} {L : List Ent} (ho : OwnS S w0 w L) (i : Nat) {b : Nat} {cs : List Value} {E T : TypeId} (hi : L[i]? = some (.cells b cs E)) (ht : aggN P T = some cs.length) : AtV P w T ⟨b, 0, none⟩ (.agg cs.toArray) :=
  AtV.agg ht rfl fun j v hj => by rw [Nat.zero_add]; exact ho.cell i hi j hj
theorem run_store_agg {T : TypeId} {b : Nat} {cs new : List Value} {E : TypeId} (hs : (P.info? T).map (·.size) = some new.length) (hv : ∀ v ∈ new, v.oneCell' = true) (hl : cs.length = new.length) (h : w.heap[b]? = some (.cells cs.toArray E (0, 0))) :
    (Instr.storeAt T (.pointer (some ⟨b, 0, none⟩)) (.agg new.toArray)).run P w = .ok () (w.setRow b new.toArray) := by
  have hst := run_storeCells_at P b 0 E new 0 cs.toArray w h (by simp; omega) hv
  obtain ⟨i, hi, h1⟩ := Option.map_eq_some_iff.1 hs
  have hd : cs.toArray.toList.drop new.length = [] := List.drop_eq_nil_of_le (by rw [← hl]; exact Nat.le_refl _)
  simp only [Nat.add_zero, Nat.zero_add, List.take_zero, List.nil_append, hd, List.append_nil] at hst
  have hc : (Value.agg new.toArray).cells = new.toArray := rfl
  simp [Instr.storeAt, Instr.sureAddr, storeVar, hc, sizeOf, typeInfo, hi, h1, hst]
/-- A store of a whole variable of the call's own. -/
theorem o_put {w0 : World} {L : List Ent} (i : Nat) {T : TypeId} {b : Nat} {cs new : List Value} {E : TypeId} (ho : OwnS S w0 w L) (hi : L[i]? = some (.cells b cs E)) (hs : (P.info? T).map (·.size) = some new.length) (hv : ∀ v ∈ new, v.oneCell' = true) (hl : cs.length = new.length)
    (k : ∀ w', OwnS S w0 w' (L.set i (.cells b new E)) → K undef w') : DoX P (mStore T (.pointer (some ⟨b, 0, none⟩)) (.agg new.toArray)) w PK K :=
  do_skip (mu_run (run_store_agg hs hv hl (ho.at_ i hi))) (k _ (setRow_own ho i hi _))
theorem ret_same {f : Nat} {args : Array Value} {v : Value} {C : World → Prop} (h : Ret P f args w (fun v' w' => v' = v ∧ w = w')) (hb : C w) : Ret P f args w (fun v' w' => v' = v ∧ C w') :=
  h.mono fun v' w' r => ⟨r.1, r.2 ▸ hb⟩
/- RESULTS -/
theorem ret_v1 {r1 : RV} {v1 : Value} {K : Ending → World → Prop} (h1 : r1.read.run P w = .ok v1 w) (k : K (.returned v1) w) : RetX P [r1] w K :=
  ⟨_, by simp [resRun, h1], k⟩
theorem ret_v2 {r1 r2 : RV} {v1 v2 : Value} {K : Ending → World → Prop} (h1 : r1.read.run P w = .ok v1 w) (h2 : r2.read.run P w = .ok v2 w) (k : K (.returned (.tuple #[v1, v2])) w) : RetX P [r1, r2] w K :=
  ⟨_, by simp [resRun, h1, h2], k⟩
theorem rv_cell {T : TypeId} {a : Addr} {v : Value} (h : AtV P w T a v) : (RV.cell (.pointer (some a)) T).read.run P w = .ok v w := by
  unfold AtV at h
  simp [RV.read, asAddr, h]
theorem rv_val {v : Value} : (RV.val v).read.run P w = .ok v w := by simp [RV.read]
end
end Eng
end Go.Proofs.YtiklhhdohckfiaaGreatDoor
/- The engine's rules for ranges over functions. -/
namespace Go.Proofs.YtiklhhdohckfiaaGreatDoor
set_option linter.unusedVariables false
set_option linter.unusedSimpArgs false
set_option linter.defProp false
set_option linter.unusedSimpArgs false
set_option linter.unusedVariables false
namespace Eng
open Go.RowKit

section
variable {S : Nat → Prop} {P : Program} {w w0 : World} {L : List Ent} {PK : List PanicEntry → World → Prop} {K : Value → World → Prop}
theorem OwnS.join {w' : World} {L' : List Ent} (h : OwnS S w0 w L) (k : OwnS NoB w w' L') : OwnS S w0 w' (L' ++ L) := by
  have h' := h.grow k.below
  refine ⟨h'.grew, fun e he => ?_, List.pairwise_append.2 ⟨k.apart, h'.apart, fun e he f hf b hb hb' => ?_⟩⟩
  · rcases List.mem_append.1 he with he | he
    · obtain ⟨a, b⟩ := k.all e he
      refine ⟨a, fun j hj => .inr ?_⟩
      rcases b j hj with h1 | h1
      · exact h1.elim
      · exact Nat.le_trans h.size h1
    · exact h'.all e he
  · have h2 := f.lt (h.mem hf) b hb'
    rcases (k.all e he).2 b hb with h1 | h1
    · exact h1
    · omega
theorem o_beg {l : Nat} {L0 : Loop} {K : World → Prop} (i : Nat) (ho : OwnS S w0 w L) (hi : L[i]? = some (.obj l (lp L0 .ready none))) (k : ∀ w', OwnS S w0 w' (L.set i (.obj l (lp L0 .busy none))) → K w') : BegX P l w K :=
  ⟨_, run_beginRound (ho.at_ i hi), k _ (put_iter ho i hi)⟩
theorem o_end {l : Nat} {L0 : Loop} {j : Option Code} {R : Value → World → Prop} (i : Nat) (ho : OwnS S w0 w L) (hi : L[i]? = some (.obj l (lp L0 .busy none))) (k : ∀ w', OwnS S w0 w' (L.set i (.obj l (lp L0 (if j.isNone then .ready else .done) j))) → R (.bool j.isNone) w') : EndX P l j w R :=
  ⟨_, _, run_endRound (ho.at_ i hi), k _ (put_iter ho i hi)⟩
theorem c_yld {l : Nat} {args : List Value} {R : Value → World → Prop} (h : Yld P l args w R) (k : ∀ v w', R v w' → K v w') : DoX P (mCallV (.func (.yield l) #[] #[]) args.toArray) w PK K := by
  obtain ⟨fn, tmps, asn, bdy, h1, h2⟩ := h
  have hr : (mCallV (.func (.yield l) #[] #[]) args.toArray).run P w = .ok (.round l fn tmps asn bdy) w := by
    rw [← h1]
    simp [mCallV, invoke, Deferred.ofValue, resolve]
  refine ⟨?_⟩
  rw [hr]
  refine ⟨RoundIn.mono h2 ?_⟩
  rintro e w' ⟨v, rfl, hv⟩
  exact k v w' hv
theorem range {js : List (Option Code × (Nat → World → Prop))} {B : Nat → List Value → World → (Value → World → Prop) → Prop} {np f : Nat} {fa ca : Array Value} (ho : OwnS S w0 w L) (hp : plainB P f = true)
    (h : ∀ (L0 : Loop) (df lb : Nat) (w1 : World), OwnS S w0 w1 (.obj lb (lp L0 .ready none) :: .obj df (.deferred (some [])) :: L) →
      (∀ args W R, W.heap[lb]? = some (lp L0 .ready none) → args.length = np → B lb args W R → Yld P lb args W R) →
      Calls P f (fa ++ #[.func (.yield lb) #[] #[]] ++ ca) w1 fun e w3 => ∃ v st pd k, e = .returned v ∧ st ≠ .busy ∧ w3.heap[lb]? = some (lp L0 st pd) ∧ (pd, k) ∈ js ∧ k df (putO w3 lb (lp L0 .exhausted pd))) :
    RangeX P none np (.func (.func f) fa ca) w B js := by
  refine ⟨f, fa, ca, w.heap.size, w.alloc (.deferred (some [])), rfl, hp, ⟨rfl, rfl⟩, fun L0 _ hy => ?_⟩
  exact h L0 w.heap.size (w.alloc (.deferred (some []))).heap.size _ ((ho.allocObj _).allocObj _) (fun args W R h1 h2 h3 => hy _ args W R h1 h2 h3)
/-- The mark of a loop is taken; then the results are read. -/
theorem leave1 {rs : List RV} {K : Ending → World → Prop} {df : Nat} (i : Nat) (ho : OwnS S w0 w L) (hi : L[i]? = some (.obj df (.deferred (some [])))) (k : ∀ w', OwnS S w0 w' (L.set i (.obj df (.deferred none))) → RetD P rs w' K) : LeaveM P rs K [mkD df] .returning w := by
  refine ⟨(fun h => by cases h), df, _, rfl, ?_, k _ (put_iter ho i hi)⟩
  have h : w.heap[df]? = some (.deferred (some [])) := ho.at_ i hi
  simp [Instr.takeDeferred, getObj, setObj, Sem.run, h]
end
end Eng
end Go.Proofs.YtiklhhdohckfiaaGreatDoor
/- The engine's rule for comparing structs of integers and strings. -/
namespace Go.Proofs.YtiklhhdohckfiaaGreatDoor
set_option linter.unusedVariables false
set_option linter.unusedSimpArgs false
set_option linter.defProp false
set_option linter.unusedSimpArgs false
set_option linter.unusedVariables false
namespace Eng
open Go.RowKit

section
variable {P : Program} {w : World} {PK : List PanicEntry → World → Prop} {K : Value → World → Prop}
end
end Eng
end Go.Proofs.YtiklhhdohckfiaaGreatDoor
/- The engine's rules for drawn regions that are quiet: guards, comparisons, choices. -/
namespace Go.Proofs.YtiklhhdohckfiaaGreatDoor
set_option linter.unusedVariables false
set_option linter.unusedSimpArgs false
set_option linter.defProp false
set_option linter.unusedSimpArgs false
set_option linter.unusedVariables false
namespace Eng
open Go.RowKit
section
variable {P : Program} {C : World → Prop} {K : Value → Prop}
theorem q_gtr {T : TypeId} {k : IntKind} {a b : Int} (h : K (.bool (decide (b < a)))) : QDo P C (mBin .gtr T (.int k a) (.int k b)) K := q_do _ (fun _ => mv_run (by simp [binOp, Op.intCmp])) h
theorem q_slen {T U : TypeId} {cs : Array Bool} {a : List UInt8} (ht : P.underlying T = some .string) (h : K (.int .i64 (a.length : Int))) : QDo P C (mB .len #[T] U cs #[.string ⟨a.toArray⟩]) K := q_do _ (fun _ => run_len ht) h
end
end Eng
end Go.Proofs.YtiklhhdohckfiaaGreatDoor
/- The engine's rules for iterators: what hands values, one by one, to the body of a loop. -/
namespace Go.Proofs.YtiklhhdohckfiaaGreatDoor
set_option linter.unusedVariables false
set_option linter.unusedSimpArgs false
set_option linter.defProp false
set_option linter.unusedSimpArgs false
set_option linter.unusedVariables false
namespace Eng
open Go.RowKit
theorem OwnS.perm {S : Nat → Prop} {w0 w : World} {L L' : List Ent} (h : OwnS S w0 w L) (hp : L.Perm L') : OwnS S w0 w L' :=
  ⟨h.grew, fun e he => h.all e (hp.mem_iff.2 he), (hp.pairwise_iff (fun {x y} hxy k hy hx => hxy k hx hy)).1 h.apart⟩
/-- The two objects of a running loop. -/
def loopE (L0 : Loop) (lb df : Nat) : List Ent := [.obj lb (lp L0 .ready none), .obj df (.deferred (some []))]
/-- The function f hands the values vs to the body of a loop, one by one. F: the pieces of memory that it holds at the start. I: what it asks of the world. -/
def Seq (P : Program) (I : World → Prop) (f : Nat) (fa ca : Array Value) (F : List Ent) (vs : List Value) : Prop :=
  ∀ (S : Nat → Prop) (w0 w1 : World) (L0 : Loop) (lb df : Nat) (M0 : List Ent) (R : Nat → List Ent → Prop) (K : Ending → World → Prop),
    (∀ (L : List Ent) (W : World), OwnS S w0 W L → I W) → OwnS S w0 w1 (loopE L0 lb df ++ (M0 ++ F)) → R 0 M0 →
    (∀ (k : Nat) (v : Value) (M X : List Ent) (W : World), vs[k]? = some v → R k M → OwnS S w0 W (loopE L0 lb df ++ (M ++ X)) →
      Yld P lb [v] W (fun r W' => (r = .bool true ∧ ∃ M', R (k + 1) M' ∧ OwnS S w0 W' (loopE L0 lb df ++ (M' ++ X))) ∨ (r = .bool false ∧ K (.returned (.tuple #[])) W'))) →
    (∀ (M X : List Ent) (W : World), R vs.length M → OwnS S w0 W (loopE L0 lb df ++ (M ++ X)) → K (.returned (.tuple #[])) W) →
    Calls P f (fa ++ #[.func (.yield lb) #[] #[]] ++ ca) w1 K
end Eng
end Go.Proofs.YtiklhhdohckfiaaGreatDoor
/- Objects in memory: what a value of the type api.Object says. -/
namespace Go.Proofs.YtiklhhdohckfiaaGreatDoor
set_option linter.unusedVariables false
set_option linter.unusedSimpArgs false
set_option linter.defProp false
open Eng Go.RowKit Go.ChangeShapes Go.WideShapes

inductive Ob where
  | mk (k n g : Int) (s : List UInt8) (keys : List (List UInt8)) (kids : List Ob)
namespace Ob
def k : Ob → Int | .mk k _ _ _ _ _ => k
def n : Ob → Int | .mk _ n _ _ _ _ => n
def g : Ob → Int | .mk _ _ g _ _ _ => g
def s : Ob → List UInt8 | .mk _ _ _ s _ _ => s
def keys : Ob → List (List UInt8) | .mk _ _ _ _ keys _ => keys
def kids : Ob → List Ob | .mk _ _ _ _ _ kids => kids
 mutual
/-- How much an object holds. -/
def wt : Ob → Nat
  | .mk _ _ _ s keys kids => 6 + s.length + Pl.tot keys + wts kids
def wts : List Ob → Nat
  | [] => 0
  | o :: os => wt o + wts os
end
end Ob
/-- A slice whose memory lies in blocks of A. -/
def SlA (A : Nat → Prop) (w : World) (v : Value) (sz n : Nat) (cs : List Value) : Prop := Sl w v sz n cs ∧ ∀ p l c, v = .slice (some p) l c → 0 < n → A p.block
 mutual
/-- The value v is the object o, its memory in blocks of A. -/
def OV (A : Nat → Prop) (w : World) : Value → Ob → Prop
  | v, .mk k n g s keys kids => ∃ vk vc cs, v = .agg #[.int .i64 k, .int .i64 n, .int .i64 g, .string ⟨s.toArray⟩, vk, vc] ∧ SlA A w vk 1 keys.length (strsV keys) ∧ SlA A w vc 6 kids.length cs ∧ OVs A w cs kids
def OVs (A : Nat → Prop) (w : World) : List Value → List Ob → Prop
  | cs, [] => cs = []
  | cs, o :: os => ∃ (a rest : List Value), cs = a ++ rest ∧ a.length = 6 ∧ OV A w (.agg a.toArray) o ∧ OVs A w rest os
end
/-- Blocks of A are as they were. -/
def Kept (A : Nat → Prop) (w w' : World) : Prop := ∀ b, A b → w'.heap[b]? = w.heap[b]?
theorem cell_kept {A : Nat → Prop} {w w' : World} (h : Kept A w w') {p : Addr} {v : Value} (hp : A p.block) (hc : w.cell? p = some v) : w'.cell? p = some v := by
  have := h p.block hp
  unfold World.cell? at hc ⊢
  rw [this]; exact hc
theorem SlA.kept {A : Nat → Prop} {w w' : World} {v : Value} {sz n : Nat} {cs : List Value} (h : SlA A w v sz n cs) (hk : Kept A w w') : SlA A w' v sz n cs := by
  obtain ⟨⟨hl, a, cap, rfl, h1, h2⟩, hA⟩ := h
  refine ⟨⟨hl, a, cap, rfl, h1, fun p hp => ?_⟩, hA⟩
  obtain ⟨h3, h4⟩ := h2 p hp
  refine ⟨h3, fun j u hj => ?_⟩
  have hn : 0 < n := by
    rcases Nat.eq_zero_or_pos n with h | h
    · subst h; rw [Nat.zero_mul] at hl
      have := (List.getElem?_eq_some_iff.1 hj).1
      omega
    · exact h
  exact cell_kept hk (hA p n cap (by rw [hp]) hn) (h4 j u hj)
 mutual
theorem OV.kept {A : Nat → Prop} {w w' : World} (hk : Kept A w w') : ∀ (o : Ob) (v : Value), OV A w v o → OV A w' v o
  | .mk k n g s keys kids, v, h => by
    rw [OV] at h ⊢
    obtain ⟨vk, vc, cs, hv, h1, h2, h3⟩ := h
    exact ⟨vk, vc, cs, hv, h1.kept hk, h2.kept hk, OVs.kept hk kids cs h3⟩
theorem OVs.kept {A : Nat → Prop} {w w' : World} (hk : Kept A w w') : ∀ (os : List Ob) (cs : List Value), OVs A w cs os → OVs A w' cs os
  | [], cs, h => by rw [OVs] at h ⊢; exact h
  | o :: os, cs, h => by
    rw [OVs] at h ⊢
    obtain ⟨a, rest, he, hl, h1, h2⟩ := h
    exact ⟨a, rest, he, hl, OV.kept hk o _ h1, OVs.kept hk os rest h2⟩
end
 mutual
theorem OV.mono {A B : Nat → Prop} {w : World} (hAB : ∀ b, A b → B b) : ∀ (o : Ob) (v : Value), OV A w v o → OV B w v o
  | .mk k n g s keys kids, v, h => by
    rw [OV] at h ⊢
    obtain ⟨vk, vc, cs, hv, h1, h2, h3⟩ := h
    exact ⟨vk, vc, cs, hv, ⟨h1.1, fun p l c e hn => hAB _ (h1.2 p l c e hn)⟩, ⟨h2.1, fun p l c e hn => hAB _ (h2.2 p l c e hn)⟩, OVs.mono hAB kids cs h3⟩
theorem OVs.mono {A B : Nat → Prop} {w : World} (hAB : ∀ b, A b → B b) : ∀ (os : List Ob) (cs : List Value), OVs A w cs os → OVs B w cs os
  | [], cs, h => by rw [OVs] at h ⊢; exact h
  | o :: os, cs, h => by
    rw [OVs] at h ⊢
    obtain ⟨a, rest, he, hl, h1, h2⟩ := h
    exact ⟨a, rest, he, hl, OV.mono hAB o _ h1, OVs.mono hAB os rest h2⟩
end
theorem OVs.len {A : Nat → Prop} {w : World} : ∀ (os : List Ob) (cs : List Value), OVs A w cs os → cs.length = os.length * 6
  | [], cs, h => by rw [OVs] at h; subst h; rfl
  | o :: os, cs, h => by
    rw [OVs] at h
    obtain ⟨a, rest, rfl, hl, _, h2⟩ := h
    rw [List.length_append, hl, OVs.len os rest h2, List.length_cons]; omega
/-- The i-th object of a row of objects. -/
theorem OVs.get {A : Nat → Prop} {w : World} : ∀ (os : List Ob) (cs : List Value) (i : Nat) (hi : i < os.length), OVs A w cs os → ∃ a : List Value, a.length = 6 ∧ OV A w (.agg a.toArray) os[i] ∧ ∀ j v, a[j]? = some v → cs[i * 6 + j]? = some v
  | [], cs, i, hi, h => by simp at hi
  | o :: os, cs, 0, hi, h => by
    rw [OVs] at h
    obtain ⟨a, rest, rfl, hl, h1, h2⟩ := h
    refine ⟨a, hl, h1, fun j v hj => ?_⟩
    rw [Nat.zero_mul, Nat.zero_add, List.getElem?_append_left (List.getElem?_eq_some_iff.1 hj).1]; exact hj
  | o :: os, cs, i + 1, hi, h => by
    rw [OVs] at h
    obtain ⟨a, rest, rfl, hl, h1, h2⟩ := h
    obtain ⟨b, hb, hv, hc⟩ := OVs.get os rest i (by simpa using hi) h2
    refine ⟨b, hb, hv, fun j v hj => ?_⟩
    rw [List.getElem?_append_right (by omega), hl, show (i + 1) * 6 + j - 6 = i * 6 + j by omega]
    exact hc j v hj
theorem OVs.nil {A : Nat → Prop} {w : World} : OVs A w [] [] := by rw [OVs]
/- OPENING -/
theorem SlA.of_cells {A : Nat → Prop} {W : World} {a : Addr} {len cap sz : Nat} {cs : List Value} (hsz : 0 < sz) (hl : cs.length = len * sz) (hc : ∀ j u, cs[j]? = some u → W.cell? (a.add j) = some u) (hA : ∀ b, b < W.heap.size → A b) : SlA A W (.slice (some a) len cap) sz len cs := by
  have plain : 0 < len → a.spot = none ∧ a.block < W.heap.size := by
    intro hn
    have h0 : 0 < cs.length := by rw [hl]; exact Nat.mul_pos hn hsz
    have h1 := hc 0 cs[0] (List.getElem?_eq_getElem h0)
    have e0 : a.add 0 = a := by simp [Addr.add]
    rw [e0] at h1
    unfold World.cell? at h1
    split at h1
    · rename_i hb
      have hlt := lt_of_get hb
      split at h1
      · cases h1
      · rename_i hh; exact ⟨by simpa using hh, hlt⟩
    · cases h1
  refine ⟨⟨hl, some a, cap, rfl, (fun h => by cases h), fun p hp => ?_⟩, fun p l c e hn => ?_⟩
  · cases hp
    refine ⟨fun h => (plain h).1, fun j u hj => ?_⟩
    have hn : 0 < len := by
      rcases Nat.eq_zero_or_pos len with h | h
      · subst h; rw [Nat.zero_mul] at hl
        have := (List.getElem?_eq_some_iff.1 hj).1
        omega
      · exact h
    have h1 := hc j u hj
    obtain ⟨b, off, spot⟩ := a
    have := (plain hn).1
    simp only at this
    subst this
    rw [show (⟨b, off, none⟩ : Addr).add j = ⟨b, off + j, none⟩ from add_none b off j] at h1
    exact h1
  · injection e with e _ _
    cases e
    exact hA _ (plain hn).2
theorem SlA.nil (A : Nat → Prop) (w : World) (sz cap : Nat) : SlA A w (.slice none 0 cap) sz 0 [] := ⟨Sl.nil w sz cap, fun p l c e _ => by injection e with e _ _; cases e⟩
end Go.Proofs.YtiklhhdohckfiaaGreatDoor
/- An object that came in, opened. -/
namespace Go.Proofs.YtiklhhdohckfiaaGreatDoor
set_option linter.unusedVariables false
set_option linter.unusedSimpArgs false
set_option linter.defProp false
open Eng Go.RowKit Go.ChangeShapes Go.WideShapes

theorem bulkAll_append {H : Type} : ∀ (a b : List (DataW H)), Rows.uptoBulkAll (a ++ b) = Rows.uptoBulkAll a + Rows.uptoBulkAll b
  | [], b => by simp [Rows.uptoBulkAll]
  | x :: a, b => by rw [List.cons_append, Rows.uptoBulkAll, bulkAll_append a b, Rows.uptoBulkAll]; omega
theorem bulk_strs {H : Type} : ∀ ss : List ByteArray, Rows.uptoBulkAll (strs (H := H) ss) = Pl.tot (ss.map (·.data.toList))
  | [] => by simp [strs, Rows.uptoBulkAll, Pl.tot]
  | s :: ss => by
    have := bulk_strs (H := H) ss
    rw [show strs (H := H) (s :: ss) = .lit (.string s.data.toList) :: strs ss from rfl, Rows.uptoBulkAll, this, Rows.uptoBulk]
    simp [Pl.tot]
theorem OVs.snoc {A : Nat → Prop} {w : World} {a : List Value} {o : Ob} (hl : a.length = 6) (ho : OV A w (.agg a.toArray) o) : ∀ (os : List Ob) (cs : List Value), OVs A w cs os → OVs A w (cs ++ a) (os ++ [o])
  | [], cs, h => by
    rw [OVs] at h
    subst h
    rw [List.nil_append, List.nil_append, OVs]
    exact ⟨a, [], by simp, hl, ho, OVs.nil⟩
  | p :: os, cs, h => by
    rw [OVs] at h
    obtain ⟨b, rest, rfl, hb, h1, h2⟩ := h
    rw [List.cons_append, OVs]
    exact ⟨b, rest ++ a, by simp, hb, h1, OVs.snoc hl ho os rest h2⟩
theorem wts_snoc (o : Ob) : ∀ os : List Ob, Ob.wts (os ++ [o]) = Ob.wts os + o.wt
  | [] => by simp [Ob.wts]
  | p :: os => by rw [List.cons_append, Ob.wts, wts_snoc o os, Ob.wts]; omega
theorem addr_add (a : Addr) (m n : Nat) : (a.add m).add n = a.add (m + n) := by
  unfold Addr.add
  by_cases hm : m = 0
  · subst hm; simp
  · by_cases hn : n = 0
    · subst hn; simp [hm]
    · have : ¬ (m + n = 0) := by omega
      simp [hm, hn, Nat.add_assoc]
theorem list6 {α : Type} : ∀ {l : List α}, l.length = 6 → ∃ a b c d e f, l = [a, b, c, d, e, f]
  | [a, b, c, d, e, f], _ => ⟨a, b, c, d, e, f, rfl⟩
section
variable {H : Type} {enc : TypeId × Value → H} {W : World} {sp : Nat → Bool} {held : Bool}
abbrev InW (W : World) : Nat → Prop := fun b => b < W.heap.size
theorem open_keys {fuel : Nat} {cs : List Value} {x : DataW H × List MemPlace} (h : DataW.trod enc Tryz.prog W 0 sp held fuel 22 cs = some x) :
    ∃ (v : Value) (zs : List (List UInt8)), cs = [v] ∧ SlA (InW W) W v 1 zs.length (strsV zs) ∧ Pl.tot zs + 1 ≤ Rows.uptoBulk x.1 := by
  rcases open_strings Tryz.underlying22 Tryz.underlying9 (by kernel_rfl) h with ⟨rfl, rfl⟩ | ⟨a, len, cap, ss, rfl, _, hl, hm, hz, rfl, hcell, hsz⟩
  · exact ⟨_, [], rfl, SlA.nil _ _ _ _, by simp [Pl.tot, Rows.uptoBulk]⟩
  · have hlz : len ≤ ss.length := by rw [hz]; split <;> omega
    refine ⟨_, (ss.take len).map (·.data.toList), rfl, ?_, ?_⟩
    · have hlen : ((ss.take len).map (·.data.toList)).length = len := by simp; omega
      rw [hlen]
      refine SlA.of_cells (by omega) (by simp [strsV]; omega) (fun j u hj => ?_) (fun b hb => hb)
      have hjl : j < len := by
        have := (List.getElem?_eq_some_iff.1 hj).1
        simp [strsV] at this; omega
      rw [hcell j (by omega), ← hj]
      simp [strsV, strV, List.getElem?_take, hjl, List.getD, List.getElem?_eq_getElem (show j < ss.length by omega)]
    · simp only [Rows.uptoBulk]
      rw [bulk_strs]; omega
set_option maxRecDepth 100000 in
theorem open_obj : ∀ (fuel : Nat) (cs : List Value) (x : DataW H × List MemPlace), DataW.trod enc Tryz.prog W 0 sp held fuel 25 cs = some x →
    ∃ o : Ob, OV (InW W) W (.agg cs.toArray) o ∧ o.wt ≤ Rows.uptoBulk x.1 ∧ cs.length = 6 := by
  intro fuel
  induction fuel using Nat.strongRecOn with
  | _ fuel ih =>
    intro cs x h
    obtain ⟨xs, n, rfl, rfl, hl, hxl, hf⟩ := DataW.trod_struct Tryz.underlying25 h
    have c6 : Tryz.prog.cellsOf 25 = 6 := by kernel_rfl
    rw [c6] at hl
    have hxl : xs.length = 6 := hxl
    obtain ⟨x0, x1, x2, x3, x4, x5, rfl⟩ := list6 hxl
    obtain ⟨v0, v1, v2, v3, v4, v5, rfl⟩ := list6 hl
    have e0 := hf 0 _ rfl
    have e1 := hf 1 _ rfl
    have e2 := hf 2 _ rfl
    have e3 := hf 3 _ rfl
    have e4 := hf 4 _ rfl
    have e5 := hf 5 _ rfl
    have k0 : Tryz.prog.cellsOf 3 = 1 := by kernel_rfl
    have k1 : Tryz.prog.cellsOf 2 = 1 := by kernel_rfl
    have k3 : Tryz.prog.cellsOf 9 = 1 := by kernel_rfl
    have k4 : Tryz.prog.cellsOf 22 = 1 := by kernel_rfl
    have k5 : Tryz.prog.cellsOf 23 = 1 := by kernel_rfl
    simp only [k0, k1, k3, k4, k5, List.drop_zero, List.drop_succ_cons, List.take_succ_cons, List.take_zero, List.getElem?_cons_zero, List.getElem?_cons_succ] at e0 e1 e2 e3 e4 e5
    obtain ⟨k, hk, rfl, _⟩ := DataW.trod_int Tryz.underlying3 e0
    obtain ⟨m, hm, rfl, _⟩ := DataW.trod_int Tryz.underlying2 e1
    obtain ⟨g, hg, rfl, _⟩ := DataW.trod_int Tryz.underlying3 e2
    obtain ⟨s, hs, rfl, _⟩ := DataW.trod_string Tryz.underlying9 e3
    obtain ⟨vk, zs, hvk, hsk, hbk⟩ := open_keys e4
    injection hk with hk _
    injection hm with hm _
    injection hg with hg _
    injection hs with hs _
    injection hvk with hvk _
    subst hk; subst hm; subst hg; subst hs; subst hvk
    have kids : ∃ (cs : List Value) (os : List Ob), SlA (InW W) W v5 6 os.length cs ∧ OVs (InW W) W cs os ∧ Ob.wts os + 1 ≤ Rows.uptoBulk x5.1 := by
      rcases DataW.trod_slice Tryz.underlying23 e5 with ⟨hc, rfl⟩ | ⟨a, len, cap, elems, rest, n', rfl, hc, rfl, _, hlc, hcm, hel, hat, _, _⟩
      · injection hc with hc _
        subst hc
        exact ⟨[], [], SlA.nil _ _ _ _, OVs.nil, by simp [Ob.wts, Rows.uptoBulk]⟩
      · injection hc with hc _
        subst hc
        rw [c6] at hat
        have step : ∀ k, k ≤ len → ∃ (cs : List Value) (os : List Ob), os.length = k ∧ OVs (InW W) W cs os ∧ (∀ j u, cs[j]? = some u → W.cell? (a.add j) = some u) ∧ Ob.wts os ≤ Rows.uptoBulkAll ((elems.take k).map (·.1)) := by
          intro k
          induction k with
          | zero => intro _; exact ⟨[], [], rfl, OVs.nil, (fun j u hj => by simp at hj), by simp [Ob.wts, Rows.uptoBulkAll]⟩
          | succ k ihk =>
            intro hk
            obtain ⟨cs, os, h1, h2, h3, h4⟩ := ihk (by omega)
            have hki : k < elems.length := by omega
            have hb := hat k (by omega)
            rw [List.getElem?_eq_getElem hki, Option.bind_eq_some_iff] at hb
            obtain ⟨ck, hck, htr⟩ := hb
            obtain ⟨o, ho, hw, hlo⟩ := ih n' (by omega) ck _ htr
            have hcsl := OVs.len os cs h2
            refine ⟨cs ++ ck, os ++ [o], by simp [h1], OVs.snoc hlo ho os cs h2, fun j u hj => ?_, ?_⟩
            · rcases Nat.lt_or_ge j cs.length with hj1 | hj1
              · rw [List.getElem?_append_left hj1] at hj; exact h3 j u hj
              · rw [List.getElem?_append_right hj1] at hj
                have hj6 : j - cs.length < 6 := by
                  have := (List.getElem?_eq_some_iff.1 hj).1
                  omega
                have := (World.cells?_some hck).2.2 (j - cs.length) hj6
                rw [← hj, ← this, addr_add, show k * 6 + (j - cs.length) = j by omega]
            · rw [wts_snoc, List.take_succ_eq_append_getElem hki, List.map_append, bulkAll_append]
              simp only [List.map_cons, List.map_nil, Rows.uptoBulkAll]
              omega
        obtain ⟨cs, os, h1, h2, h3, h4⟩ := step len (Nat.le_refl _)
        have hcsl := OVs.len os cs h2
        refine ⟨cs, os, ?_, h2, ?_⟩
        · rw [h1]
          exact SlA.of_cells (by omega) (by rw [hcsl, h1]) h3 (fun b hb => hb)
        · rw [← hel, List.take_length] at h4
          simp only [Rows.uptoBulk]
          omega
    obtain ⟨cs, os, hsl, hov, hbo⟩ := kids
    refine ⟨.mk k m g s.data.toList zs os, ?_, ?_, rfl⟩
    · rw [OV]
      exact ⟨_, _, cs, rfl, hsk, hsl, hov⟩
    · simp only [Ob.wt, Rows.uptoBulk, List.map_cons, List.map_nil, Rows.uptoBulkAll]
      omega
end
end Go.Proofs.YtiklhhdohckfiaaGreatDoor
/- Slices of anything that came in, opened, given how one element is opened. -/
namespace Go.Proofs.YtiklhhdohckfiaaGreatDoor
set_option linter.unusedVariables false
set_option linter.unusedSimpArgs false
set_option linter.defProp false
open Eng Go.RowKit Go.ChangeShapes Go.WideShapes

/-- The cells of a row of things. -/
inductive Rws {α : Type} (R : List Value → α → Prop) : List Value → List α → Prop
  | nil : Rws R [] []
  | cons {a rest : List Value} {x : α} {xs : List α} : R a x → Rws R rest xs → Rws R (a ++ rest) (x :: xs)
section
variable {α : Type} {R R' : List Value → α → Prop}
theorem Rws.snoc {a : List Value} {x : α} (hx : R a x) : ∀ {cs : List Value} {xs : List α}, Rws R cs xs → Rws R (cs ++ a) (xs ++ [x])
  | _, _, .nil => by
    have := Rws.cons hx (Rws.nil (R := R))
    simpa using this
  | _, _, .cons h t => by
    rw [List.append_assoc, List.cons_append]
    exact .cons h (Rws.snoc hx t)
theorem Rws.len {n : Nat} (hn : ∀ a x, R a x → a.length = n) : ∀ {cs : List Value} {xs : List α}, Rws R cs xs → cs.length = xs.length * n
  | _, _, .nil => by simp
  | _, _, .cons h t => by
    rw [List.length_append, hn _ _ h, Rws.len hn t, List.length_cons, Nat.add_mul]; omega
theorem Rws.mono (h : ∀ a x, R a x → R' a x) : ∀ {cs : List Value} {xs : List α}, Rws R cs xs → Rws R' cs xs
  | _, _, .nil => .nil
  | _, _, .cons hx t => .cons (h _ _ hx) (Rws.mono h t)
theorem Rws.all {p : α → Prop} (h : ∀ a x, R a x → p x) : ∀ {cs : List Value} {xs : List α}, Rws R cs xs → ∀ x ∈ xs, p x
  | _, _, .nil => by simp
  | _, _, .cons hx t => by
    intro y hy
    rcases List.mem_cons.1 hy with rfl | hy
    · exact h _ _ hx
    · exact Rws.all h t y hy
theorem Rws.get {n : Nat} (hn : ∀ a x, R a x → a.length = n) : ∀ {cs : List Value} {xs : List α} (i : Nat) (hi : i < xs.length), Rws R cs xs → ∃ a, R a xs[i] ∧ ∀ j v, a[j]? = some v → cs[i * n + j]? = some v
  | _, _, i, hi, .nil => by simp at hi
  | _, _, 0, _, .cons (a := a) (rest := rest) hx t => ⟨a, hx, fun j v hj => by
    rw [Nat.zero_mul, Nat.zero_add, List.getElem?_append_left (List.getElem?_eq_some_iff.1 hj).1]; exact hj⟩
  | _, _, i + 1, hi, .cons (a := a) (rest := rest) hx t => by
    obtain ⟨b, hb, hc⟩ := Rws.get hn i (by simpa using hi) t
    have hl := hn _ _ hx
    refine ⟨b, hb, fun j v hj => ?_⟩
    have e : (i + 1) * n + j = a.length + (i * n + j) := by rw [hl, Nat.add_mul]; omega
    rw [e, List.getElem?_append_right (by omega), show a.length + (i * n + j) - a.length = i * n + j by omega]
    exact hc j v hj
end
section
variable {H : Type} {enc : TypeId × Value → H} {W : World} {sp : Nat → Bool} {held : Bool}
theorem open_slice_of {E T : TypeId} {n : Nat} {α : Type} {R : List Value → α → Prop} {wt : α → Nat} (ht : Tryz.prog.underlying T = some (.slice E)) (hc : Tryz.prog.cellsOf E = n) (hn : 0 < n)
    (hel : ∀ fuel cs x, DataW.trod enc Tryz.prog W 0 sp held fuel E cs = some x → ∃ a, R cs a ∧ cs.length = n ∧ wt a ≤ Rows.uptoBulk x.1)
    {fuel : Nat} {cs : List Value} {x : DataW H × List MemPlace} (h : DataW.trod enc Tryz.prog W 0 sp held fuel T cs = some x) :
    ∃ (v : Value) (ds : List Value) (xs : List α), cs = [v] ∧ SlA (InW W) W v n xs.length ds ∧ Rws R ds xs ∧ xs.length ≤ 9223372036854775807 ∧ (xs.map wt).sum + 1 ≤ Rows.uptoBulk x.1 := by
  rcases DataW.trod_slice ht h with ⟨rfl, rfl⟩ | ⟨a, len, cap, elems, rest, n', rfl, rfl, rfl, _, hlc, hcm, hel2, hat, _, _⟩
  · exact ⟨_, [], [], rfl, SlA.nil _ _ _ _, .nil, by simp, by simp [Rows.uptoBulk]⟩
  · rw [hc] at hat
    have step : ∀ k, k ≤ len → ∃ (cs : List Value) (os : List α), os.length = k ∧ cs.length = k * n ∧ Rws R cs os ∧ (∀ j u, cs[j]? = some u → W.cell? (a.add j) = some u) ∧ (os.map wt).sum ≤ Rows.uptoBulkAll ((elems.take k).map (·.1)) := by
      intro k
      induction k with
      | zero => intro _; exact ⟨[], [], rfl, by simp, .nil, (fun j u hj => by simp at hj), by simp [Rows.uptoBulkAll]⟩
      | succ k ihk =>
        intro hk
        obtain ⟨cs, os, h1, hcl, h2, h3, h4⟩ := ihk (by omega)
        have hki : k < elems.length := by omega
        have hb := hat k (by omega)
        rw [List.getElem?_eq_getElem hki, Option.bind_eq_some_iff] at hb
        obtain ⟨ck, hck, htr⟩ := hb
        obtain ⟨o, ho, hlo, hw⟩ := hel n' ck _ htr
        refine ⟨cs ++ ck, os ++ [o], by simp [h1], by rw [List.length_append, hcl, hlo, Nat.add_mul, Nat.one_mul], Rws.snoc ho h2, fun j u hj => ?_, ?_⟩
        · rcases Nat.lt_or_ge j cs.length with hj1 | hj1
          · rw [List.getElem?_append_left hj1] at hj; exact h3 j u hj
          · rw [List.getElem?_append_right hj1] at hj
            have hj6 : j - cs.length < n := by
              have := (List.getElem?_eq_some_iff.1 hj).1
              omega
            have := (World.cells?_some hck).2.2 (j - cs.length) hj6
            rw [← hj, ← this, addr_add, show k * n + (j - cs.length) = j by omega]
        · rw [List.take_succ_eq_append_getElem hki, List.map_append, List.map_append, bulkAll_append, List.sum_append]
          simp only [List.map_cons, List.map_nil, Rows.uptoBulkAll, List.sum_cons, List.sum_nil]
          omega
    obtain ⟨cs, os, h1, hcl, h2, h3, h4⟩ := step len (Nat.le_refl _)
    refine ⟨_, cs, os, rfl, ?_, h2, ?_, ?_⟩
    · rw [h1]
      exact SlA.of_cells hn (by rw [hcl]) h3 (fun b hb => hb)
    · rw [h1]; simp only [maxLen] at hcm; omega
    · rw [← hel2, List.take_length] at h4
      simp only [Rows.uptoBulk]
      omega
end
end Go.Proofs.YtiklhhdohckfiaaGreatDoor
/- The engine's rules for rows that are written to: append, store. -/
namespace Go.Proofs.YtiklhhdohckfiaaGreatDoor
set_option linter.unusedVariables false
set_option linter.unusedSimpArgs false
set_option linter.defProp false
set_option linter.unusedSimpArgs false
set_option linter.unusedVariables false
namespace Eng
open Go.RowKit

/-- A slice of n elements of type T (sz cells each) that reads xs, and may be appended and written to. -/
def Ent.urow (T : TypeId) (sz : Nat) (v : Value) (n : Nat) (xs : List Value) : Ent :=
  ⟨fun k => v.ownBlock = some k, fun w => w.ownsRow 0 T sz v n xs, fun {w w'} h k => by
    refine ⟨h.1, ?_⟩
    rcases h.2 with hn | ⟨g, cap, cur, rfl, hb, hgg, rest⟩
    · exact .inl hn
    · exact .inr ⟨g, cap, cur, rfl, hb, (k g rfl).trans hgg, rest⟩, fun h k hk => (World.ownsRowF.lt (World.ownsRowF_of h) k hk).2⟩
section
variable {S : Nat → Prop} {P : Program} {w : World} {PK : List PanicEntry → World → Prop} {K : Value → World → Prop}
theorem urow_row {T : TypeId} {sz : Nat} {v : Value} {n : Nat} {xs : List Value} (h : (Ent.urow T sz v n xs).is w) : (Ent.row T sz v n xs).is w := World.ownsRowF_of h
theorem Sl.urow {T : TypeId} {sz : Nat} {v : Value} {n : Nat} {xs : List Value} (h : (Ent.urow T sz v n xs).is w) : Sl w v sz n xs := Sl.row (urow_row h)
/-- A row that is no more written to. -/
theorem OwnS.settle {w0 : World} {L : List Ent} (ho : OwnS S w0 w L) (i : Nat) {T : TypeId} {sz : Nat} {v : Value} {n : Nat} {xs : List Value} (hi : L[i]? = some (.urow T sz v n xs)) : OwnS S w0 w (L.set i (.row T sz v n xs)) :=
  ho.turn i hi ⟨Grew.refl _ _, urow_row (ho.at_ i hi), fun _ hk => .inl hk⟩
end
end Eng
end Go.Proofs.YtiklhhdohckfiaaGreatDoor
/- Objects that are read: a boxed object, its fields, its kids; plain words of layer 5 (Check). -/
namespace Go.Proofs.YtiklhhdohckfiaaGreatDoor
set_option linter.unusedVariables false
set_option linter.unusedSimpArgs false
set_option linter.defProp false
open Eng Go.RowKit

def obC (o : Ob) (vk vc : Value) : List Value := [.int .i64 o.k, .int .i64 o.n, .int .i64 o.g, .string ⟨o.s.toArray⟩, vk, vc]
def obV (o : Ob) (vk vc : Value) : Value := .agg (obC o vk vc).toArray
def obE (b : Nat) (o : Ob) (vk vc : Value) : Ent := .cells b (obC o vk vc) 25
/-- The slices of an object. -/
structure ObAt (A : Nat → Prop) (w : World) (o : Ob) (vk vc : Value) (cs : List Value) : Prop where
  keys : SlA A w vk 1 o.keys.length (strsV o.keys)
  kids : SlA A w vc 6 o.kids.length cs
  all : OVs A w cs o.kids
theorem OV.open {A : Nat → Prop} {w : World} {v : Value} {o : Ob} (h : OV A w v o) : ∃ vk vc cs, v = obV o vk vc ∧ ObAt A w o vk vc cs := by
  cases o with
  | mk k n g s keys kids =>
    rw [OV] at h
    obtain ⟨vk, vc, cs, rfl, h1, h2, h3⟩ := h
    exact ⟨vk, vc, cs, rfl, h1, h2, h3⟩
theorem ObAt.ov {A : Nat → Prop} {w : World} {o : Ob} {vk vc : Value} {cs : List Value} (h : ObAt A w o vk vc cs) : OV A w (obV o vk vc) o := by
  cases o with
  | mk k n g s keys kids =>
    rw [OV]
    exact ⟨vk, vc, cs, rfl, h.keys, h.kids, h.all⟩
theorem ObAt.kept {A : Nat → Prop} {w w' : World} {o : Ob} {vk vc : Value} {cs : List Value} (h : ObAt A w o vk vc cs) (hk : Kept A w w') : ObAt A w' o vk vc cs :=
  ⟨h.keys.kept hk, h.kids.kept hk, OVs.kept hk _ _ h.all⟩
theorem kept_below {A : Nat → Prop} {w w' : World} (hA : ∀ b, A b → b < w.heap.size) (h : Below w.heap.size w w') : Kept A w w' := fun b hb => h.block b (hA b hb)
theorem OwnS.keptIn {w0 w : World} {L : List Ent} (h : Own w0 w L) : Kept (InW w0) w0 w := kept_below (fun _ h => h) h.done
theorem OV.own {w0 w : World} {L : List Ent} {v : Value} {o : Ob} (h : OV (InW w0) w0 v o) (ho : Own w0 w L) : OV (InW w0) w v o := OV.kept (OwnS.keptIn ho) o v h
theorem OV.at_ {w0 w : World} {L : List Ent} {v : Value} {o : Ob} (h : OV (InW w0) w0 v o) (ho : Own w0 w L) : OV (InW w) w v o := OV.mono (fun _ hb => Nat.lt_of_lt_of_le hb ho.size) o v (h.own ho)
theorem ObAt.own {w0 w : World} {L : List Ent} {o : Ob} {vk vc : Value} {cs : List Value} (h : ObAt (InW w0) w0 o vk vc cs) (ho : Own w0 w L) : ObAt (InW w0) w o vk vc cs := h.kept (OwnS.keptIn ho)
theorem SlA.one {A : Nat → Prop} {w : World} {v : Value} {sz n : Nat} {cs : List Value} (h : SlA A w v sz n cs) : v.oneCell' = true := by
  obtain ⟨⟨_, a, cap, rfl, _⟩, _⟩ := h
  rfl
theorem aggOb : aggN Tryz.prog 25 = some 6 := by kernel_rfl
theorem szOb : (Tryz.prog.info? 25).map (·.size) = some 6 := by kernel_rfl
theorem nSlOb : notAgg Tryz.prog 23 = true := by kernel_rfl
theorem nSlS5 : notAgg Tryz.prog 22 = true := by kernel_rfl
theorem nI65 : notAgg Tryz.prog 2 = true := by kernel_rfl
theorem nInt5 : notAgg Tryz.prog 3 = true := by kernel_rfl
theorem nStr5 : notAgg Tryz.prog 9 = true := by kernel_rfl
theorem fo_o0 : fOff Tryz.prog 25 0 = some 0 := by kernel_rfl
theorem fo_o1 : fOff Tryz.prog 25 1 = some 1 := by kernel_rfl
theorem fo_o2 : fOff Tryz.prog 25 2 = some 2 := by kernel_rfl
theorem fo_o3 : fOff Tryz.prog 25 3 = some 3 := by kernel_rfl
theorem fo_o4 : fOff Tryz.prog 25 4 = some 4 := by kernel_rfl
theorem fo_o5 : fOff Tryz.prog 25 5 = some 5 := by kernel_rfl
section
variable {w : World} {PK : List PanicEntry → World → Prop} {K : Value → World → Prop} {S : Nat → Prop} {w0 : World} {L : List Ent}
theorem fa_o0 {b off : Nat} : DoX Tryz.prog (mFA 25 (.pointer (some ⟨b, off, none⟩)) 0) w PK K = K (.pointer (some ⟨b, off, none⟩)) w := f_addr fo_o0
theorem fa_o1 {b off : Nat} : DoX Tryz.prog (mFA 25 (.pointer (some ⟨b, off, none⟩)) 1) w PK K = K (.pointer (some ⟨b, off + 1, none⟩)) w := f_addr fo_o1
theorem fa_o2 {b off : Nat} : DoX Tryz.prog (mFA 25 (.pointer (some ⟨b, off, none⟩)) 2) w PK K = K (.pointer (some ⟨b, off + 2, none⟩)) w := f_addr fo_o2
theorem fa_o3 {b off : Nat} : DoX Tryz.prog (mFA 25 (.pointer (some ⟨b, off, none⟩)) 3) w PK K = K (.pointer (some ⟨b, off + 3, none⟩)) w := f_addr fo_o3
theorem fa_o4 {b off : Nat} : DoX Tryz.prog (mFA 25 (.pointer (some ⟨b, off, none⟩)) 4) w PK K = K (.pointer (some ⟨b, off + 4, none⟩)) w := f_addr fo_o4
theorem fa_o5 {b off : Nat} : DoX Tryz.prog (mFA 25 (.pointer (some ⟨b, off, none⟩)) 5) w PK K = K (.pointer (some ⟨b, off + 5, none⟩)) w := f_addr fo_o5
theorem o_obb (o : Ob) {vk vc : Value} (hk : vk.oneCell' = true) (hc : vc.oneCell' = true) (ho : OwnS S w0 w L) (k : ∀ b w', OwnS S w0 w' (obE b o vk vc :: L) → K (.pointer (some ⟨b, 0, none⟩)) w') : DoX Tryz.prog (mBox 25 (obV o vk vc)) w PK K := by
  cases vk <;> first | (cases hk; done) | skip
  all_goals cases vc <;> first | (cases hc; done) | exact o_new (fun b => .pointer (some ⟨b, 0, none⟩)) (obC o _ _) 25 (fun _ => by kernel_rfl) ho k
def ob0 : Ob := .mk 0 0 0 [] [] []
theorem o_oba (ho : OwnS S w0 w L) (k : ∀ b w', OwnS S w0 w' (obE b ob0 (.slice none 0 0) (.slice none 0 0) :: L) → K (.pointer (some ⟨b, 0, none⟩)) w') : DoX Tryz.prog (mAlloc 25) w PK K :=
  o_new (fun b => .pointer (some ⟨b, 0, none⟩)) (obC ob0 (.slice none 0 0) (.slice none 0 0)) 25 (fun _ => by kernel_rfl) ho k
theorem obC_one (o : Ob) {vk vc : Value} (hk : vk.oneCell' = true) (hc : vc.oneCell' = true) : ∀ v ∈ obC o vk vc, v.oneCell' = true := by
  intro v hv
  simp only [obC, List.mem_cons, List.not_mem_nil, or_false] at hv
  rcases hv with rfl | rfl | rfl | rfl | rfl | rfl <;> first | rfl | assumption
theorem ob_put (i : Nat) {b : Nat} {o o' : Ob} {vk vc vk' vc' : Value} (hk : vk'.oneCell' = true) (hc : vc'.oneCell' = true) (ho : OwnS S w0 w L) (hi : L[i]? = some (obE b o vk vc)) (k : ∀ w', OwnS S w0 w' (L.set i (obE b o' vk' vc')) → K undef w') :
    DoX Tryz.prog (mStore 25 (.pointer (some ⟨b, 0, none⟩)) (obV o' vk' vc')) w PK K := o_put i ho hi (new := obC o' vk' vc') szOb (obC_one o' hk hc) rfl k
theorem ob_k (ho : OwnS S w0 w L) (i : Nat) {b : Nat} {o : Ob} {vk vc : Value} (hi : L[i]? = some (obE b o vk vc)) : DoX Tryz.prog (mLoad 3 (.pointer (some ⟨b, 0, none⟩))) w PK K = K (.int .i64 o.k) w := l_cell nInt5 (ho.cell i hi 0 rfl)
theorem ob_n (ho : OwnS S w0 w L) (i : Nat) {b : Nat} {o : Ob} {vk vc : Value} (hi : L[i]? = some (obE b o vk vc)) : DoX Tryz.prog (mLoad 2 (.pointer (some ⟨b, 0 + 1, none⟩))) w PK K = K (.int .i64 o.n) w := l_cell nI65 (ho.cell i hi 1 rfl)
theorem ob_g (ho : OwnS S w0 w L) (i : Nat) {b : Nat} {o : Ob} {vk vc : Value} (hi : L[i]? = some (obE b o vk vc)) : DoX Tryz.prog (mLoad 3 (.pointer (some ⟨b, 0 + 2, none⟩))) w PK K = K (.int .i64 o.g) w := l_cell nInt5 (ho.cell i hi 2 rfl)
theorem ob_s (ho : OwnS S w0 w L) (i : Nat) {b : Nat} {o : Ob} {vk vc : Value} (hi : L[i]? = some (obE b o vk vc)) : DoX Tryz.prog (mLoad 9 (.pointer (some ⟨b, 0 + 3, none⟩))) w PK K = K (.string ⟨o.s.toArray⟩) w := l_cell nStr5 (ho.cell i hi 3 rfl)
theorem ob_keys (ho : OwnS S w0 w L) (i : Nat) {b : Nat} {o : Ob} {vk vc : Value} (hi : L[i]? = some (obE b o vk vc)) : DoX Tryz.prog (mLoad 22 (.pointer (some ⟨b, 0 + 4, none⟩))) w PK K = K vk w := l_cell nSlS5 (ho.cell i hi 4 rfl)
theorem ob_kids (ho : OwnS S w0 w L) (i : Nat) {b : Nat} {o : Ob} {vk vc : Value} (hi : L[i]? = some (obE b o vk vc)) : DoX Tryz.prog (mLoad 23 (.pointer (some ⟨b, 0 + 5, none⟩))) w PK K = K vc w := l_cell nSlOb (ho.cell i hi 5 rfl)
theorem ob_v (ho : OwnS S w0 w L) (i : Nat) {b : Nat} {o : Ob} {vk vc : Value} (hi : L[i]? = some (obE b o vk vc)) : DoX Tryz.prog (mLoad 25 (.pointer (some ⟨b, 0, none⟩))) w PK K = K (obV o vk vc) w := l_at (ho.agg i hi aggOb)
/-- A kid is read. -/
theorem ob_ia {A : Nat → Prop} {vc : Value} {os : List Ob} {cs : List Value} {K : Value → World → Prop} {PK2 : List PanicEntry → World → Prop} (hs : Sl w vc 6 os.length cs) (hall : OVs A w cs os) {i : Nat} (hi : i < os.length)
    (k : ∀ v, OV A w v os[i] → K v w) : DoX Tryz.prog (mIA 23 vc (.int .i64 (i : Int))) w PK fun t w => DoX Tryz.prog (mLoad 25 t) w PK2 K := by
  obtain ⟨b, off, cap, rfl, hc⟩ := sl_open hs (by omega)
  refine do_eq (run_ia Tryz.underlying23 szOb (by omega) (by omega)) |>.mpr ?_
  rw [Int.toNat_natCast]
  obtain ⟨a, hl, hov, hget⟩ := OVs.get os cs i hi hall
  refine do_eq (run_load_at (v := .agg a.toArray) (AtV.agg aggOb hl fun j v hj => ?_)) |>.mpr (k _ hov)
  rw [Nat.add_assoc]
  exact hc _ _ (hget j v hj)
end
end Go.Proofs.YtiklhhdohckfiaaGreatDoor
/- Plain mathematics of layer 5: when an object is valid; its size; no program in sight. -/
namespace Go.Proofs.YtiklhhdohckfiaaGreatDoor
set_option linter.unusedVariables false
set_option linter.unusedSimpArgs false
set_option linter.defProp false
open Go
namespace Vl
/-- The fields that a kind uses: N, G, S, keys, kids. -/
def used (k : Int) : Option (Bool × Bool × Bool × Bool × Bool) :=
  if k = 0 then some (false, false, false, false, false)
  else if k = 1 ∨ k = 2 ∨ k = 3 then some (true, false, false, false, false)
  else if k = 4 ∨ k = 5 then some (false, false, true, false, false)
  else if k = 6 then some (false, false, false, false, true)
  else if k = 7 then some (false, false, false, true, true)
  else if k = 8 then some (true, true, false, false, false)
  else if k = 9 then some (false, false, true, true, true)
  else none
def usesOk (o : Ob) : Bool :=
  match used o.k with
  | none => false
  | some (n, g, s, ks, cs) => (n || decide (o.n = 0)) && (g || decide (o.g = 0)) && (s || decide (o.s = [])) && (ks || decide (o.keys = [])) && (cs || decide (o.kids.length = 0))
def fits (o : Ob) : Bool :=
  if o.k = 1 then decide (0 ≤ o.n ∧ o.n ≤ 1)
  else if o.k = 2 then decide (-2147483647 ≤ o.n ∧ o.n ≤ 2147483647)
  else if o.k = 3 then decide (-1073741824 ≤ o.n ∧ o.n ≤ 1073741824)
  else if o.k = 8 then decide (1 ≤ o.n ∧ o.n ≤ 8191) && decide (0 ≤ o.g ∧ o.g ≤ 65535)
  else true
def long (k : Int) : Nat := if k = 5 then 127 else if k = 9 then 1048576 else 32767
def name (s : List UInt8) : Bool := decide (s.length ≤ 127) && decide ((0 : UInt8) ∉ s)
def lenK : List UInt8 := [76, 101, 110, 103, 116, 104]
/-- Byte order of strings. -/
abbrev less (a b : List UInt8) : Bool := Op.bytesLess a b
def keyAt (o : Ob) (i : Nat) : Bool :=
  name (o.keys.getD i []) && (decide (i = 0) || less (o.keys.getD (i - 1) []) (o.keys.getD i [])) && !(decide (o.k = 9) && decide (o.keys.getD i [] = lenK)) && decide ((o.kids.getD i (.mk 0 0 0 [] [] [])).k ≠ 0)
def rising (o : Ob) : Bool := decide (o.keys.length = o.kids.length) && (List.range o.keys.length).all (keyAt o)
def form (o : Ob) : Bool := (!(decide (o.k = 5)) || name o.s) && (!(decide (o.k = 7 ∨ o.k = 9)) || rising o)
/-- The first reason why the object itself is no valid one, at a depth. -/
def why (d : Nat) (o : Ob) : Int :=
  if 24 < d then 7
  else if usesOk o = false ∨ (o.k = 9 ∧ 1 < d) then 10
  else if fits o = false then 2
  else if long o.k < o.s.length then 5
  else if 8191 < o.kids.length then 6
  else if form o = false then 3
  else 0
 mutual
def check (d : Nat) : Ob → Int
  | .mk k n g s keys kids => if why d (.mk k n g s keys kids) ≠ 0 then why d (.mk k n g s keys kids) else checks (d + 1) kids
def checks (d : Nat) : List Ob → Int
  | [] => 0
  | o :: os => if check d o ≠ 0 then check d o else checks d os
end
theorem check_eq (d : Nat) (o : Ob) : check d o = if why d o ≠ 0 then why d o else checks (d + 1) o.kids := by cases o; rw [check]; rfl
 mutual
/-- How many objects, and a fiftieth of the bytes. -/
def size : Ob → Nat
  | .mk _ _ _ s keys kids => 1 + s.length / 50 + (keys.map fun k => k.length / 50).sum + sizes kids
def sizes : List Ob → Nat
  | [] => 0
  | o :: os => size o + sizes os
end
theorem size_eq (o : Ob) : size o = 1 + o.s.length / 50 + (o.keys.map fun k => k.length / 50).sum + sizes o.kids := by cases o; rw [size]; rfl
theorem tot50 (l : List (List UInt8)) : (l.map fun k => k.length / 50).sum ≤ Pl.tot l := by
  induction l with
  | nil => simp
  | cons a l ih => simp only [Pl.tot, List.map_cons, List.sum_cons] at ih ⊢; omega
 mutual
theorem size_wt : ∀ o : Ob, size o ≤ o.wt
  | .mk k n g s keys kids => by
    have := sizes_wt kids
    have := tot50 keys
    rw [size, Ob.wt]; omega
theorem sizes_wt : ∀ os : List Ob, sizes os ≤ Ob.wts os
  | [] => by rw [sizes, Ob.wts]; omega
  | o :: os => by
    have := size_wt o
    have := sizes_wt os
    rw [sizes, Ob.wts]; omega
end
end Vl
end Go.Proofs.YtiklhhdohckfiaaGreatDoor
/- Code in continuation form, by program (gen.py): 17 functions. -/
namespace Go.Proofs.YtiklhhdohckfiaaGreatDoor
set_option linter.unusedVariables false
set_option linter.unusedSimpArgs false
set_option linter.defProp false
set_option linter.unusedVariables false
set_option maxRecDepth 20000
open Eng

/- foliantref05.Size -/
def S_foliantref05_Size_1 (t3 t27 t28 t29 : Value) (w : World) (N2 : List Value → World → Prop) (K : Ending → World → Prop) : Prop :=
 DoX Tryz.prog (mBin .lss 3 t29 t28) w (pk K) fun t30 w =>
 IfX t30 (DoX Tryz.prog (mIA 23 t27 t29) w (pk K) fun t31 w =>
 DoX Tryz.prog (mLoad 25 t31) w (pk K) fun t32 w =>
 DoX Tryz.prog (mAlloc 25) w (pk K) fun t7 w =>
 DoX Tryz.prog (mStore 25 t7 t32) w (pk K) fun _ w =>
 DoX Tryz.prog (mLoad 25 t7) w (pk K) fun t34 w =>
 CallX Tryz.prog 11 #[t34] w (pk K) fun t35 w =>
 DoX Tryz.prog (mBin .add 3 t3 t35) w (pk K) fun t36 w =>
 DoX Tryz.prog (mBin .add 3 t29 (.int .i64 1)) w (pk K) fun t37 w =>
 N2 [t36, t37] w) (K (.returned t3) w)
def S_foliantref05_Size_0 (t1 t3 t14 t15 t16 : Value) (w : World) (N1 : List Value → World → Prop) (K : Ending → World → Prop) : Prop :=
 DoX Tryz.prog (mBin .lss 3 t16 t15) w (pk K) fun t17 w =>
 IfX t17 (DoX Tryz.prog (mIA 22 t14 t16) w (pk K) fun t18 w =>
 DoX Tryz.prog (mLoad 9 t18) w (pk K) fun t19 w =>
 DoX Tryz.prog (mB .len #[9] 3 #[false] #[t19]) w (pk K) fun t22 w =>
 DoX Tryz.prog (mBin .quo 3 t22 (.int .i64 50)) w (pk K) fun t23 w =>
 DoX Tryz.prog (mBin .add 3 t3 t23) w (pk K) fun t24 w =>
 DoX Tryz.prog (mBin .add 3 t16 (.int .i64 1)) w (pk K) fun t25 w =>
 N1 [t24, t25] w) (DoX Tryz.prog (mFA 25 t1 5) w (pk K) fun t26 w =>
 DoX Tryz.prog (mLoad 23 t26) w (pk K) fun t27 w =>
 DoX Tryz.prog (mB .len #[23] 3 #[false] #[t27]) w (pk K) fun t28 w =>
 LoopX [t3, (.int .i64 0)] w (fun vs2 w N2 => ∀ _ : Sg, S_foliantref05_Size_1 (vs2.getD 0 undef) t27 t28 (vs2.getD 1 undef) w N2 K))
def S_foliantref05_Size (t0 : Value) (w : World) (K : Ending → World → Prop) : Prop :=
 DoX Tryz.prog (mBox 25 t0) w (pk K) fun t1 w =>
 DoX Tryz.prog (mFA 25 t1 3) w (pk K) fun t8 w =>
 DoX Tryz.prog (mLoad 9 t8) w (pk K) fun t9 w =>
 DoX Tryz.prog (mB .len #[9] 3 #[false] #[t9]) w (pk K) fun t10 w =>
 DoX Tryz.prog (mBin .quo 3 t10 (.int .i64 50)) w (pk K) fun t11 w =>
 DoX Tryz.prog (mBin .add 3 (.int .i64 1) t11) w (pk K) fun t12 w =>
 DoX Tryz.prog (mFA 25 t1 4) w (pk K) fun t13 w =>
 DoX Tryz.prog (mLoad 22 t13) w (pk K) fun t14 w =>
 DoX Tryz.prog (mB .len #[22] 3 #[false] #[t14]) w (pk K) fun t15 w =>
 LoopX [t12, (.int .i64 0)] w (fun vs1 w N1 => ∀ _ : Sg, S_foliantref05_Size_0 t1 (vs1.getD 0 undef) t14 t15 (vs1.getD 1 undef) w N1 K)
theorem S_foliantref05_Size_eq (t0 : Value) (w : World) (K : Ending → World → Prop) : wpX Tryz.prog 39 [] [(3, [3, 16]), (8, [3, 29])] none (bodyOf Tryz.f11) (topQ Tryz.prog [.tmp 2] K) (startX [t0]) [] w = S_foliantref05_Size t0 w K := by kernel_rfl
theorem S_foliantref05_Size_ok {t0 : Value} {w : World} {K : Ending → World → Prop} (h : S_foliantref05_Size t0 w K) : Calls Tryz.prog 11 #[t0] w K :=
  calls_of_wpX Tryz.func11 rfl rfl rfl rfl (Eq.mpr (S_foliantref05_Size_eq t0 w K) h)

/- foliantref05.Array -/
def S_foliantref05_Array (t0 : Value) (w : World) (K : Ending → World → Prop) : Prop :=
 DoX Tryz.prog (mAlloc 25) w (pk K) fun t2 w =>
 DoX Tryz.prog (mBuild 25 #[(0, (.int .i64 6)), (5, t0)]) w (pk K) fun t4 w =>
 DoX Tryz.prog (mStore 25 t2 t4) w (pk K) fun _ w =>
 RetX Tryz.prog [.cell t2 25] w K
theorem S_foliantref05_Array_eq (t0 : Value) (w : World) (K : Ending → World → Prop) : wpX Tryz.prog 5 [] [] none (bodyOf Tryz.f37) (topQ Tryz.prog [.cell 2 25] K) (startX [t0]) [] w = S_foliantref05_Array t0 w K := by kernel_rfl
theorem S_foliantref05_Array_ok {t0 : Value} {w : World} {K : Ending → World → Prop} (h : S_foliantref05_Array t0 w K) : Calls Tryz.prog 37 #[t0] w K :=
  calls_of_wpX Tryz.func37 rfl rfl rfl rfl (Eq.mpr (S_foliantref05_Array_eq t0 w K) h)

/- foliantref05.Key -/
def S_foliantref05_Key (t0 : Value) (w : World) (K : Ending → World → Prop) : Prop :=
 DoX Tryz.prog (mAlloc 25) w (pk K) fun t2 w =>
 DoX Tryz.prog (mBuild 25 #[(0, (.int .i64 5)), (3, t0)]) w (pk K) fun t4 w =>
 DoX Tryz.prog (mStore 25 t2 t4) w (pk K) fun _ w =>
 RetX Tryz.prog [.cell t2 25] w K
theorem S_foliantref05_Key_eq (t0 : Value) (w : World) (K : Ending → World → Prop) : wpX Tryz.prog 5 [] [] none (bodyOf Tryz.f38) (topQ Tryz.prog [.cell 2 25] K) (startX [t0]) [] w = S_foliantref05_Key t0 w K := by kernel_rfl
theorem S_foliantref05_Key_ok {t0 : Value} {w : World} {K : Ending → World → Prop} (h : S_foliantref05_Key t0 w K) : Calls Tryz.prog 38 #[t0] w K :=
  calls_of_wpX Tryz.func38 rfl rfl rfl rfl (Eq.mpr (S_foliantref05_Key_eq t0 w K) h)

/- foliantref05.Text -/
def S_foliantref05_Text (t0 : Value) (w : World) (K : Ending → World → Prop) : Prop :=
 DoX Tryz.prog (mAlloc 25) w (pk K) fun t2 w =>
 DoX Tryz.prog (mBuild 25 #[(0, (.int .i64 4)), (3, t0)]) w (pk K) fun t4 w =>
 DoX Tryz.prog (mStore 25 t2 t4) w (pk K) fun _ w =>
 RetX Tryz.prog [.cell t2 25] w K
theorem S_foliantref05_Text_eq (t0 : Value) (w : World) (K : Ending → World → Prop) : wpX Tryz.prog 5 [] [] none (bodyOf Tryz.f39) (topQ Tryz.prog [.cell 2 25] K) (startX [t0]) [] w = S_foliantref05_Text t0 w K := by kernel_rfl
theorem S_foliantref05_Text_ok {t0 : Value} {w : World} {K : Ending → World → Prop} (h : S_foliantref05_Text t0 w K) : Calls Tryz.prog 39 #[t0] w K :=
  calls_of_wpX Tryz.func39 rfl rfl rfl rfl (Eq.mpr (S_foliantref05_Text_eq t0 w K) h)

/- foliantref05.Ref -/
def S_foliantref05_Ref (t0 t1 : Value) (w : World) (K : Ending → World → Prop) : Prop :=
 DoX Tryz.prog (mAlloc 25) w (pk K) fun t4 w =>
 DoX Tryz.prog (mBuild 25 #[(0, (.int .i64 8)), (1, t0), (2, t1)]) w (pk K) fun t7 w =>
 DoX Tryz.prog (mStore 25 t4 t7) w (pk K) fun _ w =>
 RetX Tryz.prog [.cell t4 25] w K
theorem S_foliantref05_Ref_eq (t0 t1 : Value) (w : World) (K : Ending → World → Prop) : wpX Tryz.prog 8 [] [] none (bodyOf Tryz.f40) (topQ Tryz.prog [.cell 4 25] K) (startX [t0, t1]) [] w = S_foliantref05_Ref t0 t1 w K := by kernel_rfl
theorem S_foliantref05_Ref_ok {t0 t1 : Value} {w : World} {K : Ending → World → Prop} (h : S_foliantref05_Ref t0 t1 w K) : Calls Tryz.prog 40 #[t0, t1] w K :=
  calls_of_wpX Tryz.func40 rfl rfl rfl rfl (Eq.mpr (S_foliantref05_Ref_eq t0 t1 w K) h)

/- foliantref05.Int -/
def S_foliantref05_Int (t0 : Value) (w : World) (K : Ending → World → Prop) : Prop :=
 DoX Tryz.prog (mAlloc 25) w (pk K) fun t2 w =>
 DoX Tryz.prog (mBuild 25 #[(0, (.int .i64 2)), (1, t0)]) w (pk K) fun t4 w =>
 DoX Tryz.prog (mStore 25 t2 t4) w (pk K) fun _ w =>
 RetX Tryz.prog [.cell t2 25] w K
theorem S_foliantref05_Int_eq (t0 : Value) (w : World) (K : Ending → World → Prop) : wpX Tryz.prog 5 [] [] none (bodyOf Tryz.f41) (topQ Tryz.prog [.cell 2 25] K) (startX [t0]) [] w = S_foliantref05_Int t0 w K := by kernel_rfl
theorem S_foliantref05_Int_ok {t0 : Value} {w : World} {K : Ending → World → Prop} (h : S_foliantref05_Int t0 w K) : Calls Tryz.prog 41 #[t0] w K :=
  calls_of_wpX Tryz.func41 rfl rfl rfl rfl (Eq.mpr (S_foliantref05_Int_eq t0 w K) h)

/- foliantref05.Null -/
def S_foliantref05_Null (w : World) (K : Ending → World → Prop) : Prop :=
 DoX Tryz.prog (mAlloc 25) w (pk K) fun t0 w =>
 DoX Tryz.prog (mBuild 25 #[]) w (pk K) fun t1 w =>
 DoX Tryz.prog (mStore 25 t0 t1) w (pk K) fun _ w =>
 RetX Tryz.prog [.cell t0 25] w K
theorem S_foliantref05_Null_eq (w : World) (K : Ending → World → Prop) : wpX Tryz.prog 2 [] [] none (bodyOf Tryz.f42) (topQ Tryz.prog [.cell 0 25] K) (startX []) [] w = S_foliantref05_Null w K := by kernel_rfl
theorem S_foliantref05_Null_ok {w : World} {K : Ending → World → Prop} (h : S_foliantref05_Null w K) : Calls Tryz.prog 42 #[] w K :=
  calls_of_wpX Tryz.func42 rfl rfl rfl rfl (Eq.mpr (S_foliantref05_Null_eq w K) h)

/- foliantref05.Real -/
def S_foliantref05_Real (t0 : Value) (w : World) (K : Ending → World → Prop) : Prop :=
 DoX Tryz.prog (mAlloc 25) w (pk K) fun t2 w =>
 DoX Tryz.prog (mBuild 25 #[(0, (.int .i64 3)), (1, t0)]) w (pk K) fun t4 w =>
 DoX Tryz.prog (mStore 25 t2 t4) w (pk K) fun _ w =>
 RetX Tryz.prog [.cell t2 25] w K
theorem S_foliantref05_Real_eq (t0 : Value) (w : World) (K : Ending → World → Prop) : wpX Tryz.prog 5 [] [] none (bodyOf Tryz.f43) (topQ Tryz.prog [.cell 2 25] K) (startX [t0]) [] w = S_foliantref05_Real t0 w K := by kernel_rfl
theorem S_foliantref05_Real_ok {t0 : Value} {w : World} {K : Ending → World → Prop} (h : S_foliantref05_Real t0 w K) : Calls Tryz.prog 43 #[t0] w K :=
  calls_of_wpX Tryz.func43 rfl rfl rfl rfl (Eq.mpr (S_foliantref05_Real_eq t0 w K) h)

/- foliantref05.Bool -/
def S_foliantref05_Bool (t0 : Value) (w : World) (K : Ending → World → Prop) : Prop :=
 DoX Tryz.prog (mAlloc 25) w (pk K) fun t2 w =>
 IfX t0 (DoX Tryz.prog (mBuild 25 #[(0, (.int .i64 1)), (1, (.int .i64 1))]) w (pk K) fun t4 w =>
 DoX Tryz.prog (mStore 25 t2 t4) w (pk K) fun _ w =>
 RetX Tryz.prog [.cell t2 25] w K) (DoX Tryz.prog (mBuild 25 #[(0, (.int .i64 1))]) w (pk K) fun t5 w =>
 DoX Tryz.prog (mStore 25 t2 t5) w (pk K) fun _ w =>
 RetX Tryz.prog [.cell t2 25] w K)
theorem S_foliantref05_Bool_eq (t0 : Value) (w : World) (K : Ending → World → Prop) : wpX Tryz.prog 6 [] [] none (bodyOf Tryz.f44) (topQ Tryz.prog [.cell 2 25] K) (startX [t0]) [] w = S_foliantref05_Bool t0 w K := by kernel_rfl
theorem S_foliantref05_Bool_ok {t0 : Value} {w : World} {K : Ending → World → Prop} (h : S_foliantref05_Bool t0 w K) : Calls Tryz.prog 44 #[t0] w K :=
  calls_of_wpX Tryz.func44 rfl rfl rfl rfl (Eq.mpr (S_foliantref05_Bool_eq t0 w K) h)

/- foliantref05.uses -/
def S_foliantref05_uses_1 (t1 t4 t15 : Value) (w : World) (K : Ending → World → Prop) : Prop :=
 IfX t15 (DoX Tryz.prog (mLoad 25 t1) w (pk K) fun t18 w =>
 CallX Tryz.prog 210 #[t18, (.bool false), (.bool false), (.bool true), (.bool false)] w (pk K) fun t19 w =>
 K (.returned t19) w) (DoX Tryz.prog (mEq .eql 3 (.tmp 4) (.const (.int .i64 6)) t4 (.int .i64 6)) w (pk K) fun t21 w =>
 IfX t21 (DoX Tryz.prog (mLoad 25 t1) w (pk K) fun t22 w =>
 CallX Tryz.prog 210 #[t22, (.bool false), (.bool false), (.bool false), (.bool true)] w (pk K) fun t23 w =>
 GDo t23 true (fun E => DoX Tryz.prog (mFA 25 t1 4) w (pk K) E) w fun t25 w =>
 GDo t23 true (fun E => DoX Tryz.prog (mLoad 22 t25) w (pk K) E) w fun t26 w =>
 GDo t23 true (fun E => DoX Tryz.prog (mB .len #[22] 3 #[false] #[t26]) w (pk K) E) w fun t27 w =>
 GDo t23 true (fun E => DoX Tryz.prog (mEq .eql 3 (.tmp 27) (.const (.int .i64 0)) t27 (.int .i64 0)) w (pk K) E) w fun t28 w =>
 DoX Tryz.prog (mPick t23 t28 (.bool false)) w (pk K) fun t29 w =>
 K (.returned t29) w) (DoX Tryz.prog (mEq .eql 3 (.tmp 4) (.const (.int .i64 7)) t4 (.int .i64 7)) w (pk K) fun t31 w =>
 IfX t31 (DoX Tryz.prog (mLoad 25 t1) w (pk K) fun t32 w =>
 CallX Tryz.prog 210 #[t32, (.bool false), (.bool false), (.bool false), (.bool true)] w (pk K) fun t33 w =>
 K (.returned t33) w) (DoX Tryz.prog (mEq .eql 3 (.tmp 4) (.const (.int .i64 8)) t4 (.int .i64 8)) w (pk K) fun t35 w =>
 IfX t35 (DoX Tryz.prog (mLoad 25 t1) w (pk K) fun t36 w =>
 CallX Tryz.prog 210 #[t36, (.bool true), (.bool true), (.bool false), (.bool false)] w (pk K) fun t37 w =>
 K (.returned t37) w) (DoX Tryz.prog (mEq .eql 3 (.tmp 4) (.const (.int .i64 9)) t4 (.int .i64 9)) w (pk K) fun t39 w =>
 IfX t39 (DoX Tryz.prog (mLoad 25 t1) w (pk K) fun t40 w =>
 CallX Tryz.prog 210 #[t40, (.bool false), (.bool false), (.bool true), (.bool true)] w (pk K) fun t41 w =>
 K (.returned t41) w) (K (.returned (.bool false)) w)))))
def S_foliantref05_uses_0 (t1 t4 t9 : Value) (w : World) (K : Ending → World → Prop) : Prop :=
 IfX t9 (DoX Tryz.prog (mLoad 25 t1) w (pk K) fun t13 w =>
 CallX Tryz.prog 210 #[t13, (.bool true), (.bool false), (.bool false), (.bool false)] w (pk K) fun t14 w =>
 K (.returned t14) w) (JoinX (fun J2 =>
 DoX Tryz.prog (mEq .eql 3 (.tmp 4) (.const (.int .i64 4)) t4 (.int .i64 4)) w (pk K) fun t16 w =>
 IfX t16 (J2 [t16] w) (DoX Tryz.prog (mEq .eql 3 (.tmp 4) (.const (.int .i64 5)) t4 (.int .i64 5)) w (pk K) fun t17 w =>
 J2 [t17] w)) (fun vs2 w => ∀ _ : Sg, S_foliantref05_uses_1 t1 t4 (vs2.getD 0 undef) w K))
def S_foliantref05_uses (t0 : Value) (w : World) (K : Ending → World → Prop) : Prop :=
 DoX Tryz.prog (mBox 25 t0) w (pk K) fun t1 w =>
 DoX Tryz.prog (mFA 25 t1 0) w (pk K) fun t3 w =>
 DoX Tryz.prog (mLoad 3 t3) w (pk K) fun t4 w =>
 DoX Tryz.prog (mEq .eql 3 (.tmp 4) (.const (.int .i64 0)) t4 (.int .i64 0)) w (pk K) fun t6 w =>
 IfX t6 (DoX Tryz.prog (mLoad 25 t1) w (pk K) fun t7 w =>
 CallX Tryz.prog 210 #[t7, (.bool false), (.bool false), (.bool false), (.bool false)] w (pk K) fun t8 w =>
 K (.returned t8) w) (JoinX (fun J1 =>
 DoX Tryz.prog (mEq .eql 3 (.tmp 4) (.const (.int .i64 1)) t4 (.int .i64 1)) w (pk K) fun t10 w =>
 IfX t10 (J1 [t10] w) (DoX Tryz.prog (mEq .eql 3 (.tmp 4) (.const (.int .i64 2)) t4 (.int .i64 2)) w (pk K) fun t11 w =>
 IfX t11 (J1 [t11] w) (DoX Tryz.prog (mEq .eql 3 (.tmp 4) (.const (.int .i64 3)) t4 (.int .i64 3)) w (pk K) fun t12 w =>
 J1 [t12] w))) (fun vs1 w => ∀ _ : Sg, S_foliantref05_uses_0 t1 t4 (vs1.getD 0 undef) w K))
theorem S_foliantref05_uses_eq (t0 : Value) (w : World) (K : Ending → World → Prop) : wpX Tryz.prog 42 [(7, [9]), (10, [15])] [] none (bodyOf Tryz.f166) (topQ Tryz.prog [.tmp 2] K) (startX [t0]) [] w = S_foliantref05_uses t0 w K := by kernel_rfl
theorem S_foliantref05_uses_ok {t0 : Value} {w : World} {K : Ending → World → Prop} (h : S_foliantref05_uses t0 w K) : Calls Tryz.prog 166 #[t0] w K :=
  calls_of_wpX Tryz.func166 rfl rfl rfl rfl (Eq.mpr (S_foliantref05_uses_eq t0 w K) h)

/- foliantref05.fits -/
def S_foliantref05_fits (t0 : Value) (w : World) (K : Ending → World → Prop) : Prop :=
 DoX Tryz.prog (mBox 25 t0) w (pk K) fun t1 w =>
 DoX Tryz.prog (mFA 25 t1 0) w (pk K) fun t3 w =>
 DoX Tryz.prog (mLoad 3 t3) w (pk K) fun t4 w =>
 DoX Tryz.prog (mEq .eql 3 (.tmp 4) (.const (.int .i64 1)) t4 (.int .i64 1)) w (pk K) fun t6 w =>
 IfX t6 (DoX Tryz.prog (mFA 25 t1 1) w (pk K) fun t7 w =>
 DoX Tryz.prog (mLoad 2 t7) w (pk K) fun t8 w =>
 DoX Tryz.prog (mEq .eql 2 (.tmp 8) (.const (.int .i64 0)) t8 (.int .i64 0)) w (pk K) fun t9 w =>
 GDo t9 false (fun E => DoX Tryz.prog (mFA 25 t1 1) w (pk K) E) w fun t11 w =>
 GDo t9 false (fun E => DoX Tryz.prog (mLoad 2 t11) w (pk K) E) w fun t12 w =>
 GDo t9 false (fun E => DoX Tryz.prog (mEq .eql 2 (.tmp 12) (.const (.int .i64 1)) t12 (.int .i64 1)) w (pk K) E) w fun t13 w =>
 DoX Tryz.prog (mPick t9 (.bool true) t13) w (pk K) fun t14 w =>
 K (.returned t14) w) (DoX Tryz.prog (mEq .eql 3 (.tmp 4) (.const (.int .i64 2)) t4 (.int .i64 2)) w (pk K) fun t16 w =>
 IfX t16 (DoX Tryz.prog (mFA 25 t1 1) w (pk K) fun t17 w =>
 DoX Tryz.prog (mLoad 2 t17) w (pk K) fun t18 w =>
 DoX Tryz.prog (mBin .geq 2 t18 (.int .i64 (-2147483647))) w (pk K) fun t19 w =>
 GDo t19 true (fun E => DoX Tryz.prog (mFA 25 t1 1) w (pk K) E) w fun t21 w =>
 GDo t19 true (fun E => DoX Tryz.prog (mLoad 2 t21) w (pk K) E) w fun t22 w =>
 GDo t19 true (fun E => DoX Tryz.prog (mBin .leq 2 t22 (.int .i64 2147483647)) w (pk K) E) w fun t23 w =>
 DoX Tryz.prog (mPick t19 t23 (.bool false)) w (pk K) fun t24 w =>
 K (.returned t24) w) (DoX Tryz.prog (mEq .eql 3 (.tmp 4) (.const (.int .i64 3)) t4 (.int .i64 3)) w (pk K) fun t26 w =>
 IfX t26 (DoX Tryz.prog (mFA 25 t1 1) w (pk K) fun t27 w =>
 DoX Tryz.prog (mLoad 2 t27) w (pk K) fun t28 w =>
 DoX Tryz.prog (mBin .geq 2 t28 (.int .i64 (-1073741824))) w (pk K) fun t29 w =>
 GDo t29 true (fun E => DoX Tryz.prog (mFA 25 t1 1) w (pk K) E) w fun t31 w =>
 GDo t29 true (fun E => DoX Tryz.prog (mLoad 2 t31) w (pk K) E) w fun t32 w =>
 GDo t29 true (fun E => DoX Tryz.prog (mBin .leq 2 t32 (.int .i64 1073741824)) w (pk K) E) w fun t33 w =>
 DoX Tryz.prog (mPick t29 t33 (.bool false)) w (pk K) fun t34 w =>
 K (.returned t34) w) (DoX Tryz.prog (mEq .eql 3 (.tmp 4) (.const (.int .i64 8)) t4 (.int .i64 8)) w (pk K) fun t36 w =>
 IfX t36 (DoX Tryz.prog (mFA 25 t1 1) w (pk K) fun t37 w =>
 DoX Tryz.prog (mLoad 2 t37) w (pk K) fun t38 w =>
 DoX Tryz.prog (mBin .geq 2 t38 (.int .i64 1)) w (pk K) fun t39 w =>
 GDo t39 true (fun E => DoX Tryz.prog (mFA 25 t1 1) w (pk K) E) w fun t41 w =>
 GDo t39 true (fun E => DoX Tryz.prog (mLoad 2 t41) w (pk K) E) w fun t42 w =>
 GDo t39 true (fun E => DoX Tryz.prog (mBin .leq 2 t42 (.int .i64 8191)) w (pk K) E) w fun t43 w =>
 DoX Tryz.prog (mPick t39 t43 (.bool false)) w (pk K) fun t44 w =>
 GDo t44 true (fun E => DoX Tryz.prog (mFA 25 t1 2) w (pk K) E) w fun t46 w =>
 GDo t44 true (fun E => DoX Tryz.prog (mLoad 3 t46) w (pk K) E) w fun t47 w =>
 GDo t44 true (fun E => DoX Tryz.prog (mBin .geq 3 t47 (.int .i64 0)) w (pk K) E) w fun t48 w =>
 DoX Tryz.prog (mPick t44 t48 (.bool false)) w (pk K) fun t49 w =>
 GDo t49 true (fun E => DoX Tryz.prog (mFA 25 t1 2) w (pk K) E) w fun t51 w =>
 GDo t49 true (fun E => DoX Tryz.prog (mLoad 3 t51) w (pk K) E) w fun t52 w =>
 GDo t49 true (fun E => DoX Tryz.prog (mBin .leq 3 t52 (.int .i64 65535)) w (pk K) E) w fun t53 w =>
 DoX Tryz.prog (mPick t49 t53 (.bool false)) w (pk K) fun t54 w =>
 K (.returned t54) w) (K (.returned (.bool true)) w))))
theorem S_foliantref05_fits_eq (t0 : Value) (w : World) (K : Ending → World → Prop) : wpX Tryz.prog 55 [] [] none (bodyOf Tryz.f167) (topQ Tryz.prog [.tmp 2] K) (startX [t0]) [] w = S_foliantref05_fits t0 w K := by kernel_rfl
theorem S_foliantref05_fits_ok {t0 : Value} {w : World} {K : Ending → World → Prop} (h : S_foliantref05_fits t0 w K) : Calls Tryz.prog 167 #[t0] w K :=
  calls_of_wpX Tryz.func167 rfl rfl rfl rfl (Eq.mpr (S_foliantref05_fits_eq t0 w K) h)

/- foliantref05.long -/
def S_foliantref05_long (t0 : Value) (w : World) (K : Ending → World → Prop) : Prop :=
 DoX Tryz.prog (mEq .eql 3 (.tmp 3) (.const (.int .i64 5)) t0 (.int .i64 5)) w (pk K) fun t4 w =>
 IfX t4 (K (.returned (.int .i64 127)) w) (DoX Tryz.prog (mEq .eql 3 (.tmp 5) (.const (.int .i64 9)) t0 (.int .i64 9)) w (pk K) fun t6 w =>
 IfX t6 (K (.returned (.int .i64 1048576)) w) (K (.returned (.int .i64 32767)) w))
theorem S_foliantref05_long_eq (t0 : Value) (w : World) (K : Ending → World → Prop) : wpX Tryz.prog 7 [] [] none (bodyOf Tryz.f168) (topQ Tryz.prog [.tmp 2] K) (startX [t0]) [] w = S_foliantref05_long t0 w K := by kernel_rfl
theorem S_foliantref05_long_ok {t0 : Value} {w : World} {K : Ending → World → Prop} (h : S_foliantref05_long t0 w K) : Calls Tryz.prog 168 #[t0] w K :=
  calls_of_wpX Tryz.func168 rfl rfl rfl rfl (Eq.mpr (S_foliantref05_long_eq t0 w K) h)

/- foliantref05.zero -/
def S_foliantref05_zero (t0 t1 t2 t3 t4 : Value) (w : World) (K : Ending → World → Prop) : Prop :=
 DoX Tryz.prog (mBox 25 t0) w (pk K) fun t5 w =>
 GDo t1 false (fun E => DoX Tryz.prog (mFA 25 t5 1) w (pk K) E) w fun t13 w =>
 GDo t1 false (fun E => DoX Tryz.prog (mLoad 2 t13) w (pk K) E) w fun t14 w =>
 GDo t1 false (fun E => DoX Tryz.prog (mEq .eql 2 (.tmp 14) (.const (.int .i64 0)) t14 (.int .i64 0)) w (pk K) E) w fun t15 w =>
 DoX Tryz.prog (mPick t1 (.bool true) t15) w (pk K) fun t16 w =>
 GDo t16 true (fun E => E t2 w) w fun t18 w =>
 GDo t16 true (fun E => E t18 w) w fun t19 w =>
 GDo t19 false (fun E => DoX Tryz.prog (mFA 25 t5 2) w (pk K) E) w fun t20 w =>
 GDo t19 false (fun E => DoX Tryz.prog (mLoad 3 t20) w (pk K) E) w fun t21 w =>
 GDo t19 false (fun E => DoX Tryz.prog (mEq .eql 3 (.tmp 21) (.const (.int .i64 0)) t21 (.int .i64 0)) w (pk K) E) w fun t22 w =>
 GDo t16 true (fun E => DoX Tryz.prog (mPick t19 (.bool true) t22) w (pk K) E) w fun t23 w =>
 DoX Tryz.prog (mPick t16 t23 (.bool false)) w (pk K) fun t24 w =>
 GDo t24 true (fun E => E t3 w) w fun t26 w =>
 GDo t24 true (fun E => E t26 w) w fun t27 w =>
 GDo t27 false (fun E => DoX Tryz.prog (mFA 25 t5 3) w (pk K) E) w fun t28 w =>
 GDo t27 false (fun E => DoX Tryz.prog (mLoad 9 t28) w (pk K) E) w fun t29 w =>
 GDo t27 false (fun E => DoX Tryz.prog (mEq .eql 9 (.tmp 29) (.const (.string ⟨#[]⟩)) t29 (.string ⟨#[]⟩)) w (pk K) E) w fun t30 w =>
 GDo t24 true (fun E => DoX Tryz.prog (mPick t27 (.bool true) t30) w (pk K) E) w fun t31 w =>
 DoX Tryz.prog (mPick t24 t31 (.bool false)) w (pk K) fun t32 w =>
 GDo t32 true (fun E => E t4 w) w fun t34 w =>
 GDo t32 true (fun E => E t34 w) w fun t35 w =>
 GDo t35 false (fun E => DoX Tryz.prog (mFA 25 t5 4) w (pk K) E) w fun t36 w =>
 GDo t35 false (fun E => DoX Tryz.prog (mLoad 22 t36) w (pk K) E) w fun t37 w =>
 GDo t35 false (fun E => DoX Tryz.prog (mB .len #[22] 3 #[false] #[t37]) w (pk K) E) w fun t38 w =>
 GDo t35 false (fun E => DoX Tryz.prog (mEq .eql 3 (.tmp 38) (.const (.int .i64 0)) t38 (.int .i64 0)) w (pk K) E) w fun t39 w =>
 GDo t35 false (fun E => E t39 w) w fun t40 w =>
 GDo t40 true (fun E => DoX Tryz.prog (mFA 25 t5 5) w (pk K) E) w fun t41 w =>
 GDo t40 true (fun E => DoX Tryz.prog (mLoad 23 t41) w (pk K) E) w fun t42 w =>
 GDo t40 true (fun E => DoX Tryz.prog (mB .len #[23] 3 #[false] #[t42]) w (pk K) E) w fun t43 w =>
 GDo t40 true (fun E => DoX Tryz.prog (mEq .eql 3 (.tmp 43) (.const (.int .i64 0)) t43 (.int .i64 0)) w (pk K) E) w fun t44 w =>
 GDo t35 false (fun E => DoX Tryz.prog (mPick t40 t44 (.bool false)) w (pk K) E) w fun t45 w =>
 GDo t32 true (fun E => DoX Tryz.prog (mPick t35 (.bool true) t45) w (pk K) E) w fun t46 w =>
 DoX Tryz.prog (mPick t32 t46 (.bool false)) w (pk K) fun t47 w =>
 K (.returned t47) w
theorem S_foliantref05_zero_eq (t0 t1 t2 t3 t4 : Value) (w : World) (K : Ending → World → Prop) : wpX Tryz.prog 48 [] [] none (bodyOf Tryz.f210) (topQ Tryz.prog [.tmp 10] K) (startX [t0, t1, t2, t3, t4]) [] w = S_foliantref05_zero t0 t1 t2 t3 t4 w K := by kernel_rfl
theorem S_foliantref05_zero_ok {t0 t1 t2 t3 t4 : Value} {w : World} {K : Ending → World → Prop} (h : S_foliantref05_zero t0 t1 t2 t3 t4 w K) : Calls Tryz.prog 210 #[t0, t1, t2, t3, t4] w K :=
  calls_of_wpX Tryz.func210 rfl rfl rfl rfl (Eq.mpr (S_foliantref05_zero_eq t0 t1 t2 t3 t4 w K) h)

/- foliantref05.Name -/
def S_foliantref05_Name_0 (t0 t3 : Value) (w : World) (N1 : List Value → World → Prop) (K : Ending → World → Prop) : Prop :=
 DoX Tryz.prog (mB .len #[9] 3 #[false] #[t0]) w (pk K) fun t6 w =>
 DoX Tryz.prog (mBin .lss 3 t3 t6) w (pk K) fun t7 w =>
 IfX t7 (DoX Tryz.prog (mIx 9 t0 t3) w (pk K) fun t12 w =>
 DoX Tryz.prog (mEq .eql 5 (.tmp 12) (.const (.int .u8 0)) t12 (.int .u8 0)) w (pk K) fun t13 w =>
 IfX t13 (K (.returned (.bool false)) w) (DoX Tryz.prog (mBin .add 3 t3 (.int .i64 1)) w (pk K) fun t9 w =>
 N1 [t9] w)) (DoX Tryz.prog (mB .len #[9] 3 #[false] #[t0]) w (pk K) fun t15 w =>
 DoX Tryz.prog (mBin .leq 3 t15 (.int .i64 127)) w (pk K) fun t16 w =>
 K (.returned t16) w)
def S_foliantref05_Name (t0 : Value) (w : World) (K : Ending → World → Prop) : Prop :=
 LoopX [(.int .i64 0)] w (fun vs1 w N1 => ∀ _ : Sg, S_foliantref05_Name_0 t0 (vs1.getD 0 undef) w N1 K)
theorem S_foliantref05_Name_eq (t0 : Value) (w : World) (K : Ending → World → Prop) : wpX Tryz.prog 17 [] [(2, [3])] none (bodyOf Tryz.f211) (topQ Tryz.prog [.tmp 2] K) (startX [t0]) [] w = S_foliantref05_Name t0 w K := by kernel_rfl
theorem S_foliantref05_Name_ok {t0 : Value} {w : World} {K : Ending → World → Prop} (h : S_foliantref05_Name t0 w K) : Calls Tryz.prog 211 #[t0] w K :=
  calls_of_wpX Tryz.func211 rfl rfl rfl rfl (Eq.mpr (S_foliantref05_Name_eq t0 w K) h)

/- foliantref05.keys -/
def S_foliantref05_keys_0 (t1 t27 t28 t29 : Value) (w : World) (N1 : List Value → World → Prop) (K : Ending → World → Prop) : Prop :=
 DoX Tryz.prog (mBin .lss 3 t29 t28) w (pk K) fun t30 w =>
 IfX t30 (DoX Tryz.prog (mIA 22 t27 t29) w (pk K) fun t32 w =>
 DoX Tryz.prog (mLoad 9 t32) w (pk K) fun t33 w =>
 CallX Tryz.prog 211 #[t33] w (pk K) fun t35 w =>
 DoX Tryz.prog (mUn .not t35) w (pk K) fun t36 w =>
 GDo t36 false (fun E => E t29 w) w fun t38 w =>
 GDo t36 false (fun E => DoX Tryz.prog (mBin .gtr 3 t38 (.int .i64 0)) w (pk K) E) w fun t39 w =>
 GDo t36 false (fun E => E t39 w) w fun t40 w =>
 GDo t40 true (fun E => E t33 w) w fun t41 w =>
 GDo t40 true (fun E => DoX Tryz.prog (mFA 25 t1 4) w (pk K) E) w fun t42 w =>
 GDo t40 true (fun E => DoX Tryz.prog (mLoad 22 t42) w (pk K) E) w fun t43 w =>
 GDo t40 true (fun E => E t29 w) w fun t44 w =>
 GDo t40 true (fun E => DoX Tryz.prog (mBin .sub 3 t44 (.int .i64 1)) w (pk K) E) w fun t45 w =>
 GDo t40 true (fun E => DoX Tryz.prog (mIA 22 t43 t45) w (pk K) E) w fun t46 w =>
 GDo t40 true (fun E => DoX Tryz.prog (mLoad 9 t46) w (pk K) E) w fun t47 w =>
 GDo t40 true (fun E => DoX Tryz.prog (mBin .leq 9 t41 t47) w (pk K) E) w fun t48 w =>
 GDo t36 false (fun E => DoX Tryz.prog (mPick t40 t48 (.bool false)) w (pk K) E) w fun t49 w =>
 DoX Tryz.prog (mPick t36 (.bool true) t49) w (pk K) fun t50 w =>
 GDo t50 false (fun E => E t33 w) w fun t52 w =>
 GDo t50 false (fun E => DoX Tryz.prog (mEq .eql 9 (.tmp 52) (.const (.string ⟨#[76, 101, 110, 103, 116, 104]⟩)) t52 (.string ⟨#[76, 101, 110, 103, 116, 104]⟩)) w (pk K) E) w fun t53 w =>
 GDo t50 false (fun E => E t53 w) w fun t54 w =>
 GDo t54 true (fun E => DoX Tryz.prog (mFA 25 t1 0) w (pk K) E) w fun t55 w =>
 GDo t54 true (fun E => DoX Tryz.prog (mLoad 3 t55) w (pk K) E) w fun t56 w =>
 GDo t54 true (fun E => DoX Tryz.prog (mEq .eql 3 (.tmp 56) (.const (.int .i64 9)) t56 (.int .i64 9)) w (pk K) E) w fun t57 w =>
 GDo t50 false (fun E => DoX Tryz.prog (mPick t54 t57 (.bool false)) w (pk K) E) w fun t58 w =>
 DoX Tryz.prog (mPick t50 (.bool true) t58) w (pk K) fun t59 w =>
 GDo t59 false (fun E => DoX Tryz.prog (mFA 25 t1 5) w (pk K) E) w fun t61 w =>
 GDo t59 false (fun E => DoX Tryz.prog (mLoad 23 t61) w (pk K) E) w fun t62 w =>
 GDo t59 false (fun E => E t29 w) w fun t63 w =>
 GDo t59 false (fun E => DoX Tryz.prog (mIA 23 t62 t63) w (pk K) E) w fun t64 w =>
 GDo t59 false (fun E => DoX Tryz.prog (mFA 25 t64 0) w (pk K) E) w fun t65 w =>
 GDo t59 false (fun E => DoX Tryz.prog (mLoad 3 t65) w (pk K) E) w fun t66 w =>
 GDo t59 false (fun E => DoX Tryz.prog (mEq .eql 3 (.tmp 66) (.const (.int .i64 0)) t66 (.int .i64 0)) w (pk K) E) w fun t67 w =>
 DoX Tryz.prog (mPick t59 (.bool true) t67) w (pk K) fun t68 w =>
 IfX t68 (K (.returned (.bool false)) w) (DoX Tryz.prog (mBin .add 3 t29 (.int .i64 1)) w (pk K) fun t69 w =>
 N1 [t69] w)) (K (.returned (.bool true)) w)
def S_foliantref05_keys (t0 : Value) (w : World) (K : Ending → World → Prop) : Prop :=
 DoX Tryz.prog (mBox 25 t0) w (pk K) fun t1 w =>
 DoX Tryz.prog (mFA 25 t1 0) w (pk K) fun t5 w =>
 DoX Tryz.prog (mLoad 3 t5) w (pk K) fun t6 w =>
 DoX Tryz.prog (mEq .eql 3 (.tmp 6) (.const (.int .i64 5)) t6 (.int .i64 5)) w (pk K) fun t7 w =>
 IfX t7 (DoX Tryz.prog (mFA 25 t1 3) w (pk K) fun t8 w =>
 DoX Tryz.prog (mLoad 9 t8) w (pk K) fun t9 w =>
 CallX Tryz.prog 211 #[t9] w (pk K) fun t10 w =>
 K (.returned t10) w) (DoX Tryz.prog (mFA 25 t1 0) w (pk K) fun t11 w =>
 DoX Tryz.prog (mLoad 3 t11) w (pk K) fun t12 w =>
 DoX Tryz.prog (mEq .neq 3 (.tmp 12) (.const (.int .i64 7)) t12 (.int .i64 7)) w (pk K) fun t13 w =>
 GDo t13 true (fun E => DoX Tryz.prog (mFA 25 t1 0) w (pk K) E) w fun t15 w =>
 GDo t13 true (fun E => DoX Tryz.prog (mLoad 3 t15) w (pk K) E) w fun t16 w =>
 GDo t13 true (fun E => DoX Tryz.prog (mEq .neq 3 (.tmp 16) (.const (.int .i64 9)) t16 (.int .i64 9)) w (pk K) E) w fun t17 w =>
 DoX Tryz.prog (mPick t13 t17 (.bool false)) w (pk K) fun t18 w =>
 IfX t18 (K (.returned (.bool true)) w) (DoX Tryz.prog (mFA 25 t1 4) w (pk K) fun t19 w =>
 DoX Tryz.prog (mLoad 22 t19) w (pk K) fun t20 w =>
 DoX Tryz.prog (mB .len #[22] 3 #[false] #[t20]) w (pk K) fun t21 w =>
 DoX Tryz.prog (mFA 25 t1 5) w (pk K) fun t22 w =>
 DoX Tryz.prog (mLoad 23 t22) w (pk K) fun t23 w =>
 DoX Tryz.prog (mB .len #[23] 3 #[false] #[t23]) w (pk K) fun t24 w =>
 DoX Tryz.prog (mEq .neq 3 (.tmp 21) (.tmp 24) t21 t24) w (pk K) fun t25 w =>
 IfX t25 (K (.returned (.bool false)) w) (DoX Tryz.prog (mFA 25 t1 4) w (pk K) fun t26 w =>
 DoX Tryz.prog (mLoad 22 t26) w (pk K) fun t27 w =>
 DoX Tryz.prog (mB .len #[22] 3 #[false] #[t27]) w (pk K) fun t28 w =>
 LoopX [(.int .i64 0)] w (fun vs1 w N1 => ∀ _ : Sg, S_foliantref05_keys_0 t1 t27 t28 (vs1.getD 0 undef) w N1 K))))
theorem S_foliantref05_keys_eq (t0 : Value) (w : World) (K : Ending → World → Prop) : wpX Tryz.prog 70 [] [(8, [29])] none (bodyOf Tryz.f169) (topQ Tryz.prog [.tmp 2] K) (startX [t0]) [] w = S_foliantref05_keys t0 w K := by kernel_rfl
theorem S_foliantref05_keys_ok {t0 : Value} {w : World} {K : Ending → World → Prop} (h : S_foliantref05_keys t0 w K) : Calls Tryz.prog 169 #[t0] w K :=
  calls_of_wpX Tryz.func169 rfl rfl rfl rfl (Eq.mpr (S_foliantref05_keys_eq t0 w K) h)

/- foliantref05.check -/
def S_foliantref05_check_0 (t1 t40 t41 t42 : Value) (w : World) (N2 : List Value → World → Prop) (K : Ending → World → Prop) : Prop :=
 DoX Tryz.prog (mBin .lss 3 t42 t41) w (pk K) fun t43 w =>
 IfX t43 (DoX Tryz.prog (mIA 23 t40 t42) w (pk K) fun t44 w =>
 DoX Tryz.prog (mLoad 25 t44) w (pk K) fun t45 w =>
 DoX Tryz.prog (mAlloc 25) w (pk K) fun t6 w =>
 DoX Tryz.prog (mStore 25 t6 t45) w (pk K) fun _ w =>
 DoX Tryz.prog (mLoad 25 t6) w (pk K) fun t46 w =>
 DoX Tryz.prog (mBin .add 3 t1 (.int .i64 1)) w (pk K) fun t48 w =>
 CallX Tryz.prog 102 #[t46, t48] w (pk K) fun t49 w =>
 DoX Tryz.prog (mEq .neq 28 (.tmp 50) (.const (.int .i64 0)) t49 (.int .i64 0)) w (pk K) fun t51 w =>
 IfX t51 (K (.returned t49) w) (DoX Tryz.prog (mBin .add 3 t42 (.int .i64 1)) w (pk K) fun t53 w =>
 N2 [t53] w)) (K (.returned (.int .i64 0)) w)
def S_foliantref05_check (t0 t1 : Value) (w : World) (K : Ending → World → Prop) : Prop :=
 DoX Tryz.prog (mBox 25 t0) w (pk K) fun t2 w =>
 DoX Tryz.prog (mBin .gtr 3 t1 (.int .i64 24)) w (pk K) fun t9 w =>
 IfX t9 (K (.returned (.int .i64 7)) w) (DoX Tryz.prog (mLoad 25 t2) w (pk K) fun t10 w =>
 CallX Tryz.prog 166 #[t10] w (pk K) fun t11 w =>
 DoX Tryz.prog (mUn .not t11) w (pk K) fun t12 w =>
 GDo t12 false (fun E => DoX Tryz.prog (mFA 25 t2 0) w (pk K) E) w fun t14 w =>
 GDo t12 false (fun E => DoX Tryz.prog (mLoad 3 t14) w (pk K) E) w fun t15 w =>
 GDo t12 false (fun E => DoX Tryz.prog (mEq .eql 3 (.tmp 15) (.const (.int .i64 9)) t15 (.int .i64 9)) w (pk K) E) w fun t16 w =>
 GDo t12 false (fun E => E t16 w) w fun t17 w =>
 GDo t17 true (fun E => E t1 w) w fun t18 w =>
 GDo t17 true (fun E => DoX Tryz.prog (mBin .gtr 3 t18 (.int .i64 1)) w (pk K) E) w fun t19 w =>
 GDo t12 false (fun E => DoX Tryz.prog (mPick t17 t19 (.bool false)) w (pk K) E) w fun t20 w =>
 DoX Tryz.prog (mPick t12 (.bool true) t20) w (pk K) fun t21 w =>
 IfX t21 (K (.returned (.int .i64 10)) w) (DoX Tryz.prog (mLoad 25 t2) w (pk K) fun t22 w =>
 CallX Tryz.prog 167 #[t22] w (pk K) fun t23 w =>
 DoX Tryz.prog (mUn .not t23) w (pk K) fun t24 w =>
 IfX t24 (K (.returned (.int .i64 2)) w) (QuietX w (fun C1 =>
 QDo Tryz.prog C1 (mFA 25 t2 3) fun t25 =>
 QDo Tryz.prog C1 (mLoad 9 t25) fun t26 =>
 QDo Tryz.prog C1 (mB .len #[9] 3 #[false] #[t26]) fun t27 =>
 QDo Tryz.prog C1 (mFA 25 t2 0) fun t28 =>
 QDo Tryz.prog C1 (mLoad 3 t28) fun t29 =>
 QCall Tryz.prog C1 168 #[t29] fun t30 =>
 QDo Tryz.prog C1 (mBin .gtr 3 t27 t30) fun t31 =>
 ∀ w, C1 w →
 IfX t31 (K (.returned (.int .i64 5)) w) (DoX Tryz.prog (mFA 25 t2 5) w (pk K) fun t32 w =>
 DoX Tryz.prog (mLoad 23 t32) w (pk K) fun t33 w =>
 DoX Tryz.prog (mB .len #[23] 3 #[false] #[t33]) w (pk K) fun t34 w =>
 DoX Tryz.prog (mBin .gtr 3 t34 (.int .i64 8191)) w (pk K) fun t35 w =>
 IfX t35 (K (.returned (.int .i64 6)) w) (DoX Tryz.prog (mLoad 25 t2) w (pk K) fun t36 w =>
 CallX Tryz.prog 169 #[t36] w (pk K) fun t37 w =>
 DoX Tryz.prog (mUn .not t37) w (pk K) fun t38 w =>
 IfX t38 (K (.returned (.int .i64 3)) w) (DoX Tryz.prog (mFA 25 t2 5) w (pk K) fun t39 w =>
 DoX Tryz.prog (mLoad 23 t39) w (pk K) fun t40 w =>
 DoX Tryz.prog (mB .len #[23] 3 #[false] #[t40]) w (pk K) fun t41 w =>
 LoopX [(.int .i64 0)] w (fun vs2 w N2 => ∀ _ : Sg, S_foliantref05_check_0 t1 t40 t41 (vs2.getD 0 undef) w N2 K))))))))
theorem S_foliantref05_check_eq (t0 t1 : Value) (w : World) (K : Ending → World → Prop) : wpX Tryz.prog 54 [] [(14, [42])] none (bodyOf Tryz.f102) (topQ Tryz.prog [.tmp 4] K) (startX [t0, t1]) [] w = S_foliantref05_check t0 t1 w K := by kernel_rfl
theorem S_foliantref05_check_ok {t0 t1 : Value} {w : World} {K : Ending → World → Prop} (h : S_foliantref05_check t0 t1 w K) : Calls Tryz.prog 102 #[t0, t1] w K :=
  calls_of_wpX Tryz.func102 rfl rfl rfl rfl (Eq.mpr (S_foliantref05_check_eq t0 t1 w K) h)

/- foliantref05.Check -/
def S_foliantref05_Check (t0 : Value) (w : World) (K : Ending → World → Prop) : Prop :=
 DoX Tryz.prog (mBox 25 t0) w (pk K) fun t1 w =>
 DoX Tryz.prog (mLoad 25 t1) w (pk K) fun t3 w =>
 CallX Tryz.prog 102 #[t3, (.int .i64 1)] w (pk K) fun t4 w =>
 K (.returned t4) w
theorem S_foliantref05_Check_eq (t0 : Value) (w : World) (K : Ending → World → Prop) : wpX Tryz.prog 5 [] [] none (bodyOf Tryz.f49) (topQ Tryz.prog [.tmp 2] K) (startX [t0]) [] w = S_foliantref05_Check t0 w K := by kernel_rfl
theorem S_foliantref05_Check_ok {t0 : Value} {w : World} {K : Ending → World → Prop} (h : S_foliantref05_Check t0 w K) : Calls Tryz.prog 49 #[t0] w K :=
  calls_of_wpX Tryz.func49 rfl rfl rfl rfl (Eq.mpr (S_foliantref05_Check_eq t0 w K) h)

end Go.Proofs.YtiklhhdohckfiaaGreatDoor
/- Contracts: the reference's form and Read. -/
namespace Go.Proofs.YtiklhhdohckfiaaGreatDoor
set_option linter.unusedVariables false
set_option linter.unusedSimpArgs false
set_option linter.defProp false
open Eng Go.RowKit
set_option linter.unusedVariables false
set_option linter.unusedSimpArgs false

theorem u8i (c : UInt8) (k : Nat) (d : UInt8) (hd : d.toNat = k) : ((c.toNat : Int) = (k : Int)) ↔ c = d := by
  rw [← UInt8.toNat_inj, hd]; omega

theorem form_ret (s : List UInt8) (w : World) (hs : s.length ≤ 4611686018427387904) : Ret Tryz.prog 271 #[.string ⟨s.toArray⟩] w
    (fun v w' => (∃ (a b : List UInt8) (m : Bool), v = .tuple #[.string ⟨a.toArray⟩, .string ⟨b.toArray⟩, .bool m, .bool (Fx.form s)] ∧ (Fx.form s = true → a = Fx.whole (Fx.body s) ∧ b = Fx.part (Fx.body s) ∧ m = Fx.minus s)) ∧ w = w') := by
  refine ret_of fun K hK => S_foliantref02_form_ok ?_
  unfold S_foliantref02_form
  simp only [s_len Tryz.underlying9, rs]
  by_cases h40 : (40 : Int) < (s.length : Int)
  · simp only [h40, decide_true, rs]
    have hf : Fx.form s = false := by rw [Fx.form, decide_eq_false (by omega), Bool.false_and, Bool.false_and, Bool.false_and]
    exact hK _ _ ⟨⟨[], [], false, by rw [hf], by rw [hf]; intro h; cases h⟩, rfl⟩
  · simp only [h40, decide_false, rs]
    have main : ∀ (l : List UInt8) (m : Bool), l = Fx.body s → m = Fx.minus s → l.length ≤ s.length → S_foliantref02_form_0 (.string ⟨l.toArray⟩) (.bool m) w K := by
      intro l m hl hm hls
      unfold S_foliantref02_form_0
      have hscan := Fx.scan_false l []
      refine loop (fun vs w' => ∃ (a b : List UInt8) (pt : Bool) (k : Nat), vs = [.string ⟨a.toArray⟩, .string ⟨b.toArray⟩, .bool pt, .int .i64 k] ∧ k ≤ l.length ∧ a.length + b.length ≤ k ∧ Fx.scan (l.drop k) a b pt = Fx.scan l [] [] false ∧ w = w')
        (fun vs _ => l.length - (intOf (vs.getD 3 undef)).toNat) ⟨[], [], false, 0, rfl, by omega, by simp, by simp, rfl⟩ ?_
      rintro vs w' ⟨a, b, pt, k, rfl, hk, hab, hsc, rfl⟩ _
      simp only [S_foliantref02_form_1, gd, s_len Tryz.underlying9, rs]
      by_cases hlt : k < l.length
      · have hlt' : (k : Int) < (l.length : Int) := by omega
        simp only [hlt', decide_true, rs]
        have hd : l.drop k = l[k] :: l.drop (k + 1) := (List.getElem_cons_drop hlt).symm
        have hg : l[(k : Int).toNat]? = some l[k] := by rw [Int.toNat_natCast]; exact List.getElem?_eq_getElem hlt
        rw [hd] at hsc
        generalize l[k] = c at *
        have hsl : ((l.drop (k : Int).toNat).take (((k : Int) + 1).toNat - (k : Int).toNat)) = [c] := by
          rw [Int.toNat_natCast, hd, show ((k : Int) + 1).toNat - k = 1 by omega]; rfl
        refine join fun J hJ => ?_
        have next : ∀ (a' b' : List UInt8) (pt' : Bool), a'.length + b'.length ≤ k + 1 → Fx.scan (l.drop (k + 1)) a' b' pt' = Fx.scan l [] [] false → J [.string ⟨a'.toArray⟩, .string ⟨b'.toArray⟩, .bool pt'] w := by
          intro a' b' pt' h1 h2
          refine hJ _ _ fun _ => ?_
          simp only [S_foliantref02_form_2, gd, rs]
          rw [wrap64_id (by omega) (by omega)]
          exact nextX ⟨a', b', pt', k + 1, by simp, by omega, h1, h2, rfl⟩ (by simp [intOf]; omega)
        simp only [s_ix Tryz.underlying9 (show (0 : Int) ≤ (k : Int) by omega) hg, rs]
        have rest : ¬ (c = 46 ∧ pt = false) → Fx.isDig c = true → IfX (.bool pt) (DoX Tryz.prog (mSlice 9 (.string ⟨l.toArray⟩) (some (.int .i64 k)) (some (.int .i64 (k + 1))) none) w (pk K) fun t61 ww =>
            DoX Tryz.prog (mBin .add 9 (.string ⟨b.toArray⟩) t61) ww (pk K) fun t62 ww =>
            J [.string ⟨a.toArray⟩, t62, .bool pt] ww) (DoX Tryz.prog (mSlice 9 (.string ⟨l.toArray⟩) (some (.int .i64 k)) (some (.int .i64 (k + 1))) none) w (pk K) fun t68 ww =>
            DoX Tryz.prog (mBin .add 9 (.string ⟨a.toArray⟩) t68) ww (pk K) fun t69 ww =>
            J [t69, .string ⟨b.toArray⟩, .bool pt] ww) := by
          intro hn hdg
          cases pt with
          | true =>
            simp only [rs]
            rw [s_slice Tryz.underlying9 (by omega) (by omega) (by omega), hsl, s_add (by simp; omega)]
            refine next a (b ++ [c]) true (by simp; omega) ?_
            rw [← hsc, Fx.scan, if_pos hdg]
          | false =>
            simp only [rs]
            rw [s_slice Tryz.underlying9 (by omega) (by omega) (by omega), hsl, s_add (by simp; omega)]
            refine next (a ++ [c]) b false (by simp; omega) ?_
            have hc : c ≠ 46 := fun e => hn ⟨e, rfl⟩
            rw [← hsc, Fx.scan, if_neg hc, if_pos hdg]
        have fail : Fx.scan l [] [] false = none → K (.returned (.tuple #[.string ⟨#[]⟩, .string ⟨#[]⟩, .bool false, .bool false])) w := by
          intro hno
          have hf : Fx.form s = false := by
            rw [hscan] at hno
            have hall : ((Fx.whole l).all Fx.isDig && (Fx.part l).all Fx.isDig) = false := by
              cases hh : ((Fx.whole l).all Fx.isDig && (Fx.part l).all Fx.isDig) with
              | false => rfl
              | true => rw [hh] at hno; cases hno
            rw [hl] at hall
            rw [Fx.form, Bool.and_assoc (decide _), hall, Bool.and_false, Bool.false_and]
          exact hK _ _ ⟨⟨[], [], false, by rw [hf], by rw [hf]; intro h; cases h⟩, rfl⟩
        by_cases hc : c = 46
        · subst hc
          simp only [show (((46 : UInt8).toNat : Nat) : Int) = 46 from rfl, decide_true, rs]
          cases pt with
          | false =>
            simp only [rs]
            refine next a b true (by omega) ?_
            rw [← hsc, Fx.scan, if_pos rfl]
          | true =>
            simp only [rs, show ((46 : Int) < 48) by omega, decide_true]
            refine fail ?_
            rw [← hsc, Fx.scan]; rfl
        · have hc' : ¬ ((c.toNat : Int) = 46) := fun e => hc ((u8i c 46 46 rfl).1 e)
          simp only [hc', decide_false, rs]
          by_cases hdg : Fx.isDig c = true
          · have hdb := Fx.isDig_bd hdg
            simp only [show ¬ ((c.toNat : Int) < 48) by omega, show ¬ ((57 : Int) < (c.toNat : Int)) by omega, decide_false, rs, s_ix Tryz.underlying9 (show (0 : Int) ≤ (k : Int) by omega) hg]
            rw [wrap64_id (by omega) (by omega)]
            exact rest (fun e => hc e.1) hdg
          · have hnd : Fx.scan l [] [] false = none := by
              rw [← hsc]
              cases pt with
              | true => rw [Fx.scan, if_neg hdg]
              | false => rw [Fx.scan, if_neg hc, if_neg hdg]
            have hdb : (c.toNat : Int) < 48 ∨ (57 : Int) < (c.toNat : Int) := by
              simp [Fx.isDig] at hdg; omega
            by_cases h48 : (c.toNat : Int) < 48
            · simp only [h48, decide_true, rs]; exact fail hnd
            · have h57 : (57 : Int) < (c.toNat : Int) := by omega
              simp only [h48, h57, decide_true, decide_false, rs, s_ix Tryz.underlying9 (show (0 : Int) ≤ (k : Int) by omega) hg]; exact fail hnd
      · have hlt' : ¬ (k : Int) < (l.length : Int) := by omega
        simp only [hlt', decide_false, rs]
        rw [wrap64_id (by omega) (by omega)]
        have hd : l.drop k = [] := List.drop_eq_nil_of_le (by omega)
        have he : Fx.scan [] a b pt = some (a, b) := by cases pt <;> rfl
        rw [hd, he, hscan] at hsc
        have hall : ((Fx.whole l).all Fx.isDig && (Fx.part l).all Fx.isDig) = true := by
          cases hh : ((Fx.whole l).all Fx.isDig && (Fx.part l).all Fx.isDig) with
          | true => rfl
          | false => rw [hh] at hsc; cases hsc
        rw [if_pos hall] at hsc
        simp only [List.nil_append, Option.some.injEq, Prod.mk.injEq] at hsc
        obtain ⟨rfl, rfl⟩ := hsc
        have hf : Fx.form s = decide ((0 : Int) < ((Fx.whole l).length : Int) + ((Fx.part l).length : Int)) := by
          rw [Fx.form, ← hl, Bool.and_assoc (decide _), hall, Bool.and_true, decide_eq_true (show s.length ≤ 40 by omega), Bool.true_and, decide_eq_decide]; omega
        exact hK _ _ ⟨⟨_, _, _, by rw [hf], fun _ => ⟨by rw [hl], by rw [hl], hm⟩⟩, rfl⟩
    refine join fun J hJ => ?_
    cases s with
    | nil =>
      simp only [ne_eq, not_true_eq_false, decide_false, rs, g_un]
      refine hJ _ _ fun _ => ?_
      exact main [] false rfl rfl (by simp)
    | cons c t =>
      have hix : (c :: t)[(0 : Int).toNat]? = some c := rfl
      simp only [ne_eq, reduceCtorEq, not_false_eq_true, decide_true, rs, s_ix Tryz.underlying9 (show (0 : Int) ≤ 0 by omega) hix]
      by_cases h43 : c = 43
      · subst h43
        simp only [show (((43 : UInt8).toNat : Nat) : Int) = 43 from rfl, show ¬ ((43 : Int) = 45) by omega, decide_true, decide_false, rs, s_ix Tryz.underlying9 (show (0 : Int) ≤ 0 by omega) hix]
        rw [s_from Tryz.underlying9 (by omega) (by simp; omega)]
        exact hJ _ _ fun _ => main t false rfl rfl (by simp)
      · have h43' : ¬ ((c.toNat : Int) = 43) := fun e => h43 ((u8i c 43 43 rfl).1 e)
        simp only [h43', decide_false, rs]
        by_cases h45 : c = 45
        · subst h45
          simp only [show (((45 : UInt8).toNat : Nat) : Int) = 45 from rfl, decide_true, rs, s_ix Tryz.underlying9 (show (0 : Int) ≤ 0 by omega) hix]
          rw [s_from Tryz.underlying9 (by omega) (by simp; omega)]
          exact hJ _ _ fun _ => main t true rfl rfl (by simp)
        · have h45' : ¬ ((c.toNat : Int) = 45) := fun e => h45 ((u8i c 45 45 rfl).1 e)
          simp only [h45', decide_false, rs, s_ix Tryz.underlying9 (show (0 : Int) ≤ 0 by omega) hix]
          refine hJ _ _ fun _ => ?_
          exact main (c :: t) false (by rw [Fx.body, if_neg (by simp [h43, h45])]) (by rw [Fx.minus, decide_eq_false h45]) (by simp)
end Go.Proofs.YtiklhhdohckfiaaGreatDoor
/- Contracts: Read, of the reference and of the program. -/
namespace Go.Proofs.YtiklhhdohckfiaaGreatDoor
set_option linter.unusedVariables false
set_option linter.unusedSimpArgs false
set_option linter.defProp false
open Eng Go.RowKit
set_option linter.unusedVariables false
set_option linter.unusedSimpArgs false

theorem ans_out {x : Int} (h : 1073741824 < x ∨ x < -1073741824) : Fx.ans x = (0, 2) := by
  have : Fx.okB x = false := by simp [Fx.okB]; omega
  rw [Fx.ans, this]; rfl
theorem form_parts {s : List UInt8} (h : Fx.form s = true) : s.length ≤ 40 ∧ (Fx.whole (Fx.body s)).all Fx.isDig = true ∧ (Fx.part (Fx.body s)).all Fx.isDig = true := by
  simp only [Fx.form, Bool.and_eq_true, decide_eq_true_eq] at h
  exact ⟨h.1.1.1, h.1.1.2, h.1.2⟩
/-- The reference's capped value answers alike. -/
theorem read_ref {s : List UInt8} (h : Fx.form s = true) : Fx.ans (if Fx.minus s then -(Fx.cap 0 (Fx.whole (Fx.body s) ++ Fx.four (Fx.part (Fx.body s))) + (if Fx.more ((Fx.part (Fx.body s)).drop 4) (Fx.minus s) then 1 else 0))
    else Fx.cap 0 (Fx.whole (Fx.body s) ++ Fx.four (Fx.part (Fx.body s))) + (if Fx.more ((Fx.part (Fx.body s)).drop 4) (Fx.minus s) then 1 else 0)) = Fx.read s := by
  obtain ⟨_, hw, hp⟩ := form_parts h
  have hall : (Fx.whole (Fx.body s) ++ Fx.four (Fx.part (Fx.body s))).all Fx.isDig = true := by rw [List.all_append, hw, Fx.four_all hp]; rfl
  rw [Fx.read, if_pos h, Fx.mag, Fx.cap_eq _ 0 0 hall (by omega) (by omega), Fx.val_append]
  have h1 := Fx.val_ge _ 0 hw (by omega)
  have h2 := Fx.val4 (Fx.four (Fx.part (Fx.body s))) (Fx.val 0 (Fx.whole (Fx.body s))) (Fx.four_length _) (Fx.four_all hp)
  generalize Fx.val 0 (Fx.whole (Fx.body s)) = W at *
  generalize Fx.val W (Fx.four (Fx.part (Fx.body s))) = V at *
  have hm : ∀ x : Bool, 0 ≤ (if x then (1 : Int) else 0) ∧ (if x then (1 : Int) else 0) ≤ 1 := by intro x; cases x <;> simp
  have hm' := hm (Fx.more ((Fx.part (Fx.body s)).drop 4) (Fx.minus s))
  generalize (if Fx.more ((Fx.part (Fx.body s)).drop 4) (Fx.minus s) then (1 : Int) else 0) = e at *
  by_cases hW : W > 1073741824
  · rw [if_pos hW]
    split <;> exact ans_out (by omega)
  · rw [if_neg hW]
    by_cases hV : V ≤ 1099511627776
    · rw [show min V 1099511627776 = V by omega]
    · split
      · rw [ans_out (x := -(min V 1099511627776 + e)) (by omega), ans_out (by omega)]
      · rw [ans_out (x := (min V 1099511627776 + e)) (by omega), ans_out (by omega)]

theorem rread_ret (s : List UInt8) (w : World) (hs : s.length ≤ 4611686018427387904) : Ret Tryz.prog 250 #[.string ⟨s.toArray⟩] w (fun v w' => v = pair (Fx.read s) ∧ Below w.heap.size w w') := by
  refine ret_of fun K hK => S_foliantref02_Read_ok ?_
  unfold S_foliantref02_Read
  refine c_ret (form_ret s w hs) ?_
  rintro v w1 ⟨⟨a, b, m, rfl, hf⟩, rfl⟩
  simp only [ex, rs]
  by_cases ho : Fx.form s = true
  · obtain ⟨rfl, rfl, rfl⟩ := hf ho
    obtain ⟨h40, hw, hp⟩ := form_parts ho
    have hbl : (Fx.body s).length ≤ s.length := by
      cases s with
      | nil => simp [Fx.body]
      | cons c t => rw [Fx.body]; split <;> simp
    have hwl : (Fx.whole (Fx.body s)).length ≤ (Fx.body s).length := by
      have := (List.takeWhile_sublist (fun c => c != 46) (l := Fx.body s)).length_le; exact this
    have hpl : (Fx.part (Fx.body s)).length ≤ (Fx.body s).length := by
      have := (List.dropWhile_sublist (fun c => c != 46) (l := Fx.body s)).length_le
      rw [Fx.part, List.length_drop]; omega
    have href := read_ref ho
    rw [ho]
    simp only [rs]
    have hall : (Fx.whole (Fx.body s) ++ Fx.four (Fx.part (Fx.body s))).all Fx.isDig = true := by rw [List.all_append, hw, Fx.four_all hp]; rfl
    rw [s_add (b := [48, 48, 48, 48]) (by simp; omega), s_upto Tryz.underlying9 (by omega) (by simp; omega)]
    change DoX _ (mBin .add _ _ (.string ⟨(Fx.four (Fx.part (Fx.body s))).toArray⟩)) _ _ _
    rw [s_add (by rw [Fx.four_length]; omega)]
    have hal : (Fx.whole (Fx.body s) ++ Fx.four (Fx.part (Fx.body s))).length ≤ 44 := by rw [List.length_append, Fx.four_length]; omega
    generalize Fx.whole (Fx.body s) ++ Fx.four (Fx.part (Fx.body s)) = all at *
    generalize Fx.part (Fx.body s) = part at *
    generalize Fx.minus s = neg at *
    refine loop (fun vs w' => ∃ k : Nat, k ≤ all.length ∧ vs = [.int .i64 (Fx.cap 0 (all.take k)), .int .i64 k] ∧ w = w') (fun vs _ => all.length - n1 vs) ⟨0, by omega, rfl, rfl⟩ ?_
    rintro vs w' ⟨k, hk, rfl, rfl⟩ _
    simp only [S_foliantref02_Read_0, gd, s_len Tryz.underlying9, rs]
    have hcb := Fx.cap_bd (all.take k) (by
      rw [List.all_eq_true] at hall ⊢
      exact fun x hx => hall x (List.mem_of_mem_take hx))
    by_cases hlt : k < all.length
    · have hlt' : (k : Int) < (all.length : Int) := by omega
      have hdg := Fx.isDig_bd (List.all_eq_true.1 hall all[k] (List.getElem_mem hlt))
      simp only [hlt', decide_true, rs]
      rw [s_ix (c := all[k]) Tryz.underlying9 (by omega) (by rw [Int.toNat_natCast]; exact List.getElem?_eq_getElem hlt)]
      simp only [rs]
      rw [wrap8_id (by omega) (by omega), c_int (show (Tryz.prog.underlying 5).isSome = true by kernel_rfl) Tryz.underlying2]
      simp only [rs, m_min]
      rw [wrap64_id (n := ((all[k].toNat : Nat) : Int) - 48) (by omega) (by omega), wrap64_id (n := 10 * _) (by omega) (by omega), wrap64_id (by omega) (by omega), wrap64_id (by omega) (by omega)]
      refine nextX ⟨k + 1, by omega, ?_, rfl⟩ (by simp [n1, intOf]; omega)
      rw [Fx.cap_take 0 all k hlt]; rfl
    · have hlt' : ¬ (k : Int) < (all.length : Int) := by omega
      simp only [hlt', decide_false, rs]
      rw [List.take_of_length_le (by omega)] at hcb ⊢
      generalize Fx.cap 0 all = n at *
      refine join fun J0 hJ0 => ?_
      have afterMore : ∀ b : Bool, b = Fx.more (part.drop 4) neg → S_foliantref02_Read_3 (.bool neg) (.int .i64 n) (.bool b) w K := by
        intro b hb
        subst hb
        rw [S_foliantref02_Read_3]
        refine join fun J3 hJ3 => ?_
        have h5 : ∀ m : Int, 0 ≤ m → m ≤ 1099511627777 → m = n + (if Fx.more (part.drop 4) neg then 1 else 0) → S_foliantref02_Read_4 (.bool neg) (.int .i64 m) w K := by
          intro m m0 m1 hm
          rw [S_foliantref02_Read_4]
          refine join fun J4 hJ4 => ?_
          have h6 : ∀ q : Int, q = (if neg then -m else m) → S_foliantref02_Read_5 (.int .i64 q) w K := by
            intro q hq
            rw [S_foliantref02_Read_5]
            refine c_ret (rwithin_ret q w) ?_
            rintro v w4 ⟨rfl, rfl⟩
            have hres : Fx.read s = Fx.ans q := by rw [← href, hq, hm]
            cases hq2 : Fx.okB q with
            | true =>
              simp only [rs]
              refine hK _ _ ⟨?_, Below.refl _ _⟩
              rw [hres, Fx.ans, hq2]; rfl
            | false =>
              simp only [rs]
              refine hK _ _ ⟨?_, Below.refl _ _⟩
              rw [hres, Fx.ans, hq2]; rfl
          cases neg with
          | true =>
            simp only [rs]
            rw [wrap64_id (by omega) (by omega)]
            refine hJ4 _ _ fun _ => ?_
            exact h6 (-m) rfl
          | false =>
            simp only [rs]
            refine hJ4 _ _ fun _ => ?_
            exact h6 m rfl
        cases hmo : Fx.more (part.drop 4) neg with
        | true =>
          simp only [rs]
          rw [wrap64_id (by omega) (by omega)]
          refine hJ3 _ _ fun _ => ?_
          exact h5 (n + 1) (by omega) (by omega) (by rw [hmo]; rfl)
        | false =>
          simp only [rs]
          refine hJ3 _ _ fun _ => ?_
          exact h5 n (by omega) (by omega) (by rw [hmo]; simp)
      have h1 : ∀ rest : List UInt8, rest = part.drop 4 → S_foliantref02_Read_1 (.bool neg) (.int .i64 n) (.string ⟨rest.toArray⟩) w K := by
        intro rest hr
        rw [← hr] at afterMore
        have hrl : rest.length ≤ 40 := by rw [hr, List.length_drop]; omega
        simp only [S_foliantref02_Read_1, rs]
        cases rest with
        | nil =>
          simp only [ne_eq, not_true_eq_false, decide_false, rs, g_un]
          refine join fun J2 hJ2 => ?_
          refine hJ2 _ _ fun _ => ?_
          exact afterMore false rfl
        | cons c t =>
          have hix : (c :: t)[(0 : Int).toNat]? = some c := rfl
          simp only [ne_eq, reduceCtorEq, not_false_eq_true, decide_true, rs, s_ix Tryz.underlying9 (show (0 : Int) ≤ 0 by omega) hix]
          refine join fun J2 hJ2 => ?_
          by_cases h5 : (53 : Int) ≤ (c.toNat : Int)
          · simp only [h5, decide_true, rs]
            have h5' : decide (53 ≤ c.toNat) = true := by simp; omega
            cases neg with
            | false =>
              simp only [rs]
              refine hJ2 _ _ fun _ => ?_
              exact afterMore true (by rw [Fx.more, h5']; rfl)
            | true =>
              simp only [rs, s_ix Tryz.underlying9 (show (0 : Int) ≤ 0 by omega) hix]
              refine loop (fun vs w' => ∃ j : Nat, j ≤ t.length ∧ vs = [.bool (decide (53 < c.toNat) || (t.take j).any (fun c => decide (48 < c.toNat))), .int .i64 ((j : Int) + 1)] ∧ w = w') (fun vs _ => t.length + 1 - n1 vs) ⟨0, by omega, by simp; omega, rfl⟩ ?_
              rintro vs w' ⟨j, hj, rfl, rfl⟩ _
              simp only [S_foliantref02_Read_2, gd, s_len Tryz.underlying9, rs]
              have hlc : ((c :: t).length : Int) = (t.length : Int) + 1 := by simp
              have hjx : (c :: t)[((j : Int) + 1).toNat]? = t[j]? := by rw [show ((j : Int) + 1).toNat = j + 1 by omega]; rfl
              rw [hlc]
              by_cases hjt : j < t.length
              · have hjt' : (j : Int) + 1 < (t.length : Int) + 1 := by omega
                have hjx2 : (c :: t)[((j : Int) + 1).toNat]? = some t[j] := by rw [hjx]; exact List.getElem?_eq_getElem hjt
                have htk : (t.take (j + 1)).any (fun c => decide (48 < c.toNat)) = ((t.take j).any (fun c => decide (48 < c.toNat)) || decide (48 < t[j].toNat)) := by
                  rw [List.take_succ_eq_append_getElem hjt, List.any_append]; simp
                simp only [hjt', decide_true, rs]
                cases hb : (decide (53 < c.toNat) || (t.take j).any (fun c => decide (48 < c.toNat))) with
                | true =>
                  simp only [rs, g_un]
                  rw [wrap64_id (by omega) (by omega)]
                  refine nextX ⟨j + 1, by omega, ?_, rfl⟩ (by simp [n1, intOf]; omega)
                  rw [htk, ← Bool.or_assoc, hb]; rfl
                | false =>
                  simp only [rs, s_ix Tryz.underlying9 (show (0 : Int) ≤ (j : Int) + 1 by omega) hjx2]
                  rw [wrap64_id (by omega) (by omega)]
                  refine nextX ⟨j + 1, by omega, ?_, rfl⟩ (by simp [n1, intOf]; omega)
                  rw [htk, ← Bool.or_assoc, hb, Bool.false_or]
                  have : decide ((48 : Int) < (t[j].toNat : Int)) = decide (48 < t[j].toNat) := by rw [decide_eq_decide]; omega
                  rw [this]; simp
              · have hjt' : ¬ (j : Int) + 1 < (t.length : Int) + 1 := by omega
                simp only [hjt', decide_false, rs]
                refine hJ2 _ _ fun _ => ?_
                refine afterMore _ ?_
                rw [Fx.more, h5', List.take_of_length_le (by omega)]; rfl
          · simp only [h5, decide_false, rs, g_un]
            have h5' : decide (53 ≤ c.toNat) = false := by simp; omega
            refine hJ2 _ _ fun _ => ?_
            exact afterMore false (by rw [Fx.more, h5']; rfl)
      by_cases h4 : (4 : Int) < (part.length : Int)
      · simp only [h4, decide_true, rs]
        rw [s_from Tryz.underlying9 (by omega) (by omega)]
        refine hJ0 _ _ fun _ => ?_
        exact h1 (part.drop 4) rfl
      · simp only [h4, decide_false, rs]
        refine hJ0 _ _ fun _ => ?_
        exact h1 [] (List.drop_eq_nil_of_le (by omega)).symm
  · have ho' : Fx.form s = false := by simpa using ho
    rw [ho']
    simp only [rs]
    exact hK _ _ ⟨by rw [Fx.read, if_neg ho], Below.refl _ _⟩
end Go.Proofs.YtiklhhdohckfiaaGreatDoor
/- Contracts: the program's Read. -/
namespace Go.Proofs.YtiklhhdohckfiaaGreatDoor
set_option linter.unusedVariables false
set_option linter.unusedSimpArgs false
set_option linter.defProp false
open Eng Go.RowKit
set_option linter.unusedVariables false
set_option linter.unusedSimpArgs false

end Go.Proofs.YtiklhhdohckfiaaGreatDoor
/- Contracts: the reference's arithmetic. -/
namespace Go.Proofs.YtiklhhdohckfiaaGreatDoor
set_option linter.unusedVariables false
set_option linter.unusedSimpArgs false
set_option linter.defProp false
open Eng Go.RowKit
set_option linter.unusedVariables false
set_option linter.unusedSimpArgs false

end Go.Proofs.YtiklhhdohckfiaaGreatDoor
/- Code in continuation form, by program (gen.py): 6 functions. -/
namespace Go.Proofs.YtiklhhdohckfiaaGreatDoor
set_option linter.unusedVariables false
set_option linter.unusedSimpArgs false
set_option linter.defProp false
set_option linter.unusedVariables false
set_option maxRecDepth 20000
open Eng

/- foliantlaw02.lives -/
/- foliantlaw02.FixTells -/
/- foliantlaw02.FixReckons -/
/- foliantlaw02.FixBack -/
/- foliantlaw02.FixNear -/
/- foliantlaw02.FixTurns -/
end Go.Proofs.YtiklhhdohckfiaaGreatDoor
/- The laws of layer 2, walked: lives, FixTells, FixReckons, FixNear. -/
namespace Go.Proofs.YtiklhhdohckfiaaGreatDoor
set_option linter.unusedVariables false
set_option linter.unusedSimpArgs false
set_option linter.defProp false
open Eng Go.RowKit
set_option linter.unusedVariables false
set_option linter.unusedSimpArgs false

theorem c_told {P : Program} {f : Nat} {args : Array Value} {w0 w : World} {L : List Ent} {PK : List PanicEntry → World → Prop} {K : Value → World → Prop} {x y : Value} (h : Ret P f args w (fun v w' => v = x ∧ Below w.heap.size w w')) (hx : x = y) (ho : Own w0 w L)
    (k : ∀ w', Own w0 w' L → K y w') : CallX P f args w PK K := by
  refine c_ret h ?_
  rintro v w' ⟨rfl, hb⟩
  rw [hx]; exact k _ (ho.grow hb)
end Go.Proofs.YtiklhhdohckfiaaGreatDoor
/- The engine's rules for guarded operations whose guard is not known: values, without a split of the ways. -/
namespace Go.Proofs.YtiklhhdohckfiaaGreatDoor
set_option linter.unusedVariables false
set_option linter.unusedSimpArgs false
set_option linter.defProp false
set_option linter.unusedSimpArgs false
set_option linter.unusedVariables false
namespace Eng
open Go.RowKit

/-- x where c holds. -/
def sel (c : Bool) (x : Value) : Value := bc c x undef
theorem sel_t {x : Value} : sel true x = x := rfl
theorem sel_f {x : Value} : sel false x = undef := rfl
section
variable {P : Program} {w : World} {PK : List PanicEntry → World → Prop} {K : Value → World → Prop}
theorem g_move {v x : Value} {want : Bool} : GDo v want (fun E => E x w) w K = K (sel (wants v want) x) w := by
  refine propext ⟨fun h => ?_, fun h => ⟨?_⟩⟩
  · have := h.out
    cases hw : wants v want <;> rw [hw] at this <;> exact this
  · cases hw : wants v want <;> rw [hw] at h <;> exact h
theorem g_congr {v v' : Value} {want c : Bool} {E E' : (Value → World → Prop) → Prop} (hv : v = v') (hc : wants v' want = c) (h : c = true → ∀ K0, E K0 = E' K0) : GDo v want E w K = GDo v' want E' w K := by
  subst hv
  refine propext ⟨fun x => ⟨?_⟩, fun x => ⟨?_⟩⟩
  · have := x.out
    subst hc
    cases hw : wants v want with
    | false => rw [hw] at this; exact this
    | true => rw [hw, bc_true] at this; rw [bc_true, ← h hw]; exact this
  · have := x.out
    subst hc
    cases hw : wants v want with
    | false => rw [hw] at this; exact this
    | true => rw [hw, bc_true] at this; rw [bc_true, h hw]; exact this
theorem wants_t {b : Bool} : wants (.bool b) true = b := by cases b <;> rfl
theorem wants_f {b : Bool} : wants (.bool b) false = !b := by cases b <;> rfl
theorem wants_st {c y : Bool} : wants (sel c (.bool y)) true = (c && y) := by cases c <;> cases y <;> rfl
theorem wants_sf {c y : Bool} : wants (sel c (.bool y)) false = (c && !y) := by cases c <;> cases y <;> rfl
theorem b_tand {b : Bool} : (true && b) = b := rfl
theorem b_andt {b : Bool} : (b && true) = b := by cases b <;> rfl
theorem pick_and {b y : Bool} : DoX P (mPick (.bool b) (sel b (.bool y)) (.bool false)) w PK K = K (.bool (b && y)) w := by
  rw [p_pick]; cases b <;> rfl
theorem pick_or {b y : Bool} : DoX P (mPick (.bool b) (.bool true) (sel (!b) (.bool y))) w PK K = K (.bool (b || y)) w := by
  rw [p_pick]; cases b <;> rfl
end
/-- For 'simp only [rs, gs]' with 'attribute [local congr] g_congr'. -/
def gs := And.intro @g_move (And.intro @wants_t (And.intro @wants_f (And.intro @pick_and (And.intro @pick_or (And.intro @sel_t (And.intro @sel_f (And.intro @wants_st (And.intro @wants_sf (And.intro @b_tand @b_andt)))))))))
end Eng
end Go.Proofs.YtiklhhdohckfiaaGreatDoor
/- Contracts: foliantref05 (zero, Name, uses, fits, long, keys, check, Check, Size). -/
namespace Go.Proofs.YtiklhhdohckfiaaGreatDoor
set_option linter.unusedVariables false
set_option linter.unusedSimpArgs false
set_option linter.defProp false
open Eng Go.RowKit
 attribute [local congr] g_congr

theorem e_int0 {T : TypeId} {xo yo : Operand} {n : Nat} {w : World} {PK : List PanicEntry → World → Prop} {K : Value → World → Prop} : DoX Tryz.prog (mEq .eql T xo yo (.int .i64 (n : Int)) (.int .i64 0)) w PK K = K (.bool (decide (n = 0))) w := by
  rw [e_int]; congr 2; simp
theorem e_nil {T : TypeId} {xo yo : Operand} {s : List UInt8} {w : World} {PK : List PanicEntry → World → Prop} {K : Value → World → Prop} : DoX Tryz.prog (mEq .eql T xo yo (.string ⟨s.toArray⟩) (.string ⟨#[]⟩)) w PK K = K (.bool (decide (s = []))) w := e_str (b := [])
theorem ilen0 {α : Type} (l : List α) : decide (((l.length : Nat) : Int) = 0) = decide (l = []) := by cases l <;> simp; omega
theorem ilenN {α : Type} (l : List α) : decide (((l.length : Nat) : Int) = 0) = decide (l.length = 0) := by rw [decide_eq_decide]; omega
theorem rzero_ret (o : Ob) (vk vc : Value) (cs : List Value) (n g s l : Bool) (w : World) (h : ObAt (InW w) w o vk vc cs) : Ret Tryz.prog 210 #[obV o vk vc, .bool n, .bool g, .bool s, .bool l] w
    (fun v w' => v = .bool ((n || decide (o.n = 0)) && (g || decide (o.g = 0)) && (s || decide (o.s = [])) && (l || (decide (o.keys = []) && decide (o.kids.length = 0)))) ∧ Below w.heap.size w w') := by
  refine ret_of fun K hK => S_foliantref05_zero_ok ?_
  unfold S_foliantref05_zero
  refine o_obb o h.keys.one h.kids.one (Own.start w) fun b w1 ho => ?_
  have hk := h.own ho
  have lk : ∀ {PK : List PanicEntry → World → Prop} {K : Value → World → Prop}, DoX Tryz.prog (mB .len #[22] 3 #[false] #[vk]) w1 PK K = K (.int .i64 (o.keys.length : Int)) w1 := sl_len Tryz.underlying22 hk.keys.1
  have lc : ∀ {PK : List PanicEntry → World → Prop} {K : Value → World → Prop}, DoX Tryz.prog (mB .len #[23] 3 #[false] #[vc]) w1 PK K = K (.int .i64 (o.kids.length : Int)) w1 := sl_len Tryz.underlying23 hk.kids.1
  simp +contextual only [rs, gs, fa_o1, fa_o2, fa_o3, fa_o4, fa_o5, ob_n ho 0 rfl, ob_g ho 0 rfl, ob_s ho 0 rfl, ob_keys ho 0 rfl, ob_kids ho 0 rfl, lk, lc, e_int0, e_nil]
  refine hK _ _ ⟨?_, ho.done⟩
  rw [ilen0 o.keys, ilenN o.kids]
theorem rnm5_ret (s : List UInt8) (w : World) (hs : s.length ≤ 9223372036854775807) : Ret Tryz.prog 211 #[.string ⟨s.toArray⟩] w (fun v w' => v = .bool (Vl.name s) ∧ w = w') := by
  refine ret_of fun K hK => S_foliantref05_Name_ok ?_
  unfold S_foliantref05_Name
  refine loop (fun vs w' => ∃ (i : Nat), vs = [.int .i64 i] ∧ i ≤ s.length ∧ (0 : UInt8) ∉ s.take i ∧ w = w') (fun vs _ => s.length - n0 vs) ⟨0, rfl, by omega, by simp, rfl⟩ ?_
  rintro vs w2 ⟨i, rfl, hi, hm, rfl⟩ _
  simp only [S_foliantref05_Name_0, gd, s_len Tryz.underlying9, rs]
  by_cases hlt : (i : Int) < (s.length : Int)
  · have hi' : i < s.length := by omega
    have hx : ∀ {PK : List PanicEntry → World → Prop} {K : Value → World → Prop}, DoX Tryz.prog (mIx 9 (.string ⟨s.toArray⟩) (.int .i64 (i : Int))) w PK K = K (.int .u8 (s[i].toNat : Int)) w := s_ix (c := s[i]) Tryz.underlying9 (Int.natCast_nonneg i) (by simp [hi'])
    simp only [hlt, decide_true, rs, hx]
    by_cases h0 : s[i] = 0
    · have e : (s[i].toNat : Int) = 0 := by rw [h0]; rfl
      simp only [e, decide_true, i_t]
      have hm0 : (0 : UInt8) ∈ s := h0 ▸ List.getElem_mem hi'
      exact hK _ _ ⟨by simp [Vl.name, hm0], rfl⟩
    · have e : ¬ (s[i].toNat : Int) = 0 := fun h => h0 (UInt8.toNat_inj.1 (by have : (0 : UInt8).toNat = 0 := rfl; omega))
      simp only [e, decide_false, i_f]
      rw [wrap64_id (by omega) (by omega)]
      refine nextX ⟨i + 1, rfl, by omega, ?_, rfl⟩ (by simp [n0, intOf]; omega)
      rw [List.take_add_one, List.getElem?_eq_getElem hi']
      simp only [Option.toList, List.mem_append, List.mem_singleton, not_or]
      exact ⟨hm, fun e => h0 e.symm⟩
  · rw [List.take_of_length_le (by omega)] at hm
    simp only [hlt, decide_false, i_f]
    refine hK _ _ ⟨?_, rfl⟩
    rw [Vl.name, decide_eq_true hm, Bool.and_true]
    congr 1
    rw [decide_eq_decide]; omega
theorem ruses05_ret (o : Ob) (v : Value) (w : World) (h : OV (InW w) w v o) : Ret Tryz.prog 166 #[v] w (fun v w' => v = .bool (Vl.usesOk o) ∧ Below w.heap.size w w') := by
  obtain ⟨vk, vc, cs, rfl, ha⟩ := h.open
  refine ret_of fun K hK => S_foliantref05_uses_ok ?_
  unfold S_foliantref05_uses
  refine o_obb o ha.keys.one ha.kids.one (Own.start w) fun b w1 ho => ?_
  have hk := ha.own ho
  have hk1 : ObAt (InW w1) w1 o vk vc cs := ⟨⟨hk.keys.1, fun p l c e hn => Nat.lt_of_lt_of_le (hk.keys.2 p l c e hn) ho.size⟩, ⟨hk.kids.1, fun p l c e hn => Nat.lt_of_lt_of_le (hk.kids.2 p l c e hn) ho.size⟩, OVs.mono (fun _ hb => Nat.lt_of_lt_of_le hb ho.size) _ _ hk.all⟩
  have zero : ∀ (n g s l : Bool) {K' : Value → World → Prop}, (∀ w', Own w w' [obE b o vk vc] → K' (.bool ((n || decide (o.n = 0)) && (g || decide (o.g = 0)) && (s || decide (o.s = [])) && (l || (decide (o.keys = []) && decide (o.kids.length = 0))))) w') →
      CallX Tryz.prog 210 #[obV o vk vc, .bool n, .bool g, .bool s, .bool l] w1 (pk K) K' := fun n g s l {K'} hk' => c_told (rzero_ret o vk vc cs n g s l w1 hk1) rfl ho hk'
  rw [fa_o0, ob_k ho 0 rfl]
  simp only [rs, ob_v ho 0 rfl]
  by_cases k0 : o.k = 0
  · simp only [k0, decide_true, i_t]
    refine zero _ _ _ _ fun w2 ho => hK _ _ ⟨?_, ho.done⟩
    simp [Vl.usesOk, Vl.used, k0, Bool.and_assoc]
  simp only [k0, decide_false, i_f]
  refine join fun J hJ => ?_
  by_cases k123 : o.k = 1 ∨ o.k = 2 ∨ o.k = 3
  · have : J [.bool true] w1 := by
      refine hJ _ _ fun _ => ?_
      simp only [S_foliantref05_uses_0, gd, i_t, ob_v ho 0 rfl]
      refine zero _ _ _ _ fun w2 ho => hK _ _ ⟨?_, ho.done⟩
      simp [Vl.usesOk, Vl.used, k0, k123, Bool.and_assoc]
    by_cases k1 : o.k = 1
    · simp only [k1, decide_true, i_t]; exact this
    by_cases k2 : o.k = 2
    · simp only [k2, Int.reduceEq, decide_true, decide_false, i_t, i_f]; exact this
    have k3 : o.k = 3 := by omega
    simp only [k3, Int.reduceEq, decide_true, decide_false, i_t, i_f]; exact this
  have k1 : ¬ o.k = 1 := fun h => k123 (.inl h)
  have k2 : ¬ o.k = 2 := fun h => k123 (.inr (.inl h))
  have k3 : ¬ o.k = 3 := fun h => k123 (.inr (.inr h))
  simp only [k1, k2, k3, decide_false, i_f]
  refine hJ _ _ fun _ => ?_
  clear hJ
  simp only [S_foliantref05_uses_0, gd, i_f, rs]
  refine join fun J hJ => ?_
  by_cases k45 : o.k = 4 ∨ o.k = 5
  · have : J [.bool true] w1 := by
      refine hJ _ _ fun _ => ?_
      simp only [S_foliantref05_uses_1, gd, i_t, ob_v ho 0 rfl]
      refine zero _ _ _ _ fun w2 ho => hK _ _ ⟨?_, ho.done⟩
      simp [Vl.usesOk, Vl.used, k0, k1, k2, k3, k45, Bool.and_assoc]
    by_cases k4 : o.k = 4
    · simp only [k4, decide_true, i_t]; exact this
    have k5 : o.k = 5 := by omega
    simp only [k5, Int.reduceEq, decide_true, decide_false, i_t, i_f]; exact this
  have k4 : ¬ o.k = 4 := fun h => k45 (.inl h)
  have k5 : ¬ o.k = 5 := fun h => k45 (.inr h)
  simp only [k4, k5, decide_false, i_f]
  refine hJ _ _ fun _ => ?_
  clear hJ
  simp only [S_foliantref05_uses_1, gd, i_f, rs, ob_v ho 0 rfl]
  by_cases k6 : o.k = 6
  · simp only [k6, decide_true, i_t]
    refine zero _ _ _ _ fun w2 ho => ?_
    have lk : ∀ {PK : List PanicEntry → World → Prop} {K : Value → World → Prop}, DoX Tryz.prog (mB .len #[22] 3 #[false] #[vk]) w2 PK K = K (.int .i64 (o.keys.length : Int)) w2 := sl_len Tryz.underlying22 (ha.own ho).keys.1
    simp +contextual only [rs, gs, fa_o4, ob_keys ho 0 rfl, lk, e_int0]
    refine hK _ _ ⟨?_, ho.done⟩
    rw [ilen0 o.keys]
    simp [Vl.usesOk, Vl.used, k6, Bool.and_assoc]
  by_cases k7 : o.k = 7
  · simp only [k7, Int.reduceEq, decide_true, decide_false, i_t, i_f]
    refine zero _ _ _ _ fun w2 ho => hK _ _ ⟨?_, ho.done⟩
    simp [Vl.usesOk, Vl.used, k7, Bool.and_assoc]
  by_cases k8 : o.k = 8
  · simp only [k8, Int.reduceEq, decide_true, decide_false, i_t, i_f]
    refine zero _ _ _ _ fun w2 ho => hK _ _ ⟨?_, ho.done⟩
    simp [Vl.usesOk, Vl.used, k8, Bool.and_assoc]
  by_cases k9 : o.k = 9
  · simp only [k9, Int.reduceEq, decide_true, decide_false, i_t, i_f]
    refine zero _ _ _ _ fun w2 ho => hK _ _ ⟨?_, ho.done⟩
    simp [Vl.usesOk, Vl.used, k9, Bool.and_assoc]
  simp only [k6, k7, k8, k9, decide_false, i_f]
  refine hK _ _ ⟨?_, ho.done⟩
  simp [Vl.usesOk, Vl.used, k0, k123, k45, k6, k7, k8, k9]
theorem rfits_ret (o : Ob) (v : Value) (w : World) (h : OV (InW w) w v o) : Ret Tryz.prog 167 #[v] w (fun v w' => v = .bool (Vl.fits o) ∧ Below w.heap.size w w') := by
  obtain ⟨vk, vc, cs, rfl, ha⟩ := h.open
  refine ret_of fun K hK => S_foliantref05_fits_ok ?_
  unfold S_foliantref05_fits
  refine o_obb o ha.keys.one ha.kids.one (Own.start w) fun b w1 ho => ?_
  simp only [fa_o0, ob_k ho 0 rfl, rs]
  by_cases k1 : o.k = 1
  · simp +contextual only [k1, decide_true, i_t, fa_o1, ob_n ho 0 rfl, rs, gs, decide_true, decide_false, nn_t, nn_f]
    refine hK _ _ ⟨?_, ho.done⟩
    rw [Vl.fits, if_pos k1]; congr 1
    rw [Bool.eq_iff_iff]; simp; omega
  by_cases k2 : o.k = 2
  · simp +contextual only [k2, Int.reduceEq, decide_true, decide_false, i_t, i_f, fa_o1, ob_n ho 0 rfl, rs, gs, decide_true, decide_false, nn_t, nn_f]
    refine hK _ _ ⟨?_, ho.done⟩
    rw [Vl.fits, if_neg k1, if_pos k2, Bool.decide_and]
  by_cases k3 : o.k = 3
  · simp +contextual only [k3, Int.reduceEq, decide_true, decide_false, i_t, i_f, fa_o1, ob_n ho 0 rfl, rs, gs, decide_true, decide_false, nn_t, nn_f]
    refine hK _ _ ⟨?_, ho.done⟩
    rw [Vl.fits, if_neg k1, if_neg k2, if_pos k3, Bool.decide_and]
  by_cases k8 : o.k = 8
  · simp +contextual only [k8, Int.reduceEq, decide_true, decide_false, i_t, i_f, fa_o1, fa_o2, ob_n ho 0 rfl, ob_g ho 0 rfl, rs, gs, decide_true, decide_false, nn_t, nn_f]
    refine hK _ _ ⟨?_, ho.done⟩
    rw [Vl.fits, if_neg k1, if_neg k2, if_neg k3, if_pos k8, Bool.decide_and, Bool.decide_and, Bool.and_assoc, Bool.and_assoc]
  simp only [k1, k2, k3, k8, decide_false, i_f]
  refine hK _ _ ⟨?_, ho.done⟩
  rw [Vl.fits, if_neg k1, if_neg k2, if_neg k3, if_neg k8]
theorem rlong5_ret (k : Int) (w : World) : Ret Tryz.prog 168 #[.int .i64 k] w (fun v w' => v = .int .i64 (Vl.long k : Nat) ∧ w = w') := by
  refine ret_of fun K hK => S_foliantref05_long_ok ?_
  unfold S_foliantref05_long
  simp only [rs]
  by_cases k5 : k = 5
  · simp only [k5, decide_true, i_t]
    exact hK _ _ ⟨by rw [k5]; rfl, rfl⟩
  by_cases k9 : k = 9
  · simp only [k9, Int.reduceEq, decide_true, decide_false, i_t, i_f]
    exact hK _ _ ⟨by rw [k9]; rfl, rfl⟩
  simp only [k5, k9, decide_false, i_f]
  exact hK _ _ ⟨by rw [Vl.long, if_neg k5, if_neg k9]; rfl, rfl⟩
end Go.Proofs.YtiklhhdohckfiaaGreatDoor
/- The engine's rules for chains of guarded operations, further: for 'simp +contextual only [rs, gs, gw, ..]'. -/
namespace Go.Proofs.YtiklhhdohckfiaaGreatDoor
set_option linter.unusedVariables false
set_option linter.unusedSimpArgs false
set_option linter.defProp false
set_option linter.unusedSimpArgs false
set_option linter.unusedVariables false
namespace Eng
open Go.RowKit
theorem sel_sel {c : Bool} {x : Value} : sel c (sel c x) = sel c x := by cases c <;> rfl
theorem g_off {v : Value} {want : Bool} {E : (Value → World → Prop) → Prop} {w : World} {K : Value → World → Prop} (h : wants v want = false) : GDo v want E w K = K undef w := by
  refine propext ⟨fun x => ?_, fun x => ⟨?_⟩⟩
  · have := x.out; rw [h] at this; exact this
  · rw [h]; exact x
theorem less_ge : ∀ a b : List UInt8, (Op.bytesLess a b || a == b) = !(Op.bytesLess b a) := by
  intro a b
  rw [bytesLess_eq, bytesLess_eq, Bool.eq_iff_iff]
  simp only [Bool.or_eq_true, decide_eq_true_eq, beq_iff_eq, Bool.not_eq_true', decide_eq_false_iff_not]
  constructor
  · rintro (h | rfl)
    · exact fun h' => List.lt_asymm h h'
    · exact List.lt_irrefl _
  · intro h
    by_cases h1 : a < b
    · exact .inl h1
    · exact .inr (List.le_antisymm (List.not_lt.1 h) (List.not_lt.1 h1))
theorem pick_orn {P : Program} {b y : Bool} {w : World} {PK : List PanicEntry → World → Prop} {K : Value → World → Prop} : DoX P (mPick (.bool (!b)) (.bool true) (sel b (.bool y))) w PK K = K (.bool (!b || y)) w := by
  rw [p_pick]; cases b <;> rfl
theorem ifx_of {q r : Bool} {A B : Prop} (h : q = r) (k : IfX (.bool r) A B) : IfX (.bool q) A B := by subst h; exact k

end Eng
end Go.Proofs.YtiklhhdohckfiaaGreatDoor
/- Contracts: foliantref05 (keys, check, Check, Size). -/
namespace Go.Proofs.YtiklhhdohckfiaaGreatDoor
set_option linter.unusedVariables false
set_option linter.unusedSimpArgs false
set_option linter.defProp false
open Eng Go.RowKit
 attribute [local congr] g_congr

theorem ObAt.in_ {w0 w : World} {L : List Ent} {o : Ob} {vk vc : Value} {cs : List Value} (h : ObAt (InW w0) w0 o vk vc cs) (ho : Own w0 w L) : ObAt (InW w) w o vk vc cs := by
  have hk := h.own ho
  exact ⟨⟨hk.keys.1, fun p l c e hn => Nat.lt_of_lt_of_le (hk.keys.2 p l c e hn) ho.size⟩, ⟨hk.kids.1, fun p l c e hn => Nat.lt_of_lt_of_le (hk.kids.2 p l c e hn) ho.size⟩, OVs.mono (fun _ hb => Nat.lt_of_lt_of_le hb ho.size) _ _ hk.all⟩
theorem range_all_succ {p : Nat → Bool} (n : Nat) : (List.range (n + 1)).all p = ((List.range n).all p && p n) := by
  rw [List.range_succ, List.all_append]; simp
theorem range_all_not {p : Nat → Bool} {n m : Nat} (hp : p n = false) (hn : n < m) : (List.range m).all p = false := by
  rw [← Bool.not_eq_true]
  intro h
  have := List.all_eq_true.1 h n (List.mem_range.2 hn)
  rw [hp] at this; cases this
/-- The kind of a kid is read. -/
theorem run_kid_k {A : Nat → Prop} {w : World} {vc : Value} {os : List Ob} {cs : List Value} (hs : Sl w vc 6 os.length cs) (hall : OVs A w cs os) {i : Nat} (hi : i < os.length) :
    ∃ b off, (∀ {PK : List PanicEntry → World → Prop} {K : Value → World → Prop}, DoX Tryz.prog (mIA 23 vc (.int .i64 (i : Int))) w PK K = K (.pointer (some ⟨b, off, none⟩)) w) ∧ w.cell? ⟨b, off, none⟩ = some (.int .i64 os[i].k) := by
  obtain ⟨b, off, cap, rfl, hc⟩ := sl_open hs (by omega)
  obtain ⟨a, hl, hov, hget⟩ := OVs.get os cs i hi hall
  refine ⟨b, off + i * 6, ?_, ?_⟩
  · intro PK K
    have := run_ia (P := Tryz.prog) (T := 23) (b := b) (off := off) (cap := cap) (n := os.length) (k := .i64) (i := (i : Int)) (w := w) Tryz.underlying23 szOb (by omega) (by omega)
    rw [Int.toNat_natCast] at this
    exact do_eq this
  · obtain ⟨vk, vc', cs', hv, _⟩ := hov.open
    have e : a = obC os[i] vk vc' := by
      injection hv with hv
      have := congrArg Array.toList hv
      simpa using this
    have := hc (i * 6 + 0) _ (hget 0 (.int .i64 os[i].k) (by rw [e]; rfl))
    simpa using this
theorem rkeys_ret (o : Ob) (v : Value) (w : World) (h : OV (InW w) w v o) (hs : o.s.length ≤ 9223372036854775807) (hb : o.keys.length ≤ 9223372036854775807) (hks : ∀ k ∈ o.keys, k.length ≤ 9223372036854775807) :
    Ret Tryz.prog 169 #[v] w (fun v w' => v = .bool (Vl.form o) ∧ Below w.heap.size w w') := by
  obtain ⟨vk, vc, cs, rfl, ha⟩ := h.open
  refine ret_of fun K hK => S_foliantref05_keys_ok ?_
  unfold S_foliantref05_keys
  refine o_obb o ha.keys.one ha.kids.one (Own.start w) fun b w1 ho => ?_
  simp only [fa_o0, ob_k ho 0 rfl, rs]
  by_cases k5 : o.k = 5
  · simp only [k5, decide_true, i_t, fa_o3, ob_s ho 0 rfl]
    refine c_eq (rnm5_ret o.s w1 hs) ?_
    refine hK _ _ ⟨?_, ho.done⟩
    simp [Vl.form, k5]
  by_cases k7 : o.k = 7 ∨ o.k = 9
  case neg =>
    have k7' : ¬ o.k = 7 := fun h => k7 (.inl h)
    have k9' : ¬ o.k = 9 := fun h => k7 (.inr h)
    simp only [k5, k7', k9', ne_eq, not_false_eq_true, decide_true, decide_false, rs, ob_k ho 0 rfl]
    refine hK _ _ ⟨?_, ho.done⟩
    simp [Vl.form, k5, k7]
  have lk : ∀ {W : World} {L : List Ent}, Own w W L → ∀ {PK : List PanicEntry → World → Prop} {K : Value → World → Prop}, DoX Tryz.prog (mB .len #[22] 3 #[false] #[vk]) W PK K = K (.int .i64 (o.keys.length : Int)) W := fun ho => sl_len Tryz.underlying22 (ha.own ho).keys.1
  have lc : ∀ {W : World} {L : List Ent}, Own w W L → ∀ {PK : List PanicEntry → World → Prop} {K : Value → World → Prop}, DoX Tryz.prog (mB .len #[23] 3 #[false] #[vc]) W PK K = K (.int .i64 (o.kids.length : Int)) W := fun ho => sl_len Tryz.underlying23 (ha.own ho).kids.1
  have hf : Vl.form o = Vl.rising o := by simp [Vl.form, k5, k7]
  rw [hf] at hK
  simp +contextual only [k5, decide_false, i_f, rs, gs, ob_k ho 0 rfl, fa_o4, fa_o5, ob_keys ho 0 rfl, ob_kids ho 0 rfl, lk ho, lc ho]
  refine ifx_of (r := false) (by rcases k7 with h | h <;> simp [h]) ?_
  rw [i_f]
  by_cases hlen : (o.keys.length : Int) ≠ (o.kids.length : Int)
  · simp only [decide_eq_true hlen, i_t]
    refine hK _ _ ⟨?_, ho.done⟩
    have : ¬ o.keys.length = o.kids.length := fun e => hlen (by rw [e])
    simp [Vl.rising, this]
  have hle : o.keys.length = o.kids.length := by omega
  simp only [decide_eq_false hlen, i_f]
  have hR : Vl.rising o = (List.range o.keys.length).all (Vl.keyAt o) := by simp [Vl.rising, hle]
  rw [hR] at hK
  refine loop (fun vs w' => ∃ (i : Nat), vs = [.int .i64 i] ∧ i ≤ o.keys.length ∧ (List.range i).all (Vl.keyAt o) = true ∧ Own w w' [obE b o vk vc]) (fun vs _ => o.keys.length - n0 vs) ⟨0, rfl, by omega, by simp, ho⟩ ?_
  rintro vs w2 ⟨i, rfl, hi, hall, ho⟩ _
  simp only [S_foliantref05_keys_0, gd, rs]
  by_cases hlt : (i : Int) < (o.keys.length : Int)
  · have hi' : i < o.keys.length := by omega
    simp only [hlt, decide_true, i_t]
    have ho2 := ha.own ho
    refine sl_ia1 (.string ⟨(o.keys[i]).toArray⟩) Tryz.underlying22 (by kernel_rfl) ho2.keys.1 (by omega) (by rw [Int.toNat_natCast]; exact strsV_get hi') fun q hq => ?_
    rw [l_cell nStr5 hq]
    refine c_eq (rnm5_ret o.keys[i] w2 (hks _ (List.getElem_mem hi'))) ?_
    obtain ⟨kb, koff, hia, hkc⟩ := run_kid_k ho2.kids.1 ho2.all (show i < o.kids.length by omega)
    have hlk : ∀ {PK : List PanicEntry → World → Prop} {K : Value → World → Prop}, DoX Tryz.prog (mLoad 3 (.pointer (some ⟨kb, koff, none⟩))) w2 PK K = K (.int .i64 o.kids[i].k) w2 := l_cell nInt5 hkc
    have hprev : decide (0 < (i : Int)) = true → ∃ (b' off' : Nat), (∀ {PK : List PanicEntry → World → Prop} {K : Value → World → Prop}, DoX Tryz.prog (mIA 22 vk (.int .i64 (IntKind.wrap .i64 ((i : Int) - 1)))) w2 PK K = K (.pointer (some ⟨b', off', none⟩)) w2) ∧
        (∀ {PK : List PanicEntry → World → Prop} {K : Value → World → Prop}, DoX Tryz.prog (mLoad 9 (.pointer (some ⟨b', off', none⟩))) w2 PK K = K (.string ⟨(o.keys.getD (i - 1) []).toArray⟩) w2) := by
      intro h
      have h := of_decide_eq_true h
      have hj : i - 1 < o.keys.length := by omega
      obtain ⟨b', off', cap', rfl, hc'⟩ := sl_open ho2.keys.1 (show 0 < o.keys.length by omega)
      refine ⟨b', off' + (i - 1), ?_, ?_⟩
      · intro PK K
        rw [wrap64_id (by omega) (by omega)]
        refine do_eq ?_
        rw [run_ia Tryz.underlying22 (show _ = some 1 by kernel_rfl) (by omega) (by omega), show ((i : Int) - 1).toNat * 1 = i - 1 by omega]
      · intro PK K
        rw [List.getD_eq_getElem?_getD, List.getElem?_eq_getElem hj]
        exact l_cell nStr5 (hc' _ _ (strsV_get hj))
    have hgi : o.keys.getD i [] = o.keys[i] := by rw [List.getD_eq_getElem?_getD, List.getElem?_eq_getElem hi']; rfl
    have hgk : o.kids.getD i (.mk 0 0 0 [] [] []) = o.kids[i]'(by omega) := by rw [List.getD_eq_getElem?_getD, List.getElem?_eq_getElem (by omega)]; rfl
    have tail : ∀ (q : Bool) (N : Prop), q = !(Vl.keyAt o i) → (Vl.keyAt o i = true → N) → IfX (.bool q) (K (.returned (.bool false)) w2) N := by
      intro q N hq hN
      cases hk : Vl.keyAt o i with
      | false =>
        rw [hk] at hq; subst hq
        rw [show (!false) = true from rfl, i_t]
        exact hK _ _ ⟨by rw [range_all_not hk hi'], ho.done⟩
      | true =>
        rw [hk] at hq; subst hq
        rw [show (!true) = false from rfl, i_f]
        exact hN hk
    have hki : Vl.keyAt o i = (Vl.name o.keys[i] && (decide (i = 0) || Vl.less (o.keys.getD (i - 1) []) o.keys[i]) && !(decide (o.k = 9) && decide (o.keys[i] = Vl.lenK)) && decide ((o.kids[i]'(by omega)).k ≠ 0)) := by
      rw [Vl.keyAt, hgi, hgk]
    by_cases hi0 : i = 0
    · have hz : decide (0 < (i : Int)) = false := by rw [decide_eq_false_iff_not]; omega
      simp +contextual only [rs, gs, hz, sel_sel, g_off, pick_orn, Bool.and_false, Bool.not_not, Bool.or_false, less_ge, fa_o0, fa_o5, ob_k ho 0 rfl, ob_kids ho 0 rfl, hia, hlk, g_un, p_f]
      refine tail _ _ ?_ fun hk => ?_
      · rw [hki, decide_eq_true hi0]
        simp only [Bool.true_or, Bool.and_true, Vl.lenK, ne_eq, decide_not]
        generalize Vl.name o.keys[i] = a
        generalize decide (o.k = 9) = c
        generalize decide ((o.kids[i]'(by omega)).k = 0) = d
        by_cases hL : o.keys[i] = [76, 101, 110, 103, 116, 104] <;> simp only [hL, decide_true, decide_false] <;> cases a <;> cases c <;> cases d <;> rfl
      · rw [wrap64_id (by omega) (by omega)]
        exact nextX ⟨i + 1, rfl, by omega, by rw [range_all_succ, hall, hk]; rfl, ho⟩ (by simp [n0, intOf]; omega)
    · have hz : decide (0 < (i : Int)) = true := by rw [decide_eq_true_iff]; omega
      obtain ⟨b', off', hpa, hpl⟩ := hprev hz
      simp +contextual only [rs, gs, hz, sel_sel, g_off, pick_orn, Bool.and_false, Bool.not_not, Bool.or_false, less_ge, fa_o0, fa_o4, fa_o5, ob_k ho 0 rfl, ob_keys ho 0 rfl, ob_kids ho 0 rfl, hia, hlk, hpa, hpl, g_un]
      refine tail _ _ ?_ fun hk => ?_
      · rw [hki, decide_eq_false hi0]
        simp only [Bool.false_or, Vl.lenK, ne_eq, decide_not]
        generalize Vl.name o.keys[i] = a
        generalize decide (o.k = 9) = c
        generalize decide ((o.kids[i]'(by omega)).k = 0) = d
        show _ = !(_ && Op.bytesLess (o.keys.getD (i - 1) []) o.keys[i] && _ && _)
        generalize Op.bytesLess (o.keys.getD (i - 1) []) o.keys[i] = e
        by_cases hL : o.keys[i] = [76, 101, 110, 103, 116, 104] <;> simp only [hL, decide_true, decide_false] <;> cases a <;> cases c <;> cases d <;> cases e <;> rfl
      · rw [wrap64_id (by omega) (by omega)]
        exact nextX ⟨i + 1, rfl, by omega, by rw [range_all_succ, hall, hk]; rfl, ho⟩ (by simp [n0, intOf]; omega)
  · simp only [hlt, decide_false, i_f]
    refine hK _ _ ⟨?_, ho.done⟩
    rw [show o.keys.length = i by omega, hall]
end Go.Proofs.YtiklhhdohckfiaaGreatDoor
/- Contracts: foliantref05 (check, Check, Size). -/
namespace Go.Proofs.YtiklhhdohckfiaaGreatDoor
set_option linter.unusedVariables false
set_option linter.unusedSimpArgs false
set_option linter.defProp false
open Eng Go.RowKit
 attribute [local congr] g_congr

theorem OwnS.kept2 {w0 w2 w4 : World} {L2 L4 : List Ent} (h2 : Own w0 w2 L2) (h4 : Own w0 w4 L4) : Kept (InW w0) w2 w4 := fun b hb => (h4.done.block b hb).trans (h2.done.block b hb).symm
theorem ObAt.later {w0 w2 w4 : World} {L2 L4 : List Ent} {o : Ob} {vk vc : Value} {cs : List Value} (h : ObAt (InW w0) w2 o vk vc cs) (h2 : Own w0 w2 L2) (h4 : Own w0 w4 L4) : ObAt (InW w4) w4 o vk vc cs := by
  have hk := h.kept (OwnS.kept2 h2 h4)
  exact ⟨⟨hk.keys.1, fun p l c e hn => Nat.lt_of_lt_of_le (hk.keys.2 p l c e hn) h4.size⟩, ⟨hk.kids.1, fun p l c e hn => Nat.lt_of_lt_of_le (hk.kids.2 p l c e hn) h4.size⟩, OVs.mono (fun _ hb => Nat.lt_of_lt_of_le hb h4.size) _ _ hk.all⟩
theorem tot_mem : ∀ {l : List (List UInt8)} {k : List UInt8}, k ∈ l → k.length ≤ Pl.tot l
  | a :: l, k, h => by
    simp only [Pl.tot, List.map_cons, List.sum_cons]
    rcases List.mem_cons.1 h with rfl | h
    · omega
    · have := tot_mem h; simp only [Pl.tot] at this; omega
theorem wts_mem : ∀ {l : List Ob} {o : Ob}, o ∈ l → o.wt ≤ Ob.wts l
  | a :: l, o, h => by
    rw [Ob.wts]
    rcases List.mem_cons.1 h with rfl | h
    · omega
    · have := wts_mem h; omega
theorem Ob.wt_eq (o : Ob) : o.wt = 6 + o.s.length + Pl.tot o.keys + Ob.wts o.kids := by cases o; rw [Ob.wt]; rfl
theorem Ob.wt_pos (o : Ob) : 6 ≤ o.wt := by rw [o.wt_eq]; omega
theorem wts_len : ∀ l : List Ob, l.length * 6 ≤ Ob.wts l
  | [] => by simp
  | a :: l => by
    have := wts_len l
    have := a.wt_pos
    rw [Ob.wts, List.length_cons]; omega
theorem kid_wt {o : Ob} {i : Nat} (hi : i < o.kids.length) : o.kids[i].wt < o.wt := by
  have := wts_mem (List.getElem_mem hi)
  rw [o.wt_eq]; omega
theorem checks_drop (d : Nat) (l : List Ob) (i : Nat) (hi : i < l.length) : Vl.checks d (l.drop i) = if Vl.check d l[i] ≠ 0 then Vl.check d l[i] else Vl.checks d (l.drop (i + 1)) := by
  rw [List.drop_eq_getElem_cons hi, Vl.checks]
theorem key_len {o : Ob} : o.keys.length ≤ o.wt := by
  have h : ∀ l : List (List UInt8), l.length ≤ Pl.tot l := by
    intro l
    induction l with
    | nil => simp
    | cons a l ih => simp only [Pl.tot, List.map_cons, List.sum_cons, List.length_cons] at ih ⊢; omega
  have := h o.keys
  rw [o.wt_eq]; omega
theorem kids_len {o : Ob} : o.kids.length ≤ o.wt := by
  have := wts_len o.kids
  rw [o.wt_eq]; omega
theorem s_len05 {o : Ob} : o.s.length ≤ o.wt := by rw [o.wt_eq]; omega
theorem keys_mem {o : Ob} {k : List UInt8} (h : k ∈ o.keys) : k.length ≤ o.wt := by
  have := tot_mem h
  rw [o.wt_eq]; omega
theorem why_pos {d : Nat} {o : Ob} (h : Vl.why d o ≠ 0) : Vl.check d o = Vl.why d o := by rw [Vl.check_eq, if_pos h]
theorem rcheck05_ret (n : Nat) : ∀ (o : Ob) (v : Value) (d : Nat) (w : World), o.wt ≤ n → OV (InW w) w v o → o.wt ≤ 4611686018427387904 → d ≤ 1000 →
    Ret Tryz.prog 102 #[v, .int .i64 (d : Int)] w (fun v w' => v = .int .i64 (Vl.check d o) ∧ Below w.heap.size w w') := by
  induction n with
  | zero => intro o v d w h; have := o.wt_pos; omega
  | succ n ih =>
  intro o v d w hn hov hb hd
  obtain ⟨vk, vc, cs, rfl, ha⟩ := hov.open
  refine ret_of fun K hK => S_foliantref05_check_ok ?_
  unfold S_foliantref05_check
  refine o_obb o ha.keys.one ha.kids.one (Own.start w) fun b w1 ho => ?_
  simp only [rs]
  have out : ∀ (e : Int) (W : World) (L : List Ent), Own w W L → Vl.why d o = e → e ≠ 0 → K (.returned (.int .i64 e)) W := by
    intro e W L ho h1 h2
    exact hK _ _ ⟨by rw [why_pos (by rw [h1]; exact h2), h1], ho.done⟩
  by_cases h24 : (24 : Int) < (d : Int)
  · simp only [h24, decide_true, i_t]
    exact out 7 w1 _ ho (by rw [Vl.why, if_pos (by omega)]) (by decide)
  simp only [h24, decide_false, i_f, ob_v ho 0 rfl]
  refine c_told (ruses05_ret o _ w1 (ha.in_ ho).ov) rfl ho fun w2 ho => ?_
  have h24' : ¬ 24 < d := by omega
  cases hu : Vl.usesOk o with
  | false =>
    simp only [rs, Bool.not_false, g_un]
    exact out 10 w2 _ ho (by rw [Vl.why, if_neg h24', if_pos (.inl hu)]) (by decide)
  | true =>
  have hst : (o.k = 9 ∧ 1 < d) ∨ ¬ (o.k = 9 ∧ 1 < d) := by by_cases h : (o.k = 9 ∧ 1 < d) <;> simp [h]
  have hgt : ∀ (A B : Prop), (o.k = 9 ∧ 1 < d → A) → (¬ (o.k = 9 ∧ 1 < d) → B) → IfX (.bool (decide (o.k = 9) && decide ((1 : Int) < (d : Int)))) A B := by
    intro A B hA hB
    by_cases h : (o.k = 9 ∧ 1 < d)
    · have e : (decide (o.k = 9) && decide ((1 : Int) < (d : Int))) = true := by simp [h.1]; omega
      rw [e, i_t]; exact hA h
    · have e : (decide (o.k = 9) && decide ((1 : Int) < (d : Int))) = false := by
        rw [Bool.and_eq_false_iff]
        by_cases h9 : o.k = 9
        · right; rw [decide_eq_false_iff_not]; intro h1; exact h ⟨h9, by omega⟩
        · left; exact decide_eq_false h9
      rw [e, i_f]; exact hB h
  simp +contextual only [rs, gs, Bool.not_true, fa_o0, ob_k ho 0 rfl]
  refine hgt _ _ (fun h9 => ?_) fun h9 => ?_
  · exact out 10 w2 _ ho (by rw [Vl.why, if_neg h24', if_pos (.inr h9)]) (by decide)
  have hno : ¬ (Vl.usesOk o = false ∨ (o.k = 9 ∧ 1 < d)) := by
    rintro (h | h)
    · rw [hu] at h; cases h
    · exact h9 h
  rw [ob_v ho 0 rfl]
  refine c_told (rfits_ret o _ w2 (ha.in_ ho).ov) rfl ho fun w3 ho => ?_
  cases hfi : Vl.fits o with
  | false =>
    simp only [rs, Bool.not_false]
    exact out 2 w3 _ ho (by rw [Vl.why, if_neg h24', if_neg hno, if_pos hfi]) (by decide)
  | true =>
  have hfi' : ¬ Vl.fits o = false := by rw [hfi]; decide
  simp only [rs, Bool.not_true]
  refine quiet ?_
  refine q_do _ (fun _ => run_fa fo_o3) ?_
  refine q_at (.string ⟨o.s.toArray⟩) (fun W hW => run_load_cell nStr5 ((ho.grow hW).cell 0 rfl 3 rfl)) ?_
  refine q_slen Tryz.underlying9 ?_
  refine q_do _ (fun _ => run_fa fo_o0) ?_
  refine q_at (.int .i64 o.k) (fun W hW => run_load_cell nInt5 ((ho.grow hW).cell 0 rfl 0 rfl)) ?_
  refine q_call _ (fun W hW => ret_same (rlong5_ret o.k W) hW) ?_
  refine q_gtr ?_
  intro w4 hW
  have ho := ho.grow hW
  by_cases hlo : ((Vl.long o.k : Nat) : Int) < (o.s.length : Int)
  · simp only [hlo, decide_true, i_t]
    exact out 5 w4 _ ho (by rw [Vl.why, if_neg h24', if_neg hno, if_neg hfi', if_pos (by omega)]) (by decide)
  have hlo' : ¬ Vl.long o.k < o.s.length := by omega
  have lc : ∀ {W : World} {L : List Ent}, Own w W L → ∀ {PK : List PanicEntry → World → Prop} {K : Value → World → Prop}, DoX Tryz.prog (mB .len #[23] 3 #[false] #[vc]) W PK K = K (.int .i64 (o.kids.length : Int)) W := fun ho => sl_len Tryz.underlying23 (ha.own ho).kids.1
  simp only [hlo, decide_false, i_f, fa_o5, ob_kids ho 0 rfl, lc ho, rs]
  by_cases hmany : (8191 : Int) < (o.kids.length : Int)
  · simp only [hmany, decide_true, i_t]
    exact out 6 w4 _ ho (by rw [Vl.why, if_neg h24', if_neg hno, if_neg hfi', if_neg hlo', if_pos (by omega)]) (by decide)
  have hmany' : ¬ 8191 < o.kids.length := by omega
  simp only [hmany, decide_false, i_f, ob_v ho 0 rfl]
  refine c_told (rkeys_ret o _ w4 (ha.in_ ho).ov (by have := s_len05 (o := o); omega) (by have := key_len (o := o); omega) (fun k hk => by have := keys_mem hk; omega)) rfl ho fun w5 ho => ?_
  cases hfo : Vl.form o with
  | false =>
    simp only [rs, Bool.not_false]
    exact out 3 w5 _ ho (by rw [Vl.why, if_neg h24', if_neg hno, if_neg hfi', if_neg hlo', if_neg hmany', if_pos hfo]) (by decide)
  | true =>
  have hfo' : ¬ Vl.form o = false := by rw [hfo]; decide
  have hw0 : Vl.why d o = 0 := by rw [Vl.why, if_neg h24', if_neg hno, if_neg hfi', if_neg hlo', if_neg hmany', if_neg hfo']
  have hch : Vl.check d o = Vl.checks (d + 1) o.kids := by rw [Vl.check_eq, if_neg (by simp [hw0])]
  rw [hch] at hK
  simp only [rs, Bool.not_true, ob_kids ho 0 rfl, lc ho]
  refine loop (fun vs w' => ∃ (i : Nat), vs = [.int .i64 i] ∧ i ≤ o.kids.length ∧ Vl.checks (d + 1) o.kids = Vl.checks (d + 1) (o.kids.drop i) ∧ Own w w' [obE b o vk vc]) (fun vs _ => o.kids.length - n0 vs) ⟨0, rfl, by omega, rfl, ho⟩ ?_
  rintro vs w6 ⟨i, rfl, hi, hT, ho⟩ _
  rw [hT] at hK
  simp only [S_foliantref05_check_0, gd, rs]
  by_cases hlt : (i : Int) < (o.kids.length : Int)
  · have hi' : i < o.kids.length := by omega
    simp only [hlt, decide_true, i_t]
    rw [checks_drop _ _ _ hi'] at hK hT
    have hai := ha.own ho
    refine ob_ia hai.kids.1 hai.all hi' fun v hv => ?_
    obtain ⟨vk', vc', cs', rfl, hkid⟩ := hv.open
    have ho6 := ho
    refine o_oba ho fun b7 w7 ho => ?_
    refine ob_put 0 hkid.keys.one hkid.kids.one ho rfl fun w8 ho => ?_
    have ho : Own w w8 [obE b7 o.kids[i] vk' vc', obE b o vk vc] := ho
    rw [ob_v ho 0 rfl, wrap64_id (by omega) (by omega), show (d : Int) + 1 = ((d + 1 : Nat) : Int) by omega]
    have hkw := kid_wt hi'
    refine c_told (ih o.kids[i] _ (d + 1) w8 (by omega) (hkid.later ho6 ho).ov (by omega) (by omega)) rfl ho fun w9 ho => ?_
    simp only [rs]
    by_cases hc0 : Vl.check (d + 1) o.kids[i] = 0
    · simp only [hc0, ne_eq, not_true, decide_false, i_f]
      rw [wrap64_id (by omega) (by omega)]
      rw [if_neg (by simp [hc0])] at hT
      exact nextX ⟨i + 1, rfl, by omega, hT, ho.tail⟩ (by simp [n0, intOf]; omega)
    · simp only [hc0, ne_eq, not_false_eq_true, decide_true, i_t]
      rw [if_pos hc0] at hK
      exact hK _ _ ⟨rfl, ho.done⟩
  · simp only [hlt, decide_false, i_f]
    rw [List.drop_of_length_le (by omega), Vl.checks] at hK
    exact hK _ _ ⟨rfl, ho.done⟩
theorem rCheck05_ret (o : Ob) (v : Value) (w : World) (h : OV (InW w) w v o) (hb : o.wt ≤ 4611686018427387904) : Ret Tryz.prog 49 #[v] w (fun v w' => v = .int .i64 (Vl.check 1 o) ∧ Below w.heap.size w w') := by
  obtain ⟨vk, vc, cs, rfl, ha⟩ := h.open
  refine ret_of fun K hK => S_foliantref05_Check_ok ?_
  unfold S_foliantref05_Check
  refine o_obb o ha.keys.one ha.kids.one (Own.start w) fun b w1 ho => ?_
  rw [ob_v ho 0 rfl]
  refine c_told (rcheck05_ret o.wt o _ 1 w1 (Nat.le_refl _) (ha.in_ ho).ov hb (by omega)) rfl ho fun w2 ho => ?_
  exact hK _ _ ⟨rfl, ho.done⟩
theorem sizes_drop (l : List Ob) (i : Nat) (hi : i < l.length) : Vl.sizes (l.take (i + 1)) = Vl.sizes (l.take i) + Vl.size l[i] := by
  have h : ∀ (l : List Ob) (o : Ob), Vl.sizes (l ++ [o]) = Vl.sizes l + Vl.size o := by
    intro l o
    induction l with
    | nil => simp [Vl.sizes]
    | cons a l ih => rw [List.cons_append, Vl.sizes, ih, Vl.sizes]; omega
  rw [List.take_succ_eq_append_getElem hi, h]
theorem sizes_take (l : List Ob) (i : Nat) : Vl.sizes (l.take i) ≤ Vl.sizes l := by
  induction l generalizing i with
  | nil => simp
  | cons a l ih =>
    cases i with
    | zero => simp [Vl.sizes]
    | succ i => rw [List.take_succ_cons, Vl.sizes, Vl.sizes]; have := ih i; omega
theorem rsize_ret (n : Nat) : ∀ (o : Ob) (v : Value) (w : World), o.wt ≤ n → OV (InW w) w v o → o.wt ≤ 4611686018427387904 →
    Ret Tryz.prog 11 #[v] w (fun v w' => v = .int .i64 (Vl.size o : Nat) ∧ Below w.heap.size w w') := by
  induction n with
  | zero => intro o v w h; have := o.wt_pos; omega
  | succ n ih =>
  intro o v w hn hov hb
  obtain ⟨vk, vc, cs, rfl, ha⟩ := hov.open
  refine ret_of fun K hK => S_foliantref05_Size_ok ?_
  unfold S_foliantref05_Size
  refine o_obb o ha.keys.one ha.kids.one (Own.start w) fun b w1 ho => ?_
  have hsl := s_len05 (o := o)
  have hkl := key_len (o := o)
  have hcl := kids_len (o := o)
  have hsz := Vl.size_wt o
  have htd : ∀ m : Nat, (m : Int).tdiv 50 = ((m / 50 : Nat) : Int) := fun m => by rw [Int.tdiv_eq_ediv_of_nonneg (by omega)]; omega
  have lk : ∀ {W : World} {L : List Ent}, Own w W L → ∀ {PK : List PanicEntry → World → Prop} {K : Value → World → Prop}, DoX Tryz.prog (mB .len #[22] 3 #[false] #[vk]) W PK K = K (.int .i64 (o.keys.length : Int)) W := fun ho => sl_len Tryz.underlying22 (ha.own ho).keys.1
  have lc : ∀ {W : World} {L : List Ent}, Own w W L → ∀ {PK : List PanicEntry → World → Prop} {K : Value → World → Prop}, DoX Tryz.prog (mB .len #[23] 3 #[false] #[vc]) W PK K = K (.int .i64 (o.kids.length : Int)) W := fun ho => sl_len Tryz.underlying23 (ha.own ho).kids.1
  rw [fa_o3, ob_s ho 0 rfl, s_len Tryz.underlying9, b_quo (by decide), htd, wrap64_id (by omega) (by omega), b_add, wrap64_id (by omega) (by omega), fa_o4, ob_keys ho 0 rfl, lk ho]
  have ht50 : ∀ i, ((o.keys.take i).map fun k => k.length / 50).sum ≤ (o.keys.map fun k => k.length / 50).sum := by
    intro i
    conv => rhs; rw [← List.take_append_drop i o.keys, List.map_append, List.sum_append]
    omega
  have hse := Vl.size_eq o
  refine loop (fun vs w' => ∃ (i : Nat) (m : Int), vs = [.int .i64 m, .int .i64 i] ∧ i ≤ o.keys.length ∧ m = ((1 + o.s.length / 50 + ((o.keys.take i).map fun k => k.length / 50).sum : Nat) : Int) ∧ Own w w' [obE b o vk vc]) (fun vs _ => o.keys.length - n1 vs) ⟨0, _, rfl, by omega, by simp, ho⟩ ?_
  rintro vs w2 ⟨i, m, rfl, hi, rfl, ho⟩ _
  have h5i := ht50 i
  simp only [S_foliantref05_Size_0, gd, rs]
  by_cases hlt : (i : Int) < (o.keys.length : Int)
  · have hi' : i < o.keys.length := by omega
    simp only [hlt, decide_true, i_t]
    refine sl_ia1 (.string ⟨(o.keys[i]).toArray⟩) Tryz.underlying22 (by kernel_rfl) (ha.own ho).keys.1 (by omega) (by rw [Int.toNat_natCast]; exact strsV_get hi') fun q hq => ?_
    have hkm := keys_mem (List.getElem_mem hi')
    have h5s := ht50 (i + 1)
    have hss : ((o.keys.take (i + 1)).map fun k => k.length / 50).sum = ((o.keys.take i).map fun k => k.length / 50).sum + o.keys[i].length / 50 := by
      rw [List.take_succ_eq_append_getElem hi', List.map_append, List.sum_append]; simp
    rw [l_cell nStr5 hq, s_len Tryz.underlying9, b_quo (by decide), htd, wrap64_id (n := ((o.keys[i].length / 50 : Nat) : Int)) (by omega) (by omega)]
    simp only [rs]
    rw [wrap64_id (by omega) (by omega), wrap64_id (by omega) (by omega)]
    exact nextX ⟨i + 1, _, rfl, by omega, by rw [hss]; omega, ho⟩ (by simp [n1, intOf]; omega)
  simp only [hlt, decide_false, i_f, fa_o5, ob_kids ho 0 rfl, lc ho]
  have hik : i = o.keys.length := by omega
  subst hik
  rw [List.take_length]
  refine loop (fun vs w' => ∃ (i : Nat) (m : Int), vs = [.int .i64 m, .int .i64 i] ∧ i ≤ o.kids.length ∧ m = ((1 + o.s.length / 50 + (o.keys.map fun k => k.length / 50).sum + Vl.sizes (o.kids.take i) : Nat) : Int) ∧ Own w w' [obE b o vk vc]) (fun vs _ => o.kids.length - n1 vs) ⟨0, _, rfl, by omega, by simp [Vl.sizes], ho⟩ ?_
  rintro vs w3 ⟨i, m, rfl, hi2, rfl, ho⟩ _
  simp only [S_foliantref05_Size_1, gd, rs]
  have hst := sizes_take o.kids i
  by_cases hlt : (i : Int) < (o.kids.length : Int)
  · have hi' : i < o.kids.length := by omega
    simp only [hlt, decide_true, i_t]
    have hai := ha.own ho
    refine ob_ia hai.kids.1 hai.all hi' fun v hv => ?_
    obtain ⟨vk', vc', cs', rfl, hkid⟩ := hv.open
    have ho6 := ho
    refine o_oba ho fun b7 w7 ho => ?_
    refine ob_put 0 hkid.keys.one hkid.kids.one ho rfl fun w8 ho => ?_
    have ho : Own w w8 [obE b7 o.kids[i] vk' vc', obE b o vk vc] := ho
    rw [ob_v ho 0 rfl]
    have hkw := kid_wt hi'
    refine c_told (ih o.kids[i] _ w8 (by omega) (hkid.later ho6 ho).ov (by omega)) rfl ho fun w9 ho => ?_
    have hsd := sizes_drop o.kids i hi'
    have hst2 := sizes_take o.kids (i + 1)
    simp only [rs]
    rw [wrap64_id (by omega) (by omega), wrap64_id (by omega) (by omega)]
    exact nextX ⟨i + 1, _, rfl, by omega, by rw [hsd]; omega, ho.tail⟩ (by simp [n1, intOf]; omega)
  · simp only [hlt, decide_false, i_f]
    rw [List.take_of_length_le (by omega)]
    refine hK _ _ ⟨?_, ho.done⟩
    rw [hse]
end Go.Proofs.YtiklhhdohckfiaaGreatDoor
