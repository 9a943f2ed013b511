/- Texts that go together: EngD SBuild LibBld SPlain SFix SRef02 FixP FixR FixQ SStr LibCut FixT PlA PlB PlC LawKit2 LawKit3 EngT EngH EngI EngJ EngK ObA ObB KdA EngU ObC Plain05 SRef05 FixU FixV FixW FixX SLaw02 FixY EngG ObD EngW ObE ObF SVal ObG ObH ObI Plain07 SRef07 SRef04 PlR PlS Plain03 Plain03B. -/
import Derived.Test.YtiklhhdohckfiaaDoorRows
import Derived.Test.YtiklhhdohckfiaaDoorShelf
import Derived.Recover
import Derived.Shelf.Strings.SlTrimAscii
import Derived.Lib.Repeat
import Derived.SliceStrings
import Derived.Laws.StructEq
import Derived.Laws.RangeAny
import Derived.Sort.Walk0
import Derived.Test.YtiklhhdohckfiaaDoorMcbeblmkc
/- The engine's rules for structs in memory, rows that grow (append), and strings.Builder as a piece of memory. -/
namespace Go.Proofs.YtiklhhdohckfiaaDoor
set_option linter.unusedVariables false
set_option linter.unusedSimpArgs false
set_option linter.defProp false
set_option linter.unusedSimpArgs false
set_option linter.unusedVariables false
namespace Eng
open Go.RowKit

theorem add_none (b off n : Nat) : (⟨b, off, none⟩ : Addr).add n = ⟨b, off + n, none⟩ := by unfold Addr.add; split <;> simp_all

/-- The place of a field (of at least one cell). -/
def fOff (P : Program) (T : TypeId) (f : Nat) : Option Nat :=
  match P.underlying T with
  | some (.struct fs) => match fs[f]? with
    | some fd => match P.info? fd.type with
      | some i => match i.size with
        | 0 => none
        | _ + 1 => some fd.offset
      | none => none
    | none => none
  | _ => none
/-- What a type's elements are: cells each, bytes each, a zero value of as many cells. -/
def elB (P : Program) (E : TypeId) (sz bytes : Nat) : Bool :=
  match P.info? E with
  | some i => Nat.beq i.size sz && Nat.beq i.bytes bytes && (match i.zero with | some z => Nat.beq z.cells.size sz | none => false)
  | none => false
theorem elB_spec {P : Program} {E : TypeId} {sz bytes : Nat} (h : elB P E sz bytes = true) : ∃ i z, P.info? E = some i ∧ i.zero = some z ∧ i.size = sz ∧ i.bytes = bytes ∧ z.cells.size = sz := by
  unfold elB at h
  split at h
  · rename_i i hi
    simp only [Bool.and_eq_true, Nat.beq_eq] at h
    obtain ⟨⟨h1, h2⟩, h3⟩ := h
    split at h3
    · rename_i z hz; exact ⟨i, z, hi, hz, h1, h2, by simpa using h3⟩
    · cases h3
  · cases h

section
variable {S : Nat → Prop} {P : Program} {w : World} {PK : List PanicEntry → World → Prop} {K : Value → World → Prop}

theorem run_fa {T : TypeId} {f b off o : Nat} (h : fOff P T f = some o) : (mFA T (.pointer (some ⟨b, off, none⟩)) f).run P w = .ok (.value (.pointer (some ⟨b, off + o, none⟩))) w := by
  unfold fOff at h
  split at h
  · rename_i fs hu
    split at h
    · rename_i fd hfd
      split at h
      · rename_i i hi
        cases hs : i.size with
        | zero => rw [hs] at h; cases h
        | succ m =>
          rw [hs] at h
          simp only [Option.some.injEq] at h
          subst h
          refine mv_run ?_
          simp [Instr.fieldAt, run_underlying hu, hfd, Instr.sureAddr, fieldPlace, sizeOf, typeInfo, hi, hs, add_none]
      · cases h
    · cases h
  · cases h
theorem f_addr {T : TypeId} {f b off o : Nat} (h : fOff P T f = some o) : DoX P (mFA T (.pointer (some ⟨b, off, none⟩)) f) w PK K = K (.pointer (some ⟨b, off + o, none⟩)) w := do_eq (run_fa h)
theorem run_nil {a : Addr} : (mNil (.pointer (some a))).run P w = .ok (.value (.pointer (some a))) w := by simp [mNil, execOp]

/- BITS -/
def bAnd (k : IntKind) (x y : Int) : Int := k.wrap ((BitVec.ofInt k.bits x &&& BitVec.ofInt k.bits y).toNat : Int)
theorem r_and {T : TypeId} {k : IntKind} {a b : Int} : (mBin .and T (.int k a) (.int k b)).run P w = .ok (.value (.int k (bAnd k a b))) w := mv_run (by simp [binOp, Op.intBits, bAnd])
theorem r_shr {T : TypeId} {k k' : IntKind} {a b : Int} (h : 0 ≤ b) : (mBin .shr T (.int k a) (.int k' b)).run P w = .ok (.value (.int k (a.fdiv (2 ^ (min b.toNat k.bits))))) w := mv_run (by
  have h' : ¬ b < 0 := by omega
  simp [binOp, Op.shift, h'])
theorem run_s_ix {T : TypeId} {k : IntKind} {i : Int} {a : List UInt8} {c : UInt8} (h : P.underlying T = some .string) (h0 : 0 ≤ i) (hc : a[i.toNat]? = some c) : (mIx T (.string ⟨a.toArray⟩) (.int k i)).run P w = .ok (.value (.int .u8 (c.toNat : Int))) w := by
  refine mv_run ?_
  have e : (⟨a.toArray⟩ : ByteArray)[i.toNat]? = some c := by
    have hl : i.toNat < a.length := (List.getElem?_eq_some_iff.1 hc).1
    have h1 : i.toNat < (⟨a.toArray⟩ : ByteArray).size := by rw [str_size]; exact hl
    rw [getElem?_pos (⟨a.toArray⟩ : ByteArray) i.toNat h1]
    have h2 := (List.getElem?_eq_some_iff.1 hc).2
    rw [← h2]; rfl
  simp only [Instr.index, asIntOf, run_underlying h, h0, e]
  simp [h0, e, run_underlying h]
/- APPEND -/
theorem newer {E : TypeId} {sz bytes : Nat} {T U : TypeId} {i : TypeInfo} {z : Value} (ht : P.underlying T = some (.slice E)) (hi : P.info? E = some i) (hz : i.zero = some z) (hi1 : i.size = sz) (hi2 : i.bytes = bytes) (hz1 : z.cells.size = sz) (hsz : 0 < sz)
    {v v' : Value} {w' : World} {n m c : Nat} {xs news : List Value} {a : Addr} (hown : w.ownsRowF 0 E sz v n xs) (hl : news.length = m * sz) (hnews : ∀ j u, news[j]? = some u → w.cell? (a.add j) = some u) (h1 : ∀ u ∈ news, u.oneCell' = true)
    (hmx : n + m ≤ 9223372036854775807) (hb : (n + m) * bytes ≤ 140737488355328) (hr : (Builtin.append_ #[T, T] U #[v, .slice (some a) m c]).run P w = .ok v' w') :
    ∀ k, v'.ownBlock = some k → v.ownBlock = some k ∨ w.heap.size ≤ k := by
  intro k hk
  have hmx' : n + m ≤ maxLen := by simp only [maxLen]; omega
  rcases hown.2 with ⟨rfl, rfl⟩ | ⟨g, cap, cur, fz, rfl, hbg, hg, hfz, hnc, hcm, hcs, htake⟩
  · obtain ⟨v2, w2, r1, r2, r3, r4⟩ := run_append_ownF (P := P) w w.heap.size T U E i z sz bytes ht hi hz hi1 hi2 hz1 hsz (.slice none 0 0) 0 xs ⟨hown.1, .inl ⟨rfl, rfl⟩⟩ a m c news hl hnews h1 hmx' hb (Nat.le_refl _)
    rw [r1] at hr
    cases hr
    exact .inr (World.ownsRowF.lt r2 k hk).1
  · subst hi1
    subst hi2
    by_cases hroom : n + m ≤ cap
    · have hfit : n * i.size + news.length ≤ cur.size := by rw [hl, hcs, ← Nat.add_mul]; exact Nat.mul_le_mul_right _ hroom
      rw [run_append_roomF (P := P) w T U E i ht hi g n cap cur fz hg hfz a m c news hl hnews h1 hroom hfit] at hr
      cases hr
      exact .inl hk
    · have holds : ∀ j u, xs[j]? = some u → w.cell? ((⟨g, 0, none⟩ : Addr).add j) = some u := hown.cells (g := g) rfl
      rw [run_append_grow (P := P) w T U E i z ht hi hz ⟨g, 0, none⟩ n cap xs hown.1 holds a m c news hl hnews (by omega) (by omega) (growslice_fits (by omega) hb)] at hr
      cases hr
      simp only [Value.ownBlock, Option.some.injEq] at hk
      exact .inr (by omega)
theorem run_append_any {T E U : TypeId} {cs : Array Bool} {v v2 : Value} {sz bytes n m : Nat} {xs news : List Value} (ht : P.underlying T = some (.slice E)) (he : elB P E sz bytes = true) (hsz : 0 < sz)
    (hown : w.ownsRowF 0 E sz v n xs) (hs : Sl w v2 sz m news) (h1 : ∀ u ∈ news, u.oneCell' = true) (hb : (n + m) * bytes ≤ 140737488355328) (hb2 : n + m ≤ 140737488355328) :
    ∃ v' w', (mB .append #[T, T] U cs #[v, v2]).run P w = .ok (.value v') w' ∧ Turn (.row E sz v n xs) (.row E sz v' (n + m) (xs ++ news)) w w' := by
  obtain ⟨i, z, hi, hz, hi1, hi2, hz1⟩ := elB_spec he
  obtain ⟨hl, a, cap, rfl, hn, hc⟩ := hs
  have hmx : n + m ≤ maxLen := by simp only [maxLen]; omega
  have fin : ∀ (a : Addr), (∀ j u, news[j]? = some u → w.cell? (a.add j) = some u) → ∃ v' w', (mB .append #[T, T] U cs #[v, .slice (some a) m cap]).run P w = .ok (.value v') w' ∧ Turn (.row E sz v n xs) (.row E sz v' (n + m) (xs ++ news)) w w' := by
    intro a hh
    obtain ⟨v', w', r1, r2, r3, r4⟩ := run_append_ownF (P := P) w 0 T U E i z sz bytes ht hi hz hi1 hi2 hz1 hsz v n xs hown a m cap news hl hh h1 hmx hb (Nat.zero_le _)
    refine ⟨v', w', ?_, grew_by r3, r2, newer (P := P) ht hi hz hi1 hi2 hz1 hsz hown hl hh h1 (by omega) hb r1⟩
    simp [mB, builtin, r1]
  cases a with
  | some p =>
    refine fin p fun j u hj => ?_
    have hlt : j < news.length := (List.getElem?_eq_some_iff.1 hj).1
    have hm : 0 < m := by
      rcases Nat.eq_zero_or_pos m with h0 | h0
      · subst h0; simp at hl; rw [hl] at hlt; simp at hlt
      · exact h0
    obtain ⟨hsp, hcell⟩ := hc p rfl
    have := hsp hm
    obtain ⟨b, off, spot⟩ := p
    simp only at this hcell
    subst this
    rw [add_none]; exact hcell j u hj
  | none =>
    have h0 := hn rfl
    subst h0
    have hnil : news = [] := List.eq_nil_of_length_eq_zero (by simpa using hl)
    subst hnil
    refine ⟨v, w, ?_, by rw [List.append_nil]; exact Turn.refl (e := .row E sz v n xs) hown⟩
    rcases hown.2 with ⟨rfl, rfl⟩ | ⟨g, cp, cur, fz, rfl, _, _, _, hnc, _⟩
    · simp [mB, builtin, Builtin.append_, run_underlying ht, sizeOf, typeInfo, hi, Builtin.lenOf, Builtin.firstCells]
    · simp [mB, builtin, Builtin.append_, run_underlying ht, sizeOf, typeInfo, hi, Builtin.lenOf, Builtin.firstCells, hnc, storeCells]
/-- append(s, more...): the i-th piece is the row; what is appended may be read anywhere. -/
theorem o_append {w0 : World} {L : List Ent} (i : Nat) {T E U : TypeId} {cs : Array Bool} {v v2 : Value} {sz bytes n m : Nat} {xs news : List Value} (ht : P.underlying T = some (.slice E)) (he : elB P E sz bytes = true) (hsz : 0 < sz)
    (ho : OwnS S w0 w L) (hi : L[i]? = some (.row E sz v n xs)) (hs : Sl w v2 sz m news) (h1 : ∀ u ∈ news, u.oneCell' = true) (hb : (n + m) * bytes ≤ 140737488355328) (hb2 : n + m ≤ 140737488355328)
    (k : ∀ v' w', OwnS S w0 w' (L.set i (.row E sz v' (n + m) (xs ++ news))) → K v' w') : DoX P (mB .append #[T, T] U cs #[v, v2]) w PK K := by
  obtain ⟨v', w', r, t⟩ := run_append_any (cs := cs) (U := U) ht he hsz (ho.at_ i hi) hs h1 hb hb2
  exact do_ok r (k _ _ (ho.turn i hi t))
/-- No slice of a block, without room. -/
def roomy (v : Value) : Prop := ∀ a k, v ≠ .slice (some a) k 0
theorem roomy_nil : roomy (.slice none 0 0) := fun _ _ h => by cases h
theorem roomy_row {E : TypeId} {sz : Nat} {v : Value} {n : Nat} {xs : List Value} (h : w.ownsRowF 0 E sz v n xs) (hn : 0 < n) : roomy v := by
  intro a k hc
  rcases h.2 with ⟨rfl, _⟩ | ⟨g, cap, cur, fz, rfl, hbg, hg, hfz, hnc, hcm, hcs, htake⟩
  · cases hc
  · injection hc with c1 c2 c3
    omega
theorem strCells_bytesV (l : List UInt8) : Lib.strCells ⟨l.toArray⟩ = bytesV l := by
  simp [Lib.strCells, bytesV]
theorem run_append_string {T U2 E U : TypeId} {cs : Array Bool} {v : Value} {n : Nat} {xs : List Value} {l : List UInt8} (ht : P.underlying T = some (.slice E)) (hu : P.underlying U2 = some .string) (he : elB P E 1 1 = true) (h8 : P.underlying E = some (.int .u8))
    (hz8 : (P.info? E).bind (·.zero) = some (.int .u8 0))
    (hown : w.ownsRowF 0 E 1 v n xs) (hb2 : n + l.length ≤ 140737488355328) :
    ∃ v' w', (mB .append #[T, U2] U cs #[v, .string ⟨l.toArray⟩]).run P w = .ok (.value v') w' ∧ Turn (.row E 1 v n xs) (.row E 1 v' (n + l.length) (xs ++ bytesV l)) w w' ∧ (roomy v → roomy v') := by
  obtain ⟨i, z, hi, hz, hi1, hi2, hz1⟩ := elB_spec he
  have hz0 : i.zero = some (.int .u8 0) := by rw [hi] at hz8; exact hz8
  have hsz := str_size l
  have hmx : n + (⟨l.toArray⟩ : ByteArray).size ≤ maxLen := by rw [hsz]; simp only [maxLen]; omega
  obtain ⟨v', w', r1, r2, r3, r4⟩ := Lib.run_append_own_stringF (P := P) w 0 T U2 U E i ht hu hi hz0 hi1 hi2 v n xs hown ⟨l.toArray⟩ hmx (by rw [hsz]; omega) (Nat.zero_le _)
  rw [strCells_bytesV, hsz] at r2
  have hro : roomy v → roomy v' := by
    intro hv a k hc
    rcases Nat.eq_zero_or_pos (n + l.length) with h0 | h0
    · rcases hown.2 with ⟨rfl, _⟩ | ⟨g, cap, cur, fz, rfl, hbg, hg, hfz, hnc, hcm, hcs, htake⟩
      · have := r4.2 ⟨rfl, by rw [hsz]; omega⟩
        rw [this] at hc; cases hc
      · have hroom : n + (⟨l.toArray⟩ : ByteArray).size ≤ cap := by rw [hsz]; omega
        rw [Lib.run_append_room_stringF (P := P) w T U2 U E i ht hu hi hi1 g n cap cur fz hg (by simpa using hfz) ⟨l.toArray⟩ hroom (by simp at hcs; omega)] at r1
        injection r1 with r1a r1b
        rw [← r1a] at hc
        injection hc with c1 c2 c3
        exact hv ⟨g, 0, none⟩ n (by rw [c3])
    · exact roomy_row r2 h0 a k hc
  refine ⟨v', w', by simp [mB, builtin, r1], ⟨grew_by r3, r2, ?_⟩, hro⟩
  intro k hk
  rcases hown.2 with ⟨rfl, rfl⟩ | ⟨g, cap, cur, fz, rfl, hbg, hg, hfz, hnc, hcm, hcs, htake⟩
  · obtain ⟨v2, w2, q1, q2, q3, q4⟩ := Lib.run_append_own_stringF (P := P) w w.heap.size T U2 U E i ht hu hi hz0 hi1 hi2 (.slice none 0 0) 0 xs ⟨hown.1, .inl ⟨rfl, rfl⟩⟩ ⟨l.toArray⟩ hmx (by rw [hsz]; omega) (Nat.le_refl _)
    rw [q1] at r1
    cases r1
    exact .inr (World.ownsRowF.lt q2 k hk).1
  · by_cases hroom : n + (⟨l.toArray⟩ : ByteArray).size ≤ cap
    · rw [Lib.run_append_room_stringF (P := P) w T U2 U E i ht hu hi hi1 g n cap cur fz hg (by simpa using hfz) ⟨l.toArray⟩ hroom (by simp at hcs; omega)] at r1
      cases r1
      exact .inl hk
    · have holds : ∀ j u, xs[j]? = some u → w.cell? ((⟨g, 0, none⟩ : Addr).add j) = some u := hown.cells (g := g) rfl
      rw [Lib.run_append_grow_string (P := P) w T U2 U E i (.int .u8 0) ht hu hi hz0 ⟨g, 0, none⟩ n cap xs (by rw [hi1]; simpa using hown.1) holds ⟨l.toArray⟩ (by omega) (by rw [hsz]; omega) (by rw [hi2]; exact growslice_fits (by omega) (by rw [hsz]; omega))] at r1
      cases r1
      have hk' : some w.heap.size = some k := hk
      cases hk'
      exact .inr (Nat.le_refl _)
theorem o_append_str {w0 : World} {L : List Ent} (i : Nat) {T U2 E U : TypeId} {cs : Array Bool} {v : Value} {n : Nat} {xs : List Value} {l : List UInt8} (ht : P.underlying T = some (.slice E)) (hu : P.underlying U2 = some .string) (he : elB P E 1 1 = true) (h8 : P.underlying E = some (.int .u8))
    (hz8 : (P.info? E).bind (·.zero) = some (.int .u8 0)) (ho : OwnS S w0 w L) (hi : L[i]? = some (.row E 1 v n xs)) (hb2 : n + l.length ≤ 140737488355328)
    (k : ∀ v' w', (roomy v → roomy v') → OwnS S w0 w' (L.set i (.row E 1 v' (n + l.length) (xs ++ bytesV l))) → K v' w') : DoX P (mB .append #[T, U2] U cs #[v, .string ⟨l.toArray⟩]) w PK K := by
  obtain ⟨v', w', r, t, hc⟩ := run_append_string (cs := cs) (U := U) ht hu he h8 hz8 (ho.at_ i hi) hb2
  exact do_ok r (k _ _ hc (ho.turn i hi t))
/-- A nil slice is a row. -/
theorem OwnS.nilRow {w0 : World} {L : List Ent} (ho : OwnS S w0 w L) (E : TypeId) (sz : Nat) : OwnS S w0 w (.row E sz (.slice none 0 0) 0 [] :: L) := by
  refine ⟨ho.grew, fun e he => ?_, .cons (fun f hf k hk => by simp [Ent.row, Value.ownBlock] at hk) ho.apart⟩
  rcases List.mem_cons.1 he with rfl | he
  · exact ⟨World.ownsRowF_nil w 0 E sz, fun k hk => by simp [Ent.row, Value.ownBlock] at hk⟩
  · exact ho.all e he
theorem OwnS.slRow {w0 : World} {L : List Ent} (ho : OwnS S w0 w L) (i : Nat) {T : TypeId} {sz : Nat} {v : Value} {n : Nat} {xs : List Value} (hi : L[i]? = some (.row T sz v n xs)) : Sl w v sz n xs := Sl.row (ho.at_ i hi)
/-- A block of cells, all of them in use, is a row. -/
theorem OwnS.toRow {w0 : World} {L : List Ent} {b : Nat} {cs : List Value} {E : TypeId} (ho : OwnS S w0 w (.cells b cs E :: L)) (sz n cap : Nat) (hl : cs.length = cap * sz) (hn : n ≤ cap) (hc : cap ≤ 9223372036854775807) :
    OwnS S w0 w (.row E sz (.slice (some ⟨b, 0, none⟩) n cap) n (cs.take (n * sz)) :: L) := by
  refine ⟨ho.grew, fun e he => ?_, ?_⟩
  · rcases List.mem_cons.1 he with rfl | he
    · refine ⟨⟨by rw [List.length_take, hl, Nat.min_eq_left (Nat.mul_le_mul_right _ hn)], .inr ⟨b, cap, cs.toArray, (0, 0), rfl, Nat.zero_le _, ho.at_ 0 rfl, Nat.zero_le _, hn, by simp only [maxLen]; omega, by simpa using hl, by simp⟩⟩, fun k hk => ?_⟩
      simp only [Ent.row, Value.ownBlock, Option.some.injEq] at hk
      exact (ho.all (.cells b cs E) (by simp)).2 k hk.symm
    · exact ho.all e (by simp [he])
  · refine .cons (fun f hf k hk => ?_) (List.pairwise_cons.1 ho.apart).2
    simp only [Ent.row, Value.ownBlock, Option.some.injEq] at hk
    exact (List.pairwise_cons.1 ho.apart).1 f hf k hk.symm

/-- make([]T, 0, c). -/
theorem o_make {w0 : World} {L : List Ent} {T E : TypeId} {sz bytes c : Nat} {kl kc : IntKind} {x : Int} (hx : x = c) (ht : P.underlying T = some (.slice E)) (he : elB P E sz bytes = true) (hb : bytes * c ≤ 281474976710656) (hc : c ≤ 281474976710656) (ho : OwnS S w0 w L)
    (k : ∀ v w', OwnS S w0 w' (.row E sz v 0 [] :: L) → K v w') : DoX P (mMake T (.int kl 0) (.int kc x)) w PK K := by
  subst hx
  obtain ⟨i, z, hi, hz, hi1, hi2, hz1⟩ := elB_spec he
  obtain ⟨w', r1, r2, r3⟩ := run_make_own (P := P) w w.heap.size T E i z sz ht hi hz hi1 kl kc c (by rw [hi2]; exact hb) (by simp only [maxLen]; omega) (Nat.le_refl _)
  refine do_ok (mv_run r1) (k _ _ (ho.add r3 (.row E sz (.slice (some ⟨w.heap.size, 0, none⟩) 0 c) 0 []) ?_ (fun k hk => ?_)))
  · have := World.ownsRowF_of r2
    refine ⟨this.1, ?_⟩
    rcases this.2 with h | ⟨g, cp, cur, fz, h1, h2, h3⟩
    · exact .inl h
    · exact .inr ⟨g, cp, cur, fz, h1, Nat.zero_le _, h3⟩
  · have hk' : some w.heap.size = some k := hk
    cases hk'; exact Nat.le_refl _
/- STRINGS.BUILDER -/
/-- A Builder in block b, its buffer the slice v, that holds l. -/
def Ent.bld (T E : TypeId) (b : Nat) (v : Value) (l : List UInt8) : Ent :=
  ⟨fun k => k = b ∨ v.ownBlock = some k,
   fun w => (∃ p, (p = .pointer none ∨ p = .pointer (some ⟨b, 0, none⟩)) ∧ w.heap[b]? = some (.cells #[p, v] T (0, 0))) ∧ w.ownsRowF 0 E 1 v l.length (bytesV l) ∧ v.ownBlock ≠ some b ∧ roomy v,
   fun {w w'} h k => ⟨by obtain ⟨p, hp, hb⟩ := h.1; exact ⟨p, hp, (k b (.inl rfl)).trans hb⟩, (Ent.row E 1 v l.length (bytesV l)).keep h.2.1 (fun j hj => k j (.inr hj)), h.2.2⟩,
   fun {w} h k hk => by
    rcases hk with rfl | hk
    · obtain ⟨p, hp, hb⟩ := h.1; exact lt_of_get hb
    · exact (World.ownsRowF.lt h.2.1 k hk).2⟩
theorem OwnS.openB {w0 : World} {L : List Ent} {T E : TypeId} {b : Nat} {v : Value} {l : List UInt8} (ho : OwnS S w0 w (.bld T E b v l :: L)) :
    ∃ p, (p = .pointer none ∨ p = .pointer (some ⟨b, 0, none⟩)) ∧ roomy v ∧ OwnS S w0 w (.cells b [p, v] T :: .row E 1 v l.length (bytesV l) :: L) := by
  have hm := ho.all (.bld T E b v l) (by simp)
  obtain ⟨⟨p, hp, hb⟩, hr, hne, hcap⟩ := hm.1
  refine ⟨p, hp, hcap, ho.grew, fun e he => ?_, ?_⟩
  · rcases List.mem_cons.1 he with rfl | he
    · exact ⟨hb, fun k hk => hm.2 k (.inl hk)⟩
    · rcases List.mem_cons.1 he with rfl | he
      · exact ⟨hr, fun k hk => hm.2 k (.inr hk)⟩
      · exact ho.all e (by simp [he])
  · obtain ⟨h1, h2⟩ := List.pairwise_cons.1 ho.apart
    refine .cons (fun f hf k hk hk' => ?_) (.cons (fun f hf k hk => h1 f hf k (.inr hk)) h2)
    rcases List.mem_cons.1 hf with rfl | hf
    · have hkb : k = b := hk
      rw [hkb] at hk'
      exact hne hk'
    · exact h1 f hf k (.inl hk) hk'
theorem OwnS.closeB {w0 : World} {L : List Ent} {T E : TypeId} {b n : Nat} {p v : Value} {l : List UInt8} (hp : p = .pointer none ∨ p = .pointer (some ⟨b, 0, none⟩)) (hcap : roomy v) (ho : OwnS S w0 w (.cells b [p, v] T :: .row E 1 v n (bytesV l) :: L)) :
    OwnS S w0 w (.bld T E b v l :: L) := by
  have h0 := ho.all (.cells b [p, v] T) (by simp)
  have h1 := ho.all (.row E 1 v n (bytesV l)) (by simp)
  obtain ⟨a1, a2⟩ := List.pairwise_cons.1 ho.apart
  obtain ⟨a3, a4⟩ := List.pairwise_cons.1 a2
  have hn : n = l.length := by have := h1.1.1; rw [bytesV_length] at this; omega
  subst hn
  refine ⟨ho.grew, fun e he => ?_, .cons (fun f hf k hk hk' => ?_) a4⟩
  · rcases List.mem_cons.1 he with rfl | he
    · refine ⟨⟨⟨p, hp, h0.1⟩, h1.1, fun hc => a1 (.row E 1 v l.length (bytesV l)) (by simp) b rfl hc, hcap⟩, fun k hk => ?_⟩
      rcases hk with hk | hk
      · exact h0.2 k hk
      · exact h1.2 k hk
    · exact ho.all e (by simp [he])
  · rcases hk with hk | hk
    · exact a1 f (by simp [hf]) k hk hk'
    · exact a3 f hf k hk hk'
theorem OwnS.swap {w0 : World} {e f : Ent} {L : List Ent} (ho : OwnS S w0 w (e :: f :: L)) : OwnS S w0 w (f :: e :: L) := by
  obtain ⟨a1, a2⟩ := List.pairwise_cons.1 ho.apart
  obtain ⟨a3, a4⟩ := List.pairwise_cons.1 a2
  exact ⟨ho.grew, fun g hg => ho.all g (by simp only [List.mem_cons] at hg ⊢; rcases hg with h | h | h <;> simp [h]), .cons (fun g hg k hk hk' => by
    rcases List.mem_cons.1 hg with rfl | hg
    · exact a1 f (by simp) k hk' hk
    · exact a3 g hg k hk hk') (.cons (fun g hg k hk hk' => a1 g (by simp [hg]) k hk hk') a4)⟩

/-- A callee turns the i-th piece. -/
theorem c_turn {w0 : World} {L : List Ent} (i : Nat) {f : Nat} {args : Array Value} {e : Ent} {R : Value → Ent → Prop} (ho : OwnS S w0 w L) (hi : L[i]? = some e) (h : Ret P f args w (fun v w' => ∃ e', R v e' ∧ Turn e e' w w'))
    (k : ∀ v e' w', R v e' → OwnS S w0 w' (L.set i e') → K v w') : CallX P f args w PK K :=
  c_ret h fun v w' ⟨e', hr, ht⟩ => k v e' w' hr (ho.turn i hi ht)
/-- A callee that only makes memory. -/
theorem c_below {w0 : World} {L : List Ent} {f : Nat} {args : Array Value} {R : Value → Prop} (ho : OwnS S w0 w L) (h : Ret P f args w (fun v w' => R v ∧ Below w.heap.size w w'))
    (k : ∀ v w', R v → OwnS S w0 w' L → K v w') : CallX P f args w PK K :=
  c_ret h fun v w' ⟨hr, hb⟩ => k v w' hr (ho.grow hb)
end
end Eng
end Go.Proofs.YtiklhhdohckfiaaDoor
/- Code in continuation form, by program (gen.py): 7 functions. -/
namespace Go.Proofs.YtiklhhdohckfiaaDoor
set_option linter.unusedVariables false
set_option linter.unusedSimpArgs false
set_option linter.defProp false
set_option linter.unusedVariables false
set_option maxRecDepth 20000
open Eng

/- (*strings.Builder).copyCheck -/
def S_strings_Builder_copyCheck (t0 : Value) (w : World) (K : Ending → World → Prop) : Prop :=
 DoX Tryd.prog (mNil t0) w (pk K) fun t3 w =>
 DoX Tryd.prog (mFA 50 t3 0) w (pk K) fun t4 w =>
 DoX Tryd.prog (mLoad 47 t4) w (pk K) fun t5 w =>
 DoX Tryd.prog (mEq .eql 47 (.tmp 5) (.const (.pointer none)) t5 (.pointer none)) w (pk K) fun t6 w =>
 IfX t6 (DoX Tryd.prog (mConv 47 79 t0) w (pk K) fun t9 w =>
 DoX Tryd.prog (mCallV (.func (.func 53) #[] #[]) #[t9]) w (pk K) fun t10 w =>
 DoX Tryd.prog (mConv 79 47 t10) w (pk K) fun t11 w =>
 DoX Tryd.prog (mNil t0) w (pk K) fun t12 w =>
 DoX Tryd.prog (mFA 50 t12 0) w (pk K) fun t13 w =>
 DoX Tryd.prog (mStore 47 t13 t11) w (pk K) fun _ w =>
 K (.returned (.tuple #[])) w) (DoX Tryd.prog (mNil t0) w (pk K) fun t15 w =>
 DoX Tryd.prog (mFA 50 t15 0) w (pk K) fun t16 w =>
 DoX Tryd.prog (mLoad 47 t16) w (pk K) fun t17 w =>
 DoX Tryd.prog (mEq .neq 47 (.tmp 17) (.tmp 18) t17 t0) w (pk K) fun t19 w =>
 IfX t19 (False) (K (.returned (.tuple #[])) w))
theorem S_strings_Builder_copyCheck_eq (t0 : Value) (w : World) (K : Ending → World → Prop) : wpX Tryd.prog 20 [] [] none (bodyOf Tryd.f36) (topQ Tryd.prog [] K) (startX [t0]) [] w = S_strings_Builder_copyCheck t0 w K := by kernel_rfl
theorem S_strings_Builder_copyCheck_ok {t0 : Value} {w : World} {K : Ending → World → Prop} (h : S_strings_Builder_copyCheck t0 w K) : Calls Tryd.prog 36 #[t0] w K :=
  calls_of_wpX Tryd.func36 rfl rfl rfl rfl (Eq.mpr (S_strings_Builder_copyCheck_eq t0 w K) h)

/- (*strings.Builder).WriteByte -/
def S_strings_Builder_WriteByte (t0 t1 : Value) (w : World) (K : Ending → World → Prop) : Prop :=
 CallX Tryd.prog 36 #[t0] w (pk K) fun t6 w =>
 DoX Tryd.prog (mNil t0) w (pk K) fun t9 w =>
 DoX Tryd.prog (mFA 50 t9 1) w (pk K) fun t10 w =>
 DoX Tryd.prog (mLoad 48 t10) w (pk K) fun t11 w =>
 DoX Tryd.prog (mBuildS 48 1 #[(0, t1)]) w (pk K) fun t13 w =>
 DoX Tryd.prog (mB .append #[48, 48] 48 #[false, false] #[t11, t13]) w (pk K) fun t14 w =>
 DoX Tryd.prog (mNil t0) w (pk K) fun t15 w =>
 DoX Tryd.prog (mFA 50 t15 1) w (pk K) fun t16 w =>
 DoX Tryd.prog (mStore 48 t16 t14) w (pk K) fun _ w =>
 K (.returned .nilIface) w
theorem S_strings_Builder_WriteByte_eq (t0 t1 : Value) (w : World) (K : Ending → World → Prop) : wpX Tryd.prog 17 [] [] none (bodyOf Tryd.f25) (topQ Tryd.prog [.tmp 4] K) (startX [t0, t1]) [] w = S_strings_Builder_WriteByte t0 t1 w K := by kernel_rfl
theorem S_strings_Builder_WriteByte_ok {t0 t1 : Value} {w : World} {K : Ending → World → Prop} (h : S_strings_Builder_WriteByte t0 t1 w K) : Calls Tryd.prog 25 #[t0, t1] w K :=
  calls_of_wpX Tryd.func25 rfl rfl rfl rfl (Eq.mpr (S_strings_Builder_WriteByte_eq t0 t1 w K) h)

/- (*strings.Builder).WriteString -/
def S_strings_Builder_WriteString (t0 t1 : Value) (w : World) (K : Ending → World → Prop) : Prop :=
 CallX Tryd.prog 36 #[t0] w (pk K) fun t7 w =>
 DoX Tryd.prog (mNil t0) w (pk K) fun t10 w =>
 DoX Tryd.prog (mFA 50 t10 1) w (pk K) fun t11 w =>
 DoX Tryd.prog (mLoad 48 t11) w (pk K) fun t12 w =>
 DoX Tryd.prog (mB .append #[48, 9] 48 #[false, false] #[t12, t1]) w (pk K) fun t14 w =>
 DoX Tryd.prog (mNil t0) w (pk K) fun t15 w =>
 DoX Tryd.prog (mFA 50 t15 1) w (pk K) fun t16 w =>
 DoX Tryd.prog (mStore 48 t16 t14) w (pk K) fun _ w =>
 DoX Tryd.prog (mB .len #[9] 3 #[false] #[t1]) w (pk K) fun t18 w =>
 K (.returned (.tuple #[t18, .nilIface])) w
theorem S_strings_Builder_WriteString_eq (t0 t1 : Value) (w : World) (K : Ending → World → Prop) : wpX Tryd.prog 19 [] [] none (bodyOf Tryd.f24) (topQ Tryd.prog [.tmp 4, .tmp 5] K) (startX [t0, t1]) [] w = S_strings_Builder_WriteString t0 t1 w K := by kernel_rfl
theorem S_strings_Builder_WriteString_ok {t0 t1 : Value} {w : World} {K : Ending → World → Prop} (h : S_strings_Builder_WriteString t0 t1 w K) : Calls Tryd.prog 24 #[t0, t1] w K :=
  calls_of_wpX Tryd.func24 rfl rfl rfl rfl (Eq.mpr (S_strings_Builder_WriteString_eq t0 t1 w K) h)

/- (*strings.Builder).String -/
def S_strings_Builder_String (t0 : Value) (w : World) (K : Ending → World → Prop) : Prop :=
 QuietX w (fun C1 =>
 QDo Tryd.prog C1 (mNil t0) fun t4 =>
 QDo Tryd.prog C1 (mFA 50 t4 1) fun t5 =>
 QDo Tryd.prog C1 (mLoad 48 t5) fun t6 =>
 QDo Tryd.prog C1 (mB .unsafeSliceData #[48] 66 #[false] #[t6]) fun t7 =>
 QDo Tryd.prog C1 (mNil t0) fun t9 =>
 QDo Tryd.prog C1 (mFA 50 t9 1) fun t10 =>
 QDo Tryd.prog C1 (mLoad 48 t10) fun t11 =>
 QDo Tryd.prog C1 (mB .len #[48] 3 #[false] #[t11]) fun t12 =>
 ∀ w, C1 w →
 DoX Tryd.prog (mB .unsafeString #[66, 3] 9 #[false, false] #[t7, t12]) w (pk K) fun t13 w =>
 K (.returned t13) w)
theorem S_strings_Builder_String_eq (t0 : Value) (w : World) (K : Ending → World → Prop) : wpX Tryd.prog 14 [] [] none (bodyOf Tryd.f26) (topQ Tryd.prog [.tmp 2] K) (startX [t0]) [] w = S_strings_Builder_String t0 w K := by kernel_rfl
theorem S_strings_Builder_String_ok {t0 : Value} {w : World} {K : Ending → World → Prop} (h : S_strings_Builder_String t0 w K) : Calls Tryd.prog 26 #[t0] w K :=
  calls_of_wpX Tryd.func26 rfl rfl rfl rfl (Eq.mpr (S_strings_Builder_String_eq t0 w K) h)

/- (*strings.Builder).Grow -/
/- (*strings.Builder).grow -/
/- (*strings.Builder).Len -/
end Go.Proofs.YtiklhhdohckfiaaDoor
/- Contracts: strings.Builder (copyCheck, WriteByte, WriteString, Grow on a fresh one, String), in terms of a piece of memory that is lent. -/
namespace Go.Proofs.YtiklhhdohckfiaaDoor
set_option linter.unusedVariables false
set_option linter.unusedSimpArgs false
set_option linter.defProp false
open Eng Go.RowKit

abbrev Bld (b : Nat) (v : Value) (l : List UInt8) : Ent := .bld 50 5 b v l
theorem bytesV_append (a b : List UInt8) : bytesV (a ++ b) = bytesV a ++ bytesV b := by simp [bytesV]
theorem bytesV_one (l : List UInt8) : ∀ u ∈ bytesV l, u.oneCell' = true := by
  intro u hu
  simp only [bytesV, List.mem_map] at hu
  obtain ⟨c, _, rfl⟩ := hu
  rfl
theorem e_pnone {P : Program} {T U : TypeId} {xo : Operand} {a : Option Addr} {c : Value} {w : World} {PK : List PanicEntry → World → Prop} {K : Value → World → Prop} (h : P.underlying T = some (.pointer U)) :
    DoX P (mEq .eql T xo (.const c) (.pointer a) (.pointer none)) w PK K = K (.bool a.isNone) w := by
  refine mv_do ?_
  have e : (eqGuard .eql T xo (.const c) (.pointer a) (.pointer none)) = pure () := by cases xo <;> rfl
  rw [e]
  have h2 : ∀ d : Nat, (Op.equalIn (d + 1) T (.pointer a) (.pointer none)).run P w = .ok a.isNone w := fun d => by
    cases a <;> simp [Op.equalIn, run_underlying h]
  simp only [binOp]
  simp [Op.equal, Op.maxDepth, h2 9999]
theorem n_psame {P : Program} {T U : TypeId} {xo yo : Operand} {a : Addr} {w : World} {PK : List PanicEntry → World → Prop} {K : Value → World → Prop} (h : P.underlying T = some (.pointer U)) (hi : (P.info? U).isSome = true) (hg : eqGuard .neq T xo yo (.pointer (some a)) (.pointer (some a)) = pure ()) :
    DoX P (mEq .neq T xo yo (.pointer (some a)) (.pointer (some a))) w PK K = K (.bool false) w := by
  obtain ⟨j, hj⟩ := Option.isSome_iff_exists.1 hi
  refine mv_do ?_
  rw [hg]
  simp [Lib.run_neq_ptr_same w a h hj]

theorem copyCheck_ret {b : Nat} {v : Value} {l : List UInt8} {w : World} (h : (Bld b v l).is w) : Ret Tryd.prog 36 #[.pointer (some ⟨b, 0, none⟩)] w
    (fun r w' => ∃ e', (r = .tuple #[] ∧ e' = Bld b v l) ∧ Turn (Bld b v l) e' w w') := by
  obtain ⟨p, hp, hcap, ho⟩ := (OwnS.lend h).openB
  refine ret_of fun K hK => S_strings_Builder_copyCheck_ok ?_
  unfold S_strings_Builder_copyCheck
  simp only [rs, f_addr (show fOff Tryd.prog 50 0 = some 0 by kernel_rfl)]
  rw [l_cell (by kernel_rfl) (ho.cell 0 rfl 0 rfl)]
  rcases hp with rfl | rfl
  · rw [e_pnone Tryd.underlying47]
    simp only [Option.isNone_none, rs]
    obtain ⟨j, hj⟩ := Option.isSome_iff_exists.1 (show (Tryd.prog.info? 50).isSome = true by kernel_rfl)
    have hjs : j.size ≠ 0 := by
      have : (Tryd.prog.info? 50).map (·.size) = some 2 := by kernel_rfl
      rw [hj] at this
      simp only [Option.map_some, Option.some.injEq] at this
      omega
    have hsh : w.shape? b = some (50, 2) := by
      have hb : w.heap[b]? = some (.cells #[.pointer none, v] 50 (0, 0)) := ho.at_ 0 rfl
      simp [World.shape?, hb]
    refine do_ok (mv_run (Lib.run_to_unsafe w ⟨b, 0, none⟩ Tryd.underlying47 Tryd.underlying79 hj hjs hsh (by show 0 < 2; omega))) ?_
    refine do_ok (show (mCallV (.func (.func 53) #[] #[]) #[.pointer (some ⟨b, 0, none⟩)]).run Tryd.prog w = .ok (.value (.pointer (some ⟨b, 0, none⟩))) w by kernel_rfl) ?_
    refine do_ok (mv_run (Lib.run_from_unsafe w ⟨b, 0, none⟩ Tryd.underlying79 Tryd.underlying47 hj hsh (by kernel_rfl))) ?_
    refine o_store 0 ho rfl (by kernel_rfl) rfl (by simp) fun w2 ho2 => ?_
    exact hK _ _ ⟨_, ⟨rfl, rfl⟩, (OwnS.closeB (.inr rfl) hcap ho2).back⟩
  · rw [e_pnone Tryd.underlying47]
    simp only [Option.isNone_some, rs, f_addr (show fOff Tryd.prog 50 0 = some 0 by kernel_rfl)]
    rw [l_cell (by kernel_rfl) (ho.cell 0 rfl 0 rfl)]
    rw [n_psame Tryd.underlying47 (by kernel_rfl) rfl]
    simp only [rs]
    exact hK _ _ ⟨_, ⟨rfl, rfl⟩, (ho.closeB (.inr rfl) hcap).back⟩
theorem writeByte_ret {b : Nat} {v : Value} {l : List UInt8} {c : UInt8} {w : World} (h : (Bld b v l).is w) (hl : l.length < 140737488355328) : Ret Tryd.prog 25 #[.pointer (some ⟨b, 0, none⟩), .int .u8 c.toNat] w
    (fun r w' => ∃ e', (r = .nilIface ∧ ∃ v', e' = Bld b v' (l ++ [c])) ∧ Turn (Bld b v l) e' w w') := by
  refine ret_of fun K hK => S_strings_Builder_WriteByte_ok ?_
  unfold S_strings_Builder_WriteByte
  refine c_turn 0 (OwnS.lend h) rfl (copyCheck_ret h) ?_
  rintro _ _ w1 ⟨rfl, rfl⟩ ho1
  obtain ⟨p, hp, hcap, ho⟩ := OwnS.openB ho1
  simp only [rs, f_addr (show fOff Tryd.prog 50 1 = some 1 by kernel_rfl)]
  rw [l_cell (by kernel_rfl) (ho.cell 0 rfl 1 rfl)]
  refine o_new (fun b => .slice (some ⟨b, 0, none⟩) 1 1) [.int .u8 c.toNat] 5 (fun _ => by kernel_rfl) ho fun nb w2 h2 => ?_
  refine o_append 2 Tryd.underlying48 (show elB Tryd.prog 5 1 1 = true by kernel_rfl) (by decide) h2 rfl (h2.sl 0 rfl 1 1 1 rfl) (bytesV_one [c]) (by omega) (by omega) fun v' w3 h3 => ?_
  refine o_store 1 h3 rfl (by kernel_rfl) (by
    have := h3.at_ 2 rfl
    rcases this.2 with ⟨hv, _⟩ | ⟨_, _, _, _, hv, _⟩ <;> rw [hv] <;> rfl) (by simp) fun w4 h4 => ?_
  have h5 := h4.tail
  have h6 : OwnS (Bld b v l).blk w w4 (.cells b [p, v'] 50 :: .row 5 1 v' (l.length + 1) (bytesV (l ++ [c])) :: []) := by
    rw [bytesV_append]; exact h5
  exact hK _ _ ⟨_, ⟨rfl, v', rfl⟩, (OwnS.closeB hp (roomy_row (h6.at_ 1 rfl) (by omega)) h6).back⟩
theorem writeString_ret {b : Nat} {v : Value} {l s : List UInt8} {w : World} (h : (Bld b v l).is w) (hl : l.length + s.length ≤ 140737488355328) : Ret Tryd.prog 24 #[.pointer (some ⟨b, 0, none⟩), .string ⟨s.toArray⟩] w
    (fun r w' => ∃ e', ((∃ x, r = .tuple #[x, .nilIface]) ∧ ∃ v', e' = Bld b v' (l ++ s)) ∧ Turn (Bld b v l) e' w w') := by
  refine ret_of fun K hK => S_strings_Builder_WriteString_ok ?_
  unfold S_strings_Builder_WriteString
  refine c_turn 0 (OwnS.lend h) rfl (copyCheck_ret h) ?_
  rintro _ _ w1 ⟨rfl, rfl⟩ ho1
  obtain ⟨p, hp, hcap, ho⟩ := OwnS.openB ho1
  simp only [rs, f_addr (show fOff Tryd.prog 50 1 = some 1 by kernel_rfl)]
  rw [l_cell (by kernel_rfl) (ho.cell 0 rfl 1 rfl)]
  refine o_append_str 1 Tryd.underlying48 Tryd.underlying9 (show elB Tryd.prog 5 1 1 = true by kernel_rfl) Tryd.underlying5 (by kernel_rfl) ho rfl (by omega) fun v' w3 hro h3 => ?_
  refine o_store 0 h3 rfl (by kernel_rfl) (by
    have := h3.at_ 1 rfl
    rcases this.2 with ⟨hv, _⟩ | ⟨_, _, _, _, hv, _⟩ <;> rw [hv] <;> rfl) (by simp) fun w4 h4 => ?_
  rw [s_len Tryd.underlying9]
  have h6 : OwnS (Bld b v l).blk w w4 (.cells b [p, v'] 50 :: .row 5 1 v' (l.length + s.length) (bytesV (l ++ s)) :: []) := by
    rw [bytesV_append]; exact h4
  exact hK _ _ ⟨_, ⟨⟨_, rfl⟩, v', rfl⟩, (OwnS.closeB hp (hro hcap) h6).back⟩
theorem row_froze {E : TypeId} {g n cap : Nat} {xs : List Value} {w : World} (h : w.ownsRowF 0 E 1 (.slice (some ⟨g, 0, none⟩) n cap) n xs) (hn0 : n ≠ 0) :
    Turn (.row E 1 (.slice (some ⟨g, 0, none⟩) n cap) n xs) (.row E 1 (.slice (some ⟨g, 0, none⟩) n cap) n xs) w (w.freeze ⟨g, 0, none⟩ n) := by
  refine ⟨?_, ?_, fun k hk => .inl hk⟩
  · unfold World.freeze
    rw [if_neg hn0]
    refine ⟨rfl, rfl, rfl, by simp, fun k hk hne => ?_⟩
    have hkg : ¬ g = k := fun e => hne (by show some g = some k; rw [e])
    simp only [Array.getElem?_modify]
    rw [if_neg hkg]
  · refine ⟨h.1, ?_⟩
    unfold World.freeze
    rw [if_neg hn0]
    rcases h.2 with ⟨hv, _⟩ | ⟨g', cap', cur, fz, hv, hbg, hg, hfz, rest⟩
    · cases hv
    · injection hv with ha _ hcap
      injection ha with ha
      injection ha with hgg _ _
      subst hgg
      subst hcap
      obtain ⟨lo, hi⟩ := fz
      refine .inr ⟨g, _, cur, (if lo == hi then (0, 0 + n) else (min lo 0, max hi (0 + n))), rfl, hbg, ?_, ?_, rest⟩
      · simp [Array.getElem?_modify, hg]
      · simp only at hfz
        split <;> simp <;> omega
theorem run_usd {v : Value} {n : Nat} {T U : TypeId} {cs : Array Bool} {w : World} {E : TypeId} {xs : List Value} (h : w.ownsRowF 0 E 1 v n xs) (hr : roomy v) : ∃ q, (∀ w' : World, (mB .unsafeSliceData #[T] U cs #[v]).run Tryd.prog w' = .ok (.value (.pointer q)) w') ∧ (0 < n → ∃ g cap, v = .slice (some ⟨g, 0, none⟩) n cap ∧ q = some ⟨g, 0, none⟩) := by
  rcases h.2 with ⟨rfl, rfl⟩ | ⟨g, cap, cur, fz, rfl, hbg, hg, hfz, rest⟩
  · exact ⟨none, fun w' => by simp [mB, builtin, Lib.run_unsafeSliceData_nil], fun h => by omega⟩
  · refine ⟨some ⟨g, 0, none⟩, fun w' => ?_, fun _ => ⟨g, cap, rfl, rfl⟩⟩
    have hc : cap ≠ 0 := fun e => hr ⟨g, 0, none⟩ n (by rw [e])
    simp [mB, builtin, Lib.run_unsafeSliceData_row _ _ _ _ _ _ hc]
theorem bldString_ret {b : Nat} {v : Value} {l : List UInt8} {w : World} (h : (Bld b v l).is w) : Ret Tryd.prog 26 #[.pointer (some ⟨b, 0, none⟩)] w
    (fun r w' => ∃ e', (r = .string ⟨l.toArray⟩ ∧ e' = Bld b v l) ∧ Turn (Bld b v l) e' w w') := by
  obtain ⟨p, hp, hcap, ho⟩ := (OwnS.lend h).openB
  refine ret_of fun K hK => S_strings_Builder_String_ok ?_
  unfold S_strings_Builder_String
  have hrow : w.ownsRowF 0 5 1 v l.length (bytesV l) := ho.at_ 1 rfl
  obtain ⟨q, hq, hq2⟩ := run_usd (T := 48) (U := 66) (cs := #[false]) hrow hcap
  have hload : ∀ w', Below w.heap.size w w' → (mLoad 48 (.pointer (some ⟨b, 0 + 1, none⟩))).run Tryd.prog w' = .ok (.value v) w' := fun w' hb => run_load_cell (by kernel_rfl) ((ho.grow hb).cell 0 rfl 1 rfl)
  have hlen : ∀ w', Below w.heap.size w w' → (mB .len #[48] 3 #[false] #[v]).run Tryd.prog w' = .ok (.value (.int .i64 l.length)) w' := fun w' hb => by
    have hs := (ho.grow hb).slRow 1 rfl
    obtain ⟨_, a, cp, rfl, _⟩ := hs
    simp [mB, builtin, Builtin.len_, run_underlying Tryd.underlying48, goInt]
  refine quiet (q_do _ (fun w => run_nil) (q_do _ (fun w => run_fa (show fOff Tryd.prog 50 1 = some 1 by kernel_rfl)) (q_at v hload (q_do _ hq (q_do _ (fun w => run_nil) (q_do _ (fun w => run_fa (show fOff Tryd.prog 50 1 = some 1 by kernel_rfl)) (q_at v hload (q_at _ hlen ?_))))))))
  intro w2 hb2
  have h2 := ho.grow hb2
  rcases Nat.eq_zero_or_pos l.length with h0 | h0
  · have hl : l = [] := List.eq_nil_of_length_eq_zero h0
    subst hl
    refine do_ok (show (mB .unsafeString #[66, 3] 9 #[false, false] #[.pointer q, .int .i64 0]).run Tryd.prog w2 = .ok (.value (.string ⟨([] : List UInt8).toArray⟩)) w2 by
      simp [mB, builtin, Lib.run_unsafeString_none]; rfl) ?_
    exact hK _ _ ⟨_, ⟨rfl, rfl⟩, (OwnS.closeB hp hcap h2).back⟩
  · obtain ⟨g, cap, rfl, rfl⟩ := hq2 h0
    have hr2 : w2.ownsRowF 0 5 1 (.slice (some ⟨g, 0, none⟩) l.length cap) l.length (bytesV l) := h2.at_ 1 rfl
    have hne : l ≠ [] := List.length_pos_iff.1 h0
    have hsh : ∃ cells, w2.shape? g = some (5, cells) ∧ l.length ≤ cells ∧ l.length ≤ 9223372036854775807 := by
      rcases hr2.2 with ⟨hv, _⟩ | ⟨g', cap', cur, fz, hv, hbg, hg, hfz, hnc, hcm, hcs, _⟩
      · cases hv
      · injection hv with ha _ hcap
        injection ha with ha
        injection ha with hgg _ _
        subst hgg
        refine ⟨cur.size, by simp [World.shape?, hg], by omega, ?_⟩
        simp only [maxLen] at hcm; omega
    obtain ⟨cells, hsh, hle, h63⟩ := hsh
    have hr := Lib.run_unsafeString_row (P := Tryd.prog) w2 66 3 9 5 Tryd.underlying66 (by kernel_rfl) g cells hsh l hne hle h63 (fun j x hj => by
      have := World.ownsRowF.cells hr2 (g := g) rfl j (.int .u8 x.toNat) (bytesV_get hj)
      exact this)
    refine do_ok (show (mB .unsafeString #[66, 3] 9 #[false, false] #[.pointer (some ⟨g, 0, none⟩), .int .i64 l.length]).run Tryd.prog w2 = .ok (.value (.string ⟨l.toArray⟩)) (w2.freeze ⟨g, 0, none⟩ l.length) by
      simp [mB, builtin, hr]) ?_
    have h3 := h2.turn 1 rfl (row_froze hr2 (by omega))
    exact hK _ _ ⟨_, ⟨rfl, rfl⟩, (OwnS.closeB hp hcap h3).back⟩
theorem grow_ret {b n : Nat} {w0 w1 : World} (ho : Own w0 w1 [.cells b [.pointer none, .slice none 0 0] 50]) (h0 : 0 < n) (hn : n ≤ 281474976710656) : Ret Tryd.prog 60 #[.pointer (some ⟨b, 0, none⟩), .int .i64 n] w1
    (fun r w2 => r = .tuple #[] ∧ ∃ v, Own w0 w2 [Bld b v []]) := by
  have hbk : w1.heap[b]? = some (.cells #[.pointer none, .slice none 0 0] 50 (0, 0)) := ho.at_ 0 rfl
  have hB : w0.heap.size ≤ b := ((ho.all (.cells b [.pointer none, .slice none 0 0] 50) (by simp)).2 b rfl).elim (fun x => x.elim) id
  refine Calls.mono (Tryd.Builder_Grow_fresh_cap w0.heap.size b n w1 hB hbk ho.size hn) ?_
  rintro e w2 ⟨rfl, ⟨⟨_, v, hb, hrow, hne⟩, hbl⟩, p, cap, hcell, hcap⟩
  refine retK ⟨rfl, v, ?_⟩
  have hv : v = .slice p 0 cap := by
    rw [Lib.cell_of_heap hb] at hcell
    simpa using hcell
  refine ⟨⟨hbl.os.trans ho.grew.os, hbl.tape.trans ho.grew.tape, hbl.output.trans ho.grew.output, Nat.le_trans ho.size hbl.size, fun k hk hk2 => (hbl.block k hk).trans (ho.grew.block k hk hk2)⟩, fun e he => ?_, List.pairwise_singleton _ _⟩
  rw [List.mem_singleton] at he
  subst he
  refine ⟨⟨⟨_, .inr rfl, hb⟩, ⟨hrow.1, ?_⟩, hne, fun a k hc => ?_⟩, fun k hk => .inr ?_⟩
  · rcases hrow.2 with h | ⟨g, cp, cur, h1, h2, h3, h4⟩
    · exact .inl h
    · exact .inr ⟨g, cp, cur, (0, 0), h1, Nat.zero_le _, h3, Nat.zero_le _, h4⟩
  · rw [hv] at hc
    injection hc with c1 c2 c3
    omega
  · rcases hk with hk | hk
    · rw [hk]; exact hB
    · rcases hrow.2 with ⟨h, _⟩ | ⟨g, cp, cur, h1, h2, h3, h4⟩
      · rw [h] at hk; cases hk
      · rw [h1] at hk; cases hk; exact h2
end Go.Proofs.YtiklhhdohckfiaaDoor
/- Code in continuation form, by program (gen.py): 14 functions. -/
namespace Go.Proofs.YtiklhhdohckfiaaDoor
set_option linter.unusedVariables false
set_option linter.unusedSimpArgs false
set_option linter.defProp false
set_option linter.unusedVariables false
set_option maxRecDepth 20000
open Eng

/- plain.Int -/
def S_plain_Int (t0 : Value) (w : World) (K : Ending → World → Prop) : Prop :=
 DoX Tryd.prog (mBin .lss 2 t0 (.int .i64 (-2147483647))) w (pk K) fun t5 w =>
 GDo t5 false (fun E => E t0 w) w fun t7 w =>
 GDo t5 false (fun E => DoX Tryd.prog (mBin .gtr 2 t7 (.int .i64 2147483647)) w (pk K) E) w fun t8 w =>
 DoX Tryd.prog (mPick t5 (.bool true) t8) w (pk K) fun t9 w =>
 IfX t9 (K (.returned (.tuple #[(.string ⟨#[]⟩), (.int .i64 2)])) w) (CallX Tryd.prog 56 #[t0, (.int .i64 10)] w (pk K) fun t11 w =>
 K (.returned (.tuple #[t11, (.int .i64 0)])) w)
theorem S_plain_Int_eq (t0 : Value) (w : World) (K : Ending → World → Prop) : wpX Tryd.prog 12 [] [] none (bodyOf Tryd.f46) (topQ Tryd.prog [.tmp 2, .tmp 3] K) (startX [t0]) [] w = S_plain_Int t0 w K := by kernel_rfl
theorem S_plain_Int_ok {t0 : Value} {w : World} {K : Ending → World → Prop} (h : S_plain_Int t0 w K) : Calls Tryd.prog 46 #[t0] w K :=
  calls_of_wpX Tryd.func46 rfl rfl rfl rfl (Eq.mpr (S_plain_Int_eq t0 w K) h)

/- plain.Real -/
def S_plain_Real (t0 : Value) (w : World) (K : Ending → World → Prop) : Prop :=
 DoX Tryd.prog (mBin .lss 2 t0 (.int .i64 (-1073741824))) w (pk K) fun t5 w =>
 GDo t5 false (fun E => E t0 w) w fun t7 w =>
 GDo t5 false (fun E => DoX Tryd.prog (mBin .gtr 2 t7 (.int .i64 1073741824)) w (pk K) E) w fun t8 w =>
 DoX Tryd.prog (mPick t5 (.bool true) t8) w (pk K) fun t9 w =>
 IfX t9 (K (.returned (.tuple #[(.string ⟨#[]⟩), (.int .i64 2)])) w) (CallX Tryd.prog 57 #[t0] w (pk K) fun t11 w =>
 K (.returned (.tuple #[t11, (.int .i64 0)])) w)
theorem S_plain_Real_eq (t0 : Value) (w : World) (K : Ending → World → Prop) : wpX Tryd.prog 12 [] [] none (bodyOf Tryd.f47) (topQ Tryd.prog [.tmp 2, .tmp 3] K) (startX [t0]) [] w = S_plain_Real t0 w K := by kernel_rfl
theorem S_plain_Real_ok {t0 : Value} {w : World} {K : Ending → World → Prop} (h : S_plain_Real t0 w K) : Calls Tryd.prog 47 #[t0] w K :=
  calls_of_wpX Tryd.func47 rfl rfl rfl rfl (Eq.mpr (S_plain_Real_eq t0 w K) h)

/- plain.String -/
def S_plain_String (t0 : Value) (w : World) (K : Ending → World → Prop) : Prop :=
 DoX Tryd.prog (mB .len #[9] 3 #[false] #[t0]) w (pk K) fun t5 w =>
 DoX Tryd.prog (mBin .gtr 3 t5 (.int .i64 32767)) w (pk K) fun t6 w =>
 IfX t6 (K (.returned (.tuple #[(.string ⟨#[]⟩), (.int .i64 5)])) w) (CallX Tryd.prog 50 #[(.string ⟨#[40]⟩), t0, (.string ⟨#[41]⟩), (.func (.func 58) #[] #[])] w (pk K) fun t8 w =>
 K (.returned (.tuple #[t8, (.int .i64 0)])) w)
theorem S_plain_String_eq (t0 : Value) (w : World) (K : Ending → World → Prop) : wpX Tryd.prog 9 [] [] none (bodyOf Tryd.f48) (topQ Tryd.prog [.tmp 2, .tmp 3] K) (startX [t0]) [] w = S_plain_String t0 w K := by kernel_rfl
theorem S_plain_String_ok {t0 : Value} {w : World} {K : Ending → World → Prop} (h : S_plain_String t0 w K) : Calls Tryd.prog 48 #[t0] w K :=
  calls_of_wpX Tryd.func48 rfl rfl rfl rfl (Eq.mpr (S_plain_String_eq t0 w K) h)

/- plain.Hex -/
/- plain.Name -/
def S_plain_Name (t0 : Value) (w : World) (K : Ending → World → Prop) : Prop :=
 DoX Tryd.prog (mB .len #[9] 3 #[false] #[t0]) w (pk K) fun t6 w =>
 DoX Tryd.prog (mBin .gtr 3 t6 (.int .i64 127)) w (pk K) fun t7 w =>
 IfX t7 (K (.returned (.tuple #[(.string ⟨#[]⟩), (.int .i64 5)])) w) (CallX Tryd.prog 49 #[t0, (.int .u8 0)] w (pk K) fun t10 w =>
 DoX Tryd.prog (mBin .geq 3 t10 (.int .i64 0)) w (pk K) fun t11 w =>
 IfX t11 (K (.returned (.tuple #[(.string ⟨#[]⟩), (.int .i64 3)])) w) (CallX Tryd.prog 50 #[(.string ⟨#[47]⟩), t0, (.string ⟨#[]⟩), (.func (.func 51) #[] #[])] w (pk K) fun t13 w =>
 K (.returned (.tuple #[t13, (.int .i64 0)])) w))
theorem S_plain_Name_eq (t0 : Value) (w : World) (K : Ending → World → Prop) : wpX Tryd.prog 14 [] [] none (bodyOf Tryd.f35) (topQ Tryd.prog [.tmp 2, .tmp 3] K) (startX [t0]) [] w = S_plain_Name t0 w K := by kernel_rfl
theorem S_plain_Name_ok {t0 : Value} {w : World} {K : Ending → World → Prop} (h : S_plain_Name t0 w K) : Calls Tryd.prog 35 #[t0] w K :=
  calls_of_wpX Tryd.func35 rfl rfl rfl rfl (Eq.mpr (S_plain_Name_eq t0 w K) h)

/- plain.Join -/
def S_plain_Join_2 (t4 t9 : Value) (w : World) (N1 : List Value → World → Prop) (K : Ending → World → Prop) : Prop :=
 DoX Tryd.prog (mBin .add 3 t9 (.int .i64 1)) w (pk K) fun t34 w =>
 N1 [t4, t34] w
def S_plain_Join_1 (t3 t6 : Value) (w : World) (J2 : List Value → World → Prop) (K : Ending → World → Prop) : Prop :=
 CallX Tryd.prog 24 #[t3, t6] w (pk K) fun t28 w =>
 DoX Tryd.prog (mB .len #[9] 3 #[false] #[t6]) w (pk K) fun t31 w =>
 DoX Tryd.prog (mBin .sub 3 t31 (.int .i64 1)) w (pk K) fun t32 w =>
 DoX Tryd.prog (mIx 9 t6 t32) w (pk K) fun t33 w =>
 J2 [t33] w
def S_plain_Join_0 (t3 t4 t7 t8 t9 : Value) (w : World) (N1 : List Value → World → Prop) (K : Ending → World → Prop) : Prop :=
 DoX Tryd.prog (mBin .lss 3 t9 t8) w (pk K) fun t10 w =>
 IfX t10 (JoinX (fun J2 =>
 DoX Tryd.prog (mIA 22 t7 t9) w (pk K) fun t11 w =>
 DoX Tryd.prog (mLoad 9 t11) w (pk K) fun t12 w =>
 DoX Tryd.prog (mEq .eql 9 (.tmp 13) (.const (.string ⟨#[]⟩)) t12 (.string ⟨#[]⟩)) w (pk K) fun t14 w =>
 IfX t14 (J2 [t4] w) (JoinX (fun J3 =>
 CallX Tryd.prog 30 #[t4] w (pk K) fun t16 w =>
 GDo t16 false (fun E => E t4 w) w fun t18 w =>
 GDo t16 false (fun E => DoX Tryd.prog (mEq .eql 5 (.tmp 18) (.const (.int .u8 47)) t18 (.int .u8 47)) w (pk K) E) w fun t19 w =>
 DoX Tryd.prog (mPick t16 (.bool true) t19) w (pk K) fun t20 w =>
 GDo t20 true (fun E => E t12 w) w fun t22 w =>
 GDo t20 true (fun E => DoX Tryd.prog (mIx 9 t22 (.int .i64 0)) w (pk K) E) w fun t23 w =>
 GDo t20 true (fun E => CallX Tryd.prog 30 #[t23] w (pk K) E) w fun t24 w =>
 DoX Tryd.prog (mPick t20 t24 (.bool false)) w (pk K) fun t25 w =>
 IfX t25 (CallX Tryd.prog 25 #[t3, (.int .u8 32)] w (pk K) fun t26 w =>
 J3 [] w) (J3 [] w)) (fun vs3 w => ∀ _ : Sg, S_plain_Join_1 t3 t12 w J2 K))) (fun vs2 w => ∀ _ : Sg, S_plain_Join_2 (vs2.getD 0 undef) t9 w N1 K)) (CallX Tryd.prog 26 #[t3] w (pk K) fun t35 w =>
 K (.returned t35) w)
def S_plain_Join (t0 : Value) (w : World) (K : Ending → World → Prop) : Prop :=
 DoX Tryd.prog (mAlloc 50) w (pk K) fun t3 w =>
 DoX Tryd.prog (mB .len #[22] 3 #[false] #[t0]) w (pk K) fun t8 w =>
 LoopX [(.int .u8 32), (.int .i64 0)] w (fun vs1 w N1 => ∀ _ : Sg, S_plain_Join_0 t3 (vs1.getD 0 undef) t0 t8 (vs1.getD 1 undef) w N1 K)
theorem S_plain_Join_eq (t0 : Value) (w : World) (K : Ending → World → Prop) : wpX Tryd.prog 36 [(9, []), (11, [4])] [(4, [4, 9])] none (bodyOf Tryd.f19) (topQ Tryd.prog [.tmp 2] K) (startX [t0]) [] w = S_plain_Join t0 w K := by kernel_rfl
theorem S_plain_Join_ok {t0 : Value} {w : World} {K : Ending → World → Prop} (h : S_plain_Join t0 w K) : Calls Tryd.prog 19 #[t0] w K :=
  calls_of_wpX Tryd.func19 rfl rfl rfl rfl (Eq.mpr (S_plain_Join_eq t0 w K) h)

/- plain.Pad -/
/- plain.write -/
def S_plain_write_0 (t1 t2 t3 t9 t23 t24 : Value) (w : World) (N1 : List Value → World → Prop) (K : Ending → World → Prop) : Prop :=
 DoX Tryd.prog (mBin .lss 3 t24 t23) w (pk K) fun t25 w =>
 IfX t25 (DoX Tryd.prog (mIx 9 t1 t24) w (pk K) fun t30 w =>
 DoX Tryd.prog (mCallV t3 #[t9, t30]) w (pk K) fun t31 w =>
 DoX Tryd.prog (mBin .add 3 t24 (.int .i64 1)) w (pk K) fun t32 w =>
 N1 [t32] w) (CallX Tryd.prog 24 #[t9, t2] w (pk K) fun t34 w =>
 CallX Tryd.prog 26 #[t9] w (pk K) fun t35 w =>
 K (.returned t35) w)
def S_plain_write (t0 t1 t2 t3 : Value) (w : World) (K : Ending → World → Prop) : Prop :=
 DoX Tryd.prog (mAlloc 50) w (pk K) fun t9 w =>
 DoX Tryd.prog (mB .len #[9] 3 #[false] #[t0]) w (pk K) fun t12 w =>
 DoX Tryd.prog (mB .len #[9] 3 #[false] #[t1]) w (pk K) fun t14 w =>
 DoX Tryd.prog (mBin .add 3 t12 t14) w (pk K) fun t15 w =>
 DoX Tryd.prog (mB .len #[9] 3 #[false] #[t2]) w (pk K) fun t17 w =>
 DoX Tryd.prog (mBin .add 3 t15 t17) w (pk K) fun t18 w =>
 CallX Tryd.prog 60 #[t9, t18] w (pk K) fun t19 w =>
 CallX Tryd.prog 24 #[t9, t0] w (pk K) fun t21 w =>
 DoX Tryd.prog (mB .len #[9] 3 #[false] #[t1]) w (pk K) fun t23 w =>
 LoopX [(.int .i64 0)] w (fun vs1 w N1 => ∀ _ : Sg, S_plain_write_0 t1 t2 t3 t9 t23 (vs1.getD 0 undef) w N1 K)
theorem S_plain_write_eq (t0 t1 t2 t3 : Value) (w : World) (K : Ending → World → Prop) : wpX Tryd.prog 36 [] [(5, [24])] none (bodyOf Tryd.f50) (topQ Tryd.prog [.tmp 8] K) (startX [t0, t1, t2, t3]) [] w = S_plain_write t0 t1 t2 t3 w K := by kernel_rfl
theorem S_plain_write_ok {t0 t1 t2 t3 : Value} {w : World} {K : Ending → World → Prop} (h : S_plain_write t0 t1 t2 t3 w K) : Calls Tryd.prog 50 #[t0, t1, t2, t3] w K :=
  calls_of_wpX Tryd.func50 rfl rfl rfl rfl (Eq.mpr (S_plain_write_eq t0 t1 t2 t3 w K) h)

/- plain.String$1 -/
def S_plain_String_1_0 (t0 t1 t34 t35 : Value) (w : World) (N1 : List Value → World → Prop) (K : Ending → World → Prop) : Prop :=
 DoX Tryd.prog (mBin .lss 3 t35 (.int .i64 3)) w (pk K) fun t36 w =>
 IfX t36 (DoX Tryd.prog (mIx 85 t34 t35) w (pk K) fun t37 w =>
 DoX Tryd.prog (mBin .quo 5 t1 t37) w (pk K) fun t41 w =>
 DoX Tryd.prog (mBin .rem 5 t41 (.int .u8 8)) w (pk K) fun t42 w =>
 DoX Tryd.prog (mBin .add 5 (.int .u8 48) t42) w (pk K) fun t43 w =>
 CallX Tryd.prog 25 #[t0, t43] w (pk K) fun t44 w =>
 DoX Tryd.prog (mBin .add 3 t35 (.int .i64 1)) w (pk K) fun t45 w =>
 N1 [t45] w) (K (.returned (.tuple #[])) w)
def S_plain_String_1 (t0 t1 : Value) (w : World) (K : Ending → World → Prop) : Prop :=
 DoX Tryd.prog (mEq .eql 5 (.tmp 10) (.const (.int .u8 40)) t1 (.int .u8 40)) w (pk K) fun t11 w =>
 GDo t11 false (fun E => E t1 w) w fun t13 w =>
 GDo t11 false (fun E => DoX Tryd.prog (mEq .eql 5 (.tmp 13) (.const (.int .u8 41)) t13 (.int .u8 41)) w (pk K) E) w fun t14 w =>
 DoX Tryd.prog (mPick t11 (.bool true) t14) w (pk K) fun t15 w =>
 GDo t15 false (fun E => E t1 w) w fun t17 w =>
 GDo t15 false (fun E => DoX Tryd.prog (mEq .eql 5 (.tmp 17) (.const (.int .u8 92)) t17 (.int .u8 92)) w (pk K) E) w fun t18 w =>
 DoX Tryd.prog (mPick t15 (.bool true) t18) w (pk K) fun t19 w =>
 IfX t19 (CallX Tryd.prog 25 #[t0, (.int .u8 92)] w (pk K) fun t21 w =>
 CallX Tryd.prog 25 #[t0, t1] w (pk K) fun t24 w =>
 K (.returned (.tuple #[])) w) (DoX Tryd.prog (mBin .lss 5 t1 (.int .u8 32)) w (pk K) fun t27 w =>
 GDo t27 false (fun E => E t1 w) w fun t29 w =>
 GDo t27 false (fun E => DoX Tryd.prog (mBin .gtr 5 t29 (.int .u8 126)) w (pk K) E) w fun t30 w =>
 DoX Tryd.prog (mPick t27 (.bool true) t30) w (pk K) fun t31 w =>
 IfX t31 (CallX Tryd.prog 25 #[t0, (.int .u8 92)] w (pk K) fun t33 w =>
 DoX Tryd.prog (mBuild 85 #[(0, (.int .u8 64)), (1, (.int .u8 8)), (2, (.int .u8 1))]) w (pk K) fun t34 w =>
 LoopX [(.int .i64 0)] w (fun vs1 w N1 => ∀ _ : Sg, S_plain_String_1_0 t0 t1 t34 (vs1.getD 0 undef) w N1 K)) (CallX Tryd.prog 25 #[t0, t1] w (pk K) fun t8 w =>
 K (.returned (.tuple #[])) w))
theorem S_plain_String_1_eq (t0 t1 : Value) (w : World) (K : Ending → World → Prop) : wpX Tryd.prog 46 [] [(7, [35])] none (bodyOf Tryd.f58) (topQ Tryd.prog [] K) (startX [t0, t1]) [] w = S_plain_String_1 t0 t1 w K := by kernel_rfl
theorem S_plain_String_1_ok {t0 t1 : Value} {w : World} {K : Ending → World → Prop} (h : S_plain_String_1 t0 t1 w K) : Calls Tryd.prog 58 #[t0, t1] w K :=
  calls_of_wpX Tryd.func58 rfl rfl rfl rfl (Eq.mpr (S_plain_String_1_eq t0 t1 w K) h)

/- plain.Name$1 -/
def S_plain_Name_1 (t0 t1 : Value) (w : World) (K : Ending → World → Prop) : Prop :=
 DoX Tryd.prog (mBin .gtr 5 t1 (.int .u8 32)) w (pk K) fun t5 w =>
 GDo t5 true (fun E => E t1 w) w fun t7 w =>
 GDo t5 true (fun E => DoX Tryd.prog (mBin .leq 5 t7 (.int .u8 126)) w (pk K) E) w fun t8 w =>
 DoX Tryd.prog (mPick t5 t8 (.bool false)) w (pk K) fun t9 w =>
 GDo t9 true (fun E => E t1 w) w fun t11 w =>
 GDo t9 true (fun E => DoX Tryd.prog (mEq .neq 5 (.tmp 11) (.const (.int .u8 35)) t11 (.int .u8 35)) w (pk K) E) w fun t12 w =>
 DoX Tryd.prog (mPick t9 t12 (.bool false)) w (pk K) fun t13 w =>
 GDo t13 true (fun E => E t1 w) w fun t15 w =>
 GDo t13 true (fun E => CallX Tryd.prog 45 #[t15] w (pk K) E) w fun t16 w =>
 GDo t13 true (fun E => DoX Tryd.prog (mUn .not t16) w (pk K) E) w fun t17 w =>
 DoX Tryd.prog (mPick t13 t17 (.bool false)) w (pk K) fun t18 w =>
 IfX t18 (CallX Tryd.prog 25 #[t0, t1] w (pk K) fun t21 w =>
 K (.returned (.tuple #[])) w) (DoX Tryd.prog (mBuildS 48 1 #[(0, t1)]) w (pk K) fun t24 w =>
 DoX Tryd.prog (mConv 48 9 t24) w (pk K) fun t25 w =>
 CallX Tryd.prog 52 #[t25] w (pk K) fun t26 w =>
 DoX Tryd.prog (mBin .add 9 (.string ⟨#[35]⟩) t26) w (pk K) fun t27 w =>
 CallX Tryd.prog 24 #[t0, t27] w (pk K) fun t28 w =>
 K (.returned (.tuple #[])) w)
theorem S_plain_Name_1_eq (t0 t1 : Value) (w : World) (K : Ending → World → Prop) : wpX Tryd.prog 29 [] [] none (bodyOf Tryd.f51) (topQ Tryd.prog [] K) (startX [t0, t1]) [] w = S_plain_Name_1 t0 t1 w K := by kernel_rfl
theorem S_plain_Name_1_ok {t0 t1 : Value} {w : World} {K : Ending → World → Prop} (h : S_plain_Name_1 t0 t1 w K) : Calls Tryd.prog 51 #[t0, t1] w K :=
  calls_of_wpX Tryd.func51 rfl rfl rfl rfl (Eq.mpr (S_plain_Name_1_eq t0 t1 w K) h)

/- octet.Hex -/
def S_octet_Hex_0 (t0 t3 t10 t11 : Value) (w : World) (N1 : List Value → World → Prop) (K : Ending → World → Prop) : Prop :=
 DoX Tryd.prog (mBin .lss 3 t11 t10) w (pk K) fun t12 w =>
 IfX t12 (QuietX w (fun C2 =>
 QDo Tryd.prog C2 (mIx 9 t0 t11) fun t17 =>
 QDo Tryd.prog C2 (mBin .shr 5 t17 (.int .u64 4)) fun t18 =>
 QDo Tryd.prog C2 (mIx 9 (.string ⟨#[48, 49, 50, 51, 52, 53, 54, 55, 56, 57, 65, 66, 67, 68, 69, 70]⟩) t18) fun t19 =>
 QDo Tryd.prog C2 (mIx 9 t0 t11) fun t22 =>
 QDo Tryd.prog C2 (mBin .and 5 t22 (.int .u8 15)) fun t23 =>
 QDo Tryd.prog C2 (mIx 9 (.string ⟨#[48, 49, 50, 51, 52, 53, 54, 55, 56, 57, 65, 66, 67, 68, 69, 70]⟩) t23) fun t24 =>
 ∀ w, C2 w →
 DoX Tryd.prog (mBuildS 48 2 #[(0, t19), (1, t24)]) w (pm1 (pm1 (pm1 (pm1 (pm1 (pk K)))))) fun t25 w =>
 DoX Tryd.prog (mB .append #[48, 48] 48 #[false, false] #[t3, t25]) w (pm1 (pm1 (pm1 (pm1 (pm1 (pk K)))))) fun t26 w =>
 DoX Tryd.prog (mBin .add 3 t11 (.int .i64 1)) w (pk K) fun t27 w =>
 N1 [t26, t27] w)) (DoX Tryd.prog (mConv 48 9 t3) w (pk K) fun t29 w =>
 K (.returned t29) w)
def S_octet_Hex (t0 : Value) (w : World) (K : Ending → World → Prop) : Prop :=
 DoX Tryd.prog (mB .len #[9] 3 #[false] #[t0]) w (pk K) fun t6 w =>
 DoX Tryd.prog (mBin .mul 3 (.int .i64 2) t6) w (pk K) fun t7 w =>
 DoX Tryd.prog (mMake 48 (.int .i64 0) t7) w (pk K) fun t8 w =>
 DoX Tryd.prog (mB .len #[9] 3 #[false] #[t0]) w (pk K) fun t10 w =>
 LoopX [t8, (.int .i64 0)] w (fun vs1 w N1 => ∀ _ : Sg, S_octet_Hex_0 t0 (vs1.getD 0 undef) t10 (vs1.getD 1 undef) w N1 K)
theorem S_octet_Hex_eq (t0 : Value) (w : World) (K : Ending → World → Prop) : wpX Tryd.prog 30 [] [(3, [3, 11])] none (bodyOf Tryd.f52) (topQ Tryd.prog [.tmp 2] K) (startX [t0]) [] w = S_octet_Hex t0 w K := by kernel_rfl
theorem S_octet_Hex_ok {t0 : Value} {w : World} {K : Ending → World → Prop} (h : S_octet_Hex t0 w K) : Calls Tryd.prog 52 #[t0] w K :=
  calls_of_wpX Tryd.func52 rfl rfl rfl rfl (Eq.mpr (S_octet_Hex_eq t0 w K) h)

/- octet.Delim -/
def S_octet_Delim (t0 : Value) (w : World) (K : Ending → World → Prop) : Prop :=
 CallX Tryd.prog 49 #[(.string ⟨#[40, 41, 60, 62, 91, 93, 123, 125, 47, 37]⟩), t0] w (pk K) fun t4 w =>
 DoX Tryd.prog (mBin .geq 3 t4 (.int .i64 0)) w (pk K) fun t5 w =>
 K (.returned t5) w
theorem S_octet_Delim_eq (t0 : Value) (w : World) (K : Ending → World → Prop) : wpX Tryd.prog 6 [] [] none (bodyOf Tryd.f45) (topQ Tryd.prog [.tmp 2] K) (startX [t0]) [] w = S_octet_Delim t0 w K := by kernel_rfl
theorem S_octet_Delim_ok {t0 : Value} {w : World} {K : Ending → World → Prop} (h : S_octet_Delim t0 w K) : Calls Tryd.prog 45 #[t0] w K :=
  calls_of_wpX Tryd.func45 rfl rfl rfl rfl (Eq.mpr (S_octet_Delim_eq t0 w K) h)

/- octet.Regular -/
def S_octet_Regular (t0 : Value) (w : World) (K : Ending → World → Prop) : Prop :=
 CallX Tryd.prog 44 #[t0] w (pk K) fun t4 w =>
 DoX Tryd.prog (mUn .not t4) w (pk K) fun t5 w =>
 GDo t5 true (fun E => E t0 w) w fun t7 w =>
 GDo t5 true (fun E => CallX Tryd.prog 45 #[t7] w (pk K) E) w fun t8 w =>
 GDo t5 true (fun E => DoX Tryd.prog (mUn .not t8) w (pk K) E) w fun t9 w =>
 DoX Tryd.prog (mPick t5 t9 (.bool false)) w (pk K) fun t10 w =>
 K (.returned t10) w
theorem S_octet_Regular_eq (t0 : Value) (w : World) (K : Ending → World → Prop) : wpX Tryd.prog 11 [] [] none (bodyOf Tryd.f30) (topQ Tryd.prog [.tmp 2] K) (startX [t0]) [] w = S_octet_Regular t0 w K := by kernel_rfl
theorem S_octet_Regular_ok {t0 : Value} {w : World} {K : Ending → World → Prop} (h : S_octet_Regular t0 w K) : Calls Tryd.prog 30 #[t0] w K :=
  calls_of_wpX Tryd.func30 rfl rfl rfl rfl (Eq.mpr (S_octet_Regular_eq t0 w K) h)

/- octet.White -/
def S_octet_White (t0 : Value) (w : World) (K : Ending → World → Prop) : Prop :=
 CallX Tryd.prog 49 #[(.string ⟨#[0, 9, 10, 12, 13, 32]⟩), t0] w (pk K) fun t4 w =>
 DoX Tryd.prog (mBin .geq 3 t4 (.int .i64 0)) w (pk K) fun t5 w =>
 K (.returned t5) w
theorem S_octet_White_eq (t0 : Value) (w : World) (K : Ending → World → Prop) : wpX Tryd.prog 6 [] [] none (bodyOf Tryd.f44) (topQ Tryd.prog [.tmp 2] K) (startX [t0]) [] w = S_octet_White t0 w K := by kernel_rfl
theorem S_octet_White_ok {t0 : Value} {w : World} {K : Ending → World → Prop} (h : S_octet_White t0 w K) : Calls Tryd.prog 44 #[t0] w K :=
  calls_of_wpX Tryd.func44 rfl rfl rfl rfl (Eq.mpr (S_octet_White_eq t0 w K) h)

end Go.Proofs.YtiklhhdohckfiaaDoor
/- Code in continuation form, by program (gen.py): 16 functions. -/
namespace Go.Proofs.YtiklhhdohckfiaaDoor
set_option linter.unusedVariables false
set_option linter.unusedSimpArgs false
set_option linter.defProp false
set_option linter.unusedVariables false
set_option maxRecDepth 20000
open Eng

/- fix.face -/
/- fix.within -/
def S_fix_within (t0 : Value) (w : World) (K : Ending → World → Prop) : Prop :=
 DoX Tryd.prog (mBin .geq 2 t0 (.int .i64 (-1073741824))) w (pk K) fun t4 w =>
 GDo t4 true (fun E => E t0 w) w fun t6 w =>
 GDo t4 true (fun E => DoX Tryd.prog (mBin .leq 2 t6 (.int .i64 1073741824)) w (pk K) E) w fun t7 w =>
 DoX Tryd.prog (mPick t4 t7 (.bool false)) w (pk K) fun t8 w =>
 K (.returned t8) w
theorem S_fix_within_eq (t0 : Value) (w : World) (K : Ending → World → Prop) : wpX Tryd.prog 9 [] [] none (bodyOf Tryd.f62) (topQ Tryd.prog [.tmp 2] K) (startX [t0]) [] w = S_fix_within t0 w K := by kernel_rfl
theorem S_fix_within_ok {t0 : Value} {w : World} {K : Ending → World → Prop} (h : S_fix_within t0 w K) : Calls Tryd.prog 62 #[t0] w K :=
  calls_of_wpX Tryd.func62 rfl rfl rfl rfl (Eq.mpr (S_fix_within_eq t0 w K) h)

/- fix.bounded -/
/- fix.answer -/
/- fix.nearest -/
/- fix.Near -/
/- fix.Whole -/
/- fix.Mul -/
/- fix.Div -/
/- fix.Dot -/
/- fix.Sum -/
/- fix.Root -/
/- fix.row -/
def S_fix_row_0 (t0 t1 t5 : Value) (w : World) (N1 : List Value → World → Prop) (K : Ending → World → Prop) : Prop :=
 DoX Tryd.prog (mBin .gtr 2 t0 (.int .i64 0)) w (pk K) fun t7 w =>
 GDo t7 false (fun E => E t5 w) w fun t9 w =>
 GDo t7 false (fun E => DoX Tryd.prog (mB .len #[9] 3 #[false] #[t9]) w (pk K) E) w fun t10 w =>
 GDo t7 false (fun E => E t1 w) w fun t11 w =>
 GDo t7 false (fun E => DoX Tryd.prog (mBin .lss 3 t10 t11) w (pk K) E) w fun t12 w =>
 DoX Tryd.prog (mPick t7 (.bool true) t12) w (pk K) fun t13 w =>
 IfX t13 (DoX Tryd.prog (mBin .rem 2 t0 (.int .i64 10)) w (pk K) fun t15 w =>
 DoX Tryd.prog (mBin .add 2 (.int .i64 48) t15) w (pk K) fun t16 w =>
 DoX Tryd.prog (mConv 2 5 t16) w (pk K) fun t17 w =>
 DoX Tryd.prog (mBuildS 48 1 #[(0, t17)]) w (pk K) fun t18 w =>
 DoX Tryd.prog (mConv 48 9 t18) w (pk K) fun t19 w =>
 DoX Tryd.prog (mBin .add 9 t19 t5) w (pk K) fun t21 w =>
 DoX Tryd.prog (mBin .quo 2 t0 (.int .i64 10)) w (pk K) fun t23 w =>
 N1 [t23, t21] w) (K (.returned t5) w)
def S_fix_row (t0 t1 : Value) (w : World) (K : Ending → World → Prop) : Prop :=
 LoopX [t0, (.string ⟨#[]⟩)] w (fun vs1 w N1 => ∀ _ : Sg, S_fix_row_0 (vs1.getD 0 undef) t1 (vs1.getD 1 undef) w N1 K)
theorem S_fix_row_eq (t0 t1 : Value) (w : World) (K : Ending → World → Prop) : wpX Tryd.prog 25 [] [(2, [0, 5])] none (bodyOf Tryd.f63) (topQ Tryd.prog [.tmp 4] K) (startX [t0, t1]) [] w = S_fix_row t0 t1 w K := by kernel_rfl
theorem S_fix_row_ok {t0 t1 : Value} {w : World} {K : Ending → World → Prop} (h : S_fix_row t0 t1 w K) : Calls Tryd.prog 63 #[t0, t1] w K :=
  calls_of_wpX Tryd.func63 rfl rfl rfl rfl (Eq.mpr (S_fix_row_eq t0 t1 w K) h)

/- fix.Text -/
def S_fix_Text_1 (t3 t4 t5 : Value) (w : World) (K : Ending → World → Prop) : Prop :=
 DoX Tryd.prog (mBin .add 9 t3 t4) w (pk K) fun t24 w =>
 DoX Tryd.prog (mBin .add 9 t24 (.string ⟨#[46]⟩)) w (pk K) fun t25 w =>
 DoX Tryd.prog (mBin .add 9 t25 t5) w (pk K) fun t27 w =>
 K (.returned t27) w
def S_fix_Text_0 (t0 t3 : Value) (w : World) (K : Ending → World → Prop) : Prop :=
 DoX Tryd.prog (mBin .quo 2 t0 (.int .i64 10000)) w (pk K) fun t14 w =>
 CallX Tryd.prog 63 #[t14, (.int .i64 1)] w (pk K) fun t15 w =>
 DoX Tryd.prog (mBin .rem 2 t0 (.int .i64 10000)) w (pk K) fun t17 w =>
 CallX Tryd.prog 63 #[t17, (.int .i64 4)] w (pk K) fun t18 w =>
 CallX Tryd.prog 64 #[t18, (.string ⟨#[48]⟩)] w (pk K) fun t19 w =>
 JoinX (fun J2 =>
 DoX Tryd.prog (mEq .eql 9 (.tmp 20) (.const (.string ⟨#[]⟩)) t19 (.string ⟨#[]⟩)) w (pk K) fun t21 w =>
 IfX t21 (J2 [(.string ⟨#[48]⟩)] w) (J2 [t19] w)) (fun vs2 w => ∀ _ : Sg, S_fix_Text_1 t3 t15 (vs2.getD 0 undef) w K)
def S_fix_Text (t0 : Value) (w : World) (K : Ending → World → Prop) : Prop :=
 CallX Tryd.prog 62 #[t0] w (pk K) fun t7 w =>
 DoX Tryd.prog (mUn .not t7) w (pk K) fun t8 w =>
 IfX t8 (K (.returned (.string ⟨#[]⟩)) w) (JoinX (fun J1 =>
 DoX Tryd.prog (mBin .lss 2 t0 (.int .i64 0)) w (pk K) fun t10 w =>
 IfX t10 (DoX Tryd.prog (mUn .neg t0) w (pk K) fun t12 w =>
 J1 [t12, (.string ⟨#[45]⟩)] w) (J1 [t0, (.string ⟨#[]⟩)] w)) (fun vs1 w => ∀ _ : Sg, S_fix_Text_0 (vs1.getD 0 undef) (vs1.getD 1 undef) w K))
theorem S_fix_Text_eq (t0 : Value) (w : World) (K : Ending → World → Prop) : wpX Tryd.prog 28 [(6, [0, 3]), (10, [5])] [] none (bodyOf Tryd.f57) (topQ Tryd.prog [.tmp 2] K) (startX [t0]) [] w = S_fix_Text t0 w K := by kernel_rfl
theorem S_fix_Text_ok {t0 : Value} {w : World} {K : Ending → World → Prop} (h : S_fix_Text t0 w K) : Calls Tryd.prog 57 #[t0] w K :=
  calls_of_wpX Tryd.func57 rfl rfl rfl rfl (Eq.mpr (S_fix_Text_eq t0 w K) h)

/- fix.digits -/
/- fix.Read -/
end Go.Proofs.YtiklhhdohckfiaaDoor
/- Code in continuation form, by program (gen.py): 14 functions. -/
namespace Go.Proofs.YtiklhhdohckfiaaDoor
set_option linter.unusedVariables false
set_option linter.unusedSimpArgs false
set_option linter.defProp false
set_option linter.unusedVariables false
set_option maxRecDepth 20000
open Eng

/- foliantref02.Within -/
/- foliantref02.told -/
/- foliantref02.nearest -/
/- foliantref02.Near -/
/- foliantref02.Whole -/
/- foliantref02.Mul -/
/- foliantref02.Div -/
/- foliantref02.Dot -/
/- foliantref02.Sum -/
/- foliantref02.Root -/
/- foliantref02.digits -/
/- foliantref02.Text -/
/- foliantref02.form -/
/- foliantref02.Read -/
end Go.Proofs.YtiklhhdohckfiaaDoor
/- Contracts of the program's package fix. -/
namespace Go.Proofs.YtiklhhdohckfiaaDoor
set_option linter.unusedVariables false
set_option linter.unusedSimpArgs false
set_option linter.defProp false
open Eng Go.RowKit
set_option linter.unusedVariables false
set_option linter.unusedSimpArgs false

theorem within_ret (n : Int) (w : World) : Ret Tryd.prog 62 #[.int .i64 n] w (fun v w' => v = .bool (Fx.okB n) ∧ w = w') := by
  refine ret_of fun K hK => S_fix_within_ok ?_
  unfold S_fix_within
  by_cases h : -1073741824 ≤ n <;> simp only [rs, h, decide_true, decide_false] <;> exact hK _ _ ⟨by simp [Fx.okB, h], rfl⟩
end Go.Proofs.YtiklhhdohckfiaaDoor
/- Contracts: numbers as text. -/
namespace Go.Proofs.YtiklhhdohckfiaaDoor
set_option linter.unusedVariables false
set_option linter.unusedSimpArgs false
set_option linter.defProp false
open Eng Go.RowKit
set_option linter.unusedVariables false
set_option linter.unusedSimpArgs false

def slen1 (vs : List Value) : Nat := match vs.getD 1 undef with | .string s => s.size | _ => 0
theorem slen1_mk {a : Value} {l : List UInt8} {t : List Value} : slen1 (a :: .string ⟨l.toArray⟩ :: t) = l.length := by simp [slen1, str_size]

theorem row_ret (n least : Nat) (w : World) (hn : n < 4611686018427387904) (hl : least ≤ 4) : Ret Tryd.prog 63 #[.int .i64 n, .int .i64 least] w (fun v w' => v = .string ⟨(Fx.row n least).toArray⟩ ∧ Below w.heap.size w w') := by
  refine ret_of fun K hK => S_fix_row_ok ?_
  unfold S_fix_row
  refine loop (fun vs w' => ∃ (f n' : Nat) (s : List UInt8), vs = [.int .i64 n', .string ⟨s.toArray⟩] ∧ Fx.rowF f n' least s = Fx.row n least ∧ n' < 10 ^ f ∧ n' < 4611686018427387904 ∧ least ≤ s.length + f ∧ s.length + f = 64 ∧ Own w w' [])
    (fun vs _ => 64 - slen1 vs) ⟨64, n, [], rfl, rfl, by omega, hn, by simp; omega, by simp, Own.start w⟩ ?_
  rintro vs w' ⟨f, n', s, rfl, hr, hn', hn2, hl', hs, ho⟩ _
  simp only [S_fix_row_0, gd, rs]
  have step : 0 < n' ∨ s.length < least → DoX Tryd.prog (mBin .rem 2 (.int .i64 n') (.int .i64 10)) w' (pk K) fun t15 ww =>
      DoX Tryd.prog (mBin .add 2 (.int .i64 48) t15) ww (pk K) fun t16 ww =>
      DoX Tryd.prog (mConv 2 5 t16) ww (pk K) fun t17 ww =>
      DoX Tryd.prog (mBuildS 48 1 #[(0, t17)]) ww (pk K) fun t18 ww =>
      DoX Tryd.prog (mConv 48 9 t18) ww (pk K) fun t19 ww =>
      DoX Tryd.prog (mBin .add 9 t19 (.string ⟨s.toArray⟩)) ww (pk K) fun t21 ww =>
      DoX Tryd.prog (mBin .quo 2 (.int .i64 n') (.int .i64 10)) ww (pk K) fun t23 ww =>
      (NextX (fun vs w' => ∃ (f n' : Nat) (s : List UInt8), vs = [.int .i64 n', .string ⟨s.toArray⟩] ∧ Fx.rowF f n' least s = Fx.row n least ∧ n' < 10 ^ f ∧ n' < 4611686018427387904 ∧ least ≤ s.length + f ∧ s.length + f = 64 ∧ Own w w' [])
    (fun vs _ => 64 - slen1 vs) [.int .i64 n', .string ⟨s.toArray⟩] w') [t23, t21] ww := by
    intro hstep
    cases f with
    | zero => simp only [Nat.pow_zero] at hn'; omega
    | succ f =>
      rw [Fx.rowF, if_pos hstep] at hr
      have e1 : (n' : Int).tmod 10 = ((n' % 10 : Nat) : Int) := by rw [Int.tmod_eq_emod_of_nonneg (by omega)]; omega
      have e2 : (n' : Int).tdiv 10 = ((n' / 10 : Nat) : Int) := by rw [Int.tdiv_eq_ediv_of_nonneg (by omega)]; omega
      have e3 : ((48 : Int) + ((n' % 10 : Nat) : Int)) = (((Fx.dg (n' % 10)).toNat : Nat) : Int) := by rw [Fx.dg_toNat (by omega)]; omega
      have e4 := Fx.dg_toNat (k := n' % 10) (by omega)
      simp only [b_rem (show (10 : Int) ≠ 0 by omega), b_quo (show (10 : Int) ≠ 0 by omega), rs, e1, e2, e3]
      rw [wrap64_id (by omega) (by omega), c_int (show (Tryd.prog.underlying 2).isSome = true by kernel_rfl) Tryd.underlying5, wrap8_id (by omega) (by omega)]
      refine o_new (fun b => .slice (some ⟨b, 0, none⟩) 1 1) [.int .u8 (Fx.dg (n' % 10)).toNat] 5 (fun _ => by kernel_rfl) ho fun b w4 h4 => ?_
      rw [c_bytes (l := [Fx.dg (n' % 10)]) Tryd.underlying48 Tryd.underlying5 Tryd.underlying9 (h4.sl 0 rfl 1 1 1 rfl), s_add (by simp; omega), wrap64_id (by omega) (by omega)]
      refine nextX ⟨f, n' / 10, Fx.dg (n' % 10) :: s, rfl, hr, by rw [Nat.pow_succ] at hn'; omega, by omega, by simp; omega, by simp; omega, h4.tail⟩ (by rw [slen1_mk, slen1_mk]; simp; omega)
  by_cases h0 : (0 : Int) < (n' : Int)
  · simp only [rs, h0, decide_true]
    exact step (.inl (by omega))
  · simp only [rs, h0, decide_false, s_len Tryd.underlying9]
    by_cases h1 : (s.length : Int) < (least : Int)
    · simp only [rs, h1, decide_true]
      exact step (.inr (by omega))
    · simp only [rs, h1, decide_false]
      refine hK _ _ ⟨?_, ho.done⟩
      cases f with
      | zero => rw [← hr]; rfl
      | succ f => rw [Fx.rowF, if_neg (by omega)] at hr; rw [hr]
end Go.Proofs.YtiklhhdohckfiaaDoor
/- Contracts of the program's package fix: the functions that recover. -/
namespace Go.Proofs.YtiklhhdohckfiaaDoor
set_option linter.unusedVariables false
set_option linter.unusedSimpArgs false
set_option linter.defProp false
open Eng Go.RowKit
set_option linter.unusedVariables false
set_option linter.unusedSimpArgs false

theorem okB_bd {n : Int} (h : Fx.okB n = true) : -1073741824 ≤ n ∧ n ≤ 1073741824 := by simpa [Fx.okB] using h
end Go.Proofs.YtiklhhdohckfiaaDoor
/- Code in continuation form, by program (gen.py): 13 functions. -/
namespace Go.Proofs.YtiklhhdohckfiaaDoor
set_option linter.unusedVariables false
set_option linter.unusedSimpArgs false
set_option linter.defProp false
set_option linter.unusedVariables false
set_option maxRecDepth 20000
open Eng

/- strings.HasPrefix -/
/- internal/stringslite.HasPrefix -/
/- strings.Cut -/
/- internal/stringslite.Cut -/
/- internal/stringslite.IndexByte -/
/- internal/stringslite.Index -/
/- strings.TrimRight -/
/- strings.trimRightByte -/
/- strings.Trim -/
/- strings.makeASCIISet -/
/- strings.trimRightASCII -/
/- strings.trimLeftASCII -/
/- (*strings.asciiSet).contains -/
end Go.Proofs.YtiklhhdohckfiaaDoor
/- Contracts: strings.Cut at a separator of one byte; strings.HasPrefix, TrimRight, Trim in lists' words. -/
namespace Go.Proofs.YtiklhhdohckfiaaDoor
set_option linter.unusedVariables false
set_option linter.unusedSimpArgs false
set_option linter.defProp false
open Eng Go.RowKit

theorem ix_cases (c : UInt8) : ∀ l : List UInt8, (Lib.indexByte l c = -1 ∧ l.takeWhile (fun x => x != c) = l ∧ l.dropWhile (fun x => x != c) = []) ∨
    ∃ i : Nat, Lib.indexByte l c = i ∧ i < l.length ∧ l.takeWhile (fun x => x != c) = l.take i ∧ l.dropWhile (fun x => x != c) = l.drop i
  | [] => .inl ⟨rfl, rfl, rfl⟩
  | b :: l => by
    by_cases h : b = c
    · subst h
      exact .inr ⟨0, by simp [Lib.indexByte], by simp, by simp, by simp⟩
    · have hb : (b == c) = false := by simpa using h
      have hb2 : (b != c) = true := by simpa using h
      rcases ix_cases c l with ⟨h1, h2, h3⟩ | ⟨i, h1, h2, h3, h4⟩
      · exact .inl ⟨by simp [Lib.indexByte, hb, h1], by simp [hb2, h2], by simp [hb2, h3]⟩
      · refine .inr ⟨i + 1, ?_, by simp; omega, by simp [hb2, h3], by simp [hb2, h4]⟩
        have e : ((i : Int) == -1) = false := by simp
        simp only [Lib.indexByte, hb, h1, e, Bool.false_eq_true, if_false]
        omega

theorem trimRight_ret (s : List UInt8) (c : UInt8) (hc : c.toNat < 128) (w : World) (hs : s.length ≤ 9223372036854775807) : Ret Tryd.prog 64 #[.string ⟨s.toArray⟩, .string ⟨#[c]⟩] w
    (fun v w' => v = .string ⟨(Lib.trimRightB s c).toArray⟩ ∧ w = w') :=
  Calls.mono (Tryd.strings_TrimRight_one ⟨s.toArray⟩ c hc w (by rw [str_size]; exact hs)) (by rintro e w' ⟨rfl, rfl⟩; exact retK ⟨rfl, rfl⟩)
end Go.Proofs.YtiklhhdohckfiaaDoor
/- Contracts: Text (program and reference), digits, the reference's form. -/
namespace Go.Proofs.YtiklhhdohckfiaaDoor
set_option linter.unusedVariables false
set_option linter.unusedSimpArgs false
set_option linter.defProp false
open Eng Go.RowKit
set_option linter.unusedVariables false
set_option linter.unusedSimpArgs false

theorem natAbs_mod {n : Int} (h : 0 ≤ n) : n.tmod 10000 = ((n.natAbs % 10000 : Nat) : Int) := by rw [Int.tmod_eq_emod_of_nonneg h]; omega
theorem natAbs_div {n : Int} (h : 0 ≤ n) : n.tdiv 10000 = ((n.natAbs / 10000 : Nat) : Int) := by rw [Int.tdiv_eq_ediv_of_nonneg h]; omega

theorem ptext_ret (n : Int) (w : World) : Ret Tryd.prog 57 #[.int .i64 n] w (fun v w' => v = .string ⟨(Fx.text n).toArray⟩ ∧ Below w.heap.size w w') := by
  refine ret_of fun K hK => S_fix_Text_ok ?_
  unfold S_fix_Text
  refine c_ret (within_ret n w) ?_
  rintro v w1 ⟨rfl, rfl⟩
  by_cases ho : Fx.okB n = true
  · have hb := okB_bd ho
    simp only [ho, rs]
    have main : ∀ (m : Int) (sg : List UInt8), 0 ≤ m → m.natAbs = n.natAbs → sg = (if n < 0 then [45] else []) → S_fix_Text_0 (.int .i64 m) (.string ⟨sg.toArray⟩) w K := by
      intro m sg h0 hm hsg
      have hm2 : m ≤ 1073741824 := by omega
      unfold S_fix_Text_0
      simp only [b_quo (show (10000 : Int) ≠ 0 by omega), b_rem (show (10000 : Int) ≠ 0 by omega), natAbs_div h0, natAbs_mod h0]
      rw [wrap64_id (by omega) (by omega)]
      refine c_ret (row_ret (m.natAbs / 10000) 1 w (by omega) (by omega)) ?_
      rintro v w2 ⟨rfl, b2⟩
      refine c_ret (row_ret (m.natAbs % 10000) 4 w2 (by omega) (by omega)) ?_
      rintro v w3 ⟨rfl, b3⟩
      refine c_ret (trimRight_ret (Fx.row (m.natAbs % 10000) 4) 48 (by decide) w3 (by have := Fx.row_len (m.natAbs % 10000) 4; omega)) ?_
      rintro v w4 ⟨rfl, rfl⟩
      have hlen := Fx.row_len (m.natAbs / 10000) 1
      have hfl := Fx.fpart_len n.natAbs
      have hsl : sg.length ≤ 1 := by rw [hsg]; split <;> simp
      refine join fun J hJ => ?_
      have fin : J [.string ⟨(Fx.fpart n.natAbs).toArray⟩] w3 := by
        refine hJ _ _ fun _ => ?_
        simp only [S_fix_Text_1, gd]
        rw [s_add (by omega), s_add (b := [46]) (by simp; omega), s_add (by simp; omega)]
        refine hK _ _ ⟨?_, b2.trans (b3.mono b2.size)⟩
        rw [Fx.text, if_pos ho, hsg, hm]
      change DoX _ (mEq .eql _ _ _ (.string ⟨(Fx.tr (Fx.row (m.natAbs % 10000) 4)).toArray⟩) (.string ⟨([] : List UInt8).toArray⟩)) _ _ _
      by_cases ht : Fx.tr (Fx.row (n.natAbs % 10000) 4) = []
      · simp only [e_str, hm, ht, decide_true, rs]
        rw [Fx.fpart, if_pos ht] at fin
        exact fin
      · simp only [e_str, hm, ht, decide_false, rs]
        rw [Fx.fpart, if_neg ht] at fin
        exact fin
    refine join fun J hJ => ?_
    by_cases hn : n < 0
    · simp only [rs, hn, decide_true]
      rw [wrap64_id (by omega) (by omega)]
      exact hJ _ _ fun _ => main (-n) [45] (by omega) (by omega) (by rw [if_pos hn])
    · simp only [rs, hn, decide_false]
      exact hJ _ _ fun _ => main n [] (by omega) rfl (by rw [if_neg hn])
  · have ho' : Fx.okB n = false := by simpa using ho
    simp only [ho', rs]
    exact hK _ _ ⟨by rw [Fx.text, if_neg ho], Below.refl _ _⟩

end Go.Proofs.YtiklhhdohckfiaaDoor
/- Contracts: octet (White, Delim, Regular, Hex) and plain (Int, Real, Hex, Pad) of the program. -/
namespace Go.Proofs.YtiklhhdohckfiaaDoor
set_option linter.unusedVariables false
set_option linter.unusedSimpArgs false
set_option linter.defProp false
open Eng Go.RowKit

/-- strconv's table of powers of ten is as it was laid. -/
abbrev Tb (w : World) : Prop := Lib.TabIs Tryd.prog w "internal/strconv.uint64pow10" .u64 Lib.pow10Tab

theorem indexByte_ret (l : List UInt8) (c : UInt8) (w : World) : Ret Tryd.prog 49 #[.string ⟨l.toArray⟩, .int .u8 c.toNat] w (fun v w' => v = .int .i64 (Lib.indexByte l c) ∧ w = w') := by
  refine Calls.mono (Tryd.strings_IndexByte ⟨l.toArray⟩ c.toNat w) ?_
  rintro e w' ⟨rfl, rfl⟩
  refine retK ⟨?_, rfl⟩
  simp
theorem white_ret (c : UInt8) (w : World) : Ret Tryd.prog 44 #[.int .u8 c.toNat] w (fun v w' => v = .bool (Oc.white c) ∧ w = w') := by
  refine ret_of fun K hK => S_octet_White_ok ?_
  unfold S_octet_White
  refine c_eq (indexByte_ret Oc.whites c w) ?_
  simp only [rs, Oc.indexByte_nonneg]
  exact hK _ _ ⟨rfl, rfl⟩
theorem delim_ret (c : UInt8) (w : World) : Ret Tryd.prog 45 #[.int .u8 c.toNat] w (fun v w' => v = .bool (Oc.delim c) ∧ w = w') := by
  refine ret_of fun K hK => S_octet_Delim_ok ?_
  unfold S_octet_Delim
  refine c_eq (indexByte_ret Oc.delims c w) ?_
  simp only [rs, Oc.indexByte_nonneg]
  exact hK _ _ ⟨rfl, rfl⟩
theorem regular_ret (c : UInt8) (w : World) : Ret Tryd.prog 30 #[.int .u8 c.toNat] w (fun v w' => v = .bool (Oc.regular c) ∧ w = w') := by
  refine ret_of fun K hK => S_octet_Regular_ok ?_
  unfold S_octet_Regular
  refine c_eq (white_ret c w) ?_
  cases hw : Oc.white c with
  | true => simp only [rs]; exact hK _ _ ⟨by simp [Oc.regular, hw], rfl⟩
  | false =>
    simp only [rs]
    refine c_eq (delim_ret c w) ?_
    simp only [rs]
    exact hK _ _ ⟨by simp [Oc.regular, hw], rfl⟩
theorem shr4 (c : UInt8) : (c.toNat : Int).fdiv (2 ^ (min (4 : Int).toNat IntKind.u8.bits)) = ((c.toNat / 16 : Nat) : Int) := by
  rw [Int.fdiv_eq_ediv_of_nonneg _ (by decide)]
  show ((c.toNat : Int) / 16) = _
  omega
theorem and15_fin : ∀ n : Fin 256, bAnd .u8 (n.val : Int) 15 = ((n.val % 16 : Nat) : Int) := by decide +kernel
theorem and15 (c : UInt8) : bAnd .u8 (c.toNat : Int) 15 = ((c.toNat % 16 : Nat) : Int) := and15_fin ⟨c.toNat, c.toNat_lt⟩
theorem hexD_get (k : IntKind) {n : Nat} (h : n < 16) (w : World) : (mIx 9 (.string ⟨#[48, 49, 50, 51, 52, 53, 54, 55, 56, 57, 65, 66, 67, 68, 69, 70]⟩) (.int k (n : Int))).run Tryd.prog w = .ok (.value (.int .u8 (Oc.hexD n).toNat)) w :=
  run_s_ix (a := Oc.hexs) (c := Oc.hexD n) Tryd.underlying9 (by omega) (by rw [Int.toNat_natCast]; exact Oc.hexs_get h)
theorem hex_ret (l : List UInt8) (w : World) (hl : l.length ≤ 1000000) : Ret Tryd.prog 52 #[.string ⟨l.toArray⟩] w (fun v w' => v = .string ⟨(Oc.hex l).toArray⟩ ∧ Below w.heap.size w w') := by
  refine ret_of fun K hK => S_octet_Hex_ok ?_
  unfold S_octet_Hex
  rw [s_len Tryd.underlying9]
  simp only [rs]
  rw [wrap64_id (by omega) (by omega)]
  refine o_make (c := 2 * l.length) (by omega) Tryd.underlying48 (show elB Tryd.prog 5 1 1 = true by kernel_rfl) (by omega) (by omega) (Own.start w) fun v w1 h1 => ?_
  rw [s_len Tryd.underlying9]
  refine loop (fun vs w' => ∃ (i : Nat) (v : Value), vs = [v, .int .i64 i] ∧ i ≤ l.length ∧ Own w w' [.row 5 1 v (2 * i) (bytesV (Oc.hex (l.take i)))])
    (fun vs _ => l.length - n1 vs) ⟨0, v, rfl, by omega, by simpa [Oc.hex, bytesV] using h1⟩ ?_
  rintro vs w2 ⟨i, v, rfl, hi, ho⟩ _
  simp only [S_octet_Hex_0, gd, rs]
  by_cases hlt : (i : Int) < (l.length : Int)
  · have hi2 : i < l.length := by omega
    have hc : l[(i : Int).toNat]? = some l[i] := by simp [hi2]
    have hd1 : l[i].toNat / 16 < 16 := by have := l[i].toNat_lt; omega
    have hd2 : l[i].toNat % 16 < 16 := by omega
    simp only [hlt, decide_true, rs]
    refine quiet (q_do _ (fun w => run_s_ix Tryd.underlying9 (by omega) hc) (q_do _ (fun w => by rw [r_shr (by omega), shr4]) (q_do _ (fun w => hexD_get _ hd1 w)
      (q_do _ (fun w => run_s_ix Tryd.underlying9 (by omega) hc) (q_do _ (fun w => by rw [r_and, and15]) (q_do _ (fun w => hexD_get _ hd2 w) ?_))))))
    intro w3 hb3
    refine o_new (fun b => .slice (some ⟨b, 0, none⟩) 2 2) (bytesV (Oc.hex1 l[i])) 5 (fun _ => by kernel_rfl) (ho.grow hb3) fun nb w4 h4 => ?_
    refine o_append 1 Tryd.underlying48 (show elB Tryd.prog 5 1 1 = true by kernel_rfl) (by decide) h4 rfl (h4.sl 0 rfl 1 2 2 rfl) (bytesV_one _) (by omega) (by omega) fun v' w5 h5 => ?_
    rw [wrap64_id (by omega) (by omega)]
    refine nextX ⟨i + 1, v', rfl, by omega, ?_⟩ (by simp [n1, intOf]; omega)
    have e : bytesV (Oc.hex (l.take (i + 1))) = bytesV (Oc.hex (l.take i)) ++ bytesV (Oc.hex1 l[i]) := by
      rw [List.take_succ_eq_append_getElem hi2, Oc.hex_snoc, bytesV_append]
    rw [e]
    exact h5.tail
  · have hi2 : i = l.length := by omega
    subst hi2
    simp only [hlt, decide_false, rs]
    have hs := ho.slRow 0 rfl
    rw [c_bytes (l := Oc.hex l) Tryd.underlying48 Tryd.underlying5 Tryd.underlying9 (by rw [Oc.hex_length]; simpa using hs)]
    exact hK _ _ ⟨rfl, ho.done⟩
theorem below_gr (w : World) (k : Nat) (os : Array Obj) : Below w.heap.size w (Go.Sort.grow (w.drewN k) os) :=
  ⟨rfl, rfl, rfl, by simp [Go.Sort.grow], fun i hi => by simp [Go.Sort.grow, Array.getElem?_append, hi]⟩
theorem pint_ret (n : Int) (w : World) (ht : Tb w) : Ret Tryd.prog 46 #[.int .i64 n] w (fun v w' => v = .tuple #[.string ⟨(Pl.pInt n).1.toArray⟩, .int .i64 (Pl.pInt n).2] ∧ Below w.heap.size w w') := by
  refine ret_of fun K hK => S_plain_Int_ok ?_
  unfold S_plain_Int
  by_cases h1 : n < -2147483647
  · simp only [rs, h1, decide_true]
    exact hK _ _ ⟨by rw [Pl.pInt, if_neg (by omega)], Below.refl _ _⟩
  · simp only [rs, h1, decide_false]
    by_cases h2 : 2147483647 < n
    · simp only [rs, h2, decide_true]
      exact hK _ _ ⟨by rw [Pl.pInt, if_neg (by omega)], Below.refl _ _⟩
    · simp only [rs, h2, decide_false]
      refine c_any (Tryd.strconv_FormatInt_10 n (by omega) (by omega) w ht) ?_
      rintro e w' ⟨rfl, k, os, rfl⟩
      exact hK _ _ ⟨by rw [Pl.pInt, if_pos (by omega)], below_gr _ _ _⟩
theorem preal_ret (n : Int) (w : World) : Ret Tryd.prog 47 #[.int .i64 n] w (fun v w' => v = .tuple #[.string ⟨(Pl.pReal n).1.toArray⟩, .int .i64 (Pl.pReal n).2] ∧ Below w.heap.size w w') := by
  refine ret_of fun K hK => S_plain_Real_ok ?_
  unfold S_plain_Real
  by_cases h1 : n < -1073741824
  · simp only [rs, h1, decide_true]
    exact hK _ _ ⟨by rw [Pl.pReal, if_neg (by simp [Fx.okB]; omega)], Below.refl _ _⟩
  · simp only [rs, h1, decide_false]
    by_cases h2 : 1073741824 < n
    · simp only [rs, h2, decide_true]
      exact hK _ _ ⟨by rw [Pl.pReal, if_neg (by simp [Fx.okB]; omega)], Below.refl _ _⟩
    · simp only [rs, h2, decide_false]
      refine c_ret (ptext_ret n w) ?_
      rintro _ w' ⟨rfl, hb⟩
      exact hK _ _ ⟨by rw [Pl.pReal, if_pos (by simp [Fx.okB]; omega)], hb⟩
end Go.Proofs.YtiklhhdohckfiaaDoor
/- Contracts: plain (write, String, Name, Join, Pad) of the program. -/
namespace Go.Proofs.YtiklhhdohckfiaaDoor
set_option linter.unusedVariables false
set_option linter.unusedSimpArgs false
set_option linter.defProp false
open Eng Go.RowKit

/-- What a function that writes a byte's text into a Builder must do. -/
def Each (F : Nat) (f : UInt8 → List UInt8) : Prop := ∀ (b : Nat) (v : Value) (l : List UInt8) (c : UInt8) (w : World), (Bld b v l).is w → l.length ≤ 1000000 →
  Ret Tryd.prog F #[.pointer (some ⟨b, 0, none⟩), .int .u8 c.toNat] w (fun r w' => ∃ e', (∃ v', e' = Bld b v' (l ++ f c)) ∧ Turn (Bld b v l) e' w w')
theorem write_ret (op s en : List UInt8) (F : Nat) (f : UInt8 → List UInt8) (hF : plainB Tryd.prog F = true) (he : Each F f) (hf : ∀ c, (f c).length ≤ 4) (h1 : op.length = 1) (h2 : en.length ≤ 1) (h3 : s.length ≤ 40000) (w : World) :
    Ret Tryd.prog 50 #[.string ⟨op.toArray⟩, .string ⟨s.toArray⟩, .string ⟨en.toArray⟩, .func (.func F) #[] #[]] w (fun v w' => v = .string ⟨(op ++ s.flatMap f ++ en).toArray⟩ ∧ Below w.heap.size w w') := by
  refine ret_of fun K hK => S_plain_write_ok ?_
  unfold S_plain_write
  refine o_new (fun b => .pointer (some ⟨b, 0, none⟩)) [.pointer none, .slice none 0 0] 50 (fun _ => by kernel_rfl) (Own.start w) fun b w1 ho => ?_
  simp only [s_len Tryd.underlying9, rs]
  rw [wrap64_id (n := (op.length : Int) + s.length) (by omega) (by omega), wrap64_id (by omega) (by omega)]
  rw [show ((op.length : Int) + s.length + en.length) = ((op.length + s.length + en.length : Nat) : Int) by omega]
  refine c_ret (grow_ret ho (by omega) (by omega)) ?_
  rintro _ w2 ⟨rfl, v, ho2⟩
  refine c_turn 0 ho2 rfl (writeString_ret (ho2.at_ 0 rfl) (by simp; omega)) ?_
  rintro _ _ w3 ⟨_, v3, rfl⟩ ho3
  refine loop (fun vs w' => ∃ (i : Nat) (v : Value), vs = [.int .i64 i] ∧ i ≤ s.length ∧ Own w w' [Bld b v (op ++ (s.take i).flatMap f)])
    (fun vs _ => s.length - n0 vs) ⟨0, v3, rfl, by omega, by simpa using ho3⟩ ?_
  rintro vs w4 ⟨i, v4, rfl, hi, ho4⟩ _
  simp only [S_plain_write_0, gd, rs]
  by_cases hlt : (i : Int) < (s.length : Int)
  · have hi2 : i < s.length := by omega
    simp only [hlt, decide_true, rs]
    rw [s_ix (c := s[i]) Tryd.underlying9 (by omega) (by simp [hi2])]
    have hfl := Pl.flat_len f 4 hf (s.take i)
    have htk : (s.take i).length ≤ s.length := by rw [List.length_take]; omega
    refine c_val hF (c_turn 0 ho4 rfl (R := fun _ e' => ∃ v', e' = Bld b v' (op ++ (s.take i).flatMap f ++ f s[i])) (he b v4 _ s[i] w4 (ho4.at_ 0 rfl) (by simp only [List.length_append]; omega)) ?_)
    rintro _ _ w5 ⟨v5, rfl⟩ ho5
    rw [wrap64_id (by omega) (by omega)]
    refine nextX ⟨i + 1, v5, rfl, by omega, ?_⟩ (by simp [n0, intOf]; omega)
    rw [List.take_succ_eq_append_getElem hi2, Pl.flat_snoc, ← List.append_assoc]
    exact ho5
  · have hi2 : i = s.length := by omega
    subst hi2
    simp only [hlt, decide_false, rs]
    rw [List.take_length] at ho4
    have hfl := Pl.flat_len f 4 hf s
    refine c_turn 0 ho4 rfl (writeString_ret (ho4.at_ 0 rfl) (by simp only [List.length_append]; omega)) ?_
    rintro _ _ w5 ⟨_, v5, rfl⟩ ho5
    refine c_turn 0 ho5 rfl (bldString_ret (ho5.at_ 0 rfl)) ?_
    rintro _ _ w6 ⟨rfl, rfl⟩ ho6
    exact hK _ _ ⟨rfl, ho6.done⟩
theorem u8_of (n : Nat) (h : n < 256) : ((UInt8.ofNat n).toNat : Int) = (n : Int) := by rw [UInt8.toNat_ofNat']; omega
/-- WriteByte of a byte that is reckoned. -/
theorem writeByteN_ret {b : Nat} {v : Value} {l : List UInt8} {n : Int} {k : Nat} {w : World} (h : (Bld b v l).is w) (hl : l.length < 140737488355328) (hn : n = k) (hk : k < 256) : Ret Tryd.prog 25 #[.pointer (some ⟨b, 0, none⟩), .int .u8 n] w
    (fun r w' => ∃ e', (r = .nilIface ∧ ∃ v', e' = Bld b v' (l ++ [UInt8.ofNat k])) ∧ Turn (Bld b v l) e' w w') := by
  have := writeByte_ret (c := UInt8.ofNat k) h hl
  rw [u8_of k hk, ← hn] at this
  exact this
theorem u8d (c : UInt8) (k : Int) (x : UInt8) (hx : (x.toNat : Int) = k) : decide ((c.toNat : Int) = k) = decide (c = x) := by
  by_cases h : c = x
  · subst h; rw [decide_eq_true hx, decide_eq_true rfl]
  · rw [decide_eq_false h, decide_eq_false]
    intro h2
    exact h (UInt8.toNat_inj.1 (by omega))
theorem octd_ret {b : Nat} {l : List UInt8} {c : UInt8} {w0 w : World} {v : Value} {S : Nat → Prop} (d : Nat) (i : Nat) (hd : d = 64 ∨ d = 8 ∨ d = 1) (hi : (mIx 85 (.agg #[.int .u8 64, .int .u8 8, .int .u8 1]) (.int .i64 (i : Int))).run Tryd.prog w = .ok (.value (.int .u8 (d : Int))) w)
    {t0 : Value} {K : Value → World → Prop} {PK : List PanicEntry → World → Prop} (ho : OwnS S w0 w [Bld b v l]) (hl : l.length < 140737488355328) (hi3 : i < 3)
    (hk : ∀ v' w', OwnS S w0 w' [Bld b v' (l ++ [UInt8.ofNat (48 + c.toNat / d % 8)])] → K (.int .i64 ((i + 1 : Nat) : Int)) w') :
    DoX Tryd.prog (mIx 85 (.agg #[.int .u8 64, .int .u8 8, .int .u8 1]) (.int .i64 (i : Int))) w PK fun t37 w =>
      DoX Tryd.prog (mBin .quo 5 (.int .u8 c.toNat) t37) w PK fun t41 w =>
      DoX Tryd.prog (mBin .rem 5 t41 (.int .u8 8)) w PK fun t42 w =>
      DoX Tryd.prog (mBin .add 5 (.int .u8 48) t42) w PK fun t43 w =>
      CallX Tryd.prog 25 #[.pointer (some ⟨b, 0, none⟩), t43] w PK fun t44 w =>
      DoX Tryd.prog (mBin .add 3 (.int .i64 (i : Int)) (.int .i64 1)) w PK K := by
  have h256 := c.toNat_lt
  have hq : ((c.toNat : Int).tdiv d) = ((c.toNat / d : Nat) : Int) := by rw [Int.tdiv_eq_ediv_of_nonneg (by omega)]; rcases hd with rfl | rfl | rfl <;> omega
  have hq2 : c.toNat / d < 256 := Nat.lt_of_le_of_lt (Nat.div_le_self _ _) h256
  have hr : (((c.toNat / d : Nat) : Int).tmod 8) = ((c.toNat / d % 8 : Nat) : Int) := by rw [Int.tmod_eq_emod_of_nonneg (by exact Int.natCast_nonneg _)]; omega
  refine do_ok hi ?_
  have hq3 : (0 : Int) ≤ ((c.toNat / d : Nat) : Int) := Int.natCast_nonneg _
  rw [b_quo (by omega), hq, wrap8_id hq3 (by omega), b_rem (by omega), hr, b_add, wrap8_id (by omega) (by omega)]
  refine c_turn 0 ho rfl (writeByteN_ret (k := 48 + c.toNat / d % 8) (ho.at_ 0 rfl) hl (by omega) (by omega)) ?_
  rintro _ _ w5 ⟨rfl, v5, rfl⟩ ho5
  rw [b_add, wrap64_id (by omega) (by omega), show ((i : Int) + 1) = ((i + 1 : Nat) : Int) by omega]
  exact hk _ _ ho5
theorem each_esc : Each 58 Pl.esc := by
  intro b v l c w h hl
  refine ret_of fun K hK => S_plain_String_1_ok ?_
  unfold S_plain_String_1
  have ho := OwnS.lend h
  have done : ∀ {v' : Value} {w' : World} {e' : Ent}, OwnS (Bld b v l).blk w w' [e'] → (∃ v', e' = Bld b v' (l ++ Pl.esc c)) → K (.returned (.tuple #[])) w' := fun hx he => hK _ _ ⟨_, he, hx.back⟩
  have two : (c = 40 ∨ c = 41 ∨ c = 92) → CallX Tryd.prog 25 #[.pointer (some ⟨b, 0, none⟩), (.int .u8 92)] w (pk K) fun t21 w =>
      CallX Tryd.prog 25 #[.pointer (some ⟨b, 0, none⟩), .int .u8 c.toNat] w (pk K) fun t24 w => K (.returned (.tuple #[])) w := by
    intro hc
    refine c_turn 0 ho rfl (writeByteN_ret (k := 92) h (by omega) rfl (by omega)) ?_
    rintro _ _ w1 ⟨rfl, v1, rfl⟩ ho1
    refine c_turn 0 ho1 rfl (writeByte_ret (c := c) (ho1.at_ 0 rfl) (by simp; omega)) ?_
    rintro _ _ w2 ⟨rfl, v2, rfl⟩ ho2
    exact done (v' := v2) ho2 ⟨v2, by rw [Pl.esc, if_pos hc, List.append_assoc]; rfl⟩
  have e1 := u8d c 40 40 rfl
  have e2 := u8d c 41 41 rfl
  have e3 := u8d c 92 92 rfl
  by_cases h1 : c = 40
  · simp only [rs, e1, decide_eq_true h1, g_un]
    exact two (by simp [h1])
  · simp only [rs, e1, decide_eq_false h1, g_un]
    by_cases h2 : c = 41
    · simp only [rs, e2, decide_eq_true h2, g_un]
      exact two (by simp [h2])
    · simp only [rs, e2, decide_eq_false h2, g_un]
      by_cases h3 : c = 92
      · simp only [rs, e3, decide_eq_true h3, g_un]
        exact two (by simp [h3])
      · simp only [rs, e3, decide_eq_false h3, g_un]
        have hn : ¬ (c = 40 ∨ c = 41 ∨ c = 92) := by simp [h1, h2, h3]
        have oct : (c.toNat < 32 ∨ 126 < c.toNat) → CallX Tryd.prog 25 #[.pointer (some ⟨b, 0, none⟩), (.int .u8 92)] w (pk K) fun t33 w =>
            DoX Tryd.prog (mBuild 85 #[(0, (.int .u8 64)), (1, (.int .u8 8)), (2, (.int .u8 1))]) w (pk K) fun t34 w =>
            LoopX [(.int .i64 0)] w (fun vs1 w N1 => ∀ _ : Sg, S_plain_String_1_0 (.pointer (some ⟨b, 0, none⟩)) (.int .u8 c.toNat) t34 (vs1.getD 0 undef) w N1 K) := by
          intro hc
          refine c_turn 0 ho rfl (writeByteN_ret (k := 92) h (by omega) rfl (by omega)) ?_
          rintro _ _ w1 ⟨rfl, v1, rfl⟩ ho1
          refine do_ok (w' := w1) (v := .agg #[.int .u8 64, .int .u8 8, .int .u8 1]) (by kernel_rfl) ?_
          refine loop (fun vs w' => ∃ (i : Nat) (v' : Value), vs = [.int .i64 i] ∧ i ≤ 3 ∧ OwnS (Bld b v l).blk w w' [Bld b v' (l ++ (Pl.oct c).take (i + 1))])
            (fun vs _ => 3 - n0 vs) ⟨0, v1, rfl, by omega, by simpa [Pl.oct] using ho1⟩ ?_
          rintro vs w2 ⟨i, v2, rfl, hi, ho2⟩ _
          simp only [S_plain_String_1_0, gd]
          rw [b_lss]
          by_cases hlt : (i : Int) < 3
          · simp only [hlt, decide_true, i_t]
            have hi3 : i = 0 ∨ i = 1 ∨ i = 2 := by omega
            have h256 := c.toNat_lt
            rcases hi3 with rfl | rfl | rfl
            · refine octd_ret (t0 := undef) 64 0 (.inl rfl) (by kernel_rfl) ho2 (by simp [Pl.oct]; omega) (by omega) fun v' w' h' => ?_
              refine nextX ⟨1, v', rfl, by omega, ?_⟩ (by simp [n0, intOf])
              have e : c.toNat / 64 % 8 = c.toNat / 64 := by omega
              rw [e, List.append_assoc] at h'
              exact h'
            · refine octd_ret (t0 := undef) 8 1 (.inr (.inl rfl)) (by kernel_rfl) ho2 (by simp [Pl.oct]; omega) (by omega) fun v' w' h' => ?_
              refine nextX ⟨2, v', rfl, by omega, ?_⟩ (by simp [n0, intOf])
              rw [List.append_assoc] at h'
              exact h'
            · refine octd_ret (t0 := undef) 1 2 (.inr (.inr rfl)) (by kernel_rfl) ho2 (by simp [Pl.oct]; omega) (by omega) fun v' w' h' => ?_
              refine nextX ⟨3, v', rfl, by omega, ?_⟩ (by simp [n0, intOf])
              rw [Nat.div_one, List.append_assoc] at h'
              exact h'
          · have hi3 : i = 3 := by omega
            subst hi3
            simp only [hlt, decide_false, i_f]
            refine done (v' := v2) ho2 ⟨v2, ?_⟩
            rw [Pl.esc, if_neg hn, if_pos hc]
            rfl
        by_cases h4 : (c.toNat : Int) < 32
        · simp only [rs, h4, decide_true, g_un]
          exact oct (.inl (by omega))
        · simp only [rs, h4, decide_false, g_un]
          by_cases h5 : (126 : Int) < (c.toNat : Int)
          · simp only [rs, h5, decide_true, g_un]
            exact oct (.inr (by omega))
          · simp only [rs, h5, decide_false, g_un]
            refine c_turn 0 ho rfl (writeByte_ret (c := c) h (by omega)) ?_
            rintro _ _ w1 ⟨rfl, v1, rfl⟩ ho1
            exact done (v' := v1) ho1 ⟨v1, by rw [Pl.esc, if_neg hn, if_neg (by omega)]⟩
theorem pstr_ret (l : List UInt8) (w : World) (hl : l.length ≤ 1000000) : Ret Tryd.prog 48 #[.string ⟨l.toArray⟩] w (fun v w' => v = .tuple #[.string ⟨(Pl.pStr l).1.toArray⟩, .int .i64 (Pl.pStr l).2] ∧ Below w.heap.size w w') := by
  refine ret_of fun K hK => S_plain_String_ok ?_
  unfold S_plain_String
  rw [s_len Tryd.underlying9]
  by_cases h1 : (32767 : Int) < l.length
  · simp only [rs, h1, decide_true]
    exact hK _ _ ⟨by rw [Pl.pStr, if_pos (by omega)], Below.refl _ _⟩
  · simp only [rs, h1, decide_false]
    refine c_ret (write_ret [40] l [41] _ Pl.esc (by kernel_rfl) each_esc (fun c => (Pl.esc_len c).2) rfl (by simp) (by omega) w) ?_
    rintro _ w' ⟨rfl, hb⟩
    exact hK _ _ ⟨by rw [Pl.pStr, if_neg (by omega)]; rfl, hb⟩
theorem each_nmc : Each 51 Pl.nmc := by
  intro b v l c w h hl
  refine ret_of fun K hK => S_plain_Name_1_ok ?_
  unfold S_plain_Name_1
  have ho := OwnS.lend h
  have yes : Pl.nmOk c = true → CallX Tryd.prog 25 #[.pointer (some ⟨b, 0, none⟩), .int .u8 c.toNat] w (pk K) fun t21 w => K (.returned (.tuple #[])) w := by
    intro hc
    refine c_turn 0 ho rfl (writeByte_ret (c := c) h (by omega)) ?_
    rintro _ _ w1 ⟨rfl, v1, rfl⟩ ho1
    exact hK _ _ ⟨_, ⟨v1, by rw [Pl.nmc, if_pos hc]⟩, ho1.back⟩
  have no : Pl.nmOk c = false → DoX Tryd.prog (mBuildS 48 1 #[(0, .int .u8 c.toNat)]) w (pk K) fun t24 w =>
      DoX Tryd.prog (mConv 48 9 t24) w (pk K) fun t25 w =>
      CallX Tryd.prog 52 #[t25] w (pk K) fun t26 w =>
      DoX Tryd.prog (mBin .add 9 (.string ⟨#[35]⟩) t26) w (pk K) fun t27 w =>
      CallX Tryd.prog 24 #[.pointer (some ⟨b, 0, none⟩), t27] w (pk K) fun t28 w => K (.returned (.tuple #[])) w := by
    intro hc
    refine o_new (fun b => .slice (some ⟨b, 0, none⟩) 1 1) [.int .u8 c.toNat] 5 (fun _ => by kernel_rfl) ho fun nb w1 h1 => ?_
    rw [c_bytes (l := [c]) Tryd.underlying48 Tryd.underlying5 Tryd.underlying9 (h1.sl 0 rfl 1 1 1 rfl)]
    refine c_below h1.tail (R := fun v => v = .string ⟨(Oc.hex [c]).toArray⟩) (hex_ret [c] w1 (by simp)) ?_
    rintro _ w2 rfl ho2
    change DoX Tryd.prog (mBin .add 9 (.string ⟨([35] : List UInt8).toArray⟩) (.string ⟨(Oc.hex [c]).toArray⟩)) _ _ _
    have hx := Oc.hex_length [c]
    rw [s_add (by simp only [List.length_cons, List.length_nil] at hx ⊢; omega)]
    refine c_turn 0 ho2 rfl (writeString_ret (ho2.at_ 0 rfl) (by simp only [List.length_append, List.length_cons, List.length_nil] at hx ⊢; omega)) ?_
    rintro _ _ w3 ⟨_, v1, rfl⟩ ho3
    exact hK _ _ ⟨_, ⟨v1, by rw [Pl.nmc, if_neg (by simp [hc])]⟩, ho3.back⟩
  by_cases h1 : (32 : Int) < (c.toNat : Int)
  · simp only [rs, h1, decide_true]
    by_cases h2 : (c.toNat : Int) ≤ 126
    · simp only [rs, h2, decide_true]
      have e3 : decide ((c.toNat : Int) ≠ 35) = decide (c ≠ 35) := by
        have := u8d c 35 35 rfl
        by_cases hc : c = 35
        · subst hc; rfl
        · rw [decide_eq_false hc] at this
          rw [decide_eq_true hc, decide_eq_true (of_decide_eq_false this)]
      by_cases h3 : c ≠ 35
      · simp only [rs, e3, decide_eq_true h3]
        refine c_eq (delim_ret c w) ?_
        cases hd : Oc.delim c with
        | true => simp only [rs]; exact no (by simp [Pl.nmOk, hd])
        | false => simp only [rs]; exact yes (by simp [Pl.nmOk, hd, h3]; omega)
      · simp only [rs, e3, decide_eq_false h3, g_un]
        exact no (by simp at h3; simp [Pl.nmOk, h3])
    · simp only [rs, h2, decide_false, g_un]
      exact no (by simp [Pl.nmOk]; omega)
  · simp only [rs, h1, decide_false, g_un]
    exact no (by simp [Pl.nmOk]; omega)
theorem pname_ret (l : List UInt8) (w : World) : Ret Tryd.prog 35 #[.string ⟨l.toArray⟩] w (fun v w' => v = .tuple #[.string ⟨(Pl.pName l).1.toArray⟩, .int .i64 (Pl.pName l).2] ∧ Below w.heap.size w w') := by
  refine ret_of fun K hK => S_plain_Name_ok ?_
  unfold S_plain_Name
  rw [s_len Tryd.underlying9]
  by_cases h1 : (127 : Int) < l.length
  · simp only [rs, h1, decide_true]
    exact hK _ _ ⟨by rw [Pl.pName, if_pos (by omega)], Below.refl _ _⟩
  · simp only [rs, h1, decide_false]
    refine c_eq (indexByte_ret l 0 w) ?_
    simp only [rs, Oc.indexByte_nonneg]
    cases h2 : l.contains 0 with
    | true => simp only [rs]; exact hK _ _ ⟨by rw [Pl.pName, if_neg (by omega), if_pos h2], Below.refl _ _⟩
    | false =>
      simp only [rs]
      refine c_ret (write_ret [47] l [] _ Pl.nmc (by kernel_rfl) each_nmc (fun c => Nat.le_trans (Pl.nmc_len c).2 (by omega)) rfl (by simp) (by omega) w) ?_
      rintro _ w' ⟨rfl, hb⟩
      exact hK _ _ ⟨by rw [Pl.pName, if_neg (by omega), if_neg (by simp at h2; simp [h2]), List.append_nil]; rfl, hb⟩
end Go.Proofs.YtiklhhdohckfiaaDoor
/- Contracts: plain.Join of the program. -/
namespace Go.Proofs.YtiklhhdohckfiaaDoor
set_option linter.unusedVariables false
set_option linter.unusedSimpArgs false
set_option linter.defProp false
open Eng Go.RowKit

def strV (p : List UInt8) : Value := .string ⟨p.toArray⟩
def strsV (ps : List (List UInt8)) : List Value := ps.map strV
theorem strsV_length (ps : List (List UInt8)) : (strsV ps).length = ps.length := by simp [strsV]
theorem strsV_get {ps : List (List UInt8)} {i : Nat} (h : i < ps.length) : (strsV ps)[i]? = some (.string ⟨ps[i].toArray⟩) := by simp [strsV, strV, h]

theorem pjoin_ret (ps : List (List UInt8)) (v : Value) (w : World) (hs : Sl w v 1 ps.length (strsV ps)) (hb : Pl.tot ps ≤ 1000000000000) :
    Ret Tryd.prog 19 #[v] w (fun r w' => r = .string ⟨(Pl.join ps).toArray⟩ ∧ Below w.heap.size w w') := by
  refine ret_of fun K hK => S_plain_Join_ok ?_
  unfold S_plain_Join
  refine o_new (fun b => .pointer (some ⟨b, 0, none⟩)) [.pointer none, .slice none 0 0] 50 (fun _ => by kernel_rfl) (Own.start w) fun b w1 ho => ?_
  rw [sl_len Tryd.underlying22 (ho.oldSl hs)]
  have hB0 : ∃ v0, Own w w1 [Bld b v0 []] := by
    have h1 := (ho.nilRow 5 1).swap
    exact ⟨_, OwnS.closeB (l := []) (.inl rfl) roomy_nil h1⟩
  obtain ⟨v0, ho0⟩ := hB0
  have hlen := Pl.length_tot ps
  refine loop (fun vs w' => ∃ (i : Nat) (bv : Value), vs = [.int .u8 (Pl.lastC (Pl.join (ps.take i))).toNat, .int .i64 i] ∧ i ≤ ps.length ∧ Own w w' [Bld b bv (Pl.join (ps.take i))])
    (fun vs _ => ps.length - n1 vs) ⟨0, v0, rfl, by omega, ho0⟩ ?_
  rintro vs w2 ⟨i, bv, rfl, hi, ho2⟩ _
  simp only [S_plain_Join_0, gd]
  rw [b_lss]
  by_cases hlt : (i : Int) < (ps.length : Int)
  · have hi2 : i < ps.length := by omega
    simp only [hlt, decide_true, i_t]
    have hgt := Pl.get_tot ps i hi2
    have hjl := Pl.join_len (ps.take i)
    generalize hacc : Pl.join (ps.take i) = acc at *
    have hnext : Pl.join (ps.take (i + 1)) = Pl.glue acc ps[i] := by rw [List.take_succ_eq_append_getElem hi2, Pl.join_snoc, hacc]
    refine join fun J2 hJ2 => ?_
    refine sl_ia1 (.string ⟨ps[i].toArray⟩) Tryd.underlying22 (by kernel_rfl) (ho2.oldSl hs) (by omega) (by rw [Int.toNat_natCast]; exact strsV_get hi2) fun p hp => ?_
    rw [l_cell (by kernel_rfl) hp]
    have fin : ∀ (bv' : Value) (w' : World), Own w w' [Bld b bv' (Pl.glue acc ps[i])] → J2 [.int .u8 (Pl.lastC (Pl.glue acc ps[i])).toNat] w' := by
      intro bv' w' h'
      refine hJ2 _ _ fun _ => ?_
      simp only [S_plain_Join_2, gd, rs]
      rw [wrap64_id (by omega) (by omega)]
      refine nextX ⟨i + 1, bv', by rw [hnext]; rfl, by omega, by rw [hnext]; exact h'⟩ (by simp [n1, intOf]; omega)
    change DoX Tryd.prog (mEq .eql _ _ _ _ (.string ⟨([] : List UInt8).toArray⟩)) _ _ _
    rw [e_str]
    by_cases hp0 : ps[i] = []
    · simp only [decide_eq_true hp0, rs]
      have := fin bv w2 (by rw [hp0]; exact ho2)
      rw [hp0] at this
      exact this
    · simp only [decide_eq_false hp0, rs]
      obtain ⟨c, t, hct⟩ : ∃ c t, ps[i] = c :: t := by
        cases h : ps[i] with
        | nil => exact absurd h hp0
        | cons c t => exact ⟨c, t, rfl⟩
      refine join fun J3 hJ3 => ?_
      have last : ∀ (acc' : List UInt8) (bv' : Value) (w' : World), Own w w' [Bld b bv' acc'] → acc'.length ≤ acc.length + 1 → acc' ++ ps[i] = Pl.glue acc ps[i] → J3 [] w' := by
        intro acc' bv' w' h' hl' he
        refine hJ3 _ _ fun _ => ?_
        simp only [S_plain_Join_1]
        refine c_turn 0 h' rfl (writeString_ret (h'.at_ 0 rfl) (by omega)) ?_
        rintro _ _ w3 ⟨_, v3, rfl⟩ ho3
        rw [s_len Tryd.underlying9, b_sub]
        have hpos : 0 < ps[i].length := List.length_pos_iff.2 hp0
        rw [wrap64_id (by omega) (by omega), s_ix (c := Pl.lastC ps[i]) Tryd.underlying9 (by omega) (by
          rw [show (((ps[i].length : Nat) : Int) - 1).toNat = ps[i].length - 1 by omega]
          exact Pl.last_get _ hp0)]
        rw [← Pl.lastC_glue acc _ hp0]
        refine fin v3 w3 ?_
        rw [← he]; exact ho3
      refine c_eq (regular_ret _ w2) ?_
      have put : ((Oc.regular (Pl.lastC acc) || decide (Pl.lastC acc = 47)) && Oc.regular c) = true → CallX Tryd.prog 25 #[.pointer (some ⟨b, 0, none⟩), (.int .u8 32)] w2 (pk K) fun t26 w => J3 [] w := by
        intro hc
        refine c_turn 0 ho2 rfl (writeByteN_ret (k := 32) (ho2.at_ 0 rfl) (by omega) rfl (by omega)) ?_
        rintro _ _ w3 ⟨rfl, v3, rfl⟩ ho3
        refine last _ v3 w3 ho3 (by simp) ?_
        rw [hct]
        simp only [Pl.glue]
        rw [if_pos hc]; rfl
      have skip : ((Oc.regular (Pl.lastC acc) || decide (Pl.lastC acc = 47)) && Oc.regular c) = false → J3 [] w2 := by
        intro hc
        refine last acc bv w2 ho2 (by omega) ?_
        rw [hct]
        simp only [Pl.glue]
        rw [if_neg (by simp [hc])]
      have hix : ∀ {PK K}, DoX Tryd.prog (mIx 9 (.string ⟨ps[i].toArray⟩) (.int .i64 0)) w2 PK K = K (.int .u8 c.toNat) w2 := fun {PK K} => s_ix (c := c) Tryd.underlying9 (by omega) (by rw [hct]; rfl)
      have e47 := u8d (Pl.lastC acc) 47 47 rfl
      have rest : (Oc.regular (Pl.lastC acc) || decide (Pl.lastC acc = 47)) = true → CallX Tryd.prog 30 #[.int .u8 c.toNat] w2 (pk K) fun t25 w =>
          IfX t25 (CallX Tryd.prog 25 #[.pointer (some ⟨b, 0, none⟩), (.int .u8 32)] w (pk K) fun t26 w => J3 [] w) (J3 [] w) := by
        intro hr
        refine c_eq (regular_ret c w2) ?_
        cases hc : Oc.regular c with
        | true => simp only [rs]; exact put (by simp [hr, hc])
        | false => simp only [rs]; exact skip (by simp [hc])
      cases hr : Oc.regular (Pl.lastC acc) with
      | true =>
        simp only [rs, g_un, hix]
        exact rest (by simp [hr])
      | false =>
        simp only [rs, e47]
        by_cases h47 : Pl.lastC acc = 47
        · simp only [decide_eq_true h47, rs, hix]
          exact rest (by simp [h47])
        · simp only [decide_eq_false h47, rs, g_un]
          exact skip (by simp [hr, h47])
  · have hi2 : i = ps.length := by omega
    subst hi2
    simp only [hlt, decide_false, i_f]
    rw [List.take_length] at ho2
    refine c_turn 0 ho2 rfl (bldString_ret (ho2.at_ 0 rfl)) ?_
    rintro _ _ w6 ⟨rfl, rfl⟩ ho6
    exact hK _ _ ⟨rfl, ho6.done⟩
end Go.Proofs.YtiklhhdohckfiaaDoor
/- What the rows of the laws of layer 4 and later ask besides: laid tables; slices of strings that came in. -/
namespace Go.Proofs.YtiklhhdohckfiaaDoor
set_option linter.unusedVariables false
set_option linter.unusedSimpArgs false
set_option linter.defProp false
open Eng Go.RowKit Go.ChangeShapes Go.WideShapes Go.ChangeAt
theorem laidMet_tail {P : Program} {x : String × DataW Unit} {l : List (String × DataW Unit)} {W : World} (h : laidMet P (x :: l) W) : laidMet P l W := by
  obtain ⟨ps, ⟨g, t, cs, fuel, p, q, _, _, _, _, hr, rfl⟩, hn, hc⟩ := h
  exact ⟨q, hr, (List.nodup_append.1 hn).2.1, fun b off hm => hc b off (by simp [hm])⟩
end Go.Proofs.YtiklhhdohckfiaaDoor
/- Bounds of integers of a kind. -/
namespace Go.Proofs.YtiklhhdohckfiaaDoor
set_option linter.unusedVariables false
set_option linter.unusedSimpArgs false
set_option linter.defProp false
open Eng Go.RowKit
end Go.Proofs.YtiklhhdohckfiaaDoor
/- The engine's rules for variables of several cells (structs): loads, stores, results. -/
namespace Go.Proofs.YtiklhhdohckfiaaDoor
set_option linter.unusedVariables false
set_option linter.unusedSimpArgs false
set_option linter.defProp false
set_option linter.unusedSimpArgs false
set_option linter.unusedVariables false
namespace Eng
open Go.RowKit

/-- A type of n cells whose values are aggregates. -/
def aggN (P : Program) (T : TypeId) : Option Nat :=
  match P.underlying T with
  | some (.struct _) | some (.array _ _) => (P.info? T).map (·.size)
  | _ => none
/-- The variable of type T at an address reads v. -/
def AtV (P : Program) (w : World) (T : TypeId) (a : Addr) (v : Value) : Prop := (loadVar T a).run P w = .ok v w

section
variable {S : Nat → Prop} {P : Program} {w : World} {PK : List PanicEntry → World → Prop} {K : Value → World → Prop}
theorem AtV.cell {T : TypeId} (ht : notAgg P T = true) {a : Addr} {v : Value} (h : w.cell? a = some v) : AtV P w T a v := run_loadVar_cell ht h
theorem AtV.agg {T : TypeId} {n : Nat} (ht : aggN P T = some n) {b off : Nat} {cs : List Value} (hl : cs.length = n) (h : ∀ j v, cs[j]? = some v → w.cell? ⟨b, off + j, none⟩ = some v) : AtV P w T ⟨b, off, none⟩ (.agg cs.toArray) := by
  have hc := run_loadCells_list (P := P) w ⟨b, off, none⟩ cs (fun j v hj => by rw [add_none]; exact h j v hj)
  unfold aggN at ht
  subst hl
  unfold AtV
  split at ht
  · rename_i fs hu
    obtain ⟨i, hi, h1⟩ := Option.map_eq_some_iff.1 ht
    simp [loadVar, isAgg, run_underlying hu, sizeOf, typeInfo, hi, h1, hc]
  · rename_i k e hu
    obtain ⟨i, hi, h1⟩ := Option.map_eq_some_iff.1 ht
    simp [loadVar, isAgg, run_underlying hu, sizeOf, typeInfo, hi, h1, hc]
  · cases ht
theorem run_load_at {T : TypeId} {a : Addr} {v : Value} (h : AtV P w T a v) : (mLoad T (.pointer (some a))).run P w = .ok (.value v) w := by
  unfold AtV at h
  exact mv_run (by simp [Instr.loadAt, Instr.sureAddr, h])
theorem l_at {T : TypeId} {a : Addr} {v : Value} (h : AtV P w T a v) : DoX P (mLoad T (.pointer (some a))) w PK K = K v w := do_eq (run_load_at h)
/-- A whole variable of the call's own: the i-th piece. -/
theorem OwnS.agg {w0 : World} {L : List Ent} (ho : OwnS S w0 w L) (i : Nat) {b : Nat} {cs : List Value} {E T : TypeId} (hi : L[i]? = some (.cells b cs E)) (ht : aggN P T = some cs.length) : AtV P w T ⟨b, 0, none⟩ (.agg cs.toArray) :=
  AtV.agg ht rfl fun j v hj => by rw [Nat.zero_add]; exact ho.cell i hi j hj
theorem run_store_agg {T : TypeId} {b : Nat} {cs new : List Value} {E : TypeId} (hs : (P.info? T).map (·.size) = some new.length) (hv : ∀ v ∈ new, v.oneCell' = true) (hl : cs.length = new.length) (h : w.heap[b]? = some (.cells cs.toArray E (0, 0))) :
    (Instr.storeAt T (.pointer (some ⟨b, 0, none⟩)) (.agg new.toArray)).run P w = .ok () (w.setRow b new.toArray) := by
  have hst := run_storeCells_at P b 0 E new 0 cs.toArray w h (by simp; omega) hv
  obtain ⟨i, hi, h1⟩ := Option.map_eq_some_iff.1 hs
  have hd : cs.toArray.toList.drop new.length = [] := List.drop_eq_nil_of_le (by rw [← hl]; exact Nat.le_refl _)
  simp only [Nat.add_zero, Nat.zero_add, List.take_zero, List.nil_append, hd, List.append_nil] at hst
  have hc : (Value.agg new.toArray).cells = new.toArray := rfl
  simp [Instr.storeAt, Instr.sureAddr, storeVar, hc, sizeOf, typeInfo, hi, h1, hst]
/-- A store of a whole variable of the call's own. -/
theorem o_put {w0 : World} {L : List Ent} (i : Nat) {T : TypeId} {b : Nat} {cs new : List Value} {E : TypeId} (ho : OwnS S w0 w L) (hi : L[i]? = some (.cells b cs E)) (hs : (P.info? T).map (·.size) = some new.length) (hv : ∀ v ∈ new, v.oneCell' = true) (hl : cs.length = new.length)
    (k : ∀ w', OwnS S w0 w' (L.set i (.cells b new E)) → K undef w') : DoX P (mStore T (.pointer (some ⟨b, 0, none⟩)) (.agg new.toArray)) w PK K :=
  do_skip (mu_run (run_store_agg hs hv hl (ho.at_ i hi))) (k _ (setRow_own ho i hi _))
theorem ret_grew {f : Nat} {args : Array Value} {v : Value} {w1 : World} (h : Ret P f args w (fun v' w' => v' = v ∧ Below w.heap.size w w')) (hb : Below w1.heap.size w1 w) : Ret P f args w (fun v' w' => v' = v ∧ Below w1.heap.size w1 w') :=
  h.mono fun v' w' r => ⟨r.1, (((Own.start w1).grow hb).grow r.2).done⟩
/- RESULTS -/
theorem ret_v1 {r1 : RV} {v1 : Value} {K : Ending → World → Prop} (h1 : r1.read.run P w = .ok v1 w) (k : K (.returned v1) w) : RetX P [r1] w K :=
  ⟨_, by simp [resRun, h1], k⟩
theorem ret_v2 {r1 r2 : RV} {v1 v2 : Value} {K : Ending → World → Prop} (h1 : r1.read.run P w = .ok v1 w) (h2 : r2.read.run P w = .ok v2 w) (k : K (.returned (.tuple #[v1, v2])) w) : RetX P [r1, r2] w K :=
  ⟨_, by simp [resRun, h1, h2], k⟩
theorem rv_cell {T : TypeId} {a : Addr} {v : Value} (h : AtV P w T a v) : (RV.cell (.pointer (some a)) T).read.run P w = .ok v w := by
  unfold AtV at h
  simp [RV.read, asAddr, h]
theorem rv_val {v : Value} : (RV.val v).read.run P w = .ok v w := by simp [RV.read]
end
end Eng
end Go.Proofs.YtiklhhdohckfiaaDoor
/- The engine's rules for ranges over functions. -/
namespace Go.Proofs.YtiklhhdohckfiaaDoor
set_option linter.unusedVariables false
set_option linter.unusedSimpArgs false
set_option linter.defProp false
set_option linter.unusedSimpArgs false
set_option linter.unusedVariables false
namespace Eng
open Go.RowKit

section
variable {S : Nat → Prop} {P : Program} {w w0 : World} {L : List Ent} {PK : List PanicEntry → World → Prop} {K : Value → World → Prop}
theorem OwnS.join {w' : World} {L' : List Ent} (h : OwnS S w0 w L) (k : OwnS NoB w w' L') : OwnS S w0 w' (L' ++ L) := by
  have h' := h.grow k.below
  refine ⟨h'.grew, fun e he => ?_, List.pairwise_append.2 ⟨k.apart, h'.apart, fun e he f hf b hb hb' => ?_⟩⟩
  · rcases List.mem_append.1 he with he | he
    · obtain ⟨a, b⟩ := k.all e he
      refine ⟨a, fun j hj => .inr ?_⟩
      rcases b j hj with h1 | h1
      · exact h1.elim
      · exact Nat.le_trans h.size h1
    · exact h'.all e he
  · have h2 := f.lt (h.mem hf) b hb'
    rcases (k.all e he).2 b hb with h1 | h1
    · exact h1
    · omega
theorem o_beg {l : Nat} {L0 : Loop} {K : World → Prop} (i : Nat) (ho : OwnS S w0 w L) (hi : L[i]? = some (.obj l (lp L0 .ready none))) (k : ∀ w', OwnS S w0 w' (L.set i (.obj l (lp L0 .busy none))) → K w') : BegX P l w K :=
  ⟨_, run_beginRound (ho.at_ i hi), k _ (put_iter ho i hi)⟩
theorem o_end {l : Nat} {L0 : Loop} {j : Option Code} {R : Value → World → Prop} (i : Nat) (ho : OwnS S w0 w L) (hi : L[i]? = some (.obj l (lp L0 .busy none))) (k : ∀ w', OwnS S w0 w' (L.set i (.obj l (lp L0 (if j.isNone then .ready else .done) j))) → R (.bool j.isNone) w') : EndX P l j w R :=
  ⟨_, _, run_endRound (ho.at_ i hi), k _ (put_iter ho i hi)⟩
theorem c_yld {l : Nat} {args : List Value} {R : Value → World → Prop} (h : Yld P l args w R) (k : ∀ v w', R v w' → K v w') : DoX P (mCallV (.func (.yield l) #[] #[]) args.toArray) w PK K := by
  obtain ⟨fn, tmps, asn, bdy, h1, h2⟩ := h
  have hr : (mCallV (.func (.yield l) #[] #[]) args.toArray).run P w = .ok (.round l fn tmps asn bdy) w := by
    rw [← h1]
    simp [mCallV, invoke, Deferred.ofValue, resolve]
  refine ⟨?_⟩
  rw [hr]
  refine ⟨RoundIn.mono h2 ?_⟩
  rintro e w' ⟨v, rfl, hv⟩
  exact k v w' hv
theorem range {js : List (Option Code × (Nat → World → Prop))} {B : Nat → List Value → World → (Value → World → Prop) → Prop} {np f : Nat} {fa ca : Array Value} (ho : OwnS S w0 w L) (hp : plainB P f = true)
    (h : ∀ (L0 : Loop) (df lb : Nat) (w1 : World), OwnS S w0 w1 (.obj lb (lp L0 .ready none) :: .obj df (.deferred (some [])) :: L) →
      (∀ args W R, W.heap[lb]? = some (lp L0 .ready none) → args.length = np → B lb args W R → Yld P lb args W R) →
      Calls P f (fa ++ #[.func (.yield lb) #[] #[]] ++ ca) w1 fun e w3 => ∃ v st pd k, e = .returned v ∧ st ≠ .busy ∧ w3.heap[lb]? = some (lp L0 st pd) ∧ (pd, k) ∈ js ∧ k df (putO w3 lb (lp L0 .exhausted pd))) :
    RangeX P none np (.func (.func f) fa ca) w B js := by
  refine ⟨f, fa, ca, w.heap.size, w.alloc (.deferred (some [])), rfl, hp, ⟨rfl, rfl⟩, fun L0 _ hy => ?_⟩
  exact h L0 w.heap.size (w.alloc (.deferred (some []))).heap.size _ ((ho.allocObj _).allocObj _) (fun args W R h1 h2 h3 => hy _ args W R h1 h2 h3)
/-- The mark of a loop is taken; then the results are read. -/
theorem leave1 {rs : List RV} {K : Ending → World → Prop} {df : Nat} (i : Nat) (ho : OwnS S w0 w L) (hi : L[i]? = some (.obj df (.deferred (some [])))) (k : ∀ w', OwnS S w0 w' (L.set i (.obj df (.deferred none))) → RetD P rs w' K) : LeaveM P rs K [mkD df] .returning w := by
  refine ⟨(fun h => by cases h), df, _, rfl, ?_, k _ (put_iter ho i hi)⟩
  have h : w.heap[df]? = some (.deferred (some [])) := ho.at_ i hi
  simp [Instr.takeDeferred, getObj, setObj, Sem.run, h]
end
end Eng
end Go.Proofs.YtiklhhdohckfiaaDoor
/- The engine's rule for comparing structs of integers and strings. -/
namespace Go.Proofs.YtiklhhdohckfiaaDoor
set_option linter.unusedVariables false
set_option linter.unusedSimpArgs false
set_option linter.defProp false
set_option linter.unusedSimpArgs false
set_option linter.unusedVariables false
namespace Eng
open Go.RowKit

section
variable {P : Program} {w : World} {PK : List PanicEntry → World → Prop} {K : Value → World → Prop}
end
end Eng
end Go.Proofs.YtiklhhdohckfiaaDoor
/- The engine's rules for drawn regions that are quiet: guards, comparisons, choices. -/
namespace Go.Proofs.YtiklhhdohckfiaaDoor
set_option linter.unusedVariables false
set_option linter.unusedSimpArgs false
set_option linter.defProp false
set_option linter.unusedSimpArgs false
set_option linter.unusedVariables false
namespace Eng
open Go.RowKit
section
variable {P : Program} {C : World → Prop} {K : Value → Prop}
theorem q_add {T : TypeId} {k : IntKind} {a b : Int} (h : K (.int k (k.wrap (a + b)))) : QDo P C (mBin .add T (.int k a) (.int k b)) K := q_do _ (fun _ => r_add) h
theorem q_gtr {T : TypeId} {k : IntKind} {a b : Int} (h : K (.bool (decide (b < a)))) : QDo P C (mBin .gtr T (.int k a) (.int k b)) K := q_do _ (fun _ => mv_run (by simp [binOp, Op.intCmp])) h
theorem q_sne {T : TypeId} {xo yo : Operand} {a b : List UInt8} (h : K (.bool (decide (a ≠ b)))) : QDo P C (mEq .neq T xo yo (.string ⟨a.toArray⟩) (.string ⟨b.toArray⟩)) K := by
  refine q_do _ (fun _ => mv_run ?_) h
  have e : (a == b) = decide (a = b) := by by_cases h : a = b <;> simp [h]
  simp [eqGuard, binOp, Op.stringOp, str_toList, e]
end
end Eng
end Go.Proofs.YtiklhhdohckfiaaDoor
/- The engine's rules for iterators: what hands values, one by one, to the body of a loop. -/
namespace Go.Proofs.YtiklhhdohckfiaaDoor
set_option linter.unusedVariables false
set_option linter.unusedSimpArgs false
set_option linter.defProp false
set_option linter.unusedSimpArgs false
set_option linter.unusedVariables false
namespace Eng
open Go.RowKit
theorem OwnS.perm {S : Nat → Prop} {w0 w : World} {L L' : List Ent} (h : OwnS S w0 w L) (hp : L.Perm L') : OwnS S w0 w L' :=
  ⟨h.grew, fun e he => h.all e (hp.mem_iff.2 he), (hp.pairwise_iff (fun {x y} hxy k hy hx => hxy k hx hy)).1 h.apart⟩
/-- The two objects of a running loop. -/
def loopE (L0 : Loop) (lb df : Nat) : List Ent := [.obj lb (lp L0 .ready none), .obj df (.deferred (some []))]
/-- The function f hands the values vs to the body of a loop, one by one. F: the pieces of memory that it holds at the start. I: what it asks of the world. -/
def Seq (P : Program) (I : World → Prop) (f : Nat) (fa ca : Array Value) (F : List Ent) (vs : List Value) : Prop :=
  ∀ (S : Nat → Prop) (w0 w1 : World) (L0 : Loop) (lb df : Nat) (M0 : List Ent) (R : Nat → List Ent → Prop) (K : Ending → World → Prop),
    (∀ (L : List Ent) (W : World), OwnS S w0 W L → I W) → OwnS S w0 w1 (loopE L0 lb df ++ (M0 ++ F)) → R 0 M0 →
    (∀ (k : Nat) (v : Value) (M X : List Ent) (W : World), vs[k]? = some v → R k M → OwnS S w0 W (loopE L0 lb df ++ (M ++ X)) →
      Yld P lb [v] W (fun r W' => (r = .bool true ∧ ∃ M', R (k + 1) M' ∧ OwnS S w0 W' (loopE L0 lb df ++ (M' ++ X))) ∨ (r = .bool false ∧ K (.returned (.tuple #[])) W'))) →
    (∀ (M X : List Ent) (W : World), R vs.length M → OwnS S w0 W (loopE L0 lb df ++ (M ++ X)) → K (.returned (.tuple #[])) W) →
    Calls P f (fa ++ #[.func (.yield lb) #[] #[]] ++ ca) w1 K
end Eng
end Go.Proofs.YtiklhhdohckfiaaDoor
/- Objects in memory: what a value of the type api.Object says. -/
namespace Go.Proofs.YtiklhhdohckfiaaDoor
set_option linter.unusedVariables false
set_option linter.unusedSimpArgs false
set_option linter.defProp false
open Eng Go.RowKit Go.ChangeShapes Go.WideShapes

inductive Ob where
  | mk (k n g : Int) (s : List UInt8) (keys : List (List UInt8)) (kids : List Ob)
namespace Ob
def k : Ob → Int | .mk k _ _ _ _ _ => k
def n : Ob → Int | .mk _ n _ _ _ _ => n
def g : Ob → Int | .mk _ _ g _ _ _ => g
def s : Ob → List UInt8 | .mk _ _ _ s _ _ => s
def keys : Ob → List (List UInt8) | .mk _ _ _ _ keys _ => keys
def kids : Ob → List Ob | .mk _ _ _ _ _ kids => kids
 mutual
/-- How much an object holds. -/
def wt : Ob → Nat
  | .mk _ _ _ s keys kids => 6 + s.length + Pl.tot keys + wts kids
def wts : List Ob → Nat
  | [] => 0
  | o :: os => wt o + wts os
end
end Ob
/-- A slice whose memory lies in blocks of A. -/
def SlA (A : Nat → Prop) (w : World) (v : Value) (sz n : Nat) (cs : List Value) : Prop := Sl w v sz n cs ∧ ∀ p l c, v = .slice (some p) l c → 0 < n → A p.block
 mutual
/-- The value v is the object o, its memory in blocks of A. -/
def OV (A : Nat → Prop) (w : World) : Value → Ob → Prop
  | v, .mk k n g s keys kids => ∃ vk vc cs, v = .agg #[.int .i64 k, .int .i64 n, .int .i64 g, .string ⟨s.toArray⟩, vk, vc] ∧ SlA A w vk 1 keys.length (strsV keys) ∧ SlA A w vc 6 kids.length cs ∧ OVs A w cs kids
def OVs (A : Nat → Prop) (w : World) : List Value → List Ob → Prop
  | cs, [] => cs = []
  | cs, o :: os => ∃ (a rest : List Value), cs = a ++ rest ∧ a.length = 6 ∧ OV A w (.agg a.toArray) o ∧ OVs A w rest os
end
/-- Blocks of A are as they were. -/
def Kept (A : Nat → Prop) (w w' : World) : Prop := ∀ b, A b → w'.heap[b]? = w.heap[b]?
theorem cell_kept {A : Nat → Prop} {w w' : World} (h : Kept A w w') {p : Addr} {v : Value} (hp : A p.block) (hc : w.cell? p = some v) : w'.cell? p = some v := by
  have := h p.block hp
  unfold World.cell? at hc ⊢
  rw [this]; exact hc
theorem SlA.kept {A : Nat → Prop} {w w' : World} {v : Value} {sz n : Nat} {cs : List Value} (h : SlA A w v sz n cs) (hk : Kept A w w') : SlA A w' v sz n cs := by
  obtain ⟨⟨hl, a, cap, rfl, h1, h2⟩, hA⟩ := h
  refine ⟨⟨hl, a, cap, rfl, h1, fun p hp => ?_⟩, hA⟩
  obtain ⟨h3, h4⟩ := h2 p hp
  refine ⟨h3, fun j u hj => ?_⟩
  have hn : 0 < n := by
    rcases Nat.eq_zero_or_pos n with h | h
    · subst h; rw [Nat.zero_mul] at hl
      have := (List.getElem?_eq_some_iff.1 hj).1
      omega
    · exact h
  exact cell_kept hk (hA p n cap (by rw [hp]) hn) (h4 j u hj)
 mutual
theorem OV.kept {A : Nat → Prop} {w w' : World} (hk : Kept A w w') : ∀ (o : Ob) (v : Value), OV A w v o → OV A w' v o
  | .mk k n g s keys kids, v, h => by
    rw [OV] at h ⊢
    obtain ⟨vk, vc, cs, hv, h1, h2, h3⟩ := h
    exact ⟨vk, vc, cs, hv, h1.kept hk, h2.kept hk, OVs.kept hk kids cs h3⟩
theorem OVs.kept {A : Nat → Prop} {w w' : World} (hk : Kept A w w') : ∀ (os : List Ob) (cs : List Value), OVs A w cs os → OVs A w' cs os
  | [], cs, h => by rw [OVs] at h ⊢; exact h
  | o :: os, cs, h => by
    rw [OVs] at h ⊢
    obtain ⟨a, rest, he, hl, h1, h2⟩ := h
    exact ⟨a, rest, he, hl, OV.kept hk o _ h1, OVs.kept hk os rest h2⟩
end
 mutual
theorem OV.mono {A B : Nat → Prop} {w : World} (hAB : ∀ b, A b → B b) : ∀ (o : Ob) (v : Value), OV A w v o → OV B w v o
  | .mk k n g s keys kids, v, h => by
    rw [OV] at h ⊢
    obtain ⟨vk, vc, cs, hv, h1, h2, h3⟩ := h
    exact ⟨vk, vc, cs, hv, ⟨h1.1, fun p l c e hn => hAB _ (h1.2 p l c e hn)⟩, ⟨h2.1, fun p l c e hn => hAB _ (h2.2 p l c e hn)⟩, OVs.mono hAB kids cs h3⟩
theorem OVs.mono {A B : Nat → Prop} {w : World} (hAB : ∀ b, A b → B b) : ∀ (os : List Ob) (cs : List Value), OVs A w cs os → OVs B w cs os
  | [], cs, h => by rw [OVs] at h ⊢; exact h
  | o :: os, cs, h => by
    rw [OVs] at h ⊢
    obtain ⟨a, rest, he, hl, h1, h2⟩ := h
    exact ⟨a, rest, he, hl, OV.mono hAB o _ h1, OVs.mono hAB os rest h2⟩
end
theorem OVs.len {A : Nat → Prop} {w : World} : ∀ (os : List Ob) (cs : List Value), OVs A w cs os → cs.length = os.length * 6
  | [], cs, h => by rw [OVs] at h; subst h; rfl
  | o :: os, cs, h => by
    rw [OVs] at h
    obtain ⟨a, rest, rfl, hl, _, h2⟩ := h
    rw [List.length_append, hl, OVs.len os rest h2, List.length_cons]; omega
/-- The i-th object of a row of objects. -/
theorem OVs.get {A : Nat → Prop} {w : World} : ∀ (os : List Ob) (cs : List Value) (i : Nat) (hi : i < os.length), OVs A w cs os → ∃ a : List Value, a.length = 6 ∧ OV A w (.agg a.toArray) os[i] ∧ ∀ j v, a[j]? = some v → cs[i * 6 + j]? = some v
  | [], cs, i, hi, h => by simp at hi
  | o :: os, cs, 0, hi, h => by
    rw [OVs] at h
    obtain ⟨a, rest, rfl, hl, h1, h2⟩ := h
    refine ⟨a, hl, h1, fun j v hj => ?_⟩
    rw [Nat.zero_mul, Nat.zero_add, List.getElem?_append_left (List.getElem?_eq_some_iff.1 hj).1]; exact hj
  | o :: os, cs, i + 1, hi, h => by
    rw [OVs] at h
    obtain ⟨a, rest, rfl, hl, h1, h2⟩ := h
    obtain ⟨b, hb, hv, hc⟩ := OVs.get os rest i (by simpa using hi) h2
    refine ⟨b, hb, hv, fun j v hj => ?_⟩
    rw [List.getElem?_append_right (by omega), hl, show (i + 1) * 6 + j - 6 = i * 6 + j by omega]
    exact hc j v hj
theorem OVs.nil {A : Nat → Prop} {w : World} : OVs A w [] [] := by rw [OVs]
/- OPENING -/
theorem SlA.of_cells {A : Nat → Prop} {W : World} {a : Addr} {len cap sz : Nat} {cs : List Value} (hsz : 0 < sz) (hl : cs.length = len * sz) (hc : ∀ j u, cs[j]? = some u → W.cell? (a.add j) = some u) (hA : ∀ b, b < W.heap.size → A b) : SlA A W (.slice (some a) len cap) sz len cs := by
  have plain : 0 < len → a.spot = none ∧ a.block < W.heap.size := by
    intro hn
    have h0 : 0 < cs.length := by rw [hl]; exact Nat.mul_pos hn hsz
    have h1 := hc 0 cs[0] (List.getElem?_eq_getElem h0)
    have e0 : a.add 0 = a := by simp [Addr.add]
    rw [e0] at h1
    unfold World.cell? at h1
    split at h1
    · rename_i hb
      have hlt := lt_of_get hb
      split at h1
      · cases h1
      · rename_i hh; exact ⟨by simpa using hh, hlt⟩
    · cases h1
  refine ⟨⟨hl, some a, cap, rfl, (fun h => by cases h), fun p hp => ?_⟩, fun p l c e hn => ?_⟩
  · cases hp
    refine ⟨fun h => (plain h).1, fun j u hj => ?_⟩
    have hn : 0 < len := by
      rcases Nat.eq_zero_or_pos len with h | h
      · subst h; rw [Nat.zero_mul] at hl
        have := (List.getElem?_eq_some_iff.1 hj).1
        omega
      · exact h
    have h1 := hc j u hj
    obtain ⟨b, off, spot⟩ := a
    have := (plain hn).1
    simp only at this
    subst this
    rw [show (⟨b, off, none⟩ : Addr).add j = ⟨b, off + j, none⟩ from add_none b off j] at h1
    exact h1
  · injection e with e _ _
    cases e
    exact hA _ (plain hn).2
theorem SlA.nil (A : Nat → Prop) (w : World) (sz cap : Nat) : SlA A w (.slice none 0 cap) sz 0 [] := ⟨Sl.nil w sz cap, fun p l c e _ => by injection e with e _ _; cases e⟩
end Go.Proofs.YtiklhhdohckfiaaDoor
/- An object that came in, opened. -/
namespace Go.Proofs.YtiklhhdohckfiaaDoor
set_option linter.unusedVariables false
set_option linter.unusedSimpArgs false
set_option linter.defProp false
open Eng Go.RowKit Go.ChangeShapes Go.WideShapes

theorem bulkAll_append {H : Type} : ∀ (a b : List (DataW H)), Rows.uptoBulkAll (a ++ b) = Rows.uptoBulkAll a + Rows.uptoBulkAll b
  | [], b => by simp [Rows.uptoBulkAll]
  | x :: a, b => by rw [List.cons_append, Rows.uptoBulkAll, bulkAll_append a b, Rows.uptoBulkAll]; omega
theorem bulk_strs {H : Type} : ∀ ss : List ByteArray, Rows.uptoBulkAll (strs (H := H) ss) = Pl.tot (ss.map (·.data.toList))
  | [] => by simp [strs, Rows.uptoBulkAll, Pl.tot]
  | s :: ss => by
    have := bulk_strs (H := H) ss
    rw [show strs (H := H) (s :: ss) = .lit (.string s.data.toList) :: strs ss from rfl, Rows.uptoBulkAll, this, Rows.uptoBulk]
    simp [Pl.tot]
theorem OVs.snoc {A : Nat → Prop} {w : World} {a : List Value} {o : Ob} (hl : a.length = 6) (ho : OV A w (.agg a.toArray) o) : ∀ (os : List Ob) (cs : List Value), OVs A w cs os → OVs A w (cs ++ a) (os ++ [o])
  | [], cs, h => by
    rw [OVs] at h
    subst h
    rw [List.nil_append, List.nil_append, OVs]
    exact ⟨a, [], by simp, hl, ho, OVs.nil⟩
  | p :: os, cs, h => by
    rw [OVs] at h
    obtain ⟨b, rest, rfl, hb, h1, h2⟩ := h
    rw [List.cons_append, OVs]
    exact ⟨b, rest ++ a, by simp, hb, h1, OVs.snoc hl ho os rest h2⟩
theorem wts_snoc (o : Ob) : ∀ os : List Ob, Ob.wts (os ++ [o]) = Ob.wts os + o.wt
  | [] => by simp [Ob.wts]
  | p :: os => by rw [List.cons_append, Ob.wts, wts_snoc o os, Ob.wts]; omega
theorem addr_add (a : Addr) (m n : Nat) : (a.add m).add n = a.add (m + n) := by
  unfold Addr.add
  by_cases hm : m = 0
  · subst hm; simp
  · by_cases hn : n = 0
    · subst hn; simp [hm]
    · have : ¬ (m + n = 0) := by omega
      simp [hm, hn, Nat.add_assoc]
theorem list6 {α : Type} : ∀ {l : List α}, l.length = 6 → ∃ a b c d e f, l = [a, b, c, d, e, f]
  | [a, b, c, d, e, f], _ => ⟨a, b, c, d, e, f, rfl⟩
section
variable {H : Type} {enc : TypeId × Value → H} {W : World} {sp : Nat → Bool} {held : Bool}
abbrev InW (W : World) : Nat → Prop := fun b => b < W.heap.size
theorem open_keys {fuel : Nat} {cs : List Value} {x : DataW H × List MemPlace} (h : DataW.trod enc Tryd.prog W 0 sp held fuel 22 cs = some x) :
    ∃ (v : Value) (zs : List (List UInt8)), cs = [v] ∧ SlA (InW W) W v 1 zs.length (strsV zs) ∧ Pl.tot zs + 1 ≤ Rows.uptoBulk x.1 := by
  rcases open_strings Tryd.underlying22 Tryd.underlying9 (by kernel_rfl) h with ⟨rfl, rfl⟩ | ⟨a, len, cap, ss, rfl, _, hl, hm, hz, rfl, hcell, hsz⟩
  · exact ⟨_, [], rfl, SlA.nil _ _ _ _, by simp [Pl.tot, Rows.uptoBulk]⟩
  · have hlz : len ≤ ss.length := by rw [hz]; split <;> omega
    refine ⟨_, (ss.take len).map (·.data.toList), rfl, ?_, ?_⟩
    · have hlen : ((ss.take len).map (·.data.toList)).length = len := by simp; omega
      rw [hlen]
      refine SlA.of_cells (by omega) (by simp [strsV]; omega) (fun j u hj => ?_) (fun b hb => hb)
      have hjl : j < len := by
        have := (List.getElem?_eq_some_iff.1 hj).1
        simp [strsV] at this; omega
      rw [hcell j (by omega), ← hj]
      simp [strsV, strV, List.getElem?_take, hjl, List.getD, List.getElem?_eq_getElem (show j < ss.length by omega)]
    · simp only [Rows.uptoBulk]
      rw [bulk_strs]; omega
set_option maxRecDepth 100000 in
theorem open_obj : ∀ (fuel : Nat) (cs : List Value) (x : DataW H × List MemPlace), DataW.trod enc Tryd.prog W 0 sp held fuel 25 cs = some x →
    ∃ o : Ob, OV (InW W) W (.agg cs.toArray) o ∧ o.wt ≤ Rows.uptoBulk x.1 ∧ cs.length = 6 := by
  intro fuel
  induction fuel using Nat.strongRecOn with
  | _ fuel ih =>
    intro cs x h
    obtain ⟨xs, n, rfl, rfl, hl, hxl, hf⟩ := DataW.trod_struct Tryd.underlying25 h
    have c6 : Tryd.prog.cellsOf 25 = 6 := by kernel_rfl
    rw [c6] at hl
    have hxl : xs.length = 6 := hxl
    obtain ⟨x0, x1, x2, x3, x4, x5, rfl⟩ := list6 hxl
    obtain ⟨v0, v1, v2, v3, v4, v5, rfl⟩ := list6 hl
    have e0 := hf 0 _ rfl
    have e1 := hf 1 _ rfl
    have e2 := hf 2 _ rfl
    have e3 := hf 3 _ rfl
    have e4 := hf 4 _ rfl
    have e5 := hf 5 _ rfl
    have k0 : Tryd.prog.cellsOf 3 = 1 := by kernel_rfl
    have k1 : Tryd.prog.cellsOf 2 = 1 := by kernel_rfl
    have k3 : Tryd.prog.cellsOf 9 = 1 := by kernel_rfl
    have k4 : Tryd.prog.cellsOf 22 = 1 := by kernel_rfl
    have k5 : Tryd.prog.cellsOf 23 = 1 := by kernel_rfl
    simp only [k0, k1, k3, k4, k5, List.drop_zero, List.drop_succ_cons, List.take_succ_cons, List.take_zero, List.getElem?_cons_zero, List.getElem?_cons_succ] at e0 e1 e2 e3 e4 e5
    obtain ⟨k, hk, rfl, _⟩ := DataW.trod_int Tryd.underlying3 e0
    obtain ⟨m, hm, rfl, _⟩ := DataW.trod_int Tryd.underlying2 e1
    obtain ⟨g, hg, rfl, _⟩ := DataW.trod_int Tryd.underlying3 e2
    obtain ⟨s, hs, rfl, _⟩ := DataW.trod_string Tryd.underlying9 e3
    obtain ⟨vk, zs, hvk, hsk, hbk⟩ := open_keys e4
    injection hk with hk _
    injection hm with hm _
    injection hg with hg _
    injection hs with hs _
    injection hvk with hvk _
    subst hk; subst hm; subst hg; subst hs; subst hvk
    have kids : ∃ (cs : List Value) (os : List Ob), SlA (InW W) W v5 6 os.length cs ∧ OVs (InW W) W cs os ∧ Ob.wts os + 1 ≤ Rows.uptoBulk x5.1 := by
      rcases DataW.trod_slice Tryd.underlying23 e5 with ⟨hc, rfl⟩ | ⟨a, len, cap, elems, rest, n', rfl, hc, rfl, _, hlc, hcm, hel, hat, _, _⟩
      · injection hc with hc _
        subst hc
        exact ⟨[], [], SlA.nil _ _ _ _, OVs.nil, by simp [Ob.wts, Rows.uptoBulk]⟩
      · injection hc with hc _
        subst hc
        rw [c6] at hat
        have step : ∀ k, k ≤ len → ∃ (cs : List Value) (os : List Ob), os.length = k ∧ OVs (InW W) W cs os ∧ (∀ j u, cs[j]? = some u → W.cell? (a.add j) = some u) ∧ Ob.wts os ≤ Rows.uptoBulkAll ((elems.take k).map (·.1)) := by
          intro k
          induction k with
          | zero => intro _; exact ⟨[], [], rfl, OVs.nil, (fun j u hj => by simp at hj), by simp [Ob.wts, Rows.uptoBulkAll]⟩
          | succ k ihk =>
            intro hk
            obtain ⟨cs, os, h1, h2, h3, h4⟩ := ihk (by omega)
            have hki : k < elems.length := by omega
            have hb := hat k (by omega)
            rw [List.getElem?_eq_getElem hki, Option.bind_eq_some_iff] at hb
            obtain ⟨ck, hck, htr⟩ := hb
            obtain ⟨o, ho, hw, hlo⟩ := ih n' (by omega) ck _ htr
            have hcsl := OVs.len os cs h2
            refine ⟨cs ++ ck, os ++ [o], by simp [h1], OVs.snoc hlo ho os cs h2, fun j u hj => ?_, ?_⟩
            · rcases Nat.lt_or_ge j cs.length with hj1 | hj1
              · rw [List.getElem?_append_left hj1] at hj; exact h3 j u hj
              · rw [List.getElem?_append_right hj1] at hj
                have hj6 : j - cs.length < 6 := by
                  have := (List.getElem?_eq_some_iff.1 hj).1
                  omega
                have := (World.cells?_some hck).2.2 (j - cs.length) hj6
                rw [← hj, ← this, addr_add, show k * 6 + (j - cs.length) = j by omega]
            · rw [wts_snoc, List.take_succ_eq_append_getElem hki, List.map_append, bulkAll_append]
              simp only [List.map_cons, List.map_nil, Rows.uptoBulkAll]
              omega
        obtain ⟨cs, os, h1, h2, h3, h4⟩ := step len (Nat.le_refl _)
        have hcsl := OVs.len os cs h2
        refine ⟨cs, os, ?_, h2, ?_⟩
        · rw [h1]
          exact SlA.of_cells (by omega) (by rw [hcsl, h1]) h3 (fun b hb => hb)
        · rw [← hel, List.take_length] at h4
          simp only [Rows.uptoBulk]
          omega
    obtain ⟨cs, os, hsl, hov, hbo⟩ := kids
    refine ⟨.mk k m g s.data.toList zs os, ?_, ?_, rfl⟩
    · rw [OV]
      exact ⟨_, _, cs, rfl, hsk, hsl, hov⟩
    · simp only [Ob.wt, Rows.uptoBulk, List.map_cons, List.map_nil, Rows.uptoBulkAll]
      omega
end
end Go.Proofs.YtiklhhdohckfiaaDoor
/- Slices of anything that came in, opened, given how one element is opened. -/
namespace Go.Proofs.YtiklhhdohckfiaaDoor
set_option linter.unusedVariables false
set_option linter.unusedSimpArgs false
set_option linter.defProp false
open Eng Go.RowKit Go.ChangeShapes Go.WideShapes

/-- The cells of a row of things. -/
inductive Rws {α : Type} (R : List Value → α → Prop) : List Value → List α → Prop
  | nil : Rws R [] []
  | cons {a rest : List Value} {x : α} {xs : List α} : R a x → Rws R rest xs → Rws R (a ++ rest) (x :: xs)
section
variable {α : Type} {R R' : List Value → α → Prop}
theorem Rws.snoc {a : List Value} {x : α} (hx : R a x) : ∀ {cs : List Value} {xs : List α}, Rws R cs xs → Rws R (cs ++ a) (xs ++ [x])
  | _, _, .nil => by
    have := Rws.cons hx (Rws.nil (R := R))
    simpa using this
  | _, _, .cons h t => by
    rw [List.append_assoc, List.cons_append]
    exact .cons h (Rws.snoc hx t)
theorem Rws.len {n : Nat} (hn : ∀ a x, R a x → a.length = n) : ∀ {cs : List Value} {xs : List α}, Rws R cs xs → cs.length = xs.length * n
  | _, _, .nil => by simp
  | _, _, .cons h t => by
    rw [List.length_append, hn _ _ h, Rws.len hn t, List.length_cons, Nat.add_mul]; omega
theorem Rws.mono (h : ∀ a x, R a x → R' a x) : ∀ {cs : List Value} {xs : List α}, Rws R cs xs → Rws R' cs xs
  | _, _, .nil => .nil
  | _, _, .cons hx t => .cons (h _ _ hx) (Rws.mono h t)
theorem Rws.all {p : α → Prop} (h : ∀ a x, R a x → p x) : ∀ {cs : List Value} {xs : List α}, Rws R cs xs → ∀ x ∈ xs, p x
  | _, _, .nil => by simp
  | _, _, .cons hx t => by
    intro y hy
    rcases List.mem_cons.1 hy with rfl | hy
    · exact h _ _ hx
    · exact Rws.all h t y hy
theorem Rws.get {n : Nat} (hn : ∀ a x, R a x → a.length = n) : ∀ {cs : List Value} {xs : List α} (i : Nat) (hi : i < xs.length), Rws R cs xs → ∃ a, R a xs[i] ∧ ∀ j v, a[j]? = some v → cs[i * n + j]? = some v
  | _, _, i, hi, .nil => by simp at hi
  | _, _, 0, _, .cons (a := a) (rest := rest) hx t => ⟨a, hx, fun j v hj => by
    rw [Nat.zero_mul, Nat.zero_add, List.getElem?_append_left (List.getElem?_eq_some_iff.1 hj).1]; exact hj⟩
  | _, _, i + 1, hi, .cons (a := a) (rest := rest) hx t => by
    obtain ⟨b, hb, hc⟩ := Rws.get hn i (by simpa using hi) t
    have hl := hn _ _ hx
    refine ⟨b, hb, fun j v hj => ?_⟩
    have e : (i + 1) * n + j = a.length + (i * n + j) := by rw [hl, Nat.add_mul]; omega
    rw [e, List.getElem?_append_right (by omega), show a.length + (i * n + j) - a.length = i * n + j by omega]
    exact hc j v hj
end
section
variable {H : Type} {enc : TypeId × Value → H} {W : World} {sp : Nat → Bool} {held : Bool}
end
end Go.Proofs.YtiklhhdohckfiaaDoor
/- The engine's rules for rows that are written to: append, store. -/
namespace Go.Proofs.YtiklhhdohckfiaaDoor
set_option linter.unusedVariables false
set_option linter.unusedSimpArgs false
set_option linter.defProp false
set_option linter.unusedSimpArgs false
set_option linter.unusedVariables false
namespace Eng
open Go.RowKit

/-- A slice of n elements of type T (sz cells each) that reads xs, and may be appended and written to. -/
def Ent.urow (T : TypeId) (sz : Nat) (v : Value) (n : Nat) (xs : List Value) : Ent :=
  ⟨fun k => v.ownBlock = some k, fun w => w.ownsRow 0 T sz v n xs, fun {w w'} h k => by
    refine ⟨h.1, ?_⟩
    rcases h.2 with hn | ⟨g, cap, cur, rfl, hb, hgg, rest⟩
    · exact .inl hn
    · exact .inr ⟨g, cap, cur, rfl, hb, (k g rfl).trans hgg, rest⟩, fun h k hk => (World.ownsRowF.lt (World.ownsRowF_of h) k hk).2⟩
section
variable {S : Nat → Prop} {P : Program} {w : World} {PK : List PanicEntry → World → Prop} {K : Value → World → Prop}
theorem urow_row {T : TypeId} {sz : Nat} {v : Value} {n : Nat} {xs : List Value} (h : (Ent.urow T sz v n xs).is w) : (Ent.row T sz v n xs).is w := World.ownsRowF_of h
theorem Sl.urow {T : TypeId} {sz : Nat} {v : Value} {n : Nat} {xs : List Value} (h : (Ent.urow T sz v n xs).is w) : Sl w v sz n xs := Sl.row (urow_row h)
/-- A row that is no more written to. -/
theorem OwnS.settle {w0 : World} {L : List Ent} (ho : OwnS S w0 w L) (i : Nat) {T : TypeId} {sz : Nat} {v : Value} {n : Nat} {xs : List Value} (hi : L[i]? = some (.urow T sz v n xs)) : OwnS S w0 w (L.set i (.row T sz v n xs)) :=
  ho.turn i hi ⟨Grew.refl _ _, urow_row (ho.at_ i hi), fun _ hk => .inl hk⟩
end
end Eng
end Go.Proofs.YtiklhhdohckfiaaDoor
/- Objects that are read: a boxed object, its fields, its kids; plain words of layer 5 (Check). -/
namespace Go.Proofs.YtiklhhdohckfiaaDoor
set_option linter.unusedVariables false
set_option linter.unusedSimpArgs false
set_option linter.defProp false
open Eng Go.RowKit

def obC (o : Ob) (vk vc : Value) : List Value := [.int .i64 o.k, .int .i64 o.n, .int .i64 o.g, .string ⟨o.s.toArray⟩, vk, vc]
def obV (o : Ob) (vk vc : Value) : Value := .agg (obC o vk vc).toArray
def obE (b : Nat) (o : Ob) (vk vc : Value) : Ent := .cells b (obC o vk vc) 25
/-- The slices of an object. -/
structure ObAt (A : Nat → Prop) (w : World) (o : Ob) (vk vc : Value) (cs : List Value) : Prop where
  keys : SlA A w vk 1 o.keys.length (strsV o.keys)
  kids : SlA A w vc 6 o.kids.length cs
  all : OVs A w cs o.kids
theorem OV.open {A : Nat → Prop} {w : World} {v : Value} {o : Ob} (h : OV A w v o) : ∃ vk vc cs, v = obV o vk vc ∧ ObAt A w o vk vc cs := by
  cases o with
  | mk k n g s keys kids =>
    rw [OV] at h
    obtain ⟨vk, vc, cs, rfl, h1, h2, h3⟩ := h
    exact ⟨vk, vc, cs, rfl, h1, h2, h3⟩
theorem ObAt.ov {A : Nat → Prop} {w : World} {o : Ob} {vk vc : Value} {cs : List Value} (h : ObAt A w o vk vc cs) : OV A w (obV o vk vc) o := by
  cases o with
  | mk k n g s keys kids =>
    rw [OV]
    exact ⟨vk, vc, cs, rfl, h.keys, h.kids, h.all⟩
theorem ObAt.kept {A : Nat → Prop} {w w' : World} {o : Ob} {vk vc : Value} {cs : List Value} (h : ObAt A w o vk vc cs) (hk : Kept A w w') : ObAt A w' o vk vc cs :=
  ⟨h.keys.kept hk, h.kids.kept hk, OVs.kept hk _ _ h.all⟩
theorem kept_below {A : Nat → Prop} {w w' : World} (hA : ∀ b, A b → b < w.heap.size) (h : Below w.heap.size w w') : Kept A w w' := fun b hb => h.block b (hA b hb)
theorem OwnS.keptIn {w0 w : World} {L : List Ent} (h : Own w0 w L) : Kept (InW w0) w0 w := kept_below (fun _ h => h) h.done
theorem OV.own {w0 w : World} {L : List Ent} {v : Value} {o : Ob} (h : OV (InW w0) w0 v o) (ho : Own w0 w L) : OV (InW w0) w v o := OV.kept (OwnS.keptIn ho) o v h
theorem OV.at_ {w0 w : World} {L : List Ent} {v : Value} {o : Ob} (h : OV (InW w0) w0 v o) (ho : Own w0 w L) : OV (InW w) w v o := OV.mono (fun _ hb => Nat.lt_of_lt_of_le hb ho.size) o v (h.own ho)
theorem ObAt.own {w0 w : World} {L : List Ent} {o : Ob} {vk vc : Value} {cs : List Value} (h : ObAt (InW w0) w0 o vk vc cs) (ho : Own w0 w L) : ObAt (InW w0) w o vk vc cs := h.kept (OwnS.keptIn ho)
theorem SlA.one {A : Nat → Prop} {w : World} {v : Value} {sz n : Nat} {cs : List Value} (h : SlA A w v sz n cs) : v.oneCell' = true := by
  obtain ⟨⟨_, a, cap, rfl, _⟩, _⟩ := h
  rfl
theorem aggOb : aggN Tryd.prog 25 = some 6 := by kernel_rfl
theorem szOb : (Tryd.prog.info? 25).map (·.size) = some 6 := by kernel_rfl
theorem nSlOb : notAgg Tryd.prog 23 = true := by kernel_rfl
theorem nSlS5 : notAgg Tryd.prog 22 = true := by kernel_rfl
theorem nI65 : notAgg Tryd.prog 2 = true := by kernel_rfl
theorem nInt5 : notAgg Tryd.prog 3 = true := by kernel_rfl
theorem nStr5 : notAgg Tryd.prog 9 = true := by kernel_rfl
theorem fo_o0 : fOff Tryd.prog 25 0 = some 0 := by kernel_rfl
theorem fo_o1 : fOff Tryd.prog 25 1 = some 1 := by kernel_rfl
theorem fo_o2 : fOff Tryd.prog 25 2 = some 2 := by kernel_rfl
theorem fo_o3 : fOff Tryd.prog 25 3 = some 3 := by kernel_rfl
theorem fo_o4 : fOff Tryd.prog 25 4 = some 4 := by kernel_rfl
theorem fo_o5 : fOff Tryd.prog 25 5 = some 5 := by kernel_rfl
section
variable {w : World} {PK : List PanicEntry → World → Prop} {K : Value → World → Prop} {S : Nat → Prop} {w0 : World} {L : List Ent}
theorem fa_o0 {b off : Nat} : DoX Tryd.prog (mFA 25 (.pointer (some ⟨b, off, none⟩)) 0) w PK K = K (.pointer (some ⟨b, off, none⟩)) w := f_addr fo_o0
theorem fa_o1 {b off : Nat} : DoX Tryd.prog (mFA 25 (.pointer (some ⟨b, off, none⟩)) 1) w PK K = K (.pointer (some ⟨b, off + 1, none⟩)) w := f_addr fo_o1
theorem fa_o2 {b off : Nat} : DoX Tryd.prog (mFA 25 (.pointer (some ⟨b, off, none⟩)) 2) w PK K = K (.pointer (some ⟨b, off + 2, none⟩)) w := f_addr fo_o2
theorem fa_o3 {b off : Nat} : DoX Tryd.prog (mFA 25 (.pointer (some ⟨b, off, none⟩)) 3) w PK K = K (.pointer (some ⟨b, off + 3, none⟩)) w := f_addr fo_o3
theorem fa_o4 {b off : Nat} : DoX Tryd.prog (mFA 25 (.pointer (some ⟨b, off, none⟩)) 4) w PK K = K (.pointer (some ⟨b, off + 4, none⟩)) w := f_addr fo_o4
theorem fa_o5 {b off : Nat} : DoX Tryd.prog (mFA 25 (.pointer (some ⟨b, off, none⟩)) 5) w PK K = K (.pointer (some ⟨b, off + 5, none⟩)) w := f_addr fo_o5
theorem o_obb (o : Ob) {vk vc : Value} (hk : vk.oneCell' = true) (hc : vc.oneCell' = true) (ho : OwnS S w0 w L) (k : ∀ b w', OwnS S w0 w' (obE b o vk vc :: L) → K (.pointer (some ⟨b, 0, none⟩)) w') : DoX Tryd.prog (mBox 25 (obV o vk vc)) w PK K := by
  cases vk <;> first | (cases hk; done) | skip
  all_goals cases vc <;> first | (cases hc; done) | exact o_new (fun b => .pointer (some ⟨b, 0, none⟩)) (obC o _ _) 25 (fun _ => by kernel_rfl) ho k
def ob0 : Ob := .mk 0 0 0 [] [] []
theorem o_oba (ho : OwnS S w0 w L) (k : ∀ b w', OwnS S w0 w' (obE b ob0 (.slice none 0 0) (.slice none 0 0) :: L) → K (.pointer (some ⟨b, 0, none⟩)) w') : DoX Tryd.prog (mAlloc 25) w PK K :=
  o_new (fun b => .pointer (some ⟨b, 0, none⟩)) (obC ob0 (.slice none 0 0) (.slice none 0 0)) 25 (fun _ => by kernel_rfl) ho k
theorem obC_one (o : Ob) {vk vc : Value} (hk : vk.oneCell' = true) (hc : vc.oneCell' = true) : ∀ v ∈ obC o vk vc, v.oneCell' = true := by
  intro v hv
  simp only [obC, List.mem_cons, List.not_mem_nil, or_false] at hv
  rcases hv with rfl | rfl | rfl | rfl | rfl | rfl <;> first | rfl | assumption
theorem ob_put (i : Nat) {b : Nat} {o o' : Ob} {vk vc vk' vc' : Value} (hk : vk'.oneCell' = true) (hc : vc'.oneCell' = true) (ho : OwnS S w0 w L) (hi : L[i]? = some (obE b o vk vc)) (k : ∀ w', OwnS S w0 w' (L.set i (obE b o' vk' vc')) → K undef w') :
    DoX Tryd.prog (mStore 25 (.pointer (some ⟨b, 0, none⟩)) (obV o' vk' vc')) w PK K := o_put i ho hi (new := obC o' vk' vc') szOb (obC_one o' hk hc) rfl k
theorem ob_k (ho : OwnS S w0 w L) (i : Nat) {b : Nat} {o : Ob} {vk vc : Value} (hi : L[i]? = some (obE b o vk vc)) : DoX Tryd.prog (mLoad 3 (.pointer (some ⟨b, 0, none⟩))) w PK K = K (.int .i64 o.k) w := l_cell nInt5 (ho.cell i hi 0 rfl)
theorem ob_n (ho : OwnS S w0 w L) (i : Nat) {b : Nat} {o : Ob} {vk vc : Value} (hi : L[i]? = some (obE b o vk vc)) : DoX Tryd.prog (mLoad 2 (.pointer (some ⟨b, 0 + 1, none⟩))) w PK K = K (.int .i64 o.n) w := l_cell nI65 (ho.cell i hi 1 rfl)
theorem ob_g (ho : OwnS S w0 w L) (i : Nat) {b : Nat} {o : Ob} {vk vc : Value} (hi : L[i]? = some (obE b o vk vc)) : DoX Tryd.prog (mLoad 3 (.pointer (some ⟨b, 0 + 2, none⟩))) w PK K = K (.int .i64 o.g) w := l_cell nInt5 (ho.cell i hi 2 rfl)
theorem ob_s (ho : OwnS S w0 w L) (i : Nat) {b : Nat} {o : Ob} {vk vc : Value} (hi : L[i]? = some (obE b o vk vc)) : DoX Tryd.prog (mLoad 9 (.pointer (some ⟨b, 0 + 3, none⟩))) w PK K = K (.string ⟨o.s.toArray⟩) w := l_cell nStr5 (ho.cell i hi 3 rfl)
theorem ob_keys (ho : OwnS S w0 w L) (i : Nat) {b : Nat} {o : Ob} {vk vc : Value} (hi : L[i]? = some (obE b o vk vc)) : DoX Tryd.prog (mLoad 22 (.pointer (some ⟨b, 0 + 4, none⟩))) w PK K = K vk w := l_cell nSlS5 (ho.cell i hi 4 rfl)
theorem ob_kids (ho : OwnS S w0 w L) (i : Nat) {b : Nat} {o : Ob} {vk vc : Value} (hi : L[i]? = some (obE b o vk vc)) : DoX Tryd.prog (mLoad 23 (.pointer (some ⟨b, 0 + 5, none⟩))) w PK K = K vc w := l_cell nSlOb (ho.cell i hi 5 rfl)
theorem ob_v (ho : OwnS S w0 w L) (i : Nat) {b : Nat} {o : Ob} {vk vc : Value} (hi : L[i]? = some (obE b o vk vc)) : DoX Tryd.prog (mLoad 25 (.pointer (some ⟨b, 0, none⟩))) w PK K = K (obV o vk vc) w := l_at (ho.agg i hi aggOb)
/-- A kid is read. -/
theorem ob_ia {A : Nat → Prop} {vc : Value} {os : List Ob} {cs : List Value} {K : Value → World → Prop} {PK2 : List PanicEntry → World → Prop} (hs : Sl w vc 6 os.length cs) (hall : OVs A w cs os) {i : Nat} (hi : i < os.length)
    (k : ∀ v, OV A w v os[i] → K v w) : DoX Tryd.prog (mIA 23 vc (.int .i64 (i : Int))) w PK fun t w => DoX Tryd.prog (mLoad 25 t) w PK2 K := by
  obtain ⟨b, off, cap, rfl, hc⟩ := sl_open hs (by omega)
  refine do_eq (run_ia Tryd.underlying23 szOb (by omega) (by omega)) |>.mpr ?_
  rw [Int.toNat_natCast]
  obtain ⟨a, hl, hov, hget⟩ := OVs.get os cs i hi hall
  refine do_eq (run_load_at (v := .agg a.toArray) (AtV.agg aggOb hl fun j v hj => ?_)) |>.mpr (k _ hov)
  rw [Nat.add_assoc]
  exact hc _ _ (hget j v hj)
end
end Go.Proofs.YtiklhhdohckfiaaDoor
/- Plain mathematics of layer 5: when an object is valid; its size; no program in sight. -/
namespace Go.Proofs.YtiklhhdohckfiaaDoor
set_option linter.unusedVariables false
set_option linter.unusedSimpArgs false
set_option linter.defProp false
open Go
namespace Vl
/-- The fields that a kind uses: N, G, S, keys, kids. -/
def used (k : Int) : Option (Bool × Bool × Bool × Bool × Bool) :=
  if k = 0 then some (false, false, false, false, false)
  else if k = 1 ∨ k = 2 ∨ k = 3 then some (true, false, false, false, false)
  else if k = 4 ∨ k = 5 then some (false, false, true, false, false)
  else if k = 6 then some (false, false, false, false, true)
  else if k = 7 then some (false, false, false, true, true)
  else if k = 8 then some (true, true, false, false, false)
  else if k = 9 then some (false, false, true, true, true)
  else none
def usesOk (o : Ob) : Bool :=
  match used o.k with
  | none => false
  | some (n, g, s, ks, cs) => (n || decide (o.n = 0)) && (g || decide (o.g = 0)) && (s || decide (o.s = [])) && (ks || decide (o.keys = [])) && (cs || decide (o.kids.length = 0))
def fits (o : Ob) : Bool :=
  if o.k = 1 then decide (0 ≤ o.n ∧ o.n ≤ 1)
  else if o.k = 2 then decide (-2147483647 ≤ o.n ∧ o.n ≤ 2147483647)
  else if o.k = 3 then decide (-1073741824 ≤ o.n ∧ o.n ≤ 1073741824)
  else if o.k = 8 then decide (1 ≤ o.n ∧ o.n ≤ 8191) && decide (0 ≤ o.g ∧ o.g ≤ 65535)
  else true
def long (k : Int) : Nat := if k = 5 then 127 else if k = 9 then 1048576 else 32767
def name (s : List UInt8) : Bool := decide (s.length ≤ 127) && decide ((0 : UInt8) ∉ s)
def lenK : List UInt8 := [76, 101, 110, 103, 116, 104]
/-- Byte order of strings. -/
abbrev less (a b : List UInt8) : Bool := Op.bytesLess a b
def keyAt (o : Ob) (i : Nat) : Bool :=
  name (o.keys.getD i []) && (decide (i = 0) || less (o.keys.getD (i - 1) []) (o.keys.getD i [])) && !(decide (o.k = 9) && decide (o.keys.getD i [] = lenK)) && decide ((o.kids.getD i (.mk 0 0 0 [] [] [])).k ≠ 0)
def rising (o : Ob) : Bool := decide (o.keys.length = o.kids.length) && (List.range o.keys.length).all (keyAt o)
def form (o : Ob) : Bool := (!(decide (o.k = 5)) || name o.s) && (!(decide (o.k = 7 ∨ o.k = 9)) || rising o)
/-- The first reason why the object itself is no valid one, at a depth. -/
def why (d : Nat) (o : Ob) : Int :=
  if 24 < d then 7
  else if usesOk o = false ∨ (o.k = 9 ∧ 1 < d) then 10
  else if fits o = false then 2
  else if long o.k < o.s.length then 5
  else if 8191 < o.kids.length then 6
  else if form o = false then 3
  else 0
 mutual
def check (d : Nat) : Ob → Int
  | .mk k n g s keys kids => if why d (.mk k n g s keys kids) ≠ 0 then why d (.mk k n g s keys kids) else checks (d + 1) kids
def checks (d : Nat) : List Ob → Int
  | [] => 0
  | o :: os => if check d o ≠ 0 then check d o else checks d os
end
theorem check_eq (d : Nat) (o : Ob) : check d o = if why d o ≠ 0 then why d o else checks (d + 1) o.kids := by cases o; rw [check]; rfl
 mutual
/-- How many objects, and a fiftieth of the bytes. -/
def size : Ob → Nat
  | .mk _ _ _ s keys kids => 1 + s.length / 50 + (keys.map fun k => k.length / 50).sum + sizes kids
def sizes : List Ob → Nat
  | [] => 0
  | o :: os => size o + sizes os
end
theorem size_eq (o : Ob) : size o = 1 + o.s.length / 50 + (o.keys.map fun k => k.length / 50).sum + sizes o.kids := by cases o; rw [size]; rfl
theorem tot50 (l : List (List UInt8)) : (l.map fun k => k.length / 50).sum ≤ Pl.tot l := by
  induction l with
  | nil => simp
  | cons a l ih => simp only [Pl.tot, List.map_cons, List.sum_cons] at ih ⊢; omega
 mutual
theorem size_wt : ∀ o : Ob, size o ≤ o.wt
  | .mk k n g s keys kids => by
    have := sizes_wt kids
    have := tot50 keys
    rw [size, Ob.wt]; omega
theorem sizes_wt : ∀ os : List Ob, sizes os ≤ Ob.wts os
  | [] => by rw [sizes, Ob.wts]; omega
  | o :: os => by
    have := size_wt o
    have := sizes_wt os
    rw [sizes, Ob.wts]; omega
end
end Vl
end Go.Proofs.YtiklhhdohckfiaaDoor
/- Code in continuation form, by program (gen.py): 17 functions. -/
namespace Go.Proofs.YtiklhhdohckfiaaDoor
set_option linter.unusedVariables false
set_option linter.unusedSimpArgs false
set_option linter.defProp false
set_option linter.unusedVariables false
set_option maxRecDepth 20000
open Eng

/- foliantref05.Size -/
def S_foliantref05_Size_1 (t3 t27 t28 t29 : Value) (w : World) (N2 : List Value → World → Prop) (K : Ending → World → Prop) : Prop :=
 DoX Tryd.prog (mBin .lss 3 t29 t28) w (pk K) fun t30 w =>
 IfX t30 (DoX Tryd.prog (mIA 23 t27 t29) w (pk K) fun t31 w =>
 DoX Tryd.prog (mLoad 25 t31) w (pk K) fun t32 w =>
 DoX Tryd.prog (mAlloc 25) w (pk K) fun t7 w =>
 DoX Tryd.prog (mStore 25 t7 t32) w (pk K) fun _ w =>
 DoX Tryd.prog (mLoad 25 t7) w (pk K) fun t34 w =>
 CallX Tryd.prog 4 #[t34] w (pk K) fun t35 w =>
 DoX Tryd.prog (mBin .add 3 t3 t35) w (pk K) fun t36 w =>
 DoX Tryd.prog (mBin .add 3 t29 (.int .i64 1)) w (pk K) fun t37 w =>
 N2 [t36, t37] w) (K (.returned t3) w)
def S_foliantref05_Size_0 (t1 t3 t14 t15 t16 : Value) (w : World) (N1 : List Value → World → Prop) (K : Ending → World → Prop) : Prop :=
 DoX Tryd.prog (mBin .lss 3 t16 t15) w (pk K) fun t17 w =>
 IfX t17 (DoX Tryd.prog (mIA 22 t14 t16) w (pk K) fun t18 w =>
 DoX Tryd.prog (mLoad 9 t18) w (pk K) fun t19 w =>
 DoX Tryd.prog (mB .len #[9] 3 #[false] #[t19]) w (pk K) fun t22 w =>
 DoX Tryd.prog (mBin .quo 3 t22 (.int .i64 50)) w (pk K) fun t23 w =>
 DoX Tryd.prog (mBin .add 3 t3 t23) w (pk K) fun t24 w =>
 DoX Tryd.prog (mBin .add 3 t16 (.int .i64 1)) w (pk K) fun t25 w =>
 N1 [t24, t25] w) (DoX Tryd.prog (mFA 25 t1 5) w (pk K) fun t26 w =>
 DoX Tryd.prog (mLoad 23 t26) w (pk K) fun t27 w =>
 DoX Tryd.prog (mB .len #[23] 3 #[false] #[t27]) w (pk K) fun t28 w =>
 LoopX [t3, (.int .i64 0)] w (fun vs2 w N2 => ∀ _ : Sg, S_foliantref05_Size_1 (vs2.getD 0 undef) t27 t28 (vs2.getD 1 undef) w N2 K))
def S_foliantref05_Size (t0 : Value) (w : World) (K : Ending → World → Prop) : Prop :=
 DoX Tryd.prog (mBox 25 t0) w (pk K) fun t1 w =>
 DoX Tryd.prog (mFA 25 t1 3) w (pk K) fun t8 w =>
 DoX Tryd.prog (mLoad 9 t8) w (pk K) fun t9 w =>
 DoX Tryd.prog (mB .len #[9] 3 #[false] #[t9]) w (pk K) fun t10 w =>
 DoX Tryd.prog (mBin .quo 3 t10 (.int .i64 50)) w (pk K) fun t11 w =>
 DoX Tryd.prog (mBin .add 3 (.int .i64 1) t11) w (pk K) fun t12 w =>
 DoX Tryd.prog (mFA 25 t1 4) w (pk K) fun t13 w =>
 DoX Tryd.prog (mLoad 22 t13) w (pk K) fun t14 w =>
 DoX Tryd.prog (mB .len #[22] 3 #[false] #[t14]) w (pk K) fun t15 w =>
 LoopX [t12, (.int .i64 0)] w (fun vs1 w N1 => ∀ _ : Sg, S_foliantref05_Size_0 t1 (vs1.getD 0 undef) t14 t15 (vs1.getD 1 undef) w N1 K)
theorem S_foliantref05_Size_eq (t0 : Value) (w : World) (K : Ending → World → Prop) : wpX Tryd.prog 39 [] [(3, [3, 16]), (8, [3, 29])] none (bodyOf Tryd.f4) (topQ Tryd.prog [.tmp 2] K) (startX [t0]) [] w = S_foliantref05_Size t0 w K := by kernel_rfl
theorem S_foliantref05_Size_ok {t0 : Value} {w : World} {K : Ending → World → Prop} (h : S_foliantref05_Size t0 w K) : Calls Tryd.prog 4 #[t0] w K :=
  calls_of_wpX Tryd.func4 rfl rfl rfl rfl (Eq.mpr (S_foliantref05_Size_eq t0 w K) h)

/- foliantref05.Array -/
def S_foliantref05_Array (t0 : Value) (w : World) (K : Ending → World → Prop) : Prop :=
 DoX Tryd.prog (mAlloc 25) w (pk K) fun t2 w =>
 DoX Tryd.prog (mBuild 25 #[(0, (.int .i64 6)), (5, t0)]) w (pk K) fun t4 w =>
 DoX Tryd.prog (mStore 25 t2 t4) w (pk K) fun _ w =>
 RetX Tryd.prog [.cell t2 25] w K
theorem S_foliantref05_Array_eq (t0 : Value) (w : World) (K : Ending → World → Prop) : wpX Tryd.prog 5 [] [] none (bodyOf Tryd.f8) (topQ Tryd.prog [.cell 2 25] K) (startX [t0]) [] w = S_foliantref05_Array t0 w K := by kernel_rfl
theorem S_foliantref05_Array_ok {t0 : Value} {w : World} {K : Ending → World → Prop} (h : S_foliantref05_Array t0 w K) : Calls Tryd.prog 8 #[t0] w K :=
  calls_of_wpX Tryd.func8 rfl rfl rfl rfl (Eq.mpr (S_foliantref05_Array_eq t0 w K) h)

/- foliantref05.Key -/
def S_foliantref05_Key (t0 : Value) (w : World) (K : Ending → World → Prop) : Prop :=
 DoX Tryd.prog (mAlloc 25) w (pk K) fun t2 w =>
 DoX Tryd.prog (mBuild 25 #[(0, (.int .i64 5)), (3, t0)]) w (pk K) fun t4 w =>
 DoX Tryd.prog (mStore 25 t2 t4) w (pk K) fun _ w =>
 RetX Tryd.prog [.cell t2 25] w K
theorem S_foliantref05_Key_eq (t0 : Value) (w : World) (K : Ending → World → Prop) : wpX Tryd.prog 5 [] [] none (bodyOf Tryd.f9) (topQ Tryd.prog [.cell 2 25] K) (startX [t0]) [] w = S_foliantref05_Key t0 w K := by kernel_rfl
theorem S_foliantref05_Key_ok {t0 : Value} {w : World} {K : Ending → World → Prop} (h : S_foliantref05_Key t0 w K) : Calls Tryd.prog 9 #[t0] w K :=
  calls_of_wpX Tryd.func9 rfl rfl rfl rfl (Eq.mpr (S_foliantref05_Key_eq t0 w K) h)

/- foliantref05.Text -/
def S_foliantref05_Text (t0 : Value) (w : World) (K : Ending → World → Prop) : Prop :=
 DoX Tryd.prog (mAlloc 25) w (pk K) fun t2 w =>
 DoX Tryd.prog (mBuild 25 #[(0, (.int .i64 4)), (3, t0)]) w (pk K) fun t4 w =>
 DoX Tryd.prog (mStore 25 t2 t4) w (pk K) fun _ w =>
 RetX Tryd.prog [.cell t2 25] w K
theorem S_foliantref05_Text_eq (t0 : Value) (w : World) (K : Ending → World → Prop) : wpX Tryd.prog 5 [] [] none (bodyOf Tryd.f10) (topQ Tryd.prog [.cell 2 25] K) (startX [t0]) [] w = S_foliantref05_Text t0 w K := by kernel_rfl
theorem S_foliantref05_Text_ok {t0 : Value} {w : World} {K : Ending → World → Prop} (h : S_foliantref05_Text t0 w K) : Calls Tryd.prog 10 #[t0] w K :=
  calls_of_wpX Tryd.func10 rfl rfl rfl rfl (Eq.mpr (S_foliantref05_Text_eq t0 w K) h)

/- foliantref05.Ref -/
def S_foliantref05_Ref (t0 t1 : Value) (w : World) (K : Ending → World → Prop) : Prop :=
 DoX Tryd.prog (mAlloc 25) w (pk K) fun t4 w =>
 DoX Tryd.prog (mBuild 25 #[(0, (.int .i64 8)), (1, t0), (2, t1)]) w (pk K) fun t7 w =>
 DoX Tryd.prog (mStore 25 t4 t7) w (pk K) fun _ w =>
 RetX Tryd.prog [.cell t4 25] w K
theorem S_foliantref05_Ref_eq (t0 t1 : Value) (w : World) (K : Ending → World → Prop) : wpX Tryd.prog 8 [] [] none (bodyOf Tryd.f11) (topQ Tryd.prog [.cell 4 25] K) (startX [t0, t1]) [] w = S_foliantref05_Ref t0 t1 w K := by kernel_rfl
theorem S_foliantref05_Ref_ok {t0 t1 : Value} {w : World} {K : Ending → World → Prop} (h : S_foliantref05_Ref t0 t1 w K) : Calls Tryd.prog 11 #[t0, t1] w K :=
  calls_of_wpX Tryd.func11 rfl rfl rfl rfl (Eq.mpr (S_foliantref05_Ref_eq t0 t1 w K) h)

/- foliantref05.Int -/
def S_foliantref05_Int (t0 : Value) (w : World) (K : Ending → World → Prop) : Prop :=
 DoX Tryd.prog (mAlloc 25) w (pk K) fun t2 w =>
 DoX Tryd.prog (mBuild 25 #[(0, (.int .i64 2)), (1, t0)]) w (pk K) fun t4 w =>
 DoX Tryd.prog (mStore 25 t2 t4) w (pk K) fun _ w =>
 RetX Tryd.prog [.cell t2 25] w K
theorem S_foliantref05_Int_eq (t0 : Value) (w : World) (K : Ending → World → Prop) : wpX Tryd.prog 5 [] [] none (bodyOf Tryd.f12) (topQ Tryd.prog [.cell 2 25] K) (startX [t0]) [] w = S_foliantref05_Int t0 w K := by kernel_rfl
theorem S_foliantref05_Int_ok {t0 : Value} {w : World} {K : Ending → World → Prop} (h : S_foliantref05_Int t0 w K) : Calls Tryd.prog 12 #[t0] w K :=
  calls_of_wpX Tryd.func12 rfl rfl rfl rfl (Eq.mpr (S_foliantref05_Int_eq t0 w K) h)

/- foliantref05.Null -/
def S_foliantref05_Null (w : World) (K : Ending → World → Prop) : Prop :=
 DoX Tryd.prog (mAlloc 25) w (pk K) fun t0 w =>
 DoX Tryd.prog (mBuild 25 #[]) w (pk K) fun t1 w =>
 DoX Tryd.prog (mStore 25 t0 t1) w (pk K) fun _ w =>
 RetX Tryd.prog [.cell t0 25] w K
theorem S_foliantref05_Null_eq (w : World) (K : Ending → World → Prop) : wpX Tryd.prog 2 [] [] none (bodyOf Tryd.f14) (topQ Tryd.prog [.cell 0 25] K) (startX []) [] w = S_foliantref05_Null w K := by kernel_rfl
theorem S_foliantref05_Null_ok {w : World} {K : Ending → World → Prop} (h : S_foliantref05_Null w K) : Calls Tryd.prog 14 #[] w K :=
  calls_of_wpX Tryd.func14 rfl rfl rfl rfl (Eq.mpr (S_foliantref05_Null_eq w K) h)

/- foliantref05.Real -/
def S_foliantref05_Real (t0 : Value) (w : World) (K : Ending → World → Prop) : Prop :=
 DoX Tryd.prog (mAlloc 25) w (pk K) fun t2 w =>
 DoX Tryd.prog (mBuild 25 #[(0, (.int .i64 3)), (1, t0)]) w (pk K) fun t4 w =>
 DoX Tryd.prog (mStore 25 t2 t4) w (pk K) fun _ w =>
 RetX Tryd.prog [.cell t2 25] w K
theorem S_foliantref05_Real_eq (t0 : Value) (w : World) (K : Ending → World → Prop) : wpX Tryd.prog 5 [] [] none (bodyOf Tryd.f15) (topQ Tryd.prog [.cell 2 25] K) (startX [t0]) [] w = S_foliantref05_Real t0 w K := by kernel_rfl
theorem S_foliantref05_Real_ok {t0 : Value} {w : World} {K : Ending → World → Prop} (h : S_foliantref05_Real t0 w K) : Calls Tryd.prog 15 #[t0] w K :=
  calls_of_wpX Tryd.func15 rfl rfl rfl rfl (Eq.mpr (S_foliantref05_Real_eq t0 w K) h)

/- foliantref05.Bool -/
def S_foliantref05_Bool (t0 : Value) (w : World) (K : Ending → World → Prop) : Prop :=
 DoX Tryd.prog (mAlloc 25) w (pk K) fun t2 w =>
 IfX t0 (DoX Tryd.prog (mBuild 25 #[(0, (.int .i64 1)), (1, (.int .i64 1))]) w (pk K) fun t4 w =>
 DoX Tryd.prog (mStore 25 t2 t4) w (pk K) fun _ w =>
 RetX Tryd.prog [.cell t2 25] w K) (DoX Tryd.prog (mBuild 25 #[(0, (.int .i64 1))]) w (pk K) fun t5 w =>
 DoX Tryd.prog (mStore 25 t2 t5) w (pk K) fun _ w =>
 RetX Tryd.prog [.cell t2 25] w K)
theorem S_foliantref05_Bool_eq (t0 : Value) (w : World) (K : Ending → World → Prop) : wpX Tryd.prog 6 [] [] none (bodyOf Tryd.f16) (topQ Tryd.prog [.cell 2 25] K) (startX [t0]) [] w = S_foliantref05_Bool t0 w K := by kernel_rfl
theorem S_foliantref05_Bool_ok {t0 : Value} {w : World} {K : Ending → World → Prop} (h : S_foliantref05_Bool t0 w K) : Calls Tryd.prog 16 #[t0] w K :=
  calls_of_wpX Tryd.func16 rfl rfl rfl rfl (Eq.mpr (S_foliantref05_Bool_eq t0 w K) h)

/- foliantref05.uses -/
/- foliantref05.fits -/
/- foliantref05.long -/
/- foliantref05.zero -/
/- foliantref05.Name -/
/- foliantref05.keys -/
/- foliantref05.check -/
/- foliantref05.Check -/
end Go.Proofs.YtiklhhdohckfiaaDoor
/- Contracts: the reference's form and Read. -/
namespace Go.Proofs.YtiklhhdohckfiaaDoor
set_option linter.unusedVariables false
set_option linter.unusedSimpArgs false
set_option linter.defProp false
open Eng Go.RowKit
set_option linter.unusedVariables false
set_option linter.unusedSimpArgs false

end Go.Proofs.YtiklhhdohckfiaaDoor
/- Contracts: Read, of the reference and of the program. -/
namespace Go.Proofs.YtiklhhdohckfiaaDoor
set_option linter.unusedVariables false
set_option linter.unusedSimpArgs false
set_option linter.defProp false
open Eng Go.RowKit
set_option linter.unusedVariables false
set_option linter.unusedSimpArgs false

end Go.Proofs.YtiklhhdohckfiaaDoor
/- Contracts: the program's Read. -/
namespace Go.Proofs.YtiklhhdohckfiaaDoor
set_option linter.unusedVariables false
set_option linter.unusedSimpArgs false
set_option linter.defProp false
open Eng Go.RowKit
set_option linter.unusedVariables false
set_option linter.unusedSimpArgs false

end Go.Proofs.YtiklhhdohckfiaaDoor
/- Contracts: the reference's arithmetic. -/
namespace Go.Proofs.YtiklhhdohckfiaaDoor
set_option linter.unusedVariables false
set_option linter.unusedSimpArgs false
set_option linter.defProp false
open Eng Go.RowKit
set_option linter.unusedVariables false
set_option linter.unusedSimpArgs false

end Go.Proofs.YtiklhhdohckfiaaDoor
/- Code in continuation form, by program (gen.py): 6 functions. -/
namespace Go.Proofs.YtiklhhdohckfiaaDoor
set_option linter.unusedVariables false
set_option linter.unusedSimpArgs false
set_option linter.defProp false
set_option linter.unusedVariables false
set_option maxRecDepth 20000
open Eng

/- foliantlaw02.lives -/
/- foliantlaw02.FixTells -/
/- foliantlaw02.FixReckons -/
/- foliantlaw02.FixBack -/
/- foliantlaw02.FixNear -/
/- foliantlaw02.FixTurns -/
end Go.Proofs.YtiklhhdohckfiaaDoor
/- The laws of layer 2, walked: lives, FixTells, FixReckons, FixNear. -/
namespace Go.Proofs.YtiklhhdohckfiaaDoor
set_option linter.unusedVariables false
set_option linter.unusedSimpArgs false
set_option linter.defProp false
open Eng Go.RowKit
set_option linter.unusedVariables false
set_option linter.unusedSimpArgs false

theorem c_told {P : Program} {f : Nat} {args : Array Value} {w0 w : World} {L : List Ent} {PK : List PanicEntry → World → Prop} {K : Value → World → Prop} {x y : Value} (h : Ret P f args w (fun v w' => v = x ∧ Below w.heap.size w w')) (hx : x = y) (ho : Own w0 w L)
    (k : ∀ w', Own w0 w' L → K y w') : CallX P f args w PK K := by
  refine c_ret h ?_
  rintro v w' ⟨rfl, hb⟩
  rw [hx]; exact k _ (ho.grow hb)
end Go.Proofs.YtiklhhdohckfiaaDoor
/- The engine's rules for guarded operations whose guard is not known: values, without a split of the ways. -/
namespace Go.Proofs.YtiklhhdohckfiaaDoor
set_option linter.unusedVariables false
set_option linter.unusedSimpArgs false
set_option linter.defProp false
set_option linter.unusedSimpArgs false
set_option linter.unusedVariables false
namespace Eng
open Go.RowKit

/-- x where c holds. -/
def sel (c : Bool) (x : Value) : Value := bc c x undef
theorem sel_t {x : Value} : sel true x = x := rfl
theorem sel_f {x : Value} : sel false x = undef := rfl
section
variable {P : Program} {w : World} {PK : List PanicEntry → World → Prop} {K : Value → World → Prop}
theorem g_move {v x : Value} {want : Bool} : GDo v want (fun E => E x w) w K = K (sel (wants v want) x) w := by
  refine propext ⟨fun h => ?_, fun h => ⟨?_⟩⟩
  · have := h.out
    cases hw : wants v want <;> rw [hw] at this <;> exact this
  · cases hw : wants v want <;> rw [hw] at h <;> exact h
theorem g_congr {v v' : Value} {want c : Bool} {E E' : (Value → World → Prop) → Prop} (hv : v = v') (hc : wants v' want = c) (h : c = true → ∀ K0, E K0 = E' K0) : GDo v want E w K = GDo v' want E' w K := by
  subst hv
  refine propext ⟨fun x => ⟨?_⟩, fun x => ⟨?_⟩⟩
  · have := x.out
    subst hc
    cases hw : wants v want with
    | false => rw [hw] at this; exact this
    | true => rw [hw, bc_true] at this; rw [bc_true, ← h hw]; exact this
  · have := x.out
    subst hc
    cases hw : wants v want with
    | false => rw [hw] at this; exact this
    | true => rw [hw, bc_true] at this; rw [bc_true, h hw]; exact this
theorem wants_t {b : Bool} : wants (.bool b) true = b := by cases b <;> rfl
theorem wants_f {b : Bool} : wants (.bool b) false = !b := by cases b <;> rfl
theorem wants_st {c y : Bool} : wants (sel c (.bool y)) true = (c && y) := by cases c <;> cases y <;> rfl
theorem wants_sf {c y : Bool} : wants (sel c (.bool y)) false = (c && !y) := by cases c <;> cases y <;> rfl
theorem b_tand {b : Bool} : (true && b) = b := rfl
theorem b_andt {b : Bool} : (b && true) = b := by cases b <;> rfl
theorem pick_and {b y : Bool} : DoX P (mPick (.bool b) (sel b (.bool y)) (.bool false)) w PK K = K (.bool (b && y)) w := by
  rw [p_pick]; cases b <;> rfl
theorem pick_or {b y : Bool} : DoX P (mPick (.bool b) (.bool true) (sel (!b) (.bool y))) w PK K = K (.bool (b || y)) w := by
  rw [p_pick]; cases b <;> rfl
theorem run_eq_bool {T : TypeId} {a b : Bool} (h : P.underlying T = some .bool) : (Op.equal T (.bool a) (.bool b)).run P w = .ok (a == b) w := by
  show (Op.equalIn (9999 + 1) T (.bool a) (.bool b)).run P w = _
  rw [Op.equalIn]
  simp [run_underlying h]
theorem e_bool {T : TypeId} {xo yo : Operand} {a b : Bool} (h : P.underlying T = some .bool) : DoX P (mEq .eql T xo yo (.bool a) (.bool b)) w PK K = K (.bool (a == b)) w := mv_do (by simp [eqGuard, binOp, run_eq_bool h])
end
/-- For 'simp only [rs, gs]' with 'attribute [local congr] g_congr'. -/
def gs := And.intro @g_move (And.intro @wants_t (And.intro @wants_f (And.intro @pick_and (And.intro @pick_or (And.intro @sel_t (And.intro @sel_f (And.intro @wants_st (And.intro @wants_sf (And.intro @b_tand @b_andt)))))))))
end Eng
end Go.Proofs.YtiklhhdohckfiaaDoor
/- Contracts: foliantref05 (zero, Name, uses, fits, long, keys, check, Check, Size). -/
namespace Go.Proofs.YtiklhhdohckfiaaDoor
set_option linter.unusedVariables false
set_option linter.unusedSimpArgs false
set_option linter.defProp false
open Eng Go.RowKit
 attribute [local congr] g_congr

theorem e_nil {T : TypeId} {xo yo : Operand} {s : List UInt8} {w : World} {PK : List PanicEntry → World → Prop} {K : Value → World → Prop} : DoX Tryd.prog (mEq .eql T xo yo (.string ⟨s.toArray⟩) (.string ⟨#[]⟩)) w PK K = K (.bool (decide (s = []))) w := e_str (b := [])
theorem ilen0 {α : Type} (l : List α) : decide (((l.length : Nat) : Int) = 0) = decide (l = []) := by cases l <;> simp; omega
theorem ilenN {α : Type} (l : List α) : decide (((l.length : Nat) : Int) = 0) = decide (l.length = 0) := by rw [decide_eq_decide]; omega
end Go.Proofs.YtiklhhdohckfiaaDoor
/- The engine's rules for chains of guarded operations, further: for 'simp +contextual only [rs, gs, gw, ..]'. -/
namespace Go.Proofs.YtiklhhdohckfiaaDoor
set_option linter.unusedVariables false
set_option linter.unusedSimpArgs false
set_option linter.defProp false
set_option linter.unusedSimpArgs false
set_option linter.unusedVariables false
namespace Eng
open Go.RowKit
theorem sel_sel {c : Bool} {x : Value} : sel c (sel c x) = sel c x := by cases c <;> rfl
theorem g_off {v : Value} {want : Bool} {E : (Value → World → Prop) → Prop} {w : World} {K : Value → World → Prop} (h : wants v want = false) : GDo v want E w K = K undef w := by
  refine propext ⟨fun x => ?_, fun x => ⟨?_⟩⟩
  · have := x.out; rw [h] at this; exact this
  · rw [h]; exact x
theorem pick_orn {P : Program} {b y : Bool} {w : World} {PK : List PanicEntry → World → Prop} {K : Value → World → Prop} : DoX P (mPick (.bool (!b)) (.bool true) (sel b (.bool y))) w PK K = K (.bool (!b || y)) w := by
  rw [p_pick]; cases b <;> rfl
end Eng
end Go.Proofs.YtiklhhdohckfiaaDoor
/- Contracts: foliantref05 (keys, check, Check, Size). -/
namespace Go.Proofs.YtiklhhdohckfiaaDoor
set_option linter.unusedVariables false
set_option linter.unusedSimpArgs false
set_option linter.defProp false
open Eng Go.RowKit
 attribute [local congr] g_congr

theorem ObAt.in_ {w0 w : World} {L : List Ent} {o : Ob} {vk vc : Value} {cs : List Value} (h : ObAt (InW w0) w0 o vk vc cs) (ho : Own w0 w L) : ObAt (InW w) w o vk vc cs := by
  have hk := h.own ho
  exact ⟨⟨hk.keys.1, fun p l c e hn => Nat.lt_of_lt_of_le (hk.keys.2 p l c e hn) ho.size⟩, ⟨hk.kids.1, fun p l c e hn => Nat.lt_of_lt_of_le (hk.kids.2 p l c e hn) ho.size⟩, OVs.mono (fun _ hb => Nat.lt_of_lt_of_le hb ho.size) _ _ hk.all⟩
theorem range_all_succ {p : Nat → Bool} (n : Nat) : (List.range (n + 1)).all p = ((List.range n).all p && p n) := by
  rw [List.range_succ, List.all_append]; simp
theorem range_all_not {p : Nat → Bool} {n m : Nat} (hp : p n = false) (hn : n < m) : (List.range m).all p = false := by
  rw [← Bool.not_eq_true]
  intro h
  have := List.all_eq_true.1 h n (List.mem_range.2 hn)
  rw [hp] at this; cases this
/-- The kind of a kid is read. -/
theorem run_kid_k {A : Nat → Prop} {w : World} {vc : Value} {os : List Ob} {cs : List Value} (hs : Sl w vc 6 os.length cs) (hall : OVs A w cs os) {i : Nat} (hi : i < os.length) :
    ∃ b off, (∀ {PK : List PanicEntry → World → Prop} {K : Value → World → Prop}, DoX Tryd.prog (mIA 23 vc (.int .i64 (i : Int))) w PK K = K (.pointer (some ⟨b, off, none⟩)) w) ∧ w.cell? ⟨b, off, none⟩ = some (.int .i64 os[i].k) := by
  obtain ⟨b, off, cap, rfl, hc⟩ := sl_open hs (by omega)
  obtain ⟨a, hl, hov, hget⟩ := OVs.get os cs i hi hall
  refine ⟨b, off + i * 6, ?_, ?_⟩
  · intro PK K
    have := run_ia (P := Tryd.prog) (T := 23) (b := b) (off := off) (cap := cap) (n := os.length) (k := .i64) (i := (i : Int)) (w := w) Tryd.underlying23 szOb (by omega) (by omega)
    rw [Int.toNat_natCast] at this
    exact do_eq this
  · obtain ⟨vk, vc', cs', hv, _⟩ := hov.open
    have e : a = obC os[i] vk vc' := by
      injection hv with hv
      have := congrArg Array.toList hv
      simpa using this
    have := hc (i * 6 + 0) _ (hget 0 (.int .i64 os[i].k) (by rw [e]; rfl))
    simpa using this
end Go.Proofs.YtiklhhdohckfiaaDoor
/- Contracts: foliantref05 (check, Check, Size). -/
namespace Go.Proofs.YtiklhhdohckfiaaDoor
set_option linter.unusedVariables false
set_option linter.unusedSimpArgs false
set_option linter.defProp false
open Eng Go.RowKit
 attribute [local congr] g_congr

theorem OwnS.kept2 {w0 w2 w4 : World} {L2 L4 : List Ent} (h2 : Own w0 w2 L2) (h4 : Own w0 w4 L4) : Kept (InW w0) w2 w4 := fun b hb => (h4.done.block b hb).trans (h2.done.block b hb).symm
theorem ObAt.later {w0 w2 w4 : World} {L2 L4 : List Ent} {o : Ob} {vk vc : Value} {cs : List Value} (h : ObAt (InW w0) w2 o vk vc cs) (h2 : Own w0 w2 L2) (h4 : Own w0 w4 L4) : ObAt (InW w4) w4 o vk vc cs := by
  have hk := h.kept (OwnS.kept2 h2 h4)
  exact ⟨⟨hk.keys.1, fun p l c e hn => Nat.lt_of_lt_of_le (hk.keys.2 p l c e hn) h4.size⟩, ⟨hk.kids.1, fun p l c e hn => Nat.lt_of_lt_of_le (hk.kids.2 p l c e hn) h4.size⟩, OVs.mono (fun _ hb => Nat.lt_of_lt_of_le hb h4.size) _ _ hk.all⟩
theorem tot_mem : ∀ {l : List (List UInt8)} {k : List UInt8}, k ∈ l → k.length ≤ Pl.tot l
  | a :: l, k, h => by
    simp only [Pl.tot, List.map_cons, List.sum_cons]
    rcases List.mem_cons.1 h with rfl | h
    · omega
    · have := tot_mem h; simp only [Pl.tot] at this; omega
theorem wts_mem : ∀ {l : List Ob} {o : Ob}, o ∈ l → o.wt ≤ Ob.wts l
  | a :: l, o, h => by
    rw [Ob.wts]
    rcases List.mem_cons.1 h with rfl | h
    · omega
    · have := wts_mem h; omega
theorem Ob.wt_eq (o : Ob) : o.wt = 6 + o.s.length + Pl.tot o.keys + Ob.wts o.kids := by cases o; rw [Ob.wt]; rfl
theorem Ob.wt_pos (o : Ob) : 6 ≤ o.wt := by rw [o.wt_eq]; omega
theorem wts_len : ∀ l : List Ob, l.length * 6 ≤ Ob.wts l
  | [] => by simp
  | a :: l => by
    have := wts_len l
    have := a.wt_pos
    rw [Ob.wts, List.length_cons]; omega
theorem kid_wt {o : Ob} {i : Nat} (hi : i < o.kids.length) : o.kids[i].wt < o.wt := by
  have := wts_mem (List.getElem_mem hi)
  rw [o.wt_eq]; omega
theorem checks_drop (d : Nat) (l : List Ob) (i : Nat) (hi : i < l.length) : Vl.checks d (l.drop i) = if Vl.check d l[i] ≠ 0 then Vl.check d l[i] else Vl.checks d (l.drop (i + 1)) := by
  rw [List.drop_eq_getElem_cons hi, Vl.checks]
theorem key_len {o : Ob} : o.keys.length ≤ o.wt := by
  have h : ∀ l : List (List UInt8), l.length ≤ Pl.tot l := by
    intro l
    induction l with
    | nil => simp
    | cons a l ih => simp only [Pl.tot, List.map_cons, List.sum_cons, List.length_cons] at ih ⊢; omega
  have := h o.keys
  rw [o.wt_eq]; omega
theorem kids_len {o : Ob} : o.kids.length ≤ o.wt := by
  have := wts_len o.kids
  rw [o.wt_eq]; omega
theorem s_len05 {o : Ob} : o.s.length ≤ o.wt := by rw [o.wt_eq]; omega
theorem keys_mem {o : Ob} {k : List UInt8} (h : k ∈ o.keys) : k.length ≤ o.wt := by
  have := tot_mem h
  rw [o.wt_eq]; omega
theorem why_pos {d : Nat} {o : Ob} (h : Vl.why d o ≠ 0) : Vl.check d o = Vl.why d o := by rw [Vl.check_eq, if_pos h]
theorem sizes_drop (l : List Ob) (i : Nat) (hi : i < l.length) : Vl.sizes (l.take (i + 1)) = Vl.sizes (l.take i) + Vl.size l[i] := by
  have h : ∀ (l : List Ob) (o : Ob), Vl.sizes (l ++ [o]) = Vl.sizes l + Vl.size o := by
    intro l o
    induction l with
    | nil => simp [Vl.sizes]
    | cons a l ih => rw [List.cons_append, Vl.sizes, ih, Vl.sizes]; omega
  rw [List.take_succ_eq_append_getElem hi, h]
theorem sizes_take (l : List Ob) (i : Nat) : Vl.sizes (l.take i) ≤ Vl.sizes l := by
  induction l generalizing i with
  | nil => simp
  | cons a l ih =>
    cases i with
    | zero => simp [Vl.sizes]
    | succ i => rw [List.take_succ_cons, Vl.sizes, Vl.sizes]; have := ih i; omega
theorem rsize_ret (n : Nat) : ∀ (o : Ob) (v : Value) (w : World), o.wt ≤ n → OV (InW w) w v o → o.wt ≤ 4611686018427387904 →
    Ret Tryd.prog 4 #[v] w (fun v w' => v = .int .i64 (Vl.size o : Nat) ∧ Below w.heap.size w w') := by
  induction n with
  | zero => intro o v w h; have := o.wt_pos; omega
  | succ n ih =>
  intro o v w hn hov hb
  obtain ⟨vk, vc, cs, rfl, ha⟩ := hov.open
  refine ret_of fun K hK => S_foliantref05_Size_ok ?_
  unfold S_foliantref05_Size
  refine o_obb o ha.keys.one ha.kids.one (Own.start w) fun b w1 ho => ?_
  have hsl := s_len05 (o := o)
  have hkl := key_len (o := o)
  have hcl := kids_len (o := o)
  have hsz := Vl.size_wt o
  have htd : ∀ m : Nat, (m : Int).tdiv 50 = ((m / 50 : Nat) : Int) := fun m => by rw [Int.tdiv_eq_ediv_of_nonneg (by omega)]; omega
  have lk : ∀ {W : World} {L : List Ent}, Own w W L → ∀ {PK : List PanicEntry → World → Prop} {K : Value → World → Prop}, DoX Tryd.prog (mB .len #[22] 3 #[false] #[vk]) W PK K = K (.int .i64 (o.keys.length : Int)) W := fun ho => sl_len Tryd.underlying22 (ha.own ho).keys.1
  have lc : ∀ {W : World} {L : List Ent}, Own w W L → ∀ {PK : List PanicEntry → World → Prop} {K : Value → World → Prop}, DoX Tryd.prog (mB .len #[23] 3 #[false] #[vc]) W PK K = K (.int .i64 (o.kids.length : Int)) W := fun ho => sl_len Tryd.underlying23 (ha.own ho).kids.1
  rw [fa_o3, ob_s ho 0 rfl, s_len Tryd.underlying9, b_quo (by decide), htd, wrap64_id (by omega) (by omega), b_add, wrap64_id (by omega) (by omega), fa_o4, ob_keys ho 0 rfl, lk ho]
  have ht50 : ∀ i, ((o.keys.take i).map fun k => k.length / 50).sum ≤ (o.keys.map fun k => k.length / 50).sum := by
    intro i
    conv => rhs; rw [← List.take_append_drop i o.keys, List.map_append, List.sum_append]
    omega
  have hse := Vl.size_eq o
  refine loop (fun vs w' => ∃ (i : Nat) (m : Int), vs = [.int .i64 m, .int .i64 i] ∧ i ≤ o.keys.length ∧ m = ((1 + o.s.length / 50 + ((o.keys.take i).map fun k => k.length / 50).sum : Nat) : Int) ∧ Own w w' [obE b o vk vc]) (fun vs _ => o.keys.length - n1 vs) ⟨0, _, rfl, by omega, by simp, ho⟩ ?_
  rintro vs w2 ⟨i, m, rfl, hi, rfl, ho⟩ _
  have h5i := ht50 i
  simp only [S_foliantref05_Size_0, gd, rs]
  by_cases hlt : (i : Int) < (o.keys.length : Int)
  · have hi' : i < o.keys.length := by omega
    simp only [hlt, decide_true, i_t]
    refine sl_ia1 (.string ⟨(o.keys[i]).toArray⟩) Tryd.underlying22 (by kernel_rfl) (ha.own ho).keys.1 (by omega) (by rw [Int.toNat_natCast]; exact strsV_get hi') fun q hq => ?_
    have hkm := keys_mem (List.getElem_mem hi')
    have h5s := ht50 (i + 1)
    have hss : ((o.keys.take (i + 1)).map fun k => k.length / 50).sum = ((o.keys.take i).map fun k => k.length / 50).sum + o.keys[i].length / 50 := by
      rw [List.take_succ_eq_append_getElem hi', List.map_append, List.sum_append]; simp
    rw [l_cell nStr5 hq, s_len Tryd.underlying9, b_quo (by decide), htd, wrap64_id (n := ((o.keys[i].length / 50 : Nat) : Int)) (by omega) (by omega)]
    simp only [rs]
    rw [wrap64_id (by omega) (by omega), wrap64_id (by omega) (by omega)]
    exact nextX ⟨i + 1, _, rfl, by omega, by rw [hss]; omega, ho⟩ (by simp [n1, intOf]; omega)
  simp only [hlt, decide_false, i_f, fa_o5, ob_kids ho 0 rfl, lc ho]
  have hik : i = o.keys.length := by omega
  subst hik
  rw [List.take_length]
  refine loop (fun vs w' => ∃ (i : Nat) (m : Int), vs = [.int .i64 m, .int .i64 i] ∧ i ≤ o.kids.length ∧ m = ((1 + o.s.length / 50 + (o.keys.map fun k => k.length / 50).sum + Vl.sizes (o.kids.take i) : Nat) : Int) ∧ Own w w' [obE b o vk vc]) (fun vs _ => o.kids.length - n1 vs) ⟨0, _, rfl, by omega, by simp [Vl.sizes], ho⟩ ?_
  rintro vs w3 ⟨i, m, rfl, hi2, rfl, ho⟩ _
  simp only [S_foliantref05_Size_1, gd, rs]
  have hst := sizes_take o.kids i
  by_cases hlt : (i : Int) < (o.kids.length : Int)
  · have hi' : i < o.kids.length := by omega
    simp only [hlt, decide_true, i_t]
    have hai := ha.own ho
    refine ob_ia hai.kids.1 hai.all hi' fun v hv => ?_
    obtain ⟨vk', vc', cs', rfl, hkid⟩ := hv.open
    have ho6 := ho
    refine o_oba ho fun b7 w7 ho => ?_
    refine ob_put 0 hkid.keys.one hkid.kids.one ho rfl fun w8 ho => ?_
    have ho : Own w w8 [obE b7 o.kids[i] vk' vc', obE b o vk vc] := ho
    rw [ob_v ho 0 rfl]
    have hkw := kid_wt hi'
    refine c_told (ih o.kids[i] _ w8 (by omega) (hkid.later ho6 ho).ov (by omega)) rfl ho fun w9 ho => ?_
    have hsd := sizes_drop o.kids i hi'
    have hst2 := sizes_take o.kids (i + 1)
    simp only [rs]
    rw [wrap64_id (by omega) (by omega), wrap64_id (by omega) (by omega)]
    exact nextX ⟨i + 1, _, rfl, by omega, by rw [hsd]; omega, ho.tail⟩ (by simp [n1, intOf]; omega)
  · simp only [hlt, decide_false, i_f]
    rw [List.take_of_length_le (by omega)]
    refine hK _ _ ⟨?_, ho.done⟩
    rw [hse]
end Go.Proofs.YtiklhhdohckfiaaDoor
/- Code in continuation form, by program (gen.py): 13 functions. -/
namespace Go.Proofs.YtiklhhdohckfiaaDoor
set_option linter.unusedVariables false
set_option linter.unusedSimpArgs false
set_option linter.defProp false
set_option linter.unusedVariables false
set_option maxRecDepth 20000
open Eng

/- value.within[int64] -/
def S_value_within_int64 (t0 t1 t2 : Value) (w : World) (K : Ending → World → Prop) : Prop :=
 DoX Tryd.prog (mBin .leq 2 t1 t0) w (pk K) fun t9 w =>
 GDo t9 true (fun E => E t0 w) w fun t11 w =>
 GDo t9 true (fun E => E t2 w) w fun t12 w =>
 GDo t9 true (fun E => DoX Tryd.prog (mBin .leq 2 t11 t12) w (pk K) E) w fun t13 w =>
 DoX Tryd.prog (mPick t9 t13 (.bool false)) w (pk K) fun t14 w =>
 K (.returned t14) w
theorem S_value_within_int64_eq (t0 t1 t2 : Value) (w : World) (K : Ending → World → Prop) : wpX Tryd.prog 15 [] [] none (bodyOf Tryd.f54) (topQ Tryd.prog [.tmp 6] K) (startX [t0, t1, t2]) [] w = S_value_within_int64 t0 t1 t2 w K := by kernel_rfl
theorem S_value_within_int64_ok {t0 t1 t2 : Value} {w : World} {K : Ending → World → Prop} (h : S_value_within_int64 t0 t1 t2 w K) : Calls Tryd.prog 54 #[t0, t1, t2] w K :=
  calls_of_wpX Tryd.func54 rfl rfl rfl rfl (Eq.mpr (S_value_within_int64_eq t0 t1 t2 w K) h)

/- value.within[int] -/
def S_value_within_int (t0 t1 t2 : Value) (w : World) (K : Ending → World → Prop) : Prop :=
 DoX Tryd.prog (mBin .leq 3 t1 t0) w (pk K) fun t9 w =>
 GDo t9 true (fun E => E t0 w) w fun t11 w =>
 GDo t9 true (fun E => E t2 w) w fun t12 w =>
 GDo t9 true (fun E => DoX Tryd.prog (mBin .leq 3 t11 t12) w (pk K) E) w fun t13 w =>
 DoX Tryd.prog (mPick t9 t13 (.bool false)) w (pk K) fun t14 w =>
 K (.returned t14) w
theorem S_value_within_int_eq (t0 t1 t2 : Value) (w : World) (K : Ending → World → Prop) : wpX Tryd.prog 15 [] [] none (bodyOf Tryd.f55) (topQ Tryd.prog [.tmp 6] K) (startX [t0, t1, t2]) [] w = S_value_within_int t0 t1 t2 w K := by kernel_rfl
theorem S_value_within_int_ok {t0 t1 t2 : Value} {w : World} {K : Ending → World → Prop} (h : S_value_within_int t0 t1 t2 w K) : Calls Tryd.prog 55 #[t0, t1, t2] w K :=
  calls_of_wpX Tryd.func55 rfl rfl rfl rfl (Eq.mpr (S_value_within_int_eq t0 t1 t2 w K) h)

/- value.key -/
def S_value_key (t0 : Value) (w : World) (K : Ending → World → Prop) : Prop :=
 DoX Tryd.prog (mB .len #[9] 3 #[false] #[t0]) w (pk K) fun t4 w =>
 DoX Tryd.prog (mBin .leq 3 t4 (.int .i64 127)) w (pk K) fun t5 w =>
 GDo t5 true (fun E => E t0 w) w fun t7 w =>
 GDo t5 true (fun E => CallX Tryd.prog 49 #[t7, (.int .u8 0)] w (pk K) E) w fun t8 w =>
 GDo t5 true (fun E => DoX Tryd.prog (mBin .lss 3 t8 (.int .i64 0)) w (pk K) E) w fun t9 w =>
 DoX Tryd.prog (mPick t5 t9 (.bool false)) w (pk K) fun t10 w =>
 K (.returned t10) w
theorem S_value_key_eq (t0 : Value) (w : World) (K : Ending → World → Prop) : wpX Tryd.prog 11 [] [] none (bodyOf Tryd.f42) (topQ Tryd.prog [.tmp 2] K) (startX [t0]) [] w = S_value_key t0 w K := by kernel_rfl
theorem S_value_key_ok {t0 : Value} {w : World} {K : Ending → World → Prop} (h : S_value_key t0 w K) : Calls Tryd.prog 42 #[t0] w K :=
  calls_of_wpX Tryd.func42 rfl rfl rfl rfl (Eq.mpr (S_value_key_eq t0 w K) h)

/- value.rising -/
def S_value_rising_0 (t1 t13 t14 t15 : Value) (w : World) (N1 : List Value → World → Prop) (K : Ending → World → Prop) : Prop :=
 DoX Tryd.prog (mBin .lss 3 t15 t14) w (pk K) fun t16 w =>
 IfX t16 (DoX Tryd.prog (mIA 22 t13 t15) w (pk K) fun t18 w =>
 DoX Tryd.prog (mLoad 9 t18) w (pk K) fun t19 w =>
 CallX Tryd.prog 42 #[t19] w (pk K) fun t21 w =>
 DoX Tryd.prog (mUn .not t21) w (pk K) fun t22 w =>
 GDo t22 false (fun E => E t15 w) w fun t24 w =>
 GDo t22 false (fun E => DoX Tryd.prog (mBin .gtr 3 t24 (.int .i64 0)) w (pk K) E) w fun t25 w =>
 GDo t22 false (fun E => E t25 w) w fun t26 w =>
 GDo t26 true (fun E => DoX Tryd.prog (mFA 25 t1 4) w (pk K) E) w fun t27 w =>
 GDo t26 true (fun E => DoX Tryd.prog (mLoad 22 t27) w (pk K) E) w fun t28 w =>
 GDo t26 true (fun E => E t15 w) w fun t29 w =>
 GDo t26 true (fun E => DoX Tryd.prog (mBin .sub 3 t29 (.int .i64 1)) w (pk K) E) w fun t30 w =>
 GDo t26 true (fun E => DoX Tryd.prog (mIA 22 t28 t30) w (pk K) E) w fun t31 w =>
 GDo t26 true (fun E => DoX Tryd.prog (mLoad 9 t31) w (pk K) E) w fun t32 w =>
 GDo t26 true (fun E => E t19 w) w fun t33 w =>
 GDo t26 true (fun E => DoX Tryd.prog (mBin .geq 9 t32 t33) w (pk K) E) w fun t34 w =>
 GDo t22 false (fun E => DoX Tryd.prog (mPick t26 t34 (.bool false)) w (pk K) E) w fun t35 w =>
 DoX Tryd.prog (mPick t22 (.bool true) t35) w (pk K) fun t36 w =>
 GDo t36 false (fun E => DoX Tryd.prog (mFA 25 t1 0) w (pk K) E) w fun t38 w =>
 GDo t36 false (fun E => DoX Tryd.prog (mLoad 3 t38) w (pk K) E) w fun t39 w =>
 GDo t36 false (fun E => DoX Tryd.prog (mEq .eql 3 (.tmp 39) (.const (.int .i64 9)) t39 (.int .i64 9)) w (pk K) E) w fun t40 w =>
 GDo t36 false (fun E => E t40 w) w fun t41 w =>
 GDo t41 true (fun E => E t19 w) w fun t42 w =>
 GDo t41 true (fun E => DoX Tryd.prog (mEq .eql 9 (.tmp 42) (.const (.string ⟨#[76, 101, 110, 103, 116, 104]⟩)) t42 (.string ⟨#[76, 101, 110, 103, 116, 104]⟩)) w (pk K) E) w fun t43 w =>
 GDo t36 false (fun E => DoX Tryd.prog (mPick t41 t43 (.bool false)) w (pk K) E) w fun t44 w =>
 DoX Tryd.prog (mPick t36 (.bool true) t44) w (pk K) fun t45 w =>
 GDo t45 false (fun E => DoX Tryd.prog (mFA 25 t1 5) w (pk K) E) w fun t47 w =>
 GDo t45 false (fun E => DoX Tryd.prog (mLoad 23 t47) w (pk K) E) w fun t48 w =>
 GDo t45 false (fun E => E t15 w) w fun t49 w =>
 GDo t45 false (fun E => DoX Tryd.prog (mIA 23 t48 t49) w (pk K) E) w fun t50 w =>
 GDo t45 false (fun E => DoX Tryd.prog (mFA 25 t50 0) w (pk K) E) w fun t51 w =>
 GDo t45 false (fun E => DoX Tryd.prog (mLoad 3 t51) w (pk K) E) w fun t52 w =>
 GDo t45 false (fun E => DoX Tryd.prog (mEq .eql 3 (.tmp 52) (.const (.int .i64 0)) t52 (.int .i64 0)) w (pk K) E) w fun t53 w =>
 DoX Tryd.prog (mPick t45 (.bool true) t53) w (pk K) fun t54 w =>
 IfX t54 (K (.returned (.bool false)) w) (DoX Tryd.prog (mBin .add 3 t15 (.int .i64 1)) w (pk K) fun t55 w =>
 N1 [t55] w)) (K (.returned (.bool true)) w)
def S_value_rising (t0 : Value) (w : World) (K : Ending → World → Prop) : Prop :=
 DoX Tryd.prog (mBox 25 t0) w (pk K) fun t1 w =>
 DoX Tryd.prog (mFA 25 t1 4) w (pk K) fun t5 w =>
 DoX Tryd.prog (mLoad 22 t5) w (pk K) fun t6 w =>
 DoX Tryd.prog (mB .len #[22] 3 #[false] #[t6]) w (pk K) fun t7 w =>
 DoX Tryd.prog (mFA 25 t1 5) w (pk K) fun t8 w =>
 DoX Tryd.prog (mLoad 23 t8) w (pk K) fun t9 w =>
 DoX Tryd.prog (mB .len #[23] 3 #[false] #[t9]) w (pk K) fun t10 w =>
 DoX Tryd.prog (mEq .neq 3 (.tmp 7) (.tmp 10) t7 t10) w (pk K) fun t11 w =>
 IfX t11 (K (.returned (.bool false)) w) (DoX Tryd.prog (mFA 25 t1 4) w (pk K) fun t12 w =>
 DoX Tryd.prog (mLoad 22 t12) w (pk K) fun t13 w =>
 DoX Tryd.prog (mB .len #[22] 3 #[false] #[t13]) w (pk K) fun t14 w =>
 LoopX [(.int .i64 0)] w (fun vs1 w N1 => ∀ _ : Sg, S_value_rising_0 t1 t13 t14 (vs1.getD 0 undef) w N1 K))
theorem S_value_rising_eq (t0 : Value) (w : World) (K : Ending → World → Prop) : wpX Tryd.prog 56 [] [(4, [15])] none (bodyOf Tryd.f43) (topQ Tryd.prog [.tmp 2] K) (startX [t0]) [] w = S_value_rising t0 w K := by kernel_rfl
theorem S_value_rising_ok {t0 : Value} {w : World} {K : Ending → World → Prop} (h : S_value_rising t0 w K) : Calls Tryd.prog 43 #[t0] w K :=
  calls_of_wpX Tryd.func43 rfl rfl rfl rfl (Eq.mpr (S_value_rising_eq t0 w K) h)

/- value.fits -/
def S_value_fits (t0 : Value) (w : World) (K : Ending → World → Prop) : Prop :=
 DoX Tryd.prog (mBox 25 t0) w (pk K) fun t1 w =>
 DoX Tryd.prog (mFA 25 t1 0) w (pk K) fun t3 w =>
 DoX Tryd.prog (mLoad 3 t3) w (pk K) fun t4 w =>
 DoX Tryd.prog (mEq .eql 3 (.tmp 4) (.const (.int .i64 1)) t4 (.int .i64 1)) w (pk K) fun t6 w =>
 IfX t6 (DoX Tryd.prog (mFA 25 t1 1) w (pk K) fun t7 w =>
 DoX Tryd.prog (mLoad 2 t7) w (pk K) fun t8 w =>
 CallX Tryd.prog 54 #[t8, (.int .i64 0), (.int .i64 1)] w (pk K) fun t9 w =>
 K (.returned t9) w) (DoX Tryd.prog (mEq .eql 3 (.tmp 4) (.const (.int .i64 2)) t4 (.int .i64 2)) w (pk K) fun t11 w =>
 IfX t11 (DoX Tryd.prog (mFA 25 t1 1) w (pk K) fun t12 w =>
 DoX Tryd.prog (mLoad 2 t12) w (pk K) fun t13 w =>
 CallX Tryd.prog 54 #[t13, (.int .i64 (-2147483647)), (.int .i64 2147483647)] w (pk K) fun t14 w =>
 K (.returned t14) w) (DoX Tryd.prog (mEq .eql 3 (.tmp 4) (.const (.int .i64 3)) t4 (.int .i64 3)) w (pk K) fun t16 w =>
 IfX t16 (DoX Tryd.prog (mFA 25 t1 1) w (pk K) fun t17 w =>
 DoX Tryd.prog (mLoad 2 t17) w (pk K) fun t18 w =>
 CallX Tryd.prog 54 #[t18, (.int .i64 (-1073741824)), (.int .i64 1073741824)] w (pk K) fun t19 w =>
 K (.returned t19) w) (DoX Tryd.prog (mEq .eql 3 (.tmp 4) (.const (.int .i64 8)) t4 (.int .i64 8)) w (pk K) fun t21 w =>
 IfX t21 (DoX Tryd.prog (mFA 25 t1 1) w (pk K) fun t22 w =>
 DoX Tryd.prog (mLoad 2 t22) w (pk K) fun t23 w =>
 CallX Tryd.prog 54 #[t23, (.int .i64 1), (.int .i64 8191)] w (pk K) fun t24 w =>
 GDo t24 true (fun E => DoX Tryd.prog (mFA 25 t1 2) w (pk K) E) w fun t26 w =>
 GDo t24 true (fun E => DoX Tryd.prog (mLoad 3 t26) w (pk K) E) w fun t27 w =>
 GDo t24 true (fun E => CallX Tryd.prog 55 #[t27, (.int .i64 0), (.int .i64 65535)] w (pk K) E) w fun t28 w =>
 DoX Tryd.prog (mPick t24 t28 (.bool false)) w (pk K) fun t29 w =>
 K (.returned t29) w) (K (.returned (.bool true)) w))))
theorem S_value_fits_eq (t0 : Value) (w : World) (K : Ending → World → Prop) : wpX Tryd.prog 30 [] [] none (bodyOf Tryd.f40) (topQ Tryd.prog [.tmp 2] K) (startX [t0]) [] w = S_value_fits t0 w K := by kernel_rfl
theorem S_value_fits_ok {t0 : Value} {w : World} {K : Ending → World → Prop} (h : S_value_fits t0 w K) : Calls Tryd.prog 40 #[t0] w K :=
  calls_of_wpX Tryd.func40 rfl rfl rfl rfl (Eq.mpr (S_value_fits_eq t0 w K) h)

/- value.short -/
def S_value_short (t0 : Value) (w : World) (K : Ending → World → Prop) : Prop :=
 DoX Tryd.prog (mBox 25 t0) w (pk K) fun t1 w =>
 DoX Tryd.prog (mFA 25 t1 0) w (pk K) fun t3 w =>
 DoX Tryd.prog (mLoad 3 t3) w (pk K) fun t4 w =>
 DoX Tryd.prog (mEq .eql 3 (.tmp 4) (.const (.int .i64 4)) t4 (.int .i64 4)) w (pk K) fun t6 w =>
 IfX t6 (DoX Tryd.prog (mFA 25 t1 3) w (pk K) fun t7 w =>
 DoX Tryd.prog (mLoad 9 t7) w (pk K) fun t8 w =>
 DoX Tryd.prog (mB .len #[9] 3 #[false] #[t8]) w (pk K) fun t9 w =>
 DoX Tryd.prog (mBin .leq 3 t9 (.int .i64 32767)) w (pk K) fun t10 w =>
 K (.returned t10) w) (DoX Tryd.prog (mEq .eql 3 (.tmp 4) (.const (.int .i64 5)) t4 (.int .i64 5)) w (pk K) fun t12 w =>
 IfX t12 (DoX Tryd.prog (mFA 25 t1 3) w (pk K) fun t13 w =>
 DoX Tryd.prog (mLoad 9 t13) w (pk K) fun t14 w =>
 DoX Tryd.prog (mB .len #[9] 3 #[false] #[t14]) w (pk K) fun t15 w =>
 DoX Tryd.prog (mBin .leq 3 t15 (.int .i64 127)) w (pk K) fun t16 w =>
 K (.returned t16) w) (DoX Tryd.prog (mFA 25 t1 3) w (pk K) fun t17 w =>
 DoX Tryd.prog (mLoad 9 t17) w (pk K) fun t18 w =>
 DoX Tryd.prog (mB .len #[9] 3 #[false] #[t18]) w (pk K) fun t19 w =>
 DoX Tryd.prog (mBin .leq 3 t19 (.int .i64 1048576)) w (pk K) fun t20 w =>
 K (.returned t20) w))
theorem S_value_short_eq (t0 : Value) (w : World) (K : Ending → World → Prop) : wpX Tryd.prog 21 [] [] none (bodyOf Tryd.f41) (topQ Tryd.prog [.tmp 2] K) (startX [t0]) [] w = S_value_short t0 w K := by kernel_rfl
theorem S_value_short_ok {t0 : Value} {w : World} {K : Ending → World → Prop} (h : S_value_short t0 w K) : Calls Tryd.prog 41 #[t0] w K :=
  calls_of_wpX Tryd.func41 rfl rfl rfl rfl (Eq.mpr (S_value_short_eq t0 w K) h)

/- value.used -/
def S_value_used_1 (t2 t4 t13 : Value) (w : World) (K : Ending → World → Prop) : Prop :=
 IfX t13 (DoX Tryd.prog (mBuild 71 #[(2, (.bool true))]) w (pk K) fun t16 w =>
 DoX Tryd.prog (mStore 71 t2 t16) w (pk K) fun _ w =>
 RetX Tryd.prog [.cell t2 71, .val (.bool true)] w K) (DoX Tryd.prog (mEq .eql 3 (.tmp 4) (.const (.int .i64 6)) t4 (.int .i64 6)) w (pk K) fun t18 w =>
 IfX t18 (DoX Tryd.prog (mBuild 71 #[(4, (.bool true))]) w (pk K) fun t19 w =>
 DoX Tryd.prog (mStore 71 t2 t19) w (pk K) fun _ w =>
 RetX Tryd.prog [.cell t2 71, .val (.bool true)] w K) (DoX Tryd.prog (mEq .eql 3 (.tmp 4) (.const (.int .i64 7)) t4 (.int .i64 7)) w (pk K) fun t21 w =>
 IfX t21 (DoX Tryd.prog (mBuild 71 #[(3, (.bool true)), (4, (.bool true))]) w (pk K) fun t22 w =>
 DoX Tryd.prog (mStore 71 t2 t22) w (pk K) fun _ w =>
 RetX Tryd.prog [.cell t2 71, .val (.bool true)] w K) (DoX Tryd.prog (mEq .eql 3 (.tmp 4) (.const (.int .i64 8)) t4 (.int .i64 8)) w (pk K) fun t24 w =>
 IfX t24 (DoX Tryd.prog (mBuild 71 #[(0, (.bool true)), (1, (.bool true))]) w (pk K) fun t25 w =>
 DoX Tryd.prog (mStore 71 t2 t25) w (pk K) fun _ w =>
 RetX Tryd.prog [.cell t2 71, .val (.bool true)] w K) (DoX Tryd.prog (mEq .eql 3 (.tmp 4) (.const (.int .i64 9)) t4 (.int .i64 9)) w (pk K) fun t27 w =>
 IfX t27 (DoX Tryd.prog (mBuild 71 #[(2, (.bool true)), (3, (.bool true)), (4, (.bool true))]) w (pk K) fun t28 w =>
 DoX Tryd.prog (mStore 71 t2 t28) w (pk K) fun _ w =>
 RetX Tryd.prog [.cell t2 71, .val (.bool true)] w K) (DoX Tryd.prog (mBuild 71 #[]) w (pk K) fun t29 w =>
 DoX Tryd.prog (mStore 71 t2 t29) w (pk K) fun _ w =>
 RetX Tryd.prog [.cell t2 71, .val (.bool false)] w K)))))
def S_value_used_0 (t2 t4 t8 : Value) (w : World) (K : Ending → World → Prop) : Prop :=
 IfX t8 (DoX Tryd.prog (mBuild 71 #[(0, (.bool true))]) w (pk K) fun t12 w =>
 DoX Tryd.prog (mStore 71 t2 t12) w (pk K) fun _ w =>
 RetX Tryd.prog [.cell t2 71, .val (.bool true)] w K) (JoinX (fun J2 =>
 DoX Tryd.prog (mEq .eql 3 (.tmp 4) (.const (.int .i64 4)) t4 (.int .i64 4)) w (pk K) fun t14 w =>
 IfX t14 (J2 [t14] w) (DoX Tryd.prog (mEq .eql 3 (.tmp 4) (.const (.int .i64 5)) t4 (.int .i64 5)) w (pk K) fun t15 w =>
 J2 [t15] w)) (fun vs2 w => ∀ _ : Sg, S_value_used_1 t2 t4 (vs2.getD 0 undef) w K))
def S_value_used (t0 : Value) (w : World) (K : Ending → World → Prop) : Prop :=
 DoX Tryd.prog (mAlloc 71) w (pk K) fun t2 w =>
 DoX Tryd.prog (mEq .eql 3 (.tmp 4) (.const (.int .i64 0)) t0 (.int .i64 0)) w (pk K) fun t6 w =>
 IfX t6 (DoX Tryd.prog (mBuild 71 #[]) w (pk K) fun t7 w =>
 DoX Tryd.prog (mStore 71 t2 t7) w (pk K) fun _ w =>
 RetX Tryd.prog [.cell t2 71, .val (.bool true)] w K) (JoinX (fun J1 =>
 DoX Tryd.prog (mEq .eql 3 (.tmp 4) (.const (.int .i64 1)) t0 (.int .i64 1)) w (pk K) fun t9 w =>
 IfX t9 (J1 [t9] w) (DoX Tryd.prog (mEq .eql 3 (.tmp 4) (.const (.int .i64 2)) t0 (.int .i64 2)) w (pk K) fun t10 w =>
 IfX t10 (J1 [t10] w) (DoX Tryd.prog (mEq .eql 3 (.tmp 4) (.const (.int .i64 3)) t0 (.int .i64 3)) w (pk K) fun t11 w =>
 J1 [t11] w))) (fun vs1 w => ∀ _ : Sg, S_value_used_0 t2 t0 (vs1.getD 0 undef) w K))
theorem S_value_used_eq (t0 : Value) (w : World) (K : Ending → World → Prop) : wpX Tryd.prog 30 [(7, [8]), (10, [13])] [] none (bodyOf Tryd.f39) (topQ Tryd.prog [.cell 2 71, .tmp 3] K) (startX [t0]) [] w = S_value_used t0 w K := by kernel_rfl
theorem S_value_used_ok {t0 : Value} {w : World} {K : Ending → World → Prop} (h : S_value_used t0 w K) : Calls Tryd.prog 39 #[t0] w K :=
  calls_of_wpX Tryd.func39 rfl rfl rfl rfl (Eq.mpr (S_value_used_eq t0 w K) h)

/- value.must -/
def S_value_must (t0 t1 : Value) (w : World) (K : Ending → World → Prop) : Prop :=
 DoX Tryd.prog (mUn .not t0) w (pk K) fun t5 w =>
 IfX t5 (DoX Tryd.prog (mBuild 68 #[(0, t1)]) w (pk K) fun t7 w =>
 DoX Tryd.prog (mIface 68 t7) w (pk K) fun t8 w =>
 DoX Tryd.prog (mPanic t8) w (pk K) fun _ w =>
 K (.returned (.tuple #[])) w) (K (.returned (.tuple #[])) w)
theorem S_value_must_eq (t0 t1 : Value) (w : World) (K : Ending → World → Prop) : wpX Tryd.prog 9 [] [] none (bodyOf Tryd.f38) (topQ Tryd.prog [] K) (startX [t0, t1]) [] w = S_value_must t0 t1 w K := by kernel_rfl
theorem S_value_must_ok {t0 t1 : Value} {w : World} {K : Ending → World → Prop} (h : S_value_must t0 t1 w K) : Calls Tryd.prog 38 #[t0, t1] w K :=
  calls_of_wpX Tryd.func38 rfl rfl rfl rfl (Eq.mpr (S_value_must_eq t0 t1 w K) h)

/- value.check -/
def S_value_check_0 (t1 t105 t106 t107 : Value) (w : World) (N1 : List Value → World → Prop) (K : Ending → World → Prop) : Prop :=
 DoX Tryd.prog (mBin .lss 3 t107 t106) w (pk K) fun t108 w =>
 IfX t108 (DoX Tryd.prog (mIA 23 t105 t107) w (pk K) fun t109 w =>
 DoX Tryd.prog (mLoad 25 t109) w (pk K) fun t110 w =>
 DoX Tryd.prog (mAlloc 25) w (pk K) fun t7 w =>
 DoX Tryd.prog (mStore 25 t7 t110) w (pk K) fun _ w =>
 DoX Tryd.prog (mLoad 25 t7) w (pk K) fun t111 w =>
 DoX Tryd.prog (mBin .add 3 t1 (.int .i64 1)) w (pk K) fun t113 w =>
 CallX Tryd.prog 29 #[t111, t113] w (pk K) fun t114 w =>
 DoX Tryd.prog (mBin .add 3 t107 (.int .i64 1)) w (pk K) fun t115 w =>
 N1 [t115] w) (K (.returned (.tuple #[])) w)
def S_value_check (t0 t1 : Value) (w : World) (K : Ending → World → Prop) : Prop :=
 DoX Tryd.prog (mBox 25 t0) w (pk K) fun t2 w =>
 DoX Tryd.prog (mBin .leq 3 t1 (.int .i64 24)) w (pk K) fun t9 w =>
 CallX Tryd.prog 38 #[t9, (.int .i64 7)] w (pk K) fun t10 w =>
 DoX Tryd.prog (mFA 25 t2 0) w (pk K) fun t12 w =>
 DoX Tryd.prog (mLoad 3 t12) w (pk K) fun t13 w =>
 CallX Tryd.prog 39 #[t13] w (pk K) fun t14 w =>
 DoX Tryd.prog (mExt t14 0) w (pk K) fun t15 w =>
 DoX Tryd.prog (mExt t14 1) w (pk K) fun t16 w =>
 DoX Tryd.prog (mAlloc 71) w (pk K) fun t4 w =>
 DoX Tryd.prog (mStore 71 t4 t15) w (pk K) fun _ w =>
 GDo t16 true (fun E => DoX Tryd.prog (mFA 71 t4 0) w (pk K) E) w fun t19 w =>
 GDo t16 true (fun E => DoX Tryd.prog (mLoad 4 t19) w (pk K) E) w fun t20 w =>
 GDo t16 true (fun E => E t20 w) w fun t21 w =>
 GDo t21 false (fun E => DoX Tryd.prog (mFA 25 t2 1) w (pk K) E) w fun t22 w =>
 GDo t21 false (fun E => DoX Tryd.prog (mLoad 2 t22) w (pk K) E) w fun t23 w =>
 GDo t21 false (fun E => DoX Tryd.prog (mEq .eql 2 (.tmp 23) (.const (.int .i64 0)) t23 (.int .i64 0)) w (pk K) E) w fun t24 w =>
 GDo t16 true (fun E => DoX Tryd.prog (mPick t21 (.bool true) t24) w (pk K) E) w fun t25 w =>
 DoX Tryd.prog (mPick t16 t25 (.bool false)) w (pk K) fun t26 w =>
 GDo t26 true (fun E => DoX Tryd.prog (mFA 71 t4 1) w (pk K) E) w fun t28 w =>
 GDo t26 true (fun E => DoX Tryd.prog (mLoad 4 t28) w (pk K) E) w fun t29 w =>
 GDo t26 true (fun E => E t29 w) w fun t30 w =>
 GDo t30 false (fun E => DoX Tryd.prog (mFA 25 t2 2) w (pk K) E) w fun t31 w =>
 GDo t30 false (fun E => DoX Tryd.prog (mLoad 3 t31) w (pk K) E) w fun t32 w =>
 GDo t30 false (fun E => DoX Tryd.prog (mEq .eql 3 (.tmp 32) (.const (.int .i64 0)) t32 (.int .i64 0)) w (pk K) E) w fun t33 w =>
 GDo t26 true (fun E => DoX Tryd.prog (mPick t30 (.bool true) t33) w (pk K) E) w fun t34 w =>
 DoX Tryd.prog (mPick t26 t34 (.bool false)) w (pk K) fun t35 w =>
 GDo t35 true (fun E => DoX Tryd.prog (mFA 71 t4 2) w (pk K) E) w fun t37 w =>
 GDo t35 true (fun E => DoX Tryd.prog (mLoad 4 t37) w (pk K) E) w fun t38 w =>
 GDo t35 true (fun E => E t38 w) w fun t39 w =>
 GDo t39 false (fun E => DoX Tryd.prog (mFA 25 t2 3) w (pk K) E) w fun t40 w =>
 GDo t39 false (fun E => DoX Tryd.prog (mLoad 9 t40) w (pk K) E) w fun t41 w =>
 GDo t39 false (fun E => DoX Tryd.prog (mEq .eql 9 (.tmp 41) (.const (.string ⟨#[]⟩)) t41 (.string ⟨#[]⟩)) w (pk K) E) w fun t42 w =>
 GDo t35 true (fun E => DoX Tryd.prog (mPick t39 (.bool true) t42) w (pk K) E) w fun t43 w =>
 DoX Tryd.prog (mPick t35 t43 (.bool false)) w (pk K) fun t44 w =>
 GDo t44 true (fun E => DoX Tryd.prog (mFA 71 t4 3) w (pk K) E) w fun t46 w =>
 GDo t44 true (fun E => DoX Tryd.prog (mLoad 4 t46) w (pk K) E) w fun t47 w =>
 GDo t44 true (fun E => E t47 w) w fun t48 w =>
 GDo t48 false (fun E => DoX Tryd.prog (mFA 25 t2 4) w (pk K) E) w fun t49 w =>
 GDo t48 false (fun E => DoX Tryd.prog (mLoad 22 t49) w (pk K) E) w fun t50 w =>
 GDo t48 false (fun E => DoX Tryd.prog (mB .len #[22] 3 #[false] #[t50]) w (pk K) E) w fun t51 w =>
 GDo t48 false (fun E => DoX Tryd.prog (mEq .eql 3 (.tmp 51) (.const (.int .i64 0)) t51 (.int .i64 0)) w (pk K) E) w fun t52 w =>
 GDo t44 true (fun E => DoX Tryd.prog (mPick t48 (.bool true) t52) w (pk K) E) w fun t53 w =>
 DoX Tryd.prog (mPick t44 t53 (.bool false)) w (pk K) fun t54 w =>
 GDo t54 true (fun E => DoX Tryd.prog (mFA 71 t4 4) w (pk K) E) w fun t56 w =>
 GDo t54 true (fun E => DoX Tryd.prog (mLoad 4 t56) w (pk K) E) w fun t57 w =>
 GDo t54 true (fun E => E t57 w) w fun t58 w =>
 GDo t58 false (fun E => DoX Tryd.prog (mFA 25 t2 5) w (pk K) E) w fun t59 w =>
 GDo t58 false (fun E => DoX Tryd.prog (mLoad 23 t59) w (pk K) E) w fun t60 w =>
 GDo t58 false (fun E => DoX Tryd.prog (mB .len #[23] 3 #[false] #[t60]) w (pk K) E) w fun t61 w =>
 GDo t58 false (fun E => DoX Tryd.prog (mEq .eql 3 (.tmp 61) (.const (.int .i64 0)) t61 (.int .i64 0)) w (pk K) E) w fun t62 w =>
 GDo t54 true (fun E => DoX Tryd.prog (mPick t58 (.bool true) t62) w (pk K) E) w fun t63 w =>
 DoX Tryd.prog (mPick t54 t63 (.bool false)) w (pk K) fun t64 w =>
 GDo t64 true (fun E => E t1 w) w fun t66 w =>
 GDo t64 true (fun E => DoX Tryd.prog (mEq .eql 3 (.tmp 66) (.const (.int .i64 1)) t66 (.int .i64 1)) w (pk K) E) w fun t67 w =>
 GDo t64 true (fun E => E t67 w) w fun t68 w =>
 GDo t68 false (fun E => DoX Tryd.prog (mFA 25 t2 0) w (pk K) E) w fun t69 w =>
 GDo t68 false (fun E => DoX Tryd.prog (mLoad 3 t69) w (pk K) E) w fun t70 w =>
 GDo t68 false (fun E => DoX Tryd.prog (mEq .neq 3 (.tmp 70) (.const (.int .i64 9)) t70 (.int .i64 9)) w (pk K) E) w fun t71 w =>
 GDo t64 true (fun E => DoX Tryd.prog (mPick t68 (.bool true) t71) w (pk K) E) w fun t72 w =>
 DoX Tryd.prog (mPick t64 t72 (.bool false)) w (pk K) fun t73 w =>
 CallX Tryd.prog 38 #[t73, (.int .i64 10)] w (pk K) fun t74 w =>
 DoX Tryd.prog (mLoad 25 t2) w (pk K) fun t75 w =>
 CallX Tryd.prog 40 #[t75] w (pk K) fun t76 w =>
 CallX Tryd.prog 38 #[t76, (.int .i64 2)] w (pk K) fun t77 w =>
 DoX Tryd.prog (mLoad 25 t2) w (pk K) fun t78 w =>
 CallX Tryd.prog 41 #[t78] w (pk K) fun t79 w =>
 CallX Tryd.prog 38 #[t79, (.int .i64 5)] w (pk K) fun t80 w =>
 DoX Tryd.prog (mFA 25 t2 5) w (pk K) fun t81 w =>
 DoX Tryd.prog (mLoad 23 t81) w (pk K) fun t82 w =>
 DoX Tryd.prog (mB .len #[23] 3 #[false] #[t82]) w (pk K) fun t83 w =>
 DoX Tryd.prog (mBin .leq 3 t83 (.int .i64 8191)) w (pk K) fun t84 w =>
 CallX Tryd.prog 38 #[t84, (.int .i64 6)] w (pk K) fun t85 w =>
 DoX Tryd.prog (mFA 25 t2 0) w (pk K) fun t86 w =>
 DoX Tryd.prog (mLoad 3 t86) w (pk K) fun t87 w =>
 DoX Tryd.prog (mEq .neq 3 (.tmp 87) (.const (.int .i64 5)) t87 (.int .i64 5)) w (pk K) fun t88 w =>
 GDo t88 false (fun E => DoX Tryd.prog (mFA 25 t2 3) w (pk K) E) w fun t90 w =>
 GDo t88 false (fun E => DoX Tryd.prog (mLoad 9 t90) w (pk K) E) w fun t91 w =>
 GDo t88 false (fun E => CallX Tryd.prog 42 #[t91] w (pk K) E) w fun t92 w =>
 DoX Tryd.prog (mPick t88 (.bool true) t92) w (pk K) fun t93 w =>
 GDo t93 true (fun E => DoX Tryd.prog (mFA 71 t4 3) w (pk K) E) w fun t95 w =>
 GDo t93 true (fun E => DoX Tryd.prog (mLoad 4 t95) w (pk K) E) w fun t96 w =>
 GDo t93 true (fun E => DoX Tryd.prog (mUn .not t96) w (pk K) E) w fun t97 w =>
 GDo t93 true (fun E => E t97 w) w fun t98 w =>
 GDo t98 false (fun E => DoX Tryd.prog (mLoad 25 t2) w (pk K) E) w fun t99 w =>
 GDo t98 false (fun E => CallX Tryd.prog 43 #[t99] w (pk K) E) w fun t100 w =>
 GDo t93 true (fun E => DoX Tryd.prog (mPick t98 (.bool true) t100) w (pk K) E) w fun t101 w =>
 DoX Tryd.prog (mPick t93 t101 (.bool false)) w (pk K) fun t102 w =>
 CallX Tryd.prog 38 #[t102, (.int .i64 3)] w (pk K) fun t103 w =>
 DoX Tryd.prog (mFA 25 t2 5) w (pk K) fun t104 w =>
 DoX Tryd.prog (mLoad 23 t104) w (pk K) fun t105 w =>
 DoX Tryd.prog (mB .len #[23] 3 #[false] #[t105]) w (pk K) fun t106 w =>
 LoopX [(.int .i64 0)] w (fun vs1 w N1 => ∀ _ : Sg, S_value_check_0 t1 t105 t106 (vs1.getD 0 undef) w N1 K)
theorem S_value_check_eq (t0 t1 : Value) (w : World) (K : Ending → World → Prop) : wpX Tryd.prog 116 [] [(9, [107])] none (bodyOf Tryd.f29) (topQ Tryd.prog [] K) (startX [t0, t1]) [] w = S_value_check t0 t1 w K := by kernel_rfl
theorem S_value_check_ok {t0 t1 : Value} {w : World} {K : Ending → World → Prop} (h : S_value_check t0 t1 w K) : Calls Tryd.prog 29 #[t0, t1] w K :=
  calls_of_wpX Tryd.func29 rfl rfl rfl rfl (Eq.mpr (S_value_check_eq t0 t1 w K) h)

/- value.Check$1 -/
def S_value_Check_1 (t0 : Value) (w : World) (K : Ending → World → Prop) : Prop :=
 DoX Tryd.prog (mLoad 25 t0) w (pk K) fun t1 w =>
 CallX Tryd.prog 29 #[t1, (.int .i64 1)] w (pk K) fun t2 w =>
 K (.returned (.tuple #[])) w
theorem S_value_Check_1_eq (t0 : Value) (w : World) (K : Ending → World → Prop) : wpX Tryd.prog 3 [] [] none (bodyOf Tryd.f28) (topQ Tryd.prog [] K) (startX [t0]) [] w = S_value_Check_1 t0 w K := by kernel_rfl
theorem S_value_Check_1_ok {t0 : Value} {w : World} {K : Ending → World → Prop} (h : S_value_Check_1 t0 w K) : Calls Tryd.prog 28 #[t0] w K :=
  calls_of_wpX Tryd.func28 rfl rfl rfl rfl (Eq.mpr (S_value_Check_1_eq t0 w K) h)

/- value.caught$1 -/
def S_value_caught_1 (t0 r : Value) (w : World) (K : Ending → World → Prop) : Prop :=
 DoX Tryd.prog (mEq .eql 20 (.tmp 4) (.const .nilIface) r .nilIface) w (pk K) fun t6 w =>
 IfX t6 (K (.returned (.tuple #[])) w) (DoX Tryd.prog (mTA r 20 68 true) w (pk K) fun t7 w =>
 DoX Tryd.prog (mExt t7 1) w (pk K) fun t8 w =>
 DoX Tryd.prog (mExt t7 0) w (pk K) fun t9 w =>
 IfX t8 (DoX Tryd.prog (mAlloc 68) w (pk K) fun t2 w =>
 DoX Tryd.prog (mStore 68 t2 t9) w (pk K) fun _ w =>
 DoX Tryd.prog (mFA 68 t2 0) w (pk K) fun t10 w =>
 DoX Tryd.prog (mLoad 28 t10) w (pk K) fun t11 w =>
 DoX Tryd.prog (mStore 28 t0 t11) w (pk K) fun _ w =>
 K (.returned (.tuple #[])) w) (DoX Tryd.prog (mPanic r) w (pk K) fun _ w =>
 K (.returned (.tuple #[])) w))
theorem S_value_caught_1_eq (t0 r : Value) (w : World) (K : Ending → World → Prop) : wpX Tryd.prog 12 [] [] none (sndOf (bodyOf Tryd.f37)) (topD Tryd.prog [] K) (upd (startX [t0]) 4 r) [] w = S_value_caught_1 t0 r w K := by kernel_rfl
theorem S_value_caught_1_dok {t0 : Value} {u : FrameMode} {w : World} {R : Ending → FrameMode → World → Prop} (h : S_value_caught_1 t0 (recV u) w (fun e w => R e (recM u) w)) : CallsD Tryd.prog 37 #[t0] u w R :=
  callsD_recover Tryd.func37 rfl rfl rfl rfl rfl rfl rfl rfl (Eq.mpr (S_value_caught_1_eq t0 (recV u) w _) h)

/- value.caught -/
def S_value_caught_p0 (x0 : Deferred) (x1 : Value) (K : Ending → World → Prop) := pd Tryd.prog [.cell x1 28] K [x0]
def S_value_caught (t0 : Value) (w : World) (K : Ending → World → Prop) : Prop :=
 DoX Tryd.prog (mAlloc 28) w (pk K) fun t2 w =>
 DoX Tryd.prog (mFunc (.func 37) #[] #[t2]) w (pk K) fun t3 w =>
 DfrX (dfrV t3 #[]) (fun d1 =>
 DoX Tryd.prog (mCallV t0 #[]) w (S_value_caught_p0 d1 t2 K) fun t5 w =>
 DoX Tryd.prog (mStore 28 t2 (.int .i64 0)) w (S_value_caught_p0 d1 t2 K) fun _ w =>
 Leave Tryd.prog [.cell t2 28] K [d1] .returning w)
theorem S_value_caught_eq (t0 : Value) (w : World) (K : Ending → World → Prop) : wpX Tryd.prog 6 [] [] none (bodyOf Tryd.f27) (topQ Tryd.prog [.cell 2 28] K) (startX [t0]) [] w = S_value_caught t0 w K := by kernel_rfl
theorem S_value_caught_ok {t0 : Value} {w : World} {K : Ending → World → Prop} (h : S_value_caught t0 w K) : Calls Tryd.prog 27 #[t0] w K :=
  calls_of_wpX Tryd.func27 rfl rfl rfl rfl (Eq.mpr (S_value_caught_eq t0 w K) h)

/- value.Check -/
def S_value_Check (t0 : Value) (w : World) (K : Ending → World → Prop) : Prop :=
 DoX Tryd.prog (mBox 25 t0) w (pk K) fun t1 w =>
 DoX Tryd.prog (mFunc (.func 28) #[] #[t1]) w (pk K) fun t3 w =>
 CallX Tryd.prog 27 #[t3] w (pk K) fun t4 w =>
 K (.returned t4) w
theorem S_value_Check_eq (t0 : Value) (w : World) (K : Ending → World → Prop) : wpX Tryd.prog 5 [] [] none (bodyOf Tryd.f18) (topQ Tryd.prog [.tmp 2] K) (startX [t0]) [] w = S_value_Check t0 w K := by kernel_rfl
theorem S_value_Check_ok {t0 : Value} {w : World} {K : Ending → World → Prop} (h : S_value_Check t0 w K) : Calls Tryd.prog 18 #[t0] w K :=
  calls_of_wpX Tryd.func18 rfl rfl rfl rfl (Eq.mpr (S_value_Check_eq t0 w K) h)

end Go.Proofs.YtiklhhdohckfiaaDoor
/- Contracts: value (within, key, rising, fits, short, used, must, check, Check). -/
namespace Go.Proofs.YtiklhhdohckfiaaDoor
set_option linter.unusedVariables false
set_option linter.unusedSimpArgs false
set_option linter.defProp false
open Eng Go.RowKit
 attribute [local congr] g_congr

theorem within64_ret (n a b : Int) (w : World) : Ret Tryd.prog 54 #[.int .i64 n, .int .i64 a, .int .i64 b] w (fun v w' => v = .bool (decide (a ≤ n) && decide (n ≤ b)) ∧ w = w') := by
  refine ret_of fun K hK => S_value_within_int64_ok ?_
  unfold S_value_within_int64
  simp +contextual only [rs, gs]
  exact hK _ _ ⟨rfl, rfl⟩
theorem withinI_ret (n a b : Int) (w : World) : Ret Tryd.prog 55 #[.int .i64 n, .int .i64 a, .int .i64 b] w (fun v w' => v = .bool (decide (a ≤ n) && decide (n ≤ b)) ∧ w = w') := by
  refine ret_of fun K hK => S_value_within_int_ok ?_
  unfold S_value_within_int
  simp +contextual only [rs, gs]
  exact hK _ _ ⟨rfl, rfl⟩
theorem tw_self {p : UInt8 → Bool} : ∀ (s : List UInt8), s.takeWhile p = s → ∀ x ∈ s, p x = true
  | [], _, x, hx => by cases hx
  | a :: s, h, x, hx => by
    rw [List.takeWhile_cons] at h
    split at h
    · rename_i ha
      injection h with _ h
      rcases List.mem_cons.1 hx with rfl | hx
      · exact ha
      · exact tw_self s h x hx
    · cases h
theorem dw_head {p : UInt8 → Bool} : ∀ (s : List UInt8) {a : UInt8} {t : List UInt8}, s.dropWhile p = a :: t → p a = false
  | [], _, _, h => by cases h
  | b :: s, a, t, h => by
    rw [List.dropWhile_cons] at h
    split at h
    · exact dw_head s h
    · rename_i hb
      injection h with h _
      subst h
      simpa using hb
theorem vkey_ret (s : List UInt8) (w : World) : Ret Tryd.prog 42 #[.string ⟨s.toArray⟩] w (fun v w' => v = .bool (Vl.name s) ∧ w = w') := by
  refine ret_of fun K hK => S_value_key_ok ?_
  unfold S_value_key
  rw [s_len Tryd.underlying9, b_leq]
  by_cases h : (s.length : Int) ≤ 127
  · have hi : ∀ {K' : Value → World → Prop}, K' (.int .i64 (Lib.indexByte s 0)) w → CallX Tryd.prog 49 #[.string ⟨s.toArray⟩, .int .u8 0] w (pk K) K' := fun hk => c_eq (indexByte_ret s 0 w) hk
    simp only [h, decide_true, rs]
    refine hi ?_
    simp only [rs]
    refine hK _ _ ⟨?_, rfl⟩
    rw [Vl.name, decide_eq_true (show s.length ≤ 127 by omega), Bool.true_and]
    congr 1
    rw [decide_eq_decide]
    rcases ix_cases 0 s with ⟨h1, h2, h3⟩ | ⟨i, h1, hil, h3, h4⟩
    · rw [h1]
      refine ⟨fun _ hm => ?_, fun _ => by decide⟩
      have := tw_self s h2 0 hm
      simp at this
    · rw [h1]
      refine ⟨fun h => by omega, fun hm => absurd ?_ hm⟩
      have hd : s.drop i = s[i] :: s.drop (i + 1) := List.drop_eq_getElem_cons hil
      have h0 : s[i] = 0 := by
        have := dw_head s (h4.trans hd)
        simpa using this
      exact h0 ▸ List.getElem_mem hil
  · simp only [h, decide_false, rs, g_un]
    refine hK _ _ ⟨?_, rfl⟩
    rw [Vl.name, decide_eq_false (show ¬ s.length ≤ 127 by omega)]; rfl
theorem vrising_ret (o : Ob) (v : Value) (w : World) (h : OV (InW w) w v o) (hb : o.keys.length ≤ 9223372036854775807) :
    Ret Tryd.prog 43 #[v] w (fun v w' => v = .bool (Vl.rising o) ∧ Below w.heap.size w w') := by
  obtain ⟨vk, vc, cs, rfl, ha⟩ := h.open
  refine ret_of fun K hK => S_value_rising_ok ?_
  unfold S_value_rising
  refine o_obb o ha.keys.one ha.kids.one (Own.start w) fun b w1 ho => ?_
  have lk : ∀ {W : World} {L : List Ent}, Own w W L → ∀ {PK : List PanicEntry → World → Prop} {K : Value → World → Prop}, DoX Tryd.prog (mB .len #[22] 3 #[false] #[vk]) W PK K = K (.int .i64 (o.keys.length : Int)) W := fun ho => sl_len Tryd.underlying22 (ha.own ho).keys.1
  have lc : ∀ {W : World} {L : List Ent}, Own w W L → ∀ {PK : List PanicEntry → World → Prop} {K : Value → World → Prop}, DoX Tryd.prog (mB .len #[23] 3 #[false] #[vc]) W PK K = K (.int .i64 (o.kids.length : Int)) W := fun ho => sl_len Tryd.underlying23 (ha.own ho).kids.1
  simp only [rs, fa_o4, fa_o5, ob_keys ho 0 rfl, ob_kids ho 0 rfl, lk ho, lc ho]
  by_cases hlen : (o.keys.length : Int) ≠ (o.kids.length : Int)
  · simp only [decide_eq_true hlen, i_t]
    refine hK _ _ ⟨?_, ho.done⟩
    have : ¬ o.keys.length = o.kids.length := fun e => hlen (by rw [e])
    simp [Vl.rising, this]
  have hle : o.keys.length = o.kids.length := by omega
  simp only [decide_eq_false hlen, i_f]
  have hR : Vl.rising o = (List.range o.keys.length).all (Vl.keyAt o) := by simp [Vl.rising, hle]
  rw [hR] at hK
  refine loop (fun vs w' => ∃ (i : Nat), vs = [.int .i64 i] ∧ i ≤ o.keys.length ∧ (List.range i).all (Vl.keyAt o) = true ∧ Own w w' [obE b o vk vc]) (fun vs _ => o.keys.length - n0 vs) ⟨0, rfl, by omega, by simp, ho⟩ ?_
  rintro vs w2 ⟨i, rfl, hi, hall, ho⟩ _
  simp only [S_value_rising_0, gd, rs]
  by_cases hlt : (i : Int) < (o.keys.length : Int)
  · have hi' : i < o.keys.length := by omega
    simp only [hlt, decide_true, i_t]
    have ho2 := ha.own ho
    refine sl_ia1 (.string ⟨(o.keys[i]).toArray⟩) Tryd.underlying22 (by kernel_rfl) ho2.keys.1 (by omega) (by rw [Int.toNat_natCast]; exact strsV_get hi') fun q hq => ?_
    rw [l_cell nStr5 hq]
    refine c_eq (vkey_ret o.keys[i] w2) ?_
    obtain ⟨kb, koff, hia, hkc⟩ := run_kid_k ho2.kids.1 ho2.all (show i < o.kids.length by omega)
    have hlk : ∀ {PK : List PanicEntry → World → Prop} {K : Value → World → Prop}, DoX Tryd.prog (mLoad 3 (.pointer (some ⟨kb, koff, none⟩))) w2 PK K = K (.int .i64 o.kids[i].k) w2 := l_cell nInt5 hkc
    have hprev : decide (0 < (i : Int)) = true → ∃ (b' off' : Nat), (∀ {PK : List PanicEntry → World → Prop} {K : Value → World → Prop}, DoX Tryd.prog (mIA 22 vk (.int .i64 (IntKind.wrap .i64 ((i : Int) - 1)))) w2 PK K = K (.pointer (some ⟨b', off', none⟩)) w2) ∧
        (∀ {PK : List PanicEntry → World → Prop} {K : Value → World → Prop}, DoX Tryd.prog (mLoad 9 (.pointer (some ⟨b', off', none⟩))) w2 PK K = K (.string ⟨(o.keys.getD (i - 1) []).toArray⟩) w2) := by
      intro h
      have h := of_decide_eq_true h
      have hj : i - 1 < o.keys.length := by omega
      obtain ⟨b', off', cap', rfl, hc'⟩ := sl_open ho2.keys.1 (show 0 < o.keys.length by omega)
      refine ⟨b', off' + (i - 1), ?_, ?_⟩
      · intro PK K
        rw [wrap64_id (by omega) (by omega)]
        refine do_eq ?_
        rw [run_ia Tryd.underlying22 (show _ = some 1 by kernel_rfl) (by omega) (by omega), show ((i : Int) - 1).toNat * 1 = i - 1 by omega]
      · intro PK K
        rw [List.getD_eq_getElem?_getD, List.getElem?_eq_getElem hj]
        exact l_cell nStr5 (hc' _ _ (strsV_get hj))
    have hgi : o.keys.getD i [] = o.keys[i] := by rw [List.getD_eq_getElem?_getD, List.getElem?_eq_getElem hi']; rfl
    have hgk : o.kids.getD i (.mk 0 0 0 [] [] []) = o.kids[i]'(by omega) := by rw [List.getD_eq_getElem?_getD, List.getElem?_eq_getElem (by omega)]; rfl
    have tail : ∀ (q : Bool) (N : Prop), q = !(Vl.keyAt o i) → (Vl.keyAt o i = true → N) → IfX (.bool q) (K (.returned (.bool false)) w2) N := by
      intro q N hq hN
      cases hk : Vl.keyAt o i with
      | false =>
        rw [hk] at hq; subst hq
        rw [show (!false) = true from rfl, i_t]
        exact hK _ _ ⟨by rw [range_all_not hk hi'], ho.done⟩
      | true =>
        rw [hk] at hq; subst hq
        rw [show (!true) = false from rfl, i_f]
        exact hN hk
    have hki : Vl.keyAt o i = (Vl.name o.keys[i] && (decide (i = 0) || Vl.less (o.keys.getD (i - 1) []) o.keys[i]) && !(decide (o.k = 9) && decide (o.keys[i] = Vl.lenK)) && decide ((o.kids[i]'(by omega)).k ≠ 0)) := by
      rw [Vl.keyAt, hgi, hgk]
    by_cases hi0 : i = 0
    · have hz : decide (0 < (i : Int)) = false := by rw [decide_eq_false_iff_not]; omega
      simp +contextual only [rs, gs, hz, sel_sel, g_off, pick_orn, Bool.and_false, Bool.not_not, Bool.or_false, fa_o0, fa_o5, ob_k ho 0 rfl, ob_kids ho 0 rfl, hia, hlk, g_un, p_f]
      refine tail _ _ ?_ fun hk => ?_
      · rw [hki, decide_eq_true hi0]
        simp only [Bool.true_or, Bool.and_true, Vl.lenK, ne_eq, decide_not]
        generalize Vl.name o.keys[i] = a
        generalize decide (o.k = 9) = c
        generalize decide ((o.kids[i]'(by omega)).k = 0) = d
        by_cases hL : o.keys[i] = [76, 101, 110, 103, 116, 104] <;> simp only [hL, decide_true, decide_false] <;> cases a <;> cases c <;> cases d <;> rfl
      · rw [wrap64_id (by omega) (by omega)]
        exact nextX ⟨i + 1, rfl, by omega, by rw [range_all_succ, hall, hk]; rfl, ho⟩ (by simp [n0, intOf]; omega)
    · have hz : decide (0 < (i : Int)) = true := by rw [decide_eq_true_iff]; omega
      obtain ⟨b', off', hpa, hpl⟩ := hprev hz
      simp +contextual only [rs, gs, hz, sel_sel, g_off, pick_orn, Bool.and_false, Bool.not_not, Bool.or_false, fa_o0, fa_o4, fa_o5, ob_k ho 0 rfl, ob_keys ho 0 rfl, ob_kids ho 0 rfl, hia, hlk, hpa, hpl, g_un]
      refine tail _ _ ?_ fun hk => ?_
      · rw [hki, decide_eq_false hi0]
        simp only [Bool.false_or, Vl.lenK, ne_eq, decide_not]
        generalize Vl.name o.keys[i] = a
        generalize decide (o.k = 9) = c
        generalize decide ((o.kids[i]'(by omega)).k = 0) = d
        show _ = !(_ && Op.bytesLess (o.keys.getD (i - 1) []) o.keys[i] && _ && _)
        generalize Op.bytesLess (o.keys.getD (i - 1) []) o.keys[i] = e
        by_cases hL : o.keys[i] = [76, 101, 110, 103, 116, 104] <;> simp only [hL, decide_true, decide_false] <;> cases a <;> cases c <;> cases d <;> cases e <;> rfl
      · rw [wrap64_id (by omega) (by omega)]
        exact nextX ⟨i + 1, rfl, by omega, by rw [range_all_succ, hall, hk]; rfl, ho⟩ (by simp [n0, intOf]; omega)
  · simp only [hlt, decide_false, i_f]
    refine hK _ _ ⟨?_, ho.done⟩
    rw [show o.keys.length = i by omega, hall]
theorem vfits_ret (o : Ob) (v : Value) (w : World) (h : OV (InW w) w v o) : Ret Tryd.prog 40 #[v] w (fun v w' => v = .bool (Vl.fits o) ∧ Below w.heap.size w w') := by
  obtain ⟨vk, vc, cs, rfl, ha⟩ := h.open
  refine ret_of fun K hK => S_value_fits_ok ?_
  unfold S_value_fits
  refine o_obb o ha.keys.one ha.kids.one (Own.start w) fun b w1 ho => ?_
  simp only [fa_o0, ob_k ho 0 rfl, rs]
  by_cases k1 : o.k = 1
  · simp only [k1, decide_true, i_t, fa_o1, ob_n ho 0 rfl]
    refine c_eq (within64_ret _ _ _ w1) (hK _ _ ⟨?_, ho.done⟩)
    rw [Vl.fits, if_pos k1, Bool.decide_and]
  by_cases k2 : o.k = 2
  · simp only [k2, Int.reduceEq, decide_true, decide_false, i_t, i_f, fa_o1, ob_n ho 0 rfl]
    refine c_eq (within64_ret _ _ _ w1) (hK _ _ ⟨?_, ho.done⟩)
    rw [Vl.fits, if_neg k1, if_pos k2, Bool.decide_and]
  by_cases k3 : o.k = 3
  · simp only [k3, Int.reduceEq, decide_true, decide_false, i_t, i_f, fa_o1, ob_n ho 0 rfl]
    refine c_eq (within64_ret _ _ _ w1) (hK _ _ ⟨?_, ho.done⟩)
    rw [Vl.fits, if_neg k1, if_neg k2, if_pos k3, Bool.decide_and]
  by_cases k8 : o.k = 8
  · simp only [k8, Int.reduceEq, decide_true, decide_false, i_t, i_f, fa_o1, ob_n ho 0 rfl]
    refine c_eq (within64_ret _ _ _ w1) ?_
    have hf : Vl.fits o = (decide (1 ≤ o.n) && decide (o.n ≤ 8191) && (decide (0 ≤ o.g) && decide (o.g ≤ 65535))) := by
      rw [Vl.fits, if_neg k1, if_neg k2, if_neg k3, if_pos k8, Bool.decide_and, Bool.decide_and]
    rw [hf] at hK
    cases hc : (decide (1 ≤ o.n) && decide (o.n ≤ 8191)) with
    | false =>
      rw [hc] at hK
      rw [g_ft, g_ft, g_ft, p_f]
      exact hK _ _ ⟨rfl, ho.done⟩
    | true =>
      rw [hc] at hK
      rw [g_tt, fa_o2, g_tt, ob_g ho 0 rfl, g_tt]
      refine c_eq (withinI_ret _ _ _ w1) ?_
      rw [p_t]
      exact hK _ _ ⟨rfl, ho.done⟩
  simp only [k1, k2, k3, k8, decide_false, i_f]
  refine hK _ _ ⟨?_, ho.done⟩
  rw [Vl.fits, if_neg k1, if_neg k2, if_neg k3, if_neg k8]
def vShort (o : Ob) : Bool := if o.k = 4 then decide (o.s.length ≤ 32767) else if o.k = 5 then decide (o.s.length ≤ 127) else decide (o.s.length ≤ 1048576)
theorem vshort_ret (o : Ob) (v : Value) (w : World) (h : OV (InW w) w v o) : Ret Tryd.prog 41 #[v] w (fun v w' => v = .bool (vShort o) ∧ Below w.heap.size w w') := by
  obtain ⟨vk, vc, cs, rfl, ha⟩ := h.open
  refine ret_of fun K hK => S_value_short_ok ?_
  unfold S_value_short
  refine o_obb o ha.keys.one ha.kids.one (Own.start w) fun b w1 ho => ?_
  simp only [fa_o0, ob_k ho 0 rfl, rs]
  have hi : ∀ m : Nat, decide ((o.s.length : Int) ≤ (m : Int)) = decide (o.s.length ≤ m) := fun m => by rw [decide_eq_decide]; omega
  by_cases k4 : o.k = 4
  · simp only [k4, decide_true, i_t, fa_o3, ob_s ho 0 rfl, s_len Tryd.underlying9, rs]
    refine hK _ _ ⟨?_, ho.done⟩
    rw [vShort, if_pos k4, ← hi]; rfl
  by_cases k5 : o.k = 5
  · simp only [k5, Int.reduceEq, decide_true, decide_false, i_t, i_f, fa_o3, ob_s ho 0 rfl, s_len Tryd.underlying9, rs]
    refine hK _ _ ⟨?_, ho.done⟩
    rw [vShort, if_neg k4, if_pos k5, ← hi]; rfl
  simp only [k4, k5, decide_false, i_f, fa_o3, ob_s ho 0 rfl, s_len Tryd.underlying9, rs]
  refine hK _ _ ⟨?_, ho.done⟩
  rw [vShort, if_neg k4, if_neg k5, ← hi]; rfl
theorem short_long {o : Ob} (h : Vl.usesOk o = true) : vShort o = !decide (Vl.long o.k < o.s.length) := by
  have key : ∀ m : Nat, decide (o.s.length ≤ m) = !decide (m < o.s.length) := fun m => by
    rw [Bool.eq_iff_iff]; simp
  unfold vShort Vl.long
  by_cases k4 : o.k = 4
  · rw [if_pos k4, if_neg (by omega), if_neg (by omega), key]
  by_cases k5 : o.k = 5
  · rw [if_neg k4, if_pos k5, if_pos k5, key]
  by_cases k9 : o.k = 9
  · rw [if_neg k4, if_neg k5, if_neg k5, if_pos k9, key]
  have hs : o.s = [] := by
    unfold Vl.usesOk Vl.used at h
    revert h
    split
    · intro h; cases h
    · rename_i n g s ks cs he
      intro h
      simp only [Bool.and_eq_true, Bool.or_eq_true, decide_eq_true_eq] at h
      have hsf : s = false := by
        revert he
        repeat' split
        all_goals (intro he; first | (cases he; done) | skip)
        all_goals (simp only [Option.some.injEq, Prod.mk.injEq] at he; first | exact he.2.2.1.symm | omega)
      rcases h.1.1.2 with h1 | h1
      · rw [hsf] at h1; cases h1
      · exact h1
  rw [if_neg k4, if_neg k5, if_neg k5, if_neg k9, hs]; rfl
end Go.Proofs.YtiklhhdohckfiaaDoor
/- Contracts: value (used, must, check, caught, Check). -/
namespace Go.Proofs.YtiklhhdohckfiaaDoor
set_option linter.unusedVariables false
set_option linter.unusedSimpArgs false
set_option linter.defProp false
open Eng Go.RowKit
 attribute [local congr] g_congr

def uC (u : Bool × Bool × Bool × Bool × Bool) : List Value := [.bool u.1, .bool u.2.1, .bool u.2.2.1, .bool u.2.2.2.1, .bool u.2.2.2.2]
def uV (u : Bool × Bool × Bool × Bool × Bool) : Value := .agg (uC u).toArray
def uE (b : Nat) (u : Bool × Bool × Bool × Bool × Bool) : Ent := .cells b (uC u) 71
def u0 : Bool × Bool × Bool × Bool × Bool := (false, false, false, false, false)
theorem aggU : aggN Tryd.prog 71 = some 5 := by kernel_rfl
theorem szU : (Tryd.prog.info? 71).map (·.size) = some 5 := by kernel_rfl
theorem uC_one (u : Bool × Bool × Bool × Bool × Bool) : ∀ v ∈ uC u, v.oneCell' = true := by
  intro v hv
  simp only [uC, List.mem_cons, List.not_mem_nil, or_false] at hv
  rcases hv with rfl | rfl | rfl | rfl | rfl <;> rfl
theorem nBool : notAgg Tryd.prog 4 = true := by kernel_rfl
section
variable {w : World} {PK : List PanicEntry → World → Prop} {K : Value → World → Prop} {S : Nat → Prop} {w0 : World} {L : List Ent}
theorem fa_u0 {b : Nat} : DoX Tryd.prog (mFA 71 (.pointer (some ⟨b, 0, none⟩)) 0) w PK K = K (.pointer (some ⟨b, 0, none⟩)) w := f_addr (show fOff Tryd.prog 71 0 = some 0 by kernel_rfl)
theorem fa_u1 {b : Nat} : DoX Tryd.prog (mFA 71 (.pointer (some ⟨b, 0, none⟩)) 1) w PK K = K (.pointer (some ⟨b, 0 + 1, none⟩)) w := f_addr (show fOff Tryd.prog 71 1 = some 1 by kernel_rfl)
theorem fa_u2 {b : Nat} : DoX Tryd.prog (mFA 71 (.pointer (some ⟨b, 0, none⟩)) 2) w PK K = K (.pointer (some ⟨b, 0 + 2, none⟩)) w := f_addr (show fOff Tryd.prog 71 2 = some 2 by kernel_rfl)
theorem fa_u3 {b : Nat} : DoX Tryd.prog (mFA 71 (.pointer (some ⟨b, 0, none⟩)) 3) w PK K = K (.pointer (some ⟨b, 0 + 3, none⟩)) w := f_addr (show fOff Tryd.prog 71 3 = some 3 by kernel_rfl)
theorem fa_u4 {b : Nat} : DoX Tryd.prog (mFA 71 (.pointer (some ⟨b, 0, none⟩)) 4) w PK K = K (.pointer (some ⟨b, 0 + 4, none⟩)) w := f_addr (show fOff Tryd.prog 71 4 = some 4 by kernel_rfl)
theorem u_put (i : Nat) {b : Nat} {u : Bool × Bool × Bool × Bool × Bool} (u' : Bool × Bool × Bool × Bool × Bool) (ho : OwnS S w0 w L) (hi : L[i]? = some (uE b u)) (k : ∀ w', OwnS S w0 w' (L.set i (uE b u')) → K undef w') :
    DoX Tryd.prog (mStore 71 (.pointer (some ⟨b, 0, none⟩)) (uV u')) w PK K := o_put i ho hi (new := uC u') szU (uC_one u') rfl k
end
def usedV (k : Int) : Value := .tuple #[uV ((Vl.used k).getD u0), .bool (Vl.used k).isSome]
theorem vused_ret (k : Int) (w : World) : Ret Tryd.prog 39 #[.int .i64 k] w (fun v w' => v = usedV k ∧ Below w.heap.size w w') := by
  refine ret_of fun K hK => S_value_used_ok ?_
  unfold S_value_used
  refine o_new (fun b => .pointer (some ⟨b, 0, none⟩)) (uC u0) 71 (fun _ => by kernel_rfl) (Own.start w) fun b w1 ho => ?_
  have fin : ∀ (u : Bool × Bool × Bool × Bool × Bool) (ok : Bool), Vl.used k = (if ok then some u else none) → (ok = false → u = u0) → DoX Tryd.prog (mStore 71 (.pointer (some ⟨b, 0, none⟩)) (uV u)) w1 (pk K) fun _ w =>
      RetX Tryd.prog [.cell (.pointer (some ⟨b, 0, none⟩)) 71, .val (.bool ok)] w K := by
    intro u ok hu h0
    refine u_put 0 u ho rfl fun w2 ho => ?_
    refine ret_v2 (rv_cell (ho.agg 0 rfl aggU)) rv_val (hK _ _ ⟨?_, ho.done⟩)
    rw [usedV, hu]
    cases ok with
    | true => rfl
    | false => rw [h0 rfl]; rfl
  have b0 : ∀ {PK : List PanicEntry → World → Prop} {K : Value → World → Prop}, DoX Tryd.prog (mBuild 71 #[]) w1 PK K = K (uV u0) w1 := do_eq (by kernel_rfl)
  have b1 : ∀ {PK : List PanicEntry → World → Prop} {K : Value → World → Prop}, DoX Tryd.prog (mBuild 71 #[(0, .bool true)]) w1 PK K = K (uV (true, false, false, false, false)) w1 := do_eq (by kernel_rfl)
  have b2 : ∀ {PK : List PanicEntry → World → Prop} {K : Value → World → Prop}, DoX Tryd.prog (mBuild 71 #[(2, .bool true)]) w1 PK K = K (uV (false, false, true, false, false)) w1 := do_eq (by kernel_rfl)
  have b3 : ∀ {PK : List PanicEntry → World → Prop} {K : Value → World → Prop}, DoX Tryd.prog (mBuild 71 #[(4, .bool true)]) w1 PK K = K (uV (false, false, false, false, true)) w1 := do_eq (by kernel_rfl)
  have b4 : ∀ {PK : List PanicEntry → World → Prop} {K : Value → World → Prop}, DoX Tryd.prog (mBuild 71 #[(3, .bool true), (4, .bool true)]) w1 PK K = K (uV (false, false, false, true, true)) w1 := do_eq (by kernel_rfl)
  have b5 : ∀ {PK : List PanicEntry → World → Prop} {K : Value → World → Prop}, DoX Tryd.prog (mBuild 71 #[(0, .bool true), (1, .bool true)]) w1 PK K = K (uV (true, true, false, false, false)) w1 := do_eq (by kernel_rfl)
  have b6 : ∀ {PK : List PanicEntry → World → Prop} {K : Value → World → Prop}, DoX Tryd.prog (mBuild 71 #[(2, .bool true), (3, .bool true), (4, .bool true)]) w1 PK K = K (uV (false, false, true, true, true)) w1 := do_eq (by kernel_rfl)
  simp only [rs]
  by_cases k0 : k = 0
  · simp only [k0, decide_true, i_t, b0]
    exact fin _ true (by simp [Vl.used, k0, u0]) (by simp)
  simp only [k0, decide_false, i_f]
  refine join fun J hJ => ?_
  by_cases k123 : k = 1 ∨ k = 2 ∨ k = 3
  · have : J [.bool true] w1 := by
      refine hJ _ _ fun _ => ?_
      simp only [S_value_used_0, gd, i_t, b1]
      exact fin _ true (by simp [Vl.used, k0, k123]) (by simp)
    by_cases k1 : k = 1
    · simp only [k1, decide_true, i_t]; exact this
    by_cases k2 : k = 2
    · simp only [k2, Int.reduceEq, decide_true, decide_false, i_t, i_f]; exact this
    have k3 : k = 3 := by omega
    simp only [k3, Int.reduceEq, decide_true, decide_false, i_t, i_f]; exact this
  have k1 : ¬ k = 1 := fun h => k123 (.inl h)
  have k2 : ¬ k = 2 := fun h => k123 (.inr (.inl h))
  have k3 : ¬ k = 3 := fun h => k123 (.inr (.inr h))
  simp only [k1, k2, k3, decide_false, i_f]
  refine hJ _ _ fun _ => ?_
  clear hJ
  simp only [S_value_used_0, gd, i_f, rs]
  refine join fun J hJ => ?_
  by_cases k45 : k = 4 ∨ k = 5
  · have : J [.bool true] w1 := by
      refine hJ _ _ fun _ => ?_
      simp only [S_value_used_1, gd, i_t, b2]
      exact fin _ true (by simp [Vl.used, k0, k1, k2, k3, k45]) (by simp)
    by_cases k4 : k = 4
    · simp only [k4, decide_true, i_t]; exact this
    have k5 : k = 5 := by omega
    simp only [k5, Int.reduceEq, decide_true, decide_false, i_t, i_f]; exact this
  have k4 : ¬ k = 4 := fun h => k45 (.inl h)
  have k5 : ¬ k = 5 := fun h => k45 (.inr h)
  simp only [k4, k5, decide_false, i_f]
  refine hJ _ _ fun _ => ?_
  clear hJ
  simp only [S_value_used_1, gd, i_f, rs]
  by_cases k6 : k = 6
  · simp only [k6, decide_true, i_t, b3]
    exact fin _ true (by simp [Vl.used, k6]) (by simp)
  by_cases k7 : k = 7
  · simp only [k7, Int.reduceEq, decide_true, decide_false, i_t, i_f, b4]
    exact fin _ true (by simp [Vl.used, k7]) (by simp)
  by_cases k8 : k = 8
  · simp only [k8, Int.reduceEq, decide_true, decide_false, i_t, i_f, b5]
    exact fin _ true (by simp [Vl.used, k8]) (by simp)
  by_cases k9 : k = 9
  · simp only [k9, Int.reduceEq, decide_true, decide_false, i_t, i_f, b6]
    exact fin _ true (by simp [Vl.used, k9]) (by simp)
  simp only [k6, k7, k8, k9, decide_false, i_f, b0]
  exact fin _ false (by simp [Vl.used, k0, k123, k45, k6, k7, k8, k9]) (by simp)
theorem used_keys {k : Int} {n g s ks cs : Bool} (h : Vl.used k = some (n, g, s, ks, cs)) : ks = decide (k = 7 ∨ k = 9) := by
  revert h
  unfold Vl.used
  repeat' split
  all_goals (intro h; first | (cases h; done) | skip)
  all_goals simp only [Option.some.injEq, Prod.mk.injEq] at h
  all_goals rw [← h.2.2.2.1]
  all_goals symm
  all_goals first | (rw [decide_eq_false_iff_not]; omega) | (rw [decide_eq_true_iff]; omega)
abbrev badE (e : Int) : PanicEntry := { v := .iface 68 (.agg #[.int .i64 e]), recovered := false }
/-- must(q, e). -/
theorem c_must {q r : Bool} {e : Int} {w : World} {PK : List PanicEntry → World → Prop} {K : Value → World → Prop} (h : q = r) (hok : r = true → K (.tuple #[]) w) (hbad : r = false → PK [badE e] w) : CallX Tryd.prog 38 #[.bool q, .int .i64 e] w PK K := by
  subst h
  refine c_any (S_value_must_ok (K := fun e' w' => (q = true → e' = .returned (.tuple #[]) ∧ w' = w) ∧ (q = false → e' = .panicked [badE e] ∧ w' = w)) ?_) ?_
  · unfold S_value_must
    cases q with
    | true =>
      rw [u_not, show (!true) = false from rfl, i_f]
      exact ⟨fun _ => ⟨rfl, rfl⟩, fun h => by cases h⟩
    | false =>
      rw [u_not, show (!false) = true from rfl, i_t]
      have hb : ∀ {PK : List PanicEntry → World → Prop} {K : Value → World → Prop}, DoX Tryd.prog (mBuild 68 #[(0, .int .i64 e)]) w PK K = K (.agg #[.int .i64 e]) w := do_eq (by kernel_rfl)
      rw [hb, m_iface (show notIface Tryd.prog 68 = true by kernel_rfl), m_panic]
      exact ⟨fun h => (by cases h), fun _ => ⟨rfl, rfl⟩⟩
  · rintro e' w' ⟨h1, h2⟩
    cases q with
    | true => obtain ⟨rfl, rfl⟩ := h1 rfl; exact hok rfl
    | false => obtain ⟨rfl, rfl⟩ := h2 rfl; exact hbad rfl
end Go.Proofs.YtiklhhdohckfiaaDoor
/- Contracts: value (check, Check). -/
namespace Go.Proofs.YtiklhhdohckfiaaDoor
set_option linter.unusedVariables false
set_option linter.unusedSimpArgs false
set_option linter.defProp false
open Eng Go.RowKit
 attribute [local congr] g_congr

theorem vcheck_any (n : Nat) : ∀ (o : Ob) (v : Value) (d : Nat) (w : World) (K : Ending → World → Prop), o.wt ≤ n → OV (InW w) w v o → o.wt ≤ 4611686018427387904 → 1 ≤ d → d ≤ 1000 →
    (Vl.check d o = 0 → ∀ w', Below w.heap.size w w' → K (.returned (.tuple #[])) w') → (Vl.check d o ≠ 0 → ∀ w', Below w.heap.size w w' → K (.panicked [badE (Vl.check d o)]) w') →
    Calls Tryd.prog 29 #[v, .int .i64 (d : Int)] w K := by
  induction n with
  | zero => intro o v d w K h; have := o.wt_pos; omega
  | succ n ih =>
  intro o v d w K hn hov hb hd1 hd hok hbad
  obtain ⟨vk, vc, cs, rfl, ha⟩ := hov.open
  refine S_value_check_ok ?_
  unfold S_value_check
  refine o_obb o ha.keys.one ha.kids.one (Own.start w) fun b w1 ho => ?_
  have out : ∀ (e : Int) (W : World) (L : List Ent), Own w W L → Vl.why d o = e → e ≠ 0 → (pk K) [badE e] W := by
    intro e W L ho h1 h2
    have h3 : Vl.check d o = e := by rw [why_pos (by rw [h1]; exact h2), h1]
    rw [h3] at hbad
    exact hbad h2 W ho.done
  rw [b_leq]
  refine c_must (r := decide (d ≤ 24)) (by rw [decide_eq_decide]; omega) (fun h24 => ?_) fun h24 => out 7 w1 _ ho (by rw [Vl.why, if_pos (by have := of_decide_eq_false h24; omega)]) (by decide)
  have h24' : ¬ 24 < d := by have := of_decide_eq_true h24; omega
  rw [fa_o0, ob_k ho 0 rfl]
  refine c_told (vused_ret o.k w1) rfl ho fun w2 ho => ?_
  simp only [usedV, ex]
  refine o_new (fun b => .pointer (some ⟨b, 0, none⟩)) (uC u0) 71 (fun _ => by kernel_rfl) ho fun b4 w3 ho => ?_
  refine u_put 0 ((Vl.used o.k).getD u0) ho rfl fun w4 ho => ?_
  have ho : Own w w4 [uE b4 ((Vl.used o.k).getD u0), obE b o vk vc] := ho
  have bad10 : (Vl.usesOk o = false ∨ (o.k = 9 ∧ 1 < d)) → (pk K) [badE 10] w4 := fun h => out 10 w4 _ ho (by rw [Vl.why, if_neg h24', if_pos h]) (by decide)
  have lk : ∀ {W : World} {L : List Ent}, Own w W L → ∀ {PK : List PanicEntry → World → Prop} {K : Value → World → Prop}, DoX Tryd.prog (mB .len #[22] 3 #[false] #[vk]) W PK K = K (.int .i64 (o.keys.length : Int)) W := fun ho => sl_len Tryd.underlying22 (ha.own ho).keys.1
  have lc : ∀ {W : World} {L : List Ent}, Own w W L → ∀ {PK : List PanicEntry → World → Prop} {K : Value → World → Prop}, DoX Tryd.prog (mB .len #[23] 3 #[false] #[vc]) W PK K = K (.int .i64 (o.kids.length : Int)) W := fun ho => sl_len Tryd.underlying23 (ha.own ho).kids.1
  cases hu : Vl.used o.k with
  | none =>
    have hb10 := bad10 (.inl (by rw [Vl.usesOk, hu]))
    simp only [Option.isSome_none, rs, g_un]
    exact c_must (r := false) rfl (fun h => by cases h) fun _ => hb10
  | some u =>
  obtain ⟨un, ug, us, uks, ucs⟩ := u
  rw [hu, Option.getD_some] at ho
  have hUo : Vl.usesOk o = ((un || decide (o.n = 0)) && (ug || decide (o.g = 0)) && (us || decide (o.s = [])) && (uks || decide (o.keys = [])) && (ucs || decide (o.kids.length = 0))) := by rw [Vl.usesOk, hu]
  have l0 : ∀ {PK : List PanicEntry → World → Prop} {K : Value → World → Prop}, DoX Tryd.prog (mLoad 4 (.pointer (some ⟨b4, 0, none⟩))) w4 PK K = K (.bool un) w4 := l_cell nBool (ho.cell 0 rfl 0 rfl)
  have l1 : ∀ {PK : List PanicEntry → World → Prop} {K : Value → World → Prop}, DoX Tryd.prog (mLoad 4 (.pointer (some ⟨b4, 0 + 1, none⟩))) w4 PK K = K (.bool ug) w4 := l_cell nBool (ho.cell 0 rfl 1 rfl)
  have l2 : ∀ {PK : List PanicEntry → World → Prop} {K : Value → World → Prop}, DoX Tryd.prog (mLoad 4 (.pointer (some ⟨b4, 0 + 2, none⟩))) w4 PK K = K (.bool us) w4 := l_cell nBool (ho.cell 0 rfl 2 rfl)
  have l3 : ∀ {W : World} {L : List Ent}, Own w W (uE b4 (un, ug, us, uks, ucs) :: L) → ∀ {PK : List PanicEntry → World → Prop} {K : Value → World → Prop}, DoX Tryd.prog (mLoad 4 (.pointer (some ⟨b4, 0 + 3, none⟩))) W PK K = K (.bool uks) W := fun ho => l_cell nBool (ho.cell 0 rfl 3 rfl)
  have l4 : ∀ {PK : List PanicEntry → World → Prop} {K : Value → World → Prop}, DoX Tryd.prog (mLoad 4 (.pointer (some ⟨b4, 0 + 4, none⟩))) w4 PK K = K (.bool ucs) w4 := l_cell nBool (ho.cell 0 rfl 4 rfl)
  simp +contextual only [Option.isSome_some, rs, gs, sel_sel, g_off, pick_orn, Bool.and_false, Bool.not_not, Bool.or_false, fa_u0, fa_u1, fa_u2, fa_u3, fa_u4, l0, l1, l2, l3 ho, l4, fa_o0, fa_o1, fa_o2, fa_o3, fa_o4, fa_o5, ob_k ho 1 rfl, ob_n ho 1 rfl, ob_g ho 1 rfl, ob_s ho 1 rfl, ob_keys ho 1 rfl, ob_kids ho 1 rfl, lk ho, lc ho, e_nil]
  refine c_must (r := Vl.usesOk o && !(decide (o.k = 9) && decide (1 < d))) ?_ (fun hq => ?_) fun hq => ?_
  · rw [hUo, ilen0 o.keys, ilenN o.kids]
    congr 1
    by_cases h9 : o.k = 9
    · simp only [h9, ne_eq, not_true, decide_false, Bool.or_false, decide_true, Bool.true_and]
      rw [Bool.eq_iff_iff]; simp; omega
    · simp only [h9, ne_eq, not_false_eq_true, decide_true, Bool.or_true, decide_false, Bool.false_and, Bool.not_false]
  rotate_left
  · refine bad10 ?_
    rw [Bool.and_eq_false_iff] at hq
    rcases hq with h | h
    · exact .inl h
    · right
      have : (decide (o.k = 9) && decide (1 < d)) = true := by simpa using h
      rw [Bool.and_eq_true] at this
      exact ⟨of_decide_eq_true this.1, of_decide_eq_true this.2⟩
  rw [Bool.and_eq_true] at hq
  obtain ⟨huo, hq9⟩ := hq
  have hno : ¬ (Vl.usesOk o = false ∨ (o.k = 9 ∧ 1 < d)) := by
    rintro (h | ⟨h1, h2⟩)
    · rw [huo] at h; cases h
    · rw [decide_eq_true h1, decide_eq_true h2] at hq9; cases hq9
  rw [ob_v ho 1 rfl]
  refine c_told (vfits_ret o _ w4 (ha.in_ ho).ov) rfl ho fun w5 ho => ?_
  refine c_must (r := Vl.fits o) rfl (fun hfi => ?_) fun hfi => out 2 w5 _ ho (by rw [Vl.why, if_neg h24', if_neg hno, if_pos hfi]) (by decide)
  have hfi' : ¬ Vl.fits o = false := by rw [hfi]; decide
  rw [ob_v ho 1 rfl]
  refine c_told (vshort_ret o _ w5 (ha.in_ ho).ov) rfl ho fun w6 ho => ?_
  refine c_must (r := !decide (Vl.long o.k < o.s.length)) (short_long huo) (fun hlo => ?_) fun hlo => out 5 w6 _ ho (by rw [Vl.why, if_neg h24', if_neg hno, if_neg hfi', if_pos (by simpa using hlo)]) (by decide)
  have hlo' : ¬ Vl.long o.k < o.s.length := by simpa using hlo
  rw [ob_kids ho 1 rfl, lc ho, b_leq]
  refine c_must (r := decide (o.kids.length ≤ 8191)) (by rw [decide_eq_decide]; omega) (fun hm => ?_) fun hm => out 6 w6 _ ho (by rw [Vl.why, if_neg h24', if_neg hno, if_neg hfi', if_neg hlo', if_pos (by have := of_decide_eq_false hm; omega)]) (by decide)
  have hm' : ¬ 8191 < o.kids.length := by have := of_decide_eq_true hm; omega
  rw [ob_k ho 1 rfl, n_int]
  have huk := used_keys hu
  -- behind the form: the kids
  have rest : ∀ (W : World), Vl.form o = true → Own w W [uE b4 (un, ug, us, uks, ucs), obE b o vk vc] →
      DoX Tryd.prog (mLoad 23 (.pointer (some ⟨b, 0 + 5, none⟩))) W (pk K) fun t105 w =>
      DoX Tryd.prog (mB .len #[23] 3 #[false] #[t105]) w (pk K) fun t106 w =>
      LoopX [(.int .i64 0)] w (fun vs1 w N1 => ∀ _ : Sg, S_value_check_0 (.int .i64 (d : Int)) t105 t106 (vs1.getD 0 undef) w N1 K) := by
    intro W hfo ho
    have hw0 : Vl.why d o = 0 := by rw [Vl.why, if_neg h24', if_neg hno, if_neg hfi', if_neg hlo', if_neg hm', if_neg (by rw [hfo]; decide)]
    have hch : Vl.check d o = Vl.checks (d + 1) o.kids := by rw [Vl.check_eq, if_neg (by simp [hw0])]
    rw [hch] at hok hbad
    rw [ob_kids ho 1 rfl, lc ho]
    refine loop (fun vs w' => ∃ (i : Nat), vs = [.int .i64 i] ∧ i ≤ o.kids.length ∧ Vl.checks (d + 1) o.kids = Vl.checks (d + 1) (o.kids.drop i) ∧ Own w w' [uE b4 (un, ug, us, uks, ucs), obE b o vk vc]) (fun vs _ => o.kids.length - n0 vs) ⟨0, rfl, by omega, rfl, ho⟩ ?_
    rintro vs w6 ⟨i, rfl, hi, hT, ho⟩ _
    rw [hT] at hok hbad
    simp only [S_value_check_0, gd, rs]
    by_cases hlt : (i : Int) < (o.kids.length : Int)
    · have hi' : i < o.kids.length := by omega
      simp only [hlt, decide_true, i_t]
      rw [checks_drop _ _ _ hi'] at hok hbad hT
      have hai := ha.own ho
      refine ob_ia hai.kids.1 hai.all hi' fun v hv => ?_
      obtain ⟨vk', vc', cs', rfl, hkid⟩ := hv.open
      have ho6 := ho
      refine o_oba ho fun b7 w7 ho => ?_
      refine ob_put 0 hkid.keys.one hkid.kids.one ho rfl fun w8 ho => ?_
      have ho : Own w w8 [obE b7 o.kids[i] vk' vc', uE b4 (un, ug, us, uks, ucs), obE b o vk vc] := ho
      rw [ob_v ho 0 rfl, wrap64_id (by omega) (by omega), show (d : Int) + 1 = ((d + 1 : Nat) : Int) by omega]
      have hkw := kid_wt hi'
      refine c_any (ih o.kids[i] _ (d + 1) w8 _ (by omega) (hkid.later ho6 ho).ov (by omega) (by omega) (by omega) (fun hc0 w9 hb9 => ?_) (fun hc0 w9 hb9 => ?_)) (fun _ _ h => h)
      · have ho := ho.grow hb9
        rw [if_neg (by simp [hc0])] at hT
        simp only [Cont, rs]
        rw [wrap64_id (by omega) (by omega)]
        exact nextX ⟨i + 1, rfl, by omega, hT, ho.tail⟩ (by simp [n0, intOf]; omega)
      · rw [if_pos hc0] at hbad
        exact hbad hc0 w9 (ho.grow hb9).done
    · simp only [hlt, decide_false, i_f]
      rw [List.drop_of_length_le (by omega), Vl.checks] at hok
      exact hok rfl w6 ho.done
  have bad3 : ∀ (W : World) (L : List Ent), Own w W L → Vl.form o = false → (pk K) [badE 3] W := fun W L ho h => out 3 W _ ho (by rw [Vl.why, if_neg h24', if_neg hno, if_neg hfi', if_neg hlo', if_neg hm', if_pos h]) (by decide)
  by_cases k5 : o.k = 5
  · have k79 : ¬ (o.k = 7 ∨ o.k = 9) := by omega
    have hks : uks = false := by rw [huk, decide_eq_false k79]
    have hf : Vl.form o = Vl.name o.s := by simp [Vl.form, k5]
    rw [show decide (o.k ≠ 5) = false by rw [decide_eq_false_iff_not]; omega, g_ff, ob_s ho 1 rfl, g_ff]
    refine c_eq (vkey_ret o.s w6) ?_
    rw [p_f]
    cases hnm : Vl.name o.s with
    | false =>
      rw [g_ft, g_ft, show sel (wants (Value.bool false) true) undef = undef from rfl, g_un, g_un, g_ft, p_f]
      exact c_must (r := false) rfl (fun h => by cases h) fun _ => bad3 w6 _ ho (by rw [hf, hnm])
    | true =>
      rw [g_tt, l3 ho, hks, g_tt, u_not, show (!false) = true from rfl, show sel (wants (Value.bool true) true) (Value.bool true) = .bool true from rfl, g_tf, g_tf, g_tt, p_t, p_t]
      exact c_must (r := true) rfl (fun _ => rest w6 (by rw [hf, hnm]) ho) fun h => by cases h
  · rw [show decide (o.k ≠ 5) = true by rw [decide_eq_true_iff]; exact k5, g_tf, g_tf, p_t, g_tt, l3 ho, g_tt, u_not]
    cases hks : uks with
    | false =>
      have k79 : ¬ (o.k = 7 ∨ o.k = 9) := by rw [huk, decide_eq_false_iff_not] at hks; exact hks
      rw [show (!false) = true from rfl, show sel (wants (Value.bool true) true) (Value.bool true) = .bool true from rfl, g_tf, g_tf, g_tt, p_t, p_t]
      rw [hks] at ho rest
      exact c_must (r := true) rfl (fun _ => rest w6 (by simp [Vl.form, k5, k79]) ho) fun h => by cases h
    | true =>
      have k79 : o.k = 7 ∨ o.k = 9 := by rw [huk, decide_eq_true_iff] at hks; exact hks
      have hf : Vl.form o = Vl.rising o := by simp [Vl.form, k5, k79]
      rw [show (!true) = false from rfl, show sel (wants (Value.bool true) true) (Value.bool false) = .bool false from rfl, g_ff, ob_v ho 1 rfl, g_ff]
      refine c_told (vrising_ret o _ w6 (ha.in_ ho).ov (by have := key_len (o := o); omega)) rfl ho fun w7 ho => ?_
      rw [g_tt, p_f, p_t]
      rw [hks] at ho rest
      exact c_must (r := Vl.form o) hf.symm (fun hfo => rest w7 hfo ho) fun h => bad3 w7 _ ho h
theorem caught_plain : plainB Tryd.prog 37 = true := by kernel_rfl
theorem leave_fn {rs : List RV} {K : Ending → World → Prop} {f : Nat} {args caps : Array Value} {ds : List Deferred} {u : FrameMode} (hu : u ≠ .run) (hp : plainB Tryd.prog f = true) {w : World}
    (h : CallsD Tryd.prog f (args ++ caps) u w fun
        | .returned _, u', w' => Leave Tryd.prog rs K ds (settle u') w'
        | .panicked chain, u', w' => Leave Tryd.prog rs K ds (raised u' chain) w'
        | .outgrown, _, _ => False) : Leave Tryd.prog rs K ({ target := .fn (.func f) caps, args := args } :: ds) u w :=
  ⟨hu, .func f, caps, f, args ++ caps, rfl, by simpa [invoke] using plain_run hp _ w, h⟩
theorem run_plain : plainB Tryd.prog 28 = true := by kernel_rfl
abbrev nErr5 : notAgg Tryd.prog 28 = true := by kernel_rfl
/-- value.caught, over the closure of value.Check. -/
theorem vCheck_ret (o : Ob) (v : Value) (w : World) (h : OV (InW w) w v o) (hb : o.wt ≤ 4611686018427387904) : Ret Tryd.prog 18 #[v] w (fun v w' => v = .int .i64 (Vl.check 1 o) ∧ Below w.heap.size w w') := by
  refine ret_of fun K hK => S_value_Check_ok ?_
  obtain ⟨vk, vc, cs, rfl, ha⟩ := h.open
  unfold S_value_Check
  refine o_obb o ha.keys.one ha.kids.one (Own.start w) fun b w1 ho => ?_
  rw [m_func]
  refine c_any (S_value_caught_ok (K := fun e w' => e = .returned (.int .i64 (Vl.check 1 o)) ∧ Below w.heap.size w w') ?_) ?_
  rotate_left
  · rintro e w' ⟨rfl, hb'⟩
    exact hK _ _ ⟨rfl, hb'⟩
  unfold S_value_caught
  refine o_new (fun b => .pointer (some ⟨b, 0, none⟩)) [.int .i64 0] 28 (fun _ => by kernel_rfl) ho fun b2 w2 ho => ?_
  rw [m_func]
  refine ⟨_, rfl, ?_⟩
  refine c_val run_plain ?_
  show CallX Tryd.prog _ #[.pointer (some ⟨b, 0, none⟩)] _ _ _
  refine c_any (S_value_Check_1_ok (K := fun e w' => (Vl.check 1 o = 0 → e = .returned (.tuple #[]) ∧ Below w2.heap.size w2 w') ∧ (Vl.check 1 o ≠ 0 → e = .panicked [badE (Vl.check 1 o)] ∧ Below w2.heap.size w2 w')) ?_) ?_
  · unfold S_value_Check_1
    rw [ob_v ho 1 rfl]
    refine c_any (vcheck_any o.wt o _ 1 w2 (fun e w' => (Vl.check 1 o = 0 → e = .returned (.tuple #[]) ∧ Below w2.heap.size w2 w') ∧ (Vl.check 1 o ≠ 0 → e = .panicked [badE (Vl.check 1 o)] ∧ Below w2.heap.size w2 w')) (Nat.le_refl _) (ha.in_ ho).ov hb (by omega) (by omega)
      (fun h0 w' hb' => ⟨fun _ => ⟨rfl, hb'⟩, fun h => absurd h0 h⟩) (fun h0 w' hb' => ⟨fun h => absurd h h0, fun _ => ⟨rfl, hb'⟩⟩)) ?_
    rintro e w' ⟨h1, h2⟩
    by_cases h0 : Vl.check 1 o = 0
    · obtain ⟨rfl, hb'⟩ := h1 h0; exact ⟨fun _ => ⟨rfl, hb'⟩, fun h => absurd h0 h⟩
    · obtain ⟨rfl, hb'⟩ := h2 h0; exact ⟨fun h => absurd h h0, fun _ => ⟨rfl, hb'⟩⟩
  rintro e w' ⟨h1, h2⟩
  by_cases h0 : Vl.check 1 o = 0
  · obtain ⟨rfl, hb'⟩ := h1 h0
    simp only [Cont]
    have ho := ho.grow hb'
    refine o_store 0 ho rfl (by kernel_rfl) rfl (by simp) fun w4 ho => ?_
    refine leave_fn (by simp) caught_plain (S_value_caught_1_dok ?_)
    simp only [S_value_caught_1, recV, recM, Eng.e_nil Tryd.underlying20, rs]
    refine ret_cell1 nErr5 (ho.cell 0 rfl 0 rfl) (And.intro ?_ ho.done)
    rw [h0]
  · obtain ⟨rfl, hb'⟩ := h2 h0
    simp only [Cont, S_value_caught_p0, pd]
    have ho := ho.grow hb'
    refine leave_fn (by simp) caught_plain (S_value_caught_1_dok ?_)
    simp only [S_value_caught_1, recV, recM, Eng.e_some Tryd.underlying20, rs, t_hit (show notIface Tryd.prog 68 = true by kernel_rfl),
      x_ext (show [Value.agg #[.int .i64 (Vl.check 1 o)], Value.bool true][1]? = some (Value.bool true) from rfl), x_ext (show [Value.agg #[.int .i64 (Vl.check 1 o)], Value.bool true][0]? = some (Value.agg #[.int .i64 (Vl.check 1 o)]) from rfl)]
    refine o_new (fun b => .pointer (some ⟨b, 0, none⟩)) [.int .i64 0] 68 (fun _ => by kernel_rfl) ho fun b5 w5 ho => ?_
    refine o_put 0 ho rfl (new := [.int .i64 (Vl.check 1 o)]) (show (Tryd.prog.info? 68).map (·.size) = some 1 by kernel_rfl) (by simp; rfl) rfl fun w6 ho => ?_
    rw [f_addr (show fOff Tryd.prog 68 0 = some 0 by kernel_rfl), l_cell nErr5 (ho.cell 0 rfl 0 rfl)]
    refine o_store 1 ho rfl (by kernel_rfl) rfl (by simp) fun w7 ho => ?_
    exact ret_cell1 nErr5 (ho.cell 1 rfl 0 rfl) (And.intro rfl ho.done)
end Go.Proofs.YtiklhhdohckfiaaDoor
/- Plain mathematics of layer 7: the parts of an object; no program in sight. -/
namespace Go.Proofs.YtiklhhdohckfiaaDoor
set_option linter.unusedVariables false
set_option linter.unusedSimpArgs false
set_option linter.defProp false
open Go
theorem Ob.len_wts : ∀ os : List Ob, os.length ≤ Ob.wts os
  | [] => by simp
  | o :: os => by
    have := Ob.len_wts os
    have : 1 ≤ o.wt := by cases o; rw [Ob.wt]; omega
    rw [Ob.wts, List.length_cons]; omega
theorem Ob.get_wts : ∀ (os : List Ob) (i : Nat) (hi : i < os.length), os[i].wt ≤ Ob.wts os
  | o :: os, 0, _ => by rw [Ob.wts]; show o.wt ≤ _; omega
  | o :: os, i + 1, hi => by
    have := Ob.get_wts os i (by simpa using hi)
    rw [Ob.wts, List.getElem_cons_succ]; omega
  | [], _, hi => by simp at hi
namespace Wr
def num (n : Int) : List UInt8 := (Pl.pInt n).1
def nul : List UInt8 := [110, 117, 108, 108]
def tru : List UInt8 := [116, 114, 117, 101]
def fal : List UInt8 := [102, 97, 108, 115, 101]
/-- An object without nested ones that is no reference. -/
def leaf (k n : Int) (s : List UInt8) : List UInt8 :=
  if k = 1 then (if n = 0 then fal else tru)
  else if k = 2 then num n
  else if k = 3 then (Pl.pReal n).1
  else if k = 4 then (Pl.pStr s).1
  else if k = 5 then (Pl.pName s).1
  else nul
 mutual
def parts : Ob → List (List UInt8)
  | .mk k n g s keys kids =>
    if k = 8 then [num n, num g, [82]]
    else if k = 6 then [91] :: (partsL kids ++ [[93]])
    else if k = 7 then [60, 60] :: (partsD keys kids ++ [[62, 62]])
    else [leaf k n s]
def partsL : List Ob → List (List UInt8)
  | [] => []
  | o :: os => parts o ++ partsL os
def partsD (keys : List (List UInt8)) : List Ob → List (List UInt8)
  | [] => []
  | o :: os => match keys with
    | [] => []
    | key :: ks => (Pl.pName key).1 :: (parts o ++ partsD ks os)
end
theorem parts_eq (o : Ob) : parts o = if o.k = 8 then [num o.n, num o.g, [82]] else if o.k = 6 then [91] :: (partsL o.kids ++ [[93]]) else if o.k = 7 then [60, 60] :: (partsD o.keys o.kids ++ [[62, 62]]) else [leaf o.k o.n o.s] := by
  cases o; rw [parts]; rfl
theorem partsL_app : ∀ (a b : List Ob), partsL (a ++ b) = partsL a ++ partsL b
  | [], b => by simp [partsL]
  | o :: a, b => by rw [List.cons_append, partsL, partsL, partsL_app a b, List.append_assoc]
theorem partsL_succ (os : List Ob) (i : Nat) (h : i < os.length) : partsL (os.take (i + 1)) = partsL (os.take i) ++ parts os[i] := by
  rw [List.take_succ_eq_append_getElem h, partsL_app]; simp [partsL]
theorem partsD_succ : ∀ (ks : List (List UInt8)) (os : List Ob) (i : Nat) (h1 : i < ks.length) (h2 : i < os.length), partsD (ks.take (i + 1)) (os.take (i + 1)) = partsD (ks.take i) (os.take i) ++ (Pl.pName ks[i]).1 :: parts os[i]
  | key :: ks, o :: os, 0, _, _ => by simp [partsD]
  | key :: ks, o :: os, i + 1, h1, h2 => by
    rw [List.take_succ_cons, List.take_succ_cons, partsD, partsD_succ ks os i (by simpa using h1) (by simpa using h2), List.take_succ_cons, List.take_succ_cons, partsD]
    simp
  | [], _, _, h1, _ => by simp at h1
  | _, [], _, _, h2 => by simp at h2
theorem partsD_min : ∀ (ks : List (List UInt8)) (os : List Ob) (i : Nat), ks.length ≤ i ∨ os.length ≤ i → partsD (ks.take i) (os.take i) = partsD ks os
  | _, [], i, _ => by simp [partsD]
  | [], o :: os, i, _ => by
    cases i with
    | zero => simp [partsD]
    | succ i => simp [partsD]
  | key :: ks, o :: os, i, h => by
    cases i with
    | zero => simp at h
    | succ i =>
      rw [List.take_succ_cons, List.take_succ_cons, partsD, partsD, partsD_min ks os i (by simpa using h)]
theorem partsD_nil (os : List Ob) : partsD [] os = [] := by cases os <;> rw [partsD]
theorem partsD_split : ∀ (ks : List (List UInt8)) (os : List Ob) (i : Nat), partsD ks os = partsD (ks.take i) (os.take i) ++ partsD (ks.drop i) (os.drop i)
  | _, _, 0 => by simp [partsD]
  | _, [], i + 1 => by simp [partsD]
  | [], o :: os, i + 1 => by simp [partsD_nil]
  | key :: ks, o :: os, i + 1 => by
    rw [List.take_succ_cons, List.take_succ_cons, List.drop_succ_cons, List.drop_succ_cons, partsD, partsD, partsD_split ks os i]
    simp
theorem num_len (n : Int) : (num n).length ≤ 21 := by
  unfold num Pl.pInt
  split
  · exact Lib.itoa_length_le n (by omega) (by omega)
  · simp
theorem real_len (n : Int) : (Pl.pReal n).1.length ≤ 200 := by
  unfold Pl.pReal
  split
  · show (Fx.text n).length ≤ 200
    unfold Fx.text
    have h1 := Fx.row_len (n.natAbs / 10000) 1
    have h2 := Fx.fpart_len n.natAbs
    rw [if_pos (by assumption)]
    have h3 : (if n < 0 then ([45] : List UInt8) else []).length ≤ 1 := by split <;> simp
    simp only [List.length_append, List.length_cons, List.length_nil]; omega
  · simp
theorem str_len (s : List UInt8) : (Pl.pStr s).1.length ≤ 4 * s.length + 2 := by
  unfold Pl.pStr
  split
  · simp
  · have := Pl.flat_len Pl.esc 4 (fun c => (Pl.esc_len c).2) s
    simp [Pl.str]; simp at this; omega
theorem name_len (s : List UInt8) : (Pl.pName s).1.length ≤ 3 * s.length + 1 := by
  unfold Pl.pName
  split
  · simp
  split
  · simp
  · have := Pl.flat_len Pl.nmc 3 (fun c => (Pl.nmc_len c).2) s
    simp [Pl.name]; simp at this; omega
theorem leaf_len (k n : Int) (s : List UInt8) : (leaf k n s).length ≤ 200 + 4 * s.length := by
  unfold leaf
  split
  · split <;> simp [fal, tru] <;> omega
  split
  · have := num_len n; omega
  split
  · have := real_len n; omega
  split
  · have := str_len s; omega
  split
  · have := name_len s; omega
  · simp [nul]; omega
 mutual
theorem parts_len : ∀ o : Ob, (parts o).length + 3 ≤ o.wt
  | .mk k n g s keys kids => by
    have h1 := partsL_len kids
    have h2 := partsD_len keys kids
    have h3 := Ob.wts kids
    rw [parts, Ob.wt]
    split
    · simp; omega
    split
    · simp; omega
    split
    · simp; omega
    · simp; omega
theorem partsL_len : ∀ os : List Ob, (partsL os).length + 3 * os.length ≤ Ob.wts os
  | [] => by simp [partsL]
  | o :: os => by
    have := parts_len o
    have := partsL_len os
    rw [partsL, Ob.wts]; simp; omega
theorem partsD_len (keys : List (List UInt8)) : ∀ os : List Ob, (partsD keys os).length + 2 * os.length ≤ Ob.wts os
  | [] => by simp [partsD]
  | o :: os => by
    have := parts_len o
    cases keys with
    | nil => rw [partsD, Ob.wts]; have := partsD_len [] os; simp; omega
    | cons key ks => have := partsD_len ks os; rw [partsD, Ob.wts]; simp; omega
end
 mutual
theorem parts_tot : ∀ o : Ob, Pl.tot (parts o) ≤ 40 * o.wt
  | .mk k n g s keys kids => by
    have h1 := partsL_tot kids
    have h2 := partsD_tot keys kids
    rw [parts, Ob.wt]
    split
    · have := num_len n; have := num_len g
      simp [Pl.tot]; omega
    split
    · rw [show [91] :: (partsL kids ++ [[93]]) = [[91]] ++ (partsL kids ++ [[93]]) from rfl, Pl.tot_append, Pl.tot_append]; simp [Pl.tot] at *; omega
    split
    · rw [show [60, 60] :: (partsD keys kids ++ [[62, 62]]) = [[60, 60]] ++ (partsD keys kids ++ [[62, 62]]) from rfl, Pl.tot_append, Pl.tot_append]; simp [Pl.tot] at *; omega
    · have := leaf_len k n s
      simp [Pl.tot]; omega
theorem partsL_tot : ∀ os : List Ob, Pl.tot (partsL os) ≤ 40 * Ob.wts os
  | [] => by simp [partsL, Pl.tot]
  | o :: os => by
    have := parts_tot o
    have := partsL_tot os
    rw [partsL, Ob.wts, Pl.tot_append]; omega
theorem partsD_tot (keys : List (List UInt8)) : ∀ os : List Ob, Pl.tot (partsD keys os) ≤ 40 * Ob.wts os + 3 * Pl.tot keys
  | [] => by simp [partsD, Pl.tot]
  | o :: os => by
    have := parts_tot o
    cases keys with
    | nil => simp [partsD, Pl.tot]
    | cons key ks =>
      have := partsD_tot ks os
      have := name_len key
      rw [partsD, Ob.wts, show (Pl.pName key).1 :: (parts o ++ partsD ks os) = [(Pl.pName key).1] ++ (parts o ++ partsD ks os) from rfl, show key :: ks = [key] ++ ks from rfl, Pl.tot_append, Pl.tot_append, Pl.tot_append]
      simp [Pl.tot] at *; omega
end
/-- What Text answers: the text and the error. -/
def text (o : Ob) : List UInt8 × Int := if Vl.check 1 o ≠ 0 then ([], Vl.check 1 o) else if o.k = 9 then ([], 10) else (Pl.join (parts o), 0)
def many : List Ob → List UInt8 × Int
  | [] => ([], 0)
  | o :: os => if (text o).2 ≠ 0 then ([], (text o).2) else if (many os).2 ≠ 0 then ([], (many os).2) else ((text o).1 ++ [10] ++ (many os).1, 0)
def outs (os : List Ob) : List UInt8 := os.flatMap fun o => (text o).1 ++ [10]
theorem outs_snoc (os : List Ob) (o : Ob) : outs (os ++ [o]) = outs os ++ ((text o).1 ++ [10]) := by simp [outs]
theorem outs_succ (os : List Ob) (i : Nat) (h : i < os.length) : outs (os.take (i + 1)) = outs (os.take i) ++ ((text os[i]).1 ++ [10]) := by rw [List.take_succ_eq_append_getElem h, outs_snoc]
theorem text_len (o : Ob) : (text o).1.length ≤ 40 * o.wt := by
  unfold text
  split
  · simp
  split
  · simp
  · have := Pl.join_len (parts o)
    have := parts_tot o
    simp only; omega
theorem outs_len : ∀ os : List Ob, (outs os).length ≤ 41 * Ob.wts os
  | [] => by simp [outs]
  | o :: os => by
    have h1 := outs_len os
    have h2 := text_len o
    have h3 : 1 ≤ o.wt := by cases o; rw [Ob.wt]; omega
    have e : outs (o :: os) = ((text o).1 ++ [10]) ++ outs os := by simp [outs]
    rw [e, Ob.wts]
    simp; omega
theorem outs_take_len (os : List Ob) (i : Nat) : (outs (os.take i)).length ≤ (outs os).length := by
  have e : outs os = outs (os.take i) ++ outs (os.drop i) := by
    unfold outs; rw [← List.flatMap_append, List.take_append_drop]
  rw [e, List.length_append]; omega
theorem many_ok : ∀ os : List Ob, (∀ x ∈ os, (text x).2 = 0) → many os = (outs os, 0)
  | [], _ => by simp [many, outs]
  | o :: os, h => by
    have h1 := h o (by simp)
    have h2 := many_ok os fun x hx => h x (by simp [hx])
    rw [many, if_neg (by simp [h1]), h2, if_neg (by simp)]
    simp [outs]
theorem many_err : ∀ (os : List Ob) (i : Nat) (hi : i < os.length), (∀ x ∈ os.take i, (text x).2 = 0) → (text os[i]).2 ≠ 0 → many os = ([], (text os[i]).2)
  | o :: os, 0, hi, _, h => by
    have h : (text o).2 ≠ 0 := h
    rw [many, if_pos h]; rfl
  | o :: os, i + 1, hi, h0, h => by
    have h1 := h0 o (by simp)
    have h : (text (os[i]'(by simpa using hi))).2 ≠ 0 := h
    have h2 := many_err os i (by simpa using hi) (fun x hx => h0 x (by simp [hx])) h
    rw [many, if_neg (by simp [h1]), h2, if_pos (by exact h)]; rfl
  | [], _, hi, _, _ => by simp at hi
/-- A part of a valid object is valid, and no stream. -/
theorem check_kids {d : Nat} {o : Ob} (h : Vl.check d o = 0) : ∀ x ∈ o.kids, Vl.check (d + 1) x = 0 := by
  rw [Vl.check_eq] at h
  split at h
  · rename_i hw; exact absurd h hw
  · generalize o.kids = os at h ⊢
    induction os with
    | nil => intro x hx; cases hx
    | cons a os ih =>
      rw [Vl.checks] at h
      split at h
      · rename_i hw; exact absurd h hw
      · rename_i hw
        intro x hx
        rcases List.mem_cons.1 hx with rfl | hx
        · exact Classical.not_not.1 hw
        · exact ih h x hx
theorem check_why {d : Nat} {o : Ob} (h : Vl.check d o = 0) : Vl.why d o = 0 := by
  rw [Vl.check_eq] at h
  split at h
  · exact h
  · rename_i hw; exact Classical.not_not.1 hw
end Wr
end Go.Proofs.YtiklhhdohckfiaaDoor
/- Code in continuation form, by program (gen.py): 5 functions. -/
namespace Go.Proofs.YtiklhhdohckfiaaDoor
set_option linter.unusedVariables false
set_option linter.unusedSimpArgs false
set_option linter.defProp false
set_option linter.unusedVariables false
set_option maxRecDepth 20000
open Eng

/- foliantref07.number -/
/- foliantref07.leaf -/
/- foliantref07.Parts -/
/- foliantref07.Text -/
/- foliantref07.Many -/
end Go.Proofs.YtiklhhdohckfiaaDoor
/- Code in continuation form, by program (gen.py): 12 functions. -/
namespace Go.Proofs.YtiklhhdohckfiaaDoor
set_option linter.unusedVariables false
set_option linter.unusedSimpArgs false
set_option linter.defProp false
set_option linter.unusedVariables false
set_option maxRecDepth 20000
open Eng

/- foliantref04.Int -/
/- foliantref04.Real -/
/- foliantref04.String -/
/- foliantref04.Hex -/
/- foliantref04.Name -/
/- foliantref04.Join -/
/- foliantref04.Pad -/
/- foliantref04.digits -/
/- foliantref01.Hex -/
/- foliantref01.Delim -/
/- foliantref01.Regular -/
/- foliantref01.White -/
end Go.Proofs.YtiklhhdohckfiaaDoor
/- Contracts: the references of layers 1 and 4 (White, Delim, Regular, Hex; Int, Real, String, Hex, Name, Join, Pad). -/
namespace Go.Proofs.YtiklhhdohckfiaaDoor
set_option linter.unusedVariables false
set_option linter.unusedSimpArgs false
set_option linter.defProp false
open Eng Go.RowKit

end Go.Proofs.YtiklhhdohckfiaaDoor
/- Contracts: the reference of layer 4: String, Name, Join, Pad. -/
namespace Go.Proofs.YtiklhhdohckfiaaDoor
set_option linter.unusedVariables false
set_option linter.unusedSimpArgs false
set_option linter.defProp false
open Eng Go.RowKit

end Go.Proofs.YtiklhhdohckfiaaDoor
/- Plain mathematics of layers 1 and 3: white space and comments, hexadecimal digits; no program in sight. -/
namespace Go.Proofs.YtiklhhdohckfiaaDoor
set_option linter.unusedVariables false
set_option linter.unusedSimpArgs false
set_option linter.defProp false
open Go
namespace Lx
open Oc
def eol (c : UInt8) : Bool := decide (c = 13) || decide (c = 10)
/-- How many bytes of white space and comments stand ahead (true: within a comment). -/
def skipF : Bool → List UInt8 → Nat
  | _, [] => 0
  | true, c :: t => 1 + skipF (!eol c) t
  | false, c :: t => if c = 37 then 1 + skipF true t else if white c then 1 + skipF false t else 0
def skip (s : List UInt8) (k : Nat) : Nat := k + skipF false (s.drop k)
def skipI (s : List UInt8) (k : Int) : Int := if k < 0 ∨ (s.length : Int) < k then k else ((skip s k.toNat : Nat) : Int)
def lineF : List UInt8 → Nat
  | [] => 0
  | c :: t => if c = 10 then 1 else if c = 13 then (if t.head? = some 10 then 2 else 1) else 1 + lineF t
theorem skipF_le : ∀ (b : Bool) (l : List UInt8), skipF b l ≤ l.length
  | _, [] => by simp [skipF]
  | true, c :: t => by have := skipF_le (!eol c) t; simp only [skipF, List.length_cons]; omega
  | false, c :: t => by
    have h1 := skipF_le true t
    have h2 := skipF_le false t
    simp only [skipF, List.length_cons]
    split
    · omega
    · split <;> omega
theorem lineF_le : ∀ l : List UInt8, lineF l ≤ l.length
  | [] => by simp [lineF]
  | c :: t => by
    have := lineF_le t
    simp only [lineF, List.length_cons]
    split
    · omega
    · split
      · split
        · rename_i h
          cases t with
          | nil => cases h
          | cons d t => simp
        · omega
      · omega
theorem lineF_pos (c : UInt8) (t : List UInt8) : 1 ≤ lineF (c :: t) := by
  simp only [lineF]
  split
  · omega
  · split
    · split <;> omega
    · omega
theorem skip_le (s : List UInt8) {k : Nat} (h : k ≤ s.length) : skip s k ≤ s.length := by
  have := skipF_le false (s.drop k)
  rw [List.length_drop] at this
  unfold skip; omega
theorem drop_cons {s : List UInt8} {i : Nat} (h : i < s.length) : s.drop i = s[i] :: s.drop (i + 1) := List.drop_eq_getElem_cons h
/- HEXADECIMAL DIGITS -/
def digit (c : UInt8) : Int :=
  if 48 ≤ c.toNat ∧ c.toNat ≤ 57 then (c.toNat : Int) - 48
  else if 65 ≤ c.toNat ∧ c.toNat ≤ 70 then (c.toNat : Int) - 65 + 10
  else if 97 ≤ c.toNat ∧ c.toNat ≤ 102 then (c.toNat : Int) - 97 + 10
  else -1
def byte (a b : Int) : UInt8 := UInt8.ofNat (16 * a + b).toNat
end Lx
end Go.Proofs.YtiklhhdohckfiaaDoor
/- Plain mathematics of layer 3: tokens; no program in sight. -/
namespace Go.Proofs.YtiklhhdohckfiaaDoor
set_option linter.unusedVariables false
set_option linter.unusedSimpArgs false
set_option linter.defProp false
open Go
namespace Lx
open Oc
structure Tok where
  k : Int
  a : Int
  t : Int
  n : Int
  s : List UInt8
  deriving DecidableEq
def none_ : Tok := ⟨0, 0, 0, 0, []⟩
def refused (e : Int) : Tok × Int := (none_, e)
def told (k a t : Int) (x : List UInt8) (most : Int) : Tok × Int := if most < (x.length : Int) then refused 5 else (⟨k, a, t, 0, x⟩, 0)
def runF : List UInt8 → Nat
  | [] => 0
  | c :: t => if regular c then 1 + runF t else 0
def run (s : List UInt8) (i : Nat) : Nat := i + runF (s.drop i)
theorem runF_le : ∀ l : List UInt8, runF l ≤ l.length
  | [] => by simp [runF]
  | c :: t => by
    have := runF_le t
    simp only [runF, List.length_cons]
    split <;> omega
theorem run_le (s : List UInt8) {k : Nat} (h : k ≤ s.length) : run s k ≤ s.length := by
  have := runF_le (s.drop k)
  rw [List.length_drop] at this
  unfold run; omega
/-- The bytes from i to j. -/
def cut (s : List UInt8) (i j : Nat) : List UInt8 := (s.drop i).take (j - i)
/- NAMES -/
def nameF : List UInt8 → Option (List UInt8)
  | [] => some []
  | c :: t =>
    if c = 35 then match t with
      | a :: b :: t => if digit a < 0 ∨ digit b < 0 ∨ 16 * digit a + digit b = 0 then none else (nameF t).map (byte (digit a) (digit b) :: ·)
      | _ => none
    else (nameF t).map (c :: ·)
theorem nameF_ne {c : UInt8} {t : List UInt8} (h : ¬ c = 35) : nameF (c :: t) = (nameF t).map (c :: ·) := by
  cases t with
  | nil => simp [nameF, h]
  | cons a t => cases t <;> simp [nameF, h]
def name (s : List UInt8) (at_ : Nat) : Tok × Int :=
  match nameF (cut s (at_ + 1) (run s (at_ + 1))) with
  | none => refused 3
  | some x => told 4 at_ (run s (at_ + 1)) x 127
/- LITERAL STRINGS -/
def oct (c : UInt8) : Bool := decide (48 ≤ c.toNat) && decide (c.toNat ≤ 55)
def octF : Nat → Nat → List UInt8 → Nat × Nat
  | 0, n, _ => (n, 0)
  | _ + 1, n, [] => (n, 0)
  | m + 1, n, c :: t => if oct c then ((octF m (8 * n + (c.toNat - 48)) t).1, (octF m (8 * n + (c.toNat - 48)) t).2 + 1) else (n, 0)
def escL (c : UInt8) : Option UInt8 := if c = 110 then some 10 else if c = 114 then some 13 else if c = 116 then some 9 else if c = 98 then some 8 else if c = 102 then some 12 else none
def escF : List UInt8 → List UInt8 × Nat
  | [] => ([], 0)
  | c :: t => match escL c with
    | some b => ([b], 1)
    | none => if eol c then ([], lineF (c :: t)) else if 0 < (octF 3 0 (c :: t)).2 then ([UInt8.ofNat (octF 3 0 (c :: t)).1], (octF 3 0 (c :: t)).2) else ([c], 1)
/-- What a literal string says, and how many bytes it takes (some are to be left out first). -/
def textG : Nat → Nat → List UInt8 → Option (List UInt8 × Nat)
  | _, _, [] => none
  | k + 1, o, _ :: t => (textG k o t).map fun r => (r.1, r.2 + 1)
  | 0, o, c :: t =>
    if eol c then (textG (lineF (c :: t) - 1) o t).map fun r => (10 :: r.1, r.2 + 1)
    else if c = 92 then if t = [] then none else (textG (escF t).2 o t).map fun r => ((escF t).1 ++ r.1, r.2 + 1)
    else if c = 40 then (textG 0 (o + 1) t).map fun r => (c :: r.1, r.2 + 1)
    else if c = 41 then if o ≤ 1 then some ([], 1) else (textG 0 (o - 1) t).map fun r => (c :: r.1, r.2 + 1)
    else (textG 0 o t).map fun r => (c :: r.1, r.2 + 1)
theorem textG_skip : ∀ (k o : Nat) (l : List UInt8), k ≤ l.length → textG k o l = (textG 0 o (l.drop k)).map fun r => (r.1, r.2 + k)
  | 0, o, l, _ => by simp
  | k + 1, o, [], h => by simp at h
  | k + 1, o, c :: t, h => by
    have ih := textG_skip k o t (by simpa using h)
    simp only [textG, ih, List.drop_succ_cons, Option.map_map]
    congr 1
theorem octF_le : ∀ (m n : Nat) (l : List UInt8), (octF m n l).2 ≤ l.length ∧ (octF m n l).2 ≤ m
  | 0, n, l => by simp [octF]
  | m + 1, n, [] => by simp [octF]
  | m + 1, n, c :: t => by
    have := octF_le m (8 * n + (c.toNat - 48)) t
    simp only [octF]
    split <;> simp <;> omega
theorem escF_le (l : List UInt8) : (escF l).2 ≤ l.length := by
  cases l with
  | nil => simp [escF]
  | cons c t =>
    simp only [escF]
    split
    · simp
    · split
      · exact lineF_le _
      · split
        · exact (octF_le _ _ _).1
        · simp
def text (s : List UInt8) (at_ : Nat) : Tok × Int :=
  match textG 0 1 (s.drop (at_ + 1)) with
  | none => refused 4
  | some r => told 3 at_ (at_ + 1 + r.2 : Nat) r.1 32767
/- HEXADECIMAL STRINGS -/
def hexF : Int → List UInt8 → (List UInt8 × Nat) ⊕ Int
  | _, [] => .inr 4
  | h, c :: t =>
    if c = 62 then .inl (if 0 ≤ h then [byte h 0] else [], 1)
    else if white c then match hexF h t with | .inl r => .inl (r.1, r.2 + 1) | .inr e => .inr e
    else if digit c < 0 then .inr 3
    else if h < 0 then match hexF (digit c) t with | .inl r => .inl (r.1, r.2 + 1) | .inr e => .inr e
    else match hexF (-1) t with | .inl r => .inl (byte h (digit c) :: r.1, r.2 + 1) | .inr e => .inr e
def hex (s : List UInt8) (at_ : Nat) : Tok × Int :=
  match hexF (-1) (s.drop (at_ + 1)) with
  | .inr e => refused e
  | .inl r => told 3 at_ (at_ + 1 + r.2 : Nat) r.1 32767
/- WORDS -/
def sgn (c : UInt8) : Bool := decide (c = 43) || decide (c = 45)
def dig (c : UInt8) : Bool := decide (48 ≤ c.toNat) && decide (c.toNat ≤ 57)
def unsign : List UInt8 → List UInt8
  | [] => []
  | c :: t => if sgn c then t else c :: t
def intForm (t : List UInt8) : Bool := !(unsign t).isEmpty && (unsign t).all dig
def val (n : Nat) (l : List UInt8) : Nat := l.foldl (fun n c => 10 * n + (c.toNat - 48)) n
def whole (t : List UInt8) : Int × Int :=
  if 2147483647 < val 0 (unsign t) then (0, 2) else (if t.head? = some 45 then -(val 0 (unsign t) : Int) else (val 0 (unsign t) : Int), 0)
def wordT (t : List UInt8) (a b : Int) : Tok × Int :=
  if intForm t then (if (whole t).2 ≠ 0 then refused (whole t).2 else (⟨1, a, b, (whole t).1, []⟩, 0))
  else if t.contains 46 ∧ (Fx.read t).2 = 0 then (⟨2, a, b, (Fx.read t).1, []⟩, 0)
  else if t.contains 46 ∧ (Fx.read t).2 = 2 then refused 2
  else told 5 a b t 127
def word (s : List UInt8) (at_ : Nat) : Tok × Int := wordT (cut s at_ (run s at_)) at_ (run s at_)
/- TOKENS -/
def mark (s : List UInt8) (at_ n : Nat) : Tok × Int := (⟨6, at_, (at_ + n : Nat), 0, cut s at_ (at_ + n)⟩, 0)
def token (s : List UInt8) (a : Nat) : Tok × Int :=
  match s.drop a with
  | [] => (⟨0, a, a, 0, []⟩, 0)
  | c :: t =>
    if c = 91 ∨ c = 93 ∨ c = 123 ∨ c = 125 then mark s a 1
    else if c = 60 then (if t.head? = some c then mark s a 2 else hex s a)
    else if c = 62 then (if t.head? = some c then mark s a 2 else refused 3)
    else if c = 47 then name s a
    else if c = 40 then text s a
    else if c = 41 then refused 3
    else word s a
def next (s : List UInt8) (at_ : Int) : Tok × Int := if at_ < 0 ∨ (s.length : Int) < at_ then refused 1 else token s (skip s at_.toNat)
/-- At most so many tokens, or a fault and its place. -/
def upto (s : List UInt8) : Nat → Int → List Tok ⊕ (Int × Int)
  | 0, _ => .inl []
  | m + 1, at_ =>
    if (next s at_).2 ≠ 0 then .inr (skipI s at_, (next s at_).2)
    else if (next s at_).1.k = 0 then .inl []
    else match upto s m (next s at_).1.t with
      | .inl l => .inl ((next s at_).1 :: l)
      | .inr f => .inr f
end Lx
end Go.Proofs.YtiklhhdohckfiaaDoor
