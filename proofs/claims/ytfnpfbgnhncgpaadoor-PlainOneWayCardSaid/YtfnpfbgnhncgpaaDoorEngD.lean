/- The engine's rules for structs in memory, rows that grow (append), and strings.Builder as a piece of memory. -/
import Derived.Test.YtfnpfbgnhncgpaaDoorEngS
namespace Go.Proofs.YtfnpfbgnhncgpaaDoor
set_option linter.unusedVariables false
set_option linter.unusedSimpArgs false
set_option linter.defProp false
set_option linter.unusedSimpArgs false
set_option linter.unusedVariables false
namespace Eng
open Go.RowKit

theorem add_none (b off n : Nat) : (⟨b, off, none⟩ : Addr).add n = ⟨b, off + n, none⟩ := by unfold Addr.add; split <;> simp_all

/-- The place of a field (of at least one cell). -/
def fOff (P : Program) (T : TypeId) (f : Nat) : Option Nat :=
  match P.underlying T with
  | some (.struct fs) => match fs[f]? with
    | some fd => match P.info? fd.type with
      | some i => match i.size with
        | 0 => none
        | _ + 1 => some fd.offset
      | none => none
    | none => none
  | _ => none
/-- What a type's elements are: cells each, bytes each, a zero value of as many cells. -/
def elB (P : Program) (E : TypeId) (sz bytes : Nat) : Bool :=
  match P.info? E with
  | some i => Nat.beq i.size sz && Nat.beq i.bytes bytes && (match i.zero with | some z => Nat.beq z.cells.size sz | none => false)
  | none => false
theorem elB_spec {P : Program} {E : TypeId} {sz bytes : Nat} (h : elB P E sz bytes = true) : ∃ i z, P.info? E = some i ∧ i.zero = some z ∧ i.size = sz ∧ i.bytes = bytes ∧ z.cells.size = sz := by
  unfold elB at h
  split at h
  · rename_i i hi
    simp only [Bool.and_eq_true, Nat.beq_eq] at h
    obtain ⟨⟨h1, h2⟩, h3⟩ := h
    split at h3
    · rename_i z hz; exact ⟨i, z, hi, hz, h1, h2, by simpa using h3⟩
    · cases h3
  · cases h

section
variable {S : Nat → Prop} {P : Program} {w : World} {PK : List PanicEntry → World → Prop} {K : Value → World → Prop}

theorem run_fa {T : TypeId} {f b off o : Nat} (h : fOff P T f = some o) : (mFA T (.pointer (some ⟨b, off, none⟩)) f).run P w = .ok (.value (.pointer (some ⟨b, off + o, none⟩))) w := by
  unfold fOff at h
  split at h
  · rename_i fs hu
    split at h
    · rename_i fd hfd
      split at h
      · rename_i i hi
        cases hs : i.size with
        | zero => rw [hs] at h; cases h
        | succ m =>
          rw [hs] at h
          simp only [Option.some.injEq] at h
          subst h
          refine mv_run ?_
          simp [Instr.fieldAt, run_underlying hu, hfd, Instr.sureAddr, fieldPlace, sizeOf, typeInfo, hi, hs, add_none]
      · cases h
    · cases h
  · cases h
theorem f_addr {T : TypeId} {f b off o : Nat} (h : fOff P T f = some o) : DoX P (mFA T (.pointer (some ⟨b, off, none⟩)) f) w PK K = K (.pointer (some ⟨b, off + o, none⟩)) w := do_eq (run_fa h)
theorem run_nil {a : Addr} : (mNil (.pointer (some a))).run P w = .ok (.value (.pointer (some a))) w := by simp [mNil, execOp]

/- BITS -/
def bAnd (k : IntKind) (x y : Int) : Int := k.wrap ((BitVec.ofInt k.bits x &&& BitVec.ofInt k.bits y).toNat : Int)
def bOr (k : IntKind) (x y : Int) : Int := k.wrap ((BitVec.ofInt k.bits x ||| BitVec.ofInt k.bits y).toNat : Int)
def bXor (k : IntKind) (x y : Int) : Int := k.wrap ((BitVec.ofInt k.bits x ^^^ BitVec.ofInt k.bits y).toNat : Int)
theorem r_and {T : TypeId} {k : IntKind} {a b : Int} : (mBin .and T (.int k a) (.int k b)).run P w = .ok (.value (.int k (bAnd k a b))) w := mv_run (by simp [binOp, Op.intBits, bAnd])
theorem r_or {T : TypeId} {k : IntKind} {a b : Int} : (mBin .or T (.int k a) (.int k b)).run P w = .ok (.value (.int k (bOr k a b))) w := mv_run (by simp [binOp, Op.intBits, bOr])
theorem r_xor {T : TypeId} {k : IntKind} {a b : Int} : (mBin .xor T (.int k a) (.int k b)).run P w = .ok (.value (.int k (bXor k a b))) w := mv_run (by simp [binOp, Op.intBits, bXor])
theorem r_shr {T : TypeId} {k k' : IntKind} {a b : Int} (h : 0 ≤ b) : (mBin .shr T (.int k a) (.int k' b)).run P w = .ok (.value (.int k (a.fdiv (2 ^ (min b.toNat k.bits))))) w := mv_run (by
  have h' : ¬ b < 0 := by omega
  simp [binOp, Op.shift, h'])
theorem r_shl {T : TypeId} {k k' : IntKind} {a b : Int} (h : 0 ≤ b) : (mBin .shl T (.int k a) (.int k' b)).run P w = .ok (.value (.int k (k.wrap (a * 2 ^ (min b.toNat k.bits))))) w := mv_run (by
  have h' : ¬ b < 0 := by omega
  simp [binOp, Op.shift, h'])
theorem b_and {T : TypeId} {k : IntKind} {a b : Int} : DoX P (mBin .and T (.int k a) (.int k b)) w PK K = K (.int k (bAnd k a b)) w := do_eq r_and
theorem b_or {T : TypeId} {k : IntKind} {a b : Int} : DoX P (mBin .or T (.int k a) (.int k b)) w PK K = K (.int k (bOr k a b)) w := do_eq r_or
theorem b_xor {T : TypeId} {k : IntKind} {a b : Int} : DoX P (mBin .xor T (.int k a) (.int k b)) w PK K = K (.int k (bXor k a b)) w := do_eq r_xor
theorem b_shr {T : TypeId} {k k' : IntKind} {a b : Int} (h : 0 ≤ b) : DoX P (mBin .shr T (.int k a) (.int k' b)) w PK K = K (.int k (a.fdiv (2 ^ (min b.toNat k.bits)))) w := do_eq (r_shr h)
theorem b_shl {T : TypeId} {k k' : IntKind} {a b : Int} (h : 0 ≤ b) : DoX P (mBin .shl T (.int k a) (.int k' b)) w PK K = K (.int k (k.wrap (a * 2 ^ (min b.toNat k.bits)))) w := do_eq (r_shl h)
theorem run_s_ix {T : TypeId} {k : IntKind} {i : Int} {a : List UInt8} {c : UInt8} (h : P.underlying T = some .string) (h0 : 0 ≤ i) (hc : a[i.toNat]? = some c) : (mIx T (.string ⟨a.toArray⟩) (.int k i)).run P w = .ok (.value (.int .u8 (c.toNat : Int))) w := by
  refine mv_run ?_
  have e : (⟨a.toArray⟩ : ByteArray)[i.toNat]? = some c := by
    have hl : i.toNat < a.length := (List.getElem?_eq_some_iff.1 hc).1
    have h1 : i.toNat < (⟨a.toArray⟩ : ByteArray).size := by rw [str_size]; exact hl
    rw [getElem?_pos (⟨a.toArray⟩ : ByteArray) i.toNat h1]
    have h2 := (List.getElem?_eq_some_iff.1 hc).2
    rw [← h2]; rfl
  simp only [Instr.index, asIntOf, run_underlying h, h0, e]
  simp [h0, e, run_underlying h]
/- APPEND -/
theorem newer {E : TypeId} {sz bytes : Nat} {T U : TypeId} {i : TypeInfo} {z : Value} (ht : P.underlying T = some (.slice E)) (hi : P.info? E = some i) (hz : i.zero = some z) (hi1 : i.size = sz) (hi2 : i.bytes = bytes) (hz1 : z.cells.size = sz) (hsz : 0 < sz)
    {v v' : Value} {w' : World} {n m c : Nat} {xs news : List Value} {a : Addr} (hown : w.ownsRowF 0 E sz v n xs) (hl : news.length = m * sz) (hnews : ∀ j u, news[j]? = some u → w.cell? (a.add j) = some u) (h1 : ∀ u ∈ news, u.oneCell' = true)
    (hmx : n + m ≤ 9223372036854775807) (hb : (n + m) * bytes ≤ 140737488355328) (hr : (Builtin.append_ #[T, T] U #[v, .slice (some a) m c]).run P w = .ok v' w') :
    ∀ k, v'.ownBlock = some k → v.ownBlock = some k ∨ w.heap.size ≤ k := by
  intro k hk
  have hmx' : n + m ≤ maxLen := by simp only [maxLen]; omega
  rcases hown.2 with ⟨rfl, rfl⟩ | ⟨g, cap, cur, fz, rfl, hbg, hg, hfz, hnc, hcm, hcs, htake⟩
  · obtain ⟨v2, w2, r1, r2, r3, r4⟩ := run_append_ownF (P := P) w w.heap.size T U E i z sz bytes ht hi hz hi1 hi2 hz1 hsz (.slice none 0 0) 0 xs ⟨hown.1, .inl ⟨rfl, rfl⟩⟩ a m c news hl hnews h1 hmx' hb (Nat.le_refl _)
    rw [r1] at hr
    cases hr
    exact .inr (World.ownsRowF.lt r2 k hk).1
  · subst hi1
    subst hi2
    by_cases hroom : n + m ≤ cap
    · have hfit : n * i.size + news.length ≤ cur.size := by rw [hl, hcs, ← Nat.add_mul]; exact Nat.mul_le_mul_right _ hroom
      rw [run_append_roomF (P := P) w T U E i ht hi g n cap cur fz hg hfz a m c news hl hnews h1 hroom hfit] at hr
      cases hr
      exact .inl hk
    · have holds : ∀ j u, xs[j]? = some u → w.cell? ((⟨g, 0, none⟩ : Addr).add j) = some u := hown.cells (g := g) rfl
      rw [run_append_grow (P := P) w T U E i z ht hi hz ⟨g, 0, none⟩ n cap xs hown.1 holds a m c news hl hnews (by omega) (by omega) (growslice_fits (by omega) hb)] at hr
      cases hr
      simp only [Value.ownBlock, Option.some.injEq] at hk
      exact .inr (by omega)
theorem run_append_any {T E U : TypeId} {cs : Array Bool} {v v2 : Value} {sz bytes n m : Nat} {xs news : List Value} (ht : P.underlying T = some (.slice E)) (he : elB P E sz bytes = true) (hsz : 0 < sz)
    (hown : w.ownsRowF 0 E sz v n xs) (hs : Sl w v2 sz m news) (h1 : ∀ u ∈ news, u.oneCell' = true) (hb : (n + m) * bytes ≤ 140737488355328) (hb2 : n + m ≤ 140737488355328) :
    ∃ v' w', (mB .append #[T, T] U cs #[v, v2]).run P w = .ok (.value v') w' ∧ Turn (.row E sz v n xs) (.row E sz v' (n + m) (xs ++ news)) w w' := by
  obtain ⟨i, z, hi, hz, hi1, hi2, hz1⟩ := elB_spec he
  obtain ⟨hl, a, cap, rfl, hn, hc⟩ := hs
  have hmx : n + m ≤ maxLen := by simp only [maxLen]; omega
  have fin : ∀ (a : Addr), (∀ j u, news[j]? = some u → w.cell? (a.add j) = some u) → ∃ v' w', (mB .append #[T, T] U cs #[v, .slice (some a) m cap]).run P w = .ok (.value v') w' ∧ Turn (.row E sz v n xs) (.row E sz v' (n + m) (xs ++ news)) w w' := by
    intro a hh
    obtain ⟨v', w', r1, r2, r3, r4⟩ := run_append_ownF (P := P) w 0 T U E i z sz bytes ht hi hz hi1 hi2 hz1 hsz v n xs hown a m cap news hl hh h1 hmx hb (Nat.zero_le _)
    refine ⟨v', w', ?_, grew_by r3, r2, newer (P := P) ht hi hz hi1 hi2 hz1 hsz hown hl hh h1 (by omega) hb r1⟩
    simp [mB, builtin, r1]
  cases a with
  | some p =>
    refine fin p fun j u hj => ?_
    have hlt : j < news.length := (List.getElem?_eq_some_iff.1 hj).1
    have hm : 0 < m := by
      rcases Nat.eq_zero_or_pos m with h0 | h0
      · subst h0; simp at hl; rw [hl] at hlt; simp at hlt
      · exact h0
    obtain ⟨hsp, hcell⟩ := hc p rfl
    have := hsp hm
    obtain ⟨b, off, spot⟩ := p
    simp only at this hcell
    subst this
    rw [add_none]; exact hcell j u hj
  | none =>
    have h0 := hn rfl
    subst h0
    have hnil : news = [] := List.eq_nil_of_length_eq_zero (by simpa using hl)
    subst hnil
    refine ⟨v, w, ?_, by rw [List.append_nil]; exact Turn.refl (e := .row E sz v n xs) hown⟩
    rcases hown.2 with ⟨rfl, rfl⟩ | ⟨g, cp, cur, fz, rfl, _, _, _, hnc, _⟩
    · simp [mB, builtin, Builtin.append_, run_underlying ht, sizeOf, typeInfo, hi, Builtin.lenOf, Builtin.firstCells]
    · simp [mB, builtin, Builtin.append_, run_underlying ht, sizeOf, typeInfo, hi, Builtin.lenOf, Builtin.firstCells, hnc, storeCells]
/-- append(s, more...): the i-th piece is the row; what is appended may be read anywhere. -/
theorem o_append {w0 : World} {L : List Ent} (i : Nat) {T E U : TypeId} {cs : Array Bool} {v v2 : Value} {sz bytes n m : Nat} {xs news : List Value} (ht : P.underlying T = some (.slice E)) (he : elB P E sz bytes = true) (hsz : 0 < sz)
    (ho : OwnS S w0 w L) (hi : L[i]? = some (.row E sz v n xs)) (hs : Sl w v2 sz m news) (h1 : ∀ u ∈ news, u.oneCell' = true) (hb : (n + m) * bytes ≤ 140737488355328) (hb2 : n + m ≤ 140737488355328)
    (k : ∀ v' w', OwnS S w0 w' (L.set i (.row E sz v' (n + m) (xs ++ news))) → K v' w') : DoX P (mB .append #[T, T] U cs #[v, v2]) w PK K := by
  obtain ⟨v', w', r, t⟩ := run_append_any (cs := cs) (U := U) ht he hsz (ho.at_ i hi) hs h1 hb hb2
  exact do_ok r (k _ _ (ho.turn i hi t))
/-- No slice of a block, without room. -/
def roomy (v : Value) : Prop := ∀ a k, v ≠ .slice (some a) k 0
theorem roomy_nil : roomy (.slice none 0 0) := fun _ _ h => by cases h
theorem roomy_row {E : TypeId} {sz : Nat} {v : Value} {n : Nat} {xs : List Value} (h : w.ownsRowF 0 E sz v n xs) (hn : 0 < n) : roomy v := by
  intro a k hc
  rcases h.2 with ⟨rfl, _⟩ | ⟨g, cap, cur, fz, rfl, hbg, hg, hfz, hnc, hcm, hcs, htake⟩
  · cases hc
  · injection hc with c1 c2 c3
    omega
theorem strCells_bytesV (l : List UInt8) : Lib.strCells ⟨l.toArray⟩ = bytesV l := by
  simp [Lib.strCells, bytesV]
theorem run_append_string {T U2 E U : TypeId} {cs : Array Bool} {v : Value} {n : Nat} {xs : List Value} {l : List UInt8} (ht : P.underlying T = some (.slice E)) (hu : P.underlying U2 = some .string) (he : elB P E 1 1 = true) (h8 : P.underlying E = some (.int .u8))
    (hz8 : (P.info? E).bind (·.zero) = some (.int .u8 0))
    (hown : w.ownsRowF 0 E 1 v n xs) (hb2 : n + l.length ≤ 140737488355328) :
    ∃ v' w', (mB .append #[T, U2] U cs #[v, .string ⟨l.toArray⟩]).run P w = .ok (.value v') w' ∧ Turn (.row E 1 v n xs) (.row E 1 v' (n + l.length) (xs ++ bytesV l)) w w' ∧ (roomy v → roomy v') := by
  obtain ⟨i, z, hi, hz, hi1, hi2, hz1⟩ := elB_spec he
  have hz0 : i.zero = some (.int .u8 0) := by rw [hi] at hz8; exact hz8
  have hsz := str_size l
  have hmx : n + (⟨l.toArray⟩ : ByteArray).size ≤ maxLen := by rw [hsz]; simp only [maxLen]; omega
  obtain ⟨v', w', r1, r2, r3, r4⟩ := Lib.run_append_own_stringF (P := P) w 0 T U2 U E i ht hu hi hz0 hi1 hi2 v n xs hown ⟨l.toArray⟩ hmx (by rw [hsz]; omega) (Nat.zero_le _)
  rw [strCells_bytesV, hsz] at r2
  have hro : roomy v → roomy v' := by
    intro hv a k hc
    rcases Nat.eq_zero_or_pos (n + l.length) with h0 | h0
    · rcases hown.2 with ⟨rfl, _⟩ | ⟨g, cap, cur, fz, rfl, hbg, hg, hfz, hnc, hcm, hcs, htake⟩
      · have := r4.2 ⟨rfl, by rw [hsz]; omega⟩
        rw [this] at hc; cases hc
      · have hroom : n + (⟨l.toArray⟩ : ByteArray).size ≤ cap := by rw [hsz]; omega
        rw [Lib.run_append_room_stringF (P := P) w T U2 U E i ht hu hi hi1 g n cap cur fz hg (by simpa using hfz) ⟨l.toArray⟩ hroom (by simp at hcs; omega)] at r1
        injection r1 with r1a r1b
        rw [← r1a] at hc
        injection hc with c1 c2 c3
        exact hv ⟨g, 0, none⟩ n (by rw [c3])
    · exact roomy_row r2 h0 a k hc
  refine ⟨v', w', by simp [mB, builtin, r1], ⟨grew_by r3, r2, ?_⟩, hro⟩
  intro k hk
  rcases hown.2 with ⟨rfl, rfl⟩ | ⟨g, cap, cur, fz, rfl, hbg, hg, hfz, hnc, hcm, hcs, htake⟩
  · obtain ⟨v2, w2, q1, q2, q3, q4⟩ := Lib.run_append_own_stringF (P := P) w w.heap.size T U2 U E i ht hu hi hz0 hi1 hi2 (.slice none 0 0) 0 xs ⟨hown.1, .inl ⟨rfl, rfl⟩⟩ ⟨l.toArray⟩ hmx (by rw [hsz]; omega) (Nat.le_refl _)
    rw [q1] at r1
    cases r1
    exact .inr (World.ownsRowF.lt q2 k hk).1
  · by_cases hroom : n + (⟨l.toArray⟩ : ByteArray).size ≤ cap
    · rw [Lib.run_append_room_stringF (P := P) w T U2 U E i ht hu hi hi1 g n cap cur fz hg (by simpa using hfz) ⟨l.toArray⟩ hroom (by simp at hcs; omega)] at r1
      cases r1
      exact .inl hk
    · have holds : ∀ j u, xs[j]? = some u → w.cell? ((⟨g, 0, none⟩ : Addr).add j) = some u := hown.cells (g := g) rfl
      rw [Lib.run_append_grow_string (P := P) w T U2 U E i (.int .u8 0) ht hu hi hz0 ⟨g, 0, none⟩ n cap xs (by rw [hi1]; simpa using hown.1) holds ⟨l.toArray⟩ (by omega) (by rw [hsz]; omega) (by rw [hi2]; exact growslice_fits (by omega) (by rw [hsz]; omega))] at r1
      cases r1
      have hk' : some w.heap.size = some k := hk
      cases hk'
      exact .inr (Nat.le_refl _)
theorem o_append_str {w0 : World} {L : List Ent} (i : Nat) {T U2 E U : TypeId} {cs : Array Bool} {v : Value} {n : Nat} {xs : List Value} {l : List UInt8} (ht : P.underlying T = some (.slice E)) (hu : P.underlying U2 = some .string) (he : elB P E 1 1 = true) (h8 : P.underlying E = some (.int .u8))
    (hz8 : (P.info? E).bind (·.zero) = some (.int .u8 0)) (ho : OwnS S w0 w L) (hi : L[i]? = some (.row E 1 v n xs)) (hb2 : n + l.length ≤ 140737488355328)
    (k : ∀ v' w', (roomy v → roomy v') → OwnS S w0 w' (L.set i (.row E 1 v' (n + l.length) (xs ++ bytesV l))) → K v' w') : DoX P (mB .append #[T, U2] U cs #[v, .string ⟨l.toArray⟩]) w PK K := by
  obtain ⟨v', w', r, t, hc⟩ := run_append_string (cs := cs) (U := U) ht hu he h8 hz8 (ho.at_ i hi) hb2
  exact do_ok r (k _ _ hc (ho.turn i hi t))
/-- A nil slice is a row. -/
theorem OwnS.nilRow {w0 : World} {L : List Ent} (ho : OwnS S w0 w L) (E : TypeId) (sz : Nat) : OwnS S w0 w (.row E sz (.slice none 0 0) 0 [] :: L) := by
  refine ⟨ho.grew, fun e he => ?_, .cons (fun f hf k hk => by simp [Ent.row, Value.ownBlock] at hk) ho.apart⟩
  rcases List.mem_cons.1 he with rfl | he
  · exact ⟨World.ownsRowF_nil w 0 E sz, fun k hk => by simp [Ent.row, Value.ownBlock] at hk⟩
  · exact ho.all e he
theorem OwnS.slRow {w0 : World} {L : List Ent} (ho : OwnS S w0 w L) (i : Nat) {T : TypeId} {sz : Nat} {v : Value} {n : Nat} {xs : List Value} (hi : L[i]? = some (.row T sz v n xs)) : Sl w v sz n xs := Sl.row (ho.at_ i hi)
/-- A block of cells, all of them in use, is a row. -/
theorem OwnS.toRow {w0 : World} {L : List Ent} {b : Nat} {cs : List Value} {E : TypeId} (ho : OwnS S w0 w (.cells b cs E :: L)) (sz n cap : Nat) (hl : cs.length = cap * sz) (hn : n ≤ cap) (hc : cap ≤ 9223372036854775807) :
    OwnS S w0 w (.row E sz (.slice (some ⟨b, 0, none⟩) n cap) n (cs.take (n * sz)) :: L) := by
  refine ⟨ho.grew, fun e he => ?_, ?_⟩
  · rcases List.mem_cons.1 he with rfl | he
    · refine ⟨⟨by rw [List.length_take, hl, Nat.min_eq_left (Nat.mul_le_mul_right _ hn)], .inr ⟨b, cap, cs.toArray, (0, 0), rfl, Nat.zero_le _, ho.at_ 0 rfl, Nat.zero_le _, hn, by simp only [maxLen]; omega, by simpa using hl, by simp⟩⟩, fun k hk => ?_⟩
      simp only [Ent.row, Value.ownBlock, Option.some.injEq] at hk
      exact (ho.all (.cells b cs E) (by simp)).2 k hk.symm
    · exact ho.all e (by simp [he])
  · refine .cons (fun f hf k hk => ?_) (List.pairwise_cons.1 ho.apart).2
    simp only [Ent.row, Value.ownBlock, Option.some.injEq] at hk
    exact (List.pairwise_cons.1 ho.apart).1 f hf k hk.symm

/-- make([]T, 0, c). -/
theorem o_make {w0 : World} {L : List Ent} {T E : TypeId} {sz bytes c : Nat} {kl kc : IntKind} {x : Int} (hx : x = c) (ht : P.underlying T = some (.slice E)) (he : elB P E sz bytes = true) (hb : bytes * c ≤ 281474976710656) (hc : c ≤ 281474976710656) (ho : OwnS S w0 w L)
    (k : ∀ v w', OwnS S w0 w' (.row E sz v 0 [] :: L) → K v w') : DoX P (mMake T (.int kl 0) (.int kc x)) w PK K := by
  subst hx
  obtain ⟨i, z, hi, hz, hi1, hi2, hz1⟩ := elB_spec he
  obtain ⟨w', r1, r2, r3⟩ := run_make_own (P := P) w w.heap.size T E i z sz ht hi hz hi1 kl kc c (by rw [hi2]; exact hb) (by simp only [maxLen]; omega) (Nat.le_refl _)
  refine do_ok (mv_run r1) (k _ _ (ho.add r3 (.row E sz (.slice (some ⟨w.heap.size, 0, none⟩) 0 c) 0 []) ?_ (fun k hk => ?_)))
  · have := World.ownsRowF_of r2
    refine ⟨this.1, ?_⟩
    rcases this.2 with h | ⟨g, cp, cur, fz, h1, h2, h3⟩
    · exact .inl h
    · exact .inr ⟨g, cp, cur, fz, h1, Nat.zero_le _, h3⟩
  · have hk' : some w.heap.size = some k := hk
    cases hk'; exact Nat.le_refl _
/- STRINGS.BUILDER -/
/-- A Builder in block b, its buffer the slice v, that holds l. -/
def Ent.bld (T E : TypeId) (b : Nat) (v : Value) (l : List UInt8) : Ent :=
  ⟨fun k => k = b ∨ v.ownBlock = some k,
   fun w => (∃ p, (p = .pointer none ∨ p = .pointer (some ⟨b, 0, none⟩)) ∧ w.heap[b]? = some (.cells #[p, v] T (0, 0))) ∧ w.ownsRowF 0 E 1 v l.length (bytesV l) ∧ v.ownBlock ≠ some b ∧ roomy v,
   fun {w w'} h k => ⟨by obtain ⟨p, hp, hb⟩ := h.1; exact ⟨p, hp, (k b (.inl rfl)).trans hb⟩, (Ent.row E 1 v l.length (bytesV l)).keep h.2.1 (fun j hj => k j (.inr hj)), h.2.2⟩,
   fun {w} h k hk => by
    rcases hk with rfl | hk
    · obtain ⟨p, hp, hb⟩ := h.1; exact lt_of_get hb
    · exact (World.ownsRowF.lt h.2.1 k hk).2⟩
theorem OwnS.openB {w0 : World} {L : List Ent} {T E : TypeId} {b : Nat} {v : Value} {l : List UInt8} (ho : OwnS S w0 w (.bld T E b v l :: L)) :
    ∃ p, (p = .pointer none ∨ p = .pointer (some ⟨b, 0, none⟩)) ∧ roomy v ∧ OwnS S w0 w (.cells b [p, v] T :: .row E 1 v l.length (bytesV l) :: L) := by
  have hm := ho.all (.bld T E b v l) (by simp)
  obtain ⟨⟨p, hp, hb⟩, hr, hne, hcap⟩ := hm.1
  refine ⟨p, hp, hcap, ho.grew, fun e he => ?_, ?_⟩
  · rcases List.mem_cons.1 he with rfl | he
    · exact ⟨hb, fun k hk => hm.2 k (.inl hk)⟩
    · rcases List.mem_cons.1 he with rfl | he
      · exact ⟨hr, fun k hk => hm.2 k (.inr hk)⟩
      · exact ho.all e (by simp [he])
  · obtain ⟨h1, h2⟩ := List.pairwise_cons.1 ho.apart
    refine .cons (fun f hf k hk hk' => ?_) (.cons (fun f hf k hk => h1 f hf k (.inr hk)) h2)
    rcases List.mem_cons.1 hf with rfl | hf
    · have hkb : k = b := hk
      rw [hkb] at hk'
      exact hne hk'
    · exact h1 f hf k (.inl hk) hk'
theorem OwnS.closeB {w0 : World} {L : List Ent} {T E : TypeId} {b n : Nat} {p v : Value} {l : List UInt8} (hp : p = .pointer none ∨ p = .pointer (some ⟨b, 0, none⟩)) (hcap : roomy v) (ho : OwnS S w0 w (.cells b [p, v] T :: .row E 1 v n (bytesV l) :: L)) :
    OwnS S w0 w (.bld T E b v l :: L) := by
  have h0 := ho.all (.cells b [p, v] T) (by simp)
  have h1 := ho.all (.row E 1 v n (bytesV l)) (by simp)
  obtain ⟨a1, a2⟩ := List.pairwise_cons.1 ho.apart
  obtain ⟨a3, a4⟩ := List.pairwise_cons.1 a2
  have hn : n = l.length := by have := h1.1.1; rw [bytesV_length] at this; omega
  subst hn
  refine ⟨ho.grew, fun e he => ?_, .cons (fun f hf k hk hk' => ?_) a4⟩
  · rcases List.mem_cons.1 he with rfl | he
    · refine ⟨⟨⟨p, hp, h0.1⟩, h1.1, fun hc => a1 (.row E 1 v l.length (bytesV l)) (by simp) b rfl hc, hcap⟩, fun k hk => ?_⟩
      rcases hk with hk | hk
      · exact h0.2 k hk
      · exact h1.2 k hk
    · exact ho.all e (by simp [he])
  · rcases hk with hk | hk
    · exact a1 f (by simp [hf]) k hk hk'
    · exact a3 f hf k hk hk'
theorem OwnS.swap {w0 : World} {e f : Ent} {L : List Ent} (ho : OwnS S w0 w (e :: f :: L)) : OwnS S w0 w (f :: e :: L) := by
  obtain ⟨a1, a2⟩ := List.pairwise_cons.1 ho.apart
  obtain ⟨a3, a4⟩ := List.pairwise_cons.1 a2
  exact ⟨ho.grew, fun g hg => ho.all g (by simp only [List.mem_cons] at hg ⊢; rcases hg with h | h | h <;> simp [h]), .cons (fun g hg k hk hk' => by
    rcases List.mem_cons.1 hg with rfl | hg
    · exact a1 f (by simp) k hk' hk
    · exact a3 g hg k hk hk') (.cons (fun g hg k hk hk' => a1 g (by simp [hg]) k hk hk') a4)⟩

/-- A callee turns the i-th piece. -/
theorem c_turn {w0 : World} {L : List Ent} (i : Nat) {f : Nat} {args : Array Value} {e : Ent} {R : Value → Ent → Prop} (ho : OwnS S w0 w L) (hi : L[i]? = some e) (h : Ret P f args w (fun v w' => ∃ e', R v e' ∧ Turn e e' w w'))
    (k : ∀ v e' w', R v e' → OwnS S w0 w' (L.set i e') → K v w') : CallX P f args w PK K :=
  c_ret h fun v w' ⟨e', hr, ht⟩ => k v e' w' hr (ho.turn i hi ht)
/-- A callee that only makes memory. -/
theorem c_below {w0 : World} {L : List Ent} {f : Nat} {args : Array Value} {R : Value → Prop} (ho : OwnS S w0 w L) (h : Ret P f args w (fun v w' => R v ∧ Below w.heap.size w w'))
    (k : ∀ v w', R v → OwnS S w0 w' L → K v w') : CallX P f args w PK K :=
  c_ret h fun v w' ⟨hr, hb⟩ => k v w' hr (ho.grow hb)
end
end Eng
end Go.Proofs.YtfnpfbgnhncgpaaDoor
