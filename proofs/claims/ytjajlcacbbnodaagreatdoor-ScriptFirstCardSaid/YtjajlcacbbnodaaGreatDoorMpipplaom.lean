/- Texts that go together: EngD SBuild LibBld SPlain SFix SRef02 FixP FixR FixQ SStr LibCut FixT PlA PlB PlC LawKit2 Plain03 Plain03B Plain03C Plain03D Plain03E Plain04B Plain03F Plain03G Plain17 Plain17B Plain55 EngG SOct LxA EngT SLex LxB SRef04 PlR LxC LxD LxE. -/
import Derived.Test.YtjajlcacbbnodaaGreatDoorRows
import Derived.Test.YtjajlcacbbnodaaGreatDoorShelf
import Derived.Recover
import Derived.Shelf.Strings.SlTrimAscii
import Derived.Lib.Repeat
import Derived.SliceStrings
import Derived.Lib.IndexMore
import Derived.Lib.LastIndexLaws
import Derived.Test.YtjajlcacbbnodaaGreatDoorMllbmeeao
/- The engine's rules for structs in memory, rows that grow (append), and strings.Builder as a piece of memory. -/
namespace Go.Proofs.YtjajlcacbbnodaaGreatDoor
set_option linter.unusedVariables false
set_option linter.unusedSimpArgs false
set_option linter.defProp false
set_option linter.unusedSimpArgs false
set_option linter.unusedVariables false
namespace Eng
open Go.RowKit

theorem add_none (b off n : Nat) : (⟨b, off, none⟩ : Addr).add n = ⟨b, off + n, none⟩ := by unfold Addr.add; split <;> simp_all

/-- The place of a field (of at least one cell). -/
def fOff (P : Program) (T : TypeId) (f : Nat) : Option Nat :=
  match P.underlying T with
  | some (.struct fs) => match fs[f]? with
    | some fd => match P.info? fd.type with
      | some i => match i.size with
        | 0 => none
        | _ + 1 => some fd.offset
      | none => none
    | none => none
  | _ => none
/-- What a type's elements are: cells each, bytes each, a zero value of as many cells. -/
def elB (P : Program) (E : TypeId) (sz bytes : Nat) : Bool :=
  match P.info? E with
  | some i => Nat.beq i.size sz && Nat.beq i.bytes bytes && (match i.zero with | some z => Nat.beq z.cells.size sz | none => false)
  | none => false
theorem elB_spec {P : Program} {E : TypeId} {sz bytes : Nat} (h : elB P E sz bytes = true) : ∃ i z, P.info? E = some i ∧ i.zero = some z ∧ i.size = sz ∧ i.bytes = bytes ∧ z.cells.size = sz := by
  unfold elB at h
  split at h
  · rename_i i hi
    simp only [Bool.and_eq_true, Nat.beq_eq] at h
    obtain ⟨⟨h1, h2⟩, h3⟩ := h
    split at h3
    · rename_i z hz; exact ⟨i, z, hi, hz, h1, h2, by simpa using h3⟩
    · cases h3
  · cases h

section
variable {S : Nat → Prop} {P : Program} {w : World} {PK : List PanicEntry → World → Prop} {K : Value → World → Prop}

theorem run_fa {T : TypeId} {f b off o : Nat} (h : fOff P T f = some o) : (mFA T (.pointer (some ⟨b, off, none⟩)) f).run P w = .ok (.value (.pointer (some ⟨b, off + o, none⟩))) w := by
  unfold fOff at h
  split at h
  · rename_i fs hu
    split at h
    · rename_i fd hfd
      split at h
      · rename_i i hi
        cases hs : i.size with
        | zero => rw [hs] at h; cases h
        | succ m =>
          rw [hs] at h
          simp only [Option.some.injEq] at h
          subst h
          refine mv_run ?_
          simp [Instr.fieldAt, run_underlying hu, hfd, Instr.sureAddr, fieldPlace, sizeOf, typeInfo, hi, hs, add_none]
      · cases h
    · cases h
  · cases h
theorem f_addr {T : TypeId} {f b off o : Nat} (h : fOff P T f = some o) : DoX P (mFA T (.pointer (some ⟨b, off, none⟩)) f) w PK K = K (.pointer (some ⟨b, off + o, none⟩)) w := do_eq (run_fa h)
theorem run_nil {a : Addr} : (mNil (.pointer (some a))).run P w = .ok (.value (.pointer (some a))) w := by simp [mNil, execOp]

/- BITS -/
def bOr (k : IntKind) (x y : Int) : Int := k.wrap ((BitVec.ofInt k.bits x ||| BitVec.ofInt k.bits y).toNat : Int)
theorem r_or {T : TypeId} {k : IntKind} {a b : Int} : (mBin .or T (.int k a) (.int k b)).run P w = .ok (.value (.int k (bOr k a b))) w := mv_run (by simp [binOp, Op.intBits, bOr])
theorem r_shl {T : TypeId} {k k' : IntKind} {a b : Int} (h : 0 ≤ b) : (mBin .shl T (.int k a) (.int k' b)).run P w = .ok (.value (.int k (k.wrap (a * 2 ^ (min b.toNat k.bits))))) w := mv_run (by
  have h' : ¬ b < 0 := by omega
  simp [binOp, Op.shift, h'])
theorem b_or {T : TypeId} {k : IntKind} {a b : Int} : DoX P (mBin .or T (.int k a) (.int k b)) w PK K = K (.int k (bOr k a b)) w := do_eq r_or
theorem b_shl {T : TypeId} {k k' : IntKind} {a b : Int} (h : 0 ≤ b) : DoX P (mBin .shl T (.int k a) (.int k' b)) w PK K = K (.int k (k.wrap (a * 2 ^ (min b.toNat k.bits)))) w := do_eq (r_shl h)
theorem run_s_ix {T : TypeId} {k : IntKind} {i : Int} {a : List UInt8} {c : UInt8} (h : P.underlying T = some .string) (h0 : 0 ≤ i) (hc : a[i.toNat]? = some c) : (mIx T (.string ⟨a.toArray⟩) (.int k i)).run P w = .ok (.value (.int .u8 (c.toNat : Int))) w := by
  refine mv_run ?_
  have e : (⟨a.toArray⟩ : ByteArray)[i.toNat]? = some c := by
    have hl : i.toNat < a.length := (List.getElem?_eq_some_iff.1 hc).1
    have h1 : i.toNat < (⟨a.toArray⟩ : ByteArray).size := by rw [str_size]; exact hl
    rw [getElem?_pos (⟨a.toArray⟩ : ByteArray) i.toNat h1]
    have h2 := (List.getElem?_eq_some_iff.1 hc).2
    rw [← h2]; rfl
  simp only [Instr.index, asIntOf, run_underlying h, h0, e]
  simp [h0, e, run_underlying h]
/- APPEND -/
theorem newer {E : TypeId} {sz bytes : Nat} {T U : TypeId} {i : TypeInfo} {z : Value} (ht : P.underlying T = some (.slice E)) (hi : P.info? E = some i) (hz : i.zero = some z) (hi1 : i.size = sz) (hi2 : i.bytes = bytes) (hz1 : z.cells.size = sz) (hsz : 0 < sz)
    {v v' : Value} {w' : World} {n m c : Nat} {xs news : List Value} {a : Addr} (hown : w.ownsRowF 0 E sz v n xs) (hl : news.length = m * sz) (hnews : ∀ j u, news[j]? = some u → w.cell? (a.add j) = some u) (h1 : ∀ u ∈ news, u.oneCell' = true)
    (hmx : n + m ≤ 9223372036854775807) (hb : (n + m) * bytes ≤ 140737488355328) (hr : (Builtin.append_ #[T, T] U #[v, .slice (some a) m c]).run P w = .ok v' w') :
    ∀ k, v'.ownBlock = some k → v.ownBlock = some k ∨ w.heap.size ≤ k := by
  intro k hk
  have hmx' : n + m ≤ maxLen := by simp only [maxLen]; omega
  rcases hown.2 with ⟨rfl, rfl⟩ | ⟨g, cap, cur, fz, rfl, hbg, hg, hfz, hnc, hcm, hcs, htake⟩
  · obtain ⟨v2, w2, r1, r2, r3, r4⟩ := run_append_ownF (P := P) w w.heap.size T U E i z sz bytes ht hi hz hi1 hi2 hz1 hsz (.slice none 0 0) 0 xs ⟨hown.1, .inl ⟨rfl, rfl⟩⟩ a m c news hl hnews h1 hmx' hb (Nat.le_refl _)
    rw [r1] at hr
    cases hr
    exact .inr (World.ownsRowF.lt r2 k hk).1
  · subst hi1
    subst hi2
    by_cases hroom : n + m ≤ cap
    · have hfit : n * i.size + news.length ≤ cur.size := by rw [hl, hcs, ← Nat.add_mul]; exact Nat.mul_le_mul_right _ hroom
      rw [run_append_roomF (P := P) w T U E i ht hi g n cap cur fz hg hfz a m c news hl hnews h1 hroom hfit] at hr
      cases hr
      exact .inl hk
    · have holds : ∀ j u, xs[j]? = some u → w.cell? ((⟨g, 0, none⟩ : Addr).add j) = some u := hown.cells (g := g) rfl
      rw [run_append_grow (P := P) w T U E i z ht hi hz ⟨g, 0, none⟩ n cap xs hown.1 holds a m c news hl hnews (by omega) (by omega) (growslice_fits (by omega) hb)] at hr
      cases hr
      simp only [Value.ownBlock, Option.some.injEq] at hk
      exact .inr (by omega)
theorem run_append_any {T E U : TypeId} {cs : Array Bool} {v v2 : Value} {sz bytes n m : Nat} {xs news : List Value} (ht : P.underlying T = some (.slice E)) (he : elB P E sz bytes = true) (hsz : 0 < sz)
    (hown : w.ownsRowF 0 E sz v n xs) (hs : Sl w v2 sz m news) (h1 : ∀ u ∈ news, u.oneCell' = true) (hb : (n + m) * bytes ≤ 140737488355328) (hb2 : n + m ≤ 140737488355328) :
    ∃ v' w', (mB .append #[T, T] U cs #[v, v2]).run P w = .ok (.value v') w' ∧ Turn (.row E sz v n xs) (.row E sz v' (n + m) (xs ++ news)) w w' := by
  obtain ⟨i, z, hi, hz, hi1, hi2, hz1⟩ := elB_spec he
  obtain ⟨hl, a, cap, rfl, hn, hc⟩ := hs
  have hmx : n + m ≤ maxLen := by simp only [maxLen]; omega
  have fin : ∀ (a : Addr), (∀ j u, news[j]? = some u → w.cell? (a.add j) = some u) → ∃ v' w', (mB .append #[T, T] U cs #[v, .slice (some a) m cap]).run P w = .ok (.value v') w' ∧ Turn (.row E sz v n xs) (.row E sz v' (n + m) (xs ++ news)) w w' := by
    intro a hh
    obtain ⟨v', w', r1, r2, r3, r4⟩ := run_append_ownF (P := P) w 0 T U E i z sz bytes ht hi hz hi1 hi2 hz1 hsz v n xs hown a m cap news hl hh h1 hmx hb (Nat.zero_le _)
    refine ⟨v', w', ?_, grew_by r3, r2, newer (P := P) ht hi hz hi1 hi2 hz1 hsz hown hl hh h1 (by omega) hb r1⟩
    simp [mB, builtin, r1]
  cases a with
  | some p =>
    refine fin p fun j u hj => ?_
    have hlt : j < news.length := (List.getElem?_eq_some_iff.1 hj).1
    have hm : 0 < m := by
      rcases Nat.eq_zero_or_pos m with h0 | h0
      · subst h0; simp at hl; rw [hl] at hlt; simp at hlt
      · exact h0
    obtain ⟨hsp, hcell⟩ := hc p rfl
    have := hsp hm
    obtain ⟨b, off, spot⟩ := p
    simp only at this hcell
    subst this
    rw [add_none]; exact hcell j u hj
  | none =>
    have h0 := hn rfl
    subst h0
    have hnil : news = [] := List.eq_nil_of_length_eq_zero (by simpa using hl)
    subst hnil
    refine ⟨v, w, ?_, by rw [List.append_nil]; exact Turn.refl (e := .row E sz v n xs) hown⟩
    rcases hown.2 with ⟨rfl, rfl⟩ | ⟨g, cp, cur, fz, rfl, _, _, _, hnc, _⟩
    · simp [mB, builtin, Builtin.append_, run_underlying ht, sizeOf, typeInfo, hi, Builtin.lenOf, Builtin.firstCells]
    · simp [mB, builtin, Builtin.append_, run_underlying ht, sizeOf, typeInfo, hi, Builtin.lenOf, Builtin.firstCells, hnc, storeCells]
/-- append(s, more...): the i-th piece is the row; what is appended may be read anywhere. -/
theorem o_append {w0 : World} {L : List Ent} (i : Nat) {T E U : TypeId} {cs : Array Bool} {v v2 : Value} {sz bytes n m : Nat} {xs news : List Value} (ht : P.underlying T = some (.slice E)) (he : elB P E sz bytes = true) (hsz : 0 < sz)
    (ho : OwnS S w0 w L) (hi : L[i]? = some (.row E sz v n xs)) (hs : Sl w v2 sz m news) (h1 : ∀ u ∈ news, u.oneCell' = true) (hb : (n + m) * bytes ≤ 140737488355328) (hb2 : n + m ≤ 140737488355328)
    (k : ∀ v' w', OwnS S w0 w' (L.set i (.row E sz v' (n + m) (xs ++ news))) → K v' w') : DoX P (mB .append #[T, T] U cs #[v, v2]) w PK K := by
  obtain ⟨v', w', r, t⟩ := run_append_any (cs := cs) (U := U) ht he hsz (ho.at_ i hi) hs h1 hb hb2
  exact do_ok r (k _ _ (ho.turn i hi t))
/-- No slice of a block, without room. -/
def roomy (v : Value) : Prop := ∀ a k, v ≠ .slice (some a) k 0
theorem roomy_nil : roomy (.slice none 0 0) := fun _ _ h => by cases h
theorem roomy_row {E : TypeId} {sz : Nat} {v : Value} {n : Nat} {xs : List Value} (h : w.ownsRowF 0 E sz v n xs) (hn : 0 < n) : roomy v := by
  intro a k hc
  rcases h.2 with ⟨rfl, _⟩ | ⟨g, cap, cur, fz, rfl, hbg, hg, hfz, hnc, hcm, hcs, htake⟩
  · cases hc
  · injection hc with c1 c2 c3
    omega
theorem strCells_bytesV (l : List UInt8) : Lib.strCells ⟨l.toArray⟩ = bytesV l := by
  simp [Lib.strCells, bytesV]
theorem run_append_string {T U2 E U : TypeId} {cs : Array Bool} {v : Value} {n : Nat} {xs : List Value} {l : List UInt8} (ht : P.underlying T = some (.slice E)) (hu : P.underlying U2 = some .string) (he : elB P E 1 1 = true) (h8 : P.underlying E = some (.int .u8))
    (hz8 : (P.info? E).bind (·.zero) = some (.int .u8 0))
    (hown : w.ownsRowF 0 E 1 v n xs) (hb2 : n + l.length ≤ 140737488355328) :
    ∃ v' w', (mB .append #[T, U2] U cs #[v, .string ⟨l.toArray⟩]).run P w = .ok (.value v') w' ∧ Turn (.row E 1 v n xs) (.row E 1 v' (n + l.length) (xs ++ bytesV l)) w w' ∧ (roomy v → roomy v') := by
  obtain ⟨i, z, hi, hz, hi1, hi2, hz1⟩ := elB_spec he
  have hz0 : i.zero = some (.int .u8 0) := by rw [hi] at hz8; exact hz8
  have hsz := str_size l
  have hmx : n + (⟨l.toArray⟩ : ByteArray).size ≤ maxLen := by rw [hsz]; simp only [maxLen]; omega
  obtain ⟨v', w', r1, r2, r3, r4⟩ := Lib.run_append_own_stringF (P := P) w 0 T U2 U E i ht hu hi hz0 hi1 hi2 v n xs hown ⟨l.toArray⟩ hmx (by rw [hsz]; omega) (Nat.zero_le _)
  rw [strCells_bytesV, hsz] at r2
  have hro : roomy v → roomy v' := by
    intro hv a k hc
    rcases Nat.eq_zero_or_pos (n + l.length) with h0 | h0
    · rcases hown.2 with ⟨rfl, _⟩ | ⟨g, cap, cur, fz, rfl, hbg, hg, hfz, hnc, hcm, hcs, htake⟩
      · have := r4.2 ⟨rfl, by rw [hsz]; omega⟩
        rw [this] at hc; cases hc
      · have hroom : n + (⟨l.toArray⟩ : ByteArray).size ≤ cap := by rw [hsz]; omega
        rw [Lib.run_append_room_stringF (P := P) w T U2 U E i ht hu hi hi1 g n cap cur fz hg (by simpa using hfz) ⟨l.toArray⟩ hroom (by simp at hcs; omega)] at r1
        injection r1 with r1a r1b
        rw [← r1a] at hc
        injection hc with c1 c2 c3
        exact hv ⟨g, 0, none⟩ n (by rw [c3])
    · exact roomy_row r2 h0 a k hc
  refine ⟨v', w', by simp [mB, builtin, r1], ⟨grew_by r3, r2, ?_⟩, hro⟩
  intro k hk
  rcases hown.2 with ⟨rfl, rfl⟩ | ⟨g, cap, cur, fz, rfl, hbg, hg, hfz, hnc, hcm, hcs, htake⟩
  · obtain ⟨v2, w2, q1, q2, q3, q4⟩ := Lib.run_append_own_stringF (P := P) w w.heap.size T U2 U E i ht hu hi hz0 hi1 hi2 (.slice none 0 0) 0 xs ⟨hown.1, .inl ⟨rfl, rfl⟩⟩ ⟨l.toArray⟩ hmx (by rw [hsz]; omega) (Nat.le_refl _)
    rw [q1] at r1
    cases r1
    exact .inr (World.ownsRowF.lt q2 k hk).1
  · by_cases hroom : n + (⟨l.toArray⟩ : ByteArray).size ≤ cap
    · rw [Lib.run_append_room_stringF (P := P) w T U2 U E i ht hu hi hi1 g n cap cur fz hg (by simpa using hfz) ⟨l.toArray⟩ hroom (by simp at hcs; omega)] at r1
      cases r1
      exact .inl hk
    · have holds : ∀ j u, xs[j]? = some u → w.cell? ((⟨g, 0, none⟩ : Addr).add j) = some u := hown.cells (g := g) rfl
      rw [Lib.run_append_grow_string (P := P) w T U2 U E i (.int .u8 0) ht hu hi hz0 ⟨g, 0, none⟩ n cap xs (by rw [hi1]; simpa using hown.1) holds ⟨l.toArray⟩ (by omega) (by rw [hsz]; omega) (by rw [hi2]; exact growslice_fits (by omega) (by rw [hsz]; omega))] at r1
      cases r1
      have hk' : some w.heap.size = some k := hk
      cases hk'
      exact .inr (Nat.le_refl _)
theorem o_append_str {w0 : World} {L : List Ent} (i : Nat) {T U2 E U : TypeId} {cs : Array Bool} {v : Value} {n : Nat} {xs : List Value} {l : List UInt8} (ht : P.underlying T = some (.slice E)) (hu : P.underlying U2 = some .string) (he : elB P E 1 1 = true) (h8 : P.underlying E = some (.int .u8))
    (hz8 : (P.info? E).bind (·.zero) = some (.int .u8 0)) (ho : OwnS S w0 w L) (hi : L[i]? = some (.row E 1 v n xs)) (hb2 : n + l.length ≤ 140737488355328)
    (k : ∀ v' w', (roomy v → roomy v') → OwnS S w0 w' (L.set i (.row E 1 v' (n + l.length) (xs ++ bytesV l))) → K v' w') : DoX P (mB .append #[T, U2] U cs #[v, .string ⟨l.toArray⟩]) w PK K := by
  obtain ⟨v', w', r, t, hc⟩ := run_append_string (cs := cs) (U := U) ht hu he h8 hz8 (ho.at_ i hi) hb2
  exact do_ok r (k _ _ hc (ho.turn i hi t))
/-- A nil slice is a row. -/
theorem OwnS.nilRow {w0 : World} {L : List Ent} (ho : OwnS S w0 w L) (E : TypeId) (sz : Nat) : OwnS S w0 w (.row E sz (.slice none 0 0) 0 [] :: L) := by
  refine ⟨ho.grew, fun e he => ?_, .cons (fun f hf k hk => by simp [Ent.row, Value.ownBlock] at hk) ho.apart⟩
  rcases List.mem_cons.1 he with rfl | he
  · exact ⟨World.ownsRowF_nil w 0 E sz, fun k hk => by simp [Ent.row, Value.ownBlock] at hk⟩
  · exact ho.all e he
theorem OwnS.slRow {w0 : World} {L : List Ent} (ho : OwnS S w0 w L) (i : Nat) {T : TypeId} {sz : Nat} {v : Value} {n : Nat} {xs : List Value} (hi : L[i]? = some (.row T sz v n xs)) : Sl w v sz n xs := Sl.row (ho.at_ i hi)
/-- A block of cells, all of them in use, is a row. -/
theorem OwnS.toRow {w0 : World} {L : List Ent} {b : Nat} {cs : List Value} {E : TypeId} (ho : OwnS S w0 w (.cells b cs E :: L)) (sz n cap : Nat) (hl : cs.length = cap * sz) (hn : n ≤ cap) (hc : cap ≤ 9223372036854775807) :
    OwnS S w0 w (.row E sz (.slice (some ⟨b, 0, none⟩) n cap) n (cs.take (n * sz)) :: L) := by
  refine ⟨ho.grew, fun e he => ?_, ?_⟩
  · rcases List.mem_cons.1 he with rfl | he
    · refine ⟨⟨by rw [List.length_take, hl, Nat.min_eq_left (Nat.mul_le_mul_right _ hn)], .inr ⟨b, cap, cs.toArray, (0, 0), rfl, Nat.zero_le _, ho.at_ 0 rfl, Nat.zero_le _, hn, by simp only [maxLen]; omega, by simpa using hl, by simp⟩⟩, fun k hk => ?_⟩
      simp only [Ent.row, Value.ownBlock, Option.some.injEq] at hk
      exact (ho.all (.cells b cs E) (by simp)).2 k hk.symm
    · exact ho.all e (by simp [he])
  · refine .cons (fun f hf k hk => ?_) (List.pairwise_cons.1 ho.apart).2
    simp only [Ent.row, Value.ownBlock, Option.some.injEq] at hk
    exact (List.pairwise_cons.1 ho.apart).1 f hf k hk.symm

/-- make([]T, 0, c). -/
theorem o_make {w0 : World} {L : List Ent} {T E : TypeId} {sz bytes c : Nat} {kl kc : IntKind} {x : Int} (hx : x = c) (ht : P.underlying T = some (.slice E)) (he : elB P E sz bytes = true) (hb : bytes * c ≤ 281474976710656) (hc : c ≤ 281474976710656) (ho : OwnS S w0 w L)
    (k : ∀ v w', OwnS S w0 w' (.row E sz v 0 [] :: L) → K v w') : DoX P (mMake T (.int kl 0) (.int kc x)) w PK K := by
  subst hx
  obtain ⟨i, z, hi, hz, hi1, hi2, hz1⟩ := elB_spec he
  obtain ⟨w', r1, r2, r3⟩ := run_make_own (P := P) w w.heap.size T E i z sz ht hi hz hi1 kl kc c (by rw [hi2]; exact hb) (by simp only [maxLen]; omega) (Nat.le_refl _)
  refine do_ok (mv_run r1) (k _ _ (ho.add r3 (.row E sz (.slice (some ⟨w.heap.size, 0, none⟩) 0 c) 0 []) ?_ (fun k hk => ?_)))
  · have := World.ownsRowF_of r2
    refine ⟨this.1, ?_⟩
    rcases this.2 with h | ⟨g, cp, cur, fz, h1, h2, h3⟩
    · exact .inl h
    · exact .inr ⟨g, cp, cur, fz, h1, Nat.zero_le _, h3⟩
  · have hk' : some w.heap.size = some k := hk
    cases hk'; exact Nat.le_refl _
/- STRINGS.BUILDER -/
/-- A Builder in block b, its buffer the slice v, that holds l. -/
def Ent.bld (T E : TypeId) (b : Nat) (v : Value) (l : List UInt8) : Ent :=
  ⟨fun k => k = b ∨ v.ownBlock = some k,
   fun w => (∃ p, (p = .pointer none ∨ p = .pointer (some ⟨b, 0, none⟩)) ∧ w.heap[b]? = some (.cells #[p, v] T (0, 0))) ∧ w.ownsRowF 0 E 1 v l.length (bytesV l) ∧ v.ownBlock ≠ some b ∧ roomy v,
   fun {w w'} h k => ⟨by obtain ⟨p, hp, hb⟩ := h.1; exact ⟨p, hp, (k b (.inl rfl)).trans hb⟩, (Ent.row E 1 v l.length (bytesV l)).keep h.2.1 (fun j hj => k j (.inr hj)), h.2.2⟩,
   fun {w} h k hk => by
    rcases hk with rfl | hk
    · obtain ⟨p, hp, hb⟩ := h.1; exact lt_of_get hb
    · exact (World.ownsRowF.lt h.2.1 k hk).2⟩
theorem OwnS.openB {w0 : World} {L : List Ent} {T E : TypeId} {b : Nat} {v : Value} {l : List UInt8} (ho : OwnS S w0 w (.bld T E b v l :: L)) :
    ∃ p, (p = .pointer none ∨ p = .pointer (some ⟨b, 0, none⟩)) ∧ roomy v ∧ OwnS S w0 w (.cells b [p, v] T :: .row E 1 v l.length (bytesV l) :: L) := by
  have hm := ho.all (.bld T E b v l) (by simp)
  obtain ⟨⟨p, hp, hb⟩, hr, hne, hcap⟩ := hm.1
  refine ⟨p, hp, hcap, ho.grew, fun e he => ?_, ?_⟩
  · rcases List.mem_cons.1 he with rfl | he
    · exact ⟨hb, fun k hk => hm.2 k (.inl hk)⟩
    · rcases List.mem_cons.1 he with rfl | he
      · exact ⟨hr, fun k hk => hm.2 k (.inr hk)⟩
      · exact ho.all e (by simp [he])
  · obtain ⟨h1, h2⟩ := List.pairwise_cons.1 ho.apart
    refine .cons (fun f hf k hk hk' => ?_) (.cons (fun f hf k hk => h1 f hf k (.inr hk)) h2)
    rcases List.mem_cons.1 hf with rfl | hf
    · have hkb : k = b := hk
      rw [hkb] at hk'
      exact hne hk'
    · exact h1 f hf k (.inl hk) hk'
theorem OwnS.closeB {w0 : World} {L : List Ent} {T E : TypeId} {b n : Nat} {p v : Value} {l : List UInt8} (hp : p = .pointer none ∨ p = .pointer (some ⟨b, 0, none⟩)) (hcap : roomy v) (ho : OwnS S w0 w (.cells b [p, v] T :: .row E 1 v n (bytesV l) :: L)) :
    OwnS S w0 w (.bld T E b v l :: L) := by
  have h0 := ho.all (.cells b [p, v] T) (by simp)
  have h1 := ho.all (.row E 1 v n (bytesV l)) (by simp)
  obtain ⟨a1, a2⟩ := List.pairwise_cons.1 ho.apart
  obtain ⟨a3, a4⟩ := List.pairwise_cons.1 a2
  have hn : n = l.length := by have := h1.1.1; rw [bytesV_length] at this; omega
  subst hn
  refine ⟨ho.grew, fun e he => ?_, .cons (fun f hf k hk hk' => ?_) a4⟩
  · rcases List.mem_cons.1 he with rfl | he
    · refine ⟨⟨⟨p, hp, h0.1⟩, h1.1, fun hc => a1 (.row E 1 v l.length (bytesV l)) (by simp) b rfl hc, hcap⟩, fun k hk => ?_⟩
      rcases hk with hk | hk
      · exact h0.2 k hk
      · exact h1.2 k hk
    · exact ho.all e (by simp [he])
  · rcases hk with hk | hk
    · exact a1 f (by simp [hf]) k hk hk'
    · exact a3 f hf k hk hk'
theorem OwnS.swap {w0 : World} {e f : Ent} {L : List Ent} (ho : OwnS S w0 w (e :: f :: L)) : OwnS S w0 w (f :: e :: L) := by
  obtain ⟨a1, a2⟩ := List.pairwise_cons.1 ho.apart
  obtain ⟨a3, a4⟩ := List.pairwise_cons.1 a2
  exact ⟨ho.grew, fun g hg => ho.all g (by simp only [List.mem_cons] at hg ⊢; rcases hg with h | h | h <;> simp [h]), .cons (fun g hg k hk hk' => by
    rcases List.mem_cons.1 hg with rfl | hg
    · exact a1 f (by simp) k hk' hk
    · exact a3 g hg k hk hk') (.cons (fun g hg k hk hk' => a1 g (by simp [hg]) k hk hk') a4)⟩

/-- A callee turns the i-th piece. -/
theorem c_turn {w0 : World} {L : List Ent} (i : Nat) {f : Nat} {args : Array Value} {e : Ent} {R : Value → Ent → Prop} (ho : OwnS S w0 w L) (hi : L[i]? = some e) (h : Ret P f args w (fun v w' => ∃ e', R v e' ∧ Turn e e' w w'))
    (k : ∀ v e' w', R v e' → OwnS S w0 w' (L.set i e') → K v w') : CallX P f args w PK K :=
  c_ret h fun v w' ⟨e', hr, ht⟩ => k v e' w' hr (ho.turn i hi ht)
/-- A callee that only makes memory. -/
theorem c_below {w0 : World} {L : List Ent} {f : Nat} {args : Array Value} {R : Value → Prop} (ho : OwnS S w0 w L) (h : Ret P f args w (fun v w' => R v ∧ Below w.heap.size w w'))
    (k : ∀ v w', R v → OwnS S w0 w' L → K v w') : CallX P f args w PK K :=
  c_ret h fun v w' ⟨hr, hb⟩ => k v w' hr (ho.grow hb)
end
end Eng
end Go.Proofs.YtjajlcacbbnodaaGreatDoor
/- Code in continuation form, by program (gen.py): 7 functions. -/
namespace Go.Proofs.YtjajlcacbbnodaaGreatDoor
set_option linter.unusedVariables false
set_option linter.unusedSimpArgs false
set_option linter.defProp false
set_option linter.unusedVariables false
set_option maxRecDepth 20000
open Eng

/- (*strings.Builder).copyCheck -/
def S_strings_Builder_copyCheck (t0 : Value) (w : World) (K : Ending → World → Prop) : Prop :=
 DoX Tryz.prog (mNil t0) w (pk K) fun t3 w =>
 DoX Tryz.prog (mFA 93 t3 0) w (pk K) fun t4 w =>
 DoX Tryz.prog (mLoad 90 t4) w (pk K) fun t5 w =>
 DoX Tryz.prog (mEq .eql 90 (.tmp 5) (.const (.pointer none)) t5 (.pointer none)) w (pk K) fun t6 w =>
 IfX t6 (DoX Tryz.prog (mConv 90 210 t0) w (pk K) fun t9 w =>
 DoX Tryz.prog (mCallV (.func (.func 222) #[] #[]) #[t9]) w (pk K) fun t10 w =>
 DoX Tryz.prog (mConv 210 90 t10) w (pk K) fun t11 w =>
 DoX Tryz.prog (mNil t0) w (pk K) fun t12 w =>
 DoX Tryz.prog (mFA 93 t12 0) w (pk K) fun t13 w =>
 DoX Tryz.prog (mStore 90 t13 t11) w (pk K) fun _ w =>
 K (.returned (.tuple #[])) w) (DoX Tryz.prog (mNil t0) w (pk K) fun t15 w =>
 DoX Tryz.prog (mFA 93 t15 0) w (pk K) fun t16 w =>
 DoX Tryz.prog (mLoad 90 t16) w (pk K) fun t17 w =>
 DoX Tryz.prog (mEq .neq 90 (.tmp 17) (.tmp 18) t17 t0) w (pk K) fun t19 w =>
 IfX t19 (False) (K (.returned (.tuple #[])) w))
theorem S_strings_Builder_copyCheck_eq (t0 : Value) (w : World) (K : Ending → World → Prop) : wpX Tryz.prog 20 [] [] none (bodyOf Tryz.f143) (topQ Tryz.prog [] K) (startX [t0]) [] w = S_strings_Builder_copyCheck t0 w K := by kernel_rfl
theorem S_strings_Builder_copyCheck_ok {t0 : Value} {w : World} {K : Ending → World → Prop} (h : S_strings_Builder_copyCheck t0 w K) : Calls Tryz.prog 143 #[t0] w K :=
  calls_of_wpX Tryz.func143 rfl rfl rfl rfl (Eq.mpr (S_strings_Builder_copyCheck_eq t0 w K) h)

/- (*strings.Builder).WriteByte -/
def S_strings_Builder_WriteByte (t0 t1 : Value) (w : World) (K : Ending → World → Prop) : Prop :=
 CallX Tryz.prog 143 #[t0] w (pk K) fun t6 w =>
 DoX Tryz.prog (mNil t0) w (pk K) fun t9 w =>
 DoX Tryz.prog (mFA 93 t9 1) w (pk K) fun t10 w =>
 DoX Tryz.prog (mLoad 91 t10) w (pk K) fun t11 w =>
 DoX Tryz.prog (mBuildS 91 1 #[(0, t1)]) w (pk K) fun t13 w =>
 DoX Tryz.prog (mB .append #[91, 91] 91 #[false, false] #[t11, t13]) w (pk K) fun t14 w =>
 DoX Tryz.prog (mNil t0) w (pk K) fun t15 w =>
 DoX Tryz.prog (mFA 93 t15 1) w (pk K) fun t16 w =>
 DoX Tryz.prog (mStore 91 t16 t14) w (pk K) fun _ w =>
 K (.returned .nilIface) w
theorem S_strings_Builder_WriteByte_eq (t0 t1 : Value) (w : World) (K : Ending → World → Prop) : wpX Tryz.prog 17 [] [] none (bodyOf Tryz.f71) (topQ Tryz.prog [.tmp 4] K) (startX [t0, t1]) [] w = S_strings_Builder_WriteByte t0 t1 w K := by kernel_rfl
theorem S_strings_Builder_WriteByte_ok {t0 t1 : Value} {w : World} {K : Ending → World → Prop} (h : S_strings_Builder_WriteByte t0 t1 w K) : Calls Tryz.prog 71 #[t0, t1] w K :=
  calls_of_wpX Tryz.func71 rfl rfl rfl rfl (Eq.mpr (S_strings_Builder_WriteByte_eq t0 t1 w K) h)

/- (*strings.Builder).WriteString -/
def S_strings_Builder_WriteString (t0 t1 : Value) (w : World) (K : Ending → World → Prop) : Prop :=
 CallX Tryz.prog 143 #[t0] w (pk K) fun t7 w =>
 DoX Tryz.prog (mNil t0) w (pk K) fun t10 w =>
 DoX Tryz.prog (mFA 93 t10 1) w (pk K) fun t11 w =>
 DoX Tryz.prog (mLoad 91 t11) w (pk K) fun t12 w =>
 DoX Tryz.prog (mB .append #[91, 9] 91 #[false, false] #[t12, t1]) w (pk K) fun t14 w =>
 DoX Tryz.prog (mNil t0) w (pk K) fun t15 w =>
 DoX Tryz.prog (mFA 93 t15 1) w (pk K) fun t16 w =>
 DoX Tryz.prog (mStore 91 t16 t14) w (pk K) fun _ w =>
 DoX Tryz.prog (mB .len #[9] 3 #[false] #[t1]) w (pk K) fun t18 w =>
 K (.returned (.tuple #[t18, .nilIface])) w
theorem S_strings_Builder_WriteString_eq (t0 t1 : Value) (w : World) (K : Ending → World → Prop) : wpX Tryz.prog 19 [] [] none (bodyOf Tryz.f70) (topQ Tryz.prog [.tmp 4, .tmp 5] K) (startX [t0, t1]) [] w = S_strings_Builder_WriteString t0 t1 w K := by kernel_rfl
theorem S_strings_Builder_WriteString_ok {t0 t1 : Value} {w : World} {K : Ending → World → Prop} (h : S_strings_Builder_WriteString t0 t1 w K) : Calls Tryz.prog 70 #[t0, t1] w K :=
  calls_of_wpX Tryz.func70 rfl rfl rfl rfl (Eq.mpr (S_strings_Builder_WriteString_eq t0 t1 w K) h)

/- (*strings.Builder).String -/
def S_strings_Builder_String (t0 : Value) (w : World) (K : Ending → World → Prop) : Prop :=
 QuietX w (fun C1 =>
 QDo Tryz.prog C1 (mNil t0) fun t4 =>
 QDo Tryz.prog C1 (mFA 93 t4 1) fun t5 =>
 QDo Tryz.prog C1 (mLoad 91 t5) fun t6 =>
 QDo Tryz.prog C1 (mB .unsafeSliceData #[91] 162 #[false] #[t6]) fun t7 =>
 QDo Tryz.prog C1 (mNil t0) fun t9 =>
 QDo Tryz.prog C1 (mFA 93 t9 1) fun t10 =>
 QDo Tryz.prog C1 (mLoad 91 t10) fun t11 =>
 QDo Tryz.prog C1 (mB .len #[91] 3 #[false] #[t11]) fun t12 =>
 ∀ w, C1 w →
 DoX Tryz.prog (mB .unsafeString #[162, 3] 9 #[false, false] #[t7, t12]) w (pk K) fun t13 w =>
 K (.returned t13) w)
theorem S_strings_Builder_String_eq (t0 : Value) (w : World) (K : Ending → World → Prop) : wpX Tryz.prog 14 [] [] none (bodyOf Tryz.f72) (topQ Tryz.prog [.tmp 2] K) (startX [t0]) [] w = S_strings_Builder_String t0 w K := by kernel_rfl
theorem S_strings_Builder_String_ok {t0 : Value} {w : World} {K : Ending → World → Prop} (h : S_strings_Builder_String t0 w K) : Calls Tryz.prog 72 #[t0] w K :=
  calls_of_wpX Tryz.func72 rfl rfl rfl rfl (Eq.mpr (S_strings_Builder_String_eq t0 w K) h)

/- (*strings.Builder).Grow -/
/- (*strings.Builder).grow -/
/- (*strings.Builder).Len -/
end Go.Proofs.YtjajlcacbbnodaaGreatDoor
/- Contracts: strings.Builder (copyCheck, WriteByte, WriteString, Grow on a fresh one, String), in terms of a piece of memory that is lent. -/
namespace Go.Proofs.YtjajlcacbbnodaaGreatDoor
set_option linter.unusedVariables false
set_option linter.unusedSimpArgs false
set_option linter.defProp false
open Eng Go.RowKit

abbrev Bld (b : Nat) (v : Value) (l : List UInt8) : Ent := .bld 93 5 b v l
theorem bytesV_append (a b : List UInt8) : bytesV (a ++ b) = bytesV a ++ bytesV b := by simp [bytesV]
theorem bytesV_one (l : List UInt8) : ∀ u ∈ bytesV l, u.oneCell' = true := by
  intro u hu
  simp only [bytesV, List.mem_map] at hu
  obtain ⟨c, _, rfl⟩ := hu
  rfl
theorem e_pnone {P : Program} {T U : TypeId} {xo : Operand} {a : Option Addr} {c : Value} {w : World} {PK : List PanicEntry → World → Prop} {K : Value → World → Prop} (h : P.underlying T = some (.pointer U)) :
    DoX P (mEq .eql T xo (.const c) (.pointer a) (.pointer none)) w PK K = K (.bool a.isNone) w := by
  refine mv_do ?_
  have e : (eqGuard .eql T xo (.const c) (.pointer a) (.pointer none)) = pure () := by cases xo <;> rfl
  rw [e]
  have h2 : ∀ d : Nat, (Op.equalIn (d + 1) T (.pointer a) (.pointer none)).run P w = .ok a.isNone w := fun d => by
    cases a <;> simp [Op.equalIn, run_underlying h]
  simp only [binOp]
  simp [Op.equal, Op.maxDepth, h2 9999]
theorem n_psame {P : Program} {T U : TypeId} {xo yo : Operand} {a : Addr} {w : World} {PK : List PanicEntry → World → Prop} {K : Value → World → Prop} (h : P.underlying T = some (.pointer U)) (hi : (P.info? U).isSome = true) (hg : eqGuard .neq T xo yo (.pointer (some a)) (.pointer (some a)) = pure ()) :
    DoX P (mEq .neq T xo yo (.pointer (some a)) (.pointer (some a))) w PK K = K (.bool false) w := by
  obtain ⟨j, hj⟩ := Option.isSome_iff_exists.1 hi
  refine mv_do ?_
  rw [hg]
  simp [Lib.run_neq_ptr_same w a h hj]

theorem copyCheck_ret {b : Nat} {v : Value} {l : List UInt8} {w : World} (h : (Bld b v l).is w) : Ret Tryz.prog 143 #[.pointer (some ⟨b, 0, none⟩)] w
    (fun r w' => ∃ e', (r = .tuple #[] ∧ e' = Bld b v l) ∧ Turn (Bld b v l) e' w w') := by
  obtain ⟨p, hp, hcap, ho⟩ := (OwnS.lend h).openB
  refine ret_of fun K hK => S_strings_Builder_copyCheck_ok ?_
  unfold S_strings_Builder_copyCheck
  simp only [rs, f_addr (show fOff Tryz.prog 93 0 = some 0 by kernel_rfl)]
  rw [l_cell (by kernel_rfl) (ho.cell 0 rfl 0 rfl)]
  rcases hp with rfl | rfl
  · rw [e_pnone Tryz.underlying90]
    simp only [Option.isNone_none, rs]
    obtain ⟨j, hj⟩ := Option.isSome_iff_exists.1 (show (Tryz.prog.info? 93).isSome = true by kernel_rfl)
    have hjs : j.size ≠ 0 := by
      have : (Tryz.prog.info? 93).map (·.size) = some 2 := by kernel_rfl
      rw [hj] at this
      simp only [Option.map_some, Option.some.injEq] at this
      omega
    have hsh : w.shape? b = some (93, 2) := by
      have hb : w.heap[b]? = some (.cells #[.pointer none, v] 93 (0, 0)) := ho.at_ 0 rfl
      simp [World.shape?, hb]
    refine do_ok (mv_run (Lib.run_to_unsafe w ⟨b, 0, none⟩ Tryz.underlying90 Tryz.underlying210 hj hjs hsh (by show 0 < 2; omega))) ?_
    refine do_ok (show (mCallV (.func (.func 222) #[] #[]) #[.pointer (some ⟨b, 0, none⟩)]).run Tryz.prog w = .ok (.value (.pointer (some ⟨b, 0, none⟩))) w by kernel_rfl) ?_
    refine do_ok (mv_run (Lib.run_from_unsafe w ⟨b, 0, none⟩ Tryz.underlying210 Tryz.underlying90 hj hsh (by kernel_rfl))) ?_
    refine o_store 0 ho rfl (by kernel_rfl) rfl (by simp) fun w2 ho2 => ?_
    exact hK _ _ ⟨_, ⟨rfl, rfl⟩, (OwnS.closeB (.inr rfl) hcap ho2).back⟩
  · rw [e_pnone Tryz.underlying90]
    simp only [Option.isNone_some, rs, f_addr (show fOff Tryz.prog 93 0 = some 0 by kernel_rfl)]
    rw [l_cell (by kernel_rfl) (ho.cell 0 rfl 0 rfl)]
    rw [n_psame Tryz.underlying90 (by kernel_rfl) rfl]
    simp only [rs]
    exact hK _ _ ⟨_, ⟨rfl, rfl⟩, (ho.closeB (.inr rfl) hcap).back⟩
theorem writeByte_ret {b : Nat} {v : Value} {l : List UInt8} {c : UInt8} {w : World} (h : (Bld b v l).is w) (hl : l.length < 140737488355328) : Ret Tryz.prog 71 #[.pointer (some ⟨b, 0, none⟩), .int .u8 c.toNat] w
    (fun r w' => ∃ e', (r = .nilIface ∧ ∃ v', e' = Bld b v' (l ++ [c])) ∧ Turn (Bld b v l) e' w w') := by
  refine ret_of fun K hK => S_strings_Builder_WriteByte_ok ?_
  unfold S_strings_Builder_WriteByte
  refine c_turn 0 (OwnS.lend h) rfl (copyCheck_ret h) ?_
  rintro _ _ w1 ⟨rfl, rfl⟩ ho1
  obtain ⟨p, hp, hcap, ho⟩ := OwnS.openB ho1
  simp only [rs, f_addr (show fOff Tryz.prog 93 1 = some 1 by kernel_rfl)]
  rw [l_cell (by kernel_rfl) (ho.cell 0 rfl 1 rfl)]
  refine o_new (fun b => .slice (some ⟨b, 0, none⟩) 1 1) [.int .u8 c.toNat] 5 (fun _ => by kernel_rfl) ho fun nb w2 h2 => ?_
  refine o_append 2 Tryz.underlying91 (show elB Tryz.prog 5 1 1 = true by kernel_rfl) (by decide) h2 rfl (h2.sl 0 rfl 1 1 1 rfl) (bytesV_one [c]) (by omega) (by omega) fun v' w3 h3 => ?_
  refine o_store 1 h3 rfl (by kernel_rfl) (by
    have := h3.at_ 2 rfl
    rcases this.2 with ⟨hv, _⟩ | ⟨_, _, _, _, hv, _⟩ <;> rw [hv] <;> rfl) (by simp) fun w4 h4 => ?_
  have h5 := h4.tail
  have h6 : OwnS (Bld b v l).blk w w4 (.cells b [p, v'] 93 :: .row 5 1 v' (l.length + 1) (bytesV (l ++ [c])) :: []) := by
    rw [bytesV_append]; exact h5
  exact hK _ _ ⟨_, ⟨rfl, v', rfl⟩, (OwnS.closeB hp (roomy_row (h6.at_ 1 rfl) (by omega)) h6).back⟩
theorem writeString_ret {b : Nat} {v : Value} {l s : List UInt8} {w : World} (h : (Bld b v l).is w) (hl : l.length + s.length ≤ 140737488355328) : Ret Tryz.prog 70 #[.pointer (some ⟨b, 0, none⟩), .string ⟨s.toArray⟩] w
    (fun r w' => ∃ e', ((∃ x, r = .tuple #[x, .nilIface]) ∧ ∃ v', e' = Bld b v' (l ++ s)) ∧ Turn (Bld b v l) e' w w') := by
  refine ret_of fun K hK => S_strings_Builder_WriteString_ok ?_
  unfold S_strings_Builder_WriteString
  refine c_turn 0 (OwnS.lend h) rfl (copyCheck_ret h) ?_
  rintro _ _ w1 ⟨rfl, rfl⟩ ho1
  obtain ⟨p, hp, hcap, ho⟩ := OwnS.openB ho1
  simp only [rs, f_addr (show fOff Tryz.prog 93 1 = some 1 by kernel_rfl)]
  rw [l_cell (by kernel_rfl) (ho.cell 0 rfl 1 rfl)]
  refine o_append_str 1 Tryz.underlying91 Tryz.underlying9 (show elB Tryz.prog 5 1 1 = true by kernel_rfl) Tryz.underlying5 (by kernel_rfl) ho rfl (by omega) fun v' w3 hro h3 => ?_
  refine o_store 0 h3 rfl (by kernel_rfl) (by
    have := h3.at_ 1 rfl
    rcases this.2 with ⟨hv, _⟩ | ⟨_, _, _, _, hv, _⟩ <;> rw [hv] <;> rfl) (by simp) fun w4 h4 => ?_
  rw [s_len Tryz.underlying9]
  have h6 : OwnS (Bld b v l).blk w w4 (.cells b [p, v'] 93 :: .row 5 1 v' (l.length + s.length) (bytesV (l ++ s)) :: []) := by
    rw [bytesV_append]; exact h4
  exact hK _ _ ⟨_, ⟨⟨_, rfl⟩, v', rfl⟩, (OwnS.closeB hp (hro hcap) h6).back⟩
theorem row_froze {E : TypeId} {g n cap : Nat} {xs : List Value} {w : World} (h : w.ownsRowF 0 E 1 (.slice (some ⟨g, 0, none⟩) n cap) n xs) (hn0 : n ≠ 0) :
    Turn (.row E 1 (.slice (some ⟨g, 0, none⟩) n cap) n xs) (.row E 1 (.slice (some ⟨g, 0, none⟩) n cap) n xs) w (w.freeze ⟨g, 0, none⟩ n) := by
  refine ⟨?_, ?_, fun k hk => .inl hk⟩
  · unfold World.freeze
    rw [if_neg hn0]
    refine ⟨rfl, rfl, rfl, by simp, fun k hk hne => ?_⟩
    have hkg : ¬ g = k := fun e => hne (by show some g = some k; rw [e])
    simp only [Array.getElem?_modify]
    rw [if_neg hkg]
  · refine ⟨h.1, ?_⟩
    unfold World.freeze
    rw [if_neg hn0]
    rcases h.2 with ⟨hv, _⟩ | ⟨g', cap', cur, fz, hv, hbg, hg, hfz, rest⟩
    · cases hv
    · injection hv with ha _ hcap
      injection ha with ha
      injection ha with hgg _ _
      subst hgg
      subst hcap
      obtain ⟨lo, hi⟩ := fz
      refine .inr ⟨g, _, cur, (if lo == hi then (0, 0 + n) else (min lo 0, max hi (0 + n))), rfl, hbg, ?_, ?_, rest⟩
      · simp [Array.getElem?_modify, hg]
      · simp only at hfz
        split <;> simp <;> omega
theorem run_usd {v : Value} {n : Nat} {T U : TypeId} {cs : Array Bool} {w : World} {E : TypeId} {xs : List Value} (h : w.ownsRowF 0 E 1 v n xs) (hr : roomy v) : ∃ q, (∀ w' : World, (mB .unsafeSliceData #[T] U cs #[v]).run Tryz.prog w' = .ok (.value (.pointer q)) w') ∧ (0 < n → ∃ g cap, v = .slice (some ⟨g, 0, none⟩) n cap ∧ q = some ⟨g, 0, none⟩) := by
  rcases h.2 with ⟨rfl, rfl⟩ | ⟨g, cap, cur, fz, rfl, hbg, hg, hfz, rest⟩
  · exact ⟨none, fun w' => by simp [mB, builtin, Lib.run_unsafeSliceData_nil], fun h => by omega⟩
  · refine ⟨some ⟨g, 0, none⟩, fun w' => ?_, fun _ => ⟨g, cap, rfl, rfl⟩⟩
    have hc : cap ≠ 0 := fun e => hr ⟨g, 0, none⟩ n (by rw [e])
    simp [mB, builtin, Lib.run_unsafeSliceData_row _ _ _ _ _ _ hc]
theorem bldString_ret {b : Nat} {v : Value} {l : List UInt8} {w : World} (h : (Bld b v l).is w) : Ret Tryz.prog 72 #[.pointer (some ⟨b, 0, none⟩)] w
    (fun r w' => ∃ e', (r = .string ⟨l.toArray⟩ ∧ e' = Bld b v l) ∧ Turn (Bld b v l) e' w w') := by
  obtain ⟨p, hp, hcap, ho⟩ := (OwnS.lend h).openB
  refine ret_of fun K hK => S_strings_Builder_String_ok ?_
  unfold S_strings_Builder_String
  have hrow : w.ownsRowF 0 5 1 v l.length (bytesV l) := ho.at_ 1 rfl
  obtain ⟨q, hq, hq2⟩ := run_usd (T := 91) (U := 162) (cs := #[false]) hrow hcap
  have hload : ∀ w', Below w.heap.size w w' → (mLoad 91 (.pointer (some ⟨b, 0 + 1, none⟩))).run Tryz.prog w' = .ok (.value v) w' := fun w' hb => run_load_cell (by kernel_rfl) ((ho.grow hb).cell 0 rfl 1 rfl)
  have hlen : ∀ w', Below w.heap.size w w' → (mB .len #[91] 3 #[false] #[v]).run Tryz.prog w' = .ok (.value (.int .i64 l.length)) w' := fun w' hb => by
    have hs := (ho.grow hb).slRow 1 rfl
    obtain ⟨_, a, cp, rfl, _⟩ := hs
    simp [mB, builtin, Builtin.len_, run_underlying Tryz.underlying91, goInt]
  refine quiet (q_do _ (fun w => run_nil) (q_do _ (fun w => run_fa (show fOff Tryz.prog 93 1 = some 1 by kernel_rfl)) (q_at v hload (q_do _ hq (q_do _ (fun w => run_nil) (q_do _ (fun w => run_fa (show fOff Tryz.prog 93 1 = some 1 by kernel_rfl)) (q_at v hload (q_at _ hlen ?_))))))))
  intro w2 hb2
  have h2 := ho.grow hb2
  rcases Nat.eq_zero_or_pos l.length with h0 | h0
  · have hl : l = [] := List.eq_nil_of_length_eq_zero h0
    subst hl
    refine do_ok (show (mB .unsafeString #[162, 3] 9 #[false, false] #[.pointer q, .int .i64 0]).run Tryz.prog w2 = .ok (.value (.string ⟨([] : List UInt8).toArray⟩)) w2 by
      simp [mB, builtin, Lib.run_unsafeString_none]; rfl) ?_
    exact hK _ _ ⟨_, ⟨rfl, rfl⟩, (OwnS.closeB hp hcap h2).back⟩
  · obtain ⟨g, cap, rfl, rfl⟩ := hq2 h0
    have hr2 : w2.ownsRowF 0 5 1 (.slice (some ⟨g, 0, none⟩) l.length cap) l.length (bytesV l) := h2.at_ 1 rfl
    have hne : l ≠ [] := List.length_pos_iff.1 h0
    have hsh : ∃ cells, w2.shape? g = some (5, cells) ∧ l.length ≤ cells ∧ l.length ≤ 9223372036854775807 := by
      rcases hr2.2 with ⟨hv, _⟩ | ⟨g', cap', cur, fz, hv, hbg, hg, hfz, hnc, hcm, hcs, _⟩
      · cases hv
      · injection hv with ha _ hcap
        injection ha with ha
        injection ha with hgg _ _
        subst hgg
        refine ⟨cur.size, by simp [World.shape?, hg], by omega, ?_⟩
        simp only [maxLen] at hcm; omega
    obtain ⟨cells, hsh, hle, h63⟩ := hsh
    have hr := Lib.run_unsafeString_row (P := Tryz.prog) w2 162 3 9 5 Tryz.underlying162 (by kernel_rfl) g cells hsh l hne hle h63 (fun j x hj => by
      have := World.ownsRowF.cells hr2 (g := g) rfl j (.int .u8 x.toNat) (bytesV_get hj)
      exact this)
    refine do_ok (show (mB .unsafeString #[162, 3] 9 #[false, false] #[.pointer (some ⟨g, 0, none⟩), .int .i64 l.length]).run Tryz.prog w2 = .ok (.value (.string ⟨l.toArray⟩)) (w2.freeze ⟨g, 0, none⟩ l.length) by
      simp [mB, builtin, hr]) ?_
    have h3 := h2.turn 1 rfl (row_froze hr2 (by omega))
    exact hK _ _ ⟨_, ⟨rfl, rfl⟩, (OwnS.closeB hp hcap h3).back⟩
theorem grow_ret {b n : Nat} {w0 w1 : World} (ho : Own w0 w1 [.cells b [.pointer none, .slice none 0 0] 93]) (h0 : 0 < n) (hn : n ≤ 281474976710656) : Ret Tryz.prog 196 #[.pointer (some ⟨b, 0, none⟩), .int .i64 n] w1
    (fun r w2 => r = .tuple #[] ∧ ∃ v, Own w0 w2 [Bld b v []]) := by
  have hbk : w1.heap[b]? = some (.cells #[.pointer none, .slice none 0 0] 93 (0, 0)) := ho.at_ 0 rfl
  have hB : w0.heap.size ≤ b := ((ho.all (.cells b [.pointer none, .slice none 0 0] 93) (by simp)).2 b rfl).elim (fun x => x.elim) id
  refine Calls.mono (Tryz.Builder_Grow_fresh_cap w0.heap.size b n w1 hB hbk ho.size hn) ?_
  rintro e w2 ⟨rfl, ⟨⟨_, v, hb, hrow, hne⟩, hbl⟩, p, cap, hcell, hcap⟩
  refine retK ⟨rfl, v, ?_⟩
  have hv : v = .slice p 0 cap := by
    rw [Lib.cell_of_heap hb] at hcell
    simpa using hcell
  refine ⟨⟨hbl.os.trans ho.grew.os, hbl.tape.trans ho.grew.tape, hbl.output.trans ho.grew.output, Nat.le_trans ho.size hbl.size, fun k hk hk2 => (hbl.block k hk).trans (ho.grew.block k hk hk2)⟩, fun e he => ?_, List.pairwise_singleton _ _⟩
  rw [List.mem_singleton] at he
  subst he
  refine ⟨⟨⟨_, .inr rfl, hb⟩, ⟨hrow.1, ?_⟩, hne, fun a k hc => ?_⟩, fun k hk => .inr ?_⟩
  · rcases hrow.2 with h | ⟨g, cp, cur, h1, h2, h3, h4⟩
    · exact .inl h
    · exact .inr ⟨g, cp, cur, (0, 0), h1, Nat.zero_le _, h3, Nat.zero_le _, h4⟩
  · rw [hv] at hc
    injection hc with c1 c2 c3
    omega
  · rcases hk with hk | hk
    · rw [hk]; exact hB
    · rcases hrow.2 with ⟨h, _⟩ | ⟨g, cp, cur, h1, h2, h3, h4⟩
      · rw [h] at hk; cases hk
      · rw [h1] at hk; cases hk; exact h2
end Go.Proofs.YtjajlcacbbnodaaGreatDoor
/- Code in continuation form, by program (gen.py): 14 functions. -/
namespace Go.Proofs.YtjajlcacbbnodaaGreatDoor
set_option linter.unusedVariables false
set_option linter.unusedSimpArgs false
set_option linter.defProp false
set_option linter.unusedVariables false
set_option maxRecDepth 20000
open Eng

/- plain.Int -/
/- plain.Real -/
/- plain.String -/
def S_plain_String (t0 : Value) (w : World) (K : Ending → World → Prop) : Prop :=
 DoX Tryz.prog (mB .len #[9] 3 #[false] #[t0]) w (pk K) fun t5 w =>
 DoX Tryz.prog (mBin .gtr 3 t5 (.int .i64 32767)) w (pk K) fun t6 w =>
 IfX t6 (K (.returned (.tuple #[(.string ⟨#[]⟩), (.int .i64 5)])) w) (CallX Tryz.prog 153 #[(.string ⟨#[40]⟩), t0, (.string ⟨#[41]⟩), (.func (.func 154) #[] #[])] w (pk K) fun t8 w =>
 K (.returned (.tuple #[t8, (.int .i64 0)])) w)
theorem S_plain_String_eq (t0 : Value) (w : World) (K : Ending → World → Prop) : wpX Tryz.prog 9 [] [] none (bodyOf Tryz.f80) (topQ Tryz.prog [.tmp 2, .tmp 3] K) (startX [t0]) [] w = S_plain_String t0 w K := by kernel_rfl
theorem S_plain_String_ok {t0 : Value} {w : World} {K : Ending → World → Prop} (h : S_plain_String t0 w K) : Calls Tryz.prog 80 #[t0] w K :=
  calls_of_wpX Tryz.func80 rfl rfl rfl rfl (Eq.mpr (S_plain_String_eq t0 w K) h)

/- plain.Hex -/
/- plain.Name -/
/- plain.Join -/
/- plain.Pad -/
/- plain.write -/
def S_plain_write_0 (t1 t2 t3 t9 t23 t24 : Value) (w : World) (N1 : List Value → World → Prop) (K : Ending → World → Prop) : Prop :=
 DoX Tryz.prog (mBin .lss 3 t24 t23) w (pk K) fun t25 w =>
 IfX t25 (DoX Tryz.prog (mIx 9 t1 t24) w (pk K) fun t30 w =>
 DoX Tryz.prog (mCallV t3 #[t9, t30]) w (pk K) fun t31 w =>
 DoX Tryz.prog (mBin .add 3 t24 (.int .i64 1)) w (pk K) fun t32 w =>
 N1 [t32] w) (CallX Tryz.prog 70 #[t9, t2] w (pk K) fun t34 w =>
 CallX Tryz.prog 72 #[t9] w (pk K) fun t35 w =>
 K (.returned t35) w)
def S_plain_write (t0 t1 t2 t3 : Value) (w : World) (K : Ending → World → Prop) : Prop :=
 DoX Tryz.prog (mAlloc 93) w (pk K) fun t9 w =>
 DoX Tryz.prog (mB .len #[9] 3 #[false] #[t0]) w (pk K) fun t12 w =>
 DoX Tryz.prog (mB .len #[9] 3 #[false] #[t1]) w (pk K) fun t14 w =>
 DoX Tryz.prog (mBin .add 3 t12 t14) w (pk K) fun t15 w =>
 DoX Tryz.prog (mB .len #[9] 3 #[false] #[t2]) w (pk K) fun t17 w =>
 DoX Tryz.prog (mBin .add 3 t15 t17) w (pk K) fun t18 w =>
 CallX Tryz.prog 196 #[t9, t18] w (pk K) fun t19 w =>
 CallX Tryz.prog 70 #[t9, t0] w (pk K) fun t21 w =>
 DoX Tryz.prog (mB .len #[9] 3 #[false] #[t1]) w (pk K) fun t23 w =>
 LoopX [(.int .i64 0)] w (fun vs1 w N1 => ∀ _ : Sg, S_plain_write_0 t1 t2 t3 t9 t23 (vs1.getD 0 undef) w N1 K)
theorem S_plain_write_eq (t0 t1 t2 t3 : Value) (w : World) (K : Ending → World → Prop) : wpX Tryz.prog 36 [] [(5, [24])] none (bodyOf Tryz.f153) (topQ Tryz.prog [.tmp 8] K) (startX [t0, t1, t2, t3]) [] w = S_plain_write t0 t1 t2 t3 w K := by kernel_rfl
theorem S_plain_write_ok {t0 t1 t2 t3 : Value} {w : World} {K : Ending → World → Prop} (h : S_plain_write t0 t1 t2 t3 w K) : Calls Tryz.prog 153 #[t0, t1, t2, t3] w K :=
  calls_of_wpX Tryz.func153 rfl rfl rfl rfl (Eq.mpr (S_plain_write_eq t0 t1 t2 t3 w K) h)

/- plain.String$1 -/
def S_plain_String_1_0 (t0 t1 t34 t35 : Value) (w : World) (N1 : List Value → World → Prop) (K : Ending → World → Prop) : Prop :=
 DoX Tryz.prog (mBin .lss 3 t35 (.int .i64 3)) w (pk K) fun t36 w =>
 IfX t36 (DoX Tryz.prog (mIx 166 t34 t35) w (pk K) fun t37 w =>
 DoX Tryz.prog (mBin .quo 5 t1 t37) w (pk K) fun t41 w =>
 DoX Tryz.prog (mBin .rem 5 t41 (.int .u8 8)) w (pk K) fun t42 w =>
 DoX Tryz.prog (mBin .add 5 (.int .u8 48) t42) w (pk K) fun t43 w =>
 CallX Tryz.prog 71 #[t0, t43] w (pk K) fun t44 w =>
 DoX Tryz.prog (mBin .add 3 t35 (.int .i64 1)) w (pk K) fun t45 w =>
 N1 [t45] w) (K (.returned (.tuple #[])) w)
def S_plain_String_1 (t0 t1 : Value) (w : World) (K : Ending → World → Prop) : Prop :=
 DoX Tryz.prog (mEq .eql 5 (.tmp 10) (.const (.int .u8 40)) t1 (.int .u8 40)) w (pk K) fun t11 w =>
 GDo t11 false (fun E => E t1 w) w fun t13 w =>
 GDo t11 false (fun E => DoX Tryz.prog (mEq .eql 5 (.tmp 13) (.const (.int .u8 41)) t13 (.int .u8 41)) w (pk K) E) w fun t14 w =>
 DoX Tryz.prog (mPick t11 (.bool true) t14) w (pk K) fun t15 w =>
 GDo t15 false (fun E => E t1 w) w fun t17 w =>
 GDo t15 false (fun E => DoX Tryz.prog (mEq .eql 5 (.tmp 17) (.const (.int .u8 92)) t17 (.int .u8 92)) w (pk K) E) w fun t18 w =>
 DoX Tryz.prog (mPick t15 (.bool true) t18) w (pk K) fun t19 w =>
 IfX t19 (CallX Tryz.prog 71 #[t0, (.int .u8 92)] w (pk K) fun t21 w =>
 CallX Tryz.prog 71 #[t0, t1] w (pk K) fun t24 w =>
 K (.returned (.tuple #[])) w) (DoX Tryz.prog (mBin .lss 5 t1 (.int .u8 32)) w (pk K) fun t27 w =>
 GDo t27 false (fun E => E t1 w) w fun t29 w =>
 GDo t27 false (fun E => DoX Tryz.prog (mBin .gtr 5 t29 (.int .u8 126)) w (pk K) E) w fun t30 w =>
 DoX Tryz.prog (mPick t27 (.bool true) t30) w (pk K) fun t31 w =>
 IfX t31 (CallX Tryz.prog 71 #[t0, (.int .u8 92)] w (pk K) fun t33 w =>
 DoX Tryz.prog (mBuild 166 #[(0, (.int .u8 64)), (1, (.int .u8 8)), (2, (.int .u8 1))]) w (pk K) fun t34 w =>
 LoopX [(.int .i64 0)] w (fun vs1 w N1 => ∀ _ : Sg, S_plain_String_1_0 t0 t1 t34 (vs1.getD 0 undef) w N1 K)) (CallX Tryz.prog 71 #[t0, t1] w (pk K) fun t8 w =>
 K (.returned (.tuple #[])) w))
theorem S_plain_String_1_eq (t0 t1 : Value) (w : World) (K : Ending → World → Prop) : wpX Tryz.prog 46 [] [(7, [35])] none (bodyOf Tryz.f154) (topQ Tryz.prog [] K) (startX [t0, t1]) [] w = S_plain_String_1 t0 t1 w K := by kernel_rfl
theorem S_plain_String_1_ok {t0 t1 : Value} {w : World} {K : Ending → World → Prop} (h : S_plain_String_1 t0 t1 w K) : Calls Tryz.prog 154 #[t0, t1] w K :=
  calls_of_wpX Tryz.func154 rfl rfl rfl rfl (Eq.mpr (S_plain_String_1_eq t0 t1 w K) h)

/- plain.Name$1 -/
/- octet.Hex -/
/- octet.Delim -/
def S_octet_Delim (t0 : Value) (w : World) (K : Ending → World → Prop) : Prop :=
 CallX Tryz.prog 214 #[(.string ⟨#[40, 41, 60, 62, 91, 93, 123, 125, 47, 37]⟩), t0] w (pk K) fun t4 w =>
 DoX Tryz.prog (mBin .geq 3 t4 (.int .i64 0)) w (pk K) fun t5 w =>
 K (.returned t5) w
theorem S_octet_Delim_eq (t0 : Value) (w : World) (K : Ending → World → Prop) : wpX Tryz.prog 6 [] [] none (bodyOf Tryz.f212) (topQ Tryz.prog [.tmp 2] K) (startX [t0]) [] w = S_octet_Delim t0 w K := by kernel_rfl
theorem S_octet_Delim_ok {t0 : Value} {w : World} {K : Ending → World → Prop} (h : S_octet_Delim t0 w K) : Calls Tryz.prog 212 #[t0] w K :=
  calls_of_wpX Tryz.func212 rfl rfl rfl rfl (Eq.mpr (S_octet_Delim_eq t0 w K) h)

/- octet.Regular -/
def S_octet_Regular (t0 : Value) (w : World) (K : Ending → World → Prop) : Prop :=
 CallX Tryz.prog 211 #[t0] w (pk K) fun t4 w =>
 DoX Tryz.prog (mUn .not t4) w (pk K) fun t5 w =>
 GDo t5 true (fun E => E t0 w) w fun t7 w =>
 GDo t5 true (fun E => CallX Tryz.prog 212 #[t7] w (pk K) E) w fun t8 w =>
 GDo t5 true (fun E => DoX Tryz.prog (mUn .not t8) w (pk K) E) w fun t9 w =>
 DoX Tryz.prog (mPick t5 t9 (.bool false)) w (pk K) fun t10 w =>
 K (.returned t10) w
theorem S_octet_Regular_eq (t0 : Value) (w : World) (K : Ending → World → Prop) : wpX Tryz.prog 11 [] [] none (bodyOf Tryz.f135) (topQ Tryz.prog [.tmp 2] K) (startX [t0]) [] w = S_octet_Regular t0 w K := by kernel_rfl
theorem S_octet_Regular_ok {t0 : Value} {w : World} {K : Ending → World → Prop} (h : S_octet_Regular t0 w K) : Calls Tryz.prog 135 #[t0] w K :=
  calls_of_wpX Tryz.func135 rfl rfl rfl rfl (Eq.mpr (S_octet_Regular_eq t0 w K) h)

/- octet.White -/
def S_octet_White (t0 : Value) (w : World) (K : Ending → World → Prop) : Prop :=
 CallX Tryz.prog 214 #[(.string ⟨#[0, 9, 10, 12, 13, 32]⟩), t0] w (pk K) fun t4 w =>
 DoX Tryz.prog (mBin .geq 3 t4 (.int .i64 0)) w (pk K) fun t5 w =>
 K (.returned t5) w
theorem S_octet_White_eq (t0 : Value) (w : World) (K : Ending → World → Prop) : wpX Tryz.prog 6 [] [] none (bodyOf Tryz.f211) (topQ Tryz.prog [.tmp 2] K) (startX [t0]) [] w = S_octet_White t0 w K := by kernel_rfl
theorem S_octet_White_ok {t0 : Value} {w : World} {K : Ending → World → Prop} (h : S_octet_White t0 w K) : Calls Tryz.prog 211 #[t0] w K :=
  calls_of_wpX Tryz.func211 rfl rfl rfl rfl (Eq.mpr (S_octet_White_eq t0 w K) h)

end Go.Proofs.YtjajlcacbbnodaaGreatDoor
/- Code in continuation form, by program (gen.py): 16 functions. -/
namespace Go.Proofs.YtjajlcacbbnodaaGreatDoor
set_option linter.unusedVariables false
set_option linter.unusedSimpArgs false
set_option linter.defProp false
set_option linter.unusedVariables false
set_option maxRecDepth 20000
open Eng

/- fix.face -/
def S_fix_face (t0 t1 r : Value) (w : World) (K : Ending → World → Prop) : Prop :=
 DoX Tryz.prog (mEq .eql 20 (.tmp 7) (.const .nilIface) r .nilIface) w (pk K) fun t9 w =>
 IfX t9 (K (.returned (.tuple #[])) w) (DoX Tryz.prog (mTA r 20 301 true) w (pk K) fun t10 w =>
 DoX Tryz.prog (mExt t10 1) w (pk K) fun t11 w =>
 DoX Tryz.prog (mExt t10 0) w (pk K) fun t12 w =>
 IfX t11 (DoX Tryz.prog (mNil t0) w (pk K) fun t16 w =>
 DoX Tryz.prog (mStore 2 t16 (.int .i64 0)) w (pk K) fun _ w =>
 DoX Tryz.prog (mNil t1) w (pk K) fun t17 w =>
 DoX Tryz.prog (mStore 28 t17 t12) w (pk K) fun _ w =>
 K (.returned (.tuple #[])) w) (DoX Tryz.prog (mPanic r) w (pk K) fun _ w =>
 K (.returned (.tuple #[])) w))
theorem S_fix_face_eq (t0 t1 r : Value) (w : World) (K : Ending → World → Prop) : wpX Tryz.prog 18 [] [] none (sndOf (bodyOf Tryz.f295)) (topD Tryz.prog [] K) (upd (startX [t0, t1]) 7 r) [] w = S_fix_face t0 t1 r w K := by kernel_rfl
theorem S_fix_face_dok {t0 t1 : Value} {u : FrameMode} {w : World} {R : Ending → FrameMode → World → Prop} (h : S_fix_face t0 t1 (recV u) w (fun e w => R e (recM u) w)) : CallsD Tryz.prog 295 #[t0, t1] u w R :=
  callsD_recover Tryz.func295 rfl rfl rfl rfl rfl rfl rfl rfl (Eq.mpr (S_fix_face_eq t0 t1 (recV u) w _) h)

/- fix.within -/
def S_fix_within (t0 : Value) (w : World) (K : Ending → World → Prop) : Prop :=
 DoX Tryz.prog (mBin .geq 2 t0 (.int .i64 (-1073741824))) w (pk K) fun t4 w =>
 GDo t4 true (fun E => E t0 w) w fun t6 w =>
 GDo t4 true (fun E => DoX Tryz.prog (mBin .leq 2 t6 (.int .i64 1073741824)) w (pk K) E) w fun t7 w =>
 DoX Tryz.prog (mPick t4 t7 (.bool false)) w (pk K) fun t8 w =>
 K (.returned t8) w
theorem S_fix_within_eq (t0 : Value) (w : World) (K : Ending → World → Prop) : wpX Tryz.prog 9 [] [] none (bodyOf Tryz.f316) (topQ Tryz.prog [.tmp 2] K) (startX [t0]) [] w = S_fix_within t0 w K := by kernel_rfl
theorem S_fix_within_ok {t0 : Value} {w : World} {K : Ending → World → Prop} (h : S_fix_within t0 w K) : Calls Tryz.prog 316 #[t0] w K :=
  calls_of_wpX Tryz.func316 rfl rfl rfl rfl (Eq.mpr (S_fix_within_eq t0 w K) h)

/- fix.bounded -/
def S_fix_bounded_1 (t6 : Value) (w : World) (N1 : List Value → World → Prop) (K : Ending → World → Prop) : Prop :=
 DoX Tryz.prog (mBin .add 3 t6 (.int .i64 1)) w (pk K) fun t14 w =>
 N1 [t14] w
def S_fix_bounded_0 (t4 t5 t6 : Value) (w : World) (N1 : List Value → World → Prop) (K : Ending → World → Prop) : Prop :=
 DoX Tryz.prog (mBin .lss 3 t6 t5) w (pk K) fun t7 w =>
 IfX t7 (JoinX (fun J2 =>
 DoX Tryz.prog (mIA 302 t4 t6) w (pk K) fun t8 w =>
 DoX Tryz.prog (mLoad 2 t8) w (pk K) fun t9 w =>
 CallX Tryz.prog 316 #[t9] w (pk K) fun t11 w =>
 DoX Tryz.prog (mUn .not t11) w (pk K) fun t12 w =>
 IfX t12 (DoX Tryz.prog (mIface 301 (.int .i64 2)) w (pk K) fun t13 w =>
 DoX Tryz.prog (mPanic t13) w (pk K) fun _ w =>
 J2 [] w) (J2 [] w)) (fun vs2 w => ∀ _ : Sg, S_fix_bounded_1 t6 w N1 K)) (K (.returned (.tuple #[])) w)
def S_fix_bounded (t0 : Value) (w : World) (K : Ending → World → Prop) : Prop :=
 DoX Tryz.prog (mB .len #[302] 3 #[false] #[t0]) w (pk K) fun t5 w =>
 LoopX [(.int .i64 0)] w (fun vs1 w N1 => ∀ _ : Sg, S_fix_bounded_0 t0 t5 (vs1.getD 0 undef) w N1 K)
theorem S_fix_bounded_eq (t0 : Value) (w : World) (K : Ending → World → Prop) : wpX Tryz.prog 15 [(5, [])] [(1, [6])] none (bodyOf Tryz.f298) (topQ Tryz.prog [] K) (startX [t0]) [] w = S_fix_bounded t0 w K := by kernel_rfl
theorem S_fix_bounded_ok {t0 : Value} {w : World} {K : Ending → World → Prop} (h : S_fix_bounded t0 w K) : Calls Tryz.prog 298 #[t0] w K :=
  calls_of_wpX Tryz.func298 rfl rfl rfl rfl (Eq.mpr (S_fix_bounded_eq t0 w K) h)

/- fix.answer -/
/- fix.nearest -/
/- fix.Near -/
/- fix.Whole -/
/- fix.Mul -/
/- fix.Div -/
/- fix.Dot -/
/- fix.Sum -/
/- fix.Root -/
/- fix.row -/
/- fix.Text -/
/- fix.digits -/
def S_fix_digits (t0 : Value) (w : World) (K : Ending → World → Prop) : Prop :=
 CallX Tryz.prog 294 #[t0, (.string ⟨#[48, 49, 50, 51, 52, 53, 54, 55, 56, 57]⟩)] w (pk K) fun t4 w =>
 DoX Tryz.prog (mEq .eql 9 (.tmp 4) (.const (.string ⟨#[]⟩)) t4 (.string ⟨#[]⟩)) w (pk K) fun t5 w =>
 K (.returned t5) w
theorem S_fix_digits_eq (t0 : Value) (w : World) (K : Ending → World → Prop) : wpX Tryz.prog 6 [] [] none (bodyOf Tryz.f296) (topQ Tryz.prog [.tmp 2] K) (startX [t0]) [] w = S_fix_digits t0 w K := by kernel_rfl
theorem S_fix_digits_ok {t0 : Value} {w : World} {K : Ending → World → Prop} (h : S_fix_digits t0 w K) : Calls Tryz.prog 296 #[t0] w K :=
  calls_of_wpX Tryz.func296 rfl rfl rfl rfl (Eq.mpr (S_fix_digits_eq t0 w K) h)

/- fix.Read -/
def S_fix_Read_p0 (x0 : Value) (x1 : Value) (K : Ending → World → Prop) := pd Tryz.prog [.cell x0 2, .cell x1 28] K [{ target := .fn (.func 295) #[], args := #[x0, x1] }]
def S_fix_Read_4 (t2 t3 : Value) (w : World) (K : Ending → World → Prop) : Prop :=
 DoX Tryz.prog (mLoad 2 t2) w (S_fix_Read_p0 t2 t3 K) fun t93 w =>
 DoX Tryz.prog (mBuildS 302 1 #[(0, t93)]) w (S_fix_Read_p0 t2 t3 K) fun t94 w =>
 CallX Tryz.prog 298 #[t94] w (S_fix_Read_p0 t2 t3 K) fun t95 w =>
 DoX Tryz.prog (mLoad 2 t2) w (S_fix_Read_p0 t2 t3 K) fun t96 w =>
 DoX Tryz.prog (mStore 2 t2 t96) w (S_fix_Read_p0 t2 t3 K) fun _ w =>
 DoX Tryz.prog (mStore 28 t3 (.int .i64 0)) w (S_fix_Read_p0 t2 t3 K) fun _ w =>
 Leave Tryz.prog [.cell t2 2, .cell t3 28] K [{ target := .fn (.func 295) #[], args := #[t2, t3] }] .returning w
def S_fix_Read_3 (t2 t3 t4 : Value) (w : World) (K : Ending → World → Prop) : Prop :=
 JoinX (fun J5 =>
 IfX t4 (DoX Tryz.prog (mLoad 2 t2) w (S_fix_Read_p0 t2 t3 K) fun t91 w =>
 DoX Tryz.prog (mUn .neg t91) w (S_fix_Read_p0 t2 t3 K) fun t92 w =>
 DoX Tryz.prog (mStore 2 t2 t92) w (S_fix_Read_p0 t2 t3 K) fun _ w =>
 AtX [{ target := .fn (.func 295) #[], args := #[t2, t3] }] [{ target := .fn (.func 295) #[], args := #[t2, t3] }] (J5 [] w)) (AtX [{ target := .fn (.func 295) #[], args := #[t2, t3] }] [{ target := .fn (.func 295) #[], args := #[t2, t3] }] (J5 [] w))) (fun vs5 w => ∀ _ : Sg, S_fix_Read_4 t2 t3 w K)
def S_fix_Read_2 (t2 t3 t4 t6 t62 : Value) (w : World) (N3 : List Value → World → Prop) (K : Ending → World → Prop) : Prop :=
 DoX Tryz.prog (mNext t62 true 0) w (S_fix_Read_p0 t2 t3 K) fun t63 w =>
 DoX Tryz.prog (mExt t63 0) w (S_fix_Read_p0 t2 t3 K) fun t64 w =>
 IfX t64 (DoX Tryz.prog (mExt t63 2) w (S_fix_Read_p0 t2 t3 K) fun t65 w =>
 DoX Tryz.prog (mLoad 2 t2) w (S_fix_Read_p0 t2 t3 K) fun t66 w =>
 DoX Tryz.prog (mBin .mul 2 (.int .i64 10) t66) w (S_fix_Read_p0 t2 t3 K) fun t67 w =>
 DoX Tryz.prog (mBin .sub 21 t65 (.int .i32 48)) w (S_fix_Read_p0 t2 t3 K) fun t69 w =>
 DoX Tryz.prog (mConv 21 2 t69) w (S_fix_Read_p0 t2 t3 K) fun t70 w =>
 DoX Tryz.prog (mBin .add 2 t67 t70) w (S_fix_Read_p0 t2 t3 K) fun t71 w =>
 DoX Tryz.prog (mStore 2 t2 t71) w (S_fix_Read_p0 t2 t3 K) fun _ w =>
 AtX [{ target := .fn (.func 295) #[], args := #[t2, t3] }] [{ target := .fn (.func 295) #[], args := #[t2, t3] }] (N3 [] w)) (DoX Tryz.prog (mSlice 9 t6 (some (.int .i64 4)) none none) w (S_fix_Read_p0 t2 t3 K) fun t73 w =>
 CallX Tryz.prog 297 #[t73, (.string ⟨#[48]⟩)] w (S_fix_Read_p0 t2 t3 K) fun t74 w =>
 JoinX (fun J4 =>
 GDo t4 true (fun E => E t74 w) w fun t77 w =>
 GDo t4 true (fun E => DoX Tryz.prog (mBin .gtr 9 t77 (.string ⟨#[53]⟩)) w (S_fix_Read_p0 t2 t3 K) E) w fun t78 w =>
 DoX Tryz.prog (mPick t4 t78 (.bool false)) w (S_fix_Read_p0 t2 t3 K) fun t79 w =>
 GDo t79 false (fun E => E t4 w) w fun t81 w =>
 GDo t79 false (fun E => DoX Tryz.prog (mUn .not t81) w (S_fix_Read_p0 t2 t3 K) E) w fun t82 w =>
 GDo t79 false (fun E => E t82 w) w fun t83 w =>
 GDo t83 true (fun E => E t74 w) w fun t84 w =>
 GDo t83 true (fun E => DoX Tryz.prog (mBin .geq 9 t84 (.string ⟨#[53]⟩)) w (S_fix_Read_p0 t2 t3 K) E) w fun t85 w =>
 GDo t79 false (fun E => DoX Tryz.prog (mPick t83 t85 (.bool false)) w (S_fix_Read_p0 t2 t3 K) E) w fun t86 w =>
 DoX Tryz.prog (mPick t79 (.bool true) t86) w (S_fix_Read_p0 t2 t3 K) fun t87 w =>
 IfX t87 (DoX Tryz.prog (mLoad 2 t2) w (S_fix_Read_p0 t2 t3 K) fun t88 w =>
 DoX Tryz.prog (mBin .add 2 t88 (.int .i64 1)) w (S_fix_Read_p0 t2 t3 K) fun t89 w =>
 DoX Tryz.prog (mStore 2 t2 t89) w (S_fix_Read_p0 t2 t3 K) fun _ w =>
 AtX [{ target := .fn (.func 295) #[], args := #[t2, t3] }] [{ target := .fn (.func 295) #[], args := #[t2, t3] }] (J4 [] w)) (AtX [{ target := .fn (.func 295) #[], args := #[t2, t3] }] [{ target := .fn (.func 295) #[], args := #[t2, t3] }] (J4 [] w))) (fun vs4 w => ∀ _ : Sg, S_fix_Read_3 t2 t3 t4 w K))
def S_fix_Read_1 (t2 t3 t4 t6 t46 : Value) (w : World) (N2 : List Value → World → Prop) (K : Ending → World → Prop) : Prop :=
 DoX Tryz.prog (mNext t46 true 0) w (S_fix_Read_p0 t2 t3 K) fun t47 w =>
 DoX Tryz.prog (mExt t47 0) w (S_fix_Read_p0 t2 t3 K) fun t48 w =>
 IfX t48 (DoX Tryz.prog (mExt t47 2) w (S_fix_Read_p0 t2 t3 K) fun t49 w =>
 DoX Tryz.prog (mLoad 2 t2) w (S_fix_Read_p0 t2 t3 K) fun t50 w =>
 DoX Tryz.prog (mBin .mul 2 (.int .i64 10) t50) w (S_fix_Read_p0 t2 t3 K) fun t51 w =>
 DoX Tryz.prog (mBin .sub 21 t49 (.int .i32 48)) w (S_fix_Read_p0 t2 t3 K) fun t53 w =>
 DoX Tryz.prog (mConv 21 2 t53) w (S_fix_Read_p0 t2 t3 K) fun t54 w =>
 DoX Tryz.prog (mBin .add 2 t51 t54) w (S_fix_Read_p0 t2 t3 K) fun t55 w =>
 DoX Tryz.prog (mStore 2 t2 t55) w (S_fix_Read_p0 t2 t3 K) fun _ w =>
 DoX Tryz.prog (mLoad 2 t2) w (S_fix_Read_p0 t2 t3 K) fun t56 w =>
 DoX Tryz.prog (mBin .gtr 2 t56 (.int .i64 1073741824)) w (S_fix_Read_p0 t2 t3 K) fun t57 w =>
 IfX t57 (DoX Tryz.prog (mStore 2 t2 (.int .i64 0)) w (S_fix_Read_p0 t2 t3 K) fun _ w =>
 DoX Tryz.prog (mStore 28 t3 (.int .i64 2)) w (S_fix_Read_p0 t2 t3 K) fun _ w =>
 Leave Tryz.prog [.cell t2 2, .cell t3 28] K [{ target := .fn (.func 295) #[], args := #[t2, t3] }] .returning w) (AtX [{ target := .fn (.func 295) #[], args := #[t2, t3] }] [{ target := .fn (.func 295) #[], args := #[t2, t3] }] (N2 [] w))) (DoX Tryz.prog (mBin .add 9 t6 (.string ⟨#[48, 48, 48, 48, 48]⟩)) w (S_fix_Read_p0 t2 t3 K) fun t59 w =>
 DoX Tryz.prog (mSlice 9 t59 none (some (.int .i64 4)) none) w (S_fix_Read_p0 t2 t3 K) fun t61 w =>
 DoX Tryz.prog (mRange 9 t61) w (S_fix_Read_p0 t2 t3 K) fun t62 w =>
 LoopX [] w (fun vs3 w N3 => ∀ _ : Sg, S_fix_Read_2 t2 t3 t4 t59 t62 w N3 K))
def S_fix_Read_0 (t0 t2 t3 t4 : Value) (w : World) (K : Ending → World → Prop) : Prop :=
 CallX Tryz.prog 82 #[t0, (.string ⟨#[46]⟩)] w (S_fix_Read_p0 t2 t3 K) fun t27 w =>
 DoX Tryz.prog (mExt t27 0) w (S_fix_Read_p0 t2 t3 K) fun t28 w =>
 DoX Tryz.prog (mExt t27 1) w (S_fix_Read_p0 t2 t3 K) fun t29 w =>
 DoX Tryz.prog (mExt t27 2) w (S_fix_Read_p0 t2 t3 K) fun t30 w =>
 DoX Tryz.prog (mBin .add 9 t28 t29) w (S_fix_Read_p0 t2 t3 K) fun t33 w =>
 DoX Tryz.prog (mEq .eql 9 (.tmp 33) (.const (.string ⟨#[]⟩)) t33 (.string ⟨#[]⟩)) w (S_fix_Read_p0 t2 t3 K) fun t34 w =>
 GDo t34 false (fun E => E t28 w) w fun t36 w =>
 GDo t34 false (fun E => CallX Tryz.prog 296 #[t36] w (S_fix_Read_p0 t2 t3 K) E) w fun t37 w =>
 GDo t34 false (fun E => DoX Tryz.prog (mUn .not t37) w (S_fix_Read_p0 t2 t3 K) E) w fun t38 w =>
 DoX Tryz.prog (mPick t34 (.bool true) t38) w (S_fix_Read_p0 t2 t3 K) fun t39 w =>
 GDo t39 false (fun E => E t29 w) w fun t41 w =>
 GDo t39 false (fun E => CallX Tryz.prog 296 #[t41] w (S_fix_Read_p0 t2 t3 K) E) w fun t42 w =>
 GDo t39 false (fun E => DoX Tryz.prog (mUn .not t42) w (S_fix_Read_p0 t2 t3 K) E) w fun t43 w =>
 DoX Tryz.prog (mPick t39 (.bool true) t43) w (S_fix_Read_p0 t2 t3 K) fun t44 w =>
 IfX t44 (DoX Tryz.prog (mStore 2 t2 (.int .i64 0)) w (S_fix_Read_p0 t2 t3 K) fun _ w =>
 DoX Tryz.prog (mStore 28 t3 (.int .i64 3)) w (S_fix_Read_p0 t2 t3 K) fun _ w =>
 Leave Tryz.prog [.cell t2 2, .cell t3 28] K [{ target := .fn (.func 295) #[], args := #[t2, t3] }] .returning w) (DoX Tryz.prog (mRange 9 t28) w (S_fix_Read_p0 t2 t3 K) fun t46 w =>
 LoopX [] w (fun vs2 w N2 => ∀ _ : Sg, S_fix_Read_1 t2 t3 t4 t29 t46 w N2 K))
def S_fix_Read (t0 : Value) (w : World) (K : Ending → World → Prop) : Prop :=
 DoX Tryz.prog (mAlloc 2) w (pk K) fun t2 w =>
 DoX Tryz.prog (mAlloc 28) w (pk K) fun t3 w =>
 DoX Tryz.prog (mB .len #[9] 3 #[false] #[t0]) w (S_fix_Read_p0 t2 t3 K) fun t14 w =>
 DoX Tryz.prog (mBin .gtr 3 t14 (.int .i64 40)) w (S_fix_Read_p0 t2 t3 K) fun t15 w =>
 IfX t15 (DoX Tryz.prog (mStore 2 t2 (.int .i64 0)) w (S_fix_Read_p0 t2 t3 K) fun _ w =>
 DoX Tryz.prog (mStore 28 t3 (.int .i64 3)) w (S_fix_Read_p0 t2 t3 K) fun _ w =>
 Leave Tryz.prog [.cell t2 2, .cell t3 28] K [{ target := .fn (.func 295) #[], args := #[t2, t3] }] .returning w) (CallX Tryz.prog 202 #[t0, (.string ⟨#[45]⟩)] w (S_fix_Read_p0 t2 t3 K) fun t17 w =>
 JoinX (fun J1 =>
 GDo t17 false (fun E => E t0 w) w fun t20 w =>
 GDo t17 false (fun E => CallX Tryz.prog 202 #[t20, (.string ⟨#[43]⟩)] w (S_fix_Read_p0 t2 t3 K) E) w fun t21 w =>
 DoX Tryz.prog (mPick t17 (.bool true) t21) w (S_fix_Read_p0 t2 t3 K) fun t22 w =>
 IfX t22 (DoX Tryz.prog (mSlice 9 t0 (some (.int .i64 1)) none none) w (S_fix_Read_p0 t2 t3 K) fun t24 w =>
 AtX [{ target := .fn (.func 295) #[], args := #[t2, t3] }] [{ target := .fn (.func 295) #[], args := #[t2, t3] }] (J1 [t24] w)) (AtX [{ target := .fn (.func 295) #[], args := #[t2, t3] }] [{ target := .fn (.func 295) #[], args := #[t2, t3] }] (J1 [t0] w))) (fun vs1 w => ∀ _ : Sg, S_fix_Read_0 (vs1.getD 0 undef) t2 t3 t17 w K))
theorem S_fix_Read_eq (t0 : Value) (w : World) (K : Ending → World → Prop) : wpX Tryz.prog 97 [(7, [0]), (24, []), (26, [])] [(11, []), (18, [])] none (bodyOf Tryz.f240) (topQ Tryz.prog [.cell 2 2, .cell 3 28] K) (startX [t0]) [] w = S_fix_Read t0 w K := by kernel_rfl
theorem S_fix_Read_ok {t0 : Value} {w : World} {K : Ending → World → Prop} (h : S_fix_Read t0 w K) : Calls Tryz.prog 240 #[t0] w K :=
  calls_of_wpX Tryz.func240 rfl rfl rfl rfl (Eq.mpr (S_fix_Read_eq t0 w K) h)

end Go.Proofs.YtjajlcacbbnodaaGreatDoor
/- Code in continuation form, by program (gen.py): 14 functions. -/
namespace Go.Proofs.YtjajlcacbbnodaaGreatDoor
set_option linter.unusedVariables false
set_option linter.unusedSimpArgs false
set_option linter.defProp false
set_option linter.unusedVariables false
set_option maxRecDepth 20000
open Eng

/- foliantref02.Within -/
/- foliantref02.told -/
/- foliantref02.nearest -/
/- foliantref02.Near -/
/- foliantref02.Whole -/
/- foliantref02.Mul -/
/- foliantref02.Div -/
/- foliantref02.Dot -/
/- foliantref02.Sum -/
/- foliantref02.Root -/
/- foliantref02.digits -/
/- foliantref02.Text -/
/- foliantref02.form -/
/- foliantref02.Read -/
end Go.Proofs.YtjajlcacbbnodaaGreatDoor
/- Contracts of the program's package fix. -/
namespace Go.Proofs.YtjajlcacbbnodaaGreatDoor
set_option linter.unusedVariables false
set_option linter.unusedSimpArgs false
set_option linter.defProp false
open Eng Go.RowKit
set_option linter.unusedVariables false
set_option linter.unusedSimpArgs false

theorem within_ret (n : Int) (w : World) : Ret Tryz.prog 316 #[.int .i64 n] w (fun v w' => v = .bool (Fx.okB n) ∧ w = w') := by
  refine ret_of fun K hK => S_fix_within_ok ?_
  unfold S_fix_within
  by_cases h : -1073741824 ≤ n <;> simp only [rs, h, decide_true, decide_false] <;> exact hK _ _ ⟨by simp [Fx.okB, h], rfl⟩
def ints (zs : List Int) : List Value := zs.map (Value.int .i64)
theorem ints_get {zs : List Int} {k : Nat} (h : k < zs.length) : (ints zs)[k]? = some (.int .i64 zs[k]) := by simp [ints, h]
theorem take_all (zs : List Int) (k : Nat) (h : k < zs.length) : (zs.take (k + 1)).all Fx.okB = ((zs.take k).all Fx.okB && Fx.okB zs[k]) := by
  rw [List.take_succ_eq_append_getElem h, List.all_append]; simp

theorem bounded_any (v : Value) (zs : List Int) (w : World) (hs : Sl w v 1 zs.length (ints zs)) (hn : zs.length ≤ 9223372036854775806) (K : Ending → World → Prop)
    (hk : zs.all Fx.okB = true → K (.returned (.tuple #[])) w) (hp : zs.all Fx.okB = false → K (.panicked [{ v := .iface 301 (.int .i64 2), recovered := false }]) w) :
    Calls Tryz.prog 298 #[v] w K := by
  refine S_fix_bounded_ok ?_
  unfold S_fix_bounded
  simp only [sl_len Tryz.underlying302 hs]
  refine loop (fun vs w' => w' = w ∧ ∃ k : Nat, k ≤ zs.length ∧ vs = [.int .i64 k] ∧ (zs.take k).all Fx.okB = true) (fun vs _ => zs.length - n0 vs) ⟨rfl, 0, by omega, rfl, by simp⟩ ?_
  rintro vs w' ⟨rfl, k, hkl, rfl, hall⟩ _
  simp only [S_fix_bounded_0, gd, rs]
  by_cases hlt : k < zs.length
  · have hlt' : (k : Int) < (zs.length : Int) := by omega
    simp only [rs, hlt', decide_true]
    refine join fun J hJ => ?_
    refine sl_ia1 (.int .i64 zs[k]) Tryz.underlying302 (by kernel_rfl) hs (by omega) (by rw [Int.toNat_natCast]; exact ints_get hlt) fun p hpc => ?_
    simp only [l_cell (show notAgg Tryz.prog 2 = true by kernel_rfl) hpc]
    refine c_eq (within_ret _ _) ?_
    have ht := take_all zs k hlt
    cases hb : Fx.okB zs[k] with
    | true =>
      simp only [rs]
      refine hJ _ _ fun _ => ?_
      simp only [S_fix_bounded_1, rs]
      rw [wrap64_id (by omega) (by omega)]
      exact nextX ⟨rfl, k + 1, hlt, by simp, by rw [ht, hall, hb]; rfl⟩ (by simp [n0, intOf]; omega)
    | false =>
      simp only [rs, m_iface (show notIface Tryz.prog 301 = true by kernel_rfl)]
      refine hp ?_
      have : (zs.take (k + 1)).all Fx.okB = false := by rw [ht, hb]; simp
      rw [← List.take_append_drop (k + 1) zs, List.all_append, this]; rfl
  · have hlt' : ¬ (k : Int) < (zs.length : Int) := by omega
    simp only [rs, hlt', decide_false]
    exact hk (by rw [List.take_of_length_le (by omega)] at hall; exact hall)

end Go.Proofs.YtjajlcacbbnodaaGreatDoor
/- Contracts: numbers as text. -/
namespace Go.Proofs.YtjajlcacbbnodaaGreatDoor
set_option linter.unusedVariables false
set_option linter.unusedSimpArgs false
set_option linter.defProp false
open Eng Go.RowKit
set_option linter.unusedVariables false
set_option linter.unusedSimpArgs false

end Go.Proofs.YtjajlcacbbnodaaGreatDoor
/- Contracts of the program's package fix: the functions that recover. -/
namespace Go.Proofs.YtjajlcacbbnodaaGreatDoor
set_option linter.unusedVariables false
set_option linter.unusedSimpArgs false
set_option linter.defProp false
open Eng Go.RowKit
set_option linter.unusedVariables false
set_option linter.unusedSimpArgs false

abbrev faceD (t4 t5 : Value) : Deferred := { target := .fn (.func 295) #[], args := #[t4, t5] }
/-- The panic that the package raises. -/
abbrev refusedE (e : Int) : PanicEntry := { v := .iface 301 (.int .i64 e), recovered := false }
theorem face_plain : plainB Tryz.prog 295 = true := by kernel_rfl
theorem face_idle (p q : Addr) (w : World) : CallsD Tryz.prog 295 #[.pointer (some p), .pointer (some q)] .returning w (fun e u' w' => e = .returned (.tuple #[]) ∧ u' = .returning ∧ w = w') := by
  refine S_fix_face_dok ?_
  simp only [S_fix_face, recV, recM, e_nil Tryz.underlying20, rs]
  simp
/-- No panic: the results are read out of their cells. -/
theorem door_ok {w0 w : World} {L : List Ent} (i j : Nat) {b1 b2 : Nat} {n e : Int} (h : Own w0 w L) (h1 : L[i]? = some (.cells b1 [.int .i64 n] 2)) (h2 : L[j]? = some (.cells b2 [.int .i64 e] 28)) (K : Ending → World → Prop)
    (hk : ∀ w', Below w0.heap.size w0 w' → K (.returned (.tuple #[.int .i64 n, .int .i64 e])) w') :
    Leave Tryz.prog [.cell (.pointer (some ⟨b1, 0, none⟩)) 2, .cell (.pointer (some ⟨b2, 0, none⟩)) 28] K [faceD (.pointer (some ⟨b1, 0, none⟩)) (.pointer (some ⟨b2, 0, none⟩))] .returning w := by
  refine leave_func (by simp) face_plain ((face_idle _ _ w).mono ?_)
  rintro e' u' w' ⟨rfl, rfl, rfl⟩
  exact ret_cell2 (by kernel_rfl) (by kernel_rfl) (h.cell i h1 0 rfl) (h.cell j h2 0 rfl) (hk _ h.done)
/-- A refusal: zero and the error. -/
theorem door_bad {w0 w : World} {b1 b2 : Nat} {n e0 e : Int} (h : Own w0 w [.cells b2 [.int .i64 e0] 28, .cells b1 [.int .i64 n] 2]) (K : Ending → World → Prop)
    (hk : ∀ w', Below w0.heap.size w0 w' → K (.returned (.tuple #[.int .i64 0, .int .i64 e])) w') :
    Leave Tryz.prog [.cell (.pointer (some ⟨b1, 0, none⟩)) 2, .cell (.pointer (some ⟨b2, 0, none⟩)) 28] K [faceD (.pointer (some ⟨b1, 0, none⟩)) (.pointer (some ⟨b2, 0, none⟩))] (.panicking [refusedE e]) w := by
  refine leave_func (by simp) face_plain (S_fix_face_dok ?_)
  simp only [S_fix_face, recV, recM, e_some Tryz.underlying20, rs, t_hit (show notIface Tryz.prog 301 = true by kernel_rfl),
    x_ext (show [Value.int .i64 e, Value.bool true][1]? = some (Value.bool true) from rfl), x_ext (show [Value.int .i64 e, Value.bool true][0]? = some (Value.int .i64 e) from rfl)]
  refine o_store 1 h rfl (by kernel_rfl) rfl (by simp) fun w1 h1 => ?_
  refine o_store 0 h1 rfl (by kernel_rfl) rfl (by simp) fun w2 h2 => ?_
  exact ret_cell2 (by kernel_rfl) (by kernel_rfl) (h2.cell 1 rfl 0 rfl) (h2.cell 0 rfl 0 rfl) (hk _ h2.done)

abbrev pair (x : Int × Int) : Value := .tuple #[.int .i64 x.1, .int .i64 x.2]
end Go.Proofs.YtjajlcacbbnodaaGreatDoor
/- Code in continuation form, by program (gen.py): 13 functions. -/
namespace Go.Proofs.YtjajlcacbbnodaaGreatDoor
set_option linter.unusedVariables false
set_option linter.unusedSimpArgs false
set_option linter.defProp false
set_option linter.unusedVariables false
set_option maxRecDepth 20000
open Eng

/- strings.HasPrefix -/
/- internal/stringslite.HasPrefix -/
/- strings.Cut -/
def S_strings_Cut (t0 t1 : Value) (w : World) (K : Ending → World → Prop) : Prop :=
 CallX Tryz.prog 156 #[t0, t1] w (pk K) fun t9 w =>
 DoX Tryz.prog (mExt t9 0) w (pk K) fun t10 w =>
 DoX Tryz.prog (mExt t9 1) w (pk K) fun t11 w =>
 DoX Tryz.prog (mExt t9 2) w (pk K) fun t12 w =>
 K (.returned (.tuple #[t10, t11, t12])) w
theorem S_strings_Cut_eq (t0 t1 : Value) (w : World) (K : Ending → World → Prop) : wpX Tryz.prog 13 [] [] none (bodyOf Tryz.f82) (topQ Tryz.prog [.tmp 4, .tmp 5, .tmp 6] K) (startX [t0, t1]) [] w = S_strings_Cut t0 t1 w K := by kernel_rfl
theorem S_strings_Cut_ok {t0 t1 : Value} {w : World} {K : Ending → World → Prop} (h : S_strings_Cut t0 t1 w K) : Calls Tryz.prog 82 #[t0, t1] w K :=
  calls_of_wpX Tryz.func82 rfl rfl rfl rfl (Eq.mpr (S_strings_Cut_eq t0 t1 w K) h)

/- internal/stringslite.Cut -/
def S_internal_stringslite_Cut (t0 t1 : Value) (w : World) (K : Ending → World → Prop) : Prop :=
 CallX Tryz.prog 230 #[t0, t1] w (pk K) fun t10 w =>
 DoX Tryz.prog (mBin .geq 3 t10 (.int .i64 0)) w (pk K) fun t12 w =>
 IfX t12 (QuietX w (fun C1 =>
 QDo Tryz.prog C1 (mSlice 9 t0 none (some t10) none) fun t15 =>
 QDo Tryz.prog C1 (mB .len #[9] 3 #[false] #[t1]) fun t19 =>
 QDo Tryz.prog C1 (mBin .add 3 t10 t19) fun t20 =>
 QDo Tryz.prog C1 (mSlice 9 t0 (some t20) none none) fun t21 =>
 ∀ w, C1 w →
 K (.returned (.tuple #[t15, t21, (.bool true)])) w)) (K (.returned (.tuple #[t0, (.string ⟨#[]⟩), (.bool false)])) w)
theorem S_internal_stringslite_Cut_eq (t0 t1 : Value) (w : World) (K : Ending → World → Prop) : wpX Tryz.prog 23 [] [] none (bodyOf Tryz.f156) (topQ Tryz.prog [.tmp 4, .tmp 5, .tmp 6] K) (startX [t0, t1]) [] w = S_internal_stringslite_Cut t0 t1 w K := by kernel_rfl
theorem S_internal_stringslite_Cut_ok {t0 t1 : Value} {w : World} {K : Ending → World → Prop} (h : S_internal_stringslite_Cut t0 t1 w K) : Calls Tryz.prog 156 #[t0, t1] w K :=
  calls_of_wpX Tryz.func156 rfl rfl rfl rfl (Eq.mpr (S_internal_stringslite_Cut_eq t0 t1 w K) h)

/- internal/stringslite.IndexByte -/
/- internal/stringslite.Index -/
/- strings.TrimRight -/
/- strings.trimRightByte -/
/- strings.Trim -/
/- strings.makeASCIISet -/
/- strings.trimRightASCII -/
/- strings.trimLeftASCII -/
/- (*strings.asciiSet).contains -/
end Go.Proofs.YtjajlcacbbnodaaGreatDoor
/- Contracts: strings.Cut at a separator of one byte; strings.HasPrefix, TrimRight, Trim in lists' words. -/
namespace Go.Proofs.YtjajlcacbbnodaaGreatDoor
set_option linter.unusedVariables false
set_option linter.unusedSimpArgs false
set_option linter.defProp false
open Eng Go.RowKit

theorem ix_cases (c : UInt8) : ∀ l : List UInt8, (Lib.indexByte l c = -1 ∧ l.takeWhile (fun x => x != c) = l ∧ l.dropWhile (fun x => x != c) = []) ∨
    ∃ i : Nat, Lib.indexByte l c = i ∧ i < l.length ∧ l.takeWhile (fun x => x != c) = l.take i ∧ l.dropWhile (fun x => x != c) = l.drop i
  | [] => .inl ⟨rfl, rfl, rfl⟩
  | b :: l => by
    by_cases h : b = c
    · subst h
      exact .inr ⟨0, by simp [Lib.indexByte], by simp, by simp, by simp⟩
    · have hb : (b == c) = false := by simpa using h
      have hb2 : (b != c) = true := by simpa using h
      rcases ix_cases c l with ⟨h1, h2, h3⟩ | ⟨i, h1, h2, h3, h4⟩
      · exact .inl ⟨by simp [Lib.indexByte, hb, h1], by simp [hb2, h2], by simp [hb2, h3]⟩
      · refine .inr ⟨i + 1, ?_, by simp; omega, by simp [hb2, h3], by simp [hb2, h4]⟩
        have e : ((i : Int) == -1) = false := by simp
        simp only [Lib.indexByte, hb, h1, e, Bool.false_eq_true, if_false]
        omega

theorem cut_ret (s : List UInt8) (c : UInt8) (w : World) (hs : s.length ≤ 4611686018427387904) : Ret Tryz.prog 82 #[.string ⟨s.toArray⟩, .string ⟨#[c]⟩] w
    (fun v w' => (∃ b, v = .tuple #[.string ⟨(s.takeWhile (fun x => x != c)).toArray⟩, .string ⟨((s.dropWhile (fun x => x != c)).drop 1).toArray⟩, .bool b]) ∧ Below w.heap.size w w') := by
  have inner : Ret Tryz.prog 156 #[.string ⟨s.toArray⟩, .string ⟨#[c]⟩] w
      (fun v w' => (∃ b, v = .tuple #[.string ⟨(s.takeWhile (fun x => x != c)).toArray⟩, .string ⟨((s.dropWhile (fun x => x != c)).drop 1).toArray⟩, .bool b]) ∧ Below w.heap.size w w') := by
    refine ret_of fun K hK => S_internal_stringslite_Cut_ok ?_
    unfold S_internal_stringslite_Cut
    refine c_any (Tryz.stringslite_Index_one ⟨s.toArray⟩ c w) ?_
    rintro e w' ⟨rfl, rfl⟩
    simp only [Cont, rs]
    rcases ix_cases c s with ⟨h1, h2, h3⟩ | ⟨i, h1, h2, h3, h4⟩
    · rw [h1]
      simp only [show ¬ ((0 : Int) ≤ -1) by omega, decide_false, rs]
      exact hK _ _ ⟨⟨false, by rw [h2, h3]; rfl⟩, Below.refl _ _⟩
    · rw [h1]
      have e0 : (0 : Int) ≤ (i : Int) := by omega
      simp only [e0, decide_true, rs]
      refine quiet (q_do (.string ⟨(s.take i).toArray⟩) (fun w => ?_) (q_do (.int .i64 1) (fun w => ?_) (q_do _ (fun w => r_add) (q_do (.string ⟨(s.drop (i + 1)).toArray⟩) (fun w => ?_) ?_))))
      · rw [run_upto Tryz.underlying9 (by omega) (by omega)]; simp
      · exact run_len (l := [c]) Tryz.underlying9
      · rw [wrap64_id (by omega) (by omega), run_from Tryz.underlying9 (by omega) (by omega)]
        rw [show ((i : Int) + 1).toNat = i + 1 by omega]
      · intro wc hw
        exact hK _ _ ⟨⟨true, by rw [h3, h4, List.drop_drop]⟩, hw⟩
  refine ret_of fun K hK => S_strings_Cut_ok ?_
  unfold S_strings_Cut
  refine c_ret inner ?_
  rintro v w' ⟨⟨b, rfl⟩, hb⟩
  simp only [ex]
  exact hK _ _ ⟨⟨b, rfl⟩, hb⟩

theorem trimRight_ret (s : List UInt8) (c : UInt8) (hc : c.toNat < 128) (w : World) (hs : s.length ≤ 9223372036854775807) : Ret Tryz.prog 297 #[.string ⟨s.toArray⟩, .string ⟨#[c]⟩] w
    (fun v w' => v = .string ⟨(Lib.trimRightB s c).toArray⟩ ∧ w = w') :=
  Calls.mono (Tryz.strings_TrimRight_one ⟨s.toArray⟩ c hc w (by rw [str_size]; exact hs)) (by rintro e w' ⟨rfl, rfl⟩; exact retK ⟨rfl, rfl⟩)
theorem hasPrefix_ret (s p : List UInt8) (w : World) : Ret Tryz.prog 202 #[.string ⟨s.toArray⟩, .string ⟨p.toArray⟩] w (fun v w' => v = .bool (p.isPrefixOf s) ∧ w = w') :=
  Calls.mono (Tryz.strings_HasPrefix ⟨s.toArray⟩ ⟨p.toArray⟩ w) (by rintro e w' ⟨rfl, rfl⟩; exact retK ⟨rfl, rfl⟩)
theorem trim_ret (s cs : List UInt8) (w : World) (hs : s.length ≤ 9223372036854775807) (hcs : cs.length < 4294967281) (ha : cs.all (fun c => decide (c.toNat < 128)) = true) : Ret Tryz.prog 294 #[.string ⟨s.toArray⟩, .string ⟨cs.toArray⟩] w
    (fun v w' => v = .string ⟨(Lib.trimS s cs).toArray⟩ ∧ Below w.heap.size w w') :=
  Calls.mono (Any.strings_Trim_laid Tryz.lays160 (by kernel_rfl) ⟨s.toArray⟩ ⟨cs.toArray⟩ w (by rw [str_size]; exact hs) (by rw [str_size]; exact hcs)
    (fun j b hj => by
      have := List.all_eq_true.1 ha b (List.mem_of_getElem? hj)
      simpa using this)) (by rintro e w' ⟨rfl, h⟩; exact retK ⟨rfl, h⟩)
end Go.Proofs.YtjajlcacbbnodaaGreatDoor
/- Contracts: Text (program and reference), digits, the reference's form. -/
namespace Go.Proofs.YtjajlcacbbnodaaGreatDoor
set_option linter.unusedVariables false
set_option linter.unusedSimpArgs false
set_option linter.defProp false
open Eng Go.RowKit
set_option linter.unusedVariables false
set_option linter.unusedSimpArgs false

theorem digs_contains (c : UInt8) : ([48, 49, 50, 51, 52, 53, 54, 55, 56, 57] : List UInt8).contains c = Fx.isDig c := by
  rw [Bool.eq_iff_iff]
  simp [Fx.isDig, ← UInt8.toNat_inj]
  omega
theorem dropWhile_nil {p : UInt8 → Bool} : ∀ l : List UInt8, l.dropWhile p = [] ↔ l.all p = true
  | [] => by simp
  | c :: t => by
    by_cases h : p c = true
    · simp [h, dropWhile_nil t]
    · simp [h]
theorem dropWhile_all {p : UInt8 → Bool} : ∀ l : List UInt8, (l.dropWhile p).all p = l.all p
  | [] => rfl
  | c :: t => by
    by_cases h : p c = true
    · simp [h, dropWhile_all t]
    · simp [h]
theorem trimS_nil (l : List UInt8) : (Lib.trimS l [48, 49, 50, 51, 52, 53, 54, 55, 56, 57] = []) ↔ l.all Fx.isDig = true := by
  have e : (([48, 49, 50, 51, 52, 53, 54, 55, 56, 57] : List UInt8).contains ·) = Fx.isDig := funext digs_contains
  rw [Lib.trimS, Lib.trimLeftS, Lib.trimRightS]
  simp only [e]
  rw [dropWhile_nil, List.all_reverse, dropWhile_all, List.all_reverse]
theorem pdigits_ret (l : List UInt8) (w : World) (hl : l.length ≤ 9223372036854775807) : Ret Tryz.prog 296 #[.string ⟨l.toArray⟩] w (fun v w' => v = .bool (l.all Fx.isDig) ∧ Below w.heap.size w w') := by
  refine ret_of fun K hK => S_fix_digits_ok ?_
  unfold S_fix_digits
  refine c_ret (trim_ret l [48, 49, 50, 51, 52, 53, 54, 55, 56, 57] w hl (by decide) (by decide)) ?_
  rintro v w1 ⟨rfl, b1⟩
  change DoX _ (mEq .eql _ _ _ _ (.string ⟨([] : List UInt8).toArray⟩)) _ _ _
  rw [e_str]
  refine hK _ _ ⟨?_, b1⟩
  have := trimS_nil l
  by_cases h : l.all Fx.isDig = true
  · rw [h, decide_eq_true (this.2 h)]
  · rw [decide_eq_false (fun e => h (this.1 e))]; simpa using h
end Go.Proofs.YtjajlcacbbnodaaGreatDoor
/- Contracts: octet (White, Delim, Regular, Hex) and plain (Int, Real, Hex, Pad) of the program. -/
namespace Go.Proofs.YtjajlcacbbnodaaGreatDoor
set_option linter.unusedVariables false
set_option linter.unusedSimpArgs false
set_option linter.defProp false
open Eng Go.RowKit

/-- strconv's table of powers of ten is as it was laid. -/
abbrev Tb (w : World) : Prop := Lib.TabIs Tryz.prog w "internal/strconv.uint64pow10" .u64 Lib.pow10Tab

theorem indexByte_ret (l : List UInt8) (c : UInt8) (w : World) : Ret Tryz.prog 214 #[.string ⟨l.toArray⟩, .int .u8 c.toNat] w (fun v w' => v = .int .i64 (Lib.indexByte l c) ∧ w = w') := by
  refine Calls.mono (Tryz.strings_IndexByte ⟨l.toArray⟩ c.toNat w) ?_
  rintro e w' ⟨rfl, rfl⟩
  refine retK ⟨?_, rfl⟩
  simp
theorem white_ret (c : UInt8) (w : World) : Ret Tryz.prog 211 #[.int .u8 c.toNat] w (fun v w' => v = .bool (Oc.white c) ∧ w = w') := by
  refine ret_of fun K hK => S_octet_White_ok ?_
  unfold S_octet_White
  refine c_eq (indexByte_ret Oc.whites c w) ?_
  simp only [rs, Oc.indexByte_nonneg]
  exact hK _ _ ⟨rfl, rfl⟩
theorem delim_ret (c : UInt8) (w : World) : Ret Tryz.prog 212 #[.int .u8 c.toNat] w (fun v w' => v = .bool (Oc.delim c) ∧ w = w') := by
  refine ret_of fun K hK => S_octet_Delim_ok ?_
  unfold S_octet_Delim
  refine c_eq (indexByte_ret Oc.delims c w) ?_
  simp only [rs, Oc.indexByte_nonneg]
  exact hK _ _ ⟨rfl, rfl⟩
theorem regular_ret (c : UInt8) (w : World) : Ret Tryz.prog 135 #[.int .u8 c.toNat] w (fun v w' => v = .bool (Oc.regular c) ∧ w = w') := by
  refine ret_of fun K hK => S_octet_Regular_ok ?_
  unfold S_octet_Regular
  refine c_eq (white_ret c w) ?_
  cases hw : Oc.white c with
  | true => simp only [rs]; exact hK _ _ ⟨by simp [Oc.regular, hw], rfl⟩
  | false =>
    simp only [rs]
    refine c_eq (delim_ret c w) ?_
    simp only [rs]
    exact hK _ _ ⟨by simp [Oc.regular, hw], rfl⟩
theorem below_gr (w : World) (k : Nat) (os : Array Obj) : Below w.heap.size w (Go.Sort.grow (w.drewN k) os) :=
  ⟨rfl, rfl, rfl, by simp [Go.Sort.grow], fun i hi => by simp [Go.Sort.grow, Array.getElem?_append, hi]⟩
theorem itoa_len (n : Int) (h0 : -9223372036854775808 ≤ n) (h1 : n ≤ 9223372036854775807) : (Lib.itoa n).length ≤ 21 := Lib.itoa_length_le n h0 h1
end Go.Proofs.YtjajlcacbbnodaaGreatDoor
/- Contracts: plain (write, String, Name, Join, Pad) of the program. -/
namespace Go.Proofs.YtjajlcacbbnodaaGreatDoor
set_option linter.unusedVariables false
set_option linter.unusedSimpArgs false
set_option linter.defProp false
open Eng Go.RowKit

/-- What a function that writes a byte's text into a Builder must do. -/
def Each (F : Nat) (f : UInt8 → List UInt8) : Prop := ∀ (b : Nat) (v : Value) (l : List UInt8) (c : UInt8) (w : World), (Bld b v l).is w → l.length ≤ 1000000 →
  Ret Tryz.prog F #[.pointer (some ⟨b, 0, none⟩), .int .u8 c.toNat] w (fun r w' => ∃ e', (∃ v', e' = Bld b v' (l ++ f c)) ∧ Turn (Bld b v l) e' w w')
theorem write_ret (op s en : List UInt8) (F : Nat) (f : UInt8 → List UInt8) (hF : plainB Tryz.prog F = true) (he : Each F f) (hf : ∀ c, (f c).length ≤ 4) (h1 : op.length = 1) (h2 : en.length ≤ 1) (h3 : s.length ≤ 40000) (w : World) :
    Ret Tryz.prog 153 #[.string ⟨op.toArray⟩, .string ⟨s.toArray⟩, .string ⟨en.toArray⟩, .func (.func F) #[] #[]] w (fun v w' => v = .string ⟨(op ++ s.flatMap f ++ en).toArray⟩ ∧ Below w.heap.size w w') := by
  refine ret_of fun K hK => S_plain_write_ok ?_
  unfold S_plain_write
  refine o_new (fun b => .pointer (some ⟨b, 0, none⟩)) [.pointer none, .slice none 0 0] 93 (fun _ => by kernel_rfl) (Own.start w) fun b w1 ho => ?_
  simp only [s_len Tryz.underlying9, rs]
  rw [wrap64_id (n := (op.length : Int) + s.length) (by omega) (by omega), wrap64_id (by omega) (by omega)]
  rw [show ((op.length : Int) + s.length + en.length) = ((op.length + s.length + en.length : Nat) : Int) by omega]
  refine c_ret (grow_ret ho (by omega) (by omega)) ?_
  rintro _ w2 ⟨rfl, v, ho2⟩
  refine c_turn 0 ho2 rfl (writeString_ret (ho2.at_ 0 rfl) (by simp; omega)) ?_
  rintro _ _ w3 ⟨_, v3, rfl⟩ ho3
  refine loop (fun vs w' => ∃ (i : Nat) (v : Value), vs = [.int .i64 i] ∧ i ≤ s.length ∧ Own w w' [Bld b v (op ++ (s.take i).flatMap f)])
    (fun vs _ => s.length - n0 vs) ⟨0, v3, rfl, by omega, by simpa using ho3⟩ ?_
  rintro vs w4 ⟨i, v4, rfl, hi, ho4⟩ _
  simp only [S_plain_write_0, gd, rs]
  by_cases hlt : (i : Int) < (s.length : Int)
  · have hi2 : i < s.length := by omega
    simp only [hlt, decide_true, rs]
    rw [s_ix (c := s[i]) Tryz.underlying9 (by omega) (by simp [hi2])]
    have hfl := Pl.flat_len f 4 hf (s.take i)
    have htk : (s.take i).length ≤ s.length := by rw [List.length_take]; omega
    refine c_val hF (c_turn 0 ho4 rfl (R := fun _ e' => ∃ v', e' = Bld b v' (op ++ (s.take i).flatMap f ++ f s[i])) (he b v4 _ s[i] w4 (ho4.at_ 0 rfl) (by simp only [List.length_append]; omega)) ?_)
    rintro _ _ w5 ⟨v5, rfl⟩ ho5
    rw [wrap64_id (by omega) (by omega)]
    refine nextX ⟨i + 1, v5, rfl, by omega, ?_⟩ (by simp [n0, intOf]; omega)
    rw [List.take_succ_eq_append_getElem hi2, Pl.flat_snoc, ← List.append_assoc]
    exact ho5
  · have hi2 : i = s.length := by omega
    subst hi2
    simp only [hlt, decide_false, rs]
    rw [List.take_length] at ho4
    have hfl := Pl.flat_len f 4 hf s
    refine c_turn 0 ho4 rfl (writeString_ret (ho4.at_ 0 rfl) (by simp only [List.length_append]; omega)) ?_
    rintro _ _ w5 ⟨_, v5, rfl⟩ ho5
    refine c_turn 0 ho5 rfl (bldString_ret (ho5.at_ 0 rfl)) ?_
    rintro _ _ w6 ⟨rfl, rfl⟩ ho6
    exact hK _ _ ⟨rfl, ho6.done⟩
theorem u8_of (n : Nat) (h : n < 256) : ((UInt8.ofNat n).toNat : Int) = (n : Int) := by rw [UInt8.toNat_ofNat']; omega
/-- WriteByte of a byte that is reckoned. -/
theorem writeByteN_ret {b : Nat} {v : Value} {l : List UInt8} {n : Int} {k : Nat} {w : World} (h : (Bld b v l).is w) (hl : l.length < 140737488355328) (hn : n = k) (hk : k < 256) : Ret Tryz.prog 71 #[.pointer (some ⟨b, 0, none⟩), .int .u8 n] w
    (fun r w' => ∃ e', (r = .nilIface ∧ ∃ v', e' = Bld b v' (l ++ [UInt8.ofNat k])) ∧ Turn (Bld b v l) e' w w') := by
  have := writeByte_ret (c := UInt8.ofNat k) h hl
  rw [u8_of k hk, ← hn] at this
  exact this
theorem u8d (c : UInt8) (k : Int) (x : UInt8) (hx : (x.toNat : Int) = k) : decide ((c.toNat : Int) = k) = decide (c = x) := by
  by_cases h : c = x
  · subst h; rw [decide_eq_true hx, decide_eq_true rfl]
  · rw [decide_eq_false h, decide_eq_false]
    intro h2
    exact h (UInt8.toNat_inj.1 (by omega))
theorem octd_ret {b : Nat} {l : List UInt8} {c : UInt8} {w0 w : World} {v : Value} {S : Nat → Prop} (d : Nat) (i : Nat) (hd : d = 64 ∨ d = 8 ∨ d = 1) (hi : (mIx 166 (.agg #[.int .u8 64, .int .u8 8, .int .u8 1]) (.int .i64 (i : Int))).run Tryz.prog w = .ok (.value (.int .u8 (d : Int))) w)
    {t0 : Value} {K : Value → World → Prop} {PK : List PanicEntry → World → Prop} (ho : OwnS S w0 w [Bld b v l]) (hl : l.length < 140737488355328) (hi3 : i < 3)
    (hk : ∀ v' w', OwnS S w0 w' [Bld b v' (l ++ [UInt8.ofNat (48 + c.toNat / d % 8)])] → K (.int .i64 ((i + 1 : Nat) : Int)) w') :
    DoX Tryz.prog (mIx 166 (.agg #[.int .u8 64, .int .u8 8, .int .u8 1]) (.int .i64 (i : Int))) w PK fun t37 w =>
      DoX Tryz.prog (mBin .quo 5 (.int .u8 c.toNat) t37) w PK fun t41 w =>
      DoX Tryz.prog (mBin .rem 5 t41 (.int .u8 8)) w PK fun t42 w =>
      DoX Tryz.prog (mBin .add 5 (.int .u8 48) t42) w PK fun t43 w =>
      CallX Tryz.prog 71 #[.pointer (some ⟨b, 0, none⟩), t43] w PK fun t44 w =>
      DoX Tryz.prog (mBin .add 3 (.int .i64 (i : Int)) (.int .i64 1)) w PK K := by
  have h256 := c.toNat_lt
  have hq : ((c.toNat : Int).tdiv d) = ((c.toNat / d : Nat) : Int) := by rw [Int.tdiv_eq_ediv_of_nonneg (by omega)]; rcases hd with rfl | rfl | rfl <;> omega
  have hq2 : c.toNat / d < 256 := Nat.lt_of_le_of_lt (Nat.div_le_self _ _) h256
  have hr : (((c.toNat / d : Nat) : Int).tmod 8) = ((c.toNat / d % 8 : Nat) : Int) := by rw [Int.tmod_eq_emod_of_nonneg (by exact Int.natCast_nonneg _)]; omega
  refine do_ok hi ?_
  have hq3 : (0 : Int) ≤ ((c.toNat / d : Nat) : Int) := Int.natCast_nonneg _
  rw [b_quo (by omega), hq, wrap8_id hq3 (by omega), b_rem (by omega), hr, b_add, wrap8_id (by omega) (by omega)]
  refine c_turn 0 ho rfl (writeByteN_ret (k := 48 + c.toNat / d % 8) (ho.at_ 0 rfl) hl (by omega) (by omega)) ?_
  rintro _ _ w5 ⟨rfl, v5, rfl⟩ ho5
  rw [b_add, wrap64_id (by omega) (by omega), show ((i : Int) + 1) = ((i + 1 : Nat) : Int) by omega]
  exact hk _ _ ho5
theorem each_esc : Each 154 Pl.esc := by
  intro b v l c w h hl
  refine ret_of fun K hK => S_plain_String_1_ok ?_
  unfold S_plain_String_1
  have ho := OwnS.lend h
  have done : ∀ {v' : Value} {w' : World} {e' : Ent}, OwnS (Bld b v l).blk w w' [e'] → (∃ v', e' = Bld b v' (l ++ Pl.esc c)) → K (.returned (.tuple #[])) w' := fun hx he => hK _ _ ⟨_, he, hx.back⟩
  have two : (c = 40 ∨ c = 41 ∨ c = 92) → CallX Tryz.prog 71 #[.pointer (some ⟨b, 0, none⟩), (.int .u8 92)] w (pk K) fun t21 w =>
      CallX Tryz.prog 71 #[.pointer (some ⟨b, 0, none⟩), .int .u8 c.toNat] w (pk K) fun t24 w => K (.returned (.tuple #[])) w := by
    intro hc
    refine c_turn 0 ho rfl (writeByteN_ret (k := 92) h (by omega) rfl (by omega)) ?_
    rintro _ _ w1 ⟨rfl, v1, rfl⟩ ho1
    refine c_turn 0 ho1 rfl (writeByte_ret (c := c) (ho1.at_ 0 rfl) (by simp; omega)) ?_
    rintro _ _ w2 ⟨rfl, v2, rfl⟩ ho2
    exact done (v' := v2) ho2 ⟨v2, by rw [Pl.esc, if_pos hc, List.append_assoc]; rfl⟩
  have e1 := u8d c 40 40 rfl
  have e2 := u8d c 41 41 rfl
  have e3 := u8d c 92 92 rfl
  by_cases h1 : c = 40
  · simp only [rs, e1, decide_eq_true h1, g_un]
    exact two (by simp [h1])
  · simp only [rs, e1, decide_eq_false h1, g_un]
    by_cases h2 : c = 41
    · simp only [rs, e2, decide_eq_true h2, g_un]
      exact two (by simp [h2])
    · simp only [rs, e2, decide_eq_false h2, g_un]
      by_cases h3 : c = 92
      · simp only [rs, e3, decide_eq_true h3, g_un]
        exact two (by simp [h3])
      · simp only [rs, e3, decide_eq_false h3, g_un]
        have hn : ¬ (c = 40 ∨ c = 41 ∨ c = 92) := by simp [h1, h2, h3]
        have oct : (c.toNat < 32 ∨ 126 < c.toNat) → CallX Tryz.prog 71 #[.pointer (some ⟨b, 0, none⟩), (.int .u8 92)] w (pk K) fun t33 w =>
            DoX Tryz.prog (mBuild 166 #[(0, (.int .u8 64)), (1, (.int .u8 8)), (2, (.int .u8 1))]) w (pk K) fun t34 w =>
            LoopX [(.int .i64 0)] w (fun vs1 w N1 => ∀ _ : Sg, S_plain_String_1_0 (.pointer (some ⟨b, 0, none⟩)) (.int .u8 c.toNat) t34 (vs1.getD 0 undef) w N1 K) := by
          intro hc
          refine c_turn 0 ho rfl (writeByteN_ret (k := 92) h (by omega) rfl (by omega)) ?_
          rintro _ _ w1 ⟨rfl, v1, rfl⟩ ho1
          refine do_ok (w' := w1) (v := .agg #[.int .u8 64, .int .u8 8, .int .u8 1]) (by kernel_rfl) ?_
          refine loop (fun vs w' => ∃ (i : Nat) (v' : Value), vs = [.int .i64 i] ∧ i ≤ 3 ∧ OwnS (Bld b v l).blk w w' [Bld b v' (l ++ (Pl.oct c).take (i + 1))])
            (fun vs _ => 3 - n0 vs) ⟨0, v1, rfl, by omega, by simpa [Pl.oct] using ho1⟩ ?_
          rintro vs w2 ⟨i, v2, rfl, hi, ho2⟩ _
          simp only [S_plain_String_1_0, gd]
          rw [b_lss]
          by_cases hlt : (i : Int) < 3
          · simp only [hlt, decide_true, i_t]
            have hi3 : i = 0 ∨ i = 1 ∨ i = 2 := by omega
            have h256 := c.toNat_lt
            rcases hi3 with rfl | rfl | rfl
            · refine octd_ret (t0 := undef) 64 0 (.inl rfl) (by kernel_rfl) ho2 (by simp [Pl.oct]; omega) (by omega) fun v' w' h' => ?_
              refine nextX ⟨1, v', rfl, by omega, ?_⟩ (by simp [n0, intOf])
              have e : c.toNat / 64 % 8 = c.toNat / 64 := by omega
              rw [e, List.append_assoc] at h'
              exact h'
            · refine octd_ret (t0 := undef) 8 1 (.inr (.inl rfl)) (by kernel_rfl) ho2 (by simp [Pl.oct]; omega) (by omega) fun v' w' h' => ?_
              refine nextX ⟨2, v', rfl, by omega, ?_⟩ (by simp [n0, intOf])
              rw [List.append_assoc] at h'
              exact h'
            · refine octd_ret (t0 := undef) 1 2 (.inr (.inr rfl)) (by kernel_rfl) ho2 (by simp [Pl.oct]; omega) (by omega) fun v' w' h' => ?_
              refine nextX ⟨3, v', rfl, by omega, ?_⟩ (by simp [n0, intOf])
              rw [Nat.div_one, List.append_assoc] at h'
              exact h'
          · have hi3 : i = 3 := by omega
            subst hi3
            simp only [hlt, decide_false, i_f]
            refine done (v' := v2) ho2 ⟨v2, ?_⟩
            rw [Pl.esc, if_neg hn, if_pos hc]
            rfl
        by_cases h4 : (c.toNat : Int) < 32
        · simp only [rs, h4, decide_true, g_un]
          exact oct (.inl (by omega))
        · simp only [rs, h4, decide_false, g_un]
          by_cases h5 : (126 : Int) < (c.toNat : Int)
          · simp only [rs, h5, decide_true, g_un]
            exact oct (.inr (by omega))
          · simp only [rs, h5, decide_false, g_un]
            refine c_turn 0 ho rfl (writeByte_ret (c := c) h (by omega)) ?_
            rintro _ _ w1 ⟨rfl, v1, rfl⟩ ho1
            exact done (v' := v1) ho1 ⟨v1, by rw [Pl.esc, if_neg hn, if_neg (by omega)]⟩
theorem pstr_ret (l : List UInt8) (w : World) (hl : l.length ≤ 1000000) : Ret Tryz.prog 80 #[.string ⟨l.toArray⟩] w (fun v w' => v = .tuple #[.string ⟨(Pl.pStr l).1.toArray⟩, .int .i64 (Pl.pStr l).2] ∧ Below w.heap.size w w') := by
  refine ret_of fun K hK => S_plain_String_ok ?_
  unfold S_plain_String
  rw [s_len Tryz.underlying9]
  by_cases h1 : (32767 : Int) < l.length
  · simp only [rs, h1, decide_true]
    exact hK _ _ ⟨by rw [Pl.pStr, if_pos (by omega)], Below.refl _ _⟩
  · simp only [rs, h1, decide_false]
    refine c_ret (write_ret [40] l [41] _ Pl.esc (by kernel_rfl) each_esc (fun c => (Pl.esc_len c).2) rfl (by simp) (by omega) w) ?_
    rintro _ w' ⟨rfl, hb⟩
    exact hK _ _ ⟨by rw [Pl.pStr, if_neg (by omega)]; rfl, hb⟩
end Go.Proofs.YtjajlcacbbnodaaGreatDoor
/- Contracts: plain.Join of the program. -/
namespace Go.Proofs.YtjajlcacbbnodaaGreatDoor
set_option linter.unusedVariables false
set_option linter.unusedSimpArgs false
set_option linter.defProp false
open Eng Go.RowKit

def strV (p : List UInt8) : Value := .string ⟨p.toArray⟩
def strsV (ps : List (List UInt8)) : List Value := ps.map strV
theorem strsV_get {ps : List (List UInt8)} {i : Nat} (h : i < ps.length) : (strsV ps)[i]? = some (.string ⟨ps[i].toArray⟩) := by simp [strsV, strV, h]

end Go.Proofs.YtjajlcacbbnodaaGreatDoor
/- What the rows of the laws of layer 4 and later ask besides: laid tables; slices of strings that came in. -/
namespace Go.Proofs.YtjajlcacbbnodaaGreatDoor
set_option linter.unusedVariables false
set_option linter.unusedSimpArgs false
set_option linter.defProp false
open Eng Go.RowKit Go.ChangeShapes Go.WideShapes Go.ChangeAt
theorem laidMet_tail {P : Program} {x : String × DataW Unit} {l : List (String × DataW Unit)} {W : World} (h : laidMet P (x :: l) W) : laidMet P l W := by
  obtain ⟨ps, ⟨g, t, cs, fuel, p, q, _, _, _, _, hr, rfl⟩, hn, hc⟩ := h
  exact ⟨q, hr, (List.nodup_append.1 hn).2.1, fun b off hm => hc b off (by simp [hm])⟩
end Go.Proofs.YtjajlcacbbnodaaGreatDoor
/- Plain mathematics of layers 1 and 3: white space and comments, hexadecimal digits; no program in sight. -/
namespace Go.Proofs.YtjajlcacbbnodaaGreatDoor
set_option linter.unusedVariables false
set_option linter.unusedSimpArgs false
set_option linter.defProp false
open Go
namespace Lx
open Oc
def eol (c : UInt8) : Bool := decide (c = 13) || decide (c = 10)
/-- How many bytes of white space and comments stand ahead (true: within a comment). -/
def skipF : Bool → List UInt8 → Nat
  | _, [] => 0
  | true, c :: t => 1 + skipF (!eol c) t
  | false, c :: t => if c = 37 then 1 + skipF true t else if white c then 1 + skipF false t else 0
def skip (s : List UInt8) (k : Nat) : Nat := k + skipF false (s.drop k)
def skipI (s : List UInt8) (k : Int) : Int := if k < 0 ∨ (s.length : Int) < k then k else ((skip s k.toNat : Nat) : Int)
def lineF : List UInt8 → Nat
  | [] => 0
  | c :: t => if c = 10 then 1 else if c = 13 then (if t.head? = some 10 then 2 else 1) else 1 + lineF t
def line (s : List UInt8) (k : Nat) : Nat := k + lineF (s.drop k)
theorem skipF_le : ∀ (b : Bool) (l : List UInt8), skipF b l ≤ l.length
  | _, [] => by simp [skipF]
  | true, c :: t => by have := skipF_le (!eol c) t; simp only [skipF, List.length_cons]; omega
  | false, c :: t => by
    have h1 := skipF_le true t
    have h2 := skipF_le false t
    simp only [skipF, List.length_cons]
    split
    · omega
    · split <;> omega
theorem lineF_le : ∀ l : List UInt8, lineF l ≤ l.length
  | [] => by simp [lineF]
  | c :: t => by
    have := lineF_le t
    simp only [lineF, List.length_cons]
    split
    · omega
    · split
      · split
        · rename_i h
          cases t with
          | nil => cases h
          | cons d t => simp
        · omega
      · omega
theorem lineF_pos (c : UInt8) (t : List UInt8) : 1 ≤ lineF (c :: t) := by
  simp only [lineF]
  split
  · omega
  · split
    · split <;> omega
    · omega
theorem skip_le (s : List UInt8) {k : Nat} (h : k ≤ s.length) : skip s k ≤ s.length := by
  have := skipF_le false (s.drop k)
  rw [List.length_drop] at this
  unfold skip; omega
theorem drop_cons {s : List UInt8} {i : Nat} (h : i < s.length) : s.drop i = s[i] :: s.drop (i + 1) := List.drop_eq_getElem_cons h
/- HEXADECIMAL DIGITS -/
def digit (c : UInt8) : Int :=
  if 48 ≤ c.toNat ∧ c.toNat ≤ 57 then (c.toNat : Int) - 48
  else if 65 ≤ c.toNat ∧ c.toNat ≤ 70 then (c.toNat : Int) - 65 + 10
  else if 97 ≤ c.toNat ∧ c.toNat ≤ 102 then (c.toNat : Int) - 97 + 10
  else -1
theorem digit_bd (c : UInt8) : -1 ≤ digit c ∧ digit c ≤ 15 := by
  unfold digit
  split
  · omega
  · split
    · omega
    · split <;> omega
def byte (a b : Int) : UInt8 := UInt8.ofNat (16 * a + b).toNat
def unhex : List UInt8 → Option (List UInt8)
  | [] => some []
  | [_] => none
  | a :: b :: t => if digit a < 0 ∨ digit b < 0 then none else (unhex t).map (byte (digit a) (digit b) :: ·)
def unhexE (l : List UInt8) : List UInt8 × Int := match unhex l with | some x => (x, 0) | none => ([], 3)
end Lx
end Go.Proofs.YtjajlcacbbnodaaGreatDoor
/- Plain mathematics of layer 3: tokens; no program in sight. -/
namespace Go.Proofs.YtjajlcacbbnodaaGreatDoor
set_option linter.unusedVariables false
set_option linter.unusedSimpArgs false
set_option linter.defProp false
open Go
namespace Lx
open Oc
structure Tok where
  k : Int
  a : Int
  t : Int
  n : Int
  s : List UInt8
  deriving DecidableEq
def none_ : Tok := ⟨0, 0, 0, 0, []⟩
def refused (e : Int) : Tok × Int := (none_, e)
def told (k a t : Int) (x : List UInt8) (most : Int) : Tok × Int := if most < (x.length : Int) then refused 5 else (⟨k, a, t, 0, x⟩, 0)
def runF : List UInt8 → Nat
  | [] => 0
  | c :: t => if regular c then 1 + runF t else 0
def run (s : List UInt8) (i : Nat) : Nat := i + runF (s.drop i)
theorem runF_le : ∀ l : List UInt8, runF l ≤ l.length
  | [] => by simp [runF]
  | c :: t => by
    have := runF_le t
    simp only [runF, List.length_cons]
    split <;> omega
theorem run_le (s : List UInt8) {k : Nat} (h : k ≤ s.length) : run s k ≤ s.length := by
  have := runF_le (s.drop k)
  rw [List.length_drop] at this
  unfold run; omega
/-- The bytes from i to j. -/
def cut (s : List UInt8) (i j : Nat) : List UInt8 := (s.drop i).take (j - i)
/- NAMES -/
def nameF : List UInt8 → Option (List UInt8)
  | [] => some []
  | c :: t =>
    if c = 35 then match t with
      | a :: b :: t => if digit a < 0 ∨ digit b < 0 ∨ 16 * digit a + digit b = 0 then none else (nameF t).map (byte (digit a) (digit b) :: ·)
      | _ => none
    else (nameF t).map (c :: ·)
theorem nameF_ne {c : UInt8} {t : List UInt8} (h : ¬ c = 35) : nameF (c :: t) = (nameF t).map (c :: ·) := by
  cases t with
  | nil => simp [nameF, h]
  | cons a t => cases t <;> simp [nameF, h]
def name (s : List UInt8) (at_ : Nat) : Tok × Int :=
  match nameF (cut s (at_ + 1) (run s (at_ + 1))) with
  | none => refused 3
  | some x => told 4 at_ (run s (at_ + 1)) x 127
/- LITERAL STRINGS -/
def oct (c : UInt8) : Bool := decide (48 ≤ c.toNat) && decide (c.toNat ≤ 55)
def octF : Nat → Nat → List UInt8 → Nat × Nat
  | 0, n, _ => (n, 0)
  | _ + 1, n, [] => (n, 0)
  | m + 1, n, c :: t => if oct c then ((octF m (8 * n + (c.toNat - 48)) t).1, (octF m (8 * n + (c.toNat - 48)) t).2 + 1) else (n, 0)
def escL (c : UInt8) : Option UInt8 := if c = 110 then some 10 else if c = 114 then some 13 else if c = 116 then some 9 else if c = 98 then some 8 else if c = 102 then some 12 else none
def escF : List UInt8 → List UInt8 × Nat
  | [] => ([], 0)
  | c :: t => match escL c with
    | some b => ([b], 1)
    | none => if eol c then ([], lineF (c :: t)) else if 0 < (octF 3 0 (c :: t)).2 then ([UInt8.ofNat (octF 3 0 (c :: t)).1], (octF 3 0 (c :: t)).2) else ([c], 1)
/-- What a literal string says, and how many bytes it takes (some are to be left out first). -/
def textG : Nat → Nat → List UInt8 → Option (List UInt8 × Nat)
  | _, _, [] => none
  | k + 1, o, _ :: t => (textG k o t).map fun r => (r.1, r.2 + 1)
  | 0, o, c :: t =>
    if eol c then (textG (lineF (c :: t) - 1) o t).map fun r => (10 :: r.1, r.2 + 1)
    else if c = 92 then if t = [] then none else (textG (escF t).2 o t).map fun r => ((escF t).1 ++ r.1, r.2 + 1)
    else if c = 40 then (textG 0 (o + 1) t).map fun r => (c :: r.1, r.2 + 1)
    else if c = 41 then if o ≤ 1 then some ([], 1) else (textG 0 (o - 1) t).map fun r => (c :: r.1, r.2 + 1)
    else (textG 0 o t).map fun r => (c :: r.1, r.2 + 1)
theorem textG_skip : ∀ (k o : Nat) (l : List UInt8), k ≤ l.length → textG k o l = (textG 0 o (l.drop k)).map fun r => (r.1, r.2 + k)
  | 0, o, l, _ => by simp
  | k + 1, o, [], h => by simp at h
  | k + 1, o, c :: t, h => by
    have ih := textG_skip k o t (by simpa using h)
    simp only [textG, ih, List.drop_succ_cons, Option.map_map]
    congr 1
theorem octF_le : ∀ (m n : Nat) (l : List UInt8), (octF m n l).2 ≤ l.length ∧ (octF m n l).2 ≤ m
  | 0, n, l => by simp [octF]
  | m + 1, n, [] => by simp [octF]
  | m + 1, n, c :: t => by
    have := octF_le m (8 * n + (c.toNat - 48)) t
    simp only [octF]
    split <;> simp <;> omega
theorem escF_le (l : List UInt8) : (escF l).2 ≤ l.length := by
  cases l with
  | nil => simp [escF]
  | cons c t =>
    simp only [escF]
    split
    · simp
    · split
      · exact lineF_le _
      · split
        · exact (octF_le _ _ _).1
        · simp
def text (s : List UInt8) (at_ : Nat) : Tok × Int :=
  match textG 0 1 (s.drop (at_ + 1)) with
  | none => refused 4
  | some r => told 3 at_ (at_ + 1 + r.2 : Nat) r.1 32767
/- HEXADECIMAL STRINGS -/
def hexF : Int → List UInt8 → (List UInt8 × Nat) ⊕ Int
  | _, [] => .inr 4
  | h, c :: t =>
    if c = 62 then .inl (if 0 ≤ h then [byte h 0] else [], 1)
    else if white c then match hexF h t with | .inl r => .inl (r.1, r.2 + 1) | .inr e => .inr e
    else if digit c < 0 then .inr 3
    else if h < 0 then match hexF (digit c) t with | .inl r => .inl (r.1, r.2 + 1) | .inr e => .inr e
    else match hexF (-1) t with | .inl r => .inl (byte h (digit c) :: r.1, r.2 + 1) | .inr e => .inr e
def hex (s : List UInt8) (at_ : Nat) : Tok × Int :=
  match hexF (-1) (s.drop (at_ + 1)) with
  | .inr e => refused e
  | .inl r => told 3 at_ (at_ + 1 + r.2 : Nat) r.1 32767
/- WORDS -/
def sgn (c : UInt8) : Bool := decide (c = 43) || decide (c = 45)
def dig (c : UInt8) : Bool := decide (48 ≤ c.toNat) && decide (c.toNat ≤ 57)
def unsign : List UInt8 → List UInt8
  | [] => []
  | c :: t => if sgn c then t else c :: t
def intForm (t : List UInt8) : Bool := !(unsign t).isEmpty && (unsign t).all dig
def val (n : Nat) (l : List UInt8) : Nat := l.foldl (fun n c => 10 * n + (c.toNat - 48)) n
def whole (t : List UInt8) : Int × Int :=
  if 2147483647 < val 0 (unsign t) then (0, 2) else (if t.head? = some 45 then -(val 0 (unsign t) : Int) else (val 0 (unsign t) : Int), 0)
def wordT (t : List UInt8) (a b : Int) : Tok × Int :=
  if intForm t then (if (whole t).2 ≠ 0 then refused (whole t).2 else (⟨1, a, b, (whole t).1, []⟩, 0))
  else if t.contains 46 ∧ (Fx.read t).2 = 0 then (⟨2, a, b, (Fx.read t).1, []⟩, 0)
  else if t.contains 46 ∧ (Fx.read t).2 = 2 then refused 2
  else told 5 a b t 127
def word (s : List UInt8) (at_ : Nat) : Tok × Int := wordT (cut s at_ (run s at_)) at_ (run s at_)
/- TOKENS -/
def mark (s : List UInt8) (at_ n : Nat) : Tok × Int := (⟨6, at_, (at_ + n : Nat), 0, cut s at_ (at_ + n)⟩, 0)
def token (s : List UInt8) (a : Nat) : Tok × Int :=
  match s.drop a with
  | [] => (⟨0, a, a, 0, []⟩, 0)
  | c :: t =>
    if c = 91 ∨ c = 93 ∨ c = 123 ∨ c = 125 then mark s a 1
    else if c = 60 then (if t.head? = some c then mark s a 2 else hex s a)
    else if c = 62 then (if t.head? = some c then mark s a 2 else refused 3)
    else if c = 47 then name s a
    else if c = 40 then text s a
    else if c = 41 then refused 3
    else word s a
def next (s : List UInt8) (at_ : Int) : Tok × Int := if at_ < 0 ∨ (s.length : Int) < at_ then refused 1 else token s (skip s at_.toNat)
/-- At most so many tokens, or a fault and its place. -/
def upto (s : List UInt8) : Nat → Int → List Tok ⊕ (Int × Int)
  | 0, _ => .inl []
  | m + 1, at_ =>
    if (next s at_).2 ≠ 0 then .inr (skipI s at_, (next s at_).2)
    else if (next s at_).1.k = 0 then .inl []
    else match upto s m (next s at_).1.t with
      | .inl l => .inl ((next s at_).1 :: l)
      | .inr f => .inr f
end Lx
end Go.Proofs.YtjajlcacbbnodaaGreatDoor
/- Plain mathematics of layer 3: where tokens end; lists of tokens. -/
namespace Go.Proofs.YtjajlcacbbnodaaGreatDoor
set_option linter.unusedVariables false
set_option linter.unusedSimpArgs false
set_option linter.defProp false
open Go
namespace Lx
open Oc
theorem hexF_le : ∀ (l : List UInt8) (h : Int) (r : List UInt8 × Nat), hexF h l = .inl r → 1 ≤ r.2 ∧ r.2 ≤ l.length
  | [], _, r, h => by rw [hexF] at h; cases h
  | c :: t, h, r, he => by
    rw [hexF] at he
    have step : ∀ h', (∀ r, hexF h' t = .inl r → 1 ≤ r.2 ∧ r.2 ≤ t.length) := fun h' r hr => hexF_le t h' r hr
    split at he
    · cases he; simp
    · split at he
      · cases hh : hexF h t with
        | inr e => rw [hh] at he; cases he
        | inl q => rw [hh] at he; cases he; have := step _ q hh; simp; omega
      · split at he
        · cases he
        · split at he
          · cases hh : hexF (digit c) t with
            | inr e => rw [hh] at he; cases he
            | inl q => rw [hh] at he; cases he; have := step _ q hh; simp; omega
          · cases hh : hexF (-1) t with
            | inr e => rw [hh] at he; cases he
            | inl q => rw [hh] at he; cases he; have := step _ q hh; simp; omega
theorem textG_le : ∀ (l : List UInt8) (k o : Nat) (r : List UInt8 × Nat), textG k o l = some r → 1 ≤ r.2 ∧ r.2 ≤ l.length
  | [], k, o, r, h => by
    cases k <;> (rw [textG] at h; cases h)
  | c :: t, k + 1, o, r, h => by
    rw [textG] at h
    cases hh : textG k o t with
    | none => rw [hh] at h; cases h
    | some q => rw [hh] at h; cases h; have := textG_le t k o q hh; simp; omega
  | c :: t, 0, o, r, h => by
    rw [textG] at h
    have step : ∀ (k o : Nat) (f : List UInt8 → List UInt8), (textG k o t).map (fun r => (f r.1, r.2 + 1)) = some r → 1 ≤ r.2 ∧ r.2 ≤ (c :: t).length := by
      intro k o f h
      cases hh : textG k o t with
      | none => rw [hh] at h; cases h
      | some q => rw [hh] at h; cases h; have := textG_le t k o q hh; simp; omega
    split at h
    · exact step _ _ _ h
    · split at h
      · split at h
        · cases h
        · exact step _ _ _ h
      · split at h
        · exact step _ _ (fun x => c :: x) h
        · split at h
          · split at h
            · cases h; simp
            · exact step _ _ (fun x => c :: x) h
          · exact step _ _ (fun x => c :: x) h
theorem told_ok {k a t : Int} {x : List UInt8} {m : Int} (h : (told k a t x m).2 = 0) : told k a t x m = (⟨k, a, t, 0, x⟩, 0) := by
  unfold told at h ⊢
  split
  · rename_i hh; rw [if_pos hh] at h; cases h
  · rfl
theorem skipF_stop : ∀ (b : Bool) (l : List UInt8), skipF false (l.drop (skipF b l)) = 0
  | _, [] => by simp [skipF]
  | true, c :: t => by
    simp only [skipF]
    rw [Nat.add_comm, List.drop_succ_cons]
    exact skipF_stop _ t
  | false, c :: t => by
    simp only [skipF]
    split
    · rw [Nat.add_comm, List.drop_succ_cons]; exact skipF_stop _ t
    · split
      · rw [Nat.add_comm, List.drop_succ_cons]; exact skipF_stop _ t
      · rename_i h1 h2
        rw [List.drop_zero, skipF, if_neg h1, if_neg h2]
theorem skip_stop (s : List UInt8) (k : Nat) : skipF false (s.drop (skip s k)) = 0 := by
  have := skipF_stop false (s.drop k)
  rw [List.drop_drop] at this
  exact this
theorem stop_head {c : UInt8} {t : List UInt8} (h : skipF false (c :: t) = 0) : c ≠ 37 ∧ white c = false := by
  rw [skipF] at h
  split at h
  · omega
  · rename_i h1
    split at h
    · omega
    · rename_i h2
      exact ⟨h1, by simpa using h2⟩
theorem regular_of (c : UInt8) (hw : white c = false) (h1 : ¬ (c = 91 ∨ c = 93 ∨ c = 123 ∨ c = 125)) (h2 : c ≠ 60) (h3 : c ≠ 62) (h4 : c ≠ 47) (h5 : c ≠ 40) (h6 : c ≠ 41) (h7 : c ≠ 37) : regular c = true := by
  have g1 : ¬ c = 91 := fun e => h1 (.inl e)
  have g2 : ¬ c = 93 := fun e => h1 (.inr (.inl e))
  have g3 : ¬ c = 123 := fun e => h1 (.inr (.inr (.inl e)))
  have g4 : ¬ c = 125 := fun e => h1 (.inr (.inr (.inr e)))
  simp [regular, hw, delim, delims, g1, g2, g3, g4, h2, h3, h4, h5, h6, h7]
theorem wordT_ok {t : List UInt8} {a r : Int} (h : (wordT t a r).2 = 0) : (wordT t a r).1.k ≠ 0 ∧ (wordT t a r).1.a = a ∧ (wordT t a r).1.t = r := by
  unfold wordT at h ⊢
  split at h
  · rename_i h1
    rw [if_pos h1]
    split at h
    · rename_i h2; exact absurd h h2
    · rename_i h2; rw [if_neg h2]; exact ⟨by simp, rfl, rfl⟩
  · rename_i h1
    rw [if_neg h1]
    split at h
    · rename_i h2; rw [if_pos h2]; exact ⟨by simp, rfl, rfl⟩
    · rename_i h2
      rw [if_neg h2]
      split at h
      · cases h
      · rename_i h3
        rw [if_neg h3, told_ok h]
        exact ⟨by simp, rfl, rfl⟩
/-- Where a token stands. -/
theorem token_bd {s : List UInt8} {a : Nat} (ha : a < s.length) (hsk : skipF false (s.drop a) = 0) (h : (token s a).2 = 0) : (token s a).1.k ≠ 0 ∧ (token s a).1.a = a ∧ (a : Int) < (token s a).1.t ∧ (token s a).1.t ≤ s.length := by
  have hd := drop_cons ha
  have hT : token s a = if s[a] = 91 ∨ s[a] = 93 ∨ s[a] = 123 ∨ s[a] = 125 then mark s a 1
    else if s[a] = 60 then (if (s.drop (a + 1)).head? = some s[a] then mark s a 2 else hex s a)
    else if s[a] = 62 then (if (s.drop (a + 1)).head? = some s[a] then mark s a 2 else refused 3)
    else if s[a] = 47 then name s a
    else if s[a] = 40 then text s a
    else if s[a] = 41 then refused 3
    else word s a := by rw [token, hd]
  rw [hd] at hsk
  obtain ⟨h37, hw⟩ := stop_head hsk
  have two : (s.drop (a + 1)).head? = some s[a] → a + 2 ≤ s.length := by
    intro h
    cases hdd : s.drop (a + 1) with
    | nil => rw [hdd] at h; cases h
    | cons x t =>
      have := congrArg List.length hdd
      simp at this; omega
  rw [hT] at h ⊢
  by_cases g0 : s[a] = 91 ∨ s[a] = 93 ∨ s[a] = 123 ∨ s[a] = 125
  · rw [if_pos g0]; exact ⟨by simp [mark], rfl, by simp only [mark]; omega, by simp only [mark]; omega⟩
  rw [if_neg g0] at h ⊢
  by_cases g1 : s[a] = 60
  · rw [if_pos g1] at h ⊢
    by_cases g : (s.drop (a + 1)).head? = some s[a]
    · have := two g
      rw [if_pos g]; exact ⟨by simp [mark], rfl, by simp only [mark]; omega, by simp only [mark]; omega⟩
    · rw [if_neg g] at h ⊢
      unfold hex at h ⊢
      cases hh : hexF (-1) (s.drop (a + 1)) with
      | inr e =>
        rw [hh] at h
        exfalso
        have : ∀ (l : List UInt8) (x e : Int), hexF x l = .inr e → e ≠ 0 := by
          intro l
          induction l with
          | nil => intro x e he; rw [hexF] at he; cases he; decide
          | cons c t ih =>
            intro x e he
            rw [hexF] at he
            split at he
            · cases he
            · split at he
              · cases hq : hexF x t with
                | inl r => rw [hq] at he; cases he
                | inr e' => rw [hq] at he; cases he; exact ih _ _ hq
              · split at he
                · cases he; decide
                · split at he
                  · cases hq : hexF (digit c) t with
                    | inl r => rw [hq] at he; cases he
                    | inr e' => rw [hq] at he; cases he; exact ih _ _ hq
                  · cases hq : hexF (-1) t with
                    | inl r => rw [hq] at he; cases he
                    | inr e' => rw [hq] at he; cases he; exact ih _ _ hq
        exact this _ _ _ hh h
      | inl r =>
        rw [hh] at h
        simp only at h ⊢
        have := hexF_le _ _ _ hh
        rw [List.length_drop] at this
        rw [told_ok h]
        exact ⟨by simp, rfl, by simp only; omega, by simp only; omega⟩
  rw [if_neg g1] at h ⊢
  by_cases g2 : s[a] = 62
  · rw [if_pos g2] at h ⊢
    by_cases g : (s.drop (a + 1)).head? = some s[a]
    · have := two g
      rw [if_pos g]; exact ⟨by simp [mark], rfl, by simp only [mark]; omega, by simp only [mark]; omega⟩
    · rw [if_neg g] at h; cases h
  rw [if_neg g2] at h ⊢
  by_cases g3 : s[a] = 47
  · rw [if_pos g3] at h ⊢
    have hto := run_le s (show a + 1 ≤ s.length by omega)
    have hto2 : a + 1 ≤ run s (a + 1) := by unfold run; omega
    unfold name at h ⊢
    cases hh : nameF (cut s (a + 1) (run s (a + 1))) with
    | none => rw [hh] at h; cases h
    | some x =>
      rw [hh] at h
      simp only at h ⊢
      rw [told_ok h]
      exact ⟨by simp, rfl, by simp only; omega, by simp only; omega⟩
  rw [if_neg g3] at h ⊢
  by_cases g4 : s[a] = 40
  · rw [if_pos g4] at h ⊢
    unfold text at h ⊢
    cases hh : textG 0 1 (s.drop (a + 1)) with
    | none => rw [hh] at h; cases h
    | some r =>
      rw [hh] at h
      simp only at h ⊢
      have := textG_le _ _ _ _ hh
      rw [List.length_drop] at this
      rw [told_ok h]
      exact ⟨by simp, rfl, by simp only; omega, by simp only; omega⟩
  rw [if_neg g4] at h ⊢
  by_cases g5 : s[a] = 41
  · rw [if_pos g5] at h; cases h
  rw [if_neg g5] at h ⊢
  have hreg := regular_of s[a] hw g0 g1 g2 g3 g4 g5 h37
  have hto := run_le s (show a ≤ s.length by omega)
  have hto2 : a < run s a := by unfold run; rw [hd, runF, if_pos hreg]; omega
  obtain ⟨k1, k2, k3⟩ := wordT_ok h
  exact ⟨k1, k2, by rw [show (word s a).1.t = _ from k3]; omega, by rw [show (word s a).1.t = _ from k3]; omega⟩
theorem next_bd {s : List UInt8} {i : Int} (h : (next s i).2 = 0) (hk : (next s i).1.k ≠ 0) : 0 ≤ i ∧ i ≤ s.length ∧ (next s i).1.a = skip s i.toNat ∧ (next s i).1.a < (next s i).1.t ∧ (next s i).1.t ≤ s.length := by
  unfold next at h hk ⊢
  split
  · rename_i hh; rw [if_pos hh] at h; cases h
  · rename_i hh
    rw [if_neg hh] at h hk
    have hle := skip_le s (k := i.toNat) (by omega)
    rcases Nat.lt_or_ge (skip s i.toNat) s.length with h1 | h1
    · have := token_bd h1 (skip_stop s i.toNat) h
      exact ⟨by omega, by omega, this.2.1, by rw [this.2.1]; exact this.2.2.1, this.2.2.2⟩
    · exfalso
      rw [token, List.drop_eq_nil_of_le h1] at hk
      exact hk rfl
/-- From a on the tokens l are read, up to b. -/
def Steps (s : List UInt8) (a : Int) (l : List Tok) (b : Int) : Prop := ∀ m, upto s (l.length + m) a = match upto s m b with | .inl r => .inl (l ++ r) | .inr f => .inr f
theorem Steps.nil (s : List UInt8) (a : Int) : Steps s a [] a := by
  intro m
  rw [List.length_nil, Nat.zero_add]
  cases upto s m a <;> rfl
theorem Steps.snoc {s : List UInt8} {a b : Int} {l : List Tok} (h : Steps s a l b) (h1 : (next s b).2 = 0) (h2 : (next s b).1.k ≠ 0) : Steps s a (l ++ [(next s b).1]) (next s b).1.t := by
  intro m
  have := h (m + 1)
  rw [List.length_append, List.length_singleton, Nat.add_assoc, Nat.add_comm 1 m, this]
  rw [upto, if_neg (by rw [h1]; simp), if_neg h2]
  cases upto s m (next s b).1.t <;> simp
theorem Steps.fin {s : List UInt8} {a b : Int} {l : List Tok} (h : Steps s a l b) (m : Nat) : upto s (l.length + m) a = match upto s m b with | .inl r => .inl (l ++ r) | .inr f => .inr f := h m
end Lx
end Go.Proofs.YtjajlcacbbnodaaGreatDoor
/- Plain mathematics of layer 3: a token cut alone is the same token. -/
namespace Go.Proofs.YtjajlcacbbnodaaGreatDoor
set_option linter.unusedVariables false
set_option linter.unusedSimpArgs false
set_option linter.defProp false
open Go
namespace Lx
open Oc
theorem head_take {t : List UInt8} {n : Nat} (h : 1 ≤ n) : (t.take n).head? = t.head? := by
  cases t with
  | nil => simp
  | cons c t => obtain ⟨m, rfl⟩ : ∃ m, n = m + 1 := ⟨n - 1, by omega⟩; rfl
theorem take_cons {c : UInt8} {t : List UInt8} {n : Nat} (h : 1 ≤ n) : (c :: t).take n = c :: t.take (n - 1) := by
  obtain ⟨m, rfl⟩ : ∃ m, n = m + 1 := ⟨n - 1, by omega⟩; rfl
theorem textG_ge : ∀ (l : List UInt8) (k o : Nat) (r : List UInt8 × Nat), textG k o l = some r → k + 1 ≤ r.2
  | [], k, o, r, h => by cases k <;> (rw [textG] at h; cases h)
  | c :: t, 0, o, r, h => by have := textG_le _ _ _ _ h; omega
  | c :: t, k + 1, o, r, h => by
    rw [textG] at h
    cases hh : textG k o t with
    | none => rw [hh] at h; cases h
    | some q => rw [hh] at h; cases h; have := textG_ge t k o q hh; simp; omega
theorem map_some {α β : Type} {f : α → β} {x : Option α} {r : β} (h : x.map f = some r) : ∃ q, x = some q ∧ r = f q := by
  cases x with
  | none => cases h
  | some q => cases h; exact ⟨q, rfl, rfl⟩
theorem runF_take : ∀ l : List UInt8, (l.take (runF l)).all regular = true ∧ runF (l.take (runF l)) = runF l
  | [] => by simp [runF]
  | c :: t => by
    obtain ⟨i1, i2⟩ := runF_take t
    simp only [runF]
    by_cases h : regular c = true
    · rw [if_pos h, take_cons (by omega), Nat.add_sub_cancel_left]
      simp only [runF, i2, List.all_cons, h, i1, Bool.and_self, if_true, and_self]
    · rw [if_neg h]; simp [runF]
theorem wordT_move {t : List UInt8} {a r : Int} (h : (wordT t a r).2 = 0) (b q : Int) : wordT t b q = ({ (wordT t a r).1 with a := b, t := q }, 0) := by
  unfold wordT at h ⊢
  by_cases h1 : intForm t = true
  · simp only [if_pos h1] at h ⊢
    by_cases h2 : (whole t).2 ≠ 0
    · rw [if_pos h2] at h; exact absurd h h2
    · simp only [if_neg h2]
  · simp only [if_neg h1] at h ⊢
    by_cases h2 : t.contains 46 ∧ (Fx.read t).2 = 0
    · simp only [if_pos h2]
    · simp only [if_neg h2] at h ⊢
      by_cases h3 : t.contains 46 ∧ (Fx.read t).2 = 2
      · rw [if_pos h3] at h; cases h
      · simp only [if_neg h3] at h ⊢
        unfold told at h ⊢
        by_cases h4 : (127 : Int) < t.length
        · rw [if_pos h4] at h; cases h
        · simp only [if_neg h4]
theorem cut_length {s : List UInt8} {i j : Nat} (h : j ≤ s.length) : (cut s i j).length = j - i := by
  unfold cut; rw [List.length_take, List.length_drop]; omega
theorem cut_cons {s : List UInt8} {a b : Nat} (ha : a < s.length) (h : a < b) : cut s a b = s[a] :: (s.drop (a + 1)).take (b - (a + 1)) := by
  unfold cut
  rw [drop_cons ha, take_cons (by omega), show b - a - 1 = b - (a + 1) by omega]
theorem cut_full (u : List UInt8) : cut u 0 u.length = u := by simp [cut]
/- LISTS OF TOKENS -/
end Lx
end Go.Proofs.YtjajlcacbbnodaaGreatDoor
/- Plain mathematics of layer 3: whole numbers from their digits; strings from hexadecimal and octal digits. -/
namespace Go.Proofs.YtjajlcacbbnodaaGreatDoor
set_option linter.unusedVariables false
set_option linter.unusedSimpArgs false
set_option linter.defProp false
open Go
namespace Lx
open Oc
theorem all8 {p : UInt8 → Prop} (h : ∀ n : Fin 256, p (UInt8.ofNat n.val)) (c : UInt8) : p c := by
  have := h ⟨c.toNat, c.toNat_lt⟩
  simpa using this
theorem regular_ne (c : UInt8) : regular c = true → white c = false ∧ c ≠ 37 ∧ ¬ (c = 91 ∨ c = 93 ∨ c = 123 ∨ c = 125) ∧ c ≠ 60 ∧ c ≠ 62 ∧ c ≠ 47 ∧ c ≠ 40 ∧ c ≠ 41 := by
  refine all8 (p := fun c => regular c = true → white c = false ∧ c ≠ 37 ∧ ¬ (c = 91 ∨ c = 93 ∨ c = 123 ∨ c = 125) ∧ c ≠ 60 ∧ c ≠ 62 ∧ c ≠ 47 ∧ c ≠ 40 ∧ c ≠ 41) ?_ c
  decide +kernel
theorem dig_reg (c : UInt8) : dig c = true → regular c = true ∧ sgn c = false ∧ c ≠ 45 := by
  refine all8 (p := fun c => dig c = true → regular c = true ∧ sgn c = false ∧ c ≠ 45) ?_ c
  decide +kernel
theorem val_cons (n : Nat) (c : UInt8) (l : List UInt8) : val n (c :: l) = val (10 * n + (c.toNat - 48)) l := by simp only [val, List.foldl_cons]
theorem token_word {s : List UInt8} {a : Nat} {c : UInt8} {t : List UInt8} (hd : s.drop a = c :: t) (h : regular c = true) : token s a = word s a := by
  obtain ⟨_, _, h1, h2, h3, h4, h5, h6⟩ := regular_ne c h
  rw [token, hd]
  simp only [if_neg h1, if_neg h2, if_neg h3, if_neg h4, if_neg h5, if_neg h6]
theorem all_reg {ds : List UInt8} (h : ds.all dig = true) : ds.all regular = true := by
  rw [List.all_eq_true] at h ⊢
  exact fun c hc => (dig_reg c (h c hc)).1
theorem unsign_num {sg ds : List UInt8} (hs : sg = [] ∨ sg = [45]) (h : ds.all dig = true) : unsign (sg ++ ds) = ds := by
  rcases hs with rfl | rfl
  · cases ds with
    | nil => rfl
    | cons c t =>
      simp only [List.all_cons, Bool.and_eq_true] at h
      rw [List.nil_append, unsign, (dig_reg c h.1).2.1]; rfl
  · rfl
end Lx
end Go.Proofs.YtjajlcacbbnodaaGreatDoor
/- Plain mathematics of layer 4: encodings are one-to-one; no program in sight. -/
namespace Go.Proofs.YtjajlcacbbnodaaGreatDoor
set_option linter.unusedVariables false
set_option linter.unusedSimpArgs false
set_option linter.defProp false
open Go
namespace Pl
open Oc
/- NUMBERS -/
theorem dec_val : ∀ u : Nat, Fx.val 0 (Lib.decDigits u) = (u : Int) ∧ (Lib.decDigits u).all Fx.isDig = true := by
  intro u
  induction u using Nat.strongRecOn with
  | _ u ih =>
    have dig : ∀ k, k < 10 → Fx.isDig (UInt8.ofNat (48 + k)) = true ∧ ((UInt8.ofNat (48 + k)).toNat : Int) - 48 = (k : Int) := by
      intro k hk
      have e : (UInt8.ofNat (48 + k)).toNat = 48 + k := by rw [UInt8.toNat_ofNat']; omega
      refine ⟨?_, by omega⟩
      unfold Fx.isDig
      rw [e]
      simp only [Bool.and_eq_true, decide_eq_true_eq]
      omega
    rw [Lib.decDigits]
    split
    · rename_i h
      obtain ⟨h1, h2⟩ := dig u h
      refine ⟨?_, by rw [List.all_cons, h1]; rfl⟩
      simp only [Fx.val, List.foldl_cons, List.foldl_nil, h2]
      omega
    · rename_i h
      obtain ⟨i1, i2⟩ := ih (u / 10) (by omega)
      obtain ⟨h1, h2⟩ := dig (u % 10) (by omega)
      refine ⟨?_, by rw [List.all_append, i2, List.all_cons, h1]; rfl⟩
      rw [Fx.val_append, i1]
      simp only [Fx.val, List.foldl_cons, List.foldl_nil, h2]
      omega
theorem itoa_shape (n : Int) : (∃ u : Nat, n = u ∧ Lib.itoa n = Lib.decDigits u) ∨ (∃ u : Nat, n = -(u : Int) ∧ 0 < u ∧ Lib.itoa n = 45 :: Lib.decDigits u) := by
  unfold Lib.itoa
  by_cases h : n < 0
  · rw [if_pos h]; exact .inr ⟨n.natAbs, by omega, by omega, rfl⟩
  · rw [if_neg h]; exact .inl ⟨n.toNat, by omega, rfl⟩
theorem dec_no (u : Nat) (c : UInt8) (hc : Fx.isDig c = false) : c ∉ Lib.decDigits u := fun hm => by
  have := List.all_eq_true.1 (dec_val u).2 c hm
  rw [hc] at this; cases this
end Pl
end Go.Proofs.YtjajlcacbbnodaaGreatDoor
/- Plain mathematics of layers 3 and 4: every encoding is one token; strings from hexadecimal and octal digits. -/
namespace Go.Proofs.YtjajlcacbbnodaaGreatDoor
set_option linter.unusedVariables false
set_option linter.unusedSimpArgs false
set_option linter.defProp false
open Go
namespace Lx
open Oc
theorem word_next {t : List UInt8} (h : t ≠ []) (hr : t.all regular = true) : next t 0 = wordT t 0 t.length := by
  cases t with
  | nil => exact absurd rfl h
  | cons c r =>
    have hc : regular c = true := by simp only [List.all_cons, Bool.and_eq_true] at hr; exact hr.1
    obtain ⟨hw, h37, _⟩ := regular_ne c hc
    have hsk : skip (c :: r) 0 = 0 := by
      unfold skip
      rw [List.drop_zero, skipF, if_neg h37, if_neg (by rw [hw]; decide)]
    have all_run : ∀ l : List UInt8, l.all regular = true → runF l = l.length := by
      intro l
      induction l with
      | nil => intro _; rfl
      | cons d l ih =>
        intro hl
        simp only [List.all_cons, Bool.and_eq_true] at hl
        rw [runF, if_pos hl.1, ih hl.2, List.length_cons]; omega
    have hrun : run (c :: r) 0 = (c :: r).length := by
      unfold run
      rw [List.drop_zero, all_run _ hr, Nat.zero_add]
    unfold next
    rw [if_neg (by omega), Int.toNat_zero, hsk, token_word (List.drop_zero) hc, word, hrun, cut_full]; rfl
theorem val_fx : ∀ (l : List UInt8) (n : Nat), l.all dig = true → ((val n l : Nat) : Int) = Fx.val n l
  | [], n, _ => rfl
  | c :: l, n, h => by
    simp only [List.all_cons, Bool.and_eq_true] at h
    have hc : 48 ≤ c.toNat := by have := h.1; simp only [dig, Bool.and_eq_true, decide_eq_true_eq] at this; omega
    rw [val_cons, Fx.val_cons, val_fx l _ h.2]
    congr 1
    omega
theorem itoa_next {n : Int} (h1 : -2147483647 ≤ n) (h2 : n ≤ 2147483647) : next (Lib.itoa n) 0 = (⟨1, 0, (Lib.itoa n).length, n, []⟩, 0) := by
  have dec : ∀ u : Nat, (Lib.decDigits u).all dig = true ∧ val 0 (Lib.decDigits u) = u ∧ Lib.decDigits u ≠ [] := by
    intro u
    obtain ⟨d1, d2⟩ := Pl.dec_val u
    refine ⟨d2, by have := val_fx (Lib.decDigits u) 0 d2; rw [show ((0 : Nat) : Int) = 0 from rfl, d1] at this; omega, fun e => ?_⟩
    have := Lib.decDigits_length u
    rw [e] at this
    have h1 : 1 ≤ Lib.nDigits u := by unfold Lib.nDigits; split <;> omega
    simp at this; omega
  have go : ∀ (sg : List UInt8) (u : Nat), (sg = [] ∨ sg = [45]) → u ≤ 2147483647 → n = (if sg = [] then (u : Int) else -(u : Int)) → Lib.itoa n = sg ++ Lib.decDigits u → next (Lib.itoa n) 0 = (⟨1, 0, (Lib.itoa n).length, n, []⟩, 0) := by
    intro sg u hs hu hn he
    obtain ⟨d1, d2, d3⟩ := dec u
    have ht : (sg ++ Lib.decDigits u).all regular = true := by
      rw [List.all_append, all_reg d1, Bool.and_true]
      rcases hs with rfl | rfl <;> rfl
    rw [he, word_next (by simp [d3]) ht, wordT]
    have hus := unsign_num hs d1
    have hI : intForm (sg ++ Lib.decDigits u) = true := by
      unfold intForm
      rw [hus, d1]
      cases hd : Lib.decDigits u with
      | nil => exact absurd hd d3
      | cons => rfl
    have hhead : (sg ++ Lib.decDigits u).head? = some 45 ↔ sg = [45] := by
      rcases hs with rfl | rfl
      · cases hd : Lib.decDigits u with
        | nil => exact absurd hd d3
        | cons c t =>
          rw [hd] at d1
          simp only [List.all_cons, Bool.and_eq_true] at d1
          simp [(dig_reg c d1.1).2.2]
      · simp
    have hW : whole (sg ++ Lib.decDigits u) = (n, 0) := by
      unfold whole
      rw [hus, d2, if_neg (by omega)]
      rcases hs with rfl | rfl
      · rw [if_neg (by rw [hhead]; simp), hn, if_pos rfl]
      · rw [if_pos (by rw [hhead]), hn, if_neg (by simp)]
    rw [if_pos hI, hW, if_neg (by simp)]
  rcases Pl.itoa_shape n with ⟨u, hu, e⟩ | ⟨u, hu, hp, e⟩
  · exact go [] u (.inl rfl) (by omega) (by simpa using hu) (by simpa using e)
  · exact go [45] u (.inr rfl) (by omega) (by simpa using hu) (by simpa using e)
/- STRINGS -/
theorem oct_facts (c : UInt8) : oct (UInt8.ofNat (48 + c.toNat / 64)) = true ∧ oct (UInt8.ofNat (48 + c.toNat / 8 % 8)) = true ∧ oct (UInt8.ofNat (48 + c.toNat % 8)) = true ∧ escL (UInt8.ofNat (48 + c.toNat / 64)) = none ∧ eol (UInt8.ofNat (48 + c.toNat / 64)) = false
    ∧ UInt8.ofNat (8 * (8 * (8 * 0 + ((UInt8.ofNat (48 + c.toNat / 64)).toNat - 48)) + ((UInt8.ofNat (48 + c.toNat / 8 % 8)).toNat - 48)) + ((UInt8.ofNat (48 + c.toNat % 8)).toNat - 48)) = c := by
  refine all8 (p := fun c => oct (UInt8.ofNat (48 + c.toNat / 64)) = true ∧ oct (UInt8.ofNat (48 + c.toNat / 8 % 8)) = true ∧ oct (UInt8.ofNat (48 + c.toNat % 8)) = true ∧ escL (UInt8.ofNat (48 + c.toNat / 64)) = none ∧ eol (UInt8.ofNat (48 + c.toNat / 64)) = false
    ∧ UInt8.ofNat (8 * (8 * (8 * 0 + ((UInt8.ofNat (48 + c.toNat / 64)).toNat - 48)) + ((UInt8.ofNat (48 + c.toNat / 8 % 8)).toNat - 48)) + ((UInt8.ofNat (48 + c.toNat % 8)).toNat - 48)) = c) ?_ c
  decide +kernel
theorem escF_oct (c : UInt8) (t : List UInt8) : escF (UInt8.ofNat (48 + c.toNat / 64) :: UInt8.ofNat (48 + c.toNat / 8 % 8) :: UInt8.ofNat (48 + c.toNat % 8) :: t) = ([c], 3) := by
  obtain ⟨h1, h2, h3, h4, h5, h6⟩ := oct_facts c
  generalize UInt8.ofNat (48 + c.toNat / 64) = x at *
  generalize UInt8.ofNat (48 + c.toNat / 8 % 8) = y at *
  generalize UInt8.ofNat (48 + c.toNat % 8) = z at *
  have ho : octF 3 0 (x :: y :: z :: t) = (8 * (8 * (8 * 0 + (x.toNat - 48)) + (y.toNat - 48)) + (z.toNat - 48), 3) := by
    simp only [octF, h1, h2, h3, if_true]
  simp only [escF, h4, h5, ho, Bool.false_eq_true, if_false]
  rw [if_pos (by omega), h6]
/-- A backslash and three octal digits. -/
theorem textG_oct (c : UInt8) (o : Nat) (t : List UInt8) : textG 0 o (Pl.oct c ++ t) = (textG 0 o t).map fun r => (c :: r.1, r.2 + 4) := by
  unfold Pl.oct
  rw [List.cons_append, textG, if_neg (by decide), if_pos rfl, if_neg (by simp)]
  simp only [List.cons_append, List.nil_append]
  rw [escF_oct, textG_skip 3 o _ (by simp), Option.map_map]
  simp only [List.drop_succ_cons, List.drop_zero]
  congr 1
theorem textG_esc (c : UInt8) (t : List UInt8) : textG 0 1 (Pl.esc c ++ t) = (textG 0 1 t).map fun r => (c :: r.1, r.2 + (Pl.esc c).length) := by
  unfold Pl.esc
  by_cases h1 : c = 40 ∨ c = 41 ∨ c = 92
  · rw [if_pos h1]
    have hl : escL c = none := by rcases h1 with rfl | rfl | rfl <;> rfl
    have he : eol c = false := by rcases h1 with rfl | rfl | rfl <;> rfl
    have ho : oct c = false := by rcases h1 with rfl | rfl | rfl <;> rfl
    have hE : escF (c :: t) = ([c], 1) := by
      have h0 : octF 3 0 (c :: t) = (0, 0) := by simp only [octF, ho, Bool.false_eq_true, if_false]
      simp only [escF, hl, he, h0, Bool.false_eq_true, if_false]
      rw [if_neg (by omega)]
    rw [List.cons_append, List.cons_append, List.nil_append, textG, if_neg (by decide), if_pos rfl, if_neg (by simp), hE, textG_skip 1 1 _ (by simp), Option.map_map]
    simp only [List.drop_succ_cons, List.drop_zero]
    congr 1
  · rw [if_neg h1]
    by_cases h2 : c.toNat < 32 ∨ 126 < c.toNat
    · rw [if_pos h2, textG_oct]; rfl
    · rw [if_neg h2, List.cons_append, List.nil_append, textG]
      have he : eol c = false := by
        unfold eol
        rw [Bool.or_eq_false_iff]
        refine ⟨decide_eq_false fun e => ?_, decide_eq_false fun e => ?_⟩ <;>
        · rw [e] at h2
          exact h2 (.inl (by decide))
      rw [if_neg (by rw [he]; decide), if_neg (fun e => h1 (.inr (.inr e))), if_neg (fun e => h1 (.inl e)), if_neg (fun e => h1 (.inr (.inl e)))]
      rfl
theorem textG_escs : ∀ (l t : List UInt8), textG 0 1 (l.flatMap Pl.esc ++ t) = (textG 0 1 t).map fun r => (l ++ r.1, r.2 + (l.flatMap Pl.esc).length)
  | [], t => by simp
  | c :: l, t => by
    rw [List.flatMap_cons, List.append_assoc, textG_esc, textG_escs l t, Option.map_map]
    congr 1
    funext r
    simp only [Function.comp, List.cons_append, List.length_append]
    refine Prod.ext rfl ?_
    simp only; omega
theorem textG_close (t : List UInt8) : textG 0 1 (41 :: t) = some ([], 1) := by
  rw [textG, if_neg (by decide), if_neg (by decide), if_neg (by decide), if_pos rfl, if_pos (by omega)]
theorem next_open (c : UInt8) (t : List UInt8) (h : c ≠ 37 ∧ white c = false) : next (c :: t) 0 = token (c :: t) 0 := by
  have hsk : skip (c :: t) 0 = 0 := by
    unfold skip
    rw [List.drop_zero, skipF, if_neg h.1, if_neg (by rw [h.2]; decide)]
  unfold next
  rw [if_neg (by omega), Int.toNat_zero, hsk]
theorem token_text (t : List UInt8) : token (40 :: t) 0 = text (40 :: t) 0 := by
  rw [token, List.drop_zero]
  simp only
  rw [if_neg (by decide), if_neg (by decide), if_neg (by decide), if_neg (by decide), if_pos trivial]
theorem text_of {t x : List UInt8} {n : Nat} (h : textG 0 1 t = some (x, n)) (hx : x.length ≤ 32767) : next (40 :: t) 0 = (⟨3, 0, (1 + n : Nat), 0, x⟩, 0) := by
  rw [next_open 40 t (by decide), token_text, text]
  have : (40 :: t).drop (0 + 1) = t := rfl
  rw [this, h]
  simp only [told]
  rw [if_neg (by omega), Nat.zero_add]; rfl
theorem str_next {l : List UInt8} (h : l.length ≤ 32767) : next (Pl.str l) 0 = (⟨3, 0, (Pl.str l).length, 0, l⟩, 0) := by
  have hs : Pl.str l = 40 :: (l.flatMap Pl.esc ++ 41 :: []) := by simp [Pl.str]
  have := text_of (t := l.flatMap Pl.esc ++ 41 :: []) (x := l) (n := 1 + (l.flatMap Pl.esc).length) (by rw [textG_escs, textG_close]; simp) h
  rw [hs, this]
  simp only [List.length_cons, List.length_append, List.length_nil]
  rw [show 1 + (1 + (l.flatMap Pl.esc).length) = (l.flatMap Pl.esc).length + (0 + 1) + 1 by omega]
/- HEXADECIMAL -/
/- NAMES -/
end Lx
end Go.Proofs.YtjajlcacbbnodaaGreatDoor
/- Plain mathematics of layers 3 and 4: joined tokens scan into the same tokens. -/
namespace Go.Proofs.YtjajlcacbbnodaaGreatDoor
set_option linter.unusedVariables false
set_option linter.unusedSimpArgs false
set_option linter.defProp false
open Go
namespace Lx
open Oc
theorem head_app {t m : List UInt8} (h : t ≠ []) : (t ++ m).head? = t.head? := by
  cases t with
  | nil => exact absurd rfl h
  | cons => rfl
theorem lineF_ext {c : UInt8} {t : List UInt8} (m : List UInt8) (he : eol c = true) (h : t ≠ []) : lineF (c :: (t ++ m)) = lineF (c :: t) := by
  simp only [lineF, head_app h]
  by_cases h1 : c = 10
  · simp [h1]
  · by_cases h2 : c = 13
    · simp [h2]
    · simp [eol, h1, h2] at he
theorem octF_ext : ∀ (k n : Nat) (l m : List UInt8), (octF k n l).2 + 1 ≤ l.length → octF k n (l ++ m) = octF k n l
  | 0, n, l, m, h => by simp [octF]
  | k + 1, n, [], m, h => by simp at h
  | k + 1, n, c :: t, m, h => by
    rw [List.cons_append]
    simp only [octF] at h ⊢
    by_cases ho : oct c = true
    · rw [if_pos ho] at h ⊢
      rw [if_pos ho]
      simp only [List.length_cons] at h
      rw [octF_ext k _ t m (by omega)]
    · rw [if_neg ho, if_neg ho]
theorem escF_ext {l : List UInt8} (m : List UInt8) (h : (escF l).2 + 1 ≤ l.length) : escF (l ++ m) = escF l := by
  cases l with
  | nil => simp at h
  | cons c t =>
    rw [List.cons_append]
    simp only [escF, List.length_cons] at h ⊢
    cases hl : escL c with
    | some b => rfl
    | none =>
      simp only [hl] at h ⊢
      by_cases he : eol c = true
      · rw [if_pos he] at h ⊢
        rw [if_pos he]
        have hp := lineF_pos c t
        simp only at h
        rw [lineF_ext m he (by intro e; subst e; simp at h; omega)]
      · rw [if_neg he] at h ⊢
        rw [if_neg he]
        have h3 : (octF 3 0 (c :: t)).2 + 1 ≤ (c :: t).length := by
          by_cases h0 : 0 < (octF 3 0 (c :: t)).2
          · rw [if_pos h0] at h; rw [List.length_cons]; exact h
          · rw [List.length_cons]; omega
        have ht := octF_ext 3 0 (c :: t) m h3
        rw [List.cons_append] at ht
        rw [ht]
theorem textG_ext : ∀ (l : List UInt8) (k o : Nat) (r : List UInt8 × Nat) (m : List UInt8), textG k o l = some r → textG k o (l ++ m) = some r
  | [], k, o, r, m, h => by cases k <;> (rw [textG] at h; cases h)
  | c :: t, k + 1, o, r, m, h => by
    rw [textG] at h
    obtain ⟨q, hq, rfl⟩ := map_some h
    rw [List.cons_append, textG, textG_ext t k o q m hq]; rfl
  | c :: t, 0, o, r, m, h => by
    rw [List.cons_append]
    rw [textG] at h ⊢
    have ne : ∀ k o q, textG k o t = some q → t ≠ [] := by
      intro k o q hq e
      subst e
      cases k <;> (rw [textG] at hq; cases hq)
    by_cases g1 : eol c = true
    · rw [if_pos g1] at h ⊢
      obtain ⟨q, hq, rfl⟩ := map_some h
      rw [lineF_ext m g1 (ne _ _ _ hq), textG_ext t _ o q m hq]; rfl
    · rw [if_neg g1] at h ⊢
      by_cases g2 : c = 92
      · rw [if_pos g2] at h ⊢
        by_cases g3 : t = []
        · rw [if_pos g3] at h; cases h
        · rw [if_neg g3] at h
          obtain ⟨q, hq, rfl⟩ := map_some h
          have h2 := textG_ge _ _ _ _ hq
          have h3 := textG_le _ _ _ _ hq
          rw [escF_ext m (by omega), textG_ext t _ o q m hq, if_neg (by simp [g3])]; rfl
      · rw [if_neg g2] at h ⊢
        by_cases g4 : c = 40
        · rw [if_pos g4] at h ⊢
          obtain ⟨q, hq, rfl⟩ := map_some h
          rw [textG_ext t _ _ q m hq]; rfl
        · rw [if_neg g4] at h ⊢
          by_cases g5 : c = 41
          · rw [if_pos g5] at h ⊢
            by_cases g6 : o ≤ 1
            · rw [if_pos g6] at h ⊢; exact h
            · rw [if_neg g6] at h ⊢
              obtain ⟨q, hq, rfl⟩ := map_some h
              rw [textG_ext t _ _ q m hq]; rfl
          · rw [if_neg g5] at h ⊢
            obtain ⟨q, hq, rfl⟩ := map_some h
            rw [textG_ext t _ _ q m hq]; rfl
theorem hexF_ext : ∀ (l : List UInt8) (h : Int) (r : List UInt8 × Nat) (m : List UInt8), hexF h l = .inl r → hexF h (l ++ m) = .inl r
  | [], _, r, m, h => by rw [hexF] at h; cases h
  | c :: t, h, r, m, he => by
    rw [List.cons_append]
    rw [hexF] at he ⊢
    have step : ∀ (h' : Int) (f : List UInt8 → List UInt8), (match hexF h' t with | .inl r => (Sum.inl (f r.1, r.2 + 1) : (List UInt8 × Nat) ⊕ Int) | .inr e => .inr e) = .inl r →
        (match hexF h' (t ++ m) with | .inl r => (Sum.inl (f r.1, r.2 + 1) : (List UInt8 × Nat) ⊕ Int) | .inr e => .inr e) = .inl r := by
      intro h' f hh
      cases hq : hexF h' t with
      | inr e => rw [hq] at hh; cases hh
      | inl q =>
        rw [hq] at hh
        cases hh
        rw [hexF_ext t h' q m hq]
    by_cases g1 : c = 62
    · rw [if_pos g1] at he ⊢; exact he
    · rw [if_neg g1] at he ⊢
      by_cases g2 : white c = true
      · rw [if_pos g2] at he ⊢
        exact step h (fun x => x) he
      · rw [if_neg g2] at he ⊢
        by_cases g3 : digit c < 0
        · rw [if_pos g3] at he; cases he
        · rw [if_neg g3] at he ⊢
          by_cases g4 : h < 0
          · rw [if_pos g4] at he ⊢
            exact step (digit c) (fun x => x) he
          · rw [if_neg g4] at he ⊢
            exact step (-1) (fun x => byte h (digit c) :: x) he
/-- m goes on with no regular byte. -/
def stops (m : List UInt8) : Prop := ∀ c t, m = c :: t → regular c = false
theorem runF_stop : ∀ (l m : List UInt8), l.all regular = true → stops m → runF (l ++ m) = l.length
  | [], [], _, _ => rfl
  | [], c :: t, _, h => by rw [List.nil_append, runF, if_neg (by rw [h c t rfl]; decide)]; rfl
  | c :: l, m, h, hm => by
    simp only [List.all_cons, Bool.and_eq_true] at h
    rw [List.cons_append, runF, if_pos h.1, runF_stop l m h.2 hm, List.length_cons]; omega
theorem runF_all {l : List UInt8} (h : runF l = l.length) : l.all regular = true := by
  have := (runF_take l).1
  rwa [h, List.take_length] at this
theorem lastC_all {l : List UInt8} (h : l ≠ []) (hr : l.all regular = true) : regular (Pl.lastC l) = true := by
  have hg := Pl.last_get l h
  exact List.all_eq_true.1 hr _ (List.mem_of_getElem? hg)
/-- A string that is one token. -/
def Single (u : List UInt8) (x : Tok) : Prop := next u 0 = (x, 0) ∧ x.k ≠ 0 ∧ x.a = 0 ∧ x.t = u.length
theorem single_head {u : List UInt8} {x : Tok} (h : Single u x) : ∃ c t, u = c :: t ∧ c ≠ 37 ∧ white c = false ∧ token u 0 = (x, 0) := by
  obtain ⟨hn, hk, ha, ht⟩ := h
  have hb := next_bd (s := u) (i := 0) (by rw [hn]) (by rw [hn]; exact hk)
  rw [hn] at hb
  obtain ⟨-, -, h1, h2, h3⟩ := hb
  have hsk : skip u 0 = 0 := by
    simp only [Int.toNat_zero] at h1; omega
  cases u with
  | nil => simp at ht h2; omega
  | cons c t =>
    have hs : skipF false (c :: t) = 0 := by unfold skip at hsk; rw [List.drop_zero] at hsk; omega
    obtain ⟨h37, hw⟩ := stop_head hs
    refine ⟨c, t, rfl, h37, hw, ?_⟩
    rw [← hn, next_open c t ⟨h37, hw⟩]
/-- The token of u, where u stands within a longer string. -/
theorem token_ext {u : List UInt8} {x : Tok} (pre m : List UInt8) (h : Single u x) (hm : (regular (Pl.lastC u) || decide (Pl.lastC u = 47)) = true → stops m) :
    token (pre ++ (u ++ m)) pre.length = ({ x with a := pre.length, t := pre.length + u.length }, 0) := by
  obtain ⟨c, t, rfl, h37, hw, hT⟩ := single_head h
  obtain ⟨-, hk, hA, hL⟩ := h
  have hd : (pre ++ (c :: t ++ m)).drop pre.length = c :: (t ++ m) := by rw [List.drop_left]; rfl
  have hd1 : (pre ++ (c :: t ++ m)).drop (pre.length + 1) = t ++ m := by rw [← List.drop_drop, hd]; rfl
  have hTu : token (c :: t) 0 = if c = 91 ∨ c = 93 ∨ c = 123 ∨ c = 125 then mark (c :: t) 0 1
    else if c = 60 then (if t.head? = some c then mark (c :: t) 0 2 else hex (c :: t) 0)
    else if c = 62 then (if t.head? = some c then mark (c :: t) 0 2 else refused 3)
    else if c = 47 then name (c :: t) 0
    else if c = 40 then text (c :: t) 0
    else if c = 41 then refused 3
    else word (c :: t) 0 := by rw [token, List.drop_zero]
  have hTS : token (pre ++ (c :: t ++ m)) pre.length = if c = 91 ∨ c = 93 ∨ c = 123 ∨ c = 125 then mark (pre ++ (c :: t ++ m)) pre.length 1
    else if c = 60 then (if (t ++ m).head? = some c then mark (pre ++ (c :: t ++ m)) pre.length 2 else hex (pre ++ (c :: t ++ m)) pre.length)
    else if c = 62 then (if (t ++ m).head? = some c then mark (pre ++ (c :: t ++ m)) pre.length 2 else refused 3)
    else if c = 47 then name (pre ++ (c :: t ++ m)) pre.length
    else if c = 40 then text (pre ++ (c :: t ++ m)) pre.length
    else if c = 41 then refused 3
    else word (pre ++ (c :: t ++ m)) pre.length := by rw [token, hd]
  rw [hTu] at hT
  rw [hTS]
  have cutS : ∀ n : Nat, n ≤ (c :: t).length → cut (pre ++ (c :: t ++ m)) pre.length (pre.length + n) = (c :: t).take n := by
    intro n hn
    unfold cut
    rw [hd, Nat.add_sub_cancel_left]
    show ((c :: t) ++ m).take n = _
    rw [List.take_append_of_le_length hn]
  have mk : ∀ n : Nat, mark (c :: t) 0 n = (x, 0) → mark (pre ++ (c :: t ++ m)) pre.length n = ({ x with a := pre.length, t := pre.length + (c :: t).length }, 0) := by
    intro n hn
    unfold mark at hn ⊢
    have hx := (Prod.ext_iff.1 hn).1
    simp only at hx
    have hn' : n = (c :: t).length := by rw [← hx] at hL; simp only at hL; omega
    rw [cutS n (by omega), ← hx]
    unfold cut
    rw [List.drop_zero]
    simp only [Prod.mk.injEq, Tok.mk.injEq, and_true, true_and]
    refine ⟨by omega, ?_⟩
    congr 1
    omega
  by_cases g0 : c = 91 ∨ c = 93 ∨ c = 123 ∨ c = 125
  · rw [if_pos g0] at hT ⊢
    exact mk 1 hT
  rw [if_neg g0] at hT ⊢
  by_cases g1 : c = 60
  · rw [if_pos g1] at hT ⊢
    by_cases g : t.head? = some c
    · rw [if_pos g] at hT
      have htn : t ≠ [] := by intro e; rw [e] at g; cases g
      rw [if_pos (by rw [head_app htn]; exact g)]
      exact mk 2 hT
    · rw [if_neg g] at hT
      unfold hex at hT
      rw [show (c :: t).drop (0 + 1) = t from rfl] at hT
      cases hx : hexF (-1) t with
      | inr e => rw [hx] at hT; simp only [refused] at hT; have := (Prod.ext_iff.1 hT).1; simp only at this; rw [← this] at hk; exact absurd rfl hk
      | inl r =>
        rw [hx] at hT
        simp only at hT
        have htn : t ≠ [] := by intro e; subst e; rw [hexF] at hx; cases hx
        rw [if_neg (by rw [head_app htn]; exact g)]
        unfold hex
        rw [hd1, hexF_ext t _ r m hx]
        simp only
        have ht := told_ok (by rw [hT])
        rw [ht] at hT
        have hx' := (Prod.ext_iff.1 hT).1
        simp only at hx'
        unfold told at ht ⊢
        by_cases hl : (32767 : Int) < (r.1.length : Int)
        · rw [if_pos hl] at ht; cases ht
        · rw [if_neg hl, ← hx']
          rw [← hx'] at hL
          simp only at hL
          simp only [Prod.mk.injEq, Tok.mk.injEq, and_true, true_and]
          omega
  rw [if_neg g1] at hT ⊢
  by_cases g2 : c = 62
  · rw [if_pos g2] at hT ⊢
    by_cases g : t.head? = some c
    · rw [if_pos g] at hT
      have htn : t ≠ [] := by intro e; rw [e] at g; cases g
      rw [if_pos (by rw [head_app htn]; exact g)]
      exact mk 2 hT
    · rw [if_neg g] at hT
      simp only [refused] at hT; have := (Prod.ext_iff.1 hT).1; simp only at this; rw [← this] at hk; exact absurd rfl hk
  rw [if_neg g2] at hT ⊢
  by_cases g3 : c = 47
  · rw [if_pos g3] at hT ⊢
    unfold name at hT ⊢
    have hru : run (c :: t) (0 + 1) = 1 + runF t := rfl
    rw [hru] at hT
    have hrS : run (pre ++ (c :: t ++ m)) (pre.length + 1) = pre.length + 1 + runF (t ++ m) := by unfold run; rw [hd1]
    cases hx : nameF (cut (c :: t) (0 + 1) (1 + runF t)) with
    | none => rw [hx] at hT; simp only [refused] at hT; have := (Prod.ext_iff.1 hT).1; simp only at this; rw [← this] at hk; exact absurd rfl hk
    | some y =>
      rw [hx] at hT
      simp only at hT
      have ht := told_ok (by rw [hT])
      rw [ht] at hT
      have hx' := (Prod.ext_iff.1 hT).1
      simp only at hx'
      have hrl : runF t = t.length := by rw [← hx'] at hL; simp only [List.length_cons] at hL; omega
      have hall := runF_all hrl
      have hst : stops m := by
        refine hm ?_
        cases t with
        | nil => rw [g3]; decide
        | cons d t =>
          have : Pl.lastC (c :: d :: t) = Pl.lastC (d :: t) := Pl.lastC_append [c] (d :: t) (by simp)
          rw [this, lastC_all (by simp) hall]; rfl
      rw [hrS, runF_stop t m hall hst]
      have hc2 : cut (pre ++ (c :: t ++ m)) (pre.length + 1) (pre.length + 1 + t.length) = t := by
        unfold cut
        rw [hd1, Nat.add_sub_cancel_left, List.take_left]
      have hc1 : cut (c :: t) (0 + 1) (1 + runF t) = t := by
        unfold cut
        rw [hrl, show 1 + t.length - (0 + 1) = t.length by omega]
        exact List.take_length
      rw [hc1] at hx
      rw [hc2, hx]
      simp only
      unfold told at ht ⊢
      by_cases hl : (127 : Int) < (y.length : Int)
      · rw [if_pos hl] at ht; cases ht
      · rw [if_neg hl, ← hx']
        simp only [Prod.mk.injEq, Tok.mk.injEq, and_true, true_and, List.length_cons]
        omega
  rw [if_neg g3] at hT ⊢
  by_cases g4 : c = 40
  · rw [if_pos g4] at hT ⊢
    unfold text at hT
    rw [show (c :: t).drop (0 + 1) = t from rfl] at hT
    cases hx : textG 0 1 t with
    | none => rw [hx] at hT; simp only [refused] at hT; have := (Prod.ext_iff.1 hT).1; simp only at this; rw [← this] at hk; exact absurd rfl hk
    | some r =>
      rw [hx] at hT
      simp only at hT
      unfold text
      rw [hd1, textG_ext t _ _ r m hx]
      simp only
      have ht := told_ok (by rw [hT])
      rw [ht] at hT
      have hx' := (Prod.ext_iff.1 hT).1
      simp only at hx'
      unfold told at ht ⊢
      by_cases hl : (32767 : Int) < (r.1.length : Int)
      · rw [if_pos hl] at ht; cases ht
      · rw [if_neg hl, ← hx']
        rw [← hx'] at hL
        simp only at hL
        simp only [Prod.mk.injEq, Tok.mk.injEq, and_true, true_and]
        omega
  rw [if_neg g4] at hT ⊢
  by_cases g5 : c = 41
  · rw [if_pos g5] at hT
    simp only [refused] at hT; have := (Prod.ext_iff.1 hT).1; simp only at this; rw [← this] at hk; exact absurd rfl hk
  rw [if_neg g5] at hT ⊢
  unfold word at hT ⊢
  have hwk := wordT_ok (by rw [hT])
  have hru : run (c :: t) 0 = runF (c :: t) := by unfold run; rw [List.drop_zero, Nat.zero_add]
  rw [hru] at hT hwk
  have hrl : runF (c :: t) = (c :: t).length := by
    have := hwk.2.2
    rw [hT] at this
    simp only at this
    omega
  have hall := runF_all hrl
  have hst : stops m := hm (by rw [lastC_all (by simp) hall]; rfl)
  have hrS : run (pre ++ (c :: t ++ m)) pre.length = pre.length + (c :: t).length := by
    unfold run
    rw [hd]
    show _ + runF ((c :: t) ++ m) = _
    rw [runF_stop _ _ hall hst]
  rw [hrl, cut_full] at hT
  rw [hrS, cutS _ (Nat.le_refl _), List.take_length]
  rw [wordT_move (by rw [hT]) (pre.length : Int) ((pre.length + (c :: t).length : Nat) : Int), hT]
  simp only [Prod.mk.injEq, Tok.mk.injEq, and_true, true_and]
  omega
/- JOINS -/
end Lx
end Go.Proofs.YtjajlcacbbnodaaGreatDoor
/- Plain mathematics of layer 17: places of parts, file headers, file ends; no program in sight. -/
namespace Go.Proofs.YtjajlcacbbnodaaGreatDoor
set_option linter.unusedVariables false
set_option linter.unusedSimpArgs false
set_option linter.defProp false
open Go
namespace Hd
open Oc Lx
/- PLACES -/
def last (s p : List UInt8) : Int := if p = [] then -1 else Lib.lastIndex s p
/- HEADERS -/
def mark : List UInt8 := [37, 80, 68, 70, 45]
def startx : List UInt8 := [115, 116, 97, 114, 116, 120, 114, 101, 102]
def eof : List UInt8 := [37, 37, 69, 79, 70]
def headTail : List UInt8 := [10, 37, 226, 227, 207, 211, 10]
def text (m : Int) : List UInt8 × Int := if m < 0 ∨ 9 < m then ([], 2) else (mark ++ [49, 46] ++ [UInt8.ofNat (48 + m.toNat)] ++ headTail, 0)
def start (s : List UInt8) : Int × Int :=
  if last s startx < 0 then (0, 18)
  else if (next s (last s startx + 9)).2 ≠ 0 ∨ (next s (last s startx + 9)).1.k ≠ 1 ∨ (next s (last s startx + 9)).1.n < 0 ∨ (s.length : Int) ≤ (next s (last s startx + 9)).1.n then (0, 18)
  else ((next s (last s startx + 9)).1.n, 0)
def tail (n : Int) : List UInt8 := if n < 0 ∨ 2147483647 < n then [] else startx ++ [10] ++ Lib.itoa n ++ [10] ++ eof ++ [10]
/- ENDS -/
end Hd
end Go.Proofs.YtjajlcacbbnodaaGreatDoor
/- Plain mathematics of layer 17: written headers and tails are read back; ends of a concatenation. -/
namespace Go.Proofs.YtjajlcacbbnodaaGreatDoor
set_option linter.unusedVariables false
set_option linter.unusedSimpArgs false
set_option linter.defProp false
open Go
namespace Hd
open Oc Lx
/- BACK -/
/- CONCATENATIONS -/
theorem last_get {s : List UInt8} (h : s.getLast? = some 10) : 0 < s.length ∧ s[s.length - 1]? = some 10 := by
  rw [List.getLast?_eq_getElem?] at h
  exact ⟨by cases s with | nil => simp at h | cons => simp, h⟩
/- THEY RISE -/
end Hd
end Go.Proofs.YtjajlcacbbnodaaGreatDoor
/- Plain mathematics of layer 55: steps, their lines; no program in sight. -/
namespace Go.Proofs.YtjajlcacbbnodaaGreatDoor
set_option linter.unusedVariables false
set_option linter.unusedSimpArgs false
set_option linter.defProp false
open Go
namespace Sc
open Lx
structure Step where
  k : Int
  a : Int
  b : Int
  s : List UInt8
  t : List UInt8
 deriving DecidableEq
def none' : Step := ⟨0, 0, 0, [], []⟩
def words : List (List UInt8) := [[111, 112, 101, 110], [110, 101, 119], [112, 117, 116], [100, 114, 111, 112], [105, 110, 115, 101, 114, 116], [114, 101, 109, 111, 118, 101], [109, 111, 118, 101], [110, 97, 109, 101], [102, 105, 108, 108], [99, 108, 101, 97, 110], [115, 97, 118, 101], [114, 101, 111, 112, 101, 110], [116, 101, 120, 116], [102, 105, 110, 100], [99, 111, 117, 110, 116], [111, 98, 106, 101, 99, 116], [97, 117, 100, 105, 116], [115, 112, 111, 105, 108], [111, 117, 116, 108, 105, 110, 101], [102, 105, 101, 108, 100, 115], [99, 111, 110, 116, 101, 110, 116, 115]]
def usesL : List (List UInt8) := [[83], [65], [65, 83], [65], [65, 83], [65], [65, 66], [83, 65], [83, 84], [], [65], [], [65], [83], [], [65], [], [65, 66], [], [], [65]]
def uses (k : Int) : Option (List UInt8) := if 1 ≤ k ∧ k ≤ 21 then usesL[k.toNat - 1]? else none
def check (x : Step) : Int :=
  match uses x.k with
  | none => 10
  | some u => if (65 ∉ u ∧ x.a ≠ 0) ∨ (66 ∉ u ∧ x.b ≠ 0) ∨ (83 ∉ u ∧ x.s ≠ []) ∨ (84 ∉ u ∧ x.t ≠ []) then 10
    else if x.a < 0 ∨ 2147483647 < x.a ∨ x.b < 0 ∨ 2147483647 < x.b then 2
    else if 32767 < x.s.length ∨ 32767 < x.t.length then 5 else 0
def field (x : Step) (c : UInt8) : List UInt8 :=
  if c = 65 then Lib.itoa x.a else if c = 66 then Lib.itoa x.b else if c = 83 then Pl.str x.s else if c = 84 then Pl.str x.t else []
def fields (x : Step) (u : List UInt8) : List UInt8 := u.flatMap fun c => 32 :: field x c
def word (k : Int) : List UInt8 := words.getD (k.toNat - 1) []
def lineT (x : Step) : List UInt8 := word x.k ++ fields x ((uses x.k).getD [])
def line (x : Step) : List UInt8 × Int := if check x ≠ 0 then ([], check x) else if 65535 < (lineT x).length then ([], 5) else (lineT x, 0)
/- THE PROGRAM'S WAY BACK -/
def head (l : List UInt8) : List UInt8 := l.takeWhile fun c => c != 32
def kind (w : List UInt8) : Option Int := if words.idxOf w < 21 then some (words.idxOf w + 1) else none
def put (x : Step) (c : UInt8) (n : Int) (s : List UInt8) : Step :=
  if c = 65 then { x with a := n } else if c = 66 then { x with b := n } else if c = 83 then { x with s := s } else if c = 84 then { x with t := s } else x
def want (c : UInt8) : Int := if c = 65 ∨ c = 66 then 1 else 3
def takes (l : List UInt8) : List UInt8 → Step → Int → Option Step
  | [], x, _ => some x
  | c :: u, x, at_ =>
    if (next l at_).2 ≠ 0 then none
    else if (next l at_).1.k ≠ want c then none
    else takes l u (put x c (next l at_).1.n (next l at_).1.s) (next l at_).1.t
def parse (l : List UInt8) : Step × Int :=
  if 65535 < l.length then (none', 5) else
  match kind (head l) with
  | none => (none', 33)
  | some k => match takes l ((uses k).getD []) ⟨k, 0, 0, [], []⟩ (head l).length with
    | none => (none', 33)
    | some x => if line x = (l, 0) then (x, 0) else (none', 33)
theorem uses_some {k : Int} (h1 : 1 ≤ k) (h2 : k ≤ 21) : uses k = some (usesL.getD (k.toNat - 1) []) := by
  have hl : usesL.length = 21 := rfl
  rw [uses, if_pos ⟨h1, h2⟩, List.getD_eq_getElem?_getD, List.getElem?_eq_getElem (by omega)]; rfl
theorem uses_in {k : Int} {u : List UInt8} (h : uses k = some u) : 1 ≤ k ∧ k ≤ 21 := by
  unfold uses at h
  split at h
  · assumption
  · cases h
theorem uses_chars : ∀ i : Fin 21, ∀ c ∈ usesL.getD i.val [], c = 65 ∨ c = 66 ∨ c = 83 ∨ c = 84 := by decide
theorem words_no32 : ∀ i : Fin 21, (32 : UInt8) ∉ words.getD i.val [] := by decide
theorem words_idx : ∀ i : Fin 21, words.idxOf (words.getD i.val []) = i.val := by decide
theorem single_int {n : Int} (h0 : 0 ≤ n) (h1 : n ≤ 2147483647) : Single (Lib.itoa n) ⟨1, 0, (Lib.itoa n).length, n, []⟩ :=
  ⟨itoa_next (by omega) h1, by simp, rfl, rfl⟩
theorem single_str {l : List UInt8} (h : l.length ≤ 32767) : Single (Pl.str l) ⟨3, 0, (Pl.str l).length, 0, l⟩ :=
  ⟨str_next h, by simp, rfl, rfl⟩
/-- The next token behind a space. -/
theorem next_at (pre u m : List UInt8) (x : Tok) (h : Single u x) (hm : m = [] ∨ ∃ t, m = 32 :: t) :
    next (pre ++ (32 :: (u ++ m))) pre.length = ({ x with a := pre.length + 1, t := pre.length + 1 + u.length }, 0) := by
  obtain ⟨c, t, hu, h37, hw, _⟩ := single_head h
  have hst : stops m := by
    rcases hm with rfl | ⟨t, rfl⟩
    · intro c t h; cases h
    · intro c t h; injection h with h _; subst h; decide
  have hT := token_ext (pre ++ [32]) m h (fun _ => hst)
  have e : pre ++ [32] ++ (u ++ m) = pre ++ (32 :: (u ++ m)) := by simp
  rw [e, List.length_append, List.length_singleton] at hT
  have hsk : skip (pre ++ (32 :: (u ++ m))) pre.length = pre.length + 1 := by
    unfold skip
    rw [List.drop_left, hu, List.cons_append, skipF, if_neg (by decide), if_pos (by decide), skipF, if_neg h37, if_neg (by rw [hw]; decide)]
  unfold next
  rw [if_neg (by simp; omega), Int.toNat_natCast, hsk, hT]
  simp
theorem fields_head (x : Step) (u : List UInt8) : fields x u = [] ∨ ∃ t, fields x u = 32 :: t := by
  cases u with
  | nil => left; rfl
  | cons c u => right; exact ⟨_, rfl⟩
theorem fields_cons (x : Step) (c : UInt8) (u : List UInt8) : fields x (c :: u) = 32 :: (field x c ++ fields x u) := by simp [fields]
theorem field_single (x : Step) (h : check x = 0) (c : UInt8) (hc : c = 65 ∨ c = 66 ∨ c = 83 ∨ c = 84) :
    ∃ y, Single (field x c) y ∧ y.k = want c ∧ ∀ z, put z c y.n y.s = (if c = 65 then { z with a := x.a } else if c = 66 then { z with b := x.b } else if c = 83 then { z with s := x.s } else { z with t := x.t }) := by
  unfold check at h
  split at h
  · omega
  · rename_i u hu
    split at h
    · omega
    split at h
    · omega
    split at h
    · omega
    rename_i h1 h2 h3
    rcases hc with rfl | rfl | rfl | rfl
    · exact ⟨_, single_int (by omega) (by omega), rfl, fun z => rfl⟩
    · exact ⟨_, single_int (by omega) (by omega), rfl, fun z => rfl⟩
    · exact ⟨_, single_str (by omega), rfl, fun z => rfl⟩
    · exact ⟨_, single_str (by omega), rfl, fun z => rfl⟩
def puts (x : Step) : List UInt8 → Step → Step
  | [], z => z
  | c :: u, z => puts x u (if c = 65 then { z with a := x.a } else if c = 66 then { z with b := x.b } else if c = 83 then { z with s := x.s } else { z with t := x.t })
theorem takes_back (x : Step) (h : check x = 0) : ∀ (u pre : List UInt8) (z : Step), (∀ c ∈ u, c = 65 ∨ c = 66 ∨ c = 83 ∨ c = 84) →
    takes (pre ++ fields x u) u z pre.length = some (puts x u z)
  | [], pre, z, _ => rfl
  | c :: u, pre, z, hu => by
    obtain ⟨y, hy, hk, hp⟩ := field_single x h c (hu c (List.mem_cons_self ..))
    have hn := next_at pre (field x c) (fields x u) y hy (fields_head x u)
    rw [← fields_cons] at hn
    rw [takes, hn]
    simp only
    rw [if_neg (by simp), if_neg (by simp [hk]), hp]
    have ih := takes_back x h u (pre ++ (32 :: field x c)) (if c = 65 then { z with a := x.a } else if c = 66 then { z with b := x.b } else if c = 83 then { z with s := x.s } else { z with t := x.t }) (fun d hd => hu d (List.mem_cons_of_mem _ hd))
    have e : pre ++ (32 :: field x c) ++ fields x u = pre ++ fields x (c :: u) := by rw [fields_cons]; simp
    rw [e] at ih
    rw [puts, ← ih]
    congr 1
    simp; omega
theorem check_zero {x : Step} (h : check x = 0) : ∃ u, uses x.k = some u ∧ 1 ≤ x.k ∧ x.k ≤ 21 ∧ (65 ∉ u → x.a = 0) ∧ (66 ∉ u → x.b = 0) ∧ (83 ∉ u → x.s = []) ∧ (84 ∉ u → x.t = []) ∧
    0 ≤ x.a ∧ x.a ≤ 2147483647 ∧ 0 ≤ x.b ∧ x.b ≤ 2147483647 ∧ x.s.length ≤ 32767 ∧ x.t.length ≤ 32767 := by
  unfold check at h
  split at h
  · omega
  · rename_i u hu
    split at h
    · omega
    split at h
    · omega
    split at h
    · omega
    rename_i h1 h2 h3
    have hi := uses_in hu
    refine ⟨u, hu, hi.1, hi.2, ?_, ?_, ?_, ?_, by omega, by omega, by omega, by omega, by omega, by omega⟩
    · intro hm; exact Classical.byContradiction fun g => h1 (.inl ⟨hm, g⟩)
    · intro hm; exact Classical.byContradiction fun g => h1 (.inr (.inl ⟨hm, g⟩))
    · intro hm; exact Classical.byContradiction fun g => h1 (.inr (.inr (.inl ⟨hm, g⟩)))
    · intro hm; exact Classical.byContradiction fun g => h1 (.inr (.inr (.inr ⟨hm, g⟩)))
theorem puts_eq (x : Step) : ∀ (u : List UInt8) (z : Step), (∀ c ∈ u, c = 65 ∨ c = 66 ∨ c = 83 ∨ c = 84) →
    puts x u z = ⟨z.k, if 65 ∈ u then x.a else z.a, if 66 ∈ u then x.b else z.b, if 83 ∈ u then x.s else z.s, if 84 ∈ u then x.t else z.t⟩
  | [], z, _ => by simp [puts]
  | c :: u, z, h => by
    rw [puts, puts_eq x u _ (fun d hd => h d (List.mem_cons_of_mem _ hd))]
    rcases h c (List.mem_cons_self ..) with rfl | rfl | rfl | rfl <;> simp
theorem puts_all (x : Step) {u : List UInt8} (h : check x = 0) (hu : uses x.k = some u) (hc : ∀ c ∈ u, c = 65 ∨ c = 66 ∨ c = 83 ∨ c = 84) : puts x u ⟨x.k, 0, 0, [], []⟩ = x := by
  obtain ⟨u', hu', _, _, ha, hb, hs, ht, _⟩ := check_zero h
  obtain rfl : u' = u := Option.some.inj (hu'.symm.trans hu)
  rw [puts_eq x u' _ hc]
  obtain ⟨k, a, b, s, t⟩ := x
  simp only [Step.mk.injEq, true_and]
  refine ⟨?_, ?_, ?_, ?_⟩
  · split
    · rfl
    · exact (ha (by assumption)).symm
  · split
    · rfl
    · exact (hb (by assumption)).symm
  · split
    · rfl
    · exact (hs (by assumption)).symm
  · split
    · rfl
    · exact (ht (by assumption)).symm
theorem uses_ok {k : Int} {u : List UInt8} (h : uses k = some u) : ∀ c ∈ u, c = 65 ∨ c = 66 ∨ c = 83 ∨ c = 84 := by
  obtain ⟨h1, h2⟩ := uses_in h
  rw [uses_some h1 h2] at h
  obtain rfl := Option.some.inj h
  exact uses_chars ⟨k.toNat - 1, by omega⟩
theorem takeWhile_stop {p : UInt8 → Bool} : ∀ (w r : List UInt8), (∀ c ∈ w, p c = true) → (r = [] ∨ ∃ d t, r = d :: t ∧ p d = false) → (w ++ r).takeWhile p = w
  | [], r, _, h => by
    rcases h with rfl | ⟨d, t, rfl, hd⟩
    · rfl
    · simp [List.takeWhile, hd]
  | c :: w, r, hw, h => by
    rw [List.cons_append, List.takeWhile_cons, if_pos (hw c (List.mem_cons_self ..)), takeWhile_stop w r (fun d hd => hw d (List.mem_cons_of_mem _ hd)) h]
theorem head_line (x : Step) (h1 : 1 ≤ x.k) (h2 : x.k ≤ 21) : head (lineT x) = word x.k := by
  unfold head lineT
  refine takeWhile_stop _ _ ?_ ?_
  · intro c hc
    have := words_no32 ⟨x.k.toNat - 1, by omega⟩
    simp only [bne_iff_ne, ne_eq]
    rintro rfl
    exact this hc
  · rcases fields_head x ((uses x.k).getD []) with e | ⟨t, e⟩
    · exact .inl e
    · exact .inr ⟨32, t, e, by decide⟩
theorem kind_word {k : Int} (h1 : 1 ≤ k) (h2 : k ≤ 21) : kind (word k) = some k := by
  have := words_idx ⟨k.toNat - 1, by omega⟩
  unfold kind word
  simp only at this
  rw [this, if_pos (by omega)]
  congr 1
  omega
theorem line_zero {x : Step} {l : List UInt8} (h : line x = (l, 0)) : check x = 0 ∧ l = lineT x ∧ l.length ≤ 65535 := by
  unfold line at h
  split at h
  · rename_i hc
    injection h with _ h2
    exact absurd h2 hc
  split at h
  · injection h with _ h2; omega
  · rename_i h1 h2
    injection h with h3 _
    subst h3
    exact ⟨by omega, rfl, by omega⟩
theorem parse_back {x : Step} {l : List UInt8} (h : line x = (l, 0)) : parse l = (x, 0) := by
  obtain ⟨hc, hl, hn⟩ := line_zero h
  obtain ⟨u, hu, h1, h2, _⟩ := check_zero hc
  unfold parse
  rw [if_neg (by omega)]
  have hh : head l = word x.k := by rw [hl]; exact head_line x h1 h2
  rw [hh, kind_word h1 h2]
  simp only
  rw [hu, Option.getD_some]
  have ht := takes_back x hc u (word x.k) ⟨x.k, 0, 0, [], []⟩ (uses_ok hu)
  have e : word x.k ++ fields x u = l := by rw [hl, lineT, hu, Option.getD_some]
  rw [e, puts_all x hc hu (uses_ok hu)] at ht
  rw [ht]
  simp only
  rw [if_pos h]
theorem parse_spec (l : List UInt8) : (∃ x, line x = (l, 0) ∧ parse l = (x, 0)) ∨ ((∀ x, line x ≠ (l, 0)) ∧ parse l = (none', if 65535 < l.length then 5 else 33)) := by
  by_cases h : ∃ x, line x = (l, 0)
  · obtain ⟨x, hx⟩ := h
    exact .inl ⟨x, hx, parse_back hx⟩
  · have hn : ∀ x, line x ≠ (l, 0) := fun x hx => h ⟨x, hx⟩
    refine .inr ⟨hn, ?_⟩
    unfold parse
    split
    · rfl
    · split
      · rfl
      · split
        · rfl
        · rw [if_neg (hn _)]
end Sc
end Go.Proofs.YtjajlcacbbnodaaGreatDoor
/- The engine's rules for guarded operations whose guard is not known: values, without a split of the ways. -/
namespace Go.Proofs.YtjajlcacbbnodaaGreatDoor
set_option linter.unusedVariables false
set_option linter.unusedSimpArgs false
set_option linter.defProp false
set_option linter.unusedSimpArgs false
set_option linter.unusedVariables false
namespace Eng
open Go.RowKit

/-- x where c holds. -/
def sel (c : Bool) (x : Value) : Value := bc c x undef
theorem sel_t {x : Value} : sel true x = x := rfl
theorem sel_f {x : Value} : sel false x = undef := rfl
section
variable {P : Program} {w : World} {PK : List PanicEntry → World → Prop} {K : Value → World → Prop}
theorem g_move {v x : Value} {want : Bool} : GDo v want (fun E => E x w) w K = K (sel (wants v want) x) w := by
  refine propext ⟨fun h => ?_, fun h => ⟨?_⟩⟩
  · have := h.out
    cases hw : wants v want <;> rw [hw] at this <;> exact this
  · cases hw : wants v want <;> rw [hw] at h <;> exact h
theorem g_congr {v v' : Value} {want c : Bool} {E E' : (Value → World → Prop) → Prop} (hv : v = v') (hc : wants v' want = c) (h : c = true → ∀ K0, E K0 = E' K0) : GDo v want E w K = GDo v' want E' w K := by
  subst hv
  refine propext ⟨fun x => ⟨?_⟩, fun x => ⟨?_⟩⟩
  · have := x.out
    subst hc
    cases hw : wants v want with
    | false => rw [hw] at this; exact this
    | true => rw [hw, bc_true] at this; rw [bc_true, ← h hw]; exact this
  · have := x.out
    subst hc
    cases hw : wants v want with
    | false => rw [hw] at this; exact this
    | true => rw [hw, bc_true] at this; rw [bc_true, h hw]; exact this
theorem wants_t {b : Bool} : wants (.bool b) true = b := by cases b <;> rfl
theorem wants_f {b : Bool} : wants (.bool b) false = !b := by cases b <;> rfl
theorem wants_st {c y : Bool} : wants (sel c (.bool y)) true = (c && y) := by cases c <;> cases y <;> rfl
theorem wants_sf {c y : Bool} : wants (sel c (.bool y)) false = (c && !y) := by cases c <;> cases y <;> rfl
theorem b_tand {b : Bool} : (true && b) = b := rfl
theorem b_andt {b : Bool} : (b && true) = b := by cases b <;> rfl
theorem pick_and {b y : Bool} : DoX P (mPick (.bool b) (sel b (.bool y)) (.bool false)) w PK K = K (.bool (b && y)) w := by
  rw [p_pick]; cases b <;> rfl
theorem pick_or {b y : Bool} : DoX P (mPick (.bool b) (.bool true) (sel (!b) (.bool y))) w PK K = K (.bool (b || y)) w := by
  rw [p_pick]; cases b <;> rfl
end
/-- For 'simp only [rs, gs]' with 'attribute [local congr] g_congr'. -/
def gs := And.intro @g_move (And.intro @wants_t (And.intro @wants_f (And.intro @pick_and (And.intro @pick_or (And.intro @sel_t (And.intro @sel_f (And.intro @wants_st (And.intro @wants_sf (And.intro @b_tand @b_andt)))))))))
end Eng
end Go.Proofs.YtjajlcacbbnodaaGreatDoor
/- Code in continuation form, by program (gen.py): 6 functions. -/
namespace Go.Proofs.YtjajlcacbbnodaaGreatDoor
set_option linter.unusedVariables false
set_option linter.unusedSimpArgs false
set_option linter.defProp false
set_option linter.unusedVariables false
set_option maxRecDepth 20000
open Eng

/- octet.Digit -/
def S_octet_Digit (t0 : Value) (w : World) (K : Ending → World → Prop) : Prop :=
 DoX Tryz.prog (mBin .geq 5 t0 (.int .u8 48)) w (pk K) fun t5 w =>
 GDo t5 true (fun E => E t0 w) w fun t7 w =>
 GDo t5 true (fun E => DoX Tryz.prog (mBin .leq 5 t7 (.int .u8 57)) w (pk K) E) w fun t8 w =>
 DoX Tryz.prog (mPick t5 t8 (.bool false)) w (pk K) fun t9 w =>
 IfX t9 (DoX Tryz.prog (mBin .sub 5 t0 (.int .u8 48)) w (pk K) fun t11 w =>
 DoX Tryz.prog (mConv 5 3 t11) w (pk K) fun t12 w =>
 K (.returned t12) w) (DoX Tryz.prog (mBin .geq 5 t0 (.int .u8 65)) w (pk K) fun t15 w =>
 GDo t15 true (fun E => E t0 w) w fun t17 w =>
 GDo t15 true (fun E => DoX Tryz.prog (mBin .leq 5 t17 (.int .u8 70)) w (pk K) E) w fun t18 w =>
 DoX Tryz.prog (mPick t15 t18 (.bool false)) w (pk K) fun t19 w =>
 IfX t19 (DoX Tryz.prog (mBin .sub 5 t0 (.int .u8 65)) w (pk K) fun t21 w =>
 DoX Tryz.prog (mConv 5 3 t21) w (pk K) fun t22 w =>
 DoX Tryz.prog (mBin .add 3 t22 (.int .i64 10)) w (pk K) fun t23 w =>
 K (.returned t23) w) (DoX Tryz.prog (mBin .geq 5 t0 (.int .u8 97)) w (pk K) fun t26 w =>
 GDo t26 true (fun E => E t0 w) w fun t28 w =>
 GDo t26 true (fun E => DoX Tryz.prog (mBin .leq 5 t28 (.int .u8 102)) w (pk K) E) w fun t29 w =>
 DoX Tryz.prog (mPick t26 t29 (.bool false)) w (pk K) fun t30 w =>
 IfX t30 (DoX Tryz.prog (mBin .sub 5 t0 (.int .u8 97)) w (pk K) fun t32 w =>
 DoX Tryz.prog (mConv 5 3 t32) w (pk K) fun t33 w =>
 DoX Tryz.prog (mBin .add 3 t33 (.int .i64 10)) w (pk K) fun t34 w =>
 K (.returned t34) w) (K (.returned (.int .i64 (-1))) w)))
theorem S_octet_Digit_eq (t0 : Value) (w : World) (K : Ending → World → Prop) : wpX Tryz.prog 35 [] [] none (bodyOf Tryz.f233) (topQ Tryz.prog [.tmp 2] K) (startX [t0]) [] w = S_octet_Digit t0 w K := by kernel_rfl
theorem S_octet_Digit_ok {t0 : Value} {w : World} {K : Ending → World → Prop} (h : S_octet_Digit t0 w K) : Calls Tryz.prog 233 #[t0] w K :=
  calls_of_wpX Tryz.func233 rfl rfl rfl rfl (Eq.mpr (S_octet_Digit_eq t0 w K) h)

/- octet.Unhex -/
def S_octet_Unhex_0 (t0 t4 t5 : Value) (w : World) (N1 : List Value → World → Prop) (K : Ending → World → Prop) : Prop :=
 DoX Tryz.prog (mB .len #[9] 3 #[false] #[t0]) w (pk K) fun t18 w =>
 DoX Tryz.prog (mBin .lss 3 t5 t18) w (pk K) fun t19 w =>
 IfX t19 (QuietX w (fun C2 =>
 QDo Tryz.prog C2 (mIx 9 t0 t5) fun t24 =>
 QCall Tryz.prog C2 233 #[t24] fun t25 =>
 QDo Tryz.prog C2 (mBin .add 3 t5 (.int .i64 1)) fun t28 =>
 QDo Tryz.prog C2 (mIx 9 t0 t28) fun t29 =>
 QCall Tryz.prog C2 233 #[t29] fun t30 =>
 ∀ w, C2 w →
 DoX Tryz.prog (mBin .lss 3 t25 (.int .i64 0)) w (pk K) fun t32 w =>
 GDo t32 false (fun E => E t30 w) w fun t34 w =>
 GDo t32 false (fun E => DoX Tryz.prog (mBin .lss 3 t34 (.int .i64 0)) w (pk K) E) w fun t35 w =>
 DoX Tryz.prog (mPick t32 (.bool true) t35) w (pk K) fun t36 w =>
 IfX t36 (K (.returned (.tuple #[(.string ⟨#[]⟩), (.int .i64 3)])) w) (DoX Tryz.prog (mBin .shl 3 t25 (.int .u64 4)) w (pk K) fun t39 w =>
 DoX Tryz.prog (mBin .or 3 t39 t30) w (pk K) fun t41 w =>
 DoX Tryz.prog (mConv 3 5 t41) w (pk K) fun t42 w =>
 DoX Tryz.prog (mBuildS 91 1 #[(0, t42)]) w (pk K) fun t43 w =>
 DoX Tryz.prog (mB .append #[91, 91] 91 #[false, false] #[t4, t43]) w (pk K) fun t44 w =>
 DoX Tryz.prog (mBin .add 3 t5 (.int .i64 2)) w (pk K) fun t21 w =>
 N1 [t44, t21] w))) (DoX Tryz.prog (mConv 91 9 t4) w (pk K) fun t46 w =>
 K (.returned (.tuple #[t46, (.int .i64 0)])) w)
def S_octet_Unhex (t0 : Value) (w : World) (K : Ending → World → Prop) : Prop :=
 DoX Tryz.prog (mB .len #[9] 3 #[false] #[t0]) w (pk K) fun t9 w =>
 DoX Tryz.prog (mBin .rem 3 t9 (.int .i64 2)) w (pk K) fun t10 w =>
 DoX Tryz.prog (mEq .neq 3 (.tmp 10) (.const (.int .i64 0)) t10 (.int .i64 0)) w (pk K) fun t11 w =>
 IfX t11 (K (.returned (.tuple #[(.string ⟨#[]⟩), (.int .i64 3)])) w) (DoX Tryz.prog (mB .len #[9] 3 #[false] #[t0]) w (pk K) fun t13 w =>
 DoX Tryz.prog (mBin .quo 3 t13 (.int .i64 2)) w (pk K) fun t14 w =>
 DoX Tryz.prog (mMake 91 (.int .i64 0) t14) w (pk K) fun t15 w =>
 LoopX [t15, (.int .i64 0)] w (fun vs1 w N1 => ∀ _ : Sg, S_octet_Unhex_0 t0 (vs1.getD 0 undef) (vs1.getD 1 undef) w N1 K))
theorem S_octet_Unhex_eq (t0 : Value) (w : World) (K : Ending → World → Prop) : wpX Tryz.prog 47 [] [(5, [4, 5])] none (bodyOf Tryz.f235) (topQ Tryz.prog [.tmp 2, .tmp 3] K) (startX [t0]) [] w = S_octet_Unhex t0 w K := by kernel_rfl
theorem S_octet_Unhex_ok {t0 : Value} {w : World} {K : Ending → World → Prop} (h : S_octet_Unhex t0 w K) : Calls Tryz.prog 235 #[t0] w K :=
  calls_of_wpX Tryz.func235 rfl rfl rfl rfl (Eq.mpr (S_octet_Unhex_eq t0 w K) h)

/- octet.Begins -/
def S_octet_Begins (t0 t1 t2 : Value) (w : World) (K : Ending → World → Prop) : Prop :=
 DoX Tryz.prog (mBin .geq 3 t2 (.int .i64 0)) w (pk K) fun t8 w =>
 GDo t8 true (fun E => E t2 w) w fun t10 w =>
 GDo t8 true (fun E => E t0 w) w fun t11 w =>
 GDo t8 true (fun E => DoX Tryz.prog (mB .len #[9] 3 #[false] #[t11]) w (pk K) E) w fun t12 w =>
 GDo t8 true (fun E => DoX Tryz.prog (mBin .leq 3 t10 t12) w (pk K) E) w fun t13 w =>
 DoX Tryz.prog (mPick t8 t13 (.bool false)) w (pk K) fun t14 w =>
 GDo t14 true (fun E => E t0 w) w fun t16 w =>
 GDo t14 true (fun E => E t2 w) w fun t17 w =>
 GDo t14 true (fun E => DoX Tryz.prog (mSlice 9 t16 (some t17) none none) w (pk K) E) w fun t18 w =>
 GDo t14 true (fun E => E t1 w) w fun t19 w =>
 GDo t14 true (fun E => CallX Tryz.prog 202 #[t18, t19] w (pk K) E) w fun t20 w =>
 DoX Tryz.prog (mPick t14 t20 (.bool false)) w (pk K) fun t21 w =>
 K (.returned t21) w
theorem S_octet_Begins_eq (t0 t1 t2 : Value) (w : World) (K : Ending → World → Prop) : wpX Tryz.prog 22 [] [] none (bodyOf Tryz.f160) (topQ Tryz.prog [.tmp 6] K) (startX [t0, t1, t2]) [] w = S_octet_Begins t0 t1 t2 w K := by kernel_rfl
theorem S_octet_Begins_ok {t0 t1 t2 : Value} {w : World} {K : Ending → World → Prop} (h : S_octet_Begins t0 t1 t2 w K) : Calls Tryz.prog 160 #[t0, t1, t2] w K :=
  calls_of_wpX Tryz.func160 rfl rfl rfl rfl (Eq.mpr (S_octet_Begins_eq t0 t1 t2 w K) h)

/- octet.Skip -/
def S_octet_Skip_1 (t1 t5 : Value) (w : World) (N1 : List Value → World → Prop) (K : Ending → World → Prop) : Prop :=
 DoX Tryz.prog (mBin .add 3 t1 (.int .i64 1)) w (pk K) fun t21 w =>
 N1 [t21, t5] w
def S_octet_Skip_0 (t0 t1 t5 : Value) (w : World) (N1 : List Value → World → Prop) (K : Ending → World → Prop) : Prop :=
 DoX Tryz.prog (mB .len #[9] 3 #[false] #[t0]) w (pk K) fun t18 w =>
 DoX Tryz.prog (mBin .lss 3 t1 t18) w (pk K) fun t19 w =>
 IfX t19 (JoinX (fun J2 =>
 DoX Tryz.prog (mIx 9 t0 t1) w (pk K) fun t24 w =>
 IfX t5 (CallX Tryz.prog 231 #[t24] w (pk K) fun t28 w =>
 DoX Tryz.prog (mUn .not t28) w (pk K) fun t29 w =>
 J2 [t29] w) (DoX Tryz.prog (mEq .eql 5 (.tmp 31) (.const (.int .u8 37)) t24 (.int .u8 37)) w (pk K) fun t32 w =>
 IfX t32 (J2 [(.bool true)] w) (CallX Tryz.prog 211 #[t24] w (pk K) fun t35 w =>
 DoX Tryz.prog (mUn .not t35) w (pk K) fun t36 w =>
 IfX t36 (K (.returned t1) w) (J2 [t5] w)))) (fun vs2 w => ∀ _ : Sg, S_octet_Skip_1 t1 (vs2.getD 0 undef) w N1 K)) (DoX Tryz.prog (mB .len #[9] 3 #[false] #[t0]) w (pk K) fun t39 w =>
 K (.returned t39) w)
def S_octet_Skip (t0 t1 : Value) (w : World) (K : Ending → World → Prop) : Prop :=
 DoX Tryz.prog (mBin .lss 3 t1 (.int .i64 0)) w (pk K) fun t8 w =>
 GDo t8 false (fun E => E t1 w) w fun t10 w =>
 GDo t8 false (fun E => E t0 w) w fun t11 w =>
 GDo t8 false (fun E => DoX Tryz.prog (mB .len #[9] 3 #[false] #[t11]) w (pk K) E) w fun t12 w =>
 GDo t8 false (fun E => DoX Tryz.prog (mBin .gtr 3 t10 t12) w (pk K) E) w fun t13 w =>
 DoX Tryz.prog (mPick t8 (.bool true) t13) w (pk K) fun t14 w =>
 IfX t14 (K (.returned t1) w) (LoopX [t1, (.bool false)] w (fun vs1 w N1 => ∀ _ : Sg, S_octet_Skip_0 t0 (vs1.getD 0 undef) (vs1.getD 1 undef) w N1 K))
theorem S_octet_Skip_eq (t0 t1 : Value) (w : World) (K : Ending → World → Prop) : wpX Tryz.prog 40 [(5, [5])] [(4, [1, 5])] none (bodyOf Tryz.f159) (topQ Tryz.prog [.tmp 4] K) (startX [t0, t1]) [] w = S_octet_Skip t0 t1 w K := by kernel_rfl
theorem S_octet_Skip_ok {t0 t1 : Value} {w : World} {K : Ending → World → Prop} (h : S_octet_Skip t0 t1 w K) : Calls Tryz.prog 159 #[t0, t1] w K :=
  calls_of_wpX Tryz.func159 rfl rfl rfl rfl (Eq.mpr (S_octet_Skip_eq t0 t1 w K) h)

/- octet.Line -/
def S_octet_Line_0 (t0 t1 : Value) (w : World) (N1 : List Value → World → Prop) (K : Ending → World → Prop) : Prop :=
 DoX Tryz.prog (mB .len #[9] 3 #[false] #[t0]) w (pk K) fun t16 w =>
 DoX Tryz.prog (mBin .lss 3 t1 t16) w (pk K) fun t17 w =>
 IfX t17 (DoX Tryz.prog (mIx 9 t0 t1) w (pk K) fun t22 w =>
 DoX Tryz.prog (mEq .eql 5 (.tmp 22) (.const (.int .u8 10)) t22 (.int .u8 10)) w (pk K) fun t24 w =>
 IfX t24 (DoX Tryz.prog (mBin .add 3 t1 (.int .i64 1)) w (pk K) fun t26 w =>
 K (.returned t26) w) (DoX Tryz.prog (mEq .eql 5 (.tmp 22) (.const (.int .u8 13)) t22 (.int .u8 13)) w (pk K) fun t28 w =>
 IfX t28 (CallX Tryz.prog 160 #[t0, (.string ⟨#[13, 10]⟩), t1] w (pk K) fun t31 w =>
 IfX t31 (DoX Tryz.prog (mBin .add 3 t1 (.int .i64 2)) w (pk K) fun t33 w =>
 K (.returned t33) w) (DoX Tryz.prog (mBin .add 3 t1 (.int .i64 1)) w (pk K) fun t35 w =>
 K (.returned t35) w)) (DoX Tryz.prog (mBin .add 3 t1 (.int .i64 1)) w (pk K) fun t19 w =>
 N1 [t19] w))) (DoX Tryz.prog (mB .len #[9] 3 #[false] #[t0]) w (pk K) fun t37 w =>
 K (.returned t37) w)
def S_octet_Line (t0 t1 : Value) (w : World) (K : Ending → World → Prop) : Prop :=
 DoX Tryz.prog (mBin .lss 3 t1 (.int .i64 0)) w (pk K) fun t6 w =>
 GDo t6 false (fun E => E t1 w) w fun t8 w =>
 GDo t6 false (fun E => E t0 w) w fun t9 w =>
 GDo t6 false (fun E => DoX Tryz.prog (mB .len #[9] 3 #[false] #[t9]) w (pk K) E) w fun t10 w =>
 GDo t6 false (fun E => DoX Tryz.prog (mBin .gtr 3 t8 t10) w (pk K) E) w fun t11 w =>
 DoX Tryz.prog (mPick t6 (.bool true) t11) w (pk K) fun t12 w =>
 IfX t12 (K (.returned t1) w) (LoopX [t1] w (fun vs1 w N1 => ∀ _ : Sg, S_octet_Line_0 t0 (vs1.getD 0 undef) w N1 K))
theorem S_octet_Line_eq (t0 t1 : Value) (w : World) (K : Ending → World → Prop) : wpX Tryz.prog 38 [] [(3, [1])] none (bodyOf Tryz.f292) (topQ Tryz.prog [.tmp 4] K) (startX [t0, t1]) [] w = S_octet_Line t0 t1 w K := by kernel_rfl
theorem S_octet_Line_ok {t0 t1 : Value} {w : World} {K : Ending → World → Prop} (h : S_octet_Line t0 t1 w K) : Calls Tryz.prog 292 #[t0, t1] w K :=
  calls_of_wpX Tryz.func292 rfl rfl rfl rfl (Eq.mpr (S_octet_Line_eq t0 t1 w K) h)

/- octet.ends -/
def S_octet_ends (t0 : Value) (w : World) (K : Ending → World → Prop) : Prop :=
 DoX Tryz.prog (mEq .eql 5 (.tmp 3) (.const (.int .u8 13)) t0 (.int .u8 13)) w (pk K) fun t4 w =>
 GDo t4 false (fun E => E t0 w) w fun t6 w =>
 GDo t4 false (fun E => DoX Tryz.prog (mEq .eql 5 (.tmp 6) (.const (.int .u8 10)) t6 (.int .u8 10)) w (pk K) E) w fun t7 w =>
 DoX Tryz.prog (mPick t4 (.bool true) t7) w (pk K) fun t8 w =>
 K (.returned t8) w
theorem S_octet_ends_eq (t0 : Value) (w : World) (K : Ending → World → Prop) : wpX Tryz.prog 9 [] [] none (bodyOf Tryz.f231) (topQ Tryz.prog [.tmp 2] K) (startX [t0]) [] w = S_octet_ends t0 w K := by kernel_rfl
theorem S_octet_ends_ok {t0 : Value} {w : World} {K : Ending → World → Prop} (h : S_octet_ends t0 w K) : Calls Tryz.prog 231 #[t0] w K :=
  calls_of_wpX Tryz.func231 rfl rfl rfl rfl (Eq.mpr (S_octet_ends_eq t0 w K) h)

end Go.Proofs.YtjajlcacbbnodaaGreatDoor
/- Contracts: octet (ends, Begins, Line, Skip, Digit, Unhex) of the program. -/
namespace Go.Proofs.YtjajlcacbbnodaaGreatDoor
set_option linter.unusedVariables false
set_option linter.unusedSimpArgs false
set_option linter.defProp false
open Eng Go.RowKit

theorem ends_ret (c : UInt8) (w : World) : Ret Tryz.prog 231 #[.int .u8 c.toNat] w (fun v w' => v = .bool (Lx.eol c) ∧ w = w') := by
  refine ret_of fun K hK => S_octet_ends_ok ?_
  unfold S_octet_ends
  have e1 := u8d c 13 13 rfl
  have e2 := u8d c 10 10 rfl
  by_cases h1 : c = 13
  · simp only [rs, e1, decide_eq_true h1, g_un]
    exact hK _ _ ⟨by simp [Lx.eol, h1], rfl⟩
  simp only [rs, e1, decide_eq_false h1, g_un, e2]
  exact hK _ _ ⟨by simp [Lx.eol, h1], rfl⟩
def begins (s p : List UInt8) (k : Int) : Bool := decide (0 ≤ k) && decide (k ≤ (s.length : Int)) && p.isPrefixOf (s.drop k.toNat)
theorem begins_ret (s p : List UInt8) (k : Int) (w : World) : Ret Tryz.prog 160 #[.string ⟨s.toArray⟩, .string ⟨p.toArray⟩, .int .i64 k] w (fun v w' => v = .bool (begins s p k) ∧ w = w') := by
  refine ret_of fun K hK => S_octet_Begins_ok ?_
  unfold S_octet_Begins
  by_cases h1 : 0 ≤ k
  · simp only [rs, h1, decide_true, s_len Tryz.underlying9]
    by_cases h2 : k ≤ (s.length : Int)
    · simp only [rs, h2, decide_true]
      rw [s_from Tryz.underlying9 h1 h2]
      refine c_eq (hasPrefix_ret _ p w) ?_
      exact hK _ _ ⟨by simp [begins, h1, h2], rfl⟩
    · simp only [rs, h2, decide_false, g_un]
      exact hK _ _ ⟨by simp [begins, h2], rfl⟩
  · simp only [rs, h1, decide_false, g_un]
    exact hK _ _ ⟨by simp [begins, h1], rfl⟩
theorem crlf_begins (s : List UInt8) (k : Nat) (hk : k < s.length) (h : s[k] = 13) : begins s [13, 10] (k : Int) = decide ((s.drop (k + 1)).head? = some 10) := by
  unfold begins
  rw [Int.toNat_natCast, Lx.drop_cons hk, h, decide_eq_true (by omega), decide_eq_true (by omega)]
  cases hd : s.drop (k + 1) with
  | nil => simp
  | cons d t =>
    by_cases h10 : d = 10
    · subst h10; simp
    · have : ¬ (10 = d) := fun e => h10 e.symm
      have h11 : ((10 : UInt8) == d) = false := by simp [this]
      have h12 : ¬ (some d = some (10 : UInt8)) := by simpa using h10
      rw [List.head?_cons, decide_eq_false h12]
      simp [List.isPrefixOf, h11]
theorem line_ret (s : List UInt8) (k : Nat) (w : World) (hk : k ≤ s.length) (hs : s.length ≤ 4611686018427387904) : Ret Tryz.prog 292 #[.string ⟨s.toArray⟩, .int .i64 k] w (fun v w' => v = .int .i64 (Lx.line s k) ∧ w = w') := by
  refine ret_of fun K hK => S_octet_Line_ok ?_
  unfold S_octet_Line
  have h0 : ¬ ((k : Int) < 0) := by omega
  have h1 : ¬ ((s.length : Int) < (k : Int)) := by omega
  simp only [rs, h0, h1, decide_false, s_len Tryz.underlying9]
  refine loop (fun vs w' => ∃ (i : Nat), vs = [.int .i64 i] ∧ i ≤ s.length ∧ Lx.line s i = Lx.line s k ∧ w = w') (fun vs _ => s.length - n0 vs) ⟨k, rfl, hk, rfl, rfl⟩ ?_
  rintro vs w2 ⟨i, rfl, hi, he, rfl⟩ _
  simp only [S_octet_Line_0, gd, s_len Tryz.underlying9]
  rw [b_lss]
  by_cases hlt : (i : Int) < (s.length : Int)
  · have hi2 : i < s.length := by omega
    simp only [hlt, decide_true, i_t]
    rw [s_ix (c := s[i]) Tryz.underlying9 (by omega) (by simp [hi2])]
    have hd := Lx.drop_cons hi2
    have e1 := u8d s[i] 10 10 rfl
    have e2 := u8d s[i] 13 13 rfl
    by_cases g1 : s[i] = 10
    · simp only [rs, e1, decide_eq_true g1]
      rw [wrap64_id (by omega) (by omega)]
      refine hK _ _ ⟨?_, rfl⟩
      rw [← he, Lx.line, hd, Lx.lineF, if_pos g1]; simp
    simp only [rs, e1, decide_eq_false g1]
    by_cases g2 : s[i] = 13
    · simp only [rs, e2, decide_eq_true g2]
      refine c_eq (begins_ret s [13, 10] i w) ?_
      rw [crlf_begins s i hi2 g2]
      by_cases g3 : (s.drop (i + 1)).head? = some 10
      · simp only [decide_eq_true g3, i_t]
        rw [wrap64_id (by omega) (by omega)]
        refine hK _ _ ⟨?_, rfl⟩
        rw [← he, Lx.line, hd, Lx.lineF, if_neg g1, if_pos g2, if_pos g3]; simp
      · simp only [decide_eq_false g3, i_f]
        rw [wrap64_id (by omega) (by omega)]
        refine hK _ _ ⟨?_, rfl⟩
        rw [← he, Lx.line, hd, Lx.lineF, if_neg g1, if_pos g2, if_neg g3]; simp
    simp only [rs, e2, decide_eq_false g2]
    rw [wrap64_id (by omega) (by omega)]
    refine nextX ⟨i + 1, rfl, by omega, ?_, rfl⟩ (by simp [n0, intOf]; omega)
    rw [← he]
    simp only [Lx.line]
    rw [hd, Lx.lineF, if_neg g1, if_neg g2]; omega
  · have hi2 : i = s.length := by omega
    subst hi2
    simp only [hlt, decide_false, i_f]
    refine hK _ _ ⟨?_, rfl⟩
    rw [← he, Lx.line, List.drop_length]; simp [Lx.lineF]
theorem skip_ret (s : List UInt8) (k : Int) (w : World) (hs : s.length ≤ 4611686018427387904) : Ret Tryz.prog 159 #[.string ⟨s.toArray⟩, .int .i64 k] w (fun v w' => v = .int .i64 (Lx.skipI s k) ∧ w = w') := by
  refine ret_of fun K hK => S_octet_Skip_ok ?_
  unfold S_octet_Skip
  by_cases h0 : k < 0
  · simp only [rs, h0, decide_true, g_un]
    exact hK _ _ ⟨by rw [Lx.skipI, if_pos (.inl h0)], rfl⟩
  simp only [rs, h0, decide_false, s_len Tryz.underlying9]
  by_cases h1 : (s.length : Int) < k
  · simp only [rs, h1, decide_true]
    exact hK _ _ ⟨by rw [Lx.skipI, if_pos (.inr h1)], rfl⟩
  simp only [rs, h1, decide_false]
  have hsk : Lx.skipI s k = ((Lx.skip s k.toNat : Nat) : Int) := by rw [Lx.skipI, if_neg (by omega)]
  refine loop (fun vs w' => ∃ (i : Nat) (b : Bool), vs = [.int .i64 i, .bool b] ∧ i ≤ s.length ∧ i + Lx.skipF b (s.drop i) = Lx.skip s k.toNat ∧ w = w') (fun vs _ => s.length - n0 vs) ⟨k.toNat, false, by rw [Int.toNat_of_nonneg (by omega)], by omega, rfl, rfl⟩ ?_
  rintro vs w2 ⟨i, b, rfl, hi, he, rfl⟩ _
  simp only [S_octet_Skip_0, gd, s_len Tryz.underlying9]
  rw [b_lss]
  by_cases hlt : (i : Int) < (s.length : Int)
  · have hi2 : i < s.length := by omega
    simp only [hlt, decide_true, i_t]
    refine join fun J2 hJ2 => ?_
    rw [s_ix (c := s[i]) Tryz.underlying9 (by omega) (by simp [hi2])]
    have hd := Lx.drop_cons hi2
    rw [hd] at he
    have fin : ∀ b' : Bool, i + 1 + Lx.skipF b' (s.drop (i + 1)) = Lx.skip s k.toNat → J2 [.bool b'] w := by
      intro b' hb'
      refine hJ2 _ _ fun _ => ?_
      simp only [S_octet_Skip_1, gd]
      rw [b_add, wrap64_id (by omega) (by omega)]
      exact nextX ⟨i + 1, b', rfl, by omega, hb', rfl⟩ (by simp [n0, intOf]; omega)
    cases b with
    | true =>
      simp only [i_t]
      refine c_eq (ends_ret s[i] w) ?_
      simp only [rs]
      exact fin _ (by rw [Lx.skipF] at he; omega)
    | false =>
      simp only [i_f]
      have e1 := u8d s[i] 37 37 rfl
      by_cases g1 : s[i] = 37
      · simp only [rs, e1, decide_eq_true g1]
        exact fin _ (by rw [Lx.skipF, if_pos g1] at he; omega)
      simp only [rs, e1, decide_eq_false g1]
      refine c_eq (white_ret s[i] w) ?_
      cases hw : Oc.white s[i] with
      | true =>
        simp only [rs]
        exact fin _ (by rw [Lx.skipF, if_neg g1, if_pos hw] at he; omega)
      | false =>
        simp only [rs]
        refine hK _ _ ⟨?_, rfl⟩
        rw [Lx.skipF, if_neg g1, if_neg (by simp [hw])] at he
        rw [hsk, ← he]; simp
  · have hi2 : i = s.length := by omega
    subst hi2
    simp only [hlt, decide_false, i_f]
    rw [List.drop_length] at he
    refine hK _ _ ⟨?_, rfl⟩
    rw [hsk, ← he]
    cases b <;> simp [Lx.skipF]
 attribute [local congr] g_congr in
theorem digit_ret (c : UInt8) (w : World) : Ret Tryz.prog 233 #[.int .u8 c.toNat] w (fun v w' => v = .int .i64 (Lx.digit c) ∧ w = w') := by
  refine ret_of fun K hK => S_octet_Digit_ok ?_
  unfold S_octet_Digit
  have h256 := c.toNat_lt
  have conv : ∀ {n : Int} {PK K}, 0 ≤ n → n ≤ 255 → DoX Tryz.prog (mConv 5 3 (.int .u8 n)) w PK K = K (.int .i64 n) w := by
    intro n PK K h0 h1
    rw [c_int (show (Tryz.prog.underlying 5).isSome = true by kernel_rfl) Tryz.underlying3, wrap64_id (by omega) (by omega)]
  simp +contextual only [rs, gs]
  by_cases h1 : 48 ≤ c.toNat ∧ c.toNat ≤ 57
  · have hb : (decide ((48 : Int) ≤ (c.toNat : Int)) && decide ((c.toNat : Int) ≤ 57)) = true := by simp; omega
    simp only [hb, i_t]
    rw [wrap8_id (by omega) (by omega), conv (by omega) (by omega)]
    exact hK _ _ ⟨by rw [Lx.digit, if_pos h1], rfl⟩
  have hb : (decide ((48 : Int) ≤ (c.toNat : Int)) && decide ((c.toNat : Int) ≤ 57)) = false := by
    rw [Bool.and_eq_false_iff, decide_eq_false_iff_not, decide_eq_false_iff_not]; omega
  simp only [hb, i_f]
  by_cases h2 : 65 ≤ c.toNat ∧ c.toNat ≤ 70
  · have hb : (decide ((65 : Int) ≤ (c.toNat : Int)) && decide ((c.toNat : Int) ≤ 70)) = true := by simp; omega
    simp only [hb, i_t]
    rw [wrap8_id (by omega) (by omega), conv (by omega) (by omega), b_add, wrap64_id (by omega) (by omega)]
    exact hK _ _ ⟨by rw [Lx.digit, if_neg h1, if_pos h2], rfl⟩
  have hb : (decide ((65 : Int) ≤ (c.toNat : Int)) && decide ((c.toNat : Int) ≤ 70)) = false := by
    rw [Bool.and_eq_false_iff, decide_eq_false_iff_not, decide_eq_false_iff_not]; omega
  simp only [hb, i_f]
  by_cases h3 : 97 ≤ c.toNat ∧ c.toNat ≤ 102
  · have hb : (decide ((97 : Int) ≤ (c.toNat : Int)) && decide ((c.toNat : Int) ≤ 102)) = true := by simp; omega
    simp only [hb, i_t]
    rw [wrap8_id (by omega) (by omega), conv (by omega) (by omega), b_add, wrap64_id (by omega) (by omega)]
    exact hK _ _ ⟨by rw [Lx.digit, if_neg h1, if_neg h2, if_pos h3], rfl⟩
  have hb : (decide ((97 : Int) ≤ (c.toNat : Int)) && decide ((c.toNat : Int) ≤ 102)) = false := by
    rw [Bool.and_eq_false_iff, decide_eq_false_iff_not, decide_eq_false_iff_not]; omega
  simp only [hb, i_f]
  exact hK _ _ ⟨by rw [Lx.digit, if_neg h1, if_neg h2, if_neg h3], rfl⟩
end Go.Proofs.YtjajlcacbbnodaaGreatDoor
/- The engine's rules for variables of several cells (structs): loads, stores, results. -/
namespace Go.Proofs.YtjajlcacbbnodaaGreatDoor
set_option linter.unusedVariables false
set_option linter.unusedSimpArgs false
set_option linter.defProp false
set_option linter.unusedSimpArgs false
set_option linter.unusedVariables false
namespace Eng
open Go.RowKit

/-- A type of n cells whose values are aggregates. -/
def aggN (P : Program) (T : TypeId) : Option Nat :=
  match P.underlying T with
  | some (.struct _) | some (.array _ _) => (P.info? T).map (·.size)
  | _ => none
/-- The variable of type T at an address reads v. -/
def AtV (P : Program) (w : World) (T : TypeId) (a : Addr) (v : Value) : Prop := (loadVar T a).run P w = .ok v w

section
variable {S : Nat → Prop} {P : Program} {w : World} {PK : List PanicEntry → World → Prop} {K : Value → World → Prop}
theorem AtV.cell {T : TypeId} (ht : notAgg P T = true) {a : Addr} {v : Value} (h : w.cell? a = some v) : AtV P w T a v := run_loadVar_cell ht h
theorem AtV.agg {T : TypeId} {n : Nat} (ht : aggN P T = some n) {b off : Nat} {cs : List Value} (hl : cs.length = n) (h : ∀ j v, cs[j]? = some v → w.cell? ⟨b, off + j, none⟩ = some v) : AtV P w T ⟨b, off, none⟩ (.agg cs.toArray) := by
  have hc := run_loadCells_list (P := P) w ⟨b, off, none⟩ cs (fun j v hj => by rw [add_none]; exact h j v hj)
  unfold aggN at ht
  subst hl
  unfold AtV
  split at ht
  · rename_i fs hu
    obtain ⟨i, hi, h1⟩ := Option.map_eq_some_iff.1 ht
    simp [loadVar, isAgg, run_underlying hu, sizeOf, typeInfo, hi, h1, hc]
  · rename_i k e hu
    obtain ⟨i, hi, h1⟩ := Option.map_eq_some_iff.1 ht
    simp [loadVar, isAgg, run_underlying hu, sizeOf, typeInfo, hi, h1, hc]
  · cases ht
theorem run_load_at {T : TypeId} {a : Addr} {v : Value} (h : AtV P w T a v) : (mLoad T (.pointer (some a))).run P w = .ok (.value v) w := by
  unfold AtV at h
  exact mv_run (by simp [Instr.loadAt, Instr.sureAddr, h])
theorem l_at {T : TypeId} {a : Addr} {v : Value} (h : AtV P w T a v) : DoX P (mLoad T (.pointer (some a))) w PK K = K v w := do_eq (run_load_at h)
/-- A whole variable of the call's own: the i-th piece. -/
theorem OwnS.agg {w0 : World} {L : List Ent} (ho : OwnS S w0 w L) (i : Nat) {b : Nat} {cs : List Value} {E T : TypeId} (hi : L[i]? = some (.cells b cs E)) (ht : aggN P T = some cs.length) : AtV P w T ⟨b, 0, none⟩ (.agg cs.toArray) :=
  AtV.agg ht rfl fun j v hj => by rw [Nat.zero_add]; exact ho.cell i hi j hj
theorem OwnS.fld {w0 : World} {L : List Ent} (ho : OwnS S w0 w L) (i : Nat) {b : Nat} {cs : List Value} {E T : TypeId} (hi : L[i]? = some (.cells b cs E)) (j : Nat) {v : Value} (hv : cs[j]? = some v) (ht : notAgg P T = true) : AtV P w T ⟨b, j, none⟩ v :=
  AtV.cell ht (ho.cell i hi j hv)
theorem run_store_agg {T : TypeId} {b : Nat} {cs new : List Value} {E : TypeId} (hs : (P.info? T).map (·.size) = some new.length) (hv : ∀ v ∈ new, v.oneCell' = true) (hl : cs.length = new.length) (h : w.heap[b]? = some (.cells cs.toArray E (0, 0))) :
    (Instr.storeAt T (.pointer (some ⟨b, 0, none⟩)) (.agg new.toArray)).run P w = .ok () (w.setRow b new.toArray) := by
  have hst := run_storeCells_at P b 0 E new 0 cs.toArray w h (by simp; omega) hv
  obtain ⟨i, hi, h1⟩ := Option.map_eq_some_iff.1 hs
  have hd : cs.toArray.toList.drop new.length = [] := List.drop_eq_nil_of_le (by rw [← hl]; exact Nat.le_refl _)
  simp only [Nat.add_zero, Nat.zero_add, List.take_zero, List.nil_append, hd, List.append_nil] at hst
  have hc : (Value.agg new.toArray).cells = new.toArray := rfl
  simp [Instr.storeAt, Instr.sureAddr, storeVar, hc, sizeOf, typeInfo, hi, h1, hst]
/-- A store of a whole variable of the call's own. -/
theorem o_put {w0 : World} {L : List Ent} (i : Nat) {T : TypeId} {b : Nat} {cs new : List Value} {E : TypeId} (ho : OwnS S w0 w L) (hi : L[i]? = some (.cells b cs E)) (hs : (P.info? T).map (·.size) = some new.length) (hv : ∀ v ∈ new, v.oneCell' = true) (hl : cs.length = new.length)
    (k : ∀ w', OwnS S w0 w' (L.set i (.cells b new E)) → K undef w') : DoX P (mStore T (.pointer (some ⟨b, 0, none⟩)) (.agg new.toArray)) w PK K :=
  do_skip (mu_run (run_store_agg hs hv hl (ho.at_ i hi))) (k _ (setRow_own ho i hi _))
theorem run_s_slice {T : TypeId} {a : List UInt8} {k k' : IntKind} {lo hi : Int} (h : P.underlying T = some .string) (h0 : 0 ≤ lo) (h1 : lo ≤ hi) (h2 : hi ≤ a.length) :
    (mSlice T (.string ⟨a.toArray⟩) (some (.int k lo)) (some (.int k' hi)) none).run P w = .ok (.value (.string ⟨((a.drop lo.toNat).take (hi.toNat - lo.toNat)).toArray⟩)) w := by
  refine mv_run ?_
  have e : (⟨a.toArray⟩ : ByteArray).extract lo.toNat hi.toNat = ⟨((a.drop lo.toNat).take (hi.toNat - lo.toNat)).toArray⟩ := by
    rw [str_ext (s := (⟨a.toArray⟩ : ByteArray).extract lo.toNat hi.toNat), Lib.extract_data]
  have g1 : (0 ≤ hi ∧ hi ≤ ((a.length : Nat) : Int)) := by omega
  have g2 : (0 ≤ lo ∧ lo ≤ ((hi.toNat : Nat) : Int)) := by omega
  simp only [Instr.sliceAt, Instr.slice, Instr.sliceBounds, Instr.sliceBound, asIntOf, run_underlying h, str_size]
  have g3 : lo ≤ max hi 0 := by omega
  simp [run_underlying h, str_size, h2, g3, h0, g1.1, e]
theorem ret_same {f : Nat} {args : Array Value} {v : Value} {C : World → Prop} (h : Ret P f args w (fun v' w' => v' = v ∧ w = w')) (hb : C w) : Ret P f args w (fun v' w' => v' = v ∧ C w') :=
  h.mono fun v' w' r => ⟨r.1, r.2 ▸ hb⟩
theorem ret_grew {f : Nat} {args : Array Value} {v : Value} {w1 : World} (h : Ret P f args w (fun v' w' => v' = v ∧ Below w.heap.size w w')) (hb : Below w1.heap.size w1 w) : Ret P f args w (fun v' w' => v' = v ∧ Below w1.heap.size w1 w') :=
  h.mono fun v' w' r => ⟨r.1, (((Own.start w1).grow hb).grow r.2).done⟩
/- RESULTS -/
theorem ret_v2 {r1 r2 : RV} {v1 v2 : Value} {K : Ending → World → Prop} (h1 : r1.read.run P w = .ok v1 w) (h2 : r2.read.run P w = .ok v2 w) (k : K (.returned (.tuple #[v1, v2])) w) : RetX P [r1, r2] w K :=
  ⟨_, by simp [resRun, h1, h2], k⟩
theorem rv_cell {T : TypeId} {a : Addr} {v : Value} (h : AtV P w T a v) : (RV.cell (.pointer (some a)) T).read.run P w = .ok v w := by
  unfold AtV at h
  simp [RV.read, asAddr, h]
theorem rv_val {v : Value} : (RV.val v).read.run P w = .ok v w := by simp [RV.read]
end
end Eng
end Go.Proofs.YtjajlcacbbnodaaGreatDoor
/- Code in continuation form, by program (gen.py): 17 functions. -/
namespace Go.Proofs.YtjajlcacbbnodaaGreatDoor
set_option linter.unusedVariables false
set_option linter.unusedSimpArgs false
set_option linter.defProp false
set_option linter.unusedVariables false
set_option maxRecDepth 20000
open Eng

/- lex.Next -/
def S_lex_Next_0 (t4 t6 t7 t49 t50 : Value) (w : World) (K : Ending → World → Prop) : Prop :=
 IfX t50 (DoX Tryz.prog (mLoad 171 t6) w (pk K) fun t55 w =>
 CallX Tryz.prog 161 #[t55, (.int .i64 1)] w (pk K) fun t56 w =>
 DoX Tryz.prog (mExt t56 0) w (pk K) fun t57 w =>
 DoX Tryz.prog (mExt t56 1) w (pk K) fun t58 w =>
 DoX Tryz.prog (mStore 41 t4 t57) w (pk K) fun _ w =>
 RetX Tryz.prog [.cell t4 41, .val t58] w K) (DoX Tryz.prog (mEq .eql 5 (.tmp 49) (.const (.int .u8 60)) t49 (.int .u8 60)) w (pk K) fun t60 w =>
 IfX t60 (IfX t7 (DoX Tryz.prog (mLoad 171 t6) w (pk K) fun t62 w =>
 CallX Tryz.prog 161 #[t62, (.int .i64 2)] w (pk K) fun t63 w =>
 DoX Tryz.prog (mExt t63 0) w (pk K) fun t64 w =>
 DoX Tryz.prog (mExt t63 1) w (pk K) fun t65 w =>
 DoX Tryz.prog (mStore 41 t4 t64) w (pk K) fun _ w =>
 RetX Tryz.prog [.cell t4 41, .val t65] w K) (DoX Tryz.prog (mLoad 171 t6) w (pk K) fun t66 w =>
 CallX Tryz.prog 162 #[t66] w (pk K) fun t67 w =>
 DoX Tryz.prog (mExt t67 0) w (pk K) fun t68 w =>
 DoX Tryz.prog (mExt t67 1) w (pk K) fun t69 w =>
 DoX Tryz.prog (mStore 41 t4 t68) w (pk K) fun _ w =>
 RetX Tryz.prog [.cell t4 41, .val t69] w K)) (DoX Tryz.prog (mEq .eql 5 (.tmp 49) (.const (.int .u8 62)) t49 (.int .u8 62)) w (pk K) fun t71 w =>
 IfX t71 (IfX t7 (DoX Tryz.prog (mLoad 171 t6) w (pk K) fun t73 w =>
 CallX Tryz.prog 161 #[t73, (.int .i64 2)] w (pk K) fun t74 w =>
 DoX Tryz.prog (mExt t74 0) w (pk K) fun t75 w =>
 DoX Tryz.prog (mExt t74 1) w (pk K) fun t76 w =>
 DoX Tryz.prog (mStore 41 t4 t75) w (pk K) fun _ w =>
 RetX Tryz.prog [.cell t4 41, .val t76] w K) (CallX Tryz.prog 158 #[(.int .i64 3)] w (pk K) fun t77 w =>
 DoX Tryz.prog (mExt t77 0) w (pk K) fun t78 w =>
 DoX Tryz.prog (mExt t77 1) w (pk K) fun t79 w =>
 DoX Tryz.prog (mStore 41 t4 t78) w (pk K) fun _ w =>
 RetX Tryz.prog [.cell t4 41, .val t79] w K)) (DoX Tryz.prog (mEq .eql 5 (.tmp 49) (.const (.int .u8 47)) t49 (.int .u8 47)) w (pk K) fun t81 w =>
 IfX t81 (DoX Tryz.prog (mLoad 171 t6) w (pk K) fun t82 w =>
 CallX Tryz.prog 163 #[t82] w (pk K) fun t83 w =>
 DoX Tryz.prog (mExt t83 0) w (pk K) fun t84 w =>
 DoX Tryz.prog (mExt t83 1) w (pk K) fun t85 w =>
 DoX Tryz.prog (mStore 41 t4 t84) w (pk K) fun _ w =>
 RetX Tryz.prog [.cell t4 41, .val t85] w K) (DoX Tryz.prog (mEq .eql 5 (.tmp 49) (.const (.int .u8 40)) t49 (.int .u8 40)) w (pk K) fun t87 w =>
 IfX t87 (DoX Tryz.prog (mLoad 171 t6) w (pk K) fun t88 w =>
 CallX Tryz.prog 164 #[t88] w (pk K) fun t89 w =>
 DoX Tryz.prog (mExt t89 0) w (pk K) fun t90 w =>
 DoX Tryz.prog (mExt t89 1) w (pk K) fun t91 w =>
 DoX Tryz.prog (mStore 41 t4 t90) w (pk K) fun _ w =>
 RetX Tryz.prog [.cell t4 41, .val t91] w K) (DoX Tryz.prog (mEq .eql 5 (.tmp 49) (.const (.int .u8 41)) t49 (.int .u8 41)) w (pk K) fun t93 w =>
 IfX t93 (CallX Tryz.prog 158 #[(.int .i64 3)] w (pk K) fun t94 w =>
 DoX Tryz.prog (mExt t94 0) w (pk K) fun t95 w =>
 DoX Tryz.prog (mExt t94 1) w (pk K) fun t96 w =>
 DoX Tryz.prog (mStore 41 t4 t95) w (pk K) fun _ w =>
 RetX Tryz.prog [.cell t4 41, .val t96] w K) (DoX Tryz.prog (mLoad 171 t6) w (pk K) fun t97 w =>
 CallX Tryz.prog 165 #[t97] w (pk K) fun t98 w =>
 DoX Tryz.prog (mExt t98 0) w (pk K) fun t99 w =>
 DoX Tryz.prog (mExt t98 1) w (pk K) fun t100 w =>
 DoX Tryz.prog (mStore 41 t4 t99) w (pk K) fun _ w =>
 RetX Tryz.prog [.cell t4 41, .val t100] w K))))))
def S_lex_Next (t0 t1 : Value) (w : World) (K : Ending → World → Prop) : Prop :=
 DoX Tryz.prog (mAlloc 41) w (pk K) fun t4 w =>
 DoX Tryz.prog (mBin .lss 3 t1 (.int .i64 0)) w (pk K) fun t9 w =>
 GDo t9 false (fun E => E t1 w) w fun t11 w =>
 GDo t9 false (fun E => E t0 w) w fun t12 w =>
 GDo t9 false (fun E => DoX Tryz.prog (mB .len #[9] 3 #[false] #[t12]) w (pk K) E) w fun t13 w =>
 GDo t9 false (fun E => DoX Tryz.prog (mBin .gtr 3 t11 t13) w (pk K) E) w fun t14 w =>
 DoX Tryz.prog (mPick t9 (.bool true) t14) w (pk K) fun t15 w =>
 IfX t15 (CallX Tryz.prog 158 #[(.int .i64 1)] w (pk K) fun t16 w =>
 DoX Tryz.prog (mExt t16 0) w (pk K) fun t17 w =>
 DoX Tryz.prog (mExt t16 1) w (pk K) fun t18 w =>
 DoX Tryz.prog (mStore 41 t4 t17) w (pk K) fun _ w =>
 RetX Tryz.prog [.cell t4 41, .val t18] w K) (CallX Tryz.prog 159 #[t0, t1] w (pk K) fun t22 w =>
 DoX Tryz.prog (mBuild 171 #[(0, t0), (1, t22)]) w (pk K) fun t23 w =>
 DoX Tryz.prog (mAlloc 171) w (pk K) fun t6 w =>
 DoX Tryz.prog (mStore 171 t6 t23) w (pk K) fun _ w =>
 DoX Tryz.prog (mFA 171 t6 1) w (pk K) fun t24 w =>
 DoX Tryz.prog (mLoad 3 t24) w (pk K) fun t25 w =>
 DoX Tryz.prog (mB .len #[9] 3 #[false] #[t0]) w (pk K) fun t27 w =>
 DoX Tryz.prog (mEq .eql 3 (.tmp 25) (.tmp 27) t25 t27) w (pk K) fun t28 w =>
 IfX t28 (DoX Tryz.prog (mFA 171 t6 1) w (pk K) fun t29 w =>
 DoX Tryz.prog (mLoad 3 t29) w (pk K) fun t30 w =>
 DoX Tryz.prog (mFA 171 t6 1) w (pk K) fun t31 w =>
 DoX Tryz.prog (mLoad 3 t31) w (pk K) fun t32 w =>
 DoX Tryz.prog (mBuild 41 #[(1, t30), (2, t32)]) w (pk K) fun t33 w =>
 DoX Tryz.prog (mStore 41 t4 t33) w (pk K) fun _ w =>
 RetX Tryz.prog [.cell t4 41, .val (.int .i64 0)] w K) (QuietX w (fun C1 =>
 QDo Tryz.prog C1 (mFA 171 t6 1) fun t36 =>
 QDo Tryz.prog C1 (mLoad 3 t36) fun t37 =>
 QDo Tryz.prog C1 (mFA 171 t6 1) fun t38 =>
 QDo Tryz.prog C1 (mLoad 3 t38) fun t39 =>
 QDo Tryz.prog C1 (mBin .add 3 t39 (.int .i64 1)) fun t40 =>
 QDo Tryz.prog C1 (mSlice 9 t0 (some t37) (some t40) none) fun t41 =>
 QDo Tryz.prog C1 (mFA 171 t6 1) fun t42 =>
 QDo Tryz.prog C1 (mLoad 3 t42) fun t43 =>
 QDo Tryz.prog C1 (mBin .add 3 t43 (.int .i64 1)) fun t44 =>
 QCall Tryz.prog C1 160 #[t0, t41, t44] fun t45 =>
 ∀ w, C1 w →
 DoX Tryz.prog (mFA 171 t6 1) w (pk K) fun t47 w =>
 DoX Tryz.prog (mLoad 3 t47) w (pk K) fun t48 w =>
 DoX Tryz.prog (mIx 9 t0 t48) w (pk K) fun t49 w =>
 JoinX (fun J2 =>
 DoX Tryz.prog (mEq .eql 5 (.tmp 49) (.const (.int .u8 91)) t49 (.int .u8 91)) w (pk K) fun t51 w =>
 IfX t51 (J2 [t51] w) (DoX Tryz.prog (mEq .eql 5 (.tmp 49) (.const (.int .u8 93)) t49 (.int .u8 93)) w (pk K) fun t52 w =>
 IfX t52 (J2 [t52] w) (DoX Tryz.prog (mEq .eql 5 (.tmp 49) (.const (.int .u8 123)) t49 (.int .u8 123)) w (pk K) fun t53 w =>
 IfX t53 (J2 [t53] w) (DoX Tryz.prog (mEq .eql 5 (.tmp 49) (.const (.int .u8 125)) t49 (.int .u8 125)) w (pk K) fun t54 w =>
 J2 [t54] w)))) (fun vs2 w => ∀ _ : Sg, S_lex_Next_0 t4 t6 t45 t49 (vs2.getD 0 undef) w K))))
theorem S_lex_Next_eq (t0 t1 : Value) (w : World) (K : Ending → World → Prop) : wpX Tryz.prog 101 [(12, [50])] [] none (bodyOf Tryz.f84) (topQ Tryz.prog [.cell 4 41, .tmp 5] K) (startX [t0, t1]) [] w = S_lex_Next t0 t1 w K := by kernel_rfl
theorem S_lex_Next_ok {t0 t1 : Value} {w : World} {K : Ending → World → Prop} (h : S_lex_Next t0 t1 w K) : Calls Tryz.prog 84 #[t0, t1] w K :=
  calls_of_wpX Tryz.func84 rfl rfl rfl rfl (Eq.mpr (S_lex_Next_eq t0 t1 w K) h)

/- lex.All -/
/- lex.Upto -/
/- lex.tokens -/
/- lex.tokens$1 -/
/- (lex.cutter).mark -/
def S_lex_cutter_mark (t0 t1 : Value) (w : World) (K : Ending → World → Prop) : Prop :=
 DoX Tryz.prog (mBox 171 t0) w (pk K) fun t2 w =>
 DoX Tryz.prog (mAlloc 41) w (pk K) fun t4 w =>
 QuietX w (fun C1 =>
 QDo Tryz.prog C1 (mFA 171 t2 1) fun t6 =>
 QDo Tryz.prog C1 (mLoad 3 t6) fun t7 =>
 QDo Tryz.prog C1 (mFA 171 t2 1) fun t8 =>
 QDo Tryz.prog C1 (mLoad 3 t8) fun t9 =>
 QDo Tryz.prog C1 (mBin .add 3 t9 t1) fun t11 =>
 QDo Tryz.prog C1 (mFA 171 t2 0) fun t12 =>
 QDo Tryz.prog C1 (mLoad 9 t12) fun t13 =>
 QDo Tryz.prog C1 (mFA 171 t2 1) fun t14 =>
 QDo Tryz.prog C1 (mLoad 3 t14) fun t15 =>
 QDo Tryz.prog C1 (mFA 171 t2 1) fun t16 =>
 QDo Tryz.prog C1 (mLoad 3 t16) fun t17 =>
 QDo Tryz.prog C1 (mBin .add 3 t17 t1) fun t19 =>
 QDo Tryz.prog C1 (mSlice 9 t13 (some t15) (some t19) none) fun t20 =>
 QDo Tryz.prog C1 (mBuild 41 #[(0, (.int .i64 6)), (1, t7), (2, t11), (4, t20)]) fun t21 =>
 ∀ w, C1 w →
 DoX Tryz.prog (mStore 41 t4 t21) w (pk K) fun _ w =>
 RetX Tryz.prog [.cell t4 41, .val (.int .i64 0)] w K)
theorem S_lex_cutter_mark_eq (t0 t1 : Value) (w : World) (K : Ending → World → Prop) : wpX Tryz.prog 22 [] [] none (bodyOf Tryz.f161) (topQ Tryz.prog [.cell 4 41, .tmp 5] K) (startX [t0, t1]) [] w = S_lex_cutter_mark t0 t1 w K := by kernel_rfl
theorem S_lex_cutter_mark_ok {t0 t1 : Value} {w : World} {K : Ending → World → Prop} (h : S_lex_cutter_mark t0 t1 w K) : Calls Tryz.prog 161 #[t0, t1] w K :=
  calls_of_wpX Tryz.func161 rfl rfl rfl rfl (Eq.mpr (S_lex_cutter_mark_eq t0 t1 w K) h)

/- lex.refused -/
def S_lex_refused (t0 : Value) (w : World) (K : Ending → World → Prop) : Prop :=
 DoX Tryz.prog (mAlloc 41) w (pk K) fun t2 w =>
 DoX Tryz.prog (mBuild 41 #[]) w (pk K) fun t4 w =>
 DoX Tryz.prog (mStore 41 t2 t4) w (pk K) fun _ w =>
 RetX Tryz.prog [.cell t2 41, .val t0] w K
theorem S_lex_refused_eq (t0 : Value) (w : World) (K : Ending → World → Prop) : wpX Tryz.prog 6 [] [] none (bodyOf Tryz.f158) (topQ Tryz.prog [.cell 2 41, .tmp 3] K) (startX [t0]) [] w = S_lex_refused t0 w K := by kernel_rfl
theorem S_lex_refused_ok {t0 : Value} {w : World} {K : Ending → World → Prop} (h : S_lex_refused t0 w K) : Calls Tryz.prog 158 #[t0] w K :=
  calls_of_wpX Tryz.func158 rfl rfl rfl rfl (Eq.mpr (S_lex_refused_eq t0 w K) h)

/- (lex.cutter).run -/
def S_lex_cutter_run_0 (t1 t2 : Value) (w : World) (N1 : List Value → World → Prop) (K : Ending → World → Prop) : Prop :=
 DoX Tryz.prog (mFA 171 t2 0) w (pk K) fun t6 w =>
 DoX Tryz.prog (mLoad 9 t6) w (pk K) fun t7 w =>
 DoX Tryz.prog (mB .len #[9] 3 #[false] #[t7]) w (pk K) fun t8 w =>
 DoX Tryz.prog (mBin .lss 3 t1 t8) w (pk K) fun t9 w =>
 GDo t9 true (fun E => DoX Tryz.prog (mFA 171 t2 0) w (pk K) E) w fun t11 w =>
 GDo t9 true (fun E => DoX Tryz.prog (mLoad 9 t11) w (pk K) E) w fun t12 w =>
 GDo t9 true (fun E => E t1 w) w fun t13 w =>
 GDo t9 true (fun E => DoX Tryz.prog (mIx 9 t12 t13) w (pk K) E) w fun t14 w =>
 GDo t9 true (fun E => CallX Tryz.prog 135 #[t14] w (pk K) E) w fun t15 w =>
 DoX Tryz.prog (mPick t9 t15 (.bool false)) w (pk K) fun t16 w =>
 IfX t16 (DoX Tryz.prog (mBin .add 3 t1 (.int .i64 1)) w (pk K) fun t18 w =>
 N1 [t18] w) (K (.returned t1) w)
def S_lex_cutter_run (t0 t1 : Value) (w : World) (K : Ending → World → Prop) : Prop :=
 DoX Tryz.prog (mBox 171 t0) w (pk K) fun t2 w =>
 LoopX [t1] w (fun vs1 w N1 => ∀ _ : Sg, S_lex_cutter_run_0 (vs1.getD 0 undef) t2 w N1 K)
theorem S_lex_cutter_run_eq (t0 t1 : Value) (w : World) (K : Ending → World → Prop) : wpX Tryz.prog 20 [] [(1, [1])] none (bodyOf Tryz.f234) (topQ Tryz.prog [.tmp 4] K) (startX [t0, t1]) [] w = S_lex_cutter_run t0 t1 w K := by kernel_rfl
theorem S_lex_cutter_run_ok {t0 t1 : Value} {w : World} {K : Ending → World → Prop} (h : S_lex_cutter_run t0 t1 w K) : Calls Tryz.prog 234 #[t0, t1] w K :=
  calls_of_wpX Tryz.func234 rfl rfl rfl rfl (Eq.mpr (S_lex_cutter_run_eq t0 t1 w K) h)

/- (lex.cutter).told -/
def S_lex_cutter_told (t0 t1 t2 t3 t4 : Value) (w : World) (K : Ending → World → Prop) : Prop :=
 DoX Tryz.prog (mBox 171 t0) w (pk K) fun t5 w =>
 DoX Tryz.prog (mAlloc 41) w (pk K) fun t10 w =>
 DoX Tryz.prog (mB .len #[9] 3 #[false] #[t3]) w (pk K) fun t13 w =>
 DoX Tryz.prog (mBin .gtr 3 t13 t4) w (pk K) fun t15 w =>
 IfX t15 (CallX Tryz.prog 158 #[(.int .i64 5)] w (pk K) fun t16 w =>
 DoX Tryz.prog (mExt t16 0) w (pk K) fun t17 w =>
 DoX Tryz.prog (mExt t16 1) w (pk K) fun t18 w =>
 DoX Tryz.prog (mStore 41 t10 t17) w (pk K) fun _ w =>
 RetX Tryz.prog [.cell t10 41, .val t18] w K) (DoX Tryz.prog (mFA 171 t5 1) w (pk K) fun t20 w =>
 DoX Tryz.prog (mLoad 3 t20) w (pk K) fun t21 w =>
 DoX Tryz.prog (mBuild 41 #[(0, t1), (1, t21), (2, t2), (4, t3)]) w (pk K) fun t24 w =>
 DoX Tryz.prog (mStore 41 t10 t24) w (pk K) fun _ w =>
 RetX Tryz.prog [.cell t10 41, .val (.int .i64 0)] w K)
theorem S_lex_cutter_told_eq (t0 t1 t2 t3 t4 : Value) (w : World) (K : Ending → World → Prop) : wpX Tryz.prog 25 [] [] none (bodyOf Tryz.f232) (topQ Tryz.prog [.cell 10 41, .tmp 11] K) (startX [t0, t1, t2, t3, t4]) [] w = S_lex_cutter_told t0 t1 t2 t3 t4 w K := by kernel_rfl
theorem S_lex_cutter_told_ok {t0 t1 t2 t3 t4 : Value} {w : World} {K : Ending → World → Prop} (h : S_lex_cutter_told t0 t1 t2 t3 t4 w K) : Calls Tryz.prog 232 #[t0, t1, t2, t3, t4] w K :=
  calls_of_wpX Tryz.func232 rfl rfl rfl rfl (Eq.mpr (S_lex_cutter_told_eq t0 t1 t2 t3 t4 w K) h)

/- (lex.cutter).name -/
def S_lex_cutter_name_1 (t3 t5 t6 t7 : Value) (w : World) (N1 : List Value → World → Prop) (K : Ending → World → Prop) : Prop :=
 DoX Tryz.prog (mBuildS 91 1 #[(0, t7)]) w (pk K) fun t62 w =>
 DoX Tryz.prog (mB .append #[91, 91] 91 #[false, false] #[t5, t62]) w (pk K) fun t63 w =>
 DoX Tryz.prog (mBin .add 3 t6 (.int .i64 1)) w (pk K) fun t22 w =>
 N1 [t3, t63, t22] w
def S_lex_cutter_name_0 (t1 t2 t3 t4 t5 t6 : Value) (w : World) (N1 : List Value → World → Prop) (K : Ending → World → Prop) : Prop :=
 DoX Tryz.prog (mBin .lss 3 t6 t4) w (pk K) fun t20 w =>
 IfX t20 (DoX Tryz.prog (mFA 171 t1 0) w (pk K) fun t23 w =>
 DoX Tryz.prog (mLoad 9 t23) w (pk K) fun t24 w =>
 DoX Tryz.prog (mIx 9 t24 t6) w (pk K) fun t26 w =>
 JoinX (fun J2 =>
 DoX Tryz.prog (mEq .eql 5 (.tmp 27) (.const (.int .u8 35)) t26 (.int .u8 35)) w (pk K) fun t28 w =>
 IfX t28 (DoX Tryz.prog (mBin .add 3 t6 (.int .i64 2)) w (pk K) fun t30 w =>
 DoX Tryz.prog (mBin .geq 3 t30 t4) w (pk K) fun t32 w =>
 IfX t32 (CallX Tryz.prog 158 #[(.int .i64 3)] w (pk K) fun t33 w =>
 DoX Tryz.prog (mExt t33 0) w (pk K) fun t34 w =>
 DoX Tryz.prog (mExt t33 1) w (pk K) fun t35 w =>
 DoX Tryz.prog (mStore 41 t2 t34) w (pk K) fun _ w =>
 RetX Tryz.prog [.cell t2 41, .val t35] w K) (DoX Tryz.prog (mFA 171 t1 0) w (pk K) fun t37 w =>
 DoX Tryz.prog (mLoad 9 t37) w (pk K) fun t38 w =>
 DoX Tryz.prog (mBin .add 3 t6 (.int .i64 1)) w (pk K) fun t40 w =>
 DoX Tryz.prog (mBin .add 3 t6 (.int .i64 3)) w (pk K) fun t42 w =>
 DoX Tryz.prog (mSlice 9 t38 (some t40) (some t42) none) w (pk K) fun t43 w =>
 CallX Tryz.prog 235 #[t43] w (pk K) fun t44 w =>
 DoX Tryz.prog (mExt t44 0) w (pk K) fun t45 w =>
 DoX Tryz.prog (mExt t44 1) w (pk K) fun t46 w =>
 DoX Tryz.prog (mEq .neq 28 (.tmp 47) (.const (.int .i64 0)) t46 (.int .i64 0)) w (pk K) fun t48 w =>
 GDo t48 false (fun E => E t45 w) w fun t50 w =>
 GDo t48 false (fun E => DoX Tryz.prog (mEq .eql 9 (.tmp 50) (.const (.string ⟨#[0]⟩)) t50 (.string ⟨#[0]⟩)) w (pk K) E) w fun t51 w =>
 DoX Tryz.prog (mPick t48 (.bool true) t51) w (pk K) fun t52 w =>
 IfX t52 (CallX Tryz.prog 158 #[(.int .i64 3)] w (pk K) fun t53 w =>
 DoX Tryz.prog (mExt t53 0) w (pk K) fun t54 w =>
 DoX Tryz.prog (mExt t53 1) w (pk K) fun t55 w =>
 DoX Tryz.prog (mStore 41 t2 t54) w (pk K) fun _ w =>
 RetX Tryz.prog [.cell t2 41, .val t55] w K) (DoX Tryz.prog (mIx 9 t45 (.int .i64 0)) w (pk K) fun t57 w =>
 DoX Tryz.prog (mBin .add 3 t6 (.int .i64 2)) w (pk K) fun t59 w =>
 J2 [t3, t59, t57] w))) (J2 [t3, t6, t26] w)) (fun vs2 w => ∀ _ : Sg, S_lex_cutter_name_1 (vs2.getD 0 undef) t5 (vs2.getD 1 undef) (vs2.getD 2 undef) w N1 K)) (DoX Tryz.prog (mLoad 171 t1) w (pk K) fun t64 w =>
 DoX Tryz.prog (mConv 91 9 t5) w (pk K) fun t67 w =>
 CallX Tryz.prog 232 #[t64, (.int .i64 4), t4, t67, (.int .i64 127)] w (pk K) fun t68 w =>
 DoX Tryz.prog (mExt t68 0) w (pk K) fun t69 w =>
 DoX Tryz.prog (mExt t68 1) w (pk K) fun t70 w =>
 DoX Tryz.prog (mStore 41 t2 t69) w (pk K) fun _ w =>
 RetX Tryz.prog [.cell t2 41, .val t70] w K)
def S_lex_cutter_name (t0 : Value) (w : World) (K : Ending → World → Prop) : Prop :=
 DoX Tryz.prog (mBox 171 t0) w (pk K) fun t1 w =>
 DoX Tryz.prog (mAlloc 41) w (pk K) fun t2 w =>
 DoX Tryz.prog (mLoad 171 t1) w (pk K) fun t10 w =>
 DoX Tryz.prog (mFA 171 t1 1) w (pk K) fun t11 w =>
 DoX Tryz.prog (mLoad 3 t11) w (pk K) fun t12 w =>
 DoX Tryz.prog (mBin .add 3 t12 (.int .i64 1)) w (pk K) fun t13 w =>
 CallX Tryz.prog 234 #[t10, t13] w (pk K) fun t14 w =>
 DoX Tryz.prog (mFA 171 t1 1) w (pk K) fun t15 w =>
 DoX Tryz.prog (mLoad 3 t15) w (pk K) fun t16 w =>
 DoX Tryz.prog (mBin .add 3 t16 (.int .i64 1)) w (pk K) fun t17 w =>
 LoopX [(.int .i64 0), (.slice none 0 0), t17] w (fun vs1 w N1 => ∀ _ : Sg, S_lex_cutter_name_0 t1 t2 (vs1.getD 0 undef) t14 (vs1.getD 1 undef) (vs1.getD 2 undef) w N1 K)
theorem S_lex_cutter_name_eq (t0 : Value) (w : World) (K : Ending → World → Prop) : wpX Tryz.prog 71 [(15, [3, 6, 7])] [(4, [3, 5, 6])] none (bodyOf Tryz.f163) (topQ Tryz.prog [.cell 2 41, .tmp 3] K) (startX [t0]) [] w = S_lex_cutter_name t0 w K := by kernel_rfl
theorem S_lex_cutter_name_ok {t0 : Value} {w : World} {K : Ending → World → Prop} (h : S_lex_cutter_name t0 w K) : Calls Tryz.prog 163 #[t0] w K :=
  calls_of_wpX Tryz.func163 rfl rfl rfl rfl (Eq.mpr (S_lex_cutter_name_eq t0 w K) h)

/- (lex.cutter).end -/
def S_lex_cutter_end (t0 t1 : Value) (w : World) (K : Ending → World → Prop) : Prop :=
 DoX Tryz.prog (mBox 171 t0) w (pk K) fun t2 w =>
 DoX Tryz.prog (mFA 171 t2 0) w (pk K) fun t6 w =>
 DoX Tryz.prog (mLoad 9 t6) w (pk K) fun t7 w =>
 DoX Tryz.prog (mIx 9 t7 t1) w (pk K) fun t9 w =>
 DoX Tryz.prog (mEq .eql 5 (.tmp 9) (.const (.int .u8 13)) t9 (.int .u8 13)) w (pk K) fun t10 w =>
 GDo t10 false (fun E => DoX Tryz.prog (mFA 171 t2 0) w (pk K) E) w fun t12 w =>
 GDo t10 false (fun E => DoX Tryz.prog (mLoad 9 t12) w (pk K) E) w fun t13 w =>
 GDo t10 false (fun E => E t1 w) w fun t14 w =>
 GDo t10 false (fun E => DoX Tryz.prog (mIx 9 t13 t14) w (pk K) E) w fun t15 w =>
 GDo t10 false (fun E => DoX Tryz.prog (mEq .eql 5 (.tmp 15) (.const (.int .u8 10)) t15 (.int .u8 10)) w (pk K) E) w fun t16 w =>
 DoX Tryz.prog (mPick t10 (.bool true) t16) w (pk K) fun t17 w =>
 IfX t17 (DoX Tryz.prog (mFA 171 t2 0) w (pk K) fun t18 w =>
 DoX Tryz.prog (mLoad 9 t18) w (pk K) fun t19 w =>
 CallX Tryz.prog 292 #[t19, t1] w (pk K) fun t21 w =>
 K (.returned (.tuple #[t21, (.bool true)])) w) (K (.returned (.tuple #[t1, (.bool false)])) w)
theorem S_lex_cutter_end_eq (t0 t1 : Value) (w : World) (K : Ending → World → Prop) : wpX Tryz.prog 23 [] [] none (bodyOf Tryz.f236) (topQ Tryz.prog [.tmp 4, .tmp 5] K) (startX [t0, t1]) [] w = S_lex_cutter_end t0 t1 w K := by kernel_rfl
theorem S_lex_cutter_end_ok {t0 t1 : Value} {w : World} {K : Ending → World → Prop} (h : S_lex_cutter_end t0 t1 w K) : Calls Tryz.prog 236 #[t0, t1] w K :=
  calls_of_wpX Tryz.func236 rfl rfl rfl rfl (Eq.mpr (S_lex_cutter_end_eq t0 t1 w K) h)

/- (lex.cutter).escaped -/
def S_lex_cutter_escaped_0 (t1 t2 t9 t10 : Value) (w : World) (N1 : List Value → World → Prop) (K : Ending → World → Prop) : Prop :=
 DoX Tryz.prog (mFA 171 t2 0) w (pk K) fun t34 w =>
 DoX Tryz.prog (mLoad 9 t34) w (pk K) fun t35 w =>
 DoX Tryz.prog (mB .len #[9] 3 #[false] #[t35]) w (pk K) fun t36 w =>
 DoX Tryz.prog (mBin .lss 3 t10 t36) w (pk K) fun t37 w =>
 GDo t37 true (fun E => E t10 w) w fun t39 w =>
 GDo t37 true (fun E => E t1 w) w fun t40 w =>
 GDo t37 true (fun E => DoX Tryz.prog (mBin .add 3 t40 (.int .i64 3)) w (pk K) E) w fun t41 w =>
 GDo t37 true (fun E => DoX Tryz.prog (mBin .lss 3 t39 t41) w (pk K) E) w fun t42 w =>
 DoX Tryz.prog (mPick t37 t42 (.bool false)) w (pk K) fun t43 w =>
 GDo t43 true (fun E => DoX Tryz.prog (mFA 171 t2 0) w (pk K) E) w fun t45 w =>
 GDo t43 true (fun E => DoX Tryz.prog (mLoad 9 t45) w (pk K) E) w fun t46 w =>
 GDo t43 true (fun E => E t10 w) w fun t47 w =>
 GDo t43 true (fun E => DoX Tryz.prog (mIx 9 t46 t47) w (pk K) E) w fun t48 w =>
 GDo t43 true (fun E => DoX Tryz.prog (mBin .geq 5 t48 (.int .u8 48)) w (pk K) E) w fun t49 w =>
 DoX Tryz.prog (mPick t43 t49 (.bool false)) w (pk K) fun t50 w =>
 GDo t50 true (fun E => DoX Tryz.prog (mFA 171 t2 0) w (pk K) E) w fun t52 w =>
 GDo t50 true (fun E => DoX Tryz.prog (mLoad 9 t52) w (pk K) E) w fun t53 w =>
 GDo t50 true (fun E => E t10 w) w fun t54 w =>
 GDo t50 true (fun E => DoX Tryz.prog (mIx 9 t53 t54) w (pk K) E) w fun t55 w =>
 GDo t50 true (fun E => DoX Tryz.prog (mBin .leq 5 t55 (.int .u8 55)) w (pk K) E) w fun t56 w =>
 DoX Tryz.prog (mPick t50 t56 (.bool false)) w (pk K) fun t57 w =>
 IfX t57 (DoX Tryz.prog (mBin .mul 3 (.int .i64 8) t9) w (pk K) fun t59 w =>
 DoX Tryz.prog (mFA 171 t2 0) w (pk K) fun t60 w =>
 DoX Tryz.prog (mLoad 9 t60) w (pk K) fun t61 w =>
 DoX Tryz.prog (mIx 9 t61 t10) w (pk K) fun t63 w =>
 DoX Tryz.prog (mBin .sub 5 t63 (.int .u8 48)) w (pk K) fun t64 w =>
 DoX Tryz.prog (mConv 5 3 t64) w (pk K) fun t65 w =>
 DoX Tryz.prog (mBin .add 3 t59 t65) w (pk K) fun t66 w =>
 DoX Tryz.prog (mBin .add 3 t10 (.int .i64 1)) w (pk K) fun t68 w =>
 N1 [t66, t68] w) (DoX Tryz.prog (mBin .gtr 3 t10 t1) w (pk K) fun t71 w =>
 IfX t71 (DoX Tryz.prog (mConv 3 5 t9) w (pk K) fun t73 w =>
 DoX Tryz.prog (mBuildS 91 1 #[(0, t73)]) w (pk K) fun t74 w =>
 DoX Tryz.prog (mConv 91 9 t74) w (pk K) fun t75 w =>
 K (.returned (.tuple #[t75, t10])) w) (DoX Tryz.prog (mFA 171 t2 0) w (pk K) fun t77 w =>
 DoX Tryz.prog (mLoad 9 t77) w (pk K) fun t78 w =>
 DoX Tryz.prog (mBin .add 3 t1 (.int .i64 1)) w (pk K) fun t81 w =>
 DoX Tryz.prog (mSlice 9 t78 (some t1) (some t81) none) w (pk K) fun t82 w =>
 DoX Tryz.prog (mBin .add 3 t1 (.int .i64 1)) w (pk K) fun t84 w =>
 K (.returned (.tuple #[t82, t84])) w))
def S_lex_cutter_escaped (t0 t1 : Value) (w : World) (K : Ending → World → Prop) : Prop :=
 DoX Tryz.prog (mBox 171 t0) w (pk K) fun t2 w =>
 DoX Tryz.prog (mFA 171 t2 0) w (pk K) fun t11 w =>
 DoX Tryz.prog (mLoad 9 t11) w (pk K) fun t12 w =>
 DoX Tryz.prog (mIx 9 t12 t1) w (pk K) fun t14 w =>
 CallX Tryz.prog 214 #[(.string ⟨#[110, 114, 116, 98, 102]⟩), t14] w (pk K) fun t15 w =>
 DoX Tryz.prog (mBin .geq 3 t15 (.int .i64 0)) w (pk K) fun t17 w =>
 IfX t17 (DoX Tryz.prog (mBin .add 3 t15 (.int .i64 1)) w (pk K) fun t20 w =>
 DoX Tryz.prog (mSlice 9 (.string ⟨#[10, 13, 9, 8, 12]⟩) (some t15) (some t20) none) w (pk K) fun t21 w =>
 DoX Tryz.prog (mBin .add 3 t1 (.int .i64 1)) w (pk K) fun t23 w =>
 K (.returned (.tuple #[t21, t23])) w) (DoX Tryz.prog (mLoad 171 t2) w (pk K) fun t25 w =>
 CallX Tryz.prog 236 #[t25, t1] w (pk K) fun t27 w =>
 DoX Tryz.prog (mExt t27 0) w (pk K) fun t28 w =>
 DoX Tryz.prog (mExt t27 1) w (pk K) fun t29 w =>
 IfX t29 (K (.returned (.tuple #[(.string ⟨#[]⟩), t28])) w) (LoopX [(.int .i64 0), t1] w (fun vs1 w N1 => ∀ _ : Sg, S_lex_cutter_escaped_0 t1 t2 (vs1.getD 0 undef) (vs1.getD 1 undef) w N1 K)))
theorem S_lex_cutter_escaped_eq (t0 t1 : Value) (w : World) (K : Ending → World → Prop) : wpX Tryz.prog 85 [] [(8, [9, 10])] none (bodyOf Tryz.f237) (topQ Tryz.prog [.tmp 4, .tmp 5] K) (startX [t0, t1]) [] w = S_lex_cutter_escaped t0 t1 w K := by kernel_rfl
theorem S_lex_cutter_escaped_ok {t0 t1 : Value} {w : World} {K : Ending → World → Prop} (h : S_lex_cutter_escaped t0 t1 w K) : Calls Tryz.prog 237 #[t0, t1] w K :=
  calls_of_wpX Tryz.func237 rfl rfl rfl rfl (Eq.mpr (S_lex_cutter_escaped_eq t0 t1 w K) h)

/- (lex.cutter).text -/
def S_lex_cutter_text_1 (t1 t2 t3 t4 t5 t6 : Value) (w : World) (N1 : List Value → World → Prop) (K : Ending → World → Prop) : Prop :=
 DoX Tryz.prog (mEq .eql 3 (.tmp 63) (.const (.int .i64 0)) t5 (.int .i64 0)) w (pk K) fun t64 w =>
 IfX t64 (QuietX w (fun C3 =>
 QDo Tryz.prog C3 (mLoad 171 t1) fun t65 =>
 QDo Tryz.prog C3 (mBin .add 3 t6 (.int .i64 1)) fun t67 =>
 QCall Tryz.prog C3 72 #[t4] fun t68 =>
 QCall Tryz.prog C3 232 #[t65, (.int .i64 3), t67, t68, (.int .i64 32767)] fun t69 =>
 QDo Tryz.prog C3 (mExt t69 0) fun t70 =>
 QDo Tryz.prog C3 (mExt t69 1) fun t71 =>
 ∀ w, C3 w →
 DoX Tryz.prog (mStore 41 t2 t70) w (pk K) fun _ w =>
 RetX Tryz.prog [.cell t2 41, .val t71] w K)) (DoX Tryz.prog (mFA 171 t1 0) w (pk K) fun t72 w =>
 DoX Tryz.prog (mLoad 9 t72) w (pk K) fun t73 w =>
 DoX Tryz.prog (mIx 9 t73 t6) w (pk K) fun t75 w =>
 CallX Tryz.prog 71 #[t4, t75] w (pk K) fun t76 w =>
 DoX Tryz.prog (mBin .add 3 t6 (.int .i64 1)) w (pk K) fun t78 w =>
 N1 [t3, t5, t78] w)
def S_lex_cutter_text_0 (t1 t2 t3 t4 t5 t6 : Value) (w : World) (N1 : List Value → World → Prop) (K : Ending → World → Prop) : Prop :=
 DoX Tryz.prog (mFA 171 t1 0) w (pk K) fun t16 w =>
 DoX Tryz.prog (mLoad 9 t16) w (pk K) fun t17 w =>
 DoX Tryz.prog (mB .len #[9] 3 #[false] #[t17]) w (pk K) fun t18 w =>
 DoX Tryz.prog (mBin .lss 3 t6 t18) w (pk K) fun t19 w =>
 IfX t19 (DoX Tryz.prog (mLoad 171 t1) w (pk K) fun t21 w =>
 CallX Tryz.prog 236 #[t21, t6] w (pk K) fun t23 w =>
 DoX Tryz.prog (mExt t23 0) w (pk K) fun t24 w =>
 DoX Tryz.prog (mExt t23 1) w (pk K) fun t25 w =>
 IfX t25 (CallX Tryz.prog 71 #[t4, (.int .u8 10)] w (pk K) fun t27 w =>
 N1 [t3, t5, t24] w) (JoinX (fun J2 =>
 DoX Tryz.prog (mFA 171 t1 0) w (pk K) fun t29 w =>
 DoX Tryz.prog (mLoad 9 t29) w (pk K) fun t30 w =>
 DoX Tryz.prog (mIx 9 t30 t6) w (pk K) fun t32 w =>
 DoX Tryz.prog (mEq .eql 5 (.tmp 33) (.const (.int .u8 92)) t32 (.int .u8 92)) w (pk K) fun t35 w =>
 IfX t35 (DoX Tryz.prog (mBin .add 3 t6 (.int .i64 1)) w (pk K) fun t37 w =>
 DoX Tryz.prog (mFA 171 t1 0) w (pk K) fun t38 w =>
 DoX Tryz.prog (mLoad 9 t38) w (pk K) fun t39 w =>
 DoX Tryz.prog (mB .len #[9] 3 #[false] #[t39]) w (pk K) fun t40 w =>
 DoX Tryz.prog (mEq .eql 3 (.tmp 37) (.tmp 40) t37 t40) w (pk K) fun t41 w =>
 IfX t41 (CallX Tryz.prog 158 #[(.int .i64 4)] w (pk K) fun t42 w =>
 DoX Tryz.prog (mExt t42 0) w (pk K) fun t43 w =>
 DoX Tryz.prog (mExt t42 1) w (pk K) fun t44 w =>
 DoX Tryz.prog (mStore 41 t2 t43) w (pk K) fun _ w =>
 RetX Tryz.prog [.cell t2 41, .val t44] w K) (DoX Tryz.prog (mLoad 171 t1) w (pk K) fun t46 w =>
 DoX Tryz.prog (mBin .add 3 t6 (.int .i64 1)) w (pk K) fun t48 w =>
 CallX Tryz.prog 237 #[t46, t48] w (pk K) fun t49 w =>
 DoX Tryz.prog (mExt t49 0) w (pk K) fun t50 w =>
 DoX Tryz.prog (mExt t49 1) w (pk K) fun t51 w =>
 CallX Tryz.prog 70 #[t4, t50] w (pk K) fun t53 w =>
 N1 [t3, t5, t51] w)) (DoX Tryz.prog (mEq .eql 5 (.tmp 33) (.const (.int .u8 40)) t32 (.int .u8 40)) w (pk K) fun t56 w =>
 IfX t56 (DoX Tryz.prog (mBin .add 3 t5 (.int .i64 1)) w (pk K) fun t58 w =>
 J2 [t3, t58, t6] w) (DoX Tryz.prog (mEq .eql 5 (.tmp 33) (.const (.int .u8 41)) t32 (.int .u8 41)) w (pk K) fun t60 w =>
 IfX t60 (DoX Tryz.prog (mBin .sub 3 t5 (.int .i64 1)) w (pk K) fun t62 w =>
 J2 [t3, t62, t6] w) (J2 [t3, t5, t6] w)))) (fun vs2 w => ∀ _ : Sg, S_lex_cutter_text_1 t1 t2 (vs2.getD 0 undef) t4 (vs2.getD 1 undef) (vs2.getD 2 undef) w N1 K))) (CallX Tryz.prog 158 #[(.int .i64 4)] w (pk K) fun t79 w =>
 DoX Tryz.prog (mExt t79 0) w (pk K) fun t80 w =>
 DoX Tryz.prog (mExt t79 1) w (pk K) fun t81 w =>
 DoX Tryz.prog (mStore 41 t2 t80) w (pk K) fun _ w =>
 RetX Tryz.prog [.cell t2 41, .val t81] w K)
def S_lex_cutter_text (t0 : Value) (w : World) (K : Ending → World → Prop) : Prop :=
 DoX Tryz.prog (mBox 171 t0) w (pk K) fun t1 w =>
 DoX Tryz.prog (mAlloc 41) w (pk K) fun t2 w =>
 DoX Tryz.prog (mAlloc 93) w (pk K) fun t4 w =>
 DoX Tryz.prog (mFA 171 t1 1) w (pk K) fun t12 w =>
 DoX Tryz.prog (mLoad 3 t12) w (pk K) fun t13 w =>
 DoX Tryz.prog (mBin .add 3 t13 (.int .i64 1)) w (pk K) fun t14 w =>
 LoopX [(.int .i64 0), (.int .i64 1), t14] w (fun vs1 w N1 => ∀ _ : Sg, S_lex_cutter_text_0 t1 t2 (vs1.getD 0 undef) t4 (vs1.getD 1 undef) (vs1.getD 2 undef) w N1 K)
theorem S_lex_cutter_text_eq (t0 : Value) (w : World) (K : Ending → World → Prop) : wpX Tryz.prog 82 [(21, [3, 5, 6])] [(4, [3, 5, 6])] none (bodyOf Tryz.f164) (topQ Tryz.prog [.cell 2 41, .tmp 3] K) (startX [t0]) [] w = S_lex_cutter_text t0 w K := by kernel_rfl
theorem S_lex_cutter_text_ok {t0 : Value} {w : World} {K : Ending → World → Prop} (h : S_lex_cutter_text t0 w K) : Calls Tryz.prog 164 #[t0] w K :=
  calls_of_wpX Tryz.func164 rfl rfl rfl rfl (Eq.mpr (S_lex_cutter_text_eq t0 w K) h)

/- (lex.cutter).hex -/
def S_lex_cutter_hex_2 (t3 t4 t5 t6 : Value) (w : World) (N1 : List Value → World → Prop) (K : Ending → World → Prop) : Prop :=
 DoX Tryz.prog (mBin .add 3 t6 (.int .i64 1)) w (pk K) fun t18 w =>
 N1 [t3, t4, t5, t18] w
def S_lex_cutter_hex_1 (t1 t2 t4 t6 : Value) (w : World) (K : Ending → World → Prop) : Prop :=
 DoX Tryz.prog (mLoad 171 t1) w (pk K) fun t33 w =>
 DoX Tryz.prog (mBin .add 3 t6 (.int .i64 1)) w (pk K) fun t35 w =>
 DoX Tryz.prog (mConv 91 9 t4) w (pk K) fun t37 w =>
 CallX Tryz.prog 232 #[t33, (.int .i64 3), t35, t37, (.int .i64 32767)] w (pk K) fun t38 w =>
 DoX Tryz.prog (mExt t38 0) w (pk K) fun t39 w =>
 DoX Tryz.prog (mExt t38 1) w (pk K) fun t40 w =>
 DoX Tryz.prog (mStore 41 t2 t39) w (pk K) fun _ w =>
 RetX Tryz.prog [.cell t2 41, .val t40] w K
def S_lex_cutter_hex_0 (t1 t2 t3 t4 t5 t6 : Value) (w : World) (N1 : List Value → World → Prop) (K : Ending → World → Prop) : Prop :=
 DoX Tryz.prog (mFA 171 t1 0) w (pk K) fun t13 w =>
 DoX Tryz.prog (mLoad 9 t13) w (pk K) fun t14 w =>
 DoX Tryz.prog (mB .len #[9] 3 #[false] #[t14]) w (pk K) fun t15 w =>
 DoX Tryz.prog (mBin .lss 3 t6 t15) w (pk K) fun t16 w =>
 IfX t16 (JoinX (fun J2 =>
 DoX Tryz.prog (mFA 171 t1 0) w (pk K) fun t19 w =>
 DoX Tryz.prog (mLoad 9 t19) w (pk K) fun t20 w =>
 DoX Tryz.prog (mIx 9 t20 t6) w (pk K) fun t22 w =>
 DoX Tryz.prog (mEq .eql 5 (.tmp 23) (.const (.int .u8 62)) t22 (.int .u8 62)) w (pk K) fun t24 w =>
 IfX t24 (JoinX (fun J3 =>
 DoX Tryz.prog (mBin .geq 3 t5 (.int .i64 0)) w (pk K) fun t26 w =>
 IfX t26 (DoX Tryz.prog (mBin .shl 3 t5 (.int .u64 4)) w (pk K) fun t29 w =>
 DoX Tryz.prog (mConv 3 5 t29) w (pk K) fun t30 w =>
 DoX Tryz.prog (mBuildS 91 1 #[(0, t30)]) w (pk K) fun t31 w =>
 DoX Tryz.prog (mB .append #[91, 91] 91 #[false, false] #[t4, t31]) w (pk K) fun t32 w =>
 J3 [t32] w) (J3 [t4] w)) (fun vs3 w => ∀ _ : Sg, S_lex_cutter_hex_1 t1 t2 (vs3.getD 0 undef) t6 w K)) (CallX Tryz.prog 233 #[t22] w (pk K) fun t42 w =>
 CallX Tryz.prog 211 #[t22] w (pk K) fun t53 w =>
 IfX t53 (J2 [t3, t4, t5] w) (DoX Tryz.prog (mBin .lss 3 t42 (.int .i64 0)) w (pk K) fun t56 w =>
 IfX t56 (CallX Tryz.prog 158 #[(.int .i64 3)] w (pk K) fun t57 w =>
 DoX Tryz.prog (mExt t57 0) w (pk K) fun t58 w =>
 DoX Tryz.prog (mExt t57 1) w (pk K) fun t59 w =>
 DoX Tryz.prog (mStore 41 t2 t58) w (pk K) fun _ w =>
 RetX Tryz.prog [.cell t2 41, .val t59] w K) (DoX Tryz.prog (mBin .lss 3 t5 (.int .i64 0)) w (pk K) fun t62 w =>
 IfX t62 (J2 [t3, t4, t42] w) (DoX Tryz.prog (mBin .shl 3 t5 (.int .u64 4)) w (pk K) fun t45 w =>
 DoX Tryz.prog (mBin .or 3 t45 t42) w (pk K) fun t47 w =>
 DoX Tryz.prog (mConv 3 5 t47) w (pk K) fun t48 w =>
 DoX Tryz.prog (mBuildS 91 1 #[(0, t48)]) w (pk K) fun t49 w =>
 DoX Tryz.prog (mB .append #[91, 91] 91 #[false, false] #[t4, t49]) w (pk K) fun t50 w =>
 J2 [t3, t50, (.int .i64 (-1))] w))))) (fun vs2 w => ∀ _ : Sg, S_lex_cutter_hex_2 (vs2.getD 0 undef) (vs2.getD 1 undef) (vs2.getD 2 undef) t6 w N1 K)) (CallX Tryz.prog 158 #[(.int .i64 4)] w (pk K) fun t64 w =>
 DoX Tryz.prog (mExt t64 0) w (pk K) fun t65 w =>
 DoX Tryz.prog (mExt t64 1) w (pk K) fun t66 w =>
 DoX Tryz.prog (mStore 41 t2 t65) w (pk K) fun _ w =>
 RetX Tryz.prog [.cell t2 41, .val t66] w K)
def S_lex_cutter_hex (t0 : Value) (w : World) (K : Ending → World → Prop) : Prop :=
 DoX Tryz.prog (mBox 171 t0) w (pk K) fun t1 w =>
 DoX Tryz.prog (mAlloc 41) w (pk K) fun t2 w =>
 DoX Tryz.prog (mFA 171 t1 1) w (pk K) fun t9 w =>
 DoX Tryz.prog (mLoad 3 t9) w (pk K) fun t10 w =>
 DoX Tryz.prog (mBin .add 3 t10 (.int .i64 1)) w (pk K) fun t11 w =>
 LoopX [(.int .i64 0), (.slice none 0 0), (.int .i64 (-1)), t11] w (fun vs1 w N1 => ∀ _ : Sg, S_lex_cutter_hex_0 t1 t2 (vs1.getD 0 undef) (vs1.getD 1 undef) (vs1.getD 2 undef) (vs1.getD 3 undef) w N1 K)
theorem S_lex_cutter_hex_eq (t0 : Value) (w : World) (K : Ending → World → Prop) : wpX Tryz.prog 67 [(5, [3, 4, 5]), (10, [4])] [(4, [3, 4, 5, 6])] none (bodyOf Tryz.f162) (topQ Tryz.prog [.cell 2 41, .tmp 3] K) (startX [t0]) [] w = S_lex_cutter_hex t0 w K := by kernel_rfl
theorem S_lex_cutter_hex_ok {t0 : Value} {w : World} {K : Ending → World → Prop} (h : S_lex_cutter_hex t0 w K) : Calls Tryz.prog 162 #[t0] w K :=
  calls_of_wpX Tryz.func162 rfl rfl rfl rfl (Eq.mpr (S_lex_cutter_hex_eq t0 w K) h)

/- lex.class -/
def S_lex_class (t0 : Value) (w : World) (K : Ending → World → Prop) : Prop :=
 CallX Tryz.prog 293 #[t0, (.string ⟨#[43, 45]⟩)] w (pk K) fun t5 w =>
 DoX Tryz.prog (mB .len #[9] 3 #[false] #[t0]) w (pk K) fun t7 w =>
 DoX Tryz.prog (mB .len #[9] 3 #[false] #[t5]) w (pk K) fun t9 w =>
 DoX Tryz.prog (mBin .sub 3 t7 t9) w (pk K) fun t10 w =>
 DoX Tryz.prog (mBin .leq 3 t10 (.int .i64 1)) w (pk K) fun t11 w =>
 GDo t11 true (fun E => E t5 w) w fun t13 w =>
 GDo t11 true (fun E => DoX Tryz.prog (mEq .neq 9 (.tmp 13) (.const (.string ⟨#[]⟩)) t13 (.string ⟨#[]⟩)) w (pk K) E) w fun t14 w =>
 DoX Tryz.prog (mPick t11 t14 (.bool false)) w (pk K) fun t15 w =>
 GDo t15 true (fun E => E t5 w) w fun t17 w =>
 GDo t15 true (fun E => CallX Tryz.prog 294 #[t17, (.string ⟨#[48, 49, 50, 51, 52, 53, 54, 55, 56, 57]⟩)] w (pk K) E) w fun t18 w =>
 GDo t15 true (fun E => DoX Tryz.prog (mEq .eql 9 (.tmp 18) (.const (.string ⟨#[]⟩)) t18 (.string ⟨#[]⟩)) w (pk K) E) w fun t19 w =>
 DoX Tryz.prog (mPick t15 t19 (.bool false)) w (pk K) fun t20 w =>
 IfX t20 (K (.returned (.int .i64 1)) w) (CallX Tryz.prog 93 #[t0, (.string ⟨#[46]⟩)] w (pk K) fun t22 w =>
 IfX t22 (K (.returned (.int .i64 2)) w) (K (.returned (.int .i64 0)) w))
theorem S_lex_class_eq (t0 : Value) (w : World) (K : Ending → World → Prop) : wpX Tryz.prog 23 [] [] none (bodyOf Tryz.f238) (topQ Tryz.prog [.tmp 2] K) (startX [t0]) [] w = S_lex_class t0 w K := by kernel_rfl
theorem S_lex_class_ok {t0 : Value} {w : World} {K : Ending → World → Prop} (h : S_lex_class t0 w K) : Calls Tryz.prog 238 #[t0] w K :=
  calls_of_wpX Tryz.func238 rfl rfl rfl rfl (Eq.mpr (S_lex_class_eq t0 w K) h)

/- lex.whole -/
def S_lex_whole_1 (t4 : Value) (w : World) (K : Ending → World → Prop) : Prop :=
 K (.returned (.tuple #[t4, (.int .i64 0)])) w
def S_lex_whole_0 (t0 t4 t9 : Value) (w : World) (N1 : List Value → World → Prop) (K : Ending → World → Prop) : Prop :=
 DoX Tryz.prog (mNext t9 true 0) w (pk K) fun t10 w =>
 DoX Tryz.prog (mExt t10 0) w (pk K) fun t11 w =>
 IfX t11 (DoX Tryz.prog (mExt t10 2) w (pk K) fun t12 w =>
 DoX Tryz.prog (mBin .mul 2 (.int .i64 10) t4) w (pk K) fun t14 w =>
 DoX Tryz.prog (mBin .sub 21 t12 (.int .i32 48)) w (pk K) fun t16 w =>
 DoX Tryz.prog (mConv 21 2 t16) w (pk K) fun t17 w =>
 DoX Tryz.prog (mBin .add 2 t14 t17) w (pk K) fun t18 w =>
 DoX Tryz.prog (mB .min #[2, 2] 2 #[false, true] #[t18, (.int .i64 2147483648)]) w (pk K) fun t19 w =>
 N1 [t19] w) (DoX Tryz.prog (mBin .gtr 2 t4 (.int .i64 2147483647)) w (pk K) fun t21 w =>
 IfX t21 (K (.returned (.tuple #[(.int .i64 0), (.int .i64 2)])) w) (JoinX (fun J2 =>
 DoX Tryz.prog (mIx 9 t0 (.int .i64 0)) w (pk K) fun t23 w =>
 DoX Tryz.prog (mEq .eql 5 (.tmp 23) (.const (.int .u8 45)) t23 (.int .u8 45)) w (pk K) fun t24 w =>
 IfX t24 (DoX Tryz.prog (mUn .neg t4) w (pk K) fun t26 w =>
 J2 [t26] w) (J2 [t4] w)) (fun vs2 w => ∀ _ : Sg, S_lex_whole_1 (vs2.getD 0 undef) w K)))
def S_lex_whole (t0 : Value) (w : World) (K : Ending → World → Prop) : Prop :=
 CallX Tryz.prog 293 #[t0, (.string ⟨#[43, 45]⟩)] w (pk K) fun t8 w =>
 DoX Tryz.prog (mRange 9 t8) w (pk K) fun t9 w =>
 LoopX [(.int .i64 0)] w (fun vs1 w N1 => ∀ _ : Sg, S_lex_whole_0 t0 (vs1.getD 0 undef) t9 w N1 K)
theorem S_lex_whole_eq (t0 : Value) (w : World) (K : Ending → World → Prop) : wpX Tryz.prog 28 [(10, [4])] [(3, [4])] none (bodyOf Tryz.f239) (topQ Tryz.prog [.tmp 2, .tmp 3] K) (startX [t0]) [] w = S_lex_whole t0 w K := by kernel_rfl
theorem S_lex_whole_ok {t0 : Value} {w : World} {K : Ending → World → Prop} (h : S_lex_whole t0 w K) : Calls Tryz.prog 239 #[t0] w K :=
  calls_of_wpX Tryz.func239 rfl rfl rfl rfl (Eq.mpr (S_lex_whole_eq t0 w K) h)

/- (lex.cutter).word -/
def S_lex_cutter_word_0 (t1 t2 t4 t5 : Value) (w : World) (K : Ending → World → Prop) : Prop :=
 DoX Tryz.prog (mLoad 171 t1) w (pk K) fun t61 w =>
 CallX Tryz.prog 232 #[t61, (.int .i64 5), t4, t5, (.int .i64 127)] w (pk K) fun t64 w =>
 DoX Tryz.prog (mExt t64 0) w (pk K) fun t65 w =>
 DoX Tryz.prog (mExt t64 1) w (pk K) fun t66 w =>
 DoX Tryz.prog (mStore 41 t2 t65) w (pk K) fun _ w =>
 RetX Tryz.prog [.cell t2 41, .val t66] w K
def S_lex_cutter_word (t0 : Value) (w : World) (K : Ending → World → Prop) : Prop :=
 DoX Tryz.prog (mBox 171 t0) w (pk K) fun t1 w =>
 DoX Tryz.prog (mAlloc 41) w (pk K) fun t2 w =>
 DoX Tryz.prog (mLoad 171 t1) w (pk K) fun t10 w =>
 DoX Tryz.prog (mFA 171 t1 1) w (pk K) fun t11 w =>
 DoX Tryz.prog (mLoad 3 t11) w (pk K) fun t12 w =>
 CallX Tryz.prog 234 #[t10, t12] w (pk K) fun t13 w =>
 DoX Tryz.prog (mFA 171 t1 0) w (pk K) fun t14 w =>
 DoX Tryz.prog (mLoad 9 t14) w (pk K) fun t15 w =>
 DoX Tryz.prog (mFA 171 t1 1) w (pk K) fun t16 w =>
 DoX Tryz.prog (mLoad 3 t16) w (pk K) fun t17 w =>
 DoX Tryz.prog (mSlice 9 t15 (some t17) (some t13) none) w (pk K) fun t19 w =>
 JoinX (fun J1 =>
 CallX Tryz.prog 238 #[t19] w (pk K) fun t21 w =>
 DoX Tryz.prog (mEq .eql 3 (.tmp 21) (.const (.int .i64 1)) t21 (.int .i64 1)) w (pk K) fun t23 w =>
 IfX t23 (CallX Tryz.prog 239 #[t19] w (pk K) fun t26 w =>
 DoX Tryz.prog (mExt t26 0) w (pk K) fun t27 w =>
 DoX Tryz.prog (mExt t26 1) w (pk K) fun t28 w =>
 DoX Tryz.prog (mEq .neq 28 (.tmp 29) (.const (.int .i64 0)) t28 (.int .i64 0)) w (pk K) fun t30 w =>
 IfX t30 (CallX Tryz.prog 158 #[t28] w (pk K) fun t32 w =>
 DoX Tryz.prog (mExt t32 0) w (pk K) fun t33 w =>
 DoX Tryz.prog (mExt t32 1) w (pk K) fun t34 w =>
 DoX Tryz.prog (mStore 41 t2 t33) w (pk K) fun _ w =>
 RetX Tryz.prog [.cell t2 41, .val t34] w K) (DoX Tryz.prog (mFA 171 t1 1) w (pk K) fun t35 w =>
 DoX Tryz.prog (mLoad 3 t35) w (pk K) fun t36 w =>
 DoX Tryz.prog (mBuild 41 #[(0, (.int .i64 1)), (1, t36), (2, t13), (3, t27)]) w (pk K) fun t39 w =>
 DoX Tryz.prog (mStore 41 t2 t39) w (pk K) fun _ w =>
 RetX Tryz.prog [.cell t2 41, .val (.int .i64 0)] w K)) (DoX Tryz.prog (mEq .eql 3 (.tmp 21) (.const (.int .i64 2)) t21 (.int .i64 2)) w (pk K) fun t41 w =>
 IfX t41 (CallX Tryz.prog 240 #[t19] w (pk K) fun t44 w =>
 DoX Tryz.prog (mExt t44 0) w (pk K) fun t45 w =>
 DoX Tryz.prog (mExt t44 1) w (pk K) fun t46 w =>
 DoX Tryz.prog (mEq .eql 28 (.tmp 47) (.const (.int .i64 0)) t46 (.int .i64 0)) w (pk K) fun t49 w =>
 IfX t49 (DoX Tryz.prog (mFA 171 t1 1) w (pk K) fun t50 w =>
 DoX Tryz.prog (mLoad 3 t50) w (pk K) fun t51 w =>
 DoX Tryz.prog (mBuild 41 #[(0, (.int .i64 2)), (1, t51), (2, t13), (3, t45)]) w (pk K) fun t54 w =>
 DoX Tryz.prog (mStore 41 t2 t54) w (pk K) fun _ w =>
 RetX Tryz.prog [.cell t2 41, .val (.int .i64 0)] w K) (DoX Tryz.prog (mEq .eql 28 (.tmp 47) (.const (.int .i64 2)) t46 (.int .i64 2)) w (pk K) fun t56 w =>
 IfX t56 (CallX Tryz.prog 158 #[t46] w (pk K) fun t58 w =>
 DoX Tryz.prog (mExt t58 0) w (pk K) fun t59 w =>
 DoX Tryz.prog (mExt t58 1) w (pk K) fun t60 w =>
 DoX Tryz.prog (mStore 41 t2 t59) w (pk K) fun _ w =>
 RetX Tryz.prog [.cell t2 41, .val t60] w K) (J1 [(.int .i64 0)] w))) (J1 [(.int .i64 0)] w))) (fun vs1 w => ∀ _ : Sg, S_lex_cutter_word_0 t1 t2 t13 t19 w K)
theorem S_lex_cutter_word_eq (t0 : Value) (w : World) (K : Ending → World → Prop) : wpX Tryz.prog 67 [(16, [3])] [] none (bodyOf Tryz.f165) (topQ Tryz.prog [.cell 2 41, .tmp 3] K) (startX [t0]) [] w = S_lex_cutter_word t0 w K := by kernel_rfl
theorem S_lex_cutter_word_ok {t0 : Value} {w : World} {K : Ending → World → Prop} (h : S_lex_cutter_word t0 w K) : Calls Tryz.prog 165 #[t0] w K :=
  calls_of_wpX Tryz.func165 rfl rfl rfl rfl (Eq.mpr (S_lex_cutter_word_eq t0 w K) h)

end Go.Proofs.YtjajlcacbbnodaaGreatDoor
/- Contracts: lex (mark, refused, run, told, name, end) of the program. -/
namespace Go.Proofs.YtjajlcacbbnodaaGreatDoor
set_option linter.unusedVariables false
set_option linter.unusedSimpArgs false
set_option linter.defProp false
open Eng Go.RowKit

def tokC (x : Lx.Tok) : List Value := [.int .i64 x.k, .int .i64 x.a, .int .i64 x.t, .int .i64 x.n, .string ⟨x.s.toArray⟩]
def tokV (x : Lx.Tok) : Value := .agg (tokC x).toArray
def tokR (r : Lx.Tok × Int) : Value := .tuple #[tokV r.1, .int .i64 r.2]
def cutC (s : List UInt8) (a : Int) : List Value := [.string ⟨s.toArray⟩, .int .i64 a]
def cutV (s : List UInt8) (a : Int) : Value := .agg (cutC s a).toArray
def cutE (b : Nat) (s : List UInt8) (a : Int) : Ent := .cells b (cutC s a) 171
def tokE (b : Nat) (x : Lx.Tok) : Ent := .cells b (tokC x) 41
theorem aggTok : aggN Tryz.prog 41 = some 5 := by kernel_rfl
theorem aggCut : aggN Tryz.prog 171 = some 2 := by kernel_rfl
theorem nStr : notAgg Tryz.prog 9 = true := by kernel_rfl
theorem nInt : notAgg Tryz.prog 3 = true := by kernel_rfl
theorem nErr : notAgg Tryz.prog 28 = true := by kernel_rfl
theorem szTok : (Tryz.prog.info? 41).map (·.size) = some 5 := by kernel_rfl
section
variable {w : World} {PK : List PanicEntry → World → Prop} {K : Value → World → Prop} {S : Nat → Prop} {w0 : World} {L : List Ent}
theorem fa_c0 {b : Nat} : DoX Tryz.prog (mFA 171 (.pointer (some ⟨b, 0, none⟩)) 0) w PK K = K (.pointer (some ⟨b, 0, none⟩)) w := f_addr (show fOff Tryz.prog 171 0 = some 0 by kernel_rfl)
theorem fa_c1 {b : Nat} : DoX Tryz.prog (mFA 171 (.pointer (some ⟨b, 0, none⟩)) 1) w PK K = K (.pointer (some ⟨b, 1, none⟩)) w := f_addr (show fOff Tryz.prog 171 1 = some 1 by kernel_rfl)
theorem cut_s (ho : OwnS S w0 w L) (i : Nat) {b : Nat} {s : List UInt8} {a : Int} (hi : L[i]? = some (cutE b s a)) : DoX Tryz.prog (mLoad 9 (.pointer (some ⟨b, 0, none⟩))) w PK K = K (.string ⟨s.toArray⟩) w := l_cell nStr (ho.cell i hi 0 rfl)
theorem cut_a (ho : OwnS S w0 w L) (i : Nat) {b : Nat} {s : List UInt8} {a : Int} (hi : L[i]? = some (cutE b s a)) : DoX Tryz.prog (mLoad 3 (.pointer (some ⟨b, 1, none⟩))) w PK K = K (.int .i64 a) w := l_cell nInt (ho.cell i hi 1 rfl)
theorem cut_v (ho : OwnS S w0 w L) (i : Nat) {b : Nat} {s : List UInt8} {a : Int} (hi : L[i]? = some (cutE b s a)) : DoX Tryz.prog (mLoad 171 (.pointer (some ⟨b, 0, none⟩))) w PK K = K (cutV s a) w := l_at (ho.agg i hi aggCut)
theorem cutr_s (ho : OwnS S w0 w L) (i : Nat) {b : Nat} {s : List UInt8} {a : Int} (hi : L[i]? = some (cutE b s a)) : (mLoad 9 (.pointer (some ⟨b, 0, none⟩))).run Tryz.prog w = .ok (.value (.string ⟨s.toArray⟩)) w := run_load_cell nStr (ho.cell i hi 0 rfl)
theorem cutr_a (ho : OwnS S w0 w L) (i : Nat) {b : Nat} {s : List UInt8} {a : Int} (hi : L[i]? = some (cutE b s a)) : (mLoad 3 (.pointer (some ⟨b, 1, none⟩))).run Tryz.prog w = .ok (.value (.int .i64 a)) w := run_load_cell nInt (ho.cell i hi 1 rfl)
theorem cutr_v (ho : OwnS S w0 w L) (i : Nat) {b : Nat} {s : List UInt8} {a : Int} (hi : L[i]? = some (cutE b s a)) : (mLoad 171 (.pointer (some ⟨b, 0, none⟩))).run Tryz.prog w = .ok (.value (cutV s a)) w := run_load_at (ho.agg i hi aggCut)
theorem o_cut (s : List UInt8) (a : Int) (ho : OwnS S w0 w L) (k : ∀ b w', OwnS S w0 w' (cutE b s a :: L) → K (.pointer (some ⟨b, 0, none⟩)) w') : DoX Tryz.prog (mBox 171 (cutV s a)) w PK K :=
  o_new (fun b => .pointer (some ⟨b, 0, none⟩)) (cutC s a) 171 (fun _ => by kernel_rfl) ho k
theorem o_tok (ho : OwnS S w0 w L) (k : ∀ b w', OwnS S w0 w' (tokE b Lx.none_ :: L) → K (.pointer (some ⟨b, 0, none⟩)) w') : DoX Tryz.prog (mAlloc 41) w PK K :=
  o_new (fun b => .pointer (some ⟨b, 0, none⟩)) (tokC Lx.none_) 41 (fun _ => by kernel_rfl) ho k
theorem tokC_one (x : Lx.Tok) : ∀ v ∈ tokC x, v.oneCell' = true := by
  intro v hv
  simp only [tokC, List.mem_cons, List.not_mem_nil, or_false] at hv
  rcases hv with rfl | rfl | rfl | rfl | rfl <;> rfl
/-- A token is put into a variable, and returned with an error. -/
theorem tok_put {KE : Ending → World → Prop} (i : Nat) {b : Nat} {x y : Lx.Tok} {e : Int} (ho : Own w0 w L) (hi : L[i]? = some (tokE b x)) (k : ∀ w', Own w0 w' (L.set i (tokE b y)) → KE (.returned (tokR (y, e))) w') :
    DoX Tryz.prog (mStore 41 (.pointer (some ⟨b, 0, none⟩)) (tokV y)) w PK fun _ w => RetX Tryz.prog [.cell (.pointer (some ⟨b, 0, none⟩)) 41, .val (.int .i64 e)] w KE := by
  refine o_put i ho hi (new := tokC y) szTok (tokC_one y) rfl fun w' ho' => ?_
  have hi' : (L.set i (tokE b y))[i]? = some (tokE b y) := by
    have := (List.getElem?_eq_some_iff.1 hi).1
    simp [this]
  exact ret_v2 (rv_cell (ho'.agg i hi' aggTok)) rv_val (k w' ho')
theorem run_ext0 {a b : Value} : (mExt (.tuple #[a, b]) 0).run Tryz.prog w = .ok (.value a) w := by kernel_rfl
theorem run_ext1 {a b : Value} : (mExt (.tuple #[a, b]) 1).run Tryz.prog w = .ok (.value b) w := by kernel_rfl
theorem x_0 {a b : Value} : DoX Tryz.prog (mExt (.tuple #[a, b]) 0) w PK K = K a w := do_eq (by kernel_rfl)
theorem x_1 {a b : Value} : DoX Tryz.prog (mExt (.tuple #[a, b]) 1) w PK K = K b w := do_eq (by kernel_rfl)
/-- A call whose token and error are returned. -/
theorem tok_tail {KE : Ending → World → Prop} {PK1 PK2 PK3 PK4 : List PanicEntry → World → Prop} (i : Nat) {b : Nat} {x : Lx.Tok} {r : Lx.Tok × Int} {f : Nat} {args : Array Value} (ho : Own w0 w L) (hi : L[i]? = some (tokE b x))
    (h : Ret Tryz.prog f args w (fun v w' => v = tokR r ∧ Below w.heap.size w w')) (k : ∀ w', Below w0.heap.size w0 w' → KE (.returned (tokR r)) w') :
    CallX Tryz.prog f args w PK1 fun t w => DoX Tryz.prog (mExt t 0) w PK2 fun u w => DoX Tryz.prog (mExt t 1) w PK3 fun v w => DoX Tryz.prog (mStore 41 (.pointer (some ⟨b, 0, none⟩)) u) w PK4 fun _ w => RetX Tryz.prog [.cell (.pointer (some ⟨b, 0, none⟩)) 41, .val v] w KE := by
  refine c_below ho h ?_
  rintro v w' rfl ho'
  rw [tokR, x_0, x_1]
  exact tok_put i ho' hi fun w' ho => k w' ho.done
theorem m_tok0 : DoX Tryz.prog (mBuild 41 #[]) w PK K = K (tokV Lx.none_) w := do_eq (by kernel_rfl)
theorem m_tok2 {a t : Int} : DoX Tryz.prog (mBuild 41 #[(1, .int .i64 a), (2, .int .i64 t)]) w PK K = K (tokV ⟨0, a, t, 0, []⟩) w := do_eq (by kernel_rfl)
theorem m_tok4 {k a t : Int} {s : List UInt8} : DoX Tryz.prog (mBuild 41 #[(0, .int .i64 k), (1, .int .i64 a), (2, .int .i64 t), (4, .string ⟨s.toArray⟩)]) w PK K = K (tokV ⟨k, a, t, 0, s⟩) w := do_eq (by kernel_rfl)
theorem r_tok4 {k a t : Int} {s : List UInt8} : (mBuild 41 #[(0, .int .i64 k), (1, .int .i64 a), (2, .int .i64 t), (4, .string ⟨s.toArray⟩)]).run Tryz.prog w = .ok (.value (tokV ⟨k, a, t, 0, s⟩)) w := by kernel_rfl
theorem m_tokn {k a t n : Int} : DoX Tryz.prog (mBuild 41 #[(0, .int .i64 k), (1, .int .i64 a), (2, .int .i64 t), (3, .int .i64 n)]) w PK K = K (tokV ⟨k, a, t, n, []⟩) w := do_eq (by kernel_rfl)
end
theorem refused_ret (e : Int) (w : World) : Ret Tryz.prog 158 #[.int .i64 e] w (fun v w' => v = tokR (Lx.refused e) ∧ Below w.heap.size w w') := by
  refine ret_of fun K hK => S_lex_refused_ok ?_
  unfold S_lex_refused
  refine o_tok (Own.start w) fun b w1 ho => ?_
  rw [m_tok0]
  exact tok_put 0 ho rfl fun w' ho => hK _ _ ⟨rfl, ho.done⟩
theorem told_ret (s : List UInt8) (a k t : Int) (x : List UInt8) (most : Int) (w : World) : Ret Tryz.prog 232 #[cutV s a, .int .i64 k, .int .i64 t, .string ⟨x.toArray⟩, .int .i64 most] w (fun v w' => v = tokR (Lx.told k a t x most) ∧ Below w.heap.size w w') := by
  refine ret_of fun K hK => S_lex_cutter_told_ok ?_
  unfold S_lex_cutter_told
  refine o_cut s a (Own.start w) fun b1 w1 ho => ?_
  refine o_tok ho fun b w2 ho => ?_
  by_cases h : most < (x.length : Int)
  · simp only [rs, s_len Tryz.underlying9, h, decide_true]
    exact tok_tail 0 ho rfl (refused_ret 5 _) fun w' hb => hK _ _ ⟨by rw [Lx.told, if_pos h], hb⟩
  · simp only [rs, s_len Tryz.underlying9, h, decide_false, fa_c1, cut_a ho 1 rfl, m_tok4]
    exact tok_put 0 ho rfl fun w' ho => hK _ _ ⟨by rw [Lx.told, if_neg h], ho.done⟩
theorem mark_ret (s : List UInt8) (a n : Nat) (w : World) (hs : s.length ≤ 1099511627776) (h : a + n ≤ s.length) : Ret Tryz.prog 161 #[cutV s a, .int .i64 n] w (fun v w' => v = tokR (Lx.mark s a n) ∧ Below w.heap.size w w') := by
  refine ret_of fun K hK => S_lex_cutter_mark_ok ?_
  unfold S_lex_cutter_mark
  refine o_cut s a (Own.start w) fun b1 w1 ho => ?_
  refine o_tok ho fun b w2 ho => ?_
  have f1 : fOff Tryz.prog 171 1 = some 1 := by kernel_rfl
  have f0 : fOff Tryz.prog 171 0 = some 0 := by kernel_rfl
  have hw : IntKind.wrap .i64 ((a : Int) + (n : Int)) = ((a + n : Nat) : Int) := by rw [wrap64_id (by omega) (by omega)]; simp
  refine quiet (q_do _ (fun _ => run_fa f1) (q_at _ (fun _ hb => cutr_a (ho.grow hb) 1 rfl) (q_do _ (fun _ => run_fa f1) (q_at _ (fun _ hb => cutr_a (ho.grow hb) 1 rfl) (q_do _ (fun _ => by rw [r_add, hw]) ?_)))))
  refine q_do _ (fun _ => run_fa f0) (q_at _ (fun _ hb => cutr_s (ho.grow hb) 1 rfl) (q_do _ (fun _ => run_fa f1) (q_at _ (fun _ hb => cutr_a (ho.grow hb) 1 rfl) (q_do _ (fun _ => run_fa f1) (q_at _ (fun _ hb => cutr_a (ho.grow hb) 1 rfl) (q_do _ (fun _ => by rw [r_add, hw]) ?_))))))
  refine q_do (.string ⟨(Lx.cut s a (a + n)).toArray⟩) (fun w => ?_) (q_do _ (fun _ => r_tok4) ?_)
  · have := @run_s_slice Tryz.prog w 9 s .i64 .i64 (a : Int) ((a + n : Nat) : Int) Tryz.underlying9 (by omega) (by omega) (by omega)
    rw [this]; rfl
  · intro w3 hb
    exact tok_put 0 (ho.grow hb) rfl fun w' ho => hK _ _ ⟨rfl, ho.done⟩
theorem run_ret (s : List UInt8) (a : Int) (i : Nat) (w : World) (hs : s.length ≤ 1099511627776) (h : i ≤ s.length) : Ret Tryz.prog 234 #[cutV s a, .int .i64 i] w (fun v w' => v = .int .i64 (Lx.run s i) ∧ Below w.heap.size w w') := by
  refine ret_of fun K hK => S_lex_cutter_run_ok ?_
  unfold S_lex_cutter_run
  refine o_cut s a (Own.start w) fun b1 w1 ho => ?_
  refine loop (fun vs w' => ∃ (j : Nat), vs = [.int .i64 j] ∧ j ≤ s.length ∧ Lx.run s j = Lx.run s i ∧ w1 = w') (fun vs _ => s.length - n0 vs) ⟨i, rfl, h, rfl, rfl⟩ ?_
  rintro vs w2 ⟨j, rfl, hj, he, rfl⟩ _
  simp only [S_lex_cutter_run_0, gd, fa_c0, cut_s ho 0 rfl, s_len Tryz.underlying9]
  rw [b_lss]
  by_cases hlt : (j : Int) < (s.length : Int)
  · have hi2 : j < s.length := by omega
    have hd := Lx.drop_cons hi2
    have hx : ∀ {PK K}, DoX Tryz.prog (mIx 9 (.string ⟨s.toArray⟩) (.int .i64 (j : Int))) w1 PK K = K (.int .u8 (s[j].toNat : Int)) w1 := s_ix (c := s[j]) Tryz.underlying9 (Int.natCast_nonneg j) (by simp [hi2])
    simp only [hlt, decide_true, rs, fa_c0, cut_s ho 0 rfl, hx]
    refine c_eq (regular_ret s[j] w1) ?_
    cases hr : Oc.regular s[j] with
    | true =>
      simp only [rs]
      rw [wrap64_id (by omega) (by omega)]
      refine nextX ⟨j + 1, rfl, by omega, ?_, rfl⟩ (by simp [n0, intOf]; omega)
      rw [← he, Lx.run, Lx.run, hd, Lx.runF, if_pos hr]; omega
    | false =>
      simp only [rs]
      refine hK _ _ ⟨?_, ho.done⟩
      rw [← he, Lx.run, hd, Lx.runF, if_neg (by simp [hr])]; simp
  · have hi2 : j = s.length := by omega
    subst hi2
    simp only [hlt, decide_false, rs, g_un]
    refine hK _ _ ⟨?_, ho.done⟩
    rw [← he, Lx.run, List.drop_length]; simp [Lx.runF]
theorem end_ret (s : List UInt8) (a : Int) (i : Nat) (w : World) (hs : s.length ≤ 1099511627776) (h : i < s.length) : Ret Tryz.prog 236 #[cutV s a, .int .i64 i] w (fun v w' => v = .tuple #[.int .i64 (if Lx.eol s[i] then (Lx.line s i : Int) else (i : Int)), .bool (Lx.eol s[i])] ∧ Below w.heap.size w w') := by
  refine ret_of fun K hK => S_lex_cutter_end_ok ?_
  unfold S_lex_cutter_end
  refine o_cut s a (Own.start w) fun b1 w1 ho => ?_
  have hx : ∀ {PK K}, DoX Tryz.prog (mIx 9 (.string ⟨s.toArray⟩) (.int .i64 (i : Int))) w1 PK K = K (.int .u8 (s[i].toNat : Int)) w1 := s_ix (c := s[i]) Tryz.underlying9 (Int.natCast_nonneg i) (by simp [h])
  have e1 := u8d s[i] 13 13 rfl
  have e2 := u8d s[i] 10 10 rfl
  have fin : ∀ e : Lx.eol s[i] = true, CallX Tryz.prog 292 #[.string ⟨s.toArray⟩, .int .i64 i] w1 (pk K) fun t21 w => K (.returned (.tuple #[t21, (.bool true)])) w := by
    intro e
    refine c_eq (line_ret s i w1 (by omega) (by omega)) ?_
    exact hK _ _ ⟨by rw [e]; rfl, ho.done⟩
  by_cases h1 : s[i] = 13
  · simp only [fa_c0, cut_s ho 0 rfl, hx, rs, e1, decide_eq_true h1, g_un]
    exact fin (by simp [Lx.eol, h1])
  simp only [fa_c0, cut_s ho 0 rfl, hx, rs, e1, decide_eq_false h1]
  by_cases h2 : s[i] = 10
  · simp only [rs, e2, decide_eq_true h2, g_un]
    exact fin (by simp [Lx.eol, h2])
  simp only [rs, e2, decide_eq_false h2, g_un]
  exact hK _ _ ⟨by simp [Lx.eol, h1, h2], ho.done⟩
end Go.Proofs.YtjajlcacbbnodaaGreatDoor
/- Code in continuation form, by program (gen.py): 12 functions. -/
namespace Go.Proofs.YtjajlcacbbnodaaGreatDoor
set_option linter.unusedVariables false
set_option linter.unusedSimpArgs false
set_option linter.defProp false
set_option linter.unusedVariables false
set_option maxRecDepth 20000
open Eng

/- foliantref04.Int -/
/- foliantref04.Real -/
/- foliantref04.String -/
/- foliantref04.Hex -/
/- foliantref04.Name -/
/- foliantref04.Join -/
/- foliantref04.Pad -/
/- foliantref04.digits -/
/- foliantref01.Hex -/
/- foliantref01.Delim -/
/- foliantref01.Regular -/
/- foliantref01.White -/
end Go.Proofs.YtjajlcacbbnodaaGreatDoor
/- Contracts: the references of layers 1 and 4 (White, Delim, Regular, Hex; Int, Real, String, Hex, Name, Join, Pad). -/
namespace Go.Proofs.YtjajlcacbbnodaaGreatDoor
set_option linter.unusedVariables false
set_option linter.unusedSimpArgs false
set_option linter.defProp false
open Eng Go.RowKit

abbrev BRow (v : Value) (l : List UInt8) : Ent := .row 5 1 v l.length (bytesV l)
/-- append(out, bytes..): the first piece is the row. -/
theorem o_appB {S : Nat → Prop} {w0 w : World} {L : List Ent} {v : Value} {l m : List UInt8} {parts : Array (Nat × Value)} {n : Nat} {cs : Array Bool} {PK PK2 : List PanicEntry → World → Prop} {K : Value → World → Prop}
    (hm : ∀ w, (mBuildS 91 n parts).run Tryz.prog w = .ok (.value (.slice (some ⟨w.heap.size, 0, none⟩) m.length m.length)) (w.alloc (.cells (bytesV m).toArray 5)))
    (ho : OwnS S w0 w (BRow v l :: L)) (hb : l.length + m.length ≤ 140737488355328) (k : ∀ v' w', OwnS S w0 w' (BRow v' (l ++ m) :: L) → K v' w') :
    DoX Tryz.prog (mBuildS 91 n parts) w PK fun t w => DoX Tryz.prog (mB .append #[91, 91] 91 cs #[v, t]) w PK2 K := by
  refine o_new (fun b => .slice (some ⟨b, 0, none⟩) m.length m.length) (bytesV m) 5 hm ho fun nb w4 h4 => ?_
  refine o_append 1 Tryz.underlying91 (show elB Tryz.prog 5 1 1 = true by kernel_rfl) (by decide) h4 rfl (h4.sl 0 rfl 1 m.length m.length (by rw [bytesV_length, Nat.mul_one])) (bytesV_one _) (by omega) (by omega) fun v' w5 h5 => ?_
  refine k v' w5 ?_
  have e : BRow v' (l ++ m) = .row 5 1 v' (l.length + m.length) (bytesV l ++ bytesV m) := by
    rw [BRow, bytesV_append, List.length_append]
  rw [e]
  exact h5.tail
/-- string(out). -/
theorem o_strB {S : Nat → Prop} {w0 w : World} {L : List Ent} {v : Value} {l : List UInt8} {PK : List PanicEntry → World → Prop} {K : Value → World → Prop} (i : Nat) (ho : OwnS S w0 w L) (hi : L[i]? = some (BRow v l)) :
    DoX Tryz.prog (mConv 91 9 v) w PK K = K (.string ⟨l.toArray⟩) w :=
  c_bytes (l := l) Tryz.underlying91 Tryz.underlying5 Tryz.underlying9 (ho.slRow i hi)
theorem decDigits_len (u : Nat) (h : u < 18446744073709551616) : (Lib.decDigits u).length ≤ 20 := by rw [Lib.decDigits_length]; exact Lib.nDigits_le20 u h
end Go.Proofs.YtjajlcacbbnodaaGreatDoor
/- Contracts: octet.Unhex, names of the program. -/
namespace Go.Proofs.YtjajlcacbbnodaaGreatDoor
set_option linter.unusedVariables false
set_option linter.unusedSimpArgs false
set_option linter.defProp false
open Eng Go.RowKit

theorem hexor_fin : ∀ n m : Fin 16, bOr .i64 (IntKind.wrap .i64 ((n.val : Int) * 2 ^ (min (4 : Int).toNat IntKind.i64.bits))) (m.val : Int) = ((16 * n.val + m.val : Nat) : Int) := by decide +kernel
theorem hexor {a b : Int} (ha : 0 ≤ a) (ha2 : a ≤ 15) (hb : 0 ≤ b) (hb2 : b ≤ 15) : bOr .i64 (IntKind.wrap .i64 (a * 2 ^ (min (4 : Int).toNat IntKind.i64.bits))) b = 16 * a + b := by
  have := hexor_fin ⟨a.toNat, by omega⟩ ⟨b.toNat, by omega⟩
  simp only at this
  rw [Int.toNat_of_nonneg ha, Int.toNat_of_nonneg hb] at this
  rw [this]; omega
theorem byte_nat {a b : Int} (ha : 0 ≤ a) (ha2 : a ≤ 15) (hb : 0 ≤ b) (hb2 : b ≤ 15) : ((Lx.byte a b).toNat : Int) = 16 * a + b := by
  rw [Lx.byte, UInt8.toNat_ofNat']; omega
theorem unhex_odd : ∀ (n : Nat) (l : List UInt8), l.length ≤ n → l.length % 2 = 1 → Lx.unhex l = none
  | _, [], _, h => by simp at h
  | _, [_], _, _ => rfl
  | 0, _ :: _ :: _, h, _ => by simp at h
  | n + 1, a :: b :: t, hl, h => by
    simp only [List.length_cons] at hl h
    rw [Lx.unhex, unhex_odd n t (by omega) (by omega)]
    simp
theorem unhex_step {s : List UInt8} {i : Nat} (h : i + 1 < s.length) : Lx.unhex (s.drop i) = if Lx.digit s[i] < 0 ∨ Lx.digit s[i + 1] < 0 then none else (Lx.unhex (s.drop (i + 2))).map (Lx.byte (Lx.digit s[i]) (Lx.digit s[i + 1]) :: ·) := by
  rw [Lx.drop_cons (show i < s.length by omega), Lx.drop_cons h, Lx.unhex]
theorem unhexE_none {s : List UInt8} (h : Lx.unhex s = none) : Lx.unhexE s = ([], 3) := by rw [Lx.unhexE, h]
theorem unhexE_some {s x : List UInt8} (h : Lx.unhex s = some x) : Lx.unhexE s = (x, 0) := by rw [Lx.unhexE, h]
theorem m_b1 {n : Int} (w : World) (c : UInt8) (h : (c.toNat : Int) = n) : (mBuildS 91 1 #[(0, .int .u8 n)]).run Tryz.prog w = .ok (.value (.slice (some ⟨w.heap.size, 0, none⟩) [c].length [c].length)) (w.alloc (.cells (bytesV [c]).toArray 5)) := by
  subst h; kernel_rfl
/-- append(out, c): one byte. -/
theorem o_app1 {S : Nat → Prop} {w0 w : World} {L : List Ent} {v : Value} {l : List UInt8} {n : Int} {cs : Array Bool} {PK PK2 : List PanicEntry → World → Prop} {K : Value → World → Prop} (c : UInt8) (h : (c.toNat : Int) = n)
    (ho : OwnS S w0 w (BRow v l :: L)) (hb : l.length + 1 ≤ 140737488355328) (k : ∀ v' w', OwnS S w0 w' (BRow v' (l ++ [c]) :: L) → K v' w') :
    DoX Tryz.prog (mBuildS 91 1 #[(0, .int .u8 n)]) w PK fun t w => DoX Tryz.prog (mB .append #[91, 91] 91 cs #[v, t]) w PK2 K :=
  o_appB (m := [c]) (fun w => m_b1 w c h) ho (by simpa using hb) k
theorem c_8 {w : World} {PK : List PanicEntry → World → Prop} {K : Value → World → Prop} {n : Int} : DoX Tryz.prog (mConv 3 5 (.int .i64 n)) w PK K = K (.int .u8 (IntKind.wrap .u8 n)) w :=
  c_int (show (Tryz.prog.underlying 3).isSome = true by kernel_rfl) Tryz.underlying5
theorem c_64 {w : World} {PK : List PanicEntry → World → Prop} {K : Value → World → Prop} {n : Int} (h0 : 0 ≤ n) (h1 : n ≤ 255) : DoX Tryz.prog (mConv 5 3 (.int .u8 n)) w PK K = K (.int .i64 n) w := by
  rw [c_int (show (Tryz.prog.underlying 5).isSome = true by kernel_rfl) Tryz.underlying3, wrap64_id (by omega) (by omega)]
 attribute [local congr] g_congr in
theorem unhex_ret (s : List UInt8) (w : World) (hs : s.length ≤ 1099511627776) : Ret Tryz.prog 235 #[.string ⟨s.toArray⟩] w (fun v w' => v = .tuple #[.string ⟨(Lx.unhexE s).1.toArray⟩, .int .i64 (Lx.unhexE s).2] ∧ Below w.heap.size w w') := by
  refine ret_of fun K hK => S_octet_Unhex_ok ?_
  unfold S_octet_Unhex
  rw [s_len Tryz.underlying9, b_rem (by omega)]
  have hr : ((s.length : Int).tmod 2) = ((s.length % 2 : Nat) : Int) := by rw [Int.tmod_eq_emod_of_nonneg (by omega)]; omega
  rw [hr]
  by_cases hodd : s.length % 2 = 1
  · rw [hodd]
    simp only [rs]
    have hu : ¬ ((1 : Nat) : Int) = 0 := by omega
    simp only [hu, decide_true, decide_not, decide_false, Bool.not_false, rs]
    exact hK _ _ ⟨by rw [unhexE_none (unhex_odd _ s (Nat.le_refl _) hodd)], (Own.start w).done⟩
  have heven : s.length % 2 = 0 := by omega
  have hq : ((s.length : Int).tdiv 2) = ((s.length / 2 : Nat) : Int) := by rw [Int.tdiv_eq_ediv_of_nonneg (by omega)]; omega
  rw [heven]
  simp only [rs, ne_eq, Int.natCast_zero, not_true, decide_false]
  rw [s_len Tryz.underlying9, b_quo (by omega), hq, wrap64_id (by omega) (by omega)]
  refine o_make (c := s.length / 2) rfl Tryz.underlying91 (show elB Tryz.prog 5 1 1 = true by kernel_rfl) (by omega) (by omega) (Own.start w) fun v w1 h1 => ?_
  refine loop (fun vs w' => ∃ (i : Nat) (v : Value) (acc : List UInt8), vs = [v, .int .i64 i] ∧ i ≤ s.length ∧ i % 2 = 0 ∧ acc.length ≤ i ∧ Lx.unhex s = (Lx.unhex (s.drop i)).map (acc ++ ·) ∧ Own w w' [BRow v acc])
    (fun vs _ => s.length - n1 vs) ⟨0, v, [], rfl, by omega, rfl, by simp, by simp, by simpa [BRow, bytesV] using h1⟩ ?_
  rintro vs w2 ⟨i, v, acc, rfl, hi, hi0, ha, he, ho⟩ _
  simp only [S_octet_Unhex_0, gd, s_len Tryz.underlying9]
  rw [b_lss]
  by_cases hlt : (i : Int) < (s.length : Int)
  · have hi2 : i + 1 < s.length := by omega
    have hi3 : i < s.length := by omega
    simp only [hlt, decide_true, i_t]
    have b1 := Lx.digit_bd s[i]
    have b2 := Lx.digit_bd s[i + 1]
    have hw1 : IntKind.wrap .i64 ((i : Int) + 1) = ((i + 1 : Nat) : Int) := by rw [wrap64_id (by omega) (by omega)]; omega
    have hc1 : s[(i : Int).toNat]? = some s[i] := by simp [hi3]
    have hc2 : s[((i + 1 : Nat) : Int).toNat]? = some s[i + 1] := by rw [Int.toNat_natCast]; simp [hi2]
    refine quiet (q_do _ (fun w => run_s_ix (c := s[i]) Tryz.underlying9 (Int.natCast_nonneg i) hc1) ?_)
    refine q_call (.int .i64 (Lx.digit s[i])) (fun w hb => ret_same (digit_ret s[i] w) hb) ?_
    refine q_do (.int .i64 ((i + 1 : Nat) : Int)) (fun w => by rw [r_add, hw1]) ?_
    refine q_do _ (fun w => run_s_ix (c := s[i + 1]) Tryz.underlying9 (Int.natCast_nonneg _) hc2) ?_
    refine q_call (.int .i64 (Lx.digit s[i + 1])) (fun w hb => ret_same (digit_ret s[i + 1] w) hb) ?_
    intro w3 hb3
    have ho := ho.grow hb3
    rw [unhex_step hi2] at he
    simp +contextual only [rs, gs]
    by_cases hbad : Lx.digit s[i] < 0 ∨ Lx.digit s[i + 1] < 0
    · have hb : (decide (Lx.digit s[i] < 0) || decide (Lx.digit s[i + 1] < 0)) = true := by simpa using hbad
      simp only [hb, i_t]
      rw [if_pos hbad] at he
      exact hK _ _ ⟨by rw [unhexE_none he], ho.done⟩
    have hb : (decide (Lx.digit s[i] < 0) || decide (Lx.digit s[i + 1] < 0)) = false := by simpa using hbad
    simp only [hb, i_f]
    rw [if_neg hbad] at he
    rw [b_shl (by omega), b_or, hexor (by omega) (by omega) (by omega) (by omega), c_8, wrap8_id (by omega) (by omega)]
    refine o_app1 (Lx.byte (Lx.digit s[i]) (Lx.digit s[i + 1])) (byte_nat (by omega) (by omega) (by omega) (by omega)) ho (by omega) fun v' w4 ho => ?_
    rw [wrap64_id (by omega) (by omega)]
    refine nextX ⟨i + 2, v', _, rfl, by omega, by omega, by simp; omega, ?_, ho⟩ (by simp [n1, intOf]; omega)
    rw [he, Option.map_map]
    congr 1
    funext x; simp
  · have hi2 : i = s.length := by omega
    subst hi2
    simp only [hlt, decide_false, i_f]
    rw [o_strB 0 ho rfl]
    rw [List.drop_length, Lx.unhex, Option.map_some, List.append_nil] at he
    exact hK _ _ ⟨by rw [unhexE_some he], ho.done⟩
end Go.Proofs.YtjajlcacbbnodaaGreatDoor
/- Contracts: names and escapes of the program. -/
namespace Go.Proofs.YtjajlcacbbnodaaGreatDoor
set_option linter.unusedVariables false
set_option linter.unusedSimpArgs false
set_option linter.defProp false
open Eng Go.RowKit

theorem cut_nil (s : List UInt8) (i : Nat) : Lx.cut s i i = [] := by simp [Lx.cut]
theorem cut_cons {s : List UInt8} {i j : Nat} (h : i < j) (hj : j ≤ s.length) : Lx.cut s i j = s[i] :: Lx.cut s (i + 1) j := by
  unfold Lx.cut
  rw [Lx.drop_cons (show i < s.length by omega), show j - i = (j - (i + 1)) + 1 by omega, List.take_succ_cons]
theorem cut_length {s : List UInt8} {i j : Nat} (hj : j ≤ s.length) : (Lx.cut s i j).length = j - i := by
  unfold Lx.cut; simp; omega
theorem cut_one {s : List UInt8} {i : Nat} (h : i < s.length) : Lx.cut s i (i + 1) = [s[i]] := by rw [cut_cons (by omega) (by omega), cut_nil]
theorem cut_two {s : List UInt8} {i : Nat} (h : i + 1 < s.length) : Lx.cut s i (i + 2) = [s[i], s[i + 1]] := by rw [cut_cons (by omega) (by omega), cut_one h]
theorem s_cut {s : List UInt8} {i j : Nat} {x y : Int} {w : World} {PK : List PanicEntry → World → Prop} {K : Value → World → Prop} (hx : x = (i : Int)) (hy : y = (j : Int)) (h : i ≤ j) (hj : j ≤ s.length) :
    DoX Tryz.prog (mSlice 9 (.string ⟨s.toArray⟩) (some (.int .i64 x)) (some (.int .i64 y)) none) w PK K = K (.string ⟨(Lx.cut s i j).toArray⟩) w := by
  subst hx; subst hy
  rw [s_slice Tryz.underlying9 (by omega) (by omega) (by omega)]
  rfl
theorem s_at {s : List UInt8} {i : Nat} {w : World} {PK : List PanicEntry → World → Prop} {K : Value → World → Prop} (h : i < s.length) :
    DoX Tryz.prog (mIx 9 (.string ⟨s.toArray⟩) (.int .i64 (i : Int))) w PK K = K (.int .u8 (s[i].toNat : Int)) w :=
  s_ix (c := s[i]) Tryz.underlying9 (Int.natCast_nonneg i) (by simp [h])
theorem unhexE_two (a b : UInt8) : Lx.unhexE [a, b] = if Lx.digit a < 0 ∨ Lx.digit b < 0 then ([], 3) else ([Lx.byte (Lx.digit a) (Lx.digit b)], 0) := by
  by_cases h : Lx.digit a < 0 ∨ Lx.digit b < 0
  · rw [if_pos h]; exact unhexE_none (by rw [Lx.unhex, if_pos h])
  · rw [if_neg h]; exact unhexE_some (by rw [Lx.unhex, if_neg h, Lx.unhex]; rfl)
theorem name_ret (s : List UInt8) (a : Nat) (w : World) (hs : s.length ≤ 1099511627776) (ha : a < s.length) : Ret Tryz.prog 163 #[cutV s a] w (fun v w' => v = tokR (Lx.name s a) ∧ Below w.heap.size w w') := by
  refine ret_of fun K hK => S_lex_cutter_name_ok ?_
  unfold S_lex_cutter_name
  refine o_cut s a (Own.start w) fun b1 w1 ho => ?_
  refine o_tok ho fun b w2 ho => ?_
  have hw1 : IntKind.wrap .i64 ((a : Int) + 1) = ((a + 1 : Nat) : Int) := by rw [wrap64_id (by omega) (by omega)]; omega
  simp only [cut_v ho 1 rfl, fa_c1, cut_a ho 1 rfl, rs, hw1]
  have hto := Lx.run_le s (show a + 1 ≤ s.length by omega)
  have hto2 : a + 1 ≤ Lx.run s (a + 1) := by unfold Lx.run; omega
  refine c_below ho (run_ret s a (a + 1) w2 hs (by omega)) ?_
  rintro _ w3 rfl ho
  simp only [fa_c1, cut_a ho 1 rfl, rs, hw1]
  generalize hT : Lx.run s (a + 1) = tt at *
  refine loop (fun vs w' => ∃ (i : Nat) (v d : Value) (acc : List UInt8), vs = [d, v, .int .i64 i] ∧ a + 1 ≤ i ∧ i ≤ tt ∧ acc.length ≤ i ∧ Lx.nameF (Lx.cut s (a + 1) tt) = (Lx.nameF (Lx.cut s i tt)).map (acc ++ ·) ∧ Own w w' [BRow v acc, tokE b Lx.none_, cutE b1 s a])
    (fun vs _ => tt - n2 vs) ⟨a + 1, _, _, [], rfl, by omega, hto2, by simp, by simp, ho.nilRow _ 1⟩ ?_
  rintro vs w4 ⟨i, v, d, acc, rfl, hi1, hi2, hacc, he, ho⟩ _
  simp only [S_lex_cutter_name_0, gd]
  rw [b_lss]
  by_cases hlt : (i : Int) < (tt : Int)
  · have hi3 : i < tt := by omega
    have hi4 : i < s.length := by omega
    simp only [hlt, decide_true, i_t, fa_c0, cut_s ho 2 rfl, s_at hi4]
    rw [cut_cons hi3 hto] at he
    have e1 := u8d s[i] 35 35 rfl
    refine join fun J hJ => ?_
    have fin : ∀ (j : Nat) (c : UInt8) (n : Int) (d : Value) (w5 : World), (c.toNat : Int) = n → i ≤ j → j < tt → Lx.nameF (Lx.cut s (a + 1) tt) = (Lx.nameF (Lx.cut s (j + 1) tt)).map (acc ++ c :: ·) → Own w w5 [BRow v acc, tokE b Lx.none_, cutE b1 s a] → J [d, .int .i64 j, .int .u8 n] w5 := by
      intro j c n d w5 hc hij hjt he ho
      refine hJ _ _ fun _ => ?_
      simp only [S_lex_cutter_name_1, gd]
      refine o_app1 c hc ho (by omega) fun v' w6 ho => ?_
      rw [b_add, wrap64_id (by omega) (by omega)]
      refine nextX ⟨j + 1, v', _, acc ++ [c], rfl, by omega, by omega, by simp; omega, ?_, ho⟩ (by simp [n2, intOf]; omega)
      rw [he]
      congr 1
      funext x; simp
    by_cases h35 : s[i] = 35
    · simp only [rs, e1, decide_eq_true h35]
      rw [wrap64_id (by omega) (by omega)]
      by_cases hend : (tt : Int) ≤ (i : Int) + 2
      · simp only [hend, decide_true, i_t]
        refine tok_tail 1 ho rfl (refused_ret 3 _) fun w' hb => hK _ _ ⟨?_, hb⟩
        have hn : Lx.nameF (s[i] :: Lx.cut s (i + 1) tt) = none := by
          have hl := cut_length (s := s) (i := i + 1) hto
          cases hc : Lx.cut s (i + 1) tt with
          | nil => simp [Lx.nameF, h35]
          | cons x t =>
            cases t with
            | nil => simp [Lx.nameF, h35]
            | cons y t => rw [hc] at hl; simp at hl; omega
        rw [hn] at he
        simp only [Lx.name, hT, he, Option.map_none]
      · simp only [hend, decide_false, i_f, rs, fa_c0, cut_s ho 2 rfl]
        rw [wrap64_id (n := (i : Int) + 1) (by omega) (by omega), wrap64_id (n := (i : Int) + 3) (by omega) (by omega), s_cut (i := i + 1) (j := i + 3) (by simp) (by simp) (by omega) (by omega)]
        have hi5 : i + 1 < s.length := by omega
        have hi6 : i + 2 < s.length := by omega
        rw [show Lx.cut s (i + 1) (i + 3) = [s[i + 1], s[i + 2]] from cut_two (i := i + 1) (by omega)]
        have hlist : s[i] :: Lx.cut s (i + 1) tt = s[i] :: s[i + 1] :: s[i + 2] :: Lx.cut s (i + 3) tt := by
          rw [cut_cons (show i + 1 < tt by omega) hto, cut_cons (show i + 1 + 1 < tt by omega) hto]
        rw [hlist, Lx.nameF, if_pos h35] at he
        have b1 := Lx.digit_bd s[i + 1]
        have b2 := Lx.digit_bd s[i + 2]
        refine c_below ho (unhex_ret [s[i + 1], s[i + 2]] w4 (by simp)) ?_
        rintro _ w5 rfl ho
        have bad : (Lx.digit s[i + 1] < 0 ∨ Lx.digit s[i + 2] < 0 ∨ 16 * Lx.digit s[i + 1] + Lx.digit s[i + 2] = 0) → Lx.name s a = Lx.refused 3 := by
          intro h
          rw [if_pos h] at he
          simp only [Lx.name, hT, he, Option.map_none]
        rw [x_0, x_1, unhexE_two]
        by_cases hbad : Lx.digit s[i + 1] < 0 ∨ Lx.digit s[i + 2] < 0
        · rw [if_pos hbad]
          simp only [rs, g_un, ne_eq, show ¬ ((3 : Int) = 0) by decide, not_false_eq_true, decide_true]
          refine tok_tail 1 ho rfl (refused_ret 3 _) fun w' hb => hK _ _ ⟨?_, hb⟩
          rw [bad (by rcases hbad with h | h <;> simp [h])]
        · rw [if_neg hbad]
          have hb0 := byte_nat (a := Lx.digit s[i + 1]) (b := Lx.digit s[i + 2]) (by omega) (by omega) (by omega) (by omega)
          simp only [rs, g_un, ne_eq, not_true, decide_false]
          by_cases hz : 16 * Lx.digit s[i + 1] + Lx.digit s[i + 2] = 0
          · have hbz : Lx.byte (Lx.digit s[i + 1]) (Lx.digit s[i + 2]) = 0 := UInt8.toNat_inj.1 (by have : ((0 : UInt8).toNat : Int) = 0 := rfl; omega)
            rw [hbz]
            simp only [rs, decide_true]
            refine tok_tail 1 ho rfl (refused_ret 3 _) fun w' hb => hK _ _ ⟨?_, hb⟩
            rw [bad (.inr (.inr hz))]
          · have hbz : ¬ ([Lx.byte (Lx.digit s[i + 1]) (Lx.digit s[i + 2])] = [(0 : UInt8)]) := by
              intro h
              injection h with h _
              rw [h] at hb0
              exact hz (by rw [← hb0]; rfl)
            rw [if_neg (by omega)] at he
            simp only [rs, hbz, decide_false]
            rw [s_ix (c := Lx.byte (Lx.digit s[i + 1]) (Lx.digit s[i + 2])) Tryz.underlying9 (by omega) rfl]
            refine fin (i + 2) _ _ _ _ rfl (by omega) (by omega) ?_ ho
            rw [he, Option.map_map]
            rfl
    · simp only [rs, e1, decide_eq_false h35]
      refine fin i s[i] _ _ _ rfl (by omega) hi3 ?_ ho
      rw [he, Lx.nameF_ne h35, Option.map_map]
      rfl
  · have hi3 : i = tt := by omega
    subst hi3
    simp only [hlt, decide_false, i_f, cut_v ho 2 rfl, o_strB 0 ho rfl]
    rw [cut_nil, Lx.nameF, Option.map_some, List.append_nil] at he
    refine tok_tail 1 ho rfl (told_ret s a 4 i acc 127 _) fun w' hb => hK _ _ ⟨?_, hb⟩
    simp only [Lx.name, hT, he]
end Go.Proofs.YtjajlcacbbnodaaGreatDoor
/- Contracts: escapes and literal strings of the program. -/
namespace Go.Proofs.YtjajlcacbbnodaaGreatDoor
set_option linter.unusedVariables false
set_option linter.unusedSimpArgs false
set_option linter.defProp false
open Eng Go.RowKit

theorem wrap8_mod (n : Int) : IntKind.wrap .u8 n = n % 256 := by
  simp [IntKind.wrap, IntKind.signed, IntKind.bits]
theorem escL_ix (c : UInt8) : match Lx.escL c with
    | some b => ∃ k : Nat, Lib.indexByte [110, 114, 116, 98, 102] c = (k : Int) ∧ k < 5 ∧ Lx.cut [10, 13, 9, 8, 12] k (k + 1) = [b]
    | none => Lib.indexByte [110, 114, 116, 98, 102] c = -1 := by
  by_cases h1 : c = 110
  · subst h1; exact ⟨0, by decide, by decide, by decide⟩
  by_cases h2 : c = 114
  · subst h2; exact ⟨1, by decide, by decide, by decide⟩
  by_cases h3 : c = 116
  · subst h3; exact ⟨2, by decide, by decide, by decide⟩
  by_cases h4 : c = 98
  · subst h4; exact ⟨3, by decide, by decide, by decide⟩
  by_cases h5 : c = 102
  · subst h5; exact ⟨4, by decide, by decide, by decide⟩
  have e : Lx.escL c = none := by simp [Lx.escL, h1, h2, h3, h4, h5]
  rw [e]
  have g : ∀ x : UInt8, c ≠ x → (x == c) = false := fun x hx => by simpa using fun h : x = c => hx h.symm
  simp [Lib.indexByte, g _ h1, g _ h2, g _ h3, g _ h4, g _ h5]
theorem o_str1 {S : Nat → Prop} {w0 w : World} {L : List Ent} {n : Int} {PK PK2 : List PanicEntry → World → Prop} {K : Value → World → Prop} (c : UInt8) (h : (c.toNat : Int) = n) (ho : OwnS S w0 w L)
    (k : ∀ w', OwnS S w0 w' L → K (.string ⟨[c].toArray⟩) w') :
    DoX Tryz.prog (mBuildS 91 1 #[(0, .int .u8 n)]) w PK fun t w => DoX Tryz.prog (mConv 91 9 t) w PK2 K := by
  refine o_new (fun b => .slice (some ⟨b, 0, none⟩) [c].length [c].length) (bytesV [c]) 5 (fun w => m_b1 w c h) ho fun b w' ho' => ?_
  rw [c_bytes (l := [c]) Tryz.underlying91 Tryz.underlying5 Tryz.underlying9 (ho'.sl 0 rfl 1 [c].length [c].length rfl)]
  exact k _ ho'.tail
theorem escaped_ret (s : List UInt8) (a : Int) (i : Nat) (w : World) (hs : s.length ≤ 1099511627776) (h : i < s.length) : Ret Tryz.prog 237 #[cutV s a, .int .i64 i] w (fun v w' => v = .tuple #[.string ⟨(Lx.escF (s.drop i)).1.toArray⟩, .int .i64 ((i + (Lx.escF (s.drop i)).2 : Nat) : Int)] ∧ Below w.heap.size w w') := by
  refine ret_of fun K hK => S_lex_cutter_escaped_ok ?_
  unfold S_lex_cutter_escaped
  refine o_cut s a (Own.start w) fun b1 w1 ho => ?_
  simp only [fa_c0, cut_s ho 0 rfl, s_at h]
  refine c_eq (indexByte_ret [110, 114, 116, 98, 102] s[i] w1) ?_
  have hd := Lx.drop_cons h
  have hx := escL_ix s[i]
  cases hl : Lx.escL s[i] with
  | some b =>
    rw [hl] at hx
    obtain ⟨k, hk, hk5, hc⟩ := hx
    have hn : (0 : Int) ≤ (k : Int) := by omega
    simp only [hk, rs, hn, decide_true]
    rw [wrap64_id (n := (k : Int) + 1) (by omega) (by omega), wrap64_id (n := (i : Int) + 1) (by omega) (by omega)]
    rw [show (⟨#[10, 13, 9, 8, 12]⟩ : ByteArray) = ⟨([10, 13, 9, 8, 12] : List UInt8).toArray⟩ from rfl, s_cut (i := k) (j := k + 1) rfl (by simp) (by omega) (by simp; omega), hc]
    exact hK _ _ ⟨by rw [hd, Lx.escF, hl]; simp, ho.done⟩
  | none =>
    rw [hl] at hx
    simp only [hx, rs, show ¬ ((0 : Int) ≤ -1) by decide, decide_false, cut_v ho 0 rfl]
    refine c_below ho (end_ret s a i w1 hs h) ?_
    rintro _ w2 rfl ho
    rw [x_0, x_1]
    cases he : Lx.eol s[i] with
    | true =>
      simp only [if_true, rs]
      refine hK _ _ ⟨?_, ho.done⟩
      rw [hd, Lx.escF, hl]
      simp only [he, if_true, Lx.line, hd]
    | false =>
      simp only [Bool.false_eq_true, if_false, i_f]
      have hE : Lx.escF (s.drop i) = if 0 < (Lx.octF 3 0 (s.drop i)).2 then ([UInt8.ofNat (Lx.octF 3 0 (s.drop i)).1], (Lx.octF 3 0 (s.drop i)).2) else ([s[i]], 1) := by
        rw [hd, Lx.escF, hl]
        simp only [he, Bool.false_eq_true, if_false]
      refine loop (fun vs w' => ∃ (j n : Nat), vs = [.int .i64 n, .int .i64 j] ∧ i ≤ j ∧ j ≤ i + 3 ∧ j ≤ s.length ∧ n < 8 ^ (j - i) ∧ Lx.octF 3 0 (s.drop i) = ((Lx.octF (3 - (j - i)) n (s.drop j)).1, (Lx.octF (3 - (j - i)) n (s.drop j)).2 + (j - i)) ∧ Own w w' [cutE b1 s a])
        (fun vs _ => i + 3 - n1 vs) ⟨i, 0, rfl, by omega, by omega, by omega, by simp, by simp, ho⟩ ?_
      rintro vs w3 ⟨j, n, rfl, hj1, hj2, hj3, hn, ho8, ho⟩ _
      simp only [S_lex_cutter_escaped_0, gd, fa_c0, cut_s ho 0 rfl, s_len Tryz.underlying9]
      have hn2 : n < 512 := Nat.lt_of_lt_of_le hn (Nat.pow_le_pow_right (by decide) (by omega : j - i ≤ 3))
      have stop : Lx.octF (3 - (j - i)) n (s.drop j) = (n, 0) → IfX (.bool (decide ((i : Int) < (j : Int)))) (DoX Tryz.prog (mConv 3 5 (.int .i64 n)) w3 (pk K) fun t73 w =>
          DoX Tryz.prog (mBuildS 91 1 #[(0, t73)]) w (pk K) fun t74 w =>
          DoX Tryz.prog (mConv 91 9 t74) w (pk K) fun t75 w =>
          K (.returned (.tuple #[t75, .int .i64 j])) w) (DoX Tryz.prog (mSlice 9 (.string ⟨s.toArray⟩) (some (.int .i64 i)) (some (.int .i64 (IntKind.wrap .i64 ((i : Int) + 1)))) none) w3 (pk K) fun t82 w =>
          K (.returned (.tuple #[t82, .int .i64 (IntKind.wrap .i64 ((i : Int) + 1))])) w) := by
        intro h0
        rw [h0] at ho8
        by_cases hij : (i : Int) < (j : Int)
        · simp only [hij, decide_true, i_t]
          rw [c_8, wrap8_mod]
          refine o_str1 (UInt8.ofNat n) (by rw [UInt8.toNat_ofNat']; omega) ho fun w' ho => ?_
          refine hK _ _ ⟨?_, ho.done⟩
          rw [hE, ho8, if_pos (by simp; omega)]
          simp only
          rw [show i + (0 + (j - i)) = j by omega]
        · simp only [hij, decide_false, i_f]
          rw [wrap64_id (by omega) (by omega), s_cut (i := i) (j := i + 1) rfl (by simp) (by omega) (by omega), cut_one h]
          refine hK _ _ ⟨?_, ho.done⟩
          rw [hE, ho8, if_neg (by simp; omega)]
          simp
      by_cases hlt : (j : Int) < (s.length : Int)
      · have hj4 : j < s.length := by omega
        have hdj := Lx.drop_cons hj4
        by_cases hj5 : (j : Int) < (i : Int) + 3
        · obtain ⟨m, hm⟩ : ∃ m, 3 - (j - i) = m + 1 := ⟨3 - (j - i) - 1, by omega⟩
          have hw3 : IntKind.wrap .i64 ((i : Int) + 3) = (i : Int) + 3 := wrap64_id (by omega) (by omega)
          rw [hm, hdj, Lx.octF] at ho8
          by_cases h48 : (48 : Int) ≤ (s[j].toNat : Int)
          · by_cases h55 : (s[j].toNat : Int) ≤ 55
            · have hoct : Lx.oct s[j] = true := by simp [Lx.oct]; omega
              simp only [hlt, decide_true, rs, hw3, hj5, fa_c0, cut_s ho 0 rfl, s_at hj4, h48, h55]
              rw [wrap8_id (by omega) (by omega), c_64 (by omega) (by omega)]
              simp only [rs]
              rw [wrap64_id (n := 8 * (n : Int)) (by omega) (by omega), wrap64_id (by omega) (by omega), wrap64_id (by omega) (by omega)]
              rw [if_pos hoct] at ho8
              refine nextX ⟨j + 1, 8 * n + (s[j].toNat - 48), by simp; omega, by omega, by omega, by omega, ?_, ?_, ho⟩ (by simp [n1, intOf]; omega)
              · rw [show j + 1 - i = (j - i) + 1 by omega, Nat.pow_succ]; omega
              · rw [ho8, show 3 - (j + 1 - i) = m by omega]
                refine Prod.ext rfl ?_
                simp only; omega
            · simp only [hlt, decide_true, rs, hw3, hj5, fa_c0, cut_s ho 0 rfl, s_at hj4, h48, h55, decide_false, g_un]
              refine stop ?_
              rw [hm, hdj, Lx.octF, if_neg]
              simp [Lx.oct]; omega
          · simp only [hlt, decide_true, rs, hw3, hj5, fa_c0, cut_s ho 0 rfl, s_at hj4, h48, decide_false, g_un]
            refine stop ?_
            rw [hm, hdj, Lx.octF, if_neg]
            simp [Lx.oct]; omega
        · have hw3 : IntKind.wrap .i64 ((i : Int) + 3) = (i : Int) + 3 := wrap64_id (by omega) (by omega)
          simp only [hlt, decide_true, rs, hw3, hj5, fa_c0, cut_s ho 0 rfl, decide_false, g_un]
          refine stop ?_
          rw [show 3 - (j - i) = 0 by omega, Lx.octF]
      · simp only [hlt, decide_false, rs, fa_c0, cut_s ho 0 rfl, g_un]
        refine stop ?_
        rw [show j = s.length by omega, List.drop_length]
        cases 3 - (s.length - i) <;> rfl
end Go.Proofs.YtjajlcacbbnodaaGreatDoor
