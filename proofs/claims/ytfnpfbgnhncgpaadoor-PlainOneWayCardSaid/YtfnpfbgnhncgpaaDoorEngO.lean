/- The engine's memory: what a call owns ('Own'), what it reads ('Sl'), and the rules of the operations on memory. -/
import Derived.Test.YtfnpfbgnhncgpaaDoorEngR
import Derived.Laws.OwnMore
import Derived.Laws.MakeOwn
import Derived.Lib.FrozenHead2
namespace Go.Proofs.YtfnpfbgnhncgpaaDoor
set_option linter.unusedVariables false
set_option linter.unusedSimpArgs false
set_option linter.defProp false
set_option linter.unusedSimpArgs false
set_option linter.unusedVariables false
namespace Eng
open Go.RowKit

/-- The world has grown; only the blocks of S may hold something else. -/
structure Grew (S : Nat → Prop) (w w' : World) : Prop where
  os : w'.os = w.os
  tape : w'.tape = w.tape
  output : w'.output = w.output
  size : w.heap.size ≤ w'.heap.size
  block : ∀ k, k < w.heap.size → ¬ S k → w'.heap[k]? = w.heap[k]?
def NoB : Nat → Prop := fun _ => False
theorem Grew.refl (S : Nat → Prop) (w : World) : Grew S w w := ⟨rfl, rfl, rfl, Nat.le_refl _, fun _ _ _ => rfl⟩
theorem Grew.trans {S : Nat → Prop} {a b c : World} (h : Grew S a b) (k : Grew S b c) : Grew S a c :=
  ⟨k.os.trans h.os, k.tape.trans h.tape, k.output.trans h.output, Nat.le_trans h.size k.size, fun i hi hs => (k.block i (Nat.lt_of_lt_of_le hi h.size) hs).trans (h.block i hi hs)⟩
theorem Grew.mono {S S' : Nat → Prop} {a b : World} (h : Grew S a b) (hs : ∀ k, k < a.heap.size → S k → S' k) : Grew S' a b :=
  ⟨h.os, h.tape, h.output, h.size, fun i hi hn => h.block i hi (fun x => hn (hs i hi x))⟩
theorem Grew.below {a b : World} (h : Grew NoB a b) : Below a.heap.size a b := ⟨h.os, h.tape, h.output, h.size, fun k hk => h.block k hk (fun x => x)⟩
theorem grew_below {S : Nat → Prop} {a b : World} (h : Below a.heap.size a b) : Grew S a b := ⟨h.os, h.tape, h.output, h.size, fun k hk _ => h.block k hk⟩
theorem grew_by {w w' : World} {o : Option Nat} (h : w.grownBy w' o) : Grew (fun k => o = some k) w w' :=
  ⟨h.os, h.tape, h.output, h.size, fun k hk hn => h.block k hk (fun e => hn e.symm)⟩

/-- A piece of memory: the blocks that it lies in, and what is said of them. -/
structure Ent where
  blk : Nat → Prop
  is : World → Prop
  keep : ∀ {w w' : World}, is w → (∀ k, blk k → w'.heap[k]? = w.heap[k]?) → is w'
  lt : ∀ {w : World}, is w → ∀ k, blk k → k < w.heap.size

theorem lt_of_get {w : World} {b : Nat} {o : Obj} (h : w.heap[b]? = some o) : b < w.heap.size := (Array.getElem?_eq_some_iff.1 h).1

/-- A block that holds an object. -/
def Ent.obj (b : Nat) (o : Obj) : Ent := ⟨fun k => k = b, fun w => w.heap[b]? = some o, fun h k => (k b rfl).trans h, fun h k hk => by cases hk; exact lt_of_get h⟩
/-- A block of cells, not frozen. -/
def Ent.cells (b : Nat) (cs : List Value) (T : TypeId) : Ent := ⟨fun k => k = b, fun w => w.heap[b]? = some (.cells cs.toArray T (0, 0)), fun h k => (k b rfl).trans h, fun h k hk => by cases hk; exact lt_of_get h⟩
/-- A slice of n elements of type T (sz cells each) that reads xs, and may be appended to. -/
def Ent.row (T : TypeId) (sz : Nat) (v : Value) (n : Nat) (xs : List Value) : Ent :=
  ⟨fun k => v.ownBlock = some k, fun w => w.ownsRowF 0 T sz v n xs, fun {w w'} h k => by
    refine ⟨h.1, ?_⟩
    rcases h.2 with hn | ⟨g, cap, cur, fz, rfl, hb, hgg, rest⟩
    · exact .inl hn
    · exact .inr ⟨g, cap, cur, fz, rfl, hb, (k g rfl).trans hgg, rest⟩, fun h k hk => (World.ownsRowF.lt h k hk).2⟩

/-- What a piece of code owns: each piece lies in new blocks, or in blocks of S. -/
structure OwnS (S : Nat → Prop) (w0 w : World) (L : List Ent) : Prop where
  grew : Grew S w0 w
  all : ∀ e ∈ L, e.is w ∧ ∀ k, e.blk k → S k ∨ w0.heap.size ≤ k
  apart : L.Pairwise (fun e f => ∀ k, e.blk k → ¬ f.blk k)
abbrev Own (w0 w : World) (L : List Ent) : Prop := OwnS NoB w0 w L

theorem Own.start (w : World) : Own w w [] := ⟨Grew.refl _ _, (fun _ h => by cases h), List.Pairwise.nil⟩
section
variable {S : Nat → Prop}
theorem OwnS.size {w0 w : World} {L : List Ent} (h : OwnS S w0 w L) : w0.heap.size ≤ w.heap.size := h.grew.size
theorem OwnS.mem {w0 w : World} {L : List Ent} (h : OwnS S w0 w L) {e : Ent} (he : e ∈ L) : e.is w := (h.all e he).1
theorem OwnS.at_ {w0 w : World} {L : List Ent} (h : OwnS S w0 w L) (i : Nat) {e : Ent} (he : L[i]? = some e) : e.is w := h.mem (List.mem_of_getElem? he)
/-- Old blocks stand: a callee that only makes memory. -/
theorem OwnS.grow {w0 w w' : World} {L : List Ent} (h : OwnS S w0 w L) (hb : Below w.heap.size w w') : OwnS S w0 w' L :=
  ⟨h.grew.trans (grew_below hb), fun e he => ⟨e.keep (h.all e he).1 fun k hk => hb.block k (e.lt (h.all e he).1 k hk), (h.all e he).2⟩, h.apart⟩
theorem OwnS.drew {w0 w : World} {L : List Ent} (h : OwnS S w0 w L) : OwnS S w0 w.drew L := h.grow (Below.refl _ _).drew
theorem grown_below {w w' : World} (hg : w.grownBy w' none) : Below w.heap.size w w' := ⟨hg.os, hg.tape, hg.output, hg.size, fun k hk => hg.block k hk (by simp)⟩
/-- New memory. -/
theorem OwnS.add {w0 w w' : World} {L : List Ent} (h : OwnS S w0 w L) (hg : w.grownBy w' none) (e : Ent) (he : e.is w') (hn : ∀ k, e.blk k → w.heap.size ≤ k) : OwnS S w0 w' (e :: L) := by
  have h' := h.grow (grown_below hg)
  refine ⟨h'.grew, ?_, ?_⟩
  · intro f hf
    cases hf with
    | head => exact ⟨he, fun k hk => .inr (Nat.le_trans h.size (hn k hk))⟩
    | tail _ hf => exact h'.all f hf
  · refine .cons (fun f hf k hk hk' => ?_) h'.apart
    have := f.lt (h.mem hf) k hk'
    have := hn k hk
    omega
theorem OwnS.alloc {w0 w : World} {L : List Ent} (h : OwnS S w0 w L) (cs : List Value) (T : TypeId) : OwnS S w0 (w.alloc (.cells cs.toArray T)) (.cells w.heap.size cs T :: L) :=
  h.add (World.grownBy_alloc w _ none) _ (heap_alloc_new w _) (fun k hk => by cases hk; exact Nat.le_refl _)
theorem OwnS.allocObj {w0 w : World} {L : List Ent} (h : OwnS S w0 w L) (o : Obj) : OwnS S w0 (w.alloc o) (.obj w.heap.size o :: L) :=
  h.add (World.grownBy_alloc w _ none) _ (heap_alloc_new w _) (fun k hk => by cases hk; exact Nat.le_refl _)
/-- What happens to one piece. -/
structure Turn (e e' : Ent) (w w' : World) : Prop where
  grew : Grew e.blk w w'
  is : e'.is w'
  new : ∀ k, e'.blk k → e.blk k ∨ w.heap.size ≤ k
theorem Turn.refl {e : Ent} {w : World} (h : e.is w) : Turn e e w w := ⟨Grew.refl _ _, h, fun _ hk => .inl hk⟩
theorem Turn.trans {e e' e'' : Ent} {a b c : World} (h : Turn e e' a b) (k : Turn e' e'' b c) : Turn e e'' a c :=
  ⟨⟨k.grew.os.trans h.grew.os, k.grew.tape.trans h.grew.tape, k.grew.output.trans h.grew.output, Nat.le_trans h.grew.size k.grew.size, fun i hi hn =>
      (k.grew.block i (Nat.lt_of_lt_of_le hi h.grew.size) (fun x => (h.new i x).elim hn (fun x => by omega))).trans (h.grew.block i hi hn)⟩,
    k.is, fun i hi => (k.new i hi).elim (h.new i) (fun x => .inr (Nat.le_trans h.grew.size x))⟩
/-- A piece is turned: the i-th. -/
theorem OwnS.turn {w0 w w' : World} {L : List Ent} (h : OwnS S w0 w L) (i : Nat) {e e' : Ent} (hi : L[i]? = some e) (ht : Turn e e' w w') : OwnS S w0 w' (L.set i e') := by
  obtain ⟨hg, he, hn⟩ := ht
  have hil : i < L.length := (List.getElem?_eq_some_iff.1 hi).1
  have hie : L[i] = e := (List.getElem?_eq_some_iff.1 hi).2
  have heL : e ∈ L := List.mem_of_getElem? hi
  have hpair := List.pairwise_iff_getElem.1 h.apart
  have hself : ∀ j (hj : j < L.length), j ≠ i → ∀ k, L[j].blk k → ¬ e.blk k := by
    intro j hj hji k hk hk'
    rcases Nat.lt_or_ge j i with hlt | hge
    · exact hpair j i hj hil hlt k hk (by rw [hie]; exact hk')
    · exact hpair i j hil hj (by omega) k (by rw [hie]; exact hk') hk
  have hgrew : Grew S w0 w' := ⟨hg.os.trans h.grew.os, hg.tape.trans h.grew.tape, hg.output.trans h.grew.output, Nat.le_trans h.size hg.size, fun k hk hS =>
    (hg.block k (Nat.lt_of_lt_of_le hk h.size) (fun hc => ((h.all e heL).2 k hc).elim hS (fun x => by omega))).trans (h.grew.block k hk hS)⟩
  have keepj : ∀ j (hj : j < L.length), j ≠ i → L[j].is w' := fun j hj hji =>
    L[j].keep (h.mem (List.getElem_mem hj)) fun k hk => hg.block k (L[j].lt (h.mem (List.getElem_mem hj)) k hk) (fun hc => hself j hj hji k hk hc)
  refine ⟨hgrew, ?_, ?_⟩
  · intro f hf
    obtain ⟨j, hj, rfl⟩ := List.getElem_of_mem hf
    rw [List.length_set] at hj
    rw [List.getElem_set]
    split
    · refine ⟨he, fun k hk => ?_⟩
      rcases hn k hk with h1 | h1
      · exact (h.all e heL).2 k h1
      · exact .inr (Nat.le_trans h.size h1)
    · rename_i hne
      exact ⟨keepj j hj (fun e => hne e.symm), (h.all _ (List.getElem_mem hj)).2⟩
  · rw [List.pairwise_iff_getElem]
    intro a b ha hb hab k hk
    rw [List.length_set] at ha hb
    rw [List.getElem_set] at hk
    rw [List.getElem_set]
    have other : ∀ j (hj : j < L.length), j ≠ i → ∀ k, e'.blk k → ¬ L[j].blk k := by
      intro j hj hji k hk hk'
      rcases hn k hk with h1 | h1
      · exact hself j hj hji k hk' h1
      · have := L[j].lt (h.mem (List.getElem_mem hj)) k hk'; omega
    split at hk
    · rename_i hia
      subst hia
      rw [if_neg (by omega)]
      exact other b hb (by omega) k hk
    · rename_i hia
      split
      · rename_i hib
        subst hib
        intro hk'
        exact other a ha (fun e => hia e.symm) k hk' hk
      · exact hpair a b ha hb hab k hk
theorem OwnS.put {w0 w w' : World} {L : List Ent} (h : OwnS S w0 w L) (i : Nat) {e : Ent} (hi : L[i]? = some e) (hg : Grew e.blk w w') (e' : Ent) (he : e'.is w')
    (hn : ∀ k, e'.blk k → e.blk k ∨ w.heap.size ≤ k) : OwnS S w0 w' (L.set i e') := h.turn i hi ⟨hg, he, hn⟩
theorem OwnS.tail {w0 w : World} {e : Ent} {L : List Ent} (h : OwnS S w0 w (e :: L)) : OwnS S w0 w L :=
  ⟨h.grew, fun f hf => h.all f (.tail _ hf), (List.pairwise_cons.1 h.apart).2⟩
theorem OwnS.sub {w0 w : World} {L L' : List Ent} (h : OwnS S w0 w L) (hs : L'.Sublist L) : OwnS S w0 w L' :=
  ⟨h.grew, fun f hf => h.all f (hs.subset hf), h.apart.sublist hs⟩
theorem OwnS.done {w0 w : World} {L : List Ent} (h : OwnS NoB w0 w L) : Below w0.heap.size w0 w := h.grew.below
theorem OwnS.below {w0 w : World} {L : List Ent} (h : OwnS NoB w0 w L) : Below w0.heap.size w0 w := h.grew.below
/-- What a callee is lent. -/
theorem OwnS.lend {w : World} {e : Ent} (h : e.is w) : OwnS e.blk w w [e] := by
  refine ⟨Grew.refl _ _, fun f hf => ?_, List.pairwise_singleton _ _⟩
  rcases List.mem_cons.1 hf with rfl | hf
  · exact ⟨h, fun k hk => .inl hk⟩
  · cases hf
theorem OwnS.back {w w' : World} {e e' : Ent} {L : List Ent} (h : OwnS e.blk w w' (e' :: L)) : Turn e e' w w' :=
  ⟨h.grew, h.mem (by simp), (h.all e' (by simp)).2⟩
end
/-- The first of a loop's slots, as a number (for a measure); the second. -/
def n0 (vs : List Value) : Nat := (intOf (vs.getD 0 undef)).toNat
def n1 (vs : List Value) : Nat := (intOf (vs.getD 1 undef)).toNat
def n2 (vs : List Value) : Nat := (intOf (vs.getD 2 undef)).toNat
/- CELLS -/
theorem cells_cell {w : World} {b : Nat} {cs : List Value} {T : TypeId} (h : (Ent.cells b cs T).is w) {i : Nat} {v : Value} (hv : cs[i]? = some v) : w.cell? ⟨b, i, none⟩ = some v := by
  have h' : w.heap[b]? = some (.cells cs.toArray T (0, 0)) := h
  simp [World.cell?, h', hv]
theorem OwnS.cell {S : Nat → Prop} {w0 w : World} {L : List Ent} (h : OwnS S w0 w L) (i : Nat) {b : Nat} {cs : List Value} {T : TypeId} (hi : L[i]? = some (.cells b cs T)) (j : Nat) {v : Value} (hv : cs[j]? = some v) : w.cell? ⟨b, j, none⟩ = some v :=
  cells_cell (h.at_ i hi) hv
/-- A cell of old memory. -/
theorem OwnS.old {w0 w : World} {L : List Ent} (h : OwnS NoB w0 w L) {p : Addr} {v : Value} (hc : w0.cell? p = some v) : w.cell? p = some v :=
  (h.below.cell (World.block_lt_of_cell? w0 p hc)).trans hc

def notAgg (P : Program) (T : TypeId) : Bool := match P.underlying T with | some (.struct _) => false | some (.array _ _) => false | some _ => true | none => false

section
variable {S : Nat → Prop} {P : Program} {w : World} {PK : List PanicEntry → World → Prop} {K : Value → World → Prop}
theorem run_loadVar_cell {T : TypeId} (ht : notAgg P T = true) {a : Addr} {v : Value} (h : w.cell? a = some v) : (loadVar T a).run P w = .ok v w := by
  unfold notAgg at ht
  cases hu : P.underlying T with
  | none => rw [hu] at ht; cases ht
  | some d =>
    rw [hu] at ht
    cases d <;> first | (cases ht; done) | simp [loadVar, isAgg, run_underlying hu, h]
theorem run_load_cell {T : TypeId} (ht : notAgg P T = true) {a : Addr} {v : Value} (h : w.cell? a = some v) : (mLoad T (.pointer (some a))).run P w = .ok (.value v) w :=
  mv_run (by simp [Instr.loadAt, Instr.sureAddr, run_loadVar_cell ht h])
theorem l_cell {T : TypeId} (ht : notAgg P T = true) {a : Addr} {v : Value} (h : w.cell? a = some v) : DoX P (mLoad T (.pointer (some a))) w PK K = K v w := do_eq (run_load_cell ht h)
/-- One new block. -/
theorem o_new {m : Sem Next} (mk : Nat → Value) (cs : List Value) (E : TypeId) {w0 : World} {L : List Ent} (hm : ∀ w, m.run P w = .ok (.value (mk w.heap.size)) (w.alloc (.cells cs.toArray E))) (ho : OwnS S w0 w L)
    (k : ∀ b w', OwnS S w0 w' (.cells b cs E :: L) → K (mk b) w') : DoX P m w PK K :=
  do_ok (hm w) (k _ _ (ho.alloc cs E))
theorem run_store_cell {T : TypeId} {b off : Nat} {cs : List Value} {E : TypeId} {v : Value} (hs : (P.info? T).map (·.size) = some 1) (hv : v.oneCell' = true) (h : w.heap[b]? = some (.cells cs.toArray E (0, 0))) (hl : off < cs.length) :
    (Instr.storeAt T (.pointer (some ⟨b, off, none⟩)) v).run P w = .ok () (w.setRow b (cs.set off v).toArray) := by
  have hc : v.cells = #[v] := by cases v <;> first | rfl | (cases hv; done)
  have hst := run_storeCells_at P b off E [v] 0 cs.toArray w h (by simp; omega) (by simpa using hv)
  obtain ⟨i, hi, h1⟩ := Option.map_eq_some_iff.1 hs
  simp only [Nat.add_zero] at hst
  have e : cs.take off ++ [v] ++ cs.drop (off + 1) = cs.set off v := by
    rw [List.set_eq_take_append_cons_drop, if_pos hl]; simp
  simp [Instr.storeAt, Instr.sureAddr, storeVar, hc, sizeOf, typeInfo, hi, h1, hst]
  rw [← e]; simp
theorem setRow_own {w0 : World} {L : List Ent} (ho : OwnS S w0 w L) (i : Nat) {b : Nat} {cs : List Value} {E : TypeId} (hi : L[i]? = some (.cells b cs E)) (cs' : List Value) : OwnS S w0 (w.setRow b cs'.toArray) (L.set i (.cells b cs' E)) := by
  have h : w.heap[b]? = some (.cells cs.toArray E (0, 0)) := ho.at_ i hi
  refine ho.put i hi (w' := w.setRow b cs'.toArray) ⟨rfl, rfl, rfl, by simp [World.setRow], fun k _ hk => setRow_other w b k _ (fun e => hk (by simp [Ent.cells, e]))⟩ (.cells b cs' E) (setRow_heap w b cs.toArray _ E (0, 0) h) (fun k hk => .inl hk)
/-- A store into a cell of the call's own: the i-th piece. -/
theorem o_store {w0 : World} {L : List Ent} (i : Nat) {T : TypeId} {b off : Nat} {cs : List Value} {E : TypeId} {v : Value} (ho : OwnS S w0 w L) (hi : L[i]? = some (.cells b cs E)) (hs : (P.info? T).map (·.size) = some 1) (hv : v.oneCell' = true) (hl : off < cs.length)
    (k : ∀ w', OwnS S w0 w' (L.set i (.cells b (cs.set off v) E)) → K undef w') : DoX P (mStore T (.pointer (some ⟨b, off, none⟩)) v) w PK K :=
  do_skip (mu_run (run_store_cell hs hv (ho.at_ i hi) hl)) (k _ (setRow_own ho i hi _))

/- SLICES THAT ARE READ -/
/-- v is a slice of n elements of sz cells each; its cells read cs. -/
def Sl (w : World) (v : Value) (sz n : Nat) (cs : List Value) : Prop :=
  cs.length = n * sz ∧ ∃ a cap, v = .slice a n cap ∧ (a = none → n = 0) ∧ ∀ p, a = some p → (0 < n → p.spot = none) ∧ ∀ j u, cs[j]? = some u → w.cell? ⟨p.block, p.off + j, none⟩ = some u
theorem Sl.mono {w w' : World} {v : Value} {sz n : Nat} {cs : List Value} (h : Sl w v sz n cs) (hc : ∀ p u, w.cell? p = some u → w'.cell? p = some u) : Sl w' v sz n cs := by
  obtain ⟨h1, a, cap, h2, h3, h4⟩ := h
  exact ⟨h1, a, cap, h2, h3, fun p hp => ⟨(h4 p hp).1, fun j u hj => hc _ _ ((h4 p hp).2 j u hj)⟩⟩
theorem Sl.below {w w' : World} {v : Value} {sz n : Nat} {cs : List Value} (h : Sl w v sz n cs) (hb : Below w.heap.size w w') : Sl w' v sz n cs :=
  h.mono fun p u hp => (hb.cell (World.block_lt_of_cell? w p hp)).trans hp
theorem OwnS.oldSl {w0 w : World} {L : List Ent} (h : OwnS NoB w0 w L) {v : Value} {sz n : Nat} {cs : List Value} (hs : Sl w0 v sz n cs) : Sl w v sz n cs := hs.mono fun _ _ hp => h.old hp
theorem Sl.cells {w : World} {b : Nat} {cs : List Value} {T : TypeId} (h : (Ent.cells b cs T).is w) (sz n cap : Nat) (hn : cs.length = n * sz) : Sl w (.slice (some ⟨b, 0, none⟩) n cap) sz n cs :=
  ⟨hn, some ⟨b, 0, none⟩, cap, rfl, fun h => (by cases h), fun p hp => by cases hp; exact ⟨fun _ => rfl, fun j u hj => by rw [Nat.zero_add]; exact cells_cell h hj⟩⟩
theorem OwnS.sl {S : Nat → Prop} {w0 w : World} {L : List Ent} (h : OwnS S w0 w L) (i : Nat) {b : Nat} {cs : List Value} {T : TypeId} (hi : L[i]? = some (.cells b cs T)) (sz n cap : Nat) (hn : cs.length = n * sz) : Sl w (.slice (some ⟨b, 0, none⟩) n cap) sz n cs :=
  Sl.cells (h.at_ i hi) sz n cap hn
theorem Sl.row {w : World} {T : TypeId} {sz : Nat} {v : Value} {n : Nat} {xs : List Value} (h : (Ent.row T sz v n xs).is w) : Sl w v sz n xs := by
  have h' : w.ownsRowF 0 T sz v n xs := h
  refine ⟨h'.1, ?_⟩
  rcases h'.2 with ⟨rfl, rfl⟩ | ⟨g, cap, cur, fz, rfl, _⟩
  · exact ⟨none, 0, rfl, fun _ => rfl, fun p hp => by cases hp⟩
  · refine ⟨some ⟨g, 0, none⟩, cap, rfl, (fun h => by cases h), fun p hp => ?_⟩
    cases hp
    refine ⟨fun _ => rfl, fun j u hj => ?_⟩
    have := World.ownsRowF.cells h' (g := g) rfl j u hj
    have e : (⟨g, 0, none⟩ : Addr).add j = ⟨g, 0 + j, none⟩ := by unfold Addr.add; split <;> simp_all
    rwa [e] at this
theorem Sl.nil (w : World) (sz cap : Nat) : Sl w (.slice none 0 cap) sz 0 [] := ⟨by simp, none, cap, rfl, fun _ => rfl, fun p hp => by cases hp⟩

theorem sl_len {T U : TypeId} {E : TypeId} {cb : Array Bool} {v : Value} {sz n : Nat} {cs : List Value} (h : P.underlying T = some (.slice E)) (hs : Sl w v sz n cs) : DoX P (mB .len #[T] U cb #[v]) w PK K = K (.int .i64 (n : Int)) w := by
  obtain ⟨_, a, cap, rfl, _⟩ := hs
  refine do_eq ?_
  simp [mB, builtin, Builtin.len_, run_underlying h, goInt]
theorem sl_len_any {T U : TypeId} {E : TypeId} {cb : Array Bool} {a : Option Addr} {n cap : Nat} (h : P.underlying T = some (.slice E)) : DoX P (mB .len #[T] U cb #[.slice a n cap]) w PK K = K (.int .i64 (n : Int)) w := by
  refine do_eq ?_
  simp [mB, builtin, Builtin.len_, run_underlying h, goInt]
theorem sl_ia {T E : TypeId} {k : IntKind} {v : Value} {sz n : Nat} {cs : List Value} {i : Int} (h : P.underlying T = some (.slice E)) (hsz : (P.info? E).map (·.size) = some sz) (hs : Sl w v sz n cs) (h0 : 0 ≤ i) (h1 : i < n)
    (kk : ∀ b off, (∀ j u, cs[i.toNat * sz + j]? = some u → w.cell? ⟨b, off + j, none⟩ = some u) → K (.pointer (some ⟨b, off, none⟩)) w) : DoX P (mIA T v (.int k i)) w PK K := by
  obtain ⟨hl, a, cap, rfl, hn, hc⟩ := hs
  obtain ⟨ii, hi, hi1⟩ := Option.map_eq_some_iff.1 hsz
  cases a with
  | none => have := hn rfl; omega
  | some p =>
    obtain ⟨hsp, hc'⟩ := hc p rfl
    replace hsp := hsp (by omega)
    obtain ⟨b, off, spot⟩ := p
    simp only at hsp hc'
    subst hsp
    refine do_ok (mv_run (v := .pointer (some ⟨b, off + i.toNat * sz, none⟩)) ?_) (kk b (off + i.toNat * sz) fun j u hj => by rw [Nat.add_assoc]; exact hc' _ _ hj)
    have e : (⟨b, off, none⟩ : Addr).add (i.toNat * sz) = ⟨b, off + i.toNat * sz, none⟩ := by unfold Addr.add; split <;> simp_all
    simp [Instr.indexAt, asIntOf, run_underlying h, h0, h1, sizeOf, typeInfo, hi, hi1, e]

theorem run_ia {T E : TypeId} {k : IntKind} {b off n cap sz : Nat} {i : Int} (h : P.underlying T = some (.slice E)) (hsz : (P.info? E).map (·.size) = some sz) (h0 : 0 ≤ i) (h1 : i < n) :
    (mIA T (.slice (some ⟨b, off, none⟩) n cap) (.int k i)).run P w = .ok (.value (.pointer (some ⟨b, off + i.toNat * sz, none⟩))) w := by
  obtain ⟨ii, hi, hi1⟩ := Option.map_eq_some_iff.1 hsz
  have e : (⟨b, off, none⟩ : Addr).add (i.toNat * sz) = ⟨b, off + i.toNat * sz, none⟩ := by unfold Addr.add; split <;> simp_all
  exact mv_run (by simp [Instr.indexAt, asIntOf, run_underlying h, h0, h1, sizeOf, typeInfo, hi, hi1, e])
theorem sl_open {v : Value} {sz n : Nat} {cs : List Value} (hs : Sl w v sz n cs) (hn : 0 < n) : ∃ b off cap, v = .slice (some ⟨b, off, none⟩) n cap ∧ ∀ j u, cs[j]? = some u → w.cell? ⟨b, off + j, none⟩ = some u := by
  obtain ⟨_, a, cap, rfl, h1, h2⟩ := hs
  cases a with
  | none => have := h1 rfl; omega
  | some p =>
    obtain ⟨hsp, hc⟩ := h2 p rfl
    replace hsp := hsp hn
    obtain ⟨b, off, spot⟩ := p
    simp only at hsp hc
    subst hsp
    exact ⟨b, off, cap, rfl, hc⟩
theorem sl_ia1 {T E : TypeId} {k : IntKind} {v : Value} {n : Nat} {cs : List Value} {i : Int} (x : Value) (h : P.underlying T = some (.slice E)) (hsz : (P.info? E).map (·.size) = some 1) (hs : Sl w v 1 n cs) (h0 : 0 ≤ i) (hx : cs[i.toNat]? = some x)
    (kk : ∀ p, w.cell? p = some x → K (.pointer (some p)) w) : DoX P (mIA T v (.int k i)) w PK K := by
  have hl : i.toNat < cs.length := (List.getElem?_eq_some_iff.1 hx).1
  refine sl_ia h hsz hs h0 (by rw [hs.1] at hl; omega) fun b off hc => kk _ ?_
  have := hc 0 x (by simpa using hx)
  simpa using this
/- RESULTS -/
theorem ret_cell2 {a1 a2 : Addr} {T1 T2 : TypeId} {v1 v2 : Value} {K : Ending → World → Prop} (t1 : notAgg P T1 = true) (t2 : notAgg P T2 = true) (h1 : w.cell? a1 = some v1) (h2 : w.cell? a2 = some v2) (k : K (.returned (.tuple #[v1, v2])) w) :
    RetX P [.cell (.pointer (some a1)) T1, .cell (.pointer (some a2)) T2] w K :=
  ⟨_, by simp [resRun, RV.read, asAddr, run_loadVar_cell t1 h1, run_loadVar_cell t2 h2], k⟩
theorem ret_cell1 {a1 : Addr} {T1 : TypeId} {v1 : Value} {K : Ending → World → Prop} (t1 : notAgg P T1 = true) (h1 : w.cell? a1 = some v1) (k : K (.returned v1) w) :
    RetX P [.cell (.pointer (some a1)) T1] w K :=
  ⟨_, by simp [resRun, RV.read, asAddr, run_loadVar_cell t1 h1], k⟩
theorem leave_func {rs : List RV} {K : Ending → World → Prop} {f : Nat} {args : Array Value} {ds : List Deferred} {u : FrameMode} (hu : u ≠ .run) (hp : plainB P f = true)
    (h : CallsD P f args u w fun
        | .returned _, u', w' => Leave P rs K ds (settle u') w'
        | .panicked chain, u', w' => Leave P rs K ds (raised u' chain) w'
        | .outgrown, _, _ => False) : Leave P rs K ({ target := .fn (.func f) #[], args := args } :: ds) u w :=
  ⟨hu, .func f, #[], f, args, rfl, by simpa [invoke] using plain_run hp args w, h⟩
end
end Eng
end Go.Proofs.YtfnpfbgnhncgpaaDoor
