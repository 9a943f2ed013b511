/- Texts that go together: EngAB TbF TbG TbH TbI TbJ TbK TbL TbM TbN Plain18D Plain18E EngAE TbO TbP Plain18F TbQ TbR EngAF TbS TbT Plain18G SLaw18 TbU Plain18H TbV TbW TbX TbY. -/
import Derived.Lib.SlBytesConst
import Derived.Test.YtjloddgofmdmgaaGreatDoorRows
import Derived.Test.YtjloddgofmdmgaaGreatDoorMcegmiddg
import Derived.Test.YtjloddgofmdmgaaGreatDoorMjbnhjhbl
import Derived.Test.YtjloddgofmdmgaaGreatDoorMcipfjmgf
import Derived.Test.YtjloddgofmdmgaaGreatDoorMjckfcoph
import Derived.Test.YtjloddgofmdmgaaGreatDoorMibhbjbon
set_option linter.defProp false
set_option linter.unusedSimpArgs false
set_option linter.unusedVariables false
namespace Go.Proofs.YtjloddgofmdmgaaGreatDoor
namespace Eng
open Go.RowKit
def intK (k : Int) : Value:=.int .i64 k
def MapIsI (w : World) (b : Nat) (al : List (Int × Value)) : Prop:=∃ es clock,w.heap[b]? = some (.map es clock)∧es.toList.map (fun e => (e.key,e.val)) = al.map fun p => (intK p.1,p.2)
def lookI (al : List (Int × Value)) (k : Int) : Option Value:=(al.find? fun p => decide (p.1 = k)).map (·.2)
theorem findNow_int (k : Int) : ∀ (es : List MapEntry) (al : List (Int × Value)) (i : Nat),es.map (fun e => (e.key,e.val)) = al.map (fun p => (intK p.1,p.2)) →
  ∃ r,Instr.findNow (.int .i64) (intK k) es i = some r∧r.map (·.2) = lookI al k
 | [],[],i,_ => ⟨none,rfl,rfl⟩
 | e :: es,p :: al,i,h => by
  simp only [List.map_cons,List.cons.injEq,Prod.mk.injEq] at h
  obtain⟨⟨h1,h2⟩,h3⟩:=h
  have hs : Instr.sameNow (.int .i64) (intK k) e.key = some (decide (k = p.1)):=by
   rw [h1]
   show some (k == p.1) = _
   congr 1
  by_cases hk : k = p.1
  ·refine⟨some (i,e.val),?_,?_⟩
   ·rw [Instr.findNow,hs];simp [hk]
   ·simp [lookI,hk,h2]
  ·obtain⟨r,hr1,hr2⟩:=findNow_int k es al (i + 1) h3
   refine⟨r,?_,?_⟩
   ·rw [Instr.findNow,hs];simp [hk,hr1]
   ·have hk' : ¬ p.1 = k:=fun e => hk e.symm
    rw [hr2];simp [lookI,hk']
 | [],_ :: _,_,h => by simp at h
 | _ :: _,[],_,h => by simp at h
section
variable {S : Nat→Prop} {P : Program} {w w0 : World} {L : List Ent} {PK : List PanicEntry→World→Prop} {K : Value→World→Prop}
theorem run_checkInt {k : TypeId} {e : Bool} (hk : P.underlying k = some (.int .i64)) (x : Int) : (Instr.checkKey e 10000 k (intK x)).run P w = .ok () w:=by
 show (Instr.checkKey e (9999 + 1) k (intK x)).run P w = _
 rw [Instr.checkKey]
 simp [run_underlying hk,intK]
theorem run_findInt {k : TypeId} (hk : P.underlying k = some (.int .i64)) (x : Int) {es : List MapEntry} {al : List (Int × Value)} (h : es.map (fun e => (e.key,e.val)) = al.map (fun p => (intK p.1,p.2))) :
  ∃ r,(Instr.findKey k (intK x) es).run P w = .ok r w∧r.map (·.2) = lookI al x:=by
 obtain⟨r,h1,h2⟩:=findNow_int x es al 0 h
 refine⟨r,?_,h2⟩
 simp [Instr.findKey,run_underlying hk,h1]
theorem run_lookI {T k e : TypeId} {ok : Bool} {b : Nat} {al : List (Int × Value)} {z : Value} (ht : P.underlying T = some (.map k e)) (hk : P.underlying k = some (.int .i64)) (hz : (P.info? e).bind (·.zero) = some z) (h : MapIsI w b al) (x : Int) :
  (mLook T (.map (some b)) (intK x) ok).run P w = .ok (.value (if ok then .tuple #[(lookI al x).getD z,.bool (lookI al x).isSome] else (lookI al x).getD z)) w:=by
 obtain⟨es,clock,h1,h2⟩:=h
 obtain⟨r,r1,r2⟩:=run_findInt (P:=P) (w:=w) hk x h2
 have hz' : (zeroValue e).run P w = .ok z w:=by
  obtain⟨i,hi,hzi⟩:=Option.bind_eq_some_iff.1 hz
  simp [zeroValue,typeInfo,hi,hzi]
 refine mv_run ?_
 rw [← r2]
 cases r with
 | none => simp [Instr.lookup,run_underlying ht,getObj,Sem.run,h1,run_checkInt hk x,r1,hz']
 | some p =>
  obtain⟨i,v⟩:=p
  simp [Instr.lookup,run_underlying ht,getObj,Sem.run,h1,run_checkInt hk x,r1]
end
structure MapFI (al : List (Int × Value)) (es : Array MapEntry) (clock : Nat) : Prop where
 al : es.toList.map (fun e => (e.key,e.val)) = al.map fun p => (intK p.1,p.2)
 nodup : (es.toList.map (·.born)).Nodup
 old : ∀ e ∈ es.toList,e.born < clock
def Ent.mapBI (b : Nat) (al : List (Int × Value)) : Ent:=⟨fun k => k = b,fun w => ∃ es clock,w.heap[b]? = some (.map es clock)∧MapFI al es clock,fun {w w'} h k => by
  obtain⟨es,clock,h1,h2⟩:=h
  exact⟨es,clock,(k b rfl).trans h1,h2⟩,fun h k hk => by
  obtain⟨es,clock,h1,h2⟩:=h
  cases hk;exact lt_of_get h1⟩
theorem mapBI_is {w : World} {b : Nat} {al : List (Int × Value)} (h : (Ent.mapBI b al).is w) : MapIsI w b al:=by
 obtain⟨es,clock,h1,h2⟩:=h
 exact⟨es,clock,h1,h2.al⟩
def SeenI (es : Array MapEntry) (seen : Array Nat) (done : List (Int × Value)) : Prop:=
 ∃ ds : List MapEntry,seen.toList = ds.map (·.born)∧(∀ e ∈ ds,e ∈ es.toList)∧(ds.map (·.born)).Nodup∧ds.map (fun e => (e.key,e.val)) = done.map fun p => (intK p.1,p.2)
theorem perm_kvI {a b : List (Int × Value)} (h : (a.map fun p => (intK p.1,p.2)).Perm (b.map fun p => (intK p.1,p.2))) : a.Perm b:=by
 -- a list that goes back
 let back : Value × Value→Int × Value:=fun q => (match q.1 with | .int _ n => n | _ => 0,q.2)
 have hb : ∀ l : List (Int × Value),(l.map fun p => (intK p.1,p.2)).map back = l:=by
  intro l
  rw [List.map_map]
  conv => rhs;rw [← List.map_id l]
  refine List.map_congr_left fun p _ => ?_
  rfl
 have:=h.map back
 rwa [hb,hb] at this
section
variable {S : Nat→Prop} {P : Program} {w w0 : World} {L : List Ent} {PK : List PanicEntry→World→Prop} {K : Value→World→Prop}
theorem o_mapNewBI {T : TypeId} (ho : OwnS S w0 w L) (k : ∀ b w',OwnS S w0 w' (.mapBI b [] :: L)→K (.map (some b)) w') : DoX P (mMap T none) w PK K:=by
 have hr : (Instr.makeMap T none).run P w = .ok (.map (some w.heap.size)) (w.alloc (.map #[] 0)):=rfl
 exact do_ok (mv_run hr) (k _ _ (ho.add (World.grownBy_alloc w _ none) (.mapBI w.heap.size []) ⟨#[],0,heap_alloc_new w _,rfl,List.nodup_nil,fun e he => by simp at he⟩ (fun k hk => by cases hk;exact Nat.le_refl _)))
theorem o_mapAddBI (i : Nat) {T k e : TypeId} {b : Nat} {al : List (Int × Value)} (ht : P.underlying T = some (.map k e)) (hk : P.underlying k = some (.int .i64)) (ho : OwnS S w0 w L) (hi : L[i]? = some (.mapBI b al)) (x : Int) (v : Value) (hn : lookI al x = none)
  (kk : ∀ w',OwnS S w0 w' (L.set i (.mapBI b (al++[(x,v)])))→K undef w') : DoX P (mMapU T (.map (some b)) (intK x) v) w PK K:=by
 obtain⟨es,clock,h1,h2⟩:=(show ∃ es clock,w.heap[b]? = some (.map es clock)∧MapFI al es clock from ho.at_ i hi)
 obtain⟨r,r1,r2⟩:=run_findInt (P:=P) (w:=w) hk x h2.al
 have hr0 : r = none:=by
  cases r with
  | none => rfl
  | some p => rw [hn] at r2;cases r2
 subst hr0
 have hr : (Instr.mapUpdate T (.map (some b)) (intK x) v).run P w = .ok () { w with heap:=w.heap.setIfInBounds b (.map (es.push { key:=intK x,val:=v,born:=clock }) (clock + 1)) }:=by
  simp [Instr.mapUpdate,run_underlying ht,getObj,setObj,Sem.run,h1,run_checkInt hk x,r1]
 refine do_skip (mu_run hr) (kk _ ?_)
 refine ho.put i hi (w':={ w with heap:=w.heap.setIfInBounds b _ }) ⟨rfl,rfl,rfl,by simp,fun k _ hk => ?_⟩ (.mapBI b (al++[(x,v)])) ?_ (fun k hk => .inl hk)
 ·show (w.heap.setIfInBounds b _)[k]? = _
  exact Array.getElem?_setIfInBounds_ne (fun e => hk (by simp [Ent.mapBI,e]))
 ·refine⟨es.push { key:=intK x,val:=v,born:=clock },clock + 1,?_,?_,?_,?_⟩
  ·show (w.heap.setIfInBounds b _)[b]? = _
   exact Array.getElem?_setIfInBounds_self_of_lt (lt_of_get h1)
  ·simp [h2.al]
  ·rw [Array.toList_push,List.map_append,List.nodup_append]
   refine⟨h2.nodup,by simp,fun a ha c hc => ?_⟩
   obtain⟨e,he,rfl⟩:=List.mem_map.1 ha
   have:=h2.old e he
   simp at hc
   omega
  ·intro e he
   rw [Array.toList_push] at he
   rcases List.mem_append.1 he with he | he
   ·have:=h2.old e he;omega
   ·rw [List.mem_singleton] at he;subst he;exact Nat.lt_succ_self _
theorem OwnS.openI {b : Nat} {al : List (Int × Value)} (ho : OwnS S w0 w L) (i : Nat) (hi : L[i]? = some (.mapBI b al)) : ∃ es clock,MapFI al es clock∧OwnS S w0 w (L.set i (.obj b (.map es clock))):=by
 obtain⟨es,clock,h1,h2⟩:=(show ∃ es clock,w.heap[b]? = some (.map es clock)∧MapFI al es clock from ho.at_ i hi)
 exact⟨es,clock,h2,ho.turn i hi ⟨Grew.refl _ _,h1,fun _ hk => .inl hk⟩⟩
theorem o_rangeI (i : Nat) {T k e : TypeId} {m clock : Nat} {es : Array MapEntry} (ht : P.underlying T = some (.map k e)) (ho : OwnS S w0 w L) (hi : L[i]? = some (.obj m (.map es clock)))
  (kk : ∀ b w',OwnS S w0 w' (.obj b (.mapIter (some m) clock #[] clock) :: L)→K (.pointer (some ⟨b,0,none⟩)) w') : DoX P (mRange T (.map (some m))) w PK K:=by
 have h1 : w.heap[m]? = some (.map es clock):=ho.at_ i hi
 have hr:=run_range_map (P:=P) w T k e m es clock ht h1
 exact do_ok (mv_run hr) (kk _ _ (ho.allocObj _))
theorem seen_nilI (es : Array MapEntry) : SeenI es #[] []:=⟨[],rfl,(fun e he => by cases he),List.nodup_nil,rfl⟩
theorem o_nextI (i j : Nat) {b m clock : Nat} {es : Array MapEntry} {seen : Array Nat} {al done : List (Int × Value)} {ty : TypeId} (ho : OwnS S w0 w L) (hi : L[i]? = some (.obj b (.mapIter (some m) clock seen clock))) (hj : L[j]? = some (.obj m (.map es clock)))
  (hf : MapFI al es clock) (hs : SeenI es seen done) (kend : done.Perm al→K (.tuple #[.bool false]) w)
  (knext : ∀ (p : Int × Value) (e : MapEntry) (w' : World),p ∈ al→p ∉ done∨True→e ∈ es.toList→e.key = intK p.1→e.val = p.2→SeenI es (seen.push e.born) (done++[p])→done.length < al.length →
   OwnS S w0 w' (L.set i (.obj b (.mapIter (some m) clock (seen.push e.born) clock)))→K (.tuple #[.bool true,intK p.1,p.2]) w') :
  DoX P (mNext (.pointer (some ⟨b,0,none⟩)) false ty) w PK K:=by
 have h1 : w.heap[b]? = some (.mapIter (some m) clock seen clock):=ho.at_ i hi
 have h2 : w.heap[m]? = some (.map es clock):=ho.at_ j hj
 obtain⟨ds,d1,d2,d3,d4⟩:=hs
 have hds : ds.length = done.length:=by simpa using congrArg List.length d4
 have hel : es.toList.length = al.length:=by simpa using congrArg List.length hf.al
 rcases Go.run_next_at (P:=P) w ty b m clock clock seen es clock h1 h2 hf.old (Nat.le_refl _) with ⟨hl,hr⟩ | ⟨e,he,w1,hw1,hr⟩
 ·refine do_ok (mv_run hr) (kend ?_)
  -- all have come
  have hall : ∀ x ∈ es.toList,x ∈ ds:=by
   intro x hx
   have hc : seen.contains x.born = true:=by
    cases hcc : seen.contains x.born with
    | true => rfl
    | false =>
     exfalso
     have hm : x ∈ (leftOf es seen).toList:=by
      unfold leftOf
      rw [Array.toList_filter,List.mem_filter]
      exact⟨hx,by simp only [hcc];rfl⟩
     have : 0 < (leftOf es seen).size:=by
      rw [← Array.length_toList]
      exact List.length_pos_of_mem hm
     omega
   have hm : x.born ∈ seen.toList:=by simpa using hc
   rw [d1] at hm
   obtain⟨y,hy,hyb⟩:=List.mem_map.1 hm
   rw [← born_inj hf.nodup (d2 y hy) hx hyb]
   exact hy
  have hp : ds.Perm es.toList:=(List.perm_ext_iff_of_nodup (nodup_of_born d3) (nodup_of_born hf.nodup)).2 fun x => ⟨d2 x,hall x⟩
  have:=hp.map fun e => (e.key,e.val)
  rw [d4,hf.al] at this
  exact perm_kvI this
 ·-- one comes
  have hem : e ∈ es.toList∧seen.contains e.born = false:=by
   unfold leftOf at he
   rw [Array.toList_filter,List.mem_filter] at he
   exact⟨he.1,by simpa using he.2⟩
  have hk : (e.key,e.val) ∈ es.toList.map (fun e => (e.key,e.val)):=List.mem_map.2 ⟨e,hem.1,rfl⟩
  rw [hf.al] at hk
  obtain⟨p,hp,hpe⟩:=List.mem_map.1 hk
  simp only [Prod.mk.injEq] at hpe
  have hnb : e.born ∉ ds.map (·.born):=by
   rw [← d1]
   intro hm
   have : seen.contains e.born = true:=by simpa using hm
   rw [hem.2] at this;cases this
  have hs' : SeenI es (seen.push e.born) (done++[p]):=by
   refine⟨ds++[e],by simp [d1],?_,?_,?_⟩
   ·intro x hx
    rcases List.mem_append.1 hx with hx | hx
    ·exact d2 x hx
    ·rw [List.mem_singleton] at hx;subst hx;exact hem.1
   ·rw [List.map_append,List.nodup_append]
    refine⟨d3,by simp,fun a ha c hc => ?_⟩
    simp at hc
    subst hc
    intro e2
    exact hnb (by rw [← e2];exact ha)
   ·simp [d4,hpe.1,hpe.2]
  have hlt : done.length < al.length:=by
   rw [← hds,← hel]
   exact nodup_le (e :: ds) es.toList (List.nodup_cons.2 ⟨fun hm => hnb (List.mem_map.2 ⟨e,hm,rfl⟩),nodup_of_born d3⟩) (fun x hx => by
    rcases List.mem_cons.1 hx with rfl | hx
    ·exact hem.1
    ·exact d2 x hx)
  have how : OwnS S w0 w1 L:=by
   rcases hw1 with rfl | rfl
   ·exact ho
   ·exact ho.drew
  have hkk:=put_iter (o':=.mapIter (some m) clock (seen.push e.born) clock) how i hi
  rw [← hpe.1,← hpe.2] at hr
  exact do_ok (mv_run hr) (knext p e _ hp (.inr trivial) hem.1 hpe.1.symm hpe.2.symm hs' hlt hkk)
theorem e_entryI (i j : Nat) {b m clock : Nat} {es : Array MapEntry} {seen : Array Nat} {e : MapEntry} {al : List (Int × Value)} (ho : OwnS S w0 w L) (hi : L[i]? = some (.obj b (.mapIter (some m) clock (seen.push e.born) clock))) (hj : L[j]? = some (.obj m (.map es clock)))
  (hf : MapFI al es clock) (he : e ∈ es.toList) : DoX P (mEntry (.pointer (some ⟨b,0,none⟩))) w PK K = K (.tuple #[e.key,e.val]) w:=
 do_eq (mv_run (run_entry_at (P:=P) w b m clock seen es clock e (ho.at_ i hi) (ho.at_ j hj) he hf.nodup))
end
end Eng
end Go.Proofs.YtjloddgofmdmgaaGreatDoor
namespace Go.Proofs.YtjloddgofmdmgaaGreatDoor
set_option maxRecDepth 20000
open Eng Go.RowKit
theorem rdAt_tr {b : Nat} {s : List UInt8} {a : Int} {w : World} (h : (trE b s a).is w) : rdAt b w = a.toNat:=by
 unfold rdAt
 rw [cells_cell (T:=53) (cs:=rdC s a) (i:=1) h rfl]
def kvS (x : Slt) : Int × Value:=(x.num,slV x)
def unS : Value→Slt
 | .agg cs => match cs.toList with
  | [.int _ n,.int _ k,.int _ a,.int _ b] => ⟨n,k,a,b⟩
  | _ => sl0
 | _ => sl0
theorem unS_kv (x : Slt) : unS (kvS x).2 = x:=rfl
theorem perm_kvS {a b : List Slt} (h : (a.map kvS).Perm (b.map kvS)) : a.Perm b:=by
 have:=h.map fun p => unS p.2
 rw [List.map_map,List.map_map] at this
 have e : ∀ l : List Slt,l.map ((fun p => unS p.2) ∘ kvS) = l:=fun l => by
  conv => rhs;rw [← List.map_id l]
  exact List.map_congr_left fun x _ => unS_kv x
 rwa [e,e] at this
theorem look_kvS {l : List Slt} {n : Int} : (lookI (l.map kvS) n = none∧n ∉ l.map (·.num))∨∃ x ∈ l,lookI (l.map kvS) n = some (slV x)∧n ∈ l.map (·.num):=by
 unfold lookI
 cases h : (l.map kvS).find? fun p => decide (p.1 = n) with
 | none =>
  refine .inl ⟨rfl,fun hm => ?_⟩
  obtain⟨x,hx,e⟩:=List.mem_map.1 hm
  have:=List.find?_eq_none.1 h (kvS x) (List.mem_map.2 ⟨x,hx,rfl⟩)
  simp [kvS,e] at this
 | some p =>
  have h1:=List.find?_some h
  have h2:=List.mem_of_find?_eq_some h
  obtain⟨x,hx,rfl⟩:=List.mem_map.1 h2
  refine .inr ⟨x,hx,rfl,List.mem_map.2 ⟨x,hx,?_⟩⟩
  exact of_decide_eq_true h1
theorem lay_some {l l' : List Slt} {x : Slt} (hr : Tl.RiseS l) (h : Tl.lay l x = some l') : Tl.RiseS l'∧(x :: l).Perm l'∧x.num ∉ l.map (·.num):=by
 unfold Tl.lay at h
 split at h
 ·cases h
 rename_i hc
 cases h
 have hn : x.num ∉ l.map (·.num):=fun hm => hc (by simpa using hm)
 have e:=List.takeWhile_append_dropWhile (p:=fun y : Slt => decide (y.num < x.num)) (l:=l)
 generalize ht : l.takeWhile (fun y => decide (y.num < x.num)) = t at *
 generalize hd : l.dropWhile (fun y => decide (y.num < x.num)) = d at *
 have h1 : ∀ y ∈ t,y.num < x.num:=fun y hy => by
  have:=List.all_takeWhile (l:=l) (p:=fun y : Slt => decide (y.num < x.num))
  rw [ht] at this
  simpa using List.all_eq_true.1 this y hy
 rw [← e] at hr
 obtain⟨r1,r2,r3⟩:=List.pairwise_append.1 hr
 have h2 : ∀ y ∈ d,x.num < y.num:=by
  cases d with
  | nil => intro y hy;cases hy
  | cons z d =>
   have hz : ¬ z.num < x.num:=by
    have:=List.head_dropWhile_not (fun y : Slt => decide (y.num < x.num)) (l:=l) (by rw [hd];simp)
    simp only [hd,List.head_cons] at this
    simpa using this
   have hzn : z.num≠x.num:=fun h => hn (List.mem_map.2 ⟨z,by rw [← e];simp,h⟩)
   intro y hy
   rcases List.mem_cons.1 hy with rfl | hy
   ·omega
   ·have:=(List.pairwise_cons.1 r2).1 y hy
    omega
 refine⟨?_,?_,hn⟩
 ·refine List.pairwise_append.2 ⟨r1,List.pairwise_cons.2 ⟨h2,r2⟩,fun a ha b hb => ?_⟩
  rcases List.mem_cons.1 hb with rfl | hb
  ·exact h1 a ha
  ·exact r3 a ha b hb
 ·rw [← e]
  exact List.perm_middle.symm
theorem lay_none {l : List Slt} {x : Slt} : Tl.lay l x = none ↔ x.num ∈ l.map (·.num):=by
 unfold Tl.lay
 split
 ·rename_i h
  exact⟨fun _ => by simpa using h,fun _ => rfl⟩
 ·rename_i h
  refine⟨fun h' => (by cases h'),fun hm => absurd (by simpa using hm) h⟩
theorem num_adv {s : List UInt8} {a lo hi n t : Int} (h : Tl.number s a lo hi = some (n,t)) : 0≤a∧a < t∧t≤s.length:=by
 unfold Tl.number at h
 split at h
 ·cases h
 rename_i hn
 simp only [not_or,Classical.not_not] at hn
 cases h
 have:=Lx.next_bd hn.1 (by rw [hn.2.1];decide)
 have:=Lx.skip_ge s a.toNat
 omega
theorem word_adv {s : List UInt8} {a t : Int} {k : List UInt8} (h : Tl.word s a k = some t) : 0≤a∧a < t∧t≤s.length:=by
 unfold Tl.word at h
 split at h
 ·rename_i hn
  cases h
  have:=Lx.next_bd hn.1 (by rw [hn.2.1];decide)
  have:=Lx.skip_ge s a.toNat
  omega
 ·cases h
theorem entry_adv {s : List UInt8} {a num t : Int} {x : Slt} (h : Tl.entry s a num = some (x,t)) : 0≤a∧a < t∧t≤s.length∧x.num = num:=by
 unfold Tl.entry at h
 split at h
 ·cases h
 rename_i p h1
 split at h
 ·cases h
 rename_i q h2
 have a1:=num_adv (n:=p.1) (t:=p.2) h1
 have a2:=num_adv (n:=q.1) (t:=q.2) h2
 split at h
 ·rename_i t' h3
  cases h
  have:=word_adv h3
  exact⟨a1.1,by omega,this.2.2,rfl⟩
 ·split at h
  ·rename_i t' h4
   cases h
   have:=word_adv h4
   exact⟨a1.1,by omega,this.2.2,rfl⟩
  ·cases h
theorem slots_err {s : List UInt8} {m : Nat} {a : Int} {l : List Slt} (h : (Lx.next s a).2≠0) : Tl.slots s (m + 1) a l = none:=by
 rw [Tl.slots]
 have h1 : Tl.word s a Tl.trailW = none:=by unfold Tl.word;rw [if_neg fun hn => h hn.1]
 have h2 : Tl.number s a 0 8191 = none:=by unfold Tl.number;rw [if_pos (.inl h)]
 rw [h1,h2]
section
variable {w : World} {PK : List PanicEntry→World→Prop} {K : Value→World→Prop} {S : Nat→Prop} {w0 : World} {L : List Ent}
theorem zSl : (Tryz.prog.info? 49).bind (·.zero) = some (slV sl0):=by kernel_rfl
theorem lookSl (i : Nat) {b : Nat} {l : List Slt} (ho : OwnS S w0 w L) (hi : L[i]? = some (.mapBI b (l.map kvS))) (n : Int) :
  ∃ x : Slt,∀ {PK : List PanicEntry→World→Prop} {K : Value→World→Prop},DoX Tryz.prog (mLook 110 (.map (some b)) (.int .i64 n) true) w PK K = K (.tuple #[slV x,.bool (decide (n ∈ l.map (·.num)))]) w:=by
 have h:=fun (PK : List PanicEntry→World→Prop) (K : Value→World→Prop) => do_eq (PK:=PK) (K:=K) (run_lookI (ok:=true) Tryz.underlying110 Tryz.underlying3 zSl (mapBI_is (ho.at_ i hi)) n)
 rcases look_kvS (l:=l) (n:=n) with ⟨h1,h2⟩ | ⟨x,_,h1,h2⟩
 ·rw [h1] at h
  exact⟨sl0,by rw [decide_eq_false h2];exact h _ _⟩
 ·rw [h1] at h
  exact⟨x,by rw [decide_eq_true h2];exact h _ _⟩
end
theorem seen_sizeI {es : Array MapEntry} {seen : Array Nat} {done : List (Int × Value)} (h : SeenI es seen done) : seen.size = done.length:=by
 obtain⟨ds,d1,_,_,d4⟩:=h
 rw [← Array.length_toList,d1,List.length_map]
 simpa using congrArg List.length d4
theorem tslots_end {S0 : Nat→Prop} {w W : World} {b b3 : Nat} {s : List UInt8} {a : Int} {l0 l : List Slt} {K : Ending→World→Prop} (hp : l0.Perm l) (hr : Tl.RiseS l) (hb : ∀ x ∈ l,0≤x.num∧x.num≤8191) (hl : l.length≤1000000)
  (ho : OwnS S0 w W [.mapBI b3 (l0.map kvS),trE b s a]) (kend : ∀ (W' : World) (v : Value) (L : List Ent),OwnS S0 w W' (trE b s a :: slsE v l :: L)→K (.returned v) W') :
  DoX Tryz.prog (mRange 110 (.map (some b3))) W (pk K) fun t62 w => LoopX [(.slice none 0 0)] w (fun vs2 w N2 => ∀ _ : Sg,S_table_reader_slots_1 (vs2.getD 0 undef) t62 w N2 K):=by
 have hl0 : l0.length = l.length:=hp.length_eq
 obtain⟨es,clock,hf,ho⟩:=ho.openI 0 rfl
 refine o_rangeI 0 Tryz.underlying110 ho rfl fun it w1 ho => ?_
 have ho:=ho.nilU 49 4
 refine loop (fun vs w' => ∃ (seen : Array Nat) (ld : List Slt) (v : Value),vs = [v]∧SeenI es seen (ld.map kvS)∧ld.length≤l0.length ∧
   OwnS S0 w w' [slsE v ld,.obj it (.mapIter (some b3) clock seen clock),.obj b3 (.map es clock),trE b s a]) (fun _ w => l0.length - itAt it w)
  ⟨#[],[],nilS,rfl,seen_nilI es,by simp,ho⟩ ?_
 clear ho
 rintro vs w2 ⟨seen,ld,v,rfl,hs,hdl,ho⟩ _
 simp only [S_table_reader_slots_1,gd]
 have hit : itAt it w2 = seen.size:=itAt_is (ho.at_ 1 rfl)
 have hss:=seen_sizeI hs
 rw [List.length_map] at hss
 refine o_nextI 1 2 ho rfl rfl hf hs (fun hperm => ?_) fun p e w3 hpa _ he hek hev hs' hlt ho => ?_
 ·simp only [ex,i_f]
  refine c_ret (sortsl_ret v ld l w2 (ho.at_ 0 rfl) (by omega) ((perm_kvS hperm).trans hp) hr fun x hx => by have:=hb x (((perm_kvS hperm).trans hp).subset hx);omega) ?_
  rintro _ w3 ⟨rfl,ht⟩
  have ho:=ho.turn 0 rfl ht
  have ho : OwnS S0 w w3 ([slsE v l,.obj it (.mapIter (some b3) clock seen clock),.obj b3 (.map es clock)]++([trE b s a]++[])):=ho
  exact kend w3 v _ ho.front
 ·simp only [ex,i_t]
  have ho : OwnS S0 w w3 [slsE v ld,.obj it (.mapIter (some b3) clock (seen.push e.born) clock),.obj b3 (.map es clock),trE b s a]:=ho
  rw [e_entryI 1 2 ho rfl rfl hf he,hek,hev]
  simp only [ex]
  obtain⟨x,hx,rfl⟩:=List.mem_map.1 hpa
  rw [List.length_map,List.length_map] at hlt
  refine o_sla ho fun b13 w4 ho => ?_
  refine sl_put (y:=x) 0 ho rfl fun w5 ho => ?_
  have ho : OwnS S0 w w5 [slE b13 x,slsE v ld,.obj it (.mapIter (some b3) clock (seen.push e.born) clock),.obj b3 (.map es clock),trE b s a]:=ho
  rw [sl_v ho 0 rfl]
  refine o_apSl 1 ho rfl (by omega) fun v' w6 ho => ?_
  have ho:=ho.tail
  refine nextX ⟨seen.push e.born,ld++[x],v',rfl,by rw [List.map_append];exact hs',by simp;omega,ho⟩ ?_
  show l0.length - itAt it w6 < l0.length - itAt it w2
  rw [hit,itAt_is (ho.at_ 1 rfl),Array.size_push]
  omega
end Go.Proofs.YtjloddgofmdmgaaGreatDoor
namespace Go.Proofs.YtjloddgofmdmgaaGreatDoor
set_option maxRecDepth 20000
open Eng Go.RowKit
structure SlsOk (l0 l : List Slt) : Prop where
 perm : l0.Perm l
 rise : Tl.RiseS l
 nums : ∀ x ∈ l,0≤x.num∧x.num≤8191
theorem SlsOk.len {l0 l : List Slt} (h : SlsOk l0 l) : l.length≤8192:=by
 have hn : (l.map fun x => x.num.toNat).Nodup:=by
  rw [List.nodup_iff_pairwise_ne,List.pairwise_map]
  refine h.rise.imp_of_mem fun {a b} ha hb hab e => ?_
  have:=h.nums a ha
  have:=h.nums b hb
  omega
 have:=Eng.nodup_le (l.map fun x => x.num.toNat) (List.range 8192) hn fun n hn => by
  obtain⟨x,hx,rfl⟩:=List.mem_map.1 hn
  have:=h.nums x hx
  rw [List.mem_range];omega
 simpa using this
theorem SlsOk.lay {l0 l l' : List Slt} {x : Slt} (h : SlsOk l0 l) (hx : 0≤x.num∧x.num≤8191) (hl : Tl.lay l x = some l') : SlsOk (l0++[x]) l':=by
 obtain⟨r,p,_⟩:=lay_some h.rise hl
 refine⟨((List.perm_append_singleton x l0).trans (h.perm.cons x)).trans p,r,fun y hy => ?_⟩
 rcases List.mem_cons.1 (p.symm.subset hy) with rfl | hy
 ·exact hx
 ·exact h.nums y hy
theorem SlsOk.mem {l0 l : List Slt} (h : SlsOk l0 l) {n : Int} : n ∈ l0.map (·.num) ↔ n ∈ l.map (·.num):=(h.perm.map _).mem_iff
theorem tslots_ret (b : Nat) (s : List UInt8) (a : Int) (w : World) (hs : s.length≤1000000000) (h0 : 0≤a) (h1 : a≤s.length) (hr : (trE b s a).is w) :
  Lend Tryz.prog 46 #[rdP b] (trE b s a) w (Tl.slots s (s.length + 1) a []≠none) (fun v e' => ∃ l t,Tl.slots s (s.length + 1) a [] = some (l,t)∧Tl.RiseS l∧l.length≤8192∧e' = .two (trE b s t) (slsE v l)) [badT]:=by
 refine lend_of hr (fun K ho hret hpan => S_table_reader_slots_ok ?_)
 unfold S_table_reader_slots
 generalize hS0 : (trE b s a).blk = S0 at *
 generalize hR : Tl.slots s (s.length + 1) a [] = R at *
 refine o_mapNewBI ho fun b3 w1 ho => ?_
 have ho : OwnS S0 w w1 [.mapBI b3 (([] : List Slt).map kvS),trE b s a]:=ho
 refine loop (fun vs w' => ∃ (a' : Int) (m : Nat) (l0 l : List Slt),vs = []∧0≤a'∧a'≤s.length∧(s.length : Int) < a' + m∧Tl.slots s m a' l = R∧SlsOk l0 l∧OwnS S0 w w' [.mapBI b3 (l0.map kvS),trE b s a']) (fun _ w => s.length - rdAt b w)
  ⟨a,s.length + 1,[],[],rfl,h0,h1,by omega,hR,⟨List.Perm.nil,List.Pairwise.nil,by simp⟩,ho⟩ ?_
 clear ho hR
 rintro vs w2 ⟨a',m,l0,l,rfl,ha0,ha1,hm,hsl,hok,ho⟩ _
 simp only [S_table_reader_slots_0]
 obtain⟨m,rfl⟩ : ∃ k,m = k + 1:=⟨m - 1,by omega⟩
 have hat : rdAt b w2 = a'.toNat:=rdAt_tr (ho.at_ 1 rfl)
 have fall : ∀ {W : World} {L : List Ent} {e2 : Ent},OwnS S0 w W (L++([e2]++[]))→R = none→pk K [badT] W:=by
  intro W L e2 ho hn
  exact hpan (fun h => h hn) e2 W _ ho.front
 refine c_lend ho 1 rfl (tnext_ret b s a' w2 (by omega) (ho.at_ 1 rfl)) ?_ fun e2 w3 hn ho => ?_
 rotate_left
 ·rw [slots_err hn] at hsl
  exact fall (L:=[_]) ho hsl.symm
 rintro _ _ w3 e1 ⟨rfl,rfl⟩ ho
 rw [Tl.slots] at hsl
 have hword : Tl.word s a' Tl.trailW = if (Lx.next s a').1.k = 5∧(Lx.next s a').1.s = Tl.trailW then some (Lx.next s a').1.t else none:=by
  unfold Tl.word
  by_cases h : (Lx.next s a').1.k = 5∧(Lx.next s a').1.s = Tl.trailW
  ·rw [if_pos ⟨e1,h⟩,if_pos h]
  ·rw [if_neg (fun h' => h h'.2),if_neg h]
 have hnum:=@entry_num s a' 8191
 have hadv:=@num_adv s a' 0 8191
 have hbd:=@Lx.next_bd s a' e1
 have hge:=Lx.skip_ge s a'.toNat
 rw [hword,hnum] at hsl
 rw [hnum] at hadv
 clear hword hnum
 generalize Lx.next s a' = x at *
 refine o_tok ho fun b4 w4 ho => ?_
 refine tk_put 0 ho rfl fun w5 ho => ?_
 have ho : OwnS S0 w w5 [tokE b4 x.1,.mapBI b3 (l0.map kvS),trE b s x.1.t]:=ho
 by_cases ht : x.1.k = 5∧x.1.s = Tl.trailW
 ·rw [if_pos ht] at hsl
  simp only at hsl
  have ht2 : x.1.s = [116,114,97,105,108,101,114]:=ht.2
  simp only [rs,fa_t0,tk_k ho 0 rfl,decide_eq_true ht.1,fa_t4',tk_s ho 0 rfl,decide_eq_true ht2]
  refine tslots_end hok.perm hok.rise hok.nums (by have:=hok.len;omega) ho.tail fun W v L ho => ?_
  refine hret (by rw [← hsl];simp) v _ W L ho.pair ⟨l,x.1.t,hsl.symm,hok.rise,hok.len,rfl⟩
 rw [if_neg ht] at hsl
 simp only at hsl
 -- a subsection
 have sub : DoX Tryz.prog (mLoad 90 (.pointer (some ⟨b4,0,none⟩))) w5 (pk K) fun t25 W =>
 CallX Tryz.prog 64 #[t25,(.int .i64 8191)] W (pk K) fun t26 W =>
 CallX Tryz.prog 45 #[rdP b] W (pk K) fun t28 W =>
 CallX Tryz.prog 64 #[t28,(.int .i64 8192)] W (pk K) fun t29 W =>
 DoX Tryz.prog (mBin .add 3 t26 t29) W (pk K) fun t32 W =>
 DoX Tryz.prog (mBin .leq 3 t32 (.int .i64 8192)) W (pk K) fun t33 W =>
 CallX Tryz.prog 43 #[t33] W (pk K) fun t34 W =>
 LoopX [(.int .i64 0)] W (fun vs3 W' N3 => ∀ _ : Sg,S_table_reader_slots_2 (rdP b) (.map (some b3)) t26 t29 (vs3.getD 0 undef) W' (NextX (fun vs w' => ∃ (a' : Int) (m : Nat) (l0 l : List Slt),vs = []∧0≤a'∧a'≤s.length∧(s.length : Int) < a' + m∧Tl.slots s m a' l = R∧SlsOk l0 l∧OwnS S0 w w' [.mapBI b3 (l0.map kvS),trE b s a']) (fun _ w => s.length - rdAt b w) [] w2) N3 K):=by
  rw [tk_v ho 0 rfl]
  refine c_whole ho (fun hw1 w6 ho => ?_) fun hn w6 ho => ?_
  rotate_left
  ·rw [if_neg (fun h => hn h.2)] at hsl
   exact fall (L:=[_,_]) ho hsl.symm
  rw [if_pos ⟨e1,hw1⟩] at hsl hadv
  simp only at hsl
  have ha:=hadv rfl
  obtain⟨hk1,hf0,hf1⟩:=hw1
  generalize hf : x.1.n = f at *
  generalize ht1 : x.1.t = a1 at *
  refine c_lend ho 2 rfl (tnext_ret b s a1 w6 (by omega) (ho.at_ 2 rfl)) ?_ fun e2 w7 hn ho => ?_
  rotate_left
  ·have : Tl.number s a1 0 (8192 - f) = none:=by unfold Tl.number;rw [if_pos (.inl hn)]
   rw [this] at hsl
   exact fall (L:=[_,_]) ho hsl.symm
  rintro _ _ w7 e2 ⟨rfl,rfl⟩ ho
  have hnum2:=@entry_num s a1 (8192 - f)
  have hadv2:=@num_adv s a1 0 (8192 - f)
  rw [hnum2] at hsl hadv2
  clear hnum2
  generalize Lx.next s a1 = y at *
  refine c_whole ho (fun hw2 w8 ho => ?_) fun hn w8 ho => ?_
  rotate_left
  ·rw [if_neg (fun h => hn ⟨h.2.1,h.2.2.1,by have:=h.2.2.2;omega⟩)] at hsl
   exact fall (L:=[_,_]) ho hsl.symm
  obtain⟨hk2,hc0,hc1⟩:=hw2
  simp only [rs]
  rw [wrap64_id (by omega) (by omega)]
  refine c_tmust (fun hle => ?_) fun hle => ?_
  rotate_left
  ·have hle:=of_decide_eq_false hle
   rw [if_neg (fun h => hle (by have:=h.2.2.2;omega))] at hsl
   exact fall (L:=[_,_]) ho hsl.symm
  have hle:=of_decide_eq_true hle
  rw [if_pos ⟨e2,hk2,hc0,by omega⟩] at hsl hadv2
  simp only at hsl
  have ha2:=hadv2 rfl
  have ho:=ho.tail
  generalize hE : Tl.entries s y.1.n.toNat f y.1.t l = E at *
  generalize hy1 : y.1.n = c at *
  generalize hy2 : y.1.t = a2 at *
  obtain⟨c,rfl⟩ : ∃ n : Nat,(n : Int) = c:=⟨c.toNat,by omega⟩
  refine loop (fun vs w' => ∃ (k : Nat) (a3 : Int) (l3 l4 : List Slt),vs = [.int .i64 k]∧k≤c∧a2≤a3∧a3≤s.length∧Tl.entries s (c - k) (f + k) a3 l4 = E∧SlsOk l3 l4∧OwnS S0 w w' [.mapBI b3 (l3.map kvS),trE b s a3]) (fun vs _ => c - n0 vs)
   ⟨0,a2,l0,l,rfl,by omega,by omega,ha2.2.2,by rw [Nat.sub_zero,show f + ((0 : Nat) : Int) = f by omega,← hE,Int.toNat_natCast],hok,ho⟩ ?_
  clear ho
  rintro vs w9 ⟨k,a3,l3,l4,rfl,hkc,ha3,ha4,hent,hok3,ho⟩ _
  simp only [S_table_reader_slots_2,gd,rs]
  by_cases hlt : (k : Int) < (c : Int)
  case neg =>
   have hkc' : k = c:=by omega
   subst hkc'
   simp only [decide_eq_false hlt,i_f]
   rw [Nat.sub_self,Tl.entries] at hent
   rw [← hent] at hsl
   simp only at hsl
   refine nextX ⟨a3,m,l3,l4,rfl,by omega,ha4,by omega,hsl,hok3,ho⟩ ?_
   show s.length - rdAt b w9 < s.length - rdAt b w2
   rw [hat,rdAt_tr (ho.at_ 1 rfl)]
   omega
  simp only [decide_eq_true hlt,i_t]
  rw [wrap64_id (by omega) (by omega)]
  obtain⟨z,hz⟩:=lookSl 0 ho rfl (f + (k : Int))
  rw [hz]
  simp only [ex]
  refine o_sla ho fun b8 w10 ho => ?_
  refine sl_put (y:=z) 0 ho rfl fun w11 ho => ?_
  have ho:=ho.tail
  have ho : OwnS S0 w w11 [.mapBI b3 (l3.map kvS),trE b s a3]:=ho
  rw [show c - k = (c - (k + 1)) + 1 by omega,Tl.entries] at hent
  refine c_lend ho 1 rfl (tentry_ret b s a3 (f + (k : Int)) w11 (by omega) (ho.at_ 1 rfl)) ?_ fun e2 w12 hn ho => ?_
  rotate_left
  ·rw [Classical.not_not.1 hn] at hent
   rw [← hent] at hsl
   exact fall (L:=[_]) ho hsl.symm
  rintro _ _ w12 _ ⟨xx,t,he,rfl,rfl⟩ ho
  have hadv3:=entry_adv he
  rw [he] at hent
  simp only at hent
  refine o_sla ho fun b10 w13 ho => ?_
  refine sl_put (y:=xx) 0 ho rfl fun w14 ho => ?_
  have ho : OwnS S0 w w14 [slE b10 xx,.mapBI b3 (l3.map kvS),trE b s t]:=ho
  simp only [rs]
  refine c_tmust (fun hq => ?_) fun hq => ?_
  rotate_left
  ·have hin : f + (k : Int) ∈ l3.map (·.num):=by simpa using hq
   have hl : Tl.lay l4 xx = none:=lay_none.2 (hok3.mem.1 (by rw [hadv3.2.2.2];exact hin))
   rw [hl] at hent
   rw [← hent] at hsl
   exact fall (L:=[_,_]) ho hsl.symm
  have hnin : f + (k : Int) ∉ l3.map (·.num):=by simpa using hq
  cases hl : Tl.lay l4 xx with
  | none => exact absurd (hok3.mem.2 (lay_none.1 hl)) (by rw [hadv3.2.2.2];exact hnin)
  | some l5 =>
  rw [hl] at hent
  simp only at hent
  rw [sl_v ho 0 rfl]
  have hlk : lookI (l3.map kvS) (f + (k : Int)) = none:=by
   rcases look_kvS (l:=l3) (n:=f + (k : Int)) with ⟨h,_⟩ | ⟨_,_,_,h⟩
   ·exact h
   ·exact absurd h hnin
  refine o_mapAddBI 1 Tryz.underlying110 Tryz.underlying3 ho rfl (f + (k : Int)) (slV xx) hlk fun w15 ho => ?_
  have ho:=ho.tail
  have ho : OwnS S0 w w15 [.mapBI b3 ((l3++[xx]).map kvS),trE b s t]:=by
   rw [List.map_append]
   have e : kvS xx = (f + (k : Int),slV xx):=by unfold kvS;rw [hadv3.2.2.2]
   rw [List.map_singleton,e]
   exact ho
  rw [wrap64_id (by omega) (by omega)]
  have hnum : 0≤xx.num∧xx.num≤8191:=by rw [hadv3.2.2.2];omega
  exact nextX ⟨k + 1,t,l3++[xx],l5,rfl,by omega,by omega,hadv3.2.2.1,by rw [show f + ((k + 1 : Nat) : Int) = f + (k : Int) + 1 by omega];exact hent,hok3.lay hnum hl,ho⟩ (by show c - Int.toNat ((k : Int) + 1) < c - Int.toNat (k : Int);omega)
 by_cases k5 : x.1.k = 5
 ·have hs5 : ¬ x.1.s = [116,114,97,105,108,101,114]:=fun h => ht ⟨k5,h⟩
  simp only [rs,fa_t0,tk_k ho 0 rfl,decide_eq_true k5,fa_t4',tk_s ho 0 rfl,decide_eq_false hs5]
  simp only [rs,tk_v ho 0 rfl] at sub
  simp only [rs,tk_v ho 0 rfl]
  exact sub
 ·simp only [rs,fa_t0,tk_k ho 0 rfl,decide_eq_false k5,g_un]
  simp only [rs,tk_v ho 0 rfl] at sub
  simp only [rs,tk_v ho 0 rfl]
  exact sub
end Go.Proofs.YtjloddgofmdmgaaGreatDoor
namespace Go.Proofs.YtjloddgofmdmgaaGreatDoor
set_option maxRecDepth 20000
open Eng Go.RowKit
def secC (x : Sec) (vs vk vc : Value) : List Value:=[.int .i64 x.at_,vs]++(obC x.trailer vk vc++[.int .i64 x.prev,.int .i64 x.hybrid,.int .i64 x.own])
def secV (x : Sec) (vs vk vc : Value) : Value:=.agg (secC x vs vk vc).toArray
abbrev secE (b : Nat) (x : Sec) (vs vk vc : Value) : Ent:=.cells b (secC x vs vk vc) 29
theorem aggSec : aggN Tryz.prog 29 = some 11:=by kernel_rfl
theorem szSec : (Tryz.prog.info? 29).map (·.size) = some 11:=by kernel_rfl
theorem fse0 : fOff Tryz.prog 29 0 = some 0:=by kernel_rfl
theorem fse1 : fOff Tryz.prog 29 1 = some 1:=by kernel_rfl
theorem fse2 : fOff Tryz.prog 29 2 = some 2:=by kernel_rfl
theorem fse3 : fOff Tryz.prog 29 3 = some 8:=by kernel_rfl
theorem fse4 : fOff Tryz.prog 29 4 = some 9:=by kernel_rfl
theorem nSls : notAgg Tryz.prog 23 = true:=by kernel_rfl
theorem secC_one (x : Sec) {vs vk vc : Value} (hs : vs.oneCell' = true) (hk : vk.oneCell' = true) (hc : vc.oneCell' = true) : ∀ v ∈ secC x vs vk vc,v.oneCell' = true:=by
 intro v hv
 simp only [secC,List.mem_append,List.mem_cons,List.not_mem_nil,or_false] at hv
 rcases hv with (rfl | rfl) | hv | rfl | rfl | rfl
 ·rfl
 ·exact hs
 ·exact obC_one x.trailer hk hc v hv
 ·rfl
 ·rfl
 ·rfl
section
variable {w : World} {PK : List PanicEntry→World→Prop} {K : Value→World→Prop} {S : Nat→Prop} {w0 : World} {L : List Ent}
theorem fa_se0 {b : Nat} : DoX Tryz.prog (mFA 29 (.pointer (some ⟨b,0,none⟩)) 0) w PK K = K (.pointer (some ⟨b,0,none⟩)) w:=f_addr fse0
theorem fa_se1 {b : Nat} : DoX Tryz.prog (mFA 29 (.pointer (some ⟨b,0,none⟩)) 1) w PK K = K (.pointer (some ⟨b,1,none⟩)) w:=f_addr fse1
theorem fa_se2 {b : Nat} : DoX Tryz.prog (mFA 29 (.pointer (some ⟨b,0,none⟩)) 2) w PK K = K (.pointer (some ⟨b,2,none⟩)) w:=f_addr fse2
theorem fa_se3 {b : Nat} : DoX Tryz.prog (mFA 29 (.pointer (some ⟨b,0,none⟩)) 3) w PK K = K (.pointer (some ⟨b,8,none⟩)) w:=f_addr fse3
theorem fa_se4 {b : Nat} : DoX Tryz.prog (mFA 29 (.pointer (some ⟨b,0,none⟩)) 4) w PK K = K (.pointer (some ⟨b,9,none⟩)) w:=f_addr fse4
theorem o_sea (ho : OwnS S w0 w L) (k : ∀ b w',OwnS S w0 w' (secE b Tl.sec0 nilS nilS nilS :: L)→K (.pointer (some ⟨b,0,none⟩)) w') : DoX Tryz.prog (mAlloc 29) w PK K:=
 o_new (fun b => .pointer (some ⟨b,0,none⟩)) (secC Tl.sec0 nilS nilS nilS) 29 (fun _ => by kernel_rfl) ho k
theorem se_put (i : Nat) {b : Nat} {x y : Sec} {vs vk vc vs' vk' vc' : Value} (hs : vs'.oneCell' = true) (hk : vk'.oneCell' = true) (hc : vc'.oneCell' = true) (ho : OwnS S w0 w L) (hi : L[i]? = some (secE b x vs vk vc)) (k : ∀ w',OwnS S w0 w' (L.set i (secE b y vs' vk' vc'))→K undef w') :
  DoX Tryz.prog (mStore 29 (.pointer (some ⟨b,0,none⟩)) (secV y vs' vk' vc')) w PK K:=o_put i ho hi (new:=secC y vs' vk' vc') szSec (secC_one y hs hk hc) rfl k
theorem se_v (ho : OwnS S w0 w L) (i : Nat) {b : Nat} {x : Sec} {vs vk vc : Value} (hi : L[i]? = some (secE b x vs vk vc)) : DoX Tryz.prog (mLoad 29 (.pointer (some ⟨b,0,none⟩))) w PK K = K (secV x vs vk vc) w:=l_at (ho.agg i hi aggSec)
theorem se_at (ho : OwnS S w0 w L) (i : Nat) {b : Nat} {x : Sec} {vs vk vc : Value} (hi : L[i]? = some (secE b x vs vk vc)) : DoX Tryz.prog (mLoad 3 (.pointer (some ⟨b,0,none⟩))) w PK K = K (.int .i64 x.at_) w:=l_cell nInt5 (ho.cell i hi 0 rfl)
theorem se_sl (ho : OwnS S w0 w L) (i : Nat) {b : Nat} {x : Sec} {vs vk vc : Value} (hi : L[i]? = some (secE b x vs vk vc)) : DoX Tryz.prog (mLoad 23 (.pointer (some ⟨b,1,none⟩))) w PK K = K vs w:=l_cell nSls (ho.cell i hi 1 rfl)
theorem m_se0 : DoX Tryz.prog (mBuild 29 #[]) w PK K = K (secV Tl.sec0 nilS nilS nilS) w:=do_eq (by kernel_rfl)
end
def fitsS (x : Slt) : Bool:=if x.kind = 2 then decide (1≤x.a) && decide (x.a≤8191) && decide (0≤x.b) && decide (x.b≤8191) else decide (0≤x.a) && decide (x.a≤2147483647) && decide (0≤x.b) && decide (x.b≤65535)
theorem tfits_ret (x : Slt) (w : World) : Ret Tryz.prog 39 #[slV x] w (fun v w' => v = .bool (fitsS x)∧Below w.heap.size w w'):=by
 refine ret_of fun K hK => S_table_fits_ok ?_
 unfold S_table_fits
 refine o_slb x (Own.start w) fun b w1 ho => ?_
 have l1 : ∀ {PK : List PanicEntry→World→Prop} {K : Value→World→Prop},DoX Tryz.prog (mLoad 3 (.pointer (some ⟨b,0 + 1,none⟩))) w1 PK K = K (.int .i64 x.kind) w1:=l_cell nInt5 (ho.cell 0 rfl 1 rfl)
 have l2 : ∀ {PK : List PanicEntry→World→Prop} {K : Value→World→Prop},DoX Tryz.prog (mLoad 3 (.pointer (some ⟨b,0 + 2,none⟩))) w1 PK K = K (.int .i64 x.a) w1:=l_cell nInt5 (ho.cell 0 rfl 2 rfl)
 have l3 : ∀ {PK : List PanicEntry→World→Prop} {K : Value→World→Prop},DoX Tryz.prog (mLoad 3 (.pointer (some ⟨b,0 + 3,none⟩))) w1 PK K = K (.int .i64 x.b) w1:=l_cell nInt5 (ho.cell 0 rfl 3 rfl)
 have fin : ∀ {q : Bool},q = fitsS x→K (.returned (.bool q)) w1:=fun e => hK _ _ ⟨by rw [e],ho.done⟩
 unfold fitsS at fin
 by_cases hk : x.kind = 2
 ·rw [if_pos hk] at fin
  by_cases h1 : 1≤x.a<;>by_cases h2 : x.a≤8191<;>by_cases h3 : 0≤x.b
  all_goals
   simp only [rs,fa_s1',fa_s2',fa_s3',l1,l2,l3,hk,decide_true,h1,h2,h3,decide_false,g_un]
   exact fin (by simp [h1,h2,h3])
 ·rw [if_neg hk] at fin
  by_cases h1 : 0≤x.a<;>by_cases h2 : x.a≤2147483647<;>by_cases h3 : 0≤x.b
  all_goals
   simp only [rs,fa_s1',fa_s2',fa_s3',l1,l2,l3,hk,decide_true,h1,h2,h3,decide_false,g_un]
   exact fin (by simp [h1,h2,h3])
end Go.Proofs.YtjloddgofmdmgaaGreatDoor
namespace Go.Proofs.YtjloddgofmdmgaaGreatDoor
set_option maxRecDepth 20000
open Eng Go.RowKit
theorem begins_skip {s : List UInt8} {a : Int} (h : Tl.beginsX s a = true) : 0≤a∧a≤s.length∧Lx.skip s a.toNat = a.toNat:=by
 unfold Tl.beginsX at h
 simp only [Bool.and_eq_true,decide_eq_true_eq] at h
 refine⟨h.1.1,h.1.2,?_⟩
 unfold Lx.skip
 cases hd : s.drop a.toNat with
 | nil => rw [hd] at h;exact absurd h.2 (by decide)
 | cons c r =>
  rw [hd] at h
  have hc : c = 120:=by
   have:=h.2
   unfold Tl.xrefW at this
   rw [List.isPrefixOf_cons_cons] at this
   simp only [Bool.and_eq_true,beq_iff_eq] at this
   exact this.1.symm
  subst hc
  rw [Lx.skipF,if_neg (by decide),if_neg (by decide)]
  rfl
theorem tface_plain : plainB Tryz.prog 42 = true:=by kernel_rfl
def SecV (N : Mem) (v : Value) (x : Sec) : Prop:=∃ vs vk vc,v = secV x vs vk vc∧SlA N.A N.w vs 4 x.slots.length (x.slots.flatMap slC)∧OV N.A N.w (obV x.trailer vk vc) x.trailer
section
variable {w : World} {PK : List PanicEntry→World→Prop} {K : Value→World→Prop} {S : Nat→Prop} {w0 : World} {L : List Ent}
theorem c_tleads {o : Ob} {v : Value} {k : List UInt8} (ho : OwnS S w0 w L) (hv : OV (InW w) w v o) (hw : o.wt≤100000000000) (kr : ∀ n,Tl.leads o k = some n→∀ w',OwnS S w0 w' L→K (.int .i64 n) w') (kp : Tl.leads o k = none→∀ w',OwnS S w0 w' L→PK [badT] w') :
  CallX Tryz.prog 48 #[v,.string ⟨k.toArray⟩] w PK K:=by
 cases h : Tl.leads o k with
 | some n =>
  refine c_ret (R:=fun v' w' => v' = .int .i64 n∧Below w.heap.size w w') (tleads_calls o v k w _ hw hv (fun m hm w' hb => ?_) fun hn => by rw [h] at hn;cases hn) ?_
  ·rw [h] at hm;cases hm
   exact retK ⟨rfl,hb⟩
  ·rintro _ w' ⟨rfl,hb⟩
   exact kr n h w' (ho.grow hb)
 | none =>
  refine c_pan (R:=fun c w' => c = [badT]∧Below w.heap.size w w') (tleads_calls o v k w _ hw hv (fun m hm => by rw [h] at hm;cases hm) fun _ w' hb => panK ⟨rfl,hb⟩) ?_
  rintro _ w' ⟨rfl,hb⟩
  exact kp h w' (ho.grow hb)
end
def SecR (b : Nat) (s : List UInt8) (a : Int) (M : Mem) (w : World) (v : Value) (w' : World) : Prop:=
 ∃ (N : Mem) (e2 : Ent),M.le N∧((Tl.read s a).2.2 = 0→∃ xv,v = .tuple #[xv,.int .i64 0]∧SecV N xv (Tl.read s a).1∧e2 = trE b s (Tl.read s a).2.1) ∧
  ((Tl.read s a).2.2≠0→Tl.read s a = Tl.bad∧∃ x vs vk vc,v = .tuple #[secV x vs vk vc,.int .i64 19]∧vs.oneCell' = true∧vk.oneCell' = true∧vc.oneCell' = true)∧Turn (.two (trE b s a) (.mem M)) (.two e2 (.mem N)) w w'
theorem sec_fail {b : Nat} {s : List UInt8} {a : Int} {M N : Mem} {S0 : Nat→Prop} {w W : World} {K : Ending→World→Prop} {A : List Ent} {b2 b3 : Nat} {x : Sec} {vs vk vc : Value} {e2 : Ent} (hK : ∀ v w',SecR b s a M w v w'→K (.returned v) w') (hS : (Ent.two (trE b s a) (.mem M)).blk = S0)
  (ho : OwnS S0 w W (A++([.cells b3 [.int .i64 0] 30,secE b2 x vs vk vc,e2,.mem N]++[]))) (h1 : vs.oneCell' = true) (h2 : vk.oneCell' = true) (h3 : vc.oneCell' = true) (hle : M.le N) (hR : Tl.read s a = Tl.bad) :
  S_table_reader_section_p0 (.pointer (some ⟨b2,0,none⟩)) (.pointer (some ⟨b3,0,none⟩)) K [badT] W:=by
 show pd Tryz.prog _ K _ [badT] W
 unfold pd
 refine leave_fn (by simp) tface_plain (S_table_face_dok ?_)
 simp only [S_table_face,recV,recM,badT,Eng.e_some Tryz.underlying20,rs,t_hit nfT,ex,i_t,i_f]
 have ho:=ho.front
 have ho : OwnS S0 w W (.cells b3 [.int .i64 0] 30 :: secE b2 x vs vk vc :: e2 :: .mem N :: (A++[])):=ho
 refine o_new (fun b => .pointer (some ⟨b,0,none⟩)) [] 108 (fun _ => by kernel_rfl) ho fun b5 w5 ho => ?_
 refine o_put 0 ho rfl (new:=[]) (show (Tryz.prog.info? 108).map (·.size) = some 0 by kernel_rfl) (by simp) rfl fun w6 ho => ?_
 refine o_store 1 ho rfl (by kernel_rfl) rfl (by simp) fun w7 ho => ?_
 have ho:=ho.tail
 refine ret_v2 (rv_cell (ho.agg 1 rfl aggSec)) (rv_cell (AtV.cell nErr5 (ho.cell 0 rfl 0 rfl))) (hK _ _ ⟨N,e2,hle,fun h => ?_,fun _ => ⟨hR,x,vs,vk,vc,rfl,h1,h2,h3⟩,?_⟩)
 ·rw [hR] at h;exact absurd h (by decide)
 ·have ho:=ho.tail.tail.pair
  subst hS
  exact OwnS.back ho
def Tl.Mild (s : List UInt8) (a : Int) : Prop:=∀ t r,Tl.word s a Tl.xrefW = some t→Tl.slots s (s.length + 1) t [] = some r→(Ps.object s r.2).2.2 = 0→(Ps.object s r.2).1.wt≤100000000000
theorem Tl.mild_of {s : List UInt8} (a : Int) (hs : s.length≤1000000) : Tl.Mild s a:=by
 intro t r _ _ h
 unfold Ps.object at h ⊢
 split at h
 ·simp [Ps.bad] at h
 ·rename_i hb
  rw [if_neg hb]
  have h1:=Ps.obj_wt s 24 r.2 h
  have h2:=Ps.obj_bd h
  omega
theorem tsection_0 {b b2 b3 b5 : Nat} {s : List UInt8} {a t : Int} {M N : Mem} {S0 : Nat→Prop} {w W : World} {K : Ending→World→Prop} {A : List Ent} {l : List Slt} {vs xk xc : Value} (hwt : (Ps.object s t).2.2 = 0→(Ps.object s t).1.wt≤100000000000) (hK : ∀ v w',SecR b s a M w v w'→K (.returned v) w') (hS : (Ent.two (trE b s a) (.mem M)).blk = S0)
  (hov : OV N.A N.w (obV (Ps.object s t).1 xk xc) (Ps.object s t).1) (hsl : SlA N.A N.w vs 4 l.length (l.flatMap slC)) (hle : M.le N) (hread : Tl.read s a = Tl.finish s a l t)
  (ho : OwnS S0 w W (obE b5 (Ps.object s t).1 xk xc :: (A++([.cells b3 [.int .i64 0] 30,secE b2 ⟨a,l,Vl.ob0,0,0,0⟩ vs nilS nilS,trE b s t,.mem N]++[])))) :
  S_table_reader_section_0 (rdP b) (.pointer (some ⟨b2,0,none⟩)) (.pointer (some ⟨b3,0,none⟩)) (.pointer (some ⟨b5,0,none⟩)) (.int .i64 (Ps.object s t).2.1) (.int .i64 (Ps.object s t).2.2) W K:=by
 unfold S_table_reader_section_0
 have hvs:=hsl.one
 have hf1 : (Ps.object s t).2.2≠0∨(Ps.object s t).1.k≠7→Tl.finish s a l t = Tl.bad:=fun h => by rw [Tl.finish,if_pos h]
 have hf2 : (Ps.object s t).2.2 = 0∧(Ps.object s t).1.k = 7→Tl.finish s a l t = match Tl.leads (Ps.object s t).1 Tl.prevK,Tl.leads (Ps.object s t).1 Tl.hybK with
   | some p,some h => (⟨a,l,(Ps.object s t).1,p,h,0⟩,(Ps.object s t).2.1,0)
   | _,_ => Tl.bad:=fun h => by
  rw [Tl.finish,if_neg (by simp [h.1,h.2])]
  cases Tl.leads (Ps.object s t).1 Tl.prevK<;>cases Tl.leads (Ps.object s t).1 Tl.hybK<;>rfl
 generalize Ps.object s t = e at *
 have hx:=hov.slices
 obtain⟨xcs,hx⟩:=hx
 -- the base comes ahead
 have ho : OwnS S0 w W ([obE b5 e.1 xk xc]++(A++[.cells b3 [.int .i64 0] 30,secE b2 ⟨a,l,Vl.ob0,0,0,0⟩ vs nilS nilS,trE b s t,.mem N])):=by simpa using ho
 have ho : OwnS S0 w W ([obE b5 e.1 xk xc]++([.cells b3 [.int .i64 0] 30,secE b2 ⟨a,l,Vl.ob0,0,0,0⟩ vs nilS nilS,trE b s t,.mem N]++A)):=ho.perm (List.Perm.append_left _ List.perm_append_comm)
 have ho : OwnS S0 w W (obE b5 e.1 xk xc :: .cells b3 [.int .i64 0] 30 :: secE b2 ⟨a,l,Vl.ob0,0,0,0⟩ vs nilS nilS :: trE b s t :: .mem N :: A):=ho
 have fall : ∀ {W : World} {x : Sec} {vs vk vc : Value} {e2 : Ent},OwnS S0 w W (obE b5 e.1 xk xc :: .cells b3 [.int .i64 0] 30 :: secE b2 x vs vk vc :: e2 :: .mem N :: A)→vs.oneCell' = true→vk.oneCell' = true→vc.oneCell' = true→Tl.finish s a l t = Tl.bad →
   S_table_reader_section_p0 (.pointer (some ⟨b2,0,none⟩)) (.pointer (some ⟨b3,0,none⟩)) K [badT] W:=by
  intro W x vs vk vc e2 ho h1 h2 h3 hb
  have ho : OwnS S0 w W ([obE b5 e.1 xk xc]++([.cells b3 [.int .i64 0] 30,secE b2 x vs vk vc,e2,.mem N]++A)):=ho
  have ho:=ho.perm (L':=[obE b5 e.1 xk xc]++(A++[.cells b3 [.int .i64 0] 30,secE b2 x vs vk vc,e2,.mem N])) (List.Perm.append_left _ List.perm_append_comm)
  refine sec_fail (A:=obE b5 e.1 xk xc :: A) hK hS (by simpa using ho) h1 h2 h3 hle (hread.trans hb)
 have hfin : Tl.finish s a l t = Tl.finish s a l t:=rfl
 have fin : ∀ {q : Bool},(q = true ↔ (e.2.2 = 0∧e.1.k = 7))→(e.2.2≠0∨e.1.k≠7→Tl.finish s a l t = Tl.bad)→(e.2.2 = 0∧e.1.k = 7→Tl.finish s a l t = match Tl.leads e.1 Tl.prevK,Tl.leads e.1 Tl.hybK with
   | some p,some h => (⟨a,l,e.1,p,h,0⟩,e.2.1,0)
   | _,_ => Tl.bad) →
   CallX Tryz.prog 43 #[.bool q] W (S_table_reader_section_p0 (.pointer (some ⟨b2,0,none⟩)) (.pointer (some ⟨b3,0,none⟩)) K) fun t64 w =>
 DoX Tryz.prog (mFA 53 (rdP b) 1) w (S_table_reader_section_p0 (.pointer (some ⟨b2,0,none⟩)) (.pointer (some ⟨b3,0,none⟩)) K) fun t68 w =>
 DoX Tryz.prog (mStore 3 t68 (.int .i64 e.2.1)) w (S_table_reader_section_p0 (.pointer (some ⟨b2,0,none⟩)) (.pointer (some ⟨b3,0,none⟩)) K) fun _ w =>
 HeldX w (fun S3 w =>
 HDo Tryz.prog S3 (mLoad 27 (.pointer (some ⟨b5,0,none⟩))) fun t69 =>
 HDo Tryz.prog S3 (mLoad 27 (.pointer (some ⟨b5,0,none⟩))) fun t70 =>
 HDo Tryz.prog S3 (mLoad 27 (.pointer (some ⟨b5,0,none⟩))) fun t72 =>
 HDo Tryz.prog (fun _ => True) (mFA 29 (.pointer (some ⟨b2,0,none⟩)) 2) fun t74 =>
 CallX Tryz.prog 48 #[t70,(.string ⟨#[80,114,101,118]⟩)] w (pm1 (pm1 (pm1 (pm1 (pm1 (pm1 (S_table_reader_section_p0 (.pointer (some ⟨b2,0,none⟩)) (.pointer (some ⟨b3,0,none⟩)) K))))))) fun t71 w =>
 S3 w∧(CallX Tryz.prog 48 #[t72,(.string ⟨#[88,82,101,102,83,116,109]⟩)] w (pm1 (pm1 (pm1 (pm1 (pm1 (pm1 (S_table_reader_section_p0 (.pointer (some ⟨b2,0,none⟩)) (.pointer (some ⟨b3,0,none⟩)) K))))))) fun t73 w =>
 S3 w∧(DoX Tryz.prog (mStore 27 t74 t69) w (pm1 (pm1 (pm1 (pm1 (pm1 (pm1 (S_table_reader_section_p0 (.pointer (some ⟨b2,0,none⟩)) (.pointer (some ⟨b3,0,none⟩)) K))))))) fun _ w =>
 S3 w∧(HDo Tryz.prog (fun _ => True) (mFA 29 (.pointer (some ⟨b2,0,none⟩)) 3) fun t75 =>
 DoX Tryz.prog (mStore 3 t75 t71) w (pm1 (pm1 (pm1 (pm1 (pm1 (pm1 (S_table_reader_section_p0 (.pointer (some ⟨b2,0,none⟩)) (.pointer (some ⟨b3,0,none⟩)) K))))))) fun _ w =>
 S3 w∧(HDo Tryz.prog (fun _ => True) (mFA 29 (.pointer (some ⟨b2,0,none⟩)) 4) fun t76 =>
 DoX Tryz.prog (mStore 3 t76 t73) w (pm1 (pm1 (pm1 (pm1 (pm1 (pm1 (S_table_reader_section_p0 (.pointer (some ⟨b2,0,none⟩)) (.pointer (some ⟨b3,0,none⟩)) K))))))) fun _ w =>
 (DoX Tryz.prog (mLoad 29 (.pointer (some ⟨b2,0,none⟩))) w (S_table_reader_section_p0 (.pointer (some ⟨b2,0,none⟩)) (.pointer (some ⟨b3,0,none⟩)) K) fun t77 w =>
 DoX Tryz.prog (mStore 29 (.pointer (some ⟨b2,0,none⟩)) t77) w (S_table_reader_section_p0 (.pointer (some ⟨b2,0,none⟩)) (.pointer (some ⟨b3,0,none⟩)) K) fun _ w =>
 DoX Tryz.prog (mStore 30 (.pointer (some ⟨b3,0,none⟩)) (.int .i64 0)) w (S_table_reader_section_p0 (.pointer (some ⟨b2,0,none⟩)) (.pointer (some ⟨b3,0,none⟩)) K) fun _ w =>
 Leave Tryz.prog [.cell (.pointer (some ⟨b2,0,none⟩)) 29,.cell (.pointer (some ⟨b3,0,none⟩)) 30] K [{ target:=.fn (.func 42) #[],args:=#[(.pointer (some ⟨b3,0,none⟩))] }] .returning w)))))):=by
  intro q hq hno hyes
  refine c_tmust (fun hqt => ?_) fun hqf => ?_
  rotate_left
  ·refine fall ho hvs rfl rfl (hno ?_)
   by_cases h1 : e.2.2 = 0
   ·right
    intro h2
    rw [hq.2 ⟨h1,h2⟩] at hqf;cases hqf
   ·exact .inl h1
  obtain⟨hz,hk7⟩:=hq.1 hqt
  have hyes:=hyes ⟨hz,hk7⟩
  have hwt:=hwt hz
  rw [fa_tr1]
  refine tr_put (a':=e.2.1) 3 ho rfl fun w2 ho => ?_
  have ho : OwnS S0 w w2 (obE b5 e.1 xk xc :: .cells b3 [.int .i64 0] 30 :: secE b2 ⟨a,l,Vl.ob0,0,0,0⟩ vs nilS nilS :: trE b s e.2.1 :: .mem N :: A):=ho
  have ho:=ho.drew
  refine⟨fun W => (obE b5 e.1 xk xc).is W,ho.at_ 0 rfl,?_⟩
  have ld : ∀ W,(obE b5 e.1 xk xc).is W→(mLoad 27 (.pointer (some ⟨b5,0,none⟩))).run Tryz.prog W = .ok (.value (obV e.1 xk xc)) W:=fun W h => run_load_at (AtV.agg aggOb (cs:=obC e.1 xk xc) rfl fun j u hj => by rw [Nat.zero_add];exact cells_cell (T:=27) h hj)
  refine hd_do _ ld (hd_do _ ld (hd_do _ ld (hd_pure _ (fun _ => run_fa fse2) ?_)))
  refine c_tleads (k:=Tl.prevK) ho (OV.inw (ho.hasM 4 rfl) hov) hwt (fun p hp w3 ho => ⟨ho.at_ 0 rfl,?_⟩) fun hn w3 ho => ?_
  rotate_left
  ·rw [hn] at hyes
   exact fun _ _ _ _ _ _ => fall ho hvs rfl rfl hyes
  refine c_tleads (k:=Tl.hybK) ho (OV.inw (ho.hasM 4 rfl) hov) hwt (fun h hh w4 ho => ⟨ho.at_ 0 rfl,?_⟩) fun hn w4 ho => ?_
  rotate_left
  ·rw [hp,hn] at hyes
   exact fun _ _ _ _ _ _ => fall ho hvs rfl rfl hyes
  rw [hp,hh] at hyes
  simp only at hyes
  have hk1:=hx.keys.one
  have hc1:=hx.kids.one
  refine o_putAt 2 (T:=27) (off:=2) (new:=obC e.1 xk xc) ho rfl szOb (obC_one _ hk1 hc1) (show 2 + 6≤11 by omega) fun w5 ho => ⟨ho.at_ 0 rfl,?_⟩
  have ho : OwnS S0 w w5 (obE b5 e.1 xk xc :: .cells b3 [.int .i64 0] 30 :: secE b2 ⟨a,l,e.1,0,0,0⟩ vs xk xc :: trE b s e.2.1 :: .mem N :: A):=ho
  refine hd_pure _ (fun _ => run_fa fse3) ?_
  refine o_store 2 ho rfl (by kernel_rfl) rfl (show 8 < 11 by omega) fun w6 ho => ⟨ho.at_ 0 rfl,?_⟩
  refine hd_pure _ (fun _ => run_fa fse4) ?_
  refine o_store 2 ho rfl (by kernel_rfl) rfl (show 9 < 11 by omega) fun w7 ho => ?_
  have ho : OwnS S0 w w7 (obE b5 e.1 xk xc :: .cells b3 [.int .i64 0] 30 :: secE b2 ⟨a,l,e.1,p,h,0⟩ vs xk xc :: trE b s e.2.1 :: .mem N :: A):=ho
  rw [se_v ho 2 rfl]
  refine se_put (y:=⟨a,l,e.1,p,h,0⟩) 2 hvs hk1 hc1 ho rfl fun w8 ho => ?_
  refine o_store 1 ho rfl (by kernel_rfl) rfl (by simp) fun w9 ho => ?_
  refine leave_fn (by simp) tface_plain (S_table_face_dok ?_)
  simp only [S_table_face,recV,recM,Eng.e_nil Tryz.underlying20,rs]
  have ho : OwnS S0 w w9 (obE b5 e.1 xk xc :: .cells b3 [.int .i64 0] 30 :: secE b2 ⟨a,l,e.1,p,h,0⟩ vs xk xc :: trE b s e.2.1 :: .mem N :: A):=ho
  have hr:=hread.trans hyes
  refine ret_v2 (rv_cell (ho.agg 2 rfl aggSec)) (rv_cell (AtV.cell nErr5 (ho.cell 1 rfl 0 rfl))) (hK _ _ ⟨N,trE b s e.2.1,hle,fun _ => ⟨_,rfl,?_,by rw [hr]⟩,fun hne => absurd (by rw [hr]) hne,?_⟩)
  ·rw [hr]
   exact⟨vs,xk,xc,rfl,hsl,hov⟩
  ·have ho:=ho.tail.tail.tail.pair
   subst hS
   exact OwnS.back ho
 simp only [rs]
 by_cases hz : e.2.2 = 0
 case neg =>
  simp only [decide_eq_false hz,rs,g_un]
  exact fin (by simp [hz]) hf1 hf2
 simp only [decide_eq_true hz,rs,fa_o0,ob_k ho 0 rfl]
 by_cases hk : e.1.k = 7
 ·simp only [decide_eq_true hk,rs]
  exact fin (by simp [hz,hk]) hf1 hf2
 ·simp only [decide_eq_false hk,rs]
  exact fin (by simp [hz,hk]) hf1 hf2
end Go.Proofs.YtjloddgofmdmgaaGreatDoor
namespace Go.Proofs.YtjloddgofmdmgaaGreatDoor
set_option maxRecDepth 20000
open Eng Go.RowKit
theorem tsection_ret (b : Nat) (s : List UInt8) (a : Int) (M : Mem) (w : World) (hs : s.length≤1000000000) (hmild : Tl.Mild s a) (hr : (Ent.two (trE b s a) (.mem M)).is w) : Ret Tryz.prog 21 #[rdP b] w (SecR b s a M w):=by
 refine ret_of fun K hK => S_table_reader_section_ok ?_
 unfold S_table_reader_section
 have ho : OwnS (Ent.two (trE b s a) (.mem M)).blk w w [.two (trE b s a) (.mem M)]:=OwnS.lend hr
 generalize hS : (Ent.two (trE b s a) (.mem M)).blk = S0 at ho
 have ho:=ho.split
 refine o_sea ho fun b2 w1 ho => ?_
 refine o_new (fun b => .pointer (some ⟨b,0,none⟩)) [.int .i64 0] 30 (fun _ => by kernel_rfl) ho fun b3 w2 ho => ?_
 have ho : OwnS S0 w w2 [.cells b3 [.int .i64 0] 30,secE b2 Tl.sec0 nilS nilS nilS,trE b s a,.mem M]:=ho
 rw [m_nil,fa_tr1]
 refine do_eq (tr_a (ho.at_ 2 rfl)) |>.mpr ?_
 rw [fa_se0]
 refine o_store 1 ho rfl (by kernel_rfl) rfl (show 0 < 11 by omega) fun w3 ho => ?_
 have ho : OwnS S0 w w3 [.cells b3 [.int .i64 0] 30,secE b2 ⟨a,[],Vl.ob0,0,0,0⟩ nilS nilS nilS,trE b s a,.mem M]:=ho
 have hread:=Tl.read.eq_1 s a
 refine quiet ?_
 refine q_do _ (fun _ => run_nil) (q_do _ (fun _ => run_fa ftr0) (q_at _ (fun _ hb => tr_s ((ho.grow hb).at_ 2 rfl)) ?_))
 refine q_do _ (fun _ => run_nil) (q_do _ (fun _ => run_fa ftr1) (q_at _ (fun _ hb => tr_a ((ho.grow hb).at_ 2 rfl)) ?_))
 refine q_call (.bool (Tl.beginsX s a)) (fun W hb => Ret.mono (begins_ret s [120,114,101,102] a W) fun v w' h => ⟨h.1,h.2 ▸ hb⟩) ?_
 intro w4 hb
 have ho:=ho.grow hb
 refine c_tmust (fun hbg => ?_) fun hbg => ?_
 rotate_left
 ·rw [if_pos hbg] at hread
  exact sec_fail (A:=[]) hK hS ho rfl rfl rfl M.le_refl hread
 rw [if_neg (by rw [hbg];simp)] at hread
 obtain⟨ha0,ha1,hskip⟩:=begins_skip hbg
 refine c_lend ho 2 rfl (tnext_ret b s a w4 (by omega) (ho.at_ 2 rfl)) ?_ fun e2 w5 hn ho => ?_
 rotate_left
 ·have hw : Tl.word s a Tl.xrefW = none:=by unfold Tl.word;rw [if_neg fun h => hn h.1]
  rw [hw] at hread
  exact sec_fail (A:=[]) hK hS ho rfl rfl rfl M.le_refl hread
 rintro _ _ w5 e1 ⟨rfl,rfl⟩ ho
 have hbd:=@Lx.next_bd s a e1
 have hw : Tl.word s a Tl.xrefW = if (Lx.next s a).1.k = 5∧(Lx.next s a).1.s = Tl.xrefW then some (Lx.next s a).1.t else none:=by
  unfold Tl.word
  by_cases h : (Lx.next s a).1.k = 5∧(Lx.next s a).1.s = Tl.xrefW
  ·rw [if_pos ⟨e1,h⟩,if_pos h]
  ·rw [if_neg (fun h' => h h'.2),if_neg h]
 have hmild2 : ((Lx.next s a).1.k = 5∧(Lx.next s a).1.s = Tl.xrefW)→∀ r,Tl.slots s (s.length + 1) (Lx.next s a).1.t [] = some r→(Ps.object s r.2).2.2 = 0→(Ps.object s r.2).1.wt≤100000000000:=fun h r hr hz => hmild _ r (by rw [hw,if_pos h]) hr hz
 rw [hw] at hread
 clear hw
 generalize Lx.next s a = x at *
 refine o_tok ho fun b4 w6 ho => ?_
 refine tk_put 0 ho rfl fun w7 ho => ?_
 have ho : OwnS S0 w w7 [tokE b4 x.1,.cells b3 [.int .i64 0] 30,secE b2 ⟨a,[],Vl.ob0,0,0,0⟩ nilS nilS nilS,trE b s x.1.t,.mem M]:=ho
 by_cases hx : x.1.k = 5∧x.1.s = Tl.xrefW
 case neg =>
  rw [if_neg hx] at hread
  have hf:=sec_fail (A:=[tokE b4 x.1]) hK hS ho rfl rfl rfl M.le_refl hread
  by_cases k5 : x.1.k = 5
  ·have hs5 : ¬ x.1.s = [120,114,101,102]:=fun h => hx ⟨k5,h⟩
   simp only [rs,fa_t0,tk_k ho 0 rfl,decide_eq_true k5,fa_t4',tk_s ho 0 rfl,decide_eq_false hs5,g_un]
   exact c_tmust (fun h => by cases h) fun _ => hf
  ·simp only [rs,fa_t0,tk_k ho 0 rfl,decide_eq_false k5,g_un]
   exact c_tmust (fun h => by cases h) fun _ => hf
 rw [if_pos hx] at hread
 simp only at hread
 have hbd:=hbd (by rw [hx.1];decide)
 have hat : x.1.a = a:=by rw [hbd.2.2.1,hskip];omega
 have hs5 : x.1.s = [120,114,101,102]:=hx.2
 simp only [rs,fa_t0,tk_k ho 0 rfl,decide_eq_true hx.1,fa_t4',tk_s ho 0 rfl,decide_eq_true hs5,fa_t1,tk_a ho 0 rfl,fa_se0,se_at ho 2 rfl,decide_eq_true hat]
 refine c_tmust (fun _ => ?_) fun h => by cases h
 refine c_lend ho 3 rfl (tslots_ret b s x.1.t w7 (by omega) (by omega) hbd.2.2.2.2 (ho.at_ 3 rfl)) ?_ fun e2 w8 hn ho => ?_
 rotate_left
 ·rw [Classical.not_not.1 hn] at hread
  exact sec_fail (A:=[tokE b4 x.1]) hK hS ho rfl rfl rfl M.le_refl hread
 rintro v _ w8 _ ⟨l,t,hsl,hrise,hlen,rfl⟩ ho
 have hslots:=hsl
 have hmild2:=hmild2 hx
 rw [hsl] at hread
 simp only at hread
 have hv1:=urow_one (ho.at_ 3 rfl).2.1
 rw [fa_se1]
 refine o_store 2 ho rfl (by kernel_rfl) hv1 (show 1 < 11 by omega) fun w9 ho => ?_
 have ho : OwnS S0 w w9 ([tokE b4 x.1,.cells b3 [.int .i64 0] 30,secE b2 ⟨a,l,Vl.ob0,0,0,0⟩ v nilS nilS]++([.two (trE b s t) (slsE v l)]++[.mem M])):=ho
 have ho:=ho.front.split
 have ho : OwnS S0 w w9 ([trE b s t]++([slsE v l]++[tokE b4 x.1,.cells b3 [.int .i64 0] 30,secE b2 ⟨a,l,Vl.ob0,0,0,0⟩ v nilS nilS,.mem M])):=ho
 have ho:=ho.front
 obtain⟨N,hle,hrow,ho⟩:=OwnS.freezeU (L:=[trE b s t,tokE b4 x.1,.cells b3 [.int .i64 0] 30,secE b2 ⟨a,l,Vl.ob0,0,0,0⟩ v nilS nilS,.mem M]) ho 4 rfl
 have ho : OwnS S0 w w9 ([trE b s t]++([tokE b4 x.1,.cells b3 [.int .i64 0] 30,secE b2 ⟨a,l,Vl.ob0,0,0,0⟩ v nilS nilS]++[.mem N])):=ho
 have ho:=ho.front
 have ho : OwnS S0 w w9 [tokE b4 x.1,.cells b3 [.int .i64 0] 30,secE b2 ⟨a,l,Vl.ob0,0,0,0⟩ v nilS nilS,trE b s t,.mem N]:=ho
 have ho:=ho.drew
 refine⟨fun W => (trE b s t).is W,ho.at_ 3 rfl,?_⟩
 refine hd_pure _ (fun _ => run_nil) (hd_pure _ (fun _ => run_fa ftr0) (hd_do _ (fun W h => tr_s h) ?_))
 refine hd_pure _ (fun _ => run_nil) (hd_pure _ (fun _ => run_fa ftr1) (hd_do _ (fun W h => tr_a h) ?_))
 refine⟨?_,?_⟩
 ·refine c_mem ho 4 rfl (psobject_ret s t (by omega) N _ (ho.hasM 4 rfl)) ?_
  rintro _ N2 w10 hle2 ⟨u,rfl,hu⟩ ho
  obtain⟨xk,xc,xcs,rfl,hx⟩:=hu.open
  refine hd_pure (obV (Ps.object s t).1 xk xc) (fun _ => rfl) (hd_pure (.int .i64 (Ps.object s t).2.1) (fun _ => rfl) (hd_pure (.int .i64 (Ps.object s t).2.2) (fun _ => rfl) ?_))
  refine o_oba ho fun b5 w11 ho => ⟨ho.at_ 4 rfl,?_⟩
  refine ob_put 0 hx.keys.one hx.kids.one ho rfl fun w12 ho => ?_
  exact tsection_0 (A:=[tokE b4 x.1]) (hmild2 (l,t) hslots) hK hS hx.ov (hrow.le hle2) (hle.trans hle2) hread ho
 ·refine o_oba ho fun b5 w10 ho => ⟨ho.at_ 4 rfl,?_⟩
  refine c_mem ho 5 rfl (psobject_ret s t (by omega) N _ (ho.hasM 5 rfl)) ?_
  rintro _ N2 w11 hle2 ⟨u,rfl,hu⟩ ho
  obtain⟨xk,xc,xcs,rfl,hx⟩:=hu.open
  refine hd_pure (obV (Ps.object s t).1 xk xc) (fun _ => rfl) (hd_pure (.int .i64 (Ps.object s t).2.1) (fun _ => rfl) (hd_pure (.int .i64 (Ps.object s t).2.2) (fun _ => rfl) ?_))
  refine ob_put 0 hx.keys.one hx.kids.one ho rfl fun w12 ho => ?_
  exact tsection_0 (A:=[tokE b4 x.1]) (hmild2 (l,t) hslots) hK hS hx.ov (hrow.le hle2) (hle.trans hle2) hread ho
end Go.Proofs.YtjloddgofmdmgaaGreatDoor
namespace Go.Proofs.YtjloddgofmdmgaaGreatDoor
set_option maxRecDepth 20000
open Eng Go.RowKit
def secR (r : Sec × Int × Int) (v : Value) (N : Mem) : Prop:=∃ xv,v = .tuple #[xv,.int .i64 r.2.1,.int .i64 r.2.2]∧SecV N xv r.1
theorem sec0_v {N : Mem} : SecV N (secV Tl.sec0 nilS nilS nilS) Tl.sec0:=⟨nilS,nilS,nilS,rfl,SlA.nil _ _ _ _,ob0_ov2⟩
theorem tread_mild (s : List UInt8) (a : Int) (M : Mem) (w : World) (hs : s.length≤1000000000) (hmild : Tl.Mild s a) (hM : M.has w) : RetM Tryz.prog 8 #[.string ⟨s.toArray⟩,.int .i64 a] M w (secR (Tl.read s a)):=by
 refine retM_of hM fun K hK => S_table_Read_ok ?_
 unfold S_table_Read
 refine o_sea (OwnS.memS hM) fun b4 w1 ho => ?_
 have hb1 : ∀ {PK : List PanicEntry→World→Prop} {K : Value→World→Prop},DoX Tryz.prog (mBuild 53 #[(0,.string ⟨s.toArray⟩),(1,.int .i64 a)]) w1 PK K = K (.agg (rdC s a).toArray) w1:=do_eq (by kernel_rfl)
 rw [hb1]
 refine o_new (fun b => .pointer (some ⟨b,0,none⟩)) (rdC s a) 53 (fun _ => by kernel_rfl) ho fun b13 w2 ho => ?_
 have ho : OwnS M.A w w2 ([trE b13 s a]++([.mem M]++[secE b4 Tl.sec0 nilS nilS nilS])):=ho.perm (List.Perm.append_left [trE b13 s a] (List.Perm.swap _ _ _))
 have ho:=ho.pair
 refine c_ret (tsection_ret b13 s a M w2 hs hmild (ho.at_ 0 rfl)) ?_
 rintro v w3 ⟨N,e2,hle,hgood,hbad,ht⟩
 have ho:=(ho.turn 0 rfl ht).split
 have ho : OwnS M.A w w3 [e2,.mem N,secE b4 Tl.sec0 nilS nilS nilS]:=ho
 by_cases hz : (Tl.read s a).2.2 = 0
 case neg =>
  obtain⟨hr,x,vs,vk,vc,rfl,h1,h2,h3⟩:=hbad hz
  simp only [ex]
  refine o_sea ho fun b8 w4 ho => ?_
  refine se_put (y:=x) 0 h1 h2 h3 ho rfl fun w5 ho => ?_
  simp only [rs,show decide ((19 : Int)≠0) = true by decide]
  rw [m_se0]
  refine se_put (y:=Tl.sec0) 3 rfl rfl rfl ho rfl fun w6 ho => ?_
  refine ret_v3 (rv_cell (ho.agg 3 rfl aggSec)) rv_val rv_val (hK _ _ N _ 2 ho rfl hle ?_)
  rw [hr]
  exact⟨_,rfl,sec0_v⟩
 obtain⟨xv,rfl,⟨vs,vk,vc,rfl,hsl,hov⟩,rfl⟩:=hgood hz
 simp only [ex]
 refine o_sea ho fun b8 w4 ho => ?_
 refine se_put (y:=(Tl.read s a).1) 0 hsl.one hov.oneK hov.oneC ho rfl fun w5 ho => ?_
 have ho : OwnS M.A w w5 [secE b8 (Tl.read s a).1 vs vk vc,trE b13 s (Tl.read s a).2.1,.mem N,secE b4 Tl.sec0 nilS nilS nilS]:=ho
 simp only [rs,show decide ((0 : Int)≠0) = false by decide]
 have ho:=ho.drew
 refine⟨fun W => (secE b8 (Tl.read s a).1 vs vk vc).is W∧(trE b13 s (Tl.read s a).2.1).is W,⟨ho.at_ 0 rfl,ho.at_ 1 rfl⟩,?_⟩
 refine hd_do (secV (Tl.read s a).1 vs vk vc) (fun W h => run_load_at (AtV.agg aggSec (cs:=secC (Tl.read s a).1 vs vk vc) rfl fun j u hj => by rw [Nat.zero_add];exact cells_cell (T:=29) h.1 hj)) ?_
 refine hd_pure _ (fun _ => run_nil) (hd_pure _ (fun _ => run_fa ftr1) (hd_do _ (fun W h => tr_a h.2) ?_))
 refine se_put (y:=(Tl.read s a).1) 3 hsl.one hov.oneK hov.oneC ho rfl fun w6 ho => ⟨⟨ho.at_ 0 rfl,ho.at_ 1 rfl⟩,?_⟩
 refine ret_v3 (rv_cell (ho.agg 3 rfl aggSec)) rv_val rv_val (hK _ _ N _ 2 ho rfl hle ?_)
 exact⟨_,by rw [hz];rfl,vs,vk,vc,rfl,hsl,hov⟩
theorem tread_ret (s : List UInt8) (a : Int) (M : Mem) (w : World) (hs : s.length≤1000000) (hM : M.has w) : RetM Tryz.prog 8 #[.string ⟨s.toArray⟩,.int .i64 a] M w (secR (Tl.read s a)):=tread_mild s a M w (by omega) (Tl.mild_of a hs) hM
end Go.Proofs.YtjloddgofmdmgaaGreatDoor


namespace Go.Proofs.YtjloddgofmdmgaaGreatDoor
set_option maxRecDepth 20000
open Eng Go.RowKit
abbrev slsC (l : List Slt) : List Value:=l.flatMap slC
theorem slot_at {M : Mem} {v : Value} {l : List Slt} (hs : SlA M.A M.w v 4 l.length (slsC l)) {i : Nat} (hi : i < l.length) :
  ∃ (b off : Nat),∀ W,M.has W→(mIA 23 v (.int .i64 (i : Int))).run Tryz.prog W = .ok (.value (.pointer (some ⟨b,off,none⟩))) W∧∀ j u,(slC l[i])[j]? = some u→W.cell? ⟨b,off + j,none⟩ = some u:=by
 obtain⟨b,off,cap,rfl,_⟩:=sl_open hs.1 (by omega)
 refine⟨b,off + i * 4,fun W hW => ⟨?_,fun j u hj => ?_⟩⟩
 ·have:=run_ia (P:=Tryz.prog) (T:=23) (b:=b) (off:=off) (cap:=cap) (n:=l.length) (k:=.i64) (i:=(i : Int)) (w:=W) Tryz.underlying23 szSl (by omega) (by omega)
  rw [Int.toNat_natCast] at this
  exact this
 ·have:=Sl.cellAt (hs.now hW) (i * 4 + j) u (Eng.flat_get slC_len hi hj)
  rwa [← Nat.add_assoc] at this
theorem run_slt {W : World} {b off : Nat} {x : Slt} (h : ∀ j u,(slC x)[j]? = some u→W.cell? ⟨b,off + j,none⟩ = some u) : (mLoad 49 (.pointer (some ⟨b,off,none⟩))).run Tryz.prog W = .ok (.value (slV x)) W:=
 run_load_at (AtV.agg aggSl (cs:=slC x) rfl h)
theorem run_snum {W : World} {b off : Nat} {x : Slt} (h : ∀ j u,(slC x)[j]? = some u→W.cell? ⟨b,off + j,none⟩ = some u) : (mLoad 3 (.pointer (some ⟨b,off,none⟩))).run Tryz.prog W = .ok (.value (.int .i64 x.num)) W:=
 run_load_cell nInt5 (h 0 _ rfl)
namespace Tl
def lastN (l : List Slt) : Nat→Option Int
 | 0 => none
 | i + 1 => (l[i]?).map (·.num)
theorem checkG_step {l : List Slt} {i : Nat} (hi : i < l.length) : checkG (lastN l i) (l.drop i) = if okS l[i]≠0 then okS l[i] else if (lastN l i).any (fun n => decide (l[i].num = n)) then 9 else if (lastN l i).any (fun n => decide (l[i].num < n)) then 1 else checkG (lastN l (i + 1)) (l.drop (i + 1)):=by
 rw [List.drop_eq_getElem_cons hi,checkG,lastN,List.getElem?_eq_getElem hi];rfl
end Tl
theorem okS_fits (x : Slt) : Tl.okS x = if x.num < 0∨8191 < x.num then 2 else if x.kind < 0∨2 < x.kind then 10 else if fitsS x then 0 else 2:=by
 unfold Tl.okS fitsS
 by_cases h1 : x.num < 0∨8191 < x.num
 ·rw [if_pos h1,if_pos h1]
 by_cases h2 : x.kind < 0∨2 < x.kind
 ·rw [if_neg h1,if_pos h2,if_neg h1,if_pos h2]
 rw [if_neg h1,if_neg h2,if_neg h1,if_neg h2]
 by_cases h3 : x.kind = 2
 ·rw [if_pos h3,if_pos h3]
  by_cases h4 : x.a < 1∨8191 < x.a∨x.b < 0∨8191 < x.b
  ·rw [if_pos h4,if_neg (by simp;omega)]
  ·rw [if_neg h4,if_pos (by simp;omega)]
 ·rw [if_neg h3,if_neg h3]
  by_cases h4 : x.a < 0∨2147483647 < x.a∨x.b < 0∨65535 < x.b
  ·rw [if_pos h4,if_neg (by simp;omega)]
  ·rw [if_neg h4,if_pos (by simp;omega)]
section
variable {S : Nat→Prop} {w w0 : World} {L : List Ent}
theorem q_eqlast {b : Nat} {M : Mem} {v : Value} {l : List Slt} {x : Slt} {i : Nat} (jx jm : Nat) (ho : OwnS S w0 w L) (hx : L[jx]? = some (slE b x)) (hm : L[jm]? = some (.mem M)) (hs : SlA M.A M.w v 4 l.length (slsC l)) (hi : i≤l.length) (hb : l.length≤1000000000000) {xo yo : Operand} {F : Value→World→Prop}
  (h : ∀ W,OwnS S w0 W L→F (.bool ((Tl.lastN l i).any fun n => decide (x.num = n))) W) :
  QuietX w (fun C2 =>
 QDo Tryz.prog C2 (mBin .gtr 3 (.int .i64 (i : Int)) (.int .i64 0)) fun t36 =>
 GQ t36 true (fun E => QDo Tryz.prog C2 (mFA 49 (.pointer (some ⟨b,0,none⟩)) 0) E) fun t38 =>
 GQ t36 true (fun E => QDo Tryz.prog C2 (mLoad 3 t38) E) fun t39 =>
 GQ t36 true (fun E => E v) fun t40 =>
 GQ t36 true (fun E => E (.int .i64 (i : Int))) fun t41 =>
 GQ t36 true (fun E => QDo Tryz.prog C2 (mBin .sub 3 t41 (.int .i64 1)) E) fun t42 =>
 GQ t36 true (fun E => QDo Tryz.prog C2 (mIA 23 t40 t42) E) fun t43 =>
 GQ t36 true (fun E => QDo Tryz.prog C2 (mFA 49 t43 0) E) fun t44 =>
 GQ t36 true (fun E => QDo Tryz.prog C2 (mLoad 3 t44) E) fun t45 =>
 GQ t36 true (fun E => QDo Tryz.prog C2 (mEq .eql 3 xo yo t39 t45) E) fun t46 =>
 QDo Tryz.prog C2 (mPick t36 t46 (.bool false)) fun t47 =>
 ∀ w,C2 w→F t47 w):=by
 refine quiet ?_
 rcases Nat.eq_zero_or_pos i with hz | hz
 ·subst hz
  refine q_gtr ?_
  simp only [show decide ((0 : Int) < ((0 : Nat) : Int)) = false by decide,gq,gq_un]
  exact q_pf fun W hb => h W (ho.grow hb)
 obtain⟨j,rfl⟩ : ∃ j,i = j + 1:=⟨i - 1,by omega⟩
 have hj : (0 : Int) < ((j + 1 : Nat) : Int):=by omega
 have hw1 : IntKind.wrap .i64 (((j + 1 : Nat) : Int) - 1) = (j : Int):=by rw [wrap64_id (by omega) (by omega)];omega
 obtain⟨g,off,hr⟩:=slot_at hs (i:=j) (by omega)
 refine q_gtr ?_
 simp only [decide_eq_true hj,gq,gq_un]
 refine q_do _ (fun _ => run_fa fs0) ?_
 refine q_at (.int .i64 x.num) (fun _ hb => run_load_cell nInt5 ((ho.grow hb).cell jx hx 0 rfl)) ?_
 refine q_do (.int .i64 (j : Int)) (fun _ => by rw [r_sub,hw1]) ?_
 refine q_at _ (fun W hb => (hr W ((ho.grow hb).hasM jm hm)).1) ?_
 refine q_do _ (fun _ => run_fa fs0) ?_
 refine q_at (.int .i64 l[j].num) (fun W hb => run_snum (hr W ((ho.grow hb).hasM jm hm)).2) ?_
 refine q_eq ?_
 refine q_pt fun W hb => ?_
 have e : Tl.lastN l (j + 1) = some l[j].num:=by rw [Tl.lastN,List.getElem?_eq_getElem (by omega)];rfl
 have:=h W (ho.grow hb)
 rw [e] at this
 exact this
theorem q_lslast {b : Nat} {M : Mem} {v : Value} {l : List Slt} {x : Slt} {i : Nat} (jx jm : Nat) (ho : OwnS S w0 w L) (hx : L[jx]? = some (slE b x)) (hm : L[jm]? = some (.mem M)) (hs : SlA M.A M.w v 4 l.length (slsC l)) (hi : i≤l.length) (hb : l.length≤1000000000000) {F : Value→World→Prop}
  (h : ∀ W,OwnS S w0 W L→F (.bool ((Tl.lastN l i).any fun n => decide (x.num < n))) W) :
  QuietX w (fun C2 =>
 QDo Tryz.prog C2 (mBin .gtr 3 (.int .i64 (i : Int)) (.int .i64 0)) fun t36 =>
 GQ t36 true (fun E => QDo Tryz.prog C2 (mFA 49 (.pointer (some ⟨b,0,none⟩)) 0) E) fun t38 =>
 GQ t36 true (fun E => QDo Tryz.prog C2 (mLoad 3 t38) E) fun t39 =>
 GQ t36 true (fun E => E v) fun t40 =>
 GQ t36 true (fun E => E (.int .i64 (i : Int))) fun t41 =>
 GQ t36 true (fun E => QDo Tryz.prog C2 (mBin .sub 3 t41 (.int .i64 1)) E) fun t42 =>
 GQ t36 true (fun E => QDo Tryz.prog C2 (mIA 23 t40 t42) E) fun t43 =>
 GQ t36 true (fun E => QDo Tryz.prog C2 (mFA 49 t43 0) E) fun t44 =>
 GQ t36 true (fun E => QDo Tryz.prog C2 (mLoad 3 t44) E) fun t45 =>
 GQ t36 true (fun E => QDo Tryz.prog C2 (mBin .lss 3 t39 t45) E) fun t46 =>
 QDo Tryz.prog C2 (mPick t36 t46 (.bool false)) fun t47 =>
 ∀ w,C2 w→F t47 w):=by
 refine quiet ?_
 rcases Nat.eq_zero_or_pos i with hz | hz
 ·subst hz
  refine q_gtr ?_
  simp only [show decide ((0 : Int) < ((0 : Nat) : Int)) = false by decide,gq,gq_un]
  exact q_pf fun W hb => h W (ho.grow hb)
 obtain⟨j,rfl⟩ : ∃ j,i = j + 1:=⟨i - 1,by omega⟩
 have hj : (0 : Int) < ((j + 1 : Nat) : Int):=by omega
 have hw1 : IntKind.wrap .i64 (((j + 1 : Nat) : Int) - 1) = (j : Int):=by rw [wrap64_id (by omega) (by omega)];omega
 obtain⟨g,off,hr⟩:=slot_at hs (i:=j) (by omega)
 refine q_gtr ?_
 simp only [decide_eq_true hj,gq,gq_un]
 refine q_do _ (fun _ => run_fa fs0) ?_
 refine q_at (.int .i64 x.num) (fun _ hb => run_load_cell nInt5 ((ho.grow hb).cell jx hx 0 rfl)) ?_
 refine q_do (.int .i64 (j : Int)) (fun _ => by rw [r_sub,hw1]) ?_
 refine q_at _ (fun W hb => (hr W ((ho.grow hb).hasM jm hm)).1) ?_
 refine q_do _ (fun _ => run_fa fs0) ?_
 refine q_at (.int .i64 l[j].num) (fun W hb => run_snum (hr W ((ho.grow hb).hasM jm hm)).2) ?_
 refine q_lss ?_
 refine q_pt fun W hb => ?_
 have e : Tl.lastN l (j + 1) = some l[j].num:=by rw [Tl.lastN,List.getElem?_eq_getElem (by omega)];rfl
 have:=h W (ho.grow hb)
 rw [e] at this
 exact this
end
 attribute [local congr] g_congr
theorem tcheck_ret (l : List Slt) (v : Value) (M : Mem) (w : World) (hb : l.length≤1000000000000) (hM : M.has w) (hs : SlA M.A M.w v 4 l.length (slsC l)) :
  Ret Tryz.prog 16 #[v] w (fun r w' => r = .int .i64 (Tl.check l)∧Below w.heap.size w w'):=by
 refine ret_of fun K hK => S_table_Check_ok ?_
 unfold S_table_Check
 rw [sl_len Tryz.underlying23 (hs.now hM)]
 refine loop (fun vs W => ∃ i : Nat,vs = [.int .i64 i]∧i≤l.length∧Tl.check l = Tl.checkG (Tl.lastN l i) (l.drop i)∧OwnS M.A w W [.mem M]) (fun vs _ => l.length - n0 vs) ⟨0,rfl,by omega,rfl,OwnS.memS hM⟩ ?_
 rintro vs w1 ⟨i,rfl,hi,he,ho⟩ _
 simp only [S_table_Check_0,gd,rs]
 by_cases hlt : (i : Int) < (l.length : Int)
 case neg =>
  simp only [decide_eq_false hlt,i_f]
  rw [List.drop_eq_nil_of_le (by omega),Tl.checkG] at he
  exact hK _ _ ⟨by rw [he],(ho.toGives 0 rfl M.le_refl hM).below⟩
 have hi' : i < l.length:=by omega
 simp only [decide_eq_true hlt,i_t]
 rw [Tl.checkG_step hi',okS_fits] at he
 obtain⟨g,off,hr⟩:=slot_at hs hi'
 obtain⟨r1,r2⟩:=hr w1 (ho.hasM 0 rfl)
 refine do_eq r1 |>.mpr (do_eq (run_slt r2) |>.mpr ?_)
 refine o_sla ho fun b4 w2 ho => ?_
 refine sl_put (y:=l[i]) 0 ho rfl fun w3 ho => ?_
 have ho : OwnS M.A w w3 [slE b4 l[i],.mem M]:=ho
 have hn : l[i]? = some l[i]:=List.getElem?_eq_getElem hi'
 generalize hxx : l[i] = x at *
 have l0 : ∀ {PK : List PanicEntry→World→Prop} {K : Value→World→Prop},DoX Tryz.prog (mLoad 3 (.pointer (some ⟨b4,0,none⟩))) w3 PK K = K (.int .i64 x.num) w3:=l_cell nInt5 (ho.cell 0 rfl 0 rfl)
 have l1 : ∀ {PK : List PanicEntry→World→Prop} {K : Value→World→Prop},DoX Tryz.prog (mLoad 3 (.pointer (some ⟨b4,0 + 1,none⟩))) w3 PK K = K (.int .i64 x.kind) w3:=l_cell nInt5 (ho.cell 0 rfl 1 rfl)
 have fin : ∀ {W : World} {e : Int} {L : List Ent},OwnS M.A w W (L++([.mem M]++[]))→Tl.check l = e→K (.returned (.int .i64 e)) W:=by
  intro W e L ho h
  exact hK _ _ ⟨by rw [h],(ho.front.toGives 0 rfl M.le_refl hM).below⟩
 simp +contextual only [rs,gs,fa_s0',l0]
 rw [i_bool]
 refine⟨fun hB => fin (L:=[_]) ho ?_,fun hB => ?_⟩
 ·simp only [Bool.or_eq_true,decide_eq_true_eq] at hB
  rw [he,if_pos hB];rfl
 have hB : ¬ (x.num < 0∨8191 < x.num):=by simp only [Bool.or_eq_false_iff,decide_eq_false_iff_not] at hB;omega
 rw [if_neg hB] at he
 simp +contextual only [rs,gs,fa_s1',l1]
 rw [i_bool]
 refine⟨fun hB => fin (L:=[_]) ho ?_,fun hB => ?_⟩
 ·simp only [Bool.or_eq_true,decide_eq_true_eq] at hB
  rw [he,if_pos hB];rfl
 have hB : ¬ (x.kind < 0∨2 < x.kind):=by simp only [Bool.or_eq_false_iff,decide_eq_false_iff_not] at hB;omega
 rw [if_neg hB] at he
 rw [sl_v ho 0 rfl]
 refine c_below ho (R:=fun v => v = .bool (fitsS x)) (tfits_ret x w3) ?_
 rintro _ w4 rfl ho
 simp only [rs]
 cases hf : fitsS x with
 | false =>
  rw [hf] at he
  simp only [Bool.not_false,i_t]
  exact fin (L:=[_]) ho (by rw [he];rfl)
 | true =>
 rw [hf] at he
 simp only [Bool.not_true,i_f]
 simp only [if_true,ne_eq,not_true,if_false] at he
 refine q_eqlast 0 1 ho rfl rfl hs hi hb fun w5 ho => ?_
 rw [i_bool]
 refine⟨fun hB => fin (L:=[_]) ho (by rw [he,if_pos hB]),fun hB => ?_⟩
 rw [if_neg (by rw [hB];simp)] at he
 refine q_lslast 0 1 ho rfl rfl hs hi hb fun w6 ho => ?_
 rw [i_bool]
 refine⟨fun hB => fin (L:=[_]) ho (by rw [he,if_pos hB]),fun hB => ?_⟩
 rw [if_neg (by rw [hB];simp)] at he
 rw [wrap64_id (by omega) (by omega)]
 exact nextX ⟨i + 1,rfl,by omega,he,ho.tail⟩ (by show l.length - Int.toNat ((i : Int) + 1) < l.length - Int.toNat (i : Int);omega)
theorem rcheck18_ret (l : List Slt) (v : Value) (M : Mem) (w : World) (hb : l.length≤1000000000000) (hM : M.has w) (hs : SlA M.A M.w v 4 l.length (slsC l)) :
  Ret Tryz.prog 17 #[v] w (fun r w' => r = .int .i64 (Tl.check l)∧Below w.heap.size w w'):=by
 refine ret_of fun K hK => S_foliantref18_Check_ok ?_
 unfold S_foliantref18_Check
 refine loop (fun vs W => ∃ i : Nat,vs = [.int .i64 i]∧i≤l.length∧Tl.check l = Tl.checkG (Tl.lastN l i) (l.drop i)∧OwnS M.A w W [.mem M]) (fun vs _ => l.length - n0 vs) ⟨0,rfl,by omega,rfl,OwnS.memS hM⟩ ?_
 rintro vs w1 ⟨i,rfl,hi,he,ho⟩ _
 simp only [S_foliantref18_Check_0,gd]
 rw [sl_len Tryz.underlying23 (hs.now (ho.hasM 0 rfl))]
 simp only [rs]
 by_cases hlt : (i : Int) < (l.length : Int)
 case neg =>
  simp only [decide_eq_false hlt,i_f]
  rw [List.drop_eq_nil_of_le (by omega),Tl.checkG] at he
  exact hK _ _ ⟨by rw [he],(ho.toGives 0 rfl M.le_refl hM).below⟩
 have hi' : i < l.length:=by omega
 simp only [decide_eq_true hlt,i_t]
 rw [Tl.checkG_step hi',Tl.okS] at he
 obtain⟨g,off,hr⟩:=slot_at hs hi'
 obtain⟨r1,r2⟩:=hr w1 (ho.hasM 0 rfl)
 refine do_eq r1 |>.mpr (do_eq (run_slt r2) |>.mpr ?_)
 refine o_sla ho fun b4 w2 ho => ?_
 refine sl_put (y:=l[i]) 0 ho rfl fun w3 ho => ?_
 have ho : OwnS M.A w w3 [slE b4 l[i],.mem M]:=ho
 generalize hxx : l[i] = x at *
 have l0 : ∀ {PK : List PanicEntry→World→Prop} {K : Value→World→Prop},DoX Tryz.prog (mLoad 3 (.pointer (some ⟨b4,0,none⟩))) w3 PK K = K (.int .i64 x.num) w3:=l_cell nInt5 (ho.cell 0 rfl 0 rfl)
 have l1 : ∀ {PK : List PanicEntry→World→Prop} {K : Value→World→Prop},DoX Tryz.prog (mLoad 3 (.pointer (some ⟨b4,0 + 1,none⟩))) w3 PK K = K (.int .i64 x.kind) w3:=l_cell nInt5 (ho.cell 0 rfl 1 rfl)
 have l2 : ∀ {PK : List PanicEntry→World→Prop} {K : Value→World→Prop},DoX Tryz.prog (mLoad 3 (.pointer (some ⟨b4,0 + 2,none⟩))) w3 PK K = K (.int .i64 x.a) w3:=l_cell nInt5 (ho.cell 0 rfl 2 rfl)
 have l3 : ∀ {PK : List PanicEntry→World→Prop} {K : Value→World→Prop},DoX Tryz.prog (mLoad 3 (.pointer (some ⟨b4,0 + 3,none⟩))) w3 PK K = K (.int .i64 x.b) w3:=l_cell nInt5 (ho.cell 0 rfl 3 rfl)
 have fin : ∀ {W : World} {e : Int} {L : List Ent},OwnS M.A w W (L++([.mem M]++[]))→Tl.check l = e→K (.returned (.int .i64 e)) W:=by
  intro W e L ho h
  exact hK _ _ ⟨by rw [h],(ho.front.toGives 0 rfl M.le_refl hM).below⟩
 simp +contextual only [rs,gs,fa_s0',l0]
 rw [i_bool]
 refine⟨fun hB => fin (L:=[_]) ho ?_,fun hB => ?_⟩
 ·simp only [Bool.or_eq_true,decide_eq_true_eq] at hB
  rw [he,if_pos hB];rfl
 have hB : ¬ (x.num < 0∨8191 < x.num):=by simp only [Bool.or_eq_false_iff,decide_eq_false_iff_not] at hB;omega
 rw [if_neg hB] at he
 simp +contextual only [rs,gs,fa_s1',l1]
 rw [i_bool]
 refine⟨fun hB => fin (L:=[_]) ho ?_,fun hB => ?_⟩
 ·simp only [Bool.or_eq_true,decide_eq_true_eq] at hB
  rw [he,if_pos hB];rfl
 have hB : ¬ (x.kind < 0∨2 < x.kind):=by simp only [Bool.or_eq_false_iff,decide_eq_false_iff_not] at hB;omega
 rw [if_neg hB] at he
 refine join fun J hJ => ?_
 have next : (Tl.check l = if (Tl.lastN l i).any (fun n => decide (x.num = n)) then 9 else if (Tl.lastN l i).any (fun n => decide (x.num < n)) then 1 else Tl.checkG (Tl.lastN l (i + 1)) (l.drop (i + 1)))→J [] w3:=by
  intro he
  refine hJ _ _ fun _ => ?_
  simp only [S_foliantref18_Check_1]
  refine q_eqlast 0 1 ho rfl rfl hs hi hb fun w5 ho => ?_
  rw [i_bool]
  refine⟨fun hB => fin (L:=[_]) ho (by rw [he,if_pos hB]),fun hB => ?_⟩
  rw [if_neg (by rw [hB];simp)] at he
  refine q_lslast 0 1 ho rfl rfl hs hi hb fun w6 ho => ?_
  rw [i_bool]
  refine⟨fun hB => fin (L:=[_]) ho (by rw [he,if_pos hB]),fun hB => ?_⟩
  rw [if_neg (by rw [hB];simp)] at he
  simp only [rs]
  rw [wrap64_id (by omega) (by omega)]
  exact nextX ⟨i + 1,rfl,by omega,he,ho.tail⟩ (by show l.length - Int.toNat ((i : Int) + 1) < l.length - Int.toNat (i : Int);omega)
 try simp only [rs,fa_s1',l1]
 by_cases hk : x.kind = 2
 ·rw [if_pos hk] at he
  simp only [decide_eq_true hk,i_t]
  simp +contextual only [rs,gs,fa_s2',l2,fa_s3',l3]
  rw [i_bool]
  refine⟨fun hB => fin (L:=[_]) ho ?_,fun hB => next ?_⟩
  ·simp only [Bool.or_eq_true,decide_eq_true_eq] at hB
   have hq : x.a < 1∨8191 < x.a∨x.b < 0∨8191 < x.b:=by omega
   rw [if_pos hq] at he
   rw [he];rfl
  ·simp only [Bool.or_eq_false_iff,decide_eq_false_iff_not] at hB
   rw [if_neg (by omega)] at he
   simpa using he
 ·rw [if_neg hk] at he
  simp only [decide_eq_false hk,i_f]
  simp +contextual only [rs,gs,fa_s2',l2,fa_s3',l3]
  rw [i_bool]
  refine⟨fun hB => fin (L:=[_]) ho ?_,fun hB => next ?_⟩
  ·simp only [Bool.or_eq_true,decide_eq_true_eq] at hB
   have hq : x.a < 0∨2147483647 < x.a∨x.b < 0∨65535 < x.b:=by omega
   rw [if_pos hq] at he
   rw [he];rfl
  ·simp only [Bool.or_eq_false_iff,decide_eq_false_iff_not] at hB
   rw [if_neg (by omega)] at he
   simpa using he
end Go.Proofs.YtjloddgofmdmgaaGreatDoor
namespace Go.Proofs.YtjloddgofmdmgaaGreatDoor
open Go
namespace Tl
open Lx (Tok Single skip next)
open Ps (At Toks)
theorem grp_bounds {g : List Slt} (hg : Grp g) (hok : ∀ x ∈ g,OkS x) : 0≤first g∧first g≤8191∧1≤g.length∧g.length≤8192:=by
 obtain⟨z,hz,hzn⟩:=grp_last hg
 have n1:=(hok z hz).n1
 have hf0 : 0≤first g:=by
  cases hgg : g with
  | nil => exact absurd hgg hg.1
  | cons y t => exact (hok y (by rw [hgg];exact List.mem_cons_self)).n0
 have hlen : 1≤g.length:=by
  cases hgg : g with
  | nil => exact absurd hgg hg.1
  | cons y t => simp
 exact⟨hf0,by omega,hlen,by omega⟩
end Tl
end Go.Proofs.YtjloddgofmdmgaaGreatDoor
namespace Go.Proofs.YtjloddgofmdmgaaGreatDoor
open Go
namespace Tl
def adj (y x : Slt) : Prop:=y.num < x.num∧x.num - 1 = y.num
instance (y x : Slt) : Decidable (adj y x):=by unfold adj;infer_instance
def addTo (gs : List (List Slt)) (x : Slt) : List (List Slt):=match gs.getLast? with
 | none => [[x]]
 | some g => match g.getLast? with
  | none => gs++[[x]]
  | some y => if adj y x then gs.dropLast++[g++[x]] else gs++[[x]]
theorem groupsG_ne : ∀ (l cur : List Slt),cur≠[]→groupsG cur l≠[]
 | [],cur,h => by rw [groupsG,if_neg h];simp
 | x :: l,cur,h => by
  rw [groupsG]
  cases hg : cur.getLast? with
  | none => exact groupsG_ne l [x] (by simp)
  | some y =>
   simp only
   split
   ·exact groupsG_ne l _ (by simp)
   ·simp
theorem addTo_cons {g : List Slt} {gs : List (List Slt)} {x : Slt} (h : gs≠[]) : addTo (g :: gs) x = g :: addTo gs x:=by
 unfold addTo
 have e : (g :: gs).getLast? = gs.getLast?:=by
  cases gs with
  | nil => exact absurd rfl h
  | cons a b => rw [List.getLast?_cons_cons]
 rw [e]
 cases hg : gs.getLast? with
 | none => exact absurd (List.getLast?_eq_none_iff.1 hg) h
 | some u =>
  simp only
  cases hu : u.getLast? with
  | none => rfl
  | some y =>
   simp only
   split
   ·rw [List.dropLast_cons_of_ne_nil h];rfl
   ·rfl
theorem groupsG_snoc (x : Slt) : ∀ (l cur : List Slt),groupsG cur (l++[x]) = addTo (groupsG cur l) x
 | [],cur => by
  rw [List.nil_append,groupsG,groupsG]
  cases hg : cur.getLast? with
  | none =>
   have hc : cur = []:=List.getLast?_eq_none_iff.1 hg
   subst hc
   rfl
  | some y =>
   have hc : cur≠[]:=fun e => by rw [e] at hg;cases hg
   rw [if_neg hc]
   unfold addTo
   simp only [List.getLast?_singleton,hg]
   unfold adj
   split
   ·rename_i h;rw [groupsG,if_neg (by simp)];simp [h]
   ·rename_i h;rw [groupsG,if_neg (by simp)];simp [h]
 | z :: l,cur => by
  rw [List.cons_append,groupsG,groupsG]
  cases hg : cur.getLast? with
  | none => exact groupsG_snoc x l [z]
  | some y =>
   simp only
   split
   ·exact groupsG_snoc x l _
   ·rw [groupsG_snoc x l [z],addTo_cons (groupsG_ne l [z] (by simp))]
theorem groups_last {l : List Slt} {y : Slt} (h : l.getLast? = some y) : ∃ gs g,groups l = gs++[g]∧g.getLast? = some y∧g≠[]∧g.length≤l.length:=by
 obtain⟨h1,h2⟩:=groups_ok l
 have hne : groups l≠[]:=fun e => by
  rw [e] at h1
  rw [← h1] at h
  cases h
 obtain⟨gs,g,e⟩ : ∃ gs g,groups l = gs++[g]:=⟨_,_,(List.dropLast_concat_getLast hne).symm⟩
 have hg : g≠[]:=(h2 g (by rw [e];simp)).1
 refine⟨gs,g,e,?_,hg,?_⟩
 ·rw [e] at h1
  rw [← h1] at h
  simp only [List.flatten_append,List.flatten_cons,List.flatten_nil,List.append_nil] at h
  rw [List.getLast?_append] at h
  cases hq : g.getLast? with
  | none => exact absurd (List.getLast?_eq_none_iff.1 hq) hg
  | some z => rw [hq] at h;exact h
 ·have:=congrArg List.length h1
  rw [e] at this
  simp at this
  omega
theorem runs_hit {l : List Slt} {x y : Slt} (hy : l.getLast? = some y) (h : adj y x) : ∃ (q : List (Int × Int)) (f : Int) (n : Nat),runs l = q++[(f,(n : Int))]∧runs (l++[x]) = q++[(f,(n : Int) + 1)]∧n≤l.length:=by
 obtain⟨gs,g,e,h1,h2,h3⟩:=groups_last hy
 refine⟨gs.map run,first g,g.length,?_,?_,h3⟩
 ·unfold runs;rw [e,List.map_append];rfl
 ·unfold runs groups
  rw [groupsG_snoc]
  have e' : groupsG [] l = gs++[g]:=e
  rw [e']
  unfold addTo
  rw [List.getLast?_concat]
  simp only [h1,if_pos h,List.dropLast_concat,List.map_append,List.map_cons,List.map_nil]
  have : first (g++[x]) = first g:=by
   cases g with
   | nil => exact absurd rfl h2
   | cons _ _ => rfl
  unfold run
  rw [this,List.length_append]
  simp
theorem runs_miss {l : List Slt} {x : Slt} (h : ∀ y,l.getLast? = some y→¬ adj y x) : runs (l++[x]) = runs l++[(x.num,1)]:=by
 unfold runs groups
 rw [groupsG_snoc]
 cases hl : l.getLast? with
 | none =>
  have : l = []:=List.getLast?_eq_none_iff.1 hl
  subst this
  rfl
 | some y =>
  obtain⟨gs,g,e,h1,h2,h3⟩:=groups_last hl
  have e' : groupsG [] l = gs++[g]:=e
  rw [e']
  unfold addTo
  rw [List.getLast?_concat]
  simp only [h1,if_neg (h y hl),List.map_append,List.map_cons,List.map_nil]
  rfl
theorem runs_len (l : List Slt) : (runs l).length≤l.length:=by
 obtain⟨h1,h2⟩:=groups_ok l
 have : ∀ gs : List (List Slt),(∀ g ∈ gs,Grp g)→gs.length≤gs.flatten.length:=by
  intro gs
  induction gs with
  | nil => intro _;simp
  | cons g gs ih =>
   intro h
   have a:=ih fun u hu => h u (List.mem_cons_of_mem _ hu)
   have b : 0 < g.length:=List.length_pos_iff.2 (h g List.mem_cons_self).1
   simp only [List.length_cons,List.flatten_cons,List.length_append]
   omega
 have:=this _ h2
 rw [h1] at this
 unfold runs
 simpa using this
def Apart : List (List Slt)→Prop
 | [] => True
 | g :: r => (∀ k y z,r.head? = some k→g.getLast? = some y→k.head? = some z→¬ adj y z)∧Apart r
theorem groupsG_apart : ∀ (l cur : List Slt),Apart (groupsG cur l)∧(cur≠[]→∀ k,(groupsG cur l).head? = some k→k.head? = cur.head?)
 | [],cur => by
  rw [groupsG]
  split
  ·rename_i hc;exact⟨trivial,fun h => absurd hc h⟩
  ·refine⟨?_,fun _ k hk => by simp at hk;rw [hk]⟩
   rw [Apart]
   exact⟨fun k y z h => (by cases h),trivial⟩
 | x :: l,cur => by
  rw [groupsG]
  cases hg : cur.getLast? with
  | none =>
   have hc : cur = []:=List.getLast?_eq_none_iff.1 hg
   subst hc
   exact⟨(groupsG_apart l [x]).1,fun h => absurd rfl h⟩
  | some y =>
   have hc : cur≠[]:=fun e => by rw [e] at hg;cases hg
   simp only
   split
   ·obtain⟨a,b⟩:=groupsG_apart l (cur++[x])
    refine⟨a,fun _ k hk => ?_⟩
    rw [b (by simp) k hk]
    cases cur with
    | nil => exact absurd rfl hc
    | cons _ _ => rfl
   ·rename_i h1
    obtain⟨a,b⟩:=groupsG_apart l [x]
    refine⟨⟨?_,a⟩,fun _ k hk => by simp at hk;rw [hk]⟩
    intro k y' z hk hy hz
    rw [b (by simp) k hk] at hz
    rw [hg] at hy
    cases hy
    cases hz
    exact h1
theorem apart_get : ∀ {gs : List (List Slt)} {i : Nat} (hi : i + 1 < gs.length) {y z : Slt},Apart gs→(gs[i]).getLast? = some y→(gs[i + 1]).head? = some z→¬ adj y z
 | g :: k :: r,0,_,y,z,h,hy,hz => h.1 k y z rfl hy hz
 | g :: r,i + 1,hi,y,z,h,hy,hz => apart_get (gs:=r) (by simpa using hi) h.2 (by simpa using hy) (by simpa using hz)
theorem fromN_at : ∀ {g : List Slt} {n : Int} {m : Nat} (hm : m < g.length),FromN n g→g[m].num = n + m
 | x :: g,n,0,_,h => by rw [FromN] at h;simpa using h.1
 | x :: g,n,m + 1,hm,h => by
  rw [FromN] at h
  have:=fromN_at (g:=g) (n:=n + 1) (m:=m) (by simpa using hm) h.2
  rw [List.getElem_cons_succ,this];omega
def pos (l : List Slt) (i : Nat) : Nat:=((groups l).take i).flatten.length
theorem run_at {l : List Slt} {i : Nat} (hi : i < (groups l).length) : 1≤((groups l)[i]).length∧pos l (i + 1) = pos l i + ((groups l)[i]).length∧pos l (i + 1)≤l.length ∧
  (∀ m,m < ((groups l)[i]).length→∀ h : pos l i + m < l.length,(l[pos l i + m]).num = first (groups l)[i] + m) ∧
  (0 < i→0 < pos l i∧∀ h : pos l i - 1 < l.length,first (groups l)[i]≠(l[pos l i - 1]).num + 1):=by
 obtain⟨h1,h2⟩:=groups_ok l
 have hA:=(groupsG_apart l []).1
 have hA : Apart (groups l):=hA
 have hgr : ∀ j (hj : j < (groups l).length),∃ A B,l = A++((groups l)[j]++B)∧A.length = pos l j:=by
  intro j hj
  refine⟨((groups l).take j).flatten,((groups l).drop (j + 1)).flatten,?_,rfl⟩
  have e:=List.take_append_drop j (groups l)
  rw [List.drop_eq_getElem_cons hj] at e
  have:=congrArg List.flatten e
  rw [h1,List.flatten_append,List.flatten_cons] at this
  exact this.symm
 have hpos : ∀ j (hj : j < (groups l).length),pos l (j + 1) = pos l j + ((groups l)[j]).length:=by
  intro j hj
  unfold pos
  rw [List.take_add_one,List.getElem?_eq_getElem hj,List.flatten_append,List.length_append]
  simp
 have hle : ∀ j (hj : j < (groups l).length),pos l (j + 1)≤l.length:=by
  intro j hj
  obtain⟨A,B,e,ha⟩:=hgr j hj
  have:=congrArg List.length e
  rw [hpos j hj]
  simp at this;omega
 have hget : ∀ j (hj : j < (groups l).length) m (hm : m < ((groups l)[j]).length) (h : pos l j + m < l.length),l[pos l j + m] = ((groups l)[j])[m]:=by
  intro j hj m hm h
  obtain⟨A,B,e,ha⟩:=hgr j hj
  have e2 : l[pos l j + m]? = some ((groups l)[j])[m]:=by
   generalize (groups l)[j] = g at *
   generalize pos l j = p at *
   rw [e,List.getElem?_append_right (by omega),List.getElem?_append_left (by omega),show p + m - A.length = m by omega,List.getElem?_eq_getElem hm]
  rw [List.getElem?_eq_getElem h] at e2
  exact Option.some.inj e2
 have hg:=h2 _ (List.getElem_mem hi)
 refine⟨List.length_pos_iff.2 hg.1,hpos i hi,hle i hi,fun m hm h => ?_,fun h0 => ?_⟩
 ·rw [hget i hi m hm h]
  exact fromN_at hm hg.2
 ·obtain⟨j,rfl⟩ : ∃ j,i = j + 1:=⟨i - 1,by omega⟩
  have hj : j < (groups l).length:=by omega
  have hg':=h2 _ (List.getElem_mem hj)
  have hl:=List.length_pos_iff.2 hg'.1
  have hp:=hpos j hj
  refine⟨by omega,fun h => ?_⟩
  have e3 : l[pos l (j + 1) - 1] = ((groups l)[j])[((groups l)[j]).length - 1]:=by
   have hx : pos l (j + 1) - 1 = pos l j + (((groups l)[j]).length - 1):=by omega
   have:=hget j hj (((groups l)[j]).length - 1) (by omega) (by omega)
   rw [← this]
   congr 1
  rw [e3]
  intro he
  refine apart_get (gs:=groups l) hi hA (y:=((groups l)[j])[((groups l)[j]).length - 1]) (z:=((groups l)[j + 1])[0]'(List.length_pos_iff.2 hg.1)) ?_ ?_ ?_
  ·rw [List.getLast?_eq_getElem?,List.getElem?_eq_getElem (by omega)]
  ·rw [List.head?_eq_getElem?,List.getElem?_eq_getElem (List.length_pos_iff.2 hg.1)]
  ·have hz:=fromN_at (m:=0) (List.length_pos_iff.2 hg.1) hg.2
   unfold adj
   rw [hz,he]
   omega
end Tl
end Go.Proofs.YtjloddgofmdmgaaGreatDoor
namespace Go.Proofs.YtjloddgofmdmgaaGreatDoor
namespace Eng
open Go.RowKit
section
variable {P : Program} {w : World} {PK : List PanicEntry→World→Prop} {K : Value→World→Prop}
structure Arr2 (P : Program) (T E : TypeId) (k : IntKind) : Prop where
 ty : P.underlying T = some (.array 2 E)
 el : P.underlying E = some (.int k)
 sz : ∃ i,P.info? E = some i∧i.size = 1
 gu : P.eqGuardType P.depth T = false
theorem run_eqIn_arr2' {T E : TypeId} {k : IntKind} (h : Arr2 P T E k) (d : Nat) (hd : ∀ (a b : Int) (w : World),(Op.equalIn d E (.int k a) (.int k b)).run P w = .ok (a == b) w) (a b c e : Int) (w : World) :
  (Op.equalIn (d + 1) T (.agg #[.int k a,.int k b]) (.agg #[.int k c,.int k e])).run P w = .ok (decide (a = c) && decide (b = e)) w:=by
 obtain⟨i,hi,hs⟩:=h.sz
 have e0 : List.range' 0 2 1 = [0,1]:=rfl
 simp only [Op.equalIn,Sem.run_bind,run_underlying h.ty,Result.andThen_ok,sizeOf,typeInfo]
 by_cases h1 : a = c<;>by_cases h2 : b = e <;>
  simp [hi,hs,e0,Std.Legacy.Range.forIn_eq_forIn_range',Std.Legacy.Range.size,part,isAgg,run_underlying h.el,hd,h1,h2]
theorem run_eqIn_arr2 {T E : TypeId} {k : IntKind} (h : Arr2 P T E k) (d : Nat) (a b c e : Int) (w : World) : (Op.equalIn (d + 2) T (.agg #[.int k a,.int k b]) (.agg #[.int k c,.int k e])).run P w = .ok (decide (a = c) && decide (b = e)) w:=
 run_eqIn_arr2' h (d + 1) (fun a b w => run_equalIn_int w d E k k a b h.el) a b c e w
theorem run_neq_arr2 {T E : TypeId} {k : IntKind} (h : Arr2 P T E k) {xo yo : Operand} {a b c e : Int} : (mEq .neq T xo yo (.agg #[.int k a,.int k b]) (.agg #[.int k c,.int k e])).run P w = .ok (.value (.bool (!(decide (a = c) && decide (b = e))))) w:=by
 refine mv_run ?_
 rw [Sem.run_bind,run_eqGuard_agg w .neq T xo yo _ _ h.gu]
 simp only [Result.andThen_ok]
 rw [run_neq_struct,run_eqIn_arr2 h 9998]
 rfl
theorem run_eql_arr2 {T E : TypeId} {k : IntKind} (h : Arr2 P T E k) {xo yo : Operand} {a b c e : Int} : (mEq .eql T xo yo (.agg #[.int k a,.int k b]) (.agg #[.int k c,.int k e])).run P w = .ok (.value (.bool (decide (a = c) && decide (b = e)))) w:=by
 refine mv_run ?_
 rw [Sem.run_bind,run_eqGuard_agg w .eql T xo yo _ _ h.gu]
 simp only [Result.andThen_ok]
 rw [run_eql_struct,run_eqIn_arr2 h 9998]
 rfl
end
end Eng
end Go.Proofs.YtjloddgofmdmgaaGreatDoor
namespace Go.Proofs.YtjloddgofmdmgaaGreatDoor
set_option maxRecDepth 20000
open Eng Go.RowKit
def rnC (p : Int × Int) : List Value:=[.int .i64 p.1,.int .i64 p.2]
def rnV (p : Int × Int) : Value:=.agg (rnC p).toArray
abbrev rnsC (l : List (Int × Int)) : List Value:=l.flatMap rnC
abbrev rnsE (v : Value) (l : List (Int × Int)) : Ent:=.recs 40 rnC 2 v l
theorem rnC_len (p : Int × Int) : (rnC p).length = 2:=rfl
theorem rnC_one (p : Int × Int) : ∀ v ∈ rnC p,v.oneCell' = true:=by
 intro v hv
 simp only [rnC,List.mem_cons,List.not_mem_nil,or_false] at hv
 rcases hv with rfl | rfl<;>rfl
theorem aggRn : aggN Tryz.prog 40 = some 2:=by kernel_rfl
theorem szRn : (Tryz.prog.info? 40).map (·.size) = some 2:=by kernel_rfl
theorem elRn : elB Tryz.prog 40 2 16 = true:=by kernel_rfl
theorem szI1 : (Tryz.prog.info? 3).map (·.size) = some 1:=by kernel_rfl
theorem arr2 : Arr2 Tryz.prog 40 3 .i64:=⟨by kernel_rfl,by kernel_rfl,⟨_,rfl,by kernel_rfl⟩,by kernel_rfl⟩
section
variable {w : World} {PK : List PanicEntry→World→Prop} {K : Value→World→Prop} {S : Nat→Prop} {w0 : World} {L : List Ent}
theorem r_ia20 {b off : Nat} {w : World} : (mIA 40 (.pointer (some ⟨b,off,none⟩)) (.int .i64 0)).run Tryz.prog w = .ok (.value (.pointer (some ⟨b,off,none⟩))) w:=by kernel_rfl
theorem r_ia21 {b off : Nat} {w : World} : (mIA 40 (.pointer (some ⟨b,off,none⟩)) (.int .i64 1)).run Tryz.prog w = .ok (.value (.pointer (some ⟨b,off + 1,none⟩))) w:=by kernel_rfl
theorem d_ia20 {b off : Nat} : DoX Tryz.prog (mIA 40 (.pointer (some ⟨b,off,none⟩)) (.int .i64 0)) w PK K = K (.pointer (some ⟨b,off,none⟩)) w:=do_eq r_ia20
theorem d_ia21 {b off : Nat} : DoX Tryz.prog (mIA 40 (.pointer (some ⟨b,off,none⟩)) (.int .i64 1)) w PK K = K (.pointer (some ⟨b,off + 1,none⟩)) w:=do_eq r_ia21
theorem m_rn {n : Int} {m : Int} : DoX Tryz.prog (mBuild 40 #[(0,.int .i64 n),(1,.int .i64 m)]) w PK K = K (rnV (n,m)) w:=do_eq (by kernel_rfl)
theorem rns_row (i : Nat) {v : Value} {l : List (Int × Int)} (ho : OwnS S w0 w L) (hi : L[i]? = some (rnsE v l)) {j : Nat} (hj : j < l.length) :
  ∃ g cap,v = .slice (some ⟨g,0,none⟩) l.length cap∧(∀ w,(mIA 38 v (.int .i64 (j : Int))).run Tryz.prog w = .ok (.value (.pointer (some ⟨g,j * 2,none⟩))) w) ∧
   (∀ w',(rnsE v l).is w'→(mLoad 40 (.pointer (some ⟨g,j * 2,none⟩))).run Tryz.prog w' = .ok (.value (rnV l[j])) w') ∧
   ∀ w',(rnsE v l).is w'→∀ m u,(rnC l[j])[m]? = some u→w'.cell? ⟨g,j * 2 + m,none⟩ = some u:=
 rec_row rnC_len Tryz.underlying38 szRn aggRn i ho hi hj
theorem o_apRn (i : Nat) {v : Value} {l : List (Int × Int)} {p : Int × Int} {cb : Array Bool} {PK2 : List PanicEntry→World→Prop} (ho : OwnS S w0 w L) (hi : L[i]? = some (rnsE v l)) (hb : l.length≤1000000000)
  (k : ∀ v' w',OwnS S w0 w' (L.set i (rnsE v' (l++[p])))→K v' w') :
  DoX Tryz.prog (mBuildS 38 1 #[(0,rnV p)]) w PK fun t w => DoX Tryz.prog (mB .append #[38,38] 38 cb #[v,t]) w PK2 K:=by
 refine o_new (fun b => .slice (some ⟨b,0,none⟩) 1 1) (rnC p) 40 (fun _ => by kernel_rfl) ho fun nb w1 ho => ?_
 refine o_appendU (i + 1) Tryz.underlying38 elRn (by decide) ho (by rw [List.getElem?_cons_succ];exact hi) (ho.sl 0 rfl 2 1 1 rfl) (rnC_one p) (by omega) (by omega) fun v' w2 ho => k v' w2 ?_
 have e : rnsE v' (l++[p]) = .urow 40 2 v' (l.length + 1) (l.flatMap rnC++rnC p):=by
  rw [rnsE,Ent.recs,List.length_append,List.flatMap_append];simp
 rw [e]
 exact ho.tail
theorem rns_cnt (i : Nat) {g cap : Nat} {q : List (Int × Int)} {f n m : Int} {N : Nat} (ho : OwnS S w0 w L) (hi : L[i]? = some (rnsE (.slice (some ⟨g,0,none⟩) N cap) (q++[(f,n)])))
  (h : ∀ w',OwnS S w0 w' (L.set i (rnsE (.slice (some ⟨g,0,none⟩) N cap) (q++[(f,m)])))→K undef w') :
  DoX Tryz.prog (mStore 3 (.pointer (some ⟨g,q.length * 2 + 1,none⟩)) (.int .i64 m)) w PK K:=by
 obtain⟨g',cap',e⟩:=urow_open (ho.at_ i hi) (by simp)
 injection e with e1 e2
 subst e2
 refine o_storeU i ho hi (u:=.int .i64 m) (new:=[.int .i64 m]) rfl szI1 (fun v hv => by rcases List.mem_singleton.1 hv with rfl;rfl) (by simp;omega) fun w' ho => h w' ?_
 have hl:=Eng.flat_len rnC_len q
 have e : ((q++[(f,n)]).flatMap rnC).take (q.length * 2 + 1)++[.int .i64 m]++((q++[(f,n)]).flatMap rnC).drop (q.length * 2 + 1 + [Value.int .i64 m].length) = (q++[(f,m)]).flatMap rnC:=by
  rw [List.flatMap_append,List.flatMap_append,List.flatMap_singleton,List.flatMap_singleton,List.take_append,List.take_of_length_le (by omega),List.drop_append,List.drop_eq_nil_of_le (by rw [hl];simp only [List.length_cons,List.length_nil];omega),hl,
   show q.length * 2 + 1 - q.length * 2 = 1 by omega,show q.length * 2 + 1 + [Value.int .i64 m].length - q.length * 2 = 2 by simp;omega]
  simp [rnC]
 have e2 : rnsE (.slice (some ⟨g,0,none⟩) (q++[(f,n)]).length cap) (q++[(f,m)]) = .urow 40 2 (.slice (some ⟨g,0,none⟩) (q++[(f,n)]).length cap) (q++[(f,n)]).length ((q++[(f,m)]).flatMap rnC):=by
  rw [rnsE,Ent.recs,List.length_append,List.length_append];rfl
 rw [e2,← e]
 exact ho
end
def NumsI (l : List Slt) : Prop:=∀ x ∈ l,-9223372036854775808≤x.num∧x.num≤9223372036854775807
theorem take_last {l : List Slt} {j : Nat} (hj : j < l.length) : (l.take (j + 1)).getLast? = some l[j]:=by
 rw [List.getLast?_eq_getElem?,List.length_take,Nat.min_eq_left (by omega),Nat.add_sub_cancel,List.getElem?_take_of_lt (by omega),List.getElem?_eq_getElem hj]
theorem take_snoc {l : List Slt} {j : Nat} (hj : j < l.length) : l.take (j + 1) = l.take j++[l[j]]:=by
 rw [List.take_add_one,List.getElem?_eq_getElem hj];rfl
def RnsV (l : List Slt) (v : Value) (N : Mem) : Prop:=SlA N.A N.w v 2 (Tl.runs l).length (rnsC (Tl.runs l))
theorem truns_ret (l : List Slt) (v : Value) (M : Mem) (w : World) (hb : l.length≤1000000) (hf : NumsI l) (hM : M.has w) (hs : SlA M.A M.w v 4 l.length (slsC l)) :
  RetM Tryz.prog 14 #[v] M w (RnsV l):=by
 refine retM_of hM fun K hK => S_table_Runs_ok ?_
 unfold S_table_Runs
 rw [sl_len Tryz.underlying23 (hs.now hM)]
 refine loop (fun vs W => ∃ (i : Nat) (u : Value),vs = [u,.int .i64 i]∧i≤l.length∧OwnS M.A w W [rnsE u (Tl.runs (l.take i)),.mem M]) (fun vs _ => l.length - n1 vs) ⟨0,_,rfl,by omega,OwnS.nilU (OwnS.memS hM) 40 2⟩ ?_
 rintro vs w1 ⟨i,u,rfl,hi,ho⟩ _
 simp only [S_table_Runs_0,gd,rs]
 by_cases hlt : (i : Int) < (l.length : Int)
 case neg =>
  simp only [decide_eq_false hlt,i_f]
  rw [List.take_of_length_le (by omega)] at ho
  obtain⟨N,hle,hrow,ho⟩:=OwnS.freezeU (L:=[.mem M]) ho 0 rfl
  exact hK _ _ N _ 0 ho rfl hle hrow
 have hi' : i < l.length:=by omega
 simp only [decide_eq_true hlt,i_t]
 refine join fun J hJ => ?_
 obtain⟨g,off,hr⟩:=slot_at hs hi'
 obtain⟨r1,r2⟩:=hr w1 (ho.hasM 1 rfl)
 refine do_eq r1 |>.mpr (do_eq (run_slt r2) |>.mpr ?_)
 refine o_sla ho fun b5 w2 ho => ?_
 refine sl_put (y:=l[i]) 0 ho rfl fun w3 ho => ?_
 have ho : OwnS M.A w w3 [slE b5 l[i],rnsE u (Tl.runs (l.take i)),.mem M]:=ho
 have next : ∀ {u' : Value} {W : World},OwnS M.A w W [slE b5 l[i],rnsE u' (Tl.runs (l.take (i + 1))),.mem M]→J [u'] W:=by
  intro u' W ho
  refine hJ _ _ fun _ => ?_
  simp only [S_table_Runs_1,gd,rs]
  rw [wrap64_id (by omega) (by omega)]
  exact nextX ⟨i + 1,u',rfl,by omega,ho.tail⟩ (by show l.length - Int.toNat ((i : Int) + 1) < l.length - Int.toNat (i : Int);omega)
 have hsn:=take_snoc hi'
 have hlr:=Tl.runs_len (l.take i)
 rw [List.length_take,Nat.min_eq_left (by omega)] at hlr
 have hfx:=hf l[i] (List.getElem_mem hi')
 have miss : ∀ {W : World},OwnS M.A w W [slE b5 l[i],rnsE u (Tl.runs (l.take i)),.mem M]→(∀ y,(l.take i).getLast? = some y→¬ Tl.adj y l[i])→DoX Tryz.prog (mFA 49 (.pointer (some ⟨b5,0,none⟩)) 0) W (pk K) fun t49 w =>
 DoX Tryz.prog (mLoad 3 t49) w (pk K) fun t50 w =>
 DoX Tryz.prog (mBuild 40 #[(0,t50),(1,(.int .i64 1))]) w (pk K) fun t51 w =>
 DoX Tryz.prog (mBuildS 38 1 #[(0,t51)]) w (pk K) fun t52 w =>
 DoX Tryz.prog (mB .append #[38,38] 38 #[false,false] #[u,t52]) w (pk K) fun t53 w =>
 J [t53] w:=by
  intro W ho hm
  rw [fa_s0',l_cell nInt5 (ho.cell 0 rfl 0 rfl),m_rn]
  refine o_apRn 1 ho rfl (by omega) fun u' w4 ho => ?_
  rw [← Tl.runs_miss hm,← hsn] at ho
  exact next ho
 refine quiet ?_
 rcases Nat.eq_zero_or_pos i with hz | hz
 ·subst hz
  refine q_gtr ?_
  simp only [show decide ((0 : Int) < ((0 : Nat) : Int)) = false by decide,gq,gq_un]
  refine q_pf ?_
  simp only [gq,gq_un]
  refine q_pf fun W hb => ?_
  simp only [i_f]
  exact miss (ho.grow hb) (fun y hy => by simp at hy)
 obtain⟨j,rfl⟩ : ∃ j,i = j + 1:=⟨i - 1,by omega⟩
 have hj : (0 : Int) < ((j + 1 : Nat) : Int):=by omega
 have hw1 : IntKind.wrap .i64 (((j + 1 : Nat) : Int) - 1) = (j : Int):=by rw [wrap64_id (by omega) (by omega)];omega
 obtain⟨g2,off2,hr2⟩:=slot_at hs (i:=j) (by omega)
 have hlast:=take_last (l:=l) (j:=j) (by omega)
 have hfy:=hf l[j] (List.getElem_mem (by omega))
 refine q_gtr ?_
 simp only [decide_eq_true hj,gq,gq_un]
 refine q_do _ (fun _ => run_fa fs0) ?_
 refine q_at (.int .i64 l[j + 1].num) (fun _ hb => run_load_cell nInt5 ((ho.grow hb).cell 0 rfl 0 rfl)) ?_
 refine q_do (.int .i64 (j : Int)) (fun _ => by rw [r_sub,hw1]) ?_
 refine q_at _ (fun W hb => (hr2 W ((ho.grow hb).hasM 2 rfl)).1) ?_
 refine q_do _ (fun _ => run_fa fs0) ?_
 refine q_at (.int .i64 l[j].num) (fun W hb => run_snum (hr2 W ((ho.grow hb).hasM 2 rfl)).2) ?_
 refine q_gtr (q_pt ?_)
 by_cases hgt : l[j].num < l[j + 1].num
 case neg =>
  simp only [decide_eq_false hgt,gq,gq_un]
  refine q_pf fun W hb => ?_
  simp only [i_f]
  refine miss (ho.grow hb) fun y hy => ?_
  rw [hlast] at hy
  cases hy
  exact fun h => hgt h.1
 simp only [decide_eq_true hgt,gq,gq_un]
 refine q_do _ (fun _ => run_fa fs0) ?_
 refine q_at (.int .i64 l[j + 1].num) (fun _ hb => run_load_cell nInt5 ((ho.grow hb).cell 0 rfl 0 rfl)) ?_
 refine q_do (.int .i64 (l[j + 1].num - 1)) (fun _ => by rw [r_sub,wrap64_id (by omega) (by omega)]) ?_
 refine q_do (.int .i64 (j : Int)) (fun _ => by rw [r_sub,hw1]) ?_
 refine q_at _ (fun W hb => (hr2 W ((ho.grow hb).hasM 2 rfl)).1) ?_
 refine q_do _ (fun _ => run_fa fs0) ?_
 refine q_at (.int .i64 l[j].num) (fun W hb => run_snum (hr2 W ((ho.grow hb).hasM 2 rfl)).2) ?_
 refine q_eq (q_pt ?_)
 by_cases heq : l[j + 1].num - 1 = l[j].num
 case neg =>
  simp only [decide_eq_false heq]
  intro W hb
  simp only [i_f]
  refine miss (ho.grow hb) fun y hy => ?_
  rw [hlast] at hy
  cases hy
  exact fun h => heq h.2
 simp only [decide_eq_true heq]
 intro W hb
 simp only [i_t]
 have ho:=ho.grow hb
 obtain⟨q,f,n,e1,e2,hn⟩:=Tl.runs_hit hlast (x:=l[j + 1]) ⟨hgt,heq⟩
 rw [List.length_take,Nat.min_eq_left (by omega)] at hn
 rw [e1] at ho hlr
 obtain⟨g3,cap3,rfl,ia,_,cl⟩:=rns_row 1 ho rfl (j:=q.length) (by simp)
 have hget : (q++[(f,(n : Int))])[q.length]'(by simp) = (f,(n : Int)):=by simp
 rw [hget] at cl
 have hlen : (q++[(f,(n : Int))]).length = q.length + 1:=by simp
 refine quiet ?_
 refine q_at (.int .i64 ((q.length + 1 : Nat) : Int)) (fun W hb => by rw [run_sl_len Tryz.underlying38 ((ho.grow hb).slU 1 rfl),hlen]) ?_
 refine q_do (.int .i64 (q.length : Int)) (fun _ => by rw [r_sub,wrap64_id (by omega) (by omega),show ((q.length + 1 : Nat) : Int) - 1 = (q.length : Int) by omega]) ?_
 refine q_do _ (fun w => ia w) (q_do _ (fun _ => r_ia21) ?_)
 refine q_at (.int .i64 (n : Int)) (fun W hb => run_load_cell nInt5 (cl _ ((ho.grow hb).at_ 1 rfl) 1 _ rfl)) ?_
 refine q_do (.int .i64 ((n : Int) + 1)) (fun _ => by rw [r_add,wrap64_id (by omega) (by omega)]) ?_
 refine q_do _ (fun w => ia w) (q_do _ (fun _ => r_ia21) ?_)
 intro W2 hb
 have ho:=ho.grow hb
 refine rns_cnt 1 ho rfl fun w5 ho => ?_
 rw [← e2,← hsn] at ho
 exact next ho
theorem rruns_ret (l : List Slt) (v : Value) (M : Mem) (w : World) (hb : l.length≤1000000) (hf : NumsI l) (hM : M.has w) (hs : SlA M.A M.w v 4 l.length (slsC l)) :
  RetM Tryz.prog 15 #[v] M w (RnsV l):=by
 refine retM_of hM fun K hK => S_foliantref18_Runs_ok ?_
 unfold S_foliantref18_Runs
 refine loop (fun vs W => ∃ (i : Nat) (u : Value),vs = [u,.int .i64 i]∧i≤l.length∧OwnS M.A w W [rnsE u (Tl.runs (l.take i)),.mem M]) (fun vs _ => l.length - n1 vs) ⟨0,_,rfl,by omega,OwnS.nilU (OwnS.memS hM) 40 2⟩ ?_
 rintro vs w1 ⟨i,u,rfl,hi,ho⟩ _
 simp only [S_foliantref18_Runs_0,gd]
 rw [sl_len Tryz.underlying23 (hs.now (ho.hasM 1 rfl))]
 simp only [rs]
 by_cases hlt : (i : Int) < (l.length : Int)
 case neg =>
  simp only [decide_eq_false hlt,i_f]
  rw [List.take_of_length_le (by omega)] at ho
  obtain⟨N,hle,hrow,ho⟩:=OwnS.freezeU (L:=[.mem M]) ho 0 rfl
  exact hK _ _ N _ 0 ho rfl hle hrow
 have hi' : i < l.length:=by omega
 simp only [decide_eq_true hlt,i_t]
 refine join fun J hJ => ?_
 obtain⟨g,off,hr⟩:=slot_at hs hi'
 have hsn:=take_snoc hi'
 have hlr:=Tl.runs_len (l.take i)
 rw [List.length_take,Nat.min_eq_left (by omega)] at hlr
 have hfx:=hf l[i] (List.getElem_mem hi')
 rw [sl_len Tryz.underlying38 (ho.slU 0 rfl)]
 simp only [rs]
 have next : ∀ {u' : Value} {W : World},OwnS M.A w W [rnsE u' (Tl.runs (l.take (i + 1))),.mem M]→J [u'] W:=by
  intro u' W ho
  refine hJ _ _ fun _ => ?_
  simp only [S_foliantref18_Runs_1,gd,rs]
  rw [wrap64_id (by omega) (by omega)]
  exact nextX ⟨i + 1,u',rfl,by omega,ho⟩ (by show l.length - Int.toNat ((i : Int) + 1) < l.length - Int.toNat (i : Int);omega)
 have miss : ∀ {W : World},OwnS M.A w W [rnsE u (Tl.runs (l.take i)),.mem M]→(∀ y,(l.take i).getLast? = some y→¬ Tl.adj y l[i])→DoX Tryz.prog (mIA 23 v (.int .i64 (i : Int))) W (pk K) fun t52 w =>
 DoX Tryz.prog (mFA 49 t52 0) w (pk K) fun t53 w =>
 DoX Tryz.prog (mLoad 3 t53) w (pk K) fun t54 w =>
 DoX Tryz.prog (mBuild 40 #[(0,t54),(1,(.int .i64 1))]) w (pk K) fun t55 w =>
 DoX Tryz.prog (mBuildS 38 1 #[(0,t55)]) w (pk K) fun t56 w =>
 DoX Tryz.prog (mB .append #[38,38] 38 #[false,false] #[u,t56]) w (pk K) fun t57 w =>
 J [t57] w:=by
  intro W ho hm
  obtain⟨r1,r2⟩:=hr W (ho.hasM 1 rfl)
  refine do_eq r1 |>.mpr ?_
  rw [fa_s0']
  refine do_eq (run_snum r2) |>.mpr ?_
  rw [m_rn]
  refine o_apRn 0 ho rfl (by omega) fun u' w4 ho => ?_
  rw [← Tl.runs_miss hm,← hsn] at ho
  exact next ho
 refine quiet ?_
 rcases Nat.eq_zero_or_pos i with hz | hz
 ·subst hz
  refine q_gtr ?_
  simp only [show decide ((0 : Int) < ((0 : Nat) : Int)) = false by decide,gq,gq_un]
  refine q_pf ?_
  simp only [gq,gq_un]
  refine q_pf fun W hb => ?_
  simp only [i_f]
  exact miss (ho.grow hb) (fun y hy => by simp at hy)
 obtain⟨j,rfl⟩ : ∃ j,i = j + 1:=⟨i - 1,by omega⟩
 have hj : (0 : Int) < ((j + 1 : Nat) : Int):=by omega
 have hw1 : IntKind.wrap .i64 (((j + 1 : Nat) : Int) - 1) = (j : Int):=by rw [wrap64_id (by omega) (by omega)];omega
 obtain⟨g2,off2,hr2⟩:=slot_at hs (i:=j) (by omega)
 have hlast:=take_last (l:=l) (j:=j) (by omega)
 have hfy:=hf l[j] (List.getElem_mem (by omega))
 refine q_gtr ?_
 simp only [decide_eq_true hj,gq,gq_un]
 refine q_do (.int .i64 (j : Int)) (fun _ => by rw [r_sub,hw1]) ?_
 refine q_at _ (fun W hb => (hr2 W ((ho.grow hb).hasM 1 rfl)).1) ?_
 refine q_do _ (fun _ => run_fa fs0) ?_
 refine q_at (.int .i64 l[j].num) (fun W hb => run_snum (hr2 W ((ho.grow hb).hasM 1 rfl)).2) ?_
 refine q_lss (q_pt ?_)
 by_cases hgt : l[j].num < 9223372036854775807
 case neg =>
  simp only [decide_eq_false hgt,gq,gq_un]
  refine q_pf fun W hb => ?_
  simp only [i_f]
  refine miss (ho.grow hb) fun y hy => ?_
  rw [hlast] at hy
  cases hy
  intro h
  have:=h.1
  omega
 simp only [decide_eq_true hgt,gq,gq_un]
 refine q_at _ (fun W hb => (hr W ((ho.grow hb).hasM 1 rfl)).1) ?_
 refine q_do _ (fun _ => run_fa fs0) ?_
 refine q_at (.int .i64 l[j + 1].num) (fun W hb => run_snum (hr W ((ho.grow hb).hasM 1 rfl)).2) ?_
 refine q_do (.int .i64 (j : Int)) (fun _ => by rw [r_sub,hw1]) ?_
 refine q_at _ (fun W hb => (hr2 W ((ho.grow hb).hasM 1 rfl)).1) ?_
 refine q_do _ (fun _ => run_fa fs0) ?_
 refine q_at (.int .i64 l[j].num) (fun W hb => run_snum (hr2 W ((ho.grow hb).hasM 1 rfl)).2) ?_
 refine q_do (.int .i64 (l[j].num + 1)) (fun _ => by rw [r_add,wrap64_id (by omega) (by omega)]) ?_
 refine q_eq (q_pt ?_)
 by_cases heq : l[j + 1].num = l[j].num + 1
 case neg =>
  simp only [decide_eq_false heq]
  intro W hb
  simp only [i_f]
  refine miss (ho.grow hb) fun y hy => ?_
  rw [hlast] at hy
  cases hy
  intro h
  have:=h.2
  omega
 simp only [decide_eq_true heq]
 intro W hb
 simp only [i_t]
 have ho:=ho.grow hb
 obtain⟨q,f,n,e1,e2,hn⟩:=Tl.runs_hit hlast (x:=l[j + 1]) ⟨by omega,by omega⟩
 rw [List.length_take,Nat.min_eq_left (by omega)] at hn
 have hlen : (q++[(f,(n : Int))]).length = q.length + 1:=by simp
 rw [e1] at ho hlr
 obtain⟨g3,cap3,rfl,ia,_,cl⟩:=rns_row 0 ho rfl (j:=q.length) (by simp)
 have hget : (q++[(f,(n : Int))])[q.length]'(by simp) = (f,(n : Int)):=by simp
 rw [hget] at cl
 have hk : IntKind.wrap .i64 (((Tl.runs (l.take (j + 1))).length : Int) - 1) = (q.length : Int):=by rw [e1,hlen,wrap64_id (by omega) (by omega)];omega
 rw [hk]
 refine quiet ?_
 refine q_do _ (fun w => ia w) (q_do _ (fun _ => r_ia21) ?_)
 refine q_at (.int .i64 (n : Int)) (fun W hb => run_load_cell nInt5 (cl _ ((ho.grow hb).at_ 0 rfl) 1 _ rfl)) ?_
 refine q_do (.int .i64 ((n : Int) + 1)) (fun _ => by rw [r_add,wrap64_id (by omega) (by omega)]) ?_
 refine q_do _ (fun w => ia w) (q_do _ (fun _ => r_ia21) ?_)
 intro W2 hb
 have ho:=ho.grow hb
 refine rns_cnt 0 ho rfl fun w5 ho => ?_
 rw [← e2,← hsn] at ho
 exact next ho
end Go.Proofs.YtjloddgofmdmgaaGreatDoor
namespace Go.Proofs.YtjloddgofmdmgaaGreatDoor
set_option maxRecDepth 20000
open Eng Go.RowKit
section
variable {w : World} {PK : List PanicEntry→World→Prop} {K : Value→World→Prop} {S : Nat→Prop} {w0 : World} {L : List Ent}
theorem o_seb (x : Sec) {vs vk vc : Value} (hs : vs.oneCell' = true) (hk : vk.oneCell' = true) (hc : vc.oneCell' = true) (ho : OwnS S w0 w L) (k : ∀ b w',OwnS S w0 w' (secE b x vs vk vc :: L)→K (.pointer (some ⟨b,0,none⟩)) w') : DoX Tryz.prog (mBox 29 (secV x vs vk vc)) w PK K:=
 o_new (fun b => .pointer (some ⟨b,0,none⟩)) (secC x vs vk vc) 29 (fun _ => by kernel_rfl) ho k
theorem se_tr (ho : OwnS S w0 w L) (i : Nat) {b : Nat} {x : Sec} {vs vk vc : Value} (hi : L[i]? = some (secE b x vs vk vc)) : DoX Tryz.prog (mLoad 27 (.pointer (some ⟨b,2,none⟩))) w PK K = K (obV x.trailer vk vc) w:=
 l_at (ho.subAgg i hi 2 (obC x.trailer vk vc) rfl aggOb)
theorem se_trk (ho : OwnS S w0 w L) (i : Nat) {b : Nat} {x : Sec} {vs vk vc : Value} (hi : L[i]? = some (secE b x vs vk vc)) : DoX Tryz.prog (mLoad 3 (.pointer (some ⟨b,2,none⟩))) w PK K = K (.int .i64 x.trailer.k) w:=l_cell nInt5 (ho.cell i hi 2 rfl)
end
theorem trefuse_ret (x : Sec) (v : Value) (M : Mem) (w : World) (hb : x.slots.length≤1000000) (hw : x.trailer.wt≤100000000) (hM : M.has w) (hv : SecV M v x) :
  Ret Tryz.prog 29 #[v] w (fun r w' => r = .int .i64 (Tl.refuse x.slots x.trailer)∧Below w.heap.size w w'):=by
 obtain⟨vs,vk,vc,rfl,hsl,hov⟩:=hv
 refine ret_of fun K hK => S_table_refuse_ok ?_
 unfold S_table_refuse
 refine o_seb x hsl.one hov.oneK hov.oneC (OwnS.memS hM) fun b1 w1 ho => ?_
 have ho : OwnS M.A w w1 [secE b1 x vs vk vc,.mem M]:=ho
 have hR:=Tl.refuse.eq_1 x.slots x.trailer
 have fin : ∀ {W : World} {e : Int} {L : List Ent},OwnS M.A w W (L++([.mem M]++[]))→Tl.refuse x.slots x.trailer = e→K (.returned (.int .i64 e)) W:=by
  intro W e L ho h
  exact hK _ _ ⟨by rw [h],(ho.front.toGives 0 rfl M.le_refl hM).below⟩
 rw [fa_se1,se_sl ho 0 rfl]
 refine c_below ho (R:=fun v => v = .int .i64 (Tl.check x.slots)) (tcheck_ret x.slots vs M w1 (by omega) (ho.hasM 1 rfl) hsl) ?_
 rintro _ w2 rfl ho
 simp only [rs]
 by_cases hc : Tl.check x.slots = 0
 case neg =>
  rw [if_pos hc] at hR
  simp only [decide_eq_true (show Tl.check x.slots≠0 from hc),i_t]
  exact fin (L:=[_]) ho hR
 rw [if_neg (by simp [hc])] at hR
 simp only [hc,show decide ((0 : Int)≠0) = false by decide,i_f]
 rw [fa_se1,se_sl ho 0 rfl,sl_len Tryz.underlying23 (hsl.now (ho.hasM 1 rfl))]
 refine loop (fun vs' W => ∃ i : Nat,vs' = [.int .i64 i]∧i≤x.slots.length∧(∀ j (h : j < x.slots.length),j < i→x.slots[j].kind≠2)∧OwnS M.A w W [secE b1 x vs vk vc,.mem M]) (fun vs' _ => x.slots.length - n0 vs') ⟨0,rfl,by omega,fun j h hj => by omega,ho⟩ ?_
 clear ho
 rintro vs' w3 ⟨i,rfl,hi,hall,ho⟩ _
 simp only [S_table_refuse_0,gd,rs]
 by_cases hlt : (i : Int) < (x.slots.length : Int)
 case pos =>
  have hi' : i < x.slots.length:=by omega
  simp only [decide_eq_true hlt,i_t]
  obtain⟨g,off,hr⟩:=slot_at hsl hi'
  obtain⟨r1,r2⟩:=hr w3 (ho.hasM 1 rfl)
  refine do_eq r1 |>.mpr (do_eq (run_slt r2) |>.mpr ?_)
  refine o_sla ho fun b5 w4 ho => ?_
  refine sl_put (y:=x.slots[i]) 0 ho rfl fun w5 ho => ?_
  have ho : OwnS M.A w w5 [slE b5 x.slots[i],secE b1 x vs vk vc,.mem M]:=ho
  rw [fa_s1',l_cell nInt5 (ho.cell 0 rfl 1 rfl)]
  simp only [rs]
  by_cases hk : x.slots[i].kind = 2
  ·simp only [decide_eq_true hk,i_t]
   refine fin (L:=[_,_]) ho ?_
   rw [hR,if_pos (List.any_eq_true.2 ⟨_,List.getElem_mem hi',decide_eq_true hk⟩)]
  ·simp only [decide_eq_false hk,i_f]
   rw [wrap64_id (by omega) (by omega)]
   refine nextX ⟨i + 1,rfl,by omega,fun j h hj => ?_,ho.tail⟩ (by show x.slots.length - Int.toNat ((i : Int) + 1) < x.slots.length - Int.toNat (i : Int);omega)
   rcases Nat.lt_or_ge j i with h1 | h1
   ·exact hall j h h1
   ·have : j = i:=by omega
    subst this;exact hk
 simp only [decide_eq_false hlt,i_f]
 have hany : x.slots.any (fun y => decide (y.kind = 2)) = false:=by
  rw [List.any_eq_false]
  intro y hy
  obtain⟨j,hj,rfl⟩:=List.getElem_of_mem hy
  simpa using hall j hj (by omega)
 rw [if_neg (by rw [hany];simp)] at hR
 rw [fa_se1,se_sl ho 0 rfl,sl_len Tryz.underlying23 (hsl.now (ho.hasM 1 rfl))]
 refine loop (fun vs' W => ∃ i : Nat,vs' = [.int .i64 i]∧i≤x.slots.length∧(∀ j (h : j < x.slots.length),j < i→¬ (x.slots[j].num = 0∧(x.slots[j].kind≠0∨x.slots[j].b≠65535)))∧OwnS M.A w W [secE b1 x vs vk vc,.mem M]) (fun vs' _ => x.slots.length - n0 vs') ⟨0,rfl,by omega,fun j h hj => by omega,ho⟩ ?_
 clear ho
 rintro vs' w3 ⟨i,rfl,hi,hall,ho⟩ _
 simp only [S_table_refuse_1,gd,rs]
 by_cases hlt : (i : Int) < (x.slots.length : Int)
 case pos =>
  have hi' : i < x.slots.length:=by omega
  simp only [decide_eq_true hlt,i_t]
  obtain⟨g,off,hr⟩:=slot_at hsl hi'
  obtain⟨r1,r2⟩:=hr w3 (ho.hasM 1 rfl)
  refine do_eq r1 |>.mpr (do_eq (run_slt r2) |>.mpr ?_)
  refine o_sla ho fun b5 w4 ho => ?_
  refine sl_put (y:=x.slots[i]) 0 ho rfl fun w5 ho => ?_
  have ho : OwnS M.A w w5 [slE b5 x.slots[i],secE b1 x vs vk vc,.mem M]:=ho
  have hget : x.slots[i] ∈ x.slots:=List.getElem_mem hi'
  have next : ¬ (x.slots[i].num = 0∧(x.slots[i].kind≠0∨x.slots[i].b≠65535))→NextX (fun vs' W => ∃ i : Nat,vs' = [.int .i64 i]∧i≤x.slots.length∧(∀ j (h : j < x.slots.length),j < i→¬ (x.slots[j].num = 0∧(x.slots[j].kind≠0∨x.slots[j].b≠65535)))∧OwnS M.A w W [secE b1 x vs vk vc,.mem M]) (fun vs' _ => x.slots.length - n0 vs') [.int .i64 i] w3 [.int .i64 ((i : Int) + 1)] w5:=by
   intro hk
   refine nextX ⟨i + 1,rfl,by omega,fun j h hj => ?_,ho.tail⟩ (by show x.slots.length - Int.toNat ((i : Int) + 1) < x.slots.length - Int.toNat (i : Int);omega)
   rcases Nat.lt_or_ge j i with h1 | h1
   ·exact hall j h h1
   ·have : j = i:=by omega
    subst this;exact hk
  have bad : (x.slots[i].num = 0∧(x.slots[i].kind≠0∨x.slots[i].b≠65535))→K (.returned (.int .i64 1)) w5:=by
   intro hk
   refine fin (L:=[_,_]) ho ?_
   rw [hR,if_pos (List.any_eq_true.2 ⟨_,hget,by simpa using hk⟩)]
  have l0 : ∀ {PK : List PanicEntry→World→Prop} {K : Value→World→Prop},DoX Tryz.prog (mLoad 3 (.pointer (some ⟨b5,0,none⟩))) w5 PK K = K (.int .i64 x.slots[i].num) w5:=l_cell nInt5 (ho.cell 0 rfl 0 rfl)
  have l1 : ∀ {PK : List PanicEntry→World→Prop} {K : Value→World→Prop},DoX Tryz.prog (mLoad 3 (.pointer (some ⟨b5,0 + 1,none⟩))) w5 PK K = K (.int .i64 x.slots[i].kind) w5:=l_cell nInt5 (ho.cell 0 rfl 1 rfl)
  have l3 : ∀ {PK : List PanicEntry→World→Prop} {K : Value→World→Prop},DoX Tryz.prog (mLoad 3 (.pointer (some ⟨b5,0 + 3,none⟩))) w5 PK K = K (.int .i64 x.slots[i].b) w5:=l_cell nInt5 (ho.cell 0 rfl 3 rfl)
  by_cases h0 : x.slots[i].num = 0
  case neg =>
   simp only [rs,fa_s0',l0,decide_eq_false h0,g_un]
   rw [wrap64_id (by omega) (by omega)]
   exact next fun h => h0 h.1
  by_cases h1 : x.slots[i].kind = 0
  case neg =>
   have h1' : x.slots[i].kind≠0:=h1
   simp only [rs,fa_s0',l0,decide_eq_true h0,fa_s1',l1,decide_eq_true h1',g_un]
   exact bad ⟨h0,.inl h1⟩
  by_cases h3 : x.slots[i].b = 65535
  ·simp only [rs,fa_s0',l0,decide_eq_true h0,fa_s1',l1,h1,fa_s3',l3,h3,show decide ((0 : Int)≠0) = false by decide,show decide ((65535 : Int)≠65535) = false by decide,g_un]
   rw [wrap64_id (by omega) (by omega)]
   exact next fun h => by rcases h.2 with h | h<;>contradiction
  ·have h3' : x.slots[i].b≠65535:=h3
   simp only [rs,fa_s0',l0,decide_eq_true h0,fa_s1',l1,h1,fa_s3',l3,decide_eq_true h3',show decide ((0 : Int)≠0) = false by decide,g_un]
   exact bad ⟨h0,.inr h3⟩
 simp only [decide_eq_false hlt,i_f]
 have hany : x.slots.any (fun x => decide (x.num = 0) && (decide (x.kind≠0) || decide (x.b≠65535))) = false:=by
  rw [List.any_eq_false]
  intro y hy
  obtain⟨j,hj,rfl⟩:=List.getElem_of_mem hy
  have:=hall j hj (by omega)
  simpa using this
 rw [if_neg (by rw [hany];simp)] at hR
 rw [fa_se2,se_tr ho 0 rfl]
 refine c_below ho (R:=fun v => v = .int .i64 (Vl.check 1 x.trailer)) (vCheck_ret x.trailer _ w3 (OV.inw (ho.hasM 1 rfl) hov) (by omega)) ?_
 rintro _ w4 rfl ho
 simp only [rs]
 by_cases hc2 : Vl.check 1 x.trailer = 0
 case neg =>
  rw [if_pos hc2] at hR
  simp only [decide_eq_true (show Vl.check 1 x.trailer≠0 from hc2),i_t]
  exact fin (L:=[_]) ho hR
 rw [if_neg (by simp [hc2])] at hR
 simp only [hc2,show decide ((0 : Int)≠0) = false by decide,i_f]
 rw [fa_se2,fa_o0,se_trk ho 0 rfl]
 simp only [rs]
 by_cases hk : x.trailer.k = 7
 ·rw [if_neg (by simp [hk])] at hR
  simp only [hk,show decide ((7 : Int)≠7) = false by decide,i_f]
  exact fin (L:=[_]) ho hR
 ·rw [if_pos hk] at hR
  simp only [decide_eq_true (show x.trailer.k≠7 from hk),i_t]
  exact fin (L:=[_]) ho hR
theorem sla_from {A : Nat→Prop} {w : World} {a : Option Addr} {n cap sz lo : Nat} {cs : List Value} (h : SlA A w (.slice a n cap) sz n cs) (hl : lo≤n) : SlA A w (.slice (subA a lo cap sz) (n - lo) (cap - lo)) sz (n - lo) (cs.drop (lo * sz)):=by
 obtain⟨⟨h1,a',cap',e,h2,h3⟩,h4,h5⟩:=h
 cases e
 have hcap:=h5 _ _ _ rfl
 refine⟨⟨by rw [List.length_drop,h1,← Nat.sub_mul],_,_,rfl,fun hn => ?_,fun p hp => ?_⟩,fun p l c e hn => ?_,fun p l c e => by cases e;omega⟩
 ·unfold subA at hn
  split at hn
  ·omega
  ·cases a with
   | none => have:=h2 rfl;omega
   | some p => cases hn
 ·unfold subA at hp
  split at hp
  ·rename_i hc
   refine⟨fun h => by omega,fun j u hj => ?_⟩
   have hn : n - lo = 0:=by omega
   have:=(List.getElem?_eq_some_iff.1 hj).1
   rw [List.length_drop,h1,← Nat.sub_mul,hn] at this
   omega
  ·rename_i hc
   cases a with
   | none => cases hp
   | some p' =>
    simp only [Option.map_some,Option.some.injEq] at hp
    subst hp
    obtain⟨h6,h7⟩:=h3 p' rfl
    refine⟨fun h => ?_,fun j u hj => ?_⟩
    ·have:=h6 (by omega)
     obtain⟨b,off,spot⟩:=p'
     simp only at this
     subst this
     rw [add_none]
    ·rw [List.getElem?_drop] at hj
     have hn : 0 < n:=by
      rcases Nat.eq_zero_or_pos n with h | h
      ·subst h
       have:=(List.getElem?_eq_some_iff.1 hj).1
       omega
      ·exact h
     have:=h6 hn
     obtain⟨b,off,spot⟩:=p'
     simp only at this
     subst this
     rw [add_none]
     have:=h7 _ u hj
     rwa [← Nat.add_assoc] at this
 ·unfold subA at e
  split at e
  ·omega
  ·cases a with
   | none => injection e with e;cases e
   | some p' =>
    simp only [Option.map_some] at e
    injection e with e
    injection e with e
    have:=h4 p' n cap rfl (by omega)
    obtain⟨b,off,spot⟩:=p'
    have h6:=(h3 _ rfl).1 (by omega)
    simp only at h6
    subst h6
    rw [add_none] at e
    subst e
    exact this
theorem sla_upto {A : Nat→Prop} {w : World} {a : Option Addr} {n cap sz m : Nat} {cs : List Value} (h : SlA A w (.slice a n cap) sz n cs) (hm : m≤n) : SlA A w (.slice (subA a 0 cap sz) m cap) sz m (cs.take (m * sz)):=by
 obtain⟨⟨h1,a',cap',e,h2,h3⟩,h4,h5⟩:=h
 cases e
 have hcap:=h5 _ _ _ rfl
 have hle : m * sz≤n * sz:=Nat.mul_le_mul_right _ hm
 have hsub : ∀ p,subA a 0 cap sz = some p→∃ p',a = some p'∧(0 < n→p'.spot = none→p = p')∧p.block = p'.block:=by
  intro p hp
  unfold subA at hp
  split at hp
  ·exact⟨p,hp,fun _ _ => rfl,rfl⟩
  ·cases a with
   | none => cases hp
   | some p' =>
    simp only [Option.map_some,Option.some.injEq] at hp
    subst hp
    obtain⟨b,off,spot⟩:=p'
    refine⟨_,rfl,fun _ h => ?_,by unfold Addr.add;split<;>rfl⟩
    simp only at h
    subst h
    rw [add_none,Nat.zero_mul,Nat.add_zero]
 refine⟨⟨by rw [List.length_take,h1,Nat.min_eq_left hle],_,_,rfl,fun hn => ?_,fun p hp => ?_⟩,fun p l c e hn => ?_,fun p l c e => by cases e;omega⟩
 ·unfold subA at hn
  split at hn
  ·have:=h2 hn;omega
  ·cases a with
   | none => have:=h2 rfl;omega
   | some p => cases hn
 ·obtain⟨p',rfl,h6,h7⟩:=hsub p hp
  obtain⟨h8,h9⟩:=h3 p' rfl
  refine⟨fun h => ?_,fun j u hj => ?_⟩
  ·rw [h6 (by omega) (h8 (by omega))];exact h8 (by omega)
  ·have hjl:=(List.getElem?_eq_some_iff.1 hj).1
   have hn : 0 < n:=by
    rcases Nat.eq_zero_or_pos n with h | h
    ·subst h
     rw [List.length_take,h1] at hjl
     omega
    ·exact h
   rw [h6 hn (h8 hn)]
   rw [List.length_take] at hjl
   rw [List.getElem?_take_of_lt (by omega)] at hj
   exact h9 j u hj
 ·injection e with e
  obtain⟨p',rfl,h6,h7⟩:=hsub p e
  rw [h7]
  exact h4 p' n cap rfl (by omega)
end Go.Proofs.YtjloddgofmdmgaaGreatDoor
namespace Go.Proofs.YtjloddgofmdmgaaGreatDoor
open Go
namespace Tl
theorem cat_app (a b : List Pc) : cat (a++b) = cat a++cat b:=by simp [cat]
theorem cat_slot (x : Slt) : cat (slotPc x) = Pl.pad x.a 10++[32]++Pl.pad x.b 5++[32]++kindW x++[32,10]:=by simp [cat,slotPc,sp,spnl]
theorem cat_slots (l : List Slt) : cat (l.flatMap slotPc) = l.flatMap fun x => cat (slotPc x):=by
 induction l with
 | nil => rfl
 | cons x l ih => rw [List.flatMap_cons,List.flatMap_cons,cat_app,ih]
theorem cat_group (g : List Slt) : cat (groupPc g) = Lib.itoa (first g)++[32]++Lib.itoa g.length++[10]++g.flatMap fun x => cat (slotPc x):=by
 rw [groupPc,cat_app,cat_slots]
 simp [cat,sp,nl]
def upto (l : List Slt) (i : Nat) : List UInt8:=xrefW++[10]++((groups l).take i).flatMap fun g => cat (groupPc g)
theorem cat_groups (gs : List (List Slt)) : cat (gs.flatMap groupPc) = gs.flatMap fun g => cat (groupPc g):=by
 induction gs with
 | nil => rfl
 | cons g gs ih => rw [List.flatMap_cons,List.flatMap_cons,cat_app,ih]
theorem upto_succ {l : List Slt} {i : Nat} (hi : i < (groups l).length) : upto l (i + 1) = upto l i++cat (groupPc (groups l)[i]):=by
 unfold upto
 rw [List.take_add_one,List.getElem?_eq_getElem hi,List.flatMap_append]
 simp
theorem upto_end (l : List Slt) : cat (headPc l) = upto l (groups l).length++trailW++[10]:=by
 unfold upto headPc
 rw [cat_app,cat_app,cat_groups,List.take_length]
 simp [cat,nl]
theorem text_ok {l : List Slt} {o : Ob} (h : refuse l o = 0) : text l o = (upto l (groups l).length++(trailW++[10]++Pl.join (Wr.parts o)++[10]),0):=by
 rw [text,if_neg (by simp [h]),upto_end]
 simp [nl]
theorem pad_le {n : Int} (k : Int) (h0 : 0≤n) (h1 : n≤2147483647) : (Pl.pad n k).length≤20:=by
 have:=itoa_len h0 h1
 unfold Pl.pad
 split
 ·simp
 ·rename_i h
  simp only [not_or] at h
  simp only [List.length_append,List.length_replicate]
  omega
theorem slot_le {x : Slt} (h : OkS x) : (cat (slotPc x)).length≤50:=by
 rw [cat_slot]
 have h1:=pad_le 10 h.a0 h.a1
 have h2:=pad_le 5 h.b0 (by have:=h.b1;omega)
 have h3 : (kindW x).length = 1:=by unfold kindW;split<;>rfl
 simp only [List.length_append,List.length_cons,List.length_nil,h3]
 omega
theorem slots_le : ∀ {g : List Slt},(∀ x ∈ g,OkS x)→(g.flatMap fun x => cat (slotPc x)).length≤50 * g.length
 | [],_ => by simp
 | x :: g,h => by
  have:=slots_le (g:=g) fun y hy => h y (List.mem_cons_of_mem _ hy)
  have:=slot_le (h x List.mem_cons_self)
  rw [List.flatMap_cons,List.length_append,List.length_cons]
  omega
theorem flat_groups {l : List Slt} {i : Nat} (hi : i < (groups l).length) : ∃ A B,l = A++((groups l)[i]++B)∧A.length = pos l i:=by
 refine⟨((groups l).take i).flatten,((groups l).drop (i + 1)).flatten,?_,rfl⟩
 have e:=List.take_append_drop i (groups l)
 rw [List.drop_eq_getElem_cons hi] at e
 have:=congrArg List.flatten e
 rw [(groups_ok l).1,List.flatten_append,List.flatten_cons] at this
 exact this.symm
theorem group_eq {l : List Slt} {i : Nat} (hi : i < (groups l).length) : (groups l)[i] = (l.drop (pos l i)).take ((groups l)[i]).length:=by
 obtain⟨A,B,e,ha⟩:=flat_groups hi
 generalize (groups l)[i] = g at *
 generalize pos l i = p at *
 subst ha
 rw [e,List.drop_left,List.take_left]
theorem group_drop {l : List Slt} {i : Nat} (hi : i < (groups l).length) : l.drop (pos l (i + 1)) = (l.drop (pos l i)).drop ((groups l)[i]).length:=by
 rw [(run_at hi).2.1,List.drop_drop]
theorem group_ok {l : List Slt} {i : Nat} (hi : i < (groups l).length) (hok : ∀ x ∈ l,OkS x) : ∀ x ∈ (groups l)[i],OkS x:=by
 intro x hx
 obtain⟨A,B,e,_⟩:=flat_groups hi
 refine hok x ?_
 rw [e]
 exact List.mem_append_right _ (List.mem_append_left _ hx)
theorem upto_le {l : List Slt} (hok : ∀ x ∈ l,OkS x) : ∀ i,i≤(groups l).length→(upto l i).length≤10 + 100 * pos l i
 | 0,_ => by simp [upto,xrefW,pos]
 | i + 1,hi => by
  have ih:=upto_le hok i (by omega)
  obtain⟨r1,r2,r3,_⟩:=run_at (l:=l) (i:=i) (by omega)
  have hg : Grp (groups l)[i]:=(groups_ok l).2 _ (List.getElem_mem _)
  have hb:=grp_bounds hg (group_ok (by omega) hok)
  have h1:=slots_le (group_ok (i:=i) (by omega) hok)
  have h2:=itoa_len hb.1 (by omega)
  have h3:=itoa_len (n:=((groups l)[i]).length) (by omega) (by omega)
  rw [upto_succ (by omega),cat_group]
  simp only [List.length_append,List.length_cons,List.length_nil]
  omega
def firstBad : List Slt→Bool
 | [] => false
 | x :: _ => decide (x.num = 0) && (decide (x.kind≠0) || decide (x.b≠65535))
theorem firstBad_cons {l : List Slt} (h : 0 < l.length) : firstBad l = (decide (l[0].num = 0) && (decide (l[0].kind≠0) || decide (l[0].b≠65535))):=by
 cases l with
 | nil => simp at h
 | cons _ _ => rfl
theorem first_nought {l : List Slt} (h : check l = 0) : l.any (fun x => decide (x.num = 0) && (decide (x.kind≠0) || decide (x.b≠65535))) = firstBad l:=by
 obtain⟨h1,h2,_⟩:=checkG_ok h
 cases l with
 | nil => rfl
 | cons x l =>
  rw [List.any_cons]
  have : l.any (fun x => decide (x.num = 0) && (decide (x.kind≠0) || decide (x.b≠65535))) = false:=by
   rw [List.any_eq_false]
   intro y hy
   have h3:=(List.pairwise_cons.1 h2).1 y hy
   have h4:=h1 x List.mem_cons_self
   have h5 : 0≤x.num:=by
    unfold okS at h4
    split at h4
    ·cases h4
    ·omega
   have : ¬ y.num = 0:=by omega
   simp [this]
  rw [this,Bool.or_false,firstBad]
end Tl
end Go.Proofs.YtjloddgofmdmgaaGreatDoor
namespace Go.Proofs.YtjloddgofmdmgaaGreatDoor
set_option maxRecDepth 20000
open Eng Go.RowKit
theorem rn_at {M : Mem} {v : Value} {l : List (Int × Int)} (hs : SlA M.A M.w v 2 l.length (rnsC l)) {i : Nat} (hi : i < l.length) :
  ∃ (b off : Nat),∀ W,M.has W→(mIA 38 v (.int .i64 (i : Int))).run Tryz.prog W = .ok (.value (.pointer (some ⟨b,off,none⟩))) W∧∀ j u,(rnC l[i])[j]? = some u→W.cell? ⟨b,off + j,none⟩ = some u:=by
 obtain⟨b,off,cap,rfl,_⟩:=sl_open hs.1 (by omega)
 refine⟨b,off + i * 2,fun W hW => ⟨?_,fun j u hj => ?_⟩⟩
 ·have:=run_ia (P:=Tryz.prog) (T:=38) (b:=b) (off:=off) (cap:=cap) (n:=l.length) (k:=.i64) (i:=(i : Int)) (w:=W) Tryz.underlying38 szRn (by omega) (by omega)
  rw [Int.toNat_natCast] at this
  exact this
 ·have:=Sl.cellAt (hs.now hW) (i * 2 + j) u (Eng.flat_get rnC_len hi hj)
  rwa [← Nat.add_assoc] at this
theorem run_rn {W : World} {b off : Nat} {p : Int × Int} (h : ∀ j u,(rnC p)[j]? = some u→W.cell? ⟨b,off + j,none⟩ = some u) : (mLoad 40 (.pointer (some ⟨b,off,none⟩))).run Tryz.prog W = .ok (.value (rnV p)) W:=
 run_load_at (AtV.agg aggRn (cs:=rnC p) rfl h)
abbrev rnE (b : Nat) (p : Int × Int) : Ent:=.cells b (rnC p) 40
section
variable {w : World} {PK : List PanicEntry→World→Prop} {K : Value→World→Prop} {S : Nat→Prop} {w0 : World} {L : List Ent}
theorem o_rna (ho : OwnS S w0 w L) (k : ∀ b w',OwnS S w0 w' (rnE b (0,0) :: L)→K (.pointer (some ⟨b,0,none⟩)) w') : DoX Tryz.prog (mAlloc 40) w PK K:=
 o_new (fun b => .pointer (some ⟨b,0,none⟩)) (rnC (0,0)) 40 (fun _ => by kernel_rfl) ho k
theorem rn_put (i : Nat) {b : Nat} {p q : Int × Int} (ho : OwnS S w0 w L) (hi : L[i]? = some (rnE b p)) (k : ∀ w',OwnS S w0 w' (L.set i (rnE b q))→K undef w') :
  DoX Tryz.prog (mStore 40 (.pointer (some ⟨b,0,none⟩)) (rnV q)) w PK K:=o_put i ho hi (new:=rnC q) szRn (rnC_one q) rfl k
end
theorem Tl.runs_get {l : List Slt} {i : Nat} (hi : i < (Tl.groups l).length) : (Tl.runs l)[i]'(by unfold Tl.runs;simpa using hi) = (Tl.first (Tl.groups l)[i],(((Tl.groups l)[i]).length : Int)):=by
 unfold Tl.runs
 rw [List.getElem_map];rfl
theorem Tl.runs_length (l : List Slt) : (Tl.runs l).length = (Tl.groups l).length:=by unfold Tl.runs;simp
theorem pInt_ok {n : Int} (h0 : 0≤n) (h1 : n≤2147483647) : Pl.pInt n = (Lib.itoa n,0):=by
 unfold Pl.pInt
 rw [if_pos (by omega)]
theorem ttext_2 {b7 b16 : Nat} {M0 : Mem} {bv : Value} {w W : World} {acc : List UInt8} {x : Slt} {j : Nat} {L : List Ent} {K : Ending→World→Prop} {N2 : List Value→World→Prop} (hx : Tl.OkS x) (tb : ∀ (W : World) (e1 e2 : Ent),OwnS M0.A w W (e1 :: e2 :: L)→Tb W) (hl : acc.length≤1000000000000) (hj : j≤1000000000)
  (ho : OwnS M0.A w W (slE b16 x :: Bld b7 bv acc :: L)) (hN : ∀ (W' : World) (bv' : Value),OwnS M0.A w W' (slE b16 x :: Bld b7 bv' (acc++Tl.cat (Tl.slotPc x)) :: L)→N2 [.int .i64 ((j : Int) + 1)] W') :
  S_table_Text_2 (.pointer (some ⟨b7,0,none⟩)) (.pointer (some ⟨b16,0,none⟩)) (.string ⟨(Tl.kindW x).toArray⟩) (.int .i64 (j : Int)) W N2 K:=by
 unfold S_table_Text_2
 have hp1:=Tl.pad_le 10 hx.a0 hx.a1
 have hp2:=Tl.pad_le 5 hx.b0 (by have:=hx.b1;omega)
 have hkw : (Tl.kindW x).length = 1:=by unfold Tl.kindW;split<;>rfl
 have ha0:=hx.a0
 have ha1:=hx.a1
 have hb0:=hx.b0
 have hb1:=hx.b1
 have ho:=ho.drew
 refine⟨fun W => (slE b16 x).is W,ho.at_ 0 rfl,?_⟩
 refine hd_pure _ (fun _ => run_fa fs2) (hd_do _ (fun W h => run_load_cell nInt5 (cells_cell (T:=49) (cs:=slC x) (i:=2) h rfl)) ?_)
 refine hd_pure _ (fun _ => run_fa fs3) (hd_do _ (fun W h => run_load_cell nInt5 (cells_cell (T:=49) (cs:=slC x) (i:=3) h rfl)) ?_)
 refine c_ret (ppad_ret x.a 10 (by omega) (by omega) (by omega) (by omega) _ (tb _ _ _ ho)) ?_
 rintro _ w1 ⟨rfl,hb⟩
 have ho:=ho.grow hb
 refine⟨ho.at_ 0 rfl,?_⟩
 refine hd_pure _ (fun _ => run_s_add (b:=[32]) (by simp only [List.length_cons,List.length_nil];omega)) ?_
 refine c_ret (ppad_ret x.b 5 (by omega) (by omega) (by omega) (by omega) _ (tb _ _ _ ho)) ?_
 rintro _ w2 ⟨rfl,hb⟩
 have ho:=ho.grow hb
 refine⟨ho.at_ 0 rfl,?_⟩
 refine hd_pure _ (fun _ => run_s_add (by simp only [List.length_append,List.length_cons,List.length_nil];omega)) ?_
 refine hd_pure _ (fun _ => run_s_add (b:=[32]) (by simp only [List.length_append,List.length_cons,List.length_nil];omega)) ?_
 refine hd_pure _ (fun _ => run_s_add (by simp only [List.length_append,List.length_cons,List.length_nil,hkw];omega)) ?_
 refine hd_pure _ (fun _ => run_s_add (b:=[32,10]) (by simp only [List.length_append,List.length_cons,List.length_nil,hkw];omega)) ?_
 refine c_ret (writeString_ret (ho.at_ 1 rfl) (by simp only [List.length_append,List.length_cons,List.length_nil,hkw];omega)) ?_
 rintro _ w3 ⟨e',⟨⟨_,rfl⟩,v',rfl⟩,htn⟩
 have ho:=ho.turn 1 rfl htn
 refine⟨ho.at_ 0 rfl,?_⟩
 simp only [rs]
 rw [wrap64_id (by omega) (by omega)]
 rw [← Tl.cat_slot] at ho
 exact hN w3 v' ho
theorem ttext_ret (x : Sec) (v : Value) (M : Mem) (w : World) (ht : Tb w) (hb : x.slots.length≤1000000) (hf : NumsI x.slots) (hw : x.trailer.wt≤100000000) (hM : M.has w) (hv : SecV M v x) :
  Ret Tryz.prog 12 #[v] w (fun r w' => r = txtV (Tl.text x.slots x.trailer)∧Below w.heap.size w w'):=by
 have hv0:=hv
 obtain⟨vs,vk,vc,rfl,hsl,hov⟩:=hv
 refine ret_of fun K hK => S_table_Text_ok ?_
 unfold S_table_Text
 refine o_seb x hsl.one hov.oneK hov.oneC (OwnS.memS hM) fun b1 w1 ho => ?_
 have ho : OwnS M.A w w1 [secE b1 x vs vk vc,.mem M]:=ho
 rw [se_v ho 0 rfl]
 refine c_below ho (R:=fun v => v = .int .i64 (Tl.refuse x.slots x.trailer)) (trefuse_ret x _ M w1 hb hw (ho.hasM 1 rfl) hv0) ?_
 rintro _ w2 rfl ho
 simp only [rs]
 by_cases hr : Tl.refuse x.slots x.trailer = 0
 case neg =>
  simp only [decide_eq_true (show Tl.refuse x.slots x.trailer≠0 from hr),i_t]
  refine hK _ _ ⟨?_,(ho.toGives 1 rfl M.le_refl hM).below⟩
  rw [Tl.text,if_pos hr];rfl
 have hT:=Tl.text_ok hr
 obtain⟨hok,hrise,hc1,hk7⟩:=Tl.refuse_ok hr
 have hwt : Wr.text x.trailer = (Pl.join (Wr.parts x.trailer),0):=by
  unfold Wr.text
  rw [if_neg (by simp [hc1]),if_neg (by omega)]
 have hjl : (Pl.join (Wr.parts x.trailer)).length≤40 * x.trailer.wt:=by
  have:=Wr.text_len x.trailer
  rwa [hwt] at this
 simp only [hr,show decide ((0 : Int)≠0) = false by decide,i_f]
 rw [fa_se2,se_tr ho 0 rfl]
 refine c_below ho (R:=fun v => v = txtV (Wr.text x.trailer)) (wtext7_ret x.trailer _ w2 (ht.mono (ho.toGives 1 rfl M.le_refl hM).below) (OV.inw (ho.hasM 1 rfl) hov) hw) ?_
 rintro _ w3 rfl ho
 rw [hwt]
 simp only [txtV,ex,rs,show decide ((0 : Int)≠0) = false by decide]
 refine o_new (fun b => .pointer (some ⟨b,0,none⟩)) [.pointer none,.slice none 0 0] 73 (fun _ => by kernel_rfl) ho fun b7 w4 ho => ?_
 have hB0 : ∃ v0,OwnS M.A w w4 [Bld b7 v0 [],secE b1 x vs vk vc,.mem M]:=⟨_,OwnS.closeB (l:=[]) (.inl rfl) roomy_nil (ho.nilRow 5 1).swap⟩
 obtain⟨v0,ho⟩:=hB0
 refine c_turn 0 ho rfl (writeString_ret (s:=[120,114,101,102,10]) (ho.at_ 0 rfl) (by simp)) ?_
 rintro _ _ w5 ⟨_,v5,rfl⟩ ho
 have hu : []++[120,114,101,102,10] = Tl.upto x.slots 0:=by simp [Tl.upto,Tl.xrefW]
 rw [hu] at ho
 have ho : OwnS M.A w w5 [Bld b7 v5 (Tl.upto x.slots 0),secE b1 x vs vk vc,.mem M]:=ho
 rw [fa_se1,se_sl ho 1 rfl]
 refine c_mem ho 2 rfl (truns_ret x.slots vs M w5 hb hf (ho.hasM 2 rfl) hsl) ?_
 rintro rv N w6 hle hrn ho
 have ho : OwnS M.A w w6 [Bld b7 v5 (Tl.upto x.slots 0),secE b1 x vs vk vc,.mem N]:=ho
 have hsl:=hsl.le hle
 have tb : ∀ {W : World} {L : List Ent} (i : Nat),OwnS M.A w W L→L[i]? = some (.mem N)→Tb W:=fun i ho hi => ht.mono (ho.toGives i hi hle hM).below
 rw [sl_len Tryz.underlying38 (hrn.now (ho.hasM 2 rfl)),Tl.runs_length]
 have hpl : ∀ i,i≤(Tl.groups x.slots).length→Tl.pos x.slots i≤x.slots.length:=by
  intro i hi
  rcases Nat.eq_zero_or_pos i with h | h
  ·subst h;simp [Tl.pos]
  ·obtain⟨j,rfl⟩ : ∃ j,i = j + 1:=⟨i - 1,by omega⟩
   exact (Tl.run_at (l:=x.slots) (i:=j) (by omega)).2.2.1
 have hgl : (Tl.groups x.slots).length≤x.slots.length:=by
  have:=Tl.runs_len x.slots
  rwa [Tl.runs_length] at this
 refine loop (fun vs' W => ∃ (i : Nat) (lv bv : Value),vs' = [lv,.int .i64 i]∧i≤(Tl.groups x.slots).length∧SlA N.A N.w lv 4 (x.slots.drop (Tl.pos x.slots i)).length (slsC (x.slots.drop (Tl.pos x.slots i)))∧OwnS M.A w W [Bld b7 bv (Tl.upto x.slots i),secE b1 x vs vk vc,.mem N])
  (fun vs' _ => (Tl.groups x.slots).length - n1 vs') ⟨0,vs,v5,rfl,by omega,by simpa [Tl.pos] using hsl,ho⟩ ?_
 clear ho
 rintro vs' w7 ⟨i,lv,bv,rfl,hi,hlv,ho⟩ _
 have hul:=Tl.upto_le hok i hi
 have hpi:=hpl i hi
 simp only [S_table_Text_0,gd,rs]
 by_cases hlt : (i : Int) < ((Tl.groups x.slots).length : Int)
 case neg =>
  have hi' : i = (Tl.groups x.slots).length:=by omega
  subst hi'
  simp only [decide_eq_false hlt,i_f]
  have e1 : ∀ {PK : List PanicEntry→World→Prop} {K : Value→World→Prop} {T : TypeId} {W : World},DoX Tryz.prog (mBin .add T (.string ⟨#[116,114,97,105,108,101,114,10]⟩) (.string ⟨(Pl.join (Wr.parts x.trailer)).toArray⟩)) W PK K = K (.string ⟨([116,114,97,105,108,101,114,10]++Pl.join (Wr.parts x.trailer)).toArray⟩) W:=
   s_add (a:=[116,114,97,105,108,101,114,10]) (by simp only [List.length_cons,List.length_nil];omega)
  have e2 : ∀ {PK : List PanicEntry→World→Prop} {K : Value→World→Prop} {T : TypeId} {W : World},DoX Tryz.prog (mBin .add T (.string ⟨([116,114,97,105,108,101,114,10]++Pl.join (Wr.parts x.trailer)).toArray⟩) (.string ⟨#[10]⟩)) W PK K = K (.string ⟨([116,114,97,105,108,101,114,10]++Pl.join (Wr.parts x.trailer)++[10]).toArray⟩) W:=
   s_add (b:=[10]) (by simp only [List.length_append,List.length_cons,List.length_nil];omega)
  rw [e1,e2]
  refine c_turn 0 ho rfl (writeString_ret (ho.at_ 0 rfl) (by simp only [List.length_append,List.length_cons,List.length_nil];omega)) ?_
  rintro _ _ w8 ⟨_,v8,rfl⟩ ho
  have e3 : ([116,114,97,105,108,101,114,10]++Pl.join (Wr.parts x.trailer)++[10] : List UInt8) = Tl.trailW++[10]++Pl.join (Wr.parts x.trailer)++[10]:=by simp [Tl.trailW]
  rw [e3] at ho
  refine c_turn 0 ho rfl (bldString_ret (ho.at_ 0 rfl)) ?_
  rintro _ _ w9 ⟨rfl,rfl⟩ ho
  refine hK _ _ ⟨?_,(ho.toGives 2 rfl hle hM).below⟩
  rw [hT];rfl
 have hi' : i < (Tl.groups x.slots).length:=by omega
 simp only [decide_eq_true hlt,i_t]
 obtain⟨g0,off0,hr0⟩:=rn_at hrn (i:=i) (by rw [Tl.runs_length];exact hi')
 rw [Tl.runs_get hi'] at hr0
 obtain⟨hg1,hpos,hple,_,_⟩:=Tl.run_at hi'
 have hgrp:=(Tl.groups_ok x.slots).2 _ (List.getElem_mem hi')
 have hgok:=Tl.group_ok hi' hok
 have hbd:=Tl.grp_bounds hgrp hgok
 have hge:=Tl.group_eq hi'
 have hgd:=Tl.group_drop hi'
 have hus:=Tl.upto_succ hi'
 rw [Tl.cat_group] at hus
 generalize hgg : (Tl.groups x.slots)[i] = g at *
 obtain⟨r1,r2⟩:=hr0 w7 (ho.hasM 2 rfl)
 refine do_eq r1 |>.mpr (do_eq (run_rn r2) |>.mpr ?_)
 refine o_rna ho fun b10 w8 ho => ?_
 refine rn_put (q:=(Tl.first g,(g.length : Int))) 0 ho rfl fun w9 ho => ?_
 have ho : OwnS M.A w w9 [rnE b10 (Tl.first g,(g.length : Int)),Bld b7 bv (Tl.upto x.slots i),secE b1 x vs vk vc,.mem N]:=ho
 rw [d_ia20,l_cell nInt5 (ho.cell 0 rfl 0 rfl)]
 refine c_below ho (R:=fun v => v = .tuple #[.string ⟨(Pl.pInt (Tl.first g)).1.toArray⟩,.int .i64 (Pl.pInt (Tl.first g)).2]) (pint_ret _ w9 (tb 3 ho rfl)) ?_
 rintro _ w10 rfl ho
 rw [pInt_ok hbd.1 (by omega)]
 simp only [ex]
 rw [d_ia21,l_cell nInt5 (ho.cell 0 rfl 1 rfl)]
 refine c_below ho (R:=fun v => v = .tuple #[.string ⟨(Pl.pInt (g.length : Int)).1.toArray⟩,.int .i64 (Pl.pInt (g.length : Int)).2]) (pint_ret _ w10 (tb 3 ho rfl)) ?_
 rintro _ w11 rfl ho
 rw [pInt_ok (by omega) (by omega)]
 have hl1:=Tl.itoa_len hbd.1 (by omega)
 have hl2:=Tl.itoa_len (n:=(g.length : Int)) (by omega) (by omega)
 simp only [ex]
 have e1 : ∀ {PK : List PanicEntry→World→Prop} {K : Value→World→Prop} {T : TypeId} {W : World},DoX Tryz.prog (mBin .add T (.string ⟨(Lib.itoa (Tl.first g)).toArray⟩) (.string ⟨#[32]⟩)) W PK K = K (.string ⟨(Lib.itoa (Tl.first g)++[32]).toArray⟩) W:=s_add (b:=[32]) (by simp;omega)
 have e2 : ∀ {PK : List PanicEntry→World→Prop} {K : Value→World→Prop} {T : TypeId} {W : World},DoX Tryz.prog (mBin .add T (.string ⟨(Lib.itoa (Tl.first g)++[32]).toArray⟩) (.string ⟨(Lib.itoa (g.length : Int)).toArray⟩)) W PK K = K (.string ⟨(Lib.itoa (Tl.first g)++[32]++Lib.itoa g.length).toArray⟩) W:=s_add (by simp;omega)
 have e3 : ∀ {PK : List PanicEntry→World→Prop} {K : Value→World→Prop} {T : TypeId} {W : World},DoX Tryz.prog (mBin .add T (.string ⟨(Lib.itoa (Tl.first g)++[32]++Lib.itoa (g.length : Int)).toArray⟩) (.string ⟨#[10]⟩)) W PK K = K (.string ⟨(Lib.itoa (Tl.first g)++[32]++Lib.itoa g.length++[10]).toArray⟩) W:=s_add (b:=[10]) (by simp;omega)
 rw [e1,e2,e3]
 refine c_turn 1 ho rfl (writeString_ret (ho.at_ 1 rfl) (by simp;omega)) ?_
 rintro _ _ w12 ⟨_,v12,rfl⟩ ho
 have ho : OwnS M.A w w12 [rnE b10 (Tl.first g,(g.length : Int)),Bld b7 v12 (Tl.upto x.slots i++(Lib.itoa (Tl.first g)++[32]++Lib.itoa g.length++[10])),secE b1 x vs vk vc,.mem N]:=ho
 rw [d_ia21,l_cell nInt5 (ho.cell 0 rfl 1 rfl)]
 obtain⟨a,cap,rfl,hcap⟩:=hlv.form
 have hrl : (x.slots.drop (Tl.pos x.slots i)).length = x.slots.length - Tl.pos x.slots i:=List.length_drop
 rw [do_eq (run_sl_h Tryz.underlying23 szSl (by omega) (by omega)),Int.toNat_natCast]
 have hsub:=sla_upto hlv (m:=g.length) (by omega)
 rw [Eng.flat_take slC_len,← hge] at hsub
 rw [sl_len Tryz.underlying23 (hsub.now (ho.hasM 3 rfl))]
 refine loop (fun vs' W => ∃ (j : Nat) (bv' : Value),vs' = [.int .i64 j]∧j≤g.length∧OwnS M.A w W [rnE b10 (Tl.first g,(g.length : Int)),Bld b7 bv' (Tl.upto x.slots i++(Lib.itoa (Tl.first g)++[32]++Lib.itoa g.length++[10])++(g.take j).flatMap fun x => Tl.cat (Tl.slotPc x)),secE b1 x vs vk vc,.mem N])
  (fun vs' _ => g.length - n0 vs') ⟨0,v12,rfl,by omega,by simpa using ho⟩ ?_
 clear ho
 rintro vs' w13 ⟨j,bv',rfl,hj,ho⟩ _
 simp only [S_table_Text_1,gd,rs]
 by_cases hjt : (j : Int) < (g.length : Int)
 case neg =>
  have hj' : j = g.length:=by omega
  subst hj'
  simp only [decide_eq_false hjt,i_f]
  rw [d_ia21,l_cell nInt5 (ho.cell 0 rfl 1 rfl)]
  rw [do_eq (run_sl_l Tryz.underlying23 szSl (by omega) (by omega)),Int.toNat_natCast]
  have hsub2:=sla_from hlv (lo:=g.length) (by omega)
  rw [Eng.flat_drop slC_len,← hgd,show (x.slots.drop (Tl.pos x.slots i)).length - g.length = (x.slots.drop (Tl.pos x.slots (i + 1))).length by rw [hgd];simp;omega] at hsub2
  rw [wrap64_id (by omega) (by omega)]
  rw [List.take_length] at ho
  have e : Tl.upto x.slots i++(Lib.itoa (Tl.first g)++[32]++Lib.itoa (g.length : Int)++[10])++g.flatMap (fun x => Tl.cat (Tl.slotPc x)) = Tl.upto x.slots (i + 1):=by
   rw [hus];simp [List.append_assoc]
  rw [e] at ho
  rw [show (x.slots.drop (Tl.pos x.slots i)).length - g.length = (x.slots.drop (Tl.pos x.slots (i + 1))).length by rw [hgd];simp;omega]
  exact nextX ⟨i + 1,_,bv',rfl,by omega,hsub2,ho.tail⟩ (by show (Tl.groups x.slots).length - Int.toNat ((i : Int) + 1) < (Tl.groups x.slots).length - Int.toNat (i : Int);omega)
 have hj' : j < g.length:=by omega
 simp only [decide_eq_true hjt,i_t]
 obtain⟨g1,off1,hr1⟩:=slot_at hsub hj'
 obtain⟨r1,r2⟩:=hr1 w13 (ho.hasM 3 rfl)
 refine do_eq r1 |>.mpr (do_eq (run_slt r2) |>.mpr ?_)
 refine o_sla ho fun b16 w14 ho => ?_
 refine sl_put (y:=g[j]) 0 ho rfl fun w15 ho => ?_
 have hx:=hgok g[j] (List.getElem_mem hj')
 have hsl50:=Tl.slots_le (g:=g.take j) fun y hy => hgok y (List.mem_of_mem_take hy)
 have htk : (g.take (j + 1)).flatMap (fun x => Tl.cat (Tl.slotPc x)) = (g.take j).flatMap (fun x => Tl.cat (Tl.slotPc x))++Tl.cat (Tl.slotPc g[j]):=by
  rw [take_snoc hj',List.flatMap_append];simp
 have hperm : OwnS M.A w w15 [slE b16 g[j],Bld b7 bv' (Tl.upto x.slots i++(Lib.itoa (Tl.first g)++[32]++Lib.itoa g.length++[10])++(g.take j).flatMap fun x => Tl.cat (Tl.slotPc x)),rnE b10 (Tl.first g,(g.length : Int)),secE b1 x vs vk vc,.mem N]:=
  OwnS.perm ho (List.Perm.cons _ (List.Perm.swap _ _ _))
 refine join fun J hJ => ?_
 have go : ∀ wd : List UInt8,wd = Tl.kindW g[j]→J [.string ⟨wd.toArray⟩] w15:=by
  rintro _ rfl
  refine hJ _ _ fun _ => ?_
  simp only [gd]
  refine ttext_2 hx (fun W e1 e2 ho => tb 4 ho rfl) (by simp only [List.length_append,List.length_take] at hsl50 ⊢;simp only [List.length_cons,List.length_nil];omega) (by omega) hperm fun W' bv2 ho => ?_
  have ho:=OwnS.perm ho (List.Perm.cons _ (List.Perm.swap _ _ _))
  refine nextX ⟨j + 1,bv2,rfl,by omega,?_⟩ (by show g.length - Int.toNat ((j : Int) + 1) < g.length - Int.toNat (j : Int);omega)
  rw [htk,← List.append_assoc]
  exact ho.tail
 rw [fa_s1',l_cell nInt5 (hperm.cell 0 rfl 1 rfl)]
 simp only [rs]
 by_cases hk : g[j].kind = 1
 ·simp only [decide_eq_true hk,i_t]
  exact go [110] (by unfold Tl.kindW;rw [if_pos hk])
 ·simp only [decide_eq_false hk,i_f]
  exact go [102] (by unfold Tl.kindW;rw [if_neg hk])
end Go.Proofs.YtjloddgofmdmgaaGreatDoor
namespace Go.Proofs.YtjloddgofmdmgaaGreatDoor
set_option maxRecDepth 20000
open Eng Go.RowKit
theorem rdigits18_ret : ∀ (n : Nat) (w : World),n≤9223372036854775807→Ret Tryz.prog 36 #[.int .i64 n] w (fun v w' => v = .string ⟨(Lib.decDigits n).toArray⟩∧Below w.heap.size w w'):=by
 intro n
 induction n using Nat.strongRecOn with
 | _ n ih =>
  intro w hn
  refine ret_of fun K hK => S_foliantref18_digits_ok ?_
  unfold S_foliantref18_digits
  have hr : ((n : Int).tmod 10) = ((n % 10 : Nat) : Int):=by rw [Int.tmod_eq_emod_of_nonneg (by omega)];omega
  have hq : ((n : Int).tdiv 10) = ((n / 10 : Nat) : Int):=by rw [Int.tdiv_eq_ediv_of_nonneg (by omega)];omega
  simp only [rs]
  by_cases h10 : (n : Int) < 10
  ·simp only [h10,decide_true,i_t]
   rw [wrap64_id (by omega) (by omega),c_int (k':=.u8) (by kernel_rfl) Tryz.underlying5]
   have e8 : IntKind.wrap .u8 (48 + (n : Int)) = ((UInt8.ofNat (48 + n)).toNat : Int):=by
    have : (UInt8.ofNat (48 + n)).toNat = 48 + n:=by
     rw [UInt8.toNat_ofNat'];omega
    rw [this]
    unfold IntKind.wrap
    simp [IntKind.bits,IntKind.signed]
    omega
   rw [e8]
   refine o_new (fun b => .slice (some ⟨b,0,none⟩) 1 1) (bytesV [UInt8.ofNat (48 + n)]) 5 (fun _ => by kernel_rfl) (Own.start w) fun nb w1 ho => ?_
   have ho:=OwnS.toRow ho 1 1 1 rfl (by omega) (by omega)
   rw [o_strB (l:=[UInt8.ofNat (48 + n)]) 0 ho rfl]
   refine hK _ _ ⟨?_,ho.done⟩
   rw [Lib.decDigits,dif_pos (by omega)]
  ·simp only [h10,decide_false,i_f]
   simp only [b_quo (show (10 : Int)≠0 by omega),hq]
   rw [wrap64_id (by omega) (by omega)]
   refine c_ret (ih (n / 10) (by omega) w (by omega)) ?_
   rintro _ w1 ⟨rfl,hb1⟩
   simp only [b_rem (show (10 : Int)≠0 by omega),hr]
   refine c_ret (ih (n % 10) (by omega) w1 (by omega)) ?_
   rintro _ w2 ⟨rfl,hb2⟩
   have hl:=decDigits_len (n / 10) (by omega)
   have hl2:=decDigits_len (n % 10) (by omega)
   rw [s_add (by omega)]
   refine hK _ _ ⟨?_,(((Own.start w).grow hb1).grow hb2).done⟩
   rw [Lib.decDigits.eq_1 n,dif_neg (by omega),Lib.decDigits.eq_1 (n % 10),dif_pos (by omega)]
theorem rdig18_ret (n : Int) (w : World) (h0 : 0≤n) (h1 : n≤9223372036854775807) : Ret Tryz.prog 36 #[.int .i64 n] w (fun v w' => v = .string ⟨(Lib.itoa n).toArray⟩∧Below w.heap.size w w'):=by
 obtain⟨u,rfl⟩ : ∃ u : Nat,n = u:=⟨n.toNat,by omega⟩
 have e : Lib.itoa (u : Int) = Lib.decDigits u:=by unfold Lib.itoa;rw [if_neg (by omega),Int.toNat_natCast]
 rw [e]
 exact rdigits18_ret u w (by omega)
theorem rpad18_ret (n k : Int) (w : World) (h0 : 0≤n) (h1 : n≤2147483647) (hk : 1≤k) (hk2 : k≤20) (hl : ((Lib.itoa n).length : Int)≤k) : Ret Tryz.prog 37 #[.int .i64 n,.int .i64 k] w (fun v w' => v = .string ⟨(Pl.pad n k).toArray⟩∧Below w.heap.size w w'):=by
 refine ret_of fun K hK => S_foliantref18_pad_ok ?_
 unfold S_foliantref18_pad
 refine c_ret (rdig18_ret n w h0 (by omega)) ?_
 rintro _ w1 ⟨rfl,hb⟩
 have hp : Pl.pad n k = List.replicate (k - (Lib.itoa n).length).toNat 48++Lib.itoa n:=by
  unfold Pl.pad
  rw [if_neg (by omega)]
 refine loop (fun vs W => ∃ j : Nat,vs = [.string ⟨(List.replicate j 48++Lib.itoa n).toArray⟩]∧j + (Lib.itoa n).length≤k∧W = w1) (fun vs _ => match vs with | [.string s] => k.toNat - s.size | _ => 0) ⟨0,by simp,by omega,rfl⟩ ?_
 rintro vs w2 ⟨j,rfl,hj,rfl⟩ _
 simp only [S_foliantref18_pad_0,gd]
 rw [s_len Tryz.underlying9]
 simp only [rs]
 have hlen : (List.replicate j (48 : UInt8)++Lib.itoa n).length = j + (Lib.itoa n).length:=by simp
 rw [hlen]
 by_cases hlt : ((j + (Lib.itoa n).length : Nat) : Int) < k
 ·simp only [decide_eq_true hlt,i_t]
  have e : ∀ {PK : List PanicEntry→World→Prop} {K : Value→World→Prop} {T : TypeId} {W : World},DoX Tryz.prog (mBin .add T (.string ⟨#[48]⟩) (.string ⟨(List.replicate j (48 : UInt8)++Lib.itoa n).toArray⟩)) W PK K = K (.string ⟨(List.replicate (j + 1) (48 : UInt8)++Lib.itoa n).toArray⟩) W:=by
   intro PK K T W
   have:=s_add (P:=Tryz.prog) (w:=W) (PK:=PK) (K:=K) (T:=T) (a:=[48]) (b:=List.replicate j (48 : UInt8)++Lib.itoa n) (by rw [hlen];simp;omega)
   rw [List.replicate_succ]
   exact this
  rw [e]
  refine nextX ⟨j + 1,rfl,by omega,rfl⟩ ?_
  show k.toNat - ByteArray.size _ < k.toNat - ByteArray.size _
  rw [str_size,str_size,hlen]
  simp only [List.length_append,List.length_replicate]
  omega
 ·simp only [decide_eq_false hlt,i_f]
  refine hK _ _ ⟨?_,hb⟩
  rw [hp,show (k - ((Lib.itoa n).length : Int)).toNat = j by omega]
end Go.Proofs.YtjloddgofmdmgaaGreatDoor
namespace Go.Proofs.YtjloddgofmdmgaaGreatDoor
open Eng Go.RowKit
abbrev seedE (b : Nat) (l : List UInt8) : Ent:=.obj b (.cells (bytesV l).toArray 5 (l.length,l.length + 1))
def BAny (e : Ent) (v : Value) (l : List UInt8) : Prop:=(∃ b,v = .slice (some ⟨b,0,none⟩) l.length l.length∧e = seedE b l)∨e = BRow v l
section
variable {S : Nat→Prop} {w w0 : World} {L : List Ent} {PK PK2 : List PanicEntry→World→Prop} {K : Value→World→Prop}
theorem seed_sl {b : Nat} {l : List UInt8} (h : (seedE b l).is w) : Sl w (.slice (some ⟨b,0,none⟩) l.length l.length) 1 l.length (bytesV l):=by
 refine⟨by rw [bytesV_length,Nat.mul_one],_,_,rfl,(fun h => by cases h),fun p hp => ?_⟩
 cases hp
 refine⟨fun _ => rfl,fun j u hj => ?_⟩
 have h' : w.heap[b]? = some (.cells (bytesV l).toArray 5 (l.length,l.length + 1)):=h
 rw [Nat.zero_add]
 simp [World.cell?,h',hj]
theorem BAny.sl {e : Ent} {v : Value} {l : List UInt8} (h : BAny e v l) (i : Nat) (ho : OwnS S w0 w L) (hi : L[i]? = some e) : Sl w v 1 l.length (bytesV l):=by
 rcases h with ⟨b,rfl,rfl⟩ | rfl
 ·exact seed_sl (ho.at_ i hi)
 ·exact ho.slRow i hi
theorem o_seed (l : List UInt8) {n : Nat} {parts : Array (Nat × Value)} (hm : ∀ w,(mBuildS 71 n parts).run Tryz.prog w = .ok (.value (.slice (some ⟨w.heap.size,0,none⟩) l.length l.length)) (w.alloc (.cells (bytesV l).toArray 5)))
  (ho : OwnS S w0 w L) (k : ∀ b w',OwnS S w0 w' (seedE b l :: L)→K (.slice (some ⟨b,0,none⟩) l.length l.length) w') :
  DoX Tryz.prog (mBuildS 71 n parts) w PK fun t w => DoX Tryz.prog (mConv 71 71 t) w PK2 K:=by
 refine do_ok (hm w) ?_
 have hc:=Lib.run_convert_bytes_const (P:=Tryz.prog) w 71 5 (bytesV l).toArray l.length l.length Tryz.underlying71 Tryz.underlying5
 refine do_ok (mv_run hc) ?_
 have hs : (bytesV l).toArray.size = l.length:=by simp [bytesV_length]
 rw [hs]
 exact k _ _ (ho.allocObj (.cells (bytesV l).toArray 5 (l.length,l.length + 1)))
theorem o_appAny {e : Ent} {v : Value} {l m : List UInt8} {cs : Array Bool} (ho : OwnS S w0 w (e :: L)) (h : BAny e v l) (h0 : 0 < m.length) (hb : l.length + m.length≤140737488355328) (k : ∀ v' w',OwnS S w0 w' (BRow v' (l++m) :: L)→K v' w') :
  DoX Tryz.prog (mB .append #[71,9] 71 cs #[v,.string ⟨m.toArray⟩]) w PK K:=by
 rcases h with ⟨b,rfl,rfl⟩ | rfl
 case inr => exact o_appS ho hb k
 obtain⟨i,z,hi,hz,hi1,hi2,hz1⟩:=elB_spec (show elB Tryz.prog 5 1 1 = true by kernel_rfl)
 have hz8 : (Tryz.prog.info? 5).bind (·.zero) = some (.int .u8 0):=by kernel_rfl
 have hz0 : i.zero = some (.int .u8 0):=by rw [hi] at hz8;exact hz8
 have hsz:=str_size m
 have hcell:=seed_sl (ho.at_ 0 rfl)
 obtain⟨_,a,cap,ea,_,hc⟩:=hcell
 cases ea
 have hc:=(hc _ rfl).2
 have hr:=Lib.run_append_grow_string (P:=Tryz.prog) w 71 9 71 5 i (.int .u8 0) Tryz.underlying71 Tryz.underlying9 hi hz0 ⟨b,0,none⟩ l.length l.length (bytesV l) (by rw [hi1,bytesV_length,Nat.mul_one])
  (fun j u hj => by rw [add_none];exact hc j u hj) ⟨m.toArray⟩ (by omega) (by rw [hsz];omega) (by rw [hi2];exact growslice_fits (by omega) (by rw [hsz];omega))
 rw [strCells_bytesV,hsz] at hr
 have hge:=grownCap_ge w (l.length + m.length) l.length 5
 have hcm:=grownCap_le_maxLen w (l.length + m.length) l.length 5 (by simp only [maxLen];omega)
 generalize grownCap w (l.length + m.length) l.length 5 = cap at *
 refine do_ok (v:=.slice (some ⟨w.heap.size,0,none⟩) (l.length + m.length) cap) (w':=w.drew.alloc (.cells ((bytesV l).toArray++(bytesV m).toArray++Builtin.zeroCells (Value.int IntKind.u8 0).cells (cap - (l.length + m.length))) 5)) (by simp [mB,builtin,hr]) ?_
 have ho2:=ho.drew.alloc ((bytesV l++bytesV m)++(Builtin.zeroCells (Value.int IntKind.u8 0).cells (cap - (l.length + m.length))).toList) 5
 have hz1 : (Value.int IntKind.u8 0).cells.size = 1:=rfl
 have hzl : ∀ u,(Builtin.zeroCells (Value.int IntKind.u8 0).cells u).toList.length = u:=fun u => by rw [Array.length_toList,size_zeroCells,hz1];omega
 have ho3:=OwnS.toRow ho2 1 (l.length + m.length) cap (by
  rw [List.length_append,List.length_append,bytesV_length,bytesV_length,hzl];omega) hge (by simpa [maxLen] using hcm)
 have e1 : ((bytesV l++bytesV m)++(Builtin.zeroCells (Value.int IntKind.u8 0).cells (cap - (l.length + m.length))).toList).take ((l.length + m.length) * 1) = bytesV (l++m):=by
  rw [Nat.mul_one,List.take_left' (by rw [List.length_append,bytesV_length,bytesV_length]),bytesV_append]
 rw [e1] at ho3
 have e2 : BRow (.slice (some ⟨w.heap.size,0,none⟩) (l.length + m.length) cap) (l++m) = .row 5 1 (.slice (some ⟨w.heap.size,0,none⟩) (l.length + m.length) cap) (l.length + m.length) (bytesV (l++m)):=by
  rw [BRow,List.length_append]
 refine k _ _ ?_
 rw [e2]
 have e3 : (bytesV l).toArray++(bytesV m).toArray++Builtin.zeroCells (Value.int IntKind.u8 0).cells (cap - (l.length + m.length)) = ((bytesV l++bytesV m)++(Builtin.zeroCells (Value.int IntKind.u8 0).cells (cap - (l.length + m.length))).toList).toArray:=by
  apply Array.ext'
  simp
 rw [e3]
 exact ho3.sub (.cons_cons _ (.cons _ (List.Sublist.refl _)))
end
end Go.Proofs.YtjloddgofmdmgaaGreatDoor
namespace Go.Proofs.YtjloddgofmdmgaaGreatDoor
set_option maxRecDepth 20000
open Eng Go.RowKit
theorem rtext_3 {b1 : Nat} {M0 N : Mem} {bv vs vk vc : Value} {w W : World} {acc : List UInt8} {x : Sec} {k j : Nat} {K : Ending→World→Prop} {N4 : List Value→World→Prop} (hk : k < x.slots.length) (hsl : SlA N.A N.w vs 4 x.slots.length (slsC x.slots)) (hx : Tl.OkS x.slots[k]) (hl : acc.length≤1000000000000) (hj : j≤1000000000) (hkb : k≤1000000000)
  (ho : OwnS M0.A w W [BRow bv acc,secE b1 x vs vk vc,.mem N]) (hN : ∀ (W' : World) (bv' : Value),OwnS M0.A w W' [BRow bv' (acc++Tl.cat (Tl.slotPc x.slots[k])),secE b1 x vs vk vc,.mem N]→N4 [bv',.int .i64 ((k : Int) + 1),.int .i64 ((j : Int) + 1)] W') :
  S_foliantref18_Text_3 (.pointer (some ⟨b1,0,none⟩)) bv (.int .i64 (k : Int)) (.int .i64 (j : Int)) (.string ⟨([32]++Tl.kindW x.slots[k]++[32,10]).toArray⟩) W N4 K:=by
 unfold S_foliantref18_Text_3
 have ha0:=hx.a0
 have ha1:=hx.a1
 have hb0:=hx.b0
 have hb1:=hx.b1
 have hp1:=Tl.pad_le 10 ha0 ha1
 have hp2:=Tl.pad_le 5 hb0 (by omega)
 have hi1:=Tl.itoa_len ha0 ha1
 have hi2:=Tl.itoa_len5 hb0 hb1
 have hkw : (Tl.kindW x.slots[k]).length = 1:=by unfold Tl.kindW;split<;>rfl
 obtain⟨g,off,hr⟩:=slot_at hsl hk
 refine quiet ?_
 refine q_do _ (fun _ => run_fa fse1) ?_
 refine q_at vs (fun _ hb => run_load_cell nSls ((ho.grow hb).cell 1 rfl 1 rfl)) ?_
 refine q_at _ (fun W hb => (hr W ((ho.grow hb).hasM 2 rfl)).1) ?_
 refine q_do _ (fun _ => run_fa fs2) ?_
 refine q_at (.int .i64 x.slots[k].a) (fun W hb => run_load_cell nInt5 ((hr W ((ho.grow hb).hasM 2 rfl)).2 2 _ rfl)) ?_
 refine q_call _ (fun W hb => ret_grew (rpad18_ret x.slots[k].a 10 W ha0 ha1 (by omega) (by omega) (by omega)) hb) ?_
 refine q_do _ (fun _ => run_s_add (b:=[32]) (by simp only [List.length_cons,List.length_nil];omega)) ?_
 refine q_do _ (fun _ => run_fa fse1) ?_
 refine q_at vs (fun _ hb => run_load_cell nSls ((ho.grow hb).cell 1 rfl 1 rfl)) ?_
 refine q_at _ (fun W hb => (hr W ((ho.grow hb).hasM 2 rfl)).1) ?_
 refine q_do _ (fun _ => run_fa fs3) ?_
 refine q_at (.int .i64 x.slots[k].b) (fun W hb => run_load_cell nInt5 ((hr W ((ho.grow hb).hasM 2 rfl)).2 3 _ rfl)) ?_
 refine q_call _ (fun W hb => ret_grew (rpad18_ret x.slots[k].b 5 W hb0 (by omega) (by omega) (by omega) (by omega)) hb) ?_
 refine q_do _ (fun _ => run_s_add (by simp only [List.length_append,List.length_cons,List.length_nil];omega)) ?_
 refine q_do _ (fun _ => run_s_add (by simp only [List.length_append,List.length_cons,List.length_nil,hkw];omega)) ?_
 intro W2 hb
 have ho:=ho.grow hb
 refine o_appS ho (by simp only [List.length_append,List.length_cons,List.length_nil,hkw];omega) fun v' w3 ho => ?_
 simp only [rs]
 rw [wrap64_id (by omega) (by omega),wrap64_id (by omega) (by omega)]
 have e : Pl.pad x.slots[k].a 10++[32]++Pl.pad x.slots[k].b 5++([32]++Tl.kindW x.slots[k]++[32,10]) = Tl.cat (Tl.slotPc x.slots[k]):=by
  rw [Tl.cat_slot];simp [List.append_assoc]
 rw [e] at ho
 exact hN w3 v' ho
theorem rtext18_ret (x : Sec) (v : Value) (M : Mem) (w : World) (hb : x.slots.length≤1000000) (hf : NumsI x.slots) (hw : x.trailer.wt≤100000000) (hM : M.has w) (hv : SecV M v x) :
  Ret Tryz.prog 13 #[v] w (fun r w' => r = txtV (Tl.text x.slots x.trailer)∧Below w.heap.size w w'):=by
 obtain⟨vs,vk,vc,rfl,hsl,hov⟩:=hv
 refine ret_of fun K hK => S_foliantref18_Text_ok ?_
 unfold S_foliantref18_Text
 refine o_seb x hsl.one hov.oneK hov.oneC (OwnS.memS hM) fun b1 w1 ho => ?_
 have ho : OwnS M.A w w1 [secE b1 x vs vk vc,.mem M]:=ho
 have hR:=Tl.refuse.eq_1 x.slots x.trailer
 have fin : ∀ {W : World} {e : Int} {L : List Ent},OwnS M.A w W (L++([.mem M]++[]))→e≠0→Tl.refuse x.slots x.trailer = e→K (.returned (.tuple #[.string ⟨#[]⟩,.int .i64 e])) W:=by
  intro W e L ho h0 h
  refine hK _ _ ⟨?_,(ho.front.toGives 0 rfl M.le_refl hM).below⟩
  rw [Tl.text,if_pos (by rw [h];exact h0),h];rfl
 rw [fa_se1,se_sl ho 0 rfl]
 refine c_below ho (R:=fun v => v = .int .i64 (Tl.check x.slots)) (rcheck18_ret x.slots vs M w1 (by omega) (ho.hasM 1 rfl) hsl) ?_
 rintro _ w2 rfl ho
 simp only [rs]
 by_cases hc : Tl.check x.slots = 0
 case neg =>
  rw [if_pos hc] at hR
  simp only [decide_eq_true (show Tl.check x.slots≠0 from hc),i_t]
  exact fin (L:=[_]) ho hc hR
 rw [if_neg (by simp [hc]),Tl.first_nought hc] at hR
 simp only [hc,show decide ((0 : Int)≠0) = false by decide,i_f]
 refine loop (fun vs' W => ∃ i : Nat,vs' = [.int .i64 i]∧i≤x.slots.length∧(∀ j (h : j < x.slots.length),j < i→x.slots[j].kind≠2)∧OwnS M.A w W [secE b1 x vs vk vc,.mem M]) (fun vs' _ => x.slots.length - n0 vs') ⟨0,rfl,by omega,fun j h hj => by omega,ho⟩ ?_
 clear ho
 rintro vs' w3 ⟨i,rfl,hi,hall,ho⟩ _
 simp only [S_foliantref18_Text_0,gd]
 rw [fa_se1,se_sl ho 0 rfl,sl_len Tryz.underlying23 (hsl.now (ho.hasM 1 rfl))]
 simp only [rs]
 by_cases hlt : (i : Int) < (x.slots.length : Int)
 case pos =>
  have hi' : i < x.slots.length:=by omega
  simp only [decide_eq_true hlt,i_t]
  obtain⟨g,off,hr⟩:=slot_at hsl hi'
  obtain⟨r1,r2⟩:=hr w3 (ho.hasM 1 rfl)
  rw [fa_se1,se_sl ho 0 rfl]
  refine do_eq r1 |>.mpr ?_
  rw [fa_s1',l_cell nInt5 (r2 1 _ rfl)]
  simp only [rs]
  by_cases hk : x.slots[i].kind = 2
  ·simp only [decide_eq_true hk,i_t]
   refine fin (L:=[_]) ho (by omega) ?_
   rw [hR,if_pos (List.any_eq_true.2 ⟨_,List.getElem_mem hi',decide_eq_true hk⟩)]
  ·simp only [decide_eq_false hk,i_f]
   rw [wrap64_id (by omega) (by omega)]
   refine nextX ⟨i + 1,rfl,by omega,fun j h hj => ?_,ho⟩ (by show x.slots.length - Int.toNat ((i : Int) + 1) < x.slots.length - Int.toNat (i : Int);omega)
   rcases Nat.lt_or_ge j i with h1 | h1
   ·exact hall j h h1
   ·have : j = i:=by omega
    subst this;exact hk
 simp only [decide_eq_false hlt,i_f]
 have hany : x.slots.any (fun y => decide (y.kind = 2)) = false:=by
  rw [List.any_eq_false]
  intro y hy
  obtain⟨j,hj,rfl⟩:=List.getElem_of_mem hy
  simpa using hall j hj (by omega)
 rw [if_neg (by rw [hany];simp)] at hR
 rw [fa_se1,se_sl ho 0 rfl,sl_len Tryz.underlying23 (hsl.now (ho.hasM 1 rfl))]
 simp only [rs]
 -- behind the first slot
 have rest : ∀ {W : World},OwnS M.A w W [secE b1 x vs vk vc,.mem M]→(Tl.refuse x.slots x.trailer = if Vl.check 1 x.trailer≠0 then Vl.check 1 x.trailer else if x.trailer.k≠7 then 10 else 0)→DoX Tryz.prog (mFA 29 (.pointer (some ⟨b1,0,none⟩)) 2) W (pk K) fun t63 w =>
 DoX Tryz.prog (mLoad 27 t63) w (pk K) fun t64 w =>
 CallX Tryz.prog 35 #[t64] w (pk K) fun t65 w =>
 DoX Tryz.prog (mEq .neq 30 (.tmp 66) (.const (.int .i64 0)) t65 (.int .i64 0)) w (pk K) fun t67 w =>
 IfX t67 (K (.returned (.tuple #[(.string ⟨#[]⟩),t65])) w) (DoX Tryz.prog (mFA 29 (.pointer (some ⟨b1,0,none⟩)) 2) w (pk K) fun t69 w =>
 DoX Tryz.prog (mFA 27 t69 0) w (pk K) fun t70 w =>
 DoX Tryz.prog (mLoad 3 t70) w (pk K) fun t71 w =>
 DoX Tryz.prog (mEq .neq 3 (.tmp 71) (.const (.int .i64 7)) t71 (.int .i64 7)) w (pk K) fun t72 w =>
 IfX t72 (K (.returned (.tuple #[(.string ⟨#[]⟩),(.int .i64 10)])) w) (DoX Tryz.prog (mBuildS 71 5 #[(0,(.int .u8 120)),(1,(.int .u8 114)),(2,(.int .u8 101)),(3,(.int .u8 102)),(4,(.int .u8 10))]) w (pk K) fun t73 w =>
 DoX Tryz.prog (mConv 71 71 t73) w (pk K) fun t74 w =>
 DoX Tryz.prog (mFA 29 (.pointer (some ⟨b1,0,none⟩)) 1) w (pk K) fun t75 w =>
 DoX Tryz.prog (mLoad 23 t75) w (pk K) fun t76 w =>
 CallX Tryz.prog 15 #[t76] w (pk K) fun t77 w =>
 LoopX [t74,(.int .i64 0),(.int .i64 0)] w (fun vs2 w N2 => ∀ _ : Sg,S_foliantref18_Text_1 (.pointer (some ⟨b1,0,none⟩)) (vs2.getD 0 undef) (vs2.getD 1 undef) t77 (vs2.getD 2 undef) w N2 K))):=by
  clear ho
  intro W ho hR
  rw [fa_se2,se_tr ho 0 rfl]
  refine c_below ho (R:=fun v => v = .int .i64 (Vl.check 1 x.trailer)) (rCheck05_ret x.trailer _ W (OV.inw (ho.hasM 1 rfl) hov) (by omega)) ?_
  rintro _ w4 rfl ho
  simp only [rs]
  by_cases hc2 : Vl.check 1 x.trailer = 0
  case neg =>
   rw [if_pos hc2] at hR
   simp only [decide_eq_true (show Vl.check 1 x.trailer≠0 from hc2),i_t]
   exact fin (L:=[_]) ho hc2 hR
  rw [if_neg (by simp [hc2])] at hR
  simp only [hc2,show decide ((0 : Int)≠0) = false by decide,i_f]
  rw [fa_se2,fa_o0,se_trk ho 0 rfl]
  simp only [rs]
  by_cases hk7 : x.trailer.k = 7
  case neg =>
   rw [if_pos hk7] at hR
   simp only [decide_eq_true (show x.trailer.k≠7 from hk7),i_t]
   exact fin (L:=[_]) ho (by omega) hR
  rw [if_neg (by simp [hk7])] at hR
  simp only [hk7,show decide ((7 : Int)≠7) = false by decide,i_f]
  have hT:=Tl.text_ok hR
  obtain⟨hok,hrise,hc1,_⟩:=Tl.refuse_ok hR
  have hwt : Wr.text x.trailer = (Pl.join (Wr.parts x.trailer),0):=by
   unfold Wr.text
   rw [if_neg (by simp [hc1]),if_neg (by omega)]
  have hjl : (Pl.join (Wr.parts x.trailer)).length≤40 * x.trailer.wt:=by
   have:=Wr.text_len x.trailer
   rwa [hwt] at this
  refine o_seed [120,114,101,102,10] (fun _ => by kernel_rfl) ho fun nb w5 ho => ?_
  have hu : ([120,114,101,102,10] : List UInt8) = Tl.upto x.slots 0:=by simp [Tl.upto,Tl.xrefW]
  rw [hu] at ho
  have hany0 : BAny (seedE nb (Tl.upto x.slots 0)) (.slice (some ⟨nb,0,none⟩) (Tl.upto x.slots 0).length (Tl.upto x.slots 0).length) (Tl.upto x.slots 0):=.inl ⟨nb,rfl,rfl⟩
  rw [hu]
  have ho : OwnS M.A w w5 [seedE nb (Tl.upto x.slots 0),secE b1 x vs vk vc,.mem M]:=ho
  rw [fa_se1,se_sl ho 1 rfl]
  refine c_mem ho 2 rfl (rruns_ret x.slots vs M w5 hb hf (ho.hasM 2 rfl) hsl) ?_
  rintro rv N w6 hle hrn ho
  have ho : OwnS M.A w w6 [seedE nb (Tl.upto x.slots 0),secE b1 x vs vk vc,.mem N]:=ho
  have hsl:=hsl.le hle
  have hpl : ∀ i,i≤(Tl.groups x.slots).length→Tl.pos x.slots i≤x.slots.length:=by
   intro i hi
   rcases Nat.eq_zero_or_pos i with h | h
   ·subst h;simp [Tl.pos]
   ·obtain⟨j,rfl⟩ : ∃ j,i = j + 1:=⟨i - 1,by omega⟩
    exact (Tl.run_at (l:=x.slots) (i:=j) (by omega)).2.2.1
  have hgl : (Tl.groups x.slots).length≤x.slots.length:=by
   have:=Tl.runs_len x.slots
   rwa [Tl.runs_length] at this
  refine loop (fun vs' W => ∃ (i : Nat) (bv : Value) (e0 : Ent),vs' = [bv,.int .i64 (Tl.pos x.slots i),.int .i64 i]∧i≤(Tl.groups x.slots).length∧BAny e0 bv (Tl.upto x.slots i)∧OwnS M.A w W [e0,secE b1 x vs vk vc,.mem N])
   (fun vs' _ => (Tl.groups x.slots).length - n2 vs') ⟨0,_,_,rfl,by omega,hany0,ho⟩ ?_
  clear ho hany0
  rintro vs' w7 ⟨i,bv,e0,rfl,hi,hany,ho⟩ _
  have hul:=Tl.upto_le hok i hi
  have hpi:=hpl i hi
  simp only [S_foliantref18_Text_1,gd]
  rw [sl_len Tryz.underlying38 (hrn.now (ho.hasM 2 rfl)),Tl.runs_length]
  simp only [rs]
  by_cases hlt : (i : Int) < ((Tl.groups x.slots).length : Int)
  case neg =>
   have hi' : i = (Tl.groups x.slots).length:=by omega
   subst hi'
   simp only [decide_eq_false hlt,i_f]
   rw [fa_se2,se_tr ho 1 rfl]
   refine c_below ho (R:=fun v => v = txtV (Wr.text x.trailer)) (rtext7_ret x.trailer _ w7 (OV.inw (ho.hasM 2 rfl) (hov.le hle)) hw) ?_
   rintro _ w8 rfl ho
   rw [hwt]
   simp only [txtV,ex]
   rw [c_bytes (l:=Tl.upto x.slots (Tl.groups x.slots).length) Tryz.underlying71 Tryz.underlying5 Tryz.underlying9 (hany.sl 0 ho rfl)]
   have e1 : ∀ {PK : List PanicEntry→World→Prop} {K : Value→World→Prop} {T : TypeId} {W : World},DoX Tryz.prog (mBin .add T (.string ⟨(Tl.upto x.slots (Tl.groups x.slots).length).toArray⟩) (.string ⟨#[116,114,97,105,108,101,114,10]⟩)) W PK K = K (.string ⟨(Tl.upto x.slots (Tl.groups x.slots).length++[116,114,97,105,108,101,114,10]).toArray⟩) W:=
    s_add (b:=[116,114,97,105,108,101,114,10]) (by simp only [List.length_cons,List.length_nil];omega)
   rw [e1,s_add (by simp only [List.length_append,List.length_cons,List.length_nil];omega)]
   have e2 : ∀ {PK : List PanicEntry→World→Prop} {K : Value→World→Prop} {T : TypeId} {W : World} {a : List UInt8},a.length≤1000000000000→DoX Tryz.prog (mBin .add T (.string ⟨a.toArray⟩) (.string ⟨#[10]⟩)) W PK K = K (.string ⟨(a++[10]).toArray⟩) W:=
    fun h => s_add (b:=[10]) (by simp;omega)
   rw [e2 (by simp only [List.length_append,List.length_cons,List.length_nil];omega)]
   refine hK _ _ ⟨?_,(ho.toGives 2 rfl hle hM).below⟩
   rw [hT]
   simp only [txtV,List.append_assoc,Tl.trailW,List.cons_append,List.nil_append]
  have hi' : i < (Tl.groups x.slots).length:=by omega
  simp only [decide_eq_true hlt,i_t]
  obtain⟨g0,off0,hr0⟩:=rn_at hrn (i:=i) (by rw [Tl.runs_length];exact hi')
  rw [Tl.runs_get hi'] at hr0
  obtain⟨hg1,hpos,hple,_,_⟩:=Tl.run_at hi'
  have hgrp:=(Tl.groups_ok x.slots).2 _ (List.getElem_mem hi')
  have hgok:=Tl.group_ok hi' hok
  have hbd:=Tl.grp_bounds hgrp hgok
  have hge:=Tl.group_eq hi'
  have hus:=Tl.upto_succ hi'
  rw [Tl.cat_group] at hus
  generalize hgg : (Tl.groups x.slots)[i] = g at *
  have hl1:=Tl.itoa_len hbd.1 (by omega)
  have hl2:=Tl.itoa_len (n:=(g.length : Int)) (by omega) (by omega)
  refine quiet ?_
  refine q_at _ (fun W hb => (hr0 W ((ho.grow hb).hasM 2 rfl)).1) (q_do _ (fun _ => r_ia20) ?_)
  refine q_at (.int .i64 (Tl.first g)) (fun W hb => run_load_cell nInt5 ((hr0 W ((ho.grow hb).hasM 2 rfl)).2 0 _ rfl)) ?_
  refine q_call _ (fun W hb => ret_grew (rdig18_ret (Tl.first g) W hbd.1 (by omega)) hb) ?_
  refine q_do _ (fun _ => run_s_add (b:=[32]) (by simp only [List.length_cons,List.length_nil];omega)) ?_
  refine q_at _ (fun W hb => (hr0 W ((ho.grow hb).hasM 2 rfl)).1) (q_do _ (fun _ => r_ia21) ?_)
  refine q_at (.int .i64 (g.length : Int)) (fun W hb => run_load_cell nInt5 ((hr0 W ((ho.grow hb).hasM 2 rfl)).2 1 _ rfl)) ?_
  refine q_call _ (fun W hb => ret_grew (rdig18_ret (g.length : Int) W (by omega) (by omega)) hb) ?_
  refine q_do _ (fun _ => run_s_add (by simp only [List.length_append,List.length_cons,List.length_nil];omega)) ?_
  refine q_do _ (fun _ => run_s_add (b:=[10]) (by simp only [List.length_append,List.length_cons,List.length_nil];omega)) ?_
  intro w8 hb8
  have ho:=ho.grow hb8
  refine o_appAny ho hany (by simp only [List.length_append,List.length_cons,List.length_nil];omega) (by simp only [List.length_append,List.length_cons,List.length_nil];omega) fun bv2 w9 ho => ?_
  refine loop (fun vs' W => ∃ (j : Nat) (bv' : Value),vs' = [bv',.int .i64 ((Tl.pos x.slots i + j : Nat) : Int),.int .i64 j]∧j≤g.length∧OwnS M.A w W [BRow bv' (Tl.upto x.slots i++(Lib.itoa (Tl.first g)++[32]++Lib.itoa g.length++[10])++(g.take j).flatMap fun x => Tl.cat (Tl.slotPc x)),secE b1 x vs vk vc,.mem N])
   (fun vs' _ => g.length - n2 vs') ⟨0,bv2,rfl,by omega,by simpa using ho⟩ ?_
  clear ho
  rintro vs' w13 ⟨j,bv',rfl,hj,ho⟩ _
  simp only [S_foliantref18_Text_2,gd]
  obtain⟨r1,r2⟩:=hr0 w13 (ho.hasM 2 rfl)
  refine do_eq r1 |>.mpr ?_
  rw [d_ia21,l_cell nInt5 (r2 1 _ rfl)]
  simp only [rs]
  by_cases hjt : (j : Int) < (g.length : Int)
  case neg =>
   have hj' : j = g.length:=by omega
   subst hj'
   have hjt' : ¬ (g.length : Int) < (Tl.first g,(g.length : Int)).2:=hjt
   simp only [decide_eq_false hjt',i_f]
   rw [wrap64_id (by omega) (by omega)]
   rw [List.take_length] at ho
   have e : Tl.upto x.slots i++(Lib.itoa (Tl.first g)++[32]++Lib.itoa (g.length : Int)++[10])++g.flatMap (fun x => Tl.cat (Tl.slotPc x)) = Tl.upto x.slots (i + 1):=by
    rw [hus];simp [List.append_assoc]
   rw [e] at ho
   rw [← hpos]
   exact nextX ⟨i + 1,bv',_,rfl,by omega,.inr rfl,ho⟩ (by show (Tl.groups x.slots).length - Int.toNat ((i : Int) + 1) < (Tl.groups x.slots).length - Int.toNat (i : Int);omega)
  have hj' : j < g.length:=by omega
  have hjt' : (j : Int) < (Tl.first g,(g.length : Int)).2:=hjt
  simp only [decide_eq_true hjt',i_t]
  have hkb : Tl.pos x.slots i + j < x.slots.length:=by omega
  have hxe : x.slots[Tl.pos x.slots i + j] = g[j]:=by
   have : g[j]? = x.slots[Tl.pos x.slots i + j]?:=by
    conv => lhs;rw [hge]
    rw [List.getElem?_take_of_lt hj',List.getElem?_drop]
   rw [List.getElem?_eq_getElem hj',List.getElem?_eq_getElem hkb] at this
   exact (Option.some.inj this).symm
  have hx:=hgok g[j] (List.getElem_mem hj')
  have hsl50:=Tl.slots_le (g:=g.take j) fun y hy => hgok y (List.mem_of_mem_take hy)
  have htk : (g.take (j + 1)).flatMap (fun x => Tl.cat (Tl.slotPc x)) = (g.take j).flatMap (fun x => Tl.cat (Tl.slotPc x))++Tl.cat (Tl.slotPc g[j]):=by
   rw [take_snoc hj',List.flatMap_append];simp
  obtain⟨g1,off1,hr1⟩:=slot_at hsl hkb
  refine join fun J hJ => ?_
  have go : ∀ wd : List UInt8,wd = [32]++Tl.kindW g[j]++[32,10]→J [.string ⟨wd.toArray⟩] w13:=by
   rintro _ rfl
   refine hJ _ _ fun _ => ?_
   simp only [gd]
   rw [← hxe]
   refine rtext_3 hkb hsl (by rw [hxe];exact hx) (by simp only [List.length_append,List.length_take] at hsl50 ⊢;simp only [List.length_cons,List.length_nil];omega) (by omega) (by omega) ho fun W' bv2 ho => ?_
   rw [hxe] at ho
   refine nextX ⟨j + 1,bv2,?_,by omega,?_⟩ (by show g.length - Int.toNat ((j : Int) + 1) < g.length - Int.toNat (j : Int);omega)
   ·rw [show ((Tl.pos x.slots i + (j + 1) : Nat) : Int) = ((Tl.pos x.slots i + j : Nat) : Int) + 1 by omega];rfl
   ·rw [htk,← List.append_assoc]
    exact ho
  rw [fa_se1,se_sl ho 1 rfl]
  obtain⟨r3,r4⟩:=hr1 w13 (ho.hasM 2 rfl)
  refine do_eq r3 |>.mpr ?_
  rw [fa_s1',l_cell nInt5 (r4 1 _ rfl)]
  rw [hxe]
  simp only [rs]
  rcases hx.kind with hk | hk
  ·simp only [hk,decide_true,i_t]
   exact go [32,102,32,10] (by unfold Tl.kindW;rw [if_neg (by omega)];rfl)
  ·simp only [hk,show decide ((1 : Int) = 0) = false by decide,i_f]
   exact go [32,110,32,10] (by unfold Tl.kindW;rw [if_pos hk];rfl)
 -- the first slot
 rcases Nat.eq_zero_or_pos x.slots.length with hz | hz
 ·have hnil : x.slots = []:=List.length_eq_zero_iff.1 hz
  rw [hz]
  simp only [show decide ((0 : Int) < ((0 : Nat) : Int)) = false by decide,rs,g_un]
  refine rest ho ?_
  rw [hR,hnil];rfl
 have hz' : (0 : Int) < (x.slots.length : Int):=by omega
 obtain⟨g,off,hr⟩:=slot_at hsl hz
 obtain⟨r1,r2⟩:=hr w3 (ho.hasM 1 rfl)
 have hR : Tl.refuse x.slots x.trailer = if (decide (x.slots[0].num = 0) && (decide (x.slots[0].kind≠0) || decide (x.slots[0].b≠65535))) = true then 1 else if Vl.check 1 x.trailer≠0 then Vl.check 1 x.trailer else if x.trailer.k≠7 then 10 else 0:=by
  rw [hR]
  rw [Tl.firstBad_cons hz]
 have ia : ∀ {PK : List PanicEntry→World→Prop} {K : Value→World→Prop},DoX Tryz.prog (mIA 23 vs (.int .i64 0)) w3 PK K = K (.pointer (some ⟨g,off,none⟩)) w3:=do_eq r1
 have l0 : ∀ {PK : List PanicEntry→World→Prop} {K : Value→World→Prop},DoX Tryz.prog (mLoad 3 (.pointer (some ⟨g,off,none⟩))) w3 PK K = K (.int .i64 x.slots[0].num) w3:=l_cell nInt5 (r2 0 _ rfl)
 have l1 : ∀ {PK : List PanicEntry→World→Prop} {K : Value→World→Prop},DoX Tryz.prog (mLoad 3 (.pointer (some ⟨g,off + 1,none⟩))) w3 PK K = K (.int .i64 x.slots[0].kind) w3:=l_cell nInt5 (r2 1 _ rfl)
 have l3 : ∀ {PK : List PanicEntry→World→Prop} {K : Value→World→Prop},DoX Tryz.prog (mLoad 3 (.pointer (some ⟨g,off + 3,none⟩))) w3 PK K = K (.int .i64 x.slots[0].b) w3:=l_cell nInt5 (r2 3 _ rfl)
 generalize x.slots[0] = y at *
 by_cases h0 : y.num = 0
 case neg =>
  simp only [decide_eq_true hz',rs,fa_se1,se_sl ho 0 rfl,ia,fa_s0',l0,decide_eq_false h0,g_un]
  have hr':=rest ho (by rw [hR,if_neg (by simp [h0])])
  simp only [rs,fa_se1,se_sl ho 0 rfl] at hr'
  exact hr'
 by_cases h1 : y.kind = 0
 case neg =>
  simp only [decide_eq_true hz',rs,fa_se1,se_sl ho 0 rfl,ia,fa_s0',l0,decide_eq_true h0,fa_s1',l1,decide_eq_true (show y.kind≠0 from h1),g_un]
  exact fin (L:=[_]) ho (by omega) (by rw [hR,if_pos (by simp [h0,h1])])
 by_cases h3 : y.b = 65535
 ·simp only [decide_eq_true hz',rs,fa_se1,se_sl ho 0 rfl,ia,fa_s0',l0,decide_eq_true h0,fa_s1',l1,h1,fa_s3',l3,h3,show decide ((0 : Int)≠0) = false by decide,show decide ((65535 : Int)≠65535) = false by decide,g_un]
  have hr':=rest ho (by rw [hR,if_neg (by simp [h1,h3])])
  simp only [rs,fa_se1,se_sl ho 0 rfl] at hr'
  exact hr'
 ·simp only [decide_eq_true hz',rs,fa_se1,se_sl ho 0 rfl,ia,fa_s0',l0,decide_eq_true h0,fa_s1',l1,h1,fa_s3',l3,decide_eq_true (show y.b≠65535 from h3),show decide ((0 : Int)≠0) = false by decide,g_un]
  exact fin (L:=[_]) ho (by omega) (by rw [hR,if_pos (by simp [h0,h1,h3])])
end Go.Proofs.YtjloddgofmdmgaaGreatDoor
namespace Go.Proofs.YtjloddgofmdmgaaGreatDoor
set_option maxRecDepth 20000
open Eng Go.RowKit
theorem eqSl : eqT Tryz.prog 49 [(0,false),(1,false),(2,false),(3,false)]:=⟨by kernel_rfl,by kernel_rfl,by kernel_rfl,by kernel_rfl⟩
theorem sl_beq (x y : Slt) : ([(0,false),(1,false),(2,false),(3,false)] : List (Nat × Bool)).all (fun p => cellEq (slC x).toArray[p.1]? (slC y).toArray[p.1]?) = decide (x = y):=by
 have e : ([(0,false),(1,false),(2,false),(3,false)] : List (Nat × Bool)).all (fun p => cellEq (slC x).toArray[p.1]? (slC y).toArray[p.1]?) = ((x.num == y.num) && ((x.kind == y.kind) && ((x.a == y.a) && ((x.b == y.b) && true)))):=rfl
 rw [e,Bool.eq_iff_iff]
 obtain⟨a,b,c,d⟩:=x
 obtain⟨a',b',c',d'⟩:=y
 simp
theorem e_slt {w : World} {PK : List PanicEntry→World→Prop} {K : Value→World→Prop} {xo yo : Operand} {x y : Slt} : DoX Tryz.prog (mEq .eql 49 xo yo (slV x) (slV y)) w PK K = K (.bool (decide (x = y))) w:=by
 refine do_eq ?_
 rw [← sl_beq];exact run_eql_agg eqSl rfl
end Go.Proofs.YtjloddgofmdmgaaGreatDoor
namespace Go.Proofs.YtjloddgofmdmgaaGreatDoor
open Go
namespace Tl
def smpA : List UInt8:=[120,114,101,102,13,10,48,32,49,10,48,48,48,48,48,48,48,48,48,48,32,54,53,53,51,53,32,102,32,10,116,114,97,105,108,101,114,60,60,62,62,120]
def smpB : List UInt8:=[120,114,101,102,32,48,32,49,32,48,32,48,32,110,32,48,32,49,32,48,32,48,32,110,32,116,114,97,105,108,101,114,60,60,62,62]
def smpT : List UInt8:=[120,114,101,102,10,51,32,49,10,48,48,48,48,48,48,48,48,49,53,32,48,48,48,48,48,32,110,32,10,116,114,97,105,108,101,114,10,60,60,62,62,10]
theorem smp1 : (read smpA 0).2 = (41,0):=by decide +kernel
theorem smp2 : (read smpA 0).1.slots = [⟨0,0,0,65535⟩]∧(read smpA 0).1.prev = -1∧(read smpA 0).1.hybrid = -1:=by decide +kernel
theorem smp3 : (read smpA 1).2.2 = 19:=by decide +kernel
theorem smp4 : (read smpB 0).2.2 = 19:=by decide +kernel
theorem smp5 : text [⟨3,1,15,0⟩] (.mk 7 0 0 [] [] []) = (smpT,0):=by decide +kernel
theorem smp6 : runs [⟨0,0,0,0⟩,⟨1,0,0,0⟩,⟨3,0,0,0⟩] = [(0,2),(3,1)]:=by decide +kernel
theorem smp7 : (text [⟨0,0,0,0⟩] (.mk 7 0 0 [] [] [])).2 = 1:=by decide +kernel
theorem smp8 : check [⟨2,0,0,0⟩,⟨1,0,0,0⟩] = 1:=by decide +kernel
end Tl
end Go.Proofs.YtjloddgofmdmgaaGreatDoor
namespace Go.Proofs.YtjloddgofmdmgaaGreatDoor
set_option maxRecDepth 20000
open Eng
def S_foliantlaw18_lives (w : World) (K : Ending→World→Prop) : Prop:=
 CallX Tryz.prog 8 #[(.string ⟨#[120,114,101,102,13,10,48,32,49,10,48,48,48,48,48,48,48,48,48,48,32,54,53,53,51,53,32,102,32,10,116,114,97,105,108,101,114,60,60,62,62,120]⟩),(.int .i64 0)] w (pk K) fun t18 w =>
 DoX Tryz.prog (mExt t18 0) w (pk K) fun t19 w =>
 DoX Tryz.prog (mExt t18 1) w (pk K) fun t20 w =>
 DoX Tryz.prog (mExt t18 2) w (pk K) fun t21 w =>
 DoX Tryz.prog (mAlloc 29) w (pk K) fun t2 w =>
 DoX Tryz.prog (mStore 29 t2 t19) w (pk K) fun _ w =>
 CallX Tryz.prog 8 #[(.string ⟨#[120,114,101,102,13,10,48,32,49,10,48,48,48,48,48,48,48,48,48,48,32,54,53,53,51,53,32,102,32,10,116,114,97,105,108,101,114,60,60,62,62,120]⟩),(.int .i64 1)] w (pk K) fun t24 w =>
 DoX Tryz.prog (mExt t24 0) w (pk K) fun t25 w =>
 DoX Tryz.prog (mExt t24 1) w (pk K) fun t26 w =>
 DoX Tryz.prog (mExt t24 2) w (pk K) fun t27 w =>
 DoX Tryz.prog (mAlloc 29) w (pk K) fun t5 w =>
 DoX Tryz.prog (mStore 29 t5 t25) w (pk K) fun _ w =>
 CallX Tryz.prog 8 #[(.string ⟨#[120,114,101,102,32,48,32,49,32,48,32,48,32,110,32,48,32,49,32,48,32,48,32,110,32,116,114,97,105,108,101,114,60,60,62,62]⟩),(.int .i64 0)] w (pk K) fun t29 w =>
 DoX Tryz.prog (mExt t29 0) w (pk K) fun t30 w =>
 DoX Tryz.prog (mExt t29 1) w (pk K) fun t31 w =>
 DoX Tryz.prog (mExt t29 2) w (pk K) fun t32 w =>
 DoX Tryz.prog (mAlloc 29) w (pk K) fun t8 w =>
 DoX Tryz.prog (mStore 29 t8 t30) w (pk K) fun _ w =>
 DoX Tryz.prog (mBuild 49 #[(0,(.int .i64 3)),(1,(.int .i64 1)),(2,(.int .i64 15))]) w (pk K) fun t34 w =>
 DoX Tryz.prog (mBuildS 23 1 #[(0,t34)]) w (pk K) fun t35 w =>
 DoX Tryz.prog (mBuild 27 #[(0,(.int .i64 7))]) w (pk K) fun t36 w =>
 DoX Tryz.prog (mBuild 29 #[(1,t35),(2,t36)]) w (pk K) fun t37 w =>
 CallX Tryz.prog 12 #[t37] w (pk K) fun t38 w =>
 DoX Tryz.prog (mExt t38 0) w (pk K) fun t39 w =>
 DoX Tryz.prog (mExt t38 1) w (pk K) fun t40 w =>
 DoX Tryz.prog (mBuild 49 #[(0,(.int .i64 0))]) w (pk K) fun t41 w =>
 DoX Tryz.prog (mBuild 49 #[(0,(.int .i64 1))]) w (pk K) fun t42 w =>
 DoX Tryz.prog (mBuild 49 #[(0,(.int .i64 3))]) w (pk K) fun t43 w =>
 DoX Tryz.prog (mBuildS 23 3 #[(0,t41),(1,t42),(2,t43)]) w (pk K) fun t44 w =>
 CallX Tryz.prog 14 #[t44] w (pk K) fun t45 w =>
 DoX Tryz.prog (mBuild 49 #[]) w (pk K) fun t47 w =>
 DoX Tryz.prog (mBuildS 23 1 #[(0,t47)]) w (pk K) fun t48 w =>
 DoX Tryz.prog (mBuild 27 #[(0,(.int .i64 7))]) w (pk K) fun t49 w =>
 DoX Tryz.prog (mBuild 29 #[(1,t48),(2,t49)]) w (pk K) fun t50 w =>
 CallX Tryz.prog 12 #[t50] w (pk K) fun t51 w =>
 DoX Tryz.prog (mExt t51 0) w (pk K) fun t52 w =>
 DoX Tryz.prog (mExt t51 1) w (pk K) fun t53 w =>
 DoX Tryz.prog (mEq .eql 30 (.tmp 54) (.const (.int .i64 0)) t21 (.int .i64 0)) w (pk K) fun t55 w =>
 GDo t55 true (fun E => E t20 w) w fun t57 w =>
 GDo t55 true (fun E => E (.string ⟨#[120,114,101,102,13,10,48,32,49,10,48,48,48,48,48,48,48,48,48,48,32,54,53,53,51,53,32,102,32,10,116,114,97,105,108,101,114,60,60,62,62,120]⟩) w) w fun t58 w =>
 GDo t55 true (fun E => DoX Tryz.prog (mB .len #[9] 3 #[false] #[t58]) w (pk K) E) w fun t59 w =>
 GDo t55 true (fun E => DoX Tryz.prog (mBin .sub 3 t59 (.int .i64 1)) w (pk K) E) w fun t60 w =>
 GDo t55 true (fun E => DoX Tryz.prog (mEq .eql 3 (.tmp 57) (.tmp 60) t57 t60) w (pk K) E) w fun t61 w =>
 DoX Tryz.prog (mPick t55 t61 (.bool false)) w (pk K) fun t62 w =>
 GDo t62 true (fun E => DoX Tryz.prog (mFA 29 t2 1) w (pk K) E) w fun t64 w =>
 GDo t62 true (fun E => DoX Tryz.prog (mLoad 23 t64) w (pk K) E) w fun t65 w =>
 GDo t62 true (fun E => DoX Tryz.prog (mB .len #[23] 3 #[false] #[t65]) w (pk K) E) w fun t66 w =>
 GDo t62 true (fun E => DoX Tryz.prog (mEq .eql 3 (.tmp 66) (.const (.int .i64 1)) t66 (.int .i64 1)) w (pk K) E) w fun t67 w =>
 DoX Tryz.prog (mPick t62 t67 (.bool false)) w (pk K) fun t68 w =>
 GDo t68 true (fun E => DoX Tryz.prog (mFA 29 t2 1) w (pk K) E) w fun t70 w =>
 GDo t68 true (fun E => DoX Tryz.prog (mLoad 23 t70) w (pk K) E) w fun t71 w =>
 GDo t68 true (fun E => DoX Tryz.prog (mIA 23 t71 (.int .i64 0)) w (pk K) E) w fun t72 w =>
 GDo t68 true (fun E => DoX Tryz.prog (mLoad 49 t72) w (pk K) E) w fun t73 w =>
 GDo t68 true (fun E => DoX Tryz.prog (mBuild 49 #[(3,(.int .i64 65535))]) w (pk K) E) w fun t74 w =>
 GDo t68 true (fun E => DoX Tryz.prog (mEq .eql 49 (.tmp 73) (.tmp 74) t73 t74) w (pk K) E) w fun t75 w =>
 DoX Tryz.prog (mPick t68 t75 (.bool false)) w (pk K) fun t76 w =>
 GDo t76 true (fun E => DoX Tryz.prog (mFA 29 t2 3) w (pk K) E) w fun t78 w =>
 GDo t76 true (fun E => DoX Tryz.prog (mLoad 3 t78) w (pk K) E) w fun t79 w =>
 GDo t76 true (fun E => DoX Tryz.prog (mEq .eql 3 (.tmp 79) (.const (.int .i64 (-1))) t79 (.int .i64 (-1))) w (pk K) E) w fun t80 w =>
 DoX Tryz.prog (mPick t76 t80 (.bool false)) w (pk K) fun t81 w =>
 GDo t81 true (fun E => DoX Tryz.prog (mFA 29 t2 4) w (pk K) E) w fun t83 w =>
 GDo t81 true (fun E => DoX Tryz.prog (mLoad 3 t83) w (pk K) E) w fun t84 w =>
 GDo t81 true (fun E => DoX Tryz.prog (mEq .eql 3 (.tmp 84) (.const (.int .i64 (-1))) t84 (.int .i64 (-1))) w (pk K) E) w fun t85 w =>
 DoX Tryz.prog (mPick t81 t85 (.bool false)) w (pk K) fun t86 w =>
 GDo t86 true (fun E => E t27 w) w fun t88 w =>
 GDo t86 true (fun E => DoX Tryz.prog (mEq .eql 30 (.tmp 88) (.const (.int .i64 19)) t88 (.int .i64 19)) w (pk K) E) w fun t89 w =>
 DoX Tryz.prog (mPick t86 t89 (.bool false)) w (pk K) fun t90 w =>
 GDo t90 true (fun E => E t32 w) w fun t92 w =>
 GDo t90 true (fun E => DoX Tryz.prog (mEq .eql 30 (.tmp 92) (.const (.int .i64 19)) t92 (.int .i64 19)) w (pk K) E) w fun t93 w =>
 DoX Tryz.prog (mPick t90 t93 (.bool false)) w (pk K) fun t94 w =>
 GDo t94 true (fun E => E t40 w) w fun t96 w =>
 GDo t94 true (fun E => DoX Tryz.prog (mEq .eql 30 (.tmp 96) (.const (.int .i64 0)) t96 (.int .i64 0)) w (pk K) E) w fun t97 w =>
 DoX Tryz.prog (mPick t94 t97 (.bool false)) w (pk K) fun t98 w =>
 GDo t98 true (fun E => E t39 w) w fun t100 w =>
 GDo t98 true (fun E => DoX Tryz.prog (mEq .eql 9 (.tmp 100) (.const (.string ⟨#[120,114,101,102,10,51,32,49,10,48,48,48,48,48,48,48,48,49,53,32,48,48,48,48,48,32,110,32,10,116,114,97,105,108,101,114,10,60,60,62,62,10]⟩)) t100 (.string ⟨#[120,114,101,102,10,51,32,49,10,48,48,48,48,48,48,48,48,49,53,32,48,48,48,48,48,32,110,32,10,116,114,97,105,108,101,114,10,60,60,62,62,10]⟩)) w (pk K) E) w fun t101 w =>
 DoX Tryz.prog (mPick t98 t101 (.bool false)) w (pk K) fun t102 w =>
 GDo t102 true (fun E => E t45 w) w fun t104 w =>
 GDo t102 true (fun E => DoX Tryz.prog (mB .len #[38] 3 #[false] #[t104]) w (pk K) E) w fun t105 w =>
 GDo t102 true (fun E => DoX Tryz.prog (mEq .eql 3 (.tmp 105) (.const (.int .i64 2)) t105 (.int .i64 2)) w (pk K) E) w fun t106 w =>
 DoX Tryz.prog (mPick t102 t106 (.bool false)) w (pk K) fun t107 w =>
 GDo t107 true (fun E => E t45 w) w fun t109 w =>
 GDo t107 true (fun E => DoX Tryz.prog (mIA 38 t109 (.int .i64 0)) w (pk K) E) w fun t110 w =>
 GDo t107 true (fun E => DoX Tryz.prog (mLoad 40 t110) w (pk K) E) w fun t111 w =>
 GDo t107 true (fun E => DoX Tryz.prog (mBuild 40 #[(0,(.int .i64 0)),(1,(.int .i64 2))]) w (pk K) E) w fun t112 w =>
 GDo t107 true (fun E => DoX Tryz.prog (mEq .eql 40 (.tmp 111) (.tmp 112) t111 t112) w (pk K) E) w fun t113 w =>
 DoX Tryz.prog (mPick t107 t113 (.bool false)) w (pk K) fun t114 w =>
 GDo t114 true (fun E => E t45 w) w fun t116 w =>
 GDo t114 true (fun E => DoX Tryz.prog (mIA 38 t116 (.int .i64 1)) w (pk K) E) w fun t117 w =>
 GDo t114 true (fun E => DoX Tryz.prog (mLoad 40 t117) w (pk K) E) w fun t118 w =>
 GDo t114 true (fun E => DoX Tryz.prog (mBuild 40 #[(0,(.int .i64 3)),(1,(.int .i64 1))]) w (pk K) E) w fun t119 w =>
 GDo t114 true (fun E => DoX Tryz.prog (mEq .eql 40 (.tmp 118) (.tmp 119) t118 t119) w (pk K) E) w fun t120 w =>
 DoX Tryz.prog (mPick t114 t120 (.bool false)) w (pk K) fun t121 w =>
 GDo t121 true (fun E => E t53 w) w fun t123 w =>
 GDo t121 true (fun E => DoX Tryz.prog (mEq .eql 30 (.tmp 123) (.const (.int .i64 1)) t123 (.int .i64 1)) w (pk K) E) w fun t124 w =>
 DoX Tryz.prog (mPick t121 t124 (.bool false)) w (pk K) fun t125 w =>
 GDo t125 true (fun E => DoX Tryz.prog (mBuild 49 #[(0,(.int .i64 2))]) w (pk K) E) w fun t127 w =>
 GDo t125 true (fun E => DoX Tryz.prog (mBuild 49 #[(0,(.int .i64 1))]) w (pk K) E) w fun t128 w =>
 GDo t125 true (fun E => DoX Tryz.prog (mBuildS 23 2 #[(0,t127),(1,t128)]) w (pk K) E) w fun t129 w =>
 GDo t125 true (fun E => CallX Tryz.prog 16 #[t129] w (pk K) E) w fun t130 w =>
 GDo t125 true (fun E => DoX Tryz.prog (mEq .eql 30 (.tmp 130) (.const (.int .i64 1)) t130 (.int .i64 1)) w (pk K) E) w fun t131 w =>
 DoX Tryz.prog (mPick t125 t131 (.bool false)) w (pk K) fun t132 w =>
 K (.returned t132) w
theorem S_foliantlaw18_lives_eq (w : World) (K : Ending→World→Prop) : wpX Tryz.prog 133 [] [] none (bodyOf Tryz.f7) (topQ Tryz.prog [.tmp 0] K) (startX []) [] w = S_foliantlaw18_lives w K:=by kernel_rfl
theorem S_foliantlaw18_lives_ok {w : World} {K : Ending→World→Prop} (h : S_foliantlaw18_lives w K) : Calls Tryz.prog 7 #[] w K:=
 calls_of_wpX Tryz.func7 rfl rfl rfl rfl (Eq.mpr (S_foliantlaw18_lives_eq w K) h)
def S_foliantlaw18_TableTexts_0 (t1 t3 t4 t5 t6 t7 t8 t9 : Value) (w : World) (N2 : List Value→World→Prop) (K : Ending→World→Prop) : Prop:=
 DoX Tryz.prog (mB .len #[38] 3 #[false] #[t7]) w (pk K) fun t44 w =>
 DoX Tryz.prog (mBin .lss 3 t9 t44) w (pk K) fun t45 w =>
 IfX t45 (QuietX w (fun C3 =>
 QDo Tryz.prog C3 (mIA 38 t7 t9) fun t50 =>
 QDo Tryz.prog C3 (mLoad 40 t50) fun t51 =>
 QDo Tryz.prog C3 (mIA 38 t8 t9) fun t54 =>
 QDo Tryz.prog C3 (mLoad 40 t54) fun t55 =>
 QDo Tryz.prog C3 (mEq .neq 40 (.tmp 51) (.tmp 55) t51 t55) fun t56 =>
 ∀ w,C3 w →
 IfX t56 (K (.returned (.bool false)) w) (DoX Tryz.prog (mBin .add 3 t9 (.int .i64 1)) w (pk K) fun t47 w =>
 N2 [t47] w))) (QuietX w (fun C4 =>
 QDo Tryz.prog C4 (mEq .eql 9 (.tmp 57) (.tmp 58) t3 t5) fun t59 =>
 GQ t59 true (fun E => E t4) fun t61 =>
 GQ t59 true (fun E => E t6) fun t62 =>
 GQ t59 true (fun E => QDo Tryz.prog C4 (mEq .eql 30 (.tmp 61) (.tmp 62) t61 t62) E) fun t63 =>
 QDo Tryz.prog C4 (mPick t59 t63 (.bool false)) fun t64 =>
 GQ t64 true (fun E => QDo Tryz.prog C4 (mFA 29 t1 1) E) fun t66 =>
 GQ t64 true (fun E => QDo Tryz.prog C4 (mLoad 23 t66) E) fun t67 =>
 GQ t64 true (fun E => QCall Tryz.prog C4 16 #[t67] E) fun t68 =>
 GQ t64 true (fun E => QDo Tryz.prog C4 (mFA 29 t1 1) E) fun t69 =>
 GQ t64 true (fun E => QDo Tryz.prog C4 (mLoad 23 t69) E) fun t70 =>
 GQ t64 true (fun E => QCall Tryz.prog C4 17 #[t70] E) fun t71 =>
 GQ t64 true (fun E => QDo Tryz.prog C4 (mEq .eql 30 (.tmp 68) (.tmp 71) t68 t71) E) fun t72 =>
 QDo Tryz.prog C4 (mPick t64 t72 (.bool false)) fun t73 =>
 GQ t73 true (fun E => QCall Tryz.prog C4 7 #[] E) fun t75 =>
 QDo Tryz.prog C4 (mPick t73 t75 (.bool false)) fun t76 =>
 ∀ w,C4 w →
 K (.returned t76) w))
def S_foliantlaw18_TableTexts (t0 : Value) (w : World) (K : Ending→World→Prop) : Prop:=
 DoX Tryz.prog (mBox 29 t0) w (pk K) fun t1 w =>
 DoX Tryz.prog (mFA 29 t1 1) w (pk K) fun t10 w =>
 DoX Tryz.prog (mLoad 23 t10) w (pk K) fun t11 w =>
 DoX Tryz.prog (mB .len #[23] 3 #[false] #[t11]) w (pk K) fun t12 w =>
 DoX Tryz.prog (mBin .gtr 3 t12 (.int .i64 40)) w (pk K) fun t13 w =>
 GDo t13 false (fun E => DoX Tryz.prog (mFA 29 t1 2) w (pk K) E) w fun t15 w =>
 GDo t13 false (fun E => DoX Tryz.prog (mLoad 27 t15) w (pk K) E) w fun t16 w =>
 GDo t13 false (fun E => CallX Tryz.prog 11 #[t16] w (pk K) E) w fun t17 w =>
 GDo t13 false (fun E => DoX Tryz.prog (mBin .gtr 3 t17 (.int .i64 400)) w (pk K) E) w fun t18 w =>
 DoX Tryz.prog (mPick t13 (.bool true) t18) w (pk K) fun t19 w =>
 IfX t19 (CallX Tryz.prog 7 #[] w (pk K) fun t20 w =>
 K (.returned t20) w) (DoX Tryz.prog (mLoad 29 t1) w (pk K) fun t22 w =>
 CallX Tryz.prog 12 #[t22] w (pk K) fun t23 w =>
 DoX Tryz.prog (mExt t23 0) w (pk K) fun t24 w =>
 DoX Tryz.prog (mExt t23 1) w (pk K) fun t25 w =>
 DoX Tryz.prog (mLoad 29 t1) w (pk K) fun t27 w =>
 CallX Tryz.prog 13 #[t27] w (pk K) fun t28 w =>
 DoX Tryz.prog (mExt t28 0) w (pk K) fun t29 w =>
 DoX Tryz.prog (mExt t28 1) w (pk K) fun t30 w =>
 HeldX w (fun S1 w =>
 HDo Tryz.prog S1 (mFA 29 t1 1) fun t31 =>
 HDo Tryz.prog S1 (mLoad 23 t31) fun t32 =>
 HDo Tryz.prog S1 (mFA 29 t1 1) fun t34 =>
 HDo Tryz.prog S1 (mLoad 23 t34) fun t35 =>
 CallX Tryz.prog 14 #[t32] w (pm1 (pm1 (pm1 (pm1 (pm1 (pm1 (pk K))))))) fun t33 w =>
 S1 w∧(CallX Tryz.prog 15 #[t35] w (pm1 (pm1 (pm1 (pm1 (pm1 (pm1 (pk K))))))) fun t36 w =>
 S1 w∧(DoX Tryz.prog (mB .len #[38] 3 #[false] #[t33]) w (pk K) fun t38 w =>
 DoX Tryz.prog (mB .len #[38] 3 #[false] #[t36]) w (pk K) fun t40 w =>
 DoX Tryz.prog (mEq .neq 3 (.tmp 38) (.tmp 40) t38 t40) w (pk K) fun t41 w =>
 IfX t41 (K (.returned (.bool false)) w) (LoopX [(.int .i64 0)] w (fun vs2 w N2 => ∀ _ : Sg,S_foliantlaw18_TableTexts_0 t1 t24 t25 t29 t30 t33 t36 (vs2.getD 0 undef) w N2 K))))))
theorem S_foliantlaw18_TableTexts_eq (t0 : Value) (w : World) (K : Ending→World→Prop) : wpX Tryz.prog 77 [] [(9,[9])] none (bodyOf Tryz.f4) (topQ Tryz.prog [.tmp 2] K) (startX [t0]) [] w = S_foliantlaw18_TableTexts t0 w K:=by kernel_rfl
theorem S_foliantlaw18_TableTexts_ok {t0 : Value} {w : World} {K : Ending→World→Prop} (h : S_foliantlaw18_TableTexts t0 w K) : Calls Tryz.prog 4 #[t0] w K:=
 calls_of_wpX Tryz.func4 rfl rfl rfl rfl (Eq.mpr (S_foliantlaw18_TableTexts_eq t0 w K) h)
end Go.Proofs.YtjloddgofmdmgaaGreatDoor
namespace Go.Proofs.YtjloddgofmdmgaaGreatDoor
set_option maxRecDepth 20000
open Eng Go.RowKit
section
variable {w : World} {PK : List PanicEntry→World→Prop} {K : Value→World→Prop} {S : Nat→Prop} {w0 : World} {L : List Ent}
theorem m_slA {n k a : Int} : DoX Tryz.prog (mBuild 49 #[(0,.int .i64 n),(1,.int .i64 k),(2,.int .i64 a)]) w PK K = K (slV ⟨n,k,a,0⟩) w:=do_eq (by kernel_rfl)
theorem m_slN {n : Int} : DoX Tryz.prog (mBuild 49 #[(0,.int .i64 n)]) w PK K = K (slV ⟨n,0,0,0⟩) w:=do_eq (by kernel_rfl)
theorem m_slB {b : Int} : DoX Tryz.prog (mBuild 49 #[(3,.int .i64 b)]) w PK K = K (slV ⟨0,0,0,b⟩) w:=do_eq (by kernel_rfl)
theorem m_seT {b n c : Nat} {l : List Slt} : DoX Tryz.prog (mBuild 29 #[(1,.slice (some ⟨b,0,none⟩) n c),(2,obV (.mk 7 0 0 [] [] []) nilS nilS)]) w PK K = K (secV ⟨0,l,.mk 7 0 0 [] [] [],0,0,0⟩ (.slice (some ⟨b,0,none⟩) n c) nilS nilS) w:=do_eq (by kernel_rfl)
theorem e_rn {xo yo : Operand} {p q : Int × Int} : DoX Tryz.prog (mEq .eql 40 xo yo (rnV p) (rnV q)) w PK K = K (.bool (decide (p = q))) w:=by
 refine do_eq ?_
 have:=run_eql_arr2 arr2 (w:=w) (xo:=xo) (yo:=yo) (a:=p.1) (b:=p.2) (c:=q.1) (e:=q.2)
 rw [show (decide (p = q)) = (decide (p.1 = q.1) && decide (p.2 = q.2)) by
  obtain⟨a,b⟩:=p
  obtain⟨c,d⟩:=q
  simp [Bool.eq_iff_iff]]
 exact this
theorem r_rnne {xo yo : Operand} {p q : Int × Int} : (mEq .neq 40 xo yo (rnV p) (rnV q)).run Tryz.prog w = .ok (.value (.bool (!decide (p = q)))) w:=by
 have:=run_neq_arr2 arr2 (w:=w) (xo:=xo) (yo:=yo) (a:=p.1) (b:=p.2) (c:=q.1) (e:=q.2)
 rw [show (decide (p = q)) = (decide (p.1 = q.1) && decide (p.2 = q.2)) by
  obtain⟨a,b⟩:=p
  obtain⟨c,d⟩:=q
  simp [Bool.eq_iff_iff]]
 exact this
theorem o_slsM {m : Sem Next} (l : List Slt) (i : Nat) {M : Mem} (hm : ∀ w,m.run Tryz.prog w = .ok (.value (.slice (some ⟨w.heap.size,0,none⟩) l.length l.length)) (w.alloc (.cells (slsC l).toArray 49))) (ho : OwnS S w0 w L) (hi : L[i]? = some (.mem M)) (hb : l.length≤1000)
  (k : ∀ (b : Nat) (N : Mem) (w' : World),M.le N→SlA N.A N.w (.slice (some ⟨b,0,none⟩) l.length l.length) 4 l.length (slsC l)→OwnS S w0 w' (L.set i (.mem N))→K (.slice (some ⟨b,0,none⟩) l.length l.length) w') : DoX Tryz.prog m w PK K:=by
 refine o_new (fun b => .slice (some ⟨b,0,none⟩) l.length l.length) (slsC l) 49 hm ho fun b w1 ho => ?_
 have ho:=OwnS.toU ho 4 l.length l.length (Eng.flat_len slC_len l) (Nat.le_refl _) (by omega)
 rw [← Eng.flat_len slC_len l,List.take_length] at ho
 obtain⟨N,hle,hrow,ho⟩:=OwnS.freezeU ho i hi
 exact k b N w1 hle hrow ho
end
theorem dict0_ov {A : Nat→Prop} {w : World} : OV A w (obV (.mk 7 0 0 [] [] []) nilS nilS) (.mk 7 0 0 [] [] []):=by
 rw [OV]
 exact⟨nilS,nilS,[],rfl,SlA.nil _ _ _ _,SlA.nil _ _ _ _,rfl⟩
theorem lives18_ret (w : World) (ht : Tb w) : Ret Tryz.prog 7 #[] w (fun v w' => v = .bool true∧Below w.heap.size w w'):=by
 refine ret_of fun K hK => S_foliantlaw18_lives_ok ?_
 unfold S_foliantlaw18_lives
 have hM : (Mem.all w).has w:=Mem.all_has w
 have s1:=Tl.smp1
 have s2:=Tl.smp2
 have s3:=Tl.smp3
 have s4:=Tl.smp4
 refine c_mem (OwnS.memS hM) 0 rfl (tread_ret Tl.smpA 0 (Mem.all w) w (by decide) hM) ?_
 rintro _ N1 w1 h1 ⟨_,rfl,vs,vk,vc,rfl,hsl,hov⟩ ho
 have ho : OwnS (Mem.all w).A w w1 [.mem N1]:=ho
 rw [s1]
 simp only [ex]
 refine o_sea ho fun b2 w2 ho => ?_
 refine se_put (y:=(Tl.read Tl.smpA 0).1) 0 hsl.one hov.oneK hov.oneC ho rfl fun w3 ho => ?_
 have ho : OwnS (Mem.all w).A w w3 [secE b2 (Tl.read Tl.smpA 0).1 vs vk vc,.mem N1]:=ho
 refine c_mem ho 1 rfl (tread_ret Tl.smpA 1 N1 w3 (by decide) (ho.hasM 1 rfl)) ?_
 rintro _ N2 w4 h2 ⟨_,rfl,us,uk,uc,rfl,hsl2,hov2⟩ ho
 simp only [ex]
 refine o_sea ho fun b5 w5 ho => ?_
 refine se_put (y:=(Tl.read Tl.smpA 1).1) 0 hsl2.one hov2.oneK hov2.oneC ho rfl fun w6 ho => ?_
 have ho : OwnS (Mem.all w).A w w6 [secE b2 (Tl.read Tl.smpA 0).1 vs vk vc,.mem N2]:=ho.tail
 refine c_mem ho 1 rfl (tread_ret Tl.smpB 0 N2 w6 (by decide) (ho.hasM 1 rfl)) ?_
 rintro _ N3 w7 h3 ⟨_,rfl,xs,xk,xc,rfl,hsl3,hov3⟩ ho
 simp only [ex]
 refine o_sea ho fun b8 w8 ho => ?_
 refine se_put (y:=(Tl.read Tl.smpB 0).1) 0 hsl3.one hov3.oneK hov3.oneC ho rfl fun w9 ho => ?_
 have ho : OwnS (Mem.all w).A w w9 [secE b2 (Tl.read Tl.smpA 0).1 vs vk vc,.mem N3]:=ho.tail
 rw [m_slA]
 refine o_slsM [⟨3,1,15,0⟩] 1 (fun _ => by kernel_rfl) ho rfl (by decide) fun b35 N4 w10 h4 hs4 ho => ?_
 have ho : OwnS (Mem.all w).A w w10 [secE b2 (Tl.read Tl.smpA 0).1 vs vk vc,.mem N4]:=ho
 rw [m_ob7,m_seT (l:=[⟨3,1,15,0⟩])]
 have hle4:=((h1.trans h2).trans h3).trans h4
 have tb : ∀ {W : World} {L : List Ent} {N : Mem} (i : Nat),OwnS (Mem.all w).A w W L→L[i]? = some (.mem N)→(Mem.all w).le N→Tb W:=fun i ho hi hle => ht.mono (ho.toGives i hi hle hM).below
 refine c_below ho (R:=fun v => v = txtV (Tl.text [⟨3,1,15,0⟩] (.mk 7 0 0 [] [] []))) (ttext_ret ⟨0,[⟨3,1,15,0⟩],.mk 7 0 0 [] [] [],0,0,0⟩ _ N4 w10 (tb 1 ho rfl hle4) (by decide) (fun y hy => by rcases List.mem_singleton.1 hy with rfl;decide) (by decide) (ho.hasM 1 rfl) ⟨_,nilS,nilS,rfl,hs4,dict0_ov⟩) ?_
 rintro _ w11 rfl ho
 rw [Tl.smp5]
 simp only [txtV,ex]
 rw [m_slN,m_slN,m_slN]
 refine o_slsM [⟨0,0,0,0⟩,⟨1,0,0,0⟩,⟨3,0,0,0⟩] 1 (fun _ => by kernel_rfl) ho rfl (by decide) fun b44 N5 w12 h5 hs5 ho => ?_
 have ho : OwnS (Mem.all w).A w w12 [secE b2 (Tl.read Tl.smpA 0).1 vs vk vc,.mem N5]:=ho
 refine c_mem ho 1 rfl (truns_ret _ _ N5 w12 (by decide) (fun y hy => by simp only [List.mem_cons,List.not_mem_nil,or_false] at hy;rcases hy with rfl | rfl | rfl<;>decide) (ho.hasM 1 rfl) hs5) ?_
 rintro rv N6 w13 h6 hrn ho
 have ho : OwnS (Mem.all w).A w w13 [secE b2 (Tl.read Tl.smpA 0).1 vs vk vc,.mem N6]:=ho
 unfold RnsV at hrn
 rw [Tl.smp6] at hrn
 rw [m_sl0]
 refine o_slsM [⟨0,0,0,0⟩] 1 (fun _ => by kernel_rfl) ho rfl (by decide) fun b48 N7 w14 h7 hs7 ho => ?_
 have ho : OwnS (Mem.all w).A w w14 [secE b2 (Tl.read Tl.smpA 0).1 vs vk vc,.mem N7]:=ho
 rw [m_ob7,m_seT (l:=[⟨0,0,0,0⟩])]
 have hle7:=((hle4.trans h5).trans h6).trans h7
 refine c_below ho (R:=fun v => v = txtV (Tl.text [⟨0,0,0,0⟩] (.mk 7 0 0 [] [] []))) (ttext_ret ⟨0,[⟨0,0,0,0⟩],.mk 7 0 0 [] [] [],0,0,0⟩ _ N7 w14 (tb 1 ho rfl hle7) (by decide) (fun y hy => by rcases List.mem_singleton.1 hy with rfl;decide) (by decide) (ho.hasM 1 rfl) ⟨_,nilS,nilS,rfl,hs7,dict0_ov⟩) ?_
 rintro _ w15 rfl ho
 simp only [txtV,ex]
 have e7 : (Tl.text [⟨0,0,0,0⟩] (.mk 7 0 0 [] [] [])).2 = 1:=Tl.smp7
 rw [e7,s3,s4]
 -- what is compared
 have hsl7 : SlA N7.A N7.w vs 4 (Tl.read Tl.smpA 0).1.slots.length (slsC (Tl.read Tl.smpA 0).1.slots):=hsl.le (((((h2.trans h3).trans h4).trans h5).trans h6).trans h7)
 rw [s2.1] at hsl7
 obtain⟨g1,o1,hr1⟩:=slot_at hsl7 (i:=0) (by decide)
 obtain⟨r1,r2⟩:=hr1 w15 (ho.hasM 1 rfl)
 have hrn7 : SlA N7.A N7.w rv 2 ([(0,2),(3,1)] : List (Int × Int)).length (rnsC [(0,2),(3,1)]):=hrn.le h7
 obtain⟨g2,o2,hr2⟩:=rn_at hrn7 (i:=0) (by decide)
 obtain⟨r3,r4⟩:=hr2 w15 (ho.hasM 1 rfl)
 obtain⟨g3,o3,hr3⟩:=rn_at hrn7 (i:=1) (by decide)
 obtain⟨r5,r6⟩:=hr3 w15 (ho.hasM 1 rfl)
 have i1 : ∀ {PK : List PanicEntry→World→Prop} {K : Value→World→Prop},DoX Tryz.prog (mIA 23 vs (.int .i64 0)) w15 PK K = K (.pointer (some ⟨g1,o1,none⟩)) w15:=do_eq r1
 have l1 : ∀ {PK : List PanicEntry→World→Prop} {K : Value→World→Prop},DoX Tryz.prog (mLoad 49 (.pointer (some ⟨g1,o1,none⟩))) w15 PK K = K (slV ⟨0,0,0,65535⟩) w15:=do_eq (run_slt r2)
 have i2 : ∀ {PK : List PanicEntry→World→Prop} {K : Value→World→Prop},DoX Tryz.prog (mIA 38 rv (.int .i64 0)) w15 PK K = K (.pointer (some ⟨g2,o2,none⟩)) w15:=do_eq r3
 have l2 : ∀ {PK : List PanicEntry→World→Prop} {K : Value→World→Prop},DoX Tryz.prog (mLoad 40 (.pointer (some ⟨g2,o2,none⟩))) w15 PK K = K (rnV (0,2)) w15:=do_eq (run_rn r4)
 have i3 : ∀ {PK : List PanicEntry→World→Prop} {K : Value→World→Prop},DoX Tryz.prog (mIA 38 rv (.int .i64 1)) w15 PK K = K (.pointer (some ⟨g3,o3,none⟩)) w15:=do_eq r5
 have l3 : ∀ {PK : List PanicEntry→World→Prop} {K : Value→World→Prop},DoX Tryz.prog (mLoad 40 (.pointer (some ⟨g3,o3,none⟩))) w15 PK K = K (rnV (3,1)) w15:=do_eq (run_rn r6)
 have n1 : ∀ {PK : List PanicEntry→World→Prop} {K : Value→World→Prop} {T : TypeId} {cb : Array Bool},DoX Tryz.prog (mB .len #[23] T cb #[vs]) w15 PK K = K (.int .i64 1) w15:=sl_len Tryz.underlying23 (hsl7.now (ho.hasM 1 rfl))
 have n2 : ∀ {PK : List PanicEntry→World→Prop} {K : Value→World→Prop} {T : TypeId} {cb : Array Bool},DoX Tryz.prog (mB .len #[38] T cb #[rv]) w15 PK K = K (.int .i64 2) w15:=sl_len Tryz.underlying38 (hrn7.now (ho.hasM 1 rfl))
 have p1 : ∀ {PK : List PanicEntry→World→Prop} {K : Value→World→Prop},DoX Tryz.prog (mLoad 3 (.pointer (some ⟨b2,8,none⟩))) w15 PK K = K (.int .i64 (-1)) w15:=by
  intro PK K
  have:=l_cell (P:=Tryz.prog) (PK:=PK) (K:=K) nInt5 (ho.cell 0 rfl 8 rfl)
  rw [s2.2.1] at this
  exact this
 have p2 : ∀ {PK : List PanicEntry→World→Prop} {K : Value→World→Prop},DoX Tryz.prog (mLoad 3 (.pointer (some ⟨b2,9,none⟩))) w15 PK K = K (.int .i64 (-1)) w15:=by
  intro PK K
  have:=l_cell (P:=Tryz.prog) (PK:=PK) (K:=K) nInt5 (ho.cell 0 rfl 9 rfl)
  rw [s2.2.2] at this
  exact this
 have n3 : ∀ {PK : List PanicEntry→World→Prop} {K : Value→World→Prop} {W : World} {T : TypeId} {cb : Array Bool},DoX Tryz.prog (mB .len #[9] T cb #[.string ⟨#[120,114,101,102,13,10,48,32,49,10,48,48,48,48,48,48,48,48,48,48,32,54,53,53,51,53,32,102,32,10,116,114,97,105,108,101,114,60,60,62,62,120]⟩]) W PK K = K (.int .i64 42) W:=s_len (a:=Tl.smpA) Tryz.underlying9
 have e1 : ∀ {PK : List PanicEntry→World→Prop} {K : Value→World→Prop} {W : World} {xo yo : Operand},DoX Tryz.prog (mEq .eql 9 xo yo (.string ⟨Tl.smpT.toArray⟩) (.string ⟨#[120,114,101,102,10,51,32,49,10,48,48,48,48,48,48,48,48,49,53,32,48,48,48,48,48,32,110,32,10,116,114,97,105,108,101,114,10,60,60,62,62,10]⟩)) W PK K = K (.bool true) W:=by
  intro PK K W xo yo
  have:=e_str (P:=Tryz.prog) (w:=W) (PK:=PK) (K:=K) (T:=9) (xo:=xo) (yo:=yo) (a:=Tl.smpT) (b:=Tl.smpT)
  rw [decide_eq_true rfl] at this
  exact this
 have w41 : IntKind.wrap .i64 (42 - 1) = 41:=by decide
 simp only [rs,decide_true,n3,w41,fa_se1,se_sl ho 0 rfl,n1,i1,l1,m_slB,e_slt,fa_se3,p1,fa_se4,p2,e1,n2,i2,l2,m_rn,e_rn,i3,l3,m_slN,eq_self]
 refine o_slsM [⟨2,0,0,0⟩,⟨1,0,0,0⟩] 1 (fun _ => by kernel_rfl) ho rfl (by decide) fun b129 N8 w16 h8 hs8 ho => ?_
 have ho : OwnS (Mem.all w).A w w16 [secE b2 (Tl.read Tl.smpA 0).1 vs vk vc,.mem N8]:=ho
 refine c_below ho (R:=fun v => v = .int .i64 (Tl.check [⟨2,0,0,0⟩,⟨1,0,0,0⟩])) (tcheck_ret _ _ N8 w16 (by decide) (ho.hasM 1 rfl) hs8) ?_
 rintro _ w17 rfl ho
 rw [Tl.smp8]
 simp only [rs,decide_true]
 exact hK _ _ ⟨rfl,(ho.toGives 1 rfl (hle7.trans h8) hM).below⟩
end Go.Proofs.YtjloddgofmdmgaaGreatDoor

namespace Go.Proofs.YtjloddgofmdmgaaGreatDoor
set_option maxRecDepth 20000
open Eng Go.RowKit
theorem tableTexts_ret (x : Sec) (v : Value) (W : World) (ht : Tb W) (hv : SecV (Mem.all W) v x) (hw : x.trailer.wt≤100000000) (hf : NumsI x.slots) (hlb : x.slots.length≤100000000) : Ret Tryz.prog 4 #[v] W (fun v w' => v = .bool true∧Below W.heap.size W w'):=by
 obtain⟨vs,vk,vc,rfl,hsl,hov⟩:=hv
 refine ret_of fun K hK => S_foliantlaw18_TableTexts_ok ?_
 unfold S_foliantlaw18_TableTexts
 have hM : (Mem.all W).has W:=Mem.all_has W
 refine o_seb x hsl.one hov.oneK hov.oneC (OwnS.memS hM) fun b1 w1 ho => ?_
 have ho : OwnS (Mem.all W).A W w1 [secE b1 x vs vk vc,.mem (Mem.all W)]:=ho
 have tb : ∀ {w : World} {L : List Ent} {N : Mem} (i : Nat),OwnS (Mem.all W).A W w L→L[i]? = some (.mem N)→(Mem.all W).le N→Tb w:=fun i ho hi hle => ht.mono (ho.toGives i hi hle hM).below
 have lives : ∀ {w : World} {N : Mem} {L : List Ent},OwnS (Mem.all W).A W w (L++([.mem N]++[]))→(Mem.all W).le N→CallX Tryz.prog 7 #[] w (pk K) fun t20 w => K (.returned t20) w:=by
  intro w N L ho hle
  have ho:=ho.front
  refine c_below ho (R:=fun v => v = .bool true) (lives18_ret w (tb 0 ho rfl hle)) ?_
  rintro _ w2 rfl ho
  exact hK _ _ ⟨rfl,(ho.toGives 0 rfl hle hM).below⟩
 rw [fa_se1,se_sl ho 0 rfl,sl_len Tryz.underlying23 (hsl.now (ho.hasM 1 rfl))]
 simp only [rs]
 by_cases hl : (40 : Int) < (x.slots.length : Int)
 ·simp only [decide_eq_true hl,rs,g_un]
  exact lives (L:=[_]) ho (Mem.all W).le_refl
 simp only [decide_eq_false hl,rs,fa_se2,se_tr ho 0 rfl]
 refine c_below ho (R:=fun v => v = .int .i64 (Vl.size x.trailer : Nat)) (rsize_ret _ x.trailer _ w1 (Nat.le_refl _) (OV.inw (ho.hasM 1 rfl) hov) (by omega)) ?_
 rintro _ w2 rfl ho
 by_cases hz : (400 : Int) < (Vl.size x.trailer : Nat)
 ·simp only [decide_eq_true hz,rs]
  exact lives (L:=[_]) ho (Mem.all W).le_refl
 simp only [decide_eq_false hz,rs]
 rw [se_v ho 0 rfl]
 refine c_below ho (R:=fun v => v = txtV (Tl.text x.slots x.trailer)) (ttext_ret x _ (Mem.all W) w2 (tb 1 ho rfl (Mem.all W).le_refl) (by omega) hf hw (ho.hasM 1 rfl) ⟨vs,vk,vc,rfl,hsl,hov⟩) ?_
 rintro _ w3 rfl ho
 simp only [txtV,ex]
 rw [se_v ho 0 rfl]
 refine c_below ho (R:=fun v => v = txtV (Tl.text x.slots x.trailer)) (rtext18_ret x _ (Mem.all W) w3 (by omega) hf hw (ho.hasM 1 rfl) ⟨vs,vk,vc,rfl,hsl,hov⟩) ?_
 rintro _ w4 rfl ho
 simp only [txtV,ex]
 have ho:=ho.drew
 refine⟨fun w => (secE b1 x vs vk vc).is w,ho.at_ 0 rfl,?_⟩
 refine hd_pure _ (fun _ => run_fa fse1) (hd_do vs (fun w h => run_load_cell nSls (cells_cell (T:=29) (cs:=secC x vs vk vc) (i:=1) h rfl)) ?_)
 refine hd_pure _ (fun _ => run_fa fse1) (hd_do vs (fun w h => run_load_cell nSls (cells_cell (T:=29) (cs:=secC x vs vk vc) (i:=1) h rfl)) ?_)
 refine c_mem ho 1 rfl (truns_ret x.slots vs (Mem.all W) _ (by omega) hf (ho.hasM 1 rfl) hsl) ?_
 rintro rv N1 w5 h1 hrn ho
 have ho : OwnS (Mem.all W).A W w5 [secE b1 x vs vk vc,.mem N1]:=ho
 refine⟨ho.at_ 0 rfl,?_⟩
 refine c_mem ho 1 rfl (rruns_ret x.slots vs N1 w5 (by omega) hf (ho.hasM 1 rfl) (hsl.le h1)) ?_
 rintro rv2 N2 w6 h2 hrn2 ho
 have ho : OwnS (Mem.all W).A W w6 [secE b1 x vs vk vc,.mem N2]:=ho
 refine⟨ho.at_ 0 rfl,?_⟩
 have hrn : SlA N2.A N2.w rv 2 (Tl.runs x.slots).length (rnsC (Tl.runs x.slots)):=SlA.le h2 hrn
 have hrn2 : SlA N2.A N2.w rv2 2 (Tl.runs x.slots).length (rnsC (Tl.runs x.slots)):=hrn2
 have hsl2:=hsl.le (h1.trans h2)
 have hle:=h1.trans h2
 have hrl:=Tl.runs_len x.slots
 rw [sl_len Tryz.underlying38 (hrn.now (ho.hasM 1 rfl)),sl_len Tryz.underlying38 (hrn2.now (ho.hasM 1 rfl))]
 simp only [rs,ne_eq,not_true,decide_false]
 refine loop (fun vs' w => ∃ i : Nat,vs' = [.int .i64 i]∧i≤(Tl.runs x.slots).length∧OwnS (Mem.all W).A W w [secE b1 x vs vk vc,.mem N2]) (fun vs' _ => (Tl.runs x.slots).length - n0 vs') ⟨0,rfl,by omega,ho⟩ ?_
 clear ho
 rintro vs' w7 ⟨i,rfl,hi,ho⟩ _
 simp only [S_foliantlaw18_TableTexts_0,gd]
 rw [sl_len Tryz.underlying38 (hrn.now (ho.hasM 1 rfl))]
 simp only [rs]
 by_cases hlt : (i : Int) < ((Tl.runs x.slots).length : Int)
 ·have hi' : i < (Tl.runs x.slots).length:=by omega
  simp only [decide_eq_true hlt,i_t]
  obtain⟨g1,o1,hr1⟩:=rn_at hrn hi'
  obtain⟨g2,o2,hr2⟩:=rn_at hrn2 hi'
  refine quiet ?_
  refine q_at _ (fun w hb => (hr1 w ((ho.grow hb).hasM 1 rfl)).1) (q_at _ (fun w hb => run_rn (hr1 w ((ho.grow hb).hasM 1 rfl)).2) ?_)
  refine q_at _ (fun w hb => (hr2 w ((ho.grow hb).hasM 1 rfl)).1) (q_at _ (fun w hb => run_rn (hr2 w ((ho.grow hb).hasM 1 rfl)).2) ?_)
  refine q_do _ (fun _ => r_rnne) ?_
  intro w8 hb
  have ho:=ho.grow hb
  simp only [decide_true,Bool.not_true,i_f,rs]
  rw [wrap64_id (by omega) (by omega)]
  exact nextX ⟨i + 1,rfl,by omega,ho⟩ (by show (Tl.runs x.slots).length - Int.toNat ((i : Int) + 1) < (Tl.runs x.slots).length - Int.toNat (i : Int);omega)
 simp only [decide_eq_false hlt,i_f]
 refine quiet ?_
 refine q_seq ?_
 simp only [decide_true,gq,gq_un]
 refine q_eq ?_
 simp only [decide_true]
 refine q_pt ?_
 simp only [gq,gq_un]
 refine q_do _ (fun _ => run_fa fse1) (q_at vs (fun w hb => run_load_cell nSls ((ho.grow hb).cell 0 rfl 1 rfl)) ?_)
 refine q_call _ (fun w hb => ret_grew (tcheck_ret x.slots vs N2 w (by omega) ((ho.grow hb).hasM 1 rfl) hsl2) hb) ?_
 refine q_do _ (fun _ => run_fa fse1) (q_at vs (fun w hb => run_load_cell nSls ((ho.grow hb).cell 0 rfl 1 rfl)) ?_)
 refine q_call _ (fun w hb => ret_grew (rcheck18_ret x.slots vs N2 w (by omega) ((ho.grow hb).hasM 1 rfl) hsl2) hb) ?_
 refine q_eq ?_
 simp only [decide_true]
 refine q_pt ?_
 simp only [gq,gq_un]
 refine q_call (.bool true) (fun w hb => ret_grew (lives18_ret w (tb 1 (ho.grow hb) rfl hle)) hb) ?_
 refine q_pt ?_
 intro w8 hb
 exact hK _ _ ⟨rfl,((ho.grow hb).toGives 1 rfl hle hM).below⟩
end Go.Proofs.YtjloddgofmdmgaaGreatDoor


namespace Go.Proofs.YtjloddgofmdmgaaGreatDoor
open Eng Go.RowKit Go.ChangeShapes Go.WideShapes Go.ChangeAt
set_option maxRecDepth 100000
theorem list4t {α : Type} : ∀ {l : List α},l.length = 4→∃ a b c d,l = [a,b,c,d]
 | [a,b,c,d],_ => ⟨a,b,c,d,rfl⟩
theorem list6t {α : Type} : ∀ {l : List α},l.length = 6→∃ a b c d e f,l = [a,b,c,d,e,f]
 | [a,b,c,d,e,f],_ => ⟨a,b,c,d,e,f,rfl⟩
theorem list11t {α : Type} : ∀ {l : List α},l.length = 11→∃ a b c d e f g h i j k,l = [a,b,c,d,e,f,g,h,i,j,k]
 | [a,b,c,d,e,f,g,h,i,j,k],_ => ⟨a,b,c,d,e,f,g,h,i,j,k,rfl⟩
section
variable {H : Type} {enc : TypeId × Value→H} {W : World} {sp : Nat→Bool} {held : Bool}
theorem open_slot (fuel : Nat) (cs : List Value) (x : DataW H × List MemPlace) (h : DataW.trod enc Tryz.prog W 0 sp held fuel 49 cs = some x) : ∃ l : Slt,(cs = slC l∧-9223372036854775808≤l.num∧l.num≤9223372036854775807)∧cs.length = 4∧1≤Rows.uptoBulk x.1:=by
 obtain⟨xs,n,rfl,rfl,hl,hxl,hf⟩:=DataW.trod_struct Tryz.underlying49 h
 have c4 : Tryz.prog.cellsOf 49 = 4:=by kernel_rfl
 rw [c4] at hl
 have hxl : xs.length = 4:=hxl
 obtain⟨x0,x1,x2,x3,rfl⟩:=list4t hxl
 obtain⟨v0,v1,v2,v3,rfl⟩:=list4t hl
 have e0:=hf 0 _ rfl
 have e1:=hf 1 _ rfl
 have e2:=hf 2 _ rfl
 have e3:=hf 3 _ rfl
 have k0 : Tryz.prog.cellsOf 3 = 1:=by kernel_rfl
 simp only [k0,List.drop_zero,List.drop_succ_cons,List.take_succ_cons,List.take_zero,List.getElem?_cons_zero,List.getElem?_cons_succ] at e0 e1 e2 e3
 obtain⟨a,ha,rfl,hw⟩:=DataW.trod_int Tryz.underlying3 e0
 obtain⟨b,hb,rfl,_⟩:=DataW.trod_int Tryz.underlying3 e1
 obtain⟨c,hc,rfl,_⟩:=DataW.trod_int Tryz.underlying3 e2
 obtain⟨d,hd,rfl,_⟩:=DataW.trod_int Tryz.underlying3 e3
 injection ha with ha _
 injection hb with hb _
 injection hc with hc _
 injection hd with hd _
 subst ha;subst hb;subst hc;subst hd
 refine⟨⟨a,b,c,d⟩,⟨rfl,int_bounds_i64 hw⟩,rfl,?_⟩
 simp only [Rows.uptoBulk,List.map_cons,List.map_nil,Rows.uptoBulkAll]
 omega
theorem sum_ones {α : Type} : ∀ l : List α,(l.map fun _ => 1).sum = l.length
 | [] => rfl
 | a :: l => by rw [List.map_cons,List.sum_cons,sum_ones l,List.length_cons];omega
theorem slots_of : ∀ {cs : List Value} {l : List Slt},Rws (fun cs x => cs = slC x∧-9223372036854775808≤x.num∧x.num≤9223372036854775807) cs l→cs = slsC l∧NumsI l
 | _,_,.nil => ⟨rfl,fun x hx => by cases hx⟩
 | _,_,.cons (a:=a) (rest:=rest) h t => by
  obtain⟨h1,h2⟩:=slots_of t
  refine⟨by rw [h.1,h1];rfl,fun x hx => ?_⟩
  rcases List.mem_cons.1 hx with rfl | hx
  ·exact h.2
  ·exact h2 x hx
theorem row_section {b0 : Nat} {v : Value} {d : DataW H} {ps : List MemPlace} (hval : Value.okWide Tryz.prog W .any b0 29 v) (hd : DataW.Trod enc Tryz.prog W 0 sp held 29 v d ps) :
  ∃ x : Sec,SecV (Mem.all W) v x∧NumsI x.slots∧x.trailer.wt≤Rows.uptoBulk d∧x.slots.length≤Rows.uptoBulk d:=by
 obtain⟨cs,rfl,_⟩:=okWide_struct Tryz.underlying29 hval
 obtain⟨fuel,h⟩:=hd
 have h : DataW.trod enc Tryz.prog W 0 sp held fuel 29 cs.toList = some (d,ps):=h
 obtain⟨xs,n,rfl,hdd,hl,hxl,hf⟩:=DataW.trod_struct Tryz.underlying29 h
 have c11 : Tryz.prog.cellsOf 29 = 11:=by kernel_rfl
 rw [c11] at hl
 have hxl : xs.length = 6:=hxl
 obtain⟨x0,x1,x2,x3,x4,x5,rfl⟩:=list6t hxl
 obtain⟨v0,v1,v2,v3,v4,v5,v6,v7,v8,v9,v10,hcs⟩:=list11t hl
 rw [hcs] at hf
 have e0:=hf 0 _ rfl
 have e1:=hf 1 _ rfl
 have e2:=hf 2 _ rfl
 have e3:=hf 3 _ rfl
 have e4:=hf 4 _ rfl
 have e5:=hf 5 _ rfl
 have k0 : Tryz.prog.cellsOf 23 = 1:=by kernel_rfl
 have k1 : Tryz.prog.cellsOf 3 = 1:=by kernel_rfl
 have k6 : Tryz.prog.cellsOf 27 = 6:=by kernel_rfl
 simp only [k0,k1,k6,List.drop_zero,List.drop_succ_cons,List.take_succ_cons,List.take_zero,List.getElem?_cons_zero,List.getElem?_cons_succ] at e0 e1 e2 e3 e4 e5
 obtain⟨a,ha,_,_⟩:=DataW.trod_int Tryz.underlying3 e0
 obtain⟨v',ds,is,h1,h2,h3,h4,h5⟩:=open_slice_of (R:=fun cs x => cs = slC x∧-9223372036854775808≤x.num∧x.num≤9223372036854775807) (wt:=fun _ : Slt => 1) (n:=4) Tryz.underlying23 (by kernel_rfl) (by decide) open_slot e1
 obtain⟨o,g1,g2,g3⟩:=open_obj _ _ _ e2
 obtain⟨p,hp,_,_⟩:=DataW.trod_int Tryz.underlying3 e3
 obtain⟨y,hy,_,_⟩:=DataW.trod_int Tryz.underlying3 e4
 obtain⟨w,hw,_,_⟩:=DataW.trod_int Tryz.underlying3 e5
 injection h1 with h1 _
 injection ha with ha _
 injection hp with hp _
 injection hy with hy _
 injection hw with hw _
 subst h1;subst ha;subst hp;subst hy;subst hw
 obtain⟨vk,vc,ocs,he,hat⟩:=g1.open
 have he : [v2,v3,v4,v5,v6,v7] = obC o vk vc:=by
  have : [v2,v3,v4,v5,v6,v7].toArray = (obC o vk vc).toArray:=by injection he
  simpa using congrArg Array.toList this
 obtain⟨hfl,hn⟩:=slots_of h3
 subst hfl
 have hb : Rows.uptoBulk x1.1 + Rows.uptoBulk x2.1≤Rows.uptoBulk d:=by
  have hdd : d = _:=congrArg Prod.fst hdd
  rw [hdd]
  simp only [Rows.uptoBulk,List.map_cons,List.map_nil,Rows.uptoBulkAll]
  omega
 rw [sum_ones] at h5
 refine⟨⟨a,is,o,p,y,w⟩,⟨v1,vk,vc,?_,h2,hat.ov⟩,hn,?_,?_⟩
 ·rw [secV,secC]
  show Value.agg cs = .agg ([Value.int .i64 a,v1]++(obC o vk vc++[Value.int .i64 p,Value.int .i64 y,Value.int .i64 w])).toArray
  rw [← he]
  have : cs = cs.toList.toArray:=by simp
  rw [this,hcs];rfl
 ·show o.wt≤_;omega
 ·show is.length≤_;omega
end
end Go.Proofs.YtjloddgofmdmgaaGreatDoor
