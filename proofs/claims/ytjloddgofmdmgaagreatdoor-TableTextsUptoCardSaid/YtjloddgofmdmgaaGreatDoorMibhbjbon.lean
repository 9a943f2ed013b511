/- Texts that go together: EngZ MkG Plain19 KdA DcA SDocs SRef19 DcB DcC SSlcI SlcI DcD DcE DcF Plain19B DcG EngAC PsB PsC Plain07B Plain38 SLabel SRef38 SCut LbA LbB LbC LbD LbE DcH SLaw07 ObP ObQ ObR STexts OcTx SSame SApart Plain07C ObS0 ObT DcI LbF Plain38B Plain38C Plain38D Plain38E Plain06B Plain06C Plain06D Plain06E PsD PsE PsF SMake6 PsG PsH PsI PsJ Plain06F EngAA PsK PsL PsM Plain18 STable TbA SRef18 TbB EngAD Plain18B Plain18C TbC TbD ShelfS TbE. -/
import Derived.Test.YtjloddgofmdmgaaGreatDoorRows
import Derived.Lib.Overlaps
import Derived.Laws.Externs
import Derived.Lib.Repeat
import Derived.Lib.Case
import Derived.Maps.RangeRun
import Derived.Shelf.SlSortCmp.WholeK
import Derived.Ground.SlsfProg
import Derived.Test.YtjloddgofmdmgaaGreatDoorProg
import Derived.Shelf.SlSortCmp.NoneTotal
import Derived.Test.YtjloddgofmdmgaaGreatDoorMcegmiddg
import Derived.Test.YtjloddgofmdmgaaGreatDoorMjbnhjhbl
import Derived.Test.YtjloddgofmdmgaaGreatDoorMcipfjmgf
import Derived.Test.YtjloddgofmdmgaaGreatDoorMjckfcoph
set_option linter.defProp false
set_option linter.unusedSimpArgs false
set_option linter.unusedVariables false
namespace Go.Proofs.YtjloddgofmdmgaaGreatDoor
namespace Eng
open Go.RowKit
def strK (k : List UInt8) : Value:=.string ⟨k.toArray⟩
def MapIs (w : World) (b : Nat) (al : List (List UInt8 × Value)) : Prop:=∃ es clock,w.heap[b]? = some (.map es clock)∧es.toList.map (fun e => (e.key,e.val)) = al.map fun p => (strK p.1,p.2)
def lookA (al : List (List UInt8 × Value)) (k : List UInt8) : Option Value:=(al.find? fun p => decide (p.1 = k)).map (·.2)
theorem findNow_str (k : List UInt8) : ∀ (es : List MapEntry) (al : List (List UInt8 × Value)) (i : Nat),es.map (fun e => (e.key,e.val)) = al.map (fun p => (strK p.1,p.2)) →
  ∃ r,Instr.findNow .string (strK k) es i = some r∧r.map (·.2) = lookA al k
 | [],[],i,_ => ⟨none,rfl,rfl⟩
 | e :: es,p :: al,i,h => by
  simp only [List.map_cons,List.cons.injEq,Prod.mk.injEq] at h
  obtain⟨⟨h1,h2⟩,h3⟩:=h
  have hs : Instr.sameNow .string (strK k) e.key = some (decide (k = p.1)):=by
   rw [h1]
   show some ((⟨k.toArray⟩ : ByteArray) == ⟨p.1.toArray⟩) = _
   congr 1
   show (k.toArray == p.1.toArray) = _
   by_cases hk : k = p.1<;>simp [hk]
  by_cases hk : k = p.1
  ·refine⟨some (i,e.val),?_,?_⟩
   ·rw [Instr.findNow,hs];simp [hk]
   ·simp [lookA,hk,h2]
  ·obtain⟨r,hr1,hr2⟩:=findNow_str k es al (i + 1) h3
   refine⟨r,?_,?_⟩
   ·rw [Instr.findNow,hs];simp [hk,hr1]
   ·have hk' : ¬ p.1 = k:=fun e => hk e.symm
    rw [hr2];simp [lookA,hk']
 | [],_ :: _,_,h => by simp at h
 | _ :: _,[],_,h => by simp at h
section
variable {S : Nat→Prop} {P : Program} {w w0 : World} {L : List Ent} {PK : List PanicEntry→World→Prop} {K : Value→World→Prop}
theorem run_checkStr {k : TypeId} {e : Bool} (hk : P.underlying k = some .string) (x : List UInt8) : (Instr.checkKey e 10000 k (strK x)).run P w = .ok () w:=by
 show (Instr.checkKey e (9999 + 1) k (strK x)).run P w = _
 rw [Instr.checkKey]
 simp [run_underlying hk,strK]
theorem run_findStr {k : TypeId} (hk : P.underlying k = some .string) (x : List UInt8) {es : List MapEntry} {al : List (List UInt8 × Value)} (h : es.map (fun e => (e.key,e.val)) = al.map (fun p => (strK p.1,p.2))) :
  ∃ r,(Instr.findKey k (strK x) es).run P w = .ok r w∧r.map (·.2) = lookA al x:=by
 obtain⟨r,h1,h2⟩:=findNow_str x es al 0 h
 refine⟨r,?_,h2⟩
 simp [Instr.findKey,run_underlying hk,h1]
theorem run_look {T k e : TypeId} {ok : Bool} {b : Nat} {al : List (List UInt8 × Value)} {z : Value} (ht : P.underlying T = some (.map k e)) (hk : P.underlying k = some .string) (hz : (P.info? e).bind (·.zero) = some z) (h : MapIs w b al) (x : List UInt8) :
  (mLook T (.map (some b)) (strK x) ok).run P w = .ok (.value (if ok then .tuple #[(lookA al x).getD z,.bool (lookA al x).isSome] else (lookA al x).getD z)) w:=by
 obtain⟨es,clock,h1,h2⟩:=h
 obtain⟨r,r1,r2⟩:=run_findStr (P:=P) (w:=w) hk x h2
 have hz' : (zeroValue e).run P w = .ok z w:=by
  obtain⟨i,hi,hzi⟩:=Option.bind_eq_some_iff.1 hz
  simp [zeroValue,typeInfo,hi,hzi]
 refine mv_run ?_
 rw [← r2]
 cases r with
 | none => simp [Instr.lookup,run_underlying ht,getObj,Sem.run,h1,run_checkStr hk x,r1,hz']
 | some p =>
  obtain⟨i,v⟩:=p
  simp [Instr.lookup,run_underlying ht,getObj,Sem.run,h1,run_checkStr hk x,r1]
end
theorem lookA_none {al : List (List UInt8 × Value)} {k : List UInt8} : lookA al k = none ↔ k ∉ al.map (·.1):=by
 unfold lookA
 rw [Option.map_eq_none_iff,List.find?_eq_none]
 exact⟨fun h hm => by obtain⟨p,hp,rfl⟩:=List.mem_map.1 hm;simpa using h p hp,fun h p hp hc => h (List.mem_map.2 ⟨p,hp,by simpa using hc⟩)⟩
end Eng
end Go.Proofs.YtjloddgofmdmgaaGreatDoor
namespace Go.Proofs.YtjloddgofmdmgaaGreatDoor
set_option maxRecDepth 20000
open Eng Go.RowKit
theorem Sl.cellAt {w : World} {b off cap sz n : Nat} {cs : List Value} (h : Sl w (.slice (some ⟨b,off,none⟩) n cap) sz n cs) : ∀ j u,cs[j]? = some u→w.cell? ⟨b,off + j,none⟩ = some u:=by
 obtain⟨_,a,cap',e,_,h2⟩:=h
 injection e with e1 _ _
 exact fun j u hj => (h2 _ e1.symm).2 j u hj
theorem m_ob7 {w : World} {PK : List PanicEntry→World→Prop} {K : Value→World→Prop} : DoX Tryz.prog (mBuild 27 #[(0,(.int .i64 7))]) w PK K = K (obV (.mk 7 0 0 [] [] []) nilS nilS) w:=do_eq (by kernel_rfl)
end Go.Proofs.YtjloddgofmdmgaaGreatDoor

namespace Go.Proofs.YtjloddgofmdmgaaGreatDoor
open Eng Go.RowKit Go.ChangeShapes Go.WideShapes
inductive Rws {α : Type} (R : List Value→α→Prop) : List Value→List α→Prop
 | nil : Rws R [] []
 | cons {a rest : List Value} {x : α} {xs : List α} : R a x→Rws R rest xs→Rws R (a++rest) (x :: xs)
section
variable {α : Type} {R R' : List Value→α→Prop}
theorem Rws.snoc {a : List Value} {x : α} (hx : R a x) : ∀ {cs : List Value} {xs : List α},Rws R cs xs→Rws R (cs++a) (xs++[x])
 | _,_,.nil => by
  have:=Rws.cons hx (Rws.nil (R:=R))
  simpa using this
 | _,_,.cons h t => by
  rw [List.append_assoc,List.cons_append]
  exact .cons h (Rws.snoc hx t)
end
section
variable {H : Type} {enc : TypeId × Value→H} {W : World} {sp : Nat→Bool} {held : Bool}
theorem open_slice_of {E T : TypeId} {n : Nat} {α : Type} {R : List Value→α→Prop} {wt : α→Nat} (ht : Tryz.prog.underlying T = some (.slice E)) (hc : Tryz.prog.cellsOf E = n) (hn : 0 < n)
  (hel : ∀ fuel cs x,DataW.trod enc Tryz.prog W 0 sp held fuel E cs = some x→∃ a,R cs a∧cs.length = n∧wt a≤Rows.uptoBulk x.1)
  {fuel : Nat} {cs : List Value} {x : DataW H × List MemPlace} (h : DataW.trod enc Tryz.prog W 0 sp held fuel T cs = some x) :
  ∃ (v : Value) (ds : List Value) (xs : List α),cs = [v]∧SlA (InW W) W v n xs.length ds∧Rws R ds xs∧xs.length≤9223372036854775807∧(xs.map wt).sum + 1≤Rows.uptoBulk x.1:=by
 rcases DataW.trod_slice ht h with ⟨rfl,rfl⟩ | ⟨a,len,cap,elems,rest,n',rfl,rfl,rfl,_,hlc,hcm,hel2,hat,_,_⟩
 ·exact⟨_,[],[],rfl,SlA.nil _ _ _ _,.nil,by simp,by simp [Rows.uptoBulk]⟩
 ·rw [hc] at hat
  have step : ∀ k,k≤len→∃ (cs : List Value) (os : List α),os.length = k∧cs.length = k * n∧Rws R cs os∧(∀ j u,cs[j]? = some u→W.cell? (a.add j) = some u)∧(os.map wt).sum≤Rows.uptoBulkAll ((elems.take k).map (·.1)):=by
   intro k
   induction k with
   | zero => intro _;exact⟨[],[],rfl,by simp,.nil,(fun j u hj => by simp at hj),by simp [Rows.uptoBulkAll]⟩
   | succ k ihk =>
    intro hk
    obtain⟨cs,os,h1,hcl,h2,h3,h4⟩:=ihk (by omega)
    have hki : k < elems.length:=by omega
    have hb:=hat k (by omega)
    rw [List.getElem?_eq_getElem hki,Option.bind_eq_some_iff] at hb
    obtain⟨ck,hck,htr⟩:=hb
    obtain⟨o,ho,hlo,hw⟩:=hel n' ck _ htr
    refine⟨cs++ck,os++[o],by simp [h1],by rw [List.length_append,hcl,hlo,Nat.add_mul,Nat.one_mul],Rws.snoc ho h2,fun j u hj => ?_,?_⟩
    ·rcases Nat.lt_or_ge j cs.length with hj1 | hj1
     ·rw [List.getElem?_append_left hj1] at hj;exact h3 j u hj
     ·rw [List.getElem?_append_right hj1] at hj
      have hj6 : j - cs.length < n:=by
       have:=(List.getElem?_eq_some_iff.1 hj).1
       omega
      have:=(World.cells?_some hck).2.2 (j - cs.length) hj6
      rw [← hj,← this,addr_add,show k * n + (j - cs.length) = j by omega]
    ·rw [List.take_succ_eq_append_getElem hki,List.map_append,List.map_append,bulkAll_append,List.sum_append]
     simp only [List.map_cons,List.map_nil,Rows.uptoBulkAll,List.sum_cons,List.sum_nil]
     omega
  obtain⟨cs,os,h1,hcl,h2,h3,h4⟩:=step len (Nat.le_refl _)
  refine⟨_,cs,os,rfl,?_,h2,?_,?_⟩
  ·rw [h1]
   exact SlA.of_cells hn (by rw [hcl]) h3 (fun b hb => hb) hlc
  ·rw [h1];simp only [maxLen] at hcm;omega
  ·rw [← hel2,List.take_length] at h4
   simp only [Rows.uptoBulk]
   omega
end
end Go.Proofs.YtjloddgofmdmgaaGreatDoor
namespace Go.Proofs.YtjloddgofmdmgaaGreatDoor
set_option maxRecDepth 20000
open Eng Go.RowKit
theorem obV_inj {o p : Ob} {vk vc xk xc : Value} (h : obV o vk vc = obV p xk xc) : vk = xk∧vc = xc:=by
 have : (obC o vk vc).toArray = (obC p xk xc).toArray:=by injection h
 have : obC o vk vc = obC p xk xc:=by simpa using congrArg Array.toList this
 simp only [obC,List.cons.injEq,and_true] at this
 exact⟨this.2.2.2.2.1,this.2.2.2.2.2⟩
theorem OV.slices {A : Nat→Prop} {w : World} {o : Ob} {vk vc : Value} (h : OV A w (obV o vk vc) o) : ∃ cs,ObAt A w o vk vc cs:=by
 obtain⟨xk,xc,cs,e,ha⟩:=h.open
 obtain⟨rfl,rfl⟩:=obV_inj e
 exact⟨cs,ha⟩
theorem OV.oneK {A : Nat→Prop} {w : World} {o : Ob} {vk vc : Value} (h : OV A w (obV o vk vc) o) : vk.oneCell' = true:=by obtain⟨cs,ha⟩:=h.slices;exact ha.keys.one
theorem OV.oneC {A : Nat→Prop} {w : World} {o : Ob} {vk vc : Value} (h : OV A w (obV o vk vc) o) : vc.oneCell' = true:=by obtain⟨cs,ha⟩:=h.slices;exact ha.kids.one
section
variable {w : World} {PK : List PanicEntry→World→Prop} {K : Value→World→Prop} {S : Nat→Prop} {w0 : World} {L : List Ent}
end
end Go.Proofs.YtjloddgofmdmgaaGreatDoor










namespace Go.Proofs.YtjloddgofmdmgaaGreatDoor
set_option maxRecDepth 20000
open Eng Go.RowKit
namespace Eng
def Ent.two (e f : Ent) : Ent:=⟨fun k => e.blk k∨f.blk k,fun w => e.is w∧f.is w∧∀ k,e.blk k→¬ f.blk k,
 fun h k => ⟨e.keep h.1 fun b hb => k b (.inl hb),f.keep h.2.1 fun b hb => k b (.inr hb),h.2.2⟩,fun h k hk => hk.elim (e.lt h.1 k) (f.lt h.2.1 k)⟩
section
variable {S : Nat→Prop} {w w0 : World} {L : List Ent}
theorem OwnS.split {e f : Ent} (ho : OwnS S w0 w (.two e f :: L)) : OwnS S w0 w (e :: f :: L):=by
 obtain⟨⟨he,hf,hd⟩,hb⟩:=ho.all (.two e f) (by simp)
 obtain⟨a1,a2⟩:=List.pairwise_cons.1 ho.apart
 refine⟨ho.grew,fun x hx => ?_,List.pairwise_cons.2 ⟨fun x hx k hk => ?_,List.pairwise_cons.2 ⟨fun x hx k hk => a1 x hx k (.inr hk),a2⟩⟩⟩
 ·rcases List.mem_cons.1 hx with rfl | hx
  ·exact⟨he,fun k hk => hb k (.inl hk)⟩
  rcases List.mem_cons.1 hx with rfl | hx
  ·exact⟨hf,fun k hk => hb k (.inr hk)⟩
  ·exact ho.all x (List.mem_cons_of_mem _ hx)
 ·rcases List.mem_cons.1 hx with rfl | hx
  ·exact hd k hk
  ·exact a1 x hx k (.inl hk)
end
end Eng
section
variable {P : Program} {S : World→Prop} {K : Value→Prop}
theorem hd_do {m : Sem Next} (v : Value) (h : ∀ w,S w→m.run P w = .ok (.value v) w) (k : K v) : HDo P S m K:=⟨v,h,k⟩
theorem hd_pure {m : Sem Next} (v : Value) (h : ∀ w,m.run P w = .ok (.value v) w) (k : K v) : HDo P S m K:=⟨v,fun w _ => h w,k⟩
end
section
variable {w : World} {PK : List PanicEntry→World→Prop} {K : Value→World→Prop} {S : Nat→Prop} {w0 : World} {L : List Ent}
end
end Go.Proofs.YtjloddgofmdmgaaGreatDoor
namespace Go.Proofs.YtjloddgofmdmgaaGreatDoor
namespace Eng
open Go.RowKit
section
variable {S : Nat→Prop} {P : Program} {w w0 : World} {L : List Ent} {PK : List PanicEntry→World→Prop} {K : Value→World→Prop}
theorem OwnS.pair {e f : Ent} (ho : OwnS S w0 w (e :: f :: L)) : OwnS S w0 w (.two e f :: L):=by
 obtain⟨a1,a2⟩:=List.pairwise_cons.1 ho.apart
 obtain⟨a3,a4⟩:=List.pairwise_cons.1 a2
 have h1:=ho.all e (by simp)
 have h2:=ho.all f (by simp)
 refine⟨ho.grew,fun x hx => ?_,List.pairwise_cons.2 ⟨fun x hx k hk => ?_,a4⟩⟩
 ·rcases List.mem_cons.1 hx with rfl | hx
  ·exact⟨⟨h1.1,h2.1,a1 f (by simp)⟩,fun k hk => hk.elim (h1.2 k) (h2.2 k)⟩
  ·exact ho.all x (by simp [hx])
 ·rcases hk with hk | hk
  ·exact a1 x (by simp [hx]) k hk
  ·exact a3 x hx k hk
structure Lent (P : Program) (f : Nat) (args : Array Value) (e : Ent) (M : Mem) (w : World) (ok : Prop) (e' : Ent) (R : Value→Mem→Prop) (c : List PanicEntry) : Prop where
 ret : ok→Ret P f args w (fun v w' => ∃ N,M.le N∧R v N∧Turn (.two e (.mem M)) (.two e' (.mem N)) w w')
 pan : ¬ ok→Pan P f args w (fun c' w' => c' = c∧∃ e2,Turn (.two e (.mem M)) (.two e2 (.mem M)) w w')
theorem lent_of {f : Nat} {args : Array Value} {e e' : Ent} {M : Mem} {ok : Prop} {R : Value→Mem→Prop} {c : List PanicEntry}
  (h : ∀ K : Ending→World→Prop,OwnS (Ent.two e (.mem M)).blk w w [e,.mem M] →
   (ok→∀ (v : Value) (N : Mem) (w' : World) (L : List Ent),OwnS (Ent.two e (.mem M)).blk w w' (e' :: .mem N :: L)→M.le N→R v N→K (.returned v) w') →
   (¬ ok→∀ (e2 : Ent) (N : Mem) (w' : World) (L : List Ent),OwnS (Ent.two e (.mem M)).blk w w' (e2 :: .mem N :: L)→M.le N→K (.panicked c) w')→Calls P f args w K)
  (h0 : (Ent.two e (.mem M)).is w) : Lent P f args e M w ok e' R c:=by
 have ho : OwnS (Ent.two e (.mem M)).blk w w [e,.mem M]:=(OwnS.lend h0).split
 constructor
 ·intro hk
  refine ret_of fun K hK => h K ho (fun _ v N w' L hw hle hr => hK _ _ ⟨N,hle,hr,OwnS.back hw.pair⟩) fun hn => absurd hk hn
 ·intro hn
  refine pan_of fun K hK => h K ho (fun hk => absurd hk hn) fun _ e2 N w' L hw hle => ?_
  refine hK _ _ ⟨rfl,e2,?_⟩
  have hb:=OwnS.back hw.pair
  refine⟨hb.grew,?_,fun k hk => hb.new k (hk.elim .inl fun hm => .inr (hle.A k hm))⟩
  obtain⟨i1,i2,i3⟩:=hb.is
  exact⟨i1,Mem.has_of hle i2,fun k hk hm => i3 k hk (hle.A k hm)⟩
end
end Eng
end Go.Proofs.YtjloddgofmdmgaaGreatDoor
namespace Go.Proofs.YtjloddgofmdmgaaGreatDoor
set_option maxRecDepth 20000
open Eng Go.RowKit
abbrev keyE (v : Value) (ks : List (List UInt8)) : Ent:=.urow 9 1 v ks.length (strsV ks)
abbrev kidE (v : Value) (n : Nat) (cs : List Value) : Ent:=.urow 27 6 v n cs
section
variable {w : World} {S : Nat→Prop} {w0 : World} {L : List Ent} {PK PK2 : List PanicEntry→World→Prop} {K : Value→World→Prop}
theorem key_row (i : Nat) {v : Value} {ks : List (List UInt8)} (ho : OwnS S w0 w L) (hi : L[i]? = some (keyE v ks)) {j : Nat} (hj : j < ks.length) : ∃ g cap,v = .slice (some ⟨g,0,none⟩) ks.length cap ∧
  (∀ w,(mIA 24 v (.int .i64 (j : Int))).run Tryz.prog w = .ok (.value (.pointer (some ⟨g,j,none⟩))) w)∧∀ w',(keyE v ks).is w'→(mLoad 9 (.pointer (some ⟨g,j,none⟩))).run Tryz.prog w' = .ok (.value (.string ⟨ks[j].toArray⟩)) w':=by
 obtain⟨g,cap,rfl⟩:=urow_open (ho.at_ i hi) (by omega)
 refine⟨g,cap,rfl,fun w => ?_,fun w' h => ?_⟩
 ·refine (run_ia Tryz.underlying24 szStr (by omega) (by omega)).trans ?_
  rw [Int.toNat_natCast,Nat.mul_one,Nat.zero_add]
 ·obtain⟨b,off,cap',e,hc⟩:=sl_open (Sl.urow h) (by omega)
  cases e
  exact run_load_cell nStr5 (by have:=hc j _ (strsV_get hj);rwa [Nat.zero_add] at this)
end
end Go.Proofs.YtjloddgofmdmgaaGreatDoor
namespace Go.Proofs.YtjloddgofmdmgaaGreatDoor
set_option maxRecDepth 20000
open Eng Go.RowKit
def objR (e : Ps.R) (v : Value) (N : Mem) : Prop:=∃ u,v = .tuple #[u,.int .i64 e.2.1,.int .i64 e.2.2]∧OV N.A N.w u e.1
theorem ob0_ov2 {A : Nat→Prop} {w : World} : OV A w (obV Vl.ob0 nilS nilS) Vl.ob0:=ObAt.ov (o:=Vl.ob0) ⟨SlA.nil _ _ _ _,SlA.nil _ _ _ _,OVs.nil⟩
section
variable {w : World} {S : Nat→Prop} {w0 : World} {L : List Ent}
theorem ret_bad {KE : Ending→World→Prop} {PK PK2 : List PanicEntry→World→Prop} (i : Nat) {b : Nat} {o : Ob} {vk vc : Value} {e : Int} (ho : OwnS S w0 w L) (hi : L[i]? = some (obE b o vk vc))
  (k : ∀ w',OwnS S w0 w' (L.set i (obE b Vl.ob0 nilS nilS))→KE (.returned (.tuple #[obV Vl.ob0 nilS nilS,.int .i64 0,.int .i64 e])) w') :
  DoX Tryz.prog (mBuild 27 #[]) w PK fun t w => DoX Tryz.prog (mStore 27 (.pointer (some ⟨b,0,none⟩)) t) w PK2 fun _ w => RetX Tryz.prog [.cell (.pointer (some ⟨b,0,none⟩)) 27,.val (.int .i64 0),.val (.int .i64 e)] w KE:=by
 rw [m_ob0]
 refine ob_put i rfl rfl ho hi fun w' ho => ?_
 have hil : i < L.length:=(List.getElem?_eq_some_iff.1 hi).1
 have hi2 : (L.set i (obE b Vl.ob0 nilS nilS))[i]? = some (obE b Vl.ob0 nilS nilS):=by simp [hil]
 exact ret_v3 (rv_cell (ho.agg i hi2 aggOb)) rv_val rv_val (k w' ho)
end
end Go.Proofs.YtjloddgofmdmgaaGreatDoor

namespace Go.Proofs.YtjloddgofmdmgaaGreatDoor
open Go
structure Lx where
 off : Int
 sty : List UInt8
 pre : List UInt8
 first : Int
 deriving DecidableEq
namespace Lb
end Lb
end Go.Proofs.YtjloddgofmdmgaaGreatDoor












namespace Go.Proofs.YtjloddgofmdmgaaGreatDoor
open Eng Go.RowKit Go.ChangeShapes Go.WideShapes Go.ChangeAt
set_option maxRecDepth 100000
section
variable {H : Type} {enc : TypeId × Value→H} {W : World} {sp : Nat→Bool} {held : Bool}
theorem bulk1 {d : DataW H} (hk : Rows.uptoSmall H [d] = true) : Rows.uptoBulk d≤1048576:=by
 have h : Rows.uptoBulkAll [d]≤1048576:=of_decide_eq_true hk
 simp only [Rows.uptoBulkAll] at h
 omega
end
end Go.Proofs.YtjloddgofmdmgaaGreatDoor





namespace Go.Proofs.YtjloddgofmdmgaaGreatDoor
open Eng Go.RowKit
theorem text_ok {o : Ob} (h : (Wr.text o).2 = 0) : Vl.check 1 o = 0∧o.k≠9∧(Wr.text o).1 = Pl.join (Wr.parts o):=by
 unfold Wr.text at h ⊢
 split at h
 ·rename_i hc;exact absurd h hc
 split at h
 ·cases h
 rename_i hc h9
 rw [if_neg hc,if_neg h9]
 exact⟨Classical.not_not.1 hc,h9,rfl⟩
end Go.Proofs.YtjloddgofmdmgaaGreatDoor







namespace Go.Proofs.YtjloddgofmdmgaaGreatDoor
open Go
namespace Ps
open Lx (next Tok Single)
open Wr (num parts partsL partsD)
def At (s : List UInt8) (a : Int) (p : List UInt8) (b : Int) : Prop:=∃ (x : Tok) (a' : Int),Single p x∧next s a = ({ x with a:=a',t:=b },0)
def Toks (s : List UInt8) : Int→List (List UInt8)→Int→Prop
 | a,[],b => a = b
 | a,p :: ps,b => ∃ c,At s a p c∧Toks s c ps b
end Ps
end Go.Proofs.YtjloddgofmdmgaaGreatDoor

namespace Go.Proofs.YtjloddgofmdmgaaGreatDoor
open Go
namespace Lx
open Oc
structure Form (x : Tok) : Prop where
 int : x.k = 1→-2147483647≤x.n∧x.n≤2147483647
 real : x.k = 2→Fx.okB x.n = true
 str : x.s.length≤32767
 name : x.k = 4→Vl.name x.s = true
 kind : x.k = 0∨x.k = 1∨x.k = 2∨x.k = 3∨x.k = 4∨x.k = 5∨x.k = 6
theorem none_form : Form none_:=⟨fun e => by simp [none_] at e,fun e => by simp [none_] at e,by simp [none_],fun e => by simp [none_] at e,.inl rfl⟩
theorem told_form {k a t : Int} {x : List UInt8} {m : Int} (h : (told k a t x m).2 = 0) (hm : m≤32767) (hk : k = 3∨k = 4∨k = 5) (hn : k = 4→m≤127∧(0 : UInt8) ∉ x) : Form (told k a t x m).1:=by
 have e:=told_ok h
 unfold told at h
 split at h
 ·simp [refused] at h
 rename_i hx
 rw [e]
 refine⟨?_,?_,?_,?_,?_⟩
 ·intro h1;simp only at h1;omega
 ·intro h1;simp only at h1;omega
 ·show x.length≤_;omega
 ·intro h1
  obtain⟨h2,h3⟩:=hn h1
  show Vl.name x = true
  unfold Vl.name
  simp only [Bool.and_eq_true,decide_eq_true_eq]
  exact⟨by omega,h3⟩
 ·show k = 0∨k = 1∨k = 2∨k = 3∨k = 4∨k = 5∨k = 6
  omega
theorem regular_pos : ∀ c : UInt8,regular c = true→c≠0:=all8 (by decide +kernel)
theorem byte_pos (a b : UInt8) : ¬ (digit a < 0)→¬ (digit b < 0)→¬ (16 * digit a + digit b = 0)→byte (digit a) (digit b)≠0:=by
 have hd : ∀ c : UInt8,digit c≤15:=all8 (by decide +kernel)
 intro h1 h2 h3 h4
 have ha:=hd a
 have hb:=hd b
 unfold byte at h4
 have h5:=congrArg UInt8.toNat h4
 rw [UInt8.toNat_ofNat_of_lt' (by show _ < 256;omega)] at h5
 have : (0 : UInt8).toNat = 0:=rfl
 omega
theorem nameF_pos (n : Nat) : ∀ (l x : List UInt8),l.length≤n→l.all regular = true→nameF l = some x→(0 : UInt8) ∉ x:=by
 induction n with
 | zero =>
  intro l x hl _ h
  cases l with
  | nil => simp [nameF] at h;subst h;simp
  | cons _ _ => simp at hl
 | succ n ih =>
  intro l x hl hr h
  cases l with
  | nil => simp [nameF] at h;subst h;simp
  | cons c t =>
   simp only [List.all_cons,Bool.and_eq_true] at hr
   by_cases hc : c = 35
   ·subst hc
    match t,hl,hr,h with
    | [],_,_,h => simp [nameF] at h
    | [a],_,_,h => simp [nameF] at h
    | a :: b :: t,hl,hr,h =>
     simp only [nameF,if_true] at h
     split at h
     ·cases h
     ·rename_i hh
      simp only [not_or] at hh
      obtain⟨y,hy,rfl⟩:=map_some h
      have h1 : (0 : UInt8) ∉ y:=ih t y (by simp at hl;omega) (by simp at hr ⊢;exact hr.2.2.2) hy
      have h2:=byte_pos a b hh.1 hh.2.1 hh.2.2
      simp only [List.mem_cons,not_or]
      exact⟨fun e => h2 e.symm,h1⟩
   ·rw [nameF_ne hc] at h
    obtain⟨y,hy,rfl⟩:=map_some h
    have h1 : (0 : UInt8) ∉ y:=ih t y (by simpa using hl) hr.2 hy
    simp only [List.mem_cons,not_or]
    exact⟨fun e => regular_pos c hr.1 e.symm,h1⟩
theorem runF_reg : ∀ l : List UInt8,(l.take (runF l)).all regular = true:=fun l => (runF_take l).1
theorem cut_run (s : List UInt8) (i : Nat) : (cut s i (run s i)).all regular = true:=by
 unfold cut run
 rw [Nat.add_sub_cancel_left]
 exact runF_reg _
theorem wordT_form {t : List UInt8} {a b : Int} (h : (wordT t a b).2 = 0) : Form (wordT t a b).1:=by
 unfold wordT at h ⊢
 split at h
 ·rename_i h1
  rw [if_pos h1]
  split at h
  ·rename_i h2;simp [refused] at h;exact absurd h h2
  rename_i h2
  rw [if_neg h2]
  have h2:=Classical.not_not.1 h2
  refine⟨fun _ => ?_,fun e => ?_,by simp,fun e => ?_,.inr (.inl rfl)⟩
  ·unfold whole at h2 ⊢
   split at h2
   ·simp at h2
   ·rename_i h3
    rw [if_neg h3]
    simp only
    split<;>omega
  ·simp at e
  ·simp at e
 rename_i h1
 rw [if_neg h1]
 split at h
 ·rename_i h2
  rw [if_pos h2]
  refine⟨fun e => ?_,fun _ => ?_,by simp,fun e => ?_,.inr (.inr (.inl rfl))⟩
  ·simp at e
  ·have h3:=h2.2
   show Fx.okB (Fx.read t).1 = true
   unfold Fx.read at h3 ⊢
   split at h3
   ·rename_i h4
    rw [if_pos h4]
    split at h3
    ·simp at h3
    ·rename_i h5
     rw [if_neg h5]
     generalize (if Fx.minus t = true then -Fx.mag t else Fx.mag t) = q at h3 ⊢
     unfold Fx.ans at h3 ⊢
     cases hq : Fx.okB q with
     | true => rw [if_pos rfl];exact hq
     | false => rw [hq] at h3;simp at h3
   ·simp at h3
  ·simp at e
 rename_i h2
 rw [if_neg h2]
 split at h
 ·simp [refused] at h
 rename_i h3
 rw [if_neg h3]
 exact told_form h (by decide) (by decide) (fun h => absurd h (by decide))
theorem mark_form (s : List UInt8) (a n : Nat) (hn : n≤2) : Form (mark s a n).1:=by
 refine⟨fun e => ?_,fun e => ?_,?_,fun e => ?_,by simp [mark]⟩
 ·simp [mark] at e
 ·simp [mark] at e
 ·show (cut s a (a + n)).length≤_
  unfold cut
  rw [List.length_take];omega
 ·simp [mark] at e
theorem token_form {s : List UInt8} {a : Nat} (h : (token s a).2 = 0) : Form (token s a).1:=by
 unfold token at h ⊢
 split at h
 ·exact⟨fun e => by simp at e,fun e => by simp at e,by simp,fun e => by simp at e,.inl rfl⟩
 rename_i c t hd
 split at h
 ·rename_i h1;rw [if_pos h1];exact mark_form s a 1 (by omega)
 rename_i h1;rw [if_neg h1]
 split at h
 ·rename_i h2;rw [if_pos h2]
  split at h
  ·rename_i h3;rw [if_pos h3];exact mark_form s a 2 (by omega)
  ·rename_i h3;rw [if_neg h3]
   unfold hex at h ⊢
   split at h
   ·exact none_form
   ·exact told_form h (by decide) (by decide) (fun h => absurd h (by decide))
 rename_i h2;rw [if_neg h2]
 split at h
 ·rename_i h3;rw [if_pos h3]
  split at h
  ·rename_i h4;rw [if_pos h4];exact mark_form s a 2 (by omega)
  ·simp [refused] at h
 rename_i h3;rw [if_neg h3]
 split at h
 ·rename_i h4;rw [if_pos h4]
  unfold name at h ⊢
  split at h
  ·simp [refused] at h
  ·rename_i x hx
   refine told_form h (by decide) (by decide) (fun _ => ⟨by decide,nameF_pos _ _ _ (Nat.le_refl _) (cut_run s (a + 1)) hx⟩)
 rename_i h4;rw [if_neg h4]
 split at h
 ·rename_i h5;rw [if_pos h5]
  unfold text at h ⊢
  split at h
  ·simp [refused] at h
  ·exact told_form h (by decide) (by decide) (fun h => absurd h (by decide))
 rename_i h5;rw [if_neg h5]
 split at h
 ·simp [refused] at h
 rename_i h6;rw [if_neg h6]
 exact wordT_form h
theorem next_form {s : List UInt8} {i : Int} (h : (next s i).2 = 0) : Form (next s i).1:=by
 unfold next at h ⊢
 split at h
 ·simp [refused] at h
 rename_i h1
 rw [if_neg h1]
 exact token_form h
end Lx
end Go.Proofs.YtjloddgofmdmgaaGreatDoor
namespace Go.Proofs.YtjloddgofmdmgaaGreatDoor
open Go
namespace Ps
open Lx (next Tok)
theorem obj_open {s : List UInt8} {n : Nat} {a : Int} (h : (obj s n a).2.2 = 0) : (next s a).2 = 0∧(next s a).1.k≠0∧begins (next s a).1 = true∧∃ m,n = m + 1 ∧
  obj s n a = if (next s a).1.k≠6 then leaf s (next s a).1 else if (next s a).1.s = [91] then arr s (decide (m≠0)) (obj s m) (s.length + 1) (next s a).1.t [] else dict s (obj s m) (s.length + 1) (next s a).1.t dict0 []:=by
 cases n with
 | zero =>
  rw [obj] at h
  split at h
  ·rename_i h1;exact absurd h h1
  split at h
  ·simp [bad] at h
  split at h
  ·simp [bad] at h
  ·simp [bad] at h
 | succ n =>
  rw [obj] at h
  split at h
  ·rename_i h1;exact absurd h h1
  rename_i h1
  split at h
  ·simp [bad] at h
  rename_i h2
  split at h
  ·simp [bad] at h
  rename_i h3
  refine⟨Classical.not_not.1 h1,h2,by simpa using h3,n,rfl,?_⟩
  rw [obj,if_neg h1,if_neg h2,if_neg h3]
theorem leaf_wt {s : List UInt8} {a : Int} (h0 : (next s a).2 = 0) : (leaf s (next s a).1).1.wt≤32773:=by
 have f:=(Lx.next_form h0).str
 unfold leaf
 (repeat' split)<;>simp [Ob.wt,Ob.wts,Pl.tot,Vl.ob0]<;>omega
def GoodW (sub : Int→R) : Prop:=∀ a,(sub a).2.2 = 0→((sub a).1.wt : Int)≤40000 * ((sub a).2.1 - a)
theorem arr_wt {s : List UInt8} {ok : Bool} {sub : Int→R} (hg : GoodW sub) (hb : Good s sub) (a0 : Int) : ∀ (m : Nat) (a : Int) (acc : List Ob),(Ob.wts acc : Int)≤40000 * (a - a0)→(arr s ok sub m a acc).2.2 = 0→((arr s ok sub m a acc).1.wt : Int)≤6 + 40000 * ((arr s ok sub m a acc).2.1 - a0)
 | 0,a,acc,_,h => by simp [arr,bad] at h
 | m + 1,a,acc,hw,h => by
  rw [arr] at h ⊢
  split at h
  ·rename_i h1
   rw [if_pos h1]
   have b:=Lx.next_bd h1.1 (by rw [h1.2.1];decide)
   have:=Lx.skip_ge s a.toNat
   simp [Ob.wt,Pl.tot];omega
  rename_i h1
  rw [if_neg h1]
  split at h
  ·simp [bad] at h
  rename_i h2
  rw [if_neg h2]
  split at h
  ·rename_i h3;exact absurd h h3
  rename_i h3
  rw [if_neg h3]
  split at h
  ·rename_i h4;exact absurd h h4
  rename_i h4
  rw [if_neg h4]
  have h4:=Classical.not_not.1 h4
  have g:=hg a h4
  exact arr_wt hg hb a0 m _ _ (by rw [Vl.wts_app,Ob.wts,Ob.wts];omega) h
theorem join_wt {o v : Ob} {key : List UInt8} : (join o key v).wt≤o.wt + (key.length + 1) + v.wt:=by
 unfold join
 split
 ·exact Vl.put_wt o key v
 ·omega
theorem dict_wt {s : List UInt8} {sub : Int→R} (hg : GoodW sub) (hb : Good s sub) (a0 : Int) : ∀ (m : Nat) (a : Int) (o : Ob) (met : List (List UInt8)),(o.wt : Int)≤6 + 40000 * (a - a0)→(dict s sub m a o met).2.2 = 0→((dict s sub m a o met).1.wt : Int)≤6 + 40000 * ((dict s sub m a o met).2.1 - a0)
 | 0,a,o,met,_,h => by simp [dict,bad] at h
 | m + 1,a,o,met,hw,h => by
  rw [dict] at h ⊢
  split at h
  ·rename_i h1;exact absurd h h1
  rename_i h1
  rw [if_neg h1]
  have h1:=Classical.not_not.1 h1
  split at h
  ·rename_i h2
   rw [if_pos h2]
   have b:=Lx.next_bd h1 (by rw [h2.1];decide)
   have:=Lx.skip_ge s a.toNat
   simp only;omega
  rename_i h2
  rw [if_neg h2]
  split at h
  ·simp [bad] at h
  rename_i h3
  rw [if_neg h3]
  split at h
  ·simp [bad] at h
  rename_i h4
  rw [if_neg h4]
  split at h
  ·simp [bad] at h
  rename_i h5
  rw [if_neg h5]
  split at h
  ·simp [bad] at h
  rename_i h6
  rw [if_neg h6]
  split at h
  ·rename_i h7;exact absurd h h7
  rename_i h7
  rw [if_neg h7]
  have h7:=Classical.not_not.1 h7
  have g:=hg _ h7
  have b:=Lx.next_bd h1 h3
  have:=Lx.skip_ge s a.toNat
  have f:=(Lx.next_form h1).str
  have hj:=join_wt (o:=o) (key:=(next s a).1.s) (v:=(sub (next s a).1.t).1)
  exact dict_wt hg hb a0 m _ _ _ (by omega) h
theorem obj_wt (s : List UInt8) : ∀ n,GoodW (obj s n):=by
 intro n
 induction n with
 | zero =>
  intro a h
  obtain⟨_,_,_,m,hm,_⟩:=obj_open h
  omega
 | succ n ih =>
  intro a h
  obtain⟨h1,h2,h3,m,hm,he⟩:=obj_open h
  have hm : n = m:=by omega
  subst hm
  rw [he] at h ⊢
  have b:=Lx.next_bd h1 h2
  have:=Lx.skip_ge s a.toNat
  split at h
  ·rename_i h4
   rw [if_pos h4]
   have:=leaf_wt h1
   have:=leaf_bd h1 h2
   omega
  rename_i h4
  rw [if_neg h4]
  split at h
  ·rename_i h5
   rw [if_pos h5]
   have:=arr_wt (ok:=decide (n≠0)) ih (obj_good s n) (next s a).1.t (s.length + 1) (next s a).1.t [] (by simp [Ob.wts]) h
   omega
  ·rename_i h5
   rw [if_neg h5]
   have:=dict_wt ih (obj_good s n) (next s a).1.t (s.length + 1) (next s a).1.t dict0 [] (by simp [dict0,Ob.wt,Ob.wts,Pl.tot]) h
   omega
end Ps
end Go.Proofs.YtjloddgofmdmgaaGreatDoor

namespace Go.Proofs.YtjloddgofmdmgaaGreatDoor
set_option maxRecDepth 20000
open Eng Go.RowKit
theorem ob1_ov2 {A : Nat→Prop} {w : World} {k n g : Int} {s : List UInt8} : OV A w (obV (ob1 k n g s) nilS nilS) (ob1 k n g s):=ObAt.ov (o:=ob1 k n g s) ⟨SlA.nil _ _ _ _,SlA.nil _ _ _ _,OVs.nil⟩
end Go.Proofs.YtjloddgofmdmgaaGreatDoor
namespace Go.Proofs.YtjloddgofmdmgaaGreatDoor
set_option maxRecDepth 20000
open Eng Go.RowKit
namespace Eng
theorem Ent.below {e : Ent} {w w' : World} (h : e.is w) (hb : Below w.heap.size w w') : e.is w':=e.keep h fun k hk => hb.block k (e.lt h k hk)
section
variable {S : Nat→Prop} {P : Program} {w w0 : World} {L : List Ent} {PK : List PanicEntry→World→Prop} {K : Value→World→Prop}
theorem c_rm {f : Nat} {args : Array Value} {e e' : Ent} {M : Mem} {ok : Prop} {R : Value→Mem→Prop} {c : List PanicEntry} (ho : OwnS S w0 w L) (i : Nat) (hi : L[i]? = some (.two e (.mem M))) (h : Lent P f args e M w ok e' R c)
  (kr : ∀ v N w',ok→M.le N→R v N→OwnS S w0 w' (L.set i (.two e' (.mem N)))→K v w') (kp : ∀ e2 w',¬ ok→OwnS S w0 w' (L.set i (.two e2 (.mem M)))→PK c w') : CallX P f args w PK K:=by
 by_cases hk : ok
 ·exact c_ret (h.ret hk) fun v w' ⟨N,hle,hr,ht⟩ => kr v N w' hk hle hr (ho.turn i hi ht)
 ·exact c_pan (h.pan hk) fun c' w' ⟨hc,e2,ht⟩ => by subst hc;exact kp e2 w' hk (ho.turn i hi ht)
end
end Eng
def rdC (s : List UInt8) (a : Int) : List Value:=[.string ⟨s.toArray⟩,.int .i64 a]
abbrev rdE (b : Nat) (s : List UInt8) (a : Int) : Ent:=.cells b (rdC s a) 118
abbrev rmE (b : Nat) (s : List UInt8) (a : Int) (M : Mem) : Ent:=.two (rdE b s a) (.mem M)
abbrev rdP (b : Nat) : Value:=.pointer (some ⟨b,0,none⟩)
def wrongE (e : Int) : PanicEntry:={ v:=.iface 200 (.int .i64 e),recovered:=false }
theorem fr0 : fOff Tryz.prog 118 0 = some 0:=by kernel_rfl
theorem fr1 : fOff Tryz.prog 118 1 = some 1:=by kernel_rfl
theorem nfW : notIface Tryz.prog 200 = true:=by kernel_rfl
section
variable {w : World} {PK : List PanicEntry→World→Prop} {K : Value→World→Prop} {S : Nat→Prop} {w0 : World} {L : List Ent}
theorem fa_r0 {b : Nat} : DoX Tryz.prog (mFA 118 (.pointer (some ⟨b,0,none⟩)) 0) w PK K = K (.pointer (some ⟨b,0,none⟩)) w:=f_addr fr0
theorem fa_r1 {b : Nat} : DoX Tryz.prog (mFA 118 (.pointer (some ⟨b,0,none⟩)) 1) w PK K = K (.pointer (some ⟨b,1,none⟩)) w:=f_addr fr1
theorem rd_s {b : Nat} {s : List UInt8} {a : Int} (h : (rdE b s a).is w) : DoX Tryz.prog (mLoad 9 (.pointer (some ⟨b,0,none⟩))) w PK K = K (.string ⟨s.toArray⟩) w:=l_cell nStr5 (cells_cell (T:=118) (cs:=rdC s a) (i:=0) h rfl)
theorem rdr_s {b : Nat} {s : List UInt8} {a : Int} (h : (rdE b s a).is w) : (mLoad 9 (.pointer (some ⟨b,0,none⟩))).run Tryz.prog w = .ok (.value (.string ⟨s.toArray⟩)) w:=run_load_cell nStr5 (cells_cell (T:=118) (cs:=rdC s a) (i:=0) h rfl)
theorem rdr_a {b : Nat} {s : List UInt8} {a : Int} (h : (rdE b s a).is w) : (mLoad 3 (.pointer (some ⟨b,1,none⟩))).run Tryz.prog w = .ok (.value (.int .i64 a)) w:=run_load_cell nInt5 (cells_cell (T:=118) (cs:=rdC s a) (i:=1) h rfl)
theorem rd_put (i : Nat) {b : Nat} {s : List UInt8} {a a' : Int} (ho : OwnS S w0 w L) (hi : L[i]? = some (rdE b s a)) (k : ∀ w',OwnS S w0 w' (L.set i (rdE b s a'))→K undef w') : DoX Tryz.prog (mStore 3 (.pointer (some ⟨b,1,none⟩)) (.int .i64 a')) w PK K:=
 o_store i ho hi (by kernel_rfl) rfl (show 1 < 2 by omega) k
theorem throw {e : Int} {K2 : Value→Value→World→Prop} {PK2 : List PanicEntry→World→Prop} (h : PK2 [wrongE e] w) : DoX Tryz.prog (mIface 200 (.int .i64 e)) w PK fun t w => DoX Tryz.prog (mPanic t) w PK2 (K2 t):=by
 rw [m_iface nfW,m_panic]
 exact h
end
theorem peek_ret (b : Nat) (s : List UInt8) (a at_ : Int) (w : World) (hs : s.length≤1099511627776) (hr : (rdE b s a).is w) :
  Ret Tryz.prog 225 #[rdP b,.int .i64 at_] w (fun v w' => v = .tuple #[tokV (Lx.next s at_).1,.bool (decide ((Lx.next s at_).2 = 0))]∧Below w.heap.size w w'):=by
 refine ret_of fun K hK => S_parse_reader_peek_ok ?_
 unfold S_parse_reader_peek
 refine o_tok (Own.start w) fun b4 w1 ho => ?_
 rw [m_nil,fa_r0,rd_s (Ent.below (e:=rdE b s a) hr ho.done)]
 refine tk_new ho (next_ret s at_ w1 hs) fun b6 w2 ho => ?_
 rw [tk_v ho 0 rfl]
 simp only [rs]
 refine tk_put 1 ho rfl fun w3 ho => ?_
 exact ret_v2 (rv_cell (ho.agg 1 rfl aggTok)) rv_val (hK _ _ ⟨rfl,ho.done⟩)
def Has (s : List UInt8) (a : Int) : Prop:=(Lx.next s a).2 = 0∧(Lx.next s a).1.k≠0
def lacks (s : List UInt8) (a : Int) : Int:=if (Lx.next s a).2≠0 then (Lx.next s a).2 else 4
theorem pnext_ret (b : Nat) (s : List UInt8) (a : Int) (M : Mem) (w : World) (hs : s.length≤1099511627776) (hr : (rmE b s a M).is w) :
  Lent Tryz.prog 118 #[rdP b] (rdE b s a) M w (Has s a) (rdE b s (Lx.next s a).1.t) (fun v N => v = tokV (Lx.next s a).1) [wrongE (lacks s a)]:=by
 refine lent_of (fun K ho hret hpan => S_parse_reader_next_ok ?_) hr
 unfold S_parse_reader_next
 refine o_tok ho fun b2 w1 ho => ?_
 have two : ∀ {W : World} {b3 : Nat},OwnS (rmE b s a M).blk w W [tokE b3 (Lx.next s a).1,tokE b2 Lx.none_,rdE b s a,.mem M]→S_parse_reader_next_0 (rdP b) (.pointer (some ⟨b2,0,none⟩)) (.pointer (some ⟨b3,0,none⟩)) (.int .i64 (Lx.next s a).2) W K:=by
  intro W b3 ho
  have bad : ∀ {e : Int},¬ Has s a→lacks s a = e→K (.panicked [wrongE e]) W:=by
   intro e hn he
   subst he
   exact hpan hn (rdE b s a) M W _ (ho.tail.tail) M.le_refl
  unfold Has lacks at *
  generalize Lx.next s a = x at *
  unfold S_parse_reader_next_0
  refine join fun J hJ => ?_
  simp only [rs]
  by_cases e1 : x.2 = 0
  case neg =>
   simp only [e1,ne_eq,not_false_eq_true,decide_true,i_t]
   exact throw (bad (fun h => e1 h.1) (if_pos e1))
  simp only [e1,ne_eq,not_true,decide_false,i_f]
  refine hJ _ _ fun _ => ?_
  unfold S_parse_reader_next_1
  refine join fun J hJ => ?_
  rw [fa_t0,tk_k ho 0 rfl]
  simp only [rs]
  by_cases e2 : x.1.k = 0
  ·simp only [e2,decide_true,i_t]
   exact throw (bad (fun h => h.2 e2) (if_neg (by rw [e1];simp)))
  simp only [e2,decide_false,i_f]
  refine hJ _ _ fun _ => ?_
  unfold S_parse_reader_next_2
  rw [fa_t2,tk_t ho 0 rfl,m_nil,fa_r1]
  refine rd_put 2 ho rfl fun w2 ho => ?_
  have ho : OwnS (rmE b s a M).blk w w2 [tokE b3 x.1,tokE b2 Lx.none_,rdE b s x.1.t,.mem M]:=ho
  rw [tk_v ho 0 rfl]
  refine tk_put 1 ho rfl fun w3 ho => ?_
  refine ret_v1 (rv_cell (ho.agg 1 rfl aggTok)) ?_
  have ho : OwnS (rmE b s a M).blk w w3 ([tokE b3 x.1,tokE b2 x.1]++([rdE b s x.1.t,.mem M]++[])):=ho
  exact hret ⟨e1,e2⟩ _ M w3 _ ho.front M.le_refl rfl
 have ho:=ho.drew
 refine⟨fun W => (rdE b s a).is W,ho.at_ 1 rfl,?_⟩
 refine hd_pure _ (fun _ => run_nil) (hd_pure _ (fun _ => run_fa fr0) (hd_do _ (fun W h => rdr_s h) ?_))
 refine hd_pure _ (fun _ => run_nil) (hd_pure _ (fun _ => run_fa fr1) (hd_do _ (fun W h => rdr_a h) ?_))
 refine⟨?_,?_⟩
 ·refine c_below ho (R:=fun v => v = tokR (Lx.next s a)) (next_ret s a _ hs) ?_
  rintro _ w2 rfl ho
  refine hd_pure _ (fun _ => run_ext0) (hd_pure _ (fun _ => run_ext1) ?_)
  refine o_tok ho fun b3 w3 ho => ⟨ho.at_ 2 rfl,?_⟩
  refine tk_put 0 ho rfl fun w4 ho => ?_
  exact two ho
 ·refine o_tok ho fun b3 w3 ho => ⟨ho.at_ 2 rfl,?_⟩
  refine c_below ho (R:=fun v => v = tokR (Lx.next s a)) (next_ret s a _ hs) ?_
  rintro _ w2 rfl ho
  refine hd_pure _ (fun _ => run_ext0) (hd_pure _ (fun _ => run_ext1) ?_)
  refine tk_put 0 ho rfl fun w4 ho => ?_
  exact two ho
end Go.Proofs.YtjloddgofmdmgaaGreatDoor
namespace Go.Proofs.YtjloddgofmdmgaaGreatDoor
set_option maxRecDepth 20000
open Eng
def S_value_Real (t0 : Value) (w : World) (K : Ending→World→Prop) : Prop:=
 DoX Tryz.prog (mAlloc 27) w (pk K) fun t2 w =>
 DoX Tryz.prog (mBuild 27 #[(0,(.int .i64 3)),(1,t0)]) w (pk K) fun t4 w =>
 DoX Tryz.prog (mStore 27 t2 t4) w (pk K) fun _ w =>
 RetX Tryz.prog [.cell t2 27] w K
theorem S_value_Real_eq (t0 : Value) (w : World) (K : Ending→World→Prop) : wpX Tryz.prog 5 [] [] none (bodyOf Tryz.f182) (topQ Tryz.prog [.cell 2 27] K) (startX [t0]) [] w = S_value_Real t0 w K:=by kernel_rfl
theorem S_value_Real_ok {t0 : Value} {w : World} {K : Ending→World→Prop} (h : S_value_Real t0 w K) : Calls Tryz.prog 182 #[t0] w K:=
 calls_of_wpX Tryz.func182 rfl rfl rfl rfl (Eq.mpr (S_value_Real_eq t0 w K) h)
def S_value_Ref (t0 t1 : Value) (w : World) (K : Ending→World→Prop) : Prop:=
 DoX Tryz.prog (mAlloc 27) w (pk K) fun t4 w =>
 DoX Tryz.prog (mBuild 27 #[(0,(.int .i64 8)),(1,t0),(2,t1)]) w (pk K) fun t7 w =>
 DoX Tryz.prog (mStore 27 t4 t7) w (pk K) fun _ w =>
 RetX Tryz.prog [.cell t4 27] w K
theorem S_value_Ref_eq (t0 t1 : Value) (w : World) (K : Ending→World→Prop) : wpX Tryz.prog 8 [] [] none (bodyOf Tryz.f227) (topQ Tryz.prog [.cell 4 27] K) (startX [t0,t1]) [] w = S_value_Ref t0 t1 w K:=by kernel_rfl
theorem S_value_Ref_ok {t0 t1 : Value} {w : World} {K : Ending→World→Prop} (h : S_value_Ref t0 t1 w K) : Calls Tryz.prog 227 #[t0,t1] w K:=
 calls_of_wpX Tryz.func227 rfl rfl rfl rfl (Eq.mpr (S_value_Ref_eq t0 t1 w K) h)
def S_value_Bool_0 (t2 t3 : Value) (w : World) (K : Ending→World→Prop) : Prop:=
 DoX Tryz.prog (mLoad 27 t3) w (pk K) fun t7 w =>
 DoX Tryz.prog (mStore 27 t2 t7) w (pk K) fun _ w =>
 RetX Tryz.prog [.cell t2 27] w K
def S_value_Bool (t0 : Value) (w : World) (K : Ending→World→Prop) : Prop:=
 DoX Tryz.prog (mAlloc 27) w (pk K) fun t2 w =>
 DoX Tryz.prog (mBuild 27 #[(0,(.int .i64 1))]) w (pk K) fun t4 w =>
 DoX Tryz.prog (mAlloc 27) w (pk K) fun t3 w =>
 DoX Tryz.prog (mStore 27 t3 t4) w (pk K) fun _ w =>
 JoinX (fun J1 =>
 IfX t0 (DoX Tryz.prog (mFA 27 t3 1) w (pk K) fun t6 w =>
 DoX Tryz.prog (mStore 2 t6 (.int .i64 1)) w (pk K) fun _ w =>
 J1 [] w) (J1 [] w)) (fun vs1 w => ∀ _ : Sg,S_value_Bool_0 t2 t3 w K)
theorem S_value_Bool_eq (t0 : Value) (w : World) (K : Ending→World→Prop) : wpX Tryz.prog 8 [(4,[])] [] none (bodyOf Tryz.f186) (topQ Tryz.prog [.cell 2 27] K) (startX [t0]) [] w = S_value_Bool t0 w K:=by kernel_rfl
theorem S_value_Bool_ok {t0 : Value} {w : World} {K : Ending→World→Prop} (h : S_value_Bool t0 w K) : Calls Tryz.prog 186 #[t0] w K:=
 calls_of_wpX Tryz.func186 rfl rfl rfl rfl (Eq.mpr (S_value_Bool_eq t0 w K) h)
end Go.Proofs.YtjloddgofmdmgaaGreatDoor
namespace Go.Proofs.YtjloddgofmdmgaaGreatDoor
set_option maxRecDepth 20000
open Eng Go.RowKit
theorem vreal_ret (n : Int) (w : World) : Ret Tryz.prog 182 #[.int .i64 n] w (obR (ob1 3 n 0 []) nilS nilS w):=by
 refine ret_of fun K hK => S_value_Real_ok ?_
 unfold S_value_Real
 refine o_oba (Own.start w) fun b w1 ho => ?_
 have hb : ∀ {PK : List PanicEntry→World→Prop} {K : Value→World→Prop},DoX Tryz.prog (mBuild 27 #[(0,(.int .i64 3)),(1,.int .i64 n)]) w1 PK K = K (obV (ob1 3 n 0 []) nilS nilS) w1:=do_eq (by kernel_rfl)
 rw [hb]
 refine ob_put 0 rfl rfl ho rfl fun w2 ho => ?_
 exact ret_ob ho (hK _ _ ⟨rfl,ho.done⟩)
theorem vref_ret (n g : Int) (w : World) : Ret Tryz.prog 227 #[.int .i64 n,.int .i64 g] w (obR (ob1 8 n g []) nilS nilS w):=by
 refine ret_of fun K hK => S_value_Ref_ok ?_
 unfold S_value_Ref
 refine o_oba (Own.start w) fun b w1 ho => ?_
 have hb : ∀ {PK : List PanicEntry→World→Prop} {K : Value→World→Prop},DoX Tryz.prog (mBuild 27 #[(0,(.int .i64 8)),(1,.int .i64 n),(2,.int .i64 g)]) w1 PK K = K (obV (ob1 8 n g []) nilS nilS) w1:=do_eq (by kernel_rfl)
 rw [hb]
 refine ob_put 0 rfl rfl ho rfl fun w2 ho => ?_
 exact ret_ob ho (hK _ _ ⟨rfl,ho.done⟩)
theorem vbool_ret (b : Bool) (w : World) : Ret Tryz.prog 186 #[.bool b] w (obR (ob1 1 (if b then 1 else 0) 0 []) nilS nilS w):=by
 refine ret_of fun K hK => S_value_Bool_ok ?_
 unfold S_value_Bool
 refine o_oba (Own.start w) fun b2 w1 ho => ?_
 have hb : ∀ {PK : List PanicEntry→World→Prop} {K : Value→World→Prop},DoX Tryz.prog (mBuild 27 #[(0,(.int .i64 1))]) w1 PK K = K (obV (ob1 1 0 0 []) nilS nilS) w1:=do_eq (by kernel_rfl)
 rw [hb]
 refine o_oba ho fun b3 w2 ho => ?_
 refine ob_put (o':=ob1 1 0 0 []) (vk':=nilS) (vc':=nilS) 0 rfl rfl ho rfl fun w3 ho => ?_
 refine join fun J hJ => ?_
 have fin : ∀ {W : World} {n : Int},Own w W [obE b3 (ob1 1 n 0 []) nilS nilS,obE b2 ob0 nilS nilS]→n = (if b then 1 else 0)→J [] W:=by
  intro W n ho hn
  refine hJ _ _ fun _ => ?_
  unfold S_value_Bool_0
  rw [ob_v ho 0 rfl]
  refine ob_put 1 rfl rfl ho rfl fun w4 ho => ?_
  exact ret_v1 (rv_cell (ho.agg 1 rfl aggOb)) (hK _ _ ⟨by rw [hn];rfl,ho.done⟩)
 cases b with
 | true =>
  rw [i_t,fa_o1]
  exact o_store 0 ho rfl (by kernel_rfl) rfl (show 0 + 1 < 6 by omega) fun w4 ho => fin (n:=1) ho rfl
 | false =>
  rw [i_f]
  exact fin (n:=0) ho rfl
def pend (s : List UInt8) (t : Lx.Tok) (a : Int) : Int:=match Ps.ref s t with | some p => p.2 | none => a
def refO (s : List UInt8) (t : Lx.Tok) : Ob:=match Ps.ref s t with | some p => ob1 8 t.n p.1 [] | none => ob1 0 0 0 []
theorem pref_ret (b : Nat) (s : List UInt8) (t : Lx.Tok) (a : Int) (M : Mem) (w : World) (hs : s.length≤1099511627776) (hr : (rmE b s a M).is w) :
  Lent Tryz.prog 180 #[rdP b,tokV t] (rdE b s a) M w True (rdE b s (pend s t a)) (fun v N => v = .tuple #[obV (refO s t) nilS nilS,.bool (Ps.ref s t).isSome]) []:=by
 refine lent_of (fun K ho hret hpan => S_parse_reader_ref_ok ?_) hr
 clear hpan
 have hret:=hret trivial
 unfold S_parse_reader_ref
 refine o_tkb t ho fun b3 w1 ho => ?_
 refine o_oba ho fun b4 w2 ho => ?_
 have no : ∀ {W : World} {L : List Ent} {o : Ob} (i : Nat),OwnS (rmE b s a M).blk w W (L++([rdE b s a,.mem M]++[]))→L[i]? = some (obE b4 o nilS nilS)→Ps.ref s t = none →
   DoX Tryz.prog (mBuild 27 #[]) W (pk K) (fun t W => DoX Tryz.prog (mStore 27 (.pointer (some ⟨b4,0,none⟩)) t) W (pk K) fun _ W => RetX Tryz.prog [.cell (.pointer (some ⟨b4,0,none⟩)) 27,.val (.bool false)] W K):=by
  intro W L o i ho hi hn
  rw [m_ob0]
  have hil : i < L.length:=(List.getElem?_eq_some_iff.1 hi).1
  refine ob_put i rfl rfl ho (by rw [List.getElem?_append_left hil];exact hi) fun w' ho => ?_
  rw [List.set_append_left _ _ hil] at ho
  refine ret_v2 (rv_cell (ho.agg (cs:=obC Vl.ob0 nilS nilS) i (by rw [List.getElem?_append_left (by simp;omega)];simp [hil];rfl) aggOb)) rv_val ?_
  refine hret _ M w' (L.set i (obE b4 Vl.ob0 nilS nilS)++[]) ?_ M.le_refl ?_
  ·rw [pend,hn];exact ho.front
  ·rw [refO,hn];rfl
 have hpend:=(rfl : pend s t a = pend s t a)
 unfold pend at hpend
 have hrefO : refO s t = _:=rfl
 by_cases h1 : t.n < 1∨8191 < t.n
 ·have hr : Ps.ref s t = none:=by rw [Ps.ref,if_pos h1]
  by_cases h2 : t.n < 1
  ·simp only [rs,fa_t3,tk_n ho 1 rfl,decide_eq_true h2,g_un]
   exact no (L:=[_,_]) 0 ho rfl hr
  ·have h3 : 8191 < t.n:=by omega
   simp only [rs,fa_t3,tk_n ho 1 rfl,decide_eq_false h2,decide_eq_true h3,g_un]
   exact no (L:=[_,_]) 0 ho rfl hr
 have h2 : ¬ t.n < 1:=by omega
 have h3 : ¬ 8191 < t.n:=by omega
 simp only [rs,fa_t3,fa_t2,tk_n ho 1 rfl,tk_t ho 1 rfl,decide_eq_false h2,decide_eq_false h3,g_un]
 refine c_below ho (R:=fun v => v = .tuple #[tokV (Lx.next s t.t).1,.bool (decide ((Lx.next s t.t).2 = 0))]) (peek_ret b s a t.t w2 hs (ho.at_ 2 rfl)) ?_
 rintro _ w3 rfl ho
 simp only [ex]
 refine o_tok ho fun b6 w4 ho => ?_
 refine tk_put 0 ho rfl fun w5 ho => ?_
 have ho : OwnS (rmE b s a M).blk w w5 [tokE b6 (Lx.next s t.t).1,obE b4 ob0 nilS nilS,tokE b3 t,rdE b s a,.mem M]:=ho
 by_cases h4 : (Lx.next s t.t).2≠0∨(Lx.next s t.t).1.k≠1∨(Lx.next s t.t).1.n < 0∨65535 < (Lx.next s t.t).1.n
 ·have hr : Ps.ref s t = none:=by rw [Ps.ref,if_neg h1,if_pos h4]
  have no':=no (W:=w5) (L:=[_,_,_]) 1 ho rfl hr
  by_cases q1 : (Lx.next s t.t).2 = 0
  ·by_cases q2 : (Lx.next s t.t).1.k = 1
   ·by_cases q3 : (Lx.next s t.t).1.n < 0
    ·simp only [rs,fa_t0,fa_t3,tk_k ho 0 rfl,tk_n ho 0 rfl,q1,q2,q3,ne_eq,not_true,decide_true,decide_false,g_un,Bool.not_true]
     exact no'
    ·have q4 : 65535 < (Lx.next s t.t).1.n:=by
      rcases h4 with h | h | h | h
      ·exact absurd q1 h
      ·exact absurd q2 h
      ·exact absurd h q3
      ·exact h
     simp only [rs,fa_t0,fa_t3,tk_k ho 0 rfl,tk_n ho 0 rfl,q1,q2,q3,q4,ne_eq,not_true,decide_true,decide_false,g_un,Bool.not_true]
     exact no'
   ·simp only [rs,fa_t0,fa_t3,tk_k ho 0 rfl,tk_n ho 0 rfl,q1,q2,ne_eq,not_true,not_false_eq_true,decide_true,decide_false,g_un,Bool.not_true]
    exact no'
  ·simp only [rs,fa_t0,fa_t3,tk_k ho 0 rfl,tk_n ho 0 rfl,q1,ne_eq,not_true,not_false_eq_true,decide_true,decide_false,g_un,Bool.not_false]
   exact no'
 have q : (Lx.next s t.t).2 = 0∧(Lx.next s t.t).1.k = 1∧¬ (Lx.next s t.t).1.n < 0∧¬ 65535 < (Lx.next s t.t).1.n:=by
  refine⟨?_,?_,?_,?_⟩
  ·exact Classical.not_not.1 fun h => h4 (.inl h)
  ·exact Classical.not_not.1 fun h => h4 (.inr (.inl h))
  ·exact fun h => h4 (.inr (.inr (.inl h)))
  ·exact fun h => h4 (.inr (.inr (.inr h)))
 obtain⟨q1,q2,q3,q4⟩:=q
 simp only [rs,fa_t0,fa_t2,fa_t3,tk_k ho 0 rfl,tk_n ho 0 rfl,tk_t ho 0 rfl,q1,q2,q3,q4,ne_eq,not_true,decide_true,decide_false,g_un,Bool.not_true]
 refine c_below ho (R:=fun v => v = .tuple #[tokV (Lx.next s (Lx.next s t.t).1.t).1,.bool (decide ((Lx.next s (Lx.next s t.t).1.t).2 = 0))]) (peek_ret b s a (Lx.next s t.t).1.t w5 hs (ho.at_ 3 rfl)) ?_
 rintro _ w6 rfl ho
 simp only [ex]
 refine o_tok ho fun b8 w7 ho => ?_
 refine tk_put 0 ho rfl fun w8 ho => ?_
 have hr : Ps.ref s t = if (Lx.next s (Lx.next s t.t).1.t).2 = 0∧(Lx.next s (Lx.next s t.t).1.t).1.k = 5∧(Lx.next s (Lx.next s t.t).1.t).1.s = [82] then some ((Lx.next s t.t).1.n,(Lx.next s (Lx.next s t.t).1.t).1.t) else none:=by
  rw [Ps.ref,if_neg h1,if_neg h4]
 generalize Lx.next s (Lx.next s t.t).1.t = x at *
 have ho : OwnS (rmE b s a M).blk w w8 [tokE b8 x.1,tokE b6 (Lx.next s t.t).1,obE b4 ob0 nilS nilS,tokE b3 t,rdE b s a,.mem M]:=ho
 by_cases e1 : x.2 = 0
 case neg =>
  simp only [e1,decide_false,rs,g_un,Bool.not_false]
  exact no (L:=[_,_,_,_]) 2 ho rfl (by rw [hr,if_neg (fun h => e1 h.1)])
 simp only [e1,decide_true,rs,g_un,Bool.not_true,tk_v ho 0 rfl]
 refine c_below ho (R:=fun v => v = .bool (decide (x.1.k = 5) && decide (x.1.s = [82]))) (pword_ret x.1 5 [82] w8) ?_
 rintro _ w9 rfl ho
 cases e2 : (decide (x.1.k = 5) && decide (x.1.s = [82])) with
 | false =>
  simp only [rs,Bool.not_false]
  have hnr : ¬ (x.2 = 0∧x.1.k = 5∧x.1.s = [82]):=fun h => by
   rw [decide_eq_true h.2.1,decide_eq_true h.2.2] at e2
   exact absurd e2 (by decide)
  exact no (L:=[_,_,_,_]) 2 ho rfl (by rw [hr,if_neg hnr])
 | true =>
  simp only [Bool.and_eq_true,decide_eq_true_eq] at e2
  rw [if_pos ⟨e1,e2.1,e2.2⟩] at hr
  simp only [rs,Bool.not_true,fa_t2,tk_t ho 0 rfl,m_nil,fa_r1]
  refine rd_put 4 ho rfl fun w10 ho => ?_
  have ho : OwnS (rmE b s a M).blk w w10 [tokE b8 x.1,tokE b6 (Lx.next s t.t).1,obE b4 ob0 nilS nilS,tokE b3 t,rdE b s x.1.t,.mem M]:=ho
  rw [tk_n ho 3 rfl,tk_n ho 1 rfl]
  refine c_below ho (R:=fun v => v = obV (ob1 8 t.n (Lx.next s t.t).1.n []) nilS nilS) (vref_ret t.n (Lx.next s t.t).1.n w10) ?_
  rintro _ w11 rfl ho
  refine ob_put 2 rfl rfl ho rfl fun w12 ho => ?_
  refine ret_v2 (rv_cell (ho.agg 2 rfl aggOb)) rv_val ?_
  have ho : OwnS (rmE b s a M).blk w w12 ([tokE b8 x.1,tokE b6 (Lx.next s t.t).1,obE b4 (ob1 8 t.n (Lx.next s t.t).1.n []) nilS nilS,tokE b3 t]++([rdE b s x.1.t,.mem M]++[])):=ho
  have hf:=ho.front
  rw [← show pend s t a = x.1.t by rw [pend,hr]] at hf
  exact hret _ M w12 _ hf M.le_refl (by rw [refO,hr];rfl)
def PObj (s : List UInt8) (n : Nat) : Prop:=∀ (b : Nat) (a : Int) (M : Mem) (w : World),Has s a→(rmE b s (Lx.next s a).1.t M).is w →
 Lent Tryz.prog 117 #[rdP b,tokV (Lx.next s a).1,.int .i64 (24 - (n : Int))] (rdE b s (Lx.next s a).1.t) M w ((Ps.obj s n a).2.2 = 0) (rdE b s (Ps.obj s n a).2.1) (fun v N => OV N.A N.w v (Ps.obj s n a).1) [wrongE (Ps.obj s n a).2.2]
def PArr (s : List UInt8) (n : Nat) : Prop:=∀ (b : Nat) (a : Int) (M : Mem) (w : World),0≤a→a≤s.length→(rmE b s a M).is w →
 Lent Tryz.prog 187 #[rdP b,.int .i64 (24 - (n : Int))] (rdE b s a) M w ((Ps.arr s (decide (n≠0)) (Ps.obj s n) (s.length + 1) a []).2.2 = 0) (rdE b s (Ps.arr s (decide (n≠0)) (Ps.obj s n) (s.length + 1) a []).2.1) (fun v N => OV N.A N.w v (Ps.arr s (decide (n≠0)) (Ps.obj s n) (s.length + 1) a []).1) [wrongE (Ps.arr s (decide (n≠0)) (Ps.obj s n) (s.length + 1) a []).2.2]
def PDict (s : List UInt8) (n : Nat) : Prop:=∀ (b : Nat) (a : Int) (M : Mem) (w : World),0≤a→a≤s.length→(rmE b s a M).is w →
 Lent Tryz.prog 188 #[rdP b,.int .i64 (24 - (n : Int))] (rdE b s a) M w ((Ps.dict s (Ps.obj s n) (s.length + 1) a Ps.dict0 []).2.2 = 0) (rdE b s (Ps.dict s (Ps.obj s n) (s.length + 1) a Ps.dict0 []).2.1) (fun v N => OV N.A N.w v (Ps.dict s (Ps.obj s n) (s.length + 1) a Ps.dict0 []).1) [wrongE (Ps.dict s (Ps.obj s n) (s.length + 1) a Ps.dict0 []).2.2]
end Go.Proofs.YtjloddgofmdmgaaGreatDoor
namespace Go.Proofs.YtjloddgofmdmgaaGreatDoor
set_option maxRecDepth 20000
open Eng Go.RowKit
theorem obj_lacks {s : List UInt8} {n : Nat} {a : Int} (h : ¬ Has s a) : Ps.obj s n a = Ps.bad (lacks s a):=by
 unfold Has at h
 unfold lacks
 cases n
 all_goals
  rw [Ps.obj]
  by_cases e1 : (Lx.next s a).2 = 0
  ·have e2 : (Lx.next s a).1.k = 0:=Classical.not_not.1 fun h2 => h ⟨e1,h2⟩
   rw [if_neg (by rw [e1];simp),if_pos e2,if_neg (by rw [e1];simp)]
  ·rw [if_pos e1,if_pos e1]
theorem lacks_pos {s : List UInt8} {a : Int} : lacks s a≠0:=by
 unfold lacks
 split
 ·assumption
 ·decide
theorem pobj_ret (s : List UInt8) (hs : s.length≤1000000000) (harr : ∀ n,n≤23→PObj s n→PArr s n) (hdict : ∀ n,n≤23→PObj s n→PDict s n) : ∀ n : Nat,n≤24→PObj s n:=by
 intro n
 induction n with
 | zero =>
  intro _ b a M w hh hr
  have hob : Ps.obj s 0 a = _:=Ps.obj.eq_def s 0 a
  simp only at hob
  refine lent_of (fun K ho hret hpan => S_parse_reader_object_ok ?_) hr
  unfold S_parse_reader_object
  refine o_tkb _ ho fun b4 w1 ho => ?_
  refine o_oba ho fun b6 w2 ho => ?_
  clear hret
  obtain⟨e1,e2⟩:=hh
  generalize Ps.obj s 0 a = R at *
  generalize Lx.next s a = x at *
  rw [if_neg (by rw [e1];simp),if_neg e2] at hob
  refine join fun J hJ => ?_
  rw [tk_v ho 1 rfl]
  refine c_below ho (R:=fun v => v = .bool (Ps.begins x.1)) (pfirst_ret x.1 w2 e2) ?_
  rintro _ w3 rfl ho
  have fail : ∀ {e : Int},R = Ps.bad e→e≠0→∀ {W : World},OwnS (rmE b s x.1.t M).blk w W [obE b6 ob0 nilS nilS,tokE b4 x.1,rdE b s x.1.t,.mem M]→K (.panicked [wrongE e]) W:=by
   intro e he h0 W ho
   subst he
   exact hpan h0 _ M W _ ho.tail.tail M.le_refl
  cases e3 : Ps.begins x.1 with
  | false =>
   simp only [rs,Bool.not_false,i_t]
   rw [if_pos e3] at hob
   exact throw (fail hob (by decide) ho)
  | true =>
   simp only [rs,Bool.not_true,i_f]
   rw [if_neg (by rw [e3];simp)] at hob
   refine hJ _ _ fun _ => ?_
   unfold S_parse_reader_object_0
   refine join fun J hJ => ?_
   simp only [rs,show decide ((24 : Int)≤24 - ((0 : Nat) : Int)) = true by decide]
   exact throw (fail hob (by decide) ho)
 | succ n ih =>
  intro hn b a M w hh hr
  have ih:=ih (by omega)
  have harr:=harr n (by omega) ih
  have hdict:=hdict n (by omega) ih
  have hob : Ps.obj s (n + 1) a = _:=Ps.obj.eq_def s (n + 1) a
  simp only at hob
  refine lent_of (fun K ho hret hpan => S_parse_reader_object_ok ?_) hr
  unfold S_parse_reader_object
  refine o_tkb _ ho fun b4 w1 ho => ?_
  refine o_oba ho fun b6 w2 ho => ?_
  obtain⟨e1,e2⟩:=hh
  have hbd:=@Lx.next_bd s a e1 e2
  have hfm:=@Lx.next_form s a e1
  have hge:=Lx.skip_ge s a.toNat
  generalize hR : Ps.obj s (n + 1) a = R at *
  clear hR
  generalize Lx.next s a = x at *
  rw [if_neg (by rw [e1];simp),if_neg e2] at hob
  refine join fun J hJ => ?_
  rw [tk_v ho 1 rfl]
  refine c_below ho (R:=fun v => v = .bool (Ps.begins x.1)) (pfirst_ret x.1 w2 e2) ?_
  rintro _ w3 rfl ho
  have fail : ∀ {e : Int},R = Ps.bad e→e≠0→∀ {W : World},OwnS (rmE b s x.1.t M).blk w W [obE b6 ob0 nilS nilS,tokE b4 x.1,rdE b s x.1.t,.mem M]→K (.panicked [wrongE e]) W:=by
   intro e he h0 W ho
   subst he
   exact hpan h0 _ M W _ ho.tail.tail M.le_refl
  cases e3 : Ps.begins x.1 with
  | false =>
   simp only [rs,Bool.not_false,i_t]
   rw [if_pos e3] at hob
   exact throw (fail hob (by decide) ho)
  | true =>
  simp only [rs,Bool.not_true,i_f]
  rw [if_neg (by rw [e3];simp)] at hob
  refine hJ _ _ fun _ => ?_
  unfold S_parse_reader_object_0
  refine join fun J hJ => ?_
  have hdeep : ¬ (24 : Int)≤24 - ((n + 1 : Nat) : Int):=by omega
  simp only [rs,decide_eq_false hdeep]
  refine hJ _ _ fun _ => ?_
  unfold S_parse_reader_object_1
  simp only [rs,fa_t0,tk_k ho 1 rfl]
  -- what is returned
  have good : ∀ {W : World} {L : List Ent} {k m g t : Int} {z : List UInt8} (j : Nat),OwnS (rmE b s x.1.t M).blk w W (L++([rdE b s t,.mem M]++[]))→L[j]? = some (obE b6 (ob1 k m g z) nilS nilS)→R = (ob1 k m g z,t,0)→RetX Tryz.prog [.cell (.pointer (some ⟨b6,0,none⟩)) 27] W K:=by
   intro W L k m g t z j ho hj he
   have hjl : j < L.length:=(List.getElem?_eq_some_iff.1 hj).1
   refine ret_v1 (rv_cell (ho.agg (cs:=obC (ob1 k m g z) nilS nilS) j (by rw [List.getElem?_append_left hjl];exact hj) aggOb)) ?_
   subst he
   exact hret rfl _ M W _ ho.front M.le_refl ob1_ov2
  have tail : ∀ {f : Nat} {args : Array Value} {k m g : Int} {z : List UInt8} {W : World} {L : List Ent} {PK1 PK2 : List PanicEntry→World→Prop} {o : Ob} {vk vc : Value} (j : Nat),OwnS (rmE b s x.1.t M).blk w W (L++([rdE b s x.1.t,.mem M]++[]))→L[j]? = some (obE b6 o vk vc)→Ret Tryz.prog f args W (obR (ob1 k m g z) nilS nilS W)→R = (ob1 k m g z,x.1.t,0) →
    CallX Tryz.prog f args W PK1 fun t W => DoX Tryz.prog (mStore 27 (.pointer (some ⟨b6,0,none⟩)) t) W PK2 fun _ W => RetX Tryz.prog [.cell (.pointer (some ⟨b6,0,none⟩)) 27] W K:=by
   intro f args k m g z W L PK1 PK2 o vk vc j ho hj hr he
   have hjl : j < L.length:=(List.getElem?_eq_some_iff.1 hj).1
   refine c_below ho (R:=fun v => v = obV (ob1 k m g z) nilS nilS) hr ?_
   rintro _ W2 rfl ho
   refine ob_put (o':=ob1 k m g z) (vk':=nilS) (vc':=nilS) j rfl rfl ho (by rw [List.getElem?_append_left hjl];exact hj) fun W3 ho => ?_
   rw [List.set_append_left _ _ hjl] at ho
   exact good j ho (by simp [hjl]) he
  have hleafR : x.1.k≠6→R = Ps.leaf s x.1:=fun h => by rw [hob,if_pos h]
  rcases hfm.kind with k0 | k1 | k2 | k3 | k4 | k5 | k6
  ·exact absurd k0 e2
  ·have hk6 : x.1.k≠6:=by omega
   have hleaf : R = match Ps.ref s x.1 with
    | some p => (.mk 8 x.1.n p.1 [] [] [],p.2,0)
    | none => (.mk 2 x.1.n 0 [] [] [],x.1.t,0):=by rw [hleafR hk6,Ps.leaf,if_pos k1];cases Ps.ref s x.1<;>rfl
   simp only [decide_eq_true k1,i_t,tk_v ho 1 rfl]
   have ho : OwnS (rmE b s x.1.t M).blk w w3 ([obE b6 ob0 nilS nilS,tokE b4 x.1]++([rdE b s x.1.t,.mem M]++[])):=ho
   have ho:=ho.front.pair
   refine c_rm ho 0 rfl (pref_ret b s x.1 x.1.t M w3 (by omega) (ho.at_ 0 rfl)) ?_ fun _ _ h => absurd trivial h
   rintro _ N w4 _ hle rfl ho
   simp only [ex]
   have ho:=ho.split
   have ho : OwnS (rmE b s x.1.t M).blk w w4 ([rdE b s (pend s x.1 x.1.t),.mem N]++([obE b6 ob0 nilS nilS,tokE b4 x.1]++[])):=ho
   have ho:=ho.front
   refine o_oba ho fun b7 w5 ho => ?_
   refine ob_put (vk':=nilS) (vc':=nilS) 0 rfl rfl ho rfl fun w6 ho => ?_
   have ho : OwnS (rmE b s x.1.t M).blk w w6 ([obE b7 (refO s x.1) nilS nilS,obE b6 ob0 nilS nilS,tokE b4 x.1]++([rdE b s (pend s x.1 x.1.t),.mem N]++[])):=ho
   unfold refO pend at ho
   cases hp : Ps.ref s x.1 with
   | some p =>
    rw [hp] at hleaf ho
    simp only at ho
    simp only [Option.isSome_some,i_t,ob_v ho 0 rfl]
    refine ob_put 1 rfl rfl ho rfl fun w7 ho => ?_
    have ho : OwnS (rmE b s x.1.t M).blk w w7 ([obE b7 (ob1 8 x.1.n p.1 []) nilS nilS,obE b6 (ob1 8 x.1.n p.1 []) nilS nilS,tokE b4 x.1]++([rdE b s p.2,.mem N]++[])):=ho
    refine ret_v1 (rv_cell (ho.agg 1 rfl aggOb)) ?_
    subst hleaf
    exact hret rfl _ N w7 _ ho.front hle ob1_ov2
   | none =>
    rw [hp] at hleaf ho
    simp only at ho
    simp only [Option.isSome_none,i_f,fa_t3,tk_n ho 2 rfl]
    refine c_below ho (R:=fun v => v = obV (ob1 2 x.1.n 0 []) nilS nilS) (vint_ret x.1.n w6) ?_
    rintro _ w7 rfl ho
    refine ob_put 1 rfl rfl ho rfl fun w8 ho => ?_
    have ho : OwnS (rmE b s x.1.t M).blk w w8 ([obE b7 (ob1 0 0 0 []) nilS nilS,obE b6 (ob1 2 x.1.n 0 []) nilS nilS,tokE b4 x.1]++([rdE b s x.1.t,.mem N]++[])):=ho
    refine ret_v1 (rv_cell (ho.agg 1 rfl aggOb)) ?_
    subst hleaf
    exact hret rfl _ N w8 _ ho.front hle ob1_ov2
  ·have hk6 : x.1.k≠6:=by omega
   simp only [k2,show ¬ ((2 : Int) = 1) by decide,decide_true,decide_false,rs,fa_t3,tk_n ho 1 rfl]
   exact tail (L:=[_,_]) 0 ho rfl (vreal_ret x.1.n _) (by rw [hleafR hk6,Ps.leaf,if_neg (by omega),if_pos k2])
  ·have hk6 : x.1.k≠6:=by omega
   simp only [k3,show ¬ ((3 : Int) = 1) by decide,show ¬ ((3 : Int) = 2) by decide,decide_true,decide_false,rs,fa_t4',tk_s ho 1 rfl]
   exact tail (L:=[_,_]) 0 ho rfl (vstr_ret x.1.s _) (by rw [hleafR hk6,Ps.leaf,if_neg (by omega),if_neg (by omega),if_pos k3])
  ·have hk6 : x.1.k≠6:=by omega
   simp only [k4,show ¬ ((4 : Int) = 1) by decide,show ¬ ((4 : Int) = 2) by decide,show ¬ ((4 : Int) = 3) by decide,decide_true,decide_false,rs,fa_t4',tk_s ho 1 rfl]
   exact tail (L:=[_,_]) 0 ho rfl (vname_ret x.1.s _) (by rw [hleafR hk6,Ps.leaf,if_neg (by omega),if_neg (by omega),if_neg (by omega),if_pos k4])
  ·have hk6 : x.1.k≠6:=by omega
   simp only [k5,show ¬ ((5 : Int) = 1) by decide,show ¬ ((5 : Int) = 2) by decide,show ¬ ((5 : Int) = 3) by decide,show ¬ ((5 : Int) = 4) by decide,decide_true,decide_false,rs,fa_t4',tk_s ho 1 rfl]
   by_cases hn : x.1.s = [110,117,108,108]
   ·simp only [decide_eq_true hn,i_t]
    exact tail (L:=[_,_]) 0 ho rfl (vnull_ret _) (by rw [hleafR hk6,Ps.leaf,if_neg (by omega),if_neg (by omega),if_neg (by omega),if_neg (by omega),if_pos (show x.1.s = Ps.nul from hn)];rfl)
   ·simp only [decide_eq_false hn,i_f]
    refine tail (L:=[_,_]) 0 ho rfl (vbool_ret _ _) ?_
    rw [hleafR hk6,Ps.leaf,if_neg (by omega),if_neg (by omega),if_neg (by omega),if_neg (by omega),if_neg (show ¬ x.1.s = Ps.nul from hn)]
    simp only [decide_eq_true_eq]
    rfl
  ·have hs2 : x.1.s = [91]∨x.1.s = [60,60]:=by
    unfold Ps.begins at e3
    rw [if_pos k6] at e3
    simpa using e3
   rw [if_neg (show ¬ x.1.k≠6 by rw [k6];simp)] at hob
   simp only [k6,show ¬ ((6 : Int) = 1) by decide,show ¬ ((6 : Int) = 2) by decide,show ¬ ((6 : Int) = 3) by decide,show ¬ ((6 : Int) = 4) by decide,show ¬ ((6 : Int) = 5) by decide,decide_true,decide_false,rs,fa_t4',tk_s ho 1 rfl]
   rw [wrap64_id (by omega) (by omega),show (24 : Int) - ((n + 1 : Nat) : Int) + 1 = 24 - (n : Int) by omega]
   have ho : OwnS (rmE b s x.1.t M).blk w w3 ([obE b6 ob0 nilS nilS,tokE b4 x.1]++([rdE b s x.1.t,.mem M]++[])):=ho
   have ho:=ho.front.pair
   have fin : ∀ {W : World} {N : Mem} {u : Value},R.2.2 = 0→M.le N→OV N.A N.w u R.1→OwnS (rmE b s x.1.t M).blk w W [rmE b s R.2.1 N,obE b6 ob0 nilS nilS,tokE b4 x.1] →
     DoX Tryz.prog (mStore 27 (.pointer (some ⟨b6,0,none⟩)) u) W (pk K) fun _ w => RetX Tryz.prog [.cell (.pointer (some ⟨b6,0,none⟩)) 27] w K:=by
    intro W N u h0 hle hu ho
    obtain⟨xk,xc,xcs,rfl,hx⟩:=hu.open
    refine ob_put 1 hx.keys.one hx.kids.one ho rfl fun W2 ho => ?_
    refine ret_v1 (rv_cell (ho.agg 1 rfl aggOb)) ?_
    exact hret h0 _ N W2 _ ho.split hle hx.ov
   have fall : ∀ {W : World} {e2 : Ent},¬ R.2.2 = 0→OwnS (rmE b s x.1.t M).blk w W [.two e2 (.mem M),obE b6 ob0 nilS nilS,tokE b4 x.1]→pk K [wrongE R.2.2] W:=
    fun h0 ho => hpan h0 _ M _ _ ho.split M.le_refl
   rcases hs2 with h2 | h2
   ·simp only [decide_eq_true h2,i_t]
    rw [if_pos h2] at hob
    have h:=harr b x.1.t M w3 (by omega) (by omega) (ho.at_ 0 rfl)
    rw [← hob] at h
    exact c_rm ho 0 rfl h (fun v N w4 h0 hle hv ho => fin h0 hle hv ho) fun e2 w4 h0 ho => fall h0 ho
   ·have h91 : ¬ x.1.s = [91]:=by rw [h2];decide
    simp only [decide_eq_false h91,i_f]
    rw [if_neg h91] at hob
    have h:=hdict b x.1.t M w3 (by omega) (by omega) (ho.at_ 0 rfl)
    rw [← hob] at h
    exact c_rm ho 0 rfl h (fun v N w4 h0 hle hv ho => fin h0 hle hv ho) fun e2 w4 h0 ho => fall h0 ho
end Go.Proofs.YtjloddgofmdmgaaGreatDoor
namespace Go.Proofs.YtjloddgofmdmgaaGreatDoor
set_option maxRecDepth 20000
open Eng Go.RowKit
def rdAt (b : Nat) (w : World) : Nat:=match w.cell? ⟨b,1,none⟩ with | some (.int _ q) => q.toNat | _ => 0
theorem rdAt_is {b : Nat} {s : List UInt8} {a : Int} {w : World} (h : (rdE b s a).is w) : rdAt b w = a.toNat:=by
 unfold rdAt
 rw [cells_cell (T:=118) (cs:=rdC s a) (i:=1) h rfl]
theorem meas {n : Nat} {a b : Int} (h0 : 0≤a) (h : a < b) (hb : b≤n) : n - b.toNat < n - a.toNat:=by omega
theorem arr_lacks {s : List UInt8} {ok : Bool} {n m : Nat} {a : Int} {acc : List Ob} (h : ¬ Has s a) : Ps.arr s ok (Ps.obj s n) (m + 1) a acc = Ps.bad (lacks s a):=by
 rw [Ps.arr]
 have h1 : ¬ ((Lx.next s a).2 = 0∧(Lx.next s a).1.k = 6∧(Lx.next s a).1.s = [93]):=fun h2 => h ⟨h2.1,by rw [h2.2.1];decide⟩
 rw [if_neg h1]
 by_cases e1 : (Lx.next s a).2 = 0
 ·have e2 : (Lx.next s a).1.k = 0:=Classical.not_not.1 fun h2 => h ⟨e1,h2⟩
  have hb : ¬ ((Lx.next s a).2 = 0∧acc.length = 8191∧Ps.begins (Lx.next s a).1 = true∧ok = true):=fun h2 => by
   have:=h2.2.2.1
   unfold Ps.begins at this
   rw [if_neg (by rw [e2];decide),e2] at this
   simp at this
  rw [if_neg hb,if_neg (by rw [e1];simp),obj_lacks h,if_pos (show (Ps.bad (lacks s a)).2.2≠0 from lacks_pos)]
  rfl
 ·rw [if_neg (fun h2 => e1 h2.1),if_pos e1]
  unfold lacks
  rw [if_pos e1]
theorem parr_ret (s : List UInt8) (hs : s.length≤1000000000) (n : Nat) (hn : n≤23) (hsub : PObj s n) : PArr s n:=by
 intro b a M w h0 h1 hr
 generalize hR : Ps.arr s (decide (n≠0)) (Ps.obj s n) (s.length + 1) a [] = R
 refine lent_of (fun K ho hret hpan => S_parse_reader_array_ok ?_) hr
 unfold S_parse_reader_array
 have ho:=ho.pair.nilU 27 6
 refine o_oba ho fun b4 w1 ho => ?_
 have hb6 : ∀ {PK : List PanicEntry→World→Prop} {K : Value→World→Prop},DoX Tryz.prog (mBuild 27 #[(0,(.int .i64 6))]) w1 PK K = K (obV (.mk 6 0 0 [] [] []) nilS nilS) w1:=do_eq (by kernel_rfl)
 rw [hb6]
 refine o_oba ho fun b5 w2 ho => ?_
 refine ob_put (o':=.mk 6 0 0 [] [] []) (vk':=nilS) (vc':=nilS) 0 rfl rfl ho rfl fun w3 ho => ?_
 generalize hS0 : (rmE b s a M).blk = S0 at *
 have ho : OwnS S0 w w3 [obE b5 (.mk 6 0 0 [] [] []) nilS nilS,obE b4 ob0 nilS nilS,kidE nilS 0 [],rmE b s a M]:=ho
 have fall : ∀ {W : World} {L : List Ent} {e2 : Ent} {N : Mem} (e : Int),OwnS S0 w W (L++([.two e2 (.mem N)]++[]))→M.le N→R = Ps.bad e→e≠0→pk K [wrongE e] W:=by
  intro W L e2 N e ho hle he h0
  subst he
  exact hpan h0 e2 N W _ (ho.front).split hle
 refine loop (fun vs w' => ∃ (a' : Int) (m : Nat) (acc : List Ob) (cs : List Value) (vc : Value) (N : Mem),vs = []∧0≤a'∧a'≤s.length∧(acc.length : Int)≤a'∧acc.length≤8191∧acc.length + m = s.length + 1 ∧
   Ps.arr s (decide (n≠0)) (Ps.obj s n) m a' acc = R∧M.le N∧OVs N.A N.w cs acc ∧
   OwnS S0 w w' [obE b5 (.mk 6 0 0 [] [] acc) nilS vc,obE b4 ob0 nilS nilS,kidE vc acc.length cs,rmE b s a' N]) (fun _ w => s.length - rdAt b w)
  ⟨a,s.length + 1,[],[],nilS,M,rfl,h0,h1,by simpa using h0,by simp,by simp,hR,M.le_refl,OVs.nil,ho⟩ ?_
 clear ho hR
 rintro vs w4 ⟨a',m,acc,cs,vc,N,rfl,ha0,ha1,hla,hmx,hml,harr,hle,hall,ho⟩ _
 simp only [S_parse_reader_array_0]
 obtain⟨m,rfl⟩ : ∃ k,m = k + 1:=⟨m - 1,by omega⟩
 have hat : rdAt b w4 = a'.toNat:=rdAt_is (ho.at_ 3 rfl).1
 refine c_rm ho 3 rfl (pnext_ret b s a' N w4 (by omega) (ho.at_ 3 rfl)) ?_ fun e2 w5 hn ho => ?_
 rotate_left
 ·rw [arr_lacks hn] at harr
  exact fall (L:=[_,_,_]) _ ho hle harr.symm lacks_pos
 rintro _ N1 w5 hhas hle1 rfl ho
 have hbd:=@Lx.next_bd s a' hhas.1 hhas.2
 have hge:=Lx.skip_ge s a'.toNat
 have hopen:=@Ps.obj_open s n a'
 have hsubl:=fun (M : Mem) (w : World) => hsub b a' M w hhas
 have hbd2:=@Ps.obj_bd s n a'
 obtain⟨e1,e2⟩:=hhas
 rw [Ps.arr] at harr
 generalize Ps.obj s n a' = e at *
 generalize Lx.next s a' = x at *
 have hvc:=urow_one (ho.at_ 2 rfl)
 refine o_tok ho fun b6 w6 ho => ?_
 refine tk_put 0 ho rfl fun w7 ho => ?_
 have ho : OwnS S0 w w7 [tokE b6 x.1,obE b5 (.mk 6 0 0 [] [] acc) nilS vc,obE b4 ob0 nilS nilS,kidE vc acc.length cs,rmE b s x.1.t N1]:=ho
 rw [tk_v ho 0 rfl]
 refine c_below ho (R:=fun v => v = .bool (decide (x.1.k = 6) && decide (x.1.s = [93]))) (pword_ret x.1 6 [93] w7) ?_
 rintro _ w8 rfl ho
 cases e3 : (decide (x.1.k = 6) && decide (x.1.s = [93])) with
 | true =>
  simp only [Bool.and_eq_true,decide_eq_true_eq] at e3
  rw [if_pos ⟨e1,e3.1,e3.2⟩] at harr
  simp only [i_t,ob_v ho 1 rfl]
  refine ob_put 2 rfl hvc ho rfl fun w9 ho => ?_
  refine ret_v1 (rv_cell (ho.agg 2 rfl aggOb)) ?_
  have ho : OwnS S0 w w9 ([tokE b6 x.1,obE b5 (.mk 6 0 0 [] [] acc) nilS vc,obE b4 (.mk 6 0 0 [] [] acc) nilS vc,kidE vc acc.length cs]++([rmE b s x.1.t N1]++[])):=ho
  have ho:=ho.front.split
  have ho : OwnS S0 w w9 ([rdE b s x.1.t,.mem N1,tokE b6 x.1,obE b5 (.mk 6 0 0 [] [] acc) nilS vc,obE b4 (.mk 6 0 0 [] [] acc) nilS vc]++([kidE vc acc.length cs]++[])):=ho
  obtain⟨N2,hle2,hrow,ho⟩:=OwnS.freezeU (L:=[rdE b s x.1.t,.mem N1,tokE b6 x.1,obE b5 (.mk 6 0 0 [] [] acc) nilS vc,obE b4 (.mk 6 0 0 [] [] acc) nilS vc]) ho.front 1 rfl
  subst harr
  exact hret rfl _ N2 w9 _ ho ((hle.trans hle1).trans hle2) (ObAt.ov (o:=.mk 6 0 0 [] [] acc) ⟨SlA.nil _ _ _ _,hrow,(hall.le hle1).le hle2⟩)
 | false =>
 have e3' : ¬ (x.2 = 0∧x.1.k = 6∧x.1.s = [93]):=fun h => by
  rw [decide_eq_true h.2.1,decide_eq_true h.2.2] at e3
  exact absurd e3 (by decide)
 rw [if_neg e3'] at harr
 simp only [i_f]
 refine join fun J hJ => ?_
 -- the element
 have one : ∀ {W : World},OwnS S0 w W [tokE b6 x.1,obE b5 (.mk 6 0 0 [] [] acc) nilS vc,obE b4 ob0 nilS nilS,kidE vc acc.length cs,rmE b s x.1.t N1]→¬ (acc.length = 8191∧Ps.begins x.1 = true∧n≠0)→J [] W:=by
  intro W ho h6
  have h6' : ¬ (x.2 = 0∧acc.length = 8191∧Ps.begins x.1 = true∧decide (n≠0) = true):=fun h => h6 ⟨h.2.1,h.2.2.1,of_decide_eq_true h.2.2.2⟩
  rw [if_neg h6',if_neg (by rw [e1];simp)] at harr
  refine hJ _ _ fun _ => ?_
  unfold S_parse_reader_array_1
  have ho:=ho.drew
  refine⟨fun W => (obE b5 (.mk 6 0 0 [] [] acc) nilS vc).is W∧(tokE b6 x.1).is W,⟨ho.at_ 1 rfl,ho.at_ 0 rfl⟩,?_⟩
  refine hd_pure _ (fun _ => run_fa fo_o5) ?_
  refine hd_do vc (fun W h => run_load_cell nSlOb (cells_cell (T:=27) (cs:=obC (.mk 6 0 0 [] [] acc) nilS vc) (i:=5) h.1 rfl)) ?_
  refine hd_do (tokV x.1) (fun W h => run_load_at (AtV.agg aggTok (cs:=tokC x.1) rfl fun j u hj => by rw [Nat.zero_add];exact cells_cell (T:=90) h.2 hj)) ?_
  refine c_rm ho 4 rfl (hsubl N1 _ (ho.at_ 4 rfl)) ?_ fun e2 w9 hz ho => ?_
  rotate_left
  ·rw [if_pos hz] at harr
   exact fun _ _ _ _ _ _ => fall (L:=[_,_,_,_]) _ ho (hle.trans hle1) harr.symm hz
  rintro u N2 w9 hz hle2 hu ho
  have ho : OwnS S0 w w9 [tokE b6 x.1,obE b5 (.mk 6 0 0 [] [] acc) nilS vc,obE b4 ob0 nilS nilS,kidE vc acc.length cs,rmE b s e.2.1 N2]:=ho
  obtain⟨xk,xc,xcs,rfl,hx⟩:=hu.open
  refine⟨⟨ho.at_ 1 rfl,ho.at_ 0 rfl⟩,?_⟩
  refine o_obs1 e.1 hx.keys.one hx.kids.one ho fun nb w10 ho => ⟨⟨ho.at_ 2 rfl,ho.at_ 1 rfl⟩,?_⟩
  refine o_apO 4 ho rfl (ho.sl 0 rfl 6 1 1 rfl) (obC_one _ hx.keys.one hx.kids.one) (by omega) fun vc' w11 ho => ⟨⟨ho.at_ 2 rfl,ho.at_ 1 rfl⟩,?_⟩
  have ho:=ho.tail.tail
  have ho : OwnS S0 w w11 [obE b5 (.mk 6 0 0 [] [] acc) nilS vc,obE b4 ob0 nilS nilS,kidE vc' (acc.length + 1) (cs++obC e.1 xk xc),rmE b s e.2.1 N2]:=ho
  have hvc':=urow_one (ho.at_ 2 rfl)
  refine hd_pure _ (fun _ => run_fa fo_o5) ?_
  refine o_store 0 ho rfl (by kernel_rfl) hvc' (show 0 + 5 < 6 by omega) fun w12 ho => ?_
  have hbd3:=hbd2 hz
  rw [if_neg (by rw [hz];simp)] at harr
  obtain⟨o1,o2,o3,m',hm',_⟩:=hopen hz
  have hmx' : acc.length≠8191:=fun h => h6 ⟨h,o3,by omega⟩
  have el : (acc++[e.1]).length = acc.length + 1:=by simp
  refine nextX ⟨e.2.1,m,acc++[e.1],cs++obC e.1 xk xc,vc',N2,rfl,by omega,hbd3.2,by simp;omega,by simp;omega,by simp;omega,harr,(hle.trans hle1).trans hle2,ovs_app ((hall.le hle1).le hle2) (ovs_1 hx.ov),?_⟩ ?_
  ·rw [el];exact ho
  ·have hat2 : rdAt b w12 = e.2.1.toNat:=rdAt_is (ho.at_ 3 rfl).1
   show s.length - rdAt b w12 < s.length - rdAt b w4
   rw [hat,hat2]
   exact meas ha0 hbd3.1 hbd3.2
 rw [tk_v ho 0 rfl]
 refine c_below ho (R:=fun v => v = .bool (Ps.begins x.1)) (pfirst_ret x.1 w8 e2) ?_
 rintro _ w9 rfl ho
 cases e4 : Ps.begins x.1 with
 | false =>
  simp only [rs,g_un]
  exact one ho fun h => by rw [e4] at h;exact absurd h.2.1 (by decide)
 | true =>
  simp only [rs]
  by_cases e5 : n = 0
  ·have : ¬ (24 : Int) - n < 24:=by omega
   simp only [decide_eq_false this,rs,g_un]
   exact one ho fun h => h.2.2 e5
  ·have : (24 : Int) - n < 24:=by omega
   simp only [decide_eq_true this,rs,fa_o5,ob_kids ho 1 rfl,sl_len Tryz.underlying25 (ho.slU 3 rfl)]
   by_cases e6 : (8191 : Int)≤(acc.length : Int)
   ·simp only [decide_eq_true e6,i_t]
    rw [if_pos ⟨e1,by omega,e4,decide_eq_true e5⟩] at harr
    exact throw (fall (L:=[_,_,_,_]) 6 ho (hle.trans hle1) harr.symm (by decide))
   ·simp only [decide_eq_false e6,i_f]
    exact one ho fun h => e6 (by omega)
end Go.Proofs.YtjloddgofmdmgaaGreatDoor
namespace Go.Proofs.YtjloddgofmdmgaaGreatDoor
open Eng Go.RowKit
def sortS (ks : List (List UInt8)) : List (List UInt8):=ks.mergeSort fun x y => decide (x≤y)
theorem sortS_len (ks : List (List UInt8)) : (sortS ks).length = ks.length:=List.length_mergeSort _
theorem sortS_perm (ks : List (List UInt8)) : (sortS ks).Perm ks:=List.mergeSort_perm _ _
theorem sortS_rise {ks l : List (List UInt8)} (hp : ks.Perm l) (hr : Vl.Rise l) : sortS ks = l:=by
 have tr : ∀ a b c : List UInt8,decide (a≤b) = true→decide (b≤c) = true→decide (a≤c) = true:=fun a b c h1 h2 => by simp only [decide_eq_true_eq] at *;exact List.le_trans h1 h2
 have tt : ∀ a b : List UInt8,(decide (a≤b) || decide (b≤a)) = true:=fun a b => by simp only [Bool.or_eq_true,decide_eq_true_eq];exact List.le_total a b
 refine List.Perm.eq_of_pairwise (le:=fun a b => decide (a≤b) = true) (fun a b _ _ h1 h2 => ?_) (List.pairwise_mergeSort tr tt ks) (hr.imp fun {a b} h => ?_) ((sortS_perm ks).trans hp)
 ·simp only [decide_eq_true_eq] at h1 h2
  exact List.le_antisymm h1 h2
 ·have:=(Vl.less_lt a b).1 h
  simp only [decide_eq_true_eq]
  exact List.le_of_lt this
theorem ssort_ret (v : Value) (ks : List (List UInt8)) (w : World) (h : (keyE v ks).is w) (hb : ks.length≤1000000000) :
  Ret Tryz.prog 228 #[v] w (fun r w' => r = .tuple #[]∧Turn (keyE v ks) (keyE v (sortS ks)) w w'):=by
 obtain⟨h1,h2⟩:=(show w.ownsRow 0 9 1 v ks.length (strsV ks) from h)
 rcases h2 with ⟨rfl,h0⟩ | ⟨g,cap,cur,rfl,hb0,hg,hnc,hcm,hcs,htake⟩
 ·have hk : ks = []:=List.eq_nil_of_length_eq_zero h0
  subst hk
  refine Calls.mono (Tryz.slices_Sort_string_none none 0 w) ?_
  rintro e w' ⟨rfl,rfl⟩
  exact⟨_,rfl,rfl,by simpa [sortS] using Turn.refl h⟩
 ·rw [Nat.mul_one] at hcs htake
  have hsz : ks.length≤cur.size:=by rw [hcs];exact hnc
  have hget : ∀ j,(hj : j < ks.length)→cur[j]? = some (Value.string ⟨ks[j].toArray⟩):=by
   intro j hj
   have h3 : (strsV ks)[j]? = some (.string ⟨ks[j].toArray⟩):=strsV_get hj
   rw [← htake,List.getElem?_take,if_pos hj,Array.getElem?_toList] at h3
   exact h3
  have hH : Go.Sort.Holds encStr w g 0 ks.toArray:=by
   intro j hj
   have hj' : j < ks.length:=by simpa using hj
   constructor
   ·unfold World.cell?
    simp only [hg,Nat.zero_add]
    rw [hget j hj',getElem!_pos ks.toArray j hj]
    rfl
   ·unfold World.frozen?
    simp only [hg,Nat.zero_add]
    simp
  refine Calls.mono (Tryz.slices_Sort_string g 0 cap ks w hH (lt_of_get hg) (by omega)) ?_
  rintro e w' ⟨rfl,n,os,rfl⟩
  refine⟨_,rfl,rfl,?_⟩
  have hlen:=sortS_len ks
  have hheap : ∀ k,k < w.heap.size→(Go.Sort.grow (Go.Sort.putRow encStr (Go.Sort.ahead w n) g 0 (sortS ks).toArray) os).heap[k]? = (if g = k then (w.heap[k]?).map (Go.Sort.onCells (Go.Sort.putCells encStr 0 (sortS ks).toArray)) else w.heap[k]?):=by
   intro k hk
   show ((w.heap.modify g _)++os)[k]? = _
   rw [Array.getElem?_append_left (by simpa using hk),Array.getElem?_modify]
  refine⟨⟨rfl,rfl,rfl,?_,fun k hk hn => ?_⟩,?_,fun k hk => .inl hk⟩
  ·show w.heap.size≤((w.heap.modify g _)++os).size
   simp
  ·have hne : g≠k:=fun e => hn (by subst e;rfl)
   exact (hheap k hk).trans (if_neg hne)
  ·show (World.ownsRow _ 0 9 1 _ (sortS ks).length (strsV (sortS ks)))
   refine⟨by simp [strsV],.inr ⟨g,cap,Go.Sort.putCells encStr 0 (sortS ks).toArray cur,by rw [hlen],hb0,?_,by rw [hlen];exact hnc,hcm,?_,?_⟩⟩
   ·have:=hheap g (lt_of_get hg)
    rw [if_pos rfl,hg] at this
    exact this
   ·simp [Go.Sort.putCells,hcs]
   ·rw [Nat.mul_one]
    apply List.ext_getElem?
    intro j
    rw [List.getElem?_take]
    by_cases hj : j < (sortS ks).length
    ·have hjc : j < cur.size:=by omega
     rw [if_pos hj,strsV_get hj,Array.getElem?_toList]
     unfold Go.Sort.putCells
     rw [Array.getElem?_mapIdx,Array.getElem?_eq_getElem hjc,Option.map_some,if_pos ⟨by omega,by simpa using hj⟩,Nat.sub_zero,getElem!_pos (sortS ks).toArray j (by simpa using hj)]
     rfl
    ·rw [if_neg hj,List.getElem?_eq_none (by rw [strsV_length];omega)]
end Go.Proofs.YtjloddgofmdmgaaGreatDoor
namespace Go.Proofs.YtjloddgofmdmgaaGreatDoor
open Go
namespace Ps
abbrev Kv:=List UInt8 × Ob
def live (l : List Kv) : List (List UInt8):=(l.filter fun p => decide (p.2.k≠0)).map (·.1)
structure Made (o : Ob) (l : List Kv) : Prop where
 k : o.k = 7
 n : o.n = 0
 g : o.g = 0
 s : o.s = []
 rise : Vl.Rise o.keys
 len : o.keys.length = o.kids.length
 perm : (live l).Perm o.keys
 mem : ∀ q ∈ o.keys.zip o.kids,q ∈ l
theorem made0 : Made dict0 []:=⟨rfl,rfl,rfl,rfl,List.Pairwise.nil,rfl,List.Perm.nil,fun q hq => by simp [dict0,Ob.keys] at hq⟩
theorem live_snoc (l : List Kv) (p : Kv) : live (l++[p]) = live l++(if p.2.k≠0 then [p.1] else []):=by
 unfold live
 rw [List.filter_append,List.map_append]
 congr 1
 by_cases h : p.2.k = 0<;>simp [h]
theorem live_sub {l : List Kv} : ∀ k ∈ live l,k ∈ l.map (·.1):=by
 intro k hk
 obtain⟨p,hp,rfl⟩:=List.mem_map.1 hk
 exact List.mem_map.2 ⟨p,(List.mem_filter.1 hp).1,rfl⟩
theorem made_join {o v : Ob} {l : List Kv} {key : List UInt8} (h : Made o l) (hn : key ∉ l.map (·.1)) : Made (join o key v) (l++[(key,v)]):=by
 unfold join
 by_cases hv : v.k = 0
 ·rw [if_neg (by rw [hv];simp)]
  refine⟨h.k,h.n,h.g,h.s,h.rise,h.len,?_,fun q hq => List.mem_append_left _ (h.mem q hq)⟩
  rw [live_snoc,if_neg (by rw [hv];simp),List.append_nil]
  exact h.perm
 ·rw [if_pos hv]
  have hko : key ∉ o.keys:=fun hk => hn (live_sub _ (h.perm.symm.subset hk))
  have hhit : Vl.hit o.keys key = false:=by
   unfold Vl.hit
   rw [decide_eq_false_iff_not]
   exact fun hk => hko (List.mem_of_getElem? hk)
  have hput : Vl.put o key v = .mk o.k o.n o.g o.s (o.keys.take (Vl.place o.keys key)++key :: o.keys.drop (Vl.place o.keys key)) (o.kids.take (Vl.place o.keys key)++v :: o.kids.drop (Vl.place o.keys key)):=by
   unfold Vl.put;rw [hhit];rfl
  obtain⟨r1,r2⟩:=Vl.rise_put (v:=v) h.rise h.len (key:=key)
  refine⟨h.k,h.n,h.g,h.s,r1,r2,?_,?_⟩
  ·rw [live_snoc,if_pos hv,hput]
   refine (List.perm_append_singleton key (live l)).trans ?_
   refine (List.Perm.cons key h.perm).trans ?_
   have:=(List.perm_middle (a:=key) (l₁:=o.keys.take (Vl.place o.keys key)) (l₂:=o.keys.drop (Vl.place o.keys key))).symm
   rwa [List.take_append_drop] at this
  ·intro q hq
   rw [hput] at hq
   have hz : (o.keys.take (Vl.place o.keys key)++key :: o.keys.drop (Vl.place o.keys key)).zip (o.kids.take (Vl.place o.keys key)++v :: o.kids.drop (Vl.place o.keys key)) =
     (o.keys.take (Vl.place o.keys key)).zip (o.kids.take (Vl.place o.keys key))++(key,v) :: (o.keys.drop (Vl.place o.keys key)).zip (o.kids.drop (Vl.place o.keys key)):=by
    rw [List.zip_append (by simp [h.len])];rfl
   have hq : q ∈ (o.keys.take (Vl.place o.keys key)++key :: o.keys.drop (Vl.place o.keys key)).zip (o.kids.take (Vl.place o.keys key)++v :: o.kids.drop (Vl.place o.keys key)):=hq
   rw [hz] at hq
   have hold : o.keys.zip o.kids = (o.keys.take (Vl.place o.keys key)).zip (o.kids.take (Vl.place o.keys key))++(o.keys.drop (Vl.place o.keys key)).zip (o.kids.drop (Vl.place o.keys key)):=by
    rw [← List.zip_append (by simp [h.len]),List.take_append_drop,List.take_append_drop]
   rcases List.mem_append.1 hq with hq | hq
   ·exact List.mem_append_left _ (h.mem q (by rw [hold];exact List.mem_append_left _ hq))
   ·rcases List.mem_cons.1 hq with hq | hq
    ·subst hq;simp
    ·exact List.mem_append_left _ (h.mem q (by rw [hold];exact List.mem_append_right _ hq))
theorem made_at {o : Ob} {l : List Kv} (h : Made o l) {i : Nat} (hi : i < o.keys.length) : (o.keys[i],o.kids[i]'(by have:=h.len;omega)) ∈ l:=by
 refine h.mem _ ?_
 have : (o.keys.zip o.kids)[i]'(by simp [h.len] at *;omega) = (o.keys[i],o.kids[i]'(by have:=h.len;omega)):=List.getElem_zip
 rw [← this]
 exact List.getElem_mem _
end Ps
end Go.Proofs.YtjloddgofmdmgaaGreatDoor
namespace Go.Proofs.YtjloddgofmdmgaaGreatDoor
namespace Eng
open Go.RowKit
structure MapF (al : List (List UInt8 × Value)) (es : Array MapEntry) (clock : Nat) : Prop where
 al : es.toList.map (fun e => (e.key,e.val)) = al.map fun p => (strK p.1,p.2)
 nodup : (es.toList.map (·.born)).Nodup
 old : ∀ e ∈ es.toList,e.born < clock
def Ent.mapB (b : Nat) (al : List (List UInt8 × Value)) : Ent:=⟨fun k => k = b,fun w => ∃ es clock,w.heap[b]? = some (.map es clock)∧MapF al es clock,fun {w w'} h k => by
  obtain⟨es,clock,h1,h2⟩:=h
  exact⟨es,clock,(k b rfl).trans h1,h2⟩,fun h k hk => by
  obtain⟨es,clock,h1,h2⟩:=h
  cases hk;exact lt_of_get h1⟩
theorem mapB_is {w : World} {b : Nat} {al : List (List UInt8 × Value)} (h : (Ent.mapB b al).is w) : MapIs w b al:=by
 obtain⟨es,clock,h1,h2⟩:=h
 exact⟨es,clock,h1,h2.al⟩
def SeenM (es : Array MapEntry) (seen : Array Nat) (done : List (List UInt8 × Value)) : Prop:=
 ∃ ds : List MapEntry,seen.toList = ds.map (·.born)∧(∀ e ∈ ds,e ∈ es.toList)∧(ds.map (·.born)).Nodup∧ds.map (fun e => (e.key,e.val)) = done.map fun p => (strK p.1,p.2)
theorem born_inj : ∀ {l : List MapEntry},(l.map (·.born)).Nodup→∀ {x y : MapEntry},x ∈ l→y ∈ l→x.born = y.born→x = y
 | [],_,_,_,hx,_,_ => by cases hx
 | a :: l,hn,x,y,hx,hy,h => by
  rw [List.map_cons,List.nodup_cons] at hn
  rcases List.mem_cons.1 hx with ex | hx
  ·rcases List.mem_cons.1 hy with ey | hy
   ·rw [ex,ey]
   ·exact absurd (List.mem_map.2 ⟨y,hy,by rw [← h,ex]⟩) hn.1
  ·rcases List.mem_cons.1 hy with ey | hy
   ·exact absurd (List.mem_map.2 ⟨x,hx,by rw [h,ey]⟩) hn.1
   ·exact born_inj hn.2 hx hy h
theorem nodup_of_born : ∀ {l : List MapEntry},(l.map (·.born)).Nodup→l.Nodup
 | [],_ => List.nodup_nil
 | a :: l,h => by
  rw [List.map_cons,List.nodup_cons] at h
  exact List.nodup_cons.2 ⟨fun hm => h.1 (List.mem_map.2 ⟨a,hm,rfl⟩),nodup_of_born h.2⟩
theorem nodup_le {α : Type} : ∀ (a b : List α),a.Nodup→(∀ x ∈ a,x ∈ b)→a.length≤b.length
 | [],_,_,_ => by simp
 | x :: a,b,hn,hs => by
  obtain⟨u,v,rfl⟩:=List.append_of_mem (hs x List.mem_cons_self)
  obtain⟨h1,h2⟩:=List.nodup_cons.1 hn
  have:=nodup_le a (u++v) h2 fun y hy => by
   have hy':=hs y (List.mem_cons_of_mem _ hy)
   rw [List.mem_append,List.mem_cons] at hy'
   rw [List.mem_append]
   rcases hy' with h | h | h
   ·exact .inl h
   ·subst h;exact absurd hy h1
   ·exact .inr h
  simp only [List.length_append,List.length_cons] at this ⊢
  omega
theorem perm_kv {a b : List (List UInt8 × Value)} (h : (a.map fun p => (strK p.1,p.2)).Perm (b.map fun p => (strK p.1,p.2))) : a.Perm b:=by
 -- a list that goes back
 let back : Value × Value→List UInt8 × Value:=fun q => (match q.1 with | .string s => s.data.toList | _ => [],q.2)
 have hb : ∀ l : List (List UInt8 × Value),(l.map fun p => (strK p.1,p.2)).map back = l:=by
  intro l
  rw [List.map_map]
  conv => rhs;rw [← List.map_id l]
  refine List.map_congr_left fun p _ => ?_
  rfl
 have:=h.map back
 rwa [hb,hb] at this
section
variable {S : Nat→Prop} {P : Program} {w w0 : World} {L : List Ent} {PK : List PanicEntry→World→Prop} {K : Value→World→Prop}
theorem o_mapNewB {T : TypeId} (ho : OwnS S w0 w L) (k : ∀ b w',OwnS S w0 w' (.mapB b [] :: L)→K (.map (some b)) w') : DoX P (mMap T none) w PK K:=by
 have hr : (Instr.makeMap T none).run P w = .ok (.map (some w.heap.size)) (w.alloc (.map #[] 0)):=rfl
 exact do_ok (mv_run hr) (k _ _ (ho.add (World.grownBy_alloc w _ none) (.mapB w.heap.size []) ⟨#[],0,heap_alloc_new w _,rfl,List.nodup_nil,fun e he => by simp at he⟩ (fun k hk => by cases hk;exact Nat.le_refl _)))
theorem o_mapAddB (i : Nat) {T k e : TypeId} {b : Nat} {al : List (List UInt8 × Value)} (ht : P.underlying T = some (.map k e)) (hk : P.underlying k = some .string) (ho : OwnS S w0 w L) (hi : L[i]? = some (.mapB b al)) (x : List UInt8) (v : Value) (hn : lookA al x = none)
  (kk : ∀ w',OwnS S w0 w' (L.set i (.mapB b (al++[(x,v)])))→K undef w') : DoX P (mMapU T (.map (some b)) (strK x) v) w PK K:=by
 obtain⟨es,clock,h1,h2⟩:=(show ∃ es clock,w.heap[b]? = some (.map es clock)∧MapF al es clock from ho.at_ i hi)
 obtain⟨r,r1,r2⟩:=run_findStr (P:=P) (w:=w) hk x h2.al
 have hr0 : r = none:=by
  cases r with
  | none => rfl
  | some p => rw [hn] at r2;cases r2
 subst hr0
 have hr : (Instr.mapUpdate T (.map (some b)) (strK x) v).run P w = .ok () { w with heap:=w.heap.setIfInBounds b (.map (es.push { key:=strK x,val:=v,born:=clock }) (clock + 1)) }:=by
  simp [Instr.mapUpdate,run_underlying ht,getObj,setObj,Sem.run,h1,run_checkStr hk x,r1]
 refine do_skip (mu_run hr) (kk _ ?_)
 refine ho.put i hi (w':={ w with heap:=w.heap.setIfInBounds b _ }) ⟨rfl,rfl,rfl,by simp,fun k _ hk => ?_⟩ (.mapB b (al++[(x,v)])) ?_ (fun k hk => .inl hk)
 ·show (w.heap.setIfInBounds b _)[k]? = _
  exact Array.getElem?_setIfInBounds_ne (fun e => hk (by simp [Ent.mapB,e]))
 ·refine⟨es.push { key:=strK x,val:=v,born:=clock },clock + 1,?_,?_,?_,?_⟩
  ·show (w.heap.setIfInBounds b _)[b]? = _
   exact Array.getElem?_setIfInBounds_self_of_lt (lt_of_get h1)
  ·simp [h2.al]
  ·rw [Array.toList_push,List.map_append,List.nodup_append]
   refine⟨h2.nodup,by simp,fun a ha c hc => ?_⟩
   obtain⟨e,he,rfl⟩:=List.mem_map.1 ha
   have:=h2.old e he
   simp at hc
   omega
  ·intro e he
   rw [Array.toList_push] at he
   rcases List.mem_append.1 he with he | he
   ·have:=h2.old e he;omega
   ·rw [List.mem_singleton] at he;subst he;exact Nat.lt_succ_self _
theorem OwnS.openM {b : Nat} {al : List (List UInt8 × Value)} (ho : OwnS S w0 w L) (i : Nat) (hi : L[i]? = some (.mapB b al)) : ∃ es clock,MapF al es clock∧OwnS S w0 w (L.set i (.obj b (.map es clock))):=by
 obtain⟨es,clock,h1,h2⟩:=(show ∃ es clock,w.heap[b]? = some (.map es clock)∧MapF al es clock from ho.at_ i hi)
 exact⟨es,clock,h2,ho.turn i hi ⟨Grew.refl _ _,h1,fun _ hk => .inl hk⟩⟩
theorem OwnS.shutM {b : Nat} {al : List (List UInt8 × Value)} {es : Array MapEntry} {clock : Nat} (ho : OwnS S w0 w L) (i : Nat) (hi : L[i]? = some (.obj b (.map es clock))) (hf : MapF al es clock) : OwnS S w0 w (L.set i (.mapB b al)):=
 ho.turn i hi ⟨Grew.refl _ _,⟨es,clock,ho.at_ i hi,hf⟩,fun _ hk => .inl hk⟩
theorem o_rangeM (i : Nat) {T k e : TypeId} {m clock : Nat} {es : Array MapEntry} (ht : P.underlying T = some (.map k e)) (ho : OwnS S w0 w L) (hi : L[i]? = some (.obj m (.map es clock)))
  (kk : ∀ b w',OwnS S w0 w' (.obj b (.mapIter (some m) clock #[] clock) :: L)→K (.pointer (some ⟨b,0,none⟩)) w') : DoX P (mRange T (.map (some m))) w PK K:=by
 have h1 : w.heap[m]? = some (.map es clock):=ho.at_ i hi
 have hr:=run_range_map (P:=P) w T k e m es clock ht h1
 exact do_ok (mv_run hr) (kk _ _ (ho.allocObj _))
theorem seen_nil (es : Array MapEntry) : SeenM es #[] []:=⟨[],rfl,(fun e he => by cases he),List.nodup_nil,rfl⟩
theorem o_nextM (i j : Nat) {b m clock : Nat} {es : Array MapEntry} {seen : Array Nat} {al done : List (List UInt8 × Value)} {ty : TypeId} (ho : OwnS S w0 w L) (hi : L[i]? = some (.obj b (.mapIter (some m) clock seen clock))) (hj : L[j]? = some (.obj m (.map es clock)))
  (hf : MapF al es clock) (hs : SeenM es seen done) (kend : done.Perm al→K (.tuple #[.bool false]) w)
  (knext : ∀ (p : List UInt8 × Value) (e : MapEntry) (w' : World),p ∈ al→p ∉ done∨True→e ∈ es.toList→e.key = strK p.1→e.val = p.2→SeenM es (seen.push e.born) (done++[p])→done.length < al.length →
   OwnS S w0 w' (L.set i (.obj b (.mapIter (some m) clock (seen.push e.born) clock)))→K (.tuple #[.bool true,strK p.1,p.2]) w') :
  DoX P (mNext (.pointer (some ⟨b,0,none⟩)) false ty) w PK K:=by
 have h1 : w.heap[b]? = some (.mapIter (some m) clock seen clock):=ho.at_ i hi
 have h2 : w.heap[m]? = some (.map es clock):=ho.at_ j hj
 obtain⟨ds,d1,d2,d3,d4⟩:=hs
 have hds : ds.length = done.length:=by simpa using congrArg List.length d4
 have hel : es.toList.length = al.length:=by simpa using congrArg List.length hf.al
 rcases Go.run_next_at (P:=P) w ty b m clock clock seen es clock h1 h2 hf.old (Nat.le_refl _) with ⟨hl,hr⟩ | ⟨e,he,w1,hw1,hr⟩
 ·refine do_ok (mv_run hr) (kend ?_)
  -- all have come
  have hall : ∀ x ∈ es.toList,x ∈ ds:=by
   intro x hx
   have hc : seen.contains x.born = true:=by
    cases hcc : seen.contains x.born with
    | true => rfl
    | false =>
     exfalso
     have hm : x ∈ (leftOf es seen).toList:=by
      unfold leftOf
      rw [Array.toList_filter,List.mem_filter]
      exact⟨hx,by simp only [hcc];rfl⟩
     have : 0 < (leftOf es seen).size:=by
      rw [← Array.length_toList]
      exact List.length_pos_of_mem hm
     omega
   have hm : x.born ∈ seen.toList:=by simpa using hc
   rw [d1] at hm
   obtain⟨y,hy,hyb⟩:=List.mem_map.1 hm
   rw [← born_inj hf.nodup (d2 y hy) hx hyb]
   exact hy
  have hp : ds.Perm es.toList:=(List.perm_ext_iff_of_nodup (nodup_of_born d3) (nodup_of_born hf.nodup)).2 fun x => ⟨d2 x,hall x⟩
  have:=hp.map fun e => (e.key,e.val)
  rw [d4,hf.al] at this
  exact perm_kv this
 ·-- one comes
  have hem : e ∈ es.toList∧seen.contains e.born = false:=by
   unfold leftOf at he
   rw [Array.toList_filter,List.mem_filter] at he
   exact⟨he.1,by simpa using he.2⟩
  have hk : (e.key,e.val) ∈ es.toList.map (fun e => (e.key,e.val)):=List.mem_map.2 ⟨e,hem.1,rfl⟩
  rw [hf.al] at hk
  obtain⟨p,hp,hpe⟩:=List.mem_map.1 hk
  simp only [Prod.mk.injEq] at hpe
  have hnb : e.born ∉ ds.map (·.born):=by
   rw [← d1]
   intro hm
   have : seen.contains e.born = true:=by simpa using hm
   rw [hem.2] at this;cases this
  have hs' : SeenM es (seen.push e.born) (done++[p]):=by
   refine⟨ds++[e],by simp [d1],?_,?_,?_⟩
   ·intro x hx
    rcases List.mem_append.1 hx with hx | hx
    ·exact d2 x hx
    ·rw [List.mem_singleton] at hx;subst hx;exact hem.1
   ·rw [List.map_append,List.nodup_append]
    refine⟨d3,by simp,fun a ha c hc => ?_⟩
    simp at hc
    subst hc
    intro e2
    exact hnb (by rw [← e2];exact ha)
   ·simp [d4,hpe.1,hpe.2]
  have hlt : done.length < al.length:=by
   rw [← hds,← hel]
   exact nodup_le (e :: ds) es.toList (List.nodup_cons.2 ⟨fun hm => hnb (List.mem_map.2 ⟨e,hm,rfl⟩),nodup_of_born d3⟩) (fun x hx => by
    rcases List.mem_cons.1 hx with rfl | hx
    ·exact hem.1
    ·exact d2 x hx)
  have how : OwnS S w0 w1 L:=by
   rcases hw1 with rfl | rfl
   ·exact ho
   ·exact ho.drew
  have hkk:=put_iter (o':=.mapIter (some m) clock (seen.push e.born) clock) how i hi
  rw [← hpe.1,← hpe.2] at hr
  exact do_ok (mv_run hr) (knext p e _ hp (.inr trivial) hem.1 hpe.1.symm hpe.2.symm hs' hlt hkk)
theorem e_entry (i j : Nat) {b m clock : Nat} {es : Array MapEntry} {seen : Array Nat} {e : MapEntry} {al : List (List UInt8 × Value)} (ho : OwnS S w0 w L) (hi : L[i]? = some (.obj b (.mapIter (some m) clock (seen.push e.born) clock))) (hj : L[j]? = some (.obj m (.map es clock)))
  (hf : MapF al es clock) (he : e ∈ es.toList) : DoX P (mEntry (.pointer (some ⟨b,0,none⟩))) w PK K = K (.tuple #[e.key,e.val]) w:=
 do_eq (mv_run (run_entry_at (P:=P) w b m clock seen es clock e (ho.at_ i hi) (ho.at_ j hj) he hf.nodup))
end
end Eng
end Go.Proofs.YtjloddgofmdmgaaGreatDoor
namespace Go.Proofs.YtjloddgofmdmgaaGreatDoor
set_option maxRecDepth 20000
open Eng Go.RowKit
def KvR (A : Nat→Prop) (w : World) : List (List UInt8 × Value)→List Ps.Kv→Prop
 | [],[] => True
 | p :: al,q :: l => p.1 = q.1∧OV A w p.2 q.2∧KvR A w al l
 | _,_ => False
theorem KvR.le {M N : Mem} (h : M.le N) : ∀ {al : List (List UInt8 × Value)} {l : List Ps.Kv},KvR M.A M.w al l→KvR N.A N.w al l
 | [],[],_ => trivial
 | _ :: _,_ :: _,⟨h1,h2,h3⟩ => ⟨h1,h2.le h,KvR.le h h3⟩
 | [],_ :: _,h => h.elim
 | _ :: _,[],h => h.elim
section
variable {A : Nat→Prop} {w : World}
theorem KvR.fst : ∀ {al : List (List UInt8 × Value)} {l : List Ps.Kv},KvR A w al l→al.map (·.1) = l.map (·.1)
 | [],[],_ => rfl
 | _ :: _,_ :: _,⟨h1,_,h3⟩ => by rw [List.map_cons,List.map_cons,h1,KvR.fst h3]
 | [],_ :: _,h => h.elim
 | _ :: _,[],h => h.elim
theorem KvR.snoc {k : List UInt8} {v : Value} {o : Ob} (hv : OV A w v o) : ∀ {al : List (List UInt8 × Value)} {l : List Ps.Kv},KvR A w al l→KvR A w (al++[(k,v)]) (l++[(k,o)])
 | [],[],_ => ⟨rfl,hv,trivial⟩
 | _ :: _,_ :: _,⟨h1,h2,h3⟩ => ⟨h1,h2,KvR.snoc hv h3⟩
 | [],_ :: _,h => h.elim
 | _ :: _,[],h => h.elim
theorem KvR.mem : ∀ {al : List (List UInt8 × Value)} {l : List Ps.Kv},KvR A w al l→∀ {p : List UInt8 × Value},p ∈ al→∃ o,(p.1,o) ∈ l∧OV A w p.2 o
 | [],_,_,p,hp => by cases hp
 | a :: _,b :: _,⟨h1,h2,h3⟩,p,hp => by
  rcases List.mem_cons.1 hp with rfl | hp
  ·exact⟨b.2,by rw [h1];exact List.mem_cons_self,h2⟩
  ·obtain⟨o,ho,hv⟩:=KvR.mem h3 hp
   exact⟨o,List.mem_cons_of_mem _ ho,hv⟩
 | _ :: _,[],h,_,_ => h.elim
theorem KvR.look {k : List UInt8} {o : Ob} : ∀ {al : List (List UInt8 × Value)} {l : List Ps.Kv},KvR A w al l→(l.map (·.1)).Nodup→(k,o) ∈ l→∃ v,lookA al k = some v∧OV A w v o
 | [],[],_,_,hm => by cases hm
 | p :: al,q :: l,⟨h1,h2,h3⟩,hn,hm => by
  rw [List.map_cons,List.nodup_cons] at hn
  by_cases hk : p.1 = k
  ·have hq : (k,o) = q:=by
    rcases List.mem_cons.1 hm with h | h
    ·exact h
    ·exact absurd (List.mem_map.2 ⟨(k,o),h,by rw [← h1,hk]⟩) hn.1
   refine⟨p.2,by unfold lookA;rw [List.find?_cons_of_pos (by simpa using hk)];rfl,?_⟩
   rw [← hq] at h2
   exact h2
  ·have hm' : (k,o) ∈ l:=by
    rcases List.mem_cons.1 hm with h | h
    ·exact absurd (by rw [h1,← h]) hk
    ·exact h
   obtain⟨v,hv,ho⟩:=KvR.look h3 hn.2 hm'
   refine⟨v,?_,ho⟩
   unfold lookA at hv ⊢
   rw [List.find?_cons_of_neg (by simpa using hk)]
   exact hv
 | [],_ :: _,h,_,_ => h.elim
 | _ :: _,[],h,_,_ => h.elim
def kindV : Value→Int
 | .agg cs => match cs.toList with | .int _ k :: _ => k | _ => 0
 | _ => 0
theorem kindV_of {v : Value} {o : Ob} (h : OV A w v o) : kindV v = o.k:=by
 obtain⟨vk,vc,cs,rfl,_⟩:=h.open
 rfl
def liveV (al : List (List UInt8 × Value)) : List (List UInt8):=(al.filter fun p => decide (kindV p.2≠0)).map (·.1)
theorem KvR.live : ∀ {al : List (List UInt8 × Value)} {l : List Ps.Kv},KvR A w al l→liveV al = Ps.live l
 | [],[],_ => rfl
 | p :: al,q :: l,⟨h1,h2,h3⟩ => by
  have ih:=KvR.live h3
  unfold liveV Ps.live at *
  rw [List.filter_cons,List.filter_cons,kindV_of h2]
  split
  ·rw [List.map_cons,List.map_cons,ih,h1]
  ·exact ih
 | [],_ :: _,h => h.elim
 | _ :: _,[],h => h.elim
theorem liveV_snoc (al : List (List UInt8 × Value)) (p : List UInt8 × Value) : liveV (al++[p]) = liveV al++(if kindV p.2≠0 then [p.1] else []):=by
 unfold liveV
 rw [List.filter_append,List.map_append]
 congr 1
 by_cases h : kindV p.2 = 0<;>simp [h]
theorem liveV_perm {a b : List (List UInt8 × Value)} (h : a.Perm b) : (liveV a).Perm (liveV b):=(h.filter _).map _
theorem liveV_len (al : List (List UInt8 × Value)) : (liveV al).length≤al.length:=by
 unfold liveV
 rw [List.length_map]
 exact List.length_filter_le _ _
end
section
variable {w : World} {PK : List PanicEntry→World→Prop} {K : Value→World→Prop} {S : Nat→Prop} {w0 : World} {L : List Ent}
theorem zOb : (Tryz.prog.info? 27).bind (·.zero) = some (obV ob0 nilS nilS):=by kernel_rfl
theorem lookT (i : Nat) {b : Nat} {al : List (List UInt8 × Value)} (ho : OwnS S w0 w L) (hi : L[i]? = some (.mapB b al)) (x : List UInt8) :
  DoX Tryz.prog (mLook 229 (.map (some b)) (.string ⟨x.toArray⟩) true) w PK K = K (.tuple #[(lookA al x).getD (obV ob0 nilS nilS),.bool (lookA al x).isSome]) w:=
 do_eq (run_look (ok:=true) Tryz.underlying229 Tryz.underlying9 zOb (mapB_is (ho.at_ i hi)) x)
theorem lookF (i : Nat) {b : Nat} {al : List (List UInt8 × Value)} (ho : OwnS S w0 w L) (hi : L[i]? = some (.mapB b al)) {x : List UInt8} {v : Value} (hv : lookA al x = some v) :
  DoX Tryz.prog (mLook 229 (.map (some b)) (.string ⟨x.toArray⟩) false) w PK K = K v w:=by
 have:=do_eq (PK:=PK) (K:=K) (run_look (ok:=false) Tryz.underlying229 Tryz.underlying9 zOb (mapB_is (ho.at_ i hi)) x)
 rw [hv] at this
 exact this
theorem lenM (i : Nat) {b : Nat} {al : List (List UInt8 × Value)} {cs : Array Bool} (ho : OwnS S w0 w L) (hi : L[i]? = some (.mapB b al)) :
  DoX Tryz.prog (mB .len #[229] 3 cs #[.map (some b)]) w PK K = K (.int .i64 (al.length : Int)) w:=by
 obtain⟨es,clock,h1,h2⟩:=(show ∃ es clock,w.heap[b]? = some (.map es clock)∧MapF al es clock from ho.at_ i hi)
 have hl : es.size = al.length:=by
  have:=congrArg List.length h2.al
  simpa using this
 refine do_eq ?_
 simp [mB,builtin,Builtin.len_,run_underlying Tryz.underlying229,getObj,h1,goInt,hl,Sem.run]
end
def itAt (b : Nat) (w : World) : Nat:=match w.heap[b]? with | some (.mapIter _ _ seen _) => seen.size | _ => 0
theorem itAt_is {b : Nat} {m clock : Nat} {seen : Array Nat} {w : World} (h : (Ent.obj b (.mapIter (some m) clock seen clock)).is w) : itAt b w = seen.size:=by
 unfold itAt
 rw [show w.heap[b]? = _ from h]
theorem seen_size {es : Array MapEntry} {seen : Array Nat} {done : List (List UInt8 × Value)} (h : SeenM es seen done) : seen.size = done.length:=by
 obtain⟨ds,d1,_,_,d4⟩:=h
 rw [← Array.length_toList,d1,List.length_map]
 simpa using congrArg List.length d4
theorem pbuild {S0 : Nat→Prop} {w W : World} {b b4 b5 b9 : Nat} {s : List UInt8} {a : Int} {N : Mem} {al : List (List UInt8 × Value)} {l : List Ps.Kv} {o : Ob} {K : Ending→World→Prop}
  (hkv : KvR N.A N.w al l) (hnd : (l.map (·.1)).Nodup) (hmade : Ps.Made o l) (hlen : l.length≤8191)
  (ho : OwnS S0 w W [obE b9 Ps.dict0 nilS nilS,keyE nilS [],kidE nilS 0 [],obE b4 ob0 nilS nilS,.mapB b5 al,rmE b s a N])
  (kend : ∀ (W' : World) (N2 : Mem) (L : List Ent) (v : Value),OwnS S0 w W' (rdE b s a :: .mem N2 :: L)→N.le N2→OV N2.A N2.w v o→K (.returned v) W') :
  DoX Tryz.prog (mRange 229 (.map (some b5))) W (pk K) fun t49 w => LoopX [] w (fun vs2 w N2 => ∀ _ : Sg,S_parse_reader_dict_1 (.pointer (some ⟨b4,0,none⟩)) (.map (some b5)) (.pointer (some ⟨b9,0,none⟩)) t49 w N2 K):=by
 have hall : al.length = l.length:=by simpa using congrArg List.length hkv.fst
 obtain⟨es,clock,hf,ho⟩:=ho.openM 4 rfl
 refine o_rangeM 4 Tryz.underlying229 ho rfl fun it w1 ho => ?_
 refine loop (fun vs w' => ∃ (seen : Array Nat) (done : List (List UInt8 × Value)) (vk : Value),vs = []∧SeenM es seen done∧done.length≤al.length∧(∀ p ∈ done,p ∈ al) ∧
   OwnS S0 w w' [.obj it (.mapIter (some b5) clock seen clock),obE b9 Ps.dict0 vk nilS,keyE vk (liveV done),kidE nilS 0 [],obE b4 ob0 nilS nilS,.obj b5 (.map es clock),rmE b s a N]) (fun _ w => al.length - itAt it w)
  ⟨#[],[],nilS,rfl,seen_nil es,by simp,by simp,ho⟩ ?_
 clear ho
 rintro vs w2 ⟨seen,done,vk,rfl,hs,hdl,hda,ho⟩ _
 simp only [S_parse_reader_dict_1]
 have hit : itAt it w2 = seen.size:=itAt_is (ho.at_ 0 rfl)
 have hss:=seen_size hs
 refine o_nextM 0 5 ho rfl rfl hf hs (fun hperm => ?_) fun p e w3 hpa _ he hek hev hs' hlt ho => ?_
 ·-- all have come
  simp only [ex,i_f]
  have ho:=ho.tail
  have ho : OwnS S0 w w2 [obE b9 Ps.dict0 vk nilS,keyE vk (liveV done),kidE nilS 0 [],obE b4 ob0 nilS nilS,.obj b5 (.map es clock),rmE b s a N]:=ho
  have ho:=ho.shutM 4 rfl hf
  have ho : OwnS S0 w w2 [obE b9 Ps.dict0 vk nilS,keyE vk (liveV done),kidE nilS 0 [],obE b4 ob0 nilS nilS,.mapB b5 al,rmE b s a N]:=ho
  rw [fa_o4,ob_keys ho 0 rfl]
  have hll:=liveV_len done
  refine c_ret (ssort_ret vk (liveV done) w2 (ho.at_ 1 rfl) (by omega)) ?_
  rintro _ w3 ⟨rfl,ht⟩
  have ho:=ho.turn 1 rfl ht
  have hsort : sortS (liveV done) = o.keys:=sortS_rise ((liveV_perm hperm).trans (by rw [hkv.live];exact hmade.perm)) hmade.rise
  rw [hsort] at ho
  have ho : OwnS S0 w w3 [obE b9 Ps.dict0 vk nilS,keyE vk o.keys,kidE nilS 0 [],obE b4 ob0 nilS nilS,.mapB b5 al,rmE b s a N]:=ho
  have hkl : o.keys.length≤8191:=by
   have h1:=hmade.perm.length_eq
   have h2:=hkv.live (A:=N.A)
   have h3:=liveV_len al
   rw [← h1,← h2];omega
  rw [fa_o4,ob_keys ho 0 rfl,sl_len Tryz.underlying24 (ho.slU 1 rfl)]
  refine loop (fun vs w' => ∃ (i : Nat) (cs : List Value) (vc : Value),vs = [.int .i64 i]∧i≤o.keys.length∧OVs N.A N.w cs (o.kids.take i) ∧
   OwnS S0 w w' [obE b9 Ps.dict0 vk vc,keyE vk o.keys,kidE vc i cs,obE b4 ob0 nilS nilS,.mapB b5 al,rmE b s a N]) (fun vs _ => o.keys.length - n0 vs) ⟨0,[],nilS,rfl,by omega,OVs.nil,ho⟩ ?_
  clear ho
  rintro vs w4 ⟨i,cs,vc,rfl,hi,hov,ho⟩ _
  simp only [S_parse_reader_dict_2,gd,rs]
  by_cases hlt : (i : Int) < (o.keys.length : Int)
  ·have hi' : i < o.keys.length:=by omega
   simp only [decide_eq_true hlt,i_t]
   obtain⟨g,cap,_,ia,ld⟩:=key_row 1 ho rfl hi'
   refine do_eq (ia w4) |>.mpr (do_eq (ld w4 (ho.at_ 1 rfl)) |>.mpr ?_)
   rw [fa_o5,ob_kids ho 0 rfl]
   obtain⟨v,hv,hvo⟩:=hkv.look hnd (Ps.made_at hmade hi')
   rw [lookF 4 ho rfl hv]
   obtain⟨xk,xc,xcs,rfl,hx⟩:=hvo.open
   refine o_obs1 _ hx.keys.one hx.kids.one ho fun nb w5 ho => ?_
   refine o_apO 3 ho rfl (ho.sl 0 rfl 6 1 1 rfl) (obC_one _ hx.keys.one hx.kids.one) (by omega) fun vc' w6 ho => ?_
   have ho:=ho.tail
   have hvc':=urow_one (ho.at_ 2 rfl)
   rw [fa_o5]
   refine o_store 0 ho rfl (by kernel_rfl) hvc' (show 0 + 5 < 6 by omega) fun w7 ho => ?_
   rw [wrap64_id (by omega) (by omega)]
   refine nextX ⟨i + 1,_,vc',rfl,by omega,?_,ho⟩ (by show o.keys.length - Int.toNat ((i : Int) + 1) < o.keys.length - Int.toNat (i : Int);omega)
   have hkl2 : i < o.kids.length:=by have:=hmade.len;omega
   rw [List.take_succ_eq_append_getElem hkl2]
   exact ovs_app hov (ovs_1 hx.ov)
  ·have hi' : i = o.keys.length:=by omega
   simp only [decide_eq_false hlt,i_f]
   subst hi'
   rw [hmade.len,List.take_length] at hov
   have hvk:=urow_one (ho.at_ 1 rfl)
   have hvc:=urow_one (ho.at_ 2 rfl)
   rw [ob_v ho 0 rfl]
   refine ob_put (o':=Ps.dict0) 3 hvk hvc ho rfl fun w5 ho => ?_
   refine ret_v1 (rv_cell (ho.agg 3 rfl aggOb)) ?_
   have ho : OwnS S0 w w5 ([obE b9 Ps.dict0 vk vc,keyE vk o.keys,kidE vc o.keys.length cs,obE b4 Ps.dict0 vk vc,.mapB b5 al]++([rmE b s a N]++[])):=ho
   have ho:=ho.front.split
   have ho : OwnS S0 w w5 ([rdE b s a,.mem N,obE b9 Ps.dict0 vk vc]++([keyE vk o.keys,kidE vc o.keys.length cs]++[obE b4 Ps.dict0 vk vc,.mapB b5 al])):=ho
   have ho:=ho.front
   obtain⟨N2,hle2,hrow2,ho⟩:=OwnS.freezeU (L:=[kidE vc o.keys.length cs,rdE b s a,.mem N,obE b9 Ps.dict0 vk vc,obE b4 Ps.dict0 vk vc,.mapB b5 al]) ho 2 rfl
   obtain⟨N3,hle3,hrow3,ho⟩:=OwnS.freezeU (L:=[rdE b s a,.mem N2,obE b9 Ps.dict0 vk vc,obE b4 Ps.dict0 vk vc,.mapB b5 al]) ho 1 rfl
   have hval : obV Ps.dict0 vk vc = obV o vk vc:=by
    unfold obV obC
    rw [hmade.k,hmade.n,hmade.g,hmade.s];rfl
   refine kend w5 N3 _ _ ho (hle2.trans hle3) ?_
   show OV N3.A N3.w (obV Ps.dict0 vk vc) o
   rw [hval]
   rw [hmade.len] at hrow3
   exact ObAt.ov ⟨hrow2.le hle3,hrow3,(hov.le hle2).le hle3⟩
 ·simp only [ex,i_t]
  have ho : OwnS S0 w w3 [.obj it (.mapIter (some b5) clock (seen.push e.born) clock),obE b9 Ps.dict0 vk nilS,keyE vk (liveV done),kidE nilS 0 [],obE b4 ob0 nilS nilS,.obj b5 (.map es clock),rmE b s a N]:=ho
  rw [e_entry 0 5 ho rfl rfl hf he,hek,hev]
  simp only [ex]
  obtain⟨x,hxl,hxo⟩:=hkv.mem hpa
  have hkind:=kindV_of hxo
  obtain⟨xk,xc,xcs,hpe,hx⟩:=hxo.open
  obtain⟨pk1,pv⟩:=p
  simp only at hpe hkind
  subst hpe
  refine o_oba ho fun b11 w4 ho => ?_
  refine ob_put (o':=x) 0 hx.keys.one hx.kids.one ho rfl fun w5 ho => ?_
  have ho : OwnS S0 w w5 [obE b11 x xk xc,.obj it (.mapIter (some b5) clock (seen.push e.born) clock),obE b9 Ps.dict0 vk nilS,keyE vk (liveV done),kidE nilS 0 [],obE b4 ob0 nilS nilS,.obj b5 (.map es clock),rmE b s a N]:=ho
  rw [fa_o0,ob_k ho 0 rfl]
  simp only [rs]
  have hsn:=liveV_snoc done (pk1,obV x xk xc)
  have mea : ∀ {W : World} {L : List Ent},OwnS S0 w W L→L[0]? = some (.obj it (.mapIter (some b5) clock (seen.push e.born) clock))→al.length - itAt it W < al.length - itAt it w2:=by
   intro W L ho hi
   rw [hit,itAt_is (ho.at_ 0 hi),Array.size_push]
   omega
  have hda' : ∀ q ∈ done++[(pk1,obV x xk xc)],q ∈ al:=by
   intro q hq
   rcases List.mem_append.1 hq with hq | hq
   ·exact hda q hq
   ·rw [List.mem_singleton] at hq;subst hq;exact hpa
  by_cases hk : x.k = 0
  ·simp only [hk,ne_eq,not_true,decide_false,i_f]
   rw [if_neg (by rw [hkind,hk];simp),List.append_nil] at hsn
   refine nextX ⟨_,done++[(pk1,obV x xk xc)],vk,rfl,hs',by simp;omega,hda',?_⟩ (mea ho.tail rfl)
   rw [hsn]
   exact ho.tail
  ·simp only [hk,ne_eq,not_false_eq_true,decide_true,i_t]
   rw [if_pos (by rw [hkind];exact hk)] at hsn
   rw [fa_o4,ob_keys ho 2 rfl]
   have hll:=liveV_len done
   show DoX Tryz.prog (mBuildS 24 1 #[(0,.string ⟨pk1.toArray⟩)]) w5 _ _
   refine o_strb1 pk1 ho fun nb w6 ho => ?_
   refine o_apS 4 ho rfl (ho.sl 0 rfl 1 1 1 rfl) (by simp [Value.oneCell']) (by omega) fun vk' w7 ho => ?_
   have ho:=ho.tail.tail
   have ho : OwnS S0 w w7 [.obj it (.mapIter (some b5) clock (seen.push e.born) clock),obE b9 Ps.dict0 vk nilS,keyE vk' (liveV done++[pk1]),kidE nilS 0 [],obE b4 ob0 nilS nilS,.obj b5 (.map es clock),rmE b s a N]:=by
    have e : strsV (liveV done++[pk1]) = strsV (liveV done)++[.string ⟨pk1.toArray⟩]:=by rw [strsV_app];rfl
    rw [keyE,List.length_append,List.length_singleton,e]
    exact ho
   have hvk':=urow_one (ho.at_ 2 rfl)
   rw [fa_o4]
   refine o_store 1 ho rfl (by kernel_rfl) hvk' (show 0 + 4 < 6 by omega) fun w8 ho => ?_
   refine nextX ⟨_,done++[(pk1,obV x xk xc)],vk',rfl,hs',by simp;omega,hda',?_⟩ (mea ho rfl)
   rw [hsn]
   exact ho
end Go.Proofs.YtjloddgofmdmgaaGreatDoor
namespace Go.Proofs.YtjloddgofmdmgaaGreatDoor
set_option maxRecDepth 20000
open Eng Go.RowKit
theorem dict_lacks {s : List UInt8} {sub : Int→Ps.R} {m : Nat} {a : Int} {o : Ob} {met : List (List UInt8)} (h : ¬ Has s a) : Ps.dict s sub (m + 1) a o met = Ps.bad (lacks s a):=by
 rw [Ps.dict]
 unfold Has at h
 unfold lacks
 by_cases e1 : (Lx.next s a).2 = 0
 ·have e2 : (Lx.next s a).1.k = 0:=Classical.not_not.1 fun h2 => h ⟨e1,h2⟩
  rw [if_neg (by rw [e1];simp),if_neg (fun h3 => by rw [e2] at h3;exact absurd h3.1 (by decide)),if_pos e2,if_neg (by rw [e1];simp)]
 ·rw [if_pos e1,if_pos e1]
theorem pdict_ret (s : List UInt8) (hs : s.length≤1000000000) (n : Nat) (hn : n≤23) (hsub : PObj s n) : PDict s n:=by
 intro b a M w h0 h1 hr
 generalize hR : Ps.dict s (Ps.obj s n) (s.length + 1) a Ps.dict0 [] = R
 refine lent_of (fun K ho hret hpan => S_parse_reader_dict_ok ?_) hr
 unfold S_parse_reader_dict
 have ho:=ho.pair
 refine o_oba ho fun b4 w1 ho => ?_
 refine o_mapNewB ho fun b5 w2 ho => ?_
 generalize hS0 : (rmE b s a M).blk = S0 at *
 have ho : OwnS S0 w w2 [.mapB b5 [],obE b4 ob0 nilS nilS,rmE b s a M]:=ho
 have fall : ∀ {W : World} {L : List Ent} {e2 : Ent} {N : Mem} (e : Int),OwnS S0 w W (L++([.two e2 (.mem N)]++[]))→M.le N→R = Ps.bad e→e≠0→pk K [wrongE e] W:=by
  intro W L e2 N e ho hle he h0
  subst he
  exact hpan h0 e2 N W _ (ho.front).split hle
 refine loop (fun vs w' => ∃ (a' : Int) (m : Nat) (o : Ob) (l : List Ps.Kv) (al : List (List UInt8 × Value)) (N : Mem),vs = []∧0≤a'∧a'≤s.length∧(l.length : Int)≤a'∧l.length≤8191∧l.length + m = s.length + 1 ∧
   Ps.dict s (Ps.obj s n) m a' o (l.map (·.1)) = R∧M.le N∧KvR N.A N.w al l∧(l.map (·.1)).Nodup∧Ps.Made o l ∧
   OwnS S0 w w' [.mapB b5 al,obE b4 ob0 nilS nilS,rmE b s a' N]) (fun _ w => s.length - rdAt b w)
  ⟨a,s.length + 1,Ps.dict0,[],[],M,rfl,h0,h1,by simpa using h0,by simp,by simp,hR,M.le_refl,trivial,List.nodup_nil,Ps.made0,ho⟩ ?_
 clear ho hR
 rintro vs w4 ⟨a',m,o,l,al,N,rfl,ha0,ha1,hla,hmx,hml,hdict,hle,hkv,hnd,hmade,ho⟩ _
 simp only [S_parse_reader_dict_0]
 obtain⟨m,rfl⟩ : ∃ k,m = k + 1:=⟨m - 1,by omega⟩
 have hall : al.length = l.length:=by simpa using congrArg List.length hkv.fst
 have hat : rdAt b w4 = a'.toNat:=rdAt_is (ho.at_ 2 rfl).1
 refine c_rm ho 2 rfl (pnext_ret b s a' N w4 (by omega) (ho.at_ 2 rfl)) ?_ fun e2 w5 hn ho => ?_
 rotate_left
 ·rw [dict_lacks hn] at hdict
  exact fall (L:=[_,_]) _ ho hle hdict.symm lacks_pos
 rintro _ N1 w5 hhas hle1 rfl ho
 have hbd:=@Lx.next_bd s a' hhas.1 hhas.2
 have hge:=Lx.skip_ge s a'.toNat
 obtain⟨e1,e2⟩:=hhas
 rw [Ps.dict] at hdict
 generalize Lx.next s a' = x at *
 rw [if_neg (by rw [e1];simp)] at hdict
 refine o_tok ho fun b6 w6 ho => ?_
 refine tk_put 0 ho rfl fun w7 ho => ?_
 have ho : OwnS S0 w w7 [tokE b6 x.1,.mapB b5 al,obE b4 ob0 nilS nilS,rmE b s x.1.t N1]:=ho
 rw [tk_v ho 0 rfl]
 refine c_below ho (R:=fun v => v = .bool (decide (x.1.k = 6) && decide (x.1.s = [62,62]))) (pword_ret x.1 6 [62,62] w7) ?_
 rintro _ w8 rfl ho
 cases e3 : (decide (x.1.k = 6) && decide (x.1.s = [62,62])) with
 | true =>
  simp only [Bool.and_eq_true,decide_eq_true_eq] at e3
  rw [if_pos ⟨e3.1,e3.2⟩] at hdict
  simp only [i_t]
  have hb7 : ∀ {PK : List PanicEntry→World→Prop} {K : Value→World→Prop},DoX Tryz.prog (mBuild 27 #[(0,(.int .i64 7))]) w8 PK K = K (obV Ps.dict0 nilS nilS) w8:=do_eq (by kernel_rfl)
  rw [hb7]
  have ho:=(ho.nilU 27 6).nilU 9 1
  refine o_oba ho fun b9 w9 ho => ?_
  refine ob_put (o':=Ps.dict0) (vk':=nilS) (vc':=nilS) 0 rfl rfl ho rfl fun w10 ho => ?_
  have ho : OwnS S0 w w10 ([obE b9 Ps.dict0 nilS nilS,keyE nilS [],kidE nilS 0 []]++([tokE b6 x.1]++[.mapB b5 al,obE b4 ob0 nilS nilS,rmE b s x.1.t N1])):=ho
  have ho:=ho.front.tail
  have ho : OwnS S0 w w10 ([obE b9 Ps.dict0 nilS nilS,keyE nilS [],kidE nilS 0 []]++([.mapB b5 al]++([obE b4 ob0 nilS nilS]++[rmE b s x.1.t N1]))):=ho
  have ho : OwnS S0 w w10 [obE b9 Ps.dict0 nilS nilS,keyE nilS [],kidE nilS 0 [],obE b4 ob0 nilS nilS,.mapB b5 al,rmE b s x.1.t N1]:=
   ho.perm (List.Perm.append_left [obE b9 Ps.dict0 nilS nilS,keyE nilS [],kidE nilS 0 []] (List.Perm.swap _ _ _))
  refine pbuild (hkv.le hle1) hnd hmade hmx ho fun W N2 L v ho hle2 hv => ?_
  subst hdict
  exact hret rfl v N2 W L ho ((hle.trans hle1).trans hle2) hv
 | false =>
 have e3' : ¬ (x.1.k = 6∧x.1.s = [62,62]):=fun h => by
  rw [decide_eq_true h.1,decide_eq_true h.2] at e3
  exact absurd e3 (by decide)
 rw [if_neg e3',if_neg e2] at hdict
 simp only [i_f,fa_t4',tk_s ho 0 rfl]
 rw [lookT 1 ho rfl]
 simp only [ex]
 have hlook : ∃ o' vk vc,(lookA al x.1.s).getD (obV ob0 nilS nilS) = obV o' vk vc∧vk.oneCell' = true∧vc.oneCell' = true:=by
  cases hl : lookA al x.1.s with
  | none => exact⟨ob0,nilS,nilS,rfl,rfl,rfl⟩
  | some v =>
   have hm : (x.1.s,v) ∈ al:=by
    unfold lookA at hl
    obtain⟨p,hp,hpv⟩:=Option.map_eq_some_iff.1 hl
    have h1:=List.find?_some hp
    have h2:=List.mem_of_find?_eq_some hp
    simp only [decide_eq_true_eq] at h1
    rw [← h1,← hpv];exact h2
   obtain⟨q,_,hq⟩:=hkv.mem hm
   obtain⟨vk,vc,cs,he,ha⟩:=hq.open
   exact⟨q,vk,vc,he,ha.keys.one,ha.kids.one⟩
 obtain⟨o',vk7,vc7,hlv,ok7,oc7⟩:=hlook
 rw [hlv]
 refine o_oba ho fun b7 w9 ho => ?_
 refine ob_put (o':=o') 0 ok7 oc7 ho rfl fun w10 ho => ?_
 have ho:=ho.tail
 have ho : OwnS S0 w w10 [tokE b6 x.1,.mapB b5 al,obE b4 ob0 nilS nilS,rmE b s x.1.t N1]:=ho
 have hmet : (lookA al x.1.s).isSome = decide (x.1.s ∈ l.map (·.1)):=by
  rw [← hkv.fst]
  cases hl : lookA al x.1.s with
  | none => rw [decide_eq_false (lookA_none.1 hl)];rfl
  | some v =>
   have : ¬ x.1.s ∉ al.map (·.1):=fun h => by rw [lookA_none.2 h] at hl;cases hl
   rw [decide_eq_true (Classical.not_not.1 this)];rfl
 refine join fun J hJ => ?_
 rw [fa_t0,tk_k ho 0 rfl]
 simp only [rs]
 by_cases e4 : x.1.k = 4
 case neg =>
  rw [if_pos e4] at hdict
  simp only [e4,ne_eq,not_false_eq_true,decide_true,i_t]
  exact throw (fall (L:=[_,_,_]) 3 ho (hle.trans hle1) hdict.symm (by decide))
 rw [if_neg (by rw [e4];simp)] at hdict
 simp only [e4,ne_eq,not_true,decide_false,i_f,hmet]
 by_cases e5 : x.1.s ∈ l.map (·.1)
 ·rw [if_pos e5] at hdict
  simp only [decide_eq_true e5,i_t]
  exact throw (fall (L:=[_,_,_]) 9 ho (hle.trans hle1) hdict.symm (by decide))
 rw [if_neg e5] at hdict
 simp only [decide_eq_false e5,i_f]
 rw [lenM 1 ho rfl,List.length_map] at *
 simp only [rs]
 by_cases e6 : l.length = 8191
 ·rw [if_pos e6] at hdict
  simp only [show (8191 : Int)≤(al.length : Int) by omega,decide_true,i_t]
  exact throw (fall (L:=[_,_,_]) 6 ho (hle.trans hle1) hdict.symm (by decide))
 rw [if_neg e6] at hdict
 simp only [decide_eq_false (show ¬ (8191 : Int)≤(al.length : Int) by omega),i_f]
 refine hJ _ _ fun _ => ?_
 unfold S_parse_reader_dict_3
 have ho:=ho.drew
 refine⟨fun W => (tokE b6 x.1).is W,ho.at_ 0 rfl,?_⟩
 refine hd_pure _ (fun _ => run_fa ft4) ?_
 refine hd_do (.string ⟨x.1.s.toArray⟩) (fun W h => run_load_cell nStr (cells_cell (T:=90) (cs:=tokC x.1) (i:=4) h rfl)) ?_
 refine c_rm ho 3 rfl (pnext_ret b s x.1.t N1 _ (by omega) (ho.at_ 3 rfl)) ?_ fun e2 w11 hn ho => ?_
 rotate_left
 ·rw [obj_lacks hn,if_pos (show (Ps.bad (lacks s x.1.t)).2.2≠0 from lacks_pos)] at hdict
  exact fun _ _ _ _ _ _ => fall (L:=[_,_,_]) _ ho (hle.trans hle1) hdict.symm lacks_pos
 rintro _ N2 w11 hhas2 hle2 rfl ho
 refine⟨ho.at_ 0 rfl,?_⟩
 have hbd2:=@Ps.obj_bd s n x.1.t
 have hob:=hsub b x.1.t N2 w11 hhas2 (ho.at_ 3 rfl)
 generalize Ps.obj s n x.1.t = e at *
 refine c_rm ho 3 rfl hob ?_ fun e2 w12 hz ho => ?_
 rotate_left
 ·rw [if_pos hz] at hdict
  exact fun _ _ _ _ _ _ => fall (L:=[_,_,_]) _ ho ((hle.trans hle1).trans hle2) hdict.symm hz
 rintro u N3 w12 hz hle3 hu ho
 have ho : OwnS S0 w w12 [tokE b6 x.1,.mapB b5 al,obE b4 ob0 nilS nilS,rmE b s e.2.1 N3]:=ho
 refine⟨ho.at_ 0 rfl,?_⟩
 have hln : lookA al x.1.s = none:=lookA_none.2 (by rw [hkv.fst];exact e5)
 refine o_mapAddB 1 Tryz.underlying229 Tryz.underlying9 ho rfl x.1.s u hln fun w13 ho => ⟨ho.at_ 0 rfl,?_⟩
 rw [if_neg (by rw [hz];simp)] at hdict
 have hbd3:=hbd2 hz
 have hm2:=Ps.made_join (v:=e.1) hmade e5
 have hnd2 : ((l++[(x.1.s,e.1)]).map (·.1)).Nodup:=by
  rw [List.map_append,List.nodup_append]
  refine⟨hnd,by simp,fun p hp q hq => ?_⟩
  simp at hq
  subst hq
  exact fun h => e5 (h ▸ hp)
 have h5 : a' < e.2.1:=by
  have:=hbd3.1
  omega
 refine nextX ⟨e.2.1,m,Ps.join o x.1.s e.1,l++[(x.1.s,e.1)],al++[(x.1.s,u)],N3,rfl,by omega,hbd3.2,by simp;omega,by simp;omega,by simp;omega,?_,((hle.trans hle1).trans hle2).trans hle3,(((hkv.le hle1).le hle2).le hle3).snoc hu,hnd2,hm2,ho.tail⟩ ?_
 ·rw [List.map_append];exact hdict
 ·have hat2 : rdAt b w13 = e.2.1.toNat:=rdAt_is (ho.at_ 3 rfl).1
  show s.length - rdAt b w13 < s.length - rdAt b w4
  rw [hat,hat2]
  exact meas ha0 h5 hbd3.2
theorem pobject_ret (s : List UInt8) (hs : s.length≤1000000000) (n : Nat) (hn : n≤24) : PObj s n:=
 pobj_ret s hs (fun n hn h => parr_ret s hs n hn h) (fun n hn h => pdict_ret s hs n hn h) n hn
end Go.Proofs.YtjloddgofmdmgaaGreatDoor
namespace Go.Proofs.YtjloddgofmdmgaaGreatDoor
set_option maxRecDepth 20000
open Eng Go.RowKit
namespace Ps
theorem arr_err {s : List UInt8} {ok : Bool} {sub : Int→R} : ∀ (m : Nat) (a : Int) (acc : List Ob),(arr s ok sub m a acc).2.2≠0→arr s ok sub m a acc = bad (arr s ok sub m a acc).2.2
 | 0,_,_,_ => rfl
 | m + 1,a,acc,h => by
  rw [arr] at h ⊢
  split
  ·rename_i h1;rw [if_pos h1] at h;exact absurd rfl h
  rename_i h1
  rw [if_neg h1] at h
  split
  ·rfl
  rename_i h2
  rw [if_neg h2] at h
  split
  ·rfl
  rename_i h3
  rw [if_neg h3] at h
  split
  ·rfl
  rename_i h4
  rw [if_neg h4] at h
  exact arr_err m _ _ h
theorem dict_err {s : List UInt8} {sub : Int→R} : ∀ (m : Nat) (a : Int) (o : Ob) (met : List (List UInt8)),(dict s sub m a o met).2.2≠0→dict s sub m a o met = bad (dict s sub m a o met).2.2
 | 0,_,_,_,_ => rfl
 | m + 1,a,o,met,h => by
  rw [dict] at h ⊢
  split
  ·rfl
  rename_i h1
  rw [if_neg h1] at h
  split
  ·rename_i h2;rw [if_pos h2] at h;exact absurd rfl h
  rename_i h2
  rw [if_neg h2] at h
  split
  ·rfl
  rename_i h3
  rw [if_neg h3] at h
  split
  ·rfl
  rename_i h4
  rw [if_neg h4] at h
  split
  ·rfl
  rename_i h5
  rw [if_neg h5] at h
  split
  ·rfl
  rename_i h6
  rw [if_neg h6] at h
  split
  ·rfl
  rename_i h7
  rw [if_neg h7] at h
  exact dict_err m _ _ _ h
theorem leaf_ok {s : List UInt8} {t : Lx.Tok} : (leaf s t).2.2 = 0:=by
 unfold leaf
 split
 ·cases ref s t<;>rfl
 all_goals (repeat' split)<;>rfl
theorem obj_err {s : List UInt8} {n : Nat} {a : Int} (h : (obj s n a).2.2≠0) : obj s n a = bad (obj s n a).2.2:=by
 have hob : obj s n a = _:=obj.eq_def s n a
 simp only at hob
 revert h
 rw [hob]
 intro h
 split
 ·rfl
 rename_i h1
 rw [if_neg h1] at h
 split
 ·rfl
 rename_i h2
 rw [if_neg h2] at h
 split
 ·rfl
 rename_i h3
 rw [if_neg h3] at h
 cases n with
 | zero => rfl
 | succ n =>
  simp only at h ⊢
  split
  ·rename_i h4;rw [if_pos h4] at h;exact absurd leaf_ok h
  rename_i h4
  rw [if_neg h4] at h
  split
  ·rename_i h5;rw [if_pos h5] at h;exact arr_err _ _ _ h
  ·rename_i h5;rw [if_neg h5] at h;exact dict_err _ _ _ _ h
end Ps
theorem psface_plain : plainB Tryz.prog 116 = true:=by kernel_rfl
theorem psread_ret (b : Nat) (s : List UInt8) (a : Int) (M : Mem) (w : World) (hs : s.length≤1000000000) (hr : (rmE b s a M).is w) :
  Ret Tryz.prog 68 #[rdP b] w (fun v w' => ∃ N u e2,M.le N∧v = .tuple #[u,.int .i64 (Ps.obj s 24 a).2.2]∧OV N.A N.w u (Ps.obj s 24 a).1∧((Ps.obj s 24 a).2.2 = 0→e2 = rdE b s (Ps.obj s 24 a).2.1)∧Turn (rmE b s a M) (.two e2 (.mem N)) w w'):=by
 refine ret_of fun K hK => S_parse_reader_read_ok ?_
 unfold S_parse_reader_read
 have ho : OwnS (rmE b s a M).blk w w [rmE b s a M]:=OwnS.lend hr
 generalize hS0 : (rmE b s a M).blk = S0 at ho
 refine o_oba ho fun b2 w1 ho => ?_
 refine o_new (fun b => .pointer (some ⟨b,0,none⟩)) [.int .i64 0] 30 (fun _ => by kernel_rfl) ho fun b3 w2 ho => ?_
 have ho : OwnS S0 w w2 [.cells b3 [.int .i64 0] 30,obE b2 ob0 nilS nilS,rmE b s a M]:=ho
 -- a syntax error
 have fail2 : ∀ {W : World} {e2 : Ent} {e : Int} {N : Mem},OwnS S0 w W [.cells b3 [.int .i64 0] 30,obE b2 ob0 nilS nilS,.two e2 (.mem N)]→M.le N→Ps.obj s 24 a = Ps.bad e→e≠0→S_parse_reader_read_p0 (.pointer (some ⟨b2,0,none⟩)) (.pointer (some ⟨b3,0,none⟩)) K [wrongE e] W:=by
  intro W e2 e N ho hle he h0
  show pd Tryz.prog _ K _ [wrongE e] W
  unfold pd
  refine leave_fn (by simp) psface_plain (S_parse_face_dok ?_)
  simp only [S_parse_face,recV,recM,wrongE,Eng.e_some Tryz.underlying20,rs,t_hit nfW,ex,i_t,i_f]
  refine o_store 0 ho rfl (by kernel_rfl) rfl (by simp) fun w7 ho => ?_
  refine ret_v2 (rv_cell (ho.agg 1 rfl aggOb)) (rv_cell (AtV.cell nErr5 (ho.cell 0 rfl 0 rfl))) (hK _ _ ⟨N,obV ob0 nilS nilS,e2,hle,?_,?_,?_,?_⟩)
  ·rw [he];rfl
  ·rw [he];exact ob0_ov2
  ·rw [he];exact fun h => absurd h h0
  ·have ho : OwnS S0 w w7 ([.cells b3 [.int .i64 e] 30,obE b2 ob0 nilS nilS]++([.two e2 (.mem N)]++[])):=ho
   have ho:=ho.front
   subst hS0
   exact OwnS.back ho
 refine c_rm ho 2 rfl (pnext_ret b s a M w2 (by omega) (ho.at_ 2 rfl)) ?_ fun e2 w3 hn ho => fail2 ho M.le_refl (obj_lacks hn) lacks_pos
 rintro _ N w3 hh hle rfl ho
 have hob:=pobject_ret s hs 24 (by omega) b a N w3 hh (ho.at_ 2 rfl)
 rw [show (24 : Int) - ((24 : Nat) : Int) = 0 by decide] at hob
 refine c_rm ho 2 rfl hob ?_ fun e2 w4 hz ho => fail2 ho hle (Ps.obj_err hz) hz
 rintro u N2 w4 hz hle2 hu ho
 obtain⟨xk,xc,xcs,rfl,hx⟩:=hu.open
 refine ob_put 1 hx.keys.one hx.kids.one ho rfl fun w5 ho => ?_
 refine o_store 0 ho rfl (by kernel_rfl) rfl (by simp) fun w6 ho => ?_
 refine leave_fn (by simp) psface_plain (S_parse_face_dok ?_)
 simp only [S_parse_face,recV,recM,Eng.e_nil Tryz.underlying20,rs]
 have ho : OwnS S0 w w6 ([.cells b3 [.int .i64 0] 30,obE b2 (Ps.obj s 24 a).1 xk xc]++([.two (rdE b s (Ps.obj s 24 a).2.1) (.mem N2)]++[])):=ho
 refine ret_v2 (rv_cell (ho.agg 1 rfl aggOb)) (rv_cell (AtV.cell nErr5 (ho.cell 0 rfl 0 rfl))) (hK _ _ ⟨N2,obV (Ps.obj s 24 a).1 xk xc,_,hle.trans hle2,?_,hx.ov,fun _ => rfl,?_⟩)
 ·rw [hz];rfl
 ·have ho:=ho.front
  subst hS0
  exact OwnS.back ho
theorem psobject_ret (s : List UInt8) (a : Int) (hs : s.length≤1000000000) (M : Mem) (w : World) (hM : M.has w) : RetM Tryz.prog 47 #[.string ⟨s.toArray⟩,.int .i64 a] M w (objR (Ps.object s a)):=by
 refine retM_of hM fun K hK => S_parse_Object_ok ?_
 unfold S_parse_Object
 refine o_oba (OwnS.memS hM) fun b4 w1 ho => ?_
 have fail : a < 0∨(s.length : Int) < a→DoX Tryz.prog (mBuild 27 #[]) w1 (pk K) (fun t W => DoX Tryz.prog (mStore 27 (.pointer (some ⟨b4,0,none⟩)) t) W (pk K) fun _ W => RetX Tryz.prog [.cell (.pointer (some ⟨b4,0,none⟩)) 27,.val (.int .i64 0),.val (.int .i64 1)] W K):=by
  intro h
  refine ret_bad 0 ho rfl fun w' ho => ?_
  refine hK _ _ M _ 1 ho rfl M.le_refl ?_
  rw [Ps.object,if_pos h]
  exact⟨_,rfl,ob0_ov2⟩
 by_cases h1 : a < 0
 ·simp only [rs,decide_eq_true h1,g_un]
  exact fail (.inl h1)
 by_cases h2 : (s.length : Int) < a
 ·simp only [rs,decide_eq_false h1,s_len Tryz.underlying9,decide_eq_true h2,g_un]
  exact fail (.inr h2)
 simp only [rs,decide_eq_false h1,s_len Tryz.underlying9,decide_eq_false h2,g_un]
 clear fail
 have hPs : Ps.object s a = Ps.obj s 24 a:=by rw [Ps.object,if_neg (by omega)]
 rw [hPs] at hK
 have hb1 : ∀ {PK : List PanicEntry→World→Prop} {K : Value→World→Prop},DoX Tryz.prog (mBuild 118 #[(0,.string ⟨s.toArray⟩),(1,.int .i64 a)]) w1 PK K = K (.agg (rdC s a).toArray) w1:=do_eq (by kernel_rfl)
 rw [hb1]
 refine o_new (fun b => .pointer (some ⟨b,0,none⟩)) (rdC s a) 118 (fun _ => by kernel_rfl) ho fun b22 w2 ho => ?_
 have ho : OwnS M.A w w2 ([rdE b22 s a]++([obE b4 ob0 nilS nilS]++([.mem M]++[]))):=ho
 have ho : OwnS M.A w w2 ([rdE b22 s a]++([.mem M]++([obE b4 ob0 nilS nilS]))):=ho.perm (List.Perm.append_left _ (List.Perm.swap _ _ _))
 have ho:=ho.pair
 refine c_ret (psread_ret b22 s a M w2 hs (ho.at_ 0 rfl)) ?_
 rintro _ w3 ⟨N,u,e2,hle,rfl,hu,he2,ht⟩
 have ho:=(ho.turn 0 rfl ht).split
 have ho : OwnS M.A w w3 [e2,.mem N,obE b4 ob0 nilS nilS]:=ho
 simp only [ex]
 obtain⟨xk,xc,xcs,rfl,hx⟩:=hu.open
 refine o_oba ho fun b8 w4 ho => ?_
 refine ob_put 0 hx.keys.one hx.kids.one ho rfl fun w5 ho => ?_
 have ho : OwnS M.A w w5 [obE b8 (Ps.obj s 24 a).1 xk xc,e2,.mem N,obE b4 ob0 nilS nilS]:=ho
 simp only [rs]
 by_cases hz : (Ps.obj s 24 a).2.2 = 0
 case neg =>
  simp only [hz,ne_eq,not_false_eq_true,decide_true,i_t]
  refine ret_bad 3 ho rfl fun w' ho => ?_
  refine hK _ _ N _ 2 ho rfl hle ?_
  rw [Ps.obj_err hz]
  exact⟨_,rfl,ob0_ov2⟩
 simp only [hz,ne_eq,not_true,decide_false,i_f]
 rw [he2 hz] at ho
 have ho:=ho.drew
 refine⟨fun W => (obE b8 (Ps.obj s 24 a).1 xk xc).is W∧(rdE b22 s (Ps.obj s 24 a).2.1).is W,⟨ho.at_ 0 rfl,ho.at_ 1 rfl⟩,?_⟩
 refine hd_do (obV (Ps.obj s 24 a).1 xk xc) (fun W h => run_load_at (AtV.agg aggOb (cs:=obC (Ps.obj s 24 a).1 xk xc) rfl fun j u hj => by rw [Nat.zero_add];exact cells_cell (T:=27) h.1 hj)) ?_
 refine hd_pure _ (fun _ => run_nil) (hd_pure _ (fun _ => run_fa fr1) (hd_do _ (fun W h => rdr_a h.2) ?_))
 refine ob_put 3 hx.keys.one hx.kids.one ho rfl fun w6 ho => ⟨⟨ho.at_ 0 rfl,ho.at_ 1 rfl⟩,?_⟩
 refine ret_v3 (rv_cell (ho.agg 3 rfl aggOb)) rv_val rv_val (hK _ _ N _ 2 ho rfl hle ?_)
 exact⟨_,by rw [hz];rfl,hx.ov⟩
end Go.Proofs.YtjloddgofmdmgaaGreatDoor
namespace Go.Proofs.YtjloddgofmdmgaaGreatDoor
open Go
structure Slt where
 num : Int
 kind : Int
 a : Int
 b : Int
 deriving DecidableEq
structure Sec where
 at_ : Int
 slots : List Slt
 trailer : Ob
 prev : Int
 hybrid : Int
 own : Int
namespace Tl
open Lx (next Tok)
def xrefW : List UInt8:=[120,114,101,102]
def trailW : List UInt8:=[116,114,97,105,108,101,114]
def prevK : List UInt8:=[80,114,101,118]
def hybK : List UInt8:=[88,82,101,102,83,116,109]
def number (s : List UInt8) (at_ least most : Int) : Option (Int × Int):=
 if (next s at_).2≠0∨(next s at_).1.k≠1∨(next s at_).1.n < least∨most < (next s at_).1.n then none else some ((next s at_).1.n,(next s at_).1.t)
def word (s : List UInt8) (at_ : Int) (w : List UInt8) : Option Int:=
 if (next s at_).2 = 0∧(next s at_).1.k = 5∧(next s at_).1.s = w then some (next s at_).1.t else none
def entry (s : List UInt8) (at_ num : Int) : Option (Slt × Int):=
 match number s at_ 0 2147483647 with
 | none => none
 | some a => match number s a.2 0 65535 with
  | none => none
  | some b => match word s b.2 [110] with
   | some t => some (⟨num,1,a.1,b.1⟩,t)
   | none => match word s b.2 [102] with
    | some t => some (⟨num,0,a.1,b.1⟩,t)
    | none => none
def lay (l : List Slt) (x : Slt) : Option (List Slt):=
 if (l.map (·.num)).contains x.num then none else some ((l.takeWhile fun y => decide (y.num < x.num))++x :: (l.dropWhile fun y => decide (y.num < x.num)))
def entries (s : List UInt8) : Nat→Int→Int→List Slt→Option (List Slt × Int)
 | 0,_,at_,l => some (l,at_)
 | n + 1,num,at_,l => match entry s at_ num with
  | none => none
  | some e => match lay l e.1 with
   | none => none
   | some l' => entries s n (num + 1) e.2 l'
def slots (s : List UInt8) : Nat→Int→List Slt→Option (List Slt × Int)
 | 0,_,_ => none
 | m + 1,at_,l => match word s at_ trailW with
  | some t => some (l,t)
  | none => match number s at_ 0 8191 with
   | none => none
   | some f => match number s f.2 0 (8192 - f.1) with
    | none => none
    | some c => match entries s c.1.toNat f.1 c.2 l with
     | none => none
     | some r => slots s m r.2 r.1
def leads (o : Ob) (k : List UInt8) : Option Int:=match Vl.get o k with
 | none => some (-1)
 | some v => if v.k = 2∧0≤v.n then some v.n else none
def sec0 : Sec:=⟨0,[],Vl.ob0,0,0,0⟩
def bad : Sec × Int × Int:=(sec0,0,19)
def beginsX (s : List UInt8) (at_ : Int) : Bool:=decide (0≤at_) && decide (at_≤(s.length : Int)) && xrefW.isPrefixOf (s.drop at_.toNat)
def finish (s : List UInt8) (at_ : Int) (l : List Slt) (t : Int) : Sec × Int × Int:=
 if (Ps.object s t).2.2≠0∨(Ps.object s t).1.k≠7 then bad
 else match leads (Ps.object s t).1 prevK,leads (Ps.object s t).1 hybK with
  | some p,some h => (⟨at_,l,(Ps.object s t).1,p,h,0⟩,(Ps.object s t).2.1,0)
  | _,_ => bad
def read (s : List UInt8) (at_ : Int) : Sec × Int × Int:=
 if beginsX s at_ = false then bad
 else match word s at_ xrefW with
  | none => bad
  | some t => match slots s (s.length + 1) t [] with
   | none => bad
   | some r => finish s at_ r.1 r.2
def okS (x : Slt) : Int:=
 if x.num < 0∨8191 < x.num then 2 else if x.kind < 0∨2 < x.kind then 10
 else if x.kind = 2 then (if x.a < 1∨8191 < x.a∨x.b < 0∨8191 < x.b then 2 else 0) else if x.a < 0∨2147483647 < x.a∨x.b < 0∨65535 < x.b then 2 else 0
def checkG : Option Int→List Slt→Int
 | _,[] => 0
 | last,x :: l => if okS x≠0 then okS x else if last.any (fun n => decide (x.num = n)) then 9 else if last.any (fun n => decide (x.num < n)) then 1 else checkG (some x.num) l
def check (l : List Slt) : Int:=checkG none l
end Tl
end Go.Proofs.YtjloddgofmdmgaaGreatDoor
namespace Go.Proofs.YtjloddgofmdmgaaGreatDoor
set_option maxRecDepth 20000
open Eng
def S_table_reader_slots_fn1 (t0 t1 : Value) (w : World) (K : Ending→World→Prop) : Prop:=
 DoX Tryz.prog (mBox 49 t0) w (pk K) fun t2 w =>
 DoX Tryz.prog (mBox 49 t1) w (pk K) fun t3 w =>
 DoX Tryz.prog (mFA 49 t2 0) w (pk K) fun t5 w =>
 DoX Tryz.prog (mLoad 3 t5) w (pk K) fun t6 w =>
 DoX Tryz.prog (mFA 49 t3 0) w (pk K) fun t7 w =>
 DoX Tryz.prog (mLoad 3 t7) w (pk K) fun t8 w =>
 DoX Tryz.prog (mBin .sub 3 t6 t8) w (pk K) fun t9 w =>
 K (.returned t9) w
theorem S_table_reader_slots_fn1_eq (t0 t1 : Value) (w : World) (K : Ending→World→Prop) : wpX Tryz.prog 10 [] [] none (bodyOf Tryz.f67) (topQ Tryz.prog [.tmp 4] K) (startX [t0,t1]) [] w = S_table_reader_slots_fn1 t0 t1 w K:=by kernel_rfl
theorem S_table_reader_slots_fn1_ok {t0 t1 : Value} {w : World} {K : Ending→World→Prop} (h : S_table_reader_slots_fn1 t0 t1 w K) : Calls Tryz.prog 67 #[t0,t1] w K:=
 calls_of_wpX Tryz.func67 rfl rfl rfl rfl (Eq.mpr (S_table_reader_slots_fn1_eq t0 t1 w K) h)
def S_table_must (t0 : Value) (w : World) (K : Ending→World→Prop) : Prop:=
 DoX Tryz.prog (mUn .not t0) w (pk K) fun t3 w =>
 IfX t3 (DoX Tryz.prog (mBuild 108 #[]) w (pk K) fun t4 w =>
 DoX Tryz.prog (mIface 108 t4) w (pk K) fun t5 w =>
 DoX Tryz.prog (mPanic t5) w (pk K) fun _ w =>
 K (.returned (.tuple #[])) w) (K (.returned (.tuple #[])) w)
theorem S_table_must_eq (t0 : Value) (w : World) (K : Ending→World→Prop) : wpX Tryz.prog 6 [] [] none (bodyOf Tryz.f43) (topQ Tryz.prog [] K) (startX [t0]) [] w = S_table_must t0 w K:=by kernel_rfl
theorem S_table_must_ok {t0 : Value} {w : World} {K : Ending→World→Prop} (h : S_table_must t0 w K) : Calls Tryz.prog 43 #[t0] w K:=
 calls_of_wpX Tryz.func43 rfl rfl rfl rfl (Eq.mpr (S_table_must_eq t0 w K) h)
def S_table_reader_next_0 (t0 t2 t3 t4 : Value) (w : World) (K : Ending→World→Prop) : Prop:=
 DoX Tryz.prog (mEq .eql 30 (.tmp 17) (.const (.int .i64 0)) t4 (.int .i64 0)) w (pk K) fun t18 w =>
 CallX Tryz.prog 43 #[t18] w (pk K) fun t19 w =>
 DoX Tryz.prog (mFA 90 t3 2) w (pk K) fun t21 w =>
 DoX Tryz.prog (mLoad 3 t21) w (pk K) fun t22 w =>
 DoX Tryz.prog (mNil t0) w (pk K) fun t23 w =>
 DoX Tryz.prog (mFA 53 t23 1) w (pk K) fun t24 w =>
 DoX Tryz.prog (mStore 3 t24 t22) w (pk K) fun _ w =>
 DoX Tryz.prog (mLoad 90 t3) w (pk K) fun t25 w =>
 DoX Tryz.prog (mStore 90 t2 t25) w (pk K) fun _ w =>
 RetX Tryz.prog [.cell t2 90] w K
def S_table_reader_next (t0 : Value) (w : World) (K : Ending→World→Prop) : Prop:=
 DoX Tryz.prog (mAlloc 90) w (pk K) fun t2 w =>
 HeldX w (fun S1 w =>
 HDo Tryz.prog (fun _ => True) (mNil t0) fun t7 =>
 HDo Tryz.prog (fun _ => True) (mFA 53 t7 0) fun t8 =>
 HDo Tryz.prog S1 (mLoad 9 t8) fun t9 =>
 HDo Tryz.prog (fun _ => True) (mNil t0) fun t11 =>
 HDo Tryz.prog (fun _ => True) (mFA 53 t11 1) fun t12 =>
 HDo Tryz.prog S1 (mLoad 3 t12) fun t13 =>
 (CallX Tryz.prog 63 #[t9,t13] w (pm1 (pm1 (pm1 (pm1 (pm1 (pm1 (pm1 (pm1 (pm1 (pm1 (pm1 (pm1 (pk K))))))))))))) fun t14 w =>
 (HDo Tryz.prog (fun _ => True) (mExt t14 0) fun t15 =>
 HDo Tryz.prog (fun _ => True) (mExt t14 1) fun t16 =>
 DoX Tryz.prog (mAlloc 90) w (pm1 (pm1 (pm1 (pm1 (pm1 (pm1 (pm1 (pm1 (pm1 (pm1 (pm1 (pm1 (pk K))))))))))))) fun t3 w =>
 S1 w∧(DoX Tryz.prog (mStore 90 t3 t15) w (pm1 (pm1 (pm1 (pm1 (pm1 (pm1 (pm1 (pm1 (pm1 (pm1 (pm1 (pm1 (pk K))))))))))))) fun _ w =>
 (S_table_reader_next_0 t0 t2 t3 t16 w K))))∧(DoX Tryz.prog (mAlloc 90) w (pm1 (pm1 (pm1 (pm1 (pm1 (pm1 (pm1 (pm1 (pm1 (pm1 (pm1 (pm1 (pk K))))))))))))) fun t3_1 w =>
 S1 w∧(CallX Tryz.prog 63 #[t9,t13] w (pm1 (pm1 (pm1 (pm1 (pm1 (pm1 (pm1 (pm1 (pm1 (pm1 (pm1 (pm1 (pk K))))))))))))) fun t14_1 w =>
 (HDo Tryz.prog (fun _ => True) (mExt t14_1 0) fun t15_1 =>
 HDo Tryz.prog (fun _ => True) (mExt t14_1 1) fun t16_1 =>
 DoX Tryz.prog (mStore 90 t3_1 t15_1) w (pm1 (pm1 (pm1 (pm1 (pm1 (pm1 (pm1 (pm1 (pm1 (pm1 (pm1 (pm1 (pk K))))))))))))) fun _ w =>
 (S_table_reader_next_0 t0 t2 t3_1 t16_1 w K)))))
theorem S_table_reader_next_eq (t0 : Value) (w : World) (K : Ending→World→Prop) : wpX Tryz.prog 26 [] [] none (bodyOf Tryz.f45) (topQ Tryz.prog [.cell 2 90] K) (startX [t0]) [] w = S_table_reader_next t0 w K:=by kernel_rfl
theorem S_table_reader_next_ok {t0 : Value} {w : World} {K : Ending→World→Prop} (h : S_table_reader_next t0 w K) : Calls Tryz.prog 45 #[t0] w K:=
 calls_of_wpX Tryz.func45 rfl rfl rfl rfl (Eq.mpr (S_table_reader_next_eq t0 w K) h)
def S_table_whole (t0 t1 : Value) (w : World) (K : Ending→World→Prop) : Prop:=
 DoX Tryz.prog (mBox 90 t0) w (pk K) fun t2 w =>
 DoX Tryz.prog (mFA 90 t2 0) w (pk K) fun t5 w =>
 DoX Tryz.prog (mLoad 3 t5) w (pk K) fun t6 w =>
 DoX Tryz.prog (mEq .eql 3 (.tmp 6) (.const (.int .i64 1)) t6 (.int .i64 1)) w (pk K) fun t7 w =>
 GDo t7 true (fun E => DoX Tryz.prog (mFA 90 t2 3) w (pk K) E) w fun t9 w =>
 GDo t7 true (fun E => DoX Tryz.prog (mLoad 2 t9) w (pk K) E) w fun t10 w =>
 GDo t7 true (fun E => DoX Tryz.prog (mBin .geq 2 t10 (.int .i64 0)) w (pk K) E) w fun t11 w =>
 DoX Tryz.prog (mPick t7 t11 (.bool false)) w (pk K) fun t12 w =>
 GDo t12 true (fun E => DoX Tryz.prog (mFA 90 t2 3) w (pk K) E) w fun t14 w =>
 GDo t12 true (fun E => DoX Tryz.prog (mLoad 2 t14) w (pk K) E) w fun t15 w =>
 GDo t12 true (fun E => E t1 w) w fun t16 w =>
 GDo t12 true (fun E => DoX Tryz.prog (mBin .leq 2 t15 t16) w (pk K) E) w fun t17 w =>
 DoX Tryz.prog (mPick t12 t17 (.bool false)) w (pk K) fun t18 w =>
 CallX Tryz.prog 43 #[t18] w (pk K) fun t19 w =>
 DoX Tryz.prog (mFA 90 t2 3) w (pk K) fun t20 w =>
 DoX Tryz.prog (mLoad 2 t20) w (pk K) fun t21 w =>
 K (.returned t21) w
theorem S_table_whole_eq (t0 t1 : Value) (w : World) (K : Ending→World→Prop) : wpX Tryz.prog 22 [] [] none (bodyOf Tryz.f64) (topQ Tryz.prog [.tmp 4] K) (startX [t0,t1]) [] w = S_table_whole t0 t1 w K:=by kernel_rfl
theorem S_table_whole_ok {t0 t1 : Value} {w : World} {K : Ending→World→Prop} (h : S_table_whole t0 t1 w K) : Calls Tryz.prog 64 #[t0,t1] w K:=
 calls_of_wpX Tryz.func64 rfl rfl rfl rfl (Eq.mpr (S_table_whole_eq t0 t1 w K) h)
def S_table_reader_entry_0 (t4 t5 : Value) (w : World) (K : Ending→World→Prop) : Prop:=
 DoX Tryz.prog (mLoad 49 t5) w (pk K) fun t35 w =>
 DoX Tryz.prog (mStore 49 t4 t35) w (pk K) fun _ w =>
 RetX Tryz.prog [.cell t4 49] w K
def S_table_reader_entry (t0 t1 : Value) (w : World) (K : Ending→World→Prop) : Prop:=
 DoX Tryz.prog (mAlloc 49) w (pk K) fun t4 w =>
 CallX Tryz.prog 45 #[t0] w (pk K) fun t9 w =>
 CallX Tryz.prog 64 #[t9,(.int .i64 2147483647)] w (pk K) fun t10 w =>
 CallX Tryz.prog 45 #[t0] w (pk K) fun t12 w =>
 CallX Tryz.prog 64 #[t12,(.int .i64 65535)] w (pk K) fun t13 w =>
 DoX Tryz.prog (mBuild 49 #[(0,t1),(2,t10),(3,t13)]) w (pk K) fun t14 w =>
 DoX Tryz.prog (mAlloc 49) w (pk K) fun t5 w =>
 DoX Tryz.prog (mStore 49 t5 t14) w (pk K) fun _ w =>
 CallX Tryz.prog 45 #[t0] w (pk K) fun t16 w =>
 DoX Tryz.prog (mAlloc 90) w (pk K) fun t6 w =>
 DoX Tryz.prog (mStore 90 t6 t16) w (pk K) fun _ w =>
 DoX Tryz.prog (mFA 90 t6 0) w (pk K) fun t17 w =>
 DoX Tryz.prog (mLoad 3 t17) w (pk K) fun t18 w =>
 DoX Tryz.prog (mEq .eql 3 (.tmp 18) (.const (.int .i64 5)) t18 (.int .i64 5)) w (pk K) fun t19 w =>
 GDo t19 true (fun E => DoX Tryz.prog (mFA 90 t6 4) w (pk K) E) w fun t21 w =>
 GDo t19 true (fun E => DoX Tryz.prog (mLoad 9 t21) w (pk K) E) w fun t22 w =>
 GDo t19 true (fun E => DoX Tryz.prog (mEq .eql 9 (.tmp 22) (.const (.string ⟨#[110]⟩)) t22 (.string ⟨#[110]⟩)) w (pk K) E) w fun t23 w =>
 GDo t19 true (fun E => E t23 w) w fun t24 w =>
 GDo t24 false (fun E => DoX Tryz.prog (mFA 90 t6 4) w (pk K) E) w fun t25 w =>
 GDo t24 false (fun E => DoX Tryz.prog (mLoad 9 t25) w (pk K) E) w fun t26 w =>
 GDo t24 false (fun E => DoX Tryz.prog (mEq .eql 9 (.tmp 26) (.const (.string ⟨#[102]⟩)) t26 (.string ⟨#[102]⟩)) w (pk K) E) w fun t27 w =>
 GDo t19 true (fun E => DoX Tryz.prog (mPick t24 (.bool true) t27) w (pk K) E) w fun t28 w =>
 DoX Tryz.prog (mPick t19 t28 (.bool false)) w (pk K) fun t29 w =>
 CallX Tryz.prog 43 #[t29] w (pk K) fun t30 w =>
 JoinX (fun J1 =>
 DoX Tryz.prog (mFA 90 t6 4) w (pk K) fun t31 w =>
 DoX Tryz.prog (mLoad 9 t31) w (pk K) fun t32 w =>
 DoX Tryz.prog (mEq .eql 9 (.tmp 32) (.const (.string ⟨#[110]⟩)) t32 (.string ⟨#[110]⟩)) w (pk K) fun t33 w =>
 IfX t33 (DoX Tryz.prog (mFA 49 t5 1) w (pk K) fun t34 w =>
 DoX Tryz.prog (mStore 3 t34 (.int .i64 1)) w (pk K) fun _ w =>
 J1 [] w) (J1 [] w)) (fun vs1 w => ∀ _ : Sg,S_table_reader_entry_0 t4 t5 w K)
theorem S_table_reader_entry_eq (t0 t1 : Value) (w : World) (K : Ending→World→Prop) : wpX Tryz.prog 36 [(6,[])] [] none (bodyOf Tryz.f65) (topQ Tryz.prog [.cell 4 49] K) (startX [t0,t1]) [] w = S_table_reader_entry t0 t1 w K:=by kernel_rfl
theorem S_table_reader_entry_ok {t0 t1 : Value} {w : World} {K : Ending→World→Prop} (h : S_table_reader_entry t0 t1 w K) : Calls Tryz.prog 65 #[t0,t1] w K:=
 calls_of_wpX Tryz.func65 rfl rfl rfl rfl (Eq.mpr (S_table_reader_entry_eq t0 t1 w K) h)
def S_table_reader_slots_2 (t0 t3 t5 t35 t36 : Value) (w : World) (N1 N3 : List Value→World→Prop) (K : Ending→World→Prop) : Prop:=
 DoX Tryz.prog (mBin .lss 3 t36 t35) w (pk K) fun t37 w =>
 IfX t37 (DoX Tryz.prog (mBin .add 3 t5 t36) w (pk K) fun t43 w =>
 DoX Tryz.prog (mLook 110 t3 t43 true) w (pk K) fun t44 w =>
 DoX Tryz.prog (mExt t44 0) w (pk K) fun t45 w =>
 DoX Tryz.prog (mExt t44 1) w (pk K) fun t46 w =>
 DoX Tryz.prog (mAlloc 49) w (pk K) fun t8 w =>
 DoX Tryz.prog (mStore 49 t8 t45) w (pk K) fun _ w =>
 DoX Tryz.prog (mBin .add 3 t5 t36) w (pk K) fun t50 w =>
 CallX Tryz.prog 65 #[t0,t50] w (pk K) fun t51 w =>
 DoX Tryz.prog (mAlloc 49) w (pk K) fun t10 w =>
 DoX Tryz.prog (mStore 49 t10 t51) w (pk K) fun _ w =>
 DoX Tryz.prog (mUn .not t46) w (pk K) fun t53 w =>
 CallX Tryz.prog 43 #[t53] w (pk K) fun t54 w =>
 DoX Tryz.prog (mBin .add 3 t5 t36) w (pk K) fun t58 w =>
 DoX Tryz.prog (mLoad 49 t10) w (pk K) fun t59 w =>
 DoX Tryz.prog (mMapU 110 t3 t58 t59) w (pk K) fun _ w =>
 DoX Tryz.prog (mBin .add 3 t36 (.int .i64 1)) w (pk K) fun t60 w =>
 N3 [t60] w) (N1 [] w)
def S_table_reader_slots_1 (t11 t62 : Value) (w : World) (N2 : List Value→World→Prop) (K : Ending→World→Prop) : Prop:=
 DoX Tryz.prog (mNext t62 false 0) w (pk K) fun t63 w =>
 DoX Tryz.prog (mExt t63 0) w (pk K) fun t64 w =>
 IfX t64 (DoX Tryz.prog (mEntry t62) w (pk K) fun t65 w =>
 DoX Tryz.prog (mExt t65 1) w (pk K) fun t66 w =>
 DoX Tryz.prog (mAlloc 49) w (pk K) fun t13 w =>
 DoX Tryz.prog (mStore 49 t13 t66) w (pk K) fun _ w =>
 DoX Tryz.prog (mLoad 49 t13) w (pk K) fun t68 w =>
 DoX Tryz.prog (mBuildS 23 1 #[(0,t68)]) w (pk K) fun t69 w =>
 DoX Tryz.prog (mB .append #[23,23] 23 #[false,false] #[t11,t69]) w (pk K) fun t70 w =>
 N2 [t70] w) (CallX Tryz.prog 66 #[t11,(.func (.func 67) #[] #[])] w (pk K) fun t72 w =>
 K (.returned t11) w)
def S_table_reader_slots_0 (t0 t3 : Value) (w : World) (N1 : List Value→World→Prop) (K : Ending→World→Prop) : Prop:=
 CallX Tryz.prog 45 #[t0] w (pk K) fun t16 w =>
 DoX Tryz.prog (mAlloc 90) w (pk K) fun t4 w =>
 DoX Tryz.prog (mStore 90 t4 t16) w (pk K) fun _ w =>
 DoX Tryz.prog (mFA 90 t4 0) w (pk K) fun t17 w =>
 DoX Tryz.prog (mLoad 3 t17) w (pk K) fun t18 w =>
 DoX Tryz.prog (mEq .eql 3 (.tmp 18) (.const (.int .i64 5)) t18 (.int .i64 5)) w (pk K) fun t19 w =>
 GDo t19 true (fun E => DoX Tryz.prog (mFA 90 t4 4) w (pk K) E) w fun t21 w =>
 GDo t19 true (fun E => DoX Tryz.prog (mLoad 9 t21) w (pk K) E) w fun t22 w =>
 GDo t19 true (fun E => DoX Tryz.prog (mEq .eql 9 (.tmp 22) (.const (.string ⟨#[116,114,97,105,108,101,114]⟩)) t22 (.string ⟨#[116,114,97,105,108,101,114]⟩)) w (pk K) E) w fun t23 w =>
 DoX Tryz.prog (mPick t19 t23 (.bool false)) w (pk K) fun t24 w =>
 IfX t24 (DoX Tryz.prog (mRange 110 t3) w (pk K) fun t62 w =>
 LoopX [(.slice none 0 0)] w (fun vs2 w N2 => ∀ _ : Sg,S_table_reader_slots_1 (vs2.getD 0 undef) t62 w N2 K)) (DoX Tryz.prog (mLoad 90 t4) w (pk K) fun t25 w =>
 CallX Tryz.prog 64 #[t25,(.int .i64 8191)] w (pk K) fun t26 w =>
 CallX Tryz.prog 45 #[t0] w (pk K) fun t28 w =>
 CallX Tryz.prog 64 #[t28,(.int .i64 8192)] w (pk K) fun t29 w =>
 DoX Tryz.prog (mBin .add 3 t26 t29) w (pk K) fun t32 w =>
 DoX Tryz.prog (mBin .leq 3 t32 (.int .i64 8192)) w (pk K) fun t33 w =>
 CallX Tryz.prog 43 #[t33] w (pk K) fun t34 w =>
 LoopX [(.int .i64 0)] w (fun vs3 w N3 => ∀ _ : Sg,S_table_reader_slots_2 t0 t3 t26 t29 (vs3.getD 0 undef) w N1 N3 K))
def S_table_reader_slots (t0 : Value) (w : World) (K : Ending→World→Prop) : Prop:=
 DoX Tryz.prog (mMap 110 none) w (pk K) fun t14 w =>
 LoopX [] w (fun vs1 w N1 => ∀ _ : Sg,S_table_reader_slots_0 t0 t14 w N1 K)
theorem S_table_reader_slots_eq (t0 : Value) (w : World) (K : Ending→World→Prop) : wpX Tryz.prog 74 [] [(2,[]),(8,[36]),(17,[11])] none (bodyOf Tryz.f46) (topQ Tryz.prog [.tmp 2] K) (startX [t0]) [] w = S_table_reader_slots t0 w K:=by kernel_rfl
theorem S_table_reader_slots_ok {t0 : Value} {w : World} {K : Ending→World→Prop} (h : S_table_reader_slots t0 w K) : Calls Tryz.prog 46 #[t0] w K:=
 calls_of_wpX Tryz.func46 rfl rfl rfl rfl (Eq.mpr (S_table_reader_slots_eq t0 w K) h)
def S_table_leads (t0 t1 : Value) (w : World) (K : Ending→World→Prop) : Prop:=
 DoX Tryz.prog (mBox 27 t0) w (pk K) fun t2 w =>
 DoX Tryz.prog (mLoad 27 t2) w (pk K) fun t8 w =>
 CallX Tryz.prog 69 #[t8,t1] w (pk K) fun t10 w =>
 DoX Tryz.prog (mExt t10 0) w (pk K) fun t11 w =>
 DoX Tryz.prog (mExt t10 1) w (pk K) fun t12 w =>
 DoX Tryz.prog (mAlloc 27) w (pk K) fun t5 w =>
 DoX Tryz.prog (mStore 27 t5 t11) w (pk K) fun _ w =>
 DoX Tryz.prog (mUn .not t12) w (pk K) fun t14 w =>
 IfX t14 (K (.returned (.int .i64 (-1))) w) (DoX Tryz.prog (mFA 27 t5 0) w (pk K) fun t15 w =>
 DoX Tryz.prog (mLoad 3 t15) w (pk K) fun t16 w =>
 DoX Tryz.prog (mEq .eql 3 (.tmp 16) (.const (.int .i64 2)) t16 (.int .i64 2)) w (pk K) fun t17 w =>
 GDo t17 true (fun E => DoX Tryz.prog (mFA 27 t5 1) w (pk K) E) w fun t19 w =>
 GDo t17 true (fun E => DoX Tryz.prog (mLoad 2 t19) w (pk K) E) w fun t20 w =>
 GDo t17 true (fun E => DoX Tryz.prog (mBin .geq 2 t20 (.int .i64 0)) w (pk K) E) w fun t21 w =>
 DoX Tryz.prog (mPick t17 t21 (.bool false)) w (pk K) fun t22 w =>
 CallX Tryz.prog 43 #[t22] w (pk K) fun t23 w =>
 DoX Tryz.prog (mFA 27 t5 1) w (pk K) fun t24 w =>
 DoX Tryz.prog (mLoad 2 t24) w (pk K) fun t25 w =>
 K (.returned t25) w)
theorem S_table_leads_eq (t0 t1 : Value) (w : World) (K : Ending→World→Prop) : wpX Tryz.prog 26 [] [] none (bodyOf Tryz.f48) (topQ Tryz.prog [.tmp 4] K) (startX [t0,t1]) [] w = S_table_leads t0 t1 w K:=by kernel_rfl
theorem S_table_leads_ok {t0 t1 : Value} {w : World} {K : Ending→World→Prop} (h : S_table_leads t0 t1 w K) : Calls Tryz.prog 48 #[t0,t1] w K:=
 calls_of_wpX Tryz.func48 rfl rfl rfl rfl (Eq.mpr (S_table_leads_eq t0 t1 w K) h)
def S_table_face (t0 r : Value) (w : World) (K : Ending→World→Prop) : Prop:=
 DoX Tryz.prog (mEq .eql 20 (.tmp 5) (.const .nilIface) r .nilIface) w (pk K) fun t7 w =>
 IfX t7 (K (.returned (.tuple #[])) w) (DoX Tryz.prog (mTA r 20 108 true) w (pk K) fun t8 w =>
 DoX Tryz.prog (mExt t8 1) w (pk K) fun t9 w =>
 DoX Tryz.prog (mExt t8 0) w (pk K) fun t10 w =>
 IfX t9 (DoX Tryz.prog (mAlloc 108) w (pk K) fun t3 w =>
 DoX Tryz.prog (mStore 108 t3 t10) w (pk K) fun _ w =>
 DoX Tryz.prog (mNil t0) w (pk K) fun t12 w =>
 DoX Tryz.prog (mStore 30 t12 (.int .i64 19)) w (pk K) fun _ w =>
 K (.returned (.tuple #[])) w) (DoX Tryz.prog (mPanic r) w (pk K) fun _ w =>
 K (.returned (.tuple #[])) w))
theorem S_table_face_eq (t0 r : Value) (w : World) (K : Ending→World→Prop) : wpX Tryz.prog 13 [] [] none (sndOf (bodyOf Tryz.f42)) (topD Tryz.prog [] K) (upd (startX [t0]) 5 r) [] w = S_table_face t0 r w K:=by kernel_rfl
theorem S_table_face_dok {t0 : Value} {u : FrameMode} {w : World} {R : Ending→FrameMode→World→Prop} (h : S_table_face t0 (recV u) w (fun e w => R e (recM u) w)) : CallsD Tryz.prog 42 #[t0] u w R:=
 callsD_recover Tryz.func42 rfl rfl rfl rfl rfl rfl rfl rfl (Eq.mpr (S_table_face_eq t0 (recV u) w _) h)
def S_table_reader_section_p0 (x0 : Value) (x1 : Value) (K : Ending→World→Prop):=pd Tryz.prog [.cell x0 29,.cell x1 30] K [{ target:=.fn (.func 42) #[],args:=#[x1] }]
def S_table_reader_section_0 (t0 t2 t3 t5 t6 t7 : Value) (w : World) (K : Ending→World→Prop) : Prop:=
 DoX Tryz.prog (mEq .eql 30 (.tmp 57) (.const (.int .i64 0)) t7 (.int .i64 0)) w (S_table_reader_section_p0 t2 t3 K) fun t58 w =>
 GDo t58 true (fun E => DoX Tryz.prog (mFA 27 t5 0) w (S_table_reader_section_p0 t2 t3 K) E) w fun t60 w =>
 GDo t58 true (fun E => DoX Tryz.prog (mLoad 3 t60) w (S_table_reader_section_p0 t2 t3 K) E) w fun t61 w =>
 GDo t58 true (fun E => DoX Tryz.prog (mEq .eql 3 (.tmp 61) (.const (.int .i64 7)) t61 (.int .i64 7)) w (S_table_reader_section_p0 t2 t3 K) E) w fun t62 w =>
 DoX Tryz.prog (mPick t58 t62 (.bool false)) w (S_table_reader_section_p0 t2 t3 K) fun t63 w =>
 CallX Tryz.prog 43 #[t63] w (S_table_reader_section_p0 t2 t3 K) fun t64 w =>
 DoX Tryz.prog (mNil t0) w (S_table_reader_section_p0 t2 t3 K) fun t67 w =>
 DoX Tryz.prog (mFA 53 t67 1) w (S_table_reader_section_p0 t2 t3 K) fun t68 w =>
 DoX Tryz.prog (mStore 3 t68 t6) w (S_table_reader_section_p0 t2 t3 K) fun _ w =>
 HeldX w (fun S3 w =>
 HDo Tryz.prog S3 (mLoad 27 t5) fun t69 =>
 HDo Tryz.prog S3 (mLoad 27 t5) fun t70 =>
 HDo Tryz.prog S3 (mLoad 27 t5) fun t72 =>
 HDo Tryz.prog (fun _ => True) (mFA 29 t2 2) fun t74 =>
 CallX Tryz.prog 48 #[t70,(.string ⟨#[80,114,101,118]⟩)] w (pm1 (pm1 (pm1 (pm1 (pm1 (pm1 (S_table_reader_section_p0 t2 t3 K))))))) fun t71 w =>
 S3 w∧(CallX Tryz.prog 48 #[t72,(.string ⟨#[88,82,101,102,83,116,109]⟩)] w (pm1 (pm1 (pm1 (pm1 (pm1 (pm1 (S_table_reader_section_p0 t2 t3 K))))))) fun t73 w =>
 S3 w∧(DoX Tryz.prog (mStore 27 t74 t69) w (pm1 (pm1 (pm1 (pm1 (pm1 (pm1 (S_table_reader_section_p0 t2 t3 K))))))) fun _ w =>
 S3 w∧(HDo Tryz.prog (fun _ => True) (mFA 29 t2 3) fun t75 =>
 DoX Tryz.prog (mStore 3 t75 t71) w (pm1 (pm1 (pm1 (pm1 (pm1 (pm1 (S_table_reader_section_p0 t2 t3 K))))))) fun _ w =>
 S3 w∧(HDo Tryz.prog (fun _ => True) (mFA 29 t2 4) fun t76 =>
 DoX Tryz.prog (mStore 3 t76 t73) w (pm1 (pm1 (pm1 (pm1 (pm1 (pm1 (S_table_reader_section_p0 t2 t3 K))))))) fun _ w =>
 (DoX Tryz.prog (mLoad 29 t2) w (S_table_reader_section_p0 t2 t3 K) fun t77 w =>
 DoX Tryz.prog (mStore 29 t2 t77) w (S_table_reader_section_p0 t2 t3 K) fun _ w =>
 DoX Tryz.prog (mStore 30 t3 (.int .i64 0)) w (S_table_reader_section_p0 t2 t3 K) fun _ w =>
 Leave Tryz.prog [.cell t2 29,.cell t3 30] K [{ target:=.fn (.func 42) #[],args:=#[t3] }] .returning w))))))
def S_table_reader_section (t0 : Value) (w : World) (K : Ending→World→Prop) : Prop:=
 DoX Tryz.prog (mAlloc 29) w (pk K) fun t2 w =>
 DoX Tryz.prog (mAlloc 30) w (pk K) fun t3 w =>
 DoX Tryz.prog (mNil t0) w (S_table_reader_section_p0 t2 t3 K) fun t9 w =>
 DoX Tryz.prog (mFA 53 t9 1) w (S_table_reader_section_p0 t2 t3 K) fun t10 w =>
 DoX Tryz.prog (mLoad 3 t10) w (S_table_reader_section_p0 t2 t3 K) fun t11 w =>
 DoX Tryz.prog (mFA 29 t2 0) w (S_table_reader_section_p0 t2 t3 K) fun t12 w =>
 DoX Tryz.prog (mStore 3 t12 t11) w (S_table_reader_section_p0 t2 t3 K) fun _ w =>
 QuietX w (fun C1 =>
 QDo Tryz.prog C1 (mNil t0) fun t14 =>
 QDo Tryz.prog C1 (mFA 53 t14 0) fun t15 =>
 QDo Tryz.prog C1 (mLoad 9 t15) fun t16 =>
 QDo Tryz.prog C1 (mNil t0) fun t18 =>
 QDo Tryz.prog C1 (mFA 53 t18 1) fun t19 =>
 QDo Tryz.prog C1 (mLoad 3 t19) fun t20 =>
 QCall Tryz.prog C1 44 #[t16,(.string ⟨#[120,114,101,102]⟩),t20] fun t21 =>
 ∀ w,C1 w →
 CallX Tryz.prog 43 #[t21] w (S_table_reader_section_p0 t2 t3 K) fun t22 w =>
 CallX Tryz.prog 45 #[t0] w (S_table_reader_section_p0 t2 t3 K) fun t24 w =>
 DoX Tryz.prog (mAlloc 90) w (S_table_reader_section_p0 t2 t3 K) fun t4 w =>
 DoX Tryz.prog (mStore 90 t4 t24) w (S_table_reader_section_p0 t2 t3 K) fun _ w =>
 DoX Tryz.prog (mFA 90 t4 0) w (S_table_reader_section_p0 t2 t3 K) fun t25 w =>
 DoX Tryz.prog (mLoad 3 t25) w (S_table_reader_section_p0 t2 t3 K) fun t26 w =>
 DoX Tryz.prog (mEq .eql 3 (.tmp 26) (.const (.int .i64 5)) t26 (.int .i64 5)) w (S_table_reader_section_p0 t2 t3 K) fun t27 w =>
 GDo t27 true (fun E => DoX Tryz.prog (mFA 90 t4 4) w (S_table_reader_section_p0 t2 t3 K) E) w fun t29 w =>
 GDo t27 true (fun E => DoX Tryz.prog (mLoad 9 t29) w (S_table_reader_section_p0 t2 t3 K) E) w fun t30 w =>
 GDo t27 true (fun E => DoX Tryz.prog (mEq .eql 9 (.tmp 30) (.const (.string ⟨#[120,114,101,102]⟩)) t30 (.string ⟨#[120,114,101,102]⟩)) w (S_table_reader_section_p0 t2 t3 K) E) w fun t31 w =>
 DoX Tryz.prog (mPick t27 t31 (.bool false)) w (S_table_reader_section_p0 t2 t3 K) fun t32 w =>
 GDo t32 true (fun E => DoX Tryz.prog (mFA 90 t4 1) w (S_table_reader_section_p0 t2 t3 K) E) w fun t34 w =>
 GDo t32 true (fun E => DoX Tryz.prog (mLoad 3 t34) w (S_table_reader_section_p0 t2 t3 K) E) w fun t35 w =>
 GDo t32 true (fun E => DoX Tryz.prog (mFA 29 t2 0) w (S_table_reader_section_p0 t2 t3 K) E) w fun t36 w =>
 GDo t32 true (fun E => DoX Tryz.prog (mLoad 3 t36) w (S_table_reader_section_p0 t2 t3 K) E) w fun t37 w =>
 GDo t32 true (fun E => DoX Tryz.prog (mEq .eql 3 (.tmp 35) (.tmp 37) t35 t37) w (S_table_reader_section_p0 t2 t3 K) E) w fun t38 w =>
 DoX Tryz.prog (mPick t32 t38 (.bool false)) w (S_table_reader_section_p0 t2 t3 K) fun t39 w =>
 CallX Tryz.prog 43 #[t39] w (S_table_reader_section_p0 t2 t3 K) fun t40 w =>
 CallX Tryz.prog 46 #[t0] w (S_table_reader_section_p0 t2 t3 K) fun t42 w =>
 DoX Tryz.prog (mFA 29 t2 1) w (S_table_reader_section_p0 t2 t3 K) fun t43 w =>
 DoX Tryz.prog (mStore 23 t43 t42) w (S_table_reader_section_p0 t2 t3 K) fun _ w =>
 HeldX w (fun S2 w =>
 HDo Tryz.prog (fun _ => True) (mNil t0) fun t46 =>
 HDo Tryz.prog (fun _ => True) (mFA 53 t46 0) fun t47 =>
 HDo Tryz.prog S2 (mLoad 9 t47) fun t48 =>
 HDo Tryz.prog (fun _ => True) (mNil t0) fun t50 =>
 HDo Tryz.prog (fun _ => True) (mFA 53 t50 1) fun t51 =>
 HDo Tryz.prog S2 (mLoad 3 t51) fun t52 =>
 (CallX Tryz.prog 47 #[t48,t52] w (pm1 (pm1 (pm1 (pm1 (pm1 (pm1 (pm1 (pm1 (pm1 (pm1 (pm1 (pm1 (pm1 (pm1 (S_table_reader_section_p0 t2 t3 K))))))))))))))) fun t53 w =>
 (HDo Tryz.prog (fun _ => True) (mExt t53 0) fun t54 =>
 HDo Tryz.prog (fun _ => True) (mExt t53 1) fun t55 =>
 HDo Tryz.prog (fun _ => True) (mExt t53 2) fun t56 =>
 DoX Tryz.prog (mAlloc 27) w (pm1 (pm1 (pm1 (pm1 (pm1 (pm1 (pm1 (pm1 (pm1 (pm1 (pm1 (pm1 (pm1 (pm1 (S_table_reader_section_p0 t2 t3 K))))))))))))))) fun t5 w =>
 S2 w∧(DoX Tryz.prog (mStore 27 t5 t54) w (pm1 (pm1 (pm1 (pm1 (pm1 (pm1 (pm1 (pm1 (pm1 (pm1 (pm1 (pm1 (pm1 (pm1 (S_table_reader_section_p0 t2 t3 K))))))))))))))) fun _ w =>
 (S_table_reader_section_0 t0 t2 t3 t5 t55 t56 w K))))∧(DoX Tryz.prog (mAlloc 27) w (pm1 (pm1 (pm1 (pm1 (pm1 (pm1 (pm1 (pm1 (pm1 (pm1 (pm1 (pm1 (pm1 (pm1 (S_table_reader_section_p0 t2 t3 K))))))))))))))) fun t5_1 w =>
 S2 w∧(CallX Tryz.prog 47 #[t48,t52] w (pm1 (pm1 (pm1 (pm1 (pm1 (pm1 (pm1 (pm1 (pm1 (pm1 (pm1 (pm1 (pm1 (pm1 (S_table_reader_section_p0 t2 t3 K))))))))))))))) fun t53_1 w =>
 (HDo Tryz.prog (fun _ => True) (mExt t53_1 0) fun t54_1 =>
 HDo Tryz.prog (fun _ => True) (mExt t53_1 1) fun t55_1 =>
 HDo Tryz.prog (fun _ => True) (mExt t53_1 2) fun t56_1 =>
 DoX Tryz.prog (mStore 27 t5_1 t54_1) w (pm1 (pm1 (pm1 (pm1 (pm1 (pm1 (pm1 (pm1 (pm1 (pm1 (pm1 (pm1 (pm1 (pm1 (S_table_reader_section_p0 t2 t3 K))))))))))))))) fun _ w =>
 (S_table_reader_section_0 t0 t2 t3 t5_1 t55_1 t56_1 w K))))))
theorem S_table_reader_section_eq (t0 : Value) (w : World) (K : Ending→World→Prop) : wpX Tryz.prog 78 [] [] none (bodyOf Tryz.f21) (topQ Tryz.prog [.cell 2 29,.cell 3 30] K) (startX [t0]) [] w = S_table_reader_section t0 w K:=by kernel_rfl
theorem S_table_reader_section_ok {t0 : Value} {w : World} {K : Ending→World→Prop} (h : S_table_reader_section t0 w K) : Calls Tryz.prog 21 #[t0] w K:=
 calls_of_wpX Tryz.func21 rfl rfl rfl rfl (Eq.mpr (S_table_reader_section_eq t0 w K) h)
def S_table_Read (t0 t1 : Value) (w : World) (K : Ending→World→Prop) : Prop:=
 DoX Tryz.prog (mAlloc 29) w (pk K) fun t4 w =>
 DoX Tryz.prog (mBuild 53 #[(0,t0),(1,t1)]) w (pk K) fun t12 w =>
 DoX Tryz.prog (mBox 53 t12) w (pk K) fun t13 w =>
 CallX Tryz.prog 21 #[t13] w (pk K) fun t16 w =>
 DoX Tryz.prog (mExt t16 0) w (pk K) fun t17 w =>
 DoX Tryz.prog (mExt t16 1) w (pk K) fun t18 w =>
 DoX Tryz.prog (mAlloc 29) w (pk K) fun t8 w =>
 DoX Tryz.prog (mStore 29 t8 t17) w (pk K) fun _ w =>
 DoX Tryz.prog (mEq .neq 30 (.tmp 19) (.const (.int .i64 0)) t18 (.int .i64 0)) w (pk K) fun t20 w =>
 IfX t20 (DoX Tryz.prog (mBuild 29 #[]) w (pk K) fun t21 w =>
 DoX Tryz.prog (mStore 29 t4 t21) w (pk K) fun _ w =>
 RetX Tryz.prog [.cell t4 29,.val (.int .i64 0),.val t18] w K) (HeldX w (fun S1 w =>
 HDo Tryz.prog S1 (mLoad 29 t8) fun t23 =>
 HDo Tryz.prog (fun _ => True) (mNil t13) fun t25 =>
 HDo Tryz.prog (fun _ => True) (mFA 53 t25 1) fun t26 =>
 HDo Tryz.prog S1 (mLoad 3 t26) fun t27 =>
 DoX Tryz.prog (mStore 29 t4 t23) w (pm1 (pm1 (pm1 (pm1 (pm1 (pm1 (pm1 (pk K)))))))) fun _ w =>
 S1 w∧(RetX Tryz.prog [.cell t4 29,.val t27,.val (.int .i64 0)] w K)))
theorem S_table_Read_eq (t0 t1 : Value) (w : World) (K : Ending→World→Prop) : wpX Tryz.prog 28 [] [] none (bodyOf Tryz.f8) (topQ Tryz.prog [.cell 4 29,.tmp 5,.tmp 6] K) (startX [t0,t1]) [] w = S_table_Read t0 t1 w K:=by kernel_rfl
theorem S_table_Read_ok {t0 t1 : Value} {w : World} {K : Ending→World→Prop} (h : S_table_Read t0 t1 w K) : Calls Tryz.prog 8 #[t0,t1] w K:=
 calls_of_wpX Tryz.func8 rfl rfl rfl rfl (Eq.mpr (S_table_Read_eq t0 t1 w K) h)
def S_table_fits (t0 : Value) (w : World) (K : Ending→World→Prop) : Prop:=
 DoX Tryz.prog (mBox 49 t0) w (pk K) fun t1 w =>
 DoX Tryz.prog (mFA 49 t1 1) w (pk K) fun t3 w =>
 DoX Tryz.prog (mLoad 3 t3) w (pk K) fun t4 w =>
 DoX Tryz.prog (mEq .eql 3 (.tmp 4) (.const (.int .i64 2)) t4 (.int .i64 2)) w (pk K) fun t5 w =>
 IfX t5 (DoX Tryz.prog (mFA 49 t1 2) w (pk K) fun t6 w =>
 DoX Tryz.prog (mLoad 3 t6) w (pk K) fun t7 w =>
 DoX Tryz.prog (mBin .geq 3 t7 (.int .i64 1)) w (pk K) fun t8 w =>
 GDo t8 true (fun E => DoX Tryz.prog (mFA 49 t1 2) w (pk K) E) w fun t10 w =>
 GDo t8 true (fun E => DoX Tryz.prog (mLoad 3 t10) w (pk K) E) w fun t11 w =>
 GDo t8 true (fun E => DoX Tryz.prog (mBin .leq 3 t11 (.int .i64 8191)) w (pk K) E) w fun t12 w =>
 DoX Tryz.prog (mPick t8 t12 (.bool false)) w (pk K) fun t13 w =>
 GDo t13 true (fun E => DoX Tryz.prog (mFA 49 t1 3) w (pk K) E) w fun t15 w =>
 GDo t13 true (fun E => DoX Tryz.prog (mLoad 3 t15) w (pk K) E) w fun t16 w =>
 GDo t13 true (fun E => DoX Tryz.prog (mBin .geq 3 t16 (.int .i64 0)) w (pk K) E) w fun t17 w =>
 DoX Tryz.prog (mPick t13 t17 (.bool false)) w (pk K) fun t18 w =>
 GDo t18 true (fun E => DoX Tryz.prog (mFA 49 t1 3) w (pk K) E) w fun t20 w =>
 GDo t18 true (fun E => DoX Tryz.prog (mLoad 3 t20) w (pk K) E) w fun t21 w =>
 GDo t18 true (fun E => DoX Tryz.prog (mBin .leq 3 t21 (.int .i64 8191)) w (pk K) E) w fun t22 w =>
 DoX Tryz.prog (mPick t18 t22 (.bool false)) w (pk K) fun t23 w =>
 K (.returned t23) w) (DoX Tryz.prog (mFA 49 t1 2) w (pk K) fun t24 w =>
 DoX Tryz.prog (mLoad 3 t24) w (pk K) fun t25 w =>
 DoX Tryz.prog (mBin .geq 3 t25 (.int .i64 0)) w (pk K) fun t26 w =>
 GDo t26 true (fun E => DoX Tryz.prog (mFA 49 t1 2) w (pk K) E) w fun t28 w =>
 GDo t26 true (fun E => DoX Tryz.prog (mLoad 3 t28) w (pk K) E) w fun t29 w =>
 GDo t26 true (fun E => DoX Tryz.prog (mBin .leq 3 t29 (.int .i64 2147483647)) w (pk K) E) w fun t30 w =>
 DoX Tryz.prog (mPick t26 t30 (.bool false)) w (pk K) fun t31 w =>
 GDo t31 true (fun E => DoX Tryz.prog (mFA 49 t1 3) w (pk K) E) w fun t33 w =>
 GDo t31 true (fun E => DoX Tryz.prog (mLoad 3 t33) w (pk K) E) w fun t34 w =>
 GDo t31 true (fun E => DoX Tryz.prog (mBin .geq 3 t34 (.int .i64 0)) w (pk K) E) w fun t35 w =>
 DoX Tryz.prog (mPick t31 t35 (.bool false)) w (pk K) fun t36 w =>
 GDo t36 true (fun E => DoX Tryz.prog (mFA 49 t1 3) w (pk K) E) w fun t38 w =>
 GDo t36 true (fun E => DoX Tryz.prog (mLoad 3 t38) w (pk K) E) w fun t39 w =>
 GDo t36 true (fun E => DoX Tryz.prog (mBin .leq 3 t39 (.int .i64 65535)) w (pk K) E) w fun t40 w =>
 DoX Tryz.prog (mPick t36 t40 (.bool false)) w (pk K) fun t41 w =>
 K (.returned t41) w)
theorem S_table_fits_eq (t0 : Value) (w : World) (K : Ending→World→Prop) : wpX Tryz.prog 42 [] [] none (bodyOf Tryz.f39) (topQ Tryz.prog [.tmp 2] K) (startX [t0]) [] w = S_table_fits t0 w K:=by kernel_rfl
theorem S_table_fits_ok {t0 : Value} {w : World} {K : Ending→World→Prop} (h : S_table_fits t0 w K) : Calls Tryz.prog 39 #[t0] w K:=
 calls_of_wpX Tryz.func39 rfl rfl rfl rfl (Eq.mpr (S_table_fits_eq t0 w K) h)
def S_table_Check_0 (t0 t5 t6 t7 : Value) (w : World) (N1 : List Value→World→Prop) (K : Ending→World→Prop) : Prop:=
 DoX Tryz.prog (mBin .lss 3 t7 t6) w (pk K) fun t8 w =>
 IfX t8 (DoX Tryz.prog (mIA 23 t5 t7) w (pk K) fun t10 w =>
 DoX Tryz.prog (mLoad 49 t10) w (pk K) fun t11 w =>
 DoX Tryz.prog (mAlloc 49) w (pk K) fun t4 w =>
 DoX Tryz.prog (mStore 49 t4 t11) w (pk K) fun _ w =>
 DoX Tryz.prog (mFA 49 t4 0) w (pk K) fun t13 w =>
 DoX Tryz.prog (mLoad 3 t13) w (pk K) fun t14 w =>
 DoX Tryz.prog (mBin .lss 3 t14 (.int .i64 0)) w (pk K) fun t15 w =>
 GDo t15 false (fun E => DoX Tryz.prog (mFA 49 t4 0) w (pk K) E) w fun t17 w =>
 GDo t15 false (fun E => DoX Tryz.prog (mLoad 3 t17) w (pk K) E) w fun t18 w =>
 GDo t15 false (fun E => DoX Tryz.prog (mBin .gtr 3 t18 (.int .i64 8191)) w (pk K) E) w fun t19 w =>
 DoX Tryz.prog (mPick t15 (.bool true) t19) w (pk K) fun t20 w =>
 IfX t20 (K (.returned (.int .i64 2)) w) (DoX Tryz.prog (mFA 49 t4 1) w (pk K) fun t22 w =>
 DoX Tryz.prog (mLoad 3 t22) w (pk K) fun t23 w =>
 DoX Tryz.prog (mBin .lss 3 t23 (.int .i64 0)) w (pk K) fun t24 w =>
 GDo t24 false (fun E => DoX Tryz.prog (mFA 49 t4 1) w (pk K) E) w fun t26 w =>
 GDo t24 false (fun E => DoX Tryz.prog (mLoad 3 t26) w (pk K) E) w fun t27 w =>
 GDo t24 false (fun E => DoX Tryz.prog (mBin .gtr 3 t27 (.int .i64 2)) w (pk K) E) w fun t28 w =>
 DoX Tryz.prog (mPick t24 (.bool true) t28) w (pk K) fun t29 w =>
 IfX t29 (K (.returned (.int .i64 10)) w) (DoX Tryz.prog (mLoad 49 t4) w (pk K) fun t31 w =>
 CallX Tryz.prog 39 #[t31] w (pk K) fun t32 w =>
 DoX Tryz.prog (mUn .not t32) w (pk K) fun t33 w =>
 IfX t33 (K (.returned (.int .i64 2)) w) (QuietX w (fun C2 =>
 QDo Tryz.prog C2 (mBin .gtr 3 t7 (.int .i64 0)) fun t36 =>
 GQ t36 true (fun E => QDo Tryz.prog C2 (mFA 49 t4 0) E) fun t38 =>
 GQ t36 true (fun E => QDo Tryz.prog C2 (mLoad 3 t38) E) fun t39 =>
 GQ t36 true (fun E => E t0) fun t40 =>
 GQ t36 true (fun E => E t7) fun t41 =>
 GQ t36 true (fun E => QDo Tryz.prog C2 (mBin .sub 3 t41 (.int .i64 1)) E) fun t42 =>
 GQ t36 true (fun E => QDo Tryz.prog C2 (mIA 23 t40 t42) E) fun t43 =>
 GQ t36 true (fun E => QDo Tryz.prog C2 (mFA 49 t43 0) E) fun t44 =>
 GQ t36 true (fun E => QDo Tryz.prog C2 (mLoad 3 t44) E) fun t45 =>
 GQ t36 true (fun E => QDo Tryz.prog C2 (mEq .eql 3 (.tmp 39) (.tmp 45) t39 t45) E) fun t46 =>
 QDo Tryz.prog C2 (mPick t36 t46 (.bool false)) fun t47 =>
 ∀ w,C2 w →
 IfX t47 (K (.returned (.int .i64 9)) w) (QuietX w (fun C3 =>
 QDo Tryz.prog C3 (mBin .gtr 3 t7 (.int .i64 0)) fun t50 =>
 GQ t50 true (fun E => QDo Tryz.prog C3 (mFA 49 t4 0) E) fun t52 =>
 GQ t50 true (fun E => QDo Tryz.prog C3 (mLoad 3 t52) E) fun t53 =>
 GQ t50 true (fun E => E t0) fun t54 =>
 GQ t50 true (fun E => E t7) fun t55 =>
 GQ t50 true (fun E => QDo Tryz.prog C3 (mBin .sub 3 t55 (.int .i64 1)) E) fun t56 =>
 GQ t50 true (fun E => QDo Tryz.prog C3 (mIA 23 t54 t56) E) fun t57 =>
 GQ t50 true (fun E => QDo Tryz.prog C3 (mFA 49 t57 0) E) fun t58 =>
 GQ t50 true (fun E => QDo Tryz.prog C3 (mLoad 3 t58) E) fun t59 =>
 GQ t50 true (fun E => QDo Tryz.prog C3 (mBin .lss 3 t53 t59) E) fun t60 =>
 QDo Tryz.prog C3 (mPick t50 t60 (.bool false)) fun t61 =>
 ∀ w,C3 w →
 IfX t61 (K (.returned (.int .i64 1)) w) (DoX Tryz.prog (mBin .add 3 t7 (.int .i64 1)) w (pk K) fun t62 w =>
 N1 [t62] w)))))))) (K (.returned (.int .i64 0)) w)
def S_table_Check (t0 : Value) (w : World) (K : Ending→World→Prop) : Prop:=
 DoX Tryz.prog (mB .len #[23] 3 #[false] #[t0]) w (pk K) fun t6 w =>
 LoopX [(.int .i64 0)] w (fun vs1 w N1 => ∀ _ : Sg,S_table_Check_0 t0 t0 t6 (vs1.getD 0 undef) w N1 K)
theorem S_table_Check_eq (t0 : Value) (w : World) (K : Ending→World→Prop) : wpX Tryz.prog 63 [] [(2,[7])] none (bodyOf Tryz.f16) (topQ Tryz.prog [.tmp 2] K) (startX [t0]) [] w = S_table_Check t0 w K:=by kernel_rfl
theorem S_table_Check_ok {t0 : Value} {w : World} {K : Ending→World→Prop} (h : S_table_Check t0 w K) : Calls Tryz.prog 16 #[t0] w K:=
 calls_of_wpX Tryz.func16 rfl rfl rfl rfl (Eq.mpr (S_table_Check_eq t0 w K) h)
def S_table_Runs_1 (t3 t8 : Value) (w : World) (N1 : List Value→World→Prop) (K : Ending→World→Prop) : Prop:=
 DoX Tryz.prog (mBin .add 3 t8 (.int .i64 1)) w (pk K) fun t54 w =>
 N1 [t3,t54] w
def S_table_Runs_0 (t0 t3 t6 t7 t8 : Value) (w : World) (N1 : List Value→World→Prop) (K : Ending→World→Prop) : Prop:=
 DoX Tryz.prog (mBin .lss 3 t8 t7) w (pk K) fun t9 w =>
 IfX t9 (JoinX (fun J2 =>
 DoX Tryz.prog (mIA 23 t6 t8) w (pk K) fun t11 w =>
 DoX Tryz.prog (mLoad 49 t11) w (pk K) fun t12 w =>
 DoX Tryz.prog (mAlloc 49) w (pk K) fun t5 w =>
 DoX Tryz.prog (mStore 49 t5 t12) w (pk K) fun _ w =>
 QuietX w (fun C3 =>
 QDo Tryz.prog C3 (mBin .gtr 3 t8 (.int .i64 0)) fun t14 =>
 GQ t14 true (fun E => QDo Tryz.prog C3 (mFA 49 t5 0) E) fun t16 =>
 GQ t14 true (fun E => QDo Tryz.prog C3 (mLoad 3 t16) E) fun t17 =>
 GQ t14 true (fun E => E t0) fun t18 =>
 GQ t14 true (fun E => E t8) fun t19 =>
 GQ t14 true (fun E => QDo Tryz.prog C3 (mBin .sub 3 t19 (.int .i64 1)) E) fun t20 =>
 GQ t14 true (fun E => QDo Tryz.prog C3 (mIA 23 t18 t20) E) fun t21 =>
 GQ t14 true (fun E => QDo Tryz.prog C3 (mFA 49 t21 0) E) fun t22 =>
 GQ t14 true (fun E => QDo Tryz.prog C3 (mLoad 3 t22) E) fun t23 =>
 GQ t14 true (fun E => QDo Tryz.prog C3 (mBin .gtr 3 t17 t23) E) fun t24 =>
 QDo Tryz.prog C3 (mPick t14 t24 (.bool false)) fun t25 =>
 GQ t25 true (fun E => QDo Tryz.prog C3 (mFA 49 t5 0) E) fun t27 =>
 GQ t25 true (fun E => QDo Tryz.prog C3 (mLoad 3 t27) E) fun t28 =>
 GQ t25 true (fun E => QDo Tryz.prog C3 (mBin .sub 3 t28 (.int .i64 1)) E) fun t29 =>
 GQ t25 true (fun E => E t0) fun t30 =>
 GQ t25 true (fun E => E t8) fun t31 =>
 GQ t25 true (fun E => QDo Tryz.prog C3 (mBin .sub 3 t31 (.int .i64 1)) E) fun t32 =>
 GQ t25 true (fun E => QDo Tryz.prog C3 (mIA 23 t30 t32) E) fun t33 =>
 GQ t25 true (fun E => QDo Tryz.prog C3 (mFA 49 t33 0) E) fun t34 =>
 GQ t25 true (fun E => QDo Tryz.prog C3 (mLoad 3 t34) E) fun t35 =>
 GQ t25 true (fun E => QDo Tryz.prog C3 (mEq .eql 3 (.tmp 29) (.tmp 35) t29 t35) E) fun t36 =>
 QDo Tryz.prog C3 (mPick t25 t36 (.bool false)) fun t37 =>
 ∀ w,C3 w →
 IfX t37 (QuietX w (fun C4 =>
 QDo Tryz.prog C4 (mB .len #[38] 3 #[false] #[t3]) fun t40 =>
 QDo Tryz.prog C4 (mBin .sub 3 t40 (.int .i64 1)) fun t41 =>
 QDo Tryz.prog C4 (mIA 38 t3 t41) fun t42 =>
 QDo Tryz.prog C4 (mIA 40 t42 (.int .i64 1)) fun t43 =>
 QDo Tryz.prog C4 (mLoad 3 t43) fun t44 =>
 QDo Tryz.prog C4 (mBin .add 3 t44 (.int .i64 1)) fun t45 =>
 QDo Tryz.prog C4 (mIA 38 t3 t41) fun t46 =>
 QDo Tryz.prog C4 (mIA 40 t46 (.int .i64 1)) fun t47 =>
 ∀ w,C4 w →
 DoX Tryz.prog (mStore 3 t47 t45) w (pk K) fun _ w =>
 J2 [t3] w)) (DoX Tryz.prog (mFA 49 t5 0) w (pk K) fun t49 w =>
 DoX Tryz.prog (mLoad 3 t49) w (pk K) fun t50 w =>
 DoX Tryz.prog (mBuild 40 #[(0,t50),(1,(.int .i64 1))]) w (pk K) fun t51 w =>
 DoX Tryz.prog (mBuildS 38 1 #[(0,t51)]) w (pk K) fun t52 w =>
 DoX Tryz.prog (mB .append #[38,38] 38 #[false,false] #[t3,t52]) w (pk K) fun t53 w =>
 J2 [t53] w))) (fun vs2 w => ∀ _ : Sg,S_table_Runs_1 (vs2.getD 0 undef) t8 w N1 K)) (K (.returned t3) w)
def S_table_Runs (t0 : Value) (w : World) (K : Ending→World→Prop) : Prop:=
 DoX Tryz.prog (mB .len #[23] 3 #[false] #[t0]) w (pk K) fun t7 w =>
 LoopX [(.slice none 0 0),(.int .i64 0)] w (fun vs1 w N1 => ∀ _ : Sg,S_table_Runs_0 t0 (vs1.getD 0 undef) t0 t7 (vs1.getD 1 undef) w N1 K)
theorem S_table_Runs_eq (t0 : Value) (w : World) (K : Ending→World→Prop) : wpX Tryz.prog 56 [(8,[3])] [(3,[3,8])] none (bodyOf Tryz.f14) (topQ Tryz.prog [.tmp 2] K) (startX [t0]) [] w = S_table_Runs t0 w K:=by kernel_rfl
theorem S_table_Runs_ok {t0 : Value} {w : World} {K : Ending→World→Prop} (h : S_table_Runs t0 w K) : Calls Tryz.prog 14 #[t0] w K:=
 calls_of_wpX Tryz.func14 rfl rfl rfl rfl (Eq.mpr (S_table_Runs_eq t0 w K) h)
def S_table_refuse_1 (t1 t27 t28 t29 : Value) (w : World) (N2 : List Value→World→Prop) (K : Ending→World→Prop) : Prop:=
 DoX Tryz.prog (mBin .lss 3 t29 t28) w (pk K) fun t30 w =>
 IfX t30 (DoX Tryz.prog (mIA 23 t27 t29) w (pk K) fun t31 w =>
 DoX Tryz.prog (mLoad 49 t31) w (pk K) fun t32 w =>
 DoX Tryz.prog (mAlloc 49) w (pk K) fun t7 w =>
 DoX Tryz.prog (mStore 49 t7 t32) w (pk K) fun _ w =>
 DoX Tryz.prog (mFA 49 t7 0) w (pk K) fun t33 w =>
 DoX Tryz.prog (mLoad 3 t33) w (pk K) fun t34 w =>
 DoX Tryz.prog (mEq .eql 3 (.tmp 34) (.const (.int .i64 0)) t34 (.int .i64 0)) w (pk K) fun t35 w =>
 GDo t35 true (fun E => DoX Tryz.prog (mFA 49 t7 1) w (pk K) E) w fun t37 w =>
 GDo t35 true (fun E => DoX Tryz.prog (mLoad 3 t37) w (pk K) E) w fun t38 w =>
 GDo t35 true (fun E => DoX Tryz.prog (mEq .neq 3 (.tmp 38) (.const (.int .i64 0)) t38 (.int .i64 0)) w (pk K) E) w fun t39 w =>
 GDo t35 true (fun E => E t39 w) w fun t40 w =>
 GDo t40 false (fun E => DoX Tryz.prog (mFA 49 t7 3) w (pk K) E) w fun t41 w =>
 GDo t40 false (fun E => DoX Tryz.prog (mLoad 3 t41) w (pk K) E) w fun t42 w =>
 GDo t40 false (fun E => DoX Tryz.prog (mEq .neq 3 (.tmp 42) (.const (.int .i64 65535)) t42 (.int .i64 65535)) w (pk K) E) w fun t43 w =>
 GDo t35 true (fun E => DoX Tryz.prog (mPick t40 (.bool true) t43) w (pk K) E) w fun t44 w =>
 DoX Tryz.prog (mPick t35 t44 (.bool false)) w (pk K) fun t45 w =>
 IfX t45 (K (.returned (.int .i64 1)) w) (DoX Tryz.prog (mBin .add 3 t29 (.int .i64 1)) w (pk K) fun t46 w =>
 N2 [t46] w)) (DoX Tryz.prog (mFA 29 t1 2) w (pk K) fun t47 w =>
 DoX Tryz.prog (mLoad 27 t47) w (pk K) fun t48 w =>
 CallX Tryz.prog 51 #[t48] w (pk K) fun t49 w =>
 DoX Tryz.prog (mEq .neq 30 (.tmp 50) (.const (.int .i64 0)) t49 (.int .i64 0)) w (pk K) fun t51 w =>
 IfX t51 (K (.returned t49) w) (DoX Tryz.prog (mFA 29 t1 2) w (pk K) fun t53 w =>
 DoX Tryz.prog (mFA 27 t53 0) w (pk K) fun t54 w =>
 DoX Tryz.prog (mLoad 3 t54) w (pk K) fun t55 w =>
 DoX Tryz.prog (mEq .neq 3 (.tmp 55) (.const (.int .i64 7)) t55 (.int .i64 7)) w (pk K) fun t56 w =>
 IfX t56 (K (.returned (.int .i64 10)) w) (K (.returned (.int .i64 0)) w)))
def S_table_refuse_0 (t1 t16 t17 t18 : Value) (w : World) (N1 : List Value→World→Prop) (K : Ending→World→Prop) : Prop:=
 DoX Tryz.prog (mBin .lss 3 t18 t17) w (pk K) fun t19 w =>
 IfX t19 (DoX Tryz.prog (mIA 23 t16 t18) w (pk K) fun t20 w =>
 DoX Tryz.prog (mLoad 49 t20) w (pk K) fun t21 w =>
 DoX Tryz.prog (mAlloc 49) w (pk K) fun t5 w =>
 DoX Tryz.prog (mStore 49 t5 t21) w (pk K) fun _ w =>
 DoX Tryz.prog (mFA 49 t5 1) w (pk K) fun t22 w =>
 DoX Tryz.prog (mLoad 3 t22) w (pk K) fun t23 w =>
 DoX Tryz.prog (mEq .eql 3 (.tmp 23) (.const (.int .i64 2)) t23 (.int .i64 2)) w (pk K) fun t24 w =>
 IfX t24 (K (.returned (.int .i64 10)) w) (DoX Tryz.prog (mBin .add 3 t18 (.int .i64 1)) w (pk K) fun t25 w =>
 N1 [t25] w)) (DoX Tryz.prog (mFA 29 t1 1) w (pk K) fun t26 w =>
 DoX Tryz.prog (mLoad 23 t26) w (pk K) fun t27 w =>
 DoX Tryz.prog (mB .len #[23] 3 #[false] #[t27]) w (pk K) fun t28 w =>
 LoopX [(.int .i64 0)] w (fun vs2 w N2 => ∀ _ : Sg,S_table_refuse_1 t1 t27 t28 (vs2.getD 0 undef) w N2 K))
def S_table_refuse (t0 : Value) (w : World) (K : Ending→World→Prop) : Prop:=
 DoX Tryz.prog (mBox 29 t0) w (pk K) fun t1 w =>
 DoX Tryz.prog (mFA 29 t1 1) w (pk K) fun t9 w =>
 DoX Tryz.prog (mLoad 23 t9) w (pk K) fun t10 w =>
 CallX Tryz.prog 16 #[t10] w (pk K) fun t11 w =>
 DoX Tryz.prog (mEq .neq 30 (.tmp 12) (.const (.int .i64 0)) t11 (.int .i64 0)) w (pk K) fun t13 w =>
 IfX t13 (K (.returned t11) w) (DoX Tryz.prog (mFA 29 t1 1) w (pk K) fun t15 w =>
 DoX Tryz.prog (mLoad 23 t15) w (pk K) fun t16 w =>
 DoX Tryz.prog (mB .len #[23] 3 #[false] #[t16]) w (pk K) fun t17 w =>
 LoopX [(.int .i64 0)] w (fun vs1 w N1 => ∀ _ : Sg,S_table_refuse_0 t1 t16 t17 (vs1.getD 0 undef) w N1 K))
theorem S_table_refuse_eq (t0 : Value) (w : World) (K : Ending→World→Prop) : wpX Tryz.prog 57 [] [(5,[18]),(11,[29])] none (bodyOf Tryz.f29) (topQ Tryz.prog [.tmp 2] K) (startX [t0]) [] w = S_table_refuse t0 w K:=by kernel_rfl
theorem S_table_refuse_ok {t0 : Value} {w : World} {K : Ending→World→Prop} (h : S_table_refuse t0 w K) : Calls Tryz.prog 29 #[t0] w K:=
 calls_of_wpX Tryz.func29 rfl rfl rfl rfl (Eq.mpr (S_table_refuse_eq t0 w K) h)
def S_table_Text_2 (t7 t16 t17 t65 : Value) (w : World) (N2 : List Value→World→Prop) (K : Ending→World→Prop) : Prop:=
 HeldX w (fun S4 w =>
 HDo Tryz.prog S4 (mFA 49 t16 2) fun t72 =>
 HDo Tryz.prog S4 (mLoad 3 t72) fun t73 =>
 HDo Tryz.prog S4 (mFA 49 t16 3) fun t76 =>
 HDo Tryz.prog S4 (mLoad 3 t76) fun t77 =>
 CallX Tryz.prog 33 #[t73,(.int .i64 10)] w (pm1 (pm1 (pm1 (pm1 (pm1 (pm1 (pm1 (pm1 (pm1 (pm1 (pk K))))))))))) fun t74 w =>
 S4 w∧(HDo Tryz.prog S4 (mBin .add 9 t74 (.string ⟨#[32]⟩)) fun t75 =>
 CallX Tryz.prog 33 #[t77,(.int .i64 5)] w (pm1 (pm1 (pm1 (pm1 (pm1 (pm1 (pm1 (pm1 (pm1 (pm1 (pk K))))))))))) fun t78 w =>
 S4 w∧(HDo Tryz.prog S4 (mBin .add 9 t75 t78) fun t79 =>
 HDo Tryz.prog S4 (mBin .add 9 t79 (.string ⟨#[32]⟩)) fun t80 =>
 HDo Tryz.prog S4 (mBin .add 9 t80 t17) fun t82 =>
 HDo Tryz.prog S4 (mBin .add 9 t82 (.string ⟨#[32,10]⟩)) fun t83 =>
 CallX Tryz.prog 31 #[t7,t83] w (pm1 (pm1 (pm1 (pm1 (pm1 (pm1 (pm1 (pm1 (pm1 (pm1 (pk K))))))))))) fun t84 w =>
 S4 w∧(DoX Tryz.prog (mBin .add 3 t65 (.int .i64 1)) w (pk K) fun t85 w =>
 N2 [t85] w))))
def S_table_Text_1 (t7 t8 t10 t38 t63 t64 t65 : Value) (w : World) (N1 N2 : List Value→World→Prop) (K : Ending→World→Prop) : Prop:=
 DoX Tryz.prog (mBin .lss 3 t65 t64) w (pk K) fun t66 w =>
 IfX t66 (DoX Tryz.prog (mIA 23 t63 t65) w (pk K) fun t67 w =>
 DoX Tryz.prog (mLoad 49 t67) w (pk K) fun t68 w =>
 DoX Tryz.prog (mAlloc 49) w (pk K) fun t16 w =>
 DoX Tryz.prog (mStore 49 t16 t68) w (pk K) fun _ w =>
 JoinX (fun J3 =>
 DoX Tryz.prog (mFA 49 t16 1) w (pk K) fun t69 w =>
 DoX Tryz.prog (mLoad 3 t69) w (pk K) fun t70 w =>
 DoX Tryz.prog (mEq .eql 3 (.tmp 70) (.const (.int .i64 1)) t70 (.int .i64 1)) w (pk K) fun t71 w =>
 IfX t71 (J3 [(.string ⟨#[110]⟩)] w) (J3 [(.string ⟨#[102]⟩)] w)) (fun vs3 w => ∀ _ : Sg,S_table_Text_2 t7 t16 (vs3.getD 0 undef) t65 w N2 K)) (DoX Tryz.prog (mIA 40 t10 (.int .i64 1)) w (pk K) fun t87 w =>
 DoX Tryz.prog (mLoad 3 t87) w (pk K) fun t88 w =>
 DoX Tryz.prog (mSlice 23 t8 (some t88) none none) w (pk K) fun t89 w =>
 DoX Tryz.prog (mBin .add 3 t38 (.int .i64 1)) w (pk K) fun t90 w =>
 N1 [t89,t90] w)
def S_table_Text_0 (t5 t7 t8 t36 t37 t38 : Value) (w : World) (N1 : List Value→World→Prop) (K : Ending→World→Prop) : Prop:=
 DoX Tryz.prog (mBin .lss 3 t38 t37) w (pk K) fun t39 w =>
 IfX t39 (DoX Tryz.prog (mIA 38 t36 t38) w (pk K) fun t40 w =>
 DoX Tryz.prog (mLoad 40 t40) w (pk K) fun t41 w =>
 DoX Tryz.prog (mAlloc 40) w (pk K) fun t10 w =>
 DoX Tryz.prog (mStore 40 t10 t41) w (pk K) fun _ w =>
 DoX Tryz.prog (mIA 40 t10 (.int .i64 0)) w (pk K) fun t43 w =>
 DoX Tryz.prog (mLoad 3 t43) w (pk K) fun t44 w =>
 CallX Tryz.prog 32 #[t44] w (pk K) fun t45 w =>
 DoX Tryz.prog (mExt t45 0) w (pk K) fun t46 w =>
 DoX Tryz.prog (mExt t45 1) w (pk K) fun t47 w =>
 DoX Tryz.prog (mIA 40 t10 (.int .i64 1)) w (pk K) fun t49 w =>
 DoX Tryz.prog (mLoad 3 t49) w (pk K) fun t50 w =>
 CallX Tryz.prog 32 #[t50] w (pk K) fun t51 w =>
 DoX Tryz.prog (mExt t51 0) w (pk K) fun t52 w =>
 DoX Tryz.prog (mExt t51 1) w (pk K) fun t53 w =>
 DoX Tryz.prog (mBin .add 9 t46 (.string ⟨#[32]⟩)) w (pk K) fun t55 w =>
 DoX Tryz.prog (mBin .add 9 t55 t52) w (pk K) fun t57 w =>
 DoX Tryz.prog (mBin .add 9 t57 (.string ⟨#[10]⟩)) w (pk K) fun t58 w =>
 CallX Tryz.prog 31 #[t7,t58] w (pk K) fun t59 w =>
 DoX Tryz.prog (mIA 40 t10 (.int .i64 1)) w (pk K) fun t61 w =>
 DoX Tryz.prog (mLoad 3 t61) w (pk K) fun t62 w =>
 DoX Tryz.prog (mSlice 23 t8 none (some t62) none) w (pk K) fun t63 w =>
 DoX Tryz.prog (mB .len #[23] 3 #[false] #[t63]) w (pk K) fun t64 w =>
 LoopX [(.int .i64 0)] w (fun vs2 w N2 => ∀ _ : Sg,S_table_Text_1 t7 t8 t10 t38 t63 t64 (vs2.getD 0 undef) w N1 N2 K)) (DoX Tryz.prog (mBin .add 9 (.string ⟨#[116,114,97,105,108,101,114,10]⟩) t5) w (pk K) fun t92 w =>
 DoX Tryz.prog (mBin .add 9 t92 (.string ⟨#[10]⟩)) w (pk K) fun t93 w =>
 CallX Tryz.prog 31 #[t7,t93] w (pk K) fun t94 w =>
 CallX Tryz.prog 34 #[t7] w (pk K) fun t95 w =>
 K (.returned (.tuple #[t95,(.int .i64 0)])) w)
def S_table_Text (t0 : Value) (w : World) (K : Ending→World→Prop) : Prop:=
 DoX Tryz.prog (mBox 29 t0) w (pk K) fun t1 w =>
 DoX Tryz.prog (mLoad 29 t1) w (pk K) fun t18 w =>
 CallX Tryz.prog 29 #[t18] w (pk K) fun t19 w =>
 DoX Tryz.prog (mEq .neq 30 (.tmp 20) (.const (.int .i64 0)) t19 (.int .i64 0)) w (pk K) fun t21 w =>
 IfX t21 (K (.returned (.tuple #[(.string ⟨#[]⟩),t19])) w) (DoX Tryz.prog (mFA 29 t1 2) w (pk K) fun t24 w =>
 DoX Tryz.prog (mLoad 27 t24) w (pk K) fun t25 w =>
 CallX Tryz.prog 30 #[t25] w (pk K) fun t26 w =>
 DoX Tryz.prog (mExt t26 0) w (pk K) fun t27 w =>
 DoX Tryz.prog (mExt t26 1) w (pk K) fun t28 w =>
 DoX Tryz.prog (mEq .neq 30 (.tmp 29) (.const (.int .i64 0)) t28 (.int .i64 0)) w (pk K) fun t30 w =>
 IfX t30 (K (.returned (.tuple #[(.string ⟨#[]⟩),t28])) w) (DoX Tryz.prog (mAlloc 73) w (pk K) fun t7 w =>
 CallX Tryz.prog 31 #[t7,(.string ⟨#[120,114,101,102,10]⟩)] w (pk K) fun t32 w =>
 DoX Tryz.prog (mFA 29 t1 1) w (pk K) fun t33 w =>
 DoX Tryz.prog (mLoad 23 t33) w (pk K) fun t34 w =>
 CallX Tryz.prog 14 #[t34] w (pk K) fun t36 w =>
 DoX Tryz.prog (mB .len #[38] 3 #[false] #[t36]) w (pk K) fun t37 w =>
 LoopX [t34,(.int .i64 0)] w (fun vs1 w N1 => ∀ _ : Sg,S_table_Text_0 t27 t7 (vs1.getD 0 undef) t36 t37 (vs1.getD 1 undef) w N1 K)))
theorem S_table_Text_eq (t0 : Value) (w : World) (K : Ending→World→Prop) : wpX Tryz.prog 96 [(22,[17])] [(11,[8,38]),(17,[65])] none (bodyOf Tryz.f12) (topQ Tryz.prog [.tmp 2,.tmp 3] K) (startX [t0]) [] w = S_table_Text t0 w K:=by kernel_rfl
theorem S_table_Text_ok {t0 : Value} {w : World} {K : Ending→World→Prop} (h : S_table_Text t0 w K) : Calls Tryz.prog 12 #[t0] w K:=
 calls_of_wpX Tryz.func12 rfl rfl rfl rfl (Eq.mpr (S_table_Text_eq t0 w K) h)
end Go.Proofs.YtjloddgofmdmgaaGreatDoor
namespace Go.Proofs.YtjloddgofmdmgaaGreatDoor
set_option maxRecDepth 20000
open Eng Go.RowKit
namespace Eng
structure Lend (P : Program) (f : Nat) (args : Array Value) (e : Ent) (w : World) (ok : Prop) (Q : Value→Ent→Prop) (c : List PanicEntry) : Prop where
 ret : ok→Ret P f args w (fun v w' => ∃ e',Q v e'∧Turn e e' w w')
 pan : ¬ ok→Pan P f args w (fun c' w' => c' = c∧∃ e2,Turn e e2 w w')
section
variable {S : Nat→Prop} {P : Program} {w w0 : World} {L : List Ent} {PK : List PanicEntry→World→Prop} {K : Value→World→Prop}
theorem c_lend {f : Nat} {args : Array Value} {e : Ent} {ok : Prop} {Q : Value→Ent→Prop} {c : List PanicEntry} (ho : OwnS S w0 w L) (i : Nat) (hi : L[i]? = some e) (h : Lend P f args e w ok Q c)
  (kr : ∀ v e' w',ok→Q v e'→OwnS S w0 w' (L.set i e')→K v w') (kp : ∀ e2 w',¬ ok→OwnS S w0 w' (L.set i e2)→PK c w') : CallX P f args w PK K:=by
 by_cases hk : ok
 ·exact c_ret (h.ret hk) fun v w' ⟨e',hq,ht⟩ => kr v e' w' hk hq (ho.turn i hi ht)
 ·exact c_pan (h.pan hk) fun c' w' ⟨hc,e2,ht⟩ => by subst hc;exact kp e2 w' hk (ho.turn i hi ht)
theorem lend_of {f : Nat} {args : Array Value} {e : Ent} {ok : Prop} {Q : Value→Ent→Prop} {c : List PanicEntry} (h0 : e.is w)
  (h : ∀ K : Ending→World→Prop,OwnS e.blk w w [e]→(ok→∀ (v : Value) (e' : Ent) (w' : World) (L : List Ent),OwnS e.blk w w' (e' :: L)→Q v e'→K (.returned v) w') →
   (¬ ok→∀ (e2 : Ent) (w' : World) (L : List Ent),OwnS e.blk w w' (e2 :: L)→K (.panicked c) w')→Calls P f args w K) : Lend P f args e w ok Q c:=by
 constructor
 ·intro hk
  exact ret_of fun K hK => h K (OwnS.lend h0) (fun _ v e' w' L hw hq => hK _ _ ⟨e',hq,OwnS.back hw⟩) fun hn => absurd hk hn
 ·intro hn
  exact pan_of fun K hK => h K (OwnS.lend h0) (fun hk => absurd hk hn) fun _ e2 w' L hw => hK _ _ ⟨rfl,e2,OwnS.back hw⟩
end
end Eng
def slC (x : Slt) : List Value:=[.int .i64 x.num,.int .i64 x.kind,.int .i64 x.a,.int .i64 x.b]
def slV (x : Slt) : Value:=.agg (slC x).toArray
abbrev slE (b : Nat) (x : Slt) : Ent:=.cells b (slC x) 49
def sl0 : Slt:=⟨0,0,0,0⟩
theorem aggSl : aggN Tryz.prog 49 = some 4:=by kernel_rfl
theorem szSl : (Tryz.prog.info? 49).map (·.size) = some 4:=by kernel_rfl
theorem slC_one (x : Slt) : ∀ v ∈ slC x,v.oneCell' = true:=by
 intro v hv
 simp only [slC,List.mem_cons,List.not_mem_nil,or_false] at hv
 rcases hv with rfl | rfl | rfl | rfl<;>rfl
theorem fs0 : fOff Tryz.prog 49 0 = some 0:=by kernel_rfl
theorem fs1 : fOff Tryz.prog 49 1 = some 1:=by kernel_rfl
theorem fs2 : fOff Tryz.prog 49 2 = some 2:=by kernel_rfl
theorem fs3 : fOff Tryz.prog 49 3 = some 3:=by kernel_rfl
abbrev trE (b : Nat) (s : List UInt8) (a : Int) : Ent:=.cells b (rdC s a) 53
theorem ftr0 : fOff Tryz.prog 53 0 = some 0:=by kernel_rfl
theorem ftr1 : fOff Tryz.prog 53 1 = some 1:=by kernel_rfl
theorem nfT : notIface Tryz.prog 108 = true:=by kernel_rfl
def badT : PanicEntry:={ v:=.iface 108 (.agg #[]),recovered:=false }
section
variable {w : World} {PK : List PanicEntry→World→Prop} {K : Value→World→Prop} {S : Nat→Prop} {w0 : World} {L : List Ent}
theorem fa_s0' {b off : Nat} : DoX Tryz.prog (mFA 49 (.pointer (some ⟨b,off,none⟩)) 0) w PK K = K (.pointer (some ⟨b,off,none⟩)) w:=f_addr fs0
theorem fa_s1' {b off : Nat} : DoX Tryz.prog (mFA 49 (.pointer (some ⟨b,off,none⟩)) 1) w PK K = K (.pointer (some ⟨b,off + 1,none⟩)) w:=f_addr fs1
theorem fa_s2' {b off : Nat} : DoX Tryz.prog (mFA 49 (.pointer (some ⟨b,off,none⟩)) 2) w PK K = K (.pointer (some ⟨b,off + 2,none⟩)) w:=f_addr fs2
theorem fa_s3' {b off : Nat} : DoX Tryz.prog (mFA 49 (.pointer (some ⟨b,off,none⟩)) 3) w PK K = K (.pointer (some ⟨b,off + 3,none⟩)) w:=f_addr fs3
theorem o_slb (x : Slt) (ho : OwnS S w0 w L) (k : ∀ b w',OwnS S w0 w' (slE b x :: L)→K (.pointer (some ⟨b,0,none⟩)) w') : DoX Tryz.prog (mBox 49 (slV x)) w PK K:=
 o_new (fun b => .pointer (some ⟨b,0,none⟩)) (slC x) 49 (fun _ => by kernel_rfl) ho k
theorem o_sla (ho : OwnS S w0 w L) (k : ∀ b w',OwnS S w0 w' (slE b sl0 :: L)→K (.pointer (some ⟨b,0,none⟩)) w') : DoX Tryz.prog (mAlloc 49) w PK K:=
 o_new (fun b => .pointer (some ⟨b,0,none⟩)) (slC sl0) 49 (fun _ => by kernel_rfl) ho k
theorem sl_put (i : Nat) {b : Nat} {x y : Slt} (ho : OwnS S w0 w L) (hi : L[i]? = some (slE b x)) (k : ∀ w',OwnS S w0 w' (L.set i (slE b y))→K undef w') :
  DoX Tryz.prog (mStore 49 (.pointer (some ⟨b,0,none⟩)) (slV y)) w PK K:=o_put i ho hi (new:=slC y) szSl (slC_one y) rfl k
theorem sl_v (ho : OwnS S w0 w L) (i : Nat) {b : Nat} {x : Slt} (hi : L[i]? = some (slE b x)) : DoX Tryz.prog (mLoad 49 (.pointer (some ⟨b,0,none⟩))) w PK K = K (slV x) w:=l_at (ho.agg i hi aggSl)
theorem m_sl0 : DoX Tryz.prog (mBuild 49 #[]) w PK K = K (slV sl0) w:=do_eq (by kernel_rfl)
theorem m_sl3 {n a b : Int} : DoX Tryz.prog (mBuild 49 #[(0,.int .i64 n),(2,.int .i64 a),(3,.int .i64 b)]) w PK K = K (slV ⟨n,0,a,b⟩) w:=do_eq (by kernel_rfl)
theorem fa_tr1 {b : Nat} : DoX Tryz.prog (mFA 53 (.pointer (some ⟨b,0,none⟩)) 1) w PK K = K (.pointer (some ⟨b,1,none⟩)) w:=f_addr ftr1
theorem tr_s {b : Nat} {s : List UInt8} {a : Int} (h : (trE b s a).is w) : (mLoad 9 (.pointer (some ⟨b,0,none⟩))).run Tryz.prog w = .ok (.value (.string ⟨s.toArray⟩)) w:=run_load_cell nStr5 (cells_cell (T:=53) (cs:=rdC s a) (i:=0) h rfl)
theorem tr_a {b : Nat} {s : List UInt8} {a : Int} (h : (trE b s a).is w) : (mLoad 3 (.pointer (some ⟨b,1,none⟩))).run Tryz.prog w = .ok (.value (.int .i64 a)) w:=run_load_cell nInt5 (cells_cell (T:=53) (cs:=rdC s a) (i:=1) h rfl)
theorem tr_put (i : Nat) {b : Nat} {s : List UInt8} {a a' : Int} (ho : OwnS S w0 w L) (hi : L[i]? = some (trE b s a)) (k : ∀ w',OwnS S w0 w' (L.set i (trE b s a'))→K undef w') : DoX Tryz.prog (mStore 3 (.pointer (some ⟨b,1,none⟩)) (.int .i64 a')) w PK K:=
 o_store i ho hi (by kernel_rfl) rfl (show 1 < 2 by omega) k
end
theorem tmust_t (w : World) : Ret Tryz.prog 43 #[.bool true] w (fun v w' => v = .tuple #[]∧w = w'):=by
 refine ret_of fun K hK => S_table_must_ok ?_
 unfold S_table_must
 simp only [rs,Bool.not_true,i_f]
 exact hK _ _ ⟨rfl,rfl⟩
theorem tmust_f (w : World) : Pan Tryz.prog 43 #[.bool false] w (fun c w' => c = [badT]∧w = w'):=by
 refine pan_of fun K hK => S_table_must_ok ?_
 unfold S_table_must
 simp only [rs,Bool.not_false,i_t]
 have hb : ∀ {PK : List PanicEntry→World→Prop} {K : Value→World→Prop},DoX Tryz.prog (mBuild 108 #[]) w PK K = K (.agg #[]) w:=do_eq (by kernel_rfl)
 rw [hb,m_iface nfT,m_panic]
 exact hK _ _ ⟨rfl,rfl⟩
section
variable {w : World} {PK : List PanicEntry→World→Prop} {K : Value→World→Prop} {S : Nat→Prop} {w0 : World} {L : List Ent}
theorem c_tmust {q : Bool} (kt : q = true→K (.tuple #[]) w) (kf : q = false→PK [badT] w) : CallX Tryz.prog 43 #[.bool q] w PK K:=by
 cases q with
 | true => exact c_eq (tmust_t w) (kt rfl)
 | false => exact c_pan (tmust_f w) fun c w' ⟨hc,hw⟩ => by subst hc;subst hw;exact kf rfl
end
abbrev WholeT (t : Lx.Tok) (most : Int) : Prop:=t.k = 1∧0≤t.n∧t.n≤most
theorem whole_calls (t : Lx.Tok) (most : Int) (w : World) (K : Ending→World→Prop) (h1 : WholeT t most→∀ w',Below w.heap.size w w'→K (.returned (.int .i64 t.n)) w') (h2 : ¬ WholeT t most→∀ w',Below w.heap.size w w'→K (.panicked [badT]) w') :
  Calls Tryz.prog 64 #[tokV t,.int .i64 most] w K:=by
 refine S_table_whole_ok ?_
 unfold S_table_whole
 refine o_tkb t (Own.start w) fun b w1 ho => ?_
 have fin : ∀ q : Bool,(q = true ↔ WholeT t most)→CallX Tryz.prog 43 #[.bool q] w1 (pk K) fun t19 w => DoX Tryz.prog (mFA 90 (.pointer (some ⟨b,0,none⟩)) 3) w (pk K) fun t20 w => DoX Tryz.prog (mLoad 2 t20) w (pk K) fun t21 w => K (.returned t21) w:=by
  intro q hq
  refine c_tmust (fun h => ?_) fun h => h2 (fun hw => by rw [hq.2 hw] at h;cases h) _ ho.done
  rw [fa_t3,tk_n ho 0 rfl]
  exact h1 (hq.1 h) _ ho.done
 by_cases e1 : t.k = 1
 ·by_cases e2 : 0≤t.n
  ·simp only [rs,fa_t0,tk_k ho 0 rfl,decide_eq_true e1,fa_t3,tk_n ho 0 rfl,decide_eq_true e2,g_un]
   simp only [fa_t3,tk_n ho 0 rfl] at fin
   exact fin _ (by simp [WholeT,e1,e2])
  ·simp only [rs,fa_t0,tk_k ho 0 rfl,decide_eq_true e1,fa_t3,tk_n ho 0 rfl,decide_eq_false e2,g_un]
   simp only [fa_t3,tk_n ho 0 rfl] at fin
   exact fin _ (by simp [WholeT,e1,e2])
 ·simp only [rs,fa_t0,tk_k ho 0 rfl,decide_eq_false e1,fa_t3,tk_n ho 0 rfl,g_un]
  simp only [fa_t3,tk_n ho 0 rfl] at fin
  exact fin _ (by simp [WholeT,e1])
section
variable {w : World} {PK : List PanicEntry→World→Prop} {K : Value→World→Prop} {S : Nat→Prop} {w0 : World} {L : List Ent}
theorem c_whole {t : Lx.Tok} {most : Int} (ho : OwnS S w0 w L) (kr : WholeT t most→∀ w',OwnS S w0 w' L→K (.int .i64 t.n) w') (kp : ¬ WholeT t most→∀ w',OwnS S w0 w' L→PK [badT] w') : CallX Tryz.prog 64 #[tokV t,.int .i64 most] w PK K:=by
 by_cases h : WholeT t most
 ·refine c_ret (R:=fun v w' => v = .int .i64 t.n∧Below w.heap.size w w') (whole_calls t most w _ (fun _ w' hb => retK ⟨rfl,hb⟩) fun hn => absurd h hn) ?_
  rintro _ w' ⟨rfl,hb⟩
  exact kr h w' (ho.grow hb)
 ·refine c_pan (R:=fun c w' => c = [badT]∧Below w.heap.size w w') (whole_calls t most w _ (fun hy => absurd hy h) fun _ w' hb => panK ⟨rfl,hb⟩) ?_
  rintro _ w' ⟨rfl,hb⟩
  exact kp h w' (ho.grow hb)
end
theorem tnext_ret (b : Nat) (s : List UInt8) (a : Int) (w : World) (hs : s.length≤1099511627776) (hr : (trE b s a).is w) :
  Lend Tryz.prog 45 #[rdP b] (trE b s a) w ((Lx.next s a).2 = 0) (fun v e' => v = tokV (Lx.next s a).1∧e' = trE b s (Lx.next s a).1.t) [badT]:=by
 refine lend_of hr (fun K ho hret hpan => S_table_reader_next_ok ?_)
 unfold S_table_reader_next
 generalize hS0 : (trE b s a).blk = S0 at *
 refine o_tok ho fun b2 w1 ho => ?_
 have two : ∀ {W : World} {b3 : Nat},OwnS S0 w W [tokE b3 (Lx.next s a).1,tokE b2 Lx.none_,trE b s a]→S_table_reader_next_0 (rdP b) (.pointer (some ⟨b2,0,none⟩)) (.pointer (some ⟨b3,0,none⟩)) (.int .i64 (Lx.next s a).2) W K:=by
  intro W b3 ho
  generalize Lx.next s a = x at *
  unfold S_table_reader_next_0
  simp only [rs]
  refine c_tmust (fun h => ?_) fun h => hpan (of_decide_eq_false h) _ W _ ho.tail.tail
  have e1:=of_decide_eq_true h
  rw [fa_t2,tk_t ho 0 rfl,fa_tr1]
  refine tr_put 2 ho rfl fun w2 ho => ?_
  have ho : OwnS S0 w w2 [tokE b3 x.1,tokE b2 Lx.none_,trE b s x.1.t]:=ho
  rw [tk_v ho 0 rfl]
  refine tk_put 1 ho rfl fun w3 ho => ?_
  refine ret_v1 (rv_cell (ho.agg 1 rfl aggTok)) ?_
  have ho : OwnS S0 w w3 [tokE b3 x.1,tokE b2 x.1,trE b s x.1.t]:=ho
  exact hret e1 _ _ w3 [] ho.tail.tail ⟨rfl,rfl⟩
 have ho:=ho.drew
 refine⟨fun W => (trE b s a).is W,ho.at_ 1 rfl,?_⟩
 refine hd_pure _ (fun _ => run_nil) (hd_pure _ (fun _ => run_fa ftr0) (hd_do _ (fun W h => tr_s h) ?_))
 refine hd_pure _ (fun _ => run_nil) (hd_pure _ (fun _ => run_fa ftr1) (hd_do _ (fun W h => tr_a h) ?_))
 refine⟨?_,?_⟩
 ·refine c_below ho (R:=fun v => v = tokR (Lx.next s a)) (next_ret s a _ hs) ?_
  rintro _ w2 rfl ho
  refine hd_pure _ (fun _ => run_ext0) (hd_pure _ (fun _ => run_ext1) ?_)
  refine o_tok ho fun b3 w3 ho => ⟨ho.at_ 2 rfl,?_⟩
  refine tk_put 0 ho rfl fun w4 ho => ?_
  exact two ho
 ·refine o_tok ho fun b3 w3 ho => ⟨ho.at_ 2 rfl,?_⟩
  refine c_below ho (R:=fun v => v = tokR (Lx.next s a)) (next_ret s a _ hs) ?_
  rintro _ w2 rfl ho
  refine hd_pure _ (fun _ => run_ext0) (hd_pure _ (fun _ => run_ext1) ?_)
  refine tk_put 0 ho rfl fun w4 ho => ?_
  exact two ho
theorem entry_num {s : List UInt8} {a most : Int} : Tl.number s a 0 most = if (Lx.next s a).2 = 0∧WholeT (Lx.next s a).1 most then some ((Lx.next s a).1.n,(Lx.next s a).1.t) else none:=by
 unfold Tl.number WholeT
 by_cases h : (Lx.next s a).2≠0∨(Lx.next s a).1.k≠1∨(Lx.next s a).1.n < 0∨most < (Lx.next s a).1.n
 ·rw [if_pos h,if_neg (by omega)]
 ·rw [if_neg h,if_pos (by omega)]
end Go.Proofs.YtjloddgofmdmgaaGreatDoor
namespace Go.Proofs.YtjloddgofmdmgaaGreatDoor
set_option maxRecDepth 20000
open Eng
def S_foliantref18_Check_1 (t0 t3 t4 : Value) (w : World) (N1 : List Value→World→Prop) (K : Ending→World→Prop) : Prop:=
 QuietX w (fun C3 =>
 QDo Tryz.prog C3 (mBin .gtr 3 t3 (.int .i64 0)) fun t71 =>
 GQ t71 true (fun E => QDo Tryz.prog C3 (mFA 49 t4 0) E) fun t73 =>
 GQ t71 true (fun E => QDo Tryz.prog C3 (mLoad 3 t73) E) fun t74 =>
 GQ t71 true (fun E => E t0) fun t75 =>
 GQ t71 true (fun E => E t3) fun t76 =>
 GQ t71 true (fun E => QDo Tryz.prog C3 (mBin .sub 3 t76 (.int .i64 1)) E) fun t77 =>
 GQ t71 true (fun E => QDo Tryz.prog C3 (mIA 23 t75 t77) E) fun t78 =>
 GQ t71 true (fun E => QDo Tryz.prog C3 (mFA 49 t78 0) E) fun t79 =>
 GQ t71 true (fun E => QDo Tryz.prog C3 (mLoad 3 t79) E) fun t80 =>
 GQ t71 true (fun E => QDo Tryz.prog C3 (mEq .eql 3 (.tmp 74) (.tmp 80) t74 t80) E) fun t81 =>
 QDo Tryz.prog C3 (mPick t71 t81 (.bool false)) fun t82 =>
 ∀ w,C3 w →
 IfX t82 (K (.returned (.int .i64 9)) w) (QuietX w (fun C4 =>
 QDo Tryz.prog C4 (mBin .gtr 3 t3 (.int .i64 0)) fun t84 =>
 GQ t84 true (fun E => QDo Tryz.prog C4 (mFA 49 t4 0) E) fun t86 =>
 GQ t84 true (fun E => QDo Tryz.prog C4 (mLoad 3 t86) E) fun t87 =>
 GQ t84 true (fun E => E t0) fun t88 =>
 GQ t84 true (fun E => E t3) fun t89 =>
 GQ t84 true (fun E => QDo Tryz.prog C4 (mBin .sub 3 t89 (.int .i64 1)) E) fun t90 =>
 GQ t84 true (fun E => QDo Tryz.prog C4 (mIA 23 t88 t90) E) fun t91 =>
 GQ t84 true (fun E => QDo Tryz.prog C4 (mFA 49 t91 0) E) fun t92 =>
 GQ t84 true (fun E => QDo Tryz.prog C4 (mLoad 3 t92) E) fun t93 =>
 GQ t84 true (fun E => QDo Tryz.prog C4 (mBin .lss 3 t87 t93) E) fun t94 =>
 QDo Tryz.prog C4 (mPick t84 t94 (.bool false)) fun t95 =>
 ∀ w,C4 w →
 IfX t95 (K (.returned (.int .i64 1)) w) (DoX Tryz.prog (mBin .add 3 t3 (.int .i64 1)) w (pk K) fun t10 w =>
 N1 [t10] w))))
def S_foliantref18_Check_0 (t0 t3 : Value) (w : World) (N1 : List Value→World→Prop) (K : Ending→World→Prop) : Prop:=
 DoX Tryz.prog (mB .len #[23] 3 #[false] #[t0]) w (pk K) fun t7 w =>
 DoX Tryz.prog (mBin .lss 3 t3 t7) w (pk K) fun t8 w =>
 IfX t8 (DoX Tryz.prog (mIA 23 t0 t3) w (pk K) fun t13 w =>
 DoX Tryz.prog (mLoad 49 t13) w (pk K) fun t14 w =>
 DoX Tryz.prog (mAlloc 49) w (pk K) fun t4 w =>
 DoX Tryz.prog (mStore 49 t4 t14) w (pk K) fun _ w =>
 DoX Tryz.prog (mFA 49 t4 0) w (pk K) fun t15 w =>
 DoX Tryz.prog (mLoad 3 t15) w (pk K) fun t16 w =>
 DoX Tryz.prog (mBin .lss 3 t16 (.int .i64 0)) w (pk K) fun t17 w =>
 GDo t17 false (fun E => DoX Tryz.prog (mFA 49 t4 0) w (pk K) E) w fun t19 w =>
 GDo t17 false (fun E => DoX Tryz.prog (mLoad 3 t19) w (pk K) E) w fun t20 w =>
 GDo t17 false (fun E => DoX Tryz.prog (mBin .gtr 3 t20 (.int .i64 8191)) w (pk K) E) w fun t21 w =>
 DoX Tryz.prog (mPick t17 (.bool true) t21) w (pk K) fun t22 w =>
 IfX t22 (K (.returned (.int .i64 2)) w) (DoX Tryz.prog (mFA 49 t4 1) w (pk K) fun t23 w =>
 DoX Tryz.prog (mLoad 3 t23) w (pk K) fun t24 w =>
 DoX Tryz.prog (mBin .lss 3 t24 (.int .i64 0)) w (pk K) fun t25 w =>
 GDo t25 false (fun E => DoX Tryz.prog (mFA 49 t4 1) w (pk K) E) w fun t27 w =>
 GDo t25 false (fun E => DoX Tryz.prog (mLoad 3 t27) w (pk K) E) w fun t28 w =>
 GDo t25 false (fun E => DoX Tryz.prog (mBin .gtr 3 t28 (.int .i64 2)) w (pk K) E) w fun t29 w =>
 DoX Tryz.prog (mPick t25 (.bool true) t29) w (pk K) fun t30 w =>
 IfX t30 (K (.returned (.int .i64 10)) w) (JoinX (fun J2 =>
 DoX Tryz.prog (mFA 49 t4 1) w (pk K) fun t31 w =>
 DoX Tryz.prog (mLoad 3 t31) w (pk K) fun t32 w =>
 DoX Tryz.prog (mEq .eql 3 (.tmp 32) (.const (.int .i64 2)) t32 (.int .i64 2)) w (pk K) fun t33 w =>
 IfX t33 (DoX Tryz.prog (mFA 49 t4 2) w (pk K) fun t34 w =>
 DoX Tryz.prog (mLoad 3 t34) w (pk K) fun t35 w =>
 DoX Tryz.prog (mBin .lss 3 t35 (.int .i64 1)) w (pk K) fun t36 w =>
 GDo t36 false (fun E => DoX Tryz.prog (mFA 49 t4 2) w (pk K) E) w fun t38 w =>
 GDo t36 false (fun E => DoX Tryz.prog (mLoad 3 t38) w (pk K) E) w fun t39 w =>
 GDo t36 false (fun E => DoX Tryz.prog (mBin .gtr 3 t39 (.int .i64 8191)) w (pk K) E) w fun t40 w =>
 DoX Tryz.prog (mPick t36 (.bool true) t40) w (pk K) fun t41 w =>
 GDo t41 false (fun E => DoX Tryz.prog (mFA 49 t4 3) w (pk K) E) w fun t43 w =>
 GDo t41 false (fun E => DoX Tryz.prog (mLoad 3 t43) w (pk K) E) w fun t44 w =>
 GDo t41 false (fun E => DoX Tryz.prog (mBin .lss 3 t44 (.int .i64 0)) w (pk K) E) w fun t45 w =>
 DoX Tryz.prog (mPick t41 (.bool true) t45) w (pk K) fun t46 w =>
 GDo t46 false (fun E => DoX Tryz.prog (mFA 49 t4 3) w (pk K) E) w fun t48 w =>
 GDo t46 false (fun E => DoX Tryz.prog (mLoad 3 t48) w (pk K) E) w fun t49 w =>
 GDo t46 false (fun E => DoX Tryz.prog (mBin .gtr 3 t49 (.int .i64 8191)) w (pk K) E) w fun t50 w =>
 DoX Tryz.prog (mPick t46 (.bool true) t50) w (pk K) fun t51 w =>
 IfX t51 (K (.returned (.int .i64 2)) w) (J2 [] w)) (DoX Tryz.prog (mFA 49 t4 2) w (pk K) fun t52 w =>
 DoX Tryz.prog (mLoad 3 t52) w (pk K) fun t53 w =>
 DoX Tryz.prog (mBin .lss 3 t53 (.int .i64 0)) w (pk K) fun t54 w =>
 GDo t54 false (fun E => DoX Tryz.prog (mFA 49 t4 2) w (pk K) E) w fun t56 w =>
 GDo t54 false (fun E => DoX Tryz.prog (mLoad 3 t56) w (pk K) E) w fun t57 w =>
 GDo t54 false (fun E => DoX Tryz.prog (mBin .gtr 3 t57 (.int .i64 2147483647)) w (pk K) E) w fun t58 w =>
 DoX Tryz.prog (mPick t54 (.bool true) t58) w (pk K) fun t59 w =>
 GDo t59 false (fun E => DoX Tryz.prog (mFA 49 t4 3) w (pk K) E) w fun t61 w =>
 GDo t59 false (fun E => DoX Tryz.prog (mLoad 3 t61) w (pk K) E) w fun t62 w =>
 GDo t59 false (fun E => DoX Tryz.prog (mBin .lss 3 t62 (.int .i64 0)) w (pk K) E) w fun t63 w =>
 DoX Tryz.prog (mPick t59 (.bool true) t63) w (pk K) fun t64 w =>
 GDo t64 false (fun E => DoX Tryz.prog (mFA 49 t4 3) w (pk K) E) w fun t66 w =>
 GDo t64 false (fun E => DoX Tryz.prog (mLoad 3 t66) w (pk K) E) w fun t67 w =>
 GDo t64 false (fun E => DoX Tryz.prog (mBin .gtr 3 t67 (.int .i64 65535)) w (pk K) E) w fun t68 w =>
 DoX Tryz.prog (mPick t64 (.bool true) t68) w (pk K) fun t69 w =>
 IfX t69 (K (.returned (.int .i64 2)) w) (J2 [] w))) (fun vs2 w => ∀ _ : Sg,S_foliantref18_Check_1 t0 t3 t4 w N1 K)))) (K (.returned (.int .i64 0)) w)
def S_foliantref18_Check (t0 : Value) (w : World) (K : Ending→World→Prop) : Prop:=
 LoopX [(.int .i64 0)] w (fun vs1 w N1 => ∀ _ : Sg,S_foliantref18_Check_0 t0 (vs1.getD 0 undef) w N1 K)
theorem S_foliantref18_Check_eq (t0 : Value) (w : World) (K : Ending→World→Prop) : wpX Tryz.prog 96 [(14,[])] [(2,[3])] none (bodyOf Tryz.f17) (topQ Tryz.prog [.tmp 2] K) (startX [t0]) [] w = S_foliantref18_Check t0 w K:=by kernel_rfl
theorem S_foliantref18_Check_ok {t0 : Value} {w : World} {K : Ending→World→Prop} (h : S_foliantref18_Check t0 w K) : Calls Tryz.prog 17 #[t0] w K:=
 calls_of_wpX Tryz.func17 rfl rfl rfl rfl (Eq.mpr (S_foliantref18_Check_eq t0 w K) h)
def S_foliantref18_Runs_1 (t3 t4 : Value) (w : World) (N1 : List Value→World→Prop) (K : Ending→World→Prop) : Prop:=
 DoX Tryz.prog (mBin .add 3 t4 (.int .i64 1)) w (pk K) fun t11 w =>
 N1 [t3,t11] w
def S_foliantref18_Runs_0 (t0 t3 t4 : Value) (w : World) (N1 : List Value→World→Prop) (K : Ending→World→Prop) : Prop:=
 DoX Tryz.prog (mB .len #[23] 3 #[false] #[t0]) w (pk K) fun t8 w =>
 DoX Tryz.prog (mBin .lss 3 t4 t8) w (pk K) fun t9 w =>
 IfX t9 (JoinX (fun J2 =>
 DoX Tryz.prog (mB .len #[38] 3 #[false] #[t3]) w (pk K) fun t13 w =>
 DoX Tryz.prog (mBin .sub 3 t13 (.int .i64 1)) w (pk K) fun t14 w =>
 QuietX w (fun C3 =>
 QDo Tryz.prog C3 (mBin .gtr 3 t4 (.int .i64 0)) fun t16 =>
 GQ t16 true (fun E => E t0) fun t18 =>
 GQ t16 true (fun E => E t4) fun t19 =>
 GQ t16 true (fun E => QDo Tryz.prog C3 (mBin .sub 3 t19 (.int .i64 1)) E) fun t20 =>
 GQ t16 true (fun E => QDo Tryz.prog C3 (mIA 23 t18 t20) E) fun t21 =>
 GQ t16 true (fun E => QDo Tryz.prog C3 (mFA 49 t21 0) E) fun t22 =>
 GQ t16 true (fun E => QDo Tryz.prog C3 (mLoad 3 t22) E) fun t23 =>
 GQ t16 true (fun E => QDo Tryz.prog C3 (mBin .lss 3 t23 (.int .i64 9223372036854775807)) E) fun t24 =>
 QDo Tryz.prog C3 (mPick t16 t24 (.bool false)) fun t25 =>
 GQ t25 true (fun E => E t0) fun t27 =>
 GQ t25 true (fun E => E t4) fun t28 =>
 GQ t25 true (fun E => QDo Tryz.prog C3 (mIA 23 t27 t28) E) fun t29 =>
 GQ t25 true (fun E => QDo Tryz.prog C3 (mFA 49 t29 0) E) fun t30 =>
 GQ t25 true (fun E => QDo Tryz.prog C3 (mLoad 3 t30) E) fun t31 =>
 GQ t25 true (fun E => E t0) fun t32 =>
 GQ t25 true (fun E => E t4) fun t33 =>
 GQ t25 true (fun E => QDo Tryz.prog C3 (mBin .sub 3 t33 (.int .i64 1)) E) fun t34 =>
 GQ t25 true (fun E => QDo Tryz.prog C3 (mIA 23 t32 t34) E) fun t35 =>
 GQ t25 true (fun E => QDo Tryz.prog C3 (mFA 49 t35 0) E) fun t36 =>
 GQ t25 true (fun E => QDo Tryz.prog C3 (mLoad 3 t36) E) fun t37 =>
 GQ t25 true (fun E => QDo Tryz.prog C3 (mBin .add 3 t37 (.int .i64 1)) E) fun t38 =>
 GQ t25 true (fun E => QDo Tryz.prog C3 (mEq .eql 3 (.tmp 31) (.tmp 38) t31 t38) E) fun t39 =>
 QDo Tryz.prog C3 (mPick t25 t39 (.bool false)) fun t40 =>
 ∀ w,C3 w →
 IfX t40 (QuietX w (fun C4 =>
 QDo Tryz.prog C4 (mIA 38 t3 t14) fun t43 =>
 QDo Tryz.prog C4 (mIA 40 t43 (.int .i64 1)) fun t44 =>
 QDo Tryz.prog C4 (mLoad 3 t44) fun t45 =>
 QDo Tryz.prog C4 (mBin .add 3 t45 (.int .i64 1)) fun t46 =>
 QDo Tryz.prog C4 (mIA 38 t3 t14) fun t47 =>
 QDo Tryz.prog C4 (mIA 40 t47 (.int .i64 1)) fun t48 =>
 ∀ w,C4 w →
 DoX Tryz.prog (mStore 3 t48 t46) w (pk K) fun _ w =>
 J2 [t3] w)) (DoX Tryz.prog (mIA 23 t0 t4) w (pk K) fun t52 w =>
 DoX Tryz.prog (mFA 49 t52 0) w (pk K) fun t53 w =>
 DoX Tryz.prog (mLoad 3 t53) w (pk K) fun t54 w =>
 DoX Tryz.prog (mBuild 40 #[(0,t54),(1,(.int .i64 1))]) w (pk K) fun t55 w =>
 DoX Tryz.prog (mBuildS 38 1 #[(0,t55)]) w (pk K) fun t56 w =>
 DoX Tryz.prog (mB .append #[38,38] 38 #[false,false] #[t3,t56]) w (pk K) fun t57 w =>
 J2 [t57] w))) (fun vs2 w => ∀ _ : Sg,S_foliantref18_Runs_1 (vs2.getD 0 undef) t4 w N1 K)) (K (.returned t3) w)
def S_foliantref18_Runs (t0 : Value) (w : World) (K : Ending→World→Prop) : Prop:=
 LoopX [(.slice none 0 0),(.int .i64 0)] w (fun vs1 w N1 => ∀ _ : Sg,S_foliantref18_Runs_0 t0 (vs1.getD 0 undef) (vs1.getD 1 undef) w N1 K)
theorem S_foliantref18_Runs_eq (t0 : Value) (w : World) (K : Ending→World→Prop) : wpX Tryz.prog 59 [(4,[3])] [(3,[3,4])] none (bodyOf Tryz.f15) (topQ Tryz.prog [.tmp 2] K) (startX [t0]) [] w = S_foliantref18_Runs t0 w K:=by kernel_rfl
theorem S_foliantref18_Runs_ok {t0 : Value} {w : World} {K : Ending→World→Prop} (h : S_foliantref18_Runs t0 w K) : Calls Tryz.prog 15 #[t0] w K:=
 calls_of_wpX Tryz.func15 rfl rfl rfl rfl (Eq.mpr (S_foliantref18_Runs_eq t0 w K) h)
def S_foliantref18_digits (t0 : Value) (w : World) (K : Ending→World→Prop) : Prop:=
 DoX Tryz.prog (mBin .lss 3 t0 (.int .i64 10)) w (pk K) fun t4 w =>
 IfX t4 (DoX Tryz.prog (mBin .add 3 (.int .i64 48) t0) w (pk K) fun t6 w =>
 DoX Tryz.prog (mConv 3 5 t6) w (pk K) fun t7 w =>
 DoX Tryz.prog (mBuildS 71 1 #[(0,t7)]) w (pk K) fun t8 w =>
 DoX Tryz.prog (mConv 71 9 t8) w (pk K) fun t9 w =>
 K (.returned t9) w) (DoX Tryz.prog (mBin .quo 3 t0 (.int .i64 10)) w (pk K) fun t11 w =>
 CallX Tryz.prog 36 #[t11] w (pk K) fun t12 w =>
 DoX Tryz.prog (mBin .rem 3 t0 (.int .i64 10)) w (pk K) fun t14 w =>
 CallX Tryz.prog 36 #[t14] w (pk K) fun t15 w =>
 DoX Tryz.prog (mBin .add 9 t12 t15) w (pk K) fun t16 w =>
 K (.returned t16) w)
theorem S_foliantref18_digits_eq (t0 : Value) (w : World) (K : Ending→World→Prop) : wpX Tryz.prog 17 [] [] none (bodyOf Tryz.f36) (topQ Tryz.prog [.tmp 2] K) (startX [t0]) [] w = S_foliantref18_digits t0 w K:=by kernel_rfl
theorem S_foliantref18_digits_ok {t0 : Value} {w : World} {K : Ending→World→Prop} (h : S_foliantref18_digits t0 w K) : Calls Tryz.prog 36 #[t0] w K:=
 calls_of_wpX Tryz.func36 rfl rfl rfl rfl (Eq.mpr (S_foliantref18_digits_eq t0 w K) h)
def S_foliantref18_pad_0 (t1 t5 : Value) (w : World) (N1 : List Value→World→Prop) (K : Ending→World→Prop) : Prop:=
 DoX Tryz.prog (mB .len #[9] 3 #[false] #[t5]) w (pk K) fun t9 w =>
 DoX Tryz.prog (mBin .lss 3 t9 t1) w (pk K) fun t11 w =>
 IfX t11 (DoX Tryz.prog (mBin .add 9 (.string ⟨#[48]⟩) t5) w (pk K) fun t13 w =>
 N1 [t13] w) (K (.returned t5) w)
def S_foliantref18_pad (t0 t1 : Value) (w : World) (K : Ending→World→Prop) : Prop:=
 CallX Tryz.prog 36 #[t0] w (pk K) fun t7 w =>
 LoopX [t7] w (fun vs1 w N1 => ∀ _ : Sg,S_foliantref18_pad_0 t1 (vs1.getD 0 undef) w N1 K)
theorem S_foliantref18_pad_eq (t0 t1 : Value) (w : World) (K : Ending→World→Prop) : wpX Tryz.prog 15 [] [(2,[5])] none (bodyOf Tryz.f37) (topQ Tryz.prog [.tmp 4] K) (startX [t0,t1]) [] w = S_foliantref18_pad t0 t1 w K:=by kernel_rfl
theorem S_foliantref18_pad_ok {t0 t1 : Value} {w : World} {K : Ending→World→Prop} (h : S_foliantref18_pad t0 t1 w K) : Calls Tryz.prog 37 #[t0,t1] w K:=
 calls_of_wpX Tryz.func37 rfl rfl rfl rfl (Eq.mpr (S_foliantref18_pad_eq t0 t1 w K) h)
def S_foliantref18_Text_3 (t1 t7 t8 t11 t12 : Value) (w : World) (N4 : List Value→World→Prop) (K : Ending→World→Prop) : Prop:=
 QuietX w (fun C6 =>
 QDo Tryz.prog C6 (mFA 29 t1 1) fun t118 =>
 QDo Tryz.prog C6 (mLoad 23 t118) fun t119 =>
 QDo Tryz.prog C6 (mIA 23 t119 t8) fun t121 =>
 QDo Tryz.prog C6 (mFA 49 t121 2) fun t122 =>
 QDo Tryz.prog C6 (mLoad 3 t122) fun t123 =>
 QCall Tryz.prog C6 37 #[t123,(.int .i64 10)] fun t124 =>
 QDo Tryz.prog C6 (mBin .add 9 t124 (.string ⟨#[32]⟩)) fun t125 =>
 QDo Tryz.prog C6 (mFA 29 t1 1) fun t126 =>
 QDo Tryz.prog C6 (mLoad 23 t126) fun t127 =>
 QDo Tryz.prog C6 (mIA 23 t127 t8) fun t129 =>
 QDo Tryz.prog C6 (mFA 49 t129 3) fun t130 =>
 QDo Tryz.prog C6 (mLoad 3 t130) fun t131 =>
 QCall Tryz.prog C6 37 #[t131,(.int .i64 5)] fun t132 =>
 QDo Tryz.prog C6 (mBin .add 9 t125 t132) fun t133 =>
 QDo Tryz.prog C6 (mBin .add 9 t133 t12) fun t135 =>
 ∀ w,C6 w →
 DoX Tryz.prog (mB .append #[71,9] 71 #[false,false] #[t7,t135]) w (pk K) fun t136 w =>
 DoX Tryz.prog (mBin .add 3 t8 (.int .i64 1)) w (pk K) fun t138 w =>
 DoX Tryz.prog (mBin .add 3 t11 (.int .i64 1)) w (pk K) fun t109 w =>
 N4 [t136,t138,t109] w)
def S_foliantref18_Text_2 (t1 t7 t8 t9 t10 t11 : Value) (w : World) (N2 N4 : List Value→World→Prop) (K : Ending→World→Prop) : Prop:=
 DoX Tryz.prog (mIA 38 t9 t10) w (pk K) fun t104 w =>
 DoX Tryz.prog (mIA 40 t104 (.int .i64 1)) w (pk K) fun t105 w =>
 DoX Tryz.prog (mLoad 3 t105) w (pk K) fun t106 w =>
 DoX Tryz.prog (mBin .lss 3 t11 t106) w (pk K) fun t107 w =>
 IfX t107 (JoinX (fun J5 =>
 DoX Tryz.prog (mFA 29 t1 1) w (pk K) fun t110 w =>
 DoX Tryz.prog (mLoad 23 t110) w (pk K) fun t111 w =>
 DoX Tryz.prog (mIA 23 t111 t8) w (pk K) fun t113 w =>
 DoX Tryz.prog (mFA 49 t113 1) w (pk K) fun t114 w =>
 DoX Tryz.prog (mLoad 3 t114) w (pk K) fun t115 w =>
 DoX Tryz.prog (mEq .eql 3 (.tmp 115) (.const (.int .i64 0)) t115 (.int .i64 0)) w (pk K) fun t116 w =>
 IfX t116 (J5 [(.string ⟨#[32,102,32,10]⟩)] w) (J5 [(.string ⟨#[32,110,32,10]⟩)] w)) (fun vs5 w => ∀ _ : Sg,S_foliantref18_Text_3 t1 t7 t8 t11 (vs5.getD 0 undef) w N4 K)) (DoX Tryz.prog (mBin .add 3 t10 (.int .i64 1)) w (pk K) fun t83 w =>
 N2 [t7,t8,t83] w)
def S_foliantref18_Text_1 (t1 t7 t8 t9 t10 : Value) (w : World) (N2 : List Value→World→Prop) (K : Ending→World→Prop) : Prop:=
 DoX Tryz.prog (mB .len #[38] 3 #[false] #[t9]) w (pk K) fun t80 w =>
 DoX Tryz.prog (mBin .lss 3 t10 t80) w (pk K) fun t81 w =>
 IfX t81 (QuietX w (fun C3 =>
 QDo Tryz.prog C3 (mIA 38 t9 t10) fun t87 =>
 QDo Tryz.prog C3 (mIA 40 t87 (.int .i64 0)) fun t88 =>
 QDo Tryz.prog C3 (mLoad 3 t88) fun t89 =>
 QCall Tryz.prog C3 36 #[t89] fun t90 =>
 QDo Tryz.prog C3 (mBin .add 9 t90 (.string ⟨#[32]⟩)) fun t91 =>
 QDo Tryz.prog C3 (mIA 38 t9 t10) fun t94 =>
 QDo Tryz.prog C3 (mIA 40 t94 (.int .i64 1)) fun t95 =>
 QDo Tryz.prog C3 (mLoad 3 t95) fun t96 =>
 QCall Tryz.prog C3 36 #[t96] fun t97 =>
 QDo Tryz.prog C3 (mBin .add 9 t91 t97) fun t98 =>
 QDo Tryz.prog C3 (mBin .add 9 t98 (.string ⟨#[10]⟩)) fun t99 =>
 ∀ w,C3 w →
 DoX Tryz.prog (mB .append #[71,9] 71 #[false,false] #[t7,t99]) w (pk K) fun t100 w =>
 LoopX [t100,t8,(.int .i64 0)] w (fun vs4 w N4 => ∀ _ : Sg,S_foliantref18_Text_2 t1 (vs4.getD 0 undef) (vs4.getD 1 undef) t9 t10 (vs4.getD 2 undef) w N2 N4 K))) (DoX Tryz.prog (mFA 29 t1 2) w (pk K) fun t140 w =>
 DoX Tryz.prog (mLoad 27 t140) w (pk K) fun t141 w =>
 CallX Tryz.prog 38 #[t141] w (pk K) fun t142 w =>
 DoX Tryz.prog (mExt t142 0) w (pk K) fun t143 w =>
 DoX Tryz.prog (mExt t142 1) w (pk K) fun t144 w =>
 DoX Tryz.prog (mConv 71 9 t7) w (pk K) fun t146 w =>
 DoX Tryz.prog (mBin .add 9 t146 (.string ⟨#[116,114,97,105,108,101,114,10]⟩)) w (pk K) fun t147 w =>
 DoX Tryz.prog (mBin .add 9 t147 t143) w (pk K) fun t149 w =>
 DoX Tryz.prog (mBin .add 9 t149 (.string ⟨#[10]⟩)) w (pk K) fun t150 w =>
 K (.returned (.tuple #[t150,t144])) w)
def S_foliantref18_Text_0 (t1 t5 : Value) (w : World) (N1 : List Value→World→Prop) (K : Ending→World→Prop) : Prop:=
 DoX Tryz.prog (mFA 29 t1 1) w (pk K) fun t22 w =>
 DoX Tryz.prog (mLoad 23 t22) w (pk K) fun t23 w =>
 DoX Tryz.prog (mB .len #[23] 3 #[false] #[t23]) w (pk K) fun t24 w =>
 DoX Tryz.prog (mBin .lss 3 t5 t24) w (pk K) fun t25 w =>
 IfX t25 (DoX Tryz.prog (mFA 29 t1 1) w (pk K) fun t28 w =>
 DoX Tryz.prog (mLoad 23 t28) w (pk K) fun t29 w =>
 DoX Tryz.prog (mIA 23 t29 t5) w (pk K) fun t31 w =>
 DoX Tryz.prog (mFA 49 t31 1) w (pk K) fun t32 w =>
 DoX Tryz.prog (mLoad 3 t32) w (pk K) fun t33 w =>
 DoX Tryz.prog (mEq .eql 3 (.tmp 33) (.const (.int .i64 2)) t33 (.int .i64 2)) w (pk K) fun t34 w =>
 IfX t34 (K (.returned (.tuple #[(.string ⟨#[]⟩),(.int .i64 10)])) w) (DoX Tryz.prog (mBin .add 3 t5 (.int .i64 1)) w (pk K) fun t27 w =>
 N1 [t27] w)) (DoX Tryz.prog (mFA 29 t1 1) w (pk K) fun t35 w =>
 DoX Tryz.prog (mLoad 23 t35) w (pk K) fun t36 w =>
 DoX Tryz.prog (mB .len #[23] 3 #[false] #[t36]) w (pk K) fun t37 w =>
 DoX Tryz.prog (mBin .gtr 3 t37 (.int .i64 0)) w (pk K) fun t38 w =>
 GDo t38 true (fun E => DoX Tryz.prog (mFA 29 t1 1) w (pk K) E) w fun t40 w =>
 GDo t38 true (fun E => DoX Tryz.prog (mLoad 23 t40) w (pk K) E) w fun t41 w =>
 GDo t38 true (fun E => DoX Tryz.prog (mIA 23 t41 (.int .i64 0)) w (pk K) E) w fun t42 w =>
 GDo t38 true (fun E => DoX Tryz.prog (mFA 49 t42 0) w (pk K) E) w fun t43 w =>
 GDo t38 true (fun E => DoX Tryz.prog (mLoad 3 t43) w (pk K) E) w fun t44 w =>
 GDo t38 true (fun E => DoX Tryz.prog (mEq .eql 3 (.tmp 44) (.const (.int .i64 0)) t44 (.int .i64 0)) w (pk K) E) w fun t45 w =>
 DoX Tryz.prog (mPick t38 t45 (.bool false)) w (pk K) fun t46 w =>
 GDo t46 true (fun E => DoX Tryz.prog (mFA 29 t1 1) w (pk K) E) w fun t48 w =>
 GDo t46 true (fun E => DoX Tryz.prog (mLoad 23 t48) w (pk K) E) w fun t49 w =>
 GDo t46 true (fun E => DoX Tryz.prog (mIA 23 t49 (.int .i64 0)) w (pk K) E) w fun t50 w =>
 GDo t46 true (fun E => DoX Tryz.prog (mFA 49 t50 1) w (pk K) E) w fun t51 w =>
 GDo t46 true (fun E => DoX Tryz.prog (mLoad 3 t51) w (pk K) E) w fun t52 w =>
 GDo t46 true (fun E => DoX Tryz.prog (mEq .neq 3 (.tmp 52) (.const (.int .i64 0)) t52 (.int .i64 0)) w (pk K) E) w fun t53 w =>
 GDo t46 true (fun E => E t53 w) w fun t54 w =>
 GDo t54 false (fun E => DoX Tryz.prog (mFA 29 t1 1) w (pk K) E) w fun t55 w =>
 GDo t54 false (fun E => DoX Tryz.prog (mLoad 23 t55) w (pk K) E) w fun t56 w =>
 GDo t54 false (fun E => DoX Tryz.prog (mIA 23 t56 (.int .i64 0)) w (pk K) E) w fun t57 w =>
 GDo t54 false (fun E => DoX Tryz.prog (mFA 49 t57 3) w (pk K) E) w fun t58 w =>
 GDo t54 false (fun E => DoX Tryz.prog (mLoad 3 t58) w (pk K) E) w fun t59 w =>
 GDo t54 false (fun E => DoX Tryz.prog (mEq .neq 3 (.tmp 59) (.const (.int .i64 65535)) t59 (.int .i64 65535)) w (pk K) E) w fun t60 w =>
 GDo t46 true (fun E => DoX Tryz.prog (mPick t54 (.bool true) t60) w (pk K) E) w fun t61 w =>
 DoX Tryz.prog (mPick t46 t61 (.bool false)) w (pk K) fun t62 w =>
 IfX t62 (K (.returned (.tuple #[(.string ⟨#[]⟩),(.int .i64 1)])) w) (DoX Tryz.prog (mFA 29 t1 2) w (pk K) fun t63 w =>
 DoX Tryz.prog (mLoad 27 t63) w (pk K) fun t64 w =>
 CallX Tryz.prog 35 #[t64] w (pk K) fun t65 w =>
 DoX Tryz.prog (mEq .neq 30 (.tmp 66) (.const (.int .i64 0)) t65 (.int .i64 0)) w (pk K) fun t67 w =>
 IfX t67 (K (.returned (.tuple #[(.string ⟨#[]⟩),t65])) w) (DoX Tryz.prog (mFA 29 t1 2) w (pk K) fun t69 w =>
 DoX Tryz.prog (mFA 27 t69 0) w (pk K) fun t70 w =>
 DoX Tryz.prog (mLoad 3 t70) w (pk K) fun t71 w =>
 DoX Tryz.prog (mEq .neq 3 (.tmp 71) (.const (.int .i64 7)) t71 (.int .i64 7)) w (pk K) fun t72 w =>
 IfX t72 (K (.returned (.tuple #[(.string ⟨#[]⟩),(.int .i64 10)])) w) (DoX Tryz.prog (mBuildS 71 5 #[(0,(.int .u8 120)),(1,(.int .u8 114)),(2,(.int .u8 101)),(3,(.int .u8 102)),(4,(.int .u8 10))]) w (pk K) fun t73 w =>
 DoX Tryz.prog (mConv 71 71 t73) w (pk K) fun t74 w =>
 DoX Tryz.prog (mFA 29 t1 1) w (pk K) fun t75 w =>
 DoX Tryz.prog (mLoad 23 t75) w (pk K) fun t76 w =>
 CallX Tryz.prog 15 #[t76] w (pk K) fun t77 w =>
 LoopX [t74,(.int .i64 0),(.int .i64 0)] w (fun vs2 w N2 => ∀ _ : Sg,S_foliantref18_Text_1 t1 (vs2.getD 0 undef) (vs2.getD 1 undef) t77 (vs2.getD 2 undef) w N2 K)))))
def S_foliantref18_Text (t0 : Value) (w : World) (K : Ending→World→Prop) : Prop:=
 DoX Tryz.prog (mBox 29 t0) w (pk K) fun t1 w =>
 DoX Tryz.prog (mFA 29 t1 1) w (pk K) fun t15 w =>
 DoX Tryz.prog (mLoad 23 t15) w (pk K) fun t16 w =>
 CallX Tryz.prog 17 #[t16] w (pk K) fun t17 w =>
 DoX Tryz.prog (mEq .neq 30 (.tmp 18) (.const (.int .i64 0)) t17 (.int .i64 0)) w (pk K) fun t19 w =>
 IfX t19 (K (.returned (.tuple #[(.string ⟨#[]⟩),t17])) w) (LoopX [(.int .i64 0)] w (fun vs1 w N1 => ∀ _ : Sg,S_foliantref18_Text_0 t1 (vs1.getD 0 undef) w N1 K))
theorem S_foliantref18_Text_eq (t0 : Value) (w : World) (K : Ending→World→Prop) : wpX Tryz.prog 152 [(28,[12])] [(5,[5]),(19,[7,8,10]),(23,[7,8,11])] none (bodyOf Tryz.f13) (topQ Tryz.prog [.tmp 2,.tmp 3] K) (startX [t0]) [] w = S_foliantref18_Text t0 w K:=by kernel_rfl
theorem S_foliantref18_Text_ok {t0 : Value} {w : World} {K : Ending→World→Prop} (h : S_foliantref18_Text t0 w K) : Calls Tryz.prog 13 #[t0] w K:=
 calls_of_wpX Tryz.func13 rfl rfl rfl rfl (Eq.mpr (S_foliantref18_Text_eq t0 w K) h)
end Go.Proofs.YtjloddgofmdmgaaGreatDoor
namespace Go.Proofs.YtjloddgofmdmgaaGreatDoor
set_option maxRecDepth 20000
open Eng Go.RowKit
theorem tentry_ret (b : Nat) (s : List UInt8) (a num : Int) (w : World) (hs : s.length≤1099511627776) (hr : (trE b s a).is w) :
  Lend Tryz.prog 65 #[rdP b,.int .i64 num] (trE b s a) w (Tl.entry s a num≠none) (fun v e' => ∃ x t,Tl.entry s a num = some (x,t)∧v = slV x∧e' = trE b s t) [badT]:=by
 refine lend_of hr (fun K ho hret hpan => S_table_reader_entry_ok ?_)
 unfold S_table_reader_entry
 generalize hS0 : (trE b s a).blk = S0 at *
 have hE:=Tl.entry.eq_1 s a num
 refine o_sla ho fun b4 w1 ho => ?_
 rw [entry_num] at hE
 refine c_lend ho 1 rfl (tnext_ret b s a w1 hs (ho.at_ 1 rfl)) ?_ fun e2 w2 hn ho => ?_
 rotate_left
 ·rw [if_neg (fun h => hn h.1)] at hE
  exact hpan (fun h => h hE) e2 w2 _ ho.tail
 rintro _ _ w2 h1 ⟨rfl,rfl⟩ ho
 refine c_whole ho (fun hw1 w3 ho => ?_) fun hn w3 ho => ?_
 rotate_left
 ·rw [if_neg (fun h => hn h.2)] at hE
  exact hpan (fun h => h hE) _ w3 _ ho.tail
 rw [if_pos ⟨h1,hw1⟩] at hE
 simp only at hE
 generalize Lx.next s a = x1 at *
 rw [entry_num] at hE
 refine c_lend ho 1 rfl (tnext_ret b s x1.1.t w3 hs (ho.at_ 1 rfl)) ?_ fun e2 w4 hn ho => ?_
 rotate_left
 ·rw [if_neg (fun h => hn h.1)] at hE
  exact hpan (fun h => h hE) e2 w4 _ ho.tail
 rintro _ _ w4 h2 ⟨rfl,rfl⟩ ho
 refine c_whole ho (fun hw2 w5 ho => ?_) fun hn w5 ho => ?_
 rotate_left
 ·rw [if_neg (fun h => hn h.2)] at hE
  exact hpan (fun h => h hE) _ w5 _ ho.tail
 rw [if_pos ⟨h2,hw2⟩] at hE
 simp only at hE
 generalize Lx.next s x1.1.t = x2 at *
 rw [m_sl3]
 refine o_sla ho fun b5 w6 ho => ?_
 refine sl_put (y:=⟨num,0,x1.1.n,x2.1.n⟩) 0 ho rfl fun w7 ho => ?_
 have ho : OwnS S0 w w7 [slE b5 ⟨num,0,x1.1.n,x2.1.n⟩,slE b4 sl0,trE b s x2.1.t]:=ho
 unfold Tl.word at hE
 refine c_lend ho 2 rfl (tnext_ret b s x2.1.t w7 hs (ho.at_ 2 rfl)) ?_ fun e2 w8 hn ho => ?_
 rotate_left
 ·rw [if_neg (fun h => hn h.1),if_neg (fun h => hn h.1)] at hE
  exact hpan (fun h => h hE) e2 w8 _ ho.tail.tail
 rintro _ _ w8 h3 ⟨rfl,rfl⟩ ho
 generalize Lx.next s x2.1.t = x3 at *
 refine o_tok ho fun b6 w9 ho => ?_
 refine tk_put 0 ho rfl fun w10 ho => ?_
 have ho : OwnS S0 w w10 [tokE b6 x3.1,slE b5 ⟨num,0,x1.1.n,x2.1.n⟩,slE b4 sl0,trE b s x3.1.t]:=ho
 have fin : ∀ {q : Bool},(q = true ↔ (x3.1.k = 5∧(x3.1.s = [110]∨x3.1.s = [102])))→CallX Tryz.prog 43 #[.bool q] w10 (pk K) fun t30 w =>
   JoinX (fun J1 =>
 DoX Tryz.prog (mFA 90 (.pointer (some ⟨b6,0,none⟩)) 4) w (pk K) fun t31 w =>
 DoX Tryz.prog (mLoad 9 t31) w (pk K) fun t32 w =>
 DoX Tryz.prog (mEq .eql 9 (.tmp 32) (.const (.string ⟨#[110]⟩)) t32 (.string ⟨#[110]⟩)) w (pk K) fun t33 w =>
 IfX t33 (DoX Tryz.prog (mFA 49 (.pointer (some ⟨b5,0,none⟩)) 1) w (pk K) fun t34 w =>
 DoX Tryz.prog (mStore 3 t34 (.int .i64 1)) w (pk K) fun _ w =>
 J1 [] w) (J1 [] w)) (fun vs1 W' => ∀ _ : Sg,S_table_reader_entry_0 (.pointer (some ⟨b4,0,none⟩)) (.pointer (some ⟨b5,0,none⟩)) W' K):=by
  intro q hq
  refine c_tmust (fun hqt => ?_) fun hqf => ?_
  rotate_left
  ·have hno : ¬ (x3.1.k = 5∧(x3.1.s = [110]∨x3.1.s = [102])):=fun h => by rw [hq.2 h] at hqf;cases hqf
   rw [if_neg (fun h => hno ⟨h.2.1,.inl h.2.2⟩),if_neg (fun h => hno ⟨h.2.1,.inr h.2.2⟩)] at hE
   exact hpan (fun h => h hE) _ w10 _ ho.tail.tail.tail
  obtain⟨k5,hs5⟩:=hq.1 hqt
  refine join fun J hJ => ?_
  have done : ∀ {W : World} {x : Slt},OwnS S0 w W [tokE b6 x3.1,slE b5 x,slE b4 sl0,trE b s x3.1.t]→Tl.entry s a num = some (x,x3.1.t)→J [] W:=by
   intro W x ho he
   refine hJ _ _ fun _ => ?_
   unfold S_table_reader_entry_0
   rw [sl_v ho 1 rfl]
   refine sl_put (y:=x) 2 ho rfl fun w12 ho => ?_
   refine ret_v1 (rv_cell (ho.agg 2 rfl aggSl)) ?_
   exact hret (by rw [he];simp) _ _ w12 _ ho.tail.tail.tail ⟨x,x3.1.t,he,rfl,rfl⟩
  rw [fa_t4',tk_s ho 0 rfl]
  simp only [rs]
  by_cases h110 : x3.1.s = [110]
  ·rw [if_pos ⟨h3,k5,h110⟩] at hE
   simp only [decide_eq_true h110,i_t]
   rw [fa_s1']
   refine o_store 1 ho rfl (by kernel_rfl) rfl (show 0 + 1 < 4 by omega) fun w11 ho => ?_
   exact done (x:=⟨num,1,x1.1.n,x2.1.n⟩) ho hE
  ·have h102 : x3.1.s = [102]:=hs5.resolve_left h110
   rw [if_neg (fun h => h110 h.2.2),if_pos ⟨h3,k5,h102⟩] at hE
   simp only [decide_eq_false h110,i_f]
   exact done ho hE
 by_cases k5 : x3.1.k = 5
 ·by_cases h110 : x3.1.s = [110]
  ·simp only [fa_t0,tk_k ho 0 rfl,rs,decide_eq_true k5,fa_t4',tk_s ho 0 rfl,decide_eq_true h110,g_un]
   simp only [rs,fa_t4',tk_s ho 0 rfl,decide_eq_true h110] at fin
   exact fin (by simp [k5,h110])
  ·simp only [fa_t0,tk_k ho 0 rfl,rs,decide_eq_true k5,fa_t4',tk_s ho 0 rfl,decide_eq_false h110,g_un]
   simp only [rs,fa_t4',tk_s ho 0 rfl,decide_eq_false h110] at fin
   exact fin (by simp [k5,h110])
 ·simp only [fa_t0,tk_k ho 0 rfl,rs,decide_eq_false k5,fa_t4',tk_s ho 0 rfl,g_un]
  simp only [rs,fa_t4',tk_s ho 0 rfl] at fin
  exact fin (by simp [k5])
end Go.Proofs.YtjloddgofmdmgaaGreatDoor
namespace Go.Proofs.YtjloddgofmdmgaaGreatDoor
namespace Eng
open Go.RowKit
section
variable {α : Type} {enc : α→List Value} {k : Nat}
theorem flat_len (hk : ∀ x,(enc x).length = k) : ∀ l : List α,(l.flatMap enc).length = l.length * k
 | [] => by simp
 | x :: l => by rw [List.flatMap_cons,List.length_append,hk,flat_len hk l,List.length_cons,Nat.succ_mul];omega
theorem flat_take (hk : ∀ x,(enc x).length = k) : ∀ (l : List α) (j : Nat),(l.flatMap enc).take (j * k) = (l.take j).flatMap enc
 | [],j => by simp
 | x :: l,0 => by simp
 | x :: l,j + 1 => by
  rw [List.flatMap_cons,List.take_succ_cons,List.flatMap_cons,Nat.succ_mul,Nat.add_comm,List.take_append,hk,List.take_of_length_le (by rw [hk];omega),Nat.add_sub_cancel_left,flat_take hk l j]
theorem flat_drop (hk : ∀ x,(enc x).length = k) : ∀ (l : List α) (j : Nat),(l.flatMap enc).drop (j * k) = (l.drop j).flatMap enc
 | [],j => by simp
 | x :: l,0 => by simp
 | x :: l,j + 1 => by
  rw [List.flatMap_cons,List.drop_succ_cons,Nat.succ_mul,Nat.add_comm,List.drop_append,hk,List.drop_eq_nil_of_le (by rw [hk];omega),Nat.add_sub_cancel_left,flat_drop hk l j,List.nil_append]
theorem flat_get (hk : ∀ x,(enc x).length = k) {l : List α} {j : Nat} (hj : j < l.length) {i : Nat} {v : Value} (h : (enc l[j])[i]? = some v) : (l.flatMap enc)[j * k + i]? = some v:=by
 have h1 : ((l.flatMap enc).drop (j * k))[i]? = some v:=by
  rw [flat_drop hk,List.drop_eq_getElem_cons hj,List.flatMap_cons,List.getElem?_append_left (List.getElem?_eq_some_iff.1 h).1]
  exact h
 rwa [List.getElem?_drop] at h1
abbrev Ent.recs (T : TypeId) (enc : α→List Value) (k : Nat) (v : Value) (l : List α) : Ent:=.urow T k v l.length (l.flatMap enc)
variable {S : Nat→Prop} {P : Program} {w w0 : World} {L : List Ent} {PK PK2 : List PanicEntry→World→Prop} {K : Value→World→Prop}
theorem rec_row (hk : ∀ x,(enc x).length = k) {T E : TypeId} (ht : P.underlying T = some (.slice E)) (hz : (P.info? E).map (·.size) = some k) (ha : aggN P E = some k) (i : Nat) {v : Value} {l : List α} (ho : OwnS S w0 w L) (hi : L[i]? = some (.recs E enc k v l)) {j : Nat} (hj : j < l.length) :
  ∃ g cap,v = .slice (some ⟨g,0,none⟩) l.length cap∧(∀ w,(mIA T v (.int .i64 (j : Int))).run P w = .ok (.value (.pointer (some ⟨g,j * k,none⟩))) w) ∧
   (∀ w',(Ent.recs E enc k v l).is w'→(mLoad E (.pointer (some ⟨g,j * k,none⟩))).run P w' = .ok (.value (.agg (enc l[j]).toArray)) w') ∧
   ∀ w',(Ent.recs E enc k v l).is w'→∀ m u,(enc l[j])[m]? = some u→w'.cell? ⟨g,j * k + m,none⟩ = some u:=by
 obtain⟨g,cap,rfl⟩:=urow_open (ho.at_ i hi) (by omega)
 have hcell : ∀ w',(Ent.recs E enc k (.slice (some ⟨g,0,none⟩) l.length cap) l).is w'→∀ m u,(enc l[j])[m]? = some u→w'.cell? ⟨g,j * k + m,none⟩ = some u:=by
  intro w' h m u hm
  obtain⟨b,off,cap',e,hc⟩:=sl_open (Sl.urow h) (by omega)
  cases e
  have:=hc _ _ (flat_get hk hj hm)
  rwa [Nat.zero_add] at this
 refine⟨g,cap,rfl,fun w => ?_,fun w' h => ?_,hcell⟩
 ·refine (run_ia ht hz (by omega) (by omega)).trans ?_
  rw [Int.toNat_natCast,Nat.zero_add]
 ·exact run_load_at (AtV.agg ha (hk _) fun m u hm => hcell w' h m u hm)
end
end Eng
end Go.Proofs.YtjloddgofmdmgaaGreatDoor
namespace Go.Proofs.YtjloddgofmdmgaaGreatDoor
open Go
namespace Lx
open Oc
end Lx
namespace Tl
open Lx (Tok Single skip)
open Ps (At Toks)
def sp : List UInt8:=[32]
def nl : List UInt8:=[10]
def spnl : List UInt8:=[32,10]
abbrev Pc:=List UInt8 × List UInt8
def cat (l : List Pc) : List UInt8:=l.flatMap fun p => p.1++p.2
def kindW (x : Slt) : List UInt8:=if x.kind = 1 then [110] else [102]
def slotPc (x : Slt) : List Pc:=[(Pl.pad x.a 10,sp),(Pl.pad x.b 5,sp),(kindW x,spnl)]
def groupsG : List Slt→List Slt→List (List Slt)
 | cur,[] => if cur = [] then [] else [cur]
 | cur,x :: l => match cur.getLast? with
  | none => groupsG [x] l
  | some y => if y.num < x.num∧x.num - 1 = y.num then groupsG (cur++[x]) l else cur :: groupsG [x] l
def groups (l : List Slt) : List (List Slt):=groupsG [] l
def first (g : List Slt) : Int:=(g.head?.map (·.num)).getD 0
def run (g : List Slt) : Int × Int:=(first g,(g.length : Int))
def runs (l : List Slt) : List (Int × Int):=(groups l).map run
def groupPc (g : List Slt) : List Pc:=[(Lib.itoa (first g),sp),(Lib.itoa g.length,nl)]++g.flatMap slotPc
def headPc (l : List Slt) : List Pc:=[(xrefW,nl)]++(groups l).flatMap groupPc++[(trailW,nl)]
def refuse (l : List Slt) (o : Ob) : Int:=
 if check l≠0 then check l
 else if l.any (fun x => decide (x.kind = 2)) then 10
 else if l.any (fun x => decide (x.num = 0) && (decide (x.kind≠0) || decide (x.b≠65535))) then 1
 else if Vl.check 1 o≠0 then Vl.check 1 o else if o.k≠7 then 10 else 0
def text (l : List Slt) (o : Ob) : List UInt8 × Int:=if refuse l o≠0 then ([],refuse l o) else (cat (headPc l)++(Pl.join (Wr.parts o)++nl),0)
end Tl
end Go.Proofs.YtjloddgofmdmgaaGreatDoor
namespace Go.Proofs.YtjloddgofmdmgaaGreatDoor
open Go
namespace Tl
open Lx (Tok Single skip next)
open Ps (At Toks)
structure OkS (x : Slt) : Prop where
 n0 : 0≤x.num
 n1 : x.num≤8191
 kind : x.kind = 0∨x.kind = 1
 a0 : 0≤x.a
 a1 : x.a≤2147483647
 b0 : 0≤x.b
 b1 : x.b≤65535
theorem okS_of {x : Slt} (h : okS x = 0) (h2 : x.kind≠2) : OkS x:=by
 unfold okS at h
 split at h
 ·omega
 split at h
 ·omega
 split at h
 ·omega
 exact⟨by omega,by omega,by omega,by omega,by omega,by omega,by omega⟩
def RiseS (l : List Slt) : Prop:=l.Pairwise fun a b => a.num < b.num
theorem checkG_ok : ∀ {l : List Slt} {last : Option Int},checkG last l = 0→(∀ x ∈ l,okS x = 0)∧RiseS l∧∀ n,last = some n→∀ x ∈ l,n < x.num
 | [],_,_ => ⟨by simp,List.Pairwise.nil,by simp⟩
 | x :: l,last,h => by
  rw [checkG] at h
  split at h
  ·rename_i h1;exact absurd h h1
  rename_i h1
  split at h
  ·omega
  rename_i h2
  split at h
  ·omega
  rename_i h3
  obtain⟨i1,i2,i3⟩:=checkG_ok h
  have i3:=i3 x.num rfl
  have hlast : ∀ n,last = some n→n < x.num:=by
   intro n hn
   subst hn
   simp at h2 h3
   omega
  refine⟨fun y hy => ?_,List.pairwise_cons.2 ⟨i3,i2⟩,fun n hn y hy => ?_⟩
  ·rcases List.mem_cons.1 hy with rfl | hy
   ·exact Classical.not_not.1 h1
   ·exact i1 y hy
  ·have h0:=hlast n hn
   rcases List.mem_cons.1 hy with rfl | hy
   ·exact h0
   ·have:=i3 y hy;omega
theorem refuse_ok {l : List Slt} {o : Ob} (h : refuse l o = 0) : (∀ x ∈ l,OkS x)∧RiseS l∧Vl.check 1 o = 0∧o.k = 7:=by
 unfold refuse at h
 split at h
 ·rename_i h1;exact absurd h h1
 rename_i h1
 obtain⟨c1,c2,-⟩:=checkG_ok (Classical.not_not.1 h1)
 split at h
 ·omega
 rename_i h2
 split at h
 ·omega
 split at h
 ·rename_i h4;exact absurd h h4
 rename_i h4
 split at h
 ·omega
 rename_i h5
 refine⟨fun x hx => okS_of (c1 x hx) ?_,c2,Classical.not_not.1 h4,Classical.not_not.1 h5⟩
 intro e
 exact h2 (List.any_eq_true.2 ⟨x,hx,by simp [e]⟩)
def FromN : Int→List Slt→Prop
 | _,[] => True
 | n,x :: l => x.num = n∧FromN (n + 1) l
theorem fromN_snoc : ∀ {l : List Slt} {n : Int} {x : Slt},FromN n (l++[x]) ↔ FromN n l∧x.num = n + l.length
 | [],n,x => by simp [FromN]
 | y :: l,n,x => by
  rw [List.cons_append,FromN,fromN_snoc,FromN,List.length_cons]
  constructor
  ·rintro⟨a,b,c⟩;exact⟨⟨a,b⟩,by omega⟩
  ·rintro⟨⟨a,b⟩,c⟩;exact⟨a,b,by omega⟩
theorem fromN_last {l : List Slt} {n : Int} {y : Slt} (h : FromN n l) (hy : l.getLast? = some y) : y.num = n + l.length - 1:=by
 obtain⟨m,rfl⟩ : ∃ m,l = m++[y]:=by
  have:=List.getLast?_eq_some_iff.1 hy
  exact this
 have:=(fromN_snoc.1 h).2
 simp;omega
def Grp (g : List Slt) : Prop:=g≠[]∧FromN (first g) g
theorem groupsG_ok : ∀ (l cur : List Slt),(cur = []∨Grp cur)→(groupsG cur l).flatten = cur++l∧∀ g ∈ groupsG cur l,Grp g
 | [],cur,h => by
  rw [groupsG]
  split
  ·rename_i hc;subst hc;simp
  ·rename_i hc
   rcases h with h | h
   ·exact absurd h hc
   ·simp [h]
 | x :: l,cur,h => by
  rw [groupsG]
  have hx : Grp [x]:=⟨by simp,by simp [FromN,first]⟩
  cases hg : cur.getLast? with
  | none =>
   have hc : cur = []:=List.getLast?_eq_none_iff.1 hg
   subst hc
   obtain⟨a,b⟩:=groupsG_ok l [x] (.inr hx)
   simp only
   exact⟨by rw [a];rfl,b⟩
  | some y =>
   have hc : cur≠[]:=fun e => by rw [e] at hg;cases hg
   have hcg : Grp cur:=h.resolve_left hc
   simp only
   split
   ·rename_i h1
    have hf : Grp (cur++[x]):=by
     refine⟨by simp,?_⟩
     have e : first (cur++[x]) = first cur:=by
      cases cur with
      | nil => exact absurd rfl hc
      | cons _ _ => rfl
     rw [e]
     have:=fromN_last hcg.2 hg
     exact fromN_snoc.2 ⟨hcg.2,by omega⟩
    obtain⟨a,b⟩:=groupsG_ok l (cur++[x]) (.inr hf)
    exact⟨by rw [a];simp,b⟩
   ·obtain⟨a,b⟩:=groupsG_ok l [x] (.inr hx)
    refine⟨by rw [List.flatten_cons,a];simp,fun g hgm => ?_⟩
    rcases List.mem_cons.1 hgm with rfl | hgm
    ·exact hcg
    ·exact b g hgm
theorem groups_ok (l : List Slt) : (groups l).flatten = l∧∀ g ∈ groups l,Grp g:=by
 have:=groupsG_ok l [] (.inl rfl)
 simpa [groups] using this
theorem nDigits_le : ∀ (k u : Nat),1≤k→u < 10 ^ k→Lib.nDigits u≤k
 | 0,_,h,_ => by omega
 | 1,u,_,h => by rw [Lib.nDigits_small (by simpa using h)];omega
 | k + 2,u,_,h => by
  by_cases h1 : u < 10
  ·rw [Lib.nDigits_small h1];omega
  ·rw [Lib.nDigits_big h1]
   have:=nDigits_le (k + 1) (u / 10) (by omega) (by
    rw [Nat.pow_succ] at h
    omega)
   omega
theorem itoa_len {n : Int} (h0 : 0≤n) (h1 : n≤2147483647) : (Lib.itoa n).length≤10:=by
 obtain⟨u,rfl⟩ : ∃ u : Nat,n = u:=⟨n.toNat,by omega⟩
 unfold Lib.itoa
 rw [if_neg (by omega),Int.toNat_natCast,Lib.decDigits_length]
 exact nDigits_le 10 u (by omega) (by omega)
theorem itoa_len5 {n : Int} (h0 : 0≤n) (h1 : n≤65535) : (Lib.itoa n).length≤5:=by
 obtain⟨u,rfl⟩ : ∃ u : Nat,n = u:=⟨n.toNat,by omega⟩
 unfold Lib.itoa
 rw [if_neg (by omega),Int.toNat_natCast,Lib.decDigits_length]
 exact nDigits_le 5 u (by omega) (by omega)
theorem grp_last {g : List Slt} (h : Grp g) : ∃ x ∈ g,x.num = first g + g.length - 1:=by
 obtain⟨h1,h2⟩:=h
 cases hg : g.getLast? with
 | none => exact absurd (List.getLast?_eq_none_iff.1 hg) h1
 | some y => exact⟨y,List.mem_of_getLast? hg,fromN_last h2 hg⟩
end Tl
end Go.Proofs.YtjloddgofmdmgaaGreatDoor
namespace Go.Proofs.YtjloddgofmdmgaaGreatDoor
set_option maxRecDepth 20000
open Eng Go.RowKit
theorem slC_len (x : Slt) : (slC x).length = 4:=rfl
abbrev slsE (v : Value) (l : List Slt) : Ent:=.recs 49 slC 4 v l
theorem elSl : elB Tryz.prog 49 4 32 = true:=by kernel_rfl
section
variable {w : World} {PK : List PanicEntry→World→Prop} {K : Value→World→Prop} {S : Nat→Prop} {w0 : World} {L : List Ent}
theorem o_sls1 (x : Slt) (ho : OwnS S w0 w L) (k : ∀ b w',OwnS S w0 w' (slE b x :: L)→K (.slice (some ⟨b,0,none⟩) 1 1) w') : DoX Tryz.prog (mBuildS 23 1 #[(0,slV x)]) w PK K:=
 o_new (fun b => .slice (some ⟨b,0,none⟩) 1 1) (slC x) 49 (fun _ => by kernel_rfl) ho k
theorem o_apSl (i : Nat) {v : Value} {l : List Slt} {x : Slt} {cb : Array Bool} {PK2 : List PanicEntry→World→Prop} (ho : OwnS S w0 w L) (hi : L[i]? = some (slsE v l)) (hb : l.length≤1000000000)
  (k : ∀ v' w',OwnS S w0 w' (L.set i (slsE v' (l++[x])))→K v' w') :
  DoX Tryz.prog (mBuildS 23 1 #[(0,slV x)]) w PK fun t w => DoX Tryz.prog (mB .append #[23,23] 23 cb #[v,t]) w PK2 K:=by
 refine o_sls1 x ho fun nb w1 ho => ?_
 refine o_appendU (i + 1) Tryz.underlying23 elSl (by decide) ho (by rw [List.getElem?_cons_succ];exact hi) (ho.sl 0 rfl 4 1 1 rfl) (slC_one x) (by omega) (by omega) fun v' w2 ho => k v' w2 ?_
 have e : slsE v' (l++[x]) = .urow 49 4 v' (l.length + 1) (l.flatMap slC++slC x):=by
  rw [slsE,Ent.recs,List.length_append,List.flatMap_append];simp
 rw [e]
 exact ho.tail
end
end Go.Proofs.YtjloddgofmdmgaaGreatDoor
namespace Go.Proofs.YtjloddgofmdmgaaGreatDoor
set_option maxRecDepth 20000
open Eng Go.RowKit
theorem tleads_calls (o : Ob) (v : Value) (k : List UInt8) (w : World) (K : Ending→World→Prop) (hw : o.wt≤100000000000) (hv : OV (InW w) w v o)
  (h1 : ∀ n,Tl.leads o k = some n→∀ w',Below w.heap.size w w'→K (.returned (.int .i64 n)) w') (h2 : Tl.leads o k = none→∀ w',Below w.heap.size w w'→K (.panicked [badT]) w') :
  Calls Tryz.prog 48 #[v,.string ⟨k.toArray⟩] w K:=by
 obtain⟨vk,vc,cs,rfl,ha⟩:=hv.open
 refine S_table_leads_ok ?_
 unfold S_table_leads
 refine o_obb o ha.keys.one ha.kids.one (Own.start w) fun b2 w1 ho => ?_
 rw [ob_v ho 0 rfl]
 have hv1 : OV (Mem.all w1).A (Mem.all w1).w (obV o vk vc) o:=hv.at_ ho
 refine c_ret (vget_ret o _ k (Mem.all w1) w1 hw (Mem.all_has w1) hv1) ?_
 rintro _ w2 ⟨N,g,v1,rfl,hg⟩
 have ho:=ho.grow g.below
 unfold Tl.leads at h1 h2
 obtain⟨k1,c1,cs1,rfl,ha1⟩:=hg.open
 simp only [getV,ex]
 refine o_oba ho fun b5 w3 ho => ?_
 refine ob_put 0 ha1.keys.one ha1.kids.one ho rfl fun w4 ho => ?_
 cases hget : Vl.get o k with
 | none =>
  rw [hget] at h1
  simp only [Option.isSome_none,rs,Bool.not_false]
  exact h1 (-1) rfl _ ho.done
 | some u =>
  rw [hget] at h1 h2 ho
  simp only [Option.getD_some] at ho
  have ho : Own w w4 [obE b5 u k1 c1,obE b2 o vk vc]:=ho
  simp only [Option.isSome_some,rs,Bool.not_true]
  have fin : ∀ {q : Bool},(q = true ↔ (u.k = 2∧0≤u.n))→CallX Tryz.prog 43 #[.bool q] w4 (pk K) fun t23 w => DoX Tryz.prog (mFA 27 (.pointer (some ⟨b5,0,none⟩)) 1) w (pk K) fun t24 w => DoX Tryz.prog (mLoad 2 t24) w (pk K) fun t25 w => K (.returned t25) w:=by
   intro q hq
   refine c_tmust (fun h => ?_) fun h => ?_
   ·rw [fa_o1,ob_n ho 0 rfl]
    exact h1 u.n (by simp only;rw [if_pos (hq.1 h)]) _ ho.done
   ·refine h2 ?_ _ ho.done
    simp only
    rw [if_neg fun hn => by rw [hq.2 hn] at h;cases h]
  by_cases e1 : u.k = 2
  ·simp only [rs,fa_o0,ob_k ho 0 rfl,decide_eq_true e1,fa_o1,ob_n ho 0 rfl]
   simp only [fa_o1,ob_n ho 0 rfl] at fin
   exact fin (by simp [e1])
  ·simp only [rs,fa_o0,ob_k ho 0 rfl,decide_eq_false e1,fa_o1,ob_n ho 0 rfl,g_un]
   simp only [fa_o1,ob_n ho 0 rfl] at fin
   exact fin (by simp [e1])
end Go.Proofs.YtjloddgofmdmgaaGreatDoor
namespace Go.Proofs
open Go.Shelf
def Tryz.sortSlot_ren : Go.Shelf.Ren:=⟨fun | 6 => 66 | 15 => 115 | 14 => 114 | 28 => 177 | 29 => 178 | 20 => 169 | 21 => 170 | 22 => 171 | 23 => 172 | 24 => 173 | 25 => 174 | 26 => 175 | 27 => 176 | 46 => 220 | 47 => 221 | 48 => 222 | 49 => 223 | 50 => 224 | 57 => 247 | n => n,fun | 22 => 23 | 24 => 49 | 25 => 115 | 3 => 3 | 39 => 139 | 0 => 0 | 53 => 178 | 55 => 173 | 4 => 4 | 46 => 194 | 45 => 193 | 50 => 57 | 5 => 5 | 9 => 9 | 66 => 220 | 70 => 224 | 76 => 245 | 77 => 246 | n => n,fun | n => n⟩
theorem Tryz.sortSlot : Go.Proofs.SlLaysF0.n6 Tryz.prog Tryz.sortSlot_ren:={
 mixed:=by kernel_rfl
 f6:=⟨Tryz.f66.name,by decide,Tryz.func66.trans (congrArg some (by kernel_rfl))⟩
 f14:=⟨Tryz.f114.name,by decide,Tryz.func114.trans (congrArg some (by kernel_rfl))⟩
 f15:=Tryz.func115.trans (congrArg some (by kernel_rfl))
 f20:=⟨Tryz.f169.name,by decide,Tryz.func169.trans (congrArg some (by kernel_rfl))⟩
 f21:=⟨Tryz.f170.name,by decide,Tryz.func170.trans (congrArg some (by kernel_rfl))⟩
 f22:=⟨Tryz.f171.name,by decide,Tryz.func171.trans (congrArg some (by kernel_rfl))⟩
 f23:=⟨Tryz.f172.name,by decide,Tryz.func172.trans (congrArg some (by kernel_rfl))⟩
 f24:=⟨Tryz.f173.name,by decide,Tryz.func173.trans (congrArg some (by kernel_rfl))⟩
 f25:=⟨Tryz.f174.name,by decide,Tryz.func174.trans (congrArg some (by kernel_rfl))⟩
 f26:=⟨Tryz.f175.name,by decide,Tryz.func175.trans (congrArg some (by kernel_rfl))⟩
 f27:=⟨Tryz.f176.name,by decide,Tryz.func176.trans (congrArg some (by kernel_rfl))⟩
 f28:=Tryz.func177.trans (congrArg some (by kernel_rfl))
 f29:=Tryz.func178.trans (congrArg some (by kernel_rfl))
 f46:=⟨Tryz.f220.name,by decide,Tryz.func220.trans (congrArg some (by kernel_rfl))⟩
 f47:=Tryz.func221.trans (congrArg some (by kernel_rfl))
 f48:=Tryz.func222.trans (congrArg some (by kernel_rfl))
 f49:=⟨Tryz.f223.name,by decide,Tryz.func223.trans (congrArg some (by kernel_rfl))⟩
 f50:=⟨Tryz.f224.name,by decide,Tryz.func224.trans (congrArg some (by kernel_rfl))⟩
 f57:=⟨Tryz.f247.name,by decide,Tryz.func247.trans (congrArg some (by kernel_rfl))⟩
 t0:=Tryz.underlying0
 a0:=Tryz.isAgg0
 z0:=Tryz.sizeOf0
 v0:=Tryz.zeroValue0
 t3:=Tryz.underlying3
 a3:=Tryz.isAgg3
 z3:=Tryz.sizeOf3
 v3:=Tryz.zeroValue3
 t4:=Tryz.underlying4
 a4:=Tryz.isAgg4
 z4:=Tryz.sizeOf4
 v4:=Tryz.zeroValue4
 t5:=Tryz.underlying5
 a5:=Tryz.isAgg5
 z5:=Tryz.sizeOf5
 v5:=Tryz.zeroValue5
 t9:=Tryz.underlying9
 a9:=Tryz.isAgg9
 z9:=Tryz.sizeOf9
 v9:=Tryz.zeroValue9
 t22:=Tryz.underlying23
 a22:=Tryz.isAgg23
 z22:=Tryz.sizeOf23
 v22:=Tryz.zeroValue23
 t25:=Tryz.underlying115
 a25:=Tryz.isAgg115
 z25:=Tryz.sizeOf115
 v25:=Tryz.zeroValue115
 t39:=Tryz.underlying139
 a39:=Tryz.isAgg139
 z39:=Tryz.sizeOf139
 v39:=Tryz.zeroValue139
 t45:=Tryz.underlying193
 a45:=Tryz.isAgg193
 z45:=Tryz.sizeOf193
 v45:=Tryz.zeroValue193
 t46:=Tryz.underlying194
 a46:=Tryz.isAgg194
 z46:=Tryz.sizeOf194
 v46:=Tryz.zeroValue194
 t50:=Tryz.underlying57
 a50:=Tryz.isAgg57
 z50:=Tryz.sizeOf57
 v50:=Tryz.zeroValue57
 t53:=Tryz.underlying178
 a53:=Tryz.isAgg178
 z53:=Tryz.sizeOf178
 v53:=Tryz.zeroValue178
 t55:=Tryz.underlying173
 a55:=Tryz.isAgg173
 z55:=Tryz.sizeOf173
 v55:=Tryz.zeroValue173
 t66:=Tryz.underlying220
 a66:=Tryz.isAgg220
 z66:=Tryz.sizeOf220
 v66:=Tryz.zeroValue220
 t70:=Tryz.underlying224
 a70:=Tryz.isAgg224
 z70:=Tryz.sizeOf224
 v70:=Tryz.zeroValue224
 t76:=Tryz.underlying245
 a76:=Tryz.isAgg245
 z76:=Tryz.sizeOf245
 v76:=Tryz.zeroValue245
 t77:=Tryz.underlying246
 a77:=Tryz.isAgg246
 z77:=Tryz.sizeOf246
 v77:=Tryz.zeroValue246 }
end Go.Proofs
namespace Go.Proofs.YtjloddgofmdmgaaGreatDoor
set_option maxRecDepth 20000
open Eng Go.RowKit
theorem flatK_eq {α : Type} [Inhabited α] {enc : α→List Value} {k : Nat} (hk : ∀ x,(enc x).length = k) (d : Array α) : (Go.Sort.flatK enc k d).toList = d.toList.flatMap enc:=by
 apply List.ext_getElem?
 intro t
 by_cases ht : t < d.size * k
 ·have hk0 : 0 < k:=by
   rcases Nat.eq_zero_or_pos k with h | h
   ·subst h;simp at ht
   ·exact h
  have hj : t / k < d.size:=Nat.div_lt_of_lt_mul (by rwa [Nat.mul_comm] at ht)
  have hi : t % k < k:=Nat.mod_lt _ hk0
  have hs : t < (Go.Sort.flatK enc k d).size:=by rw [Go.Sort.size_flatK];exact ht
  have h1:=Go.Sort.get_flatK enc k d t ht
  rw [getElem!_pos _ t hs] at h1
  rw [Array.getElem?_toList,Array.getElem?_eq_getElem hs,h1]
  have hj' : t / k < d.toList.length:=by simpa using hj
  have hi' : t % k < (enc d.toList[t / k]).length:=by rw [hk];exact hi
  have h2:=Eng.flat_get hk hj' (List.getElem?_eq_getElem hi')
  rw [Nat.div_add_mod'] at h2
  rw [h2]
  congr 1
  rw [getElem!_pos d _ hj,getElem!_pos _ _ (by rw [hk];exact hi)]
  rfl
 ·rw [List.getElem?_eq_none (by simp;omega),List.getElem?_eq_none (by rw [flat_len hk];simp;omega)]
theorem row_grow {T : TypeId} {sz g n cap m : Nat} {w : World} {cur : Array Value} {xs : List Value} {os : Array Obj} (F : Array Value) (hg : w.heap[g]? = some (.cells cur T (0,0))) (hnc : n≤cap) (hcm : cap≤maxLen) (hcs : cur.size = cap * sz) (hF : F.size = n * sz) :
  Turn (.urow T sz (.slice (some ⟨g,0,none⟩) n cap) n xs) (.urow T sz (.slice (some ⟨g,0,none⟩) n cap) n F.toList) w (Go.Sort.grow (Go.Sort.putRow id (Go.Sort.ahead w m) g 0 F) os):=by
 have hle : n * sz≤cur.size:=by rw [hcs];exact Nat.mul_le_mul_right _ hnc
 have hheap : ∀ k,k < w.heap.size→(Go.Sort.grow (Go.Sort.putRow id (Go.Sort.ahead w m) g 0 F) os).heap[k]? = (if g = k then (w.heap[k]?).map (Go.Sort.onCells (Go.Sort.putCells id 0 F)) else w.heap[k]?):=by
  intro k hk
  show ((w.heap.modify g _)++os)[k]? = _
  rw [Array.getElem?_append_left (by simpa using hk),Array.getElem?_modify]
 refine⟨⟨rfl,rfl,rfl,?_,fun k hk hn => ?_⟩,?_,fun k hk => .inl hk⟩
 ·show w.heap.size≤((w.heap.modify g _)++os).size
  simp
 ·have hne : g≠k:=fun e => hn (by subst e;rfl)
  exact (hheap k hk).trans (if_neg hne)
 ·show (World.ownsRow _ 0 T sz _ n F.toList)
  refine⟨by simpa using hF,.inr ⟨g,cap,Go.Sort.putCells id 0 F cur,rfl,Nat.zero_le _,?_,hnc,hcm,?_,?_⟩⟩
  ·have:=hheap g (lt_of_get hg)
   rw [if_pos rfl,hg] at this
   exact this
  ·simp [Go.Sort.putCells,hcs]
  ·apply List.ext_getElem?
   intro j
   rw [List.getElem?_take]
   by_cases hj : j < n * sz
   ·have hjc : j < cur.size:=by omega
    have hjF : j < F.size:=by omega
    rw [if_pos hj,Array.getElem?_toList,Array.getElem?_toList]
    unfold Go.Sort.putCells
    rw [Array.getElem?_mapIdx,Array.getElem?_eq_getElem hjc,Option.map_some,if_pos ⟨by omega,by omega⟩,Nat.sub_zero,getElem!_pos F j hjF,Array.getElem?_eq_getElem hjF]
    rfl
   ·rw [if_neg hj,List.getElem?_eq_none (by simp;omega)]
theorem rise_inj {l : List Slt} (hr : Tl.RiseS l) {a b : Slt} (ha : a ∈ l) (hb : b ∈ l) (h : a.num = b.num) : a = b:=by
 obtain⟨i,hi,rfl⟩:=List.getElem_of_mem ha
 obtain⟨j,hj,rfl⟩:=List.getElem_of_mem hb
 rcases Nat.lt_trichotomy i j with h1 | h1 | h1
 ·have:=List.pairwise_iff_getElem.1 hr i j hi hj h1;omega
 ·subst h1;rfl
 ·have:=List.pairwise_iff_getElem.1 hr j i hj hi h1;omega
abbrev SltS : Type:={ x : Slt // -4611686018427387904≤x.num∧x.num < 4611686018427387904 }
def cmpS (x y : SltS) : Int:=x.1.num - y.1.num
def encS (x : SltS) : List Value:=slC x.1
theorem swoS : Go.Sort.SWO (ltOf cmpS) where
 irrefl x:=by unfold ltOf cmpS;simp
 trans x y z h1 h2:=by unfold ltOf cmpS at *;simp at *;omega
 ntrans x y z h1 h2:=by unfold ltOf cmpS at *;simp at *;omega
theorem closS (x y : SltS) (W : World) : Calls Tryz.prog 67 #[slV x.1,slV y.1] W fun e w' => e = .returned (.int .i64 (cmpS x y))∧∃ q os',w' = Go.Sort.grow (W.drewN q) os':=by
 refine S_table_reader_slots_fn1_ok ?_
 unfold S_table_reader_slots_fn1
 have ho0:=Own.start W
 refine do_ok (v:=.pointer (some ⟨W.heap.size,0,none⟩)) (w':=W.alloc (.cells (slC x.1).toArray 49)) (by kernel_rfl) ?_
 have ho1:=ho0.alloc (slC x.1) 49
 refine do_ok (v:=.pointer (some ⟨(W.alloc (.cells (slC x.1).toArray 49)).heap.size,0,none⟩)) (w':=(W.alloc (.cells (slC x.1).toArray 49)).alloc (.cells (slC y.1).toArray 49)) (by kernel_rfl) ?_
 have ho2:=ho1.alloc (slC y.1) 49
 rw [fa_s0',l_cell nInt5 (ho2.cell 1 rfl 0 rfl),fa_s0',l_cell nInt5 (ho2.cell 0 rfl 0 rfl)]
 simp only [rs]
 have hx:=x.2
 have hy:=y.2
 rw [wrap64_id (by omega) (by omega)]
 refine⟨rfl,0,#[.cells (slC x.1).toArray 49,.cells (slC y.1).toArray 49],?_⟩
 rw [Go.Sort.alloc_eq_grow,Go.Sort.alloc_eq_grow,Go.Sort.grow_grow]
 rfl
theorem sortsl_ret (v : Value) (l l' : List Slt) (w : World) (h : (slsE v l).is w) (hb : l.length≤1000000000) (hp : l.Perm l') (hr : Tl.RiseS l') (hs : ∀ x ∈ l,-4611686018427387904≤x.num∧x.num < 4611686018427387904) :
  Ret Tryz.prog 66 #[v,.func (.func 67) #[] #[]] w (fun r w' => r = .tuple #[]∧Turn (slsE v l) (slsE v l') w w'):=by
 letI inh : Inhabited SltS:=⟨⟨sl0,by decide⟩⟩
 obtain⟨h1,h2⟩:=(show w.ownsRow 0 49 4 v l.length (l.flatMap slC) from h)
 have hll : l'.length = l.length:=hp.length_eq.symm
 obtain⟨d,hd⟩ : ∃ d : Array SltS,d.toList.map (·.1) = l:=⟨(l.attach.map fun x => (⟨x.1,hs x.1 x.2⟩ : SltS)).toArray,by simp [List.map_map,Function.comp_def]⟩
 have hdl : d.size = l.length:=by rw [← hd];simp
 have henc : ∀ x : SltS,(encS x).length = 4:=fun _ => rfl
 have hflat : (Go.Sort.flatK encS 4 d).toList = l.flatMap slC:=by
  rw [flatK_eq henc,← hd,List.flatMap_map]
  rfl
 rcases h2 with ⟨rfl,h0⟩ | ⟨g,cap,cur,rfl,hb0,hg,hnc,hcm,hcs,htake⟩
 ·have e1 : l = []:=List.eq_nil_of_length_eq_zero h0
  have e2 : l' = []:=List.eq_nil_of_length_eq_zero (hll.trans h0)
  rw [e1] at h
  rw [e1,e2]
  refine Calls.mono (AnyF.slices_SortFunc_none Tryz.sortSlot none 0 _ w) ?_
  rintro e w' ⟨rfl,rfl⟩
  exact⟨_,rfl,rfl,Turn.refl h⟩
 ·have hsz : l.length * 4≤cur.size:=by rw [hcs];exact Nat.mul_le_mul_right _ hnc
  have hH : Go.Sort.HoldsK encS 4 w g 0 d:=by
   intro j hj
   have hj' : j < (l.flatMap slC).length:=by rw [← hflat];simpa using hj
   have hget : cur[j]? = some (Go.Sort.flatK encS 4 d)[j]!:=by
    have h3 : (l.flatMap slC)[j]? = some (Go.Sort.flatK encS 4 d)[j]!:=by
     rw [← hflat,Array.getElem?_toList,Array.getElem?_eq_getElem hj,getElem!_pos _ j hj]
    rw [← htake,List.getElem?_take] at h3
    split at h3
    ·rwa [Array.getElem?_toList] at h3
    ·cases h3
   constructor
   ·unfold World.cell?
    simp only [hg,Nat.zero_add]
    exact hget
   ·unfold World.frozen?
    simp only [hg,Nat.zero_add]
    simp
  have eg : ∀ args w,(callFunc 67 args).run Tryz.prog w = .ok (.enter 67 args) w:=enters_of Tryz.func67 (by kernel_rfl) rfl
  have hcon:=AnyQ.slices_SortFunc Tryz.sortSlot 4 Tryz.isAgg49 Tryz.sizeOf49 encS henc (fun x => slC_one x.1) cmpS swoS 67 #[] g 0 cap d w eg (fun m os dk _ x y => closS x y _) hH (lt_of_get hg) (by omega)
  rw [hdl] at hcon
  refine Calls.mono hcon ?_
  rintro e w' ⟨rfl,d',n,os,hperm,hsort,rfl⟩
  refine⟨_,rfl,rfl,?_⟩
  have hsize : d'.size = l.length:=hperm.1.trans hdl
  have hpl : d'.toList.Perm d.toList:=by
   have:=hperm.2.2
   rwa [show d'.extract 0 l.length = d' by rw [← hsize];simp,show d.extract 0 l.length = d by rw [← hdl];simp] at this
  have hL2p : (d'.toList.map (·.1)).Perm l':=by
   have:=hpl.map (·.1)
   rw [hd] at this
   exact this.trans hp
  have hL2 : d'.toList.map (·.1) = l':=by
   refine List.Perm.eq_of_pairwise (le:=fun a b : Slt => a.num≤b.num) (fun a b ha hb h1 h2 => ?_) ?_ (hr.imp fun {a b} h => by omega) hL2p
   ·exact rise_inj hr (hL2p.subset ha) hb (by omega)
   ·rw [List.pairwise_map,List.pairwise_iff_getElem]
    intro i j hi hj hij
    have:=hsort i j (Nat.zero_le _) hij (by rw [← hsize];simpa using hj)
    rw [getElem!_pos d' i (by simpa using hi),getElem!_pos d' j (by simpa using hj)] at this
    unfold ltOf cmpS at this
    simp only [decide_eq_false_iff_not] at this
    simp only [Array.getElem_toList]
    omega
  have hF : (Go.Sort.flatK encS 4 d').toList = l'.flatMap slC:=by
   rw [flatK_eq henc,← hL2,List.flatMap_map]
   rfl
  have ht:=row_grow (T:=49) (sz:=4) (m:=n) (xs:=l.flatMap slC) (os:=os) (Go.Sort.flatK encS 4 d') hg hnc hcm hcs (by rw [Go.Sort.size_flatK,hsize])
  rw [hF] at ht
  rw [slsE,slsE,Ent.recs,Ent.recs,hll]
  exact ht
end Go.Proofs.YtjloddgofmdmgaaGreatDoor
