/- Texts that go together: EngAA PsK PsL PsM Plain18 STable TbA SRef18 TbB EngAD Plain18B Plain18C TbC TbD ShelfS TbE EngAB TbF TbG TbH TbI TbJ TbK TbL. -/
import Derived.Maps.RangeRun
import Derived.Test.YtjloddgofmdmgaaGreatDoorRows
import Derived.Shelf.SlSortCmp.WholeK
import Derived.Ground.SlsfProg
import Derived.Test.YtjloddgofmdmgaaGreatDoorProg
import Derived.Shelf.SlSortCmp.NoneTotal
import Derived.Test.YtjloddgofmdmgaaGreatDoorMbbiofpfn
import Derived.Test.YtjloddgofmdmgaaGreatDoorMhijkokaf
import Derived.Test.YtjloddgofmdmgaaGreatDoorMgcppajji
import Derived.Test.YtjloddgofmdmgaaGreatDoorMnooohdea
import Derived.Test.YtjloddgofmdmgaaGreatDoorMcmengahc
set_option linter.defProp false
set_option linter.unusedSimpArgs false
set_option linter.unusedVariables false
set_option maxRecDepth 20000
open Go.Proofs.Tryz (prog)
namespace Go.Proofs.YtjloddgofmdmgaaGreatDoor
section
namespace Eng
open Go.RowKit
structure MapF (al:List (List UInt8×Value)) (es:Array MapEntry) (clock:Nat):Prop where
 al:es.toList.map (fun e=>(e.key,e.val))=al.map fun p=>(strK p.1,p.2)
 nodup:(es.toList.map (·.born)).Nodup
 old:∀e∈es.toList,e.born < clock
def Ent.mapB (b:Nat)(al:List (List UInt8×Value)):Ent:=⟨fun k=>k=b,fun w=>∃es clock,w.heap[b]?=some (.map es clock)∧MapF al es clock,fun {w w'} h k=>by
  obtain⟨es,clock,h1,h2⟩:=h;exact⟨es,clock,(k b rfl).trans h1,h2⟩,fun h k hk=>by
  obtain⟨es,clock,h1,h2⟩:=h;cases hk;exact lt_of_get h1⟩
theorem mapB_is {w:World}{b:Nat}{al:List (List UInt8×Value)}(h:(Ent.mapB b al).is w):MapIs w b al:=by
 obtain⟨es,clock,h1,h2⟩:=h;exact⟨es,clock,h1,h2.al⟩
def SeenM (es:Array MapEntry)(seen:Array Nat)(done:List (List UInt8×Value)):Prop:=
 ∃ds:List MapEntry,seen.toList=ds.map (·.born)∧(∀e∈ds,e∈es.toList)∧(ds.map (·.born)).Nodup∧ds.map (fun e=>(e.key,e.val))=done.map fun p=>(strK p.1,p.2)
theorem born_inj:∀{l:List MapEntry},(l.map (·.born)).Nodup→∀{x y:MapEntry},x∈l→y∈l→x.born=y.born→x=y
|[],_,_,_,hx,_,_=>by cases hx
|a::l,hn,x,y,hx,hy,h=>by
  rw[List.map_cons,List.nodup_cons] at hn;rcases List.mem_cons.1 hx with ex|hx
  ·rcases List.mem_cons.1 hy with ey|hy
   ·rw[ex,ey]
   ·exact absurd (List.mem_map.2 ⟨y,hy,by rw[←h,ex]⟩) hn.1
  ·rcases List.mem_cons.1 hy with ey|hy
   ·exact absurd (List.mem_map.2 ⟨x,hx,by rw[h,ey]⟩) hn.1
   ·exact born_inj hn.2 hx hy h
theorem nodup_of_born:∀{l:List MapEntry},(l.map (·.born)).Nodup→l.Nodup
|[],_=>List.nodup_nil
|a::l,h=>by
  rw[List.map_cons,List.nodup_cons] at h;exact List.nodup_cons.2 ⟨fun hm=>h.1 (List.mem_map.2 ⟨a,hm,rfl⟩),nodup_of_born h.2⟩
theorem nodup_le {α:Type}:∀(a b:List α),a.Nodup→(∀x∈a,x∈b)→a.length≤b.length
|[],_,_,_=>by simp
|x::a,b,hn,hs=>by
  obtain⟨u,v,rfl⟩:=List.append_of_mem (hs x List.mem_cons_self);obtain⟨h1,h2⟩:=List.nodup_cons.1 hn;have:=nodup_le a (u++v) h2 fun y hy=>by
   have hy':=hs y (List.mem_cons_of_mem _ hy);rw[List.mem_append,List.mem_cons] at hy';rw[List.mem_append];rcases hy' with h|h|h
   ·exact .inl h
   ·subst h;exact absurd hy h1
   ·exact .inr h
  simp only[List.length_append,List.length_cons] at this ⊢;omega
theorem perm_kv {a b:List (List UInt8×Value)}(h:(a.map fun p=>(strK p.1,p.2)).Perm (b.map fun p=>(strK p.1,p.2))):a.Perm b:=by
 -- a list that goes back
 let back:Value×Value→List UInt8×Value:=fun q=>(match q.1 with|.string s=>s.data.toList|_=>[],q.2)
 have hb:∀l:List (List UInt8×Value),(l.map fun p=>(strK p.1,p.2)).map back=l:=by
  intro l;rw[List.map_map]
  conv=>rhs;rw[←List.map_id l]
  refine List.map_congr_left fun p _=>?_;rfl
 have:=h.map back
 rwa [hb,hb] at this
section
variable {S:Nat→Prop}{P:Program}{w w0:World}{L:List Ent}{PK:PKT}{K:VWP}
theorem o_mapNewB {T:TypeId}(ho:OwnS S w0 w L)(k:∀b w',OwnS S w0 w' (.mapB b []::L)→K (.map (some b)) w'):DoX P (mMap T none) w PK K:=by
 have hr:(Instr.makeMap T none).run P w=.ok (.map (some w.heap.size)) (w.alloc (.map #[] 0)):=rfl;exact do_ok (mv_run hr) (k _ _ (ho.add (World.grownBy_alloc w _ none) (.mapB w.heap.size []) ⟨#[],0,heap_alloc_new w _,rfl,List.nodup_nil,fun e he=>by simp at he⟩ (fun k hk=>by cases hk;exact Nat.le_refl _)))
theorem o_mapAddB (i:Nat){T k e:TypeId}{b:Nat}{al:List (List UInt8×Value)}(ht:P.underlying T=some (.map k e))(hk:P.underlying k=some .string)(ho:OwnS S w0 w L)(hi:L[i]?=some (.mapB b al))(x:List UInt8)(v:Value)(hn:lookA al x=none)
  (kk:∀w',OwnS S w0 w' (L.set i (.mapB b (al++[(x,v)])))→K undef w'):DoX P (mMapU T (.map (some b)) (strK x) v) w PK K:=by
 obtain⟨es,clock,h1,h2⟩:=(show ∃es clock,w.heap[b]?=some (.map es clock)∧MapF al es clock from ho.at_ i hi);obtain⟨r,r1,r2⟩:=run_findStr (P:=P) (w:=w) hk x h2.al;have hr0:r=none:=by
  cases r with
 |none=>rfl
 |some p=>rw[hn] at r2;cases r2
 subst hr0;have hr:(Instr.mapUpdate T (.map (some b)) (strK x) v).run P w=.ok () { w with heap:=w.heap.setIfInBounds b (.map (es.push { key:=strK x,val:=v,born:=clock }) (clock+1)) }:=by
  simp[Instr.mapUpdate,run_underlying ht,getObj,setObj,Sem.run,h1,run_checkStr hk x,r1]
 refine do_skip (mu_run hr) (kk _ ?_);refine ho.put i hi (w':={ w with heap:=w.heap.setIfInBounds b _ }) ⟨rfl,rfl,rfl,by simp,fun k _ hk=>?_⟩ (.mapB b (al++[(x,v)])) ?_ (fun k hk=>.inl hk)
 ·show (w.heap.setIfInBounds b _)[k]?=_;exact Array.getElem?_setIfInBounds_ne (fun e=>hk (by simp[Ent.mapB,e]))
 ·refine⟨es.push { key:=strK x,val:=v,born:=clock },clock+1,?_,?_,?_,?_⟩
  ·show (w.heap.setIfInBounds b _)[b]?=_;exact Array.getElem?_setIfInBounds_self_of_lt (lt_of_get h1)
  ·simp[h2.al]
  ·rw[Array.toList_push,List.map_append,List.nodup_append];refine⟨h2.nodup,by simp,fun a ha c hc=>?_⟩;obtain⟨e,he,rfl⟩:=List.mem_map.1 ha;have:=h2.old e he;simp at hc;omega
  ·intro e he;rw[Array.toList_push] at he;rcases List.mem_append.1 he with he|he
   ·have:=h2.old e he;omega
   ·rw[List.mem_singleton] at he;subst he;exact Nat.lt_succ_self _
theorem OwnS.openM {b:Nat}{al:List (List UInt8×Value)}(ho:OwnS S w0 w L)(i:Nat)(hi:L[i]?=some (.mapB b al)):∃es clock,MapF al es clock∧OwnS S w0 w (L.set i (.obj b (.map es clock))):=by
 obtain⟨es,clock,h1,h2⟩:=(show ∃es clock,w.heap[b]?=some (.map es clock)∧MapF al es clock from ho.at_ i hi);exact⟨es,clock,h2,ho.turn i hi ⟨Grew.refl _ _,h1,fun _ hk=>.inl hk⟩⟩
theorem OwnS.shutM {b:Nat}{al:List (List UInt8×Value)}{es:Array MapEntry}{clock:Nat}(ho:OwnS S w0 w L)(i:Nat)(hi:L[i]?=some (.obj b (.map es clock)))(hf:MapF al es clock):OwnS S w0 w (L.set i (.mapB b al)):=
 ho.turn i hi ⟨Grew.refl _ _,⟨es,clock,ho.at_ i hi,hf⟩,fun _ hk=>.inl hk⟩
theorem o_rangeM (i:Nat){T k e:TypeId}{m clock:Nat}{es:Array MapEntry}(ht:P.underlying T=some (.map k e))(ho:OwnS S w0 w L)(hi:L[i]?=some (.obj m (.map es clock)))
  (kk:∀b w',OwnS S w0 w' (.obj b (.mapIter (some m) clock #[] clock)::L)→K (.pointer (some ⟨b,0,none⟩)) w'):DoX P (mRange T (.map (some m))) w PK K:=by
 have h1:w.heap[m]?=some (.map es clock):=ho.at_ i hi;have hr:=run_range_map (P:=P) w T k e m es clock ht h1;exact do_ok (mv_run hr) (kk _ _ (ho.allocObj _))
theorem seen_nil (es:Array MapEntry):SeenM es #[] []:=⟨[],rfl,(fun e he=>by cases he),List.nodup_nil,rfl⟩
theorem o_nextM (i j:Nat){b m clock:Nat}{es:Array MapEntry}{seen:Array Nat}{al done:List (List UInt8×Value)}{ty:TypeId}(ho:OwnS S w0 w L)(hi:L[i]?=some (.obj b (.mapIter (some m) clock seen clock)))(hj:L[j]?=some (.obj m (.map es clock)))
  (hf:MapF al es clock) (hs:SeenM es seen done) (kend:done.Perm al→K (.tuple #[.bool false]) w)
  (knext:∀(p:List UInt8×Value) (e:MapEntry) (w':World),p∈al→p ∉ done∨True→e∈es.toList→e.key=strK p.1→e.val=p.2→SeenM es (seen.push e.born) (done++[p])→done.length < al.length →
   OwnS S w0 w' (L.set i (.obj b (.mapIter (some m) clock (seen.push e.born) clock)))→K (.tuple #[.bool true,strK p.1,p.2]) w') :
  DoX P (mNext (.pointer (some ⟨b,0,none⟩)) false ty) w PK K:=by
 have h1:w.heap[b]?=some (.mapIter (some m) clock seen clock):=ho.at_ i hi;have h2:w.heap[m]?=some (.map es clock):=ho.at_ j hj;obtain⟨ds,d1,d2,d3,d4⟩:=hs;have hds:ds.length=done.length:=by simpa using congrArg List.length d4
 have hel:es.toList.length=al.length:=by simpa using congrArg List.length hf.al
 rcases Go.run_next_at (P:=P) w ty b m clock clock seen es clock h1 h2 hf.old (Nat.le_refl _) with ⟨hl,hr⟩|⟨e,he,w1,hw1,hr⟩
 ·refine do_ok (mv_run hr) (kend ?_)
  -- all have come
  have hall:∀x∈es.toList,x∈ds:=by
   intro x hx;have hc:seen.contains x.born=true:=by
    cases hcc:seen.contains x.born with
   |true=>rfl
   |false=>
     exfalso;have hm:x∈(leftOf es seen).toList:=by
      unfold leftOf;rw[Array.toList_filter,List.mem_filter];exact⟨hx,by simp only[hcc];rfl⟩
     have:0 < (leftOf es seen).size:=by
      rw[←Array.length_toList];exact List.length_pos_of_mem hm
     omega
   have hm:x.born∈seen.toList:=by simpa using hc
   rw[d1] at hm;obtain⟨y,hy,hyb⟩:=List.mem_map.1 hm;rw[←born_inj hf.nodup (d2 y hy) hx hyb];exact hy
  have hp:ds.Perm es.toList:=(List.perm_ext_iff_of_nodup (nodup_of_born d3) (nodup_of_born hf.nodup)).2 fun x=>⟨d2 x,hall x⟩;have:=hp.map fun e=>(e.key,e.val);rw[d4,hf.al] at this;exact perm_kv this
 ·-- one comes
  have hem:e∈es.toList∧seen.contains e.born=false:=by
   unfold leftOf at he;rw[Array.toList_filter,List.mem_filter] at he;exact⟨he.1,by simpa using he.2⟩
  have hk:(e.key,e.val)∈es.toList.map (fun e=>(e.key,e.val)):=List.mem_map.2 ⟨e,hem.1,rfl⟩;rw[hf.al] at hk;obtain⟨p,hp,hpe⟩:=List.mem_map.1 hk;simp only[Prod.mk.injEq] at hpe;have hnb:e.born ∉ ds.map (·.born):=by
   rw[←d1];intro hm;have:seen.contains e.born=true:=by simpa using hm
   rw[hem.2] at this;cases this
  have hs':SeenM es (seen.push e.born) (done++[p]):=by
   refine⟨ds++[e],by simp[d1],?_,?_,?_⟩
   ·intro x hx;rcases List.mem_append.1 hx with hx|hx
    ·exact d2 x hx
    ·rw[List.mem_singleton] at hx;subst hx;exact hem.1
   ·rw[List.map_append,List.nodup_append];refine⟨d3,by simp,fun a ha c hc=>?_⟩;simp at hc;subst hc;intro e2;exact hnb (by rw[←e2];exact ha)
   ·simp[d4,hpe.1,hpe.2]
  have hlt:done.length < al.length:=by
   rw[←hds,←hel];exact nodup_le (e::ds) es.toList (List.nodup_cons.2 ⟨fun hm=>hnb (List.mem_map.2 ⟨e,hm,rfl⟩),nodup_of_born d3⟩) (fun x hx=>by
    rcases List.mem_cons.1 hx with rfl|hx
    ·exact hem.1
    ·exact d2 x hx)
  have how:OwnS S w0 w1 L:=by
   rcases hw1 with rfl|rfl
   ·exact ho
   ·exact ho.drew
  have hkk:=put_iter (o':=.mapIter (some m) clock (seen.push e.born) clock) how i hi;rw[←hpe.1,←hpe.2] at hr;exact do_ok (mv_run hr) (knext p e _ hp (.inr trivial) hem.1 hpe.1.symm hpe.2.symm hs' hlt hkk)
theorem e_entry (i j:Nat){b m clock:Nat}{es:Array MapEntry}{seen:Array Nat}{e:MapEntry}{al:List (List UInt8×Value)}(ho:OwnS S w0 w L)(hi:L[i]?=some (.obj b (.mapIter (some m) clock (seen.push e.born) clock)))(hj:L[j]?=some (.obj m (.map es clock)))
  (hf:MapF al es clock) (he:e∈es.toList):DoX P (mEntry (.pointer (some ⟨b,0,none⟩))) w PK K=K (.tuple #[e.key,e.val]) w:=
 do_eq (mv_run (run_entry_at (P:=P) w b m clock seen es clock e (ho.at_ i hi) (ho.at_ j hj) he hf.nodup))
end
end Eng
end
section
open Eng Go.RowKit
def KvR (A:Nat→Prop)(w:World):List (List UInt8×Value)→List Ps.Kv→Prop
|[],[]=>True
|p::al,q::l=>p.1=q.1∧OV A w p.2 q.2∧KvR A w al l
|_,_=>False
theorem KvR.le {M N:Mem}(h:M.le N):∀{al:List (List UInt8×Value)} {l:List Ps.Kv},KvR M.A M.w al l→KvR N.A N.w al l
|[],[],_=>trivial
|_::_,_::_,⟨h1,h2,h3⟩=>⟨h1,h2.le h,KvR.le h h3⟩
|[],_::_,h=>h.elim
|_::_,[],h=>h.elim
section
variable {A:Nat→Prop}{w:World}
theorem KvR.fst:∀{al:List (List UInt8×Value)} {l:List Ps.Kv},KvR A w al l→al.map (·.1)=l.map (·.1)
|[],[],_=>rfl
|_::_,_::_,⟨h1,_,h3⟩=>by rw[List.map_cons,List.map_cons,h1,KvR.fst h3]
|[],_::_,h=>h.elim
|_::_,[],h=>h.elim
theorem KvR.snoc {k:List UInt8}{v:Value}{o:Ob}(hv:OV A w v o):∀{al:List (List UInt8×Value)} {l:List Ps.Kv},KvR A w al l→KvR A w (al++[(k,v)]) (l++[(k,o)])
|[],[],_=>⟨rfl,hv,trivial⟩
|_::_,_::_,⟨h1,h2,h3⟩=>⟨h1,h2,KvR.snoc hv h3⟩
|[],_::_,h=>h.elim
|_::_,[],h=>h.elim
theorem KvR.mem:∀{al:List (List UInt8×Value)} {l:List Ps.Kv},KvR A w al l→∀{p:List UInt8×Value},p∈al→∃o,(p.1,o)∈l∧OV A w p.2 o
|[],_,_,p,hp=>by cases hp
|a::_,b::_,⟨h1,h2,h3⟩,p,hp=>by
  rcases List.mem_cons.1 hp with rfl|hp
  ·exact⟨b.2,by rw[h1];exact List.mem_cons_self,h2⟩
  ·obtain⟨o,ho,hv⟩:=KvR.mem h3 hp;exact⟨o,List.mem_cons_of_mem _ ho,hv⟩
|_::_,[],h,_,_=>h.elim
theorem KvR.look {k:List UInt8}{o:Ob}:∀{al:List (List UInt8×Value)} {l:List Ps.Kv},KvR A w al l→(l.map (·.1)).Nodup→(k,o)∈l→∃v,lookA al k=some v∧OV A w v o
|[],[],_,_,hm=>by cases hm
|p::al,q::l,⟨h1,h2,h3⟩,hn,hm=>by
  rw[List.map_cons,List.nodup_cons] at hn;by_cases hk:p.1=k
  ·have hq:(k,o)=q:=by
    rcases List.mem_cons.1 hm with h|h
    ·exact h
    ·exact absurd (List.mem_map.2 ⟨(k,o),h,by rw[←h1,hk]⟩) hn.1
   refine⟨p.2,by unfold lookA;rw[List.find?_cons_of_pos (by simpa using hk)];rfl,?_⟩;rw[←hq] at h2;exact h2
  ·have hm':(k,o)∈l:=by
    rcases List.mem_cons.1 hm with h|h
    ·exact absurd (by rw[h1,←h]) hk
    ·exact h
   obtain⟨v,hv,ho⟩:=KvR.look h3 hn.2 hm';refine⟨v,?_,ho⟩;unfold lookA at hv ⊢;rw[List.find?_cons_of_neg (by simpa using hk)];exact hv
|[],_::_,h,_,_=>h.elim
|_::_,[],h,_,_=>h.elim
def kindV:Value→Int
|.agg cs=>match cs.toList with|.int _ k::_=>k|_=>0
|_=>0
theorem kindV_of {v:Value}{o:Ob}(h:OV A w v o):kindV v=o.k:=by
 obtain⟨vk,vc,cs,rfl,_⟩:=h.open;rfl
def liveV (al:List (List UInt8×Value)):List (List UInt8):=(al.filter fun p=>decide (kindV p.2≠0)).map (·.1)
theorem KvR.live:∀{al:List (List UInt8×Value)} {l:List Ps.Kv},KvR A w al l→liveV al=Ps.live l
|[],[],_=>rfl
|p::al,q::l,⟨h1,h2,h3⟩=>by
  have ih:=KvR.live h3;unfold liveV Ps.live at *;rw[List.filter_cons,List.filter_cons,kindV_of h2];split
  ·rw[List.map_cons,List.map_cons,ih,h1]
  ·exact ih
|[],_::_,h=>h.elim
|_::_,[],h=>h.elim
theorem liveV_snoc (al:List (List UInt8×Value))(p:List UInt8×Value):liveV (al++[p])=liveV al++(if kindV p.2≠0 then [p.1] else []):=by
 unfold liveV;rw[List.filter_append,List.map_append]
 congr 1
 by_cases h:kindV p.2=0<;>simp[h]
theorem liveV_perm {a b:List (List UInt8×Value)}(h:a.Perm b):(liveV a).Perm (liveV b):=(h.filter _).map _
theorem liveV_len (al:List (List UInt8×Value)):(liveV al).length≤al.length:=by
 unfold liveV;rw[List.length_map];exact List.length_filter_le _ _
end
section
variable {w:World}{PK:PKT}{K:VWP}{S:Nat→Prop}{w0:World}{L:List Ent}
theorem zOb:(Tryz.prog.info? 27).bind (·.zero)=some (obV ob0 nilS nilS):=by kernel_rfl
theorem lookT (i:Nat){b:Nat}{al:List (List UInt8×Value)}(ho:OwnS S w0 w L)(hi:L[i]?=some (.mapB b al))(x:List UInt8) :
  DoX prog (mLook 229 (.map (some b)) (.string ⟨x.toArray⟩) true) w PK K=K (.tuple #[(lookA al x).getD (obV ob0 nilS nilS),.bool (lookA al x).isSome]) w:=
 do_eq (run_look (ok:=true) Tryz.underlying229 Tryz.underlying9 zOb (mapB_is (ho.at_ i hi)) x)
theorem lookF (i:Nat){b:Nat}{al:List (List UInt8×Value)}(ho:OwnS S w0 w L)(hi:L[i]?=some (.mapB b al)){x:List UInt8}{v:Value}(hv:lookA al x=some v) :
  DoX prog (mLook 229 (.map (some b)) (.string ⟨x.toArray⟩) false) w PK K=K v w:=by
 have:=do_eq (PK:=PK) (K:=K) (run_look (ok:=false) Tryz.underlying229 Tryz.underlying9 zOb (mapB_is (ho.at_ i hi)) x);rw[hv] at this;exact this
theorem lenM (i:Nat){b:Nat}{al:List (List UInt8×Value)}{cs:Array Bool}(ho:OwnS S w0 w L)(hi:L[i]?=some (.mapB b al)) :
  DoX prog (mB .len #[229] 3 cs #[.map (some b)]) w PK K=K (.int .i64 (al.length:Int)) w:=by
 obtain⟨es,clock,h1,h2⟩:=(show ∃es clock,w.heap[b]?=some (.map es clock)∧MapF al es clock from ho.at_ i hi);have hl:es.size=al.length:=by
  have:=congrArg List.length h2.al;simpa using this
 refine do_eq ?_;simp[mB,builtin,Builtin.len_,run_underlying Tryz.underlying229,getObj,h1,goInt,hl,Sem.run]
end
def itAt (b:Nat)(w:World):Nat:=match w.heap[b]? with|some (.mapIter _ _ seen _)=>seen.size|_=>0
theorem itAt_is {b:Nat}{m clock:Nat}{seen:Array Nat}{w:World}(h:(Ent.obj b (.mapIter (some m) clock seen clock)).is w):itAt b w=seen.size:=by
 unfold itAt;rw[show w.heap[b]?=_ from h]
theorem seen_size {es:Array MapEntry}{seen:Array Nat}{done:List (List UInt8×Value)}(h:SeenM es seen done):seen.size=done.length:=by
 obtain⟨ds,d1,_,_,d4⟩:=h;rw[←Array.length_toList,d1,List.length_map];simpa using congrArg List.length d4
theorem pbuild {S0:Nat→Prop}{w W:World}{b b4 b5 b9:Nat}{s:List UInt8}{a:Int}{N:Mem}{al:List (List UInt8×Value)}{l:List Ps.Kv}{o:Ob}{K:Ending→World→Prop}
  (hkv:KvR N.A N.w al l) (hnd:(l.map (·.1)).Nodup) (hmade:Ps.Made o l) (hlen:l.length≤8191)
  (ho:OwnS S0 w W [obE b9 Ps.dict0 nilS nilS,keyE nilS [],kidE nilS 0 [],obE b4 ob0 nilS nilS,.mapB b5 al,rmE b s a N])
  (kend:∀(W':World) (N2:Mem) (L:List Ent) (v:Value),OwnS S0 w W' (rdE b s a::.mem N2::L)→N.le N2→OV N2.A N2.w v o→K (.returned v) W') :
  DoX prog (mRange 229 (.map (some b5))) W (pk K) fun t49 w=>LoopX [] w (fun vs2 w N2=>∀_:Sg,S_parse_reader_dict_1 (.pointer (some ⟨b4,0,none⟩)) (.map (some b5)) (.pointer (some ⟨b9,0,none⟩)) t49 w N2 K):=by
 have hall:al.length=l.length:=by simpa using congrArg List.length hkv.fst
 obtain⟨es,clock,hf,ho⟩:=ho.openM 4 rfl;refine o_rangeM 4 Tryz.underlying229 ho rfl fun it w1 ho=>?_;refine loop (fun vs w'=>∃(seen:Array Nat) (done:List (List UInt8×Value)) (vk:Value),vs=[]∧SeenM es seen done∧done.length≤al.length∧(∀p∈done,p∈al) ∧
   OwnS S0 w w' [.obj it (.mapIter (some b5) clock seen clock),obE b9 Ps.dict0 vk nilS,keyE vk (liveV done),kidE nilS 0 [],obE b4 ob0 nilS nilS,.obj b5 (.map es clock),rmE b s a N]) (fun _ w=>al.length - itAt it w)
  ⟨#[],[],nilS,rfl,seen_nil es,by simp,by simp,ho⟩ ?_
 clear ho;rintro vs w2 ⟨seen,done,vk,rfl,hs,hdl,hda,ho⟩ _;simp only[S_parse_reader_dict_1];have hit:itAt it w2=seen.size:=itAt_is (ho.at_ 0 rfl);have hss:=seen_size hs;refine o_nextM 0 5 ho rfl rfl hf hs (fun hperm=>?_) fun p e w3 hpa _ he hek hev hs' hlt ho=>?_
 ·-- all have come
  simp only[ex,i_f];have ho:=ho.tail;have ho:OwnS S0 w w2 [obE b9 Ps.dict0 vk nilS,keyE vk (liveV done),kidE nilS 0 [],obE b4 ob0 nilS nilS,.obj b5 (.map es clock),rmE b s a N]:=ho;have ho:=ho.shutM 4 rfl hf;have ho:OwnS S0 w w2 [obE b9 Ps.dict0 vk nilS,keyE vk (liveV done),kidE nilS 0 [],obE b4 ob0 nilS nilS,.mapB b5 al,rmE b s a N]:=ho;rw[fa_o4,ob_keys ho 0 rfl];have hll:=liveV_len done;refine c_ret (ssort_ret vk (liveV done) w2 (ho.at_ 1 rfl) (by omega)) ?_;rintro _ w3 ⟨rfl,ht⟩;have ho:=ho.turn 1 rfl ht;have hsort:sortS (liveV done)=o.keys:=sortS_rise ((liveV_perm hperm).trans (by rw[hkv.live];exact hmade.perm)) hmade.rise;rw[hsort] at ho;have ho:OwnS S0 w w3 [obE b9 Ps.dict0 vk nilS,keyE vk o.keys,kidE nilS 0 [],obE b4 ob0 nilS nilS,.mapB b5 al,rmE b s a N]:=ho;have hkl:o.keys.length≤8191:=by
   have h1:=hmade.perm.length_eq;have h2:=hkv.live (A:=N.A);have h3:=liveV_len al;rw[←h1,←h2];omega
  rw[fa_o4,ob_keys ho 0 rfl,sl_len Tryz.underlying24 (ho.slU 1 rfl)];refine loop (fun vs w'=>∃(i:Nat) (cs:List Value) (vc:Value),vs=[.int .i64 i]∧i≤o.keys.length∧OVs N.A N.w cs (o.kids.take i) ∧
   OwnS S0 w w' [obE b9 Ps.dict0 vk vc,keyE vk o.keys,kidE vc i cs,obE b4 ob0 nilS nilS,.mapB b5 al,rmE b s a N]) (fun vs _=>o.keys.length - n0 vs) ⟨0,[],nilS,rfl,by omega,OVs.nil,ho⟩ ?_
  clear ho;rintro vs w4 ⟨i,cs,vc,rfl,hi,hov,ho⟩ _;simp only[S_parse_reader_dict_2,gd,rs];by_cases hlt:(i:Int) < (o.keys.length:Int)
  ·have hi':i < o.keys.length:=by omega
   simp only[decide_eq_true hlt,i_t];obtain⟨g,cap,_,ia,ld⟩:=key_row 1 ho rfl hi';refine do_eq (ia w4) |>.mpr (do_eq (ld w4 (ho.at_ 1 rfl)) |>.mpr ?_);rw[fa_o5,ob_kids ho 0 rfl];obtain⟨v,hv,hvo⟩:=hkv.look hnd (Ps.made_at hmade hi');rw[lookF 4 ho rfl hv];obtain⟨xk,xc,xcs,rfl,hx⟩:=hvo.open;refine o_obs1 _ hx.keys.one hx.kids.one ho fun nb w5 ho=>?_;refine o_apO 3 ho rfl (ho.sl 0 rfl 6 1 1 rfl) (obC_one _ hx.keys.one hx.kids.one) (by omega) fun vc' w6 ho=>?_;have ho:=ho.tail;have hvc':=urow_one (ho.at_ 2 rfl);rw[fa_o5];refine o_store 0 ho rfl (by kernel_rfl) hvc' (show 0+5 < 6 by omega) fun w7 ho=>?_;rw[wrap64_id (by omega) (by omega)];refine nextX ⟨i+1,_,vc',rfl,by omega,?_,ho⟩ (by show o.keys.length - Int.toNat ((i:Int)+1) < o.keys.length - Int.toNat (i:Int);omega);have hkl2:i < o.kids.length:=by have:=hmade.len;omega
   rw[List.take_succ_eq_append_getElem hkl2];exact ovs_app hov (ovs_1 hx.ov)
  ·have hi':i=o.keys.length:=by omega
   simp only[decide_eq_false hlt,i_f];subst hi';rw[hmade.len,List.take_length] at hov;have hvk:=urow_one (ho.at_ 1 rfl);have hvc:=urow_one (ho.at_ 2 rfl);rw[ob_v ho 0 rfl];refine ob_put (o':=Ps.dict0) 3 hvk hvc ho rfl fun w5 ho=>?_;refine ret_v1 (rv_cell (ho.agg 3 rfl aggOb)) ?_;have ho:OwnS S0 w w5 ([obE b9 Ps.dict0 vk vc,keyE vk o.keys,kidE vc o.keys.length cs,obE b4 Ps.dict0 vk vc,.mapB b5 al]++([rmE b s a N]++[])):=ho;have ho:=ho.front.split;have ho:OwnS S0 w w5 ([rdE b s a,.mem N,obE b9 Ps.dict0 vk vc]++([keyE vk o.keys,kidE vc o.keys.length cs]++[obE b4 Ps.dict0 vk vc,.mapB b5 al])):=ho;have ho:=ho.front;obtain⟨N2,hle2,hrow2,ho⟩:=OwnS.freezeU (L:=[kidE vc o.keys.length cs,rdE b s a,.mem N,obE b9 Ps.dict0 vk vc,obE b4 Ps.dict0 vk vc,.mapB b5 al]) ho 2 rfl;obtain⟨N3,hle3,hrow3,ho⟩:=OwnS.freezeU (L:=[rdE b s a,.mem N2,obE b9 Ps.dict0 vk vc,obE b4 Ps.dict0 vk vc,.mapB b5 al]) ho 1 rfl;have hval:obV Ps.dict0 vk vc=obV o vk vc:=by
    unfold obV obC;rw[hmade.k,hmade.n,hmade.g,hmade.s];rfl
   refine kend w5 N3 _ _ ho (hle2.trans hle3) ?_;show OV N3.A N3.w (obV Ps.dict0 vk vc) o;rw[hval];rw[hmade.len] at hrow3;exact ObAt.ov ⟨hrow2.le hle3,hrow3,(hov.le hle2).le hle3⟩
 ·simp only[ex,i_t];have ho:OwnS S0 w w3 [.obj it (.mapIter (some b5) clock (seen.push e.born) clock),obE b9 Ps.dict0 vk nilS,keyE vk (liveV done),kidE nilS 0 [],obE b4 ob0 nilS nilS,.obj b5 (.map es clock),rmE b s a N]:=ho;rw[e_entry 0 5 ho rfl rfl hf he,hek,hev];simp only[ex];obtain⟨x,hxl,hxo⟩:=hkv.mem hpa;have hkind:=kindV_of hxo;obtain⟨xk,xc,xcs,hpe,hx⟩:=hxo.open;obtain⟨pk1,pv⟩:=p;simp only at hpe hkind;subst hpe;refine o_oba ho fun b11 w4 ho=>?_;refine ob_put (o':=x) 0 hx.keys.one hx.kids.one ho rfl fun w5 ho=>?_;have ho:OwnS S0 w w5 [obE b11 x xk xc,.obj it (.mapIter (some b5) clock (seen.push e.born) clock),obE b9 Ps.dict0 vk nilS,keyE vk (liveV done),kidE nilS 0 [],obE b4 ob0 nilS nilS,.obj b5 (.map es clock),rmE b s a N]:=ho;rw[fa_o0,ob_k ho 0 rfl];simp only[rs];have hsn:=liveV_snoc done (pk1,obV x xk xc);have mea:∀{W:World} {L:List Ent},OwnS S0 w W L→L[0]?=some (.obj it (.mapIter (some b5) clock (seen.push e.born) clock))→al.length - itAt it W < al.length - itAt it w2:=by
   intro W L ho hi;rw[hit,itAt_is (ho.at_ 0 hi),Array.size_push];omega
  have hda':∀q∈done++[(pk1,obV x xk xc)],q∈al:=by
   intro q hq;rcases List.mem_append.1 hq with hq|hq
   ·exact hda q hq
   ·rw[List.mem_singleton] at hq;subst hq;exact hpa
  by_cases hk:x.k=0
  ·simp only[hk,ne_eq,not_true,decide_false,i_f];rw[if_neg (by rw[hkind,hk];simp),List.append_nil] at hsn;refine nextX ⟨_,done++[(pk1,obV x xk xc)],vk,rfl,hs',by simp;omega,hda',?_⟩ (mea ho.tail rfl);rw[hsn];exact ho.tail
  ·simp only[hk,ne_eq,not_false_eq_true,decide_true,i_t];rw[if_pos (by rw[hkind];exact hk)] at hsn;rw[fa_o4,ob_keys ho 2 rfl];have hll:=liveV_len done;show DoX prog (mBuildS 24 1 #[(0,.string ⟨pk1.toArray⟩)]) w5 _ _;refine o_strb1 pk1 ho fun nb w6 ho=>?_;refine o_apS 4 ho rfl (ho.sl 0 rfl 1 1 1 rfl) (by simp[Value.oneCell']) (by omega) fun vk' w7 ho=>?_;have ho:=ho.tail.tail;have ho:OwnS S0 w w7 [.obj it (.mapIter (some b5) clock (seen.push e.born) clock),obE b9 Ps.dict0 vk nilS,keyE vk' (liveV done++[pk1]),kidE nilS 0 [],obE b4 ob0 nilS nilS,.obj b5 (.map es clock),rmE b s a N]:=by
    have e:strsV (liveV done++[pk1])=strsV (liveV done)++[.string ⟨pk1.toArray⟩]:=by rw[strsV_app];rfl
    rw[keyE,List.length_append,List.length_singleton,e];exact ho
   have hvk':=urow_one (ho.at_ 2 rfl);rw[fa_o4];refine o_store 1 ho rfl (by kernel_rfl) hvk' (show 0+4 < 6 by omega) fun w8 ho=>?_;refine nextX ⟨_,done++[(pk1,obV x xk xc)],vk',rfl,hs',by simp;omega,hda',?_⟩ (mea ho rfl);rw[hsn];exact ho
end
section
open Eng Go.RowKit
theorem dict_lacks {s:List UInt8}{sub:Int→Ps.R}{m:Nat}{a:Int}{o:Ob}{met:List (List UInt8)}(h:¬Has s a):Ps.dict s sub (m+1) a o met=Ps.bad (lacks s a):=by
 rw[Ps.dict];unfold Has at h;unfold lacks;by_cases e1:(Lx.next s a).2=0
 ·have e2:(Lx.next s a).1.k=0:=Classical.not_not.1 fun h2=>h ⟨e1,h2⟩;rw[if_neg (by rw[e1];simp),if_neg (fun h3=>by rw[e2] at h3;exact absurd h3.1 (by decide)),if_pos e2,if_neg (by rw[e1];simp)]
 ·rw[if_pos e1,if_pos e1]
theorem pdict_ret (s:List UInt8)(hs:s.length≤1000000000)(n:Nat)(hn:n≤23)(hsub:PObj s n):PDict s n:=by
 intro b a M w h0 h1 hr;generalize hR:Ps.dict s (Ps.obj s n) (s.length+1) a Ps.dict0 []=R;refine lent_of (fun K ho hret hpan=>S_parse_reader_dict_ok ?_) hr;unfold S_parse_reader_dict;have ho:=ho.pair;refine o_oba ho fun b4 w1 ho=>?_;refine o_mapNewB ho fun b5 w2 ho=>?_;generalize hS0:(rmE b s a M).blk=S0 at *;have ho:OwnS S0 w w2 [.mapB b5 [],obE b4 ob0 nilS nilS,rmE b s a M]:=ho;have fall:∀{W:World} {L:List Ent} {e2:Ent} {N:Mem} (e:Int),OwnS S0 w W (L++([.two e2 (.mem N)]++[]))→M.le N→R=Ps.bad e→e≠0→pk K [wrongE e] W:=by
  intro W L e2 N e ho hle he h0;subst he;exact hpan h0 e2 N W _ (ho.front).split hle
 refine loop (fun vs w'=>∃(a':Int) (m:Nat) (o:Ob) (l:List Ps.Kv) (al:List (List UInt8×Value)) (N:Mem),vs=[]∧0≤a'∧a'≤s.length∧(l.length:Int)≤a'∧l.length≤8191∧l.length+m=s.length+1 ∧
   Ps.dict s (Ps.obj s n) m a' o (l.map (·.1))=R∧M.le N∧KvR N.A N.w al l∧(l.map (·.1)).Nodup∧Ps.Made o l ∧
   OwnS S0 w w' [.mapB b5 al,obE b4 ob0 nilS nilS,rmE b s a' N]) (fun _ w=>s.length - rdAt b w)
  ⟨a,s.length+1,Ps.dict0,[],[],M,rfl,h0,h1,by simpa using h0,by simp,by simp,hR,M.le_refl,trivial,List.nodup_nil,Ps.made0,ho⟩ ?_
 clear ho hR;rintro vs w4 ⟨a',m,o,l,al,N,rfl,ha0,ha1,hla,hmx,hml,hdict,hle,hkv,hnd,hmade,ho⟩ _;simp only[S_parse_reader_dict_0];obtain⟨m,rfl⟩:∃k,m=k+1:=⟨m - 1,by omega⟩;have hall:al.length=l.length:=by simpa using congrArg List.length hkv.fst
 have hat:rdAt b w4=a'.toNat:=rdAt_is (ho.at_ 2 rfl).1;refine c_rm ho 2 rfl (pnext_ret b s a' N w4 (by omega) (ho.at_ 2 rfl)) ?_ fun e2 w5 hn ho=>?_
 rotate_left
 ·rw[dict_lacks hn] at hdict;exact fall (L:=[_,_]) _ ho hle hdict.symm lacks_pos
 rintro _ N1 w5 hhas hle1 rfl ho;have hbd:=@Lx.next_bd s a' hhas.1 hhas.2;have hge:=Lx.skip_ge s a'.toNat;obtain⟨e1,e2⟩:=hhas;rw[Ps.dict] at hdict;generalize Lx.next s a'=x at *
 rw[if_neg (by rw[e1];simp)] at hdict;refine o_tok ho fun b6 w6 ho=>?_;refine tk_put 0 ho rfl fun w7 ho=>?_;have ho:OwnS S0 w w7 [tokE b6 x.1,.mapB b5 al,obE b4 ob0 nilS nilS,rmE b s x.1.t N1]:=ho;rw[tk_v ho 0 rfl];refine c_below ho (R:=fun v=>v=.bool (decide (x.1.k=6)&&decide (x.1.s=[62,62]))) (pword_ret x.1 6 [62,62] w7) ?_;rintro _ w8 rfl ho;cases e3:(decide (x.1.k=6)&&decide (x.1.s=[62,62])) with
|true=>
  simp only[Bool.and_eq_true,decide_eq_true_eq] at e3;rw[if_pos ⟨e3.1,e3.2⟩] at hdict;simp only[i_t];have hb7:∀{PK:PKT} {K:VWP},DoX prog (mBuild 27 #[(0,(.int .i64 7))]) w8 PK K=K (obV Ps.dict0 nilS nilS) w8:=do_eq (by kernel_rfl);rw[hb7];have ho:=(ho.nilU 27 6).nilU 9 1;refine o_oba ho fun b9 w9 ho=>?_;refine ob_put (o':=Ps.dict0) (vk':=nilS) (vc':=nilS) 0 rfl rfl ho rfl fun w10 ho=>?_;have ho:OwnS S0 w w10 ([obE b9 Ps.dict0 nilS nilS,keyE nilS [],kidE nilS 0 []]++([tokE b6 x.1]++[.mapB b5 al,obE b4 ob0 nilS nilS,rmE b s x.1.t N1])):=ho;have ho:=ho.front.tail;have ho:OwnS S0 w w10 ([obE b9 Ps.dict0 nilS nilS,keyE nilS [],kidE nilS 0 []]++([.mapB b5 al]++([obE b4 ob0 nilS nilS]++[rmE b s x.1.t N1]))):=ho;have ho:OwnS S0 w w10 [obE b9 Ps.dict0 nilS nilS,keyE nilS [],kidE nilS 0 [],obE b4 ob0 nilS nilS,.mapB b5 al,rmE b s x.1.t N1]:=
   ho.perm (List.Perm.append_left [obE b9 Ps.dict0 nilS nilS,keyE nilS [],kidE nilS 0 []] (List.Perm.swap _ _ _))
  refine pbuild (hkv.le hle1) hnd hmade hmx ho fun W N2 L v ho hle2 hv=>?_;subst hdict;exact hret rfl v N2 W L ho ((hle.trans hle1).trans hle2) hv
|false=>
 have e3':¬(x.1.k=6∧x.1.s=[62,62]):=fun h=>by
  rw[decide_eq_true h.1,decide_eq_true h.2] at e3;exact absurd e3 (by decide)
 rw[if_neg e3',if_neg e2] at hdict;simp only[i_f,fa_t4',tk_s ho 0 rfl];rw[lookT 1 ho rfl];simp only[ex];have hlook:∃o' vk vc,(lookA al x.1.s).getD (obV ob0 nilS nilS)=obV o' vk vc∧vk.oneCell'=true∧vc.oneCell'=true:=by
  cases hl:lookA al x.1.s with
 |none=>exact⟨ob0,nilS,nilS,rfl,rfl,rfl⟩
 |some v=>
   have hm:(x.1.s,v)∈al:=by
    unfold lookA at hl;obtain⟨p,hp,hpv⟩:=Option.map_eq_some_iff.1 hl;have h1:=List.find?_some hp;have h2:=List.mem_of_find?_eq_some hp;simp only[decide_eq_true_eq] at h1;rw[←h1,←hpv];exact h2
   obtain⟨q,_,hq⟩:=hkv.mem hm;obtain⟨vk,vc,cs,he,ha⟩:=hq.open;exact⟨q,vk,vc,he,ha.keys.one,ha.kids.one⟩
 obtain⟨o',vk7,vc7,hlv,ok7,oc7⟩:=hlook;rw[hlv];refine o_oba ho fun b7 w9 ho=>?_;refine ob_put (o':=o') 0 ok7 oc7 ho rfl fun w10 ho=>?_;have ho:=ho.tail;have ho:OwnS S0 w w10 [tokE b6 x.1,.mapB b5 al,obE b4 ob0 nilS nilS,rmE b s x.1.t N1]:=ho;have hmet:(lookA al x.1.s).isSome=decide (x.1.s∈l.map (·.1)):=by
  rw[←hkv.fst];cases hl:lookA al x.1.s with
 |none=>rw[decide_eq_false (lookA_none.1 hl)];rfl
 |some v=>
   have:¬x.1.s ∉ al.map (·.1):=fun h=>by rw[lookA_none.2 h] at hl;cases hl
   rw[decide_eq_true (Classical.not_not.1 this)];rfl
 refine join fun J hJ=>?_;rw[fa_t0,tk_k ho 0 rfl];simp only[rs];by_cases e4:x.1.k=4
 case neg=>
  rw[if_pos e4] at hdict;simp only[e4,ne_eq,not_false_eq_true,decide_true,i_t];exact throw (fall (L:=[_,_,_]) 3 ho (hle.trans hle1) hdict.symm (by decide))
 rw[if_neg (by rw[e4];simp)] at hdict;simp only[e4,ne_eq,not_true,decide_false,i_f,hmet];by_cases e5:x.1.s∈l.map (·.1)
 ·rw[if_pos e5] at hdict;simp only[decide_eq_true e5,i_t];exact throw (fall (L:=[_,_,_]) 9 ho (hle.trans hle1) hdict.symm (by decide))
 rw[if_neg e5] at hdict;simp only[decide_eq_false e5,i_f];rw[lenM 1 ho rfl,List.length_map] at *;simp only[rs];by_cases e6:l.length=8191
 ·rw[if_pos e6] at hdict;simp only[show (8191:Int)≤(al.length:Int) by omega,decide_true,i_t];exact throw (fall (L:=[_,_,_]) 6 ho (hle.trans hle1) hdict.symm (by decide))
 rw[if_neg e6] at hdict;simp only[decide_eq_false (show ¬(8191:Int)≤(al.length:Int) by omega),i_f];refine hJ _ _ fun _=>?_;unfold S_parse_reader_dict_3;have ho:=ho.drew;refine⟨fun W=>(tokE b6 x.1).is W,ho.at_ 0 rfl,?_⟩;refine hd_pure _ (fun _=>run_fa ft4) ?_;refine hd_do (.string ⟨x.1.s.toArray⟩) (fun W h=>run_load_cell nStr (cells_cell (T:=90) (cs:=tokC x.1) (i:=4) h rfl)) ?_;refine c_rm ho 3 rfl (pnext_ret b s x.1.t N1 _ (by omega) (ho.at_ 3 rfl)) ?_ fun e2 w11 hn ho=>?_
 rotate_left
 ·rw[obj_lacks hn,if_pos (show (Ps.bad (lacks s x.1.t)).2.2≠0 from lacks_pos)] at hdict;exact fun _ _ _ _ _ _=>fall (L:=[_,_,_]) _ ho (hle.trans hle1) hdict.symm lacks_pos
 rintro _ N2 w11 hhas2 hle2 rfl ho;refine⟨ho.at_ 0 rfl,?_⟩;have hbd2:=@Ps.obj_bd s n x.1.t;have hob:=hsub b x.1.t N2 w11 hhas2 (ho.at_ 3 rfl);generalize Ps.obj s n x.1.t=e at *;refine c_rm ho 3 rfl hob ?_ fun e2 w12 hz ho=>?_
 rotate_left
 ·rw[if_pos hz] at hdict;exact fun _ _ _ _ _ _=>fall (L:=[_,_,_]) _ ho ((hle.trans hle1).trans hle2) hdict.symm hz
 rintro u N3 w12 hz hle3 hu ho;have ho:OwnS S0 w w12 [tokE b6 x.1,.mapB b5 al,obE b4 ob0 nilS nilS,rmE b s e.2.1 N3]:=ho;refine⟨ho.at_ 0 rfl,?_⟩;have hln:lookA al x.1.s=none:=lookA_none.2 (by rw[hkv.fst];exact e5);refine o_mapAddB 1 Tryz.underlying229 Tryz.underlying9 ho rfl x.1.s u hln fun w13 ho=>⟨ho.at_ 0 rfl,?_⟩;rw[if_neg (by rw[hz];simp)] at hdict;have hbd3:=hbd2 hz;have hm2:=Ps.made_join (v:=e.1) hmade e5;have hnd2:((l++[(x.1.s,e.1)]).map (·.1)).Nodup:=by
  rw[List.map_append,List.nodup_append];refine⟨hnd,by simp,fun p hp q hq=>?_⟩;simp at hq;subst hq;exact fun h=>e5 (h▸hp)
 have h5:a' < e.2.1:=by
  have:=hbd3.1;omega
 refine nextX ⟨e.2.1,m,Ps.join o x.1.s e.1,l++[(x.1.s,e.1)],al++[(x.1.s,u)],N3,rfl,by omega,hbd3.2,by simp;omega,by simp;omega,by simp;omega,?_,((hle.trans hle1).trans hle2).trans hle3,(((hkv.le hle1).le hle2).le hle3).snoc hu,hnd2,hm2,ho.tail⟩ ?_
 ·rw[List.map_append];exact hdict
 ·have hat2:rdAt b w13=e.2.1.toNat:=rdAt_is (ho.at_ 3 rfl).1;show s.length - rdAt b w13 < s.length - rdAt b w4;rw[hat,hat2];exact meas ha0 h5 hbd3.2
theorem pobject_ret (s:List UInt8)(hs:s.length≤1000000000)(n:Nat)(hn:n≤24):PObj s n:=
 pobj_ret s hs (fun n hn h=>parr_ret s hs n hn h) (fun n hn h=>pdict_ret s hs n hn h) n hn
end
section
open Eng Go.RowKit
namespace Ps
theorem arr_err {s:List UInt8}{ok:Bool}{sub:Int→R}:∀(m:Nat) (a:Int) (acc:List Ob),(arr s ok sub m a acc).2.2≠0→arr s ok sub m a acc=bad (arr s ok sub m a acc).2.2
|0,_,_,_=>rfl
|m+1,a,acc,h=>by
  rw[arr] at h ⊢;split
  ·rename_i h1;rw[if_pos h1] at h;exact absurd rfl h
  rename_i h1
  rw[if_neg h1] at h;split
  ·rfl
  rename_i h2
  rw[if_neg h2] at h;split
  ·rfl
  rename_i h3
  rw[if_neg h3] at h;split
  ·rfl
  rename_i h4
  rw[if_neg h4] at h;exact arr_err m _ _ h
theorem dict_err {s:List UInt8}{sub:Int→R}:∀(m:Nat) (a:Int) (o:Ob) (met:List (List UInt8)),(dict s sub m a o met).2.2≠0→dict s sub m a o met=bad (dict s sub m a o met).2.2
|0,_,_,_,_=>rfl
|m+1,a,o,met,h=>by
  rw[dict] at h ⊢;split
  ·rfl
  rename_i h1
  rw[if_neg h1] at h;split
  ·rename_i h2;rw[if_pos h2] at h;exact absurd rfl h
  rename_i h2
  rw[if_neg h2] at h;split
  ·rfl
  rename_i h3
  rw[if_neg h3] at h;split
  ·rfl
  rename_i h4
  rw[if_neg h4] at h;split
  ·rfl
  rename_i h5
  rw[if_neg h5] at h;split
  ·rfl
  rename_i h6
  rw[if_neg h6] at h;split
  ·rfl
  rename_i h7
  rw[if_neg h7] at h;exact dict_err m _ _ _ h
theorem leaf_ok {s:List UInt8}{t:Lx.Tok}:(leaf s t).2.2=0:=by
 unfold leaf;split
 ·cases ref s t<;>rfl
 all_goals (repeat' split)<;>rfl
theorem obj_err {s:List UInt8}{n:Nat}{a:Int}(h:(obj s n a).2.2≠0):obj s n a=bad (obj s n a).2.2:=by
 have hob:obj s n a=_:=obj.eq_def s n a;simp only at hob
 revert h
 rw[hob];intro h;split
 ·rfl
 rename_i h1
 rw[if_neg h1] at h;split
 ·rfl
 rename_i h2
 rw[if_neg h2] at h;split
 ·rfl
 rename_i h3
 rw[if_neg h3] at h;cases n with
|zero=>rfl
|succ n=>
  simp only at h ⊢;split
  ·rename_i h4;rw[if_pos h4] at h;exact absurd leaf_ok h
  rename_i h4
  rw[if_neg h4] at h;split
  ·rename_i h5;rw[if_pos h5] at h;exact arr_err _ _ _ h
  ·rename_i h5;rw[if_neg h5] at h;exact dict_err _ _ _ _ h
end Ps
theorem psface_plain:plainB prog 116=true:=by kernel_rfl
theorem psread_ret (b:Nat)(s:List UInt8)(a:Int)(M:Mem)(w:World)(hs:s.length≤1000000000)(hr:(rmE b s a M).is w) :
  Ret prog 68 #[rdP b] w (fun v w'=>∃N u e2,M.le N∧v=.tuple #[u,.int .i64 (Ps.obj s 24 a).2.2]∧OV N.A N.w u (Ps.obj s 24 a).1∧((Ps.obj s 24 a).2.2=0→e2=rdE b s (Ps.obj s 24 a).2.1)∧Turn (rmE b s a M) (.two e2 (.mem N)) w w'):=by
 refine ret_of fun K hK=>S_parse_reader_read_ok ?_;unfold S_parse_reader_read;have ho:OwnS (rmE b s a M).blk w w [rmE b s a M]:=OwnS.lend hr;generalize hS0:(rmE b s a M).blk=S0 at ho;refine o_oba ho fun b2 w1 ho=>?_;refine o_new (fun b=>.pointer (some ⟨b,0,none⟩)) [.int .i64 0] 30 (fun _=>by kernel_rfl) ho fun b3 w2 ho=>?_;have ho:OwnS S0 w w2 [.cells b3 [.int .i64 0] 30,obE b2 ob0 nilS nilS,rmE b s a M]:=ho
 -- a syntax error
 have fail2:∀{W:World} {e2:Ent} {e:Int} {N:Mem},OwnS S0 w W [.cells b3 [.int .i64 0] 30,obE b2 ob0 nilS nilS,.two e2 (.mem N)]→M.le N→Ps.obj s 24 a=Ps.bad e→e≠0→S_parse_reader_read_p0 (.pointer (some ⟨b2,0,none⟩)) (.pointer (some ⟨b3,0,none⟩)) K [wrongE e] W:=by
  intro W e2 e N ho hle he h0;show pd prog _ K _ [wrongE e] W;unfold pd;refine leave_fn (by simp) psface_plain (S_parse_face_dok ?_);simp only[S_parse_face,recV,recM,wrongE,Eng.e_some Tryz.underlying20,rs,t_hit nfW,ex,i_t,i_f];refine o_store 0 ho rfl (by kernel_rfl) rfl (by simp) fun w7 ho=>?_;refine ret_v2 (rv_cell (ho.agg 1 rfl aggOb)) (rv_cell (AtV.cell nErr5 (ho.cell 0 rfl 0 rfl))) (hK _ _ ⟨N,obV ob0 nilS nilS,e2,hle,?_,?_,?_,?_⟩)
  ·rw[he];rfl
  ·rw[he];exact ob0_ov2
  ·rw[he];exact fun h=>absurd h h0
  ·have ho:OwnS S0 w w7 ([.cells b3 [.int .i64 e] 30,obE b2 ob0 nilS nilS]++([.two e2 (.mem N)]++[])):=ho;have ho:=ho.front;subst hS0;exact OwnS.back ho
 refine c_rm ho 2 rfl (pnext_ret b s a M w2 (by omega) (ho.at_ 2 rfl)) ?_ fun e2 w3 hn ho=>fail2 ho M.le_refl (obj_lacks hn) lacks_pos;rintro _ N w3 hh hle rfl ho;have hob:=pobject_ret s hs 24 (by omega) b a N w3 hh (ho.at_ 2 rfl);rw[show (24:Int) - ((24:Nat):Int)=0 by decide] at hob;refine c_rm ho 2 rfl hob ?_ fun e2 w4 hz ho=>fail2 ho hle (Ps.obj_err hz) hz;rintro u N2 w4 hz hle2 hu ho;obtain⟨xk,xc,xcs,rfl,hx⟩:=hu.open;refine ob_put 1 hx.keys.one hx.kids.one ho rfl fun w5 ho=>?_;refine o_store 0 ho rfl (by kernel_rfl) rfl (by simp) fun w6 ho=>?_;refine leave_fn (by simp) psface_plain (S_parse_face_dok ?_);simp only[S_parse_face,recV,recM,Eng.e_nil Tryz.underlying20,rs];have ho:OwnS S0 w w6 ([.cells b3 [.int .i64 0] 30,obE b2 (Ps.obj s 24 a).1 xk xc]++([.two (rdE b s (Ps.obj s 24 a).2.1) (.mem N2)]++[])):=ho;refine ret_v2 (rv_cell (ho.agg 1 rfl aggOb)) (rv_cell (AtV.cell nErr5 (ho.cell 0 rfl 0 rfl))) (hK _ _ ⟨N2,obV (Ps.obj s 24 a).1 xk xc,_,hle.trans hle2,?_,hx.ov,fun _=>rfl,?_⟩)
 ·rw[hz];rfl
 ·have ho:=ho.front;subst hS0;exact OwnS.back ho
theorem psobject_ret (s:List UInt8)(a:Int)(hs:s.length≤1000000000)(M:Mem)(w:World)(hM:M.has w):RetM prog 47 #[.string ⟨s.toArray⟩,.int .i64 a] M w (objR (Ps.object s a)):=by
 refine retM_of hM fun K hK=>S_parse_Object_ok ?_;unfold S_parse_Object;refine o_oba (OwnS.memS hM) fun b4 w1 ho=>?_;have fail:a < 0∨(s.length:Int) < a→DoX prog (mBuild 27 #[]) w1 (pk K) (fun t W=>DoX prog (mStore 27 (.pointer (some ⟨b4,0,none⟩)) t) W (pk K) fun _ W=>RetX prog [.cell (.pointer (some ⟨b4,0,none⟩)) 27,.val (.int .i64 0),.val (.int .i64 1)] W K):=by
  intro h;refine ret_bad 0 ho rfl fun w' ho=>?_;refine hK _ _ M _ 1 ho rfl M.le_refl ?_;rw[Ps.object,if_pos h];exact⟨_,rfl,ob0_ov2⟩
 by_cases h1:a < 0
 ·simp only[rs,decide_eq_true h1,g_un];exact fail (.inl h1)
 by_cases h2:(s.length:Int) < a
 ·simp only[rs,decide_eq_false h1,s_len Tryz.underlying9,decide_eq_true h2,g_un];exact fail (.inr h2)
 simp only[rs,decide_eq_false h1,s_len Tryz.underlying9,decide_eq_false h2,g_un];clear fail;have hPs:Ps.object s a=Ps.obj s 24 a:=by rw[Ps.object,if_neg (by omega)]
 rw[hPs] at hK;have hb1:∀{PK:PKT} {K:VWP},DoX prog (mBuild 118 #[(0,.string ⟨s.toArray⟩),(1,.int .i64 a)]) w1 PK K=K (.agg (rdC s a).toArray) w1:=do_eq (by kernel_rfl);rw[hb1];refine o_new (fun b=>.pointer (some ⟨b,0,none⟩)) (rdC s a) 118 (fun _=>by kernel_rfl) ho fun b22 w2 ho=>?_;have ho:OwnS M.A w w2 ([rdE b22 s a]++([obE b4 ob0 nilS nilS]++([.mem M]++[]))):=ho;have ho:OwnS M.A w w2 ([rdE b22 s a]++([.mem M]++([obE b4 ob0 nilS nilS]))):=ho.perm (List.Perm.append_left _ (List.Perm.swap _ _ _));have ho:=ho.pair;refine c_ret (psread_ret b22 s a M w2 hs (ho.at_ 0 rfl)) ?_;rintro _ w3 ⟨N,u,e2,hle,rfl,hu,he2,ht⟩;have ho:=(ho.turn 0 rfl ht).split;have ho:OwnS M.A w w3 [e2,.mem N,obE b4 ob0 nilS nilS]:=ho;simp only[ex];obtain⟨xk,xc,xcs,rfl,hx⟩:=hu.open;refine o_oba ho fun b8 w4 ho=>?_;refine ob_put 0 hx.keys.one hx.kids.one ho rfl fun w5 ho=>?_;have ho:OwnS M.A w w5 [obE b8 (Ps.obj s 24 a).1 xk xc,e2,.mem N,obE b4 ob0 nilS nilS]:=ho;simp only[rs];by_cases hz:(Ps.obj s 24 a).2.2=0
 case neg=>
  simp only[hz,ne_eq,not_false_eq_true,decide_true,i_t];refine ret_bad 3 ho rfl fun w' ho=>?_;refine hK _ _ N _ 2 ho rfl hle ?_;rw[Ps.obj_err hz];exact⟨_,rfl,ob0_ov2⟩
 simp only[hz,ne_eq,not_true,decide_false,i_f];rw[he2 hz] at ho;have ho:=ho.drew;refine⟨fun W=>(obE b8 (Ps.obj s 24 a).1 xk xc).is W∧(rdE b22 s (Ps.obj s 24 a).2.1).is W,⟨ho.at_ 0 rfl,ho.at_ 1 rfl⟩,?_⟩;refine hd_do (obV (Ps.obj s 24 a).1 xk xc) (fun W h=>run_load_at (AtV.agg aggOb (cs:=obC (Ps.obj s 24 a).1 xk xc) rfl fun j u hj=>by rw[Nat.zero_add];exact cells_cell (T:=27) h.1 hj)) ?_;refine hd_pure _ (fun _=>run_nil) (hd_pure _ (fun _=>run_fa fr1) (hd_do _ (fun W h=>rdr_a h.2) ?_));refine ob_put 3 hx.keys.one hx.kids.one ho rfl fun w6 ho=>⟨⟨ho.at_ 0 rfl,ho.at_ 1 rfl⟩,?_⟩;refine ret_v3 (rv_cell (ho.agg 3 rfl aggOb)) rv_val rv_val (hK _ _ N _ 2 ho rfl hle ?_);exact⟨_,by rw[hz];rfl,hx.ov⟩
end
section
open Go
structure Slt where
 num:Int
 kind:Int
 a:Int
 b:Int
 deriving DecidableEq
structure Sec where
 at_:Int
 slots:List Slt
 trailer:Ob
 prev:Int
 hybrid:Int
 own:Int
namespace Tl
open Lx (next Tok)
def xrefW:List UInt8:=[120,114,101,102]
def trailW:List UInt8:=[116,114,97,105,108,101,114]
def prevK:List UInt8:=[80,114,101,118]
def hybK:List UInt8:=[88,82,101,102,83,116,109]
def number (s:List UInt8)(at_ least most:Int):Option (Int×Int):=
 if (next s at_).2≠0∨(next s at_).1.k≠1∨(next s at_).1.n < least∨most < (next s at_).1.n then none else some ((next s at_).1.n,(next s at_).1.t)
def word (s:List UInt8)(at_:Int)(w:List UInt8):Option Int:=
 if (next s at_).2=0∧(next s at_).1.k=5∧(next s at_).1.s=w then some (next s at_).1.t else none
def entry (s:List UInt8)(at_ num:Int):Option (Slt×Int):=
 match number s at_ 0 2147483647 with
|none=>none
|some a=>match number s a.2 0 65535 with
 |none=>none
 |some b=>match word s b.2 [110] with
  |some t=>some (⟨num,1,a.1,b.1⟩,t)
  |none=>match word s b.2 [102] with
   |some t=>some (⟨num,0,a.1,b.1⟩,t)
   |none=>none
def lay (l:List Slt)(x:Slt):Option (List Slt):=
 if (l.map (·.num)).contains x.num then none else some ((l.takeWhile fun y=>decide (y.num < x.num))++x::(l.dropWhile fun y=>decide (y.num < x.num)))
def entries (s:List UInt8):Nat→Int→Int→List Slt→Option (List Slt×Int)
|0,_,at_,l=>some (l,at_)
|n+1,num,at_,l=>match entry s at_ num with
 |none=>none
 |some e=>match lay l e.1 with
  |none=>none
  |some l'=>entries s n (num+1) e.2 l'
def slots (s:List UInt8):Nat→Int→List Slt→Option (List Slt×Int)
|0,_,_=>none
|m+1,at_,l=>match word s at_ trailW with
 |some t=>some (l,t)
 |none=>match number s at_ 0 8191 with
  |none=>none
  |some f=>match number s f.2 0 (8192 - f.1) with
   |none=>none
   |some c=>match entries s c.1.toNat f.1 c.2 l with
    |none=>none
    |some r=>slots s m r.2 r.1
def leads (o:Ob)(k:List UInt8):Option Int:=match Vl.get o k with
|none=>some (-1)
|some v=>if v.k=2∧0≤v.n then some v.n else none
def sec0:Sec:=⟨0,[],Vl.ob0,0,0,0⟩
def bad:Sec×Int×Int:=(sec0,0,19)
def beginsX (s:List UInt8)(at_:Int):Bool:=decide (0≤at_)&&decide (at_≤(s.length:Int))&&xrefW.isPrefixOf (s.drop at_.toNat)
def finish (s:List UInt8)(at_:Int)(l:List Slt)(t:Int):Sec×Int×Int:=
 if (Ps.object s t).2.2≠0∨(Ps.object s t).1.k≠7 then bad
 else match leads (Ps.object s t).1 prevK,leads (Ps.object s t).1 hybK with
 |some p,some h=>(⟨at_,l,(Ps.object s t).1,p,h,0⟩,(Ps.object s t).2.1,0)
 |_,_=>bad
def read (s:List UInt8)(at_:Int):Sec×Int×Int:=
 if beginsX s at_=false then bad
 else match word s at_ xrefW with
 |none=>bad
 |some t=>match slots s (s.length+1) t [] with
  |none=>bad
  |some r=>finish s at_ r.1 r.2
def okS (x:Slt):Int:=
 if x.num < 0∨8191 < x.num then 2 else if x.kind < 0∨2 < x.kind then 10
 else if x.kind=2 then (if x.a < 1∨8191 < x.a∨x.b < 0∨8191 < x.b then 2 else 0) else if x.a < 0∨2147483647 < x.a∨x.b < 0∨65535 < x.b then 2 else 0
def checkG:Option Int→List Slt→Int
|_,[]=>0
|last,x::l=>if okS x≠0 then okS x else if last.any (fun n=>decide (x.num=n)) then 9 else if last.any (fun n=>decide (x.num < n)) then 1 else checkG (some x.num) l
def check (l:List Slt):Int:=checkG none l
end Tl
end
section
open Eng
def S_table_reader_slots_fn1 (t0 t1:Value)(w:World)(K:Ending→World→Prop):Prop:=
 DoX prog (mBox 49 t0) w (pk K) fun t2 w=>
 DoX prog (mBox 49 t1) w (pk K) fun t3 w=>
 DoX prog (mFA 49 t2 0) w (pk K) fun t5 w=>
 DoX prog (mLoad 3 t5) w (pk K) fun t6 w=>
 DoX prog (mFA 49 t3 0) w (pk K) fun t7 w=>
 DoX prog (mLoad 3 t7) w (pk K) fun t8 w=>
 DoX prog (mBin .sub 3 t6 t8) w (pk K) fun t9 w=>
 K (.returned t9) w
theorem S_table_reader_slots_fn1_eq (t0 t1:Value)(w:World)(K:Ending→World→Prop):wpX prog 10 [] [] none (bodyOf Tryz.f67) (topQ prog [.tmp 4] K) (startX [t0,t1]) [] w=S_table_reader_slots_fn1 t0 t1 w K:=by kernel_rfl
theorem S_table_reader_slots_fn1_ok {t0 t1:Value}{w:World}{K:Ending→World→Prop}(h:S_table_reader_slots_fn1 t0 t1 w K):Calls prog 67 #[t0,t1] w K:=
 calls_of_wpX Tryz.func67 rfl rfl rfl rfl (Eq.mpr (S_table_reader_slots_fn1_eq t0 t1 w K) h)
def S_table_must (t0:Value)(w:World)(K:Ending→World→Prop):Prop:=
 DoX prog (mUn .not t0) w (pk K) fun t3 w=>
 IfX t3 (DoX prog (mBuild 108 #[]) w (pk K) fun t4 w=>
 DoX prog (mIface 108 t4) w (pk K) fun t5 w=>
 DoX prog (mPanic t5) w (pk K) fun _ w=>
 K (.returned (.tuple #[])) w) (K (.returned (.tuple #[])) w)
theorem S_table_must_eq (t0:Value)(w:World)(K:Ending→World→Prop):wpX prog 6 [] [] none (bodyOf Tryz.f43) (topQ prog [] K) (startX [t0]) [] w=S_table_must t0 w K:=by kernel_rfl
theorem S_table_must_ok {t0:Value}{w:World}{K:Ending→World→Prop}(h:S_table_must t0 w K):Calls prog 43 #[t0] w K:=
 calls_of_wpX Tryz.func43 rfl rfl rfl rfl (Eq.mpr (S_table_must_eq t0 w K) h)
def S_table_reader_next_0 (t0 t2 t3 t4:Value)(w:World)(K:Ending→World→Prop):Prop:=
 DoX prog (mEq .eql 30 (.tmp 17) (.const (.int .i64 0)) t4 (.int .i64 0)) w (pk K) fun t18 w=>
 CallX prog 43 #[t18] w (pk K) fun t19 w=>
 DoX prog (mFA 90 t3 2) w (pk K) fun t21 w=>
 DoX prog (mLoad 3 t21) w (pk K) fun t22 w=>
 DoX prog (mNil t0) w (pk K) fun t23 w=>
 DoX prog (mFA 53 t23 1) w (pk K) fun t24 w=>
 DoX prog (mStore 3 t24 t22) w (pk K) fun _ w=>
 DoX prog (mLoad 90 t3) w (pk K) fun t25 w=>
 DoX prog (mStore 90 t2 t25) w (pk K) fun _ w=>
 RetX prog [.cell t2 90] w K
def S_table_reader_next (t0:Value)(w:World)(K:Ending→World→Prop):Prop:=
 DoX prog (mAlloc 90) w (pk K) fun t2 w=>
 HeldX w (fun S1 w=>
 HDo prog (fun _=>True) (mNil t0) fun t7=>
 HDo prog (fun _=>True) (mFA 53 t7 0) fun t8=>
 HDo prog S1 (mLoad 9 t8) fun t9=>
 HDo prog (fun _=>True) (mNil t0) fun t11=>
 HDo prog (fun _=>True) (mFA 53 t11 1) fun t12=>
 HDo prog S1 (mLoad 3 t12) fun t13=>
 (CallX prog 63 #[t9,t13] w (pm1 (pm1 (pm1 (pm1 (pm1 (pm1 (pm1 (pm1 (pm1 (pm1 (pm1 (pm1 (pk K))))))))))))) fun t14 w=>
 (HDo prog (fun _=>True) (mExt t14 0) fun t15=>
 HDo prog (fun _=>True) (mExt t14 1) fun t16=>
 DoX prog (mAlloc 90) w (pm1 (pm1 (pm1 (pm1 (pm1 (pm1 (pm1 (pm1 (pm1 (pm1 (pm1 (pm1 (pk K))))))))))))) fun t3 w=>
 S1 w∧(DoX prog (mStore 90 t3 t15) w (pm1 (pm1 (pm1 (pm1 (pm1 (pm1 (pm1 (pm1 (pm1 (pm1 (pm1 (pm1 (pk K))))))))))))) fun _ w=>
 (S_table_reader_next_0 t0 t2 t3 t16 w K))))∧(DoX prog (mAlloc 90) w (pm1 (pm1 (pm1 (pm1 (pm1 (pm1 (pm1 (pm1 (pm1 (pm1 (pm1 (pm1 (pk K))))))))))))) fun t3_1 w=>
 S1 w∧(CallX prog 63 #[t9,t13] w (pm1 (pm1 (pm1 (pm1 (pm1 (pm1 (pm1 (pm1 (pm1 (pm1 (pm1 (pm1 (pk K))))))))))))) fun t14_1 w=>
 (HDo prog (fun _=>True) (mExt t14_1 0) fun t15_1=>
 HDo prog (fun _=>True) (mExt t14_1 1) fun t16_1=>
 DoX prog (mStore 90 t3_1 t15_1) w (pm1 (pm1 (pm1 (pm1 (pm1 (pm1 (pm1 (pm1 (pm1 (pm1 (pm1 (pm1 (pk K))))))))))))) fun _ w=>
 (S_table_reader_next_0 t0 t2 t3_1 t16_1 w K)))))
theorem S_table_reader_next_eq (t0:Value)(w:World)(K:Ending→World→Prop):wpX prog 26 [] [] none (bodyOf Tryz.f45) (topQ prog [.cell 2 90] K) (startX [t0]) [] w=S_table_reader_next t0 w K:=by kernel_rfl
theorem S_table_reader_next_ok {t0:Value}{w:World}{K:Ending→World→Prop}(h:S_table_reader_next t0 w K):Calls prog 45 #[t0] w K:=
 calls_of_wpX Tryz.func45 rfl rfl rfl rfl (Eq.mpr (S_table_reader_next_eq t0 w K) h)
def S_table_whole (t0 t1:Value)(w:World)(K:Ending→World→Prop):Prop:=
 DoX prog (mBox 90 t0) w (pk K) fun t2 w=>
 DoX prog (mFA 90 t2 0) w (pk K) fun t5 w=>
 DoX prog (mLoad 3 t5) w (pk K) fun t6 w=>
 DoX prog (mEq .eql 3 (.tmp 6) (.const (.int .i64 1)) t6 (.int .i64 1)) w (pk K) fun t7 w=>
 GDo t7 true (fun E=>DoX prog (mFA 90 t2 3) w (pk K) E) w fun t9 w=>
 GDo t7 true (fun E=>DoX prog (mLoad 2 t9) w (pk K) E) w fun t10 w=>
 GDo t7 true (fun E=>DoX prog (mBin .geq 2 t10 (.int .i64 0)) w (pk K) E) w fun t11 w=>
 DoX prog (mPick t7 t11 (.bool false)) w (pk K) fun t12 w=>
 GDo t12 true (fun E=>DoX prog (mFA 90 t2 3) w (pk K) E) w fun t14 w=>
 GDo t12 true (fun E=>DoX prog (mLoad 2 t14) w (pk K) E) w fun t15 w=>
 GDo t12 true (fun E=>E t1 w) w fun t16 w=>
 GDo t12 true (fun E=>DoX prog (mBin .leq 2 t15 t16) w (pk K) E) w fun t17 w=>
 DoX prog (mPick t12 t17 (.bool false)) w (pk K) fun t18 w=>
 CallX prog 43 #[t18] w (pk K) fun t19 w=>
 DoX prog (mFA 90 t2 3) w (pk K) fun t20 w=>
 DoX prog (mLoad 2 t20) w (pk K) fun t21 w=>
 K (.returned t21) w
theorem S_table_whole_eq (t0 t1:Value)(w:World)(K:Ending→World→Prop):wpX prog 22 [] [] none (bodyOf Tryz.f64) (topQ prog [.tmp 4] K) (startX [t0,t1]) [] w=S_table_whole t0 t1 w K:=by kernel_rfl
theorem S_table_whole_ok {t0 t1:Value}{w:World}{K:Ending→World→Prop}(h:S_table_whole t0 t1 w K):Calls prog 64 #[t0,t1] w K:=
 calls_of_wpX Tryz.func64 rfl rfl rfl rfl (Eq.mpr (S_table_whole_eq t0 t1 w K) h)
def S_table_reader_entry_0 (t4 t5:Value)(w:World)(K:Ending→World→Prop):Prop:=
 DoX prog (mLoad 49 t5) w (pk K) fun t35 w=>
 DoX prog (mStore 49 t4 t35) w (pk K) fun _ w=>
 RetX prog [.cell t4 49] w K
def S_table_reader_entry (t0 t1:Value)(w:World)(K:Ending→World→Prop):Prop:=
 DoX prog (mAlloc 49) w (pk K) fun t4 w=>
 CallX prog 45 #[t0] w (pk K) fun t9 w=>
 CallX prog 64 #[t9,(.int .i64 2147483647)] w (pk K) fun t10 w=>
 CallX prog 45 #[t0] w (pk K) fun t12 w=>
 CallX prog 64 #[t12,(.int .i64 65535)] w (pk K) fun t13 w=>
 DoX prog (mBuild 49 #[(0,t1),(2,t10),(3,t13)]) w (pk K) fun t14 w=>
 DoX prog (mAlloc 49) w (pk K) fun t5 w=>
 DoX prog (mStore 49 t5 t14) w (pk K) fun _ w=>
 CallX prog 45 #[t0] w (pk K) fun t16 w=>
 DoX prog (mAlloc 90) w (pk K) fun t6 w=>
 DoX prog (mStore 90 t6 t16) w (pk K) fun _ w=>
 DoX prog (mFA 90 t6 0) w (pk K) fun t17 w=>
 DoX prog (mLoad 3 t17) w (pk K) fun t18 w=>
 DoX prog (mEq .eql 3 (.tmp 18) (.const (.int .i64 5)) t18 (.int .i64 5)) w (pk K) fun t19 w=>
 GDo t19 true (fun E=>DoX prog (mFA 90 t6 4) w (pk K) E) w fun t21 w=>
 GDo t19 true (fun E=>DoX prog (mLoad 9 t21) w (pk K) E) w fun t22 w=>
 GDo t19 true (fun E=>DoX prog (mEq .eql 9 (.tmp 22) (.const (.string ⟨#[110]⟩)) t22 (.string ⟨#[110]⟩)) w (pk K) E) w fun t23 w=>
 GDo t19 true (fun E=>E t23 w) w fun t24 w=>
 GDo t24 false (fun E=>DoX prog (mFA 90 t6 4) w (pk K) E) w fun t25 w=>
 GDo t24 false (fun E=>DoX prog (mLoad 9 t25) w (pk K) E) w fun t26 w=>
 GDo t24 false (fun E=>DoX prog (mEq .eql 9 (.tmp 26) (.const (.string ⟨#[102]⟩)) t26 (.string ⟨#[102]⟩)) w (pk K) E) w fun t27 w=>
 GDo t19 true (fun E=>DoX prog (mPick t24 (.bool true) t27) w (pk K) E) w fun t28 w=>
 DoX prog (mPick t19 t28 (.bool false)) w (pk K) fun t29 w=>
 CallX prog 43 #[t29] w (pk K) fun t30 w=>
 JoinX (fun J1=>
 DoX prog (mFA 90 t6 4) w (pk K) fun t31 w=>
 DoX prog (mLoad 9 t31) w (pk K) fun t32 w=>
 DoX prog (mEq .eql 9 (.tmp 32) (.const (.string ⟨#[110]⟩)) t32 (.string ⟨#[110]⟩)) w (pk K) fun t33 w=>
 IfX t33 (DoX prog (mFA 49 t5 1) w (pk K) fun t34 w=>
 DoX prog (mStore 3 t34 (.int .i64 1)) w (pk K) fun _ w=>
 J1 [] w) (J1 [] w)) (fun vs1 w=>∀_:Sg,S_table_reader_entry_0 t4 t5 w K)
theorem S_table_reader_entry_eq (t0 t1:Value)(w:World)(K:Ending→World→Prop):wpX prog 36 [(6,[])] [] none (bodyOf Tryz.f65) (topQ prog [.cell 4 49] K) (startX [t0,t1]) [] w=S_table_reader_entry t0 t1 w K:=by kernel_rfl
theorem S_table_reader_entry_ok {t0 t1:Value}{w:World}{K:Ending→World→Prop}(h:S_table_reader_entry t0 t1 w K):Calls prog 65 #[t0,t1] w K:=
 calls_of_wpX Tryz.func65 rfl rfl rfl rfl (Eq.mpr (S_table_reader_entry_eq t0 t1 w K) h)
def S_table_reader_slots_2 (t0 t3 t5 t35 t36:Value)(w:World)(N1 N3:List Value→World→Prop)(K:Ending→World→Prop):Prop:=
 DoX prog (mBin .lss 3 t36 t35) w (pk K) fun t37 w=>
 IfX t37 (DoX prog (mBin .add 3 t5 t36) w (pk K) fun t43 w=>
 DoX prog (mLook 110 t3 t43 true) w (pk K) fun t44 w=>
 DoX prog (mExt t44 0) w (pk K) fun t45 w=>
 DoX prog (mExt t44 1) w (pk K) fun t46 w=>
 DoX prog (mAlloc 49) w (pk K) fun t8 w=>
 DoX prog (mStore 49 t8 t45) w (pk K) fun _ w=>
 DoX prog (mBin .add 3 t5 t36) w (pk K) fun t50 w=>
 CallX prog 65 #[t0,t50] w (pk K) fun t51 w=>
 DoX prog (mAlloc 49) w (pk K) fun t10 w=>
 DoX prog (mStore 49 t10 t51) w (pk K) fun _ w=>
 DoX prog (mUn .not t46) w (pk K) fun t53 w=>
 CallX prog 43 #[t53] w (pk K) fun t54 w=>
 DoX prog (mBin .add 3 t5 t36) w (pk K) fun t58 w=>
 DoX prog (mLoad 49 t10) w (pk K) fun t59 w=>
 DoX prog (mMapU 110 t3 t58 t59) w (pk K) fun _ w=>
 DoX prog (mBin .add 3 t36 (.int .i64 1)) w (pk K) fun t60 w=>
 N3 [t60] w) (N1 [] w)
def S_table_reader_slots_1 (t11 t62:Value)(w:World)(N2:List Value→World→Prop)(K:Ending→World→Prop):Prop:=
 DoX prog (mNext t62 false 0) w (pk K) fun t63 w=>
 DoX prog (mExt t63 0) w (pk K) fun t64 w=>
 IfX t64 (DoX prog (mEntry t62) w (pk K) fun t65 w=>
 DoX prog (mExt t65 1) w (pk K) fun t66 w=>
 DoX prog (mAlloc 49) w (pk K) fun t13 w=>
 DoX prog (mStore 49 t13 t66) w (pk K) fun _ w=>
 DoX prog (mLoad 49 t13) w (pk K) fun t68 w=>
 DoX prog (mBuildS 23 1 #[(0,t68)]) w (pk K) fun t69 w=>
 DoX prog (mB .append #[23,23] 23 #[false,false] #[t11,t69]) w (pk K) fun t70 w=>
 N2 [t70] w) (CallX prog 66 #[t11,(.func (.func 67) #[] #[])] w (pk K) fun t72 w=>
 K (.returned t11) w)
def S_table_reader_slots_0 (t0 t3:Value)(w:World)(N1:List Value→World→Prop)(K:Ending→World→Prop):Prop:=
 CallX prog 45 #[t0] w (pk K) fun t16 w=>
 DoX prog (mAlloc 90) w (pk K) fun t4 w=>
 DoX prog (mStore 90 t4 t16) w (pk K) fun _ w=>
 DoX prog (mFA 90 t4 0) w (pk K) fun t17 w=>
 DoX prog (mLoad 3 t17) w (pk K) fun t18 w=>
 DoX prog (mEq .eql 3 (.tmp 18) (.const (.int .i64 5)) t18 (.int .i64 5)) w (pk K) fun t19 w=>
 GDo t19 true (fun E=>DoX prog (mFA 90 t4 4) w (pk K) E) w fun t21 w=>
 GDo t19 true (fun E=>DoX prog (mLoad 9 t21) w (pk K) E) w fun t22 w=>
 GDo t19 true (fun E=>DoX prog (mEq .eql 9 (.tmp 22) (.const (.string ⟨#[116,114,97,105,108,101,114]⟩)) t22 (.string ⟨#[116,114,97,105,108,101,114]⟩)) w (pk K) E) w fun t23 w=>
 DoX prog (mPick t19 t23 (.bool false)) w (pk K) fun t24 w=>
 IfX t24 (DoX prog (mRange 110 t3) w (pk K) fun t62 w=>
 LoopX [(.slice none 0 0)] w (fun vs2 w N2=>∀_:Sg,S_table_reader_slots_1 (vs2.getD 0 undef) t62 w N2 K)) (DoX prog (mLoad 90 t4) w (pk K) fun t25 w=>
 CallX prog 64 #[t25,(.int .i64 8191)] w (pk K) fun t26 w=>
 CallX prog 45 #[t0] w (pk K) fun t28 w=>
 CallX prog 64 #[t28,(.int .i64 8192)] w (pk K) fun t29 w=>
 DoX prog (mBin .add 3 t26 t29) w (pk K) fun t32 w=>
 DoX prog (mBin .leq 3 t32 (.int .i64 8192)) w (pk K) fun t33 w=>
 CallX prog 43 #[t33] w (pk K) fun t34 w=>
 LoopX [(.int .i64 0)] w (fun vs3 w N3=>∀_:Sg,S_table_reader_slots_2 t0 t3 t26 t29 (vs3.getD 0 undef) w N1 N3 K))
def S_table_reader_slots (t0:Value)(w:World)(K:Ending→World→Prop):Prop:=
 DoX prog (mMap 110 none) w (pk K) fun t14 w=>
 LoopX [] w (fun vs1 w N1=>∀_:Sg,S_table_reader_slots_0 t0 t14 w N1 K)
theorem S_table_reader_slots_eq (t0:Value)(w:World)(K:Ending→World→Prop):wpX prog 74 [] [(2,[]),(8,[36]),(17,[11])] none (bodyOf Tryz.f46) (topQ prog [.tmp 2] K) (startX [t0]) [] w=S_table_reader_slots t0 w K:=by kernel_rfl
theorem S_table_reader_slots_ok {t0:Value}{w:World}{K:Ending→World→Prop}(h:S_table_reader_slots t0 w K):Calls prog 46 #[t0] w K:=
 calls_of_wpX Tryz.func46 rfl rfl rfl rfl (Eq.mpr (S_table_reader_slots_eq t0 w K) h)
def S_table_leads (t0 t1:Value)(w:World)(K:Ending→World→Prop):Prop:=
 DoX prog (mBox 27 t0) w (pk K) fun t2 w=>
 DoX prog (mLoad 27 t2) w (pk K) fun t8 w=>
 CallX prog 69 #[t8,t1] w (pk K) fun t10 w=>
 DoX prog (mExt t10 0) w (pk K) fun t11 w=>
 DoX prog (mExt t10 1) w (pk K) fun t12 w=>
 DoX prog (mAlloc 27) w (pk K) fun t5 w=>
 DoX prog (mStore 27 t5 t11) w (pk K) fun _ w=>
 DoX prog (mUn .not t12) w (pk K) fun t14 w=>
 IfX t14 (K (.returned (.int .i64 (-1))) w) (DoX prog (mFA 27 t5 0) w (pk K) fun t15 w=>
 DoX prog (mLoad 3 t15) w (pk K) fun t16 w=>
 DoX prog (mEq .eql 3 (.tmp 16) (.const (.int .i64 2)) t16 (.int .i64 2)) w (pk K) fun t17 w=>
 GDo t17 true (fun E=>DoX prog (mFA 27 t5 1) w (pk K) E) w fun t19 w=>
 GDo t17 true (fun E=>DoX prog (mLoad 2 t19) w (pk K) E) w fun t20 w=>
 GDo t17 true (fun E=>DoX prog (mBin .geq 2 t20 (.int .i64 0)) w (pk K) E) w fun t21 w=>
 DoX prog (mPick t17 t21 (.bool false)) w (pk K) fun t22 w=>
 CallX prog 43 #[t22] w (pk K) fun t23 w=>
 DoX prog (mFA 27 t5 1) w (pk K) fun t24 w=>
 DoX prog (mLoad 2 t24) w (pk K) fun t25 w=>
 K (.returned t25) w)
theorem S_table_leads_eq (t0 t1:Value)(w:World)(K:Ending→World→Prop):wpX prog 26 [] [] none (bodyOf Tryz.f48) (topQ prog [.tmp 4] K) (startX [t0,t1]) [] w=S_table_leads t0 t1 w K:=by kernel_rfl
theorem S_table_leads_ok {t0 t1:Value}{w:World}{K:Ending→World→Prop}(h:S_table_leads t0 t1 w K):Calls prog 48 #[t0,t1] w K:=
 calls_of_wpX Tryz.func48 rfl rfl rfl rfl (Eq.mpr (S_table_leads_eq t0 t1 w K) h)
def S_table_face (t0 r:Value)(w:World)(K:Ending→World→Prop):Prop:=
 DoX prog (mEq .eql 20 (.tmp 5) (.const .nilIface) r .nilIface) w (pk K) fun t7 w=>
 IfX t7 (K (.returned (.tuple #[])) w) (DoX prog (mTA r 20 108 true) w (pk K) fun t8 w=>
 DoX prog (mExt t8 1) w (pk K) fun t9 w=>
 DoX prog (mExt t8 0) w (pk K) fun t10 w=>
 IfX t9 (DoX prog (mAlloc 108) w (pk K) fun t3 w=>
 DoX prog (mStore 108 t3 t10) w (pk K) fun _ w=>
 DoX prog (mNil t0) w (pk K) fun t12 w=>
 DoX prog (mStore 30 t12 (.int .i64 19)) w (pk K) fun _ w=>
 K (.returned (.tuple #[])) w) (DoX prog (mPanic r) w (pk K) fun _ w=>
 K (.returned (.tuple #[])) w))
theorem S_table_face_eq (t0 r:Value)(w:World)(K:Ending→World→Prop):wpX prog 13 [] [] none (sndOf (bodyOf Tryz.f42)) (topD prog [] K) (upd (startX [t0]) 5 r) [] w=S_table_face t0 r w K:=by kernel_rfl
theorem S_table_face_dok {t0:Value}{u:FrameMode}{w:World}{R:Ending→FrameMode→World→Prop}(h:S_table_face t0 (recV u) w (fun e w=>R e (recM u) w)):CallsD prog 42 #[t0] u w R:=
 callsD_recover Tryz.func42 rfl rfl rfl rfl rfl rfl rfl rfl (Eq.mpr (S_table_face_eq t0 (recV u) w _) h)
def S_table_reader_section_p0 (x0:Value)(x1:Value)(K:Ending→World→Prop):=pd prog [.cell x0 29,.cell x1 30] K [{ target:=.fn (.func 42) #[],args:=#[x1] }]
def S_table_reader_section_0 (t0 t2 t3 t5 t6 t7:Value)(w:World)(K:Ending→World→Prop):Prop:=
 DoX prog (mEq .eql 30 (.tmp 57) (.const (.int .i64 0)) t7 (.int .i64 0)) w (S_table_reader_section_p0 t2 t3 K) fun t58 w=>
 GDo t58 true (fun E=>DoX prog (mFA 27 t5 0) w (S_table_reader_section_p0 t2 t3 K) E) w fun t60 w=>
 GDo t58 true (fun E=>DoX prog (mLoad 3 t60) w (S_table_reader_section_p0 t2 t3 K) E) w fun t61 w=>
 GDo t58 true (fun E=>DoX prog (mEq .eql 3 (.tmp 61) (.const (.int .i64 7)) t61 (.int .i64 7)) w (S_table_reader_section_p0 t2 t3 K) E) w fun t62 w=>
 DoX prog (mPick t58 t62 (.bool false)) w (S_table_reader_section_p0 t2 t3 K) fun t63 w=>
 CallX prog 43 #[t63] w (S_table_reader_section_p0 t2 t3 K) fun t64 w=>
 DoX prog (mNil t0) w (S_table_reader_section_p0 t2 t3 K) fun t67 w=>
 DoX prog (mFA 53 t67 1) w (S_table_reader_section_p0 t2 t3 K) fun t68 w=>
 DoX prog (mStore 3 t68 t6) w (S_table_reader_section_p0 t2 t3 K) fun _ w=>
 HeldX w (fun S3 w=>
 HDo prog S3 (mLoad 27 t5) fun t69=>
 HDo prog S3 (mLoad 27 t5) fun t70=>
 HDo prog S3 (mLoad 27 t5) fun t72=>
 HDo prog (fun _=>True) (mFA 29 t2 2) fun t74=>
 CallX prog 48 #[t70,(.string ⟨#[80,114,101,118]⟩)] w (pm1 (pm1 (pm1 (pm1 (pm1 (pm1 (S_table_reader_section_p0 t2 t3 K))))))) fun t71 w=>
 S3 w∧(CallX prog 48 #[t72,(.string ⟨#[88,82,101,102,83,116,109]⟩)] w (pm1 (pm1 (pm1 (pm1 (pm1 (pm1 (S_table_reader_section_p0 t2 t3 K))))))) fun t73 w=>
 S3 w∧(DoX prog (mStore 27 t74 t69) w (pm1 (pm1 (pm1 (pm1 (pm1 (pm1 (S_table_reader_section_p0 t2 t3 K))))))) fun _ w=>
 S3 w∧(HDo prog (fun _=>True) (mFA 29 t2 3) fun t75=>
 DoX prog (mStore 3 t75 t71) w (pm1 (pm1 (pm1 (pm1 (pm1 (pm1 (S_table_reader_section_p0 t2 t3 K))))))) fun _ w=>
 S3 w∧(HDo prog (fun _=>True) (mFA 29 t2 4) fun t76=>
 DoX prog (mStore 3 t76 t73) w (pm1 (pm1 (pm1 (pm1 (pm1 (pm1 (S_table_reader_section_p0 t2 t3 K))))))) fun _ w=>
 (DoX prog (mLoad 29 t2) w (S_table_reader_section_p0 t2 t3 K) fun t77 w=>
 DoX prog (mStore 29 t2 t77) w (S_table_reader_section_p0 t2 t3 K) fun _ w=>
 DoX prog (mStore 30 t3 (.int .i64 0)) w (S_table_reader_section_p0 t2 t3 K) fun _ w=>
 Leave prog [.cell t2 29,.cell t3 30] K [{ target:=.fn (.func 42) #[],args:=#[t3] }] .returning w))))))
def S_table_reader_section (t0:Value)(w:World)(K:Ending→World→Prop):Prop:=
 DoX prog (mAlloc 29) w (pk K) fun t2 w=>
 DoX prog (mAlloc 30) w (pk K) fun t3 w=>
 DoX prog (mNil t0) w (S_table_reader_section_p0 t2 t3 K) fun t9 w=>
 DoX prog (mFA 53 t9 1) w (S_table_reader_section_p0 t2 t3 K) fun t10 w=>
 DoX prog (mLoad 3 t10) w (S_table_reader_section_p0 t2 t3 K) fun t11 w=>
 DoX prog (mFA 29 t2 0) w (S_table_reader_section_p0 t2 t3 K) fun t12 w=>
 DoX prog (mStore 3 t12 t11) w (S_table_reader_section_p0 t2 t3 K) fun _ w=>
 QuietX w (fun C1=>
 QDo prog C1 (mNil t0) fun t14=>
 QDo prog C1 (mFA 53 t14 0) fun t15=>
 QDo prog C1 (mLoad 9 t15) fun t16=>
 QDo prog C1 (mNil t0) fun t18=>
 QDo prog C1 (mFA 53 t18 1) fun t19=>
 QDo prog C1 (mLoad 3 t19) fun t20=>
 QCall prog C1 44 #[t16,(.string ⟨#[120,114,101,102]⟩),t20] fun t21=>
 ∀w,C1 w →
 CallX prog 43 #[t21] w (S_table_reader_section_p0 t2 t3 K) fun t22 w=>
 CallX prog 45 #[t0] w (S_table_reader_section_p0 t2 t3 K) fun t24 w=>
 DoX prog (mAlloc 90) w (S_table_reader_section_p0 t2 t3 K) fun t4 w=>
 DoX prog (mStore 90 t4 t24) w (S_table_reader_section_p0 t2 t3 K) fun _ w=>
 DoX prog (mFA 90 t4 0) w (S_table_reader_section_p0 t2 t3 K) fun t25 w=>
 DoX prog (mLoad 3 t25) w (S_table_reader_section_p0 t2 t3 K) fun t26 w=>
 DoX prog (mEq .eql 3 (.tmp 26) (.const (.int .i64 5)) t26 (.int .i64 5)) w (S_table_reader_section_p0 t2 t3 K) fun t27 w=>
 GDo t27 true (fun E=>DoX prog (mFA 90 t4 4) w (S_table_reader_section_p0 t2 t3 K) E) w fun t29 w=>
 GDo t27 true (fun E=>DoX prog (mLoad 9 t29) w (S_table_reader_section_p0 t2 t3 K) E) w fun t30 w=>
 GDo t27 true (fun E=>DoX prog (mEq .eql 9 (.tmp 30) (.const (.string ⟨#[120,114,101,102]⟩)) t30 (.string ⟨#[120,114,101,102]⟩)) w (S_table_reader_section_p0 t2 t3 K) E) w fun t31 w=>
 DoX prog (mPick t27 t31 (.bool false)) w (S_table_reader_section_p0 t2 t3 K) fun t32 w=>
 GDo t32 true (fun E=>DoX prog (mFA 90 t4 1) w (S_table_reader_section_p0 t2 t3 K) E) w fun t34 w=>
 GDo t32 true (fun E=>DoX prog (mLoad 3 t34) w (S_table_reader_section_p0 t2 t3 K) E) w fun t35 w=>
 GDo t32 true (fun E=>DoX prog (mFA 29 t2 0) w (S_table_reader_section_p0 t2 t3 K) E) w fun t36 w=>
 GDo t32 true (fun E=>DoX prog (mLoad 3 t36) w (S_table_reader_section_p0 t2 t3 K) E) w fun t37 w=>
 GDo t32 true (fun E=>DoX prog (mEq .eql 3 (.tmp 35) (.tmp 37) t35 t37) w (S_table_reader_section_p0 t2 t3 K) E) w fun t38 w=>
 DoX prog (mPick t32 t38 (.bool false)) w (S_table_reader_section_p0 t2 t3 K) fun t39 w=>
 CallX prog 43 #[t39] w (S_table_reader_section_p0 t2 t3 K) fun t40 w=>
 CallX prog 46 #[t0] w (S_table_reader_section_p0 t2 t3 K) fun t42 w=>
 DoX prog (mFA 29 t2 1) w (S_table_reader_section_p0 t2 t3 K) fun t43 w=>
 DoX prog (mStore 23 t43 t42) w (S_table_reader_section_p0 t2 t3 K) fun _ w=>
 HeldX w (fun S2 w=>
 HDo prog (fun _=>True) (mNil t0) fun t46=>
 HDo prog (fun _=>True) (mFA 53 t46 0) fun t47=>
 HDo prog S2 (mLoad 9 t47) fun t48=>
 HDo prog (fun _=>True) (mNil t0) fun t50=>
 HDo prog (fun _=>True) (mFA 53 t50 1) fun t51=>
 HDo prog S2 (mLoad 3 t51) fun t52=>
 (CallX prog 47 #[t48,t52] w (pm1 (pm1 (pm1 (pm1 (pm1 (pm1 (pm1 (pm1 (pm1 (pm1 (pm1 (pm1 (pm1 (pm1 (S_table_reader_section_p0 t2 t3 K))))))))))))))) fun t53 w=>
 (HDo prog (fun _=>True) (mExt t53 0) fun t54=>
 HDo prog (fun _=>True) (mExt t53 1) fun t55=>
 HDo prog (fun _=>True) (mExt t53 2) fun t56=>
 DoX prog (mAlloc 27) w (pm1 (pm1 (pm1 (pm1 (pm1 (pm1 (pm1 (pm1 (pm1 (pm1 (pm1 (pm1 (pm1 (pm1 (S_table_reader_section_p0 t2 t3 K))))))))))))))) fun t5 w=>
 S2 w∧(DoX prog (mStore 27 t5 t54) w (pm1 (pm1 (pm1 (pm1 (pm1 (pm1 (pm1 (pm1 (pm1 (pm1 (pm1 (pm1 (pm1 (pm1 (S_table_reader_section_p0 t2 t3 K))))))))))))))) fun _ w=>
 (S_table_reader_section_0 t0 t2 t3 t5 t55 t56 w K))))∧(DoX prog (mAlloc 27) w (pm1 (pm1 (pm1 (pm1 (pm1 (pm1 (pm1 (pm1 (pm1 (pm1 (pm1 (pm1 (pm1 (pm1 (S_table_reader_section_p0 t2 t3 K))))))))))))))) fun t5_1 w=>
 S2 w∧(CallX prog 47 #[t48,t52] w (pm1 (pm1 (pm1 (pm1 (pm1 (pm1 (pm1 (pm1 (pm1 (pm1 (pm1 (pm1 (pm1 (pm1 (S_table_reader_section_p0 t2 t3 K))))))))))))))) fun t53_1 w=>
 (HDo prog (fun _=>True) (mExt t53_1 0) fun t54_1=>
 HDo prog (fun _=>True) (mExt t53_1 1) fun t55_1=>
 HDo prog (fun _=>True) (mExt t53_1 2) fun t56_1=>
 DoX prog (mStore 27 t5_1 t54_1) w (pm1 (pm1 (pm1 (pm1 (pm1 (pm1 (pm1 (pm1 (pm1 (pm1 (pm1 (pm1 (pm1 (pm1 (S_table_reader_section_p0 t2 t3 K))))))))))))))) fun _ w=>
 (S_table_reader_section_0 t0 t2 t3 t5_1 t55_1 t56_1 w K))))))
theorem S_table_reader_section_eq (t0:Value)(w:World)(K:Ending→World→Prop):wpX prog 78 [] [] none (bodyOf Tryz.f21) (topQ prog [.cell 2 29,.cell 3 30] K) (startX [t0]) [] w=S_table_reader_section t0 w K:=by kernel_rfl
theorem S_table_reader_section_ok {t0:Value}{w:World}{K:Ending→World→Prop}(h:S_table_reader_section t0 w K):Calls prog 21 #[t0] w K:=
 calls_of_wpX Tryz.func21 rfl rfl rfl rfl (Eq.mpr (S_table_reader_section_eq t0 w K) h)
def S_table_Read (t0 t1:Value)(w:World)(K:Ending→World→Prop):Prop:=
 DoX prog (mAlloc 29) w (pk K) fun t4 w=>
 DoX prog (mBuild 53 #[(0,t0),(1,t1)]) w (pk K) fun t12 w=>
 DoX prog (mBox 53 t12) w (pk K) fun t13 w=>
 CallX prog 21 #[t13] w (pk K) fun t16 w=>
 DoX prog (mExt t16 0) w (pk K) fun t17 w=>
 DoX prog (mExt t16 1) w (pk K) fun t18 w=>
 DoX prog (mAlloc 29) w (pk K) fun t8 w=>
 DoX prog (mStore 29 t8 t17) w (pk K) fun _ w=>
 DoX prog (mEq .neq 30 (.tmp 19) (.const (.int .i64 0)) t18 (.int .i64 0)) w (pk K) fun t20 w=>
 IfX t20 (DoX prog (mBuild 29 #[]) w (pk K) fun t21 w=>
 DoX prog (mStore 29 t4 t21) w (pk K) fun _ w=>
 RetX prog [.cell t4 29,.val (.int .i64 0),.val t18] w K) (HeldX w (fun S1 w=>
 HDo prog S1 (mLoad 29 t8) fun t23=>
 HDo prog (fun _=>True) (mNil t13) fun t25=>
 HDo prog (fun _=>True) (mFA 53 t25 1) fun t26=>
 HDo prog S1 (mLoad 3 t26) fun t27=>
 DoX prog (mStore 29 t4 t23) w (pm1 (pm1 (pm1 (pm1 (pm1 (pm1 (pm1 (pk K)))))))) fun _ w=>
 S1 w∧(RetX prog [.cell t4 29,.val t27,.val (.int .i64 0)] w K)))
theorem S_table_Read_eq (t0 t1:Value)(w:World)(K:Ending→World→Prop):wpX prog 28 [] [] none (bodyOf Tryz.f8) (topQ prog [.cell 4 29,.tmp 5,.tmp 6] K) (startX [t0,t1]) [] w=S_table_Read t0 t1 w K:=by kernel_rfl
theorem S_table_Read_ok {t0 t1:Value}{w:World}{K:Ending→World→Prop}(h:S_table_Read t0 t1 w K):Calls prog 8 #[t0,t1] w K:=
 calls_of_wpX Tryz.func8 rfl rfl rfl rfl (Eq.mpr (S_table_Read_eq t0 t1 w K) h)
def S_table_fits (t0:Value)(w:World)(K:Ending→World→Prop):Prop:=
 DoX prog (mBox 49 t0) w (pk K) fun t1 w=>
 DoX prog (mFA 49 t1 1) w (pk K) fun t3 w=>
 DoX prog (mLoad 3 t3) w (pk K) fun t4 w=>
 DoX prog (mEq .eql 3 (.tmp 4) (.const (.int .i64 2)) t4 (.int .i64 2)) w (pk K) fun t5 w=>
 IfX t5 (DoX prog (mFA 49 t1 2) w (pk K) fun t6 w=>
 DoX prog (mLoad 3 t6) w (pk K) fun t7 w=>
 DoX prog (mBin .geq 3 t7 (.int .i64 1)) w (pk K) fun t8 w=>
 GDo t8 true (fun E=>DoX prog (mFA 49 t1 2) w (pk K) E) w fun t10 w=>
 GDo t8 true (fun E=>DoX prog (mLoad 3 t10) w (pk K) E) w fun t11 w=>
 GDo t8 true (fun E=>DoX prog (mBin .leq 3 t11 (.int .i64 8191)) w (pk K) E) w fun t12 w=>
 DoX prog (mPick t8 t12 (.bool false)) w (pk K) fun t13 w=>
 GDo t13 true (fun E=>DoX prog (mFA 49 t1 3) w (pk K) E) w fun t15 w=>
 GDo t13 true (fun E=>DoX prog (mLoad 3 t15) w (pk K) E) w fun t16 w=>
 GDo t13 true (fun E=>DoX prog (mBin .geq 3 t16 (.int .i64 0)) w (pk K) E) w fun t17 w=>
 DoX prog (mPick t13 t17 (.bool false)) w (pk K) fun t18 w=>
 GDo t18 true (fun E=>DoX prog (mFA 49 t1 3) w (pk K) E) w fun t20 w=>
 GDo t18 true (fun E=>DoX prog (mLoad 3 t20) w (pk K) E) w fun t21 w=>
 GDo t18 true (fun E=>DoX prog (mBin .leq 3 t21 (.int .i64 8191)) w (pk K) E) w fun t22 w=>
 DoX prog (mPick t18 t22 (.bool false)) w (pk K) fun t23 w=>
 K (.returned t23) w) (DoX prog (mFA 49 t1 2) w (pk K) fun t24 w=>
 DoX prog (mLoad 3 t24) w (pk K) fun t25 w=>
 DoX prog (mBin .geq 3 t25 (.int .i64 0)) w (pk K) fun t26 w=>
 GDo t26 true (fun E=>DoX prog (mFA 49 t1 2) w (pk K) E) w fun t28 w=>
 GDo t26 true (fun E=>DoX prog (mLoad 3 t28) w (pk K) E) w fun t29 w=>
 GDo t26 true (fun E=>DoX prog (mBin .leq 3 t29 (.int .i64 2147483647)) w (pk K) E) w fun t30 w=>
 DoX prog (mPick t26 t30 (.bool false)) w (pk K) fun t31 w=>
 GDo t31 true (fun E=>DoX prog (mFA 49 t1 3) w (pk K) E) w fun t33 w=>
 GDo t31 true (fun E=>DoX prog (mLoad 3 t33) w (pk K) E) w fun t34 w=>
 GDo t31 true (fun E=>DoX prog (mBin .geq 3 t34 (.int .i64 0)) w (pk K) E) w fun t35 w=>
 DoX prog (mPick t31 t35 (.bool false)) w (pk K) fun t36 w=>
 GDo t36 true (fun E=>DoX prog (mFA 49 t1 3) w (pk K) E) w fun t38 w=>
 GDo t36 true (fun E=>DoX prog (mLoad 3 t38) w (pk K) E) w fun t39 w=>
 GDo t36 true (fun E=>DoX prog (mBin .leq 3 t39 (.int .i64 65535)) w (pk K) E) w fun t40 w=>
 DoX prog (mPick t36 t40 (.bool false)) w (pk K) fun t41 w=>
 K (.returned t41) w)
theorem S_table_fits_eq (t0:Value)(w:World)(K:Ending→World→Prop):wpX prog 42 [] [] none (bodyOf Tryz.f39) (topQ prog [.tmp 2] K) (startX [t0]) [] w=S_table_fits t0 w K:=by kernel_rfl
theorem S_table_fits_ok {t0:Value}{w:World}{K:Ending→World→Prop}(h:S_table_fits t0 w K):Calls prog 39 #[t0] w K:=
 calls_of_wpX Tryz.func39 rfl rfl rfl rfl (Eq.mpr (S_table_fits_eq t0 w K) h)
def S_table_Check_0 (t0 t5 t6 t7:Value)(w:World)(N1:List Value→World→Prop)(K:Ending→World→Prop):Prop:=
 DoX prog (mBin .lss 3 t7 t6) w (pk K) fun t8 w=>
 IfX t8 (DoX prog (mIA 23 t5 t7) w (pk K) fun t10 w=>
 DoX prog (mLoad 49 t10) w (pk K) fun t11 w=>
 DoX prog (mAlloc 49) w (pk K) fun t4 w=>
 DoX prog (mStore 49 t4 t11) w (pk K) fun _ w=>
 DoX prog (mFA 49 t4 0) w (pk K) fun t13 w=>
 DoX prog (mLoad 3 t13) w (pk K) fun t14 w=>
 DoX prog (mBin .lss 3 t14 (.int .i64 0)) w (pk K) fun t15 w=>
 GDo t15 false (fun E=>DoX prog (mFA 49 t4 0) w (pk K) E) w fun t17 w=>
 GDo t15 false (fun E=>DoX prog (mLoad 3 t17) w (pk K) E) w fun t18 w=>
 GDo t15 false (fun E=>DoX prog (mBin .gtr 3 t18 (.int .i64 8191)) w (pk K) E) w fun t19 w=>
 DoX prog (mPick t15 (.bool true) t19) w (pk K) fun t20 w=>
 IfX t20 (K (.returned (.int .i64 2)) w) (DoX prog (mFA 49 t4 1) w (pk K) fun t22 w=>
 DoX prog (mLoad 3 t22) w (pk K) fun t23 w=>
 DoX prog (mBin .lss 3 t23 (.int .i64 0)) w (pk K) fun t24 w=>
 GDo t24 false (fun E=>DoX prog (mFA 49 t4 1) w (pk K) E) w fun t26 w=>
 GDo t24 false (fun E=>DoX prog (mLoad 3 t26) w (pk K) E) w fun t27 w=>
 GDo t24 false (fun E=>DoX prog (mBin .gtr 3 t27 (.int .i64 2)) w (pk K) E) w fun t28 w=>
 DoX prog (mPick t24 (.bool true) t28) w (pk K) fun t29 w=>
 IfX t29 (K (.returned (.int .i64 10)) w) (DoX prog (mLoad 49 t4) w (pk K) fun t31 w=>
 CallX prog 39 #[t31] w (pk K) fun t32 w=>
 DoX prog (mUn .not t32) w (pk K) fun t33 w=>
 IfX t33 (K (.returned (.int .i64 2)) w) (QuietX w (fun C2=>
 QDo prog C2 (mBin .gtr 3 t7 (.int .i64 0)) fun t36=>
 GQ t36 true (fun E=>QDo prog C2 (mFA 49 t4 0) E) fun t38=>
 GQ t36 true (fun E=>QDo prog C2 (mLoad 3 t38) E) fun t39=>
 GQ t36 true (fun E=>E t0) fun t40=>
 GQ t36 true (fun E=>E t7) fun t41=>
 GQ t36 true (fun E=>QDo prog C2 (mBin .sub 3 t41 (.int .i64 1)) E) fun t42=>
 GQ t36 true (fun E=>QDo prog C2 (mIA 23 t40 t42) E) fun t43=>
 GQ t36 true (fun E=>QDo prog C2 (mFA 49 t43 0) E) fun t44=>
 GQ t36 true (fun E=>QDo prog C2 (mLoad 3 t44) E) fun t45=>
 GQ t36 true (fun E=>QDo prog C2 (mEq .eql 3 (.tmp 39) (.tmp 45) t39 t45) E) fun t46=>
 QDo prog C2 (mPick t36 t46 (.bool false)) fun t47=>
 ∀w,C2 w →
 IfX t47 (K (.returned (.int .i64 9)) w) (QuietX w (fun C3=>
 QDo prog C3 (mBin .gtr 3 t7 (.int .i64 0)) fun t50=>
 GQ t50 true (fun E=>QDo prog C3 (mFA 49 t4 0) E) fun t52=>
 GQ t50 true (fun E=>QDo prog C3 (mLoad 3 t52) E) fun t53=>
 GQ t50 true (fun E=>E t0) fun t54=>
 GQ t50 true (fun E=>E t7) fun t55=>
 GQ t50 true (fun E=>QDo prog C3 (mBin .sub 3 t55 (.int .i64 1)) E) fun t56=>
 GQ t50 true (fun E=>QDo prog C3 (mIA 23 t54 t56) E) fun t57=>
 GQ t50 true (fun E=>QDo prog C3 (mFA 49 t57 0) E) fun t58=>
 GQ t50 true (fun E=>QDo prog C3 (mLoad 3 t58) E) fun t59=>
 GQ t50 true (fun E=>QDo prog C3 (mBin .lss 3 t53 t59) E) fun t60=>
 QDo prog C3 (mPick t50 t60 (.bool false)) fun t61=>
 ∀w,C3 w →
 IfX t61 (K (.returned (.int .i64 1)) w) (DoX prog (mBin .add 3 t7 (.int .i64 1)) w (pk K) fun t62 w=>
 N1 [t62] w)))))))) (K (.returned (.int .i64 0)) w)
def S_table_Check (t0:Value)(w:World)(K:Ending→World→Prop):Prop:=
 DoX prog (mB .len #[23] 3 #[false] #[t0]) w (pk K) fun t6 w=>
 LoopX [(.int .i64 0)] w (fun vs1 w N1=>∀_:Sg,S_table_Check_0 t0 t0 t6 (vs1.getD 0 undef) w N1 K)
theorem S_table_Check_eq (t0:Value)(w:World)(K:Ending→World→Prop):wpX prog 63 [] [(2,[7])] none (bodyOf Tryz.f16) (topQ prog [.tmp 2] K) (startX [t0]) [] w=S_table_Check t0 w K:=by kernel_rfl
theorem S_table_Check_ok {t0:Value}{w:World}{K:Ending→World→Prop}(h:S_table_Check t0 w K):Calls prog 16 #[t0] w K:=
 calls_of_wpX Tryz.func16 rfl rfl rfl rfl (Eq.mpr (S_table_Check_eq t0 w K) h)
def S_table_Runs_1 (t3 t8:Value)(w:World)(N1:List Value→World→Prop)(K:Ending→World→Prop):Prop:=
 DoX prog (mBin .add 3 t8 (.int .i64 1)) w (pk K) fun t54 w=>
 N1 [t3,t54] w
def S_table_Runs_0 (t0 t3 t6 t7 t8:Value)(w:World)(N1:List Value→World→Prop)(K:Ending→World→Prop):Prop:=
 DoX prog (mBin .lss 3 t8 t7) w (pk K) fun t9 w=>
 IfX t9 (JoinX (fun J2=>
 DoX prog (mIA 23 t6 t8) w (pk K) fun t11 w=>
 DoX prog (mLoad 49 t11) w (pk K) fun t12 w=>
 DoX prog (mAlloc 49) w (pk K) fun t5 w=>
 DoX prog (mStore 49 t5 t12) w (pk K) fun _ w=>
 QuietX w (fun C3=>
 QDo prog C3 (mBin .gtr 3 t8 (.int .i64 0)) fun t14=>
 GQ t14 true (fun E=>QDo prog C3 (mFA 49 t5 0) E) fun t16=>
 GQ t14 true (fun E=>QDo prog C3 (mLoad 3 t16) E) fun t17=>
 GQ t14 true (fun E=>E t0) fun t18=>
 GQ t14 true (fun E=>E t8) fun t19=>
 GQ t14 true (fun E=>QDo prog C3 (mBin .sub 3 t19 (.int .i64 1)) E) fun t20=>
 GQ t14 true (fun E=>QDo prog C3 (mIA 23 t18 t20) E) fun t21=>
 GQ t14 true (fun E=>QDo prog C3 (mFA 49 t21 0) E) fun t22=>
 GQ t14 true (fun E=>QDo prog C3 (mLoad 3 t22) E) fun t23=>
 GQ t14 true (fun E=>QDo prog C3 (mBin .gtr 3 t17 t23) E) fun t24=>
 QDo prog C3 (mPick t14 t24 (.bool false)) fun t25=>
 GQ t25 true (fun E=>QDo prog C3 (mFA 49 t5 0) E) fun t27=>
 GQ t25 true (fun E=>QDo prog C3 (mLoad 3 t27) E) fun t28=>
 GQ t25 true (fun E=>QDo prog C3 (mBin .sub 3 t28 (.int .i64 1)) E) fun t29=>
 GQ t25 true (fun E=>E t0) fun t30=>
 GQ t25 true (fun E=>E t8) fun t31=>
 GQ t25 true (fun E=>QDo prog C3 (mBin .sub 3 t31 (.int .i64 1)) E) fun t32=>
 GQ t25 true (fun E=>QDo prog C3 (mIA 23 t30 t32) E) fun t33=>
 GQ t25 true (fun E=>QDo prog C3 (mFA 49 t33 0) E) fun t34=>
 GQ t25 true (fun E=>QDo prog C3 (mLoad 3 t34) E) fun t35=>
 GQ t25 true (fun E=>QDo prog C3 (mEq .eql 3 (.tmp 29) (.tmp 35) t29 t35) E) fun t36=>
 QDo prog C3 (mPick t25 t36 (.bool false)) fun t37=>
 ∀w,C3 w →
 IfX t37 (QuietX w (fun C4=>
 QDo prog C4 (mB .len #[38] 3 #[false] #[t3]) fun t40=>
 QDo prog C4 (mBin .sub 3 t40 (.int .i64 1)) fun t41=>
 QDo prog C4 (mIA 38 t3 t41) fun t42=>
 QDo prog C4 (mIA 40 t42 (.int .i64 1)) fun t43=>
 QDo prog C4 (mLoad 3 t43) fun t44=>
 QDo prog C4 (mBin .add 3 t44 (.int .i64 1)) fun t45=>
 QDo prog C4 (mIA 38 t3 t41) fun t46=>
 QDo prog C4 (mIA 40 t46 (.int .i64 1)) fun t47=>
 ∀w,C4 w →
 DoX prog (mStore 3 t47 t45) w (pk K) fun _ w=>
 J2 [t3] w)) (DoX prog (mFA 49 t5 0) w (pk K) fun t49 w=>
 DoX prog (mLoad 3 t49) w (pk K) fun t50 w=>
 DoX prog (mBuild 40 #[(0,t50),(1,(.int .i64 1))]) w (pk K) fun t51 w=>
 DoX prog (mBuildS 38 1 #[(0,t51)]) w (pk K) fun t52 w=>
 DoX prog (mB .append #[38,38] 38 #[false,false] #[t3,t52]) w (pk K) fun t53 w=>
 J2 [t53] w))) (fun vs2 w=>∀_:Sg,S_table_Runs_1 (vs2.getD 0 undef) t8 w N1 K)) (K (.returned t3) w)
def S_table_Runs (t0:Value)(w:World)(K:Ending→World→Prop):Prop:=
 DoX prog (mB .len #[23] 3 #[false] #[t0]) w (pk K) fun t7 w=>
 LoopX [(.slice none 0 0),(.int .i64 0)] w (fun vs1 w N1=>∀_:Sg,S_table_Runs_0 t0 (vs1.getD 0 undef) t0 t7 (vs1.getD 1 undef) w N1 K)
theorem S_table_Runs_eq (t0:Value)(w:World)(K:Ending→World→Prop):wpX prog 56 [(8,[3])] [(3,[3,8])] none (bodyOf Tryz.f14) (topQ prog [.tmp 2] K) (startX [t0]) [] w=S_table_Runs t0 w K:=by kernel_rfl
theorem S_table_Runs_ok {t0:Value}{w:World}{K:Ending→World→Prop}(h:S_table_Runs t0 w K):Calls prog 14 #[t0] w K:=
 calls_of_wpX Tryz.func14 rfl rfl rfl rfl (Eq.mpr (S_table_Runs_eq t0 w K) h)
def S_table_refuse_1 (t1 t27 t28 t29:Value)(w:World)(N2:List Value→World→Prop)(K:Ending→World→Prop):Prop:=
 DoX prog (mBin .lss 3 t29 t28) w (pk K) fun t30 w=>
 IfX t30 (DoX prog (mIA 23 t27 t29) w (pk K) fun t31 w=>
 DoX prog (mLoad 49 t31) w (pk K) fun t32 w=>
 DoX prog (mAlloc 49) w (pk K) fun t7 w=>
 DoX prog (mStore 49 t7 t32) w (pk K) fun _ w=>
 DoX prog (mFA 49 t7 0) w (pk K) fun t33 w=>
 DoX prog (mLoad 3 t33) w (pk K) fun t34 w=>
 DoX prog (mEq .eql 3 (.tmp 34) (.const (.int .i64 0)) t34 (.int .i64 0)) w (pk K) fun t35 w=>
 GDo t35 true (fun E=>DoX prog (mFA 49 t7 1) w (pk K) E) w fun t37 w=>
 GDo t35 true (fun E=>DoX prog (mLoad 3 t37) w (pk K) E) w fun t38 w=>
 GDo t35 true (fun E=>DoX prog (mEq .neq 3 (.tmp 38) (.const (.int .i64 0)) t38 (.int .i64 0)) w (pk K) E) w fun t39 w=>
 GDo t35 true (fun E=>E t39 w) w fun t40 w=>
 GDo t40 false (fun E=>DoX prog (mFA 49 t7 3) w (pk K) E) w fun t41 w=>
 GDo t40 false (fun E=>DoX prog (mLoad 3 t41) w (pk K) E) w fun t42 w=>
 GDo t40 false (fun E=>DoX prog (mEq .neq 3 (.tmp 42) (.const (.int .i64 65535)) t42 (.int .i64 65535)) w (pk K) E) w fun t43 w=>
 GDo t35 true (fun E=>DoX prog (mPick t40 (.bool true) t43) w (pk K) E) w fun t44 w=>
 DoX prog (mPick t35 t44 (.bool false)) w (pk K) fun t45 w=>
 IfX t45 (K (.returned (.int .i64 1)) w) (DoX prog (mBin .add 3 t29 (.int .i64 1)) w (pk K) fun t46 w=>
 N2 [t46] w)) (DoX prog (mFA 29 t1 2) w (pk K) fun t47 w=>
 DoX prog (mLoad 27 t47) w (pk K) fun t48 w=>
 CallX prog 51 #[t48] w (pk K) fun t49 w=>
 DoX prog (mEq .neq 30 (.tmp 50) (.const (.int .i64 0)) t49 (.int .i64 0)) w (pk K) fun t51 w=>
 IfX t51 (K (.returned t49) w) (DoX prog (mFA 29 t1 2) w (pk K) fun t53 w=>
 DoX prog (mFA 27 t53 0) w (pk K) fun t54 w=>
 DoX prog (mLoad 3 t54) w (pk K) fun t55 w=>
 DoX prog (mEq .neq 3 (.tmp 55) (.const (.int .i64 7)) t55 (.int .i64 7)) w (pk K) fun t56 w=>
 IfX t56 (K (.returned (.int .i64 10)) w) (K (.returned (.int .i64 0)) w)))
def S_table_refuse_0 (t1 t16 t17 t18:Value)(w:World)(N1:List Value→World→Prop)(K:Ending→World→Prop):Prop:=
 DoX prog (mBin .lss 3 t18 t17) w (pk K) fun t19 w=>
 IfX t19 (DoX prog (mIA 23 t16 t18) w (pk K) fun t20 w=>
 DoX prog (mLoad 49 t20) w (pk K) fun t21 w=>
 DoX prog (mAlloc 49) w (pk K) fun t5 w=>
 DoX prog (mStore 49 t5 t21) w (pk K) fun _ w=>
 DoX prog (mFA 49 t5 1) w (pk K) fun t22 w=>
 DoX prog (mLoad 3 t22) w (pk K) fun t23 w=>
 DoX prog (mEq .eql 3 (.tmp 23) (.const (.int .i64 2)) t23 (.int .i64 2)) w (pk K) fun t24 w=>
 IfX t24 (K (.returned (.int .i64 10)) w) (DoX prog (mBin .add 3 t18 (.int .i64 1)) w (pk K) fun t25 w=>
 N1 [t25] w)) (DoX prog (mFA 29 t1 1) w (pk K) fun t26 w=>
 DoX prog (mLoad 23 t26) w (pk K) fun t27 w=>
 DoX prog (mB .len #[23] 3 #[false] #[t27]) w (pk K) fun t28 w=>
 LoopX [(.int .i64 0)] w (fun vs2 w N2=>∀_:Sg,S_table_refuse_1 t1 t27 t28 (vs2.getD 0 undef) w N2 K))
def S_table_refuse (t0:Value)(w:World)(K:Ending→World→Prop):Prop:=
 DoX prog (mBox 29 t0) w (pk K) fun t1 w=>
 DoX prog (mFA 29 t1 1) w (pk K) fun t9 w=>
 DoX prog (mLoad 23 t9) w (pk K) fun t10 w=>
 CallX prog 16 #[t10] w (pk K) fun t11 w=>
 DoX prog (mEq .neq 30 (.tmp 12) (.const (.int .i64 0)) t11 (.int .i64 0)) w (pk K) fun t13 w=>
 IfX t13 (K (.returned t11) w) (DoX prog (mFA 29 t1 1) w (pk K) fun t15 w=>
 DoX prog (mLoad 23 t15) w (pk K) fun t16 w=>
 DoX prog (mB .len #[23] 3 #[false] #[t16]) w (pk K) fun t17 w=>
 LoopX [(.int .i64 0)] w (fun vs1 w N1=>∀_:Sg,S_table_refuse_0 t1 t16 t17 (vs1.getD 0 undef) w N1 K))
theorem S_table_refuse_eq (t0:Value)(w:World)(K:Ending→World→Prop):wpX prog 57 [] [(5,[18]),(11,[29])] none (bodyOf Tryz.f29) (topQ prog [.tmp 2] K) (startX [t0]) [] w=S_table_refuse t0 w K:=by kernel_rfl
theorem S_table_refuse_ok {t0:Value}{w:World}{K:Ending→World→Prop}(h:S_table_refuse t0 w K):Calls prog 29 #[t0] w K:=
 calls_of_wpX Tryz.func29 rfl rfl rfl rfl (Eq.mpr (S_table_refuse_eq t0 w K) h)
def S_table_Text_2 (t7 t16 t17 t65:Value)(w:World)(N2:List Value→World→Prop)(K:Ending→World→Prop):Prop:=
 HeldX w (fun S4 w=>
 HDo prog S4 (mFA 49 t16 2) fun t72=>
 HDo prog S4 (mLoad 3 t72) fun t73=>
 HDo prog S4 (mFA 49 t16 3) fun t76=>
 HDo prog S4 (mLoad 3 t76) fun t77=>
 CallX prog 33 #[t73,(.int .i64 10)] w (pm1 (pm1 (pm1 (pm1 (pm1 (pm1 (pm1 (pm1 (pm1 (pm1 (pk K))))))))))) fun t74 w=>
 S4 w∧(HDo prog S4 (mBin .add 9 t74 (.string ⟨#[32]⟩)) fun t75=>
 CallX prog 33 #[t77,(.int .i64 5)] w (pm1 (pm1 (pm1 (pm1 (pm1 (pm1 (pm1 (pm1 (pm1 (pm1 (pk K))))))))))) fun t78 w=>
 S4 w∧(HDo prog S4 (mBin .add 9 t75 t78) fun t79=>
 HDo prog S4 (mBin .add 9 t79 (.string ⟨#[32]⟩)) fun t80=>
 HDo prog S4 (mBin .add 9 t80 t17) fun t82=>
 HDo prog S4 (mBin .add 9 t82 (.string ⟨#[32,10]⟩)) fun t83=>
 CallX prog 31 #[t7,t83] w (pm1 (pm1 (pm1 (pm1 (pm1 (pm1 (pm1 (pm1 (pm1 (pm1 (pk K))))))))))) fun t84 w=>
 S4 w∧(DoX prog (mBin .add 3 t65 (.int .i64 1)) w (pk K) fun t85 w=>
 N2 [t85] w))))
def S_table_Text_1 (t7 t8 t10 t38 t63 t64 t65:Value)(w:World)(N1 N2:List Value→World→Prop)(K:Ending→World→Prop):Prop:=
 DoX prog (mBin .lss 3 t65 t64) w (pk K) fun t66 w=>
 IfX t66 (DoX prog (mIA 23 t63 t65) w (pk K) fun t67 w=>
 DoX prog (mLoad 49 t67) w (pk K) fun t68 w=>
 DoX prog (mAlloc 49) w (pk K) fun t16 w=>
 DoX prog (mStore 49 t16 t68) w (pk K) fun _ w=>
 JoinX (fun J3=>
 DoX prog (mFA 49 t16 1) w (pk K) fun t69 w=>
 DoX prog (mLoad 3 t69) w (pk K) fun t70 w=>
 DoX prog (mEq .eql 3 (.tmp 70) (.const (.int .i64 1)) t70 (.int .i64 1)) w (pk K) fun t71 w=>
 IfX t71 (J3 [(.string ⟨#[110]⟩)] w) (J3 [(.string ⟨#[102]⟩)] w)) (fun vs3 w=>∀_:Sg,S_table_Text_2 t7 t16 (vs3.getD 0 undef) t65 w N2 K)) (DoX prog (mIA 40 t10 (.int .i64 1)) w (pk K) fun t87 w=>
 DoX prog (mLoad 3 t87) w (pk K) fun t88 w=>
 DoX prog (mSlice 23 t8 (some t88) none none) w (pk K) fun t89 w=>
 DoX prog (mBin .add 3 t38 (.int .i64 1)) w (pk K) fun t90 w=>
 N1 [t89,t90] w)
def S_table_Text_0 (t5 t7 t8 t36 t37 t38:Value)(w:World)(N1:List Value→World→Prop)(K:Ending→World→Prop):Prop:=
 DoX prog (mBin .lss 3 t38 t37) w (pk K) fun t39 w=>
 IfX t39 (DoX prog (mIA 38 t36 t38) w (pk K) fun t40 w=>
 DoX prog (mLoad 40 t40) w (pk K) fun t41 w=>
 DoX prog (mAlloc 40) w (pk K) fun t10 w=>
 DoX prog (mStore 40 t10 t41) w (pk K) fun _ w=>
 DoX prog (mIA 40 t10 (.int .i64 0)) w (pk K) fun t43 w=>
 DoX prog (mLoad 3 t43) w (pk K) fun t44 w=>
 CallX prog 32 #[t44] w (pk K) fun t45 w=>
 DoX prog (mExt t45 0) w (pk K) fun t46 w=>
 DoX prog (mExt t45 1) w (pk K) fun t47 w=>
 DoX prog (mIA 40 t10 (.int .i64 1)) w (pk K) fun t49 w=>
 DoX prog (mLoad 3 t49) w (pk K) fun t50 w=>
 CallX prog 32 #[t50] w (pk K) fun t51 w=>
 DoX prog (mExt t51 0) w (pk K) fun t52 w=>
 DoX prog (mExt t51 1) w (pk K) fun t53 w=>
 DoX prog (mBin .add 9 t46 (.string ⟨#[32]⟩)) w (pk K) fun t55 w=>
 DoX prog (mBin .add 9 t55 t52) w (pk K) fun t57 w=>
 DoX prog (mBin .add 9 t57 (.string ⟨#[10]⟩)) w (pk K) fun t58 w=>
 CallX prog 31 #[t7,t58] w (pk K) fun t59 w=>
 DoX prog (mIA 40 t10 (.int .i64 1)) w (pk K) fun t61 w=>
 DoX prog (mLoad 3 t61) w (pk K) fun t62 w=>
 DoX prog (mSlice 23 t8 none (some t62) none) w (pk K) fun t63 w=>
 DoX prog (mB .len #[23] 3 #[false] #[t63]) w (pk K) fun t64 w=>
 LoopX [(.int .i64 0)] w (fun vs2 w N2=>∀_:Sg,S_table_Text_1 t7 t8 t10 t38 t63 t64 (vs2.getD 0 undef) w N1 N2 K)) (DoX prog (mBin .add 9 (.string ⟨#[116,114,97,105,108,101,114,10]⟩) t5) w (pk K) fun t92 w=>
 DoX prog (mBin .add 9 t92 (.string ⟨#[10]⟩)) w (pk K) fun t93 w=>
 CallX prog 31 #[t7,t93] w (pk K) fun t94 w=>
 CallX prog 34 #[t7] w (pk K) fun t95 w=>
 K (.returned (.tuple #[t95,(.int .i64 0)])) w)
def S_table_Text (t0:Value)(w:World)(K:Ending→World→Prop):Prop:=
 DoX prog (mBox 29 t0) w (pk K) fun t1 w=>
 DoX prog (mLoad 29 t1) w (pk K) fun t18 w=>
 CallX prog 29 #[t18] w (pk K) fun t19 w=>
 DoX prog (mEq .neq 30 (.tmp 20) (.const (.int .i64 0)) t19 (.int .i64 0)) w (pk K) fun t21 w=>
 IfX t21 (K (.returned (.tuple #[(.string ⟨#[]⟩),t19])) w) (DoX prog (mFA 29 t1 2) w (pk K) fun t24 w=>
 DoX prog (mLoad 27 t24) w (pk K) fun t25 w=>
 CallX prog 30 #[t25] w (pk K) fun t26 w=>
 DoX prog (mExt t26 0) w (pk K) fun t27 w=>
 DoX prog (mExt t26 1) w (pk K) fun t28 w=>
 DoX prog (mEq .neq 30 (.tmp 29) (.const (.int .i64 0)) t28 (.int .i64 0)) w (pk K) fun t30 w=>
 IfX t30 (K (.returned (.tuple #[(.string ⟨#[]⟩),t28])) w) (DoX prog (mAlloc 73) w (pk K) fun t7 w=>
 CallX prog 31 #[t7,(.string ⟨#[120,114,101,102,10]⟩)] w (pk K) fun t32 w=>
 DoX prog (mFA 29 t1 1) w (pk K) fun t33 w=>
 DoX prog (mLoad 23 t33) w (pk K) fun t34 w=>
 CallX prog 14 #[t34] w (pk K) fun t36 w=>
 DoX prog (mB .len #[38] 3 #[false] #[t36]) w (pk K) fun t37 w=>
 LoopX [t34,(.int .i64 0)] w (fun vs1 w N1=>∀_:Sg,S_table_Text_0 t27 t7 (vs1.getD 0 undef) t36 t37 (vs1.getD 1 undef) w N1 K)))
theorem S_table_Text_eq (t0:Value)(w:World)(K:Ending→World→Prop):wpX prog 96 [(22,[17])] [(11,[8,38]),(17,[65])] none (bodyOf Tryz.f12) (topQ prog [.tmp 2,.tmp 3] K) (startX [t0]) [] w=S_table_Text t0 w K:=by kernel_rfl
theorem S_table_Text_ok {t0:Value}{w:World}{K:Ending→World→Prop}(h:S_table_Text t0 w K):Calls prog 12 #[t0] w K:=
 calls_of_wpX Tryz.func12 rfl rfl rfl rfl (Eq.mpr (S_table_Text_eq t0 w K) h)
end
section
open Eng Go.RowKit
namespace Eng
structure Lend (P:Program) (f:Nat) (args:Array Value) (e:Ent) (w:World) (ok:Prop) (Q:Value→Ent→Prop) (c:List PanicEntry):Prop where
 ret:ok→Ret P f args w (fun v w'=>∃e',Q v e'∧Turn e e' w w')
 pan:¬ok→Pan P f args w (fun c' w'=>c'=c∧∃e2,Turn e e2 w w')
section
variable {S:Nat→Prop}{P:Program}{w w0:World}{L:List Ent}{PK:PKT}{K:VWP}
theorem c_lend {f:Nat}{args:Array Value}{e:Ent}{ok:Prop}{Q:Value→Ent→Prop}{c:List PanicEntry}(ho:OwnS S w0 w L)(i:Nat)(hi:L[i]?=some e)(h:Lend P f args e w ok Q c)
  (kr:∀v e' w',ok→Q v e'→OwnS S w0 w' (L.set i e')→K v w') (kp:∀e2 w',¬ok→OwnS S w0 w' (L.set i e2)→PK c w'):CallX P f args w PK K:=by
 by_cases hk:ok
 ·exact c_ret (h.ret hk) fun v w' ⟨e',hq,ht⟩=>kr v e' w' hk hq (ho.turn i hi ht)
 ·exact c_pan (h.pan hk) fun c' w' ⟨hc,e2,ht⟩=>by subst hc;exact kp e2 w' hk (ho.turn i hi ht)
theorem lend_of {f:Nat}{args:Array Value}{e:Ent}{ok:Prop}{Q:Value→Ent→Prop}{c:List PanicEntry}(h0:e.is w)
  (h:∀K:Ending→World→Prop,OwnS e.blk w w [e]→(ok→∀(v:Value) (e':Ent) (w':World) (L:List Ent),OwnS e.blk w w' (e'::L)→Q v e'→K (.returned v) w') →
   (¬ok→∀(e2:Ent) (w':World) (L:List Ent),OwnS e.blk w w' (e2::L)→K (.panicked c) w')→Calls P f args w K):Lend P f args e w ok Q c:=by
 constructor
 ·intro hk;exact ret_of fun K hK=>h K (OwnS.lend h0) (fun _ v e' w' L hw hq=>hK _ _ ⟨e',hq,OwnS.back hw⟩) fun hn=>absurd hk hn
 ·intro hn;exact pan_of fun K hK=>h K (OwnS.lend h0) (fun hk=>absurd hk hn) fun _ e2 w' L hw=>hK _ _ ⟨rfl,e2,OwnS.back hw⟩
end
end Eng
def slC (x:Slt):List Value:=[.int .i64 x.num,.int .i64 x.kind,.int .i64 x.a,.int .i64 x.b]
def slV (x:Slt):Value:=.agg (slC x).toArray
abbrev slE (b:Nat)(x:Slt):Ent:=.cells b (slC x) 49
def sl0:Slt:=⟨0,0,0,0⟩
theorem aggSl:aggN prog 49=some 4:=by kernel_rfl
theorem szSl:(Tryz.prog.info? 49).map (·.size)=some 4:=by kernel_rfl
theorem slC_one (x:Slt):∀v∈slC x,v.oneCell'=true:=by
 intro v hv;simp only[slC,List.mem_cons,List.not_mem_nil,or_false] at hv;rcases hv with rfl|rfl|rfl|rfl<;>rfl
theorem fs0:fOff prog 49 0=some 0:=by kernel_rfl
theorem fs1:fOff prog 49 1=some 1:=by kernel_rfl
theorem fs2:fOff prog 49 2=some 2:=by kernel_rfl
theorem fs3:fOff prog 49 3=some 3:=by kernel_rfl
abbrev trE (b:Nat)(s:List UInt8)(a:Int):Ent:=.cells b (rdC s a) 53
theorem ftr0:fOff prog 53 0=some 0:=by kernel_rfl
theorem ftr1:fOff prog 53 1=some 1:=by kernel_rfl
theorem nfT:notIface prog 108=true:=by kernel_rfl
def badT:PanicEntry:={ v:=.iface 108 (.agg #[]),recovered:=false }
section
variable {w:World}{PK:PKT}{K:VWP}{S:Nat→Prop}{w0:World}{L:List Ent}
theorem fa_s0' {b off:Nat}:DoX prog (mFA 49 (.pointer (some ⟨b,off,none⟩)) 0) w PK K=K (.pointer (some ⟨b,off,none⟩)) w:=f_addr fs0
theorem fa_s1' {b off:Nat}:DoX prog (mFA 49 (.pointer (some ⟨b,off,none⟩)) 1) w PK K=K (.pointer (some ⟨b,off+1,none⟩)) w:=f_addr fs1
theorem fa_s2' {b off:Nat}:DoX prog (mFA 49 (.pointer (some ⟨b,off,none⟩)) 2) w PK K=K (.pointer (some ⟨b,off+2,none⟩)) w:=f_addr fs2
theorem fa_s3' {b off:Nat}:DoX prog (mFA 49 (.pointer (some ⟨b,off,none⟩)) 3) w PK K=K (.pointer (some ⟨b,off+3,none⟩)) w:=f_addr fs3
theorem o_slb (x:Slt)(ho:OwnS S w0 w L)(k:∀b w',OwnS S w0 w' (slE b x::L)→K (.pointer (some ⟨b,0,none⟩)) w'):DoX prog (mBox 49 (slV x)) w PK K:=
 o_new (fun b=>.pointer (some ⟨b,0,none⟩)) (slC x) 49 (fun _=>by kernel_rfl) ho k
theorem o_sla (ho:OwnS S w0 w L)(k:∀b w',OwnS S w0 w' (slE b sl0::L)→K (.pointer (some ⟨b,0,none⟩)) w'):DoX prog (mAlloc 49) w PK K:=
 o_new (fun b=>.pointer (some ⟨b,0,none⟩)) (slC sl0) 49 (fun _=>by kernel_rfl) ho k
theorem sl_put (i:Nat){b:Nat}{x y:Slt}(ho:OwnS S w0 w L)(hi:L[i]?=some (slE b x))(k:∀w',OwnS S w0 w' (L.set i (slE b y))→K undef w') :
  DoX prog (mStore 49 (.pointer (some ⟨b,0,none⟩)) (slV y)) w PK K:=o_put i ho hi (new:=slC y) szSl (slC_one y) rfl k
theorem sl_v (ho:OwnS S w0 w L)(i:Nat){b:Nat}{x:Slt}(hi:L[i]?=some (slE b x)):DoX prog (mLoad 49 (.pointer (some ⟨b,0,none⟩))) w PK K=K (slV x) w:=l_at (ho.agg i hi aggSl)
theorem m_sl0:DoX prog (mBuild 49 #[]) w PK K=K (slV sl0) w:=do_eq (by kernel_rfl)
theorem m_sl3 {n a b:Int}:DoX prog (mBuild 49 #[(0,.int .i64 n),(2,.int .i64 a),(3,.int .i64 b)]) w PK K=K (slV ⟨n,0,a,b⟩) w:=do_eq (by kernel_rfl)
theorem m_sl4 {n a b:Int}:DoX prog (mBuild 49 #[(0,.int .i64 n),(1,.int .i64 1),(2,.int .i64 a),(3,.int .i64 b)]) w PK K=K (slV ⟨n,1,a,b⟩) w:=do_eq (by kernel_rfl)
theorem fa_tr1 {b:Nat}:DoX prog (mFA 53 (.pointer (some ⟨b,0,none⟩)) 1) w PK K=K (.pointer (some ⟨b,1,none⟩)) w:=f_addr ftr1
theorem tr_s {b:Nat}{s:List UInt8}{a:Int}(h:(trE b s a).is w):(mLoad 9 (.pointer (some ⟨b,0,none⟩))).run prog w=.ok (.value (.string ⟨s.toArray⟩)) w:=run_load_cell nStr5 (cells_cell (T:=53) (cs:=rdC s a) (i:=0) h rfl)
theorem tr_a {b:Nat}{s:List UInt8}{a:Int}(h:(trE b s a).is w):(mLoad 3 (.pointer (some ⟨b,1,none⟩))).run prog w=.ok (.value (.int .i64 a)) w:=run_load_cell nInt5 (cells_cell (T:=53) (cs:=rdC s a) (i:=1) h rfl)
theorem tr_put (i:Nat){b:Nat}{s:List UInt8}{a a':Int}(ho:OwnS S w0 w L)(hi:L[i]?=some (trE b s a))(k:∀w',OwnS S w0 w' (L.set i (trE b s a'))→K undef w'):DoX prog (mStore 3 (.pointer (some ⟨b,1,none⟩)) (.int .i64 a')) w PK K:=
 o_store i ho hi (by kernel_rfl) rfl (show 1 < 2 by omega) k
end
theorem tmust_t (w:World):Ret prog 43 #[.bool true] w (fun v w'=>v=.tuple #[]∧w=w'):=by
 refine ret_of fun K hK=>S_table_must_ok ?_;unfold S_table_must;simp only[rs,Bool.not_true,i_f];exact hK _ _ ⟨rfl,rfl⟩
theorem tmust_f (w:World):Pan prog 43 #[.bool false] w (fun c w'=>c=[badT]∧w=w'):=by
 refine pan_of fun K hK=>S_table_must_ok ?_;unfold S_table_must;simp only[rs,Bool.not_false,i_t];have hb:∀{PK:PKT} {K:VWP},DoX prog (mBuild 108 #[]) w PK K=K (.agg #[]) w:=do_eq (by kernel_rfl);rw[hb,m_iface nfT,m_panic];exact hK _ _ ⟨rfl,rfl⟩
section
variable {w:World}{PK:PKT}{K:VWP}{S:Nat→Prop}{w0:World}{L:List Ent}
theorem c_tmust {q:Bool}(kt:q=true→K (.tuple #[]) w)(kf:q=false→PK [badT] w):CallX prog 43 #[.bool q] w PK K:=by
 cases q with
|true=>exact c_eq (tmust_t w) (kt rfl)
|false=>exact c_pan (tmust_f w) fun c w' ⟨hc,hw⟩=>by subst hc;subst hw;exact kf rfl
end
abbrev WholeT (t:Lx.Tok)(most:Int):Prop:=t.k=1∧0≤t.n∧t.n≤most
theorem whole_calls (t:Lx.Tok)(most:Int)(w:World)(K:Ending→World→Prop)(h1:WholeT t most→∀w',Below w.heap.size w w'→K (.returned (.int .i64 t.n)) w')(h2:¬WholeT t most→∀w',Below w.heap.size w w'→K (.panicked [badT]) w') :
  Calls prog 64 #[tokV t,.int .i64 most] w K:=by
 refine S_table_whole_ok ?_;unfold S_table_whole;refine o_tkb t (Own.start w) fun b w1 ho=>?_;have fin:∀q:Bool,(q=true↔WholeT t most)→CallX prog 43 #[.bool q] w1 (pk K) fun t19 w=>DoX prog (mFA 90 (.pointer (some ⟨b,0,none⟩)) 3) w (pk K) fun t20 w=>DoX prog (mLoad 2 t20) w (pk K) fun t21 w=>K (.returned t21) w:=by
  intro q hq;refine c_tmust (fun h=>?_) fun h=>h2 (fun hw=>by rw[hq.2 hw] at h;cases h) _ ho.done;rw[fa_t3,tk_n ho 0 rfl];exact h1 (hq.1 h) _ ho.done
 by_cases e1:t.k=1
 ·by_cases e2:0≤t.n
  ·simp only[rs,fa_t0,tk_k ho 0 rfl,decide_eq_true e1,fa_t3,tk_n ho 0 rfl,decide_eq_true e2,g_un];simp only[fa_t3,tk_n ho 0 rfl] at fin;exact fin _ (by simp[WholeT,e1,e2])
  ·simp only[rs,fa_t0,tk_k ho 0 rfl,decide_eq_true e1,fa_t3,tk_n ho 0 rfl,decide_eq_false e2,g_un];simp only[fa_t3,tk_n ho 0 rfl] at fin;exact fin _ (by simp[WholeT,e1,e2])
 ·simp only[rs,fa_t0,tk_k ho 0 rfl,decide_eq_false e1,fa_t3,tk_n ho 0 rfl,g_un];simp only[fa_t3,tk_n ho 0 rfl] at fin;exact fin _ (by simp[WholeT,e1])
section
variable {w:World}{PK:PKT}{K:VWP}{S:Nat→Prop}{w0:World}{L:List Ent}
theorem c_whole {t:Lx.Tok}{most:Int}(ho:OwnS S w0 w L)(kr:WholeT t most→∀w',OwnS S w0 w' L→K (.int .i64 t.n) w')(kp:¬WholeT t most→∀w',OwnS S w0 w' L→PK [badT] w'):CallX prog 64 #[tokV t,.int .i64 most] w PK K:=by
 by_cases h:WholeT t most
 ·refine c_ret (R:=fun v w'=>v=.int .i64 t.n∧Below w.heap.size w w') (whole_calls t most w _ (fun _ w' hb=>retK ⟨rfl,hb⟩) fun hn=>absurd h hn) ?_;rintro _ w' ⟨rfl,hb⟩;exact kr h w' (ho.grow hb)
 ·refine c_pan (R:=fun c w'=>c=[badT]∧Below w.heap.size w w') (whole_calls t most w _ (fun hy=>absurd hy h) fun _ w' hb=>panK ⟨rfl,hb⟩) ?_;rintro _ w' ⟨rfl,hb⟩;exact kp h w' (ho.grow hb)
end
theorem tnext_ret (b:Nat)(s:List UInt8)(a:Int)(w:World)(hs:s.length≤1099511627776)(hr:(trE b s a).is w) :
  Lend prog 45 #[rdP b] (trE b s a) w ((Lx.next s a).2=0) (fun v e'=>v=tokV (Lx.next s a).1∧e'=trE b s (Lx.next s a).1.t) [badT]:=by
 refine lend_of hr (fun K ho hret hpan=>S_table_reader_next_ok ?_);unfold S_table_reader_next;generalize hS0:(trE b s a).blk=S0 at *;refine o_tok ho fun b2 w1 ho=>?_;have two:∀{W:World} {b3:Nat},OwnS S0 w W [tokE b3 (Lx.next s a).1,tokE b2 Lx.none_,trE b s a]→S_table_reader_next_0 (rdP b) (.pointer (some ⟨b2,0,none⟩)) (.pointer (some ⟨b3,0,none⟩)) (.int .i64 (Lx.next s a).2) W K:=by
  intro W b3 ho;generalize Lx.next s a=x at *
  unfold S_table_reader_next_0;simp only[rs];refine c_tmust (fun h=>?_) fun h=>hpan (of_decide_eq_false h) _ W _ ho.tail.tail;have e1:=of_decide_eq_true h;rw[fa_t2,tk_t ho 0 rfl,fa_tr1];refine tr_put 2 ho rfl fun w2 ho=>?_;have ho:OwnS S0 w w2 [tokE b3 x.1,tokE b2 Lx.none_,trE b s x.1.t]:=ho;rw[tk_v ho 0 rfl];refine tk_put 1 ho rfl fun w3 ho=>?_;refine ret_v1 (rv_cell (ho.agg 1 rfl aggTok)) ?_;have ho:OwnS S0 w w3 [tokE b3 x.1,tokE b2 x.1,trE b s x.1.t]:=ho;exact hret e1 _ _ w3 [] ho.tail.tail ⟨rfl,rfl⟩
 have ho:=ho.drew;refine⟨fun W=>(trE b s a).is W,ho.at_ 1 rfl,?_⟩;refine hd_pure _ (fun _=>run_nil) (hd_pure _ (fun _=>run_fa ftr0) (hd_do _ (fun W h=>tr_s h) ?_));refine hd_pure _ (fun _=>run_nil) (hd_pure _ (fun _=>run_fa ftr1) (hd_do _ (fun W h=>tr_a h) ?_));refine⟨?_,?_⟩
 ·refine c_below ho (R:=fun v=>v=tokR (Lx.next s a)) (next_ret s a _ hs) ?_;rintro _ w2 rfl ho;refine hd_pure _ (fun _=>run_ext0) (hd_pure _ (fun _=>run_ext1) ?_);refine o_tok ho fun b3 w3 ho=>⟨ho.at_ 2 rfl,?_⟩;refine tk_put 0 ho rfl fun w4 ho=>?_;exact two ho
 ·refine o_tok ho fun b3 w3 ho=>⟨ho.at_ 2 rfl,?_⟩;refine c_below ho (R:=fun v=>v=tokR (Lx.next s a)) (next_ret s a _ hs) ?_;rintro _ w2 rfl ho;refine hd_pure _ (fun _=>run_ext0) (hd_pure _ (fun _=>run_ext1) ?_);refine tk_put 0 ho rfl fun w4 ho=>?_;exact two ho
theorem entry_num {s:List UInt8}{a most:Int}:Tl.number s a 0 most=if (Lx.next s a).2=0∧WholeT (Lx.next s a).1 most then some ((Lx.next s a).1.n,(Lx.next s a).1.t) else none:=by
 unfold Tl.number WholeT;by_cases h:(Lx.next s a).2≠0∨(Lx.next s a).1.k≠1∨(Lx.next s a).1.n < 0∨most < (Lx.next s a).1.n
 ·rw[if_pos h,if_neg (by omega)]
 ·rw[if_neg h,if_pos (by omega)]
end
section
open Eng
def S_foliantref18_number (t0 t1 t2 t3:Value)(w:World)(K:Ending→World→Prop):Prop:=
 CallX prog 49 #[t0,t1] w (pk K) fun t16 w=>
 DoX prog (mExt t16 0) w (pk K) fun t17 w=>
 DoX prog (mExt t16 1) w (pk K) fun t18 w=>
 DoX prog (mAlloc 90) w (pk K) fun t11 w=>
 DoX prog (mStore 90 t11 t17) w (pk K) fun _ w=>
 DoX prog (mEq .neq 30 (.tmp 19) (.const (.int .i64 0)) t18 (.int .i64 0)) w (pk K) fun t20 w=>
 GDo t20 false (fun E=>DoX prog (mFA 90 t11 0) w (pk K) E) w fun t22 w=>
 GDo t20 false (fun E=>DoX prog (mLoad 3 t22) w (pk K) E) w fun t23 w=>
 GDo t20 false (fun E=>DoX prog (mEq .neq 3 (.tmp 23) (.const (.int .i64 1)) t23 (.int .i64 1)) w (pk K) E) w fun t24 w=>
 DoX prog (mPick t20 (.bool true) t24) w (pk K) fun t25 w=>
 GDo t25 false (fun E=>DoX prog (mFA 90 t11 3) w (pk K) E) w fun t27 w=>
 GDo t25 false (fun E=>DoX prog (mLoad 2 t27) w (pk K) E) w fun t28 w=>
 GDo t25 false (fun E=>E t2 w) w fun t29 w=>
 GDo t25 false (fun E=>DoX prog (mBin .lss 2 t28 t29) w (pk K) E) w fun t30 w=>
 DoX prog (mPick t25 (.bool true) t30) w (pk K) fun t31 w=>
 GDo t31 false (fun E=>DoX prog (mFA 90 t11 3) w (pk K) E) w fun t33 w=>
 GDo t31 false (fun E=>DoX prog (mLoad 2 t33) w (pk K) E) w fun t34 w=>
 GDo t31 false (fun E=>E t3 w) w fun t35 w=>
 GDo t31 false (fun E=>DoX prog (mBin .gtr 2 t34 t35) w (pk K) E) w fun t36 w=>
 DoX prog (mPick t31 (.bool true) t36) w (pk K) fun t37 w=>
 IfX t37 (K (.returned (.tuple #[(.int .i64 0),(.int .i64 0),(.bool false)])) w) (QuietX w (fun C1=>
 QDo prog C1 (mFA 90 t11 3) fun t38=>
 QDo prog C1 (mLoad 2 t38) fun t39=>
 QDo prog C1 (mFA 90 t11 2) fun t40=>
 QDo prog C1 (mLoad 3 t40) fun t41=>
 ∀w,C1 w →
 K (.returned (.tuple #[t39,t41,(.bool true)])) w))
theorem S_foliantref18_number_eq (t0 t1 t2 t3:Value)(w:World)(K:Ending→World→Prop):wpX prog 42 [] [] none (bodyOf Tryz.f24) (topQ prog [.tmp 8,.tmp 9,.tmp 10] K) (startX [t0,t1,t2,t3]) [] w=S_foliantref18_number t0 t1 t2 t3 w K:=by kernel_rfl
theorem S_foliantref18_number_ok {t0 t1 t2 t3:Value}{w:World}{K:Ending→World→Prop}(h:S_foliantref18_number t0 t1 t2 t3 w K):Calls prog 24 #[t0,t1,t2,t3] w K:=
 calls_of_wpX Tryz.func24 rfl rfl rfl rfl (Eq.mpr (S_foliantref18_number_eq t0 t1 t2 t3 w K) h)
def S_foliantref18_word (t0 t1 t2:Value)(w:World)(K:Ending→World→Prop):Prop:=
 CallX prog 49 #[t0,t1] w (pk K) fun t13 w=>
 DoX prog (mExt t13 0) w (pk K) fun t14 w=>
 DoX prog (mExt t13 1) w (pk K) fun t15 w=>
 DoX prog (mAlloc 90) w (pk K) fun t8 w=>
 DoX prog (mStore 90 t8 t14) w (pk K) fun _ w=>
 QuietX w (fun C1=>
 QDo prog C1 (mFA 90 t8 2) fun t16=>
 QDo prog C1 (mLoad 3 t16) fun t17=>
 QDo prog C1 (mEq .eql 30 (.tmp 18) (.const (.int .i64 0)) t15 (.int .i64 0)) fun t19=>
 GQ t19 true (fun E=>QDo prog C1 (mFA 90 t8 0) E) fun t21=>
 GQ t19 true (fun E=>QDo prog C1 (mLoad 3 t21) E) fun t22=>
 GQ t19 true (fun E=>QDo prog C1 (mEq .eql 3 (.tmp 22) (.const (.int .i64 5)) t22 (.int .i64 5)) E) fun t23=>
 QDo prog C1 (mPick t19 t23 (.bool false)) fun t24=>
 GQ t24 true (fun E=>QDo prog C1 (mFA 90 t8 4) E) fun t26=>
 GQ t24 true (fun E=>QDo prog C1 (mLoad 9 t26) E) fun t27=>
 GQ t24 true (fun E=>E t2) fun t28=>
 GQ t24 true (fun E=>QDo prog C1 (mEq .eql 9 (.tmp 27) (.tmp 28) t27 t28) E) fun t29=>
 QDo prog C1 (mPick t24 t29 (.bool false)) fun t30=>
 ∀w,C1 w →
 K (.returned (.tuple #[t17,t30])) w)
theorem S_foliantref18_word_eq (t0 t1 t2:Value)(w:World)(K:Ending→World→Prop):wpX prog 31 [] [] none (bodyOf Tryz.f23) (topQ prog [.tmp 6,.tmp 7] K) (startX [t0,t1,t2]) [] w=S_foliantref18_word t0 t1 t2 w K:=by kernel_rfl
theorem S_foliantref18_word_ok {t0 t1 t2:Value}{w:World}{K:Ending→World→Prop}(h:S_foliantref18_word t0 t1 t2 w K):Calls prog 23 #[t0,t1,t2] w K:=
 calls_of_wpX Tryz.func23 rfl rfl rfl rfl (Eq.mpr (S_foliantref18_word_eq t0 t1 t2 w K) h)
def S_foliantref18_entry_0 (t6 t10 t12 t13:Value)(w:World)(K:Ending→World→Prop):Prop:=
 DoX prog (mLoad 49 t12) w (pk K) fun t53 w=>
 DoX prog (mStore 49 t6 t53) w (pk K) fun _ w=>
 RetX prog [.cell t6 49,.val t13,.val t10] w K
def S_foliantref18_entry (t0 t1 t2:Value)(w:World)(K:Ending→World→Prop):Prop:=
 DoX prog (mAlloc 49) w (pk K) fun t6 w=>
 CallX prog 24 #[t0,t1,(.int .i64 0),(.int .i64 2147483647)] w (pk K) fun t17 w=>
 DoX prog (mExt t17 0) w (pk K) fun t18 w=>
 DoX prog (mExt t17 1) w (pk K) fun t19 w=>
 DoX prog (mExt t17 2) w (pk K) fun t20 w=>
 DoX prog (mUn .not t20) w (pk K) fun t22 w=>
 IfX t22 (DoX prog (mBuild 49 #[]) w (pk K) fun t23 w=>
 DoX prog (mStore 49 t6 t23) w (pk K) fun _ w=>
 RetX prog [.cell t6 49,.val (.int .i64 0),.val (.bool false)] w K) (CallX prog 24 #[t0,t19,(.int .i64 0),(.int .i64 65535)] w (pk K) fun t27 w=>
 DoX prog (mExt t27 0) w (pk K) fun t28 w=>
 DoX prog (mExt t27 1) w (pk K) fun t29 w=>
 DoX prog (mExt t27 2) w (pk K) fun t30 w=>
 DoX prog (mUn .not t30) w (pk K) fun t32 w=>
 IfX t32 (DoX prog (mBuild 49 #[]) w (pk K) fun t33 w=>
 DoX prog (mStore 49 t6 t33) w (pk K) fun _ w=>
 RetX prog [.cell t6 49,.val (.int .i64 0),.val (.bool false)] w K) (DoX prog (mBuild 49 #[(0,t2),(1,(.int .i64 1)),(2,t18),(3,t28)]) w (pk K) fun t37 w=>
 DoX prog (mAlloc 49) w (pk K) fun t12 w=>
 DoX prog (mStore 49 t12 t37) w (pk K) fun _ w=>
 CallX prog 23 #[t0,t29,(.string ⟨#[110]⟩)] w (pk K) fun t41 w=>
 DoX prog (mExt t41 0) w (pk K) fun t42 w=>
 DoX prog (mExt t41 1) w (pk K) fun t43 w=>
 JoinX (fun J1=>
 DoX prog (mUn .not t43) w (pk K) fun t45 w=>
 IfX t45 (CallX prog 23 #[t0,t29,(.string ⟨#[102]⟩)] w (pk K) fun t49 w=>
 DoX prog (mExt t49 0) w (pk K) fun t50 w=>
 DoX prog (mExt t49 1) w (pk K) fun t51 w=>
 DoX prog (mFA 49 t12 1) w (pk K) fun t52 w=>
 DoX prog (mStore 3 t52 (.int .i64 0)) w (pk K) fun _ w=>
 J1 [t51,t50] w) (J1 [t43,t42] w)) (fun vs1 w=>∀_:Sg,S_foliantref18_entry_0 t6 (vs1.getD 0 undef) t12 (vs1.getD 1 undef) w K)))
theorem S_foliantref18_entry_eq (t0 t1 t2:Value)(w:World)(K:Ending→World→Prop):wpX prog 56 [(12,[10,13])] [] none (bodyOf Tryz.f25) (topQ prog [.cell 6 49,.tmp 7,.tmp 8] K) (startX [t0,t1,t2]) [] w=S_foliantref18_entry t0 t1 t2 w K:=by kernel_rfl
theorem S_foliantref18_entry_ok {t0 t1 t2:Value}{w:World}{K:Ending→World→Prop}(h:S_foliantref18_entry t0 t1 t2 w K):Calls prog 25 #[t0,t1,t2] w K:=
 calls_of_wpX Tryz.func25 rfl rfl rfl rfl (Eq.mpr (S_foliantref18_entry_eq t0 t1 t2 w K) h)
def S_foliantref18_lay_1 (t0 t3 t6 t7:Value)(w:World)(N4:List Value→World→Prop)(K:Ending→World→Prop):Prop:=
 DoX prog (mBin .gtr 3 t7 t6) w (pk K) fun t44 w=>
 IfX t44 (DoX prog (mBin .sub 3 t7 (.int .i64 1)) w (pk K) fun t51 w=>
 DoX prog (mIA 23 t0 t51) w (pk K) fun t52 w=>
 DoX prog (mLoad 49 t52) w (pk K) fun t53 w=>
 DoX prog (mIA 23 t0 t7) w (pk K) fun t54 w=>
 DoX prog (mStore 49 t54 t53) w (pk K) fun _ w=>
 DoX prog (mBin .sub 3 t7 (.int .i64 1)) w (pk K) fun t46 w=>
 N4 [t46] w) (DoX prog (mLoad 49 t3) w (pk K) fun t57 w=>
 DoX prog (mIA 23 t0 t6) w (pk K) fun t58 w=>
 DoX prog (mStore 49 t58 t57) w (pk K) fun _ w=>
 K (.returned (.tuple #[t0,(.bool true)])) w)
def S_foliantref18_lay_0 (t0 t3 t6:Value)(w:World)(N1:List Value→World→Prop)(K:Ending→World→Prop):Prop:=
 QuietX w (fun C2=>
 QDo prog C2 (mBin .gtr 3 t6 (.int .i64 0)) fun t11=>
 GQ t11 true (fun E=>E t0) fun t13=>
 GQ t11 true (fun E=>E t6) fun t14=>
 GQ t11 true (fun E=>QDo prog C2 (mBin .sub 3 t14 (.int .i64 1)) E) fun t15=>
 GQ t11 true (fun E=>QDo prog C2 (mIA 23 t13 t15) E) fun t16=>
 GQ t11 true (fun E=>QDo prog C2 (mFA 49 t16 0) E) fun t17=>
 GQ t11 true (fun E=>QDo prog C2 (mLoad 3 t17) E) fun t18=>
 GQ t11 true (fun E=>QDo prog C2 (mFA 49 t3 0) E) fun t19=>
 GQ t11 true (fun E=>QDo prog C2 (mLoad 3 t19) E) fun t20=>
 GQ t11 true (fun E=>QDo prog C2 (mBin .geq 3 t18 t20) E) fun t21=>
 QDo prog C2 (mPick t11 t21 (.bool false)) fun t22=>
 ∀w,C2 w →
 IfX t22 (QuietX w (fun C3=>
 QDo prog C3 (mBin .sub 3 t6 (.int .i64 1)) fun t25=>
 QDo prog C3 (mIA 23 t0 t25) fun t26=>
 QDo prog C3 (mFA 49 t26 0) fun t27=>
 QDo prog C3 (mLoad 3 t27) fun t28=>
 QDo prog C3 (mFA 49 t3 0) fun t29=>
 QDo prog C3 (mLoad 3 t29) fun t30=>
 QDo prog C3 (mEq .eql 3 (.tmp 28) (.tmp 30) t28 t30) fun t31=>
 ∀w,C3 w →
 IfX t31 (K (.returned (.tuple #[t0,(.bool false)])) w) (DoX prog (mBin .sub 3 t6 (.int .i64 1)) w (pk K) fun t34 w=>
 N1 [t34] w))) (DoX prog (mLoad 49 t3) w (pk K) fun t36 w=>
 DoX prog (mBuildS 23 1 #[(0,t36)]) w (pk K) fun t37 w=>
 DoX prog (mB .append #[23,23] 23 #[false,false] #[t0,t37]) w (pk K) fun t38 w=>
 DoX prog (mB .len #[23] 3 #[false] #[t38]) w (pk K) fun t40 w=>
 DoX prog (mBin .sub 3 t40 (.int .i64 1)) w (pk K) fun t41 w=>
 LoopX [t41] w (fun vs4 w N4=>∀_:Sg,S_foliantref18_lay_1 t38 t3 t6 (vs4.getD 0 undef) w N4 K)))
def S_foliantref18_lay (t0 t1:Value)(w:World)(K:Ending→World→Prop):Prop:=
 DoX prog (mBox 49 t1) w (pk K) fun t3 w=>
 DoX prog (mB .len #[23] 3 #[false] #[t0]) w (pk K) fun t9 w=>
 LoopX [t9] w (fun vs1 w N1=>∀_:Sg,S_foliantref18_lay_0 t0 t3 (vs1.getD 0 undef) w N1 K)
theorem S_foliantref18_lay_eq (t0 t1:Value)(w:World)(K:Ending→World→Prop):wpX prog 60 [] [(2,[6]),(8,[7])] none (bodyOf Tryz.f26) (topQ prog [.tmp 4,.tmp 5] K) (startX [t0,t1]) [] w=S_foliantref18_lay t0 t1 w K:=by kernel_rfl
theorem S_foliantref18_lay_ok {t0 t1:Value}{w:World}{K:Ending→World→Prop}(h:S_foliantref18_lay t0 t1 w K):Calls prog 26 #[t0,t1] w K:=
 calls_of_wpX Tryz.func26 rfl rfl rfl rfl (Eq.mpr (S_foliantref18_lay_eq t0 t1 w K) h)
def S_foliantref18_leads (t0 t1:Value)(w:World)(K:Ending→World→Prop):Prop:=
 DoX prog (mBox 27 t0) w (pk K) fun t2 w=>
 DoX prog (mLoad 27 t2) w (pk K) fun t9 w=>
 CallX prog 18 #[t9,t1] w (pk K) fun t11 w=>
 DoX prog (mExt t11 0) w (pk K) fun t12 w=>
 DoX prog (mExt t11 1) w (pk K) fun t13 w=>
 DoX prog (mAlloc 27) w (pk K) fun t6 w=>
 DoX prog (mStore 27 t6 t12) w (pk K) fun _ w=>
 DoX prog (mUn .not t13) w (pk K) fun t15 w=>
 IfX t15 (K (.returned (.tuple #[(.int .i64 (-1)),(.bool true)])) w) (QuietX w (fun C1=>
 QDo prog C1 (mFA 27 t6 1) fun t16=>
 QDo prog C1 (mLoad 2 t16) fun t17=>
 QDo prog C1 (mFA 27 t6 0) fun t18=>
 QDo prog C1 (mLoad 3 t18) fun t19=>
 QDo prog C1 (mEq .eql 3 (.tmp 19) (.const (.int .i64 2)) t19 (.int .i64 2)) fun t20=>
 GQ t20 true (fun E=>QDo prog C1 (mFA 27 t6 1) E) fun t22=>
 GQ t20 true (fun E=>QDo prog C1 (mLoad 2 t22) E) fun t23=>
 GQ t20 true (fun E=>QDo prog C1 (mBin .geq 2 t23 (.int .i64 0)) E) fun t24=>
 QDo prog C1 (mPick t20 t24 (.bool false)) fun t25=>
 ∀w,C1 w →
 K (.returned (.tuple #[t17,t25])) w))
theorem S_foliantref18_leads_eq (t0 t1:Value)(w:World)(K:Ending→World→Prop):wpX prog 26 [] [] none (bodyOf Tryz.f28) (topQ prog [.tmp 4,.tmp 5] K) (startX [t0,t1]) [] w=S_foliantref18_leads t0 t1 w K:=by kernel_rfl
theorem S_foliantref18_leads_ok {t0 t1:Value}{w:World}{K:Ending→World→Prop}(h:S_foliantref18_leads t0 t1 w K):Calls prog 28 #[t0,t1] w K:=
 calls_of_wpX Tryz.func28 rfl rfl rfl rfl (Eq.mpr (S_foliantref18_leads_eq t0 t1 w K) h)
def S_foliantref18_Read_4 (t0 t4 t7 t8 t9:Value)(w:World)(K:Ending→World→Prop):Prop:=
 DoX prog (mUn .not t9) w (pk K) fun t87 w=>
 IfX t87 (DoX prog (mBuild 29 #[]) w (pk K) fun t88 w=>
 DoX prog (mStore 29 t4 t88) w (pk K) fun _ w=>
 RetX prog [.cell t4 29,.val (.int .i64 0),.val (.int .i64 19)] w K) (CallX prog 27 #[t0,t8] w (pk K) fun t92 w=>
 DoX prog (mExt t92 0) w (pk K) fun t93 w=>
 DoX prog (mExt t92 1) w (pk K) fun t94 w=>
 DoX prog (mExt t92 2) w (pk K) fun t95 w=>
 DoX prog (mAlloc 27) w (pk K) fun t16 w=>
 DoX prog (mStore 27 t16 t93) w (pk K) fun _ w=>
 DoX prog (mEq .neq 30 (.tmp 96) (.const (.int .i64 0)) t95 (.int .i64 0)) w (pk K) fun t97 w=>
 GDo t97 false (fun E=>DoX prog (mFA 27 t16 0) w (pk K) E) w fun t99 w=>
 GDo t97 false (fun E=>DoX prog (mLoad 3 t99) w (pk K) E) w fun t100 w=>
 GDo t97 false (fun E=>DoX prog (mEq .neq 3 (.tmp 100) (.const (.int .i64 7)) t100 (.int .i64 7)) w (pk K) E) w fun t101 w=>
 DoX prog (mPick t97 (.bool true) t101) w (pk K) fun t102 w=>
 IfX t102 (DoX prog (mBuild 29 #[]) w (pk K) fun t103 w=>
 DoX prog (mStore 29 t4 t103) w (pk K) fun _ w=>
 RetX prog [.cell t4 29,.val (.int .i64 0),.val (.int .i64 19)] w K) (DoX prog (mLoad 27 t16) w (pk K) fun t104 w=>
 DoX prog (mFA 29 t7 2) w (pk K) fun t105 w=>
 DoX prog (mStore 27 t105 t104) w (pk K) fun _ w=>
 DoX prog (mLoad 27 t16) w (pk K) fun t107 w=>
 CallX prog 28 #[t107,(.string ⟨#[80,114,101,118]⟩)] w (pk K) fun t108 w=>
 DoX prog (mExt t108 0) w (pk K) fun t109 w=>
 DoX prog (mExt t108 1) w (pk K) fun t110 w=>
 DoX prog (mFA 29 t7 3) w (pk K) fun t111 w=>
 DoX prog (mStore 3 t111 t109) w (pk K) fun _ w=>
 DoX prog (mLoad 27 t16) w (pk K) fun t113 w=>
 CallX prog 28 #[t113,(.string ⟨#[88,82,101,102,83,116,109]⟩)] w (pk K) fun t114 w=>
 DoX prog (mExt t114 0) w (pk K) fun t115 w=>
 DoX prog (mExt t114 1) w (pk K) fun t116 w=>
 DoX prog (mFA 29 t7 4) w (pk K) fun t118 w=>
 DoX prog (mStore 3 t118 t115) w (pk K) fun _ w=>
 DoX prog (mUn .not t110) w (pk K) fun t120 w=>
 GDo t120 false (fun E=>E t116 w) w fun t122 w=>
 GDo t120 false (fun E=>DoX prog (mUn .not t122) w (pk K) E) w fun t123 w=>
 DoX prog (mPick t120 (.bool true) t123) w (pk K) fun t124 w=>
 IfX t124 (DoX prog (mBuild 29 #[]) w (pk K) fun t125 w=>
 DoX prog (mStore 29 t4 t125) w (pk K) fun _ w=>
 RetX prog [.cell t4 29,.val (.int .i64 0),.val (.int .i64 19)] w K) (DoX prog (mLoad 29 t7) w (pk K) fun t126 w=>
 DoX prog (mStore 29 t4 t126) w (pk K) fun _ w=>
 RetX prog [.cell t4 29,.val t94,.val (.int .i64 0)] w K)))
def S_foliantref18_Read_3 (t8 t9 t14:Value)(w:World)(N4:List Value→World→Prop)(K:Ending→World→Prop):Prop:=
 DoX prog (mBin .add 3 t14 (.int .i64 1)) w (pk K) fun t66 w=>
 N4 [t8,t9,t66] w
def S_foliantref18_Read_2 (t0 t7 t8 t9 t12 t13 t14:Value)(w:World)(N2 N4:List Value→World→Prop)(K:Ending→World→Prop):Prop:=
 DoX prog (mBin .lss 3 t14 t13) w (pk K) fun t61 w=>
 GDo t61 true (fun E=>E t9 w) w fun t63 w=>
 DoX prog (mPick t61 t63 (.bool false)) w (pk K) fun t64 w=>
 IfX t64 (JoinX (fun J5=>
 DoX prog (mAlloc 49) w (pk K) fun t15 w=>
 DoX prog (mBin .add 3 t12 t14) w (pk K) fun t72 w=>
 CallX prog 25 #[t0,t8,t72] w (pk K) fun t73 w=>
 DoX prog (mExt t73 0) w (pk K) fun t74 w=>
 DoX prog (mExt t73 1) w (pk K) fun t75 w=>
 DoX prog (mExt t73 2) w (pk K) fun t76 w=>
 DoX prog (mStore 49 t15 t74) w (pk K) fun _ w=>
 IfX t76 (DoX prog (mFA 29 t7 1) w (pk K) fun t79 w=>
 DoX prog (mLoad 23 t79) w (pk K) fun t80 w=>
 DoX prog (mLoad 49 t15) w (pk K) fun t81 w=>
 CallX prog 26 #[t80,t81] w (pk K) fun t82 w=>
 DoX prog (mExt t82 0) w (pk K) fun t83 w=>
 DoX prog (mExt t82 1) w (pk K) fun t84 w=>
 DoX prog (mFA 29 t7 1) w (pk K) fun t85 w=>
 DoX prog (mStore 23 t85 t83) w (pk K) fun _ w=>
 J5 [t75,t84] w) (J5 [t75,t76] w)) (fun vs5 w=>∀_:Sg,S_foliantref18_Read_3 (vs5.getD 0 undef) (vs5.getD 1 undef) t14 w N4 K)) (N2 [t8,t9] w)
def S_foliantref18_Read_1 (t0 t7 t8 t9 t12 t13:Value)(w:World)(N2:List Value→World→Prop)(K:Ending→World→Prop):Prop:=
 LoopX [t8,t9,(.int .i64 0)] w (fun vs4 w N4=>∀_:Sg,S_foliantref18_Read_2 t0 t7 (vs4.getD 0 undef) (vs4.getD 1 undef) t12 t13 (vs4.getD 2 undef) w N2 N4 K)
def S_foliantref18_Read_0 (t0 t7 t8 t9:Value)(w:World)(J1 N2:List Value→World→Prop)(K:Ending→World→Prop):Prop:=
 IfX t9 (CallX prog 23 #[t0,t8,(.string ⟨#[116,114,97,105,108,101,114]⟩)] w (pk K) fun t37 w=>
 DoX prog (mExt t37 0) w (pk K) fun t38 w=>
 DoX prog (mExt t37 1) w (pk K) fun t39 w=>
 IfX t39 (J1 [t38,t9] w) (CallX prog 24 #[t0,t8,(.int .i64 0),(.int .i64 8191)] w (pk K) fun t45 w=>
 DoX prog (mExt t45 0) w (pk K) fun t46 w=>
 DoX prog (mExt t45 1) w (pk K) fun t47 w=>
 DoX prog (mExt t45 2) w (pk K) fun t48 w=>
 JoinX (fun J3=>
 IfX t48 (DoX prog (mBin .sub 3 (.int .i64 8192) t46) w (pk K) fun t54 w=>
 CallX prog 24 #[t0,t47,(.int .i64 0),t54] w (pk K) fun t55 w=>
 DoX prog (mExt t55 0) w (pk K) fun t56 w=>
 DoX prog (mExt t55 1) w (pk K) fun t57 w=>
 DoX prog (mExt t55 2) w (pk K) fun t58 w=>
 J3 [t57,t58,t56] w) (J3 [t47,t48,(.int .i64 0)] w)) (fun vs3 w=>∀_:Sg,S_foliantref18_Read_1 t0 t7 (vs3.getD 0 undef) (vs3.getD 1 undef) t46 (vs3.getD 2 undef) w N2 K))) (J1 [t8,t9] w)
def S_foliantref18_Read (t0 t1:Value)(w:World)(K:Ending→World→Prop):Prop:=
 DoX prog (mAlloc 29) w (pk K) fun t4 w=>
 DoX prog (mBuild 29 #[(0,t1)]) w (pk K) fun t21 w=>
 DoX prog (mAlloc 29) w (pk K) fun t7 w=>
 DoX prog (mStore 29 t7 t21) w (pk K) fun _ w=>
 CallX prog 22 #[t0,(.string ⟨#[120,114,101,102]⟩),t1] w (pk K) fun t24 w=>
 DoX prog (mUn .not t24) w (pk K) fun t25 w=>
 IfX t25 (DoX prog (mBuild 29 #[]) w (pk K) fun t26 w=>
 DoX prog (mStore 29 t4 t26) w (pk K) fun _ w=>
 RetX prog [.cell t4 29,.val (.int .i64 0),.val (.int .i64 19)] w K) (CallX prog 23 #[t0,t1,(.string ⟨#[120,114,101,102]⟩)] w (pk K) fun t30 w=>
 DoX prog (mExt t30 0) w (pk K) fun t31 w=>
 DoX prog (mExt t30 1) w (pk K) fun t32 w=>
 JoinX (fun J1=>
 LoopX [t31,t32] w (fun vs2 w N2=>∀_:Sg,S_foliantref18_Read_0 t0 t7 (vs2.getD 0 undef) (vs2.getD 1 undef) w J1 N2 K)) (fun vs1 w=>∀_:Sg,S_foliantref18_Read_4 t0 t4 t7 (vs1.getD 0 undef) (vs1.getD 1 undef) w K))
theorem S_foliantref18_Read_eq (t0 t1:Value)(w:World)(K:Ending→World→Prop):wpX prog 128 [(13,[8,9,13]),(15,[8,9]),(20,[8,9])] [(5,[8,9]),(14,[8,9,14])] none (bodyOf Tryz.f9) (topQ prog [.cell 4 29,.tmp 5,.tmp 6] K) (startX [t0,t1]) [] w=S_foliantref18_Read t0 t1 w K:=by kernel_rfl
theorem S_foliantref18_Read_ok {t0 t1:Value}{w:World}{K:Ending→World→Prop}(h:S_foliantref18_Read t0 t1 w K):Calls prog 9 #[t0,t1] w K:=
 calls_of_wpX Tryz.func9 rfl rfl rfl rfl (Eq.mpr (S_foliantref18_Read_eq t0 t1 w K) h)
def S_foliantref18_Slots_0 (t0 t1 t5:Value)(w:World)(N1:List Value→World→Prop)(K:Ending→World→Prop):Prop:=
 DoX prog (mB .len #[23] 3 #[false] #[t0]) w (pk K) fun t13 w=>
 DoX prog (mBin .lss 3 t5 t13) w (pk K) fun t14 w=>
 IfX t14 (QuietX w (fun C2=>
 QDo prog C2 (mIA 23 t0 t5) fun t19=>
 QDo prog C2 (mLoad 49 t19) fun t20=>
 QDo prog C2 (mIA 23 t1 t5) fun t23=>
 QDo prog C2 (mLoad 49 t23) fun t24=>
 QDo prog C2 (mEq .neq 49 (.tmp 20) (.tmp 24) t20 t24) fun t25=>
 ∀w,C2 w →
 IfX t25 (K (.returned (.bool false)) w) (DoX prog (mBin .add 3 t5 (.int .i64 1)) w (pk K) fun t16 w=>
 N1 [t16] w))) (K (.returned (.bool true)) w)
def S_foliantref18_Slots (t0 t1:Value)(w:World)(K:Ending→World→Prop):Prop:=
 DoX prog (mB .len #[23] 3 #[false] #[t0]) w (pk K) fun t7 w=>
 DoX prog (mB .len #[23] 3 #[false] #[t1]) w (pk K) fun t9 w=>
 DoX prog (mEq .neq 3 (.tmp 7) (.tmp 9) t7 t9) w (pk K) fun t10 w=>
 IfX t10 (K (.returned (.bool false)) w) (LoopX [(.int .i64 0)] w (fun vs1 w N1=>∀_:Sg,S_foliantref18_Slots_0 t0 t1 (vs1.getD 0 undef) w N1 K))
theorem S_foliantref18_Slots_eq (t0 t1:Value)(w:World)(K:Ending→World→Prop):wpX prog 26 [] [(4,[5])] none (bodyOf Tryz.f19) (topQ prog [.tmp 4] K) (startX [t0,t1]) [] w=S_foliantref18_Slots t0 t1 w K:=by kernel_rfl
theorem S_foliantref18_Slots_ok {t0 t1:Value}{w:World}{K:Ending→World→Prop}(h:S_foliantref18_Slots t0 t1 w K):Calls prog 19 #[t0,t1] w K:=
 calls_of_wpX Tryz.func19 rfl rfl rfl rfl (Eq.mpr (S_foliantref18_Slots_eq t0 t1 w K) h)
def S_foliantref18_Same (t0 t1:Value)(w:World)(K:Ending→World→Prop):Prop:=
 DoX prog (mBox 29 t0) w (pk K) fun t2 w=>
 DoX prog (mBox 29 t1) w (pk K) fun t3 w=>
 DoX prog (mFA 29 t2 0) w (pk K) fun t5 w=>
 DoX prog (mLoad 3 t5) w (pk K) fun t6 w=>
 DoX prog (mFA 29 t3 0) w (pk K) fun t7 w=>
 DoX prog (mLoad 3 t7) w (pk K) fun t8 w=>
 DoX prog (mEq .eql 3 (.tmp 6) (.tmp 8) t6 t8) w (pk K) fun t9 w=>
 GDo t9 true (fun E=>DoX prog (mFA 29 t2 3) w (pk K) E) w fun t11 w=>
 GDo t9 true (fun E=>DoX prog (mLoad 3 t11) w (pk K) E) w fun t12 w=>
 GDo t9 true (fun E=>DoX prog (mFA 29 t3 3) w (pk K) E) w fun t13 w=>
 GDo t9 true (fun E=>DoX prog (mLoad 3 t13) w (pk K) E) w fun t14 w=>
 GDo t9 true (fun E=>DoX prog (mEq .eql 3 (.tmp 12) (.tmp 14) t12 t14) w (pk K) E) w fun t15 w=>
 DoX prog (mPick t9 t15 (.bool false)) w (pk K) fun t16 w=>
 GDo t16 true (fun E=>DoX prog (mFA 29 t2 4) w (pk K) E) w fun t18 w=>
 GDo t16 true (fun E=>DoX prog (mLoad 3 t18) w (pk K) E) w fun t19 w=>
 GDo t16 true (fun E=>DoX prog (mFA 29 t3 4) w (pk K) E) w fun t20 w=>
 GDo t16 true (fun E=>DoX prog (mLoad 3 t20) w (pk K) E) w fun t21 w=>
 GDo t16 true (fun E=>DoX prog (mEq .eql 3 (.tmp 19) (.tmp 21) t19 t21) w (pk K) E) w fun t22 w=>
 DoX prog (mPick t16 t22 (.bool false)) w (pk K) fun t23 w=>
 GDo t23 true (fun E=>DoX prog (mFA 29 t2 5) w (pk K) E) w fun t25 w=>
 GDo t23 true (fun E=>DoX prog (mLoad 3 t25) w (pk K) E) w fun t26 w=>
 GDo t23 true (fun E=>DoX prog (mFA 29 t3 5) w (pk K) E) w fun t27 w=>
 GDo t23 true (fun E=>DoX prog (mLoad 3 t27) w (pk K) E) w fun t28 w=>
 GDo t23 true (fun E=>DoX prog (mEq .eql 3 (.tmp 26) (.tmp 28) t26 t28) w (pk K) E) w fun t29 w=>
 DoX prog (mPick t23 t29 (.bool false)) w (pk K) fun t30 w=>
 GDo t30 true (fun E=>DoX prog (mFA 29 t2 1) w (pk K) E) w fun t32 w=>
 GDo t30 true (fun E=>DoX prog (mLoad 23 t32) w (pk K) E) w fun t33 w=>
 GDo t30 true (fun E=>DoX prog (mFA 29 t3 1) w (pk K) E) w fun t34 w=>
 GDo t30 true (fun E=>DoX prog (mLoad 23 t34) w (pk K) E) w fun t35 w=>
 GDo t30 true (fun E=>CallX prog 19 #[t33,t35] w (pk K) E) w fun t36 w=>
 DoX prog (mPick t30 t36 (.bool false)) w (pk K) fun t37 w=>
 GDo t37 true (fun E=>DoX prog (mFA 29 t2 2) w (pk K) E) w fun t39 w=>
 GDo t37 true (fun E=>DoX prog (mLoad 27 t39) w (pk K) E) w fun t40 w=>
 GDo t37 true (fun E=>DoX prog (mFA 29 t3 2) w (pk K) E) w fun t41 w=>
 GDo t37 true (fun E=>DoX prog (mLoad 27 t41) w (pk K) E) w fun t42 w=>
 GDo t37 true (fun E=>CallX prog 20 #[t40,t42] w (pk K) E) w fun t43 w=>
 DoX prog (mPick t37 t43 (.bool false)) w (pk K) fun t44 w=>
 K (.returned t44) w
theorem S_foliantref18_Same_eq (t0 t1:Value)(w:World)(K:Ending→World→Prop):wpX prog 45 [] [] none (bodyOf Tryz.f10) (topQ prog [.tmp 4] K) (startX [t0,t1]) [] w=S_foliantref18_Same t0 t1 w K:=by kernel_rfl
theorem S_foliantref18_Same_ok {t0 t1:Value}{w:World}{K:Ending→World→Prop}(h:S_foliantref18_Same t0 t1 w K):Calls prog 10 #[t0,t1] w K:=
 calls_of_wpX Tryz.func10 rfl rfl rfl rfl (Eq.mpr (S_foliantref18_Same_eq t0 t1 w K) h)
end
section
open Eng Go.RowKit
theorem tentry_ret (b:Nat)(s:List UInt8)(a num:Int)(w:World)(hs:s.length≤1099511627776)(hr:(trE b s a).is w) :
  Lend prog 65 #[rdP b,.int .i64 num] (trE b s a) w (Tl.entry s a num≠none) (fun v e'=>∃x t,Tl.entry s a num=some (x,t)∧v=slV x∧e'=trE b s t) [badT]:=by
 refine lend_of hr (fun K ho hret hpan=>S_table_reader_entry_ok ?_);unfold S_table_reader_entry;generalize hS0:(trE b s a).blk=S0 at *;have hE:=Tl.entry.eq_1 s a num;refine o_sla ho fun b4 w1 ho=>?_;rw[entry_num] at hE;refine c_lend ho 1 rfl (tnext_ret b s a w1 hs (ho.at_ 1 rfl)) ?_ fun e2 w2 hn ho=>?_
 rotate_left
 ·rw[if_neg (fun h=>hn h.1)] at hE;exact hpan (fun h=>h hE) e2 w2 _ ho.tail
 rintro _ _ w2 h1 ⟨rfl,rfl⟩ ho;refine c_whole ho (fun hw1 w3 ho=>?_) fun hn w3 ho=>?_
 rotate_left
 ·rw[if_neg (fun h=>hn h.2)] at hE;exact hpan (fun h=>h hE) _ w3 _ ho.tail
 rw[if_pos ⟨h1,hw1⟩] at hE;simp only at hE;generalize Lx.next s a=x1 at *
 rw[entry_num] at hE;refine c_lend ho 1 rfl (tnext_ret b s x1.1.t w3 hs (ho.at_ 1 rfl)) ?_ fun e2 w4 hn ho=>?_
 rotate_left
 ·rw[if_neg (fun h=>hn h.1)] at hE;exact hpan (fun h=>h hE) e2 w4 _ ho.tail
 rintro _ _ w4 h2 ⟨rfl,rfl⟩ ho;refine c_whole ho (fun hw2 w5 ho=>?_) fun hn w5 ho=>?_
 rotate_left
 ·rw[if_neg (fun h=>hn h.2)] at hE;exact hpan (fun h=>h hE) _ w5 _ ho.tail
 rw[if_pos ⟨h2,hw2⟩] at hE;simp only at hE;generalize Lx.next s x1.1.t=x2 at *
 rw[m_sl3];refine o_sla ho fun b5 w6 ho=>?_;refine sl_put (y:=⟨num,0,x1.1.n,x2.1.n⟩) 0 ho rfl fun w7 ho=>?_;have ho:OwnS S0 w w7 [slE b5 ⟨num,0,x1.1.n,x2.1.n⟩,slE b4 sl0,trE b s x2.1.t]:=ho;unfold Tl.word at hE;refine c_lend ho 2 rfl (tnext_ret b s x2.1.t w7 hs (ho.at_ 2 rfl)) ?_ fun e2 w8 hn ho=>?_
 rotate_left
 ·rw[if_neg (fun h=>hn h.1),if_neg (fun h=>hn h.1)] at hE;exact hpan (fun h=>h hE) e2 w8 _ ho.tail.tail
 rintro _ _ w8 h3 ⟨rfl,rfl⟩ ho;generalize Lx.next s x2.1.t=x3 at *
 refine o_tok ho fun b6 w9 ho=>?_;refine tk_put 0 ho rfl fun w10 ho=>?_;have ho:OwnS S0 w w10 [tokE b6 x3.1,slE b5 ⟨num,0,x1.1.n,x2.1.n⟩,slE b4 sl0,trE b s x3.1.t]:=ho;have fin:∀{q:Bool},(q=true↔(x3.1.k=5∧(x3.1.s=[110]∨x3.1.s=[102])))→CallX prog 43 #[.bool q] w10 (pk K) fun t30 w=>
   JoinX (fun J1=>
 DoX prog (mFA 90 (.pointer (some ⟨b6,0,none⟩)) 4) w (pk K) fun t31 w=>
 DoX prog (mLoad 9 t31) w (pk K) fun t32 w=>
 DoX prog (mEq .eql 9 (.tmp 32) (.const (.string ⟨#[110]⟩)) t32 (.string ⟨#[110]⟩)) w (pk K) fun t33 w=>
 IfX t33 (DoX prog (mFA 49 (.pointer (some ⟨b5,0,none⟩)) 1) w (pk K) fun t34 w=>
 DoX prog (mStore 3 t34 (.int .i64 1)) w (pk K) fun _ w=>
 J1 [] w) (J1 [] w)) (fun vs1 W'=>∀_:Sg,S_table_reader_entry_0 (.pointer (some ⟨b4,0,none⟩)) (.pointer (some ⟨b5,0,none⟩)) W' K):=by
  intro q hq;refine c_tmust (fun hqt=>?_) fun hqf=>?_
  rotate_left
  ·have hno:¬(x3.1.k=5∧(x3.1.s=[110]∨x3.1.s=[102])):=fun h=>by rw[hq.2 h] at hqf;cases hqf
   rw[if_neg (fun h=>hno ⟨h.2.1,.inl h.2.2⟩),if_neg (fun h=>hno ⟨h.2.1,.inr h.2.2⟩)] at hE;exact hpan (fun h=>h hE) _ w10 _ ho.tail.tail.tail
  obtain⟨k5,hs5⟩:=hq.1 hqt;refine join fun J hJ=>?_;have done:∀{W:World} {x:Slt},OwnS S0 w W [tokE b6 x3.1,slE b5 x,slE b4 sl0,trE b s x3.1.t]→Tl.entry s a num=some (x,x3.1.t)→J [] W:=by
   intro W x ho he;refine hJ _ _ fun _=>?_;unfold S_table_reader_entry_0;rw[sl_v ho 1 rfl];refine sl_put (y:=x) 2 ho rfl fun w12 ho=>?_;refine ret_v1 (rv_cell (ho.agg 2 rfl aggSl)) ?_;exact hret (by rw[he];simp) _ _ w12 _ ho.tail.tail.tail ⟨x,x3.1.t,he,rfl,rfl⟩
  rw[fa_t4',tk_s ho 0 rfl];simp only[rs];by_cases h110:x3.1.s=[110]
  ·rw[if_pos ⟨h3,k5,h110⟩] at hE;simp only[decide_eq_true h110,i_t];rw[fa_s1'];refine o_store 1 ho rfl (by kernel_rfl) rfl (show 0+1 < 4 by omega) fun w11 ho=>?_;exact done (x:=⟨num,1,x1.1.n,x2.1.n⟩) ho hE
  ·have h102:x3.1.s=[102]:=hs5.resolve_left h110;rw[if_neg (fun h=>h110 h.2.2),if_pos ⟨h3,k5,h102⟩] at hE;simp only[decide_eq_false h110,i_f];exact done ho hE
 by_cases k5:x3.1.k=5
 ·by_cases h110:x3.1.s=[110]
  ·simp only[fa_t0,tk_k ho 0 rfl,rs,decide_eq_true k5,fa_t4',tk_s ho 0 rfl,decide_eq_true h110,g_un];simp only[rs,fa_t4',tk_s ho 0 rfl,decide_eq_true h110] at fin;exact fin (by simp[k5,h110])
  ·simp only[fa_t0,tk_k ho 0 rfl,rs,decide_eq_true k5,fa_t4',tk_s ho 0 rfl,decide_eq_false h110,g_un];simp only[rs,fa_t4',tk_s ho 0 rfl,decide_eq_false h110] at fin;exact fin (by simp[k5,h110])
 ·simp only[fa_t0,tk_k ho 0 rfl,rs,decide_eq_false k5,fa_t4',tk_s ho 0 rfl,g_un];simp only[rs,fa_t4',tk_s ho 0 rfl] at fin;exact fin (by simp[k5])
def numV (o:Option (Int×Int)):Value:=match o with|some p=>.tuple #[.int .i64 p.1,.int .i64 p.2,.bool true]|none=>.tuple #[.int .i64 0,.int .i64 0,.bool false]
theorem rnum18_ret (s:List UInt8)(a lo hi:Int)(w:World)(hs:s.length≤1099511627776):Ret prog 24 #[.string ⟨s.toArray⟩,.int .i64 a,.int .i64 lo,.int .i64 hi] w (fun v w'=>v=numV (Tl.number s a lo hi)∧Below w.heap.size w w'):=by
 refine ret_of fun K hK=>S_foliantref18_number_ok ?_;unfold S_foliantref18_number;refine tk_new (Own.start w) (rnext_ret s a w hs) fun b w1 ho=>?_;unfold Tl.number at hK;generalize Lx.next s a=x at *
 have no:(x.2≠0∨x.1.k≠1∨x.1.n < lo∨hi < x.1.n)→K (.returned (.tuple #[.int .i64 0,.int .i64 0,.bool false])) w1:=fun h=>by
  rw[if_pos h] at hK;exact hK _ _ ⟨rfl,ho.done⟩
 simp only[rs];by_cases q1:x.2=0
 case neg=>
  simp only[rs,fa_t0,fa_t3,tk_k ho 0 rfl,tk_n ho 0 rfl,q1,ne_eq,not_true,not_false_eq_true,decide_true,decide_false,g_un];exact no (.inl q1)
 by_cases q2:x.1.k=1
 case neg=>
  simp only[rs,fa_t0,fa_t3,tk_k ho 0 rfl,tk_n ho 0 rfl,q1,q2,ne_eq,not_true,not_false_eq_true,decide_true,decide_false,g_un];exact no (.inr (.inl q2))
 by_cases q3:x.1.n < lo
 ·simp only[rs,fa_t0,fa_t3,tk_k ho 0 rfl,tk_n ho 0 rfl,q1,q2,q3,ne_eq,not_true,not_false_eq_true,decide_true,decide_false,g_un];exact no (.inr (.inr (.inl q3)))
 by_cases q4:hi < x.1.n
 ·simp only[rs,fa_t0,fa_t3,tk_k ho 0 rfl,tk_n ho 0 rfl,q1,q2,q3,q4,ne_eq,not_true,not_false_eq_true,decide_true,decide_false,g_un];exact no (.inr (.inr (.inr q4)))
 simp only[rs,fa_t0,fa_t3,tk_k ho 0 rfl,tk_n ho 0 rfl,q1,q2,q3,q4,ne_eq,not_true,not_false_eq_true,decide_true,decide_false,g_un];rw[if_neg (by simp[q1,q2,q3,q4])] at hK;refine quiet ?_;refine q_do _ (fun _=>run_fa ft3) (q_at _ (fun _ hb=>tkr_n (ho.grow hb) 0 rfl) (q_do _ (fun _=>run_fa ft2) (q_at _ (fun _ hb=>tkr_t (ho.grow hb) 0 rfl) ?_)));intro W hb;exact hK _ _ ⟨rfl,(ho.grow hb).done⟩
theorem rword18_ret (s:List UInt8)(a:Int)(k:List UInt8)(w:World)(hs:s.length≤1099511627776):Ret prog 23 #[.string ⟨s.toArray⟩,.int .i64 a,.string ⟨k.toArray⟩] w
  (fun v w'=>v=.tuple #[.int .i64 (Lx.next s a).1.t,.bool (Tl.word s a k).isSome]∧Below w.heap.size w w'):=by
 refine ret_of fun K hK=>S_foliantref18_word_ok ?_;unfold S_foliantref18_word;refine tk_new (Own.start w) (rnext_ret s a w hs) fun b w1 ho=>?_;unfold Tl.word at hK;generalize Lx.next s a=x at *
 have fin:∀{q:Bool} {W:World},Below w1.heap.size w1 W→(q=true↔(x.2=0∧x.1.k=5∧x.1.s=k))→K (.returned (.tuple #[.int .i64 x.1.t,.bool q])) W:=by
  intro q W hb hq;refine hK _ _ ⟨?_,(ho.grow hb).done⟩;by_cases h:x.2=0∧x.1.k=5∧x.1.s=k
  ·rw[if_pos h,hq.2 h];rfl
  ·have:q=false:=by
    cases q with
   |false=>rfl
   |true=>exact absurd (hq.1 rfl) h
   rw[if_neg h,this];rfl
 refine quiet ?_;refine q_do _ (fun _=>run_fa ft2) (q_at _ (fun _ hb=>tkr_t (ho.grow hb) 0 rfl) (q_eq ?_));by_cases e1:x.2=0
 case neg=>
  simp only[decide_eq_false e1,gq,gq_un];refine q_pf ?_;simp only[gq,gq_un];exact q_pf fun W hb=>fin hb (by simp[e1])
 simp only[decide_eq_true e1,gq,gq_un];refine q_do _ (fun _=>run_fa ft0) (q_at _ (fun _ hb=>tkr_k (ho.grow hb) 0 rfl) (q_eq (q_pt ?_)));by_cases e2:x.1.k=5
 case neg=>
  simp only[decide_eq_false e2,gq,gq_un];exact q_pf fun W hb=>fin hb (by simp[e2])
 simp only[decide_eq_true e2,gq,gq_un];refine q_do _ (fun _=>run_fa ft4) (q_at _ (fun _ hb=>tkr_s (ho.grow hb) 0 rfl) (q_seq (q_pt ?_)));exact fun W hb=>fin hb (by simp[e1,e2])
theorem rentry18_ret (s:List UInt8)(a num:Int)(w:World)(hs:s.length≤1099511627776):Ret prog 25 #[.string ⟨s.toArray⟩,.int .i64 a,.int .i64 num] w
  (fun v w'=>(∃x t,v=.tuple #[slV x,.int .i64 t,.bool (Tl.entry s a num).isSome]∧∀p,Tl.entry s a num=some p→p=(x,t))∧Below w.heap.size w w'):=by
 refine ret_of fun K hK=>S_foliantref18_entry_ok ?_;unfold S_foliantref18_entry;have hE:=Tl.entry.eq_1 s a num;have none0:∀{W:World} {L:List Ent} {b6:Nat} {y:Slt} (i:Nat),Own w W L→L[i]?=some (slE b6 y)→Tl.entry s a num=none→DoX prog (mBuild 49 #[]) W (pk K) fun t23 w=>
 DoX prog (mStore 49 (.pointer (some ⟨b6,0,none⟩)) t23) w (pk K) fun _ w=>
 RetX prog [.cell (.pointer (some ⟨b6,0,none⟩)) 49,.val (.int .i64 0),.val (.bool false)] w K:=by
  intro W L b6 y i ho hi he;rw[m_sl0];have hil:i < L.length:=(List.getElem?_eq_some_iff.1 hi).1;refine sl_put (y:=sl0) i ho hi fun w' ho=>?_;have hi2:(L.set i (slE b6 sl0))[i]?=some (slE b6 sl0):=by simp[hil]
  refine ret_v3 (rv_cell (ho.agg i hi2 aggSl)) rv_val rv_val (hK _ _ ⟨⟨sl0,0,by rw[he];rfl,fun p hp=>by rw[he] at hp;cases hp⟩,ho.done⟩)
 refine o_sla (Own.start w) fun b6 w1 ho=>?_;refine c_below ho (R:=fun v=>v=numV (Tl.number s a 0 2147483647)) (rnum18_ret s a 0 2147483647 w1 hs) ?_;rintro _ w2 rfl ho;cases h1:Tl.number s a 0 2147483647 with
|none=>
  rw[h1] at hE;simp only[numV,ex,rs,Bool.not_false];exact none0 0 ho rfl hE
|some p=>
 rw[h1] at hE;simp only at hE;simp only[numV,ex,rs,Bool.not_true];refine c_below ho (R:=fun v=>v=numV (Tl.number s p.2 0 65535)) (rnum18_ret s p.2 0 65535 w2 hs) ?_;rintro _ w3 rfl ho;cases h2:Tl.number s p.2 0 65535 with
|none=>
  rw[h2] at hE;simp only[numV,ex,rs,Bool.not_false];exact none0 0 ho rfl hE
|some q=>
 rw[h2] at hE;simp only at hE;simp only[numV,ex,rs,Bool.not_true];rw[m_sl4];refine o_sla ho fun b12 w4 ho=>?_;refine sl_put (y:=⟨num,1,p.1,q.1⟩) 0 ho rfl fun w5 ho=>?_;have ho:Own w w5 [slE b12 ⟨num,1,p.1,q.1⟩,slE b6 sl0]:=ho;refine c_below ho (R:=fun v=>v=.tuple #[.int .i64 (Lx.next s q.2).1.t,.bool (Tl.word s q.2 [110]).isSome]) (rword18_ret s q.2 [110] w5 hs) ?_;rintro _ w6 rfl ho;simp only[ex];refine join fun J hJ=>?_;have fin:∀{W:World} {x:Slt} {t:Int} {ok:Bool},Own w W [slE b12 x,slE b6 sl0]→ok=(Tl.entry s a num).isSome→(∀r,Tl.entry s a num=some r→r=(x,t))→J [.bool ok,.int .i64 t] W:=by
  intro W x t ok ho hok hx;refine hJ _ _ fun _=>?_;simp only[gd];unfold S_foliantref18_entry_0;rw[sl_v ho 0 rfl];refine sl_put (y:=x) 1 ho rfl fun w7 ho=>?_;exact ret_v3 (rv_cell (ho.agg 1 rfl aggSl)) rv_val rv_val (hK _ _ ⟨⟨x,t,by rw[hok];rfl,hx⟩,ho.done⟩)
 have hword:∀{k:List UInt8} {t:Int},Tl.word s q.2 k=some t→t=(Lx.next s q.2).1.t:=by
  intro k t h;unfold Tl.word at h;split at h
  ·cases h;rfl
  ·cases h
 cases h3:Tl.word s q.2 [110] with
|some t=>
  rw[h3] at hE;simp only at hE;simp only[Option.isSome_some,rs,Bool.not_true];exact fin ho (by rw[hE];rfl) (fun r hr=>by rw[hE] at hr;cases hr;rw[hword h3])
|none=>
  rw[h3] at hE;simp only at hE;simp only[Option.isSome_none,rs,Bool.not_false];refine c_below ho (R:=fun v=>v=.tuple #[.int .i64 (Lx.next s q.2).1.t,.bool (Tl.word s q.2 [102]).isSome]) (rword18_ret s q.2 [102] w6 hs) ?_;rintro _ w7 rfl ho;simp only[ex];rw[fa_s1'];refine o_store 0 ho rfl (by kernel_rfl) rfl (show 0+1 < 4 by omega) fun w8 ho=>?_;have ho:Own w w8 [slE b12 ⟨num,0,p.1,q.1⟩,slE b6 sl0]:=ho;cases h4:Tl.word s q.2 [102] with
 |some t=>
   rw[h4] at hE;simp only at hE;exact fin ho (by rw[hE];rfl) (fun r hr=>by rw[hE] at hr;cases hr;rw[hword h4])
 |none=>
   rw[h4] at hE;simp only at hE;exact fin ho (by rw[hE];rfl) (fun r hr=>by rw[hE] at hr;cases hr)
end
section
namespace Eng
open Go.RowKit
section
variable {α:Type}{enc:α→List Value}{k:Nat}
theorem flat_len (hk:∀x,(enc x).length=k):∀l:List α,(l.flatMap enc).length=l.length*k
|[]=>by simp
|x::l=>by rw[List.flatMap_cons,List.length_append,hk,flat_len hk l,List.length_cons,Nat.succ_mul];omega
theorem flat_take (hk:∀x,(enc x).length=k):∀(l:List α) (j:Nat),(l.flatMap enc).take (j*k)=(l.take j).flatMap enc
|[],j=>by simp
|x::l,0=>by simp
|x::l,j+1=>by
  rw[List.flatMap_cons,List.take_succ_cons,List.flatMap_cons,Nat.succ_mul,Nat.add_comm,List.take_append,hk,List.take_of_length_le (by rw[hk];omega),Nat.add_sub_cancel_left,flat_take hk l j]
theorem flat_drop (hk:∀x,(enc x).length=k):∀(l:List α) (j:Nat),(l.flatMap enc).drop (j*k)=(l.drop j).flatMap enc
|[],j=>by simp
|x::l,0=>by simp
|x::l,j+1=>by
  rw[List.flatMap_cons,List.drop_succ_cons,Nat.succ_mul,Nat.add_comm,List.drop_append,hk,List.drop_eq_nil_of_le (by rw[hk];omega),Nat.add_sub_cancel_left,flat_drop hk l j,List.nil_append]
theorem flat_set (hk:∀x,(enc x).length=k)(l:List α)(j:Nat)(x:α):(l.take j++x::l.drop (j+1)).flatMap enc=(l.flatMap enc).take (j*k)++enc x++(l.flatMap enc).drop (j*k+(enc x).length):=by
 rw[List.flatMap_append,List.flatMap_cons,flat_take hk,hk,←Nat.succ_mul,flat_drop hk,List.append_assoc]
theorem flat_get (hk:∀x,(enc x).length=k){l:List α}{j:Nat}(hj:j < l.length){i:Nat}{v:Value}(h:(enc l[j])[i]?=some v):(l.flatMap enc)[j*k+i]?=some v:=by
 have h1:((l.flatMap enc).drop (j*k))[i]?=some v:=by
  rw[flat_drop hk,List.drop_eq_getElem_cons hj,List.flatMap_cons,List.getElem?_append_left (List.getElem?_eq_some_iff.1 h).1];exact h
 rwa [List.getElem?_drop] at h1
abbrev Ent.recs (T:TypeId)(enc:α→List Value)(k:Nat)(v:Value)(l:List α):Ent:=.urow T k v l.length (l.flatMap enc)
variable {S:Nat→Prop}{P:Program}{w w0:World}{L:List Ent}{PK PK2:PKT}{K:VWP}
theorem rec_row (hk:∀x,(enc x).length=k){T E:TypeId}(ht:P.underlying T=some (.slice E))(hz:(P.info? E).map (·.size)=some k)(ha:aggN P E=some k)(i:Nat){v:Value}{l:List α}(ho:OwnS S w0 w L)(hi:L[i]?=some (.recs E enc k v l)){j:Nat}(hj:j < l.length) :
  ∃g cap,v=.slice (some ⟨g,0,none⟩) l.length cap∧(∀w,(mIA T v (.int .i64 (j:Int))).run P w=.ok (.value (.pointer (some ⟨g,j*k,none⟩))) w) ∧
   (∀w',(Ent.recs E enc k v l).is w'→(mLoad E (.pointer (some ⟨g,j*k,none⟩))).run P w'=.ok (.value (.agg (enc l[j]).toArray)) w') ∧
   ∀w',(Ent.recs E enc k v l).is w'→∀m u,(enc l[j])[m]?=some u→w'.cell? ⟨g,j*k+m,none⟩=some u:=by
 obtain⟨g,cap,rfl⟩:=urow_open (ho.at_ i hi) (by omega);have hcell:∀w',(Ent.recs E enc k (.slice (some ⟨g,0,none⟩) l.length cap) l).is w'→∀m u,(enc l[j])[m]?=some u→w'.cell? ⟨g,j*k+m,none⟩=some u:=by
  intro w' h m u hm;obtain⟨b,off,cap',e,hc⟩:=sl_open (Sl.urow h) (by omega);cases e;have:=hc _ _ (flat_get hk hj hm)
  rwa [Nat.zero_add] at this
 refine⟨g,cap,rfl,fun w=>?_,fun w' h=>?_,hcell⟩
 ·refine (run_ia ht hz (by omega) (by omega)).trans ?_;rw[Int.toNat_natCast,Nat.zero_add]
 ·exact run_load_at (AtV.agg ha (hk _) fun m u hm=>hcell w' h m u hm)
theorem rec_st (hk:∀x,(enc x).length=k)(h1:∀x,∀v∈enc x,v.oneCell'=true){E:TypeId}(hz:(P.info? E).map (·.size)=some k)(i:Nat){g n cap:Nat}{l:List α}(ho:OwnS S w0 w L)(hi:L[i]?=some (.recs E enc k (.slice (some ⟨g,0,none⟩) n cap) l)){j:Nat}(hj:j < l.length){x:α}
  (hc:Value.cells (.agg (enc x).toArray)=(enc x).toArray)
  (h:∀w',OwnS S w0 w' (L.set i (.recs E enc k (.slice (some ⟨g,0,none⟩) n cap) (l.take j++x::l.drop (j+1))))→K undef w') :
  DoX P (mStore E (.pointer (some ⟨g,j*k,none⟩)) (.agg (enc x).toArray)) w PK K:=by
 obtain⟨g',cap',e⟩:=urow_open (ho.at_ i hi) (by omega);cases e;refine o_storeU i ho hi (u:=.agg (enc x).toArray) (new:=enc x) hc (by rw[hk];exact hz) (h1 x) (by rw[hk,←Nat.succ_mul];exact Nat.mul_le_mul_right _ hj) fun w' ho=>h w' ?_;have el:(l.take j++x::l.drop (j+1)).length=l.length:=by simp;omega
 rw[Ent.recs,el,flat_set hk];exact ho
end
end Eng
end
section
open Go
namespace Lx
open Oc
end Lx
namespace Tl
open Lx (Tok Single skip)
open Ps (At Toks)
def sp:List UInt8:=[32]
def nl:List UInt8:=[10]
def spnl:List UInt8:=[32,10]
abbrev Pc:=List UInt8×List UInt8
def cat (l:List Pc):List UInt8:=l.flatMap fun p=>p.1++p.2
def kindW (x:Slt):List UInt8:=if x.kind=1 then [110] else [102]
def slotPc (x:Slt):List Pc:=[(Pl.pad x.a 10,sp),(Pl.pad x.b 5,sp),(kindW x,spnl)]
def groupsG:List Slt→List Slt→List (List Slt)
|cur,[]=>if cur=[] then [] else [cur]
|cur,x::l=>match cur.getLast? with
 |none=>groupsG [x] l
 |some y=>if y.num < x.num∧x.num - 1=y.num then groupsG (cur++[x]) l else cur::groupsG [x] l
def groups (l:List Slt):List (List Slt):=groupsG [] l
def first (g:List Slt):Int:=(g.head?.map (·.num)).getD 0
def run (g:List Slt):Int×Int:=(first g,(g.length:Int))
def runs (l:List Slt):List (Int×Int):=(groups l).map run
def groupPc (g:List Slt):List Pc:=[(Lib.itoa (first g),sp),(Lib.itoa g.length,nl)]++g.flatMap slotPc
def headPc (l:List Slt):List Pc:=[(xrefW,nl)]++(groups l).flatMap groupPc++[(trailW,nl)]
def refuse (l:List Slt)(o:Ob):Int:=
 if check l≠0 then check l
 else if l.any (fun x=>decide (x.kind=2)) then 10
 else if l.any (fun x=>decide (x.num=0)&&(decide (x.kind≠0)||decide (x.b≠65535))) then 1
 else if Vl.check 1 o≠0 then Vl.check 1 o else if o.k≠7 then 10 else 0
def text (l:List Slt)(o:Ob):List UInt8×Int:=if refuse l o≠0 then ([],refuse l o) else (cat (headPc l)++(Pl.join (Wr.parts o)++nl),0)
end Tl
end
section
open Go
namespace Tl
open Lx (Tok Single skip next)
open Ps (At Toks)
structure OkS (x:Slt):Prop where
 n0:0≤x.num
 n1:x.num≤8191
 kind:x.kind=0∨x.kind=1
 a0:0≤x.a
 a1:x.a≤2147483647
 b0:0≤x.b
 b1:x.b≤65535
theorem okS_of {x:Slt}(h:okS x=0)(h2:x.kind≠2):OkS x:=by
 unfold okS at h;split at h
 ·omega
 split at h
 ·omega
 split at h
 ·omega
 exact⟨by omega,by omega,by omega,by omega,by omega,by omega,by omega⟩
def RiseS (l:List Slt):Prop:=l.Pairwise fun a b=>a.num < b.num
theorem checkG_ok:∀{l:List Slt} {last:Option Int},checkG last l=0→(∀x∈l,okS x=0)∧RiseS l∧∀n,last=some n→∀x∈l,n < x.num
|[],_,_=>⟨by simp,List.Pairwise.nil,by simp⟩
|x::l,last,h=>by
  rw[checkG] at h;split at h
  ·rename_i h1;exact absurd h h1
  rename_i h1
  split at h
  ·omega
  rename_i h2
  split at h
  ·omega
  rename_i h3
  obtain⟨i1,i2,i3⟩:=checkG_ok h;have i3:=i3 x.num rfl;have hlast:∀n,last=some n→n < x.num:=by
   intro n hn;subst hn;simp at h2 h3;omega
  refine⟨fun y hy=>?_,List.pairwise_cons.2 ⟨i3,i2⟩,fun n hn y hy=>?_⟩
  ·rcases List.mem_cons.1 hy with rfl|hy
   ·exact Classical.not_not.1 h1
   ·exact i1 y hy
  ·have h0:=hlast n hn;rcases List.mem_cons.1 hy with rfl|hy
   ·exact h0
   ·have:=i3 y hy;omega
theorem refuse_ok {l:List Slt}{o:Ob}(h:refuse l o=0):(∀x∈l,OkS x)∧RiseS l∧Vl.check 1 o=0∧o.k=7:=by
 unfold refuse at h;split at h
 ·rename_i h1;exact absurd h h1
 rename_i h1
 obtain⟨c1,c2,-⟩:=checkG_ok (Classical.not_not.1 h1);split at h
 ·omega
 rename_i h2
 split at h
 ·omega
 split at h
 ·rename_i h4;exact absurd h h4
 rename_i h4
 split at h
 ·omega
 rename_i h5
 refine⟨fun x hx=>okS_of (c1 x hx) ?_,c2,Classical.not_not.1 h4,Classical.not_not.1 h5⟩;intro e;exact h2 (List.any_eq_true.2 ⟨x,hx,by simp[e]⟩)
def FromN:Int→List Slt→Prop
|_,[]=>True
|n,x::l=>x.num=n∧FromN (n+1) l
theorem fromN_snoc:∀{l:List Slt} {n:Int} {x:Slt},FromN n (l++[x])↔FromN n l∧x.num=n+l.length
|[],n,x=>by simp[FromN]
|y::l,n,x=>by
  rw[List.cons_append,FromN,fromN_snoc,FromN,List.length_cons];constructor
  ·rintro⟨a,b,c⟩;exact⟨⟨a,b⟩,by omega⟩
  ·rintro⟨⟨a,b⟩,c⟩;exact⟨a,b,by omega⟩
theorem fromN_last {l:List Slt}{n:Int}{y:Slt}(h:FromN n l)(hy:l.getLast?=some y):y.num=n+l.length - 1:=by
 obtain⟨m,rfl⟩:∃m,l=m++[y]:=by
  have:=List.getLast?_eq_some_iff.1 hy;exact this
 have:=(fromN_snoc.1 h).2;simp;omega
def Grp (g:List Slt):Prop:=g≠[]∧FromN (first g) g
theorem groupsG_ok:∀(l cur:List Slt),(cur=[]∨Grp cur)→(groupsG cur l).flatten=cur++l∧∀g∈groupsG cur l,Grp g
|[],cur,h=>by
  rw[groupsG];split
  ·rename_i hc;subst hc;simp
  ·rename_i hc
   rcases h with h|h
   ·exact absurd h hc
   ·simp[h]
|x::l,cur,h=>by
  rw[groupsG];have hx:Grp [x]:=⟨by simp,by simp[FromN,first]⟩;cases hg:cur.getLast? with
 |none=>
   have hc:cur=[]:=List.getLast?_eq_none_iff.1 hg;subst hc;obtain⟨a,b⟩:=groupsG_ok l [x] (.inr hx);simp only;exact⟨by rw[a];rfl,b⟩
 |some y=>
   have hc:cur≠[]:=fun e=>by rw[e] at hg;cases hg
   have hcg:Grp cur:=h.resolve_left hc;simp only;split
   ·rename_i h1
    have hf:Grp (cur++[x]):=by
     refine⟨by simp,?_⟩;have e:first (cur++[x])=first cur:=by
      cases cur with
     |nil=>exact absurd rfl hc
     |cons _ _=>rfl
     rw[e];have:=fromN_last hcg.2 hg;exact fromN_snoc.2 ⟨hcg.2,by omega⟩
    obtain⟨a,b⟩:=groupsG_ok l (cur++[x]) (.inr hf);exact⟨by rw[a];simp,b⟩
   ·obtain⟨a,b⟩:=groupsG_ok l [x] (.inr hx);refine⟨by rw[List.flatten_cons,a];simp,fun g hgm=>?_⟩;rcases List.mem_cons.1 hgm with rfl|hgm
    ·exact hcg
    ·exact b g hgm
theorem groups_ok (l:List Slt):(groups l).flatten=l∧∀g∈groups l,Grp g:=by
 have:=groupsG_ok l [] (.inl rfl);simpa[groups] using this
theorem nDigits_le:∀(k u:Nat),1≤k→u < 10 ^ k→Lib.nDigits u≤k
|0,_,h,_=>by omega
|1,u,_,h=>by rw[Lib.nDigits_small (by simpa using h)];omega
|k+2,u,_,h=>by
  by_cases h1:u < 10
  ·rw[Lib.nDigits_small h1];omega
  ·rw[Lib.nDigits_big h1];have:=nDigits_le (k+1) (u / 10) (by omega) (by
    rw[Nat.pow_succ] at h;omega)
   omega
theorem itoa_len {n:Int}(h0:0≤n)(h1:n≤2147483647):(Lib.itoa n).length≤10:=by
 obtain⟨u,rfl⟩:∃u:Nat,n=u:=⟨n.toNat,by omega⟩;unfold Lib.itoa;rw[if_neg (by omega),Int.toNat_natCast,Lib.decDigits_length];exact nDigits_le 10 u (by omega) (by omega)
theorem while_all {α:Type}{p:α→Bool}:∀{l:List α},(∀y∈l,p y=true)→l.takeWhile p=l∧l.dropWhile p=[]
|[],_=>⟨rfl,rfl⟩
|a::l,h=>by
  have ha:=h a List.mem_cons_self;obtain⟨h1,h2⟩:=while_all fun y hy=>h y (List.mem_cons_of_mem _ hy);rw[List.takeWhile_cons,List.dropWhile_cons,ha];exact⟨by rw[if_pos rfl,h1],by rw[if_pos rfl,h2]⟩
theorem grp_last {g:List Slt}(h:Grp g):∃x∈g,x.num=first g+g.length - 1:=by
 obtain⟨h1,h2⟩:=h;cases hg:g.getLast? with
|none=>exact absurd (List.getLast?_eq_none_iff.1 hg) h1
|some y=>exact⟨y,List.mem_of_getLast? hg,fromN_last h2 hg⟩
end Tl
end
section
open Eng Go.RowKit
theorem slC_len (x:Slt):(slC x).length=4:=rfl
theorem slC_cells (x:Slt):Value.cells (.agg (slC x).toArray)=(slC x).toArray:=rfl
abbrev slsE (v:Value)(l:List Slt):Ent:=.recs 49 slC 4 v l
theorem elSl:elB prog 49 4 32=true:=by kernel_rfl
section
variable {w:World}{PK:PKT}{K:VWP}{S:Nat→Prop}{w0:World}{L:List Ent}
theorem sls_row (i:Nat){v:Value}{l:List Slt}(ho:OwnS S w0 w L)(hi:L[i]?=some (slsE v l)){j:Nat}(hj:j < l.length) :
  ∃g cap,v=.slice (some ⟨g,0,none⟩) l.length cap∧(∀w,(mIA 23 v (.int .i64 (j:Int))).run prog w=.ok (.value (.pointer (some ⟨g,j*4,none⟩))) w) ∧
   (∀w',(slsE v l).is w'→(mLoad 49 (.pointer (some ⟨g,j*4,none⟩))).run prog w'=.ok (.value (slV l[j])) w') ∧
   ∀w',(slsE v l).is w'→∀m u,(slC l[j])[m]?=some u→w'.cell? ⟨g,j*4+m,none⟩=some u:=
 rec_row slC_len Tryz.underlying23 szSl aggSl i ho hi hj
theorem sls_st (i:Nat){g n cap:Nat}{l:List Slt}(ho:OwnS S w0 w L)(hi:L[i]?=some (slsE (.slice (some ⟨g,0,none⟩) n cap) l)){j:Nat}(hj:j < l.length){x:Slt}
  (h:∀w',OwnS S w0 w' (L.set i (slsE (.slice (some ⟨g,0,none⟩) n cap) (l.take j++x::l.drop (j+1))))→K undef w') :
  DoX prog (mStore 49 (.pointer (some ⟨g,j*4,none⟩)) (slV x)) w PK K:=rec_st slC_len slC_one szSl i ho hi hj (slC_cells x) h
theorem o_sls1 (x:Slt)(ho:OwnS S w0 w L)(k:∀b w',OwnS S w0 w' (slE b x::L)→K (.slice (some ⟨b,0,none⟩) 1 1) w'):DoX prog (mBuildS 23 1 #[(0,slV x)]) w PK K:=
 o_new (fun b=>.slice (some ⟨b,0,none⟩) 1 1) (slC x) 49 (fun _=>by kernel_rfl) ho k
theorem o_apSl (i:Nat){v:Value}{l:List Slt}{x:Slt}{cb:Array Bool}{PK2:PKT}(ho:OwnS S w0 w L)(hi:L[i]?=some (slsE v l))(hb:l.length≤1000000000)
  (k:∀v' w',OwnS S w0 w' (L.set i (slsE v' (l++[x])))→K v' w') :
  DoX prog (mBuildS 23 1 #[(0,slV x)]) w PK fun t w=>DoX prog (mB .append #[23,23] 23 cb #[v,t]) w PK2 K:=by
 refine o_sls1 x ho fun nb w1 ho=>?_;refine o_appendU (i+1) Tryz.underlying23 elSl (by decide) ho (by rw[List.getElem?_cons_succ];exact hi) (ho.sl 0 rfl 4 1 1 rfl) (slC_one x) (by omega) (by omega) fun v' w2 ho=>k v' w2 ?_;have e:slsE v' (l++[x])=.urow 49 4 v' (l.length+1) (l.flatMap slC++slC x):=by
  rw[slsE,Ent.recs,List.length_append,List.flatMap_append];simp
 rw[e];exact ho.tail
end
theorem lay_at {l:List Slt}{x:Slt}{i:Nat}(hi:i≤l.length)(h1:∀m (h:m < l.length),m < i→l[m].num < x.num)(h2:∀m (h:m < l.length),i≤m→x.num < l[m].num):Tl.lay l x=some (l.take i++x::l.drop i):=by
 have hc:(l.map (·.num)).contains x.num=false:=by
  rw[Bool.eq_false_iff];intro h;have hm:x.num∈l.map (·.num):=by simpa using h
  obtain⟨y,hy,e⟩:=List.mem_map.1 hm;obtain⟨m,hm,rfl⟩:=List.getElem_of_mem hy;rcases Nat.lt_or_ge m i with h|h
  ·have:=h1 m hm h;omega
  ·have:=h2 m hm h;omega
 have ht:(l.take i).takeWhile (fun y=>decide (y.num < x.num))=l.take i∧(l.take i).dropWhile (fun y=>decide (y.num < x.num))=[]:=Tl.while_all fun y hy=>by
  obtain⟨m,hm,rfl⟩:=List.getElem_of_mem hy;rw[List.getElem_take];exact decide_eq_true (h1 m (by simp at hm;omega) (by simp at hm;omega))
 have hd:(l.drop i).takeWhile (fun y=>decide (y.num < x.num))=[]∧(l.drop i).dropWhile (fun y=>decide (y.num < x.num))=l.drop i:=by
  cases h:l.drop i with
 |nil=>exact⟨rfl,rfl⟩
 |cons y r=>
   have hil:i < l.length:=by
    have:=congrArg List.length h;simp at this;omega
   have hy:y=l[i]:=by
    rw[List.drop_eq_getElem_cons hil] at h
    injection h with h1 h2
    exact h1.symm
   have:¬y.num < x.num:=by
    have:=h2 i hil (Nat.le_refl _);rw[hy];omega
   rw[List.takeWhile_cons_of_neg (by simpa using this),List.dropWhile_cons_of_neg (by simpa using this)];exact⟨rfl,rfl⟩
 unfold Tl.lay;rw[hc];have e:l=l.take i++l.drop i:=(List.take_append_drop i l).symm;have a1:l.takeWhile (fun y=>decide (y.num < x.num))=l.take i:=by
  conv=>lhs;rw[e]
  rw[List.takeWhile_append];simp only[ht.1,hd.1,if_true,List.append_nil]
 have a2:l.dropWhile (fun y=>decide (y.num < x.num))=l.drop i:=by
  conv=>lhs;rw[e]
  rw[List.dropWhile_append];simp[ht.2,hd.2]
 rw[if_neg (by simp),a1,a2]
theorem lay_hit {l:List Slt}{x:Slt}{i:Nat}(hi:i < l.length)(h:l[i].num=x.num):Tl.lay l x=none:=by
 unfold Tl.lay;rw[if_pos];have:x.num∈l.map (·.num):=List.mem_map.2 ⟨l[i],List.getElem_mem hi,h⟩;simpa using this
theorem rlay18_ret (l:List Slt)(x:Slt)(v:Value)(w:World)(h0:(slsE v l).is w)(hb:l.length≤1000000)(hr:Tl.RiseS l) :
  Ret prog 26 #[v,slV x] w (fun r w'=>∃v' l',r=.tuple #[v',.bool (Tl.lay l x).isSome]∧(∀y,Tl.lay l x=some y→l'=y)∧Turn (slsE v l) (slsE v' l') w w'):=by
 refine ret_of fun K hK=>S_foliantref18_lay_ok ?_;unfold S_foliantref18_lay;have ho:OwnS (slsE v l).blk w w [slsE v l]:=OwnS.lend h0;generalize hS:(slsE v l).blk=S0 at ho;refine o_slb x ho fun b3 w1 ho=>?_;rw[sl_len Tryz.underlying23 (ho.slU 1 rfl)];refine loop (fun vs w'=>∃i:Nat,vs=[.int .i64 i]∧i≤l.length∧(∀m (h:m < l.length),i≤m→x.num < l[m].num)∧OwnS S0 w w' [slE b3 x,slsE v l]) (fun vs _=>n0 vs) ⟨l.length,rfl,Nat.le_refl _,fun m h hm=>by omega,ho⟩ ?_;clear ho h0;rintro vs w2 ⟨i,rfl,hi,hgt,ho⟩ _;simp only[S_foliantref18_lay_0,gd]
 -- it is put at i
 have put:∀{W:World},OwnS S0 w W [slE b3 x,slsE v l]→Tl.lay l x=some (l.take i++x::l.drop i)→DoX prog (mLoad 49 (.pointer (some ⟨b3,0,none⟩))) W (pk K) fun t36 w=>
 DoX prog (mBuildS 23 1 #[(0,t36)]) w (pk K) fun t37 w=>
 DoX prog (mB .append #[23,23] 23 #[false,false] #[v,t37]) w (pk K) fun t38 w=>
 DoX prog (mB .len #[23] 3 #[false] #[t38]) w (pk K) fun t40 w=>
 DoX prog (mBin .sub 3 t40 (.int .i64 1)) w (pk K) fun t41 w=>
 LoopX [t41] w (fun vs4 W' N4=>∀_:Sg,S_foliantref18_lay_1 t38 (.pointer (some ⟨b3,0,none⟩)) (.int .i64 (i:Int)) (vs4.getD 0 undef) W' N4 K):=by
  intro W ho hlay;rw[sl_v ho 0 rfl];refine o_apSl 1 ho rfl (by omega) fun v' w3 ho=>?_;have ho:OwnS S0 w w3 [slE b3 x,slsE v' (l++[x])]:=ho;rw[sl_len Tryz.underlying23 (ho.slU 1 rfl)];simp only[rs];rw[wrap64_id (by simp<;>omega) (by simp<;>omega),show (((l++[x]).length:Nat):Int) - 1=(l.length:Int) by simp];refine loop (fun vs w'=>∃(k:Nat) (g:Slt),vs=[.int .i64 k]∧i≤k∧k≤l.length∧OwnS S0 w w' [slE b3 x,slsE v' (l.take k++g::l.drop k)]) (fun vs _=>n0 vs) ⟨l.length,x,rfl,hi,Nat.le_refl _,by rw[List.take_length,List.drop_length];exact ho⟩ ?_;clear ho;rintro vs w4 ⟨k,g,rfl,hik,hkl,ho⟩ _;simp only[S_foliantref18_lay_1,gd,rs];have hlen:(l.take k++g::l.drop k).length=l.length+1:=by simp;omega
  by_cases hlt:(i:Int) < (k:Int)
  ·obtain⟨j,rfl⟩:∃j,k=j+1:=⟨k - 1,by omega⟩;simp only[decide_eq_true hlt,i_t];have hw1:IntKind.wrap .i64 (((j+1:Nat):Int) - 1)=(j:Int):=by rw[wrap64_id (by omega) (by omega)];omega
   rw[hw1];obtain⟨gb,cap,hv,ia,ld,_⟩:=sls_row 1 ho rfl (j:=j) (by omega);obtain⟨gb2,cap2,hv2,ia2,_,_⟩:=sls_row 1 ho rfl (j:=j+1) (by omega);have hg:gb2=gb:=by rw[hv2] at hv;injection hv with h;injection h with h;injection h
   subst hg;refine do_eq (ia w4) |>.mpr (do_eq (ld w4 (ho.at_ 1 rfl)) |>.mpr (do_eq (ia2 w4) |>.mpr ?_));rw[ins_get g (by omega)];subst hv2;refine sls_st 1 ho rfl (by omega) fun w5 ho=>?_;rw[ins_shift g (by omega)] at ho;refine nextX ⟨j,l[j],rfl,by omega,by omega,ho⟩ (by show Int.toNat (j:Int) < Int.toNat ((j+1:Nat):Int);omega)
  ·have hki:k=i:=by omega
   subst hki;simp only[decide_eq_false hlt,i_f];rw[sl_v ho 0 rfl];obtain⟨gb,cap,hv,ia,_,_⟩:=sls_row 1 ho rfl (j:=k) (by omega);refine do_eq (ia w4) |>.mpr ?_;subst hv;refine sls_st 1 ho rfl (by omega) fun w5 ho=>?_;rw[ins_end g x hi] at ho;have ho:=ho.tail;refine hK _ _ ⟨_,l.take k++x::l.drop k,by rw[hlay];rfl,fun y hy=>by rw[hlay] at hy;cases hy;rfl,?_⟩;subst hS;exact OwnS.back ho
 refine quiet ?_;rcases Nat.eq_zero_or_pos i with hz|hz
 ·subst hz;refine q_gtr ?_;simp only[show decide ((0:Int) < ((0:Nat):Int))=false by decide,gq,gq_un];refine q_pf fun W hb=>?_;simp only[i_f];exact put (ho.grow hb) (lay_at (by omega) (fun m h hm=>by omega) hgt)
 obtain⟨j,rfl⟩:∃j,i=j+1:=⟨i - 1,by omega⟩;have hj:(0:Int) < ((j+1:Nat):Int):=by omega
 have hw1:IntKind.wrap .i64 (((j+1:Nat):Int) - 1)=(j:Int):=by rw[wrap64_id (by omega) (by omega)];omega
 obtain⟨gb,cap,hv,ia,_,cl⟩:=sls_row 1 ho rfl (j:=j) (by omega);refine q_gtr ?_;simp only[decide_eq_true hj,gq,gq_un];refine q_do (.int .i64 (j:Int)) (fun _=>by rw[r_sub,hw1]) ?_;refine q_do _ (fun w=>ia w) ?_;refine q_do _ (fun _=>run_fa fs0) ?_;refine q_at (.int .i64 l[j].num) (fun _ hb=>run_load_cell nInt5 (by have:=cl _ ((ho.grow hb).at_ 1 rfl) 0 _ rfl;simpa using this)) ?_;refine q_do _ (fun _=>run_fa fs0) ?_;refine q_at (.int .i64 x.num) (fun _ hb=>run_load_cell nInt5 ((ho.grow hb).cell 0 rfl 0 rfl)) ?_;refine q_geq ?_;refine q_pt fun W hb=>?_;have ho:=ho.grow hb;by_cases hge:x.num≤l[j].num
 case neg=>
  simp only[decide_eq_false hge,i_f];refine put ho (lay_at hi (fun m h hm=>?_) hgt);rcases Nat.lt_or_ge m j with h1|h1
  ·have:=List.pairwise_iff_getElem.1 hr m j (by omega) (by omega) h1;omega
  ·have:m=j:=by omega
   subst this;omega
 simp only[decide_eq_true hge,i_t];refine quiet ?_;refine q_do (.int .i64 (j:Int)) (fun _=>by rw[r_sub,hw1]) ?_;refine q_do _ (fun w=>ia w) ?_;refine q_do _ (fun _=>run_fa fs0) ?_;refine q_at (.int .i64 l[j].num) (fun _ hb=>run_load_cell nInt5 (by have:=cl _ ((ho.grow hb).at_ 1 rfl) 0 _ rfl;simpa using this)) ?_;refine q_do _ (fun _=>run_fa fs0) ?_;refine q_at (.int .i64 x.num) (fun _ hb=>run_load_cell nInt5 ((ho.grow hb).cell 0 rfl 0 rfl)) ?_;refine q_eq fun W2 hb=>?_;have ho:=ho.grow hb;by_cases heq:l[j].num=x.num
 ·simp only[decide_eq_true heq,i_t];have hn:=lay_hit (by omega) heq;refine hK _ _ ⟨v,l,by rw[hn];rfl,fun y hy=>(by rw[hn] at hy;cases hy),?_⟩;subst hS;exact OwnS.back ho.tail
 ·simp only[decide_eq_false heq,i_f];simp only[rs,hw1];refine nextX ⟨j,rfl,by omega,fun m h hm=>?_,ho⟩ (by show Int.toNat (j:Int) < Int.toNat ((j+1:Nat):Int);omega);rcases Nat.lt_or_ge j m with h1|h1
  ·exact hgt m h h1
  ·have:m=j:=by omega
   subst this;omega
end
section
open Eng Go.RowKit
theorem tleads_calls (o:Ob)(v:Value)(k:List UInt8)(w:World)(K:Ending→World→Prop)(hw:o.wt≤100000000000)(hv:OV (InW w) w v o)
  (h1:∀n,Tl.leads o k=some n→∀w',Below w.heap.size w w'→K (.returned (.int .i64 n)) w') (h2:Tl.leads o k=none→∀w',Below w.heap.size w w'→K (.panicked [badT]) w') :
  Calls prog 48 #[v,.string ⟨k.toArray⟩] w K:=by
 obtain⟨vk,vc,cs,rfl,ha⟩:=hv.open;refine S_table_leads_ok ?_;unfold S_table_leads;refine o_obb o ha.keys.one ha.kids.one (Own.start w) fun b2 w1 ho=>?_;rw[ob_v ho 0 rfl];have hv1:OV (Mem.all w1).A (Mem.all w1).w (obV o vk vc) o:=hv.at_ ho;refine c_ret (vget_ret o _ k (Mem.all w1) w1 hw (Mem.all_has w1) hv1) ?_;rintro _ w2 ⟨N,g,v1,rfl,hg⟩;have ho:=ho.grow g.below;unfold Tl.leads at h1 h2;obtain⟨k1,c1,cs1,rfl,ha1⟩:=hg.open;simp only[getV,ex];refine o_oba ho fun b5 w3 ho=>?_;refine ob_put 0 ha1.keys.one ha1.kids.one ho rfl fun w4 ho=>?_;cases hget:Vl.get o k with
|none=>
  rw[hget] at h1;simp only[Option.isSome_none,rs,Bool.not_false];exact h1 (-1) rfl _ ho.done
|some u=>
  rw[hget] at h1 h2 ho;simp only[Option.getD_some] at ho;have ho:Own w w4 [obE b5 u k1 c1,obE b2 o vk vc]:=ho;simp only[Option.isSome_some,rs,Bool.not_true];have fin:∀{q:Bool},(q=true↔(u.k=2∧0≤u.n))→CallX prog 43 #[.bool q] w4 (pk K) fun t23 w=>DoX prog (mFA 27 (.pointer (some ⟨b5,0,none⟩)) 1) w (pk K) fun t24 w=>DoX prog (mLoad 2 t24) w (pk K) fun t25 w=>K (.returned t25) w:=by
   intro q hq;refine c_tmust (fun h=>?_) fun h=>?_
   ·rw[fa_o1,ob_n ho 0 rfl];exact h1 u.n (by simp only;rw[if_pos (hq.1 h)]) _ ho.done
   ·refine h2 ?_ _ ho.done;simp only;rw[if_neg fun hn=>by rw[hq.2 hn] at h;cases h]
  by_cases e1:u.k=2
  ·simp only[rs,fa_o0,ob_k ho 0 rfl,decide_eq_true e1,fa_o1,ob_n ho 0 rfl];simp only[fa_o1,ob_n ho 0 rfl] at fin;exact fin (by simp[e1])
  ·simp only[rs,fa_o0,ob_k ho 0 rfl,decide_eq_false e1,fa_o1,ob_n ho 0 rfl,g_un];simp only[fa_o1,ob_n ho 0 rfl] at fin;exact fin (by simp[e1])
theorem rleads_ret (o:Ob)(v:Value)(k:List UInt8)(w:World)(hw:o.wt≤100000000000)(hv:OV (InW w) w v o) :
  Ret prog 28 #[v,.string ⟨k.toArray⟩] w (fun r w'=>(∃n,r=.tuple #[.int .i64 n,.bool (Tl.leads o k).isSome]∧∀m,Tl.leads o k=some m→m=n)∧Below w.heap.size w w'):=by
 obtain⟨vk,vc,cs,rfl,ha⟩:=hv.open;refine ret_of fun K hK=>S_foliantref18_leads_ok ?_;unfold S_foliantref18_leads;refine o_obb o ha.keys.one ha.kids.one (Own.start w) fun b2 w1 ho=>?_;rw[ob_v ho 0 rfl];have hv1:OV (Mem.all w1).A (Mem.all w1).w (obV o vk vc) o:=hv.at_ ho;refine c_ret (rget_ret o _ k (Mem.all w1) w1 hw (Mem.all_has w1) hv1) ?_;rintro _ w2 ⟨N,g,v1,rfl,hg⟩;have ho:=ho.grow g.below;unfold Tl.leads at hK;obtain⟨k1,c1,cs1,rfl,ha1⟩:=hg.open;simp only[getV,ex];refine o_oba ho fun b5 w3 ho=>?_;refine ob_put 0 ha1.keys.one ha1.kids.one ho rfl fun w4 ho=>?_;cases hget:Vl.get o k with
|none=>
  rw[hget] at hK;simp only[Option.isSome_none,rs,Bool.not_false];exact hK _ _ ⟨⟨-1,rfl,fun m hm=>by cases hm;rfl⟩,ho.done⟩
|some u=>
  rw[hget] at hK ho;simp only[Option.getD_some] at ho;have ho:Own w w4 [obE b5 u k1 c1,obE b2 o vk vc]:=ho;simp only[Option.isSome_some,rs,Bool.not_true];have fin:∀{q:Bool} {W:World},(q=true↔(u.k=2∧0≤u.n))→Below w4.heap.size w4 W→K (.returned (.tuple #[.int .i64 u.n,.bool q])) W:=by
   intro q W hq hb;refine hK _ _ ⟨⟨u.n,?_,fun m hm=>?_⟩,(ho.grow hb).done⟩
   ·simp only;by_cases hn:u.k=2∧0≤u.n
    ·rw[if_pos hn,hq.2 hn];rfl
    ·have:q=false:=by
      cases q with
     |false=>rfl
     |true=>exact absurd (hq.1 rfl) hn
     rw[if_neg hn,this];rfl
   ·simp only at hm;split at hm
    ·cases hm;rfl
    ·cases hm
  refine quiet ?_;refine q_do _ (fun _=>run_fa fo_o1) (q_at (.int .i64 u.n) (fun _ hb=>run_load_cell nI65 ((ho.grow hb).cell 0 rfl 1 rfl)) ?_);refine q_do _ (fun _=>run_fa fo_o0) (q_at (.int .i64 u.k) (fun _ hb=>run_load_cell nInt5 ((ho.grow hb).cell 0 rfl 0 rfl)) (q_eq ?_));by_cases e1:u.k=2
  case neg=>
   simp only[decide_eq_false e1,gq,gq_un];exact q_pf fun W hb=>fin (by simp[e1]) hb
  simp only[decide_eq_true e1,gq,gq_un];refine q_do _ (fun _=>run_fa fo_o1) (q_at (.int .i64 u.n) (fun _ hb=>run_load_cell nI65 ((ho.grow hb).cell 0 rfl 1 rfl)) (q_geq (q_pt ?_)));exact fun W hb=>fin (by simp[e1]) hb
end
end Go.Proofs.YtjloddgofmdmgaaGreatDoor
namespace Go.Proofs
open Go.Shelf
def Tryz.sortSlot_ren:Go.Shelf.Ren:=⟨fun|6=>66|15=>115|14=>114|28=>177|29=>178|20=>169|21=>170|22=>171|23=>172|24=>173|25=>174|26=>175|27=>176|46=>220|47=>221|48=>222|49=>223|50=>224|57=>247|n=>n,fun|22=>23|24=>49|25=>115|3=>3|39=>139|0=>0|53=>178|55=>173|4=>4|46=>194|45=>193|50=>57|5=>5|9=>9|66=>220|70=>224|76=>245|77=>246|n=>n,fun|n=>n⟩
theorem Tryz.sortSlot:Go.Proofs.SlLaysF0.n6 prog Tryz.sortSlot_ren:={
 mixed:=by kernel_rfl
 f6:=⟨Tryz.f66.name,by decide,Tryz.func66.trans (congrArg some (by kernel_rfl))⟩
 f14:=⟨Tryz.f114.name,by decide,Tryz.func114.trans (congrArg some (by kernel_rfl))⟩
 f15:=Tryz.func115.trans (congrArg some (by kernel_rfl))
 f20:=⟨Tryz.f169.name,by decide,Tryz.func169.trans (congrArg some (by kernel_rfl))⟩
 f21:=⟨Tryz.f170.name,by decide,Tryz.func170.trans (congrArg some (by kernel_rfl))⟩
 f22:=⟨Tryz.f171.name,by decide,Tryz.func171.trans (congrArg some (by kernel_rfl))⟩
 f23:=⟨Tryz.f172.name,by decide,Tryz.func172.trans (congrArg some (by kernel_rfl))⟩
 f24:=⟨Tryz.f173.name,by decide,Tryz.func173.trans (congrArg some (by kernel_rfl))⟩
 f25:=⟨Tryz.f174.name,by decide,Tryz.func174.trans (congrArg some (by kernel_rfl))⟩
 f26:=⟨Tryz.f175.name,by decide,Tryz.func175.trans (congrArg some (by kernel_rfl))⟩
 f27:=⟨Tryz.f176.name,by decide,Tryz.func176.trans (congrArg some (by kernel_rfl))⟩
 f28:=Tryz.func177.trans (congrArg some (by kernel_rfl))
 f29:=Tryz.func178.trans (congrArg some (by kernel_rfl))
 f46:=⟨Tryz.f220.name,by decide,Tryz.func220.trans (congrArg some (by kernel_rfl))⟩
 f47:=Tryz.func221.trans (congrArg some (by kernel_rfl))
 f48:=Tryz.func222.trans (congrArg some (by kernel_rfl))
 f49:=⟨Tryz.f223.name,by decide,Tryz.func223.trans (congrArg some (by kernel_rfl))⟩
 f50:=⟨Tryz.f224.name,by decide,Tryz.func224.trans (congrArg some (by kernel_rfl))⟩
 f57:=⟨Tryz.f247.name,by decide,Tryz.func247.trans (congrArg some (by kernel_rfl))⟩
 t0:=Tryz.underlying0
 a0:=Tryz.isAgg0
 z0:=Tryz.sizeOf0
 v0:=Tryz.zeroValue0
 t3:=Tryz.underlying3
 a3:=Tryz.isAgg3
 z3:=Tryz.sizeOf3
 v3:=Tryz.zeroValue3
 t4:=Tryz.underlying4
 a4:=Tryz.isAgg4
 z4:=Tryz.sizeOf4
 v4:=Tryz.zeroValue4
 t5:=Tryz.underlying5
 a5:=Tryz.isAgg5
 z5:=Tryz.sizeOf5
 v5:=Tryz.zeroValue5
 t9:=Tryz.underlying9
 a9:=Tryz.isAgg9
 z9:=Tryz.sizeOf9
 v9:=Tryz.zeroValue9
 t22:=Tryz.underlying23
 a22:=Tryz.isAgg23
 z22:=Tryz.sizeOf23
 v22:=Tryz.zeroValue23
 t25:=Tryz.underlying115
 a25:=Tryz.isAgg115
 z25:=Tryz.sizeOf115
 v25:=Tryz.zeroValue115
 t39:=Tryz.underlying139
 a39:=Tryz.isAgg139
 z39:=Tryz.sizeOf139
 v39:=Tryz.zeroValue139
 t45:=Tryz.underlying193
 a45:=Tryz.isAgg193
 z45:=Tryz.sizeOf193
 v45:=Tryz.zeroValue193
 t46:=Tryz.underlying194
 a46:=Tryz.isAgg194
 z46:=Tryz.sizeOf194
 v46:=Tryz.zeroValue194
 t50:=Tryz.underlying57
 a50:=Tryz.isAgg57
 z50:=Tryz.sizeOf57
 v50:=Tryz.zeroValue57
 t53:=Tryz.underlying178
 a53:=Tryz.isAgg178
 z53:=Tryz.sizeOf178
 v53:=Tryz.zeroValue178
 t55:=Tryz.underlying173
 a55:=Tryz.isAgg173
 z55:=Tryz.sizeOf173
 v55:=Tryz.zeroValue173
 t66:=Tryz.underlying220
 a66:=Tryz.isAgg220
 z66:=Tryz.sizeOf220
 v66:=Tryz.zeroValue220
 t70:=Tryz.underlying224
 a70:=Tryz.isAgg224
 z70:=Tryz.sizeOf224
 v70:=Tryz.zeroValue224
 t76:=Tryz.underlying245
 a76:=Tryz.isAgg245
 z76:=Tryz.sizeOf245
 v76:=Tryz.zeroValue245
 t77:=Tryz.underlying246
 a77:=Tryz.isAgg246
 z77:=Tryz.sizeOf246
 v77:=Tryz.zeroValue246 }
end Go.Proofs
namespace Go.Proofs.YtjloddgofmdmgaaGreatDoor
section
open Eng Go.RowKit
theorem flatK_eq {α:Type}[Inhabited α]{enc:α→List Value}{k:Nat}(hk:∀x,(enc x).length=k)(d:Array α):(Go.Sort.flatK enc k d).toList=d.toList.flatMap enc:=by
 apply List.ext_getElem?;intro t;by_cases ht:t < d.size*k
 ·have hk0:0 < k:=by
   rcases Nat.eq_zero_or_pos k with h|h
   ·subst h;simp at ht
   ·exact h
  have hj:t / k < d.size:=Nat.div_lt_of_lt_mul (by rwa [Nat.mul_comm] at ht);have hi:t % k < k:=Nat.mod_lt _ hk0;have hs:t < (Go.Sort.flatK enc k d).size:=by rw[Go.Sort.size_flatK];exact ht
  have h1:=Go.Sort.get_flatK enc k d t ht;rw[getElem!_pos _ t hs] at h1;rw[Array.getElem?_toList,Array.getElem?_eq_getElem hs,h1];have hj':t / k < d.toList.length:=by simpa using hj
  have hi':t % k < (enc d.toList[t / k]).length:=by rw[hk];exact hi
  have h2:=Eng.flat_get hk hj' (List.getElem?_eq_getElem hi');rw[Nat.div_add_mod'] at h2;rw[h2]
  congr 1
  rw[getElem!_pos d _ hj,getElem!_pos _ _ (by rw[hk];exact hi)];rfl
 ·rw[List.getElem?_eq_none (by simp;omega),List.getElem?_eq_none (by rw[flat_len hk];simp;omega)]
theorem row_grow {T:TypeId}{sz g n cap m:Nat}{w:World}{cur:Array Value}{xs:List Value}{os:Array Obj}(F:Array Value)(hg:w.heap[g]?=some (.cells cur T (0,0)))(hnc:n≤cap)(hcm:cap≤maxLen)(hcs:cur.size=cap*sz)(hF:F.size=n*sz) :
  Turn (.urow T sz (.slice (some ⟨g,0,none⟩) n cap) n xs) (.urow T sz (.slice (some ⟨g,0,none⟩) n cap) n F.toList) w (Go.Sort.grow (Go.Sort.putRow id (Go.Sort.ahead w m) g 0 F) os):=by
 have hle:n*sz≤cur.size:=by rw[hcs];exact Nat.mul_le_mul_right _ hnc
 have hheap:∀k,k < w.heap.size→(Go.Sort.grow (Go.Sort.putRow id (Go.Sort.ahead w m) g 0 F) os).heap[k]?=(if g=k then (w.heap[k]?).map (Go.Sort.onCells (Go.Sort.putCells id 0 F)) else w.heap[k]?):=by
  intro k hk;show ((w.heap.modify g _)++os)[k]?=_;rw[Array.getElem?_append_left (by simpa using hk),Array.getElem?_modify]
 refine⟨⟨rfl,rfl,rfl,?_,fun k hk hn=>?_⟩,?_,fun k hk=>.inl hk⟩
 ·show w.heap.size≤((w.heap.modify g _)++os).size;simp
 ·have hne:g≠k:=fun e=>hn (by subst e;rfl);exact (hheap k hk).trans (if_neg hne)
 ·show (World.ownsRow _ 0 T sz _ n F.toList);refine⟨by simpa using hF,.inr ⟨g,cap,Go.Sort.putCells id 0 F cur,rfl,Nat.zero_le _,?_,hnc,hcm,?_,?_⟩⟩
  ·have:=hheap g (lt_of_get hg);rw[if_pos rfl,hg] at this;exact this
  ·simp[Go.Sort.putCells,hcs]
  ·apply List.ext_getElem?;intro j;rw[List.getElem?_take];by_cases hj:j < n*sz
   ·have hjc:j < cur.size:=by omega
    have hjF:j < F.size:=by omega
    rw[if_pos hj,Array.getElem?_toList,Array.getElem?_toList];unfold Go.Sort.putCells;rw[Array.getElem?_mapIdx,Array.getElem?_eq_getElem hjc,Option.map_some,if_pos ⟨by omega,by omega⟩,Nat.sub_zero,getElem!_pos F j hjF,Array.getElem?_eq_getElem hjF];rfl
   ·rw[if_neg hj,List.getElem?_eq_none (by simp;omega)]
theorem rise_inj {l:List Slt}(hr:Tl.RiseS l){a b:Slt}(ha:a∈l)(hb:b∈l)(h:a.num=b.num):a=b:=by
 obtain⟨i,hi,rfl⟩:=List.getElem_of_mem ha;obtain⟨j,hj,rfl⟩:=List.getElem_of_mem hb;rcases Nat.lt_trichotomy i j with h1|h1|h1
 ·have:=List.pairwise_iff_getElem.1 hr i j hi hj h1;omega
 ·subst h1;rfl
 ·have:=List.pairwise_iff_getElem.1 hr j i hj hi h1;omega
abbrev SltS:Type:={ x:Slt // -4611686018427387904≤x.num∧x.num < 4611686018427387904 }
def cmpS (x y:SltS):Int:=x.1.num - y.1.num
def encS (x:SltS):List Value:=slC x.1
theorem swoS:Go.Sort.SWO (ltOf cmpS) where
 irrefl x:=by unfold ltOf cmpS;simp
 trans x y z h1 h2:=by unfold ltOf cmpS at *;simp at *;omega
 ntrans x y z h1 h2:=by unfold ltOf cmpS at *;simp at *;omega
theorem closS (x y:SltS)(W:World):Calls prog 67 #[slV x.1,slV y.1] W fun e w'=>e=.returned (.int .i64 (cmpS x y))∧∃q os',w'=Go.Sort.grow (W.drewN q) os':=by
 refine S_table_reader_slots_fn1_ok ?_;unfold S_table_reader_slots_fn1;have ho0:=Own.start W;refine do_ok (v:=.pointer (some ⟨W.heap.size,0,none⟩)) (w':=W.alloc (.cells (slC x.1).toArray 49)) (by kernel_rfl) ?_;have ho1:=ho0.alloc (slC x.1) 49;refine do_ok (v:=.pointer (some ⟨(W.alloc (.cells (slC x.1).toArray 49)).heap.size,0,none⟩)) (w':=(W.alloc (.cells (slC x.1).toArray 49)).alloc (.cells (slC y.1).toArray 49)) (by kernel_rfl) ?_;have ho2:=ho1.alloc (slC y.1) 49;rw[fa_s0',l_cell nInt5 (ho2.cell 1 rfl 0 rfl),fa_s0',l_cell nInt5 (ho2.cell 0 rfl 0 rfl)];simp only[rs];have hx:=x.2;have hy:=y.2;rw[wrap64_id (by omega) (by omega)];refine⟨rfl,0,#[.cells (slC x.1).toArray 49,.cells (slC y.1).toArray 49],?_⟩;rw[Go.Sort.alloc_eq_grow,Go.Sort.alloc_eq_grow,Go.Sort.grow_grow];rfl
theorem sortsl_ret (v:Value)(l l':List Slt)(w:World)(h:(slsE v l).is w)(hb:l.length≤1000000000)(hp:l.Perm l')(hr:Tl.RiseS l')(hs:∀x∈l,-4611686018427387904≤x.num∧x.num < 4611686018427387904) :
  Ret prog 66 #[v,.func (.func 67) #[] #[]] w (fun r w'=>r=.tuple #[]∧Turn (slsE v l) (slsE v l') w w'):=by
 letI inh:Inhabited SltS:=⟨⟨sl0,by decide⟩⟩
 obtain⟨h1,h2⟩:=(show w.ownsRow 0 49 4 v l.length (l.flatMap slC) from h);have hll:l'.length=l.length:=hp.length_eq.symm;obtain⟨d,hd⟩:∃d:Array SltS,d.toList.map (·.1)=l:=⟨(l.attach.map fun x=>(⟨x.1,hs x.1 x.2⟩:SltS)).toArray,by simp[List.map_map,Function.comp_def]⟩;have hdl:d.size=l.length:=by rw[←hd];simp
 have henc:∀x:SltS,(encS x).length=4:=fun _=>rfl;have hflat:(Go.Sort.flatK encS 4 d).toList=l.flatMap slC:=by
  rw[flatK_eq henc,←hd,List.flatMap_map];rfl
 rcases h2 with ⟨rfl,h0⟩|⟨g,cap,cur,rfl,hb0,hg,hnc,hcm,hcs,htake⟩
 ·have e1:l=[]:=List.eq_nil_of_length_eq_zero h0;have e2:l'=[]:=List.eq_nil_of_length_eq_zero (hll.trans h0);rw[e1] at h;rw[e1,e2];refine Calls.mono (AnyF.slices_SortFunc_none Tryz.sortSlot none 0 _ w) ?_;rintro e w' ⟨rfl,rfl⟩;exact⟨_,rfl,rfl,Turn.refl h⟩
 ·have hsz:l.length*4≤cur.size:=by rw[hcs];exact Nat.mul_le_mul_right _ hnc
  have hH:Go.Sort.HoldsK encS 4 w g 0 d:=by
   intro j hj;have hj':j < (l.flatMap slC).length:=by rw[←hflat];simpa using hj
   have hget:cur[j]?=some (Go.Sort.flatK encS 4 d)[j]!:=by
    have h3:(l.flatMap slC)[j]?=some (Go.Sort.flatK encS 4 d)[j]!:=by
     rw[←hflat,Array.getElem?_toList,Array.getElem?_eq_getElem hj,getElem!_pos _ j hj]
    rw[←htake,List.getElem?_take] at h3;split at h3
    ·rwa [Array.getElem?_toList] at h3
    ·cases h3
   constructor
   ·unfold World.cell?;simp only[hg,Nat.zero_add];exact hget
   ·unfold World.frozen?;simp only[hg,Nat.zero_add];simp
  have eg:∀args w,(callFunc 67 args).run prog w=.ok (.enter 67 args) w:=enters_of Tryz.func67 (by kernel_rfl) rfl;have hcon:=AnyQ.slices_SortFunc Tryz.sortSlot 4 Tryz.isAgg49 Tryz.sizeOf49 encS henc (fun x=>slC_one x.1) cmpS swoS 67 #[] g 0 cap d w eg (fun m os dk _ x y=>closS x y _) hH (lt_of_get hg) (by omega);rw[hdl] at hcon;refine Calls.mono hcon ?_;rintro e w' ⟨rfl,d',n,os,hperm,hsort,rfl⟩;refine⟨_,rfl,rfl,?_⟩;have hsize:d'.size=l.length:=hperm.1.trans hdl;have hpl:d'.toList.Perm d.toList:=by
   have:=hperm.2.2
   rwa [show d'.extract 0 l.length=d' by rw[←hsize];simp,show d.extract 0 l.length=d by rw[←hdl];simp] at this
  have hL2p:(d'.toList.map (·.1)).Perm l':=by
   have:=hpl.map (·.1);rw[hd] at this;exact this.trans hp
  have hL2:d'.toList.map (·.1)=l':=by
   refine List.Perm.eq_of_pairwise (le:=fun a b:Slt=>a.num≤b.num) (fun a b ha hb h1 h2=>?_) ?_ (hr.imp fun {a b} h=>by omega) hL2p
   ·exact rise_inj hr (hL2p.subset ha) hb (by omega)
   ·rw[List.pairwise_map,List.pairwise_iff_getElem];intro i j hi hj hij;have:=hsort i j (Nat.zero_le _) hij (by rw[←hsize];simpa using hj);rw[getElem!_pos d' i (by simpa using hi),getElem!_pos d' j (by simpa using hj)] at this;unfold ltOf cmpS at this;simp only[decide_eq_false_iff_not] at this;simp only[Array.getElem_toList];omega
  have hF:(Go.Sort.flatK encS 4 d').toList=l'.flatMap slC:=by
   rw[flatK_eq henc,←hL2,List.flatMap_map];rfl
  have ht:=row_grow (T:=49) (sz:=4) (m:=n) (xs:=l.flatMap slC) (os:=os) (Go.Sort.flatK encS 4 d') hg hnc hcm hcs (by rw[Go.Sort.size_flatK,hsize]);rw[hF] at ht;rw[slsE,slsE,Ent.recs,Ent.recs,hll];exact ht
end
section
namespace Eng
open Go.RowKit
def intK (k:Int):Value:=.int .i64 k
def MapIsI (w:World)(b:Nat)(al:List (Int×Value)):Prop:=∃es clock,w.heap[b]?=some (.map es clock)∧es.toList.map (fun e=>(e.key,e.val))=al.map fun p=>(intK p.1,p.2)
def lookI (al:List (Int×Value))(k:Int):Option Value:=(al.find? fun p=>decide (p.1=k)).map (·.2)
theorem findNow_int (k:Int):∀(es:List MapEntry) (al:List (Int×Value)) (i:Nat),es.map (fun e=>(e.key,e.val))=al.map (fun p=>(intK p.1,p.2)) →
  ∃r,Instr.findNow (.int .i64) (intK k) es i=some r∧r.map (·.2)=lookI al k
|[],[],i,_=>⟨none,rfl,rfl⟩
|e::es,p::al,i,h=>by
  simp only[List.map_cons,List.cons.injEq,Prod.mk.injEq] at h;obtain⟨⟨h1,h2⟩,h3⟩:=h;have hs:Instr.sameNow (.int .i64) (intK k) e.key=some (decide (k=p.1)):=by
   rw[h1];show some (k==p.1)=_
   congr 1
  by_cases hk:k=p.1
  ·refine⟨some (i,e.val),?_,?_⟩
   ·rw[Instr.findNow,hs];simp[hk]
   ·simp[lookI,hk,h2]
  ·obtain⟨r,hr1,hr2⟩:=findNow_int k es al (i+1) h3;refine⟨r,?_,?_⟩
   ·rw[Instr.findNow,hs];simp[hk,hr1]
   ·have hk':¬p.1=k:=fun e=>hk e.symm;rw[hr2];simp[lookI,hk']
|[],_::_,_,h=>by simp at h
|_::_,[],_,h=>by simp at h
section
variable {S:Nat→Prop}{P:Program}{w w0:World}{L:List Ent}{PK:PKT}{K:VWP}
theorem run_checkInt {k:TypeId}{e:Bool}(hk:P.underlying k=some (.int .i64))(x:Int):(Instr.checkKey e 10000 k (intK x)).run P w=.ok () w:=by
 show (Instr.checkKey e (9999+1) k (intK x)).run P w=_;rw[Instr.checkKey];simp[run_underlying hk,intK]
theorem run_findInt {k:TypeId}(hk:P.underlying k=some (.int .i64))(x:Int){es:List MapEntry}{al:List (Int×Value)}(h:es.map (fun e=>(e.key,e.val))=al.map (fun p=>(intK p.1,p.2))) :
  ∃r,(Instr.findKey k (intK x) es).run P w=.ok r w∧r.map (·.2)=lookI al x:=by
 obtain⟨r,h1,h2⟩:=findNow_int x es al 0 h;refine⟨r,?_,h2⟩;simp[Instr.findKey,run_underlying hk,h1]
theorem run_lookI {T k e:TypeId}{ok:Bool}{b:Nat}{al:List (Int×Value)}{z:Value}(ht:P.underlying T=some (.map k e))(hk:P.underlying k=some (.int .i64))(hz:(P.info? e).bind (·.zero)=some z)(h:MapIsI w b al)(x:Int) :
  (mLook T (.map (some b)) (intK x) ok).run P w=.ok (.value (if ok then .tuple #[(lookI al x).getD z,.bool (lookI al x).isSome] else (lookI al x).getD z)) w:=by
 obtain⟨es,clock,h1,h2⟩:=h;obtain⟨r,r1,r2⟩:=run_findInt (P:=P) (w:=w) hk x h2;have hz':(zeroValue e).run P w=.ok z w:=by
  obtain⟨i,hi,hzi⟩:=Option.bind_eq_some_iff.1 hz;simp[zeroValue,typeInfo,hi,hzi]
 refine mv_run ?_;rw[←r2];cases r with
|none=>simp[Instr.lookup,run_underlying ht,getObj,Sem.run,h1,run_checkInt hk x,r1,hz']
|some p=>
  obtain⟨i,v⟩:=p;simp[Instr.lookup,run_underlying ht,getObj,Sem.run,h1,run_checkInt hk x,r1]
end
structure MapFI (al:List (Int×Value)) (es:Array MapEntry) (clock:Nat):Prop where
 al:es.toList.map (fun e=>(e.key,e.val))=al.map fun p=>(intK p.1,p.2)
 nodup:(es.toList.map (·.born)).Nodup
 old:∀e∈es.toList,e.born < clock
def Ent.mapBI (b:Nat)(al:List (Int×Value)):Ent:=⟨fun k=>k=b,fun w=>∃es clock,w.heap[b]?=some (.map es clock)∧MapFI al es clock,fun {w w'} h k=>by
  obtain⟨es,clock,h1,h2⟩:=h;exact⟨es,clock,(k b rfl).trans h1,h2⟩,fun h k hk=>by
  obtain⟨es,clock,h1,h2⟩:=h;cases hk;exact lt_of_get h1⟩
theorem mapBI_is {w:World}{b:Nat}{al:List (Int×Value)}(h:(Ent.mapBI b al).is w):MapIsI w b al:=by
 obtain⟨es,clock,h1,h2⟩:=h;exact⟨es,clock,h1,h2.al⟩
def SeenI (es:Array MapEntry)(seen:Array Nat)(done:List (Int×Value)):Prop:=
 ∃ds:List MapEntry,seen.toList=ds.map (·.born)∧(∀e∈ds,e∈es.toList)∧(ds.map (·.born)).Nodup∧ds.map (fun e=>(e.key,e.val))=done.map fun p=>(intK p.1,p.2)
theorem perm_kvI {a b:List (Int×Value)}(h:(a.map fun p=>(intK p.1,p.2)).Perm (b.map fun p=>(intK p.1,p.2))):a.Perm b:=by
 -- a list that goes back
 let back:Value×Value→Int×Value:=fun q=>(match q.1 with|.int _ n=>n|_=>0,q.2)
 have hb:∀l:List (Int×Value),(l.map fun p=>(intK p.1,p.2)).map back=l:=by
  intro l;rw[List.map_map]
  conv=>rhs;rw[←List.map_id l]
  refine List.map_congr_left fun p _=>?_;rfl
 have:=h.map back
 rwa [hb,hb] at this
section
variable {S:Nat→Prop}{P:Program}{w w0:World}{L:List Ent}{PK:PKT}{K:VWP}
theorem o_mapNewBI {T:TypeId}(ho:OwnS S w0 w L)(k:∀b w',OwnS S w0 w' (.mapBI b []::L)→K (.map (some b)) w'):DoX P (mMap T none) w PK K:=by
 have hr:(Instr.makeMap T none).run P w=.ok (.map (some w.heap.size)) (w.alloc (.map #[] 0)):=rfl;exact do_ok (mv_run hr) (k _ _ (ho.add (World.grownBy_alloc w _ none) (.mapBI w.heap.size []) ⟨#[],0,heap_alloc_new w _,rfl,List.nodup_nil,fun e he=>by simp at he⟩ (fun k hk=>by cases hk;exact Nat.le_refl _)))
theorem o_mapAddBI (i:Nat){T k e:TypeId}{b:Nat}{al:List (Int×Value)}(ht:P.underlying T=some (.map k e))(hk:P.underlying k=some (.int .i64))(ho:OwnS S w0 w L)(hi:L[i]?=some (.mapBI b al))(x:Int)(v:Value)(hn:lookI al x=none)
  (kk:∀w',OwnS S w0 w' (L.set i (.mapBI b (al++[(x,v)])))→K undef w'):DoX P (mMapU T (.map (some b)) (intK x) v) w PK K:=by
 obtain⟨es,clock,h1,h2⟩:=(show ∃es clock,w.heap[b]?=some (.map es clock)∧MapFI al es clock from ho.at_ i hi);obtain⟨r,r1,r2⟩:=run_findInt (P:=P) (w:=w) hk x h2.al;have hr0:r=none:=by
  cases r with
 |none=>rfl
 |some p=>rw[hn] at r2;cases r2
 subst hr0;have hr:(Instr.mapUpdate T (.map (some b)) (intK x) v).run P w=.ok () { w with heap:=w.heap.setIfInBounds b (.map (es.push { key:=intK x,val:=v,born:=clock }) (clock+1)) }:=by
  simp[Instr.mapUpdate,run_underlying ht,getObj,setObj,Sem.run,h1,run_checkInt hk x,r1]
 refine do_skip (mu_run hr) (kk _ ?_);refine ho.put i hi (w':={ w with heap:=w.heap.setIfInBounds b _ }) ⟨rfl,rfl,rfl,by simp,fun k _ hk=>?_⟩ (.mapBI b (al++[(x,v)])) ?_ (fun k hk=>.inl hk)
 ·show (w.heap.setIfInBounds b _)[k]?=_;exact Array.getElem?_setIfInBounds_ne (fun e=>hk (by simp[Ent.mapBI,e]))
 ·refine⟨es.push { key:=intK x,val:=v,born:=clock },clock+1,?_,?_,?_,?_⟩
  ·show (w.heap.setIfInBounds b _)[b]?=_;exact Array.getElem?_setIfInBounds_self_of_lt (lt_of_get h1)
  ·simp[h2.al]
  ·rw[Array.toList_push,List.map_append,List.nodup_append];refine⟨h2.nodup,by simp,fun a ha c hc=>?_⟩;obtain⟨e,he,rfl⟩:=List.mem_map.1 ha;have:=h2.old e he;simp at hc;omega
  ·intro e he;rw[Array.toList_push] at he;rcases List.mem_append.1 he with he|he
   ·have:=h2.old e he;omega
   ·rw[List.mem_singleton] at he;subst he;exact Nat.lt_succ_self _
theorem OwnS.openI {b:Nat}{al:List (Int×Value)}(ho:OwnS S w0 w L)(i:Nat)(hi:L[i]?=some (.mapBI b al)):∃es clock,MapFI al es clock∧OwnS S w0 w (L.set i (.obj b (.map es clock))):=by
 obtain⟨es,clock,h1,h2⟩:=(show ∃es clock,w.heap[b]?=some (.map es clock)∧MapFI al es clock from ho.at_ i hi);exact⟨es,clock,h2,ho.turn i hi ⟨Grew.refl _ _,h1,fun _ hk=>.inl hk⟩⟩
theorem o_rangeI (i:Nat){T k e:TypeId}{m clock:Nat}{es:Array MapEntry}(ht:P.underlying T=some (.map k e))(ho:OwnS S w0 w L)(hi:L[i]?=some (.obj m (.map es clock)))
  (kk:∀b w',OwnS S w0 w' (.obj b (.mapIter (some m) clock #[] clock)::L)→K (.pointer (some ⟨b,0,none⟩)) w'):DoX P (mRange T (.map (some m))) w PK K:=by
 have h1:w.heap[m]?=some (.map es clock):=ho.at_ i hi;have hr:=run_range_map (P:=P) w T k e m es clock ht h1;exact do_ok (mv_run hr) (kk _ _ (ho.allocObj _))
theorem seen_nilI (es:Array MapEntry):SeenI es #[] []:=⟨[],rfl,(fun e he=>by cases he),List.nodup_nil,rfl⟩
theorem o_nextI (i j:Nat){b m clock:Nat}{es:Array MapEntry}{seen:Array Nat}{al done:List (Int×Value)}{ty:TypeId}(ho:OwnS S w0 w L)(hi:L[i]?=some (.obj b (.mapIter (some m) clock seen clock)))(hj:L[j]?=some (.obj m (.map es clock)))
  (hf:MapFI al es clock) (hs:SeenI es seen done) (kend:done.Perm al→K (.tuple #[.bool false]) w)
  (knext:∀(p:Int×Value) (e:MapEntry) (w':World),p∈al→p ∉ done∨True→e∈es.toList→e.key=intK p.1→e.val=p.2→SeenI es (seen.push e.born) (done++[p])→done.length < al.length →
   OwnS S w0 w' (L.set i (.obj b (.mapIter (some m) clock (seen.push e.born) clock)))→K (.tuple #[.bool true,intK p.1,p.2]) w') :
  DoX P (mNext (.pointer (some ⟨b,0,none⟩)) false ty) w PK K:=by
 have h1:w.heap[b]?=some (.mapIter (some m) clock seen clock):=ho.at_ i hi;have h2:w.heap[m]?=some (.map es clock):=ho.at_ j hj;obtain⟨ds,d1,d2,d3,d4⟩:=hs;have hds:ds.length=done.length:=by simpa using congrArg List.length d4
 have hel:es.toList.length=al.length:=by simpa using congrArg List.length hf.al
 rcases Go.run_next_at (P:=P) w ty b m clock clock seen es clock h1 h2 hf.old (Nat.le_refl _) with ⟨hl,hr⟩|⟨e,he,w1,hw1,hr⟩
 ·refine do_ok (mv_run hr) (kend ?_)
  -- all have come
  have hall:∀x∈es.toList,x∈ds:=by
   intro x hx;have hc:seen.contains x.born=true:=by
    cases hcc:seen.contains x.born with
   |true=>rfl
   |false=>
     exfalso;have hm:x∈(leftOf es seen).toList:=by
      unfold leftOf;rw[Array.toList_filter,List.mem_filter];exact⟨hx,by simp only[hcc];rfl⟩
     have:0 < (leftOf es seen).size:=by
      rw[←Array.length_toList];exact List.length_pos_of_mem hm
     omega
   have hm:x.born∈seen.toList:=by simpa using hc
   rw[d1] at hm;obtain⟨y,hy,hyb⟩:=List.mem_map.1 hm;rw[←born_inj hf.nodup (d2 y hy) hx hyb];exact hy
  have hp:ds.Perm es.toList:=(List.perm_ext_iff_of_nodup (nodup_of_born d3) (nodup_of_born hf.nodup)).2 fun x=>⟨d2 x,hall x⟩;have:=hp.map fun e=>(e.key,e.val);rw[d4,hf.al] at this;exact perm_kvI this
 ·-- one comes
  have hem:e∈es.toList∧seen.contains e.born=false:=by
   unfold leftOf at he;rw[Array.toList_filter,List.mem_filter] at he;exact⟨he.1,by simpa using he.2⟩
  have hk:(e.key,e.val)∈es.toList.map (fun e=>(e.key,e.val)):=List.mem_map.2 ⟨e,hem.1,rfl⟩;rw[hf.al] at hk;obtain⟨p,hp,hpe⟩:=List.mem_map.1 hk;simp only[Prod.mk.injEq] at hpe;have hnb:e.born ∉ ds.map (·.born):=by
   rw[←d1];intro hm;have:seen.contains e.born=true:=by simpa using hm
   rw[hem.2] at this;cases this
  have hs':SeenI es (seen.push e.born) (done++[p]):=by
   refine⟨ds++[e],by simp[d1],?_,?_,?_⟩
   ·intro x hx;rcases List.mem_append.1 hx with hx|hx
    ·exact d2 x hx
    ·rw[List.mem_singleton] at hx;subst hx;exact hem.1
   ·rw[List.map_append,List.nodup_append];refine⟨d3,by simp,fun a ha c hc=>?_⟩;simp at hc;subst hc;intro e2;exact hnb (by rw[←e2];exact ha)
   ·simp[d4,hpe.1,hpe.2]
  have hlt:done.length < al.length:=by
   rw[←hds,←hel];exact nodup_le (e::ds) es.toList (List.nodup_cons.2 ⟨fun hm=>hnb (List.mem_map.2 ⟨e,hm,rfl⟩),nodup_of_born d3⟩) (fun x hx=>by
    rcases List.mem_cons.1 hx with rfl|hx
    ·exact hem.1
    ·exact d2 x hx)
  have how:OwnS S w0 w1 L:=by
   rcases hw1 with rfl|rfl
   ·exact ho
   ·exact ho.drew
  have hkk:=put_iter (o':=.mapIter (some m) clock (seen.push e.born) clock) how i hi;rw[←hpe.1,←hpe.2] at hr;exact do_ok (mv_run hr) (knext p e _ hp (.inr trivial) hem.1 hpe.1.symm hpe.2.symm hs' hlt hkk)
theorem e_entryI (i j:Nat){b m clock:Nat}{es:Array MapEntry}{seen:Array Nat}{e:MapEntry}{al:List (Int×Value)}(ho:OwnS S w0 w L)(hi:L[i]?=some (.obj b (.mapIter (some m) clock (seen.push e.born) clock)))(hj:L[j]?=some (.obj m (.map es clock)))
  (hf:MapFI al es clock) (he:e∈es.toList):DoX P (mEntry (.pointer (some ⟨b,0,none⟩))) w PK K=K (.tuple #[e.key,e.val]) w:=
 do_eq (mv_run (run_entry_at (P:=P) w b m clock seen es clock e (ho.at_ i hi) (ho.at_ j hj) he hf.nodup))
end
end Eng
end
section
open Eng Go.RowKit
theorem rdAt_tr {b:Nat}{s:List UInt8}{a:Int}{w:World}(h:(trE b s a).is w):rdAt b w=a.toNat:=by
 unfold rdAt;rw[cells_cell (T:=53) (cs:=rdC s a) (i:=1) h rfl]
def kvS (x:Slt):Int×Value:=(x.num,slV x)
def unS:Value→Slt
|.agg cs=>match cs.toList with
 |[.int _ n,.int _ k,.int _ a,.int _ b]=>⟨n,k,a,b⟩
 |_=>sl0
|_=>sl0
theorem unS_kv (x:Slt):unS (kvS x).2=x:=rfl
theorem perm_kvS {a b:List Slt}(h:(a.map kvS).Perm (b.map kvS)):a.Perm b:=by
 have:=h.map fun p=>unS p.2;rw[List.map_map,List.map_map] at this;have e:∀l:List Slt,l.map ((fun p=>unS p.2)∘kvS)=l:=fun l=>by
  conv=>rhs;rw[←List.map_id l]
  exact List.map_congr_left fun x _=>unS_kv x
 rwa [e,e] at this
theorem look_kvS {l:List Slt}{n:Int}:(lookI (l.map kvS) n=none∧n ∉ l.map (·.num))∨∃x∈l,lookI (l.map kvS) n=some (slV x)∧n∈l.map (·.num):=by
 unfold lookI;cases h:(l.map kvS).find? fun p=>decide (p.1=n) with
|none=>
  refine .inl ⟨rfl,fun hm=>?_⟩;obtain⟨x,hx,e⟩:=List.mem_map.1 hm;have:=List.find?_eq_none.1 h (kvS x) (List.mem_map.2 ⟨x,hx,rfl⟩);simp[kvS,e] at this
|some p=>
  have h1:=List.find?_some h;have h2:=List.mem_of_find?_eq_some h;obtain⟨x,hx,rfl⟩:=List.mem_map.1 h2;refine .inr ⟨x,hx,rfl,List.mem_map.2 ⟨x,hx,?_⟩⟩;exact of_decide_eq_true h1
theorem lay_some {l l':List Slt}{x:Slt}(hr:Tl.RiseS l)(h:Tl.lay l x=some l'):Tl.RiseS l'∧(x::l).Perm l'∧x.num ∉ l.map (·.num):=by
 unfold Tl.lay at h;split at h
 ·cases h
 rename_i hc
 cases h;have hn:x.num ∉ l.map (·.num):=fun hm=>hc (by simpa using hm);have e:=List.takeWhile_append_dropWhile (p:=fun y:Slt=>decide (y.num < x.num)) (l:=l);generalize ht:l.takeWhile (fun y=>decide (y.num < x.num))=t at *;generalize hd:l.dropWhile (fun y=>decide (y.num < x.num))=d at *;have h1:∀y∈t,y.num < x.num:=fun y hy=>by
  have:=List.all_takeWhile (l:=l) (p:=fun y:Slt=>decide (y.num < x.num));rw[ht] at this;simpa using List.all_eq_true.1 this y hy
 rw[←e] at hr;obtain⟨r1,r2,r3⟩:=List.pairwise_append.1 hr;have h2:∀y∈d,x.num < y.num:=by
  cases d with
 |nil=>intro y hy;cases hy
 |cons z d=>
   have hz:¬z.num < x.num:=by
    have:=List.head_dropWhile_not (fun y:Slt=>decide (y.num < x.num)) (l:=l) (by rw[hd];simp);simp only[hd,List.head_cons] at this;simpa using this
   have hzn:z.num≠x.num:=fun h=>hn (List.mem_map.2 ⟨z,by rw[←e];simp,h⟩);intro y hy;rcases List.mem_cons.1 hy with rfl|hy
   ·omega
   ·have:=(List.pairwise_cons.1 r2).1 y hy;omega
 refine⟨?_,?_,hn⟩
 ·refine List.pairwise_append.2 ⟨r1,List.pairwise_cons.2 ⟨h2,r2⟩,fun a ha b hb=>?_⟩;rcases List.mem_cons.1 hb with rfl|hb
  ·exact h1 a ha
  ·exact r3 a ha b hb
 ·rw[←e];exact List.perm_middle.symm
theorem lay_none {l:List Slt}{x:Slt}:Tl.lay l x=none↔x.num∈l.map (·.num):=by
 unfold Tl.lay;split
 ·rename_i h
  exact⟨fun _=>by simpa using h,fun _=>rfl⟩
 ·rename_i h
  refine⟨fun h'=>(by cases h'),fun hm=>absurd (by simpa using hm) h⟩
theorem num_adv {s:List UInt8}{a lo hi n t:Int}(h:Tl.number s a lo hi=some (n,t)):0≤a∧a < t∧t≤s.length:=by
 unfold Tl.number at h;split at h
 ·cases h
 rename_i hn
 simp only[not_or,Classical.not_not] at hn;cases h;have:=Lx.next_bd hn.1 (by rw[hn.2.1];decide);have:=Lx.skip_ge s a.toNat;omega
theorem word_adv {s:List UInt8}{a t:Int}{k:List UInt8}(h:Tl.word s a k=some t):0≤a∧a < t∧t≤s.length:=by
 unfold Tl.word at h;split at h
 ·rename_i hn
  cases h;have:=Lx.next_bd hn.1 (by rw[hn.2.1];decide);have:=Lx.skip_ge s a.toNat;omega
 ·cases h
theorem entry_adv {s:List UInt8}{a num t:Int}{x:Slt}(h:Tl.entry s a num=some (x,t)):0≤a∧a < t∧t≤s.length∧x.num=num:=by
 unfold Tl.entry at h;split at h
 ·cases h
 rename_i p h1
 split at h
 ·cases h
 rename_i q h2
 have a1:=num_adv (n:=p.1) (t:=p.2) h1;have a2:=num_adv (n:=q.1) (t:=q.2) h2;split at h
 ·rename_i t' h3
  cases h;have:=word_adv h3;exact⟨a1.1,by omega,this.2.2,rfl⟩
 ·split at h
  ·rename_i t' h4
   cases h;have:=word_adv h4;exact⟨a1.1,by omega,this.2.2,rfl⟩
  ·cases h
theorem slots_err {s:List UInt8}{m:Nat}{a:Int}{l:List Slt}(h:(Lx.next s a).2≠0):Tl.slots s (m+1) a l=none:=by
 rw[Tl.slots];have h1:Tl.word s a Tl.trailW=none:=by unfold Tl.word;rw[if_neg fun hn=>h hn.1]
 have h2:Tl.number s a 0 8191=none:=by unfold Tl.number;rw[if_pos (.inl h)]
 rw[h1,h2]
section
variable {w:World}{PK:PKT}{K:VWP}{S:Nat→Prop}{w0:World}{L:List Ent}
theorem zSl:(Tryz.prog.info? 49).bind (·.zero)=some (slV sl0):=by kernel_rfl
theorem lookSl (i:Nat){b:Nat}{l:List Slt}(ho:OwnS S w0 w L)(hi:L[i]?=some (.mapBI b (l.map kvS)))(n:Int) :
  ∃x:Slt,∀{PK:PKT} {K:VWP},DoX prog (mLook 110 (.map (some b)) (.int .i64 n) true) w PK K=K (.tuple #[slV x,.bool (decide (n∈l.map (·.num)))]) w:=by
 have h:=fun (PK:PKT) (K:VWP)=>do_eq (PK:=PK) (K:=K) (run_lookI (ok:=true) Tryz.underlying110 Tryz.underlying3 zSl (mapBI_is (ho.at_ i hi)) n);rcases look_kvS (l:=l) (n:=n) with ⟨h1,h2⟩|⟨x,_,h1,h2⟩
 ·rw[h1] at h;exact⟨sl0,by rw[decide_eq_false h2];exact h _ _⟩
 ·rw[h1] at h;exact⟨x,by rw[decide_eq_true h2];exact h _ _⟩
end
theorem seen_sizeI {es:Array MapEntry}{seen:Array Nat}{done:List (Int×Value)}(h:SeenI es seen done):seen.size=done.length:=by
 obtain⟨ds,d1,_,_,d4⟩:=h;rw[←Array.length_toList,d1,List.length_map];simpa using congrArg List.length d4
theorem tslots_end {S0:Nat→Prop}{w W:World}{b b3:Nat}{s:List UInt8}{a:Int}{l0 l:List Slt}{K:Ending→World→Prop}(hp:l0.Perm l)(hr:Tl.RiseS l)(hb:∀x∈l,0≤x.num∧x.num≤8191)(hl:l.length≤1000000)
  (ho:OwnS S0 w W [.mapBI b3 (l0.map kvS),trE b s a]) (kend:∀(W':World) (v:Value) (L:List Ent),OwnS S0 w W' (trE b s a::slsE v l::L)→K (.returned v) W') :
  DoX prog (mRange 110 (.map (some b3))) W (pk K) fun t62 w=>LoopX [(.slice none 0 0)] w (fun vs2 w N2=>∀_:Sg,S_table_reader_slots_1 (vs2.getD 0 undef) t62 w N2 K):=by
 have hl0:l0.length=l.length:=hp.length_eq;obtain⟨es,clock,hf,ho⟩:=ho.openI 0 rfl;refine o_rangeI 0 Tryz.underlying110 ho rfl fun it w1 ho=>?_;have ho:=ho.nilU 49 4;refine loop (fun vs w'=>∃(seen:Array Nat) (ld:List Slt) (v:Value),vs=[v]∧SeenI es seen (ld.map kvS)∧ld.length≤l0.length ∧
   OwnS S0 w w' [slsE v ld,.obj it (.mapIter (some b3) clock seen clock),.obj b3 (.map es clock),trE b s a]) (fun _ w=>l0.length - itAt it w)
  ⟨#[],[],nilS,rfl,seen_nilI es,by simp,ho⟩ ?_
 clear ho;rintro vs w2 ⟨seen,ld,v,rfl,hs,hdl,ho⟩ _;simp only[S_table_reader_slots_1,gd];have hit:itAt it w2=seen.size:=itAt_is (ho.at_ 1 rfl);have hss:=seen_sizeI hs;rw[List.length_map] at hss;refine o_nextI 1 2 ho rfl rfl hf hs (fun hperm=>?_) fun p e w3 hpa _ he hek hev hs' hlt ho=>?_
 ·simp only[ex,i_f];refine c_ret (sortsl_ret v ld l w2 (ho.at_ 0 rfl) (by omega) ((perm_kvS hperm).trans hp) hr fun x hx=>by have:=hb x (((perm_kvS hperm).trans hp).subset hx);omega) ?_;rintro _ w3 ⟨rfl,ht⟩;have ho:=ho.turn 0 rfl ht;have ho:OwnS S0 w w3 ([slsE v l,.obj it (.mapIter (some b3) clock seen clock),.obj b3 (.map es clock)]++([trE b s a]++[])):=ho;exact kend w3 v _ ho.front
 ·simp only[ex,i_t];have ho:OwnS S0 w w3 [slsE v ld,.obj it (.mapIter (some b3) clock (seen.push e.born) clock),.obj b3 (.map es clock),trE b s a]:=ho;rw[e_entryI 1 2 ho rfl rfl hf he,hek,hev];simp only[ex];obtain⟨x,hx,rfl⟩:=List.mem_map.1 hpa;rw[List.length_map,List.length_map] at hlt;refine o_sla ho fun b13 w4 ho=>?_;refine sl_put (y:=x) 0 ho rfl fun w5 ho=>?_;have ho:OwnS S0 w w5 [slE b13 x,slsE v ld,.obj it (.mapIter (some b3) clock (seen.push e.born) clock),.obj b3 (.map es clock),trE b s a]:=ho;rw[sl_v ho 0 rfl];refine o_apSl 1 ho rfl (by omega) fun v' w6 ho=>?_;have ho:=ho.tail;refine nextX ⟨seen.push e.born,ld++[x],v',rfl,by rw[List.map_append];exact hs',by simp;omega,ho⟩ ?_;show l0.length - itAt it w6 < l0.length - itAt it w2;rw[hit,itAt_is (ho.at_ 1 rfl),Array.size_push];omega
end
section
open Eng Go.RowKit
structure SlsOk (l0 l:List Slt):Prop where
 perm:l0.Perm l
 rise:Tl.RiseS l
 nums:∀x∈l,0≤x.num∧x.num≤8191
theorem SlsOk.len {l0 l:List Slt}(h:SlsOk l0 l):l.length≤8192:=by
 have hn:(l.map fun x=>x.num.toNat).Nodup:=by
  rw[List.nodup_iff_pairwise_ne,List.pairwise_map];refine h.rise.imp_of_mem fun {a b} ha hb hab e=>?_;have:=h.nums a ha;have:=h.nums b hb;omega
 have:=Eng.nodup_le (l.map fun x=>x.num.toNat) (List.range 8192) hn fun n hn=>by
  obtain⟨x,hx,rfl⟩:=List.mem_map.1 hn;have:=h.nums x hx;rw[List.mem_range];omega
 simpa using this
theorem SlsOk.lay {l0 l l':List Slt}{x:Slt}(h:SlsOk l0 l)(hx:0≤x.num∧x.num≤8191)(hl:Tl.lay l x=some l'):SlsOk (l0++[x]) l':=by
 obtain⟨r,p,_⟩:=lay_some h.rise hl;refine⟨((List.perm_append_singleton x l0).trans (h.perm.cons x)).trans p,r,fun y hy=>?_⟩;rcases List.mem_cons.1 (p.symm.subset hy) with rfl|hy
 ·exact hx
 ·exact h.nums y hy
theorem SlsOk.mem {l0 l:List Slt}(h:SlsOk l0 l){n:Int}:n∈l0.map (·.num)↔n∈l.map (·.num):=(h.perm.map _).mem_iff
theorem tslots_ret (b:Nat)(s:List UInt8)(a:Int)(w:World)(hs:s.length≤1000000000)(h0:0≤a)(h1:a≤s.length)(hr:(trE b s a).is w) :
  Lend prog 46 #[rdP b] (trE b s a) w (Tl.slots s (s.length+1) a []≠none) (fun v e'=>∃l t,Tl.slots s (s.length+1) a []=some (l,t)∧Tl.RiseS l∧l.length≤8192∧e'=.two (trE b s t) (slsE v l)) [badT]:=by
 refine lend_of hr (fun K ho hret hpan=>S_table_reader_slots_ok ?_);unfold S_table_reader_slots;generalize hS0:(trE b s a).blk=S0 at *;generalize hR:Tl.slots s (s.length+1) a []=R at *;refine o_mapNewBI ho fun b3 w1 ho=>?_;have ho:OwnS S0 w w1 [.mapBI b3 (([]:List Slt).map kvS),trE b s a]:=ho;refine loop (fun vs w'=>∃(a':Int) (m:Nat) (l0 l:List Slt),vs=[]∧0≤a'∧a'≤s.length∧(s.length:Int) < a'+m∧Tl.slots s m a' l=R∧SlsOk l0 l∧OwnS S0 w w' [.mapBI b3 (l0.map kvS),trE b s a']) (fun _ w=>s.length - rdAt b w)
  ⟨a,s.length+1,[],[],rfl,h0,h1,by omega,hR,⟨List.Perm.nil,List.Pairwise.nil,by simp⟩,ho⟩ ?_
 clear ho hR;rintro vs w2 ⟨a',m,l0,l,rfl,ha0,ha1,hm,hsl,hok,ho⟩ _;simp only[S_table_reader_slots_0];obtain⟨m,rfl⟩:∃k,m=k+1:=⟨m - 1,by omega⟩;have hat:rdAt b w2=a'.toNat:=rdAt_tr (ho.at_ 1 rfl);have fall:∀{W:World} {L:List Ent} {e2:Ent},OwnS S0 w W (L++([e2]++[]))→R=none→pk K [badT] W:=by
  intro W L e2 ho hn;exact hpan (fun h=>h hn) e2 W _ ho.front
 refine c_lend ho 1 rfl (tnext_ret b s a' w2 (by omega) (ho.at_ 1 rfl)) ?_ fun e2 w3 hn ho=>?_
 rotate_left
 ·rw[slots_err hn] at hsl;exact fall (L:=[_]) ho hsl.symm
 rintro _ _ w3 e1 ⟨rfl,rfl⟩ ho;rw[Tl.slots] at hsl;have hword:Tl.word s a' Tl.trailW=if (Lx.next s a').1.k=5∧(Lx.next s a').1.s=Tl.trailW then some (Lx.next s a').1.t else none:=by
  unfold Tl.word;by_cases h:(Lx.next s a').1.k=5∧(Lx.next s a').1.s=Tl.trailW
  ·rw[if_pos ⟨e1,h⟩,if_pos h]
  ·rw[if_neg (fun h'=>h h'.2),if_neg h]
 have hnum:=@entry_num s a' 8191;have hadv:=@num_adv s a' 0 8191;have hbd:=@Lx.next_bd s a' e1;have hge:=Lx.skip_ge s a'.toNat;rw[hword,hnum] at hsl;rw[hnum] at hadv;clear hword hnum;generalize Lx.next s a'=x at *
 refine o_tok ho fun b4 w4 ho=>?_;refine tk_put 0 ho rfl fun w5 ho=>?_;have ho:OwnS S0 w w5 [tokE b4 x.1,.mapBI b3 (l0.map kvS),trE b s x.1.t]:=ho;by_cases ht:x.1.k=5∧x.1.s=Tl.trailW
 ·rw[if_pos ht] at hsl;simp only at hsl;have ht2:x.1.s=[116,114,97,105,108,101,114]:=ht.2;simp only[rs,fa_t0,tk_k ho 0 rfl,decide_eq_true ht.1,fa_t4',tk_s ho 0 rfl,decide_eq_true ht2];refine tslots_end hok.perm hok.rise hok.nums (by have:=hok.len;omega) ho.tail fun W v L ho=>?_;refine hret (by rw[←hsl];simp) v _ W L ho.pair ⟨l,x.1.t,hsl.symm,hok.rise,hok.len,rfl⟩
 rw[if_neg ht] at hsl;simp only at hsl
 -- a subsection
 have sub:DoX prog (mLoad 90 (.pointer (some ⟨b4,0,none⟩))) w5 (pk K) fun t25 W=>
 CallX prog 64 #[t25,(.int .i64 8191)] W (pk K) fun t26 W=>
 CallX prog 45 #[rdP b] W (pk K) fun t28 W=>
 CallX prog 64 #[t28,(.int .i64 8192)] W (pk K) fun t29 W=>
 DoX prog (mBin .add 3 t26 t29) W (pk K) fun t32 W=>
 DoX prog (mBin .leq 3 t32 (.int .i64 8192)) W (pk K) fun t33 W=>
 CallX prog 43 #[t33] W (pk K) fun t34 W=>
 LoopX [(.int .i64 0)] W (fun vs3 W' N3=>∀_:Sg,S_table_reader_slots_2 (rdP b) (.map (some b3)) t26 t29 (vs3.getD 0 undef) W' (NextX (fun vs w'=>∃(a':Int) (m:Nat) (l0 l:List Slt),vs=[]∧0≤a'∧a'≤s.length∧(s.length:Int) < a'+m∧Tl.slots s m a' l=R∧SlsOk l0 l∧OwnS S0 w w' [.mapBI b3 (l0.map kvS),trE b s a']) (fun _ w=>s.length - rdAt b w) [] w2) N3 K):=by
  rw[tk_v ho 0 rfl];refine c_whole ho (fun hw1 w6 ho=>?_) fun hn w6 ho=>?_
  rotate_left
  ·rw[if_neg (fun h=>hn h.2)] at hsl;exact fall (L:=[_,_]) ho hsl.symm
  rw[if_pos ⟨e1,hw1⟩] at hsl hadv;simp only at hsl;have ha:=hadv rfl;obtain⟨hk1,hf0,hf1⟩:=hw1;generalize hf:x.1.n=f at *;generalize ht1:x.1.t=a1 at *;refine c_lend ho 2 rfl (tnext_ret b s a1 w6 (by omega) (ho.at_ 2 rfl)) ?_ fun e2 w7 hn ho=>?_
  rotate_left
  ·have:Tl.number s a1 0 (8192 - f)=none:=by unfold Tl.number;rw[if_pos (.inl hn)]
   rw[this] at hsl;exact fall (L:=[_,_]) ho hsl.symm
  rintro _ _ w7 e2 ⟨rfl,rfl⟩ ho;have hnum2:=@entry_num s a1 (8192 - f);have hadv2:=@num_adv s a1 0 (8192 - f);rw[hnum2] at hsl hadv2;clear hnum2;generalize Lx.next s a1=y at *
  refine c_whole ho (fun hw2 w8 ho=>?_) fun hn w8 ho=>?_
  rotate_left
  ·rw[if_neg (fun h=>hn ⟨h.2.1,h.2.2.1,by have:=h.2.2.2;omega⟩)] at hsl;exact fall (L:=[_,_]) ho hsl.symm
  obtain⟨hk2,hc0,hc1⟩:=hw2;simp only[rs];rw[wrap64_id (by omega) (by omega)];refine c_tmust (fun hle=>?_) fun hle=>?_
  rotate_left
  ·have hle:=of_decide_eq_false hle;rw[if_neg (fun h=>hle (by have:=h.2.2.2;omega))] at hsl;exact fall (L:=[_,_]) ho hsl.symm
  have hle:=of_decide_eq_true hle;rw[if_pos ⟨e2,hk2,hc0,by omega⟩] at hsl hadv2;simp only at hsl;have ha2:=hadv2 rfl;have ho:=ho.tail;generalize hE:Tl.entries s y.1.n.toNat f y.1.t l=E at *;generalize hy1:y.1.n=c at *;generalize hy2:y.1.t=a2 at *;obtain⟨c,rfl⟩:∃n:Nat,(n:Int)=c:=⟨c.toNat,by omega⟩;refine loop (fun vs w'=>∃(k:Nat) (a3:Int) (l3 l4:List Slt),vs=[.int .i64 k]∧k≤c∧a2≤a3∧a3≤s.length∧Tl.entries s (c - k) (f+k) a3 l4=E∧SlsOk l3 l4∧OwnS S0 w w' [.mapBI b3 (l3.map kvS),trE b s a3]) (fun vs _=>c - n0 vs)
   ⟨0,a2,l0,l,rfl,by omega,by omega,ha2.2.2,by rw[Nat.sub_zero,show f+((0:Nat):Int)=f by omega,←hE,Int.toNat_natCast],hok,ho⟩ ?_
  clear ho;rintro vs w9 ⟨k,a3,l3,l4,rfl,hkc,ha3,ha4,hent,hok3,ho⟩ _;simp only[S_table_reader_slots_2,gd,rs];by_cases hlt:(k:Int) < (c:Int)
  case neg=>
   have hkc':k=c:=by omega
   subst hkc';simp only[decide_eq_false hlt,i_f];rw[Nat.sub_self,Tl.entries] at hent;rw[←hent] at hsl;simp only at hsl;refine nextX ⟨a3,m,l3,l4,rfl,by omega,ha4,by omega,hsl,hok3,ho⟩ ?_;show s.length - rdAt b w9 < s.length - rdAt b w2;rw[hat,rdAt_tr (ho.at_ 1 rfl)];omega
  simp only[decide_eq_true hlt,i_t];rw[wrap64_id (by omega) (by omega)];obtain⟨z,hz⟩:=lookSl 0 ho rfl (f+(k:Int));rw[hz];simp only[ex];refine o_sla ho fun b8 w10 ho=>?_;refine sl_put (y:=z) 0 ho rfl fun w11 ho=>?_;have ho:=ho.tail;have ho:OwnS S0 w w11 [.mapBI b3 (l3.map kvS),trE b s a3]:=ho;rw[show c - k=(c - (k+1))+1 by omega,Tl.entries] at hent;refine c_lend ho 1 rfl (tentry_ret b s a3 (f+(k:Int)) w11 (by omega) (ho.at_ 1 rfl)) ?_ fun e2 w12 hn ho=>?_
  rotate_left
  ·rw[Classical.not_not.1 hn] at hent;rw[←hent] at hsl;exact fall (L:=[_]) ho hsl.symm
  rintro _ _ w12 _ ⟨xx,t,he,rfl,rfl⟩ ho;have hadv3:=entry_adv he;rw[he] at hent;simp only at hent;refine o_sla ho fun b10 w13 ho=>?_;refine sl_put (y:=xx) 0 ho rfl fun w14 ho=>?_;have ho:OwnS S0 w w14 [slE b10 xx,.mapBI b3 (l3.map kvS),trE b s t]:=ho;simp only[rs];refine c_tmust (fun hq=>?_) fun hq=>?_
  rotate_left
  ·have hin:f+(k:Int)∈l3.map (·.num):=by simpa using hq
   have hl:Tl.lay l4 xx=none:=lay_none.2 (hok3.mem.1 (by rw[hadv3.2.2.2];exact hin));rw[hl] at hent;rw[←hent] at hsl;exact fall (L:=[_,_]) ho hsl.symm
  have hnin:f+(k:Int) ∉ l3.map (·.num):=by simpa using hq
  cases hl:Tl.lay l4 xx with
 |none=>exact absurd (hok3.mem.2 (lay_none.1 hl)) (by rw[hadv3.2.2.2];exact hnin)
 |some l5=>
  rw[hl] at hent;simp only at hent;rw[sl_v ho 0 rfl];have hlk:lookI (l3.map kvS) (f+(k:Int))=none:=by
   rcases look_kvS (l:=l3) (n:=f+(k:Int)) with ⟨h,_⟩|⟨_,_,_,h⟩
   ·exact h
   ·exact absurd h hnin
  refine o_mapAddBI 1 Tryz.underlying110 Tryz.underlying3 ho rfl (f+(k:Int)) (slV xx) hlk fun w15 ho=>?_;have ho:=ho.tail;have ho:OwnS S0 w w15 [.mapBI b3 ((l3++[xx]).map kvS),trE b s t]:=by
   rw[List.map_append];have e:kvS xx=(f+(k:Int),slV xx):=by unfold kvS;rw[hadv3.2.2.2]
   rw[List.map_singleton,e];exact ho
  rw[wrap64_id (by omega) (by omega)];have hnum:0≤xx.num∧xx.num≤8191:=by rw[hadv3.2.2.2];omega
  exact nextX ⟨k+1,t,l3++[xx],l5,rfl,by omega,by omega,hadv3.2.2.1,by rw[show f+((k+1:Nat):Int)=f+(k:Int)+1 by omega];exact hent,hok3.lay hnum hl,ho⟩ (by show c - Int.toNat ((k:Int)+1) < c - Int.toNat (k:Int);omega)
 by_cases k5:x.1.k=5
 ·have hs5:¬x.1.s=[116,114,97,105,108,101,114]:=fun h=>ht ⟨k5,h⟩;simp only[rs,fa_t0,tk_k ho 0 rfl,decide_eq_true k5,fa_t4',tk_s ho 0 rfl,decide_eq_false hs5];simp only[rs,tk_v ho 0 rfl] at sub;simp only[rs,tk_v ho 0 rfl];exact sub
 ·simp only[rs,fa_t0,tk_k ho 0 rfl,decide_eq_false k5,g_un];simp only[rs,tk_v ho 0 rfl] at sub;simp only[rs,tk_v ho 0 rfl];exact sub
end
section
open Eng Go.RowKit
def secC (x:Sec)(vs vk vc:Value):List Value:=[.int .i64 x.at_,vs]++(obC x.trailer vk vc++[.int .i64 x.prev,.int .i64 x.hybrid,.int .i64 x.own])
def secV (x:Sec)(vs vk vc:Value):Value:=.agg (secC x vs vk vc).toArray
abbrev secE (b:Nat)(x:Sec)(vs vk vc:Value):Ent:=.cells b (secC x vs vk vc) 29
theorem aggSec:aggN prog 29=some 11:=by kernel_rfl
theorem szSec:(Tryz.prog.info? 29).map (·.size)=some 11:=by kernel_rfl
theorem fse0:fOff prog 29 0=some 0:=by kernel_rfl
theorem fse1:fOff prog 29 1=some 1:=by kernel_rfl
theorem fse2:fOff prog 29 2=some 2:=by kernel_rfl
theorem fse3:fOff prog 29 3=some 8:=by kernel_rfl
theorem fse4:fOff prog 29 4=some 9:=by kernel_rfl
theorem fse5:fOff prog 29 5=some 10:=by kernel_rfl
theorem nSls:notAgg prog 23=true:=by kernel_rfl
theorem secC_one (x:Sec){vs vk vc:Value}(hs:vs.oneCell'=true)(hk:vk.oneCell'=true)(hc:vc.oneCell'=true):∀v∈secC x vs vk vc,v.oneCell'=true:=by
 intro v hv;simp only[secC,List.mem_append,List.mem_cons,List.not_mem_nil,or_false] at hv;rcases hv with (rfl|rfl)|hv|rfl|rfl|rfl
 ·rfl
 ·exact hs
 ·exact obC_one x.trailer hk hc v hv
 ·rfl
 ·rfl
 ·rfl
section
variable {w:World}{PK:PKT}{K:VWP}{S:Nat→Prop}{w0:World}{L:List Ent}
theorem fa_se0 {b:Nat}:DoX prog (mFA 29 (.pointer (some ⟨b,0,none⟩)) 0) w PK K=K (.pointer (some ⟨b,0,none⟩)) w:=f_addr fse0
theorem fa_se1 {b:Nat}:DoX prog (mFA 29 (.pointer (some ⟨b,0,none⟩)) 1) w PK K=K (.pointer (some ⟨b,1,none⟩)) w:=f_addr fse1
theorem fa_se2 {b:Nat}:DoX prog (mFA 29 (.pointer (some ⟨b,0,none⟩)) 2) w PK K=K (.pointer (some ⟨b,2,none⟩)) w:=f_addr fse2
theorem fa_se3 {b:Nat}:DoX prog (mFA 29 (.pointer (some ⟨b,0,none⟩)) 3) w PK K=K (.pointer (some ⟨b,8,none⟩)) w:=f_addr fse3
theorem fa_se4 {b:Nat}:DoX prog (mFA 29 (.pointer (some ⟨b,0,none⟩)) 4) w PK K=K (.pointer (some ⟨b,9,none⟩)) w:=f_addr fse4
theorem o_sea (ho:OwnS S w0 w L)(k:∀b w',OwnS S w0 w' (secE b Tl.sec0 nilS nilS nilS::L)→K (.pointer (some ⟨b,0,none⟩)) w'):DoX prog (mAlloc 29) w PK K:=
 o_new (fun b=>.pointer (some ⟨b,0,none⟩)) (secC Tl.sec0 nilS nilS nilS) 29 (fun _=>by kernel_rfl) ho k
theorem se_put (i:Nat){b:Nat}{x y:Sec}{vs vk vc vs' vk' vc':Value}(hs:vs'.oneCell'=true)(hk:vk'.oneCell'=true)(hc:vc'.oneCell'=true)(ho:OwnS S w0 w L)(hi:L[i]?=some (secE b x vs vk vc))(k:∀w',OwnS S w0 w' (L.set i (secE b y vs' vk' vc'))→K undef w') :
  DoX prog (mStore 29 (.pointer (some ⟨b,0,none⟩)) (secV y vs' vk' vc')) w PK K:=o_put i ho hi (new:=secC y vs' vk' vc') szSec (secC_one y hs hk hc) rfl k
theorem se_v (ho:OwnS S w0 w L)(i:Nat){b:Nat}{x:Sec}{vs vk vc:Value}(hi:L[i]?=some (secE b x vs vk vc)):DoX prog (mLoad 29 (.pointer (some ⟨b,0,none⟩))) w PK K=K (secV x vs vk vc) w:=l_at (ho.agg i hi aggSec)
theorem se_at (ho:OwnS S w0 w L)(i:Nat){b:Nat}{x:Sec}{vs vk vc:Value}(hi:L[i]?=some (secE b x vs vk vc)):DoX prog (mLoad 3 (.pointer (some ⟨b,0,none⟩))) w PK K=K (.int .i64 x.at_) w:=l_cell nInt5 (ho.cell i hi 0 rfl)
theorem se_sl (ho:OwnS S w0 w L)(i:Nat){b:Nat}{x:Sec}{vs vk vc:Value}(hi:L[i]?=some (secE b x vs vk vc)):DoX prog (mLoad 23 (.pointer (some ⟨b,1,none⟩))) w PK K=K vs w:=l_cell nSls (ho.cell i hi 1 rfl)
theorem m_se0:DoX prog (mBuild 29 #[]) w PK K=K (secV Tl.sec0 nilS nilS nilS) w:=do_eq (by kernel_rfl)
theorem m_se1 {a:Int}:DoX prog (mBuild 29 #[(0,.int .i64 a)]) w PK K=K (secV { Tl.sec0 with at_:=a } nilS nilS nilS) w:=do_eq (by kernel_rfl)
end
def fitsS (x:Slt):Bool:=if x.kind=2 then decide (1≤x.a)&&decide (x.a≤8191)&&decide (0≤x.b)&&decide (x.b≤8191) else decide (0≤x.a)&&decide (x.a≤2147483647)&&decide (0≤x.b)&&decide (x.b≤65535)
theorem tfits_ret (x:Slt)(w:World):Ret prog 39 #[slV x] w (fun v w'=>v=.bool (fitsS x)∧Below w.heap.size w w'):=by
 refine ret_of fun K hK=>S_table_fits_ok ?_;unfold S_table_fits;refine o_slb x (Own.start w) fun b w1 ho=>?_;have l1:∀{PK:PKT} {K:VWP},DoX prog (mLoad 3 (.pointer (some ⟨b,0+1,none⟩))) w1 PK K=K (.int .i64 x.kind) w1:=l_cell nInt5 (ho.cell 0 rfl 1 rfl);have l2:∀{PK:PKT} {K:VWP},DoX prog (mLoad 3 (.pointer (some ⟨b,0+2,none⟩))) w1 PK K=K (.int .i64 x.a) w1:=l_cell nInt5 (ho.cell 0 rfl 2 rfl);have l3:∀{PK:PKT} {K:VWP},DoX prog (mLoad 3 (.pointer (some ⟨b,0+3,none⟩))) w1 PK K=K (.int .i64 x.b) w1:=l_cell nInt5 (ho.cell 0 rfl 3 rfl);have fin:∀{q:Bool},q=fitsS x→K (.returned (.bool q)) w1:=fun e=>hK _ _ ⟨by rw[e],ho.done⟩;unfold fitsS at fin;by_cases hk:x.kind=2
 ·rw[if_pos hk] at fin;by_cases h1:1≤x.a<;>by_cases h2:x.a≤8191<;>by_cases h3:0≤x.b
  all_goals
   simp only[rs,fa_s1',fa_s2',fa_s3',l1,l2,l3,hk,decide_true,h1,h2,h3,decide_false,g_un];exact fin (by simp[h1,h2,h3])
 ·rw[if_neg hk] at fin;by_cases h1:0≤x.a<;>by_cases h2:x.a≤2147483647<;>by_cases h3:0≤x.b
  all_goals
   simp only[rs,fa_s1',fa_s2',fa_s3',l1,l2,l3,hk,decide_true,h1,h2,h3,decide_false,g_un];exact fin (by simp[h1,h2,h3])
end
section
open Eng Go.RowKit
theorem begins_skip {s:List UInt8}{a:Int}(h:Tl.beginsX s a=true):0≤a∧a≤s.length∧Lx.skip s a.toNat=a.toNat:=by
 unfold Tl.beginsX at h;simp only[Bool.and_eq_true,decide_eq_true_eq] at h;refine⟨h.1.1,h.1.2,?_⟩;unfold Lx.skip;cases hd:s.drop a.toNat with
|nil=>rw[hd] at h;exact absurd h.2 (by decide)
|cons c r=>
  rw[hd] at h;have hc:c=120:=by
   have:=h.2;unfold Tl.xrefW at this;rw[List.isPrefixOf_cons_cons] at this;simp only[Bool.and_eq_true,beq_iff_eq] at this;exact this.1.symm
  subst hc;rw[Lx.skipF,if_neg (by decide),if_neg (by decide)];rfl
theorem begins_x (s:List UInt8)(a:Int):begins s [120,114,101,102] a=Tl.beginsX s a:=rfl
theorem tface_plain:plainB prog 42=true:=by kernel_rfl
def SecV (N:Mem)(v:Value)(x:Sec):Prop:=∃vs vk vc,v=secV x vs vk vc∧SlA N.A N.w vs 4 x.slots.length (x.slots.flatMap slC)∧OV N.A N.w (obV x.trailer vk vc) x.trailer
section
variable {w:World}{PK:PKT}{K:VWP}{S:Nat→Prop}{w0:World}{L:List Ent}
theorem c_tleads {o:Ob}{v:Value}{k:List UInt8}(ho:OwnS S w0 w L)(hv:OV (InW w) w v o)(hw:o.wt≤100000000000)(kr:∀n,Tl.leads o k=some n→∀w',OwnS S w0 w' L→K (.int .i64 n) w')(kp:Tl.leads o k=none→∀w',OwnS S w0 w' L→PK [badT] w') :
  CallX prog 48 #[v,.string ⟨k.toArray⟩] w PK K:=by
 cases h:Tl.leads o k with
|some n=>
  refine c_ret (R:=fun v' w'=>v'=.int .i64 n∧Below w.heap.size w w') (tleads_calls o v k w _ hw hv (fun m hm w' hb=>?_) fun hn=>by rw[h] at hn;cases hn) ?_
  ·rw[h] at hm;cases hm;exact retK ⟨rfl,hb⟩
  ·rintro _ w' ⟨rfl,hb⟩;exact kr n h w' (ho.grow hb)
|none=>
  refine c_pan (R:=fun c w'=>c=[badT]∧Below w.heap.size w w') (tleads_calls o v k w _ hw hv (fun m hm=>by rw[h] at hm;cases hm) fun _ w' hb=>panK ⟨rfl,hb⟩) ?_;rintro _ w' ⟨rfl,hb⟩;exact kp h w' (ho.grow hb)
end
def SecR (b:Nat)(s:List UInt8)(a:Int)(M:Mem)(w:World)(v:Value)(w':World):Prop:=
 ∃(N:Mem) (e2:Ent),M.le N∧((Tl.read s a).2.2=0→∃xv,v=.tuple #[xv,.int .i64 0]∧SecV N xv (Tl.read s a).1∧e2=trE b s (Tl.read s a).2.1) ∧
  ((Tl.read s a).2.2≠0→Tl.read s a=Tl.bad∧∃x vs vk vc,v=.tuple #[secV x vs vk vc,.int .i64 19]∧vs.oneCell'=true∧vk.oneCell'=true∧vc.oneCell'=true)∧Turn (.two (trE b s a) (.mem M)) (.two e2 (.mem N)) w w'
theorem sec_fail {b:Nat}{s:List UInt8}{a:Int}{M N:Mem}{S0:Nat→Prop}{w W:World}{K:Ending→World→Prop}{A:List Ent}{b2 b3:Nat}{x:Sec}{vs vk vc:Value}{e2:Ent}(hK:∀v w',SecR b s a M w v w'→K (.returned v) w')(hS:(Ent.two (trE b s a) (.mem M)).blk=S0)
  (ho:OwnS S0 w W (A++([.cells b3 [.int .i64 0] 30,secE b2 x vs vk vc,e2,.mem N]++[]))) (h1:vs.oneCell'=true) (h2:vk.oneCell'=true) (h3:vc.oneCell'=true) (hle:M.le N) (hR:Tl.read s a=Tl.bad) :
  S_table_reader_section_p0 (.pointer (some ⟨b2,0,none⟩)) (.pointer (some ⟨b3,0,none⟩)) K [badT] W:=by
 show pd prog _ K _ [badT] W;unfold pd;refine leave_fn (by simp) tface_plain (S_table_face_dok ?_);simp only[S_table_face,recV,recM,badT,Eng.e_some Tryz.underlying20,rs,t_hit nfT,ex,i_t,i_f];have ho:=ho.front;have ho:OwnS S0 w W (.cells b3 [.int .i64 0] 30::secE b2 x vs vk vc::e2::.mem N::(A++[])):=ho;refine o_new (fun b=>.pointer (some ⟨b,0,none⟩)) [] 108 (fun _=>by kernel_rfl) ho fun b5 w5 ho=>?_;refine o_put 0 ho rfl (new:=[]) (show (Tryz.prog.info? 108).map (·.size)=some 0 by kernel_rfl) (by simp) rfl fun w6 ho=>?_;refine o_store 1 ho rfl (by kernel_rfl) rfl (by simp) fun w7 ho=>?_;have ho:=ho.tail;refine ret_v2 (rv_cell (ho.agg 1 rfl aggSec)) (rv_cell (AtV.cell nErr5 (ho.cell 0 rfl 0 rfl))) (hK _ _ ⟨N,e2,hle,fun h=>?_,fun _=>⟨hR,x,vs,vk,vc,rfl,h1,h2,h3⟩,?_⟩)
 ·rw[hR] at h;exact absurd h (by decide)
 ·have ho:=ho.tail.tail.pair;subst hS;exact OwnS.back ho
def Tl.Mild (s:List UInt8)(a:Int):Prop:=∀t r,Tl.word s a Tl.xrefW=some t→Tl.slots s (s.length+1) t []=some r→(Ps.object s r.2).2.2=0→(Ps.object s r.2).1.wt≤100000000000
theorem Tl.mild_of {s:List UInt8}(a:Int)(hs:s.length≤1000000):Tl.Mild s a:=by
 intro t r _ _ h;unfold Ps.object at h ⊢;split at h
 ·simp[Ps.bad] at h
 ·rename_i hb
  rw[if_neg hb];have h1:=Ps.obj_wt s 24 r.2 h;have h2:=Ps.obj_bd h;omega
theorem tsection_0 {b b2 b3 b5:Nat}{s:List UInt8}{a t:Int}{M N:Mem}{S0:Nat→Prop}{w W:World}{K:Ending→World→Prop}{A:List Ent}{l:List Slt}{vs xk xc:Value}(hwt:(Ps.object s t).2.2=0→(Ps.object s t).1.wt≤100000000000)(hK:∀v w',SecR b s a M w v w'→K (.returned v) w')(hS:(Ent.two (trE b s a) (.mem M)).blk=S0)
  (hov:OV N.A N.w (obV (Ps.object s t).1 xk xc) (Ps.object s t).1) (hsl:SlA N.A N.w vs 4 l.length (l.flatMap slC)) (hle:M.le N) (hread:Tl.read s a=Tl.finish s a l t)
  (ho:OwnS S0 w W (obE b5 (Ps.object s t).1 xk xc::(A++([.cells b3 [.int .i64 0] 30,secE b2 ⟨a,l,Vl.ob0,0,0,0⟩ vs nilS nilS,trE b s t,.mem N]++[])))) :
  S_table_reader_section_0 (rdP b) (.pointer (some ⟨b2,0,none⟩)) (.pointer (some ⟨b3,0,none⟩)) (.pointer (some ⟨b5,0,none⟩)) (.int .i64 (Ps.object s t).2.1) (.int .i64 (Ps.object s t).2.2) W K:=by
 unfold S_table_reader_section_0;have hvs:=hsl.one;have hf1:(Ps.object s t).2.2≠0∨(Ps.object s t).1.k≠7→Tl.finish s a l t=Tl.bad:=fun h=>by rw[Tl.finish,if_pos h]
 have hf2:(Ps.object s t).2.2=0∧(Ps.object s t).1.k=7→Tl.finish s a l t=match Tl.leads (Ps.object s t).1 Tl.prevK,Tl.leads (Ps.object s t).1 Tl.hybK with
  |some p,some h=>(⟨a,l,(Ps.object s t).1,p,h,0⟩,(Ps.object s t).2.1,0)
  |_,_=>Tl.bad:=fun h=>by
  rw[Tl.finish,if_neg (by simp[h.1,h.2])]
  all_goals (cases Tl.leads (Ps.object s t).1 Tl.prevK<;>cases Tl.leads (Ps.object s t).1 Tl.hybK<;>rfl)
 generalize Ps.object s t=e at *;have hx:=hov.slices;obtain⟨xcs,hx⟩:=hx
 -- the base comes ahead
 have ho:OwnS S0 w W ([obE b5 e.1 xk xc]++(A++[.cells b3 [.int .i64 0] 30,secE b2 ⟨a,l,Vl.ob0,0,0,0⟩ vs nilS nilS,trE b s t,.mem N])):=by simpa using ho
 have ho:OwnS S0 w W ([obE b5 e.1 xk xc]++([.cells b3 [.int .i64 0] 30,secE b2 ⟨a,l,Vl.ob0,0,0,0⟩ vs nilS nilS,trE b s t,.mem N]++A)):=ho.perm (List.Perm.append_left _ List.perm_append_comm);have ho:OwnS S0 w W (obE b5 e.1 xk xc::.cells b3 [.int .i64 0] 30::secE b2 ⟨a,l,Vl.ob0,0,0,0⟩ vs nilS nilS::trE b s t::.mem N::A):=ho;have fall:∀{W:World} {x:Sec} {vs vk vc:Value} {e2:Ent},OwnS S0 w W (obE b5 e.1 xk xc::.cells b3 [.int .i64 0] 30::secE b2 x vs vk vc::e2::.mem N::A)→vs.oneCell'=true→vk.oneCell'=true→vc.oneCell'=true→Tl.finish s a l t=Tl.bad →
   S_table_reader_section_p0 (.pointer (some ⟨b2,0,none⟩)) (.pointer (some ⟨b3,0,none⟩)) K [badT] W:=by
  intro W x vs vk vc e2 ho h1 h2 h3 hb;have ho:OwnS S0 w W ([obE b5 e.1 xk xc]++([.cells b3 [.int .i64 0] 30,secE b2 x vs vk vc,e2,.mem N]++A)):=ho;have ho:=ho.perm (L':=[obE b5 e.1 xk xc]++(A++[.cells b3 [.int .i64 0] 30,secE b2 x vs vk vc,e2,.mem N])) (List.Perm.append_left _ List.perm_append_comm);refine sec_fail (A:=obE b5 e.1 xk xc::A) hK hS (by simpa using ho) h1 h2 h3 hle (hread.trans hb)
 have hfin:Tl.finish s a l t=Tl.finish s a l t:=rfl;have fin:∀{q:Bool},(q=true↔(e.2.2=0∧e.1.k=7))→(e.2.2≠0∨e.1.k≠7→Tl.finish s a l t=Tl.bad)→(e.2.2=0∧e.1.k=7→Tl.finish s a l t=match Tl.leads e.1 Tl.prevK,Tl.leads e.1 Tl.hybK with
  |some p,some h=>(⟨a,l,e.1,p,h,0⟩,e.2.1,0)
  |_,_=>Tl.bad) →
   CallX prog 43 #[.bool q] W (S_table_reader_section_p0 (.pointer (some ⟨b2,0,none⟩)) (.pointer (some ⟨b3,0,none⟩)) K) fun t64 w=>
 DoX prog (mFA 53 (rdP b) 1) w (S_table_reader_section_p0 (.pointer (some ⟨b2,0,none⟩)) (.pointer (some ⟨b3,0,none⟩)) K) fun t68 w=>
 DoX prog (mStore 3 t68 (.int .i64 e.2.1)) w (S_table_reader_section_p0 (.pointer (some ⟨b2,0,none⟩)) (.pointer (some ⟨b3,0,none⟩)) K) fun _ w=>
 HeldX w (fun S3 w=>
 HDo prog S3 (mLoad 27 (.pointer (some ⟨b5,0,none⟩))) fun t69=>
 HDo prog S3 (mLoad 27 (.pointer (some ⟨b5,0,none⟩))) fun t70=>
 HDo prog S3 (mLoad 27 (.pointer (some ⟨b5,0,none⟩))) fun t72=>
 HDo prog (fun _=>True) (mFA 29 (.pointer (some ⟨b2,0,none⟩)) 2) fun t74=>
 CallX prog 48 #[t70,(.string ⟨#[80,114,101,118]⟩)] w (pm1 (pm1 (pm1 (pm1 (pm1 (pm1 (S_table_reader_section_p0 (.pointer (some ⟨b2,0,none⟩)) (.pointer (some ⟨b3,0,none⟩)) K))))))) fun t71 w=>
 S3 w∧(CallX prog 48 #[t72,(.string ⟨#[88,82,101,102,83,116,109]⟩)] w (pm1 (pm1 (pm1 (pm1 (pm1 (pm1 (S_table_reader_section_p0 (.pointer (some ⟨b2,0,none⟩)) (.pointer (some ⟨b3,0,none⟩)) K))))))) fun t73 w=>
 S3 w∧(DoX prog (mStore 27 t74 t69) w (pm1 (pm1 (pm1 (pm1 (pm1 (pm1 (S_table_reader_section_p0 (.pointer (some ⟨b2,0,none⟩)) (.pointer (some ⟨b3,0,none⟩)) K))))))) fun _ w=>
 S3 w∧(HDo prog (fun _=>True) (mFA 29 (.pointer (some ⟨b2,0,none⟩)) 3) fun t75=>
 DoX prog (mStore 3 t75 t71) w (pm1 (pm1 (pm1 (pm1 (pm1 (pm1 (S_table_reader_section_p0 (.pointer (some ⟨b2,0,none⟩)) (.pointer (some ⟨b3,0,none⟩)) K))))))) fun _ w=>
 S3 w∧(HDo prog (fun _=>True) (mFA 29 (.pointer (some ⟨b2,0,none⟩)) 4) fun t76=>
 DoX prog (mStore 3 t76 t73) w (pm1 (pm1 (pm1 (pm1 (pm1 (pm1 (S_table_reader_section_p0 (.pointer (some ⟨b2,0,none⟩)) (.pointer (some ⟨b3,0,none⟩)) K))))))) fun _ w=>
 (DoX prog (mLoad 29 (.pointer (some ⟨b2,0,none⟩))) w (S_table_reader_section_p0 (.pointer (some ⟨b2,0,none⟩)) (.pointer (some ⟨b3,0,none⟩)) K) fun t77 w=>
 DoX prog (mStore 29 (.pointer (some ⟨b2,0,none⟩)) t77) w (S_table_reader_section_p0 (.pointer (some ⟨b2,0,none⟩)) (.pointer (some ⟨b3,0,none⟩)) K) fun _ w=>
 DoX prog (mStore 30 (.pointer (some ⟨b3,0,none⟩)) (.int .i64 0)) w (S_table_reader_section_p0 (.pointer (some ⟨b2,0,none⟩)) (.pointer (some ⟨b3,0,none⟩)) K) fun _ w=>
 Leave prog [.cell (.pointer (some ⟨b2,0,none⟩)) 29,.cell (.pointer (some ⟨b3,0,none⟩)) 30] K [{ target:=.fn (.func 42) #[],args:=#[(.pointer (some ⟨b3,0,none⟩))] }] .returning w)))))):=by
  intro q hq hno hyes;refine c_tmust (fun hqt=>?_) fun hqf=>?_
  rotate_left
  ·refine fall ho hvs rfl rfl (hno ?_);by_cases h1:e.2.2=0
   ·right;intro h2;rw[hq.2 ⟨h1,h2⟩] at hqf;cases hqf
   ·exact .inl h1
  obtain⟨hz,hk7⟩:=hq.1 hqt;have hyes:=hyes ⟨hz,hk7⟩;have hwt:=hwt hz;rw[fa_tr1];refine tr_put (a':=e.2.1) 3 ho rfl fun w2 ho=>?_;have ho:OwnS S0 w w2 (obE b5 e.1 xk xc::.cells b3 [.int .i64 0] 30::secE b2 ⟨a,l,Vl.ob0,0,0,0⟩ vs nilS nilS::trE b s e.2.1::.mem N::A):=ho;have ho:=ho.drew;refine⟨fun W=>(obE b5 e.1 xk xc).is W,ho.at_ 0 rfl,?_⟩;have ld:∀W,(obE b5 e.1 xk xc).is W→(mLoad 27 (.pointer (some ⟨b5,0,none⟩))).run prog W=.ok (.value (obV e.1 xk xc)) W:=fun W h=>run_load_at (AtV.agg aggOb (cs:=obC e.1 xk xc) rfl fun j u hj=>by rw[Nat.zero_add];exact cells_cell (T:=27) h hj);refine hd_do _ ld (hd_do _ ld (hd_do _ ld (hd_pure _ (fun _=>run_fa fse2) ?_)));refine c_tleads (k:=Tl.prevK) ho (OV.inw (ho.hasM 4 rfl) hov) hwt (fun p hp w3 ho=>⟨ho.at_ 0 rfl,?_⟩) fun hn w3 ho=>?_
  rotate_left
  ·rw[hn] at hyes;exact fun _ _ _ _ _ _=>fall ho hvs rfl rfl hyes
  refine c_tleads (k:=Tl.hybK) ho (OV.inw (ho.hasM 4 rfl) hov) hwt (fun h hh w4 ho=>⟨ho.at_ 0 rfl,?_⟩) fun hn w4 ho=>?_
  rotate_left
  ·rw[hp,hn] at hyes;exact fun _ _ _ _ _ _=>fall ho hvs rfl rfl hyes
  rw[hp,hh] at hyes;simp only at hyes;have hk1:=hx.keys.one;have hc1:=hx.kids.one;refine o_putAt 2 (T:=27) (off:=2) (new:=obC e.1 xk xc) ho rfl szOb (obC_one _ hk1 hc1) (show 2+6≤11 by omega) fun w5 ho=>⟨ho.at_ 0 rfl,?_⟩;have ho:OwnS S0 w w5 (obE b5 e.1 xk xc::.cells b3 [.int .i64 0] 30::secE b2 ⟨a,l,e.1,0,0,0⟩ vs xk xc::trE b s e.2.1::.mem N::A):=ho;refine hd_pure _ (fun _=>run_fa fse3) ?_;refine o_store 2 ho rfl (by kernel_rfl) rfl (show 8 < 11 by omega) fun w6 ho=>⟨ho.at_ 0 rfl,?_⟩;refine hd_pure _ (fun _=>run_fa fse4) ?_;refine o_store 2 ho rfl (by kernel_rfl) rfl (show 9 < 11 by omega) fun w7 ho=>?_;have ho:OwnS S0 w w7 (obE b5 e.1 xk xc::.cells b3 [.int .i64 0] 30::secE b2 ⟨a,l,e.1,p,h,0⟩ vs xk xc::trE b s e.2.1::.mem N::A):=ho;rw[se_v ho 2 rfl];refine se_put (y:=⟨a,l,e.1,p,h,0⟩) 2 hvs hk1 hc1 ho rfl fun w8 ho=>?_;refine o_store 1 ho rfl (by kernel_rfl) rfl (by simp) fun w9 ho=>?_;refine leave_fn (by simp) tface_plain (S_table_face_dok ?_);simp only[S_table_face,recV,recM,Eng.e_nil Tryz.underlying20,rs];have ho:OwnS S0 w w9 (obE b5 e.1 xk xc::.cells b3 [.int .i64 0] 30::secE b2 ⟨a,l,e.1,p,h,0⟩ vs xk xc::trE b s e.2.1::.mem N::A):=ho;have hr:=hread.trans hyes;refine ret_v2 (rv_cell (ho.agg 2 rfl aggSec)) (rv_cell (AtV.cell nErr5 (ho.cell 1 rfl 0 rfl))) (hK _ _ ⟨N,trE b s e.2.1,hle,fun _=>⟨_,rfl,?_,by rw[hr]⟩,fun hne=>absurd (by rw[hr]) hne,?_⟩)
  ·rw[hr];exact⟨vs,xk,xc,rfl,hsl,hov⟩
  ·have ho:=ho.tail.tail.tail.pair;subst hS;exact OwnS.back ho
 simp only[rs];by_cases hz:e.2.2=0
 case neg=>
  simp only[decide_eq_false hz,rs,g_un];exact fin (by simp[hz]) hf1 hf2
 simp only[decide_eq_true hz,rs,fa_o0,ob_k ho 0 rfl];by_cases hk:e.1.k=7
 ·simp only[decide_eq_true hk,rs];exact fin (by simp[hz,hk]) hf1 hf2
 ·simp only[decide_eq_false hk,rs];exact fin (by simp[hz,hk]) hf1 hf2
end
section
open Eng Go.RowKit
theorem tsection_ret (b:Nat)(s:List UInt8)(a:Int)(M:Mem)(w:World)(hs:s.length≤1000000000)(hmild:Tl.Mild s a)(hr:(Ent.two (trE b s a) (.mem M)).is w):Ret prog 21 #[rdP b] w (SecR b s a M w):=by
 refine ret_of fun K hK=>S_table_reader_section_ok ?_;unfold S_table_reader_section;have ho:OwnS (Ent.two (trE b s a) (.mem M)).blk w w [.two (trE b s a) (.mem M)]:=OwnS.lend hr;generalize hS:(Ent.two (trE b s a) (.mem M)).blk=S0 at ho;have ho:=ho.split;refine o_sea ho fun b2 w1 ho=>?_;refine o_new (fun b=>.pointer (some ⟨b,0,none⟩)) [.int .i64 0] 30 (fun _=>by kernel_rfl) ho fun b3 w2 ho=>?_;have ho:OwnS S0 w w2 [.cells b3 [.int .i64 0] 30,secE b2 Tl.sec0 nilS nilS nilS,trE b s a,.mem M]:=ho;rw[m_nil,fa_tr1];refine do_eq (tr_a (ho.at_ 2 rfl)) |>.mpr ?_;rw[fa_se0];refine o_store 1 ho rfl (by kernel_rfl) rfl (show 0 < 11 by omega) fun w3 ho=>?_;have ho:OwnS S0 w w3 [.cells b3 [.int .i64 0] 30,secE b2 ⟨a,[],Vl.ob0,0,0,0⟩ nilS nilS nilS,trE b s a,.mem M]:=ho;have hread:=Tl.read.eq_1 s a;refine quiet ?_;refine q_do _ (fun _=>run_nil) (q_do _ (fun _=>run_fa ftr0) (q_at _ (fun _ hb=>tr_s ((ho.grow hb).at_ 2 rfl)) ?_));refine q_do _ (fun _=>run_nil) (q_do _ (fun _=>run_fa ftr1) (q_at _ (fun _ hb=>tr_a ((ho.grow hb).at_ 2 rfl)) ?_));refine q_call (.bool (Tl.beginsX s a)) (fun W hb=>Ret.mono (begins_ret s [120,114,101,102] a W) fun v w' h=>⟨h.1,h.2▸hb⟩) ?_;intro w4 hb;have ho:=ho.grow hb;refine c_tmust (fun hbg=>?_) fun hbg=>?_
 rotate_left
 ·rw[if_pos hbg] at hread;exact sec_fail (A:=[]) hK hS ho rfl rfl rfl M.le_refl hread
 rw[if_neg (by rw[hbg];simp)] at hread;obtain⟨ha0,ha1,hskip⟩:=begins_skip hbg;refine c_lend ho 2 rfl (tnext_ret b s a w4 (by omega) (ho.at_ 2 rfl)) ?_ fun e2 w5 hn ho=>?_
 rotate_left
 ·have hw:Tl.word s a Tl.xrefW=none:=by unfold Tl.word;rw[if_neg fun h=>hn h.1]
  rw[hw] at hread;exact sec_fail (A:=[]) hK hS ho rfl rfl rfl M.le_refl hread
 rintro _ _ w5 e1 ⟨rfl,rfl⟩ ho;have hbd:=@Lx.next_bd s a e1;have hw:Tl.word s a Tl.xrefW=if (Lx.next s a).1.k=5∧(Lx.next s a).1.s=Tl.xrefW then some (Lx.next s a).1.t else none:=by
  unfold Tl.word;by_cases h:(Lx.next s a).1.k=5∧(Lx.next s a).1.s=Tl.xrefW
  ·rw[if_pos ⟨e1,h⟩,if_pos h]
  ·rw[if_neg (fun h'=>h h'.2),if_neg h]
 have hmild2:((Lx.next s a).1.k=5∧(Lx.next s a).1.s=Tl.xrefW)→∀r,Tl.slots s (s.length+1) (Lx.next s a).1.t []=some r→(Ps.object s r.2).2.2=0→(Ps.object s r.2).1.wt≤100000000000:=fun h r hr hz=>hmild _ r (by rw[hw,if_pos h]) hr hz;rw[hw] at hread;clear hw;generalize Lx.next s a=x at *
 refine o_tok ho fun b4 w6 ho=>?_;refine tk_put 0 ho rfl fun w7 ho=>?_;have ho:OwnS S0 w w7 [tokE b4 x.1,.cells b3 [.int .i64 0] 30,secE b2 ⟨a,[],Vl.ob0,0,0,0⟩ nilS nilS nilS,trE b s x.1.t,.mem M]:=ho;by_cases hx:x.1.k=5∧x.1.s=Tl.xrefW
 case neg=>
  rw[if_neg hx] at hread;have hf:=sec_fail (A:=[tokE b4 x.1]) hK hS ho rfl rfl rfl M.le_refl hread;by_cases k5:x.1.k=5
  ·have hs5:¬x.1.s=[120,114,101,102]:=fun h=>hx ⟨k5,h⟩;simp only[rs,fa_t0,tk_k ho 0 rfl,decide_eq_true k5,fa_t4',tk_s ho 0 rfl,decide_eq_false hs5,g_un];exact c_tmust (fun h=>by cases h) fun _=>hf
  ·simp only[rs,fa_t0,tk_k ho 0 rfl,decide_eq_false k5,g_un];exact c_tmust (fun h=>by cases h) fun _=>hf
 rw[if_pos hx] at hread;simp only at hread;have hbd:=hbd (by rw[hx.1];decide);have hat:x.1.a=a:=by rw[hbd.2.2.1,hskip];omega
 have hs5:x.1.s=[120,114,101,102]:=hx.2;simp only[rs,fa_t0,tk_k ho 0 rfl,decide_eq_true hx.1,fa_t4',tk_s ho 0 rfl,decide_eq_true hs5,fa_t1,tk_a ho 0 rfl,fa_se0,se_at ho 2 rfl,decide_eq_true hat];refine c_tmust (fun _=>?_) fun h=>by cases h
 refine c_lend ho 3 rfl (tslots_ret b s x.1.t w7 (by omega) (by omega) hbd.2.2.2.2 (ho.at_ 3 rfl)) ?_ fun e2 w8 hn ho=>?_
 rotate_left
 ·rw[Classical.not_not.1 hn] at hread;exact sec_fail (A:=[tokE b4 x.1]) hK hS ho rfl rfl rfl M.le_refl hread
 rintro v _ w8 _ ⟨l,t,hsl,hrise,hlen,rfl⟩ ho;have hslots:=hsl;have hmild2:=hmild2 hx;rw[hsl] at hread;simp only at hread;have hv1:=urow_one (ho.at_ 3 rfl).2.1;rw[fa_se1];refine o_store 2 ho rfl (by kernel_rfl) hv1 (show 1 < 11 by omega) fun w9 ho=>?_;have ho:OwnS S0 w w9 ([tokE b4 x.1,.cells b3 [.int .i64 0] 30,secE b2 ⟨a,l,Vl.ob0,0,0,0⟩ v nilS nilS]++([.two (trE b s t) (slsE v l)]++[.mem M])):=ho;have ho:=ho.front.split;have ho:OwnS S0 w w9 ([trE b s t]++([slsE v l]++[tokE b4 x.1,.cells b3 [.int .i64 0] 30,secE b2 ⟨a,l,Vl.ob0,0,0,0⟩ v nilS nilS,.mem M])):=ho;have ho:=ho.front;obtain⟨N,hle,hrow,ho⟩:=OwnS.freezeU (L:=[trE b s t,tokE b4 x.1,.cells b3 [.int .i64 0] 30,secE b2 ⟨a,l,Vl.ob0,0,0,0⟩ v nilS nilS,.mem M]) ho 4 rfl;have ho:OwnS S0 w w9 ([trE b s t]++([tokE b4 x.1,.cells b3 [.int .i64 0] 30,secE b2 ⟨a,l,Vl.ob0,0,0,0⟩ v nilS nilS]++[.mem N])):=ho;have ho:=ho.front;have ho:OwnS S0 w w9 [tokE b4 x.1,.cells b3 [.int .i64 0] 30,secE b2 ⟨a,l,Vl.ob0,0,0,0⟩ v nilS nilS,trE b s t,.mem N]:=ho;have ho:=ho.drew;refine⟨fun W=>(trE b s t).is W,ho.at_ 3 rfl,?_⟩;refine hd_pure _ (fun _=>run_nil) (hd_pure _ (fun _=>run_fa ftr0) (hd_do _ (fun W h=>tr_s h) ?_));refine hd_pure _ (fun _=>run_nil) (hd_pure _ (fun _=>run_fa ftr1) (hd_do _ (fun W h=>tr_a h) ?_));refine⟨?_,?_⟩
 ·refine c_mem ho 4 rfl (psobject_ret s t (by omega) N _ (ho.hasM 4 rfl)) ?_;rintro _ N2 w10 hle2 ⟨u,rfl,hu⟩ ho;obtain⟨xk,xc,xcs,rfl,hx⟩:=hu.open;refine hd_pure (obV (Ps.object s t).1 xk xc) (fun _=>rfl) (hd_pure (.int .i64 (Ps.object s t).2.1) (fun _=>rfl) (hd_pure (.int .i64 (Ps.object s t).2.2) (fun _=>rfl) ?_));refine o_oba ho fun b5 w11 ho=>⟨ho.at_ 4 rfl,?_⟩;refine ob_put 0 hx.keys.one hx.kids.one ho rfl fun w12 ho=>?_;exact tsection_0 (A:=[tokE b4 x.1]) (hmild2 (l,t) hslots) hK hS hx.ov (hrow.le hle2) (hle.trans hle2) hread ho
 ·refine o_oba ho fun b5 w10 ho=>⟨ho.at_ 4 rfl,?_⟩;refine c_mem ho 5 rfl (psobject_ret s t (by omega) N _ (ho.hasM 5 rfl)) ?_;rintro _ N2 w11 hle2 ⟨u,rfl,hu⟩ ho;obtain⟨xk,xc,xcs,rfl,hx⟩:=hu.open;refine hd_pure (obV (Ps.object s t).1 xk xc) (fun _=>rfl) (hd_pure (.int .i64 (Ps.object s t).2.1) (fun _=>rfl) (hd_pure (.int .i64 (Ps.object s t).2.2) (fun _=>rfl) ?_));refine ob_put 0 hx.keys.one hx.kids.one ho rfl fun w12 ho=>?_;exact tsection_0 (A:=[tokE b4 x.1]) (hmild2 (l,t) hslots) hK hS hx.ov (hrow.le hle2) (hle.trans hle2) hread ho
end
section
open Eng Go.RowKit
def secR (r:Sec×Int×Int)(v:Value)(N:Mem):Prop:=∃xv,v=.tuple #[xv,.int .i64 r.2.1,.int .i64 r.2.2]∧SecV N xv r.1
theorem sec0_v {N:Mem}:SecV N (secV Tl.sec0 nilS nilS nilS) Tl.sec0:=⟨nilS,nilS,nilS,rfl,SlA.nil _ _ _ _,ob0_ov2⟩
theorem tread_mild (s:List UInt8)(a:Int)(M:Mem)(w:World)(hs:s.length≤1000000000)(hmild:Tl.Mild s a)(hM:M.has w):RetM prog 8 #[.string ⟨s.toArray⟩,.int .i64 a] M w (secR (Tl.read s a)):=by
 refine retM_of hM fun K hK=>S_table_Read_ok ?_;unfold S_table_Read;refine o_sea (OwnS.memS hM) fun b4 w1 ho=>?_;have hb1:∀{PK:PKT} {K:VWP},DoX prog (mBuild 53 #[(0,.string ⟨s.toArray⟩),(1,.int .i64 a)]) w1 PK K=K (.agg (rdC s a).toArray) w1:=do_eq (by kernel_rfl);rw[hb1];refine o_new (fun b=>.pointer (some ⟨b,0,none⟩)) (rdC s a) 53 (fun _=>by kernel_rfl) ho fun b13 w2 ho=>?_;have ho:OwnS M.A w w2 ([trE b13 s a]++([.mem M]++[secE b4 Tl.sec0 nilS nilS nilS])):=ho.perm (List.Perm.append_left [trE b13 s a] (List.Perm.swap _ _ _));have ho:=ho.pair;refine c_ret (tsection_ret b13 s a M w2 hs hmild (ho.at_ 0 rfl)) ?_;rintro v w3 ⟨N,e2,hle,hgood,hbad,ht⟩;have ho:=(ho.turn 0 rfl ht).split;have ho:OwnS M.A w w3 [e2,.mem N,secE b4 Tl.sec0 nilS nilS nilS]:=ho;by_cases hz:(Tl.read s a).2.2=0
 case neg=>
  obtain⟨hr,x,vs,vk,vc,rfl,h1,h2,h3⟩:=hbad hz;simp only[ex];refine o_sea ho fun b8 w4 ho=>?_;refine se_put (y:=x) 0 h1 h2 h3 ho rfl fun w5 ho=>?_;simp only[rs,show decide ((19:Int)≠0)=true by decide];rw[m_se0];refine se_put (y:=Tl.sec0) 3 rfl rfl rfl ho rfl fun w6 ho=>?_;refine ret_v3 (rv_cell (ho.agg 3 rfl aggSec)) rv_val rv_val (hK _ _ N _ 2 ho rfl hle ?_);rw[hr];exact⟨_,rfl,sec0_v⟩
 obtain⟨xv,rfl,⟨vs,vk,vc,rfl,hsl,hov⟩,rfl⟩:=hgood hz;simp only[ex];refine o_sea ho fun b8 w4 ho=>?_;refine se_put (y:=(Tl.read s a).1) 0 hsl.one hov.oneK hov.oneC ho rfl fun w5 ho=>?_;have ho:OwnS M.A w w5 [secE b8 (Tl.read s a).1 vs vk vc,trE b13 s (Tl.read s a).2.1,.mem N,secE b4 Tl.sec0 nilS nilS nilS]:=ho;simp only[rs,show decide ((0:Int)≠0)=false by decide];have ho:=ho.drew;refine⟨fun W=>(secE b8 (Tl.read s a).1 vs vk vc).is W∧(trE b13 s (Tl.read s a).2.1).is W,⟨ho.at_ 0 rfl,ho.at_ 1 rfl⟩,?_⟩;refine hd_do (secV (Tl.read s a).1 vs vk vc) (fun W h=>run_load_at (AtV.agg aggSec (cs:=secC (Tl.read s a).1 vs vk vc) rfl fun j u hj=>by rw[Nat.zero_add];exact cells_cell (T:=29) h.1 hj)) ?_;refine hd_pure _ (fun _=>run_nil) (hd_pure _ (fun _=>run_fa ftr1) (hd_do _ (fun W h=>tr_a h.2) ?_));refine se_put (y:=(Tl.read s a).1) 3 hsl.one hov.oneK hov.oneC ho rfl fun w6 ho=>⟨⟨ho.at_ 0 rfl,ho.at_ 1 rfl⟩,?_⟩;refine ret_v3 (rv_cell (ho.agg 3 rfl aggSec)) rv_val rv_val (hK _ _ N _ 2 ho rfl hle ?_);exact⟨_,by rw[hz];rfl,vs,vk,vc,rfl,hsl,hov⟩
theorem tread_ret (s:List UInt8)(a:Int)(M:Mem)(w:World)(hs:s.length≤1000000)(hM:M.has w):RetM prog 8 #[.string ⟨s.toArray⟩,.int .i64 a] M w (secR (Tl.read s a)):=tread_mild s a M w (by omega) (Tl.mild_of a hs) hM
end
section
open Eng Go.RowKit
theorem rread_4 {b4 b7:Nat}{s:List UInt8}{a t:Int}{M N:Mem}{w W:World}{K:Ending→World→Prop}{l:List Slt}{vs:Value}{R:Sec×Int×Int}{ok:Bool}(hs:s.length≤1000000)
  (hK:∀(v:Value) (w':World) (N:Mem) (L:List Ent) (i:Nat),OwnS M.A w w' L→L[i]?=some (.mem N)→M.le N→secR R v N→K (.returned v) w') (hle:M.le N) (hno:ok=false→R=Tl.bad) (hyes:ok=true→R=Tl.finish s a l t)
  (ho:OwnS M.A w W [slsE vs l,secE b7 ⟨a,l,Vl.ob0,0,0,0⟩ vs nilS nilS,secE b4 Tl.sec0 nilS nilS nilS,.mem N]) :
  S_foliantref18_Read_4 (.string ⟨s.toArray⟩) (.pointer (some ⟨b4,0,none⟩)) (.pointer (some ⟨b7,0,none⟩)) (.int .i64 t) (.bool ok) W K:=by
 unfold S_foliantref18_Read_4;have hvs:=urow_one (ho.at_ 0 rfl);obtain⟨N1,hle1,hrow,ho⟩:=OwnS.freezeU (L:=[secE b7 ⟨a,l,Vl.ob0,0,0,0⟩ vs nilS nilS,secE b4 Tl.sec0 nilS nilS nilS,.mem N]) ho 2 rfl;have ho:OwnS M.A w W [secE b7 ⟨a,l,Vl.ob0,0,0,0⟩ vs nilS nilS,secE b4 Tl.sec0 nilS nilS nilS,.mem N1]:=ho;have fail:∀{W:World} {L:List Ent} {N':Mem} {x:Sec} {vs vk vc:Value} (i j:Nat),OwnS M.A w W L→L[i]?=some (secE b4 x vs vk vc)→L[j]?=some (.mem N')→(∀y,(L.set i y)[j]?=some (.mem N'))→M.le N'→R=Tl.bad →
   DoX prog (mBuild 29 #[]) W (pk K) fun t88 w=>DoX prog (mStore 29 (.pointer (some ⟨b4,0,none⟩)) t88) w (pk K) fun _ w=>RetX prog [.cell (.pointer (some ⟨b4,0,none⟩)) 29,.val (.int .i64 0),.val (.int .i64 19)] w K:=by
  intro W L N' x vs vk vc i j ho hi hj hset hle hr;rw[m_se0];have hil:i < L.length:=(List.getElem?_eq_some_iff.1 hi).1;refine se_put (y:=Tl.sec0) i rfl rfl rfl ho hi fun w6 ho=>?_;have hi2:(L.set i (secE b4 Tl.sec0 nilS nilS nilS))[i]?=some (secE b4 Tl.sec0 nilS nilS nilS):=by simp[hil]
  refine ret_v3 (rv_cell (ho.agg i hi2 aggSec)) rv_val rv_val (hK _ _ N' _ j ho (hset _) hle ?_);rw[hr];exact⟨_,rfl,sec0_v⟩
 cases ok with
|false=>
  simp only[rs,Bool.not_false];exact fail 1 2 ho rfl rfl (fun _=>rfl) (hle.trans hle1) (hno rfl)
|true=>
 have hyes:=hyes rfl;simp only[rs,Bool.not_true];refine c_mem ho 2 rfl (rObject06_ret s t (by omega) N1 W (ho.hasM 2 rfl)) ?_;rintro _ N2 w2 hle2 ⟨u,rfl,hu⟩ ho;have hwt:(Ps.object s t).2.2=0→(Ps.object s t).1.wt≤100000000000:=by
  intro h;unfold Ps.object at h ⊢;split at h
  ·simp[Ps.bad] at h
  ·rename_i hb
   rw[if_neg hb];have h1:=Ps.obj_wt s 24 t h;have h2:=Ps.obj_bd h;omega
 have hf1:(Ps.object s t).2.2≠0∨(Ps.object s t).1.k≠7→Tl.finish s a l t=Tl.bad:=fun h=>by rw[Tl.finish,if_pos h]
 have hf2:(Ps.object s t).2.2=0∧(Ps.object s t).1.k=7→Tl.finish s a l t=match Tl.leads (Ps.object s t).1 Tl.prevK,Tl.leads (Ps.object s t).1 Tl.hybK with
  |some p,some h=>(⟨a,l,(Ps.object s t).1,p,h,0⟩,(Ps.object s t).2.1,0)
  |_,_=>Tl.bad:=fun h=>by
  rw[Tl.finish,if_neg (by simp[h.1,h.2])]
  all_goals (cases Tl.leads (Ps.object s t).1 Tl.prevK<;>cases Tl.leads (Ps.object s t).1 Tl.hybK<;>rfl)
 generalize Ps.object s t=e at *;obtain⟨xk,xc,xcs,rfl,hx⟩:=hu.open;simp only[ex];refine o_oba ho fun b16 w3 ho=>?_;refine ob_put 0 hx.keys.one hx.kids.one ho rfl fun w4 ho=>?_;have ho:OwnS M.A w w4 [obE b16 e.1 xk xc,secE b7 ⟨a,l,Vl.ob0,0,0,0⟩ vs nilS nilS,secE b4 Tl.sec0 nilS nilS nilS,.mem N2]:=ho;have hle':=(hle.trans hle1).trans hle2;by_cases hz:e.2.2=0
 case neg=>
  simp only[rs,hz,ne_eq,not_false_eq_true,decide_true,g_un];exact fail 2 3 ho rfl rfl (fun _=>rfl) hle' (hyes.trans (hf1 (.inl hz)))
 by_cases hk:e.1.k=7
 case neg=>
  simp only[rs,hz,ne_eq,not_true,decide_false,fa_o0,ob_k ho 0 rfl,hk,not_false_eq_true,decide_true];exact fail 2 3 ho rfl rfl (fun _=>rfl) hle' (hyes.trans (hf1 (.inr hk)))
 simp only[rs,hz,ne_eq,not_true,decide_false,fa_o0,ob_k ho 0 rfl,hk];have hyes:=hyes.trans (hf2 ⟨hz,hk⟩);have hwt:=hwt hz;have hk1:=hx.keys.one;have hc1:=hx.kids.one;rw[ob_v ho 0 rfl,fa_se2];refine o_putAt 1 (T:=27) (off:=2) (new:=obC e.1 xk xc) ho rfl szOb (obC_one _ hk1 hc1) (show 2+6≤11 by omega) fun w5 ho=>?_;have ho:OwnS M.A w w5 [obE b16 e.1 xk xc,secE b7 ⟨a,l,e.1,0,0,0⟩ vs xk xc,secE b4 Tl.sec0 nilS nilS nilS,.mem N2]:=ho;rw[ob_v ho 0 rfl];refine c_below ho (R:=fun v=>∃n,v=.tuple #[.int .i64 n,.bool (Tl.leads e.1 Tl.prevK).isSome]∧∀m,Tl.leads e.1 Tl.prevK=some m→m=n) (rleads_ret e.1 _ Tl.prevK w5 hwt (OV.inw (ho.hasM 3 rfl) hx.ov)) ?_;rintro _ w6 ⟨p,rfl,hp⟩ ho;simp only[ex];rw[fa_se3];refine o_store 1 ho rfl (by kernel_rfl) rfl (show 8 < 11 by omega) fun w7 ho=>?_;have ho:OwnS M.A w w7 [obE b16 e.1 xk xc,secE b7 ⟨a,l,e.1,p,0,0⟩ vs xk xc,secE b4 Tl.sec0 nilS nilS nilS,.mem N2]:=ho;rw[ob_v ho 0 rfl];refine c_below ho (R:=fun v=>∃n,v=.tuple #[.int .i64 n,.bool (Tl.leads e.1 Tl.hybK).isSome]∧∀m,Tl.leads e.1 Tl.hybK=some m→m=n) (rleads_ret e.1 _ Tl.hybK w7 hwt (OV.inw (ho.hasM 3 rfl) hx.ov)) ?_;rintro _ w8 ⟨h,rfl,hh⟩ ho;simp only[ex];rw[fa_se4];refine o_store 1 ho rfl (by kernel_rfl) rfl (show 9 < 11 by omega) fun w9 ho=>?_;have ho:OwnS M.A w w9 [obE b16 e.1 xk xc,secE b7 ⟨a,l,e.1,p,h,0⟩ vs xk xc,secE b4 Tl.sec0 nilS nilS nilS,.mem N2]:=ho;cases c1:Tl.leads e.1 Tl.prevK with
|none=>
  rw[c1] at hyes;simp only[Option.isSome_none,rs,Bool.not_false,g_un];exact fail 2 3 ho rfl rfl (fun _=>rfl) hle' hyes
|some p'=>
 have:=hp p' c1;subst this;cases c2:Tl.leads e.1 Tl.hybK with
|none=>
  rw[c1,c2] at hyes;simp only[Option.isSome_some,Option.isSome_none,rs,Bool.not_true,Bool.not_false,g_un];exact fail 2 3 ho rfl rfl (fun _=>rfl) hle' hyes
|some h'=>
 have:=hh h' c2;subst this;rw[c1,c2] at hyes;simp only at hyes;simp only[Option.isSome_some,rs,Bool.not_true,g_un];rw[se_v ho 1 rfl];refine se_put (y:=⟨a,l,e.1,p',h',0⟩) 2 hvs hk1 hc1 ho rfl fun w10 ho=>?_;refine ret_v3 (rv_cell (ho.agg 2 rfl aggSec)) rv_val rv_val (hK _ _ N2 _ 3 ho rfl hle' ?_);rw[hyes];exact⟨_,rfl,vs,xk,xc,rfl,hrow.le hle2,hx.ov⟩
end
end Go.Proofs.YtjloddgofmdmgaaGreatDoor
