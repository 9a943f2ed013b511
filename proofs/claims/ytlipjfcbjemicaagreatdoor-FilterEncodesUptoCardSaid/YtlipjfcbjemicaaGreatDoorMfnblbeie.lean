/- Parts of the proof. -/
import Derived.StillTail
import Derived.Deep.Quiet
import Derived.OrdersHeld
import Derived.WalkKit
import Derived.Recover
import Derived.TacticsIn
import Derived.OrdersIn
import Derived.RangeFuncLeaves
import Derived.WalkLawsBesides
import Derived.IntWalk
import Derived.Lib.Strings
import Derived.Laws.OwnMore
import Derived.Laws.MakeOwn
import Derived.Lib.FrozenHead2
import Derived.ProofKit
import Derived.OpenShut
import Derived.Carry
import Derived.ChangeSlices
import Derived.Deep.DeepHandedRow
import Derived.Lib.LaidTab
import Derived.Lib.SlTrimSet
import Derived.Lib.TrimByte
import GoSem.Op.String
import Derived.Lib.ItoaNum
import Derived.Lib.ItoaLen
import Derived.Lib.IndexEntry
import Derived.Laws.RangeString
import Derived.Laws.BytesArg
set_option linter.all false
set_option maxRecDepth 20000
open Option renaming some->ax,none->aw
open Bool renaming true->av,false->au
open Go renaming Value->aq,World->ao
open Decidable renaming decide->ai
namespace Go.Proofs
abbrev asT:=@if_neg
abbrev asU:=@if_pos
abbrev asW:=@decide_false
abbrev asX:=@decide_true
abbrev asY:=@List.length_append
abbrev asZ:=@decide_eq_false
abbrev atA:=@decide_eq_true
abbrev atC:=@Int.toNat_natCast
abbrev atD:=@List.getD_eq_getElem?_getD
abbrev atE:=@Nat.le_refl
abbrev atF:=@List.length_take
abbrev atG:=@List.length_drop
abbrev atI:=@List.getElem?_eq_getElem
abbrev atJ:=@List.append_assoc
abbrev atK:=@Nat.zero_add
abbrev atL:=@List.mem_cons
abbrev atP:=@List.getElem_mem
abbrev atQ:=@of_decide_eq_true
abbrev atT:=@List.getElem?_eq_some_iff
abbrev atU:=@Nat.zero_le
abbrev atV:=@List.length_map
abbrev atW:=@List.length_cons
abbrev atX:=@List.append_nil
abbrev atY:=@Nat.mul_one
abbrev atZ:=@Bool.and_eq_true
abbrev auB:=@List.mem_singleton
abbrev auC:=@Nat.lt_or_ge
abbrev auD:=@List.take_succ_eq_append_getElem
abbrev auE:=@List.mem_cons_of_mem
abbrev auF:=@List.mem_append
abbrev auG:=@List.take_of_length_le
abbrev auH:=@List.mem_map
abbrev auI:=@List.nil_append
abbrev auJ:=@List.map_append
abbrev auK:=@List.length_replicate
abbrev auL:=@List.drop_eq_getElem_cons
abbrev auM:=@Nat.min_eq_left
abbrev auN:=@Bool.not_false
abbrev auO:=@Bool.not_true
abbrev auP:=@decide_eq_true_eq
abbrev auR:=@List.take_append_drop
abbrev auS:=@of_decide_eq_false
abbrev auT:=@List.getElem?_cons_succ
abbrev auU:=@Nat.add_zero
abbrev auV:=@List.mem_cons_self
abbrev auW:=@List.drop_eq_nil_of_le
abbrev auX:=@List.drop_zero
abbrev auY:=@Nat.mul_le_mul_right
abbrev auZ:=@List.take_length
abbrev avA:=@List.length_singleton
abbrev avB:=@List.any_eq_true
abbrev avC:=@List.map_cons
abbrev avD:=@not_false_eq_true
abbrev avE:=@List.flatMap_cons
abbrev avF:=@Nat.mod_eq_of_lt
abbrev avG:=@List.mem_range
abbrev avH:=@Nat.le_trans
abbrev avI:=@UInt8.toNat_lt
abbrev avJ:=@List.getElem?_eq_none
abbrev avK:=@List.getElem?_append_left
abbrev avL:=@decide_eq_false_iff_not
abbrev avM:=@Option.map_eq_some_iff
abbrev avN:=@List.set_cons_zero
abbrev avO:=@List.not_mem_nil
abbrev avP:=@Nat.pow_le_pow_right
abbrev avQ:=@List.mem_of_mem_take
abbrev avR:=@Nat.lt_of_lt_of_le
abbrev avS:=@List.length_set
abbrev avT:=@List.pairwise_cons
abbrev avU:=@List.getElem?_append_right
abbrev avV:=@Nat.sub_self
abbrev avW:=@List.take_left'
abbrev avY:=@List.all_eq_true
abbrev avZ:=@List.getElem?_take
abbrev awA:=@Nat.add_mul
abbrev awB:=@Nat.eq_zero_or_pos
abbrev awC:=@Nat.mod_lt
abbrev awD:=@Nat.pow_succ
abbrev awF:=@List.eq_of_mem_replicate
abbrev awH:=@Nat.div_div_eq_div_mul
abbrev awI:=@List.length_nil
abbrev awJ:=@List.getElem?_drop
abbrev awK:=@List.getElem_of_mem
abbrev awL:=@List.length_pos_iff
abbrev awM:=@Nat.succ_mul
abbrev awN:=@Nat.mul_comm
abbrev awO:=@List.length_eq_zero_iff
abbrev awP:=@Nat.add_assoc
abbrev awQ:=@List.take_zero
abbrev awR:=@Nat.zero_mul
abbrev awS:=@List.drop_drop
abbrev awT:=@Option.some.inj
abbrev awU:=@List.getElem?_set_self
abbrev awV:=@List.mem_of_getElem?
abbrev awW:=@Option.getD_some
abbrev awX:=@Nat.mul_le_mul
abbrev awY:=@Bool.not_eq_true'
abbrev awZ:=@List.mem_of_mem_drop
abbrev axA:=@List.sum_cons
abbrev axB:=@List.map_map
abbrev axC:=@Option.some.injEq
abbrev axD:=@Nat.div_le_self
abbrev axE:=@List.Sublist.refl
abbrev axF:=@List.cons_append
abbrev axG:=@List.map_nil
abbrev axH:=@Prod.mk.injEq
abbrev axI:=@Bool.false_eq_true
abbrev axJ:=@List.set_append_right
abbrev axK:=@List.getElem?_map
abbrev axL:=@List.eq_nil_of_length_eq_zero
abbrev axN:=@UInt8.toNat_ofNat'
abbrev axO:=@List.pairwise_append
abbrev axP:=@List.drop_append
abbrev axQ:=@Nat.add_sub_cancel
abbrev axR:=@List.count_append
abbrev axS:=@Bool.or_eq_true
abbrev axT:=@Nat.add_comm
abbrev axU:=@Array.getElem?_setIfInBounds_ne
abbrev axV:=@Bool.true_and
abbrev axW:=@List.getElem?_cons_zero
abbrev axX:=@List.pairwise_iff_getElem
abbrev axY:=@List.map_congr_left
abbrev axZ:=@List.take_take
abbrev ayA:=@List.drop_succ_cons
abbrev ayB:=@List.take_succ_cons
abbrev ayC:=@Bool.and_assoc
abbrev ayD:=@Bool.decide_and
abbrev ayE:=@List.range_succ
abbrev ayF:=@List.Perm.refl
abbrev ayG:=@Nat.lt_irrefl
abbrev ayH:=@List.length_eq_one_iff
abbrev ayI:=@Option.bind_eq_some_iff
abbrev ayJ:=@List.cons.injEq
abbrev ayK:=@List.mem_flatMap
abbrev ayL:=@Classical.not_not
abbrev ayM:=@Bool.or_false
abbrev ayN:=@List.count_le_length
abbrev ayO:=@Option.map_some
abbrev ayP:=@UInt8.toNat_inj
abbrev ayQ:=@Bool.and_eq_false_iff
abbrev ayR:=@List.drop_of_length_le
abbrev ayS:=@List.sum_append
abbrev ayT:=@Option.isSome_none
abbrev ayU:=@Nat.one_mul
abbrev ayV:=@Nat.mul_assoc
abbrev ayW:=@List.set_set
abbrev ayX:=@List.map_set
abbrev ayY:=@List.map_take
abbrev ayZ:=@List.flatMap_append
abbrev azA:=@List.filter_cons
abbrev azB:=@Nat.not_lt_zero
abbrev azC:=@Array.getElem?_eq_some_iff
abbrev azD:=@Array.mem_of_getElem?
abbrev azE:=@Nat.sub_zero
abbrev azF:=@Bool.false_or
abbrev azG:=@List.getElem_set
abbrev azJ:=@List.perm_append_comm
abbrev azK:=@Nat.add_sub_cancel_left
abbrev azL:=@Nat.mul_sub_right_distrib
abbrev azM:=@Option.isSome_some
abbrev azN:=@Bool.false_and
abbrev azO:=@List.drop_nil
abbrev azP:=@List.getElem_take
abbrev azQ:=@List.getElem?_set_ne
abbrev azR:=@List.replicate_succ
abbrev azS:=@List.getElem?_replicate
abbrev azT:=@List.mem_or_eq_of_mem_set
abbrev azU:=@List.flatMap_singleton
abbrev azV:=@List.nodup_cons
abbrev azW:=@Nat.eq_of_beq_eq_true
abbrev azX:=@Array.empty_append
abbrev azY:=@Array.append_empty
abbrev azZ:=@List.all_cons
abbrev aAb:=@List.getElem_cons_zero
abbrev aAc:=@List.takeWhile_cons
abbrev aAd:=@List.getElem_cons_succ
abbrev aAe:=@Bool.and_false
abbrev aAf:=@Bool.not_not
abbrev aAg:=@List.count_singleton
abbrev aAh:=@List.getElem_map
abbrev aAi:=@Nat.two_pow_pos
abbrev aAk:=@Option.isNone_none
abbrev aAl:=@Option.isNone_some
abbrev aAm:=@Array.getElem?_modify
abbrev aAn:=@List.take_append
abbrev aAo:=@List.take_append_of_le_length
abbrev aAp:=@Bool.and_true
abbrev aAq:=@Bool.eq_iff_iff
abbrev aAr:=@Int.tdiv_eq_ediv_of_nonneg
abbrev aAs:=@List.take_sublist
abbrev aAt:=@List.length_filter_le
abbrev aAu:=@List.length_range
abbrev aAv:=@List.filter_append
abbrev aAw:=@List.mem_singleton_self
abbrev aAA:=@Array.setIfInBounds_comm
abbrev aAB:=@Array.getD_eq_getD_getElem?
abbrev aAC:=@Array.ext_getElem?
abbrev aAD:=@Array.toArray_toList
abbrev aAE:=@List.getElem?_toArray
abbrev aAF:=@Array.getElem?_setIfInBounds_self_of_lt
abbrev aAI:=@Int.fdiv_eq_ediv_of_nonneg
abbrev aAJ:=@List.find?_eq_none
abbrev aAK:=@List.idxOf_lt_length_iff
abbrev aAL:=@Int.tmod_eq_emod_of_nonneg
abbrev aAM:=@List.getElem_append_right
abbrev aAN:=@Nat.two_pow_add_eq_or_of_lt
abbrev aAO:=@List.getElem_replicate
abbrev aAP:=@Nat.dvd_of_mod_eq_zero
abbrev aAQ:=@Nat.mod_eq_sub_mod
abbrev aAR:=@List.replicate_succ'
abbrev aAS:=@List.perm_cons_erase
abbrev aAT:=@List.count_replicate
abbrev aAU:=@List.length_dropLast
abbrev aAW:=@Nat.le_of_ble_eq_true
abbrev aAX:=@List.set_eq_take_append_cons_drop
end Go.Proofs
namespace Go.Proofs
theorem om{p:Prop}(h:p:=by omega):p:=h
theorem dc{p:Prop}(h:p:=by decide):p:=h
theorem sm{p:Prop}(h:p:=by simp):p:=h
theorem krx{p:Prop}(h:p:=by kernel_rfl):p:=h
end Go.Proofs
namespace Go.Proofs.YtlipjfcbjemicaaGreatDoor
abbrev ae(s:List UInt8):Go.Value:=.string ⟨s.toArray⟩
abbrev af(b o:Nat):Go.Value:=.pointer (.some ⟨b,o,.none⟩)
abbrev bR(b o n c:Nat):Go.Value:=.slice (.some ⟨b,o,.none⟩) n c
abbrev ad(n:Int):Go.Value:=.int .i64 n
abbrev PKT:=List PanicEntry->ao->Prop
abbrev VWP:=aq->ao->Prop
variable{B l:List Nat}{C:ao->Prop}{D T1 T2 U:TypeId}{H α β:Type}{K:VWP}{L0:Loop}{P:Program}{PK:PKT}{Q Q':Exit->Act->ao->Prop}{R:Ending->FrameMode->ao->Prop}{S:Nat->Prop}{a hi lo:Int}{aj:List (Nat×List Nat)}{args:Array aq}{b cap d f i id j sz:Nat}{c v v1:aq}{cb:Array Bool}{cs:List aq}{ds:List Deferred}{fn:Func}{k':IntKind}{ops:Array Oper}{ro:Option Nat}{u:FrameMode}{w w' w0:ao}{want:Bool}{xo yo:Operand}
section
namespace Eng
section
variable {P:Program}{ops:Array Oper}{md:Region.Mode}{C:ao->Prop}
def XA (md:Region.Mode)(ops:Array Oper)(n:Nat)(ms:List Nat):Bool:=
 (List.range n).all λi=>ms.contains i||(List.range (n+1)).any λj=>ai (i < j)&&Region.waitsFor md ops j i
structure Nb (md:Region.Mode) (ops:Array Oper) (n:Nat) (ms:List Nat) (listed:Array Bool):Prop where
 head:HeadInv md ops n listed
 moves:∀m∈ms,listed.getD m au=av
theorem Nb.set {n i:Nat}{ms:List Nat}{listed:Array Bool}(inv:Nb md ops n ms listed)(hi:i∈Region.ready md ops listed)(a:i < n):Nb md ops n ms (listed.setIfInBounds i av):=
 ⟨inv.head.set hi a,λm hm=>getD_set_true (inv.moves m hm)⟩
theorem JX {n:Nat}{ms:List Nat}{listed:Array Bool}(A:XA md ops n ms=av)(B:Region.chainB md ops n=av)(E:n < ops.size)(inv:Nb md ops n ms listed) :
  ∀(d i:Nat),n - i=d->i < n->listed.getD i av=au->∀t,n<=t->t ∉ Region.ready md ops listed:=by
 intro d
 induction d using Nat.strongRecOn with
|_ d C=>
  intro i hd hi f t F v;obtain⟨_,w,g,b⟩:=mem_ready.1 v;have k:t < ops.size:=(azC.1 g).1;by_cases q:t=n
  ·subst q;have o:=avY.1 A i (avG.2 hi);simp only[axS] at o;rcases o with o|h
   ·have:=inv.moves i (by simpa using o);rw[getD_both f] at this;cases this
   obtain⟨j,D,l⟩:=avB.1 h;simp only[atZ,auP] at l;obtain⟨x,m,e,he,p,a⟩:=Region.waitsFor_spec l.2;have y:j<=t:=by have:=avG.1 D;omega
   by_cases r:j=t
   ·subst r;have:x=w:=awT (m.symm.trans g);subst this;have c:=b e he p;rw[a,getD_both f] at c;cases c
   ·cases z:listed.getD j au with
   |true=>
     have c:=inv.head.closed j x m z e he p;rw[a,getD_both f] at c;cases c
   |false=>
     have s:j < listed.size:=by rw[inv.head.size];omega
     exact C (t - j) om j rfl om (getD_in s z) t (atE _) v
  ·have h:=avY.1 B t (avG.2 k);simp only[axS,auP] at h;rcases h with h|h
   ·omega
   ·obtain⟨o',u,e,he,p,a⟩:=Region.waitsFor_spec h;have:o'=w:=awT (u.symm.trans g);subst this;have c:=b e he p;rw[a,getD_both (inv.head.tail (t - 1) om om)] at c;cases c
theorem abN {Q Q':Exit->Act->ao->Prop}(d:∀e a w,Q e a w->Q' e a w):∀(f:Nat) (listed:Array Bool) (a:Act) (w:ao),wpAny P md ops Q f listed a w->wpAny P md ops Q' f listed a w
|0,_,_,_,h=>⟨h.1,d _ _ _ h.2⟩
|f+1,listed,a,w,h=>by
  refine⟨λk=>d _ _ _ (h.1 k),λi hi=>?_⟩;have b:=wpOp_mono (λa' w' l=>abN d f _ a' w' l) (h.2 i hi);unfold wpOp at b ⊢;split
  ·simpa[*] using b
  ·rename_i o m
   simp only[m] at b;split
   ·rename_i hw
    simp only[hw,if_true] at b;rcases b with b|⟨b,a',w',g⟩
    ·left;unfold Oper.wp at *;generalize (execOp a.eval o).run P w=r at *;cases r with
    |ok x w'=>
      cases x<;>simp only[Oper.upon] at b ⊢<;>first|exact b|skip
      exact b.mono λe n j=>by
       cases e with
      |returned u=>exact j
      |panicked c=>exact d _ _ _ j
      |outgrown=>obtain⟨a',w',g⟩:=j;exact⟨a',w',d _ _ _ g⟩
    |halt x w'=>cases x<;>simp only[Oper.upon] at b ⊢<;>first|exact b|exact d _ _ _ b
    ·exact .inr ⟨b,a',w',d _ _ _ g⟩
   ·rename_i hw;simp only[hw] at b;exact b
def Bp (P:Program)(md:Region.Mode)(ops:Array Oper)(C:ao->Prop)(n:Nat)(L:Array Bool->Act->Prop):Nat->Array Bool->Act->Prop
|0,listed,a=>L listed a
|f+1,listed,a=>
  Region.ready md ops listed≠[]∧∀i∈Region.ready md ops listed,i < n∧qOp P ops C i (Bp P md ops C n L f (listed.setIfInBounds i av)) a
theorem nB {n g:Nat}{L:Array Bool->Act->Prop}{Q':Exit->Act->ao->Prop}(hL:∀listed a w,C w->L listed a->wpAny P md ops Q' g listed a w) :
  ∀(f:Nat) (listed:Array Bool) (a:Act) (w:ao),C w->Bp P md ops C n L f listed a->wpAny P md ops Q' (f+g) listed a w
|0,listed,a,w,hC,h=>by rw[atK];exact hL _ _ _ hC h
|f+1,listed,a,w,hC,h=>by
  rw[show f+1+g=(f+g)+1 by omega];exact⟨λc=>absurd c h.1,λi hi=>wpOp_of_qOp hC (λa' w' b d=>nB hL f _ a' w' b d) (h.2 i hi).2⟩
theorem Lc {n:Nat}{ms:List Nat}{x:Oper}{L:Array Bool->Act->Prop}(hi:ops[i]?=ax x)(p:∀(j:Nat) (o:Oper) cs b,ops[j]?=ax o->o.op≠.select cs b)
  (I:XA md ops n ms=av) (J:Region.chainB md ops n=av) (K:n < ops.size) (y:i < n)
  (s:∀listed a,L listed a->∀j∈Region.ready md ops listed,n<=j) :
  ∀(f:Nat) (listed:Array Bool) (a:Act),Nb md ops n ms listed ->
   (∀j t,ops[j]?=ax t->j≠i->listed.getD j av=au->(∀e∈t.after,Region.binds md e=av->e.on≠i)->x.apart ops t=av) ->
   i∈Region.ready md ops listed->YieldsIn P ops C x v a ->
   Bp P md ops C n L f (listed.setIfInBounds i av) (a.put x.dst v)->Bp P md ops C n L (f+1) listed a:=by
 intro f
 induction f with
|zero=>
  intro listed a inv _ q D H;have d:=(mem_ready.1 q).1;refine⟨λh=>(by rw[h] at q;cases q),λj u=>?_⟩;have l:j < n:=by
   rcases auC j n with h|h
   ·exact h
   ·exact absurd u (JX I J K inv _ i rfl y d j h)
  refine⟨l,?_⟩;by_cases c:j=i
  ·subst c;exact D.qOp hi H
  ·have:=s _ _ H j (ready_mono u c);omega
|succ f N=>
  intro listed a inv g q D H;have d:=(mem_ready.1 q).1;refine⟨λh=>(by rw[h] at q;cases q),λj u=>?_⟩;have l:j < n:=by
   rcases auC j n with h|h
   ·exact h
   ·exact absurd u (JX I J K inv _ i rfl y d j h)
  refine⟨l,?_⟩;by_cases c:j=i
  ·subst c;exact D.qOp hi H
  ·have E:=(H.2 j (ready_mono u c)).2;obtain⟨r,t,w,z⟩:=mem_ready.1 u;have A:∀e∈t.after,Region.binds md e=av->e.on≠i:=λe he O heq=>by
    have E:=z e he O;rw[heq,getD_both d] at E;cases E
   have Q:=qOp_put w (g j t w c r A) (λcs b=>p i x cs b hi) (λcs b=>p j t cs b w) D E;have m:∀k ok,ops[k]?=ax ok->k≠i->(listed.setIfInBounds j av).getD k av=au ->
     (∀e∈ok.after,Region.binds md e=av->e.on≠i)->x.apart ops ok=true:=λk ok R F d G=>by
    refine g k ok R F ?_ G;by_cases B:j=k
    ·subst B;exact r
    ·rw[getD_set_ne av B] at d;exact d
   refine qOp_mono (λa' M=>N (listed.setIfInBounds j av) a' (inv.set u l) m (ready_mono q (Ne.symm c)) M.1 ?_) Q;rw[aAA _ _ c];exact M.2
def Gh (md:Region.Mode)(ops:Array Oper)(g n:Nat):List (Nat×Oper)->Array Bool->Bool
|[],listed=>Region.seqB md ops g n listed
|(k,_)::r,listed=>(Region.ready md ops listed).contains k&&Region.free md ops listed k&&ai (k < n)&&Gh md ops g n r (listed.setIfInBounds k av)
def snds:List (Nat×Oper)->List Oper
|[]=>[]
|p::l=>p.2::snds l
def fsts:List (Nat×Oper)->List Nat
|[]=>[]
|p::l=>p.1::fsts l
theorem BP {n g:Nat}{ms:List Nat}{j:Act->Prop}(c:Region.noSelect ops=av)(r:XA md ops n ms=av)(s:Region.chainB md ops n=av)(t:n < ops.size) :
  ∀(l:List (Nat×Oper)) (listed:Array Bool) (a:Act),(∀p∈l,ops[p.1]?=ax p.2)->Nb md ops n ms listed ->
  Gh md ops g n l listed=av->wpQuiet P ops C j (snds l) a ->
  Bp P md ops C n (λb a'=>Region.seqB md ops g n b=av∧j a') l.length listed a
|[],listed,a,_,inv,f,h=>⟨f,h⟩
|(k,o)::l,listed,a,u,inv,f,h=>by
  have i:ops[k]?=ax o:=u (k,o) sm;simp only[Gh,atZ,auP] at f;obtain⟨⟨⟨w,x⟩,d⟩,m⟩:=f;have e:k∈Region.ready md ops listed:=by simpa using w
  have q:qOp P ops C k (wpQuiet P ops C j (snds l)) a:=by unfold qOp;simp only[i];exact h
  obtain⟨v,y,z⟩:=yieldsIn_of_qOp i q;exact Lc i (Region.noSelect_spec c) r s t d (λb a' hL=>seqB_ready hL.1) l.length listed a inv (Region.free_spec i x) e y
   (BP c r s t l _ _ (λp hp=>u p (by simp[hp])) (inv.set e d) m z)
def isMv (o:Oper):Bool:=
 match o.op with
|.move _|.assign _=>match o.guard with
 |none=>av
 |some _=>au
|_=>au
def Tk (md:Region.Mode)(ops:Array Oper)(n:Nat):List (Nat×Oper)->Array Bool->Option (Array Bool)
|[],listed=>ax listed
|(k,o)::r,listed=>if (Region.ready md ops listed).contains k&&Region.free md ops listed k&&ai (k < n)&&isMv o then Tk md ops n r (listed.setIfInBounds k av) else aw
def QA (o:Oper)(a:Act):Value:=
 match o.op with
|.move x|.assign x=>a.eval x
|_=>undef
def lN:List (Nat×Oper)->Act->Act
|[],a=>a
|(_,o)::r,a=>lN r (a.put o.dst (QA o a))
theorem VH {o:Oper}(h:isMv o=av)(a:Act):Yields P ops o (QA o a) a:=by
 unfold isMv at h;left;split at h
 ·rename_i x b
  split at h
  ·rename_i c
   refine⟨by simp[Region.wanted,c],λw=>?_⟩;rw[show execOp a.eval o=pure (.value (a.eval x)) by unfold execOp;rw[b]];simp only[QA,b];rfl
  ·cases h
 ·rename_i x b
  split at h
  ·rename_i c
   refine⟨by simp[Region.wanted,c],λw=>?_⟩;rw[show execOp a.eval o=pure (.value (a.eval x)) by unfold execOp;rw[b]];simp only[QA,b];rfl
  ·cases h
 ·cases h
theorem JL {n:Nat}{Q:Exit->Act->ao->Prop}{fuel:Nat}(d:Region.noSelect ops=av)(f:List Nat):∀(ms:List (Nat×Oper)) (listed b:Array Bool) (a:Act) (w:ao),(∀p∈ms,ops[p.1]?=ax p.2)->Tk md ops n ms listed=ax b ->
  (∀p∈ms,∀v c a w,Q (.panic c) (a.put p.2.dst v) w->Q (.panic c) a w) ->
  Nb md ops n f listed->(Nb md ops n (fsts ms++f) b->wpAny P md ops Q fuel b (lN ms a) w)->wpAny P md ops Q (ms.length+fuel) listed a w
|[],listed,b,a,w,_,g,_,inv,h=>by
  cases g;rw[awI,atK];exact h inv
|(k,o)::ms,listed,b,a,w,r,g,s,inv,h=>by
  have t:ops[k]?=ax o:=r (k,o) sm;unfold Tk at g;split at g
  ·rename_i u
   simp only[atZ,auP] at u;obtain⟨⟨⟨x,y⟩,i⟩,j⟩:=u;have l:k∈Region.ready md ops listed:=by simpa using x
   have q:k < listed.size:=by rw[inv.head.size];exact (azC.1 t).1
   rw[atW,show ms.length+1+fuel=ms.length+fuel+1 by omega];refine wpAny_take t d y x (s (k,o) sm _) (VH j a) ?_;refine JL d (k::f) ms _ b _ w (λp hp=>r p (by simp[hp])) g (λp hp=>s p (by simp[hp])) ⟨inv.head.set l i,λm hm=>?_⟩ (λe=>h ⟨e.head,λm hm=>e.moves m ?_⟩)
   ·rcases atL.1 hm with rfl|hm
    ·simp[q]
    ·exact getD_set_true (inv.moves m hm)
   ·simp only[fsts,axF,atL,auF] at hm ⊢;rcases hm with h|h|h
    ·exact .inr (.inl h)
    ·exact .inl h
    ·exact .inr (.inr h)
  ·cases g
def PS (ops:Array Oper)(n:Nat)(ms a:List (Nat×Oper)):Bool:=
 Region.noSelect ops&&ai (n < ops.size)&&XA .any ops n (fsts ms++[])&&Region.chainB .any ops n&&ai (ms.length+a.length=n) &&
  (match Tk .any ops n ms (Array.replicate ops.size au) with
 |some listed=>Gh .any ops (ops.size - n) n a listed
 |none=>au)
theorem Lt {a:Act}{l:List Oper}(n:Nat)(ms i:List (Nat×Oper))(A:PS l.toArray n ms i=av)(hC:C { w with drawn:=w.drawn+1 })
  (r:∀p∈ms,l.toArray[p.1]?=ax p.2) (s:∀p∈i,l.toArray[p.1]?=ax p.2) (u:∀e a w,Q' e a w->Q e a w)
  (E:∀p∈ms,∀v c a w,Q' (.panic c) (a.put p.2.dst v) w->Q' (.panic c) a w)
  (h:wpQuiet P l.toArray C (λa'=>∀w',C w'->wpList P l.toArray Q' (l.drop n) a' w') (snds i) (lN ms a)):wpAny P .any l.toArray Q l.toArray.size (Array.replicate l.toArray.size au) a { w with drawn:=w.drawn+1 }:=by
 simp only[PS,atZ,auP] at A;obtain⟨⟨⟨⟨⟨f,B⟩,x⟩,F⟩,hlen⟩,d⟩:=A;split at d
 ·rename_i b y
  have k:Nb .any l.toArray n [] (Array.replicate l.toArray.size au):=
   ⟨⟨sm,λj K _ D=>(by rw[getD_replicate_false] at D;cases D),λt _ G=>getD_in (by simpa using G) (getD_replicate_false _ _)⟩,λm hm=>by cases hm⟩
  have I:n < l.length:=by simpa using B
  have o:(l.drop n).length=l.toArray.size - n:=sm
  refine abN u _ _ _ _ ?_;have e:l.toArray.size=ms.length+(i.length+(l.toArray.size - n)):=om
  rw[e];rw[<-e];have H:=JL (P:=P) (md:=.any) (fuel:=i.length+(l.toArray.size - n)) f [] ms (Array.replicate l.toArray.size au) b a { w with drawn:=w.drawn+1 } r y E k (λq=>by
   have J:=BP (P:=P) (md:=.any) (g:=l.toArray.size - n) f x F B i b (lN ms a) s q d h;exact nB (Q':=Q') (g:=l.toArray.size - n) (λlisted a' w' z hL=>by
    have:=wpAny_of_seq (md:=.any) (Q':=Q') (l.drop n) n listed a' w' (λj=>by simp[awJ]) (by rw[o];exact hL.1) (hL.2 w' z)
    rwa [o] at this) _ _ _ _ hC J)
  rw[<-e] at H;exact H
 ·cases d
def Js (P:Program)(ops:Array Oper)(L:Act->Prop):List (Nat×Oper)->Act->Prop
|[],a=>L a
|p::r,a=>∃v,Yields P ops p.2 v a∧Js P ops L r (a.put p.2.dst v)
def Te (md:Region.Mode)(ops:Array Oper)(n:Nat):List (Nat×Oper)->Array Bool->Option (Array Bool)
|[],listed=>ax listed
|(k,_)::r,listed=>if (Region.ready md ops listed).contains k&&Region.free md ops listed k&&ai (k < n) then Te md ops n r (listed.setIfInBounds k av) else aw
theorem HM {n:Nat}{Q:Exit->Act->ao->Prop}{fuel:Nat}{L:Act->Prop}(d:Region.noSelect ops=av)(f:List Nat):∀(ms:List (Nat×Oper)) (listed b:Array Bool) (a:Act) (w:ao),(∀p∈ms,ops[p.1]?=ax p.2)->Te md ops n ms listed=ax b ->
  (∀p∈ms,∀v c a w,Q (.panic c) (a.put p.2.dst v) w->Q (.panic c) a w) ->
  Nb md ops n f listed->(Nb md ops n (fsts ms++f) b->∀a',L a'->wpAny P md ops Q fuel b a' w)->Js P ops L ms a->wpAny P md ops Q (ms.length+fuel) listed a w
|[],listed,b,a,w,_,g,_,inv,h,hL=>by
  cases g;rw[awI,atK];exact h inv a hL
|(k,o)::ms,listed,b,a,w,q,g,r,inv,h,hL=>by
  have s:ops[k]?=ax o:=q (k,o) sm;obtain⟨v,x,hL⟩:=hL;unfold Te at g;split at g
  ·rename_i t
   simp only[atZ,auP] at t;obtain⟨⟨u,y⟩,i⟩:=t;have j:k∈Region.ready md ops listed:=by simpa using u
   have l:k < listed.size:=by rw[inv.head.size];exact (azC.1 s).1
   rw[atW,show ms.length+1+fuel=ms.length+fuel+1 by omega];refine wpAny_take s d y u (r (k,o) sm _) x ?_;refine HM d (k::f) ms _ b _ w (λp hp=>q p (by simp[hp])) g (λp hp=>r p (by simp[hp])) ⟨inv.head.set j i,λm hm=>?_⟩ (λe=>h ⟨e.head,λm hm=>e.moves m ?_⟩) hL
   ·rcases atL.1 hm with rfl|hm
    ·simp[l]
    ·exact getD_set_true (inv.moves m hm)
   ·simp only[fsts,axF,atL,auF] at hm ⊢;rcases hm with h|h|h
    ·exact .inr (.inl h)
    ·exact .inl h
    ·exact .inr (.inr h)
  ·cases g
def QB (ops:Array Oper)(n:Nat)(ms a:List (Nat×Oper)):Bool:=
 Region.noSelect ops&&ai (n < ops.size)&&XA .any ops n (fsts ms++[])&&Region.chainB .any ops n&&ai (ms.length+a.length=n) &&
  (match Te .any ops n ms (Array.replicate ops.size au) with
 |some listed=>Gh .any ops (ops.size - n) n a listed
 |none=>au)
def noG:List (Nat×Oper)->Bool
|[]=>av
|p::r=>p.2.guard.isNone&&noG r
def Sz (ops:Array Oper)(n:Nat)(ms a:List (Nat×Oper)):Bool:=noG ms&&QB ops n ms a
theorem K8 {a:Act}{l:List Oper}(n:Nat)(ms i:List (Nat×Oper))(r:Sz l.toArray n ms i=av)(hC:C { w with drawn:=w.drawn+1 })
  (s:∀p∈ms,l.toArray[p.1]?=ax p.2) (u:∀p∈i,l.toArray[p.1]?=ax p.2) (x:∀e a w,Q' e a w->Q e a w)
  (D:∀p∈ms,∀v c a w,Q' (.panic c) (a.put p.2.dst v) w->Q' (.panic c) a w)
  (h:Js P l.toArray (λa=>wpQuiet P l.toArray C (λa'=>∀w',C w'->wpList P l.toArray Q' (l.drop n) a' w') (snds i) a) ms a):wpAny P .any l.toArray Q l.toArray.size (Array.replicate l.toArray.size au) a { w with drawn:=w.drawn+1 }:=by
 replace r:=(atZ _ _▸(show (noG ms&&QB l.toArray n ms i)=av from r):_∧_).2
 simp only[QB,atZ,auP] at r;obtain⟨⟨⟨⟨⟨f,E⟩,y⟩,F⟩,hlen⟩,d⟩:=r;split at d
 ·rename_i b z
  have k:Nb .any l.toArray n [] (Array.replicate l.toArray.size au):=
   ⟨⟨sm,λj K _ B=>(by rw[getD_replicate_false] at B;cases B),λt _ G=>getD_in (by simpa using G) (getD_replicate_false _ _)⟩,λm hm=>by cases hm⟩
  have o:(l.drop n).length=l.toArray.size - n:=sm
  refine abN x _ _ _ _ ?_;have e:l.toArray.size=ms.length+(i.length+(l.toArray.size - n)):=om
  rw[e];rw[<-e];have H:=HM (P:=P) (md:=.any) (fuel:=i.length+(l.toArray.size - n)) f [] ms (Array.replicate l.toArray.size au) b a { w with drawn:=w.drawn+1 } s z D k (λq a' I=>by
   have J:=BP (P:=P) (md:=.any) (g:=l.toArray.size - n) f y F E i b a' u q d I;exact nB (Q':=Q') (g:=l.toArray.size - n) (λlisted a' w' A hL=>by
    have:=wpAny_of_seq (md:=.any) (Q':=Q') (l.drop n) n listed a' w' (λj=>by simp[awJ]) (by rw[o];exact hL.1) (hL.2 w' A)
    rwa [o] at this) _ _ _ _ hC J) h
  rw[<-e] at H;exact H
 ·cases d
end
end Eng
end
section
namespace Eng
open Go.RowKit
abbrev Sg:=Nat->aq
abbrev bc {α:Sort _}(b:Bool)(x y:α):α:=match b with|true=>x|false=>y
theorem aF {α:Sort _}{x y:α}:bc av x y=x:=rfl
theorem aE {α:Sort _}{x y:α}:bc au x y=y:=rfl
def upd (σ:Sg)(d:Nat)(v:aq):Sg:=λi=>bc (Nat.beq i d) v (σ i)
def put (σ:Sg):Option Nat->aq->Sg
|some d,v=>upd σ d v
|none,_=>σ
def rd (σ:Sg):Operand->aq
|.tmp t=>σ t
|.const v=>v
|.global g=>af g 0
|.func f=>.func (.func f) #[] #[]
def inB (n:Nat):Option Nat->Bool
|some d=>Nat.blt d n
|none=>av
structure Rep (n:Nat) (σ:Sg) (t:Array aq):Prop where
 size:t.size=n
 get:∀i,t.getD i undef=σ i
theorem Rep.put {n:Nat}{σ:Sg}{a:Act}(h:Rep n σ a.tmps){d:Option Nat}(hd:inB n d=av)(v:aq):Rep n (put σ d v) (a.put d v).tmps:=by
 cases d with
|none=>exact h
|some d=>
  have b:d < a.tmps.size:=by rw[h.size];simpa[inB,Nat.blt_eq] using hd
  refine⟨by simpa[Act.put] using h.size,λi=>?_⟩;have:=h.get i;simp only[Act.put,Eng.put,upd];by_cases hi:i=d
  ·subst hi;simp[b]
  ·have c:Nat.beq i d=false:=by
    cases c:Nat.beq i d
    ·rfl
    ·exact absurd (azW c) hi
   rw[c,aE,<-this];simp[aAB,Ne.symm hi]
theorem Rep.eval {n:Nat}{σ:Sg}{a:Act}(h:Rep n σ a.tmps):a.eval=rd σ:=by
 funext x
 cases x with
|tmp t=>exact h.get t
|_=>rfl
def oV (K:VWP)(PK:PKT):Ending->ao->Prop
|.returned v,w=>K v w
|.panicked c,w=>PK c w
|.outgrown,_=>False
abbrev Fr (ro:Option Nat):Fence:={ Fence.wide with round:=ro }
theorem NI {n:Nat}{f:FuncId}{R:Ending->ao->Prop}:CallsIn (Fr ro) n P f args w R↔Calls P f args w R:=
 callsIn_wide (n:=n)
structure RdX (P:Program) (l:Nat) (f:FuncId) (tmps:Array aq) (assign body:Code) (w:ao) (R:Ending->ao->Prop):Prop where
 mk ::
 out:RoundIn Fence.wide 0 P l f tmps assign body w R
structure dZ (P:Program) (f:Nat) (args:Array aq) (w:ao) (PK:PKT) (K:VWP):Prop where
 mk ::
 out:Calls P f args w (oV K PK)
def Mv (P:Program)(r:Result Next)(K:VWP)(PK:PKT):Prop:=
 match r with
|.ok (.value v) w=>K v w
|.ok .skip w=>K undef w
|.ok (.enter f args) w=>dZ P f args w PK K
|.ok (.round l f tmps assign body) w=>RdX P l f tmps assign body w (oV K PK)
|.halt (.panic v) w=>PK [{ v,recovered:=au }] w
|_=>False
structure DoX (P:Program) (m:Sem Next) (w:ao) (PK:PKT) (K:VWP):Prop where
 mk ::
 out:Mv P (m.run P w) K PK
def bY (P:Program)(f:Nat):Bool:=
 match P.funcs[f]? with
|some fn=>!(fn.name=="runtime.NumGoroutine")&&fn.body.isSome
|none=>au
theorem jU (h:bY P f=av)(args:Array aq)(w:ao):(callFunc f args).run P w=.ok (.enter f args) w:=by
 unfold bY at h;cases hf:P.funcs[f]? with
|none=>rw[hf] at h;cases h
|some fn=>
  rw[hf] at h;simp only[atZ,awY] at h;obtain⟨h1,h2⟩:=h;have h3:fn.body.isNone=false:=by cases hb:fn.body<;>simp_all
  have h1':fn.name≠"runtime.NumGoroutine":=by simpa using h1
  have h3':fn.body≠none:=by intro hc;rw[hc] at h3;cases h3
  simp[callFunc,hf,h1',h3',program,Sem.run,bind,Sem.bind,pure]
def CN {α β:Type}(f:α->β)(a:Array α):Array β:=(a.toList.map f).toArray
theorem Bk (f:α->β)(a:Array α):CN f a=a.map f:=by
 apply Array.ext';simp[CN]
def mv (s:Sem aq):Sem Next:=do pure (.value (<-s))
def mu (s:Sem Unit):Sem Next:=do s;pure .skip
def DO (T:TypeId):=mv (Instr.alloc T av (.tuple #[]))
def Hr (T:TypeId)(x:aq):=mv (Instr.box T x)
def aW (T:TypeId)(ps:Array (Nat×aq)):=mv (Instr.build T ps)
def aT (T:TypeId)(n:Nat)(ps:Array (Nat×aq)):=mv (Instr.buildSlice T n ps)
def aK (T:TypeId)(a:aq):=mv (Instr.loadAt T a)
def aV (T:TypeId)(a x:aq):=mu (Instr.storeAt T a x)
def akR (g:Nat):=mu (Instr.ready g)
def alX (g:Nat):=mv (Instr.waits g)
def Jf (x:aq):Sem Next:=execOp (λ_=>x) { dst:=aw,op:=.nilCheck (.tmp 0),type:=0,pos:="",after:=#[],guard:=aw }
def cW (c a b:aq):Sem Next:=do pure (.value (if <-asBool c then a else b))
def iA (op:BinOp)(T:TypeId)(x y:aq):=mv (binOp op T x y)
def mEq (op:BinOp)(T:TypeId)(xo yo:Operand)(x y:aq):=mv (do eqGuard op T xo yo x y;binOp op T x y)
def mUn (op:UnOp)(x:aq):=mv (Op.unary op x)
def fZ (S D:TypeId)(x:aq):=mv (convert S D x)
def mSAP (D:TypeId)(x:aq):=mv (Instr.arrayAt D x)
def aeL (T:TypeId)(x:aq):=mv (Instr.makeInterface T x)
def Ub (fn:Fn)(first cap:Array aq):=mv (Instr.makeFunc fn first cap)
def mMap (T:TypeId)(r:Option aq):=mv (Instr.makeMap T r)
def ID (T:TypeId)(l c:aq):=mv (Instr.makeSlice T l c)
def cT (T:TypeId)(x:aq)(lo hi a:Option aq):=mv (Instr.sliceAt T x lo hi a)
def mFA (T:TypeId)(x:aq)(f:Nat):=mv (Instr.fieldAt T x f)
def mFld (T:TypeId)(x:aq)(f:Nat):=mv (Instr.field T x f)
def mIA (T:TypeId)(x i:aq):=mv (Instr.indexAt T x i)
def mIx (T:TypeId)(x i:aq):=mv (Instr.index T x i)
def WN (T:TypeId)(x i:aq)(ok:Bool):=mv (Instr.lookup T x i ok)
def VZ (T:TypeId)(m k v:aq):=mu (Instr.mapUpdate T m k v)
def aoZ (T:TypeId)(m k:aq):=mv (Instr.mapEntry T m k)
def arZ (T:TypeId)(m s v:aq):=mu (Instr.entryStore T m s v)
def anZ (T:TypeId)(x:aq):=mv (Instr.range T x)
def asI (it:aq)(str:Bool)(ty:TypeId):=mv (Instr.next it str ty)
def aoB (it:aq):=mv (Instr.entry it)
def mTA (x:aq)(a T:TypeId)(ok:Bool):=mv (Instr.typeAssert x a T ok)
def At (t:aq)(i:Nat):=mv (Instr.extract t i)
def HX (x:aq):=mv (Instr.panic x)
def mB (b:Builtin)(a:Array TypeId)(ty:TypeId)(cs:Array Bool)(vs:Array aq):Sem Next:=builtin b a ty cs vs
def gC (f:aq)(args:Array aq):Sem Next:=do let d <-Deferred.ofValue f args;invoke d.target d.args
def mInv (name:String)(r:aq)(args:Array aq):Sem Next:=invoke (.fn (.method name) #[]) (#[r]++args)
def isEq:BinOp->Bool
|.eql|.neq=>av
|_=>au
def isLit:Operand->Bool
|.const _=>av
|_=>au
def Dg (ρ:Operand->aq)(o:Oper):Sem Next:=
 match o.op with
|.alloc T=>DO T
|.box T x=>Hr T (ρ x)
|.build T ps=>aW T (CN (λp=>(p.1,ρ p.2)) ps)
|.buildSlice T n ps=>aT T n (CN (λp=>(p.1,ρ p.2)) ps)
|.load T a=>aK T (ρ a)
|.store T a x=>aV T (ρ a) (ρ x)
|.ready g=>akR g
|.waits g=>alX g
|.nilCheck x=>Jf (ρ x)
|.pick c a b=>cW (ρ c) (ρ a) (ρ b)
|.binOp op T x y _=>bc (isEq op) (mEq op T x y (ρ x) (ρ y)) (iA op T (ρ x) (ρ y))
|.unOp op _ x=>mUn op (ρ x)
|.convert S D x=>fZ S D (ρ x)
|.sliceToArrayPointer D x=>mSAP D (ρ x)
|.makeInterface T x=>aeL T (ρ x)
|.makeFunc fn first cap=>Ub fn (CN ρ first) (CN ρ cap)
|.makeMap T r=>mMap T (r.map ρ)
|.makeSlice T l c=>ID T (ρ l) (ρ c)
|.slice T x lo hi d=>cT T (ρ x) (lo.map ρ) (hi.map ρ) (d.map ρ)
|.fieldAddr T x f=>mFA T (ρ x) f
|.field T x f=>mFld T (ρ x) f
|.indexAddr T x i=>mIA T (ρ x) (ρ i)
|.index T x i=>mIx T (ρ x) (ρ i)
|.lookup T x i ok=>WN T (ρ x) (ρ i) ok
|.mapUpdate T m k v=>VZ T (ρ m) (ρ k) (ρ v)
|.insert T m k v=>VZ T (ρ m) (ρ k) (ρ v)
|.mapEntry T m k=>aoZ T (ρ m) (ρ k)
|.entryStore T m s v=>arZ T (ρ m) (ρ s) (ρ v)
|.range T x=>anZ T (ρ x)
|.next it str=>asI (ρ it) str o.type
|.entry it=>aoB (ρ it)
|.typeAssert x e T ok=>mTA (ρ x) e T ok
|.extract t i=>At (ρ t) i
|.panic x=>HX (ρ x)
|.call { callee:=.builtin b,args,argTypes }=>mB b argTypes o.type (CN isLit args) (CN ρ args)
|.call { callee:=.value f,args,.. }=>gC (ρ f) (CN ρ args)
|.call { callee:=.invoke r name,args,.. }=>mInv name (ρ r) (CN ρ args)
|_=>execOp ρ o
theorem lO (ρ:Operand->aq)(o:Oper):Dg ρ o=execOp ρ o:=by
 obtain⟨dst,op,ty,pos,after,guard⟩:=o;unfold Dg;simp only[Bk];cases op with
|binOp op T x y T'=>cases op<;>rfl
|call c=>
  obtain⟨callee,args,a⟩:=c;cases callee with
 |value f=>rfl
 |invoke r n=>rfl
 |builtin b=>rfl
|_=>rfl
def opV (P:Program)(o:Oper)(σ:Sg)(w:ao)(K:VWP)(PK:PKT):Prop:=
 match o.op with
|.move x|.assign x=>K (rd σ x) w
|.call { callee:=.value (.func f),args,.. }=>bc (bY P f) (dZ P f (CN (rd σ) args) w PK K) (DoX P (Dg (rd σ) o) w PK K)
|.defer _=>False
|_=>DoX P (Dg (rd σ) o) w PK K
def kR (v:aq)(want:Bool):Bool:=
 match v with
|.bool b=>b==want
|_=>au
def Kl (ops:Array Oper)(j:Nat):Option Nat:=(ops[j]?).bind (·.dst)
structure GDo (v:aq) (want:Bool) (E:(VWP)->Prop) (w:ao) (K:VWP):Prop where
 mk ::
 out:bc (kR v want) (E K) (K undef w)
abbrev Nx:=Sg->List Deferred->ao->Prop
def dfr (σ:Sg)(c:Call):Option Deferred:=
 match c.callee with
|.value (.func f)=>ax { target:=.fn (.func f) #[],args:=CN (rd σ) c.args }
|.value x=>match rd σ x with
 |.func fn first captured=>ax { target:=.fn fn captured,args:=first++CN (rd σ) c.args }
 |_=>aw
|_=>aw
structure DfrX (d:Option Deferred) (K:Deferred->Prop):Prop where
 mk ::
 out:∃d',d=ax d'∧K d'
def Bw (P:Program)(ro:Option Nat)(n:Nat)(ops:Array Oper)(K:Nx)(PK:List PanicEntry->Nx):List Oper->Sg->List Deferred->ao->Prop
|[],σ,ds,w=>K σ ds w
|o::rest,σ,ds,w=>
  bc (inB n o.dst)
   (match o.guard with
  |none=>
    match o.op with
   |.defer c=>match ro with
    |none=>match c.callee with
     |.value (.func f)=>Bw P ro n ops K PK rest (put σ o.dst undef) ({ target:=.fn (.func f) #[],args:=CN (rd σ) c.args }::ds) w
     |_=>DfrX (dfr σ c) (λd=>Bw P ro n ops K PK rest (put σ o.dst undef) (d::ds) w)
    |some _=>False
   |_=>opV P o σ w (λv w=>Bw P ro n ops K PK rest (put σ o.dst v) ds w) (λc w=>PK c σ ds w)
  |some (j,want)=>
    match Kl ops j with
   |some d=>bc (Nat.blt d n) (GDo (σ d) want (λK'=>opV P o σ w K' (λc w=>PK c σ ds w)) w (λv w=>Bw P ro n ops K PK rest (put σ o.dst v) ds w)) False
   |none=>False)
   False
def lB (n:Nat)(K:Nx)(a:Act)(w:ao):Prop:=∃σ,Rep n σ a.tmps∧K σ a.defers w
theorem aqU {o:Oper}{n:Nat}{σ:Sg}{a:Act}(g:Rep n σ a.tmps)(hd:inB n o.dst=av)(i:∀c,o.op≠.defer c){K:Nx}{PK:List PanicEntry->Nx}{next:Act->ao->Prop}
  (j:∀c a w,lB n (PK c) a w->Q (.panic c) a w) (d:∀a w,lB n K a w->next a w)
  (h:Mv P ((execOp (rd σ) o).run P w) (λv w=>K (put σ o.dst v) a.defers w) (λc w=>PK c σ a.defers w)):o.wpIn (Fr ro) 0 P a w next Q:=by
 unfold Oper.wpIn;refine⟨λ_ _=>trivial,?_⟩;rw[g.eval,Oper.semAt_eq _ _ _ i];generalize (execOp (rd σ) o).run P w=r at *;have b:∀v w,K (put σ o.dst v) a.defers w->next (a.put o.dst v) w:=λv w m=>d _ _ ⟨_,g.put hd v,by
  have e:(a.put o.dst v).defers=a.defers:=by cases o.dst<;>rfl
  rw[e];exact m⟩
 cases r with
|ok x w'=>
  cases x<;>simp only[Mv] at h<;>simp only[Oper.uponIn]
  ·exact b _ _ h
  ·exact b _ _ h
  ·refine⟨(λk=>by cases k),NI.2 (h.out.mono λe l f=>?_)⟩;cases e with
  |returned v=>exact b _ _ f
  |panicked c=>exact j _ _ _ ⟨σ,g,f⟩
  |outgrown=>exact f.elim
  all_goals first|exact h.elim|skip
  refine⟨(λk=>by cases k),RoundIn.mono h.out λe l f=>?_⟩;cases e with
 |returned v=>exact b _ _ f
 |panicked c=>exact j _ _ _ ⟨σ,g,f⟩
 |outgrown=>exact f.elim
|halt x w'=>
  cases x<;>simp only[Mv] at h<;>simp only[Oper.uponIn]
  case panic v=>exact j _ _ _ ⟨σ,g,h⟩
  all_goals exact h.elim
theorem TB {o:Oper}{n:Nat}{σ:Sg}{a:Act}(e:Rep n σ a.tmps)(hd:inB n o.dst=av){K:Nx}{PK:List PanicEntry->Nx}{next:Act->ao->Prop}
  (g:∀c a w,lB n (PK c) a w->Q (.panic c) a w) (b:∀a w,lB n K a w->next a w)
  (h:opV P o σ w (λv w=>K (put σ o.dst v) a.defers w) (λc w=>PK c σ a.defers w)):o.wpIn (Fr ro) 0 P a w next Q:=by
 refine aqU e hd (λc i=>by unfold opV at h;rw[i] at h;exact h.elim) g b ?_;unfold opV at h;split at h
 ·rename_i x d;rw[show execOp (rd σ) o=pure (.value (rd σ x)) by unfold execOp;rw[d]];exact h
 ·rename_i x d;rw[show execOp (rd σ) o=pure (.value (rd σ x)) by unfold execOp;rw[d]];exact h
 ·rename_i f args j d
  cases hp:bY P f with
 |false=>rw[hp,aE] at h;replace h:=h.out;rw[lO] at h;exact h
 |true=>
   rw[hp,aF] at h;have:(execOp (rd σ) o).run P w=.ok (.enter f (CN (rd σ) args)) w:=by
    unfold execOp;rw[d];rw[Bk];simp only[resolve,rd,Deferred.ofValue,invoke,bind,pure,Sem.bind];rw[azX,azY];exact jU hp _ _
   rw[this];exact h
 ·exact h.elim
 ·replace h:=h.out;rw[lO] at h;exact h
def NoR (r:Result Next):Prop:=∀l f t a b w',r≠.ok (.round l f t a b) w'
def noRd (P:Program)(o:Oper):Bool:=
 match o.op with
|.call { callee:=.value (.func f),.. }=>bY P f
|.call { callee:=.builtin b,.. }=>match b with
 |.append|.copy|.len|.cap|.min|.max|.unsafeString|.unsafeSliceData|.delete|.clear=>av
 |_=>au
|.call _=>au
|.go _|.defer _|.send ..|.recv ..|.select ..|.makeChan ..=>au
|_=>av
def Im (P:Program):List Oper->Bool
|[]=>av
|o::l=>noRd P o&&Im P l
theorem akT (s:Sem aq):NoR ((mv s).run P w):=by
 intro l f t a b w' h;unfold mv at h;rw[Sem.run_bind] at h;generalize s.run P w=r at h;cases r<;>simp[Result.andThen] at h
theorem arI (s:Sem Unit):NoR ((mu s).run P w):=by
 intro l f t a b w' h;unfold mu at h;rw[Sem.run_bind] at h;generalize s.run P w=r at h;cases r<;>simp[Result.andThen] at h
theorem Z7 {o:Oper}{σ:Sg}(h:noRd P o=av):NoR ((execOp (rd σ) o).run P w):=by
 generalize hρ:rd σ=ρ;unfold noRd at h;unfold execOp;cases m:o.op<;>rw[m] at h<;>simp only at h ⊢<;>first|exact akT _|exact arI _|(cases h;done)|skip
 case move=>intro l f t a b w' h;cases h
 case assign=>intro l f t a b w' h;cases h
 case pick c a b=>
  intro l f t a b w' h;rw[Sem.run_bind] at h;generalize Sem.run P (asBool (ρ c)) w=r at h;cases r<;>simp[Result.andThen] at h
 case nilCheck x=>
  intro l f t a b w' h;split at h
  ·cases h
  ·cases h
  ·cases h
  ·split at h
   ·cases h
   ·rw[Sem.run_bind] at h;generalize Sem.run P program w=r at h;cases r with
   |halt _ _=>simp[Result.andThen] at h
   |ok p s=>
     simp only[Result.andThen] at h;rw[Sem.run_bind] at h;generalize Sem.run P (nilAhead _ _ _ _) s=r at h;cases r with
    |halt _ _=>simp[Result.andThen] at h
    |ok q w2=>
      simp only[Result.andThen] at h;split at h
      ·cases h
      ·cases h
   ·cases h
  ·cases h
 case call c=>
  obtain⟨callee,args,i⟩:=c;cases callee with
 |invoke r n=>cases h
 |value x=>
   cases x with
  |func g=>
    intro l f t a b w' j;have e:(do let d <-resolve ρ { callee:=.value (.func g),args,argTypes:=i } o.type;invoke d.target d.args:Sem Next).run P w=.ok (.enter g (CN ρ args)) w:=by
     rw[Bk,<-hρ];simp only[resolve,rd,Deferred.ofValue,invoke,bind,pure,Sem.bind];rw[azX,azY];exact jU h _ _
    rw[e] at j;cases j
  |_=>cases h
 |builtin k=>
   show NoR ((builtin k i o.type _ _).run P w);cases k<;>first|exact akT _|(cases h;done)
theorem aeA {o:Oper}{n:Nat}{σ:Sg}{a:Act}(f:Rep n σ a.tmps)(hd:inB n o.dst=av){K:Nx}{PK:List PanicEntry->Nx}{next:Act->ao->Prop}
  (j:∀c a w,lB n (PK c) a w->Q (.panic c) a w) (d:∀a w,lB n K a w->next a w)
  (g:NoR ((execOp (rd σ) o).run P w)) (h:Mv P ((execOp (rd σ) o).run P w) (λv w=>K (put σ o.dst v) a.defers w) (λc w=>PK c σ a.defers w)):o.wp P a w next Q:=by
 unfold Oper.wp;rw[f.eval];generalize (execOp (rd σ) o).run P w=r at *;have b:∀v w,K (put σ o.dst v) a.defers w->next (a.put o.dst v) w:=λv w k=>d _ _ ⟨_,f.put hd v,by
  have e:(a.put o.dst v).defers=a.defers:=by cases o.dst<;>rfl
  rw[e];exact k⟩
 cases r with
|ok x w'=>
  cases x<;>simp only[Mv] at h<;>simp only[Oper.upon]
  ·exact b _ _ h
  ·exact b _ _ h
  ·refine h.out.mono λe l i=>?_;cases e with
  |returned v=>exact b _ _ i
  |panicked c=>exact j _ _ _ ⟨σ,f,i⟩
  |outgrown=>exact i.elim
  all_goals first|exact h.elim|skip
  exact g _ _ _ _ _ _ rfl
|halt x w'=>
  cases x<;>simp only[Mv] at h<;>simp only[Oper.upon]
  case panic v=>exact j _ _ _ ⟨σ,f,h⟩
  all_goals exact h.elim
theorem RD {o:Oper}{n:Nat}{σ:Sg}{a:Act}(g:Rep n σ a.tmps)(hd:inB n o.dst=av){K:Nx}{PK:List PanicEntry->Nx}{next:Act->ao->Prop}
  (i:∀c a w,lB n (PK c) a w->Q (.panic c) a w) (b:∀a w,lB n K a w->next a w)
  (e:noRd P o=av) (h:opV P o σ w (λv w=>K (put σ o.dst v) a.defers w) (λc w=>PK c σ a.defers w)):o.wp P a w next Q:=by
 refine aeA g hd i b (Z7 e) ?_;unfold opV at h;split at h
 ·rename_i x d;rw[show execOp (rd σ) o=pure (.value (rd σ x)) by unfold execOp;rw[d]];exact h
 ·rename_i x d;rw[show execOp (rd σ) o=pure (.value (rd σ x)) by unfold execOp;rw[d]];exact h
 ·rename_i f args j d
  cases hp:bY P f with
 |false=>rw[hp,aE] at h;replace h:=h.out;rw[lO] at h;exact h
 |true=>
   rw[hp,aF] at h;have:(execOp (rd σ) o).run P w=.ok (.enter f (CN (rd σ) args)) w:=by
    unfold execOp;rw[d];rw[Bk];simp only[resolve,rd,Deferred.ofValue,invoke,bind,pure,Sem.bind];rw[azX,azY];exact jU hp _ _
   rw[this];exact h
 ·exact h.elim
 ·replace h:=h.out;rw[lO] at h;exact h
theorem aiS {o:Oper}{n:Nat}{σ:Sg}{a:Act}(g:Rep n σ a.tmps)(hd:inB n o.dst=av){K:Nx}{PK:List PanicEntry->Nx}{next:Act->ao->Prop}
  (i:∀c a w,lB n (PK c) a w->Q (.panic c) a w) (b:∀a w,lB n K a w->next a w)
  (e:NoR ((execOp (rd σ) o).run P w)) (h:opV P o σ w (λv w=>K (put σ o.dst v) a.defers w) (λc w=>PK c σ a.defers w)):o.wp P a w next Q:=by
 refine aeA g hd i b e ?_;unfold opV at h;split at h
 ·rename_i x d;rw[show execOp (rd σ) o=pure (.value (rd σ x)) by unfold execOp;rw[d]];exact h
 ·rename_i x d;rw[show execOp (rd σ) o=pure (.value (rd σ x)) by unfold execOp;rw[d]];exact h
 ·rename_i f args j d
  cases hp:bY P f with
 |false=>rw[hp,aE] at h;replace h:=h.out;rw[lO] at h;exact h
 |true=>
   rw[hp,aF] at h;have:(execOp (rd σ) o).run P w=.ok (.enter f (CN (rd σ) args)) w:=by
    unfold execOp;rw[d];rw[Bk];simp only[resolve,rd,Deferred.ofValue,invoke,bind,pure,Sem.bind];rw[azX,azY];exact jU hp _ _
   rw[this];exact h
 ·exact h.elim
 ·replace h:=h.out;rw[lO] at h;exact h
structure CVX (P:Program) (v:aq) (args:Array aq) (w:ao) (PK:PKT) (K:VWP):Prop where
 mk ::
 out:∃f fa ca,v=.func (.func f) fa ca∧bY P f=av∧dZ P f (fa++args++ca) w PK K
def isCV (o:Oper):Bool:=
 match o.op with
|.call { callee:=.value (.func _),.. }=>au
|.call { callee:=.value _,.. }=>av
|_=>au
def opW (P:Program)(o:Oper)(σ:Sg)(w:ao)(K:VWP)(PK:PKT):Prop:=
 match o.op with
|.call { callee:=.value (.func _),.. }=>opV P o σ w K PK
|.call { callee:=.value x,args,.. }=>CVX P (rd σ x) (CN (rd σ) args) w PK K
|_=>opV P o σ w K PK
theorem akL (h:bY P f=av)(fa ca args:Array aq)(w:ao):(gC (.func (.func f) fa ca) args).run P w=.ok (.enter f (fa++args++ca)) w:=by
 unfold gC;simp only[Deferred.ofValue,invoke,bind,pure,Sem.bind];exact jU h _ _
theorem ajT {o:Oper}{σ:Sg}(h:opW P o σ w K PK):opV P o σ w K PK∧(isCV o=av->NoR ((execOp (rd σ) o).run P w)):=by
 unfold opW at h;split at h
 ·rename_i f args i d;exact⟨h,λc=>by unfold isCV at c;rw[d] at c;cases c⟩
 ·rename_i x args i n d
  obtain⟨f,fa,ca,p,q,r⟩:=h.out;have e:execOp (rd σ) o=gC (rd σ x) (CN (rd σ) args):=by
   rw[<-lO];unfold Dg;rw[d]
  have j:=akL q fa ca (CN (rd σ) args) w;rw[<-p] at j;refine⟨?_,λ_=>by rw[e,j];intro l f t a b w' s;cases s⟩;unfold opV;rw[d];have hd:DoX P (Dg (rd σ) o) w PK K:=⟨by rw[lO,e,j];exact r⟩;cases x with
 |func g=>exact absurd rfl (n g)
 |_=>exact hd
 ·rename_i u k
  refine⟨h,λc=>?_⟩;unfold isCV at c;split at c
  ·cases c
  ·rename_i x args d m;exact absurd m (k _ _ _)
  ·cases c
def VU (P:Program):List Oper->Bool
|[]=>av
|o::l=>(noRd P o||isCV o)&&VU P l
theorem vS {n:Nat}{σ:Sg}{a:Act}(c:Rep n σ a.tmps){o:Oper}(g:o.guard=ax (j,want))(f:Kl ops j=ax d)(hd:Nat.blt d n=av) :
  Region.wanted o (yielded ops a.tmps)=kR (σ d) want:=by
 have b:d < a.tmps.size:=by rw[c.size];simpa[Nat.blt_eq] using hd
 have e:a.tmps[d]?=ax (σ d):=by
  rw[<-c.get d,aAB,Array.getElem?_eq_getElem b];rfl
 unfold Kl at f;simp only[Region.wanted,g,yielded,f,Option.bind_some,e,kR];cases σ d<;>simp
theorem Ug {n:Nat}{K:Nx}{PK:List PanicEntry->Nx}
  (u:∀c a w,lB n (PK c) a w->Q (.panic c) a w) (v:∀a w,lB n K a w->Q .normal a w) :
  ∀(l:List Oper) (σ:Sg) (a:Act) (w:ao),Rep n σ a.tmps->Bw P ro n ops K PK l σ a.defers w->wpListIn (Fr ro) 0 P ops Q l a w:=by
 intro l
 induction l with
|nil=>intro σ a w k h;exact v _ _ ⟨σ,k,h⟩
|cons o rest q=>
  intro σ a w k h;unfold Bw at h;cases hd:inB n o.dst with
 |false=>rw[hd,aE] at h;exact h.elim
 |true=>
   rw[hd,aF] at h;unfold wpListIn;cases r:o.guard with
  |none=>
    simp only[r] at h;rw[asU (by simp[Region.wanted,r])];split at h
    ·rename_i c y
     cases ro with
    |some _=>exact h.elim
    |none=>
     have key:∀d,dfr σ c=ax d->Bw P aw n ops K PK rest (put σ o.dst undef) (d::a.defers) w->o.wpIn (Fr aw) 0 P a w (wpListIn (Fr aw) 0 P ops Q rest) Q:=by
      intro d b h;have p:(execOp (rd σ) o).run P w=.ok (.defer d) w:=by
       unfold execOp;rw[y];unfold dfr at b;unfold resolve;split at b
       ·rename_i f s
        cases b;simp[Bk,s,rd,Deferred.ofValue,bind,pure,Sem.bind,Sem.run]
       ·rename_i x _ z
        split at b
        ·rename_i fn first cap A
         cases b;simp[Bk,z,A,Deferred.ofValue,bind,pure,Sem.bind,Sem.run]
        ·cases b
       ·cases b
      unfold Oper.wpIn;refine⟨λ_ _=>trivial,?_⟩;rw[k.eval,Oper.semAt_none,p];simp only[Oper.uponIn];have g:Rep n (put σ o.dst undef) (({ a with defers:=d::a.defers }:Act).put o.dst undef).tmps:=Rep.put (a:={ a with defers:=d::a.defers }) k hd undef;refine q _ _ _ g ?_;have e:(({ a with defers:=d::a.defers }:Act).put o.dst undef).defers=d::a.defers:=by cases o.dst<;>rfl
      rw[e];exact h
     simp only at h;split at h
     ·rename_i f s
      exact key _ (by unfold dfr;rw[s]) h
     ·obtain⟨d,b,h⟩:=h.out;exact key d b h
    ·refine TB (K:=λσ ds w=>Bw P ro n ops K PK rest σ ds w) (PK:=PK) k hd u ?_ h;rintro a' w' ⟨σ',g,t⟩;exact q _ _ _ g t
  |some B=>
    obtain⟨j,want⟩:=B;simp only[r] at h;split at h
    ·rename_i d C
     cases m:Nat.blt d n with
    |false=>rw[m,aE] at h;exact h.elim
    |true=>
      rw[m,aF] at h;have hw:=vS k r C m
      replace h:=h.out
      cases i:kR (σ d) want with
     |true=>
       rw[i,aF] at h;rw[asU (by rw[hw,i])];refine TB (K:=λσ ds w=>Bw P ro n ops K PK rest σ ds w) (PK:=PK) k hd u ?_ h;rintro a' w' ⟨σ',g,t⟩;exact q _ _ _ g t
     |false=>
       rw[i,aE] at h;rw[asT (by rw[hw,i];simp)];have e:(a.put o.dst undef).defers=a.defers:=by cases o.dst<;>rfl
       exact⟨λ_ _=>trivial,q _ _ _ (k.put hd undef) (by rw[e];exact h)⟩
    ·exact h.elim
theorem Ee {n:Nat}{K:Nx}{PK:List PanicEntry->Nx}
  (s:∀c a w,lB n (PK c) a w->Q (.panic c) a w) (t:∀a w,lB n K a w->Q .normal a w) :
  ∀(l:List Oper) (σ:Sg) (a:Act) (w:ao),Im P l=av->Rep n σ a.tmps->Bw P aw n ops K PK l σ a.defers w->wpList P ops Q l a w:=by
 intro l
 induction l with
|nil=>intro σ a w _ m h;exact t _ _ ⟨σ,m,h⟩
|cons o rest q=>
  intro σ a w b m h;simp only[Im,atZ] at b;obtain⟨b,f⟩:=b;unfold Bw at h;cases hd:inB n o.dst with
 |false=>rw[hd,aE] at h;exact h.elim
 |true=>
   rw[hd,aF] at h;unfold wpList;cases p:o.guard with
  |none=>
    simp only[p] at h;rw[asU (by simp[Region.wanted,p])];left;split at h
    ·rename_i c u
     unfold noRd at b;rw[u] at b;cases b
    ·refine RD (K:=λσ ds w=>Bw P aw n ops K PK rest σ ds w) (PK:=PK) m hd s ?_ b h;rintro a' w' ⟨σ',i,r⟩;exact q _ _ _ f i r
  |some v=>
    obtain⟨j,want⟩:=v;simp only[p] at h;split at h
    ·rename_i d x
     cases k:Nat.blt d n with
    |false=>rw[k,aE] at h;exact h.elim
    |true=>
      rw[k,aF] at h;have hw:=vS m p x k
      replace h:=h.out
      cases g:kR (σ d) want with
     |true=>
       rw[g,aF] at h;rw[asU (by rw[hw,g])];left;refine RD (K:=λσ ds w=>Bw P aw n ops K PK rest σ ds w) (PK:=PK) m hd s ?_ b h;rintro a' w' ⟨σ',i,r⟩;exact q _ _ _ f i r
     |false=>
       rw[g,aE] at h;rw[asT (by rw[hw,g];simp)];have e:(a.put o.dst undef).defers=a.defers:=by cases o.dst<;>rfl
       exact q _ _ _ f (m.put hd undef) (by rw[e];exact h)
    ·exact h.elim
structure QDo (P:Program) (C:ao->Prop) (m:Sem Next) (K:aq->Prop):Prop where
 mk ::
 out:∃v,(∀w,C w->Oper.quietUpon P C w v (m.run P w))∧K v
structure QCall (P:Program) (C:ao->Prop) (f:Nat) (args:Array aq) (K:aq->Prop):Prop where
 mk ::
 out:∃v,(∀w,C w->Calls P f args w (λe w'=>e=.returned v∧C w'))∧K v
def opQ (P:Program)(C:ao->Prop)(o:Oper)(σ:Sg)(K:aq->Prop):Prop:=
 match o.op with
|.move x|.assign x=>K (rd σ x)
|.call { callee:=.value (.func f),args,.. }=>bc (bY P f) (QCall P C f (CN (rd σ) args) K) (QDo P C (Dg (rd σ) o) K)
|_=>QDo P C (Dg (rd σ) o) K
structure GQ (v:aq) (want:Bool) (E:(aq->Prop)->Prop) (K:aq->Prop):Prop where
 mk ::
 out:bc (kR v want) (E K) (K undef)
def oA (P:Program)(n:Nat)(ops:Array Oper)(C:ao->Prop)(K:Sg->Prop):List Oper->Sg->Prop
|[],σ=>K σ
|o::rest,σ=>
  bc (inB n o.dst)
   (match o.guard with
  |none=>opQ P C o σ (λv=>oA P n ops C K rest (put σ o.dst v))
  |some (j,want)=>
    match Kl ops j with
   |some d=>bc (Nat.blt d n) (GQ (σ d) want (λK'=>opQ P C o σ K') (λv=>oA P n ops C K rest (put σ o.dst v))) False
   |none=>False)
   False
theorem adT {o:Oper}{n:Nat}{σ:Sg}{a:Act}(g:Rep n σ a.tmps){next:Act->Prop}{K:aq->Prop}
  (b:∀v,K v->next (a.put o.dst v)) (h:opQ P C o σ K):o.quiet P a C next:=by
 unfold Oper.quiet Oper.quietAt;rw[g.eval];have key:QDo P C (Dg (rd σ) o) K->∃v,(∀w,C w->Oper.quietUpon P C w v ((execOp (rd σ) o).run P w))∧next (a.put o.dst v):=
  λ⟨⟨v,d,e⟩⟩=>⟨v,by rw[<-lO];exact d,b _ e⟩
 unfold opQ at h;split at h
 ·rename_i x c;exact⟨rd σ x,λw _=>by rw[show execOp (rd σ) o=pure (.value (rd σ x)) by unfold execOp;rw[c]];exact⟨rfl,rfl⟩,b _ h⟩
 ·rename_i x c;exact⟨rd σ x,λw _=>by rw[show execOp (rd σ) o=pure (.value (rd σ x)) by unfold execOp;rw[c]];exact⟨rfl,rfl⟩,b _ h⟩
 ·rename_i f args i c
  cases hp:bY P f with
 |false=>rw[hp,aE] at h;exact key h
 |true=>
   rw[hp,aF] at h;obtain⟨v,d,e⟩:=h.out;refine⟨v,λw hw=>?_,b _ e⟩;have:(execOp (rd σ) o).run P w=.ok (.enter f (CN (rd σ) args)) w:=by
    unfold execOp;rw[c];rw[Bk];simp only[resolve,rd,Deferred.ofValue,invoke,bind,pure,Sem.bind];rw[azX,azY];exact jU hp _ _
   rw[this];exact⟨rfl,d w hw⟩
 ·exact key h
theorem tK {n:Nat}{K:Sg->Prop}{Q:Act->Prop}
  (k:∀σ a,Rep n σ a.tmps->a.defers=ds->K σ->Q a) :
  ∀(l:List Oper) (σ:Sg) (a:Act),Rep n σ a.tmps->a.defers=ds->oA P n ops C K l σ->wpQuiet P ops C Q l a:=by
 intro l
 induction l with
|nil=>intro σ a g e h;exact k _ _ g e h
|cons o rest m=>
  intro σ a g e h;unfold oA at h;cases hd:inB n o.dst with
 |false=>rw[hd,aE] at h;exact h.elim
 |true=>
   rw[hd,aF] at h;have b:∀v,oA P n ops C K rest (put σ o.dst v)->wpQuiet P ops C Q rest (a.put o.dst v):=λv p=>
    m _ _ (g.put hd v) (by rw[<-e];cases o.dst<;>rfl) p
   unfold wpQuiet;cases i:o.guard with
  |none=>
    simp only[i] at h;rw[asU (by simp[Region.wanted,i])];exact adT g b h
  |some q=>
    obtain⟨j,want⟩:=q;simp only[i] at h;split at h
    ·rename_i d r
     cases f:Nat.blt d n with
    |false=>rw[f,aE] at h;exact h.elim
    |true=>
      rw[f,aF] at h;have hw:=vS g i r f
      replace h:=h.out
      cases c:kR (σ d) want with
     |true=>
       rw[c,aF] at h;rw[asU (by rw[hw,c])];exact adT g b h
     |false=>
       rw[c,aE] at h;rw[asT (by rw[hw,c];simp)];exact b _ h
    ·exact h.elim
def adO (P:Program)(o:Oper):Bool:=
 match o.op with
|.alloc _|.box ..|.buildSlice ..|.store ..|.makeMap ..|.makeSlice ..|.makeChan ..|.mapUpdate ..|.insert ..|.mapEntry ..|.entryStore ..|.range ..|.next ..|.panic _|.defer _=>av
|.convert _ d _=>match P.underlying d with|some (.slice _)=>av|_=>au
|.call { callee:=.builtin .unsafeString,.. }|.call { callee:=.builtin .append,.. }|.call { callee:=.builtin .copy,.. }|.call { callee:=.builtin .delete,.. }|.call { callee:=.builtin .clear,.. }=>av
|_=>au
def memT (P:Program):Nat->Nat->Bool
|0,_=>av
|k+1,t=>match P.underlying t with
 |some (.slice _)=>av
 |some (.pointer _)=>av
 |some (.map _ _)=>av
 |some (.struct fs)=>fs.toList.any λf=>memT P k f.type
 |some (.array _ e)=>memT P k e
 |_=>au
def rS (p:Oper->Bool):Code->Bool
|.region _ ops _=>ops.toList.any p
|.seq a b=>bc (rS p a) av (rS p b)
|.cond _ a b=>bc (rS p a) av (rS p b)
|.block _ a=>rS p a
|.loop a=>rS p a
|.rangeFunc _ _ a b=>bc (rS p a) av (rS p b)
|_=>au
def isMk (P:Program)(o:Oper):Bool:=
 match o.op with
|.buildSlice ..|.makeMap ..|.makeSlice ..=>av
|.convert _ d _=>match P.underlying d with|some (.slice _)=>av|_=>au
|.call { callee:=.builtin .append,.. }=>av
|_=>au
def acF (P:Program):Nat->Nat->Bool
|0,f=>match P.funcs[f]? with
 |some g=>rS (isMk P) (g.body.getD .skip)
 |none=>au
|k+1,f=>match P.funcs[f]? with
 |some g=>rS (λo=>bc (isMk P o) av (match o.op with|.call { callee:=.value (.func g),.. }=>acF P k g|_=>au)) (g.body.getD .skip)
 |none=>au
def arG (o:Oper):Bool:=match o.op with|.panic _=>av|_=>au
def panF (P:Program):Nat->Nat->Bool
|0,_=>au
|k+1,f=>match P.funcs[f]? with
 |some g=>rS (λo=>bc (arG o) av (match o.op with|.call { callee:=.value (.func h),.. }=>panF P k h|_=>au)) (g.body.getD .skip)
 |none=>au
def newF (P:Program)(f:Nat):Bool:=
 match P.funcs[f]? with
|some g=>bc (panF P 3 f) av (bc (g.resultTypes.toList.any λt=>memT P 4 t) (acF P 2 f) au)
|none=>au
def aoG (P:Program)(o:Oper):Bool:=
 match o.op with
|.call { callee:=.value (.func f),.. }=>newF P f
|_=>adO P o
def aX (P:Program):List Oper->Nat
|[]=>0
|o::l=>bc (aoG P o) 0 (aX P l+1)
section
variable {P:Program}{ops:Array Oper}{md:Region.Mode}{C:ao->Prop}
theorem MU {n:Nat}{x:Oper}{L:Array Bool->Act->Prop}(hi:ops[i]?=ax x)(p:∀(j:Nat) (o:Oper) cs b,ops[j]?=ax o->o.op≠.select cs b)
  (I:Region.sinkB md ops n=av) (J:Region.chainB md ops n=av) (K:n < ops.size) (y:i < n)
  (s:∀listed a,L listed a->∀j∈Region.ready md ops listed,n<=j) :
  ∀(f:Nat) (listed:Array Bool) (a:Act),HeadInv md ops n listed ->
   (∀j t,ops[j]?=ax t->j≠i->listed.getD j av=au->(∀e∈t.after,Region.binds md e=av->e.on≠i)->x.apart ops t=av) ->
   i∈Region.ready md ops listed->YieldsIn P ops C x v a ->
   Bp P md ops C n L f (listed.setIfInBounds i av) (a.put x.dst v)->Bp P md ops C n L (f+1) listed a:=by
 intro f
 induction f with
|zero=>
  intro listed a inv _ q D H;have d:=(mem_ready.1 q).1;refine⟨λh=>(by rw[h] at q;cases q),λj u=>?_⟩;have l:j < n:=by
   rcases auC j n with h|h
   ·exact h
   ·exact absurd u (tail_waits I J K inv _ i rfl y d j h)
  refine⟨l,?_⟩;by_cases c:j=i
  ·subst c;exact D.qOp hi H
  ·have:=s _ _ H j (ready_mono u c);omega
|succ f N=>
  intro listed a inv g q D H;have d:=(mem_ready.1 q).1;refine⟨λh=>(by rw[h] at q;cases q),λj u=>?_⟩;have l:j < n:=by
   rcases auC j n with h|h
   ·exact h
   ·exact absurd u (tail_waits I J K inv _ i rfl y d j h)
  refine⟨l,?_⟩;by_cases c:j=i
  ·subst c;exact D.qOp hi H
  ·have E:=(H.2 j (ready_mono u c)).2;obtain⟨r,t,w,z⟩:=mem_ready.1 u;have A:∀e∈t.after,Region.binds md e=av->e.on≠i:=λe he O heq=>by
    have E:=z e he O;rw[heq,getD_both d] at E;cases E
   have Q:=qOp_put w (g j t w c r A) (λcs b=>p i x cs b hi) (λcs b=>p j t cs b w) D E;have m:∀k ok,ops[k]?=ax ok->k≠i->(listed.setIfInBounds j av).getD k av=au ->
     (∀e∈ok.after,Region.binds md e=av->e.on≠i)->x.apart ops ok=true:=λk ok R F d G=>by
    refine g k ok R F ?_ G;by_cases B:j=k
    ·subst B;exact r
    ·rw[getD_set_ne av B] at d;exact d
   refine qOp_mono (λa' M=>N (listed.setIfInBounds j av) a' (inv.set u l) m (ready_mono q (Ne.symm c)) M.1 ?_) Q;rw[aAA _ _ c];exact M.2
theorem K3 {n g:Nat}{p:Act->Prop}(c:Region.noSelect ops=av)(s:Region.sinkB md ops n=av)(t:Region.chainB md ops n=av)(u:n < ops.size) :
  ∀(l:List Oper) (k:Nat) (listed:Array Bool) (a:Act),(∀j,j < l.length->l[j]?=ops[k+j]?)->k+l.length=n->HeadInv md ops n listed ->
  Region.lexHead md ops g l.length k listed=av->wpQuiet P ops C p l a ->
  Bp P md ops C n (λb a'=>Region.seqB md ops g n b=av∧p a') l.length listed a
|[],k,listed,a,_,f,_,i,h=>by
  have:k=n:=by simpa using f
  subst this;exact⟨by simpa[Region.lexHead] using i,h⟩
|o::l,k,listed,a,w,f,inv,i,h=>by
  have m:ops[k]?=ax o:=by simpa using (w 0 sm).symm
  simp only[atW,Region.lexHead,atZ] at i;obtain⟨⟨x,y⟩,q⟩:=i;have d:k < n:=by simp only[atW] at f;omega
  have e:k∈Region.ready md ops listed:=by simpa using x
  have r:qOp P ops C k (wpQuiet P ops C p l) a:=by unfold qOp;simp only[m];exact h
  obtain⟨v,z,A⟩:=yieldsIn_of_qOp m r;exact MU m (Region.noSelect_spec c) s t u d (λb a' hL=>seqB_ready hL.1) l.length listed a inv (Region.free_spec m y) e z
   (K3 c s t u l (k+1) _ _ (λj B=>by have:=w (j+1) (by simp;omega);simpa[awP,axT 1 j] using this) (by simp only[atW] at f;omega) (inv.set e d) q A)
theorem Lz {a:Act}{l:List Oper}(n:Nat)(m:Region.lexTailB .any l.toArray n=av)(hC:C { w with drawn:=w.drawn+1 })
  (h:wpQuiet P l.toArray C (λa'=>∀w',C w'->wpList P l.toArray Q (l.drop n) a' w') (l.take n) a):wpAny P .any l.toArray Q l.toArray.size (Array.replicate l.toArray.size au) a { w with drawn:=w.drawn+1 }:=by
 simp only[Region.lexTailB,atZ,auP] at m;obtain⟨⟨⟨⟨c,o⟩,r⟩,s⟩,d⟩:=m;have u:n < l.length:=by simpa using o
 have b:(l.take n).length=n:=by simp;omega
 have e:(l.drop n).length=l.toArray.size - n:=sm
 have f:HeadInv .any l.toArray n (Array.replicate l.toArray.size au):=
  ⟨sm,λj x _ p=>(by rw[getD_replicate_false] at p;cases p),λt _ v=>getD_in (by simpa using v) (getD_replicate_false _ _)⟩
 have H:=K3 (md:=.any) (g:=l.toArray.size - n) c r s o (l.take n) 0 _ a (λj q=>by
  have i:j < n:=by rw[b] at q;exact q
  simp[i]) (by simpa using b) f (by rw[b];exact d) h
 have:=nB (Q':=Q) (g:=l.toArray.size - n) (λlisted a' w' k hL=>by
  have:=wpAny_of_seq (md:=.any) (Q':=Q) (l.drop n) n listed a' w' (λj=>by simp[awJ]) (by rw[e];exact hL.1) (hL.2 w' k)
  rwa [e] at this) _ _ _ _ hC H
 rw[b,show n+(l.toArray.size - n)=l.toArray.size by omega] at this;exact this
theorem WX {a:Act}(b:Region.lexB .any ops=av)(hC:C { w with drawn:=w.drawn+1 })
  (h:wpQuiet P ops C (λa'=>∀w',C w'->Q .normal a' w') ops.toList a):wpAny P .any ops Q ops.size (Array.replicate ops.size au) a { w with drawn:=w.drawn+1 }:=by
 simp only[Region.lexB,atZ] at b;refine wpAny_of_quiet (Q:=λa'=>∀w',C w'->Q .normal a' w') (λ_ w' c h=>h w' c) _ _ _ _ hC ?_;have:=wpAnyQ_lex (C:=C) (md:=.any) b.1 ops.toList 0 (Array.replicate ops.size au) a sm (by simpa using b.2) h;simpa using this
end
def sN:List Oper->Bool
|[]=>av
|o::l=>(match o.op with|.defer _=>au|_=>av)&&sN l
theorem NT:∀{l:List Oper},sN l=av->∀o,o∈l->∀c,o.op≠.defer c
|[],_,o,a,_=>by cases a
|x::l,h,o,a,c=>by
  simp only[sN,atZ] at h;rcases atL.1 a with rfl|a
  ·intro e;rw[e] at h;cases h.1
  ·exact NT h.2 o a c
def Ic (Q:Exit->Act->ao->Prop):Exit->Act->ao->Prop
|.outgrown,_,_=>False
|e,a,w=>Q e a w
theorem ZS {Q:Exit->Act->ao->Prop}:∀e a w,Ic Q e a w->Q e a w
|.outgrown,_,_,h=>h.elim
|.normal,_,_,h=>h
|.ret,_,_,h=>h
|.exit _,_,_,h=>h
|.goto _,_,_,h=>h
|.panic _,_,_,h=>h
theorem apO {o:Oper}{a:Act}{K:Act->ao->Prop}(b:∀c,o.op≠.defer c)(h:o.wp P a w K (Ic Q)):o.wpIn (Fr ro) 0 P a w K (Ic Q):=by
 refine⟨λ_ _=>trivial,?_⟩;rw[Oper.semAt_eq _ _ _ b];unfold Oper.wp at h;generalize (execOp a.eval o).run P w=r at h ⊢;cases r with
|ok x w'=>
  cases x<;>simp only[Oper.upon] at h<;>simp only[Oper.uponIn]<;>first|exact h|exact h.elim|skip
  ·exact⟨(λd=>by cases d),NI.2 h⟩
  ·exact⟨(λd=>by cases d),λc cs _=>let ⟨v,w',r,s⟩:=h c cs;⟨v,w',r,stepsIn_wide.2 s⟩⟩
|halt x w'=>cases x<;>simp only[Oper.upon] at h<;>simp only[Oper.uponIn]<;>first|exact h|exact h.elim
theorem SD {P:Program}{ro:Option Nat}{ops:Array Oper}{Q:Exit->Act->ao->Prop}(c:sN ops.toList=av):∀(fuel:Nat) (listed:Array Bool) (a:Act) (w:ao),wpAny P .any ops (Ic Q) fuel listed a w->wpAnyIn (Fr ro) 0 P .any ops (Ic Q) fuel listed a w
|0,_,_,_,h=>h
|fuel+1,listed,a,w,h=>by
  refine⟨h.1,λi hi=>?_⟩;have b:=h.2 i hi;unfold wpOp at b;unfold wpOpIn;split
  ·rename_i f
   simp only[f] at b;exact SD c fuel _ _ _ b
  ·rename_i o e
   simp only[e] at b;have d:o∈ops.toList:=by
    have:=azD e;simpa using this
   split
   ·rename_i hw
    simp only[hw,if_true] at b;rcases b with b|⟨_,a',w',g⟩
    ·exact Oper.wpIn_mono (λa w j=>SD c fuel _ a w j) (apO (NT c o d) b)
    ·exact g.elim
   ·rename_i hw
    simp only[hw] at b;exact⟨λ_ _=>trivial,SD c fuel _ _ _ b⟩
theorem CF {a:Act}(hm:P.follows .mixedOrders=av)(b:sN ops.toList=av)
  (h:wpAny P .any ops (Ic Q) ops.size (Array.replicate ops.size au) a { w with drawn:=w.drawn+1 }):(Code.region id ops av).wpIn (Fr ro) 0 P Q a w:=
 Code.wpIn_mono ZS (wpIn_region_any hm (SD b _ _ _ _ h))
def Eg (i:Nat):List Nat->Bool
|[]=>au
|j::l=>Nat.beq i j||Eg i l
def Ok (ms:List Nat)(o:Oper):Bool:=o.after.toList.all λe=>!(Region.binds .any e)||Eg e.on ms
def mvL:List Oper->Nat->List Nat->List (Nat×Oper)
|[],_,_=>[]
|o::l,k,ms=>bc (isMv o&&Ok ms o) ((k,o)::mvL l (k+1) (k::ms)) (mvL l (k+1) ms)
def hdL:List Oper->Nat->List Nat->List (Nat×Oper)
|[],_,_=>[]
|o::l,k,ms=>bc (isMv o&&Ok ms o) (hdL l (k+1) (k::ms)) ((k,o)::hdL l (k+1) ms)
def mvX (o:Oper)(σ:Sg):Value:=
 match o.op with
|.move x|.assign x=>rd σ x
|_=>undef
def UY:List (Nat×Oper)->Sg->Sg
|[],σ=>σ
|p::r,σ=>UY r (put σ p.2.dst (mvX p.2 σ))
def Kx (n:Nat):List (Nat×Oper)->Bool
|[]=>av
|p::r=>inB n p.2.dst&&Kx n r
def pmX:List (Nat×Oper)->Nx->Nx
|[],K=>K
|p::r,K=>λσ ds w=>∀u:aq,pmX r K (put σ p.2.dst u) ds w
def isNil:List Nat->Bool
|[]=>av
|_=>au
def andL:List Prop->Prop
|[]=>True
|[p]=>p
|p::q::l=>p∧andL (q::l)
theorem EG:∀{l:List Prop},andL l->∀p,p∈l->p
|[],_,p,hp=>by cases hp
|[q],h,p,hp=>by rw[auB] at hp;subst hp;exact h
|q::r::l,h,p,hp=>by
  rcases atL.1 hp with rfl|hp
  ·exact h.1
  ·exact EG h.2 p hp
theorem QY:∀{l:List Prop},(∀p,p∈l->p)->andL l
|[],_=>trivial
|[q],h=>h q sm
|q::r::l,h=>⟨h q sm,QY λp hp=>h p (by simp only[atL] at hp ⊢;exact .inr hp)⟩
def OG (P:Program)(n:Nat)(ops:Array Oper)(o:Oper)(σ:Sg)(w:ao)(next:Sg->ao->Prop)(PK:PKT):Prop:=
 bc (inB n o.dst)
  (match o.guard with
 |none=>opV P o σ w (λv w=>next (put σ o.dst v) w) PK
 |some (j,want)=>
   match Kl ops j with
  |some d=>bc (Nat.blt d n) (GDo (σ d) want (λK'=>opV P o σ w K' PK) w (λv w=>next (put σ o.dst v) w)) False
  |none=>False)
  False
def Pv (P:Program)(n:Nat)(ops:Array Oper)(o:Oper)(σ:Sg)(w:ao)(next:Sg->ao->Prop)(PK:PKT):Prop:=
 bc (inB n o.dst)
  (match o.guard with
 |none=>opW P o σ w (λv w=>next (put σ o.dst v) w) PK
 |some (j,want)=>
   match Kl ops j with
  |some d=>bc (Nat.blt d n) (GDo (σ d) want (λK'=>opW P o σ w K' PK) w (λv w=>next (put σ o.dst v) w)) False
  |none=>False)
  False
def Mw (P:Program)(n:Nat)(ops:Array Oper)(K:Nx)(PK:List PanicEntry->Nx):Nat->Array Bool->Sg->List Deferred->ao->Prop
|0,listed,σ,ds,w=>bc (isNil (Region.ready .any ops listed)) (K σ ds w) False
|f+1,listed,σ,ds,w=>
  bc (isNil (Region.ready .any ops listed)) (K σ ds w)
   (andL ((Region.ready .any ops listed).map λi=>match ops[i]? with
   |none=>False
   |some o=>OG P n ops o σ w (λσ' w'=>Mw P n ops K PK f (listed.setIfInBounds i av) σ' ds w') (λc w=>PK c σ ds w)))
theorem vX :isNil l=av↔l=[]:=by cases l<;>simp[isNil]
theorem Ud {n:Nat}{o:Oper}{σ:Sg}{a:Act}{K:Nx}{PK:List PanicEntry->Nx}{next:Act->ao->Prop}(k:Rep n σ a.tmps)(p:∀c,o.op≠.defer c)
  (m:∀c a w,lB n (PK c) a w->Q (.panic c) a w) (b:∀a w,lB n K a w->next a w)
  (h:OG P n ops o σ w (λσ' w'=>K σ' a.defers w') (λc w=>PK c σ a.defers w)) :
  if Region.wanted o (yielded ops a.tmps) then o.wpIn (Fr ro) 0 P a w next Q else (∀f,o.about P w a.eval=ax f->(Fr ro).fn f)∧next (a.put o.dst undef) w:=by
 unfold OG at h;cases hd:inB n o.dst with
|false=>rw[hd,aE] at h;exact h.elim
|true=>
  rw[hd,aF] at h;cases l:o.guard with
 |none=>
   simp only[l] at h;rw[asU (by simp[Region.wanted,l])];exact TB (K:=K) (PK:=PK) k hd m b h
 |some q=>
   obtain⟨j,want⟩:=q;simp only[l] at h;split at h
   ·rename_i d r
    cases i:Nat.blt d n with
   |false=>rw[i,aE] at h;exact h.elim
   |true=>
     rw[i,aF] at h;have hw:=vS k l r i
     replace h:=h.out
     cases g:kR (σ d) want with
    |true=>
      rw[g,aF] at h;rw[asU (by rw[hw,g])];exact TB (K:=K) (PK:=PK) k hd m b h
    |false=>
      rw[g,aE] at h;rw[asT (by rw[hw,g];simp)];have e:(a.put o.dst undef).defers=a.defers:=by cases o.dst<;>rfl
      exact⟨λ_ _=>trivial,b _ _ ⟨_,k.put hd undef,by rw[e];exact h⟩⟩
   ·exact h.elim
theorem MC {P:Program}{ro:Option Nat}{n:Nat}{ops:Array Oper}{K:Nx}{PK:List PanicEntry->Nx}{Q:Exit->Act->ao->Prop}(d:sN ops.toList=av)
  (p:∀c a w,lB n (PK c) a w->Q (.panic c) a w) (j:∀a w,lB n K a w->Q .normal a w) :
  ∀(fuel:Nat) (listed:Array Bool) (σ:Sg) (a:Act) (w:ao),Rep n σ a.tmps->Mw P n ops K PK fuel listed σ a.defers w->wpAnyIn (Fr ro) 0 P .any ops Q fuel listed a w
|0,listed,σ,a,w,g,h=>by
  unfold Mw at h;cases b:isNil (Region.ready .any ops listed) with
 |false=>rw[b,aE] at h;exact h.elim
 |true=>rw[b,aF] at h;exact⟨vX.1 b,j _ _ ⟨σ,g,h⟩⟩
|f+1,listed,σ,a,w,g,h=>by
  unfold Mw at h;cases b:isNil (Region.ready .any ops listed) with
 |true=>
   rw[b,aF] at h;have he:=vX.1 b;exact⟨λ_=>j _ _ ⟨σ,g,h⟩,λi hi=>by rw[he] at hi;cases hi⟩
 |false=>
   rw[b,aE] at h;refine⟨(λhe=>by rw[vX.2 he] at b;cases b),λi hi=>?_⟩;have k:=EG h _ (auH.2 ⟨i,hi,rfl⟩);unfold wpOpIn;cases l:ops[i]? with
  |none=>simp only[l] at k
  |some o=>
    simp only[l] at k ⊢;have e:o∈ops.toList:=by
     have:=azD l;simpa using this
    refine Ud (K:=λσ' ds' w'=>Mw P n ops K PK f (listed.setIfInBounds i av) σ' ds' w') (PK:=PK) g (NT d o e) p ?_ k;rintro a' w' ⟨σ',m,q⟩;exact MC d p j f _ σ' a' w' m q
structure DrawX (w:ao) (F:ao->Prop):Prop where
 mk ::
 out:F { w with drawn:=w.drawn+1 }
abbrev Ex:=Exit->Sg->List Deferred->ao->Prop
def mem (i:Nat):List Nat->Bool
|[]=>au
|j::l=>Nat.beq i j||mem i l
def HB:List Oper->List Nat
|[]=>[]
|o::l=>match o.dst with
 |some d=>d::HB l
 |none=>HB l
def asg:Code->List Nat
|.region _ ops _=>HB ops.toList
|.seq a b=>asg a++asg b
|.cond _ a b=>asg a++asg b
|.block _ a=>asg a
|.loop a=>asg a
|_=>[]
def jun:List Nat->List Nat->List Nat
|[],b=>b
|i::a,b=>bc (mem i b) (jun a b) (i::jun a b)
def rem (id:Nat):List Nat->List Nat
|[]=>[]
|i::a=>bc (Nat.beq id i) (rem id a) (i::rem id a)
def jx:Code->List Nat
|.seq a b=>jun (jx a) (jx b)
|.cond _ a b=>jun (jx a) (jx b)
|.block id a=>rem id (jx a)
|.loop a=>jx a
|.exit j=>[j]
|.rangeFunc _ _ _ b=>jx b
|_=>[]
def jr:Code->Bool
|.seq a b=>jr a||jr b
|.cond _ a b=>jr a||jr b
|.block _ a=>jr a
|.loop a=>jr a
|.ret=>av
|.rangeFunc _ _ _ b=>jr b
|_=>au
def Q8 (id:Nat):Code->Nat
|.seq a b=>Q8 id a+Q8 id b
|.cond _ a b=>Q8 id a+Q8 id b
|.block _ a=>Q8 id a
|.loop a=>Q8 id a
|.exit j=>bc (Nat.beq id j) 1 0
|.rangeFunc _ _ _ b=>bc (mem id (jx b)) 1 0
|_=>0
def ways:Code->Nat
|.skip=>1
|.region ..=>1
|.seq a b=>bc (Nat.beq (ways a) 0) 0 (ways b)
|.cond _ a b=>ways a+ways b
|.block id a=>ways a+Q8 id a
|.rangeFunc ..=>1
|_=>0
def keyOf:Code->Nat
|.region id ..=>id
|.seq a b=>bc (Nat.beq (keyOf a) 999999) (keyOf b) (keyOf a)
|.cond _ a b=>bc (Nat.beq (keyOf a) 999999) (keyOf b) (keyOf a)
|.block _ a=>keyOf a
|.loop a=>keyOf a
|.rangeFunc _ _ a b=>bc (Nat.beq (keyOf a) 999999) (keyOf b) (keyOf a)
|_=>999999
def look (k:Nat):List (Nat×List Nat)->List Nat
|[]=>[]
|p::l=>bc (Nat.beq p.1 k) p.2 (look k l)
def pos (i:Nat):List Nat->Option Nat
|[]=>aw
|j::l=>bc (Nat.beq i j) (ax 0) ((pos i l).map (·+ 1))
def mix (σ:Sg)(A ls:List Nat)(vs:List aq)(j:Sg):Sg:=λi=>
 bc (mem i A) (match pos i ls with|some k=>vs.getD k undef|none=>j i) (σ i)
def pick (ls:List Nat)(σ:Sg):List Value:=
 match ls with
|[]=>[]
|i::l=>σ i::pick l σ
structure D9 (F:(List aq->ao->Prop)->Prop) (R:List aq->ao->Prop):Prop where
 mk ::
 out:∀J:List aq->ao->Prop,(∀vs w,R vs w->J vs w)->F J
def AtX:List Deferred->List Deferred->Prop->Prop
|[],[],p=>p
|a,b,p=>a=b∧p
theorem AtX.out {a b:List Deferred}{p:Prop}(h:AtX a b p):a=b∧p:=by
 unfold AtX at h;split at h
 ·exact⟨rfl,h⟩
 ·exact h
structure IfX (v:aq) (A B:Prop):Prop where
 mk ::
 out:match v with
 |.bool b=>(b=av->A)∧(b=au->B)
 |_=>False
structure Ax (vs:List aq) (w:ao) (F:List aq->ao->(List aq->ao->Prop)->Prop):Prop where
 mk ::
 out:∃(I:List aq->ao->Prop) (μ:List aq->ao->Nat),I vs w∧∀vs w,I vs w->F vs w (λvs' w'=>I vs' w'∧μ vs' w' < μ vs w)
structure JoinD (F:(List Deferred->List aq->ao->Prop)->Prop) (R:List Deferred->List aq->ao->Prop):Prop where
 mk ::
 out:∀J:List Deferred->List aq->ao->Prop,(∀ds vs w,R ds vs w->J ds vs w)->F J
structure LoopD (ds:List Deferred) (vs:List aq) (w:ao) (F:List Deferred->List aq->ao->(List Deferred->List aq->ao->Prop)->Prop):Prop where
 mk ::
 out:∃(I:List Deferred->List aq->ao->Prop) (μ:List aq->ao->Nat),I ds vs w∧∀ds vs w,I ds vs w->F ds vs w (λds' vs' w'=>I ds' vs' w'∧μ vs' w' < μ vs w)
def RA:Code->Bool
|.seq a b=>bc (RA a) av (RA b)
|.cond _ a b=>bc (RA a) av (RA b)
|.block _ a=>RA a
|.loop a=>RA a
|.rangeFunc ..=>av
|_=>au
def mkB (ro:Option Nat)(c:Code):Bool:=match ro with|none=>RA c|some _=>au
structure nK (w:ao) (F:(ao->Prop)->Prop):Prop where
 mk ::
 out:∃C:ao->Prop,C w.drew∧F C
def On (Q:Ex)(K:Nx):Ex
|.normal,σ,ds,w=>K σ ds w
|e,σ,ds,w=>Q e σ ds w
def adS (id:Nat)(Q:Ex):Ex
|.exit j,σ,ds,w=>bc (Nat.beq j id) (Q .normal σ ds w) (Q (.exit j) σ ds w)
|e,σ,ds,w=>Q e σ ds w
def ML (w:ao)(b:Nat)(o:Obj):World:={ w with heap:=w.heap.setIfInBounds b o }
def lp (L0:Loop)(st:LoopState)(pd:Option Code):Obj:=.loop { L0 with state:=st,pending:=pd }
def RetV (R:VWP):Ending->ao->Prop:=λe w'=>∃v,e=.returned v∧R v w'
def Yld (P:Program)(l:Nat)(args:List aq)(W:ao)(R:VWP):Prop:=
 ∃fn tmps a b,(Instr.yield l args.toArray).run P W=.ok (.round l fn tmps a b) W∧RoundIn Fence.wide 0 P l fn tmps a b W (RetV R)
structure BegX (P:Program) (l:Nat) (W:ao) (K:ao->Prop):Prop where
 mk ::
 out:∃w2,(Instr.beginRound l).run P W=.ok () w2∧K w2
structure EndX (P:Program) (l:Nat) (j:Option Code) (W:ao) (R:VWP):Prop where
 mk ::
 out:∃v w',(Instr.endRound l j).run P W=.ok v w'∧R v w'
def LayR (w:ao):Option Nat->Nat->ao->Prop
|none,df,w0=>df=w.heap.size∧w0=w.alloc (.deferred (ax []))
|some b,df,w0=>∃a,w.heap[b]?=ax (.loop a)∧df=a.defers∧w0=w
structure RangeX (P:Program) (ro:Option Nat) (np:Nat) (gv:aq) (w:ao) (B:Nat->List aq->ao->(VWP)->Prop) (js:List (Option Code×(Nat->ao->Prop))):Prop where
 mk ::
 out:∃f fa ca df w0,gv=.func (.func f) fa ca∧bY P f=av∧LayR w ro df w0∧∀L0:Loop,L0.defers=df ->
  (∀l args W R,W.heap[l]?=ax (lp L0 .ready aw)->args.length=np->B l args W R->Yld P l args W R) ->
  Calls P f (fa++#[.func (.yield w0.heap.size) #[] #[]]++ca) (w0.alloc (lp L0 .ready aw)) λe w3=>
   ∃v st pd k,e=.returned v∧st≠.busy∧w3.heap[w0.heap.size]?=ax (lp L0 st pd)∧(pd,k)∈js∧k df (ML w3 w0.heap.size (lp L0 .exhausted pd))
def putL:List Nat->List aq->Nat->Sg->Sg
|[],_,_,σ=>σ
|p::ps,args,k,σ=>putL ps args (k+1) (upd σ p (args.getD k undef))
def Qu (n:Nat):List Nat->Bool
|[]=>av
|p::ps=>bc (Nat.blt p n) (Qu n ps) au
def mkD (r:Nat):Deferred:={ target:=.collected r,args:=#[] }
def Ua:Option Nat->Nat->List Deferred->List Deferred
|none,r,ds=>mkD r::ds
|some _,_,ds=>ds
def exJ (K:Nat->Nat->ao->Prop):List Nat->List (Option Code×(Nat->ao->Prop))
|[]=>[]
|i::l=>(ax (.exit i),K i)::exJ K l
def jsX (b:Code)(K:Exit->Nat->ao->Prop):List (Option Code×(Nat->ao->Prop)):=
 (aw,K .normal)::bc (jr b) ((ax .ret,K .ret)::exJ (λi=>K (.exit i)) (jx b)) (exJ (λi=>K (.exit i)) (jx b))
def begQ (K:Sg->ao->Prop):Ex
|.normal,σ,[],w=>K σ w
|_,_,_,_=>False
def rndQ (P:Program)(l:Nat)(R:VWP):Ex
|.normal,_,_,w=>EndX P l aw w R
|.ret,_,_,w=>EndX P l (ax .ret) w R
|.exit i,_,_,w=>EndX P l (ax (.exit i)) w R
|_,_,_,_=>False
structure PDo (P:Program) (m:Sem Next) (K:aq->Prop):Prop where
 mk ::
 out:∃v,(∀w,m.run P w=.ok (.value v) w)∧K v
def opP (P:Program)(o:Oper)(σ:Sg)(K:aq->Prop):Prop:=
 match o.op with
|.move x|.assign x=>K (rd σ x)
|_=>PDo P (Dg (rd σ) o) K
def J9 (P:Program)(n:Nat):List (Nat×Oper)->(Sg->Prop)->Sg->Prop
|[],K,σ=>K σ
|p::r,K,σ=>bc (inB n p.2.dst) (bc p.2.guard.isNone (opP P p.2 σ (λv=>J9 P n r K (put σ p.2.dst v))) False) False
def FD:List Oper->Nat->List (Nat×Oper)
|[],_=>[]
|o::l,k=>(k,o)::FD l (k+1)
def NJ:List Edge->List Nat
|[]=>[]
|e::l=>bc (Region.binds .any e) (e.on::NJ l) (NJ l)
def goDn:List (Nat×Oper)->List Nat->List Nat
|[],S=>S
|p::r,S=>goDn r (bc (Eg p.1 S) (NJ p.2.after.toList++S) S)
def outL (S:List Nat):List (Nat×Oper)->List Nat
|[]=>[]
|p::r=>bc (Eg p.1 S) (outL S r) (p.1::outL S r)
def arE:List Oper->List Nat
|[]=>[]
|o::_=>NJ o.after.toList
def amL (ops:List Oper)(n:Nat):List Nat:=
 goDn (FD (ops.take n) 0).reverse (outL (goDn (FD (ops.take n) 0).reverse (arE (ops.drop n))) (FD (ops.take n) 0))
def selL (S:List Nat):List (Nat×Oper)->List (Nat×Oper)
|[]=>[]
|p::r=>bc (Eg p.1 S) (p::selL S r) (selL S r)
def Jh (S:List Nat):List (Nat×Oper)->List (Nat×Oper)
|[]=>[]
|p::r=>bc (Eg p.1 S) (Jh S r) (p::Jh S r)
def pL (ops:List Oper)(n:Nat):List (Nat×Oper):=selL (amL ops n) (FD (ops.take n) 0)
def hL (ops:List Oper)(n:Nat):List (Nat×Oper):=Jh (amL ops n) (FD (ops.take n) 0)
def HG (P:Program)(n:Nat)(ops:Array Oper)(Q:Ex)(σ:Sg)(ds:List Deferred)(w:ao):Prop:=
 bc (P.follows .mixedOrders&&sN ops.toList)
  (DrawX w (λw=>Mw P n ops (λσ ds w=>Q .normal σ ds w) (λc σ ds w=>Q (.panic c) σ ds w) ops.size (Array.replicate ops.size au) σ ds w))
  False
structure HDo (P:Program) (S:ao->Prop) (m:Sem Next) (K:aq->Prop):Prop where
 mk ::
 out:∃v,(∀w,S w->m.run P w=.ok (.value v) w)∧K v
structure Au (w:ao) (F:(ao->Prop)->ao->Prop):Prop where
 mk ::
 out:∃S:ao->Prop,S { w with drawn:=w.drawn+1 }∧F S { w with drawn:=w.drawn+1 }
def opH (P:Program)(S:ao->Prop)(o:Oper)(σ:Sg)(K:aq->Prop):Prop:=
 match o.op with
|.move x|.assign x=>K (rd σ x)
|_=>HDo P S (Dg (rd σ) o) K
def Qv (P:Program)(n:Nat)(ops:Array Oper)(S:ao->Prop)(o:Oper)(σ:Sg)(next:Sg->Prop):Prop:=
 bc (inB n o.dst)
  (match o.guard with
 |none=>opH P S o σ (λv=>next (put σ o.dst v))
 |some (j,want)=>
   match Kl ops j with
  |some d=>bc (Nat.blt d n) (GQ (σ d) want (λK'=>opH P S o σ K') (λv=>next (put σ o.dst v))) False
  |none=>False)
  False
def VP (o:Oper):Bool:=
 match o.op with
|.call { callee:=.builtin _,.. }=>au
|.call _=>av
|_=>au
def meets:List Nat->List Nat->Bool
|[],_=>au
|i::l,S=>bc (Eg i S) av (meets l S)
def sP:List Operand->List Nat
|[]=>[]
|.tmp t::l=>t::sP l
|_::l=>sP l
def optL:Option Operand->List Operand
|none=>[]
|some x=>[x]
def sndL:List (Nat×Operand)->List Operand
|[]=>[]
|p::l=>p.2::sndL l
def adG:Op->List Nat
|.move x=>sP [x]
|.assign x=>sP [x]
|.load _ x=>sP [x]
|.nilCheck x=>sP [x]
|.unOp _ _ x=>sP [x]
|.convert _ _ x=>sP [x]
|.makeInterface _ x=>sP [x]
|.fieldAddr _ x _=>sP [x]
|.field _ x _=>sP [x]
|.entry x=>sP [x]
|.typeAssert x _ _ _=>sP [x]
|.extract x _=>sP [x]
|.pick c a b=>sP [c,a,b]
|.build _ ps=>sP (sndL ps.toList)
|.binOp _ _ a b _=>sP [a,b]
|.indexAddr _ a b=>sP [a,b]
|.index _ a b=>sP [a,b]
|.lookup _ a b _=>sP [a,b]
|.slice _ x l h m=>sP (x::optL l++optL h++optL m)
|.call c=>sP c.args.toList
|_=>[]
def DV (P:Program)(o:Oper):Bool:=
 match o.op with
|.move _=>av
|.assign _=>av
|.nilCheck _=>av
|.unOp _ _ _=>av
|.makeInterface _ _=>av
|.fieldAddr _ _ _=>av
|.field _ _ _=>av
|.extract _ _=>av
|.pick _ _ _=>av
|.build _ _=>av
|.binOp _ _ _ _ _=>av
|.indexAddr _ _ _=>av
|.index _ _ _=>av
|.slice _ _ _ _ _=>av
|.convert s _ _=>match P.underlying s with|some (.slice _)=>au|_=>av
|.call { callee:=.builtin .len,.. }=>av
|.call { callee:=.builtin .cap,.. }=>av
|.call { callee:=.builtin .min,.. }=>av
|.call { callee:=.builtin .max,.. }=>av
|_=>au
def ptrT (P:Program)(t:Nat):Bool:=match P.underlying t with|some (.pointer _)=>av|_=>au
def ahE (P:Program)(o:Oper):Bool:=
 bc (adO P o) av
  (match o.op with
 |.call c=>bc (VP o) (c.argTypes.toList.any (ptrT P)) au
 |_=>au)
def dstL:Option Nat->List Nat
|none=>[]
|some d=>[d]
def arV (o:Oper):Bool:=
 match o.op with
|.alloc _=>av
|.box ..=>av
|.buildSlice ..=>av
|_=>au
def eL2 (P:Program)(m:Bool):List Oper->Nat->List Nat->List Nat->List Nat->List Nat
|[],_,_,_,S=>S
|o::l,k,T,W,S=>
  bc (aoG P o||VP o)
   (eL2 P m l (k+1) (dstL o.dst++T) (bc (bc (m&&arV o) au (ahE P o)||meets (NJ o.after.toList) W) (k::W) W) (k::S))
   (eL2 P m l (k+1) (bc (meets (adG o.op) T) (dstL o.dst++T) T) (bc (meets (NJ o.after.toList) W) (k::W) W)
    (bc (!(DV P o)&&(meets (adG o.op) T||meets (NJ o.after.toList) W)) (k::S) S))
def eL (P:Program)(l:List Oper)(k:Nat)(S:List Nat):List Nat:=eL2 P (Nat.blt 70 l.length) l k [] [] S
def MM (ops:Array Oper)(E:List Nat)(listed:Array Bool):List Nat->Option Nat
|[]=>aw
|i::l=>bc (!(Eg i E)&&Region.free .any ops listed i) (ax i) (MM ops E listed l)
def isSt (o:Oper):Bool:=
 match o.op with
|.store ..=>av
|_=>au
def YE:List Oper->Bool
|[]=>au
|o::l=>bc (isSt o) av (YE l)
def isLk (o:Oper):Bool:=
 match o.op with
|.lookup ..=>av
|_=>au
def amR:List Oper->Bool
|[]=>au
|o::l=>bc (isLk o) av (amR l)
def isMu (o:Oper):Bool:=
 match o.op with
|.mapUpdate ..=>av
|_=>au
def alD:List Oper->Bool
|[]=>au
|o::l=>bc (isMu o) av (alD l)
def RE (l:List Oper):Bool:=bc (YE l) av (bc (amR l) (alD l) au)
def abV (P:Program)(E A:List Nat):List (Nat×Oper)->Bool
|[]=>au
|p::r=>bc (Eg p.1 E||(DV P p.2||Eg p.1 A)) (abV P E A r) av
def Oo (P:Program)(ops:Array Oper)(E:List Nat)(o:Oper):Bool:=bc (RE ops.toList) (abV P E (NJ o.after.toList) (FD ops.toList 0)) av
def Zy (P:Program)(ops:Array Oper)(S:ao->Prop)(o:Oper):ao->Prop:=bc (RE ops.toList&&DV P o) (λ_=>True) S
def AK (P:Program)(n:Nat)(ops:Array Oper)(E:List Nat)(S:ao->Prop)(K:Nx)(PK:List PanicEntry->Nx):Nat->Array Bool->Sg->List Deferred->ao->Prop
|0,listed,σ,ds,w=>bc (isNil (Region.ready .any ops listed)) (K σ ds w) False
|f+1,listed,σ,ds,w=>
  bc (isNil (Region.ready .any ops listed)) (K σ ds w)
   (match MM ops E listed (Region.ready .any ops listed) with
  |some i=>(match ops[i]? with
   |none=>False
   |some o=>Qv P n ops (Zy P ops S o) o σ (λσ'=>AK P n ops E S K PK f (listed.setIfInBounds i av) σ' ds w))
  |none=>andL ((Region.ready .any ops listed).map λi=>match ops[i]? with
   |none=>False
   |some o=>Pv P n ops o σ w (λσ' w'=>bc (Oo P ops E o) (S w'∧AK P n ops E S K PK f (listed.setIfInBounds i av) σ' ds w') (AK P n ops E S K PK f (listed.setIfInBounds i av) σ' ds w')) (λc w=>PK c σ ds w)))
def WO (P:Program)(n:Nat)(ops:Array Oper):Bool:=
 Nat.blt 5 ops.size&&(P.follows .mixedOrders&&(Region.noSelect ops&&(Kx n (Jh (eL P ops.toList 0 []) (FD ops.toList 0))&&(VU P ops.toList&&sN ops.toList))))
def D4 (P:Program)(n:Nat)(ops:Array Oper)(Q:Ex)(σ:Sg)(ds:List Deferred)(w:ao):Prop:=
 bc (WO P n ops)
  (Au w (λS w=>AK P n ops (eL P ops.toList 0 []) S (λσ ds w=>Q .normal σ ds w) (λc=>pmX (Jh (eL P ops.toList 0 []) (FD ops.toList 0)) (λσ ds w=>Q (.panic c) σ ds w)) ops.size (Array.replicate ops.size au) σ ds w))
  (HG P n ops Q σ ds w)
def cntO (p:Oper->Bool):List Oper->Nat
|[]=>0
|o::l=>bc (p o) (cntO p l+1) (cntO p l)
def isIA (o:Oper):Bool:=
 match o.op with
|.indexAddr ..=>av
|_=>au
def aiA (o:Oper):Bool:=
 match o.op with
|.call { callee:=.value (.func _),args,.. }=>Nat.beq args.size 3
|_=>au
def Zr (l:List Oper):Bool:=Nat.beq (cntO aiA l) 1&&(Nat.beq (cntO VP l) 1&&(Nat.beq (cntO isIA l) 2&&!(YE l)))
def Oq (P:Program)(n:Nat)(ops:Array Oper):Bool:=WO P n ops&&Zr ops.toList
def Ze (P:Program):List (Nat×Oper)->Bool
|[]=>av
|p::r=>bc (DV P p.2) (Ze P r) au
def Ly (P:Program)(n:Nat)(ops:Array Oper)(Q:Ex)(σ:Sg)(ds:List Deferred)(w:ao):Prop:=
 bc ((Nat.blt 9 ops.size&&Ze P (pL ops.toList (aX P ops.toList)))&&(P.follows .mixedOrders&&(Sz ops (aX P ops.toList) (pL ops.toList (aX P ops.toList)) (hL ops.toList (aX P ops.toList))&&(Kx n (pL ops.toList (aX P ops.toList))&&(Im P (ops.toList.drop (aX P ops.toList))&&sN ops.toList)))))
  (nK w (λC=>J9 P n (pL ops.toList (aX P ops.toList)) (λσ=>oA P n ops C (λσ=>∀w',C w'->Bw P aw n ops (λσ ds w=>Q .normal σ ds w) (λc=>pmX (pL ops.toList (aX P ops.toList)) (λσ ds w=>Q (.panic c) σ ds w)) (ops.toList.drop (aX P ops.toList)) σ ds w')
   (snds (hL ops.toList (aX P ops.toList))) σ) σ))
  (D4 P n ops Q σ ds w)
def wpX (P:Program)(n:Nat)(aj d:List (Nat×List Nat)):Option Nat->Code->Ex->Sg->List Deferred->ao->Prop
|ro,.skip,Q,σ,ds,w=>Q .normal σ ds w
|ro,.region _ ops draw,Q,σ,ds,w=>
  bc draw
   (bc (Oq P n ops) (D4 P n ops Q σ ds w)
   (bc (Nat.beq (aX P ops.toList) ops.toList.length)
    (bc (P.follows .mixedOrders&&(Region.lexB .any ops&&sN ops.toList))
     (nK w (λC=>oA P n ops C (λσ=>∀w',C w'->Q .normal σ ds w') ops.toList σ))
     (Ly P n ops Q σ ds w))
    (bc (P.follows .mixedOrders&&(Region.lexTailB .any ops (aX P ops.toList)&&(Im P (ops.toList.drop (aX P ops.toList))&&sN ops.toList)))
     (nK w (λC=>oA P n ops C (λσ=>∀w',C w'->Bw P aw n ops (λσ ds w=>Q .normal σ ds w) (λc σ ds w=>Q (.panic c) σ ds w) (ops.toList.drop (aX P ops.toList)) σ ds w') (ops.toList.take (aX P ops.toList)) σ))
     (bc (P.follows .mixedOrders&&(PS ops (aX P ops.toList) (mvL (ops.toList.take (aX P ops.toList)) 0 []) (hdL (ops.toList.take (aX P ops.toList)) 0 [])&&(Kx n (mvL (ops.toList.take (aX P ops.toList)) 0 [])&&(Im P (ops.toList.drop (aX P ops.toList))&&sN ops.toList))))
      (nK w (λC=>oA P n ops C (λσ=>∀w',C w'->Bw P aw n ops (λσ ds w=>Q .normal σ ds w) (λc=>pmX (mvL (ops.toList.take (aX P ops.toList)) 0 []) (λσ ds w=>Q (.panic c) σ ds w)) (ops.toList.drop (aX P ops.toList)) σ ds w')
       (snds (hdL (ops.toList.take (aX P ops.toList)) 0 [])) (UY (mvL (ops.toList.take (aX P ops.toList)) 0 []) σ)))
      (Ly P n ops Q σ ds w)))))
   (Bw P ro n ops (λσ ds w=>Q .normal σ ds w) (λc σ ds w=>Q (.panic c) σ ds w) ops.toList σ ds w)
|ro,.seq a b,Q,σ,ds,w=>
  bc (Nat.ble (ways a) 1) (wpX P n aj d ro a (On Q (λσ ds w=>wpX P n aj d ro b Q σ ds w)) σ ds w)
   (bc (mkB ro a)
    (JoinD (λJ=>wpX P n aj d ro a (On Q (λσ' ds' w'=>J ds' (pick (look (keyOf b) aj) σ') w')) σ ds w)
     (λds' vs w'=>∀j,wpX P n aj d ro b Q (mix σ (asg a) (look (keyOf b) aj) vs j) ds' w'))
    (D9 (λJ=>wpX P n aj d ro a (On Q (λσ' ds' w'=>AtX ds' ds (J (pick (look (keyOf b) aj) σ') w'))) σ ds w)
     (λvs w'=>∀j,wpX P n aj d ro b Q (mix σ (asg a) (look (keyOf b) aj) vs j) ds w')))
|ro,.cond c a b,Q,σ,ds,w=>IfX (rd σ c) (wpX P n aj d ro a Q σ ds w) (wpX P n aj d ro b Q σ ds w)
|ro,.block id a,Q,σ,ds,w=>wpX P n aj d ro a (adS id Q) σ ds w
|ro,.loop a,Q,σ,ds,w=>
  bc (mkB ro a)
   (LoopD ds (pick (look (keyOf a) d) σ) w (λds vs w next=>∀j,wpX P n aj d ro a (On Q (λσ' ds' w'=>next ds' (pick (look (keyOf a) d) σ') w')) (mix σ (asg a) (look (keyOf a) d) vs j) ds w))
   (Ax (pick (look (keyOf a) d) σ) w (λvs w next=>∀j,wpX P n aj d ro a (On Q (λσ' ds' w'=>AtX ds' ds (next (pick (look (keyOf a) d) σ') w'))) (mix σ (asg a) (look (keyOf a) d) vs j) ds w))
|ro,.exit id,Q,σ,ds,w=>Q (.exit id) σ ds w
|ro,.ret,Q,σ,ds,w=>Q .ret σ ds w
|ro,.rangeFunc g ps f b,Q,σ,ds,w=>
  bc (Qu n ps.toList)
   (RangeX P ro ps.toList.length (rd σ g) w
    (λl args W R=>wpX P n aj d (ax l) f (begQ (λσ1 h=>BegX P l h (λi=>wpX P n aj d (ax l) b (rndQ P l R) σ1 [] i))) (putL ps.toList args 0 σ) [] W)
    (jsX b (λe r W=>Q e σ (Ua ro r ds) W)))
   False
|_,_,_,_,_,_=>False
end Eng
end
section
namespace Eng
open Go.RowKit
theorem beq_iff {a:Nat}:Nat.beq a b=av↔a=b:=by rw[Nat.beq_eq]
theorem mem_iff {i:Nat}:∀{l:List Nat},mem i l=av↔i∈l
|[]=>by simp[mem]
|j::l=>by simp[mem,mem_iff (l:=l),beq_iff]
def Off (A:List Nat)(σ σ':Sg):Prop:=∀i,mem i A=au->σ' i=σ i
theorem Off.refl (A:List Nat)(σ:Sg):Off A σ σ:=λ_ _=>rfl
theorem Off.trans {A:List Nat}{a b c:Sg}(h:Off A a b)(k:Off A b c):Off A a c:=λi hi=>(k i hi).trans (h i hi)
theorem Off.mono {A:List Nat}{a b:Sg}(h:Off A a b)(c:∀i,i∈A->i∈B):Off B a b:=λi hi=>h i (by
 cases hm:mem i A with
|false=>rfl
|true=>
  have:=mem_iff.2 (c i (mem_iff.1 hm));rw[this] at hi;cases hi)
theorem Off.put {A:List Nat}(σ:Sg)(d:Option Nat)(v:aq)(h:∀i,d=ax i->i∈A):Off A σ (put σ d v):=by
 intro i hi;cases d with
|none=>rfl
|some d=>
  simp only[Eng.put,upd];cases a:Nat.beq i d with
 |false=>rfl
 |true=>
   have e:=beq_iff.1 a;subst e;rw[mem_iff.2 (h i rfl)] at hi;cases hi
theorem oV.mono {K K':VWP}{PK a:PKT}(h:∀v w,K v w->K' v w)(hp:∀c w,PK c w->a c w):∀e w,oV K PK e w->oV K' a e w
|.returned v,w=>h v w
|.panicked c,w=>hp c w
|.outgrown,_=>id
theorem Mv.mono {P:Program}{r:Result Next}{K K':VWP}{PK a:PKT}(h:∀v w,K v w->K' v w)(hp:∀c w,PK c w->a c w)(hu:Mv P r K PK):Mv P r K' a:=by
 unfold Mv at *;split at hu
 ·exact h _ _ hu
 ·exact h _ _ hu
 ·exact⟨Calls.mono hu.out (oV.mono h hp)⟩
 ·exact⟨RoundIn.mono hu.out (oV.mono h hp)⟩
 ·exact hp _ _ hu
 ·exact hu.elim
theorem opV.mono {P:Program}{o:Oper}{σ:Sg}{w:ao}{K K':VWP}{PK a:PKT}(h:∀v w,K v w->K' v w)(hp:∀c w,PK c w->a c w)(hu:opV P o σ w K PK):opV P o σ w K' a:=by
 unfold opV at *;split at hu
 ·exact h _ _ hu
 ·exact h _ _ hu
 ·cases b:bY P _ with
 |true=>rw[b,aF] at hu;rw[aF];exact⟨Calls.mono hu.out (oV.mono h hp)⟩
 |false=>rw[b,aE] at hu;rw[aE];exact⟨Mv.mono h hp hu.out⟩
 ·exact hu.elim
 ·exact⟨Mv.mono h hp hu.out⟩
theorem Bw.eJ {n:Nat}{K K':Nx}{PK f:List PanicEntry->Nx}{A:List Nat}{σ₀:Sg}
  (h:∀σ ds w,Off A σ₀ σ->K σ ds w->K' σ ds w) (hp:∀c σ ds w,Off A σ₀ σ->PK c σ ds w->f c σ ds w) :
  ∀(l:List Oper) (σ:Sg) (ds:List Deferred) (w:ao),(∀i,i∈HB l->i∈A)->Off A σ₀ σ->Bw P ro n ops K PK l σ ds w->Bw P ro n ops K' f l σ ds w:=by
 intro l
 induction l with
|nil=>intro σ ds w _ g hu;exact h _ _ _ g hu
|cons o rest k=>
  intro σ ds w r g hu;have b:∀i,i∈HB rest->i∈A:=λi hi=>r i (by unfold HB;split<;>simp[hi]);have a:∀v,Off A σ₀ (put σ o.dst v):=λv=>g.trans (Off.put σ o.dst v (λi hi=>r i (by simp[HB,hi])));unfold Bw at hu ⊢;cases hd:inB n o.dst with
 |false=>rw[hd,aE] at hu;exact hu.elim
 |true=>
   rw[hd,aF] at hu;rw[aF];cases s:o.guard with
  |none=>
    simp only[s] at hu ⊢;split at hu
    ·rename_i c x
     cases ro with
    |some _=>exact hu.elim
    |none=>
     simp only at hu ⊢;split at hu
     ·exact k _ _ _ b (a _) hu
     ·obtain⟨d,q,hu⟩:=hu.out;exact⟨d,q,k _ _ _ b (a _) hu⟩
    ·rename_i t
     exact opV.mono (λv w e=>k _ _ _ b (a v) e) (λc w e=>hp c σ ds w g e) hu
  |some u=>
    obtain⟨j,want⟩:=u;simp only[s] at hu ⊢;split at hu
    ·rename_i d y
     cases m:Nat.blt d n with
    |false=>rw[m,aE] at hu;exact hu.elim
    |true=>
      rw[m,aF] at hu;rw[aF];refine⟨?_⟩
      replace hu:=hu.out
      cases p:kR (σ d) want with
     |true=>rw[p,aF] at hu;rw[aF];exact opV.mono (λv w e=>k _ _ _ b (a v) e) (λc w e=>hp c σ ds w g e) hu
     |false=>rw[p,aE] at hu;rw[aE];exact k _ _ _ b (a _) hu
    ·exact hu.elim
theorem OG.mono {P:Program}{n:Nat}{ops:Array Oper}{o:Oper}{σ:Sg}{w:ao}{K K':Sg->ao->Prop}{PK a:PKT}(h:∀v w,K (put σ o.dst v) w->K' (put σ o.dst v) w)(hp:∀c w,PK c w->a c w)(hu:OG P n ops o σ w K PK):OG P n ops o σ w K' a:=by
 unfold OG at hu ⊢;cases hd:inB n o.dst with
|false=>rw[hd,aE] at hu;exact hu.elim
|true=>
  rw[hd,aF] at hu;rw[aF];cases f:o.guard with
 |none=>simp only[f] at hu ⊢;exact opV.mono h hp hu
 |some g=>
   obtain⟨j,want⟩:=g;simp only[f] at hu ⊢;split at hu
   ·rename_i d i
    cases b:Nat.blt d n with
   |false=>rw[b,aE] at hu;exact hu.elim
   |true=>
     rw[b,aF] at hu;rw[aF];refine⟨?_⟩
     replace hu:=hu.out
     cases e:kR (σ d) want with
    |true=>rw[e,aF] at hu;rw[aF];exact opV.mono h hp hu
    |false=>rw[e,aE] at hu;rw[aE];exact h _ _ hu
   ·exact hu.elim
theorem opW.mono {P:Program}{o:Oper}{σ:Sg}{w:ao}{K K':VWP}{PK a:PKT}(h:∀v w,K v w->K' v w)(hp:∀c w,PK c w->a c w)(hu:opW P o σ w K PK):opW P o σ w K' a:=by
 unfold opW at *;split at hu
 ·exact opV.mono h hp hu
 ·obtain⟨f,fa,ca,b,d,e⟩:=hu.out;exact⟨f,fa,ca,b,d,⟨Calls.mono e.out (oV.mono h hp)⟩⟩
 ·exact opV.mono h hp hu
theorem Pv.mono {P:Program}{n:Nat}{ops:Array Oper}{o:Oper}{σ:Sg}{w:ao}{K K':Sg->ao->Prop}{PK a:PKT}(h:∀v w,K (put σ o.dst v) w->K' (put σ o.dst v) w)(hp:∀c w,PK c w->a c w)(hu:Pv P n ops o σ w K PK):Pv P n ops o σ w K' a:=by
 unfold Pv at hu ⊢;cases hd:inB n o.dst with
|false=>rw[hd,aE] at hu;exact hu.elim
|true=>
  rw[hd,aF] at hu;rw[aF];cases f:o.guard with
 |none=>simp only[f] at hu ⊢;exact opW.mono h hp hu
 |some g=>
   obtain⟨j,want⟩:=g;simp only[f] at hu ⊢;split at hu
   ·rename_i d i
    cases b:Nat.blt d n with
   |false=>rw[b,aE] at hu;exact hu.elim
   |true=>
     rw[b,aF] at hu;rw[aF];refine⟨?_⟩
     replace hu:=hu.out
     cases e:kR (σ d) want with
    |true=>rw[e,aF] at hu;rw[aF];exact opW.mono h hp hu
    |false=>rw[e,aE] at hu;rw[aE];exact h _ _ hu
   ·exact hu.elim
theorem Mw.eJ {P:Program}{n:Nat}{ops:Array Oper}{K K':Nx}{PK b:List PanicEntry->Nx}{A:List Nat}{σ₀:Sg}(m:∀o,o∈ops.toList->∀i,o.dst=ax i->i∈A)
  (h:∀σ ds w,Off A σ₀ σ->K σ ds w->K' σ ds w) (hp:∀c σ ds w,Off A σ₀ σ->PK c σ ds w->b c σ ds w) :
  ∀(fuel:Nat) (listed:Array Bool) (σ:Sg) (ds:List Deferred) (w:ao),Off A σ₀ σ->Mw P n ops K PK fuel listed σ ds w->Mw P n ops K' b fuel listed σ ds w
|0,listed,σ,ds,w,d,hu=>by
  unfold Mw at hu ⊢;cases e:isNil (Region.ready .any ops listed) with
 |false=>rw[e,aE] at hu;exact hu.elim
 |true=>rw[e,aF] at hu;rw[aF];exact h _ _ _ d hu
|f+1,listed,σ,ds,w,d,hu=>by
  unfold Mw at hu ⊢;cases e:isNil (Region.ready .any ops listed) with
 |true=>rw[e,aF] at hu;rw[aF];exact h _ _ _ d hu
 |false=>
   rw[e,aE] at hu;rw[aE];refine QY λp j=>?_;obtain⟨i,hi,rfl⟩:=auH.1 j;have k:=EG hu _ (auH.2 ⟨i,hi,rfl⟩);cases a:ops[i]? with
  |none=>simp only[a] at k
  |some o=>
    simp only[a] at k ⊢;have g:o∈ops.toList:=by
     have:=azD a;simpa using this
    exact OG.mono (λv w l=>Mw.eJ m h hp f _ _ ds w (d.trans (Off.put σ o.dst v (λi hi=>m o g i hi))) l) (λc w l=>hp c σ ds w d l) k
theorem opQ.mono {o:Oper}{σ:Sg}{K K':aq->Prop}(h:∀v,K v->K' v)(hu:opQ P C o σ K):opQ P C o σ K':=by
 unfold opQ at *;split at hu
 ·exact h _ hu
 ·exact h _ hu
 ·cases c:bY P _ with
 |true=>rw[c,aF] at hu;rw[aF];exact let ⟨v,a,b⟩:=hu.out;⟨v,a,h _ b⟩
 |false=>rw[c,aE] at hu;rw[aE];exact let ⟨v,a,b⟩:=hu.out;⟨v,a,h _ b⟩
 ·exact let ⟨v,a,b⟩:=hu.out;⟨v,a,h _ b⟩
theorem oA.eJ {n:Nat}{K K':Sg->Prop}{A:List Nat}{σ₀:Sg}
  (h:∀σ,Off A σ₀ σ->K σ->K' σ) :
  ∀(l:List Oper) (σ:Sg),(∀i,i∈HB l->i∈A)->Off A σ₀ σ->oA P n ops C K l σ->oA P n ops C K' l σ:=by
 intro l
 induction l with
|nil=>intro σ _ f hu;exact h _ f hu
|cons o rest g=>
  intro σ m f hu;have b:∀i,i∈HB rest->i∈A:=λi hi=>m i (by unfold HB;split<;>simp[hi]);have a:∀v,Off A σ₀ (put σ o.dst v):=λv=>f.trans (Off.put σ o.dst v (λi hi=>m i (by simp[HB,hi])));unfold oA at hu ⊢;cases hd:inB n o.dst with
 |false=>rw[hd,aE] at hu;exact hu.elim
 |true=>
   rw[hd,aF] at hu;rw[aF];cases p:o.guard with
  |none=>
    simp only[p] at hu ⊢;exact opQ.mono (λv k=>g _ b (a v) k) hu
  |some q=>
    obtain⟨j,want⟩:=q;simp only[p] at hu ⊢;split at hu
    ·rename_i d r
     cases c:Nat.blt d n with
    |false=>rw[c,aE] at hu;exact hu.elim
    |true=>
      rw[c,aF] at hu;rw[aF];refine⟨?_⟩
      replace hu:=hu.out
      cases e:kR (σ d) want with
     |true=>rw[e,aF] at hu;rw[aF];exact opQ.mono (λv k=>g _ b (a v) k) hu
     |false=>rw[e,aE] at hu;rw[aE];exact g _ b (a _) hu
    ·exact hu.elim
theorem opP.mono {o:Oper}{σ:Sg}{K K':aq->Prop}(h:∀v,K v->K' v)(hu:opP P o σ K):opP P o σ K':=by
 unfold opP at hu ⊢;split at hu
 ·exact h _ hu
 ·exact h _ hu
 ·obtain⟨v,a,b⟩:=hu.out;exact⟨v,a,h _ b⟩
theorem J9.eJ {P:Program}{n:Nat}{K K':Sg->Prop}{A:List Nat}{σ₀:Sg}(h:∀σ,Off A σ₀ σ->K σ->K' σ):∀(l:List (Nat×Oper)) (σ:Sg),(∀p,p∈l->∀i,p.2.dst=ax i->i∈A)->Off A σ₀ σ->J9 P n l K σ->J9 P n l K' σ
|[],σ,_,a,hu=>h σ a hu
|p::r,σ,b,a,hu=>by
  unfold J9 at hu ⊢;cases hd:inB n p.2.dst with
 |false=>rw[hd,aE] at hu;exact hu.elim
 |true=>
   rw[hd,aF] at hu;rw[aF];cases c:p.2.guard.isNone with
  |false=>rw[c,aE] at hu;exact hu.elim
  |true=>
    rw[c,aF] at hu;rw[aF];exact hu.mono λv d=>J9.eJ h r _ (λq e=>b q (auE _ e)) (a.trans (Off.put σ p.2.dst v (b p (auV ..)))) d
theorem HG.eJ {P:Program}{n:Nat}{ops:Array Oper}{Q Q':Ex}{A:List Nat}{σ₀ σ:Sg}{ds:List Deferred}{w:ao}(f:∀o,o∈ops.toList->∀i,o.dst=ax i->i∈A)
  (h:∀e σ ds w,Off A σ₀ σ->Q e σ ds w->Q' e σ ds w) (a:Off A σ₀ σ) (hu:HG P n ops Q σ ds w):HG P n ops Q' σ ds w:=by
 unfold HG at hu ⊢;cases d:(P.follows .mixedOrders&&sN ops.toList) with
|false=>rw[d,aE] at hu;exact hu.elim
|true=>
  rw[d,aF] at hu;rw[aF];refine⟨?_⟩
  replace hu:=hu.out
  exact Mw.eJ f (λσ ds w a b=>h _ _ _ _ a b) (λc σ ds w a b=>h _ _ _ _ a b) _ _ _ _ _ a hu
theorem iT {i:Nat}:∀{l:List Oper},i∈HB l↔∃o,o∈l∧o.dst=ax i
|[]=>by simp[HB]
|o::l=>by
  unfold HB;split
  ·rename_i d hd
   simp only[atL,iT (l:=l)];constructor
   ·rintro (rfl|⟨o',b,a⟩)
    ·exact⟨o,.inl rfl,hd⟩
    ·exact⟨o',.inr b,a⟩
   ·rintro⟨o',rfl|b,a⟩
    ·rw[hd] at a;cases a;exact .inl rfl
    ·exact .inr ⟨o',b,a⟩
  ·rename_i hd
   simp only[atL,iT (l:=l)];constructor
   ·rintro⟨o',b,a⟩;exact⟨o',.inr b,a⟩
   ·rintro⟨o',rfl|b,a⟩
    ·rw[hd] at a;cases a
    ·exact⟨o',b,a⟩
theorem YO (l:List Oper):∀(k:Nat) (ms:List Nat) (p:Nat×Oper),p∈mvL l k ms->k<=p.1∧l[p.1 - k]?=ax p.2:=by
 induction l with
|nil=>intro k ms p h;cases h
|cons o l b=>
  intro k ms p h;unfold mvL at h;cases c:(isMv o&&Ok ms o) with
 |true=>
   rw[c,aF] at h;rcases atL.1 h with rfl|h
   ·exact⟨atE _,sm⟩
   ·obtain⟨d,a⟩:=b (k+1) _ p h;refine⟨om,?_⟩;rw[show p.1 - k=(p.1 - (k+1))+1 by omega];exact a
 |false=>
   rw[c,aE] at h;obtain⟨d,a⟩:=b (k+1) _ p h;refine⟨om,?_⟩;rw[show p.1 - k=(p.1 - (k+1))+1 by omega];exact a
theorem XW (l:List Oper):∀(k:Nat) (ms:List Nat) (p:Nat×Oper),p∈hdL l k ms->k<=p.1∧l[p.1 - k]?=ax p.2:=by
 induction l with
|nil=>intro k ms p h;cases h
|cons o l b=>
  intro k ms p h;unfold hdL at h;cases c:(isMv o&&Ok ms o) with
 |false=>
   rw[c,aE] at h;rcases atL.1 h with rfl|h
   ·exact⟨atE _,sm⟩
   ·obtain⟨d,a⟩:=b (k+1) _ p h;refine⟨om,?_⟩;rw[show p.1 - k=(p.1 - (k+1))+1 by omega];exact a
 |true=>
   rw[c,aF] at h;obtain⟨d,a⟩:=b (k+1) _ p h;refine⟨om,?_⟩;rw[show p.1 - k=(p.1 - (k+1))+1 by omega];exact a
theorem NV {o:Oper}:∀{l:List (Nat×Oper)},o∈snds l->∃p,p∈l∧p.2=o
|[],h=>by cases h
|p::l,h=>by
  rcases atL.1 h with rfl|h
  ·exact⟨p,sm,rfl⟩
  ·obtain⟨q,a,b⟩:=NV h;exact⟨q,by simp[a],b⟩
theorem Xj {A:List Nat}{σ₀:Sg}(ms:List (Nat×Oper)):∀(σ:Sg),(∀p,p∈ms->∀i,p.2.dst=ax i->i∈A)->Off A σ₀ σ->Off A σ₀ (UY ms σ):=by
 induction ms with
|nil=>intro σ _ h;exact h
|cons p r b=>
  intro σ a h;exact b _ (λq c=>a q (by simp[c])) (h.trans (Off.put σ p.2.dst _ (λi hi=>a p sm i hi)))
theorem Hi {A:List Nat}{σ₀:Sg}{K K':Nx}(h:∀σ ds w,Off A σ₀ σ->K σ ds w->K' σ ds w)(ms:List (Nat×Oper)):∀(σ:Sg) (ds:List Deferred) (w:ao),(∀p,p∈ms->∀i,p.2.dst=ax i->i∈A)->Off A σ₀ σ->pmX ms K σ ds w->pmX ms K' σ ds w:=by
 induction ms with
|nil=>intro σ ds w _ a b;exact h _ _ _ a b
|cons p r d=>
  intro σ ds w c a b u;exact d _ _ _ (λq e=>c q (by simp[e])) (a.trans (Off.put σ p.2.dst _ (λi hi=>c p sm i hi))) (b u)
theorem Oh (l:List Oper):∀(k:Nat) (p:Nat×Oper),p∈FD l k->k<=p.1∧l[p.1 - k]?=ax p.2:=by
 induction l with
|nil=>intro k p h;cases h
|cons o l a=>
  intro k p h;rcases atL.1 h with rfl|h
  ·exact⟨atE _,sm⟩
  ·obtain⟨c,b⟩:=a (k+1) p h;refine⟨om,?_⟩;rw[show p.1 - k=(p.1 - (k+1))+1 by omega];exact b
theorem Og {S:List Nat}{p:Nat×Oper}:∀{l:List (Nat×Oper)},p∈selL S l->p∈l
|[],h=>by cases h
|q::l,h=>by
  unfold selL at h;cases hm:Eg q.1 S with
 |true=>
   rw[hm,aF] at h;rcases atL.1 h with rfl|h
   ·simp
   ·exact auE _ (Og h)
 |false=>rw[hm,aE] at h;exact auE _ (Og h)
theorem Je {S:List Nat}{p:Nat×Oper}:∀{l:List (Nat×Oper)},p∈Jh S l->p∈l
|[],h=>by cases h
|q::l,h=>by
  unfold Jh at h;cases hm:Eg q.1 S with
 |true=>rw[hm,aF] at h;exact auE _ (Je h)
 |false=>
   rw[hm,aE] at h;rcases atL.1 h with rfl|h
   ·simp
   ·exact auE _ (Je h)
theorem aeK {l:List Oper}{n:Nat}{p:Nat×Oper}(h:p∈pL l n):(l.take n)[p.1 - 0]?=ax p.2:=(Oh _ 0 p (Og h)).2
theorem acQ {l:List Oper}{n:Nat}{p:Nat×Oper}(h:p∈hL l n):(l.take n)[p.1 - 0]?=ax p.2:=(Oh _ 0 p (Je h)).2
theorem opH.mono {S:ao->Prop}{o:Oper}{σ:Sg}{K K':aq->Prop}(h:∀v,K v->K' v)(hu:opH P S o σ K):opH P S o σ K':=by
 unfold opH at hu ⊢;split at hu
 ·exact h _ hu
 ·exact h _ hu
 ·obtain⟨v,a,b⟩:=hu.out;exact⟨v,a,h _ b⟩
theorem Qv.mono {P:Program}{n:Nat}{ops:Array Oper}{S:ao->Prop}{o:Oper}{σ:Sg}{K K':Sg->Prop}(h:∀v,K (put σ o.dst v)->K' (put σ o.dst v))(hu:Qv P n ops S o σ K):Qv P n ops S o σ K':=by
 unfold Qv at hu ⊢;cases hd:inB n o.dst with
|false=>rw[hd,aE] at hu;exact hu.elim
|true=>
  rw[hd,aF] at hu;rw[aF];cases c:o.guard with
 |none=>simp only[c] at hu ⊢;exact hu.mono h
 |some e=>
   obtain⟨j,want⟩:=e;simp only[c] at hu ⊢;split at hu
   ·rename_i d f
    cases a:Nat.blt d n with
   |false=>rw[a,aE] at hu;exact hu.elim
   |true=>
     rw[a,aF] at hu;rw[aF];refine⟨?_⟩
     replace hu:=hu.out
     cases b:kR (σ d) want with
    |true=>rw[b,aF] at hu;rw[aF];exact hu.mono h
    |false=>rw[b,aE] at hu;rw[aE];exact h _ hu
   ·exact hu.elim
theorem AK.eJ {P:Program}{n:Nat}{ops:Array Oper}{E:List Nat}{S:ao->Prop}{K K':Nx}{PK g:List PanicEntry->Nx}{A:List Nat}{σ₀:Sg}(e:∀o,o∈ops.toList->∀i,o.dst=ax i->i∈A)
  (h:∀σ ds w,Off A σ₀ σ->K σ ds w->K' σ ds w) (hp:∀c σ ds w,Off A σ₀ σ->PK c σ ds w->g c σ ds w) :
  ∀(fuel:Nat) (listed:Array Bool) (σ:Sg) (ds:List Deferred) (w:ao),Off A σ₀ σ->AK P n ops E S K PK fuel listed σ ds w->AK P n ops E S K' g fuel listed σ ds w
|0,listed,σ,ds,w,d,hu=>by
  unfold AK at hu ⊢;cases j:isNil (Region.ready .any ops listed) with
 |false=>rw[j,aE] at hu;exact hu.elim
 |true=>rw[j,aF] at hu;rw[aF];exact h _ _ _ d hu
|f+1,listed,σ,ds,w,d,hu=>by
  unfold AK at hu ⊢;cases j:isNil (Region.ready .any ops listed) with
 |true=>rw[j,aF] at hu;rw[aF];exact h _ _ _ d hu
 |false=>
   rw[j,aE] at hu;rw[aE];have mem:∀i o,ops[i]?=ax o->o∈ops.toList:=λi o a=>by
    have:=azD a;simpa using this
   cases r:MM ops E listed (Region.ready .any ops listed) with
  |some i=>
    simp only[r] at hu ⊢;cases a:ops[i]? with
   |none=>simp only[a] at hu
   |some o=>
     simp only[a] at hu ⊢;exact hu.mono λv b=>AK.eJ e h hp f _ _ ds w (d.trans (Off.put σ o.dst v (λk hi=>e o (mem i o a) k hi))) b
  |none=>
    simp only[r] at hu ⊢;refine QY λp m=>?_;obtain⟨i,hi,rfl⟩:=auH.1 m;have q:=EG hu _ (auH.2 ⟨i,hi,rfl⟩);cases a:ops[i]? with
   |none=>simp only[a] at q
   |some o=>
     simp only[a] at q ⊢;refine Pv.mono (λv w b=>?_) (λc w b=>hp c σ ds w d b) q;cases l:Oo P ops E o with
    |true=>rw[l,aF] at b;rw[aF];exact⟨b.1,AK.eJ e h hp f _ _ ds w (d.trans (Off.put σ o.dst v (λk hi=>e o (mem i o a) k hi))) b.2⟩
    |false=>rw[l,aE] at b;rw[aE];exact AK.eJ e h hp f _ _ ds w (d.trans (Off.put σ o.dst v (λk hi=>e o (mem i o a) k hi))) b
theorem YQ {S:List Nat}{l:List Oper}{p:Nat×Oper}(h:p∈Jh S (FD l 0)):l[p.1]?=ax p.2:=by
 have:=(Oh l 0 p (Je h)).2;simpa using this
theorem D4.eJ {P:Program}{n:Nat}{ops:Array Oper}{Q Q':Ex}{A:List Nat}{σ₀ σ:Sg}{ds:List Deferred}{w:ao}(d:∀o,o∈ops.toList->∀i,o.dst=ax i->i∈A)
  (h:∀e σ ds w,Off A σ₀ σ->Q e σ ds w->Q' e σ ds w) (a:Off A σ₀ σ) (hu:D4 P n ops Q σ ds w):D4 P n ops Q' σ ds w:=by
 unfold D4 at hu ⊢;cases g:WO P n ops with
|false=>
  rw[g,aE] at hu;rw[aE];exact HG.eJ d h a hu
|true=>
  rw[g,aF] at hu;rw[aF];obtain⟨S,j,hu⟩:=hu.out;refine⟨S,j,?_⟩;have f:∀p,p∈Jh (eL P ops.toList 0 []) (FD ops.toList 0)->∀i,p.2.dst=ax i->i∈A:=λp hp i hi=>
   d p.2 (awV (YQ hp)) i hi
  exact AK.eJ d (λσ ds w a b=>h _ _ _ _ a b) (λc σ ds w a b=>Hi (λσ ds w a b=>h _ _ _ _ a b) _ _ _ _ f a b) _ _ _ _ _ a hu
theorem Ly.eJ {P:Program}{n:Nat}{ops:Array Oper}{Q Q':Ex}{A:List Nat}{σ₀ σ:Sg}{ds:List Deferred}{w:ao}(f:∀o,o∈ops.toList->∀i,o.dst=ax i->i∈A)
  (h:∀e σ ds w,Off A σ₀ σ->Q e σ ds w->Q' e σ ds w) (a:Off A σ₀ σ) (hu:Ly P n ops Q σ ds w):Ly P n ops Q' σ ds w:=by
 unfold Ly at hu ⊢;have g:=@aeK ops.toList (aX P ops.toList);have j:=@acQ ops.toList (aX P ops.toList);generalize pL ops.toList (aX P ops.toList)=ms at *;generalize hL ops.toList (aX P ops.toList)=t at *;cases u:((Nat.blt 9 ops.size&&Ze P ms)&&(P.follows .mixedOrders&&(Sz ops (aX P ops.toList) ms t&&(Kx n ms&&(Im P (ops.toList.drop (aX P ops.toList))&&sN ops.toList))))) with
|false=>
  rw[u,aE] at hu;rw[aE];exact D4.eJ f h a hu
|true=>
  rw[u,aF] at hu;rw[aF];obtain⟨C,hC,hu⟩:=hu.out;refine⟨C,hC,?_⟩;have d:∀p,p∈ms->∀i,p.2.dst=ax i->i∈A:=λp hp i hi=>
   f p.2 (avQ (awV (g hp))) i hi
  have k:∀i,i∈HB (snds t)->i∈A:=λi hi=>by
   obtain⟨o,a,hd⟩:=iT.1 hi;obtain⟨p,hp,rfl⟩:=NV a;exact f p.2 (avQ (awV (j hp))) i hd
  have l:∀i,i∈HB (ops.toList.drop (aX P ops.toList))->i∈A:=λi hi=>by
   obtain⟨o,a,hd⟩:=iT.1 hi;exact f o (awZ a) i hd
  refine J9.eJ (λσ1 m q=>?_) ms σ d a hu;refine oA.eJ (λσ' r b w' s=>?_) _ _ k m q;exact Bw.eJ (λσ ds w a b=>h _ _ _ _ a b) (λc σ ds w a b=>Hi (λσ ds w a b=>h _ _ _ _ a b) ms _ _ _ d a b) _ _ _ _ l r (b w' s)
theorem MX {σ:Sg}{A ls:List Nat}{vs:List aq}{j:Sg}:Off A σ (mix σ A ls vs j):=by
 intro i hi;simp[mix,hi]
theorem MP {K K':Nat->Nat->ao->Prop}(h:∀i r W,K i r W->K' i r W):∀{l:List Nat} {pd:Option Code} {k:Nat->ao->Prop},(pd,k)∈exJ K l->∃k',(pd,k')∈exJ K' l∧∀r W,k r W->k' r W
|[],_,_,hm=>by cases hm
|i::l,pd,k,hm=>by
  rcases atL.1 hm with e|hm
  ·cases e;exact⟨K' i,by simp[exJ],λr W=>h i r W⟩
  ·obtain⟨k',a,b⟩:=MP h hm;exact⟨k',atL.2 (.inr a),b⟩
theorem abQ {b:Code}{K K':Exit->Nat->ao->Prop}(h:∀e r W,K e r W->K' e r W){pd:Option Code}{k:Nat->ao->Prop}(hm:(pd,k)∈jsX b K):∃k',(pd,k')∈jsX b K'∧∀r W,k r W->k' r W:=by
 unfold jsX at hm ⊢;rcases atL.1 hm with e|hm
 ·cases e;exact⟨K' .normal,sm,λr W=>h _ r W⟩
 ·cases d:jr b with
 |false=>
   rw[d,aE] at hm;obtain⟨k',a,c⟩:=MP (K':=λi=>K' (.exit i)) (λi r W=>h (.exit i) r W) hm;exact⟨k',by rw[aE];exact atL.2 (.inr a),c⟩
 |true=>
   rw[d,aF] at hm;rcases atL.1 hm with e|hm
   ·cases e;exact⟨K' .ret,by rw[aF];simp,λr W=>h _ r W⟩
   ·obtain⟨k',a,c⟩:=MP (K':=λi=>K' (.exit i)) (λi r W=>h (.exit i) r W) hm;exact⟨k',by rw[aF];exact atL.2 (.inr (atL.2 (.inr a))),c⟩
theorem alR {b:Code}{K:Exit->Nat->ao->Prop}{pd:Option Code}{k:Nat->ao->Prop}(hm:(pd,k)∈jsX b K) :
  (pd=aw∧k=K .normal)∨(pd=ax .ret∧k=K .ret)∨∃i,pd=ax (.exit i)∧k=K (.exit i):=by
 have hex:∀{l:List Nat},(pd,k)∈exJ (λi=>K (.exit i)) l->∃i,pd=ax (.exit i)∧k=K (.exit i):=by
  intro l
  induction l with
 |nil=>intro h;cases h
 |cons i l c=>
   intro h;rcases atL.1 h with e|h
   ·cases e;exact⟨i,rfl,rfl⟩
   ·exact c h
 unfold jsX at hm;rcases atL.1 hm with e|hm
 ·cases e;exact .inl ⟨rfl,rfl⟩
 ·cases a:jr b with
 |false=>rw[a,aE] at hm;exact .inr (.inr (hex hm))
 |true=>
   rw[a,aF] at hm;rcases atL.1 hm with e|hm
   ·cases e;exact .inr (.inl ⟨rfl,rfl⟩)
   ·exact .inr (.inr (hex hm))
theorem Kc {Q:Ex}{σ:Sg}:adS id Q (.exit j) σ ds w=bc (Nat.beq j id) (Q .normal σ ds w) (Q (.exit j) σ ds w):=rfl
theorem wpX.eJ {P:Program}{n:Nat}{aj al:List (Nat×List Nat)}{ro:Option Nat}:∀(c:Code) (Q Q':Ex) (A:List Nat) (σ₀:Sg),
  (∀i,i∈asg c->i∈A)->(∀e σ ds w,Off A σ₀ σ->Q e σ ds w->Q' e σ ds w) ->
  ∀(σ:Sg) (ds:List Deferred) (w:ao),Off A σ₀ σ->wpX P n aj al ro c Q σ ds w->wpX P n aj al ro c Q' σ ds w:=by
 intro c
 induction c with
|skip=>intro Q Q' A σ₀ s h σ ds w d hu;exact h _ _ _ _ d hu
|region id ops draw=>
  intro Q Q' A σ₀ s h σ ds w d hu;unfold wpX at hu ⊢;cases draw with
 |true=>
   rw[aF] at hu ⊢;cases hw:Oq P n ops with
  |true=>rw[hw,aF] at hu;rw[aF];exact D4.eJ (λo d i hi=>s i (iT.2 ⟨o,d,hi⟩)) h d hu
  |false=>
   rw[hw,aE] at hu;rw[aE];cases hh:Nat.beq (aX P ops.toList) ops.toList.length with
  |true=>
    rw[hh,aF] at hu;rw[aF];cases u:(P.follows .mixedOrders&&(Region.lexB .any ops&&sN ops.toList)) with
   |false=>rw[u,aE] at hu;rw[aE];exact Ly.eJ (λo d i hi=>s i (iT.2 ⟨o,d,hi⟩)) h d hu
   |true=>
     rw[u,aF] at hu;rw[aF];obtain⟨C,hC,hu⟩:=hu.out;refine⟨C,hC,?_⟩;exact oA.eJ (λσ' q m w' z=>h _ _ _ _ q (m w' z)) _ _ s d hu
  |false=>
    rw[hh,aE] at hu;rw[aE];cases u:(P.follows .mixedOrders&&(Region.lexTailB .any ops (aX P ops.toList)&&(Im P (ops.toList.drop (aX P ops.toList))&&sN ops.toList))) with
   |false=>
     rw[u,aE] at hu;rw[aE];clear u;have L:=YO (ops.toList.take (aX P ops.toList)) 0 [];have M:=XW (ops.toList.take (aX P ops.toList)) 0 [];generalize mvL (ops.toList.take (aX P ops.toList)) 0 []=ms at *;generalize hdL (ops.toList.take (aX P ops.toList)) 0 []=G at *;cases u:(P.follows .mixedOrders&&(PS ops (aX P ops.toList) ms G&&(Kx n ms&&(Im P (ops.toList.drop (aX P ops.toList))&&sN ops.toList)))) with
    |false=>
      rw[u,aE] at hu;rw[aE];exact Ly.eJ (λo d i hi=>s i (iT.2 ⟨o,d,hi⟩)) h d hu
    |true=>
      rw[u,aF] at hu;rw[aF];obtain⟨C,hC,hu⟩:=hu.out;refine⟨C,hC,?_⟩;have H:∀p,p∈ms->∀i,p.2.dst=ax i->i∈A:=λp hp i hi=>
       s i (iT.2 ⟨p.2,avQ (awV (L p hp).2),hi⟩)
      have N:∀i,i∈HB (snds G)->i∈A:=λi hi=>by
       obtain⟨o,d,hd⟩:=iT.1 hi;obtain⟨p,hp,rfl⟩:=NV d;exact s i (iT.2 ⟨p.2,avQ (awV (M p hp).2),hd⟩)
      have O:∀i,i∈HB (ops.toList.drop (aX P ops.toList))->i∈A:=λi hi=>by
       obtain⟨o,d,hd⟩:=iT.1 hi;exact s i (iT.2 ⟨o,awZ d,hd⟩)
      refine oA.eJ (λσ' q m w' z=>?_) _ _ N (Xj ms _ H d) hu;exact Bw.eJ (λσ ds w d m=>h _ _ _ _ d m) (λc σ ds w d m=>Hi (λσ ds w d m=>h _ _ _ _ d m) ms _ _ _ H d m) _ _ _ _ O q (m w' z)
   |true=>
     rw[u,aF] at hu;rw[aF];obtain⟨C,hC,hu⟩:=hu.out;refine⟨C,hC,?_⟩;have E:∀l R:List Oper,(∀o,o∈l->o∈R)->∀i,i∈HB l->i∈HB R:=by
      intro l R K i hi;rw[iT] at hi ⊢;obtain⟨o,d,hd⟩:=hi;exact⟨o,K o d,hd⟩
     refine oA.eJ (λσ' q m w' z=>?_) _ _ (λi hi=>s i (E _ _ (λo d=>avQ d) i hi)) d hu;exact Bw.eJ (λσ ds w d m=>h _ _ _ _ d m) (λc σ ds w d m=>h _ _ _ _ d m) _ _ _ _ (λi hi=>s i (E _ _ (λo d=>awZ d) i hi)) q (m w' z)
 |false=>
   rw[aE] at hu ⊢;exact Bw.eJ (λσ ds w d m=>h _ _ _ _ d m) (λc σ ds w d m=>h _ _ _ _ d m) _ _ _ _ s d hu
|seq a b t B=>
  intro Q Q' A σ₀ s h σ ds w d hu;have x:∀i,i∈asg a->i∈A:=λi hi=>s i (by simp[asg,hi]);have D:∀i,i∈asg b->i∈A:=λi hi=>s i (by simp[asg,hi]);unfold wpX at hu ⊢;cases hw:Nat.ble (ways a) 1 with
 |true=>
   rw[hw,aF] at hu;rw[aF];refine t _ _ A σ₀ x ?_ σ ds w d hu;intro e σ' ds' w' q m;cases e with
  |normal=>exact B _ _ A σ₀ D h σ' ds' w' q m
  |_=>exact h _ _ _ _ q m
 |false=>
   rw[hw,aE] at hu;rw[aE];cases hm:mkB ro a with
  |true=>
    rw[hm,aF] at hu;rw[aF];refine⟨λJ S=>?_⟩;have F:=hu.out J (λds' vs w' T=>S ds' vs w' (λj=>by
     refine B _ _ A σ₀ D h _ _ _ (d.trans (MX.mono x)) (T j)))
    refine t _ _ A σ₀ x ?_ σ ds w d F;intro e σ' ds' w' q m;cases e with
   |normal=>exact m
   |_=>exact h _ _ _ _ q m
  |false=>
   rw[hm,aE] at hu;rw[aE];refine⟨λJ S=>?_⟩;have F:=hu.out J (λvs w' T=>S vs w' (λj=>by
    refine B _ _ A σ₀ D h _ _ _ (d.trans (MX.mono x)) (T j)))
   refine t _ _ A σ₀ x ?_ σ ds w d F;intro e σ' ds' w' q m;cases e with
  |normal=>exact m
  |_=>exact h _ _ _ _ q m
|cond c a b t B=>
  intro Q Q' A σ₀ s h σ ds w d hu;have x:∀i,i∈asg a->i∈A:=λi hi=>s i (by simp[asg,hi]);have D:∀i,i∈asg b->i∈A:=λi hi=>s i (by simp[asg,hi]);unfold wpX at hu ⊢;refine⟨?_⟩
  replace hu:=hu.out
  split at hu
  ·exact⟨λu=>t _ _ A σ₀ x h σ ds w d (hu.1 u),λu=>B _ _ A σ₀ D h σ ds w d (hu.2 u)⟩
  ·exact hu.elim
|block id a t=>
  intro Q Q' A σ₀ s h σ ds w d hu;unfold wpX at hu ⊢;refine t _ _ A σ₀ s ?_ σ ds w d hu;intro e σ' ds' w' q m;cases e with
 |exit j=>
   rw[Kc] at m ⊢;cases u:Nat.beq j id with
  |true=>rw[u,aF] at m;exact h _ _ _ _ q m
  |false=>rw[u,aE] at m;exact h _ _ _ _ q m
 |_=>exact h _ _ _ _ q m
|loop a t=>
  intro Q Q' A σ₀ s h σ ds w d hu;unfold wpX at hu ⊢;cases hm:mkB ro a with
 |true=>
   rw[hm,aF] at hu;rw[aF];obtain⟨I,μ,U,G⟩:=hu.out;refine⟨I,μ,U,λds vs w V j=>?_⟩;refine t _ _ A σ₀ s ?_ _ ds w (d.trans (MX.mono s)) (G ds vs w V j);intro e σ' ds' w' q m;cases e with
  |normal=>exact m
  |_=>exact h _ _ _ _ q m
 |false=>
  rw[hm,aE] at hu;rw[aE];obtain⟨I,μ,U,G⟩:=hu.out;refine⟨I,μ,U,λvs w V j=>?_⟩;refine t _ _ A σ₀ s ?_ _ ds w (d.trans (MX.mono s)) (G vs w V j);intro e σ' ds' w' q m;cases e with
 |normal=>exact m
 |_=>exact h _ _ _ _ q m
|exit id=>intro Q Q' A σ₀ s h σ ds w d hu;exact h _ _ _ _ d hu
|ret=>intro Q Q' A σ₀ s h σ ds w d hu;exact h _ _ _ _ d hu
|rangeFunc g ps a6 b _ _=>
  intro Q Q' A σ₀ s h σ ds w d hu;unfold wpX at hu ⊢;cases K:Qu n ps.toList with
 |false=>rw[K,aE] at hu;exact hu.elim
 |true=>
   rw[K,aF] at hu;rw[aF];refine⟨?_⟩;obtain⟨f,fa,ca,df,w0,h1,h2,h3,h4⟩:=hu.out;refine⟨f,fa,ca,df,w0,h1,h2,h3,λL0 X hY=>Calls.mono (h4 L0 X hY) ?_⟩;rintro e w3 ⟨v,st,pd,k,he,Y,hw,hm,m⟩;obtain⟨k',Z,a1⟩:=abQ (b:=b) (K':=λe r W=>Q' e σ (Ua ro r ds) W) (λe r W hq=>h e σ (Ua ro r ds) W d hq) hm;exact⟨v,st,pd,k',he,Y,hw,Z,a1 _ _ m⟩
|scope a _=>intro Q Q' A σ₀ s h σ ds w d hu;exact hu.elim
|label l=>intro Q Q' A σ₀ s h σ ds w d hu;exact hu.elim
|goto l=>intro Q Q' A σ₀ s h σ ds w d hu;exact hu.elim
|refuse y=>intro Q Q' A σ₀ s h σ ds w d hu;exact hu.elim
theorem Sd {σ:Sg}:∀{ls:List Nat} {i k:Nat},pos i ls=ax k->(pick ls σ).getD k undef=σ i
|[],i,k,h=>by cases h
|j::l,i,k,h=>by
  unfold pos at h;cases a:Nat.beq i j with
 |true=>rw[a,aF] at h;cases h;rw[beq_iff.1 a];rfl
 |false=>
   rw[a,aE] at h;cases hp:pos i l with
  |none=>rw[hp] at h;cases h
  |some m=>rw[hp] at h;cases h;simpa[pick] using Sd hp
theorem Jb {σ σ':Sg}{A ls:List Nat}(h:Off A σ σ'):mix σ A ls (pick ls σ') σ'=σ':=by
 funext i
 unfold mix;cases hm:mem i A with
|false=>rw[aE];exact (h i hm).symm
|true=>
  rw[aF];split
  ·rename_i k a;exact Sd a
  ·rfl
def FE (n:Nat)(Q:Ex)(e:Exit)(a:Act)(w:ao):Prop:=∃σ,Rep n σ a.tmps∧Q e σ a.defers w
theorem ahN (σ:Sg)(d:Option Nat)(x u:aq):put (put σ d x) d u=put σ d u:=by
 cases d with
|none=>rfl
|some d=>
  funext i
  simp only[put,upd];cases Nat.beq i d<;>rfl
def anA (σ:Sg):Option Nat->aq
|some i=>σ i
|none=>undef
theorem Zo (σ:Sg)(d:Option Nat):put σ d (anA σ d)=σ:=by
 cases d with
|none=>rfl
|some d=>
  funext i
  simp only[put,upd];cases h:Nat.beq i d with
 |true=>have:=azW h;subst this;rfl
 |false=>rfl
theorem I9 {K:Nx}:∀(ms:List (Nat×Oper)) {σ:Sg} {ds:List Deferred} {w:ao},pmX ms K σ ds w->K σ ds w
|[],_,_,_,h=>h
|p::r,σ,ds,w,h=>by
  have a:=I9 r (h (anA σ p.2.dst))
  rwa [Zo] at a
theorem aaH (σ:Sg){d e:Option Nat}(x u:aq)(h:d≠e):put (put σ e x) d u=put (put σ d u) e x:=by
 cases d with
|none=>rfl
|some i=>
  cases e with
 |none=>rfl
 |some j=>
   have a:i≠j:=λb=>h (by rw[b])
   funext k
   simp only[put,upd];cases c:Nat.beq k i with
  |true=>
    have:=azW c;subst this;have f:Nat.beq k j=false:=by
     cases g:Nat.beq k j with
    |false=>rfl
    |true=>exact absurd (azW g) a
    rw[f]
  |false=>cases Nat.beq k j<;>rfl
theorem Rm {K:Nx}(x:aq)(p:Nat×Oper)(ms:List (Nat×Oper)):∀{σ:Sg} {ds:List Deferred} {w:ao},p∈ms->pmX ms K σ ds w->pmX ms K (put σ p.2.dst x) ds w:=by
 induction ms with
|nil=>intro σ ds w hp _;cases hp
|cons q r a=>
  intro σ ds w hp h u;by_cases e:q.2.dst=p.2.dst
  ·have b:pmX r K (put σ p.2.dst u) ds w:=by rw[<-e];exact h u
   rw[e,ahN];exact b
  ·rcases atL.1 hp with rfl|hp
   ·exact absurd rfl e
   ·rw[aaH σ x u e];exact a hp (h u)
theorem yF {l:List Oper}{n k:Nat}{o:Oper}(h:(l.take n)[k - 0]?=ax o):l.toArray[k]?=ax o:=by
 rw[azE,avZ] at h;split at h
 ·simpa using h
 ·cases h
theorem OE {n:Nat}:∀(ms:List (Nat×Oper)) (σ:Sg) (a:Act),Kx n ms=av->Rep n σ a.tmps->Rep n (UY ms σ) (lN ms a).tmps∧(lN ms a).defers=a.defers
|[],σ,a,_,h=>⟨h,rfl⟩
|p::r,σ,a,b,h=>by
  simp only[Kx,atZ] at b;have e:mvX p.2 σ=QA p.2 a:=by
   unfold mvX QA;rw[h.eval]
   try (generalize p.2.op=x;cases x<;>rfl)
  obtain⟨c,d⟩:=OE r (put σ p.2.dst (mvX p.2 σ)) (a.put p.2.dst (mvX p.2 σ)) b.2 (h.put b.1 _);unfold UY;rw[show lN (p::r) a=lN r (a.put p.2.dst (QA p.2 a)) from rfl,<-e];exact⟨c,d.trans (by cases p.2.dst<;>rfl)⟩
theorem RW {n:Nat}:∀(ps:List Nat) (args:List aq) (k:Nat) (σ:Sg) (t:Array aq),Qu n ps=av->Rep n σ t->k+ps.length<=args.length ->
  Rep n (putL ps args k σ) ((ps.zip (args.drop k)).foldl (λt x=>t.setIfInBounds x.1 x.2) t)
|[],args,k,σ,t,_,h,_=>by simpa[putL] using h
|p::ps,args,k,σ,t,b,h,e=>by
  unfold Qu at b;cases hp:Nat.blt p n with
 |false=>rw[hp,aE] at b;cases b
 |true=>
   rw[hp,aF] at b;have c:k < args.length:=by simp only[atW] at e;omega
   rw[auL c];simp only[List.zip_cons_cons,List.foldl_cons,putL];have f:args.getD k undef=args[k]:=by simp[List.getD,c]
   rw[f];have g:=Rep.put (a:={ tmps:=t,defers:=[] }) h (d:=ax p) (by simpa[inB] using hp) args[k];exact RW ps args (k+1) _ _ b g (by simp only[atW] at e;omega)
theorem rH {l:Nat}{r:Loop}(h:w.heap[l]?=ax (.loop r)):(Instr.getLoop l).run P w=.ok r w:=by
 have a:(getObj l).run P w=.ok (.loop r) w:=by simp[getObj,Sem.run,h]
 unfold Instr.getLoop;rw[Sem.run_bind,a];rfl
theorem G7 {l:Nat}{r:Loop}{o':Obj}(h:w.heap[l]?=ax (.loop r)):(setObj l o').run P w=.ok () (ML w l o'):=by
 simp[setObj,Sem.run,h,ML]
theorem Lo {l:Nat}(h:w.heap[l]?=ax (lp L0 .ready aw)):(Instr.beginRound l).run P w=.ok () (ML w l (lp L0 .busy aw)):=by
 unfold Instr.beginRound;rw[Sem.run_bind,rH h];simp only[Result.andThen];rw[Sem.run_bind,G7 h];rfl
theorem P2 {l:Nat}{j:Option Code}(h:w.heap[l]?=ax (lp L0 .busy aw)):(Instr.endRound l j).run P w=.ok (.bool j.isNone) (ML w l (lp L0 (if j.isNone then .ready else .done) j)):=by
 unfold Instr.endRound;rw[Sem.run_bind,rH h];simp only[Result.andThen];rw[Sem.run_bind,G7 h];rfl
theorem RB {l:Nat}{st:LoopState}{j:Option Code}(a:st≠.busy)(h:w.heap[l]?=ax (lp L0 st j)):(Instr.endLoop l).run P w=.ok j (ML w l (lp L0 .exhausted j)):=by
 unfold Instr.endLoop;rw[Sem.run_bind,rH h];simp only[Result.andThen];have b:(st==LoopState.busy)=false:=by cases st<;>first|rfl|exact absurd rfl a
 simp only[b];rw[asT dc,Sem.run_bind,G7 h];rfl
theorem Rs {n:Nat}{u:List (Nat×List Nat)}{g:Operand}{ps:Array Tmp}{c b:Code}{Q:Ex}{σ:Sg}{a:Act}(x:Rep n σ a.tmps)(O:Qu n ps.toList=av)
  {f:Nat} {fa ca:Array aq} {df:Nat} {w0:ao} (S:rd σ g=.func (.func f) fa ca) (T:bY P f=av) (L:LayR w ro df w0)
  (U:∀L0:Loop,L0.defers=df ->
   (∀l args W R,W.heap[l]?=ax (lp L0 .ready aw)->args.length=ps.toList.length ->
    wpX P n aj u (ax l) c (begQ (λσ1 V=>BegX P l V (λX=>wpX P n aj u (ax l) b (rndQ P l R) σ1 [] X))) (putL ps.toList args 0 σ) [] W->Yld P l args W R) ->
   Calls P f (fa++#[.func (.yield w0.heap.size) #[] #[]]++ca) (w0.alloc (lp L0 .ready aw)) λe w3=>
    ∃v st pd k,e=.returned v∧st≠.busy∧w3.heap[w0.heap.size]?=ax (lp L0 st pd)∧(pd,k)∈jsX b (λe r W=>Q e σ (Ua ro r a.defers) W)∧k df (ML w3 w0.heap.size (lp L0 .exhausted pd)))
  (y:∀(ro:Option Nat) (Q:Ex) (σ:Sg) (a:Act) (w:ao),Rep n σ a.tmps->wpX P n aj u ro c Q σ a.defers w->c.wpIn (Fr ro) 0 P (FE n Q) a w)
  (z:∀(ro:Option Nat) (Q:Ex) (σ:Sg) (a:Act) (w:ao),Rep n σ a.tmps->wpX P n aj u ro b Q σ a.defers w->b.wpIn (Fr ro) 0 P (FE n Q) a w) :
  (Code.rangeFunc g ps c b).wpIn (Fr ro) 0 P (FE n Q) a w:=by
 refine wpIn_rangeFunc λfn _=>?_
 let L0:Loop:={ state:=.ready,pending:=aw,fn,tmps:=a.tmps,params:=ps,assign:=c,body:=b,defers:=df }
 let mark:List Deferred:=match ro with|none=>[mkD df]|some _=>[]
 have j:mark++a.defers=Ua ro df a.defers:=by
  cases ro<;>rfl
 have d:(Instr.enterLoop fn a.tmps ps c b ro).run P w=.ok (w0.heap.size,mark) (w0.alloc (lp L0 .ready aw)):=by
  cases ro with
 |none=>
   obtain⟨rfl,rfl⟩:=L;simp[Instr.enterLoop,mark,L0,lp,mkD]
 |some l'=>
   obtain⟨r',A,rfl,rfl⟩:=L;unfold Instr.enterLoop;simp only[];rw[Sem.run_bind,rH A];simp[Result.andThen,mark,L0,lp]
 have B:a.eval g=.func (.func f) fa ca:=by rw[x.eval];exact S
 refine⟨w0.heap.size,mark,_,{ target:=.fn (.func f) ca,args:=fa++#[.func (.yield w0.heap.size) #[] #[]] },w0.alloc (lp L0 .ready aw),f,fa++#[.func (.yield w0.heap.size) #[] #[]]++ca,w0.alloc (lp L0 .ready aw),d,?_,λ_ _=>trivial,?_,λY=>(by cases Y),?_⟩
 ·unfold resolve;simp only[rangeCall,List.map_toArray,avC,axG];rw[B];rfl
 ·simp only[invoke];exact jU T _ _
 ·refine NI.2 (Calls.mono (U L0 rfl ?_) ?_)
  ·intro l args W R Z hlen hB;refine⟨fn,(ps.zip args.toArray).foldl (λtmps (t,a)=>tmps.setIfInBounds t a) a.tmps,c,b,?_,?_⟩
   ·have C:args.toArray.size=ps.size:=by simpa using hlen
    unfold Instr.yield;rw[Sem.run_bind,rH Z];simp only[Result.andThen];rw[asT (by simpa[L0] using C)];rfl
   ·have p:Rep n (putL ps.toList args 0 σ) ((ps.zip args.toArray).foldl (λtmps (t,a)=>tmps.setIfInBounds t a) a.tmps):=by
     have:=RW ps.toList args 0 σ a.tmps O x om;rw[auX] at this;rw[<-Array.foldl_toList];simpa using this
    refine roundIn_of_wpIn (F:=Fence.wide) trivial ?_;refine Code.wpIn_mono ?_ (y (ax l) _ _ { tmps:=(ps.zip args.toArray).foldl (λtmps (t,a)=>tmps.setIfInBounds t a) a.tmps,defers:=[] } W p hB);rintro e M w1 ⟨σ1,D,m⟩;generalize E:M.defers=G at m;cases e<;>cases G<;>first|(exact m.elim;done)|skip
    ·obtain⟨w2,H,I⟩:=BegX.out m;refine⟨w2,H,?_⟩;have o:=z (ax l) (rndQ P l R) σ1 M w2 D (by rw[E];exact I);refine Code.wpIn_mono ?_ o;rintro e a2 w4 ⟨σ2,a6,h⟩;cases e with
    |normal=>obtain⟨v,w',q,s⟩:=EndX.out h;exact⟨v,w',q,v,rfl,s⟩
    |ret=>obtain⟨v,w',q,s⟩:=EndX.out h;exact⟨v,w',q,v,rfl,s⟩
    |exit i=>obtain⟨v,w',q,s⟩:=EndX.out h;exact⟨v,w',q,v,rfl,s⟩
    |_=>exact h.elim
  ·rintro e w3 ⟨v,st,pd,k,rfl,J,K,hm,m⟩;refine⟨pd,ML w3 w0.heap.size (lp L0 .exhausted pd),RB J K,?_⟩;have fin:∀e:Exit,Q e σ (Ua ro df a.defers) (ML w3 w0.heap.size (lp L0 .exhausted pd))->FE n Q e { a with defers:=mark++a.defers } (ML w3 w0.heap.size (lp L0 .exhausted pd)):=λe N=>
    ⟨σ,x,by rw[<-j] at N;exact N⟩
   rcases alR hm with ⟨rfl,rfl⟩|⟨rfl,rfl⟩|⟨i,rfl,rfl⟩
   ·exact fin .normal m
   ·exact wpIn_ret (fin .ret m)
   ·exact wpIn_exit (fin (.exit i) m)
theorem Pa {n:Nat}{Q:Ex}{σ:Sg}{a:Act}(b:Rep n σ a.tmps)(h:HG P n ops Q σ a.defers w):(Code.region id ops av).wpIn (Fr ro) 0 P (FE n Q) a w:=by
 unfold HG at h;cases d:(P.follows .mixedOrders&&sN ops.toList) with
|false=>rw[d,aE] at h;exact h.elim
|true=>
  rw[d,aF] at h;simp only[atZ] at d;refine wpIn_region_any d.1 (MC (K:=λσ ds w=>Q .normal σ ds w) (PK:=λc σ ds w=>Q (.panic c) σ ds w) d.2 ?_ ?_ _ _ σ a _ b h.out)
  ·rintro c a w ⟨σ,b,h⟩;exact⟨σ,b,h⟩
  ·rintro a w ⟨σ,b,h⟩;exact⟨σ,b,h⟩
theorem afK {n:Nat}{ms:List (Nat×Oper)}{K:Nx}(f:Kx n ms=av){p:Nat×Oper}(hp:p∈ms){a:Act}(he:lB n (pmX ms K) (a.put p.2.dst v) w):lB n (pmX ms K) a w:=by
 obtain⟨σ',b,e⟩:=he;have c:inB n p.2.dst=true:=by
  have:∀l:List (Nat×Oper),Kx n l=av->p∈l->inB n p.2.dst=true:=by
   intro l
   induction l with
  |nil=>intro _ h;cases h
  |cons q l m=>
    intro g k;simp only[Kx,atZ] at g;rcases atL.1 k with rfl|k
    ·exact g.1
    ·exact m g.2 k
  exact this ms f hp
 cases hd:p.2.dst with
|none=>rw[hd] at b e;exact⟨σ',b,e⟩
|some i=>
  rw[hd] at b e c;refine⟨put σ' (ax i) (a.tmps.getD i undef),?_,?_⟩
  ·have:=Rep.put (a:=a.put (ax i) v) b c (a.tmps.getD i undef);have o:((a.put (ax i) v).put (ax i) (a.tmps.getD i undef)).tmps=a.tmps:=by
    have hi:i < a.tmps.size:=by
     have r:a.tmps.size=n:=by have:=b.size;simpa[Act.put] using this
     have s:i < n:=by simpa[inB,Nat.blt_eq] using c
     rw[r];exact s
    simp only[Act.put];apply aAC;intro j;by_cases d:i=j
    ·subst d;simp[hi]
    ·rw[axU d,axU d]
   rwa [o] at this
  ·have:=Rm (K:=K) (a.tmps.getD i undef) p ms hp e;rw[hd] at this;exact this
theorem Tb {P:Program}:∀{l:List Oper},VU P l=av->∀o,o∈l->(noRd P o||isCV o)=av
|[],_,o,h=>by cases h
|q::l,a,o,h=>by
  simp only[VU,atZ] at a;rcases atL.1 h with rfl|h
  ·exact a.1
  ·exact Tb a.2 o h
theorem VK {o:Oper}{n:Nat}{σ:Sg}{a:Act}(e:Rep n σ a.tmps)(hd:inB n o.dst=av){K:Nx}{PK:List PanicEntry->Nx}{next:Act->ao->Prop}
  (f:∀c a w,lB n (PK c) a w->Q (.panic c) a w) (b:∀a w,lB n K a w->next a w)
  (d:(noRd P o||isCV o)=av) (h:opW P o σ w (λv w=>K (put σ o.dst v) a.defers w) (λc w=>PK c σ a.defers w)):o.wp P a w next Q:=by
 obtain⟨g,j⟩:=ajT h;cases i:noRd P o with
|true=>exact RD (K:=K) (PK:=PK) e hd f b i g
|false=>
  rw[i,azF] at d;exact aiS (K:=K) (PK:=PK) e hd f b (j d) g
theorem abS {n:Nat}{o:Oper}{σ:Sg}{a:Act}{K:Nx}{PK:List PanicEntry->Nx}{next:Act->ao->Prop}(q:ops[i]?=ax o)(l:Rep n σ a.tmps)(k:(noRd P o||isCV o)=av)
  (p:∀c a w,lB n (PK c) a w->Q (.panic c) a w) (b:∀a w,lB n K a w->next a w)
  (h:Pv P n ops o σ w (λσ' w'=>K σ' a.defers w') (λc w=>PK c σ a.defers w)):wpOp P ops Q i next a w:=by
 unfold wpOp;simp only[q];unfold Pv at h;cases hd:inB n o.dst with
|false=>rw[hd,aE] at h;exact h.elim
|true=>
  rw[hd,aF] at h;cases m:o.guard with
 |none=>
   simp only[m] at h;rw[asU (by simp[Region.wanted,m])];exact .inl (VK (K:=K) (PK:=PK) l hd p b k h)
 |some r=>
   obtain⟨j,want⟩:=r;simp only[m] at h;split at h
   ·rename_i d s
    cases g:Nat.blt d n with
   |false=>rw[g,aE] at h;exact h.elim
   |true=>
     rw[g,aF] at h;have hw:=vS l m s g
     replace h:=h.out
     cases f:kR (σ d) want with
    |true=>
      rw[f,aF] at h;rw[asU (by rw[hw,f])];exact .inl (VK (K:=K) (PK:=PK) l hd p b k h)
    |false=>
      rw[f,aE] at h;rw[asT (by rw[hw,f];simp)];have e:(a.put o.dst undef).defers=a.defers:=by cases o.dst<;>rfl
      exact b _ _ ⟨_,l.put hd undef,by rw[e];exact h⟩
   ·exact h.elim
theorem acA {n:Nat}{S:ao->Prop}{o:Oper}{σ:Sg}{a:Act}{K:Sg->Prop}(e:Rep n σ a.tmps)(h:Qv P n ops S o σ K) :
  ∃v,YieldsIf P ops S o v a∧inB n o.dst=av∧K (put σ o.dst v):=by
 unfold Qv at h;cases hd:inB n o.dst with
|false=>rw[hd,aE] at h;exact h.elim
|true=>
  rw[hd,aF] at h;have key:Region.wanted o (yielded ops a.tmps)=av->opH P S o σ (λv=>K (put σ o.dst v))->∃v,YieldsIf P ops S o v a∧av=av∧K (put σ o.dst v):=by
   intro hw h;unfold opH at h;split at h
   ·rename_i x g
    refine⟨rd σ x,.inl ⟨hw,λw _=>?_⟩,rfl,h⟩;rw[e.eval,show execOp (rd σ) o=pure (.value (rd σ x)) by unfold execOp;rw[g]];rfl
   ·rename_i x g
    refine⟨rd σ x,.inl ⟨hw,λw _=>?_⟩,rfl,h⟩;rw[e.eval,show execOp (rd σ) o=pure (.value (rd σ x)) by unfold execOp;rw[g]];rfl
   ·obtain⟨v,i,k⟩:=h.out;refine⟨v,.inl ⟨hw,λw l=>?_⟩,rfl,k⟩;rw[e.eval,<-lO];exact i w l
  cases f:o.guard with
 |none=>
   simp only[f] at h;exact key (by simp[Region.wanted,f]) h
 |some m=>
   obtain⟨j,want⟩:=m;simp only[f] at h;split at h
   ·rename_i d p
    cases c:Nat.blt d n with
   |false=>rw[c,aE] at h;exact h.elim
   |true=>
     rw[c,aF] at h;have hw:=vS e f p c
     replace h:=h.out
     cases b:kR (σ d) want with
    |true=>rw[b,aF] at h;exact key (by rw[hw,b]) h
    |false=>rw[b,aE] at h;exact⟨undef,.inr ⟨by rw[hw,b],rfl⟩,rfl,h⟩
   ·exact h.elim
theorem JO {ops:Array Oper}{E:List Nat}{listed:Array Bool}:∀{l:List Nat} {i:Nat},MM ops E listed l=ax i->i∈l∧Eg i E=au∧Region.free .any ops listed i=av
|[],i,h=>by cases h
|k::l,i,h=>by
  unfold MM at h;cases a:(!(Eg k E)&&Region.free .any ops listed k) with
 |true=>
   rw[a,aF] at h;cases h;simp only[atZ,awY] at a;exact⟨sm,a.1,a.2⟩
 |false=>
   rw[a,aE] at h;obtain⟨b,c⟩:=JO h;exact⟨auE _ b,c⟩
theorem SY (l:List Oper):∀(k i:Nat) (o:Oper),l[i]?=ax o->(k+i,o)∈FD l k:=by
 induction l with
|nil=>intro k i o h;simp at h
|cons q l a=>
  intro k i o h;cases i with
 |zero=>simp at h;subst h;simp[FD]
 |succ i=>
   have:=a (k+1) i o (by simpa using h);rw[show k+1+i=k+(i+1) by omega] at this;exact auE _ this
theorem QL {S:List Nat}{p:Nat×Oper}(hm:Eg p.1 S=au):∀{l:List (Nat×Oper)},p∈l->p∈Jh S l
|[],h=>by cases h
|q::l,h=>by
  unfold Jh;rcases atL.1 h with rfl|h
  ·rw[hm,aE];simp
  ·cases Eg q.1 S with
  |true=>rw[aF];exact QL hm h
  |false=>rw[aE];exact auE _ (QL hm h)
section
variable {P:Program}{md:Region.Mode}{ops:Array Oper}{Q:Exit->Act->ao->Prop}{S:ao->Prop}{need:Nat->Bool}
def xB (P:Program)(md:Region.Mode)(ops:Array Oper)(Q:Exit->Act->ao->Prop)(S:ao->Prop)(need:Nat->Bool):Nat->Array Bool->Act->ao->Prop
|0,l,a,w=>Region.ready md ops l=[]∧Q .normal a w
|f+1,l,a,w=>(Region.ready md ops l=[]->Q .normal a w) ∧
  ∀i∈Region.ready md ops l,wpOp P ops Q i (λa' w'=>(need i=av->S w->S w')∧xB P md ops Q S need f (l.setIfInBounds i av) a' w') a w
theorem xB.any:∀(f:Nat) (l:Array Bool) (a:Act) (w:ao),xB P md ops Q S need f l a w->wpAny P md ops Q f l a w
|0,_,_,_,h=>h
|f+1,_,_,_,h=>⟨h.1,λi hi=>wpOp_mono (λa' w' b=>xB.any f _ a' w' b.2) (h.2 i hi)⟩
theorem xB.done {l:Array Bool}{a:Act}{w:ao}(b:Region.ready md ops l=[])(h:Q .normal a w):∀f,xB P md ops Q S need f l a w
|0=>⟨b,h⟩
|_+1=>⟨λ_=>h,by rw[b];simp⟩
theorem xB.first {T:ao->Prop}{q:Oper}(hi:ops[i]?=ax q)
  (n:∀(j:Nat) (o:Oper) cs b,ops[j]?=ax o->o.op≠.select cs b) (L:∀c a w,Q (.panic c) (a.put q.dst v) w->Q (.panic c) a w)
  (M:∀j g,ops[j]?=ax g->(∀e∈g.after,Region.binds md e=av->e.on≠i)->∀w w',T w->(need j=av->S w->S w')->T w') :
  ∀(f:Nat) (l:Array Bool) (a:Act) (w:ao),(∀j g,ops[j]?=ax g->j≠i->l.getD j av=au->(∀e∈g.after,Region.binds md e=av->e.on≠i)->q.apart ops g=av) ->
   i∈Region.ready md ops l->YieldsIf P ops T q v a->T w->xB P md ops Q S need f (l.setIfInBounds i av) (a.put q.dst v) w->xB P md ops Q S need (f+1) l a w:=by
 intro f
 induction f with
|zero=>
  intro l a w _ r z A H;refine⟨λh=>absurd r (by rw[h];simp),λj B=>?_⟩;rcases Decidable.em (j=i) with rfl|d
  ·exact z.wpOp hi A ⟨λ_ h=>h,H⟩
  ·have hm:=ready_mono B d;rw[H.1] at hm;simp at hm
|succ f N=>
  intro l a w s r z A H;refine⟨λh=>absurd r (by rw[h];simp),λj B=>?_⟩;rcases Decidable.em (j=i) with rfl|d
  ·exact z.wpOp hi A ⟨λ_ h=>h,H⟩
  obtain⟨K,g,m,C⟩:=mem_ready.1 B;have t:=(mem_ready.1 r).1;have u:∀e∈g.after,Region.binds md e=av->e.on≠i:=by
   intro e he O R;have x:=C e he O;rw[R] at x;rcases auC i l.size with D|D
   ·simp[D] at t x;rw[t] at x;cases x
   ·simp[Array.getElem?_eq_none D] at x
  have p:=wpOp_putIf m (s j g m d K u) (λcs b=>n i q cs b hi) (λcs b=>n j g cs b m) L z (H.2 j (ready_mono B d));refine wpOp_mono (λa' w' U=>?_) p;obtain⟨E,y,V⟩:=U;refine⟨y,N _ a' w' ?_ (ready_mono r (Ne.symm d)) E (M j g m u w w' A y) ?_⟩
  ·intro k ok W F G I;refine s k ok W F ?_ I;rcases Decidable.em (j=k) with rfl|J
   ·exact K
   ·rwa [getD_set_ne av J] at G
  ·rw[aAA _ _ d];exact V
end
theorem NM {i:Nat}:∀{l:List Edge},Eg i (NJ l)=av->∃e∈l,Region.binds .any e=av∧e.on=i
|e::l,h=>by
  unfold NJ at h;cases a:Region.binds .any e with
 |true=>
   rw[a,aF] at h;unfold Eg at h;cases d:Nat.beq i e.on with
  |true=>exact⟨e,sm,a,(azW d).symm⟩
  |false=>
    rw[d] at h;obtain⟨e',b,c⟩:=NM (l:=l) h;exact⟨e',auE _ b,c⟩
 |false=>
   rw[a,aE] at h;obtain⟨e',b,c⟩:=NM (l:=l) h;exact⟨e',auE _ b,c⟩
theorem LR {P:Program}{E A:List Nat}{i:Nat}{o:Oper}(he:Eg i E=au)(hp:DV P o=au)(a:Eg i A=au):∀{r:List (Nat×Oper)},(i,o)∈r->abV P E A r=av
|p::r,h=>by
  unfold abV;rcases atL.1 h with rfl|h
  ·simp only[he,hp,a,Bool.or_self,aE]
  ·have:=LR he hp a h;cases Eg p.1 E<;>cases DV P p.2<;>cases Eg p.1 A<;>simp[aF,aE,this]
theorem PV {E:List Nat}{o a:Oper}(c:ops[i]?=ax o)(he:Eg i E=au)(hp:(RE ops.toList&&DV P o)=au)(b:∀e∈a.after,Region.binds .any e=av->e.on≠i):Oo P ops E a=true:=by
 unfold Oo;cases d:RE ops.toList with
|false=>rfl
|true=>
  rw[aF];rw[d,axV] at hp;have:=SY ops.toList 0 i o (by simpa using c);rw[atK] at this;refine LR he hp ?_ this;cases hm:Eg i (NJ a.after.toList) with
 |false=>rfl
 |true=>
   obtain⟨e,f,g,h⟩:=NM hm;exact absurd h (b e (by simpa using f) g)
def aaR (P:Program)(ops:Array Oper)(E:List Nat)(j:Nat):Bool:=match ops[j]? with
|some o=>Oo P ops E o
|none=>au
theorem yG {P:Program}{n:Nat}{ops:Array Oper}{E:List Nat}{S:ao->Prop}{K:Nx}{PK:List PanicEntry->Nx}{Q:Exit->Act->ao->Prop}(d:Region.noSelect ops=av)(l:VU P ops.toList=av)(J:Kx n (Jh E (FD ops.toList 0))=av)
  (C:∀c a w,lB n (pmX (Jh E (FD ops.toList 0)) (PK c)) a w↔Q (.panic c) a w) (F:∀a w,lB n K a w->Q .normal a w) :
  ∀(fuel:Nat) (listed:Array Bool) (σ:Sg) (a:Act) (w:ao),Rep n σ a.tmps->(∀i o,ops[i]?=ax o->Eg i E=au->(RE ops.toList&&DV P o)=au->listed.getD i av=au->S w) ->
   AK P n ops E S K (λc=>pmX (Jh E (FD ops.toList 0)) (PK c)) fuel listed σ a.defers w->xB P .any ops Q S (aaR P ops E) fuel listed a w
|0,listed,σ,a,w,D,M,h=>by
  unfold AK at h;cases m:isNil (Region.ready .any ops listed) with
 |false=>rw[m,aE] at h;exact h.elim
 |true=>rw[m,aF] at h;exact⟨vX.1 m,F _ _ ⟨σ,D,h⟩⟩
|f+1,listed,σ,a,w,D,M,h=>by
  unfold AK at h;cases m:isNil (Region.ready .any ops listed) with
 |true=>
   rw[m,aF] at h;exact xB.done (vX.1 m) (F _ _ ⟨σ,D,h⟩) _
 |false=>
   rw[m,aE] at h;cases N:MM ops E listed (Region.ready .any ops listed) with
  |some i=>
    simp only[N] at h;cases b:ops[i]? with
   |none=>simp only[b] at h
   |some o=>
     simp only[b] at h;obtain⟨hm,he,O⟩:=JO N;obtain⟨v,hy,hd,hk⟩:=acA D h;have hp:(i,o)∈Jh E (FD ops.toList 0):=by
      have:=SY ops.toList 0 i o (by simpa using b);rw[atK] at this;exact QL he this
     have G:=(mem_ready.1 hm).1;have e:(a.put o.dst v).defers=a.defers:=by cases o.dst<;>rfl
     refine xB.first (T:=Zy P ops S o) b (Region.noSelect_spec d) (λc a w hq=>(C c a w).1 (afK J hp ((C c _ w).2 hq))) ?_ f listed a w (Region.free_spec b O) hm hy ?_
      (yG d l J C F f _ (put σ o.dst v) (a.put o.dst v) w (D.put hd v) ?_ (by rw[e];exact hk))
     ·intro j oj R U w1 w2 V W;unfold Zy at V ⊢;cases p:RE ops.toList&&DV P o with
     |true=>rw[aF];trivial
     |false=>
       rw[p,aE] at V;rw[aE];refine W ?_ V;unfold aaR;rw[R];exact PV b he p U
     ·unfold Zy;cases p:RE ops.toList&&DV P o with
     |true=>rw[aF];trivial
     |false=>rw[aE];exact M i o b he p G
     ·intro k ok u x y z;refine M k ok u x y ?_;rcases Decidable.em (i=k) with rfl|A
      ·exact G
      ·rwa [getD_set_ne av A] at z
  |none=>
    simp only[N] at h;refine⟨λhe=>(by rw[vX.2 he] at m;cases m),λi hi=>?_⟩;have q:=EG h _ (auH.2 ⟨i,hi,rfl⟩);cases b:ops[i]? with
   |none=>simp only[b] at q
   |some o=>
     simp only[b] at q;have H:o∈ops.toList:=by
      have:=azD b;simpa using this
     refine abS (K:=λσ' ds' w'=>bc (Oo P ops E o) (S w'∧AK P n ops E S K (λc=>pmX (Jh E (FD ops.toList 0)) (PK c)) f (listed.setIfInBounds i av) σ' ds' w') (AK P n ops E S K (λc=>pmX (Jh E (FD ops.toList 0)) (PK c)) f (listed.setIfInBounds i av) σ' ds' w')) (PK:=λc=>pmX (Jh E (FD ops.toList 0)) (PK c)) b D (Tb l o H) (λc a w hc=>(C c a w).1 hc) ?_ q;rintro a' w' ⟨σ',I,g⟩;have B:aaR P ops E i=Oo P ops E o:=by unfold aaR;rw[b]
     obtain⟨X,a1,s,Y⟩:=mem_ready.1 hi;rw[b] at s;cases s;cases r:Oo P ops E o with
    |true=>
      rw[r,aF] at g;exact⟨λ_ _=>g.1,yG d l J C F f _ σ' a' w' I (λ_ _ _ _ _ _=>g.1) g.2⟩
    |false=>
      rw[r,aE] at g;refine⟨λL=>(by rw[B,r] at L;cases L),yG d l J C F f _ σ' a' w' I ?_ g⟩;intro k ok u x y z;exfalso;have t:listed.getD k av=false:=by
       rcases Decidable.em (i=k) with rfl|A
       ·exact X
       ·rwa [getD_set_ne av A] at z
      have:Oo P ops E o=true:=PV u x y (λe he Z L=>by
       have q:=Y e he Z;rw[L] at q;rcases auC k listed.size with g|g
       ·simp[g] at t q;rw[t] at q;cases q
       ·simp[Array.getElem?_eq_none g] at q)
      rw[r] at this;cases this
theorem H3 {n:Nat}{Q:Ex}{σ:Sg}{a:Act}(b:Rep n σ a.tmps)(h:D4 P n ops Q σ a.defers w):(Code.region id ops av).wpIn (Fr ro) 0 P (FE n Q) a w:=by
 unfold D4 at h;cases d:WO P n ops with
|false=>rw[d,aE] at h;exact Pa b h
|true=>
  rw[d,aF] at h;unfold WO at d;simp only[atZ] at d;obtain⟨-,f,g,i,j,k⟩:=d;obtain⟨S,l,h⟩:=h.out;refine CF f k ?_;have key:=xB.any _ _ _ _ (yG (S:=S) (E:=eL P ops.toList 0 []) (K:=λσ ds w=>Q .normal σ ds w) (PK:=λc σ ds w=>Q (.panic c) σ ds w) (Q:=λe a w=>match e with
   |.panic c=>lB n (pmX (Jh (eL P ops.toList 0 []) (FD ops.toList 0)) (λσ ds w=>Q (.panic c) σ ds w)) a w
   |e=>Ic (FE n Q) e a w) g j i (λc a w=>Iff.rfl) (λa w m=>by obtain⟨σ,b,h⟩:=m;exact⟨σ,b,h⟩) ops.size (Array.replicate ops.size au) σ a { w with drawn:=w.drawn+1 } b (λ_ _ _ _ _ _=>l) h)
  refine abN ?_ _ _ _ _ key;intro e a w he;cases e<;>first|exact he|skip
  obtain⟨σ,b,h⟩:=he;exact⟨σ,b,I9 _ h⟩
theorem KF {P:Program}{n:Nat}{ops:Array Oper}{K:Sg->Prop}{L:Act->Prop}{ds:List Deferred}(f:∀σ a,Rep n σ a.tmps->a.defers=ds->K σ->L a):∀(ms:List (Nat×Oper)) (σ:Sg) (a:Act),Rep n σ a.tmps->a.defers=ds->J9 P n ms K σ->Js P ops L ms a
|[],σ,a,b,hd,h=>f σ a b hd h
|p::r,σ,a,b,hd,h=>by
  unfold J9 at h;cases c:inB n p.2.dst with
 |false=>rw[c,aE] at h;exact h.elim
 |true=>
   rw[c,aF] at h;cases d:p.2.guard.isNone with
  |false=>rw[d,aE] at h;exact h.elim
  |true=>
    rw[d,aF] at h;have hw:Region.wanted p.2 (yielded ops a.tmps)=true:=by
     have:p.2.guard=none:=by simpa using d
     simp[Region.wanted,this]
    have next:∀v,J9 P n r K (put σ p.2.dst v)->Js P ops L r (a.put p.2.dst v):=λv g=>
     KF f r (put σ p.2.dst v) (a.put p.2.dst v) (b.put c v) (by rw[<-hd];cases p.2.dst<;>rfl) g
    unfold opP at h;split at h
    ·rename_i x e
     refine⟨rd σ x,.inl ⟨hw,λw=>?_⟩,next _ h⟩;rw[b.eval,show execOp (rd σ) p.2=pure (.value (rd σ x)) by unfold execOp;rw[e]];rfl
    ·rename_i x e
     refine⟨rd σ x,.inl ⟨hw,λw=>?_⟩,next _ h⟩;rw[b.eval,show execOp (rd σ) p.2=pure (.value (rd σ x)) by unfold execOp;rw[e]];rfl
    ·obtain⟨v,i,j⟩:=h.out;refine⟨v,.inl ⟨hw,λw=>?_⟩,next _ j⟩;rw[b.eval,<-lO];exact i w
theorem JS {n:Nat}{Q:Ex}{σ:Sg}{a:Act}(k:Rep n σ a.tmps)(h:Ly P n ops Q σ a.defers w):(Code.region id ops av).wpIn (Fr ro) 0 P (FE n Q) a w:=by
 unfold Ly at h;have r:=@aeK ops.toList (aX P ops.toList);have s:=@acQ ops.toList (aX P ops.toList);generalize pL ops.toList (aX P ops.toList)=ms at *;generalize hL ops.toList (aX P ops.toList)=I at *;have d:ops.toList.toArray=ops:=sm
 cases m:((Nat.blt 9 ops.size&&Ze P ms)&&(P.follows .mixedOrders&&(Sz ops (aX P ops.toList) ms I&&(Kx n ms&&(Im P (ops.toList.drop (aX P ops.toList))&&sN ops.toList))))) with
|false=>
  rw[m,aE] at h;exact H3 k h
|true=>
  rw[m,aF] at h;simp only[atZ] at m;obtain⟨-,t,u,x,y,z⟩:=m;obtain⟨C,hC,h⟩:=h.out;refine CF t z ?_;have key:=K8 (P:=P) (Q:=Ic (FE n Q)) (Q':=λe a w=>match e with
   |.panic c=>lB n (pmX ms (λσ ds w=>Q (.panic c) σ ds w)) a w
   |e=>Ic (FE n Q) e a w) (a:=a) (w:=w) (l:=ops.toList) (C:=C) (aX P ops.toList) ms I (by rw[d];exact u) hC
   (λp hp=>yF (r hp)) (λp hp=>yF (s hp))
   (λe a w he=>by
    cases e<;>first|exact he|skip
    obtain⟨σ,k,h⟩:=he;exact⟨σ,k,I9 ms h⟩)
   (λp hp v c a w he=>by
    obtain⟨σ',b,o⟩:=he;have f:inB n p.2.dst=true:=by
     have:∀l:List (Nat×Oper),Kx n l=av->p∈l->inB n p.2.dst=true:=by
      intro l
      induction l with
     |nil=>intro _ h;cases h
     |cons q l J=>
       intro A B;simp only[Kx,atZ] at A;rcases atL.1 B with rfl|B
       ·exact A.1
       ·exact J A.2 B
     exact this ms x hp
    cases hd:p.2.dst with
   |none=>rw[hd] at b o;exact⟨σ',b,o⟩
   |some i=>
     rw[hd] at b o f;refine⟨put σ' (ax i) (a.tmps.getD i undef),?_,?_⟩
     ·have:=Rep.put (a:=a.put (ax i) v) b f (a.tmps.getD i undef);have L:((a.put (ax i) v).put (ax i) (a.tmps.getD i undef)).tmps=a.tmps:=by
       have hi:i < a.tmps.size:=by
        have M:a.tmps.size=n:=by have:=b.size;simpa[Act.put] using this
        have N:i < n:=by simpa[inB,Nat.blt_eq] using f
        rw[M];exact N
       simp only[Act.put];apply aAC;intro j;by_cases g:i=j
       ·subst g;simp[hi]
       ·rw[axU g,axU g]
      rwa [L] at this
     ·have:=Rm (K:=λσ ds w=>Q (.panic c) σ ds w) (a.tmps.getD i undef) p ms hp o;rw[hd] at this;exact this) (by
   rw[d];refine KF (ds:=a.defers) (λσ1 O D E F=>?_) ms σ a k rfl h;refine tK (ds:=a.defers) (K:=λσ=>∀w',C w'->Bw P aw n ops (λσ ds w=>Q .normal σ ds w) (λc=>pmX ms (λσ ds w=>Q (.panic c) σ ds w)) (ops.toList.drop (aX P ops.toList)) σ a.defers w') ?_ _ σ1 O D E F;intro σ' a' b G R w' H;refine Ee (K:=λσ ds w=>Q .normal σ ds w) (PK:=λc=>pmX ms (λσ ds w=>Q (.panic c) σ ds w)) ?_ ?_ _ σ' a' w' y b (by rw[G];exact R w' H)
   ·rintro c a w h;exact h
   ·rintro a w ⟨σ,k,h⟩;exact⟨σ,k,h⟩)
  rw[d] at key;exact key
theorem EI {n:Nat}{B:List (Nat×List Nat)}:∀(c:Code) (ro:Option Nat) (Q:Ex) (σ:Sg) (a:Act) (w:ao),Rep n σ a.tmps->wpX P n aj B ro c Q σ a.defers w->c.wpIn (Fr ro) 0 P (FE n Q) a w:=by
 intro c
 induction c with
|skip=>intro ro Q σ a w k h;exact wpIn_skip ⟨σ,k,h⟩
|exit id=>intro ro Q σ a w k h;exact wpIn_exit ⟨σ,k,h⟩
|ret=>intro ro Q σ a w k h;exact wpIn_ret ⟨σ,k,h⟩
|region id ops draw=>
  intro ro Q σ a w k h;unfold wpX at h;cases draw with
 |false=>
   rw[aE] at h;refine wpIn_region_list (Ug (K:=λσ ds w=>Q .normal σ ds w) (PK:=λc σ ds w=>Q (.panic c) σ ds w) ?_ ?_ _ σ a w k h)
   ·rintro c a w ⟨σ,k,h⟩;exact⟨σ,k,h⟩
   ·rintro a w ⟨σ,k,h⟩;exact⟨σ,k,h⟩
 |true=>
   rw[aF] at h;have A:ops.toList.toArray=ops:=sm
   cases hw:Oq P n ops with
  |true=>rw[hw,aF] at h;exact H3 k h
  |false=>
   rw[hw,aE] at h;cases hh:Nat.beq (aX P ops.toList) ops.toList.length with
  |true=>
    rw[hh,aF] at h;cases r:(P.follows .mixedOrders&&(Region.lexB .any ops&&sN ops.toList)) with
   |false=>rw[r,aE] at h;exact JS k h
   |true=>
     rw[r,aF] at h;simp only[atZ] at r;obtain⟨C,hC,h⟩:=h.out;refine CF r.1 r.2.2 (WX (C:=C) r.2.1 hC ?_);refine tK (ds:=a.defers) (K:=λσ=>∀w',C w'->Q .normal σ a.defers w') ?_ _ σ a k rfl h;intro σ' a' d u m w' E;exact⟨σ',d,by rw[u];exact m w' E⟩
  |false=>
    rw[hh,aE] at h;cases r:(P.follows .mixedOrders&&(Region.lexTailB .any ops (aX P ops.toList)&&(Im P (ops.toList.drop (aX P ops.toList))&&sN ops.toList))) with
   |false=>
     rw[r,aE] at h;clear r;have Z:=YO (ops.toList.take (aX P ops.toList)) 0 [];have a1:=XW (ops.toList.take (aX P ops.toList)) 0 [];generalize mvL (ops.toList.take (aX P ops.toList)) 0 []=ms at *;generalize hdL (ops.toList.take (aX P ops.toList)) 0 []=W at *;cases r:(P.follows .mixedOrders&&(PS ops (aX P ops.toList) ms W&&(Kx n ms&&(Im P (ops.toList.drop (aX P ops.toList))&&sN ops.toList)))) with
    |false=>
      rw[r,aE] at h;exact JS k h
    |true=>
      rw[r,aF] at h;simp only[atZ] at r;obtain⟨N,O,X,R,S⟩:=r;obtain⟨C,hC,h⟩:=h.out;obtain⟨a6,a7⟩:=OE ms σ a X k;refine CF N S ?_;have key:=Lt (P:=P) (Q:=Ic (FE n Q)) (Q':=λe a w=>match e with
       |.panic c=>lB n (pmX ms (λσ ds w=>Q (.panic c) σ ds w)) a w
       |e=>Ic (FE n Q) e a w) (a:=a) (w:=w) (l:=ops.toList) (C:=C) (aX P ops.toList) ms W (by rw[A];exact O) hC
       (λp hp=>yF (Z p hp).2) (λp hp=>yF (a1 p hp).2)
       (λe a w he=>by
        cases e<;>first|exact he|skip
        obtain⟨σ,k,h⟩:=he;exact⟨σ,k,I9 ms h⟩)
       (λp hp v c a w he=>by
        obtain⟨σ',d,M⟩:=he;have T:inB n p.2.dst=true:=by
         have:∀l:List (Nat×Oper),Kx n l=av->p∈l->inB n p.2.dst=true:=by
          intro l
          induction l with
         |nil=>intro _ h;cases h
         |cons q l ih=>
           intro F J;simp only[Kx,atZ] at F;rcases atL.1 J with rfl|J
           ·exact F.1
           ·exact ih F.2 J
         exact this ms X hp
        cases hd:p.2.dst with
       |none=>rw[hd] at d M;exact⟨σ',d,M⟩
       |some i=>
         rw[hd] at d M T;refine⟨put σ' (ax i) (a.tmps.getD i undef),?_,?_⟩
         ·have:=Rep.put (a:=a.put (ax i) v) d T (a.tmps.getD i undef);have Y:((a.put (ax i) v).put (ax i) (a.tmps.getD i undef)).tmps=a.tmps:=by
           have hi:i < a.tmps.size:=by
            have h3:a.tmps.size=n:=by have:=d.size;simpa[Act.put] using this
            have h4:i < n:=by simpa[inB,Nat.blt_eq] using T
            rw[h3];exact h4
           simp only[Act.put];apply aAC;intro j;by_cases U:i=j
           ·subst U;simp[hi]
           ·rw[axU U,axU U]
          rwa [Y] at this
         ·have:=Rm (K:=λσ ds w=>Q (.panic c) σ ds w) (a.tmps.getD i undef) p ms hp M;rw[hd] at this;exact this) (by
       rw[A];refine tK (ds:=a.defers) (K:=λσ=>∀w',C w'->Bw P aw n ops (λσ ds w=>Q .normal σ ds w) (λc=>pmX ms (λσ ds w=>Q (.panic c) σ ds w)) (ops.toList.drop (aX P ops.toList)) σ a.defers w') ?_ _ (UY ms σ) (lN ms a) a6 a7 h;intro σ' a' d u m w' E;refine Ee (K:=λσ ds w=>Q .normal σ ds w) (PK:=λc=>pmX ms (λσ ds w=>Q (.panic c) σ ds w)) ?_ ?_ _ σ' a' w' R d (by rw[u];exact m w' E)
       ·rintro c a w h;exact h
       ·rintro a w ⟨σ,k,h⟩;exact⟨σ,k,h⟩)
      rw[A] at key;exact key
   |true=>
     rw[r,aF] at h;simp only[atZ] at r;obtain⟨N,O,R,S⟩:=r;obtain⟨C,hC,h⟩:=h.out;refine CF N S ?_;have key:=Lz (P:=P) (Q:=Ic (FE n Q)) (a:=a) (w:=w) (l:=ops.toList) (C:=C) (aX P ops.toList) (by rw[A];exact O) hC (by
      rw[A];refine tK (ds:=a.defers) (K:=λσ=>∀w',C w'->Bw P aw n ops (λσ ds w=>Q .normal σ ds w) (λc σ ds w=>Q (.panic c) σ ds w) (ops.toList.drop (aX P ops.toList)) σ a.defers w') ?_ _ σ a k rfl h;intro σ' a' d u m w' E;refine Ee (K:=λσ ds w=>Q .normal σ ds w) (PK:=λc σ ds w=>Q (.panic c) σ ds w) ?_ ?_ _ σ' a' w' R d (by rw[u];exact m w' E)
      ·rintro c a w ⟨σ,k,h⟩;exact⟨σ,k,h⟩
      ·rintro a w ⟨σ,k,h⟩;exact⟨σ,k,h⟩)
     rw[A] at key;exact key
|seq x y z G=>
  intro ro Q σ a w k h;unfold wpX at h;refine wpIn_seq ?_;cases hw:Nat.ble (ways x) 1 with
 |true=>
   rw[hw,aF] at h;refine Code.wpIn_mono ?_ (z _ _ σ a w k h);rintro e a' w' ⟨σ',d,m⟩;cases e with
  |normal=>exact G _ _ σ' a' w' d m
  |_=>exact⟨σ',d,m⟩
 |false=>
   rw[hw,aE] at h;cases hm:mkB ro x with
  |true=>
    rw[hm,aF] at h;have M:=h.out (λds' vs w'=>∀j,wpX P n aj B ro y Q (mix σ (asg x) (look (keyOf y) aj) vs j) ds' w') (λ_ _ _ k=>k);have V:=wpX.eJ x _ (λe σ' ds' w'=>Off (asg x) σ σ'∧On Q (λσ' ds' w'=>(∀j,wpX P n aj B ro y Q (mix σ (asg x) (look (keyOf y) aj) (pick (look (keyOf y) aj) σ') j) ds' w')) e σ' ds' w') (asg x) σ (λi hi=>hi) (λe σ' ds' w' D m=>⟨D,m⟩) σ a.defers w (Off.refl _ _) M;refine Code.wpIn_mono ?_ (z _ _ σ a w k V);rintro e a' w' ⟨σ',d,D,m⟩;cases e with
   |normal=>
     have m:∀j,wpX P n aj B ro y Q (mix σ (asg x) (look (keyOf y) aj) (pick (look (keyOf y) aj) σ') j) a'.defers w':=m;have:=m σ';rw[Jb D] at this;exact G _ _ σ' a' w' d this
   |_=>exact⟨σ',d,m⟩
  |false=>
   rw[hm,aE] at h;have M:=h.out (λvs w'=>∀j,wpX P n aj B ro y Q (mix σ (asg x) (look (keyOf y) aj) vs j) a.defers w') (λ_ _ k=>k);have V:=wpX.eJ x _ (λe σ' ds' w'=>Off (asg x) σ σ'∧On Q (λσ' ds' w'=>AtX ds' a.defers (∀j,wpX P n aj B ro y Q (mix σ (asg x) (look (keyOf y) aj) (pick (look (keyOf y) aj) σ') j) a.defers w')) e σ' ds' w') (asg x) σ (λi hi=>hi) (λe σ' ds' w' D m=>⟨D,m⟩) σ a.defers w (Off.refl _ _) M;refine Code.wpIn_mono ?_ (z _ _ σ a w k V);rintro e a' w' ⟨σ',d,D,m⟩;cases e with
  |normal=>
    obtain⟨u,m⟩:=m.out;have:=m σ';rw[Jb D,<-u] at this;exact G _ _ σ' a' w' d this
  |_=>exact⟨σ',d,m⟩
|cond c x y z G=>
  intro ro Q σ a w k h;unfold wpX at h
  replace h:=h.out
  split at h
  ·rename_i b r
   refine wpIn_cond_split (t:=b) (by rw[k.eval];exact r) (λht=>z _ _ σ a w k (h.1 ht)) (λht=>G _ _ σ a w k (h.2 ht))
  ·exact h.elim
|block id x z=>
  intro ro Q σ a w k h;unfold wpX at h;refine wpIn_block (Code.wpIn_mono ?_ (z _ _ σ a w k h));rintro e a' w' ⟨σ',d,m⟩;cases e with
 |exit j=>
   simp only[Exit.inBlock];rw[Kc] at m;cases r:Nat.beq j id with
  |true=>rw[r,aF] at m;rw[asU (beq_iff.1 r)];exact⟨σ',d,m⟩
  |false=>
    rw[r,aE] at m;rw[asT (λe=>by rw[beq_iff.2 e] at r;cases r)];exact⟨σ',d,m⟩
 |_=>exact⟨σ',d,m⟩
|loop x z=>
  intro ro Q σ a w k h;unfold wpX at h;cases hm:mkB ro x with
 |true=>
   rw[hm,aF] at h;obtain⟨I,μ,h0,W⟩:=h.out;refine wpIn_loop (λa' w'=>∃σ',Rep n σ' a'.tmps∧Off (asg x) σ σ'∧I a'.defers (pick (look (keyOf x) B) σ') w')
    (λa' w'=>μ (pick (look (keyOf x) B) (λi=>a'.tmps.getD i undef)) w') ⟨σ,k,Off.refl _ _,h0⟩ ?_
   rintro a' w' ⟨σ',d,D,hI⟩;have e1:(λi=>a'.tmps.getD i undef)=σ':=funext d.get;have F:=W _ _ w' hI σ';rw[Jb D] at F;have J:=wpX.eJ x _ (λe σ'' ds' o=>Off (asg x) σ σ''∧On Q (λσ'' ds' o=>(I ds' (pick (look (keyOf x) B) σ'') o∧μ (pick (look (keyOf x) B) σ'') o < μ (pick (look (keyOf x) B) σ') w')) e σ'' ds' o)
    (asg x) σ (λi hi=>hi) (λe σ' ds' w' D m=>⟨D,m⟩) σ' a'.defers w' D F
   refine Code.wpIn_mono ?_ (z _ _ σ' a' w' d J);rintro e L o ⟨σ'',s,H,m⟩;cases e with
  |normal=>
    obtain⟨k2,k3⟩:I L.defers (pick (look (keyOf x) B) σ'') o∧μ (pick (look (keyOf x) B) σ'') o < μ (pick (look (keyOf x) B) σ') w':=m;refine⟨⟨σ'',s,H,k2⟩,?_⟩;have Y:(λi=>L.tmps.getD i undef)=σ'':=funext s.get;rw[e1,Y];exact k3
  |_=>exact⟨σ'',s,m⟩
 |false=>
  rw[hm,aE] at h;obtain⟨I,μ,h0,W⟩:=h.out;refine wpIn_loop (λa' w'=>∃σ',Rep n σ' a'.tmps∧a'.defers=a.defers∧Off (asg x) σ σ'∧I (pick (look (keyOf x) B) σ') w')
   (λa' w'=>μ (pick (look (keyOf x) B) (λi=>a'.tmps.getD i undef)) w') ⟨σ,k,rfl,Off.refl _ _,h0⟩ ?_
  rintro a' w' ⟨σ',d,u,D,hI⟩;have e1:(λi=>a'.tmps.getD i undef)=σ':=funext d.get;have F:=W _ w' hI σ';rw[Jb D] at F;have J:=wpX.eJ x _ (λe σ'' ds' o=>Off (asg x) σ σ''∧On Q (λσ'' ds' o=>AtX ds' a.defers (I (pick (look (keyOf x) B) σ'') o∧μ (pick (look (keyOf x) B) σ'') o < μ (pick (look (keyOf x) B) σ') w')) e σ'' ds' o)
   (asg x) σ (λi hi=>hi) (λe σ' ds' w' D m=>⟨D,m⟩) σ' a.defers w' D F
  rw[<-u] at J;refine Code.wpIn_mono ?_ (z _ _ σ' a' w' d J);rintro e L o ⟨σ'',s,H,m⟩;cases e with
 |normal=>
   obtain⟨k1,k2,k3⟩:=m.out;refine⟨⟨σ'',s,k1.trans u,H,k2⟩,?_⟩;have Y:(λi=>L.tmps.getD i undef)=σ'':=funext s.get;rw[e1,Y];exact k3
 |_=>exact⟨σ'',s,m⟩
|rangeFunc g ps b2 b a8 b0=>
  intro ro Q σ a w k h;unfold wpX at h;cases hl:Qu n ps.toList with
 |false=>rw[hl,aE] at h;exact h.elim
 |true=>
   rw[hl,aF] at h;obtain⟨f,fa,ca,df,w0,F,J,h3,h4⟩:=h.out;exact Rs k hl F J h3 (λL0 b1 hY=>h4 L0 b1 hY) a8 b0
|scope x _=>intro ro Q σ a w k h;exact h.elim
|label l=>intro ro Q σ a w k h;exact h.elim
|goto l=>intro ro Q σ a w k h;exact h.elim
|refuse y=>intro ro Q σ a w k h;exact h.elim
inductive RV where
|val (v:aq)
|cell (a:aq) (T:TypeId)
def RV.of (σ:Sg):ResultVar->RV
|.tmp t=>.val (σ t)
|.cell a t=>.cell (σ a) t
def RV.read:RV->Sem aq
|.val v=>pure v
|.cell a t=>do loadVar t (<-asAddr a)
def Ln (σ:Sg):List ResultVar->List RV
|[]=>[]
|r::l=>RV.of σ r::Ln σ l
def PG:List RV->Option (List aq)
|[]=>ax []
|.val v::l=>(PG l).map (v::·)
|.cell ..::_=>aw
def tup:List aq->aq
|[v]=>v
|l=>.tuple l.toArray
def FC (rs:List RV):Sem Value:=do
 let vs <-rs.toArray.mapM RV.read
 pure (if h:vs.size=1 then vs[0] else .tuple vs)
structure A2 (P:Program) (rs:List RV) (w:ao) (K:Ending->ao->Prop):Prop where
 mk ::
 out:∃v,(FC rs).run P w=.ok v w∧K (.returned v) w
def RetD (P:Program)(rs:List RV)(w:ao)(K:Ending->ao->Prop):Prop:=
 match PG rs with
|some l=>K (.returned (tup l)) w
|none=>A2 P rs w K
def D6 (P:Program)(rs:List RV)(K:Ending->ao->Prop):List Deferred->FrameMode->ao->Prop
|[],.returning,w=>RetD P rs w K
|[],.panicking c,w=>K (.panicked c) w
|[],.run,_=>False
|d::ds,u,w=>u≠.run∧∃fv cap f args,d.target=.fn fv cap∧(invoke d.target d.args).run P w=.ok (.enter f args) w ∧
   CallsD P f args u w λ
   |.returned _,a,w'=>D6 P rs K ds (settle a) w'
   |.panicked chain,a,w'=>D6 P rs K ds (raised a chain) w'
   |.outgrown,_,_=>False
def H9 (P:Program)(rs:List RV)(K:Ending->ao->Prop):List Deferred->FrameMode->ao->Prop
|[],.returning,w=>RetD P rs w K
|[],.panicking c,w=>K (.panicked c) w
|[],.run,_=>False
|d::ds,u,w=>u≠.run∧∃r w',d.target=.collected r∧(Instr.takeDeferred r).run P w=.ok [] w'∧H9 P rs K ds u w'
def topM (P:Program)(rs:List ResultVar)(K:Ending->ao->Prop):Ex
|.normal,σ,ds,w=>H9 P (Ln σ rs) K ds .returning w
|.ret,σ,ds,w=>H9 P (Ln σ rs) K ds .returning w
|.panic c,σ,ds,w=>H9 P (Ln σ rs) K ds (.panicking c) w
|_,_,_,_=>False
def topQ (P:Program)(rs:List ResultVar)(K:Ending->ao->Prop):Ex
|.normal,σ,ds,w=>D6 P (Ln σ rs) K ds .returning w
|.ret,σ,ds,w=>D6 P (Ln σ rs) K ds .returning w
|.panic c,σ,ds,w=>D6 P (Ln σ rs) K ds (.panicking c) w
|_,_,_,_=>False
def mP (args:List aq):Sg:=λi=>args.getD i undef
theorem CJ {n:Nat}{σ:Sg}{t:Array aq}(h:Rep n σ t)(fn:Func):results fn t=FC (Ln σ fn.results.toList):=by
 have e:∀l:List ResultVar,(Ln σ l).mapM RV.read=l.mapM (λr=>match r with
  |.tmp b=>(pure (t.getD b undef):Sem aq)
  |.cell a ty=>do loadVar ty (<-asAddr (t.getD a undef))):=by
  intro l
  induction l with
 |nil=>rfl
 |cons r l c=>
   simp only[Ln,List.mapM_cons];rw[c];cases r<;>simp only[RV.of,RV.read]<;>rw[h.get]
 unfold results FC
 congr 1
 rw[<-aAD (xs:=fn.results)];rw[List.mapM_toArray,List.mapM_toArray,e];rfl
theorem Vh {rs:List RV}{l:List aq}(h:PG rs=ax l):rs.mapM RV.read=(pure l:Sem (List aq)):=by
 induction rs generalizing l with
|nil=>cases h;rfl
|cons r rs c=>
  cases r with
 |cell a t=>cases h
 |val v=>
   unfold PG at h;cases b:PG rs with
  |none=>rw[b] at h;cases h
  |some d=>
    rw[b] at h;cases h;rw[List.mapM_cons,c b];rfl
theorem IX {rs:List RV}{K:Ending->ao->Prop}(h:RetD P rs w K):∃v,(FC rs).run P w=.ok v w∧K (.returned v) w:=by
 unfold RetD at h;split at h
 ·rename_i l a
  refine⟨tup l,?_,h⟩;unfold FC;rw[List.mapM_toArray,Vh a];simp only[pure,bind,Sem.bind,Sem.run,Functor.map]
  congr 1
  cases l with
 |nil=>rfl
 |cons v l=>
   cases l with
  |nil=>rfl
  |cons v' l=>simp[tup,Sem.bind,Sem.run]
 ·exact h.out
theorem B7 {n:Nat}{σ:Sg}{t:Array aq}(j:Rep n σ t)(fn:Func){K:Ending->ao->Prop}:∀(ds:List Deferred) (u:FrameMode) (w:ao),
  D6 P (Ln σ fn.results.toList) K ds u w->Leaves P fn t K ds u w:=by
 intro ds
 induction ds with
|nil=>
  intro u w h;cases u with
 |run=>exact h.elim
 |returning=>
   obtain⟨v,a,b⟩:=IX h;exact⟨v,by rw[CJ j];exact a,b⟩
 |panicking c=>exact h
|cons d ds i=>
  intro u w h;obtain⟨a,fv,cap,f,args,b,k,l⟩:=h;refine⟨a,fv,cap,f,args,b,k,l.mono ?_⟩;intro e m w' g;cases e with
 |returned v=>exact i _ _ g
 |panicked c=>exact i _ _ g
 |outgrown=>exact g.elim
theorem yJ {n:Nat}{σ:Sg}{t:Array aq}(g:Rep n σ t)(fn:Func){K:Ending->ao->Prop}:∀(ds:List Deferred) (u:FrameMode) (w:ao),
  H9 P (Ln σ fn.results.toList) K ds u w->LeavesInM Fence.wide 0 P fn t K ds u w:=by
 intro ds
 induction ds with
|nil=>
  intro u w h;cases u with
 |run=>exact h.elim
 |returning=>
   obtain⟨v,f,i⟩:=IX h;exact⟨v,by rw[CJ g];exact f,i⟩
 |panicking c=>exact h
|cons d ds j=>
  intro u w h;obtain⟨f,r,w',e,a,b⟩:=h;exact⟨f,.inl ⟨r,w',e,a,j _ _ b⟩⟩
theorem E4 {args:List aq}{n:Nat}(h:Nat.ble args.length n=av):Rep n (mP args) (args.toArray++Array.replicate (n - args.toArray.size) undef):=by
 have a:args.length<=n:=by simpa[Nat.ble_eq] using h
 refine⟨by simp;omega,λi=>?_⟩;unfold mP;rw[aAB,atD,Array.getElem?_append];split
 ·simp
 ·rename_i hi
  simp only[List.size_toArray,Nat.not_lt] at hi;rw[avJ hi,Array.getElem?_replicate];split<;>rfl
theorem HS {f:FuncId}{c:Code}{args:List aq}{K:Ending->ao->Prop}{n:Nat}{i:List (Nat×List Nat)}{rs:List ResultVar}
  (j:P.funcs[f]?=ax fn) (k:fn.body=ax c) (m:fn.ntmps=n) (d:fn.results.toList=rs) (o:Nat.ble args.length n=av)
  (h:wpX P n aj i aw c (topQ P rs K) (mP args) [] w):Calls P f args.toArray w K:=by
 refine calls_of_wp_defers j k ?_;rw[m];refine Code.wp_mono ?_ (wpIn_wide.1 (EI c aw _ (mP args) _ w (E4 o) h));rintro e a w' ⟨σ,g,b⟩;subst d;cases e with
|normal=>exact B7 g fn _ _ _ b
|ret=>exact B7 g fn _ _ _ b
|panic p=>exact B7 g fn _ _ _ b
|exit id=>exact b.elim
|goto l=>exact b.elim
|outgrown=>exact b.elim
theorem P8 {f:FuncId}{c:Code}{args:List aq}{K:Ending->ao->Prop}{n:Nat}{i:List (Nat×List Nat)}{rs:List ResultVar}
  (j:P.funcs[f]?=ax fn) (k:fn.body=ax c) (m:fn.ntmps=n) (d:fn.results.toList=rs) (o:Nat.ble args.length n=av)
  (h:wpX P n aj i aw c (topM P rs K) (mP args) [] w):Calls P f args.toArray w K:=by
 refine (callsIn_wide (n:=0)).1 (callsIn_of_wp_marks j k trivial ?_);rw[m];refine Code.wpIn_mono ?_ (EI c aw _ (mP args) _ w (E4 o) h);rintro e a w' ⟨σ,g,b⟩;subst d;cases e with
|normal=>exact yJ g fn _ _ _ b
|ret=>exact yJ g fn _ _ _ b
|panic p=>exact yJ g fn _ _ _ b
|exit id=>exact b.elim
|goto l=>exact b.elim
|outgrown=>exact b.elim
end Eng
end
namespace Eng
def DW (fn:Func):Code:=fn.body.getD .skip
def dfrV (v:aq)(args:Array aq):Option Deferred:=
 match v with
|.func fn first captured=>ax { target:=.fn fn captured,args:=first++args }
|_=>aw
def pk (K:Ending->ao->Prop):PKT:=λc w=>K (.panicked c) w
def pd (P:Program)(rs:List RV)(K:Ending->ao->Prop)(ds:List Deferred):PKT:=λc w=>D6 P rs K ds (.panicking c) w
def pdM (P:Program)(rs:List RV)(K:Ending->ao->Prop)(ds:List Deferred):PKT:=λc w=>H9 P rs K ds (.panicking c) w
def pkR:PKT:=λ_ _=>False
def pm1 (PK:PKT):PKT:=λc w=>∀_:aq,PK c w
def ay:Nat->PKT->PKT
 |0,p=>p
 |n+1,p=>pm1 (ay n p)
def aaU:Code->Code
|.seq _ b=>b
|c=>c
def yX:FrameMode->aq
|.panicking ({ v,recovered:=au,goexit:=au }::_)=>v
|_=>.nilIface
def Ba:FrameMode->FrameMode
|.panicking ({ v,recovered:=au,goexit:=au }::a)=>.panicking ({ v,recovered:=av }::a)
|u=>u
def topD (P:Program)(rs:List ResultVar)(K:Ending->ao->Prop):Ex
|.normal,σ,[],w=>RetD P (Ln σ rs) w K
|.ret,σ,[],w=>RetD P (Ln σ rs) w K
|.panic c,_,[],w=>K (.panicked c) w
|_,_,_,_=>False
theorem rec_eq (a:Frame)(cs:List Frame):(match recoverD (a::cs) with
 |some (v,b)=>(v,b)
 |none=>(.nilIface,a::cs))=(yX a.mode,{ a with mode:=Ba a.mode }::cs):=by
 have f:({ a with mode:=a.mode }:Frame)=a:=rfl;cases hm:a.mode with
|run=>simp[recoverD,yX,Ba,hm];rw[<-hm]
|returning=>simp[recoverD,yX,Ba,hm];rw[<-hm]
|panicking d=>
  cases d with
 |nil=>simp[recoverD,yX,Ba,hm];rw[<-hm]
 |cons e c=>
   obtain⟨v,r,g⟩:=e;cases r<;>cases g<;>simp[recoverD,yX,Ba,hm]<;>rw[<-hm]
theorem vA {f:FuncId}{o:Oper}{rest:Code}{args:List aq}{n:Nat}{s:List (Nat×List Nat)}{rs:List ResultVar}
  (t:P.funcs[f]?=ax fn) (y:fn.body=ax (.seq (.region id #[o] au) rest)) (z:o.op=.call { callee:=.builtin .recover,args:=#[],argTypes:=#[] }) (A:o.guard=aw) (hd:o.dst=ax d) (m:Nat.blt d n=av)
  (B:fn.ntmps=n) (p:fn.results.toList=rs) (C:Nat.ble args.length n=av)
  (h:wpX P n aj s aw rest (topD P rs (λe w'=>R e (Ba u) w')) (upd (mP args) d (yX u)) [] w):CallsD P f args.toArray u w R:=by
 refine callsD_of_wpS t y λg cs hu=>?_;rw[B];refine wpS_seq (wpS_region ?_);have hex:∀ρ:Operand->aq,(execOp ρ o).run P w=.ok .recover w:=by
  intro ρ;unfold execOp;rw[z];simp[resolve,invoke,builtin,bind,pure,Sem.bind,Sem.run]
 have i:=E4 (args:=args) C;have j:Rep n (upd (mP args) d (yX u)) (({ tmps:=args.toArray++Array.replicate (n - args.toArray.size) undef,defers:=[] }:Act).put o.dst (yX u)).tmps:=by
  rw[hd];exact Rep.put (a:={ tmps:=args.toArray++Array.replicate (n - args.toArray.size) undef,defers:=[] }) i (d:=ax d) m (yX u)
 have key:Exit.thenS (rest.wpS P (bodyPostS P fn g cs R)) (bodyPostS P fn g cs R) .normal (({ tmps:=args.toArray++Array.replicate (n - args.toArray.size) undef,defers:=[] }:Act).put o.dst (yX u)) ({ g with mode:=Ba u }::cs) w:=by
  refine wpS_of_wp (Code.wp_mono ?_ (wpIn_wide.1 (EI rest aw _ _ _ w j (by rw[hd];exact h))));rintro e a w' ⟨σ,D,b⟩;have k:∀K:Ending->ao->Prop,RetD P (Ln σ rs) w' K->∃v,(results fn a.tmps).run P w'=.ok v w'∧K (.returned v) w':=λK b=>by
   rw[CJ D,p];exact IX b
  generalize c:a.defers=ds at b;cases e<;>cases ds<;>first|(exact b.elim;done)|skip
  ·obtain⟨v,q,r⟩:=k (λe w'=>R e (Ba u) w') b;exact⟨c,Ba u,rfl,v,q,r⟩
  ·obtain⟨v,q,r⟩:=k (λe w'=>R e (Ba u) w') b;exact⟨c,Ba u,rfl,v,q,r⟩
  ·exact⟨c,Ba u,rfl,b⟩
 have e:=rec_eq g cs;rw[hu] at e;show wpOpsS P #[o] _ [0] _ (g::cs) w;unfold wpOpsS;simp only[aAE,axW];rw[asU (by simp[Region.wanted,A])];rw[hex];cases l:recoverD (g::cs) with
|none=>
  rw[l] at e;simp only[axH] at e;simp only[wpOpsS];rw[e.1,e.2];exact key
|some x=>
  obtain⟨v,E⟩:=x;rw[l] at e;simp only[axH] at e;simp only[wpOpsS];rw[e.1,e.2];exact key
end Eng
section
namespace Eng
open Go.RowKit
section
variable {P:Program}{w:ao}{PK:PKT}{K:VWP}
theorem aC {m:Sem Next}(h:m.run P w=.ok (.value v) w'):DoX P m w PK K=K v w':=
 propext ⟨λx=>by have:=x.out;rw[h] at this;exact this,λx=>⟨by rw[h];exact x⟩⟩
theorem kW {m:Sem Next}(h:m.run P w=.ok (.value v) w')(k:K v w'):DoX P m w PK K:=(aC h).mpr k
theorem D7 {m:Sem Next}(h:m.run P w=.ok .skip w')(k:K undef w'):DoX P m w PK K:=⟨by rw[h];exact k⟩
theorem aaW {m:Sem Next}(h:m.run P w=.halt (.panic v) w'):DoX P m w PK K=PK [{ v,recovered:=au }] w':=
 propext ⟨λx=>by have:=x.out;rw[h] at this;exact this,λx=>⟨by rw[h];exact x⟩⟩
theorem bQ {s:Sem aq}(h:s.run P w=.ok v w'):(mv s).run P w=.ok (.value v) w':=by
 simp[mv,h]
theorem JJ {s:Sem Unit}(h:s.run P w=.ok () w'):(mu s).run P w=.ok .skip w':=by
 simp[mu,h]
theorem fT {s:Sem aq}(h:s.run P w=.ok v w'):DoX P (mv s) w PK K=K v w':=aC (bQ h)
theorem Kn {T:TypeId}{k:IntKind}{a b:Int}:DoX P (iA .add T (.int k a) (.int k b)) w PK K=K (.int k (k.wrap (a+b))) w:=fT (by simp[binOp,Op.intArith])
theorem agU {T:TypeId}{k:IntKind}{a b:Int}:DoX P (iA .sub T (.int k a) (.int k b)) w PK K=K (.int k (k.wrap (a - b))) w:=fT (by simp[binOp,Op.intArith])
theorem apF {T:TypeId}{k:IntKind}{a b:Int}:DoX P (iA .mul T (.int k a) (.int k b)) w PK K=K (.int k (k.wrap (a*b))) w:=fT (by simp[binOp,Op.intArith])
theorem ahC {T:TypeId}{k:IntKind}{a b:Int}:DoX P (iA .lss T (.int k a) (.int k b)) w PK K=K (.bool (ai (a < b))) w:=fT (by simp[binOp,Op.intCmp])
theorem Zs {T:TypeId}{k:IntKind}{a b:Int}:DoX P (iA .leq T (.int k a) (.int k b)) w PK K=K (.bool (ai (a<=b))) w:=fT (by simp[binOp,Op.intCmp])
theorem asP {T:TypeId}{k:IntKind}{a b:Int}:DoX P (iA .gtr T (.int k a) (.int k b)) w PK K=K (.bool (ai (b < a))) w:=fT (by simp[binOp,Op.intCmp])
theorem apM {T:TypeId}{k:IntKind}{a b:Int}:DoX P (iA .geq T (.int k a) (.int k b)) w PK K=K (.bool (ai (b<=a))) w:=fT (by simp[binOp,Op.intCmp])
theorem OS {T:TypeId}{k:IntKind}{b:Int}:(iA .add T (.int k a) (.int k b)).run P w=.ok (.value (.int k (k.wrap (a+b)))) w:=bQ (by simp[binOp,Op.intArith])
theorem Ck {T:TypeId}{k:IntKind}{b:Int}:(iA .sub T (.int k a) (.int k b)).run P w=.ok (.value (.int k (k.wrap (a - b)))) w:=bQ (by simp[binOp,Op.intArith])
theorem alY {T:TypeId}{k:IntKind}{b:Int}:(iA .mul T (.int k a) (.int k b)).run P w=.ok (.value (.int k (k.wrap (a*b)))) w:=bQ (by simp[binOp,Op.intArith])
theorem alN {T:TypeId}{k:IntKind}{b:Int}(h:b≠0):(iA .quo T (.int k a) (.int k b)).run P w=.ok (.value (.int k (k.wrap (a.tdiv b)))) w:=bQ (by simp[binOp,Op.intDiv,h])
theorem aqY {T:TypeId}{k:IntKind}{b:Int}(h:b≠0):(iA .rem T (.int k a) (.int k b)).run P w=.ok (.value (.int k (a.tmod b))) w:=bQ (by simp[binOp,Op.intDiv,h])
theorem Ih {T:TypeId}{k:IntKind}{b:Int}(h:b≠0):DoX P (iA .quo T (.int k a) (.int k b)) w PK K=K (.int k (k.wrap (a.tdiv b))) w:=fT (by simp[binOp,Op.intDiv,h])
theorem Di {T:TypeId}{k:IntKind}{b:Int}(h:b≠0):DoX P (iA .rem T (.int k a) (.int k b)) w PK K=K (.int k (a.tmod b)) w:=fT (by simp[binOp,Op.intDiv,h])
theorem Xc (a b:Int):(a==b)=ai (a=b):=by by_cases h:a=b<;>simp[h]
theorem Wq (a b:Int):(a != b)=ai (a≠b):=by by_cases h:a=b<;>simp[h]
theorem amM {T:TypeId}{xo yo:Operand}{k:IntKind}{a b:Int}:DoX P (mEq .eql T xo yo (.int k a) (.int k b)) w PK K=K (.bool (ai (a=b))) w:=fT (by simp[eqGuard,binOp,Op.intCmp,Xc])
theorem abD {T:TypeId}{xo yo:Operand}{k:IntKind}{a b:Int}:DoX P (mEq .neq T xo yo (.int k a) (.int k b)) w PK K=K (.bool (ai (a≠b))) w:=fT (by simp[eqGuard,binOp,Op.intCmp,Wq])
theorem arS {k:IntKind}{a:Int}:DoX P (mUn .neg (.int k a)) w PK K=K (.int k (k.wrap (-a))) w:=fT (by simp[Op.unary,Op.intArith])
theorem QT {b:Bool}:DoX P (mUn .not (.bool b)) w PK K=K (.bool (!b)) w:=fT (by simp[Op.unary])
theorem Vw {S:TypeId}{k:IntKind}{n:Int}(a:(P.underlying S).isSome=av)(hd:P.underlying D=ax (.int k')):DoX P (fZ S D (.int k n)) w PK K=K (.int k' (k'.wrap n)) w:=by
 cases h:P.underlying S with
|none=>rw[h] at a;cases a
|some d=>exact fT (by simp[convert,run_underlying h,run_underlying hd,Conv.intToInt])
theorem LS {c:Bool}{a b:aq}:DoX P (cW (.bool c) a b) w PK K=K (if c then a else b) w:=aC (by simp[cW,asBool])
theorem aoN {b:Bool}{E:(VWP)->Prop}:GDo (.bool b) av E w K=((b=av->E K)∧(b=au->K undef w)):=by
 refine propext ⟨λx=>?_,λx=>⟨?_⟩⟩
 ·have:=x.out;cases b
  ·exact⟨λh=>(by cases h),λ_=>this⟩
  ·exact⟨λ_=>this,λh=>(by cases h)⟩
 ·cases b
  ·exact x.2 rfl
  ·exact x.1 rfl
theorem agR {b:Bool}{E:(VWP)->Prop}:GDo (.bool b) au E w K=((b=au->E K)∧(b=av->K undef w)):=by
 refine propext ⟨λx=>?_,λx=>⟨?_⟩⟩
 ·have:=x.out;cases b
  ·exact⟨λ_=>this,λh=>(by cases h)⟩
  ·exact⟨λh=>(by cases h),λ_=>this⟩
 ·cases b
  ·exact x.1 rfl
  ·exact x.2 rfl
theorem alI {b:Bool}{A B:Prop}:IfX (.bool b) A B=((b=av->A)∧(b=au->B)):=propext ⟨λx=>x.out,λx=>⟨x⟩⟩
theorem NL {E:(VWP)->Prop}:GDo (.bool av) av E w K=E K:=propext ⟨λx=>x.out,λx=>⟨x⟩⟩
theorem g_ft {E:(VWP)->Prop}:GDo (.bool au) av E w K=K undef w:=propext ⟨λx=>x.out,λx=>⟨x⟩⟩
theorem g_ff {E:(VWP)->Prop}:GDo (.bool au) au E w K=E K:=propext ⟨λx=>x.out,λx=>⟨x⟩⟩
theorem g_tf {E:(VWP)->Prop}:GDo (.bool av) au E w K=K undef w:=propext ⟨λx=>x.out,λx=>⟨x⟩⟩
theorem i_t {A B:Prop}:IfX (.bool av) A B=A:=propext ⟨λx=>x.out.1 rfl,λx=>⟨⟨λ_=>x,λh=>(by cases h)⟩⟩⟩
theorem i_f {A B:Prop}:IfX (.bool au) A B=B:=propext ⟨λx=>x.out.2 rfl,λx=>⟨⟨λh=>(by cases h),λ_=>x⟩⟩⟩
theorem p_t {a b:aq}:DoX P (cW (.bool av) a b) w PK K=K a w:=LS
theorem p_f {a b:aq}:DoX P (cW (.bool au) a b) w PK K=K b w:=LS
theorem nn_t:(!av)=false:=rfl
theorem nn_f:(!au)=true:=rfl
theorem aqP {p:Prop}[Decidable p]:(decide p=av)=p:=sm
theorem asB {p:Prop}[Decidable p]:(decide p=au)=¬p:=sm
theorem apD {b:Bool}:((!b)=av)=(b=au):=sm
theorem apH {b:Bool}:((!b)=au)=(b=av):=sm
theorem aqT:(av=av)=True:=sm
theorem apS:(av=au)=False:=sm
theorem aqG:(au=av)=False:=sm
theorem apL:(au=au)=True:=sm
theorem dC (l:List UInt8):(⟨l.toArray⟩:ByteArray).size=l.length:=by simp[ByteArray.size]
theorem gN (l:List UInt8):(⟨l.toArray⟩:ByteArray).toList=l:=by
 rw[ByteArray.toList_eq]
theorem UR (a b:List UInt8):(⟨a.toArray⟩++⟨b.toArray⟩:ByteArray)=⟨(a++b).toArray⟩:=by
 apply ByteArray.ext;simp
theorem JG {s:ByteArray}:s=⟨s.data.toList.toArray⟩:=by
 cases s;simp
theorem Pf {T:TypeId}{a b:List UInt8}(h:a.length+b.length<=9223372036854775807):DoX P (iA .add T (ae a) (ae b)) w PK K=K (ae (a++b)) w:=by
 refine fT ?_;have e:IntKind.i64.max=9223372036854775807:=rfl;have c:¬(((⟨a.toArray⟩:ByteArray).size+(⟨b.toArray⟩:ByteArray).size:Nat):Int)>IntKind.i64.max:=by rw[dC,dC,e];omega
 simp only[binOp,Op.stringOp,asT c,UR];rfl
theorem Lg {T:TypeId}{xo yo:Operand}{a b:List UInt8}:DoX P (mEq .eql T xo yo (ae a) (ae b)) w PK K=K (.bool (ai (a=b))) w:=by
 refine fT ?_;have e:(a==b)=ai (a=b):=by by_cases h:a=b<;>simp[h]
 simp[eqGuard,binOp,Op.stringOp,gN,e]
theorem Rb {T:TypeId}{xo yo:Operand}{a b:List UInt8}:DoX P (mEq .neq T xo yo (ae a) (ae b)) w PK K=K (.bool (ai (a≠b))) w:=by
 refine fT ?_;have e:(a==b)=ai (a=b):=by by_cases h:a=b<;>simp[h]
 simp[eqGuard,binOp,Op.stringOp,gN,e]
theorem ahQ {T:TypeId}{a b:List UInt8}:DoX P (iA .lss T (ae a) (ae b)) w PK K=K (.bool (Op.bytesLess a b)) w:=fT (by simp[binOp,Op.stringOp,gN])
theorem aqN {T:TypeId}{a b:List UInt8}:DoX P (iA .leq T (ae a) (ae b)) w PK K=K (.bool (Op.bytesLess a b||a==b)) w:=fT (by simp[binOp,Op.stringOp,gN])
theorem arX {T:TypeId}{a b:List UInt8}:DoX P (iA .gtr T (ae a) (ae b)) w PK K=K (.bool (!(Op.bytesLess a b||a==b))) w:=fT (by simp[binOp,Op.stringOp,gN])
theorem arC {T:TypeId}{a b:List UInt8}:DoX P (iA .geq T (ae a) (ae b)) w PK K=K (.bool (!(Op.bytesLess a b))) w:=fT (by simp[binOp,Op.stringOp,gN])
theorem cZ {T:TypeId}{cs:Array Bool}{a:List UInt8}(h:P.underlying T=ax .string):DoX P (mB .len #[T] U cs #[ae a]) w PK K=K (ad (a.length:Int)) w:=by
 refine aC ?_;simp[mB,builtin,Builtin.len_,run_underlying h,goInt,dC]
theorem NW {T:TypeId}{k:IntKind}{i:Int}{a:List UInt8}{c:UInt8}(h:P.underlying T=ax .string)(b:0<=i)(d:a[i.toNat]?=ax c):DoX P (mIx T (ae a) (.int k i)) w PK K=K (.int .u8 (c.toNat:Int)) w:=by
 refine fT ?_;have e:(⟨a.toArray⟩:ByteArray)[i.toNat]?=ax c:=by
  have f:i.toNat < a.length:=(atT.1 d).1;have g:i.toNat < (⟨a.toArray⟩:ByteArray).size:=by rw[dC];exact f
  rw[getElem?_pos (⟨a.toArray⟩:ByteArray) i.toNat g];have j:=(atT.1 d).2;rw[<-j];rfl
 simp only[Instr.index,asIntOf,run_underlying h,b,e];simp[b,e,run_underlying h]
theorem Qs {T:TypeId}{a:List UInt8}{k:IntKind}(h:P.underlying T=ax .string)(b:0<=lo)(d:lo<=hi)(c:hi<=a.length) :
  DoX P (cT T (ae a) (ax (.int k lo)) (ax (.int k' hi)) aw) w PK K=K (ae ((a.drop lo.toNat).take (hi.toNat - lo.toNat))) w:=by
 refine fT ?_;have e:(⟨a.toArray⟩:ByteArray).extract lo.toNat hi.toNat=⟨((a.drop lo.toNat).take (hi.toNat - lo.toNat)).toArray⟩:=by
  rw[JG (s:=(⟨a.toArray⟩:ByteArray).extract lo.toNat hi.toNat),Lib.extract_data]
 have g1:(0<=hi∧hi<=((a.length:Nat):Int)):=om
 have g2:(0<=lo∧lo<=((hi.toNat:Nat):Int)):=om
 simp only[Instr.sliceAt,Instr.slice,Instr.sliceBounds,Instr.sliceBound,asIntOf,run_underlying h,dC];have g3:lo<=max hi 0:=om
 simp[run_underlying h,dC,c,g3,b,g1.1,e]
theorem yY {T:TypeId}{a:List UInt8}{k:IntKind}(h:P.underlying T=ax .string)(b:0<=lo)(c:lo<=a.length) :
  DoX P (cT T (ae a) (ax (.int k lo)) aw aw) w PK K=K (ae (a.drop lo.toNat)) w:=by
 refine fT ?_;have e:(⟨a.toArray⟩:ByteArray).extract lo.toNat a.length=⟨(a.drop lo.toNat).toArray⟩:=by
  rw[JG (s:=(⟨a.toArray⟩:ByteArray).extract lo.toNat a.length),Lib.extract_data];rw[auG sm]
 have g2:(0<=lo∧lo<=((a.length:Nat):Int)):=om
 simp only[Instr.sliceAt,Instr.slice,Instr.sliceBounds,Instr.sliceBound,asIntOf,run_underlying h,dC];simp[run_underlying h,dC,b,c,e]
theorem O9 {T:TypeId}{a:List UInt8}(h:P.underlying T=ax .string)(b:0<=hi)(c:hi<=a.length) :
  DoX P (cT T (ae a) aw (ax (.int k' hi)) aw) w PK K=K (ae (a.take hi.toNat)) w:=by
 refine fT ?_;have e:(⟨a.toArray⟩:ByteArray).extract 0 hi.toNat=⟨(a.take hi.toNat).toArray⟩:=by
  rw[JG (s:=(⟨a.toArray⟩:ByteArray).extract 0 hi.toNat),Lib.extract_data];simp
 have g1:(0<=hi∧hi<=((a.length:Nat):Int)):=om
 simp only[Instr.sliceAt,Instr.slice,Instr.sliceBounds,Instr.sliceBound,asIntOf,run_underlying h,dC];simp[run_underlying h,dC,b,c,e]
theorem kP {l:List aq}(h:l[i]?=ax v):DoX P (At (.tuple l.toArray) i) w PK K=K v w:=fT (by simp[Instr.extract,h])
theorem AQ {fn:Fn}{a b:Array aq}:DoX P (Ub fn a b) w PK K=K (.func fn a b) w:=fT rfl
theorem asJ {a:Addr}:DoX P (Jf (.pointer (ax a))) w PK K=K (.pointer (ax a)) w:=aC (by simp[Jf,execOp])
theorem Jo {T:TypeId}{x:aq}:DoX P (HX (.iface T x)) w PK K=PK [{ v:=.iface T x,recovered:=au }] w:=by
 have h:(HX (.iface T x)).run P w=.halt (.panic (.iface T x)) w:=by simp[HX,mv,Instr.panic,goPanic,Sem.run,bind,Sem.bind]
 exact aaW h
def nD (P:Program)(T:TypeId):Bool:=match P.underlying T with|some (.interface _)=>au|some _=>av|none=>au
theorem Np {T:TypeId}{x:aq}(h:nD P T=av):DoX P (aeL T x) w PK K=K (.iface T x) w:=by
 unfold nD at h;cases hu:P.underlying T with
|none=>rw[hu] at h;cases h
|some d=>
  rw[hu] at h;refine fT ?_;cases d<;>first|(cases h;done)|simp[Instr.makeInterface,run_underlying hu]
theorem LY {T:TypeId}{ms:Array (String×TypeId)}(h:P.underlying T=ax (.interface ms)):(Op.equal T .nilIface .nilIface).run P w=.ok av w:=by
 show (Op.equalIn (9999+1) T .nilIface .nilIface).run P w=_;rw[Op.equalIn];simp[run_underlying h]
theorem J7 {T:TypeId}{ms:Array (String×TypeId)}(h:P.underlying T=ax (.interface ms)):(Op.equal T (.iface U v) .nilIface).run P w=.ok au w:=by
 show (Op.equalIn (9999+1) T (.iface U v) .nilIface).run P w=_;rw[Op.equalIn];simp[run_underlying h]
theorem T3 {T:TypeId}{ms:Array (String×TypeId)}(h:P.underlying T=ax (.interface ms)):DoX P (mEq .eql T xo (.const c) .nilIface .nilIface) w PK K=K (.bool av) w:=by
 refine fT ?_;have e:(eqGuard .eql T xo (.const c) .nilIface .nilIface)=pure ():=by cases xo<;>rfl
 rw[e];simp[binOp,LY h]
theorem WH {T:TypeId}{ms:Array (String×TypeId)}(h:P.underlying T=ax (.interface ms)):DoX P (mEq .eql T xo yo (.iface U v) .nilIface) w PK K=K (.bool au) w:=by
 refine fT ?_;have e:(eqGuard .eql T xo yo (.iface U v) .nilIface)=pure ():=rfl;rw[e];simp[binOp,J7 h]
theorem anB {T:TypeId}{ms:Array (String×TypeId)}(h:P.underlying T=ax (.interface ms)):DoX P (mEq .neq T xo (.const c) .nilIface .nilIface) w PK K=K (.bool au) w:=by
 refine fT ?_;have e:(eqGuard .neq T xo (.const c) .nilIface .nilIface)=pure ():=by cases xo<;>rfl
 rw[e];simp[binOp,LY h]
theorem anN {T:TypeId}{ms:Array (String×TypeId)}(h:P.underlying T=ax (.interface ms)):DoX P (mEq .neq T xo yo (.iface U v) .nilIface) w PK K=K (.bool av) w:=by
 refine fT ?_;have e:(eqGuard .neq T xo yo (.iface U v) .nilIface)=pure ():=rfl;rw[e];simp[binOp,J7 h]
theorem Zi {A a:TypeId}(h:nD P A=av):DoX P (mTA (.iface A v) a A av) w PK K=K (.tuple #[v,.bool av]) w:=by
 unfold nD at h;cases hu:P.underlying A with
|none=>rw[hu] at h;cases h
|some d=>
  rw[hu] at h;refine fT ?_;cases d<;>first|(cases h;done)|simp[Instr.typeAssert,run_underlying hu]
def wM (R:VWP):Ending->ao->Prop:=λe w'=>∃v,e=.returned v∧R v w'
theorem vB {R:VWP}(h:R v w):wM R (.returned v) w:=⟨v,rfl,h⟩
def Ret (P:Program)(f:Nat)(args:Array aq)(w:ao)(R:VWP):Prop:=Calls P f args w (wM R)
theorem aL {R:VWP}(h:∀K:Ending->ao->Prop,(∀v w',R v w'->K (.returned v) w')->Calls P f args w K):Ret P f args w R:=h _ (λv w' r=>vB r)
def PanK (R:PKT):Ending->ao->Prop:=λe w'=>∃c,e=.panicked c∧R c w'
theorem panK {R:PKT}{c:List PanicEntry}(h:R c w):PanK R (.panicked c) w:=⟨c,rfl,h⟩
def Pan (P:Program)(f:Nat)(args:Array aq)(w:ao)(R:PKT):Prop:=Calls P f args w (PanK R)
theorem VB {R:PKT}(h:∀K:Ending->ao->Prop,(∀v w',R v w'->K (.panicked v) w')->Calls P f args w K):Pan P f args w R:=h _ (λv w' r=>panK r)
theorem Ret.mono {f:Nat}{args:Array aq}{R R':VWP}(h:Ret P f args w R)(k:∀v w',R v w'->R' v w'):Ret P f args w R':=
 Calls.mono h λ_ _ ⟨v,he,a⟩=>⟨v,he,k _ _ a⟩
theorem C5 {R:VWP}(h:Ret P f args w R)(k:∀v w',R v w'->K v w'):dZ P f args w PK K:=
 ⟨Calls.mono h λe w' ⟨v,he,a⟩=>by subst he;exact k _ _ a⟩
theorem qE (h:Ret P f args w (λv' w'=>v'=v∧w=w'))(k:K v w):dZ P f args w PK K:=
 C5 h λv' w' ⟨a,hw⟩=>by subst a;subst hw;exact k
theorem agE {R:PKT}(h:Pan P f args w R)(k:∀c w',R c w'->PK c w'):dZ P f args w PK K:=
 ⟨Calls.mono h λe w' ⟨v,he,a⟩=>by subst he;exact k _ _ a⟩
theorem fY {R:Ending->ao->Prop}(h:Calls P f args w R)(k:∀e w',R e w'->oV K PK e w'):dZ P f args w PK K:=
 ⟨Calls.mono h k⟩
theorem IC {fa ca:Array aq}(hp:bY P f=av)(h:dZ P f (fa++args++ca) w PK K):DoX P (gC (.func (.func f) fa ca) args) w PK K:=by
 refine⟨?_⟩;have e:(gC (.func (.func f) fa ca) args).run P w=.ok (.enter f (fa++args++ca)) w:=by
  unfold gC;simp only[Deferred.ofValue,invoke,bind,pure,Sem.bind];exact jU hp _ _
 rw[e];exact h
end
theorem join {F:(List aq->ao->Prop)->Prop}{R:List aq->ao->Prop}(h:∀J:List aq->ao->Prop,(∀vs w,R vs w->J vs w)->F J):D9 F R:=⟨h⟩
def IJ (I:List aq->ao->Prop)(μ:List aq->ao->Nat)(vs:List aq)(w:ao):List aq->ao->Prop:=λvs' w'=>I vs' w'∧μ vs' w' < μ vs w
theorem aS {I:List aq->ao->Prop}{μ:List aq->ao->Nat}{vs vs':List aq}(h:I vs' w')(hm:μ vs' w' < μ vs w):IJ I μ vs w vs' w':=⟨h,hm⟩
theorem loop {vs:List aq}{F:List aq->ao->(List aq->ao->Prop)->Prop}(I:List aq->ao->Prop)(μ:List aq->ao->Nat)
  (a:I vs w) (b:∀vs w,I vs w->F vs w (IJ I μ vs w)):Ax vs w F:=⟨I,μ,a,b⟩
theorem quiet {F:(ao->Prop)->Prop}(h:F (Below w.heap.size w)):nK w F:=⟨_,(Below.refl _ _).drew,h⟩
theorem cQ {F:(ao->Prop)->Prop}(C:ao->Prop)(hC:C w.drew)(h:F C):nK w F:=⟨C,hC,h⟩
section
variable {P:Program}{C:ao->Prop}{K:aq->Prop}
theorem gr {m:Sem Next}(v:aq)(h:∀w,m.run P w=.ok (.value v) w)(k:K v):QDo P C m K:=
 ⟨v,λw _=>by rw[h w];exact⟨rfl,rfl⟩,k⟩
theorem iL {m:Sem Next}(v:aq)(h:∀w,C w->m.run P w=.ok (.value v) w)(k:K v):QDo P C m K:=
 ⟨v,λw hw=>by rw[h w hw];exact⟨rfl,rfl⟩,k⟩
theorem iH (v:aq)(h:∀w,C w->Ret P f args w (λv' w'=>v'=v∧C w'))(k:K v):QCall P C f args K:=
 ⟨v,λw hw=>Calls.mono (h w hw) λ_ _ ⟨_,he,a,b⟩=>⟨by rw[he,a],b⟩,k⟩
end
def rs:=And.intro @Kn (And.intro @agU (And.intro @apF (And.intro @ahC (And.intro @Zs (And.intro @asP (And.intro @apM (And.intro @amM (And.intro @abD (And.intro @arS (And.intro @QT (And.intro @p_t (And.intro @p_f (And.intro @NL (And.intro @g_ft (And.intro @g_ff (And.intro @g_tf (And.intro @i_t (And.intro @i_f (And.intro @Lg (And.intro @Rb (And.intro @ahQ (And.intro @aqN (And.intro @arX (And.intro @arC (And.intro @AQ (And.intro @asJ (And.intro @Jo (And.intro @nn_t (@nn_f)))))))))))))))))))))))))))))
def sp:=And.intro @LS (And.intro @aoN (And.intro @agR (And.intro @alI (And.intro @aqP (And.intro @asB (And.intro @apD (And.intro @apH (And.intro @aqT (And.intro @apS (And.intro @aqG (@apL)))))))))))
theorem gd0 {a:aq}{l:List aq}:(a::l).getD 0 undef=a:=rfl
theorem gd1 {a b:aq}{l:List aq}:(a::b::l).getD 1 undef=b:=rfl
theorem gd2 {a b c:aq}{l:List aq}:(a::b::c::l).getD 2 undef=c:=rfl
theorem gd3 {a b c d:aq}{l:List aq}:(a::b::c::d::l).getD 3 undef=d:=rfl
theorem gd4 {a b c d e:aq}{l:List aq}:(a::b::c::d::e::l).getD 4 undef=e:=rfl
theorem gd5 {a b c d e f:aq}{l:List aq}:(a::b::c::d::e::f::l).getD 5 undef=f:=rfl
def gd:=And.intro @gd0 (And.intro @gd1 (And.intro @gd2 (And.intro @gd3 (And.intro @gd4 @gd5))))
theorem aA {n:Int}(a:-9223372036854775808<=n)(b:n<=9223372036854775807):IntKind.wrap .i64 n=n:=IntWalk.i64_in n om
end Eng
end
section
namespace Eng
open Go.RowKit
structure Gt (S:Nat->Prop) (w w':ao):Prop where
 os:w'.os=w.os
 tape:w'.tape=w.tape
 output:w'.output=w.output
 size:w.heap.size<=w'.heap.size
 block:∀k,k < w.heap.size->¬S k->w'.heap[k]?=w.heap[k]?
def NoB:Nat->Prop:=λ_=>False
theorem Gt.refl (S:Nat->Prop)(w:ao):Gt S w w:=⟨rfl,rfl,rfl,atE _,λ_ _ _=>rfl⟩
theorem Gt.trans {S:Nat->Prop}{a b c:ao}(h:Gt S a b)(k:Gt S b c):Gt S a c:=
 ⟨k.os.trans h.os,k.tape.trans h.tape,k.output.trans h.output,avH h.size k.size,λi hi d=>(k.block i (avR hi h.size) d).trans (h.block i hi d)⟩
theorem Gt.below {a b:ao}(h:Gt NoB a b):Below a.heap.size a b:=⟨h.os,h.tape,h.output,h.size,λk c=>h.block k c (λx=>x)⟩
theorem My {a b:ao}(h:Below a.heap.size a b):Gt S a b:=⟨h.os,h.tape,h.output,h.size,λk c _=>h.block k c⟩
theorem Yk {o:Option Nat}(h:w.grownBy w' o):Gt (λk=>o=ax k) w w':=
 ⟨h.os,h.tape,h.output,h.size,λk a b=>h.block k a (λe=>b e.symm)⟩
structure Ent where
 blk:Nat->Prop
 is:ao->Prop
 keep:∀{w w':ao},is w->(∀k,blk k->w'.heap[k]?=w.heap[k]?)->is w'
 lt:∀{w:ao},is w->∀k,blk k->k < w.heap.size
theorem dY {o:Obj}(h:w.heap[b]?=ax o):b < w.heap.size:=(azC.1 h).1
def Ent.obj (b:Nat)(o:Obj):Ent:=⟨λk=>k=b,λw=>w.heap[b]?=ax o,λh k=>(k b rfl).trans h,λh k a=>by cases a;exact dY h⟩
def Ent.cells (b:Nat)(cs:List aq)(T:TypeId):Ent:=⟨λk=>k=b,λw=>w.heap[b]?=ax (.cells cs.toArray T (0,0)),λh k=>(k b rfl).trans h,λh k a=>by cases a;exact dY h⟩
def Ent.row (T:TypeId)(sz:Nat)(v:aq)(n:Nat)(xs:List aq):Ent:=
 ⟨λk=>v.ownBlock=ax k,λw=>w.ownsRowF 0 T sz v n xs,λ{w w'} h k=>by
  refine⟨h.1,?_⟩;rcases h.2 with b|⟨g,cap,cur,fz,rfl,c,a,rest⟩
  ·exact .inl b
  ·exact .inr ⟨g,cap,cur,fz,rfl,c,(k g rfl).trans a,rest⟩,λh k d=>(World.ownsRowF.lt h k d).2⟩
structure cH (S:Nat->Prop) (w0 w:ao) (L:List Ent):Prop where
 grew:Gt S w0 w
 all:∀e∈L,e.is w∧∀k,e.blk k->S k∨w0.heap.size<=k
 apart:L.Pairwise (λe f=>∀k,e.blk k->¬f.blk k)
abbrev Own (w0 w:ao)(L:List Ent):Prop:=cH NoB w0 w L
theorem Own.start (w:ao):Own w w []:=⟨Gt.refl _ _,(λ_ h=>by cases h),List.Pairwise.nil⟩
section
variable {S:Nat->Prop}
theorem cH.size {w0 w:ao}{L:List Ent}(h:cH S w0 w L):w0.heap.size<=w.heap.size:=h.grew.size
theorem cH.mem {L:List Ent}(h:cH S w0 w L){e:Ent}(he:e∈L):e.is w:=(h.all e he).1
theorem cH.at_ {L:List Ent}(h:cH S w0 w L)(i:Nat){e:Ent}(he:L[i]?=ax e):e.is w:=h.mem (awV he)
theorem cH.grow {L:List Ent}(h:cH S w0 w L)(a:Below w.heap.size w w'):cH S w0 w' L:=
 ⟨h.grew.trans (My a),λe he=>⟨e.keep (h.all e he).1 λk b=>a.block k (e.lt (h.all e he).1 k b),(h.all e he).2⟩,h.apart⟩
theorem cH.drew {w0 w:ao}{L:List Ent}(h:cH S w0 w L):cH S w0 w.drew L:=h.grow (Below.refl _ _).drew
theorem Qo (a:w.grownBy w' aw):Below w.heap.size w w':=⟨a.os,a.tape,a.output,a.size,λk b=>a.block k b sm⟩
theorem cH.add {L:List Ent}(h:cH S w0 w L)(i:w.grownBy w' aw)(e:Ent)(he:e.is w')(g:∀k,e.blk k->w.heap.size<=k):cH S w0 w' (e::L):=by
 have b:=h.grow (Qo i);refine⟨b.grew,?_,?_⟩
 ·intro f a;cases a with
 |head=>exact⟨he,λk c=>.inr (avH h.size (g k c))⟩
 |tail _ a=>exact b.all f a
 ·refine .cons (λf a k c d=>?_) b.apart;have:=f.lt (h.mem a) k d;have:=g k c;omega
theorem cH.alloc {w0 w:ao}{L:List Ent}(h:cH S w0 w L)(cs:List aq)(T:TypeId):cH S w0 (w.alloc (.cells cs.toArray T)) (.cells w.heap.size cs T::L):=
 h.add (World.grownBy_alloc w _ aw) _ (heap_alloc_new w _) (λk a=>by cases a;exact atE _)
theorem cH.SF {L:List Ent}(h:cH S w0 w L)(o:Obj):cH S w0 (w.alloc o) (.obj w.heap.size o::L):=
 h.add (World.grownBy_alloc w _ aw) _ (heap_alloc_new w _) (λk a=>by cases a;exact atE _)
structure GC (e e':Ent) (w w':ao):Prop where
 grew:Gt e.blk w w'
 is:e'.is w'
 new:∀k,e'.blk k->e.blk k∨w.heap.size<=k
theorem GC.refl {e:Ent}{w:ao}(h:e.is w):GC e e w w:=⟨Gt.refl _ _,h,λ_ a=>.inl a⟩
theorem cH.turn {L:List Ent}(h:cH S w0 w L)(i:Nat){e e':Ent}(hi:L[i]?=ax e)(H:GC e e' w w'):cH S w0 w' (L.set i e'):=by
 obtain⟨r,he,F⟩:=H;have t:i < L.length:=(atT.1 hi).1;have u:L[i]=e:=(atT.1 hi).2;have v:e∈L:=awV hi;have g:=axX.1 h.apart;have m:∀j (d:j < L.length),j≠i->∀k,L[j].blk k->¬e.blk k:=by
  intro j d n k c l;rcases auC j i with y|I
  ·exact g j i d t y k c (by rw[u];exact l)
  ·exact g i j t d om k (by rw[u];exact l) c
 have o:Gt S w0 w':=⟨r.os.trans h.grew.os,r.tape.trans h.grew.tape,r.output.trans h.grew.output,avH h.size r.size,λk c G=>
  (r.block k (avR c h.size) (λz=>((h.all e v).2 k z).elim G (λx=>by omega))).trans (h.grew.block k c G)⟩
 have p:∀j (d:j < L.length),j≠i->L[j].is w':=λj d n=>
  L[j].keep (h.mem (atP d)) λk c=>r.block k (L[j].lt (h.mem (atP d)) k c) (λz=>m j d n k c z)
 refine⟨o,?_,?_⟩
 ·intro f J;obtain⟨j,d,rfl⟩:=awK J;rw[avS] at d;rw[azG];split
  ·refine⟨he,λk c=>?_⟩;rcases F k c with s|s
   ·exact (h.all e v).2 k s
   ·exact .inr (avH h.size s)
  ·rename_i A
   exact⟨p j d (λe=>A e.symm),(h.all _ (atP d)).2⟩
 ·rw[axX];intro a b B C D k c;rw[avS] at B C;rw[azG] at c;rw[azG];have other:∀j (d:j < L.length),j≠i->∀k,e'.blk k->¬L[j].blk k:=by
   intro j d n k c l;rcases F k c with s|s
   ·exact m j d n k l s
   ·have:=L[j].lt (h.mem (atP d)) k l;omega
  split at c
  ·rename_i q
   subst q;rw[asT om];exact other b C om k c
  ·rename_i q
   split
   ·rename_i E
    subst E;intro l;exact other a B (λe=>q e.symm) k l c
   ·exact g a b B C D k c
theorem cH.put {L:List Ent}(h:cH S w0 w L)(i:Nat){e:Ent}(hi:L[i]?=ax e)(a:Gt e.blk w w')(e':Ent)(he:e'.is w')
  (b:∀k,e'.blk k->e.blk k∨w.heap.size<=k):cH S w0 w' (L.set i e'):=h.turn i hi ⟨a,he,b⟩
theorem cH.tail {w0 w:ao}{e:Ent}{L:List Ent}(h:cH S w0 w (e::L)):cH S w0 w L:=
 ⟨h.grew,λf a=>h.all f (.tail _ a),(avT.1 h.apart).2⟩
theorem cH.sub {L L':List Ent}(h:cH S w0 w L)(a:L'.Sublist L):cH S w0 w L':=
 ⟨h.grew,λf b=>h.all f (a.subset b),h.apart.sublist a⟩
theorem cH.done {L:List Ent}(h:cH NoB w0 w L):Below w0.heap.size w0 w:=h.grew.below
theorem cH.below {w0 w:ao}{L:List Ent}(h:cH NoB w0 w L):Below w0.heap.size w0 w:=h.grew.below
theorem cH.lend {e:Ent}(h:e.is w):cH e.blk w w [e]:=by
 refine⟨Gt.refl _ _,λf a=>?_,List.pairwise_singleton _ _⟩;rcases atL.1 a with rfl|a
 ·exact⟨h,λk b=>.inl b⟩
 ·cases a
theorem cH.back {e e':Ent}{L:List Ent}(h:cH e.blk w w' (e'::L)):GC e e' w w':=
 ⟨h.grew,h.mem sm,(h.all e' sm).2⟩
end
def n0 (vs:List aq):Nat:=(RowKit.intOf (vs.getD 0 undef)).toNat
def n1 (vs:List aq):Nat:=(RowKit.intOf (vs.getD 1 undef)).toNat
def n2 (vs:List aq):Nat:=(RowKit.intOf (vs.getD 2 undef)).toNat
theorem aG {T:TypeId}(h:(Ent.cells b cs T).is w)(a:cs[i]?=ax v):w.cell? ⟨b,i,aw⟩=ax v:=by
 have c:w.heap[b]?=ax (.cells cs.toArray T (0,0)):=h;simp[World.cell?,c,a]
theorem cH.cell {S:Nat->Prop}{w0 w:ao}{L:List Ent}(h:cH S w0 w L)(i:Nat){b:Nat}{cs:List aq}{T:TypeId}(hi:L[i]?=ax (.cells b cs T))(j:Nat){v:aq}(a:cs[j]?=ax v):w.cell? ⟨b,j,aw⟩=ax v:=
 aG (h.at_ i hi) a
theorem cH.old {L:List Ent}(h:cH NoB w0 w L){p:Addr}(a:w0.cell? p=ax v):w.cell? p=ax v:=
 (h.below.cell (World.block_lt_of_cell? w0 p a)).trans a
def eP (P:Program)(T:TypeId):Bool:=match P.underlying T with|some (.struct _)=>au|some (.array _ _)=>au|some _=>av|none=>au
section
variable {S:Nat->Prop}{P:Program}{w:ao}{PK:PKT}{K:VWP}
theorem oW {T:TypeId}(b:eP P T=av){a:Addr}(h:w.cell? a=ax v):(loadVar T a).run P w=.ok v w:=by
 unfold eP at b;cases hu:P.underlying T with
|none=>rw[hu] at b;cases b
|some d=>
  rw[hu] at b;cases d<;>first|(cases b;done)|simp[loadVar,isAgg,run_underlying hu,h]
theorem aB {T:TypeId}(b:eP P T=av){a:Addr}(h:w.cell? a=ax v):(aK T (.pointer (ax a))).run P w=.ok (.value v) w:=
 bQ (by simp[Instr.loadAt,Instr.sureAddr,oW b h])
theorem aR {T:TypeId}(b:eP P T=av){a:Addr}(h:w.cell? a=ax v):DoX P (aK T (.pointer (ax a))) w PK K=K v w:=aC (aB b h)
theorem bI {m:Sem Next}(mk:Nat->aq)(cs:List aq)(E:TypeId){L:List Ent}(hm:∀w,m.run P w=.ok (.value (mk w.heap.size)) (w.alloc (.cells cs.toArray E)))(a:cH S w0 w L)
  (k:∀b w',cH S w0 w' (.cells b cs E::L)->K (mk b) w'):DoX P m w PK K:=
 kW (hm w) (k _ _ (a.alloc cs E))
theorem Lr {T:TypeId}{off:Nat}{E:TypeId}(d:(P.info? T).map (·.size)=ax 1)(c:v.oneCell'=av)(h:w.heap[b]?=ax (.cells cs.toArray E (0,0)))(f:off < cs.length) :
  (Instr.storeAt T (af b off) v).run P w=.ok () (w.setRow b (cs.set off v).toArray):=by
 have g:v.cells=#[v]:=by cases v<;>first|rfl|(cases c;done)
 have a:=run_storeCells_at P b off E [v] 0 cs.toArray w h (by simp;omega) (by simpa using c);obtain⟨i,hi,j⟩:=avM.1 d;simp only[auU] at a;have e:cs.take off++[v]++cs.drop (off+1)=cs.set off v:=by
  rw[aAX,asU f];simp
 simp[Instr.storeAt,Instr.sureAddr,storeVar,g,sizeOf,typeInfo,hi,j,a];rw[<-e];simp
theorem iX {L:List Ent}(d:cH S w0 w L)(i:Nat){E:TypeId}(hi:L[i]?=ax (.cells b cs E))(a:List aq):cH S w0 (w.setRow b a.toArray) (L.set i (.cells b a E)):=by
 have h:w.heap[b]?=ax (.cells cs.toArray E (0,0)):=d.at_ i hi;refine d.put i hi (w':=w.setRow b a.toArray) ⟨rfl,rfl,rfl,by simp[World.setRow],λk _ c=>setRow_other w b k _ (λe=>c (by simp[Ent.cells,e]))⟩ (.cells b a E) (setRow_heap w b cs.toArray _ E (0,0) h) (λk c=>.inl c)
theorem aN {L:List Ent}(i:Nat){T:TypeId}{off:Nat}{E:TypeId}(a:cH S w0 w L)(hi:L[i]?=ax (.cells b cs E))(c:(P.info? T).map (·.size)=ax 1)(d:v.oneCell'=av)(e:off < cs.length)
  (k:∀w',cH S w0 w' (L.set i (.cells b (cs.set off v) E))->K undef w'):DoX P (aV T (af b off) v) w PK K:=
 D7 (JJ (Lr c d (a.at_ i hi) e)) (k _ (iX a i hi _))
def Sl (w:ao)(v:aq)(sz n:Nat)(cs:List aq):Prop:=
 cs.length=n*sz∧∃a cap,v=.slice a n cap∧(a=aw->n=0)∧∀p,a=ax p->(0 < n->p.spot=aw)∧∀j u,cs[j]?=ax u->w.cell? ⟨p.block,p.off+j,aw⟩=ax u
theorem Sl.mono {n:Nat}(h:Sl w v sz n cs)(c:∀p u,w.cell? p=ax u->w'.cell? p=ax u):Sl w' v sz n cs:=by
 obtain⟨d,a,cap,e,f,b⟩:=h;exact⟨d,a,cap,e,f,λp hp=>⟨(b p hp).1,λj u g=>c _ _ ((b p hp).2 j u g)⟩⟩
theorem cH.Qz {L:List Ent}(h:cH NoB w0 w L){n:Nat}(a:Sl w0 v sz n cs):Sl w v sz n cs:=a.mono λ_ _ hp=>h.old hp
theorem Sl.cells {w:ao}{b:Nat}{cs:List aq}{T:TypeId}(h:(Ent.cells b cs T).is w)(sz n cap:Nat)(a:cs.length=n*sz):Sl w (bR b 0 n cap) sz n cs:=
 ⟨a,ax ⟨b,0,aw⟩,cap,rfl,λh=>(by cases h),λp hp=>by cases hp;exact⟨λ_=>rfl,λj u c=>by rw[atK];exact aG h c⟩⟩
theorem cH.sl {L:List Ent}(h:cH S w0 w L)(i:Nat){T:TypeId}(hi:L[i]?=ax (.cells b cs T))(sz n cap:Nat)(a:cs.length=n*sz):Sl w (bR b 0 n cap) sz n cs:=
 Sl.cells (h.at_ i hi) sz n cap a
theorem Sl.row {w:ao}{T:TypeId}{sz:Nat}{v:aq}{n:Nat}{xs:List aq}(h:(Ent.row T sz v n xs).is w):Sl w v sz n xs:=by
 have a:w.ownsRowF 0 T sz v n xs:=h;refine⟨a.1,?_⟩;rcases a.2 with ⟨rfl,rfl⟩|⟨g,cap,cur,fz,rfl,_⟩
 ·exact⟨aw,0,rfl,λ_=>rfl,λp hp=>by cases hp⟩
 ·refine⟨ax ⟨g,0,aw⟩,cap,rfl,(λh=>by cases h),λp hp=>?_⟩;cases hp;refine⟨λ_=>rfl,λj u b=>?_⟩;have:=World.ownsRowF.cells a (g:=g) rfl j u b;have e:(⟨g,0,aw⟩:Addr).add j=⟨g,0+j,aw⟩:=by unfold Addr.add;split<;>simp_all
  rwa [e] at this
theorem Sl.nil (w:ao)(sz cap:Nat):Sl w (.slice aw 0 cap) sz 0 []:=⟨sm,aw,cap,rfl,λ_=>rfl,λp hp=>by cases hp⟩
theorem aZ {T:TypeId}{E:TypeId}{n:Nat}(h:P.underlying T=ax (.slice E))(b:Sl w v sz n cs):DoX P (mB .len #[T] U cb #[v]) w PK K=K (ad (n:Int)) w:=by
 obtain⟨_,a,cap,rfl,_⟩:=b;refine aC ?_;simp[mB,builtin,Builtin.len_,run_underlying h,goInt]
theorem bO {T:TypeId}{E:TypeId}{a:Option Addr}{n:Nat}(h:P.underlying T=ax (.slice E)):DoX P (mB .len #[T] U cb #[.slice a n cap]) w PK K=K (ad (n:Int)) w:=by
 refine aC ?_;simp[mB,builtin,Builtin.len_,run_underlying h,goInt]
theorem arA {T E:TypeId}{k:IntKind}{n:Nat}{i:Int}(h:P.underlying T=ax (.slice E))(f:(P.info? E).map (·.size)=ax sz)(l:Sl w v sz n cs)(m:0<=i)(o:i < n)
  (q:∀b off,(∀j u,cs[i.toNat*sz+j]?=ax u->w.cell? ⟨b,off+j,aw⟩=ax u)->K (af b off) w):DoX P (mIA T v (.int k i)) w PK K:=by
 obtain⟨x,a,cap,rfl,r,s⟩:=l;obtain⟨ii,hi,g⟩:=avM.1 f;cases a with
|none=>have:=r rfl;omega
|some p=>
  obtain⟨c,d⟩:=s p rfl
  replace c:=c om
  obtain⟨b,off,spot⟩:=p;simp only at c d;subst c;refine kW (bQ (v:=af b (off+i.toNat*sz)) ?_) (q b (off+i.toNat*sz) λj u t=>by rw[awP];exact d _ _ t);have e:(⟨b,off,aw⟩:Addr).add (i.toNat*sz)=⟨b,off+i.toNat*sz,aw⟩:=by unfold Addr.add;split<;>simp_all
  simp[Instr.indexAt,asIntOf,run_underlying h,m,o,sizeOf,typeInfo,hi,g,e]
theorem dP {T E:TypeId}{k:IntKind}{off n:Nat}{i:Int}(h:P.underlying T=ax (.slice E))(a:(P.info? E).map (·.size)=ax sz)(d:0<=i)(f:i < n) :
  (mIA T (bR b off n cap) (.int k i)).run P w=.ok (.value (af b (off+i.toNat*sz))) w:=by
 obtain⟨ii,hi,c⟩:=avM.1 a;have e:(⟨b,off,aw⟩:Addr).add (i.toNat*sz)=⟨b,off+i.toNat*sz,aw⟩:=by unfold Addr.add;split<;>simp_all
 exact bQ (by simp[Instr.indexAt,asIntOf,run_underlying h,d,f,sizeOf,typeInfo,hi,c,e])
theorem bU {n:Nat}(e:Sl w v sz n cs)(f:0 < n):∃b off cap,v=bR b off n cap∧∀j u,cs[j]?=ax u->w.cell? ⟨b,off+j,aw⟩=ax u:=by
 obtain⟨_,a,cap,rfl,g,h⟩:=e;cases a with
|none=>have:=g rfl;omega
|some p=>
  obtain⟨c,d⟩:=h p rfl
  replace c:=c f
  obtain⟨b,off,spot⟩:=p;simp only at c d;subst c;exact⟨b,off,cap,rfl,d⟩
theorem Hx {T E:TypeId}{k:IntKind}{n:Nat}{i:Int}(x:aq)(h:P.underlying T=ax (.slice E))(a:(P.info? E).map (·.size)=ax 1)(c:Sl w v 1 n cs)(e:0<=i)(d:cs[i.toNat]?=ax x)
  (f:∀p,w.cell? p=ax x->K (.pointer (ax p)) w):DoX P (mIA T v (.int k i)) w PK K:=by
 have g:i.toNat < cs.length:=(atT.1 d).1;refine arA h a c e (by rw[c.1] at g;omega) λb off j=>f _ ?_;have:=j 0 x (by simpa using d);simpa using this
theorem P6 {a:Addr}{K:Ending->ao->Prop}(t1:eP P T1=av)(b:w.cell? a=ax v1)(k:K (.returned v1) w) :
  A2 P [.cell (.pointer (ax a)) T1] w K:=
 ⟨_,by simp[FC,RV.read,asAddr,oW t1 b],k⟩
end
end Eng
end
section
open Eng Go.RowKit Go.ChangeShapes Go.WideShapes Go.ChangeAt
def CR (P:Program)(a:List TypeId):Bool:=a.all λt=>P.readableRec t&&ai (t < P.types.size)
theorem Fu {H:Type}{enc:TypeId×aq->H}{P:Program}(f:laidOutB P=av){W g:ao}(i:Below W.heap.size W g) :
  ∀(a:List TypeId) {vs:List aq} {ds:List (DataW H)} {ps:List MemPlace},CR P a=av->DataW.TrodAll enc P W 0 (λ_=>av) av a vs ds ps->(∀x∈ps,x.block < W.heap.size) ->
   DataW.TrodAll enc P g 0 (λb=>ai (b < W.heap.size)) av a vs ds ps
|[],vs,ds,ps,_,h,_=>by
  obtain⟨rfl,rfl,rfl⟩:=trodAll_nil h;exact trodAll_mk0
|t::a,vs,ds,ps,d,h,c=>by
  obtain⟨v0,j,d0,k,n,o,rfl,rfl,rfl,l,m⟩:=trodAll_cons h;simp only[CR,azZ,atZ,auP] at d;exact trodAll_cons_mk (Below.trod f d.1.1 d.1.2 l i λx e=>c x (by simp[e])) (Fu f i a (by simpa[CR] using d.2) m λx e=>c x (by simp[e]))
theorem abM {enc:TypeId×aq->H}{f:Func}{s:ChangeSpec}{apart handsOn:Bool}{B:TypeId}(l:laidOutB P=av)(m:CR P f.params.toList=av)(n:f.resultTypes=#[B])(o:P.underlying B=ax .bool)
  {W g:ao} {args:Array aq} {ds gs:List (DataW H)} {before:List MemPlace} (i:s.vars=[]) (b:DataW.Whole enc P f.params.toList s.vars apart W args.toList ds gs before)
  (a:s.fn H (ds++gs)={ results:=[.lit (.bool av)],args:=ds }) (j:Below W.heap.size W g) {fresh:Bool}:s.post enc P f apart fresh handsOn au W args (.bool av) g:=by
 have c:∀x∈before,x.block < W.heap.size:=λx d=>by simpa using b.lt x d
 have e:=b;obtain⟨p,q,r,k,rfl,_,_⟩:=b;rw[i] at k;obtain⟨rfl,rfl⟩:=trodVars_none k;refine⟨ds,[],_,[],p,[],e,?_,?_,?_,j.frame _,λh=>by cases h⟩
 ·rw[a,n];exact trodAll_cons_mk (shut_bool o _) trodAll_mk0
 ·rw[a];exact Fu l j _ m r λx d=>c x (by simp[d])
 ·rw[a,i];rfl
def aiE:DataW Unit->List aq
|.lit (.int k n)=>[.int k n]
|_=>[]
def akK:DataW Unit->List aq
|.agg xs=>xs.flatMap λx=>match x with
 |.agg a=>a.flatMap aiE
 |y=>aiE y
|y=>aiE y
def To (w:ao)(g:Nat)(cs:List aq):World:=
 { w with heap:=w.heap.modify g λ
  |.cells _ t frozen=>.cells cs.toArray t frozen
  |o=>o }
end
namespace Fx
def okB (n:Int):Bool:=ai (-1073741824<=n)&&ai (n<=1073741824)
def ans (n:Int):Int×Int:=if okB n then (n,0) else (0,2)
end Fx
section
namespace Fx
open Go
def aoP (c:UInt8):Bool:=ai (48<=c.toNat)&&ai (c.toNat<=57)
def val (n:Int)(l:List UInt8):Int:=l.foldl (λn c=>10*n+((c.toNat:Int) - 48)) n
def whole (l:List UInt8):List UInt8:=l.takeWhile (λc=>c != 46)
def part (l:List UInt8):List UInt8:=(l.dropWhile (λc=>c != 46)).drop 1
def body:List UInt8->List UInt8
|[]=>[]
|c::t=>if c=45∨c=43 then t else c::t
def minus:List UInt8->Bool
|[]=>au
|c::_=>ai (c=45)
def form (l:List UInt8):Bool:=ai (l.length<=40)&&(whole (body l)).all aoP&&(part (body l)).all aoP&&ai (0 < (whole (body l)).length+(part (body l)).length)
def more (rest:List UInt8)(neg:Bool):Bool:=
 match rest with
|[]=>au
|c::t=>ai (53<=c.toNat)&&(!neg||decide (53 < c.toNat)||t.any (λc=>ai (48 < c.toNat)))
def four (p:List UInt8):List UInt8:=(p++[48,48,48,48]).take 4
def mag (l:List UInt8):Int:=val (val 0 (whole (body l))) (four (part (body l)))+(if more ((part (body l)).drop 4) (minus l) then 1 else 0)
def read (l:List UInt8):Int×Int:=
 if form l then
  if val 0 (whole (body l))>1073741824 then (0,2)
  else ans (if minus l then - mag l else mag l)
 else (0,3)
end Fx
end
end Go.Proofs.YtlipjfcbjemicaaGreatDoor

namespace Go.Proofs.YtlipjfcbjemicaaGreatDoor
variable{B l:List Nat}{C:ao->Prop}{D T1 T2 U:TypeId}{H α β:Type}{K:VWP}{L0:Loop}{P:Program}{PK:PKT}{Q Q':Exit->Act->ao->Prop}{R:Ending->FrameMode->ao->Prop}{S:Nat->Prop}{a hi lo:Int}{aj:List (Nat×List Nat)}{args:Array aq}{b cap d f i id j sz:Nat}{c v v1:aq}{cb:Array Bool}{cs:List aq}{ds:List Deferred}{fn:Func}{k':IntKind}{ops:Array Oper}{ro:Option Nat}{u:FrameMode}{w w' w0:ao}{want:Bool}{xo yo:Operand}
section
open Go
namespace Oc
def acK:List UInt8:=[0,9,10,12,13,32]
def acG:List UInt8:=[40,41,60,62,91,93,123,125,47,37]
def Dp (c:UInt8):Bool:=acK.contains c
def anY (c:UInt8):Bool:=acG.contains c
def regular (c:UInt8):Bool:=!Dp c&&!anY c
def hexs:List UInt8:=[48,49,50,51,52,53,54,55,56,57,65,66,67,68,69,70]
def Ib (n:Nat):UInt8:=hexs.getD n 0
def hex1 (c:UInt8):List UInt8:=[Ib (c.toNat / 16),Ib (c.toNat % 16)]
def hex (l:List UInt8):List UInt8:=l.flatMap hex1
theorem Zu {n:Nat}(h:n < 16):hexs[n]?=ax (Ib n):=by
 have a:n < hexs.length:=h;rw[atI a,Ib,atD,atI a];rfl
theorem SR (l:List UInt8)(c:UInt8):hex (l++[c])=hex l++hex1 c:=by simp[hex]
theorem Mr (l:List UInt8):(hex l).length=2*l.length:=by
 induction l with
|nil=>rfl
|cons c l a=>
  have e:hex (c::l)=hex1 c++hex l:=by simp[hex]
  rw[e,asY,a];simp only[hex1,atW,awI];omega
theorem zS (c:UInt8):∀l:List UInt8,ai (0<=Lib.indexByte l c)=l.contains c
|[]=>by simp[Lib.indexByte]
|b::l=>by
  have f:=zS c l;have hm:-1<=Lib.indexByte l c:=by
   clear f
   induction l with
  |nil=>simp[Lib.indexByte]
  |cons a l f=>
    simp only[Lib.indexByte];split
    ·omega
    ·split<;>omega
  rw[List.contains_cons];by_cases h:b=c
  ·subst h;simp[Lib.indexByte]
  ·have g:(b==c)=false:=by simpa using h
   have i:(c==b)=false:=by simpa using λe:c=b=>h e.symm
   rw[i,azF,<-f];simp only[Lib.indexByte,g,axI,if_false];split
   ·rename_i he
    have d:Lib.indexByte l c=-1:=by simpa using he
    rw[d]
   ·rename_i he
    have d:Lib.indexByte l c≠-1:=by simpa using he
    have j:0<=Lib.indexByte l c:=om
    rw[atA j,atA om]
end Oc
namespace Pl
open Oc
def tot (ps:List (List UInt8)):Nat:=(ps.map (λp=>p.length+1)).sum
theorem Mi (a b:List (List UInt8)):tot (a++b)=tot a+tot b:=by simp[tot]
theorem iY:∀ps:List (List UInt8),ps.length<=tot ps
|[]=>by simp
|p::ps=>by have:=iY ps;simp only[tot,avC,axA,atW] at this ⊢;omega
end Pl
end
section
namespace Eng
open Go.RowKit
def aH (l:List UInt8):List Value:=l.map λc=>.int .u8 (c.toNat:Int)
theorem cS (l:List UInt8):(aH l).length=l.length:=by simp[aH]
theorem fW {l:List UInt8}{c:UInt8}(h:l[i]?=ax c):(aH l)[i]?=ax (.int .u8 (c.toNat:Int)):=by simp[aH,h]
section
variable {S:Nat->Prop}{P:Program}{w:ao}{PK:PKT}{K:VWP}
theorem aiX {T:TypeId}{cs:Array Bool}{l:List UInt8}(h:P.underlying T=ax .string):(mB .len #[T] U cs #[ae l]).run P w=.ok (.value (ad (l.length:Int))) w:=by
 simp[mB,builtin,Builtin.len_,run_underlying h,goInt,dC]
theorem ZI {T:TypeId}{a:List UInt8}(h:P.underlying T=ax .string)(b:0<=hi)(c:hi<=a.length) :
  (cT T (ae a) aw (ax (.int k' hi)) aw).run P w=.ok (.value (ae (a.take hi.toNat))) w:=by
 refine bQ ?_;have e:(⟨a.toArray⟩:ByteArray).extract 0 hi.toNat=⟨(a.take hi.toNat).toArray⟩:=by
  rw[JG (s:=(⟨a.toArray⟩:ByteArray).extract 0 hi.toNat),Lib.extract_data];simp
 simp only[Instr.sliceAt,Instr.slice,Instr.sliceBounds,Instr.sliceBound,asIntOf,run_underlying h,dC];simp[run_underlying h,dC,b,c,e]
theorem ZF {k:IntKind}{b:Int}:DoX P (mB .min #[T1,T2] U cb #[.int k a,.int k' b]) w PK K=K (.int k (min a b)) w:=by
 refine aC ?_;have e:(if b < a then b else a)=min a b:=by split<;>omega
 simp[mB,builtin,Builtin.min_,Builtin.min2,e]
theorem vG {S E:TypeId}{l:List UInt8}(j:P.underlying S=ax (.slice E))(he:P.underlying E=ax (.int .u8))(hd:P.underlying D=ax .string)(h:Sl w v 1 l.length (aH l)):DoX P (fZ S D v) w PK K=K (ae l) w:=by
 obtain⟨o,a,cap,rfl,m,n⟩:=h;cases a with
|none=>
  have g:=m rfl;have:l=[]:=axL g;subst this;exact fT (run_convert_bytes_nil w S E j he _ _ D hd)
|some p=>
  obtain⟨f,d⟩:=n p rfl;by_cases g:l=[]
  ·subst g;refine fT ?_;have k:(loadCells p 0).run P w=.ok (([]:List Int).map (Value.int .u8)).toArray w:=rfl;rw[show ([]:List UInt8).length=0 from rfl,run_convert_bytes_string w S D E _ 0 cap j he hd,run_bytesToString w p 0 cap [] k];rfl
  replace f:=f (awL.2 g)
  obtain⟨b,off,spot⟩:=p;simp only at f d;subst f;have:=run_convert_bytes_arg (P:=P) w S E j he b off l.length cap (l.map λc=>(c.toNat:Int)) sm (λi hi=>by
   refine d i _ ?_;simp[aH,atI hi]) D hd
  refine fT ?_;rw[this];have e:strOfNums (l.map λc=>(c.toNat:Int))=⟨l.toArray⟩:=by
   unfold strOfNums;rw[axB]
   congr 2
   conv=>rhs;rw[<-List.map_id l]
   refine axY λc _=>?_;simp
  rw[e]
theorem Ji {L:List Ent}(c:cH S w0 w L)(i:Nat){o o':Obj}(hi:L[i]?=ax (.obj b o)):cH S w0 { w with heap:=w.heap.setIfInBounds b o' } (L.set i (.obj b o')):=by
 have h:w.heap[b]?=ax o:=c.at_ i hi;refine c.put i hi (w':={ w with heap:=w.heap.setIfInBounds b o' }) ⟨rfl,rfl,rfl,sm,λk _ a=>?_⟩ (.obj b o') ?_ (λk a=>.inl a)
 ·show (w.heap.setIfInBounds b o')[k]?=_;exact axU (λe=>a (by simp[Ent.obj,e]))
 ·show (w.heap.setIfInBounds b o')[b]?=_;exact aAF (dY h)
theorem x1_0 {a:aq}:DoX P (At (.tuple #[a]) 0) w PK K=K a w:=kP (l:=[a]) rfl
theorem x2_0 {a b:aq}:DoX P (At (.tuple #[a,b]) 0) w PK K=K a w:=kP (l:=[a,b]) rfl
theorem x2_1 {a b:aq}:DoX P (At (.tuple #[a,b]) 1) w PK K=K b w:=kP (l:=[a,b]) rfl
theorem x3_0 {a b c:aq}:DoX P (At (.tuple #[a,b,c]) 0) w PK K=K a w:=kP (l:=[a,b,c]) rfl
theorem x3_1 {a b c:aq}:DoX P (At (.tuple #[a,b,c]) 1) w PK K=K b w:=kP (l:=[a,b,c]) rfl
theorem x3_2 {a b c:aq}:DoX P (At (.tuple #[a,b,c]) 2) w PK K=K c w:=kP (l:=[a,b,c]) rfl
theorem x4_0 {a b c d:aq}:DoX P (At (.tuple #[a,b,c,d]) 0) w PK K=K a w:=kP (l:=[a,b,c,d]) rfl
theorem x4_1 {a b c d:aq}:DoX P (At (.tuple #[a,b,c,d]) 1) w PK K=K b w:=kP (l:=[a,b,c,d]) rfl
theorem x4_2 {a b c d:aq}:DoX P (At (.tuple #[a,b,c,d]) 2) w PK K=K c w:=kP (l:=[a,b,c,d]) rfl
theorem x4_3 {a b c d:aq}:DoX P (At (.tuple #[a,b,c,d]) 3) w PK K=K d w:=kP (l:=[a,b,c,d]) rfl
end
theorem nE {E:(VWP)->Prop}:GDo undef want E w K=K undef w:=propext ⟨λx=>x.out,λx=>⟨x⟩⟩
def ex:=And.intro @x1_0 (And.intro @x2_0 (And.intro @x2_1 (And.intro @x3_0 (And.intro @x3_1 (And.intro @x3_2 (And.intro @x4_0 (And.intro @x4_1 (And.intro @x4_2 @x4_3))))))))
theorem IZ {n:Int}(a:0<=n)(b:n<=255):IntKind.wrap .u8 n=n:=IntWalk.u8_in n ⟨a,b⟩
theorem CC {n:Int}(a:-2147483648<=n)(b:n<=2147483647):IntKind.wrap .i32 n=n:=IntWalk.i32_in n ⟨a,b⟩
theorem Vr {n:Int}(a:0<=n)(b:n<=18446744073709551615):IntKind.wrap .u64 n=n:=IntWalk.u64_in n ⟨a,b⟩
end Eng
end
end Go.Proofs.YtlipjfcbjemicaaGreatDoor
