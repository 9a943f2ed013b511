/- Parts of the proof. -/
import Derived.StillTail
import Derived.Deep.Quiet
import Derived.OrdersHeld
import Derived.WalkKit
import Derived.Recover
import Derived.TacticsIn
import Derived.OrdersIn
import Derived.RangeFuncLeaves
import Derived.WalkLawsBesides
import Derived.IntWalk
import Derived.Lib.Strings
import Derived.Laws.OwnMore
import Derived.Laws.MakeOwn
import Derived.Lib.FrozenHead2
import Derived.ProofKit
import Derived.OpenShut
import Derived.Carry
import Derived.ChangeSlices
import Derived.Deep.DeepHandedRow
import Derived.Lib.LaidTab
import Derived.Lib.SlTrimSet
import Derived.Lib.TrimByte
import GoSem.Op.String
import Derived.Lib.ItoaNum
import Derived.Lib.ItoaLen
import Derived.Lib.IndexEntry
import Derived.Laws.RangeString
import Derived.Laws.BytesArg
set_option linter.all false
set_option maxRecDepth 20000
open Option renaming some->ay,none->ax
open Bool renaming true->aw,false->au
open Go renaming Value->aq,World->ao
open Decidable renaming decide->ai
namespace Go.Proofs
abbrev auB:=@if_neg
abbrev auC:=@if_pos
abbrev auD:=@decide_eq_false
abbrev auE:=@decide_true
abbrev auF:=@decide_false
abbrev auG:=@decide_eq_true
abbrev auH:=@List.length_append
abbrev auI:=@List.mem_cons
abbrev auJ:=@Int.toNat_natCast
abbrev auK:=@List.getD_eq_getElem?_getD
abbrev auL:=@Nat.le_refl
abbrev auM:=@List.length_take
abbrev auN:=@List.append_assoc
abbrev auO:=@List.getElem?_eq_getElem
abbrev auP:=@Nat.zero_add
abbrev auS:=@List.getElem_mem
abbrev auT:=@List.length_drop
abbrev auV:=@List.getElem?_eq_some_iff
abbrev auW:=@of_decide_eq_true
abbrev auX:=@List.length_cons
abbrev auY:=@Bool.and_eq_true
abbrev auZ:=@List.mem_cons_of_mem
abbrev avA:=@List.append_nil
abbrev avC:=@Nat.mul_one
abbrev avD:=@List.mem_singleton
abbrev avE:=@List.take_of_length_le
abbrev avF:=@List.mem_append
abbrev avG:=@Nat.zero_le
abbrev avI:=@Nat.lt_or_ge
abbrev avJ:=@List.length_map
abbrev avK:=@decide_eq_true_eq
abbrev avL:=@List.take_succ_eq_append_getElem
abbrev avM:=@List.map_append
abbrev avN:=@List.mem_map
abbrev avO:=@Nat.min_eq_left
abbrev avP:=@List.not_mem_nil
abbrev avQ:=@List.mem_cons_self
abbrev avR:=@List.getElem?_cons_succ
abbrev avS:=@List.map_cons
abbrev avT:=@of_decide_eq_false
abbrev avU:=@List.nil_append
abbrev avV:=@List.take_append_drop
abbrev avW:=@List.length_replicate
abbrev avX:=@List.drop_eq_getElem_cons
abbrev avZ:=@Bool.not_false
abbrev awA:=@Bool.not_true
abbrev awB:=@Nat.mod_eq_of_lt
abbrev awC:=@Nat.mul_le_mul_right
abbrev awD:=@List.take_length
abbrev awF:=@Nat.add_zero
abbrev awG:=@List.drop_eq_nil_of_le
abbrev awH:=@List.mem_range
abbrev awJ:=@not_false_eq_true
abbrev awK:=@List.take_left'
abbrev awL:=@Nat.pow_le_pow_right
abbrev awM:=@List.length_singleton
abbrev awN:=@List.mem_of_mem_take
abbrev awO:=@Nat.lt_of_lt_of_le
abbrev awP:=@Option.map_eq_some_iff
abbrev awQ:=@Nat.eq_zero_or_pos
abbrev awR:=@List.getElem?_append_left
abbrev awS:=@Nat.succ_mul
abbrev awT:=@Nat.pow_succ
abbrev awU:=@Nat.add_assoc
abbrev awV:=@List.getElem?_eq_none
abbrev awW:=@List.getElem?_append_right
abbrev awX:=@Classical.not_not
abbrev awY:=@decide_eq_false_iff_not
abbrev awZ:=@List.flatMap_cons
abbrev axB:=@List.drop_zero
abbrev axC:=@List.length_set
abbrev axD:=@List.pairwise_cons
abbrev axE:=@Nat.add_mul
abbrev axF:=@List.set_cons_zero
abbrev axG:=@Nat.mul_le_mul
abbrev axH:=@Nat.mul_comm
abbrev axJ:=@List.all_eq_true
abbrev axK:=@List.getElem?_take
abbrev axL:=@Nat.sub_self
abbrev axM:=@Nat.div_div_eq_div_mul
abbrev axN:=@Option.some.inj
abbrev axO:=@Nat.le_trans
abbrev axP:=@Nat.zero_mul
abbrev axQ:=@List.flatMap_append
abbrev axR:=@List.getElem?_set_self
abbrev axS:=@Bool.or_eq_true
abbrev axT:=@List.map_nil
abbrev axU:=@Nat.mod_lt
abbrev axV:=@List.eq_of_mem_replicate
abbrev axW:=@List.cons_append
abbrev axX:=@List.getElem_of_mem
abbrev axY:=@List.take_zero
abbrev axZ:=@List.length_eq_zero_iff
abbrev ayA:=@List.length_nil
abbrev ayB:=@List.getElem?_drop
abbrev ayC:=@List.mem_of_getElem?
abbrev ayD:=@Option.getD_some
abbrev ayE:=@UInt8.toNat_ofNat'
abbrev ayF:=@List.any_eq_true
abbrev ayG:=@List.mem_of_mem_drop
abbrev ayH:=@List.sum_cons
abbrev ayI:=@UInt8.toNat_lt
abbrev ayJ:=@Prod.mk.injEq
abbrev ayK:=@Option.some.injEq
abbrev ayL:=@List.pairwise_append
abbrev ayM:=@List.drop_drop
abbrev ayN:=@List.drop_append
abbrev ayO:=@List.getElem?_map
abbrev ayP:=@List.flatMap_singleton
abbrev ayQ:=@Bool.false_eq_true
abbrev ayR:=@Option.isSome_none
abbrev ayS:=@Nat.add_sub_cancel
abbrev ayT:=@List.count_append
abbrev ayU:=@List.Perm.refl
abbrev ayV:=@Array.getElem?_setIfInBounds_ne
abbrev ayW:=@List.getElem?_cons_zero
abbrev ayX:=@List.pairwise_iff_getElem
abbrev ayY:=@List.eq_nil_of_length_eq_zero
abbrev ayZ:=@List.take_take
abbrev azA:=@List.take_succ_cons
abbrev azB:=@Bool.and_assoc
abbrev azC:=@Bool.decide_and
abbrev azD:=@Option.isSome_some
abbrev azF:=@List.set_append_right
abbrev azH:=@Nat.lt_irrefl
abbrev azI:=@Int.le_refl
abbrev azJ:=@Bool.not_eq_true'
abbrev azK:=@Bool.true_and
abbrev azL:=@List.length_pos_iff
abbrev azM:=@Option.bind_eq_some_iff
abbrev azN:=@Int.fdiv_eq_ediv_of_nonneg
abbrev azO:=@List.cons.injEq
abbrev azP:=@List.mem_flatMap
abbrev azQ:=@List.count_le_length
abbrev azR:=@Nat.mul_assoc
abbrev azS:=@Nat.div_le_self
abbrev azT:=@List.set_set
abbrev azU:=@List.getElem?_set_ne
abbrev azV:=@List.Sublist.refl
abbrev azX:=@List.foldl_cons
abbrev azY:=@List.map_congr_left
abbrev azZ:=@List.range_succ
abbrev aAa:=@List.drop_of_length_le
abbrev aAb:=@Nat.one_mul
abbrev aAc:=@Nat.add_sub_cancel_left
abbrev aAd:=@List.filter_cons
abbrev aAe:=@Array.getElem?_eq_some_iff
abbrev aAf:=@Nat.add_comm
abbrev aAg:=@Array.mem_of_getElem?
abbrev aAh:=@List.getElem_set
abbrev aAi:=@List.map_map
abbrev aAk:=@List.perm_append_comm
abbrev aAl:=@List.getElem_take
abbrev aAm:=@List.drop_succ_cons
abbrev aAn:=@Option.map_some
abbrev aAo:=@Nat.mul_sub_right_distrib
abbrev aAp:=@Bool.or_false
abbrev aAq:=@List.sum_append
abbrev aAr:=@Bool.false_and
abbrev aAs:=@List.getLast?_eq_none_iff
abbrev aAt:=@Bool.or_eq_false_iff
abbrev aAu:=@List.getElem?_replicate
abbrev aAv:=@List.mem_or_eq_of_mem_set
abbrev aAw:=@List.map_set
abbrev aAx:=@List.map_take
abbrev aAy:=@List.foldl_append
abbrev aAz:=@List.drop_left'
abbrev aAA:=@List.nodup_cons
abbrev aAB:=@Nat.eq_of_beq_eq_true
abbrev aAC:=@Array.empty_append
abbrev aAD:=@Array.append_empty
abbrev aAE:=@Nat.sub_zero
abbrev aAF:=@List.all_cons
abbrev aAG:=@List.getElem_cons_zero
abbrev aAH:=@List.takeWhile_cons
abbrev aAI:=@List.getElem_cons_succ
abbrev aAJ:=@List.take_append
abbrev aAK:=@Bool.eq_iff_iff
abbrev aAL:=@Bool.and_false
abbrev aAM:=@Bool.not_not
abbrev aAN:=@List.flatten_cons
abbrev aAO:=@List.count_singleton
abbrev aAP:=@List.replicate_succ
abbrev aAQ:=@Nat.mul_le_mul_left
abbrev aAR:=@Nat.two_pow_pos
abbrev aAS:=@Bool.false_or
abbrev aAT:=@List.take_sublist
abbrev aAU:=@List.take_append_of_le_length
abbrev aAV:=@Bool.and_true
abbrev aAW:=@Bool.and_eq_false_iff
abbrev aAX:=@Int.tdiv_eq_ediv_of_nonneg
abbrev aAY:=@Nat.two_pow_add_eq_or_of_lt
abbrev aAZ:=@List.length_filter_le
abbrev aA0:=@List.length_range
abbrev aA1:=@List.filter_append
abbrev aA2:=@List.ext_getElem
abbrev aA3:=@List.dropLast_concat_getLast
abbrev aA4:=@List.getLast?_append
abbrev aA5:=@List.map_singleton
abbrev aA6:=@List.mem_append_left
abbrev aA7:=@List.mem_append_right
abbrev aA8:=@List.mem_singleton_self
abbrev aA9:=@List.length_eq_one_iff
abbrev aBd:=@Array.setIfInBounds_comm
abbrev aBe:=@Array.getD_eq_getD_getElem?
abbrev aBf:=@Array.ext_getElem?
abbrev aBg:=@Array.toArray_toList
abbrev aBh:=@List.getElem?_toArray
abbrev aBi:=@Array.getElem?_setIfInBounds_self_of_lt
abbrev aBj:=@Option.isNone_none
abbrev aBk:=@Option.isNone_some
abbrev aBl:=@List.idxOf_lt_length_iff
abbrev aBm:=@List.find?_eq_none
abbrev aBn:=@Int.tmod_eq_emod_of_nonneg
abbrev aBo:=@List.getElem_append_right
abbrev aBp:=@Int.emod_lt_of_pos
abbrev aBq:=@List.perm_cons_erase
abbrev aBr:=@List.count_replicate
abbrev aBs:=@List.length_dropLast
abbrev aBt:=@List.Perm.append_left
abbrev aBv:=@List.filterMap_cons
abbrev aBw:=@List.perm_append_singleton
abbrev aBx:=@List.concat_eq_append
abbrev aBy:=@List.set_eq_take_append_cons_drop
end Go.Proofs
namespace Go.Proofs
theorem om{p:Prop}(h:p:=by omega):p:=h
theorem dc{p:Prop}(h:p:=by decide):p:=h
theorem sm{p:Prop}(h:p:=by simp):p:=h
theorem krx{p:Prop}(h:p:=by kernel_rfl):p:=h
end Go.Proofs
namespace Go.Proofs.YtlgndjkieegnaaaGreatDoor
abbrev ae(s:List UInt8):Go.Value:=.string ⟨s.toArray⟩
abbrev af(b o:Nat):Go.Value:=.pointer (.some ⟨b,o,.none⟩)
abbrev bO(b o n c:Nat):Go.Value:=.slice (.some ⟨b,o,.none⟩) n c
abbrev ad(n:Int):Go.Value:=.int .i64 n
abbrev PKT:=List PanicEntry->ao->Prop
abbrev VWP:=aq->ao->Prop
variable{B l:List Nat}{C:ao->Prop}{D T1 U:TypeId}{H α β:Type}{K:VWP}{L0:Loop}{P:Program}{PK:PKT}{Q Q':Exit->Act->ao->Prop}{R:Ending->FrameMode->ao->Prop}{S:Nat->Prop}{a hi lo:Int}{aj:List (Nat×List Nat)}{args ca fa:Array aq}{b cap d f i id j sz:Nat}{c v v1:aq}{cb:Array Bool}{cs:List aq}{ds:List Deferred}{fn:Func}{k':IntKind}{ms:Array (String×TypeId)}{ops:Array Oper}{ro:Option Nat}{u:FrameMode}{w w' w0:ao}{want:Bool}{xo yo:Operand}
section
namespace Eng
section
variable {P:Program}{ops:Array Oper}{md:Region.Mode}{C:ao->Prop}
def YO (md:Region.Mode)(ops:Array Oper)(n:Nat)(ms:List Nat):Bool:=
 (List.range n).all λi=>ms.contains i||(List.range (n+1)).any λj=>ai (i < j)&&Region.waitsFor md ops j i
structure OP (md:Region.Mode) (ops:Array Oper) (n:Nat) (ms:List Nat) (listed:Array Bool):Prop where
 head:HeadInv md ops n listed
 moves:∀m∈ms,listed.getD m au=aw
theorem OP.set {n i:Nat}{ms:List Nat}{listed:Array Bool}(inv:OP md ops n ms listed)(hi:i∈Region.ready md ops listed)(a:i < n):OP md ops n ms (listed.setIfInBounds i aw):=
 ⟨inv.head.set hi a,λm hm=>getD_set_true (inv.moves m hm)⟩
theorem JK {n:Nat}{ms:List Nat}{listed:Array Bool}(A:YO md ops n ms=aw)(B:Region.chainB md ops n=aw)(E:n < ops.size)(inv:OP md ops n ms listed) :
  ∀(d i:Nat),n - i=d->i < n->listed.getD i aw=au->∀t,n<=t->t ∉ Region.ready md ops listed:=by
 intro d
 induction d using Nat.strongRecOn with
|_ d C=>
  intro i F hi f t G v;obtain⟨_,w,g,b⟩:=mem_ready.1 v;have k:t < ops.size:=(aAe.1 g).1;by_cases q:t=n
  ·subst q;have o:=axJ.1 A i (awH.2 hi);simp only[axS] at o;rcases o with o|h
   ·have:=inv.moves i (by simpa using o);rw[getD_both f] at this;cases this
   obtain⟨j,D,l⟩:=ayF.1 h;simp only[auY,avK] at l;obtain⟨x,m,e,he,p,a⟩:=Region.waitsFor_spec l.2;have y:j<=t:=by have:=awH.1 D;omega
   by_cases r:j=t
   ·subst r;have:x=w:=axN (m.symm.trans g);subst this;have c:=b e he p;rw[a,getD_both f] at c;cases c
   ·cases z:listed.getD j au with
   |true=>
     have c:=inv.head.closed j x m z e he p;rw[a,getD_both f] at c;cases c
   |false=>
     have s:j < listed.size:=by rw[inv.head.size];omega
     exact C (t - j) om j rfl om (getD_in s z) t (auL _) v
  ·have h:=axJ.1 B t (awH.2 k);simp only[axS,avK] at h;rcases h with h|h
   ·omega
   ·obtain⟨o',u,e,he,p,a⟩:=Region.waitsFor_spec h;have:o'=w:=axN (u.symm.trans g);subst this;have c:=b e he p;rw[a,getD_both (inv.head.tail (t - 1) om om)] at c;cases c
theorem ZU {Q Q':Exit->Act->ao->Prop}(d:∀e a w,Q e a w->Q' e a w):∀(f:Nat) (listed:Array Bool) (a:Act) (w:ao),wpAny P md ops Q f listed a w->wpAny P md ops Q' f listed a w
|0,_,_,_,h=>⟨h.1,d _ _ _ h.2⟩
|f+1,listed,a,w,h=>by
  refine⟨λk=>d _ _ _ (h.1 k),λi hi=>?_⟩;have b:=wpOp_mono (λa' w' l=>ZU d f _ a' w' l) (h.2 i hi);unfold wpOp at b ⊢;split
  ·simpa[*] using b
  ·rename_i o m
   simp only[m] at b;split
   ·rename_i hw
    simp only[hw,if_true] at b;rcases b with b|⟨b,a',w',g⟩
    ·left;unfold Oper.wp at *;generalize (execOp a.eval o).run P w=r at *;cases r with
    |ok x w'=>
      cases x<;>simp only[Oper.upon] at b ⊢<;>first|exact b|skip
      exact b.mono λe n j=>by
       cases e with
      |returned u=>exact j
      |panicked c=>exact d _ _ _ j
      |outgrown=>obtain⟨a',w',g⟩:=j;exact⟨a',w',d _ _ _ g⟩
    |halt x w'=>cases x<;>simp only[Oper.upon] at b ⊢<;>first|exact b|exact d _ _ _ b
    ·exact .inr ⟨b,a',w',d _ _ _ g⟩
   ·rename_i hw;simp only[hw] at b;exact b
def B1 (P:Program)(md:Region.Mode)(ops:Array Oper)(C:ao->Prop)(n:Nat)(L:Array Bool->Act->Prop):Nat->Array Bool->Act->Prop
|0,listed,a=>L listed a
|f+1,listed,a=>
  Region.ready md ops listed≠[]∧∀i∈Region.ready md ops listed,i < n∧qOp P ops C i (B1 P md ops C n L f (listed.setIfInBounds i aw)) a
theorem nR {n g:Nat}{L:Array Bool->Act->Prop}{Q':Exit->Act->ao->Prop}(hL:∀listed a w,C w->L listed a->wpAny P md ops Q' g listed a w) :
  ∀(f:Nat) (listed:Array Bool) (a:Act) (w:ao),C w->B1 P md ops C n L f listed a->wpAny P md ops Q' (f+g) listed a w
|0,listed,a,w,hC,h=>by rw[auP];exact hL _ _ _ hC h
|f+1,listed,a,w,hC,h=>by
  rw[show f+1+g=(f+g)+1 by omega];exact⟨λc=>absurd c h.1,λi hi=>wpOp_of_qOp hC (λa' w' b d=>nR hL f _ a' w' b d) (h.2 i hi).2⟩
theorem Lr {n:Nat}{ms:List Nat}{x:Oper}{L:Array Bool->Act->Prop}(hi:ops[i]?=ay x)(p:∀(j:Nat) (o:Oper) cs b,ops[j]?=ay o->o.op≠.select cs b)
  (I:YO md ops n ms=aw) (J:Region.chainB md ops n=aw) (K:n < ops.size) (y:i < n)
  (s:∀listed a,L listed a->∀j∈Region.ready md ops listed,n<=j) :
  ∀(f:Nat) (listed:Array Bool) (a:Act),OP md ops n ms listed ->
   (∀j t,ops[j]?=ay t->j≠i->listed.getD j aw=au->(∀e∈t.after,Region.binds md e=aw->e.on≠i)->x.apart ops t=aw) ->
   i∈Region.ready md ops listed->YieldsIn P ops C x v a ->
   B1 P md ops C n L f (listed.setIfInBounds i aw) (a.put x.dst v)->B1 P md ops C n L (f+1) listed a:=by
 intro f
 induction f with
|zero=>
  intro listed a inv _ q D H;have d:=(mem_ready.1 q).1;refine⟨λh=>(by rw[h] at q;cases q),λj u=>?_⟩;have l:j < n:=by
   rcases avI j n with h|h
   ·exact h
   ·exact absurd u (JK I J K inv _ i rfl y d j h)
  refine⟨l,?_⟩;by_cases c:j=i
  ·subst c;exact D.qOp hi H
  ·have:=s _ _ H j (ready_mono u c);omega
|succ f N=>
  intro listed a inv g q D H;have d:=(mem_ready.1 q).1;refine⟨λh=>(by rw[h] at q;cases q),λj u=>?_⟩;have l:j < n:=by
   rcases avI j n with h|h
   ·exact h
   ·exact absurd u (JK I J K inv _ i rfl y d j h)
  refine⟨l,?_⟩;by_cases c:j=i
  ·subst c;exact D.qOp hi H
  ·have E:=(H.2 j (ready_mono u c)).2;obtain⟨r,t,w,z⟩:=mem_ready.1 u;have A:∀e∈t.after,Region.binds md e=aw->e.on≠i:=λe he O heq=>by
    have E:=z e he O;rw[heq,getD_both d] at E;cases E
   have Q:=qOp_put w (g j t w c r A) (λcs b=>p i x cs b hi) (λcs b=>p j t cs b w) D E;have m:∀k ok,ops[k]?=ay ok->k≠i->(listed.setIfInBounds j aw).getD k aw=au ->
     (∀e∈ok.after,Region.binds md e=aw->e.on≠i)->x.apart ops ok=true:=λk ok R F d G=>by
    refine g k ok R F ?_ G;by_cases B:j=k
    ·subst B;exact r
    ·rw[getD_set_ne aw B] at d;exact d
   refine qOp_mono (λa' M=>N (listed.setIfInBounds j aw) a' (inv.set u l) m (ready_mono q (Ne.symm c)) M.1 ?_) Q;rw[aBd _ _ c];exact M.2
def Gj (md:Region.Mode)(ops:Array Oper)(g n:Nat):List (Nat×Oper)->Array Bool->Bool
|[],listed=>Region.seqB md ops g n listed
|(k,_)::r,listed=>(Region.ready md ops listed).contains k&&Region.free md ops listed k&&ai (k < n)&&Gj md ops g n r (listed.setIfInBounds k aw)
def snds:List (Nat×Oper)->List Oper
|[]=>[]
|p::l=>p.2::snds l
def fsts:List (Nat×Oper)->List Nat
|[]=>[]
|p::l=>p.1::fsts l
theorem Bu {n g:Nat}{ms:List Nat}{j:Act->Prop}(c:Region.noSelect ops=aw)(r:YO md ops n ms=aw)(s:Region.chainB md ops n=aw)(t:n < ops.size) :
  ∀(l:List (Nat×Oper)) (listed:Array Bool) (a:Act),(∀p∈l,ops[p.1]?=ay p.2)->OP md ops n ms listed ->
  Gj md ops g n l listed=aw->wpQuiet P ops C j (snds l) a ->
  B1 P md ops C n (λb a'=>Region.seqB md ops g n b=aw∧j a') l.length listed a
|[],listed,a,_,inv,f,h=>⟨f,h⟩
|(k,o)::l,listed,a,u,inv,f,h=>by
  have i:ops[k]?=ay o:=u (k,o) sm;simp only[Gj,auY,avK] at f;obtain⟨⟨⟨w,x⟩,d⟩,m⟩:=f;have e:k∈Region.ready md ops listed:=by simpa using w
  have q:qOp P ops C k (wpQuiet P ops C j (snds l)) a:=by unfold qOp;simp only[i];exact h
  obtain⟨v,y,z⟩:=yieldsIn_of_qOp i q;exact Lr i (Region.noSelect_spec c) r s t d (λb a' hL=>seqB_ready hL.1) l.length listed a inv (Region.free_spec i x) e y
   (Bu c r s t l _ _ (λp hp=>u p (by simp[hp])) (inv.set e d) m z)
def isMv (o:Oper):Bool:=
 match o.op with
|.move _|.assign _=>match o.guard with
 |none=>aw
 |some _=>au
|_=>au
def Ui (md:Region.Mode)(ops:Array Oper)(n:Nat):List (Nat×Oper)->Array Bool->Option (Array Bool)
|[],listed=>ay listed
|(k,o)::r,listed=>if (Region.ready md ops listed).contains k&&Region.free md ops listed k&&ai (k < n)&&isMv o then Ui md ops n r (listed.setIfInBounds k aw) else ax
def RC (o:Oper)(a:Act):Value:=
 match o.op with
|.move x|.assign x=>a.eval x
|_=>undef
def mC:List (Nat×Oper)->Act->Act
|[],a=>a
|(_,o)::r,a=>mC r (a.put o.dst (RC o a))
theorem Xc {o:Oper}(h:isMv o=aw)(a:Act):Yields P ops o (RC o a) a:=by
 unfold isMv at h;left;split at h
 ·rename_i x b
  split at h
  ·rename_i c
   refine⟨by simp[Region.wanted,c],λw=>?_⟩;rw[show execOp a.eval o=pure (.value (a.eval x)) by unfold execOp;rw[b]];simp only[RC,b];rfl
  ·cases h
 ·rename_i x b
  split at h
  ·rename_i c
   refine⟨by simp[Region.wanted,c],λw=>?_⟩;rw[show execOp a.eval o=pure (.value (a.eval x)) by unfold execOp;rw[b]];simp only[RC,b];rfl
  ·cases h
 ·cases h
theorem K9 {n:Nat}{Q:Exit->Act->ao->Prop}{fuel:Nat}(d:Region.noSelect ops=aw)(f:List Nat):∀(ms:List (Nat×Oper)) (listed b:Array Bool) (a:Act) (w:ao),(∀p∈ms,ops[p.1]?=ay p.2)->Ui md ops n ms listed=ay b ->
  (∀p∈ms,∀v c a w,Q (.panic c) (a.put p.2.dst v) w->Q (.panic c) a w) ->
  OP md ops n f listed->(OP md ops n (fsts ms++f) b->wpAny P md ops Q fuel b (mC ms a) w)->wpAny P md ops Q (ms.length+fuel) listed a w
|[],listed,b,a,w,_,g,_,inv,h=>by
  cases g;rw[ayA,auP];exact h inv
|(k,o)::ms,listed,b,a,w,r,g,s,inv,h=>by
  have t:ops[k]?=ay o:=r (k,o) sm;unfold Ui at g;split at g
  ·rename_i u
   simp only[auY,avK] at u;obtain⟨⟨⟨x,y⟩,i⟩,j⟩:=u;have l:k∈Region.ready md ops listed:=by simpa using x
   have q:k < listed.size:=by rw[inv.head.size];exact (aAe.1 t).1
   rw[auX,show ms.length+1+fuel=ms.length+fuel+1 by omega];refine wpAny_take t d y x (s (k,o) sm _) (Xc j a) ?_;refine K9 d (k::f) ms _ b _ w (λp hp=>r p (by simp[hp])) g (λp hp=>s p (by simp[hp])) ⟨inv.head.set l i,λm hm=>?_⟩ (λe=>h ⟨e.head,λm hm=>e.moves m ?_⟩)
   ·rcases auI.1 hm with rfl|hm
    ·simp[q]
    ·exact getD_set_true (inv.moves m hm)
   ·simp only[fsts,axW,auI,avF] at hm ⊢;rcases hm with h|h|h
    ·exact .inr (.inl h)
    ·exact .inl h
    ·exact .inr (.inr h)
  ·cases g
def O7 (ops:Array Oper)(n:Nat)(ms a:List (Nat×Oper)):Bool:=
 Region.noSelect ops&&ai (n < ops.size)&&YO .any ops n (fsts ms++[])&&Region.chainB .any ops n&&ai (ms.length+a.length=n) &&
  (match Ui .any ops n ms (Array.replicate ops.size au) with
 |some listed=>Gj .any ops (ops.size - n) n a listed
 |none=>au)
theorem LN {a:Act}{l:List Oper}(n:Nat)(ms i:List (Nat×Oper))(A:O7 l.toArray n ms i=aw)(hC:C { w with drawn:=w.drawn+1 })
  (r:∀p∈ms,l.toArray[p.1]?=ay p.2) (s:∀p∈i,l.toArray[p.1]?=ay p.2) (u:∀e a w,Q' e a w->Q e a w)
  (E:∀p∈ms,∀v c a w,Q' (.panic c) (a.put p.2.dst v) w->Q' (.panic c) a w)
  (h:wpQuiet P l.toArray C (λa'=>∀w',C w'->wpList P l.toArray Q' (l.drop n) a' w') (snds i) (mC ms a)):wpAny P .any l.toArray Q l.toArray.size (Array.replicate l.toArray.size au) a { w with drawn:=w.drawn+1 }:=by
 simp only[O7,auY,avK] at A;obtain⟨⟨⟨⟨⟨f,B⟩,x⟩,F⟩,hlen⟩,d⟩:=A;split at d
 ·rename_i b y
  have k:OP .any l.toArray n [] (Array.replicate l.toArray.size au):=
   ⟨⟨sm,λj K _ D=>(by rw[getD_replicate_false] at D;cases D),λt _ G=>getD_in (by simpa using G) (getD_replicate_false _ _)⟩,λm hm=>by cases hm⟩
  have I:n < l.length:=by simpa using B
  have o:(l.drop n).length=l.toArray.size - n:=sm
  refine ZU u _ _ _ _ ?_;have e:l.toArray.size=ms.length+(i.length+(l.toArray.size - n)):=om
  rw[e];rw[<-e];have H:=K9 (P:=P) (md:=.any) (fuel:=i.length+(l.toArray.size - n)) f [] ms (Array.replicate l.toArray.size au) b a { w with drawn:=w.drawn+1 } r y E k (λq=>by
   have J:=Bu (P:=P) (md:=.any) (g:=l.toArray.size - n) f x F B i b (mC ms a) s q d h;exact nR (Q':=Q') (g:=l.toArray.size - n) (λlisted a' w' z hL=>by
    have:=wpAny_of_seq (md:=.any) (Q':=Q') (l.drop n) n listed a' w' (λj=>by simp[ayB]) (by rw[o];exact hL.1) (hL.2 w' z)
    rwa [o] at this) _ _ _ _ hC J)
  rw[<-e] at H;exact H
 ·cases d
def Kb (P:Program)(ops:Array Oper)(L:Act->Prop):List (Nat×Oper)->Act->Prop
|[],a=>L a
|p::r,a=>∃v,Yields P ops p.2 v a∧Kb P ops L r (a.put p.2.dst v)
def TN (md:Region.Mode)(ops:Array Oper)(n:Nat):List (Nat×Oper)->Array Bool->Option (Array Bool)
|[],listed=>ay listed
|(k,_)::r,listed=>if (Region.ready md ops listed).contains k&&Region.free md ops listed k&&ai (k < n) then TN md ops n r (listed.setIfInBounds k aw) else ax
theorem HO {n:Nat}{Q:Exit->Act->ao->Prop}{fuel:Nat}{L:Act->Prop}(d:Region.noSelect ops=aw)(f:List Nat):∀(ms:List (Nat×Oper)) (listed b:Array Bool) (a:Act) (w:ao),(∀p∈ms,ops[p.1]?=ay p.2)->TN md ops n ms listed=ay b ->
  (∀p∈ms,∀v c a w,Q (.panic c) (a.put p.2.dst v) w->Q (.panic c) a w) ->
  OP md ops n f listed->(OP md ops n (fsts ms++f) b->∀a',L a'->wpAny P md ops Q fuel b a' w)->Kb P ops L ms a->wpAny P md ops Q (ms.length+fuel) listed a w
|[],listed,b,a,w,_,g,_,inv,h,hL=>by
  cases g;rw[ayA,auP];exact h inv a hL
|(k,o)::ms,listed,b,a,w,q,g,r,inv,h,hL=>by
  have s:ops[k]?=ay o:=q (k,o) sm;obtain⟨v,x,hL⟩:=hL;unfold TN at g;split at g
  ·rename_i t
   simp only[auY,avK] at t;obtain⟨⟨u,y⟩,i⟩:=t;have j:k∈Region.ready md ops listed:=by simpa using u
   have l:k < listed.size:=by rw[inv.head.size];exact (aAe.1 s).1
   rw[auX,show ms.length+1+fuel=ms.length+fuel+1 by omega];refine wpAny_take s d y u (r (k,o) sm _) x ?_;refine HO d (k::f) ms _ b _ w (λp hp=>q p (by simp[hp])) g (λp hp=>r p (by simp[hp])) ⟨inv.head.set j i,λm hm=>?_⟩ (λe=>h ⟨e.head,λm hm=>e.moves m ?_⟩) hL
   ·rcases auI.1 hm with rfl|hm
    ·simp[l]
    ·exact getD_set_true (inv.moves m hm)
   ·simp only[fsts,axW,auI,avF] at hm ⊢;rcases hm with h|h|h
    ·exact .inr (.inl h)
    ·exact .inl h
    ·exact .inr (.inr h)
  ·cases g
def R7 (ops:Array Oper)(n:Nat)(ms a:List (Nat×Oper)):Bool:=
 Region.noSelect ops&&ai (n < ops.size)&&YO .any ops n (fsts ms++[])&&Region.chainB .any ops n&&ai (ms.length+a.length=n) &&
  (match TN .any ops n ms (Array.replicate ops.size au) with
 |some listed=>Gj .any ops (ops.size - n) n a listed
 |none=>au)
def noG:List (Nat×Oper)->Bool
|[]=>aw
|p::r=>p.2.guard.isNone&&noG r
def To (ops:Array Oper)(n:Nat)(ms a:List (Nat×Oper)):Bool:=noG ms&&R7 ops n ms a
theorem LH {a:Act}{l:List Oper}(n:Nat)(ms i:List (Nat×Oper))(r:To l.toArray n ms i=aw)(hC:C { w with drawn:=w.drawn+1 })
  (s:∀p∈ms,l.toArray[p.1]?=ay p.2) (u:∀p∈i,l.toArray[p.1]?=ay p.2) (x:∀e a w,Q' e a w->Q e a w)
  (D:∀p∈ms,∀v c a w,Q' (.panic c) (a.put p.2.dst v) w->Q' (.panic c) a w)
  (h:Kb P l.toArray (λa=>wpQuiet P l.toArray C (λa'=>∀w',C w'->wpList P l.toArray Q' (l.drop n) a' w') (snds i) a) ms a):wpAny P .any l.toArray Q l.toArray.size (Array.replicate l.toArray.size au) a { w with drawn:=w.drawn+1 }:=by
 replace r:=(auY _ _▸(show (noG ms&&R7 l.toArray n ms i)=aw from r):_∧_).2
 simp only[R7,auY,avK] at r;obtain⟨⟨⟨⟨⟨f,E⟩,y⟩,F⟩,hlen⟩,d⟩:=r;split at d
 ·rename_i b z
  have k:OP .any l.toArray n [] (Array.replicate l.toArray.size au):=
   ⟨⟨sm,λj K _ B=>(by rw[getD_replicate_false] at B;cases B),λt _ G=>getD_in (by simpa using G) (getD_replicate_false _ _)⟩,λm hm=>by cases hm⟩
  have o:(l.drop n).length=l.toArray.size - n:=sm
  refine ZU x _ _ _ _ ?_;have e:l.toArray.size=ms.length+(i.length+(l.toArray.size - n)):=om
  rw[e];rw[<-e];have H:=HO (P:=P) (md:=.any) (fuel:=i.length+(l.toArray.size - n)) f [] ms (Array.replicate l.toArray.size au) b a { w with drawn:=w.drawn+1 } s z D k (λq a' I=>by
   have J:=Bu (P:=P) (md:=.any) (g:=l.toArray.size - n) f y F E i b a' u q d I;exact nR (Q':=Q') (g:=l.toArray.size - n) (λlisted a' w' A hL=>by
    have:=wpAny_of_seq (md:=.any) (Q':=Q') (l.drop n) n listed a' w' (λj=>by simp[ayB]) (by rw[o];exact hL.1) (hL.2 w' A)
    rwa [o] at this) _ _ _ _ hC J) h
  rw[<-e] at H;exact H
 ·cases d
end
end Eng
end
section
namespace Eng
open Go.RowKit
abbrev Sg:=Nat->aq
abbrev bc {α:Sort _}(b:Bool)(x y:α):α:=match b with|true=>x|false=>y
theorem aG {α:Sort _}{x y:α}:bc aw x y=x:=rfl
theorem aF {α:Sort _}{x y:α}:bc au x y=y:=rfl
def upd (σ:Sg)(d:Nat)(v:aq):Sg:=λi=>bc (Nat.beq i d) v (σ i)
def put (σ:Sg):Option Nat->aq->Sg
|some d,v=>upd σ d v
|none,_=>σ
def rd (σ:Sg):Operand->aq
|.tmp t=>σ t
|.const v=>v
|.global g=>af g 0
|.func f=>.func (.func f) #[] #[]
def inB (n:Nat):Option Nat->Bool
|some d=>Nat.blt d n
|none=>aw
structure Rep (n:Nat) (σ:Sg) (t:Array aq):Prop where
 size:t.size=n
 get:∀i,t.getD i undef=σ i
theorem Rep.put {n:Nat}{σ:Sg}{a:Act}(h:Rep n σ a.tmps){d:Option Nat}(e:inB n d=aw)(v:aq):Rep n (put σ d v) (a.put d v).tmps:=by
 cases d with
|none=>exact h
|some d=>
  have b:d < a.tmps.size:=by rw[h.size];simpa[inB,Nat.blt_eq] using e
  refine⟨by simpa[Act.put] using h.size,λi=>?_⟩;have:=h.get i;simp only[Act.put,Eng.put,upd];by_cases hi:i=d
  ·subst hi;simp[b]
  ·have c:Nat.beq i d=false:=by
    cases c:Nat.beq i d
    ·rfl
    ·exact absurd (aAB c) hi
   rw[c,aF,<-this];simp[aBe,Ne.symm hi]
theorem Rep.eval {n:Nat}{σ:Sg}{a:Act}(h:Rep n σ a.tmps):a.eval=rd σ:=by
 funext x
 cases x with
|tmp t=>exact h.get t
|_=>rfl
def He (K:VWP)(PK:PKT):Ending->ao->Prop
|.returned v,w=>K v w
|.panicked c,w=>PK c w
|.outgrown,_=>False
abbrev Fr (ro:Option Nat):Fence:={ Fence.wide with round:=ro }
theorem Ni {n:Nat}{f:FuncId}{R:Ending->ao->Prop}:CallsIn (Fr ro) n P f args w R↔Calls P f args w R:=
 callsIn_wide (n:=n)
structure RdX (P:Program) (l:Nat) (f:FuncId) (tmps:Array aq) (assign body:Code) (w:ao) (R:Ending->ao->Prop):Prop where
 mk ::
 out:RoundIn Fence.wide 0 P l f tmps assign body w R
structure cR (P:Program) (f:Nat) (args:Array aq) (w:ao) (PK:PKT) (K:VWP):Prop where
 mk ::
 out:Calls P f args w (He K PK)
def Nw (P:Program)(r:Result Next)(K:VWP)(PK:PKT):Prop:=
 match r with
|.ok (.value v) w=>K v w
|.ok .skip w=>K undef w
|.ok (.enter f args) w=>cR P f args w PK K
|.ok (.round l f tmps assign body) w=>RdX P l f tmps assign body w (He K PK)
|.halt (.panic v) w=>PK [{ v,recovered:=au }] w
|_=>False
structure DoX (P:Program) (m:Sem Next) (w:ao) (PK:PKT) (K:VWP):Prop where
 mk ::
 out:Nw P (m.run P w) K PK
def cW (P:Program)(f:Nat):Bool:=
 match P.funcs[f]? with
|some fn=>!(fn.name=="runtime.NumGoroutine")&&fn.body.isSome
|none=>au
theorem jT (h:cW P f=aw)(args:Array aq)(w:ao):(callFunc f args).run P w=.ok (.enter f args) w:=by
 unfold cW at h;cases hf:P.funcs[f]? with
|none=>rw[hf] at h;cases h
|some fn=>
  rw[hf] at h;simp only[auY,azJ] at h;obtain⟨h1,h2⟩:=h;have h3:fn.body.isNone=false:=by cases hb:fn.body<;>simp_all
  have h1':fn.name≠"runtime.NumGoroutine":=by simpa using h1
  have h3':fn.body≠none:=by intro hc;rw[hc] at h3;cases h3
  simp[callFunc,hf,h1',h3',program,Sem.run,bind,Sem.bind,pure]
def FP {α β:Type}(f:α->β)(a:Array α):Array β:=(a.toList.map f).toArray
theorem Bh (f:α->β)(a:Array α):FP f a=a.map f:=by
 apply Array.ext';simp[FP]
def mv (s:Sem aq):Sem Next:=do pure (.value (<-s))
def mu (s:Sem Unit):Sem Next:=do s;pure .skip
def fK (T:TypeId):=mv (Instr.alloc T aw (.tuple #[]))
def GP (T:TypeId)(x:aq):=mv (Instr.box T x)
def aV (T:TypeId)(ps:Array (Nat×aq)):=mv (Instr.build T ps)
def aM (T:TypeId)(n:Nat)(ps:Array (Nat×aq)):=mv (Instr.buildSlice T n ps)
def aH (T:TypeId)(a:aq):=mv (Instr.loadAt T a)
def aN (T:TypeId)(a x:aq):=mu (Instr.storeAt T a x)
def aoF (g:Nat):=mu (Instr.ready g)
def apL (g:Nat):=mv (Instr.waits g)
def JL (x:aq):Sem Next:=execOp (λ_=>x) { dst:=ax,op:=.nilCheck (.tmp 0),type:=0,pos:="",after:=#[],guard:=ax }
def iB (c a b:aq):Sem Next:=do pure (.value (if <-asBool c then a else b))
def iQ (op:BinOp)(T:TypeId)(x y:aq):=mv (binOp op T x y)
def mEq (op:BinOp)(T:TypeId)(xo yo:Operand)(x y:aq):=mv (do eqGuard op T xo yo x y;binOp op T x y)
def mUn (op:UnOp)(x:aq):=mv (Op.unary op x)
def tG (S D:TypeId)(x:aq):=mv (convert S D x)
def mSAP (D:TypeId)(x:aq):=mv (Instr.arrayAt D x)
def acZ (T:TypeId)(x:aq):=mv (Instr.makeInterface T x)
def QQ (fn:Fn)(first cap:Array aq):=mv (Instr.makeFunc fn first cap)
def mMap (T:TypeId)(r:Option aq):=mv (Instr.makeMap T r)
def Ld (T:TypeId)(l c:aq):=mv (Instr.makeSlice T l c)
def fJ (T:TypeId)(x:aq)(lo hi a:Option aq):=mv (Instr.sliceAt T x lo hi a)
def mFA (T:TypeId)(x:aq)(f:Nat):=mv (Instr.fieldAt T x f)
def mFld (T:TypeId)(x:aq)(f:Nat):=mv (Instr.field T x f)
def mIA (T:TypeId)(x i:aq):=mv (Instr.indexAt T x i)
def mIx (T:TypeId)(x i:aq):=mv (Instr.index T x i)
def XY (T:TypeId)(x i:aq)(ok:Bool):=mv (Instr.lookup T x i ok)
def Xa (T:TypeId)(m k v:aq):=mu (Instr.mapUpdate T m k v)
def aqP (T:TypeId)(m k:aq):=mv (Instr.mapEntry T m k)
def aqZ (T:TypeId)(m s v:aq):=mu (Instr.entryStore T m s v)
def anJ (T:TypeId)(x:aq):=mv (Instr.range T x)
def arK (it:aq)(str:Bool)(ty:TypeId):=mv (Instr.next it str ty)
def alG (it:aq):=mv (Instr.entry it)
def mTA (x:aq)(a T:TypeId)(ok:Bool):=mv (Instr.typeAssert x a T ok)
def Ag (t:aq)(i:Nat):=mv (Instr.extract t i)
def H6 (x:aq):=mv (Instr.panic x)
def mB (b:Builtin)(a:Array TypeId)(ty:TypeId)(cs:Array Bool)(vs:Array aq):Sem Next:=builtin b a ty cs vs
def iO (f:aq)(args:Array aq):Sem Next:=do let d <-Deferred.ofValue f args;invoke d.target d.args
def mInv (name:String)(r:aq)(args:Array aq):Sem Next:=invoke (.fn (.method name) #[]) (#[r]++args)
def isEq:BinOp->Bool
|.eql|.neq=>aw
|_=>au
def isLit:Operand->Bool
|.const _=>aw
|_=>au
def CQ (ρ:Operand->aq)(o:Oper):Sem Next:=
 match o.op with
|.alloc T=>fK T
|.box T x=>GP T (ρ x)
|.build T ps=>aV T (FP (λp=>(p.1,ρ p.2)) ps)
|.buildSlice T n ps=>aM T n (FP (λp=>(p.1,ρ p.2)) ps)
|.load T a=>aH T (ρ a)
|.store T a x=>aN T (ρ a) (ρ x)
|.ready g=>aoF g
|.waits g=>apL g
|.nilCheck x=>JL (ρ x)
|.pick c a b=>iB (ρ c) (ρ a) (ρ b)
|.binOp op T x y _=>bc (isEq op) (mEq op T x y (ρ x) (ρ y)) (iQ op T (ρ x) (ρ y))
|.unOp op _ x=>mUn op (ρ x)
|.convert S D x=>tG S D (ρ x)
|.sliceToArrayPointer D x=>mSAP D (ρ x)
|.makeInterface T x=>acZ T (ρ x)
|.makeFunc fn first cap=>QQ fn (FP ρ first) (FP ρ cap)
|.makeMap T r=>mMap T (r.map ρ)
|.makeSlice T l c=>Ld T (ρ l) (ρ c)
|.slice T x lo hi d=>fJ T (ρ x) (lo.map ρ) (hi.map ρ) (d.map ρ)
|.fieldAddr T x f=>mFA T (ρ x) f
|.field T x f=>mFld T (ρ x) f
|.indexAddr T x i=>mIA T (ρ x) (ρ i)
|.index T x i=>mIx T (ρ x) (ρ i)
|.lookup T x i ok=>XY T (ρ x) (ρ i) ok
|.mapUpdate T m k v=>Xa T (ρ m) (ρ k) (ρ v)
|.insert T m k v=>Xa T (ρ m) (ρ k) (ρ v)
|.mapEntry T m k=>aqP T (ρ m) (ρ k)
|.entryStore T m s v=>aqZ T (ρ m) (ρ s) (ρ v)
|.range T x=>anJ T (ρ x)
|.next it str=>arK (ρ it) str o.type
|.entry it=>alG (ρ it)
|.typeAssert x e T ok=>mTA (ρ x) e T ok
|.extract t i=>Ag (ρ t) i
|.panic x=>H6 (ρ x)
|.call { callee:=.builtin b,args,argTypes }=>mB b argTypes o.type (FP isLit args) (FP ρ args)
|.call { callee:=.value f,args,.. }=>iO (ρ f) (FP ρ args)
|.call { callee:=.invoke r name,args,.. }=>mInv name (ρ r) (FP ρ args)
|_=>execOp ρ o
theorem lP (ρ:Operand->aq)(o:Oper):CQ ρ o=execOp ρ o:=by
 obtain⟨dst,op,ty,pos,after,guard⟩:=o;unfold CQ;simp only[Bh];cases op with
|binOp op T x y T'=>cases op<;>rfl
|call c=>
  obtain⟨callee,args,a⟩:=c;cases callee with
 |value f=>rfl
 |invoke r n=>rfl
 |builtin b=>rfl
|_=>rfl
def opV (P:Program)(o:Oper)(σ:Sg)(w:ao)(K:VWP)(PK:PKT):Prop:=
 match o.op with
|.move x|.assign x=>K (rd σ x) w
|.call { callee:=.value (.func f),args,.. }=>bc (cW P f) (cR P f (FP (rd σ) args) w PK K) (DoX P (CQ (rd σ) o) w PK K)
|.defer _=>False
|_=>DoX P (CQ (rd σ) o) w PK K
def lK (v:aq)(want:Bool):Bool:=
 match v with
|.bool b=>b==want
|_=>au
def KO (ops:Array Oper)(j:Nat):Option Nat:=(ops[j]?).bind (·.dst)
structure GDo (v:aq) (want:Bool) (E:(VWP)->Prop) (w:ao) (K:VWP):Prop where
 mk ::
 out:bc (lK v want) (E K) (K undef w)
abbrev Nx:=Sg->List Deferred->ao->Prop
def dfr (σ:Sg)(c:Call):Option Deferred:=
 match c.callee with
|.value (.func f)=>ay { target:=.fn (.func f) #[],args:=FP (rd σ) c.args }
|.value x=>match rd σ x with
 |.func fn first captured=>ay { target:=.fn fn captured,args:=first++FP (rd σ) c.args }
 |_=>ax
|_=>ax
structure DfrX (d:Option Deferred) (K:Deferred->Prop):Prop where
 mk ::
 out:∃d',d=ay d'∧K d'
def ET (P:Program)(ro:Option Nat)(n:Nat)(ops:Array Oper)(K:Nx)(PK:List PanicEntry->Nx):List Oper->Sg->List Deferred->ao->Prop
|[],σ,ds,w=>K σ ds w
|o::rest,σ,ds,w=>
  bc (inB n o.dst)
   (match o.guard with
  |none=>
    match o.op with
   |.defer c=>match ro with
    |none=>match c.callee with
     |.value (.func f)=>ET P ro n ops K PK rest (put σ o.dst undef) ({ target:=.fn (.func f) #[],args:=FP (rd σ) c.args }::ds) w
     |_=>DfrX (dfr σ c) (λd=>ET P ro n ops K PK rest (put σ o.dst undef) (d::ds) w)
    |some _=>False
   |_=>opV P o σ w (λv w=>ET P ro n ops K PK rest (put σ o.dst v) ds w) (λc w=>PK c σ ds w)
  |some (j,want)=>
    match KO ops j with
   |some d=>bc (Nat.blt d n) (GDo (σ d) want (λK'=>opV P o σ w K' (λc w=>PK c σ ds w)) w (λv w=>ET P ro n ops K PK rest (put σ o.dst v) ds w)) False
   |none=>False)
   False
def lQ (n:Nat)(K:Nx)(a:Act)(w:ao):Prop:=∃σ,Rep n σ a.tmps∧K σ a.defers w
theorem atT {o:Oper}{n:Nat}{σ:Sg}{a:Act}(g:Rep n σ a.tmps)(m:inB n o.dst=aw)(i:∀c,o.op≠.defer c){K:Nx}{PK:List PanicEntry->Nx}{next:Act->ao->Prop}
  (j:∀c a w,lQ n (PK c) a w->Q (.panic c) a w) (d:∀a w,lQ n K a w->next a w)
  (h:Nw P ((execOp (rd σ) o).run P w) (λv w=>K (put σ o.dst v) a.defers w) (λc w=>PK c σ a.defers w)):o.wpIn (Fr ro) 0 P a w next Q:=by
 unfold Oper.wpIn;refine⟨λ_ _=>trivial,?_⟩;rw[g.eval,Oper.semAt_eq _ _ _ i];generalize (execOp (rd σ) o).run P w=r at *;have b:∀v w,K (put σ o.dst v) a.defers w->next (a.put o.dst v) w:=λv w p=>d _ _ ⟨_,g.put m v,by
  have e:(a.put o.dst v).defers=a.defers:=by cases o.dst<;>rfl
  rw[e];exact p⟩
 cases r with
|ok x w'=>
  cases x<;>simp only[Nw] at h<;>simp only[Oper.uponIn]
  ·exact b _ _ h
  ·exact b _ _ h
  ·refine⟨(λk=>by cases k),Ni.2 (h.out.mono λe l f=>?_)⟩;cases e with
  |returned v=>exact b _ _ f
  |panicked c=>exact j _ _ _ ⟨σ,g,f⟩
  |outgrown=>exact f.elim
  all_goals first|exact h.elim|skip
  refine⟨(λk=>by cases k),RoundIn.mono h.out λe l f=>?_⟩;cases e with
 |returned v=>exact b _ _ f
 |panicked c=>exact j _ _ _ ⟨σ,g,f⟩
 |outgrown=>exact f.elim
|halt x w'=>
  cases x<;>simp only[Nw] at h<;>simp only[Oper.uponIn]
  case panic v=>exact j _ _ _ ⟨σ,g,h⟩
  all_goals exact h.elim
theorem TT {o:Oper}{n:Nat}{σ:Sg}{a:Act}(e:Rep n σ a.tmps)(g:inB n o.dst=aw){K:Nx}{PK:List PanicEntry->Nx}{next:Act->ao->Prop}
  (i:∀c a w,lQ n (PK c) a w->Q (.panic c) a w) (b:∀a w,lQ n K a w->next a w)
  (h:opV P o σ w (λv w=>K (put σ o.dst v) a.defers w) (λc w=>PK c σ a.defers w)):o.wpIn (Fr ro) 0 P a w next Q:=by
 refine atT e g (λc j=>by unfold opV at h;rw[j] at h;exact h.elim) i b ?_;unfold opV at h;split at h
 ·rename_i x d;rw[show execOp (rd σ) o=pure (.value (rd σ x)) by unfold execOp;rw[d]];exact h
 ·rename_i x d;rw[show execOp (rd σ) o=pure (.value (rd σ x)) by unfold execOp;rw[d]];exact h
 ·rename_i f args k d
  cases hp:cW P f with
 |false=>rw[hp,aF] at h;replace h:=h.out;rw[lP] at h;exact h
 |true=>
   rw[hp,aG] at h;have:(execOp (rd σ) o).run P w=.ok (.enter f (FP (rd σ) args)) w:=by
    unfold execOp;rw[d];rw[Bh];simp only[resolve,rd,Deferred.ofValue,invoke,bind,pure,Sem.bind];rw[aAC,aAD];exact jT hp _ _
   rw[this];exact h
 ·exact h.elim
 ·replace h:=h.out;rw[lP] at h;exact h
def NoR (r:Result Next):Prop:=∀l f t a b w',r≠.ok (.round l f t a b) w'
def noRd (P:Program)(o:Oper):Bool:=
 match o.op with
|.call { callee:=.value (.func f),.. }=>cW P f
|.call { callee:=.builtin b,.. }=>match b with
 |.append|.copy|.len|.cap|.min|.max|.unsafeString|.unsafeSliceData|.delete|.clear=>aw
 |_=>au
|.call _=>au
|.go _|.defer _|.send ..|.recv ..|.select ..|.makeChan ..=>au
|_=>aw
def IX (P:Program):List Oper->Bool
|[]=>aw
|o::l=>noRd P o&&IX P l
theorem amA (s:Sem aq):NoR ((mv s).run P w):=by
 intro l f t a b w' h;unfold mv at h;rw[Sem.run_bind] at h;generalize s.run P w=r at h;cases r<;>simp[Result.andThen] at h
theorem atN (s:Sem Unit):NoR ((mu s).run P w):=by
 intro l f t a b w' h;unfold mu at h;rw[Sem.run_bind] at h;generalize s.run P w=r at h;cases r<;>simp[Result.andThen] at h
theorem Zz {o:Oper}{σ:Sg}(h:noRd P o=aw):NoR ((execOp (rd σ) o).run P w):=by
 generalize hρ:rd σ=ρ;unfold noRd at h;unfold execOp;cases m:o.op<;>rw[m] at h<;>simp only at h ⊢<;>first|exact amA _|exact atN _|(cases h;done)|skip
 case move=>intro l f t a b w' h;cases h
 case assign=>intro l f t a b w' h;cases h
 case pick c a b=>
  intro l f t a b w' h;rw[Sem.run_bind] at h;generalize Sem.run P (asBool (ρ c)) w=r at h;cases r<;>simp[Result.andThen] at h
 case nilCheck x=>
  intro l f t a b w' h;split at h
  ·cases h
  ·cases h
  ·cases h
  ·split at h
   ·cases h
   ·rw[Sem.run_bind] at h;generalize Sem.run P program w=r at h;cases r with
   |halt _ _=>simp[Result.andThen] at h
   |ok p s=>
     simp only[Result.andThen] at h;rw[Sem.run_bind] at h;generalize Sem.run P (nilAhead _ _ _ _) s=r at h;cases r with
    |halt _ _=>simp[Result.andThen] at h
    |ok q w2=>
      simp only[Result.andThen] at h;split at h
      ·cases h
      ·cases h
   ·cases h
  ·cases h
 case call c=>
  obtain⟨callee,args,i⟩:=c;cases callee with
 |invoke r n=>cases h
 |value x=>
   cases x with
  |func g=>
    intro l f t a b w' j;have e:(do let d <-resolve ρ { callee:=.value (.func g),args,argTypes:=i } o.type;invoke d.target d.args:Sem Next).run P w=.ok (.enter g (FP ρ args)) w:=by
     rw[Bh,<-hρ];simp only[resolve,rd,Deferred.ofValue,invoke,bind,pure,Sem.bind];rw[aAC,aAD];exact jT h _ _
    rw[e] at j;cases j
  |_=>cases h
 |builtin k=>
   show NoR ((builtin k i o.type _ _).run P w);cases k<;>first|exact amA _|(cases h;done)
theorem aeK {o:Oper}{n:Nat}{σ:Sg}{a:Act}(f:Rep n σ a.tmps)(k:inB n o.dst=aw){K:Nx}{PK:List PanicEntry->Nx}{next:Act->ao->Prop}
  (j:∀c a w,lQ n (PK c) a w->Q (.panic c) a w) (d:∀a w,lQ n K a w->next a w)
  (g:NoR ((execOp (rd σ) o).run P w)) (h:Nw P ((execOp (rd σ) o).run P w) (λv w=>K (put σ o.dst v) a.defers w) (λc w=>PK c σ a.defers w)):o.wp P a w next Q:=by
 unfold Oper.wp;rw[f.eval];generalize (execOp (rd σ) o).run P w=r at *;have b:∀v w,K (put σ o.dst v) a.defers w->next (a.put o.dst v) w:=λv w l=>d _ _ ⟨_,f.put k v,by
  have e:(a.put o.dst v).defers=a.defers:=by cases o.dst<;>rfl
  rw[e];exact l⟩
 cases r with
|ok x w'=>
  cases x<;>simp only[Nw] at h<;>simp only[Oper.upon]
  ·exact b _ _ h
  ·exact b _ _ h
  ·refine h.out.mono λe m i=>?_;cases e with
  |returned v=>exact b _ _ i
  |panicked c=>exact j _ _ _ ⟨σ,f,i⟩
  |outgrown=>exact i.elim
  all_goals first|exact h.elim|skip
  exact g _ _ _ _ _ _ rfl
|halt x w'=>
  cases x<;>simp only[Nw] at h<;>simp only[Oper.upon]
  case panic v=>exact j _ _ _ ⟨σ,f,h⟩
  all_goals exact h.elim
theorem R3 {o:Oper}{n:Nat}{σ:Sg}{a:Act}(g:Rep n σ a.tmps)(i:inB n o.dst=aw){K:Nx}{PK:List PanicEntry->Nx}{next:Act->ao->Prop}
  (j:∀c a w,lQ n (PK c) a w->Q (.panic c) a w) (b:∀a w,lQ n K a w->next a w)
  (e:noRd P o=aw) (h:opV P o σ w (λv w=>K (put σ o.dst v) a.defers w) (λc w=>PK c σ a.defers w)):o.wp P a w next Q:=by
 refine aeK g i j b (Zz e) ?_;unfold opV at h;split at h
 ·rename_i x d;rw[show execOp (rd σ) o=pure (.value (rd σ x)) by unfold execOp;rw[d]];exact h
 ·rename_i x d;rw[show execOp (rd σ) o=pure (.value (rd σ x)) by unfold execOp;rw[d]];exact h
 ·rename_i f args k d
  cases hp:cW P f with
 |false=>rw[hp,aF] at h;replace h:=h.out;rw[lP] at h;exact h
 |true=>
   rw[hp,aG] at h;have:(execOp (rd σ) o).run P w=.ok (.enter f (FP (rd σ) args)) w:=by
    unfold execOp;rw[d];rw[Bh];simp only[resolve,rd,Deferred.ofValue,invoke,bind,pure,Sem.bind];rw[aAC,aAD];exact jT hp _ _
   rw[this];exact h
 ·exact h.elim
 ·replace h:=h.out;rw[lP] at h;exact h
theorem afX {o:Oper}{n:Nat}{σ:Sg}{a:Act}(g:Rep n σ a.tmps)(i:inB n o.dst=aw){K:Nx}{PK:List PanicEntry->Nx}{next:Act->ao->Prop}
  (j:∀c a w,lQ n (PK c) a w->Q (.panic c) a w) (b:∀a w,lQ n K a w->next a w)
  (e:NoR ((execOp (rd σ) o).run P w)) (h:opV P o σ w (λv w=>K (put σ o.dst v) a.defers w) (λc w=>PK c σ a.defers w)):o.wp P a w next Q:=by
 refine aeK g i j b e ?_;unfold opV at h;split at h
 ·rename_i x d;rw[show execOp (rd σ) o=pure (.value (rd σ x)) by unfold execOp;rw[d]];exact h
 ·rename_i x d;rw[show execOp (rd σ) o=pure (.value (rd σ x)) by unfold execOp;rw[d]];exact h
 ·rename_i f args k d
  cases hp:cW P f with
 |false=>rw[hp,aF] at h;replace h:=h.out;rw[lP] at h;exact h
 |true=>
   rw[hp,aG] at h;have:(execOp (rd σ) o).run P w=.ok (.enter f (FP (rd σ) args)) w:=by
    unfold execOp;rw[d];rw[Bh];simp only[resolve,rd,Deferred.ofValue,invoke,bind,pure,Sem.bind];rw[aAC,aAD];exact jT hp _ _
   rw[this];exact h
 ·exact h.elim
 ·replace h:=h.out;rw[lP] at h;exact h
structure CVX (P:Program) (v:aq) (args:Array aq) (w:ao) (PK:PKT) (K:VWP):Prop where
 mk ::
 out:∃f fa ca,v=.func (.func f) fa ca∧cW P f=aw∧cR P f (fa++args++ca) w PK K
def isCV (o:Oper):Bool:=
 match o.op with
|.call { callee:=.value (.func _),.. }=>au
|.call { callee:=.value _,.. }=>aw
|_=>au
def opW (P:Program)(o:Oper)(σ:Sg)(w:ao)(K:VWP)(PK:PKT):Prop:=
 match o.op with
|.call { callee:=.value (.func _),.. }=>opV P o σ w K PK
|.call { callee:=.value x,args,.. }=>CVX P (rd σ x) (FP (rd σ) args) w PK K
|_=>opV P o σ w K PK
theorem amV (h:cW P f=aw)(fa ca args:Array aq)(w:ao):(iO (.func (.func f) fa ca) args).run P w=.ok (.enter f (fa++args++ca)) w:=by
 unfold iO;simp only[Deferred.ofValue,invoke,bind,pure,Sem.bind];exact jT h _ _
theorem aoU {o:Oper}{σ:Sg}(h:opW P o σ w K PK):opV P o σ w K PK∧(isCV o=aw->NoR ((execOp (rd σ) o).run P w)):=by
 unfold opW at h;split at h
 ·rename_i f args i d;exact⟨h,λc=>by unfold isCV at c;rw[d] at c;cases c⟩
 ·rename_i x args i n d
  obtain⟨f,fa,ca,p,q,r⟩:=h.out;have e:execOp (rd σ) o=iO (rd σ x) (FP (rd σ) args):=by
   rw[<-lP];unfold CQ;rw[d]
  have j:=amV q fa ca (FP (rd σ) args) w;rw[<-p] at j;refine⟨?_,λ_=>by rw[e,j];intro l f t a b w' s;cases s⟩;unfold opV;rw[d];have u:DoX P (CQ (rd σ) o) w PK K:=⟨by rw[lP,e,j];exact r⟩;cases x with
 |func g=>exact absurd rfl (n g)
 |_=>exact u
 ·rename_i v k
  refine⟨h,λc=>?_⟩;unfold isCV at c;split at c
  ·cases c
  ·rename_i x args d m;exact absurd m (k _ _ _)
  ·cases c
def XT (P:Program):List Oper->Bool
|[]=>aw
|o::l=>(noRd P o||isCV o)&&XT P l
theorem xI {n:Nat}{σ:Sg}{a:Act}(c:Rep n σ a.tmps){o:Oper}(g:o.guard=ay (j,want))(f:KO ops j=ay d)(h:Nat.blt d n=aw) :
  Region.wanted o (yielded ops a.tmps)=lK (σ d) want:=by
 have b:d < a.tmps.size:=by rw[c.size];simpa[Nat.blt_eq] using h
 have e:a.tmps[d]?=ay (σ d):=by
  rw[<-c.get d,aBe,Array.getElem?_eq_getElem b];rfl
 unfold KO at f;simp only[Region.wanted,g,yielded,f,Option.bind_some,e,lK];cases σ d<;>simp
theorem Ut {n:Nat}{K:Nx}{PK:List PanicEntry->Nx}
  (v:∀c a w,lQ n (PK c) a w->Q (.panic c) a w) (y:∀a w,lQ n K a w->Q .normal a w) :
  ∀(l:List Oper) (σ:Sg) (a:Act) (w:ao),Rep n σ a.tmps->ET P ro n ops K PK l σ a.defers w->wpListIn (Fr ro) 0 P ops Q l a w:=by
 intro l
 induction l with
|nil=>intro σ a w k h;exact y _ _ ⟨σ,k,h⟩
|cons o rest r=>
  intro σ a w k h;unfold ET at h;cases p:inB n o.dst with
 |false=>rw[p,aF] at h;exact h.elim
 |true=>
   rw[p,aG] at h;unfold wpListIn;cases s:o.guard with
  |none=>
    simp only[s] at h;rw[auC (by simp[Region.wanted,s])];split at h
    ·rename_i c z
     cases ro with
    |some _=>exact h.elim
    |none=>
     have key:∀d,dfr σ c=ay d->ET P ax n ops K PK rest (put σ o.dst undef) (d::a.defers) w->o.wpIn (Fr ax) 0 P a w (wpListIn (Fr ax) 0 P ops Q rest) Q:=by
      intro d b h;have q:(execOp (rd σ) o).run P w=.ok (.defer d) w:=by
       unfold execOp;rw[z];unfold dfr at b;unfold resolve;split at b
       ·rename_i f t
        cases b;simp[Bh,t,rd,Deferred.ofValue,bind,pure,Sem.bind,Sem.run]
       ·rename_i x _ A
        split at b
        ·rename_i fn first cap B
         cases b;simp[Bh,A,B,Deferred.ofValue,bind,pure,Sem.bind,Sem.run]
        ·cases b
       ·cases b
      unfold Oper.wpIn;refine⟨λ_ _=>trivial,?_⟩;rw[k.eval,Oper.semAt_none,q];simp only[Oper.uponIn];have g:Rep n (put σ o.dst undef) (({ a with defers:=d::a.defers }:Act).put o.dst undef).tmps:=Rep.put (a:={ a with defers:=d::a.defers }) k p undef;refine r _ _ _ g ?_;have e:(({ a with defers:=d::a.defers }:Act).put o.dst undef).defers=d::a.defers:=by cases o.dst<;>rfl
      rw[e];exact h
     simp only at h;split at h
     ·rename_i f t
      exact key _ (by unfold dfr;rw[t]) h
     ·obtain⟨d,b,h⟩:=h.out;exact key d b h
    ·refine TT (K:=λσ ds w=>ET P ro n ops K PK rest σ ds w) (PK:=PK) k p v ?_ h;rintro a' w' ⟨σ',g,u⟩;exact r _ _ _ g u
  |some C=>
    obtain⟨j,want⟩:=C;simp only[s] at h;split at h
    ·rename_i d D
     cases m:Nat.blt d n with
    |false=>rw[m,aF] at h;exact h.elim
    |true=>
      rw[m,aG] at h;have hw:=xI k s D m
      replace h:=h.out
      cases i:lK (σ d) want with
     |true=>
       rw[i,aG] at h;rw[auC (by rw[hw,i])];refine TT (K:=λσ ds w=>ET P ro n ops K PK rest σ ds w) (PK:=PK) k p v ?_ h;rintro a' w' ⟨σ',g,u⟩;exact r _ _ _ g u
     |false=>
       rw[i,aF] at h;rw[auB (by rw[hw,i];simp)];have e:(a.put o.dst undef).defers=a.defers:=by cases o.dst<;>rfl
       exact⟨λ_ _=>trivial,r _ _ _ (k.put p undef) (by rw[e];exact h)⟩
    ·exact h.elim
theorem EA {n:Nat}{K:Nx}{PK:List PanicEntry->Nx}
  (t:∀c a w,lQ n (PK c) a w->Q (.panic c) a w) (u:∀a w,lQ n K a w->Q .normal a w) :
  ∀(l:List Oper) (σ:Sg) (a:Act) (w:ao),IX P l=aw->Rep n σ a.tmps->ET P ax n ops K PK l σ a.defers w->wpList P ops Q l a w:=by
 intro l
 induction l with
|nil=>intro σ a w _ m h;exact u _ _ ⟨σ,m,h⟩
|cons o rest r=>
  intro σ a w b m h;simp only[IX,auY] at b;obtain⟨b,f⟩:=b;unfold ET at h;cases p:inB n o.dst with
 |false=>rw[p,aF] at h;exact h.elim
 |true=>
   rw[p,aG] at h;unfold wpList;cases q:o.guard with
  |none=>
    simp only[q] at h;rw[auC (by simp[Region.wanted,q])];left;split at h
    ·rename_i c v
     unfold noRd at b;rw[v] at b;cases b
    ·refine R3 (K:=λσ ds w=>ET P ax n ops K PK rest σ ds w) (PK:=PK) m p t ?_ b h;rintro a' w' ⟨σ',i,s⟩;exact r _ _ _ f i s
  |some x=>
    obtain⟨j,want⟩:=x;simp only[q] at h;split at h
    ·rename_i d y
     cases k:Nat.blt d n with
    |false=>rw[k,aF] at h;exact h.elim
    |true=>
      rw[k,aG] at h;have hw:=xI m q y k
      replace h:=h.out
      cases g:lK (σ d) want with
     |true=>
       rw[g,aG] at h;rw[auC (by rw[hw,g])];left;refine R3 (K:=λσ ds w=>ET P ax n ops K PK rest σ ds w) (PK:=PK) m p t ?_ b h;rintro a' w' ⟨σ',i,s⟩;exact r _ _ _ f i s
     |false=>
       rw[g,aF] at h;rw[auB (by rw[hw,g];simp)];have e:(a.put o.dst undef).defers=a.defers:=by cases o.dst<;>rfl
       exact r _ _ _ f (m.put p undef) (by rw[e];exact h)
    ·exact h.elim
structure QDo (P:Program) (C:ao->Prop) (m:Sem Next) (K:aq->Prop):Prop where
 mk ::
 out:∃v,(∀w,C w->Oper.quietUpon P C w v (m.run P w))∧K v
structure Fj (P:Program) (C:ao->Prop) (f:Nat) (args:Array aq) (K:aq->Prop):Prop where
 mk ::
 out:∃v,(∀w,C w->Calls P f args w (λe w'=>e=.returned v∧C w'))∧K v
def opQ (P:Program)(C:ao->Prop)(o:Oper)(σ:Sg)(K:aq->Prop):Prop:=
 match o.op with
|.move x|.assign x=>K (rd σ x)
|.call { callee:=.value (.func f),args,.. }=>bc (cW P f) (Fj P C f (FP (rd σ) args) K) (QDo P C (CQ (rd σ) o) K)
|_=>QDo P C (CQ (rd σ) o) K
structure GQ (v:aq) (want:Bool) (E:(aq->Prop)->Prop) (K:aq->Prop):Prop where
 mk ::
 out:bc (lK v want) (E K) (K undef)
def pE (P:Program)(n:Nat)(ops:Array Oper)(C:ao->Prop)(K:Sg->Prop):List Oper->Sg->Prop
|[],σ=>K σ
|o::rest,σ=>
  bc (inB n o.dst)
   (match o.guard with
  |none=>opQ P C o σ (λv=>pE P n ops C K rest (put σ o.dst v))
  |some (j,want)=>
    match KO ops j with
   |some d=>bc (Nat.blt d n) (GQ (σ d) want (λK'=>opQ P C o σ K') (λv=>pE P n ops C K rest (put σ o.dst v))) False
   |none=>False)
   False
theorem afA {o:Oper}{n:Nat}{σ:Sg}{a:Act}(g:Rep n σ a.tmps){next:Act->Prop}{K:aq->Prop}
  (b:∀v,K v->next (a.put o.dst v)) (h:opQ P C o σ K):o.quiet P a C next:=by
 unfold Oper.quiet Oper.quietAt;rw[g.eval];have key:QDo P C (CQ (rd σ) o) K->∃v,(∀w,C w->Oper.quietUpon P C w v ((execOp (rd σ) o).run P w))∧next (a.put o.dst v):=
  λ⟨⟨v,d,e⟩⟩=>⟨v,by rw[<-lP];exact d,b _ e⟩
 unfold opQ at h;split at h
 ·rename_i x c;exact⟨rd σ x,λw _=>by rw[show execOp (rd σ) o=pure (.value (rd σ x)) by unfold execOp;rw[c]];exact⟨rfl,rfl⟩,b _ h⟩
 ·rename_i x c;exact⟨rd σ x,λw _=>by rw[show execOp (rd σ) o=pure (.value (rd σ x)) by unfold execOp;rw[c]];exact⟨rfl,rfl⟩,b _ h⟩
 ·rename_i f args i c
  cases hp:cW P f with
 |false=>rw[hp,aF] at h;exact key h
 |true=>
   rw[hp,aG] at h;obtain⟨v,d,e⟩:=h.out;refine⟨v,λw hw=>?_,b _ e⟩;have:(execOp (rd σ) o).run P w=.ok (.enter f (FP (rd σ) args)) w:=by
    unfold execOp;rw[c];rw[Bh];simp only[resolve,rd,Deferred.ofValue,invoke,bind,pure,Sem.bind];rw[aAC,aAD];exact jT hp _ _
   rw[this];exact⟨rfl,d w hw⟩
 ·exact key h
theorem uU {n:Nat}{K:Sg->Prop}{Q:Act->Prop}
  (m:∀σ a,Rep n σ a.tmps->a.defers=ds->K σ->Q a) :
  ∀(l:List Oper) (σ:Sg) (a:Act),Rep n σ a.tmps->a.defers=ds->pE P n ops C K l σ->wpQuiet P ops C Q l a:=by
 intro l
 induction l with
|nil=>intro σ a g e h;exact m _ _ g e h
|cons o rest p=>
  intro σ a g e h;unfold pE at h;cases k:inB n o.dst with
 |false=>rw[k,aF] at h;exact h.elim
 |true=>
   rw[k,aG] at h;have b:∀v,pE P n ops C K rest (put σ o.dst v)->wpQuiet P ops C Q rest (a.put o.dst v):=λv q=>
    p _ _ (g.put k v) (by rw[<-e];cases o.dst<;>rfl) q
   unfold wpQuiet;cases i:o.guard with
  |none=>
    simp only[i] at h;rw[auC (by simp[Region.wanted,i])];exact afA g b h
  |some r=>
    obtain⟨j,want⟩:=r;simp only[i] at h;split at h
    ·rename_i d s
     cases f:Nat.blt d n with
    |false=>rw[f,aF] at h;exact h.elim
    |true=>
      rw[f,aG] at h;have hw:=xI g i s f
      replace h:=h.out
      cases c:lK (σ d) want with
     |true=>
       rw[c,aG] at h;rw[auC (by rw[hw,c])];exact afA g b h
     |false=>
       rw[c,aF] at h;rw[auB (by rw[hw,c];simp)];exact b _ h
    ·exact h.elim
def adS (P:Program)(o:Oper):Bool:=
 match o.op with
|.alloc _|.box ..|.buildSlice ..|.store ..|.makeMap ..|.makeSlice ..|.makeChan ..|.mapUpdate ..|.insert ..|.mapEntry ..|.entryStore ..|.range ..|.next ..|.panic _|.defer _=>aw
|.convert _ d _=>match P.underlying d with|some (.slice _)=>aw|_=>au
|.call { callee:=.builtin .unsafeString,.. }|.call { callee:=.builtin .append,.. }|.call { callee:=.builtin .copy,.. }|.call { callee:=.builtin .delete,.. }|.call { callee:=.builtin .clear,.. }=>aw
|_=>au
def memT (P:Program):Nat->Nat->Bool
|0,_=>aw
|k+1,t=>match P.underlying t with
 |some (.slice _)=>aw
 |some (.pointer _)=>aw
 |some (.map _ _)=>aw
 |some (.struct fs)=>fs.toList.any λf=>memT P k f.type
 |some (.array _ e)=>memT P k e
 |_=>au
def sH (p:Oper->Bool):Code->Bool
|.region _ ops _=>ops.toList.any p
|.seq a b=>bc (sH p a) aw (sH p b)
|.cond _ a b=>bc (sH p a) aw (sH p b)
|.block _ a=>sH p a
|.loop a=>sH p a
|.rangeFunc _ _ a b=>bc (sH p a) aw (sH p b)
|_=>au
def isMk (P:Program)(o:Oper):Bool:=
 match o.op with
|.buildSlice ..|.makeMap ..|.makeSlice ..=>aw
|.convert _ d _=>match P.underlying d with|some (.slice _)=>aw|_=>au
|.call { callee:=.builtin .append,.. }=>aw
|_=>au
def afG (P:Program):Nat->Nat->Bool
|0,f=>match P.funcs[f]? with
 |some g=>sH (isMk P) (g.body.getD .skip)
 |none=>au
|k+1,f=>match P.funcs[f]? with
 |some g=>sH (λo=>bc (isMk P o) aw (match o.op with|.call { callee:=.value (.func g),.. }=>afG P k g|_=>au)) (g.body.getD .skip)
 |none=>au
def atQ (o:Oper):Bool:=match o.op with|.panic _=>aw|_=>au
def panF (P:Program):Nat->Nat->Bool
|0,_=>au
|k+1,f=>match P.funcs[f]? with
 |some g=>sH (λo=>bc (atQ o) aw (match o.op with|.call { callee:=.value (.func h),.. }=>panF P k h|_=>au)) (g.body.getD .skip)
 |none=>au
def newF (P:Program)(f:Nat):Bool:=
 match P.funcs[f]? with
|some g=>bc (panF P 3 f) aw (bc (g.resultTypes.toList.any λt=>memT P 4 t) (afG P 2 f) au)
|none=>au
def anV (P:Program)(o:Oper):Bool:=
 match o.op with
|.call { callee:=.value (.func f),.. }=>newF P f
|_=>adS P o
def bD (P:Program):List Oper->Nat
|[]=>0
|o::l=>bc (anV P o) 0 (bD P l+1)
section
variable {P:Program}{ops:Array Oper}{md:Region.Mode}{C:ao->Prop}
theorem NZ {n:Nat}{x:Oper}{L:Array Bool->Act->Prop}(hi:ops[i]?=ay x)(p:∀(j:Nat) (o:Oper) cs b,ops[j]?=ay o->o.op≠.select cs b)
  (I:Region.sinkB md ops n=aw) (J:Region.chainB md ops n=aw) (K:n < ops.size) (y:i < n)
  (s:∀listed a,L listed a->∀j∈Region.ready md ops listed,n<=j) :
  ∀(f:Nat) (listed:Array Bool) (a:Act),HeadInv md ops n listed ->
   (∀j t,ops[j]?=ay t->j≠i->listed.getD j aw=au->(∀e∈t.after,Region.binds md e=aw->e.on≠i)->x.apart ops t=aw) ->
   i∈Region.ready md ops listed->YieldsIn P ops C x v a ->
   B1 P md ops C n L f (listed.setIfInBounds i aw) (a.put x.dst v)->B1 P md ops C n L (f+1) listed a:=by
 intro f
 induction f with
|zero=>
  intro listed a inv _ q D H;have d:=(mem_ready.1 q).1;refine⟨λh=>(by rw[h] at q;cases q),λj u=>?_⟩;have l:j < n:=by
   rcases avI j n with h|h
   ·exact h
   ·exact absurd u (tail_waits I J K inv _ i rfl y d j h)
  refine⟨l,?_⟩;by_cases c:j=i
  ·subst c;exact D.qOp hi H
  ·have:=s _ _ H j (ready_mono u c);omega
|succ f N=>
  intro listed a inv g q D H;have d:=(mem_ready.1 q).1;refine⟨λh=>(by rw[h] at q;cases q),λj u=>?_⟩;have l:j < n:=by
   rcases avI j n with h|h
   ·exact h
   ·exact absurd u (tail_waits I J K inv _ i rfl y d j h)
  refine⟨l,?_⟩;by_cases c:j=i
  ·subst c;exact D.qOp hi H
  ·have E:=(H.2 j (ready_mono u c)).2;obtain⟨r,t,w,z⟩:=mem_ready.1 u;have A:∀e∈t.after,Region.binds md e=aw->e.on≠i:=λe he O heq=>by
    have E:=z e he O;rw[heq,getD_both d] at E;cases E
   have Q:=qOp_put w (g j t w c r A) (λcs b=>p i x cs b hi) (λcs b=>p j t cs b w) D E;have m:∀k ok,ops[k]?=ay ok->k≠i->(listed.setIfInBounds j aw).getD k aw=au ->
     (∀e∈ok.after,Region.binds md e=aw->e.on≠i)->x.apart ops ok=true:=λk ok R F d G=>by
    refine g k ok R F ?_ G;by_cases B:j=k
    ·subst B;exact r
    ·rw[getD_set_ne aw B] at d;exact d
   refine qOp_mono (λa' M=>N (listed.setIfInBounds j aw) a' (inv.set u l) m (ready_mono q (Ne.symm c)) M.1 ?_) Q;rw[aBd _ _ c];exact M.2
theorem Kv {n g:Nat}{p:Act->Prop}(c:Region.noSelect ops=aw)(s:Region.sinkB md ops n=aw)(t:Region.chainB md ops n=aw)(u:n < ops.size) :
  ∀(l:List Oper) (k:Nat) (listed:Array Bool) (a:Act),(∀j,j < l.length->l[j]?=ops[k+j]?)->k+l.length=n->HeadInv md ops n listed ->
  Region.lexHead md ops g l.length k listed=aw->wpQuiet P ops C p l a ->
  B1 P md ops C n (λb a'=>Region.seqB md ops g n b=aw∧p a') l.length listed a
|[],k,listed,a,_,f,_,i,h=>by
  have:k=n:=by simpa using f
  subst this;exact⟨by simpa[Region.lexHead] using i,h⟩
|o::l,k,listed,a,w,f,inv,i,h=>by
  have m:ops[k]?=ay o:=by simpa using (w 0 sm).symm
  simp only[auX,Region.lexHead,auY] at i;obtain⟨⟨x,y⟩,q⟩:=i;have d:k < n:=by simp only[auX] at f;omega
  have e:k∈Region.ready md ops listed:=by simpa using x
  have r:qOp P ops C k (wpQuiet P ops C p l) a:=by unfold qOp;simp only[m];exact h
  obtain⟨v,z,A⟩:=yieldsIn_of_qOp m r;exact NZ m (Region.noSelect_spec c) s t u d (λb a' hL=>seqB_ready hL.1) l.length listed a inv (Region.free_spec m y) e z
   (Kv c s t u l (k+1) _ _ (λj B=>by have:=w (j+1) (by simp;omega);simpa[awU,aAf 1 j] using this) (by simp only[auX] at f;omega) (inv.set e d) q A)
theorem LY {a:Act}{l:List Oper}(n:Nat)(m:Region.lexTailB .any l.toArray n=aw)(hC:C { w with drawn:=w.drawn+1 })
  (h:wpQuiet P l.toArray C (λa'=>∀w',C w'->wpList P l.toArray Q (l.drop n) a' w') (l.take n) a):wpAny P .any l.toArray Q l.toArray.size (Array.replicate l.toArray.size au) a { w with drawn:=w.drawn+1 }:=by
 simp only[Region.lexTailB,auY,avK] at m;obtain⟨⟨⟨⟨c,o⟩,r⟩,s⟩,d⟩:=m;have u:n < l.length:=by simpa using o
 have b:(l.take n).length=n:=by simp;omega
 have e:(l.drop n).length=l.toArray.size - n:=sm
 have f:HeadInv .any l.toArray n (Array.replicate l.toArray.size au):=
  ⟨sm,λj x _ p=>(by rw[getD_replicate_false] at p;cases p),λt _ v=>getD_in (by simpa using v) (getD_replicate_false _ _)⟩
 have H:=Kv (md:=.any) (g:=l.toArray.size - n) c r s o (l.take n) 0 _ a (λj q=>by
  have i:j < n:=by rw[b] at q;exact q
  simp[i]) (by simpa using b) f (by rw[b];exact d) h
 have:=nR (Q':=Q) (g:=l.toArray.size - n) (λlisted a' w' k hL=>by
  have:=wpAny_of_seq (md:=.any) (Q':=Q) (l.drop n) n listed a' w' (λj=>by simp[ayB]) (by rw[e];exact hL.1) (hL.2 w' k)
  rwa [e] at this) _ _ _ _ hC H
 rw[b,show n+(l.toArray.size - n)=l.toArray.size by omega] at this;exact this
theorem Xj {a:Act}(b:Region.lexB .any ops=aw)(hC:C { w with drawn:=w.drawn+1 })
  (h:wpQuiet P ops C (λa'=>∀w',C w'->Q .normal a' w') ops.toList a):wpAny P .any ops Q ops.size (Array.replicate ops.size au) a { w with drawn:=w.drawn+1 }:=by
 simp only[Region.lexB,auY] at b;refine wpAny_of_quiet (Q:=λa'=>∀w',C w'->Q .normal a' w') (λ_ w' c h=>h w' c) _ _ _ _ hC ?_;have:=wpAnyQ_lex (C:=C) (md:=.any) b.1 ops.toList 0 (Array.replicate ops.size au) a sm (by simpa using b.2) h;simpa using this
end
def sX:List Oper->Bool
|[]=>aw
|o::l=>(match o.op with|.defer _=>au|_=>aw)&&sX l
theorem NL:∀{l:List Oper},sX l=aw->∀o,o∈l->∀c,o.op≠.defer c
|[],_,o,a,_=>by cases a
|x::l,h,o,a,c=>by
  simp only[sX,auY] at h;rcases auI.1 a with rfl|a
  ·intro e;rw[e] at h;cases h.1
  ·exact NL h.2 o a c
def IF (Q:Exit->Act->ao->Prop):Exit->Act->ao->Prop
|.outgrown,_,_=>False
|e,a,w=>Q e a w
theorem ZI {Q:Exit->Act->ao->Prop}:∀e a w,IF Q e a w->Q e a w
|.outgrown,_,_,h=>h.elim
|.normal,_,_,h=>h
|.ret,_,_,h=>h
|.exit _,_,_,h=>h
|.goto _,_,_,h=>h
|.panic _,_,_,h=>h
theorem aqW {o:Oper}{a:Act}{K:Act->ao->Prop}(b:∀c,o.op≠.defer c)(h:o.wp P a w K (IF Q)):o.wpIn (Fr ro) 0 P a w K (IF Q):=by
 refine⟨λ_ _=>trivial,?_⟩;rw[Oper.semAt_eq _ _ _ b];unfold Oper.wp at h;generalize (execOp a.eval o).run P w=r at h ⊢;cases r with
|ok x w'=>
  cases x<;>simp only[Oper.upon] at h<;>simp only[Oper.uponIn]<;>first|exact h|exact h.elim|skip
  ·exact⟨(λd=>by cases d),Ni.2 h⟩
  ·exact⟨(λd=>by cases d),λc cs _=>let ⟨v,w',r,s⟩:=h c cs;⟨v,w',r,stepsIn_wide.2 s⟩⟩
|halt x w'=>cases x<;>simp only[Oper.upon] at h<;>simp only[Oper.uponIn]<;>first|exact h|exact h.elim
theorem Tv {P:Program}{ro:Option Nat}{ops:Array Oper}{Q:Exit->Act->ao->Prop}(c:sX ops.toList=aw):∀(fuel:Nat) (listed:Array Bool) (a:Act) (w:ao),wpAny P .any ops (IF Q) fuel listed a w->wpAnyIn (Fr ro) 0 P .any ops (IF Q) fuel listed a w
|0,_,_,_,h=>h
|fuel+1,listed,a,w,h=>by
  refine⟨h.1,λi hi=>?_⟩;have b:=h.2 i hi;unfold wpOp at b;unfold wpOpIn;split
  ·rename_i f
   simp only[f] at b;exact Tv c fuel _ _ _ b
  ·rename_i o e
   simp only[e] at b;have d:o∈ops.toList:=by
    have:=aAg e;simpa using this
   split
   ·rename_i hw
    simp only[hw,if_true] at b;rcases b with b|⟨_,a',w',g⟩
    ·exact Oper.wpIn_mono (λa w j=>Tv c fuel _ a w j) (aqW (NL c o d) b)
    ·exact g.elim
   ·rename_i hw
    simp only[hw] at b;exact⟨λ_ _=>trivial,Tv c fuel _ _ _ b⟩
theorem BL {a:Act}(hm:P.follows .mixedOrders=aw)(b:sX ops.toList=aw)
  (h:wpAny P .any ops (IF Q) ops.size (Array.replicate ops.size au) a { w with drawn:=w.drawn+1 }):(Code.region id ops aw).wpIn (Fr ro) 0 P Q a w:=
 Code.wpIn_mono ZI (wpIn_region_any hm (Tv b _ _ _ _ h))
def GI (i:Nat):List Nat->Bool
|[]=>au
|j::l=>Nat.beq i j||GI i l
def Oh (ms:List Nat)(o:Oper):Bool:=o.after.toList.all λe=>!(Region.binds .any e)||GI e.on ms
def mvL:List Oper->Nat->List Nat->List (Nat×Oper)
|[],_,_=>[]
|o::l,k,ms=>bc (isMv o&&Oh ms o) ((k,o)::mvL l (k+1) (k::ms)) (mvL l (k+1) ms)
def hdL:List Oper->Nat->List Nat->List (Nat×Oper)
|[],_,_=>[]
|o::l,k,ms=>bc (isMv o&&Oh ms o) (hdL l (k+1) (k::ms)) ((k,o)::hdL l (k+1) ms)
def mvX (o:Oper)(σ:Sg):Value:=
 match o.op with
|.move x|.assign x=>rd σ x
|_=>undef
def Uy:List (Nat×Oper)->Sg->Sg
|[],σ=>σ
|p::r,σ=>Uy r (put σ p.2.dst (mvX p.2 σ))
def Kl (n:Nat):List (Nat×Oper)->Bool
|[]=>aw
|p::r=>inB n p.2.dst&&Kl n r
def pmX:List (Nat×Oper)->Nx->Nx
|[],K=>K
|p::r,K=>λσ ds w=>∀u:aq,pmX r K (put σ p.2.dst u) ds w
def isNil:List Nat->Bool
|[]=>aw
|_=>au
def andL:List Prop->Prop
|[]=>True
|[p]=>p
|p::q::l=>p∧andL (q::l)
theorem Gq:∀{l:List Prop},andL l->∀p,p∈l->p
|[],_,p,hp=>by cases hp
|[q],h,p,hp=>by rw[avD] at hp;subst hp;exact h
|q::r::l,h,p,hp=>by
  rcases auI.1 hp with rfl|hp
  ·exact h.1
  ·exact Gq h.2 p hp
theorem R4:∀{l:List Prop},(∀p,p∈l->p)->andL l
|[],_=>trivial
|[q],h=>h q sm
|q::r::l,h=>⟨h q sm,R4 λp hp=>h p (by simp only[auI] at hp ⊢;exact .inr hp)⟩
def O8 (P:Program)(n:Nat)(ops:Array Oper)(o:Oper)(σ:Sg)(w:ao)(next:Sg->ao->Prop)(PK:PKT):Prop:=
 bc (inB n o.dst)
  (match o.guard with
 |none=>opV P o σ w (λv w=>next (put σ o.dst v) w) PK
 |some (j,want)=>
   match KO ops j with
  |some d=>bc (Nat.blt d n) (GDo (σ d) want (λK'=>opV P o σ w K' PK) w (λv w=>next (put σ o.dst v) w)) False
  |none=>False)
  False
def Qm (P:Program)(n:Nat)(ops:Array Oper)(o:Oper)(σ:Sg)(w:ao)(next:Sg->ao->Prop)(PK:PKT):Prop:=
 bc (inB n o.dst)
  (match o.guard with
 |none=>opW P o σ w (λv w=>next (put σ o.dst v) w) PK
 |some (j,want)=>
   match KO ops j with
  |some d=>bc (Nat.blt d n) (GDo (σ d) want (λK'=>opW P o σ w K' PK) w (λv w=>next (put σ o.dst v) w)) False
  |none=>False)
  False
def Ny (P:Program)(n:Nat)(ops:Array Oper)(K:Nx)(PK:List PanicEntry->Nx):Nat->Array Bool->Sg->List Deferred->ao->Prop
|0,listed,σ,ds,w=>bc (isNil (Region.ready .any ops listed)) (K σ ds w) False
|f+1,listed,σ,ds,w=>
  bc (isNil (Region.ready .any ops listed)) (K σ ds w)
   (andL ((Region.ready .any ops listed).map λi=>match ops[i]? with
   |none=>False
   |some o=>O8 P n ops o σ w (λσ' w'=>Ny P n ops K PK f (listed.setIfInBounds i aw) σ' ds w') (λc w=>PK c σ ds w)))
theorem wS :isNil l=aw↔l=[]:=by cases l<;>simp[isNil]
theorem Vk {n:Nat}{o:Oper}{σ:Sg}{a:Act}{K:Nx}{PK:List PanicEntry->Nx}{next:Act->ao->Prop}(l:Rep n σ a.tmps)(q:∀c,o.op≠.defer c)
  (p:∀c a w,lQ n (PK c) a w->Q (.panic c) a w) (b:∀a w,lQ n K a w->next a w)
  (h:O8 P n ops o σ w (λσ' w'=>K σ' a.defers w') (λc w=>PK c σ a.defers w)) :
  if Region.wanted o (yielded ops a.tmps) then o.wpIn (Fr ro) 0 P a w next Q else (∀f,o.about P w a.eval=ay f->(Fr ro).fn f)∧next (a.put o.dst undef) w:=by
 unfold O8 at h;cases k:inB n o.dst with
|false=>rw[k,aF] at h;exact h.elim
|true=>
  rw[k,aG] at h;cases m:o.guard with
 |none=>
   simp only[m] at h;rw[auC (by simp[Region.wanted,m])];exact TT (K:=K) (PK:=PK) l k p b h
 |some r=>
   obtain⟨j,want⟩:=r;simp only[m] at h;split at h
   ·rename_i d s
    cases i:Nat.blt d n with
   |false=>rw[i,aF] at h;exact h.elim
   |true=>
     rw[i,aG] at h;have hw:=xI l m s i
     replace h:=h.out
     cases g:lK (σ d) want with
    |true=>
      rw[g,aG] at h;rw[auC (by rw[hw,g])];exact TT (K:=K) (PK:=PK) l k p b h
    |false=>
      rw[g,aF] at h;rw[auB (by rw[hw,g];simp)];have e:(a.put o.dst undef).defers=a.defers:=by cases o.dst<;>rfl
      exact⟨λ_ _=>trivial,b _ _ ⟨_,l.put k undef,by rw[e];exact h⟩⟩
   ·exact h.elim
theorem MX {P:Program}{ro:Option Nat}{n:Nat}{ops:Array Oper}{K:Nx}{PK:List PanicEntry->Nx}{Q:Exit->Act->ao->Prop}(d:sX ops.toList=aw)
  (p:∀c a w,lQ n (PK c) a w->Q (.panic c) a w) (j:∀a w,lQ n K a w->Q .normal a w) :
  ∀(fuel:Nat) (listed:Array Bool) (σ:Sg) (a:Act) (w:ao),Rep n σ a.tmps->Ny P n ops K PK fuel listed σ a.defers w->wpAnyIn (Fr ro) 0 P .any ops Q fuel listed a w
|0,listed,σ,a,w,g,h=>by
  unfold Ny at h;cases b:isNil (Region.ready .any ops listed) with
 |false=>rw[b,aF] at h;exact h.elim
 |true=>rw[b,aG] at h;exact⟨wS.1 b,j _ _ ⟨σ,g,h⟩⟩
|f+1,listed,σ,a,w,g,h=>by
  unfold Ny at h;cases b:isNil (Region.ready .any ops listed) with
 |true=>
   rw[b,aG] at h;have he:=wS.1 b;exact⟨λ_=>j _ _ ⟨σ,g,h⟩,λi hi=>by rw[he] at hi;cases hi⟩
 |false=>
   rw[b,aF] at h;refine⟨(λhe=>by rw[wS.2 he] at b;cases b),λi hi=>?_⟩;have k:=Gq h _ (avN.2 ⟨i,hi,rfl⟩);unfold wpOpIn;cases l:ops[i]? with
  |none=>simp only[l] at k
  |some o=>
    simp only[l] at k ⊢;have e:o∈ops.toList:=by
     have:=aAg l;simpa using this
    refine Vk (K:=λσ' ds' w'=>Ny P n ops K PK f (listed.setIfInBounds i aw) σ' ds' w') (PK:=PK) g (NL d o e) p ?_ k;rintro a' w' ⟨σ',m,q⟩;exact MX d p j f _ σ' a' w' m q
structure DrawX (w:ao) (F:ao->Prop):Prop where
 mk ::
 out:F { w with drawn:=w.drawn+1 }
abbrev Ex:=Exit->Sg->List Deferred->ao->Prop
def mem (i:Nat):List Nat->Bool
|[]=>au
|j::l=>Nat.beq i j||mem i l
def I9:List Oper->List Nat
|[]=>[]
|o::l=>match o.dst with
 |some d=>d::I9 l
 |none=>I9 l
def asg:Code->List Nat
|.region _ ops _=>I9 ops.toList
|.seq a b=>asg a++asg b
|.cond _ a b=>asg a++asg b
|.block _ a=>asg a
|.loop a=>asg a
|_=>[]
def jun:List Nat->List Nat->List Nat
|[],b=>b
|i::a,b=>bc (mem i b) (jun a b) (i::jun a b)
def rem (id:Nat):List Nat->List Nat
|[]=>[]
|i::a=>bc (Nat.beq id i) (rem id a) (i::rem id a)
def jx:Code->List Nat
|.seq a b=>jun (jx a) (jx b)
|.cond _ a b=>jun (jx a) (jx b)
|.block id a=>rem id (jx a)
|.loop a=>jx a
|.exit j=>[j]
|.rangeFunc _ _ _ b=>jx b
|_=>[]
def jr:Code->Bool
|.seq a b=>jr a||jr b
|.cond _ a b=>jr a||jr b
|.block _ a=>jr a
|.loop a=>jr a
|.ret=>aw
|.rangeFunc _ _ _ b=>jr b
|_=>au
def Rs (id:Nat):Code->Nat
|.seq a b=>Rs id a+Rs id b
|.cond _ a b=>Rs id a+Rs id b
|.block _ a=>Rs id a
|.loop a=>Rs id a
|.exit j=>bc (Nat.beq id j) 1 0
|.rangeFunc _ _ _ b=>bc (mem id (jx b)) 1 0
|_=>0
def ways:Code->Nat
|.skip=>1
|.region ..=>1
|.seq a b=>bc (Nat.beq (ways a) 0) 0 (ways b)
|.cond _ a b=>ways a+ways b
|.block id a=>ways a+Rs id a
|.rangeFunc ..=>1
|_=>0
def keyOf:Code->Nat
|.region id ..=>id
|.seq a b=>bc (Nat.beq (keyOf a) 999999) (keyOf b) (keyOf a)
|.cond _ a b=>bc (Nat.beq (keyOf a) 999999) (keyOf b) (keyOf a)
|.block _ a=>keyOf a
|.loop a=>keyOf a
|.rangeFunc _ _ a b=>bc (Nat.beq (keyOf a) 999999) (keyOf b) (keyOf a)
|_=>999999
def look (k:Nat):List (Nat×List Nat)->List Nat
|[]=>[]
|p::l=>bc (Nat.beq p.1 k) p.2 (look k l)
def pos (i:Nat):List Nat->Option Nat
|[]=>ax
|j::l=>bc (Nat.beq i j) (ay 0) ((pos i l).map (·+ 1))
def mix (σ:Sg)(A ls:List Nat)(vs:List aq)(j:Sg):Sg:=λi=>
 bc (mem i A) (match pos i ls with|some k=>vs.getD k undef|none=>j i) (σ i)
def pick (ls:List Nat)(σ:Sg):List Value:=
 match ls with
|[]=>[]
|i::l=>σ i::pick l σ
structure Fq (F:(List aq->ao->Prop)->Prop) (R:List aq->ao->Prop):Prop where
 mk ::
 out:∀J:List aq->ao->Prop,(∀vs w,R vs w->J vs w)->F J
def AtX:List Deferred->List Deferred->Prop->Prop
|[],[],p=>p
|a,b,p=>a=b∧p
theorem AtX.out {a b:List Deferred}{p:Prop}(h:AtX a b p):a=b∧p:=by
 unfold AtX at h;split at h
 ·exact⟨rfl,h⟩
 ·exact h
structure IfX (v:aq) (A B:Prop):Prop where
 mk ::
 out:match v with
 |.bool b=>(b=aw->A)∧(b=au->B)
 |_=>False
structure Es (vs:List aq) (w:ao) (F:List aq->ao->(List aq->ao->Prop)->Prop):Prop where
 mk ::
 out:∃(I:List aq->ao->Prop) (μ:List aq->ao->Nat),I vs w∧∀vs w,I vs w->F vs w (λvs' w'=>I vs' w'∧μ vs' w' < μ vs w)
structure JoinD (F:(List Deferred->List aq->ao->Prop)->Prop) (R:List Deferred->List aq->ao->Prop):Prop where
 mk ::
 out:∀J:List Deferred->List aq->ao->Prop,(∀ds vs w,R ds vs w->J ds vs w)->F J
structure LoopD (ds:List Deferred) (vs:List aq) (w:ao) (F:List Deferred->List aq->ao->(List Deferred->List aq->ao->Prop)->Prop):Prop where
 mk ::
 out:∃(I:List Deferred->List aq->ao->Prop) (μ:List aq->ao->Nat),I ds vs w∧∀ds vs w,I ds vs w->F ds vs w (λds' vs' w'=>I ds' vs' w'∧μ vs' w' < μ vs w)
def Rf:Code->Bool
|.seq a b=>bc (Rf a) aw (Rf b)
|.cond _ a b=>bc (Rf a) aw (Rf b)
|.block _ a=>Rf a
|.loop a=>Rf a
|.rangeFunc ..=>aw
|_=>au
def mkB (ro:Option Nat)(c:Code):Bool:=match ro with|none=>Rf c|some _=>au
structure oY (w:ao) (F:(ao->Prop)->Prop):Prop where
 mk ::
 out:∃C:ao->Prop,C w.drew∧F C
def Of (Q:Ex)(K:Nx):Ex
|.normal,σ,ds,w=>K σ ds w
|e,σ,ds,w=>Q e σ ds w
def acW (id:Nat)(Q:Ex):Ex
|.exit j,σ,ds,w=>bc (Nat.beq j id) (Q .normal σ ds w) (Q (.exit j) σ ds w)
|e,σ,ds,w=>Q e σ ds w
def NR (w:ao)(b:Nat)(o:Obj):World:={ w with heap:=w.heap.setIfInBounds b o }
def lp (L0:Loop)(st:LoopState)(pd:Option Code):Obj:=.loop { L0 with state:=st,pending:=pd }
def RetV (R:VWP):Ending->ao->Prop:=λe w'=>∃v,e=.returned v∧R v w'
def Yld (P:Program)(l:Nat)(args:List aq)(W:ao)(R:VWP):Prop:=
 ∃fn tmps a b,(Instr.yield l args.toArray).run P W=.ok (.round l fn tmps a b) W∧RoundIn Fence.wide 0 P l fn tmps a b W (RetV R)
structure BegX (P:Program) (l:Nat) (W:ao) (K:ao->Prop):Prop where
 mk ::
 out:∃w2,(Instr.beginRound l).run P W=.ok () w2∧K w2
structure EndX (P:Program) (l:Nat) (j:Option Code) (W:ao) (R:VWP):Prop where
 mk ::
 out:∃v w',(Instr.endRound l j).run P W=.ok v w'∧R v w'
def LayR (w:ao):Option Nat->Nat->ao->Prop
|none,df,w0=>df=w.heap.size∧w0=w.alloc (.deferred (ay []))
|some b,df,w0=>∃a,w.heap[b]?=ay (.loop a)∧df=a.defers∧w0=w
structure RangeX (P:Program) (ro:Option Nat) (np:Nat) (gv:aq) (w:ao) (B:Nat->List aq->ao->(VWP)->Prop) (js:List (Option Code×(Nat->ao->Prop))):Prop where
 mk ::
 out:∃f fa ca df w0,gv=.func (.func f) fa ca∧cW P f=aw∧LayR w ro df w0∧∀L0:Loop,L0.defers=df ->
  (∀l args W R,W.heap[l]?=ay (lp L0 .ready ax)->args.length=np->B l args W R->Yld P l args W R) ->
  Calls P f (fa++#[.func (.yield w0.heap.size) #[] #[]]++ca) (w0.alloc (lp L0 .ready ax)) λe w3=>
   ∃v st pd k,e=.returned v∧st≠.busy∧w3.heap[w0.heap.size]?=ay (lp L0 st pd)∧(pd,k)∈js∧k df (NR w3 w0.heap.size (lp L0 .exhausted pd))
def putL:List Nat->List aq->Nat->Sg->Sg
|[],_,_,σ=>σ
|p::ps,args,k,σ=>putL ps args (k+1) (upd σ p (args.getD k undef))
def RY (n:Nat):List Nat->Bool
|[]=>aw
|p::ps=>bc (Nat.blt p n) (RY n ps) au
def mkD (r:Nat):Deferred:={ target:=.collected r,args:=#[] }
def UN:Option Nat->Nat->List Deferred->List Deferred
|none,r,ds=>mkD r::ds
|some _,_,ds=>ds
def exJ (K:Nat->Nat->ao->Prop):List Nat->List (Option Code×(Nat->ao->Prop))
|[]=>[]
|i::l=>(ay (.exit i),K i)::exJ K l
def jsX (b:Code)(K:Exit->Nat->ao->Prop):List (Option Code×(Nat->ao->Prop)):=
 (ax,K .normal)::bc (jr b) ((ay .ret,K .ret)::exJ (λi=>K (.exit i)) (jx b)) (exJ (λi=>K (.exit i)) (jx b))
def begQ (K:Sg->ao->Prop):Ex
|.normal,σ,[],w=>K σ w
|_,_,_,_=>False
def rndQ (P:Program)(l:Nat)(R:VWP):Ex
|.normal,_,_,w=>EndX P l ax w R
|.ret,_,_,w=>EndX P l (ay .ret) w R
|.exit i,_,_,w=>EndX P l (ay (.exit i)) w R
|_,_,_,_=>False
structure PDo (P:Program) (m:Sem Next) (K:aq->Prop):Prop where
 mk ::
 out:∃v,(∀w,m.run P w=.ok (.value v) w)∧K v
def opP (P:Program)(o:Oper)(σ:Sg)(K:aq->Prop):Prop:=
 match o.op with
|.move x|.assign x=>K (rd σ x)
|_=>PDo P (CQ (rd σ) o) K
def Kc (P:Program)(n:Nat):List (Nat×Oper)->(Sg->Prop)->Sg->Prop
|[],K,σ=>K σ
|p::r,K,σ=>bc (inB n p.2.dst) (bc p.2.guard.isNone (opP P p.2 σ (λv=>Kc P n r K (put σ p.2.dst v))) False) False
def Hs:List Oper->Nat->List (Nat×Oper)
|[],_=>[]
|o::l,k=>(k,o)::Hs l (k+1)
def OU:List Edge->List Nat
|[]=>[]
|e::l=>bc (Region.binds .any e) (e.on::OU l) (OU l)
def goDn:List (Nat×Oper)->List Nat->List Nat
|[],S=>S
|p::r,S=>goDn r (bc (GI p.1 S) (OU p.2.after.toList++S) S)
def outL (S:List Nat):List (Nat×Oper)->List Nat
|[]=>[]
|p::r=>bc (GI p.1 S) (outL S r) (p.1::outL S r)
def aqB:List Oper->List Nat
|[]=>[]
|o::_=>OU o.after.toList
def apQ (ops:List Oper)(n:Nat):List Nat:=
 goDn (Hs (ops.take n) 0).reverse (outL (goDn (Hs (ops.take n) 0).reverse (aqB (ops.drop n))) (Hs (ops.take n) 0))
def selL (S:List Nat):List (Nat×Oper)->List (Nat×Oper)
|[]=>[]
|p::r=>bc (GI p.1 S) (p::selL S r) (selL S r)
def Jj (S:List Nat):List (Nat×Oper)->List (Nat×Oper)
|[]=>[]
|p::r=>bc (GI p.1 S) (Jj S r) (p::Jj S r)
def pL (ops:List Oper)(n:Nat):List (Nat×Oper):=selL (apQ ops n) (Hs (ops.take n) 0)
def hL (ops:List Oper)(n:Nat):List (Nat×Oper):=Jj (apQ ops n) (Hs (ops.take n) 0)
def HG (P:Program)(n:Nat)(ops:Array Oper)(Q:Ex)(σ:Sg)(ds:List Deferred)(w:ao):Prop:=
 bc (P.follows .mixedOrders&&sX ops.toList)
  (DrawX w (λw=>Ny P n ops (λσ ds w=>Q .normal σ ds w) (λc σ ds w=>Q (.panic c) σ ds w) ops.size (Array.replicate ops.size au) σ ds w))
  False
structure HDo (P:Program) (S:ao->Prop) (m:Sem Next) (K:aq->Prop):Prop where
 mk ::
 out:∃v,(∀w,S w->m.run P w=.ok (.value v) w)∧K v
structure Ay (w:ao) (F:(ao->Prop)->ao->Prop):Prop where
 mk ::
 out:∃S:ao->Prop,S { w with drawn:=w.drawn+1 }∧F S { w with drawn:=w.drawn+1 }
def opH (P:Program)(S:ao->Prop)(o:Oper)(σ:Sg)(K:aq->Prop):Prop:=
 match o.op with
|.move x|.assign x=>K (rd σ x)
|_=>HDo P S (CQ (rd σ) o) K
def Q9 (P:Program)(n:Nat)(ops:Array Oper)(S:ao->Prop)(o:Oper)(σ:Sg)(next:Sg->Prop):Prop:=
 bc (inB n o.dst)
  (match o.guard with
 |none=>opH P S o σ (λv=>next (put σ o.dst v))
 |some (j,want)=>
   match KO ops j with
  |some d=>bc (Nat.blt d n) (GQ (σ d) want (λK'=>opH P S o σ K') (λv=>next (put σ o.dst v))) False
  |none=>False)
  False
def WN (o:Oper):Bool:=
 match o.op with
|.call { callee:=.builtin _,.. }=>au
|.call _=>aw
|_=>au
def meets:List Nat->List Nat->Bool
|[],_=>au
|i::l,S=>bc (GI i S) aw (meets l S)
def tI:List Operand->List Nat
|[]=>[]
|.tmp t::l=>t::tI l
|_::l=>tI l
def optL:Option Operand->List Operand
|none=>[]
|some x=>[x]
def sndL:List (Nat×Operand)->List Operand
|[]=>[]
|p::l=>p.2::sndL l
def acY:Op->List Nat
|.move x=>tI [x]
|.assign x=>tI [x]
|.load _ x=>tI [x]
|.nilCheck x=>tI [x]
|.unOp _ _ x=>tI [x]
|.convert _ _ x=>tI [x]
|.makeInterface _ x=>tI [x]
|.fieldAddr _ x _=>tI [x]
|.field _ x _=>tI [x]
|.entry x=>tI [x]
|.typeAssert x _ _ _=>tI [x]
|.extract x _=>tI [x]
|.pick c a b=>tI [c,a,b]
|.build _ ps=>tI (sndL ps.toList)
|.binOp _ _ a b _=>tI [a,b]
|.indexAddr _ a b=>tI [a,b]
|.index _ a b=>tI [a,b]
|.lookup _ a b _=>tI [a,b]
|.slice _ x l h m=>tI (x::optL l++optL h++optL m)
|.call c=>tI c.args.toList
|_=>[]
def DW (P:Program)(o:Oper):Bool:=
 match o.op with
|.move _=>aw
|.assign _=>aw
|.nilCheck _=>aw
|.unOp _ _ _=>aw
|.makeInterface _ _=>aw
|.fieldAddr _ _ _=>aw
|.field _ _ _=>aw
|.extract _ _=>aw
|.pick _ _ _=>aw
|.build _ _=>aw
|.binOp _ _ _ _ _=>aw
|.indexAddr _ _ _=>aw
|.index _ _ _=>aw
|.slice _ _ _ _ _=>aw
|.convert s _ _=>match P.underlying s with|some (.slice _)=>au|_=>aw
|.call { callee:=.builtin .len,.. }=>aw
|.call { callee:=.builtin .cap,.. }=>aw
|.call { callee:=.builtin .min,.. }=>aw
|.call { callee:=.builtin .max,.. }=>aw
|_=>au
def ptrT (P:Program)(t:Nat):Bool:=match P.underlying t with|some (.pointer _)=>aw|_=>au
def ahB (P:Program)(o:Oper):Bool:=
 bc (adS P o) aw
  (match o.op with
 |.call c=>bc (WN o) (c.argTypes.toList.any (ptrT P)) au
 |_=>au)
def dstL:Option Nat->List Nat
|none=>[]
|some d=>[d]
def aqI (o:Oper):Bool:=
 match o.op with
|.alloc _=>aw
|.box ..=>aw
|.buildSlice ..=>aw
|_=>au
def eL2 (P:Program)(m:Bool):List Oper->Nat->List Nat->List Nat->List Nat->List Nat
|[],_,_,_,S=>S
|o::l,k,T,W,S=>
  bc (anV P o||WN o)
   (eL2 P m l (k+1) (dstL o.dst++T) (bc (bc (m&&aqI o) au (ahB P o)||meets (OU o.after.toList) W) (k::W) W) (k::S))
   (eL2 P m l (k+1) (bc (meets (acY o.op) T) (dstL o.dst++T) T) (bc (meets (OU o.after.toList) W) (k::W) W)
    (bc (!(DW P o)&&(meets (acY o.op) T||meets (OU o.after.toList) W)) (k::S) S))
def eL (P:Program)(l:List Oper)(k:Nat)(S:List Nat):List Nat:=eL2 P (Nat.blt 70 l.length) l k [] [] S
def MR (ops:Array Oper)(E:List Nat)(listed:Array Bool):List Nat->Option Nat
|[]=>ax
|i::l=>bc (!(GI i E)&&Region.free .any ops listed i) (ay i) (MR ops E listed l)
def isSt (o:Oper):Bool:=
 match o.op with
|.store ..=>aw
|_=>au
def XN:List Oper->Bool
|[]=>au
|o::l=>bc (isSt o) aw (XN l)
def isLk (o:Oper):Bool:=
 match o.op with
|.lookup ..=>aw
|_=>au
def aoW:List Oper->Bool
|[]=>au
|o::l=>bc (isLk o) aw (aoW l)
def isMu (o:Oper):Bool:=
 match o.op with
|.mapUpdate ..=>aw
|_=>au
def apP:List Oper->Bool
|[]=>au
|o::l=>bc (isMu o) aw (apP l)
def R9 (l:List Oper):Bool:=bc (XN l) aw (bc (aoW l) (apP l) au)
def aaF (P:Program)(E A:List Nat):List (Nat×Oper)->Bool
|[]=>au
|p::r=>bc (GI p.1 E||(DW P p.2||GI p.1 A)) (aaF P E A r) aw
def Ox (P:Program)(ops:Array Oper)(E:List Nat)(o:Oper):Bool:=bc (R9 ops.toList) (aaF P E (OU o.after.toList) (Hs ops.toList 0)) aw
def ZV (P:Program)(ops:Array Oper)(S:ao->Prop)(o:Oper):ao->Prop:=bc (R9 ops.toList&&DW P o) (λ_=>True) S
def AL (P:Program)(n:Nat)(ops:Array Oper)(E:List Nat)(S:ao->Prop)(K:Nx)(PK:List PanicEntry->Nx):Nat->Array Bool->Sg->List Deferred->ao->Prop
|0,listed,σ,ds,w=>bc (isNil (Region.ready .any ops listed)) (K σ ds w) False
|f+1,listed,σ,ds,w=>
  bc (isNil (Region.ready .any ops listed)) (K σ ds w)
   (match MR ops E listed (Region.ready .any ops listed) with
  |some i=>(match ops[i]? with
   |none=>False
   |some o=>Q9 P n ops (ZV P ops S o) o σ (λσ'=>AL P n ops E S K PK f (listed.setIfInBounds i aw) σ' ds w))
  |none=>andL ((Region.ready .any ops listed).map λi=>match ops[i]? with
   |none=>False
   |some o=>Qm P n ops o σ w (λσ' w'=>bc (Ox P ops E o) (S w'∧AL P n ops E S K PK f (listed.setIfInBounds i aw) σ' ds w') (AL P n ops E S K PK f (listed.setIfInBounds i aw) σ' ds w')) (λc w=>PK c σ ds w)))
def Wx (P:Program)(n:Nat)(ops:Array Oper):Bool:=
 Nat.blt 5 ops.size&&(P.follows .mixedOrders&&(Region.noSelect ops&&(Kl n (Jj (eL P ops.toList 0 []) (Hs ops.toList 0))&&(XT P ops.toList&&sX ops.toList))))
def Dp (P:Program)(n:Nat)(ops:Array Oper)(Q:Ex)(σ:Sg)(ds:List Deferred)(w:ao):Prop:=
 bc (Wx P n ops)
  (Ay w (λS w=>AL P n ops (eL P ops.toList 0 []) S (λσ ds w=>Q .normal σ ds w) (λc=>pmX (Jj (eL P ops.toList 0 []) (Hs ops.toList 0)) (λσ ds w=>Q (.panic c) σ ds w)) ops.size (Array.replicate ops.size au) σ ds w))
  (HG P n ops Q σ ds w)
def cntO (p:Oper->Bool):List Oper->Nat
|[]=>0
|o::l=>bc (p o) (cntO p l+1) (cntO p l)
def isIA (o:Oper):Bool:=
 match o.op with
|.indexAddr ..=>aw
|_=>au
def ajF (o:Oper):Bool:=
 match o.op with
|.call { callee:=.value (.func _),args,.. }=>Nat.beq args.size 3
|_=>au
def abH (l:List Oper):Bool:=Nat.beq (cntO ajF l) 1&&(Nat.beq (cntO WN l) 1&&(Nat.beq (cntO isIA l) 2&&!(XN l)))
def ND (P:Program)(n:Nat)(ops:Array Oper):Bool:=Wx P n ops&&abH ops.toList
def ZQ (P:Program):List (Nat×Oper)->Bool
|[]=>aw
|p::r=>bc (DW P p.2) (ZQ P r) au
def Lt (P:Program)(n:Nat)(ops:Array Oper)(Q:Ex)(σ:Sg)(ds:List Deferred)(w:ao):Prop:=
 bc ((Nat.blt 9 ops.size&&ZQ P (pL ops.toList (bD P ops.toList)))&&(P.follows .mixedOrders&&(To ops (bD P ops.toList) (pL ops.toList (bD P ops.toList)) (hL ops.toList (bD P ops.toList))&&(Kl n (pL ops.toList (bD P ops.toList))&&(IX P (ops.toList.drop (bD P ops.toList))&&sX ops.toList)))))
  (oY w (λC=>Kc P n (pL ops.toList (bD P ops.toList)) (λσ=>pE P n ops C (λσ=>∀w',C w'->ET P ax n ops (λσ ds w=>Q .normal σ ds w) (λc=>pmX (pL ops.toList (bD P ops.toList)) (λσ ds w=>Q (.panic c) σ ds w)) (ops.toList.drop (bD P ops.toList)) σ ds w')
   (snds (hL ops.toList (bD P ops.toList))) σ) σ))
  (Dp P n ops Q σ ds w)
def wpX (P:Program)(n:Nat)(aj d:List (Nat×List Nat)):Option Nat->Code->Ex->Sg->List Deferred->ao->Prop
|ro,.skip,Q,σ,ds,w=>Q .normal σ ds w
|ro,.region _ ops draw,Q,σ,ds,w=>
  bc draw
   (bc (ND P n ops) (Dp P n ops Q σ ds w)
   (bc (Nat.beq (bD P ops.toList) ops.toList.length)
    (bc (P.follows .mixedOrders&&(Region.lexB .any ops&&sX ops.toList))
     (oY w (λC=>pE P n ops C (λσ=>∀w',C w'->Q .normal σ ds w') ops.toList σ))
     (Lt P n ops Q σ ds w))
    (bc (P.follows .mixedOrders&&(Region.lexTailB .any ops (bD P ops.toList)&&(IX P (ops.toList.drop (bD P ops.toList))&&sX ops.toList)))
     (oY w (λC=>pE P n ops C (λσ=>∀w',C w'->ET P ax n ops (λσ ds w=>Q .normal σ ds w) (λc σ ds w=>Q (.panic c) σ ds w) (ops.toList.drop (bD P ops.toList)) σ ds w') (ops.toList.take (bD P ops.toList)) σ))
     (bc (P.follows .mixedOrders&&(O7 ops (bD P ops.toList) (mvL (ops.toList.take (bD P ops.toList)) 0 []) (hdL (ops.toList.take (bD P ops.toList)) 0 [])&&(Kl n (mvL (ops.toList.take (bD P ops.toList)) 0 [])&&(IX P (ops.toList.drop (bD P ops.toList))&&sX ops.toList))))
      (oY w (λC=>pE P n ops C (λσ=>∀w',C w'->ET P ax n ops (λσ ds w=>Q .normal σ ds w) (λc=>pmX (mvL (ops.toList.take (bD P ops.toList)) 0 []) (λσ ds w=>Q (.panic c) σ ds w)) (ops.toList.drop (bD P ops.toList)) σ ds w')
       (snds (hdL (ops.toList.take (bD P ops.toList)) 0 [])) (Uy (mvL (ops.toList.take (bD P ops.toList)) 0 []) σ)))
      (Lt P n ops Q σ ds w)))))
   (ET P ro n ops (λσ ds w=>Q .normal σ ds w) (λc σ ds w=>Q (.panic c) σ ds w) ops.toList σ ds w)
|ro,.seq a b,Q,σ,ds,w=>
  bc (Nat.ble (ways a) 1) (wpX P n aj d ro a (Of Q (λσ ds w=>wpX P n aj d ro b Q σ ds w)) σ ds w)
   (bc (mkB ro a)
    (JoinD (λJ=>wpX P n aj d ro a (Of Q (λσ' ds' w'=>J ds' (pick (look (keyOf b) aj) σ') w')) σ ds w)
     (λds' vs w'=>∀j,wpX P n aj d ro b Q (mix σ (asg a) (look (keyOf b) aj) vs j) ds' w'))
    (Fq (λJ=>wpX P n aj d ro a (Of Q (λσ' ds' w'=>AtX ds' ds (J (pick (look (keyOf b) aj) σ') w'))) σ ds w)
     (λvs w'=>∀j,wpX P n aj d ro b Q (mix σ (asg a) (look (keyOf b) aj) vs j) ds w')))
|ro,.cond c a b,Q,σ,ds,w=>IfX (rd σ c) (wpX P n aj d ro a Q σ ds w) (wpX P n aj d ro b Q σ ds w)
|ro,.block id a,Q,σ,ds,w=>wpX P n aj d ro a (acW id Q) σ ds w
|ro,.loop a,Q,σ,ds,w=>
  bc (mkB ro a)
   (LoopD ds (pick (look (keyOf a) d) σ) w (λds vs w next=>∀j,wpX P n aj d ro a (Of Q (λσ' ds' w'=>next ds' (pick (look (keyOf a) d) σ') w')) (mix σ (asg a) (look (keyOf a) d) vs j) ds w))
   (Es (pick (look (keyOf a) d) σ) w (λvs w next=>∀j,wpX P n aj d ro a (Of Q (λσ' ds' w'=>AtX ds' ds (next (pick (look (keyOf a) d) σ') w'))) (mix σ (asg a) (look (keyOf a) d) vs j) ds w))
|ro,.exit id,Q,σ,ds,w=>Q (.exit id) σ ds w
|ro,.ret,Q,σ,ds,w=>Q .ret σ ds w
|ro,.rangeFunc g ps f b,Q,σ,ds,w=>
  bc (RY n ps.toList)
   (RangeX P ro ps.toList.length (rd σ g) w
    (λl args W R=>wpX P n aj d (ay l) f (begQ (λσ1 h=>BegX P l h (λi=>wpX P n aj d (ay l) b (rndQ P l R) σ1 [] i))) (putL ps.toList args 0 σ) [] W)
    (jsX b (λe r W=>Q e σ (UN ro r ds) W)))
   False
|_,_,_,_,_,_=>False
end Eng
end
section
namespace Eng
open Go.RowKit
theorem beq_iff {a:Nat}:Nat.beq a b=aw↔a=b:=by rw[Nat.beq_eq]
theorem mem_iff {i:Nat}:∀{l:List Nat},mem i l=aw↔i∈l
|[]=>by simp[mem]
|j::l=>by simp[mem,mem_iff (l:=l),beq_iff]
def Off (A:List Nat)(σ σ':Sg):Prop:=∀i,mem i A=au->σ' i=σ i
theorem Off.refl (A:List Nat)(σ:Sg):Off A σ σ:=λ_ _=>rfl
theorem Off.trans {A:List Nat}{a b c:Sg}(h:Off A a b)(k:Off A b c):Off A a c:=λi hi=>(k i hi).trans (h i hi)
theorem Off.mono {A:List Nat}{a b:Sg}(h:Off A a b)(c:∀i,i∈A->i∈B):Off B a b:=λi hi=>h i (by
 cases hm:mem i A with
|false=>rfl
|true=>
  have:=mem_iff.2 (c i (mem_iff.1 hm));rw[this] at hi;cases hi)
theorem Off.put {A:List Nat}(σ:Sg)(d:Option Nat)(v:aq)(h:∀i,d=ay i->i∈A):Off A σ (put σ d v):=by
 intro i hi;cases d with
|none=>rfl
|some d=>
  simp only[Eng.put,upd];cases a:Nat.beq i d with
 |false=>rfl
 |true=>
   have e:=beq_iff.1 a;subst e;rw[mem_iff.2 (h i rfl)] at hi;cases hi
theorem He.mono {K K':VWP}{PK a:PKT}(h:∀v w,K v w->K' v w)(hp:∀c w,PK c w->a c w):∀e w,He K PK e w->He K' a e w
|.returned v,w=>h v w
|.panicked c,w=>hp c w
|.outgrown,_=>id
theorem Nw.mono {P:Program}{r:Result Next}{K K':VWP}{PK a:PKT}(h:∀v w,K v w->K' v w)(hp:∀c w,PK c w->a c w)(hu:Nw P r K PK):Nw P r K' a:=by
 unfold Nw at *;split at hu
 ·exact h _ _ hu
 ·exact h _ _ hu
 ·exact⟨Calls.mono hu.out (He.mono h hp)⟩
 ·exact⟨RoundIn.mono hu.out (He.mono h hp)⟩
 ·exact hp _ _ hu
 ·exact hu.elim
theorem opV.mono {P:Program}{o:Oper}{σ:Sg}{w:ao}{K K':VWP}{PK a:PKT}(h:∀v w,K v w->K' v w)(hp:∀c w,PK c w->a c w)(hu:opV P o σ w K PK):opV P o σ w K' a:=by
 unfold opV at *;split at hu
 ·exact h _ _ hu
 ·exact h _ _ hu
 ·cases b:cW P _ with
 |true=>rw[b,aG] at hu;rw[aG];exact⟨Calls.mono hu.out (He.mono h hp)⟩
 |false=>rw[b,aF] at hu;rw[aF];exact⟨Nw.mono h hp hu.out⟩
 ·exact hu.elim
 ·exact⟨Nw.mono h hp hu.out⟩
theorem ET.eP {n:Nat}{K K':Nx}{PK f:List PanicEntry->Nx}{A:List Nat}{σ₀:Sg}
  (h:∀σ ds w,Off A σ₀ σ->K σ ds w->K' σ ds w) (hp:∀c σ ds w,Off A σ₀ σ->PK c σ ds w->f c σ ds w) :
  ∀(l:List Oper) (σ:Sg) (ds:List Deferred) (w:ao),(∀i,i∈I9 l->i∈A)->Off A σ₀ σ->ET P ro n ops K PK l σ ds w->ET P ro n ops K' f l σ ds w:=by
 intro l
 induction l with
|nil=>intro σ ds w _ g hu;exact h _ _ _ g hu
|cons o rest k=>
  intro σ ds w r g hu;have b:∀i,i∈I9 rest->i∈A:=λi hi=>r i (by unfold I9;split<;>simp[hi]);have a:∀v,Off A σ₀ (put σ o.dst v):=λv=>g.trans (Off.put σ o.dst v (λi hi=>r i (by simp[I9,hi])));unfold ET at hu ⊢;cases s:inB n o.dst with
 |false=>rw[s,aF] at hu;exact hu.elim
 |true=>
   rw[s,aG] at hu;rw[aG];cases t:o.guard with
  |none=>
    simp only[t] at hu ⊢;split at hu
    ·rename_i c y
     cases ro with
    |some _=>exact hu.elim
    |none=>
     simp only at hu ⊢;split at hu
     ·exact k _ _ _ b (a _) hu
     ·obtain⟨d,q,hu⟩:=hu.out;exact⟨d,q,k _ _ _ b (a _) hu⟩
    ·rename_i u
     exact opV.mono (λv w e=>k _ _ _ b (a v) e) (λc w e=>hp c σ ds w g e) hu
  |some x=>
    obtain⟨j,want⟩:=x;simp only[t] at hu ⊢;split at hu
    ·rename_i d z
     cases m:Nat.blt d n with
    |false=>rw[m,aF] at hu;exact hu.elim
    |true=>
      rw[m,aG] at hu;rw[aG];refine⟨?_⟩
      replace hu:=hu.out
      cases p:lK (σ d) want with
     |true=>rw[p,aG] at hu;rw[aG];exact opV.mono (λv w e=>k _ _ _ b (a v) e) (λc w e=>hp c σ ds w g e) hu
     |false=>rw[p,aF] at hu;rw[aF];exact k _ _ _ b (a _) hu
    ·exact hu.elim
theorem O8.mono {P:Program}{n:Nat}{ops:Array Oper}{o:Oper}{σ:Sg}{w:ao}{K K':Sg->ao->Prop}{PK a:PKT}(h:∀v w,K (put σ o.dst v) w->K' (put σ o.dst v) w)(hp:∀c w,PK c w->a c w)(hu:O8 P n ops o σ w K PK):O8 P n ops o σ w K' a:=by
 unfold O8 at hu ⊢;cases f:inB n o.dst with
|false=>rw[f,aF] at hu;exact hu.elim
|true=>
  rw[f,aG] at hu;rw[aG];cases g:o.guard with
 |none=>simp only[g] at hu ⊢;exact opV.mono h hp hu
 |some i=>
   obtain⟨j,want⟩:=i;simp only[g] at hu ⊢;split at hu
   ·rename_i d k
    cases b:Nat.blt d n with
   |false=>rw[b,aF] at hu;exact hu.elim
   |true=>
     rw[b,aG] at hu;rw[aG];refine⟨?_⟩
     replace hu:=hu.out
     cases e:lK (σ d) want with
    |true=>rw[e,aG] at hu;rw[aG];exact opV.mono h hp hu
    |false=>rw[e,aF] at hu;rw[aF];exact h _ _ hu
   ·exact hu.elim
theorem opW.mono {P:Program}{o:Oper}{σ:Sg}{w:ao}{K K':VWP}{PK a:PKT}(h:∀v w,K v w->K' v w)(hp:∀c w,PK c w->a c w)(hu:opW P o σ w K PK):opW P o σ w K' a:=by
 unfold opW at *;split at hu
 ·exact opV.mono h hp hu
 ·obtain⟨f,fa,ca,b,d,e⟩:=hu.out;exact⟨f,fa,ca,b,d,⟨Calls.mono e.out (He.mono h hp)⟩⟩
 ·exact opV.mono h hp hu
theorem Qm.mono {P:Program}{n:Nat}{ops:Array Oper}{o:Oper}{σ:Sg}{w:ao}{K K':Sg->ao->Prop}{PK a:PKT}(h:∀v w,K (put σ o.dst v) w->K' (put σ o.dst v) w)(hp:∀c w,PK c w->a c w)(hu:Qm P n ops o σ w K PK):Qm P n ops o σ w K' a:=by
 unfold Qm at hu ⊢;cases f:inB n o.dst with
|false=>rw[f,aF] at hu;exact hu.elim
|true=>
  rw[f,aG] at hu;rw[aG];cases g:o.guard with
 |none=>simp only[g] at hu ⊢;exact opW.mono h hp hu
 |some i=>
   obtain⟨j,want⟩:=i;simp only[g] at hu ⊢;split at hu
   ·rename_i d k
    cases b:Nat.blt d n with
   |false=>rw[b,aF] at hu;exact hu.elim
   |true=>
     rw[b,aG] at hu;rw[aG];refine⟨?_⟩
     replace hu:=hu.out
     cases e:lK (σ d) want with
    |true=>rw[e,aG] at hu;rw[aG];exact opW.mono h hp hu
    |false=>rw[e,aF] at hu;rw[aF];exact h _ _ hu
   ·exact hu.elim
theorem Ny.eP {P:Program}{n:Nat}{ops:Array Oper}{K K':Nx}{PK b:List PanicEntry->Nx}{A:List Nat}{σ₀:Sg}(m:∀o,o∈ops.toList->∀i,o.dst=ay i->i∈A)
  (h:∀σ ds w,Off A σ₀ σ->K σ ds w->K' σ ds w) (hp:∀c σ ds w,Off A σ₀ σ->PK c σ ds w->b c σ ds w) :
  ∀(fuel:Nat) (listed:Array Bool) (σ:Sg) (ds:List Deferred) (w:ao),Off A σ₀ σ->Ny P n ops K PK fuel listed σ ds w->Ny P n ops K' b fuel listed σ ds w
|0,listed,σ,ds,w,d,hu=>by
  unfold Ny at hu ⊢;cases e:isNil (Region.ready .any ops listed) with
 |false=>rw[e,aF] at hu;exact hu.elim
 |true=>rw[e,aG] at hu;rw[aG];exact h _ _ _ d hu
|f+1,listed,σ,ds,w,d,hu=>by
  unfold Ny at hu ⊢;cases e:isNil (Region.ready .any ops listed) with
 |true=>rw[e,aG] at hu;rw[aG];exact h _ _ _ d hu
 |false=>
   rw[e,aF] at hu;rw[aF];refine R4 λp j=>?_;obtain⟨i,hi,rfl⟩:=avN.1 j;have k:=Gq hu _ (avN.2 ⟨i,hi,rfl⟩);cases a:ops[i]? with
  |none=>simp only[a] at k
  |some o=>
    simp only[a] at k ⊢;have g:o∈ops.toList:=by
     have:=aAg a;simpa using this
    exact O8.mono (λv w l=>Ny.eP m h hp f _ _ ds w (d.trans (Off.put σ o.dst v (λi hi=>m o g i hi))) l) (λc w l=>hp c σ ds w d l) k
theorem opQ.mono {o:Oper}{σ:Sg}{K K':aq->Prop}(h:∀v,K v->K' v)(hu:opQ P C o σ K):opQ P C o σ K':=by
 unfold opQ at *;split at hu
 ·exact h _ hu
 ·exact h _ hu
 ·cases c:cW P _ with
 |true=>rw[c,aG] at hu;rw[aG];exact let ⟨v,a,b⟩:=hu.out;⟨v,a,h _ b⟩
 |false=>rw[c,aF] at hu;rw[aF];exact let ⟨v,a,b⟩:=hu.out;⟨v,a,h _ b⟩
 ·exact let ⟨v,a,b⟩:=hu.out;⟨v,a,h _ b⟩
theorem pE.eP {n:Nat}{K K':Sg->Prop}{A:List Nat}{σ₀:Sg}
  (h:∀σ,Off A σ₀ σ->K σ->K' σ) :
  ∀(l:List Oper) (σ:Sg),(∀i,i∈I9 l->i∈A)->Off A σ₀ σ->pE P n ops C K l σ->pE P n ops C K' l σ:=by
 intro l
 induction l with
|nil=>intro σ _ f hu;exact h _ f hu
|cons o rest g=>
  intro σ m f hu;have b:∀i,i∈I9 rest->i∈A:=λi hi=>m i (by unfold I9;split<;>simp[hi]);have a:∀v,Off A σ₀ (put σ o.dst v):=λv=>f.trans (Off.put σ o.dst v (λi hi=>m i (by simp[I9,hi])));unfold pE at hu ⊢;cases p:inB n o.dst with
 |false=>rw[p,aF] at hu;exact hu.elim
 |true=>
   rw[p,aG] at hu;rw[aG];cases q:o.guard with
  |none=>
    simp only[q] at hu ⊢;exact opQ.mono (λv k=>g _ b (a v) k) hu
  |some r=>
    obtain⟨j,want⟩:=r;simp only[q] at hu ⊢;split at hu
    ·rename_i d s
     cases c:Nat.blt d n with
    |false=>rw[c,aF] at hu;exact hu.elim
    |true=>
      rw[c,aG] at hu;rw[aG];refine⟨?_⟩
      replace hu:=hu.out
      cases e:lK (σ d) want with
     |true=>rw[e,aG] at hu;rw[aG];exact opQ.mono (λv k=>g _ b (a v) k) hu
     |false=>rw[e,aF] at hu;rw[aF];exact g _ b (a _) hu
    ·exact hu.elim
theorem opP.mono {o:Oper}{σ:Sg}{K K':aq->Prop}(h:∀v,K v->K' v)(hu:opP P o σ K):opP P o σ K':=by
 unfold opP at hu ⊢;split at hu
 ·exact h _ hu
 ·exact h _ hu
 ·obtain⟨v,a,b⟩:=hu.out;exact⟨v,a,h _ b⟩
theorem Kc.eP {P:Program}{n:Nat}{K K':Sg->Prop}{A:List Nat}{σ₀:Sg}(h:∀σ,Off A σ₀ σ->K σ->K' σ):∀(l:List (Nat×Oper)) (σ:Sg),(∀p,p∈l->∀i,p.2.dst=ay i->i∈A)->Off A σ₀ σ->Kc P n l K σ->Kc P n l K' σ
|[],σ,_,a,hu=>h σ a hu
|p::r,σ,b,a,hu=>by
  unfold Kc at hu ⊢;cases c:inB n p.2.dst with
 |false=>rw[c,aF] at hu;exact hu.elim
 |true=>
   rw[c,aG] at hu;rw[aG];cases d:p.2.guard.isNone with
  |false=>rw[d,aF] at hu;exact hu.elim
  |true=>
    rw[d,aG] at hu;rw[aG];exact hu.mono λv e=>Kc.eP h r _ (λq f=>b q (auZ _ f)) (a.trans (Off.put σ p.2.dst v (b p (avQ ..)))) e
theorem HG.eP {P:Program}{n:Nat}{ops:Array Oper}{Q Q':Ex}{A:List Nat}{σ₀ σ:Sg}{ds:List Deferred}{w:ao}(f:∀o,o∈ops.toList->∀i,o.dst=ay i->i∈A)
  (h:∀e σ ds w,Off A σ₀ σ->Q e σ ds w->Q' e σ ds w) (a:Off A σ₀ σ) (hu:HG P n ops Q σ ds w):HG P n ops Q' σ ds w:=by
 unfold HG at hu ⊢;cases d:(P.follows .mixedOrders&&sX ops.toList) with
|false=>rw[d,aF] at hu;exact hu.elim
|true=>
  rw[d,aG] at hu;rw[aG];refine⟨?_⟩
  replace hu:=hu.out
  exact Ny.eP f (λσ ds w a b=>h _ _ _ _ a b) (λc σ ds w a b=>h _ _ _ _ a b) _ _ _ _ _ a hu
theorem jO {i:Nat}:∀{l:List Oper},i∈I9 l↔∃o,o∈l∧o.dst=ay i
|[]=>by simp[I9]
|o::l=>by
  unfold I9;split
  ·rename_i d c
   simp only[auI,jO (l:=l)];constructor
   ·rintro (rfl|⟨o',b,a⟩)
    ·exact⟨o,.inl rfl,c⟩
    ·exact⟨o',.inr b,a⟩
   ·rintro⟨o',rfl|b,a⟩
    ·rw[c] at a;cases a;exact .inl rfl
    ·exact .inr ⟨o',b,a⟩
  ·rename_i c
   simp only[auI,jO (l:=l)];constructor
   ·rintro⟨o',b,a⟩;exact⟨o',.inr b,a⟩
   ·rintro⟨o',rfl|b,a⟩
    ·rw[c] at a;cases a
    ·exact⟨o',b,a⟩
theorem VY (l:List Oper):∀(k:Nat) (ms:List Nat) (p:Nat×Oper),p∈mvL l k ms->k<=p.1∧l[p.1 - k]?=ay p.2:=by
 induction l with
|nil=>intro k ms p h;cases h
|cons o l b=>
  intro k ms p h;unfold mvL at h;cases c:(isMv o&&Oh ms o) with
 |true=>
   rw[c,aG] at h;rcases auI.1 h with rfl|h
   ·exact⟨auL _,sm⟩
   ·obtain⟨d,a⟩:=b (k+1) _ p h;refine⟨om,?_⟩;rw[show p.1 - k=(p.1 - (k+1))+1 by omega];exact a
 |false=>
   rw[c,aF] at h;obtain⟨d,a⟩:=b (k+1) _ p h;refine⟨om,?_⟩;rw[show p.1 - k=(p.1 - (k+1))+1 by omega];exact a
theorem YF (l:List Oper):∀(k:Nat) (ms:List Nat) (p:Nat×Oper),p∈hdL l k ms->k<=p.1∧l[p.1 - k]?=ay p.2:=by
 induction l with
|nil=>intro k ms p h;cases h
|cons o l b=>
  intro k ms p h;unfold hdL at h;cases c:(isMv o&&Oh ms o) with
 |false=>
   rw[c,aF] at h;rcases auI.1 h with rfl|h
   ·exact⟨auL _,sm⟩
   ·obtain⟨d,a⟩:=b (k+1) _ p h;refine⟨om,?_⟩;rw[show p.1 - k=(p.1 - (k+1))+1 by omega];exact a
 |true=>
   rw[c,aG] at h;obtain⟨d,a⟩:=b (k+1) _ p h;refine⟨om,?_⟩;rw[show p.1 - k=(p.1 - (k+1))+1 by omega];exact a
theorem NH {o:Oper}:∀{l:List (Nat×Oper)},o∈snds l->∃p,p∈l∧p.2=o
|[],h=>by cases h
|p::l,h=>by
  rcases auI.1 h with rfl|h
  ·exact⟨p,sm,rfl⟩
  ·obtain⟨q,a,b⟩:=NH h;exact⟨q,by simp[a],b⟩
theorem XH {A:List Nat}{σ₀:Sg}(ms:List (Nat×Oper)):∀(σ:Sg),(∀p,p∈ms->∀i,p.2.dst=ay i->i∈A)->Off A σ₀ σ->Off A σ₀ (Uy ms σ):=by
 induction ms with
|nil=>intro σ _ h;exact h
|cons p r b=>
  intro σ a h;exact b _ (λq c=>a q (by simp[c])) (h.trans (Off.put σ p.2.dst _ (λi hi=>a p sm i hi)))
theorem Ha {A:List Nat}{σ₀:Sg}{K K':Nx}(h:∀σ ds w,Off A σ₀ σ->K σ ds w->K' σ ds w)(ms:List (Nat×Oper)):∀(σ:Sg) (ds:List Deferred) (w:ao),(∀p,p∈ms->∀i,p.2.dst=ay i->i∈A)->Off A σ₀ σ->pmX ms K σ ds w->pmX ms K' σ ds w:=by
 induction ms with
|nil=>intro σ ds w _ a b;exact h _ _ _ a b
|cons p r d=>
  intro σ ds w c a b u;exact d _ _ _ (λq e=>c q (by simp[e])) (a.trans (Off.put σ p.2.dst _ (λi hi=>c p sm i hi))) (b u)
theorem Nq (l:List Oper):∀(k:Nat) (p:Nat×Oper),p∈Hs l k->k<=p.1∧l[p.1 - k]?=ay p.2:=by
 induction l with
|nil=>intro k p h;cases h
|cons o l a=>
  intro k p h;rcases auI.1 h with rfl|h
  ·exact⟨auL _,sm⟩
  ·obtain⟨c,b⟩:=a (k+1) p h;refine⟨om,?_⟩;rw[show p.1 - k=(p.1 - (k+1))+1 by omega];exact b
theorem OD {S:List Nat}{p:Nat×Oper}:∀{l:List (Nat×Oper)},p∈selL S l->p∈l
|[],h=>by cases h
|q::l,h=>by
  unfold selL at h;cases hm:GI q.1 S with
 |true=>
   rw[hm,aG] at h;rcases auI.1 h with rfl|h
   ·simp
   ·exact auZ _ (OD h)
 |false=>rw[hm,aF] at h;exact auZ _ (OD h)
theorem Jk {S:List Nat}{p:Nat×Oper}:∀{l:List (Nat×Oper)},p∈Jj S l->p∈l
|[],h=>by cases h
|q::l,h=>by
  unfold Jj at h;cases hm:GI q.1 S with
 |true=>rw[hm,aG] at h;exact auZ _ (Jk h)
 |false=>
   rw[hm,aF] at h;rcases auI.1 h with rfl|h
   ·simp
   ·exact auZ _ (Jk h)
theorem aeQ {l:List Oper}{n:Nat}{p:Nat×Oper}(h:p∈pL l n):(l.take n)[p.1 - 0]?=ay p.2:=(Nq _ 0 p (OD h)).2
theorem adC {l:List Oper}{n:Nat}{p:Nat×Oper}(h:p∈hL l n):(l.take n)[p.1 - 0]?=ay p.2:=(Nq _ 0 p (Jk h)).2
theorem opH.mono {S:ao->Prop}{o:Oper}{σ:Sg}{K K':aq->Prop}(h:∀v,K v->K' v)(hu:opH P S o σ K):opH P S o σ K':=by
 unfold opH at hu ⊢;split at hu
 ·exact h _ hu
 ·exact h _ hu
 ·obtain⟨v,a,b⟩:=hu.out;exact⟨v,a,h _ b⟩
theorem Q9.mono {P:Program}{n:Nat}{ops:Array Oper}{S:ao->Prop}{o:Oper}{σ:Sg}{K K':Sg->Prop}(h:∀v,K (put σ o.dst v)->K' (put σ o.dst v))(hu:Q9 P n ops S o σ K):Q9 P n ops S o σ K':=by
 unfold Q9 at hu ⊢;cases c:inB n o.dst with
|false=>rw[c,aF] at hu;exact hu.elim
|true=>
  rw[c,aG] at hu;rw[aG];cases e:o.guard with
 |none=>simp only[e] at hu ⊢;exact hu.mono h
 |some f=>
   obtain⟨j,want⟩:=f;simp only[e] at hu ⊢;split at hu
   ·rename_i d g
    cases a:Nat.blt d n with
   |false=>rw[a,aF] at hu;exact hu.elim
   |true=>
     rw[a,aG] at hu;rw[aG];refine⟨?_⟩
     replace hu:=hu.out
     cases b:lK (σ d) want with
    |true=>rw[b,aG] at hu;rw[aG];exact hu.mono h
    |false=>rw[b,aF] at hu;rw[aF];exact h _ hu
   ·exact hu.elim
theorem AL.eP {P:Program}{n:Nat}{ops:Array Oper}{E:List Nat}{S:ao->Prop}{K K':Nx}{PK g:List PanicEntry->Nx}{A:List Nat}{σ₀:Sg}(e:∀o,o∈ops.toList->∀i,o.dst=ay i->i∈A)
  (h:∀σ ds w,Off A σ₀ σ->K σ ds w->K' σ ds w) (hp:∀c σ ds w,Off A σ₀ σ->PK c σ ds w->g c σ ds w) :
  ∀(fuel:Nat) (listed:Array Bool) (σ:Sg) (ds:List Deferred) (w:ao),Off A σ₀ σ->AL P n ops E S K PK fuel listed σ ds w->AL P n ops E S K' g fuel listed σ ds w
|0,listed,σ,ds,w,d,hu=>by
  unfold AL at hu ⊢;cases j:isNil (Region.ready .any ops listed) with
 |false=>rw[j,aF] at hu;exact hu.elim
 |true=>rw[j,aG] at hu;rw[aG];exact h _ _ _ d hu
|f+1,listed,σ,ds,w,d,hu=>by
  unfold AL at hu ⊢;cases j:isNil (Region.ready .any ops listed) with
 |true=>rw[j,aG] at hu;rw[aG];exact h _ _ _ d hu
 |false=>
   rw[j,aF] at hu;rw[aF];have mem:∀i o,ops[i]?=ay o->o∈ops.toList:=λi o a=>by
    have:=aAg a;simpa using this
   cases q:MR ops E listed (Region.ready .any ops listed) with
  |some i=>
    simp only[q] at hu ⊢;cases a:ops[i]? with
   |none=>simp only[a] at hu
   |some o=>
     simp only[a] at hu ⊢;exact hu.mono λv b=>AL.eP e h hp f _ _ ds w (d.trans (Off.put σ o.dst v (λi' hi=>e o (mem i o a) i' hi))) b
  |none=>
    simp only[q] at hu ⊢;refine R4 λp l=>?_;obtain⟨i,hi,rfl⟩:=avN.1 l;have m:=Gq hu _ (avN.2 ⟨i,hi,rfl⟩);cases a:ops[i]? with
   |none=>simp only[a] at m
   |some o=>
     simp only[a] at m ⊢;refine Qm.mono (λv w b=>?_) (λc w b=>hp c σ ds w d b) m;cases k:Ox P ops E o with
    |true=>rw[k,aG] at b;rw[aG];exact⟨b.1,AL.eP e h hp f _ _ ds w (d.trans (Off.put σ o.dst v (λi' hi=>e o (mem i o a) i' hi))) b.2⟩
    |false=>rw[k,aF] at b;rw[aF];exact AL.eP e h hp f _ _ ds w (d.trans (Off.put σ o.dst v (λi' hi=>e o (mem i o a) i' hi))) b
theorem V6 {S:List Nat}{l:List Oper}{p:Nat×Oper}(h:p∈Jj S (Hs l 0)):l[p.1]?=ay p.2:=by
 have:=(Nq l 0 p (Jk h)).2;simpa using this
theorem Dp.eP {P:Program}{n:Nat}{ops:Array Oper}{Q Q':Ex}{A:List Nat}{σ₀ σ:Sg}{ds:List Deferred}{w:ao}(d:∀o,o∈ops.toList->∀i,o.dst=ay i->i∈A)
  (h:∀e σ ds w,Off A σ₀ σ->Q e σ ds w->Q' e σ ds w) (a:Off A σ₀ σ) (hu:Dp P n ops Q σ ds w):Dp P n ops Q' σ ds w:=by
 unfold Dp at hu ⊢;cases g:Wx P n ops with
|false=>
  rw[g,aF] at hu;rw[aF];exact HG.eP d h a hu
|true=>
  rw[g,aG] at hu;rw[aG];obtain⟨S,j,hu⟩:=hu.out;refine⟨S,j,?_⟩;have f:∀p,p∈Jj (eL P ops.toList 0 []) (Hs ops.toList 0)->∀i,p.2.dst=ay i->i∈A:=λp hp i hi=>
   d p.2 (ayC (V6 hp)) i hi
  exact AL.eP d (λσ ds w a b=>h _ _ _ _ a b) (λc σ ds w a b=>Ha (λσ ds w a b=>h _ _ _ _ a b) _ _ _ _ f a b) _ _ _ _ _ a hu
theorem Lt.eP {P:Program}{n:Nat}{ops:Array Oper}{Q Q':Ex}{A:List Nat}{σ₀ σ:Sg}{ds:List Deferred}{w:ao}(f:∀o,o∈ops.toList->∀i,o.dst=ay i->i∈A)
  (h:∀e σ ds w,Off A σ₀ σ->Q e σ ds w->Q' e σ ds w) (a:Off A σ₀ σ) (hu:Lt P n ops Q σ ds w):Lt P n ops Q' σ ds w:=by
 unfold Lt at hu ⊢;have g:=@aeQ ops.toList (bD P ops.toList);have j:=@adC ops.toList (bD P ops.toList);generalize pL ops.toList (bD P ops.toList)=ms at *;generalize hL ops.toList (bD P ops.toList)=u at *;cases v:((Nat.blt 9 ops.size&&ZQ P ms)&&(P.follows .mixedOrders&&(To ops (bD P ops.toList) ms u&&(Kl n ms&&(IX P (ops.toList.drop (bD P ops.toList))&&sX ops.toList))))) with
|false=>
  rw[v,aF] at hu;rw[aF];exact Dp.eP f h a hu
|true=>
  rw[v,aG] at hu;rw[aG];obtain⟨C,hC,hu⟩:=hu.out;refine⟨C,hC,?_⟩;have d:∀p,p∈ms->∀i,p.2.dst=ay i->i∈A:=λp hp i hi=>
   f p.2 (awN (ayC (g hp))) i hi
  have k:∀i,i∈I9 (snds u)->i∈A:=λi hi=>by
   obtain⟨o,a,l⟩:=jO.1 hi;obtain⟨p,hp,rfl⟩:=NH a;exact f p.2 (awN (ayC (j hp))) i l
  have m:∀i,i∈I9 (ops.toList.drop (bD P ops.toList))->i∈A:=λi hi=>by
   obtain⟨o,a,l⟩:=jO.1 hi;exact f o (ayG a) i l
  refine Kc.eP (λσ1 q r=>?_) ms σ d a hu;refine pE.eP (λσ' s b w' t=>?_) _ _ k q r;exact ET.eP (λσ ds w a b=>h _ _ _ _ a b) (λc σ ds w a b=>Ha (λσ ds w a b=>h _ _ _ _ a b) ms _ _ _ d a b) _ _ _ _ m s (b w' t)
theorem Oi {σ:Sg}{A ls:List Nat}{vs:List aq}{j:Sg}:Off A σ (mix σ A ls vs j):=by
 intro i hi;simp[mix,hi]
theorem OE {K K':Nat->Nat->ao->Prop}(h:∀i r W,K i r W->K' i r W):∀{l:List Nat} {pd:Option Code} {k:Nat->ao->Prop},(pd,k)∈exJ K l->∃k',(pd,k')∈exJ K' l∧∀r W,k r W->k' r W
|[],_,_,hm=>by cases hm
|i::l,pd,k,hm=>by
  rcases auI.1 hm with e|hm
  ·cases e;exact⟨K' i,by simp[exJ],λr W=>h i r W⟩
  ·obtain⟨k',a,b⟩:=OE h hm;exact⟨k',auI.2 (.inr a),b⟩
theorem Zp {b:Code}{K K':Exit->Nat->ao->Prop}(h:∀e r W,K e r W->K' e r W){pd:Option Code}{k:Nat->ao->Prop}(hm:(pd,k)∈jsX b K):∃k',(pd,k')∈jsX b K'∧∀r W,k r W->k' r W:=by
 unfold jsX at hm ⊢;rcases auI.1 hm with e|hm
 ·cases e;exact⟨K' .normal,sm,λr W=>h _ r W⟩
 ·cases d:jr b with
 |false=>
   rw[d,aF] at hm;obtain⟨k',a,c⟩:=OE (K':=λi=>K' (.exit i)) (λi r W=>h (.exit i) r W) hm;exact⟨k',by rw[aF];exact auI.2 (.inr a),c⟩
 |true=>
   rw[d,aG] at hm;rcases auI.1 hm with e|hm
   ·cases e;exact⟨K' .ret,by rw[aG];simp,λr W=>h _ r W⟩
   ·obtain⟨k',a,c⟩:=OE (K':=λi=>K' (.exit i)) (λi r W=>h (.exit i) r W) hm;exact⟨k',by rw[aG];exact auI.2 (.inr (auI.2 (.inr a))),c⟩
theorem akG {b:Code}{K:Exit->Nat->ao->Prop}{pd:Option Code}{k:Nat->ao->Prop}(hm:(pd,k)∈jsX b K) :
  (pd=ax∧k=K .normal)∨(pd=ay .ret∧k=K .ret)∨∃i,pd=ay (.exit i)∧k=K (.exit i):=by
 have hex:∀{l:List Nat},(pd,k)∈exJ (λi=>K (.exit i)) l->∃i,pd=ay (.exit i)∧k=K (.exit i):=by
  intro l
  induction l with
 |nil=>intro h;cases h
 |cons i l c=>
   intro h;rcases auI.1 h with e|h
   ·cases e;exact⟨i,rfl,rfl⟩
   ·exact c h
 unfold jsX at hm;rcases auI.1 hm with e|hm
 ·cases e;exact .inl ⟨rfl,rfl⟩
 ·cases a:jr b with
 |false=>rw[a,aF] at hm;exact .inr (.inr (hex hm))
 |true=>
   rw[a,aG] at hm;rcases auI.1 hm with e|hm
   ·cases e;exact .inr (.inl ⟨rfl,rfl⟩)
   ·exact .inr (.inr (hex hm))
theorem KM {Q:Ex}{σ:Sg}:acW id Q (.exit j) σ ds w=bc (Nat.beq j id) (Q .normal σ ds w) (Q (.exit j) σ ds w):=rfl
theorem wpX.eP {P:Program}{n:Nat}{aj al:List (Nat×List Nat)}{ro:Option Nat}:∀(c:Code) (Q Q':Ex) (A:List Nat) (σ₀:Sg),
  (∀i,i∈asg c->i∈A)->(∀e σ ds w,Off A σ₀ σ->Q e σ ds w->Q' e σ ds w) ->
  ∀(σ:Sg) (ds:List Deferred) (w:ao),Off A σ₀ σ->wpX P n aj al ro c Q σ ds w->wpX P n aj al ro c Q' σ ds w:=by
 intro c
 induction c with
|skip=>intro Q Q' A σ₀ s h σ ds w d hu;exact h _ _ _ _ d hu
|region id ops draw=>
  intro Q Q' A σ₀ s h σ ds w d hu;unfold wpX at hu ⊢;cases draw with
 |true=>
   rw[aG] at hu ⊢;cases hw:ND P n ops with
  |true=>rw[hw,aG] at hu;rw[aG];exact Dp.eP (λo d i hi=>s i (jO.2 ⟨o,d,hi⟩)) h d hu
  |false=>
   rw[hw,aF] at hu;rw[aF];cases hh:Nat.beq (bD P ops.toList) ops.toList.length with
  |true=>
    rw[hh,aG] at hu;rw[aG];cases u:(P.follows .mixedOrders&&(Region.lexB .any ops&&sX ops.toList)) with
   |false=>rw[u,aF] at hu;rw[aF];exact Lt.eP (λo d i hi=>s i (jO.2 ⟨o,d,hi⟩)) h d hu
   |true=>
     rw[u,aG] at hu;rw[aG];obtain⟨C,hC,hu⟩:=hu.out;refine⟨C,hC,?_⟩;exact pE.eP (λσ' q m w' z=>h _ _ _ _ q (m w' z)) _ _ s d hu
  |false=>
    rw[hh,aF] at hu;rw[aF];cases u:(P.follows .mixedOrders&&(Region.lexTailB .any ops (bD P ops.toList)&&(IX P (ops.toList.drop (bD P ops.toList))&&sX ops.toList))) with
   |false=>
     rw[u,aF] at hu;rw[aF];clear u;have M:=VY (ops.toList.take (bD P ops.toList)) 0 [];have N:=YF (ops.toList.take (bD P ops.toList)) 0 [];generalize mvL (ops.toList.take (bD P ops.toList)) 0 []=ms at *;generalize hdL (ops.toList.take (bD P ops.toList)) 0 []=G at *;cases u:(P.follows .mixedOrders&&(O7 ops (bD P ops.toList) ms G&&(Kl n ms&&(IX P (ops.toList.drop (bD P ops.toList))&&sX ops.toList)))) with
    |false=>
      rw[u,aF] at hu;rw[aF];exact Lt.eP (λo d i hi=>s i (jO.2 ⟨o,d,hi⟩)) h d hu
    |true=>
      rw[u,aG] at hu;rw[aG];obtain⟨C,hC,hu⟩:=hu.out;refine⟨C,hC,?_⟩;have H:∀p,p∈ms->∀i,p.2.dst=ay i->i∈A:=λp hp i hi=>
       s i (jO.2 ⟨p.2,awN (ayC (M p hp).2),hi⟩)
      have O:∀i,i∈I9 (snds G)->i∈A:=λi hi=>by
       obtain⟨o,d,K⟩:=jO.1 hi;obtain⟨p,hp,rfl⟩:=NH d;exact s i (jO.2 ⟨p.2,awN (ayC (N p hp).2),K⟩)
      have R:∀i,i∈I9 (ops.toList.drop (bD P ops.toList))->i∈A:=λi hi=>by
       obtain⟨o,d,K⟩:=jO.1 hi;exact s i (jO.2 ⟨o,ayG d,K⟩)
      refine pE.eP (λσ' q m w' z=>?_) _ _ O (XH ms _ H d) hu;exact ET.eP (λσ ds w d m=>h _ _ _ _ d m) (λc σ ds w d m=>Ha (λσ ds w d m=>h _ _ _ _ d m) ms _ _ _ H d m) _ _ _ _ R q (m w' z)
   |true=>
     rw[u,aG] at hu;rw[aG];obtain⟨C,hC,hu⟩:=hu.out;refine⟨C,hC,?_⟩;have E:∀l S:List Oper,(∀o,o∈l->o∈S)->∀i,i∈I9 l->i∈I9 S:=by
      intro l S L i hi;rw[jO] at hi ⊢;obtain⟨o,d,K⟩:=hi;exact⟨o,L o d,K⟩
     refine pE.eP (λσ' q m w' z=>?_) _ _ (λi hi=>s i (E _ _ (λo d=>awN d) i hi)) d hu;exact ET.eP (λσ ds w d m=>h _ _ _ _ d m) (λc σ ds w d m=>h _ _ _ _ d m) _ _ _ _ (λi hi=>s i (E _ _ (λo d=>ayG d) i hi)) q (m w' z)
 |false=>
   rw[aF] at hu ⊢;exact ET.eP (λσ ds w d m=>h _ _ _ _ d m) (λc σ ds w d m=>h _ _ _ _ d m) _ _ _ _ s d hu
|seq a b t B=>
  intro Q Q' A σ₀ s h σ ds w d hu;have x:∀i,i∈asg a->i∈A:=λi hi=>s i (by simp[asg,hi]);have D:∀i,i∈asg b->i∈A:=λi hi=>s i (by simp[asg,hi]);unfold wpX at hu ⊢;cases hw:Nat.ble (ways a) 1 with
 |true=>
   rw[hw,aG] at hu;rw[aG];refine t _ _ A σ₀ x ?_ σ ds w d hu;intro e σ' ds' w' q m;cases e with
  |normal=>exact B _ _ A σ₀ D h σ' ds' w' q m
  |_=>exact h _ _ _ _ q m
 |false=>
   rw[hw,aF] at hu;rw[aF];cases hm:mkB ro a with
  |true=>
    rw[hm,aG] at hu;rw[aG];refine⟨λJ T=>?_⟩;have F:=hu.out J (λds' vs w' U=>T ds' vs w' (λj=>by
     refine B _ _ A σ₀ D h _ _ _ (d.trans (Oi.mono x)) (U j)))
    refine t _ _ A σ₀ x ?_ σ ds w d F;intro e σ' ds' w' q m;cases e with
   |normal=>exact m
   |_=>exact h _ _ _ _ q m
  |false=>
   rw[hm,aF] at hu;rw[aF];refine⟨λJ T=>?_⟩;have F:=hu.out J (λvs w' U=>T vs w' (λj=>by
    refine B _ _ A σ₀ D h _ _ _ (d.trans (Oi.mono x)) (U j)))
   refine t _ _ A σ₀ x ?_ σ ds w d F;intro e σ' ds' w' q m;cases e with
  |normal=>exact m
  |_=>exact h _ _ _ _ q m
|cond c a b t B=>
  intro Q Q' A σ₀ s h σ ds w d hu;have x:∀i,i∈asg a->i∈A:=λi hi=>s i (by simp[asg,hi]);have D:∀i,i∈asg b->i∈A:=λi hi=>s i (by simp[asg,hi]);unfold wpX at hu ⊢;refine⟨?_⟩
  replace hu:=hu.out
  split at hu
  ·exact⟨λu=>t _ _ A σ₀ x h σ ds w d (hu.1 u),λu=>B _ _ A σ₀ D h σ ds w d (hu.2 u)⟩
  ·exact hu.elim
|block id a t=>
  intro Q Q' A σ₀ s h σ ds w d hu;unfold wpX at hu ⊢;refine t _ _ A σ₀ s ?_ σ ds w d hu;intro e σ' ds' w' q m;cases e with
 |exit j=>
   rw[KM] at m ⊢;cases u:Nat.beq j id with
  |true=>rw[u,aG] at m;exact h _ _ _ _ q m
  |false=>rw[u,aF] at m;exact h _ _ _ _ q m
 |_=>exact h _ _ _ _ q m
|loop a t=>
  intro Q Q' A σ₀ s h σ ds w d hu;unfold wpX at hu ⊢;cases hm:mkB ro a with
 |true=>
   rw[hm,aG] at hu;rw[aG];obtain⟨I,μ,V,G⟩:=hu.out;refine⟨I,μ,V,λds vs w X j=>?_⟩;refine t _ _ A σ₀ s ?_ _ ds w (d.trans (Oi.mono s)) (G ds vs w X j);intro e σ' ds' w' q m;cases e with
  |normal=>exact m
  |_=>exact h _ _ _ _ q m
 |false=>
  rw[hm,aF] at hu;rw[aF];obtain⟨I,μ,V,G⟩:=hu.out;refine⟨I,μ,V,λvs w X j=>?_⟩;refine t _ _ A σ₀ s ?_ _ ds w (d.trans (Oi.mono s)) (G vs w X j);intro e σ' ds' w' q m;cases e with
 |normal=>exact m
 |_=>exact h _ _ _ _ q m
|exit id=>intro Q Q' A σ₀ s h σ ds w d hu;exact h _ _ _ _ d hu
|ret=>intro Q Q' A σ₀ s h σ ds w d hu;exact h _ _ _ _ d hu
|rangeFunc g ps a7 b _ _=>
  intro Q Q' A σ₀ s h σ ds w d hu;unfold wpX at hu ⊢;cases L:RY n ps.toList with
 |false=>rw[L,aF] at hu;exact hu.elim
 |true=>
   rw[L,aG] at hu;rw[aG];refine⟨?_⟩;obtain⟨f,fa,ca,df,w0,h1,h2,h3,h4⟩:=hu.out;refine⟨f,fa,ca,df,w0,h1,h2,h3,λL0 Y hY=>Calls.mono (h4 L0 Y hY) ?_⟩;rintro e w3 ⟨v,st,pd,k,he,Z,hw,hm,m⟩;obtain⟨k',a1,a6⟩:=Zp (b:=b) (K':=λe r W=>Q' e σ (UN ro r ds) W) (λe r W hq=>h e σ (UN ro r ds) W d hq) hm;exact⟨v,st,pd,k',he,Z,hw,a1,a6 _ _ m⟩
|scope a _=>intro Q Q' A σ₀ s h σ ds w d hu;exact hu.elim
|label l=>intro Q Q' A σ₀ s h σ ds w d hu;exact hu.elim
|goto l=>intro Q Q' A σ₀ s h σ ds w d hu;exact hu.elim
|refuse y=>intro Q Q' A σ₀ s h σ ds w d hu;exact hu.elim
theorem Uk {σ:Sg}:∀{ls:List Nat} {i k:Nat},pos i ls=ay k->(pick ls σ).getD k undef=σ i
|[],i,k,h=>by cases h
|j::l,i,k,h=>by
  unfold pos at h;cases a:Nat.beq i j with
 |true=>rw[a,aG] at h;cases h;rw[beq_iff.1 a];rfl
 |false=>
   rw[a,aF] at h;cases hp:pos i l with
  |none=>rw[hp] at h;cases h
  |some m=>rw[hp] at h;cases h;simpa[pick] using Uk hp
theorem I8 {σ σ':Sg}{A ls:List Nat}(h:Off A σ σ'):mix σ A ls (pick ls σ') σ'=σ':=by
 funext i
 unfold mix;cases hm:mem i A with
|false=>rw[aF];exact (h i hm).symm
|true=>
  rw[aG];split
  ·rename_i k a;exact Uk a
  ·rfl
def EJ (n:Nat)(Q:Ex)(e:Exit)(a:Act)(w:ao):Prop:=∃σ,Rep n σ a.tmps∧Q e σ a.defers w
theorem aiA (σ:Sg)(d:Option Nat)(x u:aq):put (put σ d x) d u=put σ d u:=by
 cases d with
|none=>rfl
|some d=>
  funext i
  simp only[put,upd];cases Nat.beq i d<;>rfl
def aoZ (σ:Sg):Option Nat->aq
|some i=>σ i
|none=>undef
theorem aaS (σ:Sg)(d:Option Nat):put σ d (aoZ σ d)=σ:=by
 cases d with
|none=>rfl
|some d=>
  funext i
  simp only[put,upd];cases h:Nat.beq i d with
 |true=>have:=aAB h;subst this;rfl
 |false=>rfl
theorem Je {K:Nx}:∀(ms:List (Nat×Oper)) {σ:Sg} {ds:List Deferred} {w:ao},pmX ms K σ ds w->K σ ds w
|[],_,_,_,h=>h
|p::r,σ,ds,w,h=>by
  have a:=Je r (h (aoZ σ p.2.dst))
  rwa [aaS] at a
theorem abR (σ:Sg){d e:Option Nat}(x u:aq)(h:d≠e):put (put σ e x) d u=put (put σ d u) e x:=by
 cases d with
|none=>rfl
|some i=>
  cases e with
 |none=>rfl
 |some j=>
   have a:i≠j:=λb=>h (by rw[b])
   funext k
   simp only[put,upd];cases c:Nat.beq k i with
  |true=>
    have:=aAB c;subst this;have f:Nat.beq k j=false:=by
     cases g:Nat.beq k j with
    |false=>rfl
    |true=>exact absurd (aAB g) a
    rw[f]
  |false=>cases Nat.beq k j<;>rfl
theorem Rg {K:Nx}(x:aq)(p:Nat×Oper)(ms:List (Nat×Oper)):∀{σ:Sg} {ds:List Deferred} {w:ao},p∈ms->pmX ms K σ ds w->pmX ms K (put σ p.2.dst x) ds w:=by
 induction ms with
|nil=>intro σ ds w hp _;cases hp
|cons q r a=>
  intro σ ds w hp h u;by_cases e:q.2.dst=p.2.dst
  ·have b:pmX r K (put σ p.2.dst u) ds w:=by rw[<-e];exact h u
   rw[e,aiA];exact b
  ·rcases auI.1 hp with rfl|hp
   ·exact absurd rfl e
   ·rw[abR σ x u e];exact a hp (h u)
theorem xS {l:List Oper}{n k:Nat}{o:Oper}(h:(l.take n)[k - 0]?=ay o):l.toArray[k]?=ay o:=by
 rw[aAE,axK] at h;split at h
 ·simpa using h
 ·cases h
theorem Pa {n:Nat}:∀(ms:List (Nat×Oper)) (σ:Sg) (a:Act),Kl n ms=aw->Rep n σ a.tmps->Rep n (Uy ms σ) (mC ms a).tmps∧(mC ms a).defers=a.defers
|[],σ,a,_,h=>⟨h,rfl⟩
|p::r,σ,a,b,h=>by
  simp only[Kl,auY] at b;have e:mvX p.2 σ=RC p.2 a:=by
   unfold mvX RC;rw[h.eval]
   try (generalize p.2.op=x;cases x<;>rfl)
  obtain⟨c,d⟩:=Pa r (put σ p.2.dst (mvX p.2 σ)) (a.put p.2.dst (mvX p.2 σ)) b.2 (h.put b.1 _);unfold Uy;rw[show mC (p::r) a=mC r (a.put p.2.dst (RC p.2 a)) from rfl,<-e];exact⟨c,d.trans (by cases p.2.dst<;>rfl)⟩
theorem S8 {n:Nat}:∀(ps:List Nat) (args:List aq) (k:Nat) (σ:Sg) (t:Array aq),RY n ps=aw->Rep n σ t->k+ps.length<=args.length ->
  Rep n (putL ps args k σ) ((ps.zip (args.drop k)).foldl (λt x=>t.setIfInBounds x.1 x.2) t)
|[],args,k,σ,t,_,h,_=>by simpa[putL] using h
|p::ps,args,k,σ,t,b,h,e=>by
  unfold RY at b;cases hp:Nat.blt p n with
 |false=>rw[hp,aF] at b;cases b
 |true=>
   rw[hp,aG] at b;have c:k < args.length:=by simp only[auX] at e;omega
   rw[avX c];simp only[List.zip_cons_cons,azX,putL];have f:args.getD k undef=args[k]:=by simp[List.getD,c]
   rw[f];have g:=Rep.put (a:={ tmps:=t,defers:=[] }) h (d:=ay p) (by simpa[inB] using hp) args[k];exact S8 ps args (k+1) _ _ b g (by simp only[auX] at e;omega)
theorem rV {l:Nat}{r:Loop}(h:w.heap[l]?=ay (.loop r)):(Instr.getLoop l).run P w=.ok r w:=by
 have a:(getObj l).run P w=.ok (.loop r) w:=by simp[getObj,Sem.run,h]
 unfold Instr.getLoop;rw[Sem.run_bind,a];rfl
theorem GY {l:Nat}{r:Loop}{o':Obj}(h:w.heap[l]?=ay (.loop r)):(setObj l o').run P w=.ok () (NR w l o'):=by
 simp[setObj,Sem.run,h,NR]
theorem LZ {l:Nat}(h:w.heap[l]?=ay (lp L0 .ready ax)):(Instr.beginRound l).run P w=.ok () (NR w l (lp L0 .busy ax)):=by
 unfold Instr.beginRound;rw[Sem.run_bind,rV h];simp only[Result.andThen];rw[Sem.run_bind,GY h];rfl
theorem PJ {l:Nat}{j:Option Code}(h:w.heap[l]?=ay (lp L0 .busy ax)):(Instr.endRound l j).run P w=.ok (.bool j.isNone) (NR w l (lp L0 (if j.isNone then .ready else .done) j)):=by
 unfold Instr.endRound;rw[Sem.run_bind,rV h];simp only[Result.andThen];rw[Sem.run_bind,GY h];rfl
theorem R5 {l:Nat}{st:LoopState}{j:Option Code}(a:st≠.busy)(h:w.heap[l]?=ay (lp L0 st j)):(Instr.endLoop l).run P w=.ok j (NR w l (lp L0 .exhausted j)):=by
 unfold Instr.endLoop;rw[Sem.run_bind,rV h];simp only[Result.andThen];have b:(st==LoopState.busy)=false:=by cases st<;>first|rfl|exact absurd rfl a
 simp only[b];rw[auB dc,Sem.run_bind,GY h];rfl
theorem RW {n:Nat}{u:List (Nat×List Nat)}{g:Operand}{ps:Array Tmp}{c b:Code}{Q:Ex}{σ:Sg}{a:Act}(x:Rep n σ a.tmps)(O:RY n ps.toList=aw)
  {f:Nat} {fa ca:Array aq} {df:Nat} {w0:ao} (S:rd σ g=.func (.func f) fa ca) (T:cW P f=aw) (L:LayR w ro df w0)
  (U:∀L0:Loop,L0.defers=df ->
   (∀l args W R,W.heap[l]?=ay (lp L0 .ready ax)->args.length=ps.toList.length ->
    wpX P n aj u (ay l) c (begQ (λσ1 V=>BegX P l V (λX=>wpX P n aj u (ay l) b (rndQ P l R) σ1 [] X))) (putL ps.toList args 0 σ) [] W->Yld P l args W R) ->
   Calls P f (fa++#[.func (.yield w0.heap.size) #[] #[]]++ca) (w0.alloc (lp L0 .ready ax)) λe w3=>
    ∃v st pd k,e=.returned v∧st≠.busy∧w3.heap[w0.heap.size]?=ay (lp L0 st pd)∧(pd,k)∈jsX b (λe r W=>Q e σ (UN ro r a.defers) W)∧k df (NR w3 w0.heap.size (lp L0 .exhausted pd)))
  (y:∀(ro:Option Nat) (Q:Ex) (σ:Sg) (a:Act) (w:ao),Rep n σ a.tmps->wpX P n aj u ro c Q σ a.defers w->c.wpIn (Fr ro) 0 P (EJ n Q) a w)
  (z:∀(ro:Option Nat) (Q:Ex) (σ:Sg) (a:Act) (w:ao),Rep n σ a.tmps->wpX P n aj u ro b Q σ a.defers w->b.wpIn (Fr ro) 0 P (EJ n Q) a w) :
  (Code.rangeFunc g ps c b).wpIn (Fr ro) 0 P (EJ n Q) a w:=by
 refine wpIn_rangeFunc λfn _=>?_
 let L0:Loop:={ state:=.ready,pending:=ax,fn,tmps:=a.tmps,params:=ps,assign:=c,body:=b,defers:=df }
 let mark:List Deferred:=match ro with|none=>[mkD df]|some _=>[]
 have j:mark++a.defers=UN ro df a.defers:=by
  cases ro<;>rfl
 have d:(Instr.enterLoop fn a.tmps ps c b ro).run P w=.ok (w0.heap.size,mark) (w0.alloc (lp L0 .ready ax)):=by
  cases ro with
 |none=>
   obtain⟨rfl,rfl⟩:=L;simp[Instr.enterLoop,mark,L0,lp,mkD]
 |some l'=>
   obtain⟨r',A,rfl,rfl⟩:=L;unfold Instr.enterLoop;simp only[];rw[Sem.run_bind,rV A];simp[Result.andThen,mark,L0,lp]
 have B:a.eval g=.func (.func f) fa ca:=by rw[x.eval];exact S
 refine⟨w0.heap.size,mark,_,{ target:=.fn (.func f) ca,args:=fa++#[.func (.yield w0.heap.size) #[] #[]] },w0.alloc (lp L0 .ready ax),f,fa++#[.func (.yield w0.heap.size) #[] #[]]++ca,w0.alloc (lp L0 .ready ax),d,?_,λ_ _=>trivial,?_,λY=>(by cases Y),?_⟩
 ·unfold resolve;simp only[rangeCall,List.map_toArray,avS,axT];rw[B];rfl
 ·simp only[invoke];exact jT T _ _
 ·refine Ni.2 (Calls.mono (U L0 rfl ?_) ?_)
  ·intro l args W R Z hlen hB;refine⟨fn,(ps.zip args.toArray).foldl (λtmps (t,a)=>tmps.setIfInBounds t a) a.tmps,c,b,?_,?_⟩
   ·have C:args.toArray.size=ps.size:=by simpa using hlen
    unfold Instr.yield;rw[Sem.run_bind,rV Z];simp only[Result.andThen];rw[auB (by simpa[L0] using C)];rfl
   ·have p:Rep n (putL ps.toList args 0 σ) ((ps.zip args.toArray).foldl (λtmps (t,a)=>tmps.setIfInBounds t a) a.tmps):=by
     have:=S8 ps.toList args 0 σ a.tmps O x om;rw[axB] at this;rw[<-Array.foldl_toList];simpa using this
    refine roundIn_of_wpIn (F:=Fence.wide) trivial ?_;refine Code.wpIn_mono ?_ (y (ay l) _ _ { tmps:=(ps.zip args.toArray).foldl (λtmps (t,a)=>tmps.setIfInBounds t a) a.tmps,defers:=[] } W p hB);rintro e M w1 ⟨σ1,D,m⟩;generalize E:M.defers=G at m;cases e<;>cases G<;>first|(exact m.elim;done)|skip
    ·obtain⟨w2,H,I⟩:=BegX.out m;refine⟨w2,H,?_⟩;have o:=z (ay l) (rndQ P l R) σ1 M w2 D (by rw[E];exact I);refine Code.wpIn_mono ?_ o;rintro e a2 w4 ⟨σ2,a6,h⟩;cases e with
    |normal=>obtain⟨v,w',q,s⟩:=EndX.out h;exact⟨v,w',q,v,rfl,s⟩
    |ret=>obtain⟨v,w',q,s⟩:=EndX.out h;exact⟨v,w',q,v,rfl,s⟩
    |exit i=>obtain⟨v,w',q,s⟩:=EndX.out h;exact⟨v,w',q,v,rfl,s⟩
    |_=>exact h.elim
  ·rintro e w3 ⟨v,st,pd,k,rfl,J,K,hm,m⟩;refine⟨pd,NR w3 w0.heap.size (lp L0 .exhausted pd),R5 J K,?_⟩;have fin:∀e:Exit,Q e σ (UN ro df a.defers) (NR w3 w0.heap.size (lp L0 .exhausted pd))->EJ n Q e { a with defers:=mark++a.defers } (NR w3 w0.heap.size (lp L0 .exhausted pd)):=λe N=>
    ⟨σ,x,by rw[<-j] at N;exact N⟩
   rcases akG hm with ⟨rfl,rfl⟩|⟨rfl,rfl⟩|⟨i,rfl,rfl⟩
   ·exact fin .normal m
   ·exact wpIn_ret (fin .ret m)
   ·exact wpIn_exit (fin (.exit i) m)
theorem Qf {n:Nat}{Q:Ex}{σ:Sg}{a:Act}(b:Rep n σ a.tmps)(h:HG P n ops Q σ a.defers w):(Code.region id ops aw).wpIn (Fr ro) 0 P (EJ n Q) a w:=by
 unfold HG at h;cases d:(P.follows .mixedOrders&&sX ops.toList) with
|false=>rw[d,aF] at h;exact h.elim
|true=>
  rw[d,aG] at h;simp only[auY] at d;refine wpIn_region_any d.1 (MX (K:=λσ ds w=>Q .normal σ ds w) (PK:=λc σ ds w=>Q (.panic c) σ ds w) d.2 ?_ ?_ _ _ σ a _ b h.out)
  ·rintro c a w ⟨σ,b,h⟩;exact⟨σ,b,h⟩
  ·rintro a w ⟨σ,b,h⟩;exact⟨σ,b,h⟩
theorem agP {n:Nat}{ms:List (Nat×Oper)}{K:Nx}(f:Kl n ms=aw){p:Nat×Oper}(hp:p∈ms){a:Act}(he:lQ n (pmX ms K) (a.put p.2.dst v) w):lQ n (pmX ms K) a w:=by
 obtain⟨σ',b,e⟩:=he;have c:inB n p.2.dst=true:=by
  have:∀l:List (Nat×Oper),Kl n l=aw->p∈l->inB n p.2.dst=true:=by
   intro l
   induction l with
  |nil=>intro _ h;cases h
  |cons q l o=>
    intro g k;simp only[Kl,auY] at g;rcases auI.1 k with rfl|k
    ·exact g.1
    ·exact o g.2 k
  exact this ms f hp
 cases m:p.2.dst with
|none=>rw[m] at b e;exact⟨σ',b,e⟩
|some i=>
  rw[m] at b e c;refine⟨put σ' (ay i) (a.tmps.getD i undef),?_,?_⟩
  ·have:=Rep.put (a:=a.put (ay i) v) b c (a.tmps.getD i undef);have e2:((a.put (ay i) v).put (ay i) (a.tmps.getD i undef)).tmps=a.tmps:=by
    have hi:i < a.tmps.size:=by
     have r:a.tmps.size=n:=by have:=b.size;simpa[Act.put] using this
     have s:i < n:=by simpa[inB,Nat.blt_eq] using c
     rw[r];exact s
    simp only[Act.put];apply aBf;intro j;by_cases d:i=j
    ·subst d;simp[hi]
    ·rw[ayV d,ayV d]
   rwa [e2] at this
  ·have:=Rg (K:=K) (a.tmps.getD i undef) p ms hp e;rw[m] at this;exact this
theorem TB {P:Program}:∀{l:List Oper},XT P l=aw->∀o,o∈l->(noRd P o||isCV o)=aw
|[],_,o,h=>by cases h
|q::l,a,o,h=>by
  simp only[XT,auY] at a;rcases auI.1 h with rfl|h
  ·exact a.1
  ·exact TB a.2 o h
theorem Wv {o:Oper}{n:Nat}{σ:Sg}{a:Act}(e:Rep n σ a.tmps)(f:inB n o.dst=aw){K:Nx}{PK:List PanicEntry->Nx}{next:Act->ao->Prop}
  (g:∀c a w,lQ n (PK c) a w->Q (.panic c) a w) (b:∀a w,lQ n K a w->next a w)
  (d:(noRd P o||isCV o)=aw) (h:opW P o σ w (λv w=>K (put σ o.dst v) a.defers w) (λc w=>PK c σ a.defers w)):o.wp P a w next Q:=by
 obtain⟨i,k⟩:=aoU h;cases j:noRd P o with
|true=>exact R3 (K:=K) (PK:=PK) e f g b j i
|false=>
  rw[j,aAS] at d;exact afX (K:=K) (PK:=PK) e f g b (k d) i
theorem aaK {n:Nat}{o:Oper}{σ:Sg}{a:Act}{K:Nx}{PK:List PanicEntry->Nx}{next:Act->ao->Prop}(r:ops[i]?=ay o)(m:Rep n σ a.tmps)(k:(noRd P o||isCV o)=aw)
  (q:∀c a w,lQ n (PK c) a w->Q (.panic c) a w) (b:∀a w,lQ n K a w->next a w)
  (h:Qm P n ops o σ w (λσ' w'=>K σ' a.defers w') (λc w=>PK c σ a.defers w)):wpOp P ops Q i next a w:=by
 unfold wpOp;simp only[r];unfold Qm at h;cases l:inB n o.dst with
|false=>rw[l,aF] at h;exact h.elim
|true=>
  rw[l,aG] at h;cases p:o.guard with
 |none=>
   simp only[p] at h;rw[auC (by simp[Region.wanted,p])];exact .inl (Wv (K:=K) (PK:=PK) m l q b k h)
 |some s=>
   obtain⟨j,want⟩:=s;simp only[p] at h;split at h
   ·rename_i d t
    cases g:Nat.blt d n with
   |false=>rw[g,aF] at h;exact h.elim
   |true=>
     rw[g,aG] at h;have hw:=xI m p t g
     replace h:=h.out
     cases f:lK (σ d) want with
    |true=>
      rw[f,aG] at h;rw[auC (by rw[hw,f])];exact .inl (Wv (K:=K) (PK:=PK) m l q b k h)
    |false=>
      rw[f,aF] at h;rw[auB (by rw[hw,f];simp)];have e:(a.put o.dst undef).defers=a.defers:=by cases o.dst<;>rfl
      exact b _ _ ⟨_,m.put l undef,by rw[e];exact h⟩
   ·exact h.elim
theorem abE {n:Nat}{S:ao->Prop}{o:Oper}{σ:Sg}{a:Act}{K:Sg->Prop}(e:Rep n σ a.tmps)(h:Q9 P n ops S o σ K) :
  ∃v,YieldsIf P ops S o v a∧inB n o.dst=aw∧K (put σ o.dst v):=by
 unfold Q9 at h;cases i:inB n o.dst with
|false=>rw[i,aF] at h;exact h.elim
|true=>
  rw[i,aG] at h;have key:Region.wanted o (yielded ops a.tmps)=aw->opH P S o σ (λv=>K (put σ o.dst v))->∃v,YieldsIf P ops S o v a∧aw=aw∧K (put σ o.dst v):=by
   intro hw h;unfold opH at h;split at h
   ·rename_i x g
    refine⟨rd σ x,.inl ⟨hw,λw _=>?_⟩,rfl,h⟩;rw[e.eval,show execOp (rd σ) o=pure (.value (rd σ x)) by unfold execOp;rw[g]];rfl
   ·rename_i x g
    refine⟨rd σ x,.inl ⟨hw,λw _=>?_⟩,rfl,h⟩;rw[e.eval,show execOp (rd σ) o=pure (.value (rd σ x)) by unfold execOp;rw[g]];rfl
   ·obtain⟨v,k,l⟩:=h.out;refine⟨v,.inl ⟨hw,λw m=>?_⟩,rfl,l⟩;rw[e.eval,<-lP];exact k w m
  cases f:o.guard with
 |none=>
   simp only[f] at h;exact key (by simp[Region.wanted,f]) h
 |some p=>
   obtain⟨j,want⟩:=p;simp only[f] at h;split at h
   ·rename_i d q
    cases c:Nat.blt d n with
   |false=>rw[c,aF] at h;exact h.elim
   |true=>
     rw[c,aG] at h;have hw:=xI e f q c
     replace h:=h.out
     cases b:lK (σ d) want with
    |true=>rw[b,aG] at h;exact key (by rw[hw,b]) h
    |false=>rw[b,aF] at h;exact⟨undef,.inr ⟨by rw[hw,b],rfl⟩,rfl,h⟩
   ·exact h.elim
theorem Ju {ops:Array Oper}{E:List Nat}{listed:Array Bool}:∀{l:List Nat} {i:Nat},MR ops E listed l=ay i->i∈l∧GI i E=au∧Region.free .any ops listed i=aw
|[],i,h=>by cases h
|k::l,i,h=>by
  unfold MR at h;cases a:(!(GI k E)&&Region.free .any ops listed k) with
 |true=>
   rw[a,aG] at h;cases h;simp only[auY,azJ] at a;exact⟨sm,a.1,a.2⟩
 |false=>
   rw[a,aF] at h;obtain⟨b,c⟩:=Ju h;exact⟨auZ _ b,c⟩
theorem Su (l:List Oper):∀(k i:Nat) (o:Oper),l[i]?=ay o->(k+i,o)∈Hs l k:=by
 induction l with
|nil=>intro k i o h;simp at h
|cons q l a=>
  intro k i o h;cases i with
 |zero=>simp at h;subst h;simp[Hs]
 |succ i=>
   have:=a (k+1) i o (by simpa using h);rw[show k+1+i=k+(i+1) by omega] at this;exact auZ _ this
theorem Sa {S:List Nat}{p:Nat×Oper}(hm:GI p.1 S=au):∀{l:List (Nat×Oper)},p∈l->p∈Jj S l
|[],h=>by cases h
|q::l,h=>by
  unfold Jj;rcases auI.1 h with rfl|h
  ·rw[hm,aF];simp
  ·cases GI q.1 S with
  |true=>rw[aG];exact Sa hm h
  |false=>rw[aF];exact auZ _ (Sa hm h)
section
variable {P:Program}{md:Region.Mode}{ops:Array Oper}{Q:Exit->Act->ao->Prop}{S:ao->Prop}{need:Nat->Bool}
def xA (P:Program)(md:Region.Mode)(ops:Array Oper)(Q:Exit->Act->ao->Prop)(S:ao->Prop)(need:Nat->Bool):Nat->Array Bool->Act->ao->Prop
|0,l,a,w=>Region.ready md ops l=[]∧Q .normal a w
|f+1,l,a,w=>(Region.ready md ops l=[]->Q .normal a w) ∧
  ∀i∈Region.ready md ops l,wpOp P ops Q i (λa' w'=>(need i=aw->S w->S w')∧xA P md ops Q S need f (l.setIfInBounds i aw) a' w') a w
theorem xA.any:∀(f:Nat) (l:Array Bool) (a:Act) (w:ao),xA P md ops Q S need f l a w->wpAny P md ops Q f l a w
|0,_,_,_,h=>h
|f+1,_,_,_,h=>⟨h.1,λi hi=>wpOp_mono (λa' w' b=>xA.any f _ a' w' b.2) (h.2 i hi)⟩
theorem xA.done {l:Array Bool}{a:Act}{w:ao}(b:Region.ready md ops l=[])(h:Q .normal a w):∀f,xA P md ops Q S need f l a w
|0=>⟨b,h⟩
|_+1=>⟨λ_=>h,by rw[b];simp⟩
theorem xA.first {T:ao->Prop}{q:Oper}(hi:ops[i]?=ay q)
  (n:∀(j:Nat) (o:Oper) cs b,ops[j]?=ay o->o.op≠.select cs b) (L:∀c a w,Q (.panic c) (a.put q.dst v) w->Q (.panic c) a w)
  (M:∀j g,ops[j]?=ay g->(∀e∈g.after,Region.binds md e=aw->e.on≠i)->∀w w',T w->(need j=aw->S w->S w')->T w') :
  ∀(f:Nat) (l:Array Bool) (a:Act) (w:ao),(∀j g,ops[j]?=ay g->j≠i->l.getD j aw=au->(∀e∈g.after,Region.binds md e=aw->e.on≠i)->q.apart ops g=aw) ->
   i∈Region.ready md ops l->YieldsIf P ops T q v a->T w->xA P md ops Q S need f (l.setIfInBounds i aw) (a.put q.dst v) w->xA P md ops Q S need (f+1) l a w:=by
 intro f
 induction f with
|zero=>
  intro l a w _ r z A H;refine⟨λh=>absurd r (by rw[h];simp),λj B=>?_⟩;rcases Decidable.em (j=i) with rfl|d
  ·exact z.wpOp hi A ⟨λ_ h=>h,H⟩
  ·have hm:=ready_mono B d;rw[H.1] at hm;simp at hm
|succ f N=>
  intro l a w s r z A H;refine⟨λh=>absurd r (by rw[h];simp),λj B=>?_⟩;rcases Decidable.em (j=i) with rfl|d
  ·exact z.wpOp hi A ⟨λ_ h=>h,H⟩
  obtain⟨K,g,m,C⟩:=mem_ready.1 B;have t:=(mem_ready.1 r).1;have u:∀e∈g.after,Region.binds md e=aw->e.on≠i:=by
   intro e he O R;have x:=C e he O;rw[R] at x;rcases avI i l.size with D|D
   ·simp[D] at t x;rw[t] at x;cases x
   ·simp[Array.getElem?_eq_none D] at x
  have p:=wpOp_putIf m (s j g m d K u) (λcs b=>n i q cs b hi) (λcs b=>n j g cs b m) L z (H.2 j (ready_mono B d));refine wpOp_mono (λa' w' U=>?_) p;obtain⟨E,y,V⟩:=U;refine⟨y,N _ a' w' ?_ (ready_mono r (Ne.symm d)) E (M j g m u w w' A y) ?_⟩
  ·intro k ok W F G I;refine s k ok W F ?_ I;rcases Decidable.em (j=k) with rfl|J
   ·exact K
   ·rwa [getD_set_ne aw J] at G
  ·rw[aBd _ _ d];exact V
end
theorem Og {i:Nat}:∀{l:List Edge},GI i (OU l)=aw->∃e∈l,Region.binds .any e=aw∧e.on=i
|e::l,h=>by
  unfold OU at h;cases a:Region.binds .any e with
 |true=>
   rw[a,aG] at h;unfold GI at h;cases d:Nat.beq i e.on with
  |true=>exact⟨e,sm,a,(aAB d).symm⟩
  |false=>
    rw[d] at h;obtain⟨e',b,c⟩:=Og (l:=l) h;exact⟨e',auZ _ b,c⟩
 |false=>
   rw[a,aF] at h;obtain⟨e',b,c⟩:=Og (l:=l) h;exact⟨e',auZ _ b,c⟩
theorem M8 {P:Program}{E A:List Nat}{i:Nat}{o:Oper}(he:GI i E=au)(hp:DW P o=au)(a:GI i A=au):∀{r:List (Nat×Oper)},(i,o)∈r->aaF P E A r=aw
|p::r,h=>by
  unfold aaF;rcases auI.1 h with rfl|h
  ·simp only[he,hp,a,Bool.or_self,aF]
  ·have:=M8 he hp a h;cases GI p.1 E<;>cases DW P p.2<;>cases GI p.1 A<;>simp[aG,aF,this]
theorem P3 {E:List Nat}{o a:Oper}(c:ops[i]?=ay o)(he:GI i E=au)(hp:(R9 ops.toList&&DW P o)=au)(b:∀e∈a.after,Region.binds .any e=aw->e.on≠i):Ox P ops E a=true:=by
 unfold Ox;cases d:R9 ops.toList with
|false=>rfl
|true=>
  rw[aG];rw[d,azK] at hp;have:=Su ops.toList 0 i o (by simpa using c);rw[auP] at this;refine M8 he hp ?_ this;cases hm:GI i (OU a.after.toList) with
 |false=>rfl
 |true=>
   obtain⟨e,f,g,h⟩:=Og hm;exact absurd h (b e (by simpa using f) g)
def abY (P:Program)(ops:Array Oper)(E:List Nat)(j:Nat):Bool:=match ops[j]? with
|some o=>Ox P ops E o
|none=>au
theorem xZ {P:Program}{n:Nat}{ops:Array Oper}{E:List Nat}{S:ao->Prop}{K:Nx}{PK:List PanicEntry->Nx}{Q:Exit->Act->ao->Prop}(d:Region.noSelect ops=aw)(l:XT P ops.toList=aw)(J:Kl n (Jj E (Hs ops.toList 0))=aw)
  (C:∀c a w,lQ n (pmX (Jj E (Hs ops.toList 0)) (PK c)) a w↔Q (.panic c) a w) (F:∀a w,lQ n K a w->Q .normal a w) :
  ∀(fuel:Nat) (listed:Array Bool) (σ:Sg) (a:Act) (w:ao),Rep n σ a.tmps->(∀i o,ops[i]?=ay o->GI i E=au->(R9 ops.toList&&DW P o)=au->listed.getD i aw=au->S w) ->
   AL P n ops E S K (λc=>pmX (Jj E (Hs ops.toList 0)) (PK c)) fuel listed σ a.defers w->xA P .any ops Q S (abY P ops E) fuel listed a w
|0,listed,σ,a,w,D,M,h=>by
  unfold AL at h;cases m:isNil (Region.ready .any ops listed) with
 |false=>rw[m,aF] at h;exact h.elim
 |true=>rw[m,aG] at h;exact⟨wS.1 m,F _ _ ⟨σ,D,h⟩⟩
|f+1,listed,σ,a,w,D,M,h=>by
  unfold AL at h;cases m:isNil (Region.ready .any ops listed) with
 |true=>
   rw[m,aG] at h;exact xA.done (wS.1 m) (F _ _ ⟨σ,D,h⟩) _
 |false=>
   rw[m,aF] at h;cases N:MR ops E listed (Region.ready .any ops listed) with
  |some i=>
    simp only[N] at h;cases b:ops[i]? with
   |none=>simp only[b] at h
   |some o=>
     simp only[b] at h;obtain⟨hm,he,O⟩:=Ju N;obtain⟨v,hy,hd,hk⟩:=abE D h;have hp:(i,o)∈Jj E (Hs ops.toList 0):=by
      have:=Su ops.toList 0 i o (by simpa using b);rw[auP] at this;exact Sa he this
     have G:=(mem_ready.1 hm).1;have e:(a.put o.dst v).defers=a.defers:=by cases o.dst<;>rfl
     refine xA.first (T:=ZV P ops S o) b (Region.noSelect_spec d) (λc a w hq=>(C c a w).1 (agP J hp ((C c _ w).2 hq))) ?_ f listed a w (Region.free_spec b O) hm hy ?_
      (xZ d l J C F f _ (put σ o.dst v) (a.put o.dst v) w (D.put hd v) ?_ (by rw[e];exact hk))
     ·intro j oj R U w1 w2 V W;unfold ZV at V ⊢;cases p:R9 ops.toList&&DW P o with
     |true=>rw[aG];trivial
     |false=>
       rw[p,aF] at V;rw[aF];refine W ?_ V;unfold abY;rw[R];exact P3 b he p U
     ·unfold ZV;cases p:R9 ops.toList&&DW P o with
     |true=>rw[aG];trivial
     |false=>rw[aF];exact M i o b he p G
     ·intro k ok u x y z;refine M k ok u x y ?_;rcases Decidable.em (i=k) with rfl|A
      ·exact G
      ·rwa [getD_set_ne aw A] at z
  |none=>
    simp only[N] at h;refine⟨λhe=>(by rw[wS.2 he] at m;cases m),λi hi=>?_⟩;have q:=Gq h _ (avN.2 ⟨i,hi,rfl⟩);cases b:ops[i]? with
   |none=>simp only[b] at q
   |some o=>
     simp only[b] at q;have H:o∈ops.toList:=by
      have:=aAg b;simpa using this
     refine aaK (K:=λσ' ds' w'=>bc (Ox P ops E o) (S w'∧AL P n ops E S K (λc=>pmX (Jj E (Hs ops.toList 0)) (PK c)) f (listed.setIfInBounds i aw) σ' ds' w') (AL P n ops E S K (λc=>pmX (Jj E (Hs ops.toList 0)) (PK c)) f (listed.setIfInBounds i aw) σ' ds' w')) (PK:=λc=>pmX (Jj E (Hs ops.toList 0)) (PK c)) b D (TB l o H) (λc a w hc=>(C c a w).1 hc) ?_ q;rintro a' w' ⟨σ',I,g⟩;have B:abY P ops E i=Ox P ops E o:=by unfold abY;rw[b]
     obtain⟨X,a1,s,Y⟩:=mem_ready.1 hi;rw[b] at s;cases s;cases r:Ox P ops E o with
    |true=>
      rw[r,aG] at g;exact⟨λ_ _=>g.1,xZ d l J C F f _ σ' a' w' I (λ_ _ _ _ _ _=>g.1) g.2⟩
    |false=>
      rw[r,aF] at g;refine⟨λL=>(by rw[B,r] at L;cases L),xZ d l J C F f _ σ' a' w' I ?_ g⟩;intro k ok u x y z;exfalso;have t:listed.getD k aw=false:=by
       rcases Decidable.em (i=k) with rfl|A
       ·exact X
       ·rwa [getD_set_ne aw A] at z
      have:Ox P ops E o=true:=P3 u x y (λe he Z L=>by
       have q:=Y e he Z;rw[L] at q;rcases avI k listed.size with g|g
       ·simp[g] at t q;rw[t] at q;cases q
       ·simp[Array.getElem?_eq_none g] at q)
      rw[r] at this;cases this
theorem HF {n:Nat}{Q:Ex}{σ:Sg}{a:Act}(b:Rep n σ a.tmps)(h:Dp P n ops Q σ a.defers w):(Code.region id ops aw).wpIn (Fr ro) 0 P (EJ n Q) a w:=by
 unfold Dp at h;cases d:Wx P n ops with
|false=>rw[d,aF] at h;exact Qf b h
|true=>
  rw[d,aG] at h;unfold Wx at d;simp only[auY] at d;obtain⟨-,f,g,i,j,k⟩:=d;obtain⟨S,l,h⟩:=h.out;refine BL f k ?_;have key:=xA.any _ _ _ _ (xZ (S:=S) (E:=eL P ops.toList 0 []) (K:=λσ ds w=>Q .normal σ ds w) (PK:=λc σ ds w=>Q (.panic c) σ ds w) (Q:=λe a w=>match e with
   |.panic c=>lQ n (pmX (Jj (eL P ops.toList 0 []) (Hs ops.toList 0)) (λσ ds w=>Q (.panic c) σ ds w)) a w
   |e=>IF (EJ n Q) e a w) g j i (λc a w=>Iff.rfl) (λa w m=>by obtain⟨σ,b,h⟩:=m;exact⟨σ,b,h⟩) ops.size (Array.replicate ops.size au) σ a { w with drawn:=w.drawn+1 } b (λ_ _ _ _ _ _=>l) h)
  refine ZU ?_ _ _ _ _ key;intro e a w he;cases e<;>first|exact he|skip
  obtain⟨σ,b,h⟩:=he;exact⟨σ,b,Je _ h⟩
theorem Km {P:Program}{n:Nat}{ops:Array Oper}{K:Sg->Prop}{L:Act->Prop}{ds:List Deferred}(g:∀σ a,Rep n σ a.tmps->a.defers=ds->K σ->L a):∀(ms:List (Nat×Oper)) (σ:Sg) (a:Act),Rep n σ a.tmps->a.defers=ds->Kc P n ms K σ->Kb P ops L ms a
|[],σ,a,b,c,h=>g σ a b c h
|p::r,σ,a,b,c,h=>by
  unfold Kc at h;cases d:inB n p.2.dst with
 |false=>rw[d,aF] at h;exact h.elim
 |true=>
   rw[d,aG] at h;cases e:p.2.guard.isNone with
  |false=>rw[e,aF] at h;exact h.elim
  |true=>
    rw[e,aG] at h;have hw:Region.wanted p.2 (yielded ops a.tmps)=true:=by
     have:p.2.guard=none:=by simpa using e
     simp[Region.wanted,this]
    have next:∀v,Kc P n r K (put σ p.2.dst v)->Kb P ops L r (a.put p.2.dst v):=λv i=>
     Km g r (put σ p.2.dst v) (a.put p.2.dst v) (b.put d v) (by rw[<-c];cases p.2.dst<;>rfl) i
    unfold opP at h;split at h
    ·rename_i x f
     refine⟨rd σ x,.inl ⟨hw,λw=>?_⟩,next _ h⟩;rw[b.eval,show execOp (rd σ) p.2=pure (.value (rd σ x)) by unfold execOp;rw[f]];rfl
    ·rename_i x f
     refine⟨rd σ x,.inl ⟨hw,λw=>?_⟩,next _ h⟩;rw[b.eval,show execOp (rd σ) p.2=pure (.value (rd σ x)) by unfold execOp;rw[f]];rfl
    ·obtain⟨v,j,k⟩:=h.out;refine⟨v,.inl ⟨hw,λw=>?_⟩,next _ k⟩;rw[b.eval,<-lP];exact j w
theorem Jv {n:Nat}{Q:Ex}{σ:Sg}{a:Act}(k:Rep n σ a.tmps)(h:Lt P n ops Q σ a.defers w):(Code.region id ops aw).wpIn (Fr ro) 0 P (EJ n Q) a w:=by
 unfold Lt at h;have r:=@aeQ ops.toList (bD P ops.toList);have s:=@adC ops.toList (bD P ops.toList);generalize pL ops.toList (bD P ops.toList)=ms at *;generalize hL ops.toList (bD P ops.toList)=J at *;have d:ops.toList.toArray=ops:=sm
 cases m:((Nat.blt 9 ops.size&&ZQ P ms)&&(P.follows .mixedOrders&&(To ops (bD P ops.toList) ms J&&(Kl n ms&&(IX P (ops.toList.drop (bD P ops.toList))&&sX ops.toList))))) with
|false=>
  rw[m,aF] at h;exact HF k h
|true=>
  rw[m,aG] at h;simp only[auY] at m;obtain⟨-,t,u,x,y,z⟩:=m;obtain⟨C,hC,h⟩:=h.out;refine BL t z ?_;have key:=LH (P:=P) (Q:=IF (EJ n Q)) (Q':=λe a w=>match e with
   |.panic c=>lQ n (pmX ms (λσ ds w=>Q (.panic c) σ ds w)) a w
   |e=>IF (EJ n Q) e a w) (a:=a) (w:=w) (l:=ops.toList) (C:=C) (bD P ops.toList) ms J (by rw[d];exact u) hC
   (λp hp=>xS (r hp)) (λp hp=>xS (s hp))
   (λe a w he=>by
    cases e<;>first|exact he|skip
    obtain⟨σ,k,h⟩:=he;exact⟨σ,k,Je ms h⟩)
   (λp hp v c a w he=>by
    obtain⟨σ',b,o⟩:=he;have f:inB n p.2.dst=true:=by
     have:∀l:List (Nat×Oper),Kl n l=aw->p∈l->inB n p.2.dst=true:=by
      intro l
      induction l with
     |nil=>intro _ h;cases h
     |cons q l L=>
       intro A B;simp only[Kl,auY] at A;rcases auI.1 B with rfl|B
       ·exact A.1
       ·exact L A.2 B
     exact this ms x hp
    cases D:p.2.dst with
   |none=>rw[D] at b o;exact⟨σ',b,o⟩
   |some i=>
     rw[D] at b o f;refine⟨put σ' (ay i) (a.tmps.getD i undef),?_,?_⟩
     ·have:=Rep.put (a:=a.put (ay i) v) b f (a.tmps.getD i undef);have e2:((a.put (ay i) v).put (ay i) (a.tmps.getD i undef)).tmps=a.tmps:=by
       have hi:i < a.tmps.size:=by
        have M:a.tmps.size=n:=by have:=b.size;simpa[Act.put] using this
        have N:i < n:=by simpa[inB,Nat.blt_eq] using f
        rw[M];exact N
       simp only[Act.put];apply aBf;intro j;by_cases g:i=j
       ·subst g;simp[hi]
       ·rw[ayV g,ayV g]
      rwa [e2] at this
     ·have:=Rg (K:=λσ ds w=>Q (.panic c) σ ds w) (a.tmps.getD i undef) p ms hp o;rw[D] at this;exact this) (by
   rw[d];refine Km (ds:=a.defers) (λσ1 O E F G=>?_) ms σ a k rfl h;refine uU (ds:=a.defers) (K:=λσ=>∀w',C w'->ET P ax n ops (λσ ds w=>Q .normal σ ds w) (λc=>pmX ms (λσ ds w=>Q (.panic c) σ ds w)) (ops.toList.drop (bD P ops.toList)) σ a.defers w') ?_ _ σ1 O E F G;intro σ' a' b H R w' I;refine EA (K:=λσ ds w=>Q .normal σ ds w) (PK:=λc=>pmX ms (λσ ds w=>Q (.panic c) σ ds w)) ?_ ?_ _ σ' a' w' y b (by rw[H];exact R w' I)
   ·rintro c a w h;exact h
   ·rintro a w ⟨σ,k,h⟩;exact⟨σ,k,h⟩)
  rw[d] at key;exact key
theorem ED {n:Nat}{B:List (Nat×List Nat)}:∀(c:Code) (ro:Option Nat) (Q:Ex) (σ:Sg) (a:Act) (w:ao),Rep n σ a.tmps->wpX P n aj B ro c Q σ a.defers w->c.wpIn (Fr ro) 0 P (EJ n Q) a w:=by
 intro c
 induction c with
|skip=>intro ro Q σ a w k h;exact wpIn_skip ⟨σ,k,h⟩
|exit id=>intro ro Q σ a w k h;exact wpIn_exit ⟨σ,k,h⟩
|ret=>intro ro Q σ a w k h;exact wpIn_ret ⟨σ,k,h⟩
|region id ops draw=>
  intro ro Q σ a w k h;unfold wpX at h;cases draw with
 |false=>
   rw[aF] at h;refine wpIn_region_list (Ut (K:=λσ ds w=>Q .normal σ ds w) (PK:=λc σ ds w=>Q (.panic c) σ ds w) ?_ ?_ _ σ a w k h)
   ·rintro c a w ⟨σ,k,h⟩;exact⟨σ,k,h⟩
   ·rintro a w ⟨σ,k,h⟩;exact⟨σ,k,h⟩
 |true=>
   rw[aG] at h;have A:ops.toList.toArray=ops:=sm
   cases hw:ND P n ops with
  |true=>rw[hw,aG] at h;exact HF k h
  |false=>
   rw[hw,aF] at h;cases hh:Nat.beq (bD P ops.toList) ops.toList.length with
  |true=>
    rw[hh,aG] at h;cases r:(P.follows .mixedOrders&&(Region.lexB .any ops&&sX ops.toList)) with
   |false=>rw[r,aF] at h;exact Jv k h
   |true=>
     rw[r,aG] at h;simp only[auY] at r;obtain⟨C,hC,h⟩:=h.out;refine BL r.1 r.2.2 (Xj (C:=C) r.2.1 hC ?_);refine uU (ds:=a.defers) (K:=λσ=>∀w',C w'->Q .normal σ a.defers w') ?_ _ σ a k rfl h;intro σ' a' d u m w' E;exact⟨σ',d,by rw[u];exact m w' E⟩
  |false=>
    rw[hh,aF] at h;cases r:(P.follows .mixedOrders&&(Region.lexTailB .any ops (bD P ops.toList)&&(IX P (ops.toList.drop (bD P ops.toList))&&sX ops.toList))) with
   |false=>
     rw[r,aF] at h;clear r;have Y:=VY (ops.toList.take (bD P ops.toList)) 0 [];have Z:=YF (ops.toList.take (bD P ops.toList)) 0 [];generalize mvL (ops.toList.take (bD P ops.toList)) 0 []=ms at *;generalize hdL (ops.toList.take (bD P ops.toList)) 0 []=W at *;cases r:(P.follows .mixedOrders&&(O7 ops (bD P ops.toList) ms W&&(Kl n ms&&(IX P (ops.toList.drop (bD P ops.toList))&&sX ops.toList)))) with
    |false=>
      rw[r,aF] at h;exact Jv k h
    |true=>
      rw[r,aG] at h;simp only[auY] at r;obtain⟨N,O,X,R,S⟩:=r;obtain⟨C,hC,h⟩:=h.out;obtain⟨a1,a6⟩:=Pa ms σ a X k;refine BL N S ?_;have key:=LN (P:=P) (Q:=IF (EJ n Q)) (Q':=λe a w=>match e with
       |.panic c=>lQ n (pmX ms (λσ ds w=>Q (.panic c) σ ds w)) a w
       |e=>IF (EJ n Q) e a w) (a:=a) (w:=w) (l:=ops.toList) (C:=C) (bD P ops.toList) ms W (by rw[A];exact O) hC
       (λp hp=>xS (Y p hp).2) (λp hp=>xS (Z p hp).2)
       (λe a w he=>by
        cases e<;>first|exact he|skip
        obtain⟨σ,k,h⟩:=he;exact⟨σ,k,Je ms h⟩)
       (λp hp v c a w he=>by
        obtain⟨σ',d,M⟩:=he;have T:inB n p.2.dst=true:=by
         have:∀l:List (Nat×Oper),Kl n l=aw->p∈l->inB n p.2.dst=true:=by
          intro l
          induction l with
         |nil=>intro _ h;cases h
         |cons q l ih=>
           intro F J;simp only[Kl,auY] at F;rcases auI.1 J with rfl|J
           ·exact F.1
           ·exact ih F.2 J
         exact this ms X hp
        cases hd:p.2.dst with
       |none=>rw[hd] at d M;exact⟨σ',d,M⟩
       |some i=>
         rw[hd] at d M T;refine⟨put σ' (ay i) (a.tmps.getD i undef),?_,?_⟩
         ·have:=Rep.put (a:=a.put (ay i) v) d T (a.tmps.getD i undef);have e2:((a.put (ay i) v).put (ay i) (a.tmps.getD i undef)).tmps=a.tmps:=by
           have hi:i < a.tmps.size:=by
            have h3:a.tmps.size=n:=by have:=d.size;simpa[Act.put] using this
            have h4:i < n:=by simpa[inB,Nat.blt_eq] using T
            rw[h3];exact h4
           simp only[Act.put];apply aBf;intro j;by_cases U:i=j
           ·subst U;simp[hi]
           ·rw[ayV U,ayV U]
          rwa [e2] at this
         ·have:=Rg (K:=λσ ds w=>Q (.panic c) σ ds w) (a.tmps.getD i undef) p ms hp M;rw[hd] at this;exact this) (by
       rw[A];refine uU (ds:=a.defers) (K:=λσ=>∀w',C w'->ET P ax n ops (λσ ds w=>Q .normal σ ds w) (λc=>pmX ms (λσ ds w=>Q (.panic c) σ ds w)) (ops.toList.drop (bD P ops.toList)) σ a.defers w') ?_ _ (Uy ms σ) (mC ms a) a1 a6 h;intro σ' a' d u m w' E;refine EA (K:=λσ ds w=>Q .normal σ ds w) (PK:=λc=>pmX ms (λσ ds w=>Q (.panic c) σ ds w)) ?_ ?_ _ σ' a' w' R d (by rw[u];exact m w' E)
       ·rintro c a w h;exact h
       ·rintro a w ⟨σ,k,h⟩;exact⟨σ,k,h⟩)
      rw[A] at key;exact key
   |true=>
     rw[r,aG] at h;simp only[auY] at r;obtain⟨N,O,R,S⟩:=r;obtain⟨C,hC,h⟩:=h.out;refine BL N S ?_;have key:=LY (P:=P) (Q:=IF (EJ n Q)) (a:=a) (w:=w) (l:=ops.toList) (C:=C) (bD P ops.toList) (by rw[A];exact O) hC (by
      rw[A];refine uU (ds:=a.defers) (K:=λσ=>∀w',C w'->ET P ax n ops (λσ ds w=>Q .normal σ ds w) (λc σ ds w=>Q (.panic c) σ ds w) (ops.toList.drop (bD P ops.toList)) σ a.defers w') ?_ _ σ a k rfl h;intro σ' a' d u m w' E;refine EA (K:=λσ ds w=>Q .normal σ ds w) (PK:=λc σ ds w=>Q (.panic c) σ ds w) ?_ ?_ _ σ' a' w' R d (by rw[u];exact m w' E)
      ·rintro c a w ⟨σ,k,h⟩;exact⟨σ,k,h⟩
      ·rintro a w ⟨σ,k,h⟩;exact⟨σ,k,h⟩)
     rw[A] at key;exact key
|seq x y z G=>
  intro ro Q σ a w k h;unfold wpX at h;refine wpIn_seq ?_;cases hw:Nat.ble (ways x) 1 with
 |true=>
   rw[hw,aG] at h;refine Code.wpIn_mono ?_ (z _ _ σ a w k h);rintro e a' w' ⟨σ',d,m⟩;cases e with
  |normal=>exact G _ _ σ' a' w' d m
  |_=>exact⟨σ',d,m⟩
 |false=>
   rw[hw,aF] at h;cases hm:mkB ro x with
  |true=>
    rw[hm,aG] at h;have M:=h.out (λds' vs w'=>∀j,wpX P n aj B ro y Q (mix σ (asg x) (look (keyOf y) aj) vs j) ds' w') (λ_ _ _ k=>k);have V:=wpX.eP x _ (λe σ' ds' w'=>Off (asg x) σ σ'∧Of Q (λσ' ds' w'=>(∀j,wpX P n aj B ro y Q (mix σ (asg x) (look (keyOf y) aj) (pick (look (keyOf y) aj) σ') j) ds' w')) e σ' ds' w') (asg x) σ (λi hi=>hi) (λe σ' ds' w' D m=>⟨D,m⟩) σ a.defers w (Off.refl _ _) M;refine Code.wpIn_mono ?_ (z _ _ σ a w k V);rintro e a' w' ⟨σ',d,D,m⟩;cases e with
   |normal=>
     have m:∀j,wpX P n aj B ro y Q (mix σ (asg x) (look (keyOf y) aj) (pick (look (keyOf y) aj) σ') j) a'.defers w':=m;have:=m σ';rw[I8 D] at this;exact G _ _ σ' a' w' d this
   |_=>exact⟨σ',d,m⟩
  |false=>
   rw[hm,aF] at h;have M:=h.out (λvs w'=>∀j,wpX P n aj B ro y Q (mix σ (asg x) (look (keyOf y) aj) vs j) a.defers w') (λ_ _ k=>k);have V:=wpX.eP x _ (λe σ' ds' w'=>Off (asg x) σ σ'∧Of Q (λσ' ds' w'=>AtX ds' a.defers (∀j,wpX P n aj B ro y Q (mix σ (asg x) (look (keyOf y) aj) (pick (look (keyOf y) aj) σ') j) a.defers w')) e σ' ds' w') (asg x) σ (λi hi=>hi) (λe σ' ds' w' D m=>⟨D,m⟩) σ a.defers w (Off.refl _ _) M;refine Code.wpIn_mono ?_ (z _ _ σ a w k V);rintro e a' w' ⟨σ',d,D,m⟩;cases e with
  |normal=>
    obtain⟨u,m⟩:=m.out;have:=m σ';rw[I8 D,<-u] at this;exact G _ _ σ' a' w' d this
  |_=>exact⟨σ',d,m⟩
|cond c x y z G=>
  intro ro Q σ a w k h;unfold wpX at h
  replace h:=h.out
  split at h
  ·rename_i b r
   refine wpIn_cond_split (t:=b) (by rw[k.eval];exact r) (λht=>z _ _ σ a w k (h.1 ht)) (λht=>G _ _ σ a w k (h.2 ht))
  ·exact h.elim
|block id x z=>
  intro ro Q σ a w k h;unfold wpX at h;refine wpIn_block (Code.wpIn_mono ?_ (z _ _ σ a w k h));rintro e a' w' ⟨σ',d,m⟩;cases e with
 |exit j=>
   simp only[Exit.inBlock];rw[KM] at m;cases r:Nat.beq j id with
  |true=>rw[r,aG] at m;rw[auC (beq_iff.1 r)];exact⟨σ',d,m⟩
  |false=>
    rw[r,aF] at m;rw[auB (λe=>by rw[beq_iff.2 e] at r;cases r)];exact⟨σ',d,m⟩
 |_=>exact⟨σ',d,m⟩
|loop x z=>
  intro ro Q σ a w k h;unfold wpX at h;cases hm:mkB ro x with
 |true=>
   rw[hm,aG] at h;obtain⟨I,μ,h0,W⟩:=h.out;refine wpIn_loop (λa' w'=>∃σ',Rep n σ' a'.tmps∧Off (asg x) σ σ'∧I a'.defers (pick (look (keyOf x) B) σ') w')
    (λa' w'=>μ (pick (look (keyOf x) B) (λi=>a'.tmps.getD i undef)) w') ⟨σ,k,Off.refl _ _,h0⟩ ?_
   rintro a' w' ⟨σ',d,D,hI⟩;have e1:(λi=>a'.tmps.getD i undef)=σ':=funext d.get;have F:=W _ _ w' hI σ';rw[I8 D] at F;have J:=wpX.eP x _ (λe σ'' ds' o=>Off (asg x) σ σ''∧Of Q (λσ'' ds' o=>(I ds' (pick (look (keyOf x) B) σ'') o∧μ (pick (look (keyOf x) B) σ'') o < μ (pick (look (keyOf x) B) σ') w')) e σ'' ds' o)
    (asg x) σ (λi hi=>hi) (λe σ' ds' w' D m=>⟨D,m⟩) σ' a'.defers w' D F
   refine Code.wpIn_mono ?_ (z _ _ σ' a' w' d J);rintro e L o ⟨σ'',s,H,m⟩;cases e with
  |normal=>
    obtain⟨k2,k3⟩:I L.defers (pick (look (keyOf x) B) σ'') o∧μ (pick (look (keyOf x) B) σ'') o < μ (pick (look (keyOf x) B) σ') w':=m;refine⟨⟨σ'',s,H,k2⟩,?_⟩;have e2:(λi=>L.tmps.getD i undef)=σ'':=funext s.get;rw[e1,e2];exact k3
  |_=>exact⟨σ'',s,m⟩
 |false=>
  rw[hm,aF] at h;obtain⟨I,μ,h0,W⟩:=h.out;refine wpIn_loop (λa' w'=>∃σ',Rep n σ' a'.tmps∧a'.defers=a.defers∧Off (asg x) σ σ'∧I (pick (look (keyOf x) B) σ') w')
   (λa' w'=>μ (pick (look (keyOf x) B) (λi=>a'.tmps.getD i undef)) w') ⟨σ,k,rfl,Off.refl _ _,h0⟩ ?_
  rintro a' w' ⟨σ',d,u,D,hI⟩;have e1:(λi=>a'.tmps.getD i undef)=σ':=funext d.get;have F:=W _ w' hI σ';rw[I8 D] at F;have J:=wpX.eP x _ (λe σ'' ds' o=>Off (asg x) σ σ''∧Of Q (λσ'' ds' o=>AtX ds' a.defers (I (pick (look (keyOf x) B) σ'') o∧μ (pick (look (keyOf x) B) σ'') o < μ (pick (look (keyOf x) B) σ') w')) e σ'' ds' o)
   (asg x) σ (λi hi=>hi) (λe σ' ds' w' D m=>⟨D,m⟩) σ' a.defers w' D F
  rw[<-u] at J;refine Code.wpIn_mono ?_ (z _ _ σ' a' w' d J);rintro e L o ⟨σ'',s,H,m⟩;cases e with
 |normal=>
   obtain⟨k1,k2,k3⟩:=m.out;refine⟨⟨σ'',s,k1.trans u,H,k2⟩,?_⟩;have e2:(λi=>L.tmps.getD i undef)=σ'':=funext s.get;rw[e1,e2];exact k3
 |_=>exact⟨σ'',s,m⟩
|rangeFunc g ps b1 b a7 a8=>
  intro ro Q σ a w k h;unfold wpX at h;cases hl:RY n ps.toList with
 |false=>rw[hl,aF] at h;exact h.elim
 |true=>
   rw[hl,aG] at h;obtain⟨f,fa,ca,df,w0,F,J,h3,h4⟩:=h.out;exact RW k hl F J h3 (λL0 b0 hY=>h4 L0 b0 hY) a7 a8
|scope x _=>intro ro Q σ a w k h;exact h.elim
|label l=>intro ro Q σ a w k h;exact h.elim
|goto l=>intro ro Q σ a w k h;exact h.elim
|refuse y=>intro ro Q σ a w k h;exact h.elim
inductive RV where
|val (v:aq)
|cell (a:aq) (T:TypeId)
def RV.of (σ:Sg):ResultVar->RV
|.tmp t=>.val (σ t)
|.cell a t=>.cell (σ a) t
def RV.read:RV->Sem aq
|.val v=>pure v
|.cell a t=>do loadVar t (<-asAddr a)
def LW (σ:Sg):List ResultVar->List RV
|[]=>[]
|r::l=>RV.of σ r::LW σ l
def Qp:List RV->Option (List aq)
|[]=>ay []
|.val v::l=>(Qp l).map (v::·)
|.cell ..::_=>ax
def tup:List aq->aq
|[v]=>v
|l=>.tuple l.toArray
def Fh (rs:List RV):Sem Value:=do
 let vs <-rs.toArray.mapM RV.read
 pure (if h:vs.size=1 then vs[0] else .tuple vs)
structure Bw (P:Program) (rs:List RV) (w:ao) (K:Ending->ao->Prop):Prop where
 mk ::
 out:∃v,(Fh rs).run P w=.ok v w∧K (.returned v) w
def RetD (P:Program)(rs:List RV)(w:ao)(K:Ending->ao->Prop):Prop:=
 match Qp rs with
|some l=>K (.returned (tup l)) w
|none=>Bw P rs w K
def Et (P:Program)(rs:List RV)(K:Ending->ao->Prop):List Deferred->FrameMode->ao->Prop
|[],.returning,w=>RetD P rs w K
|[],.panicking c,w=>K (.panicked c) w
|[],.run,_=>False
|d::ds,u,w=>u≠.run∧∃fv cap f args,d.target=.fn fv cap∧(invoke d.target d.args).run P w=.ok (.enter f args) w ∧
   CallsD P f args u w λ
   |.returned _,a,w'=>Et P rs K ds (settle a) w'
   |.panicked chain,a,w'=>Et P rs K ds (raised a chain) w'
   |.outgrown,_,_=>False
def HJ (P:Program)(rs:List RV)(K:Ending->ao->Prop):List Deferred->FrameMode->ao->Prop
|[],.returning,w=>RetD P rs w K
|[],.panicking c,w=>K (.panicked c) w
|[],.run,_=>False
|d::ds,u,w=>u≠.run∧∃r w',d.target=.collected r∧(Instr.takeDeferred r).run P w=.ok [] w'∧HJ P rs K ds u w'
def topM (P:Program)(rs:List ResultVar)(K:Ending->ao->Prop):Ex
|.normal,σ,ds,w=>HJ P (LW σ rs) K ds .returning w
|.ret,σ,ds,w=>HJ P (LW σ rs) K ds .returning w
|.panic c,σ,ds,w=>HJ P (LW σ rs) K ds (.panicking c) w
|_,_,_,_=>False
def topQ (P:Program)(rs:List ResultVar)(K:Ending->ao->Prop):Ex
|.normal,σ,ds,w=>Et P (LW σ rs) K ds .returning w
|.ret,σ,ds,w=>Et P (LW σ rs) K ds .returning w
|.panic c,σ,ds,w=>Et P (LW σ rs) K ds (.panicking c) w
|_,_,_,_=>False
def mP (args:List aq):Sg:=λi=>args.getD i undef
theorem Cv {n:Nat}{σ:Sg}{t:Array aq}(h:Rep n σ t)(fn:Func):results fn t=Fh (LW σ fn.results.toList):=by
 have e:∀l:List ResultVar,(LW σ l).mapM RV.read=l.mapM (λr=>match r with
  |.tmp b=>(pure (t.getD b undef):Sem aq)
  |.cell a ty=>do loadVar ty (<-asAddr (t.getD a undef))):=by
  intro l
  induction l with
 |nil=>rfl
 |cons r l c=>
   simp only[LW,List.mapM_cons];rw[c];cases r<;>simp only[RV.of,RV.read]<;>rw[h.get]
 unfold results Fh
 congr 1
 rw[<-aBg (xs:=fn.results)];rw[List.mapM_toArray,List.mapM_toArray,e];rfl
theorem UI {rs:List RV}{l:List aq}(h:Qp rs=ay l):rs.mapM RV.read=(pure l:Sem (List aq)):=by
 induction rs generalizing l with
|nil=>cases h;rfl
|cons r rs c=>
  cases r with
 |cell a t=>cases h
 |val v=>
   unfold Qp at h;cases b:Qp rs with
  |none=>rw[b] at h;cases h
  |some d=>
    rw[b] at h;cases h;rw[List.mapM_cons,c b];rfl
theorem I2 {rs:List RV}{K:Ending->ao->Prop}(h:RetD P rs w K):∃v,(Fh rs).run P w=.ok v w∧K (.returned v) w:=by
 unfold RetD at h;split at h
 ·rename_i l a
  refine⟨tup l,?_,h⟩;unfold Fh;rw[List.mapM_toArray,UI a];simp only[pure,bind,Sem.bind,Sem.run,Functor.map]
  congr 1
  cases l with
 |nil=>rfl
 |cons v l=>
   cases l with
  |nil=>rfl
  |cons v' l=>simp[tup,Sem.bind,Sem.run]
 ·exact h.out
theorem BO {n:Nat}{σ:Sg}{t:Array aq}(j:Rep n σ t)(fn:Func){K:Ending->ao->Prop}:∀(ds:List Deferred) (u:FrameMode) (w:ao),
  Et P (LW σ fn.results.toList) K ds u w->Leaves P fn t K ds u w:=by
 intro ds
 induction ds with
|nil=>
  intro u w h;cases u with
 |run=>exact h.elim
 |returning=>
   obtain⟨v,a,b⟩:=I2 h;exact⟨v,by rw[Cv j];exact a,b⟩
 |panicking c=>exact h
|cons d ds i=>
  intro u w h;obtain⟨a,fv,cap,f,args,b,k,l⟩:=h;refine⟨a,fv,cap,f,args,b,k,l.mono ?_⟩;intro e m w' g;cases e with
 |returned v=>exact i _ _ g
 |panicked c=>exact i _ _ g
 |outgrown=>exact g.elim
theorem yL {n:Nat}{σ:Sg}{t:Array aq}(g:Rep n σ t)(fn:Func){K:Ending->ao->Prop}:∀(ds:List Deferred) (u:FrameMode) (w:ao),
  HJ P (LW σ fn.results.toList) K ds u w->LeavesInM Fence.wide 0 P fn t K ds u w:=by
 intro ds
 induction ds with
|nil=>
  intro u w h;cases u with
 |run=>exact h.elim
 |returning=>
   obtain⟨v,f,i⟩:=I2 h;exact⟨v,by rw[Cv g];exact f,i⟩
 |panicking c=>exact h
|cons d ds j=>
  intro u w h;obtain⟨f,r,w',e,a,b⟩:=h;exact⟨f,.inl ⟨r,w',e,a,j _ _ b⟩⟩
theorem Gi {args:List aq}{n:Nat}(h:Nat.ble args.length n=aw):Rep n (mP args) (args.toArray++Array.replicate (n - args.toArray.size) undef):=by
 have a:args.length<=n:=by simpa[Nat.ble_eq] using h
 refine⟨by simp;omega,λi=>?_⟩;unfold mP;rw[aBe,auK,Array.getElem?_append];split
 ·simp
 ·rename_i hi
  simp only[List.size_toArray,Nat.not_lt] at hi;rw[awV hi,Array.getElem?_replicate];split<;>rfl
theorem HW {f:FuncId}{c:Code}{args:List aq}{K:Ending->ao->Prop}{n:Nat}{i:List (Nat×List Nat)}{rs:List ResultVar}
  (j:P.funcs[f]?=ay fn) (k:fn.body=ay c) (m:fn.ntmps=n) (d:fn.results.toList=rs) (o:Nat.ble args.length n=aw)
  (h:wpX P n aj i ax c (topQ P rs K) (mP args) [] w):Calls P f args.toArray w K:=by
 refine calls_of_wp_defers j k ?_;rw[m];refine Code.wp_mono ?_ (wpIn_wide.1 (ED c ax _ (mP args) _ w (Gi o) h));rintro e a w' ⟨σ,g,b⟩;subst d;cases e with
|normal=>exact BO g fn _ _ _ b
|ret=>exact BO g fn _ _ _ b
|panic p=>exact BO g fn _ _ _ b
|exit id=>exact b.elim
|goto l=>exact b.elim
|outgrown=>exact b.elim
theorem Pp {f:FuncId}{c:Code}{args:List aq}{K:Ending->ao->Prop}{n:Nat}{i:List (Nat×List Nat)}{rs:List ResultVar}
  (j:P.funcs[f]?=ay fn) (k:fn.body=ay c) (m:fn.ntmps=n) (d:fn.results.toList=rs) (o:Nat.ble args.length n=aw)
  (h:wpX P n aj i ax c (topM P rs K) (mP args) [] w):Calls P f args.toArray w K:=by
 refine (callsIn_wide (n:=0)).1 (callsIn_of_wp_marks j k trivial ?_);rw[m];refine Code.wpIn_mono ?_ (ED c ax _ (mP args) _ w (Gi o) h);rintro e a w' ⟨σ,g,b⟩;subst d;cases e with
|normal=>exact yL g fn _ _ _ b
|ret=>exact yL g fn _ _ _ b
|panic p=>exact yL g fn _ _ _ b
|exit id=>exact b.elim
|goto l=>exact b.elim
|outgrown=>exact b.elim
end Eng
end
namespace Eng
def CX (fn:Func):Code:=fn.body.getD .skip
def dfrV (v:aq)(args:Array aq):Option Deferred:=
 match v with
|.func fn first captured=>ay { target:=.fn fn captured,args:=first++args }
|_=>ax
def pk (K:Ending->ao->Prop):PKT:=λc w=>K (.panicked c) w
def pd (P:Program)(rs:List RV)(K:Ending->ao->Prop)(ds:List Deferred):PKT:=λc w=>Et P rs K ds (.panicking c) w
def pdM (P:Program)(rs:List RV)(K:Ending->ao->Prop)(ds:List Deferred):PKT:=λc w=>HJ P rs K ds (.panicking c) w
def pkR:PKT:=λ_ _=>False
def pm1 (PK:PKT):PKT:=λc w=>∀_:aq,PK c w
def az:Nat->PKT->PKT
 |0,p=>p
 |n+1,p=>pm1 (az n p)
def aaV:Code->Code
|.seq _ b=>b
|c=>c
def Ax:FrameMode->aq
|.panicking ({ v,recovered:=au,goexit:=au }::_)=>v
|_=>.nilIface
def CK:FrameMode->FrameMode
|.panicking ({ v,recovered:=au,goexit:=au }::a)=>.panicking ({ v,recovered:=aw }::a)
|u=>u
def topD (P:Program)(rs:List ResultVar)(K:Ending->ao->Prop):Ex
|.normal,σ,[],w=>RetD P (LW σ rs) w K
|.ret,σ,[],w=>RetD P (LW σ rs) w K
|.panic c,_,[],w=>K (.panicked c) w
|_,_,_,_=>False
theorem rec_eq (a:Frame)(cs:List Frame):(match recoverD (a::cs) with
 |some (v,b)=>(v,b)
 |none=>(.nilIface,a::cs))=(Ax a.mode,{ a with mode:=CK a.mode }::cs):=by
 have f:({ a with mode:=a.mode }:Frame)=a:=rfl;cases hm:a.mode with
|run=>simp[recoverD,Ax,CK,hm];rw[<-hm]
|returning=>simp[recoverD,Ax,CK,hm];rw[<-hm]
|panicking d=>
  cases d with
 |nil=>simp[recoverD,Ax,CK,hm];rw[<-hm]
 |cons e c=>
   obtain⟨v,r,g⟩:=e;cases r<;>cases g<;>simp[recoverD,Ax,CK,hm]<;>rw[<-hm]
theorem Dl {f:FuncId}{o:Oper}{rest:Code}{args:List aq}{n:Nat}{t:List (Nat×List Nat)}{rs:List ResultVar}
  (y:P.funcs[f]?=ay fn) (z:fn.body=ay (.seq (.region id #[o] au) rest)) (A:o.op=.call { callee:=.builtin .recover,args:=#[],argTypes:=#[] }) (B:o.guard=ax) (s:o.dst=ay d) (m:Nat.blt d n=aw)
  (C:fn.ntmps=n) (p:fn.results.toList=rs) (D:Nat.ble args.length n=aw)
  (h:wpX P n aj t ax rest (topD P rs (λe w'=>R e (CK u) w')) (upd (mP args) d (Ax u)) [] w):CallsD P f args.toArray u w R:=by
 refine callsD_of_wpS y z λg cs hu=>?_;rw[C];refine wpS_seq (wpS_region ?_);have hex:∀ρ:Operand->aq,(execOp ρ o).run P w=.ok .recover w:=by
  intro ρ;unfold execOp;rw[A];simp[resolve,invoke,builtin,bind,pure,Sem.bind,Sem.run]
 have i:=Gi (args:=args) D;have j:Rep n (upd (mP args) d (Ax u)) (({ tmps:=args.toArray++Array.replicate (n - args.toArray.size) undef,defers:=[] }:Act).put o.dst (Ax u)).tmps:=by
  rw[s];exact Rep.put (a:={ tmps:=args.toArray++Array.replicate (n - args.toArray.size) undef,defers:=[] }) i (d:=ay d) m (Ax u)
 have key:Exit.thenS (rest.wpS P (bodyPostS P fn g cs R)) (bodyPostS P fn g cs R) .normal (({ tmps:=args.toArray++Array.replicate (n - args.toArray.size) undef,defers:=[] }:Act).put o.dst (Ax u)) ({ g with mode:=CK u }::cs) w:=by
  refine wpS_of_wp (Code.wp_mono ?_ (wpIn_wide.1 (ED rest ax _ _ _ w j (by rw[s];exact h))));rintro e a w' ⟨σ,E,b⟩;have k:∀K:Ending->ao->Prop,RetD P (LW σ rs) w' K->∃v,(results fn a.tmps).run P w'=.ok v w'∧K (.returned v) w':=λK b=>by
   rw[Cv E,p];exact I2 b
  generalize c:a.defers=ds at b;cases e<;>cases ds<;>first|(exact b.elim;done)|skip
  ·obtain⟨v,q,r⟩:=k (λe w'=>R e (CK u) w') b;exact⟨c,CK u,rfl,v,q,r⟩
  ·obtain⟨v,q,r⟩:=k (λe w'=>R e (CK u) w') b;exact⟨c,CK u,rfl,v,q,r⟩
  ·exact⟨c,CK u,rfl,b⟩
 have e:=rec_eq g cs;rw[hu] at e;show wpOpsS P #[o] _ [0] _ (g::cs) w;unfold wpOpsS;simp only[aBh,ayW];rw[auC (by simp[Region.wanted,B])];rw[hex];cases l:recoverD (g::cs) with
|none=>
  rw[l] at e;simp only[ayJ] at e;simp only[wpOpsS];rw[e.1,e.2];exact key
|some x=>
  obtain⟨v,F⟩:=x;rw[l] at e;simp only[ayJ] at e;simp only[wpOpsS];rw[e.1,e.2];exact key
end Eng
section
namespace Eng
open Go.RowKit
section
variable {P:Program}{w:ao}{PK:PKT}{K:VWP}
theorem aD {m:Sem Next}(h:m.run P w=.ok (.value v) w'):DoX P m w PK K=K v w':=
 propext ⟨λx=>by have:=x.out;rw[h] at this;exact this,λx=>⟨by rw[h];exact x⟩⟩
theorem vZ {m:Sem Next}(h:m.run P w=.ok (.value v) w')(k:K v w'):DoX P m w PK K:=(aD h).mpr k
theorem D1 {m:Sem Next}(h:m.run P w=.ok .skip w')(k:K undef w'):DoX P m w PK K:=⟨by rw[h];exact k⟩
theorem abI {m:Sem Next}(h:m.run P w=.halt (.panic v) w'):DoX P m w PK K=PK [{ v,recovered:=au }] w':=
 propext ⟨λx=>by have:=x.out;rw[h] at this;exact this,λx=>⟨by rw[h];exact x⟩⟩
theorem cJ {s:Sem aq}(h:s.run P w=.ok v w'):(mv s).run P w=.ok (.value v) w':=by
 simp[mv,h]
theorem Kr {s:Sem Unit}(h:s.run P w=.ok () w'):(mu s).run P w=.ok .skip w':=by
 simp[mu,h]
theorem gR {s:Sem aq}(h:s.run P w=.ok v w'):DoX P (mv s) w PK K=K v w':=aD (cJ h)
theorem OA {T:TypeId}{k:IntKind}{a b:Int}:DoX P (iQ .add T (.int k a) (.int k b)) w PK K=K (.int k (k.wrap (a+b))) w:=gR (by simp[binOp,Op.intArith])
theorem amO {T:TypeId}{k:IntKind}{a b:Int}:DoX P (iQ .sub T (.int k a) (.int k b)) w PK K=K (.int k (k.wrap (a - b))) w:=gR (by simp[binOp,Op.intArith])
theorem arH {T:TypeId}{k:IntKind}{a b:Int}:DoX P (iQ .mul T (.int k a) (.int k b)) w PK K=K (.int k (k.wrap (a*b))) w:=gR (by simp[binOp,Op.intArith])
theorem aoC {T:TypeId}{k:IntKind}{a b:Int}:DoX P (iQ .lss T (.int k a) (.int k b)) w PK K=K (.bool (ai (a < b))) w:=gR (by simp[binOp,Op.intCmp])
theorem ZK {T:TypeId}{k:IntKind}{a b:Int}:DoX P (iQ .leq T (.int k a) (.int k b)) w PK K=K (.bool (ai (a<=b))) w:=gR (by simp[binOp,Op.intCmp])
theorem arL {T:TypeId}{k:IntKind}{a b:Int}:DoX P (iQ .gtr T (.int k a) (.int k b)) w PK K=K (.bool (ai (b < a))) w:=gR (by simp[binOp,Op.intCmp])
theorem asT {T:TypeId}{k:IntKind}{a b:Int}:DoX P (iQ .geq T (.int k a) (.int k b)) w PK K=K (.bool (ai (b<=a))) w:=gR (by simp[binOp,Op.intCmp])
theorem Fk {T:TypeId}{k:IntKind}{b:Int}:(iQ .add T (.int k a) (.int k b)).run P w=.ok (.value (.int k (k.wrap (a+b)))) w:=cJ (by simp[binOp,Op.intArith])
theorem sZ {T:TypeId}{k:IntKind}{b:Int}:(iQ .sub T (.int k a) (.int k b)).run P w=.ok (.value (.int k (k.wrap (a - b)))) w:=cJ (by simp[binOp,Op.intArith])
theorem aoD {T:TypeId}{k:IntKind}{b:Int}:(iQ .mul T (.int k a) (.int k b)).run P w=.ok (.value (.int k (k.wrap (a*b)))) w:=cJ (by simp[binOp,Op.intArith])
theorem arY {T:TypeId}{k:IntKind}{b:Int}(h:b≠0):(iQ .quo T (.int k a) (.int k b)).run P w=.ok (.value (.int k (k.wrap (a.tdiv b)))) w:=cJ (by simp[binOp,Op.intDiv,h])
theorem RM {T:TypeId}{k:IntKind}{b:Int}(h:b≠0):DoX P (iQ .quo T (.int k a) (.int k b)) w PK K=K (.int k (k.wrap (a.tdiv b))) w:=gR (by simp[binOp,Op.intDiv,h])
theorem NA {T:TypeId}{k:IntKind}{b:Int}(h:b≠0):DoX P (iQ .rem T (.int k a) (.int k b)) w PK K=K (.int k (a.tmod b)) w:=gR (by simp[binOp,Op.intDiv,h])
theorem V4 (a b:Int):(a==b)=ai (a=b):=by by_cases h:a=b<;>simp[h]
theorem ahM (a b:Int):(a != b)=ai (a≠b):=by by_cases h:a=b<;>simp[h]
theorem alN {T:TypeId}{xo yo:Operand}{k:IntKind}{a b:Int}:DoX P (mEq .eql T xo yo (.int k a) (.int k b)) w PK K=K (.bool (ai (a=b))) w:=gR (by simp[eqGuard,binOp,Op.intCmp,V4])
theorem abW {T:TypeId}{xo yo:Operand}{k:IntKind}{a b:Int}:DoX P (mEq .neq T xo yo (.int k a) (.int k b)) w PK K=K (.bool (ai (a≠b))) w:=gR (by simp[eqGuard,binOp,Op.intCmp,ahM])
theorem apW {k:IntKind}{a:Int}:DoX P (mUn .neg (.int k a)) w PK K=K (.int k (k.wrap (-a))) w:=gR (by simp[Op.unary,Op.intArith])
theorem PQ {b:Bool}:DoX P (mUn .not (.bool b)) w PK K=K (.bool (!b)) w:=gR (by simp[Op.unary])
theorem acI {S:TypeId}{k:IntKind}{n:Int}(a:(P.underlying S).isSome=aw)(b:P.underlying D=ay (.int k')):DoX P (tG S D (.int k n)) w PK K=K (.int k' (k'.wrap n)) w:=by
 cases h:P.underlying S with
|none=>rw[h] at a;cases a
|some d=>exact gR (by simp[convert,run_underlying h,run_underlying b,Conv.intToInt])
theorem Nb {c:Bool}{a b:aq}:DoX P (iB (.bool c) a b) w PK K=K (if c then a else b) w:=aD (by simp[iB,asBool])
theorem aoL {b:Bool}{E:(VWP)->Prop}:GDo (.bool b) aw E w K=((b=aw->E K)∧(b=au->K undef w)):=by
 refine propext ⟨λx=>?_,λx=>⟨?_⟩⟩
 ·have:=x.out;cases b
  ·exact⟨λh=>(by cases h),λ_=>this⟩
  ·exact⟨λ_=>this,λh=>(by cases h)⟩
 ·cases b
  ·exact x.2 rfl
  ·exact x.1 rfl
theorem agO {b:Bool}{E:(VWP)->Prop}:GDo (.bool b) au E w K=((b=au->E K)∧(b=aw->K undef w)):=by
 refine propext ⟨λx=>?_,λx=>⟨?_⟩⟩
 ·have:=x.out;cases b
  ·exact⟨λ_=>this,λh=>(by cases h)⟩
  ·exact⟨λh=>(by cases h),λ_=>this⟩
 ·cases b
  ·exact x.1 rfl
  ·exact x.2 rfl
theorem Bj {b:Bool}{A B:Prop}:IfX (.bool b) A B=((b=aw->A)∧(b=au->B)):=propext ⟨λx=>x.out,λx=>⟨x⟩⟩
theorem O2 {E:(VWP)->Prop}:GDo (.bool aw) aw E w K=E K:=propext ⟨λx=>x.out,λx=>⟨x⟩⟩
theorem g_ft {E:(VWP)->Prop}:GDo (.bool au) aw E w K=K undef w:=propext ⟨λx=>x.out,λx=>⟨x⟩⟩
theorem g_ff {E:(VWP)->Prop}:GDo (.bool au) au E w K=E K:=propext ⟨λx=>x.out,λx=>⟨x⟩⟩
theorem g_tf {E:(VWP)->Prop}:GDo (.bool aw) au E w K=K undef w:=propext ⟨λx=>x.out,λx=>⟨x⟩⟩
theorem i_t {A B:Prop}:IfX (.bool aw) A B=A:=propext ⟨λx=>x.out.1 rfl,λx=>⟨⟨λ_=>x,λh=>(by cases h)⟩⟩⟩
theorem i_f {A B:Prop}:IfX (.bool au) A B=B:=propext ⟨λx=>x.out.2 rfl,λx=>⟨⟨λh=>(by cases h),λ_=>x⟩⟩⟩
theorem p_t {a b:aq}:DoX P (iB (.bool aw) a b) w PK K=K a w:=Nb
theorem p_f {a b:aq}:DoX P (iB (.bool au) a b) w PK K=K b w:=Nb
theorem nn_t:(!aw)=false:=rfl
theorem nn_f:(!au)=true:=rfl
theorem asM {p:Prop}[Decidable p]:(decide p=aw)=p:=sm
theorem atF {p:Prop}[Decidable p]:(decide p=au)=¬p:=sm
theorem asC {b:Bool}:((!b)=aw)=(b=au):=sm
theorem auA {b:Bool}:((!b)=au)=(b=aw):=sm
theorem aqR:(aw=aw)=True:=sm
theorem aqQ:(aw=au)=False:=sm
theorem aqM:(au=aw)=False:=sm
theorem arE:(au=au)=True:=sm
theorem dX (l:List UInt8):(⟨l.toArray⟩:ByteArray).size=l.length:=by simp[ByteArray.size]
theorem lF (l:List UInt8):(⟨l.toArray⟩:ByteArray).toList=l:=by
 rw[ByteArray.toList_eq]
theorem UZ (a b:List UInt8):(⟨a.toArray⟩++⟨b.toArray⟩:ByteArray)=⟨(a++b).toArray⟩:=by
 apply ByteArray.ext;simp
theorem Jn {s:ByteArray}:s=⟨s.data.toList.toArray⟩:=by
 cases s;simp
theorem ajC {T:TypeId}{a b:List UInt8}(h:a.length+b.length<=9223372036854775807):DoX P (iQ .add T (ae a) (ae b)) w PK K=K (ae (a++b)) w:=by
 refine gR ?_;have e:IntKind.i64.max=9223372036854775807:=rfl;have e2:¬(((⟨a.toArray⟩:ByteArray).size+(⟨b.toArray⟩:ByteArray).size:Nat):Int)>IntKind.i64.max:=by rw[dX,dX,e];omega
 simp only[binOp,Op.stringOp,auB e2,UZ];rfl
theorem K3 {T:TypeId}{xo yo:Operand}{a b:List UInt8}:DoX P (mEq .eql T xo yo (ae a) (ae b)) w PK K=K (.bool (ai (a=b))) w:=by
 refine gR ?_;have e:(a==b)=ai (a=b):=by by_cases h:a=b<;>simp[h]
 simp[eqGuard,binOp,Op.stringOp,lF,e]
theorem ahX {T:TypeId}{xo yo:Operand}{a b:List UInt8}:DoX P (mEq .neq T xo yo (ae a) (ae b)) w PK K=K (.bool (ai (a≠b))) w:=by
 refine gR ?_;have e:(a==b)=ai (a=b):=by by_cases h:a=b<;>simp[h]
 simp[eqGuard,binOp,Op.stringOp,lF,e]
theorem aiM {T:TypeId}{a b:List UInt8}:DoX P (iQ .lss T (ae a) (ae b)) w PK K=K (.bool (Op.bytesLess a b)) w:=gR (by simp[binOp,Op.stringOp,lF])
theorem asO {T:TypeId}{a b:List UInt8}:DoX P (iQ .leq T (ae a) (ae b)) w PK K=K (.bool (Op.bytesLess a b||a==b)) w:=gR (by simp[binOp,Op.stringOp,lF])
theorem atJ {T:TypeId}{a b:List UInt8}:DoX P (iQ .gtr T (ae a) (ae b)) w PK K=K (.bool (!(Op.bytesLess a b||a==b))) w:=gR (by simp[binOp,Op.stringOp,lF])
theorem asJ {T:TypeId}{a b:List UInt8}:DoX P (iQ .geq T (ae a) (ae b)) w PK K=K (.bool (!(Op.bytesLess a b))) w:=gR (by simp[binOp,Op.stringOp,lF])
theorem iU {T:TypeId}{cs:Array Bool}{a:List UInt8}(h:P.underlying T=ay .string):DoX P (mB .len #[T] U cs #[ae a]) w PK K=K (ad (a.length:Int)) w:=by
 refine aD ?_;simp[mB,builtin,Builtin.len_,run_underlying h,goInt,dX]
theorem s_ix {T:TypeId}{k:IntKind}{i:Int}{a:List UInt8}{c:UInt8}(h:P.underlying T=ay .string)(b:0<=i)(d:a[i.toNat]?=ay c):DoX P (mIx T (ae a) (.int k i)) w PK K=K (.int .u8 (c.toNat:Int)) w:=by
 refine gR ?_;have e:(⟨a.toArray⟩:ByteArray)[i.toNat]?=ay c:=by
  have f:i.toNat < a.length:=(auV.1 d).1;have g:i.toNat < (⟨a.toArray⟩:ByteArray).size:=by rw[dX];exact f
  rw[getElem?_pos (⟨a.toArray⟩:ByteArray) i.toNat g];have j:=(auV.1 d).2;rw[<-j];rfl
 simp only[Instr.index,asIntOf,run_underlying h,b,e];simp[b,e,run_underlying h]
theorem ajN {T:TypeId}{a:List UInt8}{k:IntKind}(h:P.underlying T=ay .string)(b:0<=lo)(d:lo<=hi)(c:hi<=a.length) :
  DoX P (fJ T (ae a) (ay (.int k lo)) (ay (.int k' hi)) ax) w PK K=K (ae ((a.drop lo.toNat).take (hi.toNat - lo.toNat))) w:=by
 refine gR ?_;have e:(⟨a.toArray⟩:ByteArray).extract lo.toNat hi.toNat=⟨((a.drop lo.toNat).take (hi.toNat - lo.toNat)).toArray⟩:=by
  rw[Jn (s:=(⟨a.toArray⟩:ByteArray).extract lo.toNat hi.toNat),Lib.extract_data]
 have g1:(0<=hi∧hi<=((a.length:Nat):Int)):=om
 have g2:(0<=lo∧lo<=((hi.toNat:Nat):Int)):=om
 simp only[Instr.sliceAt,Instr.slice,Instr.sliceBounds,Instr.sliceBound,asIntOf,run_underlying h,dX];have g3:lo<=max hi 0:=om
 simp[run_underlying h,dX,c,g3,b,g1.1,e]
theorem TH {T:TypeId}{a:List UInt8}{k:IntKind}(h:P.underlying T=ay .string)(b:0<=lo)(c:lo<=a.length) :
  DoX P (fJ T (ae a) (ay (.int k lo)) ax ax) w PK K=K (ae (a.drop lo.toNat)) w:=by
 refine gR ?_;have e:(⟨a.toArray⟩:ByteArray).extract lo.toNat a.length=⟨(a.drop lo.toNat).toArray⟩:=by
  rw[Jn (s:=(⟨a.toArray⟩:ByteArray).extract lo.toNat a.length),Lib.extract_data];rw[avE sm]
 have g2:(0<=lo∧lo<=((a.length:Nat):Int)):=om
 simp only[Instr.sliceAt,Instr.slice,Instr.sliceBounds,Instr.sliceBound,asIntOf,run_underlying h,dX];simp[run_underlying h,dX,b,c,e]
theorem aoH {T:TypeId}{a:List UInt8}(h:P.underlying T=ay .string)(b:0<=hi)(c:hi<=a.length) :
  DoX P (fJ T (ae a) ax (ay (.int k' hi)) ax) w PK K=K (ae (a.take hi.toNat)) w:=by
 refine gR ?_;have e:(⟨a.toArray⟩:ByteArray).extract 0 hi.toNat=⟨(a.take hi.toNat).toArray⟩:=by
  rw[Jn (s:=(⟨a.toArray⟩:ByteArray).extract 0 hi.toNat),Lib.extract_data];simp
 have g1:(0<=hi∧hi<=((a.length:Nat):Int)):=om
 simp only[Instr.sliceAt,Instr.slice,Instr.sliceBounds,Instr.sliceBound,asIntOf,run_underlying h,dX];simp[run_underlying h,dX,b,c,e]
theorem vY {l:List aq}(h:l[i]?=ay v):DoX P (Ag (.tuple l.toArray) i) w PK K=K v w:=gR (by simp[Instr.extract,h])
theorem tZ {fn:Fn}{a b:Array aq}:DoX P (QQ fn a b) w PK K=K (.func fn a b) w:=gR rfl
theorem atU {a:Addr}:DoX P (JL (.pointer (ay a))) w PK K=K (.pointer (ay a)) w:=aD (by simp[JL,execOp])
theorem K8 {T:TypeId}{x:aq}:DoX P (H6 (.iface T x)) w PK K=PK [{ v:=.iface T x,recovered:=au }] w:=by
 have h:(H6 (.iface T x)).run P w=.halt (.panic (.iface T x)) w:=by simp[H6,mv,Instr.panic,goPanic,Sem.run,bind,Sem.bind]
 exact abI h
def nQ (P:Program)(T:TypeId):Bool:=match P.underlying T with|some (.interface _)=>au|some _=>aw|none=>au
theorem Nh {T:TypeId}{x:aq}(h:nQ P T=aw):DoX P (acZ T x) w PK K=K (.iface T x) w:=by
 unfold nQ at h;cases hu:P.underlying T with
|none=>rw[hu] at h;cases h
|some d=>
  rw[hu] at h;refine gR ?_;cases d<;>first|(cases h;done)|simp[Instr.makeInterface,run_underlying hu]
theorem Mh {T:TypeId}(h:P.underlying T=ay (.interface ms)):(Op.equal T .nilIface .nilIface).run P w=.ok aw w:=by
 show (Op.equalIn (9999+1) T .nilIface .nilIface).run P w=_;rw[Op.equalIn];simp[run_underlying h]
theorem Le {T:TypeId}(h:P.underlying T=ay (.interface ms)):(Op.equal T (.iface U v) .nilIface).run P w=.ok au w:=by
 show (Op.equalIn (9999+1) T (.iface U v) .nilIface).run P w=_;rw[Op.equalIn];simp[run_underlying h]
theorem VN {T:TypeId}(h:P.underlying T=ay (.interface ms)):DoX P (mEq .eql T xo (.const c) .nilIface .nilIface) w PK K=K (.bool aw) w:=by
 refine gR ?_;have e:(eqGuard .eql T xo (.const c) .nilIface .nilIface)=pure ():=by cases xo<;>rfl
 rw[e];simp[binOp,Mh h]
theorem acV {T:TypeId}(h:P.underlying T=ay (.interface ms)):DoX P (mEq .eql T xo yo (.iface U v) .nilIface) w PK K=K (.bool au) w:=by
 refine gR ?_;have e:(eqGuard .eql T xo yo (.iface U v) .nilIface)=pure ():=rfl;rw[e];simp[binOp,Le h]
theorem ajI {T:TypeId}(h:P.underlying T=ay (.interface ms)):DoX P (mEq .neq T xo (.const c) .nilIface .nilIface) w PK K=K (.bool au) w:=by
 refine gR ?_;have e:(eqGuard .neq T xo (.const c) .nilIface .nilIface)=pure ():=by cases xo<;>rfl
 rw[e];simp[binOp,Mh h]
theorem adM {T:TypeId}(h:P.underlying T=ay (.interface ms)):DoX P (mEq .neq T xo yo (.iface U v) .nilIface) w PK K=K (.bool aw) w:=by
 refine gR ?_;have e:(eqGuard .neq T xo yo (.iface U v) .nilIface)=pure ():=rfl;rw[e];simp[binOp,Le h]
theorem Z1 {A a:TypeId}(h:nQ P A=aw):DoX P (mTA (.iface A v) a A aw) w PK K=K (.tuple #[v,.bool aw]) w:=by
 unfold nQ at h;cases hu:P.underlying A with
|none=>rw[hu] at h;cases h
|some d=>
  rw[hu] at h;refine gR ?_;cases d<;>first|(cases h;done)|simp[Instr.typeAssert,run_underlying hu]
def wT (R:VWP):Ending->ao->Prop:=λe w'=>∃v,e=.returned v∧R v w'
theorem vG {R:VWP}(h:R v w):wT R (.returned v) w:=⟨v,rfl,h⟩
def Ret (P:Program)(f:Nat)(args:Array aq)(w:ao)(R:VWP):Prop:=Calls P f args w (wT R)
theorem aX {R:VWP}(h:∀K:Ending->ao->Prop,(∀v w',R v w'->K (.returned v) w')->Calls P f args w K):Ret P f args w R:=h _ (λv w' r=>vG r)
def PanK (R:PKT):Ending->ao->Prop:=λe w'=>∃c,e=.panicked c∧R c w'
theorem panK {R:PKT}{c:List PanicEntry}(h:R c w):PanK R (.panicked c) w:=⟨c,rfl,h⟩
def Pan (P:Program)(f:Nat)(args:Array aq)(w:ao)(R:PKT):Prop:=Calls P f args w (PanK R)
theorem XC {R:PKT}(h:∀K:Ending->ao->Prop,(∀v w',R v w'->K (.panicked v) w')->Calls P f args w K):Pan P f args w R:=h _ (λv w' r=>panK r)
theorem Ret.mono {f:Nat}{args:Array aq}{R R':VWP}(h:Ret P f args w R)(k:∀v w',R v w'->R' v w'):Ret P f args w R':=
 Calls.mono h λ_ _ ⟨v,he,a⟩=>⟨v,he,k _ _ a⟩
theorem Eh {R:VWP}(h:Ret P f args w R)(k:∀v w',R v w'->K v w'):cR P f args w PK K:=
 ⟨Calls.mono h λe w' ⟨v,he,a⟩=>by subst he;exact k _ _ a⟩
theorem BJ (h:Ret P f args w (λv' w'=>v'=v∧w=w'))(k:K v w):cR P f args w PK K:=
 Eh h λv' w' ⟨a,hw⟩=>by subst a;subst hw;exact k
theorem ahD {R:PKT}(h:Pan P f args w R)(k:∀c w',R c w'->PK c w'):cR P f args w PK K:=
 ⟨Calls.mono h λe w' ⟨v,he,a⟩=>by subst he;exact k _ _ a⟩
theorem gK {R:Ending->ao->Prop}(h:Calls P f args w R)(k:∀e w',R e w'->He K PK e w'):cR P f args w PK K:=
 ⟨Calls.mono h k⟩
theorem LB (hp:cW P f=aw)(h:cR P f (fa++args++ca) w PK K):DoX P (iO (.func (.func f) fa ca) args) w PK K:=by
 refine⟨?_⟩;have e:(iO (.func (.func f) fa ca) args).run P w=.ok (.enter f (fa++args++ca)) w:=by
  unfold iO;simp only[Deferred.ofValue,invoke,bind,pure,Sem.bind];exact jT hp _ _
 rw[e];exact h
end
theorem join {F:(List aq->ao->Prop)->Prop}{R:List aq->ao->Prop}(h:∀J:List aq->ao->Prop,(∀vs w,R vs w->J vs w)->F J):Fq F R:=⟨h⟩
def Vg (I:List aq->ao->Prop)(μ:List aq->ao->Nat)(vs:List aq)(w:ao):List aq->ao->Prop:=λvs' w'=>I vs' w'∧μ vs' w' < μ vs w
theorem bC {I:List aq->ao->Prop}{μ:List aq->ao->Nat}{vs vs':List aq}(h:I vs' w')(hm:μ vs' w' < μ vs w):Vg I μ vs w vs' w':=⟨h,hm⟩
theorem loop {vs:List aq}{F:List aq->ao->(List aq->ao->Prop)->Prop}(I:List aq->ao->Prop)(μ:List aq->ao->Nat)
  (a:I vs w) (b:∀vs w,I vs w->F vs w (Vg I μ vs w)):Es vs w F:=⟨I,μ,a,b⟩
theorem quiet {F:(ao->Prop)->Prop}(h:F (Below w.heap.size w)):oY w F:=⟨_,(Below.refl _ _).drew,h⟩
theorem cY {F:(ao->Prop)->Prop}(C:ao->Prop)(hC:C w.drew)(h:F C):oY w F:=⟨C,hC,h⟩
section
variable {P:Program}{C:ao->Prop}{K:aq->Prop}
theorem dY {m:Sem Next}(v:aq)(h:∀w,m.run P w=.ok (.value v) w)(k:K v):QDo P C m K:=
 ⟨v,λw _=>by rw[h w];exact⟨rfl,rfl⟩,k⟩
theorem gA {m:Sem Next}(v:aq)(h:∀w,C w->m.run P w=.ok (.value v) w)(k:K v):QDo P C m K:=
 ⟨v,λw hw=>by rw[h w hw];exact⟨rfl,rfl⟩,k⟩
theorem fY (v:aq)(h:∀w,C w->Ret P f args w (λv' w'=>v'=v∧C w'))(k:K v):Fj P C f args K:=
 ⟨v,λw hw=>Calls.mono (h w hw) λ_ _ ⟨_,he,a,b⟩=>⟨by rw[he,a],b⟩,k⟩
end
def rs:=And.intro @OA (And.intro @amO (And.intro @arH (And.intro @aoC (And.intro @ZK (And.intro @arL (And.intro @asT (And.intro @alN (And.intro @abW (And.intro @apW (And.intro @PQ (And.intro @p_t (And.intro @p_f (And.intro @O2 (And.intro @g_ft (And.intro @g_ff (And.intro @g_tf (And.intro @i_t (And.intro @i_f (And.intro @K3 (And.intro @ahX (And.intro @aiM (And.intro @asO (And.intro @atJ (And.intro @asJ (And.intro @tZ (And.intro @atU (And.intro @K8 (And.intro @nn_t (@nn_f)))))))))))))))))))))))))))))
def sp:=And.intro @Nb (And.intro @aoL (And.intro @agO (And.intro @Bj (And.intro @asM (And.intro @atF (And.intro @asC (And.intro @auA (And.intro @aqR (And.intro @aqQ (And.intro @aqM (@arE)))))))))))
theorem gd0 {a:aq}{l:List aq}:(a::l).getD 0 undef=a:=rfl
theorem gd1 {a b:aq}{l:List aq}:(a::b::l).getD 1 undef=b:=rfl
theorem gd2 {a b c:aq}{l:List aq}:(a::b::c::l).getD 2 undef=c:=rfl
theorem gd3 {a b c d:aq}{l:List aq}:(a::b::c::d::l).getD 3 undef=d:=rfl
theorem gd4 {a b c d e:aq}{l:List aq}:(a::b::c::d::e::l).getD 4 undef=e:=rfl
theorem gd5 {a b c d e f:aq}{l:List aq}:(a::b::c::d::e::f::l).getD 5 undef=f:=rfl
def gd:=And.intro @gd0 (And.intro @gd1 (And.intro @gd2 (And.intro @gd3 (And.intro @gd4 @gd5))))
theorem aA {n:Int}(a:-9223372036854775808<=n)(b:n<=9223372036854775807):IntKind.wrap .i64 n=n:=IntWalk.i64_in n om
end Eng
end
section
namespace Eng
open Go.RowKit
structure I6 (S:Nat->Prop) (w w':ao):Prop where
 os:w'.os=w.os
 tape:w'.tape=w.tape
 output:w'.output=w.output
 size:w.heap.size<=w'.heap.size
 block:∀k,k < w.heap.size->¬S k->w'.heap[k]?=w.heap[k]?
def NoB:Nat->Prop:=λ_=>False
theorem I6.refl (S:Nat->Prop)(w:ao):I6 S w w:=⟨rfl,rfl,rfl,auL _,λ_ _ _=>rfl⟩
theorem I6.trans {S:Nat->Prop}{a b c:ao}(h:I6 S a b)(k:I6 S b c):I6 S a c:=
 ⟨k.os.trans h.os,k.tape.trans h.tape,k.output.trans h.output,axO h.size k.size,λi hi d=>(k.block i (awO hi h.size) d).trans (h.block i hi d)⟩
theorem I6.below {a b:ao}(h:I6 NoB a b):Below a.heap.size a b:=⟨h.os,h.tape,h.output,h.size,λk c=>h.block k c (λx=>x)⟩
theorem Ma {a b:ao}(h:Below a.heap.size a b):I6 S a b:=⟨h.os,h.tape,h.output,h.size,λk c _=>h.block k c⟩
theorem XM {o:Option Nat}(h:w.grownBy w' o):I6 (λk=>o=ay k) w w':=
 ⟨h.os,h.tape,h.output,h.size,λk a b=>h.block k a (λe=>b e.symm)⟩
structure Ent where
 blk:Nat->Prop
 is:ao->Prop
 keep:∀{w w':ao},is w->(∀k,blk k->w'.heap[k]?=w.heap[k]?)->is w'
 lt:∀{w:ao},is w->∀k,blk k->k < w.heap.size
theorem eH {o:Obj}(h:w.heap[b]?=ay o):b < w.heap.size:=(aAe.1 h).1
def Ent.obj (b:Nat)(o:Obj):Ent:=⟨λk=>k=b,λw=>w.heap[b]?=ay o,λh k=>(k b rfl).trans h,λh k a=>by cases a;exact eH h⟩
def Ent.cells (b:Nat)(cs:List aq)(T:TypeId):Ent:=⟨λk=>k=b,λw=>w.heap[b]?=ay (.cells cs.toArray T (0,0)),λh k=>(k b rfl).trans h,λh k a=>by cases a;exact eH h⟩
def Ent.row (T:TypeId)(sz:Nat)(v:aq)(n:Nat)(xs:List aq):Ent:=
 ⟨λk=>v.ownBlock=ay k,λw=>w.ownsRowF 0 T sz v n xs,λ{w w'} h k=>by
  refine⟨h.1,?_⟩;rcases h.2 with b|⟨g,cap,cur,fz,rfl,c,a,rest⟩
  ·exact .inl b
  ·exact .inr ⟨g,cap,cur,fz,rfl,c,(k g rfl).trans a,rest⟩,λh k d=>(World.ownsRowF.lt h k d).2⟩
structure bT (S:Nat->Prop) (w0 w:ao) (L:List Ent):Prop where
 grew:I6 S w0 w
 all:∀e∈L,e.is w∧∀k,e.blk k->S k∨w0.heap.size<=k
 apart:L.Pairwise (λe f=>∀k,e.blk k->¬f.blk k)
abbrev Own (w0 w:ao)(L:List Ent):Prop:=bT NoB w0 w L
theorem Own.start (w:ao):Own w w []:=⟨I6.refl _ _,(λ_ h=>by cases h),List.Pairwise.nil⟩
section
variable {S:Nat->Prop}
theorem bT.size {w0 w:ao}{L:List Ent}(h:bT S w0 w L):w0.heap.size<=w.heap.size:=h.grew.size
theorem bT.mem {L:List Ent}(h:bT S w0 w L){e:Ent}(he:e∈L):e.is w:=(h.all e he).1
theorem bT.at_ {L:List Ent}(h:bT S w0 w L)(i:Nat){e:Ent}(he:L[i]?=ay e):e.is w:=h.mem (ayC he)
theorem bT.grow {L:List Ent}(h:bT S w0 w L)(a:Below w.heap.size w w'):bT S w0 w' L:=
 ⟨h.grew.trans (Ma a),λe he=>⟨e.keep (h.all e he).1 λk b=>a.block k (e.lt (h.all e he).1 k b),(h.all e he).2⟩,h.apart⟩
theorem bT.drew {w0 w:ao}{L:List Ent}(h:bT S w0 w L):bT S w0 w.drew L:=h.grow (Below.refl _ _).drew
theorem Rh (a:w.grownBy w' ax):Below w.heap.size w w':=⟨a.os,a.tape,a.output,a.size,λk b=>a.block k b sm⟩
theorem bT.add {L:List Ent}(h:bT S w0 w L)(i:w.grownBy w' ax)(e:Ent)(he:e.is w')(g:∀k,e.blk k->w.heap.size<=k):bT S w0 w' (e::L):=by
 have b:=h.grow (Rh i);refine⟨b.grew,?_,?_⟩
 ·intro f a;cases a with
 |head=>exact⟨he,λk c=>.inr (axO h.size (g k c))⟩
 |tail _ a=>exact b.all f a
 ·refine .cons (λf a k c d=>?_) b.apart;have:=f.lt (h.mem a) k d;have:=g k c;omega
theorem bT.alloc {w0 w:ao}{L:List Ent}(h:bT S w0 w L)(cs:List aq)(T:TypeId):bT S w0 (w.alloc (.cells cs.toArray T)) (.cells w.heap.size cs T::L):=
 h.add (World.grownBy_alloc w _ ax) _ (heap_alloc_new w _) (λk a=>by cases a;exact auL _)
theorem bT.TW {L:List Ent}(h:bT S w0 w L)(o:Obj):bT S w0 (w.alloc o) (.obj w.heap.size o::L):=
 h.add (World.grownBy_alloc w _ ax) _ (heap_alloc_new w _) (λk a=>by cases a;exact auL _)
structure Mf (e e':Ent) (w w':ao):Prop where
 grew:I6 e.blk w w'
 is:e'.is w'
 new:∀k,e'.blk k->e.blk k∨w.heap.size<=k
theorem Mf.refl {e:Ent}{w:ao}(h:e.is w):Mf e e w w:=⟨I6.refl _ _,h,λ_ a=>.inl a⟩
theorem bT.turn {L:List Ent}(h:bT S w0 w L)(i:Nat){e e':Ent}(hi:L[i]?=ay e)(H:Mf e e' w w'):bT S w0 w' (L.set i e'):=by
 obtain⟨r,he,F⟩:=H;have t:i < L.length:=(auV.1 hi).1;have u:L[i]=e:=(auV.1 hi).2;have v:e∈L:=ayC hi;have g:=ayX.1 h.apart;have m:∀j (d:j < L.length),j≠i->∀k,L[j].blk k->¬e.blk k:=by
  intro j d n k c l;rcases avI j i with y|I
  ·exact g j i d t y k c (by rw[u];exact l)
  ·exact g i j t d om k (by rw[u];exact l) c
 have o:I6 S w0 w':=⟨r.os.trans h.grew.os,r.tape.trans h.grew.tape,r.output.trans h.grew.output,axO h.size r.size,λk c G=>
  (r.block k (awO c h.size) (λz=>((h.all e v).2 k z).elim G (λx=>by omega))).trans (h.grew.block k c G)⟩
 have p:∀j (d:j < L.length),j≠i->L[j].is w':=λj d n=>
  L[j].keep (h.mem (auS d)) λk c=>r.block k (L[j].lt (h.mem (auS d)) k c) (λz=>m j d n k c z)
 refine⟨o,?_,?_⟩
 ·intro f J;obtain⟨j,d,rfl⟩:=axX J;rw[axC] at d;rw[aAh];split
  ·refine⟨he,λk c=>?_⟩;rcases F k c with s|s
   ·exact (h.all e v).2 k s
   ·exact .inr (axO h.size s)
  ·rename_i A
   exact⟨p j d (λe=>A e.symm),(h.all _ (auS d)).2⟩
 ·rw[ayX];intro a b B C D k c;rw[axC] at B C;rw[aAh] at c;rw[aAh];have other:∀j (d:j < L.length),j≠i->∀k,e'.blk k->¬L[j].blk k:=by
   intro j d n k c l;rcases F k c with s|s
   ·exact m j d n k l s
   ·have:=L[j].lt (h.mem (auS d)) k l;omega
  split at c
  ·rename_i q
   subst q;rw[auB om];exact other b C om k c
  ·rename_i q
   split
   ·rename_i E
    subst E;intro l;exact other a B (λe=>q e.symm) k l c
   ·exact g a b B C D k c
theorem bT.put {L:List Ent}(h:bT S w0 w L)(i:Nat){e:Ent}(hi:L[i]?=ay e)(a:I6 e.blk w w')(e':Ent)(he:e'.is w')
  (b:∀k,e'.blk k->e.blk k∨w.heap.size<=k):bT S w0 w' (L.set i e'):=h.turn i hi ⟨a,he,b⟩
theorem bT.tail {w0 w:ao}{e:Ent}{L:List Ent}(h:bT S w0 w (e::L)):bT S w0 w L:=
 ⟨h.grew,λf a=>h.all f (.tail _ a),(axD.1 h.apart).2⟩
theorem bT.sub {L L':List Ent}(h:bT S w0 w L)(a:L'.Sublist L):bT S w0 w L':=
 ⟨h.grew,λf b=>h.all f (a.subset b),h.apart.sublist a⟩
theorem bT.done {L:List Ent}(h:bT NoB w0 w L):Below w0.heap.size w0 w:=h.grew.below
theorem bT.below {w0 w:ao}{L:List Ent}(h:bT NoB w0 w L):Below w0.heap.size w0 w:=h.grew.below
theorem bT.lend {e:Ent}(h:e.is w):bT e.blk w w [e]:=by
 refine⟨I6.refl _ _,λf a=>?_,List.pairwise_singleton _ _⟩;rcases auI.1 a with rfl|a
 ·exact⟨h,λk b=>.inl b⟩
 ·cases a
theorem bT.back {e e':Ent}{L:List Ent}(h:bT e.blk w w' (e'::L)):Mf e e' w w':=
 ⟨h.grew,h.mem sm,(h.all e' sm).2⟩
end
def n0 (vs:List aq):Nat:=(RowKit.intOf (vs.getD 0 undef)).toNat
def n1 (vs:List aq):Nat:=(RowKit.intOf (vs.getD 1 undef)).toNat
def n2 (vs:List aq):Nat:=(RowKit.intOf (vs.getD 2 undef)).toNat
theorem aI {T:TypeId}(h:(Ent.cells b cs T).is w)(a:cs[i]?=ay v):w.cell? ⟨b,i,ax⟩=ay v:=by
 have c:w.heap[b]?=ay (.cells cs.toArray T (0,0)):=h;simp[World.cell?,c,a]
theorem bT.cell {S:Nat->Prop}{w0 w:ao}{L:List Ent}(h:bT S w0 w L)(i:Nat){b:Nat}{cs:List aq}{T:TypeId}(hi:L[i]?=ay (.cells b cs T))(j:Nat){v:aq}(a:cs[j]?=ay v):w.cell? ⟨b,j,ax⟩=ay v:=
 aI (h.at_ i hi) a
theorem bT.old {L:List Ent}(h:bT NoB w0 w L){p:Addr}(a:w0.cell? p=ay v):w.cell? p=ay v:=
 (h.below.cell (World.block_lt_of_cell? w0 p a)).trans a
def eS (P:Program)(T:TypeId):Bool:=match P.underlying T with|some (.struct _)=>au|some (.array _ _)=>au|some _=>aw|none=>au
section
variable {S:Nat->Prop}{P:Program}{w:ao}{PK:PKT}{K:VWP}
theorem pN {T:TypeId}(b:eS P T=aw){a:Addr}(h:w.cell? a=ay v):(loadVar T a).run P w=.ok v w:=by
 unfold eS at b;cases hu:P.underlying T with
|none=>rw[hu] at b;cases b
|some d=>
  rw[hu] at b;cases d<;>first|(cases b;done)|simp[loadVar,isAgg,run_underlying hu,h]
theorem aB {T:TypeId}(b:eS P T=aw){a:Addr}(h:w.cell? a=ay v):(aH T (.pointer (ay a))).run P w=.ok (.value v) w:=
 cJ (by simp[Instr.loadAt,Instr.sureAddr,pN b h])
theorem aJ {T:TypeId}(b:eS P T=aw){a:Addr}(h:w.cell? a=ay v):DoX P (aH T (.pointer (ay a))) w PK K=K v w:=aD (aB b h)
theorem bK {m:Sem Next}(mk:Nat->aq)(cs:List aq)(E:TypeId){L:List Ent}(hm:∀w,m.run P w=.ok (.value (mk w.heap.size)) (w.alloc (.cells cs.toArray E)))(a:bT S w0 w L)
  (k:∀b w',bT S w0 w' (.cells b cs E::L)->K (mk b) w'):DoX P m w PK K:=
 vZ (hm w) (k _ _ (a.alloc cs E))
theorem LP {T:TypeId}{off:Nat}{E:TypeId}(d:(P.info? T).map (·.size)=ay 1)(c:v.oneCell'=aw)(h:w.heap[b]?=ay (.cells cs.toArray E (0,0)))(f:off < cs.length) :
  (Instr.storeAt T (af b off) v).run P w=.ok () (w.setRow b (cs.set off v).toArray):=by
 have g:v.cells=#[v]:=by cases v<;>first|rfl|(cases c;done)
 have a:=run_storeCells_at P b off E [v] 0 cs.toArray w h (by simp;omega) (by simpa using c);obtain⟨i,hi,j⟩:=awP.1 d;simp only[awF] at a;have e:cs.take off++[v]++cs.drop (off+1)=cs.set off v:=by
  rw[aBy,auC f];simp
 simp[Instr.storeAt,Instr.sureAddr,storeVar,g,sizeOf,typeInfo,hi,j,a];rw[<-e];simp
theorem jG {L:List Ent}(d:bT S w0 w L)(i:Nat){E:TypeId}(hi:L[i]?=ay (.cells b cs E))(a:List aq):bT S w0 (w.setRow b a.toArray) (L.set i (.cells b a E)):=by
 have h:w.heap[b]?=ay (.cells cs.toArray E (0,0)):=d.at_ i hi;refine d.put i hi (w':=w.setRow b a.toArray) ⟨rfl,rfl,rfl,by simp[World.setRow],λk _ c=>setRow_other w b k _ (λe=>c (by simp[Ent.cells,e]))⟩ (.cells b a E) (setRow_heap w b cs.toArray _ E (0,0) h) (λk c=>.inl c)
theorem aO {L:List Ent}(i:Nat){T:TypeId}{off:Nat}{E:TypeId}(a:bT S w0 w L)(hi:L[i]?=ay (.cells b cs E))(c:(P.info? T).map (·.size)=ay 1)(d:v.oneCell'=aw)(e:off < cs.length)
  (k:∀w',bT S w0 w' (L.set i (.cells b (cs.set off v) E))->K undef w'):DoX P (aN T (af b off) v) w PK K:=
 D1 (Kr (LP c d (a.at_ i hi) e)) (k _ (jG a i hi _))
def Sl (w:ao)(v:aq)(sz n:Nat)(cs:List aq):Prop:=
 cs.length=n*sz∧∃a cap,v=.slice a n cap∧(a=ax->n=0)∧∀p,a=ay p->(0 < n->p.spot=ax)∧∀j u,cs[j]?=ay u->w.cell? ⟨p.block,p.off+j,ax⟩=ay u
theorem Sl.mono {n:Nat}(h:Sl w v sz n cs)(c:∀p u,w.cell? p=ay u->w'.cell? p=ay u):Sl w' v sz n cs:=by
 obtain⟨d,a,cap,e,f,b⟩:=h;exact⟨d,a,cap,e,f,λp hp=>⟨(b p hp).1,λj u g=>c _ _ ((b p hp).2 j u g)⟩⟩
theorem bT.Re {L:List Ent}(h:bT NoB w0 w L){n:Nat}(a:Sl w0 v sz n cs):Sl w v sz n cs:=a.mono λ_ _ hp=>h.old hp
theorem Sl.cells {w:ao}{b:Nat}{cs:List aq}{T:TypeId}(h:(Ent.cells b cs T).is w)(sz n cap:Nat)(a:cs.length=n*sz):Sl w (bO b 0 n cap) sz n cs:=
 ⟨a,ay ⟨b,0,ax⟩,cap,rfl,λh=>(by cases h),λp hp=>by cases hp;exact⟨λ_=>rfl,λj u c=>by rw[auP];exact aI h c⟩⟩
theorem bT.sl {L:List Ent}(h:bT S w0 w L)(i:Nat){T:TypeId}(hi:L[i]?=ay (.cells b cs T))(sz n cap:Nat)(a:cs.length=n*sz):Sl w (bO b 0 n cap) sz n cs:=
 Sl.cells (h.at_ i hi) sz n cap a
theorem Sl.row {w:ao}{T:TypeId}{sz:Nat}{v:aq}{n:Nat}{xs:List aq}(h:(Ent.row T sz v n xs).is w):Sl w v sz n xs:=by
 have a:w.ownsRowF 0 T sz v n xs:=h;refine⟨a.1,?_⟩;rcases a.2 with ⟨rfl,rfl⟩|⟨g,cap,cur,fz,rfl,_⟩
 ·exact⟨ax,0,rfl,λ_=>rfl,λp hp=>by cases hp⟩
 ·refine⟨ay ⟨g,0,ax⟩,cap,rfl,(λh=>by cases h),λp hp=>?_⟩;cases hp;refine⟨λ_=>rfl,λj u b=>?_⟩;have:=World.ownsRowF.cells a (g:=g) rfl j u b;have e:(⟨g,0,ax⟩:Addr).add j=⟨g,0+j,ax⟩:=by unfold Addr.add;split<;>simp_all
  rwa [e] at this
theorem Sl.nil (w:ao)(sz cap:Nat):Sl w (.slice ax 0 cap) sz 0 []:=⟨sm,ax,cap,rfl,λ_=>rfl,λp hp=>by cases hp⟩
theorem aZ {T:TypeId}{E:TypeId}{n:Nat}(h:P.underlying T=ay (.slice E))(b:Sl w v sz n cs):DoX P (mB .len #[T] U cb #[v]) w PK K=K (ad (n:Int)) w:=by
 obtain⟨_,a,cap,rfl,_⟩:=b;refine aD ?_;simp[mB,builtin,Builtin.len_,run_underlying h,goInt]
theorem bW {T:TypeId}{E:TypeId}{a:Option Addr}{n:Nat}(h:P.underlying T=ay (.slice E)):DoX P (mB .len #[T] U cb #[.slice a n cap]) w PK K=K (ad (n:Int)) w:=by
 refine aD ?_;simp[mB,builtin,Builtin.len_,run_underlying h,goInt]
theorem apX {T E:TypeId}{k:IntKind}{n:Nat}{i:Int}(h:P.underlying T=ay (.slice E))(f:(P.info? E).map (·.size)=ay sz)(l:Sl w v sz n cs)(m:0<=i)(o:i < n)
  (q:∀b off,(∀j u,cs[i.toNat*sz+j]?=ay u->w.cell? ⟨b,off+j,ax⟩=ay u)->K (af b off) w):DoX P (mIA T v (.int k i)) w PK K:=by
 obtain⟨x,a,cap,rfl,r,s⟩:=l;obtain⟨ii,hi,g⟩:=awP.1 f;cases a with
|none=>have:=r rfl;omega
|some p=>
  obtain⟨c,d⟩:=s p rfl
  replace c:=c om
  obtain⟨b,off,spot⟩:=p;simp only at c d;subst c;refine vZ (cJ (v:=af b (off+i.toNat*sz)) ?_) (q b (off+i.toNat*sz) λj u t=>by rw[awU];exact d _ _ t);have e:(⟨b,off,ax⟩:Addr).add (i.toNat*sz)=⟨b,off+i.toNat*sz,ax⟩:=by unfold Addr.add;split<;>simp_all
  simp[Instr.indexAt,asIntOf,run_underlying h,m,o,sizeOf,typeInfo,hi,g,e]
theorem cZ {T E:TypeId}{k:IntKind}{off n:Nat}{i:Int}(h:P.underlying T=ay (.slice E))(a:(P.info? E).map (·.size)=ay sz)(d:0<=i)(f:i < n) :
  (mIA T (bO b off n cap) (.int k i)).run P w=.ok (.value (af b (off+i.toNat*sz))) w:=by
 obtain⟨ii,hi,c⟩:=awP.1 a;have e:(⟨b,off,ax⟩:Addr).add (i.toNat*sz)=⟨b,off+i.toNat*sz,ax⟩:=by unfold Addr.add;split<;>simp_all
 exact cJ (by simp[Instr.indexAt,asIntOf,run_underlying h,d,f,sizeOf,typeInfo,hi,c,e])
theorem bR {n:Nat}(e:Sl w v sz n cs)(f:0 < n):∃b off cap,v=bO b off n cap∧∀j u,cs[j]?=ay u->w.cell? ⟨b,off+j,ax⟩=ay u:=by
 obtain⟨_,a,cap,rfl,g,h⟩:=e;cases a with
|none=>have:=g rfl;omega
|some p=>
  obtain⟨c,d⟩:=h p rfl
  replace c:=c f
  obtain⟨b,off,spot⟩:=p;simp only at c d;subst c;exact⟨b,off,cap,rfl,d⟩
theorem HI {T E:TypeId}{k:IntKind}{n:Nat}{i:Int}(x:aq)(h:P.underlying T=ay (.slice E))(a:(P.info? E).map (·.size)=ay 1)(c:Sl w v 1 n cs)(e:0<=i)(d:cs[i.toNat]?=ay x)
  (f:∀p,w.cell? p=ay x->K (.pointer (ay p)) w):DoX P (mIA T v (.int k i)) w PK K:=by
 have g:i.toNat < cs.length:=(auV.1 d).1;refine apX h a c e (by rw[c.1] at g;omega) λb off j=>f _ ?_;have:=j 0 x (by simpa using d);simpa using this
theorem EZ {a:Addr}{K:Ending->ao->Prop}(t1:eS P T1=aw)(b:w.cell? a=ay v1)(k:K (.returned v1) w) :
  Bw P [.cell (.pointer (ay a)) T1] w K:=
 ⟨_,by simp[Fh,RV.read,asAddr,pN t1 b],k⟩
end
end Eng
end
section
open Eng Go.RowKit Go.ChangeShapes Go.WideShapes Go.ChangeAt
def CG (P:Program)(a:List TypeId):Bool:=a.all λt=>P.readableRec t&&ai (t < P.types.size)
theorem EF {H:Type}{enc:TypeId×aq->H}{P:Program}(f:laidOutB P=aw){W g:ao}(i:Below W.heap.size W g) :
  ∀(a:List TypeId) {vs:List aq} {ds:List (DataW H)} {ps:List MemPlace},CG P a=aw->DataW.TrodAll enc P W 0 (λ_=>aw) aw a vs ds ps->(∀x∈ps,x.block < W.heap.size) ->
   DataW.TrodAll enc P g 0 (λb=>ai (b < W.heap.size)) aw a vs ds ps
|[],vs,ds,ps,_,h,_=>by
  obtain⟨rfl,rfl,rfl⟩:=trodAll_nil h;exact trodAll_mk0
|t::a,vs,ds,ps,d,h,c=>by
  obtain⟨v0,j,d0,k,n,o,rfl,rfl,rfl,l,m⟩:=trodAll_cons h;simp only[CG,aAF,auY,avK] at d;exact trodAll_cons_mk (Below.trod f d.1.1 d.1.2 l i λx e=>c x (by simp[e])) (EF f i a (by simpa[CG] using d.2) m λx e=>c x (by simp[e]))
theorem ZM {enc:TypeId×aq->H}{f:Func}{s:ChangeSpec}{apart handsOn:Bool}{B:TypeId}(l:laidOutB P=aw)(m:CG P f.params.toList=aw)(n:f.resultTypes=#[B])(o:P.underlying B=ay .bool)
  {W g:ao} {args:Array aq} {ds gs:List (DataW H)} {before:List MemPlace} (i:s.vars=[]) (b:DataW.Whole enc P f.params.toList s.vars apart W args.toList ds gs before)
  (a:s.fn H (ds++gs)={ results:=[.lit (.bool aw)],args:=ds }) (j:Below W.heap.size W g) {fresh:Bool}:s.post enc P f apart fresh handsOn au W args (.bool aw) g:=by
 have c:∀x∈before,x.block < W.heap.size:=λx d=>by simpa using b.lt x d
 have e:=b;obtain⟨p,q,r,k,rfl,_,_⟩:=b;rw[i] at k;obtain⟨rfl,rfl⟩:=trodVars_none k;refine⟨ds,[],_,[],p,[],e,?_,?_,?_,j.frame _,λh=>by cases h⟩
 ·rw[a,n];exact trodAll_cons_mk (shut_bool o _) trodAll_mk0
 ·rw[a];exact EF l j _ m r λx d=>c x (by simp[d])
 ·rw[a,i];rfl
def afT:DataW Unit->List aq
|.lit (.int k n)=>[.int k n]
|_=>[]
def anG:DataW Unit->List aq
|.agg xs=>xs.flatMap λx=>match x with
 |.agg a=>a.flatMap afT
 |y=>afT y
|y=>afT y
def Sf (w:ao)(g:Nat)(cs:List aq):World:=
 { w with heap:=w.heap.modify g λ
  |.cells _ t frozen=>.cells cs.toArray t frozen
  |o=>o }
theorem vM {n:Int}(h:(Lit.int .i64 n).wf=aw):-9223372036854775808<=n∧n<=9223372036854775807:=by
 simp only[Lit.wf,auY,avK] at h;exact h
end
namespace Fx
def okB (n:Int):Bool:=ai (-1073741824<=n)&&ai (n<=1073741824)
def ans (n:Int):Int×Int:=if okB n then (n,0) else (0,2)
end Fx
section
namespace Fx
open Go
def alY (c:UInt8):Bool:=ai (48<=c.toNat)&&ai (c.toNat<=57)
def val (n:Int)(l:List UInt8):Int:=l.foldl (λn c=>10*n+((c.toNat:Int) - 48)) n
def whole (l:List UInt8):List UInt8:=l.takeWhile (λc=>c != 46)
def part (l:List UInt8):List UInt8:=(l.dropWhile (λc=>c != 46)).drop 1
def body:List UInt8->List UInt8
|[]=>[]
|c::t=>if c=45∨c=43 then t else c::t
def minus:List UInt8->Bool
|[]=>au
|c::_=>ai (c=45)
def form (l:List UInt8):Bool:=ai (l.length<=40)&&(whole (body l)).all alY&&(part (body l)).all alY&&ai (0 < (whole (body l)).length+(part (body l)).length)
def more (rest:List UInt8)(neg:Bool):Bool:=
 match rest with
|[]=>au
|c::t=>ai (53<=c.toNat)&&(!neg||decide (53 < c.toNat)||t.any (λc=>ai (48 < c.toNat)))
def four (p:List UInt8):List UInt8:=(p++[48,48,48,48]).take 4
def mag (l:List UInt8):Int:=val (val 0 (whole (body l))) (four (part (body l)))+(if more ((part (body l)).drop 4) (minus l) then 1 else 0)
def read (l:List UInt8):Int×Int:=
 if form l then
  if val 0 (whole (body l))>1073741824 then (0,2)
  else ans (if minus l then - mag l else mag l)
 else (0,3)
def tr (l:List UInt8):List UInt8:=Lib.trimRightB l 48
def dg (k:Nat):UInt8:=UInt8.ofNat (48+k)
def rowF:Nat->Nat->Nat->List UInt8->List UInt8
|0,_,_,s=>s
|f+1,n,least,s=>if 0 < n∨s.length < least then rowF f (n / 10) least (dg (n % 10)::s) else s
def row (n least:Nat):List UInt8:=rowF 64 n least []
def arQ (n:Nat):List UInt8:=if tr (row (n % 10000) 4)=[] then [48] else tr (row (n % 10000) 4)
def text (n:Int):List UInt8:=if okB n then (if n < 0 then [45] else [])++row (n.natAbs / 10000) 1++[46]++arQ n.natAbs else []
end Fx
end
end Go.Proofs.YtlgndjkieegnaaaGreatDoor

namespace Go.Proofs.YtlgndjkieegnaaaGreatDoor
variable{B l:List Nat}{C:ao->Prop}{D T1 U:TypeId}{H α β:Type}{K:VWP}{L0:Loop}{P:Program}{PK:PKT}{Q Q':Exit->Act->ao->Prop}{R:Ending->FrameMode->ao->Prop}{S:Nat->Prop}{a hi lo:Int}{aj:List (Nat×List Nat)}{args ca fa:Array aq}{b cap d f i id j sz:Nat}{c v v1:aq}{cb:Array Bool}{cs:List aq}{ds:List Deferred}{fn:Func}{k':IntKind}{ms:Array (String×TypeId)}{ops:Array Oper}{ro:Option Nat}{u:FrameMode}{w w' w0:ao}{want:Bool}{xo yo:Operand}
section
open Go
namespace Oc
def amB:List UInt8:=[0,9,10,12,13,32]
def apU:List UInt8:=[40,41,60,62,91,93,123,125,47,37]
def JP (c:UInt8):Bool:=amB.contains c
def aoM (c:UInt8):Bool:=apU.contains c
def regular (c:UInt8):Bool:=!JP c&&!aoM c
def hexs:List UInt8:=[48,49,50,51,52,53,54,55,56,57,65,66,67,68,69,70]
def L3 (n:Nat):UInt8:=hexs.getD n 0
def hex1 (c:UInt8):List UInt8:=[L3 (c.toNat / 16),L3 (c.toNat % 16)]
def hex (l:List UInt8):List UInt8:=l.flatMap hex1
end Oc
namespace Pl
open Oc
def oct (c:UInt8):List UInt8:=[92,UInt8.ofNat (48+c.toNat / 64),UInt8.ofNat (48+c.toNat / 8 % 8),UInt8.ofNat (48+c.toNat % 8)]
def esc (c:UInt8):List UInt8:=if c=40∨c=41∨c=92 then [92,c] else if c.toNat < 32∨126 < c.toNat then oct c else [c]
def str (l:List UInt8):List UInt8:=[40]++l.flatMap esc++[41]
def nmOk (c:UInt8):Bool:=ai (32 < c.toNat)&&ai (c.toNat<=126)&&ai (c≠35)&&!aoM c
def nmc (c:UInt8):List UInt8:=if nmOk c then [c] else [35]++hex [c]
def name (l:List UInt8):List UInt8:=[47]++l.flatMap nmc
def pInt (n:Int):List UInt8×Int:=if -2147483647<=n∧n<=2147483647 then (Lib.itoa n,0) else ([],2)
def asV (n:Int):List UInt8×Int:=if Fx.okB n then (Fx.text n,0) else ([],2)
def pStr (l:List UInt8):List UInt8×Int:=if 32767 < l.length then ([],5) else (str l,0)
def apK (l:List UInt8):List UInt8×Int:=if 127 < l.length then ([],5) else if l.contains 0 then ([],3) else (name l,0)
def tot (ps:List (List UInt8)):Nat:=(ps.map (λp=>p.length+1)).sum
theorem MO (a b:List (List UInt8)):tot (a++b)=tot a+tot b:=by simp[tot]
theorem gE:∀ps:List (List UInt8),ps.length<=tot ps
|[]=>by simp
|p::ps=>by have:=gE ps;simp only[tot,avS,ayH,auX] at this ⊢;omega
end Pl
end
section
namespace Eng
open Go.RowKit
def bA (l:List UInt8):List Value:=l.map λc=>.int .u8 (c.toNat:Int)
theorem jM (l:List UInt8):(bA l).length=l.length:=by simp[bA]
theorem kV {l:List UInt8}{c:UInt8}(h:l[i]?=ay c):(bA l)[i]?=ay (.int .u8 (c.toNat:Int)):=by simp[bA,h]
section
variable {S:Nat->Prop}{P:Program}{w:ao}{PK:PKT}{K:VWP}
theorem ajE {T:TypeId}{cs:Array Bool}{l:List UInt8}(h:P.underlying T=ay .string):(mB .len #[T] U cs #[ae l]).run P w=.ok (.value (ad (l.length:Int))) w:=by
 simp[mB,builtin,Builtin.len_,run_underlying h,goInt,dX]
theorem acC {T:TypeId}{a:List UInt8}(h:P.underlying T=ay .string)(b:0<=hi)(c:hi<=a.length) :
  (fJ T (ae a) ax (ay (.int k' hi)) ax).run P w=.ok (.value (ae (a.take hi.toNat))) w:=by
 refine cJ ?_;have e:(⟨a.toArray⟩:ByteArray).extract 0 hi.toNat=⟨(a.take hi.toNat).toArray⟩:=by
  rw[Jn (s:=(⟨a.toArray⟩:ByteArray).extract 0 hi.toNat),Lib.extract_data];simp
 simp only[Instr.sliceAt,Instr.slice,Instr.sliceBounds,Instr.sliceBound,asIntOf,run_underlying h,dX];simp[run_underlying h,dX,b,c,e]
theorem asF {T2:TypeId}{k:IntKind}{b:Int}:DoX P (mB .min #[T1,T2] U cb #[.int k a,.int k' b]) w PK K=K (.int k (min a b)) w:=by
 refine aD ?_;have e:(if b < a then b else a)=min a b:=by split<;>omega
 simp[mB,builtin,Builtin.min_,Builtin.min2,e]
theorem JU {S E:TypeId}{l:List UInt8}(j:P.underlying S=ay (.slice E))(he:P.underlying E=ay (.int .u8))(k:P.underlying D=ay .string)(h:Sl w v 1 l.length (bA l)):DoX P (tG S D v) w PK K=K (ae l) w:=by
 obtain⟨q,a,cap,rfl,n,o⟩:=h;cases a with
|none=>
  have g:=n rfl;have:l=[]:=ayY g;subst this;exact gR (run_convert_bytes_nil w S E j he _ _ D k)
|some p=>
  obtain⟨f,d⟩:=o p rfl;by_cases g:l=[]
  ·subst g;refine gR ?_;have m:(loadCells p 0).run P w=.ok (([]:List Int).map (Value.int .u8)).toArray w:=rfl;rw[show ([]:List UInt8).length=0 from rfl,run_convert_bytes_string w S D E _ 0 cap j he k,run_bytesToString w p 0 cap [] m];rfl
  replace f:=f (azL.2 g)
  obtain⟨b,off,spot⟩:=p;simp only at f d;subst f;have:=run_convert_bytes_arg (P:=P) w S E j he b off l.length cap (l.map λc=>(c.toNat:Int)) sm (λi hi=>by
   refine d i _ ?_;simp[bA,auO hi]) D k
  refine gR ?_;rw[this];have e:strOfNums (l.map λc=>(c.toNat:Int))=⟨l.toArray⟩:=by
   unfold strOfNums;rw[aAi]
   congr 2
   conv=>rhs;rw[<-List.map_id l]
   refine azY λc _=>?_;simp
  rw[e]
theorem Jl {L:List Ent}(c:bT S w0 w L)(i:Nat){o o':Obj}(hi:L[i]?=ay (.obj b o)):bT S w0 { w with heap:=w.heap.setIfInBounds b o' } (L.set i (.obj b o')):=by
 have h:w.heap[b]?=ay o:=c.at_ i hi;refine c.put i hi (w':={ w with heap:=w.heap.setIfInBounds b o' }) ⟨rfl,rfl,rfl,sm,λk _ a=>?_⟩ (.obj b o') ?_ (λk a=>.inl a)
 ·show (w.heap.setIfInBounds b o')[k]?=_;exact ayV (λe=>a (by simp[Ent.obj,e]))
 ·show (w.heap.setIfInBounds b o')[b]?=_;exact aBi (eH h)
theorem x1_0 {a:aq}:DoX P (Ag (.tuple #[a]) 0) w PK K=K a w:=vY (l:=[a]) rfl
theorem x2_0 {a b:aq}:DoX P (Ag (.tuple #[a,b]) 0) w PK K=K a w:=vY (l:=[a,b]) rfl
theorem x2_1 {a b:aq}:DoX P (Ag (.tuple #[a,b]) 1) w PK K=K b w:=vY (l:=[a,b]) rfl
theorem x3_0 {a b c:aq}:DoX P (Ag (.tuple #[a,b,c]) 0) w PK K=K a w:=vY (l:=[a,b,c]) rfl
theorem x3_1 {a b c:aq}:DoX P (Ag (.tuple #[a,b,c]) 1) w PK K=K b w:=vY (l:=[a,b,c]) rfl
theorem x3_2 {a b c:aq}:DoX P (Ag (.tuple #[a,b,c]) 2) w PK K=K c w:=vY (l:=[a,b,c]) rfl
theorem x4_0 {a b c d:aq}:DoX P (Ag (.tuple #[a,b,c,d]) 0) w PK K=K a w:=vY (l:=[a,b,c,d]) rfl
theorem x4_1 {a b c d:aq}:DoX P (Ag (.tuple #[a,b,c,d]) 1) w PK K=K b w:=vY (l:=[a,b,c,d]) rfl
theorem x4_2 {a b c d:aq}:DoX P (Ag (.tuple #[a,b,c,d]) 2) w PK K=K c w:=vY (l:=[a,b,c,d]) rfl
theorem x4_3 {a b c d:aq}:DoX P (Ag (.tuple #[a,b,c,d]) 3) w PK K=K d w:=vY (l:=[a,b,c,d]) rfl
end
theorem oG {E:(VWP)->Prop}:GDo undef want E w K=K undef w:=propext ⟨λx=>x.out,λx=>⟨x⟩⟩
def ex:=And.intro @x1_0 (And.intro @x2_0 (And.intro @x2_1 (And.intro @x3_0 (And.intro @x3_1 (And.intro @x3_2 (And.intro @x4_0 (And.intro @x4_1 (And.intro @x4_2 @x4_3))))))))
theorem Gl {n:Int}(a:-2147483648<=n)(b:n<=2147483647):IntKind.wrap .i32 n=n:=IntWalk.i32_in n ⟨a,b⟩
theorem U9 {n:Int}(a:0<=n)(b:n<=18446744073709551615):IntKind.wrap .u64 n=n:=IntWalk.u64_in n ⟨a,b⟩
end Eng
end
end Go.Proofs.YtlgndjkieegnaaaGreatDoor
