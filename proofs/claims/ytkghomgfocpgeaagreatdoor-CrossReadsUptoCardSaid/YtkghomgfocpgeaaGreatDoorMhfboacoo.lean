/- Parts of the proof. -/
import Derived.StillTail
import Derived.Deep.Quiet
import Derived.OrdersHeld
import Derived.WalkKit
import Derived.Recover
import Derived.TacticsIn
import Derived.OrdersIn
import Derived.RangeFuncLeaves
import Derived.WalkLawsBesides
import Derived.IntWalk
import Derived.Lib.Strings
import Derived.Laws.OwnMore
import Derived.Laws.MakeOwn
import Derived.Lib.FrozenHead2
import Derived.ProofKit
import Derived.OpenShut
import Derived.Carry
import Derived.ChangeSlices
import Derived.Deep.DeepHandedRow
import Derived.Lib.LaidTab
import Derived.Lib.SlTrimSet
import Derived.Lib.TrimByte
import GoSem.Op.String
import Derived.Lib.ItoaNum
import Derived.Lib.ItoaLen
import Derived.Lib.IndexEntry
set_option linter.all false
set_option maxRecDepth 20000
open Option renaming some->ax,none->aw
open Bool renaming true->av,false->au
open Go renaming Value->aq,World->ao
open Decidable renaming decide->ai
namespace Go.Proofs
abbrev auO:=@if_neg
abbrev auP:=@if_pos
abbrev auQ:=@decide_eq_false
abbrev auR:=@decide_eq_true
abbrev auS:=@decide_true
abbrev auT:=@decide_false
abbrev auU:=@List.length_append
abbrev auW:=@Int.toNat_natCast
abbrev auX:=@List.getElem?_eq_getElem
abbrev auY:=@Nat.le_refl
abbrev auZ:=@List.getD_eq_getElem?_getD
abbrev avA:=@List.length_take
abbrev avB:=@List.mem_cons
abbrev avC:=@Nat.zero_add
abbrev avD:=@List.getElem_mem
abbrev avF:=@List.length_drop
abbrev avG:=@of_decide_eq_true
abbrev avK:=@Nat.zero_le
abbrev avL:=@List.getElem?_eq_some_iff
abbrev avM:=@Bool.and_eq_true
abbrev avO:=@List.append_assoc
abbrev avP:=@List.take_succ_eq_append_getElem
abbrev avQ:=@Nat.mul_one
abbrev avR:=@List.length_cons
abbrev avS:=@List.length_map
abbrev avT:=@List.map_append
abbrev avU:=@of_decide_eq_false
abbrev avV:=@List.mem_singleton
abbrev avW:=@List.drop_eq_getElem_cons
abbrev avX:=@List.take_of_length_le
abbrev avY:=@Bool.not_true
abbrev avZ:=@List.mem_append
abbrev awA:=@Bool.not_false
abbrev awB:=@Nat.min_eq_left
abbrev awC:=@Nat.pow_le_pow_right
abbrev awD:=@List.mem_map
abbrev awF:=@List.append_nil
abbrev awG:=@decide_eq_true_eq
abbrev awH:=@List.getElem?_cons_succ
abbrev awI:=@List.take_length
abbrev awJ:=@List.length_replicate
abbrev awK:=@List.drop_eq_nil_of_le
abbrev awL:=@Nat.mul_le_mul_right
abbrev awN:=@Option.getD_some
abbrev awO:=@Nat.lt_or_ge
abbrev awP:=@decide_eq_false_iff_not
abbrev awQ:=@UInt8.toNat_lt
abbrev awR:=@List.mem_cons_of_mem
abbrev awS:=@List.not_mem_nil
abbrev awT:=@Option.isSome_none
abbrev awU:=@Option.isSome_some
abbrev awV:=@List.any_eq_true
abbrev awW:=@List.nil_append
abbrev awX:=@List.length_singleton
abbrev awY:=@List.map_cons
abbrev awZ:=@Option.map_eq_some_iff
abbrev axA:=@Nat.add_zero
abbrev axB:=@not_false_eq_true
abbrev axC:=@Nat.mod_eq_of_lt
abbrev axE:=@List.mem_range
abbrev axF:=@List.mem_of_mem_take
abbrev axG:=@Nat.eq_zero_or_pos
abbrev axH:=@List.flatMap_append
abbrev axI:=@List.all_eq_true
abbrev axJ:=@List.getElem?_drop
abbrev axK:=@Nat.add_assoc
abbrev axL:=@Nat.lt_of_lt_of_le
abbrev axM:=@List.length_set
abbrev axN:=@Nat.le_trans
abbrev axO:=@List.getElem?_append_left
abbrev axP:=@List.getElem?_set_self
abbrev axQ:=@Bool.or_eq_true
abbrev axR:=@List.mem_cons_self
abbrev axS:=@List.getElem?_take
abbrev axT:=@List.getElem_of_mem
abbrev axU:=@List.take_left'
abbrev axV:=@List.set_cons_zero
abbrev axW:=@Nat.mul_le_mul
abbrev axX:=@List.Sublist.refl
abbrev axY:=@Nat.add_mul
abbrev axZ:=@Nat.succ_mul
abbrev ayA:=@List.eq_of_mem_replicate
abbrev ayB:=@Option.some.inj
abbrev ayC:=@List.pairwise_cons
abbrev ayE:=@Nat.mod_lt
abbrev ayG:=@List.getElem?_eq_none
abbrev ayH:=@Bool.false_eq_true
abbrev ayJ:=@List.take_zero
abbrev ayK:=@List.take_take
abbrev ayL:=@List.getElem?_append_right
abbrev ayM:=@List.flatMap_cons
abbrev ayN:=@Nat.pow_succ
abbrev ayO:=@List.flatMap_singleton
abbrev ayP:=@List.cons_append
abbrev ayQ:=@List.mem_of_getElem?
abbrev ayR:=@List.mem_of_mem_drop
abbrev ayS:=@List.drop_zero
abbrev ayT:=@List.eq_nil_of_length_eq_zero
abbrev ayU:=@Nat.zero_mul
abbrev ayV:=@List.drop_append
abbrev ayW:=@Bool.and_eq_false_iff
abbrev ayX:=@List.count_le_length
abbrev ayY:=@Nat.sub_self
abbrev ayZ:=@List.map_nil
abbrev azA:=@Prod.mk.injEq
abbrev azB:=@Option.some.injEq
abbrev azC:=@Bool.and_assoc
abbrev azD:=@Bool.decide_and
abbrev azE:=@List.drop_drop
abbrev azF:=@Nat.div_le_self
abbrev azH:=@Array.getElem?_setIfInBounds_ne
abbrev azI:=@Bool.true_and
abbrev azJ:=@List.pairwise_iff_getElem
abbrev azK:=@List.sum_cons
abbrev azL:=@List.take_append_drop
abbrev azM:=@List.range_succ
abbrev azN:=@List.set_set
abbrev azO:=@List.getElem?_set_ne
abbrev azP:=@List.getElem?_map
abbrev azQ:=@Nat.min_le_right
abbrev azR:=@List.map_take
abbrev azS:=@Array.getElem?_eq_some_iff
abbrev azT:=@List.getElem?_cons_zero
abbrev azU:=@List.length_pos_iff
abbrev azV:=@List.map_congr_left
abbrev azW:=@Option.bind_eq_some_iff
abbrev azX:=@Bool.or_false
abbrev azY:=@List.cons.injEq
abbrev azZ:=@Nat.mul_comm
abbrev aAa:=@List.count_append
abbrev aAb:=@List.map_set
abbrev aAc:=@List.length_nil
abbrev aAd:=@Array.mem_of_getElem?
abbrev aAe:=@Bool.false_or
abbrev aAf:=@List.getElem_set
abbrev aAg:=@List.map_map
abbrev aAh:=@UInt8.toNat_inj
abbrev aAi:=@Option.map_some
abbrev aAj:=@Nat.mul_sub_right_distrib
abbrev aAk:=@Bool.and_false
abbrev aAl:=@List.sum_append
abbrev aAm:=@Bool.false_and
abbrev aAn:=@Bool.or_eq_false_iff
abbrev aAp:=@Nat.lt_irrefl
abbrev aAq:=@Nat.eq_of_beq_eq_true
abbrev aAr:=@Bool.not_eq_true'
abbrev aAs:=@Array.empty_append
abbrev aAt:=@Array.append_empty
abbrev aAu:=@Nat.add_comm
abbrev aAv:=@List.all_cons
abbrev aAx:=@List.drop_succ_cons
abbrev aAy:=@List.take_succ_cons
abbrev aAz:=@List.takeWhile_cons
abbrev aAA:=@Classical.not_not
abbrev aAB:=@Bool.eq_iff_iff
abbrev aAC:=@Bool.not_not
abbrev aAD:=@Int.tmod_eq_emod_of_nonneg
abbrev aAE:=@Nat.add_sub_cancel_left
abbrev aAF:=@List.mem_flatMap
abbrev aAG:=@List.count_singleton
abbrev aAH:=@List.getElem?_replicate
abbrev aAI:=@Nat.two_pow_pos
abbrev aAJ:=@List.getElem?_take_of_lt
abbrev aAK:=@List.foldl_append
abbrev aAL:=@List.getLast?_eq_none_iff
abbrev aAN:=@List.take_append
abbrev aAO:=@List.getElem_cons_zero
abbrev aAP:=@List.getElem_cons_succ
abbrev aAQ:=@List.take_add_one
abbrev aAR:=@Bool.and_true
abbrev aAS:=@List.drop_of_length_le
abbrev aAT:=@List.find?_eq_none
abbrev aAU:=@Nat.two_pow_add_eq_or_of_lt
abbrev aAV:=@List.set_append_right
abbrev aAW:=@List.filter_append
abbrev aAX:=@List.filter_cons
abbrev aAY:=@List.mem_or_eq_of_mem_set
abbrev aAZ:=@List.replicate_succ'
abbrev aA0:=@Bool.eq_false_iff
abbrev aA1:=@UInt8.toNat_ofNat'
abbrev aA4:=@List.perm_append_singleton
abbrev aA5:=@Array.setIfInBounds_comm
abbrev aA6:=@Array.getD_eq_getD_getElem?
abbrev aA7:=@Array.ext_getElem?
abbrev aA8:=@Array.toArray_toList
abbrev aA9:=@List.getElem?_toArray
abbrev aBa:=@List.replicate_succ
abbrev aBb:=@Option.isNone_none
abbrev aBc:=@Option.isNone_some
abbrev aBd:=@List.take_append_of_le_length
abbrev aBe:=@List.idxOf_lt_length_iff
abbrev aBf:=@Int.tdiv_eq_ediv_of_nonneg
abbrev aBg:=@Int.fdiv_eq_ediv_of_nonneg
abbrev aBh:=@Nat.add_sub_cancel
abbrev aBi:=@List.length_filter_le
abbrev aBj:=@List.replicate_zero
abbrev aBk:=@Nat.dvd_of_mod_eq_zero
abbrev aBl:=@Nat.mod_eq_sub_mod
abbrev aBm:=@Classical.byContradiction
abbrev aBo:=@List.idxOf_lt_length_of_mem
abbrev aBp:=@List.sublist_append_left
abbrev aBq:=@Int.toNat_of_nonneg
abbrev aBs:=@List.set_eq_take_append_cons_drop
abbrev aBt:=@Array.getElem?_setIfInBounds_self_of_lt
end Go.Proofs
namespace Go.Proofs
theorem om{p:Prop}(h:p:=by omega):p:=h
theorem dc{p:Prop}(h:p:=by decide):p:=h
theorem sm{p:Prop}(h:p:=by simp):p:=h
theorem krx{p:Prop}(h:p:=by kernel_rfl):p:=h
end Go.Proofs
namespace Go.Proofs.YtkghomgfocpgeaaGreatDoor
abbrev ae(s:List UInt8):Go.Value:=.string ⟨s.toArray⟩
abbrev af(b o:Nat):Go.Value:=.pointer (.some ⟨b,o,.none⟩)
abbrev cW(b o n c:Nat):Go.Value:=.slice (.some ⟨b,o,.none⟩) n c
abbrev ad(n:Int):Go.Value:=.int .i64 n
abbrev PKT:=List PanicEntry->ao->Prop
abbrev VWP:=aq->ao->Prop
variable{C:ao->Prop}{D E T1 U:TypeId}{H α β:Type}{K:VWP}{L0:Loop}{P:Program}{PK:PKT}{Q Q':Exit->Act->ao->Prop}{S:Nat->Prop}{a hi lo:Int}{aj:List (Nat×List Nat)}{args ca fa:Array aq}{b cap d f i id j sz:Nat}{c v v1:aq}{cb:Array Bool}{cs:List aq}{ds:List Deferred}{fn:Func}{k':IntKind}{l:List Nat}{ms:Array (String×TypeId)}{ops:Array Oper}{ro:Option Nat}{u:FrameMode}{w w' w0:ao}{want:Bool}{xo yo:Operand}
section
namespace Eng
section
variable {P:Program}{ops:Array Oper}{md:Region.Mode}{C:ao->Prop}
def Ya (md:Region.Mode)(ops:Array Oper)(n:Nat)(ms:List Nat):Bool:=
 (List.range n).all λi=>ms.contains i||(List.range (n+1)).any λj=>ai (i < j)&&Region.waitsFor md ops j i
structure LY (md:Region.Mode) (ops:Array Oper) (n:Nat) (ms:List Nat) (listed:Array Bool):Prop where
 head:HeadInv md ops n listed
 moves:∀m∈ms,listed.getD m au=av
theorem LY.set {n i:Nat}{ms:List Nat}{listed:Array Bool}(inv:LY md ops n ms listed)(hi:i∈Region.ready md ops listed)(a:i < n):LY md ops n ms (listed.setIfInBounds i av):=
 ⟨inv.head.set hi a,λm hm=>getD_set_true (inv.moves m hm)⟩
theorem Mq {n:Nat}{ms:List Nat}{listed:Array Bool}(A:Ya md ops n ms=av)(B:Region.chainB md ops n=av)(E:n < ops.size)(inv:LY md ops n ms listed) :
  ∀(d i:Nat),n - i=d->i < n->listed.getD i av=au->∀t,n<=t->t ∉ Region.ready md ops listed:=by
 intro d
 induction d using Nat.strongRecOn with
|_ d C=>
  intro i F hi f t G v;obtain⟨_,w,g,b⟩:=mem_ready.1 v;have k:t < ops.size:=(azS.1 g).1;by_cases q:t=n
  ·subst q;have o:=axI.1 A i (axE.2 hi);simp only[axQ] at o;rcases o with o|h
   ·have:=inv.moves i (by simpa using o);rw[getD_both f] at this;cases this
   obtain⟨j,D,l⟩:=awV.1 h;simp only[avM,awG] at l;obtain⟨x,m,e,he,p,a⟩:=Region.waitsFor_spec l.2;have y:j<=t:=by have:=axE.1 D;omega
   by_cases r:j=t
   ·subst r;have:x=w:=ayB (m.symm.trans g);subst this;have c:=b e he p;rw[a,getD_both f] at c;cases c
   ·cases z:listed.getD j au with
   |true=>
     have c:=inv.head.closed j x m z e he p;rw[a,getD_both f] at c;cases c
   |false=>
     have s:j < listed.size:=by rw[inv.head.size];omega
     exact C (t - j) om j rfl om (getD_in s z) t (auY _) v
  ·have h:=axI.1 B t (axE.2 k);simp only[axQ,awG] at h;rcases h with h|h
   ·omega
   ·obtain⟨o',u,e,he,p,a⟩:=Region.waitsFor_spec h;have:o'=w:=ayB (u.symm.trans g);subst this;have c:=b e he p;rw[a,getD_both (inv.head.tail (t - 1) om om)] at c;cases c
theorem aaG {Q Q':Exit->Act->ao->Prop}(d:∀e a w,Q e a w->Q' e a w):∀(f:Nat) (listed:Array Bool) (a:Act) (w:ao),wpAny P md ops Q f listed a w->wpAny P md ops Q' f listed a w
|0,_,_,_,h=>⟨h.1,d _ _ _ h.2⟩
|f+1,listed,a,w,h=>by
  refine⟨λk=>d _ _ _ (h.1 k),λi hi=>?_⟩;have b:=wpOp_mono (λa' w' l=>aaG d f _ a' w' l) (h.2 i hi);unfold wpOp at b ⊢;split
  ·simpa[*] using b
  ·rename_i o m
   simp only[m] at b;split
   ·rename_i hw
    simp only[hw,if_true] at b;rcases b with b|⟨b,a',w',g⟩
    ·left;unfold Oper.wp at *;generalize (execOp a.eval o).run P w=r at *;cases r with
    |ok x w'=>
      cases x<;>simp only[Oper.upon] at b ⊢<;>first|exact b|skip
      exact b.mono λe n j=>by
       cases e with
      |returned u=>exact j
      |panicked c=>exact d _ _ _ j
      |outgrown=>obtain⟨a',w',g⟩:=j;exact⟨a',w',d _ _ _ g⟩
    |halt x w'=>cases x<;>simp only[Oper.upon] at b ⊢<;>first|exact b|exact d _ _ _ b
    ·exact .inr ⟨b,a',w',d _ _ _ g⟩
   ·rename_i hw;simp only[hw] at b;exact b
def CY (P:Program)(md:Region.Mode)(ops:Array Oper)(C:ao->Prop)(n:Nat)(L:Array Bool->Act->Prop):Nat->Array Bool->Act->Prop
|0,listed,a=>L listed a
|f+1,listed,a=>
  Region.ready md ops listed≠[]∧∀i∈Region.ready md ops listed,i < n∧qOp P ops C i (CY P md ops C n L f (listed.setIfInBounds i av)) a
theorem nE {n g:Nat}{L:Array Bool->Act->Prop}{Q':Exit->Act->ao->Prop}(hL:∀listed a w,C w->L listed a->wpAny P md ops Q' g listed a w) :
  ∀(f:Nat) (listed:Array Bool) (a:Act) (w:ao),C w->CY P md ops C n L f listed a->wpAny P md ops Q' (f+g) listed a w
|0,listed,a,w,hC,h=>by rw[avC];exact hL _ _ _ hC h
|f+1,listed,a,w,hC,h=>by
  rw[show f+1+g=(f+g)+1 by omega];exact⟨λc=>absurd c h.1,λi hi=>wpOp_of_qOp hC (λa' w' b d=>nE hL f _ a' w' b d) (h.2 i hi).2⟩
theorem M6 {n:Nat}{ms:List Nat}{x:Oper}{L:Array Bool->Act->Prop}(hi:ops[i]?=ax x)(p:∀(j:Nat) (o:Oper) cs b,ops[j]?=ax o->o.op≠.select cs b)
  (I:Ya md ops n ms=av) (J:Region.chainB md ops n=av) (K:n < ops.size) (y:i < n)
  (s:∀listed a,L listed a->∀j∈Region.ready md ops listed,n<=j) :
  ∀(f:Nat) (listed:Array Bool) (a:Act),LY md ops n ms listed ->
   (∀j t,ops[j]?=ax t->j≠i->listed.getD j av=au->(∀e∈t.after,Region.binds md e=av->e.on≠i)->x.apart ops t=av) ->
   i∈Region.ready md ops listed->YieldsIn P ops C x v a ->
   CY P md ops C n L f (listed.setIfInBounds i av) (a.put x.dst v)->CY P md ops C n L (f+1) listed a:=by
 intro f
 induction f with
|zero=>
  intro listed a inv _ q D H;have d:=(mem_ready.1 q).1;refine⟨λh=>(by rw[h] at q;cases q),λj u=>?_⟩;have l:j < n:=by
   rcases awO j n with h|h
   ·exact h
   ·exact absurd u (Mq I J K inv _ i rfl y d j h)
  refine⟨l,?_⟩;by_cases c:j=i
  ·subst c;exact D.qOp hi H
  ·have:=s _ _ H j (ready_mono u c);omega
|succ f N=>
  intro listed a inv g q D H;have d:=(mem_ready.1 q).1;refine⟨λh=>(by rw[h] at q;cases q),λj u=>?_⟩;have l:j < n:=by
   rcases awO j n with h|h
   ·exact h
   ·exact absurd u (Mq I J K inv _ i rfl y d j h)
  refine⟨l,?_⟩;by_cases c:j=i
  ·subst c;exact D.qOp hi H
  ·have E:=(H.2 j (ready_mono u c)).2;obtain⟨r,t,w,z⟩:=mem_ready.1 u;have A:∀e∈t.after,Region.binds md e=av->e.on≠i:=λe he O heq=>by
    have E:=z e he O;rw[heq,getD_both d] at E;cases E
   have Q:=qOp_put w (g j t w c r A) (λcs b=>p i x cs b hi) (λcs b=>p j t cs b w) D E;have m:∀k ok,ops[k]?=ax ok->k≠i->(listed.setIfInBounds j av).getD k av=au ->
     (∀e∈ok.after,Region.binds md e=av->e.on≠i)->x.apart ops ok=true:=λk ok R F d G=>by
    refine g k ok R F ?_ G;by_cases B:j=k
    ·subst B;exact r
    ·rw[getD_set_ne av B] at d;exact d
   refine qOp_mono (λa' M=>N (listed.setIfInBounds j av) a' (inv.set u l) m (ready_mono q (Ne.symm c)) M.1 ?_) Q;rw[aA5 _ _ c];exact M.2
def G4 (md:Region.Mode)(ops:Array Oper)(g n:Nat):List (Nat×Oper)->Array Bool->Bool
|[],listed=>Region.seqB md ops g n listed
|(k,_)::r,listed=>(Region.ready md ops listed).contains k&&Region.free md ops listed k&&ai (k < n)&&G4 md ops g n r (listed.setIfInBounds k av)
def snds:List (Nat×Oper)->List Oper
|[]=>[]
|p::l=>p.2::snds l
def fsts:List (Nat×Oper)->List Nat
|[]=>[]
|p::l=>p.1::fsts l
theorem Du {n g:Nat}{ms:List Nat}{j:Act->Prop}(c:Region.noSelect ops=av)(r:Ya md ops n ms=av)(s:Region.chainB md ops n=av)(t:n < ops.size) :
  ∀(l:List (Nat×Oper)) (listed:Array Bool) (a:Act),(∀p∈l,ops[p.1]?=ax p.2)->LY md ops n ms listed ->
  G4 md ops g n l listed=av->wpQuiet P ops C j (snds l) a ->
  CY P md ops C n (λb a'=>Region.seqB md ops g n b=av∧j a') l.length listed a
|[],listed,a,_,inv,f,h=>⟨f,h⟩
|(k,o)::l,listed,a,u,inv,f,h=>by
  have i:ops[k]?=ax o:=u (k,o) sm;simp only[G4,avM,awG] at f;obtain⟨⟨⟨w,x⟩,d⟩,m⟩:=f;have e:k∈Region.ready md ops listed:=by simpa using w
  have q:qOp P ops C k (wpQuiet P ops C j (snds l)) a:=by unfold qOp;simp only[i];exact h
  obtain⟨v,y,z⟩:=yieldsIn_of_qOp i q;exact M6 i (Region.noSelect_spec c) r s t d (λb a' hL=>seqB_ready hL.1) l.length listed a inv (Region.free_spec i x) e y
   (Du c r s t l _ _ (λp hp=>u p (by simp[hp])) (inv.set e d) m z)
def isMv (o:Oper):Bool:=
 match o.op with
|.move _|.assign _=>match o.guard with
 |none=>av
 |some _=>au
|_=>au
def Uk (md:Region.Mode)(ops:Array Oper)(n:Nat):List (Nat×Oper)->Array Bool->Option (Array Bool)
|[],listed=>ax listed
|(k,o)::r,listed=>if (Region.ready md ops listed).contains k&&Region.free md ops listed k&&ai (k < n)&&isMv o then Uk md ops n r (listed.setIfInBounds k av) else aw
def RG (o:Oper)(a:Act):Value:=
 match o.op with
|.move x|.assign x=>a.eval x
|_=>undef
def yV:List (Nat×Oper)->Act->Act
|[],a=>a
|(_,o)::r,a=>yV r (a.put o.dst (RG o a))
theorem Xl {o:Oper}(h:isMv o=av)(a:Act):Yields P ops o (RG o a) a:=by
 unfold isMv at h;left;split at h
 ·rename_i x b
  split at h
  ·rename_i c
   refine⟨by simp[Region.wanted,c],λw=>?_⟩;rw[show execOp a.eval o=pure (.value (a.eval x)) by unfold execOp;rw[b]];simp only[RG,b];rfl
  ·cases h
 ·rename_i x b
  split at h
  ·rename_i c
   refine⟨by simp[Region.wanted,c],λw=>?_⟩;rw[show execOp a.eval o=pure (.value (a.eval x)) by unfold execOp;rw[b]];simp only[RG,b];rfl
  ·cases h
 ·cases h
theorem LM {n:Nat}{Q:Exit->Act->ao->Prop}{fuel:Nat}(d:Region.noSelect ops=av)(f:List Nat):∀(ms:List (Nat×Oper)) (listed b:Array Bool) (a:Act) (w:ao),(∀p∈ms,ops[p.1]?=ax p.2)->Uk md ops n ms listed=ax b ->
  (∀p∈ms,∀v c a w,Q (.panic c) (a.put p.2.dst v) w->Q (.panic c) a w) ->
  LY md ops n f listed->(LY md ops n (fsts ms++f) b->wpAny P md ops Q fuel b (yV ms a) w)->wpAny P md ops Q (ms.length+fuel) listed a w
|[],listed,b,a,w,_,g,_,inv,h=>by
  cases g;rw[aAc,avC];exact h inv
|(k,o)::ms,listed,b,a,w,r,g,s,inv,h=>by
  have t:ops[k]?=ax o:=r (k,o) sm;unfold Uk at g;split at g
  ·rename_i u
   simp only[avM,awG] at u;obtain⟨⟨⟨x,y⟩,i⟩,j⟩:=u;have l:k∈Region.ready md ops listed:=by simpa using x
   have q:k < listed.size:=by rw[inv.head.size];exact (azS.1 t).1
   rw[avR,show ms.length+1+fuel=ms.length+fuel+1 by omega];refine wpAny_take t d y x (s (k,o) sm _) (Xl j a) ?_;refine LM d (k::f) ms _ b _ w (λp hp=>r p (by simp[hp])) g (λp hp=>s p (by simp[hp])) ⟨inv.head.set l i,λm hm=>?_⟩ (λe=>h ⟨e.head,λm hm=>e.moves m ?_⟩)
   ·rcases avB.1 hm with rfl|hm
    ·simp[q]
    ·exact getD_set_true (inv.moves m hm)
   ·simp only[fsts,ayP,avB,avZ] at hm ⊢;rcases hm with h|h|h
    ·exact .inr (.inl h)
    ·exact .inl h
    ·exact .inr (.inr h)
  ·cases g
def P6 (ops:Array Oper)(n:Nat)(ms a:List (Nat×Oper)):Bool:=
 Region.noSelect ops&&ai (n < ops.size)&&Ya .any ops n (fsts ms++[])&&Region.chainB .any ops n&&ai (ms.length+a.length=n) &&
  (match Uk .any ops n ms (Array.replicate ops.size au) with
 |some listed=>G4 .any ops (ops.size - n) n a listed
 |none=>au)
theorem M5 {a:Act}{l:List Oper}(n:Nat)(ms i:List (Nat×Oper))(A:P6 l.toArray n ms i=av)(hC:C { w with drawn:=w.drawn+1 })
  (r:∀p∈ms,l.toArray[p.1]?=ax p.2) (s:∀p∈i,l.toArray[p.1]?=ax p.2) (u:∀e a w,Q' e a w->Q e a w)
  (E:∀p∈ms,∀v c a w,Q' (.panic c) (a.put p.2.dst v) w->Q' (.panic c) a w)
  (h:wpQuiet P l.toArray C (λa'=>∀w',C w'->wpList P l.toArray Q' (l.drop n) a' w') (snds i) (yV ms a)):wpAny P .any l.toArray Q l.toArray.size (Array.replicate l.toArray.size au) a { w with drawn:=w.drawn+1 }:=by
 simp only[P6,avM,awG] at A;obtain⟨⟨⟨⟨⟨f,B⟩,x⟩,F⟩,hlen⟩,d⟩:=A;split at d
 ·rename_i b y
  have k:LY .any l.toArray n [] (Array.replicate l.toArray.size au):=
   ⟨⟨sm,λj K _ D=>(by rw[getD_replicate_false] at D;cases D),λt _ G=>getD_in (by simpa using G) (getD_replicate_false _ _)⟩,λm hm=>by cases hm⟩
  have I:n < l.length:=by simpa using B
  have o:(l.drop n).length=l.toArray.size - n:=sm
  refine aaG u _ _ _ _ ?_;have e:l.toArray.size=ms.length+(i.length+(l.toArray.size - n)):=om
  rw[e];rw[<-e];have H:=LM (P:=P) (md:=.any) (fuel:=i.length+(l.toArray.size - n)) f [] ms (Array.replicate l.toArray.size au) b a { w with drawn:=w.drawn+1 } r y E k (λq=>by
   have J:=Du (P:=P) (md:=.any) (g:=l.toArray.size - n) f x F B i b (yV ms a) s q d h;exact nE (Q':=Q') (g:=l.toArray.size - n) (λlisted a' w' z hL=>by
    have:=wpAny_of_seq (md:=.any) (Q':=Q') (l.drop n) n listed a' w' (λj=>by simp[axJ]) (by rw[o];exact hL.1) (hL.2 w' z)
    rwa [o] at this) _ _ _ _ hC J)
  rw[<-e] at H;exact H
 ·cases d
def Ln (P:Program)(ops:Array Oper)(L:Act->Prop):List (Nat×Oper)->Act->Prop
|[],a=>L a
|p::r,a=>∃v,Yields P ops p.2 v a∧Ln P ops L r (a.put p.2.dst v)
def UY (md:Region.Mode)(ops:Array Oper)(n:Nat):List (Nat×Oper)->Array Bool->Option (Array Bool)
|[],listed=>ax listed
|(k,_)::r,listed=>if (Region.ready md ops listed).contains k&&Region.free md ops listed k&&ai (k < n) then UY md ops n r (listed.setIfInBounds k av) else aw
theorem JJ {n:Nat}{Q:Exit->Act->ao->Prop}{fuel:Nat}{L:Act->Prop}(d:Region.noSelect ops=av)(f:List Nat):∀(ms:List (Nat×Oper)) (listed b:Array Bool) (a:Act) (w:ao),(∀p∈ms,ops[p.1]?=ax p.2)->UY md ops n ms listed=ax b ->
  (∀p∈ms,∀v c a w,Q (.panic c) (a.put p.2.dst v) w->Q (.panic c) a w) ->
  LY md ops n f listed->(LY md ops n (fsts ms++f) b->∀a',L a'->wpAny P md ops Q fuel b a' w)->Ln P ops L ms a->wpAny P md ops Q (ms.length+fuel) listed a w
|[],listed,b,a,w,_,g,_,inv,h,hL=>by
  cases g;rw[aAc,avC];exact h inv a hL
|(k,o)::ms,listed,b,a,w,q,g,r,inv,h,hL=>by
  have s:ops[k]?=ax o:=q (k,o) sm;obtain⟨v,x,hL⟩:=hL;unfold UY at g;split at g
  ·rename_i t
   simp only[avM,awG] at t;obtain⟨⟨u,y⟩,i⟩:=t;have j:k∈Region.ready md ops listed:=by simpa using u
   have l:k < listed.size:=by rw[inv.head.size];exact (azS.1 s).1
   rw[avR,show ms.length+1+fuel=ms.length+fuel+1 by omega];refine wpAny_take s d y u (r (k,o) sm _) x ?_;refine JJ d (k::f) ms _ b _ w (λp hp=>q p (by simp[hp])) g (λp hp=>r p (by simp[hp])) ⟨inv.head.set j i,λm hm=>?_⟩ (λe=>h ⟨e.head,λm hm=>e.moves m ?_⟩) hL
   ·rcases avB.1 hm with rfl|hm
    ·simp[l]
    ·exact getD_set_true (inv.moves m hm)
   ·simp only[fsts,ayP,avB,avZ] at hm ⊢;rcases hm with h|h|h
    ·exact .inr (.inl h)
    ·exact .inl h
    ·exact .inr (.inr h)
  ·cases g
def Sp (ops:Array Oper)(n:Nat)(ms a:List (Nat×Oper)):Bool:=
 Region.noSelect ops&&ai (n < ops.size)&&Ya .any ops n (fsts ms++[])&&Region.chainB .any ops n&&ai (ms.length+a.length=n) &&
  (match UY .any ops n ms (Array.replicate ops.size au) with
 |some listed=>G4 .any ops (ops.size - n) n a listed
 |none=>au)
def noG:List (Nat×Oper)->Bool
|[]=>av
|p::r=>p.2.guard.isNone&&noG r
def TI (ops:Array Oper)(n:Nat)(ms a:List (Nat×Oper)):Bool:=noG ms&&Sp ops n ms a
theorem Ni {a:Act}{l:List Oper}(n:Nat)(ms i:List (Nat×Oper))(r:TI l.toArray n ms i=av)(hC:C { w with drawn:=w.drawn+1 })
  (s:∀p∈ms,l.toArray[p.1]?=ax p.2) (u:∀p∈i,l.toArray[p.1]?=ax p.2) (x:∀e a w,Q' e a w->Q e a w)
  (D:∀p∈ms,∀v c a w,Q' (.panic c) (a.put p.2.dst v) w->Q' (.panic c) a w)
  (h:Ln P l.toArray (λa=>wpQuiet P l.toArray C (λa'=>∀w',C w'->wpList P l.toArray Q' (l.drop n) a' w') (snds i) a) ms a):wpAny P .any l.toArray Q l.toArray.size (Array.replicate l.toArray.size au) a { w with drawn:=w.drawn+1 }:=by
 replace r:=(avM _ _▸(show (noG ms&&Sp l.toArray n ms i)=av from r):_∧_).2
 simp only[Sp,avM,awG] at r;obtain⟨⟨⟨⟨⟨f,E⟩,y⟩,F⟩,hlen⟩,d⟩:=r;split at d
 ·rename_i b z
  have k:LY .any l.toArray n [] (Array.replicate l.toArray.size au):=
   ⟨⟨sm,λj K _ B=>(by rw[getD_replicate_false] at B;cases B),λt _ G=>getD_in (by simpa using G) (getD_replicate_false _ _)⟩,λm hm=>by cases hm⟩
  have o:(l.drop n).length=l.toArray.size - n:=sm
  refine aaG x _ _ _ _ ?_;have e:l.toArray.size=ms.length+(i.length+(l.toArray.size - n)):=om
  rw[e];rw[<-e];have H:=JJ (P:=P) (md:=.any) (fuel:=i.length+(l.toArray.size - n)) f [] ms (Array.replicate l.toArray.size au) b a { w with drawn:=w.drawn+1 } s z D k (λq a' I=>by
   have J:=Du (P:=P) (md:=.any) (g:=l.toArray.size - n) f y F E i b a' u q d I;exact nE (Q':=Q') (g:=l.toArray.size - n) (λlisted a' w' A hL=>by
    have:=wpAny_of_seq (md:=.any) (Q':=Q') (l.drop n) n listed a' w' (λj=>by simp[axJ]) (by rw[o];exact hL.1) (hL.2 w' A)
    rwa [o] at this) _ _ _ _ hC J) h
  rw[<-e] at H;exact H
 ·cases d
end
end Eng
end
section
namespace Eng
open Go.RowKit
abbrev Sg:=Nat->aq
abbrev bc {α:Sort _}(b:Bool)(x y:α):α:=match b with|true=>x|false=>y
theorem aF {α:Sort _}{x y:α}:bc av x y=x:=rfl
theorem aE {α:Sort _}{x y:α}:bc au x y=y:=rfl
def upd (σ:Sg)(d:Nat)(v:aq):Sg:=λi=>bc (Nat.beq i d) v (σ i)
def put (σ:Sg):Option Nat->aq->Sg
|some d,v=>upd σ d v
|none,_=>σ
def rd (σ:Sg):Operand->aq
|.tmp t=>σ t
|.const v=>v
|.global g=>af g 0
|.func f=>.func (.func f) #[] #[]
def inB (n:Nat):Option Nat->Bool
|some d=>Nat.blt d n
|none=>av
structure Rep (n:Nat) (σ:Sg) (t:Array aq):Prop where
 size:t.size=n
 get:∀i,t.getD i undef=σ i
theorem Rep.put {n:Nat}{σ:Sg}{a:Act}(h:Rep n σ a.tmps){d:Option Nat}(e:inB n d=av)(v:aq):Rep n (put σ d v) (a.put d v).tmps:=by
 cases d with
|none=>exact h
|some d=>
  have b:d < a.tmps.size:=by rw[h.size];simpa[inB,Nat.blt_eq] using e
  refine⟨by simpa[Act.put] using h.size,λi=>?_⟩;have:=h.get i;simp only[Act.put,Eng.put,upd];by_cases hi:i=d
  ·subst hi;simp[b]
  ·have c:Nat.beq i d=false:=by
    cases c:Nat.beq i d
    ·rfl
    ·exact absurd (aAq c) hi
   rw[c,aE,<-this];simp[aA6,Ne.symm hi]
theorem Rep.eval {n:Nat}{σ:Sg}{a:Act}(h:Rep n σ a.tmps):a.eval=rd σ:=by
 funext x
 cases x with
|tmp t=>exact h.get t
|_=>rfl
def wQ (K:VWP)(PK:PKT):Ending->ao->Prop
|.returned v,w=>K v w
|.panicked c,w=>PK c w
|.outgrown,_=>False
abbrev Fr (ro:Option Nat):Fence:={ Fence.wide with round:=ro }
theorem O4 {n:Nat}{f:FuncId}{R:Ending->ao->Prop}:CallsIn (Fr ro) n P f args w R↔Calls P f args w R:=
 callsIn_wide (n:=n)
structure RdX (P:Program) (l:Nat) (f:FuncId) (tmps:Array aq) (assign body:Code) (w:ao) (R:Ending->ao->Prop):Prop where
 mk ::
 out:RoundIn Fence.wide 0 P l f tmps assign body w R
structure eN (P:Program) (f:Nat) (args:Array aq) (w:ao) (PK:PKT) (K:VWP):Prop where
 mk ::
 out:Calls P f args w (wQ K PK)
def KE (P:Program)(r:Result Next)(K:VWP)(PK:PKT):Prop:=
 match r with
|.ok (.value v) w=>K v w
|.ok .skip w=>K undef w
|.ok (.enter f args) w=>eN P f args w PK K
|.ok (.round l f tmps assign body) w=>RdX P l f tmps assign body w (wQ K PK)
|.halt (.panic v) w=>PK [{ v,recovered:=au }] w
|_=>False
structure DoX (P:Program) (m:Sem Next) (w:ao) (PK:PKT) (K:VWP):Prop where
 mk ::
 out:KE P (m.run P w) K PK
def cD (P:Program)(f:Nat):Bool:=
 match P.funcs[f]? with
|some fn=>!(fn.name=="runtime.NumGoroutine")&&fn.body.isSome
|none=>au
theorem iF (h:cD P f=av)(args:Array aq)(w:ao):(callFunc f args).run P w=.ok (.enter f args) w:=by
 unfold cD at h;cases hf:P.funcs[f]? with
|none=>rw[hf] at h;cases h
|some fn=>
  rw[hf] at h;simp only[avM,aAr] at h;obtain⟨h1,h2⟩:=h;have h3:fn.body.isNone=false:=by cases hb:fn.body<;>simp_all
  have h1':fn.name≠"runtime.NumGoroutine":=by simpa using h1
  have h3':fn.body≠none:=by intro hc;rw[hc] at h3;cases h3
  simp[callFunc,hf,h1',h3',program,Sem.run,bind,Sem.bind,pure]
def BH {α β:Type}(f:α->β)(a:Array α):Array β:=(a.toList.map f).toArray
theorem DR (f:α->β)(a:Array α):BH f a=a.map f:=by
 apply Array.ext';simp[BH]
def mv (s:Sem aq):Sem Next:=do pure (.value (<-s))
def mu (s:Sem Unit):Sem Next:=do s;pure .skip
def iM (T:TypeId):=mv (Instr.alloc T av (.tuple #[]))
def AS (T:TypeId)(x:aq):=mv (Instr.box T x)
def aN (T:TypeId)(ps:Array (Nat×aq)):=mv (Instr.build T ps)
def bJ (T:TypeId)(n:Nat)(ps:Array (Nat×aq)):=mv (Instr.buildSlice T n ps)
def aG (T:TypeId)(a:aq):=mv (Instr.loadAt T a)
def aV (T:TypeId)(a x:aq):=mu (Instr.storeAt T a x)
def aoA (g:Nat):=mu (Instr.ready g)
def alH (g:Nat):=mv (Instr.waits g)
def GZ (x:aq):Sem Next:=execOp (λ_=>x) { dst:=aw,op:=.nilCheck (.tmp 0),type:=0,pos:="",after:=#[],guard:=aw }
def fK (c a b:aq):Sem Next:=do pure (.value (if <-asBool c then a else b))
def gS (op:BinOp)(T:TypeId)(x y:aq):=mv (binOp op T x y)
def mEq (op:BinOp)(T:TypeId)(xo yo:Operand)(x y:aq):=mv (do eqGuard op T xo yo x y;binOp op T x y)
def mUn (op:UnOp)(x:aq):=mv (Op.unary op x)
def nG (S D:TypeId)(x:aq):=mv (convert S D x)
def mSAP (D:TypeId)(x:aq):=mv (Instr.arrayAt D x)
def aeN (T:TypeId)(x:aq):=mv (Instr.makeInterface T x)
def Q7 (fn:Fn)(first cap:Array aq):=mv (Instr.makeFunc fn first cap)
def mMap (T:TypeId)(r:Option aq):=mv (Instr.makeMap T r)
def IH (T:TypeId)(l c:aq):=mv (Instr.makeSlice T l c)
def cY (T:TypeId)(x:aq)(lo hi a:Option aq):=mv (Instr.sliceAt T x lo hi a)
def mFA (T:TypeId)(x:aq)(f:Nat):=mv (Instr.fieldAt T x f)
def mFld (T:TypeId)(x:aq)(f:Nat):=mv (Instr.field T x f)
def mIA (T:TypeId)(x i:aq):=mv (Instr.indexAt T x i)
def mIx (T:TypeId)(x i:aq):=mv (Instr.index T x i)
def Wd (T:TypeId)(x i:aq)(ok:Bool):=mv (Instr.lookup T x i ok)
def acW (T:TypeId)(m k v:aq):=mu (Instr.mapUpdate T m k v)
def auG (T:TypeId)(m k:aq):=mv (Instr.mapEntry T m k)
def atG (T:TypeId)(m s v:aq):=mu (Instr.entryStore T m s v)
def alD (T:TypeId)(x:aq):=mv (Instr.range T x)
def atY (it:aq)(str:Bool)(ty:TypeId):=mv (Instr.next it str ty)
def aoE (it:aq):=mv (Instr.entry it)
def mTA (x:aq)(a T:TypeId)(ok:Bool):=mv (Instr.typeAssert x a T ok)
def zt (t:aq)(i:Nat):=mv (Instr.extract t i)
def G3 (x:aq):=mv (Instr.panic x)
def mB (b:Builtin)(a:Array TypeId)(ty:TypeId)(cs:Array Bool)(vs:Array aq):Sem Next:=builtin b a ty cs vs
def fV (f:aq)(args:Array aq):Sem Next:=do let d <-Deferred.ofValue f args;invoke d.target d.args
def mInv (name:String)(r:aq)(args:Array aq):Sem Next:=invoke (.fn (.method name) #[]) (#[r]++args)
def isEq:BinOp->Bool
|.eql|.neq=>av
|_=>au
def isLit:Operand->Bool
|.const _=>av
|_=>au
def Ec (ρ:Operand->aq)(o:Oper):Sem Next:=
 match o.op with
|.alloc T=>iM T
|.box T x=>AS T (ρ x)
|.build T ps=>aN T (BH (λp=>(p.1,ρ p.2)) ps)
|.buildSlice T n ps=>bJ T n (BH (λp=>(p.1,ρ p.2)) ps)
|.load T a=>aG T (ρ a)
|.store T a x=>aV T (ρ a) (ρ x)
|.ready g=>aoA g
|.waits g=>alH g
|.nilCheck x=>GZ (ρ x)
|.pick c a b=>fK (ρ c) (ρ a) (ρ b)
|.binOp op T x y _=>bc (isEq op) (mEq op T x y (ρ x) (ρ y)) (gS op T (ρ x) (ρ y))
|.unOp op _ x=>mUn op (ρ x)
|.convert S D x=>nG S D (ρ x)
|.sliceToArrayPointer D x=>mSAP D (ρ x)
|.makeInterface T x=>aeN T (ρ x)
|.makeFunc fn first cap=>Q7 fn (BH ρ first) (BH ρ cap)
|.makeMap T r=>mMap T (r.map ρ)
|.makeSlice T l c=>IH T (ρ l) (ρ c)
|.slice T x lo hi d=>cY T (ρ x) (lo.map ρ) (hi.map ρ) (d.map ρ)
|.fieldAddr T x f=>mFA T (ρ x) f
|.field T x f=>mFld T (ρ x) f
|.indexAddr T x i=>mIA T (ρ x) (ρ i)
|.index T x i=>mIx T (ρ x) (ρ i)
|.lookup T x i ok=>Wd T (ρ x) (ρ i) ok
|.mapUpdate T m k v=>acW T (ρ m) (ρ k) (ρ v)
|.insert T m k v=>acW T (ρ m) (ρ k) (ρ v)
|.mapEntry T m k=>auG T (ρ m) (ρ k)
|.entryStore T m s v=>atG T (ρ m) (ρ s) (ρ v)
|.range T x=>alD T (ρ x)
|.next it str=>atY (ρ it) str o.type
|.entry it=>aoE (ρ it)
|.typeAssert x e T ok=>mTA (ρ x) e T ok
|.extract t i=>zt (ρ t) i
|.panic x=>G3 (ρ x)
|.call { callee:=.builtin b,args,argTypes }=>mB b argTypes o.type (BH isLit args) (BH ρ args)
|.call { callee:=.value f,args,.. }=>fV (ρ f) (BH ρ args)
|.call { callee:=.invoke r name,args,.. }=>mInv name (ρ r) (BH ρ args)
|_=>execOp ρ o
theorem kP (ρ:Operand->aq)(o:Oper):Ec ρ o=execOp ρ o:=by
 obtain⟨dst,op,ty,pos,after,guard⟩:=o;unfold Ec;simp only[DR];cases op with
|binOp op T x y T'=>cases op<;>rfl
|call c=>
  obtain⟨callee,args,a⟩:=c;cases callee with
 |value f=>rfl
 |invoke r n=>rfl
 |builtin b=>rfl
|_=>rfl
def opV (P:Program)(o:Oper)(σ:Sg)(w:ao)(K:VWP)(PK:PKT):Prop:=
 match o.op with
|.move x|.assign x=>K (rd σ x) w
|.call { callee:=.value (.func f),args,.. }=>bc (cD P f) (eN P f (BH (rd σ) args) w PK K) (DoX P (Ec (rd σ) o) w PK K)
|.defer _=>False
|_=>DoX P (Ec (rd σ) o) w PK K
def jQ (v:aq)(want:Bool):Bool:=
 match v with
|.bool b=>b==want
|_=>au
def Lc (ops:Array Oper)(j:Nat):Option Nat:=(ops[j]?).bind (·.dst)
structure GDo (v:aq) (want:Bool) (E:(VWP)->Prop) (w:ao) (K:VWP):Prop where
 mk ::
 out:bc (jQ v want) (E K) (K undef w)
abbrev Nx:=Sg->List Deferred->ao->Prop
def dfr (σ:Sg)(c:Call):Option Deferred:=
 match c.callee with
|.value (.func f)=>ax { target:=.fn (.func f) #[],args:=BH (rd σ) c.args }
|.value x=>match rd σ x with
 |.func fn first captured=>ax { target:=.fn fn captured,args:=first++BH (rd σ) c.args }
 |_=>aw
|_=>aw
structure DfrX (d:Option Deferred) (K:Deferred->Prop):Prop where
 mk ::
 out:∃d',d=ax d'∧K d'
def Bw (P:Program)(ro:Option Nat)(n:Nat)(ops:Array Oper)(K:Nx)(PK:List PanicEntry->Nx):List Oper->Sg->List Deferred->ao->Prop
|[],σ,ds,w=>K σ ds w
|o::rest,σ,ds,w=>
  bc (inB n o.dst)
   (match o.guard with
  |none=>
    match o.op with
   |.defer c=>match ro with
    |none=>match c.callee with
     |.value (.func f)=>Bw P ro n ops K PK rest (put σ o.dst undef) ({ target:=.fn (.func f) #[],args:=BH (rd σ) c.args }::ds) w
     |_=>DfrX (dfr σ c) (λd=>Bw P ro n ops K PK rest (put σ o.dst undef) (d::ds) w)
    |some _=>False
   |_=>opV P o σ w (λv w=>Bw P ro n ops K PK rest (put σ o.dst v) ds w) (λc w=>PK c σ ds w)
  |some (j,want)=>
    match Lc ops j with
   |some d=>bc (Nat.blt d n) (GDo (σ d) want (λK'=>opV P o σ w K' (λc w=>PK c σ ds w)) w (λv w=>Bw P ro n ops K PK rest (put σ o.dst v) ds w)) False
   |none=>False)
   False
def kY (n:Nat)(K:Nx)(a:Act)(w:ao):Prop:=∃σ,Rep n σ a.tmps∧K σ a.defers w
theorem asV {o:Oper}{n:Nat}{σ:Sg}{a:Act}(g:Rep n σ a.tmps)(m:inB n o.dst=av)(i:∀c,o.op≠.defer c){K:Nx}{PK:List PanicEntry->Nx}{next:Act->ao->Prop}
  (j:∀c a w,kY n (PK c) a w->Q (.panic c) a w) (d:∀a w,kY n K a w->next a w)
  (h:KE P ((execOp (rd σ) o).run P w) (λv w=>K (put σ o.dst v) a.defers w) (λc w=>PK c σ a.defers w)):o.wpIn (Fr ro) 0 P a w next Q:=by
 unfold Oper.wpIn;refine⟨λ_ _=>trivial,?_⟩;rw[g.eval,Oper.semAt_eq _ _ _ i];generalize (execOp (rd σ) o).run P w=r at *;have b:∀v w,K (put σ o.dst v) a.defers w->next (a.put o.dst v) w:=λv w p=>d _ _ ⟨_,g.put m v,by
  have e:(a.put o.dst v).defers=a.defers:=by cases o.dst<;>rfl
  rw[e];exact p⟩
 cases r with
|ok x w'=>
  cases x<;>simp only[KE] at h<;>simp only[Oper.uponIn]
  ·exact b _ _ h
  ·exact b _ _ h
  ·refine⟨(λk=>by cases k),O4.2 (h.out.mono λe l f=>?_)⟩;cases e with
  |returned v=>exact b _ _ f
  |panicked c=>exact j _ _ _ ⟨σ,g,f⟩
  |outgrown=>exact f.elim
  all_goals first|exact h.elim|skip
  refine⟨(λk=>by cases k),RoundIn.mono h.out λe l f=>?_⟩;cases e with
 |returned v=>exact b _ _ f
 |panicked c=>exact j _ _ _ ⟨σ,g,f⟩
 |outgrown=>exact f.elim
|halt x w'=>
  cases x<;>simp only[KE] at h<;>simp only[Oper.uponIn]
  case panic v=>exact j _ _ _ ⟨σ,g,h⟩
  all_goals exact h.elim
theorem Tv {o:Oper}{n:Nat}{σ:Sg}{a:Act}(e:Rep n σ a.tmps)(g:inB n o.dst=av){K:Nx}{PK:List PanicEntry->Nx}{next:Act->ao->Prop}
  (i:∀c a w,kY n (PK c) a w->Q (.panic c) a w) (b:∀a w,kY n K a w->next a w)
  (h:opV P o σ w (λv w=>K (put σ o.dst v) a.defers w) (λc w=>PK c σ a.defers w)):o.wpIn (Fr ro) 0 P a w next Q:=by
 refine asV e g (λc j=>by unfold opV at h;rw[j] at h;exact h.elim) i b ?_;unfold opV at h;split at h
 ·rename_i x d;rw[show execOp (rd σ) o=pure (.value (rd σ x)) by unfold execOp;rw[d]];exact h
 ·rename_i x d;rw[show execOp (rd σ) o=pure (.value (rd σ x)) by unfold execOp;rw[d]];exact h
 ·rename_i f args k d
  cases hp:cD P f with
 |false=>rw[hp,aE] at h;replace h:=h.out;rw[kP] at h;exact h
 |true=>
   rw[hp,aF] at h;have:(execOp (rd σ) o).run P w=.ok (.enter f (BH (rd σ) args)) w:=by
    unfold execOp;rw[d];rw[DR];simp only[resolve,rd,Deferred.ofValue,invoke,bind,pure,Sem.bind];rw[aAs,aAt];exact iF hp _ _
   rw[this];exact h
 ·exact h.elim
 ·replace h:=h.out;rw[kP] at h;exact h
def NoR (r:Result Next):Prop:=∀l f t a b w',r≠.ok (.round l f t a b) w'
def noRd (P:Program)(o:Oper):Bool:=
 match o.op with
|.call { callee:=.value (.func f),.. }=>cD P f
|.call { callee:=.builtin b,.. }=>match b with
 |.append|.copy|.len|.cap|.min|.max|.unsafeString|.unsafeSliceData|.delete|.clear=>av
 |_=>au
|.call _=>au
|.go _|.defer _|.send ..|.recv ..|.select ..|.makeChan ..=>au
|_=>av
def Kp (P:Program):List Oper->Bool
|[]=>av
|o::l=>noRd P o&&Kp P l
theorem anR (s:Sem aq):NoR ((mv s).run P w):=by
 intro l f t a b w' h;unfold mv at h;rw[Sem.run_bind] at h;generalize s.run P w=r at h;cases r<;>simp[Result.andThen] at h
theorem atU (s:Sem Unit):NoR ((mu s).run P w):=by
 intro l f t a b w' h;unfold mu at h;rw[Sem.run_bind] at h;generalize s.run P w=r at h;cases r<;>simp[Result.andThen] at h
theorem aaH {o:Oper}{σ:Sg}(h:noRd P o=av):NoR ((execOp (rd σ) o).run P w):=by
 generalize hρ:rd σ=ρ;unfold noRd at h;unfold execOp;cases m:o.op<;>rw[m] at h<;>simp only at h ⊢<;>first|exact anR _|exact atU _|(cases h;done)|skip
 case move=>intro l f t a b w' h;cases h
 case assign=>intro l f t a b w' h;cases h
 case pick c a b=>
  intro l f t a b w' h;rw[Sem.run_bind] at h;generalize Sem.run P (asBool (ρ c)) w=r at h;cases r<;>simp[Result.andThen] at h
 case nilCheck x=>
  intro l f t a b w' h;split at h
  ·cases h
  ·cases h
  ·cases h
  ·split at h
   ·cases h
   ·rw[Sem.run_bind] at h;generalize Sem.run P program w=r at h;cases r with
   |halt _ _=>simp[Result.andThen] at h
   |ok p s=>
     simp only[Result.andThen] at h;rw[Sem.run_bind] at h;generalize Sem.run P (nilAhead _ _ _ _) s=r at h;cases r with
    |halt _ _=>simp[Result.andThen] at h
    |ok q w2=>
      simp only[Result.andThen] at h;split at h
      ·cases h
      ·cases h
   ·cases h
  ·cases h
 case call c=>
  obtain⟨callee,args,i⟩:=c;cases callee with
 |invoke r n=>cases h
 |value x=>
   cases x with
  |func g=>
    intro l f t a b w' j;have e:(do let d <-resolve ρ { callee:=.value (.func g),args,argTypes:=i } o.type;invoke d.target d.args:Sem Next).run P w=.ok (.enter g (BH ρ args)) w:=by
     rw[DR,<-hρ];simp only[resolve,rd,Deferred.ofValue,invoke,bind,pure,Sem.bind];rw[aAs,aAt];exact iF h _ _
    rw[e] at j;cases j
  |_=>cases h
 |builtin k=>
   show NoR ((builtin k i o.type _ _).run P w);cases k<;>first|exact anR _|(cases h;done)
theorem afR {o:Oper}{n:Nat}{σ:Sg}{a:Act}(f:Rep n σ a.tmps)(k:inB n o.dst=av){K:Nx}{PK:List PanicEntry->Nx}{next:Act->ao->Prop}
  (j:∀c a w,kY n (PK c) a w->Q (.panic c) a w) (d:∀a w,kY n K a w->next a w)
  (g:NoR ((execOp (rd σ) o).run P w)) (h:KE P ((execOp (rd σ) o).run P w) (λv w=>K (put σ o.dst v) a.defers w) (λc w=>PK c σ a.defers w)):o.wp P a w next Q:=by
 unfold Oper.wp;rw[f.eval];generalize (execOp (rd σ) o).run P w=r at *;have b:∀v w,K (put σ o.dst v) a.defers w->next (a.put o.dst v) w:=λv w l=>d _ _ ⟨_,f.put k v,by
  have e:(a.put o.dst v).defers=a.defers:=by cases o.dst<;>rfl
  rw[e];exact l⟩
 cases r with
|ok x w'=>
  cases x<;>simp only[KE] at h<;>simp only[Oper.upon]
  ·exact b _ _ h
  ·exact b _ _ h
  ·refine h.out.mono λe m i=>?_;cases e with
  |returned v=>exact b _ _ i
  |panicked c=>exact j _ _ _ ⟨σ,f,i⟩
  |outgrown=>exact i.elim
  all_goals first|exact h.elim|skip
  exact g _ _ _ _ _ _ rfl
|halt x w'=>
  cases x<;>simp only[KE] at h<;>simp only[Oper.upon]
  case panic v=>exact j _ _ _ ⟨σ,f,h⟩
  all_goals exact h.elim
theorem RM {o:Oper}{n:Nat}{σ:Sg}{a:Act}(g:Rep n σ a.tmps)(i:inB n o.dst=av){K:Nx}{PK:List PanicEntry->Nx}{next:Act->ao->Prop}
  (j:∀c a w,kY n (PK c) a w->Q (.panic c) a w) (b:∀a w,kY n K a w->next a w)
  (e:noRd P o=av) (h:opV P o σ w (λv w=>K (put σ o.dst v) a.defers w) (λc w=>PK c σ a.defers w)):o.wp P a w next Q:=by
 refine afR g i j b (aaH e) ?_;unfold opV at h;split at h
 ·rename_i x d;rw[show execOp (rd σ) o=pure (.value (rd σ x)) by unfold execOp;rw[d]];exact h
 ·rename_i x d;rw[show execOp (rd σ) o=pure (.value (rd σ x)) by unfold execOp;rw[d]];exact h
 ·rename_i f args k d
  cases hp:cD P f with
 |false=>rw[hp,aE] at h;replace h:=h.out;rw[kP] at h;exact h
 |true=>
   rw[hp,aF] at h;have:(execOp (rd σ) o).run P w=.ok (.enter f (BH (rd σ) args)) w:=by
    unfold execOp;rw[d];rw[DR];simp only[resolve,rd,Deferred.ofValue,invoke,bind,pure,Sem.bind];rw[aAs,aAt];exact iF hp _ _
   rw[this];exact h
 ·exact h.elim
 ·replace h:=h.out;rw[kP] at h;exact h
theorem ahT {o:Oper}{n:Nat}{σ:Sg}{a:Act}(g:Rep n σ a.tmps)(i:inB n o.dst=av){K:Nx}{PK:List PanicEntry->Nx}{next:Act->ao->Prop}
  (j:∀c a w,kY n (PK c) a w->Q (.panic c) a w) (b:∀a w,kY n K a w->next a w)
  (e:NoR ((execOp (rd σ) o).run P w)) (h:opV P o σ w (λv w=>K (put σ o.dst v) a.defers w) (λc w=>PK c σ a.defers w)):o.wp P a w next Q:=by
 refine afR g i j b e ?_;unfold opV at h;split at h
 ·rename_i x d;rw[show execOp (rd σ) o=pure (.value (rd σ x)) by unfold execOp;rw[d]];exact h
 ·rename_i x d;rw[show execOp (rd σ) o=pure (.value (rd σ x)) by unfold execOp;rw[d]];exact h
 ·rename_i f args k d
  cases hp:cD P f with
 |false=>rw[hp,aE] at h;replace h:=h.out;rw[kP] at h;exact h
 |true=>
   rw[hp,aF] at h;have:(execOp (rd σ) o).run P w=.ok (.enter f (BH (rd σ) args)) w:=by
    unfold execOp;rw[d];rw[DR];simp only[resolve,rd,Deferred.ofValue,invoke,bind,pure,Sem.bind];rw[aAs,aAt];exact iF hp _ _
   rw[this];exact h
 ·exact h.elim
 ·replace h:=h.out;rw[kP] at h;exact h
structure CVX (P:Program) (v:aq) (args:Array aq) (w:ao) (PK:PKT) (K:VWP):Prop where
 mk ::
 out:∃f fa ca,v=.func (.func f) fa ca∧cD P f=av∧eN P f (fa++args++ca) w PK K
def isCV (o:Oper):Bool:=
 match o.op with
|.call { callee:=.value (.func _),.. }=>au
|.call { callee:=.value _,.. }=>av
|_=>au
def opW (P:Program)(o:Oper)(σ:Sg)(w:ao)(K:VWP)(PK:PKT):Prop:=
 match o.op with
|.call { callee:=.value (.func _),.. }=>opV P o σ w K PK
|.call { callee:=.value x,args,.. }=>CVX P (rd σ x) (BH (rd σ) args) w PK K
|_=>opV P o σ w K PK
theorem akU (h:cD P f=av)(fa ca args:Array aq)(w:ao):(fV (.func (.func f) fa ca) args).run P w=.ok (.enter f (fa++args++ca)) w:=by
 unfold fV;simp only[Deferred.ofValue,invoke,bind,pure,Sem.bind];exact iF h _ _
theorem anU {o:Oper}{σ:Sg}(h:opW P o σ w K PK):opV P o σ w K PK∧(isCV o=av->NoR ((execOp (rd σ) o).run P w)):=by
 unfold opW at h;split at h
 ·rename_i f args i d;exact⟨h,λc=>by unfold isCV at c;rw[d] at c;cases c⟩
 ·rename_i x args i n d
  obtain⟨f,fa,ca,p,q,r⟩:=h.out;have e:execOp (rd σ) o=fV (rd σ x) (BH (rd σ) args):=by
   rw[<-kP];unfold Ec;rw[d]
  have j:=akU q fa ca (BH (rd σ) args) w;rw[<-p] at j;refine⟨?_,λ_=>by rw[e,j];intro l f t a b w' s;cases s⟩;unfold opV;rw[d];have u:DoX P (Ec (rd σ) o) w PK K:=⟨by rw[kP,e,j];exact r⟩;cases x with
 |func g=>exact absurd rfl (n g)
 |_=>exact u
 ·rename_i v k
  refine⟨h,λc=>?_⟩;unfold isCV at c;split at c
  ·cases c
  ·rename_i x args d m;exact absurd m (k _ _ _)
  ·cases c
def ZJ (P:Program):List Oper->Bool
|[]=>av
|o::l=>(noRd P o||isCV o)&&ZJ P l
theorem xE {n:Nat}{σ:Sg}{a:Act}(c:Rep n σ a.tmps){o:Oper}(g:o.guard=ax (j,want))(f:Lc ops j=ax d)(h:Nat.blt d n=av) :
  Region.wanted o (yielded ops a.tmps)=jQ (σ d) want:=by
 have b:d < a.tmps.size:=by rw[c.size];simpa[Nat.blt_eq] using h
 have e:a.tmps[d]?=ax (σ d):=by
  rw[<-c.get d,aA6,Array.getElem?_eq_getElem b];rfl
 unfold Lc at f;simp only[Region.wanted,g,yielded,f,Option.bind_some,e,jQ];cases σ d<;>simp
theorem VN {n:Nat}{K:Nx}{PK:List PanicEntry->Nx}
  (v:∀c a w,kY n (PK c) a w->Q (.panic c) a w) (y:∀a w,kY n K a w->Q .normal a w) :
  ∀(l:List Oper) (σ:Sg) (a:Act) (w:ao),Rep n σ a.tmps->Bw P ro n ops K PK l σ a.defers w->wpListIn (Fr ro) 0 P ops Q l a w:=by
 intro l
 induction l with
|nil=>intro σ a w k h;exact y _ _ ⟨σ,k,h⟩
|cons o rest r=>
  intro σ a w k h;unfold Bw at h;cases p:inB n o.dst with
 |false=>rw[p,aE] at h;exact h.elim
 |true=>
   rw[p,aF] at h;unfold wpListIn;cases s:o.guard with
  |none=>
    simp only[s] at h;rw[auP (by simp[Region.wanted,s])];split at h
    ·rename_i c z
     cases ro with
    |some _=>exact h.elim
    |none=>
     have key:∀d,dfr σ c=ax d->Bw P aw n ops K PK rest (put σ o.dst undef) (d::a.defers) w->o.wpIn (Fr aw) 0 P a w (wpListIn (Fr aw) 0 P ops Q rest) Q:=by
      intro d b h;have q:(execOp (rd σ) o).run P w=.ok (.defer d) w:=by
       unfold execOp;rw[z];unfold dfr at b;unfold resolve;split at b
       ·rename_i f t
        cases b;simp[DR,t,rd,Deferred.ofValue,bind,pure,Sem.bind,Sem.run]
       ·rename_i x _ A
        split at b
        ·rename_i fn first cap B
         cases b;simp[DR,A,B,Deferred.ofValue,bind,pure,Sem.bind,Sem.run]
        ·cases b
       ·cases b
      unfold Oper.wpIn;refine⟨λ_ _=>trivial,?_⟩;rw[k.eval,Oper.semAt_none,q];simp only[Oper.uponIn];have g:Rep n (put σ o.dst undef) (({ a with defers:=d::a.defers }:Act).put o.dst undef).tmps:=Rep.put (a:={ a with defers:=d::a.defers }) k p undef;refine r _ _ _ g ?_;have e:(({ a with defers:=d::a.defers }:Act).put o.dst undef).defers=d::a.defers:=by cases o.dst<;>rfl
      rw[e];exact h
     simp only at h;split at h
     ·rename_i f t
      exact key _ (by unfold dfr;rw[t]) h
     ·obtain⟨d,b,h⟩:=h.out;exact key d b h
    ·refine Tv (K:=λσ ds w=>Bw P ro n ops K PK rest σ ds w) (PK:=PK) k p v ?_ h;rintro a' w' ⟨σ',g,u⟩;exact r _ _ _ g u
  |some C=>
    obtain⟨j,want⟩:=C;simp only[s] at h;split at h
    ·rename_i d D
     cases m:Nat.blt d n with
    |false=>rw[m,aE] at h;exact h.elim
    |true=>
      rw[m,aF] at h;have hw:=xE k s D m
      replace h:=h.out
      cases i:jQ (σ d) want with
     |true=>
       rw[i,aF] at h;rw[auP (by rw[hw,i])];refine Tv (K:=λσ ds w=>Bw P ro n ops K PK rest σ ds w) (PK:=PK) k p v ?_ h;rintro a' w' ⟨σ',g,u⟩;exact r _ _ _ g u
     |false=>
       rw[i,aE] at h;rw[auO (by rw[hw,i];simp)];have e:(a.put o.dst undef).defers=a.defers:=by cases o.dst<;>rfl
       exact⟨λ_ _=>trivial,r _ _ _ (k.put p undef) (by rw[e];exact h)⟩
    ·exact h.elim
theorem FJ {n:Nat}{K:Nx}{PK:List PanicEntry->Nx}
  (t:∀c a w,kY n (PK c) a w->Q (.panic c) a w) (u:∀a w,kY n K a w->Q .normal a w) :
  ∀(l:List Oper) (σ:Sg) (a:Act) (w:ao),Kp P l=av->Rep n σ a.tmps->Bw P aw n ops K PK l σ a.defers w->wpList P ops Q l a w:=by
 intro l
 induction l with
|nil=>intro σ a w _ m h;exact u _ _ ⟨σ,m,h⟩
|cons o rest r=>
  intro σ a w b m h;simp only[Kp,avM] at b;obtain⟨b,f⟩:=b;unfold Bw at h;cases p:inB n o.dst with
 |false=>rw[p,aE] at h;exact h.elim
 |true=>
   rw[p,aF] at h;unfold wpList;cases q:o.guard with
  |none=>
    simp only[q] at h;rw[auP (by simp[Region.wanted,q])];left;split at h
    ·rename_i c v
     unfold noRd at b;rw[v] at b;cases b
    ·refine RM (K:=λσ ds w=>Bw P aw n ops K PK rest σ ds w) (PK:=PK) m p t ?_ b h;rintro a' w' ⟨σ',i,s⟩;exact r _ _ _ f i s
  |some x=>
    obtain⟨j,want⟩:=x;simp only[q] at h;split at h
    ·rename_i d y
     cases k:Nat.blt d n with
    |false=>rw[k,aE] at h;exact h.elim
    |true=>
      rw[k,aF] at h;have hw:=xE m q y k
      replace h:=h.out
      cases g:jQ (σ d) want with
     |true=>
       rw[g,aF] at h;rw[auP (by rw[hw,g])];left;refine RM (K:=λσ ds w=>Bw P aw n ops K PK rest σ ds w) (PK:=PK) m p t ?_ b h;rintro a' w' ⟨σ',i,s⟩;exact r _ _ _ f i s
     |false=>
       rw[g,aE] at h;rw[auO (by rw[hw,g];simp)];have e:(a.put o.dst undef).defers=a.defers:=by cases o.dst<;>rfl
       exact r _ _ _ f (m.put p undef) (by rw[e];exact h)
    ·exact h.elim
structure QDo (P:Program) (C:ao->Prop) (m:Sem Next) (K:aq->Prop):Prop where
 mk ::
 out:∃v,(∀w,C w->Oper.quietUpon P C w v (m.run P w))∧K v
structure Eu (P:Program) (C:ao->Prop) (f:Nat) (args:Array aq) (K:aq->Prop):Prop where
 mk ::
 out:∃v,(∀w,C w->Calls P f args w (λe w'=>e=.returned v∧C w'))∧K v
def opQ (P:Program)(C:ao->Prop)(o:Oper)(σ:Sg)(K:aq->Prop):Prop:=
 match o.op with
|.move x|.assign x=>K (rd σ x)
|.call { callee:=.value (.func f),args,.. }=>bc (cD P f) (Eu P C f (BH (rd σ) args) K) (QDo P C (Ec (rd σ) o) K)
|_=>QDo P C (Ec (rd σ) o) K
structure GQ (v:aq) (want:Bool) (E:(aq->Prop)->Prop) (K:aq->Prop):Prop where
 mk ::
 out:bc (jQ v want) (E K) (K undef)
def nI (P:Program)(n:Nat)(ops:Array Oper)(C:ao->Prop)(K:Sg->Prop):List Oper->Sg->Prop
|[],σ=>K σ
|o::rest,σ=>
  bc (inB n o.dst)
   (match o.guard with
  |none=>opQ P C o σ (λv=>nI P n ops C K rest (put σ o.dst v))
  |some (j,want)=>
    match Lc ops j with
   |some d=>bc (Nat.blt d n) (GQ (σ d) want (λK'=>opQ P C o σ K') (λv=>nI P n ops C K rest (put σ o.dst v))) False
   |none=>False)
   False
theorem afM {o:Oper}{n:Nat}{σ:Sg}{a:Act}(g:Rep n σ a.tmps){next:Act->Prop}{K:aq->Prop}
  (b:∀v,K v->next (a.put o.dst v)) (h:opQ P C o σ K):o.quiet P a C next:=by
 unfold Oper.quiet Oper.quietAt;rw[g.eval];have key:QDo P C (Ec (rd σ) o) K->∃v,(∀w,C w->Oper.quietUpon P C w v ((execOp (rd σ) o).run P w))∧next (a.put o.dst v):=
  λ⟨⟨v,d,e⟩⟩=>⟨v,by rw[<-kP];exact d,b _ e⟩
 unfold opQ at h;split at h
 ·rename_i x c;exact⟨rd σ x,λw _=>by rw[show execOp (rd σ) o=pure (.value (rd σ x)) by unfold execOp;rw[c]];exact⟨rfl,rfl⟩,b _ h⟩
 ·rename_i x c;exact⟨rd σ x,λw _=>by rw[show execOp (rd σ) o=pure (.value (rd σ x)) by unfold execOp;rw[c]];exact⟨rfl,rfl⟩,b _ h⟩
 ·rename_i f args i c
  cases hp:cD P f with
 |false=>rw[hp,aE] at h;exact key h
 |true=>
   rw[hp,aF] at h;obtain⟨v,d,e⟩:=h.out;refine⟨v,λw hw=>?_,b _ e⟩;have:(execOp (rd σ) o).run P w=.ok (.enter f (BH (rd σ) args)) w:=by
    unfold execOp;rw[c];rw[DR];simp only[resolve,rd,Deferred.ofValue,invoke,bind,pure,Sem.bind];rw[aAs,aAt];exact iF hp _ _
   rw[this];exact⟨rfl,d w hw⟩
 ·exact key h
theorem tZ {n:Nat}{K:Sg->Prop}{Q:Act->Prop}
  (m:∀σ a,Rep n σ a.tmps->a.defers=ds->K σ->Q a) :
  ∀(l:List Oper) (σ:Sg) (a:Act),Rep n σ a.tmps->a.defers=ds->nI P n ops C K l σ->wpQuiet P ops C Q l a:=by
 intro l
 induction l with
|nil=>intro σ a g e h;exact m _ _ g e h
|cons o rest p=>
  intro σ a g e h;unfold nI at h;cases k:inB n o.dst with
 |false=>rw[k,aE] at h;exact h.elim
 |true=>
   rw[k,aF] at h;have b:∀v,nI P n ops C K rest (put σ o.dst v)->wpQuiet P ops C Q rest (a.put o.dst v):=λv q=>
    p _ _ (g.put k v) (by rw[<-e];cases o.dst<;>rfl) q
   unfold wpQuiet;cases i:o.guard with
  |none=>
    simp only[i] at h;rw[auP (by simp[Region.wanted,i])];exact afM g b h
  |some r=>
    obtain⟨j,want⟩:=r;simp only[i] at h;split at h
    ·rename_i d s
     cases f:Nat.blt d n with
    |false=>rw[f,aE] at h;exact h.elim
    |true=>
      rw[f,aF] at h;have hw:=xE g i s f
      replace h:=h.out
      cases c:jQ (σ d) want with
     |true=>
       rw[c,aF] at h;rw[auP (by rw[hw,c])];exact afM g b h
     |false=>
       rw[c,aE] at h;rw[auO (by rw[hw,c];simp)];exact b _ h
    ·exact h.elim
def aeL (P:Program)(o:Oper):Bool:=
 match o.op with
|.alloc _|.box ..|.buildSlice ..|.store ..|.makeMap ..|.makeSlice ..|.makeChan ..|.mapUpdate ..|.insert ..|.mapEntry ..|.entryStore ..|.range ..|.next ..|.panic _|.defer _=>av
|.convert _ d _=>match P.underlying d with|some (.slice _)=>av|_=>au
|.call { callee:=.builtin .unsafeString,.. }|.call { callee:=.builtin .append,.. }|.call { callee:=.builtin .copy,.. }|.call { callee:=.builtin .delete,.. }|.call { callee:=.builtin .clear,.. }=>av
|_=>au
def memT (P:Program):Nat->Nat->Bool
|0,_=>av
|k+1,t=>match P.underlying t with
 |some (.slice _)=>av
 |some (.pointer _)=>av
 |some (.map _ _)=>av
 |some (.struct fs)=>fs.toList.any λf=>memT P k f.type
 |some (.array _ e)=>memT P k e
 |_=>au
def sJ (p:Oper->Bool):Code->Bool
|.region _ ops _=>ops.toList.any p
|.seq a b=>bc (sJ p a) av (sJ p b)
|.cond _ a b=>bc (sJ p a) av (sJ p b)
|.block _ a=>sJ p a
|.loop a=>sJ p a
|.rangeFunc _ _ a b=>bc (sJ p a) av (sJ p b)
|_=>au
def isMk (P:Program)(o:Oper):Bool:=
 match o.op with
|.buildSlice ..|.makeMap ..|.makeSlice ..=>av
|.convert _ d _=>match P.underlying d with|some (.slice _)=>av|_=>au
|.call { callee:=.builtin .append,.. }=>av
|_=>au
def aeK (P:Program):Nat->Nat->Bool
|0,f=>match P.funcs[f]? with
 |some g=>sJ (isMk P) (g.body.getD .skip)
 |none=>au
|k+1,f=>match P.funcs[f]? with
 |some g=>sJ (λo=>bc (isMk P o) av (match o.op with|.call { callee:=.value (.func g),.. }=>aeK P k g|_=>au)) (g.body.getD .skip)
 |none=>au
def asA (o:Oper):Bool:=match o.op with|.panic _=>av|_=>au
def panF (P:Program):Nat->Nat->Bool
|0,_=>au
|k+1,f=>match P.funcs[f]? with
 |some g=>sJ (λo=>bc (asA o) av (match o.op with|.call { callee:=.value (.func h),.. }=>panF P k h|_=>au)) (g.body.getD .skip)
 |none=>au
def newF (P:Program)(f:Nat):Bool:=
 match P.funcs[f]? with
|some g=>bc (panF P 3 f) av (bc (g.resultTypes.toList.any λt=>memT P 4 t) (aeK P 2 f) au)
|none=>au
def amJ (P:Program)(o:Oper):Bool:=
 match o.op with
|.call { callee:=.value (.func f),.. }=>newF P f
|_=>aeL P o
def bA (P:Program):List Oper->Nat
|[]=>0
|o::l=>bc (amJ P o) 0 (bA P l+1)
section
variable {P:Program}{ops:Array Oper}{md:Region.Mode}{C:ao->Prop}
theorem Pv {n:Nat}{x:Oper}{L:Array Bool->Act->Prop}(hi:ops[i]?=ax x)(p:∀(j:Nat) (o:Oper) cs b,ops[j]?=ax o->o.op≠.select cs b)
  (I:Region.sinkB md ops n=av) (J:Region.chainB md ops n=av) (K:n < ops.size) (y:i < n)
  (s:∀listed a,L listed a->∀j∈Region.ready md ops listed,n<=j) :
  ∀(f:Nat) (listed:Array Bool) (a:Act),HeadInv md ops n listed ->
   (∀j t,ops[j]?=ax t->j≠i->listed.getD j av=au->(∀e∈t.after,Region.binds md e=av->e.on≠i)->x.apart ops t=av) ->
   i∈Region.ready md ops listed->YieldsIn P ops C x v a ->
   CY P md ops C n L f (listed.setIfInBounds i av) (a.put x.dst v)->CY P md ops C n L (f+1) listed a:=by
 intro f
 induction f with
|zero=>
  intro listed a inv _ q D H;have d:=(mem_ready.1 q).1;refine⟨λh=>(by rw[h] at q;cases q),λj u=>?_⟩;have l:j < n:=by
   rcases awO j n with h|h
   ·exact h
   ·exact absurd u (tail_waits I J K inv _ i rfl y d j h)
  refine⟨l,?_⟩;by_cases c:j=i
  ·subst c;exact D.qOp hi H
  ·have:=s _ _ H j (ready_mono u c);omega
|succ f N=>
  intro listed a inv g q D H;have d:=(mem_ready.1 q).1;refine⟨λh=>(by rw[h] at q;cases q),λj u=>?_⟩;have l:j < n:=by
   rcases awO j n with h|h
   ·exact h
   ·exact absurd u (tail_waits I J K inv _ i rfl y d j h)
  refine⟨l,?_⟩;by_cases c:j=i
  ·subst c;exact D.qOp hi H
  ·have E:=(H.2 j (ready_mono u c)).2;obtain⟨r,t,w,z⟩:=mem_ready.1 u;have A:∀e∈t.after,Region.binds md e=av->e.on≠i:=λe he O heq=>by
    have E:=z e he O;rw[heq,getD_both d] at E;cases E
   have Q:=qOp_put w (g j t w c r A) (λcs b=>p i x cs b hi) (λcs b=>p j t cs b w) D E;have m:∀k ok,ops[k]?=ax ok->k≠i->(listed.setIfInBounds j av).getD k av=au ->
     (∀e∈ok.after,Region.binds md e=av->e.on≠i)->x.apart ops ok=true:=λk ok R F d G=>by
    refine g k ok R F ?_ G;by_cases B:j=k
    ·subst B;exact r
    ·rw[getD_set_ne av B] at d;exact d
   refine qOp_mono (λa' M=>N (listed.setIfInBounds j av) a' (inv.set u l) m (ready_mono q (Ne.symm c)) M.1 ?_) Q;rw[aA5 _ _ c];exact M.2
theorem Lo {n g:Nat}{p:Act->Prop}(c:Region.noSelect ops=av)(s:Region.sinkB md ops n=av)(t:Region.chainB md ops n=av)(u:n < ops.size) :
  ∀(l:List Oper) (k:Nat) (listed:Array Bool) (a:Act),(∀j,j < l.length->l[j]?=ops[k+j]?)->k+l.length=n->HeadInv md ops n listed ->
  Region.lexHead md ops g l.length k listed=av->wpQuiet P ops C p l a ->
  CY P md ops C n (λb a'=>Region.seqB md ops g n b=av∧p a') l.length listed a
|[],k,listed,a,_,f,_,i,h=>by
  have:k=n:=by simpa using f
  subst this;exact⟨by simpa[Region.lexHead] using i,h⟩
|o::l,k,listed,a,w,f,inv,i,h=>by
  have m:ops[k]?=ax o:=by simpa using (w 0 sm).symm
  simp only[avR,Region.lexHead,avM] at i;obtain⟨⟨x,y⟩,q⟩:=i;have d:k < n:=by simp only[avR] at f;omega
  have e:k∈Region.ready md ops listed:=by simpa using x
  have r:qOp P ops C k (wpQuiet P ops C p l) a:=by unfold qOp;simp only[m];exact h
  obtain⟨v,z,A⟩:=yieldsIn_of_qOp m r;exact Pv m (Region.noSelect_spec c) s t u d (λb a' hL=>seqB_ready hL.1) l.length listed a inv (Region.free_spec m y) e z
   (Lo c s t u l (k+1) _ _ (λj B=>by have:=w (j+1) (by simp;omega);simpa[axK,aAu 1 j] using this) (by simp only[avR] at f;omega) (inv.set e d) q A)
theorem Nh {a:Act}{l:List Oper}(n:Nat)(m:Region.lexTailB .any l.toArray n=av)(hC:C { w with drawn:=w.drawn+1 })
  (h:wpQuiet P l.toArray C (λa'=>∀w',C w'->wpList P l.toArray Q (l.drop n) a' w') (l.take n) a):wpAny P .any l.toArray Q l.toArray.size (Array.replicate l.toArray.size au) a { w with drawn:=w.drawn+1 }:=by
 simp only[Region.lexTailB,avM,awG] at m;obtain⟨⟨⟨⟨c,o⟩,r⟩,s⟩,d⟩:=m;have u:n < l.length:=by simpa using o
 have b:(l.take n).length=n:=by simp;omega
 have e:(l.drop n).length=l.toArray.size - n:=sm
 have f:HeadInv .any l.toArray n (Array.replicate l.toArray.size au):=
  ⟨sm,λj x _ p=>(by rw[getD_replicate_false] at p;cases p),λt _ v=>getD_in (by simpa using v) (getD_replicate_false _ _)⟩
 have H:=Lo (md:=.any) (g:=l.toArray.size - n) c r s o (l.take n) 0 _ a (λj q=>by
  have i:j < n:=by rw[b] at q;exact q
  simp[i]) (by simpa using b) f (by rw[b];exact d) h
 have:=nE (Q':=Q) (g:=l.toArray.size - n) (λlisted a' w' k hL=>by
  have:=wpAny_of_seq (md:=.any) (Q':=Q) (l.drop n) n listed a' w' (λj=>by simp[axJ]) (by rw[e];exact hL.1) (hL.2 w' k)
  rwa [e] at this) _ _ _ _ hC H
 rw[b,show n+(l.toArray.size - n)=l.toArray.size by omega] at this;exact this
theorem XK {a:Act}(b:Region.lexB .any ops=av)(hC:C { w with drawn:=w.drawn+1 })
  (h:wpQuiet P ops C (λa'=>∀w',C w'->Q .normal a' w') ops.toList a):wpAny P .any ops Q ops.size (Array.replicate ops.size au) a { w with drawn:=w.drawn+1 }:=by
 simp only[Region.lexB,avM] at b;refine wpAny_of_quiet (Q:=λa'=>∀w',C w'->Q .normal a' w') (λ_ w' c h=>h w' c) _ _ _ _ hC ?_;have:=wpAnyQ_lex (C:=C) (md:=.any) b.1 ops.toList 0 (Array.replicate ops.size au) a sm (by simpa using b.2) h;simpa using this
end
def tT:List Oper->Bool
|[]=>av
|o::l=>(match o.op with|.defer _=>au|_=>av)&&tT l
theorem PB:∀{l:List Oper},tT l=av->∀o,o∈l->∀c,o.op≠.defer c
|[],_,o,a,_=>by cases a
|x::l,h,o,a,c=>by
  simp only[tT,avM] at h;rcases avB.1 a with rfl|a
  ·intro e;rw[e] at h;cases h.1
  ·exact PB h.2 o a c
def JY (Q:Exit->Act->ao->Prop):Exit->Act->ao->Prop
|.outgrown,_,_=>False
|e,a,w=>Q e a w
theorem abO {Q:Exit->Act->ao->Prop}:∀e a w,JY Q e a w->Q e a w
|.outgrown,_,_,h=>h.elim
|.normal,_,_,h=>h
|.ret,_,_,h=>h
|.exit _,_,_,h=>h
|.goto _,_,_,h=>h
|.panic _,_,_,h=>h
theorem asN {o:Oper}{a:Act}{K:Act->ao->Prop}(b:∀c,o.op≠.defer c)(h:o.wp P a w K (JY Q)):o.wpIn (Fr ro) 0 P a w K (JY Q):=by
 refine⟨λ_ _=>trivial,?_⟩;rw[Oper.semAt_eq _ _ _ b];unfold Oper.wp at h;generalize (execOp a.eval o).run P w=r at h ⊢;cases r with
|ok x w'=>
  cases x<;>simp only[Oper.upon] at h<;>simp only[Oper.uponIn]<;>first|exact h|exact h.elim|skip
  ·exact⟨(λd=>by cases d),O4.2 h⟩
  ·exact⟨(λd=>by cases d),λc cs _=>let ⟨v,w',r,s⟩:=h c cs;⟨v,w',r,stepsIn_wide.2 s⟩⟩
|halt x w'=>cases x<;>simp only[Oper.upon] at h<;>simp only[Oper.uponIn]<;>first|exact h|exact h.elim
theorem UC {P:Program}{ro:Option Nat}{ops:Array Oper}{Q:Exit->Act->ao->Prop}(c:tT ops.toList=av):∀(fuel:Nat) (listed:Array Bool) (a:Act) (w:ao),wpAny P .any ops (JY Q) fuel listed a w->wpAnyIn (Fr ro) 0 P .any ops (JY Q) fuel listed a w
|0,_,_,_,h=>h
|fuel+1,listed,a,w,h=>by
  refine⟨h.1,λi hi=>?_⟩;have b:=h.2 i hi;unfold wpOp at b;unfold wpOpIn;split
  ·rename_i f
   simp only[f] at b;exact UC c fuel _ _ _ b
  ·rename_i o e
   simp only[e] at b;have d:o∈ops.toList:=by
    have:=aAd e;simpa using this
   split
   ·rename_i hw
    simp only[hw,if_true] at b;rcases b with b|⟨_,a',w',g⟩
    ·exact Oper.wpIn_mono (λa w j=>UC c fuel _ a w j) (asN (PB c o d) b)
    ·exact g.elim
   ·rename_i hw
    simp only[hw] at b;exact⟨λ_ _=>trivial,UC c fuel _ _ _ b⟩
theorem Cy {a:Act}(hm:P.follows .mixedOrders=av)(b:tT ops.toList=av)
  (h:wpAny P .any ops (JY Q) ops.size (Array.replicate ops.size au) a { w with drawn:=w.drawn+1 }):(Code.region id ops av).wpIn (Fr ro) 0 P Q a w:=
 Code.wpIn_mono abO (wpIn_region_any hm (UC b _ _ _ _ h))
def Cp (i:Nat):List Nat->Bool
|[]=>au
|j::l=>Nat.beq i j||Cp i l
def OD (ms:List Nat)(o:Oper):Bool:=o.after.toList.all λe=>!(Region.binds .any e)||Cp e.on ms
def mvL:List Oper->Nat->List Nat->List (Nat×Oper)
|[],_,_=>[]
|o::l,k,ms=>bc (isMv o&&OD ms o) ((k,o)::mvL l (k+1) (k::ms)) (mvL l (k+1) ms)
def hdL:List Oper->Nat->List Nat->List (Nat×Oper)
|[],_,_=>[]
|o::l,k,ms=>bc (isMv o&&OD ms o) (hdL l (k+1) (k::ms)) ((k,o)::hdL l (k+1) ms)
def mvX (o:Oper)(σ:Sg):Value:=
 match o.op with
|.move x|.assign x=>rd σ x
|_=>undef
def Vc:List (Nat×Oper)->Sg->Sg
|[],σ=>σ
|p::r,σ=>Vc r (put σ p.2.dst (mvX p.2 σ))
def Hv (n:Nat):List (Nat×Oper)->Bool
|[]=>av
|p::r=>inB n p.2.dst&&Hv n r
def pmX:List (Nat×Oper)->Nx->Nx
|[],K=>K
|p::r,K=>λσ ds w=>∀u:aq,pmX r K (put σ p.2.dst u) ds w
def isNil:List Nat->Bool
|[]=>av
|_=>au
def andL:List Prop->Prop
|[]=>True
|[p]=>p
|p::q::l=>p∧andL (q::l)
theorem Gd:∀{l:List Prop},andL l->∀p,p∈l->p
|[],_,p,hp=>by cases hp
|[q],h,p,hp=>by rw[avV] at hp;subst hp;exact h
|q::r::l,h,p,hp=>by
  rcases avB.1 hp with rfl|hp
  ·exact h.1
  ·exact Gd h.2 p hp
theorem Sj:∀{l:List Prop},(∀p,p∈l->p)->andL l
|[],_=>trivial
|[q],h=>h q sm
|q::r::l,h=>⟨h q sm,Sj λp hp=>h p (by simp only[avB] at hp ⊢;exact .inr hp)⟩
def P5 (P:Program)(n:Nat)(ops:Array Oper)(o:Oper)(σ:Sg)(w:ao)(next:Sg->ao->Prop)(PK:PKT):Prop:=
 bc (inB n o.dst)
  (match o.guard with
 |none=>opV P o σ w (λv w=>next (put σ o.dst v) w) PK
 |some (j,want)=>
   match Lc ops j with
  |some d=>bc (Nat.blt d n) (GDo (σ d) want (λK'=>opV P o σ w K' PK) w (λv w=>next (put σ o.dst v) w)) False
  |none=>False)
  False
def QP (P:Program)(n:Nat)(ops:Array Oper)(o:Oper)(σ:Sg)(w:ao)(next:Sg->ao->Prop)(PK:PKT):Prop:=
 bc (inB n o.dst)
  (match o.guard with
 |none=>opW P o σ w (λv w=>next (put σ o.dst v) w) PK
 |some (j,want)=>
   match Lc ops j with
  |some d=>bc (Nat.blt d n) (GDo (σ d) want (λK'=>opW P o σ w K' PK) w (λv w=>next (put σ o.dst v) w)) False
  |none=>False)
  False
def KG (P:Program)(n:Nat)(ops:Array Oper)(K:Nx)(PK:List PanicEntry->Nx):Nat->Array Bool->Sg->List Deferred->ao->Prop
|0,listed,σ,ds,w=>bc (isNil (Region.ready .any ops listed)) (K σ ds w) False
|f+1,listed,σ,ds,w=>
  bc (isNil (Region.ready .any ops listed)) (K σ ds w)
   (andL ((Region.ready .any ops listed).map λi=>match ops[i]? with
   |none=>False
   |some o=>P5 P n ops o σ w (λσ' w'=>KG P n ops K PK f (listed.setIfInBounds i av) σ' ds w') (λc w=>PK c σ ds w)))
theorem yA :isNil l=av↔l=[]:=by cases l<;>simp[isNil]
theorem VQ {n:Nat}{o:Oper}{σ:Sg}{a:Act}{K:Nx}{PK:List PanicEntry->Nx}{next:Act->ao->Prop}(l:Rep n σ a.tmps)(q:∀c,o.op≠.defer c)
  (p:∀c a w,kY n (PK c) a w->Q (.panic c) a w) (b:∀a w,kY n K a w->next a w)
  (h:P5 P n ops o σ w (λσ' w'=>K σ' a.defers w') (λc w=>PK c σ a.defers w)) :
  if Region.wanted o (yielded ops a.tmps) then o.wpIn (Fr ro) 0 P a w next Q else (∀f,o.about P w a.eval=ax f->(Fr ro).fn f)∧next (a.put o.dst undef) w:=by
 unfold P5 at h;cases k:inB n o.dst with
|false=>rw[k,aE] at h;exact h.elim
|true=>
  rw[k,aF] at h;cases m:o.guard with
 |none=>
   simp only[m] at h;rw[auP (by simp[Region.wanted,m])];exact Tv (K:=K) (PK:=PK) l k p b h
 |some r=>
   obtain⟨j,want⟩:=r;simp only[m] at h;split at h
   ·rename_i d s
    cases i:Nat.blt d n with
   |false=>rw[i,aE] at h;exact h.elim
   |true=>
     rw[i,aF] at h;have hw:=xE l m s i
     replace h:=h.out
     cases g:jQ (σ d) want with
    |true=>
      rw[g,aF] at h;rw[auP (by rw[hw,g])];exact Tv (K:=K) (PK:=PK) l k p b h
    |false=>
      rw[g,aE] at h;rw[auO (by rw[hw,g];simp)];have e:(a.put o.dst undef).defers=a.defers:=by cases o.dst<;>rfl
      exact⟨λ_ _=>trivial,b _ _ ⟨_,l.put k undef,by rw[e];exact h⟩⟩
   ·exact h.elim
theorem Ow {P:Program}{ro:Option Nat}{n:Nat}{ops:Array Oper}{K:Nx}{PK:List PanicEntry->Nx}{Q:Exit->Act->ao->Prop}(d:tT ops.toList=av)
  (p:∀c a w,kY n (PK c) a w->Q (.panic c) a w) (j:∀a w,kY n K a w->Q .normal a w) :
  ∀(fuel:Nat) (listed:Array Bool) (σ:Sg) (a:Act) (w:ao),Rep n σ a.tmps->KG P n ops K PK fuel listed σ a.defers w->wpAnyIn (Fr ro) 0 P .any ops Q fuel listed a w
|0,listed,σ,a,w,g,h=>by
  unfold KG at h;cases b:isNil (Region.ready .any ops listed) with
 |false=>rw[b,aE] at h;exact h.elim
 |true=>rw[b,aF] at h;exact⟨yA.1 b,j _ _ ⟨σ,g,h⟩⟩
|f+1,listed,σ,a,w,g,h=>by
  unfold KG at h;cases b:isNil (Region.ready .any ops listed) with
 |true=>
   rw[b,aF] at h;have he:=yA.1 b;exact⟨λ_=>j _ _ ⟨σ,g,h⟩,λi hi=>by rw[he] at hi;cases hi⟩
 |false=>
   rw[b,aE] at h;refine⟨(λhe=>by rw[yA.2 he] at b;cases b),λi hi=>?_⟩;have k:=Gd h _ (awD.2 ⟨i,hi,rfl⟩);unfold wpOpIn;cases l:ops[i]? with
  |none=>simp only[l] at k
  |some o=>
    simp only[l] at k ⊢;have e:o∈ops.toList:=by
     have:=aAd l;simpa using this
    refine VQ (K:=λσ' ds' w'=>KG P n ops K PK f (listed.setIfInBounds i av) σ' ds' w') (PK:=PK) g (PB d o e) p ?_ k;rintro a' w' ⟨σ',m,q⟩;exact Ow d p j f _ σ' a' w' m q
structure DrawX (w:ao) (F:ao->Prop):Prop where
 mk ::
 out:F { w with drawn:=w.drawn+1 }
abbrev Ex:=Exit->Sg->List Deferred->ao->Prop
def mem (i:Nat):List Nat->Bool
|[]=>au
|j::l=>Nat.beq i j||mem i l
def F0:List Oper->List Nat
|[]=>[]
|o::l=>match o.dst with
 |some d=>d::F0 l
 |none=>F0 l
def asg:Code->List Nat
|.region _ ops _=>F0 ops.toList
|.seq a b=>asg a++asg b
|.cond _ a b=>asg a++asg b
|.block _ a=>asg a
|.loop a=>asg a
|_=>[]
def jun:List Nat->List Nat->List Nat
|[],b=>b
|i::a,b=>bc (mem i b) (jun a b) (i::jun a b)
def rem (id:Nat):List Nat->List Nat
|[]=>[]
|i::a=>bc (Nat.beq id i) (rem id a) (i::rem id a)
def jx:Code->List Nat
|.seq a b=>jun (jx a) (jx b)
|.cond _ a b=>jun (jx a) (jx b)
|.block id a=>rem id (jx a)
|.loop a=>jx a
|.exit j=>[j]
|.rangeFunc _ _ _ b=>jx b
|_=>[]
def jr:Code->Bool
|.seq a b=>jr a||jr b
|.cond _ a b=>jr a||jr b
|.block _ a=>jr a
|.loop a=>jr a
|.ret=>av
|.rangeFunc _ _ _ b=>jr b
|_=>au
def SE (id:Nat):Code->Nat
|.seq a b=>SE id a+SE id b
|.cond _ a b=>SE id a+SE id b
|.block _ a=>SE id a
|.loop a=>SE id a
|.exit j=>bc (Nat.beq id j) 1 0
|.rangeFunc _ _ _ b=>bc (mem id (jx b)) 1 0
|_=>0
def ways:Code->Nat
|.skip=>1
|.region ..=>1
|.seq a b=>bc (Nat.beq (ways a) 0) 0 (ways b)
|.cond _ a b=>ways a+ways b
|.block id a=>ways a+SE id a
|.rangeFunc ..=>1
|_=>0
def keyOf:Code->Nat
|.region id ..=>id
|.seq a b=>bc (Nat.beq (keyOf a) 999999) (keyOf b) (keyOf a)
|.cond _ a b=>bc (Nat.beq (keyOf a) 999999) (keyOf b) (keyOf a)
|.block _ a=>keyOf a
|.loop a=>keyOf a
|.rangeFunc _ _ a b=>bc (Nat.beq (keyOf a) 999999) (keyOf b) (keyOf a)
|_=>999999
def look (k:Nat):List (Nat×List Nat)->List Nat
|[]=>[]
|p::l=>bc (Nat.beq p.1 k) p.2 (look k l)
def pos (i:Nat):List Nat->Option Nat
|[]=>aw
|j::l=>bc (Nat.beq i j) (ax 0) ((pos i l).map (·+ 1))
def mix (σ:Sg)(A ls:List Nat)(vs:List aq)(j:Sg):Sg:=λi=>
 bc (mem i A) (match pos i ls with|some k=>vs.getD k undef|none=>j i) (σ i)
def pick (ls:List Nat)(σ:Sg):List Value:=
 match ls with
|[]=>[]
|i::l=>σ i::pick l σ
structure zP (F:(List aq->ao->Prop)->Prop) (R:List aq->ao->Prop):Prop where
 mk ::
 out:∀J:List aq->ao->Prop,(∀vs w,R vs w->J vs w)->F J
def AtX:List Deferred->List Deferred->Prop->Prop
|[],[],p=>p
|a,b,p=>a=b∧p
theorem AtX.out {a b:List Deferred}{p:Prop}(h:AtX a b p):a=b∧p:=by
 unfold AtX at h;split at h
 ·exact⟨rfl,h⟩
 ·exact h
structure IfX (v:aq) (A B:Prop):Prop where
 mk ::
 out:match v with
 |.bool b=>(b=av->A)∧(b=au->B)
 |_=>False
structure zr (vs:List aq) (w:ao) (F:List aq->ao->(List aq->ao->Prop)->Prop):Prop where
 mk ::
 out:∃(I:List aq->ao->Prop) (μ:List aq->ao->Nat),I vs w∧∀vs w,I vs w->F vs w (λvs' w'=>I vs' w'∧μ vs' w' < μ vs w)
structure JoinD (F:(List Deferred->List aq->ao->Prop)->Prop) (R:List Deferred->List aq->ao->Prop):Prop where
 mk ::
 out:∀J:List Deferred->List aq->ao->Prop,(∀ds vs w,R ds vs w->J ds vs w)->F J
structure LoopD (ds:List Deferred) (vs:List aq) (w:ao) (F:List Deferred->List aq->ao->(List Deferred->List aq->ao->Prop)->Prop):Prop where
 mk ::
 out:∃(I:List Deferred->List aq->ao->Prop) (μ:List aq->ao->Nat),I ds vs w∧∀ds vs w,I ds vs w->F ds vs w (λds' vs' w'=>I ds' vs' w'∧μ vs' w' < μ vs w)
def Gq:Code->Bool
|.seq a b=>bc (Gq a) av (Gq b)
|.cond _ a b=>bc (Gq a) av (Gq b)
|.block _ a=>Gq a
|.loop a=>Gq a
|.rangeFunc ..=>av
|_=>au
def mkB (ro:Option Nat)(c:Code):Bool:=match ro with|none=>Gq c|some _=>au
structure zp (w:ao) (F:(ao->Prop)->Prop):Prop where
 mk ::
 out:∃C:ao->Prop,C w.drew∧F C
def O2 (Q:Ex)(K:Nx):Ex
|.normal,σ,ds,w=>K σ ds w
|e,σ,ds,w=>Q e σ ds w
def aeO (id:Nat)(Q:Ex):Ex
|.exit j,σ,ds,w=>bc (Nat.beq j id) (Q .normal σ ds w) (Q (.exit j) σ ds w)
|e,σ,ds,w=>Q e σ ds w
def KM (w:ao)(b:Nat)(o:Obj):World:={ w with heap:=w.heap.setIfInBounds b o }
def lp (L0:Loop)(st:LoopState)(pd:Option Code):Obj:=.loop { L0 with state:=st,pending:=pd }
def YldP (P:Program)(l:Nat)(args:List aq)(W:ao)(R:VWP)(RP:PKT):Prop:=
 ∃fn tmps a b,(Instr.yield l args.toArray).run P W=.ok (.round l fn tmps a b) W∧RoundIn Fence.wide 0 P l fn tmps a b W (wQ R RP)
structure BegX (P:Program) (l:Nat) (W:ao) (K:ao->Prop):Prop where
 mk ::
 out:∃w2,(Instr.beginRound l).run P W=.ok () w2∧K w2
structure EndX (P:Program) (l:Nat) (j:Option Code) (W:ao) (R:VWP):Prop where
 mk ::
 out:∃v w',(Instr.endRound l j).run P W=.ok v w'∧R v w'
def LayR (w:ao):Option Nat->Nat->ao->Prop
|none,df,w0=>df=w.heap.size∧w0=w.alloc (.deferred (ax []))
|some b,df,w0=>∃a,w.heap[b]?=ax (.loop a)∧df=a.defers∧w0=w
structure RangeX (P:Program) (ro:Option Nat) (np:Nat) (gv:aq) (w:ao) (B:Nat->List aq->ao->(VWP)->(PKT)->Prop) (js:List (Option Code×(Nat->ao->Prop))) (PK:List PanicEntry->Nat->ao->Prop):Prop where
 mk ::
 out:∃f fa ca df w0,gv=.func (.func f) fa ca∧cD P f=av∧LayR w ro df w0∧∀L0:Loop,L0.defers=df ->
  (∀l args W R RP,W.heap[l]?=ax (lp L0 .ready aw)->args.length=np->B l args W R RP->YldP P l args W R RP) ->
  Calls P f (fa++#[.func (.yield w0.heap.size) #[] #[]]++ca) (w0.alloc (lp L0 .ready aw)) λe w3=>
   (∃v st pd k,e=.returned v∧st≠.busy∧w3.heap[w0.heap.size]?=ax (lp L0 st pd)∧(pd,k)∈js∧k df (KM w3 w0.heap.size (lp L0 .exhausted pd)))∨∃c,e=.panicked c∧PK c df w3
def putL:List Nat->List aq->Nat->Sg->Sg
|[],_,_,σ=>σ
|p::ps,args,k,σ=>putL ps args (k+1) (upd σ p (args.getD k undef))
def SO (n:Nat):List Nat->Bool
|[]=>av
|p::ps=>bc (Nat.blt p n) (SO n ps) au
def mkD (r:Nat):Deferred:={ target:=.collected r,args:=#[] }
def QT:Option Nat->Nat->List Deferred->List Deferred
|none,r,ds=>mkD r::ds
|some _,_,ds=>ds
def exJ (K:Nat->Nat->ao->Prop):List Nat->List (Option Code×(Nat->ao->Prop))
|[]=>[]
|i::l=>(ax (.exit i),K i)::exJ K l
def jsX (b:Code)(K:Exit->Nat->ao->Prop):List (Option Code×(Nat->ao->Prop)):=
 (aw,K .normal)::bc (jr b) ((ax .ret,K .ret)::exJ (λi=>K (.exit i)) (jx b)) (exJ (λi=>K (.exit i)) (jx b))
def begQ (K:Sg->ao->Prop):Ex
|.normal,σ,[],w=>K σ w
|_,_,_,_=>False
def rndQ (P:Program)(l:Nat)(R:VWP)(RP:PKT):Ex
|.panic c,_,[],w=>RP c w
|.normal,_,_,w=>EndX P l aw w R
|.ret,_,_,w=>EndX P l (ax .ret) w R
|.exit i,_,_,w=>EndX P l (ax (.exit i)) w R
|_,_,_,_=>False
structure PDo (P:Program) (m:Sem Next) (K:aq->Prop):Prop where
 mk ::
 out:∃v,(∀w,m.run P w=.ok (.value v) w)∧K v
def opP (P:Program)(o:Oper)(σ:Sg)(K:aq->Prop):Prop:=
 match o.op with
|.move x|.assign x=>K (rd σ x)
|_=>PDo P (Ec (rd σ) o) K
def Mt (P:Program)(n:Nat):List (Nat×Oper)->(Sg->Prop)->Sg->Prop
|[],K,σ=>K σ
|p::r,K,σ=>bc (inB n p.2.dst) (bc p.2.guard.isNone (opP P p.2 σ (λv=>Mt P n r K (put σ p.2.dst v))) False) False
def DW:List Oper->Nat->List (Nat×Oper)
|[],_=>[]
|o::l,k=>(k,o)::DW l (k+1)
def MM:List Edge->List Nat
|[]=>[]
|e::l=>bc (Region.binds .any e) (e.on::MM l) (MM l)
def goDn:List (Nat×Oper)->List Nat->List Nat
|[],S=>S
|p::r,S=>goDn r (bc (Cp p.1 S) (MM p.2.after.toList++S) S)
def outL (S:List Nat):List (Nat×Oper)->List Nat
|[]=>[]
|p::r=>bc (Cp p.1 S) (outL S r) (p.1::outL S r)
def asW:List Oper->List Nat
|[]=>[]
|o::_=>MM o.after.toList
def amH (ops:List Oper)(n:Nat):List Nat:=
 goDn (DW (ops.take n) 0).reverse (outL (goDn (DW (ops.take n) 0).reverse (asW (ops.drop n))) (DW (ops.take n) 0))
def selL (S:List Nat):List (Nat×Oper)->List (Nat×Oper)
|[]=>[]
|p::r=>bc (Cp p.1 S) (p::selL S r) (selL S r)
def G0 (S:List Nat):List (Nat×Oper)->List (Nat×Oper)
|[]=>[]
|p::r=>bc (Cp p.1 S) (G0 S r) (p::G0 S r)
def pL (ops:List Oper)(n:Nat):List (Nat×Oper):=selL (amH ops n) (DW (ops.take n) 0)
def hL (ops:List Oper)(n:Nat):List (Nat×Oper):=G0 (amH ops n) (DW (ops.take n) 0)
def Jo (P:Program)(n:Nat)(ops:Array Oper)(Q:Ex)(σ:Sg)(ds:List Deferred)(w:ao):Prop:=
 bc (P.follows .mixedOrders&&tT ops.toList)
  (DrawX w (λw=>KG P n ops (λσ ds w=>Q .normal σ ds w) (λc σ ds w=>Q (.panic c) σ ds w) ops.size (Array.replicate ops.size au) σ ds w))
  False
structure HDo (P:Program) (S:ao->Prop) (m:Sem Next) (K:aq->Prop):Prop where
 mk ::
 out:∃v,(∀w,S w->m.run P w=.ok (.value v) w)∧K v
structure AI (w:ao) (F:(ao->Prop)->ao->Prop):Prop where
 mk ::
 out:∃S:ao->Prop,S { w with drawn:=w.drawn+1 }∧F S { w with drawn:=w.drawn+1 }
def opH (P:Program)(S:ao->Prop)(o:Oper)(σ:Sg)(K:aq->Prop):Prop:=
 match o.op with
|.move x|.assign x=>K (rd σ x)
|_=>HDo P S (Ec (rd σ) o) K
def Ss (P:Program)(n:Nat)(ops:Array Oper)(S:ao->Prop)(o:Oper)(σ:Sg)(next:Sg->Prop):Prop:=
 bc (inB n o.dst)
  (match o.guard with
 |none=>opH P S o σ (λv=>next (put σ o.dst v))
 |some (j,want)=>
   match Lc ops j with
  |some d=>bc (Nat.blt d n) (GQ (σ d) want (λK'=>opH P S o σ K') (λv=>next (put σ o.dst v))) False
  |none=>False)
  False
def YO (o:Oper):Bool:=
 match o.op with
|.call { callee:=.builtin _,.. }=>au
|.call _=>av
|_=>au
def meets:List Nat->List Nat->Bool
|[],_=>au
|i::l,S=>bc (Cp i S) av (meets l S)
def tV:List Operand->List Nat
|[]=>[]
|.tmp t::l=>t::tV l
|_::l=>tV l
def optL:Option Operand->List Operand
|none=>[]
|some x=>[x]
def sndL:List (Nat×Operand)->List Operand
|[]=>[]
|p::l=>p.2::sndL l
def agH:Op->List Nat
|.move x=>tV [x]
|.assign x=>tV [x]
|.load _ x=>tV [x]
|.nilCheck x=>tV [x]
|.unOp _ _ x=>tV [x]
|.convert _ _ x=>tV [x]
|.makeInterface _ x=>tV [x]
|.fieldAddr _ x _=>tV [x]
|.field _ x _=>tV [x]
|.entry x=>tV [x]
|.typeAssert x _ _ _=>tV [x]
|.extract x _=>tV [x]
|.pick c a b=>tV [c,a,b]
|.build _ ps=>tV (sndL ps.toList)
|.binOp _ _ a b _=>tV [a,b]
|.indexAddr _ a b=>tV [a,b]
|.index _ a b=>tV [a,b]
|.lookup _ a b _=>tV [a,b]
|.slice _ x l h m=>tV (x::optL l++optL h++optL m)
|.call c=>tV c.args.toList
|_=>[]
def Fb (P:Program)(o:Oper):Bool:=
 match o.op with
|.move _=>av
|.assign _=>av
|.nilCheck _=>av
|.unOp _ _ _=>av
|.makeInterface _ _=>av
|.fieldAddr _ _ _=>av
|.field _ _ _=>av
|.extract _ _=>av
|.pick _ _ _=>av
|.build _ _=>av
|.binOp _ _ _ _ _=>av
|.indexAddr _ _ _=>av
|.index _ _ _=>av
|.slice _ _ _ _ _=>av
|.convert s _ _=>match P.underlying s with|some (.slice _)=>au|_=>av
|.call { callee:=.builtin .len,.. }=>av
|.call { callee:=.builtin .cap,.. }=>av
|.call { callee:=.builtin .min,.. }=>av
|.call { callee:=.builtin .max,.. }=>av
|_=>au
def ptrT (P:Program)(t:Nat):Bool:=match P.underlying t with|some (.pointer _)=>av|_=>au
def agQ (P:Program)(o:Oper):Bool:=
 bc (aeL P o) av
  (match o.op with
 |.call c=>bc (YO o) (c.argTypes.toList.any (ptrT P)) au
 |_=>au)
def dstL:Option Nat->List Nat
|none=>[]
|some d=>[d]
def auM (o:Oper):Bool:=
 match o.op with
|.alloc _=>av
|.box ..=>av
|.buildSlice ..=>av
|_=>au
def eL2 (P:Program)(m:Bool):List Oper->Nat->List Nat->List Nat->List Nat->List Nat
|[],_,_,_,S=>S
|o::l,k,T,W,S=>
  bc (amJ P o||YO o)
   (eL2 P m l (k+1) (dstL o.dst++T) (bc (bc (m&&auM o) au (agQ P o)||meets (MM o.after.toList) W) (k::W) W) (k::S))
   (eL2 P m l (k+1) (bc (meets (agH o.op) T) (dstL o.dst++T) T) (bc (meets (MM o.after.toList) W) (k::W) W)
    (bc (!(Fb P o)&&(meets (agH o.op) T||meets (MM o.after.toList) W)) (k::S) S))
def eL (P:Program)(l:List Oper)(k:Nat)(S:List Nat):List Nat:=eL2 P (Nat.blt 70 l.length) l k [] [] S
def NR (ops:Array Oper)(E:List Nat)(listed:Array Bool):List Nat->Option Nat
|[]=>aw
|i::l=>bc (!(Cp i E)&&Region.free .any ops listed i) (ax i) (NR ops E listed l)
def isSt (o:Oper):Bool:=
 match o.op with
|.store ..=>av
|_=>au
def YH:List Oper->Bool
|[]=>au
|o::l=>bc (isSt o) av (YH l)
def isLk (o:Oper):Bool:=
 match o.op with
|.lookup ..=>av
|_=>au
def anJ:List Oper->Bool
|[]=>au
|o::l=>bc (isLk o) av (anJ l)
def isMu (o:Oper):Bool:=
 match o.op with
|.mapUpdate ..=>av
|_=>au
def anI:List Oper->Bool
|[]=>au
|o::l=>bc (isMu o) av (anI l)
def R7 (l:List Oper):Bool:=bc (YH l) av (bc (anJ l) (anI l) au)
def acV (P:Program)(E A:List Nat):List (Nat×Oper)->Bool
|[]=>au
|p::r=>bc (Cp p.1 E||(Fb P p.2||Cp p.1 A)) (acV P E A r) av
def O8 (P:Program)(ops:Array Oper)(E:List Nat)(o:Oper):Bool:=bc (R7 ops.toList) (acV P E (MM o.after.toList) (DW ops.toList 0)) av
def acD (P:Program)(ops:Array Oper)(S:ao->Prop)(o:Oper):ao->Prop:=bc (R7 ops.toList&&Fb P o) (λ_=>True) S
def BS (P:Program)(n:Nat)(ops:Array Oper)(E:List Nat)(S:ao->Prop)(K:Nx)(PK:List PanicEntry->Nx):Nat->Array Bool->Sg->List Deferred->ao->Prop
|0,listed,σ,ds,w=>bc (isNil (Region.ready .any ops listed)) (K σ ds w) False
|f+1,listed,σ,ds,w=>
  bc (isNil (Region.ready .any ops listed)) (K σ ds w)
   (match NR ops E listed (Region.ready .any ops listed) with
  |some i=>(match ops[i]? with
   |none=>False
   |some o=>Ss P n ops (acD P ops S o) o σ (λσ'=>BS P n ops E S K PK f (listed.setIfInBounds i av) σ' ds w))
  |none=>andL ((Region.ready .any ops listed).map λi=>match ops[i]? with
   |none=>False
   |some o=>QP P n ops o σ w (λσ' w'=>bc (O8 P ops E o) (S w'∧BS P n ops E S K PK f (listed.setIfInBounds i av) σ' ds w') (BS P n ops E S K PK f (listed.setIfInBounds i av) σ' ds w')) (λc w=>PK c σ ds w)))
def Y9 (P:Program)(n:Nat)(ops:Array Oper):Bool:=
 Nat.blt 5 ops.size&&(P.follows .mixedOrders&&(Region.noSelect ops&&(Hv n (G0 (eL P ops.toList 0 []) (DW ops.toList 0))&&(ZJ P ops.toList&&tT ops.toList))))
def E5 (P:Program)(n:Nat)(ops:Array Oper)(Q:Ex)(σ:Sg)(ds:List Deferred)(w:ao):Prop:=
 bc (Y9 P n ops)
  (AI w (λS w=>BS P n ops (eL P ops.toList 0 []) S (λσ ds w=>Q .normal σ ds w) (λc=>pmX (G0 (eL P ops.toList 0 []) (DW ops.toList 0)) (λσ ds w=>Q (.panic c) σ ds w)) ops.size (Array.replicate ops.size au) σ ds w))
  (Jo P n ops Q σ ds w)
def cntO (p:Oper->Bool):List Oper->Nat
|[]=>0
|o::l=>bc (p o) (cntO p l+1) (cntO p l)
def isIA (o:Oper):Bool:=
 match o.op with
|.indexAddr ..=>av
|_=>au
def agR (o:Oper):Bool:=
 match o.op with
|.call { callee:=.value (.func _),args,.. }=>Nat.beq args.size 3
|_=>au
def aaL (l:List Oper):Bool:=Nat.beq (cntO agR l) 1&&(Nat.beq (cntO YO l) 1&&(Nat.beq (cntO isIA l) 2&&!(YH l)))
def OW (P:Program)(n:Nat)(ops:Array Oper):Bool:=Y9 P n ops&&aaL ops.toList
def aaM (P:Program):List (Nat×Oper)->Bool
|[]=>av
|p::r=>bc (Fb P p.2) (aaM P r) au
def Nf (P:Program)(n:Nat)(ops:Array Oper)(Q:Ex)(σ:Sg)(ds:List Deferred)(w:ao):Prop:=
 bc ((Nat.blt 9 ops.size&&aaM P (pL ops.toList (bA P ops.toList)))&&(P.follows .mixedOrders&&(TI ops (bA P ops.toList) (pL ops.toList (bA P ops.toList)) (hL ops.toList (bA P ops.toList))&&(Hv n (pL ops.toList (bA P ops.toList))&&(Kp P (ops.toList.drop (bA P ops.toList))&&tT ops.toList)))))
  (zp w (λC=>Mt P n (pL ops.toList (bA P ops.toList)) (λσ=>nI P n ops C (λσ=>∀w',C w'->Bw P aw n ops (λσ ds w=>Q .normal σ ds w) (λc=>pmX (pL ops.toList (bA P ops.toList)) (λσ ds w=>Q (.panic c) σ ds w)) (ops.toList.drop (bA P ops.toList)) σ ds w')
   (snds (hL ops.toList (bA P ops.toList))) σ) σ))
  (E5 P n ops Q σ ds w)
def wpX (P:Program)(n:Nat)(aj d:List (Nat×List Nat)):Option Nat->Code->Ex->Sg->List Deferred->ao->Prop
|ro,.skip,Q,σ,ds,w=>Q .normal σ ds w
|ro,.region _ ops draw,Q,σ,ds,w=>
  bc draw
   (bc (OW P n ops) (E5 P n ops Q σ ds w)
   (bc (Nat.beq (bA P ops.toList) ops.toList.length)
    (bc (P.follows .mixedOrders&&(Region.lexB .any ops&&tT ops.toList))
     (zp w (λC=>nI P n ops C (λσ=>∀w',C w'->Q .normal σ ds w') ops.toList σ))
     (Nf P n ops Q σ ds w))
    (bc (P.follows .mixedOrders&&(Region.lexTailB .any ops (bA P ops.toList)&&(Kp P (ops.toList.drop (bA P ops.toList))&&tT ops.toList)))
     (zp w (λC=>nI P n ops C (λσ=>∀w',C w'->Bw P aw n ops (λσ ds w=>Q .normal σ ds w) (λc σ ds w=>Q (.panic c) σ ds w) (ops.toList.drop (bA P ops.toList)) σ ds w') (ops.toList.take (bA P ops.toList)) σ))
     (bc (P.follows .mixedOrders&&(P6 ops (bA P ops.toList) (mvL (ops.toList.take (bA P ops.toList)) 0 []) (hdL (ops.toList.take (bA P ops.toList)) 0 [])&&(Hv n (mvL (ops.toList.take (bA P ops.toList)) 0 [])&&(Kp P (ops.toList.drop (bA P ops.toList))&&tT ops.toList))))
      (zp w (λC=>nI P n ops C (λσ=>∀w',C w'->Bw P aw n ops (λσ ds w=>Q .normal σ ds w) (λc=>pmX (mvL (ops.toList.take (bA P ops.toList)) 0 []) (λσ ds w=>Q (.panic c) σ ds w)) (ops.toList.drop (bA P ops.toList)) σ ds w')
       (snds (hdL (ops.toList.take (bA P ops.toList)) 0 [])) (Vc (mvL (ops.toList.take (bA P ops.toList)) 0 []) σ)))
      (Nf P n ops Q σ ds w)))))
   (Bw P ro n ops (λσ ds w=>Q .normal σ ds w) (λc σ ds w=>Q (.panic c) σ ds w) ops.toList σ ds w)
|ro,.seq a b,Q,σ,ds,w=>
  bc (Nat.ble (ways a) 1) (wpX P n aj d ro a (O2 Q (λσ ds w=>wpX P n aj d ro b Q σ ds w)) σ ds w)
   (bc (mkB ro a)
    (JoinD (λJ=>wpX P n aj d ro a (O2 Q (λσ' ds' w'=>J ds' (pick (look (keyOf b) aj) σ') w')) σ ds w)
     (λds' vs w'=>∀j,wpX P n aj d ro b Q (mix σ (asg a) (look (keyOf b) aj) vs j) ds' w'))
    (zP (λJ=>wpX P n aj d ro a (O2 Q (λσ' ds' w'=>AtX ds' ds (J (pick (look (keyOf b) aj) σ') w'))) σ ds w)
     (λvs w'=>∀j,wpX P n aj d ro b Q (mix σ (asg a) (look (keyOf b) aj) vs j) ds w')))
|ro,.cond c a b,Q,σ,ds,w=>IfX (rd σ c) (wpX P n aj d ro a Q σ ds w) (wpX P n aj d ro b Q σ ds w)
|ro,.block id a,Q,σ,ds,w=>wpX P n aj d ro a (aeO id Q) σ ds w
|ro,.loop a,Q,σ,ds,w=>
  bc (mkB ro a)
   (LoopD ds (pick (look (keyOf a) d) σ) w (λds vs w next=>∀j,wpX P n aj d ro a (O2 Q (λσ' ds' w'=>next ds' (pick (look (keyOf a) d) σ') w')) (mix σ (asg a) (look (keyOf a) d) vs j) ds w))
   (zr (pick (look (keyOf a) d) σ) w (λvs w next=>∀j,wpX P n aj d ro a (O2 Q (λσ' ds' w'=>AtX ds' ds (next (pick (look (keyOf a) d) σ') w'))) (mix σ (asg a) (look (keyOf a) d) vs j) ds w))
|ro,.exit id,Q,σ,ds,w=>Q (.exit id) σ ds w
|ro,.ret,Q,σ,ds,w=>Q .ret σ ds w
|ro,.rangeFunc g ps f b,Q,σ,ds,w=>
  bc (SO n ps.toList)
   (RangeX P ro ps.toList.length (rd σ g) w
    (λl args W R RP=>wpX P n aj d (ax l) f (begQ (λσ1 h=>BegX P l h (λi=>wpX P n aj d (ax l) b (rndQ P l R RP) σ1 [] i))) (putL ps.toList args 0 σ) [] W)
    (jsX b (λe r W=>Q e σ (QT ro r ds) W)) (λc r W=>Q (.panic c) σ (QT ro r ds) W))
   False
|_,_,_,_,_,_=>False
end Eng
end
section
namespace Eng
open Go.RowKit
theorem beq_iff {a:Nat}:Nat.beq a b=av↔a=b:=by rw[Nat.beq_eq]
theorem mem_iff {i:Nat}:∀{l:List Nat},mem i l=av↔i∈l
|[]=>by simp[mem]
|j::l=>by simp[mem,mem_iff (l:=l),beq_iff]
def Off (A:List Nat)(σ σ':Sg):Prop:=∀i,mem i A=au->σ' i=σ i
theorem Off.refl (A:List Nat)(σ:Sg):Off A σ σ:=λ_ _=>rfl
theorem Off.trans {A:List Nat}{a b c:Sg}(h:Off A a b)(k:Off A b c):Off A a c:=λi hi=>(k i hi).trans (h i hi)
theorem Off.mono {A B:List Nat}{a b:Sg}(h:Off A a b)(c:∀i,i∈A->i∈B):Off B a b:=λi hi=>h i (by
 cases hm:mem i A with
|false=>rfl
|true=>
  have:=mem_iff.2 (c i (mem_iff.1 hm));rw[this] at hi;cases hi)
theorem Off.put {A:List Nat}(σ:Sg)(d:Option Nat)(v:aq)(h:∀i,d=ax i->i∈A):Off A σ (put σ d v):=by
 intro i hi;cases d with
|none=>rfl
|some d=>
  simp only[Eng.put,upd];cases a:Nat.beq i d with
 |false=>rfl
 |true=>
   have e:=beq_iff.1 a;subst e;rw[mem_iff.2 (h i rfl)] at hi;cases hi
theorem wQ.mono {K K':VWP}{PK a:PKT}(h:∀v w,K v w->K' v w)(hp:∀c w,PK c w->a c w):∀e w,wQ K PK e w->wQ K' a e w
|.returned v,w=>h v w
|.panicked c,w=>hp c w
|.outgrown,_=>id
theorem KE.mono {P:Program}{r:Result Next}{K K':VWP}{PK a:PKT}(h:∀v w,K v w->K' v w)(hp:∀c w,PK c w->a c w)(hu:KE P r K PK):KE P r K' a:=by
 unfold KE at *;split at hu
 ·exact h _ _ hu
 ·exact h _ _ hu
 ·exact⟨Calls.mono hu.out (wQ.mono h hp)⟩
 ·exact⟨RoundIn.mono hu.out (wQ.mono h hp)⟩
 ·exact hp _ _ hu
 ·exact hu.elim
theorem opV.mono {P:Program}{o:Oper}{σ:Sg}{w:ao}{K K':VWP}{PK a:PKT}(h:∀v w,K v w->K' v w)(hp:∀c w,PK c w->a c w)(hu:opV P o σ w K PK):opV P o σ w K' a:=by
 unfold opV at *;split at hu
 ·exact h _ _ hu
 ·exact h _ _ hu
 ·cases b:cD P _ with
 |true=>rw[b,aF] at hu;rw[aF];exact⟨Calls.mono hu.out (wQ.mono h hp)⟩
 |false=>rw[b,aE] at hu;rw[aE];exact⟨KE.mono h hp hu.out⟩
 ·exact hu.elim
 ·exact⟨KE.mono h hp hu.out⟩
theorem Bw.dL {n:Nat}{K K':Nx}{PK f:List PanicEntry->Nx}{A:List Nat}{σ₀:Sg}
  (h:∀σ ds w,Off A σ₀ σ->K σ ds w->K' σ ds w) (hp:∀c σ ds w,Off A σ₀ σ->PK c σ ds w->f c σ ds w) :
  ∀(l:List Oper) (σ:Sg) (ds:List Deferred) (w:ao),(∀i,i∈F0 l->i∈A)->Off A σ₀ σ->Bw P ro n ops K PK l σ ds w->Bw P ro n ops K' f l σ ds w:=by
 intro l
 induction l with
|nil=>intro σ ds w _ g hu;exact h _ _ _ g hu
|cons o rest k=>
  intro σ ds w r g hu;have b:∀i,i∈F0 rest->i∈A:=λi hi=>r i (by unfold F0;split<;>simp[hi]);have a:∀v,Off A σ₀ (put σ o.dst v):=λv=>g.trans (Off.put σ o.dst v (λi hi=>r i (by simp[F0,hi])));unfold Bw at hu ⊢;cases s:inB n o.dst with
 |false=>rw[s,aE] at hu;exact hu.elim
 |true=>
   rw[s,aF] at hu;rw[aF];cases t:o.guard with
  |none=>
    simp only[t] at hu ⊢;split at hu
    ·rename_i c y
     cases ro with
    |some _=>exact hu.elim
    |none=>
     simp only at hu ⊢;split at hu
     ·exact k _ _ _ b (a _) hu
     ·obtain⟨d,q,hu⟩:=hu.out;exact⟨d,q,k _ _ _ b (a _) hu⟩
    ·rename_i u
     exact opV.mono (λv w e=>k _ _ _ b (a v) e) (λc w e=>hp c σ ds w g e) hu
  |some x=>
    obtain⟨j,want⟩:=x;simp only[t] at hu ⊢;split at hu
    ·rename_i d z
     cases m:Nat.blt d n with
    |false=>rw[m,aE] at hu;exact hu.elim
    |true=>
      rw[m,aF] at hu;rw[aF];refine⟨?_⟩
      replace hu:=hu.out
      cases p:jQ (σ d) want with
     |true=>rw[p,aF] at hu;rw[aF];exact opV.mono (λv w e=>k _ _ _ b (a v) e) (λc w e=>hp c σ ds w g e) hu
     |false=>rw[p,aE] at hu;rw[aE];exact k _ _ _ b (a _) hu
    ·exact hu.elim
theorem P5.mono {P:Program}{n:Nat}{ops:Array Oper}{o:Oper}{σ:Sg}{w:ao}{K K':Sg->ao->Prop}{PK a:PKT}(h:∀v w,K (put σ o.dst v) w->K' (put σ o.dst v) w)(hp:∀c w,PK c w->a c w)(hu:P5 P n ops o σ w K PK):P5 P n ops o σ w K' a:=by
 unfold P5 at hu ⊢;cases f:inB n o.dst with
|false=>rw[f,aE] at hu;exact hu.elim
|true=>
  rw[f,aF] at hu;rw[aF];cases g:o.guard with
 |none=>simp only[g] at hu ⊢;exact opV.mono h hp hu
 |some i=>
   obtain⟨j,want⟩:=i;simp only[g] at hu ⊢;split at hu
   ·rename_i d k
    cases b:Nat.blt d n with
   |false=>rw[b,aE] at hu;exact hu.elim
   |true=>
     rw[b,aF] at hu;rw[aF];refine⟨?_⟩
     replace hu:=hu.out
     cases e:jQ (σ d) want with
    |true=>rw[e,aF] at hu;rw[aF];exact opV.mono h hp hu
    |false=>rw[e,aE] at hu;rw[aE];exact h _ _ hu
   ·exact hu.elim
theorem opW.mono {P:Program}{o:Oper}{σ:Sg}{w:ao}{K K':VWP}{PK a:PKT}(h:∀v w,K v w->K' v w)(hp:∀c w,PK c w->a c w)(hu:opW P o σ w K PK):opW P o σ w K' a:=by
 unfold opW at *;split at hu
 ·exact opV.mono h hp hu
 ·obtain⟨f,fa,ca,b,d,e⟩:=hu.out;exact⟨f,fa,ca,b,d,⟨Calls.mono e.out (wQ.mono h hp)⟩⟩
 ·exact opV.mono h hp hu
theorem QP.mono {P:Program}{n:Nat}{ops:Array Oper}{o:Oper}{σ:Sg}{w:ao}{K K':Sg->ao->Prop}{PK a:PKT}(h:∀v w,K (put σ o.dst v) w->K' (put σ o.dst v) w)(hp:∀c w,PK c w->a c w)(hu:QP P n ops o σ w K PK):QP P n ops o σ w K' a:=by
 unfold QP at hu ⊢;cases f:inB n o.dst with
|false=>rw[f,aE] at hu;exact hu.elim
|true=>
  rw[f,aF] at hu;rw[aF];cases g:o.guard with
 |none=>simp only[g] at hu ⊢;exact opW.mono h hp hu
 |some i=>
   obtain⟨j,want⟩:=i;simp only[g] at hu ⊢;split at hu
   ·rename_i d k
    cases b:Nat.blt d n with
   |false=>rw[b,aE] at hu;exact hu.elim
   |true=>
     rw[b,aF] at hu;rw[aF];refine⟨?_⟩
     replace hu:=hu.out
     cases e:jQ (σ d) want with
    |true=>rw[e,aF] at hu;rw[aF];exact opW.mono h hp hu
    |false=>rw[e,aE] at hu;rw[aE];exact h _ _ hu
   ·exact hu.elim
theorem KG.dL {P:Program}{n:Nat}{ops:Array Oper}{K K':Nx}{PK b:List PanicEntry->Nx}{A:List Nat}{σ₀:Sg}(m:∀o,o∈ops.toList->∀i,o.dst=ax i->i∈A)
  (h:∀σ ds w,Off A σ₀ σ->K σ ds w->K' σ ds w) (hp:∀c σ ds w,Off A σ₀ σ->PK c σ ds w->b c σ ds w) :
  ∀(fuel:Nat) (listed:Array Bool) (σ:Sg) (ds:List Deferred) (w:ao),Off A σ₀ σ->KG P n ops K PK fuel listed σ ds w->KG P n ops K' b fuel listed σ ds w
|0,listed,σ,ds,w,d,hu=>by
  unfold KG at hu ⊢;cases e:isNil (Region.ready .any ops listed) with
 |false=>rw[e,aE] at hu;exact hu.elim
 |true=>rw[e,aF] at hu;rw[aF];exact h _ _ _ d hu
|f+1,listed,σ,ds,w,d,hu=>by
  unfold KG at hu ⊢;cases e:isNil (Region.ready .any ops listed) with
 |true=>rw[e,aF] at hu;rw[aF];exact h _ _ _ d hu
 |false=>
   rw[e,aE] at hu;rw[aE];refine Sj λp j=>?_;obtain⟨i,hi,rfl⟩:=awD.1 j;have k:=Gd hu _ (awD.2 ⟨i,hi,rfl⟩);cases a:ops[i]? with
  |none=>simp only[a] at k
  |some o=>
    simp only[a] at k ⊢;have g:o∈ops.toList:=by
     have:=aAd a;simpa using this
    exact P5.mono (λv w l=>KG.dL m h hp f _ _ ds w (d.trans (Off.put σ o.dst v (λi hi=>m o g i hi))) l) (λc w l=>hp c σ ds w d l) k
theorem opQ.mono {o:Oper}{σ:Sg}{K K':aq->Prop}(h:∀v,K v->K' v)(hu:opQ P C o σ K):opQ P C o σ K':=by
 unfold opQ at *;split at hu
 ·exact h _ hu
 ·exact h _ hu
 ·cases c:cD P _ with
 |true=>rw[c,aF] at hu;rw[aF];exact let ⟨v,a,b⟩:=hu.out;⟨v,a,h _ b⟩
 |false=>rw[c,aE] at hu;rw[aE];exact let ⟨v,a,b⟩:=hu.out;⟨v,a,h _ b⟩
 ·exact let ⟨v,a,b⟩:=hu.out;⟨v,a,h _ b⟩
theorem nI.dL {n:Nat}{K K':Sg->Prop}{A:List Nat}{σ₀:Sg}
  (h:∀σ,Off A σ₀ σ->K σ->K' σ) :
  ∀(l:List Oper) (σ:Sg),(∀i,i∈F0 l->i∈A)->Off A σ₀ σ->nI P n ops C K l σ->nI P n ops C K' l σ:=by
 intro l
 induction l with
|nil=>intro σ _ f hu;exact h _ f hu
|cons o rest g=>
  intro σ m f hu;have b:∀i,i∈F0 rest->i∈A:=λi hi=>m i (by unfold F0;split<;>simp[hi]);have a:∀v,Off A σ₀ (put σ o.dst v):=λv=>f.trans (Off.put σ o.dst v (λi hi=>m i (by simp[F0,hi])));unfold nI at hu ⊢;cases p:inB n o.dst with
 |false=>rw[p,aE] at hu;exact hu.elim
 |true=>
   rw[p,aF] at hu;rw[aF];cases q:o.guard with
  |none=>
    simp only[q] at hu ⊢;exact opQ.mono (λv k=>g _ b (a v) k) hu
  |some r=>
    obtain⟨j,want⟩:=r;simp only[q] at hu ⊢;split at hu
    ·rename_i d s
     cases c:Nat.blt d n with
    |false=>rw[c,aE] at hu;exact hu.elim
    |true=>
      rw[c,aF] at hu;rw[aF];refine⟨?_⟩
      replace hu:=hu.out
      cases e:jQ (σ d) want with
     |true=>rw[e,aF] at hu;rw[aF];exact opQ.mono (λv k=>g _ b (a v) k) hu
     |false=>rw[e,aE] at hu;rw[aE];exact g _ b (a _) hu
    ·exact hu.elim
theorem opP.mono {o:Oper}{σ:Sg}{K K':aq->Prop}(h:∀v,K v->K' v)(hu:opP P o σ K):opP P o σ K':=by
 unfold opP at hu ⊢;split at hu
 ·exact h _ hu
 ·exact h _ hu
 ·obtain⟨v,a,b⟩:=hu.out;exact⟨v,a,h _ b⟩
theorem Mt.dL {P:Program}{n:Nat}{K K':Sg->Prop}{A:List Nat}{σ₀:Sg}(h:∀σ,Off A σ₀ σ->K σ->K' σ):∀(l:List (Nat×Oper)) (σ:Sg),(∀p,p∈l->∀i,p.2.dst=ax i->i∈A)->Off A σ₀ σ->Mt P n l K σ->Mt P n l K' σ
|[],σ,_,a,hu=>h σ a hu
|p::r,σ,b,a,hu=>by
  unfold Mt at hu ⊢;cases c:inB n p.2.dst with
 |false=>rw[c,aE] at hu;exact hu.elim
 |true=>
   rw[c,aF] at hu;rw[aF];cases d:p.2.guard.isNone with
  |false=>rw[d,aE] at hu;exact hu.elim
  |true=>
    rw[d,aF] at hu;rw[aF];exact hu.mono λv e=>Mt.dL h r _ (λq f=>b q (awR _ f)) (a.trans (Off.put σ p.2.dst v (b p (axR ..)))) e
theorem Jo.dL {P:Program}{n:Nat}{ops:Array Oper}{Q Q':Ex}{A:List Nat}{σ₀ σ:Sg}{ds:List Deferred}{w:ao}(f:∀o,o∈ops.toList->∀i,o.dst=ax i->i∈A)
  (h:∀e σ ds w,Off A σ₀ σ->Q e σ ds w->Q' e σ ds w) (a:Off A σ₀ σ) (hu:Jo P n ops Q σ ds w):Jo P n ops Q' σ ds w:=by
 unfold Jo at hu ⊢;cases d:(P.follows .mixedOrders&&tT ops.toList) with
|false=>rw[d,aE] at hu;exact hu.elim
|true=>
  rw[d,aF] at hu;rw[aF];refine⟨?_⟩
  replace hu:=hu.out
  exact KG.dL f (λσ ds w a b=>h _ _ _ _ a b) (λc σ ds w a b=>h _ _ _ _ a b) _ _ _ _ _ a hu
theorem gM {i:Nat}:∀{l:List Oper},i∈F0 l↔∃o,o∈l∧o.dst=ax i
|[]=>by simp[F0]
|o::l=>by
  unfold F0;split
  ·rename_i d c
   simp only[avB,gM (l:=l)];constructor
   ·rintro (rfl|⟨o',b,a⟩)
    ·exact⟨o,.inl rfl,c⟩
    ·exact⟨o',.inr b,a⟩
   ·rintro⟨o',rfl|b,a⟩
    ·rw[c] at a;cases a;exact .inl rfl
    ·exact .inr ⟨o',b,a⟩
  ·rename_i c
   simp only[avB,gM (l:=l)];constructor
   ·rintro⟨o',b,a⟩;exact⟨o',.inr b,a⟩
   ·rintro⟨o',rfl|b,a⟩
    ·rw[c] at a;cases a
    ·exact⟨o',b,a⟩
theorem Yg (l:List Oper):∀(k:Nat) (ms:List Nat) (p:Nat×Oper),p∈mvL l k ms->k<=p.1∧l[p.1 - k]?=ax p.2:=by
 induction l with
|nil=>intro k ms p h;cases h
|cons o l b=>
  intro k ms p h;unfold mvL at h;cases c:(isMv o&&OD ms o) with
 |true=>
   rw[c,aF] at h;rcases avB.1 h with rfl|h
   ·exact⟨auY _,sm⟩
   ·obtain⟨d,a⟩:=b (k+1) _ p h;refine⟨om,?_⟩;rw[show p.1 - k=(p.1 - (k+1))+1 by omega];exact a
 |false=>
   rw[c,aE] at h;obtain⟨d,a⟩:=b (k+1) _ p h;refine⟨om,?_⟩;rw[show p.1 - k=(p.1 - (k+1))+1 by omega];exact a
theorem XZ (l:List Oper):∀(k:Nat) (ms:List Nat) (p:Nat×Oper),p∈hdL l k ms->k<=p.1∧l[p.1 - k]?=ax p.2:=by
 induction l with
|nil=>intro k ms p h;cases h
|cons o l b=>
  intro k ms p h;unfold hdL at h;cases c:(isMv o&&OD ms o) with
 |false=>
   rw[c,aE] at h;rcases avB.1 h with rfl|h
   ·exact⟨auY _,sm⟩
   ·obtain⟨d,a⟩:=b (k+1) _ p h;refine⟨om,?_⟩;rw[show p.1 - k=(p.1 - (k+1))+1 by omega];exact a
 |true=>
   rw[c,aF] at h;obtain⟨d,a⟩:=b (k+1) _ p h;refine⟨om,?_⟩;rw[show p.1 - k=(p.1 - (k+1))+1 by omega];exact a
theorem PC {o:Oper}:∀{l:List (Nat×Oper)},o∈snds l->∃p,p∈l∧p.2=o
|[],h=>by cases h
|p::l,h=>by
  rcases avB.1 h with rfl|h
  ·exact⟨p,sm,rfl⟩
  ·obtain⟨q,a,b⟩:=PC h;exact⟨q,by simp[a],b⟩
theorem ZA {A:List Nat}{σ₀:Sg}(ms:List (Nat×Oper)):∀(σ:Sg),(∀p,p∈ms->∀i,p.2.dst=ax i->i∈A)->Off A σ₀ σ->Off A σ₀ (Vc ms σ):=by
 induction ms with
|nil=>intro σ _ h;exact h
|cons p r b=>
  intro σ a h;exact b _ (λq c=>a q (by simp[c])) (h.trans (Off.put σ p.2.dst _ (λi hi=>a p sm i hi)))
theorem HW {A:List Nat}{σ₀:Sg}{K K':Nx}(h:∀σ ds w,Off A σ₀ σ->K σ ds w->K' σ ds w)(ms:List (Nat×Oper)):∀(σ:Sg) (ds:List Deferred) (w:ao),(∀p,p∈ms->∀i,p.2.dst=ax i->i∈A)->Off A σ₀ σ->pmX ms K σ ds w->pmX ms K' σ ds w:=by
 induction ms with
|nil=>intro σ ds w _ a b;exact h _ _ _ a b
|cons p r d=>
  intro σ ds w c a b u;exact d _ _ _ (λq e=>c q (by simp[e])) (a.trans (Off.put σ p.2.dst _ (λi hi=>c p sm i hi))) (b u)
theorem OL (l:List Oper):∀(k:Nat) (p:Nat×Oper),p∈DW l k->k<=p.1∧l[p.1 - k]?=ax p.2:=by
 induction l with
|nil=>intro k p h;cases h
|cons o l a=>
  intro k p h;rcases avB.1 h with rfl|h
  ·exact⟨auY _,sm⟩
  ·obtain⟨c,b⟩:=a (k+1) p h;refine⟨om,?_⟩;rw[show p.1 - k=(p.1 - (k+1))+1 by omega];exact b
theorem PU {S:List Nat}{p:Nat×Oper}:∀{l:List (Nat×Oper)},p∈selL S l->p∈l
|[],h=>by cases h
|q::l,h=>by
  unfold selL at h;cases hm:Cp q.1 S with
 |true=>
   rw[hm,aF] at h;rcases avB.1 h with rfl|h
   ·simp
   ·exact awR _ (PU h)
 |false=>rw[hm,aE] at h;exact awR _ (PU h)
theorem KK {S:List Nat}{p:Nat×Oper}:∀{l:List (Nat×Oper)},p∈G0 S l->p∈l
|[],h=>by cases h
|q::l,h=>by
  unfold G0 at h;cases hm:Cp q.1 S with
 |true=>rw[hm,aF] at h;exact awR _ (KK h)
 |false=>
   rw[hm,aE] at h;rcases avB.1 h with rfl|h
   ·simp
   ·exact awR _ (KK h)
theorem afN {l:List Oper}{n:Nat}{p:Nat×Oper}(h:p∈pL l n):(l.take n)[p.1 - 0]?=ax p.2:=(OL _ 0 p (PU h)).2
theorem afU {l:List Oper}{n:Nat}{p:Nat×Oper}(h:p∈hL l n):(l.take n)[p.1 - 0]?=ax p.2:=(OL _ 0 p (KK h)).2
theorem opH.mono {S:ao->Prop}{o:Oper}{σ:Sg}{K K':aq->Prop}(h:∀v,K v->K' v)(hu:opH P S o σ K):opH P S o σ K':=by
 unfold opH at hu ⊢;split at hu
 ·exact h _ hu
 ·exact h _ hu
 ·obtain⟨v,a,b⟩:=hu.out;exact⟨v,a,h _ b⟩
theorem Ss.mono {P:Program}{n:Nat}{ops:Array Oper}{S:ao->Prop}{o:Oper}{σ:Sg}{K K':Sg->Prop}(h:∀v,K (put σ o.dst v)->K' (put σ o.dst v))(hu:Ss P n ops S o σ K):Ss P n ops S o σ K':=by
 unfold Ss at hu ⊢;cases c:inB n o.dst with
|false=>rw[c,aE] at hu;exact hu.elim
|true=>
  rw[c,aF] at hu;rw[aF];cases e:o.guard with
 |none=>simp only[e] at hu ⊢;exact hu.mono h
 |some f=>
   obtain⟨j,want⟩:=f;simp only[e] at hu ⊢;split at hu
   ·rename_i d g
    cases a:Nat.blt d n with
   |false=>rw[a,aE] at hu;exact hu.elim
   |true=>
     rw[a,aF] at hu;rw[aF];refine⟨?_⟩
     replace hu:=hu.out
     cases b:jQ (σ d) want with
    |true=>rw[b,aF] at hu;rw[aF];exact hu.mono h
    |false=>rw[b,aE] at hu;rw[aE];exact h _ hu
   ·exact hu.elim
theorem BS.dL {P:Program}{n:Nat}{ops:Array Oper}{E:List Nat}{S:ao->Prop}{K K':Nx}{PK g:List PanicEntry->Nx}{A:List Nat}{σ₀:Sg}(e:∀o,o∈ops.toList->∀i,o.dst=ax i->i∈A)
  (h:∀σ ds w,Off A σ₀ σ->K σ ds w->K' σ ds w) (hp:∀c σ ds w,Off A σ₀ σ->PK c σ ds w->g c σ ds w) :
  ∀(fuel:Nat) (listed:Array Bool) (σ:Sg) (ds:List Deferred) (w:ao),Off A σ₀ σ->BS P n ops E S K PK fuel listed σ ds w->BS P n ops E S K' g fuel listed σ ds w
|0,listed,σ,ds,w,d,hu=>by
  unfold BS at hu ⊢;cases j:isNil (Region.ready .any ops listed) with
 |false=>rw[j,aE] at hu;exact hu.elim
 |true=>rw[j,aF] at hu;rw[aF];exact h _ _ _ d hu
|f+1,listed,σ,ds,w,d,hu=>by
  unfold BS at hu ⊢;cases j:isNil (Region.ready .any ops listed) with
 |true=>rw[j,aF] at hu;rw[aF];exact h _ _ _ d hu
 |false=>
   rw[j,aE] at hu;rw[aE];have mem:∀i o,ops[i]?=ax o->o∈ops.toList:=λi o a=>by
    have:=aAd a;simpa using this
   cases q:NR ops E listed (Region.ready .any ops listed) with
  |some i=>
    simp only[q] at hu ⊢;cases a:ops[i]? with
   |none=>simp only[a] at hu
   |some o=>
     simp only[a] at hu ⊢;exact hu.mono λv b=>BS.dL e h hp f _ _ ds w (d.trans (Off.put σ o.dst v (λi' hi=>e o (mem i o a) i' hi))) b
  |none=>
    simp only[q] at hu ⊢;refine Sj λp l=>?_;obtain⟨i,hi,rfl⟩:=awD.1 l;have m:=Gd hu _ (awD.2 ⟨i,hi,rfl⟩);cases a:ops[i]? with
   |none=>simp only[a] at m
   |some o=>
     simp only[a] at m ⊢;refine QP.mono (λv w b=>?_) (λc w b=>hp c σ ds w d b) m;cases k:O8 P ops E o with
    |true=>rw[k,aF] at b;rw[aF];exact⟨b.1,BS.dL e h hp f _ _ ds w (d.trans (Off.put σ o.dst v (λi' hi=>e o (mem i o a) i' hi))) b.2⟩
    |false=>rw[k,aE] at b;rw[aE];exact BS.dL e h hp f _ _ ds w (d.trans (Off.put σ o.dst v (λi' hi=>e o (mem i o a) i' hi))) b
theorem WY {S:List Nat}{l:List Oper}{p:Nat×Oper}(h:p∈G0 S (DW l 0)):l[p.1]?=ax p.2:=by
 have:=(OL l 0 p (KK h)).2;simpa using this
theorem E5.dL {P:Program}{n:Nat}{ops:Array Oper}{Q Q':Ex}{A:List Nat}{σ₀ σ:Sg}{ds:List Deferred}{w:ao}(d:∀o,o∈ops.toList->∀i,o.dst=ax i->i∈A)
  (h:∀e σ ds w,Off A σ₀ σ->Q e σ ds w->Q' e σ ds w) (a:Off A σ₀ σ) (hu:E5 P n ops Q σ ds w):E5 P n ops Q' σ ds w:=by
 unfold E5 at hu ⊢;cases g:Y9 P n ops with
|false=>
  rw[g,aE] at hu;rw[aE];exact Jo.dL d h a hu
|true=>
  rw[g,aF] at hu;rw[aF];obtain⟨S,j,hu⟩:=hu.out;refine⟨S,j,?_⟩;have f:∀p,p∈G0 (eL P ops.toList 0 []) (DW ops.toList 0)->∀i,p.2.dst=ax i->i∈A:=λp hp i hi=>
   d p.2 (ayQ (WY hp)) i hi
  exact BS.dL d (λσ ds w a b=>h _ _ _ _ a b) (λc σ ds w a b=>HW (λσ ds w a b=>h _ _ _ _ a b) _ _ _ _ f a b) _ _ _ _ _ a hu
theorem Nf.dL {P:Program}{n:Nat}{ops:Array Oper}{Q Q':Ex}{A:List Nat}{σ₀ σ:Sg}{ds:List Deferred}{w:ao}(f:∀o,o∈ops.toList->∀i,o.dst=ax i->i∈A)
  (h:∀e σ ds w,Off A σ₀ σ->Q e σ ds w->Q' e σ ds w) (a:Off A σ₀ σ) (hu:Nf P n ops Q σ ds w):Nf P n ops Q' σ ds w:=by
 unfold Nf at hu ⊢;have g:=@afN ops.toList (bA P ops.toList);have j:=@afU ops.toList (bA P ops.toList);generalize pL ops.toList (bA P ops.toList)=ms at *;generalize hL ops.toList (bA P ops.toList)=u at *;cases v:((Nat.blt 9 ops.size&&aaM P ms)&&(P.follows .mixedOrders&&(TI ops (bA P ops.toList) ms u&&(Hv n ms&&(Kp P (ops.toList.drop (bA P ops.toList))&&tT ops.toList))))) with
|false=>
  rw[v,aE] at hu;rw[aE];exact E5.dL f h a hu
|true=>
  rw[v,aF] at hu;rw[aF];obtain⟨C,hC,hu⟩:=hu.out;refine⟨C,hC,?_⟩;have d:∀p,p∈ms->∀i,p.2.dst=ax i->i∈A:=λp hp i hi=>
   f p.2 (axF (ayQ (g hp))) i hi
  have k:∀i,i∈F0 (snds u)->i∈A:=λi hi=>by
   obtain⟨o,a,l⟩:=gM.1 hi;obtain⟨p,hp,rfl⟩:=PC a;exact f p.2 (axF (ayQ (j hp))) i l
  have m:∀i,i∈F0 (ops.toList.drop (bA P ops.toList))->i∈A:=λi hi=>by
   obtain⟨o,a,l⟩:=gM.1 hi;exact f o (ayR a) i l
  refine Mt.dL (λσ1 q r=>?_) ms σ d a hu;refine nI.dL (λσ' s b w' t=>?_) _ _ k q r;exact Bw.dL (λσ ds w a b=>h _ _ _ _ a b) (λc σ ds w a b=>HW (λσ ds w a b=>h _ _ _ _ a b) ms _ _ _ d a b) _ _ _ _ m s (b w' t)
theorem Pg {σ:Sg}{A ls:List Nat}{vs:List aq}{j:Sg}:Off A σ (mix σ A ls vs j):=by
 intro i hi;simp[mix,hi]
theorem PA {K K':Nat->Nat->ao->Prop}(h:∀i r W,K i r W->K' i r W):∀{l:List Nat} {pd:Option Code} {k:Nat->ao->Prop},(pd,k)∈exJ K l->∃k',(pd,k')∈exJ K' l∧∀r W,k r W->k' r W
|[],_,_,hm=>by cases hm
|i::l,pd,k,hm=>by
  rcases avB.1 hm with e|hm
  ·cases e;exact⟨K' i,by simp[exJ],λr W=>h i r W⟩
  ·obtain⟨k',a,b⟩:=PA h hm;exact⟨k',avB.2 (.inr a),b⟩
theorem abW {b:Code}{K K':Exit->Nat->ao->Prop}(h:∀e r W,K e r W->K' e r W){pd:Option Code}{k:Nat->ao->Prop}(hm:(pd,k)∈jsX b K):∃k',(pd,k')∈jsX b K'∧∀r W,k r W->k' r W:=by
 unfold jsX at hm ⊢;rcases avB.1 hm with e|hm
 ·cases e;exact⟨K' .normal,sm,λr W=>h _ r W⟩
 ·cases d:jr b with
 |false=>
   rw[d,aE] at hm;obtain⟨k',a,c⟩:=PA (K':=λi=>K' (.exit i)) (λi r W=>h (.exit i) r W) hm;exact⟨k',by rw[aE];exact avB.2 (.inr a),c⟩
 |true=>
   rw[d,aF] at hm;rcases avB.1 hm with e|hm
   ·cases e;exact⟨K' .ret,by rw[aF];simp,λr W=>h _ r W⟩
   ·obtain⟨k',a,c⟩:=PA (K':=λi=>K' (.exit i)) (λi r W=>h (.exit i) r W) hm;exact⟨k',by rw[aF];exact avB.2 (.inr (avB.2 (.inr a))),c⟩
theorem apL {b:Code}{K:Exit->Nat->ao->Prop}{pd:Option Code}{k:Nat->ao->Prop}(hm:(pd,k)∈jsX b K) :
  (pd=aw∧k=K .normal)∨(pd=ax .ret∧k=K .ret)∨∃i,pd=ax (.exit i)∧k=K (.exit i):=by
 have hex:∀{l:List Nat},(pd,k)∈exJ (λi=>K (.exit i)) l->∃i,pd=ax (.exit i)∧k=K (.exit i):=by
  intro l
  induction l with
 |nil=>intro h;cases h
 |cons i l c=>
   intro h;rcases avB.1 h with e|h
   ·cases e;exact⟨i,rfl,rfl⟩
   ·exact c h
 unfold jsX at hm;rcases avB.1 hm with e|hm
 ·cases e;exact .inl ⟨rfl,rfl⟩
 ·cases a:jr b with
 |false=>rw[a,aE] at hm;exact .inr (.inr (hex hm))
 |true=>
   rw[a,aF] at hm;rcases avB.1 hm with e|hm
   ·cases e;exact .inr (.inl ⟨rfl,rfl⟩)
   ·exact .inr (.inr (hex hm))
theorem MC {Q:Ex}{σ:Sg}:aeO id Q (.exit j) σ ds w=bc (Nat.beq j id) (Q .normal σ ds w) (Q (.exit j) σ ds w):=rfl
theorem wpX.dL {P:Program}{n:Nat}{aj al:List (Nat×List Nat)}{ro:Option Nat}:∀(c:Code) (Q Q':Ex) (A:List Nat) (σ₀:Sg),
  (∀i,i∈asg c->i∈A)->(∀e σ ds w,Off A σ₀ σ->Q e σ ds w->Q' e σ ds w) ->
  ∀(σ:Sg) (ds:List Deferred) (w:ao),Off A σ₀ σ->wpX P n aj al ro c Q σ ds w->wpX P n aj al ro c Q' σ ds w:=by
 intro c
 induction c with
|skip=>intro Q Q' A σ₀ s h σ ds w d hu;exact h _ _ _ _ d hu
|region id ops draw=>
  intro Q Q' A σ₀ s h σ ds w d hu;unfold wpX at hu ⊢;cases draw with
 |true=>
   rw[aF] at hu ⊢;cases hw:OW P n ops with
  |true=>rw[hw,aF] at hu;rw[aF];exact E5.dL (λo d i hi=>s i (gM.2 ⟨o,d,hi⟩)) h d hu
  |false=>
   rw[hw,aE] at hu;rw[aE];cases hh:Nat.beq (bA P ops.toList) ops.toList.length with
  |true=>
    rw[hh,aF] at hu;rw[aF];cases u:(P.follows .mixedOrders&&(Region.lexB .any ops&&tT ops.toList)) with
   |false=>rw[u,aE] at hu;rw[aE];exact Nf.dL (λo d i hi=>s i (gM.2 ⟨o,d,hi⟩)) h d hu
   |true=>
     rw[u,aF] at hu;rw[aF];obtain⟨C,hC,hu⟩:=hu.out;refine⟨C,hC,?_⟩;exact nI.dL (λσ' q m w' z=>h _ _ _ _ q (m w' z)) _ _ s d hu
  |false=>
    rw[hh,aE] at hu;rw[aE];cases u:(P.follows .mixedOrders&&(Region.lexTailB .any ops (bA P ops.toList)&&(Kp P (ops.toList.drop (bA P ops.toList))&&tT ops.toList))) with
   |false=>
     rw[u,aE] at hu;rw[aE];clear u;have M:=Yg (ops.toList.take (bA P ops.toList)) 0 [];have N:=XZ (ops.toList.take (bA P ops.toList)) 0 [];generalize mvL (ops.toList.take (bA P ops.toList)) 0 []=ms at *;generalize hdL (ops.toList.take (bA P ops.toList)) 0 []=G at *;cases u:(P.follows .mixedOrders&&(P6 ops (bA P ops.toList) ms G&&(Hv n ms&&(Kp P (ops.toList.drop (bA P ops.toList))&&tT ops.toList)))) with
    |false=>
      rw[u,aE] at hu;rw[aE];exact Nf.dL (λo d i hi=>s i (gM.2 ⟨o,d,hi⟩)) h d hu
    |true=>
      rw[u,aF] at hu;rw[aF];obtain⟨C,hC,hu⟩:=hu.out;refine⟨C,hC,?_⟩;have H:∀p,p∈ms->∀i,p.2.dst=ax i->i∈A:=λp hp i hi=>
       s i (gM.2 ⟨p.2,axF (ayQ (M p hp).2),hi⟩)
      have O:∀i,i∈F0 (snds G)->i∈A:=λi hi=>by
       obtain⟨o,d,K⟩:=gM.1 hi;obtain⟨p,hp,rfl⟩:=PC d;exact s i (gM.2 ⟨p.2,axF (ayQ (N p hp).2),K⟩)
      have R:∀i,i∈F0 (ops.toList.drop (bA P ops.toList))->i∈A:=λi hi=>by
       obtain⟨o,d,K⟩:=gM.1 hi;exact s i (gM.2 ⟨o,ayR d,K⟩)
      refine nI.dL (λσ' q m w' z=>?_) _ _ O (ZA ms _ H d) hu;exact Bw.dL (λσ ds w d m=>h _ _ _ _ d m) (λc σ ds w d m=>HW (λσ ds w d m=>h _ _ _ _ d m) ms _ _ _ H d m) _ _ _ _ R q (m w' z)
   |true=>
     rw[u,aF] at hu;rw[aF];obtain⟨C,hC,hu⟩:=hu.out;refine⟨C,hC,?_⟩;have E:∀l S:List Oper,(∀o,o∈l->o∈S)->∀i,i∈F0 l->i∈F0 S:=by
      intro l S L i hi;rw[gM] at hi ⊢;obtain⟨o,d,K⟩:=hi;exact⟨o,L o d,K⟩
     refine nI.dL (λσ' q m w' z=>?_) _ _ (λi hi=>s i (E _ _ (λo d=>axF d) i hi)) d hu;exact Bw.dL (λσ ds w d m=>h _ _ _ _ d m) (λc σ ds w d m=>h _ _ _ _ d m) _ _ _ _ (λi hi=>s i (E _ _ (λo d=>ayR d) i hi)) q (m w' z)
 |false=>
   rw[aE] at hu ⊢;exact Bw.dL (λσ ds w d m=>h _ _ _ _ d m) (λc σ ds w d m=>h _ _ _ _ d m) _ _ _ _ s d hu
|seq a b t B=>
  intro Q Q' A σ₀ s h σ ds w d hu;have x:∀i,i∈asg a->i∈A:=λi hi=>s i (by simp[asg,hi]);have D:∀i,i∈asg b->i∈A:=λi hi=>s i (by simp[asg,hi]);unfold wpX at hu ⊢;cases hw:Nat.ble (ways a) 1 with
 |true=>
   rw[hw,aF] at hu;rw[aF];refine t _ _ A σ₀ x ?_ σ ds w d hu;intro e σ' ds' w' q m;cases e with
  |normal=>exact B _ _ A σ₀ D h σ' ds' w' q m
  |_=>exact h _ _ _ _ q m
 |false=>
   rw[hw,aE] at hu;rw[aE];cases hm:mkB ro a with
  |true=>
    rw[hm,aF] at hu;rw[aF];refine⟨λJ T=>?_⟩;have F:=hu.out J (λds' vs w' U=>T ds' vs w' (λj=>by
     refine B _ _ A σ₀ D h _ _ _ (d.trans (Pg.mono x)) (U j)))
    refine t _ _ A σ₀ x ?_ σ ds w d F;intro e σ' ds' w' q m;cases e with
   |normal=>exact m
   |_=>exact h _ _ _ _ q m
  |false=>
   rw[hm,aE] at hu;rw[aE];refine⟨λJ T=>?_⟩;have F:=hu.out J (λvs w' U=>T vs w' (λj=>by
    refine B _ _ A σ₀ D h _ _ _ (d.trans (Pg.mono x)) (U j)))
   refine t _ _ A σ₀ x ?_ σ ds w d F;intro e σ' ds' w' q m;cases e with
  |normal=>exact m
  |_=>exact h _ _ _ _ q m
|cond c a b t B=>
  intro Q Q' A σ₀ s h σ ds w d hu;have x:∀i,i∈asg a->i∈A:=λi hi=>s i (by simp[asg,hi]);have D:∀i,i∈asg b->i∈A:=λi hi=>s i (by simp[asg,hi]);unfold wpX at hu ⊢;refine⟨?_⟩
  replace hu:=hu.out
  split at hu
  ·exact⟨λu=>t _ _ A σ₀ x h σ ds w d (hu.1 u),λu=>B _ _ A σ₀ D h σ ds w d (hu.2 u)⟩
  ·exact hu.elim
|block id a t=>
  intro Q Q' A σ₀ s h σ ds w d hu;unfold wpX at hu ⊢;refine t _ _ A σ₀ s ?_ σ ds w d hu;intro e σ' ds' w' q m;cases e with
 |exit j=>
   rw[MC] at m ⊢;cases u:Nat.beq j id with
  |true=>rw[u,aF] at m;exact h _ _ _ _ q m
  |false=>rw[u,aE] at m;exact h _ _ _ _ q m
 |_=>exact h _ _ _ _ q m
|loop a t=>
  intro Q Q' A σ₀ s h σ ds w d hu;unfold wpX at hu ⊢;cases hm:mkB ro a with
 |true=>
   rw[hm,aF] at hu;rw[aF];obtain⟨I,μ,V,G⟩:=hu.out;refine⟨I,μ,V,λds vs w X j=>?_⟩;refine t _ _ A σ₀ s ?_ _ ds w (d.trans (Pg.mono s)) (G ds vs w X j);intro e σ' ds' w' q m;cases e with
  |normal=>exact m
  |_=>exact h _ _ _ _ q m
 |false=>
  rw[hm,aE] at hu;rw[aE];obtain⟨I,μ,V,G⟩:=hu.out;refine⟨I,μ,V,λvs w X j=>?_⟩;refine t _ _ A σ₀ s ?_ _ ds w (d.trans (Pg.mono s)) (G vs w X j);intro e σ' ds' w' q m;cases e with
 |normal=>exact m
 |_=>exact h _ _ _ _ q m
|exit id=>intro Q Q' A σ₀ s h σ ds w d hu;exact h _ _ _ _ d hu
|ret=>intro Q Q' A σ₀ s h σ ds w d hu;exact h _ _ _ _ d hu
|rangeFunc g ps a7 b _ _=>
  intro Q Q' A σ₀ s h σ ds w d hu;unfold wpX at hu ⊢;cases L:SO n ps.toList with
 |false=>rw[L,aE] at hu;exact hu.elim
 |true=>
   rw[L,aF] at hu;rw[aF];refine⟨?_⟩;obtain⟨f,fa,ca,df,w0,h1,h2,h3,h4⟩:=hu.out;refine⟨f,fa,ca,df,w0,h1,h2,h3,λL0 Y hY=>Calls.mono (h4 L0 Y hY) ?_⟩;rintro e w3 (⟨v,st,pd,k,he,Z,hw,hm,m⟩|⟨c,he,m⟩)
   ·obtain⟨k',a1,a6⟩:=abW (b:=b) (K':=λe r W=>Q' e σ (QT ro r ds) W) (λe r W hq=>h e σ (QT ro r ds) W d hq) hm;exact .inl ⟨v,st,pd,k',he,Z,hw,a1,a6 _ _ m⟩
   ·exact .inr ⟨c,he,h _ σ _ _ d m⟩
|scope a _=>intro Q Q' A σ₀ s h σ ds w d hu;exact hu.elim
|label l=>intro Q Q' A σ₀ s h σ ds w d hu;exact hu.elim
|goto l=>intro Q Q' A σ₀ s h σ ds w d hu;exact hu.elim
|refuse y=>intro Q Q' A σ₀ s h σ ds w d hu;exact hu.elim
theorem UN {σ:Sg}:∀{ls:List Nat} {i k:Nat},pos i ls=ax k->(pick ls σ).getD k undef=σ i
|[],i,k,h=>by cases h
|j::l,i,k,h=>by
  unfold pos at h;cases a:Nat.beq i j with
 |true=>rw[a,aF] at h;cases h;rw[beq_iff.1 a];rfl
 |false=>
   rw[a,aE] at h;cases hp:pos i l with
  |none=>rw[hp] at h;cases h
  |some m=>rw[hp] at h;cases h;simpa[pick] using UN hp
theorem KL {σ σ':Sg}{A ls:List Nat}(h:Off A σ σ'):mix σ A ls (pick ls σ') σ'=σ':=by
 funext i
 unfold mix;cases hm:mem i A with
|false=>rw[aE];exact (h i hm).symm
|true=>
  rw[aF];split
  ·rename_i k a;exact UN a
  ·rfl
def FB (n:Nat)(Q:Ex)(e:Exit)(a:Act)(w:ao):Prop:=∃σ,Rep n σ a.tmps∧Q e σ a.defers w
theorem akM (σ:Sg)(d:Option Nat)(x u:aq):put (put σ d x) d u=put σ d u:=by
 cases d with
|none=>rfl
|some d=>
  funext i
  simp only[put,upd];cases Nat.beq i d<;>rfl
def aqD (σ:Sg):Option Nat->aq
|some i=>σ i
|none=>undef
theorem abQ (σ:Sg)(d:Option Nat):put σ d (aqD σ d)=σ:=by
 cases d with
|none=>rfl
|some d=>
  funext i
  simp only[put,upd];cases h:Nat.beq i d with
 |true=>have:=aAq h;subst this;rfl
 |false=>rfl
theorem KI {K:Nx}:∀(ms:List (Nat×Oper)) {σ:Sg} {ds:List Deferred} {w:ao},pmX ms K σ ds w->K σ ds w
|[],_,_,_,h=>h
|p::r,σ,ds,w,h=>by
  have a:=KI r (h (aqD σ p.2.dst))
  rwa [abQ] at a
theorem abD (σ:Sg){d e:Option Nat}(x u:aq)(h:d≠e):put (put σ e x) d u=put (put σ d u) e x:=by
 cases d with
|none=>rfl
|some i=>
  cases e with
 |none=>rfl
 |some j=>
   have a:i≠j:=λb=>h (by rw[b])
   funext k
   simp only[put,upd];cases c:Nat.beq k i with
  |true=>
    have:=aAq c;subst this;have f:Nat.beq k j=false:=by
     cases g:Nat.beq k j with
    |false=>rfl
    |true=>exact absurd (aAq g) a
    rw[f]
  |false=>cases Nat.beq k j<;>rfl
theorem RN {K:Nx}(x:aq)(p:Nat×Oper)(ms:List (Nat×Oper)):∀{σ:Sg} {ds:List Deferred} {w:ao},p∈ms->pmX ms K σ ds w->pmX ms K (put σ p.2.dst x) ds w:=by
 induction ms with
|nil=>intro σ ds w hp _;cases hp
|cons q r a=>
  intro σ ds w hp h u;by_cases e:q.2.dst=p.2.dst
  ·have b:pmX r K (put σ p.2.dst u) ds w:=by rw[<-e];exact h u
   rw[e,akM];exact b
  ·rcases avB.1 hp with rfl|hp
   ·exact absurd rfl e
   ·rw[abD σ x u e];exact a hp (h u)
theorem Ao {l:List Oper}{n k:Nat}{o:Oper}(h:(l.take n)[k - 0]?=ax o):l.toArray[k]?=ax o:=by
 rw[Nat.sub_zero,axS] at h;split at h
 ·simpa using h
 ·cases h
theorem Ra {n:Nat}:∀(ms:List (Nat×Oper)) (σ:Sg) (a:Act),Hv n ms=av->Rep n σ a.tmps->Rep n (Vc ms σ) (yV ms a).tmps∧(yV ms a).defers=a.defers
|[],σ,a,_,h=>⟨h,rfl⟩
|p::r,σ,a,b,h=>by
  simp only[Hv,avM] at b;have e:mvX p.2 σ=RG p.2 a:=by
   unfold mvX RG;rw[h.eval]
   try (generalize p.2.op=x;cases x<;>rfl)
  obtain⟨c,d⟩:=Ra r (put σ p.2.dst (mvX p.2 σ)) (a.put p.2.dst (mvX p.2 σ)) b.2 (h.put b.1 _);unfold Vc;rw[show yV (p::r) a=yV r (a.put p.2.dst (RG p.2 a)) from rfl,<-e];exact⟨c,d.trans (by cases p.2.dst<;>rfl)⟩
theorem T4 {n:Nat}:∀(ps:List Nat) (args:List aq) (k:Nat) (σ:Sg) (t:Array aq),SO n ps=av->Rep n σ t->k+ps.length<=args.length ->
  Rep n (putL ps args k σ) ((ps.zip (args.drop k)).foldl (λt x=>t.setIfInBounds x.1 x.2) t)
|[],args,k,σ,t,_,h,_=>by simpa[putL] using h
|p::ps,args,k,σ,t,b,h,e=>by
  unfold SO at b;cases hp:Nat.blt p n with
 |false=>rw[hp,aE] at b;cases b
 |true=>
   rw[hp,aF] at b;have c:k < args.length:=by simp only[avR] at e;omega
   rw[avW c];simp only[List.zip_cons_cons,List.foldl_cons,putL];have f:args.getD k undef=args[k]:=by simp[List.getD,c]
   rw[f];have g:=Rep.put (a:={ tmps:=t,defers:=[] }) h (d:=ax p) (by simpa[inB] using hp) args[k];exact T4 ps args (k+1) _ _ b g (by simp only[avR] at e;omega)
theorem sO {l:Nat}{r:Loop}(h:w.heap[l]?=ax (.loop r)):(Instr.getLoop l).run P w=.ok r w:=by
 have a:(getObj l).run P w=.ok (.loop r) w:=by simp[getObj,Sem.run,h]
 unfold Instr.getLoop;rw[Sem.run_bind,a];rfl
theorem H5 {l:Nat}{r:Loop}{o':Obj}(h:w.heap[l]?=ax (.loop r)):(setObj l o').run P w=.ok () (KM w l o'):=by
 simp[setObj,Sem.run,h,KM]
theorem Nj {l:Nat}(h:w.heap[l]?=ax (lp L0 .ready aw)):(Instr.beginRound l).run P w=.ok () (KM w l (lp L0 .busy aw)):=by
 unfold Instr.beginRound;rw[Sem.run_bind,sO h];simp only[Result.andThen];rw[Sem.run_bind,H5 h];rfl
theorem QB {l:Nat}{j:Option Code}(h:w.heap[l]?=ax (lp L0 .busy aw)):(Instr.endRound l j).run P w=.ok (.bool j.isNone) (KM w l (lp L0 (if j.isNone then .ready else .done) j)):=by
 unfold Instr.endRound;rw[Sem.run_bind,sO h];simp only[Result.andThen];rw[Sem.run_bind,H5 h];rfl
theorem SW {l:Nat}{st:LoopState}{j:Option Code}(a:st≠.busy)(h:w.heap[l]?=ax (lp L0 st j)):(Instr.endLoop l).run P w=.ok j (KM w l (lp L0 .exhausted j)):=by
 unfold Instr.endLoop;rw[Sem.run_bind,sO h];simp only[Result.andThen];have b:(st==LoopState.busy)=false:=by cases st<;>first|rfl|exact absurd rfl a
 simp only[b];rw[auO dc,Sem.run_bind,H5 h];rfl
def wpG (kb:FuncId->Prop)(ro:Option Nat)(P:Program)(c:Code)(Q:Exit->Act->ao->Prop)(a:Act)(w:ao):Prop:=
 ∀(b:Frame) (k:List Item) (cs:List Frame),b.roundOf=ro->kb b.fn ->
  ∃e a' w',Q e a' w'∧ArrivesIn (Machine.fenced P (Fr ro)) P (lone (b.atR a (.code c::k)) cs w) b k cs e a' w'
section
variable {kb:FuncId->Prop}{ro:Option Nat}{P:Program}{Q:Exit->Act->ao->Prop}{a:Act}{w:ao}
theorem gW {n:Nat}:(Fr ro).room n:=λd a=>by cases a
theorem UI {c:Code}(h:c.wpIn (Fr ro) 0 P Q a w):wpG kb ro P c Q a w:=λb k cs d _=>h b k cs d trivial gW
theorem rB {c:Code}(f:∀e a w,Q e a w->Q' e a w)(h:wpG kb ro P c Q a w):wpG kb ro P c Q' a w:=
 λb k cs d g=>let ⟨e,a',w',q,r⟩:=h b k cs d g;⟨e,a',w',f _ _ _ q,r⟩
theorem agT {x y:Code}(h:wpG kb ro P x (Exit.then (wpG kb ro P y Q) Q) a w):wpG kb ro P (Code.seq x y) Q a w:=by
 intro b k cs f i;have j:(lone (b.atR a (.code (.seq x y)::k)) cs w).fenced P (Fr ro):=fenced_calm (n:=0) trivial gW rfl;obtain⟨e,m,o,l,c⟩:=h b (.code y::k) cs f i;cases e with
|normal=>
  obtain⟨p,q,r,g,d⟩:=l b k cs f i;exact⟨p,q,r,g,.of_steps (.head j stepR_seq c) d⟩
|_=>exact⟨_,m,o,l,.of_steps (.one j stepR_seq) (.pass (x:=.code y) rfl (λ_ _=>.inl sm) c)⟩
theorem M4 {c:Operand}{x y:Code}{t:Bool}(f:a.eval c=.bool t)(g:t=av->wpG kb ro P x Q a w)(i:t=au->wpG kb ro P y Q a w):wpG kb ro P (Code.cond c x y) Q a w:=by
 have h:wpG kb ro P (if t then x else y) Q a w:=by
  cases t
  ·exact i rfl
  ·exact g rfl
 exactλb k cs d j=>let ⟨e,a',w',q,r⟩:=h b k cs d j;⟨e,a',w',q,.of_steps (.one (fenced_calm (n:=0) trivial gW rfl) (stepR_cond f)) r⟩
theorem Yr {c:Code}(h:wpG kb ro P c (Exit.inBlock id Q) a w):wpG kb ro P (Code.block id c) Q a w:=by
 intro b k cs r u;have g:(lone (b.atR a (.code (.block id c)::k)) cs w).fenced P (Fr ro):=fenced_calm (n:=0) trivial gW rfl;obtain⟨e,o,p,i,d⟩:=h b (.inBlock id::k) cs r u;cases e with
|normal=>exact⟨.normal,o,p,i,.head g stepR_block (StepsIn.trans d (.one (fenced_calm (n:=0) trivial gW rfl) stepR_inBlock))⟩
|exit f=>
  by_cases hid:f=id
  ·simp only[Exit.inBlock,hid,if_true] at i;exact⟨.normal,o,p,i,.head g stepR_block (d.1 k (by simp[exitTo,hid]))⟩
  ·simp only[Exit.inBlock,hid,if_false] at i;have this:(id==f)=false:=by simp;exactλh=>hid h.symm
   have q:exitTo f (.inBlock id::k)=exitTo f k:=by simp[exitTo,this]
   exact⟨.exit f,o,p,i,λk' j=>.head g stepR_block (d.1 k' (by rw[q];exact j)),
    λm j=>let ⟨k₁,s,t⟩:=d.2 m (by rw[q];exact j);⟨k₁,s,.head g stepR_block t⟩⟩
|goto l=>
  have q:gotoIn l (.inBlock id::k)=gotoIn l k:=by simp[gotoIn]
  exact⟨_,o,p,i,λk' j=>.head g stepR_block (d.1 k' (by rw[q];exact j)),
   λm j=>let ⟨k₁,s,t⟩:=d.2 m (by rw[q];exact j);⟨k₁,s,.head g stepR_block t⟩⟩
|_=>exact⟨_,o,p,i,.of_steps (.one g stepR_block) d⟩
theorem Uc {c:Code}(I:Act->ao->Prop)(μ:Act->ao->Nat)(q:I a w)
  (round:∀a w,I a w->wpG kb ro P c (Exit.then (λa' w'=>I a' w'∧μ a' w' < μ a w) Q) a w):wpG kb ro P (Code.loop c) Q a w:=by
 intro b k cs h r;have key:∀j a w,μ a w=j->I a w ->
   ∃e a' w',Q e a' w'∧ArrivesIn (Machine.fenced P (Fr ro)) P (lone (b.atR a (.code c::.inLoop c::k)) cs w) b k cs e a' w':=by
  intro j
  induction j using Nat.strongRecOn with
 |_ j s=>
   intro a w t u;obtain⟨e,i,l,g,d⟩:=round a w u b (.inLoop c::k) cs h r;cases e with
  |normal=>
    obtain⟨m,o⟩:=g;obtain⟨v,y,z,p,f⟩:=s (μ i l) (t▸o) i l rfl m;exact⟨v,y,z,p,.of_steps (StepsIn.trans d (.one (fenced_calm (n:=0) trivial gW rfl) stepR_inLoop)) f⟩
  |_=>exact⟨_,i,l,g,.pass (x:=.inLoop c) rfl (λ_ _=>.inl sm) d⟩
 obtain⟨e,a',w',g,d⟩:=key _ a w rfl q;exact⟨e,a',w',g,.of_steps (.one (fenced_calm (n:=0) trivial gW rfl) stepR_loop) d⟩
def rndP (P:Program)(l:Nat)(R:Ending->ao->Prop):Exit->Act->ao->Prop
|.panic c,a,w=>a.defers=[]∧R (.panicked c) w
|e,a,w=>roundPost P l R e a w
theorem M9 {l:Nat}{f:FuncId}{tmps:Array aq}{assign body:Code}{R:Ending->ao->Prop}(C:kb f)(s:∃fn,P.funcs[f]?=ax fn)
  (h:wpG kb (ax l) P assign (Exit.then (λx z=>∃y,(Instr.beginRound l).run P z=.ok () y∧wpG kb (ax l) P body (rndP P l R) x y) (λ_ _ _=>False)) { tmps:=tmps,defers:=[] } w) :
  RoundIn Fence.wide 0 P l f tmps assign body w R:=by
 refine⟨trivial,λc cs J=>?_⟩
 let b:Frame:={ (default:Frame) with fn:=f,kind:=.normal,roundOf:=ax l }
 have A:Frame.round l f tmps assign body .normal=b.atR { tmps:=tmps,defers:=[] } [.code assign,.beginRound,.code body]:=by
  simp[Frame.round,Frame.atR,b]
 have u:∀{a:Act} {k:List Item} {w:ao},(b.atR a k).about P w=aw->(lone (b.atR a k) (c::cs) w).fenced P (Fr (ax l)):=λF=>fenced_calm (n:=0) trivial gW F;obtain⟨e,x,z,D,i⟩:=h b [.beginRound,.code body] (c::cs) rfl C;rw[<-A] at i;cases e with
|normal=>
  obtain⟨y,B,p⟩:=D;have s1:StepsIn (Machine.fenced P (Fr (ax l))) P (lone (b.atR x [.beginRound,.code body]) (c::cs) z) (lone (b.atR x [.code body]) (c::cs) y):=
   .one (u rfl) (stepR_beginRound rfl B)
  obtain⟨G,H,E,m,d⟩:=p b [] (c::cs) rfl C;cases G with
 |normal=>
   obtain⟨v,q,g,o⟩:=m;exact⟨.returned v,q,o,(StepsIn.trans i s1).trans (StepsIn.trans d (.one (u rfl) (stepR_round_end rfl rfl g)))⟩
 |ret=>
   obtain⟨v,q,g,o⟩:=m;obtain⟨k₁,r⟩:=d.2 rfl;exact⟨.returned v,q,o,(StepsIn.trans i s1).trans (StepsIn.trans r (.one (u rfl) (stepR_round_ret rfl rfl g)))⟩
 |exit id=>
   obtain⟨v,q,g,o⟩:=m;obtain⟨k₁,s,r⟩:=d.2 rfl rfl;exact⟨.returned v,q,o,(StepsIn.trans i s1).trans (StepsIn.trans r (.one (u rfl) (stepR_round_exit rfl rfl s g)))⟩
 |goto t=>
   obtain⟨v,q,g,o⟩:=m;obtain⟨k₁,s,r⟩:=d.2 rfl rfl;exact⟨.returned v,q,o,(StepsIn.trans i s1).trans (StepsIn.trans r (.one (u rfl) (stepR_round_goto rfl rfl s g)))⟩
 |panic chain=>
   obtain⟨I,o⟩:=m;obtain⟨todo,r⟩:=d;have j:({ b.atR H todo with mode:=.panicking chain }:Frame).leaving P E (.panicked chain):=⟨rfl,I,s⟩;exact⟨.panicked chain,E,o,(StepsIn.trans i s1).trans (StepsIn.trans r (.one (fenced_leaving (n:=0) trivial gW j) (step_leave_panicked j)))⟩
 |outgrown=>exact m.elim
|_=>exact D.elim
theorem OO {g:Operand}{ps:Array Tmp}{assign body:Code}
  (h:∀fn,kb fn->∃(l:Nat) (mark:List Deferred) (A:ao) (d:Deferred) (q:ao) (f:FuncId) (args:Array aq) (B:ao),
   (Instr.enterLoop fn a.tmps ps assign body ro).run P w=.ok (l,mark) A ∧
   (resolve a.eval (rangeCall g l) 0).run P A=.ok d q ∧
   (∀f',Target.leads P q d.target d.args=ax f'->(Fr ro).fn f') ∧
   (invoke d.target d.args).run P q=.ok (.enter f args) B ∧
   ((Fr ro).depth.isSome=av->1<=0) ∧
   CallsIn (Fr ro) (0 - 1) P f args B (rangePost (Fr ro) 0 P l Q { a with defers:=mark++a.defers })) :
  wpG kb ro P (Code.rangeFunc g ps assign body) Q a w:=by
 intro b k cs t K;obtain⟨l,mark,A,d,q,f,args,B,he,r,s,hinv,R,o⟩:=h b.fn K;obtain⟨S,o⟩:=o;rw[<-t] at he;have H:(lone (b.atR a (.code (.rangeFunc g ps assign body)::k)) cs w).fenced P (Fr ro):=by
  refine fenced_lone (.inl trivial) (λf' u=>s f' ?_) gW;have x:=Frame.eval_atR b a (.code (.rangeFunc g ps assign body)::k);simp only[Frame.atR] at x;simp only[Frame.about,Frame.atR,he,x,r] at u;exact u
 have j:=stepR_rangeFunc (P:=P) (b:=b) (a:=a) (k:=k) (cs:=cs) (w:=w) he r hinv;obtain⟨e,C,fr,D,m,L,i⟩:=o (b.atR { a with defers:=mark++a.defers } (.inRangeFunc l::k)::cs) gW;cases e with
|outgrown=>
  obtain⟨M,N,E⟩:=D;exact⟨.outgrown,M,N,E,.inr (Outgrown.of_steps (.one j) m)⟩
|returned v=>
  have F:(lone fr (b.atR { a with defers:=mark++a.defers } (.inRangeFunc l::k)::cs) C).fenced P (Fr ro):=fenced_leaving (n:=0) trivial gW i;obtain⟨jump,I,y,J⟩:=D;have p:StepsIn (Machine.fenced P (Fr ro)) P (lone (b.atR a (.code (.rangeFunc g ps assign body)::k)) cs w) (lone (b.atR { a with defers:=mark++a.defers } ((jump.map Item.code).toList++k)) cs I):=by
   refine .head H j (StepsIn.trans m (.head F ?_ (.one (fenced_calm (n:=0) (fr:=b.atR { a with defers:=mark++a.defers } (.endRangeFunc l::k)) trivial gW rfl) (stepR_endRangeFunc y))));rw[<-finish_atR_inRangeFunc l v];exact step_leave_returned i
  cases jump with
 |none=>exact⟨.normal,_,I,J,p⟩
 |some c=>
   obtain⟨e',G,O,E,z⟩:=J b k cs t trivial gW;exact⟨e',G,O,E,.of_steps p z⟩
|panicked chain=>
  have F:(lone fr (b.atR { a with defers:=mark++a.defers } (.inRangeFunc l::k)::cs) C).fenced P (Fr ro):=fenced_leaving (n:=0) trivial gW i;refine⟨.panic chain,_,C,D,.inRangeFunc l::k,.head H j (StepsIn.trans m (.one F ?_))⟩;rw[<-Frame.raise_atR];exact step_leave_panicked i
end
theorem RZ {kb:FuncId->Prop}{n:Nat}{A:List (Nat×List Nat)}{g:Operand}{ps:Array Tmp}{h b:Code}{Q:Ex}{σ:Sg}{a:Act}(B:Rep n σ a.tmps)(X:SO n ps.toList=av)
  {f:Nat} {fa ca:Array aq} {df:Nat} {w0:ao} (Y:rd σ g=.func (.func f) fa ca) (Z:cD P f=av) (T:LayR w ro df w0)
  (h4:∀L0:Loop,L0.defers=df ->
   (∀l args W R RP,W.heap[l]?=ax (lp L0 .ready aw)->args.length=ps.toList.length ->
    wpX P n aj A (ax l) h (begQ (λσ1 W1=>BegX P l W1 (λW2=>wpX P n aj A (ax l) b (rndQ P l R RP) σ1 [] W2))) (putL ps.toList args 0 σ) [] W->YldP P l args W R RP) ->
   Calls P f (fa++#[.func (.yield w0.heap.size) #[] #[]]++ca) (w0.alloc (lp L0 .ready aw)) λe w3=>
    (∃v st pd k,e=.returned v∧st≠.busy∧w3.heap[w0.heap.size]?=ax (lp L0 st pd)∧(pd,k)∈jsX b (λe r W=>Q e σ (QT ro r a.defers) W)∧k df (KM w3 w0.heap.size (lp L0 .exhausted pd)))∨∃c,e=.panicked c∧Q (.panic c) σ (QT ro df a.defers) w3)
  (C:∀(ro:Option Nat) (Q:Ex) (σ:Sg) (a:Act) (w:ao),Rep n σ a.tmps->wpX P n aj A ro h Q σ a.defers w->wpG kb ro P h (FB n Q) a w)
  (D:∀(ro:Option Nat) (Q:Ex) (σ:Sg) (a:Act) (w:ao),Rep n σ a.tmps->wpX P n aj A ro b Q σ a.defers w->wpG kb ro P b (FB n Q) a w)
  (E:∀f,kb f->∃fn,P.funcs[f]?=ax fn) :
  wpG kb ro P (Code.rangeFunc g ps h b) (FB n Q) a w:=by
 refine OO λfn s=>?_
 let L0:Loop:={ state:=.ready,pending:=aw,fn,tmps:=a.tmps,params:=ps,assign:=h,body:=b,defers:=df }
 let mark:List Deferred:=match ro with|none=>[mkD df]|some _=>[]
 have m:mark++a.defers=QT ro df a.defers:=by
  cases ro<;>rfl
 have p:(Instr.enterLoop fn a.tmps ps h b ro).run P w=.ok (w0.heap.size,mark) (w0.alloc (lp L0 .ready aw)):=by
  cases ro with
 |none=>
   obtain⟨rfl,rfl⟩:=T;simp[Instr.enterLoop,mark,L0,lp,mkD]
 |some l'=>
   obtain⟨r',F,rfl,rfl⟩:=T;unfold Instr.enterLoop;simp only[];rw[Sem.run_bind,sO F];simp[Result.andThen,mark,L0,lp]
 have G:a.eval g=.func (.func f) fa ca:=by rw[B.eval];exact Y
 refine⟨w0.heap.size,mark,_,{ target:=.fn (.func f) ca,args:=fa++#[.func (.yield w0.heap.size) #[] #[]] },w0.alloc (lp L0 .ready aw),f,fa++#[.func (.yield w0.heap.size) #[] #[]]++ca,w0.alloc (lp L0 .ready aw),p,?_,λ_ _=>trivial,?_,λhx=>(by cases hx),?_⟩
 ·unfold resolve;simp only[rangeCall,List.map_toArray,awY,ayZ];rw[G];rfl
 ·simp only[invoke];exact iF Z _ _
 ·refine O4.2 (Calls.mono (h4 L0 rfl ?_) ?_)
  ·intro l args W R RP hW hlen hB;refine⟨fn,(ps.zip args.toArray).foldl (λtmps (t,a)=>tmps.setIfInBounds t a) a.tmps,h,b,?_,?_⟩
   ·have H:args.toArray.size=ps.size:=by simpa using hlen
    unfold Instr.yield;rw[Sem.run_bind,sO hW];simp only[Result.andThen];rw[auO (by simpa[L0] using H)];rfl
   ·have u:Rep n (putL ps.toList args 0 σ) ((ps.zip args.toArray).foldl (λtmps (t,a)=>tmps.setIfInBounds t a) a.tmps):=by
     have:=T4 ps.toList args 0 σ a.tmps X B om;rw[ayS] at this;rw[<-Array.foldl_toList];simpa using this
    refine M9 s (E fn s) ?_;refine rB ?_ (C (ax l) _ _ { tmps:=(ps.zip args.toArray).foldl (λtmps (t,a)=>tmps.setIfInBounds t a) a.tmps,defers:=[] } W u hB);rintro e U w1 ⟨σ1,I,o⟩;generalize J:U.defers=K at o;cases e<;>cases K<;>first|(exact o.elim;done)|skip
    ·obtain⟨w2,L,M⟩:=BegX.out o;refine⟨w2,L,?_⟩;have q:=D (ax l) (rndQ P l R RP) σ1 U w2 I (by rw[J];exact M);refine rB ?_ q;rintro e a2 w4 ⟨σ2,a6,j⟩;cases e with
    |normal=>obtain⟨v,w',x,y⟩:=EndX.out j;exact⟨v,w',x,y⟩
    |ret=>obtain⟨v,w',x,y⟩:=EndX.out j;exact⟨v,w',x,y⟩
    |exit i=>obtain⟨v,w',x,y⟩:=EndX.out j;exact⟨v,w',x,y⟩
    |panic c=>generalize z:a2.defers=N at j;cases N with|nil=>exact⟨z,j⟩|cons d l=>exact j.elim
    |_=>exact j.elim
  ·rintro e w3 (⟨v,st,pd,k,rfl,O,S,hm,o⟩|⟨c,rfl,o⟩)
   rotate_left
   ·exact⟨σ,B,by rw[<-m] at o;exact o⟩
   refine⟨pd,KM w3 w0.heap.size (lp L0 .exhausted pd),SW O S,?_⟩;have fin:∀e:Exit,Q e σ (QT ro df a.defers) (KM w3 w0.heap.size (lp L0 .exhausted pd))->FB n Q e { a with defers:=mark++a.defers } (KM w3 w0.heap.size (lp L0 .exhausted pd)):=λe V=>
    ⟨σ,B,by rw[<-m] at V;exact V⟩
   rcases apL hm with ⟨rfl,rfl⟩|⟨rfl,rfl⟩|⟨i,rfl,rfl⟩
   ·exact fin .normal o
   ·exact wpIn_ret (fin .ret o)
   ·exact wpIn_exit (fin (.exit i) o)
theorem Q9 {n:Nat}{Q:Ex}{σ:Sg}{a:Act}(b:Rep n σ a.tmps)(h:Jo P n ops Q σ a.defers w):(Code.region id ops av).wpIn (Fr ro) 0 P (FB n Q) a w:=by
 unfold Jo at h;cases d:(P.follows .mixedOrders&&tT ops.toList) with
|false=>rw[d,aE] at h;exact h.elim
|true=>
  rw[d,aF] at h;simp only[avM] at d;refine wpIn_region_any d.1 (Ow (K:=λσ ds w=>Q .normal σ ds w) (PK:=λc σ ds w=>Q (.panic c) σ ds w) d.2 ?_ ?_ _ _ σ a _ b h.out)
  ·rintro c a w ⟨σ,b,h⟩;exact⟨σ,b,h⟩
  ·rintro a w ⟨σ,b,h⟩;exact⟨σ,b,h⟩
theorem aiE {n:Nat}{ms:List (Nat×Oper)}{K:Nx}(f:Hv n ms=av){p:Nat×Oper}(hp:p∈ms){a:Act}(he:kY n (pmX ms K) (a.put p.2.dst v) w):kY n (pmX ms K) a w:=by
 obtain⟨σ',b,e⟩:=he;have c:inB n p.2.dst=true:=by
  have:∀l:List (Nat×Oper),Hv n l=av->p∈l->inB n p.2.dst=true:=by
   intro l
   induction l with
  |nil=>intro _ h;cases h
  |cons q l o=>
    intro g k;simp only[Hv,avM] at g;rcases avB.1 k with rfl|k
    ·exact g.1
    ·exact o g.2 k
  exact this ms f hp
 cases m:p.2.dst with
|none=>rw[m] at b e;exact⟨σ',b,e⟩
|some i=>
  rw[m] at b e c;refine⟨put σ' (ax i) (a.tmps.getD i undef),?_,?_⟩
  ·have:=Rep.put (a:=a.put (ax i) v) b c (a.tmps.getD i undef);have r:((a.put (ax i) v).put (ax i) (a.tmps.getD i undef)).tmps=a.tmps:=by
    have hi:i < a.tmps.size:=by
     have s:a.tmps.size=n:=by have:=b.size;simpa[Act.put] using this
     have t:i < n:=by simpa[inB,Nat.blt_eq] using c
     rw[s];exact t
    simp only[Act.put];apply aA7;intro j;by_cases d:i=j
    ·subst d;simp[hi]
    ·rw[azH d,azH d]
   rwa [r] at this
  ·have:=RN (K:=K) (a.tmps.getD i undef) p ms hp e;rw[m] at this;exact this
theorem Tq {P:Program}:∀{l:List Oper},ZJ P l=av->∀o,o∈l->(noRd P o||isCV o)=av
|[],_,o,h=>by cases h
|q::l,a,o,h=>by
  simp only[ZJ,avM] at a;rcases avB.1 h with rfl|h
  ·exact a.1
  ·exact Tq a.2 o h
theorem Ym {o:Oper}{n:Nat}{σ:Sg}{a:Act}(e:Rep n σ a.tmps)(f:inB n o.dst=av){K:Nx}{PK:List PanicEntry->Nx}{next:Act->ao->Prop}
  (g:∀c a w,kY n (PK c) a w->Q (.panic c) a w) (b:∀a w,kY n K a w->next a w)
  (d:(noRd P o||isCV o)=av) (h:opW P o σ w (λv w=>K (put σ o.dst v) a.defers w) (λc w=>PK c σ a.defers w)):o.wp P a w next Q:=by
 obtain⟨i,k⟩:=anU h;cases j:noRd P o with
|true=>exact RM (K:=K) (PK:=PK) e f g b j i
|false=>
  rw[j,aAe] at d;exact ahT (K:=K) (PK:=PK) e f g b (k d) i
theorem abT {n:Nat}{o:Oper}{σ:Sg}{a:Act}{K:Nx}{PK:List PanicEntry->Nx}{next:Act->ao->Prop}(r:ops[i]?=ax o)(m:Rep n σ a.tmps)(k:(noRd P o||isCV o)=av)
  (q:∀c a w,kY n (PK c) a w->Q (.panic c) a w) (b:∀a w,kY n K a w->next a w)
  (h:QP P n ops o σ w (λσ' w'=>K σ' a.defers w') (λc w=>PK c σ a.defers w)):wpOp P ops Q i next a w:=by
 unfold wpOp;simp only[r];unfold QP at h;cases l:inB n o.dst with
|false=>rw[l,aE] at h;exact h.elim
|true=>
  rw[l,aF] at h;cases p:o.guard with
 |none=>
   simp only[p] at h;rw[auP (by simp[Region.wanted,p])];exact .inl (Ym (K:=K) (PK:=PK) m l q b k h)
 |some s=>
   obtain⟨j,want⟩:=s;simp only[p] at h;split at h
   ·rename_i d t
    cases g:Nat.blt d n with
   |false=>rw[g,aE] at h;exact h.elim
   |true=>
     rw[g,aF] at h;have hw:=xE m p t g
     replace h:=h.out
     cases f:jQ (σ d) want with
    |true=>
      rw[f,aF] at h;rw[auP (by rw[hw,f])];exact .inl (Ym (K:=K) (PK:=PK) m l q b k h)
    |false=>
      rw[f,aE] at h;rw[auO (by rw[hw,f];simp)];have e:(a.put o.dst undef).defers=a.defers:=by cases o.dst<;>rfl
      exact b _ _ ⟨_,m.put l undef,by rw[e];exact h⟩
   ·exact h.elim
theorem aaK {n:Nat}{S:ao->Prop}{o:Oper}{σ:Sg}{a:Act}{K:Sg->Prop}(e:Rep n σ a.tmps)(h:Ss P n ops S o σ K) :
  ∃v,YieldsIf P ops S o v a∧inB n o.dst=av∧K (put σ o.dst v):=by
 unfold Ss at h;cases i:inB n o.dst with
|false=>rw[i,aE] at h;exact h.elim
|true=>
  rw[i,aF] at h;have key:Region.wanted o (yielded ops a.tmps)=av->opH P S o σ (λv=>K (put σ o.dst v))->∃v,YieldsIf P ops S o v a∧av=av∧K (put σ o.dst v):=by
   intro hw h;unfold opH at h;split at h
   ·rename_i x g
    refine⟨rd σ x,.inl ⟨hw,λw _=>?_⟩,rfl,h⟩;rw[e.eval,show execOp (rd σ) o=pure (.value (rd σ x)) by unfold execOp;rw[g]];rfl
   ·rename_i x g
    refine⟨rd σ x,.inl ⟨hw,λw _=>?_⟩,rfl,h⟩;rw[e.eval,show execOp (rd σ) o=pure (.value (rd σ x)) by unfold execOp;rw[g]];rfl
   ·obtain⟨v,k,l⟩:=h.out;refine⟨v,.inl ⟨hw,λw m=>?_⟩,rfl,l⟩;rw[e.eval,<-kP];exact k w m
  cases f:o.guard with
 |none=>
   simp only[f] at h;exact key (by simp[Region.wanted,f]) h
 |some p=>
   obtain⟨j,want⟩:=p;simp only[f] at h;split at h
   ·rename_i d q
    cases c:Nat.blt d n with
   |false=>rw[c,aE] at h;exact h.elim
   |true=>
     rw[c,aF] at h;have hw:=xE e f q c
     replace h:=h.out
     cases b:jQ (σ d) want with
    |true=>rw[b,aF] at h;exact key (by rw[hw,b]) h
    |false=>rw[b,aE] at h;exact⟨undef,.inr ⟨by rw[hw,b],rfl⟩,rfl,h⟩
   ·exact h.elim
theorem LC {ops:Array Oper}{E:List Nat}{listed:Array Bool}:∀{l:List Nat} {i:Nat},NR ops E listed l=ax i->i∈l∧Cp i E=au∧Region.free .any ops listed i=av
|[],i,h=>by cases h
|k::l,i,h=>by
  unfold NR at h;cases a:(!(Cp k E)&&Region.free .any ops listed k) with
 |true=>
   rw[a,aF] at h;cases h;simp only[avM,aAr] at a;exact⟨sm,a.1,a.2⟩
 |false=>
   rw[a,aE] at h;obtain⟨b,c⟩:=LC h;exact⟨awR _ b,c⟩
theorem Uz (l:List Oper):∀(k i:Nat) (o:Oper),l[i]?=ax o->(k+i,o)∈DW l k:=by
 induction l with
|nil=>intro k i o h;simp at h
|cons q l a=>
  intro k i o h;cases i with
 |zero=>simp at h;subst h;simp[DW]
 |succ i=>
   have:=a (k+1) i o (by simpa using h);rw[show k+1+i=k+(i+1) by omega] at this;exact awR _ this
theorem SF {S:List Nat}{p:Nat×Oper}(hm:Cp p.1 S=au):∀{l:List (Nat×Oper)},p∈l->p∈G0 S l
|[],h=>by cases h
|q::l,h=>by
  unfold G0;rcases avB.1 h with rfl|h
  ·rw[hm,aE];simp
  ·cases Cp q.1 S with
  |true=>rw[aF];exact SF hm h
  |false=>rw[aE];exact awR _ (SF hm h)
section
variable {P:Program}{md:Region.Mode}{ops:Array Oper}{Q:Exit->Act->ao->Prop}{S:ao->Prop}{need:Nat->Bool}
def xV (P:Program)(md:Region.Mode)(ops:Array Oper)(Q:Exit->Act->ao->Prop)(S:ao->Prop)(need:Nat->Bool):Nat->Array Bool->Act->ao->Prop
|0,l,a,w=>Region.ready md ops l=[]∧Q .normal a w
|f+1,l,a,w=>(Region.ready md ops l=[]->Q .normal a w) ∧
  ∀i∈Region.ready md ops l,wpOp P ops Q i (λa' w'=>(need i=av->S w->S w')∧xV P md ops Q S need f (l.setIfInBounds i av) a' w') a w
theorem xV.any:∀(f:Nat) (l:Array Bool) (a:Act) (w:ao),xV P md ops Q S need f l a w->wpAny P md ops Q f l a w
|0,_,_,_,h=>h
|f+1,_,_,_,h=>⟨h.1,λi hi=>wpOp_mono (λa' w' b=>xV.any f _ a' w' b.2) (h.2 i hi)⟩
theorem xV.done {l:Array Bool}{a:Act}{w:ao}(b:Region.ready md ops l=[])(h:Q .normal a w):∀f,xV P md ops Q S need f l a w
|0=>⟨b,h⟩
|_+1=>⟨λ_=>h,by rw[b];simp⟩
theorem xV.first {T:ao->Prop}{q:Oper}(hi:ops[i]?=ax q)
  (n:∀(j:Nat) (o:Oper) cs b,ops[j]?=ax o->o.op≠.select cs b) (L:∀c a w,Q (.panic c) (a.put q.dst v) w->Q (.panic c) a w)
  (M:∀j g,ops[j]?=ax g->(∀e∈g.after,Region.binds md e=av->e.on≠i)->∀w w',T w->(need j=av->S w->S w')->T w') :
  ∀(f:Nat) (l:Array Bool) (a:Act) (w:ao),(∀j g,ops[j]?=ax g->j≠i->l.getD j av=au->(∀e∈g.after,Region.binds md e=av->e.on≠i)->q.apart ops g=av) ->
   i∈Region.ready md ops l->YieldsIf P ops T q v a->T w->xV P md ops Q S need f (l.setIfInBounds i av) (a.put q.dst v) w->xV P md ops Q S need (f+1) l a w:=by
 intro f
 induction f with
|zero=>
  intro l a w _ r z A H;refine⟨λh=>absurd r (by rw[h];simp),λj B=>?_⟩;rcases Decidable.em (j=i) with rfl|d
  ·exact z.wpOp hi A ⟨λ_ h=>h,H⟩
  ·have hm:=ready_mono B d;rw[H.1] at hm;simp at hm
|succ f N=>
  intro l a w s r z A H;refine⟨λh=>absurd r (by rw[h];simp),λj B=>?_⟩;rcases Decidable.em (j=i) with rfl|d
  ·exact z.wpOp hi A ⟨λ_ h=>h,H⟩
  obtain⟨K,g,m,C⟩:=mem_ready.1 B;have t:=(mem_ready.1 r).1;have u:∀e∈g.after,Region.binds md e=av->e.on≠i:=by
   intro e he O R;have x:=C e he O;rw[R] at x;rcases awO i l.size with D|D
   ·simp[D] at t x;rw[t] at x;cases x
   ·simp[Array.getElem?_eq_none D] at x
  have p:=wpOp_putIf m (s j g m d K u) (λcs b=>n i q cs b hi) (λcs b=>n j g cs b m) L z (H.2 j (ready_mono B d));refine wpOp_mono (λa' w' U=>?_) p;obtain⟨E,y,V⟩:=U;refine⟨y,N _ a' w' ?_ (ready_mono r (Ne.symm d)) E (M j g m u w w' A y) ?_⟩
  ·intro k ok W F G I;refine s k ok W F ?_ I;rcases Decidable.em (j=k) with rfl|J
   ·exact K
   ·rwa [getD_set_ne av J] at G
  ·rw[aA5 _ _ d];exact V
end
theorem Pb {i:Nat}:∀{l:List Edge},Cp i (MM l)=av->∃e∈l,Region.binds .any e=av∧e.on=i
|e::l,h=>by
  unfold MM at h;cases a:Region.binds .any e with
 |true=>
   rw[a,aF] at h;unfold Cp at h;cases d:Nat.beq i e.on with
  |true=>exact⟨e,sm,a,(aAq d).symm⟩
  |false=>
    rw[d] at h;obtain⟨e',b,c⟩:=Pb (l:=l) h;exact⟨e',awR _ b,c⟩
 |false=>
   rw[a,aE] at h;obtain⟨e',b,c⟩:=Pb (l:=l) h;exact⟨e',awR _ b,c⟩
theorem Nu {P:Program}{E A:List Nat}{i:Nat}{o:Oper}(he:Cp i E=au)(hp:Fb P o=au)(a:Cp i A=au):∀{r:List (Nat×Oper)},(i,o)∈r->acV P E A r=av
|p::r,h=>by
  unfold acV;rcases avB.1 h with rfl|h
  ·simp only[he,hp,a,Bool.or_self,aE]
  ·have:=Nu he hp a h;cases Cp p.1 E<;>cases Fb P p.2<;>cases Cp p.1 A<;>simp[aF,aE,this]
theorem Rd {E:List Nat}{o a:Oper}(c:ops[i]?=ax o)(he:Cp i E=au)(hp:(R7 ops.toList&&Fb P o)=au)(b:∀e∈a.after,Region.binds .any e=av->e.on≠i):O8 P ops E a=true:=by
 unfold O8;cases d:R7 ops.toList with
|false=>rfl
|true=>
  rw[aF];rw[d,azI] at hp;have:=Uz ops.toList 0 i o (by simpa using c);rw[avC] at this;refine Nu he hp ?_ this;cases hm:Cp i (MM a.after.toList) with
 |false=>rfl
 |true=>
   obtain⟨e,f,g,h⟩:=Pb hm;exact absurd h (b e (by simpa using f) g)
def adS (P:Program)(ops:Array Oper)(E:List Nat)(j:Nat):Bool:=match ops[j]? with
|some o=>O8 P ops E o
|none=>au
theorem zS {P:Program}{n:Nat}{ops:Array Oper}{E:List Nat}{S:ao->Prop}{K:Nx}{PK:List PanicEntry->Nx}{Q:Exit->Act->ao->Prop}(d:Region.noSelect ops=av)(l:ZJ P ops.toList=av)(J:Hv n (G0 E (DW ops.toList 0))=av)
  (C:∀c a w,kY n (pmX (G0 E (DW ops.toList 0)) (PK c)) a w↔Q (.panic c) a w) (F:∀a w,kY n K a w->Q .normal a w) :
  ∀(fuel:Nat) (listed:Array Bool) (σ:Sg) (a:Act) (w:ao),Rep n σ a.tmps->(∀i o,ops[i]?=ax o->Cp i E=au->(R7 ops.toList&&Fb P o)=au->listed.getD i av=au->S w) ->
   BS P n ops E S K (λc=>pmX (G0 E (DW ops.toList 0)) (PK c)) fuel listed σ a.defers w->xV P .any ops Q S (adS P ops E) fuel listed a w
|0,listed,σ,a,w,D,M,h=>by
  unfold BS at h;cases m:isNil (Region.ready .any ops listed) with
 |false=>rw[m,aE] at h;exact h.elim
 |true=>rw[m,aF] at h;exact⟨yA.1 m,F _ _ ⟨σ,D,h⟩⟩
|f+1,listed,σ,a,w,D,M,h=>by
  unfold BS at h;cases m:isNil (Region.ready .any ops listed) with
 |true=>
   rw[m,aF] at h;exact xV.done (yA.1 m) (F _ _ ⟨σ,D,h⟩) _
 |false=>
   rw[m,aE] at h;cases N:NR ops E listed (Region.ready .any ops listed) with
  |some i=>
    simp only[N] at h;cases b:ops[i]? with
   |none=>simp only[b] at h
   |some o=>
     simp only[b] at h;obtain⟨hm,he,O⟩:=LC N;obtain⟨v,hy,hd,hk⟩:=aaK D h;have hp:(i,o)∈G0 E (DW ops.toList 0):=by
      have:=Uz ops.toList 0 i o (by simpa using b);rw[avC] at this;exact SF he this
     have G:=(mem_ready.1 hm).1;have e:(a.put o.dst v).defers=a.defers:=by cases o.dst<;>rfl
     refine xV.first (T:=acD P ops S o) b (Region.noSelect_spec d) (λc a w hq=>(C c a w).1 (aiE J hp ((C c _ w).2 hq))) ?_ f listed a w (Region.free_spec b O) hm hy ?_
      (zS d l J C F f _ (put σ o.dst v) (a.put o.dst v) w (D.put hd v) ?_ (by rw[e];exact hk))
     ·intro j oj R U w1 w2 V W;unfold acD at V ⊢;cases p:R7 ops.toList&&Fb P o with
     |true=>rw[aF];trivial
     |false=>
       rw[p,aE] at V;rw[aE];refine W ?_ V;unfold adS;rw[R];exact Rd b he p U
     ·unfold acD;cases p:R7 ops.toList&&Fb P o with
     |true=>rw[aF];trivial
     |false=>rw[aE];exact M i o b he p G
     ·intro k ok u x y z;refine M k ok u x y ?_;rcases Decidable.em (i=k) with rfl|A
      ·exact G
      ·rwa [getD_set_ne av A] at z
  |none=>
    simp only[N] at h;refine⟨λhe=>(by rw[yA.2 he] at m;cases m),λi hi=>?_⟩;have q:=Gd h _ (awD.2 ⟨i,hi,rfl⟩);cases b:ops[i]? with
   |none=>simp only[b] at q
   |some o=>
     simp only[b] at q;have H:o∈ops.toList:=by
      have:=aAd b;simpa using this
     refine abT (K:=λσ' ds' w'=>bc (O8 P ops E o) (S w'∧BS P n ops E S K (λc=>pmX (G0 E (DW ops.toList 0)) (PK c)) f (listed.setIfInBounds i av) σ' ds' w') (BS P n ops E S K (λc=>pmX (G0 E (DW ops.toList 0)) (PK c)) f (listed.setIfInBounds i av) σ' ds' w')) (PK:=λc=>pmX (G0 E (DW ops.toList 0)) (PK c)) b D (Tq l o H) (λc a w hc=>(C c a w).1 hc) ?_ q;rintro a' w' ⟨σ',I,g⟩;have B:adS P ops E i=O8 P ops E o:=by unfold adS;rw[b]
     obtain⟨X,a1,s,Y⟩:=mem_ready.1 hi;rw[b] at s;cases s;cases r:O8 P ops E o with
    |true=>
      rw[r,aF] at g;exact⟨λ_ _=>g.1,zS d l J C F f _ σ' a' w' I (λ_ _ _ _ _ _=>g.1) g.2⟩
    |false=>
      rw[r,aE] at g;refine⟨λL=>(by rw[B,r] at L;cases L),zS d l J C F f _ σ' a' w' I ?_ g⟩;intro k ok u x y z;exfalso;have t:listed.getD k av=false:=by
       rcases Decidable.em (i=k) with rfl|A
       ·exact X
       ·rwa [getD_set_ne av A] at z
      have:O8 P ops E o=true:=Rd u x y (λe he Z L=>by
       have q:=Y e he Z;rw[L] at q;rcases awO k listed.size with g|g
       ·simp[g] at t q;rw[t] at q;cases q
       ·simp[Array.getElem?_eq_none g] at q)
      rw[r] at this;cases this
theorem Jn {n:Nat}{Q:Ex}{σ:Sg}{a:Act}(b:Rep n σ a.tmps)(h:E5 P n ops Q σ a.defers w):(Code.region id ops av).wpIn (Fr ro) 0 P (FB n Q) a w:=by
 unfold E5 at h;cases d:Y9 P n ops with
|false=>rw[d,aE] at h;exact Q9 b h
|true=>
  rw[d,aF] at h;unfold Y9 at d;simp only[avM] at d;obtain⟨-,f,g,i,j,k⟩:=d;obtain⟨S,l,h⟩:=h.out;refine Cy f k ?_;have key:=xV.any _ _ _ _ (zS (S:=S) (E:=eL P ops.toList 0 []) (K:=λσ ds w=>Q .normal σ ds w) (PK:=λc σ ds w=>Q (.panic c) σ ds w) (Q:=λe a w=>match e with
   |.panic c=>kY n (pmX (G0 (eL P ops.toList 0 []) (DW ops.toList 0)) (λσ ds w=>Q (.panic c) σ ds w)) a w
   |e=>JY (FB n Q) e a w) g j i (λc a w=>Iff.rfl) (λa w m=>by obtain⟨σ,b,h⟩:=m;exact⟨σ,b,h⟩) ops.size (Array.replicate ops.size au) σ a { w with drawn:=w.drawn+1 } b (λ_ _ _ _ _ _=>l) h)
  refine aaG ?_ _ _ _ _ key;intro e a w he;cases e<;>first|exact he|skip
  obtain⟨σ,b,h⟩:=he;exact⟨σ,b,KI _ h⟩
theorem Mo {P:Program}{n:Nat}{ops:Array Oper}{K:Sg->Prop}{L:Act->Prop}{ds:List Deferred}(g:∀σ a,Rep n σ a.tmps->a.defers=ds->K σ->L a):∀(ms:List (Nat×Oper)) (σ:Sg) (a:Act),Rep n σ a.tmps->a.defers=ds->Mt P n ms K σ->Ln P ops L ms a
|[],σ,a,b,c,h=>g σ a b c h
|p::r,σ,a,b,c,h=>by
  unfold Mt at h;cases d:inB n p.2.dst with
 |false=>rw[d,aE] at h;exact h.elim
 |true=>
   rw[d,aF] at h;cases e:p.2.guard.isNone with
  |false=>rw[e,aE] at h;exact h.elim
  |true=>
    rw[e,aF] at h;have hw:Region.wanted p.2 (yielded ops a.tmps)=true:=by
     have:p.2.guard=none:=by simpa using e
     simp[Region.wanted,this]
    have next:∀v,Mt P n r K (put σ p.2.dst v)->Ln P ops L r (a.put p.2.dst v):=λv i=>
     Mo g r (put σ p.2.dst v) (a.put p.2.dst v) (b.put d v) (by rw[<-c];cases p.2.dst<;>rfl) i
    unfold opP at h;split at h
    ·rename_i x f
     refine⟨rd σ x,.inl ⟨hw,λw=>?_⟩,next _ h⟩;rw[b.eval,show execOp (rd σ) p.2=pure (.value (rd σ x)) by unfold execOp;rw[f]];rfl
    ·rename_i x f
     refine⟨rd σ x,.inl ⟨hw,λw=>?_⟩,next _ h⟩;rw[b.eval,show execOp (rd σ) p.2=pure (.value (rd σ x)) by unfold execOp;rw[f]];rfl
    ·obtain⟨v,j,k⟩:=h.out;refine⟨v,.inl ⟨hw,λw=>?_⟩,next _ k⟩;rw[b.eval,<-kP];exact j w
theorem MI {n:Nat}{Q:Ex}{σ:Sg}{a:Act}(k:Rep n σ a.tmps)(h:Nf P n ops Q σ a.defers w):(Code.region id ops av).wpIn (Fr ro) 0 P (FB n Q) a w:=by
 unfold Nf at h;have r:=@afN ops.toList (bA P ops.toList);have s:=@afU ops.toList (bA P ops.toList);generalize pL ops.toList (bA P ops.toList)=ms at *;generalize hL ops.toList (bA P ops.toList)=J at *;have d:ops.toList.toArray=ops:=sm
 cases m:((Nat.blt 9 ops.size&&aaM P ms)&&(P.follows .mixedOrders&&(TI ops (bA P ops.toList) ms J&&(Hv n ms&&(Kp P (ops.toList.drop (bA P ops.toList))&&tT ops.toList))))) with
|false=>
  rw[m,aE] at h;exact Jn k h
|true=>
  rw[m,aF] at h;simp only[avM] at m;obtain⟨-,t,u,x,y,z⟩:=m;obtain⟨C,hC,h⟩:=h.out;refine Cy t z ?_;have key:=Ni (P:=P) (Q:=JY (FB n Q)) (Q':=λe a w=>match e with
   |.panic c=>kY n (pmX ms (λσ ds w=>Q (.panic c) σ ds w)) a w
   |e=>JY (FB n Q) e a w) (a:=a) (w:=w) (l:=ops.toList) (C:=C) (bA P ops.toList) ms J (by rw[d];exact u) hC
   (λp hp=>Ao (r hp)) (λp hp=>Ao (s hp))
   (λe a w he=>by
    cases e<;>first|exact he|skip
    obtain⟨σ,k,h⟩:=he;exact⟨σ,k,KI ms h⟩)
   (λp hp v c a w he=>by
    obtain⟨σ',b,o⟩:=he;have f:inB n p.2.dst=true:=by
     have:∀l:List (Nat×Oper),Hv n l=av->p∈l->inB n p.2.dst=true:=by
      intro l
      induction l with
     |nil=>intro _ h;cases h
     |cons q l L=>
       intro A B;simp only[Hv,avM] at A;rcases avB.1 B with rfl|B
       ·exact A.1
       ·exact L A.2 B
     exact this ms x hp
    cases D:p.2.dst with
   |none=>rw[D] at b o;exact⟨σ',b,o⟩
   |some i=>
     rw[D] at b o f;refine⟨put σ' (ax i) (a.tmps.getD i undef),?_,?_⟩
     ·have:=Rep.put (a:=a.put (ax i) v) b f (a.tmps.getD i undef);have M:((a.put (ax i) v).put (ax i) (a.tmps.getD i undef)).tmps=a.tmps:=by
       have hi:i < a.tmps.size:=by
        have N:a.tmps.size=n:=by have:=b.size;simpa[Act.put] using this
        have O:i < n:=by simpa[inB,Nat.blt_eq] using f
        rw[N];exact O
       simp only[Act.put];apply aA7;intro j;by_cases g:i=j
       ·subst g;simp[hi]
       ·rw[azH g,azH g]
      rwa [M] at this
     ·have:=RN (K:=λσ ds w=>Q (.panic c) σ ds w) (a.tmps.getD i undef) p ms hp o;rw[D] at this;exact this) (by
   rw[d];refine Mo (ds:=a.defers) (λσ1 R E F G=>?_) ms σ a k rfl h;refine tZ (ds:=a.defers) (K:=λσ=>∀w',C w'->Bw P aw n ops (λσ ds w=>Q .normal σ ds w) (λc=>pmX ms (λσ ds w=>Q (.panic c) σ ds w)) (ops.toList.drop (bA P ops.toList)) σ a.defers w') ?_ _ σ1 R E F G;intro σ' a' b H S w' I;refine FJ (K:=λσ ds w=>Q .normal σ ds w) (PK:=λc=>pmX ms (λσ ds w=>Q (.panic c) σ ds w)) ?_ ?_ _ σ' a' w' y b (by rw[H];exact S w' I)
   ·rintro c a w h;exact h
   ·rintro a w ⟨σ,k,h⟩;exact⟨σ,k,h⟩)
  rw[d] at key;exact key
theorem bcO {a b:Bool}(h:bc a av b=au):a=au∧b=false:=by cases a<;>simp_all [bc]
theorem NY {kb:FuncId->Prop}{n:Nat}{B:List (Nat×List Nat)}:∀(c:Code),(Gq c=au∨∀f,kb f->∃fn,P.funcs[f]?=ax fn)->∀(ro:Option Nat) (Q:Ex) (σ:Sg) (a:Act) (w:ao),Rep n σ a.tmps->wpX P n aj B ro c Q σ a.defers w->wpG kb ro P c (FB n Q) a w:=by
 intro c
 induction c with
|skip=>intro _ ro Q σ a w m h;exact UI (wpIn_skip ⟨σ,m,h⟩)
|exit id=>intro _ ro Q σ a w m h;exact UI (wpIn_exit ⟨σ,m,h⟩)
|ret=>intro _ ro Q σ a w m h;exact UI (wpIn_ret ⟨σ,m,h⟩)
|region id ops draw=>
  intro _ ro Q σ a w m h;refine UI ?_;unfold wpX at h;cases draw with
 |false=>
   rw[aE] at h;refine wpIn_region_list (VN (K:=λσ ds w=>Q .normal σ ds w) (PK:=λc σ ds w=>Q (.panic c) σ ds w) ?_ ?_ _ σ a w m h)
   ·rintro c a w ⟨σ,m,h⟩;exact⟨σ,m,h⟩
   ·rintro a w ⟨σ,m,h⟩;exact⟨σ,m,h⟩
 |true=>
   rw[aF] at h;have A:ops.toList.toArray=ops:=sm
   cases hw:OW P n ops with
  |true=>rw[hw,aF] at h;exact Jn m h
  |false=>
   rw[hw,aE] at h;cases hh:Nat.beq (bA P ops.toList) ops.toList.length with
  |true=>
    rw[hh,aF] at h;cases s:(P.follows .mixedOrders&&(Region.lexB .any ops&&tT ops.toList)) with
   |false=>rw[s,aE] at h;exact MI m h
   |true=>
     rw[s,aF] at h;simp only[avM] at s;obtain⟨C,hC,h⟩:=h.out;refine Cy s.1 s.2.2 (XK (C:=C) s.2.1 hC ?_);refine tZ (ds:=a.defers) (K:=λσ=>∀w',C w'->Q .normal σ a.defers w') ?_ _ σ a m rfl h;intro σ' a' d z k w' F;exact⟨σ',d,by rw[z];exact k w' F⟩
  |false=>
    rw[hh,aE] at h;cases s:(P.follows .mixedOrders&&(Region.lexTailB .any ops (bA P ops.toList)&&(Kp P (ops.toList.drop (bA P ops.toList))&&tT ops.toList))) with
   |false=>
     rw[s,aE] at h;clear s;have Z:=Yg (ops.toList.take (bA P ops.toList)) 0 [];have a1:=XZ (ops.toList.take (bA P ops.toList)) 0 [];generalize mvL (ops.toList.take (bA P ops.toList)) 0 []=ms at *;generalize hdL (ops.toList.take (bA P ops.toList)) 0 []=W at *;cases s:(P.follows .mixedOrders&&(P6 ops (bA P ops.toList) ms W&&(Hv n ms&&(Kp P (ops.toList.drop (bA P ops.toList))&&tT ops.toList)))) with
    |false=>
      rw[s,aE] at h;exact MI m h
    |true=>
      rw[s,aF] at h;simp only[avM] at s;obtain⟨N,O,X,R,S⟩:=s;obtain⟨C,hC,h⟩:=h.out;obtain⟨a6,a7⟩:=Ra ms σ a X m;refine Cy N S ?_;have key:=M5 (P:=P) (Q:=JY (FB n Q)) (Q':=λe a w=>match e with
       |.panic c=>kY n (pmX ms (λσ ds w=>Q (.panic c) σ ds w)) a w
       |e=>JY (FB n Q) e a w) (a:=a) (w:=w) (l:=ops.toList) (C:=C) (bA P ops.toList) ms W (by rw[A];exact O) hC
       (λp hp=>Ao (Z p hp).2) (λp hp=>Ao (a1 p hp).2)
       (λe a w he=>by
        cases e<;>first|exact he|skip
        obtain⟨σ,m,h⟩:=he;exact⟨σ,m,KI ms h⟩)
       (λp hp v c a w he=>by
        obtain⟨σ',d,M⟩:=he;have T:inB n p.2.dst=true:=by
         have:∀l:List (Nat×Oper),Hv n l=av->p∈l->inB n p.2.dst=true:=by
          intro l
          induction l with
         |nil=>intro _ h;cases h
         |cons q l ih=>
           intro G J;simp only[Hv,avM] at G;rcases avB.1 J with rfl|J
           ·exact G.1
           ·exact ih G.2 J
         exact this ms X hp
        cases hd:p.2.dst with
       |none=>rw[hd] at d M;exact⟨σ',d,M⟩
       |some i=>
         rw[hd] at d M T;refine⟨put σ' (ax i) (a.tmps.getD i undef),?_,?_⟩
         ·have:=Rep.put (a:=a.put (ax i) v) d T (a.tmps.getD i undef);have Y:((a.put (ax i) v).put (ax i) (a.tmps.getD i undef)).tmps=a.tmps:=by
           have hi:i < a.tmps.size:=by
            have h3:a.tmps.size=n:=by have:=d.size;simpa[Act.put] using this
            have h4:i < n:=by simpa[inB,Nat.blt_eq] using T
            rw[h3];exact h4
           simp only[Act.put];apply aA7;intro j;by_cases U:i=j
           ·subst U;simp[hi]
           ·rw[azH U,azH U]
          rwa [Y] at this
         ·have:=RN (K:=λσ ds w=>Q (.panic c) σ ds w) (a.tmps.getD i undef) p ms hp M;rw[hd] at this;exact this) (by
       rw[A];refine tZ (ds:=a.defers) (K:=λσ=>∀w',C w'->Bw P aw n ops (λσ ds w=>Q .normal σ ds w) (λc=>pmX ms (λσ ds w=>Q (.panic c) σ ds w)) (ops.toList.drop (bA P ops.toList)) σ a.defers w') ?_ _ (Vc ms σ) (yV ms a) a6 a7 h;intro σ' a' d z k w' F;refine FJ (K:=λσ ds w=>Q .normal σ ds w) (PK:=λc=>pmX ms (λσ ds w=>Q (.panic c) σ ds w)) ?_ ?_ _ σ' a' w' R d (by rw[z];exact k w' F)
       ·rintro c a w h;exact h
       ·rintro a w ⟨σ,m,h⟩;exact⟨σ,m,h⟩)
      rw[A] at key;exact key
   |true=>
     rw[s,aF] at h;simp only[avM] at s;obtain⟨N,O,R,S⟩:=s;obtain⟨C,hC,h⟩:=h.out;refine Cy N S ?_;have key:=Nh (P:=P) (Q:=JY (FB n Q)) (a:=a) (w:=w) (l:=ops.toList) (C:=C) (bA P ops.toList) (by rw[A];exact O) hC (by
      rw[A];refine tZ (ds:=a.defers) (K:=λσ=>∀w',C w'->Bw P aw n ops (λσ ds w=>Q .normal σ ds w) (λc σ ds w=>Q (.panic c) σ ds w) (ops.toList.drop (bA P ops.toList)) σ a.defers w') ?_ _ σ a m rfl h;intro σ' a' d z k w' F;refine FJ (K:=λσ ds w=>Q .normal σ ds w) (PK:=λc σ ds w=>Q (.panic c) σ ds w) ?_ ?_ _ σ' a' w' R d (by rw[z];exact k w' F)
      ·rintro c a w ⟨σ,m,h⟩;exact⟨σ,m,h⟩
      ·rintro a w ⟨σ,m,h⟩;exact⟨σ,m,h⟩)
     rw[A] at key;exact key
|seq x y o D=>
  intro k ro Q σ a w m h
  replace o:=o (k.imp (λh=>(bcO h).1) id)
  replace D:=D (k.imp (λh=>(bcO h).2) id)
  clear k;unfold wpX at h;refine agT ?_;cases hw:Nat.ble (ways x) 1 with
 |true=>
   rw[hw,aF] at h;refine rB ?_ (o _ _ σ a w m h);rintro e a' w' ⟨σ',d,k⟩;cases e with
  |normal=>exact D _ _ σ' a' w' d k
  |_=>exact⟨σ',d,k⟩
 |false=>
   rw[hw,aE] at h;cases hm:mkB ro x with
  |true=>
    rw[hm,aF] at h;have M:=h.out (λds' vs w'=>∀j,wpX P n aj B ro y Q (mix σ (asg x) (look (keyOf y) aj) vs j) ds' w') (λ_ _ _ m=>m);have V:=wpX.dL x _ (λe σ' ds' w'=>Off (asg x) σ σ'∧O2 Q (λσ' ds' w'=>(∀j,wpX P n aj B ro y Q (mix σ (asg x) (look (keyOf y) aj) (pick (look (keyOf y) aj) σ') j) ds' w')) e σ' ds' w') (asg x) σ (λi hi=>hi) (λe σ' ds' w' E k=>⟨E,k⟩) σ a.defers w (Off.refl _ _) M;refine rB ?_ (o _ _ σ a w m V);rintro e a' w' ⟨σ',d,E,k⟩;cases e with
   |normal=>
     have k:∀j,wpX P n aj B ro y Q (mix σ (asg x) (look (keyOf y) aj) (pick (look (keyOf y) aj) σ') j) a'.defers w':=k;have:=k σ';rw[KL E] at this;exact D _ _ σ' a' w' d this
   |_=>exact⟨σ',d,k⟩
  |false=>
   rw[hm,aE] at h;have M:=h.out (λvs w'=>∀j,wpX P n aj B ro y Q (mix σ (asg x) (look (keyOf y) aj) vs j) a.defers w') (λ_ _ m=>m);have V:=wpX.dL x _ (λe σ' ds' w'=>Off (asg x) σ σ'∧O2 Q (λσ' ds' w'=>AtX ds' a.defers (∀j,wpX P n aj B ro y Q (mix σ (asg x) (look (keyOf y) aj) (pick (look (keyOf y) aj) σ') j) a.defers w')) e σ' ds' w') (asg x) σ (λi hi=>hi) (λe σ' ds' w' E k=>⟨E,k⟩) σ a.defers w (Off.refl _ _) M;refine rB ?_ (o _ _ σ a w m V);rintro e a' w' ⟨σ',d,E,k⟩;cases e with
  |normal=>
    obtain⟨z,k⟩:=k.out;have:=k σ';rw[KL E,<-z] at this;exact D _ _ σ' a' w' d this
  |_=>exact⟨σ',d,k⟩
|cond c x y o D=>
  intro k ro Q σ a w m h
  replace o:=o (k.imp (λh=>(bcO h).1) id)
  replace D:=D (k.imp (λh=>(bcO h).2) id)
  clear k;unfold wpX at h
  replace h:=h.out
  split at h
  ·rename_i b s
   refine M4 (t:=b) (by rw[m.eval];exact s) (λht=>o _ _ σ a w m (h.1 ht)) (λht=>D _ _ σ a w m (h.2 ht))
  ·exact h.elim
|block id x o=>
  intro k ro Q σ a w m h
  replace o:=o k
  clear k;unfold wpX at h;refine Yr (rB ?_ (o _ _ σ a w m h));rintro e a' w' ⟨σ',d,k⟩;cases e with
 |exit j=>
   simp only[Exit.inBlock];rw[MC] at k;cases s:Nat.beq j id with
  |true=>rw[s,aF] at k;rw[auP (beq_iff.1 s)];exact⟨σ',d,k⟩
  |false=>
    rw[s,aE] at k;rw[auO (λe=>by rw[beq_iff.2 e] at s;cases s)];exact⟨σ',d,k⟩
 |_=>exact⟨σ',d,k⟩
|loop x o=>
  intro k ro Q σ a w m h
  replace o:=o k
  clear k;unfold wpX at h;cases hm:mkB ro x with
 |true=>
   rw[hm,aF] at h;obtain⟨I,μ,h0,W⟩:=h.out;refine Uc (λa' w'=>∃σ',Rep n σ' a'.tmps∧Off (asg x) σ σ'∧I a'.defers (pick (look (keyOf x) B) σ') w')
    (λa' w'=>μ (pick (look (keyOf x) B) (λi=>a'.tmps.getD i undef)) w') ⟨σ,m,Off.refl _ _,h0⟩ ?_
   rintro a' w' ⟨σ',d,E,hI⟩;have e1:(λi=>a'.tmps.getD i undef)=σ':=funext d.get;have G:=W _ _ w' hI σ';rw[KL E] at G;have J:=wpX.dL x _ (λe σ'' ds' r=>Off (asg x) σ σ''∧O2 Q (λσ'' ds' r=>(I ds' (pick (look (keyOf x) B) σ'') r∧μ (pick (look (keyOf x) B) σ'') r < μ (pick (look (keyOf x) B) σ') w')) e σ'' ds' r)
    (asg x) σ (λi hi=>hi) (λe σ' ds' w' E k=>⟨E,k⟩) σ' a'.defers w' E G
   refine rB ?_ (o _ _ σ' a' w' d J);rintro e L r ⟨σ'',u,H,k⟩;cases e with
  |normal=>
    obtain⟨k2,k3⟩:I L.defers (pick (look (keyOf x) B) σ'') r∧μ (pick (look (keyOf x) B) σ'') r < μ (pick (look (keyOf x) B) σ') w':=k;refine⟨⟨σ'',u,H,k2⟩,?_⟩;have Y:(λi=>L.tmps.getD i undef)=σ'':=funext u.get;rw[e1,Y];exact k3
  |_=>exact⟨σ'',u,k⟩
 |false=>
  rw[hm,aE] at h;obtain⟨I,μ,h0,W⟩:=h.out;refine Uc (λa' w'=>∃σ',Rep n σ' a'.tmps∧a'.defers=a.defers∧Off (asg x) σ σ'∧I (pick (look (keyOf x) B) σ') w')
   (λa' w'=>μ (pick (look (keyOf x) B) (λi=>a'.tmps.getD i undef)) w') ⟨σ,m,rfl,Off.refl _ _,h0⟩ ?_
  rintro a' w' ⟨σ',d,z,E,hI⟩;have e1:(λi=>a'.tmps.getD i undef)=σ':=funext d.get;have G:=W _ w' hI σ';rw[KL E] at G;have J:=wpX.dL x _ (λe σ'' ds' r=>Off (asg x) σ σ''∧O2 Q (λσ'' ds' r=>AtX ds' a.defers (I (pick (look (keyOf x) B) σ'') r∧μ (pick (look (keyOf x) B) σ'') r < μ (pick (look (keyOf x) B) σ') w')) e σ'' ds' r)
   (asg x) σ (λi hi=>hi) (λe σ' ds' w' E k=>⟨E,k⟩) σ' a.defers w' E G
  rw[<-z] at J;refine rB ?_ (o _ _ σ' a' w' d J);rintro e L r ⟨σ'',u,H,k⟩;cases e with
 |normal=>
   obtain⟨k1,k2,k3⟩:=k.out;refine⟨⟨σ'',u,k1.trans z,H,k2⟩,?_⟩;have Y:(λi=>L.tmps.getD i undef)=σ'':=funext u.get;rw[e1,Y];exact k3
 |_=>exact⟨σ'',u,k⟩
|rangeFunc g ps b2 b a8 b0=>
  intro k ro Q σ a w m h;have k:∀f,kb f->∃fn,P.funcs[f]?=ax fn:=by
   rcases k with h|h
   ·cases h
   ·exact h
  unfold wpX at h;cases hl:SO n ps.toList with
 |false=>rw[hl,aE] at h;exact h.elim
 |true=>
   rw[hl,aF] at h;obtain⟨f,fa,ca,df,w0,G,J,h3,h4⟩:=h.out;exact RZ m hl G J h3 (λL0 b1 hY=>h4 L0 b1 hY) (a8 (.inr k)) (b0 (.inr k)) k
|scope x _=>intro _ ro Q σ a w m h;exact h.elim
|label l=>intro _ ro Q σ a w m h;exact h.elim
|goto l=>intro _ ro Q σ a w m h;exact h.elim
|refuse y=>intro _ ro Q σ a w m h;exact h.elim
theorem MJ {n:Nat}{e:List (Nat×List Nat)}(c:Code)(ro:Option Nat)(Q:Ex)(σ:Sg)(a:Act)(w:ao)(f:Rep n σ a.tmps)(h:wpX P n aj e ro c Q σ a.defers w)(g:Gq c=au):c.wpIn (Fr ro) 0 P (FB n Q) a w:=
 λb k cs d _ _=>NY (kb:=λ_=>True) c (.inl g) ro Q σ a w f h b k cs d trivial
inductive RV where
|val (v:aq)
|cell (a:aq) (T:TypeId)
def RV.of (σ:Sg):ResultVar->RV
|.tmp t=>.val (σ t)
|.cell a t=>.cell (σ a) t
def RV.read:RV->Sem aq
|.val v=>pure v
|.cell a t=>do loadVar t (<-asAddr a)
def IN (σ:Sg):List ResultVar->List RV
|[]=>[]
|r::l=>RV.of σ r::IN σ l
def Q8:List RV->Option (List aq)
|[]=>ax []
|.val v::l=>(Q8 l).map (v::·)
|.cell ..::_=>aw
def tup:List aq->aq
|[v]=>v
|l=>.tuple l.toArray
def HB (rs:List RV):Sem Value:=do
 let vs <-rs.toArray.mapM RV.read
 pure (if h:vs.size=1 then vs[0] else .tuple vs)
structure zu (P:Program) (rs:List RV) (w:ao) (K:Ending->ao->Prop):Prop where
 mk ::
 out:∃v,(HB rs).run P w=.ok v w∧K (.returned v) w
def RetD (P:Program)(rs:List RV)(w:ao)(K:Ending->ao->Prop):Prop:=
 match Q8 rs with
|some l=>K (.returned (tup l)) w
|none=>zu P rs w K
def Et (P:Program)(rs:List RV)(K:Ending->ao->Prop):List Deferred->FrameMode->ao->Prop
|[],.returning,w=>RetD P rs w K
|[],.panicking c,w=>K (.panicked c) w
|[],.run,_=>False
|d::ds,u,w=>u≠.run∧∃fv cap f args,d.target=.fn fv cap∧(invoke d.target d.args).run P w=.ok (.enter f args) w ∧
   CallsD P f args u w λ
   |.returned _,a,w'=>Et P rs K ds (settle a) w'
   |.panicked chain,a,w'=>Et P rs K ds (raised a chain) w'
   |.outgrown,_,_=>False
def Hb (P:Program)(rs:List RV)(K:Ending->ao->Prop):List Deferred->FrameMode->ao->Prop
|[],.returning,w=>RetD P rs w K
|[],.panicking c,w=>K (.panicked c) w
|[],.run,_=>False
|d::ds,u,w=>u≠.run∧∃r w',d.target=.collected r∧(Instr.takeDeferred r).run P w=.ok [] w'∧Hb P rs K ds u w'
def topM (P:Program)(rs:List ResultVar)(K:Ending->ao->Prop):Ex
|.normal,σ,ds,w=>Hb P (IN σ rs) K ds .returning w
|.ret,σ,ds,w=>Hb P (IN σ rs) K ds .returning w
|.panic c,σ,ds,w=>Hb P (IN σ rs) K ds (.panicking c) w
|_,_,_,_=>False
def topQ (P:Program)(rs:List ResultVar)(K:Ending->ao->Prop):Ex
|.normal,σ,ds,w=>Et P (IN σ rs) K ds .returning w
|.ret,σ,ds,w=>Et P (IN σ rs) K ds .returning w
|.panic c,σ,ds,w=>Et P (IN σ rs) K ds (.panicking c) w
|_,_,_,_=>False
def jX (args:List aq):Sg:=λi=>args.getD i undef
theorem DU {n:Nat}{σ:Sg}{t:Array aq}(h:Rep n σ t)(fn:Func):results fn t=HB (IN σ fn.results.toList):=by
 have e:∀l:List ResultVar,(IN σ l).mapM RV.read=l.mapM (λr=>match r with
  |.tmp b=>(pure (t.getD b undef):Sem aq)
  |.cell a ty=>do loadVar ty (<-asAddr (t.getD a undef))):=by
  intro l
  induction l with
 |nil=>rfl
 |cons r l c=>
   simp only[IN,List.mapM_cons];rw[c];cases r<;>simp only[RV.of,RV.read]<;>rw[h.get]
 unfold results HB
 congr 1
 rw[<-aA8 (xs:=fn.results)];rw[List.mapM_toArray,List.mapM_toArray,e];rfl
theorem VV {rs:List RV}{l:List aq}(h:Q8 rs=ax l):rs.mapM RV.read=(pure l:Sem (List aq)):=by
 induction rs generalizing l with
|nil=>cases h;rfl
|cons r rs c=>
  cases r with
 |cell a t=>cases h
 |val v=>
   unfold Q8 at h;cases b:Q8 rs with
  |none=>rw[b] at h;cases h
  |some d=>
    rw[b] at h;cases h;rw[List.mapM_cons,c b];rfl
theorem KJ {rs:List RV}{K:Ending->ao->Prop}(h:RetD P rs w K):∃v,(HB rs).run P w=.ok v w∧K (.returned v) w:=by
 unfold RetD at h;split at h
 ·rename_i l a
  refine⟨tup l,?_,h⟩;unfold HB;rw[List.mapM_toArray,VV a];simp only[pure,bind,Sem.bind,Sem.run,Functor.map]
  congr 1
  cases l with
 |nil=>rfl
 |cons v l=>
   cases l with
  |nil=>rfl
  |cons v' l=>simp[tup,Sem.bind,Sem.run]
 ·exact h.out
theorem Cw {n:Nat}{σ:Sg}{t:Array aq}(j:Rep n σ t)(fn:Func){K:Ending->ao->Prop}:∀(ds:List Deferred) (u:FrameMode) (w:ao),
  Et P (IN σ fn.results.toList) K ds u w->Leaves P fn t K ds u w:=by
 intro ds
 induction ds with
|nil=>
  intro u w h;cases u with
 |run=>exact h.elim
 |returning=>
   obtain⟨v,a,b⟩:=KJ h;exact⟨v,by rw[DU j];exact a,b⟩
 |panicking c=>exact h
|cons d ds i=>
  intro u w h;obtain⟨a,fv,cap,f,args,b,k,l⟩:=h;refine⟨a,fv,cap,f,args,b,k,l.mono ?_⟩;intro e m w' g;cases e with
 |returned v=>exact i _ _ g
 |panicked c=>exact i _ _ g
 |outgrown=>exact g.elim
theorem zE {n:Nat}{σ:Sg}{t:Array aq}(g:Rep n σ t)(fn:Func){K:Ending->ao->Prop}:∀(ds:List Deferred) (u:FrameMode) (w:ao),
  Hb P (IN σ fn.results.toList) K ds u w->LeavesInM Fence.wide 0 P fn t K ds u w:=by
 intro ds
 induction ds with
|nil=>
  intro u w h;cases u with
 |run=>exact h.elim
 |returning=>
   obtain⟨v,f,i⟩:=KJ h;exact⟨v,by rw[DU g];exact f,i⟩
 |panicking c=>exact h
|cons d ds j=>
  intro u w h;obtain⟨f,r,w',e,a,b⟩:=h;exact⟨f,.inl ⟨r,w',e,a,j _ _ b⟩⟩
theorem HP {args:List aq}{n:Nat}(h:Nat.ble args.length n=av):Rep n (jX args) (args.toArray++Array.replicate (n - args.toArray.size) undef):=by
 have a:args.length<=n:=by simpa[Nat.ble_eq] using h
 refine⟨by simp;omega,λi=>?_⟩;unfold jX;rw[aA6,auZ,Array.getElem?_append];split
 ·simp
 ·rename_i hi
  simp only[List.size_toArray,Nat.not_lt] at hi;rw[ayG hi,Array.getElem?_replicate];split<;>rfl
theorem Js {f:FuncId}{c:Code}{args:List aq}{K:Ending->ao->Prop}{n:Nat}{i:List (Nat×List Nat)}{rs:List ResultVar}
  (j:P.funcs[f]?=ax fn) (k:fn.body=ax c) (m:fn.ntmps=n) (d:fn.results.toList=rs) (o:Nat.ble args.length n=av)
  (h:wpX P n aj i aw c (topQ P rs K) (jX args) [] w) (p:Gq c=false:=by kernel_rfl):Calls P f args.toArray w K:=by
 refine calls_of_wp_defers j k ?_;rw[m];refine Code.wp_mono ?_ (wpIn_wide.1 (MJ c aw _ (jX args) _ w (HP o) h p));rintro e a w' ⟨σ,g,b⟩;subst d;cases e with
|normal=>exact Cw g fn _ _ _ b
|ret=>exact Cw g fn _ _ _ b
|panic q=>exact Cw g fn _ _ _ b
|exit id=>exact b.elim
|goto l=>exact b.elim
|outgrown=>exact b.elim
theorem M7 {f:FuncId}{c:Code}{R:Ending->ao->Prop}
  (r:P.funcs[f]?=ax fn) (t:fn.body=ax c)
  (h:wpG (λg=>g=f) aw P c (bodyPostM Fence.wide 0 P fn R) { tmps:=args++Array.replicate (fn.ntmps - args.size) undef,defers:=[] } w):CallsIn Fence.wide 0 P f args w R:=by
 refine⟨trivial,λcs s=>?_⟩
 let b:Frame:={ (default:Frame) with fn:=f,kind:=.normal,roundOf:=aw }
 have j:Frame.enter P f args .normal =
   b.atR { tmps:=args++Array.replicate (fn.ntmps - args.size) undef,defers:=[] } [.code c]:=by
  simp[Frame.enter,Frame.atR,r,t,b]
 obtain⟨e,a',w',m,a⟩:=h b [] cs rfl rfl;rw[<-j] at a;cases e with
|normal=>
  obtain⟨e',d,fr',o,p,i,q⟩:=leaves_stepsInM (F:=Fence.wide) (n:=0) a'.defers .returning w' { b.atR a' [] with mode:=.returning } cs rfl rfl rfl r rfl trivial s m;exact⟨e',d,fr',o,ComesIn.of_steps (StepsIn.trans a (.one (fenced_calm (n:=0) (fr:=b.atR a' []) trivial gW rfl) (stepR_end rfl))) p,i,q⟩
|ret=>
  obtain⟨todo,k⟩:=a.1 rfl;obtain⟨e',d,fr',o,p,i,q⟩:=leaves_stepsInM (F:=Fence.wide) (n:=0) a'.defers .returning w' { b.atR a' todo with mode:=.returning } cs rfl rfl rfl r rfl trivial s m;exact⟨e',d,fr',o,ComesIn.of_steps k p,i,q⟩
|panic chain=>
  obtain⟨todo,k⟩:=a;obtain⟨e',d,fr',o,p,i,q⟩:=leaves_stepsInM (F:=Fence.wide) (n:=0) a'.defers (.panicking chain) w' { b.atR a' todo with mode:=.panicking chain } cs rfl rfl rfl r rfl trivial s m;exact⟨e',d,fr',o,ComesIn.of_steps k p,i,q⟩
|exit id=>exact m.elim
|goto l=>exact m.elim
|outgrown=>exact⟨.outgrown,w',b,m,a.resolve_left (by simp[b]),rfl,trivial⟩
theorem QF {f:FuncId}{c:Code}{args:List aq}{K:Ending->ao->Prop}{n:Nat}{k:List (Nat×List Nat)}{rs:List ResultVar}
  (j:P.funcs[f]?=ax fn) (m:fn.body=ax c) (o:fn.ntmps=n) (d:fn.results.toList=rs) (p:Nat.ble args.length n=av)
  (h:wpX P n aj k aw c (topM P rs K) (jX args) [] w):Calls P f args.toArray w K:=by
 refine (callsIn_wide (n:=0)).1 (M7 j m ?_);rw[o];refine rB ?_ (NY c (.inr λg q=>⟨fn,by rw[q];exact j⟩) aw _ (jX args) _ w (HP p) h);rintro e a w' ⟨σ,i,b⟩;subst d;cases e with
|normal=>exact zE i fn _ _ _ b
|ret=>exact zE i fn _ _ _ b
|panic r=>exact zE i fn _ _ _ b
|exit id=>exact b.elim
|goto l=>exact b.elim
|outgrown=>exact b.elim
end Eng
end
namespace Eng
def wG (fn:Func):Code:=fn.body.getD .skip
def dfrV (v:aq)(args:Array aq):Option Deferred:=
 match v with
|.func fn first captured=>ax { target:=.fn fn captured,args:=first++args }
|_=>aw
def pk (K:Ending->ao->Prop):PKT:=λc w=>K (.panicked c) w
def pd (P:Program)(rs:List RV)(K:Ending->ao->Prop)(ds:List Deferred):PKT:=λc w=>Et P rs K ds (.panicking c) w
def pdM (P:Program)(rs:List RV)(K:Ending->ao->Prop)(ds:List Deferred):PKT:=λc w=>Hb P rs K ds (.panicking c) w
def pm1 (PK:PKT):PKT:=λc w=>∀_:aq,PK c w
def ay:Nat->PKT->PKT
 |0,p=>p
 |n+1,p=>pm1 (ay n p)
def Yj:Code->Code
|.seq _ b=>b
|c=>c
def zw:FrameMode->aq
|.panicking ({ v,recovered:=au,goexit:=au }::_)=>v
|_=>.nilIface
def Al:FrameMode->FrameMode
|.panicking ({ v,recovered:=au,goexit:=au }::a)=>.panicking ({ v,recovered:=av }::a)
|u=>u
def topD (P:Program)(rs:List ResultVar)(K:Ending->ao->Prop):Ex
|.normal,σ,[],w=>RetD P (IN σ rs) w K
|.ret,σ,[],w=>RetD P (IN σ rs) w K
|.panic c,_,[],w=>K (.panicked c) w
|_,_,_,_=>False
theorem rec_eq (a:Frame)(cs:List Frame):(match recoverD (a::cs) with
 |some (v,b)=>(v,b)
 |none=>(.nilIface,a::cs))=(zw a.mode,{ a with mode:=Al a.mode }::cs):=by
 have f:({ a with mode:=a.mode }:Frame)=a:=rfl;cases hm:a.mode with
|run=>simp[recoverD,zw,Al,hm];rw[<-hm]
|returning=>simp[recoverD,zw,Al,hm];rw[<-hm]
|panicking d=>
  cases d with
 |nil=>simp[recoverD,zw,Al,hm];rw[<-hm]
 |cons e c=>
   obtain⟨v,r,g⟩:=e;cases r<;>cases g<;>simp[recoverD,zw,Al,hm]<;>rw[<-hm]
theorem wD {f:FuncId}{o:Oper}{rest:Code}{args:List aq}{R:Ending->FrameMode->ao->Prop}{n:Nat}{t:List (Nat×List Nat)}{rs:List ResultVar}
  (y:P.funcs[f]?=ax fn) (z:fn.body=ax (.seq (.region id #[o] au) rest)) (A:o.op=.call { callee:=.builtin .recover,args:=#[],argTypes:=#[] }) (B:o.guard=aw) (s:o.dst=ax d) (m:Nat.blt d n=av)
  (C:fn.ntmps=n) (p:fn.results.toList=rs) (D:Nat.ble args.length n=av)
  (h:wpX P n aj t aw rest (topD P rs (λe w'=>R e (Al u) w')) (upd (jX args) d (zw u)) [] w) (E:Gq rest=false:=by kernel_rfl):CallsD P f args.toArray u w R:=by
 refine callsD_of_wpS y z λg cs hu=>?_;rw[C];refine wpS_seq (wpS_region ?_);have hex:∀ρ:Operand->aq,(execOp ρ o).run P w=.ok .recover w:=by
  intro ρ;unfold execOp;rw[A];simp[resolve,invoke,builtin,bind,pure,Sem.bind,Sem.run]
 have i:=HP (args:=args) D;have j:Rep n (upd (jX args) d (zw u)) (({ tmps:=args.toArray++Array.replicate (n - args.toArray.size) undef,defers:=[] }:Act).put o.dst (zw u)).tmps:=by
  rw[s];exact Rep.put (a:={ tmps:=args.toArray++Array.replicate (n - args.toArray.size) undef,defers:=[] }) i (d:=ax d) m (zw u)
 have key:Exit.thenS (rest.wpS P (bodyPostS P fn g cs R)) (bodyPostS P fn g cs R) .normal (({ tmps:=args.toArray++Array.replicate (n - args.toArray.size) undef,defers:=[] }:Act).put o.dst (zw u)) ({ g with mode:=Al u }::cs) w:=by
  refine wpS_of_wp (Code.wp_mono ?_ (wpIn_wide.1 (MJ rest aw _ _ _ w j (by rw[s];exact h) E)));rintro e a w' ⟨σ,F,b⟩;have k:∀K:Ending->ao->Prop,RetD P (IN σ rs) w' K->∃v,(results fn a.tmps).run P w'=.ok v w'∧K (.returned v) w':=λK b=>by
   rw[DU F,p];exact KJ b
  generalize c:a.defers=ds at b;cases e<;>cases ds<;>first|(exact b.elim;done)|skip
  ·obtain⟨v,q,r⟩:=k (λe w'=>R e (Al u) w') b;exact⟨c,Al u,rfl,v,q,r⟩
  ·obtain⟨v,q,r⟩:=k (λe w'=>R e (Al u) w') b;exact⟨c,Al u,rfl,v,q,r⟩
  ·exact⟨c,Al u,rfl,b⟩
 have e:=rec_eq g cs;rw[hu] at e;show wpOpsS P #[o] _ [0] _ (g::cs) w;unfold wpOpsS;simp only[aA9,azT];rw[auP (by simp[Region.wanted,B])];rw[hex];cases l:recoverD (g::cs) with
|none=>
  rw[l] at e;simp only[azA] at e;simp only[wpOpsS];rw[e.1,e.2];exact key
|some x=>
  obtain⟨v,G⟩:=x;rw[l] at e;simp only[azA] at e;simp only[wpOpsS];rw[e.1,e.2];exact key
end Eng
section
namespace Eng
open Go.RowKit
section
variable {P:Program}{w:ao}{PK:PKT}{K:VWP}
theorem aC {m:Sem Next}(h:m.run P w=.ok (.value v) w'):DoX P m w PK K=K v w':=
 propext ⟨λx=>by have:=x.out;rw[h] at this;exact this,λx=>⟨by rw[h];exact x⟩⟩
theorem yO {m:Sem Next}(h:m.run P w=.ok (.value v) w')(k:K v w'):DoX P m w PK K:=(aC h).mpr k
theorem Is {m:Sem Next}(h:m.run P w=.ok .skip w')(k:K undef w'):DoX P m w PK K:=⟨by rw[h];exact k⟩
theorem adA {m:Sem Next}(h:m.run P w=.halt (.panic v) w'):DoX P m w PK K=PK [{ v,recovered:=au }] w':=
 propext ⟨λx=>by have:=x.out;rw[h] at this;exact this,λx=>⟨by rw[h];exact x⟩⟩
theorem cE {s:Sem aq}(h:s.run P w=.ok v w'):(mv s).run P w=.ok (.value v) w':=by
 simp[mv,h]
theorem Og {s:Sem Unit}(h:s.run P w=.ok () w'):(mu s).run P w=.ok .skip w':=by
 simp[mu,h]
theorem fG {s:Sem aq}(h:s.run P w=.ok v w'):DoX P (mv s) w PK K=K v w':=aC (cE h)
theorem FL {T:TypeId}{k:IntKind}{a b:Int}:DoX P (gS .add T (.int k a) (.int k b)) w PK K=K (.int k (k.wrap (a+b))) w:=fG (by simp[binOp,Op.intArith])
theorem Wj {T:TypeId}{k:IntKind}{a b:Int}:DoX P (gS .sub T (.int k a) (.int k b)) w PK K=K (.int k (k.wrap (a - b))) w:=fG (by simp[binOp,Op.intArith])
theorem arG {T:TypeId}{k:IntKind}{a b:Int}:DoX P (gS .mul T (.int k a) (.int k b)) w PK K=K (.int k (k.wrap (a*b))) w:=fG (by simp[binOp,Op.intArith])
theorem amQ {T:TypeId}{k:IntKind}{a b:Int}:DoX P (gS .lss T (.int k a) (.int k b)) w PK K=K (.bool (ai (a < b))) w:=fG (by simp[binOp,Op.intCmp])
theorem abB {T:TypeId}{k:IntKind}{a b:Int}:DoX P (gS .leq T (.int k a) (.int k b)) w PK K=K (.bool (ai (a<=b))) w:=fG (by simp[binOp,Op.intCmp])
theorem auI {T:TypeId}{k:IntKind}{a b:Int}:DoX P (gS .gtr T (.int k a) (.int k b)) w PK K=K (.bool (ai (b < a))) w:=fG (by simp[binOp,Op.intCmp])
theorem aqZ {T:TypeId}{k:IntKind}{a b:Int}:DoX P (gS .geq T (.int k a) (.int k b)) w PK K=K (.bool (ai (b<=a))) w:=fG (by simp[binOp,Op.intCmp])
theorem Qz {T:TypeId}{k:IntKind}{b:Int}:(gS .add T (.int k a) (.int k b)).run P w=.ok (.value (.int k (k.wrap (a+b)))) w:=cE (by simp[binOp,Op.intArith])
theorem Cj {T:TypeId}{k:IntKind}{b:Int}:(gS .sub T (.int k a) (.int k b)).run P w=.ok (.value (.int k (k.wrap (a - b)))) w:=cE (by simp[binOp,Op.intArith])
theorem agN {T:TypeId}{k:IntKind}{b:Int}:(gS .mul T (.int k a) (.int k b)).run P w=.ok (.value (.int k (k.wrap (a*b)))) w:=cE (by simp[binOp,Op.intArith])
theorem asP {T:TypeId}{k:IntKind}{b:Int}(h:b≠0):(gS .quo T (.int k a) (.int k b)).run P w=.ok (.value (.int k (k.wrap (a.tdiv b)))) w:=cE (by simp[binOp,Op.intDiv,h])
theorem asB {T:TypeId}{k:IntKind}{b:Int}(h:b≠0):(gS .rem T (.int k a) (.int k b)).run P w=.ok (.value (.int k (a.tmod b))) w:=cE (by simp[binOp,Op.intDiv,h])
theorem Ej {T:TypeId}{k:IntKind}{b:Int}(h:b≠0):DoX P (gS .quo T (.int k a) (.int k b)) w PK K=K (.int k (k.wrap (a.tdiv b))) w:=fG (by simp[binOp,Op.intDiv,h])
theorem Ep {T:TypeId}{k:IntKind}{b:Int}(h:b≠0):DoX P (gS .rem T (.int k a) (.int k b)) w PK K=K (.int k (a.tmod b)) w:=fG (by simp[binOp,Op.intDiv,h])
theorem WB (a b:Int):(a==b)=ai (a=b):=by by_cases h:a=b<;>simp[h]
theorem YX (a b:Int):(a != b)=ai (a≠b):=by by_cases h:a=b<;>simp[h]
theorem amK {T:TypeId}{xo yo:Operand}{k:IntKind}{a b:Int}:DoX P (mEq .eql T xo yo (.int k a) (.int k b)) w PK K=K (.bool (ai (a=b))) w:=fG (by simp[eqGuard,binOp,Op.intCmp,WB])
theorem adC {T:TypeId}{xo yo:Operand}{k:IntKind}{a b:Int}:DoX P (mEq .neq T xo yo (.int k a) (.int k b)) w PK K=K (.bool (ai (a≠b))) w:=fG (by simp[eqGuard,binOp,Op.intCmp,YX])
theorem atO {k:IntKind}{a:Int}:DoX P (mUn .neg (.int k a)) w PK K=K (.int k (k.wrap (-a))) w:=fG (by simp[Op.unary,Op.intArith])
theorem Nl {b:Bool}:DoX P (mUn .not (.bool b)) w PK K=K (.bool (!b)) w:=fG (by simp[Op.unary])
theorem adE {S:TypeId}{k:IntKind}{n:Int}(a:(P.underlying S).isSome=av)(b:P.underlying D=ax (.int k')):DoX P (nG S D (.int k n)) w PK K=K (.int k' (k'.wrap n)) w:=by
 cases h:P.underlying S with
|none=>rw[h] at a;cases a
|some d=>exact fG (by simp[convert,run_underlying h,run_underlying b,Conv.intToInt])
theorem NX {c:Bool}{a b:aq}:DoX P (fK (.bool c) a b) w PK K=K (if c then a else b) w:=aC (by simp[fK,asBool])
theorem amC {b:Bool}{E:(VWP)->Prop}:GDo (.bool b) av E w K=((b=av->E K)∧(b=au->K undef w)):=by
 refine propext ⟨λx=>?_,λx=>⟨?_⟩⟩
 ·have:=x.out;cases b
  ·exact⟨λh=>(by cases h),λ_=>this⟩
  ·exact⟨λ_=>this,λh=>(by cases h)⟩
 ·cases b
  ·exact x.2 rfl
  ·exact x.1 rfl
theorem ahK {b:Bool}{E:(VWP)->Prop}:GDo (.bool b) au E w K=((b=au->E K)∧(b=av->K undef w)):=by
 refine propext ⟨λx=>?_,λx=>⟨?_⟩⟩
 ·have:=x.out;cases b
  ·exact⟨λ_=>this,λh=>(by cases h)⟩
  ·exact⟨λh=>(by cases h),λ_=>this⟩
 ·cases b
  ·exact x.1 rfl
  ·exact x.2 rfl
theorem DB {b:Bool}{A B:Prop}:IfX (.bool b) A B=((b=av->A)∧(b=au->B)):=propext ⟨λx=>x.out,λx=>⟨x⟩⟩
theorem No {E:(VWP)->Prop}:GDo (.bool av) av E w K=E K:=propext ⟨λx=>x.out,λx=>⟨x⟩⟩
theorem g_ft {E:(VWP)->Prop}:GDo (.bool au) av E w K=K undef w:=propext ⟨λx=>x.out,λx=>⟨x⟩⟩
theorem g_ff {E:(VWP)->Prop}:GDo (.bool au) au E w K=E K:=propext ⟨λx=>x.out,λx=>⟨x⟩⟩
theorem g_tf {E:(VWP)->Prop}:GDo (.bool av) au E w K=K undef w:=propext ⟨λx=>x.out,λx=>⟨x⟩⟩
theorem i_t {A B:Prop}:IfX (.bool av) A B=A:=propext ⟨λx=>x.out.1 rfl,λx=>⟨⟨λ_=>x,λh=>(by cases h)⟩⟩⟩
theorem i_f {A B:Prop}:IfX (.bool au) A B=B:=propext ⟨λx=>x.out.2 rfl,λx=>⟨⟨λh=>(by cases h),λ_=>x⟩⟩⟩
theorem p_t {a b:aq}:DoX P (fK (.bool av) a b) w PK K=K a w:=NX
theorem p_f {a b:aq}:DoX P (fK (.bool au) a b) w PK K=K b w:=NX
theorem nn_t:(!av)=false:=rfl
theorem nn_f:(!au)=true:=rfl
theorem aqX {p:Prop}[Decidable p]:(decide p=av)=p:=sm
theorem arR {p:Prop}[Decidable p]:(decide p=au)=¬p:=sm
theorem aqO {b:Bool}:((!b)=av)=(b=au):=sm
theorem arU {b:Bool}:((!b)=au)=(b=av):=sm
theorem arJ:(av=av)=True:=sm
theorem auE:(av=au)=False:=sm
theorem aqN:(au=av)=False:=sm
theorem auD:(au=au)=True:=sm
theorem cQ (l:List UInt8):(⟨l.toArray⟩:ByteArray).size=l.length:=by simp[ByteArray.size]
theorem mR (l:List UInt8):(⟨l.toArray⟩:ByteArray).toList=l:=by
 rw[ByteArray.toList_eq]
theorem Vh (a b:List UInt8):(⟨a.toArray⟩++⟨b.toArray⟩:ByteArray)=⟨(a++b).toArray⟩:=by
 apply ByteArray.ext;simp
theorem IY {s:ByteArray}:s=⟨s.data.toList.toArray⟩:=by
 cases s;simp
theorem akX {T:TypeId}{a b:List UInt8}(h:a.length+b.length<=9223372036854775807):DoX P (gS .add T (ae a) (ae b)) w PK K=K (ae (a++b)) w:=by
 refine fG ?_;have e:IntKind.i64.max=9223372036854775807:=rfl;have c:¬(((⟨a.toArray⟩:ByteArray).size+(⟨b.toArray⟩:ByteArray).size:Nat):Int)>IntKind.i64.max:=by rw[cQ,cQ,e];omega
 simp only[binOp,Op.stringOp,auO c,Vh];rfl
theorem M8 {T:TypeId}{xo yo:Operand}{a b:List UInt8}:DoX P (mEq .eql T xo yo (ae a) (ae b)) w PK K=K (.bool (ai (a=b))) w:=by
 refine fG ?_;have e:(a==b)=ai (a=b):=by by_cases h:a=b<;>simp[h]
 simp[eqGuard,binOp,Op.stringOp,mR,e]
theorem Wx {T:TypeId}{xo yo:Operand}{a b:List UInt8}:DoX P (mEq .neq T xo yo (ae a) (ae b)) w PK K=K (.bool (ai (a≠b))) w:=by
 refine fG ?_;have e:(a==b)=ai (a=b):=by by_cases h:a=b<;>simp[h]
 simp[eqGuard,binOp,Op.stringOp,mR,e]
theorem amE {T:TypeId}{a b:List UInt8}:DoX P (gS .lss T (ae a) (ae b)) w PK K=K (.bool (Op.bytesLess a b)) w:=fG (by simp[binOp,Op.stringOp,mR])
theorem arK {T:TypeId}{a b:List UInt8}:DoX P (gS .leq T (ae a) (ae b)) w PK K=K (.bool (Op.bytesLess a b||a==b)) w:=fG (by simp[binOp,Op.stringOp,mR])
theorem asM {T:TypeId}{a b:List UInt8}:DoX P (gS .gtr T (ae a) (ae b)) w PK K=K (.bool (!(Op.bytesLess a b||a==b))) w:=fG (by simp[binOp,Op.stringOp,mR])
theorem atK {T:TypeId}{a b:List UInt8}:DoX P (gS .geq T (ae a) (ae b)) w PK K=K (.bool (!(Op.bytesLess a b))) w:=fG (by simp[binOp,Op.stringOp,mR])
theorem dE {T:TypeId}{cs:Array Bool}{a:List UInt8}(h:P.underlying T=ax .string):DoX P (mB .len #[T] U cs #[ae a]) w PK K=K (ad (a.length:Int)) w:=by
 refine aC ?_;simp[mB,builtin,Builtin.len_,run_underlying h,goInt,cQ]
theorem H4 {T:TypeId}{k:IntKind}{i:Int}{a:List UInt8}{c:UInt8}(h:P.underlying T=ax .string)(b:0<=i)(d:a[i.toNat]?=ax c):DoX P (mIx T (ae a) (.int k i)) w PK K=K (.int .u8 (c.toNat:Int)) w:=by
 refine fG ?_;have e:(⟨a.toArray⟩:ByteArray)[i.toNat]?=ax c:=by
  have f:i.toNat < a.length:=(avL.1 d).1;have g:i.toNat < (⟨a.toArray⟩:ByteArray).size:=by rw[cQ];exact f
  rw[getElem?_pos (⟨a.toArray⟩:ByteArray) i.toNat g];have j:=(avL.1 d).2;rw[<-j];rfl
 simp only[Instr.index,asIntOf,run_underlying h,b,e];simp[b,e,run_underlying h]
theorem SU {T:TypeId}{a:List UInt8}{k:IntKind}(h:P.underlying T=ax .string)(b:0<=lo)(d:lo<=hi)(c:hi<=a.length) :
  DoX P (cY T (ae a) (ax (.int k lo)) (ax (.int k' hi)) aw) w PK K=K (ae ((a.drop lo.toNat).take (hi.toNat - lo.toNat))) w:=by
 refine fG ?_;have e:(⟨a.toArray⟩:ByteArray).extract lo.toNat hi.toNat=⟨((a.drop lo.toNat).take (hi.toNat - lo.toNat)).toArray⟩:=by
  rw[IY (s:=(⟨a.toArray⟩:ByteArray).extract lo.toNat hi.toNat),Lib.extract_data]
 have g1:(0<=hi∧hi<=((a.length:Nat):Int)):=om
 have g2:(0<=lo∧lo<=((hi.toNat:Nat):Int)):=om
 simp only[Instr.sliceAt,Instr.slice,Instr.sliceBounds,Instr.sliceBound,asIntOf,run_underlying h,cQ];have g3:lo<=max hi 0:=om
 simp[run_underlying h,cQ,c,g3,b,g1.1,e]
theorem Hl {T:TypeId}{a:List UInt8}{k:IntKind}(h:P.underlying T=ax .string)(b:0<=lo)(c:lo<=a.length) :
  DoX P (cY T (ae a) (ax (.int k lo)) aw aw) w PK K=K (ae (a.drop lo.toNat)) w:=by
 refine fG ?_;have e:(⟨a.toArray⟩:ByteArray).extract lo.toNat a.length=⟨(a.drop lo.toNat).toArray⟩:=by
  rw[IY (s:=(⟨a.toArray⟩:ByteArray).extract lo.toNat a.length),Lib.extract_data];rw[avX sm]
 have g2:(0<=lo∧lo<=((a.length:Nat):Int)):=om
 simp only[Instr.sliceAt,Instr.slice,Instr.sliceBounds,Instr.sliceBound,asIntOf,run_underlying h,cQ];simp[run_underlying h,cQ,b,c,e]
theorem Us {T:TypeId}{a:List UInt8}(h:P.underlying T=ax .string)(b:0<=hi)(c:hi<=a.length) :
  DoX P (cY T (ae a) aw (ax (.int k' hi)) aw) w PK K=K (ae (a.take hi.toNat)) w:=by
 refine fG ?_;have e:(⟨a.toArray⟩:ByteArray).extract 0 hi.toNat=⟨(a.take hi.toNat).toArray⟩:=by
  rw[IY (s:=(⟨a.toArray⟩:ByteArray).extract 0 hi.toNat),Lib.extract_data];simp
 have g1:(0<=hi∧hi<=((a.length:Nat):Int)):=om
 simp only[Instr.sliceAt,Instr.slice,Instr.sliceBounds,Instr.sliceBound,asIntOf,run_underlying h,cQ];simp[run_underlying h,cQ,b,c,e]
theorem gT {l:List aq}(h:l[i]?=ax v):DoX P (zt (.tuple l.toArray) i) w PK K=K v w:=fG (by simp[Instr.extract,h])
theorem tM {fn:Fn}{a b:Array aq}:DoX P (Q7 fn a b) w PK K=K (.func fn a b) w:=fG rfl
theorem atZ {a:Addr}:DoX P (GZ (.pointer (ax a))) w PK K=K (.pointer (ax a)) w:=aC (by simp[GZ,execOp])
theorem Ib {T:TypeId}{x:aq}:DoX P (G3 (.iface T x)) w PK K=PK [{ v:=.iface T x,recovered:=au }] w:=by
 have h:(G3 (.iface T x)).run P w=.halt (.panic (.iface T x)) w:=by simp[G3,mv,Instr.panic,goPanic,Sem.run,bind,Sem.bind]
 exact adA h
def jZ (P:Program)(T:TypeId):Bool:=match P.underlying T with|some (.interface _)=>au|some _=>av|none=>au
theorem KP {T:TypeId}{x:aq}(h:jZ P T=av):DoX P (aeN T x) w PK K=K (.iface T x) w:=by
 unfold jZ at h;cases hu:P.underlying T with
|none=>rw[hu] at h;cases h
|some d=>
  rw[hu] at h;refine fG ?_;cases d<;>first|(cases h;done)|simp[Instr.makeInterface,run_underlying hu]
theorem Oe {T:TypeId}(h:P.underlying T=ax (.interface ms)):(Op.equal T .nilIface .nilIface).run P w=.ok av w:=by
 show (Op.equalIn (9999+1) T .nilIface .nilIface).run P w=_;rw[Op.equalIn];simp[run_underlying h]
theorem Ma {T:TypeId}(h:P.underlying T=ax (.interface ms)):(Op.equal T (.iface U v) .nilIface).run P w=.ok au w:=by
 show (Op.equalIn (9999+1) T (.iface U v) .nilIface).run P w=_;rw[Op.equalIn];simp[run_underlying h]
theorem Vd {T:TypeId}(h:P.underlying T=ax (.interface ms)):DoX P (mEq .eql T xo (.const c) .nilIface .nilIface) w PK K=K (.bool av) w:=by
 refine fG ?_;have e:(eqGuard .eql T xo (.const c) .nilIface .nilIface)=pure ():=by cases xo<;>rfl
 rw[e];simp[binOp,Oe h]
theorem YI {T:TypeId}(h:P.underlying T=ax (.interface ms)):DoX P (mEq .eql T xo yo (.iface U v) .nilIface) w PK K=K (.bool au) w:=by
 refine fG ?_;have e:(eqGuard .eql T xo yo (.iface U v) .nilIface)=pure ():=rfl;rw[e];simp[binOp,Ma h]
theorem akE {T:TypeId}(h:P.underlying T=ax (.interface ms)):DoX P (mEq .neq T xo (.const c) .nilIface .nilIface) w PK K=K (.bool au) w:=by
 refine fG ?_;have e:(eqGuard .neq T xo (.const c) .nilIface .nilIface)=pure ():=by cases xo<;>rfl
 rw[e];simp[binOp,Oe h]
theorem afE {T:TypeId}(h:P.underlying T=ax (.interface ms)):DoX P (mEq .neq T xo yo (.iface U v) .nilIface) w PK K=K (.bool av) w:=by
 refine fG ?_;have e:(eqGuard .neq T xo yo (.iface U v) .nilIface)=pure ():=rfl;rw[e];simp[binOp,Ma h]
theorem ZG {A a:TypeId}(h:jZ P A=av):DoX P (mTA (.iface A v) a A av) w PK K=K (.tuple #[v,.bool av]) w:=by
 unfold jZ at h;cases hu:P.underlying A with
|none=>rw[hu] at h;cases h
|some d=>
  rw[hu] at h;refine fG ?_;cases d<;>first|(cases h;done)|simp[Instr.typeAssert,run_underlying hu]
def zy (R:VWP):Ending->ao->Prop:=λe w'=>∃v,e=.returned v∧R v w'
theorem xB {R:VWP}(h:R v w):zy R (.returned v) w:=⟨v,rfl,h⟩
def Ret (P:Program)(f:Nat)(args:Array aq)(w:ao)(R:VWP):Prop:=Calls P f args w (zy R)
theorem aL {R:VWP}(h:∀K:Ending->ao->Prop,(∀v w',R v w'->K (.returned v) w')->Calls P f args w K):Ret P f args w R:=h _ (λv w' r=>xB r)
def PanK (R:PKT):Ending->ao->Prop:=λe w'=>∃c,e=.panicked c∧R c w'
theorem panK {R:PKT}{c:List PanicEntry}(h:R c w):PanK R (.panicked c) w:=⟨c,rfl,h⟩
def Pan (P:Program)(f:Nat)(args:Array aq)(w:ao)(R:PKT):Prop:=Calls P f args w (PanK R)
theorem TH {R:PKT}(h:∀K:Ending->ao->Prop,(∀v w',R v w'->K (.panicked v) w')->Calls P f args w K):Pan P f args w R:=h _ (λv w' r=>panK r)
theorem Ret.mono {f:Nat}{args:Array aq}{R a:VWP}(h:Ret P f args w R)(k:∀v w',R v w'->a v w'):Ret P f args w a:=
 Calls.mono h λ_ _ ⟨v,he,b⟩=>⟨v,he,k _ _ b⟩
theorem Dv {R:VWP}(h:Ret P f args w R)(k:∀v w',R v w'->K v w'):eN P f args w PK K:=
 ⟨Calls.mono h λe w' ⟨v,he,a⟩=>by subst he;exact k _ _ a⟩
theorem zq (h:Ret P f args w (λv' w'=>v'=v∧w=w'))(k:K v w):eN P f args w PK K:=
 Dv h λv' w' ⟨a,hw⟩=>by subst a;subst hw;exact k
theorem acS {R:PKT}(h:Pan P f args w R)(k:∀c w',R c w'->PK c w'):eN P f args w PK K:=
 ⟨Calls.mono h λe w' ⟨v,he,a⟩=>by subst he;exact k _ _ a⟩
theorem eR {R:Ending->ao->Prop}(h:Calls P f args w R)(k:∀e w',R e w'->wQ K PK e w'):eN P f args w PK K:=
 ⟨Calls.mono h k⟩
theorem OI (hp:cD P f=av)(h:eN P f (fa++args++ca) w PK K):DoX P (fV (.func (.func f) fa ca) args) w PK K:=by
 refine⟨?_⟩;have e:(fV (.func (.func f) fa ca) args).run P w=.ok (.enter f (fa++args++ca)) w:=by
  unfold fV;simp only[Deferred.ofValue,invoke,bind,pure,Sem.bind];exact iF hp _ _
 rw[e];exact h
end
theorem join {F:(List aq->ao->Prop)->Prop}{R:List aq->ao->Prop}(h:∀J:List aq->ao->Prop,(∀vs w,R vs w->J vs w)->F J):zP F R:=⟨h⟩
def PZ (I:List aq->ao->Prop)(μ:List aq->ao->Nat)(vs:List aq)(w:ao):List aq->ao->Prop:=λvs' w'=>I vs' w'∧μ vs' w' < μ vs w
theorem aU {I:List aq->ao->Prop}{μ:List aq->ao->Nat}{vs vs':List aq}(h:I vs' w')(hm:μ vs' w' < μ vs w):PZ I μ vs w vs' w':=⟨h,hm⟩
theorem loop {vs:List aq}{F:List aq->ao->(List aq->ao->Prop)->Prop}(I:List aq->ao->Prop)(μ:List aq->ao->Nat)
  (a:I vs w) (b:∀vs w,I vs w->F vs w (PZ I μ vs w)):zr vs w F:=⟨I,μ,a,b⟩
theorem quiet {F:(ao->Prop)->Prop}(h:F (Below w.heap.size w)):zp w F:=⟨_,(Below.refl _ _).drew,h⟩
theorem dR {F:(ao->Prop)->Prop}(C:ao->Prop)(hC:C w.drew)(h:F C):zp w F:=⟨C,hC,h⟩
section
variable {P:Program}{C:ao->Prop}{K:aq->Prop}
theorem eZ {m:Sem Next}(v:aq)(h:∀w,m.run P w=.ok (.value v) w)(k:K v):QDo P C m K:=
 ⟨v,λw _=>by rw[h w];exact⟨rfl,rfl⟩,k⟩
theorem kE {m:Sem Next}(v:aq)(h:∀w,C w->m.run P w=.ok (.value v) w)(k:K v):QDo P C m K:=
 ⟨v,λw hw=>by rw[h w hw];exact⟨rfl,rfl⟩,k⟩
theorem fC (v:aq)(h:∀w,C w->Ret P f args w (λv' w'=>v'=v∧C w'))(k:K v):Eu P C f args K:=
 ⟨v,λw hw=>Calls.mono (h w hw) λ_ _ ⟨_,he,a,b⟩=>⟨by rw[he,a],b⟩,k⟩
end
def rs:=And.intro @FL (And.intro @Wj (And.intro @arG (And.intro @amQ (And.intro @abB (And.intro @auI (And.intro @aqZ (And.intro @amK (And.intro @adC (And.intro @atO (And.intro @Nl (And.intro @p_t (And.intro @p_f (And.intro @No (And.intro @g_ft (And.intro @g_ff (And.intro @g_tf (And.intro @i_t (And.intro @i_f (And.intro @M8 (And.intro @Wx (And.intro @amE (And.intro @arK (And.intro @asM (And.intro @atK (And.intro @tM (And.intro @atZ (And.intro @Ib (And.intro @nn_t (@nn_f)))))))))))))))))))))))))))))
def sp:=And.intro @NX (And.intro @amC (And.intro @ahK (And.intro @DB (And.intro @aqX (And.intro @arR (And.intro @aqO (And.intro @arU (And.intro @arJ (And.intro @auE (And.intro @aqN (@auD)))))))))))
theorem gd0 {a:aq}{l:List aq}:(a::l).getD 0 undef=a:=rfl
theorem gd1 {a b:aq}{l:List aq}:(a::b::l).getD 1 undef=b:=rfl
theorem gd2 {a b c:aq}{l:List aq}:(a::b::c::l).getD 2 undef=c:=rfl
theorem gd3 {a b c d:aq}{l:List aq}:(a::b::c::d::l).getD 3 undef=d:=rfl
theorem gd4 {a b c d e:aq}{l:List aq}:(a::b::c::d::e::l).getD 4 undef=e:=rfl
theorem gd5 {a b c d e f:aq}{l:List aq}:(a::b::c::d::e::f::l).getD 5 undef=f:=rfl
def gd:=And.intro @gd0 (And.intro @gd1 (And.intro @gd2 (And.intro @gd3 (And.intro @gd4 @gd5))))
theorem aA {n:Int}(a:-9223372036854775808<=n)(b:n<=9223372036854775807):IntKind.wrap .i64 n=n:=IntWalk.i64_in n om
end Eng
end
section
namespace Eng
open Go.RowKit
structure E0 (S:Nat->Prop) (w w':ao):Prop where
 os:w'.os=w.os
 tape:w'.tape=w.tape
 output:w'.output=w.output
 size:w.heap.size<=w'.heap.size
 block:∀k,k < w.heap.size->¬S k->w'.heap[k]?=w.heap[k]?
def NoB:Nat->Prop:=λ_=>False
theorem E0.refl (S:Nat->Prop)(w:ao):E0 S w w:=⟨rfl,rfl,rfl,auY _,λ_ _ _=>rfl⟩
theorem E0.trans {S:Nat->Prop}{a b c:ao}(h:E0 S a b)(k:E0 S b c):E0 S a c:=
 ⟨k.os.trans h.os,k.tape.trans h.tape,k.output.trans h.output,axN h.size k.size,λi hi d=>(k.block i (axL hi h.size) d).trans (h.block i hi d)⟩
theorem E0.below {a b:ao}(h:E0 NoB a b):Below a.heap.size a b:=⟨h.os,h.tape,h.output,h.size,λk c=>h.block k c (λx=>x)⟩
theorem Nt {a b:ao}(h:Below a.heap.size a b):E0 S a b:=⟨h.os,h.tape,h.output,h.size,λk c _=>h.block k c⟩
theorem XN {o:Option Nat}(h:w.grownBy w' o):E0 (λk=>o=ax k) w w':=
 ⟨h.os,h.tape,h.output,h.size,λk a b=>h.block k a (λe=>b e.symm)⟩
structure Ent where
 blk:Nat->Prop
 is:ao->Prop
 keep:∀{w w':ao},is w->(∀k,blk k->w'.heap[k]?=w.heap[k]?)->is w'
 lt:∀{w:ao},is w->∀k,blk k->k < w.heap.size
theorem dN {o:Obj}(h:w.heap[b]?=ax o):b < w.heap.size:=(azS.1 h).1
def Ent.obj (b:Nat)(o:Obj):Ent:=⟨λk=>k=b,λw=>w.heap[b]?=ax o,λh k=>(k b rfl).trans h,λh k a=>by cases a;exact dN h⟩
def Ent.cells (b:Nat)(cs:List aq)(T:TypeId):Ent:=⟨λk=>k=b,λw=>w.heap[b]?=ax (.cells cs.toArray T (0,0)),λh k=>(k b rfl).trans h,λh k a=>by cases a;exact dN h⟩
def Ent.row (T:TypeId)(sz:Nat)(v:aq)(n:Nat)(xs:List aq):Ent:=
 ⟨λk=>v.ownBlock=ax k,λw=>w.ownsRowF 0 T sz v n xs,λ{w w'} h k=>by
  refine⟨h.1,?_⟩;rcases h.2 with b|⟨g,cap,cur,fz,rfl,c,a,rest⟩
  ·exact .inl b
  ·exact .inr ⟨g,cap,cur,fz,rfl,c,(k g rfl).trans a,rest⟩,λh k d=>(World.ownsRowF.lt h k d).2⟩
structure dQ (S:Nat->Prop) (w0 w:ao) (L:List Ent):Prop where
 grew:E0 S w0 w
 all:∀e∈L,e.is w∧∀k,e.blk k->S k∨w0.heap.size<=k
 apart:L.Pairwise (λe f=>∀k,e.blk k->¬f.blk k)
abbrev Own (w0 w:ao)(L:List Ent):Prop:=dQ NoB w0 w L
theorem Own.start (w:ao):Own w w []:=⟨E0.refl _ _,(λ_ h=>by cases h),List.Pairwise.nil⟩
section
variable {S:Nat->Prop}
theorem dQ.size {w0 w:ao}{L:List Ent}(h:dQ S w0 w L):w0.heap.size<=w.heap.size:=h.grew.size
theorem dQ.mem {L:List Ent}(h:dQ S w0 w L){e:Ent}(he:e∈L):e.is w:=(h.all e he).1
theorem dQ.at_ {L:List Ent}(h:dQ S w0 w L)(i:Nat){e:Ent}(he:L[i]?=ax e):e.is w:=h.mem (ayQ he)
theorem dQ.grow {L:List Ent}(h:dQ S w0 w L)(a:Below w.heap.size w w'):dQ S w0 w' L:=
 ⟨h.grew.trans (Nt a),λe he=>⟨e.keep (h.all e he).1 λk b=>a.block k (e.lt (h.all e he).1 k b),(h.all e he).2⟩,h.apart⟩
theorem dQ.drew {w0 w:ao}{L:List Ent}(h:dQ S w0 w L):dQ S w0 w.drew L:=h.grow (Below.refl _ _).drew
theorem Sa (a:w.grownBy w' aw):Below w.heap.size w w':=⟨a.os,a.tape,a.output,a.size,λk b=>a.block k b sm⟩
theorem dQ.add {L:List Ent}(h:dQ S w0 w L)(i:w.grownBy w' aw)(e:Ent)(he:e.is w')(g:∀k,e.blk k->w.heap.size<=k):dQ S w0 w' (e::L):=by
 have b:=h.grow (Sa i);refine⟨b.grew,?_,?_⟩
 ·intro f a;cases a with
 |head=>exact⟨he,λk c=>.inr (axN h.size (g k c))⟩
 |tail _ a=>exact b.all f a
 ·refine .cons (λf a k c d=>?_) b.apart;have:=f.lt (h.mem a) k d;have:=g k c;omega
theorem dQ.alloc {w0 w:ao}{L:List Ent}(h:dQ S w0 w L)(cs:List aq)(T:TypeId):dQ S w0 (w.alloc (.cells cs.toArray T)) (.cells w.heap.size cs T::L):=
 h.add (World.grownBy_alloc w _ aw) _ (heap_alloc_new w _) (λk a=>by cases a;exact auY _)
theorem dQ.TV {L:List Ent}(h:dQ S w0 w L)(o:Obj):dQ S w0 (w.alloc o) (.obj w.heap.size o::L):=
 h.add (World.grownBy_alloc w _ aw) _ (heap_alloc_new w _) (λk a=>by cases a;exact auY _)
structure IT (e e':Ent) (w w':ao):Prop where
 grew:E0 e.blk w w'
 is:e'.is w'
 new:∀k,e'.blk k->e.blk k∨w.heap.size<=k
theorem IT.refl {e:Ent}{w:ao}(h:e.is w):IT e e w w:=⟨E0.refl _ _,h,λ_ a=>.inl a⟩
theorem dQ.turn {L:List Ent}(h:dQ S w0 w L)(i:Nat){e e':Ent}(hi:L[i]?=ax e)(H:IT e e' w w'):dQ S w0 w' (L.set i e'):=by
 obtain⟨r,he,F⟩:=H;have t:i < L.length:=(avL.1 hi).1;have u:L[i]=e:=(avL.1 hi).2;have v:e∈L:=ayQ hi;have g:=azJ.1 h.apart;have m:∀j (d:j < L.length),j≠i->∀k,L[j].blk k->¬e.blk k:=by
  intro j d n k c l;rcases awO j i with y|I
  ·exact g j i d t y k c (by rw[u];exact l)
  ·exact g i j t d om k (by rw[u];exact l) c
 have o:E0 S w0 w':=⟨r.os.trans h.grew.os,r.tape.trans h.grew.tape,r.output.trans h.grew.output,axN h.size r.size,λk c G=>
  (r.block k (axL c h.size) (λz=>((h.all e v).2 k z).elim G (λx=>by omega))).trans (h.grew.block k c G)⟩
 have p:∀j (d:j < L.length),j≠i->L[j].is w':=λj d n=>
  L[j].keep (h.mem (avD d)) λk c=>r.block k (L[j].lt (h.mem (avD d)) k c) (λz=>m j d n k c z)
 refine⟨o,?_,?_⟩
 ·intro f J;obtain⟨j,d,rfl⟩:=axT J;rw[axM] at d;rw[aAf];split
  ·refine⟨he,λk c=>?_⟩;rcases F k c with s|s
   ·exact (h.all e v).2 k s
   ·exact .inr (axN h.size s)
  ·rename_i A
   exact⟨p j d (λe=>A e.symm),(h.all _ (avD d)).2⟩
 ·rw[azJ];intro a b B C D k c;rw[axM] at B C;rw[aAf] at c;rw[aAf];have other:∀j (d:j < L.length),j≠i->∀k,e'.blk k->¬L[j].blk k:=by
   intro j d n k c l;rcases F k c with s|s
   ·exact m j d n k l s
   ·have:=L[j].lt (h.mem (avD d)) k l;omega
  split at c
  ·rename_i q
   subst q;rw[auO om];exact other b C om k c
  ·rename_i q
   split
   ·rename_i E
    subst E;intro l;exact other a B (λe=>q e.symm) k l c
   ·exact g a b B C D k c
theorem dQ.put {L:List Ent}(h:dQ S w0 w L)(i:Nat){e:Ent}(hi:L[i]?=ax e)(a:E0 e.blk w w')(e':Ent)(he:e'.is w')
  (b:∀k,e'.blk k->e.blk k∨w.heap.size<=k):dQ S w0 w' (L.set i e'):=h.turn i hi ⟨a,he,b⟩
theorem dQ.tail {w0 w:ao}{e:Ent}{L:List Ent}(h:dQ S w0 w (e::L)):dQ S w0 w L:=
 ⟨h.grew,λf a=>h.all f (.tail _ a),(ayC.1 h.apart).2⟩
theorem dQ.sub {L L':List Ent}(h:dQ S w0 w L)(a:L'.Sublist L):dQ S w0 w L':=
 ⟨h.grew,λf b=>h.all f (a.subset b),h.apart.sublist a⟩
theorem dQ.done {L:List Ent}(h:dQ NoB w0 w L):Below w0.heap.size w0 w:=h.grew.below
theorem dQ.below {w0 w:ao}{L:List Ent}(h:dQ NoB w0 w L):Below w0.heap.size w0 w:=h.grew.below
theorem dQ.lend {e:Ent}(h:e.is w):dQ e.blk w w [e]:=by
 refine⟨E0.refl _ _,λf a=>?_,List.pairwise_singleton _ _⟩;rcases avB.1 a with rfl|a
 ·exact⟨h,λk b=>.inl b⟩
 ·cases a
theorem dQ.back {e e':Ent}{L:List Ent}(h:dQ e.blk w w' (e'::L)):IT e e' w w':=
 ⟨h.grew,h.mem sm,(h.all e' sm).2⟩
end
def n0 (vs:List aq):Nat:=(RowKit.intOf (vs.getD 0 undef)).toNat
def n1 (vs:List aq):Nat:=(RowKit.intOf (vs.getD 1 undef)).toNat
def n2 (vs:List aq):Nat:=(RowKit.intOf (vs.getD 2 undef)).toNat
theorem aJ {T:TypeId}(h:(Ent.cells b cs T).is w)(a:cs[i]?=ax v):w.cell? ⟨b,i,aw⟩=ax v:=by
 have c:w.heap[b]?=ax (.cells cs.toArray T (0,0)):=h;simp[World.cell?,c,a]
theorem dQ.cell {S:Nat->Prop}{w0 w:ao}{L:List Ent}(h:dQ S w0 w L)(i:Nat){b:Nat}{cs:List aq}{T:TypeId}(hi:L[i]?=ax (.cells b cs T))(j:Nat){v:aq}(a:cs[j]?=ax v):w.cell? ⟨b,j,aw⟩=ax v:=
 aJ (h.at_ i hi) a
theorem dQ.old {L:List Ent}(h:dQ NoB w0 w L){p:Addr}(a:w0.cell? p=ax v):w.cell? p=ax v:=
 (h.below.cell (World.block_lt_of_cell? w0 p a)).trans a
def dP (P:Program)(T:TypeId):Bool:=match P.underlying T with|some (.struct _)=>au|some (.array _ _)=>au|some _=>av|none=>au
section
variable {S:Nat->Prop}{P:Program}{w:ao}{PK:PKT}{K:VWP}
theorem pA {T:TypeId}(b:dP P T=av){a:Addr}(h:w.cell? a=ax v):(loadVar T a).run P w=.ok v w:=by
 unfold dP at b;cases hu:P.underlying T with
|none=>rw[hu] at b;cases b
|some d=>
  rw[hu] at b;cases d<;>first|(cases b;done)|simp[loadVar,isAgg,run_underlying hu,h]
theorem aB {T:TypeId}(b:dP P T=av){a:Addr}(h:w.cell? a=ax v):(aG T (.pointer (ax a))).run P w=.ok (.value v) w:=
 cE (by simp[Instr.loadAt,Instr.sureAddr,pA b h])
theorem aH {T:TypeId}(b:dP P T=av){a:Addr}(h:w.cell? a=ax v):DoX P (aG T (.pointer (ax a))) w PK K=K v w:=aC (aB b h)
theorem bB {m:Sem Next}(mk:Nat->aq)(cs:List aq)(E:TypeId){L:List Ent}(hm:∀w,m.run P w=.ok (.value (mk w.heap.size)) (w.alloc (.cells cs.toArray E)))(a:dQ S w0 w L)
  (k:∀b w',dQ S w0 w' (.cells b cs E::L)->K (mk b) w'):DoX P m w PK K:=
 yO (hm w) (k _ _ (a.alloc cs E))
theorem MW {T:TypeId}{off:Nat}(d:(P.info? T).map (·.size)=ax 1)(c:v.oneCell'=av)(h:w.heap[b]?=ax (.cells cs.toArray E (0,0)))(f:off < cs.length) :
  (Instr.storeAt T (af b off) v).run P w=.ok () (w.setRow b (cs.set off v).toArray):=by
 have g:v.cells=#[v]:=by cases v<;>first|rfl|(cases c;done)
 have a:=run_storeCells_at P b off E [v] 0 cs.toArray w h (by simp;omega) (by simpa using c);obtain⟨i,hi,j⟩:=awZ.1 d;simp only[axA] at a;have e:cs.take off++[v]++cs.drop (off+1)=cs.set off v:=by
  rw[aBs,auP f];simp
 simp[Instr.storeAt,Instr.sureAddr,storeVar,g,sizeOf,typeInfo,hi,j,a];rw[<-e];simp
theorem gN {L:List Ent}(d:dQ S w0 w L)(i:Nat)(hi:L[i]?=ax (.cells b cs E))(a:List aq):dQ S w0 (w.setRow b a.toArray) (L.set i (.cells b a E)):=by
 have h:w.heap[b]?=ax (.cells cs.toArray E (0,0)):=d.at_ i hi;refine d.put i hi (w':=w.setRow b a.toArray) ⟨rfl,rfl,rfl,by simp[World.setRow],λk _ c=>setRow_other w b k _ (λe=>c (by simp[Ent.cells,e]))⟩ (.cells b a E) (setRow_heap w b cs.toArray _ E (0,0) h) (λk c=>.inl c)
theorem aK {L:List Ent}(i:Nat){T:TypeId}{off:Nat}(a:dQ S w0 w L)(hi:L[i]?=ax (.cells b cs E))(c:(P.info? T).map (·.size)=ax 1)(d:v.oneCell'=av)(e:off < cs.length)
  (k:∀w',dQ S w0 w' (L.set i (.cells b (cs.set off v) E))->K undef w'):DoX P (aV T (af b off) v) w PK K:=
 Is (Og (MW c d (a.at_ i hi) e)) (k _ (gN a i hi _))
def Sl (w:ao)(v:aq)(sz n:Nat)(cs:List aq):Prop:=
 cs.length=n*sz∧∃a cap,v=.slice a n cap∧(a=aw->n=0)∧∀p,a=ax p->(0 < n->p.spot=aw)∧∀j u,cs[j]?=ax u->w.cell? ⟨p.block,p.off+j,aw⟩=ax u
theorem Sl.mono {n:Nat}(h:Sl w v sz n cs)(c:∀p u,w.cell? p=ax u->w'.cell? p=ax u):Sl w' v sz n cs:=by
 obtain⟨d,a,cap,e,f,b⟩:=h;exact⟨d,a,cap,e,f,λp hp=>⟨(b p hp).1,λj u g=>c _ _ ((b p hp).2 j u g)⟩⟩
theorem dQ.Tf {L:List Ent}(h:dQ NoB w0 w L){n:Nat}(a:Sl w0 v sz n cs):Sl w v sz n cs:=a.mono λ_ _ hp=>h.old hp
theorem Sl.cells {w:ao}{b:Nat}{cs:List aq}{T:TypeId}(h:(Ent.cells b cs T).is w)(sz n cap:Nat)(a:cs.length=n*sz):Sl w (cW b 0 n cap) sz n cs:=
 ⟨a,ax ⟨b,0,aw⟩,cap,rfl,λh=>(by cases h),λp hp=>by cases hp;exact⟨λ_=>rfl,λj u c=>by rw[avC];exact aJ h c⟩⟩
theorem dQ.sl {L:List Ent}(h:dQ S w0 w L)(i:Nat){T:TypeId}(hi:L[i]?=ax (.cells b cs T))(sz n cap:Nat)(a:cs.length=n*sz):Sl w (cW b 0 n cap) sz n cs:=
 Sl.cells (h.at_ i hi) sz n cap a
theorem Sl.row {w:ao}{T:TypeId}{sz:Nat}{v:aq}{n:Nat}{xs:List aq}(h:(Ent.row T sz v n xs).is w):Sl w v sz n xs:=by
 have a:w.ownsRowF 0 T sz v n xs:=h;refine⟨a.1,?_⟩;rcases a.2 with ⟨rfl,rfl⟩|⟨g,cap,cur,fz,rfl,_⟩
 ·exact⟨aw,0,rfl,λ_=>rfl,λp hp=>by cases hp⟩
 ·refine⟨ax ⟨g,0,aw⟩,cap,rfl,(λh=>by cases h),λp hp=>?_⟩;cases hp;refine⟨λ_=>rfl,λj u b=>?_⟩;have:=World.ownsRowF.cells a (g:=g) rfl j u b;have e:(⟨g,0,aw⟩:Addr).add j=⟨g,0+j,aw⟩:=by unfold Addr.add;split<;>simp_all
  rwa [e] at this
theorem Sl.nil (w:ao)(sz cap:Nat):Sl w (.slice aw 0 cap) sz 0 []:=⟨sm,aw,cap,rfl,λ_=>rfl,λp hp=>by cases hp⟩
theorem aS {T:TypeId}{n:Nat}(h:P.underlying T=ax (.slice E))(b:Sl w v sz n cs):DoX P (mB .len #[T] U cb #[v]) w PK K=K (ad (n:Int)) w:=by
 obtain⟨_,a,cap,rfl,_⟩:=b;refine aC ?_;simp[mB,builtin,Builtin.len_,run_underlying h,goInt]
theorem bP {T:TypeId}{a:Option Addr}{n:Nat}(h:P.underlying T=ax (.slice E)):DoX P (mB .len #[T] U cb #[.slice a n cap]) w PK K=K (ad (n:Int)) w:=by
 refine aC ?_;simp[mB,builtin,Builtin.len_,run_underlying h,goInt]
theorem asQ {T:TypeId}{k:IntKind}{n:Nat}{i:Int}(h:P.underlying T=ax (.slice E))(f:(P.info? E).map (·.size)=ax sz)(l:Sl w v sz n cs)(m:0<=i)(o:i < n)
  (q:∀b off,(∀j u,cs[i.toNat*sz+j]?=ax u->w.cell? ⟨b,off+j,aw⟩=ax u)->K (af b off) w):DoX P (mIA T v (.int k i)) w PK K:=by
 obtain⟨x,a,cap,rfl,r,s⟩:=l;obtain⟨ii,hi,g⟩:=awZ.1 f;cases a with
|none=>have:=r rfl;omega
|some p=>
  obtain⟨c,d⟩:=s p rfl
  replace c:=c om
  obtain⟨b,off,spot⟩:=p;simp only at c d;subst c;refine yO (cE (v:=af b (off+i.toNat*sz)) ?_) (q b (off+i.toNat*sz) λj u t=>by rw[axK];exact d _ _ t);have e:(⟨b,off,aw⟩:Addr).add (i.toNat*sz)=⟨b,off+i.toNat*sz,aw⟩:=by unfold Addr.add;split<;>simp_all
  simp[Instr.indexAt,asIntOf,run_underlying h,m,o,sizeOf,typeInfo,hi,g,e]
theorem cR {T:TypeId}{k:IntKind}{off n:Nat}{i:Int}(h:P.underlying T=ax (.slice E))(a:(P.info? E).map (·.size)=ax sz)(d:0<=i)(f:i < n) :
  (mIA T (cW b off n cap) (.int k i)).run P w=.ok (.value (af b (off+i.toNat*sz))) w:=by
 obtain⟨ii,hi,c⟩:=awZ.1 a;have e:(⟨b,off,aw⟩:Addr).add (i.toNat*sz)=⟨b,off+i.toNat*sz,aw⟩:=by unfold Addr.add;split<;>simp_all
 exact cE (by simp[Instr.indexAt,asIntOf,run_underlying h,d,f,sizeOf,typeInfo,hi,c,e])
theorem bQ {n:Nat}(e:Sl w v sz n cs)(f:0 < n):∃b off cap,v=cW b off n cap∧∀j u,cs[j]?=ax u->w.cell? ⟨b,off+j,aw⟩=ax u:=by
 obtain⟨_,a,cap,rfl,g,h⟩:=e;cases a with
|none=>have:=g rfl;omega
|some p=>
  obtain⟨c,d⟩:=h p rfl
  replace c:=c f
  obtain⟨b,off,spot⟩:=p;simp only at c d;subst c;exact⟨b,off,cap,rfl,d⟩
theorem Lt {T:TypeId}{k:IntKind}{n:Nat}{i:Int}(x:aq)(h:P.underlying T=ax (.slice E))(a:(P.info? E).map (·.size)=ax 1)(c:Sl w v 1 n cs)(e:0<=i)(d:cs[i.toNat]?=ax x)
  (f:∀p,w.cell? p=ax x->K (.pointer (ax p)) w):DoX P (mIA T v (.int k i)) w PK K:=by
 have g:i.toNat < cs.length:=(avL.1 d).1;refine asQ h a c e (by rw[c.1] at g;omega) λb off j=>f _ ?_;have:=j 0 x (by simpa using d);simpa using this
theorem Gr {a:Addr}{K:Ending->ao->Prop}(t1:dP P T1=av)(b:w.cell? a=ax v1)(k:K (.returned v1) w) :
  zu P [.cell (.pointer (ax a)) T1] w K:=
 ⟨_,by simp[HB,RV.read,asAddr,pA t1 b],k⟩
end
end Eng
end
section
open Eng Go.RowKit Go.ChangeShapes Go.WideShapes Go.ChangeAt
def DY (P:Program)(a:List TypeId):Bool:=a.all λt=>P.readableRec t&&ai (t < P.types.size)
theorem Gh {H:Type}{enc:TypeId×aq->H}{P:Program}(f:laidOutB P=av){W g:ao}(i:Below W.heap.size W g) :
  ∀(a:List TypeId) {vs:List aq} {ds:List (DataW H)} {ps:List MemPlace},DY P a=av->DataW.TrodAll enc P W 0 (λ_=>av) av a vs ds ps->(∀x∈ps,x.block < W.heap.size) ->
   DataW.TrodAll enc P g 0 (λb=>ai (b < W.heap.size)) av a vs ds ps
|[],vs,ds,ps,_,h,_=>by
  obtain⟨rfl,rfl,rfl⟩:=trodAll_nil h;exact trodAll_mk0
|t::a,vs,ds,ps,d,h,c=>by
  obtain⟨v0,j,d0,k,n,o,rfl,rfl,rfl,l,m⟩:=trodAll_cons h;simp only[DY,aAv,avM,awG] at d;exact trodAll_cons_mk (Below.trod f d.1.1 d.1.2 l i λx e=>c x (by simp[e])) (Gh f i a (by simpa[DY] using d.2) m λx e=>c x (by simp[e]))
theorem adR {enc:TypeId×aq->H}{f:Func}{s:ChangeSpec}{apart handsOn:Bool}{B:TypeId}(l:laidOutB P=av)(m:DY P f.params.toList=av)(n:f.resultTypes=#[B])(o:P.underlying B=ax .bool)
  {W g:ao} {args:Array aq} {ds gs:List (DataW H)} {before:List MemPlace} (i:s.vars=[]) (b:DataW.Whole enc P f.params.toList s.vars apart W args.toList ds gs before)
  (a:s.fn H (ds++gs)={ results:=[.lit (.bool av)],args:=ds }) (j:Below W.heap.size W g) {fresh:Bool}:s.post enc P f apart fresh handsOn au W args (.bool av) g:=by
 have c:∀x∈before,x.block < W.heap.size:=λx d=>by simpa using b.lt x d
 have e:=b;obtain⟨p,q,r,k,rfl,_,_⟩:=b;rw[i] at k;obtain⟨rfl,rfl⟩:=trodVars_none k;refine⟨ds,[],_,[],p,[],e,?_,?_,?_,j.frame _,λh=>by cases h⟩
 ·rw[a,n];exact trodAll_cons_mk (shut_bool o _) trodAll_mk0
 ·rw[a];exact Gh l j _ m r λx d=>c x (by simp[d])
 ·rw[a,i];rfl
def aiS:DataW Unit->List aq
|.lit (.int k n)=>[.int k n]
|_=>[]
def anB:DataW Unit->List aq
|.agg xs=>xs.flatMap λx=>match x with
 |.agg a=>a.flatMap aiS
 |y=>aiS y
|y=>aiS y
def TB (w:ao)(g:Nat)(cs:List aq):World:=
 { w with heap:=w.heap.modify g λ
  |.cells _ t frozen=>.cells cs.toArray t frozen
  |o=>o }
theorem MX {n:Int}(h:(Lit.int .i64 n).wf=av):-9223372036854775808<=n∧n<=9223372036854775807:=by
 simp only[Lit.wf,avM,awG] at h;exact h
end
namespace Fx
def okB (n:Int):Bool:=ai (-1073741824<=n)&&ai (n<=1073741824)
def ans (n:Int):Int×Int:=if okB n then (n,0) else (0,2)
end Fx
section
namespace Fx
open Go
def alE (c:UInt8):Bool:=ai (48<=c.toNat)&&ai (c.toNat<=57)
def val (n:Int)(l:List UInt8):Int:=l.foldl (λn c=>10*n+((c.toNat:Int) - 48)) n
def whole (l:List UInt8):List UInt8:=l.takeWhile (λc=>c != 46)
def part (l:List UInt8):List UInt8:=(l.dropWhile (λc=>c != 46)).drop 1
def body:List UInt8->List UInt8
|[]=>[]
|c::t=>if c=45∨c=43 then t else c::t
def minus:List UInt8->Bool
|[]=>au
|c::_=>ai (c=45)
def form (l:List UInt8):Bool:=ai (l.length<=40)&&(whole (body l)).all alE&&(part (body l)).all alE&&ai (0 < (whole (body l)).length+(part (body l)).length)
def more (rest:List UInt8)(neg:Bool):Bool:=
 match rest with
|[]=>au
|c::t=>ai (53<=c.toNat)&&(!neg||decide (53 < c.toNat)||t.any (λc=>ai (48 < c.toNat)))
def four (p:List UInt8):List UInt8:=(p++[48,48,48,48]).take 4
def mag (l:List UInt8):Int:=val (val 0 (whole (body l))) (four (part (body l)))+(if more ((part (body l)).drop 4) (minus l) then 1 else 0)
def read (l:List UInt8):Int×Int:=
 if form l then
  if val 0 (whole (body l))>1073741824 then (0,2)
  else ans (if minus l then - mag l else mag l)
 else (0,3)
def tr (l:List UInt8):List UInt8:=Lib.trimRightB l 48
def dg (k:Nat):UInt8:=UInt8.ofNat (48+k)
def rowF:Nat->Nat->Nat->List UInt8->List UInt8
|0,_,_,s=>s
|f+1,n,least,s=>if 0 < n∨s.length < least then rowF f (n / 10) least (dg (n % 10)::s) else s
def row (n least:Nat):List UInt8:=rowF 64 n least []
def atW (n:Nat):List UInt8:=if tr (row (n % 10000) 4)=[] then [48] else tr (row (n % 10000) 4)
def text (n:Int):List UInt8:=if okB n then (if n < 0 then [45] else [])++row (n.natAbs / 10000) 1++[46]++atW n.natAbs else []
end Fx
end
end Go.Proofs.YtkghomgfocpgeaaGreatDoor

namespace Go.Proofs.YtkghomgfocpgeaaGreatDoor
variable{C:ao->Prop}{D E T1 U:TypeId}{H α β:Type}{K:VWP}{L0:Loop}{P:Program}{PK:PKT}{Q Q':Exit->Act->ao->Prop}{S:Nat->Prop}{a hi lo:Int}{aj:List (Nat×List Nat)}{args ca fa:Array aq}{b cap d f i id j sz:Nat}{c v v1:aq}{cb:Array Bool}{cs:List aq}{ds:List Deferred}{fn:Func}{k':IntKind}{l:List Nat}{ms:Array (String×TypeId)}{ops:Array Oper}{ro:Option Nat}{u:FrameMode}{w w' w0:ao}{want:Bool}{xo yo:Operand}
section
open Go
namespace Oc
def Yi:List UInt8:=[0,9,10,12,13,32]
def aoZ:List UInt8:=[40,41,60,62,91,93,123,125,47,37]
def JV (c:UInt8):Bool:=Yi.contains c
def alU (c:UInt8):Bool:=aoZ.contains c
def regular (c:UInt8):Bool:=!JV c&&!alU c
def hexs:List UInt8:=[48,49,50,51,52,53,54,55,56,57,65,66,67,68,69,70]
def hexD (n:Nat):UInt8:=hexs.getD n 0
def hex1 (c:UInt8):List UInt8:=[hexD (c.toNat / 16),hexD (c.toNat % 16)]
def hex (l:List UInt8):List UInt8:=l.flatMap hex1
theorem AN (c:UInt8):∀l:List UInt8,ai (0<=Lib.indexByte l c)=l.contains c
|[]=>by simp[Lib.indexByte]
|b::l=>by
  have f:=AN c l;have hm:-1<=Lib.indexByte l c:=by
   clear f
   induction l with
  |nil=>simp[Lib.indexByte]
  |cons a l f=>
    simp only[Lib.indexByte];split
    ·omega
    ·split<;>omega
  rw[List.contains_cons];by_cases h:b=c
  ·subst h;simp[Lib.indexByte]
  ·have g:(b==c)=false:=by simpa using h
   have i:(c==b)=false:=by simpa using λe:c=b=>h e.symm
   rw[i,aAe,<-f];simp only[Lib.indexByte,g,ayH,if_false];split
   ·rename_i he
    have d:Lib.indexByte l c=-1:=by simpa using he
    rw[d]
   ·rename_i he
    have d:Lib.indexByte l c≠-1:=by simpa using he
    have j:0<=Lib.indexByte l c:=om
    rw[auR j,auR om]
end Oc
namespace Pl
open Oc
def oct (c:UInt8):List UInt8:=[92,UInt8.ofNat (48+c.toNat / 64),UInt8.ofNat (48+c.toNat / 8 % 8),UInt8.ofNat (48+c.toNat % 8)]
def esc (c:UInt8):List UInt8:=if c=40∨c=41∨c=92 then [92,c] else if c.toNat < 32∨126 < c.toNat then oct c else [c]
def str (l:List UInt8):List UInt8:=[40]++l.flatMap esc++[41]
def nmOk (c:UInt8):Bool:=ai (32 < c.toNat)&&ai (c.toNat<=126)&&ai (c≠35)&&!alU c
def nmc (c:UInt8):List UInt8:=if nmOk c then [c] else [35]++hex [c]
def name (l:List UInt8):List UInt8:=[47]++l.flatMap nmc
def pInt (n:Int):List UInt8×Int:=if -2147483647<=n∧n<=2147483647 then (Lib.itoa n,0) else ([],2)
def aqW (n:Int):List UInt8×Int:=if Fx.okB n then (Fx.text n,0) else ([],2)
def pStr (l:List UInt8):List UInt8×Int:=if 32767 < l.length then ([],5) else (str l,0)
def akV (l:List UInt8):List UInt8×Int:=if 127 < l.length then ([],5) else if l.contains 0 then ([],3) else (name l,0)
def tot (ps:List (List UInt8)):Nat:=(ps.map (λp=>p.length+1)).sum
theorem Ol (a b:List (List UInt8)):tot (a++b)=tot a+tot b:=by simp[tot]
theorem jK:∀ps:List (List UInt8),ps.length<=tot ps
|[]=>by simp
|p::ps=>by have:=jK ps;simp only[tot,awY,azK,avR] at this ⊢;omega
end Pl
end
end Go.Proofs.YtkghomgfocpgeaaGreatDoor
