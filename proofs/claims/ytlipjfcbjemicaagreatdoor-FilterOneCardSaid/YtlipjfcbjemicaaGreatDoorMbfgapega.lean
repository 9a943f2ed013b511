/- Texts that go together: EngN Eng EngB EngM EngR EngO LawKit Plain02 Plain02R Plain02B Plain04 EngS. -/
import Derived.StillTail
import Derived.Deep.Quiet
import Derived.OrdersHeld
import Derived.WalkKit
import Derived.Recover
import Derived.TacticsIn
import Derived.OrdersIn
import Derived.RangeFuncLeaves
import Derived.WalkLawsBesides
import Derived.IntWalk
import Derived.Lib.Strings
import Derived.Laws.OwnMore
import Derived.Laws.MakeOwn
import Derived.Lib.FrozenHead2
import Derived.ProofKit
import Derived.OpenShut
import Derived.Carry
import Derived.ChangeSlices
import Derived.Deep.DeepHandedRow
import Derived.Lib.LaidTab
import Derived.Lib.SlTrimSet
import Derived.Lib.TrimByte
import GoSem.Op.String
import Derived.Lib.ItoaNum
import Derived.Lib.ItoaLen
import Derived.Lib.IndexEntry
import Derived.Laws.RangeString
import Derived.Laws.BytesArg
set_option linter.defProp false
set_option linter.unusedSimpArgs false
set_option linter.unusedVariables false
set_option maxRecDepth 20000
open Option renaming some->aw,none->av
open Bool renaming true->au,false->aq
open Go renaming Value->ao,World->ak
open Decidable renaming decide->ai
namespace Go.Proofs
abbrev anW:=@if_neg
abbrev anX:=@if_pos
abbrev anY:=@decide_eq_false
abbrev anZ:=@decide_eq_true
abbrev aoA:=@decide_true
abbrev aoB:=@decide_false
abbrev aoC:=@List.length_append
abbrev aoE:=@List.getD_eq_getElem?_getD
abbrev aoF:=@Int.toNat_natCast
abbrev aoG:=@Nat.le_refl
abbrev aoH:=@List.length_take
abbrev aoI:=@List.getElem?_eq_getElem
abbrev aoJ:=@List.length_drop
abbrev aoL:=@List.append_assoc
abbrev aoM:=@List.mem_cons
abbrev aoN:=@Nat.zero_add
abbrev aoO:=@Nat.zero_le
abbrev aoR:=@List.getElem_mem
abbrev aoS:=@Nat.mul_one
abbrev aoU:=@of_decide_eq_true
abbrev aoV:=@List.append_nil
abbrev aoX:=@List.getElem?_eq_some_iff
abbrev aoY:=@Bool.and_eq_true
abbrev aoZ:=@List.mem_singleton
abbrev apA:=@List.mem_cons_of_mem
abbrev apB:=@List.length_cons
abbrev apC:=@List.length_replicate
abbrev apD:=@Nat.lt_or_ge
abbrev apE:=@List.take_of_length_le
abbrev apF:=@List.mem_append
abbrev apG:=@List.take_succ_eq_append_getElem
abbrev apI:=@Nat.min_eq_left
abbrev apJ:=@Nat.pow_le_pow_right
abbrev apK:=@List.nil_append
abbrev apL:=@List.length_singleton
abbrev apM:=@of_decide_eq_false
abbrev apN:=@List.mem_map
abbrev apO:=@Nat.add_zero
abbrev apP:=@List.length_map
abbrev apQ:=@Nat.mul_le_mul_right
abbrev apR:=@List.drop_eq_nil_of_le
abbrev apS:=@List.take_append_drop
abbrev apT:=@UInt8.toNat_lt
abbrev apU:=@List.mem_cons_self
abbrev apV:=@List.drop_eq_getElem_cons
abbrev apW:=@List.getElem?_cons_succ
abbrev apX:=@List.map_append
abbrev apY:=@decide_eq_true_eq
abbrev apZ:=@List.mem_range
abbrev aqA:=@Nat.mod_eq_of_lt
abbrev aqB:=@List.getElem?_eq_none
abbrev aqC:=@List.flatMap_cons
abbrev aqD:=@Bool.not_false
abbrev aqE:=@decide_eq_false_iff_not
abbrev aqF:=@Bool.not_true
abbrev aqG:=@List.getElem?_drop
abbrev aqH:=@List.drop_zero
abbrev aqI:=@List.not_mem_nil
abbrev aqJ:=@List.take_length
abbrev aqK:=@Nat.sub_self
abbrev aqL:=@List.map_cons
abbrev aqM:=@List.length_set
abbrev aqN:=@Option.map_eq_some_iff
abbrev aqO:=@List.getElem?_append_left
abbrev aqP:=@List.set_cons_zero
abbrev aqQ:=@Nat.le_trans
abbrev aqR:=@List.pairwise_cons
abbrev aqS:=@Nat.pow_succ
abbrev aqU:=@List.all_eq_true
abbrev aqV:=@List.mem_of_mem_take
abbrev aqW:=@Nat.mod_lt
abbrev aqX:=@Nat.succ_mul
abbrev aqY:=@List.take_left'
abbrev aqZ:=@List.eq_of_mem_replicate
abbrev arA:=@Nat.div_div_eq_div_mul
abbrev arB:=@List.getElem?_take
abbrev arC:=@Nat.add_mul
abbrev arD:=@List.getElem?_append_right
abbrev arE:=@List.drop_drop
abbrev arF:=@Nat.eq_zero_or_pos
abbrev arG:=@Nat.mul_comm
abbrev arH:=@Option.some.inj
abbrev arI:=@List.length_pos_iff
abbrev arJ:=@Nat.zero_mul
abbrev arK:=@List.Sublist.refl
abbrev arL:=@List.length_nil
abbrev arM:=@Nat.add_assoc
abbrev arN:=@List.mem_of_getElem?
abbrev arO:=@Nat.lt_of_lt_of_le
abbrev arP:=@List.take_zero
abbrev arQ:=@Nat.mul_le_mul
abbrev arR:=@List.getElem?_set_self
abbrev arS:=@List.length_eq_zero_iff
abbrev arU:=@List.any_eq_true
abbrev arV:=@Option.some.injEq
abbrev arX:=@not_false_eq_true
abbrev arY:=@Nat.div_le_self
abbrev arZ:=@List.mem_of_mem_drop
abbrev asA:=@Prod.mk.injEq
abbrev asB:=@Option.getD_some
abbrev asC:=@List.count_append
abbrev asD:=@List.set_append_right
abbrev asE:=@List.getElem?_map
abbrev asF:=@List.getElem_of_mem
abbrev asG:=@List.eq_nil_of_length_eq_zero
abbrev asI:=@UInt8.toNat_ofNat'
abbrev asJ:=@List.drop_append
abbrev asK:=@List.count_le_length
abbrev asL:=@Array.getElem?_setIfInBounds_ne
abbrev asM:=@List.pairwise_iff_getElem
abbrev asN:=@Bool.false_eq_true
abbrev asO:=@List.sum_cons
abbrev asP:=@UInt8.toNat_inj
abbrev asQ:=@List.pairwise_append
abbrev asR:=@List.take_take
abbrev asS:=@List.range_succ
abbrev asT:=@Bool.and_eq_false_iff
abbrev asU:=@Nat.add_sub_cancel
abbrev asV:=@List.filter_cons
abbrev asW:=@List.Perm.refl
abbrev asX:=@Nat.lt_irrefl
abbrev asY:=@List.map_nil
abbrev asZ:=@Nat.add_sub_cancel_left
abbrev atA:=@Nat.min_le_right
abbrev atB:=@List.map_take
abbrev atC:=@List.flatMap_append
abbrev atD:=@Bool.or_eq_true
abbrev atE:=@Nat.add_comm
abbrev atF:=@List.getElem?_cons_zero
abbrev atG:=@Option.map_some
abbrev atI:=@List.replicate_succ
abbrev atJ:=@List.cons.injEq
abbrev atK:=@List.mem_flatMap
abbrev atL:=@Option.isSome_none
abbrev atM:=@Nat.mul_assoc
abbrev atN:=@List.set_set
abbrev atO:=@List.getElem?_replicate
abbrev atP:=@Nat.two_pow_pos
abbrev atQ:=@List.map_set
abbrev atT:=@List.flatMap_singleton
abbrev atU:=@Array.getElem?_eq_some_iff
abbrev atV:=@Bool.not_eq_true'
abbrev atW:=@Array.mem_of_getElem?
abbrev atX:=@Nat.sub_zero
abbrev atY:=@List.getElem_set
abbrev atZ:=@List.all_cons
abbrev auA:=@List.map_congr_left
abbrev auD:=@List.perm_append_comm
abbrev auE:=@Option.bind_eq_some_iff
abbrev auF:=@Nat.mul_sub_right_distrib
abbrev auG:=@Option.isSome_some
abbrev auH:=@List.drop_of_length_le
abbrev auI:=@List.getElem?_set_ne
abbrev auJ:=@Nat.one_mul
abbrev auK:=@List.mem_or_eq_of_mem_set
abbrev auL:=@List.replicate_succ'
abbrev auM:=@List.nodup_cons
abbrev auN:=@List.cons_append
abbrev auO:=@Nat.eq_of_beq_eq_true
abbrev auP:=@List.map_map
abbrev auQ:=@Bool.decide_and
abbrev auR:=@List.count_singleton
abbrev auS:=@List.getElem_replicate
abbrev auT:=@List.length_filter_le
abbrev auU:=@List.filter_append
abbrev auV:=@List.getElem?_take_of_lt
abbrev auW:=@Array.empty_append
abbrev auX:=@Array.append_empty
abbrev auZ:=@Option.isNone_none
abbrev avA:=@Option.isNone_some
abbrev avB:=@Array.getElem?_modify
abbrev avC:=@List.take_append
abbrev avD:=@List.drop_succ_cons
abbrev avE:=@List.take_append_of_le_length
abbrev avF:=@List.getElem_cons_zero
abbrev avG:=@Bool.or_false
abbrev avH:=@List.take_succ_cons
abbrev avI:=@List.length_range
abbrev avJ:=@List.sum_append
abbrev avK:=@List.getElem_take
abbrev avL:=@Nat.le_of_dvd
abbrev avM:=@Nat.dvd_of_mod_eq_zero
abbrev avN:=@Nat.mod_eq_sub_mod
abbrev avO:=@Bool.eq_false_iff
abbrev avP:=@List.mem_singleton_self
abbrev avQ:=@List.length_eq_one_iff
abbrev avU:=@Array.setIfInBounds_comm
abbrev avV:=@Array.getD_eq_getD_getElem?
abbrev avW:=@Array.ext_getElem?
abbrev avX:=@Array.toArray_toList
abbrev avY:=@List.getElem?_toArray
abbrev avZ:=@Array.getElem?_setIfInBounds_self_of_lt
abbrev awC:=@Int.fdiv_eq_ediv_of_nonneg
abbrev awD:=@List.takeWhile_cons
abbrev awF:=@List.getElem_cons_succ
abbrev awG:=@Int.tdiv_eq_ediv_of_nonneg
abbrev awH:=@Nat.two_pow_add_eq_or_of_lt
abbrev awI:=@List.perm_cons_erase
abbrev awJ:=@List.count_replicate
abbrev awL:=@List.set_eq_take_append_cons_drop
end Go.Proofs
namespace Go.Proofs
theorem om{p:Prop}(h:p:=by omega):p:=h
theorem dc{p:Prop}(h:p:=by decide):p:=h
theorem sm{p:Prop}(h:p:=by simp):p:=h
theorem krx{p:Prop}(h:p:=by kernel_rfl):p:=h
end Go.Proofs
namespace Go.Proofs.YtlipjfcbjemicaaGreatDoor
abbrev PKT:=List PanicEntry->ak->Prop
abbrev VWP:=ao->ak->Prop
variable{B l:List Nat}{C:ak->Prop}{D T1 T2 U:TypeId}{H α β:Type}{K:VWP}{L0:Loop}{P:Program}{Q Q':Exit->Act->ak->Prop}{S:Nat->Prop}{a hi lo:Int}{aj:List (Nat×List Nat)}{args:Array ao}{b cap d f i id j sz:Nat}{c v v1:ao}{cb:Array Bool}{cs:List ao}{ds:List Deferred}{fn:Func}{k':IntKind}{ms:Array (String×TypeId)}{ops:Array Oper}{ro:Option Nat}{u:FrameMode}{w w' w0:ak}{want:Bool}{xo yo:Operand}
section
namespace Eng
section
variable {P:Program}{ops:Array Oper}{md:Region.Mode}{C:ak->Prop}
def Vu (md:Region.Mode)(ops:Array Oper)(n:Nat)(ms:List Nat):Bool:=
 (List.range n).all λi=>ms.contains i||(List.range (n+1)).any λj=>ai (i < j)&&Region.waitsFor md ops j i
structure InvM (md:Region.Mode) (ops:Array Oper) (n:Nat) (ms:List Nat) (listed:Array Bool):Prop where
 head:HeadInv md ops n listed
 moves:∀m∈ms,listed.getD m aq=au
theorem InvM.set {n i:Nat}{ms:List Nat}{listed:Array Bool}(inv:InvM md ops n ms listed)(hi:i∈Region.ready md ops listed)(hin:i < n):InvM md ops n ms (listed.setIfInBounds i au):=
 ⟨inv.head.set hi hin,λm hm=>getD_set_true (inv.moves m hm)⟩
theorem Kd {n:Nat}{ms:List Nat}{listed:Array Bool}(hs:Vu md ops n ms=au)(hc:Region.chainB md ops n=au)(hn:n < ops.size)(inv:InvM md ops n ms listed) :
  ∀(d i:Nat),n - i=d->i < n->listed.getD i au=aq->∀t,n<=t->t ∉ Region.ready md ops listed:=by
 intro d
 induction d using Nat.strongRecOn with
|_ d ih=>
  intro i hd hi hun t ht hr;obtain⟨_,ot,hot,hall⟩:=mem_ready.1 hr;have htlt:t < ops.size:=(atU.1 hot).1;by_cases htn:t=n
  ·subst htn;have h0:=aqU.1 hs i (apZ.2 hi);simp only[atD] at h0;rcases h0 with h0|h1
   ·have:=inv.moves i (by simpa using h0);rw[getD_both hun] at this;cases this
   obtain⟨j,hj,hj2⟩:=arU.1 h1;simp only[aoY,apY] at hj2;obtain⟨oj,hoj,e,he,hb,hon⟩:=Region.waitsFor_spec hj2.2;have hjle:j<=t:=by have:=apZ.1 hj;omega
   by_cases hjt:j=t
   ·subst hjt;have:oj=ot:=arH (hoj.symm.trans hot);subst this;have h2:=hall e he hb;rw[hon,getD_both hun] at h2;cases h2
   ·cases hl:listed.getD j aq with
   |true=>
     have h2:=inv.head.closed j oj hoj hl e he hb;rw[hon,getD_both hun] at h2;cases h2
   |false=>
     have hjs:j < listed.size:=by rw[inv.head.size];omega
     exact ih (t - j) om j rfl om (getD_in hjs hl) t (aoG _) hr
  ·have h1:=aqU.1 hc t (apZ.2 htlt);simp only[atD,apY] at h1;rcases h1 with h1|h1
   ·omega
   ·obtain⟨o',ho',e,he,hb,hon⟩:=Region.waitsFor_spec h1;have:o'=ot:=arH (ho'.symm.trans hot);subst this;have h2:=hall e he hb;rw[hon,getD_both (inv.head.tail (t - 1) om om)] at h2;cases h2
theorem YE {Q Q':Exit->Act->ak->Prop}(hQ:∀e a w,Q e a w->Q' e a w):∀(f:Nat) (listed:Array Bool) (a:Act) (w:ak),wpAny P md ops Q f listed a w->wpAny P md ops Q' f listed a w
|0,_,_,_,h=>⟨h.1,hQ _ _ _ h.2⟩
|f+1,listed,a,w,h=>by
  refine⟨λh0=>hQ _ _ _ (h.1 h0),λi hi=>?_⟩;have h1:=wpOp_mono (λa' w' h'=>YE hQ f _ a' w' h') (h.2 i hi);unfold wpOp at h1 ⊢;split
  ·simpa[*] using h1
  ·rename_i o ho
   simp only[ho] at h1;split
   ·rename_i hw
    simp only[hw,if_true] at h1;rcases h1 with h1|⟨h1,a',w',h2⟩
    ·left;unfold Oper.wp at *;generalize (execOp a.eval o).run P w=r at *;cases r with
    |ok x w'=>
      cases x<;>simp only[Oper.upon] at h1 ⊢<;>first|exact h1|skip
      exact h1.mono λe w'' hc=>by
       cases e with
      |returned u=>exact hc
      |panicked c=>exact hQ _ _ _ hc
      |outgrown=>obtain⟨a',w',h2⟩:=hc;exact⟨a',w',hQ _ _ _ h2⟩
    |halt x w'=>cases x<;>simp only[Oper.upon] at h1 ⊢<;>first|exact h1|exact hQ _ _ _ h1
    ·exact .inr ⟨h1,a',w',hQ _ _ _ h2⟩
   ·rename_i hw;simp only[hw] at h1;exact h1
def B5 (P:Program)(md:Region.Mode)(ops:Array Oper)(C:ak->Prop)(n:Nat)(L:Array Bool->Act->Prop):Nat->Array Bool->Act->Prop
|0,listed,a=>L listed a
|f+1,listed,a=>
  Region.ready md ops listed≠[]∧∀i∈Region.ready md ops listed,i < n∧qOp P ops C i (B5 P md ops C n L f (listed.setIfInBounds i au)) a
theorem nC {n g:Nat}{L:Array Bool->Act->Prop}{Q':Exit->Act->ak->Prop}(hL:∀listed a w,C w->L listed a->wpAny P md ops Q' g listed a w) :
  ∀(f:Nat) (listed:Array Bool) (a:Act) (w:ak),C w->B5 P md ops C n L f listed a->wpAny P md ops Q' (f+g) listed a w
|0,listed,a,w,hC,h=>by rw[aoN];exact hL _ _ _ hC h
|f+1,listed,a,w,hC,h=>by
  rw[show f+1+g=(f+g)+1 by omega];exact⟨λh0=>absurd h0 h.1,λi hi=>wpOp_of_qOp hC (λa' w' hw' h'=>nC hL f _ a' w' hw' h') (h.2 i hi).2⟩
theorem KJ {n:Nat}{ms:List Nat}{oi:Oper}{L:Array Bool->Act->Prop}(hi:ops[i]?=aw oi)(hsel:∀(j:Nat) (o:Oper) cs b,ops[j]?=aw o->o.op≠.select cs b)
  (hs:Vu md ops n ms=au) (hc:Region.chainB md ops n=au) (hn:n < ops.size) (hin:i < n)
  (hdone:∀listed a,L listed a->∀j∈Region.ready md ops listed,n<=j) :
  ∀(f:Nat) (listed:Array Bool) (a:Act),InvM md ops n ms listed ->
   (∀j oj,ops[j]?=aw oj->j≠i->listed.getD j au=aq->(∀e∈oj.after,Region.binds md e=au->e.on≠i)->oi.apart ops oj=au) ->
   i∈Region.ready md ops listed->YieldsIn P ops C oi v a ->
   B5 P md ops C n L f (listed.setIfInBounds i au) (a.put oi.dst v)->B5 P md ops C n L (f+1) listed a:=by
 intro f
 induction f with
|zero=>
  intro listed a inv _ hr hy H;have hun:=(mem_ready.1 hr).1;refine⟨λh=>(by rw[h] at hr;cases hr),λj hj=>?_⟩;have hjn:j < n:=by
   rcases apD j n with h|h
   ·exact h
   ·exact absurd hj (Kd hs hc hn inv _ i rfl hin hun j h)
  refine⟨hjn,?_⟩;by_cases hji:j=i
  ·subst hji;exact hy.qOp hi H
  ·have:=hdone _ _ H j (ready_mono hj hji);omega
|succ f ih=>
  intro listed a inv hfree hr hy H;have hun:=(mem_ready.1 hr).1;refine⟨λh=>(by rw[h] at hr;cases hr),λj hj=>?_⟩;have hjn:j < n:=by
   rcases apD j n with h|h
   ·exact h
   ·exact absurd hj (Kd hs hc hn inv _ i rfl hin hun j h)
  refine⟨hjn,?_⟩;by_cases hji:j=i
  ·subst hji;exact hy.qOp hi H
  ·have h1:=(H.2 j (ready_mono hj hji)).2;obtain⟨hjun,oj,hoj,hall⟩:=mem_ready.1 hj;have hnot:∀e∈oj.after,Region.binds md e=au->e.on≠i:=λe he hb heq=>by
    have h1:=hall e he hb;rw[heq,getD_both hun] at h1;cases h1
   have h2:=qOp_put hoj (hfree j oj hoj hji hjun hnot) (λcs b=>hsel i oi cs b hi) (λcs b=>hsel j oj cs b hoj) hy h1;have hfree':∀k ok,ops[k]?=aw ok->k≠i->(listed.setIfInBounds j au).getD k au=aq ->
     (∀e∈ok.after,Region.binds md e=au->e.on≠i)->oi.apart ops ok=true:=λk ok hk hki hun hno=>by
    refine hfree k ok hk hki ?_ hno;by_cases hjk:j=k
    ·subst hjk;exact hjun
    ·rw[getD_set_ne au hjk] at hun;exact hun
   refine qOp_mono (λa' h3=>ih (listed.setIfInBounds j au) a' (inv.set hj hjn) hfree' (ready_mono hr (Ne.symm hji)) h3.1 ?_) h2;rw[avU _ _ hji];exact h3.2
def Fc (md:Region.Mode)(ops:Array Oper)(g n:Nat):List (Nat×Oper)->Array Bool->Bool
|[],listed=>Region.seqB md ops g n listed
|(k,_)::r,listed=>(Region.ready md ops listed).contains k&&Region.free md ops listed k&&ai (k < n)&&Fc md ops g n r (listed.setIfInBounds k au)
def snds:List (Nat×Oper)->List Oper
|[]=>[]
|p::l=>p.2::snds l
def fsts:List (Nat×Oper)->List Nat
|[]=>[]
|p::l=>p.1::fsts l
theorem AM {n g:Nat}{ms:List Nat}{Lq:Act->Prop}(hsel:Region.noSelect ops=au)(hs:Vu md ops n ms=au)(hc:Region.chainB md ops n=au)(hn:n < ops.size) :
  ∀(l:List (Nat×Oper)) (listed:Array Bool) (a:Act),(∀p∈l,ops[p.1]?=aw p.2)->InvM md ops n ms listed ->
  Fc md ops g n l listed=au->wpQuiet P ops C Lq (snds l) a ->
  B5 P md ops C n (λlisted' a'=>Region.seqB md ops g n listed'=au∧Lq a') l.length listed a
|[],listed,a,_,inv,hB,h=>⟨hB,h⟩
|(k,o)::l,listed,a,hl,inv,hB,h=>by
  have h0:ops[k]?=aw o:=hl (k,o) sm;simp only[Fc,aoY,apY] at hB;obtain⟨⟨⟨hr,hf⟩,hkn⟩,hB'⟩:=hB;have hr':k∈Region.ready md ops listed:=by simpa using hr
  have hst:qOp P ops C k (wpQuiet P ops C Lq (snds l)) a:=by unfold qOp;simp only[h0];exact h
  obtain⟨v,hy,hK⟩:=yieldsIn_of_qOp h0 hst;exact KJ h0 (Region.noSelect_spec hsel) hs hc hn hkn (λlisted' a' hL=>seqB_ready hL.1) l.length listed a inv (Region.free_spec h0 hf) hr' hy
   (AM hsel hs hc hn l _ _ (λp hp=>hl p (by simp[hp])) (inv.set hr' hkn) hB' hK)
def isMv (o:Oper):Bool:=
 match o.op with
|.move _|.assign _=>match o.guard with
 |none=>au
 |some _=>aq
|_=>aq
def Q3 (md:Region.Mode)(ops:Array Oper)(n:Nat):List (Nat×Oper)->Array Bool->Option (Array Bool)
|[],listed=>aw listed
|(k,o)::r,listed=>if (Region.ready md ops listed).contains k&&Region.free md ops listed k&&ai (k < n)&&isMv o then Q3 md ops n r (listed.setIfInBounds k au) else av
def PT (o:Oper)(a:Act):Value:=
 match o.op with
|.move x|.assign x=>a.eval x
|_=>undef
def jU:List (Nat×Oper)->Act->Act
|[],a=>a
|(_,o)::r,a=>jU r (a.put o.dst (PT o a))
theorem VC {o:Oper}(h:isMv o=au)(a:Act):Yields P ops o (PT o a) a:=by
 unfold isMv at h;left;split at h
 ·rename_i x hx
  split at h
  ·rename_i hg
   refine⟨by simp[Region.wanted,hg],λw=>?_⟩;rw[show execOp a.eval o=pure (.value (a.eval x)) by unfold execOp;rw[hx]];simp only[PT,hx];rfl
  ·cases h
 ·rename_i x hx
  split at h
  ·rename_i hg
   refine⟨by simp[Region.wanted,hg],λw=>?_⟩;rw[show execOp a.eval o=pure (.value (a.eval x)) by unfold execOp;rw[hx]];simp only[PT,hx];rfl
  ·cases h
 ·cases h
theorem Ky {n:Nat}{Q:Exit->Act->ak->Prop}{fuel:Nat}(hsel:Region.noSelect ops=au)(ms0:List Nat):∀(ms:List (Nat×Oper)) (listed listed':Array Bool) (a:Act) (w:ak),(∀p∈ms,ops[p.1]?=aw p.2)->Q3 md ops n ms listed=aw listed' ->
  (∀p∈ms,∀v c a w,Q (.panic c) (a.put p.2.dst v) w->Q (.panic c) a w) ->
  InvM md ops n ms0 listed->(InvM md ops n (fsts ms++ms0) listed'->wpAny P md ops Q fuel listed' (jU ms a) w)->wpAny P md ops Q (ms.length+fuel) listed a w
|[],listed,listed',a,w,_,ht,_,inv,h=>by
  cases ht;rw[arL,aoN];exact h inv
|(k,o)::ms,listed,listed',a,w,hl,ht,hQ,inv,h=>by
  have h0:ops[k]?=aw o:=hl (k,o) sm;unfold Q3 at ht;split at ht
  ·rename_i hc
   simp only[aoY,apY] at hc;obtain⟨⟨⟨hr,hf⟩,hkn⟩,hmv⟩:=hc;have hr':k∈Region.ready md ops listed:=by simpa using hr
   have hks:k < listed.size:=by rw[inv.head.size];exact (atU.1 h0).1
   rw[apB,show ms.length+1+fuel=ms.length+fuel+1 by omega];refine wpAny_take h0 hsel hf hr (hQ (k,o) sm _) (VC hmv a) ?_;refine Ky hsel (k::ms0) ms _ listed' _ w (λp hp=>hl p (by simp[hp])) ht (λp hp=>hQ p (by simp[hp])) ⟨inv.head.set hr' hkn,λm hm=>?_⟩ (λinv'=>h ⟨inv'.head,λm hm=>inv'.moves m ?_⟩)
   ·rcases aoM.1 hm with rfl|hm
    ·simp[hks]
    ·exact getD_set_true (inv.moves m hm)
   ·simp only[fsts,auN,aoM,apF] at hm ⊢;rcases hm with h|h|h
    ·exact .inr (.inl h)
    ·exact .inl h
    ·exact .inr (.inr h)
  ·cases ht
def NU (ops:Array Oper)(n:Nat)(ms hs:List (Nat×Oper)):Bool:=
 Region.noSelect ops&&ai (n < ops.size)&&Vu .any ops n (fsts ms++[])&&Region.chainB .any ops n&&ai (ms.length+hs.length=n) &&
  (match Q3 .any ops n ms (Array.replicate ops.size aq) with
 |some listed=>Fc .any ops (ops.size - n) n hs listed
 |none=>aq)
theorem KO {a:Act}{l:List Oper}(n:Nat)(ms hs:List (Nat×Oper))(hB:NU l.toArray n ms hs=au)(hC:C { w with drawn:=w.drawn+1 })
  (hms:∀p∈ms,l.toArray[p.1]?=aw p.2) (hhs:∀p∈hs,l.toArray[p.1]?=aw p.2) (hQQ:∀e a w,Q' e a w->Q e a w)
  (hQ:∀p∈ms,∀v c a w,Q' (.panic c) (a.put p.2.dst v) w->Q' (.panic c) a w)
  (h:wpQuiet P l.toArray C (λa'=>∀w',C w'->wpList P l.toArray Q' (l.drop n) a' w') (snds hs) (jU ms a)):wpAny P .any l.toArray Q l.toArray.size (Array.replicate l.toArray.size aq) a { w with drawn:=w.drawn+1 }:=by
 simp only[NU,aoY,apY] at hB;obtain⟨⟨⟨⟨⟨hsel,hn⟩,hsk⟩,hc⟩,hlen⟩,hlex⟩:=hB;split at hlex
 ·rename_i listed' htk
  have inv0:InvM .any l.toArray n [] (Array.replicate l.toArray.size aq):=
   ⟨⟨sm,λj oj _ hl=>(by rw[getD_replicate_false] at hl;cases hl),λt _ ht=>getD_in (by simpa using ht) (getD_replicate_false _ _)⟩,λm hm=>by cases hm⟩
  have hn':n < l.length:=by simpa using hn
  have hdl:(l.drop n).length=l.toArray.size - n:=sm
  refine YE hQQ _ _ _ _ ?_;have e:l.toArray.size=ms.length+(hs.length+(l.toArray.size - n)):=om
  rw[e];rw[<-e];have H:=Ky (P:=P) (md:=.any) (fuel:=hs.length+(l.toArray.size - n)) hsel [] ms (Array.replicate l.toArray.size aq) listed' a { w with drawn:=w.drawn+1 } hms htk hQ inv0 (λinv'=>by
   have H2:=AM (P:=P) (md:=.any) (g:=l.toArray.size - n) hsel hsk hc hn hs listed' (jU ms a) hhs inv' hlex h;exact nC (Q':=Q') (g:=l.toArray.size - n) (λlisted a' w' hw' hL=>by
    have:=wpAny_of_seq (md:=.any) (Q':=Q') (l.drop n) n listed a' w' (λj=>by simp[aqG]) (by rw[hdl];exact hL.1) (hL.2 w' hw')
    rwa [hdl] at this) _ _ _ _ hC H2)
  rw[<-e] at H;exact H
 ·cases hlex
def JZ (P:Program)(ops:Array Oper)(L:Act->Prop):List (Nat×Oper)->Act->Prop
|[],a=>L a
|p::r,a=>∃v,Yields P ops p.2 v a∧JZ P ops L r (a.put p.2.dst v)
def Sh (md:Region.Mode)(ops:Array Oper)(n:Nat):List (Nat×Oper)->Array Bool->Option (Array Bool)
|[],listed=>aw listed
|(k,_)::r,listed=>if (Region.ready md ops listed).contains k&&Region.free md ops listed k&&ai (k < n) then Sh md ops n r (listed.setIfInBounds k au) else av
theorem HF {n:Nat}{Q:Exit->Act->ak->Prop}{fuel:Nat}{L:Act->Prop}(hsel:Region.noSelect ops=au)(ms0:List Nat):∀(ms:List (Nat×Oper)) (listed listed':Array Bool) (a:Act) (w:ak),(∀p∈ms,ops[p.1]?=aw p.2)->Sh md ops n ms listed=aw listed' ->
  (∀p∈ms,∀v c a w,Q (.panic c) (a.put p.2.dst v) w->Q (.panic c) a w) ->
  InvM md ops n ms0 listed->(InvM md ops n (fsts ms++ms0) listed'->∀a',L a'->wpAny P md ops Q fuel listed' a' w)->JZ P ops L ms a->wpAny P md ops Q (ms.length+fuel) listed a w
|[],listed,listed',a,w,_,ht,_,inv,h,hL=>by
  cases ht;rw[arL,aoN];exact h inv a hL
|(k,o)::ms,listed,listed',a,w,hl,ht,hQ,inv,h,hL=>by
  have h0:ops[k]?=aw o:=hl (k,o) sm;obtain⟨v,hy,hL⟩:=hL;unfold Sh at ht;split at ht
  ·rename_i hc
   simp only[aoY,apY] at hc;obtain⟨⟨hr,hf⟩,hkn⟩:=hc;have hr':k∈Region.ready md ops listed:=by simpa using hr
   have hks:k < listed.size:=by rw[inv.head.size];exact (atU.1 h0).1
   rw[apB,show ms.length+1+fuel=ms.length+fuel+1 by omega];refine wpAny_take h0 hsel hf hr (hQ (k,o) sm _) hy ?_;refine HF hsel (k::ms0) ms _ listed' _ w (λp hp=>hl p (by simp[hp])) ht (λp hp=>hQ p (by simp[hp])) ⟨inv.head.set hr' hkn,λm hm=>?_⟩ (λinv'=>h ⟨inv'.head,λm hm=>inv'.moves m ?_⟩) hL
   ·rcases aoM.1 hm with rfl|hm
    ·simp[hks]
    ·exact getD_set_true (inv.moves m hm)
   ·simp only[fsts,auN,aoM,apF] at hm ⊢;rcases hm with h|h|h
    ·exact .inr (.inl h)
    ·exact .inl h
    ·exact .inr (.inr h)
  ·cases ht
def QC (ops:Array Oper)(n:Nat)(ms hs:List (Nat×Oper)):Bool:=
 Region.noSelect ops&&ai (n < ops.size)&&Vu .any ops n (fsts ms++[])&&Region.chainB .any ops n&&ai (ms.length+hs.length=n) &&
  (match Sh .any ops n ms (Array.replicate ops.size aq) with
 |some listed=>Fc .any ops (ops.size - n) n hs listed
 |none=>aq)
def noG:List (Nat×Oper)->Bool
|[]=>au
|p::r=>p.2.guard.isNone&&noG r
def RT (ops:Array Oper)(n:Nat)(ms hs:List (Nat×Oper)):Bool:=noG ms&&QC ops n ms hs
theorem KI {a:Act}{l:List Oper}(n:Nat)(ms hs:List (Nat×Oper))(hB:RT l.toArray n ms hs=au)(hC:C { w with drawn:=w.drawn+1 })
  (hms:∀p∈ms,l.toArray[p.1]?=aw p.2) (hhs:∀p∈hs,l.toArray[p.1]?=aw p.2) (hQQ:∀e a w,Q' e a w->Q e a w)
  (hQ:∀p∈ms,∀v c a w,Q' (.panic c) (a.put p.2.dst v) w->Q' (.panic c) a w)
  (h:JZ P l.toArray (λa=>wpQuiet P l.toArray C (λa'=>∀w',C w'->wpList P l.toArray Q' (l.drop n) a' w') (snds hs) a) ms a):wpAny P .any l.toArray Q l.toArray.size (Array.replicate l.toArray.size aq) a { w with drawn:=w.drawn+1 }:=by
 replace hB:=(aoY _ _▸(show (noG ms&&QC l.toArray n ms hs)=au from hB):_∧_).2
 simp only[QC,aoY,apY] at hB;obtain⟨⟨⟨⟨⟨hsel,hn⟩,hsk⟩,hc⟩,hlen⟩,hlex⟩:=hB;split at hlex
 ·rename_i listed' htk
  have inv0:InvM .any l.toArray n [] (Array.replicate l.toArray.size aq):=
   ⟨⟨sm,λj oj _ hl=>(by rw[getD_replicate_false] at hl;cases hl),λt _ ht=>getD_in (by simpa using ht) (getD_replicate_false _ _)⟩,λm hm=>by cases hm⟩
  have hdl:(l.drop n).length=l.toArray.size - n:=sm
  refine YE hQQ _ _ _ _ ?_;have e:l.toArray.size=ms.length+(hs.length+(l.toArray.size - n)):=om
  rw[e];rw[<-e];have H:=HF (P:=P) (md:=.any) (fuel:=hs.length+(l.toArray.size - n)) hsel [] ms (Array.replicate l.toArray.size aq) listed' a { w with drawn:=w.drawn+1 } hms htk hQ inv0 (λinv' a' hq=>by
   have H2:=AM (P:=P) (md:=.any) (g:=l.toArray.size - n) hsel hsk hc hn hs listed' a' hhs inv' hlex hq;exact nC (Q':=Q') (g:=l.toArray.size - n) (λlisted a' w' hw' hL=>by
    have:=wpAny_of_seq (md:=.any) (Q':=Q') (l.drop n) n listed a' w' (λj=>by simp[aqG]) (by rw[hdl];exact hL.1) (hL.2 w' hw')
    rwa [hdl] at this) _ _ _ _ hC H2) h
  rw[<-e] at H;exact H
 ·cases hlex
end
end Eng
end
section
namespace Eng
open Go.RowKit
abbrev Sg:=Nat->ao
abbrev bc {α:Sort _}(b:Bool)(x y:α):α:=match b with|true=>x|false=>y
theorem aF {α:Sort _}{x y:α}:bc au x y=x:=rfl
theorem aE {α:Sort _}{x y:α}:bc aq x y=y:=rfl
def upd (σ:Sg)(d:Nat)(v:ao):Sg:=λi=>bc (Nat.beq i d) v (σ i)
def put (σ:Sg):Option Nat->ao->Sg
|some d,v=>upd σ d v
|none,_=>σ
def rd (σ:Sg):Operand->ao
|.tmp t=>σ t
|.const v=>v
|.global g=>.pointer (aw ⟨g,0,av⟩)
|.func f=>.func (.func f) #[] #[]
def inB (n:Nat):Option Nat->Bool
|some d=>Nat.blt d n
|none=>au
structure Rep (n:Nat) (σ:Sg) (t:Array ao):Prop where
 size:t.size=n
 get:∀i,t.getD i undef=σ i
theorem Rep.put {n:Nat}{σ:Sg}{a:Act}(h:Rep n σ a.tmps){d:Option Nat}(hd:inB n d=au)(v:ao):Rep n (put σ d v) (a.put d v).tmps:=by
 cases d with
|none=>exact h
|some d=>
  have hd':d < a.tmps.size:=by rw[h.size];simpa[inB,Nat.blt_eq] using hd
  refine⟨by simpa[Act.put] using h.size,λi=>?_⟩;have:=h.get i;simp only[Act.put,Eng.put,upd];by_cases hi:i=d
  ·subst hi;simp[hd']
  ·have hb:Nat.beq i d=false:=by
    cases hb:Nat.beq i d
    ·rfl
    ·exact absurd (auO hb) hi
   rw[hb,aE,<-this];simp[avV,Ne.symm hi]
theorem Rep.eval {n:Nat}{σ:Sg}{a:Act}(h:Rep n σ a.tmps):a.eval=rd σ:=by
 funext x
 cases x with
|tmp t=>exact h.get t
|_=>rfl
def Cont (K:VWP)(PK:PKT):Ending->ak->Prop
|.returned v,w=>K v w
|.panicked c,w=>PK c w
|.outgrown,_=>False
abbrev Fr (ro:Option Nat):Fence:={ Fence.wide with round:=ro }
theorem Mi {n:Nat}{f:FuncId}{R:Ending->ak->Prop}:CallsIn (Fr ro) n P f args w R↔Calls P f args w R:=
 callsIn_wide (n:=n)
structure RdX (P:Program) (l:Nat) (f:FuncId) (tmps:Array ao) (assign body:Code) (w:ak) (R:Ending->ak->Prop):Prop where
 mk ::
 out:RoundIn Fence.wide 0 P l f tmps assign body w R
structure CallX (P:Program) (f:Nat) (args:Array ao) (w:ak) (PK:PKT) (K:VWP):Prop where
 mk ::
 out:Calls P f args w (Cont K PK)
def Upon (P:Program)(r:Result Next)(K:VWP)(PK:PKT):Prop:=
 match r with
|.ok (.value v) w=>K v w
|.ok .skip w=>K undef w
|.ok (.enter f args) w=>CallX P f args w PK K
|.ok (.round l f tmps assign body) w=>RdX P l f tmps assign body w (Cont K PK)
|.halt (.panic v) w=>PK [{ v,recovered:=aq }] w
|_=>False
structure DoX (P:Program) (m:Sem Next) (w:ak) (PK:PKT) (K:VWP):Prop where
 mk ::
 out:Upon P (m.run P w) K PK
def bZ (P:Program)(f:Nat):Bool:=
 match P.funcs[f]? with
|some fn=>!(fn.name=="runtime.NumGoroutine")&&fn.body.isSome
|none=>aq
theorem nY (h:bZ P f=au)(args:Array ao)(w:ak):(callFunc f args).run P w=.ok (.enter f args) w:=by
 unfold bZ at h;cases hf:P.funcs[f]? with
|none=>rw[hf] at h;cases h
|some fn=>
  rw[hf] at h;simp only[aoY,atV] at h;obtain⟨h1,h2⟩:=h;have h3:fn.body.isNone=false:=by cases hb:fn.body<;>simp_all
  have h1':fn.name≠"runtime.NumGoroutine":=by simpa using h1
  have h3':fn.body≠none:=by intro hc;rw[hc] at h3;cases h3
  simp[callFunc,hf,h1',h3',program,Sem.run,bind,Sem.bind,pure]
def amap {α β:Type}(f:α->β)(a:Array α):Array β:=(a.toList.map f).toArray
theorem DV (f:α->β)(a:Array α):amap f a=a.map f:=by
 apply Array.ext';simp[amap]
def mv (s:Sem ao):Sem Next:=do pure (.value (<-s))
def mu (s:Sem Unit):Sem Next:=do s;pure .skip
def Dv (T:TypeId):=mv (Instr.alloc T au (.tuple #[]))
def mBox (T:TypeId)(x:ao):=mv (Instr.box T x)
def bA (T:TypeId)(ps:Array (Nat×ao)):=mv (Instr.build T ps)
def bF (T:TypeId)(n:Nat)(ps:Array (Nat×ao)):=mv (Instr.buildSlice T n ps)
def aJ (T:TypeId)(a:ao):=mv (Instr.loadAt T a)
def aV (T:TypeId)(a x:ao):=mu (Instr.storeAt T a x)
def ajV (g:Nat):=mu (Instr.ready g)
def agD (g:Nat):=mv (Instr.waits g)
def mNil (x:ao):Sem Next:=execOp (λ_=>x) { dst:=av,op:=.nilCheck (.tmp 0),type:=0,pos:="",after:=#[],guard:=av }
def eH (c a b:ao):Sem Next:=do pure (.value (if <-asBool c then a else b))
def mBin (op:BinOp)(T:TypeId)(x y:ao):=mv (binOp op T x y)
def mEq (op:BinOp)(T:TypeId)(xo yo:Operand)(x y:ao):=mv (do eqGuard op T xo yo x y;binOp op T x y)
def mUn (op:UnOp)(x:ao):=mv (Op.unary op x)
def fA (S D:TypeId)(x:ao):=mv (convert S D x)
def mSAP (D:TypeId)(x:ao):=mv (Instr.arrayAt D x)
def ZC (T:TypeId)(x:ao):=mv (Instr.makeInterface T x)
def TV (fn:Fn)(first cap:Array ao):=mv (Instr.makeFunc fn first cap)
def mMap (T:TypeId)(r:Option ao):=mv (Instr.makeMap T r)
def H4 (T:TypeId)(l c:ao):=mv (Instr.makeSlice T l c)
def cM (T:TypeId)(x:ao)(lo hi mx:Option ao):=mv (Instr.sliceAt T x lo hi mx)
def mFA (T:TypeId)(x:ao)(f:Nat):=mv (Instr.fieldAt T x f)
def mFld (T:TypeId)(x:ao)(f:Nat):=mv (Instr.field T x f)
def mIA (T:TypeId)(x i:ao):=mv (Instr.indexAt T x i)
def mIx (T:TypeId)(x i:ao):=mv (Instr.index T x i)
def Wn (T:TypeId)(x i:ao)(ok:Bool):=mv (Instr.lookup T x i ok)
def Vw (T:TypeId)(m k v:ao):=mu (Instr.mapUpdate T m k v)
def alC (T:TypeId)(m k:ao):=mv (Instr.mapEntry T m k)
def alR (T:TypeId)(m s v:ao):=mu (Instr.entryStore T m s v)
def ajX (T:TypeId)(x:ao):=mv (Instr.range T x)
def akZ (it:ao)(str:Bool)(ty:TypeId):=mv (Instr.next it str ty)
def ahS (it:ao):=mv (Instr.entry it)
def mTA (x:ao)(xT T:TypeId)(ok:Bool):=mv (Instr.typeAssert x xT T ok)
def mExt (t:ao)(i:Nat):=mv (Instr.extract t i)
def Ho (x:ao):=mv (Instr.panic x)
def mB (b:Builtin)(ats:Array TypeId)(ty:TypeId)(cs:Array Bool)(vs:Array ao):Sem Next:=builtin b ats ty cs vs
def gK (f:ao)(args:Array ao):Sem Next:=do let d <-Deferred.ofValue f args;invoke d.target d.args
def mInv (name:String)(r:ao)(args:Array ao):Sem Next:=invoke (.fn (.method name) #[]) (#[r]++args)
def isEq:BinOp->Bool
|.eql|.neq=>au
|_=>aq
def isLit:Operand->Bool
|.const _=>au
|_=>aq
def Im (ρ:Operand->ao)(o:Oper):Sem Next:=
 match o.op with
|.alloc T=>Dv T
|.box T x=>mBox T (ρ x)
|.build T ps=>bA T (amap (λp=>(p.1,ρ p.2)) ps)
|.buildSlice T n ps=>bF T n (amap (λp=>(p.1,ρ p.2)) ps)
|.load T a=>aJ T (ρ a)
|.store T a x=>aV T (ρ a) (ρ x)
|.ready g=>ajV g
|.waits g=>agD g
|.nilCheck x=>mNil (ρ x)
|.pick c a b=>eH (ρ c) (ρ a) (ρ b)
|.binOp op T x y _=>bc (isEq op) (mEq op T x y (ρ x) (ρ y)) (mBin op T (ρ x) (ρ y))
|.unOp op _ x=>mUn op (ρ x)
|.convert S D x=>fA S D (ρ x)
|.sliceToArrayPointer D x=>mSAP D (ρ x)
|.makeInterface T x=>ZC T (ρ x)
|.makeFunc fn first cap=>TV fn (amap ρ first) (amap ρ cap)
|.makeMap T r=>mMap T (r.map ρ)
|.makeSlice T l c=>H4 T (ρ l) (ρ c)
|.slice T x lo hi mx=>cM T (ρ x) (lo.map ρ) (hi.map ρ) (mx.map ρ)
|.fieldAddr T x f=>mFA T (ρ x) f
|.field T x f=>mFld T (ρ x) f
|.indexAddr T x i=>mIA T (ρ x) (ρ i)
|.index T x i=>mIx T (ρ x) (ρ i)
|.lookup T x i ok=>Wn T (ρ x) (ρ i) ok
|.mapUpdate T m k v=>Vw T (ρ m) (ρ k) (ρ v)
|.insert T m k v=>Vw T (ρ m) (ρ k) (ρ v)
|.mapEntry T m k=>alC T (ρ m) (ρ k)
|.entryStore T m s v=>alR T (ρ m) (ρ s) (ρ v)
|.range T x=>ajX T (ρ x)
|.next it str=>akZ (ρ it) str o.type
|.entry it=>ahS (ρ it)
|.typeAssert x xT T ok=>mTA (ρ x) xT T ok
|.extract t i=>mExt (ρ t) i
|.panic x=>Ho (ρ x)
|.call { callee:=.builtin b,args,argTypes }=>mB b argTypes o.type (amap isLit args) (amap ρ args)
|.call { callee:=.value f,args,.. }=>gK (ρ f) (amap ρ args)
|.call { callee:=.invoke r name,args,.. }=>mInv name (ρ r) (amap ρ args)
|_=>execOp ρ o
theorem xK (ρ:Operand->ao)(o:Oper):Im ρ o=execOp ρ o:=by
 obtain⟨dst,op,ty,pos,after,guard⟩:=o;unfold Im;simp only[DV];cases op with
|binOp op T x y T'=>cases op<;>rfl
|call c=>
  obtain⟨callee,args,ats⟩:=c;cases callee with
 |value f=>rfl
 |invoke r n=>rfl
 |builtin b=>rfl
|_=>rfl
def opV (P:Program)(o:Oper)(σ:Sg)(w:ak)(K:VWP)(PK:PKT):Prop:=
 match o.op with
|.move x|.assign x=>K (rd σ x) w
|.call { callee:=.value (.func f),args,.. }=>bc (bZ P f) (CallX P f (amap (rd σ) args) w PK K) (DoX P (Im (rd σ) o) w PK K)
|.defer _=>False
|_=>DoX P (Im (rd σ) o) w PK K
def kF (v:ao)(want:Bool):Bool:=
 match v with
|.bool b=>b==want
|_=>aq
def NH (ops:Array Oper)(j:Nat):Option Nat:=(ops[j]?).bind (·.dst)
structure GDo (v:ao) (want:Bool) (E:(VWP)->Prop) (w:ak) (K:VWP):Prop where
 mk ::
 out:bc (kF v want) (E K) (K undef w)
abbrev Nx:=Sg->List Deferred->ak->Prop
def dfr (σ:Sg)(c:Call):Option Deferred:=
 match c.callee with
|.value (.func f)=>aw { target:=.fn (.func f) #[],args:=amap (rd σ) c.args }
|.value x=>match rd σ x with
 |.func fn first captured=>aw { target:=.fn fn captured,args:=first++amap (rd σ) c.args }
 |_=>av
|_=>av
structure DfrX (d:Option Deferred) (K:Deferred->Prop):Prop where
 mk ::
 out:∃d',d=aw d'∧K d'
def opsX (P:Program)(ro:Option Nat)(n:Nat)(ops:Array Oper)(K:Nx)(PK:List PanicEntry->Nx):List Oper->Sg->List Deferred->ak->Prop
|[],σ,ds,w=>K σ ds w
|o::rest,σ,ds,w=>
  bc (inB n o.dst)
   (match o.guard with
  |none=>
    match o.op with
   |.defer c=>match ro with
    |none=>match c.callee with
     |.value (.func f)=>opsX P ro n ops K PK rest (put σ o.dst undef) ({ target:=.fn (.func f) #[],args:=amap (rd σ) c.args }::ds) w
     |_=>DfrX (dfr σ c) (λd=>opsX P ro n ops K PK rest (put σ o.dst undef) (d::ds) w)
    |some _=>False
   |_=>opV P o σ w (λv w=>opsX P ro n ops K PK rest (put σ o.dst v) ds w) (λc w=>PK c σ ds w)
  |some (j,want)=>
    match NH ops j with
   |some d=>bc (Nat.blt d n) (GDo (σ d) want (λK'=>opV P o σ w K' (λc w=>PK c σ ds w)) w (λv w=>opsX P ro n ops K PK rest (put σ o.dst v) ds w)) False
   |none=>False)
   False
def oX (n:Nat)(K:Nx)(a:Act)(w:ak):Prop:=∃σ,Rep n σ a.tmps∧K σ a.defers w
theorem anF {o:Oper}{n:Nat}{σ:Sg}{a:Act}(hr:Rep n σ a.tmps)(hd:inB n o.dst=au)(hnd:∀c,o.op≠.defer c){K:Nx}{PK:List PanicEntry->Nx}{next:Act->ak->Prop}
  (hQ:∀c a w,oX n (PK c) a w->Q (.panic c) a w) (hnext:∀a w,oX n K a w->next a w)
  (h:Upon P ((execOp (rd σ) o).run P w) (λv w=>K (put σ o.dst v) a.defers w) (λc w=>PK c σ a.defers w)):o.wpIn (Fr ro) 0 P a w next Q:=by
 unfold Oper.wpIn;refine⟨λ_ _=>trivial,?_⟩;rw[hr.eval,Oper.semAt_eq _ _ _ hnd];generalize (execOp (rd σ) o).run P w=r at *;have hput:∀v w,K (put σ o.dst v) a.defers w->next (a.put o.dst v) w:=λv w hk=>hnext _ _ ⟨_,hr.put hd v,by
  have e:(a.put o.dst v).defers=a.defers:=by cases o.dst<;>rfl
  rw[e];exact hk⟩
 cases r with
|ok x w'=>
  cases x<;>simp only[Upon] at h<;>simp only[Oper.uponIn]
  ·exact hput _ _ h
  ·exact hput _ _ h
  ·refine⟨(λhx=>by cases hx),Mi.2 (h.out.mono λe w'' hc=>?_)⟩;cases e with
  |returned v=>exact hput _ _ hc
  |panicked c=>exact hQ _ _ _ ⟨σ,hr,hc⟩
  |outgrown=>exact hc.elim
  all_goals first|exact h.elim|skip
  refine⟨(λhx=>by cases hx),RoundIn.mono h.out λe w'' hc=>?_⟩;cases e with
 |returned v=>exact hput _ _ hc
 |panicked c=>exact hQ _ _ _ ⟨σ,hr,hc⟩
 |outgrown=>exact hc.elim
|halt x w'=>
  cases x<;>simp only[Upon] at h<;>simp only[Oper.uponIn]
  case panic v=>exact hQ _ _ _ ⟨σ,hr,h⟩
  all_goals exact h.elim
theorem Ru {o:Oper}{n:Nat}{σ:Sg}{a:Act}(hr:Rep n σ a.tmps)(hd:inB n o.dst=au){K:Nx}{PK:List PanicEntry->Nx}{next:Act->ak->Prop}
  (hQ:∀c a w,oX n (PK c) a w->Q (.panic c) a w) (hnext:∀a w,oX n K a w->next a w)
  (h:opV P o σ w (λv w=>K (put σ o.dst v) a.defers w) (λc w=>PK c σ a.defers w)):o.wpIn (Fr ro) 0 P a w next Q:=by
 refine anF hr hd (λc hc=>by unfold opV at h;rw[hc] at h;exact h.elim) hQ hnext ?_;unfold opV at h;split at h
 ·rename_i x hx;rw[show execOp (rd σ) o=pure (.value (rd σ x)) by unfold execOp;rw[hx]];exact h
 ·rename_i x hx;rw[show execOp (rd σ) o=pure (.value (rd σ x)) by unfold execOp;rw[hx]];exact h
 ·rename_i f args ats hx
  cases hp:bZ P f with
 |false=>rw[hp,aE] at h;replace h:=h.out;rw[xK] at h;exact h
 |true=>
   rw[hp,aF] at h;have:(execOp (rd σ) o).run P w=.ok (.enter f (amap (rd σ) args)) w:=by
    unfold execOp;rw[hx];rw[DV];simp only[resolve,rd,Deferred.ofValue,invoke,bind,pure,Sem.bind];rw[auW,auX];exact nY hp _ _
   rw[this];exact h
 ·exact h.elim
 ·replace h:=h.out;rw[xK] at h;exact h
def NoR (r:Result Next):Prop:=∀l f t a b w',r≠.ok (.round l f t a b) w'
def noRd (P:Program)(o:Oper):Bool:=
 match o.op with
|.call { callee:=.value (.func f),.. }=>bZ P f
|.call { callee:=.builtin b,.. }=>match b with
 |.append|.copy|.len|.cap|.min|.max|.unsafeString|.unsafeSliceData|.delete|.clear=>au
 |_=>aq
|.call _=>aq
|.go _|.defer _|.send ..|.recv ..|.select ..|.makeChan ..=>aq
|_=>au
def CX (P:Program):List Oper->Bool
|[]=>au
|o::l=>noRd P o&&CX P l
theorem aiF (s:Sem ao):NoR ((mv s).run P w):=by
 intro l f t a b w' h;unfold mv at h;rw[Sem.run_bind] at h;generalize s.run P w=r at h;cases r<;>simp[Result.andThen] at h
theorem amZ (s:Sem Unit):NoR ((mu s).run P w):=by
 intro l f t a b w' h;unfold mu at h;rw[Sem.run_bind] at h;generalize s.run P w=r at h;cases r<;>simp[Result.andThen] at h
theorem Zd {o:Oper}{σ:Sg}(h:noRd P o=au):NoR ((execOp (rd σ) o).run P w):=by
 generalize hρ:rd σ=ρ;unfold noRd at h;unfold execOp;cases ho:o.op<;>rw[ho] at h<;>simp only at h ⊢<;>first|exact aiF _|exact amZ _|(cases h;done)|skip
 case move=>intro l f t a b w' h;cases h
 case assign=>intro l f t a b w' h;cases h
 case pick c a b=>
  intro l f t a b w' h;rw[Sem.run_bind] at h;generalize Sem.run P (asBool (ρ c)) w=r at h;cases r<;>simp[Result.andThen] at h
 case nilCheck x=>
  intro l f t a b w' h;split at h
  ·cases h
  ·cases h
  ·cases h
  ·split at h
   ·cases h
   ·rw[Sem.run_bind] at h;generalize Sem.run P program w=r at h;cases r with
   |halt _ _=>simp[Result.andThen] at h
   |ok p w1=>
     simp only[Result.andThen] at h;rw[Sem.run_bind] at h;generalize Sem.run P (nilAhead _ _ _ _) w1=r at h;cases r with
    |halt _ _=>simp[Result.andThen] at h
    |ok q w2=>
      simp only[Result.andThen] at h;split at h
      ·cases h
      ·cases h
   ·cases h
  ·cases h
 case call c=>
  obtain⟨callee,args,ats⟩:=c;cases callee with
 |invoke r n=>cases h
 |value x=>
   cases x with
  |func g=>
    intro l f t a b w' hh;have e:(do let d <-resolve ρ { callee:=.value (.func g),args,argTypes:=ats } o.type;invoke d.target d.args:Sem Next).run P w=.ok (.enter g (amap ρ args)) w:=by
     rw[DV,<-hρ];simp only[resolve,rd,Deferred.ofValue,invoke,bind,pure,Sem.bind];rw[auW,auX];exact nY h _ _
    rw[e] at hh;cases hh
  |_=>cases h
 |builtin bb=>
   show NoR ((builtin bb ats o.type _ _).run P w);cases bb<;>first|exact aiF _|(cases h;done)
theorem aeR {o:Oper}{n:Nat}{σ:Sg}{a:Act}(hr:Rep n σ a.tmps)(hd:inB n o.dst=au){K:Nx}{PK:List PanicEntry->Nx}{next:Act->ak->Prop}
  (hQ:∀c a w,oX n (PK c) a w->Q (.panic c) a w) (hnext:∀a w,oX n K a w->next a w)
  (hnr:NoR ((execOp (rd σ) o).run P w)) (h:Upon P ((execOp (rd σ) o).run P w) (λv w=>K (put σ o.dst v) a.defers w) (λc w=>PK c σ a.defers w)):o.wp P a w next Q:=by
 unfold Oper.wp;rw[hr.eval];generalize (execOp (rd σ) o).run P w=r at *;have hput:∀v w,K (put σ o.dst v) a.defers w->next (a.put o.dst v) w:=λv w hk=>hnext _ _ ⟨_,hr.put hd v,by
  have e:(a.put o.dst v).defers=a.defers:=by cases o.dst<;>rfl
  rw[e];exact hk⟩
 cases r with
|ok x w'=>
  cases x<;>simp only[Upon] at h<;>simp only[Oper.upon]
  ·exact hput _ _ h
  ·exact hput _ _ h
  ·refine h.out.mono λe w'' hc=>?_;cases e with
  |returned v=>exact hput _ _ hc
  |panicked c=>exact hQ _ _ _ ⟨σ,hr,hc⟩
  |outgrown=>exact hc.elim
  all_goals first|exact h.elim|skip
  exact hnr _ _ _ _ _ _ rfl
|halt x w'=>
  cases x<;>simp only[Upon] at h<;>simp only[Oper.upon]
  case panic v=>exact hQ _ _ _ ⟨σ,hr,h⟩
  all_goals exact h.elim
theorem Mm {o:Oper}{n:Nat}{σ:Sg}{a:Act}(hr:Rep n σ a.tmps)(hd:inB n o.dst=au){K:Nx}{PK:List PanicEntry->Nx}{next:Act->ak->Prop}
  (hQ:∀c a w,oX n (PK c) a w->Q (.panic c) a w) (hnext:∀a w,oX n K a w->next a w)
  (hno:noRd P o=au) (h:opV P o σ w (λv w=>K (put σ o.dst v) a.defers w) (λc w=>PK c σ a.defers w)):o.wp P a w next Q:=by
 refine aeR hr hd hQ hnext (Zd hno) ?_;unfold opV at h;split at h
 ·rename_i x hx;rw[show execOp (rd σ) o=pure (.value (rd σ x)) by unfold execOp;rw[hx]];exact h
 ·rename_i x hx;rw[show execOp (rd σ) o=pure (.value (rd σ x)) by unfold execOp;rw[hx]];exact h
 ·rename_i f args ats hx
  cases hp:bZ P f with
 |false=>rw[hp,aE] at h;replace h:=h.out;rw[xK] at h;exact h
 |true=>
   rw[hp,aF] at h;have:(execOp (rd σ) o).run P w=.ok (.enter f (amap (rd σ) args)) w:=by
    unfold execOp;rw[hx];rw[DV];simp only[resolve,rd,Deferred.ofValue,invoke,bind,pure,Sem.bind];rw[auW,auX];exact nY hp _ _
   rw[this];exact h
 ·exact h.elim
 ·replace h:=h.out;rw[xK] at h;exact h
theorem vI {n:Nat}{σ:Sg}{a:Act}(hr:Rep n σ a.tmps){o:Oper}(hg:o.guard=aw (j,want))(hj:NH ops j=aw d)(hd:Nat.blt d n=au) :
  Region.wanted o (yielded ops a.tmps)=kF (σ d) want:=by
 have hd':d < a.tmps.size:=by rw[hr.size];simpa[Nat.blt_eq] using hd
 have e:a.tmps[d]?=aw (σ d):=by
  rw[<-hr.get d,avV,Array.getElem?_eq_getElem hd'];rfl
 unfold NH at hj;simp only[Region.wanted,hg,yielded,hj,Option.bind_some,e,kF];cases σ d<;>simp
theorem Tt {n:Nat}{K:Nx}{PK:List PanicEntry->Nx}
  (hQ:∀c a w,oX n (PK c) a w->Q (.panic c) a w) (hK:∀a w,oX n K a w->Q .normal a w) :
  ∀(l:List Oper) (σ:Sg) (a:Act) (w:ak),Rep n σ a.tmps->opsX P ro n ops K PK l σ a.defers w->wpListIn (Fr ro) 0 P ops Q l a w:=by
 intro l
 induction l with
|nil=>intro σ a w hr h;exact hK _ _ ⟨σ,hr,h⟩
|cons o rest ih=>
  intro σ a w hr h;unfold opsX at h;cases hd:inB n o.dst with
 |false=>rw[hd,aE] at h;exact h.elim
 |true=>
   rw[hd,aF] at h;unfold wpListIn;cases hg:o.guard with
  |none=>
    simp only[hg] at h;rw[anX (by simp[Region.wanted,hg])];split at h
    ·rename_i c hc
     cases ro with
    |some _=>exact h.elim
    |none=>
     have key:∀d,dfr σ c=aw d->opsX P av n ops K PK rest (put σ o.dst undef) (d::a.defers) w->o.wpIn (Fr av) 0 P a w (wpListIn (Fr av) 0 P ops Q rest) Q:=by
      intro d hdf h;have hrun:(execOp (rd σ) o).run P w=.ok (.defer d) w:=by
       unfold execOp;rw[hc];unfold dfr at hdf;unfold resolve;split at hdf
       ·rename_i f hf
        cases hdf;simp[DV,hf,rd,Deferred.ofValue,bind,pure,Sem.bind,Sem.run]
       ·rename_i x _ hx
        split at hdf
        ·rename_i fn first cap hv
         cases hdf;simp[DV,hx,hv,Deferred.ofValue,bind,pure,Sem.bind,Sem.run]
        ·cases hdf
       ·cases hdf
      unfold Oper.wpIn;refine⟨λ_ _=>trivial,?_⟩;rw[hr.eval,Oper.semAt_none,hrun];simp only[Oper.uponIn];have hr':Rep n (put σ o.dst undef) (({ a with defers:=d::a.defers }:Act).put o.dst undef).tmps:=Rep.put (a:={ a with defers:=d::a.defers }) hr hd undef;refine ih _ _ _ hr' ?_;have e:(({ a with defers:=d::a.defers }:Act).put o.dst undef).defers=d::a.defers:=by cases o.dst<;>rfl
      rw[e];exact h
     simp only at h;split at h
     ·rename_i f hf
      exact key _ (by unfold dfr;rw[hf]) h
     ·obtain⟨d,hdf,h⟩:=h.out;exact key d hdf h
    ·refine Ru (K:=λσ ds w=>opsX P ro n ops K PK rest σ ds w) (PK:=PK) hr hd hQ ?_ h;rintro a' w' ⟨σ',hr',h'⟩;exact ih _ _ _ hr' h'
  |some jw=>
    obtain⟨j,want⟩:=jw;simp only[hg] at h;split at h
    ·rename_i d hj
     cases hdn:Nat.blt d n with
    |false=>rw[hdn,aE] at h;exact h.elim
    |true=>
      rw[hdn,aF] at h;have hw:=vI hr hg hj hdn
      replace h:=h.out
      cases hwv:kF (σ d) want with
     |true=>
       rw[hwv,aF] at h;rw[anX (by rw[hw,hwv])];refine Ru (K:=λσ ds w=>opsX P ro n ops K PK rest σ ds w) (PK:=PK) hr hd hQ ?_ h;rintro a' w' ⟨σ',hr',h'⟩;exact ih _ _ _ hr' h'
     |false=>
       rw[hwv,aE] at h;rw[anW (by rw[hw,hwv];simp)];have e:(a.put o.dst undef).defers=a.defers:=by cases o.dst<;>rfl
       exact⟨λ_ _=>trivial,ih _ _ _ (hr.put hd undef) (by rw[e];exact h)⟩
    ·exact h.elim
theorem D5 {n:Nat}{K:Nx}{PK:List PanicEntry->Nx}
  (hQ:∀c a w,oX n (PK c) a w->Q (.panic c) a w) (hK:∀a w,oX n K a w->Q .normal a w) :
  ∀(l:List Oper) (σ:Sg) (a:Act) (w:ak),CX P l=au->Rep n σ a.tmps->opsX P av n ops K PK l σ a.defers w->wpList P ops Q l a w:=by
 intro l
 induction l with
|nil=>intro σ a w _ hr h;exact hK _ _ ⟨σ,hr,h⟩
|cons o rest ih=>
  intro σ a w hno hr h;simp only[CX,aoY] at hno;obtain⟨hno,hno'⟩:=hno;unfold opsX at h;cases hd:inB n o.dst with
 |false=>rw[hd,aE] at h;exact h.elim
 |true=>
   rw[hd,aF] at h;unfold wpList;cases hg:o.guard with
  |none=>
    simp only[hg] at h;rw[anX (by simp[Region.wanted,hg])];left;split at h
    ·rename_i c hc
     unfold noRd at hno;rw[hc] at hno;cases hno
    ·refine Mm (K:=λσ ds w=>opsX P av n ops K PK rest σ ds w) (PK:=PK) hr hd hQ ?_ hno h;rintro a' w' ⟨σ',hr',h'⟩;exact ih _ _ _ hno' hr' h'
  |some jw=>
    obtain⟨j,want⟩:=jw;simp only[hg] at h;split at h
    ·rename_i d hj
     cases hdn:Nat.blt d n with
    |false=>rw[hdn,aE] at h;exact h.elim
    |true=>
      rw[hdn,aF] at h;have hw:=vI hr hg hj hdn
      replace h:=h.out
      cases hwv:kF (σ d) want with
     |true=>
       rw[hwv,aF] at h;rw[anX (by rw[hw,hwv])];left;refine Mm (K:=λσ ds w=>opsX P av n ops K PK rest σ ds w) (PK:=PK) hr hd hQ ?_ hno h;rintro a' w' ⟨σ',hr',h'⟩;exact ih _ _ _ hno' hr' h'
     |false=>
       rw[hwv,aE] at h;rw[anW (by rw[hw,hwv];simp)];have e:(a.put o.dst undef).defers=a.defers:=by cases o.dst<;>rfl
       exact ih _ _ _ hno' (hr.put hd undef) (by rw[e];exact h)
    ·exact h.elim
structure QDo (P:Program) (C:ak->Prop) (m:Sem Next) (K:ao->Prop):Prop where
 mk ::
 out:∃v,(∀w,C w->Oper.quietUpon P C w v (m.run P w))∧K v
structure QCall (P:Program) (C:ak->Prop) (f:Nat) (args:Array ao) (K:ao->Prop):Prop where
 mk ::
 out:∃v,(∀w,C w->Calls P f args w (λe w'=>e=.returned v∧C w'))∧K v
def opQ (P:Program)(C:ak->Prop)(o:Oper)(σ:Sg)(K:ao->Prop):Prop:=
 match o.op with
|.move x|.assign x=>K (rd σ x)
|.call { callee:=.value (.func f),args,.. }=>bc (bZ P f) (QCall P C f (amap (rd σ) args) K) (QDo P C (Im (rd σ) o) K)
|_=>QDo P C (Im (rd σ) o) K
structure GQ (v:ao) (want:Bool) (E:(ao->Prop)->Prop) (K:ao->Prop):Prop where
 mk ::
 out:bc (kF v want) (E K) (K undef)
def oE (P:Program)(n:Nat)(ops:Array Oper)(C:ak->Prop)(K:Sg->Prop):List Oper->Sg->Prop
|[],σ=>K σ
|o::rest,σ=>
  bc (inB n o.dst)
   (match o.guard with
  |none=>opQ P C o σ (λv=>oE P n ops C K rest (put σ o.dst v))
  |some (j,want)=>
    match NH ops j with
   |some d=>bc (Nat.blt d n) (GQ (σ d) want (λK'=>opQ P C o σ K') (λv=>oE P n ops C K rest (put σ o.dst v))) False
   |none=>False)
   False
theorem ZS {o:Oper}{n:Nat}{σ:Sg}{a:Act}(hr:Rep n σ a.tmps){next:Act->Prop}{K:ao->Prop}
  (hnext:∀v,K v->next (a.put o.dst v)) (h:opQ P C o σ K):o.quiet P a C next:=by
 unfold Oper.quiet Oper.quietAt;rw[hr.eval];have key:QDo P C (Im (rd σ) o) K->∃v,(∀w,C w->Oper.quietUpon P C w v ((execOp (rd σ) o).run P w))∧next (a.put o.dst v):=
  λ⟨⟨v,h1,h2⟩⟩=>⟨v,by rw[<-xK];exact h1,hnext _ h2⟩
 unfold opQ at h;split at h
 ·rename_i x hx;exact⟨rd σ x,λw _=>by rw[show execOp (rd σ) o=pure (.value (rd σ x)) by unfold execOp;rw[hx]];exact⟨rfl,rfl⟩,hnext _ h⟩
 ·rename_i x hx;exact⟨rd σ x,λw _=>by rw[show execOp (rd σ) o=pure (.value (rd σ x)) by unfold execOp;rw[hx]];exact⟨rfl,rfl⟩,hnext _ h⟩
 ·rename_i f args ats hx
  cases hp:bZ P f with
 |false=>rw[hp,aE] at h;exact key h
 |true=>
   rw[hp,aF] at h;obtain⟨v,h1,h2⟩:=h.out;refine⟨v,λw hw=>?_,hnext _ h2⟩;have:(execOp (rd σ) o).run P w=.ok (.enter f (amap (rd σ) args)) w:=by
    unfold execOp;rw[hx];rw[DV];simp only[resolve,rd,Deferred.ofValue,invoke,bind,pure,Sem.bind];rw[auW,auX];exact nY hp _ _
   rw[this];exact⟨rfl,h1 w hw⟩
 ·exact key h
theorem tY {n:Nat}{K:Sg->Prop}{Q:Act->Prop}
  (hK:∀σ a,Rep n σ a.tmps->a.defers=ds->K σ->Q a) :
  ∀(l:List Oper) (σ:Sg) (a:Act),Rep n σ a.tmps->a.defers=ds->oE P n ops C K l σ->wpQuiet P ops C Q l a:=by
 intro l
 induction l with
|nil=>intro σ a hr hds h;exact hK _ _ hr hds h
|cons o rest ih=>
  intro σ a hr hds h;unfold oE at h;cases hd:inB n o.dst with
 |false=>rw[hd,aE] at h;exact h.elim
 |true=>
   rw[hd,aF] at h;have hnext:∀v,oE P n ops C K rest (put σ o.dst v)->wpQuiet P ops C Q rest (a.put o.dst v):=λv h'=>
    ih _ _ (hr.put hd v) (by rw[<-hds];cases o.dst<;>rfl) h'
   unfold wpQuiet;cases hg:o.guard with
  |none=>
    simp only[hg] at h;rw[anX (by simp[Region.wanted,hg])];exact ZS hr hnext h
  |some jw=>
    obtain⟨j,want⟩:=jw;simp only[hg] at h;split at h
    ·rename_i d hj
     cases hdn:Nat.blt d n with
    |false=>rw[hdn,aE] at h;exact h.elim
    |true=>
      rw[hdn,aF] at h;have hw:=vI hr hg hj hdn
      replace h:=h.out
      cases hwv:kF (σ d) want with
     |true=>
       rw[hwv,aF] at h;rw[anX (by rw[hw,hwv])];exact ZS hr hnext h
     |false=>
       rw[hwv,aE] at h;rw[anW (by rw[hw,hwv];simp)];exact hnext _ h
    ·exact h.elim
def ZZ (P:Program)(o:Oper):Bool:=
 match o.op with
|.alloc _|.box ..|.buildSlice ..|.store ..|.makeMap ..|.makeSlice ..|.makeChan ..|.mapUpdate ..|.insert ..|.mapEntry ..|.entryStore ..|.range ..|.next ..|.panic _|.defer _=>au
|.convert _ d _=>match P.underlying d with|some (.slice _)=>au|_=>aq
|.call { callee:=.builtin .unsafeString,.. }|.call { callee:=.builtin .append,.. }|.call { callee:=.builtin .copy,.. }|.call { callee:=.builtin .delete,.. }|.call { callee:=.builtin .clear,.. }=>au
|_=>aq
def memT (P:Program):Nat->Nat->Bool
|0,_=>au
|k+1,t=>match P.underlying t with
 |some (.slice _)=>au
 |some (.pointer _)=>au
 |some (.map _ _)=>au
 |some (.struct fs)=>fs.toList.any λf=>memT P k f.type
 |some (.array _ e)=>memT P k e
 |_=>aq
def rS (p:Oper->Bool):Code->Bool
|.region _ ops _=>ops.toList.any p
|.seq a b=>bc (rS p a) au (rS p b)
|.cond _ a b=>bc (rS p a) au (rS p b)
|.block _ a=>rS p a
|.loop a=>rS p a
|.rangeFunc _ _ a b=>bc (rS p a) au (rS p b)
|_=>aq
def isMk (P:Program)(o:Oper):Bool:=
 match o.op with
|.buildSlice ..|.makeMap ..|.makeSlice ..=>au
|.convert _ d _=>match P.underlying d with|some (.slice _)=>au|_=>aq
|.call { callee:=.builtin .append,.. }=>au
|_=>aq
def ZV (P:Program):Nat->Nat->Bool
|0,f=>match P.funcs[f]? with
 |some g=>rS (isMk P) (g.body.getD .skip)
 |none=>aq
|k+1,f=>match P.funcs[f]? with
 |some g=>rS (λo=>bc (isMk P o) au (match o.op with|.call { callee:=.value (.func g),.. }=>ZV P k g|_=>aq)) (g.body.getD .skip)
 |none=>aq
def alI (o:Oper):Bool:=match o.op with|.panic _=>au|_=>aq
def panF (P:Program):Nat->Nat->Bool
|0,_=>aq
|k+1,f=>match P.funcs[f]? with
 |some g=>rS (λo=>bc (alI o) au (match o.op with|.call { callee:=.value (.func h),.. }=>panF P k h|_=>aq)) (g.body.getD .skip)
 |none=>aq
def newF (P:Program)(f:Nat):Bool:=
 match P.funcs[f]? with
|some g=>bc (panF P 3 f) au (bc (g.resultTypes.toList.any λt=>memT P 4 t) (ZV P 2 f) aq)
|none=>aq
def afP (P:Program)(o:Oper):Bool:=
 match o.op with
|.call { callee:=.value (.func f),.. }=>newF P f
|_=>ZZ P o
def aT (P:Program):List Oper->Nat
|[]=>0
|o::l=>bc (afP P o) 0 (aT P l+1)
section
variable {P:Program}{ops:Array Oper}{md:Region.Mode}{C:ak->Prop}
theorem MS {n:Nat}{oi:Oper}{L:Array Bool->Act->Prop}(hi:ops[i]?=aw oi)(hsel:∀(j:Nat) (o:Oper) cs b,ops[j]?=aw o->o.op≠.select cs b)
  (hs:Region.sinkB md ops n=au) (hc:Region.chainB md ops n=au) (hn:n < ops.size) (hin:i < n)
  (hdone:∀listed a,L listed a->∀j∈Region.ready md ops listed,n<=j) :
  ∀(f:Nat) (listed:Array Bool) (a:Act),HeadInv md ops n listed ->
   (∀j oj,ops[j]?=aw oj->j≠i->listed.getD j au=aq->(∀e∈oj.after,Region.binds md e=au->e.on≠i)->oi.apart ops oj=au) ->
   i∈Region.ready md ops listed->YieldsIn P ops C oi v a ->
   B5 P md ops C n L f (listed.setIfInBounds i au) (a.put oi.dst v)->B5 P md ops C n L (f+1) listed a:=by
 intro f
 induction f with
|zero=>
  intro listed a inv _ hr hy H;have hun:=(mem_ready.1 hr).1;refine⟨λh=>(by rw[h] at hr;cases hr),λj hj=>?_⟩;have hjn:j < n:=by
   rcases apD j n with h|h
   ·exact h
   ·exact absurd hj (tail_waits hs hc hn inv _ i rfl hin hun j h)
  refine⟨hjn,?_⟩;by_cases hji:j=i
  ·subst hji;exact hy.qOp hi H
  ·have:=hdone _ _ H j (ready_mono hj hji);omega
|succ f ih=>
  intro listed a inv hfree hr hy H;have hun:=(mem_ready.1 hr).1;refine⟨λh=>(by rw[h] at hr;cases hr),λj hj=>?_⟩;have hjn:j < n:=by
   rcases apD j n with h|h
   ·exact h
   ·exact absurd hj (tail_waits hs hc hn inv _ i rfl hin hun j h)
  refine⟨hjn,?_⟩;by_cases hji:j=i
  ·subst hji;exact hy.qOp hi H
  ·have h1:=(H.2 j (ready_mono hj hji)).2;obtain⟨hjun,oj,hoj,hall⟩:=mem_ready.1 hj;have hnot:∀e∈oj.after,Region.binds md e=au->e.on≠i:=λe he hb heq=>by
    have h1:=hall e he hb;rw[heq,getD_both hun] at h1;cases h1
   have h2:=qOp_put hoj (hfree j oj hoj hji hjun hnot) (λcs b=>hsel i oi cs b hi) (λcs b=>hsel j oj cs b hoj) hy h1;have hfree':∀k ok,ops[k]?=aw ok->k≠i->(listed.setIfInBounds j au).getD k au=aq ->
     (∀e∈ok.after,Region.binds md e=au->e.on≠i)->oi.apart ops ok=true:=λk ok hk hki hun hno=>by
    refine hfree k ok hk hki ?_ hno;by_cases hjk:j=k
    ·subst hjk;exact hjun
    ·rw[getD_set_ne au hjk] at hun;exact hun
   refine qOp_mono (λa' h3=>ih (listed.setIfInBounds j au) a' (inv.set hj hjn) hfree' (ready_mono hr (Ne.symm hji)) h3.1 ?_) h2;rw[avU _ _ hji];exact h3.2
theorem Kj {n g:Nat}{Lq:Act->Prop}(hsel:Region.noSelect ops=au)(hs:Region.sinkB md ops n=au)(hc:Region.chainB md ops n=au)(hn:n < ops.size) :
  ∀(l:List Oper) (k:Nat) (listed:Array Bool) (a:Act),(∀j,j < l.length->l[j]?=ops[k+j]?)->k+l.length=n->HeadInv md ops n listed ->
  Region.lexHead md ops g l.length k listed=au->wpQuiet P ops C Lq l a ->
  B5 P md ops C n (λlisted' a'=>Region.seqB md ops g n listed'=au∧Lq a') l.length listed a
|[],k,listed,a,_,hk,_,hB,h=>by
  have:k=n:=by simpa using hk
  subst this;exact⟨by simpa[Region.lexHead] using hB,h⟩
|o::l,k,listed,a,hl,hk,inv,hB,h=>by
  have h0:ops[k]?=aw o:=by simpa using (hl 0 sm).symm
  simp only[apB,Region.lexHead,aoY] at hB;obtain⟨⟨hr,hf⟩,hB'⟩:=hB;have hkn:k < n:=by simp only[apB] at hk;omega
  have hr':k∈Region.ready md ops listed:=by simpa using hr
  have hst:qOp P ops C k (wpQuiet P ops C Lq l) a:=by unfold qOp;simp only[h0];exact h
  obtain⟨v,hy,hK⟩:=yieldsIn_of_qOp h0 hst;exact MS h0 (Region.noSelect_spec hsel) hs hc hn hkn (λlisted' a' hL=>seqB_ready hL.1) l.length listed a inv (Region.free_spec h0 hf) hr' hy
   (Kj hsel hs hc hn l (k+1) _ _ (λj hj=>by have:=hl (j+1) (by simp;omega);simpa[arM,atE 1 j] using this) (by simp only[apB] at hk;omega) (inv.set hr' hkn) hB' hK)
theorem K5 {a:Act}{l:List Oper}(n:Nat)(hB:Region.lexTailB .any l.toArray n=au)(hC:C { w with drawn:=w.drawn+1 })
  (h:wpQuiet P l.toArray C (λa'=>∀w',C w'->wpList P l.toArray Q (l.drop n) a' w') (l.take n) a):wpAny P .any l.toArray Q l.toArray.size (Array.replicate l.toArray.size aq) a { w with drawn:=w.drawn+1 }:=by
 simp only[Region.lexTailB,aoY,apY] at hB;obtain⟨⟨⟨⟨hsel,hn⟩,hs⟩,hc⟩,hlex⟩:=hB;have hn':n < l.length:=by simpa using hn
 have htl:(l.take n).length=n:=by simp;omega
 have hdl:(l.drop n).length=l.toArray.size - n:=sm
 have inv0:HeadInv .any l.toArray n (Array.replicate l.toArray.size aq):=
  ⟨sm,λj oj _ hl=>(by rw[getD_replicate_false] at hl;cases hl),λt _ ht=>getD_in (by simpa using ht) (getD_replicate_false _ _)⟩
 have H:=Kj (md:=.any) (g:=l.toArray.size - n) hsel hs hc hn (l.take n) 0 _ a (λj hj=>by
  have hj':j < n:=by rw[htl] at hj;exact hj
  simp[hj']) (by simpa using htl) inv0 (by rw[htl];exact hlex) h
 have:=nC (Q':=Q) (g:=l.toArray.size - n) (λlisted a' w' hw' hL=>by
  have:=wpAny_of_seq (md:=.any) (Q':=Q) (l.drop n) n listed a' w' (λj=>by simp[aqG]) (by rw[hdl];exact hL.1) (hL.2 w' hw')
  rwa [hdl] at this) _ _ _ _ hC H
 rw[htl,show n+(l.toArray.size - n)=l.toArray.size by omega] at this;exact this
theorem UM {a:Act}(hB:Region.lexB .any ops=au)(hC:C { w with drawn:=w.drawn+1 })
  (h:wpQuiet P ops C (λa'=>∀w',C w'->Q .normal a' w') ops.toList a):wpAny P .any ops Q ops.size (Array.replicate ops.size aq) a { w with drawn:=w.drawn+1 }:=by
 simp only[Region.lexB,aoY] at hB;refine wpAny_of_quiet (Q:=λa'=>∀w',C w'->Q .normal a' w') (λ_ w' hw' h=>h w' hw') _ _ _ _ hC ?_;have:=wpAnyQ_lex (C:=C) (md:=.any) hB.1 ops.toList 0 (Array.replicate ops.size aq) a sm (by simpa using hB.2) h;simpa using this
end
def sQ:List Oper->Bool
|[]=>au
|o::l=>(match o.op with|.defer _=>aq|_=>au)&&sQ l
theorem MA:∀{l:List Oper},sQ l=au->∀o,o∈l->∀c,o.op≠.defer c
|[],_,o,ho,_=>by cases ho
|x::l,h,o,ho,c=>by
  simp only[sQ,aoY] at h;rcases aoM.1 ho with rfl|ho
  ·intro e;rw[e] at h;cases h.1
  ·exact MA h.2 o ho c
def Ir (Q:Exit->Act->ak->Prop):Exit->Act->ak->Prop
|.outgrown,_,_=>False
|e,a,w=>Q e a w
theorem Zx {Q:Exit->Act->ak->Prop}:∀e a w,Ir Q e a w->Q e a w
|.outgrown,_,_,h=>h.elim
|.normal,_,_,h=>h
|.ret,_,_,h=>h
|.exit _,_,_,h=>h
|.goto _,_,_,h=>h
|.panic _,_,_,h=>h
theorem akD {o:Oper}{a:Act}{K:Act->ak->Prop}(hnd:∀c,o.op≠.defer c)(h:o.wp P a w K (Ir Q)):o.wpIn (Fr ro) 0 P a w K (Ir Q):=by
 refine⟨λ_ _=>trivial,?_⟩;rw[Oper.semAt_eq _ _ _ hnd];unfold Oper.wp at h;generalize (execOp a.eval o).run P w=r at h ⊢;cases r with
|ok x w'=>
  cases x<;>simp only[Oper.upon] at h<;>simp only[Oper.uponIn]<;>first|exact h|exact h.elim|skip
  ·exact⟨(λhx=>by cases hx),Mi.2 h⟩
  ·exact⟨(λhx=>by cases hx),λc cs _=>let ⟨v,w',r,s⟩:=h c cs;⟨v,w',r,stepsIn_wide.2 s⟩⟩
|halt x w'=>cases x<;>simp only[Oper.upon] at h<;>simp only[Oper.uponIn]<;>first|exact h|exact h.elim
theorem Rj {P:Program}{ro:Option Nat}{ops:Array Oper}{Q:Exit->Act->ak->Prop}(hnd:sQ ops.toList=au):∀(fuel:Nat) (listed:Array Bool) (a:Act) (w:ak),wpAny P .any ops (Ir Q) fuel listed a w->wpAnyIn (Fr ro) 0 P .any ops (Ir Q) fuel listed a w
|0,_,_,_,h=>h
|fuel+1,listed,a,w,h=>by
  refine⟨h.1,λi hi=>?_⟩;have h1:=h.2 i hi;unfold wpOp at h1;unfold wpOpIn;split
  ·rename_i hn
   simp only[hn] at h1;exact Rj hnd fuel _ _ _ h1
  ·rename_i o ho
   simp only[ho] at h1;have hmem:o∈ops.toList:=by
    have:=atW ho;simpa using this
   split
   ·rename_i hw
    simp only[hw,if_true] at h1;rcases h1 with h1|⟨_,a',w',h2⟩
    ·exact Oper.wpIn_mono (λa w hk=>Rj hnd fuel _ a w hk) (akD (MA hnd o hmem) h1)
    ·exact h2.elim
   ·rename_i hw
    simp only[hw] at h1;exact⟨λ_ _=>trivial,Rj hnd fuel _ _ _ h1⟩
theorem Be {a:Act}(hm:P.follows .mixedOrders=au)(hnd:sQ ops.toList=au)
  (h:wpAny P .any ops (Ir Q) ops.size (Array.replicate ops.size aq) a { w with drawn:=w.drawn+1 }):(Code.region id ops au).wpIn (Fr ro) 0 P Q a w:=
 Code.wpIn_mono Zx (wpIn_region_any hm (Rj hnd _ _ _ _ h))
def memN (i:Nat):List Nat->Bool
|[]=>aq
|j::l=>Nat.beq i j||memN i l
def Mq (ms:List Nat)(o:Oper):Bool:=o.after.toList.all λe=>!(Region.binds .any e)||memN e.on ms
def mvL:List Oper->Nat->List Nat->List (Nat×Oper)
|[],_,_=>[]
|o::l,k,ms=>bc (isMv o&&Mq ms o) ((k,o)::mvL l (k+1) (k::ms)) (mvL l (k+1) ms)
def hdL:List Oper->Nat->List Nat->List (Nat×Oper)
|[],_,_=>[]
|o::l,k,ms=>bc (isMv o&&Mq ms o) (hdL l (k+1) (k::ms)) ((k,o)::hdL l (k+1) ms)
def mvX (o:Oper)(σ:Sg):Value:=
 match o.op with
|.move x|.assign x=>rd σ x
|_=>undef
def T5:List (Nat×Oper)->Sg->Sg
|[],σ=>σ
|p::r,σ=>T5 r (put σ p.2.dst (mvX p.2 σ))
def inBs (n:Nat):List (Nat×Oper)->Bool
|[]=>au
|p::r=>inB n p.2.dst&&inBs n r
def pmX:List (Nat×Oper)->Nx->Nx
|[],K=>K
|p::r,K=>λσ ds w=>∀u:ao,pmX r K (put σ p.2.dst u) ds w
def isNil:List Nat->Bool
|[]=>au
|_=>aq
def andL:List Prop->Prop
|[]=>True
|[p]=>p
|p::q::l=>p∧andL (q::l)
theorem FD:∀{l:List Prop},andL l->∀p,p∈l->p
|[],_,p,hp=>by cases hp
|[q],h,p,hp=>by rw[aoZ] at hp;subst hp;exact h
|q::r::l,h,p,hp=>by
  rcases aoM.1 hp with rfl|hp
  ·exact h.1
  ·exact FD h.2 p hp
theorem PF:∀{l:List Prop},(∀p,p∈l->p)->andL l
|[],_=>trivial
|[q],h=>h q sm
|q::r::l,h=>⟨h q sm,PF λp hp=>h p (by simp only[aoM] at hp ⊢;exact .inr hp)⟩
def HZ (P:Program)(n:Nat)(ops:Array Oper)(o:Oper)(σ:Sg)(w:ak)(next:Sg->ak->Prop)(PK:PKT):Prop:=
 bc (inB n o.dst)
  (match o.guard with
 |none=>opV P o σ w (λv w=>next (put σ o.dst v) w) PK
 |some (j,want)=>
   match NH ops j with
  |some d=>bc (Nat.blt d n) (GDo (σ d) want (λK'=>opV P o σ w K' PK) w (λv w=>next (put σ o.dst v) w)) False
  |none=>False)
  False
def anyX (P:Program)(n:Nat)(ops:Array Oper)(K:Nx)(PK:List PanicEntry->Nx):Nat->Array Bool->Sg->List Deferred->ak->Prop
|0,listed,σ,ds,w=>bc (isNil (Region.ready .any ops listed)) (K σ ds w) False
|f+1,listed,σ,ds,w=>
  bc (isNil (Region.ready .any ops listed)) (K σ ds w)
   (andL ((Region.ready .any ops listed).map λi=>match ops[i]? with
   |none=>False
   |some o=>HZ P n ops o σ w (λσ' w'=>anyX P n ops K PK f (listed.setIfInBounds i au) σ' ds w') (λc w=>PK c σ ds w)))
theorem xH :isNil l=au↔l=[]:=by cases l<;>simp[isNil]
theorem SR {n:Nat}{o:Oper}{σ:Sg}{a:Act}{K:Nx}{PK:List PanicEntry->Nx}{next:Act->ak->Prop}(hr:Rep n σ a.tmps)(hnd:∀c,o.op≠.defer c)
  (hQ:∀c a w,oX n (PK c) a w->Q (.panic c) a w) (hnext:∀a w,oX n K a w->next a w)
  (h:HZ P n ops o σ w (λσ' w'=>K σ' a.defers w') (λc w=>PK c σ a.defers w)) :
  if Region.wanted o (yielded ops a.tmps) then o.wpIn (Fr ro) 0 P a w next Q else (∀f,o.about P w a.eval=aw f->(Fr ro).fn f)∧next (a.put o.dst undef) w:=by
 unfold HZ at h;cases hd:inB n o.dst with
|false=>rw[hd,aE] at h;exact h.elim
|true=>
  rw[hd,aF] at h;cases hg:o.guard with
 |none=>
   simp only[hg] at h;rw[anX (by simp[Region.wanted,hg])];exact Ru (K:=K) (PK:=PK) hr hd hQ hnext h
 |some jw=>
   obtain⟨j,want⟩:=jw;simp only[hg] at h;split at h
   ·rename_i d hj
    cases hdn:Nat.blt d n with
   |false=>rw[hdn,aE] at h;exact h.elim
   |true=>
     rw[hdn,aF] at h;have hw:=vI hr hg hj hdn
     replace h:=h.out
     cases hwv:kF (σ d) want with
    |true=>
      rw[hwv,aF] at h;rw[anX (by rw[hw,hwv])];exact Ru (K:=K) (PK:=PK) hr hd hQ hnext h
    |false=>
      rw[hwv,aE] at h;rw[anW (by rw[hw,hwv];simp)];have e:(a.put o.dst undef).defers=a.defers:=by cases o.dst<;>rfl
      exact⟨λ_ _=>trivial,hnext _ _ ⟨_,hr.put hd undef,by rw[e];exact h⟩⟩
   ·exact h.elim
theorem Le {P:Program}{ro:Option Nat}{n:Nat}{ops:Array Oper}{K:Nx}{PK:List PanicEntry->Nx}{Q:Exit->Act->ak->Prop}(hnd:sQ ops.toList=au)
  (hQ:∀c a w,oX n (PK c) a w->Q (.panic c) a w) (hK:∀a w,oX n K a w->Q .normal a w) :
  ∀(fuel:Nat) (listed:Array Bool) (σ:Sg) (a:Act) (w:ak),Rep n σ a.tmps->anyX P n ops K PK fuel listed σ a.defers w->wpAnyIn (Fr ro) 0 P .any ops Q fuel listed a w
|0,listed,σ,a,w,hr,h=>by
  unfold anyX at h;cases hn:isNil (Region.ready .any ops listed) with
 |false=>rw[hn,aE] at h;exact h.elim
 |true=>rw[hn,aF] at h;exact⟨xH.1 hn,hK _ _ ⟨σ,hr,h⟩⟩
|f+1,listed,σ,a,w,hr,h=>by
  unfold anyX at h;cases hn:isNil (Region.ready .any ops listed) with
 |true=>
   rw[hn,aF] at h;have he:=xH.1 hn;exact⟨λ_=>hK _ _ ⟨σ,hr,h⟩,λi hi=>by rw[he] at hi;cases hi⟩
 |false=>
   rw[hn,aE] at h;refine⟨(λhe=>by rw[xH.2 he] at hn;cases hn),λi hi=>?_⟩;have h1:=FD h _ (apN.2 ⟨i,hi,rfl⟩);unfold wpOpIn;cases ho:ops[i]? with
  |none=>simp only[ho] at h1
  |some o=>
    simp only[ho] at h1 ⊢;have hmem:o∈ops.toList:=by
     have:=atW ho;simpa using this
    refine SR (K:=λσ' ds' w'=>anyX P n ops K PK f (listed.setIfInBounds i au) σ' ds' w') (PK:=PK) hr (MA hnd o hmem) hQ ?_ h1;rintro a' w' ⟨σ',hr',h'⟩;exact Le hnd hQ hK f _ σ' a' w' hr' h'
structure DrawX (w:ak) (F:ak->Prop):Prop where
 mk ::
 out:F { w with drawn:=w.drawn+1 }
abbrev Ex:=Exit->Sg->List Deferred->ak->Prop
def mem (i:Nat):List Nat->Bool
|[]=>aq
|j::l=>Nat.beq i j||mem i l
def dsts:List Oper->List Nat
|[]=>[]
|o::l=>match o.dst with
 |some d=>d::dsts l
 |none=>dsts l
def asg:Code->List Nat
|.region _ ops _=>dsts ops.toList
|.seq a b=>asg a++asg b
|.cond _ a b=>asg a++asg b
|.block _ a=>asg a
|.loop a=>asg a
|_=>[]
def jun:List Nat->List Nat->List Nat
|[],b=>b
|i::a,b=>bc (mem i b) (jun a b) (i::jun a b)
def rem (id:Nat):List Nat->List Nat
|[]=>[]
|i::a=>bc (Nat.beq id i) (rem id a) (i::rem id a)
def jx:Code->List Nat
|.seq a b=>jun (jx a) (jx b)
|.cond _ a b=>jun (jx a) (jx b)
|.block id a=>rem id (jx a)
|.loop a=>jx a
|.exit j=>[j]
|.rangeFunc _ _ _ b=>jx b
|_=>[]
def jr:Code->Bool
|.seq a b=>jr a||jr b
|.cond _ a b=>jr a||jr b
|.block _ a=>jr a
|.loop a=>jr a
|.ret=>au
|.rangeFunc _ _ _ b=>jr b
|_=>aq
def QI (id:Nat):Code->Nat
|.seq a b=>QI id a+QI id b
|.cond _ a b=>QI id a+QI id b
|.block _ a=>QI id a
|.loop a=>QI id a
|.exit j=>bc (Nat.beq id j) 1 0
|.rangeFunc _ _ _ b=>bc (mem id (jx b)) 1 0
|_=>0
def ways:Code->Nat
|.skip=>1
|.region ..=>1
|.seq a b=>bc (Nat.beq (ways a) 0) 0 (ways b)
|.cond _ a b=>ways a+ways b
|.block id a=>ways a+QI id a
|.rangeFunc ..=>1
|_=>0
def keyOf:Code->Nat
|.region id ..=>id
|.seq a b=>bc (Nat.beq (keyOf a) 999999) (keyOf b) (keyOf a)
|.cond _ a b=>bc (Nat.beq (keyOf a) 999999) (keyOf b) (keyOf a)
|.block _ a=>keyOf a
|.loop a=>keyOf a
|.rangeFunc _ _ a b=>bc (Nat.beq (keyOf a) 999999) (keyOf b) (keyOf a)
|_=>999999
def look (k:Nat):List (Nat×List Nat)->List Nat
|[]=>[]
|p::l=>bc (Nat.beq p.1 k) p.2 (look k l)
def pos (i:Nat):List Nat->Option Nat
|[]=>av
|j::l=>bc (Nat.beq i j) (aw 0) ((pos i l).map (·+ 1))
def mix (σ:Sg)(A ls:List Nat)(vs:List ao)(j:Sg):Sg:=λi=>
 bc (mem i A) (match pos i ls with|some k=>vs.getD k undef|none=>j i) (σ i)
def pick (ls:List Nat)(σ:Sg):List Value:=
 match ls with
|[]=>[]
|i::l=>σ i::pick l σ
structure JoinX (F:(List ao->ak->Prop)->Prop) (R:List ao->ak->Prop):Prop where
 mk ::
 out:∀J:List ao->ak->Prop,(∀vs w,R vs w->J vs w)->F J
def AtX:List Deferred->List Deferred->Prop->Prop
|[],[],p=>p
|a,b,p=>a=b∧p
theorem AtX.out {a b:List Deferred}{p:Prop}(h:AtX a b p):a=b∧p:=by
 unfold AtX at h;split at h
 ·exact⟨rfl,h⟩
 ·exact h
structure IfX (v:ao) (A B:Prop):Prop where
 mk ::
 out:match v with
 |.bool b=>(b=au->A)∧(b=aq->B)
 |_=>False
structure LoopX (vs:List ao) (w:ak) (F:List ao->ak->(List ao->ak->Prop)->Prop):Prop where
 mk ::
 out:∃(I:List ao->ak->Prop) (μ:List ao->ak->Nat),I vs w∧∀vs w,I vs w->F vs w (λvs' w'=>I vs' w'∧μ vs' w' < μ vs w)
structure JoinD (F:(List Deferred->List ao->ak->Prop)->Prop) (R:List Deferred->List ao->ak->Prop):Prop where
 mk ::
 out:∀J:List Deferred->List ao->ak->Prop,(∀ds vs w,R ds vs w->J ds vs w)->F J
structure LoopD (ds:List Deferred) (vs:List ao) (w:ak) (F:List Deferred->List ao->ak->(List Deferred->List ao->ak->Prop)->Prop):Prop where
 mk ::
 out:∃(I:List Deferred->List ao->ak->Prop) (μ:List ao->ak->Nat),I ds vs w∧∀ds vs w,I ds vs w->F ds vs w (λds' vs' w'=>I ds' vs' w'∧μ vs' w' < μ vs w)
def Pz:Code->Bool
|.seq a b=>bc (Pz a) au (Pz b)
|.cond _ a b=>bc (Pz a) au (Pz b)
|.block _ a=>Pz a
|.loop a=>Pz a
|.rangeFunc ..=>au
|_=>aq
def mkB (ro:Option Nat)(c:Code):Bool:=match ro with|none=>Pz c|some _=>aq
structure QuietX (w:ak) (F:(ak->Prop)->Prop):Prop where
 mk ::
 out:∃C:ak->Prop,C w.drew∧F C
def Nf (Q:Ex)(K:Nx):Ex
|.normal,σ,ds,w=>K σ ds w
|e,σ,ds,w=>Q e σ ds w
def aaA (id:Nat)(Q:Ex):Ex
|.exit j,σ,ds,w=>bc (Nat.beq j id) (Q .normal σ ds w) (Q (.exit j) σ ds w)
|e,σ,ds,w=>Q e σ ds w
def putO (w:ak)(b:Nat)(o:Obj):World:={ w with heap:=w.heap.setIfInBounds b o }
def lp (L0:Loop)(st:LoopState)(pd:Option Code):Obj:=.loop { L0 with state:=st,pending:=pd }
def RetV (R:VWP):Ending->ak->Prop:=λe w'=>∃v,e=.returned v∧R v w'
def Yld (P:Program)(l:Nat)(args:List ao)(W:ak)(R:VWP):Prop:=
 ∃fn tmps asn bdy,(Instr.yield l args.toArray).run P W=.ok (.round l fn tmps asn bdy) W∧RoundIn Fence.wide 0 P l fn tmps asn bdy W (RetV R)
structure BegX (P:Program) (l:Nat) (W:ak) (K:ak->Prop):Prop where
 mk ::
 out:∃w2,(Instr.beginRound l).run P W=.ok () w2∧K w2
structure EndX (P:Program) (l:Nat) (j:Option Code) (W:ak) (R:VWP):Prop where
 mk ::
 out:∃v w',(Instr.endRound l j).run P W=.ok v w'∧R v w'
def LayR (w:ak):Option Nat->Nat->ak->Prop
|none,df,w0=>df=w.heap.size∧w0=w.alloc (.deferred (aw []))
|some l',df,w0=>∃r',w.heap[l']?=aw (.loop r')∧df=r'.defers∧w0=w
structure RangeX (P:Program) (ro:Option Nat) (np:Nat) (gv:ao) (w:ak) (B:Nat->List ao->ak->(VWP)->Prop) (js:List (Option Code×(Nat->ak->Prop))):Prop where
 mk ::
 out:∃f fa ca df w0,gv=.func (.func f) fa ca∧bZ P f=au∧LayR w ro df w0∧∀L0:Loop,L0.defers=df ->
  (∀l args W R,W.heap[l]?=aw (lp L0 .ready av)->args.length=np->B l args W R->Yld P l args W R) ->
  Calls P f (fa++#[.func (.yield w0.heap.size) #[] #[]]++ca) (w0.alloc (lp L0 .ready av)) λe w3=>
   ∃v st pd k,e=.returned v∧st≠.busy∧w3.heap[w0.heap.size]?=aw (lp L0 st pd)∧(pd,k)∈js∧k df (putO w3 w0.heap.size (lp L0 .exhausted pd))
def putL:List Nat->List ao->Nat->Sg->Sg
|[],_,_,σ=>σ
|p::ps,args,k,σ=>putL ps args (k+1) (upd σ p (args.getD k undef))
def QF (n:Nat):List Nat->Bool
|[]=>au
|p::ps=>bc (Nat.blt p n) (QF n ps) aq
def mkD (r:Nat):Deferred:={ target:=.collected r,args:=#[] }
def TA:Option Nat->Nat->List Deferred->List Deferred
|none,r,ds=>mkD r::ds
|some _,_,ds=>ds
def exJ (K:Nat->Nat->ak->Prop):List Nat->List (Option Code×(Nat->ak->Prop))
|[]=>[]
|i::l=>(aw (.exit i),K i)::exJ K l
def jsX (b:Code)(K:Exit->Nat->ak->Prop):List (Option Code×(Nat->ak->Prop)):=
 (av,K .normal)::bc (jr b) ((aw .ret,K .ret)::exJ (λi=>K (.exit i)) (jx b)) (exJ (λi=>K (.exit i)) (jx b))
def begQ (K:Sg->ak->Prop):Ex
|.normal,σ,[],w=>K σ w
|_,_,_,_=>False
def rndQ (P:Program)(l:Nat)(R:VWP):Ex
|.normal,_,_,w=>EndX P l av w R
|.ret,_,_,w=>EndX P l (aw .ret) w R
|.exit i,_,_,w=>EndX P l (aw (.exit i)) w R
|_,_,_,_=>False
structure PDo (P:Program) (m:Sem Next) (K:ao->Prop):Prop where
 mk ::
 out:∃v,(∀w,m.run P w=.ok (.value v) w)∧K v
def opP (P:Program)(o:Oper)(σ:Sg)(K:ao->Prop):Prop:=
 match o.op with
|.move x|.assign x=>K (rd σ x)
|_=>PDo P (Im (rd σ) o) K
def Kb (P:Program)(n:Nat):List (Nat×Oper)->(Sg->Prop)->Sg->Prop
|[],K,σ=>K σ
|p::r,K,σ=>bc (inB n p.2.dst) (bc p.2.guard.isNone (opP P p.2 σ (λv=>Kb P n r K (put σ p.2.dst v))) False) False
def numL:List Oper->Nat->List (Nat×Oper)
|[],_=>[]
|o::l,k=>(k,o)::numL l (k+1)
def aftL:List Edge->List Nat
|[]=>[]
|e::l=>bc (Region.binds .any e) (e.on::aftL l) (aftL l)
def goDn:List (Nat×Oper)->List Nat->List Nat
|[],S=>S
|p::r,S=>goDn r (bc (memN p.1 S) (aftL p.2.after.toList++S) S)
def outL (S:List Nat):List (Nat×Oper)->List Nat
|[]=>[]
|p::r=>bc (memN p.1 S) (outL S r) (p.1::outL S r)
def akY:List Oper->List Nat
|[]=>[]
|o::_=>aftL o.after.toList
def afA (ops:List Oper)(n:Nat):List Nat:=
 goDn (numL (ops.take n) 0).reverse (outL (goDn (numL (ops.take n) 0).reverse (akY (ops.drop n))) (numL (ops.take n) 0))
def selL (S:List Nat):List (Nat×Oper)->List (Nat×Oper)
|[]=>[]
|p::r=>bc (memN p.1 S) (p::selL S r) (selL S r)
def desL (S:List Nat):List (Nat×Oper)->List (Nat×Oper)
|[]=>[]
|p::r=>bc (memN p.1 S) (desL S r) (p::desL S r)
def pL (ops:List Oper)(n:Nat):List (Nat×Oper):=selL (afA ops n) (numL (ops.take n) 0)
def hL (ops:List Oper)(n:Nat):List (Nat×Oper):=desL (afA ops n) (numL (ops.take n) 0)
def HG (P:Program)(n:Nat)(ops:Array Oper)(Q:Ex)(σ:Sg)(ds:List Deferred)(w:ak):Prop:=
 bc (P.follows .mixedOrders&&sQ ops.toList)
  (DrawX w (λw=>anyX P n ops (λσ ds w=>Q .normal σ ds w) (λc σ ds w=>Q (.panic c) σ ds w) ops.size (Array.replicate ops.size aq) σ ds w))
  False
structure HDo (P:Program) (S:ak->Prop) (m:Sem Next) (K:ao->Prop):Prop where
 mk ::
 out:∃v,(∀w,S w->m.run P w=.ok (.value v) w)∧K v
structure HeldX (w:ak) (F:(ak->Prop)->ak->Prop):Prop where
 mk ::
 out:∃S:ak->Prop,S { w with drawn:=w.drawn+1 }∧F S { w with drawn:=w.drawn+1 }
def opH (P:Program)(S:ak->Prop)(o:Oper)(σ:Sg)(K:ao->Prop):Prop:=
 match o.op with
|.move x|.assign x=>K (rd σ x)
|_=>HDo P S (Im (rd σ) o) K
def PU (P:Program)(n:Nat)(ops:Array Oper)(S:ak->Prop)(o:Oper)(σ:Sg)(next:Sg->Prop):Prop:=
 bc (inB n o.dst)
  (match o.guard with
 |none=>opH P S o σ (λv=>next (put σ o.dst v))
 |some (j,want)=>
   match NH ops j with
  |some d=>bc (Nat.blt d n) (GQ (σ d) want (λK'=>opH P S o σ K') (λv=>next (put σ o.dst v))) False
  |none=>False)
  False
def Uu (o:Oper):Bool:=
 match o.op with
|.call { callee:=.builtin _,.. }=>aq
|.call _=>au
|_=>aq
def meets:List Nat->List Nat->Bool
|[],_=>aq
|i::l,S=>bc (memN i S) au (meets l S)
def sN:List Operand->List Nat
|[]=>[]
|.tmp t::l=>t::sN l
|_::l=>sN l
def optL:Option Operand->List Operand
|none=>[]
|some x=>[x]
def sndL:List (Nat×Operand)->List Operand
|[]=>[]
|p::l=>p.2::sndL l
def ZB:Op->List Nat
|.move x=>sN [x]
|.assign x=>sN [x]
|.load _ x=>sN [x]
|.nilCheck x=>sN [x]
|.unOp _ _ x=>sN [x]
|.convert _ _ x=>sN [x]
|.makeInterface _ x=>sN [x]
|.fieldAddr _ x _=>sN [x]
|.field _ x _=>sN [x]
|.entry x=>sN [x]
|.typeAssert x _ _ _=>sN [x]
|.extract x _=>sN [x]
|.pick c a b=>sN [c,a,b]
|.build _ ps=>sN (sndL ps.toList)
|.binOp _ _ a b _=>sN [a,b]
|.indexAddr _ a b=>sN [a,b]
|.index _ a b=>sN [a,b]
|.lookup _ a b _=>sN [a,b]
|.slice _ x l h m=>sN (x::optL l++optL h++optL m)
|.call c=>sN c.args.toList
|_=>[]
def DP (P:Program)(o:Oper):Bool:=
 match o.op with
|.move _=>au
|.assign _=>au
|.nilCheck _=>au
|.unOp _ _ _=>au
|.makeInterface _ _=>au
|.fieldAddr _ _ _=>au
|.field _ _ _=>au
|.extract _ _=>au
|.pick _ _ _=>au
|.build _ _=>au
|.binOp _ _ _ _ _=>au
|.indexAddr _ _ _=>au
|.index _ _ _=>au
|.slice _ _ _ _ _=>au
|.convert s _ _=>match P.underlying s with|some (.slice _)=>aq|_=>au
|.call { callee:=.builtin .len,.. }=>au
|.call { callee:=.builtin .cap,.. }=>au
|.call { callee:=.builtin .min,.. }=>au
|.call { callee:=.builtin .max,.. }=>au
|_=>aq
def ptrT (P:Program)(t:Nat):Bool:=match P.underlying t with|some (.pointer _)=>au|_=>aq
def adZ (P:Program)(o:Oper):Bool:=
 bc (ZZ P o) au
  (match o.op with
 |.call c=>bc (Uu o) (c.argTypes.toList.any (ptrT P)) aq
 |_=>aq)
def dstL:Option Nat->List Nat
|none=>[]
|some d=>[d]
def alP (o:Oper):Bool:=
 match o.op with
|.alloc _=>au
|.box ..=>au
|.buildSlice ..=>au
|_=>aq
def eL2 (P:Program)(m:Bool):List Oper->Nat->List Nat->List Nat->List Nat->List Nat
|[],_,_,_,S=>S
|o::l,k,T,W,S=>
  bc (afP P o||Uu o)
   (eL2 P m l (k+1) (dstL o.dst++T) (bc (bc (m&&alP o) aq (adZ P o)||meets (aftL o.after.toList) W) (k::W) W) (k::S))
   (eL2 P m l (k+1) (bc (meets (ZB o.op) T) (dstL o.dst++T) T) (bc (meets (aftL o.after.toList) W) (k::W) W)
    (bc (!(DP P o)&&(meets (ZB o.op) T||meets (aftL o.after.toList) W)) (k::S) S))
def eL (P:Program)(l:List Oper)(k:Nat)(S:List Nat):List Nat:=eL2 P (Nat.blt 70 l.length) l k [] [] S
def Lk (ops:Array Oper)(E:List Nat)(listed:Array Bool):List Nat->Option Nat
|[]=>av
|i::l=>bc (!(memN i E)&&Region.free .any ops listed i) (aw i) (Lk ops E listed l)
def isSt (o:Oper):Bool:=
 match o.op with
|.store ..=>au
|_=>aq
def Wm:List Oper->Bool
|[]=>aq
|o::l=>bc (isSt o) au (Wm l)
def isLk (o:Oper):Bool:=
 match o.op with
|.lookup ..=>au
|_=>aq
def ahW:List Oper->Bool
|[]=>aq
|o::l=>bc (isLk o) au (ahW l)
def isMu (o:Oper):Bool:=
 match o.op with
|.mapUpdate ..=>au
|_=>aq
def aiJ:List Oper->Bool
|[]=>aq
|o::l=>bc (isMu o) au (aiJ l)
def PN (l:List Oper):Bool:=bc (Wm l) au (bc (ahW l) (aiJ l) aq)
def X5 (P:Program)(E A:List Nat):List (Nat×Oper)->Bool
|[]=>aq
|p::r=>bc (memN p.1 E||(DP P p.2||memN p.1 A)) (X5 P E A r) au
def Mb (P:Program)(ops:Array Oper)(E:List Nat)(o:Oper):Bool:=bc (PN ops.toList) (X5 P E (aftL o.after.toList) (numL ops.toList 0)) au
def Y2 (P:Program)(ops:Array Oper)(S:ak->Prop)(o:Oper):ak->Prop:=bc (PN ops.toList&&DP P o) (λ_=>True) S
def Ay (P:Program)(n:Nat)(ops:Array Oper)(E:List Nat)(S:ak->Prop)(K:Nx)(PK:List PanicEntry->Nx):Nat->Array Bool->Sg->List Deferred->ak->Prop
|0,listed,σ,ds,w=>bc (isNil (Region.ready .any ops listed)) (K σ ds w) False
|f+1,listed,σ,ds,w=>
  bc (isNil (Region.ready .any ops listed)) (K σ ds w)
   (match Lk ops E listed (Region.ready .any ops listed) with
  |some i=>(match ops[i]? with
   |none=>False
   |some o=>PU P n ops (Y2 P ops S o) o σ (λσ'=>Ay P n ops E S K PK f (listed.setIfInBounds i au) σ' ds w))
  |none=>andL ((Region.ready .any ops listed).map λi=>match ops[i]? with
   |none=>False
   |some o=>HZ P n ops o σ w (λσ' w'=>bc (Mb P ops E o) (S w'∧Ay P n ops E S K PK f (listed.setIfInBounds i au) σ' ds w') (Ay P n ops E S K PK f (listed.setIfInBounds i au) σ' ds w')) (λc w=>PK c σ ds w)))
def Ug (P:Program)(n:Nat)(ops:Array Oper):Bool:=
 Nat.blt 5 ops.size&&(P.follows .mixedOrders&&(Region.noSelect ops&&(inBs n (desL (eL P ops.toList 0 []) (numL ops.toList 0))&&(CX P ops.toList&&sQ ops.toList))))
def DM (P:Program)(n:Nat)(ops:Array Oper)(Q:Ex)(σ:Sg)(ds:List Deferred)(w:ak):Prop:=
 bc (Ug P n ops)
  (HeldX w (λS w=>Ay P n ops (eL P ops.toList 0 []) S (λσ ds w=>Q .normal σ ds w) (λc=>pmX (desL (eL P ops.toList 0 []) (numL ops.toList 0)) (λσ ds w=>Q (.panic c) σ ds w)) ops.size (Array.replicate ops.size aq) σ ds w))
  (HG P n ops Q σ ds w)
def cntO (p:Oper->Bool):List Oper->Nat
|[]=>0
|o::l=>bc (p o) (cntO p l+1) (cntO p l)
def isIA (o:Oper):Bool:=
 match o.op with
|.indexAddr ..=>au
|_=>aq
def aaU (o:Oper):Bool:=
 match o.op with
|.call { callee:=.value (.func _),args,.. }=>Nat.beq args.size 3
|_=>aq
def X1 (l:List Oper):Bool:=Nat.beq (cntO aaU l) 1&&(Nat.beq (cntO Uu l) 1&&(Nat.beq (cntO isIA l) 2&&!(Wm l)))
def M3 (P:Program)(n:Nat)(ops:Array Oper):Bool:=Ug P n ops&&X1 ops.toList
def XG (P:Program):List (Nat×Oper)->Bool
|[]=>au
|p::r=>bc (DP P p.2) (XG P r) aq
def KZ (P:Program)(n:Nat)(ops:Array Oper)(Q:Ex)(σ:Sg)(ds:List Deferred)(w:ak):Prop:=
 bc ((Nat.blt 9 ops.size&&XG P (pL ops.toList (aT P ops.toList)))&&(P.follows .mixedOrders&&(RT ops (aT P ops.toList) (pL ops.toList (aT P ops.toList)) (hL ops.toList (aT P ops.toList))&&(inBs n (pL ops.toList (aT P ops.toList))&&(CX P (ops.toList.drop (aT P ops.toList))&&sQ ops.toList)))))
  (QuietX w (λC=>Kb P n (pL ops.toList (aT P ops.toList)) (λσ=>oE P n ops C (λσ=>∀w',C w'->opsX P av n ops (λσ ds w=>Q .normal σ ds w) (λc=>pmX (pL ops.toList (aT P ops.toList)) (λσ ds w=>Q (.panic c) σ ds w)) (ops.toList.drop (aT P ops.toList)) σ ds w')
   (snds (hL ops.toList (aT P ops.toList))) σ) σ))
  (DM P n ops Q σ ds w)
def wpX (P:Program)(n:Nat)(aj al:List (Nat×List Nat)):Option Nat->Code->Ex->Sg->List Deferred->ak->Prop
|ro,.skip,Q,σ,ds,w=>Q .normal σ ds w
|ro,.region _ ops draw,Q,σ,ds,w=>
  bc draw
   (bc (M3 P n ops) (DM P n ops Q σ ds w)
   (bc (Nat.beq (aT P ops.toList) ops.toList.length)
    (bc (P.follows .mixedOrders&&(Region.lexB .any ops&&sQ ops.toList))
     (QuietX w (λC=>oE P n ops C (λσ=>∀w',C w'->Q .normal σ ds w') ops.toList σ))
     (KZ P n ops Q σ ds w))
    (bc (P.follows .mixedOrders&&(Region.lexTailB .any ops (aT P ops.toList)&&(CX P (ops.toList.drop (aT P ops.toList))&&sQ ops.toList)))
     (QuietX w (λC=>oE P n ops C (λσ=>∀w',C w'->opsX P av n ops (λσ ds w=>Q .normal σ ds w) (λc σ ds w=>Q (.panic c) σ ds w) (ops.toList.drop (aT P ops.toList)) σ ds w') (ops.toList.take (aT P ops.toList)) σ))
     (bc (P.follows .mixedOrders&&(NU ops (aT P ops.toList) (mvL (ops.toList.take (aT P ops.toList)) 0 []) (hdL (ops.toList.take (aT P ops.toList)) 0 [])&&(inBs n (mvL (ops.toList.take (aT P ops.toList)) 0 [])&&(CX P (ops.toList.drop (aT P ops.toList))&&sQ ops.toList))))
      (QuietX w (λC=>oE P n ops C (λσ=>∀w',C w'->opsX P av n ops (λσ ds w=>Q .normal σ ds w) (λc=>pmX (mvL (ops.toList.take (aT P ops.toList)) 0 []) (λσ ds w=>Q (.panic c) σ ds w)) (ops.toList.drop (aT P ops.toList)) σ ds w')
       (snds (hdL (ops.toList.take (aT P ops.toList)) 0 [])) (T5 (mvL (ops.toList.take (aT P ops.toList)) 0 []) σ)))
      (KZ P n ops Q σ ds w)))))
   (opsX P ro n ops (λσ ds w=>Q .normal σ ds w) (λc σ ds w=>Q (.panic c) σ ds w) ops.toList σ ds w)
|ro,.seq a b,Q,σ,ds,w=>
  bc (Nat.ble (ways a) 1) (wpX P n aj al ro a (Nf Q (λσ ds w=>wpX P n aj al ro b Q σ ds w)) σ ds w)
   (bc (mkB ro a)
    (JoinD (λJ=>wpX P n aj al ro a (Nf Q (λσ' ds' w'=>J ds' (pick (look (keyOf b) aj) σ') w')) σ ds w)
     (λds' vs w'=>∀j,wpX P n aj al ro b Q (mix σ (asg a) (look (keyOf b) aj) vs j) ds' w'))
    (JoinX (λJ=>wpX P n aj al ro a (Nf Q (λσ' ds' w'=>AtX ds' ds (J (pick (look (keyOf b) aj) σ') w'))) σ ds w)
     (λvs w'=>∀j,wpX P n aj al ro b Q (mix σ (asg a) (look (keyOf b) aj) vs j) ds w')))
|ro,.cond c a b,Q,σ,ds,w=>IfX (rd σ c) (wpX P n aj al ro a Q σ ds w) (wpX P n aj al ro b Q σ ds w)
|ro,.block id a,Q,σ,ds,w=>wpX P n aj al ro a (aaA id Q) σ ds w
|ro,.loop a,Q,σ,ds,w=>
  bc (mkB ro a)
   (LoopD ds (pick (look (keyOf a) al) σ) w (λds vs w next=>∀j,wpX P n aj al ro a (Nf Q (λσ' ds' w'=>next ds' (pick (look (keyOf a) al) σ') w')) (mix σ (asg a) (look (keyOf a) al) vs j) ds w))
   (LoopX (pick (look (keyOf a) al) σ) w (λvs w next=>∀j,wpX P n aj al ro a (Nf Q (λσ' ds' w'=>AtX ds' ds (next (pick (look (keyOf a) al) σ') w'))) (mix σ (asg a) (look (keyOf a) al) vs j) ds w))
|ro,.exit id,Q,σ,ds,w=>Q (.exit id) σ ds w
|ro,.ret,Q,σ,ds,w=>Q .ret σ ds w
|ro,.rangeFunc g ps asn b,Q,σ,ds,w=>
  bc (QF n ps.toList)
   (RangeX P ro ps.toList.length (rd σ g) w
    (λl args W R=>wpX P n aj al (aw l) asn (begQ (λσ1 W1=>BegX P l W1 (λW2=>wpX P n aj al (aw l) b (rndQ P l R) σ1 [] W2))) (putL ps.toList args 0 σ) [] W)
    (jsX b (λe r W=>Q e σ (TA ro r ds) W)))
   False
|_,_,_,_,_,_=>False
end Eng
end
section
namespace Eng
open Go.RowKit
theorem beq_iff {a:Nat}:Nat.beq a b=au↔a=b:=by rw[Nat.beq_eq]
theorem mem_iff {i:Nat}:∀{l:List Nat},mem i l=au↔i∈l
|[]=>by simp[mem]
|j::l=>by simp[mem,mem_iff (l:=l),beq_iff]
def Off (A:List Nat)(σ σ':Sg):Prop:=∀i,mem i A=aq->σ' i=σ i
theorem Off.refl (A:List Nat)(σ:Sg):Off A σ σ:=λ_ _=>rfl
theorem Off.trans {A:List Nat}{a b c:Sg}(h:Off A a b)(k:Off A b c):Off A a c:=λi hi=>(k i hi).trans (h i hi)
theorem Off.mono {A:List Nat}{a b:Sg}(h:Off A a b)(hs:∀i,i∈A->i∈B):Off B a b:=λi hi=>h i (by
 cases hm:mem i A with
|false=>rfl
|true=>
  have:=mem_iff.2 (hs i (mem_iff.1 hm));rw[this] at hi;cases hi)
theorem Off.put {A:List Nat}(σ:Sg)(d:Option Nat)(v:ao)(h:∀i,d=aw i->i∈A):Off A σ (put σ d v):=by
 intro i hi;cases d with
|none=>rfl
|some d=>
  simp only[Eng.put,upd];cases hb:Nat.beq i d with
 |false=>rfl
 |true=>
   have e:=beq_iff.1 hb;subst e;rw[mem_iff.2 (h i rfl)] at hi;cases hi
theorem Cont.mono {K K':VWP}{PK PK':PKT}(h:∀v w,K v w->K' v w)(hp:∀c w,PK c w->PK' c w):∀e w,Cont K PK e w->Cont K' PK' e w
|.returned v,w=>h v w
|.panicked c,w=>hp c w
|.outgrown,_=>id
theorem Upon.mono {P:Program}{r:Result Next}{K K':VWP}{PK PK':PKT}(h:∀v w,K v w->K' v w)(hp:∀c w,PK c w->PK' c w)(hu:Upon P r K PK):Upon P r K' PK':=by
 unfold Upon at *;split at hu
 ·exact h _ _ hu
 ·exact h _ _ hu
 ·exact⟨Calls.mono hu.out (Cont.mono h hp)⟩
 ·exact⟨RoundIn.mono hu.out (Cont.mono h hp)⟩
 ·exact hp _ _ hu
 ·exact hu.elim
theorem opV.mono {P:Program}{o:Oper}{σ:Sg}{w:ak}{K K':VWP}{PK PK':PKT}(h:∀v w,K v w->K' v w)(hp:∀c w,PK c w->PK' c w)(hu:opV P o σ w K PK):opV P o σ w K' PK':=by
 unfold opV at *;split at hu
 ·exact h _ _ hu
 ·exact h _ _ hu
 ·cases hb:bZ P _ with
 |true=>rw[hb,aF] at hu;rw[aF];exact⟨Calls.mono hu.out (Cont.mono h hp)⟩
 |false=>rw[hb,aE] at hu;rw[aE];exact⟨Upon.mono h hp hu.out⟩
 ·exact hu.elim
 ·exact⟨Upon.mono h hp hu.out⟩
theorem opsX.eB {n:Nat}{K K':Nx}{PK PK':List PanicEntry->Nx}{A:List Nat}{σ₀:Sg}
  (h:∀σ ds w,Off A σ₀ σ->K σ ds w->K' σ ds w) (hp:∀c σ ds w,Off A σ₀ σ->PK c σ ds w->PK' c σ ds w) :
  ∀(l:List Oper) (σ:Sg) (ds:List Deferred) (w:ak),(∀i,i∈dsts l->i∈A)->Off A σ₀ σ->opsX P ro n ops K PK l σ ds w->opsX P ro n ops K' PK' l σ ds w:=by
 intro l
 induction l with
|nil=>intro σ ds w _ ho hu;exact h _ _ _ ho hu
|cons o rest ih=>
  intro σ ds w hA ho hu;have hA':∀i,i∈dsts rest->i∈A:=λi hi=>hA i (by unfold dsts;split<;>simp[hi]);have hput:∀v,Off A σ₀ (put σ o.dst v):=λv=>ho.trans (Off.put σ o.dst v (λi hi=>hA i (by simp[dsts,hi])));unfold opsX at hu ⊢;cases hd:inB n o.dst with
 |false=>rw[hd,aE] at hu;exact hu.elim
 |true=>
   rw[hd,aF] at hu;rw[aF];cases hg:o.guard with
  |none=>
    simp only[hg] at hu ⊢;split at hu
    ·rename_i c hc
     cases ro with
    |some _=>exact hu.elim
    |none=>
     simp only at hu ⊢;split at hu
     ·exact ih _ _ _ hA' (hput _) hu
     ·obtain⟨d,hdf,hu⟩:=hu.out;exact⟨d,hdf,ih _ _ _ hA' (hput _) hu⟩
    ·rename_i hnd
     exact opV.mono (λv w hk=>ih _ _ _ hA' (hput v) hk) (λc w hk=>hp c σ ds w ho hk) hu
  |some jw=>
    obtain⟨j,want⟩:=jw;simp only[hg] at hu ⊢;split at hu
    ·rename_i d hj
     cases hdn:Nat.blt d n with
    |false=>rw[hdn,aE] at hu;exact hu.elim
    |true=>
      rw[hdn,aF] at hu;rw[aF];refine⟨?_⟩
      replace hu:=hu.out
      cases hwv:kF (σ d) want with
     |true=>rw[hwv,aF] at hu;rw[aF];exact opV.mono (λv w hk=>ih _ _ _ hA' (hput v) hk) (λc w hk=>hp c σ ds w ho hk) hu
     |false=>rw[hwv,aE] at hu;rw[aE];exact ih _ _ _ hA' (hput _) hu
    ·exact hu.elim
theorem HZ.mono {P:Program}{n:Nat}{ops:Array Oper}{o:Oper}{σ:Sg}{w:ak}{K K':Sg->ak->Prop}{PK PK':PKT}(h:∀v w,K (put σ o.dst v) w->K' (put σ o.dst v) w)(hp:∀c w,PK c w->PK' c w)(hu:HZ P n ops o σ w K PK):HZ P n ops o σ w K' PK':=by
 unfold HZ at hu ⊢;cases hd:inB n o.dst with
|false=>rw[hd,aE] at hu;exact hu.elim
|true=>
  rw[hd,aF] at hu;rw[aF];cases hg:o.guard with
 |none=>simp only[hg] at hu ⊢;exact opV.mono h hp hu
 |some jw=>
   obtain⟨j,want⟩:=jw;simp only[hg] at hu ⊢;split at hu
   ·rename_i d hj
    cases hdn:Nat.blt d n with
   |false=>rw[hdn,aE] at hu;exact hu.elim
   |true=>
     rw[hdn,aF] at hu;rw[aF];refine⟨?_⟩
     replace hu:=hu.out
     cases hwv:kF (σ d) want with
    |true=>rw[hwv,aF] at hu;rw[aF];exact opV.mono h hp hu
    |false=>rw[hwv,aE] at hu;rw[aE];exact h _ _ hu
   ·exact hu.elim
theorem anyX.eB {P:Program}{n:Nat}{ops:Array Oper}{K K':Nx}{PK PK':List PanicEntry->Nx}{A:List Nat}{σ₀:Sg}(hA:∀o,o∈ops.toList->∀i,o.dst=aw i->i∈A)
  (h:∀σ ds w,Off A σ₀ σ->K σ ds w->K' σ ds w) (hp:∀c σ ds w,Off A σ₀ σ->PK c σ ds w->PK' c σ ds w) :
  ∀(fuel:Nat) (listed:Array Bool) (σ:Sg) (ds:List Deferred) (w:ak),Off A σ₀ σ->anyX P n ops K PK fuel listed σ ds w->anyX P n ops K' PK' fuel listed σ ds w
|0,listed,σ,ds,w,ho,hu=>by
  unfold anyX at hu ⊢;cases hn:isNil (Region.ready .any ops listed) with
 |false=>rw[hn,aE] at hu;exact hu.elim
 |true=>rw[hn,aF] at hu;rw[aF];exact h _ _ _ ho hu
|f+1,listed,σ,ds,w,ho,hu=>by
  unfold anyX at hu ⊢;cases hn:isNil (Region.ready .any ops listed) with
 |true=>rw[hn,aF] at hu;rw[aF];exact h _ _ _ ho hu
 |false=>
   rw[hn,aE] at hu;rw[aE];refine PF λp hpm=>?_;obtain⟨i,hi,rfl⟩:=apN.1 hpm;have h1:=FD hu _ (apN.2 ⟨i,hi,rfl⟩);cases hoi:ops[i]? with
  |none=>simp only[hoi] at h1
  |some o=>
    simp only[hoi] at h1 ⊢;have hmem:o∈ops.toList:=by
     have:=atW hoi;simpa using this
    exact HZ.mono (λv w hk=>anyX.eB hA h hp f _ _ ds w (ho.trans (Off.put σ o.dst v (λi hi=>hA o hmem i hi))) hk) (λc w hk=>hp c σ ds w ho hk) h1
theorem opQ.mono {o:Oper}{σ:Sg}{K K':ao->Prop}(h:∀v,K v->K' v)(hu:opQ P C o σ K):opQ P C o σ K':=by
 unfold opQ at *;split at hu
 ·exact h _ hu
 ·exact h _ hu
 ·cases hb:bZ P _ with
 |true=>rw[hb,aF] at hu;rw[aF];exact let ⟨v,a,b⟩:=hu.out;⟨v,a,h _ b⟩
 |false=>rw[hb,aE] at hu;rw[aE];exact let ⟨v,a,b⟩:=hu.out;⟨v,a,h _ b⟩
 ·exact let ⟨v,a,b⟩:=hu.out;⟨v,a,h _ b⟩
theorem oE.eB {n:Nat}{K K':Sg->Prop}{A:List Nat}{σ₀:Sg}
  (h:∀σ,Off A σ₀ σ->K σ->K' σ) :
  ∀(l:List Oper) (σ:Sg),(∀i,i∈dsts l->i∈A)->Off A σ₀ σ->oE P n ops C K l σ->oE P n ops C K' l σ:=by
 intro l
 induction l with
|nil=>intro σ _ ho hu;exact h _ ho hu
|cons o rest ih=>
  intro σ hA ho hu;have hA':∀i,i∈dsts rest->i∈A:=λi hi=>hA i (by unfold dsts;split<;>simp[hi]);have hput:∀v,Off A σ₀ (put σ o.dst v):=λv=>ho.trans (Off.put σ o.dst v (λi hi=>hA i (by simp[dsts,hi])));unfold oE at hu ⊢;cases hd:inB n o.dst with
 |false=>rw[hd,aE] at hu;exact hu.elim
 |true=>
   rw[hd,aF] at hu;rw[aF];cases hg:o.guard with
  |none=>
    simp only[hg] at hu ⊢;exact opQ.mono (λv hk=>ih _ hA' (hput v) hk) hu
  |some jw=>
    obtain⟨j,want⟩:=jw;simp only[hg] at hu ⊢;split at hu
    ·rename_i d hj
     cases hdn:Nat.blt d n with
    |false=>rw[hdn,aE] at hu;exact hu.elim
    |true=>
      rw[hdn,aF] at hu;rw[aF];refine⟨?_⟩
      replace hu:=hu.out
      cases hwv:kF (σ d) want with
     |true=>rw[hwv,aF] at hu;rw[aF];exact opQ.mono (λv hk=>ih _ hA' (hput v) hk) hu
     |false=>rw[hwv,aE] at hu;rw[aE];exact ih _ hA' (hput _) hu
    ·exact hu.elim
theorem opP.mono {o:Oper}{σ:Sg}{K K':ao->Prop}(h:∀v,K v->K' v)(hu:opP P o σ K):opP P o σ K':=by
 unfold opP at hu ⊢;split at hu
 ·exact h _ hu
 ·exact h _ hu
 ·obtain⟨v,h1,h2⟩:=hu.out;exact⟨v,h1,h _ h2⟩
theorem Kb.eB {P:Program}{n:Nat}{K K':Sg->Prop}{A:List Nat}{σ₀:Sg}(h:∀σ,Off A σ₀ σ->K σ->K' σ):∀(l:List (Nat×Oper)) (σ:Sg),(∀p,p∈l->∀i,p.2.dst=aw i->i∈A)->Off A σ₀ σ->Kb P n l K σ->Kb P n l K' σ
|[],σ,_,ho,hu=>h σ ho hu
|p::r,σ,hA,ho,hu=>by
  unfold Kb at hu ⊢;cases hd:inB n p.2.dst with
 |false=>rw[hd,aE] at hu;exact hu.elim
 |true=>
   rw[hd,aF] at hu;rw[aF];cases hg:p.2.guard.isNone with
  |false=>rw[hg,aE] at hu;exact hu.elim
  |true=>
    rw[hg,aF] at hu;rw[aF];exact hu.mono λv hk=>Kb.eB h r _ (λq hq=>hA q (apA _ hq)) (ho.trans (Off.put σ p.2.dst v (hA p (apU ..)))) hk
theorem HG.eB {P:Program}{n:Nat}{ops:Array Oper}{Q Q':Ex}{A:List Nat}{σ₀ σ:Sg}{ds:List Deferred}{w:ak}(hA:∀o,o∈ops.toList->∀i,o.dst=aw i->i∈A)
  (h:∀e σ ds w,Off A σ₀ σ->Q e σ ds w->Q' e σ ds w) (ho:Off A σ₀ σ) (hu:HG P n ops Q σ ds w):HG P n ops Q' σ ds w:=by
 unfold HG at hu ⊢;cases hb:(P.follows .mixedOrders&&sQ ops.toList) with
|false=>rw[hb,aE] at hu;exact hu.elim
|true=>
  rw[hb,aF] at hu;rw[aF];refine⟨?_⟩
  replace hu:=hu.out
  exact anyX.eB hA (λσ ds w ho hk=>h _ _ _ _ ho hk) (λc σ ds w ho hk=>h _ _ _ _ ho hk) _ _ _ _ _ ho hu
theorem gW {i:Nat}:∀{l:List Oper},i∈dsts l↔∃o,o∈l∧o.dst=aw i
|[]=>by simp[dsts]
|o::l=>by
  unfold dsts;split
  ·rename_i d hd
   simp only[aoM,gW (l:=l)];constructor
   ·rintro (rfl|⟨o',h1,h2⟩)
    ·exact⟨o,.inl rfl,hd⟩
    ·exact⟨o',.inr h1,h2⟩
   ·rintro⟨o',rfl|h1,h2⟩
    ·rw[hd] at h2;cases h2;exact .inl rfl
    ·exact .inr ⟨o',h1,h2⟩
  ·rename_i hd
   simp only[aoM,gW (l:=l)];constructor
   ·rintro⟨o',h1,h2⟩;exact⟨o',.inr h1,h2⟩
   ·rintro⟨o',rfl|h1,h2⟩
    ·rw[hd] at h2;cases h2
    ·exact⟨o',h1,h2⟩
theorem Us (l:List Oper):∀(k:Nat) (ms:List Nat) (p:Nat×Oper),p∈mvL l k ms->k<=p.1∧l[p.1 - k]?=aw p.2:=by
 induction l with
|nil=>intro k ms p h;cases h
|cons o l ih=>
  intro k ms p h;unfold mvL at h;cases hc:(isMv o&&Mq ms o) with
 |true=>
   rw[hc,aF] at h;rcases aoM.1 h with rfl|h
   ·exact⟨aoG _,sm⟩
   ·obtain⟨h1,h2⟩:=ih (k+1) _ p h;refine⟨om,?_⟩;rw[show p.1 - k=(p.1 - (k+1))+1 by omega];exact h2
 |false=>
   rw[hc,aE] at h;obtain⟨h1,h2⟩:=ih (k+1) _ p h;refine⟨om,?_⟩;rw[show p.1 - k=(p.1 - (k+1))+1 by omega];exact h2
theorem Wy (l:List Oper):∀(k:Nat) (ms:List Nat) (p:Nat×Oper),p∈hdL l k ms->k<=p.1∧l[p.1 - k]?=aw p.2:=by
 induction l with
|nil=>intro k ms p h;cases h
|cons o l ih=>
  intro k ms p h;unfold hdL at h;cases hc:(isMv o&&Mq ms o) with
 |false=>
   rw[hc,aE] at h;rcases aoM.1 h with rfl|h
   ·exact⟨aoG _,sm⟩
   ·obtain⟨h1,h2⟩:=ih (k+1) _ p h;refine⟨om,?_⟩;rw[show p.1 - k=(p.1 - (k+1))+1 by omega];exact h2
 |true=>
   rw[hc,aF] at h;obtain⟨h1,h2⟩:=ih (k+1) _ p h;refine⟨om,?_⟩;rw[show p.1 - k=(p.1 - (k+1))+1 by omega];exact h2
theorem M5 {o:Oper}:∀{l:List (Nat×Oper)},o∈snds l->∃p,p∈l∧p.2=o
|[],h=>by cases h
|p::l,h=>by
  rcases aoM.1 h with rfl|h
  ·exact⟨p,sm,rfl⟩
  ·obtain⟨q,h1,h2⟩:=M5 h;exact⟨q,by simp[h1],h2⟩
theorem V4 {A:List Nat}{σ₀:Sg}(ms:List (Nat×Oper)):∀(σ:Sg),(∀p,p∈ms->∀i,p.2.dst=aw i->i∈A)->Off A σ₀ σ->Off A σ₀ (T5 ms σ):=by
 induction ms with
|nil=>intro σ _ h;exact h
|cons p r ih=>
  intro σ hA h;exact ih _ (λq hq=>hA q (by simp[hq])) (h.trans (Off.put σ p.2.dst _ (λi hi=>hA p sm i hi)))
theorem Gk {A:List Nat}{σ₀:Sg}{K K':Nx}(h:∀σ ds w,Off A σ₀ σ->K σ ds w->K' σ ds w)(ms:List (Nat×Oper)):∀(σ:Sg) (ds:List Deferred) (w:ak),(∀p,p∈ms->∀i,p.2.dst=aw i->i∈A)->Off A σ₀ σ->pmX ms K σ ds w->pmX ms K' σ ds w:=by
 induction ms with
|nil=>intro σ ds w _ ho hk;exact h _ _ _ ho hk
|cons p r ih=>
  intro σ ds w hA ho hk u;exact ih _ _ _ (λq hq=>hA q (by simp[hq])) (ho.trans (Off.put σ p.2.dst _ (λi hi=>hA p sm i hi))) (hk u)
theorem MJ (l:List Oper):∀(k:Nat) (p:Nat×Oper),p∈numL l k->k<=p.1∧l[p.1 - k]?=aw p.2:=by
 induction l with
|nil=>intro k p h;cases h
|cons o l ih=>
  intro k p h;rcases aoM.1 h with rfl|h
  ·exact⟨aoG _,sm⟩
  ·obtain⟨h1,h2⟩:=ih (k+1) p h;refine⟨om,?_⟩;rw[show p.1 - k=(p.1 - (k+1))+1 by omega];exact h2
theorem Ni {S:List Nat}{p:Nat×Oper}:∀{l:List (Nat×Oper)},p∈selL S l->p∈l
|[],h=>by cases h
|q::l,h=>by
  unfold selL at h;cases hm:memN q.1 S with
 |true=>
   rw[hm,aF] at h;rcases aoM.1 h with rfl|h
   ·simp
   ·exact apA _ (Ni h)
 |false=>rw[hm,aE] at h;exact apA _ (Ni h)
theorem IE {S:List Nat}{p:Nat×Oper}:∀{l:List (Nat×Oper)},p∈desL S l->p∈l
|[],h=>by cases h
|q::l,h=>by
  unfold desL at h;cases hm:memN q.1 S with
 |true=>rw[hm,aF] at h;exact apA _ (IE h)
 |false=>
   rw[hm,aE] at h;rcases aoM.1 h with rfl|h
   ·simp
   ·exact apA _ (IE h)
theorem ZY {l:List Oper}{n:Nat}{p:Nat×Oper}(h:p∈pL l n):(l.take n)[p.1 - 0]?=aw p.2:=(MJ _ 0 p (Ni h)).2
theorem ZM {l:List Oper}{n:Nat}{p:Nat×Oper}(h:p∈hL l n):(l.take n)[p.1 - 0]?=aw p.2:=(MJ _ 0 p (IE h)).2
theorem opH.mono {S:ak->Prop}{o:Oper}{σ:Sg}{K K':ao->Prop}(h:∀v,K v->K' v)(hu:opH P S o σ K):opH P S o σ K':=by
 unfold opH at hu ⊢;split at hu
 ·exact h _ hu
 ·exact h _ hu
 ·obtain⟨v,h1,h2⟩:=hu.out;exact⟨v,h1,h _ h2⟩
theorem PU.mono {P:Program}{n:Nat}{ops:Array Oper}{S:ak->Prop}{o:Oper}{σ:Sg}{K K':Sg->Prop}(h:∀v,K (put σ o.dst v)->K' (put σ o.dst v))(hu:PU P n ops S o σ K):PU P n ops S o σ K':=by
 unfold PU at hu ⊢;cases hd:inB n o.dst with
|false=>rw[hd,aE] at hu;exact hu.elim
|true=>
  rw[hd,aF] at hu;rw[aF];cases hg:o.guard with
 |none=>simp only[hg] at hu ⊢;exact hu.mono h
 |some jw=>
   obtain⟨j,want⟩:=jw;simp only[hg] at hu ⊢;split at hu
   ·rename_i d hj
    cases hdn:Nat.blt d n with
   |false=>rw[hdn,aE] at hu;exact hu.elim
   |true=>
     rw[hdn,aF] at hu;rw[aF];refine⟨?_⟩
     replace hu:=hu.out
     cases hwv:kF (σ d) want with
    |true=>rw[hwv,aF] at hu;rw[aF];exact hu.mono h
    |false=>rw[hwv,aE] at hu;rw[aE];exact h _ hu
   ·exact hu.elim
theorem Ay.eB {P:Program}{n:Nat}{ops:Array Oper}{E:List Nat}{S:ak->Prop}{K K':Nx}{PK PK':List PanicEntry->Nx}{A:List Nat}{σ₀:Sg}(hA:∀o,o∈ops.toList->∀i,o.dst=aw i->i∈A)
  (h:∀σ ds w,Off A σ₀ σ->K σ ds w->K' σ ds w) (hp:∀c σ ds w,Off A σ₀ σ->PK c σ ds w->PK' c σ ds w) :
  ∀(fuel:Nat) (listed:Array Bool) (σ:Sg) (ds:List Deferred) (w:ak),Off A σ₀ σ->Ay P n ops E S K PK fuel listed σ ds w->Ay P n ops E S K' PK' fuel listed σ ds w
|0,listed,σ,ds,w,ho,hu=>by
  unfold Ay at hu ⊢;cases hn:isNil (Region.ready .any ops listed) with
 |false=>rw[hn,aE] at hu;exact hu.elim
 |true=>rw[hn,aF] at hu;rw[aF];exact h _ _ _ ho hu
|f+1,listed,σ,ds,w,ho,hu=>by
  unfold Ay at hu ⊢;cases hn:isNil (Region.ready .any ops listed) with
 |true=>rw[hn,aF] at hu;rw[aF];exact h _ _ _ ho hu
 |false=>
   rw[hn,aE] at hu;rw[aE];have mem:∀i o,ops[i]?=aw o->o∈ops.toList:=λi o hoi=>by
    have:=atW hoi;simpa using this
   cases hf:Lk ops E listed (Region.ready .any ops listed) with
  |some i=>
    simp only[hf] at hu ⊢;cases hoi:ops[i]? with
   |none=>simp only[hoi] at hu
   |some o=>
     simp only[hoi] at hu ⊢;exact hu.mono λv hk=>Ay.eB hA h hp f _ _ ds w (ho.trans (Off.put σ o.dst v (λi' hi=>hA o (mem i o hoi) i' hi))) hk
  |none=>
    simp only[hf] at hu ⊢;refine PF λp hpm=>?_;obtain⟨i,hi,rfl⟩:=apN.1 hpm;have h1:=FD hu _ (apN.2 ⟨i,hi,rfl⟩);cases hoi:ops[i]? with
   |none=>simp only[hoi] at h1
   |some o=>
     simp only[hoi] at h1 ⊢;refine HZ.mono (λv w hk=>?_) (λc w hk=>hp c σ ds w ho hk) h1;cases hnd:Mb P ops E o with
    |true=>rw[hnd,aF] at hk;rw[aF];exact⟨hk.1,Ay.eB hA h hp f _ _ ds w (ho.trans (Off.put σ o.dst v (λi' hi=>hA o (mem i o hoi) i' hi))) hk.2⟩
    |false=>rw[hnd,aE] at hk;rw[aE];exact Ay.eB hA h hp f _ _ ds w (ho.trans (Off.put σ o.dst v (λi' hi=>hA o (mem i o hoi) i' hi))) hk
theorem VJ {S:List Nat}{l:List Oper}{p:Nat×Oper}(h:p∈desL S (numL l 0)):l[p.1]?=aw p.2:=by
 have:=(MJ l 0 p (IE h)).2;simpa using this
theorem DM.eB {P:Program}{n:Nat}{ops:Array Oper}{Q Q':Ex}{A:List Nat}{σ₀ σ:Sg}{ds:List Deferred}{w:ak}(hA:∀o,o∈ops.toList->∀i,o.dst=aw i->i∈A)
  (h:∀e σ ds w,Off A σ₀ σ->Q e σ ds w->Q' e σ ds w) (ho:Off A σ₀ σ) (hu:DM P n ops Q σ ds w):DM P n ops Q' σ ds w:=by
 unfold DM at hu ⊢;cases hb:Ug P n ops with
|false=>
  rw[hb,aE] at hu;rw[aE];exact HG.eB hA h ho hu
|true=>
  rw[hb,aF] at hu;rw[aF];obtain⟨S,hS,hu⟩:=hu.out;refine⟨S,hS,?_⟩;have hAm:∀p,p∈desL (eL P ops.toList 0 []) (numL ops.toList 0)->∀i,p.2.dst=aw i->i∈A:=λp hp i hi=>
   hA p.2 (arN (VJ hp)) i hi
  exact Ay.eB hA (λσ ds w ho hk=>h _ _ _ _ ho hk) (λc σ ds w ho hk=>Gk (λσ ds w ho hk=>h _ _ _ _ ho hk) _ _ _ _ hAm ho hk) _ _ _ _ _ ho hu
theorem KZ.eB {P:Program}{n:Nat}{ops:Array Oper}{Q Q':Ex}{A:List Nat}{σ₀ σ:Sg}{ds:List Deferred}{w:ak}(hA:∀o,o∈ops.toList->∀i,o.dst=aw i->i∈A)
  (h:∀e σ ds w,Off A σ₀ σ->Q e σ ds w->Q' e σ ds w) (ho:Off A σ₀ σ) (hu:KZ P n ops Q σ ds w):KZ P n ops Q' σ ds w:=by
 unfold KZ at hu ⊢;have hm0:=@ZY ops.toList (aT P ops.toList);have hh0:=@ZM ops.toList (aT P ops.toList);generalize pL ops.toList (aT P ops.toList)=ms at *;generalize hL ops.toList (aT P ops.toList)=hs at *;cases hb:((Nat.blt 9 ops.size&&XG P ms)&&(P.follows .mixedOrders&&(RT ops (aT P ops.toList) ms hs&&(inBs n ms&&(CX P (ops.toList.drop (aT P ops.toList))&&sQ ops.toList))))) with
|false=>
  rw[hb,aE] at hu;rw[aE];exact DM.eB hA h ho hu
|true=>
  rw[hb,aF] at hu;rw[aF];obtain⟨C,hC,hu⟩:=hu.out;refine⟨C,hC,?_⟩;have hAm:∀p,p∈ms->∀i,p.2.dst=aw i->i∈A:=λp hp i hi=>
   hA p.2 (aqV (arN (hm0 hp))) i hi
  have hAh:∀i,i∈dsts (snds hs)->i∈A:=λi hi=>by
   obtain⟨o,ho,hd⟩:=gW.1 hi;obtain⟨p,hp,rfl⟩:=M5 ho;exact hA p.2 (aqV (arN (hh0 hp))) i hd
  have hAt:∀i,i∈dsts (ops.toList.drop (aT P ops.toList))->i∈A:=λi hi=>by
   obtain⟨o,ho,hd⟩:=gW.1 hi;exact hA o (arZ ho) i hd
  refine Kb.eB (λσ1 ho1 hk1=>?_) ms σ hAm ho hu;refine oE.eB (λσ' ho' hk w' hw'=>?_) _ _ hAh ho1 hk1;exact opsX.eB (λσ ds w ho hk=>h _ _ _ _ ho hk) (λc σ ds w ho hk=>Gk (λσ ds w ho hk=>h _ _ _ _ ho hk) ms _ _ _ hAm ho hk) _ _ _ _ hAt ho' (hk w' hw')
theorem MV {σ:Sg}{A ls:List Nat}{vs:List ao}{j:Sg}:Off A σ (mix σ A ls vs j):=by
 intro i hi;simp[mix,hi]
theorem Mr {K K':Nat->Nat->ak->Prop}(h:∀i r W,K i r W->K' i r W):∀{l:List Nat} {pd:Option Code} {k:Nat->ak->Prop},(pd,k)∈exJ K l->∃k',(pd,k')∈exJ K' l∧∀r W,k r W->k' r W
|[],_,_,hm=>by cases hm
|i::l,pd,k,hm=>by
  rcases aoM.1 hm with e|hm
  ·cases e;exact⟨K' i,by simp[exJ],λr W=>h i r W⟩
  ·obtain⟨k',h1,h2⟩:=Mr h hm;exact⟨k',aoM.2 (.inr h1),h2⟩
theorem Yo {b:Code}{K K':Exit->Nat->ak->Prop}(h:∀e r W,K e r W->K' e r W){pd:Option Code}{k:Nat->ak->Prop}(hm:(pd,k)∈jsX b K):∃k',(pd,k')∈jsX b K'∧∀r W,k r W->k' r W:=by
 unfold jsX at hm ⊢;rcases aoM.1 hm with e|hm
 ·cases e;exact⟨K' .normal,sm,λr W=>h _ r W⟩
 ·cases hr:jr b with
 |false=>
   rw[hr,aE] at hm;obtain⟨k',h1,h2⟩:=Mr (K':=λi=>K' (.exit i)) (λi r W=>h (.exit i) r W) hm;exact⟨k',by rw[aE];exact aoM.2 (.inr h1),h2⟩
 |true=>
   rw[hr,aF] at hm;rcases aoM.1 hm with e|hm
   ·cases e;exact⟨K' .ret,by rw[aF];simp,λr W=>h _ r W⟩
   ·obtain⟨k',h1,h2⟩:=Mr (K':=λi=>K' (.exit i)) (λi r W=>h (.exit i) r W) hm;exact⟨k',by rw[aF];exact aoM.2 (.inr (aoM.2 (.inr h1))),h2⟩
theorem afM {b:Code}{K:Exit->Nat->ak->Prop}{pd:Option Code}{k:Nat->ak->Prop}(hm:(pd,k)∈jsX b K) :
  (pd=av∧k=K .normal)∨(pd=aw .ret∧k=K .ret)∨∃i,pd=aw (.exit i)∧k=K (.exit i):=by
 have hex:∀{l:List Nat},(pd,k)∈exJ (λi=>K (.exit i)) l->∃i,pd=aw (.exit i)∧k=K (.exit i):=by
  intro l
  induction l with
 |nil=>intro h;cases h
 |cons i l ih=>
   intro h;rcases aoM.1 h with e|h
   ·cases e;exact⟨i,rfl,rfl⟩
   ·exact ih h
 unfold jsX at hm;rcases aoM.1 hm with e|hm
 ·cases e;exact .inl ⟨rfl,rfl⟩
 ·cases hr:jr b with
 |false=>rw[hr,aE] at hm;exact .inr (.inr (hex hm))
 |true=>
   rw[hr,aF] at hm;rcases aoM.1 hm with e|hm
   ·cases e;exact .inr (.inl ⟨rfl,rfl⟩)
   ·exact .inr (.inr (hex hm))
theorem Kf {Q:Ex}{σ:Sg}:aaA id Q (.exit j) σ ds w=bc (Nat.beq j id) (Q .normal σ ds w) (Q (.exit j) σ ds w):=rfl
theorem wpX.eB {P:Program}{n:Nat}{aj al:List (Nat×List Nat)}{ro:Option Nat}:∀(c:Code) (Q Q':Ex) (A:List Nat) (σ₀:Sg),
  (∀i,i∈asg c->i∈A)->(∀e σ ds w,Off A σ₀ σ->Q e σ ds w->Q' e σ ds w) ->
  ∀(σ:Sg) (ds:List Deferred) (w:ak),Off A σ₀ σ->wpX P n aj al ro c Q σ ds w->wpX P n aj al ro c Q' σ ds w:=by
 intro c
 induction c with
|skip=>intro Q Q' A σ₀ hA h σ ds w ho hu;exact h _ _ _ _ ho hu
|region id ops draw=>
  intro Q Q' A σ₀ hA h σ ds w ho hu;unfold wpX at hu ⊢;cases draw with
 |true=>
   rw[aF] at hu ⊢;cases hw:M3 P n ops with
  |true=>rw[hw,aF] at hu;rw[aF];exact DM.eB (λo ho i hi=>hA i (gW.2 ⟨o,ho,hi⟩)) h ho hu
  |false=>
   rw[hw,aE] at hu;rw[aE];cases hh:Nat.beq (aT P ops.toList) ops.toList.length with
  |true=>
    rw[hh,aF] at hu;rw[aF];cases hb:(P.follows .mixedOrders&&(Region.lexB .any ops&&sQ ops.toList)) with
   |false=>rw[hb,aE] at hu;rw[aE];exact KZ.eB (λo ho i hi=>hA i (gW.2 ⟨o,ho,hi⟩)) h ho hu
   |true=>
     rw[hb,aF] at hu;rw[aF];obtain⟨C,hC,hu⟩:=hu.out;refine⟨C,hC,?_⟩;exact oE.eB (λσ' ho' hk w' hw'=>h _ _ _ _ ho' (hk w' hw')) _ _ hA ho hu
  |false=>
    rw[hh,aE] at hu;rw[aE];cases hb:(P.follows .mixedOrders&&(Region.lexTailB .any ops (aT P ops.toList)&&(CX P (ops.toList.drop (aT P ops.toList))&&sQ ops.toList))) with
   |false=>
     rw[hb,aE] at hu;rw[aE];clear hb;have hm0:=Us (ops.toList.take (aT P ops.toList)) 0 [];have hh0:=Wy (ops.toList.take (aT P ops.toList)) 0 [];generalize mvL (ops.toList.take (aT P ops.toList)) 0 []=ms at *;generalize hdL (ops.toList.take (aT P ops.toList)) 0 []=hs at *;cases hb:(P.follows .mixedOrders&&(NU ops (aT P ops.toList) ms hs&&(inBs n ms&&(CX P (ops.toList.drop (aT P ops.toList))&&sQ ops.toList)))) with
    |false=>
      rw[hb,aE] at hu;rw[aE];exact KZ.eB (λo ho i hi=>hA i (gW.2 ⟨o,ho,hi⟩)) h ho hu
    |true=>
      rw[hb,aF] at hu;rw[aF];obtain⟨C,hC,hu⟩:=hu.out;refine⟨C,hC,?_⟩;have hAm:∀p,p∈ms->∀i,p.2.dst=aw i->i∈A:=λp hp i hi=>
       hA i (gW.2 ⟨p.2,aqV (arN (hm0 p hp).2),hi⟩)
      have hAh:∀i,i∈dsts (snds hs)->i∈A:=λi hi=>by
       obtain⟨o,ho,hd⟩:=gW.1 hi;obtain⟨p,hp,rfl⟩:=M5 ho;exact hA i (gW.2 ⟨p.2,aqV (arN (hh0 p hp).2),hd⟩)
      have hAt:∀i,i∈dsts (ops.toList.drop (aT P ops.toList))->i∈A:=λi hi=>by
       obtain⟨o,ho,hd⟩:=gW.1 hi;exact hA i (gW.2 ⟨o,arZ ho,hd⟩)
      refine oE.eB (λσ' ho' hk w' hw'=>?_) _ _ hAh (V4 ms _ hAm ho) hu;exact opsX.eB (λσ ds w ho hk=>h _ _ _ _ ho hk) (λc σ ds w ho hk=>Gk (λσ ds w ho hk=>h _ _ _ _ ho hk) ms _ _ _ hAm ho hk) _ _ _ _ hAt ho' (hk w' hw')
   |true=>
     rw[hb,aF] at hu;rw[aF];obtain⟨C,hC,hu⟩:=hu.out;refine⟨C,hC,?_⟩;have hsub:∀l l':List Oper,(∀o,o∈l->o∈l')->∀i,i∈dsts l->i∈dsts l':=by
      intro l l' hl i hi;rw[gW] at hi ⊢;obtain⟨o,ho,hd⟩:=hi;exact⟨o,hl o ho,hd⟩
     refine oE.eB (λσ' ho' hk w' hw'=>?_) _ _ (λi hi=>hA i (hsub _ _ (λo ho=>aqV ho) i hi)) ho hu;exact opsX.eB (λσ ds w ho hk=>h _ _ _ _ ho hk) (λc σ ds w ho hk=>h _ _ _ _ ho hk) _ _ _ _ (λi hi=>hA i (hsub _ _ (λo ho=>arZ ho) i hi)) ho' (hk w' hw')
 |false=>
   rw[aE] at hu ⊢;exact opsX.eB (λσ ds w ho hk=>h _ _ _ _ ho hk) (λc σ ds w ho hk=>h _ _ _ _ ho hk) _ _ _ _ hA ho hu
|seq a b iha ihb=>
  intro Q Q' A σ₀ hA h σ ds w ho hu;have hAa:∀i,i∈asg a->i∈A:=λi hi=>hA i (by simp[asg,hi]);have hAb:∀i,i∈asg b->i∈A:=λi hi=>hA i (by simp[asg,hi]);unfold wpX at hu ⊢;cases hw:Nat.ble (ways a) 1 with
 |true=>
   rw[hw,aF] at hu;rw[aF];refine iha _ _ A σ₀ hAa ?_ σ ds w ho hu;intro e σ' ds' w' ho' hk;cases e with
  |normal=>exact ihb _ _ A σ₀ hAb h σ' ds' w' ho' hk
  |_=>exact h _ _ _ _ ho' hk
 |false=>
   rw[hw,aE] at hu;rw[aE];cases hm:mkB ro a with
  |true=>
    rw[hm,aF] at hu;rw[aF];refine⟨λJ hJ=>?_⟩;have hu':=hu.out J (λds' vs w' hr=>hJ ds' vs w' (λj=>by
     refine ihb _ _ A σ₀ hAb h _ _ _ (ho.trans (MV.mono hAa)) (hr j)))
    refine iha _ _ A σ₀ hAa ?_ σ ds w ho hu';intro e σ' ds' w' ho' hk;cases e with
   |normal=>exact hk
   |_=>exact h _ _ _ _ ho' hk
  |false=>
   rw[hm,aE] at hu;rw[aE];refine⟨λJ hJ=>?_⟩;have hu':=hu.out J (λvs w' hr=>hJ vs w' (λj=>by
    refine ihb _ _ A σ₀ hAb h _ _ _ (ho.trans (MV.mono hAa)) (hr j)))
   refine iha _ _ A σ₀ hAa ?_ σ ds w ho hu';intro e σ' ds' w' ho' hk;cases e with
  |normal=>exact hk
  |_=>exact h _ _ _ _ ho' hk
|cond c a b iha ihb=>
  intro Q Q' A σ₀ hA h σ ds w ho hu;have hAa:∀i,i∈asg a->i∈A:=λi hi=>hA i (by simp[asg,hi]);have hAb:∀i,i∈asg b->i∈A:=λi hi=>hA i (by simp[asg,hi]);unfold wpX at hu ⊢;refine⟨?_⟩
  replace hu:=hu.out
  split at hu
  ·exact⟨λhb=>iha _ _ A σ₀ hAa h σ ds w ho (hu.1 hb),λhb=>ihb _ _ A σ₀ hAb h σ ds w ho (hu.2 hb)⟩
  ·exact hu.elim
|block id a iha=>
  intro Q Q' A σ₀ hA h σ ds w ho hu;unfold wpX at hu ⊢;refine iha _ _ A σ₀ hA ?_ σ ds w ho hu;intro e σ' ds' w' ho' hk;cases e with
 |exit j=>
   rw[Kf] at hk ⊢;cases hb:Nat.beq j id with
  |true=>rw[hb,aF] at hk;exact h _ _ _ _ ho' hk
  |false=>rw[hb,aE] at hk;exact h _ _ _ _ ho' hk
 |_=>exact h _ _ _ _ ho' hk
|loop a iha=>
  intro Q Q' A σ₀ hA h σ ds w ho hu;unfold wpX at hu ⊢;cases hm:mkB ro a with
 |true=>
   rw[hm,aF] at hu;rw[aF];obtain⟨I,μ,h0,hs⟩:=hu.out;refine⟨I,μ,h0,λds vs w hI j=>?_⟩;refine iha _ _ A σ₀ hA ?_ _ ds w (ho.trans (MV.mono hA)) (hs ds vs w hI j);intro e σ' ds' w' ho' hk;cases e with
  |normal=>exact hk
  |_=>exact h _ _ _ _ ho' hk
 |false=>
  rw[hm,aE] at hu;rw[aE];obtain⟨I,μ,h0,hs⟩:=hu.out;refine⟨I,μ,h0,λvs w hI j=>?_⟩;refine iha _ _ A σ₀ hA ?_ _ ds w (ho.trans (MV.mono hA)) (hs vs w hI j);intro e σ' ds' w' ho' hk;cases e with
 |normal=>exact hk
 |_=>exact h _ _ _ _ ho' hk
|exit id=>intro Q Q' A σ₀ hA h σ ds w ho hu;exact h _ _ _ _ ho hu
|ret=>intro Q Q' A σ₀ hA h σ ds w ho hu;exact h _ _ _ _ ho hu
|rangeFunc g ps asn b _ _=>
  intro Q Q' A σ₀ hA h σ ds w ho hu;unfold wpX at hu ⊢;cases hl:QF n ps.toList with
 |false=>rw[hl,aE] at hu;exact hu.elim
 |true=>
   rw[hl,aF] at hu;rw[aF];refine⟨?_⟩;obtain⟨f,fa,ca,df,w0,h1,h2,h3,h4⟩:=hu.out;refine⟨f,fa,ca,df,w0,h1,h2,h3,λL0 hL0 hY=>Calls.mono (h4 L0 hL0 hY) ?_⟩;rintro e w3 ⟨v,st,pd,k,he,hst,hw,hm,hk⟩;obtain⟨k',hm',hk'⟩:=Yo (b:=b) (K':=λe r W=>Q' e σ (TA ro r ds) W) (λe r W hq=>h e σ (TA ro r ds) W ho hq) hm;exact⟨v,st,pd,k',he,hst,hw,hm',hk' _ _ hk⟩
|scope a _=>intro Q Q' A σ₀ hA h σ ds w ho hu;exact hu.elim
|label l=>intro Q Q' A σ₀ hA h σ ds w ho hu;exact hu.elim
|goto l=>intro Q Q' A σ₀ hA h σ ds w ho hu;exact hu.elim
|refuse y=>intro Q Q' A σ₀ hA h σ ds w ho hu;exact hu.elim
theorem RC {σ:Sg}:∀{ls:List Nat} {i k:Nat},pos i ls=aw k->(pick ls σ).getD k undef=σ i
|[],i,k,h=>by cases h
|j::l,i,k,h=>by
  unfold pos at h;cases hb:Nat.beq i j with
 |true=>rw[hb,aF] at h;cases h;rw[beq_iff.1 hb];rfl
 |false=>
   rw[hb,aE] at h;cases hp:pos i l with
  |none=>rw[hp] at h;cases h
  |some m=>rw[hp] at h;cases h;simpa[pick] using RC hp
theorem IX {σ σ':Sg}{A ls:List Nat}(h:Off A σ σ'):mix σ A ls (pick ls σ') σ'=σ':=by
 funext i
 unfold mix;cases hm:mem i A with
|false=>rw[aE];exact (h i hm).symm
|true=>
  rw[aF];split
  ·rename_i k hk;exact RC hk
  ·rfl
def Fb (n:Nat)(Q:Ex)(e:Exit)(a:Act)(w:ak):Prop:=∃σ,Rep n σ a.tmps∧Q e σ a.defers w
theorem aeC (σ:Sg)(d:Option Nat)(x u:ao):put (put σ d x) d u=put σ d u:=by
 cases d with
|none=>rfl
|some d=>
  funext i
  simp only[put,upd];cases Nat.beq i d<;>rfl
def agG (σ:Sg):Option Nat->ao
|some i=>σ i
|none=>undef
theorem Za (σ:Sg)(d:Option Nat):put σ d (agG σ d)=σ:=by
 cases d with
|none=>rfl
|some d=>
  funext i
  simp only[put,upd];cases h:Nat.beq i d with
 |true=>have:=auO h;subst this;rfl
 |false=>rfl
theorem I2 {K:Nx}:∀(ms:List (Nat×Oper)) {σ:Sg} {ds:List Deferred} {w:ak},pmX ms K σ ds w->K σ ds w
|[],_,_,_,h=>h
|p::r,σ,ds,w,h=>by
  have h':=I2 r (h (agG σ p.2.dst))
  rwa [Za] at h'
theorem XV (σ:Sg){d e:Option Nat}(x u:ao)(h:d≠e):put (put σ e x) d u=put (put σ d u) e x:=by
 cases d with
|none=>rfl
|some i=>
  cases e with
 |none=>rfl
 |some j=>
   have hij:i≠j:=λhh=>h (by rw[hh])
   funext k
   simp only[put,upd];cases h1:Nat.beq k i with
  |true=>
    have:=auO h1;subst this;have h2:Nat.beq k j=false:=by
     cases h3:Nat.beq k j with
    |false=>rfl
    |true=>exact absurd (auO h3) hij
    rw[h2]
  |false=>cases Nat.beq k j<;>rfl
theorem PG {K:Nx}(x:ao)(p:Nat×Oper)(ms:List (Nat×Oper)):∀{σ:Sg} {ds:List Deferred} {w:ak},p∈ms->pmX ms K σ ds w->pmX ms K (put σ p.2.dst x) ds w:=by
 induction ms with
|nil=>intro σ ds w hp _;cases hp
|cons q r ih=>
  intro σ ds w hp h u;by_cases e:q.2.dst=p.2.dst
  ·have hh:pmX r K (put σ p.2.dst u) ds w:=by rw[<-e];exact h u
   rw[e,aeC];exact hh
  ·rcases aoM.1 hp with rfl|hp
   ·exact absurd rfl e
   ·rw[XV σ x u e];exact ih hp (h u)
theorem yX {l:List Oper}{n k:Nat}{o:Oper}(h:(l.take n)[k - 0]?=aw o):l.toArray[k]?=aw o:=by
 rw[atX,arB] at h;split at h
 ·simpa using h
 ·cases h
theorem OJ {n:Nat}:∀(ms:List (Nat×Oper)) (σ:Sg) (a:Act),inBs n ms=au->Rep n σ a.tmps->Rep n (T5 ms σ) (jU ms a).tmps∧(jU ms a).defers=a.defers
|[],σ,a,_,h=>⟨h,rfl⟩
|p::r,σ,a,hb,h=>by
  simp only[inBs,aoY] at hb;have e:mvX p.2 σ=PT p.2 a:=by
   unfold mvX PT;rw[h.eval]
   try (generalize p.2.op=x;cases x<;>rfl)
  obtain⟨h1,h2⟩:=OJ r (put σ p.2.dst (mvX p.2 σ)) (a.put p.2.dst (mvX p.2 σ)) hb.2 (h.put hb.1 _);unfold T5;rw[show jU (p::r) a=jU r (a.put p.2.dst (PT p.2 a)) from rfl,<-e];exact⟨h1,h2.trans (by cases p.2.dst<;>rfl)⟩
theorem Rq {n:Nat}:∀(ps:List Nat) (args:List ao) (k:Nat) (σ:Sg) (t:Array ao),QF n ps=au->Rep n σ t->k+ps.length<=args.length ->
  Rep n (putL ps args k σ) ((ps.zip (args.drop k)).foldl (λt x=>t.setIfInBounds x.1 x.2) t)
|[],args,k,σ,t,_,h,_=>by simpa[putL] using h
|p::ps,args,k,σ,t,hl,h,hk=>by
  unfold QF at hl;cases hp:Nat.blt p n with
 |false=>rw[hp,aE] at hl;cases hl
 |true=>
   rw[hp,aF] at hl;have hk2:k < args.length:=by simp only[apB] at hk;omega
   rw[apV hk2];simp only[List.zip_cons_cons,List.foldl_cons,putL];have hg:args.getD k undef=args[k]:=by simp[List.getD,hk2]
   rw[hg];have h':=Rep.put (a:={ tmps:=t,defers:=[] }) h (d:=aw p) (by simpa[inB] using hp) args[k];exact Rq ps args (k+1) _ _ hl h' (by simp only[apB] at hk;omega)
theorem sE {l:Nat}{r:Loop}(h:w.heap[l]?=aw (.loop r)):(Instr.getLoop l).run P w=.ok r w:=by
 have h1:(getObj l).run P w=.ok (.loop r) w:=by simp[getObj,Sem.run,h]
 unfold Instr.getLoop;rw[Sem.run_bind,h1];rfl
theorem GH {l:Nat}{r:Loop}{o':Obj}(h:w.heap[l]?=aw (.loop r)):(setObj l o').run P w=.ok () (putO w l o'):=by
 simp[setObj,Sem.run,h,putO]
theorem KM {l:Nat}(h:w.heap[l]?=aw (lp L0 .ready av)):(Instr.beginRound l).run P w=.ok () (putO w l (lp L0 .busy av)):=by
 unfold Instr.beginRound;rw[Sem.run_bind,sE h];simp only[Result.andThen];rw[Sem.run_bind,GH h];rfl
theorem NR {l:Nat}{j:Option Code}(h:w.heap[l]?=aw (lp L0 .busy av)):(Instr.endRound l j).run P w=.ok (.bool j.isNone) (putO w l (lp L0 (if j.isNone then .ready else .done) j)):=by
 unfold Instr.endRound;rw[Sem.run_bind,sE h];simp only[Result.andThen];rw[Sem.run_bind,GH h];rfl
theorem Qu {l:Nat}{st:LoopState}{j:Option Code}(hs:st≠.busy)(h:w.heap[l]?=aw (lp L0 st j)):(Instr.endLoop l).run P w=.ok j (putO w l (lp L0 .exhausted j)):=by
 unfold Instr.endLoop;rw[Sem.run_bind,sE h];simp only[Result.andThen];have hb:(st==LoopState.busy)=false:=by cases st<;>first|rfl|exact absurd rfl hs
 simp only[hb];rw[anW dc,Sem.run_bind,GH h];rfl
theorem P8 {n:Nat}{al:List (Nat×List Nat)}{g:Operand}{ps:Array Tmp}{asn b:Code}{Q:Ex}{σ:Sg}{a:Act}(hr:Rep n σ a.tmps)(hl:QF n ps.toList=au)
  {f:Nat} {fa ca:Array ao} {df:Nat} {w0:ak} (h1:rd σ g=.func (.func f) fa ca) (h2:bZ P f=au) (h3:LayR w ro df w0)
  (h4:∀L0:Loop,L0.defers=df ->
   (∀l args W R,W.heap[l]?=aw (lp L0 .ready av)->args.length=ps.toList.length ->
    wpX P n aj al (aw l) asn (begQ (λσ1 W1=>BegX P l W1 (λW2=>wpX P n aj al (aw l) b (rndQ P l R) σ1 [] W2))) (putL ps.toList args 0 σ) [] W->Yld P l args W R) ->
   Calls P f (fa++#[.func (.yield w0.heap.size) #[] #[]]++ca) (w0.alloc (lp L0 .ready av)) λe w3=>
    ∃v st pd k,e=.returned v∧st≠.busy∧w3.heap[w0.heap.size]?=aw (lp L0 st pd)∧(pd,k)∈jsX b (λe r W=>Q e σ (TA ro r a.defers) W)∧k df (putO w3 w0.heap.size (lp L0 .exhausted pd)))
  (iha:∀(ro:Option Nat) (Q:Ex) (σ:Sg) (a:Act) (w:ak),Rep n σ a.tmps->wpX P n aj al ro asn Q σ a.defers w->asn.wpIn (Fr ro) 0 P (Fb n Q) a w)
  (ihb:∀(ro:Option Nat) (Q:Ex) (σ:Sg) (a:Act) (w:ak),Rep n σ a.tmps->wpX P n aj al ro b Q σ a.defers w->b.wpIn (Fr ro) 0 P (Fb n Q) a w) :
  (Code.rangeFunc g ps asn b).wpIn (Fr ro) 0 P (Fb n Q) a w:=by
 refine wpIn_rangeFunc λfn _=>?_
 let L0:Loop:={ state:=.ready,pending:=av,fn,tmps:=a.tmps,params:=ps,assign:=asn,body:=b,defers:=df }
 let mark:List Deferred:=match ro with|none=>[mkD df]|some _=>[]
 have hmark:mark++a.defers=TA ro df a.defers:=by
  cases ro<;>rfl
 have henter:(Instr.enterLoop fn a.tmps ps asn b ro).run P w=.ok (w0.heap.size,mark) (w0.alloc (lp L0 .ready av)):=by
  cases ro with
 |none=>
   obtain⟨rfl,rfl⟩:=h3;simp[Instr.enterLoop,mark,L0,lp,mkD]
 |some l'=>
   obtain⟨r',hr',rfl,rfl⟩:=h3;unfold Instr.enterLoop;simp only[];rw[Sem.run_bind,sE hr'];simp[Result.andThen,mark,L0,lp]
 have hev:a.eval g=.func (.func f) fa ca:=by rw[hr.eval];exact h1
 refine⟨w0.heap.size,mark,_,{ target:=.fn (.func f) ca,args:=fa++#[.func (.yield w0.heap.size) #[] #[]] },w0.alloc (lp L0 .ready av),f,fa++#[.func (.yield w0.heap.size) #[] #[]]++ca,w0.alloc (lp L0 .ready av),henter,?_,λ_ _=>trivial,?_,λhx=>(by cases hx),?_⟩
 ·unfold resolve;simp only[rangeCall,List.map_toArray,aqL,asY];rw[hev];rfl
 ·simp only[invoke];exact nY h2 _ _
 ·refine Mi.2 (Calls.mono (h4 L0 rfl ?_) ?_)
  ·intro l args W R hW hlen hB;refine⟨fn,(ps.zip args.toArray).foldl (λtmps (t,a)=>tmps.setIfInBounds t a) a.tmps,asn,b,?_,?_⟩
   ·have hsz:args.toArray.size=ps.size:=by simpa using hlen
    unfold Instr.yield;rw[Sem.run_bind,sE hW];simp only[Result.andThen];rw[anW (by simpa[L0] using hsz)];rfl
   ·have hrep:Rep n (putL ps.toList args 0 σ) ((ps.zip args.toArray).foldl (λtmps (t,a)=>tmps.setIfInBounds t a) a.tmps):=by
     have:=Rq ps.toList args 0 σ a.tmps hl hr om;rw[aqH] at this;rw[<-Array.foldl_toList];simpa using this
    refine roundIn_of_wpIn (F:=Fence.wide) trivial ?_;refine Code.wpIn_mono ?_ (iha (aw l) _ _ { tmps:=(ps.zip args.toArray).foldl (λtmps (t,a)=>tmps.setIfInBounds t a) a.tmps,defers:=[] } W hrep hB);rintro e a1 w1 ⟨σ1,hr1,hk⟩;generalize hds:a1.defers=ds1 at hk;cases e<;>cases ds1<;>first|(exact hk.elim;done)|skip
    ·obtain⟨w2,hb2,hk2⟩:=BegX.out hk;refine⟨w2,hb2,?_⟩;have hbody:=ihb (aw l) (rndQ P l R) σ1 a1 w2 hr1 (by rw[hds];exact hk2);refine Code.wpIn_mono ?_ hbody;rintro e a2 w4 ⟨σ2,hr2,hk4⟩;cases e with
    |normal=>obtain⟨v,w',h5,h6⟩:=EndX.out hk4;exact⟨v,w',h5,v,rfl,h6⟩
    |ret=>obtain⟨v,w',h5,h6⟩:=EndX.out hk4;exact⟨v,w',h5,v,rfl,h6⟩
    |exit i=>obtain⟨v,w',h5,h6⟩:=EndX.out hk4;exact⟨v,w',h5,v,rfl,h6⟩
    |_=>exact hk4.elim
  ·rintro e w3 ⟨v,st,pd,k,rfl,hst,hw3,hm,hk⟩;refine⟨pd,putO w3 w0.heap.size (lp L0 .exhausted pd),Qu hst hw3,?_⟩;have fin:∀e:Exit,Q e σ (TA ro df a.defers) (putO w3 w0.heap.size (lp L0 .exhausted pd))->Fb n Q e { a with defers:=mark++a.defers } (putO w3 w0.heap.size (lp L0 .exhausted pd)):=λe hq=>
    ⟨σ,hr,by rw[<-hmark] at hq;exact hq⟩
   rcases afM hm with ⟨rfl,rfl⟩|⟨rfl,rfl⟩|⟨i,rfl,rfl⟩
   ·exact fin .normal hk
   ·exact wpIn_ret (fin .ret hk)
   ·exact wpIn_exit (fin (.exit i) hk)
theorem NQ {n:Nat}{Q:Ex}{σ:Sg}{a:Act}(hr:Rep n σ a.tmps)(h:HG P n ops Q σ a.defers w):(Code.region id ops au).wpIn (Fr ro) 0 P (Fb n Q) a w:=by
 unfold HG at h;cases hb:(P.follows .mixedOrders&&sQ ops.toList) with
|false=>rw[hb,aE] at h;exact h.elim
|true=>
  rw[hb,aF] at h;simp only[aoY] at hb;refine wpIn_region_any hb.1 (Le (K:=λσ ds w=>Q .normal σ ds w) (PK:=λc σ ds w=>Q (.panic c) σ ds w) hb.2 ?_ ?_ _ _ σ a _ hr h.out)
  ·rintro c a w ⟨σ,hr,h⟩;exact⟨σ,hr,h⟩
  ·rintro a w ⟨σ,hr,h⟩;exact⟨σ,hr,h⟩
theorem adG {n:Nat}{ms:List (Nat×Oper)}{K:Nx}(hb3:inBs n ms=au){p:Nat×Oper}(hp:p∈ms){a:Act}(he:oX n (pmX ms K) (a.put p.2.dst v) w):oX n (pmX ms K) a w:=by
 obtain⟨σ',hr',h'⟩:=he;have hin:inB n p.2.dst=true:=by
  have:∀l:List (Nat×Oper),inBs n l=au->p∈l->inB n p.2.dst=true:=by
   intro l
   induction l with
  |nil=>intro _ h;cases h
  |cons q l ih=>
    intro h1 h2;simp only[inBs,aoY] at h1;rcases aoM.1 h2 with rfl|h2
    ·exact h1.1
    ·exact ih h1.2 h2
  exact this ms hb3 hp
 cases hd:p.2.dst with
|none=>rw[hd] at hr' h';exact⟨σ',hr',h'⟩
|some i=>
  rw[hd] at hr' h' hin;refine⟨put σ' (aw i) (a.tmps.getD i undef),?_,?_⟩
  ·have:=Rep.put (a:=a.put (aw i) v) hr' hin (a.tmps.getD i undef);have e2:((a.put (aw i) v).put (aw i) (a.tmps.getD i undef)).tmps=a.tmps:=by
    have hi:i < a.tmps.size:=by
     have h3:a.tmps.size=n:=by have:=hr'.size;simpa[Act.put] using this
     have h4:i < n:=by simpa[inB,Nat.blt_eq] using hin
     rw[h3];exact h4
    simp only[Act.put];apply avW;intro j;by_cases hij:i=j
    ·subst hij;simp[hi]
    ·rw[asL hij,asL hij]
   rwa [e2] at this
  ·have:=PG (K:=K) (a.tmps.getD i undef) p ms hp h';rw[hd] at this;exact this
theorem RS {P:Program}:∀{l:List Oper},CX P l=au->∀o,o∈l->noRd P o=au
|[],_,o,h=>by cases h
|q::l,hb,o,h=>by
  simp only[CX,aoY] at hb;rcases aoM.1 h with rfl|h
  ·exact hb.1
  ·exact RS hb.2 o h
theorem YH {n:Nat}{o:Oper}{σ:Sg}{a:Act}{K:Nx}{PK:List PanicEntry->Nx}{next:Act->ak->Prop}(ho:ops[i]?=aw o)(hr:Rep n σ a.tmps)(hno:noRd P o=au)
  (hQ:∀c a w,oX n (PK c) a w->Q (.panic c) a w) (hnext:∀a w,oX n K a w->next a w)
  (h:HZ P n ops o σ w (λσ' w'=>K σ' a.defers w') (λc w=>PK c σ a.defers w)):wpOp P ops Q i next a w:=by
 unfold wpOp;simp only[ho];unfold HZ at h;cases hd:inB n o.dst with
|false=>rw[hd,aE] at h;exact h.elim
|true=>
  rw[hd,aF] at h;cases hg:o.guard with
 |none=>
   simp only[hg] at h;rw[anX (by simp[Region.wanted,hg])];exact .inl (Mm (K:=K) (PK:=PK) hr hd hQ hnext hno h)
 |some jw=>
   obtain⟨j,want⟩:=jw;simp only[hg] at h;split at h
   ·rename_i d hj
    cases hdn:Nat.blt d n with
   |false=>rw[hdn,aE] at h;exact h.elim
   |true=>
     rw[hdn,aF] at h;have hw:=vI hr hg hj hdn
     replace h:=h.out
     cases hwv:kF (σ d) want with
    |true=>
      rw[hwv,aF] at h;rw[anX (by rw[hw,hwv])];exact .inl (Mm (K:=K) (PK:=PK) hr hd hQ hnext hno h)
    |false=>
      rw[hwv,aE] at h;rw[anW (by rw[hw,hwv];simp)];have e:(a.put o.dst undef).defers=a.defers:=by cases o.dst<;>rfl
      exact hnext _ _ ⟨_,hr.put hd undef,by rw[e];exact h⟩
   ·exact h.elim
theorem YY {n:Nat}{S:ak->Prop}{o:Oper}{σ:Sg}{a:Act}{K:Sg->Prop}(hr:Rep n σ a.tmps)(h:PU P n ops S o σ K) :
  ∃v,YieldsIf P ops S o v a∧inB n o.dst=au∧K (put σ o.dst v):=by
 unfold PU at h;cases hd:inB n o.dst with
|false=>rw[hd,aE] at h;exact h.elim
|true=>
  rw[hd,aF] at h;have key:Region.wanted o (yielded ops a.tmps)=au->opH P S o σ (λv=>K (put σ o.dst v))->∃v,YieldsIf P ops S o v a∧au=au∧K (put σ o.dst v):=by
   intro hw h;unfold opH at h;split at h
   ·rename_i x hx
    refine⟨rd σ x,.inl ⟨hw,λw _=>?_⟩,rfl,h⟩;rw[hr.eval,show execOp (rd σ) o=pure (.value (rd σ x)) by unfold execOp;rw[hx]];rfl
   ·rename_i x hx
    refine⟨rd σ x,.inl ⟨hw,λw _=>?_⟩,rfl,h⟩;rw[hr.eval,show execOp (rd σ) o=pure (.value (rd σ x)) by unfold execOp;rw[hx]];rfl
   ·obtain⟨v,h1,h2⟩:=h.out;refine⟨v,.inl ⟨hw,λw hS=>?_⟩,rfl,h2⟩;rw[hr.eval,<-xK];exact h1 w hS
  cases hg:o.guard with
 |none=>
   simp only[hg] at h;exact key (by simp[Region.wanted,hg]) h
 |some jw=>
   obtain⟨j,want⟩:=jw;simp only[hg] at h;split at h
   ·rename_i d hj
    cases hdn:Nat.blt d n with
   |false=>rw[hdn,aE] at h;exact h.elim
   |true=>
     rw[hdn,aF] at h;have hw:=vI hr hg hj hdn
     replace h:=h.out
     cases hwv:kF (σ d) want with
    |true=>rw[hwv,aF] at h;exact key (by rw[hw,hwv]) h
    |false=>rw[hwv,aE] at h;exact⟨undef,.inr ⟨by rw[hw,hwv],rfl⟩,rfl,h⟩
   ·exact h.elim
theorem JA {ops:Array Oper}{E:List Nat}{listed:Array Bool}:∀{l:List Nat} {i:Nat},Lk ops E listed l=aw i->i∈l∧memN i E=aq∧Region.free .any ops listed i=au
|[],i,h=>by cases h
|k::l,i,h=>by
  unfold Lk at h;cases hb:(!(memN k E)&&Region.free .any ops listed k) with
 |true=>
   rw[hb,aF] at h;cases h;simp only[aoY,atV] at hb;exact⟨sm,hb.1,hb.2⟩
 |false=>
   rw[hb,aE] at h;obtain⟨h1,h2⟩:=JA h;exact⟨apA _ h1,h2⟩
theorem Q1 (l:List Oper):∀(k i:Nat) (o:Oper),l[i]?=aw o->(k+i,o)∈numL l k:=by
 induction l with
|nil=>intro k i o h;simp at h
|cons q l ih=>
  intro k i o h;cases i with
 |zero=>simp at h;subst h;simp[numL]
 |succ i=>
   have:=ih (k+1) i o (by simpa using h);rw[show k+1+i=k+(i+1) by omega] at this;exact apA _ this
theorem Qb {S:List Nat}{p:Nat×Oper}(hm:memN p.1 S=aq):∀{l:List (Nat×Oper)},p∈l->p∈desL S l
|[],h=>by cases h
|q::l,h=>by
  unfold desL;rcases aoM.1 h with rfl|h
  ·rw[hm,aE];simp
  ·cases memN q.1 S with
  |true=>rw[aF];exact Qb hm h
  |false=>rw[aE];exact apA _ (Qb hm h)
section
variable {P:Program}{md:Region.Mode}{ops:Array Oper}{Q:Exit->Act->ak->Prop}{S:ak->Prop}{need:Nat->Bool}
def wJ (P:Program)(md:Region.Mode)(ops:Array Oper)(Q:Exit->Act->ak->Prop)(S:ak->Prop)(need:Nat->Bool):Nat->Array Bool->Act->ak->Prop
|0,l,a,w=>Region.ready md ops l=[]∧Q .normal a w
|f+1,l,a,w=>(Region.ready md ops l=[]->Q .normal a w) ∧
  ∀i∈Region.ready md ops l,wpOp P ops Q i (λa' w'=>(need i=au->S w->S w')∧wJ P md ops Q S need f (l.setIfInBounds i au) a' w') a w
theorem wJ.any:∀(f:Nat) (l:Array Bool) (a:Act) (w:ak),wJ P md ops Q S need f l a w->wpAny P md ops Q f l a w
|0,_,_,_,h=>h
|f+1,_,_,_,h=>⟨h.1,λi hi=>wpOp_mono (λa' w' h'=>wJ.any f _ a' w' h'.2) (h.2 i hi)⟩
theorem wJ.done {l:Array Bool}{a:Act}{w:ak}(hr:Region.ready md ops l=[])(h:Q .normal a w):∀f,wJ P md ops Q S need f l a w
|0=>⟨hr,h⟩
|_+1=>⟨λ_=>h,by rw[hr];simp⟩
theorem wJ.first {T:ak->Prop}{oi:Oper}(hi:ops[i]?=aw oi)
  (hsel:∀(j:Nat) (o:Oper) cs b,ops[j]?=aw o->o.op≠.select cs b) (hQ:∀c a w,Q (.panic c) (a.put oi.dst v) w->Q (.panic c) a w)
  (hT:∀j oj,ops[j]?=aw oj->(∀e∈oj.after,Region.binds md e=au->e.on≠i)->∀w w',T w->(need j=au->S w->S w')->T w') :
  ∀(f:Nat) (l:Array Bool) (a:Act) (w:ak),(∀j oj,ops[j]?=aw oj->j≠i->l.getD j au=aq->(∀e∈oj.after,Region.binds md e=au->e.on≠i)->oi.apart ops oj=au) ->
   i∈Region.ready md ops l->YieldsIf P ops T oi v a->T w->wJ P md ops Q S need f (l.setIfInBounds i au) (a.put oi.dst v) w->wJ P md ops Q S need (f+1) l a w:=by
 intro f
 induction f with
|zero=>
  intro l a w _ hr hy hS H;refine⟨λh=>absurd hr (by rw[h];simp),λj hj=>?_⟩;rcases Decidable.em (j=i) with rfl|hji
  ·exact hy.wpOp hi hS ⟨λ_ h=>h,H⟩
  ·have hm:=ready_mono hj hji;rw[H.1] at hm;simp at hm
|succ f ih=>
  intro l a w hfr hr hy hS H;refine⟨λh=>absurd hr (by rw[h];simp),λj hj=>?_⟩;rcases Decidable.em (j=i) with rfl|hji
  ·exact hy.wpOp hi hS ⟨λ_ h=>h,H⟩
  obtain⟨hl,oj,hoj,haf⟩:=mem_ready.1 hj;have hli:=(mem_ready.1 hr).1;have hno:∀e∈oj.after,Region.binds md e=au->e.on≠i:=by
   intro e he hb hx;have h1:=haf e he hb;rw[hx] at h1;rcases apD i l.size with h'|h'
   ·simp[h'] at hli h1;rw[hli] at h1;cases h1
   ·simp[Array.getElem?_eq_none h'] at h1
  have hstep:=wpOp_putIf hoj (hfr j oj hoj hji hl hno) (λcs b=>hsel i oi cs b hi) (λcs b=>hsel j oj cs b hoj) hQ hy (H.2 j (ready_mono hj hji));refine wpOp_mono (λa' w' h3=>?_) hstep;obtain⟨hy',hS',H'⟩:=h3;refine⟨hS',ih _ a' w' ?_ (ready_mono hr (Ne.symm hji)) hy' (hT j oj hoj hno w w' hS hS') ?_⟩
  ·intro k ok hk hki hkl hkn;refine hfr k ok hk hki ?_ hkn;rcases Decidable.em (j=k) with rfl|hjk
   ·exact hl
   ·rwa [getD_set_ne au hjk] at hkl
  ·rw[avU _ _ hji];exact H'
end
theorem Nh {i:Nat}:∀{l:List Edge},memN i (aftL l)=au->∃e∈l,Region.binds .any e=au∧e.on=i
|e::l,h=>by
  unfold aftL at h;cases hb:Region.binds .any e with
 |true=>
   rw[hb,aF] at h;unfold memN at h;cases hx:Nat.beq i e.on with
  |true=>exact⟨e,sm,hb,(auO hx).symm⟩
  |false=>
    rw[hx] at h;obtain⟨e',h1,h2⟩:=Nh (l:=l) h;exact⟨e',apA _ h1,h2⟩
 |false=>
   rw[hb,aE] at h;obtain⟨e',h1,h2⟩:=Nh (l:=l) h;exact⟨e',apA _ h1,h2⟩
theorem LW {P:Program}{E A:List Nat}{i:Nat}{o:Oper}(he:memN i E=aq)(hp:DP P o=aq)(ha:memN i A=aq):∀{r:List (Nat×Oper)},(i,o)∈r->X5 P E A r=au
|p::r,h=>by
  unfold X5;rcases aoM.1 h with rfl|h
  ·simp only[he,hp,ha,Bool.or_self,aE]
  ·have:=LW he hp ha h;cases memN p.1 E<;>cases DP P p.2<;>cases memN p.1 A<;>simp[aF,aE,this]
theorem Oy {E:List Nat}{o oj:Oper}(ho:ops[i]?=aw o)(he:memN i E=aq)(hp:(PN ops.toList&&DP P o)=aq)(hno:∀e∈oj.after,Region.binds .any e=au->e.on≠i):Mb P ops E oj=true:=by
 unfold Mb;cases hs:PN ops.toList with
|false=>rfl
|true=>
  rw[aF];rw[hs,Bool.true_and] at hp;have:=Q1 ops.toList 0 i o (by simpa using ho);rw[aoN] at this;refine LW he hp ?_ this;cases hm:memN i (aftL oj.after.toList) with
 |false=>rfl
 |true=>
   obtain⟨e,h1,h2,h3⟩:=Nh hm;exact absurd h3 (hno e (by simpa using h1) h2)
def Yf (P:Program)(ops:Array Oper)(E:List Nat)(j:Nat):Bool:=match ops[j]? with
|some o=>Mb P ops E o
|none=>aq
theorem xQ {P:Program}{n:Nat}{ops:Array Oper}{E:List Nat}{S:ak->Prop}{K:Nx}{PK:List PanicEntry->Nx}{Q:Exit->Act->ak->Prop}(hsel:Region.noSelect ops=au)(hnr:CX P ops.toList=au)(hb:inBs n (desL E (numL ops.toList 0))=au)
  (hQ:∀c a w,oX n (pmX (desL E (numL ops.toList 0)) (PK c)) a w↔Q (.panic c) a w) (hK:∀a w,oX n K a w->Q .normal a w) :
  ∀(fuel:Nat) (listed:Array Bool) (σ:Sg) (a:Act) (w:ak),Rep n σ a.tmps->(∀i o,ops[i]?=aw o->memN i E=aq->(PN ops.toList&&DP P o)=aq->listed.getD i au=aq->S w) ->
   Ay P n ops E S K (λc=>pmX (desL E (numL ops.toList 0)) (PK c)) fuel listed σ a.defers w->wJ P .any ops Q S (Yf P ops E) fuel listed a w
|0,listed,σ,a,w,hr,hS,h=>by
  unfold Ay at h;cases hn:isNil (Region.ready .any ops listed) with
 |false=>rw[hn,aE] at h;exact h.elim
 |true=>rw[hn,aF] at h;exact⟨xH.1 hn,hK _ _ ⟨σ,hr,h⟩⟩
|f+1,listed,σ,a,w,hr,hS,h=>by
  unfold Ay at h;cases hn:isNil (Region.ready .any ops listed) with
 |true=>
   rw[hn,aF] at h;exact wJ.done (xH.1 hn) (hK _ _ ⟨σ,hr,h⟩) _
 |false=>
   rw[hn,aE] at h;cases hf:Lk ops E listed (Region.ready .any ops listed) with
  |some i=>
    simp only[hf] at h;cases hoi:ops[i]? with
   |none=>simp only[hoi] at h
   |some o=>
     simp only[hoi] at h;obtain⟨hm,he,hfr⟩:=JA hf;obtain⟨v,hy,hd,hk⟩:=YY hr h;have hp:(i,o)∈desL E (numL ops.toList 0):=by
      have:=Q1 ops.toList 0 i o (by simpa using hoi);rw[aoN] at this;exact Qb he this
     have hli:=(mem_ready.1 hm).1;have e:(a.put o.dst v).defers=a.defers:=by cases o.dst<;>rfl
     refine wJ.first (T:=Y2 P ops S o) hoi (Region.noSelect_spec hsel) (λc a w hq=>(hQ c a w).1 (adG hb hp ((hQ c _ w).2 hq))) ?_ f listed a w (Region.free_spec hoi hfr) hm hy ?_
      (xQ hsel hnr hb hQ hK f _ (put σ o.dst v) (a.put o.dst v) w (hr.put hd v) ?_ (by rw[e];exact hk))
     ·intro j oj hoj hno w1 w2 hT hS2;unfold Y2 at hT ⊢;cases hst:PN ops.toList&&DP P o with
     |true=>rw[aF];trivial
     |false=>
       rw[hst,aE] at hT;rw[aE];refine hS2 ?_ hT;unfold Yf;rw[hoj];exact Oy hoi he hst hno
     ·unfold Y2;cases hst:PN ops.toList&&DP P o with
     |true=>rw[aF];trivial
     |false=>rw[aE];exact hS i o hoi he hst hli
     ·intro k ok hok hke hkp hkl;refine hS k ok hok hke hkp ?_;rcases Decidable.em (i=k) with rfl|hik
      ·exact hli
      ·rwa [getD_set_ne au hik] at hkl
  |none=>
    simp only[hf] at h;refine⟨λhe=>(by rw[xH.2 he] at hn;cases hn),λi hi=>?_⟩;have h1:=FD h _ (apN.2 ⟨i,hi,rfl⟩);cases hoi:ops[i]? with
   |none=>simp only[hoi] at h1
   |some o=>
     simp only[hoi] at h1;have hmem:o∈ops.toList:=by
      have:=atW hoi;simpa using this
     refine YH (K:=λσ' ds' w'=>bc (Mb P ops E o) (S w'∧Ay P n ops E S K (λc=>pmX (desL E (numL ops.toList 0)) (PK c)) f (listed.setIfInBounds i au) σ' ds' w') (Ay P n ops E S K (λc=>pmX (desL E (numL ops.toList 0)) (PK c)) f (listed.setIfInBounds i au) σ' ds' w')) (PK:=λc=>pmX (desL E (numL ops.toList 0)) (PK c)) hoi hr (RS hnr o hmem) (λc a w hc=>(hQ c a w).1 hc) ?_ h1;rintro a' w' ⟨σ',hr',h'⟩;have hneed:Yf P ops E i=Mb P ops E o:=by unfold Yf;rw[hoi]
     obtain⟨hi0,oi',hoi',haf⟩:=mem_ready.1 hi;rw[hoi] at hoi';cases hoi';cases hnd:Mb P ops E o with
    |true=>
      rw[hnd,aF] at h';exact⟨λ_ _=>h'.1,xQ hsel hnr hb hQ hK f _ σ' a' w' hr' (λ_ _ _ _ _ _=>h'.1) h'.2⟩
    |false=>
      rw[hnd,aE] at h';refine⟨λhx=>(by rw[hneed,hnd] at hx;cases hx),xQ hsel hnr hb hQ hK f _ σ' a' w' hr' ?_ h'⟩;intro k ok hok hke hkp hkl;exfalso;have hkl2:listed.getD k au=false:=by
       rcases Decidable.em (i=k) with rfl|hik
       ·exact hi0
       ·rwa [getD_set_ne au hik] at hkl
      have:Mb P ops E o=true:=Oy hok hke hkp (λe he hbd hx=>by
       have h1:=haf e he hbd;rw[hx] at h1;rcases apD k listed.size with h'|h'
       ·simp[h'] at hkl2 h1;rw[hkl2] at h1;cases h1
       ·simp[Array.getElem?_eq_none h'] at h1)
      rw[hnd] at this;cases this
theorem Hh {n:Nat}{Q:Ex}{σ:Sg}{a:Act}(hr:Rep n σ a.tmps)(h:DM P n ops Q σ a.defers w):(Code.region id ops au).wpIn (Fr ro) 0 P (Fb n Q) a w:=by
 unfold DM at h;cases hb:Ug P n ops with
|false=>rw[hb,aE] at h;exact NQ hr h
|true=>
  rw[hb,aF] at h;unfold Ug at hb;simp only[aoY] at hb;obtain⟨-,hb1,hb2,hb3,hb4,hb5⟩:=hb;obtain⟨S,hS,h⟩:=h.out;refine Be hb1 hb5 ?_;have key:=wJ.any _ _ _ _ (xQ (S:=S) (E:=eL P ops.toList 0 []) (K:=λσ ds w=>Q .normal σ ds w) (PK:=λc σ ds w=>Q (.panic c) σ ds w) (Q:=λe a w=>match e with
   |.panic c=>oX n (pmX (desL (eL P ops.toList 0 []) (numL ops.toList 0)) (λσ ds w=>Q (.panic c) σ ds w)) a w
   |e=>Ir (Fb n Q) e a w) hb2 hb4 hb3 (λc a w=>Iff.rfl) (λa w hk=>by obtain⟨σ,hr,h⟩:=hk;exact⟨σ,hr,h⟩) ops.size (Array.replicate ops.size aq) σ a { w with drawn:=w.drawn+1 } hr (λ_ _ _ _ _ _=>hS) h)
  refine YE ?_ _ _ _ _ key;intro e a w he;cases e<;>first|exact he|skip
  obtain⟨σ,hr,h⟩:=he;exact⟨σ,hr,I2 _ h⟩
theorem JF {P:Program}{n:Nat}{ops:Array Oper}{K:Sg->Prop}{L:Act->Prop}{ds:List Deferred}(hK:∀σ a,Rep n σ a.tmps->a.defers=ds->K σ->L a):∀(ms:List (Nat×Oper)) (σ:Sg) (a:Act),Rep n σ a.tmps->a.defers=ds->Kb P n ms K σ->JZ P ops L ms a
|[],σ,a,hr,hd,h=>hK σ a hr hd h
|p::r,σ,a,hr,hd,h=>by
  unfold Kb at h;cases hb:inB n p.2.dst with
 |false=>rw[hb,aE] at h;exact h.elim
 |true=>
   rw[hb,aF] at h;cases hg:p.2.guard.isNone with
  |false=>rw[hg,aE] at h;exact h.elim
  |true=>
    rw[hg,aF] at h;have hw:Region.wanted p.2 (yielded ops a.tmps)=true:=by
     have:p.2.guard=none:=by simpa using hg
     simp[Region.wanted,this]
    have next:∀v,Kb P n r K (put σ p.2.dst v)->JZ P ops L r (a.put p.2.dst v):=λv hv=>
     JF hK r (put σ p.2.dst v) (a.put p.2.dst v) (hr.put hb v) (by rw[<-hd];cases p.2.dst<;>rfl) hv
    unfold opP at h;split at h
    ·rename_i x hx
     refine⟨rd σ x,.inl ⟨hw,λw=>?_⟩,next _ h⟩;rw[hr.eval,show execOp (rd σ) p.2=pure (.value (rd σ x)) by unfold execOp;rw[hx]];rfl
    ·rename_i x hx
     refine⟨rd σ x,.inl ⟨hw,λw=>?_⟩,next _ h⟩;rw[hr.eval,show execOp (rd σ) p.2=pure (.value (rd σ x)) by unfold execOp;rw[hx]];rfl
    ·obtain⟨v,h1,h2⟩:=h.out;refine⟨v,.inl ⟨hw,λw=>?_⟩,next _ h2⟩;rw[hr.eval,<-xK];exact h1 w
theorem Jz {n:Nat}{Q:Ex}{σ:Sg}{a:Act}(hr:Rep n σ a.tmps)(h:KZ P n ops Q σ a.defers w):(Code.region id ops au).wpIn (Fr ro) 0 P (Fb n Q) a w:=by
 unfold KZ at h;have hm0:=@ZY ops.toList (aT P ops.toList);have hh0:=@ZM ops.toList (aT P ops.toList);generalize pL ops.toList (aT P ops.toList)=ms at *;generalize hL ops.toList (aT P ops.toList)=hs at *;have harr:ops.toList.toArray=ops:=sm
 cases hb:((Nat.blt 9 ops.size&&XG P ms)&&(P.follows .mixedOrders&&(RT ops (aT P ops.toList) ms hs&&(inBs n ms&&(CX P (ops.toList.drop (aT P ops.toList))&&sQ ops.toList))))) with
|false=>
  rw[hb,aE] at h;exact Hh hr h
|true=>
  rw[hb,aF] at h;simp only[aoY] at hb;obtain⟨-,hb1,hb2,hb3,hb4,hb5⟩:=hb;obtain⟨C,hC,h⟩:=h.out;refine Be hb1 hb5 ?_;have key:=KI (P:=P) (Q:=Ir (Fb n Q)) (Q':=λe a w=>match e with
   |.panic c=>oX n (pmX ms (λσ ds w=>Q (.panic c) σ ds w)) a w
   |e=>Ir (Fb n Q) e a w) (a:=a) (w:=w) (l:=ops.toList) (C:=C) (aT P ops.toList) ms hs (by rw[harr];exact hb2) hC
   (λp hp=>yX (hm0 hp)) (λp hp=>yX (hh0 hp))
   (λe a w he=>by
    cases e<;>first|exact he|skip
    obtain⟨σ,hr,h⟩:=he;exact⟨σ,hr,I2 ms h⟩)
   (λp hp v c a w he=>by
    obtain⟨σ',hr',h'⟩:=he;have hin:inB n p.2.dst=true:=by
     have:∀l:List (Nat×Oper),inBs n l=au->p∈l->inB n p.2.dst=true:=by
      intro l
      induction l with
     |nil=>intro _ h;cases h
     |cons q l ih=>
       intro h1 h2;simp only[inBs,aoY] at h1;rcases aoM.1 h2 with rfl|h2
       ·exact h1.1
       ·exact ih h1.2 h2
     exact this ms hb3 hp
    cases hd:p.2.dst with
   |none=>rw[hd] at hr' h';exact⟨σ',hr',h'⟩
   |some i=>
     rw[hd] at hr' h' hin;refine⟨put σ' (aw i) (a.tmps.getD i undef),?_,?_⟩
     ·have:=Rep.put (a:=a.put (aw i) v) hr' hin (a.tmps.getD i undef);have e2:((a.put (aw i) v).put (aw i) (a.tmps.getD i undef)).tmps=a.tmps:=by
       have hi:i < a.tmps.size:=by
        have h3:a.tmps.size=n:=by have:=hr'.size;simpa[Act.put] using this
        have h4:i < n:=by simpa[inB,Nat.blt_eq] using hin
        rw[h3];exact h4
       simp only[Act.put];apply avW;intro j;by_cases hij:i=j
       ·subst hij;simp[hi]
       ·rw[asL hij,asL hij]
      rwa [e2] at this
     ·have:=PG (K:=λσ ds w=>Q (.panic c) σ ds w) (a.tmps.getD i undef) p ms hp h';rw[hd] at this;exact this) (by
   rw[harr];refine JF (ds:=a.defers) (λσ1 a1 hr1 hd1 hk1=>?_) ms σ a hr rfl h;refine tY (ds:=a.defers) (K:=λσ=>∀w',C w'->opsX P av n ops (λσ ds w=>Q .normal σ ds w) (λc=>pmX ms (λσ ds w=>Q (.panic c) σ ds w)) (ops.toList.drop (aT P ops.toList)) σ a.defers w') ?_ _ σ1 a1 hr1 hd1 hk1;intro σ' a' hr' hds hk w' hw';refine D5 (K:=λσ ds w=>Q .normal σ ds w) (PK:=λc=>pmX ms (λσ ds w=>Q (.panic c) σ ds w)) ?_ ?_ _ σ' a' w' hb4 hr' (by rw[hds];exact hk w' hw')
   ·rintro c a w h;exact h
   ·rintro a w ⟨σ,hr,h⟩;exact⟨σ,hr,h⟩)
  rw[harr] at key;exact key
theorem EA {n:Nat}{al:List (Nat×List Nat)}:∀(c:Code) (ro:Option Nat) (Q:Ex) (σ:Sg) (a:Act) (w:ak),Rep n σ a.tmps->wpX P n aj al ro c Q σ a.defers w->c.wpIn (Fr ro) 0 P (Fb n Q) a w:=by
 intro c
 induction c with
|skip=>intro ro Q σ a w hr h;exact wpIn_skip ⟨σ,hr,h⟩
|exit id=>intro ro Q σ a w hr h;exact wpIn_exit ⟨σ,hr,h⟩
|ret=>intro ro Q σ a w hr h;exact wpIn_ret ⟨σ,hr,h⟩
|region id ops draw=>
  intro ro Q σ a w hr h;unfold wpX at h;cases draw with
 |false=>
   rw[aE] at h;refine wpIn_region_list (Tt (K:=λσ ds w=>Q .normal σ ds w) (PK:=λc σ ds w=>Q (.panic c) σ ds w) ?_ ?_ _ σ a w hr h)
   ·rintro c a w ⟨σ,hr,h⟩;exact⟨σ,hr,h⟩
   ·rintro a w ⟨σ,hr,h⟩;exact⟨σ,hr,h⟩
 |true=>
   rw[aF] at h;have harr:ops.toList.toArray=ops:=sm
   cases hw:M3 P n ops with
  |true=>rw[hw,aF] at h;exact Hh hr h
  |false=>
   rw[hw,aE] at h;cases hh:Nat.beq (aT P ops.toList) ops.toList.length with
  |true=>
    rw[hh,aF] at h;cases hb:(P.follows .mixedOrders&&(Region.lexB .any ops&&sQ ops.toList)) with
   |false=>rw[hb,aE] at h;exact Jz hr h
   |true=>
     rw[hb,aF] at h;simp only[aoY] at hb;obtain⟨C,hC,h⟩:=h.out;refine Be hb.1 hb.2.2 (UM (C:=C) hb.2.1 hC ?_);refine tY (ds:=a.defers) (K:=λσ=>∀w',C w'->Q .normal σ a.defers w') ?_ _ σ a hr rfl h;intro σ' a' hr' hds hk w' hw';exact⟨σ',hr',by rw[hds];exact hk w' hw'⟩
  |false=>
    rw[hh,aE] at h;cases hb:(P.follows .mixedOrders&&(Region.lexTailB .any ops (aT P ops.toList)&&(CX P (ops.toList.drop (aT P ops.toList))&&sQ ops.toList))) with
   |false=>
     rw[hb,aE] at h;clear hb;have hm0:=Us (ops.toList.take (aT P ops.toList)) 0 [];have hh0:=Wy (ops.toList.take (aT P ops.toList)) 0 [];generalize mvL (ops.toList.take (aT P ops.toList)) 0 []=ms at *;generalize hdL (ops.toList.take (aT P ops.toList)) 0 []=hs at *;cases hb:(P.follows .mixedOrders&&(NU ops (aT P ops.toList) ms hs&&(inBs n ms&&(CX P (ops.toList.drop (aT P ops.toList))&&sQ ops.toList)))) with
    |false=>
      rw[hb,aE] at h;exact Jz hr h
    |true=>
      rw[hb,aF] at h;simp only[aoY] at hb;obtain⟨hb1,hb2,hb3,hb4,hb5⟩:=hb;obtain⟨C,hC,h⟩:=h.out;obtain⟨hr1,hd1⟩:=OJ ms σ a hb3 hr;refine Be hb1 hb5 ?_;have key:=KO (P:=P) (Q:=Ir (Fb n Q)) (Q':=λe a w=>match e with
       |.panic c=>oX n (pmX ms (λσ ds w=>Q (.panic c) σ ds w)) a w
       |e=>Ir (Fb n Q) e a w) (a:=a) (w:=w) (l:=ops.toList) (C:=C) (aT P ops.toList) ms hs (by rw[harr];exact hb2) hC
       (λp hp=>yX (hm0 p hp).2) (λp hp=>yX (hh0 p hp).2)
       (λe a w he=>by
        cases e<;>first|exact he|skip
        obtain⟨σ,hr,h⟩:=he;exact⟨σ,hr,I2 ms h⟩)
       (λp hp v c a w he=>by
        obtain⟨σ',hr',h'⟩:=he;have hin:inB n p.2.dst=true:=by
         have:∀l:List (Nat×Oper),inBs n l=au->p∈l->inB n p.2.dst=true:=by
          intro l
          induction l with
         |nil=>intro _ h;cases h
         |cons q l ih=>
           intro h1 h2;simp only[inBs,aoY] at h1;rcases aoM.1 h2 with rfl|h2
           ·exact h1.1
           ·exact ih h1.2 h2
         exact this ms hb3 hp
        cases hd:p.2.dst with
       |none=>rw[hd] at hr' h';exact⟨σ',hr',h'⟩
       |some i=>
         rw[hd] at hr' h' hin;refine⟨put σ' (aw i) (a.tmps.getD i undef),?_,?_⟩
         ·have:=Rep.put (a:=a.put (aw i) v) hr' hin (a.tmps.getD i undef);have e2:((a.put (aw i) v).put (aw i) (a.tmps.getD i undef)).tmps=a.tmps:=by
           have hi:i < a.tmps.size:=by
            have h3:a.tmps.size=n:=by have:=hr'.size;simpa[Act.put] using this
            have h4:i < n:=by simpa[inB,Nat.blt_eq] using hin
            rw[h3];exact h4
           simp only[Act.put];apply avW;intro j;by_cases hij:i=j
           ·subst hij;simp[hi]
           ·rw[asL hij,asL hij]
          rwa [e2] at this
         ·have:=PG (K:=λσ ds w=>Q (.panic c) σ ds w) (a.tmps.getD i undef) p ms hp h';rw[hd] at this;exact this) (by
       rw[harr];refine tY (ds:=a.defers) (K:=λσ=>∀w',C w'->opsX P av n ops (λσ ds w=>Q .normal σ ds w) (λc=>pmX ms (λσ ds w=>Q (.panic c) σ ds w)) (ops.toList.drop (aT P ops.toList)) σ a.defers w') ?_ _ (T5 ms σ) (jU ms a) hr1 hd1 h;intro σ' a' hr' hds hk w' hw';refine D5 (K:=λσ ds w=>Q .normal σ ds w) (PK:=λc=>pmX ms (λσ ds w=>Q (.panic c) σ ds w)) ?_ ?_ _ σ' a' w' hb4 hr' (by rw[hds];exact hk w' hw')
       ·rintro c a w h;exact h
       ·rintro a w ⟨σ,hr,h⟩;exact⟨σ,hr,h⟩)
      rw[harr] at key;exact key
   |true=>
     rw[hb,aF] at h;simp only[aoY] at hb;obtain⟨hb1,hb2,hb4,hb5⟩:=hb;obtain⟨C,hC,h⟩:=h.out;refine Be hb1 hb5 ?_;have key:=K5 (P:=P) (Q:=Ir (Fb n Q)) (a:=a) (w:=w) (l:=ops.toList) (C:=C) (aT P ops.toList) (by rw[harr];exact hb2) hC (by
      rw[harr];refine tY (ds:=a.defers) (K:=λσ=>∀w',C w'->opsX P av n ops (λσ ds w=>Q .normal σ ds w) (λc σ ds w=>Q (.panic c) σ ds w) (ops.toList.drop (aT P ops.toList)) σ a.defers w') ?_ _ σ a hr rfl h;intro σ' a' hr' hds hk w' hw';refine D5 (K:=λσ ds w=>Q .normal σ ds w) (PK:=λc σ ds w=>Q (.panic c) σ ds w) ?_ ?_ _ σ' a' w' hb4 hr' (by rw[hds];exact hk w' hw')
      ·rintro c a w ⟨σ,hr,h⟩;exact⟨σ,hr,h⟩
      ·rintro a w ⟨σ,hr,h⟩;exact⟨σ,hr,h⟩)
     rw[harr] at key;exact key
|seq x y ihx ihy=>
  intro ro Q σ a w hr h;unfold wpX at h;refine wpIn_seq ?_;cases hw:Nat.ble (ways x) 1 with
 |true=>
   rw[hw,aF] at h;refine Code.wpIn_mono ?_ (ihx _ _ σ a w hr h);rintro e a' w' ⟨σ',hr',hk⟩;cases e with
  |normal=>exact ihy _ _ σ' a' w' hr' hk
  |_=>exact⟨σ',hr',hk⟩
 |false=>
   rw[hw,aE] at h;cases hm:mkB ro x with
  |true=>
    rw[hm,aF] at h;have h':=h.out (λds' vs w'=>∀j,wpX P n aj al ro y Q (mix σ (asg x) (look (keyOf y) aj) vs j) ds' w') (λ_ _ _ hr=>hr);have h'':=wpX.eB x _ (λe σ' ds' w'=>Off (asg x) σ σ'∧Nf Q (λσ' ds' w'=>(∀j,wpX P n aj al ro y Q (mix σ (asg x) (look (keyOf y) aj) (pick (look (keyOf y) aj) σ') j) ds' w')) e σ' ds' w') (asg x) σ (λi hi=>hi) (λe σ' ds' w' ho hk=>⟨ho,hk⟩) σ a.defers w (Off.refl _ _) h';refine Code.wpIn_mono ?_ (ihx _ _ σ a w hr h'');rintro e a' w' ⟨σ',hr',ho,hk⟩;cases e with
   |normal=>
     have hk:∀j,wpX P n aj al ro y Q (mix σ (asg x) (look (keyOf y) aj) (pick (look (keyOf y) aj) σ') j) a'.defers w':=hk;have:=hk σ';rw[IX ho] at this;exact ihy _ _ σ' a' w' hr' this
   |_=>exact⟨σ',hr',hk⟩
  |false=>
   rw[hm,aE] at h;have h':=h.out (λvs w'=>∀j,wpX P n aj al ro y Q (mix σ (asg x) (look (keyOf y) aj) vs j) a.defers w') (λ_ _ hr=>hr);have h'':=wpX.eB x _ (λe σ' ds' w'=>Off (asg x) σ σ'∧Nf Q (λσ' ds' w'=>AtX ds' a.defers (∀j,wpX P n aj al ro y Q (mix σ (asg x) (look (keyOf y) aj) (pick (look (keyOf y) aj) σ') j) a.defers w')) e σ' ds' w') (asg x) σ (λi hi=>hi) (λe σ' ds' w' ho hk=>⟨ho,hk⟩) σ a.defers w (Off.refl _ _) h';refine Code.wpIn_mono ?_ (ihx _ _ σ a w hr h'');rintro e a' w' ⟨σ',hr',ho,hk⟩;cases e with
  |normal=>
    obtain⟨hds,hk⟩:=hk.out;have:=hk σ';rw[IX ho,<-hds] at this;exact ihy _ _ σ' a' w' hr' this
  |_=>exact⟨σ',hr',hk⟩
|cond c x y ihx ihy=>
  intro ro Q σ a w hr h;unfold wpX at h
  replace h:=h.out
  split at h
  ·rename_i b hb
   refine wpIn_cond_split (t:=b) (by rw[hr.eval];exact hb) (λht=>ihx _ _ σ a w hr (h.1 ht)) (λht=>ihy _ _ σ a w hr (h.2 ht))
  ·exact h.elim
|block id x ihx=>
  intro ro Q σ a w hr h;unfold wpX at h;refine wpIn_block (Code.wpIn_mono ?_ (ihx _ _ σ a w hr h));rintro e a' w' ⟨σ',hr',hk⟩;cases e with
 |exit j=>
   simp only[Exit.inBlock];rw[Kf] at hk;cases hb:Nat.beq j id with
  |true=>rw[hb,aF] at hk;rw[anX (beq_iff.1 hb)];exact⟨σ',hr',hk⟩
  |false=>
    rw[hb,aE] at hk;rw[anW (λe=>by rw[beq_iff.2 e] at hb;cases hb)];exact⟨σ',hr',hk⟩
 |_=>exact⟨σ',hr',hk⟩
|loop x ihx=>
  intro ro Q σ a w hr h;unfold wpX at h;cases hm:mkB ro x with
 |true=>
   rw[hm,aF] at h;obtain⟨I,μ,h0,hs⟩:=h.out;refine wpIn_loop (λa' w'=>∃σ',Rep n σ' a'.tmps∧Off (asg x) σ σ'∧I a'.defers (pick (look (keyOf x) al) σ') w')
    (λa' w'=>μ (pick (look (keyOf x) al) (λi=>a'.tmps.getD i undef)) w') ⟨σ,hr,Off.refl _ _,h0⟩ ?_
   rintro a' w' ⟨σ',hr',ho,hI⟩;have e1:(λi=>a'.tmps.getD i undef)=σ':=funext hr'.get;have h1:=hs _ _ w' hI σ';rw[IX ho] at h1;have h2:=wpX.eB x _ (λe σ'' ds' w''=>Off (asg x) σ σ''∧Nf Q (λσ'' ds' w''=>(I ds' (pick (look (keyOf x) al) σ'') w''∧μ (pick (look (keyOf x) al) σ'') w'' < μ (pick (look (keyOf x) al) σ') w')) e σ'' ds' w'')
    (asg x) σ (λi hi=>hi) (λe σ' ds' w' ho hk=>⟨ho,hk⟩) σ' a'.defers w' ho h1
   refine Code.wpIn_mono ?_ (ihx _ _ σ' a' w' hr' h2);rintro e a'' w'' ⟨σ'',hr'',ho'',hk⟩;cases e with
  |normal=>
    obtain⟨k2,k3⟩:I a''.defers (pick (look (keyOf x) al) σ'') w''∧μ (pick (look (keyOf x) al) σ'') w'' < μ (pick (look (keyOf x) al) σ') w':=hk;refine⟨⟨σ'',hr'',ho'',k2⟩,?_⟩;have e2:(λi=>a''.tmps.getD i undef)=σ'':=funext hr''.get;rw[e1,e2];exact k3
  |_=>exact⟨σ'',hr'',hk⟩
 |false=>
  rw[hm,aE] at h;obtain⟨I,μ,h0,hs⟩:=h.out;refine wpIn_loop (λa' w'=>∃σ',Rep n σ' a'.tmps∧a'.defers=a.defers∧Off (asg x) σ σ'∧I (pick (look (keyOf x) al) σ') w')
   (λa' w'=>μ (pick (look (keyOf x) al) (λi=>a'.tmps.getD i undef)) w') ⟨σ,hr,rfl,Off.refl _ _,h0⟩ ?_
  rintro a' w' ⟨σ',hr',hds,ho,hI⟩;have e1:(λi=>a'.tmps.getD i undef)=σ':=funext hr'.get;have h1:=hs _ w' hI σ';rw[IX ho] at h1;have h2:=wpX.eB x _ (λe σ'' ds' w''=>Off (asg x) σ σ''∧Nf Q (λσ'' ds' w''=>AtX ds' a.defers (I (pick (look (keyOf x) al) σ'') w''∧μ (pick (look (keyOf x) al) σ'') w'' < μ (pick (look (keyOf x) al) σ') w')) e σ'' ds' w'')
   (asg x) σ (λi hi=>hi) (λe σ' ds' w' ho hk=>⟨ho,hk⟩) σ' a.defers w' ho h1
  rw[<-hds] at h2;refine Code.wpIn_mono ?_ (ihx _ _ σ' a' w' hr' h2);rintro e a'' w'' ⟨σ'',hr'',ho'',hk⟩;cases e with
 |normal=>
   obtain⟨k1,k2,k3⟩:=hk.out;refine⟨⟨σ'',hr'',k1.trans hds,ho'',k2⟩,?_⟩;have e2:(λi=>a''.tmps.getD i undef)=σ'':=funext hr''.get;rw[e1,e2];exact k3
 |_=>exact⟨σ'',hr'',hk⟩
|rangeFunc g ps asn b iha ihb=>
  intro ro Q σ a w hr h;unfold wpX at h;cases hl:QF n ps.toList with
 |false=>rw[hl,aE] at h;exact h.elim
 |true=>
   rw[hl,aF] at h;obtain⟨f,fa,ca,df,w0,h1,h2,h3,h4⟩:=h.out;exact P8 hr hl h1 h2 h3 (λL0 hL0 hY=>h4 L0 hL0 hY) iha ihb
|scope x _=>intro ro Q σ a w hr h;exact h.elim
|label l=>intro ro Q σ a w hr h;exact h.elim
|goto l=>intro ro Q σ a w hr h;exact h.elim
|refuse y=>intro ro Q σ a w hr h;exact h.elim
inductive RV where
|val (v:ao)
|cell (a:ao) (T:TypeId)
def RV.of (σ:Sg):ResultVar->RV
|.tmp t=>.val (σ t)
|.cell a t=>.cell (σ a) t
def RV.read:RV->Sem ao
|.val v=>pure v
|.cell a t=>do loadVar t (<-asAddr a)
def rvOf (σ:Sg):List ResultVar->List RV
|[]=>[]
|r::l=>RV.of σ r::rvOf σ l
def Pg:List RV->Option (List ao)
|[]=>aw []
|.val v::l=>(Pg l).map (v::·)
|.cell ..::_=>av
def tup:List ao->ao
|[v]=>v
|l=>.tuple l.toArray
def Fj (rs:List RV):Sem Value:=do
 let vs <-rs.toArray.mapM RV.read
 pure (if h:vs.size=1 then vs[0] else .tuple vs)
structure RetX (P:Program) (rs:List RV) (w:ak) (K:Ending->ak->Prop):Prop where
 mk ::
 out:∃v,(Fj rs).run P w=.ok v w∧K (.returned v) w
def RetD (P:Program)(rs:List RV)(w:ak)(K:Ending->ak->Prop):Prop:=
 match Pg rs with
|some l=>K (.returned (tup l)) w
|none=>RetX P rs w K
def Ej (P:Program)(rs:List RV)(K:Ending->ak->Prop):List Deferred->FrameMode->ak->Prop
|[],.returning,w=>RetD P rs w K
|[],.panicking c,w=>K (.panicked c) w
|[],.run,_=>False
|d::ds,u,w=>u≠.run∧∃fv cap f args,d.target=.fn fv cap∧(invoke d.target d.args).run P w=.ok (.enter f args) w ∧
   CallsD P f args u w λ
   |.returned _,u',w'=>Ej P rs K ds (settle u') w'
   |.panicked chain,u',w'=>Ej P rs K ds (raised u' chain) w'
   |.outgrown,_,_=>False
def Hj (P:Program)(rs:List RV)(K:Ending->ak->Prop):List Deferred->FrameMode->ak->Prop
|[],.returning,w=>RetD P rs w K
|[],.panicking c,w=>K (.panicked c) w
|[],.run,_=>False
|d::ds,u,w=>u≠.run∧∃r w',d.target=.collected r∧(Instr.takeDeferred r).run P w=.ok [] w'∧Hj P rs K ds u w'
def topM (P:Program)(rs:List ResultVar)(K:Ending->ak->Prop):Ex
|.normal,σ,ds,w=>Hj P (rvOf σ rs) K ds .returning w
|.ret,σ,ds,w=>Hj P (rvOf σ rs) K ds .returning w
|.panic c,σ,ds,w=>Hj P (rvOf σ rs) K ds (.panicking c) w
|_,_,_,_=>False
def topQ (P:Program)(rs:List ResultVar)(K:Ending->ak->Prop):Ex
|.normal,σ,ds,w=>Ej P (rvOf σ rs) K ds .returning w
|.ret,σ,ds,w=>Ej P (rvOf σ rs) K ds .returning w
|.panic c,σ,ds,w=>Ej P (rvOf σ rs) K ds (.panicking c) w
|_,_,_,_=>False
def lQ (args:List ao):Sg:=λi=>args.getD i undef
theorem CF {n:Nat}{σ:Sg}{t:Array ao}(h:Rep n σ t)(fn:Func):results fn t=Fj (rvOf σ fn.results.toList):=by
 have e:∀l:List ResultVar,(rvOf σ l).mapM RV.read=l.mapM (λr=>match r with
  |.tmp t'=>(pure (t.getD t' undef):Sem ao)
  |.cell a ty=>do loadVar ty (<-asAddr (t.getD a undef))):=by
  intro l
  induction l with
 |nil=>rfl
 |cons r l ih=>
   simp only[rvOf,List.mapM_cons];rw[ih];cases r<;>simp only[RV.of,RV.read]<;>rw[h.get]
 unfold results Fj
 congr 1
 rw[<-avX (xs:=fn.results)];rw[List.mapM_toArray,List.mapM_toArray,e];rfl
theorem TO {rs:List RV}{l:List ao}(h:Pg rs=aw l):rs.mapM RV.read=(pure l:Sem (List ao)):=by
 induction rs generalizing l with
|nil=>cases h;rfl
|cons r rs ih=>
  cases r with
 |cell a t=>cases h
 |val v=>
   unfold Pg at h;cases hr:Pg rs with
  |none=>rw[hr] at h;cases h
  |some l'=>
    rw[hr] at h;cases h;rw[List.mapM_cons,ih hr];rfl
theorem IG {rs:List RV}{K:Ending->ak->Prop}(h:RetD P rs w K):∃v,(Fj rs).run P w=.ok v w∧K (.returned v) w:=by
 unfold RetD at h;split at h
 ·rename_i l hl
  refine⟨tup l,?_,h⟩;unfold Fj;rw[List.mapM_toArray,TO hl];simp only[pure,bind,Sem.bind,Sem.run,Functor.map]
  congr 1
  cases l with
 |nil=>rfl
 |cons v l=>
   cases l with
  |nil=>rfl
  |cons v' l=>simp[tup,Sem.bind,Sem.run]
 ·exact h.out
theorem BQ {n:Nat}{σ:Sg}{t:Array ao}(hr:Rep n σ t)(fn:Func){K:Ending->ak->Prop}:∀(ds:List Deferred) (u:FrameMode) (w:ak),
  Ej P (rvOf σ fn.results.toList) K ds u w->Leaves P fn t K ds u w:=by
 intro ds
 induction ds with
|nil=>
  intro u w h;cases u with
 |run=>exact h.elim
 |returning=>
   obtain⟨v,h1,h2⟩:=IG h;exact⟨v,by rw[CF hr];exact h1,h2⟩
 |panicking c=>exact h
|cons d ds ih=>
  intro u w h;obtain⟨h1,fv,cap,f,args,h2,h3,h4⟩:=h;refine⟨h1,fv,cap,f,args,h2,h3,h4.mono ?_⟩;intro e u' w' hk;cases e with
 |returned v=>exact ih _ _ hk
 |panicked c=>exact ih _ _ hk
 |outgrown=>exact hk.elim
theorem xU {n:Nat}{σ:Sg}{t:Array ao}(hr:Rep n σ t)(fn:Func){K:Ending->ak->Prop}:∀(ds:List Deferred) (u:FrameMode) (w:ak),
  Hj P (rvOf σ fn.results.toList) K ds u w->LeavesInM Fence.wide 0 P fn t K ds u w:=by
 intro ds
 induction ds with
|nil=>
  intro u w h;cases u with
 |run=>exact h.elim
 |returning=>
   obtain⟨v,h1,h2⟩:=IG h;exact⟨v,by rw[CF hr];exact h1,h2⟩
 |panicking c=>exact h
|cons d ds ih=>
  intro u w h;obtain⟨h1,r,w',htar,htake,hrest⟩:=h;exact⟨h1,.inl ⟨r,w',htar,htake,ih _ _ hrest⟩⟩
theorem FF {args:List ao}{n:Nat}(h:Nat.ble args.length n=au):Rep n (lQ args) (args.toArray++Array.replicate (n - args.toArray.size) undef):=by
 have h':args.length<=n:=by simpa[Nat.ble_eq] using h
 refine⟨by simp;omega,λi=>?_⟩;unfold lQ;rw[avV,aoE,Array.getElem?_append];split
 ·simp
 ·rename_i hi
  simp only[List.size_toArray,Nat.not_lt] at hi;rw[aqB hi,Array.getElem?_replicate];split<;>rfl
theorem He {f:FuncId}{c:Code}{args:List ao}{K:Ending->ak->Prop}{n:Nat}{al:List (Nat×List Nat)}{rs:List ResultVar}
  (hf:P.funcs[f]?=aw fn) (hb:fn.body=aw c) (hn:fn.ntmps=n) (hrs:fn.results.toList=rs) (hl:Nat.ble args.length n=au)
  (h:wpX P n aj al av c (topQ P rs K) (lQ args) [] w):Calls P f args.toArray w K:=by
 refine calls_of_wp_defers hf hb ?_;rw[hn];refine Code.wp_mono ?_ (wpIn_wide.1 (EA c av _ (lQ args) _ w (FF hl) h));rintro e a w' ⟨σ,hr,hk⟩;subst hrs;cases e with
|normal=>exact BQ hr fn _ _ _ hk
|ret=>exact BQ hr fn _ _ _ hk
|panic ch=>exact BQ hr fn _ _ _ hk
|exit id=>exact hk.elim
|goto l=>exact hk.elim
|outgrown=>exact hk.elim
theorem NW {f:FuncId}{c:Code}{args:List ao}{K:Ending->ak->Prop}{n:Nat}{al:List (Nat×List Nat)}{rs:List ResultVar}
  (hf:P.funcs[f]?=aw fn) (hb:fn.body=aw c) (hn:fn.ntmps=n) (hrs:fn.results.toList=rs) (hl:Nat.ble args.length n=au)
  (h:wpX P n aj al av c (topM P rs K) (lQ args) [] w):Calls P f args.toArray w K:=by
 refine (callsIn_wide (n:=0)).1 (callsIn_of_wp_marks hf hb trivial ?_);rw[hn];refine Code.wpIn_mono ?_ (EA c av _ (lQ args) _ w (FF hl) h);rintro e a w' ⟨σ,hr,hk⟩;subst hrs;cases e with
|normal=>exact xU hr fn _ _ _ hk
|ret=>exact xU hr fn _ _ _ hk
|panic ch=>exact xU hr fn _ _ _ hk
|exit id=>exact hk.elim
|goto l=>exact hk.elim
|outgrown=>exact hk.elim
end Eng
end
namespace Eng
def DD (fn:Func):Code:=fn.body.getD .skip
def dfrV (v:ao)(args:Array ao):Option Deferred:=
 match v with
|.func fn first captured=>aw { target:=.fn fn captured,args:=first++args }
|_=>av
def pk (K:Ending->ak->Prop):PKT:=λc w=>K (.panicked c) w
def pd (P:Program)(rs:List RV)(K:Ending->ak->Prop)(ds:List Deferred):PKT:=λc w=>Ej P rs K ds (.panicking c) w
def pdM (P:Program)(rs:List RV)(K:Ending->ak->Prop)(ds:List Deferred):PKT:=λc w=>Hj P rs K ds (.panicking c) w
def pkR:PKT:=λ_ _=>False
def pm1 (PK:PKT):PKT:=λc w=>∀_:ao,PK c w
def ax:Nat->PKT->PKT
 |0,p=>p
 |n+1,p=>pm1 (ax n p)
def Zn:Code->Code
|.seq _ b=>b
|c=>c
def recV:FrameMode->ao
|.panicking ({ v,recovered:=aq,goexit:=aq }::_)=>v
|_=>.nilIface
def recM:FrameMode->FrameMode
|.panicking ({ v,recovered:=aq,goexit:=aq }::older)=>.panicking ({ v,recovered:=au }::older)
|u=>u
def topD (P:Program)(rs:List ResultVar)(K:Ending->ak->Prop):Ex
|.normal,σ,[],w=>RetD P (rvOf σ rs) w K
|.ret,σ,[],w=>RetD P (rvOf σ rs) w K
|.panic c,_,[],w=>K (.panicked c) w
|_,_,_,_=>False
theorem rec_eq (c₀:Frame)(cs:List Frame):(match recoverD (c₀::cs) with
 |some (v,cs')=>(v,cs')
 |none=>(.nilIface,c₀::cs))=(recV c₀.mode,{ c₀ with mode:=recM c₀.mode }::cs):=by
 have e0:({ c₀ with mode:=c₀.mode }:Frame)=c₀:=rfl;cases hm:c₀.mode with
|run=>simp[recoverD,recV,recM,hm];rw[<-hm]
|returning=>simp[recoverD,recV,recM,hm];rw[<-hm]
|panicking ch=>
  cases ch with
 |nil=>simp[recoverD,recV,recM,hm];rw[<-hm]
 |cons e older=>
   obtain⟨v,r,g⟩:=e;cases r<;>cases g<;>simp[recoverD,recV,recM,hm]<;>rw[<-hm]
theorem uQ {f:FuncId}{o:Oper}{rest:Code}{args:List ao}{R:Ending->FrameMode->ak->Prop}{n:Nat}{al:List (Nat×List Nat)}{rs:List ResultVar}
  (hf:P.funcs[f]?=aw fn) (hb:fn.body=aw (.seq (.region id #[o] aq) rest)) (ho:o.op=.call { callee:=.builtin .recover,args:=#[],argTypes:=#[] }) (hg:o.guard=av) (hd:o.dst=aw d) (hdn:Nat.blt d n=au)
  (hn:fn.ntmps=n) (hrs:fn.results.toList=rs) (hl:Nat.ble args.length n=au)
  (h:wpX P n aj al av rest (topD P rs (λe w'=>R e (recM u) w')) (upd (lQ args) d (recV u)) [] w):CallsD P f args.toArray u w R:=by
 refine callsD_of_wpS hf hb λc₀ cs hu=>?_;rw[hn];refine wpS_seq (wpS_region ?_);have hex:∀ρ:Operand->ao,(execOp ρ o).run P w=.ok .recover w:=by
  intro ρ;unfold execOp;rw[ho];simp[resolve,invoke,builtin,bind,pure,Sem.bind,Sem.run]
 have hrep:=FF (args:=args) hl;have hput:Rep n (upd (lQ args) d (recV u)) (({ tmps:=args.toArray++Array.replicate (n - args.toArray.size) undef,defers:=[] }:Act).put o.dst (recV u)).tmps:=by
  rw[hd];exact Rep.put (a:={ tmps:=args.toArray++Array.replicate (n - args.toArray.size) undef,defers:=[] }) hrep (d:=aw d) hdn (recV u)
 have key:Exit.thenS (rest.wpS P (bodyPostS P fn c₀ cs R)) (bodyPostS P fn c₀ cs R) .normal (({ tmps:=args.toArray++Array.replicate (n - args.toArray.size) undef,defers:=[] }:Act).put o.dst (recV u)) ({ c₀ with mode:=recM u }::cs) w:=by
  refine wpS_of_wp (Code.wp_mono ?_ (wpIn_wide.1 (EA rest av _ _ _ w hput (by rw[hd];exact h))));rintro e a w' ⟨σ,hr,hk⟩;have hdd:∀K:Ending->ak->Prop,RetD P (rvOf σ rs) w' K->∃v,(results fn a.tmps).run P w'=.ok v w'∧K (.returned v) w':=λK hk=>by
   rw[CF hr,hrs];exact IG hk
  generalize hds:a.defers=ds at hk;cases e<;>cases ds<;>first|(exact hk.elim;done)|skip
  ·obtain⟨v,h1,h2⟩:=hdd (λe w'=>R e (recM u) w') hk;exact⟨hds,recM u,rfl,v,h1,h2⟩
  ·obtain⟨v,h1,h2⟩:=hdd (λe w'=>R e (recM u) w') hk;exact⟨hds,recM u,rfl,v,h1,h2⟩
  ·exact⟨hds,recM u,rfl,hk⟩
 have e:=rec_eq c₀ cs;rw[hu] at e;show wpOpsS P #[o] _ [0] _ (c₀::cs) w;unfold wpOpsS;simp only[avY,atF];rw[anX (by simp[Region.wanted,hg])];rw[hex];cases hrc:recoverD (c₀::cs) with
|none=>
  rw[hrc] at e;simp only[asA] at e;simp only[wpOpsS];rw[e.1,e.2];exact key
|some x=>
  obtain⟨v,cs'⟩:=x;rw[hrc] at e;simp only[asA] at e;simp only[wpOpsS];rw[e.1,e.2];exact key
end Eng
section
namespace Eng
open Go.RowKit
section
variable {P:Program}{w:ak}{PK:PKT}{K:VWP}
theorem aC {m:Sem Next}(h:m.run P w=.ok (.value v) w'):DoX P m w PK K=K v w':=
 propext ⟨λx=>by have:=x.out;rw[h] at this;exact this,λx=>⟨by rw[h];exact x⟩⟩
theorem jV {m:Sem Next}(h:m.run P w=.ok (.value v) w')(k:K v w'):DoX P m w PK K:=(aC h).mpr k
theorem D4 {m:Sem Next}(h:m.run P w=.ok .skip w')(k:K undef w'):DoX P m w PK K:=⟨by rw[h];exact k⟩
theorem Y9 {m:Sem Next}(h:m.run P w=.halt (.panic v) w'):DoX P m w PK K=PK [{ v,recovered:=aq }] w':=
 propext ⟨λx=>by have:=x.out;rw[h] at this;exact this,λx=>⟨by rw[h];exact x⟩⟩
theorem bK {s:Sem ao}(h:s.run P w=.ok v w'):(mv s).run P w=.ok (.value v) w':=by
 simp[mv,h]
theorem Jx {s:Sem Unit}(h:s.run P w=.ok () w'):(mu s).run P w=.ok .skip w':=by
 simp[mu,h]
theorem fI {s:Sem ao}(h:s.run P w=.ok v w'):DoX P (mv s) w PK K=K v w':=aC (bK h)
theorem H7 {T:TypeId}{k:IntKind}{a b:Int}:DoX P (mBin .add T (.int k a) (.int k b)) w PK K=K (.int k (k.wrap (a+b))) w:=fI (by simp[binOp,Op.intArith])
theorem TT {T:TypeId}{k:IntKind}{a b:Int}:DoX P (mBin .sub T (.int k a) (.int k b)) w PK K=K (.int k (k.wrap (a - b))) w:=fI (by simp[binOp,Op.intArith])
theorem akE {T:TypeId}{k:IntKind}{a b:Int}:DoX P (mBin .mul T (.int k a) (.int k b)) w PK K=K (.int k (k.wrap (a*b))) w:=fI (by simp[binOp,Op.intArith])
theorem adH {T:TypeId}{k:IntKind}{a b:Int}:DoX P (mBin .lss T (.int k a) (.int k b)) w PK K=K (.bool (ai (a < b))) w:=fI (by simp[binOp,Op.intCmp])
theorem Yg {T:TypeId}{k:IntKind}{a b:Int}:DoX P (mBin .leq T (.int k a) (.int k b)) w PK K=K (.bool (ai (a<=b))) w:=fI (by simp[binOp,Op.intCmp])
theorem akS {T:TypeId}{k:IntKind}{a b:Int}:DoX P (mBin .gtr T (.int k a) (.int k b)) w PK K=K (.bool (ai (b < a))) w:=fI (by simp[binOp,Op.intCmp])
theorem amH {T:TypeId}{k:IntKind}{a b:Int}:DoX P (mBin .geq T (.int k a) (.int k b)) w PK K=K (.bool (ai (b<=a))) w:=fI (by simp[binOp,Op.intCmp])
theorem OB {T:TypeId}{k:IntKind}{b:Int}:(mBin .add T (.int k a) (.int k b)).run P w=.ok (.value (.int k (k.wrap (a+b)))) w:=bK (by simp[binOp,Op.intArith])
theorem AH {T:TypeId}{k:IntKind}{b:Int}:(mBin .sub T (.int k a) (.int k b)).run P w=.ok (.value (.int k (k.wrap (a - b)))) w:=bK (by simp[binOp,Op.intArith])
theorem acH {T:TypeId}{k:IntKind}{b:Int}:(mBin .mul T (.int k a) (.int k b)).run P w=.ok (.value (.int k (k.wrap (a*b)))) w:=bK (by simp[binOp,Op.intArith])
theorem agH {T:TypeId}{k:IntKind}{b:Int}(h:b≠0):(mBin .quo T (.int k a) (.int k b)).run P w=.ok (.value (.int k (k.wrap (a.tdiv b)))) w:=bK (by simp[binOp,Op.intDiv,h])
theorem ahH {T:TypeId}{k:IntKind}{b:Int}(h:b≠0):(mBin .rem T (.int k a) (.int k b)).run P w=.ok (.value (.int k (a.tmod b))) w:=bK (by simp[binOp,Op.intDiv,h])
theorem Ao {T:TypeId}{k:IntKind}{b:Int}(h:b≠0):DoX P (mBin .quo T (.int k a) (.int k b)) w PK K=K (.int k (k.wrap (a.tdiv b))) w:=fI (by simp[binOp,Op.intDiv,h])
theorem CR {T:TypeId}{k:IntKind}{b:Int}(h:b≠0):DoX P (mBin .rem T (.int k a) (.int k b)) w PK K=K (.int k (a.tmod b)) w:=fI (by simp[binOp,Op.intDiv,h])
theorem WB (a b:Int):(a==b)=ai (a=b):=by by_cases h:a=b<;>simp[h]
theorem Xf (a b:Int):(a != b)=ai (a≠b):=by by_cases h:a=b<;>simp[h]
theorem alV {T:TypeId}{xo yo:Operand}{k:IntKind}{a b:Int}:DoX P (mEq .eql T xo yo (.int k a) (.int k b)) w PK K=K (.bool (ai (a=b))) w:=fI (by simp[eqGuard,binOp,Op.intCmp,WB])
theorem X6 {T:TypeId}{xo yo:Operand}{k:IntKind}{a b:Int}:DoX P (mEq .neq T xo yo (.int k a) (.int k b)) w PK K=K (.bool (ai (a≠b))) w:=fI (by simp[eqGuard,binOp,Op.intCmp,Xf])
theorem amK {k:IntKind}{a:Int}:DoX P (mUn .neg (.int k a)) w PK K=K (.int k (k.wrap (-a))) w:=fI (by simp[Op.unary,Op.intArith])
theorem Oj {b:Bool}:DoX P (mUn .not (.bool b)) w PK K=K (.bool (!b)) w:=fI (by simp[Op.unary])
theorem TS {S:TypeId}{k:IntKind}{n:Int}(hs:(P.underlying S).isSome=au)(hd:P.underlying D=aw (.int k')):DoX P (fA S D (.int k n)) w PK K=K (.int k' (k'.wrap n)) w:=by
 cases h:P.underlying S with
|none=>rw[h] at hs;cases hs
|some d=>exact fI (by simp[convert,run_underlying h,run_underlying hd,Conv.intToInt])
theorem K7 {c:Bool}{a b:ao}:DoX P (eH (.bool c) a b) w PK K=K (if c then a else b) w:=aC (by simp[eH,asBool])
theorem agF {b:Bool}{E:(VWP)->Prop}:GDo (.bool b) au E w K=((b=au->E K)∧(b=aq->K undef w)):=by
 refine propext ⟨λx=>?_,λx=>⟨?_⟩⟩
 ·have:=x.out;cases b
  ·exact⟨λh=>(by cases h),λ_=>this⟩
  ·exact⟨λ_=>this,λh=>(by cases h)⟩
 ·cases b
  ·exact x.2 rfl
  ·exact x.1 rfl
theorem abU {b:Bool}{E:(VWP)->Prop}:GDo (.bool b) aq E w K=((b=aq->E K)∧(b=au->K undef w)):=by
 refine propext ⟨λx=>?_,λx=>⟨?_⟩⟩
 ·have:=x.out;cases b
  ·exact⟨λ_=>this,λh=>(by cases h)⟩
  ·exact⟨λh=>(by cases h),λ_=>this⟩
 ·cases b
  ·exact x.1 rfl
  ·exact x.2 rfl
theorem aeS {b:Bool}{A B:Prop}:IfX (.bool b) A B=((b=au->A)∧(b=aq->B)):=propext ⟨λx=>x.out,λx=>⟨x⟩⟩
theorem g_tt {E:(VWP)->Prop}:GDo (.bool au) au E w K=E K:=propext ⟨λx=>x.out,λx=>⟨x⟩⟩
theorem g_ft {E:(VWP)->Prop}:GDo (.bool aq) au E w K=K undef w:=propext ⟨λx=>x.out,λx=>⟨x⟩⟩
theorem g_ff {E:(VWP)->Prop}:GDo (.bool aq) aq E w K=E K:=propext ⟨λx=>x.out,λx=>⟨x⟩⟩
theorem g_tf {E:(VWP)->Prop}:GDo (.bool au) aq E w K=K undef w:=propext ⟨λx=>x.out,λx=>⟨x⟩⟩
theorem i_t {A B:Prop}:IfX (.bool au) A B=A:=propext ⟨λx=>x.out.1 rfl,λx=>⟨⟨λ_=>x,λh=>(by cases h)⟩⟩⟩
theorem i_f {A B:Prop}:IfX (.bool aq) A B=B:=propext ⟨λx=>x.out.2 rfl,λx=>⟨⟨λh=>(by cases h),λ_=>x⟩⟩⟩
theorem p_t {a b:ao}:DoX P (eH (.bool au) a b) w PK K=K a w:=K7
theorem p_f {a b:ao}:DoX P (eH (.bool aq) a b) w PK K=K b w:=K7
theorem nn_t:(!au)=false:=rfl
theorem nn_f:(!aq)=true:=rfl
theorem alY {p:Prop}[Decidable p]:(decide p=au)=p:=sm
theorem anJ {p:Prop}[Decidable p]:(decide p=aq)=¬p:=sm
theorem amW {b:Bool}:((!b)=au)=(b=aq):=sm
theorem alD {b:Bool}:((!b)=aq)=(b=au):=sm
theorem akR:(au=au)=True:=sm
theorem alJ:(au=aq)=False:=sm
theorem anQ:(aq=au)=False:=sm
theorem amE:(aq=aq)=True:=sm
theorem cW (l:List UInt8):(⟨l.toArray⟩:ByteArray).size=l.length:=by simp[ByteArray.size]
theorem jK (l:List UInt8):(⟨l.toArray⟩:ByteArray).toList=l:=by
 rw[ByteArray.toList_eq]
theorem TW (a b:List UInt8):(⟨a.toArray⟩++⟨b.toArray⟩:ByteArray)=⟨(a++b).toArray⟩:=by
 apply ByteArray.ext;simp
theorem KC {s:ByteArray}:s=⟨s.data.toList.toArray⟩:=by
 cases s;simp
theorem SX {T:TypeId}{a b:List UInt8}(h:a.length+b.length<=9223372036854775807):DoX P (mBin .add T (.string ⟨a.toArray⟩) (.string ⟨b.toArray⟩)) w PK K=K (.string ⟨(a++b).toArray⟩) w:=by
 refine fI ?_;have e:IntKind.i64.max=9223372036854775807:=rfl;have e2:¬(((⟨a.toArray⟩:ByteArray).size+(⟨b.toArray⟩:ByteArray).size:Nat):Int)>IntKind.i64.max:=by rw[cW,cW,e];omega
 simp only[binOp,Op.stringOp,anW e2,TW];rfl
theorem KW {T:TypeId}{xo yo:Operand}{a b:List UInt8}:DoX P (mEq .eql T xo yo (.string ⟨a.toArray⟩) (.string ⟨b.toArray⟩)) w PK K=K (.bool (ai (a=b))) w:=by
 refine fI ?_;have e:(a==b)=ai (a=b):=by by_cases h:a=b<;>simp[h]
 simp[eqGuard,binOp,Op.stringOp,jK,e]
theorem Pv {T:TypeId}{xo yo:Operand}{a b:List UInt8}:DoX P (mEq .neq T xo yo (.string ⟨a.toArray⟩) (.string ⟨b.toArray⟩)) w PK K=K (.bool (ai (a≠b))) w:=by
 refine fI ?_;have e:(a==b)=ai (a=b):=by by_cases h:a=b<;>simp[h]
 simp[eqGuard,binOp,Op.stringOp,jK,e]
theorem ahF {T:TypeId}{a b:List UInt8}:DoX P (mBin .lss T (.string ⟨a.toArray⟩) (.string ⟨b.toArray⟩)) w PK K=K (.bool (Op.bytesLess a b)) w:=fI (by simp[binOp,Op.stringOp,jK])
theorem anB {T:TypeId}{a b:List UInt8}:DoX P (mBin .leq T (.string ⟨a.toArray⟩) (.string ⟨b.toArray⟩)) w PK K=K (.bool (Op.bytesLess a b||a==b)) w:=fI (by simp[binOp,Op.stringOp,jK])
theorem amF {T:TypeId}{a b:List UInt8}:DoX P (mBin .gtr T (.string ⟨a.toArray⟩) (.string ⟨b.toArray⟩)) w PK K=K (.bool (!(Op.bytesLess a b||a==b))) w:=fI (by simp[binOp,Op.stringOp,jK])
theorem alS {T:TypeId}{a b:List UInt8}:DoX P (mBin .geq T (.string ⟨a.toArray⟩) (.string ⟨b.toArray⟩)) w PK K=K (.bool (!(Op.bytesLess a b))) w:=fI (by simp[binOp,Op.stringOp,jK])
theorem cL {T:TypeId}{cs:Array Bool}{a:List UInt8}(h:P.underlying T=aw .string):DoX P (mB .len #[T] U cs #[.string ⟨a.toArray⟩]) w PK K=K (.int .i64 (a.length:Int)) w:=by
 refine aC ?_;simp[mB,builtin,Builtin.len_,run_underlying h,goInt,cW]
theorem s_ix {T:TypeId}{k:IntKind}{i:Int}{a:List UInt8}{c:UInt8}(h:P.underlying T=aw .string)(h0:0<=i)(hc:a[i.toNat]?=aw c):DoX P (mIx T (.string ⟨a.toArray⟩) (.int k i)) w PK K=K (.int .u8 (c.toNat:Int)) w:=by
 refine fI ?_;have e:(⟨a.toArray⟩:ByteArray)[i.toNat]?=aw c:=by
  have hl:i.toNat < a.length:=(aoX.1 hc).1;have h1:i.toNat < (⟨a.toArray⟩:ByteArray).size:=by rw[cW];exact hl
  rw[getElem?_pos (⟨a.toArray⟩:ByteArray) i.toNat h1];have h2:=(aoX.1 hc).2;rw[<-h2];rfl
 simp only[Instr.index,asIntOf,run_underlying h,h0,e];simp[h0,e,run_underlying h]
theorem My {T:TypeId}{a:List UInt8}{k:IntKind}(h:P.underlying T=aw .string)(h0:0<=lo)(h1:lo<=hi)(h2:hi<=a.length) :
  DoX P (cM T (.string ⟨a.toArray⟩) (aw (.int k lo)) (aw (.int k' hi)) av) w PK K=K (.string ⟨((a.drop lo.toNat).take (hi.toNat - lo.toNat)).toArray⟩) w:=by
 refine fI ?_;have e:(⟨a.toArray⟩:ByteArray).extract lo.toNat hi.toNat=⟨((a.drop lo.toNat).take (hi.toNat - lo.toNat)).toArray⟩:=by
  rw[KC (s:=(⟨a.toArray⟩:ByteArray).extract lo.toNat hi.toNat),Lib.extract_data]
 have g1:(0<=hi∧hi<=((a.length:Nat):Int)):=om
 have g2:(0<=lo∧lo<=((hi.toNat:Nat):Int)):=om
 simp only[Instr.sliceAt,Instr.slice,Instr.sliceBounds,Instr.sliceBound,asIntOf,run_underlying h,cW];have g3:lo<=max hi 0:=om
 simp[run_underlying h,cW,h2,g3,h0,g1.1,e]
theorem Ac {T:TypeId}{a:List UInt8}{k:IntKind}(h:P.underlying T=aw .string)(h0:0<=lo)(h1:lo<=a.length) :
  DoX P (cM T (.string ⟨a.toArray⟩) (aw (.int k lo)) av av) w PK K=K (.string ⟨(a.drop lo.toNat).toArray⟩) w:=by
 refine fI ?_;have e:(⟨a.toArray⟩:ByteArray).extract lo.toNat a.length=⟨(a.drop lo.toNat).toArray⟩:=by
  rw[KC (s:=(⟨a.toArray⟩:ByteArray).extract lo.toNat a.length),Lib.extract_data];rw[apE sm]
 have g2:(0<=lo∧lo<=((a.length:Nat):Int)):=om
 simp only[Instr.sliceAt,Instr.slice,Instr.sliceBounds,Instr.sliceBound,asIntOf,run_underlying h,cW];simp[run_underlying h,cW,h0,h1,e]
theorem Rc {T:TypeId}{a:List UInt8}(h:P.underlying T=aw .string)(h1:0<=hi)(h2:hi<=a.length) :
  DoX P (cM T (.string ⟨a.toArray⟩) av (aw (.int k' hi)) av) w PK K=K (.string ⟨(a.take hi.toNat).toArray⟩) w:=by
 refine fI ?_;have e:(⟨a.toArray⟩:ByteArray).extract 0 hi.toNat=⟨(a.take hi.toNat).toArray⟩:=by
  rw[KC (s:=(⟨a.toArray⟩:ByteArray).extract 0 hi.toNat),Lib.extract_data];simp
 have g1:(0<=hi∧hi<=((a.length:Nat):Int)):=om
 simp only[Instr.sliceAt,Instr.slice,Instr.sliceBounds,Instr.sliceBound,asIntOf,run_underlying h,cW];simp[run_underlying h,cW,h1,h2,e]
theorem gY {l:List ao}(h:l[i]?=aw v):DoX P (mExt (.tuple l.toArray) i) w PK K=K v w:=fI (by simp[Instr.extract,h])
theorem Cs {fn:Fn}{a b:Array ao}:DoX P (TV fn a b) w PK K=K (.func fn a b) w:=fI rfl
theorem amR {a:Addr}:DoX P (mNil (.pointer (aw a))) w PK K=K (.pointer (aw a)) w:=aC (by simp[mNil,execOp])
theorem Kz {T:TypeId}{x:ao}:DoX P (Ho (.iface T x)) w PK K=PK [{ v:=.iface T x,recovered:=aq }] w:=by
 have h:(Ho (.iface T x)).run P w=.halt (.panic (.iface T x)) w:=by simp[Ho,mv,Instr.panic,goPanic,Sem.run,bind,Sem.bind]
 exact Y9 h
def nD (P:Program)(T:TypeId):Bool:=match P.underlying T with|some (.interface _)=>aq|some _=>au|none=>aq
theorem MI {T:TypeId}{x:ao}(h:nD P T=au):DoX P (ZC T x) w PK K=K (.iface T x) w:=by
 unfold nD at h;cases hu:P.underlying T with
|none=>rw[hu] at h;cases h
|some d=>
  rw[hu] at h;refine fI ?_;cases d<;>first|(cases h;done)|simp[Instr.makeInterface,run_underlying hu]
theorem La {T:TypeId}(h:P.underlying T=aw (.interface ms)):(Op.equal T .nilIface .nilIface).run P w=.ok au w:=by
 show (Op.equalIn (9999+1) T .nilIface .nilIface).run P w=_;rw[Op.equalIn];simp[run_underlying h]
theorem Ka {T:TypeId}(h:P.underlying T=aw (.interface ms)):(Op.equal T (.iface U v) .nilIface).run P w=.ok aq w:=by
 show (Op.equalIn (9999+1) T (.iface U v) .nilIface).run P w=_;rw[Op.equalIn];simp[run_underlying h]
theorem Vs {T:TypeId}(h:P.underlying T=aw (.interface ms)):DoX P (mEq .eql T xo (.const c) .nilIface .nilIface) w PK K=K (.bool au) w:=by
 refine fI ?_;have e:(eqGuard .eql T xo (.const c) .nilIface .nilIface)=pure ():=by cases xo<;>rfl
 rw[e];simp[binOp,La h]
theorem VG {T:TypeId}(h:P.underlying T=aw (.interface ms)):DoX P (mEq .eql T xo yo (.iface U v) .nilIface) w PK K=K (.bool aq) w:=by
 refine fI ?_;have e:(eqGuard .eql T xo yo (.iface U v) .nilIface)=pure ():=rfl;rw[e];simp[binOp,Ka h]
theorem afX {T:TypeId}(h:P.underlying T=aw (.interface ms)):DoX P (mEq .neq T xo (.const c) .nilIface .nilIface) w PK K=K (.bool aq) w:=by
 refine fI ?_;have e:(eqGuard .neq T xo (.const c) .nilIface .nilIface)=pure ():=by cases xo<;>rfl
 rw[e];simp[binOp,La h]
theorem ahT {T:TypeId}(h:P.underlying T=aw (.interface ms)):DoX P (mEq .neq T xo yo (.iface U v) .nilIface) w PK K=K (.bool au) w:=by
 refine fI ?_;have e:(eqGuard .neq T xo yo (.iface U v) .nilIface)=pure ():=rfl;rw[e];simp[binOp,Ka h]
theorem X7 {A xT:TypeId}(h:nD P A=au):DoX P (mTA (.iface A v) xT A au) w PK K=K (.tuple #[v,.bool au]) w:=by
 unfold nD at h;cases hu:P.underlying A with
|none=>rw[hu] at h;cases h
|some d=>
  rw[hu] at h;refine fI ?_;cases d<;>first|(cases h;done)|simp[Instr.typeAssert,run_underlying hu]
def RetK (R:VWP):Ending->ak->Prop:=λe w'=>∃v,e=.returned v∧R v w'
theorem retK {R:VWP}(h:R v w):RetK R (.returned v) w:=⟨v,rfl,h⟩
def Ret (P:Program)(f:Nat)(args:Array ao)(w:ak)(R:VWP):Prop:=Calls P f args w (RetK R)
theorem aK {R:VWP}(h:∀K:Ending->ak->Prop,(∀v w',R v w'->K (.returned v) w')->Calls P f args w K):Ret P f args w R:=h _ (λv w' r=>retK r)
def PanK (R:PKT):Ending->ak->Prop:=λe w'=>∃c,e=.panicked c∧R c w'
theorem panK {R:PKT}{c:List PanicEntry}(h:R c w):PanK R (.panicked c) w:=⟨c,rfl,h⟩
def Pan (P:Program)(f:Nat)(args:Array ao)(w:ak)(R:PKT):Prop:=Calls P f args w (PanK R)
theorem UJ {R:PKT}(h:∀K:Ending->ak->Prop,(∀v w',R v w'->K (.panicked v) w')->Calls P f args w K):Pan P f args w R:=h _ (λv w' r=>panK r)
theorem Ret.mono {f:Nat}{args:Array ao}{R R':VWP}(h:Ret P f args w R)(k:∀v w',R v w'->R' v w'):Ret P f args w R':=
 Calls.mono h λ_ _ ⟨v,he,hr⟩=>⟨v,he,k _ _ hr⟩
theorem Eh {R:VWP}(h:Ret P f args w R)(k:∀v w',R v w'->K v w'):CallX P f args w PK K:=
 ⟨Calls.mono h λe w' ⟨v,he,hr⟩=>by subst he;exact k _ _ hr⟩
theorem c_eq (h:Ret P f args w (λv' w'=>v'=v∧w=w'))(k:K v w):CallX P f args w PK K:=
 Eh h λv' w' ⟨hv,hw⟩=>by subst hv;subst hw;exact k
theorem acO {R:PKT}(h:Pan P f args w R)(k:∀c w',R c w'->PK c w'):CallX P f args w PK K:=
 ⟨Calls.mono h λe w' ⟨v,he,hr⟩=>by subst he;exact k _ _ hr⟩
theorem eW {R:Ending->ak->Prop}(h:Calls P f args w R)(k:∀e w',R e w'->Cont K PK e w'):CallX P f args w PK K:=
 ⟨Calls.mono h k⟩
theorem HL {fa ca:Array ao}(hp:bZ P f=au)(h:CallX P f (fa++args++ca) w PK K):DoX P (gK (.func (.func f) fa ca) args) w PK K:=by
 refine⟨?_⟩;have e:(gK (.func (.func f) fa ca) args).run P w=.ok (.enter f (fa++args++ca)) w:=by
  unfold gK;simp only[Deferred.ofValue,invoke,bind,pure,Sem.bind];exact nY hp _ _
 rw[e];exact h
end
theorem join {F:(List ao->ak->Prop)->Prop}{R:List ao->ak->Prop}(h:∀J:List ao->ak->Prop,(∀vs w,R vs w->J vs w)->F J):JoinX F R:=⟨h⟩
def It (I:List ao->ak->Prop)(μ:List ao->ak->Nat)(vs:List ao)(w:ak):List ao->ak->Prop:=λvs' w'=>I vs' w'∧μ vs' w' < μ vs w
theorem aQ {I:List ao->ak->Prop}{μ:List ao->ak->Nat}{vs vs':List ao}(h:I vs' w')(hm:μ vs' w' < μ vs w):It I μ vs w vs' w':=⟨h,hm⟩
theorem loop {vs:List ao}{F:List ao->ak->(List ao->ak->Prop)->Prop}(I:List ao->ak->Prop)(μ:List ao->ak->Nat)
  (h0:I vs w) (hs:∀vs w,I vs w->F vs w (It I μ vs w)):LoopX vs w F:=⟨I,μ,h0,hs⟩
theorem quiet {F:(ak->Prop)->Prop}(h:F (Below w.heap.size w)):QuietX w F:=⟨_,(Below.refl _ _).drew,h⟩
theorem cR {F:(ak->Prop)->Prop}(C:ak->Prop)(hC:C w.drew)(h:F C):QuietX w F:=⟨C,hC,h⟩
section
variable {P:Program}{C:ak->Prop}{K:ao->Prop}
theorem q_do {m:Sem Next}(v:ao)(h:∀w,m.run P w=.ok (.value v) w)(k:K v):QDo P C m K:=
 ⟨v,λw _=>by rw[h w];exact⟨rfl,rfl⟩,k⟩
theorem q_at {m:Sem Next}(v:ao)(h:∀w,C w->m.run P w=.ok (.value v) w)(k:K v):QDo P C m K:=
 ⟨v,λw hw=>by rw[h w hw];exact⟨rfl,rfl⟩,k⟩
theorem kS (v:ao)(h:∀w,C w->Ret P f args w (λv' w'=>v'=v∧C w'))(k:K v):QCall P C f args K:=
 ⟨v,λw hw=>Calls.mono (h w hw) λ_ _ ⟨_,he,hv,hc⟩=>⟨by rw[he,hv],hc⟩,k⟩
end
def rs:=And.intro @H7 (And.intro @TT (And.intro @akE (And.intro @adH (And.intro @Yg (And.intro @akS (And.intro @amH (And.intro @alV (And.intro @X6 (And.intro @amK (And.intro @Oj (And.intro @p_t (And.intro @p_f (And.intro @g_tt (And.intro @g_ft (And.intro @g_ff (And.intro @g_tf (And.intro @i_t (And.intro @i_f (And.intro @KW (And.intro @Pv (And.intro @ahF (And.intro @anB (And.intro @amF (And.intro @alS (And.intro @Cs (And.intro @amR (And.intro @Kz (And.intro @nn_t (@nn_f)))))))))))))))))))))))))))))
def sp:=And.intro @K7 (And.intro @agF (And.intro @abU (And.intro @aeS (And.intro @alY (And.intro @anJ (And.intro @amW (And.intro @alD (And.intro @akR (And.intro @alJ (And.intro @anQ (@amE)))))))))))
theorem gd0 {a:ao}{l:List ao}:(a::l).getD 0 undef=a:=rfl
theorem gd1 {a b:ao}{l:List ao}:(a::b::l).getD 1 undef=b:=rfl
theorem gd2 {a b c:ao}{l:List ao}:(a::b::c::l).getD 2 undef=c:=rfl
theorem gd3 {a b c d:ao}{l:List ao}:(a::b::c::d::l).getD 3 undef=d:=rfl
theorem gd4 {a b c d e:ao}{l:List ao}:(a::b::c::d::e::l).getD 4 undef=e:=rfl
theorem gd5 {a b c d e f:ao}{l:List ao}:(a::b::c::d::e::f::l).getD 5 undef=f:=rfl
def gd:=And.intro @gd0 (And.intro @gd1 (And.intro @gd2 (And.intro @gd3 (And.intro @gd4 @gd5))))
theorem aA {n:Int}(h1:-9223372036854775808<=n)(h2:n<=9223372036854775807):IntKind.wrap .i64 n=n:=IntWalk.i64_in n om
end Eng
end
section
namespace Eng
open Go.RowKit
structure Grew (S:Nat->Prop) (w w':ak):Prop where
 os:w'.os=w.os
 tape:w'.tape=w.tape
 output:w'.output=w.output
 size:w.heap.size<=w'.heap.size
 block:∀k,k < w.heap.size->¬S k->w'.heap[k]?=w.heap[k]?
def NoB:Nat->Prop:=λ_=>False
theorem Grew.refl (S:Nat->Prop)(w:ak):Grew S w w:=⟨rfl,rfl,rfl,aoG _,λ_ _ _=>rfl⟩
theorem Grew.trans {S:Nat->Prop}{a b c:ak}(h:Grew S a b)(k:Grew S b c):Grew S a c:=
 ⟨k.os.trans h.os,k.tape.trans h.tape,k.output.trans h.output,aqQ h.size k.size,λi hi hs=>(k.block i (arO hi h.size) hs).trans (h.block i hi hs)⟩
theorem Grew.below {a b:ak}(h:Grew NoB a b):Below a.heap.size a b:=⟨h.os,h.tape,h.output,h.size,λk hk=>h.block k hk (λx=>x)⟩
theorem LF {a b:ak}(h:Below a.heap.size a b):Grew S a b:=⟨h.os,h.tape,h.output,h.size,λk hk _=>h.block k hk⟩
theorem Um {o:Option Nat}(h:w.grownBy w' o):Grew (λk=>o=aw k) w w':=
 ⟨h.os,h.tape,h.output,h.size,λk hk hn=>h.block k hk (λe=>hn e.symm)⟩
structure Ent where
 blk:Nat->Prop
 is:ak->Prop
 keep:∀{w w':ak},is w->(∀k,blk k->w'.heap[k]?=w.heap[k]?)->is w'
 lt:∀{w:ak},is w->∀k,blk k->k < w.heap.size
theorem dW {o:Obj}(h:w.heap[b]?=aw o):b < w.heap.size:=(atU.1 h).1
def Ent.obj (b:Nat)(o:Obj):Ent:=⟨λk=>k=b,λw=>w.heap[b]?=aw o,λh k=>(k b rfl).trans h,λh k hk=>by cases hk;exact dW h⟩
def Ent.cells (b:Nat)(cs:List ao)(T:TypeId):Ent:=⟨λk=>k=b,λw=>w.heap[b]?=aw (.cells cs.toArray T (0,0)),λh k=>(k b rfl).trans h,λh k hk=>by cases hk;exact dW h⟩
def Ent.row (T:TypeId)(sz:Nat)(v:ao)(n:Nat)(xs:List ao):Ent:=
 ⟨λk=>v.ownBlock=aw k,λw=>w.ownsRowF 0 T sz v n xs,λ{w w'} h k=>by
  refine⟨h.1,?_⟩;rcases h.2 with hn|⟨g,cap,cur,fz,rfl,hb,hgg,rest⟩
  ·exact .inl hn
  ·exact .inr ⟨g,cap,cur,fz,rfl,hb,(k g rfl).trans hgg,rest⟩,λh k hk=>(World.ownsRowF.lt h k hk).2⟩
structure OwnS (S:Nat->Prop) (w0 w:ak) (L:List Ent):Prop where
 grew:Grew S w0 w
 all:∀e∈L,e.is w∧∀k,e.blk k->S k∨w0.heap.size<=k
 apart:L.Pairwise (λe f=>∀k,e.blk k->¬f.blk k)
abbrev Own (w0 w:ak)(L:List Ent):Prop:=OwnS NoB w0 w L
theorem Own.start (w:ak):Own w w []:=⟨Grew.refl _ _,(λ_ h=>by cases h),List.Pairwise.nil⟩
section
variable {S:Nat->Prop}
theorem OwnS.size {w0 w:ak}{L:List Ent}(h:OwnS S w0 w L):w0.heap.size<=w.heap.size:=h.grew.size
theorem OwnS.mem {L:List Ent}(h:OwnS S w0 w L){e:Ent}(he:e∈L):e.is w:=(h.all e he).1
theorem OwnS.at_ {L:List Ent}(h:OwnS S w0 w L)(i:Nat){e:Ent}(he:L[i]?=aw e):e.is w:=h.mem (arN he)
theorem OwnS.grow {L:List Ent}(h:OwnS S w0 w L)(hb:Below w.heap.size w w'):OwnS S w0 w' L:=
 ⟨h.grew.trans (LF hb),λe he=>⟨e.keep (h.all e he).1 λk hk=>hb.block k (e.lt (h.all e he).1 k hk),(h.all e he).2⟩,h.apart⟩
theorem OwnS.drew {w0 w:ak}{L:List Ent}(h:OwnS S w0 w L):OwnS S w0 w.drew L:=h.grow (Below.refl _ _).drew
theorem PO (hg:w.grownBy w' av):Below w.heap.size w w':=⟨hg.os,hg.tape,hg.output,hg.size,λk hk=>hg.block k hk sm⟩
theorem OwnS.add {L:List Ent}(h:OwnS S w0 w L)(hg:w.grownBy w' av)(e:Ent)(he:e.is w')(hn:∀k,e.blk k->w.heap.size<=k):OwnS S w0 w' (e::L):=by
 have h':=h.grow (PO hg);refine⟨h'.grew,?_,?_⟩
 ·intro f hf;cases hf with
 |head=>exact⟨he,λk hk=>.inr (aqQ h.size (hn k hk))⟩
 |tail _ hf=>exact h'.all f hf
 ·refine .cons (λf hf k hk hk'=>?_) h'.apart;have:=f.lt (h.mem hf) k hk';have:=hn k hk;omega
theorem OwnS.alloc {w0 w:ak}{L:List Ent}(h:OwnS S w0 w L)(cs:List ao)(T:TypeId):OwnS S w0 (w.alloc (.cells cs.toArray T)) (.cells w.heap.size cs T::L):=
 h.add (World.grownBy_alloc w _ av) _ (heap_alloc_new w _) (λk hk=>by cases hk;exact aoG _)
theorem OwnS.SA {L:List Ent}(h:OwnS S w0 w L)(o:Obj):OwnS S w0 (w.alloc o) (.obj w.heap.size o::L):=
 h.add (World.grownBy_alloc w _ av) _ (heap_alloc_new w _) (λk hk=>by cases hk;exact aoG _)
structure Turn (e e':Ent) (w w':ak):Prop where
 grew:Grew e.blk w w'
 is:e'.is w'
 new:∀k,e'.blk k->e.blk k∨w.heap.size<=k
theorem Turn.refl {e:Ent}{w:ak}(h:e.is w):Turn e e w w:=⟨Grew.refl _ _,h,λ_ hk=>.inl hk⟩
theorem OwnS.turn {L:List Ent}(h:OwnS S w0 w L)(i:Nat){e e':Ent}(hi:L[i]?=aw e)(ht:Turn e e' w w'):OwnS S w0 w' (L.set i e'):=by
 obtain⟨hg,he,hn⟩:=ht;have hil:i < L.length:=(aoX.1 hi).1;have hie:L[i]=e:=(aoX.1 hi).2;have heL:e∈L:=arN hi;have hpair:=asM.1 h.apart;have hself:∀j (hj:j < L.length),j≠i->∀k,L[j].blk k->¬e.blk k:=by
  intro j hj hji k hk hk';rcases apD j i with hlt|hge
  ·exact hpair j i hj hil hlt k hk (by rw[hie];exact hk')
  ·exact hpair i j hil hj om k (by rw[hie];exact hk') hk
 have hgrew:Grew S w0 w':=⟨hg.os.trans h.grew.os,hg.tape.trans h.grew.tape,hg.output.trans h.grew.output,aqQ h.size hg.size,λk hk hS=>
  (hg.block k (arO hk h.size) (λhc=>((h.all e heL).2 k hc).elim hS (λx=>by omega))).trans (h.grew.block k hk hS)⟩
 have keepj:∀j (hj:j < L.length),j≠i->L[j].is w':=λj hj hji=>
  L[j].keep (h.mem (aoR hj)) λk hk=>hg.block k (L[j].lt (h.mem (aoR hj)) k hk) (λhc=>hself j hj hji k hk hc)
 refine⟨hgrew,?_,?_⟩
 ·intro f hf;obtain⟨j,hj,rfl⟩:=asF hf;rw[aqM] at hj;rw[atY];split
  ·refine⟨he,λk hk=>?_⟩;rcases hn k hk with h1|h1
   ·exact (h.all e heL).2 k h1
   ·exact .inr (aqQ h.size h1)
  ·rename_i hne
   exact⟨keepj j hj (λe=>hne e.symm),(h.all _ (aoR hj)).2⟩
 ·rw[asM];intro a b ha hb hab k hk;rw[aqM] at ha hb;rw[atY] at hk;rw[atY];have other:∀j (hj:j < L.length),j≠i->∀k,e'.blk k->¬L[j].blk k:=by
   intro j hj hji k hk hk';rcases hn k hk with h1|h1
   ·exact hself j hj hji k hk' h1
   ·have:=L[j].lt (h.mem (aoR hj)) k hk';omega
  split at hk
  ·rename_i hia
   subst hia;rw[anW om];exact other b hb om k hk
  ·rename_i hia
   split
   ·rename_i hib
    subst hib;intro hk';exact other a ha (λe=>hia e.symm) k hk' hk
   ·exact hpair a b ha hb hab k hk
theorem OwnS.put {L:List Ent}(h:OwnS S w0 w L)(i:Nat){e:Ent}(hi:L[i]?=aw e)(hg:Grew e.blk w w')(e':Ent)(he:e'.is w')
  (hn:∀k,e'.blk k->e.blk k∨w.heap.size<=k):OwnS S w0 w' (L.set i e'):=h.turn i hi ⟨hg,he,hn⟩
theorem OwnS.tail {w0 w:ak}{e:Ent}{L:List Ent}(h:OwnS S w0 w (e::L)):OwnS S w0 w L:=
 ⟨h.grew,λf hf=>h.all f (.tail _ hf),(aqR.1 h.apart).2⟩
theorem OwnS.sub {L L':List Ent}(h:OwnS S w0 w L)(hs:L'.Sublist L):OwnS S w0 w L':=
 ⟨h.grew,λf hf=>h.all f (hs.subset hf),h.apart.sublist hs⟩
theorem OwnS.done {L:List Ent}(h:OwnS NoB w0 w L):Below w0.heap.size w0 w:=h.grew.below
theorem OwnS.below {w0 w:ak}{L:List Ent}(h:OwnS NoB w0 w L):Below w0.heap.size w0 w:=h.grew.below
theorem OwnS.lend {e:Ent}(h:e.is w):OwnS e.blk w w [e]:=by
 refine⟨Grew.refl _ _,λf hf=>?_,List.pairwise_singleton _ _⟩;rcases aoM.1 hf with rfl|hf
 ·exact⟨h,λk hk=>.inl hk⟩
 ·cases hf
theorem OwnS.back {e e':Ent}{L:List Ent}(h:OwnS e.blk w w' (e'::L)):Turn e e' w w':=
 ⟨h.grew,h.mem sm,(h.all e' sm).2⟩
end
def n0 (vs:List ao):Nat:=(RowKit.intOf (vs.getD 0 undef)).toNat
def n1 (vs:List ao):Nat:=(RowKit.intOf (vs.getD 1 undef)).toNat
def n2 (vs:List ao):Nat:=(RowKit.intOf (vs.getD 2 undef)).toNat
theorem aI {T:TypeId}(h:(Ent.cells b cs T).is w)(hv:cs[i]?=aw v):w.cell? ⟨b,i,av⟩=aw v:=by
 have h':w.heap[b]?=aw (.cells cs.toArray T (0,0)):=h;simp[World.cell?,h',hv]
theorem OwnS.cell {S:Nat->Prop}{w0 w:ak}{L:List Ent}(h:OwnS S w0 w L)(i:Nat){b:Nat}{cs:List ao}{T:TypeId}(hi:L[i]?=aw (.cells b cs T))(j:Nat){v:ao}(hv:cs[j]?=aw v):w.cell? ⟨b,j,av⟩=aw v:=
 aI (h.at_ i hi) hv
theorem OwnS.old {L:List Ent}(h:OwnS NoB w0 w L){p:Addr}(hc:w0.cell? p=aw v):w.cell? p=aw v:=
 (h.below.cell (World.block_lt_of_cell? w0 p hc)).trans hc
def eM (P:Program)(T:TypeId):Bool:=match P.underlying T with|some (.struct _)=>aq|some (.array _ _)=>aq|some _=>au|none=>aq
section
variable {S:Nat->Prop}{P:Program}{w:ak}{PK:PKT}{K:VWP}
theorem oY {T:TypeId}(ht:eM P T=au){a:Addr}(h:w.cell? a=aw v):(loadVar T a).run P w=.ok v w:=by
 unfold eM at ht;cases hu:P.underlying T with
|none=>rw[hu] at ht;cases ht
|some d=>
  rw[hu] at ht;cases d<;>first|(cases ht;done)|simp[loadVar,isAgg,run_underlying hu,h]
theorem aB {T:TypeId}(ht:eM P T=au){a:Addr}(h:w.cell? a=aw v):(aJ T (.pointer (aw a))).run P w=.ok (.value v) w:=
 bK (by simp[Instr.loadAt,Instr.sureAddr,oY ht h])
theorem aS {T:TypeId}(ht:eM P T=au){a:Addr}(h:w.cell? a=aw v):DoX P (aJ T (.pointer (aw a))) w PK K=K v w:=aC (aB ht h)
theorem bD {m:Sem Next}(mk:Nat->ao)(cs:List ao)(E:TypeId){L:List Ent}(hm:∀w,m.run P w=.ok (.value (mk w.heap.size)) (w.alloc (.cells cs.toArray E)))(ho:OwnS S w0 w L)
  (k:∀b w',OwnS S w0 w' (.cells b cs E::L)->K (mk b) w'):DoX P m w PK K:=
 jV (hm w) (k _ _ (ho.alloc cs E))
theorem KQ {T:TypeId}{off:Nat}{E:TypeId}(hs:(P.info? T).map (·.size)=aw 1)(hv:v.oneCell'=au)(h:w.heap[b]?=aw (.cells cs.toArray E (0,0)))(hl:off < cs.length) :
  (Instr.storeAt T (.pointer (aw ⟨b,off,av⟩)) v).run P w=.ok () (w.setRow b (cs.set off v).toArray):=by
 have hc:v.cells=#[v]:=by cases v<;>first|rfl|(cases hv;done)
 have hst:=run_storeCells_at P b off E [v] 0 cs.toArray w h (by simp;omega) (by simpa using hv);obtain⟨i,hi,h1⟩:=aqN.1 hs;simp only[apO] at hst;have e:cs.take off++[v]++cs.drop (off+1)=cs.set off v:=by
  rw[awL,anX hl];simp
 simp[Instr.storeAt,Instr.sureAddr,storeVar,hc,sizeOf,typeInfo,hi,h1,hst];rw[<-e];simp
theorem gX {L:List Ent}(ho:OwnS S w0 w L)(i:Nat){E:TypeId}(hi:L[i]?=aw (.cells b cs E))(cs':List ao):OwnS S w0 (w.setRow b cs'.toArray) (L.set i (.cells b cs' E)):=by
 have h:w.heap[b]?=aw (.cells cs.toArray E (0,0)):=ho.at_ i hi;refine ho.put i hi (w':=w.setRow b cs'.toArray) ⟨rfl,rfl,rfl,by simp[World.setRow],λk _ hk=>setRow_other w b k _ (λe=>hk (by simp[Ent.cells,e]))⟩ (.cells b cs' E) (setRow_heap w b cs.toArray _ E (0,0) h) (λk hk=>.inl hk)
theorem aN {L:List Ent}(i:Nat){T:TypeId}{off:Nat}{E:TypeId}(ho:OwnS S w0 w L)(hi:L[i]?=aw (.cells b cs E))(hs:(P.info? T).map (·.size)=aw 1)(hv:v.oneCell'=au)(hl:off < cs.length)
  (k:∀w',OwnS S w0 w' (L.set i (.cells b (cs.set off v) E))->K undef w'):DoX P (aV T (.pointer (aw ⟨b,off,av⟩)) v) w PK K:=
 D4 (Jx (KQ hs hv (ho.at_ i hi) hl)) (k _ (gX ho i hi _))
def Sl (w:ak)(v:ao)(sz n:Nat)(cs:List ao):Prop:=
 cs.length=n*sz∧∃a cap,v=.slice a n cap∧(a=av->n=0)∧∀p,a=aw p->(0 < n->p.spot=av)∧∀j u,cs[j]?=aw u->w.cell? ⟨p.block,p.off+j,av⟩=aw u
theorem Sl.mono {n:Nat}(h:Sl w v sz n cs)(hc:∀p u,w.cell? p=aw u->w'.cell? p=aw u):Sl w' v sz n cs:=by
 obtain⟨h1,a,cap,h2,h3,h4⟩:=h;exact⟨h1,a,cap,h2,h3,λp hp=>⟨(h4 p hp).1,λj u hj=>hc _ _ ((h4 p hp).2 j u hj)⟩⟩
theorem OwnS.UZ {L:List Ent}(h:OwnS NoB w0 w L){n:Nat}(hs:Sl w0 v sz n cs):Sl w v sz n cs:=hs.mono λ_ _ hp=>h.old hp
theorem Sl.cells {w:ak}{b:Nat}{cs:List ao}{T:TypeId}(h:(Ent.cells b cs T).is w)(sz n cap:Nat)(hn:cs.length=n*sz):Sl w (.slice (aw ⟨b,0,av⟩) n cap) sz n cs:=
 ⟨hn,aw ⟨b,0,av⟩,cap,rfl,λh=>(by cases h),λp hp=>by cases hp;exact⟨λ_=>rfl,λj u hj=>by rw[aoN];exact aI h hj⟩⟩
theorem OwnS.sl {L:List Ent}(h:OwnS S w0 w L)(i:Nat){T:TypeId}(hi:L[i]?=aw (.cells b cs T))(sz n cap:Nat)(hn:cs.length=n*sz):Sl w (.slice (aw ⟨b,0,av⟩) n cap) sz n cs:=
 Sl.cells (h.at_ i hi) sz n cap hn
theorem Sl.row {w:ak}{T:TypeId}{sz:Nat}{v:ao}{n:Nat}{xs:List ao}(h:(Ent.row T sz v n xs).is w):Sl w v sz n xs:=by
 have h':w.ownsRowF 0 T sz v n xs:=h;refine⟨h'.1,?_⟩;rcases h'.2 with ⟨rfl,rfl⟩|⟨g,cap,cur,fz,rfl,_⟩
 ·exact⟨av,0,rfl,λ_=>rfl,λp hp=>by cases hp⟩
 ·refine⟨aw ⟨g,0,av⟩,cap,rfl,(λh=>by cases h),λp hp=>?_⟩;cases hp;refine⟨λ_=>rfl,λj u hj=>?_⟩;have:=World.ownsRowF.cells h' (g:=g) rfl j u hj;have e:(⟨g,0,av⟩:Addr).add j=⟨g,0+j,av⟩:=by unfold Addr.add;split<;>simp_all
  rwa [e] at this
theorem Sl.nil (w:ak)(sz cap:Nat):Sl w (.slice av 0 cap) sz 0 []:=⟨sm,av,cap,rfl,λ_=>rfl,λp hp=>by cases hp⟩
theorem bB {T:TypeId}{E:TypeId}{n:Nat}(h:P.underlying T=aw (.slice E))(hs:Sl w v sz n cs):DoX P (mB .len #[T] U cb #[v]) w PK K=K (.int .i64 (n:Int)) w:=by
 obtain⟨_,a,cap,rfl,_⟩:=hs;refine aC ?_;simp[mB,builtin,Builtin.len_,run_underlying h,goInt]
theorem bG {T:TypeId}{E:TypeId}{a:Option Addr}{n:Nat}(h:P.underlying T=aw (.slice E)):DoX P (mB .len #[T] U cb #[.slice a n cap]) w PK K=K (.int .i64 (n:Int)) w:=by
 refine aC ?_;simp[mB,builtin,Builtin.len_,run_underlying h,goInt]
theorem akQ {T E:TypeId}{k:IntKind}{n:Nat}{i:Int}(h:P.underlying T=aw (.slice E))(hsz:(P.info? E).map (·.size)=aw sz)(hs:Sl w v sz n cs)(h0:0<=i)(h1:i < n)
  (kk:∀b off,(∀j u,cs[i.toNat*sz+j]?=aw u->w.cell? ⟨b,off+j,av⟩=aw u)->K (.pointer (aw ⟨b,off,av⟩)) w):DoX P (mIA T v (.int k i)) w PK K:=by
 obtain⟨hl,a,cap,rfl,hn,hc⟩:=hs;obtain⟨ii,hi,hi1⟩:=aqN.1 hsz;cases a with
|none=>have:=hn rfl;omega
|some p=>
  obtain⟨hsp,hc'⟩:=hc p rfl
  replace hsp:=hsp om
  obtain⟨b,off,spot⟩:=p;simp only at hsp hc';subst hsp;refine jV (bK (v:=.pointer (aw ⟨b,off+i.toNat*sz,av⟩)) ?_) (kk b (off+i.toNat*sz) λj u hj=>by rw[arM];exact hc' _ _ hj);have e:(⟨b,off,av⟩:Addr).add (i.toNat*sz)=⟨b,off+i.toNat*sz,av⟩:=by unfold Addr.add;split<;>simp_all
  simp[Instr.indexAt,asIntOf,run_underlying h,h0,h1,sizeOf,typeInfo,hi,hi1,e]
theorem dZ {T E:TypeId}{k:IntKind}{off n:Nat}{i:Int}(h:P.underlying T=aw (.slice E))(hsz:(P.info? E).map (·.size)=aw sz)(h0:0<=i)(h1:i < n) :
  (mIA T (.slice (aw ⟨b,off,av⟩) n cap) (.int k i)).run P w=.ok (.value (.pointer (aw ⟨b,off+i.toNat*sz,av⟩))) w:=by
 obtain⟨ii,hi,hi1⟩:=aqN.1 hsz;have e:(⟨b,off,av⟩:Addr).add (i.toNat*sz)=⟨b,off+i.toNat*sz,av⟩:=by unfold Addr.add;split<;>simp_all
 exact bK (by simp[Instr.indexAt,asIntOf,run_underlying h,h0,h1,sizeOf,typeInfo,hi,hi1,e])
theorem bY {n:Nat}(hs:Sl w v sz n cs)(hn:0 < n):∃b off cap,v=.slice (aw ⟨b,off,av⟩) n cap∧∀j u,cs[j]?=aw u->w.cell? ⟨b,off+j,av⟩=aw u:=by
 obtain⟨_,a,cap,rfl,h1,h2⟩:=hs;cases a with
|none=>have:=h1 rfl;omega
|some p=>
  obtain⟨hsp,hc⟩:=h2 p rfl
  replace hsp:=hsp hn
  obtain⟨b,off,spot⟩:=p;simp only at hsp hc;subst hsp;exact⟨b,off,cap,rfl,hc⟩
theorem O6 {T E:TypeId}{k:IntKind}{n:Nat}{i:Int}(x:ao)(h:P.underlying T=aw (.slice E))(hsz:(P.info? E).map (·.size)=aw 1)(hs:Sl w v 1 n cs)(h0:0<=i)(hx:cs[i.toNat]?=aw x)
  (kk:∀p,w.cell? p=aw x->K (.pointer (aw p)) w):DoX P (mIA T v (.int k i)) w PK K:=by
 have hl:i.toNat < cs.length:=(aoX.1 hx).1;refine akQ h hsz hs h0 (by rw[hs.1] at hl;omega) λb off hc=>kk _ ?_;have:=hc 0 x (by simpa using hx);simpa using this
theorem OD {a1:Addr}{K:Ending->ak->Prop}(t1:eM P T1=au)(h1:w.cell? a1=aw v1)(k:K (.returned v1) w) :
  RetX P [.cell (.pointer (aw a1)) T1] w K:=
 ⟨_,by simp[Fj,RV.read,asAddr,oY t1 h1],k⟩
end
end Eng
end
section
open Eng Go.RowKit Go.ChangeShapes Go.WideShapes Go.ChangeAt
def CJ (P:Program)(ts:List TypeId):Bool:=ts.all λt=>P.readableRec t&&ai (t < P.types.size)
theorem EW {H:Type}{enc:TypeId×ao->H}{P:Program}(hl:laidOutB P=au){W W':ak}(hb:Below W.heap.size W W') :
  ∀(ts:List TypeId) {vs:List ao} {ds:List (DataW H)} {ps:List MemPlace},CJ P ts=au->DataW.TrodAll enc P W 0 (λ_=>au) au ts vs ds ps->(∀x∈ps,x.block < W.heap.size) ->
   DataW.TrodAll enc P W' 0 (λb=>ai (b < W.heap.size)) au ts vs ds ps
|[],vs,ds,ps,_,h,_=>by
  obtain⟨rfl,rfl,rfl⟩:=trodAll_nil h;exact trodAll_mk0
|t::ts,vs,ds,ps,ht,h,hlt=>by
  obtain⟨v0,vs0,d0,ds0,p0,q0,rfl,rfl,rfl,h0,r0⟩:=trodAll_cons h;simp only[CJ,atZ,aoY,apY] at ht;exact trodAll_cons_mk (Below.trod hl ht.1.1 ht.1.2 h0 hb λx hx=>hlt x (by simp[hx])) (EW hl hb ts (by simpa[CJ] using ht.2) r0 λx hx=>hlt x (by simp[hx]))
theorem Zz {enc:TypeId×ao->H}{f:Func}{s:ChangeSpec}{apart handsOn:Bool}{B:TypeId}(hl:laidOutB P=au)(hf:CJ P f.params.toList=au)(hr:f.resultTypes=#[B])(hB:P.underlying B=aw .bool)
  {W W':ak} {args:Array ao} {ds gs:List (DataW H)} {before:List MemPlace} (hv:s.vars=[]) (hW:DataW.Whole enc P f.params.toList s.vars apart W args.toList ds gs before)
  (hfn:s.fn H (ds++gs)={ results:=[.lit (.bool au)],args:=ds }) (hb:Below W.heap.size W W') {fresh:Bool}:s.post enc P f apart fresh handsOn aq W args (.bool au) W':=by
 have hlt:∀x∈before,x.block < W.heap.size:=λx hx=>by simpa using hW.lt x hx
 have hW':=hW;obtain⟨p,q,hA,hV,rfl,_,_⟩:=hW;rw[hv] at hV;obtain⟨rfl,rfl⟩:=trodVars_none hV;refine⟨ds,[],_,[],p,[],hW',?_,?_,?_,hb.frame _,λh=>by cases h⟩
 ·rw[hfn,hr];exact trodAll_cons_mk (shut_bool hB _) trodAll_mk0
 ·rw[hfn];exact EW hl hb _ hf hA λx hx=>hlt x (by simp[hx])
 ·rw[hfn,hv];rfl
def aeD:DataW Unit->List ao
|.lit (.int k n)=>[.int k n]
|_=>[]
def agE:DataW Unit->List ao
|.agg xs=>xs.flatMap λx=>match x with
 |.agg ys=>ys.flatMap aeD
 |y=>aeD y
|y=>aeD y
def Rx (w:ak)(g:Nat)(cs:List ao):World:=
 { w with heap:=w.heap.modify g λ
  |.cells _ t frozen=>.cells cs.toArray t frozen
  |o=>o }
end
namespace Fx
def okB (n:Int):Bool:=ai (-1073741824<=n)&&ai (n<=1073741824)
def ans (n:Int):Int×Int:=if okB n then (n,0) else (0,2)
end Fx
section
namespace Fx
open Go
def aiW (c:UInt8):Bool:=ai (48<=c.toNat)&&ai (c.toNat<=57)
def val (n:Int)(l:List UInt8):Int:=l.foldl (λn c=>10*n+((c.toNat:Int) - 48)) n
def whole (l:List UInt8):List UInt8:=l.takeWhile (λc=>c != 46)
def part (l:List UInt8):List UInt8:=(l.dropWhile (λc=>c != 46)).drop 1
def body:List UInt8->List UInt8
|[]=>[]
|c::t=>if c=45∨c=43 then t else c::t
def minus:List UInt8->Bool
|[]=>aq
|c::_=>ai (c=45)
def form (l:List UInt8):Bool:=ai (l.length<=40)&&(whole (body l)).all aiW&&(part (body l)).all aiW&&ai (0 < (whole (body l)).length+(part (body l)).length)
def more (rest:List UInt8)(neg:Bool):Bool:=
 match rest with
|[]=>aq
|c::t=>ai (53<=c.toNat)&&(!neg||decide (53 < c.toNat)||t.any (λc=>ai (48 < c.toNat)))
def four (p:List UInt8):List UInt8:=(p++[48,48,48,48]).take 4
def mag (l:List UInt8):Int:=val (val 0 (whole (body l))) (four (part (body l)))+(if more ((part (body l)).drop 4) (minus l) then 1 else 0)
def read (l:List UInt8):Int×Int:=
 if form l then
  if val 0 (whole (body l))>1073741824 then (0,2)
  else ans (if minus l then - mag l else mag l)
 else (0,3)
end Fx
end
end Go.Proofs.YtlipjfcbjemicaaGreatDoor

namespace Go.Proofs.YtlipjfcbjemicaaGreatDoor
variable{B l:List Nat}{C:ak->Prop}{D T1 T2 U:TypeId}{H α β:Type}{K:VWP}{L0:Loop}{P:Program}{Q Q':Exit->Act->ak->Prop}{S:Nat->Prop}{a hi lo:Int}{aj:List (Nat×List Nat)}{args:Array ao}{b cap d f i id j sz:Nat}{c v v1:ao}{cb:Array Bool}{cs:List ao}{ds:List Deferred}{fn:Func}{k':IntKind}{ms:Array (String×TypeId)}{ops:Array Oper}{ro:Option Nat}{u:FrameMode}{w w' w0:ak}{want:Bool}{xo yo:Operand}
section
open Go
namespace Oc
def Vf:List UInt8:=[0,9,10,12,13,32]
def ahZ:List UInt8:=[40,41,60,62,91,93,123,125,47,37]
def AF (c:UInt8):Bool:=Vf.contains c
def amM (c:UInt8):Bool:=ahZ.contains c
def regular (c:UInt8):Bool:=!AF c&&!amM c
def hexs:List UInt8:=[48,49,50,51,52,53,54,55,56,57,65,66,67,68,69,70]
def hexD (n:Nat):UInt8:=hexs.getD n 0
def hex1 (c:UInt8):List UInt8:=[hexD (c.toNat / 16),hexD (c.toNat % 16)]
def hex (l:List UInt8):List UInt8:=l.flatMap hex1
theorem YW {n:Nat}(h:n < 16):hexs[n]?=aw (hexD n):=by
 have hl:n < hexs.length:=h;rw[aoI hl,hexD,aoE,aoI hl];rfl
theorem Su (l:List UInt8)(c:UInt8):hex (l++[c])=hex l++hex1 c:=by simp[hex]
theorem LV (l:List UInt8):(hex l).length=2*l.length:=by
 induction l with
|nil=>rfl
|cons c l ih=>
  have e:hex (c::l)=hex1 c++hex l:=by simp[hex]
  rw[e,aoC,ih];simp only[hex1,apB,arL];omega
theorem zV (c:UInt8):∀l:List UInt8,ai (0<=Lib.indexByte l c)=l.contains c
|[]=>by simp[Lib.indexByte]
|b::l=>by
  have ih:=zV c l;have hm:-1<=Lib.indexByte l c:=by
   clear ih
   induction l with
  |nil=>simp[Lib.indexByte]
  |cons a l ih=>
    simp only[Lib.indexByte];split
    ·omega
    ·split<;>omega
  rw[List.contains_cons];by_cases h:b=c
  ·subst h;simp[Lib.indexByte]
  ·have hb:(b==c)=false:=by simpa using h
   have hc:(c==b)=false:=by simpa using λe:c=b=>h e.symm
   rw[hc,Bool.false_or,<-ih];simp only[Lib.indexByte,hb,asN,if_false];split
   ·rename_i he
    have he':Lib.indexByte l c=-1:=by simpa using he
    rw[he']
   ·rename_i he
    have he':Lib.indexByte l c≠-1:=by simpa using he
    have h0:0<=Lib.indexByte l c:=om
    rw[anZ h0,anZ om]
end Oc
namespace Pl
open Oc
def tot (ps:List (List UInt8)):Nat:=(ps.map (λp=>p.length+1)).sum
theorem L1 (a b:List (List UInt8)):tot (a++b)=tot a+tot b:=by simp[tot]
theorem qO:∀ps:List (List UInt8),ps.length<=tot ps
|[]=>by simp
|p::ps=>by have:=qO ps;simp only[tot,aqL,asO,apB] at this ⊢;omega
end Pl
end
section
namespace Eng
open Go.RowKit
def aG (l:List UInt8):List Value:=l.map λc=>.int .u8 (c.toNat:Int)
theorem cP (l:List UInt8):(aG l).length=l.length:=by simp[aG]
theorem fC {l:List UInt8}{c:UInt8}(h:l[i]?=aw c):(aG l)[i]?=aw (.int .u8 (c.toNat:Int)):=by simp[aG,h]
section
variable {S:Nat->Prop}{P:Program}{w:ak}{PK:PKT}{K:VWP}
theorem acW {T:TypeId}{cs:Array Bool}{l:List UInt8}(h:P.underlying T=aw .string):(mB .len #[T] U cs #[.string ⟨l.toArray⟩]).run P w=.ok (.value (.int .i64 (l.length:Int))) w:=by
 simp[mB,builtin,Builtin.len_,run_underlying h,goInt,cW]
theorem Ye {T:TypeId}{a:List UInt8}(h:P.underlying T=aw .string)(h1:0<=hi)(h2:hi<=a.length) :
  (cM T (.string ⟨a.toArray⟩) av (aw (.int k' hi)) av).run P w=.ok (.value (.string ⟨(a.take hi.toNat).toArray⟩)) w:=by
 refine bK ?_;have e:(⟨a.toArray⟩:ByteArray).extract 0 hi.toNat=⟨(a.take hi.toNat).toArray⟩:=by
  rw[KC (s:=(⟨a.toArray⟩:ByteArray).extract 0 hi.toNat),Lib.extract_data];simp
 simp only[Instr.sliceAt,Instr.slice,Instr.sliceBounds,Instr.sliceBound,asIntOf,run_underlying h,cW];simp[run_underlying h,cW,h1,h2,e]
theorem OH {k:IntKind}{b:Int}:DoX P (mB .min #[T1,T2] U cb #[.int k a,.int k' b]) w PK K=K (.int k (min a b)) w:=by
 refine aC ?_;have e:(if b < a then b else a)=min a b:=by split<;>omega
 simp[mB,builtin,Builtin.min_,Builtin.min2,e]
theorem gO {S E:TypeId}{l:List UInt8}(hs:P.underlying S=aw (.slice E))(he:P.underlying E=aw (.int .u8))(hd:P.underlying D=aw .string)(h:Sl w v 1 l.length (aG l)):DoX P (fA S D v) w PK K=K (.string ⟨l.toArray⟩) w:=by
 obtain⟨hl,a,cap,rfl,hn,hc⟩:=h;cases a with
|none=>
  have h0:=hn rfl;have:l=[]:=asG h0;subst this;exact fI (run_convert_bytes_nil w S E hs he _ _ D hd)
|some p=>
  obtain⟨hsp,hcell⟩:=hc p rfl;by_cases h0:l=[]
  ·subst h0;refine fI ?_;have hl0:(loadCells p 0).run P w=.ok (([]:List Int).map (Value.int .u8)).toArray w:=rfl;rw[show ([]:List UInt8).length=0 from rfl,run_convert_bytes_string w S D E _ 0 cap hs he hd,run_bytesToString w p 0 cap [] hl0];rfl
  replace hsp:=hsp (arI.2 h0)
  obtain⟨b,off,spot⟩:=p;simp only at hsp hcell;subst hsp;have:=run_convert_bytes_arg (P:=P) w S E hs he b off l.length cap (l.map λc=>(c.toNat:Int)) sm (λi hi=>by
   refine hcell i _ ?_;simp[aG,aoI hi]) D hd
  refine fI ?_;rw[this];have e:strOfNums (l.map λc=>(c.toNat:Int))=⟨l.toArray⟩:=by
   unfold strOfNums;rw[auP]
   congr 2
   conv=>rhs;rw[<-List.map_id l]
   refine auA λc _=>?_;simp
  rw[e]
theorem IH {L:List Ent}(ho:OwnS S w0 w L)(i:Nat){o o':Obj}(hi:L[i]?=aw (.obj b o)):OwnS S w0 { w with heap:=w.heap.setIfInBounds b o' } (L.set i (.obj b o')):=by
 have h:w.heap[b]?=aw o:=ho.at_ i hi;refine ho.put i hi (w':={ w with heap:=w.heap.setIfInBounds b o' }) ⟨rfl,rfl,rfl,sm,λk _ hk=>?_⟩ (.obj b o') ?_ (λk hk=>.inl hk)
 ·show (w.heap.setIfInBounds b o')[k]?=_;exact asL (λe=>hk (by simp[Ent.obj,e]))
 ·show (w.heap.setIfInBounds b o')[b]?=_;exact avZ (dW h)
theorem x1_0 {a:ao}:DoX P (mExt (.tuple #[a]) 0) w PK K=K a w:=gY (l:=[a]) rfl
theorem x2_0 {a b:ao}:DoX P (mExt (.tuple #[a,b]) 0) w PK K=K a w:=gY (l:=[a,b]) rfl
theorem x2_1 {a b:ao}:DoX P (mExt (.tuple #[a,b]) 1) w PK K=K b w:=gY (l:=[a,b]) rfl
theorem x3_0 {a b c:ao}:DoX P (mExt (.tuple #[a,b,c]) 0) w PK K=K a w:=gY (l:=[a,b,c]) rfl
theorem x3_1 {a b c:ao}:DoX P (mExt (.tuple #[a,b,c]) 1) w PK K=K b w:=gY (l:=[a,b,c]) rfl
theorem x3_2 {a b c:ao}:DoX P (mExt (.tuple #[a,b,c]) 2) w PK K=K c w:=gY (l:=[a,b,c]) rfl
theorem x4_0 {a b c d:ao}:DoX P (mExt (.tuple #[a,b,c,d]) 0) w PK K=K a w:=gY (l:=[a,b,c,d]) rfl
theorem x4_1 {a b c d:ao}:DoX P (mExt (.tuple #[a,b,c,d]) 1) w PK K=K b w:=gY (l:=[a,b,c,d]) rfl
theorem x4_2 {a b c d:ao}:DoX P (mExt (.tuple #[a,b,c,d]) 2) w PK K=K c w:=gY (l:=[a,b,c,d]) rfl
theorem x4_3 {a b c d:ao}:DoX P (mExt (.tuple #[a,b,c,d]) 3) w PK K=K d w:=gY (l:=[a,b,c,d]) rfl
end
theorem g_un {E:(VWP)->Prop}:GDo undef want E w K=K undef w:=propext ⟨λx=>x.out,λx=>⟨x⟩⟩
def ex:=And.intro @x1_0 (And.intro @x2_0 (And.intro @x2_1 (And.intro @x3_0 (And.intro @x3_1 (And.intro @x3_2 (And.intro @x4_0 (And.intro @x4_1 (And.intro @x4_2 @x4_3))))))))
theorem IV {n:Int}(h1:0<=n)(h2:n<=255):IntKind.wrap .u8 n=n:=IntWalk.u8_in n ⟨h1,h2⟩
theorem Cq {n:Int}(h1:-2147483648<=n)(h2:n<=2147483647):IntKind.wrap .i32 n=n:=IntWalk.i32_in n ⟨h1,h2⟩
theorem T4 {n:Int}(h1:0<=n)(h2:n<=18446744073709551615):IntKind.wrap .u64 n=n:=IntWalk.u64_in n ⟨h1,h2⟩
end Eng
end
end Go.Proofs.YtlipjfcbjemicaaGreatDoor
