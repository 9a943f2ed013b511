/- Texts that go together: EngN Eng EngB EngM EngR EngO LawKit Plain02 Plain02R Plain02B Plain04 EngS. -/
import Derived.StillTail
import Derived.Deep.Quiet
import Derived.OrdersHeld
import Derived.WalkKit
import Derived.Recover
import Derived.TacticsIn
import Derived.OrdersIn
import Derived.RangeFuncLeaves
import Derived.WalkLawsBesides
import Derived.IntWalk
import Derived.Lib.Strings
import Derived.Laws.OwnMore
import Derived.Laws.MakeOwn
import Derived.Lib.FrozenHead2
import Derived.ProofKit
import Derived.OpenShut
import Derived.Carry
import Derived.ChangeSlices
import Derived.Deep.DeepHandedRow
import Derived.Lib.LaidTab
import Derived.Lib.SlTrimSet
import Derived.Lib.TrimByte
import GoSem.Op.String
import Derived.Lib.ItoaNum
import Derived.Lib.ItoaLen
import Derived.Lib.IndexEntry
import Derived.Laws.RangeString
import Derived.Laws.BytesArg
set_option linter.defProp false
set_option linter.unusedSimpArgs false
set_option linter.unusedVariables false
set_option maxRecDepth 20000
namespace Go.Proofs
abbrev agV:=@if_neg
abbrev agW:=@if_pos
abbrev agX:=@decide_false
abbrev agY:=@decide_true
abbrev agZ:=@List.length_append
abbrev ahA:=@decide_eq_false
abbrev ahB:=@decide_eq_true
abbrev ahC:=@List.getD_eq_getElem?_getD
abbrev ahD:=@Nat.le_refl
abbrev ahE:=@List.length_take
abbrev ahG:=@List.mem_cons
abbrev ahH:=@List.getElem?_eq_getElem
abbrev ahI:=@Int.toNat_natCast
abbrev ahJ:=@Nat.zero_add
abbrev ahK:=@List.append_assoc
abbrev ahL:=@List.length_drop
abbrev ahO:=@of_decide_eq_true
abbrev ahP:=@List.getElem_mem
abbrev ahQ:=@List.getElem?_eq_some_iff
abbrev ahR:=@Bool.and_eq_true
abbrev ahT:=@List.length_map
abbrev ahU:=@List.length_cons
abbrev ahV:=@List.append_nil
abbrev ahW:=@Nat.zero_le
abbrev ahY:=@Nat.lt_or_ge
abbrev ahZ:=@Nat.mul_one
abbrev aiA:=@List.mem_singleton
abbrev aiB:=@List.mem_cons_of_mem
abbrev aiC:=@List.mem_append
abbrev aiD:=@List.mem_map
abbrev aiE:=@List.length_replicate
abbrev aiF:=@List.take_of_length_le
abbrev aiG:=@List.take_succ_eq_append_getElem
abbrev aiH:=@Nat.min_eq_left
abbrev aiI:=@decide_eq_true_eq
abbrev aiJ:=@List.take_append_drop
abbrev aiK:=@of_decide_eq_false
abbrev aiM:=@List.nil_append
abbrev aiN:=@List.map_append
abbrev aiO:=@Nat.mul_le_mul_right
abbrev aiP:=@List.getElem?_cons_succ
abbrev aiQ:=@Bool.not_true
abbrev aiR:=@Bool.not_false
abbrev aiS:=@List.mem_cons_self
abbrev aiT:=@List.flatMap_cons
abbrev aiU:=@Nat.mod_eq_of_lt
abbrev aiV:=@List.mem_range
abbrev aiW:=@List.map_cons
abbrev aiY:=@Nat.pow_le_pow_right
abbrev aiZ:=@Nat.add_zero
abbrev ajA:=@List.getElem?_append_left
abbrev ajB:=@List.drop_eq_getElem_cons
abbrev ajC:=@List.drop_eq_nil_of_le
abbrev ajD:=@List.getElem?_eq_none
abbrev ajE:=@Nat.lt_of_lt_of_le
abbrev ajF:=@List.pairwise_cons
abbrev ajG:=@List.take_length
abbrev ajH:=@List.not_mem_nil
abbrev ajI:=@decide_eq_false_iff_not
abbrev ajJ:=@List.length_singleton
abbrev ajK:=@List.mem_of_mem_take
abbrev ajL:=@List.drop_zero
abbrev ajM:=@List.length_set
abbrev ajN:=@Option.map_eq_some_iff
abbrev ajO:=@List.getElem?_append_right
abbrev ajP:=@List.take_left'
abbrev ajQ:=@Nat.pow_succ
abbrev ajS:=@List.all_eq_true
abbrev ajT:=@List.getElem?_take
abbrev ajU:=@Nat.add_mul
abbrev ajV:=@Nat.eq_zero_or_pos
abbrev ajW:=@Nat.mod_lt
abbrev ajX:=@List.set_cons_zero
abbrev ajY:=@Nat.div_div_eq_div_mul
abbrev ajZ:=@Nat.le_trans
abbrev akA:=@Nat.succ_mul
abbrev akB:=@List.eq_of_mem_replicate
abbrev akC:=@List.any_eq_true
abbrev akD:=@Nat.zero_mul
abbrev akE:=@Nat.mul_comm
abbrev akF:=@Nat.sub_self
abbrev akG:=@List.getElem?_drop
abbrev akH:=@List.getElem_of_mem
abbrev akI:=@not_false_eq_true
abbrev akJ:=@Option.some.inj
abbrev akK:=@List.length_nil
abbrev akL:=@Nat.add_assoc
abbrev akM:=@List.mem_of_getElem?
abbrev akN:=@List.length_pos_iff
abbrev akO:=@Nat.mul_le_mul
abbrev akP:=@List.getElem?_set_self
abbrev akQ:=@List.mem_of_mem_drop
abbrev akR:=@Option.some.injEq
abbrev akS:=@List.take_zero
abbrev akT:=@List.length_eq_zero_iff
abbrev akU:=@List.cons_append
abbrev akV:=@Prod.mk.injEq
abbrev akW:=@UInt8.toNat_ofNat'
abbrev akX:=@List.sum_cons
abbrev akY:=@List.eq_nil_of_length_eq_zero
abbrev akZ:=@List.map_map
abbrev alB:=@List.pairwise_append
abbrev alC:=@List.drop_append
abbrev alD:=@Option.getD_some
abbrev alE:=@List.count_append
abbrev alF:=@List.set_append_right
abbrev alG:=@List.getElem?_map
abbrev alH:=@Bool.or_eq_true
abbrev alI:=@List.map_nil
abbrev alJ:=@Array.getElem?_setIfInBounds_ne
abbrev alK:=@Bool.true_and
abbrev alL:=@List.pairwise_iff_getElem
abbrev alM:=@List.take_take
abbrev alN:=@Bool.and_assoc
abbrev alO:=@Bool.decide_and
abbrev alP:=@List.drop_drop
abbrev alQ:=@Nat.add_sub_cancel
abbrev alR:=@List.Sublist.refl
abbrev alS:=@List.Perm.refl
abbrev alT:=@Nat.lt_irrefl
abbrev alU:=@Bool.not_eq_true'
abbrev alV:=@Bool.false_eq_true
abbrev alW:=@List.map_congr_left
abbrev alX:=@Option.bind_eq_some_iff
abbrev alY:=@List.range_succ
abbrev alZ:=@List.count_le_length
abbrev amA:=@Nat.div_le_self
abbrev amB:=@UInt8.toNat_lt
abbrev amC:=@List.flatMap_append
abbrev amD:=@List.getElem?_cons_zero
abbrev amE:=@List.take_succ_cons
abbrev amF:=@List.cons.injEq
abbrev amG:=@List.mem_flatMap
abbrev amH:=@Bool.and_eq_false_iff
abbrev amI:=@List.drop_of_length_le
abbrev amJ:=@Nat.one_mul
abbrev amK:=@Nat.mul_assoc
abbrev amL:=@List.map_take
abbrev amN:=@List.flatMap_singleton
abbrev amO:=@List.filter_cons
abbrev amP:=@List.length_eq_one_iff
abbrev amQ:=@Nat.add_comm
abbrev amR:=@Array.mem_of_getElem?
abbrev amS:=@List.getElem_set
abbrev amV:=@Option.map_some
abbrev amW:=@List.perm_append_comm
abbrev amX:=@Nat.add_sub_cancel_left
abbrev amY:=@Nat.mul_sub_right_distrib
abbrev amZ:=@UInt8.toNat_inj
abbrev anA:=@Bool.or_false
abbrev anB:=@Option.isSome_none
abbrev anC:=@Option.isSome_some
abbrev anD:=@Bool.false_and
abbrev anE:=@List.getElem_take
abbrev anF:=@List.set_set
abbrev anG:=@List.replicate_succ
abbrev anH:=@List.getElem?_replicate
abbrev anI:=@List.mem_or_eq_of_mem_set
abbrev anJ:=@List.map_set
abbrev anK:=@List.nodup_cons
abbrev anL:=@Array.getElem?_eq_some_iff
abbrev anM:=@Nat.eq_of_beq_eq_true
abbrev anN:=@Nat.sub_zero
abbrev anO:=@List.all_cons
abbrev anQ:=@List.getElem_cons_zero
abbrev anR:=@List.takeWhile_cons
abbrev anS:=@List.getElem_cons_succ
abbrev anT:=@Classical.not_not
abbrev anU:=@Bool.and_false
abbrev anV:=@Bool.not_not
abbrev anW:=@List.getElem?_set_ne
abbrev anX:=@List.count_singleton
abbrev anY:=@List.getElem_replicate
abbrev anZ:=@Nat.two_pow_pos
abbrev aoA:=@Array.empty_append
abbrev aoB:=@Array.append_empty
abbrev aoC:=@Bool.false_or
abbrev aoD:=@Option.isNone_none
abbrev aoE:=@Option.isNone_some
abbrev aoF:=@List.take_append
abbrev aoG:=@List.drop_succ_cons
abbrev aoH:=@List.take_append_of_le_length
abbrev aoI:=@Bool.and_true
abbrev aoJ:=@Bool.eq_iff_iff
abbrev aoK:=@List.sum_append
abbrev aoL:=@List.take_sublist
abbrev aoM:=@List.length_filter_le
abbrev aoN:=@List.length_range
abbrev aoO:=@List.filter_append
abbrev aoP:=@List.replicate_succ'
abbrev aoQ:=@List.mem_singleton_self
abbrev aoU:=@Array.setIfInBounds_comm
abbrev aoV:=@Array.getD_eq_getD_getElem?
abbrev aoW:=@Array.ext_getElem?
abbrev aoX:=@List.getElem?_toArray
abbrev aoY:=@Array.getElem?_setIfInBounds_self_of_lt
abbrev apC:=@Int.fdiv_eq_ediv_of_nonneg
abbrev apD:=@List.idxOf_lt_length_iff
abbrev apE:=@Int.tdiv_eq_ediv_of_nonneg
abbrev apF:=@List.getElem_append_right
abbrev apG:=@Nat.two_pow_add_eq_or_of_lt
abbrev apH:=@List.perm_cons_erase
abbrev apI:=@List.count_replicate
abbrev apK:=@List.set_eq_take_append_cons_drop
end Go.Proofs
namespace Go.Proofs
theorem om{p:Prop}(h:p:=by omega):p:=h
theorem dc{p:Prop}(h:p:=by decide):p:=h
theorem sm{p:Prop}(h:p:=by simp):p:=h
theorem krx{p:Prop}(h:p:=by kernel_rfl):p:=h
end Go.Proofs
namespace Go.Proofs.YtlipjfcbjemicaaGreatDoor
abbrev PKT:=List PanicEntry->World->Prop
abbrev VWP:=Value->World->Prop
variable{B l:List Nat}{C:World->Prop}{D T1 T2 U:TypeId}{H α β:Type}{K:VWP}{L0:Loop}{P:Program}{Q Q':Exit->Act->World->Prop}{R:Ending->FrameMode->World->Prop}{S:Nat->Prop}{a hi lo:Int}{aj:List (Nat×List Nat)}{args:Array Value}{b cap d f i id j sz:Nat}{c v v1:Value}{cb:Array Bool}{cs:List Value}{ds:List Deferred}{fn:Func}{k':IntKind}{ms:Array (String×TypeId)}{ops:Array Oper}{ro:Option Nat}{u:FrameMode}{w w' w0:World}{want:Bool}{xo yo:Operand}
section
namespace Eng
section
variable {P:Program}{ops:Array Oper}{md:Region.Mode}{C:World->Prop}
def Sm (md:Region.Mode)(ops:Array Oper)(n:Nat)(ms:List Nat):Bool:=
 (List.range n).all fun i=>ms.contains i||(List.range (n+1)).any fun j=>decide (i < j)&&Region.waitsFor md ops j i
structure InvM (md:Region.Mode) (ops:Array Oper) (n:Nat) (ms:List Nat) (listed:Array Bool):Prop where
 head:HeadInv md ops n listed
 moves:∀m∈ms,listed.getD m false=true
theorem InvM.set {n i:Nat}{ms:List Nat}{listed:Array Bool}(inv:InvM md ops n ms listed)(hi:i∈Region.ready md ops listed)(hin:i < n):InvM md ops n ms (listed.setIfInBounds i true):=
 ⟨inv.head.set hi hin,fun m hm=>getD_set_true (inv.moves m hm)⟩
theorem F8 {n:Nat}{ms:List Nat}{listed:Array Bool}(hs:Sm md ops n ms=true)(hc:Region.chainB md ops n=true)(hn:n < ops.size)(inv:InvM md ops n ms listed) :
  ∀(d i:Nat),n - i=d->i < n->listed.getD i true=false->∀t,n<=t->t ∉ Region.ready md ops listed:=by
 intro d
 induction d using Nat.strongRecOn with
|_ d ih=>
  intro i hd hi hun t ht hr;obtain⟨_,ot,hot,hall⟩:=mem_ready.1 hr;have htlt:t < ops.size:=(anL.1 hot).1;by_cases htn:t=n
  ·subst htn;have h0:=ajS.1 hs i (aiV.2 hi);simp only[alH] at h0;rcases h0 with h0|h1
   ·have:=inv.moves i (by simpa using h0);rw[getD_both hun] at this;cases this
   obtain⟨j,hj,hj2⟩:=akC.1 h1;simp only[ahR,aiI] at hj2;obtain⟨oj,hoj,e,he,hb,hon⟩:=Region.waitsFor_spec hj2.2;have hjle:j<=t:=by have:=aiV.1 hj;omega
   by_cases hjt:j=t
   ·subst hjt;have:oj=ot:=akJ (hoj.symm.trans hot);subst this;have h2:=hall e he hb;rw[hon,getD_both hun] at h2;cases h2
   ·cases hl:listed.getD j false with
   |true=>
     have h2:=inv.head.closed j oj hoj hl e he hb;rw[hon,getD_both hun] at h2;cases h2
   |false=>
     have hjs:j < listed.size:=by rw[inv.head.size];omega
     exact ih (t - j) om j rfl om (getD_in hjs hl) t (ahD _) hr
  ·have h1:=ajS.1 hc t (aiV.2 htlt);simp only[alH,aiI] at h1;rcases h1 with h1|h1
   ·omega
   ·obtain⟨o',ho',e,he,hb,hon⟩:=Region.waitsFor_spec h1;have:o'=ot:=akJ (ho'.symm.trans hot);subst this;have h2:=hall e he hb;rw[hon,getD_both (inv.head.tail (t - 1) om om)] at h2;cases h2
theorem T5 {Q Q':Exit->Act->World->Prop}(hQ:∀e a w,Q e a w->Q' e a w):∀(f:Nat) (listed:Array Bool) (a:Act) (w:World),wpAny P md ops Q f listed a w->wpAny P md ops Q' f listed a w
|0,_,_,_,h=>⟨h.1,hQ _ _ _ h.2⟩
|f+1,listed,a,w,h=>by
  refine⟨fun h0=>hQ _ _ _ (h.1 h0),fun i hi=>?_⟩;have h1:=wpOp_mono (fun a' w' h'=>T5 hQ f _ a' w' h') (h.2 i hi);unfold wpOp at h1 ⊢;split
  ·simpa[*] using h1
  ·rename_i o ho
   simp only[ho] at h1;split
   ·rename_i hw
    simp only[hw,if_true] at h1;rcases h1 with h1|⟨h1,a',w',h2⟩
    ·left;unfold Oper.wp at *;generalize (execOp a.eval o).run P w=r at *;cases r with
    |ok x w'=>
      cases x<;>simp only[Oper.upon] at h1 ⊢<;>first|exact h1|skip
      exact h1.mono fun e w'' hc=>by
       cases e with
      |returned u=>exact hc
      |panicked c=>exact hQ _ _ _ hc
      |outgrown=>obtain⟨a',w',h2⟩:=hc;exact⟨a',w',hQ _ _ _ h2⟩
    |halt x w'=>cases x<;>simp only[Oper.upon] at h1 ⊢<;>first|exact h1|exact hQ _ _ _ h1
    ·exact .inr ⟨h1,a',w',hQ _ _ _ h2⟩
   ·rename_i hw;simp only[hw] at h1;exact h1
def yY (P:Program)(md:Region.Mode)(ops:Array Oper)(C:World->Prop)(n:Nat)(L:Array Bool->Act->Prop):Nat->Array Bool->Act->Prop
|0,listed,a=>L listed a
|f+1,listed,a=>
  Region.ready md ops listed≠[]∧∀i∈Region.ready md ops listed,i < n∧qOp P ops C i (yY P md ops C n L f (listed.setIfInBounds i true)) a
theorem kU {n g:Nat}{L:Array Bool->Act->Prop}{Q':Exit->Act->World->Prop}(hL:∀listed a w,C w->L listed a->wpAny P md ops Q' g listed a w) :
  ∀(f:Nat) (listed:Array Bool) (a:Act) (w:World),C w->yY P md ops C n L f listed a->wpAny P md ops Q' (f+g) listed a w
|0,listed,a,w,hC,h=>by rw[ahJ];exact hL _ _ _ hC h
|f+1,listed,a,w,hC,h=>by
  rw[show f+1+g=(f+g)+1 by omega];exact⟨fun h0=>absurd h0 h.1,fun i hi=>wpOp_of_qOp hC (fun a' w' hw' h'=>kU hL f _ a' w' hw' h') (h.2 i hi).2⟩
theorem HJ {n:Nat}{ms:List Nat}{oi:Oper}{L:Array Bool->Act->Prop}(hi:ops[i]?=some oi)(hsel:∀(j:Nat) (o:Oper) cs b,ops[j]?=some o->o.op≠.select cs b)
  (hs:Sm md ops n ms=true) (hc:Region.chainB md ops n=true) (hn:n < ops.size) (hin:i < n)
  (hdone:∀listed a,L listed a->∀j∈Region.ready md ops listed,n<=j) :
  ∀(f:Nat) (listed:Array Bool) (a:Act),InvM md ops n ms listed ->
   (∀j oj,ops[j]?=some oj->j≠i->listed.getD j true=false->(∀e∈oj.after,Region.binds md e=true->e.on≠i)->oi.apart ops oj=true) ->
   i∈Region.ready md ops listed->YieldsIn P ops C oi v a ->
   yY P md ops C n L f (listed.setIfInBounds i true) (a.put oi.dst v)->yY P md ops C n L (f+1) listed a:=by
 intro f
 induction f with
|zero=>
  intro listed a inv _ hr hy H;have hun:=(mem_ready.1 hr).1;refine⟨fun h=>(by rw[h] at hr;cases hr),fun j hj=>?_⟩;have hjn:j < n:=by
   rcases ahY j n with h|h
   ·exact h
   ·exact absurd hj (F8 hs hc hn inv _ i rfl hin hun j h)
  refine⟨hjn,?_⟩;by_cases hji:j=i
  ·subst hji;exact hy.qOp hi H
  ·have:=hdone _ _ H j (ready_mono hj hji);omega
|succ f ih=>
  intro listed a inv hfree hr hy H;have hun:=(mem_ready.1 hr).1;refine⟨fun h=>(by rw[h] at hr;cases hr),fun j hj=>?_⟩;have hjn:j < n:=by
   rcases ahY j n with h|h
   ·exact h
   ·exact absurd hj (F8 hs hc hn inv _ i rfl hin hun j h)
  refine⟨hjn,?_⟩;by_cases hji:j=i
  ·subst hji;exact hy.qOp hi H
  ·have h1:=(H.2 j (ready_mono hj hji)).2;obtain⟨hjun,oj,hoj,hall⟩:=mem_ready.1 hj;have hnot:∀e∈oj.after,Region.binds md e=true->e.on≠i:=fun e he hb heq=>by
    have h1:=hall e he hb;rw[heq,getD_both hun] at h1;cases h1
   have h2:=qOp_put hoj (hfree j oj hoj hji hjun hnot) (fun cs b=>hsel i oi cs b hi) (fun cs b=>hsel j oj cs b hoj) hy h1;have hfree':∀k ok,ops[k]?=some ok->k≠i->(listed.setIfInBounds j true).getD k true=false ->
     (∀e∈ok.after,Region.binds md e=true->e.on≠i)->oi.apart ops ok=true:=fun k ok hk hki hun hno=>by
    refine hfree k ok hk hki ?_ hno;by_cases hjk:j=k
    ·subst hjk;exact hjun
    ·rw[getD_set_ne true hjk] at hun;exact hun
   refine qOp_mono (fun a' h3=>ih (listed.setIfInBounds j true) a' (inv.set hj hjn) hfree' (ready_mono hr (Ne.symm hji)) h3.1 ?_) h2;rw[aoU _ _ hji];exact h3.2
def BQ (md:Region.Mode)(ops:Array Oper)(g n:Nat):List (Nat×Oper)->Array Bool->Bool
|[],listed=>Region.seqB md ops g n listed
|(k,_)::r,listed=>(Region.ready md ops listed).contains k&&Region.free md ops listed k&&decide (k < n)&&BQ md ops g n r (listed.setIfInBounds k true)
def snds:List (Nat×Oper)->List Oper
|[]=>[]
|p::l=>p.2::snds l
def fsts:List (Nat×Oper)->List Nat
|[]=>[]
|p::l=>p.1::fsts l
theorem wC {n g:Nat}{ms:List Nat}{Lq:Act->Prop}(hsel:Region.noSelect ops=true)(hs:Sm md ops n ms=true)(hc:Region.chainB md ops n=true)(hn:n < ops.size) :
  ∀(l:List (Nat×Oper)) (listed:Array Bool) (a:Act),(∀p∈l,ops[p.1]?=some p.2)->InvM md ops n ms listed ->
  BQ md ops g n l listed=true->wpQuiet P ops C Lq (snds l) a ->
  yY P md ops C n (fun listed' a'=>Region.seqB md ops g n listed'=true∧Lq a') l.length listed a
|[],listed,a,_,inv,hB,h=>⟨hB,h⟩
|(k,o)::l,listed,a,hl,inv,hB,h=>by
  have h0:ops[k]?=some o:=hl (k,o) sm;simp only[BQ,ahR,aiI] at hB;obtain⟨⟨⟨hr,hf⟩,hkn⟩,hB'⟩:=hB;have hr':k∈Region.ready md ops listed:=by simpa using hr
  have hst:qOp P ops C k (wpQuiet P ops C Lq (snds l)) a:=by unfold qOp;simp only[h0];exact h
  obtain⟨v,hy,hK⟩:=yieldsIn_of_qOp h0 hst;exact HJ h0 (Region.noSelect_spec hsel) hs hc hn hkn (fun listed' a' hL=>seqB_ready hL.1) l.length listed a inv (Region.free_spec h0 hf) hr' hy
   (wC hsel hs hc hn l _ _ (fun p hp=>hl p (by simp[hp])) (inv.set hr' hkn) hB' hK)
def isMv (o:Oper):Bool:=
 match o.op with
|.move _|.assign _=>match o.guard with
 |none=>true
 |some _=>false
|_=>false
def Oa (md:Region.Mode)(ops:Array Oper)(n:Nat):List (Nat×Oper)->Array Bool->Option (Array Bool)
|[],listed=>some listed
|(k,o)::r,listed=>if (Region.ready md ops listed).contains k&&Region.free md ops listed k&&decide (k < n)&&isMv o then Oa md ops n r (listed.setIfInBounds k true) else none
def L5 (o:Oper)(a:Act):Value:=
 match o.op with
|.move x|.assign x=>a.eval x
|_=>undef
def jF:List (Nat×Oper)->Act->Act
|[],a=>a
|(_,o)::r,a=>jF r (a.put o.dst (L5 o a))
theorem RC {o:Oper}(h:isMv o=true)(a:Act):Yields P ops o (L5 o a) a:=by
 unfold isMv at h;left;split at h
 ·rename_i x hx
  split at h
  ·rename_i hg
   refine⟨by simp[Region.wanted,hg],fun w=>?_⟩;rw[show execOp a.eval o=pure (.value (a.eval x)) by unfold execOp;rw[hx]];simp only[L5,hx];rfl
  ·cases h
 ·rename_i x hx
  split at h
  ·rename_i hg
   refine⟨by simp[Region.wanted,hg],fun w=>?_⟩;rw[show execOp a.eval o=pure (.value (a.eval x)) by unfold execOp;rw[hx]];simp only[L5,hx];rfl
  ·cases h
 ·cases h
theorem Gk {n:Nat}{Q:Exit->Act->World->Prop}{fuel:Nat}(hsel:Region.noSelect ops=true)(ms0:List Nat):∀(ms:List (Nat×Oper)) (listed listed':Array Bool) (a:Act) (w:World),(∀p∈ms,ops[p.1]?=some p.2)->Oa md ops n ms listed=some listed' ->
  (∀p∈ms,∀v c a w,Q (.panic c) (a.put p.2.dst v) w->Q (.panic c) a w) ->
  InvM md ops n ms0 listed->(InvM md ops n (fsts ms++ms0) listed'->wpAny P md ops Q fuel listed' (jF ms a) w)->wpAny P md ops Q (ms.length+fuel) listed a w
|[],listed,listed',a,w,_,ht,_,inv,h=>by
  cases ht;rw[akK,ahJ];exact h inv
|(k,o)::ms,listed,listed',a,w,hl,ht,hQ,inv,h=>by
  have h0:ops[k]?=some o:=hl (k,o) sm;unfold Oa at ht;split at ht
  ·rename_i hc
   simp only[ahR,aiI] at hc;obtain⟨⟨⟨hr,hf⟩,hkn⟩,hmv⟩:=hc;have hr':k∈Region.ready md ops listed:=by simpa using hr
   have hks:k < listed.size:=by rw[inv.head.size];exact (anL.1 h0).1
   rw[ahU,show ms.length+1+fuel=ms.length+fuel+1 by omega];refine wpAny_take h0 hsel hf hr (hQ (k,o) sm _) (RC hmv a) ?_;refine Gk hsel (k::ms0) ms _ listed' _ w (fun p hp=>hl p (by simp[hp])) ht (fun p hp=>hQ p (by simp[hp])) ⟨inv.head.set hr' hkn,fun m hm=>?_⟩ (fun inv'=>h ⟨inv'.head,fun m hm=>inv'.moves m ?_⟩)
   ·rcases ahG.1 hm with rfl|hm
    ·simp[hks]
    ·exact getD_set_true (inv.moves m hm)
   ·simp only[fsts,akU,ahG,aiC] at hm ⊢;rcases hm with h|h|h
    ·exact .inr (.inl h)
    ·exact .inl h
    ·exact .inr (.inr h)
  ·cases ht
def LI (ops:Array Oper)(n:Nat)(ms hs:List (Nat×Oper)):Bool:=
 Region.noSelect ops&&decide (n < ops.size)&&Sm .any ops n (fsts ms++[])&&Region.chainB .any ops n&&decide (ms.length+hs.length=n) &&
  (match Oa .any ops n ms (Array.replicate ops.size false) with
 |some listed=>BQ .any ops (ops.size - n) n hs listed
 |none=>false)
theorem HD {a:Act}{l:List Oper}(n:Nat)(ms hs:List (Nat×Oper))(hB:LI l.toArray n ms hs=true)(hC:C { w with drawn:=w.drawn+1 })
  (hms:∀p∈ms,l.toArray[p.1]?=some p.2) (hhs:∀p∈hs,l.toArray[p.1]?=some p.2) (hQQ:∀e a w,Q' e a w->Q e a w)
  (hQ:∀p∈ms,∀v c a w,Q' (.panic c) (a.put p.2.dst v) w->Q' (.panic c) a w)
  (h:wpQuiet P l.toArray C (fun a'=>∀w',C w'->wpList P l.toArray Q' (l.drop n) a' w') (snds hs) (jF ms a)):wpAny P .any l.toArray Q l.toArray.size (Array.replicate l.toArray.size false) a { w with drawn:=w.drawn+1 }:=by
 simp only[LI,ahR,aiI] at hB;obtain⟨⟨⟨⟨⟨hsel,hn⟩,hsk⟩,hc⟩,hlen⟩,hlex⟩:=hB;split at hlex
 ·rename_i listed' htk
  have inv0:InvM .any l.toArray n [] (Array.replicate l.toArray.size false):=
   ⟨⟨sm,fun j oj _ hl=>(by rw[getD_replicate_false] at hl;cases hl),fun t _ ht=>getD_in (by simpa using ht) (getD_replicate_false _ _)⟩,fun m hm=>by cases hm⟩
  have hn':n < l.length:=by simpa using hn
  have hdl:(l.drop n).length=l.toArray.size - n:=sm
  refine T5 hQQ _ _ _ _ ?_;have e:l.toArray.size=ms.length+(hs.length+(l.toArray.size - n)):=om
  rw[e];rw[<-e];have H:=Gk (P:=P) (md:=.any) (fuel:=hs.length+(l.toArray.size - n)) hsel [] ms (Array.replicate l.toArray.size false) listed' a { w with drawn:=w.drawn+1 } hms htk hQ inv0 (fun inv'=>by
   have H2:=wC (P:=P) (md:=.any) (g:=l.toArray.size - n) hsel hsk hc hn hs listed' (jF ms a) hhs inv' hlex h;exact kU (Q':=Q') (g:=l.toArray.size - n) (fun listed a' w' hw' hL=>by
    have:=wpAny_of_seq (md:=.any) (Q':=Q') (l.drop n) n listed a' w' (fun j=>by simp[akG]) (by rw[hdl];exact hL.1) (hL.2 w' hw')
    rwa [hdl] at this) _ _ _ _ hC H2)
  rw[<-e] at H;exact H
 ·cases hlex
def G4 (P:Program)(ops:Array Oper)(L:Act->Prop):List (Nat×Oper)->Act->Prop
|[],a=>L a
|p::r,a=>∃v,Yields P ops p.2 v a∧G4 P ops L r (a.put p.2.dst v)
def Oi (md:Region.Mode)(ops:Array Oper)(n:Nat):List (Nat×Oper)->Array Bool->Option (Array Bool)
|[],listed=>some listed
|(k,_)::r,listed=>if (Region.ready md ops listed).contains k&&Region.free md ops listed k&&decide (k < n) then Oi md ops n r (listed.setIfInBounds k true) else none
theorem Er {n:Nat}{Q:Exit->Act->World->Prop}{fuel:Nat}{L:Act->Prop}(hsel:Region.noSelect ops=true)(ms0:List Nat):∀(ms:List (Nat×Oper)) (listed listed':Array Bool) (a:Act) (w:World),(∀p∈ms,ops[p.1]?=some p.2)->Oi md ops n ms listed=some listed' ->
  (∀p∈ms,∀v c a w,Q (.panic c) (a.put p.2.dst v) w->Q (.panic c) a w) ->
  InvM md ops n ms0 listed->(InvM md ops n (fsts ms++ms0) listed'->∀a',L a'->wpAny P md ops Q fuel listed' a' w)->G4 P ops L ms a->wpAny P md ops Q (ms.length+fuel) listed a w
|[],listed,listed',a,w,_,ht,_,inv,h,hL=>by
  cases ht;rw[akK,ahJ];exact h inv a hL
|(k,o)::ms,listed,listed',a,w,hl,ht,hQ,inv,h,hL=>by
  have h0:ops[k]?=some o:=hl (k,o) sm;obtain⟨v,hy,hL⟩:=hL;unfold Oi at ht;split at ht
  ·rename_i hc
   simp only[ahR,aiI] at hc;obtain⟨⟨hr,hf⟩,hkn⟩:=hc;have hr':k∈Region.ready md ops listed:=by simpa using hr
   have hks:k < listed.size:=by rw[inv.head.size];exact (anL.1 h0).1
   rw[ahU,show ms.length+1+fuel=ms.length+fuel+1 by omega];refine wpAny_take h0 hsel hf hr (hQ (k,o) sm _) hy ?_;refine Er hsel (k::ms0) ms _ listed' _ w (fun p hp=>hl p (by simp[hp])) ht (fun p hp=>hQ p (by simp[hp])) ⟨inv.head.set hr' hkn,fun m hm=>?_⟩ (fun inv'=>h ⟨inv'.head,fun m hm=>inv'.moves m ?_⟩) hL
   ·rcases ahG.1 hm with rfl|hm
    ·simp[hks]
    ·exact getD_set_true (inv.moves m hm)
   ·simp only[fsts,akU,ahG,aiC] at hm ⊢;rcases hm with h|h|h
    ·exact .inr (.inl h)
    ·exact .inl h
    ·exact .inr (.inr h)
  ·cases ht
def LM (ops:Array Oper)(n:Nat)(ms hs:List (Nat×Oper)):Bool:=
 Region.noSelect ops&&decide (n < ops.size)&&Sm .any ops n (fsts ms++[])&&Region.chainB .any ops n&&decide (ms.length+hs.length=n) &&
  (match Oi .any ops n ms (Array.replicate ops.size false) with
 |some listed=>BQ .any ops (ops.size - n) n hs listed
 |none=>false)
def noG:List (Nat×Oper)->Bool
|[]=>true
|p::r=>p.2.guard.isNone&&noG r
def Nj (ops:Array Oper)(n:Nat)(ms hs:List (Nat×Oper)):Bool:=noG ms&&LM ops n ms hs
theorem Hr {a:Act}{l:List Oper}(n:Nat)(ms hs:List (Nat×Oper))(hB:Nj l.toArray n ms hs=true)(hC:C { w with drawn:=w.drawn+1 })
  (hms:∀p∈ms,l.toArray[p.1]?=some p.2) (hhs:∀p∈hs,l.toArray[p.1]?=some p.2) (hQQ:∀e a w,Q' e a w->Q e a w)
  (hQ:∀p∈ms,∀v c a w,Q' (.panic c) (a.put p.2.dst v) w->Q' (.panic c) a w)
  (h:G4 P l.toArray (fun a=>wpQuiet P l.toArray C (fun a'=>∀w',C w'->wpList P l.toArray Q' (l.drop n) a' w') (snds hs) a) ms a):wpAny P .any l.toArray Q l.toArray.size (Array.replicate l.toArray.size false) a { w with drawn:=w.drawn+1 }:=by
 replace hB:=(ahR _ _▸(show (noG ms&&LM l.toArray n ms hs)=true from hB):_∧_).2
 simp only[LM,ahR,aiI] at hB;obtain⟨⟨⟨⟨⟨hsel,hn⟩,hsk⟩,hc⟩,hlen⟩,hlex⟩:=hB;split at hlex
 ·rename_i listed' htk
  have inv0:InvM .any l.toArray n [] (Array.replicate l.toArray.size false):=
   ⟨⟨sm,fun j oj _ hl=>(by rw[getD_replicate_false] at hl;cases hl),fun t _ ht=>getD_in (by simpa using ht) (getD_replicate_false _ _)⟩,fun m hm=>by cases hm⟩
  have hdl:(l.drop n).length=l.toArray.size - n:=sm
  refine T5 hQQ _ _ _ _ ?_;have e:l.toArray.size=ms.length+(hs.length+(l.toArray.size - n)):=om
  rw[e];rw[<-e];have H:=Er (P:=P) (md:=.any) (fuel:=hs.length+(l.toArray.size - n)) hsel [] ms (Array.replicate l.toArray.size false) listed' a { w with drawn:=w.drawn+1 } hms htk hQ inv0 (fun inv' a' hq=>by
   have H2:=wC (P:=P) (md:=.any) (g:=l.toArray.size - n) hsel hsk hc hn hs listed' a' hhs inv' hlex hq;exact kU (Q':=Q') (g:=l.toArray.size - n) (fun listed a' w' hw' hL=>by
    have:=wpAny_of_seq (md:=.any) (Q':=Q') (l.drop n) n listed a' w' (fun j=>by simp[akG]) (by rw[hdl];exact hL.1) (hL.2 w' hw')
    rwa [hdl] at this) _ _ _ _ hC H2) h
  rw[<-e] at H;exact H
 ·cases hlex
end
end Eng
end
section
namespace Eng
open Go.RowKit
abbrev Sg:=Nat->Value
abbrev bc {α:Sort _}(b:Bool)(x y:α):α:=match b with|true=>x|false=>y
theorem aF {α:Sort _}{x y:α}:bc true x y=x:=rfl
theorem aD {α:Sort _}{x y:α}:bc false x y=y:=rfl
def upd (σ:Sg)(d:Nat)(v:Value):Sg:=fun i=>bc (Nat.beq i d) v (σ i)
def put (σ:Sg):Option Nat->Value->Sg
|some d,v=>upd σ d v
|none,_=>σ
def rd (σ:Sg):Operand->Value
|.tmp t=>σ t
|.const v=>v
|.global g=>.pointer (some ⟨g,0,none⟩)
|.func f=>.func (.func f) #[] #[]
def inB (n:Nat):Option Nat->Bool
|some d=>Nat.blt d n
|none=>true
structure Rep (n:Nat) (σ:Sg) (t:Array Value):Prop where
 size:t.size=n
 get:∀i,t.getD i undef=σ i
theorem Rep.put {n:Nat}{σ:Sg}{a:Act}(h:Rep n σ a.tmps){d:Option Nat}(hd:inB n d=true)(v:Value):Rep n (put σ d v) (a.put d v).tmps:=by
 cases d with
|none=>exact h
|some d=>
  have hd':d < a.tmps.size:=by rw[h.size];simpa[inB,Nat.blt_eq] using hd
  refine⟨by simpa[Act.put] using h.size,fun i=>?_⟩;have:=h.get i;simp only[Act.put,Eng.put,upd];by_cases hi:i=d
  ·subst hi;simp[hd']
  ·have hb:Nat.beq i d=false:=by
    cases hb:Nat.beq i d
    ·rfl
    ·exact absurd (anM hb) hi
   rw[hb,aD,<-this];simp[aoV,Ne.symm hi]
theorem Rep.eval {n:Nat}{σ:Sg}{a:Act}(h:Rep n σ a.tmps):a.eval=rd σ:=by
 funext x
 cases x with
|tmp t=>exact h.get t
|_=>rfl
def Cont (K:VWP)(PK:PKT):Ending->World->Prop
|.returned v,w=>K v w
|.panicked c,w=>PK c w
|.outgrown,_=>False
abbrev Fr (ro:Option Nat):Fence:={ Fence.wide with round:=ro }
theorem IZ {n:Nat}{f:FuncId}{R:Ending->World->Prop}:CallsIn (Fr ro) n P f args w R↔Calls P f args w R:=
 callsIn_wide (n:=n)
structure RdX (P:Program) (l:Nat) (f:FuncId) (tmps:Array Value) (assign body:Code) (w:World) (R:Ending->World->Prop):Prop where
 mk ::
 out:RoundIn Fence.wide 0 P l f tmps assign body w R
structure CallX (P:Program) (f:Nat) (args:Array Value) (w:World) (PK:PKT) (K:VWP):Prop where
 mk ::
 out:Calls P f args w (Cont K PK)
def Upon (P:Program)(r:Result Next)(K:VWP)(PK:PKT):Prop:=
 match r with
|.ok (.value v) w=>K v w
|.ok .skip w=>K undef w
|.ok (.enter f args) w=>CallX P f args w PK K
|.ok (.round l f tmps assign body) w=>RdX P l f tmps assign body w (Cont K PK)
|.halt (.panic v) w=>PK [{ v,recovered:=false }] w
|_=>False
structure DoX (P:Program) (m:Sem Next) (w:World) (PK:PKT) (K:VWP):Prop where
 mk ::
 out:Upon P (m.run P w) K PK
def bZ (P:Program)(f:Nat):Bool:=
 match P.funcs[f]? with
|some fn=>!(fn.name=="runtime.NumGoroutine")&&fn.body.isSome
|none=>false
theorem lJ (h:bZ P f=true)(args:Array Value)(w:World):(callFunc f args).run P w=.ok (.enter f args) w:=by
 unfold bZ at h;cases hf:P.funcs[f]? with
|none=>rw[hf] at h;cases h
|some fn=>
  rw[hf] at h;simp only[ahR,alU] at h;obtain⟨h1,h2⟩:=h;have h3:fn.body.isNone=false:=by cases hb:fn.body<;>simp_all
  have h1':fn.name≠"runtime.NumGoroutine":=by simpa using h1
  have h3':fn.body≠none:=by intro hc;rw[hc] at h3;cases h3
  simp[callFunc,hf,h1',h3',program,Sem.run,bind,Sem.bind,pure]
def amap {α β:Type}(f:α->β)(a:Array α):Array β:=(a.toList.map f).toArray
theorem A2 (f:α->β)(a:Array α):amap f a=a.map f:=by
 apply Array.ext';simp[amap]
def mv (s:Sem Value):Sem Next:=do pure (.value (<-s))
def mu (s:Sem Unit):Sem Next:=do s;pure .skip
def Da (T:TypeId):=mv (Instr.alloc T true (.tuple #[]))
def mBox (T:TypeId)(x:Value):=mv (Instr.box T x)
def aZ (T:TypeId)(ps:Array (Nat×Value)):=mv (Instr.build T ps)
def bN (T:TypeId)(n:Nat)(ps:Array (Nat×Value)):=mv (Instr.buildSlice T n ps)
def aI (T:TypeId)(a:Value):=mv (Instr.loadAt T a)
def aS (T:TypeId)(a x:Value):=mu (Instr.storeAt T a x)
def aaN (g:Nat):=mu (Instr.ready g)
def abK (g:Nat):=mv (Instr.waits g)
def mNil (x:Value):Sem Next:=execOp (fun _=>x) { dst:=none,op:=.nilCheck (.tmp 0),type:=0,pos:="",after:=#[],guard:=none }
def eS (c a b:Value):Sem Next:=do pure (.value (if <-asBool c then a else b))
def mBin (op:BinOp)(T:TypeId)(x y:Value):=mv (binOp op T x y)
def mEq (op:BinOp)(T:TypeId)(xo yo:Operand)(x y:Value):=mv (do eqGuard op T xo yo x y;binOp op T x y)
def mUn (op:UnOp)(x:Value):=mv (Op.unary op x)
def gL (S D:TypeId)(x:Value):=mv (convert S D x)
def mSAP (D:TypeId)(x:Value):=mv (Instr.arrayAt D x)
def Wz (T:TypeId)(x:Value):=mv (Instr.makeInterface T x)
def PM (fn:Fn)(first cap:Array Value):=mv (Instr.makeFunc fn first cap)
def mMap (T:TypeId)(r:Option Value):=mv (Instr.makeMap T r)
def HM (T:TypeId)(l c:Value):=mv (Instr.makeSlice T l c)
def dB (T:TypeId)(x:Value)(lo hi mx:Option Value):=mv (Instr.sliceAt T x lo hi mx)
def mFA (T:TypeId)(x:Value)(f:Nat):=mv (Instr.fieldAt T x f)
def mFld (T:TypeId)(x:Value)(f:Nat):=mv (Instr.field T x f)
def mIA (T:TypeId)(x i:Value):=mv (Instr.indexAt T x i)
def mIx (T:TypeId)(x i:Value):=mv (Instr.index T x i)
def Ru (T:TypeId)(x i:Value)(ok:Bool):=mv (Instr.lookup T x i ok)
def Q8 (T:TypeId)(m k v:Value):=mu (Instr.mapUpdate T m k v)
def aeA (T:TypeId)(m k:Value):=mv (Instr.mapEntry T m k)
def aeK (T:TypeId)(m s v:Value):=mu (Instr.entryStore T m s v)
def abE (T:TypeId)(x:Value):=mv (Instr.range T x)
def agC (it:Value)(str:Bool)(ty:TypeId):=mv (Instr.next it str ty)
def aaO (it:Value):=mv (Instr.entry it)
def mTA (x:Value)(xT T:TypeId)(ok:Bool):=mv (Instr.typeAssert x xT T ok)
def mExt (t:Value)(i:Nat):=mv (Instr.extract t i)
def Ev (x:Value):=mv (Instr.panic x)
def mB (b:Builtin)(ats:Array TypeId)(ty:TypeId)(cs:Array Bool)(vs:Array Value):Sem Next:=builtin b ats ty cs vs
def gI (f:Value)(args:Array Value):Sem Next:=do let d <-Deferred.ofValue f args;invoke d.target d.args
def mInv (name:String)(r:Value)(args:Array Value):Sem Next:=invoke (.fn (.method name) #[]) (#[r]++args)
def isEq:BinOp->Bool
|.eql|.neq=>true
|_=>false
def isLit:Operand->Bool
|.const _=>true
|_=>false
def EV (ρ:Operand->Value)(o:Oper):Sem Next:=
 match o.op with
|.alloc T=>Da T
|.box T x=>mBox T (ρ x)
|.build T ps=>aZ T (amap (fun p=>(p.1,ρ p.2)) ps)
|.buildSlice T n ps=>bN T n (amap (fun p=>(p.1,ρ p.2)) ps)
|.load T a=>aI T (ρ a)
|.store T a x=>aS T (ρ a) (ρ x)
|.ready g=>aaN g
|.waits g=>abK g
|.nilCheck x=>mNil (ρ x)
|.pick c a b=>eS (ρ c) (ρ a) (ρ b)
|.binOp op T x y _=>bc (isEq op) (mEq op T x y (ρ x) (ρ y)) (mBin op T (ρ x) (ρ y))
|.unOp op _ x=>mUn op (ρ x)
|.convert S D x=>gL S D (ρ x)
|.sliceToArrayPointer D x=>mSAP D (ρ x)
|.makeInterface T x=>Wz T (ρ x)
|.makeFunc fn first cap=>PM fn (amap ρ first) (amap ρ cap)
|.makeMap T r=>mMap T (r.map ρ)
|.makeSlice T l c=>HM T (ρ l) (ρ c)
|.slice T x lo hi mx=>dB T (ρ x) (lo.map ρ) (hi.map ρ) (mx.map ρ)
|.fieldAddr T x f=>mFA T (ρ x) f
|.field T x f=>mFld T (ρ x) f
|.indexAddr T x i=>mIA T (ρ x) (ρ i)
|.index T x i=>mIx T (ρ x) (ρ i)
|.lookup T x i ok=>Ru T (ρ x) (ρ i) ok
|.mapUpdate T m k v=>Q8 T (ρ m) (ρ k) (ρ v)
|.insert T m k v=>Q8 T (ρ m) (ρ k) (ρ v)
|.mapEntry T m k=>aeA T (ρ m) (ρ k)
|.entryStore T m s v=>aeK T (ρ m) (ρ s) (ρ v)
|.range T x=>abE T (ρ x)
|.next it str=>agC (ρ it) str o.type
|.entry it=>aaO (ρ it)
|.typeAssert x xT T ok=>mTA (ρ x) xT T ok
|.extract t i=>mExt (ρ t) i
|.panic x=>Ev (ρ x)
|.call { callee:=.builtin b,args,argTypes }=>mB b argTypes o.type (amap isLit args) (amap ρ args)
|.call { callee:=.value f,args,.. }=>gI (ρ f) (amap ρ args)
|.call { callee:=.invoke r name,args,.. }=>mInv name (ρ r) (amap ρ args)
|_=>execOp ρ o
theorem tD (ρ:Operand->Value)(o:Oper):EV ρ o=execOp ρ o:=by
 obtain⟨dst,op,ty,pos,after,guard⟩:=o;unfold EV;simp only[A2];cases op with
|binOp op T x y T'=>cases op<;>rfl
|call c=>
  obtain⟨callee,args,ats⟩:=c;cases callee with
 |value f=>rfl
 |invoke r n=>rfl
 |builtin b=>rfl
|_=>rfl
def opV (P:Program)(o:Oper)(σ:Sg)(w:World)(K:VWP)(PK:PKT):Prop:=
 match o.op with
|.move x|.assign x=>K (rd σ x) w
|.call { callee:=.value (.func f),args,.. }=>bc (bZ P f) (CallX P f (amap (rd σ) args) w PK K) (DoX P (EV (rd σ) o) w PK K)
|.defer _=>False
|_=>DoX P (EV (rd σ) o) w PK K
def jE (v:Value)(want:Bool):Bool:=
 match v with
|.bool b=>b==want
|_=>false
def KU (ops:Array Oper)(j:Nat):Option Nat:=(ops[j]?).bind (·.dst)
structure GDo (v:Value) (want:Bool) (E:(VWP)->Prop) (w:World) (K:VWP):Prop where
 mk ::
 out:bc (jE v want) (E K) (K undef w)
abbrev Nx:=Sg->List Deferred->World->Prop
def dfr (σ:Sg)(c:Call):Option Deferred:=
 match c.callee with
|.value (.func f)=>some { target:=.fn (.func f) #[],args:=amap (rd σ) c.args }
|.value x=>match rd σ x with
 |.func fn first captured=>some { target:=.fn fn captured,args:=first++amap (rd σ) c.args }
 |_=>none
|_=>none
structure DfrX (d:Option Deferred) (K:Deferred->Prop):Prop where
 mk ::
 out:∃d',d=some d'∧K d'
def opsX (P:Program)(ro:Option Nat)(n:Nat)(ops:Array Oper)(K:Nx)(PK:List PanicEntry->Nx):List Oper->Sg->List Deferred->World->Prop
|[],σ,ds,w=>K σ ds w
|o::rest,σ,ds,w=>
  bc (inB n o.dst)
   (match o.guard with
  |none=>
    match o.op with
   |.defer c=>match ro with
    |none=>match c.callee with
     |.value (.func f)=>opsX P ro n ops K PK rest (put σ o.dst undef) ({ target:=.fn (.func f) #[],args:=amap (rd σ) c.args }::ds) w
     |_=>DfrX (dfr σ c) (fun d=>opsX P ro n ops K PK rest (put σ o.dst undef) (d::ds) w)
    |some _=>False
   |_=>opV P o σ w (fun v w=>opsX P ro n ops K PK rest (put σ o.dst v) ds w) (fun c w=>PK c σ ds w)
  |some (j,want)=>
    match KU ops j with
   |some d=>bc (Nat.blt d n) (GDo (σ d) want (fun K'=>opV P o σ w K' (fun c w=>PK c σ ds w)) w (fun v w=>opsX P ro n ops K PK rest (put σ o.dst v) ds w)) False
   |none=>False)
   False
def mI (n:Nat)(K:Nx)(a:Act)(w:World):Prop:=∃σ,Rep n σ a.tmps∧K σ a.defers w
theorem afU {o:Oper}{n:Nat}{σ:Sg}{a:Act}(hr:Rep n σ a.tmps)(hd:inB n o.dst=true)(hnd:∀c,o.op≠.defer c){K:Nx}{PK:List PanicEntry->Nx}{next:Act->World->Prop}
  (hQ:∀c a w,mI n (PK c) a w->Q (.panic c) a w) (hnext:∀a w,mI n K a w->next a w)
  (h:Upon P ((execOp (rd σ) o).run P w) (fun v w=>K (put σ o.dst v) a.defers w) (fun c w=>PK c σ a.defers w)):o.wpIn (Fr ro) 0 P a w next Q:=by
 unfold Oper.wpIn;refine⟨fun _ _=>trivial,?_⟩;rw[hr.eval,Oper.semAt_eq _ _ _ hnd];generalize (execOp (rd σ) o).run P w=r at *;have hput:∀v w,K (put σ o.dst v) a.defers w->next (a.put o.dst v) w:=fun v w hk=>hnext _ _ ⟨_,hr.put hd v,by
  have e:(a.put o.dst v).defers=a.defers:=by cases o.dst<;>rfl
  rw[e];exact hk⟩
 cases r with
|ok x w'=>
  cases x<;>simp only[Upon] at h<;>simp only[Oper.uponIn]
  ·exact hput _ _ h
  ·exact hput _ _ h
  ·refine⟨(fun hx=>by cases hx),IZ.2 (h.out.mono fun e w'' hc=>?_)⟩;cases e with
  |returned v=>exact hput _ _ hc
  |panicked c=>exact hQ _ _ _ ⟨σ,hr,hc⟩
  |outgrown=>exact hc.elim
  all_goals first|exact h.elim|skip
  refine⟨(fun hx=>by cases hx),RoundIn.mono h.out fun e w'' hc=>?_⟩;cases e with
 |returned v=>exact hput _ _ hc
 |panicked c=>exact hQ _ _ _ ⟨σ,hr,hc⟩
 |outgrown=>exact hc.elim
|halt x w'=>
  cases x<;>simp only[Upon] at h<;>simp only[Oper.uponIn]
  case panic v=>exact hQ _ _ _ ⟨σ,hr,h⟩
  all_goals exact h.elim
theorem OH {o:Oper}{n:Nat}{σ:Sg}{a:Act}(hr:Rep n σ a.tmps)(hd:inB n o.dst=true){K:Nx}{PK:List PanicEntry->Nx}{next:Act->World->Prop}
  (hQ:∀c a w,mI n (PK c) a w->Q (.panic c) a w) (hnext:∀a w,mI n K a w->next a w)
  (h:opV P o σ w (fun v w=>K (put σ o.dst v) a.defers w) (fun c w=>PK c σ a.defers w)):o.wpIn (Fr ro) 0 P a w next Q:=by
 refine afU hr hd (fun c hc=>by unfold opV at h;rw[hc] at h;exact h.elim) hQ hnext ?_;unfold opV at h;split at h
 ·rename_i x hx;rw[show execOp (rd σ) o=pure (.value (rd σ x)) by unfold execOp;rw[hx]];exact h
 ·rename_i x hx;rw[show execOp (rd σ) o=pure (.value (rd σ x)) by unfold execOp;rw[hx]];exact h
 ·rename_i f args ats hx
  cases hp:bZ P f with
 |false=>rw[hp,aD] at h;replace h:=h.out;rw[tD] at h;exact h
 |true=>
   rw[hp,aF] at h;have:(execOp (rd σ) o).run P w=.ok (.enter f (amap (rd σ) args)) w:=by
    unfold execOp;rw[hx];rw[A2];simp only[resolve,rd,Deferred.ofValue,invoke,bind,pure,Sem.bind];rw[aoA,aoB];exact lJ hp _ _
   rw[this];exact h
 ·exact h.elim
 ·replace h:=h.out;rw[tD] at h;exact h
def NoR (r:Result Next):Prop:=∀l f t a b w',r≠.ok (.round l f t a b) w'
def noRd (P:Program)(o:Oper):Bool:=
 match o.op with
|.call { callee:=.value (.func f),.. }=>bZ P f
|.call { callee:=.builtin b,.. }=>match b with
 |.append|.copy|.len|.cap|.min|.max|.unsafeString|.unsafeSliceData|.delete|.clear=>true
 |_=>false
|.call _=>false
|.go _|.defer _|.send ..|.recv ..|.select ..|.makeChan ..=>false
|_=>true
def zT (P:Program):List Oper->Bool
|[]=>true
|o::l=>noRd P o&&zT P l
theorem Y8 (s:Sem Value):NoR ((mv s).run P w):=by
 intro l f t a b w' h;unfold mv at h;rw[Sem.run_bind] at h;generalize s.run P w=r at h;cases r<;>simp[Result.andThen] at h
theorem aeH (s:Sem Unit):NoR ((mu s).run P w):=by
 intro l f t a b w' h;unfold mu at h;rw[Sem.run_bind] at h;generalize s.run P w=r at h;cases r<;>simp[Result.andThen] at h
theorem VI {o:Oper}{σ:Sg}(h:noRd P o=true):NoR ((execOp (rd σ) o).run P w):=by
 generalize hρ:rd σ=ρ;unfold noRd at h;unfold execOp;cases ho:o.op<;>rw[ho] at h<;>simp only at h ⊢<;>first|exact Y8 _|exact aeH _|(cases h;done)|skip
 case move=>intro l f t a b w' h;cases h
 case assign=>intro l f t a b w' h;cases h
 case pick c a b=>
  intro l f t a b w' h;rw[Sem.run_bind] at h;generalize Sem.run P (asBool (ρ c)) w=r at h;cases r<;>simp[Result.andThen] at h
 case nilCheck x=>
  intro l f t a b w' h;split at h
  ·cases h
  ·cases h
  ·cases h
  ·split at h
   ·cases h
   ·rw[Sem.run_bind] at h;generalize Sem.run P program w=r at h;cases r with
   |halt _ _=>simp[Result.andThen] at h
   |ok p w1=>
     simp only[Result.andThen] at h;rw[Sem.run_bind] at h;generalize Sem.run P (nilAhead _ _ _ _) w1=r at h;cases r with
    |halt _ _=>simp[Result.andThen] at h
    |ok q w2=>
      simp only[Result.andThen] at h;split at h
      ·cases h
      ·cases h
   ·cases h
  ·cases h
 case call c=>
  obtain⟨callee,args,ats⟩:=c;cases callee with
 |invoke r n=>cases h
 |value x=>
   cases x with
  |func g=>
    intro l f t a b w' hh;have e:(do let d <-resolve ρ { callee:=.value (.func g),args,argTypes:=ats } o.type;invoke d.target d.args:Sem Next).run P w=.ok (.enter g (amap ρ args)) w:=by
     rw[A2,<-hρ];simp only[resolve,rd,Deferred.ofValue,invoke,bind,pure,Sem.bind];rw[aoA,aoB];exact lJ h _ _
    rw[e] at hh;cases hh
  |_=>cases h
 |builtin bb=>
   show NoR ((builtin bb ats o.type _ _).run P w);cases bb<;>first|exact Y8 _|(cases h;done)
theorem aaD {o:Oper}{n:Nat}{σ:Sg}{a:Act}(hr:Rep n σ a.tmps)(hd:inB n o.dst=true){K:Nx}{PK:List PanicEntry->Nx}{next:Act->World->Prop}
  (hQ:∀c a w,mI n (PK c) a w->Q (.panic c) a w) (hnext:∀a w,mI n K a w->next a w)
  (hnr:NoR ((execOp (rd σ) o).run P w)) (h:Upon P ((execOp (rd σ) o).run P w) (fun v w=>K (put σ o.dst v) a.defers w) (fun c w=>PK c σ a.defers w)):o.wp P a w next Q:=by
 unfold Oper.wp;rw[hr.eval];generalize (execOp (rd σ) o).run P w=r at *;have hput:∀v w,K (put σ o.dst v) a.defers w->next (a.put o.dst v) w:=fun v w hk=>hnext _ _ ⟨_,hr.put hd v,by
  have e:(a.put o.dst v).defers=a.defers:=by cases o.dst<;>rfl
  rw[e];exact hk⟩
 cases r with
|ok x w'=>
  cases x<;>simp only[Upon] at h<;>simp only[Oper.upon]
  ·exact hput _ _ h
  ·exact hput _ _ h
  ·refine h.out.mono fun e w'' hc=>?_;cases e with
  |returned v=>exact hput _ _ hc
  |panicked c=>exact hQ _ _ _ ⟨σ,hr,hc⟩
  |outgrown=>exact hc.elim
  all_goals first|exact h.elim|skip
  exact hnr _ _ _ _ _ _ rfl
|halt x w'=>
  cases x<;>simp only[Upon] at h<;>simp only[Oper.upon]
  case panic v=>exact hQ _ _ _ ⟨σ,hr,h⟩
  all_goals exact h.elim
theorem Jx {o:Oper}{n:Nat}{σ:Sg}{a:Act}(hr:Rep n σ a.tmps)(hd:inB n o.dst=true){K:Nx}{PK:List PanicEntry->Nx}{next:Act->World->Prop}
  (hQ:∀c a w,mI n (PK c) a w->Q (.panic c) a w) (hnext:∀a w,mI n K a w->next a w)
  (hno:noRd P o=true) (h:opV P o σ w (fun v w=>K (put σ o.dst v) a.defers w) (fun c w=>PK c σ a.defers w)):o.wp P a w next Q:=by
 refine aaD hr hd hQ hnext (VI hno) ?_;unfold opV at h;split at h
 ·rename_i x hx;rw[show execOp (rd σ) o=pure (.value (rd σ x)) by unfold execOp;rw[hx]];exact h
 ·rename_i x hx;rw[show execOp (rd σ) o=pure (.value (rd σ x)) by unfold execOp;rw[hx]];exact h
 ·rename_i f args ats hx
  cases hp:bZ P f with
 |false=>rw[hp,aD] at h;replace h:=h.out;rw[tD] at h;exact h
 |true=>
   rw[hp,aF] at h;have:(execOp (rd σ) o).run P w=.ok (.enter f (amap (rd σ) args)) w:=by
    unfold execOp;rw[hx];rw[A2];simp only[resolve,rd,Deferred.ofValue,invoke,bind,pure,Sem.bind];rw[aoA,aoB];exact lJ hp _ _
   rw[this];exact h
 ·exact h.elim
 ·replace h:=h.out;rw[tD] at h;exact h
theorem qW {n:Nat}{σ:Sg}{a:Act}(hr:Rep n σ a.tmps){o:Oper}(hg:o.guard=some (j,want))(hj:KU ops j=some d)(hd:Nat.blt d n=true) :
  Region.wanted o (yielded ops a.tmps)=jE (σ d) want:=by
 have hd':d < a.tmps.size:=by rw[hr.size];simpa[Nat.blt_eq] using hd
 have e:a.tmps[d]?=some (σ d):=by
  rw[<-hr.get d,aoV,Array.getElem?_eq_getElem hd'];rfl
 unfold KU at hj;simp only[Region.wanted,hg,yielded,hj,Option.bind_some,e,jE];cases σ d<;>simp
theorem P8 {n:Nat}{K:Nx}{PK:List PanicEntry->Nx}
  (hQ:∀c a w,mI n (PK c) a w->Q (.panic c) a w) (hK:∀a w,mI n K a w->Q .normal a w) :
  ∀(l:List Oper) (σ:Sg) (a:Act) (w:World),Rep n σ a.tmps->opsX P ro n ops K PK l σ a.defers w->wpListIn (Fr ro) 0 P ops Q l a w:=by
 intro l
 induction l with
|nil=>intro σ a w hr h;exact hK _ _ ⟨σ,hr,h⟩
|cons o rest ih=>
  intro σ a w hr h;unfold opsX at h;cases hd:inB n o.dst with
 |false=>rw[hd,aD] at h;exact h.elim
 |true=>
   rw[hd,aF] at h;unfold wpListIn;cases hg:o.guard with
  |none=>
    simp only[hg] at h;rw[agW (by simp[Region.wanted,hg])];split at h
    ·rename_i c hc
     cases ro with
    |some _=>exact h.elim
    |none=>
     have key:∀d,dfr σ c=some d->opsX P none n ops K PK rest (put σ o.dst undef) (d::a.defers) w->o.wpIn (Fr none) 0 P a w (wpListIn (Fr none) 0 P ops Q rest) Q:=by
      intro d hdf h;have hrun:(execOp (rd σ) o).run P w=.ok (.defer d) w:=by
       unfold execOp;rw[hc];unfold dfr at hdf;unfold resolve;split at hdf
       ·rename_i f hf
        cases hdf;simp[A2,hf,rd,Deferred.ofValue,bind,pure,Sem.bind,Sem.run]
       ·rename_i x _ hx
        split at hdf
        ·rename_i fn first cap hv
         cases hdf;simp[A2,hx,hv,Deferred.ofValue,bind,pure,Sem.bind,Sem.run]
        ·cases hdf
       ·cases hdf
      unfold Oper.wpIn;refine⟨fun _ _=>trivial,?_⟩;rw[hr.eval,Oper.semAt_none,hrun];simp only[Oper.uponIn];have hr':Rep n (put σ o.dst undef) (({ a with defers:=d::a.defers }:Act).put o.dst undef).tmps:=Rep.put (a:={ a with defers:=d::a.defers }) hr hd undef;refine ih _ _ _ hr' ?_;have e:(({ a with defers:=d::a.defers }:Act).put o.dst undef).defers=d::a.defers:=by cases o.dst<;>rfl
      rw[e];exact h
     simp only at h;split at h
     ·rename_i f hf
      exact key _ (by unfold dfr;rw[hf]) h
     ·obtain⟨d,hdf,h⟩:=h.out;exact key d hdf h
    ·refine OH (K:=fun σ ds w=>opsX P ro n ops K PK rest σ ds w) (PK:=PK) hr hd hQ ?_ h;rintro a' w' ⟨σ',hr',h'⟩;exact ih _ _ _ hr' h'
  |some jw=>
    obtain⟨j,want⟩:=jw;simp only[hg] at h;split at h
    ·rename_i d hj
     cases hdn:Nat.blt d n with
    |false=>rw[hdn,aD] at h;exact h.elim
    |true=>
      rw[hdn,aF] at h;have hw:=qW hr hg hj hdn
      replace h:=h.out
      cases hwv:jE (σ d) want with
     |true=>
       rw[hwv,aF] at h;rw[agW (by rw[hw,hwv])];refine OH (K:=fun σ ds w=>opsX P ro n ops K PK rest σ ds w) (PK:=PK) hr hd hQ ?_ h;rintro a' w' ⟨σ',hr',h'⟩;exact ih _ _ _ hr' h'
     |false=>
       rw[hwv,aD] at h;rw[agV (by rw[hw,hwv];simp)];have e:(a.put o.dst undef).defers=a.defers:=by cases o.dst<;>rfl
       exact⟨fun _ _=>trivial,ih _ _ _ (hr.put hd undef) (by rw[e];exact h)⟩
    ·exact h.elim
theorem AX {n:Nat}{K:Nx}{PK:List PanicEntry->Nx}
  (hQ:∀c a w,mI n (PK c) a w->Q (.panic c) a w) (hK:∀a w,mI n K a w->Q .normal a w) :
  ∀(l:List Oper) (σ:Sg) (a:Act) (w:World),zT P l=true->Rep n σ a.tmps->opsX P none n ops K PK l σ a.defers w->wpList P ops Q l a w:=by
 intro l
 induction l with
|nil=>intro σ a w _ hr h;exact hK _ _ ⟨σ,hr,h⟩
|cons o rest ih=>
  intro σ a w hno hr h;simp only[zT,ahR] at hno;obtain⟨hno,hno'⟩:=hno;unfold opsX at h;cases hd:inB n o.dst with
 |false=>rw[hd,aD] at h;exact h.elim
 |true=>
   rw[hd,aF] at h;unfold wpList;cases hg:o.guard with
  |none=>
    simp only[hg] at h;rw[agW (by simp[Region.wanted,hg])];left;split at h
    ·rename_i c hc
     unfold noRd at hno;rw[hc] at hno;cases hno
    ·refine Jx (K:=fun σ ds w=>opsX P none n ops K PK rest σ ds w) (PK:=PK) hr hd hQ ?_ hno h;rintro a' w' ⟨σ',hr',h'⟩;exact ih _ _ _ hno' hr' h'
  |some jw=>
    obtain⟨j,want⟩:=jw;simp only[hg] at h;split at h
    ·rename_i d hj
     cases hdn:Nat.blt d n with
    |false=>rw[hdn,aD] at h;exact h.elim
    |true=>
      rw[hdn,aF] at h;have hw:=qW hr hg hj hdn
      replace h:=h.out
      cases hwv:jE (σ d) want with
     |true=>
       rw[hwv,aF] at h;rw[agW (by rw[hw,hwv])];left;refine Jx (K:=fun σ ds w=>opsX P none n ops K PK rest σ ds w) (PK:=PK) hr hd hQ ?_ hno h;rintro a' w' ⟨σ',hr',h'⟩;exact ih _ _ _ hno' hr' h'
     |false=>
       rw[hwv,aD] at h;rw[agV (by rw[hw,hwv];simp)];have e:(a.put o.dst undef).defers=a.defers:=by cases o.dst<;>rfl
       exact ih _ _ _ hno' (hr.put hd undef) (by rw[e];exact h)
    ·exact h.elim
structure QDo (P:Program) (C:World->Prop) (m:Sem Next) (K:Value->Prop):Prop where
 mk ::
 out:∃v,(∀w,C w->Oper.quietUpon P C w v (m.run P w))∧K v
structure QCall (P:Program) (C:World->Prop) (f:Nat) (args:Array Value) (K:Value->Prop):Prop where
 mk ::
 out:∃v,(∀w,C w->Calls P f args w (fun e w'=>e=.returned v∧C w'))∧K v
def opQ (P:Program)(C:World->Prop)(o:Oper)(σ:Sg)(K:Value->Prop):Prop:=
 match o.op with
|.move x|.assign x=>K (rd σ x)
|.call { callee:=.value (.func f),args,.. }=>bc (bZ P f) (QCall P C f (amap (rd σ) args) K) (QDo P C (EV (rd σ) o) K)
|_=>QDo P C (EV (rd σ) o) K
structure GQ (v:Value) (want:Bool) (E:(Value->Prop)->Prop) (K:Value->Prop):Prop where
 mk ::
 out:bc (jE v want) (E K) (K undef)
def kW (P:Program)(n:Nat)(ops:Array Oper)(C:World->Prop)(K:Sg->Prop):List Oper->Sg->Prop
|[],σ=>K σ
|o::rest,σ=>
  bc (inB n o.dst)
   (match o.guard with
  |none=>opQ P C o σ (fun v=>kW P n ops C K rest (put σ o.dst v))
  |some (j,want)=>
    match KU ops j with
   |some d=>bc (Nat.blt d n) (GQ (σ d) want (fun K'=>opQ P C o σ K') (fun v=>kW P n ops C K rest (put σ o.dst v))) False
   |none=>False)
   False
theorem WN {o:Oper}{n:Nat}{σ:Sg}{a:Act}(hr:Rep n σ a.tmps){next:Act->Prop}{K:Value->Prop}
  (hnext:∀v,K v->next (a.put o.dst v)) (h:opQ P C o σ K):o.quiet P a C next:=by
 unfold Oper.quiet Oper.quietAt;rw[hr.eval];have key:QDo P C (EV (rd σ) o) K->∃v,(∀w,C w->Oper.quietUpon P C w v ((execOp (rd σ) o).run P w))∧next (a.put o.dst v):=
  fun ⟨⟨v,h1,h2⟩⟩=>⟨v,by rw[<-tD];exact h1,hnext _ h2⟩
 unfold opQ at h;split at h
 ·rename_i x hx;exact⟨rd σ x,fun w _=>by rw[show execOp (rd σ) o=pure (.value (rd σ x)) by unfold execOp;rw[hx]];exact⟨rfl,rfl⟩,hnext _ h⟩
 ·rename_i x hx;exact⟨rd σ x,fun w _=>by rw[show execOp (rd σ) o=pure (.value (rd σ x)) by unfold execOp;rw[hx]];exact⟨rfl,rfl⟩,hnext _ h⟩
 ·rename_i f args ats hx
  cases hp:bZ P f with
 |false=>rw[hp,aD] at h;exact key h
 |true=>
   rw[hp,aF] at h;obtain⟨v,h1,h2⟩:=h.out;refine⟨v,fun w hw=>?_,hnext _ h2⟩;have:(execOp (rd σ) o).run P w=.ok (.enter f (amap (rd σ) args)) w:=by
    unfold execOp;rw[hx];rw[A2];simp only[resolve,rd,Deferred.ofValue,invoke,bind,pure,Sem.bind];rw[aoA,aoB];exact lJ hp _ _
   rw[this];exact⟨rfl,h1 w hw⟩
 ·exact key h
theorem pW {n:Nat}{K:Sg->Prop}{Q:Act->Prop}
  (hK:∀σ a,Rep n σ a.tmps->a.defers=ds->K σ->Q a) :
  ∀(l:List Oper) (σ:Sg) (a:Act),Rep n σ a.tmps->a.defers=ds->kW P n ops C K l σ->wpQuiet P ops C Q l a:=by
 intro l
 induction l with
|nil=>intro σ a hr hds h;exact hK _ _ hr hds h
|cons o rest ih=>
  intro σ a hr hds h;unfold kW at h;cases hd:inB n o.dst with
 |false=>rw[hd,aD] at h;exact h.elim
 |true=>
   rw[hd,aF] at h;have hnext:∀v,kW P n ops C K rest (put σ o.dst v)->wpQuiet P ops C Q rest (a.put o.dst v):=fun v h'=>
    ih _ _ (hr.put hd v) (by rw[<-hds];cases o.dst<;>rfl) h'
   unfold wpQuiet;cases hg:o.guard with
  |none=>
    simp only[hg] at h;rw[agW (by simp[Region.wanted,hg])];exact WN hr hnext h
  |some jw=>
    obtain⟨j,want⟩:=jw;simp only[hg] at h;split at h
    ·rename_i d hj
     cases hdn:Nat.blt d n with
    |false=>rw[hdn,aD] at h;exact h.elim
    |true=>
      rw[hdn,aF] at h;have hw:=qW hr hg hj hdn
      replace h:=h.out
      cases hwv:jE (σ d) want with
     |true=>
       rw[hwv,aF] at h;rw[agW (by rw[hw,hwv])];exact WN hr hnext h
     |false=>
       rw[hwv,aD] at h;rw[agV (by rw[hw,hwv];simp)];exact hnext _ h
    ·exact h.elim
def Wy (P:Program)(o:Oper):Bool:=
 match o.op with
|.alloc _|.box ..|.buildSlice ..|.store ..|.makeMap ..|.makeSlice ..|.makeChan ..|.mapUpdate ..|.insert ..|.mapEntry ..|.entryStore ..|.range ..|.next ..|.panic _|.defer _=>true
|.convert _ d _=>match P.underlying d with|some (.slice _)=>true|_=>false
|.call { callee:=.builtin .unsafeString,.. }|.call { callee:=.builtin .append,.. }|.call { callee:=.builtin .copy,.. }|.call { callee:=.builtin .delete,.. }|.call { callee:=.builtin .clear,.. }=>true
|_=>false
def memT (P:Program):Nat->Nat->Bool
|0,_=>true
|k+1,t=>match P.underlying t with
 |some (.slice _)=>true
 |some (.pointer _)=>true
 |some (.map _ _)=>true
 |some (.struct fs)=>fs.toList.any fun f=>memT P k f.type
 |some (.array _ e)=>memT P k e
 |_=>false
def oO (p:Oper->Bool):Code->Bool
|.region _ ops _=>ops.toList.any p
|.seq a b=>bc (oO p a) true (oO p b)
|.cond _ a b=>bc (oO p a) true (oO p b)
|.block _ a=>oO p a
|.loop a=>oO p a
|.rangeFunc _ _ a b=>bc (oO p a) true (oO p b)
|_=>false
def isMk (P:Program)(o:Oper):Bool:=
 match o.op with
|.buildSlice ..|.makeMap ..|.makeSlice ..=>true
|.convert _ d _=>match P.underlying d with|some (.slice _)=>true|_=>false
|.call { callee:=.builtin .append,.. }=>true
|_=>false
def WB (P:Program):Nat->Nat->Bool
|0,f=>match P.funcs[f]? with
 |some g=>oO (isMk P) (g.body.getD .skip)
 |none=>false
|k+1,f=>match P.funcs[f]? with
 |some g=>oO (fun o=>bc (isMk P o) true (match o.op with|.call { callee:=.value (.func g),.. }=>WB P k g|_=>false)) (g.body.getD .skip)
 |none=>false
def aeW (o:Oper):Bool:=match o.op with|.panic _=>true|_=>false
def panF (P:Program):Nat->Nat->Bool
|0,_=>false
|k+1,f=>match P.funcs[f]? with
 |some g=>oO (fun o=>bc (aeW o) true (match o.op with|.call { callee:=.value (.func h),.. }=>panF P k h|_=>false)) (g.body.getD .skip)
 |none=>false
def newF (P:Program)(f:Nat):Bool:=
 match P.funcs[f]? with
|some g=>bc (panF P 3 f) true (bc (g.resultTypes.toList.any fun t=>memT P 4 t) (WB P 2 f) false)
|none=>false
def abT (P:Program)(o:Oper):Bool:=
 match o.op with
|.call { callee:=.value (.func f),.. }=>newF P f
|_=>Wy P o
def aQ (P:Program):List Oper->Nat
|[]=>0
|o::l=>bc (abT P o) 0 (aQ P l+1)
section
variable {P:Program}{ops:Array Oper}{md:Region.Mode}{C:World->Prop}
theorem JZ {n:Nat}{oi:Oper}{L:Array Bool->Act->Prop}(hi:ops[i]?=some oi)(hsel:∀(j:Nat) (o:Oper) cs b,ops[j]?=some o->o.op≠.select cs b)
  (hs:Region.sinkB md ops n=true) (hc:Region.chainB md ops n=true) (hn:n < ops.size) (hin:i < n)
  (hdone:∀listed a,L listed a->∀j∈Region.ready md ops listed,n<=j) :
  ∀(f:Nat) (listed:Array Bool) (a:Act),HeadInv md ops n listed ->
   (∀j oj,ops[j]?=some oj->j≠i->listed.getD j true=false->(∀e∈oj.after,Region.binds md e=true->e.on≠i)->oi.apart ops oj=true) ->
   i∈Region.ready md ops listed->YieldsIn P ops C oi v a ->
   yY P md ops C n L f (listed.setIfInBounds i true) (a.put oi.dst v)->yY P md ops C n L (f+1) listed a:=by
 intro f
 induction f with
|zero=>
  intro listed a inv _ hr hy H;have hun:=(mem_ready.1 hr).1;refine⟨fun h=>(by rw[h] at hr;cases hr),fun j hj=>?_⟩;have hjn:j < n:=by
   rcases ahY j n with h|h
   ·exact h
   ·exact absurd hj (tail_waits hs hc hn inv _ i rfl hin hun j h)
  refine⟨hjn,?_⟩;by_cases hji:j=i
  ·subst hji;exact hy.qOp hi H
  ·have:=hdone _ _ H j (ready_mono hj hji);omega
|succ f ih=>
  intro listed a inv hfree hr hy H;have hun:=(mem_ready.1 hr).1;refine⟨fun h=>(by rw[h] at hr;cases hr),fun j hj=>?_⟩;have hjn:j < n:=by
   rcases ahY j n with h|h
   ·exact h
   ·exact absurd hj (tail_waits hs hc hn inv _ i rfl hin hun j h)
  refine⟨hjn,?_⟩;by_cases hji:j=i
  ·subst hji;exact hy.qOp hi H
  ·have h1:=(H.2 j (ready_mono hj hji)).2;obtain⟨hjun,oj,hoj,hall⟩:=mem_ready.1 hj;have hnot:∀e∈oj.after,Region.binds md e=true->e.on≠i:=fun e he hb heq=>by
    have h1:=hall e he hb;rw[heq,getD_both hun] at h1;cases h1
   have h2:=qOp_put hoj (hfree j oj hoj hji hjun hnot) (fun cs b=>hsel i oi cs b hi) (fun cs b=>hsel j oj cs b hoj) hy h1;have hfree':∀k ok,ops[k]?=some ok->k≠i->(listed.setIfInBounds j true).getD k true=false ->
     (∀e∈ok.after,Region.binds md e=true->e.on≠i)->oi.apart ops ok=true:=fun k ok hk hki hun hno=>by
    refine hfree k ok hk hki ?_ hno;by_cases hjk:j=k
    ·subst hjk;exact hjun
    ·rw[getD_set_ne true hjk] at hun;exact hun
   refine qOp_mono (fun a' h3=>ih (listed.setIfInBounds j true) a' (inv.set hj hjn) hfree' (ready_mono hr (Ne.symm hji)) h3.1 ?_) h2;rw[aoU _ _ hji];exact h3.2
theorem G2 {n g:Nat}{Lq:Act->Prop}(hsel:Region.noSelect ops=true)(hs:Region.sinkB md ops n=true)(hc:Region.chainB md ops n=true)(hn:n < ops.size) :
  ∀(l:List Oper) (k:Nat) (listed:Array Bool) (a:Act),(∀j,j < l.length->l[j]?=ops[k+j]?)->k+l.length=n->HeadInv md ops n listed ->
  Region.lexHead md ops g l.length k listed=true->wpQuiet P ops C Lq l a ->
  yY P md ops C n (fun listed' a'=>Region.seqB md ops g n listed'=true∧Lq a') l.length listed a
|[],k,listed,a,_,hk,_,hB,h=>by
  have:k=n:=by simpa using hk
  subst this;exact⟨by simpa[Region.lexHead] using hB,h⟩
|o::l,k,listed,a,hl,hk,inv,hB,h=>by
  have h0:ops[k]?=some o:=by simpa using (hl 0 sm).symm
  simp only[ahU,Region.lexHead,ahR] at hB;obtain⟨⟨hr,hf⟩,hB'⟩:=hB;have hkn:k < n:=by simp only[ahU] at hk;omega
  have hr':k∈Region.ready md ops listed:=by simpa using hr
  have hst:qOp P ops C k (wpQuiet P ops C Lq l) a:=by unfold qOp;simp only[h0];exact h
  obtain⟨v,hy,hK⟩:=yieldsIn_of_qOp h0 hst;exact JZ h0 (Region.noSelect_spec hsel) hs hc hn hkn (fun listed' a' hL=>seqB_ready hL.1) l.length listed a inv (Region.free_spec h0 hf) hr' hy
   (G2 hsel hs hc hn l (k+1) _ _ (fun j hj=>by have:=hl (j+1) (by simp;omega);simpa[akL,amQ 1 j] using this) (by simp only[ahU] at hk;omega) (inv.set hr' hkn) hB' hK)
theorem Hu {a:Act}{l:List Oper}(n:Nat)(hB:Region.lexTailB .any l.toArray n=true)(hC:C { w with drawn:=w.drawn+1 })
  (h:wpQuiet P l.toArray C (fun a'=>∀w',C w'->wpList P l.toArray Q (l.drop n) a' w') (l.take n) a):wpAny P .any l.toArray Q l.toArray.size (Array.replicate l.toArray.size false) a { w with drawn:=w.drawn+1 }:=by
 simp only[Region.lexTailB,ahR,aiI] at hB;obtain⟨⟨⟨⟨hsel,hn⟩,hs⟩,hc⟩,hlex⟩:=hB;have hn':n < l.length:=by simpa using hn
 have htl:(l.take n).length=n:=by simp;omega
 have hdl:(l.drop n).length=l.toArray.size - n:=sm
 have inv0:HeadInv .any l.toArray n (Array.replicate l.toArray.size false):=
  ⟨sm,fun j oj _ hl=>(by rw[getD_replicate_false] at hl;cases hl),fun t _ ht=>getD_in (by simpa using ht) (getD_replicate_false _ _)⟩
 have H:=G2 (md:=.any) (g:=l.toArray.size - n) hsel hs hc hn (l.take n) 0 _ a (fun j hj=>by
  have hj':j < n:=by rw[htl] at hj;exact hj
  simp[hj']) (by simpa using htl) inv0 (by rw[htl];exact hlex) h
 have:=kU (Q':=Q) (g:=l.toArray.size - n) (fun listed a' w' hw' hL=>by
  have:=wpAny_of_seq (md:=.any) (Q':=Q) (l.drop n) n listed a' w' (fun j=>by simp[akG]) (by rw[hdl];exact hL.1) (hL.2 w' hw')
  rwa [hdl] at this) _ _ _ _ hC H
 rw[htl,show n+(l.toArray.size - n)=l.toArray.size by omega] at this;exact this
theorem SO {a:Act}(hB:Region.lexB .any ops=true)(hC:C { w with drawn:=w.drawn+1 })
  (h:wpQuiet P ops C (fun a'=>∀w',C w'->Q .normal a' w') ops.toList a):wpAny P .any ops Q ops.size (Array.replicate ops.size false) a { w with drawn:=w.drawn+1 }:=by
 simp only[Region.lexB,ahR] at hB;refine wpAny_of_quiet (Q:=fun a'=>∀w',C w'->Q .normal a' w') (fun _ w' hw' h=>h w' hw') _ _ _ _ hC ?_;have:=wpAnyQ_lex (C:=C) (md:=.any) hB.1 ops.toList 0 (Array.replicate ops.size false) a sm (by simpa using hB.2) h;simpa using this
end
def oZ:List Oper->Bool
|[]=>true
|o::l=>(match o.op with|.defer _=>false|_=>true)&&oZ l
theorem Jz:∀{l:List Oper},oZ l=true->∀o,o∈l->∀c,o.op≠.defer c
|[],_,o,ho,_=>by cases ho
|x::l,h,o,ho,c=>by
  simp only[oZ,ahR] at h;rcases ahG.1 ho with rfl|ho
  ·intro e;rw[e] at h;cases h.1
  ·exact Jz h.2 o ho c
def Fi (Q:Exit->Act->World->Prop):Exit->Act->World->Prop
|.outgrown,_,_=>False
|e,a,w=>Q e a w
theorem Vm {Q:Exit->Act->World->Prop}:∀e a w,Fi Q e a w->Q e a w
|.outgrown,_,_,h=>h.elim
|.normal,_,_,h=>h
|.ret,_,_,h=>h
|.exit _,_,_,h=>h
|.goto _,_,_,h=>h
|.panic _,_,_,h=>h
theorem agE {o:Oper}{a:Act}{K:Act->World->Prop}(hnd:∀c,o.op≠.defer c)(h:o.wp P a w K (Fi Q)):o.wpIn (Fr ro) 0 P a w K (Fi Q):=by
 refine⟨fun _ _=>trivial,?_⟩;rw[Oper.semAt_eq _ _ _ hnd];unfold Oper.wp at h;generalize (execOp a.eval o).run P w=r at h ⊢;cases r with
|ok x w'=>
  cases x<;>simp only[Oper.upon] at h<;>simp only[Oper.uponIn]<;>first|exact h|exact h.elim|skip
  ·exact⟨(fun hx=>by cases hx),IZ.2 h⟩
  ·exact⟨(fun hx=>by cases hx),fun c cs _=>let ⟨v,w',r,s⟩:=h c cs;⟨v,w',r,stepsIn_wide.2 s⟩⟩
|halt x w'=>cases x<;>simp only[Oper.upon] at h<;>simp only[Oper.uponIn]<;>first|exact h|exact h.elim
theorem Nq {P:Program}{ro:Option Nat}{ops:Array Oper}{Q:Exit->Act->World->Prop}(hnd:oZ ops.toList=true):∀(fuel:Nat) (listed:Array Bool) (a:Act) (w:World),wpAny P .any ops (Fi Q) fuel listed a w->wpAnyIn (Fr ro) 0 P .any ops (Fi Q) fuel listed a w
|0,_,_,_,h=>h
|fuel+1,listed,a,w,h=>by
  refine⟨h.1,fun i hi=>?_⟩;have h1:=h.2 i hi;unfold wpOp at h1;unfold wpOpIn;split
  ·rename_i hn
   simp only[hn] at h1;exact Nq hnd fuel _ _ _ h1
  ·rename_i o ho
   simp only[ho] at h1;have hmem:o∈ops.toList:=by
    have:=amR ho;simpa using this
   split
   ·rename_i hw
    simp only[hw,if_true] at h1;rcases h1 with h1|⟨_,a',w',h2⟩
    ·exact Oper.wpIn_mono (fun a w hk=>Nq hnd fuel _ a w hk) (agE (Jz hnd o hmem) h1)
    ·exact h2.elim
   ·rename_i hw
    simp only[hw] at h1;exact⟨fun _ _=>trivial,Nq hnd fuel _ _ _ h1⟩
theorem xE {a:Act}(hm:P.follows .mixedOrders=true)(hnd:oZ ops.toList=true)
  (h:wpAny P .any ops (Fi Q) ops.size (Array.replicate ops.size false) a { w with drawn:=w.drawn+1 }):(Code.region id ops true).wpIn (Fr ro) 0 P Q a w:=
 Code.wpIn_mono Vm (wpIn_region_any hm (Nq hnd _ _ _ _ h))
def memN (i:Nat):List Nat->Bool
|[]=>false
|j::l=>Nat.beq i j||memN i l
def Jn (ms:List Nat)(o:Oper):Bool:=o.after.toList.all fun e=>!(Region.binds .any e)||memN e.on ms
def mvL:List Oper->Nat->List Nat->List (Nat×Oper)
|[],_,_=>[]
|o::l,k,ms=>bc (isMv o&&Jn ms o) ((k,o)::mvL l (k+1) (k::ms)) (mvL l (k+1) ms)
def hdL:List Oper->Nat->List Nat->List (Nat×Oper)
|[],_,_=>[]
|o::l,k,ms=>bc (isMv o&&Jn ms o) (hdL l (k+1) (k::ms)) ((k,o)::hdL l (k+1) ms)
def mvX (o:Oper)(σ:Sg):Value:=
 match o.op with
|.move x|.assign x=>rd σ x
|_=>undef
def Px:List (Nat×Oper)->Sg->Sg
|[],σ=>σ
|p::r,σ=>Px r (put σ p.2.dst (mvX p.2 σ))
def inBs (n:Nat):List (Nat×Oper)->Bool
|[]=>true
|p::r=>inB n p.2.dst&&inBs n r
def pmX:List (Nat×Oper)->Nx->Nx
|[],K=>K
|p::r,K=>fun σ ds w=>∀u:Value,pmX r K (put σ p.2.dst u) ds w
def isNil:List Nat->Bool
|[]=>true
|_=>false
def andL:List Prop->Prop
|[]=>True
|[p]=>p
|p::q::l=>p∧andL (q::l)
theorem Dh:∀{l:List Prop},andL l->∀p,p∈l->p
|[],_,p,hp=>by cases hp
|[q],h,p,hp=>by rw[aiA] at hp;subst hp;exact h
|q::r::l,h,p,hp=>by
  rcases ahG.1 hp with rfl|hp
  ·exact h.1
  ·exact Dh h.2 p hp
theorem MA:∀{l:List Prop},(∀p,p∈l->p)->andL l
|[],_=>trivial
|[q],h=>h q sm
|q::r::l,h=>⟨h q sm,MA fun p hp=>h p (by simp only[ahG] at hp ⊢;exact .inr hp)⟩
def E1 (P:Program)(n:Nat)(ops:Array Oper)(o:Oper)(σ:Sg)(w:World)(next:Sg->World->Prop)(PK:PKT):Prop:=
 bc (inB n o.dst)
  (match o.guard with
 |none=>opV P o σ w (fun v w=>next (put σ o.dst v) w) PK
 |some (j,want)=>
   match KU ops j with
  |some d=>bc (Nat.blt d n) (GDo (σ d) want (fun K'=>opV P o σ w K' PK) w (fun v w=>next (put σ o.dst v) w)) False
  |none=>False)
  False
def anyX (P:Program)(n:Nat)(ops:Array Oper)(K:Nx)(PK:List PanicEntry->Nx):Nat->Array Bool->Sg->List Deferred->World->Prop
|0,listed,σ,ds,w=>bc (isNil (Region.ready .any ops listed)) (K σ ds w) False
|f+1,listed,σ,ds,w=>
  bc (isNil (Region.ready .any ops listed)) (K σ ds w)
   (andL ((Region.ready .any ops listed).map fun i=>match ops[i]? with
   |none=>False
   |some o=>E1 P n ops o σ w (fun σ' w'=>anyX P n ops K PK f (listed.setIfInBounds i true) σ' ds w') (fun c w=>PK c σ ds w)))
theorem qV :isNil l=true↔l=[]:=by cases l<;>simp[isNil]
theorem Pu {n:Nat}{o:Oper}{σ:Sg}{a:Act}{K:Nx}{PK:List PanicEntry->Nx}{next:Act->World->Prop}(hr:Rep n σ a.tmps)(hnd:∀c,o.op≠.defer c)
  (hQ:∀c a w,mI n (PK c) a w->Q (.panic c) a w) (hnext:∀a w,mI n K a w->next a w)
  (h:E1 P n ops o σ w (fun σ' w'=>K σ' a.defers w') (fun c w=>PK c σ a.defers w)) :
  if Region.wanted o (yielded ops a.tmps) then o.wpIn (Fr ro) 0 P a w next Q else (∀f,o.about P w a.eval=some f->(Fr ro).fn f)∧next (a.put o.dst undef) w:=by
 unfold E1 at h;cases hd:inB n o.dst with
|false=>rw[hd,aD] at h;exact h.elim
|true=>
  rw[hd,aF] at h;cases hg:o.guard with
 |none=>
   simp only[hg] at h;rw[agW (by simp[Region.wanted,hg])];exact OH (K:=K) (PK:=PK) hr hd hQ hnext h
 |some jw=>
   obtain⟨j,want⟩:=jw;simp only[hg] at h;split at h
   ·rename_i d hj
    cases hdn:Nat.blt d n with
   |false=>rw[hdn,aD] at h;exact h.elim
   |true=>
     rw[hdn,aF] at h;have hw:=qW hr hg hj hdn
     replace h:=h.out
     cases hwv:jE (σ d) want with
    |true=>
      rw[hwv,aF] at h;rw[agW (by rw[hw,hwv])];exact OH (K:=K) (PK:=PK) hr hd hQ hnext h
    |false=>
      rw[hwv,aD] at h;rw[agV (by rw[hw,hwv];simp)];have e:(a.put o.dst undef).defers=a.defers:=by cases o.dst<;>rfl
      exact⟨fun _ _=>trivial,hnext _ _ ⟨_,hr.put hd undef,by rw[e];exact h⟩⟩
   ·exact h.elim
theorem Ij {P:Program}{ro:Option Nat}{n:Nat}{ops:Array Oper}{K:Nx}{PK:List PanicEntry->Nx}{Q:Exit->Act->World->Prop}(hnd:oZ ops.toList=true)
  (hQ:∀c a w,mI n (PK c) a w->Q (.panic c) a w) (hK:∀a w,mI n K a w->Q .normal a w) :
  ∀(fuel:Nat) (listed:Array Bool) (σ:Sg) (a:Act) (w:World),Rep n σ a.tmps->anyX P n ops K PK fuel listed σ a.defers w->wpAnyIn (Fr ro) 0 P .any ops Q fuel listed a w
|0,listed,σ,a,w,hr,h=>by
  unfold anyX at h;cases hn:isNil (Region.ready .any ops listed) with
 |false=>rw[hn,aD] at h;exact h.elim
 |true=>rw[hn,aF] at h;exact⟨qV.1 hn,hK _ _ ⟨σ,hr,h⟩⟩
|f+1,listed,σ,a,w,hr,h=>by
  unfold anyX at h;cases hn:isNil (Region.ready .any ops listed) with
 |true=>
   rw[hn,aF] at h;have he:=qV.1 hn;exact⟨fun _=>hK _ _ ⟨σ,hr,h⟩,fun i hi=>by rw[he] at hi;cases hi⟩
 |false=>
   rw[hn,aD] at h;refine⟨(fun he=>by rw[qV.2 he] at hn;cases hn),fun i hi=>?_⟩;have h1:=Dh h _ (aiD.2 ⟨i,hi,rfl⟩);unfold wpOpIn;cases ho:ops[i]? with
  |none=>simp only[ho] at h1
  |some o=>
    simp only[ho] at h1 ⊢;have hmem:o∈ops.toList:=by
     have:=amR ho;simpa using this
    refine Pu (K:=fun σ' ds' w'=>anyX P n ops K PK f (listed.setIfInBounds i true) σ' ds' w') (PK:=PK) hr (Jz hnd o hmem) hQ ?_ h1;rintro a' w' ⟨σ',hr',h'⟩;exact Ij hnd hQ hK f _ σ' a' w' hr' h'
structure DrawX (w:World) (F:World->Prop):Prop where
 mk ::
 out:F { w with drawn:=w.drawn+1 }
abbrev Ex:=Exit->Sg->List Deferred->World->Prop
def mem (i:Nat):List Nat->Bool
|[]=>false
|j::l=>Nat.beq i j||mem i l
def dsts:List Oper->List Nat
|[]=>[]
|o::l=>match o.dst with
 |some d=>d::dsts l
 |none=>dsts l
def asg:Code->List Nat
|.region _ ops _=>dsts ops.toList
|.seq a b=>asg a++asg b
|.cond _ a b=>asg a++asg b
|.block _ a=>asg a
|.loop a=>asg a
|_=>[]
def jun:List Nat->List Nat->List Nat
|[],b=>b
|i::a,b=>bc (mem i b) (jun a b) (i::jun a b)
def rem (id:Nat):List Nat->List Nat
|[]=>[]
|i::a=>bc (Nat.beq id i) (rem id a) (i::rem id a)
def jx:Code->List Nat
|.seq a b=>jun (jx a) (jx b)
|.cond _ a b=>jun (jx a) (jx b)
|.block id a=>rem id (jx a)
|.loop a=>jx a
|.exit j=>[j]
|.rangeFunc _ _ _ b=>jx b
|_=>[]
def jr:Code->Bool
|.seq a b=>jr a||jr b
|.cond _ a b=>jr a||jr b
|.block _ a=>jr a
|.loop a=>jr a
|.ret=>true
|.rangeFunc _ _ _ b=>jr b
|_=>false
def MR (id:Nat):Code->Nat
|.seq a b=>MR id a+MR id b
|.cond _ a b=>MR id a+MR id b
|.block _ a=>MR id a
|.loop a=>MR id a
|.exit j=>bc (Nat.beq id j) 1 0
|.rangeFunc _ _ _ b=>bc (mem id (jx b)) 1 0
|_=>0
def ways:Code->Nat
|.skip=>1
|.region ..=>1
|.seq a b=>bc (Nat.beq (ways a) 0) 0 (ways b)
|.cond _ a b=>ways a+ways b
|.block id a=>ways a+MR id a
|.rangeFunc ..=>1
|_=>0
def keyOf:Code->Nat
|.region id ..=>id
|.seq a b=>bc (Nat.beq (keyOf a) 999999) (keyOf b) (keyOf a)
|.cond _ a b=>bc (Nat.beq (keyOf a) 999999) (keyOf b) (keyOf a)
|.block _ a=>keyOf a
|.loop a=>keyOf a
|.rangeFunc _ _ a b=>bc (Nat.beq (keyOf a) 999999) (keyOf b) (keyOf a)
|_=>999999
def look (k:Nat):List (Nat×List Nat)->List Nat
|[]=>[]
|p::l=>bc (Nat.beq p.1 k) p.2 (look k l)
def pos (i:Nat):List Nat->Option Nat
|[]=>none
|j::l=>bc (Nat.beq i j) (some 0) ((pos i l).map (·+ 1))
def mix (σ:Sg)(A ls:List Nat)(vs:List Value)(j:Sg):Sg:=fun i=>
 bc (mem i A) (match pos i ls with|some k=>vs.getD k undef|none=>j i) (σ i)
def pick (ls:List Nat)(σ:Sg):List Value:=
 match ls with
|[]=>[]
|i::l=>σ i::pick l σ
structure JoinX (F:(List Value->World->Prop)->Prop) (R:List Value->World->Prop):Prop where
 mk ::
 out:∀J:List Value->World->Prop,(∀vs w,R vs w->J vs w)->F J
def AtX:List Deferred->List Deferred->Prop->Prop
|[],[],p=>p
|a,b,p=>a=b∧p
theorem AtX.out {a b:List Deferred}{p:Prop}(h:AtX a b p):a=b∧p:=by
 unfold AtX at h;split at h
 ·exact⟨rfl,h⟩
 ·exact h
structure IfX (v:Value) (A B:Prop):Prop where
 mk ::
 out:match v with
 |.bool b=>(b=true->A)∧(b=false->B)
 |_=>False
structure LoopX (vs:List Value) (w:World) (F:List Value->World->(List Value->World->Prop)->Prop):Prop where
 mk ::
 out:∃(I:List Value->World->Prop) (μ:List Value->World->Nat),I vs w∧∀vs w,I vs w->F vs w (fun vs' w'=>I vs' w'∧μ vs' w' < μ vs w)
structure JoinD (F:(List Deferred->List Value->World->Prop)->Prop) (R:List Deferred->List Value->World->Prop):Prop where
 mk ::
 out:∀J:List Deferred->List Value->World->Prop,(∀ds vs w,R ds vs w->J ds vs w)->F J
structure LoopD (ds:List Deferred) (vs:List Value) (w:World) (F:List Deferred->List Value->World->(List Deferred->List Value->World->Prop)->Prop):Prop where
 mk ::
 out:∃(I:List Deferred->List Value->World->Prop) (μ:List Value->World->Nat),I ds vs w∧∀ds vs w,I ds vs w->F ds vs w (fun ds' vs' w'=>I ds' vs' w'∧μ vs' w' < μ vs w)
def MI:Code->Bool
|.seq a b=>bc (MI a) true (MI b)
|.cond _ a b=>bc (MI a) true (MI b)
|.block _ a=>MI a
|.loop a=>MI a
|.rangeFunc ..=>true
|_=>false
def mkB (ro:Option Nat)(c:Code):Bool:=match ro with|none=>MI c|some _=>false
structure QuietX (w:World) (F:(World->Prop)->Prop):Prop where
 mk ::
 out:∃C:World->Prop,C w.drew∧F C
def JY (Q:Ex)(K:Nx):Ex
|.normal,σ,ds,w=>K σ ds w
|e,σ,ds,w=>Q e σ ds w
def WE (id:Nat)(Q:Ex):Ex
|.exit j,σ,ds,w=>bc (Nat.beq j id) (Q .normal σ ds w) (Q (.exit j) σ ds w)
|e,σ,ds,w=>Q e σ ds w
def putO (w:World)(b:Nat)(o:Obj):World:={ w with heap:=w.heap.setIfInBounds b o }
def lp (L0:Loop)(st:LoopState)(pd:Option Code):Obj:=.loop { L0 with state:=st,pending:=pd }
def RetV (R:VWP):Ending->World->Prop:=fun e w'=>∃v,e=.returned v∧R v w'
def Yld (P:Program)(l:Nat)(args:List Value)(W:World)(R:VWP):Prop:=
 ∃fn tmps asn bdy,(Instr.yield l args.toArray).run P W=.ok (.round l fn tmps asn bdy) W∧RoundIn Fence.wide 0 P l fn tmps asn bdy W (RetV R)
structure BegX (P:Program) (l:Nat) (W:World) (K:World->Prop):Prop where
 mk ::
 out:∃w2,(Instr.beginRound l).run P W=.ok () w2∧K w2
structure EndX (P:Program) (l:Nat) (j:Option Code) (W:World) (R:VWP):Prop where
 mk ::
 out:∃v w',(Instr.endRound l j).run P W=.ok v w'∧R v w'
def LayR (w:World):Option Nat->Nat->World->Prop
|none,df,w0=>df=w.heap.size∧w0=w.alloc (.deferred (some []))
|some l',df,w0=>∃r',w.heap[l']?=some (.loop r')∧df=r'.defers∧w0=w
structure RangeX (P:Program) (ro:Option Nat) (np:Nat) (gv:Value) (w:World) (B:Nat->List Value->World->(VWP)->Prop) (js:List (Option Code×(Nat->World->Prop))):Prop where
 mk ::
 out:∃f fa ca df w0,gv=.func (.func f) fa ca∧bZ P f=true∧LayR w ro df w0∧∀L0:Loop,L0.defers=df ->
  (∀l args W R,W.heap[l]?=some (lp L0 .ready none)->args.length=np->B l args W R->Yld P l args W R) ->
  Calls P f (fa++#[.func (.yield w0.heap.size) #[] #[]]++ca) (w0.alloc (lp L0 .ready none)) fun e w3=>
   ∃v st pd k,e=.returned v∧st≠.busy∧w3.heap[w0.heap.size]?=some (lp L0 st pd)∧(pd,k)∈js∧k df (putO w3 w0.heap.size (lp L0 .exhausted pd))
def putL:List Nat->List Value->Nat->Sg->Sg
|[],_,_,σ=>σ
|p::ps,args,k,σ=>putL ps args (k+1) (upd σ p (args.getD k undef))
def LJ (n:Nat):List Nat->Bool
|[]=>true
|p::ps=>bc (Nat.blt p n) (LJ n ps) false
def mkD (r:Nat):Deferred:={ target:=.collected r,args:=#[] }
def P2:Option Nat->Nat->List Deferred->List Deferred
|none,r,ds=>mkD r::ds
|some _,_,ds=>ds
def exJ (K:Nat->Nat->World->Prop):List Nat->List (Option Code×(Nat->World->Prop))
|[]=>[]
|i::l=>(some (.exit i),K i)::exJ K l
def jsX (b:Code)(K:Exit->Nat->World->Prop):List (Option Code×(Nat->World->Prop)):=
 (none,K .normal)::bc (jr b) ((some .ret,K .ret)::exJ (fun i=>K (.exit i)) (jx b)) (exJ (fun i=>K (.exit i)) (jx b))
def begQ (K:Sg->World->Prop):Ex
|.normal,σ,[],w=>K σ w
|_,_,_,_=>False
def rndQ (P:Program)(l:Nat)(R:VWP):Ex
|.normal,_,_,w=>EndX P l none w R
|.ret,_,_,w=>EndX P l (some .ret) w R
|.exit i,_,_,w=>EndX P l (some (.exit i)) w R
|_,_,_,_=>False
structure PDo (P:Program) (m:Sem Next) (K:Value->Prop):Prop where
 mk ::
 out:∃v,(∀w,m.run P w=.ok (.value v) w)∧K v
def opP (P:Program)(o:Oper)(σ:Sg)(K:Value->Prop):Prop:=
 match o.op with
|.move x|.assign x=>K (rd σ x)
|_=>PDo P (EV (rd σ) o) K
def F1 (P:Program)(n:Nat):List (Nat×Oper)->(Sg->Prop)->Sg->Prop
|[],K,σ=>K σ
|p::r,K,σ=>bc (inB n p.2.dst) (bc p.2.guard.isNone (opP P p.2 σ (fun v=>F1 P n r K (put σ p.2.dst v))) False) False
def numL:List Oper->Nat->List (Nat×Oper)
|[],_=>[]
|o::l,k=>(k,o)::numL l (k+1)
def aftL:List Edge->List Nat
|[]=>[]
|e::l=>bc (Region.binds .any e) (e.on::aftL l) (aftL l)
def goDn:List (Nat×Oper)->List Nat->List Nat
|[],S=>S
|p::r,S=>goDn r (bc (memN p.1 S) (aftL p.2.after.toList++S) S)
def outL (S:List Nat):List (Nat×Oper)->List Nat
|[]=>[]
|p::r=>bc (memN p.1 S) (outL S r) (p.1::outL S r)
def acY:List Oper->List Nat
|[]=>[]
|o::_=>aftL o.after.toList
def Zg (ops:List Oper)(n:Nat):List Nat:=
 goDn (numL (ops.take n) 0).reverse (outL (goDn (numL (ops.take n) 0).reverse (acY (ops.drop n))) (numL (ops.take n) 0))
def selL (S:List Nat):List (Nat×Oper)->List (Nat×Oper)
|[]=>[]
|p::r=>bc (memN p.1 S) (p::selL S r) (selL S r)
def desL (S:List Nat):List (Nat×Oper)->List (Nat×Oper)
|[]=>[]
|p::r=>bc (memN p.1 S) (desL S r) (p::desL S r)
def pL (ops:List Oper)(n:Nat):List (Nat×Oper):=selL (Zg ops n) (numL (ops.take n) 0)
def hL (ops:List Oper)(n:Nat):List (Nat×Oper):=desL (Zg ops n) (numL (ops.take n) 0)
def D6 (P:Program)(n:Nat)(ops:Array Oper)(Q:Ex)(σ:Sg)(ds:List Deferred)(w:World):Prop:=
 bc (P.follows .mixedOrders&&oZ ops.toList)
  (DrawX w (fun w=>anyX P n ops (fun σ ds w=>Q .normal σ ds w) (fun c σ ds w=>Q (.panic c) σ ds w) ops.size (Array.replicate ops.size false) σ ds w))
  False
structure HDo (P:Program) (S:World->Prop) (m:Sem Next) (K:Value->Prop):Prop where
 mk ::
 out:∃v,(∀w,S w->m.run P w=.ok (.value v) w)∧K v
structure HeldX (w:World) (F:(World->Prop)->World->Prop):Prop where
 mk ::
 out:∃S:World->Prop,S { w with drawn:=w.drawn+1 }∧F S { w with drawn:=w.drawn+1 }
def opH (P:Program)(S:World->Prop)(o:Oper)(σ:Sg)(K:Value->Prop):Prop:=
 match o.op with
|.move x|.assign x=>K (rd σ x)
|_=>HDo P S (EV (rd σ) o) K
def ML (P:Program)(n:Nat)(ops:Array Oper)(S:World->Prop)(o:Oper)(σ:Sg)(next:Sg->Prop):Prop:=
 bc (inB n o.dst)
  (match o.guard with
 |none=>opH P S o σ (fun v=>next (put σ o.dst v))
 |some (j,want)=>
   match KU ops j with
  |some d=>bc (Nat.blt d n) (GQ (σ d) want (fun K'=>opH P S o σ K') (fun v=>next (put σ o.dst v))) False
  |none=>False)
  False
def SR (o:Oper):Bool:=
 match o.op with
|.call { callee:=.builtin _,.. }=>false
|.call _=>true
|_=>false
def meets:List Nat->List Nat->Bool
|[],_=>false
|i::l,S=>bc (memN i S) true (meets l S)
def pB:List Operand->List Nat
|[]=>[]
|.tmp t::l=>t::pB l
|_::l=>pB l
def optL:Option Operand->List Operand
|none=>[]
|some x=>[x]
def sndL:List (Nat×Operand)->List Operand
|[]=>[]
|p::l=>p.2::sndL l
def WA:Op->List Nat
|.move x=>pB [x]
|.assign x=>pB [x]
|.load _ x=>pB [x]
|.nilCheck x=>pB [x]
|.unOp _ _ x=>pB [x]
|.convert _ _ x=>pB [x]
|.makeInterface _ x=>pB [x]
|.fieldAddr _ x _=>pB [x]
|.field _ x _=>pB [x]
|.entry x=>pB [x]
|.typeAssert x _ _ _=>pB [x]
|.extract x _=>pB [x]
|.pick c a b=>pB [c,a,b]
|.build _ ps=>pB (sndL ps.toList)
|.binOp _ _ a b _=>pB [a,b]
|.indexAddr _ a b=>pB [a,b]
|.index _ a b=>pB [a,b]
|.lookup _ a b _=>pB [a,b]
|.slice _ x l h m=>pB (x::optL l++optL h++optL m)
|.call c=>pB c.args.toList
|_=>[]
def AN (P:Program)(o:Oper):Bool:=
 match o.op with
|.move _=>true
|.assign _=>true
|.nilCheck _=>true
|.unOp _ _ _=>true
|.makeInterface _ _=>true
|.fieldAddr _ _ _=>true
|.field _ _ _=>true
|.extract _ _=>true
|.pick _ _ _=>true
|.build _ _=>true
|.binOp _ _ _ _ _=>true
|.indexAddr _ _ _=>true
|.index _ _ _=>true
|.slice _ _ _ _ _=>true
|.convert s _ _=>match P.underlying s with|some (.slice _)=>false|_=>true
|.call { callee:=.builtin .len,.. }=>true
|.call { callee:=.builtin .cap,.. }=>true
|.call { callee:=.builtin .min,.. }=>true
|.call { callee:=.builtin .max,.. }=>true
|_=>false
def ptrT (P:Program)(t:Nat):Bool:=match P.underlying t with|some (.pointer _)=>true|_=>false
def XF (P:Program)(o:Oper):Bool:=
 bc (Wy P o) true
  (match o.op with
 |.call c=>bc (SR o) (c.argTypes.toList.any (ptrT P)) false
 |_=>false)
def dstL:Option Nat->List Nat
|none=>[]
|some d=>[d]
def agR (o:Oper):Bool:=
 match o.op with
|.alloc _=>true
|.box ..=>true
|.buildSlice ..=>true
|_=>false
def eL2 (P:Program)(m:Bool):List Oper->Nat->List Nat->List Nat->List Nat->List Nat
|[],_,_,_,S=>S
|o::l,k,T,W,S=>
  bc (abT P o||SR o)
   (eL2 P m l (k+1) (dstL o.dst++T) (bc (bc (m&&agR o) false (XF P o)||meets (aftL o.after.toList) W) (k::W) W) (k::S))
   (eL2 P m l (k+1) (bc (meets (WA o.op) T) (dstL o.dst++T) T) (bc (meets (aftL o.after.toList) W) (k::W) W)
    (bc (!(AN P o)&&(meets (WA o.op) T||meets (aftL o.after.toList) W)) (k::S) S))
def eL (P:Program)(l:List Oper)(k:Nat)(S:List Nat):List Nat:=eL2 P (Nat.blt 70 l.length) l k [] [] S
def Ib (ops:Array Oper)(E:List Nat)(listed:Array Bool):List Nat->Option Nat
|[]=>none
|i::l=>bc (!(memN i E)&&Region.free .any ops listed i) (some i) (Ib ops E listed l)
def isSt (o:Oper):Bool:=
 match o.op with
|.store ..=>true
|_=>false
def Sv:List Oper->Bool
|[]=>false
|o::l=>bc (isSt o) true (Sv l)
def isLk (o:Oper):Bool:=
 match o.op with
|.lookup ..=>true
|_=>false
def Zi:List Oper->Bool
|[]=>false
|o::l=>bc (isLk o) true (Zi l)
def isMu (o:Oper):Bool:=
 match o.op with
|.mapUpdate ..=>true
|_=>false
def Zz:List Oper->Bool
|[]=>false
|o::l=>bc (isMu o) true (Zz l)
def L8 (l:List Oper):Bool:=bc (Sv l) true (bc (Zi l) (Zz l) false)
def Vb (P:Program)(E A:List Nat):List (Nat×Oper)->Bool
|[]=>false
|p::r=>bc (memN p.1 E||(AN P p.2||memN p.1 A)) (Vb P E A r) true
def JK (P:Program)(ops:Array Oper)(E:List Nat)(o:Oper):Bool:=bc (L8 ops.toList) (Vb P E (aftL o.after.toList) (numL ops.toList 0)) true
def VX (P:Program)(ops:Array Oper)(S:World->Prop)(o:Oper):World->Prop:=bc (L8 ops.toList&&AN P o) (fun _=>True) S
def vS (P:Program)(n:Nat)(ops:Array Oper)(E:List Nat)(S:World->Prop)(K:Nx)(PK:List PanicEntry->Nx):Nat->Array Bool->Sg->List Deferred->World->Prop
|0,listed,σ,ds,w=>bc (isNil (Region.ready .any ops listed)) (K σ ds w) False
|f+1,listed,σ,ds,w=>
  bc (isNil (Region.ready .any ops listed)) (K σ ds w)
   (match Ib ops E listed (Region.ready .any ops listed) with
  |some i=>(match ops[i]? with
   |none=>False
   |some o=>ML P n ops (VX P ops S o) o σ (fun σ'=>vS P n ops E S K PK f (listed.setIfInBounds i true) σ' ds w))
  |none=>andL ((Region.ready .any ops listed).map fun i=>match ops[i]? with
   |none=>False
   |some o=>E1 P n ops o σ w (fun σ' w'=>bc (JK P ops E o) (S w'∧vS P n ops E S K PK f (listed.setIfInBounds i true) σ' ds w') (vS P n ops E S K PK f (listed.setIfInBounds i true) σ' ds w')) (fun c w=>PK c σ ds w)))
def TE (P:Program)(n:Nat)(ops:Array Oper):Bool:=
 Nat.blt 5 ops.size&&(P.follows .mixedOrders&&(Region.noSelect ops&&(inBs n (desL (eL P ops.toList 0 []) (numL ops.toList 0))&&(zT P ops.toList&&oZ ops.toList))))
def Ac (P:Program)(n:Nat)(ops:Array Oper)(Q:Ex)(σ:Sg)(ds:List Deferred)(w:World):Prop:=
 bc (TE P n ops)
  (HeldX w (fun S w=>vS P n ops (eL P ops.toList 0 []) S (fun σ ds w=>Q .normal σ ds w) (fun c=>pmX (desL (eL P ops.toList 0 []) (numL ops.toList 0)) (fun σ ds w=>Q (.panic c) σ ds w)) ops.size (Array.replicate ops.size false) σ ds w))
  (D6 P n ops Q σ ds w)
def cntO (p:Oper->Bool):List Oper->Nat
|[]=>0
|o::l=>bc (p o) (cntO p l+1) (cntO p l)
def isIA (o:Oper):Bool:=
 match o.op with
|.indexAddr ..=>true
|_=>false
def XQ (o:Oper):Bool:=
 match o.op with
|.call { callee:=.value (.func _),args,.. }=>Nat.beq args.size 3
|_=>false
def Ur (l:List Oper):Bool:=Nat.beq (cntO XQ l) 1&&(Nat.beq (cntO SR l) 1&&(Nat.beq (cntO isIA l) 2&&!(Sv l)))
def Jg (P:Program)(n:Nat)(ops:Array Oper):Bool:=TE P n ops&&Ur ops.toList
def UZ (P:Program):List (Nat×Oper)->Bool
|[]=>true
|p::r=>bc (AN P p.2) (UZ P r) false
def HK (P:Program)(n:Nat)(ops:Array Oper)(Q:Ex)(σ:Sg)(ds:List Deferred)(w:World):Prop:=
 bc ((Nat.blt 9 ops.size&&UZ P (pL ops.toList (aQ P ops.toList)))&&(P.follows .mixedOrders&&(Nj ops (aQ P ops.toList) (pL ops.toList (aQ P ops.toList)) (hL ops.toList (aQ P ops.toList))&&(inBs n (pL ops.toList (aQ P ops.toList))&&(zT P (ops.toList.drop (aQ P ops.toList))&&oZ ops.toList)))))
  (QuietX w (fun C=>F1 P n (pL ops.toList (aQ P ops.toList)) (fun σ=>kW P n ops C (fun σ=>∀w',C w'->opsX P none n ops (fun σ ds w=>Q .normal σ ds w) (fun c=>pmX (pL ops.toList (aQ P ops.toList)) (fun σ ds w=>Q (.panic c) σ ds w)) (ops.toList.drop (aQ P ops.toList)) σ ds w')
   (snds (hL ops.toList (aQ P ops.toList))) σ) σ))
  (Ac P n ops Q σ ds w)
def wpX (P:Program)(n:Nat)(aj al:List (Nat×List Nat)):Option Nat->Code->Ex->Sg->List Deferred->World->Prop
|ro,.skip,Q,σ,ds,w=>Q .normal σ ds w
|ro,.region _ ops draw,Q,σ,ds,w=>
  bc draw
   (bc (Jg P n ops) (Ac P n ops Q σ ds w)
   (bc (Nat.beq (aQ P ops.toList) ops.toList.length)
    (bc (P.follows .mixedOrders&&(Region.lexB .any ops&&oZ ops.toList))
     (QuietX w (fun C=>kW P n ops C (fun σ=>∀w',C w'->Q .normal σ ds w') ops.toList σ))
     (HK P n ops Q σ ds w))
    (bc (P.follows .mixedOrders&&(Region.lexTailB .any ops (aQ P ops.toList)&&(zT P (ops.toList.drop (aQ P ops.toList))&&oZ ops.toList)))
     (QuietX w (fun C=>kW P n ops C (fun σ=>∀w',C w'->opsX P none n ops (fun σ ds w=>Q .normal σ ds w) (fun c σ ds w=>Q (.panic c) σ ds w) (ops.toList.drop (aQ P ops.toList)) σ ds w') (ops.toList.take (aQ P ops.toList)) σ))
     (bc (P.follows .mixedOrders&&(LI ops (aQ P ops.toList) (mvL (ops.toList.take (aQ P ops.toList)) 0 []) (hdL (ops.toList.take (aQ P ops.toList)) 0 [])&&(inBs n (mvL (ops.toList.take (aQ P ops.toList)) 0 [])&&(zT P (ops.toList.drop (aQ P ops.toList))&&oZ ops.toList))))
      (QuietX w (fun C=>kW P n ops C (fun σ=>∀w',C w'->opsX P none n ops (fun σ ds w=>Q .normal σ ds w) (fun c=>pmX (mvL (ops.toList.take (aQ P ops.toList)) 0 []) (fun σ ds w=>Q (.panic c) σ ds w)) (ops.toList.drop (aQ P ops.toList)) σ ds w')
       (snds (hdL (ops.toList.take (aQ P ops.toList)) 0 [])) (Px (mvL (ops.toList.take (aQ P ops.toList)) 0 []) σ)))
      (HK P n ops Q σ ds w)))))
   (opsX P ro n ops (fun σ ds w=>Q .normal σ ds w) (fun c σ ds w=>Q (.panic c) σ ds w) ops.toList σ ds w)
|ro,.seq a b,Q,σ,ds,w=>
  bc (Nat.ble (ways a) 1) (wpX P n aj al ro a (JY Q (fun σ ds w=>wpX P n aj al ro b Q σ ds w)) σ ds w)
   (bc (mkB ro a)
    (JoinD (fun J=>wpX P n aj al ro a (JY Q (fun σ' ds' w'=>J ds' (pick (look (keyOf b) aj) σ') w')) σ ds w)
     (fun ds' vs w'=>∀j,wpX P n aj al ro b Q (mix σ (asg a) (look (keyOf b) aj) vs j) ds' w'))
    (JoinX (fun J=>wpX P n aj al ro a (JY Q (fun σ' ds' w'=>AtX ds' ds (J (pick (look (keyOf b) aj) σ') w'))) σ ds w)
     (fun vs w'=>∀j,wpX P n aj al ro b Q (mix σ (asg a) (look (keyOf b) aj) vs j) ds w')))
|ro,.cond c a b,Q,σ,ds,w=>IfX (rd σ c) (wpX P n aj al ro a Q σ ds w) (wpX P n aj al ro b Q σ ds w)
|ro,.block id a,Q,σ,ds,w=>wpX P n aj al ro a (WE id Q) σ ds w
|ro,.loop a,Q,σ,ds,w=>
  bc (mkB ro a)
   (LoopD ds (pick (look (keyOf a) al) σ) w (fun ds vs w next=>∀j,wpX P n aj al ro a (JY Q (fun σ' ds' w'=>next ds' (pick (look (keyOf a) al) σ') w')) (mix σ (asg a) (look (keyOf a) al) vs j) ds w))
   (LoopX (pick (look (keyOf a) al) σ) w (fun vs w next=>∀j,wpX P n aj al ro a (JY Q (fun σ' ds' w'=>AtX ds' ds (next (pick (look (keyOf a) al) σ') w'))) (mix σ (asg a) (look (keyOf a) al) vs j) ds w))
|ro,.exit id,Q,σ,ds,w=>Q (.exit id) σ ds w
|ro,.ret,Q,σ,ds,w=>Q .ret σ ds w
|ro,.rangeFunc g ps asn b,Q,σ,ds,w=>
  bc (LJ n ps.toList)
   (RangeX P ro ps.toList.length (rd σ g) w
    (fun l args W R=>wpX P n aj al (some l) asn (begQ (fun σ1 W1=>BegX P l W1 (fun W2=>wpX P n aj al (some l) b (rndQ P l R) σ1 [] W2))) (putL ps.toList args 0 σ) [] W)
    (jsX b (fun e r W=>Q e σ (P2 ro r ds) W)))
   False
|_,_,_,_,_,_=>False
end Eng
end
section
namespace Eng
open Go.RowKit
theorem beq_iff {a:Nat}:Nat.beq a b=true↔a=b:=by rw[Nat.beq_eq]
theorem mem_iff {i:Nat}:∀{l:List Nat},mem i l=true↔i∈l
|[]=>by simp[mem]
|j::l=>by simp[mem,mem_iff (l:=l),beq_iff]
def Off (A:List Nat)(σ σ':Sg):Prop:=∀i,mem i A=false->σ' i=σ i
theorem Off.refl (A:List Nat)(σ:Sg):Off A σ σ:=fun _ _=>rfl
theorem Off.trans {A:List Nat}{a b c:Sg}(h:Off A a b)(k:Off A b c):Off A a c:=fun i hi=>(k i hi).trans (h i hi)
theorem Off.mono {A:List Nat}{a b:Sg}(h:Off A a b)(hs:∀i,i∈A->i∈B):Off B a b:=fun i hi=>h i (by
 cases hm:mem i A with
|false=>rfl
|true=>
  have:=mem_iff.2 (hs i (mem_iff.1 hm));rw[this] at hi;cases hi)
theorem Off.put {A:List Nat}(σ:Sg)(d:Option Nat)(v:Value)(h:∀i,d=some i->i∈A):Off A σ (put σ d v):=by
 intro i hi;cases d with
|none=>rfl
|some d=>
  simp only[Eng.put,upd];cases hb:Nat.beq i d with
 |false=>rfl
 |true=>
   have e:=beq_iff.1 hb;subst e;rw[mem_iff.2 (h i rfl)] at hi;cases hi
theorem Cont.mono {K K':VWP}{PK PK':PKT}(h:∀v w,K v w->K' v w)(hp:∀c w,PK c w->PK' c w):∀e w,Cont K PK e w->Cont K' PK' e w
|.returned v,w=>h v w
|.panicked c,w=>hp c w
|.outgrown,_=>id
theorem Upon.mono {P:Program}{r:Result Next}{K K':VWP}{PK PK':PKT}(h:∀v w,K v w->K' v w)(hp:∀c w,PK c w->PK' c w)(hu:Upon P r K PK):Upon P r K' PK':=by
 unfold Upon at *;split at hu
 ·exact h _ _ hu
 ·exact h _ _ hu
 ·exact⟨Calls.mono hu.out (Cont.mono h hp)⟩
 ·exact⟨RoundIn.mono hu.out (Cont.mono h hp)⟩
 ·exact hp _ _ hu
 ·exact hu.elim
theorem opV.mono {P:Program}{o:Oper}{σ:Sg}{w:World}{K K':VWP}{PK PK':PKT}(h:∀v w,K v w->K' v w)(hp:∀c w,PK c w->PK' c w)(hu:opV P o σ w K PK):opV P o σ w K' PK':=by
 unfold opV at *;split at hu
 ·exact h _ _ hu
 ·exact h _ _ hu
 ·cases hb:bZ P _ with
 |true=>rw[hb,aF] at hu;rw[aF];exact⟨Calls.mono hu.out (Cont.mono h hp)⟩
 |false=>rw[hb,aD] at hu;rw[aD];exact⟨Upon.mono h hp hu.out⟩
 ·exact hu.elim
 ·exact⟨Upon.mono h hp hu.out⟩
theorem opsX.dZ {n:Nat}{K K':Nx}{PK PK':List PanicEntry->Nx}{A:List Nat}{σ₀:Sg}
  (h:∀σ ds w,Off A σ₀ σ->K σ ds w->K' σ ds w) (hp:∀c σ ds w,Off A σ₀ σ->PK c σ ds w->PK' c σ ds w) :
  ∀(l:List Oper) (σ:Sg) (ds:List Deferred) (w:World),(∀i,i∈dsts l->i∈A)->Off A σ₀ σ->opsX P ro n ops K PK l σ ds w->opsX P ro n ops K' PK' l σ ds w:=by
 intro l
 induction l with
|nil=>intro σ ds w _ ho hu;exact h _ _ _ ho hu
|cons o rest ih=>
  intro σ ds w hA ho hu;have hA':∀i,i∈dsts rest->i∈A:=fun i hi=>hA i (by unfold dsts;split<;>simp[hi]);have hput:∀v,Off A σ₀ (put σ o.dst v):=fun v=>ho.trans (Off.put σ o.dst v (fun i hi=>hA i (by simp[dsts,hi])));unfold opsX at hu ⊢;cases hd:inB n o.dst with
 |false=>rw[hd,aD] at hu;exact hu.elim
 |true=>
   rw[hd,aF] at hu;rw[aF];cases hg:o.guard with
  |none=>
    simp only[hg] at hu ⊢;split at hu
    ·rename_i c hc
     cases ro with
    |some _=>exact hu.elim
    |none=>
     simp only at hu ⊢;split at hu
     ·exact ih _ _ _ hA' (hput _) hu
     ·obtain⟨d,hdf,hu⟩:=hu.out;exact⟨d,hdf,ih _ _ _ hA' (hput _) hu⟩
    ·rename_i hnd
     exact opV.mono (fun v w hk=>ih _ _ _ hA' (hput v) hk) (fun c w hk=>hp c σ ds w ho hk) hu
  |some jw=>
    obtain⟨j,want⟩:=jw;simp only[hg] at hu ⊢;split at hu
    ·rename_i d hj
     cases hdn:Nat.blt d n with
    |false=>rw[hdn,aD] at hu;exact hu.elim
    |true=>
      rw[hdn,aF] at hu;rw[aF];refine⟨?_⟩
      replace hu:=hu.out
      cases hwv:jE (σ d) want with
     |true=>rw[hwv,aF] at hu;rw[aF];exact opV.mono (fun v w hk=>ih _ _ _ hA' (hput v) hk) (fun c w hk=>hp c σ ds w ho hk) hu
     |false=>rw[hwv,aD] at hu;rw[aD];exact ih _ _ _ hA' (hput _) hu
    ·exact hu.elim
theorem E1.mono {P:Program}{n:Nat}{ops:Array Oper}{o:Oper}{σ:Sg}{w:World}{K K':Sg->World->Prop}{PK PK':PKT}(h:∀v w,K (put σ o.dst v) w->K' (put σ o.dst v) w)(hp:∀c w,PK c w->PK' c w)(hu:E1 P n ops o σ w K PK):E1 P n ops o σ w K' PK':=by
 unfold E1 at hu ⊢;cases hd:inB n o.dst with
|false=>rw[hd,aD] at hu;exact hu.elim
|true=>
  rw[hd,aF] at hu;rw[aF];cases hg:o.guard with
 |none=>simp only[hg] at hu ⊢;exact opV.mono h hp hu
 |some jw=>
   obtain⟨j,want⟩:=jw;simp only[hg] at hu ⊢;split at hu
   ·rename_i d hj
    cases hdn:Nat.blt d n with
   |false=>rw[hdn,aD] at hu;exact hu.elim
   |true=>
     rw[hdn,aF] at hu;rw[aF];refine⟨?_⟩
     replace hu:=hu.out
     cases hwv:jE (σ d) want with
    |true=>rw[hwv,aF] at hu;rw[aF];exact opV.mono h hp hu
    |false=>rw[hwv,aD] at hu;rw[aD];exact h _ _ hu
   ·exact hu.elim
theorem anyX.dZ {P:Program}{n:Nat}{ops:Array Oper}{K K':Nx}{PK PK':List PanicEntry->Nx}{A:List Nat}{σ₀:Sg}(hA:∀o,o∈ops.toList->∀i,o.dst=some i->i∈A)
  (h:∀σ ds w,Off A σ₀ σ->K σ ds w->K' σ ds w) (hp:∀c σ ds w,Off A σ₀ σ->PK c σ ds w->PK' c σ ds w) :
  ∀(fuel:Nat) (listed:Array Bool) (σ:Sg) (ds:List Deferred) (w:World),Off A σ₀ σ->anyX P n ops K PK fuel listed σ ds w->anyX P n ops K' PK' fuel listed σ ds w
|0,listed,σ,ds,w,ho,hu=>by
  unfold anyX at hu ⊢;cases hn:isNil (Region.ready .any ops listed) with
 |false=>rw[hn,aD] at hu;exact hu.elim
 |true=>rw[hn,aF] at hu;rw[aF];exact h _ _ _ ho hu
|f+1,listed,σ,ds,w,ho,hu=>by
  unfold anyX at hu ⊢;cases hn:isNil (Region.ready .any ops listed) with
 |true=>rw[hn,aF] at hu;rw[aF];exact h _ _ _ ho hu
 |false=>
   rw[hn,aD] at hu;rw[aD];refine MA fun p hpm=>?_;obtain⟨i,hi,rfl⟩:=aiD.1 hpm;have h1:=Dh hu _ (aiD.2 ⟨i,hi,rfl⟩);cases hoi:ops[i]? with
  |none=>simp only[hoi] at h1
  |some o=>
    simp only[hoi] at h1 ⊢;have hmem:o∈ops.toList:=by
     have:=amR hoi;simpa using this
    exact E1.mono (fun v w hk=>anyX.dZ hA h hp f _ _ ds w (ho.trans (Off.put σ o.dst v (fun i hi=>hA o hmem i hi))) hk) (fun c w hk=>hp c σ ds w ho hk) h1
theorem opQ.mono {o:Oper}{σ:Sg}{K K':Value->Prop}(h:∀v,K v->K' v)(hu:opQ P C o σ K):opQ P C o σ K':=by
 unfold opQ at *;split at hu
 ·exact h _ hu
 ·exact h _ hu
 ·cases hb:bZ P _ with
 |true=>rw[hb,aF] at hu;rw[aF];exact let ⟨v,a,b⟩:=hu.out;⟨v,a,h _ b⟩
 |false=>rw[hb,aD] at hu;rw[aD];exact let ⟨v,a,b⟩:=hu.out;⟨v,a,h _ b⟩
 ·exact let ⟨v,a,b⟩:=hu.out;⟨v,a,h _ b⟩
theorem kW.dZ {n:Nat}{K K':Sg->Prop}{A:List Nat}{σ₀:Sg}
  (h:∀σ,Off A σ₀ σ->K σ->K' σ) :
  ∀(l:List Oper) (σ:Sg),(∀i,i∈dsts l->i∈A)->Off A σ₀ σ->kW P n ops C K l σ->kW P n ops C K' l σ:=by
 intro l
 induction l with
|nil=>intro σ _ ho hu;exact h _ ho hu
|cons o rest ih=>
  intro σ hA ho hu;have hA':∀i,i∈dsts rest->i∈A:=fun i hi=>hA i (by unfold dsts;split<;>simp[hi]);have hput:∀v,Off A σ₀ (put σ o.dst v):=fun v=>ho.trans (Off.put σ o.dst v (fun i hi=>hA i (by simp[dsts,hi])));unfold kW at hu ⊢;cases hd:inB n o.dst with
 |false=>rw[hd,aD] at hu;exact hu.elim
 |true=>
   rw[hd,aF] at hu;rw[aF];cases hg:o.guard with
  |none=>
    simp only[hg] at hu ⊢;exact opQ.mono (fun v hk=>ih _ hA' (hput v) hk) hu
  |some jw=>
    obtain⟨j,want⟩:=jw;simp only[hg] at hu ⊢;split at hu
    ·rename_i d hj
     cases hdn:Nat.blt d n with
    |false=>rw[hdn,aD] at hu;exact hu.elim
    |true=>
      rw[hdn,aF] at hu;rw[aF];refine⟨?_⟩
      replace hu:=hu.out
      cases hwv:jE (σ d) want with
     |true=>rw[hwv,aF] at hu;rw[aF];exact opQ.mono (fun v hk=>ih _ hA' (hput v) hk) hu
     |false=>rw[hwv,aD] at hu;rw[aD];exact ih _ hA' (hput _) hu
    ·exact hu.elim
theorem opP.mono {o:Oper}{σ:Sg}{K K':Value->Prop}(h:∀v,K v->K' v)(hu:opP P o σ K):opP P o σ K':=by
 unfold opP at hu ⊢;split at hu
 ·exact h _ hu
 ·exact h _ hu
 ·obtain⟨v,h1,h2⟩:=hu.out;exact⟨v,h1,h _ h2⟩
theorem F1.dZ {P:Program}{n:Nat}{K K':Sg->Prop}{A:List Nat}{σ₀:Sg}(h:∀σ,Off A σ₀ σ->K σ->K' σ):∀(l:List (Nat×Oper)) (σ:Sg),(∀p,p∈l->∀i,p.2.dst=some i->i∈A)->Off A σ₀ σ->F1 P n l K σ->F1 P n l K' σ
|[],σ,_,ho,hu=>h σ ho hu
|p::r,σ,hA,ho,hu=>by
  unfold F1 at hu ⊢;cases hd:inB n p.2.dst with
 |false=>rw[hd,aD] at hu;exact hu.elim
 |true=>
   rw[hd,aF] at hu;rw[aF];cases hg:p.2.guard.isNone with
  |false=>rw[hg,aD] at hu;exact hu.elim
  |true=>
    rw[hg,aF] at hu;rw[aF];exact hu.mono fun v hk=>F1.dZ h r _ (fun q hq=>hA q (aiB _ hq)) (ho.trans (Off.put σ p.2.dst v (hA p (aiS ..)))) hk
theorem D6.dZ {P:Program}{n:Nat}{ops:Array Oper}{Q Q':Ex}{A:List Nat}{σ₀ σ:Sg}{ds:List Deferred}{w:World}(hA:∀o,o∈ops.toList->∀i,o.dst=some i->i∈A)
  (h:∀e σ ds w,Off A σ₀ σ->Q e σ ds w->Q' e σ ds w) (ho:Off A σ₀ σ) (hu:D6 P n ops Q σ ds w):D6 P n ops Q' σ ds w:=by
 unfold D6 at hu ⊢;cases hb:(P.follows .mixedOrders&&oZ ops.toList) with
|false=>rw[hb,aD] at hu;exact hu.elim
|true=>
  rw[hb,aF] at hu;rw[aF];refine⟨?_⟩
  replace hu:=hu.out
  exact anyX.dZ hA (fun σ ds w ho hk=>h _ _ _ _ ho hk) (fun c σ ds w ho hk=>h _ _ _ _ ho hk) _ _ _ _ _ ho hu
theorem gO {i:Nat}:∀{l:List Oper},i∈dsts l↔∃o,o∈l∧o.dst=some i
|[]=>by simp[dsts]
|o::l=>by
  unfold dsts;split
  ·rename_i d hd
   simp only[ahG,gO (l:=l)];constructor
   ·rintro (rfl|⟨o',h1,h2⟩)
    ·exact⟨o,.inl rfl,hd⟩
    ·exact⟨o',.inr h1,h2⟩
   ·rintro⟨o',rfl|h1,h2⟩
    ·rw[hd] at h2;cases h2;exact .inl rfl
    ·exact .inr ⟨o',h1,h2⟩
  ·rename_i hd
   simp only[ahG,gO (l:=l)];constructor
   ·rintro⟨o',h1,h2⟩;exact⟨o',.inr h1,h2⟩
   ·rintro⟨o',rfl|h1,h2⟩
    ·rw[hd] at h2;cases h2
    ·exact⟨o',h1,h2⟩
theorem QW (l:List Oper):∀(k:Nat) (ms:List Nat) (p:Nat×Oper),p∈mvL l k ms->k<=p.1∧l[p.1 - k]?=some p.2:=by
 induction l with
|nil=>intro k ms p h;cases h
|cons o l ih=>
  intro k ms p h;unfold mvL at h;cases hc:(isMv o&&Jn ms o) with
 |true=>
   rw[hc,aF] at h;rcases ahG.1 h with rfl|h
   ·exact⟨ahD _,sm⟩
   ·obtain⟨h1,h2⟩:=ih (k+1) _ p h;refine⟨om,?_⟩;rw[show p.1 - k=(p.1 - (k+1))+1 by omega];exact h2
 |false=>
   rw[hc,aD] at h;obtain⟨h1,h2⟩:=ih (k+1) _ p h;refine⟨om,?_⟩;rw[show p.1 - k=(p.1 - (k+1))+1 by omega];exact h2
theorem Ti (l:List Oper):∀(k:Nat) (ms:List Nat) (p:Nat×Oper),p∈hdL l k ms->k<=p.1∧l[p.1 - k]?=some p.2:=by
 induction l with
|nil=>intro k ms p h;cases h
|cons o l ih=>
  intro k ms p h;unfold hdL at h;cases hc:(isMv o&&Jn ms o) with
 |false=>
   rw[hc,aD] at h;rcases ahG.1 h with rfl|h
   ·exact⟨ahD _,sm⟩
   ·obtain⟨h1,h2⟩:=ih (k+1) _ p h;refine⟨om,?_⟩;rw[show p.1 - k=(p.1 - (k+1))+1 by omega];exact h2
 |true=>
   rw[hc,aF] at h;obtain⟨h1,h2⟩:=ih (k+1) _ p h;refine⟨om,?_⟩;rw[show p.1 - k=(p.1 - (k+1))+1 by omega];exact h2
theorem JC {o:Oper}:∀{l:List (Nat×Oper)},o∈snds l->∃p,p∈l∧p.2=o
|[],h=>by cases h
|p::l,h=>by
  rcases ahG.1 h with rfl|h
  ·exact⟨p,sm,rfl⟩
  ·obtain⟨q,h1,h2⟩:=JC h;exact⟨q,by simp[h1],h2⟩
theorem TM {A:List Nat}{σ₀:Sg}(ms:List (Nat×Oper)):∀(σ:Sg),(∀p,p∈ms->∀i,p.2.dst=some i->i∈A)->Off A σ₀ σ->Off A σ₀ (Px ms σ):=by
 induction ms with
|nil=>intro σ _ h;exact h
|cons p r ih=>
  intro σ hA h;exact ih _ (fun q hq=>hA q (by simp[hq])) (h.trans (Off.put σ p.2.dst _ (fun i hi=>hA p sm i hi)))
theorem Dz {A:List Nat}{σ₀:Sg}{K K':Nx}(h:∀σ ds w,Off A σ₀ σ->K σ ds w->K' σ ds w)(ms:List (Nat×Oper)):∀(σ:Sg) (ds:List Deferred) (w:World),(∀p,p∈ms->∀i,p.2.dst=some i->i∈A)->Off A σ₀ σ->pmX ms K σ ds w->pmX ms K' σ ds w:=by
 induction ms with
|nil=>intro σ ds w _ ho hk;exact h _ _ _ ho hk
|cons p r ih=>
  intro σ ds w hA ho hk u;exact ih _ _ _ (fun q hq=>hA q (by simp[hq])) (ho.trans (Off.put σ p.2.dst _ (fun i hi=>hA p sm i hi))) (hk u)
theorem JX (l:List Oper):∀(k:Nat) (p:Nat×Oper),p∈numL l k->k<=p.1∧l[p.1 - k]?=some p.2:=by
 induction l with
|nil=>intro k p h;cases h
|cons o l ih=>
  intro k p h;rcases ahG.1 h with rfl|h
  ·exact⟨ahD _,sm⟩
  ·obtain⟨h1,h2⟩:=ih (k+1) p h;refine⟨om,?_⟩;rw[show p.1 - k=(p.1 - (k+1))+1 by omega];exact h2
theorem Kc {S:List Nat}{p:Nat×Oper}:∀{l:List (Nat×Oper)},p∈selL S l->p∈l
|[],h=>by cases h
|q::l,h=>by
  unfold selL at h;cases hm:memN q.1 S with
 |true=>
   rw[hm,aF] at h;rcases ahG.1 h with rfl|h
   ·simp
   ·exact aiB _ (Kc h)
 |false=>rw[hm,aD] at h;exact aiB _ (Kc h)
theorem FF {S:List Nat}{p:Nat×Oper}:∀{l:List (Nat×Oper)},p∈desL S l->p∈l
|[],h=>by cases h
|q::l,h=>by
  unfold desL at h;cases hm:memN q.1 S with
 |true=>rw[hm,aF] at h;exact aiB _ (FF h)
 |false=>
   rw[hm,aD] at h;rcases ahG.1 h with rfl|h
   ·simp
   ·exact aiB _ (FF h)
theorem WK {l:List Oper}{n:Nat}{p:Nat×Oper}(h:p∈pL l n):(l.take n)[p.1 - 0]?=some p.2:=(JX _ 0 p (Kc h)).2
theorem Wk {l:List Oper}{n:Nat}{p:Nat×Oper}(h:p∈hL l n):(l.take n)[p.1 - 0]?=some p.2:=(JX _ 0 p (FF h)).2
theorem opH.mono {S:World->Prop}{o:Oper}{σ:Sg}{K K':Value->Prop}(h:∀v,K v->K' v)(hu:opH P S o σ K):opH P S o σ K':=by
 unfold opH at hu ⊢;split at hu
 ·exact h _ hu
 ·exact h _ hu
 ·obtain⟨v,h1,h2⟩:=hu.out;exact⟨v,h1,h _ h2⟩
theorem ML.mono {P:Program}{n:Nat}{ops:Array Oper}{S:World->Prop}{o:Oper}{σ:Sg}{K K':Sg->Prop}(h:∀v,K (put σ o.dst v)->K' (put σ o.dst v))(hu:ML P n ops S o σ K):ML P n ops S o σ K':=by
 unfold ML at hu ⊢;cases hd:inB n o.dst with
|false=>rw[hd,aD] at hu;exact hu.elim
|true=>
  rw[hd,aF] at hu;rw[aF];cases hg:o.guard with
 |none=>simp only[hg] at hu ⊢;exact hu.mono h
 |some jw=>
   obtain⟨j,want⟩:=jw;simp only[hg] at hu ⊢;split at hu
   ·rename_i d hj
    cases hdn:Nat.blt d n with
   |false=>rw[hdn,aD] at hu;exact hu.elim
   |true=>
     rw[hdn,aF] at hu;rw[aF];refine⟨?_⟩
     replace hu:=hu.out
     cases hwv:jE (σ d) want with
    |true=>rw[hwv,aF] at hu;rw[aF];exact hu.mono h
    |false=>rw[hwv,aD] at hu;rw[aD];exact h _ hu
   ·exact hu.elim
theorem vS.dZ {P:Program}{n:Nat}{ops:Array Oper}{E:List Nat}{S:World->Prop}{K K':Nx}{PK PK':List PanicEntry->Nx}{A:List Nat}{σ₀:Sg}(hA:∀o,o∈ops.toList->∀i,o.dst=some i->i∈A)
  (h:∀σ ds w,Off A σ₀ σ->K σ ds w->K' σ ds w) (hp:∀c σ ds w,Off A σ₀ σ->PK c σ ds w->PK' c σ ds w) :
  ∀(fuel:Nat) (listed:Array Bool) (σ:Sg) (ds:List Deferred) (w:World),Off A σ₀ σ->vS P n ops E S K PK fuel listed σ ds w->vS P n ops E S K' PK' fuel listed σ ds w
|0,listed,σ,ds,w,ho,hu=>by
  unfold vS at hu ⊢;cases hn:isNil (Region.ready .any ops listed) with
 |false=>rw[hn,aD] at hu;exact hu.elim
 |true=>rw[hn,aF] at hu;rw[aF];exact h _ _ _ ho hu
|f+1,listed,σ,ds,w,ho,hu=>by
  unfold vS at hu ⊢;cases hn:isNil (Region.ready .any ops listed) with
 |true=>rw[hn,aF] at hu;rw[aF];exact h _ _ _ ho hu
 |false=>
   rw[hn,aD] at hu;rw[aD];have mem:∀i o,ops[i]?=some o->o∈ops.toList:=fun i o hoi=>by
    have:=amR hoi;simpa using this
   cases hf:Ib ops E listed (Region.ready .any ops listed) with
  |some i=>
    simp only[hf] at hu ⊢;cases hoi:ops[i]? with
   |none=>simp only[hoi] at hu
   |some o=>
     simp only[hoi] at hu ⊢;exact hu.mono fun v hk=>vS.dZ hA h hp f _ _ ds w (ho.trans (Off.put σ o.dst v (fun i' hi=>hA o (mem i o hoi) i' hi))) hk
  |none=>
    simp only[hf] at hu ⊢;refine MA fun p hpm=>?_;obtain⟨i,hi,rfl⟩:=aiD.1 hpm;have h1:=Dh hu _ (aiD.2 ⟨i,hi,rfl⟩);cases hoi:ops[i]? with
   |none=>simp only[hoi] at h1
   |some o=>
     simp only[hoi] at h1 ⊢;refine E1.mono (fun v w hk=>?_) (fun c w hk=>hp c σ ds w ho hk) h1;cases hnd:JK P ops E o with
    |true=>rw[hnd,aF] at hk;rw[aF];exact⟨hk.1,vS.dZ hA h hp f _ _ ds w (ho.trans (Off.put σ o.dst v (fun i' hi=>hA o (mem i o hoi) i' hi))) hk.2⟩
    |false=>rw[hnd,aD] at hk;rw[aD];exact vS.dZ hA h hp f _ _ ds w (ho.trans (Off.put σ o.dst v (fun i' hi=>hA o (mem i o hoi) i' hi))) hk
theorem Ta {S:List Nat}{l:List Oper}{p:Nat×Oper}(h:p∈desL S (numL l 0)):l[p.1]?=some p.2:=by
 have:=(JX l 0 p (FF h)).2;simpa using this
theorem Ac.dZ {P:Program}{n:Nat}{ops:Array Oper}{Q Q':Ex}{A:List Nat}{σ₀ σ:Sg}{ds:List Deferred}{w:World}(hA:∀o,o∈ops.toList->∀i,o.dst=some i->i∈A)
  (h:∀e σ ds w,Off A σ₀ σ->Q e σ ds w->Q' e σ ds w) (ho:Off A σ₀ σ) (hu:Ac P n ops Q σ ds w):Ac P n ops Q' σ ds w:=by
 unfold Ac at hu ⊢;cases hb:TE P n ops with
|false=>
  rw[hb,aD] at hu;rw[aD];exact D6.dZ hA h ho hu
|true=>
  rw[hb,aF] at hu;rw[aF];obtain⟨S,hS,hu⟩:=hu.out;refine⟨S,hS,?_⟩;have hAm:∀p,p∈desL (eL P ops.toList 0 []) (numL ops.toList 0)->∀i,p.2.dst=some i->i∈A:=fun p hp i hi=>
   hA p.2 (akM (Ta hp)) i hi
  exact vS.dZ hA (fun σ ds w ho hk=>h _ _ _ _ ho hk) (fun c σ ds w ho hk=>Dz (fun σ ds w ho hk=>h _ _ _ _ ho hk) _ _ _ _ hAm ho hk) _ _ _ _ _ ho hu
theorem HK.dZ {P:Program}{n:Nat}{ops:Array Oper}{Q Q':Ex}{A:List Nat}{σ₀ σ:Sg}{ds:List Deferred}{w:World}(hA:∀o,o∈ops.toList->∀i,o.dst=some i->i∈A)
  (h:∀e σ ds w,Off A σ₀ σ->Q e σ ds w->Q' e σ ds w) (ho:Off A σ₀ σ) (hu:HK P n ops Q σ ds w):HK P n ops Q' σ ds w:=by
 unfold HK at hu ⊢;have hm0:=@WK ops.toList (aQ P ops.toList);have hh0:=@Wk ops.toList (aQ P ops.toList);generalize pL ops.toList (aQ P ops.toList)=ms at *;generalize hL ops.toList (aQ P ops.toList)=hs at *;cases hb:((Nat.blt 9 ops.size&&UZ P ms)&&(P.follows .mixedOrders&&(Nj ops (aQ P ops.toList) ms hs&&(inBs n ms&&(zT P (ops.toList.drop (aQ P ops.toList))&&oZ ops.toList))))) with
|false=>
  rw[hb,aD] at hu;rw[aD];exact Ac.dZ hA h ho hu
|true=>
  rw[hb,aF] at hu;rw[aF];obtain⟨C,hC,hu⟩:=hu.out;refine⟨C,hC,?_⟩;have hAm:∀p,p∈ms->∀i,p.2.dst=some i->i∈A:=fun p hp i hi=>
   hA p.2 (ajK (akM (hm0 hp))) i hi
  have hAh:∀i,i∈dsts (snds hs)->i∈A:=fun i hi=>by
   obtain⟨o,ho,hd⟩:=gO.1 hi;obtain⟨p,hp,rfl⟩:=JC ho;exact hA p.2 (ajK (akM (hh0 hp))) i hd
  have hAt:∀i,i∈dsts (ops.toList.drop (aQ P ops.toList))->i∈A:=fun i hi=>by
   obtain⟨o,ho,hd⟩:=gO.1 hi;exact hA o (akQ ho) i hd
  refine F1.dZ (fun σ1 ho1 hk1=>?_) ms σ hAm ho hu;refine kW.dZ (fun σ' ho' hk w' hw'=>?_) _ _ hAh ho1 hk1;exact opsX.dZ (fun σ ds w ho hk=>h _ _ _ _ ho hk) (fun c σ ds w ho hk=>Dz (fun σ ds w ho hk=>h _ _ _ _ ho hk) ms _ _ _ hAm ho hk) _ _ _ _ hAt ho' (hk w' hw')
theorem JG {σ:Sg}{A ls:List Nat}{vs:List Value}{j:Sg}:Off A σ (mix σ A ls vs j):=by
 intro i hi;simp[mix,hi]
theorem JN {K K':Nat->Nat->World->Prop}(h:∀i r W,K i r W->K' i r W):∀{l:List Nat} {pd:Option Code} {k:Nat->World->Prop},(pd,k)∈exJ K l->∃k',(pd,k')∈exJ K' l∧∀r W,k r W->k' r W
|[],_,_,hm=>by cases hm
|i::l,pd,k,hm=>by
  rcases ahG.1 hm with e|hm
  ·cases e;exact⟨K' i,by simp[exJ],fun r W=>h i r W⟩
  ·obtain⟨k',h1,h2⟩:=JN h hm;exact⟨k',ahG.2 (.inr h1),h2⟩
theorem V3 {b:Code}{K K':Exit->Nat->World->Prop}(h:∀e r W,K e r W->K' e r W){pd:Option Code}{k:Nat->World->Prop}(hm:(pd,k)∈jsX b K):∃k',(pd,k')∈jsX b K'∧∀r W,k r W->k' r W:=by
 unfold jsX at hm ⊢;rcases ahG.1 hm with e|hm
 ·cases e;exact⟨K' .normal,sm,fun r W=>h _ r W⟩
 ·cases hr:jr b with
 |false=>
   rw[hr,aD] at hm;obtain⟨k',h1,h2⟩:=JN (K':=fun i=>K' (.exit i)) (fun i r W=>h (.exit i) r W) hm;exact⟨k',by rw[aD];exact ahG.2 (.inr h1),h2⟩
 |true=>
   rw[hr,aF] at hm;rcases ahG.1 hm with e|hm
   ·cases e;exact⟨K' .ret,by rw[aF];simp,fun r W=>h _ r W⟩
   ·obtain⟨k',h1,h2⟩:=JN (K':=fun i=>K' (.exit i)) (fun i r W=>h (.exit i) r W) hm;exact⟨k',by rw[aF];exact ahG.2 (.inr (ahG.2 (.inr h1))),h2⟩
theorem Zr {b:Code}{K:Exit->Nat->World->Prop}{pd:Option Code}{k:Nat->World->Prop}(hm:(pd,k)∈jsX b K) :
  (pd=none∧k=K .normal)∨(pd=some .ret∧k=K .ret)∨∃i,pd=some (.exit i)∧k=K (.exit i):=by
 have hex:∀{l:List Nat},(pd,k)∈exJ (fun i=>K (.exit i)) l->∃i,pd=some (.exit i)∧k=K (.exit i):=by
  intro l
  induction l with
 |nil=>intro h;cases h
 |cons i l ih=>
   intro h;rcases ahG.1 h with e|h
   ·cases e;exact⟨i,rfl,rfl⟩
   ·exact ih h
 unfold jsX at hm;rcases ahG.1 hm with e|hm
 ·cases e;exact .inl ⟨rfl,rfl⟩
 ·cases hr:jr b with
 |false=>rw[hr,aD] at hm;exact .inr (.inr (hex hm))
 |true=>
   rw[hr,aF] at hm;rcases ahG.1 hm with e|hm
   ·cases e;exact .inr (.inl ⟨rfl,rfl⟩)
   ·exact .inr (.inr (hex hm))
theorem FZ {Q:Ex}{σ:Sg}:WE id Q (.exit j) σ ds w=bc (Nat.beq j id) (Q .normal σ ds w) (Q (.exit j) σ ds w):=rfl
theorem wpX.dZ {P:Program}{n:Nat}{aj al:List (Nat×List Nat)}{ro:Option Nat}:∀(c:Code) (Q Q':Ex) (A:List Nat) (σ₀:Sg),
  (∀i,i∈asg c->i∈A)->(∀e σ ds w,Off A σ₀ σ->Q e σ ds w->Q' e σ ds w) ->
  ∀(σ:Sg) (ds:List Deferred) (w:World),Off A σ₀ σ->wpX P n aj al ro c Q σ ds w->wpX P n aj al ro c Q' σ ds w:=by
 intro c
 induction c with
|skip=>intro Q Q' A σ₀ hA h σ ds w ho hu;exact h _ _ _ _ ho hu
|region id ops draw=>
  intro Q Q' A σ₀ hA h σ ds w ho hu;unfold wpX at hu ⊢;cases draw with
 |true=>
   rw[aF] at hu ⊢;cases hw:Jg P n ops with
  |true=>rw[hw,aF] at hu;rw[aF];exact Ac.dZ (fun o ho i hi=>hA i (gO.2 ⟨o,ho,hi⟩)) h ho hu
  |false=>
   rw[hw,aD] at hu;rw[aD];cases hh:Nat.beq (aQ P ops.toList) ops.toList.length with
  |true=>
    rw[hh,aF] at hu;rw[aF];cases hb:(P.follows .mixedOrders&&(Region.lexB .any ops&&oZ ops.toList)) with
   |false=>rw[hb,aD] at hu;rw[aD];exact HK.dZ (fun o ho i hi=>hA i (gO.2 ⟨o,ho,hi⟩)) h ho hu
   |true=>
     rw[hb,aF] at hu;rw[aF];obtain⟨C,hC,hu⟩:=hu.out;refine⟨C,hC,?_⟩;exact kW.dZ (fun σ' ho' hk w' hw'=>h _ _ _ _ ho' (hk w' hw')) _ _ hA ho hu
  |false=>
    rw[hh,aD] at hu;rw[aD];cases hb:(P.follows .mixedOrders&&(Region.lexTailB .any ops (aQ P ops.toList)&&(zT P (ops.toList.drop (aQ P ops.toList))&&oZ ops.toList))) with
   |false=>
     rw[hb,aD] at hu;rw[aD];clear hb;have hm0:=QW (ops.toList.take (aQ P ops.toList)) 0 [];have hh0:=Ti (ops.toList.take (aQ P ops.toList)) 0 [];generalize mvL (ops.toList.take (aQ P ops.toList)) 0 []=ms at *;generalize hdL (ops.toList.take (aQ P ops.toList)) 0 []=hs at *;cases hb:(P.follows .mixedOrders&&(LI ops (aQ P ops.toList) ms hs&&(inBs n ms&&(zT P (ops.toList.drop (aQ P ops.toList))&&oZ ops.toList)))) with
    |false=>
      rw[hb,aD] at hu;rw[aD];exact HK.dZ (fun o ho i hi=>hA i (gO.2 ⟨o,ho,hi⟩)) h ho hu
    |true=>
      rw[hb,aF] at hu;rw[aF];obtain⟨C,hC,hu⟩:=hu.out;refine⟨C,hC,?_⟩;have hAm:∀p,p∈ms->∀i,p.2.dst=some i->i∈A:=fun p hp i hi=>
       hA i (gO.2 ⟨p.2,ajK (akM (hm0 p hp).2),hi⟩)
      have hAh:∀i,i∈dsts (snds hs)->i∈A:=fun i hi=>by
       obtain⟨o,ho,hd⟩:=gO.1 hi;obtain⟨p,hp,rfl⟩:=JC ho;exact hA i (gO.2 ⟨p.2,ajK (akM (hh0 p hp).2),hd⟩)
      have hAt:∀i,i∈dsts (ops.toList.drop (aQ P ops.toList))->i∈A:=fun i hi=>by
       obtain⟨o,ho,hd⟩:=gO.1 hi;exact hA i (gO.2 ⟨o,akQ ho,hd⟩)
      refine kW.dZ (fun σ' ho' hk w' hw'=>?_) _ _ hAh (TM ms _ hAm ho) hu;exact opsX.dZ (fun σ ds w ho hk=>h _ _ _ _ ho hk) (fun c σ ds w ho hk=>Dz (fun σ ds w ho hk=>h _ _ _ _ ho hk) ms _ _ _ hAm ho hk) _ _ _ _ hAt ho' (hk w' hw')
   |true=>
     rw[hb,aF] at hu;rw[aF];obtain⟨C,hC,hu⟩:=hu.out;refine⟨C,hC,?_⟩;have hsub:∀l l':List Oper,(∀o,o∈l->o∈l')->∀i,i∈dsts l->i∈dsts l':=by
      intro l l' hl i hi;rw[gO] at hi ⊢;obtain⟨o,ho,hd⟩:=hi;exact⟨o,hl o ho,hd⟩
     refine kW.dZ (fun σ' ho' hk w' hw'=>?_) _ _ (fun i hi=>hA i (hsub _ _ (fun o ho=>ajK ho) i hi)) ho hu;exact opsX.dZ (fun σ ds w ho hk=>h _ _ _ _ ho hk) (fun c σ ds w ho hk=>h _ _ _ _ ho hk) _ _ _ _ (fun i hi=>hA i (hsub _ _ (fun o ho=>akQ ho) i hi)) ho' (hk w' hw')
 |false=>
   rw[aD] at hu ⊢;exact opsX.dZ (fun σ ds w ho hk=>h _ _ _ _ ho hk) (fun c σ ds w ho hk=>h _ _ _ _ ho hk) _ _ _ _ hA ho hu
|seq a b iha ihb=>
  intro Q Q' A σ₀ hA h σ ds w ho hu;have hAa:∀i,i∈asg a->i∈A:=fun i hi=>hA i (by simp[asg,hi]);have hAb:∀i,i∈asg b->i∈A:=fun i hi=>hA i (by simp[asg,hi]);unfold wpX at hu ⊢;cases hw:Nat.ble (ways a) 1 with
 |true=>
   rw[hw,aF] at hu;rw[aF];refine iha _ _ A σ₀ hAa ?_ σ ds w ho hu;intro e σ' ds' w' ho' hk;cases e with
  |normal=>exact ihb _ _ A σ₀ hAb h σ' ds' w' ho' hk
  |_=>exact h _ _ _ _ ho' hk
 |false=>
   rw[hw,aD] at hu;rw[aD];cases hm:mkB ro a with
  |true=>
    rw[hm,aF] at hu;rw[aF];refine⟨fun J hJ=>?_⟩;have hu':=hu.out J (fun ds' vs w' hr=>hJ ds' vs w' (fun j=>by
     refine ihb _ _ A σ₀ hAb h _ _ _ (ho.trans (JG.mono hAa)) (hr j)))
    refine iha _ _ A σ₀ hAa ?_ σ ds w ho hu';intro e σ' ds' w' ho' hk;cases e with
   |normal=>exact hk
   |_=>exact h _ _ _ _ ho' hk
  |false=>
   rw[hm,aD] at hu;rw[aD];refine⟨fun J hJ=>?_⟩;have hu':=hu.out J (fun vs w' hr=>hJ vs w' (fun j=>by
    refine ihb _ _ A σ₀ hAb h _ _ _ (ho.trans (JG.mono hAa)) (hr j)))
   refine iha _ _ A σ₀ hAa ?_ σ ds w ho hu';intro e σ' ds' w' ho' hk;cases e with
  |normal=>exact hk
  |_=>exact h _ _ _ _ ho' hk
|cond c a b iha ihb=>
  intro Q Q' A σ₀ hA h σ ds w ho hu;have hAa:∀i,i∈asg a->i∈A:=fun i hi=>hA i (by simp[asg,hi]);have hAb:∀i,i∈asg b->i∈A:=fun i hi=>hA i (by simp[asg,hi]);unfold wpX at hu ⊢;refine⟨?_⟩
  replace hu:=hu.out
  split at hu
  ·exact⟨fun hb=>iha _ _ A σ₀ hAa h σ ds w ho (hu.1 hb),fun hb=>ihb _ _ A σ₀ hAb h σ ds w ho (hu.2 hb)⟩
  ·exact hu.elim
|block id a iha=>
  intro Q Q' A σ₀ hA h σ ds w ho hu;unfold wpX at hu ⊢;refine iha _ _ A σ₀ hA ?_ σ ds w ho hu;intro e σ' ds' w' ho' hk;cases e with
 |exit j=>
   rw[FZ] at hk ⊢;cases hb:Nat.beq j id with
  |true=>rw[hb,aF] at hk;exact h _ _ _ _ ho' hk
  |false=>rw[hb,aD] at hk;exact h _ _ _ _ ho' hk
 |_=>exact h _ _ _ _ ho' hk
|loop a iha=>
  intro Q Q' A σ₀ hA h σ ds w ho hu;unfold wpX at hu ⊢;cases hm:mkB ro a with
 |true=>
   rw[hm,aF] at hu;rw[aF];obtain⟨I,μ,h0,hs⟩:=hu.out;refine⟨I,μ,h0,fun ds vs w hI j=>?_⟩;refine iha _ _ A σ₀ hA ?_ _ ds w (ho.trans (JG.mono hA)) (hs ds vs w hI j);intro e σ' ds' w' ho' hk;cases e with
  |normal=>exact hk
  |_=>exact h _ _ _ _ ho' hk
 |false=>
  rw[hm,aD] at hu;rw[aD];obtain⟨I,μ,h0,hs⟩:=hu.out;refine⟨I,μ,h0,fun vs w hI j=>?_⟩;refine iha _ _ A σ₀ hA ?_ _ ds w (ho.trans (JG.mono hA)) (hs vs w hI j);intro e σ' ds' w' ho' hk;cases e with
 |normal=>exact hk
 |_=>exact h _ _ _ _ ho' hk
|exit id=>intro Q Q' A σ₀ hA h σ ds w ho hu;exact h _ _ _ _ ho hu
|ret=>intro Q Q' A σ₀ hA h σ ds w ho hu;exact h _ _ _ _ ho hu
|rangeFunc g ps asn b _ _=>
  intro Q Q' A σ₀ hA h σ ds w ho hu;unfold wpX at hu ⊢;cases hl:LJ n ps.toList with
 |false=>rw[hl,aD] at hu;exact hu.elim
 |true=>
   rw[hl,aF] at hu;rw[aF];refine⟨?_⟩;obtain⟨f,fa,ca,df,w0,h1,h2,h3,h4⟩:=hu.out;refine⟨f,fa,ca,df,w0,h1,h2,h3,fun L0 hL0 hY=>Calls.mono (h4 L0 hL0 hY) ?_⟩;rintro e w3 ⟨v,st,pd,k,he,hst,hw,hm,hk⟩;obtain⟨k',hm',hk'⟩:=V3 (b:=b) (K':=fun e r W=>Q' e σ (P2 ro r ds) W) (fun e r W hq=>h e σ (P2 ro r ds) W ho hq) hm;exact⟨v,st,pd,k',he,hst,hw,hm',hk' _ _ hk⟩
|scope a _=>intro Q Q' A σ₀ hA h σ ds w ho hu;exact hu.elim
|label l=>intro Q Q' A σ₀ hA h σ ds w ho hu;exact hu.elim
|goto l=>intro Q Q' A σ₀ hA h σ ds w ho hu;exact hu.elim
|refuse y=>intro Q Q' A σ₀ hA h σ ds w ho hu;exact hu.elim
theorem Ny {σ:Sg}:∀{ls:List Nat} {i k:Nat},pos i ls=some k->(pick ls σ).getD k undef=σ i
|[],i,k,h=>by cases h
|j::l,i,k,h=>by
  unfold pos at h;cases hb:Nat.beq i j with
 |true=>rw[hb,aF] at h;cases h;rw[beq_iff.1 hb];rfl
 |false=>
   rw[hb,aD] at h;cases hp:pos i l with
  |none=>rw[hp] at h;cases h
  |some m=>rw[hp] at h;cases h;simpa[pick] using Ny hp
theorem FD {σ σ':Sg}{A ls:List Nat}(h:Off A σ σ'):mix σ A ls (pick ls σ') σ'=σ':=by
 funext i
 unfold mix;cases hm:mem i A with
|false=>rw[aD];exact (h i hm).symm
|true=>
  rw[aF];split
  ·rename_i k hk;exact Ny hk
  ·rfl
def Cd (n:Nat)(Q:Ex)(e:Exit)(a:Act)(w:World):Prop:=∃σ,Rep n σ a.tmps∧Q e σ a.defers w
theorem XC (σ:Sg)(d:Option Nat)(x u:Value):put (put σ d x) d u=put σ d u:=by
 cases d with
|none=>rfl
|some d=>
  funext i
  simp only[put,upd];cases Nat.beq i d<;>rfl
def Zf (σ:Sg):Option Nat->Value
|some i=>σ i
|none=>undef
theorem VL (σ:Sg)(d:Option Nat):put σ d (Zf σ d)=σ:=by
 cases d with
|none=>rfl
|some d=>
  funext i
  simp only[put,upd];cases h:Nat.beq i d with
 |true=>have:=anM h;subst this;rfl
 |false=>rfl
theorem FB {K:Nx}:∀(ms:List (Nat×Oper)) {σ:Sg} {ds:List Deferred} {w:World},pmX ms K σ ds w->K σ ds w
|[],_,_,_,h=>h
|p::r,σ,ds,w,h=>by
  have h':=FB r (h (Zf σ p.2.dst))
  rwa [VL] at h'
theorem Vq (σ:Sg){d e:Option Nat}(x u:Value)(h:d≠e):put (put σ e x) d u=put (put σ d u) e x:=by
 cases d with
|none=>rfl
|some i=>
  cases e with
 |none=>rfl
 |some j=>
   have hij:i≠j:=fun hh=>h (by rw[hh])
   funext k
   simp only[put,upd];cases h1:Nat.beq k i with
  |true=>
    have:=anM h1;subst this;have h2:Nat.beq k j=false:=by
     cases h3:Nat.beq k j with
    |false=>rfl
    |true=>exact absurd (anM h3) hij
    rw[h2]
  |false=>cases Nat.beq k j<;>rfl
theorem ME {K:Nx}(x:Value)(p:Nat×Oper)(ms:List (Nat×Oper)):∀{σ:Sg} {ds:List Deferred} {w:World},p∈ms->pmX ms K σ ds w->pmX ms K (put σ p.2.dst x) ds w:=by
 induction ms with
|nil=>intro σ ds w hp _;cases hp
|cons q r ih=>
  intro σ ds w hp h u;by_cases e:q.2.dst=p.2.dst
  ·have hh:pmX r K (put σ p.2.dst u) ds w:=by rw[<-e];exact h u
   rw[e,XC];exact hh
  ·rcases ahG.1 hp with rfl|hp
   ·exact absurd rfl e
   ·rw[Vq σ x u e];exact ih hp (h u)
theorem tR {l:List Oper}{n k:Nat}{o:Oper}(h:(l.take n)[k - 0]?=some o):l.toArray[k]?=some o:=by
 rw[anN,ajT] at h;split at h
 ·simpa using h
 ·cases h
theorem La {n:Nat}:∀(ms:List (Nat×Oper)) (σ:Sg) (a:Act),inBs n ms=true->Rep n σ a.tmps->Rep n (Px ms σ) (jF ms a).tmps∧(jF ms a).defers=a.defers
|[],σ,a,_,h=>⟨h,rfl⟩
|p::r,σ,a,hb,h=>by
  simp only[inBs,ahR] at hb;have e:mvX p.2 σ=L5 p.2 a:=by
   unfold mvX L5;rw[h.eval]
   try (generalize p.2.op=x;cases x<;>rfl)
  obtain⟨h1,h2⟩:=La r (put σ p.2.dst (mvX p.2 σ)) (a.put p.2.dst (mvX p.2 σ)) hb.2 (h.put hb.1 _);unfold Px;rw[show jF (p::r) a=jF r (a.put p.2.dst (L5 p.2 a)) from rfl,<-e];exact⟨h1,h2.trans (by cases p.2.dst<;>rfl)⟩
theorem NX {n:Nat}:∀(ps:List Nat) (args:List Value) (k:Nat) (σ:Sg) (t:Array Value),LJ n ps=true->Rep n σ t->k+ps.length<=args.length ->
  Rep n (putL ps args k σ) ((ps.zip (args.drop k)).foldl (fun t x=>t.setIfInBounds x.1 x.2) t)
|[],args,k,σ,t,_,h,_=>by simpa[putL] using h
|p::ps,args,k,σ,t,hl,h,hk=>by
  unfold LJ at hl;cases hp:Nat.blt p n with
 |false=>rw[hp,aD] at hl;cases hl
 |true=>
   rw[hp,aF] at hl;have hk2:k < args.length:=by simp only[ahU] at hk;omega
   rw[ajB hk2];simp only[List.zip_cons_cons,List.foldl_cons,putL];have hg:args.getD k undef=args[k]:=by simp[List.getD,hk2]
   rw[hg];have h':=Rep.put (a:={ tmps:=t,defers:=[] }) h (d:=some p) (by simpa[inB] using hp) args[k];exact NX ps args (k+1) _ _ hl h' (by simp only[ahU] at hk;omega)
theorem oG {l:Nat}{r:Loop}(h:w.heap[l]?=some (.loop r)):(Instr.getLoop l).run P w=.ok r w:=by
 have h1:(getObj l).run P w=.ok (.loop r) w:=by simp[getObj,Sem.run,h]
 unfold Instr.getLoop;rw[Sem.run_bind,h1];rfl
theorem D2 {l:Nat}{r:Loop}{o':Obj}(h:w.heap[l]?=some (.loop r)):(setObj l o').run P w=.ok () (putO w l o'):=by
 simp[setObj,Sem.run,h,putO]
theorem HF {l:Nat}(h:w.heap[l]?=some (lp L0 .ready none)):(Instr.beginRound l).run P w=.ok () (putO w l (lp L0 .busy none)):=by
 unfold Instr.beginRound;rw[Sem.run_bind,oG h];simp only[Result.andThen];rw[Sem.run_bind,D2 h];rfl
theorem Lg {l:Nat}{j:Option Code}(h:w.heap[l]?=some (lp L0 .busy none)):(Instr.endRound l j).run P w=.ok (.bool j.isNone) (putO w l (lp L0 (if j.isNone then .ready else .done) j)):=by
 unfold Instr.endRound;rw[Sem.run_bind,oG h];simp only[Result.andThen];rw[Sem.run_bind,D2 h];rfl
theorem MC {l:Nat}{st:LoopState}{j:Option Code}(hs:st≠.busy)(h:w.heap[l]?=some (lp L0 st j)):(Instr.endLoop l).run P w=.ok j (putO w l (lp L0 .exhausted j)):=by
 unfold Instr.endLoop;rw[Sem.run_bind,oG h];simp only[Result.andThen];have hb:(st==LoopState.busy)=false:=by cases st<;>first|rfl|exact absurd rfl hs
 simp only[hb];rw[agV dc,Sem.run_bind,D2 h];rfl
theorem MS {n:Nat}{al:List (Nat×List Nat)}{g:Operand}{ps:Array Tmp}{asn b:Code}{Q:Ex}{σ:Sg}{a:Act}(hr:Rep n σ a.tmps)(hl:LJ n ps.toList=true)
  {f:Nat} {fa ca:Array Value} {df:Nat} {w0:World} (h1:rd σ g=.func (.func f) fa ca) (h2:bZ P f=true) (h3:LayR w ro df w0)
  (h4:∀L0:Loop,L0.defers=df ->
   (∀l args W R,W.heap[l]?=some (lp L0 .ready none)->args.length=ps.toList.length ->
    wpX P n aj al (some l) asn (begQ (fun σ1 W1=>BegX P l W1 (fun W2=>wpX P n aj al (some l) b (rndQ P l R) σ1 [] W2))) (putL ps.toList args 0 σ) [] W->Yld P l args W R) ->
   Calls P f (fa++#[.func (.yield w0.heap.size) #[] #[]]++ca) (w0.alloc (lp L0 .ready none)) fun e w3=>
    ∃v st pd k,e=.returned v∧st≠.busy∧w3.heap[w0.heap.size]?=some (lp L0 st pd)∧(pd,k)∈jsX b (fun e r W=>Q e σ (P2 ro r a.defers) W)∧k df (putO w3 w0.heap.size (lp L0 .exhausted pd)))
  (iha:∀(ro:Option Nat) (Q:Ex) (σ:Sg) (a:Act) (w:World),Rep n σ a.tmps->wpX P n aj al ro asn Q σ a.defers w->asn.wpIn (Fr ro) 0 P (Cd n Q) a w)
  (ihb:∀(ro:Option Nat) (Q:Ex) (σ:Sg) (a:Act) (w:World),Rep n σ a.tmps->wpX P n aj al ro b Q σ a.defers w->b.wpIn (Fr ro) 0 P (Cd n Q) a w) :
  (Code.rangeFunc g ps asn b).wpIn (Fr ro) 0 P (Cd n Q) a w:=by
 refine wpIn_rangeFunc fun fn _=>?_
 let L0:Loop:={ state:=.ready,pending:=none,fn,tmps:=a.tmps,params:=ps,assign:=asn,body:=b,defers:=df }
 let mark:List Deferred:=match ro with|none=>[mkD df]|some _=>[]
 have hmark:mark++a.defers=P2 ro df a.defers:=by
  cases ro<;>rfl
 have henter:(Instr.enterLoop fn a.tmps ps asn b ro).run P w=.ok (w0.heap.size,mark) (w0.alloc (lp L0 .ready none)):=by
  cases ro with
 |none=>
   obtain⟨rfl,rfl⟩:=h3;simp[Instr.enterLoop,mark,L0,lp,mkD]
 |some l'=>
   obtain⟨r',hr',rfl,rfl⟩:=h3;unfold Instr.enterLoop;simp only[];rw[Sem.run_bind,oG hr'];simp[Result.andThen,mark,L0,lp]
 have hev:a.eval g=.func (.func f) fa ca:=by rw[hr.eval];exact h1
 refine⟨w0.heap.size,mark,_,{ target:=.fn (.func f) ca,args:=fa++#[.func (.yield w0.heap.size) #[] #[]] },w0.alloc (lp L0 .ready none),f,fa++#[.func (.yield w0.heap.size) #[] #[]]++ca,w0.alloc (lp L0 .ready none),henter,?_,fun _ _=>trivial,?_,fun hx=>(by cases hx),?_⟩
 ·unfold resolve;simp only[rangeCall,List.map_toArray,aiW,alI];rw[hev];rfl
 ·simp only[invoke];exact lJ h2 _ _
 ·refine IZ.2 (Calls.mono (h4 L0 rfl ?_) ?_)
  ·intro l args W R hW hlen hB;refine⟨fn,(ps.zip args.toArray).foldl (fun tmps (t,a)=>tmps.setIfInBounds t a) a.tmps,asn,b,?_,?_⟩
   ·have hsz:args.toArray.size=ps.size:=by simpa using hlen
    unfold Instr.yield;rw[Sem.run_bind,oG hW];simp only[Result.andThen];rw[agV (by simpa[L0] using hsz)];rfl
   ·have hrep:Rep n (putL ps.toList args 0 σ) ((ps.zip args.toArray).foldl (fun tmps (t,a)=>tmps.setIfInBounds t a) a.tmps):=by
     have:=NX ps.toList args 0 σ a.tmps hl hr om;rw[ajL] at this;rw[<-Array.foldl_toList];simpa using this
    refine roundIn_of_wpIn (F:=Fence.wide) trivial ?_;refine Code.wpIn_mono ?_ (iha (some l) _ _ { tmps:=(ps.zip args.toArray).foldl (fun tmps (t,a)=>tmps.setIfInBounds t a) a.tmps,defers:=[] } W hrep hB);rintro e a1 w1 ⟨σ1,hr1,hk⟩;generalize hds:a1.defers=ds1 at hk;cases e<;>cases ds1<;>first|(exact hk.elim;done)|skip
    ·obtain⟨w2,hb2,hk2⟩:=BegX.out hk;refine⟨w2,hb2,?_⟩;have hbody:=ihb (some l) (rndQ P l R) σ1 a1 w2 hr1 (by rw[hds];exact hk2);refine Code.wpIn_mono ?_ hbody;rintro e a2 w4 ⟨σ2,hr2,hk4⟩;cases e with
    |normal=>obtain⟨v,w',h5,h6⟩:=EndX.out hk4;exact⟨v,w',h5,v,rfl,h6⟩
    |ret=>obtain⟨v,w',h5,h6⟩:=EndX.out hk4;exact⟨v,w',h5,v,rfl,h6⟩
    |exit i=>obtain⟨v,w',h5,h6⟩:=EndX.out hk4;exact⟨v,w',h5,v,rfl,h6⟩
    |_=>exact hk4.elim
  ·rintro e w3 ⟨v,st,pd,k,rfl,hst,hw3,hm,hk⟩;refine⟨pd,putO w3 w0.heap.size (lp L0 .exhausted pd),MC hst hw3,?_⟩;have fin:∀e:Exit,Q e σ (P2 ro df a.defers) (putO w3 w0.heap.size (lp L0 .exhausted pd))->Cd n Q e { a with defers:=mark++a.defers } (putO w3 w0.heap.size (lp L0 .exhausted pd)):=fun e hq=>
    ⟨σ,hr,by rw[<-hmark] at hq;exact hq⟩
   rcases Zr hm with ⟨rfl,rfl⟩|⟨rfl,rfl⟩|⟨i,rfl,rfl⟩
   ·exact fin .normal hk
   ·exact wpIn_ret (fin .ret hk)
   ·exact wpIn_exit (fin (.exit i) hk)
theorem KD {n:Nat}{Q:Ex}{σ:Sg}{a:Act}(hr:Rep n σ a.tmps)(h:D6 P n ops Q σ a.defers w):(Code.region id ops true).wpIn (Fr ro) 0 P (Cd n Q) a w:=by
 unfold D6 at h;cases hb:(P.follows .mixedOrders&&oZ ops.toList) with
|false=>rw[hb,aD] at h;exact h.elim
|true=>
  rw[hb,aF] at h;simp only[ahR] at hb;refine wpIn_region_any hb.1 (Ij (K:=fun σ ds w=>Q .normal σ ds w) (PK:=fun c σ ds w=>Q (.panic c) σ ds w) hb.2 ?_ ?_ _ _ σ a _ hr h.out)
  ·rintro c a w ⟨σ,hr,h⟩;exact⟨σ,hr,h⟩
  ·rintro a w ⟨σ,hr,h⟩;exact⟨σ,hr,h⟩
theorem X7 {n:Nat}{ms:List (Nat×Oper)}{K:Nx}(hb3:inBs n ms=true){p:Nat×Oper}(hp:p∈ms){a:Act}(he:mI n (pmX ms K) (a.put p.2.dst v) w):mI n (pmX ms K) a w:=by
 obtain⟨σ',hr',h'⟩:=he;have hin:inB n p.2.dst=true:=by
  have:∀l:List (Nat×Oper),inBs n l=true->p∈l->inB n p.2.dst=true:=by
   intro l
   induction l with
  |nil=>intro _ h;cases h
  |cons q l ih=>
    intro h1 h2;simp only[inBs,ahR] at h1;rcases ahG.1 h2 with rfl|h2
    ·exact h1.1
    ·exact ih h1.2 h2
  exact this ms hb3 hp
 cases hd:p.2.dst with
|none=>rw[hd] at hr' h';exact⟨σ',hr',h'⟩
|some i=>
  rw[hd] at hr' h' hin;refine⟨put σ' (some i) (a.tmps.getD i undef),?_,?_⟩
  ·have:=Rep.put (a:=a.put (some i) v) hr' hin (a.tmps.getD i undef);have e2:((a.put (some i) v).put (some i) (a.tmps.getD i undef)).tmps=a.tmps:=by
    have hi:i < a.tmps.size:=by
     have h3:a.tmps.size=n:=by have:=hr'.size;simpa[Act.put] using this
     have h4:i < n:=by simpa[inB,Nat.blt_eq] using hin
     rw[h3];exact h4
    simp only[Act.put];apply aoW;intro j;by_cases hij:i=j
    ·subst hij;simp[hi]
    ·rw[alJ hij,alJ hij]
   rwa [e2] at this
  ·have:=ME (K:=K) (a.tmps.getD i undef) p ms hp h';rw[hd] at this;exact this
theorem OZ {P:Program}:∀{l:List Oper},zT P l=true->∀o,o∈l->noRd P o=true
|[],_,o,h=>by cases h
|q::l,hb,o,h=>by
  simp only[zT,ahR] at hb;rcases ahG.1 h with rfl|h
  ·exact hb.1
  ·exact OZ hb.2 o h
theorem TY {n:Nat}{o:Oper}{σ:Sg}{a:Act}{K:Nx}{PK:List PanicEntry->Nx}{next:Act->World->Prop}(ho:ops[i]?=some o)(hr:Rep n σ a.tmps)(hno:noRd P o=true)
  (hQ:∀c a w,mI n (PK c) a w->Q (.panic c) a w) (hnext:∀a w,mI n K a w->next a w)
  (h:E1 P n ops o σ w (fun σ' w'=>K σ' a.defers w') (fun c w=>PK c σ a.defers w)):wpOp P ops Q i next a w:=by
 unfold wpOp;simp only[ho];unfold E1 at h;cases hd:inB n o.dst with
|false=>rw[hd,aD] at h;exact h.elim
|true=>
  rw[hd,aF] at h;cases hg:o.guard with
 |none=>
   simp only[hg] at h;rw[agW (by simp[Region.wanted,hg])];exact .inl (Jx (K:=K) (PK:=PK) hr hd hQ hnext hno h)
 |some jw=>
   obtain⟨j,want⟩:=jw;simp only[hg] at h;split at h
   ·rename_i d hj
    cases hdn:Nat.blt d n with
   |false=>rw[hdn,aD] at h;exact h.elim
   |true=>
     rw[hdn,aF] at h;have hw:=qW hr hg hj hdn
     replace h:=h.out
     cases hwv:jE (σ d) want with
    |true=>
      rw[hwv,aF] at h;rw[agW (by rw[hw,hwv])];exact .inl (Jx (K:=K) (PK:=PK) hr hd hQ hnext hno h)
    |false=>
      rw[hwv,aD] at h;rw[agV (by rw[hw,hwv];simp)];have e:(a.put o.dst undef).defers=a.defers:=by cases o.dst<;>rfl
      exact hnext _ _ ⟨_,hr.put hd undef,by rw[e];exact h⟩
   ·exact h.elim
theorem Vw {n:Nat}{S:World->Prop}{o:Oper}{σ:Sg}{a:Act}{K:Sg->Prop}(hr:Rep n σ a.tmps)(h:ML P n ops S o σ K) :
  ∃v,YieldsIf P ops S o v a∧inB n o.dst=true∧K (put σ o.dst v):=by
 unfold ML at h;cases hd:inB n o.dst with
|false=>rw[hd,aD] at h;exact h.elim
|true=>
  rw[hd,aF] at h;have key:Region.wanted o (yielded ops a.tmps)=true->opH P S o σ (fun v=>K (put σ o.dst v))->∃v,YieldsIf P ops S o v a∧true=true∧K (put σ o.dst v):=by
   intro hw h;unfold opH at h;split at h
   ·rename_i x hx
    refine⟨rd σ x,.inl ⟨hw,fun w _=>?_⟩,rfl,h⟩;rw[hr.eval,show execOp (rd σ) o=pure (.value (rd σ x)) by unfold execOp;rw[hx]];rfl
   ·rename_i x hx
    refine⟨rd σ x,.inl ⟨hw,fun w _=>?_⟩,rfl,h⟩;rw[hr.eval,show execOp (rd σ) o=pure (.value (rd σ x)) by unfold execOp;rw[hx]];rfl
   ·obtain⟨v,h1,h2⟩:=h.out;refine⟨v,.inl ⟨hw,fun w hS=>?_⟩,rfl,h2⟩;rw[hr.eval,<-tD];exact h1 w hS
  cases hg:o.guard with
 |none=>
   simp only[hg] at h;exact key (by simp[Region.wanted,hg]) h
 |some jw=>
   obtain⟨j,want⟩:=jw;simp only[hg] at h;split at h
   ·rename_i d hj
    cases hdn:Nat.blt d n with
   |false=>rw[hdn,aD] at h;exact h.elim
   |true=>
     rw[hdn,aF] at h;have hw:=qW hr hg hj hdn
     replace h:=h.out
     cases hwv:jE (σ d) want with
    |true=>rw[hwv,aF] at h;exact key (by rw[hw,hwv]) h
    |false=>rw[hwv,aD] at h;exact⟨undef,.inr ⟨by rw[hw,hwv],rfl⟩,rfl,h⟩
   ·exact h.elim
theorem Ho {ops:Array Oper}{E:List Nat}{listed:Array Bool}:∀{l:List Nat} {i:Nat},Ib ops E listed l=some i->i∈l∧memN i E=false∧Region.free .any ops listed i=true
|[],i,h=>by cases h
|k::l,i,h=>by
  unfold Ib at h;cases hb:(!(memN k E)&&Region.free .any ops listed k) with
 |true=>
   rw[hb,aF] at h;cases h;simp only[ahR,alU] at hb;exact⟨sm,hb.1,hb.2⟩
 |false=>
   rw[hb,aD] at h;obtain⟨h1,h2⟩:=Ho h;exact⟨aiB _ h1,h2⟩
theorem OT (l:List Oper):∀(k i:Nat) (o:Oper),l[i]?=some o->(k+i,o)∈numL l k:=by
 induction l with
|nil=>intro k i o h;simp at h
|cons q l ih=>
  intro k i o h;cases i with
 |zero=>simp at h;subst h;simp[numL]
 |succ i=>
   have:=ih (k+1) i o (by simpa using h);rw[show k+1+i=k+(i+1) by omega] at this;exact aiB _ this
theorem LS {S:List Nat}{p:Nat×Oper}(hm:memN p.1 S=false):∀{l:List (Nat×Oper)},p∈l->p∈desL S l
|[],h=>by cases h
|q::l,h=>by
  unfold desL;rcases ahG.1 h with rfl|h
  ·rw[hm,aD];simp
  ·cases memN q.1 S with
  |true=>rw[aF];exact LS hm h
  |false=>rw[aD];exact aiB _ (LS hm h)
section
variable {P:Program}{md:Region.Mode}{ops:Array Oper}{Q:Exit->Act->World->Prop}{S:World->Prop}{need:Nat->Bool}
def rG (P:Program)(md:Region.Mode)(ops:Array Oper)(Q:Exit->Act->World->Prop)(S:World->Prop)(need:Nat->Bool):Nat->Array Bool->Act->World->Prop
|0,l,a,w=>Region.ready md ops l=[]∧Q .normal a w
|f+1,l,a,w=>(Region.ready md ops l=[]->Q .normal a w) ∧
  ∀i∈Region.ready md ops l,wpOp P ops Q i (fun a' w'=>(need i=true->S w->S w')∧rG P md ops Q S need f (l.setIfInBounds i true) a' w') a w
theorem rG.any:∀(f:Nat) (l:Array Bool) (a:Act) (w:World),rG P md ops Q S need f l a w->wpAny P md ops Q f l a w
|0,_,_,_,h=>h
|f+1,_,_,_,h=>⟨h.1,fun i hi=>wpOp_mono (fun a' w' h'=>rG.any f _ a' w' h'.2) (h.2 i hi)⟩
theorem rG.done {l:Array Bool}{a:Act}{w:World}(hr:Region.ready md ops l=[])(h:Q .normal a w):∀f,rG P md ops Q S need f l a w
|0=>⟨hr,h⟩
|_+1=>⟨fun _=>h,by rw[hr];simp⟩
theorem rG.first {T:World->Prop}{oi:Oper}(hi:ops[i]?=some oi)
  (hsel:∀(j:Nat) (o:Oper) cs b,ops[j]?=some o->o.op≠.select cs b) (hQ:∀c a w,Q (.panic c) (a.put oi.dst v) w->Q (.panic c) a w)
  (hT:∀j oj,ops[j]?=some oj->(∀e∈oj.after,Region.binds md e=true->e.on≠i)->∀w w',T w->(need j=true->S w->S w')->T w') :
  ∀(f:Nat) (l:Array Bool) (a:Act) (w:World),(∀j oj,ops[j]?=some oj->j≠i->l.getD j true=false->(∀e∈oj.after,Region.binds md e=true->e.on≠i)->oi.apart ops oj=true) ->
   i∈Region.ready md ops l->YieldsIf P ops T oi v a->T w->rG P md ops Q S need f (l.setIfInBounds i true) (a.put oi.dst v) w->rG P md ops Q S need (f+1) l a w:=by
 intro f
 induction f with
|zero=>
  intro l a w _ hr hy hS H;refine⟨fun h=>absurd hr (by rw[h];simp),fun j hj=>?_⟩;rcases Decidable.em (j=i) with rfl|hji
  ·exact hy.wpOp hi hS ⟨fun _ h=>h,H⟩
  ·have hm:=ready_mono hj hji;rw[H.1] at hm;simp at hm
|succ f ih=>
  intro l a w hfr hr hy hS H;refine⟨fun h=>absurd hr (by rw[h];simp),fun j hj=>?_⟩;rcases Decidable.em (j=i) with rfl|hji
  ·exact hy.wpOp hi hS ⟨fun _ h=>h,H⟩
  obtain⟨hl,oj,hoj,haf⟩:=mem_ready.1 hj;have hli:=(mem_ready.1 hr).1;have hno:∀e∈oj.after,Region.binds md e=true->e.on≠i:=by
   intro e he hb hx;have h1:=haf e he hb;rw[hx] at h1;rcases ahY i l.size with h'|h'
   ·simp[h'] at hli h1;rw[hli] at h1;cases h1
   ·simp[Array.getElem?_eq_none h'] at h1
  have hstep:=wpOp_putIf hoj (hfr j oj hoj hji hl hno) (fun cs b=>hsel i oi cs b hi) (fun cs b=>hsel j oj cs b hoj) hQ hy (H.2 j (ready_mono hj hji));refine wpOp_mono (fun a' w' h3=>?_) hstep;obtain⟨hy',hS',H'⟩:=h3;refine⟨hS',ih _ a' w' ?_ (ready_mono hr (Ne.symm hji)) hy' (hT j oj hoj hno w w' hS hS') ?_⟩
  ·intro k ok hk hki hkl hkn;refine hfr k ok hk hki ?_ hkn;rcases Decidable.em (j=k) with rfl|hjk
   ·exact hl
   ·rwa [getD_set_ne true hjk] at hkl
  ·rw[aoU _ _ hji];exact H'
end
theorem Jq {i:Nat}:∀{l:List Edge},memN i (aftL l)=true->∃e∈l,Region.binds .any e=true∧e.on=i
|e::l,h=>by
  unfold aftL at h;cases hb:Region.binds .any e with
 |true=>
   rw[hb,aF] at h;unfold memN at h;cases hx:Nat.beq i e.on with
  |true=>exact⟨e,sm,hb,(anM hx).symm⟩
  |false=>
    rw[hx] at h;obtain⟨e',h1,h2⟩:=Jq (l:=l) h;exact⟨e',aiB _ h1,h2⟩
 |false=>
   rw[hb,aD] at h;obtain⟨e',h1,h2⟩:=Jq (l:=l) h;exact⟨e',aiB _ h1,h2⟩
theorem IX {P:Program}{E A:List Nat}{i:Nat}{o:Oper}(he:memN i E=false)(hp:AN P o=false)(ha:memN i A=false):∀{r:List (Nat×Oper)},(i,o)∈r->Vb P E A r=true
|p::r,h=>by
  unfold Vb;rcases ahG.1 h with rfl|h
  ·simp only[he,hp,ha,Bool.or_self,aD]
  ·have:=IX he hp ha h;cases memN p.1 E<;>cases AN P p.2<;>cases memN p.1 A<;>simp[aF,aD,this]
theorem Kj {E:List Nat}{o oj:Oper}(ho:ops[i]?=some o)(he:memN i E=false)(hp:(L8 ops.toList&&AN P o)=false)(hno:∀e∈oj.after,Region.binds .any e=true->e.on≠i):JK P ops E oj=true:=by
 unfold JK;cases hs:L8 ops.toList with
|false=>rfl
|true=>
  rw[aF];rw[hs,alK] at hp;have:=OT ops.toList 0 i o (by simpa using ho);rw[ahJ] at this;refine IX he hp ?_ this;cases hm:memN i (aftL oj.after.toList) with
 |false=>rfl
 |true=>
   obtain⟨e,h1,h2,h3⟩:=Jq hm;exact absurd h3 (hno e (by simpa using h1) h2)
def U7 (P:Program)(ops:Array Oper)(E:List Nat)(j:Nat):Bool:=match ops[j]? with
|some o=>JK P ops E o
|none=>false
theorem tP {P:Program}{n:Nat}{ops:Array Oper}{E:List Nat}{S:World->Prop}{K:Nx}{PK:List PanicEntry->Nx}{Q:Exit->Act->World->Prop}(hsel:Region.noSelect ops=true)(hnr:zT P ops.toList=true)(hb:inBs n (desL E (numL ops.toList 0))=true)
  (hQ:∀c a w,mI n (pmX (desL E (numL ops.toList 0)) (PK c)) a w↔Q (.panic c) a w) (hK:∀a w,mI n K a w->Q .normal a w) :
  ∀(fuel:Nat) (listed:Array Bool) (σ:Sg) (a:Act) (w:World),Rep n σ a.tmps->(∀i o,ops[i]?=some o->memN i E=false->(L8 ops.toList&&AN P o)=false->listed.getD i true=false->S w) ->
   vS P n ops E S K (fun c=>pmX (desL E (numL ops.toList 0)) (PK c)) fuel listed σ a.defers w->rG P .any ops Q S (U7 P ops E) fuel listed a w
|0,listed,σ,a,w,hr,hS,h=>by
  unfold vS at h;cases hn:isNil (Region.ready .any ops listed) with
 |false=>rw[hn,aD] at h;exact h.elim
 |true=>rw[hn,aF] at h;exact⟨qV.1 hn,hK _ _ ⟨σ,hr,h⟩⟩
|f+1,listed,σ,a,w,hr,hS,h=>by
  unfold vS at h;cases hn:isNil (Region.ready .any ops listed) with
 |true=>
   rw[hn,aF] at h;exact rG.done (qV.1 hn) (hK _ _ ⟨σ,hr,h⟩) _
 |false=>
   rw[hn,aD] at h;cases hf:Ib ops E listed (Region.ready .any ops listed) with
  |some i=>
    simp only[hf] at h;cases hoi:ops[i]? with
   |none=>simp only[hoi] at h
   |some o=>
     simp only[hoi] at h;obtain⟨hm,he,hfr⟩:=Ho hf;obtain⟨v,hy,hd,hk⟩:=Vw hr h;have hp:(i,o)∈desL E (numL ops.toList 0):=by
      have:=OT ops.toList 0 i o (by simpa using hoi);rw[ahJ] at this;exact LS he this
     have hli:=(mem_ready.1 hm).1;have e:(a.put o.dst v).defers=a.defers:=by cases o.dst<;>rfl
     refine rG.first (T:=VX P ops S o) hoi (Region.noSelect_spec hsel) (fun c a w hq=>(hQ c a w).1 (X7 hb hp ((hQ c _ w).2 hq))) ?_ f listed a w (Region.free_spec hoi hfr) hm hy ?_
      (tP hsel hnr hb hQ hK f _ (put σ o.dst v) (a.put o.dst v) w (hr.put hd v) ?_ (by rw[e];exact hk))
     ·intro j oj hoj hno w1 w2 hT hS2;unfold VX at hT ⊢;cases hst:L8 ops.toList&&AN P o with
     |true=>rw[aF];trivial
     |false=>
       rw[hst,aD] at hT;rw[aD];refine hS2 ?_ hT;unfold U7;rw[hoj];exact Kj hoi he hst hno
     ·unfold VX;cases hst:L8 ops.toList&&AN P o with
     |true=>rw[aF];trivial
     |false=>rw[aD];exact hS i o hoi he hst hli
     ·intro k ok hok hke hkp hkl;refine hS k ok hok hke hkp ?_;rcases Decidable.em (i=k) with rfl|hik
      ·exact hli
      ·rwa [getD_set_ne true hik] at hkl
  |none=>
    simp only[hf] at h;refine⟨fun he=>(by rw[qV.2 he] at hn;cases hn),fun i hi=>?_⟩;have h1:=Dh h _ (aiD.2 ⟨i,hi,rfl⟩);cases hoi:ops[i]? with
   |none=>simp only[hoi] at h1
   |some o=>
     simp only[hoi] at h1;have hmem:o∈ops.toList:=by
      have:=amR hoi;simpa using this
     refine TY (K:=fun σ' ds' w'=>bc (JK P ops E o) (S w'∧vS P n ops E S K (fun c=>pmX (desL E (numL ops.toList 0)) (PK c)) f (listed.setIfInBounds i true) σ' ds' w') (vS P n ops E S K (fun c=>pmX (desL E (numL ops.toList 0)) (PK c)) f (listed.setIfInBounds i true) σ' ds' w')) (PK:=fun c=>pmX (desL E (numL ops.toList 0)) (PK c)) hoi hr (OZ hnr o hmem) (fun c a w hc=>(hQ c a w).1 hc) ?_ h1;rintro a' w' ⟨σ',hr',h'⟩;have hneed:U7 P ops E i=JK P ops E o:=by unfold U7;rw[hoi]
     obtain⟨hi0,oi',hoi',haf⟩:=mem_ready.1 hi;rw[hoi] at hoi';cases hoi';cases hnd:JK P ops E o with
    |true=>
      rw[hnd,aF] at h';exact⟨fun _ _=>h'.1,tP hsel hnr hb hQ hK f _ σ' a' w' hr' (fun _ _ _ _ _ _=>h'.1) h'.2⟩
    |false=>
      rw[hnd,aD] at h';refine⟨fun hx=>(by rw[hneed,hnd] at hx;cases hx),tP hsel hnr hb hQ hK f _ σ' a' w' hr' ?_ h'⟩;intro k ok hok hke hkp hkl;exfalso;have hkl2:listed.getD k true=false:=by
       rcases Decidable.em (i=k) with rfl|hik
       ·exact hi0
       ·rwa [getD_set_ne true hik] at hkl
      have:JK P ops E o=true:=Kj hok hke hkp (fun e he hbd hx=>by
       have h1:=haf e he hbd;rw[hx] at h1;rcases ahY k listed.size with h'|h'
       ·simp[h'] at hkl2 h1;rw[hkl2] at h1;cases h1
       ·simp[Array.getElem?_eq_none h'] at h1)
      rw[hnd] at this;cases this
theorem Ee {n:Nat}{Q:Ex}{σ:Sg}{a:Act}(hr:Rep n σ a.tmps)(h:Ac P n ops Q σ a.defers w):(Code.region id ops true).wpIn (Fr ro) 0 P (Cd n Q) a w:=by
 unfold Ac at h;cases hb:TE P n ops with
|false=>rw[hb,aD] at h;exact KD hr h
|true=>
  rw[hb,aF] at h;unfold TE at hb;simp only[ahR] at hb;obtain⟨-,hb1,hb2,hb3,hb4,hb5⟩:=hb;obtain⟨S,hS,h⟩:=h.out;refine xE hb1 hb5 ?_;have key:=rG.any _ _ _ _ (tP (S:=S) (E:=eL P ops.toList 0 []) (K:=fun σ ds w=>Q .normal σ ds w) (PK:=fun c σ ds w=>Q (.panic c) σ ds w) (Q:=fun e a w=>match e with
   |.panic c=>mI n (pmX (desL (eL P ops.toList 0 []) (numL ops.toList 0)) (fun σ ds w=>Q (.panic c) σ ds w)) a w
   |e=>Fi (Cd n Q) e a w) hb2 hb4 hb3 (fun c a w=>Iff.rfl) (fun a w hk=>by obtain⟨σ,hr,h⟩:=hk;exact⟨σ,hr,h⟩) ops.size (Array.replicate ops.size false) σ a { w with drawn:=w.drawn+1 } hr (fun _ _ _ _ _ _=>hS) h)
  refine T5 ?_ _ _ _ _ key;intro e a w he;cases e<;>first|exact he|skip
  obtain⟨σ,hr,h⟩:=he;exact⟨σ,hr,FB _ h⟩
theorem FQ {P:Program}{n:Nat}{ops:Array Oper}{K:Sg->Prop}{L:Act->Prop}{ds:List Deferred}(hK:∀σ a,Rep n σ a.tmps->a.defers=ds->K σ->L a):∀(ms:List (Nat×Oper)) (σ:Sg) (a:Act),Rep n σ a.tmps->a.defers=ds->F1 P n ms K σ->G4 P ops L ms a
|[],σ,a,hr,hd,h=>hK σ a hr hd h
|p::r,σ,a,hr,hd,h=>by
  unfold F1 at h;cases hb:inB n p.2.dst with
 |false=>rw[hb,aD] at h;exact h.elim
 |true=>
   rw[hb,aF] at h;cases hg:p.2.guard.isNone with
  |false=>rw[hg,aD] at h;exact h.elim
  |true=>
    rw[hg,aF] at h;have hw:Region.wanted p.2 (yielded ops a.tmps)=true:=by
     have:p.2.guard=none:=by simpa using hg
     simp[Region.wanted,this]
    have next:∀v,F1 P n r K (put σ p.2.dst v)->G4 P ops L r (a.put p.2.dst v):=fun v hv=>
     FQ hK r (put σ p.2.dst v) (a.put p.2.dst v) (hr.put hb v) (by rw[<-hd];cases p.2.dst<;>rfl) hv
    unfold opP at h;split at h
    ·rename_i x hx
     refine⟨rd σ x,.inl ⟨hw,fun w=>?_⟩,next _ h⟩;rw[hr.eval,show execOp (rd σ) p.2=pure (.value (rd σ x)) by unfold execOp;rw[hx]];rfl
    ·rename_i x hx
     refine⟨rd σ x,.inl ⟨hw,fun w=>?_⟩,next _ h⟩;rw[hr.eval,show execOp (rd σ) p.2=pure (.value (rd σ x)) by unfold execOp;rw[hx]];rfl
    ·obtain⟨v,h1,h2⟩:=h.out;refine⟨v,.inl ⟨hw,fun w=>?_⟩,next _ h2⟩;rw[hr.eval,<-tD];exact h1 w
theorem FX {n:Nat}{Q:Ex}{σ:Sg}{a:Act}(hr:Rep n σ a.tmps)(h:HK P n ops Q σ a.defers w):(Code.region id ops true).wpIn (Fr ro) 0 P (Cd n Q) a w:=by
 unfold HK at h;have hm0:=@WK ops.toList (aQ P ops.toList);have hh0:=@Wk ops.toList (aQ P ops.toList);generalize pL ops.toList (aQ P ops.toList)=ms at *;generalize hL ops.toList (aQ P ops.toList)=hs at *;have harr:ops.toList.toArray=ops:=sm
 cases hb:((Nat.blt 9 ops.size&&UZ P ms)&&(P.follows .mixedOrders&&(Nj ops (aQ P ops.toList) ms hs&&(inBs n ms&&(zT P (ops.toList.drop (aQ P ops.toList))&&oZ ops.toList))))) with
|false=>
  rw[hb,aD] at h;exact Ee hr h
|true=>
  rw[hb,aF] at h;simp only[ahR] at hb;obtain⟨-,hb1,hb2,hb3,hb4,hb5⟩:=hb;obtain⟨C,hC,h⟩:=h.out;refine xE hb1 hb5 ?_;have key:=Hr (P:=P) (Q:=Fi (Cd n Q)) (Q':=fun e a w=>match e with
   |.panic c=>mI n (pmX ms (fun σ ds w=>Q (.panic c) σ ds w)) a w
   |e=>Fi (Cd n Q) e a w) (a:=a) (w:=w) (l:=ops.toList) (C:=C) (aQ P ops.toList) ms hs (by rw[harr];exact hb2) hC
   (fun p hp=>tR (hm0 hp)) (fun p hp=>tR (hh0 hp))
   (fun e a w he=>by
    cases e<;>first|exact he|skip
    obtain⟨σ,hr,h⟩:=he;exact⟨σ,hr,FB ms h⟩)
   (fun p hp v c a w he=>by
    obtain⟨σ',hr',h'⟩:=he;have hin:inB n p.2.dst=true:=by
     have:∀l:List (Nat×Oper),inBs n l=true->p∈l->inB n p.2.dst=true:=by
      intro l
      induction l with
     |nil=>intro _ h;cases h
     |cons q l ih=>
       intro h1 h2;simp only[inBs,ahR] at h1;rcases ahG.1 h2 with rfl|h2
       ·exact h1.1
       ·exact ih h1.2 h2
     exact this ms hb3 hp
    cases hd:p.2.dst with
   |none=>rw[hd] at hr' h';exact⟨σ',hr',h'⟩
   |some i=>
     rw[hd] at hr' h' hin;refine⟨put σ' (some i) (a.tmps.getD i undef),?_,?_⟩
     ·have:=Rep.put (a:=a.put (some i) v) hr' hin (a.tmps.getD i undef);have e2:((a.put (some i) v).put (some i) (a.tmps.getD i undef)).tmps=a.tmps:=by
       have hi:i < a.tmps.size:=by
        have h3:a.tmps.size=n:=by have:=hr'.size;simpa[Act.put] using this
        have h4:i < n:=by simpa[inB,Nat.blt_eq] using hin
        rw[h3];exact h4
       simp only[Act.put];apply aoW;intro j;by_cases hij:i=j
       ·subst hij;simp[hi]
       ·rw[alJ hij,alJ hij]
      rwa [e2] at this
     ·have:=ME (K:=fun σ ds w=>Q (.panic c) σ ds w) (a.tmps.getD i undef) p ms hp h';rw[hd] at this;exact this) (by
   rw[harr];refine FQ (ds:=a.defers) (fun σ1 a1 hr1 hd1 hk1=>?_) ms σ a hr rfl h;refine pW (ds:=a.defers) (K:=fun σ=>∀w',C w'->opsX P none n ops (fun σ ds w=>Q .normal σ ds w) (fun c=>pmX ms (fun σ ds w=>Q (.panic c) σ ds w)) (ops.toList.drop (aQ P ops.toList)) σ a.defers w') ?_ _ σ1 a1 hr1 hd1 hk1;intro σ' a' hr' hds hk w' hw';refine AX (K:=fun σ ds w=>Q .normal σ ds w) (PK:=fun c=>pmX ms (fun σ ds w=>Q (.panic c) σ ds w)) ?_ ?_ _ σ' a' w' hb4 hr' (by rw[hds];exact hk w' hw')
   ·rintro c a w h;exact h
   ·rintro a w ⟨σ,hr,h⟩;exact⟨σ,hr,h⟩)
  rw[harr] at key;exact key
theorem Ch {n:Nat}{al:List (Nat×List Nat)}:∀(c:Code) (ro:Option Nat) (Q:Ex) (σ:Sg) (a:Act) (w:World),Rep n σ a.tmps->wpX P n aj al ro c Q σ a.defers w->c.wpIn (Fr ro) 0 P (Cd n Q) a w:=by
 intro c
 induction c with
|skip=>intro ro Q σ a w hr h;exact wpIn_skip ⟨σ,hr,h⟩
|exit id=>intro ro Q σ a w hr h;exact wpIn_exit ⟨σ,hr,h⟩
|ret=>intro ro Q σ a w hr h;exact wpIn_ret ⟨σ,hr,h⟩
|region id ops draw=>
  intro ro Q σ a w hr h;unfold wpX at h;cases draw with
 |false=>
   rw[aD] at h;refine wpIn_region_list (P8 (K:=fun σ ds w=>Q .normal σ ds w) (PK:=fun c σ ds w=>Q (.panic c) σ ds w) ?_ ?_ _ σ a w hr h)
   ·rintro c a w ⟨σ,hr,h⟩;exact⟨σ,hr,h⟩
   ·rintro a w ⟨σ,hr,h⟩;exact⟨σ,hr,h⟩
 |true=>
   rw[aF] at h;have harr:ops.toList.toArray=ops:=sm
   cases hw:Jg P n ops with
  |true=>rw[hw,aF] at h;exact Ee hr h
  |false=>
   rw[hw,aD] at h;cases hh:Nat.beq (aQ P ops.toList) ops.toList.length with
  |true=>
    rw[hh,aF] at h;cases hb:(P.follows .mixedOrders&&(Region.lexB .any ops&&oZ ops.toList)) with
   |false=>rw[hb,aD] at h;exact FX hr h
   |true=>
     rw[hb,aF] at h;simp only[ahR] at hb;obtain⟨C,hC,h⟩:=h.out;refine xE hb.1 hb.2.2 (SO (C:=C) hb.2.1 hC ?_);refine pW (ds:=a.defers) (K:=fun σ=>∀w',C w'->Q .normal σ a.defers w') ?_ _ σ a hr rfl h;intro σ' a' hr' hds hk w' hw';exact⟨σ',hr',by rw[hds];exact hk w' hw'⟩
  |false=>
    rw[hh,aD] at h;cases hb:(P.follows .mixedOrders&&(Region.lexTailB .any ops (aQ P ops.toList)&&(zT P (ops.toList.drop (aQ P ops.toList))&&oZ ops.toList))) with
   |false=>
     rw[hb,aD] at h;clear hb;have hm0:=QW (ops.toList.take (aQ P ops.toList)) 0 [];have hh0:=Ti (ops.toList.take (aQ P ops.toList)) 0 [];generalize mvL (ops.toList.take (aQ P ops.toList)) 0 []=ms at *;generalize hdL (ops.toList.take (aQ P ops.toList)) 0 []=hs at *;cases hb:(P.follows .mixedOrders&&(LI ops (aQ P ops.toList) ms hs&&(inBs n ms&&(zT P (ops.toList.drop (aQ P ops.toList))&&oZ ops.toList)))) with
    |false=>
      rw[hb,aD] at h;exact FX hr h
    |true=>
      rw[hb,aF] at h;simp only[ahR] at hb;obtain⟨hb1,hb2,hb3,hb4,hb5⟩:=hb;obtain⟨C,hC,h⟩:=h.out;obtain⟨hr1,hd1⟩:=La ms σ a hb3 hr;refine xE hb1 hb5 ?_;have key:=HD (P:=P) (Q:=Fi (Cd n Q)) (Q':=fun e a w=>match e with
       |.panic c=>mI n (pmX ms (fun σ ds w=>Q (.panic c) σ ds w)) a w
       |e=>Fi (Cd n Q) e a w) (a:=a) (w:=w) (l:=ops.toList) (C:=C) (aQ P ops.toList) ms hs (by rw[harr];exact hb2) hC
       (fun p hp=>tR (hm0 p hp).2) (fun p hp=>tR (hh0 p hp).2)
       (fun e a w he=>by
        cases e<;>first|exact he|skip
        obtain⟨σ,hr,h⟩:=he;exact⟨σ,hr,FB ms h⟩)
       (fun p hp v c a w he=>by
        obtain⟨σ',hr',h'⟩:=he;have hin:inB n p.2.dst=true:=by
         have:∀l:List (Nat×Oper),inBs n l=true->p∈l->inB n p.2.dst=true:=by
          intro l
          induction l with
         |nil=>intro _ h;cases h
         |cons q l ih=>
           intro h1 h2;simp only[inBs,ahR] at h1;rcases ahG.1 h2 with rfl|h2
           ·exact h1.1
           ·exact ih h1.2 h2
         exact this ms hb3 hp
        cases hd:p.2.dst with
       |none=>rw[hd] at hr' h';exact⟨σ',hr',h'⟩
       |some i=>
         rw[hd] at hr' h' hin;refine⟨put σ' (some i) (a.tmps.getD i undef),?_,?_⟩
         ·have:=Rep.put (a:=a.put (some i) v) hr' hin (a.tmps.getD i undef);have e2:((a.put (some i) v).put (some i) (a.tmps.getD i undef)).tmps=a.tmps:=by
           have hi:i < a.tmps.size:=by
            have h3:a.tmps.size=n:=by have:=hr'.size;simpa[Act.put] using this
            have h4:i < n:=by simpa[inB,Nat.blt_eq] using hin
            rw[h3];exact h4
           simp only[Act.put];apply aoW;intro j;by_cases hij:i=j
           ·subst hij;simp[hi]
           ·rw[alJ hij,alJ hij]
          rwa [e2] at this
         ·have:=ME (K:=fun σ ds w=>Q (.panic c) σ ds w) (a.tmps.getD i undef) p ms hp h';rw[hd] at this;exact this) (by
       rw[harr];refine pW (ds:=a.defers) (K:=fun σ=>∀w',C w'->opsX P none n ops (fun σ ds w=>Q .normal σ ds w) (fun c=>pmX ms (fun σ ds w=>Q (.panic c) σ ds w)) (ops.toList.drop (aQ P ops.toList)) σ a.defers w') ?_ _ (Px ms σ) (jF ms a) hr1 hd1 h;intro σ' a' hr' hds hk w' hw';refine AX (K:=fun σ ds w=>Q .normal σ ds w) (PK:=fun c=>pmX ms (fun σ ds w=>Q (.panic c) σ ds w)) ?_ ?_ _ σ' a' w' hb4 hr' (by rw[hds];exact hk w' hw')
       ·rintro c a w h;exact h
       ·rintro a w ⟨σ,hr,h⟩;exact⟨σ,hr,h⟩)
      rw[harr] at key;exact key
   |true=>
     rw[hb,aF] at h;simp only[ahR] at hb;obtain⟨hb1,hb2,hb4,hb5⟩:=hb;obtain⟨C,hC,h⟩:=h.out;refine xE hb1 hb5 ?_;have key:=Hu (P:=P) (Q:=Fi (Cd n Q)) (a:=a) (w:=w) (l:=ops.toList) (C:=C) (aQ P ops.toList) (by rw[harr];exact hb2) hC (by
      rw[harr];refine pW (ds:=a.defers) (K:=fun σ=>∀w',C w'->opsX P none n ops (fun σ ds w=>Q .normal σ ds w) (fun c σ ds w=>Q (.panic c) σ ds w) (ops.toList.drop (aQ P ops.toList)) σ a.defers w') ?_ _ σ a hr rfl h;intro σ' a' hr' hds hk w' hw';refine AX (K:=fun σ ds w=>Q .normal σ ds w) (PK:=fun c σ ds w=>Q (.panic c) σ ds w) ?_ ?_ _ σ' a' w' hb4 hr' (by rw[hds];exact hk w' hw')
      ·rintro c a w ⟨σ,hr,h⟩;exact⟨σ,hr,h⟩
      ·rintro a w ⟨σ,hr,h⟩;exact⟨σ,hr,h⟩)
     rw[harr] at key;exact key
|seq x y ihx ihy=>
  intro ro Q σ a w hr h;unfold wpX at h;refine wpIn_seq ?_;cases hw:Nat.ble (ways x) 1 with
 |true=>
   rw[hw,aF] at h;refine Code.wpIn_mono ?_ (ihx _ _ σ a w hr h);rintro e a' w' ⟨σ',hr',hk⟩;cases e with
  |normal=>exact ihy _ _ σ' a' w' hr' hk
  |_=>exact⟨σ',hr',hk⟩
 |false=>
   rw[hw,aD] at h;cases hm:mkB ro x with
  |true=>
    rw[hm,aF] at h;have h':=h.out (fun ds' vs w'=>∀j,wpX P n aj al ro y Q (mix σ (asg x) (look (keyOf y) aj) vs j) ds' w') (fun _ _ _ hr=>hr);have h'':=wpX.dZ x _ (fun e σ' ds' w'=>Off (asg x) σ σ'∧JY Q (fun σ' ds' w'=>(∀j,wpX P n aj al ro y Q (mix σ (asg x) (look (keyOf y) aj) (pick (look (keyOf y) aj) σ') j) ds' w')) e σ' ds' w') (asg x) σ (fun i hi=>hi) (fun e σ' ds' w' ho hk=>⟨ho,hk⟩) σ a.defers w (Off.refl _ _) h';refine Code.wpIn_mono ?_ (ihx _ _ σ a w hr h'');rintro e a' w' ⟨σ',hr',ho,hk⟩;cases e with
   |normal=>
     have hk:∀j,wpX P n aj al ro y Q (mix σ (asg x) (look (keyOf y) aj) (pick (look (keyOf y) aj) σ') j) a'.defers w':=hk;have:=hk σ';rw[FD ho] at this;exact ihy _ _ σ' a' w' hr' this
   |_=>exact⟨σ',hr',hk⟩
  |false=>
   rw[hm,aD] at h;have h':=h.out (fun vs w'=>∀j,wpX P n aj al ro y Q (mix σ (asg x) (look (keyOf y) aj) vs j) a.defers w') (fun _ _ hr=>hr);have h'':=wpX.dZ x _ (fun e σ' ds' w'=>Off (asg x) σ σ'∧JY Q (fun σ' ds' w'=>AtX ds' a.defers (∀j,wpX P n aj al ro y Q (mix σ (asg x) (look (keyOf y) aj) (pick (look (keyOf y) aj) σ') j) a.defers w')) e σ' ds' w') (asg x) σ (fun i hi=>hi) (fun e σ' ds' w' ho hk=>⟨ho,hk⟩) σ a.defers w (Off.refl _ _) h';refine Code.wpIn_mono ?_ (ihx _ _ σ a w hr h'');rintro e a' w' ⟨σ',hr',ho,hk⟩;cases e with
  |normal=>
    obtain⟨hds,hk⟩:=hk.out;have:=hk σ';rw[FD ho,<-hds] at this;exact ihy _ _ σ' a' w' hr' this
  |_=>exact⟨σ',hr',hk⟩
|cond c x y ihx ihy=>
  intro ro Q σ a w hr h;unfold wpX at h
  replace h:=h.out
  split at h
  ·rename_i b hb
   refine wpIn_cond_split (t:=b) (by rw[hr.eval];exact hb) (fun ht=>ihx _ _ σ a w hr (h.1 ht)) (fun ht=>ihy _ _ σ a w hr (h.2 ht))
  ·exact h.elim
|block id x ihx=>
  intro ro Q σ a w hr h;unfold wpX at h;refine wpIn_block (Code.wpIn_mono ?_ (ihx _ _ σ a w hr h));rintro e a' w' ⟨σ',hr',hk⟩;cases e with
 |exit j=>
   simp only[Exit.inBlock];rw[FZ] at hk;cases hb:Nat.beq j id with
  |true=>rw[hb,aF] at hk;rw[agW (beq_iff.1 hb)];exact⟨σ',hr',hk⟩
  |false=>
    rw[hb,aD] at hk;rw[agV (fun e=>by rw[beq_iff.2 e] at hb;cases hb)];exact⟨σ',hr',hk⟩
 |_=>exact⟨σ',hr',hk⟩
|loop x ihx=>
  intro ro Q σ a w hr h;unfold wpX at h;cases hm:mkB ro x with
 |true=>
   rw[hm,aF] at h;obtain⟨I,μ,h0,hs⟩:=h.out;refine wpIn_loop (fun a' w'=>∃σ',Rep n σ' a'.tmps∧Off (asg x) σ σ'∧I a'.defers (pick (look (keyOf x) al) σ') w')
    (fun a' w'=>μ (pick (look (keyOf x) al) (fun i=>a'.tmps.getD i undef)) w') ⟨σ,hr,Off.refl _ _,h0⟩ ?_
   rintro a' w' ⟨σ',hr',ho,hI⟩;have e1:(fun i=>a'.tmps.getD i undef)=σ':=funext hr'.get;have h1:=hs _ _ w' hI σ';rw[FD ho] at h1;have h2:=wpX.dZ x _ (fun e σ'' ds' w''=>Off (asg x) σ σ''∧JY Q (fun σ'' ds' w''=>(I ds' (pick (look (keyOf x) al) σ'') w''∧μ (pick (look (keyOf x) al) σ'') w'' < μ (pick (look (keyOf x) al) σ') w')) e σ'' ds' w'')
    (asg x) σ (fun i hi=>hi) (fun e σ' ds' w' ho hk=>⟨ho,hk⟩) σ' a'.defers w' ho h1
   refine Code.wpIn_mono ?_ (ihx _ _ σ' a' w' hr' h2);rintro e a'' w'' ⟨σ'',hr'',ho'',hk⟩;cases e with
  |normal=>
    obtain⟨k2,k3⟩:I a''.defers (pick (look (keyOf x) al) σ'') w''∧μ (pick (look (keyOf x) al) σ'') w'' < μ (pick (look (keyOf x) al) σ') w':=hk;refine⟨⟨σ'',hr'',ho'',k2⟩,?_⟩;have e2:(fun i=>a''.tmps.getD i undef)=σ'':=funext hr''.get;rw[e1,e2];exact k3
  |_=>exact⟨σ'',hr'',hk⟩
 |false=>
  rw[hm,aD] at h;obtain⟨I,μ,h0,hs⟩:=h.out;refine wpIn_loop (fun a' w'=>∃σ',Rep n σ' a'.tmps∧a'.defers=a.defers∧Off (asg x) σ σ'∧I (pick (look (keyOf x) al) σ') w')
   (fun a' w'=>μ (pick (look (keyOf x) al) (fun i=>a'.tmps.getD i undef)) w') ⟨σ,hr,rfl,Off.refl _ _,h0⟩ ?_
  rintro a' w' ⟨σ',hr',hds,ho,hI⟩;have e1:(fun i=>a'.tmps.getD i undef)=σ':=funext hr'.get;have h1:=hs _ w' hI σ';rw[FD ho] at h1;have h2:=wpX.dZ x _ (fun e σ'' ds' w''=>Off (asg x) σ σ''∧JY Q (fun σ'' ds' w''=>AtX ds' a.defers (I (pick (look (keyOf x) al) σ'') w''∧μ (pick (look (keyOf x) al) σ'') w'' < μ (pick (look (keyOf x) al) σ') w')) e σ'' ds' w'')
   (asg x) σ (fun i hi=>hi) (fun e σ' ds' w' ho hk=>⟨ho,hk⟩) σ' a.defers w' ho h1
  rw[<-hds] at h2;refine Code.wpIn_mono ?_ (ihx _ _ σ' a' w' hr' h2);rintro e a'' w'' ⟨σ'',hr'',ho'',hk⟩;cases e with
 |normal=>
   obtain⟨k1,k2,k3⟩:=hk.out;refine⟨⟨σ'',hr'',k1.trans hds,ho'',k2⟩,?_⟩;have e2:(fun i=>a''.tmps.getD i undef)=σ'':=funext hr''.get;rw[e1,e2];exact k3
 |_=>exact⟨σ'',hr'',hk⟩
|rangeFunc g ps asn b iha ihb=>
  intro ro Q σ a w hr h;unfold wpX at h;cases hl:LJ n ps.toList with
 |false=>rw[hl,aD] at h;exact h.elim
 |true=>
   rw[hl,aF] at h;obtain⟨f,fa,ca,df,w0,h1,h2,h3,h4⟩:=h.out;exact MS hr hl h1 h2 h3 (fun L0 hL0 hY=>h4 L0 hL0 hY) iha ihb
|scope x _=>intro ro Q σ a w hr h;exact h.elim
|label l=>intro ro Q σ a w hr h;exact h.elim
|goto l=>intro ro Q σ a w hr h;exact h.elim
|refuse y=>intro ro Q σ a w hr h;exact h.elim
inductive RV where
|val (v:Value)
|cell (a:Value) (T:TypeId)
def RV.of (σ:Sg):ResultVar->RV
|.tmp t=>.val (σ t)
|.cell a t=>.cell (σ a) t
def RV.read:RV->Sem Value
|.val v=>pure v
|.cell a t=>do loadVar t (<-asAddr a)
def rvOf (σ:Sg):List ResultVar->List RV
|[]=>[]
|r::l=>RV.of σ r::rvOf σ l
def KN:List RV->Option (List Value)
|[]=>some []
|.val v::l=>(KN l).map (v::·)
|.cell ..::_=>none
def tup:List Value->Value
|[v]=>v
|l=>.tuple l.toArray
def Cv (rs:List RV):Sem Value:=do
 let vs <-rs.toArray.mapM RV.read
 pure (if h:vs.size=1 then vs[0] else .tuple vs)
structure RetX (P:Program) (rs:List RV) (w:World) (K:Ending->World->Prop):Prop where
 mk ::
 out:∃v,(Cv rs).run P w=.ok v w∧K (.returned v) w
def RetD (P:Program)(rs:List RV)(w:World)(K:Ending->World->Prop):Prop:=
 match KN rs with
|some l=>K (.returned (tup l)) w
|none=>RetX P rs w K
def AR (P:Program)(rs:List RV)(K:Ending->World->Prop):List Deferred->FrameMode->World->Prop
|[],.returning,w=>RetD P rs w K
|[],.panicking c,w=>K (.panicked c) w
|[],.run,_=>False
|d::ds,u,w=>u≠.run∧∃fv cap f args,d.target=.fn fv cap∧(invoke d.target d.args).run P w=.ok (.enter f args) w ∧
   CallsD P f args u w fun
   |.returned _,u',w'=>AR P rs K ds (settle u') w'
   |.panicked chain,u',w'=>AR P rs K ds (raised u' chain) w'
   |.outgrown,_,_=>False
def Eo (P:Program)(rs:List RV)(K:Ending->World->Prop):List Deferred->FrameMode->World->Prop
|[],.returning,w=>RetD P rs w K
|[],.panicking c,w=>K (.panicked c) w
|[],.run,_=>False
|d::ds,u,w=>u≠.run∧∃r w',d.target=.collected r∧(Instr.takeDeferred r).run P w=.ok [] w'∧Eo P rs K ds u w'
def topM (P:Program)(rs:List ResultVar)(K:Ending->World->Prop):Ex
|.normal,σ,ds,w=>Eo P (rvOf σ rs) K ds .returning w
|.ret,σ,ds,w=>Eo P (rvOf σ rs) K ds .returning w
|.panic c,σ,ds,w=>Eo P (rvOf σ rs) K ds (.panicking c) w
|_,_,_,_=>False
def topQ (P:Program)(rs:List ResultVar)(K:Ending->World->Prop):Ex
|.normal,σ,ds,w=>AR P (rvOf σ rs) K ds .returning w
|.ret,σ,ds,w=>AR P (rvOf σ rs) K ds .returning w
|.panic c,σ,ds,w=>AR P (rvOf σ rs) K ds (.panicking c) w
|_,_,_,_=>False
def jW (args:List Value):Sg:=fun i=>args.getD i undef
theorem zF {n:Nat}{σ:Sg}{t:Array Value}(h:Rep n σ t)(fn:Func):results fn t=Cv (rvOf σ fn.results.toList):=by
 have e:∀l:List ResultVar,(rvOf σ l).mapM RV.read=l.mapM (fun r=>match r with
  |.tmp t'=>(pure (t.getD t' undef):Sem Value)
  |.cell a ty=>do loadVar ty (<-asAddr (t.getD a undef))):=by
  intro l
  induction l with
 |nil=>rfl
 |cons r l ih=>
   simp only[rvOf,List.mapM_cons];rw[ih];cases r<;>simp only[RV.of,RV.read]<;>rw[h.get]
 unfold results Cv
 congr 1
 rw[<-Array.toArray_toList (xs:=fn.results)];rw[List.mapM_toArray,List.mapM_toArray,e];rfl
theorem Qr {rs:List RV}{l:List Value}(h:KN rs=some l):rs.mapM RV.read=(pure l:Sem (List Value)):=by
 induction rs generalizing l with
|nil=>cases h;rfl
|cons r rs ih=>
  cases r with
 |cell a t=>cases h
 |val v=>
   unfold KN at h;cases hr:KN rs with
  |none=>rw[hr] at h;cases h
  |some l'=>
    rw[hr] at h;cases h;rw[List.mapM_cons,ih hr];rfl
theorem Fu {rs:List RV}{K:Ending->World->Prop}(h:RetD P rs w K):∃v,(Cv rs).run P w=.ok v w∧K (.returned v) w:=by
 unfold RetD at h;split at h
 ·rename_i l hl
  refine⟨tup l,?_,h⟩;unfold Cv;rw[List.mapM_toArray,Qr hl];simp only[pure,bind,Sem.bind,Sem.run,Functor.map]
  congr 1
  cases l with
 |nil=>rfl
 |cons v l=>
   cases l with
  |nil=>rfl
  |cons v' l=>simp[tup,Sem.bind,Sem.run]
 ·exact h.out
theorem yX {n:Nat}{σ:Sg}{t:Array Value}(hr:Rep n σ t)(fn:Func){K:Ending->World->Prop}:∀(ds:List Deferred) (u:FrameMode) (w:World),
  AR P (rvOf σ fn.results.toList) K ds u w->Leaves P fn t K ds u w:=by
 intro ds
 induction ds with
|nil=>
  intro u w h;cases u with
 |run=>exact h.elim
 |returning=>
   obtain⟨v,h1,h2⟩:=Fu h;exact⟨v,by rw[zF hr];exact h1,h2⟩
 |panicking c=>exact h
|cons d ds ih=>
  intro u w h;obtain⟨h1,fv,cap,f,args,h2,h3,h4⟩:=h;refine⟨h1,fv,cap,f,args,h2,h3,h4.mono ?_⟩;intro e u' w' hk;cases e with
 |returned v=>exact ih _ _ hk
 |panicked c=>exact ih _ _ hk
 |outgrown=>exact hk.elim
theorem tG {n:Nat}{σ:Sg}{t:Array Value}(hr:Rep n σ t)(fn:Func){K:Ending->World->Prop}:∀(ds:List Deferred) (u:FrameMode) (w:World),
  Eo P (rvOf σ fn.results.toList) K ds u w->LeavesInM Fence.wide 0 P fn t K ds u w:=by
 intro ds
 induction ds with
|nil=>
  intro u w h;cases u with
 |run=>exact h.elim
 |returning=>
   obtain⟨v,h1,h2⟩:=Fu h;exact⟨v,by rw[zF hr];exact h1,h2⟩
 |panicking c=>exact h
|cons d ds ih=>
  intro u w h;obtain⟨h1,r,w',htar,htake,hrest⟩:=h;exact⟨h1,.inl ⟨r,w',htar,htake,ih _ _ hrest⟩⟩
theorem Bv {args:List Value}{n:Nat}(h:Nat.ble args.length n=true):Rep n (jW args) (args.toArray++Array.replicate (n - args.toArray.size) undef):=by
 have h':args.length<=n:=by simpa[Nat.ble_eq] using h
 refine⟨by simp;omega,fun i=>?_⟩;unfold jW;rw[aoV,ahC,Array.getElem?_append];split
 ·simp
 ·rename_i hi
  simp only[List.size_toArray,Nat.not_lt] at hi;rw[ajD hi,Array.getElem?_replicate];split<;>rfl
theorem Ez {f:FuncId}{c:Code}{args:List Value}{K:Ending->World->Prop}{n:Nat}{al:List (Nat×List Nat)}{rs:List ResultVar}
  (hf:P.funcs[f]?=some fn) (hb:fn.body=some c) (hn:fn.ntmps=n) (hrs:fn.results.toList=rs) (hl:Nat.ble args.length n=true)
  (h:wpX P n aj al none c (topQ P rs K) (jW args) [] w):Calls P f args.toArray w K:=by
 refine calls_of_wp_defers hf hb ?_;rw[hn];refine Code.wp_mono ?_ (wpIn_wide.1 (Ch c none _ (jW args) _ w (Bv hl) h));rintro e a w' ⟨σ,hr,hk⟩;subst hrs;cases e with
|normal=>exact yX hr fn _ _ _ hk
|ret=>exact yX hr fn _ _ _ hk
|panic ch=>exact yX hr fn _ _ _ hk
|exit id=>exact hk.elim
|goto l=>exact hk.elim
|outgrown=>exact hk.elim
theorem K6 {f:FuncId}{c:Code}{args:List Value}{K:Ending->World->Prop}{n:Nat}{al:List (Nat×List Nat)}{rs:List ResultVar}
  (hf:P.funcs[f]?=some fn) (hb:fn.body=some c) (hn:fn.ntmps=n) (hrs:fn.results.toList=rs) (hl:Nat.ble args.length n=true)
  (h:wpX P n aj al none c (topM P rs K) (jW args) [] w):Calls P f args.toArray w K:=by
 refine (callsIn_wide (n:=0)).1 (callsIn_of_wp_marks hf hb trivial ?_);rw[hn];refine Code.wpIn_mono ?_ (Ch c none _ (jW args) _ w (Bv hl) h);rintro e a w' ⟨σ,hr,hk⟩;subst hrs;cases e with
|normal=>exact tG hr fn _ _ _ hk
|ret=>exact tG hr fn _ _ _ hk
|panic ch=>exact tG hr fn _ _ _ hk
|exit id=>exact hk.elim
|goto l=>exact hk.elim
|outgrown=>exact hk.elim
end Eng
end
namespace Eng
def Ag (fn:Func):Code:=fn.body.getD .skip
def dfrV (v:Value)(args:Array Value):Option Deferred:=
 match v with
|.func fn first captured=>some { target:=.fn fn captured,args:=first++args }
|_=>none
def pk (K:Ending->World->Prop):PKT:=fun c w=>K (.panicked c) w
def pd (P:Program)(rs:List RV)(K:Ending->World->Prop)(ds:List Deferred):PKT:=fun c w=>AR P rs K ds (.panicking c) w
def pdM (P:Program)(rs:List RV)(K:Ending->World->Prop)(ds:List Deferred):PKT:=fun c w=>Eo P rs K ds (.panicking c) w
def pkR:PKT:=fun _ _=>False
def pm1 (PK:PKT):PKT:=fun c w=>∀_:Value,PK c w
def VQ:Code->Code
|.seq _ b=>b
|c=>c
def recV:FrameMode->Value
|.panicking ({ v,recovered:=false,goexit:=false }::_)=>v
|_=>.nilIface
def recM:FrameMode->FrameMode
|.panicking ({ v,recovered:=false,goexit:=false }::older)=>.panicking ({ v,recovered:=true }::older)
|u=>u
def topD (P:Program)(rs:List ResultVar)(K:Ending->World->Prop):Ex
|.normal,σ,[],w=>RetD P (rvOf σ rs) w K
|.ret,σ,[],w=>RetD P (rvOf σ rs) w K
|.panic c,_,[],w=>K (.panicked c) w
|_,_,_,_=>False
theorem rec_eq (c₀:Frame)(cs:List Frame):(match recoverD (c₀::cs) with
 |some (v,cs')=>(v,cs')
 |none=>(.nilIface,c₀::cs))=(recV c₀.mode,{ c₀ with mode:=recM c₀.mode }::cs):=by
 have e0:({ c₀ with mode:=c₀.mode }:Frame)=c₀:=rfl;cases hm:c₀.mode with
|run=>simp[recoverD,recV,recM,hm];rw[<-hm]
|returning=>simp[recoverD,recV,recM,hm];rw[<-hm]
|panicking ch=>
  cases ch with
 |nil=>simp[recoverD,recV,recM,hm];rw[<-hm]
 |cons e older=>
   obtain⟨v,r,g⟩:=e;cases r<;>cases g<;>simp[recoverD,recV,recM,hm]<;>rw[<-hm]
theorem qK {f:FuncId}{o:Oper}{rest:Code}{args:List Value}{n:Nat}{al:List (Nat×List Nat)}{rs:List ResultVar}
  (hf:P.funcs[f]?=some fn) (hb:fn.body=some (.seq (.region id #[o] false) rest)) (ho:o.op=.call { callee:=.builtin .recover,args:=#[],argTypes:=#[] }) (hg:o.guard=none) (hd:o.dst=some d) (hdn:Nat.blt d n=true)
  (hn:fn.ntmps=n) (hrs:fn.results.toList=rs) (hl:Nat.ble args.length n=true)
  (h:wpX P n aj al none rest (topD P rs (fun e w'=>R e (recM u) w')) (upd (jW args) d (recV u)) [] w):CallsD P f args.toArray u w R:=by
 refine callsD_of_wpS hf hb fun c₀ cs hu=>?_;rw[hn];refine wpS_seq (wpS_region ?_);have hex:∀ρ:Operand->Value,(execOp ρ o).run P w=.ok .recover w:=by
  intro ρ;unfold execOp;rw[ho];simp[resolve,invoke,builtin,bind,pure,Sem.bind,Sem.run]
 have hrep:=Bv (args:=args) hl;have hput:Rep n (upd (jW args) d (recV u)) (({ tmps:=args.toArray++Array.replicate (n - args.toArray.size) undef,defers:=[] }:Act).put o.dst (recV u)).tmps:=by
  rw[hd];exact Rep.put (a:={ tmps:=args.toArray++Array.replicate (n - args.toArray.size) undef,defers:=[] }) hrep (d:=some d) hdn (recV u)
 have key:Exit.thenS (rest.wpS P (bodyPostS P fn c₀ cs R)) (bodyPostS P fn c₀ cs R) .normal (({ tmps:=args.toArray++Array.replicate (n - args.toArray.size) undef,defers:=[] }:Act).put o.dst (recV u)) ({ c₀ with mode:=recM u }::cs) w:=by
  refine wpS_of_wp (Code.wp_mono ?_ (wpIn_wide.1 (Ch rest none _ _ _ w hput (by rw[hd];exact h))));rintro e a w' ⟨σ,hr,hk⟩;have hdd:∀K:Ending->World->Prop,RetD P (rvOf σ rs) w' K->∃v,(results fn a.tmps).run P w'=.ok v w'∧K (.returned v) w':=fun K hk=>by
   rw[zF hr,hrs];exact Fu hk
  generalize hds:a.defers=ds at hk;cases e<;>cases ds<;>first|(exact hk.elim;done)|skip
  ·obtain⟨v,h1,h2⟩:=hdd (fun e w'=>R e (recM u) w') hk;exact⟨hds,recM u,rfl,v,h1,h2⟩
  ·obtain⟨v,h1,h2⟩:=hdd (fun e w'=>R e (recM u) w') hk;exact⟨hds,recM u,rfl,v,h1,h2⟩
  ·exact⟨hds,recM u,rfl,hk⟩
 have e:=rec_eq c₀ cs;rw[hu] at e;show wpOpsS P #[o] _ [0] _ (c₀::cs) w;unfold wpOpsS;simp only[aoX,amD];rw[agW (by simp[Region.wanted,hg])];rw[hex];cases hrc:recoverD (c₀::cs) with
|none=>
  rw[hrc] at e;simp only[akV] at e;simp only[wpOpsS];rw[e.1,e.2];exact key
|some x=>
  obtain⟨v,cs'⟩:=x;rw[hrc] at e;simp only[akV] at e;simp only[wpOpsS];rw[e.1,e.2];exact key
end Eng
section
namespace Eng
open Go.RowKit
section
variable {P:Program}{w:World}{PK:PKT}{K:VWP}
theorem aE {m:Sem Next}(h:m.run P w=.ok (.value v) w'):DoX P m w PK K=K v w':=
 propext ⟨fun x=>by have:=x.out;rw[h] at this;exact this,fun x=>⟨by rw[h];exact x⟩⟩
theorem jU {m:Sem Next}(h:m.run P w=.ok (.value v) w')(k:K v w'):DoX P m w PK K:=(aE h).mpr k
theorem DF {m:Sem Next}(h:m.run P w=.ok .skip w')(k:K undef w'):DoX P m w PK K:=⟨by rw[h];exact k⟩
theorem UF {m:Sem Next}(h:m.run P w=.halt (.panic v) w'):DoX P m w PK K=PK [{ v,recovered:=false }] w':=
 propext ⟨fun x=>by have:=x.out;rw[h] at this;exact this,fun x=>⟨by rw[h];exact x⟩⟩
theorem bL {s:Sem Value}(h:s.run P w=.ok v w'):(mv s).run P w=.ok (.value v) w':=by
 simp[mv,h]
theorem IC {s:Sem Unit}(h:s.run P w=.ok () w'):(mu s).run P w=.ok .skip w':=by
 simp[mu,h]
theorem fJ {s:Sem Value}(h:s.run P w=.ok v w'):DoX P (mv s) w PK K=K v w':=aE (bL h)
theorem KF {T:TypeId}{k:IntKind}{a b:Int}:DoX P (mBin .add T (.int k a) (.int k b)) w PK K=K (.int k (k.wrap (a+b))) w:=fJ (by simp[binOp,Op.intArith])
theorem Zp {T:TypeId}{k:IntKind}{a b:Int}:DoX P (mBin .sub T (.int k a) (.int k b)) w PK K=K (.int k (k.wrap (a - b))) w:=fJ (by simp[binOp,Op.intArith])
theorem afC {T:TypeId}{k:IntKind}{a b:Int}:DoX P (mBin .mul T (.int k a) (.int k b)) w PK K=K (.int k (k.wrap (a*b))) w:=fJ (by simp[binOp,Op.intArith])
theorem aaY {T:TypeId}{k:IntKind}{a b:Int}:DoX P (mBin .lss T (.int k a) (.int k b)) w PK K=K (.bool (decide (a < b))) w:=fJ (by simp[binOp,Op.intCmp])
theorem Vu {T:TypeId}{k:IntKind}{a b:Int}:DoX P (mBin .leq T (.int k a) (.int k b)) w PK K=K (.bool (decide (a<=b))) w:=fJ (by simp[binOp,Op.intCmp])
theorem agJ {T:TypeId}{k:IntKind}{a b:Int}:DoX P (mBin .gtr T (.int k a) (.int k b)) w PK K=K (.bool (decide (b < a))) w:=fJ (by simp[binOp,Op.intCmp])
theorem afX {T:TypeId}{k:IntKind}{a b:Int}:DoX P (mBin .geq T (.int k a) (.int k b)) w PK K=K (.bool (decide (b<=a))) w:=fJ (by simp[binOp,Op.intCmp])
theorem PW {T:TypeId}{k:IntKind}{b:Int}:(mBin .add T (.int k a) (.int k b)).run P w=.ok (.value (.int k (k.wrap (a+b)))) w:=bL (by simp[binOp,Op.intArith])
theorem E9 {T:TypeId}{k:IntKind}{b:Int}:(mBin .sub T (.int k a) (.int k b)).run P w=.ok (.value (.int k (k.wrap (a - b)))) w:=bL (by simp[binOp,Op.intArith])
theorem aaZ {T:TypeId}{k:IntKind}{b:Int}:(mBin .mul T (.int k a) (.int k b)).run P w=.ok (.value (.int k (k.wrap (a*b)))) w:=bL (by simp[binOp,Op.intArith])
theorem aeL {T:TypeId}{k:IntKind}{b:Int}(h:b≠0):(mBin .quo T (.int k a) (.int k b)).run P w=.ok (.value (.int k (k.wrap (a.tdiv b)))) w:=bL (by simp[binOp,Op.intDiv,h])
theorem TX {T:TypeId}{k:IntKind}{b:Int}(h:b≠0):DoX P (mBin .quo T (.int k a) (.int k b)) w PK K=K (.int k (k.wrap (a.tdiv b))) w:=fJ (by simp[binOp,Op.intDiv,h])
theorem Jo {T:TypeId}{k:IntKind}{b:Int}(h:b≠0):DoX P (mBin .rem T (.int k a) (.int k b)) w PK K=K (.int k (a.tmod b)) w:=fJ (by simp[binOp,Op.intDiv,h])
theorem TR (a b:Int):(a==b)=decide (a=b):=by by_cases h:a=b<;>simp[h]
theorem Yn (a b:Int):(a != b)=decide (a≠b):=by by_cases h:a=b<;>simp[h]
theorem abW {T:TypeId}{xo yo:Operand}{k:IntKind}{a b:Int}:DoX P (mEq .eql T xo yo (.int k a) (.int k b)) w PK K=K (.bool (decide (a=b))) w:=fJ (by simp[eqGuard,binOp,Op.intCmp,TR])
theorem U8 {T:TypeId}{xo yo:Operand}{k:IntKind}{a b:Int}:DoX P (mEq .neq T xo yo (.int k a) (.int k b)) w PK K=K (.bool (decide (a≠b))) w:=fJ (by simp[eqGuard,binOp,Op.intCmp,Yn])
theorem aeD {k:IntKind}{a:Int}:DoX P (mUn .neg (.int k a)) w PK K=K (.int k (k.wrap (-a))) w:=fJ (by simp[Op.unary,Op.intArith])
theorem Mo {b:Bool}:DoX P (mUn .not (.bool b)) w PK K=K (.bool (!b)) w:=fJ (by simp[Op.unary])
theorem Tm {S:TypeId}{k:IntKind}{n:Int}(hs:(P.underlying S).isSome=true)(hd:P.underlying D=some (.int k')):DoX P (gL S D (.int k n)) w PK K=K (.int k' (k'.wrap n)) w:=by
 cases h:P.underlying S with
|none=>rw[h] at hs;cases hs
|some d=>exact fJ (by simp[convert,run_underlying h,run_underlying hd,Conv.intToInt])
theorem Ix {c:Bool}{a b:Value}:DoX P (eS (.bool c) a b) w PK K=K (if c then a else b) w:=aE (by simp[eS,asBool])
theorem aaV {b:Bool}{E:(VWP)->Prop}:GDo (.bool b) true E w K=((b=true->E K)∧(b=false->K undef w)):=by
 refine propext ⟨fun x=>?_,fun x=>⟨?_⟩⟩
 ·have:=x.out;cases b
  ·exact⟨fun h=>(by cases h),fun _=>this⟩
  ·exact⟨fun _=>this,fun h=>(by cases h)⟩
 ·cases b
  ·exact x.2 rfl
  ·exact x.1 rfl
theorem X4 {b:Bool}{E:(VWP)->Prop}:GDo (.bool b) false E w K=((b=false->E K)∧(b=true->K undef w)):=by
 refine propext ⟨fun x=>?_,fun x=>⟨?_⟩⟩
 ·have:=x.out;cases b
  ·exact⟨fun _=>this,fun h=>(by cases h)⟩
  ·exact⟨fun h=>(by cases h),fun _=>this⟩
 ·cases b
  ·exact x.1 rfl
  ·exact x.2 rfl
theorem ZE {b:Bool}{A B:Prop}:IfX (.bool b) A B=((b=true->A)∧(b=false->B)):=propext ⟨fun x=>x.out,fun x=>⟨x⟩⟩
theorem g_tt {E:(VWP)->Prop}:GDo (.bool true) true E w K=E K:=propext ⟨fun x=>x.out,fun x=>⟨x⟩⟩
theorem g_ft {E:(VWP)->Prop}:GDo (.bool false) true E w K=K undef w:=propext ⟨fun x=>x.out,fun x=>⟨x⟩⟩
theorem g_ff {E:(VWP)->Prop}:GDo (.bool false) false E w K=E K:=propext ⟨fun x=>x.out,fun x=>⟨x⟩⟩
theorem g_tf {E:(VWP)->Prop}:GDo (.bool true) false E w K=K undef w:=propext ⟨fun x=>x.out,fun x=>⟨x⟩⟩
theorem i_t {A B:Prop}:IfX (.bool true) A B=A:=propext ⟨fun x=>x.out.1 rfl,fun x=>⟨⟨fun _=>x,fun h=>(by cases h)⟩⟩⟩
theorem i_f {A B:Prop}:IfX (.bool false) A B=B:=propext ⟨fun x=>x.out.2 rfl,fun x=>⟨⟨fun h=>(by cases h),fun _=>x⟩⟩⟩
theorem p_t {a b:Value}:DoX P (eS (.bool true) a b) w PK K=K a w:=Ix
theorem p_f {a b:Value}:DoX P (eS (.bool false) a b) w PK K=K b w:=Ix
theorem nn_t:(!true)=false:=rfl
theorem nn_f:(!false)=true:=rfl
theorem afG {p:Prop}[Decidable p]:(decide p=true)=p:=sm
theorem aeM {p:Prop}[Decidable p]:(decide p=false)=¬p:=sm
theorem agG {b:Bool}:((!b)=true)=(b=false):=sm
theorem adK {b:Bool}:((!b)=false)=(b=true):=sm
theorem aeB:(true=true)=True:=sm
theorem agQ:(true=false)=False:=sm
theorem agS:(false=true)=False:=sm
theorem adH:(false=false)=True:=sm
theorem dK (l:List UInt8):(⟨l.toArray⟩:ByteArray).size=l.length:=by simp[ByteArray.size]
theorem iP (l:List UInt8):(⟨l.toArray⟩:ByteArray).toList=l:=by
 rw[ByteArray.toList_eq]
theorem Po (a b:List UInt8):(⟨a.toArray⟩++⟨b.toArray⟩:ByteArray)=⟨(a++b).toArray⟩:=by
 apply ByteArray.ext;simp
theorem J9 {s:ByteArray}:s=⟨s.data.toList.toArray⟩:=by
 cases s;simp
theorem UN {T:TypeId}{a b:List UInt8}(h:a.length+b.length<=9223372036854775807):DoX P (mBin .add T (.string ⟨a.toArray⟩) (.string ⟨b.toArray⟩)) w PK K=K (.string ⟨(a++b).toArray⟩) w:=by
 refine fJ ?_;have e:IntKind.i64.max=9223372036854775807:=rfl;have e2:¬(((⟨a.toArray⟩:ByteArray).size+(⟨b.toArray⟩:ByteArray).size:Nat):Int)>IntKind.i64.max:=by rw[dK,dK,e];omega
 simp only[binOp,Op.stringOp,agV e2,Po];rfl
theorem HB {T:TypeId}{xo yo:Operand}{a b:List UInt8}:DoX P (mEq .eql T xo yo (.string ⟨a.toArray⟩) (.string ⟨b.toArray⟩)) w PK K=K (.bool (decide (a=b))) w:=by
 refine fJ ?_;have e:(a==b)=decide (a=b):=by by_cases h:a=b<;>simp[h]
 simp[eqGuard,binOp,Op.stringOp,iP,e]
theorem Qu {T:TypeId}{xo yo:Operand}{a b:List UInt8}:DoX P (mEq .neq T xo yo (.string ⟨a.toArray⟩) (.string ⟨b.toArray⟩)) w PK K=K (.bool (decide (a≠b))) w:=by
 refine fJ ?_;have e:(a==b)=decide (a=b):=by by_cases h:a=b<;>simp[h]
 simp[eqGuard,binOp,Op.stringOp,iP,e]
theorem acU {T:TypeId}{a b:List UInt8}:DoX P (mBin .lss T (.string ⟨a.toArray⟩) (.string ⟨b.toArray⟩)) w PK K=K (.bool (Op.bytesLess a b)) w:=fJ (by simp[binOp,Op.stringOp,iP])
theorem agF {T:TypeId}{a b:List UInt8}:DoX P (mBin .leq T (.string ⟨a.toArray⟩) (.string ⟨b.toArray⟩)) w PK K=K (.bool (Op.bytesLess a b||a==b)) w:=fJ (by simp[binOp,Op.stringOp,iP])
theorem aeN {T:TypeId}{a b:List UInt8}:DoX P (mBin .gtr T (.string ⟨a.toArray⟩) (.string ⟨b.toArray⟩)) w PK K=K (.bool (!(Op.bytesLess a b||a==b))) w:=fJ (by simp[binOp,Op.stringOp,iP])
theorem adX {T:TypeId}{a b:List UInt8}:DoX P (mBin .geq T (.string ⟨a.toArray⟩) (.string ⟨b.toArray⟩)) w PK K=K (.bool (!(Op.bytesLess a b))) w:=fJ (by simp[binOp,Op.stringOp,iP])
theorem fP {T:TypeId}{cs:Array Bool}{a:List UInt8}(h:P.underlying T=some .string):DoX P (mB .len #[T] U cs #[.string ⟨a.toArray⟩]) w PK K=K (.int .i64 (a.length:Int)) w:=by
 refine aE ?_;simp[mB,builtin,Builtin.len_,run_underlying h,goInt,dK]
theorem s_ix {T:TypeId}{k:IntKind}{i:Int}{a:List UInt8}{c:UInt8}(h:P.underlying T=some .string)(h0:0<=i)(hc:a[i.toNat]?=some c):DoX P (mIx T (.string ⟨a.toArray⟩) (.int k i)) w PK K=K (.int .u8 (c.toNat:Int)) w:=by
 refine fJ ?_;have e:(⟨a.toArray⟩:ByteArray)[i.toNat]?=some c:=by
  have hl:i.toNat < a.length:=(ahQ.1 hc).1;have h1:i.toNat < (⟨a.toArray⟩:ByteArray).size:=by rw[dK];exact hl
  rw[getElem?_pos (⟨a.toArray⟩:ByteArray) i.toNat h1];have h2:=(ahQ.1 hc).2;rw[<-h2];rfl
 simp only[Instr.index,asIntOf,run_underlying h,h0,e];simp[h0,e,run_underlying h]
theorem WZ {T:TypeId}{a:List UInt8}{k:IntKind}(h:P.underlying T=some .string)(h0:0<=lo)(h1:lo<=hi)(h2:hi<=a.length) :
  DoX P (dB T (.string ⟨a.toArray⟩) (some (.int k lo)) (some (.int k' hi)) none) w PK K=K (.string ⟨((a.drop lo.toNat).take (hi.toNat - lo.toNat)).toArray⟩) w:=by
 refine fJ ?_;have e:(⟨a.toArray⟩:ByteArray).extract lo.toNat hi.toNat=⟨((a.drop lo.toNat).take (hi.toNat - lo.toNat)).toArray⟩:=by
  rw[J9 (s:=(⟨a.toArray⟩:ByteArray).extract lo.toNat hi.toNat),Lib.extract_data]
 have g1:(0<=hi∧hi<=((a.length:Nat):Int)):=om
 have g2:(0<=lo∧lo<=((hi.toNat:Nat):Int)):=om
 simp only[Instr.sliceAt,Instr.slice,Instr.sliceBounds,Instr.sliceBound,asIntOf,run_underlying h,dK];have g3:lo<=max hi 0:=om
 simp[run_underlying h,dK,h2,g3,h0,g1.1,e]
theorem Di {T:TypeId}{a:List UInt8}{k:IntKind}(h:P.underlying T=some .string)(h0:0<=lo)(h1:lo<=a.length) :
  DoX P (dB T (.string ⟨a.toArray⟩) (some (.int k lo)) none none) w PK K=K (.string ⟨(a.drop lo.toNat).toArray⟩) w:=by
 refine fJ ?_;have e:(⟨a.toArray⟩:ByteArray).extract lo.toNat a.length=⟨(a.drop lo.toNat).toArray⟩:=by
  rw[J9 (s:=(⟨a.toArray⟩:ByteArray).extract lo.toNat a.length),Lib.extract_data];rw[aiF sm]
 have g2:(0<=lo∧lo<=((a.length:Nat):Int)):=om
 simp only[Instr.sliceAt,Instr.slice,Instr.sliceBounds,Instr.sliceBound,asIntOf,run_underlying h,dK];simp[run_underlying h,dK,h0,h1,e]
theorem OQ {T:TypeId}{a:List UInt8}(h:P.underlying T=some .string)(h1:0<=hi)(h2:hi<=a.length) :
  DoX P (dB T (.string ⟨a.toArray⟩) none (some (.int k' hi)) none) w PK K=K (.string ⟨(a.take hi.toNat).toArray⟩) w:=by
 refine fJ ?_;have e:(⟨a.toArray⟩:ByteArray).extract 0 hi.toNat=⟨(a.take hi.toNat).toArray⟩:=by
  rw[J9 (s:=(⟨a.toArray⟩:ByteArray).extract 0 hi.toNat),Lib.extract_data];simp
 have g1:(0<=hi∧hi<=((a.length:Nat):Int)):=om
 simp only[Instr.sliceAt,Instr.slice,Instr.sliceBounds,Instr.sliceBound,asIntOf,run_underlying h,dK];simp[run_underlying h,dK,h1,h2,e]
theorem nC {l:List Value}(h:l[i]?=some v):DoX P (mExt (.tuple l.toArray) i) w PK K=K v w:=fJ (by simp[Instr.extract,h])
theorem yF {fn:Fn}{a b:Array Value}:DoX P (PM fn a b) w PK K=K (.func fn a b) w:=fJ rfl
theorem aeX {a:Addr}:DoX P (mNil (.pointer (some a))) w PK K=K (.pointer (some a)) w:=aE (by simp[mNil,execOp])
theorem Gu {T:TypeId}{x:Value}:DoX P (Ev (.iface T x)) w PK K=PK [{ v:=.iface T x,recovered:=false }] w:=by
 have h:(Ev (.iface T x)).run P w=.halt (.panic (.iface T x)) w:=by simp[Ev,mv,Instr.panic,goPanic,Sem.run,bind,Sem.bind]
 exact UF h
def kT (P:Program)(T:TypeId):Bool:=match P.underlying T with|some (.interface _)=>false|some _=>true|none=>false
theorem I3 {T:TypeId}{x:Value}(h:kT P T=true):DoX P (Wz T x) w PK K=K (.iface T x) w:=by
 unfold kT at h;cases hu:P.underlying T with
|none=>rw[hu] at h;cases h
|some d=>
  rw[hu] at h;refine fJ ?_;cases d<;>first|(cases h;done)|simp[Instr.makeInterface,run_underlying hu]
theorem IU {T:TypeId}(h:P.underlying T=some (.interface ms)):(Op.equal T .nilIface .nilIface).run P w=.ok true w:=by
 show (Op.equalIn (9999+1) T .nilIface .nilIface).run P w=_;rw[Op.equalIn];simp[run_underlying h]
theorem GR {T:TypeId}(h:P.underlying T=some (.interface ms)):(Op.equal T (.iface U v) .nilIface).run P w=.ok false w:=by
 show (Op.equalIn (9999+1) T (.iface U v) .nilIface).run P w=_;rw[Op.equalIn];simp[run_underlying h]
theorem Py {T:TypeId}(h:P.underlying T=some (.interface ms)):DoX P (mEq .eql T xo (.const c) .nilIface .nilIface) w PK K=K (.bool true) w:=by
 refine fJ ?_;have e:(eqGuard .eql T xo (.const c) .nilIface .nilIface)=pure ():=by cases xo<;>rfl
 rw[e];simp[binOp,IU h]
theorem SG {T:TypeId}(h:P.underlying T=some (.interface ms)):DoX P (mEq .eql T xo yo (.iface U v) .nilIface) w PK K=K (.bool false) w:=by
 refine fJ ?_;have e:(eqGuard .eql T xo yo (.iface U v) .nilIface)=pure ():=rfl;rw[e];simp[binOp,GR h]
theorem ZS {T:TypeId}(h:P.underlying T=some (.interface ms)):DoX P (mEq .neq T xo (.const c) .nilIface .nilIface) w PK K=K (.bool false) w:=by
 refine fJ ?_;have e:(eqGuard .neq T xo (.const c) .nilIface .nilIface)=pure ():=by cases xo<;>rfl
 rw[e];simp[binOp,IU h]
theorem aaP {T:TypeId}(h:P.underlying T=some (.interface ms)):DoX P (mEq .neq T xo yo (.iface U v) .nilIface) w PK K=K (.bool true) w:=by
 refine fJ ?_;have e:(eqGuard .neq T xo yo (.iface U v) .nilIface)=pure ():=rfl;rw[e];simp[binOp,GR h]
theorem Vv {A xT:TypeId}(h:kT P A=true):DoX P (mTA (.iface A v) xT A true) w PK K=K (.tuple #[v,.bool true]) w:=by
 unfold kT at h;cases hu:P.underlying A with
|none=>rw[hu] at h;cases h
|some d=>
  rw[hu] at h;refine fJ ?_;cases d<;>first|(cases h;done)|simp[Instr.typeAssert,run_underlying hu]
def RetK (R:VWP):Ending->World->Prop:=fun e w'=>∃v,e=.returned v∧R v w'
theorem retK {R:VWP}(h:R v w):RetK R (.returned v) w:=⟨v,rfl,h⟩
def Ret (P:Program)(f:Nat)(args:Array Value)(w:World)(R:VWP):Prop:=Calls P f args w (RetK R)
theorem aP {R:VWP}(h:∀K:Ending->World->Prop,(∀v w',R v w'->K (.returned v) w')->Calls P f args w K):Ret P f args w R:=h _ (fun v w' r=>retK r)
def PanK (R:PKT):Ending->World->Prop:=fun e w'=>∃c,e=.panicked c∧R c w'
theorem panK {R:PKT}{c:List PanicEntry}(h:R c w):PanK R (.panicked c) w:=⟨c,rfl,h⟩
def Pan (P:Program)(f:Nat)(args:Array Value)(w:World)(R:PKT):Prop:=Calls P f args w (PanK R)
theorem RG {R:PKT}(h:∀K:Ending->World->Prop,(∀v w',R v w'->K (.panicked v) w')->Calls P f args w K):Pan P f args w R:=h _ (fun v w' r=>panK r)
theorem Ret.mono {f:Nat}{args:Array Value}{R R':VWP}(h:Ret P f args w R)(k:∀v w',R v w'->R' v w'):Ret P f args w R':=
 Calls.mono h fun _ _ ⟨v,he,hr⟩=>⟨v,he,k _ _ hr⟩
theorem B5 {R:VWP}(h:Ret P f args w R)(k:∀v w',R v w'->K v w'):CallX P f args w PK K:=
 ⟨Calls.mono h fun e w' ⟨v,he,hr⟩=>by subst he;exact k _ _ hr⟩
theorem c_eq (h:Ret P f args w (fun v' w'=>v'=v∧w=w'))(k:K v w):CallX P f args w PK K:=
 B5 h fun v' w' ⟨hv,hw⟩=>by subst hv;subst hw;exact k
theorem XJ {R:PKT}(h:Pan P f args w R)(k:∀c w',R c w'->PK c w'):CallX P f args w PK K:=
 ⟨Calls.mono h fun e w' ⟨v,he,hr⟩=>by subst he;exact k _ _ hr⟩
theorem fH {R:Ending->World->Prop}(h:Calls P f args w R)(k:∀e w',R e w'->Cont K PK e w'):CallX P f args w PK K:=
 ⟨Calls.mono h k⟩
theorem EI {fa ca:Array Value}(hp:bZ P f=true)(h:CallX P f (fa++args++ca) w PK K):DoX P (gI (.func (.func f) fa ca) args) w PK K:=by
 refine⟨?_⟩;have e:(gI (.func (.func f) fa ca) args).run P w=.ok (.enter f (fa++args++ca)) w:=by
  unfold gI;simp only[Deferred.ofValue,invoke,bind,pure,Sem.bind];exact lJ hp _ _
 rw[e];exact h
end
theorem join {F:(List Value->World->Prop)->Prop}{R:List Value->World->Prop}(h:∀J:List Value->World->Prop,(∀vs w,R vs w->J vs w)->F J):JoinX F R:=⟨h⟩
def Mc (I:List Value->World->Prop)(μ:List Value->World->Nat)(vs:List Value)(w:World):List Value->World->Prop:=fun vs' w'=>I vs' w'∧μ vs' w' < μ vs w
theorem aY {I:List Value->World->Prop}{μ:List Value->World->Nat}{vs vs':List Value}(h:I vs' w')(hm:μ vs' w' < μ vs w):Mc I μ vs w vs' w':=⟨h,hm⟩
theorem loop {vs:List Value}{F:List Value->World->(List Value->World->Prop)->Prop}(I:List Value->World->Prop)(μ:List Value->World->Nat)
  (h0:I vs w) (hs:∀vs w,I vs w->F vs w (Mc I μ vs w)):LoopX vs w F:=⟨I,μ,h0,hs⟩
theorem quiet {F:(World->Prop)->Prop}(h:F (Below w.heap.size w)):QuietX w F:=⟨_,(Below.refl _ _).drew,h⟩
theorem eB {F:(World->Prop)->Prop}(C:World->Prop)(hC:C w.drew)(h:F C):QuietX w F:=⟨C,hC,h⟩
section
variable {P:Program}{C:World->Prop}{K:Value->Prop}
theorem q_do {m:Sem Next}(v:Value)(h:∀w,m.run P w=.ok (.value v) w)(k:K v):QDo P C m K:=
 ⟨v,fun w _=>by rw[h w];exact⟨rfl,rfl⟩,k⟩
theorem q_at {m:Sem Next}(v:Value)(h:∀w,C w->m.run P w=.ok (.value v) w)(k:K v):QDo P C m K:=
 ⟨v,fun w hw=>by rw[h w hw];exact⟨rfl,rfl⟩,k⟩
theorem uO (v:Value)(h:∀w,C w->Ret P f args w (fun v' w'=>v'=v∧C w'))(k:K v):QCall P C f args K:=
 ⟨v,fun w hw=>Calls.mono (h w hw) fun _ _ ⟨_,he,hv,hc⟩=>⟨by rw[he,hv],hc⟩,k⟩
end
def rs:=And.intro @KF (And.intro @Zp (And.intro @afC (And.intro @aaY (And.intro @Vu (And.intro @agJ (And.intro @afX (And.intro @abW (And.intro @U8 (And.intro @aeD (And.intro @Mo (And.intro @p_t (And.intro @p_f (And.intro @g_tt (And.intro @g_ft (And.intro @g_ff (And.intro @g_tf (And.intro @i_t (And.intro @i_f (And.intro @HB (And.intro @Qu (And.intro @acU (And.intro @agF (And.intro @aeN (And.intro @adX (And.intro @yF (And.intro @aeX (And.intro @Gu (And.intro @nn_t (@nn_f)))))))))))))))))))))))))))))
def sp:=And.intro @Ix (And.intro @aaV (And.intro @X4 (And.intro @ZE (And.intro @afG (And.intro @aeM (And.intro @agG (And.intro @adK (And.intro @aeB (And.intro @agQ (And.intro @agS (@adH)))))))))))
theorem gd0 {a:Value}{l:List Value}:(a::l).getD 0 undef=a:=rfl
theorem gd1 {a b:Value}{l:List Value}:(a::b::l).getD 1 undef=b:=rfl
theorem gd2 {a b c:Value}{l:List Value}:(a::b::c::l).getD 2 undef=c:=rfl
theorem gd3 {a b c d:Value}{l:List Value}:(a::b::c::d::l).getD 3 undef=d:=rfl
theorem gd4 {a b c d e:Value}{l:List Value}:(a::b::c::d::e::l).getD 4 undef=e:=rfl
theorem gd5 {a b c d e f:Value}{l:List Value}:(a::b::c::d::e::f::l).getD 5 undef=f:=rfl
def gd:=And.intro @gd0 (And.intro @gd1 (And.intro @gd2 (And.intro @gd3 (And.intro @gd4 @gd5))))
theorem aA {n:Int}(h1:-9223372036854775808<=n)(h2:n<=9223372036854775807):IntKind.wrap .i64 n=n:=IntWalk.i64_in n om
end Eng
end
section
namespace Eng
open Go.RowKit
structure Grew (S:Nat->Prop) (w w':World):Prop where
 os:w'.os=w.os
 tape:w'.tape=w.tape
 output:w'.output=w.output
 size:w.heap.size<=w'.heap.size
 block:∀k,k < w.heap.size->¬S k->w'.heap[k]?=w.heap[k]?
def NoB:Nat->Prop:=fun _=>False
theorem Grew.refl (S:Nat->Prop)(w:World):Grew S w w:=⟨rfl,rfl,rfl,ahD _,fun _ _ _=>rfl⟩
theorem Grew.trans {S:Nat->Prop}{a b c:World}(h:Grew S a b)(k:Grew S b c):Grew S a c:=
 ⟨k.os.trans h.os,k.tape.trans h.tape,k.output.trans h.output,ajZ h.size k.size,fun i hi hs=>(k.block i (ajE hi h.size) hs).trans (h.block i hi hs)⟩
theorem Grew.below {a b:World}(h:Grew NoB a b):Below a.heap.size a b:=⟨h.os,h.tape,h.output,h.size,fun k hk=>h.block k hk (fun x=>x)⟩
theorem Ia {a b:World}(h:Below a.heap.size a b):Grew S a b:=⟨h.os,h.tape,h.output,h.size,fun k hk _=>h.block k hk⟩
theorem SA {o:Option Nat}(h:w.grownBy w' o):Grew (fun k=>o=some k) w w':=
 ⟨h.os,h.tape,h.output,h.size,fun k hk hn=>h.block k hk (fun e=>hn e.symm)⟩
structure Ent where
 blk:Nat->Prop
 is:World->Prop
 keep:∀{w w':World},is w->(∀k,blk k->w'.heap[k]?=w.heap[k]?)->is w'
 lt:∀{w:World},is w->∀k,blk k->k < w.heap.size
theorem dR {o:Obj}(h:w.heap[b]?=some o):b < w.heap.size:=(anL.1 h).1
def Ent.obj (b:Nat)(o:Obj):Ent:=⟨fun k=>k=b,fun w=>w.heap[b]?=some o,fun h k=>(k b rfl).trans h,fun h k hk=>by cases hk;exact dR h⟩
def Ent.cells (b:Nat)(cs:List Value)(T:TypeId):Ent:=⟨fun k=>k=b,fun w=>w.heap[b]?=some (.cells cs.toArray T (0,0)),fun h k=>(k b rfl).trans h,fun h k hk=>by cases hk;exact dR h⟩
def Ent.row (T:TypeId)(sz:Nat)(v:Value)(n:Nat)(xs:List Value):Ent:=
 ⟨fun k=>v.ownBlock=some k,fun w=>w.ownsRowF 0 T sz v n xs,fun {w w'} h k=>by
  refine⟨h.1,?_⟩;rcases h.2 with hn|⟨g,cap,cur,fz,rfl,hb,hgg,rest⟩
  ·exact .inl hn
  ·exact .inr ⟨g,cap,cur,fz,rfl,hb,(k g rfl).trans hgg,rest⟩,fun h k hk=>(World.ownsRowF.lt h k hk).2⟩
structure OwnS (S:Nat->Prop) (w0 w:World) (L:List Ent):Prop where
 grew:Grew S w0 w
 all:∀e∈L,e.is w∧∀k,e.blk k->S k∨w0.heap.size<=k
 apart:L.Pairwise (fun e f=>∀k,e.blk k->¬f.blk k)
abbrev Own (w0 w:World)(L:List Ent):Prop:=OwnS NoB w0 w L
theorem Own.start (w:World):Own w w []:=⟨Grew.refl _ _,(fun _ h=>by cases h),List.Pairwise.nil⟩
section
variable {S:Nat->Prop}
theorem OwnS.size {w0 w:World}{L:List Ent}(h:OwnS S w0 w L):w0.heap.size<=w.heap.size:=h.grew.size
theorem OwnS.mem {L:List Ent}(h:OwnS S w0 w L){e:Ent}(he:e∈L):e.is w:=(h.all e he).1
theorem OwnS.at_ {L:List Ent}(h:OwnS S w0 w L)(i:Nat){e:Ent}(he:L[i]?=some e):e.is w:=h.mem (akM he)
theorem OwnS.grow {L:List Ent}(h:OwnS S w0 w L)(hb:Below w.heap.size w w'):OwnS S w0 w' L:=
 ⟨h.grew.trans (Ia hb),fun e he=>⟨e.keep (h.all e he).1 fun k hk=>hb.block k (e.lt (h.all e he).1 k hk),(h.all e he).2⟩,h.apart⟩
theorem OwnS.drew {w0 w:World}{L:List Ent}(h:OwnS S w0 w L):OwnS S w0 w.drew L:=h.grow (Below.refl _ _).drew
theorem LP (hg:w.grownBy w' none):Below w.heap.size w w':=⟨hg.os,hg.tape,hg.output,hg.size,fun k hk=>hg.block k hk sm⟩
theorem OwnS.add {L:List Ent}(h:OwnS S w0 w L)(hg:w.grownBy w' none)(e:Ent)(he:e.is w')(hn:∀k,e.blk k->w.heap.size<=k):OwnS S w0 w' (e::L):=by
 have h':=h.grow (LP hg);refine⟨h'.grew,?_,?_⟩
 ·intro f hf;cases hf with
 |head=>exact⟨he,fun k hk=>.inr (ajZ h.size (hn k hk))⟩
 |tail _ hf=>exact h'.all f hf
 ·refine .cons (fun f hf k hk hk'=>?_) h'.apart;have:=f.lt (h.mem hf) k hk';have:=hn k hk;omega
theorem OwnS.alloc {w0 w:World}{L:List Ent}(h:OwnS S w0 w L)(cs:List Value)(T:TypeId):OwnS S w0 (w.alloc (.cells cs.toArray T)) (.cells w.heap.size cs T::L):=
 h.add (World.grownBy_alloc w _ none) _ (heap_alloc_new w _) (fun k hk=>by cases hk;exact ahD _)
theorem OwnS.O8 {L:List Ent}(h:OwnS S w0 w L)(o:Obj):OwnS S w0 (w.alloc o) (.obj w.heap.size o::L):=
 h.add (World.grownBy_alloc w _ none) _ (heap_alloc_new w _) (fun k hk=>by cases hk;exact ahD _)
structure Turn (e e':Ent) (w w':World):Prop where
 grew:Grew e.blk w w'
 is:e'.is w'
 new:∀k,e'.blk k->e.blk k∨w.heap.size<=k
theorem Turn.refl {e:Ent}{w:World}(h:e.is w):Turn e e w w:=⟨Grew.refl _ _,h,fun _ hk=>.inl hk⟩
theorem OwnS.turn {L:List Ent}(h:OwnS S w0 w L)(i:Nat){e e':Ent}(hi:L[i]?=some e)(ht:Turn e e' w w'):OwnS S w0 w' (L.set i e'):=by
 obtain⟨hg,he,hn⟩:=ht;have hil:i < L.length:=(ahQ.1 hi).1;have hie:L[i]=e:=(ahQ.1 hi).2;have heL:e∈L:=akM hi;have hpair:=alL.1 h.apart;have hself:∀j (hj:j < L.length),j≠i->∀k,L[j].blk k->¬e.blk k:=by
  intro j hj hji k hk hk';rcases ahY j i with hlt|hge
  ·exact hpair j i hj hil hlt k hk (by rw[hie];exact hk')
  ·exact hpair i j hil hj om k (by rw[hie];exact hk') hk
 have hgrew:Grew S w0 w':=⟨hg.os.trans h.grew.os,hg.tape.trans h.grew.tape,hg.output.trans h.grew.output,ajZ h.size hg.size,fun k hk hS=>
  (hg.block k (ajE hk h.size) (fun hc=>((h.all e heL).2 k hc).elim hS (fun x=>by omega))).trans (h.grew.block k hk hS)⟩
 have keepj:∀j (hj:j < L.length),j≠i->L[j].is w':=fun j hj hji=>
  L[j].keep (h.mem (ahP hj)) fun k hk=>hg.block k (L[j].lt (h.mem (ahP hj)) k hk) (fun hc=>hself j hj hji k hk hc)
 refine⟨hgrew,?_,?_⟩
 ·intro f hf;obtain⟨j,hj,rfl⟩:=akH hf;rw[ajM] at hj;rw[amS];split
  ·refine⟨he,fun k hk=>?_⟩;rcases hn k hk with h1|h1
   ·exact (h.all e heL).2 k h1
   ·exact .inr (ajZ h.size h1)
  ·rename_i hne
   exact⟨keepj j hj (fun e=>hne e.symm),(h.all _ (ahP hj)).2⟩
 ·rw[alL];intro a b ha hb hab k hk;rw[ajM] at ha hb;rw[amS] at hk;rw[amS];have other:∀j (hj:j < L.length),j≠i->∀k,e'.blk k->¬L[j].blk k:=by
   intro j hj hji k hk hk';rcases hn k hk with h1|h1
   ·exact hself j hj hji k hk' h1
   ·have:=L[j].lt (h.mem (ahP hj)) k hk';omega
  split at hk
  ·rename_i hia
   subst hia;rw[agV om];exact other b hb om k hk
  ·rename_i hia
   split
   ·rename_i hib
    subst hib;intro hk';exact other a ha (fun e=>hia e.symm) k hk' hk
   ·exact hpair a b ha hb hab k hk
theorem OwnS.put {L:List Ent}(h:OwnS S w0 w L)(i:Nat){e:Ent}(hi:L[i]?=some e)(hg:Grew e.blk w w')(e':Ent)(he:e'.is w')
  (hn:∀k,e'.blk k->e.blk k∨w.heap.size<=k):OwnS S w0 w' (L.set i e'):=h.turn i hi ⟨hg,he,hn⟩
theorem OwnS.tail {w0 w:World}{e:Ent}{L:List Ent}(h:OwnS S w0 w (e::L)):OwnS S w0 w L:=
 ⟨h.grew,fun f hf=>h.all f (.tail _ hf),(ajF.1 h.apart).2⟩
theorem OwnS.sub {L L':List Ent}(h:OwnS S w0 w L)(hs:L'.Sublist L):OwnS S w0 w L':=
 ⟨h.grew,fun f hf=>h.all f (hs.subset hf),h.apart.sublist hs⟩
theorem OwnS.done {L:List Ent}(h:OwnS NoB w0 w L):Below w0.heap.size w0 w:=h.grew.below
theorem OwnS.below {w0 w:World}{L:List Ent}(h:OwnS NoB w0 w L):Below w0.heap.size w0 w:=h.grew.below
theorem OwnS.lend {e:Ent}(h:e.is w):OwnS e.blk w w [e]:=by
 refine⟨Grew.refl _ _,fun f hf=>?_,List.pairwise_singleton _ _⟩;rcases ahG.1 hf with rfl|hf
 ·exact⟨h,fun k hk=>.inl hk⟩
 ·cases hf
theorem OwnS.back {e e':Ent}{L:List Ent}(h:OwnS e.blk w w' (e'::L)):Turn e e' w w':=
 ⟨h.grew,h.mem sm,(h.all e' sm).2⟩
end
def n0 (vs:List Value):Nat:=(RowKit.intOf (vs.getD 0 undef)).toNat
def n1 (vs:List Value):Nat:=(RowKit.intOf (vs.getD 1 undef)).toNat
def n2 (vs:List Value):Nat:=(RowKit.intOf (vs.getD 2 undef)).toNat
theorem aG {T:TypeId}(h:(Ent.cells b cs T).is w)(hv:cs[i]?=some v):w.cell? ⟨b,i,none⟩=some v:=by
 have h':w.heap[b]?=some (.cells cs.toArray T (0,0)):=h;simp[World.cell?,h',hv]
theorem OwnS.cell {S:Nat->Prop}{w0 w:World}{L:List Ent}(h:OwnS S w0 w L)(i:Nat){b:Nat}{cs:List Value}{T:TypeId}(hi:L[i]?=some (.cells b cs T))(j:Nat){v:Value}(hv:cs[j]?=some v):w.cell? ⟨b,j,none⟩=some v:=
 aG (h.at_ i hi) hv
theorem OwnS.old {L:List Ent}(h:OwnS NoB w0 w L){p:Addr}(hc:w0.cell? p=some v):w.cell? p=some v:=
 (h.below.cell (World.block_lt_of_cell? w0 p hc)).trans hc
def eF (P:Program)(T:TypeId):Bool:=match P.underlying T with|some (.struct _)=>false|some (.array _ _)=>false|some _=>true|none=>false
section
variable {S:Nat->Prop}{P:Program}{w:World}{PK:PKT}{K:VWP}
theorem mE {T:TypeId}(ht:eF P T=true){a:Addr}(h:w.cell? a=some v):(loadVar T a).run P w=.ok v w:=by
 unfold eF at ht;cases hu:P.underlying T with
|none=>rw[hu] at ht;cases ht
|some d=>
  rw[hu] at ht;cases d<;>first|(cases ht;done)|simp[loadVar,isAgg,run_underlying hu,h]
theorem aB {T:TypeId}(ht:eF P T=true){a:Addr}(h:w.cell? a=some v):(aI T (.pointer (some a))).run P w=.ok (.value v) w:=
 bL (by simp[Instr.loadAt,Instr.sureAddr,mE ht h])
theorem aO {T:TypeId}(ht:eF P T=true){a:Addr}(h:w.cell? a=some v):DoX P (aI T (.pointer (some a))) w PK K=K v w:=aE (aB ht h)
theorem bC {m:Sem Next}(mk:Nat->Value)(cs:List Value)(E:TypeId){L:List Ent}(hm:∀w,m.run P w=.ok (.value (mk w.heap.size)) (w.alloc (.cells cs.toArray E)))(ho:OwnS S w0 w L)
  (k:∀b w',OwnS S w0 w' (.cells b cs E::L)->K (mk b) w'):DoX P m w PK K:=
 jU (hm w) (k _ _ (ho.alloc cs E))
theorem HN {T:TypeId}{off:Nat}{E:TypeId}(hs:(P.info? T).map (·.size)=some 1)(hv:v.oneCell'=true)(h:w.heap[b]?=some (.cells cs.toArray E (0,0)))(hl:off < cs.length) :
  (Instr.storeAt T (.pointer (some ⟨b,off,none⟩)) v).run P w=.ok () (w.setRow b (cs.set off v).toArray):=by
 have hc:v.cells=#[v]:=by cases v<;>first|rfl|(cases hv;done)
 have hst:=run_storeCells_at P b off E [v] 0 cs.toArray w h (by simp;omega) (by simpa using hv);obtain⟨i,hi,h1⟩:=ajN.1 hs;simp only[aiZ] at hst;have e:cs.take off++[v]++cs.drop (off+1)=cs.set off v:=by
  rw[apK,agW hl];simp
 simp[Instr.storeAt,Instr.sureAddr,storeVar,hc,sizeOf,typeInfo,hi,h1,hst];rw[<-e];simp
theorem gP {L:List Ent}(ho:OwnS S w0 w L)(i:Nat){E:TypeId}(hi:L[i]?=some (.cells b cs E))(cs':List Value):OwnS S w0 (w.setRow b cs'.toArray) (L.set i (.cells b cs' E)):=by
 have h:w.heap[b]?=some (.cells cs.toArray E (0,0)):=ho.at_ i hi;refine ho.put i hi (w':=w.setRow b cs'.toArray) ⟨rfl,rfl,rfl,by simp[World.setRow],fun k _ hk=>setRow_other w b k _ (fun e=>hk (by simp[Ent.cells,e]))⟩ (.cells b cs' E) (setRow_heap w b cs.toArray _ E (0,0) h) (fun k hk=>.inl hk)
theorem aN {L:List Ent}(i:Nat){T:TypeId}{off:Nat}{E:TypeId}(ho:OwnS S w0 w L)(hi:L[i]?=some (.cells b cs E))(hs:(P.info? T).map (·.size)=some 1)(hv:v.oneCell'=true)(hl:off < cs.length)
  (k:∀w',OwnS S w0 w' (L.set i (.cells b (cs.set off v) E))->K undef w'):DoX P (aS T (.pointer (some ⟨b,off,none⟩)) v) w PK K:=
 DF (IC (HN hs hv (ho.at_ i hi) hl)) (k _ (gP ho i hi _))
def Sl (w:World)(v:Value)(sz n:Nat)(cs:List Value):Prop:=
 cs.length=n*sz∧∃a cap,v=.slice a n cap∧(a=none->n=0)∧∀p,a=some p->(0 < n->p.spot=none)∧∀j u,cs[j]?=some u->w.cell? ⟨p.block,p.off+j,none⟩=some u
theorem Sl.mono {n:Nat}(h:Sl w v sz n cs)(hc:∀p u,w.cell? p=some u->w'.cell? p=some u):Sl w' v sz n cs:=by
 obtain⟨h1,a,cap,h2,h3,h4⟩:=h;exact⟨h1,a,cap,h2,h3,fun p hp=>⟨(h4 p hp).1,fun j u hj=>hc _ _ ((h4 p hp).2 j u hj)⟩⟩
theorem OwnS.VV {L:List Ent}(h:OwnS NoB w0 w L){n:Nat}(hs:Sl w0 v sz n cs):Sl w v sz n cs:=hs.mono fun _ _ hp=>h.old hp
theorem Sl.cells {w:World}{b:Nat}{cs:List Value}{T:TypeId}(h:(Ent.cells b cs T).is w)(sz n cap:Nat)(hn:cs.length=n*sz):Sl w (.slice (some ⟨b,0,none⟩) n cap) sz n cs:=
 ⟨hn,some ⟨b,0,none⟩,cap,rfl,fun h=>(by cases h),fun p hp=>by cases hp;exact⟨fun _=>rfl,fun j u hj=>by rw[ahJ];exact aG h hj⟩⟩
theorem OwnS.sl {L:List Ent}(h:OwnS S w0 w L)(i:Nat){T:TypeId}(hi:L[i]?=some (.cells b cs T))(sz n cap:Nat)(hn:cs.length=n*sz):Sl w (.slice (some ⟨b,0,none⟩) n cap) sz n cs:=
 Sl.cells (h.at_ i hi) sz n cap hn
theorem Sl.row {w:World}{T:TypeId}{sz:Nat}{v:Value}{n:Nat}{xs:List Value}(h:(Ent.row T sz v n xs).is w):Sl w v sz n xs:=by
 have h':w.ownsRowF 0 T sz v n xs:=h;refine⟨h'.1,?_⟩;rcases h'.2 with ⟨rfl,rfl⟩|⟨g,cap,cur,fz,rfl,_⟩
 ·exact⟨none,0,rfl,fun _=>rfl,fun p hp=>by cases hp⟩
 ·refine⟨some ⟨g,0,none⟩,cap,rfl,(fun h=>by cases h),fun p hp=>?_⟩;cases hp;refine⟨fun _=>rfl,fun j u hj=>?_⟩;have:=World.ownsRowF.cells h' (g:=g) rfl j u hj;have e:(⟨g,0,none⟩:Addr).add j=⟨g,0+j,none⟩:=by unfold Addr.add;split<;>simp_all
  rwa [e] at this
theorem Sl.nil (w:World)(sz cap:Nat):Sl w (.slice none 0 cap) sz 0 []:=⟨sm,none,cap,rfl,fun _=>rfl,fun p hp=>by cases hp⟩
theorem bB {T:TypeId}{E:TypeId}{n:Nat}(h:P.underlying T=some (.slice E))(hs:Sl w v sz n cs):DoX P (mB .len #[T] U cb #[v]) w PK K=K (.int .i64 (n:Int)) w:=by
 obtain⟨_,a,cap,rfl,_⟩:=hs;refine aE ?_;simp[mB,builtin,Builtin.len_,run_underlying h,goInt]
theorem bA {T:TypeId}{E:TypeId}{a:Option Addr}{n:Nat}(h:P.underlying T=some (.slice E)):DoX P (mB .len #[T] U cb #[.slice a n cap]) w PK K=K (.int .i64 (n:Int)) w:=by
 refine aE ?_;simp[mB,builtin,Builtin.len_,run_underlying h,goInt]
theorem adZ {T E:TypeId}{k:IntKind}{n:Nat}{i:Int}(h:P.underlying T=some (.slice E))(hsz:(P.info? E).map (·.size)=some sz)(hs:Sl w v sz n cs)(h0:0<=i)(h1:i < n)
  (kk:∀b off,(∀j u,cs[i.toNat*sz+j]?=some u->w.cell? ⟨b,off+j,none⟩=some u)->K (.pointer (some ⟨b,off,none⟩)) w):DoX P (mIA T v (.int k i)) w PK K:=by
 obtain⟨hl,a,cap,rfl,hn,hc⟩:=hs;obtain⟨ii,hi,hi1⟩:=ajN.1 hsz;cases a with
|none=>have:=hn rfl;omega
|some p=>
  obtain⟨hsp,hc'⟩:=hc p rfl
  replace hsp:=hsp om
  obtain⟨b,off,spot⟩:=p;simp only at hsp hc';subst hsp;refine jU (bL (v:=.pointer (some ⟨b,off+i.toNat*sz,none⟩)) ?_) (kk b (off+i.toNat*sz) fun j u hj=>by rw[akL];exact hc' _ _ hj);have e:(⟨b,off,none⟩:Addr).add (i.toNat*sz)=⟨b,off+i.toNat*sz,none⟩:=by unfold Addr.add;split<;>simp_all
  simp[Instr.indexAt,asIntOf,run_underlying h,h0,h1,sizeOf,typeInfo,hi,hi1,e]
theorem eE {T E:TypeId}{k:IntKind}{off n:Nat}{i:Int}(h:P.underlying T=some (.slice E))(hsz:(P.info? E).map (·.size)=some sz)(h0:0<=i)(h1:i < n) :
  (mIA T (.slice (some ⟨b,off,none⟩) n cap) (.int k i)).run P w=.ok (.value (.pointer (some ⟨b,off+i.toNat*sz,none⟩))) w:=by
 obtain⟨ii,hi,hi1⟩:=ajN.1 hsz;have e:(⟨b,off,none⟩:Addr).add (i.toNat*sz)=⟨b,off+i.toNat*sz,none⟩:=by unfold Addr.add;split<;>simp_all
 exact bL (by simp[Instr.indexAt,asIntOf,run_underlying h,h0,h1,sizeOf,typeInfo,hi,hi1,e])
theorem cB {n:Nat}(hs:Sl w v sz n cs)(hn:0 < n):∃b off cap,v=.slice (some ⟨b,off,none⟩) n cap∧∀j u,cs[j]?=some u->w.cell? ⟨b,off+j,none⟩=some u:=by
 obtain⟨_,a,cap,rfl,h1,h2⟩:=hs;cases a with
|none=>have:=h1 rfl;omega
|some p=>
  obtain⟨hsp,hc⟩:=h2 p rfl
  replace hsp:=hsp hn
  obtain⟨b,off,spot⟩:=p;simp only at hsp hc;subst hsp;exact⟨b,off,cap,rfl,hc⟩
theorem Gz {T E:TypeId}{k:IntKind}{n:Nat}{i:Int}(x:Value)(h:P.underlying T=some (.slice E))(hsz:(P.info? E).map (·.size)=some 1)(hs:Sl w v 1 n cs)(h0:0<=i)(hx:cs[i.toNat]?=some x)
  (kk:∀p,w.cell? p=some x->K (.pointer (some p)) w):DoX P (mIA T v (.int k i)) w PK K:=by
 have hl:i.toNat < cs.length:=(ahQ.1 hx).1;refine adZ h hsz hs h0 (by rw[hs.1] at hl;omega) fun b off hc=>kk _ ?_;have:=hc 0 x (by simpa using hx);simpa using this
theorem Kq {a1:Addr}{K:Ending->World->Prop}(t1:eF P T1=true)(h1:w.cell? a1=some v1)(k:K (.returned v1) w) :
  RetX P [.cell (.pointer (some a1)) T1] w K:=
 ⟨_,by simp[Cv,RV.read,asAddr,mE t1 h1],k⟩
end
end Eng
end
section
open Eng Go.RowKit Go.ChangeShapes Go.WideShapes Go.ChangeAt
def zG (P:Program)(ts:List TypeId):Bool:=ts.all fun t=>P.readableRec t&&decide (t < P.types.size)
theorem CL {H:Type}{enc:TypeId×Value->H}{P:Program}(hl:laidOutB P=true){W W':World}(hb:Below W.heap.size W W') :
  ∀(ts:List TypeId) {vs:List Value} {ds:List (DataW H)} {ps:List MemPlace},zG P ts=true->DataW.TrodAll enc P W 0 (fun _=>true) true ts vs ds ps->(∀x∈ps,x.block < W.heap.size) ->
   DataW.TrodAll enc P W' 0 (fun b=>decide (b < W.heap.size)) true ts vs ds ps
|[],vs,ds,ps,_,h,_=>by
  obtain⟨rfl,rfl,rfl⟩:=trodAll_nil h;exact trodAll_mk0
|t::ts,vs,ds,ps,ht,h,hlt=>by
  obtain⟨v0,vs0,d0,ds0,p0,q0,rfl,rfl,rfl,h0,r0⟩:=trodAll_cons h;simp only[zG,anO,ahR,aiI] at ht;exact trodAll_cons_mk (Below.trod hl ht.1.1 ht.1.2 h0 hb fun x hx=>hlt x (by simp[hx])) (CL hl hb ts (by simpa[zG] using ht.2) r0 fun x hx=>hlt x (by simp[hx]))
theorem Ux {enc:TypeId×Value->H}{f:Func}{s:ChangeSpec}{apart handsOn:Bool}{B:TypeId}(hl:laidOutB P=true)(hf:zG P f.params.toList=true)(hr:f.resultTypes=#[B])(hB:P.underlying B=some .bool)
  {W W':World} {args:Array Value} {ds gs:List (DataW H)} {before:List MemPlace} (hv:s.vars=[]) (hW:DataW.Whole enc P f.params.toList s.vars apart W args.toList ds gs before)
  (hfn:s.fn H (ds++gs)={ results:=[.lit (.bool true)],args:=ds }) (hb:Below W.heap.size W W') {fresh:Bool}:s.post enc P f apart fresh handsOn false W args (.bool true) W':=by
 have hlt:∀x∈before,x.block < W.heap.size:=fun x hx=>by simpa using hW.lt x hx
 have hW':=hW;obtain⟨p,q,hA,hV,rfl,_,_⟩:=hW;rw[hv] at hV;obtain⟨rfl,rfl⟩:=trodVars_none hV;refine⟨ds,[],_,[],p,[],hW',?_,?_,?_,hb.frame _,fun h=>by cases h⟩
 ·rw[hfn,hr];exact trodAll_cons_mk (shut_bool hB _) trodAll_mk0
 ·rw[hfn];exact CL hl hb _ hf hA fun x hx=>hlt x (by simp[hx])
 ·rw[hfn,hv];rfl
def Yf:DataW Unit->List Value
|.lit (.int k n)=>[.int k n]
|_=>[]
def acM:DataW Unit->List Value
|.agg xs=>xs.flatMap fun x=>match x with
 |.agg ys=>ys.flatMap Yf
 |y=>Yf y
|y=>Yf y
def Oe (w:World)(g:Nat)(cs:List Value):World:=
 { w with heap:=w.heap.modify g fun
  |.cells _ t frozen=>.cells cs.toArray t frozen
  |o=>o }
end
namespace Fx
def okB (n:Int):Bool:=decide (-1073741824<=n)&&decide (n<=1073741824)
def ans (n:Int):Int×Int:=if okB n then (n,0) else (0,2)
end Fx
section
namespace Fx
open Go
def abC (c:UInt8):Bool:=decide (48<=c.toNat)&&decide (c.toNat<=57)
def val (n:Int)(l:List UInt8):Int:=l.foldl (fun n c=>10*n+((c.toNat:Int) - 48)) n
def whole (l:List UInt8):List UInt8:=l.takeWhile (fun c=>c != 46)
def part (l:List UInt8):List UInt8:=(l.dropWhile (fun c=>c != 46)).drop 1
def body:List UInt8->List UInt8
|[]=>[]
|c::t=>if c=45∨c=43 then t else c::t
def minus:List UInt8->Bool
|[]=>false
|c::_=>decide (c=45)
def form (l:List UInt8):Bool:=decide (l.length<=40)&&(whole (body l)).all abC&&(part (body l)).all abC&&decide (0 < (whole (body l)).length+(part (body l)).length)
def more (rest:List UInt8)(neg:Bool):Bool:=
 match rest with
|[]=>false
|c::t=>decide (53<=c.toNat)&&(!neg||decide (53 < c.toNat)||t.any (fun c=>decide (48 < c.toNat)))
def four (p:List UInt8):List UInt8:=(p++[48,48,48,48]).take 4
def mag (l:List UInt8):Int:=val (val 0 (whole (body l))) (four (part (body l)))+(if more ((part (body l)).drop 4) (minus l) then 1 else 0)
def read (l:List UInt8):Int×Int:=
 if form l then
  if val 0 (whole (body l))>1073741824 then (0,2)
  else ans (if minus l then - mag l else mag l)
 else (0,3)
end Fx
end
end Go.Proofs.YtlipjfcbjemicaaGreatDoor

namespace Go.Proofs.YtlipjfcbjemicaaGreatDoor
variable{B l:List Nat}{C:World->Prop}{D T1 T2 U:TypeId}{H α β:Type}{K:VWP}{L0:Loop}{P:Program}{Q Q':Exit->Act->World->Prop}{R:Ending->FrameMode->World->Prop}{S:Nat->Prop}{a hi lo:Int}{aj:List (Nat×List Nat)}{args:Array Value}{b cap d f i id j sz:Nat}{c v v1:Value}{cb:Array Bool}{cs:List Value}{ds:List Deferred}{fn:Func}{k':IntKind}{ms:Array (String×TypeId)}{ops:Array Oper}{ro:Option Nat}{u:FrameMode}{w w' w0:World}{want:Bool}{xo yo:Operand}
section
open Go
namespace Oc
def Wj:List UInt8:=[0,9,10,12,13,32]
def Zm:List UInt8:=[40,41,60,62,91,93,123,125,47,37]
def Bk (c:UInt8):Bool:=Wj.contains c
def adY (c:UInt8):Bool:=Zm.contains c
def regular (c:UInt8):Bool:=!Bk c&&!adY c
def hexs:List UInt8:=[48,49,50,51,52,53,54,55,56,57,65,66,67,68,69,70]
def hexD (n:Nat):UInt8:=hexs.getD n 0
def hex1 (c:UInt8):List UInt8:=[hexD (c.toNat / 16),hexD (c.toNat % 16)]
def hex (l:List UInt8):List UInt8:=l.flatMap hex1
theorem VC {n:Nat}(h:n < 16):hexs[n]?=some (hexD n):=by
 have hl:n < hexs.length:=h;rw[ahH hl,hexD,ahC,ahH hl];rfl
theorem T3 (l:List UInt8)(c:UInt8):hex (l++[c])=hex l++hex1 c:=by simp[hex]
theorem Pq (l:List UInt8):(hex l).length=2*l.length:=by
 induction l with
|nil=>rfl
|cons c l ih=>
  have e:hex (c::l)=hex1 c++hex l:=by simp[hex]
  rw[e,agZ,ih];simp only[hex1,ahU,akK];omega
theorem vC (c:UInt8):∀l:List UInt8,decide (0<=Lib.indexByte l c)=l.contains c
|[]=>by simp[Lib.indexByte]
|b::l=>by
  have ih:=vC c l;have hm:-1<=Lib.indexByte l c:=by
   clear ih
   induction l with
  |nil=>simp[Lib.indexByte]
  |cons a l ih=>
    simp only[Lib.indexByte];split
    ·omega
    ·split<;>omega
  rw[List.contains_cons];by_cases h:b=c
  ·subst h;simp[Lib.indexByte]
  ·have hb:(b==c)=false:=by simpa using h
   have hc:(c==b)=false:=by simpa using fun e:c=b=>h e.symm
   rw[hc,aoC,<-ih];simp only[Lib.indexByte,hb,alV,if_false];split
   ·rename_i he
    have he':Lib.indexByte l c=-1:=by simpa using he
    rw[he']
   ·rename_i he
    have he':Lib.indexByte l c≠-1:=by simpa using he
    have h0:0<=Lib.indexByte l c:=om
    rw[ahB h0,ahB om]
end Oc
namespace Pl
open Oc
def tot (ps:List (List UInt8)):Nat:=(ps.map (fun p=>p.length+1)).sum
theorem HT (a b:List (List UInt8)):tot (a++b)=tot a+tot b:=by simp[tot]
theorem iU:∀ps:List (List UInt8),ps.length<=tot ps
|[]=>by simp
|p::ps=>by have:=iU ps;simp only[tot,aiW,akX,ahU] at this ⊢;omega
end Pl
end
section
namespace Eng
open Go.RowKit
def aH (l:List UInt8):List Value:=l.map fun c=>.int .u8 (c.toNat:Int)
theorem fM (l:List UInt8):(aH l).length=l.length:=by simp[aH]
theorem gQ {l:List UInt8}{c:UInt8}(h:l[i]?=some c):(aH l)[i]?=some (.int .u8 (c.toNat:Int)):=by simp[aH,h]
section
variable {S:Nat->Prop}{P:Program}{w:World}{PK:PKT}{K:VWP}
theorem XY {T:TypeId}{cs:Array Bool}{l:List UInt8}(h:P.underlying T=some .string):(mB .len #[T] U cs #[.string ⟨l.toArray⟩]).run P w=.ok (.value (.int .i64 (l.length:Int))) w:=by
 simp[mB,builtin,Builtin.len_,run_underlying h,goInt,dK]
theorem Vn {k:IntKind}{b:Int}:DoX P (mB .min #[T1,T2] U cb #[.int k a,.int k' b]) w PK K=K (.int k (min a b)) w:=by
 refine aE ?_;have e:(if b < a then b else a)=min a b:=by split<;>omega
 simp[mB,builtin,Builtin.min_,Builtin.min2,e]
theorem My {S E:TypeId}{l:List UInt8}(hs:P.underlying S=some (.slice E))(he:P.underlying E=some (.int .u8))(hd:P.underlying D=some .string)(h:Sl w v 1 l.length (aH l)):DoX P (gL S D v) w PK K=K (.string ⟨l.toArray⟩) w:=by
 obtain⟨hl,a,cap,rfl,hn,hc⟩:=h;cases a with
|none=>
  have h0:=hn rfl;have:l=[]:=akY h0;subst this;exact fJ (run_convert_bytes_nil w S E hs he _ _ D hd)
|some p=>
  obtain⟨hsp,hcell⟩:=hc p rfl;by_cases h0:l=[]
  ·subst h0;refine fJ ?_;have hl0:(loadCells p 0).run P w=.ok (([]:List Int).map (Value.int .u8)).toArray w:=rfl;rw[show ([]:List UInt8).length=0 from rfl,run_convert_bytes_string w S D E _ 0 cap hs he hd,run_bytesToString w p 0 cap [] hl0];rfl
  replace hsp:=hsp (akN.2 h0)
  obtain⟨b,off,spot⟩:=p;simp only at hsp hcell;subst hsp;have:=run_convert_bytes_arg (P:=P) w S E hs he b off l.length cap (l.map fun c=>(c.toNat:Int)) sm (fun i hi=>by
   refine hcell i _ ?_;simp[aH,ahH hi]) D hd
  refine fJ ?_;rw[this];have e:strOfNums (l.map fun c=>(c.toNat:Int))=⟨l.toArray⟩:=by
   unfold strOfNums;rw[akZ]
   congr 2
   conv=>rhs;rw[<-List.map_id l]
   refine alW fun c _=>?_;simp
  rw[e]
theorem FE {L:List Ent}(ho:OwnS S w0 w L)(i:Nat){o o':Obj}(hi:L[i]?=some (.obj b o)):OwnS S w0 { w with heap:=w.heap.setIfInBounds b o' } (L.set i (.obj b o')):=by
 have h:w.heap[b]?=some o:=ho.at_ i hi;refine ho.put i hi (w':={ w with heap:=w.heap.setIfInBounds b o' }) ⟨rfl,rfl,rfl,sm,fun k _ hk=>?_⟩ (.obj b o') ?_ (fun k hk=>.inl hk)
 ·show (w.heap.setIfInBounds b o')[k]?=_;exact alJ (fun e=>hk (by simp[Ent.obj,e]))
 ·show (w.heap.setIfInBounds b o')[b]?=_;exact aoY (dR h)
theorem x1_0 {a:Value}:DoX P (mExt (.tuple #[a]) 0) w PK K=K a w:=nC (l:=[a]) rfl
theorem x2_0 {a b:Value}:DoX P (mExt (.tuple #[a,b]) 0) w PK K=K a w:=nC (l:=[a,b]) rfl
theorem x2_1 {a b:Value}:DoX P (mExt (.tuple #[a,b]) 1) w PK K=K b w:=nC (l:=[a,b]) rfl
theorem x3_0 {a b c:Value}:DoX P (mExt (.tuple #[a,b,c]) 0) w PK K=K a w:=nC (l:=[a,b,c]) rfl
theorem x3_1 {a b c:Value}:DoX P (mExt (.tuple #[a,b,c]) 1) w PK K=K b w:=nC (l:=[a,b,c]) rfl
theorem x3_2 {a b c:Value}:DoX P (mExt (.tuple #[a,b,c]) 2) w PK K=K c w:=nC (l:=[a,b,c]) rfl
theorem x4_0 {a b c d:Value}:DoX P (mExt (.tuple #[a,b,c,d]) 0) w PK K=K a w:=nC (l:=[a,b,c,d]) rfl
theorem x4_1 {a b c d:Value}:DoX P (mExt (.tuple #[a,b,c,d]) 1) w PK K=K b w:=nC (l:=[a,b,c,d]) rfl
theorem x4_2 {a b c d:Value}:DoX P (mExt (.tuple #[a,b,c,d]) 2) w PK K=K c w:=nC (l:=[a,b,c,d]) rfl
theorem x4_3 {a b c d:Value}:DoX P (mExt (.tuple #[a,b,c,d]) 3) w PK K=K d w:=nC (l:=[a,b,c,d]) rfl
end
theorem g_un {E:(VWP)->Prop}:GDo undef want E w K=K undef w:=propext ⟨fun x=>x.out,fun x=>⟨x⟩⟩
def ex:=And.intro @x1_0 (And.intro @x2_0 (And.intro @x2_1 (And.intro @x3_0 (And.intro @x3_1 (And.intro @x3_2 (And.intro @x4_0 (And.intro @x4_1 (And.intro @x4_2 @x4_3))))))))
theorem Jd {n:Int}(h1:0<=n)(h2:n<=255):IntKind.wrap .u8 n=n:=IntWalk.u8_in n ⟨h1,h2⟩
theorem CF {n:Int}(h1:-2147483648<=n)(h2:n<=2147483647):IntKind.wrap .i32 n=n:=IntWalk.i32_in n ⟨h1,h2⟩
theorem Qd {n:Int}(h1:0<=n)(h2:n<=18446744073709551615):IntKind.wrap .u64 n=n:=IntWalk.u64_in n ⟨h1,h2⟩
end Eng
end
end Go.Proofs.YtlipjfcbjemicaaGreatDoor
