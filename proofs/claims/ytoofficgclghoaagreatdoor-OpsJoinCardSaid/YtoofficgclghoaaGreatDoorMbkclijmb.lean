/- Texts that go together: ObM ObN ObO SLaw07 ObP ObQ ObR Plain05B Plain05C Plain05D Plain06 EngX EngY SSlc SlcA SMake SIdx OcIdx MkA SMake5 MkB MkC LxAF LxAG SLaw04B PlW SRef06 SParse PsA MkD MkE MkF EngZ MkG Plain19 DcA SDocs SRef19 DcB DcC SSlcI SlcI DcD DcE DcF Plain19B DcG EngAC PsB PsC Plain07B Plain38 SLabel SRef38 SCut LbA LbB LbC LbD LbE DcH STexts OcTx SSame SApart Plain07C ObS0 ObT DcI LbF Plain38B Plain38C Plain38D Plain38E Plain06B Plain06C Plain06D Plain06E PsD PsE PsF SMake6 PsG PsH PsI PsJ Plain06F EngAA PsK PsL PsM Plain08 Plain18 Plain18B Plain18C Plain08B Plain08D Plain08E Plain08F Plain08G Plain08H Plain43. -/
import Derived.Test.YtoofficgclghoaaGreatDoorRows
import Derived.Sort.Walk0
import Derived.Laws.CopyRow
import Derived.Lib.AppendZerosOnto
import Derived.Lib.SliceRun
import Derived.Lib.Overlaps
import Derived.Laws.Externs
import Derived.Lib.Repeat
import Derived.Lib.Case
import Derived.Maps.RangeRun
import Derived.Test.YtoofficgclghoaaGreatDoorMdemjkfdl
import Derived.Test.YtoofficgclghoaaGreatDoorMapflelmb
import Derived.Test.YtoofficgclghoaaGreatDoorMimbnmllp
set_option linter.defProp false
set_option linter.unusedSimpArgs false
set_option linter.unusedVariables false
set_option maxRecDepth 20000
open Go.Proofs.Tryz (prog)
namespace Go.Proofs.YtoofficgclghoaaGreatDoor
section
open Eng Go.RowKit
def Obw (wb:World)(W:World):Prop:=Tb W∧Kept (InW wb) wb W∧wb.heap.size≤W.heap.size
theorem parts_seq (wb:World)(o:Ob)(vk vc:Value)(cs:List Value)(b:Nat)(ha:ObAt (InW wb) wb o vk vc cs)(hb:o.wt≤100000000)(hc:Vl.check 1 o=0)(k9:o.k≠9) :
  Seq prog (Obw wb) 132 #[] #[.pointer (some ⟨b,0,none⟩)] [obE b o vk vc] (strsV (Wr.parts o)):=by
 intro S w0 w1 L0 lb df M0 R K hI ho hR hy hend;show Calls prog 132 #[.func (.yield lb) #[] #[],.pointer (some ⟨b,0,none⟩)] w1 K;refine S_write_parts_1_ok ?_;unfold S_write_parts_1;refine o_new (fun b=>.pointer (some ⟨b,0,none⟩)) [.func (.yield lb) #[] #[]] 30 (fun _=>by kernel_rfl) ho fun b1 w2 ho=>?_;refine o_new (fun b=>.pointer (some ⟨b,0,none⟩)) [.nilFunc] 62 (fun _=>by kernel_rfl) ho fun b2 w3 ho=>?_;rw[m_func];refine o_store 0 ho rfl (by kernel_rfl) rfl (by simp) fun w4 ho=>?_;have ho:OwnS S w0 w4 ([telE b1 b2,yldE b1 lb]++(loopE L0 lb df++(M0++[obE b o vk vc]))):=ho;rw[l_cell nFo (ho.cell 0 rfl 0 rfl),l_at ((show (Ent.cells b (obC o vk vc) 42).is w4 from ho.mem (by simp[obE])) |> fun h=>AtV.agg aggOb rfl fun j v hj=>by simpa using cells_cell h hj)];refine c_val tell_plain ?_;refine c_any (tell_any (InW wb) wb S w0 L0 lb df b1 b2 R (strsV (Wr.parts o)) (fun W=>K (.returned (.tuple #[])) W) (fun L W h=>⟨(hI L W h).1,(hI L W h).2.1⟩) (fun L W h b hb=>Nat.lt_of_lt_of_le hb (hI L W h).2.2) hy o.wt o _ 1 M0 ([telE b1 b2,yldE b1 lb]++[obE b o vk vc]) 0 w4
  (fun e w'=>(e=.returned (.bool true)∧∃M',R (0+(Wr.parts o).length) M'∧OwnS S w0 w' (loopE L0 lb df++(M'++([telE b1 b2,yldE b1 lb]++[obE b o vk vc]))))∨(e=.returned (.bool false)∧K (.returned (.tuple #[])) w'))
  (Nat.le_refl _) ha.ov hb hc (by omega) k9 (by simp) (by simp) (own_sink ho) hR ?_ (fun M' W' h1 h2=>.inl ⟨rfl,M',h1,h2⟩) (fun W' h=>.inr ⟨rfl,h⟩)) ?_
 ·intro j x hx;rw[Nat.zero_add];unfold strsV;rw[List.getElem?_map,hx];rfl
 ·rintro e w8 (⟨rfl,M5,hR5,ho5⟩|⟨rfl,hk⟩)
  ·simp only[Cont];refine hend M5 _ w8 ?_ ho5;rw[strsV_length,←Nat.zero_add (Wr.parts o).length];exact hR5
  ·exact hk
def slc7 (b:Nat)(v:Value):Ent:=.cells b [v] 39
theorem collectS_ret {I:World→Prop}{f:Nat}{fa ca:Array Value}{F:List Ent}{ns:List (List UInt8)}(hseq:Seq prog I f fa ca F (strsV ns))(hp:plainB prog f=true)(hl:ns.length≤100000000000)
  {S:Nat→Prop} {w0 w:World} {L:List Ent} (hI:∀(L:List Ent) (W:World),OwnS S w0 W L→I W) (ho:OwnS S w0 w (F++L)) :
  Ret prog 96 #[.func (.func f) fa ca] w (fun v w'=>OwnS S w0 w' (StrRow v ns::L)):=by
 refine ret_of fun K hK=>S_slices_Collect_string_ok ?_;unfold S_slices_Collect_string;refine c_any (S_slices_AppendSeq_string_string_ok (K:=RetK fun v w'=>OwnS S w0 w' (StrRow v ns::L)) ?_) (fun e w' ⟨v,he,hv⟩=>by subst he;exact hK _ _ hv);unfold S_slices_AppendSeq_string_string;have ho:=ho.nilRow 9 1;refine o_new (fun b=>.pointer (some ⟨b,0,none⟩)) [.slice none 0 0] 39 (fun _=>by kernel_rfl) ho fun b2 w1 ho=>?_;refine range ho hp fun L0 df lb w2 ho hy=>?_;refine hseq S w0 w2 L0 lb df (slc7 b2 (.slice none 0 0)::StrRow (.slice none 0 0) []::L) (fun k M=>∃v,M=slc7 b2 v::StrRow v (ns.take k)::L) _ hI ?_ ⟨.slice none 0 0,by rw[List.take_zero]⟩ ?_ ?_
 ·refine ho.perm ?_;show List.Perm (_::_::_::_::(F++L)) (_::_::_::_::(L++F));exact (List.Perm.cons _ (List.Perm.cons _ (List.Perm.cons _ (List.Perm.cons _ List.perm_append_comm))))
 ·rintro k v M X W hk ⟨u,rfl⟩ ho;obtain⟨x,hx,rfl⟩:=strs_get hk;have hkl:k < ns.length:=(List.getElem?_eq_some_iff.1 hx).1;have ho:OwnS S w0 W (.obj lb (lp L0 .ready none)::.obj df (.deferred (some []))::slc7 b2 u::StrRow u (ns.take k)::(L++X)):=ho;refine hy _ W _ (ho.at_ 0 rfl) rfl ?_;refine o_beg 0 ho rfl fun W3 ho=>?_;rw[l_cell nSlS5 (ho.cell 2 rfl 0 rfl)];refine o_appS1 3 ho rfl (by rw[List.length_take];omega) fun v' W4 ho=>?_;refine o_store 2 ho rfl (by kernel_rfl) (sl_one5 (ho.slRow 3 rfl)) (by simp) fun W5 ho=>?_;refine o_end 0 ho rfl fun W6 ho=>?_;refine .inl ⟨rfl,slc7 b2 v'::StrRow v' (ns.take (k+1))::L,⟨v',rfl⟩,?_⟩;have e:ns.take (k+1)=ns.take k++[x]:=by
   rw[List.take_succ_eq_append_getElem hkl,(List.getElem?_eq_some_iff.1 hx).2]
  rw[e];exact ho
 ·rintro M X W ⟨u,rfl⟩ ho;rw[strsV_length,List.take_length] at ho;refine⟨_,.ready,none,_,rfl,(by intro h;cases h),ho.at_ 0 rfl,List.mem_cons.2 (.inl rfl),?_⟩;have hp':OwnS S w0 (putO W lb (lp L0 .exhausted none)) (.obj lb (lp L0 .exhausted none)::.obj df (.deferred (some []))::slc7 b2 u::StrRow u ns::(L++X)):=put_iter (o':=lp L0 .exhausted none) ho 0 rfl;have hp':OwnS S w0 (putO W lb (lp L0 .exhausted none)) (.obj df (.deferred (some []))::slc7 b2 u::StrRow u ns::(L++X)):=hp'.tail;rw[l_cell nSlS5 (hp'.cell 1 rfl 0 rfl)];refine leave1 0 hp' rfl fun W4 ho=>?_;show RetK (fun v w'=>OwnS S w0 w' (StrRow v ns::L)) (.returned u) W4;refine retK ?_;exact ho.tail.tail.sub (.cons_cons _ (List.sublist_append_left _ _))
def txtV (x:List UInt8×Int):Value:=.tuple #[.string ⟨x.1.toArray⟩,.int .i64 x.2]
theorem parts_plain:plainB prog 132=true:=by kernel_rfl
theorem n_err {xo yo:Operand}{a b:Int}{w:World}{PK:PKT}{K:VWP}:DoX prog (mEq .neq 24 xo yo (.int .i64 a) (.int .i64 b)) w PK K=K (.bool (decide (a≠b))) w:=n_int
theorem wtext7_ret (o:Ob)(v:Value)(w:World)(ht:Tb w)(hov:OV (InW w) w v o)(hb:o.wt≤100000000):Ret prog 56 #[v] w (fun v w'=>v=txtV (Wr.text o)∧Below w.heap.size w w'):=by
 obtain⟨vk,vc,cs,rfl,ha⟩:=hov.open;refine ret_of fun K hK=>S_write_Text_ok ?_;unfold S_write_Text;refine o_obb o ha.keys.one ha.kids.one (Own.start w) fun b w1 ho=>?_;rw[ob_v ho 0 rfl];refine c_told (vCheck_ret o _ w1 (ha.in_ ho).ov (by omega)) rfl ho fun w2 ho=>?_;rw[n_err];by_cases hc:Vl.check 1 o=0
 case neg=>
  simp only[ne_eq,hc,not_false_eq_true,decide_true,i_t];refine hK _ _ ⟨?_,ho.done⟩;simp[Wr.text,hc,txtV]
 simp only[hc,ne_eq,not_true,decide_false,i_f];rw[fa_o0,ob_k ho 0 rfl];simp only[rs];by_cases k9:o.k=9
 ·simp only[k9,decide_true,i_t];refine hK _ _ ⟨?_,ho.done⟩;simp[Wr.text,hc,k9,txtV]
 simp only[k9,decide_false,i_f];rw[ob_v ho 0 rfl];have ha2:=ha.own ho;refine c_any (S_write_parts_ok (K:=RetK fun v w'=>∃b,v=.func (.func 132) #[] #[.pointer (some ⟨b,0,none⟩)]∧Own w w' [obE b o vk vc]) ?_) ?_
 ·unfold S_write_parts;refine o_obb o ha.keys.one ha.kids.one ho fun b' w3 ho=>?_;rw[m_func];exact⟨_,rfl,b',rfl,ho.sub (.cons_cons _ (List.nil_sublist _))⟩
 ·rintro e w3 ⟨_,rfl,b',rfl,ho⟩;have hpl:=Wr.parts_len o;have hpt:=Wr.parts_tot o;refine c_ret (collectS_ret (S:=NoB) (w0:=w) (L:=[]) (parts_seq w o vk vc cs b' ha hb hc k9) parts_plain (by omega) (fun L W h=>⟨ht.own h,OwnS.keptIn h,h.size⟩) (by simpa using ho)) ?_;intro v4 w4 ho;refine c_told (pjoin_ret (Wr.parts o) v4 w4 (ho.slRow 0 rfl) (by omega)) rfl ho fun w5 ho=>?_;refine hK _ _ ⟨?_,ho.done⟩;simp[Wr.text,hc,k9,txtV]
end
end Go.Proofs.YtoofficgclghoaaGreatDoor

namespace Go.Proofs.YtoofficgclghoaaGreatDoor
section
open Eng Go.RowKit
abbrev nilS:Value:=.slice none 0 0
abbrev ob1 (k n g:Int)(s:List UInt8):Ob:=.mk k n g s [] []
theorem ov_plain {A:Nat→Prop}{w:World}(k n g:Int)(s:List UInt8):OV A w (obV (ob1 k n g s) nilS nilS) (ob1 k n g s):=ObAt.ov (cs:=[]) ⟨SlA.nil _ _ _ _,SlA.nil _ _ _ _,OVs.nil⟩
theorem ovs_cons {A:Nat→Prop}{w:World}{o:Ob}{vk vc:Value}{rest:List Value}{os:List Ob}(h:OV A w (obV o vk vc) o)(hr:OVs A w rest os):OVs A w (obC o vk vc++rest) (o::os):=by
 rw[OVs];exact⟨obC o vk vc,rest,rfl,rfl,h,hr⟩
section
variable {w:World}{S:Nat→Prop}{w0:World}{L:List Ent}
theorem ret_ob {K:Ending→World→Prop}{b:Nat}{o:Ob}{vk vc:Value}(ho:OwnS S w0 w (obE b o vk vc::L))(k:K (.returned (obV o vk vc)) w):RetX prog [.cell (.pointer (some ⟨b,0,none⟩)) 42] w K:=ret_v1 (rv_cell (ho.agg 0 rfl aggOb)) k
end
def obR (o:Ob)(vk vc:Value)(w:World):VWP:=fun v w'=>v=obV o vk vc∧Below w.heap.size w w'
end
end Go.Proofs.YtoofficgclghoaaGreatDoor




namespace Go.Proofs.YtoofficgclghoaaGreatDoor
section
open Go
namespace Vl
theorem less_lt (a b:List UInt8):less a b=true↔a < b:=by rw[less,bytesLess_eq,decide_eq_true_eq]
theorem less_trans {a b c:List UInt8}(h:less a b=true)(k:less b c=true):less a c=true:=by
 rw[less_lt] at *;exact List.lt_trans h k
theorem less_total {a b:List UInt8}(h:less a b=false)(h':a≠b):less b a=true:=by
 have h1:¬a < b:=by rw[←less_lt,h];simp
 rw[less_lt];rcases Classical.em (b < a) with h2|h2
 ·exact h2
 ·exact absurd (List.le_antisymm (List.not_lt.1 h2) (List.not_lt.1 h1)) h'
def Rise (l:List (List UInt8)):Prop:=l.Pairwise fun a b=>less a b=true
def place (l:List (List UInt8))(x:List UInt8):Nat:=(l.takeWhile fun k=>less k x).length
def hit (l:List (List UInt8))(x:List UInt8):Bool:=decide (l[place l x]?=some x)
theorem place_le (l:List (List UInt8))(x:List UInt8):place l x≤l.length:=(List.takeWhile_prefix _).length_le
theorem place_lt {l:List (List UInt8)}{x:List UInt8}{m:Nat}(h:m < place l x):less (l[m]'(Nat.lt_of_lt_of_le h (place_le l x))) x=true:=by
 unfold place at h;have hm:=List.all_takeWhile (l:=l) (p:=fun k=>less k x);have h1:(l.takeWhile fun k=>less k x)[m]∈l.takeWhile fun k=>less k x:=List.getElem_mem h;have h2:=List.all_eq_true.1 hm _ h1;have h3:(l.takeWhile fun k=>less k x)[m]=l[m]'(Nat.lt_of_lt_of_le h (place_le l x)):=by
  have hp:(l.takeWhile fun k=>less k x) <+: l:=List.takeWhile_prefix _;exact hp.getElem h
 rw[h3] at h2;exact h2
theorem place_ge {l:List (List UInt8)}{x:List UInt8}(h:place l x < l.length):less l[place l x] x=false:=by
 unfold place at h ⊢
 induction l with
|nil=>simp at h
|cons a l ih=>
  cases ha:less a x with
 |false=>simp only[List.takeWhile_cons,ha];simpa using ha
 |true=>
   simp only[List.takeWhile_cons,ha,if_true,List.length_cons] at h ⊢;rw[List.getElem_cons_succ];exact ih (by simpa using h)
theorem rise_get {l:List (List UInt8)}(h:Rise l){i j:Nat}(hij:i < j)(hj:j < l.length):less (l[i]'(by omega)) l[j]=true:=List.pairwise_iff_getElem.1 h i j (by omega) hj hij
def ob0:Ob:=.mk 0 0 0 [] [] []
def put (o:Ob)(key:List UInt8)(v:Ob):Ob:=
 .mk o.k o.n o.g o.s (o.keys.take (place o.keys key)++key::o.keys.drop (place o.keys key+if hit o.keys key then 1 else 0)) (o.kids.take (place o.keys key)++v::o.kids.drop (place o.keys key+if hit o.keys key then 1 else 0))
end Vl
end
section
open Go
namespace Vl
theorem tot_split (l:List (List UInt8))(i:Nat):Pl.tot (l.take i)+Pl.tot (l.drop i)=Pl.tot l:=by
 rw[←Pl.tot_append,List.take_append_drop]
theorem wts_app:∀a b:List Ob,Ob.wts (a++b)=Ob.wts a+Ob.wts b
|[],b=>by rw[List.nil_append,Ob.wts];omega
|o::a,b=>by rw[List.cons_append,Ob.wts,Ob.wts,wts_app a b];omega
theorem wts_split (l:List Ob)(i:Nat):Ob.wts (l.take i)+Ob.wts (l.drop i)=Ob.wts l:=by
 rw[←wts_app,List.take_append_drop]
theorem drop_tot (l:List (List UInt8))(i j:Nat)(h:i≤j):Pl.tot (l.drop j)≤Pl.tot (l.drop i):=by
 have:=tot_split (l.drop i) (j - i);rw[List.drop_drop,show i+(j - i)=j by omega] at this;omega
theorem drop_wts (l:List Ob)(i j:Nat)(h:i≤j):Ob.wts (l.drop j)≤Ob.wts (l.drop i):=by
 have:=wts_split (l.drop i) (j - i);rw[List.drop_drop,show i+(j - i)=j by omega] at this;omega
theorem wt_eq (o:Ob):o.wt=6+o.s.length+Pl.tot o.keys+Ob.wts o.kids:=by cases o;rw[Ob.wt];rfl
theorem put_wt (o:Ob)(key:List UInt8)(v:Ob):(put o key v).wt≤o.wt+(key.length+1)+v.wt:=by
 rw[wt_eq (put o key v),wt_eq o];rw[show (put o key v).s=o.s from rfl,show (put o key v).keys=o.keys.take (place o.keys key)++key::o.keys.drop (place o.keys key+if hit o.keys key then 1 else 0) from rfl,
  show (put o key v).kids=o.kids.take (place o.keys key)++v::o.kids.drop (place o.keys key+if hit o.keys key then 1 else 0) from rfl]
 rw[Pl.tot_append,wts_app];have h1:=tot_split o.keys (place o.keys key);have h2:=drop_tot o.keys (place o.keys key) (place o.keys key+if hit o.keys key then 1 else 0) (by omega);have h3:=wts_split o.kids (place o.keys key);have h4:=drop_wts o.kids (place o.keys key) (place o.keys key+if hit o.keys key then 1 else 0) (by omega);have h5:∀l,Pl.tot (key::l)=key.length+1+Pl.tot l:=fun l=>by simp[Pl.tot]
 rw[h5,Ob.wts];omega
end Vl
end
section
open Go
namespace Vl
theorem rise_put {o:Ob}{key:List UInt8}{v:Ob}(h:Rise o.keys)(hl:o.keys.length=o.kids.length):Rise (put o key v).keys∧(put o key v).keys.length=(put o key v).kids.length:=by
 have hp:=place_le o.keys key;refine⟨?_,?_⟩
 ·show Rise (o.keys.take (place o.keys key)++key::o.keys.drop (place o.keys key+if hit o.keys key then 1 else 0));have hlo:∀x∈o.keys.take (place o.keys key),less x key=true:=by
   intro x hx;obtain⟨m,hm,rfl⟩:=List.getElem_of_mem hx;rw[List.length_take] at hm;rw[List.getElem_take];exact place_lt (by omega)
  have hhi:∀x∈o.keys.drop (place o.keys key+if hit o.keys key then 1 else 0),less key x=true:=by
   intro x hx;cases hh:hit o.keys key with
  |true=>
    rw[hh] at hx;obtain⟨m,hm,rfl⟩:=List.getElem_of_mem hx;simp only[if_true,List.length_drop] at hm;have hi:o.keys[place o.keys key]?=some key:=of_decide_eq_true hh;have hg:o.keys[place o.keys key]=key:=(List.getElem?_eq_some_iff.1 hi).2;have:=rise_get h (i:=place o.keys key) (j:=place o.keys key+1+m) (by omega) (by omega);rw[hg] at this;simpa using this
  |false=>
    rw[hh] at hx;obtain⟨m,hm,rfl⟩:=List.getElem_of_mem hx;simp only[Bool.false_eq_true,if_false,List.length_drop] at hm;have hlt:place o.keys key < o.keys.length:=by omega
    have hge:=place_ge hlt;have hne:o.keys[place o.keys key]≠key:=by
     intro e;unfold hit at hh;rw[List.getElem?_eq_getElem hlt,e] at hh;simp at hh
    have hk:=less_total hge hne;rcases Nat.eq_zero_or_pos m with h0|h0
    ·subst h0;simpa using hk
    ·have:=rise_get h (i:=place o.keys key) (j:=place o.keys key+m) (by omega) (by omega);simpa using less_trans hk this
  refine List.pairwise_append.2 ⟨h.sublist (List.take_sublist _ _),List.pairwise_cons.2 ⟨hhi,h.sublist (List.drop_sublist _ _)⟩,fun a ha b hb=>?_⟩;rcases List.mem_cons.1 hb with rfl|hb
  ·exact hlo a ha
  ·exact less_trans (hlo a ha) (hhi b hb)
 ·show (o.keys.take (place o.keys key)++key::o.keys.drop (place o.keys key+if hit o.keys key then 1 else 0)).length=(o.kids.take (place o.keys key)++v::o.kids.drop (place o.keys key+if hit o.keys key then 1 else 0)).length;simp only[List.length_append,List.length_take,List.length_cons,List.length_drop];omega
end Vl
end
section
open Go
namespace Ps
open Lx (next Tok)
abbrev R:=Ob×Int×Int
def bad (e:Int):R:=(Vl.ob0,0,e)
def tru:List UInt8:=[116,114,117,101]
def fal:List UInt8:=[102,97,108,115,101]
def nul:List UInt8:=[110,117,108,108]
def begins (t:Tok):Bool:=
 if t.k=6 then decide (t.s=[91])||decide (t.s=[60,60]) else !decide (t.k=0)&&(!decide (t.k=5)||decide (t.s=tru)||decide (t.s=fal)||decide (t.s=nul))
def ref (s:List UInt8)(t:Tok):Option (Int×Int):=
 if t.n < 1∨8191 < t.n then none
 else if (next s t.t).2≠0∨(next s t.t).1.k≠1∨(next s t.t).1.n < 0∨65535 < (next s t.t).1.n then none
 else if (next s (next s t.t).1.t).2=0∧(next s (next s t.t).1.t).1.k=5∧(next s (next s t.t).1.t).1.s=[82] then some ((next s t.t).1.n,(next s (next s t.t).1.t).1.t)
 else none
def leaf (s:List UInt8)(t:Tok):R:=
 if t.k=1 then match ref s t with
 |some p=>(.mk 8 t.n p.1 [] [] [],p.2,0)
 |none=>(.mk 2 t.n 0 [] [] [],t.t,0)
 else if t.k=2 then (.mk 3 t.n 0 [] [] [],t.t,0)
 else if t.k=3 then (.mk 4 0 0 t.s [] [],t.t,0)
 else if t.k=4 then (.mk 5 0 0 t.s [] [],t.t,0)
 else if t.s=nul then (Vl.ob0,t.t,0)
 else (.mk 1 (if t.s=tru then 1 else 0) 0 [] [] [],t.t,0)
def arr (s:List UInt8)(ok:Bool)(sub:Int→R):Nat→Int→List Ob→R
|0,_,_=>bad 99
|m+1,at_,acc=>
  if (next s at_).2=0∧(next s at_).1.k=6∧(next s at_).1.s=[93] then (.mk 6 0 0 [] [] acc,(next s at_).1.t,0)
  else if (next s at_).2=0∧acc.length=8191∧begins (next s at_).1=true∧ok=true then bad 6
  else if (next s at_).2≠0 then bad (next s at_).2
  else if (sub at_).2.2≠0 then bad (sub at_).2.2
  else arr s ok sub m (sub at_).2.1 (acc++[(sub at_).1])
def join (o:Ob)(k:List UInt8)(v:Ob):Ob:=if v.k≠0 then Vl.put o k v else o
def dict (s:List UInt8)(sub:Int→R):Nat→Int→Ob→List (List UInt8)→R
|0,_,_,_=>bad 99
|m+1,at_,o,met=>
  if (next s at_).2≠0 then bad (next s at_).2
  else if (next s at_).1.k=6∧(next s at_).1.s=[62,62] then (o,(next s at_).1.t,0)
  else if (next s at_).1.k=0 then bad 4
  else if (next s at_).1.k≠4 then bad 3
  else if (next s at_).1.s∈met then bad 9
  else if met.length=8191 then bad 6
  else if (sub (next s at_).1.t).2.2≠0 then bad (sub (next s at_).1.t).2.2
  else dict s sub m (sub (next s at_).1.t).2.1 (join o (next s at_).1.s (sub (next s at_).1.t).1) (met++[(next s at_).1.s])
def dict0:Ob:=.mk 7 0 0 [] [] []
def obj (s:List UInt8):Nat→Int→R
|n,at_=>
  if (next s at_).2≠0 then bad (next s at_).2
  else if (next s at_).1.k=0 then bad 4
  else if begins (next s at_).1=false then bad 3
  else match n with
  |0=>bad 7
  |n+1=>
    if (next s at_).1.k≠6 then leaf s (next s at_).1
    else if (next s at_).1.s=[91] then arr s (decide (n≠0)) (obj s n) (s.length+1) (next s at_).1.t []
    else dict s (obj s n) (s.length+1) (next s at_).1.t dict0 []
def object (s:List UInt8)(at_:Int):R:=if at_ < 0∨(s.length:Int) < at_ then bad 1 else obj s 24 at_
theorem ref_bd {s:List UInt8}{t:Tok}{p:Int×Int}(h:ref s t=some p):t.t < p.2∧p.2≤s.length∧1≤t.n∧t.n≤8191∧0≤p.1∧p.1≤65535:=by
 unfold ref at h;split at h
 ·cases h
 rename_i h0
 split at h
 ·cases h
 rename_i h1
 split at h
 ·rename_i h2
  simp only[not_or,Classical.not_not] at h1;cases h;have b1:=Lx.next_bd h1.1 (by rw[h1.2.1];decide);have b2:=Lx.next_bd h2.1 (by rw[h2.2.1];decide);have:=Lx.skip_ge s t.t.toNat;have:=Lx.skip_ge s (next s t.t).1.t.toNat;simp only;omega
 ·cases h
theorem leaf_bd {s:List UInt8}{at_:Int}(h0:(next s at_).2=0)(hk:(next s at_).1.k≠0):(leaf s (next s at_).1).2.2=0∧at_ < (leaf s (next s at_).1).2.1∧(leaf s (next s at_).1).2.1≤s.length:=by
 have b:=Lx.next_bd h0 hk;have:=Lx.skip_ge s at_.toNat;unfold leaf;split
 ·cases hr:ref s (next s at_).1 with
 |some p=>
   have:=ref_bd hr;exact⟨rfl,by show at_ < p.2;omega,by show p.2≤_;omega⟩
 |none=>exact⟨rfl,by show at_ < (next s at_).1.t;omega,b.2.2.2.2⟩
 all_goals (repeat' split)<;>exact⟨rfl,by show at_ < (next s at_).1.t;omega,b.2.2.2.2⟩
def Good (s:List UInt8)(sub:Int→R):Prop:=∀a,(sub a).2.2=0→a < (sub a).2.1∧(sub a).2.1≤s.length
theorem arr_bd {s:List UInt8}{ok:Bool}{sub:Int→R}(hg:Good s sub):∀(m:Nat) (a:Int) (acc:List Ob),(arr s ok sub m a acc).2.2=0→a < (arr s ok sub m a acc).2.1∧(arr s ok sub m a acc).2.1≤s.length
|0,a,acc,h=>by simp[arr,bad] at h
|m+1,a,acc,h=>by
  rw[arr] at h ⊢;split at h
  ·rename_i h1
   rw[if_pos h1];have b:=Lx.next_bd h1.1 (by rw[h1.2.1];decide);have:=Lx.skip_ge s a.toNat;exact⟨by show a < (next s a).1.t;omega,b.2.2.2.2⟩
  rename_i h1
  rw[if_neg h1];split at h
  ·simp[bad] at h
  rename_i h2
  rw[if_neg h2];split at h
  ·rename_i h3;exact absurd h h3
  rename_i h3
  rw[if_neg h3];split at h
  ·rename_i h4;exact absurd h h4
  rename_i h4
  rw[if_neg h4];have b:=hg a (Classical.not_not.1 h4);have c:=arr_bd hg m _ _ h;exact⟨by omega,c.2⟩
theorem dict_bd {s:List UInt8}{sub:Int→R}(hg:Good s sub):∀(m:Nat) (a:Int) (o:Ob) (met:List (List UInt8)),(dict s sub m a o met).2.2=0→a < (dict s sub m a o met).2.1∧(dict s sub m a o met).2.1≤s.length
|0,a,o,met,h=>by simp[dict,bad] at h
|m+1,a,o,met,h=>by
  rw[dict] at h ⊢;split at h
  ·rename_i h1;exact absurd h h1
  rename_i h1
  rw[if_neg h1];have h1:=Classical.not_not.1 h1;split at h
  ·rename_i h2
   rw[if_pos h2];have b:=Lx.next_bd h1 (by rw[h2.1];decide);have:=Lx.skip_ge s a.toNat;exact⟨by show a < (next s a).1.t;omega,b.2.2.2.2⟩
  rename_i h2
  rw[if_neg h2];split at h
  ·simp[bad] at h
  rename_i h3
  rw[if_neg h3];split at h
  ·simp[bad] at h
  rename_i h4
  rw[if_neg h4];split at h
  ·simp[bad] at h
  rename_i h5
  rw[if_neg h5];split at h
  ·simp[bad] at h
  rename_i h6
  rw[if_neg h6];split at h
  ·rename_i h7;exact absurd h h7
  rename_i h7
  rw[if_neg h7];have b:=Lx.next_bd h1 h3;have:=Lx.skip_ge s a.toNat;have b2:=hg _ (Classical.not_not.1 h7);have c:=dict_bd hg m _ _ _ h;exact⟨by omega,c.2⟩
theorem obj_good (s:List UInt8):∀n,Good s (obj s n):=by
 intro n
 induction n with
|zero=>
  intro a h;rw[obj] at h;split at h
  ·rename_i h1;exact absurd h h1
  split at h
  ·simp[bad] at h
  split at h
  ·simp[bad] at h
  ·simp[bad] at h
|succ n ih=>
  intro a h;rw[obj] at h ⊢;split at h
  ·rename_i h1;exact absurd h h1
  rename_i h1
  rw[if_neg h1];have h1:=Classical.not_not.1 h1;split at h
  ·simp[bad] at h
  rename_i h2
  rw[if_neg h2];split at h
  ·simp[bad] at h
  rename_i h3
  rw[if_neg h3];have b:=Lx.next_bd h1 h2;have:=Lx.skip_ge s a.toNat
  try simp only at h ⊢
  split at h
  ·rename_i h4
   rw[if_pos h4];exact (leaf_bd h1 h2).2
  rename_i h4
  rw[if_neg h4];split at h
  ·rename_i h5
   rw[if_pos h5];have c:=arr_bd ih _ _ _ h;exact⟨by omega,c.2⟩
  ·rename_i h5
   rw[if_neg h5];have c:=dict_bd ih _ _ _ _ h;exact⟨by omega,c.2⟩
theorem obj_bd {s:List UInt8}{n:Nat}{a:Int}(h:(obj s n a).2.2=0):a < (obj s n a).2.1∧(obj s n a).2.1≤s.length:=obj_good s n a h
end Ps
end
section
namespace Eng
open Go.RowKit
structure Mem where
 A:Nat→Prop
 w:World
 lt:∀b,A b→b < w.heap.size
def Mem.has (M:Mem)(w:World):Prop:=∀b,M.A b→w.heap[b]?=M.w.heap[b]?
structure Mem.le (M N:Mem):Prop where
 A:∀b,M.A b→N.A b
 has:M.has N.w
def Mem.all (w:World):Mem:=⟨fun b=>b < w.heap.size,w,fun _ h=>h⟩
theorem Mem.all_has (w:World):(Mem.all w).has w:=fun _ _=>rfl
theorem Mem.le_refl (M:Mem):M.le M:=⟨fun _ h=>h,fun _ _=>rfl⟩
theorem Mem.le_trans {M N O:Mem}(h:M.le N)(k:N.le O):M.le O:=⟨fun b hb=>k.A b (h.A b hb),fun b hb=>(k.has b (h.A b hb)).trans (h.has b hb)⟩
theorem Mem.has_of {M N:Mem}{w:World}(h:M.le N)(k:N.has w):M.has w:=fun b hb=>(k b (h.A b hb)).trans (h.has b hb)
theorem Mem.bd {M:Mem}{w:World}(h:M.has w){b:Nat}(hb:M.A b):b < w.heap.size:=by
 have h1:=h b hb;rw[Array.getElem?_eq_getElem (M.lt b hb)] at h1;exact lt_of_get h1
theorem Mem.has_below {M:Mem}{w w':World}(h:M.has w)(k:Below w.heap.size w w'):M.has w':=fun b hb=>(k.block b (Mem.bd h hb)).trans (h b hb)
def Ent.mem (M:Mem):Ent:=⟨M.A,M.has,fun h k b hb=>(k b hb).trans (h b hb),fun h k hk=>Mem.bd h hk⟩
structure Gives (M:Mem) (w w':World) (N:Mem):Prop where
 le:M.le N
 has:N.has w'
 new:∀b,N.A b→M.A b∨w.heap.size≤b
 below:Below w.heap.size w w'
def RetM (P:Program)(f:Nat)(args:Array Value)(M:Mem)(w:World)(R:Value→Mem→Prop):Prop:=Ret P f args w (fun v w'=>∃N,Gives M w w' N∧R v N)
section
variable {S:Nat→Prop}{P:Program}{w w0:World}{L:List Ent}{PK:PKT}{K:VWP}
theorem OwnS.memS {M:Mem}(h:M.has w):OwnS M.A w w [.mem M]:=OwnS.lend (e:=.mem M) h
theorem OwnS.hasM {M:Mem}(ho:OwnS S w0 w L)(i:Nat)(hi:L[i]?=some (.mem M)):M.has w:=ho.at_ i hi
theorem OwnS.gives {M N:Mem}{w':World}(ho:OwnS S w0 w L)(i:Nat)(hi:L[i]?=some (.mem M))(g:Gives M w w' N):OwnS S w0 w' (L.set i (.mem N)):=
 ho.turn i hi ⟨grew_below g.below,g.has,g.new⟩
theorem OwnS.toGives {M0 N:Mem}{w':World}(ho:OwnS M0.A w w' L)(i:Nat)(hi:L[i]?=some (.mem N))(hle:M0.le N)(h0:M0.has w):Gives M0 w w' N:=by
 have hm:=ho.all (.mem N) (List.mem_of_getElem? hi);refine⟨hle,hm.1,fun b hb=>hm.2 b hb,ho.grew.os,ho.grew.tape,ho.grew.output,ho.grew.size,fun k hk=>?_⟩;by_cases hA:M0.A k
 ·rw[h0 k hA];have h1:w'.heap[k]?=N.w.heap[k]?:=hm.1 k (hle.A k hA);rw[h1];exact hle.has k hA
 ·exact ho.grew.block k hk hA
theorem retM_of {f:Nat}{args:Array Value}{M:Mem}{R:Value→Mem→Prop}(hM:M.has w)
  (h:∀K:Ending→World→Prop,(∀(v:Value) (w':World) (N:Mem) (L:List Ent) (i:Nat),OwnS M.A w w' L→L[i]?=some (.mem N)→M.le N→R v N→K (.returned v) w')→Calls P f args w K):RetM P f args M w R:=
 ret_of fun K hK=>h K fun v w' N L i ho hi hle hr=>hK v w' ⟨N,ho.toGives i hi hle hM,hr⟩
theorem c_mem {f:Nat}{args:Array Value}{M:Mem}{R:Value→Mem→Prop}(ho:OwnS S w0 w L)(i:Nat)(hi:L[i]?=some (.mem M))(h:RetM P f args M w R)
  (k:∀v N w',M.le N→R v N→OwnS S w0 w' (L.set i (.mem N))→K v w'):CallX P f args w PK K:=
 c_ret h fun v w' ⟨N,g,r⟩=>k v N w' g.le r (ho.gives i hi g)
theorem OwnS.freeze {M:Mem}{e:Ent}(ho:OwnS S w0 w (e::L))(i:Nat)(hi:L[i]?=some (.mem M)) :
  ∃N:Mem,M.le N∧N.w=w∧(∀b,e.blk b→N.A b)∧OwnS S w0 w (L.set i (.mem N)):=by
 have he:=ho.all e (by simp);have hM:M.has w:=ho.at_ (i+1) (by simpa using hi);have hlt:∀b,M.A b∨e.blk b→b < w.heap.size:=fun b hb=>hb.elim (fun h=>Mem.bd hM h) (fun h=>e.lt he.1 b h)
 let N:Mem:=⟨fun b=>M.A b∨e.blk b,w,hlt⟩
 have hil:i < L.length:=(List.getElem?_eq_some_iff.1 hi).1;have hie:L[i]=.mem M:=(List.getElem?_eq_some_iff.1 hi).2;obtain⟨a1,a2⟩:=List.pairwise_cons.1 ho.apart;have hp:=List.pairwise_iff_getElem.1 a2;have bM:∀k,M.A k→(L[i]).blk k:=fun k hk=>by rw[hie];exact hk
 refine⟨N,⟨fun b hb=>.inl hb,hM⟩,rfl,fun b hb=>.inr hb,ho.grew,?_,?_⟩
 ·intro f hf;obtain⟨j,hj,rfl⟩:=List.getElem_of_mem hf;rw[List.length_set] at hj;rw[List.getElem_set];split
  ·refine⟨fun b _=>rfl,fun k hk=>?_⟩;rcases hk with hk|hk
   ·exact (ho.all (.mem M) (by rw[←hie];exact List.mem_cons_of_mem _ (List.getElem_mem hil))).2 k hk
   ·exact he.2 k hk
  ·exact ho.all _ (List.mem_cons_of_mem _ (List.getElem_mem hj))
 ·rw[List.pairwise_iff_getElem];intro a b ha hb hab k hk;rw[List.length_set] at ha hb;rw[List.getElem_set] at hk;rw[List.getElem_set];split at hk
  ·rename_i hia
   subst hia;rw[if_neg (by omega)];rcases hk with hk|hk
   ·exact hp i b ha hb hab k (bM k hk)
   ·exact a1 _ (List.getElem_mem hb) k hk
  ·split
   ·rename_i hib
    subst hib;intro hk';rcases hk' with hk'|hk'
    ·exact hp a i ha hb hab k hk (bM k hk')
    ·exact a1 _ (List.getElem_mem ha) k hk' hk
   ·exact hp a b ha hb hab k hk
end
end Eng
open Eng Go.RowKit
theorem SlA.le {M N:Mem}(h:M.le N){v:Value}{sz n:Nat}{cs:List Value}(hs:SlA M.A M.w v sz n cs):SlA N.A N.w v sz n cs:=by
 have:=hs.kept (w':=N.w) h.has;exact⟨this.1,(fun p l c e hn=>h.A _ (this.2.1 p l c e hn)),this.2.2⟩
theorem SlA.now {M:Mem}{w:World}(h:M.has w){v:Value}{sz n:Nat}{cs:List Value}(hs:SlA M.A M.w v sz n cs):Sl w v sz n cs:=(hs.kept (w':=w) h).1
theorem OV.le {M N:Mem}(h:M.le N){v:Value}{o:Ob}(hv:OV M.A M.w v o):OV N.A N.w v o:=OV.mono h.A o v (OV.kept h.has o v hv)
theorem OVs.le {M N:Mem}(h:M.le N){cs:List Value}{os:List Ob}(hv:OVs M.A M.w cs os):OVs N.A N.w cs os:=OVs.mono h.A os cs (OVs.kept h.has os cs hv)
theorem OV.inw {M:Mem}{w:World}(h:M.has w){v:Value}{o:Ob}(hv:OV M.A M.w v o):OV (InW w) w v o:=OV.mono (fun b hb=>Mem.bd h hb) o v (OV.kept h o v hv)
end
section
namespace Eng
open Go.RowKit
section
variable {S:Nat→Prop}{P:Program}{w w0:World}{L:List Ent}{PK:PKT}{K:VWP}
def subA (a:Option Addr)(l cap sz:Nat):Option Addr:=if cap=l then a else a.map (·.add (l*sz))
theorem run_sl_l {T E:TypeId}{k:IntKind}{a:Option Addr}{n cap sz:Nat}{lo:Int}(h:P.underlying T=some (.slice E))(hsz:(P.info? E).map (·.size)=some sz)(h0:0≤lo)(h1:lo≤n) :
  (mSlice T (.slice a n cap) (some (.int k lo)) none none).run P w=.ok (.value (.slice (subA a lo.toNat cap sz) (n - lo.toNat) (cap - lo.toNat))) w:=by
 obtain⟨i,hi,h2⟩:=Option.map_eq_some_iff.1 hsz;have he:P.elem T=E:=by simp[Program.elem,h]
 have ht:P.underlying T=some (.slice (P.elem T)):=by rw[he];exact h
 refine mv_run ?_;rw[run_sliceAt_slice w T _ _ _ _ ht,run_slice_l w T a n cap ht k lo h0 h1];simp[sizeOf,typeInfo,he,hi,h2,sliced,subA]
theorem run_sl_h {T E:TypeId}{k:IntKind}{a:Option Addr}{n cap sz:Nat}{hi:Int}(h:P.underlying T=some (.slice E))(hsz:(P.info? E).map (·.size)=some sz)(h0:0≤hi)(h1:hi≤cap) :
  (mSlice T (.slice a n cap) none (some (.int k hi)) none).run P w=.ok (.value (.slice (subA a 0 cap sz) hi.toNat cap)) w:=by
 obtain⟨i,hi',h2⟩:=Option.map_eq_some_iff.1 hsz;have he:P.elem T=E:=by simp[Program.elem,h]
 have ht:P.underlying T=some (.slice (P.elem T)):=by rw[he];exact h
 refine mv_run ?_;rw[run_sliceAt_slice w T _ _ _ _ ht,run_slice_h w T a n cap ht k hi h0 h1];simp[sizeOf,typeInfo,he,hi',h2,sliced,subA]
theorem run_len_sl {T U E:TypeId}{cb:Array Bool}{a:Option Addr}{n cap:Nat}(h:P.underlying T=some (.slice E)):(mB .len #[T] U cb #[.slice a n cap]).run P w=.ok (.value (.int .i64 (n:Int))) w:=by
 simp[mB,builtin,Builtin.len_,run_underlying h,goInt]
theorem mem_urow {M N:Mem}{T:TypeId}{sz:Nat}{v:Value}{n:Nat}{xs:List Value}(hw:N.w=w)(hb:∀b,(Ent.urow T sz v n xs).blk b→N.A b)(h:(Ent.urow T sz v n xs).is w):SlA N.A N.w v sz n xs:=by
 rw[hw];refine⟨Sl.urow h,fun p l c e hn=>hb _ ?_,fun a l c e=>?_⟩
 ·rcases (show w.ownsRow 0 T sz v n xs from h).2 with ⟨rfl,h0⟩|⟨g,cap,cur,rfl,_⟩
  ·cases e
  ·injection e with e1 _ _
   injection e1 with e1
   rw[←e1];rfl
 ·rcases (show w.ownsRow 0 T sz v n xs from h).2 with ⟨rfl,h0⟩|⟨g,cap,cur,rfl,_,_,hnc,_⟩
  ·injection e with _ e2 e3;omega
  ·injection e with _ e2 e3;omega
theorem OwnS.freezeU {M:Mem}{T:TypeId}{sz:Nat}{v:Value}{n:Nat}{xs:List Value}(ho:OwnS S w0 w (.urow T sz v n xs::L))(i:Nat)(hi:L[i]?=some (.mem M)) :
  ∃N:Mem,M.le N∧SlA N.A N.w v sz n xs∧OwnS S w0 w (L.set i (.mem N)):=by
 have h:=ho.at_ 0 rfl;obtain⟨N,h1,h2,h3,h4⟩:=ho.freeze i hi;exact⟨N,h1,mem_urow (M:=M) h2 h3 h,h4⟩
end
end Eng
end
section
open Eng
def S_slices_Contains_string_string (t0 t1:Value)(w:World)(K:Ending→World→Prop):Prop:=
 CallX prog 58 #[t0,t1] w (pk K) fun t7 w=>
 DoX prog (mBin .geq 3 t7 (.int .i64 0)) w (pk K) fun t8 w=>
 K (.returned t8) w
theorem S_slices_Contains_string_string_eq (t0 t1:Value)(w:World)(K:Ending→World→Prop):wpX prog 9 [] [] none (bodyOf Tryz.f32) (topQ prog [.tmp 4] K) (startX [t0,t1]) [] w=S_slices_Contains_string_string t0 t1 w K:=by kernel_rfl
theorem S_slices_Contains_string_string_ok {t0 t1:Value}{w:World}{K:Ending→World→Prop}(h:S_slices_Contains_string_string t0 t1 w K):Calls prog 32 #[t0,t1] w K:=
 calls_of_wpX Tryz.func32 rfl rfl rfl rfl (Eq.mpr (S_slices_Contains_string_string_eq t0 t1 w K) h)
end
end Go.Proofs.YtoofficgclghoaaGreatDoor

namespace Go.Proofs.YtoofficgclghoaaGreatDoor
section
open Eng
def S_value_Null (w:World)(K:Ending→World→Prop):Prop:=
 DoX prog (mAlloc 42) w (pk K) fun t0 w=>
 DoX prog (mBuild 42 #[]) w (pk K) fun t1 w=>
 DoX prog (mStore 42 t0 t1) w (pk K) fun _ w=>
 RetX prog [.cell t0 42] w K
theorem S_value_Null_eq (w:World)(K:Ending→World→Prop):wpX prog 2 [] [] none (bodyOf Tryz.f179) (topQ prog [.cell 0 42] K) (startX []) [] w=S_value_Null w K:=by kernel_rfl
theorem S_value_Null_ok {w:World}{K:Ending→World→Prop}(h:S_value_Null w K):Calls prog 179 #[] w K:=
 calls_of_wpX Tryz.func179 rfl rfl rfl rfl (Eq.mpr (S_value_Null_eq w K) h)
def S_value_Int (t0:Value)(w:World)(K:Ending→World→Prop):Prop:=
 DoX prog (mAlloc 42) w (pk K) fun t2 w=>
 DoX prog (mBuild 42 #[(0,(.int .i64 2)),(1,t0)]) w (pk K) fun t4 w=>
 DoX prog (mStore 42 t2 t4) w (pk K) fun _ w=>
 RetX prog [.cell t2 42] w K
theorem S_value_Int_eq (t0:Value)(w:World)(K:Ending→World→Prop):wpX prog 5 [] [] none (bodyOf Tryz.f175) (topQ prog [.cell 2 42] K) (startX [t0]) [] w=S_value_Int t0 w K:=by kernel_rfl
theorem S_value_Int_ok {t0:Value}{w:World}{K:Ending→World→Prop}(h:S_value_Int t0 w K):Calls prog 175 #[t0] w K:=
 calls_of_wpX Tryz.func175 rfl rfl rfl rfl (Eq.mpr (S_value_Int_eq t0 w K) h)
def S_value_Name (t0:Value)(w:World)(K:Ending→World→Prop):Prop:=
 DoX prog (mAlloc 42) w (pk K) fun t2 w=>
 DoX prog (mBuild 42 #[(0,(.int .i64 5)),(3,t0)]) w (pk K) fun t4 w=>
 DoX prog (mStore 42 t2 t4) w (pk K) fun _ w=>
 RetX prog [.cell t2 42] w K
theorem S_value_Name_eq (t0:Value)(w:World)(K:Ending→World→Prop):wpX prog 5 [] [] none (bodyOf Tryz.f178) (topQ prog [.cell 2 42] K) (startX [t0]) [] w=S_value_Name t0 w K:=by kernel_rfl
theorem S_value_Name_ok {t0:Value}{w:World}{K:Ending→World→Prop}(h:S_value_Name t0 w K):Calls prog 178 #[t0] w K:=
 calls_of_wpX Tryz.func178 rfl rfl rfl rfl (Eq.mpr (S_value_Name_eq t0 w K) h)
def S_value_String (t0:Value)(w:World)(K:Ending→World→Prop):Prop:=
 DoX prog (mAlloc 42) w (pk K) fun t2 w=>
 DoX prog (mBuild 42 #[(0,(.int .i64 4)),(3,t0)]) w (pk K) fun t4 w=>
 DoX prog (mStore 42 t2 t4) w (pk K) fun _ w=>
 RetX prog [.cell t2 42] w K
theorem S_value_String_eq (t0:Value)(w:World)(K:Ending→World→Prop):wpX prog 5 [] [] none (bodyOf Tryz.f177) (topQ prog [.cell 2 42] K) (startX [t0]) [] w=S_value_String t0 w K:=by kernel_rfl
theorem S_value_String_ok {t0:Value}{w:World}{K:Ending→World→Prop}(h:S_value_String t0 w K):Calls prog 177 #[t0] w K:=
 calls_of_wpX Tryz.func177 rfl rfl rfl rfl (Eq.mpr (S_value_String_eq t0 w K) h)
end
section
open Eng
def S_slices_Index_string_string_0 (t0 t1 t7 t8:Value)(w:World)(N1:List Value→World→Prop)(K:Ending→World→Prop):Prop:=
 DoX prog (mBin .lss 3 t8 t7) w (pk K) fun t9 w=>
 IfX t9 (DoX prog (mIA 39 t0 t8) w (pk K) fun t14 w=>
 DoX prog (mLoad 9 t14) w (pk K) fun t15 w=>
 DoX prog (mEq .eql 9 (.tmp 11) (.tmp 15) t1 t15) w (pk K) fun t16 w=>
 IfX t16 (K (.returned t8) w) (DoX prog (mBin .add 3 t8 (.int .i64 1)) w (pk K) fun t18 w=>
 N1 [t18] w)) (K (.returned (.int .i64 (-1))) w)
def S_slices_Index_string_string (t0 t1:Value)(w:World)(K:Ending→World→Prop):Prop:=
 DoX prog (mB .len #[39] 3 #[false] #[t0]) w (pk K) fun t7 w=>
 LoopX [(.int .i64 0)] w (fun vs1 w N1=>∀_:Sg,S_slices_Index_string_string_0 t0 t1 t7 (vs1.getD 0 undef) w N1 K)
theorem S_slices_Index_string_string_eq (t0 t1:Value)(w:World)(K:Ending→World→Prop):wpX prog 19 [] [(2,[8])] none (bodyOf Tryz.f58) (topQ prog [.tmp 4] K) (startX [t0,t1]) [] w=S_slices_Index_string_string t0 t1 w K:=by kernel_rfl
theorem S_slices_Index_string_string_ok {t0 t1:Value}{w:World}{K:Ending→World→Prop}(h:S_slices_Index_string_string t0 t1 w K):Calls prog 58 #[t0,t1] w K:=
 calls_of_wpX Tryz.func58 rfl rfl rfl rfl (Eq.mpr (S_slices_Index_string_string_eq t0 t1 w K) h)
end
section
open Eng Go.RowKit
theorem nStrI:notAgg prog 9=true:=by kernel_rfl
theorem idx_at {l:List (List UInt8)}{x:List UInt8}{i:Nat}(h:i < l.length)(hn:x ∉ l.take i)(he:l[i]=x):l.idxOf x=i:=by
 have e:l=l.take i++(l[i]::l.drop (i+1)):=by
  rw[←List.drop_eq_getElem_cons h,List.take_append_drop]
 rw[e,List.idxOf_append,if_neg hn,he,List.idxOf_cons_self,List.length_take];omega
theorem sindex_ret (va:Value)(l:List (List UInt8))(x:List UInt8)(w:World)(ha:Sl w va 1 l.length (strsV l))(hl:l.length≤1099511627776) :
  Ret prog 58 #[va,.string ⟨x.toArray⟩] w (fun v w'=>v=.int .i64 (if l.idxOf x < l.length then (l.idxOf x:Int) else -1)∧w=w'):=by
 refine ret_of fun K hK=>S_slices_Index_string_string_ok ?_;unfold S_slices_Index_string_string;rw[sl_len Tryz.underlying39 ha];refine loop (fun vs w'=>∃(i:Nat),vs=[.int .i64 i]∧i≤l.length∧x ∉ l.take i∧w=w') (fun vs _=>l.length - n0 vs) ⟨0,rfl,by omega,by simp,rfl⟩ ?_;rintro vs w2 ⟨i,rfl,hi,hm,rfl⟩ _;simp only[S_slices_Index_string_string_0,gd,rs];by_cases hlt:(i:Int) < (l.length:Int)
 ·have hi':i < l.length:=by omega
  simp only[hlt,decide_true,rs];refine sl_ia1 (.string ⟨(l[i]).toArray⟩) Tryz.underlying39 (by kernel_rfl) ha (by omega) (by rw[Int.toNat_natCast];exact strsV_get hi') fun q hq=>?_;rw[l_cell nStrI hq];simp only[rs];by_cases he:x=l[i]
  ·simp only[←he,decide_true,rs];have:=idx_at hi' hm he.symm;exact hK _ _ ⟨by rw[this,if_pos hi'],rfl⟩
  ·simp only[he,decide_false,rs];rw[wrap64_id (by omega) (by omega)];refine nextX ⟨i+1,rfl,by omega,?_,rfl⟩ (by simp[n0,RowKit.intOf];omega);rw[List.take_add_one,List.getElem?_eq_getElem hi'];simp only[Option.toList,List.mem_append,List.mem_singleton,not_or];exact⟨hm,he⟩
 ·simp only[hlt,decide_false,i_f];rw[List.take_of_length_le (by omega)] at hm;exact hK _ _ ⟨by rw[if_neg (by rw[List.idxOf_lt_length_iff];exact hm)],rfl⟩
end
end Go.Proofs.YtoofficgclghoaaGreatDoor


namespace Go.Proofs.YtoofficgclghoaaGreatDoor
section
open Eng Go.RowKit
theorem Eng.Mem.le.trans {M N O:Mem}(h:M.le N)(k:N.le O):M.le O:=Mem.le_trans h k
theorem urow_one {w:World}{T:TypeId}{sz:Nat}{v:Value}{n:Nat}{xs:List Value}(h:(Ent.urow T sz v n xs).is w):v.oneCell'=true:=by
 rcases (show w.ownsRow 0 T sz v n xs from h).2 with ⟨rfl,_⟩|⟨g,cap,cur,rfl,_⟩<;>rfl
theorem ovs_app {A:Nat→Prop}{w:World}:∀{os ps:List Ob} {cs ds:List Value},OVs A w cs os→OVs A w ds ps→OVs A w (cs++ds) (os++ps)
|[],ps,cs,ds,h,k=>by rw[OVs] at h;subst h;simpa using k
|o::os,ps,cs,ds,h,k=>by
  rw[OVs] at h;obtain⟨a,rest,rfl,hl,h1,h2⟩:=h;rw[List.cons_append,OVs];exact⟨a,rest++ds,by simp,hl,h1,ovs_app h2 k⟩
theorem ovs_1 {A:Nat→Prop}{w:World}{o:Ob}{vk vc:Value}(h:OV A w (obV o vk vc) o):OVs A w (obC o vk vc) [o]:=by
 rw[OVs];exact⟨obC o vk vc,[],by simp,rfl,h,OVs.nil⟩
end
section
open Eng Go.RowKit
section
variable {w:World}{S:Nat→Prop}{w0:World}{L:List Ent}
theorem m_ob0 {PK:PKT}{K:VWP}:DoX prog (mBuild 42 #[]) w PK K=K (obV Vl.ob0 nilS nilS) w:=do_eq (by kernel_rfl)
end
theorem vnull_ret (w:World):Ret prog 179 #[] w (obR (ob1 0 0 0 []) nilS nilS w):=by
 refine ret_of fun K hK=>S_value_Null_ok ?_;unfold S_value_Null;refine o_oba (Own.start w) fun b w1 ho=>?_;rw[m_ob0];refine ob_put 0 rfl rfl ho rfl fun w2 ho=>?_;exact ret_ob ho (hK _ _ ⟨rfl,ho.done⟩)
theorem vint_ret (n:Int)(w:World):Ret prog 175 #[.int .i64 n] w (obR (ob1 2 n 0 []) nilS nilS w):=by
 refine ret_of fun K hK=>S_value_Int_ok ?_;unfold S_value_Int;refine o_oba (Own.start w) fun b w1 ho=>?_;have hb:∀{PK:PKT} {K:VWP},DoX prog (mBuild 42 #[(0,(.int .i64 2)),(1,.int .i64 n)]) w1 PK K=K (obV (ob1 2 n 0 []) nilS nilS) w1:=do_eq (by kernel_rfl);rw[hb];refine ob_put 0 rfl rfl ho rfl fun w2 ho=>?_;exact ret_ob ho (hK _ _ ⟨rfl,ho.done⟩)
theorem vstr_ret (s:List UInt8)(w:World):Ret prog 177 #[.string ⟨s.toArray⟩] w (obR (ob1 4 0 0 s) nilS nilS w):=by
 refine ret_of fun K hK=>S_value_String_ok ?_;unfold S_value_String;refine o_oba (Own.start w) fun b w1 ho=>?_;have hb:∀{PK:PKT} {K:VWP},DoX prog (mBuild 42 #[(0,(.int .i64 4)),(3,.string ⟨s.toArray⟩)]) w1 PK K=K (obV (ob1 4 0 0 s) nilS nilS) w1:=do_eq (by kernel_rfl);rw[hb];refine ob_put 0 rfl rfl ho rfl fun w2 ho=>?_;exact ret_ob ho (hK _ _ ⟨rfl,ho.done⟩)
theorem vname_ret (s:List UInt8)(w:World):Ret prog 178 #[.string ⟨s.toArray⟩] w (obR (ob1 5 0 0 s) nilS nilS w):=by
 refine ret_of fun K hK=>S_value_Name_ok ?_;unfold S_value_Name;refine o_oba (Own.start w) fun b w1 ho=>?_;have hb:∀{PK:PKT} {K:VWP},DoX prog (mBuild 42 #[(0,(.int .i64 5)),(3,.string ⟨s.toArray⟩)]) w1 PK K=K (obV (ob1 5 0 0 s) nilS nilS) w1:=do_eq (by kernel_rfl);rw[hb];refine ob_put 0 rfl rfl ho rfl fun w2 ho=>?_;exact ret_ob ho (hK _ _ ⟨rfl,ho.done⟩)
end
end Go.Proofs.YtoofficgclghoaaGreatDoor



namespace Go.Proofs.YtoofficgclghoaaGreatDoor
section
open Eng Go.RowKit
section
variable {P:Program}{w w0:World}{L:List Ent}{PK:PKT}{K:VWP}
end
theorem fa_t3 {b:Nat}{w:World}{PK:PKT}{K:VWP}:DoX prog (mFA 53 (.pointer (some ⟨b,0,none⟩)) 3) w PK K=K (.pointer (some ⟨b,3,none⟩)) w:=f_addr (show fOff prog 53 3=some 3 by kernel_rfl)
theorem fa_t4' {b:Nat}{w:World}{PK:PKT}{K:VWP}:DoX prog (mFA 53 (.pointer (some ⟨b,0,none⟩)) 4) w PK K=K (.pointer (some ⟨b,4,none⟩)) w:=f_addr (show fOff prog 53 4=some 4 by kernel_rfl)
end
end Go.Proofs.YtoofficgclghoaaGreatDoor

namespace Go.Proofs.YtoofficgclghoaaGreatDoor
section
open Eng
def S_parse_reader_peek (t0 t1:Value)(w:World)(K:Ending→World→Prop):Prop:=
 DoX prog (mAlloc 53) w (pk K) fun t4 w=>
 DoX prog (mNil t0) w (pk K) fun t10 w=>
 DoX prog (mFA 144 t10 0) w (pk K) fun t11 w=>
 DoX prog (mLoad 9 t11) w (pk K) fun t12 w=>
 CallX prog 61 #[t12,t1] w (pk K) fun t14 w=>
 DoX prog (mExt t14 0) w (pk K) fun t15 w=>
 DoX prog (mExt t14 1) w (pk K) fun t16 w=>
 DoX prog (mAlloc 53) w (pk K) fun t6 w=>
 DoX prog (mStore 53 t6 t15) w (pk K) fun _ w=>
 DoX prog (mLoad 53 t6) w (pk K) fun t17 w=>
 DoX prog (mEq .eql 24 (.tmp 18) (.const (.int .i64 0)) t16 (.int .i64 0)) w (pk K) fun t19 w=>
 DoX prog (mStore 53 t4 t17) w (pk K) fun _ w=>
 RetX prog [.cell t4 53,.val t19] w K
theorem S_parse_reader_peek_eq (t0 t1:Value)(w:World)(K:Ending→World→Prop):wpX prog 20 [] [] none (bodyOf Tryz.f208) (topQ prog [.cell 4 53,.tmp 5] K) (startX [t0,t1]) [] w=S_parse_reader_peek t0 t1 w K:=by kernel_rfl
theorem S_parse_reader_peek_ok {t0 t1:Value}{w:World}{K:Ending→World→Prop}(h:S_parse_reader_peek t0 t1 w K):Calls prog 208 #[t0,t1] w K:=
 calls_of_wpX Tryz.func208 rfl rfl rfl rfl (Eq.mpr (S_parse_reader_peek_eq t0 t1 w K) h)
def S_parse_reader_next_2 (t0 t2 t3:Value)(w:World)(K:Ending→World→Prop):Prop:=
 DoX prog (mFA 53 t3 2) w (pk K) fun t26 w=>
 DoX prog (mLoad 3 t26) w (pk K) fun t27 w=>
 DoX prog (mNil t0) w (pk K) fun t28 w=>
 DoX prog (mFA 144 t28 1) w (pk K) fun t29 w=>
 DoX prog (mStore 3 t29 t27) w (pk K) fun _ w=>
 DoX prog (mLoad 53 t3) w (pk K) fun t30 w=>
 DoX prog (mStore 53 t2 t30) w (pk K) fun _ w=>
 RetX prog [.cell t2 53] w K
def S_parse_reader_next_1 (t0 t2 t3:Value)(w:World)(K:Ending→World→Prop):Prop:=
 JoinX (fun J3=>
 DoX prog (mFA 53 t3 0) w (pk K) fun t21 w=>
 DoX prog (mLoad 3 t21) w (pk K) fun t22 w=>
 DoX prog (mEq .eql 3 (.tmp 22) (.const (.int .i64 0)) t22 (.int .i64 0)) w (pk K) fun t23 w=>
 IfX t23 (DoX prog (mIface 203 (.int .i64 4)) w (pk K) fun t24 w=>
 DoX prog (mPanic t24) w (pk K) fun _ w=>
 J3 [] w) (J3 [] w)) (fun vs3 w=>∀_:Sg,S_parse_reader_next_2 t0 t2 t3 w K)
def S_parse_reader_next_0 (t0 t2 t3 t4:Value)(w:World)(K:Ending→World→Prop):Prop:=
 JoinX (fun J2=>
 DoX prog (mEq .neq 24 (.tmp 17) (.const (.int .i64 0)) t4 (.int .i64 0)) w (pk K) fun t18 w=>
 IfX t18 (DoX prog (mIface 203 t4) w (pk K) fun t20 w=>
 DoX prog (mPanic t20) w (pk K) fun _ w=>
 J2 [] w) (J2 [] w)) (fun vs2 w=>∀_:Sg,S_parse_reader_next_1 t0 t2 t3 w K)
def S_parse_reader_next (t0:Value)(w:World)(K:Ending→World→Prop):Prop:=
 DoX prog (mAlloc 53) w (pk K) fun t2 w=>
 HeldX w (fun S1 w=>
 HDo prog (fun _=>True) (mNil t0) fun t7=>
 HDo prog (fun _=>True) (mFA 144 t7 0) fun t8=>
 HDo prog S1 (mLoad 9 t8) fun t9=>
 HDo prog (fun _=>True) (mNil t0) fun t11=>
 HDo prog (fun _=>True) (mFA 144 t11 1) fun t12=>
 HDo prog S1 (mLoad 3 t12) fun t13=>
 (CallX prog 61 #[t9,t13] w (pm1 (pm1 (pm1 (pm1 (pm1 (pm1 (pm1 (pm1 (pm1 (pm1 (pm1 (pm1 (pk K))))))))))))) fun t14 w=>
 (HDo prog (fun _=>True) (mExt t14 0) fun t15=>
 HDo prog (fun _=>True) (mExt t14 1) fun t16=>
 DoX prog (mAlloc 53) w (pm1 (pm1 (pm1 (pm1 (pm1 (pm1 (pm1 (pm1 (pm1 (pm1 (pm1 (pm1 (pk K))))))))))))) fun t3 w=>
 S1 w∧(DoX prog (mStore 53 t3 t15) w (pm1 (pm1 (pm1 (pm1 (pm1 (pm1 (pm1 (pm1 (pm1 (pm1 (pm1 (pm1 (pk K))))))))))))) fun _ w=>
 (S_parse_reader_next_0 t0 t2 t3 t16 w K))))∧(DoX prog (mAlloc 53) w (pm1 (pm1 (pm1 (pm1 (pm1 (pm1 (pm1 (pm1 (pm1 (pm1 (pm1 (pm1 (pk K))))))))))))) fun t3_1 w=>
 S1 w∧(CallX prog 61 #[t9,t13] w (pm1 (pm1 (pm1 (pm1 (pm1 (pm1 (pm1 (pm1 (pm1 (pm1 (pm1 (pm1 (pk K))))))))))))) fun t14_1 w=>
 (HDo prog (fun _=>True) (mExt t14_1 0) fun t15_1=>
 HDo prog (fun _=>True) (mExt t14_1 1) fun t16_1=>
 DoX prog (mStore 53 t3_1 t15_1) w (pm1 (pm1 (pm1 (pm1 (pm1 (pm1 (pm1 (pm1 (pm1 (pm1 (pm1 (pm1 (pk K))))))))))))) fun _ w=>
 (S_parse_reader_next_0 t0 t2 t3_1 t16_1 w K)))))
theorem S_parse_reader_next_eq (t0:Value)(w:World)(K:Ending→World→Prop):wpX prog 31 [(4,[]),(6,[])] [] none (bodyOf Tryz.f151) (topQ prog [.cell 2 53] K) (startX [t0]) [] w=S_parse_reader_next t0 w K:=by kernel_rfl
theorem S_parse_reader_next_ok {t0:Value}{w:World}{K:Ending→World→Prop}(h:S_parse_reader_next t0 w K):Calls prog 151 #[t0] w K:=
 calls_of_wpX Tryz.func151 rfl rfl rfl rfl (Eq.mpr (S_parse_reader_next_eq t0 w K) h)
def S_parse_word (t0 t1 t2:Value)(w:World)(K:Ending→World→Prop):Prop:=
 DoX prog (mBox 53 t0) w (pk K) fun t3 w=>
 DoX prog (mFA 53 t3 0) w (pk K) fun t7 w=>
 DoX prog (mLoad 3 t7) w (pk K) fun t8 w=>
 DoX prog (mEq .eql 3 (.tmp 8) (.tmp 9) t8 t1) w (pk K) fun t10 w=>
 GDo t10 true (fun E=>DoX prog (mFA 53 t3 4) w (pk K) E) w fun t12 w=>
 GDo t10 true (fun E=>DoX prog (mLoad 9 t12) w (pk K) E) w fun t13 w=>
 GDo t10 true (fun E=>E t2 w) w fun t14 w=>
 GDo t10 true (fun E=>DoX prog (mEq .eql 9 (.tmp 13) (.tmp 14) t13 t14) w (pk K) E) w fun t15 w=>
 DoX prog (mPick t10 t15 (.bool false)) w (pk K) fun t16 w=>
 K (.returned t16) w
theorem S_parse_word_eq (t0 t1 t2:Value)(w:World)(K:Ending→World→Prop):wpX prog 17 [] [] none (bodyOf Tryz.f209) (topQ prog [.tmp 6] K) (startX [t0,t1,t2]) [] w=S_parse_word t0 t1 t2 w K:=by kernel_rfl
theorem S_parse_word_ok {t0 t1 t2:Value}{w:World}{K:Ending→World→Prop}(h:S_parse_word t0 t1 t2 w K):Calls prog 209 #[t0,t1,t2] w K:=
 calls_of_wpX Tryz.func209 rfl rfl rfl rfl (Eq.mpr (S_parse_word_eq t0 t1 t2 w K) h)
def S_parse_begins (t0:Value)(w:World)(K:Ending→World→Prop):Prop:=
 DoX prog (mBox 53 t0) w (pk K) fun t1 w=>
 DoX prog (mFA 53 t1 0) w (pk K) fun t3 w=>
 DoX prog (mLoad 3 t3) w (pk K) fun t4 w=>
 DoX prog (mEq .eql 3 (.tmp 4) (.const (.int .i64 5)) t4 (.int .i64 5)) w (pk K) fun t6 w=>
 IfX t6 (DoX prog (mFA 53 t1 4) w (pk K) fun t7 w=>
 DoX prog (mLoad 9 t7) w (pk K) fun t8 w=>
 DoX prog (mEq .eql 9 (.tmp 8) (.const (.string ⟨#[116,114,117,101]⟩)) t8 (.string ⟨#[116,114,117,101]⟩)) w (pk K) fun t9 w=>
 GDo t9 false (fun E=>DoX prog (mFA 53 t1 4) w (pk K) E) w fun t11 w=>
 GDo t9 false (fun E=>DoX prog (mLoad 9 t11) w (pk K) E) w fun t12 w=>
 GDo t9 false (fun E=>DoX prog (mEq .eql 9 (.tmp 12) (.const (.string ⟨#[102,97,108,115,101]⟩)) t12 (.string ⟨#[102,97,108,115,101]⟩)) w (pk K) E) w fun t13 w=>
 DoX prog (mPick t9 (.bool true) t13) w (pk K) fun t14 w=>
 GDo t14 false (fun E=>DoX prog (mFA 53 t1 4) w (pk K) E) w fun t16 w=>
 GDo t14 false (fun E=>DoX prog (mLoad 9 t16) w (pk K) E) w fun t17 w=>
 GDo t14 false (fun E=>DoX prog (mEq .eql 9 (.tmp 17) (.const (.string ⟨#[110,117,108,108]⟩)) t17 (.string ⟨#[110,117,108,108]⟩)) w (pk K) E) w fun t18 w=>
 DoX prog (mPick t14 (.bool true) t18) w (pk K) fun t19 w=>
 K (.returned t19) w) (DoX prog (mEq .eql 3 (.tmp 4) (.const (.int .i64 6)) t4 (.int .i64 6)) w (pk K) fun t21 w=>
 IfX t21 (DoX prog (mFA 53 t1 4) w (pk K) fun t22 w=>
 DoX prog (mLoad 9 t22) w (pk K) fun t23 w=>
 DoX prog (mEq .eql 9 (.tmp 23) (.const (.string ⟨#[91]⟩)) t23 (.string ⟨#[91]⟩)) w (pk K) fun t24 w=>
 GDo t24 false (fun E=>DoX prog (mFA 53 t1 4) w (pk K) E) w fun t26 w=>
 GDo t24 false (fun E=>DoX prog (mLoad 9 t26) w (pk K) E) w fun t27 w=>
 GDo t24 false (fun E=>DoX prog (mEq .eql 9 (.tmp 27) (.const (.string ⟨#[60,60]⟩)) t27 (.string ⟨#[60,60]⟩)) w (pk K) E) w fun t28 w=>
 DoX prog (mPick t24 (.bool true) t28) w (pk K) fun t29 w=>
 K (.returned t29) w) (K (.returned (.bool true)) w))
theorem S_parse_begins_eq (t0:Value)(w:World)(K:Ending→World→Prop):wpX prog 30 [] [] none (bodyOf Tryz.f173) (topQ prog [.tmp 2] K) (startX [t0]) [] w=S_parse_begins t0 w K:=by kernel_rfl
theorem S_parse_begins_ok {t0:Value}{w:World}{K:Ending→World→Prop}(h:S_parse_begins t0 w K):Calls prog 173 #[t0] w K:=
 calls_of_wpX Tryz.func173 rfl rfl rfl rfl (Eq.mpr (S_parse_begins_eq t0 w K) h)
def S_parse_reader_ref (t0 t1:Value)(w:World)(K:Ending→World→Prop):Prop:=
 DoX prog (mBox 53 t1) w (pk K) fun t3 w=>
 DoX prog (mAlloc 42) w (pk K) fun t4 w=>
 DoX prog (mFA 53 t3 3) w (pk K) fun t9 w=>
 DoX prog (mLoad 2 t9) w (pk K) fun t10 w=>
 DoX prog (mBin .lss 2 t10 (.int .i64 1)) w (pk K) fun t11 w=>
 GDo t11 false (fun E=>DoX prog (mFA 53 t3 3) w (pk K) E) w fun t13 w=>
 GDo t11 false (fun E=>DoX prog (mLoad 2 t13) w (pk K) E) w fun t14 w=>
 GDo t11 false (fun E=>DoX prog (mBin .gtr 2 t14 (.int .i64 8191)) w (pk K) E) w fun t15 w=>
 DoX prog (mPick t11 (.bool true) t15) w (pk K) fun t16 w=>
 IfX t16 (DoX prog (mBuild 42 #[]) w (pk K) fun t17 w=>
 DoX prog (mStore 42 t4 t17) w (pk K) fun _ w=>
 RetX prog [.cell t4 42,.val (.bool false)] w K) (DoX prog (mFA 53 t3 2) w (pk K) fun t20 w=>
 DoX prog (mLoad 3 t20) w (pk K) fun t21 w=>
 CallX prog 208 #[t0,t21] w (pk K) fun t22 w=>
 DoX prog (mExt t22 0) w (pk K) fun t23 w=>
 DoX prog (mExt t22 1) w (pk K) fun t24 w=>
 DoX prog (mAlloc 53) w (pk K) fun t6 w=>
 DoX prog (mStore 53 t6 t23) w (pk K) fun _ w=>
 DoX prog (mUn .not t24) w (pk K) fun t26 w=>
 GDo t26 false (fun E=>DoX prog (mFA 53 t6 0) w (pk K) E) w fun t28 w=>
 GDo t26 false (fun E=>DoX prog (mLoad 3 t28) w (pk K) E) w fun t29 w=>
 GDo t26 false (fun E=>DoX prog (mEq .neq 3 (.tmp 29) (.const (.int .i64 1)) t29 (.int .i64 1)) w (pk K) E) w fun t30 w=>
 DoX prog (mPick t26 (.bool true) t30) w (pk K) fun t31 w=>
 GDo t31 false (fun E=>DoX prog (mFA 53 t6 3) w (pk K) E) w fun t33 w=>
 GDo t31 false (fun E=>DoX prog (mLoad 2 t33) w (pk K) E) w fun t34 w=>
 GDo t31 false (fun E=>DoX prog (mBin .lss 2 t34 (.int .i64 0)) w (pk K) E) w fun t35 w=>
 DoX prog (mPick t31 (.bool true) t35) w (pk K) fun t36 w=>
 GDo t36 false (fun E=>DoX prog (mFA 53 t6 3) w (pk K) E) w fun t38 w=>
 GDo t36 false (fun E=>DoX prog (mLoad 2 t38) w (pk K) E) w fun t39 w=>
 GDo t36 false (fun E=>DoX prog (mBin .gtr 2 t39 (.int .i64 65535)) w (pk K) E) w fun t40 w=>
 DoX prog (mPick t36 (.bool true) t40) w (pk K) fun t41 w=>
 IfX t41 (DoX prog (mBuild 42 #[]) w (pk K) fun t42 w=>
 DoX prog (mStore 42 t4 t42) w (pk K) fun _ w=>
 RetX prog [.cell t4 42,.val (.bool false)] w K) (DoX prog (mFA 53 t6 2) w (pk K) fun t45 w=>
 DoX prog (mLoad 3 t45) w (pk K) fun t46 w=>
 CallX prog 208 #[t0,t46] w (pk K) fun t47 w=>
 DoX prog (mExt t47 0) w (pk K) fun t48 w=>
 DoX prog (mExt t47 1) w (pk K) fun t49 w=>
 DoX prog (mAlloc 53) w (pk K) fun t8 w=>
 DoX prog (mStore 53 t8 t48) w (pk K) fun _ w=>
 DoX prog (mUn .not t49) w (pk K) fun t51 w=>
 GDo t51 false (fun E=>DoX prog (mLoad 53 t8) w (pk K) E) w fun t53 w=>
 GDo t51 false (fun E=>CallX prog 209 #[t53,(.int .i64 5),(.string ⟨#[82]⟩)] w (pk K) E) w fun t54 w=>
 GDo t51 false (fun E=>DoX prog (mUn .not t54) w (pk K) E) w fun t55 w=>
 DoX prog (mPick t51 (.bool true) t55) w (pk K) fun t56 w=>
 IfX t56 (DoX prog (mBuild 42 #[]) w (pk K) fun t57 w=>
 DoX prog (mStore 42 t4 t57) w (pk K) fun _ w=>
 RetX prog [.cell t4 42,.val (.bool false)] w K) (DoX prog (mFA 53 t8 2) w (pk K) fun t59 w=>
 DoX prog (mLoad 3 t59) w (pk K) fun t60 w=>
 DoX prog (mNil t0) w (pk K) fun t61 w=>
 DoX prog (mFA 144 t61 1) w (pk K) fun t62 w=>
 DoX prog (mStore 3 t62 t60) w (pk K) fun _ w=>
 DoX prog (mFA 53 t3 3) w (pk K) fun t63 w=>
 DoX prog (mLoad 2 t63) w (pk K) fun t64 w=>
 DoX prog (mFA 53 t6 3) w (pk K) fun t65 w=>
 DoX prog (mLoad 2 t65) w (pk K) fun t66 w=>
 CallX prog 210 #[t64,t66] w (pk K) fun t67 w=>
 DoX prog (mStore 42 t4 t67) w (pk K) fun _ w=>
 RetX prog [.cell t4 42,.val (.bool true)] w K)))
theorem S_parse_reader_ref_eq (t0 t1:Value)(w:World)(K:Ending→World→Prop):wpX prog 68 [] [] none (bodyOf Tryz.f174) (topQ prog [.cell 4 42,.tmp 5] K) (startX [t0,t1]) [] w=S_parse_reader_ref t0 t1 w K:=by kernel_rfl
theorem S_parse_reader_ref_ok {t0 t1:Value}{w:World}{K:Ending→World→Prop}(h:S_parse_reader_ref t0 t1 w K):Calls prog 174 #[t0,t1] w K:=
 calls_of_wpX Tryz.func174 rfl rfl rfl rfl (Eq.mpr (S_parse_reader_ref_eq t0 t1 w K) h)
def S_parse_reader_object_1 (t0 t2 t4 t6:Value)(w:World)(K:Ending→World→Prop):Prop:=
 DoX prog (mFA 53 t4 0) w (pk K) fun t16 w=>
 DoX prog (mLoad 3 t16) w (pk K) fun t17 w=>
 DoX prog (mEq .eql 3 (.tmp 17) (.const (.int .i64 1)) t17 (.int .i64 1)) w (pk K) fun t19 w=>
 IfX t19 (DoX prog (mLoad 53 t4) w (pk K) fun t22 w=>
 CallX prog 174 #[t0,t22] w (pk K) fun t23 w=>
 DoX prog (mExt t23 0) w (pk K) fun t24 w=>
 DoX prog (mExt t23 1) w (pk K) fun t25 w=>
 DoX prog (mAlloc 42) w (pk K) fun t7 w=>
 DoX prog (mStore 42 t7 t24) w (pk K) fun _ w=>
 IfX t25 (DoX prog (mLoad 42 t7) w (pk K) fun t27 w=>
 DoX prog (mStore 42 t6 t27) w (pk K) fun _ w=>
 RetX prog [.cell t6 42] w K) (DoX prog (mFA 53 t4 3) w (pk K) fun t28 w=>
 DoX prog (mLoad 2 t28) w (pk K) fun t29 w=>
 CallX prog 175 #[t29] w (pk K) fun t30 w=>
 DoX prog (mStore 42 t6 t30) w (pk K) fun _ w=>
 RetX prog [.cell t6 42] w K)) (DoX prog (mEq .eql 3 (.tmp 17) (.const (.int .i64 2)) t17 (.int .i64 2)) w (pk K) fun t32 w=>
 IfX t32 (DoX prog (mFA 53 t4 3) w (pk K) fun t33 w=>
 DoX prog (mLoad 2 t33) w (pk K) fun t34 w=>
 CallX prog 176 #[t34] w (pk K) fun t35 w=>
 DoX prog (mStore 42 t6 t35) w (pk K) fun _ w=>
 RetX prog [.cell t6 42] w K) (DoX prog (mEq .eql 3 (.tmp 17) (.const (.int .i64 3)) t17 (.int .i64 3)) w (pk K) fun t37 w=>
 IfX t37 (DoX prog (mFA 53 t4 4) w (pk K) fun t38 w=>
 DoX prog (mLoad 9 t38) w (pk K) fun t39 w=>
 CallX prog 177 #[t39] w (pk K) fun t40 w=>
 DoX prog (mStore 42 t6 t40) w (pk K) fun _ w=>
 RetX prog [.cell t6 42] w K) (DoX prog (mEq .eql 3 (.tmp 17) (.const (.int .i64 4)) t17 (.int .i64 4)) w (pk K) fun t42 w=>
 IfX t42 (DoX prog (mFA 53 t4 4) w (pk K) fun t43 w=>
 DoX prog (mLoad 9 t43) w (pk K) fun t44 w=>
 CallX prog 178 #[t44] w (pk K) fun t45 w=>
 DoX prog (mStore 42 t6 t45) w (pk K) fun _ w=>
 RetX prog [.cell t6 42] w K) (DoX prog (mEq .eql 3 (.tmp 17) (.const (.int .i64 5)) t17 (.int .i64 5)) w (pk K) fun t47 w=>
 IfX t47 (DoX prog (mFA 53 t4 4) w (pk K) fun t48 w=>
 DoX prog (mLoad 9 t48) w (pk K) fun t49 w=>
 DoX prog (mEq .eql 9 (.tmp 49) (.const (.string ⟨#[110,117,108,108]⟩)) t49 (.string ⟨#[110,117,108,108]⟩)) w (pk K) fun t50 w=>
 IfX t50 (CallX prog 179 #[] w (pk K) fun t51 w=>
 DoX prog (mStore 42 t6 t51) w (pk K) fun _ w=>
 RetX prog [.cell t6 42] w K) (DoX prog (mFA 53 t4 4) w (pk K) fun t52 w=>
 DoX prog (mLoad 9 t52) w (pk K) fun t53 w=>
 DoX prog (mEq .eql 9 (.tmp 53) (.const (.string ⟨#[116,114,117,101]⟩)) t53 (.string ⟨#[116,114,117,101]⟩)) w (pk K) fun t54 w=>
 CallX prog 180 #[t54] w (pk K) fun t55 w=>
 DoX prog (mStore 42 t6 t55) w (pk K) fun _ w=>
 RetX prog [.cell t6 42] w K)) (DoX prog (mFA 53 t4 4) w (pk K) fun t56 w=>
 DoX prog (mLoad 9 t56) w (pk K) fun t57 w=>
 DoX prog (mEq .eql 9 (.tmp 57) (.const (.string ⟨#[91]⟩)) t57 (.string ⟨#[91]⟩)) w (pk K) fun t58 w=>
 IfX t58 (DoX prog (mBin .add 3 t2 (.int .i64 1)) w (pk K) fun t61 w=>
 CallX prog 181 #[t0,t61] w (pk K) fun t62 w=>
 DoX prog (mStore 42 t6 t62) w (pk K) fun _ w=>
 RetX prog [.cell t6 42] w K) (DoX prog (mBin .add 3 t2 (.int .i64 1)) w (pk K) fun t65 w=>
 CallX prog 182 #[t0,t65] w (pk K) fun t66 w=>
 DoX prog (mStore 42 t6 t66) w (pk K) fun _ w=>
 RetX prog [.cell t6 42] w K))))))
def S_parse_reader_object_0 (t0 t2 t4 t6:Value)(w:World)(K:Ending→World→Prop):Prop:=
 JoinX (fun J2=>
 DoX prog (mBin .geq 3 t2 (.int .i64 24)) w (pk K) fun t14 w=>
 IfX t14 (DoX prog (mIface 203 (.int .i64 7)) w (pk K) fun t15 w=>
 DoX prog (mPanic t15) w (pk K) fun _ w=>
 J2 [] w) (J2 [] w)) (fun vs2 w=>∀_:Sg,S_parse_reader_object_1 t0 t2 t4 t6 w K)
def S_parse_reader_object (t0 t1 t2:Value)(w:World)(K:Ending→World→Prop):Prop:=
 DoX prog (mBox 53 t1) w (pk K) fun t4 w=>
 DoX prog (mAlloc 42) w (pk K) fun t6 w=>
 JoinX (fun J1=>
 DoX prog (mLoad 53 t4) w (pk K) fun t9 w=>
 CallX prog 173 #[t9] w (pk K) fun t10 w=>
 DoX prog (mUn .not t10) w (pk K) fun t11 w=>
 IfX t11 (DoX prog (mIface 203 (.int .i64 3)) w (pk K) fun t12 w=>
 DoX prog (mPanic t12) w (pk K) fun _ w=>
 J1 [] w) (J1 [] w)) (fun vs1 w=>∀_:Sg,S_parse_reader_object_0 t0 t2 t4 t6 w K)
theorem S_parse_reader_object_eq (t0 t1 t2:Value)(w:World)(K:Ending→World→Prop):wpX prog 67 [(3,[]),(5,[])] [] none (bodyOf Tryz.f150) (topQ prog [.cell 6 42] K) (startX [t0,t1,t2]) [] w=S_parse_reader_object t0 t1 t2 w K:=by kernel_rfl
theorem S_parse_reader_object_ok {t0 t1 t2:Value}{w:World}{K:Ending→World→Prop}(h:S_parse_reader_object t0 t1 t2 w K):Calls prog 150 #[t0,t1,t2] w K:=
 calls_of_wpX Tryz.func150 rfl rfl rfl rfl (Eq.mpr (S_parse_reader_object_eq t0 t1 t2 w K) h)
def S_parse_reader_array_1 (t0 t1 t5 t6:Value)(w:World)(N1:List Value→World→Prop)(K:Ending→World→Prop):Prop:=
 HeldX w (fun S3 w=>
 HDo prog (fun _=>True) (mFA 42 t5 5) fun t26=>
 HDo prog S3 (mLoad 40 t26) fun t27=>
 HDo prog S3 (mLoad 53 t6) fun t29=>
 CallX prog 150 #[t0,t29,t1] w (pm1 (pm1 (pm1 (pm1 (pm1 (pm1 (pk K))))))) fun t31 w=>
 S3 w∧(DoX prog (mBuildS 40 1 #[(0,t31)]) w (pm1 (pm1 (pm1 (pm1 (pm1 (pm1 (pk K))))))) fun t32 w=>
 S3 w∧(DoX prog (mB .append #[40,40] 40 #[false,false] #[t27,t32]) w (pm1 (pm1 (pm1 (pm1 (pm1 (pm1 (pk K))))))) fun t33 w=>
 S3 w∧(HDo prog (fun _=>True) (mFA 42 t5 5) fun t34=>
 DoX prog (mStore 40 t34 t33) w (pm1 (pm1 (pm1 (pm1 (pm1 (pm1 (pk K))))))) fun _ w=>
 (N1 [] w)))))
def S_parse_reader_array_0 (t0 t1 t4 t5:Value)(w:World)(N1:List Value→World→Prop)(K:Ending→World→Prop):Prop:=
 CallX prog 151 #[t0] w (pk K) fun t9 w=>
 DoX prog (mAlloc 53) w (pk K) fun t6 w=>
 DoX prog (mStore 53 t6 t9) w (pk K) fun _ w=>
 DoX prog (mLoad 53 t6) w (pk K) fun t10 w=>
 CallX prog 209 #[t10,(.int .i64 6),(.string ⟨#[93]⟩)] w (pk K) fun t11 w=>
 IfX t11 (DoX prog (mLoad 42 t5) w (pk K) fun t12 w=>
 DoX prog (mStore 42 t4 t12) w (pk K) fun _ w=>
 RetX prog [.cell t4 42] w K) (JoinX (fun J2=>
 DoX prog (mLoad 53 t6) w (pk K) fun t13 w=>
 CallX prog 173 #[t13] w (pk K) fun t14 w=>
 GDo t14 true (fun E=>E t1 w) w fun t16 w=>
 GDo t14 true (fun E=>DoX prog (mBin .lss 3 t16 (.int .i64 24)) w (pk K) E) w fun t17 w=>
 DoX prog (mPick t14 t17 (.bool false)) w (pk K) fun t18 w=>
 GDo t18 true (fun E=>DoX prog (mFA 42 t5 5) w (pk K) E) w fun t20 w=>
 GDo t18 true (fun E=>DoX prog (mLoad 40 t20) w (pk K) E) w fun t21 w=>
 GDo t18 true (fun E=>DoX prog (mB .len #[40] 3 #[false] #[t21]) w (pk K) E) w fun t22 w=>
 GDo t18 true (fun E=>DoX prog (mBin .geq 3 t22 (.int .i64 8191)) w (pk K) E) w fun t23 w=>
 DoX prog (mPick t18 t23 (.bool false)) w (pk K) fun t24 w=>
 IfX t24 (DoX prog (mIface 203 (.int .i64 6)) w (pk K) fun t25 w=>
 DoX prog (mPanic t25) w (pk K) fun _ w=>
 J2 [] w) (J2 [] w)) (fun vs2 w=>∀_:Sg,S_parse_reader_array_1 t0 t1 t5 t6 w N1 K))
def S_parse_reader_array (t0 t1:Value)(w:World)(K:Ending→World→Prop):Prop:=
 DoX prog (mAlloc 42) w (pk K) fun t4 w=>
 DoX prog (mBuild 42 #[(0,(.int .i64 6))]) w (pk K) fun t7 w=>
 DoX prog (mAlloc 42) w (pk K) fun t5 w=>
 DoX prog (mStore 42 t5 t7) w (pk K) fun _ w=>
 LoopX [] w (fun vs1 w N1=>∀_:Sg,S_parse_reader_array_0 t0 t1 t4 t5 w N1 K)
theorem S_parse_reader_array_eq (t0 t1:Value)(w:World)(K:Ending→World→Prop):wpX prog 35 [(7,[])] [(2,[])] none (bodyOf Tryz.f181) (topQ prog [.cell 4 42] K) (startX [t0,t1]) [] w=S_parse_reader_array t0 t1 w K:=by kernel_rfl
theorem S_parse_reader_array_ok {t0 t1:Value}{w:World}{K:Ending→World→Prop}(h:S_parse_reader_array t0 t1 w K):Calls prog 181 #[t0,t1] w K:=
 calls_of_wpX Tryz.func181 rfl rfl rfl rfl (Eq.mpr (S_parse_reader_array_eq t0 t1 w K) h)
def S_parse_reader_dict_3 (t0 t1 t5 t6:Value)(w:World)(N1:List Value→World→Prop)(K:Ending→World→Prop):Prop:=
 HeldX w (fun S5 w=>
 HDo prog S5 (mFA 53 t6 4) fun t40=>
 HDo prog S5 (mLoad 9 t40) fun t41=>
 CallX prog 151 #[t0] w (pm1 (pm1 (pm1 (pm1 (pm1 (pm1 (pk K))))))) fun t44 w=>
 S5 w∧(CallX prog 150 #[t0,t44,t1] w (pm1 (pm1 (pm1 (pm1 (pm1 (pm1 (pk K))))))) fun t46 w=>
 S5 w∧(DoX prog (mMapU 182 t5 t41 t46) w (pm1 (pm1 (pm1 (pm1 (pm1 (pm1 (pk K))))))) fun _ w=>
 S5 w∧(N1 [] w))))
def S_parse_reader_dict_2 (t4 t5 t9 t68 t69 t70:Value)(w:World)(N3:List Value→World→Prop)(K:Ending→World→Prop):Prop:=
 DoX prog (mBin .lss 3 t70 t69) w (pk K) fun t71 w=>
 IfX t71 (DoX prog (mIA 39 t68 t70) w (pk K) fun t72 w=>
 DoX prog (mLoad 9 t72) w (pk K) fun t73 w=>
 DoX prog (mFA 42 t9 5) w (pk K) fun t74 w=>
 DoX prog (mLoad 40 t74) w (pk K) fun t75 w=>
 DoX prog (mLook 182 t5 t73 false) w (pk K) fun t78 w=>
 DoX prog (mBuildS 40 1 #[(0,t78)]) w (pk K) fun t79 w=>
 DoX prog (mB .append #[40,40] 40 #[false,false] #[t75,t79]) w (pk K) fun t80 w=>
 DoX prog (mFA 42 t9 5) w (pk K) fun t81 w=>
 DoX prog (mStore 40 t81 t80) w (pk K) fun _ w=>
 DoX prog (mBin .add 3 t70 (.int .i64 1)) w (pk K) fun t82 w=>
 N3 [t82] w) (DoX prog (mLoad 42 t9) w (pk K) fun t83 w=>
 DoX prog (mStore 42 t4 t83) w (pk K) fun _ w=>
 RetX prog [.cell t4 42] w K)
def S_parse_reader_dict_1 (t4 t5 t9 t49:Value)(w:World)(N2:List Value→World→Prop)(K:Ending→World→Prop):Prop:=
 DoX prog (mNext t49 false 0) w (pk K) fun t50 w=>
 DoX prog (mExt t50 0) w (pk K) fun t51 w=>
 IfX t51 (DoX prog (mEntry t49) w (pk K) fun t52 w=>
 DoX prog (mExt t52 0) w (pk K) fun t53 w=>
 DoX prog (mExt t52 1) w (pk K) fun t54 w=>
 DoX prog (mAlloc 42) w (pk K) fun t11 w=>
 DoX prog (mStore 42 t11 t54) w (pk K) fun _ w=>
 DoX prog (mFA 42 t11 0) w (pk K) fun t55 w=>
 DoX prog (mLoad 3 t55) w (pk K) fun t56 w=>
 DoX prog (mEq .neq 3 (.tmp 56) (.const (.int .i64 0)) t56 (.int .i64 0)) w (pk K) fun t57 w=>
 IfX t57 (DoX prog (mFA 42 t9 4) w (pk K) fun t58 w=>
 DoX prog (mLoad 39 t58) w (pk K) fun t59 w=>
 DoX prog (mBuildS 39 1 #[(0,t53)]) w (pk K) fun t61 w=>
 DoX prog (mB .append #[39,39] 39 #[false,false] #[t59,t61]) w (pk K) fun t62 w=>
 DoX prog (mFA 42 t9 4) w (pk K) fun t63 w=>
 DoX prog (mStore 39 t63 t62) w (pk K) fun _ w=>
 N2 [] w) (N2 [] w)) (DoX prog (mFA 42 t9 4) w (pk K) fun t64 w=>
 DoX prog (mLoad 39 t64) w (pk K) fun t65 w=>
 CallX prog 148 #[t65] w (pk K) fun t66 w=>
 DoX prog (mFA 42 t9 4) w (pk K) fun t67 w=>
 DoX prog (mLoad 39 t67) w (pk K) fun t68 w=>
 DoX prog (mB .len #[39] 3 #[false] #[t68]) w (pk K) fun t69 w=>
 LoopX [(.int .i64 0)] w (fun vs3 w N3=>∀_:Sg,S_parse_reader_dict_2 t4 t5 t9 t68 t69 (vs3.getD 0 undef) w N3 K))
def S_parse_reader_dict_0 (t0 t1 t4 t5:Value)(w:World)(N1:List Value→World→Prop)(K:Ending→World→Prop):Prop:=
 CallX prog 151 #[t0] w (pk K) fun t16 w=>
 DoX prog (mAlloc 53) w (pk K) fun t6 w=>
 DoX prog (mStore 53 t6 t16) w (pk K) fun _ w=>
 DoX prog (mLoad 53 t6) w (pk K) fun t17 w=>
 CallX prog 209 #[t17,(.int .i64 6),(.string ⟨#[62,62]⟩)] w (pk K) fun t18 w=>
 IfX t18 (DoX prog (mBuild 42 #[(0,(.int .i64 7))]) w (pk K) fun t47 w=>
 DoX prog (mAlloc 42) w (pk K) fun t9 w=>
 DoX prog (mStore 42 t9 t47) w (pk K) fun _ w=>
 DoX prog (mRange 182 t5) w (pk K) fun t49 w=>
 LoopX [] w (fun vs2 w N2=>∀_:Sg,S_parse_reader_dict_1 t4 t5 t9 t49 w N2 K)) (DoX prog (mFA 53 t6 4) w (pk K) fun t21 w=>
 DoX prog (mLoad 9 t21) w (pk K) fun t22 w=>
 DoX prog (mLook 182 t5 t22 true) w (pk K) fun t23 w=>
 DoX prog (mExt t23 0) w (pk K) fun t24 w=>
 DoX prog (mExt t23 1) w (pk K) fun t25 w=>
 DoX prog (mAlloc 42) w (pk K) fun t7 w=>
 DoX prog (mStore 42 t7 t24) w (pk K) fun _ w=>
 JoinX (fun J4=>
 DoX prog (mFA 53 t6 0) w (pk K) fun t27 w=>
 DoX prog (mLoad 3 t27) w (pk K) fun t28 w=>
 DoX prog (mEq .neq 3 (.tmp 28) (.const (.int .i64 4)) t28 (.int .i64 4)) w (pk K) fun t29 w=>
 IfX t29 (DoX prog (mIface 203 (.int .i64 3)) w (pk K) fun t30 w=>
 DoX prog (mPanic t30) w (pk K) fun _ w=>
 J4 [] w) (IfX t25 (DoX prog (mIface 203 (.int .i64 9)) w (pk K) fun t33 w=>
 DoX prog (mPanic t33) w (pk K) fun _ w=>
 J4 [] w) (DoX prog (mB .len #[182] 3 #[false] #[t5]) w (pk K) fun t36 w=>
 DoX prog (mBin .geq 3 t36 (.int .i64 8191)) w (pk K) fun t37 w=>
 IfX t37 (DoX prog (mIface 203 (.int .i64 6)) w (pk K) fun t38 w=>
 DoX prog (mPanic t38) w (pk K) fun _ w=>
 J4 [] w) (J4 [] w)))) (fun vs4 w=>∀_:Sg,S_parse_reader_dict_3 t0 t1 t5 t6 w N1 K))
def S_parse_reader_dict (t0 t1:Value)(w:World)(K:Ending→World→Prop):Prop:=
 DoX prog (mAlloc 42) w (pk K) fun t4 w=>
 DoX prog (mMap 182 none) w (pk K) fun t14 w=>
 LoopX [] w (fun vs1 w N1=>∀_:Sg,S_parse_reader_dict_0 t0 t1 t4 t14 w N1 K)
theorem S_parse_reader_dict_eq (t0 t1:Value)(w:World)(K:Ending→World→Prop):wpX prog 84 [(11,[])] [(2,[]),(14,[]),(20,[70])] none (bodyOf Tryz.f182) (topQ prog [.cell 4 42] K) (startX [t0,t1]) [] w=S_parse_reader_dict t0 t1 w K:=by kernel_rfl
theorem S_parse_reader_dict_ok {t0 t1:Value}{w:World}{K:Ending→World→Prop}(h:S_parse_reader_dict t0 t1 w K):Calls prog 182 #[t0,t1] w K:=
 calls_of_wpX Tryz.func182 rfl rfl rfl rfl (Eq.mpr (S_parse_reader_dict_eq t0 t1 w K) h)
def S_parse_face (t0 r:Value)(w:World)(K:Ending→World→Prop):Prop:=
 DoX prog (mEq .eql 20 (.tmp 5) (.const .nilIface) r .nilIface) w (pk K) fun t7 w=>
 IfX t7 (K (.returned (.tuple #[])) w) (DoX prog (mTA r 20 203 true) w (pk K) fun t8 w=>
 DoX prog (mExt t8 1) w (pk K) fun t9 w=>
 DoX prog (mExt t8 0) w (pk K) fun t10 w=>
 IfX t9 (DoX prog (mNil t0) w (pk K) fun t13 w=>
 DoX prog (mStore 24 t13 t10) w (pk K) fun _ w=>
 K (.returned (.tuple #[])) w) (DoX prog (mPanic r) w (pk K) fun _ w=>
 K (.returned (.tuple #[])) w))
theorem S_parse_face_eq (t0 r:Value)(w:World)(K:Ending→World→Prop):wpX prog 14 [] [] none (sndOf (bodyOf Tryz.f149)) (topD prog [] K) (upd (startX [t0]) 5 r) [] w=S_parse_face t0 r w K:=by kernel_rfl
theorem S_parse_face_dok {t0:Value}{u:FrameMode}{w:World}{R:Ending→FrameMode→World→Prop}(h:S_parse_face t0 (recV u) w (fun e w=>R e (recM u) w)):CallsD prog 149 #[t0] u w R:=
 callsD_recover Tryz.func149 rfl rfl rfl rfl rfl rfl rfl rfl (Eq.mpr (S_parse_face_eq t0 (recV u) w _) h)
def S_parse_reader_read_p0 (x0:Value)(x1:Value)(K:Ending→World→Prop):=pd prog [.cell x0 42,.cell x1 24] K [{ target:=.fn (.func 149) #[],args:=#[x1] }]
def S_parse_reader_read (t0:Value)(w:World)(K:Ending→World→Prop):Prop:=
 DoX prog (mAlloc 42) w (pk K) fun t2 w=>
 DoX prog (mAlloc 24) w (pk K) fun t3 w=>
 CallX prog 151 #[t0] w (S_parse_reader_read_p0 t2 t3 K) fun t6 w=>
 CallX prog 150 #[t0,t6,(.int .i64 0)] w (S_parse_reader_read_p0 t2 t3 K) fun t7 w=>
 DoX prog (mStore 42 t2 t7) w (S_parse_reader_read_p0 t2 t3 K) fun _ w=>
 DoX prog (mStore 24 t3 (.int .i64 0)) w (S_parse_reader_read_p0 t2 t3 K) fun _ w=>
 Leave prog [.cell t2 42,.cell t3 24] K [{ target:=.fn (.func 149) #[],args:=#[t3] }] .returning w
theorem S_parse_reader_read_eq (t0:Value)(w:World)(K:Ending→World→Prop):wpX prog 8 [] [] none (bodyOf Tryz.f110) (topQ prog [.cell 2 42,.cell 3 24] K) (startX [t0]) [] w=S_parse_reader_read t0 w K:=by kernel_rfl
theorem S_parse_reader_read_ok {t0:Value}{w:World}{K:Ending→World→Prop}(h:S_parse_reader_read t0 w K):Calls prog 110 #[t0] w K:=
 calls_of_wpX Tryz.func110 rfl rfl rfl rfl (Eq.mpr (S_parse_reader_read_eq t0 w K) h)
def S_parse_Object (t0 t1:Value)(w:World)(K:Ending→World→Prop):Prop:=
 DoX prog (mAlloc 42) w (pk K) fun t4 w=>
 DoX prog (mBin .lss 3 t1 (.int .i64 0)) w (pk K) fun t11 w=>
 GDo t11 false (fun E=>E t1 w) w fun t13 w=>
 GDo t11 false (fun E=>E t0 w) w fun t14 w=>
 GDo t11 false (fun E=>DoX prog (mB .len #[9] 3 #[false] #[t14]) w (pk K) E) w fun t15 w=>
 GDo t11 false (fun E=>DoX prog (mBin .gtr 3 t13 t15) w (pk K) E) w fun t16 w=>
 DoX prog (mPick t11 (.bool true) t16) w (pk K) fun t17 w=>
 IfX t17 (DoX prog (mBuild 42 #[]) w (pk K) fun t18 w=>
 DoX prog (mStore 42 t4 t18) w (pk K) fun _ w=>
 RetX prog [.cell t4 42,.val (.int .i64 0),.val (.int .i64 1)] w K) (DoX prog (mBuild 144 #[(0,t0),(1,t1)]) w (pk K) fun t21 w=>
 DoX prog (mBox 144 t21) w (pk K) fun t22 w=>
 CallX prog 110 #[t22] w (pk K) fun t25 w=>
 DoX prog (mExt t25 0) w (pk K) fun t26 w=>
 DoX prog (mExt t25 1) w (pk K) fun t27 w=>
 DoX prog (mAlloc 42) w (pk K) fun t8 w=>
 DoX prog (mStore 42 t8 t26) w (pk K) fun _ w=>
 DoX prog (mEq .neq 24 (.tmp 28) (.const (.int .i64 0)) t27 (.int .i64 0)) w (pk K) fun t29 w=>
 IfX t29 (DoX prog (mBuild 42 #[]) w (pk K) fun t30 w=>
 DoX prog (mStore 42 t4 t30) w (pk K) fun _ w=>
 RetX prog [.cell t4 42,.val (.int .i64 0),.val t27] w K) (HeldX w (fun S1 w=>
 HDo prog S1 (mLoad 42 t8) fun t32=>
 HDo prog (fun _=>True) (mNil t22) fun t34=>
 HDo prog (fun _=>True) (mFA 144 t34 1) fun t35=>
 HDo prog S1 (mLoad 3 t35) fun t36=>
 DoX prog (mStore 42 t4 t32) w (pm1 (pm1 (pm1 (pm1 (pm1 (pm1 (pm1 (pk K)))))))) fun _ w=>
 S1 w∧(RetX prog [.cell t4 42,.val t36,.val (.int .i64 0)] w K))))
theorem S_parse_Object_eq (t0 t1:Value)(w:World)(K:Ending→World→Prop):wpX prog 37 [] [] none (bodyOf Tryz.f65) (topQ prog [.cell 4 42,.tmp 5,.tmp 6] K) (startX [t0,t1]) [] w=S_parse_Object t0 t1 w K:=by kernel_rfl
theorem S_parse_Object_ok {t0 t1:Value}{w:World}{K:Ending→World→Prop}(h:S_parse_Object t0 t1 w K):Calls prog 65 #[t0,t1] w K:=
 calls_of_wpX Tryz.func65 rfl rfl rfl rfl (Eq.mpr (S_parse_Object_eq t0 t1 w K) h)
end
section
open Eng Go.RowKit
 attribute [local congr] g_congr
section
variable {w:World}{PK:PKT}{K:VWP}{S:Nat→Prop}{w0:World}{L:List Ent}
theorem o_tkb (x:Lx.Tok)(ho:OwnS S w0 w L)(k:∀b w',OwnS S w0 w' (tokE b x::L)→K (.pointer (some ⟨b,0,none⟩)) w'):DoX prog (mBox 53 (tokV x)) w PK K:=
 o_new (fun b=>.pointer (some ⟨b,0,none⟩)) (tokC x) 53 (fun _=>by kernel_rfl) ho k
theorem tk_put (i:Nat){b:Nat}{x y:Lx.Tok}(ho:OwnS S w0 w L)(hi:L[i]?=some (tokE b x))(k:∀w',OwnS S w0 w' (L.set i (tokE b y))→K undef w') :
  DoX prog (mStore 53 (.pointer (some ⟨b,0,none⟩)) (tokV y)) w PK K:=o_put i ho hi (new:=tokC y) szTok (tokC_one y) rfl k
theorem tk_k (ho:OwnS S w0 w L)(i:Nat){b:Nat}{x:Lx.Tok}(hi:L[i]?=some (tokE b x)):DoX prog (mLoad 3 (.pointer (some ⟨b,0,none⟩))) w PK K=K (.int .i64 x.k) w:=l_cell nInt (ho.cell i hi 0 rfl)
theorem tk_a (ho:OwnS S w0 w L)(i:Nat){b:Nat}{x:Lx.Tok}(hi:L[i]?=some (tokE b x)):DoX prog (mLoad 3 (.pointer (some ⟨b,1,none⟩))) w PK K=K (.int .i64 x.a) w:=l_cell nInt (ho.cell i hi 1 rfl)
theorem tk_t (ho:OwnS S w0 w L)(i:Nat){b:Nat}{x:Lx.Tok}(hi:L[i]?=some (tokE b x)):DoX prog (mLoad 3 (.pointer (some ⟨b,2,none⟩))) w PK K=K (.int .i64 x.t) w:=l_cell nInt (ho.cell i hi 2 rfl)
theorem tk_n (ho:OwnS S w0 w L)(i:Nat){b:Nat}{x:Lx.Tok}(hi:L[i]?=some (tokE b x)):DoX prog (mLoad 2 (.pointer (some ⟨b,3,none⟩))) w PK K=K (.int .i64 x.n) w:=l_cell nI65 (ho.cell i hi 3 rfl)
theorem tk_s (ho:OwnS S w0 w L)(i:Nat){b:Nat}{x:Lx.Tok}(hi:L[i]?=some (tokE b x)):DoX prog (mLoad 9 (.pointer (some ⟨b,4,none⟩))) w PK K=K (.string ⟨x.s.toArray⟩) w:=l_cell nStr (ho.cell i hi 4 rfl)
theorem tk_v (ho:OwnS S w0 w L)(i:Nat){b:Nat}{x:Lx.Tok}(hi:L[i]?=some (tokE b x)):DoX prog (mLoad 53 (.pointer (some ⟨b,0,none⟩))) w PK K=K (tokV x) w:=l_at (ho.agg i hi aggTok)
theorem tkr_k (ho:OwnS S w0 w L)(i:Nat){b:Nat}{x:Lx.Tok}(hi:L[i]?=some (tokE b x)):(mLoad 3 (.pointer (some ⟨b,0,none⟩))).run prog w=.ok (.value (.int .i64 x.k)) w:=run_load_cell nInt (ho.cell i hi 0 rfl)
theorem ft0:fOff prog 53 0=some 0:=by kernel_rfl
theorem ft1:fOff prog 53 1=some 1:=by kernel_rfl
theorem ft4:fOff prog 53 4=some 4:=by kernel_rfl
theorem tk_new {f:Nat}{args:Array Value}{r:Lx.Tok×Int}{PK1 PK2 PK3 PK4 PK5:PKT}{K:Value→VWP}(ho:OwnS S w0 w L)(h:Ret prog f args w (fun v w'=>v=tokR r∧Below w.heap.size w w'))
  (k:∀b w',OwnS S w0 w' (tokE b r.1::L)→K (.int .i64 r.2) (.pointer (some ⟨b,0,none⟩)) w') :
  CallX prog f args w PK1 fun t w=>DoX prog (mExt t 0) w PK2 fun u w=>DoX prog (mExt t 1) w PK3 fun v w=>DoX prog (mAlloc 53) w PK4 fun q w=>DoX prog (mStore 53 q u) w PK5 fun _ w=>K v q w:=by
 refine c_below ho h ?_;rintro v w1 rfl ho;rw[tokR,x_0,x_1];refine o_tok ho fun b w2 ho=>?_;exact tk_put 0 ho rfl fun w3 ho=>k b w3 ho
end
theorem pfirst_ret (t:Lx.Tok)(w:World)(h0:t.k≠0):Ret prog 173 #[tokV t] w (fun v w'=>v=.bool (Ps.begins t)∧Below w.heap.size w w'):=by
 refine ret_of fun K hK=>S_parse_begins_ok ?_;unfold S_parse_begins;refine o_tkb t (Own.start w) fun b w1 ho=>?_;have fin:∀{q:Bool},q=Ps.begins t→K (.returned (.bool q)) w1:=fun e=>hK _ _ ⟨by rw[e],ho.done⟩;by_cases h6:t.k=6
 ·by_cases h1:t.s=[91]
  ·simp only[rs,fa_t0,fa_t4',tk_k ho 0 rfl,tk_s ho 0 rfl,h6,h1,decide_true,g_un,show ¬(6:Int)=5 by decide,decide_false];exact fin (by simp[Ps.begins,h6,h1])
  ·simp only[rs,fa_t0,fa_t4',tk_k ho 0 rfl,tk_s ho 0 rfl,h6,decide_eq_false h1,decide_true,g_un,show ¬(6:Int)=5 by decide,decide_false];exact fin (by simp[Ps.begins,h6,h1])
 by_cases h5:t.k=5
 ·by_cases h1:t.s=Ps.tru
  ·have h1':t.s=[116,114,117,101]:=h1;simp only[rs,fa_t0,fa_t4',tk_k ho 0 rfl,tk_s ho 0 rfl,h5,h1',decide_true,decide_false,g_un];exact fin (by simp[Ps.begins,h5,h1])
  have h1':¬t.s=[116,114,117,101]:=h1;by_cases h2:t.s=Ps.fal
  ·have h2':t.s=[102,97,108,115,101]:=h2;simp only[rs,fa_t0,fa_t4',tk_k ho 0 rfl,tk_s ho 0 rfl,h5,h2',decide_true,decide_false,g_un,show ¬([102,97,108,115,101]:List UInt8)=[116,114,117,101] by decide];exact fin (by simp[Ps.begins,h5,h2])
  have h2':¬t.s=[102,97,108,115,101]:=h2;simp only[rs,fa_t0,fa_t4',tk_k ho 0 rfl,tk_s ho 0 rfl,h5,decide_eq_false h1',decide_eq_false h2',decide_true,decide_false,g_un];exact fin (by simp[Ps.begins,h5,h1,h2];first|exact Iff.rfl|exact decide_eq_decide.2 Iff.rfl)
 ·simp only[rs,fa_t0,fa_t4',tk_k ho 0 rfl,tk_s ho 0 rfl,h6,h5,decide_true,decide_false,g_un];exact fin (by simp[Ps.begins,h6,h5,h0])
theorem pword_ret (t:Lx.Tok)(k:Int)(s:List UInt8)(w:World):Ret prog 209 #[tokV t,.int .i64 k,.string ⟨s.toArray⟩] w (fun v w'=>v=.bool (decide (t.k=k)&&decide (t.s=s))∧Below w.heap.size w w'):=by
 refine ret_of fun K hK=>S_parse_word_ok ?_;unfold S_parse_word;refine o_tkb t (Own.start w) fun b w1 ho=>?_;by_cases h:t.k=k
 ·simp only[rs,fa_t0,fa_t4',tk_k ho 0 rfl,tk_s ho 0 rfl,decide_eq_true h,g_un];exact hK _ _ ⟨by rw[decide_eq_true h,Bool.true_and],ho.done⟩
 ·simp only[rs,fa_t0,fa_t4',tk_k ho 0 rfl,tk_s ho 0 rfl,decide_eq_false h,g_un];exact hK _ _ ⟨by rw[decide_eq_false h,Bool.false_and],ho.done⟩
end
section
open Eng Go.RowKit
section
variable {w:World}{S:Nat→Prop}{w0:World}{L:List Ent}{PK:PKT}{K:VWP}
theorem o_obs1 (o:Ob){vk vc:Value}(hk:vk.oneCell'=true)(hc:vc.oneCell'=true)(ho:OwnS S w0 w L)(k:∀b w',OwnS S w0 w' (obE b o vk vc::L)→K (.slice (some ⟨b,0,none⟩) 1 1) w'):DoX prog (mBuildS 40 1 #[(0,obV o vk vc)]) w PK K:=by
 cases vk<;>first|(cases hk;done)|skip
 all_goals cases vc<;>first|(cases hc;done)|exact o_new (fun b=>.slice (some ⟨b,0,none⟩) 1 1) (obC o _ _) 42 (fun _=>by kernel_rfl) ho k
theorem o_strb1 (s:List UInt8)(ho:OwnS S w0 w L)(k:∀b w',OwnS S w0 w' (.cells b [.string ⟨s.toArray⟩] 9::L)→K (.slice (some ⟨b,0,none⟩) 1 1) w'):DoX prog (mBuildS 39 1 #[(0,.string ⟨s.toArray⟩)]) w PK K:=
 o_new (fun b=>.slice (some ⟨b,0,none⟩) 1 1) [.string ⟨s.toArray⟩] 9 (fun _=>by kernel_rfl) ho k
end
theorem strsV_app (a b:List (List UInt8)):strsV (a++b)=strsV a++strsV b:=by simp[strsV]
end
section
open Eng Go.RowKit
theorem Sl.upto {w:World}{a:Option Addr}{n cap sz i:Nat}{cs:List Value}(h:Sl w (.slice a n cap) sz n cs)(hi:i≤n):Sl w (.slice (subA a 0 cap sz) i cap) sz i (cs.take (i*sz)):=by
 obtain⟨hl,a',cap',e,h1,h2⟩:=h
 injection e with e1 _ e3
 subst e1;subst e3;refine⟨by rw[List.length_take,hl,Nat.min_eq_left (Nat.mul_le_mul_right _ hi)],subA a 0 cap sz,cap,rfl,?_,?_⟩
 ·intro hn;cases a with
 |none=>have:=h1 rfl;omega
 |some p=>unfold subA at hn;split at hn<;>simp at hn
 ·intro p hp;cases a with
 |none=>unfold subA at hp;split at hp<;>simp at hp
 |some q=>
   have hq:q=p:=by
    unfold subA at hp;split at hp
    ·exact Option.some.inj hp
    ·have:=Option.some.inj hp;rw[←this];simp[Addr.add]
   subst hq;refine⟨fun h=>(h2 q rfl).1 (by omega),fun j u hj=>(h2 q rfl).2 j u ?_⟩;rw[List.getElem?_take] at hj;split at hj<;>first|exact hj|cases hj
theorem Sl.from {w:World}{a:Option Addr}{n cap sz i:Nat}{cs:List Value}(h:Sl w (.slice a n cap) sz n cs)(hi:i≤n)(hc:n≤cap):Sl w (.slice (subA a i cap sz) (n - i) (cap - i)) sz (n - i) (cs.drop (i*sz)):=by
 obtain⟨hl,a',cap',e,h1,h2⟩:=h
 injection e with e1 _ e3
 subst e1;subst e3;refine⟨by rw[List.length_drop,hl,←Nat.mul_sub_right_distrib],subA a i cap sz,cap - i,rfl,?_,?_⟩
 ·intro hn;cases a with
 |none=>have:=h1 rfl;omega
 |some p=>unfold subA at hn;split at hn<;>simp at hn
 ·intro p hp;cases a with
 |none=>unfold subA at hp;split at hp<;>simp at hp
 |some q=>
   by_cases hci:cap=i
   ·have hn:n - i=0:=by omega
    refine⟨fun h=>by omega,fun j u hj=>?_⟩;have:(cs.drop (i*sz)).length=0:=by rw[List.length_drop,hl,←Nat.mul_sub_right_distrib,hn,Nat.zero_mul]
    have:=(List.getElem?_eq_some_iff.1 hj).1;omega
   ·unfold subA at hp;rw[if_neg hci,Option.map_some] at hp
    injection hp with hp
    have hsz:0 < n - i→q.spot=none:=fun h=>(h2 q rfl).1 (by omega);refine⟨fun h=>?_,fun j u hj=>?_⟩
    ·have hs:=hsz h;rw[←hp];obtain⟨b,off,spot⟩:=q;simp only at hs;subst hs;rw[add_none]
    ·rw[List.getElem?_drop] at hj;have hc2:=(h2 q rfl).2 (i*sz+j) u hj;have hjl:=(List.getElem?_eq_some_iff.1 hj).1;have hs:q.spot=none:=(h2 q rfl).1 (by
      rcases Nat.eq_zero_or_pos n with h0|h0
      ·rw[hl,h0,Nat.zero_mul] at hjl;omega
      ·exact h0)
     rw[←hp];obtain⟨b,off,spot⟩:=q;simp only at hs;subst hs;rw[add_none,Nat.add_assoc];exact hc2
theorem SlA.form {A:Nat→Prop}{w:World}{v:Value}{sz n:Nat}{cs:List Value}(h:SlA A w v sz n cs):∃a cap,v=.slice a n cap∧n≤cap:=by
 obtain⟨⟨_,a,cap,rfl,_⟩,_,h3⟩:=h;exact⟨a,cap,rfl,h3 a n cap rfl⟩
end
section
open Eng Go.RowKit
theorem elStr:elB prog 9 1 16=true:=by kernel_rfl
theorem elOb:elB prog 42 6 88=true:=by kernel_rfl
theorem szStr:(Tryz.prog.info? 9).map (·.size)=some 1:=by kernel_rfl
section
variable {w:World}{S:Nat→Prop}{w0:World}{L:List Ent}{PK:PKT}{K:VWP}
theorem o_apS (i:Nat){v v2:Value}{n m:Nat}{xs news:List Value}{cb:Array Bool}(ho:OwnS S w0 w L)(hi:L[i]?=some (.urow 9 1 v n xs))(hs:Sl w v2 1 m news)(h1:∀u∈news,u.oneCell'=true)(hb:n+m≤1000000000000)
  (k:∀v' w',OwnS S w0 w' (L.set i (.urow 9 1 v' (n+m) (xs++news)))→K v' w'):DoX prog (mB .append #[39,39] 39 cb #[v,v2]) w PK K:=
 o_appendU i Tryz.underlying39 elStr (by decide) ho hi hs h1 (by omega) (by omega) k
theorem o_apO (i:Nat){v v2:Value}{n m:Nat}{xs news:List Value}{cb:Array Bool}(ho:OwnS S w0 w L)(hi:L[i]?=some (.urow 42 6 v n xs))(hs:Sl w v2 6 m news)(h1:∀u∈news,u.oneCell'=true)(hb:n+m≤1000000000000)
  (k:∀v' w',OwnS S w0 w' (L.set i (.urow 42 6 v' (n+m) (xs++news)))→K v' w'):DoX prog (mB .append #[40,40] 40 cb #[v,v2]) w PK K:=
 o_appendU i Tryz.underlying40 elOb (by decide) ho hi hs h1 (by omega) (by omega) k
end
end
section
namespace Eng
open Go.RowKit
def strK (k:List UInt8):Value:=.string ⟨k.toArray⟩
def MapIs (w:World)(b:Nat)(al:List (List UInt8×Value)):Prop:=∃es clock,w.heap[b]?=some (.map es clock)∧es.toList.map (fun e=>(e.key,e.val))=al.map fun p=>(strK p.1,p.2)
def lookA (al:List (List UInt8×Value))(k:List UInt8):Option Value:=(al.find? fun p=>decide (p.1=k)).map (·.2)
theorem findNow_str (k:List UInt8):∀(es:List MapEntry) (al:List (List UInt8×Value)) (i:Nat),es.map (fun e=>(e.key,e.val))=al.map (fun p=>(strK p.1,p.2)) →
  ∃r,Instr.findNow .string (strK k) es i=some r∧r.map (·.2)=lookA al k
|[],[],i,_=>⟨none,rfl,rfl⟩
|e::es,p::al,i,h=>by
  simp only[List.map_cons,List.cons.injEq,Prod.mk.injEq] at h;obtain⟨⟨h1,h2⟩,h3⟩:=h;have hs:Instr.sameNow .string (strK k) e.key=some (decide (k=p.1)):=by
   rw[h1];show some ((⟨k.toArray⟩:ByteArray)==⟨p.1.toArray⟩)=_
   congr 1
   show (k.toArray==p.1.toArray)=_;by_cases hk:k=p.1<;>simp[hk]
  by_cases hk:k=p.1
  ·refine⟨some (i,e.val),?_,?_⟩
   ·rw[Instr.findNow,hs];simp[hk]
   ·simp[lookA,hk,h2]
  ·obtain⟨r,hr1,hr2⟩:=findNow_str k es al (i+1) h3;refine⟨r,?_,?_⟩
   ·rw[Instr.findNow,hs];simp[hk,hr1]
   ·have hk':¬p.1=k:=fun e=>hk e.symm;rw[hr2];simp[lookA,hk']
|[],_::_,_,h=>by simp at h
|_::_,[],_,h=>by simp at h
section
variable {S:Nat→Prop}{P:Program}{w w0:World}{L:List Ent}{PK:PKT}{K:VWP}
theorem run_checkStr {k:TypeId}{e:Bool}(hk:P.underlying k=some .string)(x:List UInt8):(Instr.checkKey e 10000 k (strK x)).run P w=.ok () w:=by
 show (Instr.checkKey e (9999+1) k (strK x)).run P w=_;rw[Instr.checkKey];simp[run_underlying hk,strK]
theorem run_findStr {k:TypeId}(hk:P.underlying k=some .string)(x:List UInt8){es:List MapEntry}{al:List (List UInt8×Value)}(h:es.map (fun e=>(e.key,e.val))=al.map (fun p=>(strK p.1,p.2))) :
  ∃r,(Instr.findKey k (strK x) es).run P w=.ok r w∧r.map (·.2)=lookA al x:=by
 obtain⟨r,h1,h2⟩:=findNow_str x es al 0 h;refine⟨r,?_,h2⟩;simp[Instr.findKey,run_underlying hk,h1]
theorem run_look {T k e:TypeId}{ok:Bool}{b:Nat}{al:List (List UInt8×Value)}{z:Value}(ht:P.underlying T=some (.map k e))(hk:P.underlying k=some .string)(hz:(P.info? e).bind (·.zero)=some z)(h:MapIs w b al)(x:List UInt8) :
  (mLook T (.map (some b)) (strK x) ok).run P w=.ok (.value (if ok then .tuple #[(lookA al x).getD z,.bool (lookA al x).isSome] else (lookA al x).getD z)) w:=by
 obtain⟨es,clock,h1,h2⟩:=h;obtain⟨r,r1,r2⟩:=run_findStr (P:=P) (w:=w) hk x h2;have hz':(zeroValue e).run P w=.ok z w:=by
  obtain⟨i,hi,hzi⟩:=Option.bind_eq_some_iff.1 hz;simp[zeroValue,typeInfo,hi,hzi]
 refine mv_run ?_;rw[←r2];cases r with
|none=>simp[Instr.lookup,run_underlying ht,getObj,Sem.run,h1,run_checkStr hk x,r1,hz']
|some p=>
  obtain⟨i,v⟩:=p;simp[Instr.lookup,run_underlying ht,getObj,Sem.run,h1,run_checkStr hk x,r1]
end
theorem lookA_none {al:List (List UInt8×Value)}{k:List UInt8}:lookA al k=none↔k ∉ al.map (·.1):=by
 unfold lookA;rw[Option.map_eq_none_iff,List.find?_eq_none];exact⟨fun h hm=>by obtain⟨p,hp,rfl⟩:=List.mem_map.1 hm;simpa using h p hp,fun h p hp hc=>h (List.mem_map.2 ⟨p,hp,by simpa using hc⟩)⟩
end Eng
end
section
open Eng Go.RowKit
theorem Sl.cellAt {w:World}{b off cap sz n:Nat}{cs:List Value}(h:Sl w (.slice (some ⟨b,off,none⟩) n cap) sz n cs):∀j u,cs[j]?=some u→w.cell? ⟨b,off+j,none⟩=some u:=by
 obtain⟨_,a,cap',e,_,h2⟩:=h
 injection e with e1 _ _
 exact fun j u hj=>(h2 _ e1.symm).2 j u hj
end
end Go.Proofs.YtoofficgclghoaaGreatDoor

namespace Go.Proofs.YtoofficgclghoaaGreatDoor
section
open Eng Go.RowKit
theorem obV_inj {o p:Ob}{vk vc xk xc:Value}(h:obV o vk vc=obV p xk xc):vk=xk∧vc=xc:=by
 have:(obC o vk vc).toArray=(obC p xk xc).toArray:=by injection h
 have:obC o vk vc=obC p xk xc:=by simpa using congrArg Array.toList this
 simp only[obC,List.cons.injEq,and_true] at this;exact⟨this.2.2.2.2.1,this.2.2.2.2.2⟩
theorem OV.slices {A:Nat→Prop}{w:World}{o:Ob}{vk vc:Value}(h:OV A w (obV o vk vc) o):∃cs,ObAt A w o vk vc cs:=by
 obtain⟨xk,xc,cs,e,ha⟩:=h.open;obtain⟨rfl,rfl⟩:=obV_inj e;exact⟨cs,ha⟩
theorem OV.oneK {A:Nat→Prop}{w:World}{o:Ob}{vk vc:Value}(h:OV A w (obV o vk vc) o):vk.oneCell'=true:=by obtain⟨cs,ha⟩:=h.slices;exact ha.keys.one
theorem OV.oneC {A:Nat→Prop}{w:World}{o:Ob}{vk vc:Value}(h:OV A w (obV o vk vc) o):vc.oneCell'=true:=by obtain⟨cs,ha⟩:=h.slices;exact ha.kids.one
section
variable {w:World}{PK:PKT}{K:VWP}{S:Nat→Prop}{w0:World}{L:List Ent}
end
end
end Go.Proofs.YtoofficgclghoaaGreatDoor










namespace Go.Proofs.YtoofficgclghoaaGreatDoor
section
open Eng Go.RowKit
namespace Eng
def Ent.two (e f:Ent):Ent:=⟨fun k=>e.blk k∨f.blk k,fun w=>e.is w∧f.is w∧∀k,e.blk k→¬f.blk k,
 fun h k=>⟨e.keep h.1 fun b hb=>k b (.inl hb),f.keep h.2.1 fun b hb=>k b (.inr hb),h.2.2⟩,fun h k hk=>hk.elim (e.lt h.1 k) (f.lt h.2.1 k)⟩
section
variable {S:Nat→Prop}{w w0:World}{L:List Ent}
theorem OwnS.split {e f:Ent}(ho:OwnS S w0 w (.two e f::L)):OwnS S w0 w (e::f::L):=by
 obtain⟨⟨he,hf,hd⟩,hb⟩:=ho.all (.two e f) (by simp);obtain⟨a1,a2⟩:=List.pairwise_cons.1 ho.apart;refine⟨ho.grew,fun x hx=>?_,List.pairwise_cons.2 ⟨fun x hx k hk=>?_,List.pairwise_cons.2 ⟨fun x hx k hk=>a1 x hx k (.inr hk),a2⟩⟩⟩
 ·rcases List.mem_cons.1 hx with rfl|hx
  ·exact⟨he,fun k hk=>hb k (.inl hk)⟩
  rcases List.mem_cons.1 hx with rfl|hx
  ·exact⟨hf,fun k hk=>hb k (.inr hk)⟩
  ·exact ho.all x (List.mem_cons_of_mem _ hx)
 ·rcases List.mem_cons.1 hx with rfl|hx
  ·exact hd k hk
  ·exact a1 x hx k (.inl hk)
end
end Eng
section
variable {P:Program}{S:World→Prop}{K:Value→Prop}
theorem hd_do {m:Sem Next}(v:Value)(h:∀w,S w→m.run P w=.ok (.value v) w)(k:K v):HDo P S m K:=⟨v,h,k⟩
theorem hd_pure {m:Sem Next}(v:Value)(h:∀w,m.run P w=.ok (.value v) w)(k:K v):HDo P S m K:=⟨v,fun w _=>h w,k⟩
end
section
variable {w:World}{PK:PKT}{K:VWP}{S:Nat→Prop}{w0:World}{L:List Ent}
end
end
section
namespace Eng
open Go.RowKit
section
variable {S:Nat→Prop}{P:Program}{w w0:World}{L:List Ent}{PK:PKT}{K:VWP}
theorem OwnS.pair {e f:Ent}(ho:OwnS S w0 w (e::f::L)):OwnS S w0 w (.two e f::L):=by
 obtain⟨a1,a2⟩:=List.pairwise_cons.1 ho.apart;obtain⟨a3,a4⟩:=List.pairwise_cons.1 a2;have h1:=ho.all e (by simp);have h2:=ho.all f (by simp);refine⟨ho.grew,fun x hx=>?_,List.pairwise_cons.2 ⟨fun x hx k hk=>?_,a4⟩⟩
 ·rcases List.mem_cons.1 hx with rfl|hx
  ·exact⟨⟨h1.1,h2.1,a1 f (by simp)⟩,fun k hk=>hk.elim (h1.2 k) (h2.2 k)⟩
  ·exact ho.all x (by simp[hx])
 ·rcases hk with hk|hk
  ·exact a1 x (by simp[hx]) k hk
  ·exact a3 x hx k hk
structure Lent (P:Program) (f:Nat) (args:Array Value) (e:Ent) (M:Mem) (w:World) (ok:Prop) (e':Ent) (R:Value→Mem→Prop) (c:List PanicEntry):Prop where
 ret:ok→Ret P f args w (fun v w'=>∃N,M.le N∧R v N∧Turn (.two e (.mem M)) (.two e' (.mem N)) w w')
 pan:¬ok→Pan P f args w (fun c' w'=>c'=c∧∃e2,Turn (.two e (.mem M)) (.two e2 (.mem M)) w w')
theorem lent_of {f:Nat}{args:Array Value}{e e':Ent}{M:Mem}{ok:Prop}{R:Value→Mem→Prop}{c:List PanicEntry}
  (h:∀K:Ending→World→Prop,OwnS (Ent.two e (.mem M)).blk w w [e,.mem M] →
   (ok→∀(v:Value) (N:Mem) (w':World) (L:List Ent),OwnS (Ent.two e (.mem M)).blk w w' (e'::.mem N::L)→M.le N→R v N→K (.returned v) w') →
   (¬ok→∀(e2:Ent) (N:Mem) (w':World) (L:List Ent),OwnS (Ent.two e (.mem M)).blk w w' (e2::.mem N::L)→M.le N→K (.panicked c) w')→Calls P f args w K)
  (h0:(Ent.two e (.mem M)).is w):Lent P f args e M w ok e' R c:=by
 have ho:OwnS (Ent.two e (.mem M)).blk w w [e,.mem M]:=(OwnS.lend h0).split;constructor
 ·intro hk;refine ret_of fun K hK=>h K ho (fun _ v N w' L hw hle hr=>hK _ _ ⟨N,hle,hr,OwnS.back hw.pair⟩) fun hn=>absurd hk hn
 ·intro hn;refine pan_of fun K hK=>h K ho (fun hk=>absurd hk hn) fun _ e2 N w' L hw hle=>?_;refine hK _ _ ⟨rfl,e2,?_⟩;have hb:=OwnS.back hw.pair;refine⟨hb.grew,?_,fun k hk=>hb.new k (hk.elim .inl fun hm=>.inr (hle.A k hm))⟩;obtain⟨i1,i2,i3⟩:=hb.is;exact⟨i1,Mem.has_of hle i2,fun k hk hm=>i3 k hk (hle.A k hm)⟩
end
end Eng
end
section
open Eng Go.RowKit
abbrev keyE (v:Value)(ks:List (List UInt8)):Ent:=.urow 9 1 v ks.length (strsV ks)
abbrev kidE (v:Value)(n:Nat)(cs:List Value):Ent:=.urow 42 6 v n cs
section
variable {w:World}{S:Nat→Prop}{w0:World}{L:List Ent}{PK PK2:PKT}{K:VWP}
theorem key_row (i:Nat){v:Value}{ks:List (List UInt8)}(ho:OwnS S w0 w L)(hi:L[i]?=some (keyE v ks)){j:Nat}(hj:j < ks.length):∃g cap,v=.slice (some ⟨g,0,none⟩) ks.length cap ∧
  (∀w,(mIA 39 v (.int .i64 (j:Int))).run prog w=.ok (.value (.pointer (some ⟨g,j,none⟩))) w)∧∀w',(keyE v ks).is w'→(mLoad 9 (.pointer (some ⟨g,j,none⟩))).run prog w'=.ok (.value (.string ⟨ks[j].toArray⟩)) w':=by
 obtain⟨g,cap,rfl⟩:=urow_open (ho.at_ i hi) (by omega);refine⟨g,cap,rfl,fun w=>?_,fun w' h=>?_⟩
 ·refine (run_ia Tryz.underlying39 szStr (by omega) (by omega)).trans ?_;rw[Int.toNat_natCast,Nat.mul_one,Nat.zero_add]
 ·obtain⟨b,off,cap',e,hc⟩:=sl_open (Sl.urow h) (by omega);cases e;exact run_load_cell nStr5 (by have:=hc j _ (strsV_get hj);rwa [Nat.zero_add] at this)
end
end
section
open Eng Go.RowKit
def objR (e:Ps.R)(v:Value)(N:Mem):Prop:=∃u,v=.tuple #[u,.int .i64 e.2.1,.int .i64 e.2.2]∧OV N.A N.w u e.1
theorem ob0_ov2 {A:Nat→Prop}{w:World}:OV A w (obV Vl.ob0 nilS nilS) Vl.ob0:=ObAt.ov (o:=Vl.ob0) ⟨SlA.nil _ _ _ _,SlA.nil _ _ _ _,OVs.nil⟩
section
variable {w:World}{S:Nat→Prop}{w0:World}{L:List Ent}
theorem ret_bad {KE:Ending→World→Prop}{PK PK2:PKT}(i:Nat){b:Nat}{o:Ob}{vk vc:Value}{e:Int}(ho:OwnS S w0 w L)(hi:L[i]?=some (obE b o vk vc))
  (k:∀w',OwnS S w0 w' (L.set i (obE b Vl.ob0 nilS nilS))→KE (.returned (.tuple #[obV Vl.ob0 nilS nilS,.int .i64 0,.int .i64 e])) w') :
  DoX prog (mBuild 42 #[]) w PK fun t w=>DoX prog (mStore 42 (.pointer (some ⟨b,0,none⟩)) t) w PK2 fun _ w=>RetX prog [.cell (.pointer (some ⟨b,0,none⟩)) 42,.val (.int .i64 0),.val (.int .i64 e)] w KE:=by
 rw[m_ob0];refine ob_put i rfl rfl ho hi fun w' ho=>?_;have hil:i < L.length:=(List.getElem?_eq_some_iff.1 hi).1;have hi2:(L.set i (obE b Vl.ob0 nilS nilS))[i]?=some (obE b Vl.ob0 nilS nilS):=by simp[hil]
 exact ret_v3 (rv_cell (ho.agg i hi2 aggOb)) rv_val rv_val (k w' ho)
end
end
end Go.Proofs.YtoofficgclghoaaGreatDoor

namespace Go.Proofs.YtoofficgclghoaaGreatDoor
section
open Go
structure Lx where
 off:Int
 sty:List UInt8
 pre:List UInt8
 first:Int
 deriving DecidableEq
namespace Lb
end Lb
end
end Go.Proofs.YtoofficgclghoaaGreatDoor









namespace Go.Proofs.YtoofficgclghoaaGreatDoor
section
open Eng
def S_foliantref05_Texts_0 (t0 t1 t12 t13:Value)(w:World)(N1:List Value→World→Prop)(K:Ending→World→Prop):Prop:=
 DoX prog (mBin .lss 3 t13 t12) w (pk K) fun t14 w=>
 IfX t14 (QuietX w (fun C2=>
 QDo prog C2 (mIA 39 t0 t13) fun t18=>
 QDo prog C2 (mLoad 9 t18) fun t19=>
 QDo prog C2 (mIA 39 t1 t13) fun t22=>
 QDo prog C2 (mLoad 9 t22) fun t23=>
 QDo prog C2 (mEq .neq 9 (.tmp 19) (.tmp 23) t19 t23) fun t24=>
 ∀w,C2 w →
 IfX t24 (K (.returned (.bool false)) w) (DoX prog (mBin .add 3 t13 (.int .i64 1)) w (pk K) fun t25 w=>
 N1 [t25] w))) (K (.returned (.bool true)) w)
def S_foliantref05_Texts (t0 t1:Value)(w:World)(K:Ending→World→Prop):Prop:=
 DoX prog (mB .len #[39] 3 #[false] #[t0]) w (pk K) fun t7 w=>
 DoX prog (mB .len #[39] 3 #[false] #[t1]) w (pk K) fun t9 w=>
 DoX prog (mEq .neq 3 (.tmp 7) (.tmp 9) t7 t9) w (pk K) fun t10 w=>
 IfX t10 (K (.returned (.bool false)) w) (DoX prog (mB .len #[39] 3 #[false] #[t0]) w (pk K) fun t12 w=>
 LoopX [(.int .i64 0)] w (fun vs1 w N1=>∀_:Sg,S_foliantref05_Texts_0 t0 t1 t12 (vs1.getD 0 undef) w N1 K))
theorem S_foliantref05_Texts_eq (t0 t1:Value)(w:World)(K:Ending→World→Prop):wpX prog 26 [] [(4,[13])] none (bodyOf Tryz.f82) (topQ prog [.tmp 4] K) (startX [t0,t1]) [] w=S_foliantref05_Texts t0 t1 w K:=by kernel_rfl
theorem S_foliantref05_Texts_ok {t0 t1:Value}{w:World}{K:Ending→World→Prop}(h:S_foliantref05_Texts t0 t1 w K):Calls prog 82 #[t0,t1] w K:=
 calls_of_wpX Tryz.func82 rfl rfl rfl rfl (Eq.mpr (S_foliantref05_Texts_eq t0 t1 w K) h)
end
section
open Eng Go.RowKit
theorem nStrT:notAgg prog 9=true:=by kernel_rfl
theorem rtexts_ret (va vb:Value)(la lb:List (List UInt8))(w:World)(ha:Sl w va 1 la.length (strsV la))(hb:Sl w vb 1 lb.length (strsV lb))(hl:la.length≤1099511627776) :
  Ret prog 82 #[va,vb] w (fun r w'=>r=.bool (decide (la=lb))∧Below w.heap.size w w'):=by
 refine ret_of fun K hK=>S_foliantref05_Texts_ok ?_;unfold S_foliantref05_Texts;rw[sl_len Tryz.underlying39 ha,sl_len Tryz.underlying39 hb];simp only[rs];by_cases hlen:(la.length:Int)≠(lb.length:Int)
 ·simp only[decide_eq_true hlen,i_t];have hne:la≠lb:=fun e=>hlen (by rw[e]);exact hK _ _ ⟨by rw[decide_eq_false hne],(Own.start w).done⟩
 have hle:la.length=lb.length:=by omega
 simp only[decide_eq_false hlen,i_f,sl_len Tryz.underlying39 ha];refine loop (fun vs w'=>∃(i:Nat),vs=[.int .i64 i]∧i≤la.length∧la.take i=lb.take i∧Own w w' []) (fun vs _=>la.length - n0 vs) ⟨0,rfl,by omega,by simp,Own.start w⟩ ?_;rintro vs w2 ⟨i,rfl,hi,he,ho⟩ _;simp only[S_foliantref05_Texts_0,gd,rs];by_cases hlt:(i:Int) < (la.length:Int)
 ·have h1:i < la.length:=by omega
  have h2:i < lb.length:=by omega
  simp only[hlt,decide_true,rs];obtain⟨ba,oa,ca,rfl,hca⟩:=sl_open ha (by omega);obtain⟨bb,ob,cb,rfl,hcb⟩:=sl_open hb (by omega);refine quiet (q_do _ (fun _=>run_ia Tryz.underlying39 (show _=some 1 by kernel_rfl) (by omega) (by omega)) ?_);refine q_at (.string ⟨(la[i]).toArray⟩) (fun wc hw=>run_load_cell nStrT ((ho.grow hw).old ?_)) ?_
  ·rw[Int.toNat_natCast,Nat.mul_one];exact hca i _ (strsV_get h1)
  refine q_do _ (fun _=>run_ia Tryz.underlying39 (show _=some 1 by kernel_rfl) (by omega) (by omega)) ?_;refine q_at (.string ⟨(lb[i]).toArray⟩) (fun wc hw=>run_load_cell nStrT ((ho.grow hw).old ?_)) ?_
  ·rw[Int.toNat_natCast,Nat.mul_one];exact hcb i _ (strsV_get h2)
  refine q_sne ?_;intro w3 hw;have ho:=ho.grow hw;by_cases hq:la[i]=lb[i]
  ·simp only[hq,ne_eq,not_true,decide_false,i_f,rs];rw[wrap64_id (by omega) (by omega)];refine nextX ⟨i+1,rfl,by omega,?_,ho⟩ (by simp[n0,RowKit.intOf];omega);rw[List.take_succ_eq_append_getElem h1,List.take_succ_eq_append_getElem h2,he,hq]
  ·simp only[hq,ne_eq,not_false_eq_true,decide_true,i_t];have hne:la≠lb:=fun e=>hq (by subst e;rfl);exact hK _ _ ⟨by rw[decide_eq_false hne],ho.done⟩
 ·simp only[hlt,decide_false,rs,g_un];have hab:la=lb:=by
   rw[List.take_of_length_le (by omega),List.take_of_length_le (by omega)] at he;exact he
  exact hK _ _ ⟨by rw[decide_eq_true hab],ho.done⟩
end
section
open Eng
def S_foliantref05_Same (t0 t1:Value)(w:World)(K:Ending→World→Prop):Prop:=
 DoX prog (mBox 42 t0) w (pk K) fun t2 w=>
 DoX prog (mBox 42 t1) w (pk K) fun t3 w=>
 DoX prog (mFA 42 t2 0) w (pk K) fun t5 w=>
 DoX prog (mLoad 3 t5) w (pk K) fun t6 w=>
 DoX prog (mFA 42 t3 0) w (pk K) fun t7 w=>
 DoX prog (mLoad 3 t7) w (pk K) fun t8 w=>
 DoX prog (mEq .eql 3 (.tmp 6) (.tmp 8) t6 t8) w (pk K) fun t9 w=>
 GDo t9 true (fun E=>DoX prog (mFA 42 t2 1) w (pk K) E) w fun t11 w=>
 GDo t9 true (fun E=>DoX prog (mLoad 2 t11) w (pk K) E) w fun t12 w=>
 GDo t9 true (fun E=>DoX prog (mFA 42 t3 1) w (pk K) E) w fun t13 w=>
 GDo t9 true (fun E=>DoX prog (mLoad 2 t13) w (pk K) E) w fun t14 w=>
 GDo t9 true (fun E=>DoX prog (mEq .eql 2 (.tmp 12) (.tmp 14) t12 t14) w (pk K) E) w fun t15 w=>
 DoX prog (mPick t9 t15 (.bool false)) w (pk K) fun t16 w=>
 GDo t16 true (fun E=>DoX prog (mFA 42 t2 2) w (pk K) E) w fun t18 w=>
 GDo t16 true (fun E=>DoX prog (mLoad 3 t18) w (pk K) E) w fun t19 w=>
 GDo t16 true (fun E=>DoX prog (mFA 42 t3 2) w (pk K) E) w fun t20 w=>
 GDo t16 true (fun E=>DoX prog (mLoad 3 t20) w (pk K) E) w fun t21 w=>
 GDo t16 true (fun E=>DoX prog (mEq .eql 3 (.tmp 19) (.tmp 21) t19 t21) w (pk K) E) w fun t22 w=>
 DoX prog (mPick t16 t22 (.bool false)) w (pk K) fun t23 w=>
 GDo t23 true (fun E=>DoX prog (mFA 42 t2 3) w (pk K) E) w fun t25 w=>
 GDo t23 true (fun E=>DoX prog (mLoad 9 t25) w (pk K) E) w fun t26 w=>
 GDo t23 true (fun E=>DoX prog (mFA 42 t3 3) w (pk K) E) w fun t27 w=>
 GDo t23 true (fun E=>DoX prog (mLoad 9 t27) w (pk K) E) w fun t28 w=>
 GDo t23 true (fun E=>DoX prog (mEq .eql 9 (.tmp 26) (.tmp 28) t26 t28) w (pk K) E) w fun t29 w=>
 DoX prog (mPick t23 t29 (.bool false)) w (pk K) fun t30 w=>
 GDo t30 true (fun E=>DoX prog (mFA 42 t2 4) w (pk K) E) w fun t32 w=>
 GDo t30 true (fun E=>DoX prog (mLoad 39 t32) w (pk K) E) w fun t33 w=>
 GDo t30 true (fun E=>DoX prog (mFA 42 t3 4) w (pk K) E) w fun t34 w=>
 GDo t30 true (fun E=>DoX prog (mLoad 39 t34) w (pk K) E) w fun t35 w=>
 GDo t30 true (fun E=>CallX prog 82 #[t33,t35] w (pk K) E) w fun t36 w=>
 DoX prog (mPick t30 t36 (.bool false)) w (pk K) fun t37 w=>
 GDo t37 true (fun E=>DoX prog (mFA 42 t2 5) w (pk K) E) w fun t39 w=>
 GDo t37 true (fun E=>DoX prog (mLoad 40 t39) w (pk K) E) w fun t40 w=>
 GDo t37 true (fun E=>DoX prog (mFA 42 t3 5) w (pk K) E) w fun t41 w=>
 GDo t37 true (fun E=>DoX prog (mLoad 40 t41) w (pk K) E) w fun t42 w=>
 GDo t37 true (fun E=>CallX prog 24 #[t40,t42] w (pk K) E) w fun t43 w=>
 DoX prog (mPick t37 t43 (.bool false)) w (pk K) fun t44 w=>
 K (.returned t44) w
theorem S_foliantref05_Same_eq (t0 t1:Value)(w:World)(K:Ending→World→Prop):wpX prog 45 [] [] none (bodyOf Tryz.f48) (topQ prog [.tmp 4] K) (startX [t0,t1]) [] w=S_foliantref05_Same t0 t1 w K:=by kernel_rfl
theorem S_foliantref05_Same_ok {t0 t1:Value}{w:World}{K:Ending→World→Prop}(h:S_foliantref05_Same t0 t1 w K):Calls prog 48 #[t0,t1] w K:=
 calls_of_wpX Tryz.func48 rfl rfl rfl rfl (Eq.mpr (S_foliantref05_Same_eq t0 t1 w K) h)
def S_foliantref05_List_0 (t0 t1 t12 t13:Value)(w:World)(N1:List Value→World→Prop)(K:Ending→World→Prop):Prop:=
 DoX prog (mBin .lss 3 t13 t12) w (pk K) fun t14 w=>
 IfX t14 (QuietX w (fun C2=>
 QDo prog C2 (mIA 40 t0 t13) fun t18=>
 QDo prog C2 (mLoad 42 t18) fun t19=>
 QDo prog C2 (mIA 40 t1 t13) fun t22=>
 QDo prog C2 (mLoad 42 t22) fun t23=>
 QCall prog C2 48 #[t19,t23] fun t24=>
 QDo prog C2 (mUn .not t24) fun t25=>
 ∀w,C2 w →
 IfX t25 (K (.returned (.bool false)) w) (DoX prog (mBin .add 3 t13 (.int .i64 1)) w (pk K) fun t26 w=>
 N1 [t26] w))) (K (.returned (.bool true)) w)
def S_foliantref05_List (t0 t1:Value)(w:World)(K:Ending→World→Prop):Prop:=
 DoX prog (mB .len #[40] 3 #[false] #[t0]) w (pk K) fun t7 w=>
 DoX prog (mB .len #[40] 3 #[false] #[t1]) w (pk K) fun t9 w=>
 DoX prog (mEq .neq 3 (.tmp 7) (.tmp 9) t7 t9) w (pk K) fun t10 w=>
 IfX t10 (K (.returned (.bool false)) w) (DoX prog (mB .len #[40] 3 #[false] #[t0]) w (pk K) fun t12 w=>
 LoopX [(.int .i64 0)] w (fun vs1 w N1=>∀_:Sg,S_foliantref05_List_0 t0 t1 t12 (vs1.getD 0 undef) w N1 K))
theorem S_foliantref05_List_eq (t0 t1:Value)(w:World)(K:Ending→World→Prop):wpX prog 27 [] [(4,[13])] none (bodyOf Tryz.f24) (topQ prog [.tmp 4] K) (startX [t0,t1]) [] w=S_foliantref05_List t0 t1 w K:=by kernel_rfl
theorem S_foliantref05_List_ok {t0 t1:Value}{w:World}{K:Ending→World→Prop}(h:S_foliantref05_List t0 t1 w K):Calls prog 24 #[t0,t1] w K:=
 calls_of_wpX Tryz.func24 rfl rfl rfl rfl (Eq.mpr (S_foliantref05_List_eq t0 t1 w K) h)
end
end Go.Proofs.YtoofficgclghoaaGreatDoor



namespace Go.Proofs.YtoofficgclghoaaGreatDoor
section
open Eng Go.RowKit
namespace Ob
 mutual
def eqb:Ob→Ob→Bool
|.mk k n g s ks cs,b=>decide (k=b.k)&&decide (n=b.n)&&decide (g=b.g)&&decide (s=b.s)&&decide (ks=b.keys)&&eqbs cs b.kids
def eqbs:List Ob→List Ob→Bool
|[],[]=>true
|a::l,b::m=>eqb a b&&eqbs l m
|[],_::_=>false
|_::_,[]=>false
end
 mutual
theorem eqb_iff:∀a b:Ob,eqb a b=true↔a=b
|.mk k n g s ks cs,.mk k' n' g' s' ks' cs'=>by
  have ih:=eqbs_iff cs cs';rw[eqb];simp only[Bool.and_eq_true,decide_eq_true_eq];simp only[Ob.k,Ob.n,Ob.g,Ob.s,Ob.keys,Ob.kids,ih,Ob.mk.injEq,and_assoc]
theorem eqbs_iff:∀a b:List Ob,eqbs a b=true↔a=b
|[],[]=>by simp[eqbs]
|a::l,b::m=>by
  rw[eqbs,Bool.and_eq_true,eqb_iff a b,eqbs_iff l m];simp
|[],_::_=>by simp[eqbs]
|_::_,[]=>by simp[eqbs]
end
theorem eqb_eq (a b:Ob):eqb a b=(decide (a.k=b.k)&&decide (a.n=b.n)&&decide (a.g=b.g)&&decide (a.s=b.s)&&decide (a.keys=b.keys)&&eqbs a.kids b.kids):=by cases a;rw[eqb];rfl
theorem eqbs_drop {a b:List Ob}{i:Nat}(h1:i < a.length)(h2:i < b.length):eqbs (a.drop i) (b.drop i)=(eqb a[i] b[i]&&eqbs (a.drop (i+1)) (b.drop (i+1))):=by
 rw[List.drop_eq_getElem_cons h1,List.drop_eq_getElem_cons h2,eqbs]
theorem eqbs_len:∀{a b:List Ob},a.length≠b.length→eqbs a b=false:=by
 intro a b h;cases he:eqbs a b with
|false=>rfl
|true=>rw[eqbs_iff] at he;exact absurd (by rw[he]) h
end Ob
theorem rlist_ret {a b:Ob}{ka va kb vb:Value}{ca cb:List Value}(w:World)(ha:ObAt (InW w) w a ka va ca)(hb:ObAt (InW w) w b kb vb cb)(hl:a.kids.length≤1000000000)
  (ih:∀(i:Nat) (h1:i < a.kids.length) (h2:i < b.kids.length) (x y:Value) (W:World),OV (InW W) W x a.kids[i]→OV (InW W) W y b.kids[i]→Ret prog 48 #[x,y] W (fun v w'=>v=.bool (Ob.eqb a.kids[i] b.kids[i])∧Below W.heap.size W w')) :
  Ret prog 24 #[va,vb] w (fun v w'=>v=.bool (Ob.eqbs a.kids b.kids)∧Below w.heap.size w w'):=by
 refine ret_of fun K hK=>S_foliantref05_List_ok ?_;unfold S_foliantref05_List;rw[sl_len Tryz.underlying40 ha.kids.1,sl_len Tryz.underlying40 hb.kids.1];simp only[rs];by_cases hlen:(a.kids.length:Int)≠(b.kids.length:Int)
 ·simp only[decide_eq_true hlen,i_t];exact hK _ _ ⟨by rw[Ob.eqbs_len (by omega)],(Own.start w).done⟩
 have hle:a.kids.length=b.kids.length:=by omega
 simp only[decide_eq_false hlen,i_f,sl_len Tryz.underlying40 ha.kids.1];refine loop (fun vs w'=>∃(i:Nat),vs=[.int .i64 i]∧i≤a.kids.length∧Ob.eqbs a.kids b.kids=Ob.eqbs (a.kids.drop i) (b.kids.drop i)∧Own w w' []) (fun vs _=>a.kids.length - n0 vs) ⟨0,rfl,by omega,by simp,Own.start w⟩ ?_;rintro vs w2 ⟨i,rfl,hi,he,ho⟩ _;simp only[S_foliantref05_List_0,gd,rs];by_cases hlt:(i:Int) < (a.kids.length:Int)
 ·have h1:i < a.kids.length:=by omega
  have h2:i < b.kids.length:=by omega
  simp only[hlt,decide_true,rs];obtain⟨x,p,hx,hrx⟩:=kid_at ha h1;obtain⟨y,q,hy,hry⟩:=kid_at hb h2;refine quiet (q_at _ (fun W hW=>(hrx W (OwnS.keptIn (ho.grow hW))).1) ?_);refine q_at _ (fun W hW=>(hrx W (OwnS.keptIn (ho.grow hW))).2) ?_;refine q_at _ (fun W hW=>(hry W (OwnS.keptIn (ho.grow hW))).1) ?_;refine q_at _ (fun W hW=>(hry W (OwnS.keptIn (ho.grow hW))).2) ?_;refine q_call _ (fun W hW=>ret_grew (ih i h1 h2 x y W (hx.at_ (ho.grow hW)) (hy.at_ (ho.grow hW))) hW) ?_;refine q_do _ (fun W=>mv_run (by simp[Op.unary];rfl)) ?_;intro w3 hw;have ho:=ho.grow hw;rw[Ob.eqbs_drop h1 h2] at he;cases hq:Ob.eqb a.kids[i] b.kids[i] with
 |true=>
   simp only[Bool.not_true,i_f,rs];rw[wrap64_id (by omega) (by omega)];refine nextX ⟨i+1,rfl,by omega,?_,ho⟩ (by simp[n0,RowKit.intOf];omega);rw[he,hq];rfl
 |false=>
   simp only[Bool.not_false,i_t];exact hK _ _ ⟨by rw[he,hq];rfl,ho.done⟩
 ·simp only[hlt,decide_false,rs];refine hK _ _ ⟨?_,ho.done⟩;rw[he,List.drop_eq_nil_of_le (by omega),List.drop_eq_nil_of_le (by omega),Ob.eqbs]
theorem rsame5_ret (n:Nat):∀(a b:Ob) (x y:Value) (w:World),a.wt≤n→a.wt≤1000000000→OV (InW w) w x a→OV (InW w) w y b→Ret prog 48 #[x,y] w (fun v w'=>v=.bool (Ob.eqb a b)∧Below w.heap.size w w'):=by
 induction n with
|zero=>intro a b x y w h;have:=a.wt_pos;omega
|succ n ih=>
 intro a b x y w hn hw hx hy;obtain⟨ka,va,ca,rfl,ha⟩:=hx.open;obtain⟨kb,vb,cb,rfl,hb⟩:=hy.open;have hww:Ob.wts a.kids≤1000000000:=by cases a;rw[Ob.wt] at hw;simp only[Ob.kids];omega
 have hkt:Pl.tot a.keys≤1000000000:=by cases a;rw[Ob.wt] at hw;simp only[Ob.keys];omega
 have hlk:=Ob.len_wts a.kids;rw[Ob.eqb_eq];refine ret_of fun K hK=>S_foliantref05_Same_ok ?_;unfold S_foliantref05_Same;refine o_obb a ha.keys.one ha.kids.one (Own.start w) fun p w1 ho=>?_;refine o_obb b hb.keys.one hb.kids.one ho fun q w2 ho=>?_;rw[fa_o0,ob_k ho 1 rfl,fa_o0,ob_k ho 0 rfl];by_cases h1:a.k=b.k
 case neg=>simp only[rs,h1,decide_false,Bool.false_and] at hK ⊢;exact hK _ _ ⟨rfl,ho.done⟩
 simp only[rs,h1,decide_true,fa_o1,ob_n ho 1 rfl,ob_n ho 0 rfl,Bool.true_and] at hK ⊢;by_cases h2:a.n=b.n
 case neg=>simp only[rs,h2,decide_false,Bool.false_and] at hK ⊢;exact hK _ _ ⟨rfl,ho.done⟩
 simp only[rs,h2,decide_true,fa_o2,ob_g ho 1 rfl,ob_g ho 0 rfl,Bool.true_and] at hK ⊢;by_cases h3:a.g=b.g
 case neg=>simp only[rs,h3,decide_false,Bool.false_and] at hK ⊢;exact hK _ _ ⟨rfl,ho.done⟩
 simp only[rs,h3,decide_true,fa_o3,ob_s ho 1 rfl,ob_s ho 0 rfl,Bool.true_and] at hK ⊢;by_cases h4:a.s=b.s
 case neg=>simp only[rs,h4,decide_false,Bool.false_and] at hK ⊢;exact hK _ _ ⟨rfl,ho.done⟩
 simp only[rs,h4,decide_true,fa_o4,ob_keys ho 1 rfl,ob_keys ho 0 rfl,Bool.true_and] at hK ⊢;have hkl:=Pl.length_tot a.keys;refine c_told (rtexts_ret ka kb a.keys b.keys w2 (ho.oldSl ha.keys.1) (ho.oldSl hb.keys.1) (by omega)) rfl ho fun w3 ho=>?_;by_cases h5:a.keys=b.keys
 case neg=>simp only[rs,h5,decide_false,Bool.false_and] at hK ⊢;exact hK _ _ ⟨rfl,ho.done⟩
 simp only[rs,h5,decide_true,fa_o5,ob_kids ho 1 rfl,ob_kids ho 0 rfl,Bool.true_and] at hK ⊢;refine c_told (rlist_ret w3 (ha.in_ ho) (hb.in_ ho) (by omega) ?_) rfl ho fun w4 ho=>?_
 ·intro i hi hj x y W hx hy;have:=kid_wt hi;exact ih _ _ x y W (by omega) (by omega) hx hy
 exact hK _ _ ⟨rfl,ho.done⟩
end
end Go.Proofs.YtoofficgclghoaaGreatDoor





namespace Go.Proofs.YtoofficgclghoaaGreatDoor
section
open Go
namespace Vl
theorem checks_iff {d:Nat}:∀{os:List Ob},checks d os=0↔∀o∈os,check d o=0
|[]=>by simp[checks]
|o::os=>by
  rw[checks];split
  ·rename_i h
   constructor
   ·intro e;exact absurd e h
   ·intro e;exact absurd (e o List.mem_cons_self) h
  ·rename_i h
   have h:=Classical.not_not.1 h;rw[checks_iff];simp[h]
theorem gd_at (l:List (List UInt8)){i:Nat}(h:i < l.length):l.getD i []=l[i]:=by rw[List.getD_eq_getElem?_getD,List.getElem?_eq_getElem h];rfl
theorem rising_iff {o:Ob}:rising o=true↔o.keys.length=o.kids.length∧Rise o.keys∧(∀k∈o.keys,name k=true∧(o.k=9→k≠lenK))∧∀c∈o.kids,c.k≠0:=by
 unfold rising;simp only[Bool.and_eq_true,decide_eq_true_eq,List.all_eq_true,List.mem_range];constructor
 ·rintro⟨hl,h⟩;have hat:∀i (hi:i < o.keys.length),name o.keys[i]=true∧(i=0∨less (o.keys.getD (i - 1) []) o.keys[i]=true)∧(o.k=9→o.keys[i]≠lenK)∧(o.kids[i]'(by omega)).k≠0:=by
   intro i hi;have:=h i hi;unfold keyAt at this;rw[gd_at _ hi,List.getD_eq_getElem?_getD (l:=o.kids),List.getElem?_eq_getElem (by omega:i < o.kids.length)] at this;simp only[Bool.and_eq_true,Bool.or_eq_true,decide_eq_true_eq,Option.getD_some,Bool.not_eq_true',Bool.and_eq_false_iff,decide_eq_false_iff_not] at this;obtain⟨⟨⟨a,b⟩,c⟩,e⟩:=this;exact⟨a,b,fun h9 hk=>c.elim (fun x=>x h9) (fun x=>x hk),e⟩
  refine⟨hl,?_,?_,?_⟩
  ·refine List.pairwise_iff_getElem.2 fun i j hi hj hij=>?_;have step:∀i (hi:i+1 < o.keys.length),less o.keys[i] o.keys[i+1]=true:=by
    intro i hi;have:=(hat (i+1) hi).2.1;rcases this with h0|h0
    ·omega
    ·rwa [Nat.add_sub_cancel,gd_at _ (by omega:i < o.keys.length)] at h0
   have:∀d,∀j (hj:j < o.keys.length),j=i+1+d→less o.keys[i] o.keys[j]=true:=by
    intro d
    induction d with
   |zero=>intro j hj he;subst he;exact step i hj
   |succ d ih=>
     intro j hj he;subst he;exact less_trans (ih (i+1+d) (by omega) rfl) (step (i+1+d) hj)
   exact this (j - (i+1)) j hj (by omega)
  ·intro k hk;obtain⟨i,hi,rfl⟩:=List.getElem_of_mem hk;exact⟨(hat i hi).1,(hat i hi).2.2.1⟩
  ·intro c hc;obtain⟨i,hi,rfl⟩:=List.getElem_of_mem hc;exact (hat i (by omega)).2.2.2
 ·rintro⟨hl,hr,hk,hc⟩;refine⟨hl,fun i hi=>?_⟩;unfold keyAt;rw[gd_at _ hi,List.getD_eq_getElem?_getD (l:=o.kids),List.getElem?_eq_getElem (by omega:i < o.kids.length)];simp only[Bool.and_eq_true,Bool.or_eq_true,decide_eq_true_eq,Option.getD_some,Bool.not_eq_true',Bool.and_eq_false_iff,decide_eq_false_iff_not];refine⟨⟨⟨(hk _ (List.getElem_mem hi)).1,?_⟩,?_⟩,hc _ (List.getElem_mem _)⟩
  ·rcases Nat.eq_zero_or_pos i with h0|h0
   ·exact .inl h0
   ·refine .inr ?_;rw[gd_at _ (by omega:i - 1 < o.keys.length)];exact rise_get hr (by omega) hi
  ·by_cases h9:o.k=9
   ·exact .inr ((hk _ (List.getElem_mem hi)).2 h9)
   ·exact .inl h9
theorem check_iff {d:Nat}{o:Ob}:check d o=0↔(d≤24∧usesOk o=true∧(o.k=9→d≤1)∧fits o=true∧o.s.length≤long o.k∧o.kids.length≤8191∧form o=true)∧∀c∈o.kids,check (d+1) c=0:=by
 rw[check_eq];have hw:why d o=0↔(d≤24∧usesOk o=true∧(o.k=9→d≤1)∧fits o=true∧o.s.length≤long o.k∧o.kids.length≤8191∧form o=true):=by
  unfold why;split
  ·simp;omega
  rename_i h1
  split
  ·rename_i h2
   simp only[show (10:Int)≠0 by decide,false_iff,not_and];rintro - a b;rcases h2 with h2|h2
   ·rw[h2] at a;cases a
   ·have:=b h2.1;omega
  rename_i h2
  simp only[not_or,Bool.not_eq_false,not_and,Nat.not_lt] at h2;split
  ·rename_i h3;simp[h3]
  rename_i h3
  split
  ·rename_i h4;simp;intros;omega
  rename_i h4
  split
  ·rename_i h5;simp;intros;omega
  rename_i h5
  split
  ·rename_i h6;simp[h6]
  rename_i h6
  simp only[Bool.not_eq_false] at h3 h6;exact⟨fun _=>⟨by omega,h2.1,h2.2,h3,by omega,by omega,h6⟩,fun _=>rfl⟩
 split
 ·rename_i h
  constructor
  ·intro e;exact absurd e h
  ·intro e;exact absurd (hw.2 e.1) h
 ·rename_i h
  have h:=Classical.not_not.1 h;rw[checks_iff];exact⟨fun e=>⟨hw.1 h,e⟩,fun e=>e.2⟩
end Vl
namespace Dk
end Dk
end
section
open Go
namespace Ps
open Lx (next Tok Single)
open Wr (num parts partsL partsD)
def At (s:List UInt8)(a:Int)(p:List UInt8)(b:Int):Prop:=∃(x:Tok) (a':Int),Single p x∧next s a=({ x with a:=a',t:=b },0)
def Toks (s:List UInt8):Int→List (List UInt8)→Int→Prop
|a,[],b=>a=b
|a,p::ps,b=>∃c,At s a p c∧Toks s c ps b
def NoRef (s:List UInt8)(b:Int):Prop:=(next s b).2=0→(next s b).1.k=1→(next s (next s b).1.t).2=0→¬((next s (next s b).1.t).1.k=5∧(next s (next s b).1.t).1.s=[82])
end Ps
end
end Go.Proofs.YtoofficgclghoaaGreatDoor

namespace Go.Proofs.YtoofficgclghoaaGreatDoor
section
open Go
namespace Lx
open Oc
structure Form (x:Tok):Prop where
 int:x.k=1→-2147483647≤x.n∧x.n≤2147483647
 real:x.k=2→Fx.okB x.n=true
 str:x.s.length≤32767
 name:x.k=4→Vl.name x.s=true
 kind:x.k=0∨x.k=1∨x.k=2∨x.k=3∨x.k=4∨x.k=5∨x.k=6
theorem none_form:Form none_:=⟨fun e=>by simp[none_] at e,fun e=>by simp[none_] at e,by simp[none_],fun e=>by simp[none_] at e,.inl rfl⟩
theorem told_form {k a t:Int}{x:List UInt8}{m:Int}(h:(told k a t x m).2=0)(hm:m≤32767)(hk:k=3∨k=4∨k=5)(hn:k=4→m≤127∧(0:UInt8) ∉ x):Form (told k a t x m).1:=by
 have e:=told_ok h;unfold told at h;split at h
 ·simp[refused] at h
 rename_i hx
 rw[e];refine⟨?_,?_,?_,?_,?_⟩
 ·intro h1;simp only at h1;omega
 ·intro h1;simp only at h1;omega
 ·show x.length≤_;omega
 ·intro h1;obtain⟨h2,h3⟩:=hn h1;show Vl.name x=true;unfold Vl.name;simp only[Bool.and_eq_true,decide_eq_true_eq];exact⟨by omega,h3⟩
 ·show k=0∨k=1∨k=2∨k=3∨k=4∨k=5∨k=6;omega
theorem regular_pos:∀c:UInt8,regular c=true→c≠0:=all8 (by decide +kernel)
theorem byte_pos (a b:UInt8):¬(digit a < 0)→¬(digit b < 0)→¬(16*digit a+digit b=0)→byte (digit a) (digit b)≠0:=by
 have hd:∀c:UInt8,digit c≤15:=all8 (by decide +kernel);intro h1 h2 h3 h4;have ha:=hd a;have hb:=hd b;unfold byte at h4;have h5:=congrArg UInt8.toNat h4;rw[UInt8.toNat_ofNat_of_lt' (by show _ < 256;omega)] at h5;have:(0:UInt8).toNat=0:=rfl;omega
theorem nameF_pos (n:Nat):∀(l x:List UInt8),l.length≤n→l.all regular=true→nameF l=some x→(0:UInt8) ∉ x:=by
 induction n with
|zero=>
  intro l x hl _ h;cases l with
 |nil=>simp[nameF] at h;subst h;simp
 |cons _ _=>simp at hl
|succ n ih=>
  intro l x hl hr h;cases l with
 |nil=>simp[nameF] at h;subst h;simp
 |cons c t=>
   simp only[List.all_cons,Bool.and_eq_true] at hr;by_cases hc:c=35
   ·subst hc
    match t,hl,hr,h with
   |[],_,_,h=>simp[nameF] at h
   |[a],_,_,h=>simp[nameF] at h
   |a::b::t,hl,hr,h=>
     simp only[nameF,if_true] at h;split at h
     ·cases h
     ·rename_i hh
      simp only[not_or] at hh;obtain⟨y,hy,rfl⟩:=map_some h;have h1:(0:UInt8) ∉ y:=ih t y (by simp at hl;omega) (by simp at hr ⊢;exact hr.2.2.2) hy;have h2:=byte_pos a b hh.1 hh.2.1 hh.2.2;simp only[List.mem_cons,not_or];exact⟨fun e=>h2 e.symm,h1⟩
   ·rw[nameF_ne hc] at h;obtain⟨y,hy,rfl⟩:=map_some h;have h1:(0:UInt8) ∉ y:=ih t y (by simpa using hl) hr.2 hy;simp only[List.mem_cons,not_or];exact⟨fun e=>regular_pos c hr.1 e.symm,h1⟩
theorem runF_reg:∀l:List UInt8,(l.take (runF l)).all regular=true:=fun l=>(runF_take l).1
theorem cut_run (s:List UInt8)(i:Nat):(cut s i (run s i)).all regular=true:=by
 unfold cut run;rw[Nat.add_sub_cancel_left];exact runF_reg _
theorem wordT_form {t:List UInt8}{a b:Int}(h:(wordT t a b).2=0):Form (wordT t a b).1:=by
 unfold wordT at h ⊢;split at h
 ·rename_i h1
  rw[if_pos h1];split at h
  ·rename_i h2;simp[refused] at h;exact absurd h h2
  rename_i h2
  rw[if_neg h2];have h2:=Classical.not_not.1 h2;refine⟨fun _=>?_,fun e=>?_,by simp,fun e=>?_,.inr (.inl rfl)⟩
  ·unfold whole at h2 ⊢;split at h2
   ·simp at h2
   ·rename_i h3
    rw[if_neg h3];simp only;split<;>omega
  ·simp at e
  ·simp at e
 rename_i h1
 rw[if_neg h1];split at h
 ·rename_i h2
  rw[if_pos h2];refine⟨fun e=>?_,fun _=>?_,by simp,fun e=>?_,.inr (.inr (.inl rfl))⟩
  ·simp at e
  ·have h3:=h2.2;show Fx.okB (Fx.read t).1=true;unfold Fx.read at h3 ⊢;split at h3
   ·rename_i h4
    rw[if_pos h4];split at h3
    ·simp at h3
    ·rename_i h5
     rw[if_neg h5];generalize (if Fx.minus t=true then -Fx.mag t else Fx.mag t)=q at h3 ⊢;unfold Fx.ans at h3 ⊢;cases hq:Fx.okB q with
    |true=>rw[if_pos rfl];exact hq
    |false=>rw[hq] at h3;simp at h3
   ·simp at h3
  ·simp at e
 rename_i h2
 rw[if_neg h2];split at h
 ·simp[refused] at h
 rename_i h3
 rw[if_neg h3];exact told_form h (by decide) (by decide) (fun h=>absurd h (by decide))
theorem mark_form (s:List UInt8)(a n:Nat)(hn:n≤2):Form (mark s a n).1:=by
 refine⟨fun e=>?_,fun e=>?_,?_,fun e=>?_,by simp[mark]⟩
 ·simp[mark] at e
 ·simp[mark] at e
 ·show (cut s a (a+n)).length≤_;unfold cut;rw[List.length_take];omega
 ·simp[mark] at e
theorem token_form {s:List UInt8}{a:Nat}(h:(token s a).2=0):Form (token s a).1:=by
 unfold token at h ⊢;split at h
 ·exact⟨fun e=>by simp at e,fun e=>by simp at e,by simp,fun e=>by simp at e,.inl rfl⟩
 rename_i c t hd
 split at h
 ·rename_i h1;rw[if_pos h1];exact mark_form s a 1 (by omega)
 rename_i h1;rw[if_neg h1]
 split at h
 ·rename_i h2;rw[if_pos h2]
  split at h
  ·rename_i h3;rw[if_pos h3];exact mark_form s a 2 (by omega)
  ·rename_i h3;rw[if_neg h3]
   unfold hex at h ⊢;split at h
   ·exact none_form
   ·exact told_form h (by decide) (by decide) (fun h=>absurd h (by decide))
 rename_i h2;rw[if_neg h2]
 split at h
 ·rename_i h3;rw[if_pos h3]
  split at h
  ·rename_i h4;rw[if_pos h4];exact mark_form s a 2 (by omega)
  ·simp[refused] at h
 rename_i h3;rw[if_neg h3]
 split at h
 ·rename_i h4;rw[if_pos h4]
  unfold name at h ⊢;split at h
  ·simp[refused] at h
  ·rename_i x hx
   refine told_form h (by decide) (by decide) (fun _=>⟨by decide,nameF_pos _ _ _ (Nat.le_refl _) (cut_run s (a+1)) hx⟩)
 rename_i h4;rw[if_neg h4]
 split at h
 ·rename_i h5;rw[if_pos h5]
  unfold text at h ⊢;split at h
  ·simp[refused] at h
  ·exact told_form h (by decide) (by decide) (fun h=>absurd h (by decide))
 rename_i h5;rw[if_neg h5]
 split at h
 ·simp[refused] at h
 rename_i h6;rw[if_neg h6]
 exact wordT_form h
theorem next_form {s:List UInt8}{i:Int}(h:(next s i).2=0):Form (next s i).1:=by
 unfold next at h ⊢
 split at h
 ·simp[refused] at h
 rename_i h1
 rw[if_neg h1];exact token_form h
end Lx
end
section
open Go
namespace Ps
open Lx (next Tok)
theorem obj_open {s:List UInt8}{n:Nat}{a:Int}(h:(obj s n a).2.2=0):(next s a).2=0∧(next s a).1.k≠0∧begins (next s a).1=true∧∃m,n=m+1 ∧
  obj s n a=if (next s a).1.k≠6 then leaf s (next s a).1 else if (next s a).1.s=[91] then arr s (decide (m≠0)) (obj s m) (s.length+1) (next s a).1.t [] else dict s (obj s m) (s.length+1) (next s a).1.t dict0 []:=by
 cases n with
|zero=>
  rw[obj] at h;split at h
  ·rename_i h1;exact absurd h h1
  split at h
  ·simp[bad] at h
  split at h
  ·simp[bad] at h
  ·simp[bad] at h
|succ n=>
  rw[obj] at h;split at h
  ·rename_i h1;exact absurd h h1
  rename_i h1
  split at h
  ·simp[bad] at h
  rename_i h2
  split at h
  ·simp[bad] at h
  rename_i h3
  refine⟨Classical.not_not.1 h1,h2,by simpa using h3,n,rfl,?_⟩;rw[obj,if_neg h1,if_neg h2,if_neg h3]
theorem join_wt {o v:Ob}{key:List UInt8}:(join o key v).wt≤o.wt+(key.length+1)+v.wt:=by
 unfold join;split
 ·exact Vl.put_wt o key v
 ·omega
end Ps
end
end Go.Proofs.YtoofficgclghoaaGreatDoor

namespace Go.Proofs.YtoofficgclghoaaGreatDoor
section
open Eng Go.RowKit
theorem ob1_ov2 {A:Nat→Prop}{w:World}{k n g:Int}{s:List UInt8}:OV A w (obV (ob1 k n g s) nilS nilS) (ob1 k n g s):=ObAt.ov (o:=ob1 k n g s) ⟨SlA.nil _ _ _ _,SlA.nil _ _ _ _,OVs.nil⟩
end
section
open Eng Go.RowKit
namespace Eng
theorem Ent.below {e:Ent}{w w':World}(h:e.is w)(hb:Below w.heap.size w w'):e.is w':=e.keep h fun k hk=>hb.block k (e.lt h k hk)
section
variable {S:Nat→Prop}{P:Program}{w w0:World}{L:List Ent}{PK:PKT}{K:VWP}
theorem c_rm {f:Nat}{args:Array Value}{e e':Ent}{M:Mem}{ok:Prop}{R:Value→Mem→Prop}{c:List PanicEntry}(ho:OwnS S w0 w L)(i:Nat)(hi:L[i]?=some (.two e (.mem M)))(h:Lent P f args e M w ok e' R c)
  (kr:∀v N w',ok→M.le N→R v N→OwnS S w0 w' (L.set i (.two e' (.mem N)))→K v w') (kp:∀e2 w',¬ok→OwnS S w0 w' (L.set i (.two e2 (.mem M)))→PK c w'):CallX P f args w PK K:=by
 by_cases hk:ok
 ·exact c_ret (h.ret hk) fun v w' ⟨N,hle,hr,ht⟩=>kr v N w' hk hle hr (ho.turn i hi ht)
 ·exact c_pan (h.pan hk) fun c' w' ⟨hc,e2,ht⟩=>by subst hc;exact kp e2 w' hk (ho.turn i hi ht)
end
end Eng
def rdC (s:List UInt8)(a:Int):List Value:=[.string ⟨s.toArray⟩,.int .i64 a]
abbrev rdE (b:Nat)(s:List UInt8)(a:Int):Ent:=.cells b (rdC s a) 144
abbrev rmE (b:Nat)(s:List UInt8)(a:Int)(M:Mem):Ent:=.two (rdE b s a) (.mem M)
abbrev rdP (b:Nat):Value:=.pointer (some ⟨b,0,none⟩)
def wrongE (e:Int):PanicEntry:={ v:=.iface 203 (.int .i64 e),recovered:=false }
theorem fr0:fOff prog 144 0=some 0:=by kernel_rfl
theorem fr1:fOff prog 144 1=some 1:=by kernel_rfl
theorem nfW:notIface prog 203=true:=by kernel_rfl
section
variable {w:World}{PK:PKT}{K:VWP}{S:Nat→Prop}{w0:World}{L:List Ent}
theorem fa_r0 {b:Nat}:DoX prog (mFA 144 (.pointer (some ⟨b,0,none⟩)) 0) w PK K=K (.pointer (some ⟨b,0,none⟩)) w:=f_addr fr0
theorem fa_r1 {b:Nat}:DoX prog (mFA 144 (.pointer (some ⟨b,0,none⟩)) 1) w PK K=K (.pointer (some ⟨b,1,none⟩)) w:=f_addr fr1
theorem rd_s {b:Nat}{s:List UInt8}{a:Int}(h:(rdE b s a).is w):DoX prog (mLoad 9 (.pointer (some ⟨b,0,none⟩))) w PK K=K (.string ⟨s.toArray⟩) w:=l_cell nStr5 (cells_cell (T:=144) (cs:=rdC s a) (i:=0) h rfl)
theorem rdr_s {b:Nat}{s:List UInt8}{a:Int}(h:(rdE b s a).is w):(mLoad 9 (.pointer (some ⟨b,0,none⟩))).run prog w=.ok (.value (.string ⟨s.toArray⟩)) w:=run_load_cell nStr5 (cells_cell (T:=144) (cs:=rdC s a) (i:=0) h rfl)
theorem rdr_a {b:Nat}{s:List UInt8}{a:Int}(h:(rdE b s a).is w):(mLoad 3 (.pointer (some ⟨b,1,none⟩))).run prog w=.ok (.value (.int .i64 a)) w:=run_load_cell nInt5 (cells_cell (T:=144) (cs:=rdC s a) (i:=1) h rfl)
theorem rd_put (i:Nat){b:Nat}{s:List UInt8}{a a':Int}(ho:OwnS S w0 w L)(hi:L[i]?=some (rdE b s a))(k:∀w',OwnS S w0 w' (L.set i (rdE b s a'))→K undef w'):DoX prog (mStore 3 (.pointer (some ⟨b,1,none⟩)) (.int .i64 a')) w PK K:=
 o_store i ho hi (by kernel_rfl) rfl (show 1 < 2 by omega) k
theorem throw {e:Int}{K2:Value→VWP}{PK2:PKT}(h:PK2 [wrongE e] w):DoX prog (mIface 203 (.int .i64 e)) w PK fun t w=>DoX prog (mPanic t) w PK2 (K2 t):=by
 rw[m_iface nfW,m_panic];exact h
end
theorem peek_ret (b:Nat)(s:List UInt8)(a at_:Int)(w:World)(hs:s.length≤1099511627776)(hr:(rdE b s a).is w) :
  Ret prog 208 #[rdP b,.int .i64 at_] w (fun v w'=>v=.tuple #[tokV (Lx.next s at_).1,.bool (decide ((Lx.next s at_).2=0))]∧Below w.heap.size w w'):=by
 refine ret_of fun K hK=>S_parse_reader_peek_ok ?_;unfold S_parse_reader_peek;refine o_tok (Own.start w) fun b4 w1 ho=>?_;rw[m_nil,fa_r0,rd_s (Ent.below (e:=rdE b s a) hr ho.done)];refine tk_new ho (next_ret s at_ w1 hs) fun b6 w2 ho=>?_;rw[tk_v ho 0 rfl];simp only[rs];refine tk_put 1 ho rfl fun w3 ho=>?_;exact ret_v2 (rv_cell (ho.agg 1 rfl aggTok)) rv_val (hK _ _ ⟨rfl,ho.done⟩)
def Has (s:List UInt8)(a:Int):Prop:=(Lx.next s a).2=0∧(Lx.next s a).1.k≠0
def lacks (s:List UInt8)(a:Int):Int:=if (Lx.next s a).2≠0 then (Lx.next s a).2 else 4
theorem pnext_ret (b:Nat)(s:List UInt8)(a:Int)(M:Mem)(w:World)(hs:s.length≤1099511627776)(hr:(rmE b s a M).is w) :
  Lent prog 151 #[rdP b] (rdE b s a) M w (Has s a) (rdE b s (Lx.next s a).1.t) (fun v N=>v=tokV (Lx.next s a).1) [wrongE (lacks s a)]:=by
 refine lent_of (fun K ho hret hpan=>S_parse_reader_next_ok ?_) hr;unfold S_parse_reader_next;refine o_tok ho fun b2 w1 ho=>?_;have two:∀{W:World} {b3:Nat},OwnS (rmE b s a M).blk w W [tokE b3 (Lx.next s a).1,tokE b2 Lx.none_,rdE b s a,.mem M]→S_parse_reader_next_0 (rdP b) (.pointer (some ⟨b2,0,none⟩)) (.pointer (some ⟨b3,0,none⟩)) (.int .i64 (Lx.next s a).2) W K:=by
  intro W b3 ho;have bad:∀{e:Int},¬Has s a→lacks s a=e→K (.panicked [wrongE e]) W:=by
   intro e hn he;subst he;exact hpan hn (rdE b s a) M W _ (ho.tail.tail) M.le_refl
  unfold Has lacks at *;generalize Lx.next s a=x at *
  unfold S_parse_reader_next_0;refine join fun J hJ=>?_;simp only[rs];by_cases e1:x.2=0
  case neg=>
   simp only[e1,ne_eq,not_false_eq_true,decide_true,i_t];exact throw (bad (fun h=>e1 h.1) (if_pos e1))
  simp only[e1,ne_eq,not_true,decide_false,i_f];refine hJ _ _ fun _=>?_;unfold S_parse_reader_next_1;refine join fun J hJ=>?_;rw[fa_t0,tk_k ho 0 rfl];simp only[rs];by_cases e2:x.1.k=0
  ·simp only[e2,decide_true,i_t];exact throw (bad (fun h=>h.2 e2) (if_neg (by rw[e1];simp)))
  simp only[e2,decide_false,i_f];refine hJ _ _ fun _=>?_;unfold S_parse_reader_next_2;rw[fa_t2,tk_t ho 0 rfl,m_nil,fa_r1];refine rd_put 2 ho rfl fun w2 ho=>?_;have ho:OwnS (rmE b s a M).blk w w2 [tokE b3 x.1,tokE b2 Lx.none_,rdE b s x.1.t,.mem M]:=ho;rw[tk_v ho 0 rfl];refine tk_put 1 ho rfl fun w3 ho=>?_;refine ret_v1 (rv_cell (ho.agg 1 rfl aggTok)) ?_;have ho:OwnS (rmE b s a M).blk w w3 ([tokE b3 x.1,tokE b2 x.1]++([rdE b s x.1.t,.mem M]++[])):=ho;exact hret ⟨e1,e2⟩ _ M w3 _ ho.front M.le_refl rfl
 have ho:=ho.drew;refine⟨fun W=>(rdE b s a).is W,ho.at_ 1 rfl,?_⟩;refine hd_pure _ (fun _=>run_nil) (hd_pure _ (fun _=>run_fa fr0) (hd_do _ (fun W h=>rdr_s h) ?_));refine hd_pure _ (fun _=>run_nil) (hd_pure _ (fun _=>run_fa fr1) (hd_do _ (fun W h=>rdr_a h) ?_));refine⟨?_,?_⟩
 ·refine c_below ho (R:=fun v=>v=tokR (Lx.next s a)) (next_ret s a _ hs) ?_;rintro _ w2 rfl ho;refine hd_pure _ (fun _=>run_ext0) (hd_pure _ (fun _=>run_ext1) ?_);refine o_tok ho fun b3 w3 ho=>⟨ho.at_ 2 rfl,?_⟩;refine tk_put 0 ho rfl fun w4 ho=>?_;exact two ho
 ·refine o_tok ho fun b3 w3 ho=>⟨ho.at_ 2 rfl,?_⟩;refine c_below ho (R:=fun v=>v=tokR (Lx.next s a)) (next_ret s a _ hs) ?_;rintro _ w2 rfl ho;refine hd_pure _ (fun _=>run_ext0) (hd_pure _ (fun _=>run_ext1) ?_);refine tk_put 0 ho rfl fun w4 ho=>?_;exact two ho
end
section
open Eng
def S_value_Real (t0:Value)(w:World)(K:Ending→World→Prop):Prop:=
 DoX prog (mAlloc 42) w (pk K) fun t2 w=>
 DoX prog (mBuild 42 #[(0,(.int .i64 3)),(1,t0)]) w (pk K) fun t4 w=>
 DoX prog (mStore 42 t2 t4) w (pk K) fun _ w=>
 RetX prog [.cell t2 42] w K
theorem S_value_Real_eq (t0:Value)(w:World)(K:Ending→World→Prop):wpX prog 5 [] [] none (bodyOf Tryz.f176) (topQ prog [.cell 2 42] K) (startX [t0]) [] w=S_value_Real t0 w K:=by kernel_rfl
theorem S_value_Real_ok {t0:Value}{w:World}{K:Ending→World→Prop}(h:S_value_Real t0 w K):Calls prog 176 #[t0] w K:=
 calls_of_wpX Tryz.func176 rfl rfl rfl rfl (Eq.mpr (S_value_Real_eq t0 w K) h)
def S_value_Ref (t0 t1:Value)(w:World)(K:Ending→World→Prop):Prop:=
 DoX prog (mAlloc 42) w (pk K) fun t4 w=>
 DoX prog (mBuild 42 #[(0,(.int .i64 8)),(1,t0),(2,t1)]) w (pk K) fun t7 w=>
 DoX prog (mStore 42 t4 t7) w (pk K) fun _ w=>
 RetX prog [.cell t4 42] w K
theorem S_value_Ref_eq (t0 t1:Value)(w:World)(K:Ending→World→Prop):wpX prog 8 [] [] none (bodyOf Tryz.f210) (topQ prog [.cell 4 42] K) (startX [t0,t1]) [] w=S_value_Ref t0 t1 w K:=by kernel_rfl
theorem S_value_Ref_ok {t0 t1:Value}{w:World}{K:Ending→World→Prop}(h:S_value_Ref t0 t1 w K):Calls prog 210 #[t0,t1] w K:=
 calls_of_wpX Tryz.func210 rfl rfl rfl rfl (Eq.mpr (S_value_Ref_eq t0 t1 w K) h)
def S_value_Bool_0 (t2 t3:Value)(w:World)(K:Ending→World→Prop):Prop:=
 DoX prog (mLoad 42 t3) w (pk K) fun t7 w=>
 DoX prog (mStore 42 t2 t7) w (pk K) fun _ w=>
 RetX prog [.cell t2 42] w K
def S_value_Bool (t0:Value)(w:World)(K:Ending→World→Prop):Prop:=
 DoX prog (mAlloc 42) w (pk K) fun t2 w=>
 DoX prog (mBuild 42 #[(0,(.int .i64 1))]) w (pk K) fun t4 w=>
 DoX prog (mAlloc 42) w (pk K) fun t3 w=>
 DoX prog (mStore 42 t3 t4) w (pk K) fun _ w=>
 JoinX (fun J1=>
 IfX t0 (DoX prog (mFA 42 t3 1) w (pk K) fun t6 w=>
 DoX prog (mStore 2 t6 (.int .i64 1)) w (pk K) fun _ w=>
 J1 [] w) (J1 [] w)) (fun vs1 w=>∀_:Sg,S_value_Bool_0 t2 t3 w K)
theorem S_value_Bool_eq (t0:Value)(w:World)(K:Ending→World→Prop):wpX prog 8 [(4,[])] [] none (bodyOf Tryz.f180) (topQ prog [.cell 2 42] K) (startX [t0]) [] w=S_value_Bool t0 w K:=by kernel_rfl
theorem S_value_Bool_ok {t0:Value}{w:World}{K:Ending→World→Prop}(h:S_value_Bool t0 w K):Calls prog 180 #[t0] w K:=
 calls_of_wpX Tryz.func180 rfl rfl rfl rfl (Eq.mpr (S_value_Bool_eq t0 w K) h)
end
section
open Eng Go.RowKit
theorem vreal_ret (n:Int)(w:World):Ret prog 176 #[.int .i64 n] w (obR (ob1 3 n 0 []) nilS nilS w):=by
 refine ret_of fun K hK=>S_value_Real_ok ?_;unfold S_value_Real;refine o_oba (Own.start w) fun b w1 ho=>?_;have hb:∀{PK:PKT} {K:VWP},DoX prog (mBuild 42 #[(0,(.int .i64 3)),(1,.int .i64 n)]) w1 PK K=K (obV (ob1 3 n 0 []) nilS nilS) w1:=do_eq (by kernel_rfl);rw[hb];refine ob_put 0 rfl rfl ho rfl fun w2 ho=>?_;exact ret_ob ho (hK _ _ ⟨rfl,ho.done⟩)
theorem vref_ret (n g:Int)(w:World):Ret prog 210 #[.int .i64 n,.int .i64 g] w (obR (ob1 8 n g []) nilS nilS w):=by
 refine ret_of fun K hK=>S_value_Ref_ok ?_;unfold S_value_Ref;refine o_oba (Own.start w) fun b w1 ho=>?_;have hb:∀{PK:PKT} {K:VWP},DoX prog (mBuild 42 #[(0,(.int .i64 8)),(1,.int .i64 n),(2,.int .i64 g)]) w1 PK K=K (obV (ob1 8 n g []) nilS nilS) w1:=do_eq (by kernel_rfl);rw[hb];refine ob_put 0 rfl rfl ho rfl fun w2 ho=>?_;exact ret_ob ho (hK _ _ ⟨rfl,ho.done⟩)
theorem vbool_ret (b:Bool)(w:World):Ret prog 180 #[.bool b] w (obR (ob1 1 (if b then 1 else 0) 0 []) nilS nilS w):=by
 refine ret_of fun K hK=>S_value_Bool_ok ?_;unfold S_value_Bool;refine o_oba (Own.start w) fun b2 w1 ho=>?_;have hb:∀{PK:PKT} {K:VWP},DoX prog (mBuild 42 #[(0,(.int .i64 1))]) w1 PK K=K (obV (ob1 1 0 0 []) nilS nilS) w1:=do_eq (by kernel_rfl);rw[hb];refine o_oba ho fun b3 w2 ho=>?_;refine ob_put (o':=ob1 1 0 0 []) (vk':=nilS) (vc':=nilS) 0 rfl rfl ho rfl fun w3 ho=>?_;refine join fun J hJ=>?_;have fin:∀{W:World} {n:Int},Own w W [obE b3 (ob1 1 n 0 []) nilS nilS,obE b2 ob0 nilS nilS]→n=(if b then 1 else 0)→J [] W:=by
  intro W n ho hn;refine hJ _ _ fun _=>?_;unfold S_value_Bool_0;rw[ob_v ho 0 rfl];refine ob_put 1 rfl rfl ho rfl fun w4 ho=>?_;exact ret_v1 (rv_cell (ho.agg 1 rfl aggOb)) (hK _ _ ⟨by rw[hn];rfl,ho.done⟩)
 cases b with
|true=>
  rw[i_t,fa_o1];exact o_store 0 ho rfl (by kernel_rfl) rfl (show 0+1 < 6 by omega) fun w4 ho=>fin (n:=1) ho rfl
|false=>
  rw[i_f];exact fin (n:=0) ho rfl
def pend (s:List UInt8)(t:Lx.Tok)(a:Int):Int:=match Ps.ref s t with|some p=>p.2|none=>a
def refO (s:List UInt8)(t:Lx.Tok):Ob:=match Ps.ref s t with|some p=>ob1 8 t.n p.1 []|none=>ob1 0 0 0 []
theorem pref_ret (b:Nat)(s:List UInt8)(t:Lx.Tok)(a:Int)(M:Mem)(w:World)(hs:s.length≤1099511627776)(hr:(rmE b s a M).is w) :
  Lent prog 174 #[rdP b,tokV t] (rdE b s a) M w True (rdE b s (pend s t a)) (fun v N=>v=.tuple #[obV (refO s t) nilS nilS,.bool (Ps.ref s t).isSome]) []:=by
 refine lent_of (fun K ho hret hpan=>S_parse_reader_ref_ok ?_) hr;clear hpan;have hret:=hret trivial;unfold S_parse_reader_ref;refine o_tkb t ho fun b3 w1 ho=>?_;refine o_oba ho fun b4 w2 ho=>?_;have no:∀{W:World} {L:List Ent} {o:Ob} (i:Nat),OwnS (rmE b s a M).blk w W (L++([rdE b s a,.mem M]++[]))→L[i]?=some (obE b4 o nilS nilS)→Ps.ref s t=none →
   DoX prog (mBuild 42 #[]) W (pk K) (fun t W=>DoX prog (mStore 42 (.pointer (some ⟨b4,0,none⟩)) t) W (pk K) fun _ W=>RetX prog [.cell (.pointer (some ⟨b4,0,none⟩)) 42,.val (.bool false)] W K):=by
  intro W L o i ho hi hn;rw[m_ob0];have hil:i < L.length:=(List.getElem?_eq_some_iff.1 hi).1;refine ob_put i rfl rfl ho (by rw[List.getElem?_append_left hil];exact hi) fun w' ho=>?_;rw[List.set_append_left _ _ hil] at ho;refine ret_v2 (rv_cell (ho.agg (cs:=obC Vl.ob0 nilS nilS) i (by rw[List.getElem?_append_left (by simp;omega)];simp[hil];rfl) aggOb)) rv_val ?_;refine hret _ M w' (L.set i (obE b4 Vl.ob0 nilS nilS)++[]) ?_ M.le_refl ?_
  ·rw[pend,hn];exact ho.front
  ·rw[refO,hn];rfl
 have hpend:=(rfl:pend s t a=pend s t a);unfold pend at hpend;have hrefO:refO s t=_:=rfl;by_cases h1:t.n < 1∨8191 < t.n
 ·have hr:Ps.ref s t=none:=by rw[Ps.ref,if_pos h1]
  by_cases h2:t.n < 1
  ·simp only[rs,fa_t3,tk_n ho 1 rfl,decide_eq_true h2,g_un];exact no (L:=[_,_]) 0 ho rfl hr
  ·have h3:8191 < t.n:=by omega
   simp only[rs,fa_t3,tk_n ho 1 rfl,decide_eq_false h2,decide_eq_true h3,g_un];exact no (L:=[_,_]) 0 ho rfl hr
 have h2:¬t.n < 1:=by omega
 have h3:¬8191 < t.n:=by omega
 simp only[rs,fa_t3,fa_t2,tk_n ho 1 rfl,tk_t ho 1 rfl,decide_eq_false h2,decide_eq_false h3,g_un];refine c_below ho (R:=fun v=>v=.tuple #[tokV (Lx.next s t.t).1,.bool (decide ((Lx.next s t.t).2=0))]) (peek_ret b s a t.t w2 hs (ho.at_ 2 rfl)) ?_;rintro _ w3 rfl ho;simp only[ex];refine o_tok ho fun b6 w4 ho=>?_;refine tk_put 0 ho rfl fun w5 ho=>?_;have ho:OwnS (rmE b s a M).blk w w5 [tokE b6 (Lx.next s t.t).1,obE b4 ob0 nilS nilS,tokE b3 t,rdE b s a,.mem M]:=ho;by_cases h4:(Lx.next s t.t).2≠0∨(Lx.next s t.t).1.k≠1∨(Lx.next s t.t).1.n < 0∨65535 < (Lx.next s t.t).1.n
 ·have hr:Ps.ref s t=none:=by rw[Ps.ref,if_neg h1,if_pos h4]
  have no':=no (W:=w5) (L:=[_,_,_]) 1 ho rfl hr;by_cases q1:(Lx.next s t.t).2=0
  ·by_cases q2:(Lx.next s t.t).1.k=1
   ·by_cases q3:(Lx.next s t.t).1.n < 0
    ·simp only[rs,fa_t0,fa_t3,tk_k ho 0 rfl,tk_n ho 0 rfl,q1,q2,q3,ne_eq,not_true,decide_true,decide_false,g_un,Bool.not_true];exact no'
    ·have q4:65535 < (Lx.next s t.t).1.n:=by
      rcases h4 with h|h|h|h
      ·exact absurd q1 h
      ·exact absurd q2 h
      ·exact absurd h q3
      ·exact h
     simp only[rs,fa_t0,fa_t3,tk_k ho 0 rfl,tk_n ho 0 rfl,q1,q2,q3,q4,ne_eq,not_true,decide_true,decide_false,g_un,Bool.not_true];exact no'
   ·simp only[rs,fa_t0,fa_t3,tk_k ho 0 rfl,tk_n ho 0 rfl,q1,q2,ne_eq,not_true,not_false_eq_true,decide_true,decide_false,g_un,Bool.not_true];exact no'
  ·simp only[rs,fa_t0,fa_t3,tk_k ho 0 rfl,tk_n ho 0 rfl,q1,ne_eq,not_true,not_false_eq_true,decide_true,decide_false,g_un,Bool.not_false];exact no'
 have q:(Lx.next s t.t).2=0∧(Lx.next s t.t).1.k=1∧¬(Lx.next s t.t).1.n < 0∧¬65535 < (Lx.next s t.t).1.n:=by
  refine⟨?_,?_,?_,?_⟩
  ·exact Classical.not_not.1 fun h=>h4 (.inl h)
  ·exact Classical.not_not.1 fun h=>h4 (.inr (.inl h))
  ·exact fun h=>h4 (.inr (.inr (.inl h)))
  ·exact fun h=>h4 (.inr (.inr (.inr h)))
 obtain⟨q1,q2,q3,q4⟩:=q;simp only[rs,fa_t0,fa_t2,fa_t3,tk_k ho 0 rfl,tk_n ho 0 rfl,tk_t ho 0 rfl,q1,q2,q3,q4,ne_eq,not_true,decide_true,decide_false,g_un,Bool.not_true];refine c_below ho (R:=fun v=>v=.tuple #[tokV (Lx.next s (Lx.next s t.t).1.t).1,.bool (decide ((Lx.next s (Lx.next s t.t).1.t).2=0))]) (peek_ret b s a (Lx.next s t.t).1.t w5 hs (ho.at_ 3 rfl)) ?_;rintro _ w6 rfl ho;simp only[ex];refine o_tok ho fun b8 w7 ho=>?_;refine tk_put 0 ho rfl fun w8 ho=>?_;have hr:Ps.ref s t=if (Lx.next s (Lx.next s t.t).1.t).2=0∧(Lx.next s (Lx.next s t.t).1.t).1.k=5∧(Lx.next s (Lx.next s t.t).1.t).1.s=[82] then some ((Lx.next s t.t).1.n,(Lx.next s (Lx.next s t.t).1.t).1.t) else none:=by
  rw[Ps.ref,if_neg h1,if_neg h4]
 generalize Lx.next s (Lx.next s t.t).1.t=x at *
 have ho:OwnS (rmE b s a M).blk w w8 [tokE b8 x.1,tokE b6 (Lx.next s t.t).1,obE b4 ob0 nilS nilS,tokE b3 t,rdE b s a,.mem M]:=ho;by_cases e1:x.2=0
 case neg=>
  simp only[e1,decide_false,rs,g_un,Bool.not_false];exact no (L:=[_,_,_,_]) 2 ho rfl (by rw[hr,if_neg (fun h=>e1 h.1)])
 simp only[e1,decide_true,rs,g_un,Bool.not_true,tk_v ho 0 rfl];refine c_below ho (R:=fun v=>v=.bool (decide (x.1.k=5)&&decide (x.1.s=[82]))) (pword_ret x.1 5 [82] w8) ?_;rintro _ w9 rfl ho;cases e2:(decide (x.1.k=5)&&decide (x.1.s=[82])) with
|false=>
  simp only[rs,Bool.not_false];have hnr:¬(x.2=0∧x.1.k=5∧x.1.s=[82]):=fun h=>by
   rw[decide_eq_true h.2.1,decide_eq_true h.2.2] at e2;exact absurd e2 (by decide)
  exact no (L:=[_,_,_,_]) 2 ho rfl (by rw[hr,if_neg hnr])
|true=>
  simp only[Bool.and_eq_true,decide_eq_true_eq] at e2;rw[if_pos ⟨e1,e2.1,e2.2⟩] at hr;simp only[rs,Bool.not_true,fa_t2,tk_t ho 0 rfl,m_nil,fa_r1];refine rd_put 4 ho rfl fun w10 ho=>?_;have ho:OwnS (rmE b s a M).blk w w10 [tokE b8 x.1,tokE b6 (Lx.next s t.t).1,obE b4 ob0 nilS nilS,tokE b3 t,rdE b s x.1.t,.mem M]:=ho;rw[tk_n ho 3 rfl,tk_n ho 1 rfl];refine c_below ho (R:=fun v=>v=obV (ob1 8 t.n (Lx.next s t.t).1.n []) nilS nilS) (vref_ret t.n (Lx.next s t.t).1.n w10) ?_;rintro _ w11 rfl ho;refine ob_put 2 rfl rfl ho rfl fun w12 ho=>?_;refine ret_v2 (rv_cell (ho.agg 2 rfl aggOb)) rv_val ?_;have ho:OwnS (rmE b s a M).blk w w12 ([tokE b8 x.1,tokE b6 (Lx.next s t.t).1,obE b4 (ob1 8 t.n (Lx.next s t.t).1.n []) nilS nilS,tokE b3 t]++([rdE b s x.1.t,.mem M]++[])):=ho;have hf:=ho.front;rw[←show pend s t a=x.1.t by rw[pend,hr]] at hf;exact hret _ M w12 _ hf M.le_refl (by rw[refO,hr];rfl)
def PObj (s:List UInt8)(n:Nat):Prop:=∀(b:Nat) (a:Int) (M:Mem) (w:World),Has s a→(rmE b s (Lx.next s a).1.t M).is w →
 Lent prog 150 #[rdP b,tokV (Lx.next s a).1,.int .i64 (24 - (n:Int))] (rdE b s (Lx.next s a).1.t) M w ((Ps.obj s n a).2.2=0) (rdE b s (Ps.obj s n a).2.1) (fun v N=>OV N.A N.w v (Ps.obj s n a).1) [wrongE (Ps.obj s n a).2.2]
def PArr (s:List UInt8)(n:Nat):Prop:=∀(b:Nat) (a:Int) (M:Mem) (w:World),0≤a→a≤s.length→(rmE b s a M).is w →
 Lent prog 181 #[rdP b,.int .i64 (24 - (n:Int))] (rdE b s a) M w ((Ps.arr s (decide (n≠0)) (Ps.obj s n) (s.length+1) a []).2.2=0) (rdE b s (Ps.arr s (decide (n≠0)) (Ps.obj s n) (s.length+1) a []).2.1) (fun v N=>OV N.A N.w v (Ps.arr s (decide (n≠0)) (Ps.obj s n) (s.length+1) a []).1) [wrongE (Ps.arr s (decide (n≠0)) (Ps.obj s n) (s.length+1) a []).2.2]
def PDict (s:List UInt8)(n:Nat):Prop:=∀(b:Nat) (a:Int) (M:Mem) (w:World),0≤a→a≤s.length→(rmE b s a M).is w →
 Lent prog 182 #[rdP b,.int .i64 (24 - (n:Int))] (rdE b s a) M w ((Ps.dict s (Ps.obj s n) (s.length+1) a Ps.dict0 []).2.2=0) (rdE b s (Ps.dict s (Ps.obj s n) (s.length+1) a Ps.dict0 []).2.1) (fun v N=>OV N.A N.w v (Ps.dict s (Ps.obj s n) (s.length+1) a Ps.dict0 []).1) [wrongE (Ps.dict s (Ps.obj s n) (s.length+1) a Ps.dict0 []).2.2]
end
section
open Eng Go.RowKit
theorem obj_lacks {s:List UInt8}{n:Nat}{a:Int}(h:¬Has s a):Ps.obj s n a=Ps.bad (lacks s a):=by
 unfold Has at h;unfold lacks;cases n
 all_goals
  rw[Ps.obj];by_cases e1:(Lx.next s a).2=0
  ·have e2:(Lx.next s a).1.k=0:=Classical.not_not.1 fun h2=>h ⟨e1,h2⟩;rw[if_neg (by rw[e1];simp),if_pos e2,if_neg (by rw[e1];simp)]
  ·rw[if_pos e1,if_pos e1]
theorem lacks_pos {s:List UInt8}{a:Int}:lacks s a≠0:=by
 unfold lacks;split
 ·assumption
 ·decide
theorem pobj_ret (s:List UInt8)(hs:s.length≤1000000000)(harr:∀n,n≤23→PObj s n→PArr s n)(hdict:∀n,n≤23→PObj s n→PDict s n):∀n:Nat,n≤24→PObj s n:=by
 intro n
 induction n with
|zero=>
  intro _ b a M w hh hr;have hob:Ps.obj s 0 a=_:=Ps.obj.eq_def s 0 a;simp only at hob;refine lent_of (fun K ho hret hpan=>S_parse_reader_object_ok ?_) hr;unfold S_parse_reader_object;refine o_tkb _ ho fun b4 w1 ho=>?_;refine o_oba ho fun b6 w2 ho=>?_;clear hret;obtain⟨e1,e2⟩:=hh;generalize Ps.obj s 0 a=R at *;generalize Lx.next s a=x at *
  rw[if_neg (by rw[e1];simp),if_neg e2] at hob;refine join fun J hJ=>?_;rw[tk_v ho 1 rfl];refine c_below ho (R:=fun v=>v=.bool (Ps.begins x.1)) (pfirst_ret x.1 w2 e2) ?_;rintro _ w3 rfl ho;have fail:∀{e:Int},R=Ps.bad e→e≠0→∀{W:World},OwnS (rmE b s x.1.t M).blk w W [obE b6 ob0 nilS nilS,tokE b4 x.1,rdE b s x.1.t,.mem M]→K (.panicked [wrongE e]) W:=by
   intro e he h0 W ho;subst he;exact hpan h0 _ M W _ ho.tail.tail M.le_refl
  cases e3:Ps.begins x.1 with
 |false=>
   simp only[rs,Bool.not_false,i_t];rw[if_pos e3] at hob;exact throw (fail hob (by decide) ho)
 |true=>
   simp only[rs,Bool.not_true,i_f];rw[if_neg (by rw[e3];simp)] at hob;refine hJ _ _ fun _=>?_;unfold S_parse_reader_object_0;refine join fun J hJ=>?_;simp only[rs,show decide ((24:Int)≤24 - ((0:Nat):Int))=true by decide];exact throw (fail hob (by decide) ho)
|succ n ih=>
  intro hn b a M w hh hr;have ih:=ih (by omega);have harr:=harr n (by omega) ih;have hdict:=hdict n (by omega) ih;have hob:Ps.obj s (n+1) a=_:=Ps.obj.eq_def s (n+1) a;simp only at hob;refine lent_of (fun K ho hret hpan=>S_parse_reader_object_ok ?_) hr;unfold S_parse_reader_object;refine o_tkb _ ho fun b4 w1 ho=>?_;refine o_oba ho fun b6 w2 ho=>?_;obtain⟨e1,e2⟩:=hh;have hbd:=@Lx.next_bd s a e1 e2;have hfm:=@Lx.next_form s a e1;have hge:=Lx.skip_ge s a.toNat;generalize hR:Ps.obj s (n+1) a=R at *;clear hR;generalize Lx.next s a=x at *
  rw[if_neg (by rw[e1];simp),if_neg e2] at hob;refine join fun J hJ=>?_;rw[tk_v ho 1 rfl];refine c_below ho (R:=fun v=>v=.bool (Ps.begins x.1)) (pfirst_ret x.1 w2 e2) ?_;rintro _ w3 rfl ho;have fail:∀{e:Int},R=Ps.bad e→e≠0→∀{W:World},OwnS (rmE b s x.1.t M).blk w W [obE b6 ob0 nilS nilS,tokE b4 x.1,rdE b s x.1.t,.mem M]→K (.panicked [wrongE e]) W:=by
   intro e he h0 W ho;subst he;exact hpan h0 _ M W _ ho.tail.tail M.le_refl
  cases e3:Ps.begins x.1 with
 |false=>
   simp only[rs,Bool.not_false,i_t];rw[if_pos e3] at hob;exact throw (fail hob (by decide) ho)
 |true=>
  simp only[rs,Bool.not_true,i_f];rw[if_neg (by rw[e3];simp)] at hob;refine hJ _ _ fun _=>?_;unfold S_parse_reader_object_0;refine join fun J hJ=>?_;have hdeep:¬(24:Int)≤24 - ((n+1:Nat):Int):=by omega
  simp only[rs,decide_eq_false hdeep];refine hJ _ _ fun _=>?_;unfold S_parse_reader_object_1;simp only[rs,fa_t0,tk_k ho 1 rfl]
  -- what is returned
  have good:∀{W:World} {L:List Ent} {k m g t:Int} {z:List UInt8} (j:Nat),OwnS (rmE b s x.1.t M).blk w W (L++([rdE b s t,.mem M]++[]))→L[j]?=some (obE b6 (ob1 k m g z) nilS nilS)→R=(ob1 k m g z,t,0)→RetX prog [.cell (.pointer (some ⟨b6,0,none⟩)) 42] W K:=by
   intro W L k m g t z j ho hj he;have hjl:j < L.length:=(List.getElem?_eq_some_iff.1 hj).1;refine ret_v1 (rv_cell (ho.agg (cs:=obC (ob1 k m g z) nilS nilS) j (by rw[List.getElem?_append_left hjl];exact hj) aggOb)) ?_;subst he;exact hret rfl _ M W _ ho.front M.le_refl ob1_ov2
  have tail:∀{f:Nat} {args:Array Value} {k m g:Int} {z:List UInt8} {W:World} {L:List Ent} {PK1 PK2:PKT} {o:Ob} {vk vc:Value} (j:Nat),OwnS (rmE b s x.1.t M).blk w W (L++([rdE b s x.1.t,.mem M]++[]))→L[j]?=some (obE b6 o vk vc)→Ret prog f args W (obR (ob1 k m g z) nilS nilS W)→R=(ob1 k m g z,x.1.t,0) →
    CallX prog f args W PK1 fun t W=>DoX prog (mStore 42 (.pointer (some ⟨b6,0,none⟩)) t) W PK2 fun _ W=>RetX prog [.cell (.pointer (some ⟨b6,0,none⟩)) 42] W K:=by
   intro f args k m g z W L PK1 PK2 o vk vc j ho hj hr he;have hjl:j < L.length:=(List.getElem?_eq_some_iff.1 hj).1;refine c_below ho (R:=fun v=>v=obV (ob1 k m g z) nilS nilS) hr ?_;rintro _ W2 rfl ho;refine ob_put (o':=ob1 k m g z) (vk':=nilS) (vc':=nilS) j rfl rfl ho (by rw[List.getElem?_append_left hjl];exact hj) fun W3 ho=>?_;rw[List.set_append_left _ _ hjl] at ho;exact good j ho (by simp[hjl]) he
  have hleafR:x.1.k≠6→R=Ps.leaf s x.1:=fun h=>by rw[hob,if_pos h]
  rcases hfm.kind with k0|k1|k2|k3|k4|k5|k6
  ·exact absurd k0 e2
  ·have hk6:x.1.k≠6:=by omega
   have hleaf:R=match Ps.ref s x.1 with
   |some p=>(.mk 8 x.1.n p.1 [] [] [],p.2,0)
   |none=>(.mk 2 x.1.n 0 [] [] [],x.1.t,0):=by rw[hleafR hk6,Ps.leaf,if_pos k1];all_goals (cases Ps.ref s x.1<;>rfl)
   simp only[decide_eq_true k1,i_t,tk_v ho 1 rfl];have ho:OwnS (rmE b s x.1.t M).blk w w3 ([obE b6 ob0 nilS nilS,tokE b4 x.1]++([rdE b s x.1.t,.mem M]++[])):=ho;have ho:=ho.front.pair;refine c_rm ho 0 rfl (pref_ret b s x.1 x.1.t M w3 (by omega) (ho.at_ 0 rfl)) ?_ fun _ _ h=>absurd trivial h;rintro _ N w4 _ hle rfl ho;simp only[ex];have ho:=ho.split;have ho:OwnS (rmE b s x.1.t M).blk w w4 ([rdE b s (pend s x.1 x.1.t),.mem N]++([obE b6 ob0 nilS nilS,tokE b4 x.1]++[])):=ho;have ho:=ho.front;refine o_oba ho fun b7 w5 ho=>?_;refine ob_put (vk':=nilS) (vc':=nilS) 0 rfl rfl ho rfl fun w6 ho=>?_;have ho:OwnS (rmE b s x.1.t M).blk w w6 ([obE b7 (refO s x.1) nilS nilS,obE b6 ob0 nilS nilS,tokE b4 x.1]++([rdE b s (pend s x.1 x.1.t),.mem N]++[])):=ho;unfold refO pend at ho;cases hp:Ps.ref s x.1 with
  |some p=>
    rw[hp] at hleaf ho;simp only at ho;simp only[Option.isSome_some,i_t,ob_v ho 0 rfl];refine ob_put 1 rfl rfl ho rfl fun w7 ho=>?_;have ho:OwnS (rmE b s x.1.t M).blk w w7 ([obE b7 (ob1 8 x.1.n p.1 []) nilS nilS,obE b6 (ob1 8 x.1.n p.1 []) nilS nilS,tokE b4 x.1]++([rdE b s p.2,.mem N]++[])):=ho;refine ret_v1 (rv_cell (ho.agg 1 rfl aggOb)) ?_;subst hleaf;exact hret rfl _ N w7 _ ho.front hle ob1_ov2
  |none=>
    rw[hp] at hleaf ho;simp only at ho;simp only[Option.isSome_none,i_f,fa_t3,tk_n ho 2 rfl];refine c_below ho (R:=fun v=>v=obV (ob1 2 x.1.n 0 []) nilS nilS) (vint_ret x.1.n w6) ?_;rintro _ w7 rfl ho;refine ob_put 1 rfl rfl ho rfl fun w8 ho=>?_;have ho:OwnS (rmE b s x.1.t M).blk w w8 ([obE b7 (ob1 0 0 0 []) nilS nilS,obE b6 (ob1 2 x.1.n 0 []) nilS nilS,tokE b4 x.1]++([rdE b s x.1.t,.mem N]++[])):=ho;refine ret_v1 (rv_cell (ho.agg 1 rfl aggOb)) ?_;subst hleaf;exact hret rfl _ N w8 _ ho.front hle ob1_ov2
  ·have hk6:x.1.k≠6:=by omega
   simp only[k2,show ¬((2:Int)=1) by decide,decide_true,decide_false,rs,fa_t3,tk_n ho 1 rfl];exact tail (L:=[_,_]) 0 ho rfl (vreal_ret x.1.n _) (by rw[hleafR hk6,Ps.leaf,if_neg (by omega),if_pos k2])
  ·have hk6:x.1.k≠6:=by omega
   simp only[k3,show ¬((3:Int)=1) by decide,show ¬((3:Int)=2) by decide,decide_true,decide_false,rs,fa_t4',tk_s ho 1 rfl];exact tail (L:=[_,_]) 0 ho rfl (vstr_ret x.1.s _) (by rw[hleafR hk6,Ps.leaf,if_neg (by omega),if_neg (by omega),if_pos k3])
  ·have hk6:x.1.k≠6:=by omega
   simp only[k4,show ¬((4:Int)=1) by decide,show ¬((4:Int)=2) by decide,show ¬((4:Int)=3) by decide,decide_true,decide_false,rs,fa_t4',tk_s ho 1 rfl];exact tail (L:=[_,_]) 0 ho rfl (vname_ret x.1.s _) (by rw[hleafR hk6,Ps.leaf,if_neg (by omega),if_neg (by omega),if_neg (by omega),if_pos k4])
  ·have hk6:x.1.k≠6:=by omega
   simp only[k5,show ¬((5:Int)=1) by decide,show ¬((5:Int)=2) by decide,show ¬((5:Int)=3) by decide,show ¬((5:Int)=4) by decide,decide_true,decide_false,rs,fa_t4',tk_s ho 1 rfl];by_cases hn:x.1.s=[110,117,108,108]
   ·simp only[decide_eq_true hn,i_t];exact tail (L:=[_,_]) 0 ho rfl (vnull_ret _) (by rw[hleafR hk6,Ps.leaf,if_neg (by omega),if_neg (by omega),if_neg (by omega),if_neg (by omega),if_pos (show x.1.s=Ps.nul from hn)];rfl)
   ·simp only[decide_eq_false hn,i_f];refine tail (L:=[_,_]) 0 ho rfl (vbool_ret _ _) ?_;rw[hleafR hk6,Ps.leaf,if_neg (by omega),if_neg (by omega),if_neg (by omega),if_neg (by omega),if_neg (show ¬x.1.s=Ps.nul from hn)];simp only[decide_eq_true_eq];rfl
  ·have hs2:x.1.s=[91]∨x.1.s=[60,60]:=by
    unfold Ps.begins at e3;rw[if_pos k6] at e3;simpa using e3
   rw[if_neg (show ¬x.1.k≠6 by rw[k6];simp)] at hob;simp only[k6,show ¬((6:Int)=1) by decide,show ¬((6:Int)=2) by decide,show ¬((6:Int)=3) by decide,show ¬((6:Int)=4) by decide,show ¬((6:Int)=5) by decide,decide_true,decide_false,rs,fa_t4',tk_s ho 1 rfl];rw[wrap64_id (by omega) (by omega),show (24:Int) - ((n+1:Nat):Int)+1=24 - (n:Int) by omega];have ho:OwnS (rmE b s x.1.t M).blk w w3 ([obE b6 ob0 nilS nilS,tokE b4 x.1]++([rdE b s x.1.t,.mem M]++[])):=ho;have ho:=ho.front.pair;have fin:∀{W:World} {N:Mem} {u:Value},R.2.2=0→M.le N→OV N.A N.w u R.1→OwnS (rmE b s x.1.t M).blk w W [rmE b s R.2.1 N,obE b6 ob0 nilS nilS,tokE b4 x.1] →
     DoX prog (mStore 42 (.pointer (some ⟨b6,0,none⟩)) u) W (pk K) fun _ w=>RetX prog [.cell (.pointer (some ⟨b6,0,none⟩)) 42] w K:=by
    intro W N u h0 hle hu ho;obtain⟨xk,xc,xcs,rfl,hx⟩:=hu.open;refine ob_put 1 hx.keys.one hx.kids.one ho rfl fun W2 ho=>?_;refine ret_v1 (rv_cell (ho.agg 1 rfl aggOb)) ?_;exact hret h0 _ N W2 _ ho.split hle hx.ov
   have fall:∀{W:World} {e2:Ent},¬R.2.2=0→OwnS (rmE b s x.1.t M).blk w W [.two e2 (.mem M),obE b6 ob0 nilS nilS,tokE b4 x.1]→pk K [wrongE R.2.2] W:=
    fun h0 ho=>hpan h0 _ M _ _ ho.split M.le_refl
   rcases hs2 with h2|h2
   ·simp only[decide_eq_true h2,i_t];rw[if_pos h2] at hob;have h:=harr b x.1.t M w3 (by omega) (by omega) (ho.at_ 0 rfl);rw[←hob] at h;exact c_rm ho 0 rfl h (fun v N w4 h0 hle hv ho=>fin h0 hle hv ho) fun e2 w4 h0 ho=>fall h0 ho
   ·have h91:¬x.1.s=[91]:=by rw[h2];decide
    simp only[decide_eq_false h91,i_f];rw[if_neg h91] at hob;have h:=hdict b x.1.t M w3 (by omega) (by omega) (ho.at_ 0 rfl);rw[←hob] at h;exact c_rm ho 0 rfl h (fun v N w4 h0 hle hv ho=>fin h0 hle hv ho) fun e2 w4 h0 ho=>fall h0 ho
end
section
open Eng Go.RowKit
def rdAt (b:Nat)(w:World):Nat:=match w.cell? ⟨b,1,none⟩ with|some (.int _ q)=>q.toNat|_=>0
theorem rdAt_is {b:Nat}{s:List UInt8}{a:Int}{w:World}(h:(rdE b s a).is w):rdAt b w=a.toNat:=by
 unfold rdAt;rw[cells_cell (T:=144) (cs:=rdC s a) (i:=1) h rfl]
theorem meas {n:Nat}{a b:Int}(h0:0≤a)(h:a < b)(hb:b≤n):n - b.toNat < n - a.toNat:=by omega
theorem arr_lacks {s:List UInt8}{ok:Bool}{n m:Nat}{a:Int}{acc:List Ob}(h:¬Has s a):Ps.arr s ok (Ps.obj s n) (m+1) a acc=Ps.bad (lacks s a):=by
 rw[Ps.arr];have h1:¬((Lx.next s a).2=0∧(Lx.next s a).1.k=6∧(Lx.next s a).1.s=[93]):=fun h2=>h ⟨h2.1,by rw[h2.2.1];decide⟩;rw[if_neg h1];by_cases e1:(Lx.next s a).2=0
 ·have e2:(Lx.next s a).1.k=0:=Classical.not_not.1 fun h2=>h ⟨e1,h2⟩;have hb:¬((Lx.next s a).2=0∧acc.length=8191∧Ps.begins (Lx.next s a).1=true∧ok=true):=fun h2=>by
   have:=h2.2.2.1;unfold Ps.begins at this;rw[if_neg (by rw[e2];decide),e2] at this;simp at this
  rw[if_neg hb,if_neg (by rw[e1];simp),obj_lacks h,if_pos (show (Ps.bad (lacks s a)).2.2≠0 from lacks_pos)];rfl
 ·rw[if_neg (fun h2=>e1 h2.1),if_pos e1];unfold lacks;rw[if_pos e1]
theorem parr_ret (s:List UInt8)(hs:s.length≤1000000000)(n:Nat)(hn:n≤23)(hsub:PObj s n):PArr s n:=by
 intro b a M w h0 h1 hr;generalize hR:Ps.arr s (decide (n≠0)) (Ps.obj s n) (s.length+1) a []=R;refine lent_of (fun K ho hret hpan=>S_parse_reader_array_ok ?_) hr;unfold S_parse_reader_array;have ho:=ho.pair.nilU 42 6;refine o_oba ho fun b4 w1 ho=>?_;have hb6:∀{PK:PKT} {K:VWP},DoX prog (mBuild 42 #[(0,(.int .i64 6))]) w1 PK K=K (obV (.mk 6 0 0 [] [] []) nilS nilS) w1:=do_eq (by kernel_rfl);rw[hb6];refine o_oba ho fun b5 w2 ho=>?_;refine ob_put (o':=.mk 6 0 0 [] [] []) (vk':=nilS) (vc':=nilS) 0 rfl rfl ho rfl fun w3 ho=>?_;generalize hS0:(rmE b s a M).blk=S0 at *;have ho:OwnS S0 w w3 [obE b5 (.mk 6 0 0 [] [] []) nilS nilS,obE b4 ob0 nilS nilS,kidE nilS 0 [],rmE b s a M]:=ho;have fall:∀{W:World} {L:List Ent} {e2:Ent} {N:Mem} (e:Int),OwnS S0 w W (L++([.two e2 (.mem N)]++[]))→M.le N→R=Ps.bad e→e≠0→pk K [wrongE e] W:=by
  intro W L e2 N e ho hle he h0;subst he;exact hpan h0 e2 N W _ (ho.front).split hle
 refine loop (fun vs w'=>∃(a':Int) (m:Nat) (acc:List Ob) (cs:List Value) (vc:Value) (N:Mem),vs=[]∧0≤a'∧a'≤s.length∧(acc.length:Int)≤a'∧acc.length≤8191∧acc.length+m=s.length+1 ∧
   Ps.arr s (decide (n≠0)) (Ps.obj s n) m a' acc=R∧M.le N∧OVs N.A N.w cs acc ∧
   OwnS S0 w w' [obE b5 (.mk 6 0 0 [] [] acc) nilS vc,obE b4 ob0 nilS nilS,kidE vc acc.length cs,rmE b s a' N]) (fun _ w=>s.length - rdAt b w)
  ⟨a,s.length+1,[],[],nilS,M,rfl,h0,h1,by simpa using h0,by simp,by simp,hR,M.le_refl,OVs.nil,ho⟩ ?_
 clear ho hR;rintro vs w4 ⟨a',m,acc,cs,vc,N,rfl,ha0,ha1,hla,hmx,hml,harr,hle,hall,ho⟩ _;simp only[S_parse_reader_array_0];obtain⟨m,rfl⟩:∃k,m=k+1:=⟨m - 1,by omega⟩;have hat:rdAt b w4=a'.toNat:=rdAt_is (ho.at_ 3 rfl).1;refine c_rm ho 3 rfl (pnext_ret b s a' N w4 (by omega) (ho.at_ 3 rfl)) ?_ fun e2 w5 hn ho=>?_
 rotate_left
 ·rw[arr_lacks hn] at harr;exact fall (L:=[_,_,_]) _ ho hle harr.symm lacks_pos
 rintro _ N1 w5 hhas hle1 rfl ho;have hbd:=@Lx.next_bd s a' hhas.1 hhas.2;have hge:=Lx.skip_ge s a'.toNat;have hopen:=@Ps.obj_open s n a';have hsubl:=fun (M:Mem) (w:World)=>hsub b a' M w hhas;have hbd2:=@Ps.obj_bd s n a';obtain⟨e1,e2⟩:=hhas;rw[Ps.arr] at harr;generalize Ps.obj s n a'=e at *;generalize Lx.next s a'=x at *
 have hvc:=urow_one (ho.at_ 2 rfl);refine o_tok ho fun b6 w6 ho=>?_;refine tk_put 0 ho rfl fun w7 ho=>?_;have ho:OwnS S0 w w7 [tokE b6 x.1,obE b5 (.mk 6 0 0 [] [] acc) nilS vc,obE b4 ob0 nilS nilS,kidE vc acc.length cs,rmE b s x.1.t N1]:=ho;rw[tk_v ho 0 rfl];refine c_below ho (R:=fun v=>v=.bool (decide (x.1.k=6)&&decide (x.1.s=[93]))) (pword_ret x.1 6 [93] w7) ?_;rintro _ w8 rfl ho;cases e3:(decide (x.1.k=6)&&decide (x.1.s=[93])) with
|true=>
  simp only[Bool.and_eq_true,decide_eq_true_eq] at e3;rw[if_pos ⟨e1,e3.1,e3.2⟩] at harr;simp only[i_t,ob_v ho 1 rfl];refine ob_put 2 rfl hvc ho rfl fun w9 ho=>?_;refine ret_v1 (rv_cell (ho.agg 2 rfl aggOb)) ?_;have ho:OwnS S0 w w9 ([tokE b6 x.1,obE b5 (.mk 6 0 0 [] [] acc) nilS vc,obE b4 (.mk 6 0 0 [] [] acc) nilS vc,kidE vc acc.length cs]++([rmE b s x.1.t N1]++[])):=ho;have ho:=ho.front.split;have ho:OwnS S0 w w9 ([rdE b s x.1.t,.mem N1,tokE b6 x.1,obE b5 (.mk 6 0 0 [] [] acc) nilS vc,obE b4 (.mk 6 0 0 [] [] acc) nilS vc]++([kidE vc acc.length cs]++[])):=ho;obtain⟨N2,hle2,hrow,ho⟩:=OwnS.freezeU (L:=[rdE b s x.1.t,.mem N1,tokE b6 x.1,obE b5 (.mk 6 0 0 [] [] acc) nilS vc,obE b4 (.mk 6 0 0 [] [] acc) nilS vc]) ho.front 1 rfl;subst harr;exact hret rfl _ N2 w9 _ ho ((hle.trans hle1).trans hle2) (ObAt.ov (o:=.mk 6 0 0 [] [] acc) ⟨SlA.nil _ _ _ _,hrow,(hall.le hle1).le hle2⟩)
|false=>
 have e3':¬(x.2=0∧x.1.k=6∧x.1.s=[93]):=fun h=>by
  rw[decide_eq_true h.2.1,decide_eq_true h.2.2] at e3;exact absurd e3 (by decide)
 rw[if_neg e3'] at harr;simp only[i_f];refine join fun J hJ=>?_
 -- the element
 have one:∀{W:World},OwnS S0 w W [tokE b6 x.1,obE b5 (.mk 6 0 0 [] [] acc) nilS vc,obE b4 ob0 nilS nilS,kidE vc acc.length cs,rmE b s x.1.t N1]→¬(acc.length=8191∧Ps.begins x.1=true∧n≠0)→J [] W:=by
  intro W ho h6;have h6':¬(x.2=0∧acc.length=8191∧Ps.begins x.1=true∧decide (n≠0)=true):=fun h=>h6 ⟨h.2.1,h.2.2.1,of_decide_eq_true h.2.2.2⟩;rw[if_neg h6',if_neg (by rw[e1];simp)] at harr;refine hJ _ _ fun _=>?_;unfold S_parse_reader_array_1;have ho:=ho.drew;refine⟨fun W=>(obE b5 (.mk 6 0 0 [] [] acc) nilS vc).is W∧(tokE b6 x.1).is W,⟨ho.at_ 1 rfl,ho.at_ 0 rfl⟩,?_⟩;refine hd_pure _ (fun _=>run_fa fo_o5) ?_;refine hd_do vc (fun W h=>run_load_cell nSlOb (cells_cell (T:=42) (cs:=obC (.mk 6 0 0 [] [] acc) nilS vc) (i:=5) h.1 rfl)) ?_;refine hd_do (tokV x.1) (fun W h=>run_load_at (AtV.agg aggTok (cs:=tokC x.1) rfl fun j u hj=>by rw[Nat.zero_add];exact cells_cell (T:=53) h.2 hj)) ?_;refine c_rm ho 4 rfl (hsubl N1 _ (ho.at_ 4 rfl)) ?_ fun e2 w9 hz ho=>?_
  rotate_left
  ·rw[if_pos hz] at harr;exact fun _ _ _ _ _ _=>fall (L:=[_,_,_,_]) _ ho (hle.trans hle1) harr.symm hz
  rintro u N2 w9 hz hle2 hu ho;have ho:OwnS S0 w w9 [tokE b6 x.1,obE b5 (.mk 6 0 0 [] [] acc) nilS vc,obE b4 ob0 nilS nilS,kidE vc acc.length cs,rmE b s e.2.1 N2]:=ho;obtain⟨xk,xc,xcs,rfl,hx⟩:=hu.open;refine⟨⟨ho.at_ 1 rfl,ho.at_ 0 rfl⟩,?_⟩;refine o_obs1 e.1 hx.keys.one hx.kids.one ho fun nb w10 ho=>⟨⟨ho.at_ 2 rfl,ho.at_ 1 rfl⟩,?_⟩;refine o_apO 4 ho rfl (ho.sl 0 rfl 6 1 1 rfl) (obC_one _ hx.keys.one hx.kids.one) (by omega) fun vc' w11 ho=>⟨⟨ho.at_ 2 rfl,ho.at_ 1 rfl⟩,?_⟩;have ho:=ho.tail.tail;have ho:OwnS S0 w w11 [obE b5 (.mk 6 0 0 [] [] acc) nilS vc,obE b4 ob0 nilS nilS,kidE vc' (acc.length+1) (cs++obC e.1 xk xc),rmE b s e.2.1 N2]:=ho;have hvc':=urow_one (ho.at_ 2 rfl);refine hd_pure _ (fun _=>run_fa fo_o5) ?_;refine o_store 0 ho rfl (by kernel_rfl) hvc' (show 0+5 < 6 by omega) fun w12 ho=>?_;have hbd3:=hbd2 hz;rw[if_neg (by rw[hz];simp)] at harr;obtain⟨o1,o2,o3,m',hm',_⟩:=hopen hz;have hmx':acc.length≠8191:=fun h=>h6 ⟨h,o3,by omega⟩;have el:(acc++[e.1]).length=acc.length+1:=by simp
  refine nextX ⟨e.2.1,m,acc++[e.1],cs++obC e.1 xk xc,vc',N2,rfl,by omega,hbd3.2,by simp;omega,by simp;omega,by simp;omega,harr,(hle.trans hle1).trans hle2,ovs_app ((hall.le hle1).le hle2) (ovs_1 hx.ov),?_⟩ ?_
  ·rw[el];exact ho
  ·have hat2:rdAt b w12=e.2.1.toNat:=rdAt_is (ho.at_ 3 rfl).1;show s.length - rdAt b w12 < s.length - rdAt b w4;rw[hat,hat2];exact meas ha0 hbd3.1 hbd3.2
 rw[tk_v ho 0 rfl];refine c_below ho (R:=fun v=>v=.bool (Ps.begins x.1)) (pfirst_ret x.1 w8 e2) ?_;rintro _ w9 rfl ho;cases e4:Ps.begins x.1 with
|false=>
  simp only[rs,g_un];exact one ho fun h=>by rw[e4] at h;exact absurd h.2.1 (by decide)
|true=>
  simp only[rs];by_cases e5:n=0
  ·have:¬(24:Int) - n < 24:=by omega
   simp only[decide_eq_false this,rs,g_un];exact one ho fun h=>h.2.2 e5
  ·have:(24:Int) - n < 24:=by omega
   simp only[decide_eq_true this,rs,fa_o5,ob_kids ho 1 rfl,sl_len Tryz.underlying40 (ho.slU 3 rfl)];by_cases e6:(8191:Int)≤(acc.length:Int)
   ·simp only[decide_eq_true e6,i_t];rw[if_pos ⟨e1,by omega,e4,decide_eq_true e5⟩] at harr;exact throw (fall (L:=[_,_,_,_]) 6 ho (hle.trans hle1) harr.symm (by decide))
   ·simp only[decide_eq_false e6,i_f];exact one ho fun h=>e6 (by omega)
end
section
open Eng Go.RowKit
def sortS (ks:List (List UInt8)):List (List UInt8):=ks.mergeSort fun x y=>decide (x≤y)
theorem sortS_len (ks:List (List UInt8)):(sortS ks).length=ks.length:=List.length_mergeSort _
theorem sortS_perm (ks:List (List UInt8)):(sortS ks).Perm ks:=List.mergeSort_perm _ _
theorem sortS_rise {ks l:List (List UInt8)}(hp:ks.Perm l)(hr:Vl.Rise l):sortS ks=l:=by
 have tr:∀a b c:List UInt8,decide (a≤b)=true→decide (b≤c)=true→decide (a≤c)=true:=fun a b c h1 h2=>by simp only[decide_eq_true_eq] at *;exact List.le_trans h1 h2
 have tt:∀a b:List UInt8,(decide (a≤b)||decide (b≤a))=true:=fun a b=>by simp only[Bool.or_eq_true,decide_eq_true_eq];exact List.le_total a b
 refine List.Perm.eq_of_pairwise (le:=fun a b=>decide (a≤b)=true) (fun a b _ _ h1 h2=>?_) (List.pairwise_mergeSort tr tt ks) (hr.imp fun {a b} h=>?_) ((sortS_perm ks).trans hp)
 ·simp only[decide_eq_true_eq] at h1 h2;exact List.le_antisymm h1 h2
 ·have:=(Vl.less_lt a b).1 h;simp only[decide_eq_true_eq];exact List.le_of_lt this
theorem ssort_ret (v:Value)(ks:List (List UInt8))(w:World)(h:(keyE v ks).is w)(hb:ks.length≤1000000000) :
  Ret prog 148 #[v] w (fun r w'=>r=.tuple #[]∧Turn (keyE v ks) (keyE v (sortS ks)) w w'):=by
 obtain⟨h1,h2⟩:=(show w.ownsRow 0 9 1 v ks.length (strsV ks) from h);rcases h2 with ⟨rfl,h0⟩|⟨g,cap,cur,rfl,hb0,hg,hnc,hcm,hcs,htake⟩
 ·have hk:ks=[]:=List.eq_nil_of_length_eq_zero h0;subst hk;refine Calls.mono (Tryz.slices_Sort_string_none none 0 w) ?_;rintro e w' ⟨rfl,rfl⟩;exact⟨_,rfl,rfl,by simpa[sortS] using Turn.refl h⟩
 ·rw[Nat.mul_one] at hcs htake;have hsz:ks.length≤cur.size:=by rw[hcs];exact hnc
  have hget:∀j,(hj:j < ks.length)→cur[j]?=some (Value.string ⟨ks[j].toArray⟩):=by
   intro j hj;have h3:(strsV ks)[j]?=some (.string ⟨ks[j].toArray⟩):=strsV_get hj;rw[←htake,List.getElem?_take,if_pos hj,Array.getElem?_toList] at h3;exact h3
  have hH:Go.Sort.Holds encStr w g 0 ks.toArray:=by
   intro j hj;have hj':j < ks.length:=by simpa using hj
   constructor
   ·unfold World.cell?;simp only[hg,Nat.zero_add];rw[hget j hj',getElem!_pos ks.toArray j hj];rfl
   ·unfold World.frozen?;simp only[hg,Nat.zero_add];simp
  refine Calls.mono (Tryz.slices_Sort_string g 0 cap ks w hH (lt_of_get hg) (by omega)) ?_;rintro e w' ⟨rfl,n,os,rfl⟩;refine⟨_,rfl,rfl,?_⟩;have hlen:=sortS_len ks;have hheap:∀k,k < w.heap.size→(Go.Sort.grow (Go.Sort.putRow encStr (Go.Sort.ahead w n) g 0 (sortS ks).toArray) os).heap[k]?=(if g=k then (w.heap[k]?).map (Go.Sort.onCells (Go.Sort.putCells encStr 0 (sortS ks).toArray)) else w.heap[k]?):=by
   intro k hk;show ((w.heap.modify g _)++os)[k]?=_;rw[Array.getElem?_append_left (by simpa using hk),Array.getElem?_modify]
  refine⟨⟨rfl,rfl,rfl,?_,fun k hk hn=>?_⟩,?_,fun k hk=>.inl hk⟩
  ·show w.heap.size≤((w.heap.modify g _)++os).size;simp
  ·have hne:g≠k:=fun e=>hn (by subst e;rfl);exact (hheap k hk).trans (if_neg hne)
  ·show (World.ownsRow _ 0 9 1 _ (sortS ks).length (strsV (sortS ks)));refine⟨by simp[strsV],.inr ⟨g,cap,Go.Sort.putCells encStr 0 (sortS ks).toArray cur,by rw[hlen],hb0,?_,by rw[hlen];exact hnc,hcm,?_,?_⟩⟩
   ·have:=hheap g (lt_of_get hg);rw[if_pos rfl,hg] at this;exact this
   ·simp[Go.Sort.putCells,hcs]
   ·rw[Nat.mul_one];apply List.ext_getElem?;intro j;rw[List.getElem?_take];by_cases hj:j < (sortS ks).length
    ·have hjc:j < cur.size:=by omega
     rw[if_pos hj,strsV_get hj,Array.getElem?_toList];unfold Go.Sort.putCells;rw[Array.getElem?_mapIdx,Array.getElem?_eq_getElem hjc,Option.map_some,if_pos ⟨by omega,by simpa using hj⟩,Nat.sub_zero,getElem!_pos (sortS ks).toArray j (by simpa using hj)];rfl
    ·rw[if_neg hj,List.getElem?_eq_none (by rw[strsV_length];omega)]
end
section
open Go
namespace Ps
abbrev Kv:=List UInt8×Ob
def live (l:List Kv):List (List UInt8):=(l.filter fun p=>decide (p.2.k≠0)).map (·.1)
structure Made (o:Ob) (l:List Kv):Prop where
 k:o.k=7
 n:o.n=0
 g:o.g=0
 s:o.s=[]
 rise:Vl.Rise o.keys
 len:o.keys.length=o.kids.length
 perm:(live l).Perm o.keys
 mem:∀q∈o.keys.zip o.kids,q∈l
theorem made0:Made dict0 []:=⟨rfl,rfl,rfl,rfl,List.Pairwise.nil,rfl,List.Perm.nil,fun q hq=>by simp[dict0,Ob.keys] at hq⟩
theorem live_snoc (l:List Kv)(p:Kv):live (l++[p])=live l++(if p.2.k≠0 then [p.1] else []):=by
 unfold live;rw[List.filter_append,List.map_append]
 congr 1
 by_cases h:p.2.k=0<;>simp[h]
theorem live_sub {l:List Kv}:∀k∈live l,k∈l.map (·.1):=by
 intro k hk;obtain⟨p,hp,rfl⟩:=List.mem_map.1 hk;exact List.mem_map.2 ⟨p,(List.mem_filter.1 hp).1,rfl⟩
theorem made_join {o v:Ob}{l:List Kv}{key:List UInt8}(h:Made o l)(hn:key ∉ l.map (·.1)):Made (join o key v) (l++[(key,v)]):=by
 unfold join;by_cases hv:v.k=0
 ·rw[if_neg (by rw[hv];simp)];refine⟨h.k,h.n,h.g,h.s,h.rise,h.len,?_,fun q hq=>List.mem_append_left _ (h.mem q hq)⟩;rw[live_snoc,if_neg (by rw[hv];simp),List.append_nil];exact h.perm
 ·rw[if_pos hv];have hko:key ∉ o.keys:=fun hk=>hn (live_sub _ (h.perm.symm.subset hk));have hhit:Vl.hit o.keys key=false:=by
   unfold Vl.hit;rw[decide_eq_false_iff_not];exact fun hk=>hko (List.mem_of_getElem? hk)
  have hput:Vl.put o key v=.mk o.k o.n o.g o.s (o.keys.take (Vl.place o.keys key)++key::o.keys.drop (Vl.place o.keys key)) (o.kids.take (Vl.place o.keys key)++v::o.kids.drop (Vl.place o.keys key)):=by
   unfold Vl.put;rw[hhit];rfl
  obtain⟨r1,r2⟩:=Vl.rise_put (v:=v) h.rise h.len (key:=key);refine⟨h.k,h.n,h.g,h.s,r1,r2,?_,?_⟩
  ·rw[live_snoc,if_pos hv,hput];refine (List.perm_append_singleton key (live l)).trans ?_;refine (List.Perm.cons key h.perm).trans ?_;have:=(List.perm_middle (a:=key) (l₁:=o.keys.take (Vl.place o.keys key)) (l₂:=o.keys.drop (Vl.place o.keys key))).symm
   rwa [List.take_append_drop] at this
  ·intro q hq;rw[hput] at hq;have hz:(o.keys.take (Vl.place o.keys key)++key::o.keys.drop (Vl.place o.keys key)).zip (o.kids.take (Vl.place o.keys key)++v::o.kids.drop (Vl.place o.keys key)) =
     (o.keys.take (Vl.place o.keys key)).zip (o.kids.take (Vl.place o.keys key))++(key,v)::(o.keys.drop (Vl.place o.keys key)).zip (o.kids.drop (Vl.place o.keys key)):=by
    rw[List.zip_append (by simp[h.len])];rfl
   have hq:q∈(o.keys.take (Vl.place o.keys key)++key::o.keys.drop (Vl.place o.keys key)).zip (o.kids.take (Vl.place o.keys key)++v::o.kids.drop (Vl.place o.keys key)):=hq;rw[hz] at hq;have hold:o.keys.zip o.kids=(o.keys.take (Vl.place o.keys key)).zip (o.kids.take (Vl.place o.keys key))++(o.keys.drop (Vl.place o.keys key)).zip (o.kids.drop (Vl.place o.keys key)):=by
    rw[←List.zip_append (by simp[h.len]),List.take_append_drop,List.take_append_drop]
   rcases List.mem_append.1 hq with hq|hq
   ·exact List.mem_append_left _ (h.mem q (by rw[hold];exact List.mem_append_left _ hq))
   ·rcases List.mem_cons.1 hq with hq|hq
    ·subst hq;simp
    ·exact List.mem_append_left _ (h.mem q (by rw[hold];exact List.mem_append_right _ hq))
theorem made_at {o:Ob}{l:List Kv}(h:Made o l){i:Nat}(hi:i < o.keys.length):(o.keys[i],o.kids[i]'(by have:=h.len;omega))∈l:=by
 refine h.mem _ ?_;have:(o.keys.zip o.kids)[i]'(by simp[h.len] at *;omega)=(o.keys[i],o.kids[i]'(by have:=h.len;omega)):=List.getElem_zip;rw[←this];exact List.getElem_mem _
end Ps
end
section
namespace Eng
open Go.RowKit
structure MapF (al:List (List UInt8×Value)) (es:Array MapEntry) (clock:Nat):Prop where
 al:es.toList.map (fun e=>(e.key,e.val))=al.map fun p=>(strK p.1,p.2)
 nodup:(es.toList.map (·.born)).Nodup
 old:∀e∈es.toList,e.born < clock
def Ent.mapB (b:Nat)(al:List (List UInt8×Value)):Ent:=⟨fun k=>k=b,fun w=>∃es clock,w.heap[b]?=some (.map es clock)∧MapF al es clock,fun {w w'} h k=>by
  obtain⟨es,clock,h1,h2⟩:=h;exact⟨es,clock,(k b rfl).trans h1,h2⟩,fun h k hk=>by
  obtain⟨es,clock,h1,h2⟩:=h;cases hk;exact lt_of_get h1⟩
theorem mapB_is {w:World}{b:Nat}{al:List (List UInt8×Value)}(h:(Ent.mapB b al).is w):MapIs w b al:=by
 obtain⟨es,clock,h1,h2⟩:=h;exact⟨es,clock,h1,h2.al⟩
def SeenM (es:Array MapEntry)(seen:Array Nat)(done:List (List UInt8×Value)):Prop:=
 ∃ds:List MapEntry,seen.toList=ds.map (·.born)∧(∀e∈ds,e∈es.toList)∧(ds.map (·.born)).Nodup∧ds.map (fun e=>(e.key,e.val))=done.map fun p=>(strK p.1,p.2)
theorem born_inj:∀{l:List MapEntry},(l.map (·.born)).Nodup→∀{x y:MapEntry},x∈l→y∈l→x.born=y.born→x=y
|[],_,_,_,hx,_,_=>by cases hx
|a::l,hn,x,y,hx,hy,h=>by
  rw[List.map_cons,List.nodup_cons] at hn;rcases List.mem_cons.1 hx with ex|hx
  ·rcases List.mem_cons.1 hy with ey|hy
   ·rw[ex,ey]
   ·exact absurd (List.mem_map.2 ⟨y,hy,by rw[←h,ex]⟩) hn.1
  ·rcases List.mem_cons.1 hy with ey|hy
   ·exact absurd (List.mem_map.2 ⟨x,hx,by rw[h,ey]⟩) hn.1
   ·exact born_inj hn.2 hx hy h
theorem nodup_of_born:∀{l:List MapEntry},(l.map (·.born)).Nodup→l.Nodup
|[],_=>List.nodup_nil
|a::l,h=>by
  rw[List.map_cons,List.nodup_cons] at h;exact List.nodup_cons.2 ⟨fun hm=>h.1 (List.mem_map.2 ⟨a,hm,rfl⟩),nodup_of_born h.2⟩
theorem nodup_le {α:Type}:∀(a b:List α),a.Nodup→(∀x∈a,x∈b)→a.length≤b.length
|[],_,_,_=>by simp
|x::a,b,hn,hs=>by
  obtain⟨u,v,rfl⟩:=List.append_of_mem (hs x List.mem_cons_self);obtain⟨h1,h2⟩:=List.nodup_cons.1 hn;have:=nodup_le a (u++v) h2 fun y hy=>by
   have hy':=hs y (List.mem_cons_of_mem _ hy);rw[List.mem_append,List.mem_cons] at hy';rw[List.mem_append];rcases hy' with h|h|h
   ·exact .inl h
   ·subst h;exact absurd hy h1
   ·exact .inr h
  simp only[List.length_append,List.length_cons] at this ⊢;omega
theorem perm_kv {a b:List (List UInt8×Value)}(h:(a.map fun p=>(strK p.1,p.2)).Perm (b.map fun p=>(strK p.1,p.2))):a.Perm b:=by
 -- a list that goes back
 let back:Value×Value→List UInt8×Value:=fun q=>(match q.1 with|.string s=>s.data.toList|_=>[],q.2)
 have hb:∀l:List (List UInt8×Value),(l.map fun p=>(strK p.1,p.2)).map back=l:=by
  intro l;rw[List.map_map]
  conv=>rhs;rw[←List.map_id l]
  refine List.map_congr_left fun p _=>?_;rfl
 have:=h.map back
 rwa [hb,hb] at this
section
variable {S:Nat→Prop}{P:Program}{w w0:World}{L:List Ent}{PK:PKT}{K:VWP}
theorem o_mapNewB {T:TypeId}(ho:OwnS S w0 w L)(k:∀b w',OwnS S w0 w' (.mapB b []::L)→K (.map (some b)) w'):DoX P (mMap T none) w PK K:=by
 have hr:(Instr.makeMap T none).run P w=.ok (.map (some w.heap.size)) (w.alloc (.map #[] 0)):=rfl;exact do_ok (mv_run hr) (k _ _ (ho.add (World.grownBy_alloc w _ none) (.mapB w.heap.size []) ⟨#[],0,heap_alloc_new w _,rfl,List.nodup_nil,fun e he=>by simp at he⟩ (fun k hk=>by cases hk;exact Nat.le_refl _)))
theorem o_mapAddB (i:Nat){T k e:TypeId}{b:Nat}{al:List (List UInt8×Value)}(ht:P.underlying T=some (.map k e))(hk:P.underlying k=some .string)(ho:OwnS S w0 w L)(hi:L[i]?=some (.mapB b al))(x:List UInt8)(v:Value)(hn:lookA al x=none)
  (kk:∀w',OwnS S w0 w' (L.set i (.mapB b (al++[(x,v)])))→K undef w'):DoX P (mMapU T (.map (some b)) (strK x) v) w PK K:=by
 obtain⟨es,clock,h1,h2⟩:=(show ∃es clock,w.heap[b]?=some (.map es clock)∧MapF al es clock from ho.at_ i hi);obtain⟨r,r1,r2⟩:=run_findStr (P:=P) (w:=w) hk x h2.al;have hr0:r=none:=by
  cases r with
 |none=>rfl
 |some p=>rw[hn] at r2;cases r2
 subst hr0;have hr:(Instr.mapUpdate T (.map (some b)) (strK x) v).run P w=.ok () { w with heap:=w.heap.setIfInBounds b (.map (es.push { key:=strK x,val:=v,born:=clock }) (clock+1)) }:=by
  simp[Instr.mapUpdate,run_underlying ht,getObj,setObj,Sem.run,h1,run_checkStr hk x,r1]
 refine do_skip (mu_run hr) (kk _ ?_);refine ho.put i hi (w':={ w with heap:=w.heap.setIfInBounds b _ }) ⟨rfl,rfl,rfl,by simp,fun k _ hk=>?_⟩ (.mapB b (al++[(x,v)])) ?_ (fun k hk=>.inl hk)
 ·show (w.heap.setIfInBounds b _)[k]?=_;exact Array.getElem?_setIfInBounds_ne (fun e=>hk (by simp[Ent.mapB,e]))
 ·refine⟨es.push { key:=strK x,val:=v,born:=clock },clock+1,?_,?_,?_,?_⟩
  ·show (w.heap.setIfInBounds b _)[b]?=_;exact Array.getElem?_setIfInBounds_self_of_lt (lt_of_get h1)
  ·simp[h2.al]
  ·rw[Array.toList_push,List.map_append,List.nodup_append];refine⟨h2.nodup,by simp,fun a ha c hc=>?_⟩;obtain⟨e,he,rfl⟩:=List.mem_map.1 ha;have:=h2.old e he;simp at hc;omega
  ·intro e he;rw[Array.toList_push] at he;rcases List.mem_append.1 he with he|he
   ·have:=h2.old e he;omega
   ·rw[List.mem_singleton] at he;subst he;exact Nat.lt_succ_self _
theorem OwnS.openM {b:Nat}{al:List (List UInt8×Value)}(ho:OwnS S w0 w L)(i:Nat)(hi:L[i]?=some (.mapB b al)):∃es clock,MapF al es clock∧OwnS S w0 w (L.set i (.obj b (.map es clock))):=by
 obtain⟨es,clock,h1,h2⟩:=(show ∃es clock,w.heap[b]?=some (.map es clock)∧MapF al es clock from ho.at_ i hi);exact⟨es,clock,h2,ho.turn i hi ⟨Grew.refl _ _,h1,fun _ hk=>.inl hk⟩⟩
theorem OwnS.shutM {b:Nat}{al:List (List UInt8×Value)}{es:Array MapEntry}{clock:Nat}(ho:OwnS S w0 w L)(i:Nat)(hi:L[i]?=some (.obj b (.map es clock)))(hf:MapF al es clock):OwnS S w0 w (L.set i (.mapB b al)):=
 ho.turn i hi ⟨Grew.refl _ _,⟨es,clock,ho.at_ i hi,hf⟩,fun _ hk=>.inl hk⟩
theorem o_rangeM (i:Nat){T k e:TypeId}{m clock:Nat}{es:Array MapEntry}(ht:P.underlying T=some (.map k e))(ho:OwnS S w0 w L)(hi:L[i]?=some (.obj m (.map es clock)))
  (kk:∀b w',OwnS S w0 w' (.obj b (.mapIter (some m) clock #[] clock)::L)→K (.pointer (some ⟨b,0,none⟩)) w'):DoX P (mRange T (.map (some m))) w PK K:=by
 have h1:w.heap[m]?=some (.map es clock):=ho.at_ i hi;have hr:=run_range_map (P:=P) w T k e m es clock ht h1;exact do_ok (mv_run hr) (kk _ _ (ho.allocObj _))
theorem seen_nil (es:Array MapEntry):SeenM es #[] []:=⟨[],rfl,(fun e he=>by cases he),List.nodup_nil,rfl⟩
theorem o_nextM (i j:Nat){b m clock:Nat}{es:Array MapEntry}{seen:Array Nat}{al done:List (List UInt8×Value)}{ty:TypeId}(ho:OwnS S w0 w L)(hi:L[i]?=some (.obj b (.mapIter (some m) clock seen clock)))(hj:L[j]?=some (.obj m (.map es clock)))
  (hf:MapF al es clock) (hs:SeenM es seen done) (kend:done.Perm al→K (.tuple #[.bool false]) w)
  (knext:∀(p:List UInt8×Value) (e:MapEntry) (w':World),p∈al→p ∉ done∨True→e∈es.toList→e.key=strK p.1→e.val=p.2→SeenM es (seen.push e.born) (done++[p])→done.length < al.length →
   OwnS S w0 w' (L.set i (.obj b (.mapIter (some m) clock (seen.push e.born) clock)))→K (.tuple #[.bool true,strK p.1,p.2]) w') :
  DoX P (mNext (.pointer (some ⟨b,0,none⟩)) false ty) w PK K:=by
 have h1:w.heap[b]?=some (.mapIter (some m) clock seen clock):=ho.at_ i hi;have h2:w.heap[m]?=some (.map es clock):=ho.at_ j hj;obtain⟨ds,d1,d2,d3,d4⟩:=hs;have hds:ds.length=done.length:=by simpa using congrArg List.length d4
 have hel:es.toList.length=al.length:=by simpa using congrArg List.length hf.al
 rcases Go.run_next_at (P:=P) w ty b m clock clock seen es clock h1 h2 hf.old (Nat.le_refl _) with ⟨hl,hr⟩|⟨e,he,w1,hw1,hr⟩
 ·refine do_ok (mv_run hr) (kend ?_)
  -- all have come
  have hall:∀x∈es.toList,x∈ds:=by
   intro x hx;have hc:seen.contains x.born=true:=by
    cases hcc:seen.contains x.born with
   |true=>rfl
   |false=>
     exfalso;have hm:x∈(leftOf es seen).toList:=by
      unfold leftOf;rw[Array.toList_filter,List.mem_filter];exact⟨hx,by simp only[hcc];rfl⟩
     have:0 < (leftOf es seen).size:=by
      rw[←Array.length_toList];exact List.length_pos_of_mem hm
     omega
   have hm:x.born∈seen.toList:=by simpa using hc
   rw[d1] at hm;obtain⟨y,hy,hyb⟩:=List.mem_map.1 hm;rw[←born_inj hf.nodup (d2 y hy) hx hyb];exact hy
  have hp:ds.Perm es.toList:=(List.perm_ext_iff_of_nodup (nodup_of_born d3) (nodup_of_born hf.nodup)).2 fun x=>⟨d2 x,hall x⟩;have:=hp.map fun e=>(e.key,e.val);rw[d4,hf.al] at this;exact perm_kv this
 ·-- one comes
  have hem:e∈es.toList∧seen.contains e.born=false:=by
   unfold leftOf at he;rw[Array.toList_filter,List.mem_filter] at he;exact⟨he.1,by simpa using he.2⟩
  have hk:(e.key,e.val)∈es.toList.map (fun e=>(e.key,e.val)):=List.mem_map.2 ⟨e,hem.1,rfl⟩;rw[hf.al] at hk;obtain⟨p,hp,hpe⟩:=List.mem_map.1 hk;simp only[Prod.mk.injEq] at hpe;have hnb:e.born ∉ ds.map (·.born):=by
   rw[←d1];intro hm;have:seen.contains e.born=true:=by simpa using hm
   rw[hem.2] at this;cases this
  have hs':SeenM es (seen.push e.born) (done++[p]):=by
   refine⟨ds++[e],by simp[d1],?_,?_,?_⟩
   ·intro x hx;rcases List.mem_append.1 hx with hx|hx
    ·exact d2 x hx
    ·rw[List.mem_singleton] at hx;subst hx;exact hem.1
   ·rw[List.map_append,List.nodup_append];refine⟨d3,by simp,fun a ha c hc=>?_⟩;simp at hc;subst hc;intro e2;exact hnb (by rw[←e2];exact ha)
   ·simp[d4,hpe.1,hpe.2]
  have hlt:done.length < al.length:=by
   rw[←hds,←hel];exact nodup_le (e::ds) es.toList (List.nodup_cons.2 ⟨fun hm=>hnb (List.mem_map.2 ⟨e,hm,rfl⟩),nodup_of_born d3⟩) (fun x hx=>by
    rcases List.mem_cons.1 hx with rfl|hx
    ·exact hem.1
    ·exact d2 x hx)
  have how:OwnS S w0 w1 L:=by
   rcases hw1 with rfl|rfl
   ·exact ho
   ·exact ho.drew
  have hkk:=put_iter (o':=.mapIter (some m) clock (seen.push e.born) clock) how i hi;rw[←hpe.1,←hpe.2] at hr;exact do_ok (mv_run hr) (knext p e _ hp (.inr trivial) hem.1 hpe.1.symm hpe.2.symm hs' hlt hkk)
theorem e_entry (i j:Nat){b m clock:Nat}{es:Array MapEntry}{seen:Array Nat}{e:MapEntry}{al:List (List UInt8×Value)}(ho:OwnS S w0 w L)(hi:L[i]?=some (.obj b (.mapIter (some m) clock (seen.push e.born) clock)))(hj:L[j]?=some (.obj m (.map es clock)))
  (hf:MapF al es clock) (he:e∈es.toList):DoX P (mEntry (.pointer (some ⟨b,0,none⟩))) w PK K=K (.tuple #[e.key,e.val]) w:=
 do_eq (mv_run (run_entry_at (P:=P) w b m clock seen es clock e (ho.at_ i hi) (ho.at_ j hj) he hf.nodup))
end
end Eng
end
section
open Eng Go.RowKit
def KvR (A:Nat→Prop)(w:World):List (List UInt8×Value)→List Ps.Kv→Prop
|[],[]=>True
|p::al,q::l=>p.1=q.1∧OV A w p.2 q.2∧KvR A w al l
|_,_=>False
theorem KvR.le {M N:Mem}(h:M.le N):∀{al:List (List UInt8×Value)} {l:List Ps.Kv},KvR M.A M.w al l→KvR N.A N.w al l
|[],[],_=>trivial
|_::_,_::_,⟨h1,h2,h3⟩=>⟨h1,h2.le h,KvR.le h h3⟩
|[],_::_,h=>h.elim
|_::_,[],h=>h.elim
section
variable {A:Nat→Prop}{w:World}
theorem KvR.fst:∀{al:List (List UInt8×Value)} {l:List Ps.Kv},KvR A w al l→al.map (·.1)=l.map (·.1)
|[],[],_=>rfl
|_::_,_::_,⟨h1,_,h3⟩=>by rw[List.map_cons,List.map_cons,h1,KvR.fst h3]
|[],_::_,h=>h.elim
|_::_,[],h=>h.elim
theorem KvR.snoc {k:List UInt8}{v:Value}{o:Ob}(hv:OV A w v o):∀{al:List (List UInt8×Value)} {l:List Ps.Kv},KvR A w al l→KvR A w (al++[(k,v)]) (l++[(k,o)])
|[],[],_=>⟨rfl,hv,trivial⟩
|_::_,_::_,⟨h1,h2,h3⟩=>⟨h1,h2,KvR.snoc hv h3⟩
|[],_::_,h=>h.elim
|_::_,[],h=>h.elim
theorem KvR.mem:∀{al:List (List UInt8×Value)} {l:List Ps.Kv},KvR A w al l→∀{p:List UInt8×Value},p∈al→∃o,(p.1,o)∈l∧OV A w p.2 o
|[],_,_,p,hp=>by cases hp
|a::_,b::_,⟨h1,h2,h3⟩,p,hp=>by
  rcases List.mem_cons.1 hp with rfl|hp
  ·exact⟨b.2,by rw[h1];exact List.mem_cons_self,h2⟩
  ·obtain⟨o,ho,hv⟩:=KvR.mem h3 hp;exact⟨o,List.mem_cons_of_mem _ ho,hv⟩
|_::_,[],h,_,_=>h.elim
theorem KvR.look {k:List UInt8}{o:Ob}:∀{al:List (List UInt8×Value)} {l:List Ps.Kv},KvR A w al l→(l.map (·.1)).Nodup→(k,o)∈l→∃v,lookA al k=some v∧OV A w v o
|[],[],_,_,hm=>by cases hm
|p::al,q::l,⟨h1,h2,h3⟩,hn,hm=>by
  rw[List.map_cons,List.nodup_cons] at hn;by_cases hk:p.1=k
  ·have hq:(k,o)=q:=by
    rcases List.mem_cons.1 hm with h|h
    ·exact h
    ·exact absurd (List.mem_map.2 ⟨(k,o),h,by rw[←h1,hk]⟩) hn.1
   refine⟨p.2,by unfold lookA;rw[List.find?_cons_of_pos (by simpa using hk)];rfl,?_⟩;rw[←hq] at h2;exact h2
  ·have hm':(k,o)∈l:=by
    rcases List.mem_cons.1 hm with h|h
    ·exact absurd (by rw[h1,←h]) hk
    ·exact h
   obtain⟨v,hv,ho⟩:=KvR.look h3 hn.2 hm';refine⟨v,?_,ho⟩;unfold lookA at hv ⊢;rw[List.find?_cons_of_neg (by simpa using hk)];exact hv
|[],_::_,h,_,_=>h.elim
|_::_,[],h,_,_=>h.elim
def kindV:Value→Int
|.agg cs=>match cs.toList with|.int _ k::_=>k|_=>0
|_=>0
theorem kindV_of {v:Value}{o:Ob}(h:OV A w v o):kindV v=o.k:=by
 obtain⟨vk,vc,cs,rfl,_⟩:=h.open;rfl
def liveV (al:List (List UInt8×Value)):List (List UInt8):=(al.filter fun p=>decide (kindV p.2≠0)).map (·.1)
theorem KvR.live:∀{al:List (List UInt8×Value)} {l:List Ps.Kv},KvR A w al l→liveV al=Ps.live l
|[],[],_=>rfl
|p::al,q::l,⟨h1,h2,h3⟩=>by
  have ih:=KvR.live h3;unfold liveV Ps.live at *;rw[List.filter_cons,List.filter_cons,kindV_of h2];split
  ·rw[List.map_cons,List.map_cons,ih,h1]
  ·exact ih
|[],_::_,h=>h.elim
|_::_,[],h=>h.elim
theorem liveV_snoc (al:List (List UInt8×Value))(p:List UInt8×Value):liveV (al++[p])=liveV al++(if kindV p.2≠0 then [p.1] else []):=by
 unfold liveV;rw[List.filter_append,List.map_append]
 congr 1
 by_cases h:kindV p.2=0<;>simp[h]
theorem liveV_perm {a b:List (List UInt8×Value)}(h:a.Perm b):(liveV a).Perm (liveV b):=(h.filter _).map _
theorem liveV_len (al:List (List UInt8×Value)):(liveV al).length≤al.length:=by
 unfold liveV;rw[List.length_map];exact List.length_filter_le _ _
end
section
variable {w:World}{PK:PKT}{K:VWP}{S:Nat→Prop}{w0:World}{L:List Ent}
theorem zOb:(Tryz.prog.info? 42).bind (·.zero)=some (obV ob0 nilS nilS):=by kernel_rfl
theorem lookT (i:Nat){b:Nat}{al:List (List UInt8×Value)}(ho:OwnS S w0 w L)(hi:L[i]?=some (.mapB b al))(x:List UInt8) :
  DoX prog (mLook 182 (.map (some b)) (.string ⟨x.toArray⟩) true) w PK K=K (.tuple #[(lookA al x).getD (obV ob0 nilS nilS),.bool (lookA al x).isSome]) w:=
 do_eq (run_look (ok:=true) Tryz.underlying182 Tryz.underlying9 zOb (mapB_is (ho.at_ i hi)) x)
theorem lookF (i:Nat){b:Nat}{al:List (List UInt8×Value)}(ho:OwnS S w0 w L)(hi:L[i]?=some (.mapB b al)){x:List UInt8}{v:Value}(hv:lookA al x=some v) :
  DoX prog (mLook 182 (.map (some b)) (.string ⟨x.toArray⟩) false) w PK K=K v w:=by
 have:=do_eq (PK:=PK) (K:=K) (run_look (ok:=false) Tryz.underlying182 Tryz.underlying9 zOb (mapB_is (ho.at_ i hi)) x);rw[hv] at this;exact this
theorem lenM (i:Nat){b:Nat}{al:List (List UInt8×Value)}{cs:Array Bool}(ho:OwnS S w0 w L)(hi:L[i]?=some (.mapB b al)) :
  DoX prog (mB .len #[182] 3 cs #[.map (some b)]) w PK K=K (.int .i64 (al.length:Int)) w:=by
 obtain⟨es,clock,h1,h2⟩:=(show ∃es clock,w.heap[b]?=some (.map es clock)∧MapF al es clock from ho.at_ i hi);have hl:es.size=al.length:=by
  have:=congrArg List.length h2.al;simpa using this
 refine do_eq ?_;simp[mB,builtin,Builtin.len_,run_underlying Tryz.underlying182,getObj,h1,goInt,hl,Sem.run]
end
def itAt (b:Nat)(w:World):Nat:=match w.heap[b]? with|some (.mapIter _ _ seen _)=>seen.size|_=>0
theorem itAt_is {b:Nat}{m clock:Nat}{seen:Array Nat}{w:World}(h:(Ent.obj b (.mapIter (some m) clock seen clock)).is w):itAt b w=seen.size:=by
 unfold itAt;rw[show w.heap[b]?=_ from h]
theorem seen_size {es:Array MapEntry}{seen:Array Nat}{done:List (List UInt8×Value)}(h:SeenM es seen done):seen.size=done.length:=by
 obtain⟨ds,d1,_,_,d4⟩:=h;rw[←Array.length_toList,d1,List.length_map];simpa using congrArg List.length d4
theorem pbuild {S0:Nat→Prop}{w W:World}{b b4 b5 b9:Nat}{s:List UInt8}{a:Int}{N:Mem}{al:List (List UInt8×Value)}{l:List Ps.Kv}{o:Ob}{K:Ending→World→Prop}
  (hkv:KvR N.A N.w al l) (hnd:(l.map (·.1)).Nodup) (hmade:Ps.Made o l) (hlen:l.length≤8191)
  (ho:OwnS S0 w W [obE b9 Ps.dict0 nilS nilS,keyE nilS [],kidE nilS 0 [],obE b4 ob0 nilS nilS,.mapB b5 al,rmE b s a N])
  (kend:∀(W':World) (N2:Mem) (L:List Ent) (v:Value),OwnS S0 w W' (rdE b s a::.mem N2::L)→N.le N2→OV N2.A N2.w v o→K (.returned v) W') :
  DoX prog (mRange 182 (.map (some b5))) W (pk K) fun t49 w=>LoopX [] w (fun vs2 w N2=>∀_:Sg,S_parse_reader_dict_1 (.pointer (some ⟨b4,0,none⟩)) (.map (some b5)) (.pointer (some ⟨b9,0,none⟩)) t49 w N2 K):=by
 have hall:al.length=l.length:=by simpa using congrArg List.length hkv.fst
 obtain⟨es,clock,hf,ho⟩:=ho.openM 4 rfl;refine o_rangeM 4 Tryz.underlying182 ho rfl fun it w1 ho=>?_;refine loop (fun vs w'=>∃(seen:Array Nat) (done:List (List UInt8×Value)) (vk:Value),vs=[]∧SeenM es seen done∧done.length≤al.length∧(∀p∈done,p∈al) ∧
   OwnS S0 w w' [.obj it (.mapIter (some b5) clock seen clock),obE b9 Ps.dict0 vk nilS,keyE vk (liveV done),kidE nilS 0 [],obE b4 ob0 nilS nilS,.obj b5 (.map es clock),rmE b s a N]) (fun _ w=>al.length - itAt it w)
  ⟨#[],[],nilS,rfl,seen_nil es,by simp,by simp,ho⟩ ?_
 clear ho;rintro vs w2 ⟨seen,done,vk,rfl,hs,hdl,hda,ho⟩ _;simp only[S_parse_reader_dict_1];have hit:itAt it w2=seen.size:=itAt_is (ho.at_ 0 rfl);have hss:=seen_size hs;refine o_nextM 0 5 ho rfl rfl hf hs (fun hperm=>?_) fun p e w3 hpa _ he hek hev hs' hlt ho=>?_
 ·-- all have come
  simp only[ex,i_f];have ho:=ho.tail;have ho:OwnS S0 w w2 [obE b9 Ps.dict0 vk nilS,keyE vk (liveV done),kidE nilS 0 [],obE b4 ob0 nilS nilS,.obj b5 (.map es clock),rmE b s a N]:=ho;have ho:=ho.shutM 4 rfl hf;have ho:OwnS S0 w w2 [obE b9 Ps.dict0 vk nilS,keyE vk (liveV done),kidE nilS 0 [],obE b4 ob0 nilS nilS,.mapB b5 al,rmE b s a N]:=ho;rw[fa_o4,ob_keys ho 0 rfl];have hll:=liveV_len done;refine c_ret (ssort_ret vk (liveV done) w2 (ho.at_ 1 rfl) (by omega)) ?_;rintro _ w3 ⟨rfl,ht⟩;have ho:=ho.turn 1 rfl ht;have hsort:sortS (liveV done)=o.keys:=sortS_rise ((liveV_perm hperm).trans (by rw[hkv.live];exact hmade.perm)) hmade.rise;rw[hsort] at ho;have ho:OwnS S0 w w3 [obE b9 Ps.dict0 vk nilS,keyE vk o.keys,kidE nilS 0 [],obE b4 ob0 nilS nilS,.mapB b5 al,rmE b s a N]:=ho;have hkl:o.keys.length≤8191:=by
   have h1:=hmade.perm.length_eq;have h2:=hkv.live (A:=N.A);have h3:=liveV_len al;rw[←h1,←h2];omega
  rw[fa_o4,ob_keys ho 0 rfl,sl_len Tryz.underlying39 (ho.slU 1 rfl)];refine loop (fun vs w'=>∃(i:Nat) (cs:List Value) (vc:Value),vs=[.int .i64 i]∧i≤o.keys.length∧OVs N.A N.w cs (o.kids.take i) ∧
   OwnS S0 w w' [obE b9 Ps.dict0 vk vc,keyE vk o.keys,kidE vc i cs,obE b4 ob0 nilS nilS,.mapB b5 al,rmE b s a N]) (fun vs _=>o.keys.length - n0 vs) ⟨0,[],nilS,rfl,by omega,OVs.nil,ho⟩ ?_
  clear ho;rintro vs w4 ⟨i,cs,vc,rfl,hi,hov,ho⟩ _;simp only[S_parse_reader_dict_2,gd,rs];by_cases hlt:(i:Int) < (o.keys.length:Int)
  ·have hi':i < o.keys.length:=by omega
   simp only[decide_eq_true hlt,i_t];obtain⟨g,cap,_,ia,ld⟩:=key_row 1 ho rfl hi';refine do_eq (ia w4) |>.mpr (do_eq (ld w4 (ho.at_ 1 rfl)) |>.mpr ?_);rw[fa_o5,ob_kids ho 0 rfl];obtain⟨v,hv,hvo⟩:=hkv.look hnd (Ps.made_at hmade hi');rw[lookF 4 ho rfl hv];obtain⟨xk,xc,xcs,rfl,hx⟩:=hvo.open;refine o_obs1 _ hx.keys.one hx.kids.one ho fun nb w5 ho=>?_;refine o_apO 3 ho rfl (ho.sl 0 rfl 6 1 1 rfl) (obC_one _ hx.keys.one hx.kids.one) (by omega) fun vc' w6 ho=>?_;have ho:=ho.tail;have hvc':=urow_one (ho.at_ 2 rfl);rw[fa_o5];refine o_store 0 ho rfl (by kernel_rfl) hvc' (show 0+5 < 6 by omega) fun w7 ho=>?_;rw[wrap64_id (by omega) (by omega)];refine nextX ⟨i+1,_,vc',rfl,by omega,?_,ho⟩ (by show o.keys.length - Int.toNat ((i:Int)+1) < o.keys.length - Int.toNat (i:Int);omega);have hkl2:i < o.kids.length:=by have:=hmade.len;omega
   rw[List.take_succ_eq_append_getElem hkl2];exact ovs_app hov (ovs_1 hx.ov)
  ·have hi':i=o.keys.length:=by omega
   simp only[decide_eq_false hlt,i_f];subst hi';rw[hmade.len,List.take_length] at hov;have hvk:=urow_one (ho.at_ 1 rfl);have hvc:=urow_one (ho.at_ 2 rfl);rw[ob_v ho 0 rfl];refine ob_put (o':=Ps.dict0) 3 hvk hvc ho rfl fun w5 ho=>?_;refine ret_v1 (rv_cell (ho.agg 3 rfl aggOb)) ?_;have ho:OwnS S0 w w5 ([obE b9 Ps.dict0 vk vc,keyE vk o.keys,kidE vc o.keys.length cs,obE b4 Ps.dict0 vk vc,.mapB b5 al]++([rmE b s a N]++[])):=ho;have ho:=ho.front.split;have ho:OwnS S0 w w5 ([rdE b s a,.mem N,obE b9 Ps.dict0 vk vc]++([keyE vk o.keys,kidE vc o.keys.length cs]++[obE b4 Ps.dict0 vk vc,.mapB b5 al])):=ho;have ho:=ho.front;obtain⟨N2,hle2,hrow2,ho⟩:=OwnS.freezeU (L:=[kidE vc o.keys.length cs,rdE b s a,.mem N,obE b9 Ps.dict0 vk vc,obE b4 Ps.dict0 vk vc,.mapB b5 al]) ho 2 rfl;obtain⟨N3,hle3,hrow3,ho⟩:=OwnS.freezeU (L:=[rdE b s a,.mem N2,obE b9 Ps.dict0 vk vc,obE b4 Ps.dict0 vk vc,.mapB b5 al]) ho 1 rfl;have hval:obV Ps.dict0 vk vc=obV o vk vc:=by
    unfold obV obC;rw[hmade.k,hmade.n,hmade.g,hmade.s];rfl
   refine kend w5 N3 _ _ ho (hle2.trans hle3) ?_;show OV N3.A N3.w (obV Ps.dict0 vk vc) o;rw[hval];rw[hmade.len] at hrow3;exact ObAt.ov ⟨hrow2.le hle3,hrow3,(hov.le hle2).le hle3⟩
 ·simp only[ex,i_t];have ho:OwnS S0 w w3 [.obj it (.mapIter (some b5) clock (seen.push e.born) clock),obE b9 Ps.dict0 vk nilS,keyE vk (liveV done),kidE nilS 0 [],obE b4 ob0 nilS nilS,.obj b5 (.map es clock),rmE b s a N]:=ho;rw[e_entry 0 5 ho rfl rfl hf he,hek,hev];simp only[ex];obtain⟨x,hxl,hxo⟩:=hkv.mem hpa;have hkind:=kindV_of hxo;obtain⟨xk,xc,xcs,hpe,hx⟩:=hxo.open;obtain⟨pk1,pv⟩:=p;simp only at hpe hkind;subst hpe;refine o_oba ho fun b11 w4 ho=>?_;refine ob_put (o':=x) 0 hx.keys.one hx.kids.one ho rfl fun w5 ho=>?_;have ho:OwnS S0 w w5 [obE b11 x xk xc,.obj it (.mapIter (some b5) clock (seen.push e.born) clock),obE b9 Ps.dict0 vk nilS,keyE vk (liveV done),kidE nilS 0 [],obE b4 ob0 nilS nilS,.obj b5 (.map es clock),rmE b s a N]:=ho;rw[fa_o0,ob_k ho 0 rfl];simp only[rs];have hsn:=liveV_snoc done (pk1,obV x xk xc);have mea:∀{W:World} {L:List Ent},OwnS S0 w W L→L[0]?=some (.obj it (.mapIter (some b5) clock (seen.push e.born) clock))→al.length - itAt it W < al.length - itAt it w2:=by
   intro W L ho hi;rw[hit,itAt_is (ho.at_ 0 hi),Array.size_push];omega
  have hda':∀q∈done++[(pk1,obV x xk xc)],q∈al:=by
   intro q hq;rcases List.mem_append.1 hq with hq|hq
   ·exact hda q hq
   ·rw[List.mem_singleton] at hq;subst hq;exact hpa
  by_cases hk:x.k=0
  ·simp only[hk,ne_eq,not_true,decide_false,i_f];rw[if_neg (by rw[hkind,hk];simp),List.append_nil] at hsn;refine nextX ⟨_,done++[(pk1,obV x xk xc)],vk,rfl,hs',by simp;omega,hda',?_⟩ (mea ho.tail rfl);rw[hsn];exact ho.tail
  ·simp only[hk,ne_eq,not_false_eq_true,decide_true,i_t];rw[if_pos (by rw[hkind];exact hk)] at hsn;rw[fa_o4,ob_keys ho 2 rfl];have hll:=liveV_len done;show DoX prog (mBuildS 39 1 #[(0,.string ⟨pk1.toArray⟩)]) w5 _ _;refine o_strb1 pk1 ho fun nb w6 ho=>?_;refine o_apS 4 ho rfl (ho.sl 0 rfl 1 1 1 rfl) (by simp[Value.oneCell']) (by omega) fun vk' w7 ho=>?_;have ho:=ho.tail.tail;have ho:OwnS S0 w w7 [.obj it (.mapIter (some b5) clock (seen.push e.born) clock),obE b9 Ps.dict0 vk nilS,keyE vk' (liveV done++[pk1]),kidE nilS 0 [],obE b4 ob0 nilS nilS,.obj b5 (.map es clock),rmE b s a N]:=by
    have e:strsV (liveV done++[pk1])=strsV (liveV done)++[.string ⟨pk1.toArray⟩]:=by rw[strsV_app];rfl
    rw[keyE,List.length_append,List.length_singleton,e];exact ho
   have hvk':=urow_one (ho.at_ 2 rfl);rw[fa_o4];refine o_store 1 ho rfl (by kernel_rfl) hvk' (show 0+4 < 6 by omega) fun w8 ho=>?_;refine nextX ⟨_,done++[(pk1,obV x xk xc)],vk',rfl,hs',by simp;omega,hda',?_⟩ (mea ho rfl);rw[hsn];exact ho
end
section
open Eng Go.RowKit
theorem dict_lacks {s:List UInt8}{sub:Int→Ps.R}{m:Nat}{a:Int}{o:Ob}{met:List (List UInt8)}(h:¬Has s a):Ps.dict s sub (m+1) a o met=Ps.bad (lacks s a):=by
 rw[Ps.dict];unfold Has at h;unfold lacks;by_cases e1:(Lx.next s a).2=0
 ·have e2:(Lx.next s a).1.k=0:=Classical.not_not.1 fun h2=>h ⟨e1,h2⟩;rw[if_neg (by rw[e1];simp),if_neg (fun h3=>by rw[e2] at h3;exact absurd h3.1 (by decide)),if_pos e2,if_neg (by rw[e1];simp)]
 ·rw[if_pos e1,if_pos e1]
theorem pdict_ret (s:List UInt8)(hs:s.length≤1000000000)(n:Nat)(hn:n≤23)(hsub:PObj s n):PDict s n:=by
 intro b a M w h0 h1 hr;generalize hR:Ps.dict s (Ps.obj s n) (s.length+1) a Ps.dict0 []=R;refine lent_of (fun K ho hret hpan=>S_parse_reader_dict_ok ?_) hr;unfold S_parse_reader_dict;have ho:=ho.pair;refine o_oba ho fun b4 w1 ho=>?_;refine o_mapNewB ho fun b5 w2 ho=>?_;generalize hS0:(rmE b s a M).blk=S0 at *;have ho:OwnS S0 w w2 [.mapB b5 [],obE b4 ob0 nilS nilS,rmE b s a M]:=ho;have fall:∀{W:World} {L:List Ent} {e2:Ent} {N:Mem} (e:Int),OwnS S0 w W (L++([.two e2 (.mem N)]++[]))→M.le N→R=Ps.bad e→e≠0→pk K [wrongE e] W:=by
  intro W L e2 N e ho hle he h0;subst he;exact hpan h0 e2 N W _ (ho.front).split hle
 refine loop (fun vs w'=>∃(a':Int) (m:Nat) (o:Ob) (l:List Ps.Kv) (al:List (List UInt8×Value)) (N:Mem),vs=[]∧0≤a'∧a'≤s.length∧(l.length:Int)≤a'∧l.length≤8191∧l.length+m=s.length+1 ∧
   Ps.dict s (Ps.obj s n) m a' o (l.map (·.1))=R∧M.le N∧KvR N.A N.w al l∧(l.map (·.1)).Nodup∧Ps.Made o l ∧
   OwnS S0 w w' [.mapB b5 al,obE b4 ob0 nilS nilS,rmE b s a' N]) (fun _ w=>s.length - rdAt b w)
  ⟨a,s.length+1,Ps.dict0,[],[],M,rfl,h0,h1,by simpa using h0,by simp,by simp,hR,M.le_refl,trivial,List.nodup_nil,Ps.made0,ho⟩ ?_
 clear ho hR;rintro vs w4 ⟨a',m,o,l,al,N,rfl,ha0,ha1,hla,hmx,hml,hdict,hle,hkv,hnd,hmade,ho⟩ _;simp only[S_parse_reader_dict_0];obtain⟨m,rfl⟩:∃k,m=k+1:=⟨m - 1,by omega⟩;have hall:al.length=l.length:=by simpa using congrArg List.length hkv.fst
 have hat:rdAt b w4=a'.toNat:=rdAt_is (ho.at_ 2 rfl).1;refine c_rm ho 2 rfl (pnext_ret b s a' N w4 (by omega) (ho.at_ 2 rfl)) ?_ fun e2 w5 hn ho=>?_
 rotate_left
 ·rw[dict_lacks hn] at hdict;exact fall (L:=[_,_]) _ ho hle hdict.symm lacks_pos
 rintro _ N1 w5 hhas hle1 rfl ho;have hbd:=@Lx.next_bd s a' hhas.1 hhas.2;have hge:=Lx.skip_ge s a'.toNat;obtain⟨e1,e2⟩:=hhas;rw[Ps.dict] at hdict;generalize Lx.next s a'=x at *
 rw[if_neg (by rw[e1];simp)] at hdict;refine o_tok ho fun b6 w6 ho=>?_;refine tk_put 0 ho rfl fun w7 ho=>?_;have ho:OwnS S0 w w7 [tokE b6 x.1,.mapB b5 al,obE b4 ob0 nilS nilS,rmE b s x.1.t N1]:=ho;rw[tk_v ho 0 rfl];refine c_below ho (R:=fun v=>v=.bool (decide (x.1.k=6)&&decide (x.1.s=[62,62]))) (pword_ret x.1 6 [62,62] w7) ?_;rintro _ w8 rfl ho;cases e3:(decide (x.1.k=6)&&decide (x.1.s=[62,62])) with
|true=>
  simp only[Bool.and_eq_true,decide_eq_true_eq] at e3;rw[if_pos ⟨e3.1,e3.2⟩] at hdict;simp only[i_t];have hb7:∀{PK:PKT} {K:VWP},DoX prog (mBuild 42 #[(0,(.int .i64 7))]) w8 PK K=K (obV Ps.dict0 nilS nilS) w8:=do_eq (by kernel_rfl);rw[hb7];have ho:=(ho.nilU 42 6).nilU 9 1;refine o_oba ho fun b9 w9 ho=>?_;refine ob_put (o':=Ps.dict0) (vk':=nilS) (vc':=nilS) 0 rfl rfl ho rfl fun w10 ho=>?_;have ho:OwnS S0 w w10 ([obE b9 Ps.dict0 nilS nilS,keyE nilS [],kidE nilS 0 []]++([tokE b6 x.1]++[.mapB b5 al,obE b4 ob0 nilS nilS,rmE b s x.1.t N1])):=ho;have ho:=ho.front.tail;have ho:OwnS S0 w w10 ([obE b9 Ps.dict0 nilS nilS,keyE nilS [],kidE nilS 0 []]++([.mapB b5 al]++([obE b4 ob0 nilS nilS]++[rmE b s x.1.t N1]))):=ho;have ho:OwnS S0 w w10 [obE b9 Ps.dict0 nilS nilS,keyE nilS [],kidE nilS 0 [],obE b4 ob0 nilS nilS,.mapB b5 al,rmE b s x.1.t N1]:=
   ho.perm (List.Perm.append_left [obE b9 Ps.dict0 nilS nilS,keyE nilS [],kidE nilS 0 []] (List.Perm.swap _ _ _))
  refine pbuild (hkv.le hle1) hnd hmade hmx ho fun W N2 L v ho hle2 hv=>?_;subst hdict;exact hret rfl v N2 W L ho ((hle.trans hle1).trans hle2) hv
|false=>
 have e3':¬(x.1.k=6∧x.1.s=[62,62]):=fun h=>by
  rw[decide_eq_true h.1,decide_eq_true h.2] at e3;exact absurd e3 (by decide)
 rw[if_neg e3',if_neg e2] at hdict;simp only[i_f,fa_t4',tk_s ho 0 rfl];rw[lookT 1 ho rfl];simp only[ex];have hlook:∃o' vk vc,(lookA al x.1.s).getD (obV ob0 nilS nilS)=obV o' vk vc∧vk.oneCell'=true∧vc.oneCell'=true:=by
  cases hl:lookA al x.1.s with
 |none=>exact⟨ob0,nilS,nilS,rfl,rfl,rfl⟩
 |some v=>
   have hm:(x.1.s,v)∈al:=by
    unfold lookA at hl;obtain⟨p,hp,hpv⟩:=Option.map_eq_some_iff.1 hl;have h1:=List.find?_some hp;have h2:=List.mem_of_find?_eq_some hp;simp only[decide_eq_true_eq] at h1;rw[←h1,←hpv];exact h2
   obtain⟨q,_,hq⟩:=hkv.mem hm;obtain⟨vk,vc,cs,he,ha⟩:=hq.open;exact⟨q,vk,vc,he,ha.keys.one,ha.kids.one⟩
 obtain⟨o',vk7,vc7,hlv,ok7,oc7⟩:=hlook;rw[hlv];refine o_oba ho fun b7 w9 ho=>?_;refine ob_put (o':=o') 0 ok7 oc7 ho rfl fun w10 ho=>?_;have ho:=ho.tail;have ho:OwnS S0 w w10 [tokE b6 x.1,.mapB b5 al,obE b4 ob0 nilS nilS,rmE b s x.1.t N1]:=ho;have hmet:(lookA al x.1.s).isSome=decide (x.1.s∈l.map (·.1)):=by
  rw[←hkv.fst];cases hl:lookA al x.1.s with
 |none=>rw[decide_eq_false (lookA_none.1 hl)];rfl
 |some v=>
   have:¬x.1.s ∉ al.map (·.1):=fun h=>by rw[lookA_none.2 h] at hl;cases hl
   rw[decide_eq_true (Classical.not_not.1 this)];rfl
 refine join fun J hJ=>?_;rw[fa_t0,tk_k ho 0 rfl];simp only[rs];by_cases e4:x.1.k=4
 case neg=>
  rw[if_pos e4] at hdict;simp only[e4,ne_eq,not_false_eq_true,decide_true,i_t];exact throw (fall (L:=[_,_,_]) 3 ho (hle.trans hle1) hdict.symm (by decide))
 rw[if_neg (by rw[e4];simp)] at hdict;simp only[e4,ne_eq,not_true,decide_false,i_f,hmet];by_cases e5:x.1.s∈l.map (·.1)
 ·rw[if_pos e5] at hdict;simp only[decide_eq_true e5,i_t];exact throw (fall (L:=[_,_,_]) 9 ho (hle.trans hle1) hdict.symm (by decide))
 rw[if_neg e5] at hdict;simp only[decide_eq_false e5,i_f];rw[lenM 1 ho rfl,List.length_map] at *;simp only[rs];by_cases e6:l.length=8191
 ·rw[if_pos e6] at hdict;simp only[show (8191:Int)≤(al.length:Int) by omega,decide_true,i_t];exact throw (fall (L:=[_,_,_]) 6 ho (hle.trans hle1) hdict.symm (by decide))
 rw[if_neg e6] at hdict;simp only[decide_eq_false (show ¬(8191:Int)≤(al.length:Int) by omega),i_f];refine hJ _ _ fun _=>?_;unfold S_parse_reader_dict_3;have ho:=ho.drew;refine⟨fun W=>(tokE b6 x.1).is W,ho.at_ 0 rfl,?_⟩;refine hd_pure _ (fun _=>run_fa ft4) ?_;refine hd_do (.string ⟨x.1.s.toArray⟩) (fun W h=>run_load_cell nStr (cells_cell (T:=53) (cs:=tokC x.1) (i:=4) h rfl)) ?_;refine c_rm ho 3 rfl (pnext_ret b s x.1.t N1 _ (by omega) (ho.at_ 3 rfl)) ?_ fun e2 w11 hn ho=>?_
 rotate_left
 ·rw[obj_lacks hn,if_pos (show (Ps.bad (lacks s x.1.t)).2.2≠0 from lacks_pos)] at hdict;exact fun _ _ _ _ _ _=>fall (L:=[_,_,_]) _ ho (hle.trans hle1) hdict.symm lacks_pos
 rintro _ N2 w11 hhas2 hle2 rfl ho;refine⟨ho.at_ 0 rfl,?_⟩;have hbd2:=@Ps.obj_bd s n x.1.t;have hob:=hsub b x.1.t N2 w11 hhas2 (ho.at_ 3 rfl);generalize Ps.obj s n x.1.t=e at *;refine c_rm ho 3 rfl hob ?_ fun e2 w12 hz ho=>?_
 rotate_left
 ·rw[if_pos hz] at hdict;exact fun _ _ _ _ _ _=>fall (L:=[_,_,_]) _ ho ((hle.trans hle1).trans hle2) hdict.symm hz
 rintro u N3 w12 hz hle3 hu ho;have ho:OwnS S0 w w12 [tokE b6 x.1,.mapB b5 al,obE b4 ob0 nilS nilS,rmE b s e.2.1 N3]:=ho;refine⟨ho.at_ 0 rfl,?_⟩;have hln:lookA al x.1.s=none:=lookA_none.2 (by rw[hkv.fst];exact e5);refine o_mapAddB 1 Tryz.underlying182 Tryz.underlying9 ho rfl x.1.s u hln fun w13 ho=>⟨ho.at_ 0 rfl,?_⟩;rw[if_neg (by rw[hz];simp)] at hdict;have hbd3:=hbd2 hz;have hm2:=Ps.made_join (v:=e.1) hmade e5;have hnd2:((l++[(x.1.s,e.1)]).map (·.1)).Nodup:=by
  rw[List.map_append,List.nodup_append];refine⟨hnd,by simp,fun p hp q hq=>?_⟩;simp at hq;subst hq;exact fun h=>e5 (h▸hp)
 have h5:a' < e.2.1:=by
  have:=hbd3.1;omega
 refine nextX ⟨e.2.1,m,Ps.join o x.1.s e.1,l++[(x.1.s,e.1)],al++[(x.1.s,u)],N3,rfl,by omega,hbd3.2,by simp;omega,by simp;omega,by simp;omega,?_,((hle.trans hle1).trans hle2).trans hle3,(((hkv.le hle1).le hle2).le hle3).snoc hu,hnd2,hm2,ho.tail⟩ ?_
 ·rw[List.map_append];exact hdict
 ·have hat2:rdAt b w13=e.2.1.toNat:=rdAt_is (ho.at_ 3 rfl).1;show s.length - rdAt b w13 < s.length - rdAt b w4;rw[hat,hat2];exact meas ha0 h5 hbd3.2
theorem pobject_ret (s:List UInt8)(hs:s.length≤1000000000)(n:Nat)(hn:n≤24):PObj s n:=
 pobj_ret s hs (fun n hn h=>parr_ret s hs n hn h) (fun n hn h=>pdict_ret s hs n hn h) n hn
end
section
open Eng Go.RowKit
namespace Ps
theorem arr_err {s:List UInt8}{ok:Bool}{sub:Int→R}:∀(m:Nat) (a:Int) (acc:List Ob),(arr s ok sub m a acc).2.2≠0→arr s ok sub m a acc=bad (arr s ok sub m a acc).2.2
|0,_,_,_=>rfl
|m+1,a,acc,h=>by
  rw[arr] at h ⊢;split
  ·rename_i h1;rw[if_pos h1] at h;exact absurd rfl h
  rename_i h1
  rw[if_neg h1] at h;split
  ·rfl
  rename_i h2
  rw[if_neg h2] at h;split
  ·rfl
  rename_i h3
  rw[if_neg h3] at h;split
  ·rfl
  rename_i h4
  rw[if_neg h4] at h;exact arr_err m _ _ h
theorem dict_err {s:List UInt8}{sub:Int→R}:∀(m:Nat) (a:Int) (o:Ob) (met:List (List UInt8)),(dict s sub m a o met).2.2≠0→dict s sub m a o met=bad (dict s sub m a o met).2.2
|0,_,_,_,_=>rfl
|m+1,a,o,met,h=>by
  rw[dict] at h ⊢;split
  ·rfl
  rename_i h1
  rw[if_neg h1] at h;split
  ·rename_i h2;rw[if_pos h2] at h;exact absurd rfl h
  rename_i h2
  rw[if_neg h2] at h;split
  ·rfl
  rename_i h3
  rw[if_neg h3] at h;split
  ·rfl
  rename_i h4
  rw[if_neg h4] at h;split
  ·rfl
  rename_i h5
  rw[if_neg h5] at h;split
  ·rfl
  rename_i h6
  rw[if_neg h6] at h;split
  ·rfl
  rename_i h7
  rw[if_neg h7] at h;exact dict_err m _ _ _ h
theorem leaf_ok {s:List UInt8}{t:Lx.Tok}:(leaf s t).2.2=0:=by
 unfold leaf;split
 ·cases ref s t<;>rfl
 all_goals (repeat' split)<;>rfl
theorem obj_err {s:List UInt8}{n:Nat}{a:Int}(h:(obj s n a).2.2≠0):obj s n a=bad (obj s n a).2.2:=by
 have hob:obj s n a=_:=obj.eq_def s n a;simp only at hob
 revert h
 rw[hob];intro h;split
 ·rfl
 rename_i h1
 rw[if_neg h1] at h;split
 ·rfl
 rename_i h2
 rw[if_neg h2] at h;split
 ·rfl
 rename_i h3
 rw[if_neg h3] at h;cases n with
|zero=>rfl
|succ n=>
  simp only at h ⊢;split
  ·rename_i h4;rw[if_pos h4] at h;exact absurd leaf_ok h
  rename_i h4
  rw[if_neg h4] at h;split
  ·rename_i h5;rw[if_pos h5] at h;exact arr_err _ _ _ h
  ·rename_i h5;rw[if_neg h5] at h;exact dict_err _ _ _ _ h
end Ps
theorem psface_plain:plainB prog 149=true:=by kernel_rfl
theorem psread_ret (b:Nat)(s:List UInt8)(a:Int)(M:Mem)(w:World)(hs:s.length≤1000000000)(hr:(rmE b s a M).is w) :
  Ret prog 110 #[rdP b] w (fun v w'=>∃N u e2,M.le N∧v=.tuple #[u,.int .i64 (Ps.obj s 24 a).2.2]∧OV N.A N.w u (Ps.obj s 24 a).1∧((Ps.obj s 24 a).2.2=0→e2=rdE b s (Ps.obj s 24 a).2.1)∧Turn (rmE b s a M) (.two e2 (.mem N)) w w'):=by
 refine ret_of fun K hK=>S_parse_reader_read_ok ?_;unfold S_parse_reader_read;have ho:OwnS (rmE b s a M).blk w w [rmE b s a M]:=OwnS.lend hr;generalize hS0:(rmE b s a M).blk=S0 at ho;refine o_oba ho fun b2 w1 ho=>?_;refine o_new (fun b=>.pointer (some ⟨b,0,none⟩)) [.int .i64 0] 24 (fun _=>by kernel_rfl) ho fun b3 w2 ho=>?_;have ho:OwnS S0 w w2 [.cells b3 [.int .i64 0] 24,obE b2 ob0 nilS nilS,rmE b s a M]:=ho
 -- a syntax error
 have fail2:∀{W:World} {e2:Ent} {e:Int} {N:Mem},OwnS S0 w W [.cells b3 [.int .i64 0] 24,obE b2 ob0 nilS nilS,.two e2 (.mem N)]→M.le N→Ps.obj s 24 a=Ps.bad e→e≠0→S_parse_reader_read_p0 (.pointer (some ⟨b2,0,none⟩)) (.pointer (some ⟨b3,0,none⟩)) K [wrongE e] W:=by
  intro W e2 e N ho hle he h0;show pd prog _ K _ [wrongE e] W;unfold pd;refine leave_fn (by simp) psface_plain (S_parse_face_dok ?_);simp only[S_parse_face,recV,recM,wrongE,Eng.e_some Tryz.underlying20,rs,t_hit nfW,ex,i_t,i_f];refine o_store 0 ho rfl (by kernel_rfl) rfl (by simp) fun w7 ho=>?_;refine ret_v2 (rv_cell (ho.agg 1 rfl aggOb)) (rv_cell (AtV.cell nErr5 (ho.cell 0 rfl 0 rfl))) (hK _ _ ⟨N,obV ob0 nilS nilS,e2,hle,?_,?_,?_,?_⟩)
  ·rw[he];rfl
  ·rw[he];exact ob0_ov2
  ·rw[he];exact fun h=>absurd h h0
  ·have ho:OwnS S0 w w7 ([.cells b3 [.int .i64 e] 24,obE b2 ob0 nilS nilS]++([.two e2 (.mem N)]++[])):=ho;have ho:=ho.front;subst hS0;exact OwnS.back ho
 refine c_rm ho 2 rfl (pnext_ret b s a M w2 (by omega) (ho.at_ 2 rfl)) ?_ fun e2 w3 hn ho=>fail2 ho M.le_refl (obj_lacks hn) lacks_pos;rintro _ N w3 hh hle rfl ho;have hob:=pobject_ret s hs 24 (by omega) b a N w3 hh (ho.at_ 2 rfl);rw[show (24:Int) - ((24:Nat):Int)=0 by decide] at hob;refine c_rm ho 2 rfl hob ?_ fun e2 w4 hz ho=>fail2 ho hle (Ps.obj_err hz) hz;rintro u N2 w4 hz hle2 hu ho;obtain⟨xk,xc,xcs,rfl,hx⟩:=hu.open;refine ob_put 1 hx.keys.one hx.kids.one ho rfl fun w5 ho=>?_;refine o_store 0 ho rfl (by kernel_rfl) rfl (by simp) fun w6 ho=>?_;refine leave_fn (by simp) psface_plain (S_parse_face_dok ?_);simp only[S_parse_face,recV,recM,Eng.e_nil Tryz.underlying20,rs];have ho:OwnS S0 w w6 ([.cells b3 [.int .i64 0] 24,obE b2 (Ps.obj s 24 a).1 xk xc]++([.two (rdE b s (Ps.obj s 24 a).2.1) (.mem N2)]++[])):=ho;refine ret_v2 (rv_cell (ho.agg 1 rfl aggOb)) (rv_cell (AtV.cell nErr5 (ho.cell 0 rfl 0 rfl))) (hK _ _ ⟨N2,obV (Ps.obj s 24 a).1 xk xc,_,hle.trans hle2,?_,hx.ov,fun _=>rfl,?_⟩)
 ·rw[hz];rfl
 ·have ho:=ho.front;subst hS0;exact OwnS.back ho
theorem psobject_ret (s:List UInt8)(a:Int)(hs:s.length≤1000000000)(M:Mem)(w:World)(hM:M.has w):RetM prog 65 #[.string ⟨s.toArray⟩,.int .i64 a] M w (objR (Ps.object s a)):=by
 refine retM_of hM fun K hK=>S_parse_Object_ok ?_;unfold S_parse_Object;refine o_oba (OwnS.memS hM) fun b4 w1 ho=>?_;have fail:a < 0∨(s.length:Int) < a→DoX prog (mBuild 42 #[]) w1 (pk K) (fun t W=>DoX prog (mStore 42 (.pointer (some ⟨b4,0,none⟩)) t) W (pk K) fun _ W=>RetX prog [.cell (.pointer (some ⟨b4,0,none⟩)) 42,.val (.int .i64 0),.val (.int .i64 1)] W K):=by
  intro h;refine ret_bad 0 ho rfl fun w' ho=>?_;refine hK _ _ M _ 1 ho rfl M.le_refl ?_;rw[Ps.object,if_pos h];exact⟨_,rfl,ob0_ov2⟩
 by_cases h1:a < 0
 ·simp only[rs,decide_eq_true h1,g_un];exact fail (.inl h1)
 by_cases h2:(s.length:Int) < a
 ·simp only[rs,decide_eq_false h1,s_len Tryz.underlying9,decide_eq_true h2,g_un];exact fail (.inr h2)
 simp only[rs,decide_eq_false h1,s_len Tryz.underlying9,decide_eq_false h2,g_un];clear fail;have hPs:Ps.object s a=Ps.obj s 24 a:=by rw[Ps.object,if_neg (by omega)]
 rw[hPs] at hK;have hb1:∀{PK:PKT} {K:VWP},DoX prog (mBuild 144 #[(0,.string ⟨s.toArray⟩),(1,.int .i64 a)]) w1 PK K=K (.agg (rdC s a).toArray) w1:=do_eq (by kernel_rfl);rw[hb1];refine o_new (fun b=>.pointer (some ⟨b,0,none⟩)) (rdC s a) 144 (fun _=>by kernel_rfl) ho fun b22 w2 ho=>?_;have ho:OwnS M.A w w2 ([rdE b22 s a]++([obE b4 ob0 nilS nilS]++([.mem M]++[]))):=ho;have ho:OwnS M.A w w2 ([rdE b22 s a]++([.mem M]++([obE b4 ob0 nilS nilS]))):=ho.perm (List.Perm.append_left _ (List.Perm.swap _ _ _));have ho:=ho.pair;refine c_ret (psread_ret b22 s a M w2 hs (ho.at_ 0 rfl)) ?_;rintro _ w3 ⟨N,u,e2,hle,rfl,hu,he2,ht⟩;have ho:=(ho.turn 0 rfl ht).split;have ho:OwnS M.A w w3 [e2,.mem N,obE b4 ob0 nilS nilS]:=ho;simp only[ex];obtain⟨xk,xc,xcs,rfl,hx⟩:=hu.open;refine o_oba ho fun b8 w4 ho=>?_;refine ob_put 0 hx.keys.one hx.kids.one ho rfl fun w5 ho=>?_;have ho:OwnS M.A w w5 [obE b8 (Ps.obj s 24 a).1 xk xc,e2,.mem N,obE b4 ob0 nilS nilS]:=ho;simp only[rs];by_cases hz:(Ps.obj s 24 a).2.2=0
 case neg=>
  simp only[hz,ne_eq,not_false_eq_true,decide_true,i_t];refine ret_bad 3 ho rfl fun w' ho=>?_;refine hK _ _ N _ 2 ho rfl hle ?_;rw[Ps.obj_err hz];exact⟨_,rfl,ob0_ov2⟩
 simp only[hz,ne_eq,not_true,decide_false,i_f];rw[he2 hz] at ho;have ho:=ho.drew;refine⟨fun W=>(obE b8 (Ps.obj s 24 a).1 xk xc).is W∧(rdE b22 s (Ps.obj s 24 a).2.1).is W,⟨ho.at_ 0 rfl,ho.at_ 1 rfl⟩,?_⟩;refine hd_do (obV (Ps.obj s 24 a).1 xk xc) (fun W h=>run_load_at (AtV.agg aggOb (cs:=obC (Ps.obj s 24 a).1 xk xc) rfl fun j u hj=>by rw[Nat.zero_add];exact cells_cell (T:=42) h.1 hj)) ?_;refine hd_pure _ (fun _=>run_nil) (hd_pure _ (fun _=>run_fa fr1) (hd_do _ (fun W h=>rdr_a h.2) ?_));refine ob_put 3 hx.keys.one hx.kids.one ho rfl fun w6 ho=>⟨⟨ho.at_ 0 rfl,ho.at_ 1 rfl⟩,?_⟩;refine ret_v3 (rv_cell (ho.agg 3 rfl aggOb)) rv_val rv_val (hK _ _ N _ 2 ho rfl hle ?_);exact⟨_,by rw[hz];rfl,hx.ov⟩
end
end Go.Proofs.YtoofficgclghoaaGreatDoor





namespace Go.Proofs.YtoofficgclghoaaGreatDoor
section
open Go
namespace Lx
open Oc
theorem skipF_more:∀(b:Bool) (l m:List UInt8),skipF b l < l.length→skipF b (l++m)=skipF b l
|_,[],m,h=>by simp at h
|true,c::t,m,h=>by
  rw[List.cons_append,skipF,skipF,skipF_more (!eol c) t m (by rw[skipF,List.length_cons] at h;omega)]
|false,c::t,m,h=>by
  rw[List.cons_append,skipF,skipF];rw[skipF,List.length_cons] at h;by_cases h1:c=37
  ·rw[if_pos h1] at h;rw[if_pos h1,if_pos h1,skipF_more true t m (by omega)]
  ·rw[if_neg h1] at h;rw[if_neg h1,if_neg h1];by_cases h2:white c=true
   ·rw[if_pos h2] at h;rw[if_pos h2,if_pos h2,skipF_more false t m (by omega)]
   ·rw[if_neg h2,if_neg h2]
theorem skip_more {s:List UInt8}(r:List UInt8){k:Nat}(hk:k≤s.length)(h:skip s k < s.length):skip (s++r) k=skip s k:=by
 unfold skip at h ⊢;rw[List.drop_append_of_le_length hk,skipF_more false _ r (by rw[List.length_drop];omega)]
theorem runF_more:∀(l m:List UInt8),runF l < l.length→runF (l++m)=runF l
|[],m,h=>by simp at h
|c::t,m,h=>by
  rw[List.cons_append,runF,runF];rw[runF,List.length_cons] at h;by_cases h1:regular c=true
  ·rw[if_pos h1] at h;rw[if_pos h1,if_pos h1,runF_more t m (by omega)]
  ·rw[if_neg h1,if_neg h1]
theorem run_more {s:List UInt8}(r:List UInt8){k:Nat}(hk:k≤s.length)(h:run s k < s.length):run (s++r) k=run s k:=by
 unfold run at h ⊢;rw[List.drop_append_of_le_length hk,runF_more _ r (by rw[List.length_drop];omega)]
theorem cut_more {s:List UInt8}(r:List UInt8){i j:Nat}(hi:i≤s.length)(hj:j≤s.length):cut (s++r) i j=cut s i j:=by
 unfold cut;rw[List.drop_append_of_le_length hi,List.take_append_of_le_length (by rw[List.length_drop];omega)]
theorem token_more {s:List UInt8}(r:List UInt8){q:Nat}(hq:q < s.length)(h:(token s q).2=0)(hk:(token s q).1.k≠0)(ht:(token s q).1.t < s.length):token (s++r) q=token s q:=by
 have hd:=drop_cons hq;have hd2:(s++r).drop q=s[q]::(s.drop (q+1)++r):=by rw[List.drop_append_of_le_length (by omega),hd];rfl
 have hd3:(s++r).drop (q+1)=s.drop (q+1)++r:=List.drop_append_of_le_length (by omega);have hT:∀S:List UInt8,∀t:List UInt8,S.drop q=s[q]::t→token S q=if s[q]=91∨s[q]=93∨s[q]=123∨s[q]=125 then mark S q 1
  else if s[q]=60 then (if t.head?=some s[q] then mark S q 2 else hex S q)
  else if s[q]=62 then (if t.head?=some s[q] then mark S q 2 else refused 3)
  else if s[q]=47 then name S q
  else if s[q]=40 then text S q
  else if s[q]=41 then refused 3
  else word S q:=fun S t hS=>by rw[token,hS]
 rw[hT s _ hd] at h hk ht ⊢;rw[hT (s++r) _ hd2];have two:∀{c:UInt8},(s.drop (q+1)).head?=some c→q+2≤s.length∧(s.drop (q+1)++r).head?=some c:=by
  intro c hc;have hne:s.drop (q+1)≠[]:=by intro e;rw[e] at hc;cases hc
  have:=List.length_pos_iff.2 hne;rw[List.length_drop] at this;exact⟨by omega,by rw[head_app hne];exact hc⟩
 by_cases g0:s[q]=91∨s[q]=93∨s[q]=123∨s[q]=125
 ·rw[if_pos g0,if_pos g0];unfold mark;rw[cut_more r (by omega) (by omega)]
 rw[if_neg g0] at h hk ht ⊢;rw[if_neg g0];by_cases g1:s[q]=60
 ·rw[if_pos g1] at h hk ht ⊢;rw[if_pos g1];by_cases g:(s.drop (q+1)).head?=some s[q]
  ·obtain⟨h2,h3⟩:=two g;rw[if_pos g,if_pos h3];unfold mark;rw[cut_more r (by omega) h2]
  ·rw[if_neg g] at h hk ht ⊢;unfold hex at h hk ht;cases hx:hexF (-1) (s.drop (q+1)) with
  |inr e=>rw[hx] at hk;exact absurd rfl hk
  |inl y=>
    have hne:s.drop (q+1)≠[]:=by intro e;rw[e,hexF] at hx;cases hx
    rw[if_neg (by rw[head_app hne];exact g)];unfold hex;rw[hd3,hexF_ext _ _ _ r hx,hx]
 rw[if_neg g1] at h hk ht ⊢;rw[if_neg g1];by_cases g2:s[q]=62
 ·rw[if_pos g2] at h hk ht ⊢;rw[if_pos g2];by_cases g:(s.drop (q+1)).head?=some s[q]
  ·obtain⟨h2,h3⟩:=two g;rw[if_pos g,if_pos h3];unfold mark;rw[cut_more r (by omega) h2]
  ·rw[if_neg g] at hk;exact absurd rfl hk
 rw[if_neg g2] at h hk ht ⊢;rw[if_neg g2];by_cases g3:s[q]=47
 ·rw[if_pos g3] at h hk ht ⊢;rw[if_pos g3];unfold name at h hk ht ⊢;cases hx:nameF (cut s (q+1) (run s (q+1))) with
 |none=>rw[hx] at hk;exact absurd rfl hk
 |some y=>
   rw[hx] at h ht;simp only at h ht;rw[told_ok h] at ht;simp only at ht;have hr:run s (q+1) < s.length:=by omega
   rw[run_more r (by omega) hr,cut_more r (by omega) (by omega),hx]
 rw[if_neg g3] at h hk ht ⊢;rw[if_neg g3];by_cases g4:s[q]=40
 ·rw[if_pos g4] at h hk ht ⊢;rw[if_pos g4];unfold text at h hk ht ⊢;cases hx:textG 0 1 (s.drop (q+1)) with
 |none=>rw[hx] at hk;exact absurd rfl hk
 |some y=>rw[hd3,textG_ext _ _ _ _ r hx]
 rw[if_neg g4] at h hk ht ⊢;rw[if_neg g4];by_cases g5:s[q]=41
 ·rw[if_pos g5] at hk;exact absurd rfl hk
 rw[if_neg g5] at h hk ht ⊢;rw[if_neg g5];unfold word at h hk ht ⊢;rw[(wordT_ok h).2.2] at ht;have hr:run s q < s.length:=by omega
 rw[run_more r (by omega) hr,cut_more r (by omega) (by omega)]
theorem next_more {s:List UInt8}(r:List UInt8){a:Int}(h:(next s a).2=0)(hk:(next s a).1.k≠0)(ht:(next s a).1.t < s.length):next (s++r) a=next s a:=by
 obtain⟨b1,b2,b3,b4,b5⟩:=next_bd h hk;have hq:skip s a.toNat < s.length:=by omega
 have e1:next s a=token s (skip s a.toNat):=by unfold next;rw[if_neg (by omega)]
 have e2:next (s++r) a=token (s++r) (skip s a.toNat):=by
  unfold next
  rw[if_neg (by rw[List.length_append];omega),skip_more r (by omega) hq]
 rw[e1] at h hk ht ⊢;rw[e2,token_more r hq h hk ht]
end Lx
end
section
open Go
namespace Ps
open Lx (next Tok next_more)
def RefNot (s t:List UInt8)(p:Int):Prop:=∀x:Tok,x.t=p→ref s x=none→ref t x=none
def Look (s:List UInt8)(p e:Int):Prop:=(next s p).2=0∧(next s p).1.k≠0∧(next s p).1.t≤e∧((next s p).1.k=1→(next s (next s p).1.t).2=0∧(next s (next s p).1.t).1.k≠0∧(next s (next s p).1.t).1.t≤e)
theorem leaf_ge (s:List UInt8)(x:Tok):x.t≤(leaf s x).2.1:=by
 unfold leaf;split
 ·cases hr:ref s x with
 |some p=>have:=ref_bd hr;show x.t≤p.2;omega
 |none=>exact Int.le_refl _
 all_goals (repeat' split)<;>exact Int.le_refl _
def Good2 (s:List UInt8)(sub:Int→R):Prop:=∀a,(sub a).2.2=0→(next s a).2=0∧(next s a).1.k≠0∧(next s a).1.t≤(sub a).2.1 ∧
 ((next s a).1.k=1→(sub a).2.1=(next s a).1.t∨((next s (next s a).1.t).2=0∧(next s (next s a).1.t).1.k≠0∧(next s (next s a).1.t).1.t≤(sub a).2.1))
theorem obj_good2 (s:List UInt8)(n:Nat):Good2 s (obj s n):=by
 intro a h;obtain⟨h1,h2,h3,m,rfl,e⟩:=obj_open h;refine⟨h1,h2,?_,fun hk=>?_⟩
 ·by_cases g:(next s a).1.k≠6
  ·rw[e,if_pos g];exact leaf_ge s _
  ·rw[if_neg g] at e;by_cases g2:(next s a).1.s=[91]
   ·rw[if_pos g2] at e;rw[e] at h ⊢;have:=(arr_bd (obj_good s m) _ _ _ h).1;omega
   ·rw[if_neg g2] at e;rw[e] at h ⊢;have:=(dict_bd (obj_good s m) _ _ _ _ h).1;omega
 ·rw[if_pos (by rw[hk];decide)] at e;rw[e];unfold leaf;rw[if_pos hk];cases hr:ref s (next s a).1 with
 |none=>exact .inl rfl
 |some p=>
   right;have hr2:=hr;unfold ref at hr2;split at hr2
   ·cases hr2
   split at hr2
   ·cases hr2
   rename_i g2
   split at hr2
   ·rename_i g3
    cases hr2;have b2:=Lx.next_bd g3.1 (by rw[g3.2.1];decide);have hge:=Lx.skip_ge s (next s (next s a).1.t).1.t.toNat;refine⟨by omega,by omega,?_⟩;show (next s (next s a).1.t).1.t≤(next s (next s (next s a).1.t).1.t).1.t;omega
   ·cases hr2
theorem arr_look {s:List UInt8}{ok:Bool}{sub:Int→R}(hg:Good s sub)(h2:Good2 s sub):∀(m:Nat) (p:Int) (acc:List Ob),(arr s ok sub m p acc).2.2=0→Look s p (arr s ok sub m p acc).2.1
|0,p,acc,h=>by simp[arr,bad] at h
|m+1,p,acc,h=>by
  rw[arr] at h ⊢;split at h
  ·rename_i g1
   rw[if_pos g1];exact⟨g1.1,by rw[g1.2.1];decide,Int.le_refl _,fun hk=>by rw[g1.2.1] at hk;exact absurd hk (by decide)⟩
  rename_i g1
  rw[if_neg g1];split at h
  ·simp[bad] at h
  rename_i g2
  rw[if_neg g2];split at h
  ·rename_i g3;exact absurd h g3
  rename_i g3
  rw[if_neg g3];split at h
  ·rename_i g4;exact absurd h g4
  rename_i g4
  rw[if_neg g4];have c:=arr_bd hg m _ _ h;obtain⟨k1,k2,k3,k4⟩:=h2 p (Classical.not_not.1 g4);refine⟨k1,k2,by omega,fun hk=>?_⟩;rcases k4 hk with e|⟨e1,e2,e3⟩
  ·have L:=arr_look hg h2 m _ _ h;rw[e] at L ⊢;exact⟨L.1,L.2.1,L.2.2.1⟩
  ·exact⟨e1,e2,by omega⟩
theorem dict_look {s:List UInt8}{sub:Int→R}(hg:Good s sub)(h2:Good2 s sub):∀(m:Nat) (p:Int) (o:Ob) (met:List (List UInt8)),(dict s sub m p o met).2.2=0→Look s p (dict s sub m p o met).2.1
|0,p,o,met,h=>by simp[dict,bad] at h
|m+1,p,o,met,h=>by
  rw[dict] at h ⊢;split at h
  ·rename_i g1;exact absurd h g1
  rename_i g1
  rw[if_neg g1];have h1:=Classical.not_not.1 g1;split at h
  ·rename_i g2
   rw[if_pos g2];exact⟨h1,by rw[g2.1];decide,Int.le_refl _,fun hk=>by rw[g2.1] at hk;exact absurd hk (by decide)⟩
  rename_i g2
  rw[if_neg g2];split at h
  ·simp[bad] at h
  rename_i g3
  rw[if_neg g3];split at h
  ·simp[bad] at h
  rename_i g4
  rw[if_neg g4];split at h
  ·simp[bad] at h
  rename_i g5
  rw[if_neg g5];split at h
  ·simp[bad] at h
  rename_i g6
  rw[if_neg g6];split at h
  ·rename_i g7;exact absurd h g7
  rename_i g7
  rw[if_neg g7];have c:=dict_bd hg m _ _ _ h;have b:=hg _ (Classical.not_not.1 g7);exact⟨h1,g3,by omega,fun hk=>absurd hk (by omega)⟩
end Ps
end
section
open Go
namespace Bd
open Lx (next Tok next_more)
theorem object_bd {s:List UInt8}{a:Int}(h:(Ps.object s a).2.2=0):a < (Ps.object s a).2.1∧(Ps.object s a).2.1≤s.length:=by
 unfold Ps.object at h ⊢;by_cases g:a < 0∨(s.length:Int) < a
 ·rw[if_pos g] at h;exact absurd h (by decide)
 rw[if_neg g] at h ⊢;exact Ps.obj_bd h
end Bd
end
end Go.Proofs.YtoofficgclghoaaGreatDoor


namespace Go.Proofs.YtoofficgclghoaaGreatDoor
section
open Go
structure Cop where
 name:List UInt8
 args:List Ob
 data:List UInt8
namespace Cs
open Lx (next Tok)
def constant (s:List UInt8):Bool:=decide (s=Ps.tru)||decide (s=Ps.fal)||decide (s=Ps.nul)
 mutual
def refers:Ob→Bool
|.mk k _ _ _ _ kids=>decide (k=8)||refersL kids
def refersL:List Ob→Bool
|[]=>false
|o::l=>refers o||refersL l
end
 mutual
def depth:Ob→Nat
|.mk _ _ _ _ _ kids=>depthL kids+1
def depthL:List Ob→Nat
|[]=>0
|o::l=>max (depth o) (depthL l)
end
theorem refers_eq (o:Ob):refers o=(decide (o.k=8)||refersL o.kids):=by cases o;rw[refers];rfl
theorem depth_eq (o:Ob):depth o=depthL o.kids+1:=by cases o;rw[depth];rfl
def whiteAt (s:List UInt8)(a:Int):Bool:=decide (0≤a)&&((s[a.toNat]?).any Oc.white)
def ends (s:List UInt8)(a:Nat):Bool:=
 match s.drop a with
|w::e::i::r=>Oc.white w&&decide (e=69)&&decide (i=73)&&(r.isEmpty||r.head?.any Oc.white)
|_=>false
def findE (s:List UInt8):Nat→Nat→Option Nat
|0,_=>none
|m+1,a=>if s.length≤a then none else if ends s a then some a else findE s m (a+1)
structure Flt where
 at_:Int
 e:Int
def ok:Flt:=⟨0,0⟩
def idW:List UInt8:=[73,68]
def eiW:List UInt8:=[69,73]
def biW:List UInt8:=[66,73]
def rW:List UInt8:=[82]
def keys (s:List UInt8):Nat→Int→Ob→List (List UInt8)→Ob×Int×Flt
|0,_,_,_=>(Vl.ob0,0,⟨0,99⟩)
|m+1,a,o,met=>
  if (next s a).2≠0 then (Vl.ob0,0,⟨Lx.skipI s a,(next s a).2⟩)
  else if (next s a).1.k=0 then (Vl.ob0,0,⟨s.length,4⟩)
  else if (next s a).1.k=5∧(next s a).1.s=idW then (o,(next s a).1.t,ok)
  else if (next s a).1.k≠4 then (Vl.ob0,0,⟨(next s a).1.a,3⟩)
  else if (next s a).1.s∈met then (Vl.ob0,0,⟨(next s a).1.a,9⟩)
  else if met.length=8191 then (Vl.ob0,0,⟨(next s a).1.a,6⟩)
  else if (next s (next s a).1.t).2≠0 then (Vl.ob0,0,⟨Lx.skipI s (next s a).1.t,(next s (next s a).1.t).2⟩)
  else if (next s (next s a).1.t).1.k=0 then (Vl.ob0,0,⟨s.length,4⟩)
  else if (Ps.object s (next s a).1.t).2.2≠0 then (Vl.ob0,0,⟨(next s (next s a).1.t).1.a,(Ps.object s (next s a).1.t).2.2⟩)
  else if refers (Ps.object s (next s a).1.t).1 then (Vl.ob0,0,⟨(next s (next s a).1.t).1.a,3⟩)
  else if 24≤depth (Ps.object s (next s a).1.t).1 then (Vl.ob0,0,⟨(next s (next s a).1.t).1.a,7⟩)
  else keys s m (Ps.object s (next s a).1.t).2.1 (Ps.join o (next s a).1.s (Ps.object s (next s a).1.t).1) (met++[(next s a).1.s])
def op0:Cop:=⟨[],[],[]⟩
def image (s:List UInt8)(a:Int):Cop×Int×Flt:=
 let d:=keys s (s.length+1) a Ps.dict0 []
 if d.2.2.e≠0 then (op0,0,d.2.2)
 else if whiteAt s d.2.1=false then (op0,0,⟨d.2.1,3⟩)
 else match findE s (s.length+1) (d.2.1.toNat+1) with
 |none=>(op0,0,⟨s.length,4⟩)
 |some i=>(⟨biW,[d.1],(s.drop (d.2.1.toNat+1)).take (i - (d.2.1.toNat+1))⟩,(i:Int)+3,ok)
def operator (s:List UInt8)(t:Tok)(n:Nat)(args:List Ob):Cop×Int×Flt:=
 if 8191≤n then (op0,0,⟨t.a,6⟩)
 else if t.s=biW then (if args≠[] then (op0,0,⟨t.a,3⟩) else image s t.t)
 else if t.s=idW∨t.s=eiW∨t.s=rW then (op0,0,⟨t.a,3⟩)
 else (⟨t.s,args,[]⟩,t.t,ok)
def readG (s:List UInt8):Nat→Int→List Cop→List Ob→List Cop×Flt
|0,_,_,_=>([],⟨0,99⟩)
|m+1,a,l,args=>
  if (next s a).2≠0 then ([],⟨Lx.skipI s a,(next s a).2⟩)
  else if (next s a).1.k=0 then (if args≠[] then ([],⟨s.length,4⟩) else (l,ok))
  else if (next s a).1.k=5∧constant (next s a).1.s=false then
   (if (operator s (next s a).1 l.length args).2.2.e≠0 then ([],(operator s (next s a).1 l.length args).2.2)
    else readG s m (operator s (next s a).1 l.length args).2.1 (l++[(operator s (next s a).1 l.length args).1]) [])
  else if (Ps.object s a).2.2≠0 then ([],⟨(next s a).1.a,(Ps.object s a).2.2⟩)
  else if refers (Ps.object s a).1 then ([],⟨(next s a).1.a,3⟩)
  else if 32≤args.length then ([],⟨(next s a).1.a,6⟩)
  else readG s m (Ps.object s a).2.1 l (args++[(Ps.object s a).1])
def read (s:List UInt8):List Cop×Flt:=readG s (s.length+1) 0 [] []
def named (s:List UInt8):Bool:=
 decide ((next s 0).2=0)&&decide ((next s 0).1.k=5)&&decide ((next s 0).1.a=0)&&decide ((next s 0).1.t=s.length)&&!constant s&&!decide (s=rW)&&!decide (s=biW)&&!decide (s=idW)&&!decide (s=eiW)
def shown (s:List UInt8):Bool:=(List.range s.length).all fun i=>!ends s i
def form (o:Cop):Bool:=
 if o.name=biW then (match o.args with|[d]=>decide (d.k=7)&&shown o.data|_=>false)
 else named o.name&&decide (o.args.length≤32)&&decide (o.data=[])
def firstE:List Ob→Int
|[]=>0
|o::l=>if Vl.check 1 o≠0 then Vl.check 1 o else firstE l
def may (o:Cop):Int:=
 if form o=false then 3
 else if firstE o.args≠0 then firstE o.args
 else if o.args.any (fun x=>refers x||decide (x.k=9)) then 10 else 0
def pairs:List (List UInt8)→List Ob→List (List UInt8)
|k::ks,o::os=>(Pl.pName k).1::(Wr.text o).1::pairs ks os
|_,_=>[]
def parts (o:Cop):List (List UInt8):=
 if o.name=biW then (match o.args with|d::_=>biW::pairs d.keys d.kids++[idW]|[]=>[biW,idW])
 else o.args.map (fun x=>(Wr.text x).1)++[o.name]
def one (o:Cop):List UInt8:=Pl.join (parts o)++[10]++(if o.name=biW then o.data++[10]++eiW++[10] else [])
def refuse:List Cop→Int
|[]=>0
|o::l=>if may o≠0 then may o else refuse l
def text (l:List Cop):List UInt8×Int:=
 if 8191 < l.length then ([],6) else if refuse l≠0 then ([],refuse l) else (l.flatMap one,0)
end Cs
end
end Go.Proofs.YtoofficgclghoaaGreatDoor
