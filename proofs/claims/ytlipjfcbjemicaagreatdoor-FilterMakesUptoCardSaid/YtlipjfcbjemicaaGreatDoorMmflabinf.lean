/- Texts that go together: EngG ObD EngW ObE ObF SVal ObG ObH ObI MkA SMake5 Plain07 SRef07 SRef04 PlR PlS Plain03 Plain03B Plain03C Plain03D Plain03E Plain04B Plain03F Plain03G Plain17 Plain17B Plain55 SOct LxA SLex LxB LxC LxD LxE LxF LxG LxH LxI SRef03 LxR SHead SRef17 HdA LxS LxT LxU LxV LxW LxX LxY LxZ LxAA LxAB LxAC SLaw04 PlT LxAD SLaw03 LxAE HdB HdC SLaw17 HdD SRef55 ScA ObJ MkB SWrite ObK ObL ObM ObN ObO MkC Plain05C MkD MkE MkF Plain05D MkG Plain19 KdA DcA SDocs SRef19 DcB DcC SSlcI SlcI DcD DcE DcF Plain19B DcG DcH SLaw07 ObP ObQ ObR STexts OcTx SSame SApart Plain07B Plain07C ObS0 ObT DcI Plain38 SLabel SRef38 SCut LbA LbB LbC LbD LbE LbF Plain38B Plain38C Plain38D Plain38E Plain35 Plain35B Plain35C Plain38F Plain38G Plain35D SPages SNumB PgA Plain16. -/
import Derived.Sort.Walk0
import Derived.Test.YtlipjfcbjemicaaGreatDoorRows
import Derived.Lib.IndexMore
import Derived.Lib.LastIndexLaws
import Derived.Lib.SmallJoins
import Derived.Lib.Overlaps
import Derived.Laws.Externs
import Derived.Lib.Repeat
import Derived.Lib.Case
import Derived.Test.YtlipjfcbjemicaaGreatDoorMmogppjjb
import Derived.Test.YtlipjfcbjemicaaGreatDoorMmobppmkb
set_option linter.defProp false
set_option linter.unusedSimpArgs false
set_option linter.unusedVariables false
set_option maxRecDepth 20000
open Go.Proofs.Tryz (prog)
namespace Go.Proofs.YtlipjfcbjemicaaGreatDoor
variable{A S:Nat->Prop}{K:VWP}{L:List Eng.Ent}{M N:Eng.Mem}{P:Program}{PK:PKT}{R:Ending->FrameMode->World->Prop}{T1 T2 U:TypeId}{a:Int}{args:Array Value}{b cap d f i m sz:Nat}{cb:Array Bool}{cs news xs:List Value}{ds:List Deferred}{e:Eng.Ent}{k':IntKind}{key:List UInt8}{o:Ob}{os:List Ob}{q want y:Bool}{t0 v v' v2 vc vk:Value}{u:FrameMode}{w w0:World}{xo yo:Operand}{α:Type}
section
namespace Eng
open Go.RowKit
def sel (c:Bool)(x:Value):Value:=bc c x undef
theorem aeO {x:Value}:sel true x=x:=rfl
theorem afH {x:Value}:sel false x=undef:=rfl
section
variable {P:Program}{w:World}{PK:PKT}{K:VWP}
theorem acQ {v x:Value}{want:Bool}:GDo v want (fun E=>E x w) w K=K (sel (jE v want) x) w:=by
 refine propext ⟨fun h=>?_,fun h=>⟨?_⟩⟩
 ·have:=h.out;cases hw:jE v want<;>rw[hw] at this<;>exact this
 ·cases hw:jE v want<;>rw[hw] at h<;>exact h
theorem AO {c:Bool}{E E':(VWP)->Prop}(hv:v=v')(hc:jE v' want=c)(h:c=true->∀K0,E K0=E' K0):GDo v want E w K=GDo v' want E' w K:=by
 subst hv;refine propext ⟨fun x=>⟨?_⟩,fun x=>⟨?_⟩⟩
 ·have:=x.out;subst hc;cases hw:jE v want with
 |false=>rw[hw] at this;exact this
 |true=>rw[hw,aF] at this;rw[aF,<-h hw];exact this
 ·have:=x.out;subst hc;cases hw:jE v want with
 |false=>rw[hw] at this;exact this
 |true=>rw[hw,aF] at this;rw[aF,h hw];exact this
theorem Yh {b:Bool}:jE (.bool b) true=b:=by cases b<;>rfl
theorem YU {b:Bool}:jE (.bool b) false=!b:=by cases b<;>rfl
theorem Ve {c y:Bool}:jE (sel c (.bool y)) true=(c&&y):=by cases c<;>cases y<;>rfl
theorem UL {c y:Bool}:jE (sel c (.bool y)) false=(c&&!y):=by cases c<;>cases y<;>rfl
theorem ZD {b:Bool}:(true&&b)=b:=rfl
theorem acW {b:Bool}:(b&&true)=b:=by cases b<;>rfl
theorem U9 {b y:Bool}:DoX P (eS (.bool b) (sel b (.bool y)) (.bool false)) w PK K=K (.bool (b&&y)) w:=by
 rw[Ix];cases b<;>rfl
theorem YX {b y:Bool}:DoX P (eS (.bool b) (.bool true) (sel (!b) (.bool y))) w PK K=K (.bool (b||y)) w:=by
 rw[Ix];cases b<;>rfl
end
def gs:=And.intro @acQ (And.intro @Yh (And.intro @YU (And.intro @U9 (And.intro @YX (And.intro @aeO (And.intro @afH (And.intro @Ve (And.intro @UL (And.intro @ZD @acW)))))))))
end Eng
end
section
open Eng Go.RowKit
 attribute [local congr] AO
theorem V9 {T:TypeId}{n:Nat}:DoX prog (mEq .eql T xo yo (.int .i64 (n:Int)) (.int .i64 0)) w PK K=K (.bool (decide (n=0))) w:=by
 rw[abW];congr 2;simp
theorem Py {T:TypeId}{s:List UInt8}:DoX prog (mEq .eql T xo yo (.string ⟨s.toArray⟩) (.string ⟨#[]⟩)) w PK K=K (.bool (decide (s=[]))) w:=HB (b:=[])
theorem Xz (l:List α):decide (((l.length:Nat):Int)=0)=decide (l=[]):=by cases l<;>simp;omega
theorem Z4 (l:List α):decide (((l.length:Nat):Int)=0)=decide (l.length=0):=by rw[decide_eq_decide];omega
theorem QO (o:Ob)(vk vc:Value)(cs:List Value)(n g s l:Bool)(w:World)(h:ObAt (InW w) w o vk vc cs):Ret prog 252 #[obV o vk vc,.bool n,.bool g,.bool s,.bool l] w
  (fun v w'=>v=.bool ((n||decide (o.n=0))&&(g||decide (o.g=0))&&(s||decide (o.s=[]))&&(l||(decide (o.keys=[])&&decide (o.kids.length=0))))∧Below w.heap.size w w'):=by
 refine aP fun K hK=>vV ?_;unfold nQ nz;refine eW o h.keys.one h.kids.one (Own.start w) fun b w1 ho=>?_;have hk:=h.own ho;have lk:∀{PK:PKT} {K:VWP},DoX prog (mB .len #[22] 3 #[false] #[vk]) w1 PK K=K (.int .i64 (o.keys.length:Int)) w1:=bB ahM hk.keys.1;have lc:∀{PK:PKT} {K:VWP},DoX prog (mB .len #[23] 3 #[false] #[vc]) w1 PK K=K (.int .i64 (o.kids.length:Int)) w1:=bB ahN hk.kids.1;simp +contextual only[rs,gs,DI,Se,C5,mJ,jP,ob_n ho 0 rfl,ob_g ho 0 rfl,ob_s ho 0 rfl,eR ho 0 rfl,cZ ho 0 rfl,lk,lc,V9,Py];refine hK _ _ ⟨?_,ho.done⟩;rw[Xz o.keys,Z4 o.kids]
theorem Nh (s:List UInt8)(w:World)(hs:s.length<=9223372036854775807):Ret prog 253 #[.string ⟨s.toArray⟩] w (fun v w'=>v=.bool (Vl.name s)∧w=w'):=by
 refine aP fun K hK=>vQ ?_;unfold oT nz;refine loop (fun vs w'=>∃(i:Nat),vs=[.int .i64 i]∧i<=s.length∧(0:UInt8) ∉ s.take i∧w=w') (fun vs _=>s.length - n0 vs) ⟨0,rfl,om,sm,rfl⟩ ?_;rintro vs w2 ⟨i,rfl,hi,hm,rfl⟩ _;simp only[lN,gd,fP ahF,rs,nz];by_cases hlt:(i:Int) < (s.length:Int)
 ·have hi':i < s.length:=om
  have hx:∀{PK:PKT} {K:VWP},DoX prog (mIx 9 (.string ⟨s.toArray⟩) (.int .i64 (i:Int))) w PK K=K (.int .u8 (s[i].toNat:Int)) w:=s_ix (c:=s[i]) ahF (Int.natCast_nonneg i) (by simp[hi']);simp only[hlt,agY,rs,hx];by_cases h0:s[i]=0
  ·have e:(s[i].toNat:Int)=0:=by rw[h0];rfl
   simp only[e,agY,i_t];have hm0:(0:UInt8)∈s:=h0▸ahP hi';exact hK _ _ ⟨by simp[Vl.name,hm0],rfl⟩
  ·have e:¬(s[i].toNat:Int)=0:=fun h=>h0 (amZ.1 (by have:(0:UInt8).toNat=0:=rfl;omega));simp only[e,agX,i_f];rw[aA om om];refine aY ⟨i+1,rfl,om,?_,rfl⟩ (by simp[n0,RowKit.intOf];omega);rw[List.take_add_one,ahH hi'];simp only[Option.toList,aiC,aiA,not_or];exact⟨hm,fun e=>h0 e.symm⟩
 ·rw[aiF om] at hm;simp only[hlt,agX,i_f];refine hK _ _ ⟨?_,rfl⟩;rw[Vl.name,ahB hm,aoI]
  congr 1
  rw[decide_eq_decide];omega
theorem Mv (o:Ob)(v:Value)(w:World)(h:OV (InW w) w v o):Ret prog 203 #[v] w (fun v w'=>v=.bool (Vl.fL o)∧Below w.heap.size w w'):=by
 obtain⟨vk,vc,cs,rfl,ha⟩:=h.open;refine aP fun K hK=>vM ?_;unfold oL nz;refine eW o ha.keys.one ha.kids.one (Own.start w) fun b w1 ho=>?_;have hk:=ha.own ho;have hk1:ObAt (InW w1) w1 o vk vc cs:=⟨⟨hk.keys.1,(fun p l c e hn=>ajE (hk.keys.2.1 p l c e hn) ho.size),hk.keys.2.2⟩,⟨hk.kids.1,(fun p l c e hn=>ajE (hk.kids.2.1 p l c e hn) ho.size),hk.kids.2.2⟩,OVs.mono (fun _ hb=>ajE hb ho.size) _ _ hk.all⟩;have zero:∀(n g s l:Bool) {K':VWP},(∀w',Own w w' [obE b o vk vc]->K' (.bool ((n||decide (o.n=0))&&(g||decide (o.g=0))&&(s||decide (o.s=[]))&&(l||(decide (o.keys=[])&&decide (o.kids.length=0))))) w') ->
   CallX prog 252 #[obV o vk vc,.bool n,.bool g,.bool s,.bool l] w1 (pk K) K':=fun n g s l {K'} hk'=>rN (QO o vk vc cs n g s l w1 hk1) rfl ho hk'
 rw[fI,ob_k ho 0 rfl];simp only[rs,ob_v ho 0 rfl];by_cases k0:o.k=0
 ·simp only[k0,agY,i_t];refine zero _ _ _ _ fun w2 ho=>hK _ _ ⟨?_,ho.done⟩;simp[Vl.fL,Vl.used,k0,alN]
 simp only[k0,agX,i_f];refine join fun J hJ=>?_;by_cases k123:o.k=1∨o.k=2∨o.k=3
 ·have:J [.bool true] w1:=by
   refine hJ _ _ fun _=>?_;simp only[gE,gd,i_t,ob_v ho 0 rfl,nz];refine zero _ _ _ _ fun w2 ho=>hK _ _ ⟨?_,ho.done⟩;simp[Vl.fL,Vl.used,k0,k123,alN]
  by_cases k1:o.k=1
  ·simp only[k1,agY,i_t];exact this
  by_cases k2:o.k=2
  ·simp only[k2,Int.reduceEq,agY,agX,i_t,i_f];exact this
  have k3:o.k=3:=om
  simp only[k3,Int.reduceEq,agY,agX,i_t,i_f];exact this
 have k1:¬o.k=1:=fun h=>k123 (.inl h);have k2:¬o.k=2:=fun h=>k123 (.inr (.inl h));have k3:¬o.k=3:=fun h=>k123 (.inr (.inr h));simp only[k1,k2,k3,agX,i_f];refine hJ _ _ fun _=>?_;clear hJ;simp only[gE,gd,i_f,rs,nz];refine join fun J hJ=>?_;by_cases k45:o.k=4∨o.k=5
 ·have:J [.bool true] w1:=by
   refine hJ _ _ fun _=>?_;simp only[gF,gd,i_t,ob_v ho 0 rfl,nz];refine zero _ _ _ _ fun w2 ho=>hK _ _ ⟨?_,ho.done⟩;simp[Vl.fL,Vl.used,k0,k1,k2,k3,k45,alN]
  by_cases k4:o.k=4
  ·simp only[k4,agY,i_t];exact this
  have k5:o.k=5:=om
  simp only[k5,Int.reduceEq,agY,agX,i_t,i_f];exact this
 have k4:¬o.k=4:=fun h=>k45 (.inl h);have k5:¬o.k=5:=fun h=>k45 (.inr h);simp only[k4,k5,agX,i_f];refine hJ _ _ fun _=>?_;clear hJ;simp only[gF,gd,i_f,rs,ob_v ho 0 rfl,nz];by_cases k6:o.k=6
 ·simp only[k6,agY,i_t];refine zero _ _ _ _ fun w2 ho=>?_;have lk:∀{PK:PKT} {K:VWP},DoX prog (mB .len #[22] 3 #[false] #[vk]) w2 PK K=K (.int .i64 (o.keys.length:Int)) w2:=bB ahM (ha.own ho).keys.1;simp +contextual only[rs,gs,mJ,eR ho 0 rfl,lk,V9];refine hK _ _ ⟨?_,ho.done⟩;rw[Xz o.keys];simp[Vl.fL,Vl.used,k6,alN]
 by_cases k7:o.k=7
 ·simp only[k7,Int.reduceEq,agY,agX,i_t,i_f];refine zero _ _ _ _ fun w2 ho=>hK _ _ ⟨?_,ho.done⟩;simp[Vl.fL,Vl.used,k7,alN]
 by_cases k8:o.k=8
 ·simp only[k8,Int.reduceEq,agY,agX,i_t,i_f];refine zero _ _ _ _ fun w2 ho=>hK _ _ ⟨?_,ho.done⟩;simp[Vl.fL,Vl.used,k8,alN]
 by_cases k9:o.k=9
 ·simp only[k9,Int.reduceEq,agY,agX,i_t,i_f];refine zero _ _ _ _ fun w2 ho=>hK _ _ ⟨?_,ho.done⟩;simp[Vl.fL,Vl.used,k9,alN]
 simp only[k6,k7,k8,k9,agX,i_f];refine hK _ _ ⟨?_,ho.done⟩;simp[Vl.fL,Vl.used,k0,k123,k45,k6,k7,k8,k9]
theorem SB (o:Ob)(v:Value)(w:World)(h:OV (InW w) w v o):Ret prog 204 #[v] w (fun v w'=>v=.bool (Vl.fits o)∧Below w.heap.size w w'):=by
 obtain⟨vk,vc,cs,rfl,ha⟩:=h.open;refine aP fun K hK=>vY ?_;unfold oE nz;refine eW o ha.keys.one ha.kids.one (Own.start w) fun b w1 ho=>?_;simp only[fI,ob_k ho 0 rfl,rs];by_cases k1:o.k=1
 ·simp +contextual only[k1,agY,i_t,DI,ob_n ho 0 rfl,rs,gs,agY,agX,nn_t,nn_f];refine hK _ _ ⟨?_,ho.done⟩;rw[Vl.fits,agW k1];congr 1;rw[aoJ];simp;omega
 by_cases k2:o.k=2
 ·simp +contextual only[k2,Int.reduceEq,agY,agX,i_t,i_f,DI,ob_n ho 0 rfl,rs,gs,agY,agX,nn_t,nn_f];refine hK _ _ ⟨?_,ho.done⟩;rw[Vl.fits,agV k1,agW k2,alO]
 by_cases k3:o.k=3
 ·simp +contextual only[k3,Int.reduceEq,agY,agX,i_t,i_f,DI,ob_n ho 0 rfl,rs,gs,agY,agX,nn_t,nn_f];refine hK _ _ ⟨?_,ho.done⟩;rw[Vl.fits,agV k1,agV k2,agW k3,alO]
 by_cases k8:o.k=8
 ·simp +contextual only[k8,Int.reduceEq,agY,agX,i_t,i_f,DI,Se,ob_n ho 0 rfl,ob_g ho 0 rfl,rs,gs,agY,agX,nn_t,nn_f];refine hK _ _ ⟨?_,ho.done⟩;rw[Vl.fits,agV k1,agV k2,agV k3,agW k8,alO,alO,alN,alN]
 simp only[k1,k2,k3,k8,agX,i_f];refine hK _ _ ⟨?_,ho.done⟩;rw[Vl.fits,agV k1,agV k2,agV k3,agV k8]
theorem Pk (k:Int)(w:World):Ret prog 205 #[.int .i64 k] w (fun v w'=>v=.int .i64 (Vl.long k:Nat)∧w=w'):=by
 refine aP fun K hK=>vU ?_;unfold nT nz;simp only[rs];by_cases k5:k=5
 ·simp only[k5,agY,i_t];exact hK _ _ ⟨by rw[k5];rfl,rfl⟩
 by_cases k9:k=9
 ·simp only[k9,Int.reduceEq,agY,agX,i_t,i_f];exact hK _ _ ⟨by rw[k9];rfl,rfl⟩
 simp only[k5,k9,agX,i_f];exact hK _ _ ⟨by rw[Vl.long,agV k5,agV k9];rfl,rfl⟩
end
section
namespace Eng
open Go.RowKit
theorem G5 {c:Bool}{x:Value}:sel c (sel c x)=sel c x:=by cases c<;>rfl
theorem SY {E:(VWP)->Prop}(h:jE v want=false):GDo v want E w K=K undef w:=by
 refine propext ⟨fun x=>?_,fun x=>⟨?_⟩⟩
 ·have:=x.out;rw[h] at this;exact this
 ·rw[h];exact x
theorem Sc:∀a b:List UInt8,(Op.bytesLess a b||a==b)=!(Op.bytesLess b a):=by
 intro a b;rw[bytesLess_eq,bytesLess_eq,aoJ];simp only[alH,aiI,beq_iff_eq,alU,ajI];constructor
 ·rintro (h|rfl)
  ·exact fun h'=>List.lt_asymm h h'
  ·exact List.lt_irrefl _
 ·intro h;by_cases h1:a < b
  ·exact .inl h1
  ·exact .inr (List.le_antisymm (List.not_lt.1 h) (List.not_lt.1 h1))
theorem CI {b:Bool}:DoX P (eS (.bool (!b)) (.bool true) (sel b (.bool y))) w PK K=K (.bool (!b||y)) w:=by
 rw[Ix];cases b<;>rfl
theorem Z2 {r:Bool}{A B:Prop}(h:q=r)(k:IfX (.bool r) A B):IfX (.bool q) A B:=by subst h;exact k
end Eng
end
section
open Eng Go.RowKit
 attribute [local congr] AO
theorem ObAt.in_ (h:ObAt (InW w0) w0 o vk vc cs)(ho:Own w0 w L):ObAt (InW w) w o vk vc cs:=by
 have hk:=h.own ho;exact⟨⟨hk.keys.1,(fun p l c e hn=>ajE (hk.keys.2.1 p l c e hn) ho.size),hk.keys.2.2⟩,⟨hk.kids.1,(fun p l c e hn=>ajE (hk.kids.2.1 p l c e hn) ho.size),hk.kids.2.2⟩,OVs.mono (fun _ hb=>ajE hb ho.size) _ _ hk.all⟩
theorem kS {p:Nat->Bool}(n:Nat):(List.range (n+1)).all p=((List.range n).all p&&p n):=by
 rw[alY,List.all_append];simp
theorem Cf {p:Nat->Bool}{n:Nat}(hp:p n=false)(hn:n < m):(List.range m).all p=false:=by
 rw[<-Bool.not_eq_true];intro h;have:=ajS.1 h n (aiV.2 hn);rw[hp] at this;cases this
theorem LG (hs:Sl w vc 6 os.length cs)(hall:OVs A w cs os)(hi:i < os.length) :
  ∃b off,(∀{PK:PKT} {K:VWP},DoX prog (mIA 23 vc (.int .i64 (i:Int))) w PK K=K (.pointer (some ⟨b,off,none⟩)) w)∧w.cell? ⟨b,off,none⟩=some (.int .i64 os[i].k):=by
 obtain⟨b,off,cap,rfl,hc⟩:=cB hs om;obtain⟨a,hl,hov,hget⟩:=OVs.get os cs i hi hall;refine⟨b,off+i*6,?_,?_⟩
 ·intro PK K;have:=eE (P:=prog) (T:=23) (b:=b) (off:=off) (cap:=cap) (n:=os.length) (k:=.i64) (i:=(i:Int)) (w:=w) ahN szOb om om;rw[ahI] at this;exact aE this
 ·obtain⟨vk,vc',cs',hv,_⟩:=hov.open;have e:a=obC os[i] vk vc':=by
   injection hv with hv
   have:=congrArg Array.toList hv;simpa using this
  have:=hc (i*6+0) _ (hget 0 (.int .i64 os[i].k) (by rw[e];rfl));simpa using this
theorem RB (o:Ob)(v:Value)(w:World)(h:OV (InW w) w v o)(hs:o.s.length<=9223372036854775807)(hb:o.keys.length<=9223372036854775807)(hks:∀k∈o.keys,k.length<=9223372036854775807) :
  Ret prog 206 #[v] w (fun v w'=>v=.bool (Vl.form o)∧Below w.heap.size w w'):=by
 obtain⟨vk,vc,cs,rfl,ha⟩:=h.open;refine aP fun K hK=>vL ?_;unfold nM nz;refine eW o ha.keys.one ha.kids.one (Own.start w) fun b w1 ho=>?_;simp only[fI,ob_k ho 0 rfl,rs];by_cases k5:o.k=5
 ·simp only[k5,agY,i_t,C5,ob_s ho 0 rfl];refine c_eq (Nh o.s w1 hs) ?_;refine hK _ _ ⟨?_,ho.done⟩;simp[Vl.form,k5]
 by_cases k7:o.k=7∨o.k=9
 case neg=>
  have k7':¬o.k=7:=fun h=>k7 (.inl h);have k9':¬o.k=9:=fun h=>k7 (.inr h);simp only[k5,k7',k9',ne_eq,akI,agY,agX,rs,ob_k ho 0 rfl];refine hK _ _ ⟨?_,ho.done⟩;simp[Vl.form,k5,k7]
 have lk:∀{W:World} {L:List Ent},Own w W L->∀{PK:PKT} {K:VWP},DoX prog (mB .len #[22] 3 #[false] #[vk]) W PK K=K (.int .i64 (o.keys.length:Int)) W:=fun ho=>bB ahM (ha.own ho).keys.1;have lc:∀{W:World} {L:List Ent},Own w W L->∀{PK:PKT} {K:VWP},DoX prog (mB .len #[23] 3 #[false] #[vc]) W PK K=K (.int .i64 (o.kids.length:Int)) W:=fun ho=>bB ahN (ha.own ho).kids.1;have hf:Vl.form o=Vl.rising o:=by simp[Vl.form,k5,k7]
 rw[hf] at hK;simp +contextual only[k5,agX,i_f,rs,gs,ob_k ho 0 rfl,mJ,jP,eR ho 0 rfl,cZ ho 0 rfl,lk ho,lc ho];refine Z2 (r:=false) (by rcases k7 with h|h<;>simp[h]) ?_;rw[i_f];by_cases hlen:(o.keys.length:Int)≠(o.kids.length:Int)
 ·simp only[ahB hlen,i_t];refine hK _ _ ⟨?_,ho.done⟩;have:¬o.keys.length=o.kids.length:=fun e=>hlen (by rw[e]);simp[Vl.rising,this]
 have hle:o.keys.length=o.kids.length:=om
 simp only[ahA hlen,i_f];have hR:Vl.rising o=(List.range o.keys.length).all (Vl.vX o):=by simp[Vl.rising,hle]
 rw[hR] at hK;refine loop (fun vs w'=>∃(i:Nat),vs=[.int .i64 i]∧i<=o.keys.length∧(List.range i).all (Vl.vX o)=true∧Own w w' [obE b o vk vc]) (fun vs _=>o.keys.length - n0 vs) ⟨0,rfl,om,sm,ho⟩ ?_;rintro vs w2 ⟨i,rfl,hi,hall,ho⟩ _;simp only[lP,gd,rs,nz];by_cases hlt:(i:Int) < (o.keys.length:Int)
 ·have hi':i < o.keys.length:=om
  simp only[hlt,agY,i_t];have ho2:=ha.own ho;refine Gz (.string ⟨(o.keys[i]).toArray⟩) ahM krx ho2.keys.1 om (by rw[ahI];exact eM hi') fun q hq=>?_;rw[aO HI hq];refine c_eq (Nh o.keys[i] w2 (hks _ (ahP hi'))) ?_;obtain⟨kb,koff,hia,hkc⟩:=LG ho2.kids.1 ho2.all (show i < o.kids.length by omega);have hlk:∀{PK:PKT} {K:VWP},DoX prog (aI 3 (.pointer (some ⟨kb,koff,none⟩))) w2 PK K=K (.int .i64 o.kids[i].k) w2:=aO cI hkc;have hprev:decide (0 < (i:Int))=true->∃(b' off':Nat),(∀{PK:PKT} {K:VWP},DoX prog (mIA 22 vk (.int .i64 (IntKind.wrap .i64 ((i:Int) - 1)))) w2 PK K=K (.pointer (some ⟨b',off',none⟩)) w2) ∧
    (∀{PK:PKT} {K:VWP},DoX prog (aI 9 (.pointer (some ⟨b',off',none⟩))) w2 PK K=K (.string ⟨(o.keys.getD (i - 1) []).toArray⟩) w2):=by
   intro h;have h:=ahO h;have hj:i - 1 < o.keys.length:=om
   obtain⟨b',off',cap',rfl,hc'⟩:=cB ho2.keys.1 (show 0 < o.keys.length by omega);refine⟨b',off'+(i - 1),?_,?_⟩
   ·intro PK K;rw[aA om om];refine aE ?_;rw[eE ahM (show _=some 1 by kernel_rfl) om om,show ((i:Int) - 1).toNat*1=i - 1 by omega]
   ·intro PK K;rw[ahC,ahH hj];exact aO HI (hc' _ _ (eM hj))
  have hgi:o.keys.getD i []=o.keys[i]:=by rw[ahC,ahH hi'];rfl
  have hgk:o.kids.getD i (.mk 0 0 0 [] [] [])=o.kids[i]'(om):=by rw[ahC,ahH om];rfl
  have tail:∀(q:Bool) (N:Prop),q=!(Vl.vX o i)->(Vl.vX o i=true->N)->IfX (.bool q) (K (.returned (.bool false)) w2) N:=by
   intro q N hq hN;cases hk:Vl.vX o i with
  |false=>
    rw[hk] at hq;subst hq;rw[show (!false)=true from rfl,i_t];exact hK _ _ ⟨by rw[Cf hk hi'],ho.done⟩
  |true=>
    rw[hk] at hq;subst hq;rw[show (!true)=false from rfl,i_f];exact hN hk
  have hki:Vl.vX o i=(Vl.name o.keys[i]&&(decide (i=0)||Vl.less (o.keys.getD (i - 1) []) o.keys[i])&&!(decide (o.k=9)&&decide (o.keys[i]=Vl.lenK))&&decide ((o.kids[i]'(om)).k≠0)):=by
   rw[Vl.vX,hgi,hgk]
  by_cases hi0:i=0
  ·have hz:decide (0 < (i:Int))=false:=by rw[ajI];omega
   simp +contextual only[rs,gs,hz,G5,SY,CI,anU,anV,anA,Sc,fI,jP,ob_k ho 0 rfl,cZ ho 0 rfl,hia,hlk,g_un,p_f];refine tail _ _ ?_ fun hk=>?_
   ·rw[hki,ahB hi0];simp only[Bool.true_or,aoI,Vl.lenK,ne_eq,decide_not];generalize Vl.name o.keys[i]=a;generalize decide (o.k=9)=c;generalize decide ((o.kids[i]'(om)).k=0)=d;by_cases hL:o.keys[i]=[76,101,110,103,116,104]<;>simp only[hL,agY,agX]<;>cases a<;>cases c<;>cases d<;>rfl
   ·rw[aA om om];exact aY ⟨i+1,rfl,om,by rw[kS,hall,hk];rfl,ho⟩ (by simp[n0,RowKit.intOf];omega)
  ·have hz:decide (0 < (i:Int))=true:=by rw[decide_eq_true_iff];omega
   obtain⟨b',off',hpa,hpl⟩:=hprev hz;simp +contextual only[rs,gs,hz,G5,SY,CI,anU,anV,anA,Sc,fI,mJ,jP,ob_k ho 0 rfl,eR ho 0 rfl,cZ ho 0 rfl,hia,hlk,hpa,hpl,g_un];refine tail _ _ ?_ fun hk=>?_
   ·rw[hki,ahA hi0];simp only[aoC,Vl.lenK,ne_eq,decide_not];generalize Vl.name o.keys[i]=a;generalize decide (o.k=9)=c;generalize decide ((o.kids[i]'(om)).k=0)=d;show _=!(_&&Op.bytesLess (o.keys.getD (i - 1) []) o.keys[i]&&_&&_);generalize Op.bytesLess (o.keys.getD (i - 1) []) o.keys[i]=e;by_cases hL:o.keys[i]=[76,101,110,103,116,104]<;>simp only[hL,agY,agX]<;>cases a<;>cases c<;>cases d<;>cases e<;>rfl
   ·rw[aA om om];exact aY ⟨i+1,rfl,om,by rw[kS,hall,hk];rfl,ho⟩ (by simp[n0,RowKit.intOf];omega)
 ·simp only[hlt,agX,i_f];refine hK _ _ ⟨?_,ho.done⟩;rw[show o.keys.length=i by omega,hall]
end
section
open Eng Go.RowKit
 attribute [local congr] AO
theorem OwnS.aeI {w2 w4:World}{L2 L4:List Ent}(h2:Own w0 w2 L2)(h4:Own w0 w4 L4):Kept (InW w0) w2 w4:=fun b hb=>(h4.done.block b hb).trans (h2.done.block b hb).symm
theorem ObAt.later {w2 w4:World}{L2 L4:List Ent}(h:ObAt (InW w0) w2 o vk vc cs)(h2:Own w0 w2 L2)(h4:Own w0 w4 L4):ObAt (InW w4) w4 o vk vc cs:=by
 have hk:=h.kept (OwnS.aeI h2 h4);exact⟨⟨hk.keys.1,(fun p l c e hn=>ajE (hk.keys.2.1 p l c e hn) h4.size),hk.keys.2.2⟩,⟨hk.kids.1,(fun p l c e hn=>ajE (hk.kids.2.1 p l c e hn) h4.size),hk.kids.2.2⟩,OVs.mono (fun _ hb=>ajE hb h4.size) _ _ hk.all⟩
theorem Tt:∀{l:List (List UInt8)} {k:List UInt8},k∈l->k.length<=Pl.tot l
|a::l,k,h=>by
  simp only[Pl.tot,aiW,akX];rcases ahG.1 h with rfl|h
  ·omega
  ·have:=Tt h;simp only[Pl.tot] at this;omega
theorem RS:∀{l:List Ob} {o:Ob},o∈l->o.wt<=Ob.wts l
|a::l,o,h=>by
  rw[Ob.wts];rcases ahG.1 h with rfl|h
  ·omega
  ·have:=RS h;omega
theorem Ob.nE (o:Ob):o.wt=6+o.s.length+Pl.tot o.keys+Ob.wts o.kids:=by cases o;rw[Ob.wt];rfl
theorem Ob.H4 (o:Ob):6<=o.wt:=by rw[o.nE];omega
theorem SM:∀l:List Ob,l.length*6<=Ob.wts l
|[]=>by simp
|a::l=>by
  have:=SM l;have:=a.H4;rw[Ob.wts,ahU];omega
theorem Es (hi:i < o.kids.length):o.kids[i].wt < o.wt:=by
 have:=RS (ahP hi);rw[o.nE];omega
theorem GM (d:Nat)(l:List Ob)(i:Nat)(hi:i < l.length):Vl.lS d (l.drop i)=if Vl.check d l[i]≠0 then Vl.check d l[i] else Vl.lS d (l.drop (i+1)):=by
 rw[ajB hi,Vl.lS]
theorem Ml :o.keys.length<=o.wt:=by
 have h:∀l:List (List UInt8),l.length<=Pl.tot l:=by
  intro l
  induction l with
 |nil=>simp
 |cons a l ih=>simp only[Pl.tot,aiW,akX,ahU] at ih ⊢;omega
 have:=h o.keys;rw[o.nE];omega
theorem pP {o:Ob}:o.kids.length<=o.wt:=by
 have:=SM o.kids;rw[o.nE];omega
theorem QD :o.s.length<=o.wt:=by rw[o.nE];omega
theorem O7 {k:List UInt8}(h:k∈o.keys):k.length<=o.wt:=by
 have:=Tt h;rw[o.nE];omega
theorem S8 (h:Vl.why d o≠0):Vl.check d o=Vl.why d o:=by rw[Vl.Ce,agW h]
theorem K3 (n:Nat):∀(o:Ob) (v:Value) (d:Nat) (w:World),o.wt<=n->OV (InW w) w v o->o.wt<=4611686018427387904->d<=1000 ->
  Ret prog 143 #[v,.int .i64 (d:Int)] w (fun v w'=>v=.int .i64 (Vl.check d o)∧Below w.heap.size w w'):=by
 induction n with
|zero=>intro o v d w h;have:=o.H4;omega
|succ n ih=>
 intro o v d w hn hov hb hd;obtain⟨vk,vc,cs,rfl,ha⟩:=hov.open;refine aP fun K hK=>tE ?_;unfold mZ nz;refine eW o ha.keys.one ha.kids.one (Own.start w) fun b w1 ho=>?_;simp only[rs];have out:∀(e:Int) (W:World) (L:List Ent),Own w W L->Vl.why d o=e->e≠0->K (.returned (.int .i64 e)) W:=by
  intro e W L ho h1 h2;exact hK _ _ ⟨by rw[S8 (by rw[h1];exact h2),h1],ho.done⟩
 by_cases h24:(24:Int) < (d:Int)
 ·simp only[h24,agY,i_t];exact out 7 w1 _ ho (by rw[Vl.why,agW om]) dc
 simp only[h24,agX,i_f,ob_v ho 0 rfl];refine rN (Mv o _ w1 (ha.in_ ho).ov) rfl ho fun w2 ho=>?_;have h24':¬24 < d:=om
 cases hu:Vl.fL o with
|false=>
  simp only[rs,aiR,g_un];exact out 10 w2 _ ho (by rw[Vl.why,agV h24',agW (.inl hu)]) dc
|true=>
 have hst:(o.k=9∧1 < d)∨¬(o.k=9∧1 < d):=by by_cases h:(o.k=9∧1 < d)<;>simp[h]
 have hgt:∀(A B:Prop),(o.k=9∧1 < d->A)->(¬(o.k=9∧1 < d)->B)->IfX (.bool (decide (o.k=9)&&decide ((1:Int) < (d:Int)))) A B:=by
  intro A B hA hB;by_cases h:(o.k=9∧1 < d)
  ·have e:(decide (o.k=9)&&decide ((1:Int) < (d:Int)))=true:=by simp[h.1];omega
   rw[e,i_t];exact hA h
  ·have e:(decide (o.k=9)&&decide ((1:Int) < (d:Int)))=false:=by
    rw[amH];by_cases h9:o.k=9
    ·right;rw[ajI];intro h1;exact h ⟨h9,om⟩
    ·left;exact ahA h9
   rw[e,i_f];exact hB h
 simp +contextual only[rs,gs,aiQ,fI,ob_k ho 0 rfl];refine hgt _ _ (fun h9=>?_) fun h9=>?_
 ·exact out 10 w2 _ ho (by rw[Vl.why,agV h24',agW (.inr h9)]) dc
 have hno:¬(Vl.fL o=false∨(o.k=9∧1 < d)):=by
  rintro (h|h)
  ·rw[hu] at h;cases h
  ·exact h9 h
 rw[ob_v ho 0 rfl];refine rN (SB o _ w2 (ha.in_ ho).ov) rfl ho fun w3 ho=>?_;cases hfi:Vl.fits o with
|false=>
  simp only[rs,aiR];exact out 2 w3 _ ho (by rw[Vl.why,agV h24',agV hno,agW hfi]) dc
|true=>
 have hfi':¬Vl.fits o=false:=by rw[hfi];decide
 simp only[rs,aiQ];refine quiet ?_;refine q_do _ (fun _=>bY Zd) ?_;refine q_at (.string ⟨o.s.toArray⟩) (fun W hW=>aB HI ((ho.grow hW).cell 0 rfl 3 rfl)) ?_;refine O9 ahF ?_;refine q_do _ (fun _=>bY acB) ?_;refine q_at (.int .i64 o.k) (fun W hW=>aB cI ((ho.grow hW).cell 0 rfl 0 rfl)) ?_;refine uO _ (fun W hW=>U4 (Pk o.k W) hW) ?_;refine XL ?_;intro w4 hW;have ho:=ho.grow hW;by_cases hlo:((Vl.long o.k:Nat):Int) < (o.s.length:Int)
 ·simp only[hlo,agY,i_t];exact out 5 w4 _ ho (by rw[Vl.why,agV h24',agV hno,agV hfi',agW om]) dc
 have hlo':¬Vl.long o.k < o.s.length:=om
 have lc:∀{W:World} {L:List Ent},Own w W L->∀{PK:PKT} {K:VWP},DoX prog (mB .len #[23] 3 #[false] #[vc]) W PK K=K (.int .i64 (o.kids.length:Int)) W:=fun ho=>bB ahN (ha.own ho).kids.1;simp only[hlo,agX,i_f,jP,cZ ho 0 rfl,lc ho,rs];by_cases hmany:(8191:Int) < (o.kids.length:Int)
 ·simp only[hmany,agY,i_t];exact out 6 w4 _ ho (by rw[Vl.why,agV h24',agV hno,agV hfi',agV hlo',agW om]) dc
 have hmany':¬8191 < o.kids.length:=om
 simp only[hmany,agX,i_f,ob_v ho 0 rfl];refine rN (RB o _ w4 (ha.in_ ho).ov (by have:=QD (o:=o);omega) (by have:=Ml (o:=o);omega) (fun k hk=>by have:=O7 hk;omega)) rfl ho fun w5 ho=>?_;cases hfo:Vl.form o with
|false=>
  simp only[rs,aiR];exact out 3 w5 _ ho (by rw[Vl.why,agV h24',agV hno,agV hfi',agV hlo',agV hmany',agW hfo]) dc
|true=>
 have hfo':¬Vl.form o=false:=by rw[hfo];decide
 have hw0:Vl.why d o=0:=by rw[Vl.why,agV h24',agV hno,agV hfi',agV hlo',agV hmany',agV hfo']
 have hch:Vl.check d o=Vl.lS (d+1) o.kids:=by rw[Vl.Ce,agV (by simp[hw0])]
 rw[hch] at hK;simp only[rs,aiQ,cZ ho 0 rfl,lc ho];refine loop (fun vs w'=>∃(i:Nat),vs=[.int .i64 i]∧i<=o.kids.length∧Vl.lS (d+1) o.kids=Vl.lS (d+1) (o.kids.drop i)∧Own w w' [obE b o vk vc]) (fun vs _=>o.kids.length - n0 vs) ⟨0,rfl,om,rfl,ho⟩ ?_;rintro vs w6 ⟨i,rfl,hi,hT,ho⟩ _;rw[hT] at hK;simp only[kF,gd,rs,nz];by_cases hlt:(i:Int) < (o.kids.length:Int)
 ·have hi':i < o.kids.length:=om
  simp only[hlt,agY,i_t];rw[GM _ _ _ hi'] at hK hT;have hai:=ha.own ho;refine Ym hai.kids.1 hai.all hi' fun v hv=>?_;obtain⟨vk',vc',cs',rfl,hkid⟩:=hv.open;have ho6:=ho;refine eX ho fun b7 w7 ho=>?_;refine bD 0 hkid.keys.one hkid.kids.one ho rfl fun w8 ho=>?_;have ho:Own w w8 [obE b7 o.kids[i] vk' vc',obE b o vk vc]:=ho;rw[ob_v ho 0 rfl,aA om om,show (d:Int)+1=((d+1:Nat):Int) by omega];have hkw:=Es hi';refine rN (ih o.kids[i] _ (d+1) w8 om (hkid.later ho6 ho).ov om om) rfl ho fun w9 ho=>?_;simp only[rs];by_cases hc0:Vl.check (d+1) o.kids[i]=0
  ·simp only[hc0,ne_eq,not_true,agX,i_f];rw[aA om om];rw[agV (by simp[hc0])] at hT;exact aY ⟨i+1,rfl,om,hT,ho.tail⟩ (by simp[n0,RowKit.intOf];omega)
  ·simp only[hc0,ne_eq,akI,agY,i_t];rw[agW hc0] at hK;exact hK _ _ ⟨rfl,ho.done⟩
 ·simp only[hlt,agX,i_f];rw[amI om,Vl.lS] at hK;exact hK _ _ ⟨rfl,ho.done⟩
theorem pR (o:Ob)(v:Value)(w:World)(h:OV (InW w) w v o)(hb:o.wt<=4611686018427387904):Ret prog 74 #[v] w (fun v w'=>v=.int .i64 (Vl.check 1 o)∧Below w.heap.size w w'):=by
 obtain⟨vk,vc,cs,rfl,ha⟩:=h.open;refine aP fun K hK=>tF ?_;unfold mO nz;refine eW o ha.keys.one ha.kids.one (Own.start w) fun b w1 ho=>?_;rw[ob_v ho 0 rfl];refine rN (K3 o.wt o _ 1 w1 (ahD _) (ha.in_ ho).ov hb om) rfl ho fun w2 ho=>?_;exact hK _ _ ⟨rfl,ho.done⟩
theorem Qp (l:List Ob)(i:Nat)(hi:i < l.length):Vl.oY (l.take (i+1))=Vl.oY (l.take i)+Vl.size l[i]:=by
 have h:∀(l:List Ob) (o:Ob),Vl.oY (l++[o])=Vl.oY l+Vl.size o:=by
  intro l o
  induction l with
 |nil=>simp[Vl.oY]
 |cons a l ih=>rw[akU,Vl.oY,ih,Vl.oY];omega
 rw[aiG hi,h]
theorem H3 (l:List Ob)(i:Nat):Vl.oY (l.take i)<=Vl.oY l:=by
 induction l generalizing i with
|nil=>simp
|cons a l ih=>
  cases i with
 |zero=>simp[Vl.oY]
 |succ i=>rw[amE,Vl.oY,Vl.oY];have:=ih i;omega
theorem Rn (n:Nat):∀(o:Ob) (v:Value) (w:World),o.wt<=n->OV (InW w) w v o->o.wt<=4611686018427387904 ->
  Ret prog 49 #[v] w (fun v w'=>v=.int .i64 (Vl.size o:Nat)∧Below w.heap.size w w'):=by
 induction n with
|zero=>intro o v w h;have:=o.H4;omega
|succ n ih=>
 intro o v w hn hov hb;obtain⟨vk,vc,cs,rfl,ha⟩:=hov.open;refine aP fun K hK=>vT ?_;unfold oR nz;refine eW o ha.keys.one ha.kids.one (Own.start w) fun b w1 ho=>?_;have hsl:=QD (o:=o);have hkl:=Ml (o:=o);have hcl:=pP (o:=o);have hsz:=Vl.Sw o;have htd:∀m:Nat,(m:Int).tdiv 50=((m / 50:Nat):Int):=fun m=>by rw[apE om];omega
 have lk:∀{W:World} {L:List Ent},Own w W L->∀{PK:PKT} {K:VWP},DoX prog (mB .len #[22] 3 #[false] #[vk]) W PK K=K (.int .i64 (o.keys.length:Int)) W:=fun ho=>bB ahM (ha.own ho).keys.1;have lc:∀{W:World} {L:List Ent},Own w W L->∀{PK:PKT} {K:VWP},DoX prog (mB .len #[23] 3 #[false] #[vc]) W PK K=K (.int .i64 (o.kids.length:Int)) W:=fun ho=>bB ahN (ha.own ho).kids.1;rw[C5,ob_s ho 0 rfl,fP ahF,TX dc,htd,aA om om,KF,aA om om,mJ,eR ho 0 rfl,lk ho];have ht50:∀i,((o.keys.take i).map fun k=>k.length / 50).sum<=(o.keys.map fun k=>k.length / 50).sum:=by
  intro i
  conv=>rhs;rw[<-aiJ i o.keys,aiN,aoK]
  omega
 have hse:=Vl.size_eq o;refine loop (fun vs w'=>∃(i:Nat) (m:Int),vs=[.int .i64 m,.int .i64 i]∧i<=o.keys.length∧m=((1+o.s.length / 50+((o.keys.take i).map fun k=>k.length / 50).sum:Nat):Int)∧Own w w' [obE b o vk vc]) (fun vs _=>o.keys.length - n1 vs) ⟨0,_,rfl,om,sm,ho⟩ ?_;rintro vs w2 ⟨i,m,rfl,hi,rfl,ho⟩ _;have h5i:=ht50 i;simp only[kV,gd,rs,nz];by_cases hlt:(i:Int) < (o.keys.length:Int)
 ·have hi':i < o.keys.length:=om
  simp only[hlt,agY,i_t];refine Gz (.string ⟨(o.keys[i]).toArray⟩) ahM krx (ha.own ho).keys.1 om (by rw[ahI];exact eM hi') fun q hq=>?_;have hkm:=O7 (ahP hi');have h5s:=ht50 (i+1);have hss:((o.keys.take (i+1)).map fun k=>k.length / 50).sum=((o.keys.take i).map fun k=>k.length / 50).sum+o.keys[i].length / 50:=by
   rw[aiG hi',aiN,aoK];simp
  rw[aO HI hq,fP ahF,TX dc,htd,aA (n:=((o.keys[i].length / 50:Nat):Int)) om om];simp only[rs];rw[aA om om,aA om om];exact aY ⟨i+1,_,rfl,om,by rw[hss];omega,ho⟩ (by simp[n1,RowKit.intOf];omega)
 simp only[hlt,agX,i_f,jP,cZ ho 0 rfl,lc ho];have hik:i=o.keys.length:=om
 subst hik;rw[ajG];refine loop (fun vs w'=>∃(i:Nat) (m:Int),vs=[.int .i64 m,.int .i64 i]∧i<=o.kids.length∧m=((1+o.s.length / 50+(o.keys.map fun k=>k.length / 50).sum+Vl.oY (o.kids.take i):Nat):Int)∧Own w w' [obE b o vk vc]) (fun vs _=>o.kids.length - n1 vs) ⟨0,_,rfl,om,by simp[Vl.oY],ho⟩ ?_;rintro vs w3 ⟨i,m,rfl,hi2,rfl,ho⟩ _;simp only[kX,gd,rs,nz];have hst:=H3 o.kids i;by_cases hlt:(i:Int) < (o.kids.length:Int)
 ·have hi':i < o.kids.length:=om
  simp only[hlt,agY,i_t];have hai:=ha.own ho;refine Ym hai.kids.1 hai.all hi' fun v hv=>?_;obtain⟨vk',vc',cs',rfl,hkid⟩:=hv.open;have ho6:=ho;refine eX ho fun b7 w7 ho=>?_;refine bD 0 hkid.keys.one hkid.kids.one ho rfl fun w8 ho=>?_;have ho:Own w w8 [obE b7 o.kids[i] vk' vc',obE b o vk vc]:=ho;rw[ob_v ho 0 rfl];have hkw:=Es hi';refine rN (ih o.kids[i] _ w8 om (hkid.later ho6 ho).ov om) rfl ho fun w9 ho=>?_;have hsd:=Qp o.kids i hi';have hst2:=H3 o.kids (i+1);simp only[rs];rw[aA om om,aA om om];exact aY ⟨i+1,_,rfl,om,by rw[hsd];omega,ho.tail⟩ (by simp[n1,RowKit.intOf];omega)
 ·simp only[hlt,agX,i_f];rw[aiF om];refine hK _ _ ⟨?_,ho.done⟩;rw[hse]
end
section
open Eng
def mN(t0 t1 t2 w)(K:KT):=nz Tryz.f254 1 [] [] [] (zg [0,1,2] [t0,t1,t2]) w K
theorem tW{t0 t1 t2 w K}(h:mN t0 t1 t2 w K):Calls prog 254 #[t0,t1,t2] w K:=cw Tryz.func254 h
def pM(t0 t1 t2 w)(K:KT):=nz Tryz.f255 1 [] [] [] (zg [0,1,2] [t0,t1,t2]) w K
theorem zC{t0 t1 t2 w K}(h:pM t0 t1 t2 w K):Calls prog 255 #[t0,t1,t2] w K:=cw Tryz.func255 h
def Hb(t0 w)(K:KT):=nz Tryz.f215 1 [] [] [] (zg [0] [t0]) w K
theorem HC{t0 w K}(h:Hb t0 w K):Calls prog 215 #[t0] w K:=cw Tryz.func215 h
def uY(t1 t13 t14 t15 w)(N1:JT)(K:KT):=nz Tryz.f216 43 [N1] [nh 9 [15]] [] (zg [1,13,14,15] [t1,t13,t14,t15]) w K
def Ay(t0 w)(K:KT):=nz Tryz.f216 1 [] [(9,[15],fun s v j w f=>uY (s 1) (s 13) (s 14) (vg v 0) w (f 0) K)] [] (zg [0] [t0]) w K
theorem DL{t0 w K}(h:Ay t0 w K):Calls prog 216 #[t0] w K:=cz [] [(4,[15])] Tryz.func216 h
def D8(t0 w)(K:KT):=nz Tryz.f213 1 [] [] [] (zg [0] [t0]) w K
theorem Hf{t0 w K}(h:D8 t0 w K):Calls prog 213 #[t0] w K:=cw Tryz.func213 h
def BN(t0 w)(K:KT):=nz Tryz.f214 1 [] [] [] (zg [0] [t0]) w K
theorem EY{t0 w K}(h:BN t0 w K):Calls prog 214 #[t0] w K:=cw Tryz.func214 h
def qI(t2 t4 t13 w)(K:KT):=nz Tryz.f212 509 [] [] [] (zg [2,4,13] [t2,t4,t13]) w K
def qP(t2 t4 t8 w)(K:KT):=nz Tryz.f212 125 [] [(20,[13],fun s v j w f=>qI (s 2) (s 4) (vg v 0) w K)] [] (zg [2,4,8] [t2,t4,t8]) w K
def ED(t0 w)(K:KT):=nz Tryz.f212 1 [] [(14,[8],fun s v j w f=>qP (s 2) (s 4) (vg v 0) w K)] [] (zg [0] [t0]) w K
theorem GF{t0 w K}(h:ED t0 w K):Calls prog 212 #[t0] w K:=cz [(7,[8]),(10,[13])] [] Tryz.func212 h
def Ef(t0 t1 w)(K:KT):=nz Tryz.f211 1 [] [] [] (zg [0,1] [t0,t1]) w K
theorem GZ{t0 t1 w K}(h:Ef t0 t1 w K):Calls prog 211 #[t0,t1] w K:=cw Tryz.func211 h
def oA(t1 t105 t106 t107 w)(N1:JT)(K:KT):=nz Tryz.f153 1535 [N1] [nh 19 [107]] [] (zg [1,105,106,107] [t1,t105,t106,t107]) w K
def Cm(t0 t1 w)(K:KT):=nz Tryz.f153 1 [] [(19,[107],fun s v j w f=>oA (s 1) (s 105) (s 106) (vg v 0) w (f 0) K)] [] (zg [0,1] [t0,t1]) w K
theorem E7{t0 t1 w K}(h:Cm t0 t1 w K):Calls prog 153 #[t0,t1] w K:=cz [] [(9,[107])] Tryz.func153 h
def wJ(t0 w)(K:KT):=nz Tryz.f152 1 [] [] [] (zg [0] [t0]) w K
theorem B2{t0 w K}(h:wJ t0 w K):Calls prog 152 #[t0] w K:=cw Tryz.func152 h
def iI(c r w)(K:KT):=
 eqx .eql 20 (.tmp 4) (.const .nilIface) r .nilIface w K fun d w=>IfX d (K (.returned (.tuple #[])) w) (dx (mTA r 20 223 true) w K fun a w=>exx a 1 w K fun e w=>exx a 0 w K fun f w=>IfX e (alx 223 w K fun b w=>stx 223 b f w K fun _ w=>fax 223 b 0 w K fun g w=>ldx 30 g w K fun h w=>stx 30 c h w K fun _ w=>K (.returned (.tuple #[])) w) (dx (Ev r) w K fun _ w=>K (.returned (.tuple #[])) w))
theorem A9 (t0 r:Value)(w:World)(K:Ending->World->Prop):wpX prog 12 [] [] none (VQ (Ag Tryz.f210)) (topD prog [] K) (upd (jW [t0]) 4 r) [] w=iI t0 r w K:=krx
theorem mV (h:iI t0 (recV u) w (fun e w=>R e (recM u) w)):CallsD prog 210 #[t0] u w R:=
 qK Tryz.func210 rfl rfl rfl rfl rfl rfl rfl rfl (Eq.mpr (A9 t0 (recV u) w _) h)
def kJ (x0:Deferred)(x1:Value)(K:Ending->World->Prop):=pd prog [.cell x1 30] K [x0]
def Al(b w)(K:KT):=
 alx 30 w K fun a w=>dx (PM (.func 210) #[] #[a]) w K fun c w=>DfrX (dfrV c #[]) (fun d1=>DoX prog (gI b #[]) w (kJ d1 a K) fun d w=>DoX prog (aS 30 a (iN 0)) w (kJ d1 a K) fun _ w=>AR prog [.cell a 30] K [d1] .returning w)
theorem DN{t0 w K}(h:Al t0 w K):Calls prog 151 #[t0] w K:=cw Tryz.func151 h
def Bx(t0 w)(K:KT):=nz Tryz.f86 1 [] [] [] (zg [0] [t0]) w K
theorem ES{t0 w K}(h:Bx t0 w K):Calls prog 86 #[t0] w K:=cw Tryz.func86 h
end
section
open Eng Go.RowKit
 attribute [local congr] AO
theorem pS (n a b:Int)(w:World):Ret prog 254 #[.int .i64 n,.int .i64 a,.int .i64 b] w (fun v w'=>v=.bool (decide (a<=n)&&decide (n<=b))∧w=w'):=by
 refine aP fun K hK=>tW ?_;unfold mN nz;simp +contextual only[rs,gs];exact hK _ _ ⟨rfl,rfl⟩
theorem L9 (n a b:Int)(w:World):Ret prog 255 #[.int .i64 n,.int .i64 a,.int .i64 b] w (fun v w'=>v=.bool (decide (a<=n)&&decide (n<=b))∧w=w'):=by
 refine aP fun K hK=>zC ?_;unfold pM nz;simp +contextual only[rs,gs];exact hK _ _ ⟨rfl,rfl⟩
theorem Qw {p:UInt8->Bool}:∀(s:List UInt8),s.takeWhile p=s->∀x∈s,p x=true
|[],_,x,hx=>by cases hx
|a::s,h,x,hx=>by
  rw[anR] at h;split at h
  ·rename_i ha
   injection h with _ h
   rcases ahG.1 hx with rfl|hx
   ·exact ha
   ·exact Qw s h x hx
  ·cases h
theorem Rz {p:UInt8->Bool}:∀(s:List UInt8) {a:UInt8} {t:List UInt8},s.dropWhile p=a::t->p a=false
|[],_,_,h=>by cases h
|b::s,a,t,h=>by
  rw[List.dropWhile_cons] at h;split at h
  ·exact Rz s h
  ·rename_i hb
   injection h with h _
   subst h;simpa using hb
theorem Nk (s:List UInt8)(w:World):Ret prog 215 #[.string ⟨s.toArray⟩] w (fun v w'=>v=.bool (Vl.name s)∧w=w'):=by
 refine aP fun K hK=>HC ?_;unfold Hb nz;rw[fP ahF,Vu];by_cases h:(s.length:Int)<=127
 ·have hi:∀{K':VWP},K' (.int .i64 (Lib.indexByte s 0)) w->CallX prog 224 #[.string ⟨s.toArray⟩,.int .u8 0] w (pk K) K':=fun hk=>c_eq (BP s 0 w) hk;simp only[h,agY,rs];refine hi ?_;simp only[rs];refine hK _ _ ⟨?_,rfl⟩;rw[Vl.name,ahB (show s.length<=127 by omega),alK]
  congr 1
  rw[decide_eq_decide];rcases NY 0 s with ⟨h1,h2,h3⟩|⟨i,h1,hil,h3,h4⟩
  ·rw[h1];refine⟨fun _ hm=>?_,fun _=>by decide⟩;have:=Qw s h2 0 hm;simp at this
  ·rw[h1];refine⟨fun h=>by omega,fun hm=>absurd ?_ hm⟩;have hd:s.drop i=s[i]::s.drop (i+1):=ajB hil;have h0:s[i]=0:=by
    have:=Rz s (h4.trans hd);simpa using this
   exact h0▸ahP hil
 ·simp only[h,agX,rs,g_un];refine hK _ _ ⟨?_,rfl⟩;rw[Vl.name,ahA (show ¬s.length<=127 by omega)];rfl
theorem M5 (o:Ob)(v:Value)(w:World)(h:OV (InW w) w v o)(hb:o.keys.length<=9223372036854775807) :
  Ret prog 216 #[v] w (fun v w'=>v=.bool (Vl.rising o)∧Below w.heap.size w w'):=by
 obtain⟨vk,vc,cs,rfl,ha⟩:=h.open;refine aP fun K hK=>DL ?_;unfold Ay nz;refine eW o ha.keys.one ha.kids.one (Own.start w) fun b w1 ho=>?_;have lk:∀{W:World} {L:List Ent},Own w W L->∀{PK:PKT} {K:VWP},DoX prog (mB .len #[22] 3 #[false] #[vk]) W PK K=K (.int .i64 (o.keys.length:Int)) W:=fun ho=>bB ahM (ha.own ho).keys.1;have lc:∀{W:World} {L:List Ent},Own w W L->∀{PK:PKT} {K:VWP},DoX prog (mB .len #[23] 3 #[false] #[vc]) W PK K=K (.int .i64 (o.kids.length:Int)) W:=fun ho=>bB ahN (ha.own ho).kids.1;simp only[rs,mJ,jP,eR ho 0 rfl,cZ ho 0 rfl,lk ho,lc ho];by_cases hlen:(o.keys.length:Int)≠(o.kids.length:Int)
 ·simp only[ahB hlen,i_t];refine hK _ _ ⟨?_,ho.done⟩;have:¬o.keys.length=o.kids.length:=fun e=>hlen (by rw[e]);simp[Vl.rising,this]
 have hle:o.keys.length=o.kids.length:=om
 simp only[ahA hlen,i_f];have hR:Vl.rising o=(List.range o.keys.length).all (Vl.vX o):=by simp[Vl.rising,hle]
 rw[hR] at hK;refine loop (fun vs w'=>∃(i:Nat),vs=[.int .i64 i]∧i<=o.keys.length∧(List.range i).all (Vl.vX o)=true∧Own w w' [obE b o vk vc]) (fun vs _=>o.keys.length - n0 vs) ⟨0,rfl,om,sm,ho⟩ ?_;rintro vs w2 ⟨i,rfl,hi,hall,ho⟩ _;simp only[uY,gd,rs,nz];by_cases hlt:(i:Int) < (o.keys.length:Int)
 ·have hi':i < o.keys.length:=om
  simp only[hlt,agY,i_t];have ho2:=ha.own ho;refine Gz (.string ⟨(o.keys[i]).toArray⟩) ahM krx ho2.keys.1 om (by rw[ahI];exact eM hi') fun q hq=>?_;rw[aO HI hq];refine c_eq (Nk o.keys[i] w2) ?_;obtain⟨kb,koff,hia,hkc⟩:=LG ho2.kids.1 ho2.all (show i < o.kids.length by omega);have hlk:∀{PK:PKT} {K:VWP},DoX prog (aI 3 (.pointer (some ⟨kb,koff,none⟩))) w2 PK K=K (.int .i64 o.kids[i].k) w2:=aO cI hkc;have hprev:decide (0 < (i:Int))=true->∃(b' off':Nat),(∀{PK:PKT} {K:VWP},DoX prog (mIA 22 vk (.int .i64 (IntKind.wrap .i64 ((i:Int) - 1)))) w2 PK K=K (.pointer (some ⟨b',off',none⟩)) w2) ∧
    (∀{PK:PKT} {K:VWP},DoX prog (aI 9 (.pointer (some ⟨b',off',none⟩))) w2 PK K=K (.string ⟨(o.keys.getD (i - 1) []).toArray⟩) w2):=by
   intro h;have h:=ahO h;have hj:i - 1 < o.keys.length:=om
   obtain⟨b',off',cap',rfl,hc'⟩:=cB ho2.keys.1 (show 0 < o.keys.length by omega);refine⟨b',off'+(i - 1),?_,?_⟩
   ·intro PK K;rw[aA om om];refine aE ?_;rw[eE ahM (show _=some 1 by kernel_rfl) om om,show ((i:Int) - 1).toNat*1=i - 1 by omega]
   ·intro PK K;rw[ahC,ahH hj];exact aO HI (hc' _ _ (eM hj))
  have hgi:o.keys.getD i []=o.keys[i]:=by rw[ahC,ahH hi'];rfl
  have hgk:o.kids.getD i (.mk 0 0 0 [] [] [])=o.kids[i]'(om):=by rw[ahC,ahH om];rfl
  have tail:∀(q:Bool) (N:Prop),q=!(Vl.vX o i)->(Vl.vX o i=true->N)->IfX (.bool q) (K (.returned (.bool false)) w2) N:=by
   intro q N hq hN;cases hk:Vl.vX o i with
  |false=>
    rw[hk] at hq;subst hq;rw[show (!false)=true from rfl,i_t];exact hK _ _ ⟨by rw[Cf hk hi'],ho.done⟩
  |true=>
    rw[hk] at hq;subst hq;rw[show (!true)=false from rfl,i_f];exact hN hk
  have hki:Vl.vX o i=(Vl.name o.keys[i]&&(decide (i=0)||Vl.less (o.keys.getD (i - 1) []) o.keys[i])&&!(decide (o.k=9)&&decide (o.keys[i]=Vl.lenK))&&decide ((o.kids[i]'(om)).k≠0)):=by
   rw[Vl.vX,hgi,hgk]
  by_cases hi0:i=0
  ·have hz:decide (0 < (i:Int))=false:=by rw[ajI];omega
   simp +contextual only[rs,gs,hz,G5,SY,CI,anU,anV,anA,fI,jP,ob_k ho 0 rfl,cZ ho 0 rfl,hia,hlk,g_un,p_f];refine tail _ _ ?_ fun hk=>?_
   ·rw[hki,ahB hi0];simp only[Bool.true_or,aoI,Vl.lenK,ne_eq,decide_not];generalize Vl.name o.keys[i]=a;generalize decide (o.k=9)=c;generalize decide ((o.kids[i]'(om)).k=0)=d;by_cases hL:o.keys[i]=[76,101,110,103,116,104]<;>simp only[hL,agY,agX]<;>cases a<;>cases c<;>cases d<;>rfl
   ·rw[aA om om];exact aY ⟨i+1,rfl,om,by rw[kS,hall,hk];rfl,ho⟩ (by simp[n0,RowKit.intOf];omega)
  ·have hz:decide (0 < (i:Int))=true:=by rw[decide_eq_true_iff];omega
   obtain⟨b',off',hpa,hpl⟩:=hprev hz;simp +contextual only[rs,gs,hz,G5,SY,CI,anU,anV,anA,fI,mJ,jP,ob_k ho 0 rfl,eR ho 0 rfl,cZ ho 0 rfl,hia,hlk,hpa,hpl,g_un];refine tail _ _ ?_ fun hk=>?_
   ·rw[hki,ahA hi0];simp only[aoC,Vl.lenK,ne_eq,decide_not];generalize Vl.name o.keys[i]=a;generalize decide (o.k=9)=c;generalize decide ((o.kids[i]'(om)).k=0)=d;show _=!(_&&Op.bytesLess (o.keys.getD (i - 1) []) o.keys[i]&&_&&_);generalize Op.bytesLess (o.keys.getD (i - 1) []) o.keys[i]=e;by_cases hL:o.keys[i]=[76,101,110,103,116,104]<;>simp only[hL,agY,agX]<;>cases a<;>cases c<;>cases d<;>cases e<;>rfl
   ·rw[aA om om];exact aY ⟨i+1,rfl,om,by rw[kS,hall,hk];rfl,ho⟩ (by simp[n0,RowKit.intOf];omega)
 ·simp only[hlt,agX,i_f];refine hK _ _ ⟨?_,ho.done⟩;rw[show o.keys.length=i by omega,hall]
theorem TL (o:Ob)(v:Value)(w:World)(h:OV (InW w) w v o):Ret prog 213 #[v] w (fun v w'=>v=.bool (Vl.fits o)∧Below w.heap.size w w'):=by
 obtain⟨vk,vc,cs,rfl,ha⟩:=h.open;refine aP fun K hK=>Hf ?_;unfold D8 nz;refine eW o ha.keys.one ha.kids.one (Own.start w) fun b w1 ho=>?_;simp only[fI,ob_k ho 0 rfl,rs];by_cases k1:o.k=1
 ·simp only[k1,agY,i_t,DI,ob_n ho 0 rfl];refine c_eq (pS _ _ _ w1) (hK _ _ ⟨?_,ho.done⟩);rw[Vl.fits,agW k1,alO]
 by_cases k2:o.k=2
 ·simp only[k2,Int.reduceEq,agY,agX,i_t,i_f,DI,ob_n ho 0 rfl];refine c_eq (pS _ _ _ w1) (hK _ _ ⟨?_,ho.done⟩);rw[Vl.fits,agV k1,agW k2,alO]
 by_cases k3:o.k=3
 ·simp only[k3,Int.reduceEq,agY,agX,i_t,i_f,DI,ob_n ho 0 rfl];refine c_eq (pS _ _ _ w1) (hK _ _ ⟨?_,ho.done⟩);rw[Vl.fits,agV k1,agV k2,agW k3,alO]
 by_cases k8:o.k=8
 ·simp only[k8,Int.reduceEq,agY,agX,i_t,i_f,DI,ob_n ho 0 rfl];refine c_eq (pS _ _ _ w1) ?_;have hf:Vl.fits o=(decide (1<=o.n)&&decide (o.n<=8191)&&(decide (0<=o.g)&&decide (o.g<=65535))):=by
   rw[Vl.fits,agV k1,agV k2,agV k3,agW k8,alO,alO]
  rw[hf] at hK;cases hc:(decide (1<=o.n)&&decide (o.n<=8191)) with
 |false=>
   rw[hc] at hK;rw[g_ft,g_ft,g_ft,p_f];exact hK _ _ ⟨rfl,ho.done⟩
 |true=>
   rw[hc] at hK;rw[g_tt,Se,g_tt,ob_g ho 0 rfl,g_tt];refine c_eq (L9 _ _ _ w1) ?_;rw[p_t];exact hK _ _ ⟨rfl,ho.done⟩
 simp only[k1,k2,k3,k8,agX,i_f];refine hK _ _ ⟨?_,ho.done⟩;rw[Vl.fits,agV k1,agV k2,agV k3,agV k8]
def IM (o:Ob):Bool:=if o.k=4 then decide (o.s.length<=32767) else if o.k=5 then decide (o.s.length<=127) else decide (o.s.length<=1048576)
theorem P6 (o:Ob)(v:Value)(w:World)(h:OV (InW w) w v o):Ret prog 214 #[v] w (fun v w'=>v=.bool (IM o)∧Below w.heap.size w w'):=by
 obtain⟨vk,vc,cs,rfl,ha⟩:=h.open;refine aP fun K hK=>EY ?_;unfold BN nz;refine eW o ha.keys.one ha.kids.one (Own.start w) fun b w1 ho=>?_;simp only[fI,ob_k ho 0 rfl,rs];have hi:∀m:Nat,decide ((o.s.length:Int)<=(m:Int))=decide (o.s.length<=m):=fun m=>by rw[decide_eq_decide];omega
 by_cases k4:o.k=4
 ·simp only[k4,agY,i_t,C5,ob_s ho 0 rfl,fP ahF,rs];refine hK _ _ ⟨?_,ho.done⟩;rw[IM,agW k4,<-hi];rfl
 by_cases k5:o.k=5
 ·simp only[k5,Int.reduceEq,agY,agX,i_t,i_f,C5,ob_s ho 0 rfl,fP ahF,rs];refine hK _ _ ⟨?_,ho.done⟩;rw[IM,agV k4,agW k5,<-hi];rfl
 simp only[k4,k5,agX,i_f,C5,ob_s ho 0 rfl,fP ahF,rs];refine hK _ _ ⟨?_,ho.done⟩;rw[IM,agV k4,agV k5,<-hi];rfl
theorem Qq (h:Vl.fL o=true):IM o=!decide (Vl.long o.k < o.s.length):=by
 have key:∀m:Nat,decide (o.s.length<=m)=!decide (m < o.s.length):=fun m=>by
  rw[aoJ];simp
 unfold IM Vl.long;by_cases k4:o.k=4
 ·rw[agW k4,agV om,agV om,key]
 by_cases k5:o.k=5
 ·rw[agV k4,agW k5,agW k5,key]
 by_cases k9:o.k=9
 ·rw[agV k4,agV k5,agV k5,agW k9,key]
 have hs:o.s=[]:=by
  unfold Vl.fL Vl.used at h
  revert h
  split
  ·intro h;cases h
  ·rename_i n g s ks cs he
   intro h;simp only[ahR,alH,aiI] at h;have hsf:s=false:=by
    revert he
    repeat' split
    all_goals (intro he;first|(cases he;done)|skip)
    all_goals (simp only[akR,akV] at he;first|exact he.2.2.1.symm|omega)
   rcases h.1.1.2 with h1|h1
   ·rw[hsf] at h1;cases h1
   ·exact h1
 rw[agV k4,agV k5,agV k5,agV k9,hs];rfl
end
section
open Eng Go.RowKit
 attribute [local congr] AO
def uC (u:Bool×Bool×Bool×Bool×Bool):List Value:=[.bool u.1,.bool u.2.1,.bool u.2.2.1,.bool u.2.2.2.1,.bool u.2.2.2.2]
def uV (u:Bool×Bool×Bool×Bool×Bool):Value:=.agg (uC u).toArray
def uE (b:Nat)(u:Bool×Bool×Bool×Bool×Bool):Ent:=.cells b (uC u) 225
def u0:Bool×Bool×Bool×Bool×Bool:=(false,false,false,false,false)
theorem aggU:aggN prog 225=some 5:=krx
theorem szU:(Tryz.prog.info? 225).map (·.size)=some 5:=krx
theorem abY (u:Bool×Bool×Bool×Bool×Bool):∀v∈uC u,v.oneCell'=true:=by
 intro v hv;simp only[uC,ahG,ajH,or_false] at hv;rcases hv with rfl|rfl|rfl|rfl|rfl<;>rfl
theorem Tg:eF prog 4=true:=krx
section
variable {w:World}{PK:PKT}{K:VWP}{S:Nat->Prop}{w0:World}{L:List Ent}
theorem adP :DoX prog (mFA 225 (.pointer (some ⟨b,0,none⟩)) 0) w PK K=K (.pointer (some ⟨b,0,none⟩)) w:=aK (show fOff prog 225 0=some 0 by kernel_rfl)
theorem afD :DoX prog (mFA 225 (.pointer (some ⟨b,0,none⟩)) 1) w PK K=K (.pointer (some ⟨b,0+1,none⟩)) w:=aK (show fOff prog 225 1=some 1 by kernel_rfl)
theorem adL :DoX prog (mFA 225 (.pointer (some ⟨b,0,none⟩)) 2) w PK K=K (.pointer (some ⟨b,0+2,none⟩)) w:=aK (show fOff prog 225 2=some 2 by kernel_rfl)
theorem afM :DoX prog (mFA 225 (.pointer (some ⟨b,0,none⟩)) 3) w PK K=K (.pointer (some ⟨b,0+3,none⟩)) w:=aK (show fOff prog 225 3=some 3 by kernel_rfl)
theorem afT :DoX prog (mFA 225 (.pointer (some ⟨b,0,none⟩)) 4) w PK K=K (.pointer (some ⟨b,0+4,none⟩)) w:=aK (show fOff prog 225 4=some 4 by kernel_rfl)
theorem Zv (i:Nat){u:Bool×Bool×Bool×Bool×Bool}(u':Bool×Bool×Bool×Bool×Bool)(ho:OwnS S w0 w L)(hi:L[i]?=some (uE b u))(k:∀w',OwnS S w0 w' (L.set i (uE b u'))->K undef w') :
  DoX prog (aS 225 (.pointer (some ⟨b,0,none⟩)) (uV u')) w PK K:=iE i ho hi (new:=uC u') szU (abY u') rfl k
end
def Yb (k:Int):Value:=.tuple #[uV ((Vl.used k).getD u0),.bool (Vl.used k).isSome]
theorem Tf (k:Int)(w:World):Ret prog 212 #[.int .i64 k] w (fun v w'=>v=Yb k∧Below w.heap.size w w'):=by
 refine aP fun K hK=>GF ?_;unfold ED nz;refine bC (fun b=>.pointer (some ⟨b,0,none⟩)) (uC u0) 225 (fun _=>by kernel_rfl) (Own.start w) fun b w1 ho=>?_;have fin:∀(u:Bool×Bool×Bool×Bool×Bool) (ok:Bool),Vl.used k=(if ok then some u else none)->(ok=false->u=u0)->DoX prog (aS 225 (.pointer (some ⟨b,0,none⟩)) (uV u)) w1 (pk K) fun _ w=>
   RetX prog [.cell (.pointer (some ⟨b,0,none⟩)) 225,.val (.bool ok)] w K:=by
  intro u ok hu h0;refine Zv 0 u ho rfl fun w2 ho=>?_;refine Bp (bH (ho.agg 0 rfl aggU)) F2 (hK _ _ ⟨?_,ho.done⟩);rw[Yb,hu];cases ok with
 |true=>rfl
 |false=>rw[h0 rfl];rfl
 have b0:∀{PK:PKT} {K:VWP},DoX prog (aZ 225 #[]) w1 PK K=K (uV u0) w1:=aE krx;have b1:∀{PK:PKT} {K:VWP},DoX prog (aZ 225 #[(0,.bool true)]) w1 PK K=K (uV (true,false,false,false,false)) w1:=aE krx;have b2:∀{PK:PKT} {K:VWP},DoX prog (aZ 225 #[(2,.bool true)]) w1 PK K=K (uV (false,false,true,false,false)) w1:=aE krx;have b3:∀{PK:PKT} {K:VWP},DoX prog (aZ 225 #[(4,.bool true)]) w1 PK K=K (uV (false,false,false,false,true)) w1:=aE krx;have b4:∀{PK:PKT} {K:VWP},DoX prog (aZ 225 #[(3,.bool true),(4,.bool true)]) w1 PK K=K (uV (false,false,false,true,true)) w1:=aE krx;have b5:∀{PK:PKT} {K:VWP},DoX prog (aZ 225 #[(0,.bool true),(1,.bool true)]) w1 PK K=K (uV (true,true,false,false,false)) w1:=aE krx;have b6:∀{PK:PKT} {K:VWP},DoX prog (aZ 225 #[(2,.bool true),(3,.bool true),(4,.bool true)]) w1 PK K=K (uV (false,false,true,true,true)) w1:=aE krx;simp only[rs];by_cases k0:k=0
 ·simp only[k0,agY,i_t,b0];exact fin _ true (by simp[Vl.used,k0,u0]) sm
 simp only[k0,agX,i_f];refine join fun J hJ=>?_;by_cases k123:k=1∨k=2∨k=3
 ·have:J [.bool true] w1:=by
   refine hJ _ _ fun _=>?_;simp only[qP,gd,i_t,b1,nz];exact fin _ true (by simp[Vl.used,k0,k123]) sm
  by_cases k1:k=1
  ·simp only[k1,agY,i_t];exact this
  by_cases k2:k=2
  ·simp only[k2,Int.reduceEq,agY,agX,i_t,i_f];exact this
  have k3:k=3:=om
  simp only[k3,Int.reduceEq,agY,agX,i_t,i_f];exact this
 have k1:¬k=1:=fun h=>k123 (.inl h);have k2:¬k=2:=fun h=>k123 (.inr (.inl h));have k3:¬k=3:=fun h=>k123 (.inr (.inr h));simp only[k1,k2,k3,agX,i_f];refine hJ _ _ fun _=>?_;clear hJ;simp only[qP,gd,i_f,rs,nz];refine join fun J hJ=>?_;by_cases k45:k=4∨k=5
 ·have:J [.bool true] w1:=by
   refine hJ _ _ fun _=>?_;simp only[qI,gd,i_t,b2,nz];exact fin _ true (by simp[Vl.used,k0,k1,k2,k3,k45]) sm
  by_cases k4:k=4
  ·simp only[k4,agY,i_t];exact this
  have k5:k=5:=om
  simp only[k5,Int.reduceEq,agY,agX,i_t,i_f];exact this
 have k4:¬k=4:=fun h=>k45 (.inl h);have k5:¬k=5:=fun h=>k45 (.inr h);simp only[k4,k5,agX,i_f];refine hJ _ _ fun _=>?_;clear hJ;simp only[qI,gd,i_f,rs,nz];by_cases k6:k=6
 ·simp only[k6,agY,i_t,b3];exact fin _ true (by simp[Vl.used,k6]) sm
 by_cases k7:k=7
 ·simp only[k7,Int.reduceEq,agY,agX,i_t,i_f,b4];exact fin _ true (by simp[Vl.used,k7]) sm
 by_cases k8:k=8
 ·simp only[k8,Int.reduceEq,agY,agX,i_t,i_f,b5];exact fin _ true (by simp[Vl.used,k8]) sm
 by_cases k9:k=9
 ·simp only[k9,Int.reduceEq,agY,agX,i_t,i_f,b6];exact fin _ true (by simp[Vl.used,k9]) sm
 simp only[k6,k7,k8,k9,agX,i_f,b0];exact fin _ false (by simp[Vl.used,k0,k123,k45,k6,k7,k8,k9]) sm
theorem Rh {k:Int}{n g s ks cs:Bool}(h:Vl.used k=some (n,g,s,ks,cs)):ks=decide (k=7∨k=9):=by
 revert h
 unfold Vl.used
 repeat' split
 all_goals (intro h;first|(cases h;done)|skip)
 all_goals simp only[akR,akV] at h
 all_goals rw[<-h.2.2.2.1]
 all_goals symm
 all_goals first|(rw[ajI];omega)|(rw[decide_eq_true_iff];omega)
abbrev badE (e:Int):PanicEntry:={ v:=.iface 223 (.agg #[.int .i64 e]),recovered:=false }
theorem Ap {r:Bool}{e:Int}(h:q=r)(hok:r=true->K (.tuple #[]) w)(hbad:r=false->PK [badE e] w):CallX prog 211 #[.bool q,.int .i64 e] w PK K:=by
 subst h;refine fH (GZ (K:=fun e' w'=>(q=true->e'=.returned (.tuple #[])∧w'=w)∧(q=false->e'=.panicked [badE e]∧w'=w)) ?_) ?_
 ·unfold Ef nz;cases q with
 |true=>
   rw[Mo,show (!true)=false from rfl,i_f];exact⟨fun _=>⟨rfl,rfl⟩,fun h=>by cases h⟩
 |false=>
   rw[Mo,show (!false)=true from rfl,i_t];have hb:∀{PK:PKT} {K:VWP},DoX prog (aZ 223 #[(0,.int .i64 e)]) w PK K=K (.agg #[.int .i64 e]) w:=aE krx;rw[hb,I3 (show kT prog 223=true by kernel_rfl),Gu];exact⟨fun h=>(by cases h),fun _=>⟨rfl,rfl⟩⟩
 ·rintro e' w' ⟨h1,h2⟩;cases q with
 |true=>obtain⟨rfl,rfl⟩:=h1 rfl;exact hok rfl
 |false=>obtain⟨rfl,rfl⟩:=h2 rfl;exact hbad rfl
end
section
open Eng Go.RowKit
 attribute [local congr] AO
theorem PL (n:Nat):∀(o:Ob) (v:Value) (d:Nat) (w:World) (K:Ending->World->Prop),o.wt<=n->OV (InW w) w v o->o.wt<=4611686018427387904->1<=d->d<=1000 ->
  (Vl.check d o=0->∀w',Below w.heap.size w w'->K (.returned (.tuple #[])) w')->(Vl.check d o≠0->∀w',Below w.heap.size w w'->K (.panicked [badE (Vl.check d o)]) w') ->
  Calls prog 153 #[v,.int .i64 (d:Int)] w K:=by
 induction n with
|zero=>intro o v d w K h;have:=o.H4;omega
|succ n ih=>
 intro o v d w K hn hov hb hd1 hd hok hbad;obtain⟨vk,vc,cs,rfl,ha⟩:=hov.open;refine E7 ?_;unfold Cm nz;refine eW o ha.keys.one ha.kids.one (Own.start w) fun b w1 ho=>?_;have out:∀(e:Int) (W:World) (L:List Ent),Own w W L->Vl.why d o=e->e≠0->(pk K) [badE e] W:=by
  intro e W L ho h1 h2;have h3:Vl.check d o=e:=by rw[S8 (by rw[h1];exact h2),h1]
  rw[h3] at hbad;exact hbad h2 W ho.done
 rw[Vu];refine Ap (r:=decide (d<=24)) (by rw[decide_eq_decide];omega) (fun h24=>?_) fun h24=>out 7 w1 _ ho (by rw[Vl.why,agW (by have:=aiK h24;omega)]) dc;have h24':¬24 < d:=by have:=ahO h24;omega
 rw[fI,ob_k ho 0 rfl];refine rN (Tf o.k w1) rfl ho fun w2 ho=>?_;simp only[Yb,ex];refine bC (fun b=>.pointer (some ⟨b,0,none⟩)) (uC u0) 225 (fun _=>by kernel_rfl) ho fun b4 w3 ho=>?_;refine Zv 0 ((Vl.used o.k).getD u0) ho rfl fun w4 ho=>?_;have ho:Own w w4 [uE b4 ((Vl.used o.k).getD u0),obE b o vk vc]:=ho;have bad10:(Vl.fL o=false∨(o.k=9∧1 < d))->(pk K) [badE 10] w4:=fun h=>out 10 w4 _ ho (by rw[Vl.why,agV h24',agW h]) dc;have lk:∀{W:World} {L:List Ent},Own w W L->∀{PK:PKT} {K:VWP},DoX prog (mB .len #[22] 3 #[false] #[vk]) W PK K=K (.int .i64 (o.keys.length:Int)) W:=fun ho=>bB ahM (ha.own ho).keys.1;have lc:∀{W:World} {L:List Ent},Own w W L->∀{PK:PKT} {K:VWP},DoX prog (mB .len #[23] 3 #[false] #[vc]) W PK K=K (.int .i64 (o.kids.length:Int)) W:=fun ho=>bB ahN (ha.own ho).kids.1;cases hu:Vl.used o.k with
|none=>
  have hb10:=bad10 (.inl (by rw[Vl.fL,hu]));simp only[anB,rs,g_un];exact Ap (r:=false) rfl (fun h=>by cases h) fun _=>hb10
|some u=>
 obtain⟨un,ug,us,uks,ucs⟩:=u;rw[hu,alD] at ho;have hUo:Vl.fL o=((un||decide (o.n=0))&&(ug||decide (o.g=0))&&(us||decide (o.s=[]))&&(uks||decide (o.keys=[]))&&(ucs||decide (o.kids.length=0))):=by rw[Vl.fL,hu]
 have l0:∀{PK:PKT} {K:VWP},DoX prog (aI 4 (.pointer (some ⟨b4,0,none⟩))) w4 PK K=K (.bool un) w4:=aO Tg (ho.cell 0 rfl 0 rfl);have l1:∀{PK:PKT} {K:VWP},DoX prog (aI 4 (.pointer (some ⟨b4,0+1,none⟩))) w4 PK K=K (.bool ug) w4:=aO Tg (ho.cell 0 rfl 1 rfl);have l2:∀{PK:PKT} {K:VWP},DoX prog (aI 4 (.pointer (some ⟨b4,0+2,none⟩))) w4 PK K=K (.bool us) w4:=aO Tg (ho.cell 0 rfl 2 rfl);have l3:∀{W:World} {L:List Ent},Own w W (uE b4 (un,ug,us,uks,ucs)::L)->∀{PK:PKT} {K:VWP},DoX prog (aI 4 (.pointer (some ⟨b4,0+3,none⟩))) W PK K=K (.bool uks) W:=fun ho=>aO Tg (ho.cell 0 rfl 3 rfl);have l4:∀{PK:PKT} {K:VWP},DoX prog (aI 4 (.pointer (some ⟨b4,0+4,none⟩))) w4 PK K=K (.bool ucs) w4:=aO Tg (ho.cell 0 rfl 4 rfl);simp +contextual only[anC,rs,gs,G5,SY,CI,anU,anV,anA,adP,afD,adL,afM,afT,l0,l1,l2,l3 ho,l4,fI,DI,Se,C5,mJ,jP,ob_k ho 1 rfl,ob_n ho 1 rfl,ob_g ho 1 rfl,ob_s ho 1 rfl,eR ho 1 rfl,cZ ho 1 rfl,lk ho,lc ho,Py];refine Ap (r:=Vl.fL o&&!(decide (o.k=9)&&decide (1 < d))) ?_ (fun hq=>?_) fun hq=>?_
 ·rw[hUo,Xz o.keys,Z4 o.kids]
  congr 1
  by_cases h9:o.k=9
  ·simp only[h9,ne_eq,not_true,agX,anA,agY,alK];rw[aoJ];simp;omega
  ·simp only[h9,ne_eq,akI,agY,Bool.or_true,agX,anD,aiR]
 rotate_left
 ·refine bad10 ?_;rw[amH] at hq;rcases hq with h|h
  ·exact .inl h
  ·right;have:(decide (o.k=9)&&decide (1 < d))=true:=by simpa using h
   rw[ahR] at this;exact⟨ahO this.1,ahO this.2⟩
 rw[ahR] at hq;obtain⟨huo,hq9⟩:=hq;have hno:¬(Vl.fL o=false∨(o.k=9∧1 < d)):=by
  rintro (h|⟨h1,h2⟩)
  ·rw[huo] at h;cases h
  ·rw[ahB h1,ahB h2] at hq9;cases hq9
 rw[ob_v ho 1 rfl];refine rN (TL o _ w4 (ha.in_ ho).ov) rfl ho fun w5 ho=>?_;refine Ap (r:=Vl.fits o) rfl (fun hfi=>?_) fun hfi=>out 2 w5 _ ho (by rw[Vl.why,agV h24',agV hno,agW hfi]) dc;have hfi':¬Vl.fits o=false:=by rw[hfi];decide
 rw[ob_v ho 1 rfl];refine rN (P6 o _ w5 (ha.in_ ho).ov) rfl ho fun w6 ho=>?_;refine Ap (r:=!decide (Vl.long o.k < o.s.length)) (Qq huo) (fun hlo=>?_) fun hlo=>out 5 w6 _ ho (by rw[Vl.why,agV h24',agV hno,agV hfi',agW (by simpa using hlo)]) dc;have hlo':¬Vl.long o.k < o.s.length:=by simpa using hlo
 rw[cZ ho 1 rfl,lc ho,Vu];refine Ap (r:=decide (o.kids.length<=8191)) (by rw[decide_eq_decide];omega) (fun hm=>?_) fun hm=>out 6 w6 _ ho (by rw[Vl.why,agV h24',agV hno,agV hfi',agV hlo',agW (by have:=aiK hm;omega)]) dc;have hm':¬8191 < o.kids.length:=by have:=ahO hm;omega
 rw[ob_k ho 1 rfl,U8];have huk:=Rh hu
 -- behind the form: the kids
 have rest:∀(W:World),Vl.form o=true->Own w W [uE b4 (un,ug,us,uks,ucs),obE b o vk vc] ->
   DoX prog (aI 23 (.pointer (some ⟨b,0+5,none⟩))) W (pk K) fun t105 w=>
   DoX prog (mB .len #[23] 3 #[false] #[t105]) w (pk K) fun t106 w=>
   LoopX [(.int .i64 0)] w (fun vs1 w N1=>∀_:Sg,oA (.int .i64 (d:Int)) t105 t106 (vs1.getD 0 undef) w N1 K):=by
  intro W hfo ho;have hw0:Vl.why d o=0:=by rw[Vl.why,agV h24',agV hno,agV hfi',agV hlo',agV hm',agV (by rw[hfo];decide)]
  have hch:Vl.check d o=Vl.lS (d+1) o.kids:=by rw[Vl.Ce,agV (by simp[hw0])]
  rw[hch] at hok hbad;rw[cZ ho 1 rfl,lc ho];refine loop (fun vs w'=>∃(i:Nat),vs=[.int .i64 i]∧i<=o.kids.length∧Vl.lS (d+1) o.kids=Vl.lS (d+1) (o.kids.drop i)∧Own w w' [uE b4 (un,ug,us,uks,ucs),obE b o vk vc]) (fun vs _=>o.kids.length - n0 vs) ⟨0,rfl,om,rfl,ho⟩ ?_;rintro vs w6 ⟨i,rfl,hi,hT,ho⟩ _;rw[hT] at hok hbad;simp only[oA,gd,rs,nz];by_cases hlt:(i:Int) < (o.kids.length:Int)
  ·have hi':i < o.kids.length:=om
   simp only[hlt,agY,i_t];rw[GM _ _ _ hi'] at hok hbad hT;have hai:=ha.own ho;refine Ym hai.kids.1 hai.all hi' fun v hv=>?_;obtain⟨vk',vc',cs',rfl,hkid⟩:=hv.open;have ho6:=ho;refine eX ho fun b7 w7 ho=>?_;refine bD 0 hkid.keys.one hkid.kids.one ho rfl fun w8 ho=>?_;have ho:Own w w8 [obE b7 o.kids[i] vk' vc',uE b4 (un,ug,us,uks,ucs),obE b o vk vc]:=ho;rw[ob_v ho 0 rfl,aA om om,show (d:Int)+1=((d+1:Nat):Int) by omega];have hkw:=Es hi';refine fH (ih o.kids[i] _ (d+1) w8 _ om (hkid.later ho6 ho).ov om om om (fun hc0 w9 hb9=>?_) (fun hc0 w9 hb9=>?_)) (fun _ _ h=>h)
   ·have ho:=ho.grow hb9;rw[agV (by simp[hc0])] at hT;simp only[Cont,rs];rw[aA om om];exact aY ⟨i+1,rfl,om,hT,ho.tail⟩ (by simp[n0,RowKit.intOf];omega)
   ·rw[agW hc0] at hbad;exact hbad hc0 w9 (ho.grow hb9).done
  ·simp only[hlt,agX,i_f];rw[amI om,Vl.lS] at hok;exact hok rfl w6 ho.done
 have bad3:∀(W:World) (L:List Ent),Own w W L->Vl.form o=false->(pk K) [badE 3] W:=fun W L ho h=>out 3 W _ ho (by rw[Vl.why,agV h24',agV hno,agV hfi',agV hlo',agV hm',agW h]) dc;by_cases k5:o.k=5
 ·have k79:¬(o.k=7∨o.k=9):=om
  have hks:uks=false:=by rw[huk,ahA k79]
  have hf:Vl.form o=Vl.name o.s:=by simp[Vl.form,k5]
  rw[show decide (o.k≠5)=false by rw[ajI];omega,g_ff,ob_s ho 1 rfl,g_ff];refine c_eq (Nk o.s w6) ?_;rw[p_f];cases hnm:Vl.name o.s with
 |false=>
   rw[g_ft,g_ft,show sel (jE (Value.bool false) true) undef=undef from rfl,g_un,g_un,g_ft,p_f];exact Ap (r:=false) rfl (fun h=>by cases h) fun _=>bad3 w6 _ ho (by rw[hf,hnm])
 |true=>
   rw[g_tt,l3 ho,hks,g_tt,Mo,show (!false)=true from rfl,show sel (jE (Value.bool true) true) (Value.bool true)=.bool true from rfl,g_tf,g_tf,g_tt,p_t,p_t];exact Ap (r:=true) rfl (fun _=>rest w6 (by rw[hf,hnm]) ho) fun h=>by cases h
 ·rw[show decide (o.k≠5)=true by rw[decide_eq_true_iff];exact k5,g_tf,g_tf,p_t,g_tt,l3 ho,g_tt,Mo];cases hks:uks with
 |false=>
   have k79:¬(o.k=7∨o.k=9):=by rw[huk,ajI] at hks;exact hks
   rw[show (!false)=true from rfl,show sel (jE (Value.bool true) true) (Value.bool true)=.bool true from rfl,g_tf,g_tf,g_tt,p_t,p_t];rw[hks] at ho rest;exact Ap (r:=true) rfl (fun _=>rest w6 (by simp[Vl.form,k5,k79]) ho) fun h=>by cases h
 |true=>
   have k79:o.k=7∨o.k=9:=by rw[huk,decide_eq_true_iff] at hks;exact hks
   have hf:Vl.form o=Vl.rising o:=by simp[Vl.form,k5,k79]
   rw[show (!true)=false from rfl,show sel (jE (Value.bool true) true) (Value.bool false)=.bool false from rfl,g_ff,ob_v ho 1 rfl,g_ff];refine rN (M5 o _ w6 (ha.in_ ho).ov (by have:=Ml (o:=o);omega)) rfl ho fun w7 ho=>?_;rw[g_tt,p_f,p_t];rw[hks] at ho rest;exact Ap (r:=Vl.form o) hf.symm (fun hfo=>rest w7 hfo ho) fun h=>bad3 w7 _ ho h
theorem EF:bZ prog 210=true:=krx
theorem nF {rs:List RV}{K:Ending->World->Prop}{caps:Array Value}(hu:u≠.run)(hp:bZ prog f=true)
  (h:CallsD prog f (args++caps) u w fun
   |.returned _,u',w'=>AR prog rs K ds (settle u') w'
   |.panicked chain,u',w'=>AR prog rs K ds (raised u' chain) w'
   |.outgrown,_,_=>False):AR prog rs K ({ target:=.fn (.func f) caps,args:=args }::ds) u w:=
 ⟨hu,.func f,caps,f,args++caps,rfl,by simpa[invoke] using lJ hp _ w,h⟩
theorem TQ:bZ prog 152=true:=krx
abbrev Fm:eF prog 30=true:=krx
theorem rJ (o:Ob)(v:Value)(w:World)(h:OV (InW w) w v o)(hb:o.wt<=4611686018427387904):Ret prog 86 #[v] w (fun v w'=>v=.int .i64 (Vl.check 1 o)∧Below w.heap.size w w'):=by
 refine aP fun K hK=>ES ?_;obtain⟨vk,vc,cs,rfl,ha⟩:=h.open;unfold Bx nz;refine eW o ha.keys.one ha.kids.one (Own.start w) fun b w1 ho=>?_;rw[yF];refine fH (DN (K:=fun e w'=>e=.returned (.int .i64 (Vl.check 1 o))∧Below w.heap.size w w') ?_) ?_
 rotate_left
 ·rintro e w' ⟨rfl,hb'⟩;exact hK _ _ ⟨rfl,hb'⟩
 unfold Al iN dx alx;refine bC (fun b=>.pointer (some ⟨b,0,none⟩)) [.int .i64 0] 30 (fun _=>by kernel_rfl) ho fun b2 w2 ho=>?_;rw[yF];refine⟨_,rfl,?_⟩;refine EI TQ ?_;show CallX prog _ #[.pointer (some ⟨b,0,none⟩)] _ _ _;refine fH (B2 (K:=fun e w'=>(Vl.check 1 o=0->e=.returned (.tuple #[])∧Below w2.heap.size w2 w')∧(Vl.check 1 o≠0->e=.panicked [badE (Vl.check 1 o)]∧Below w2.heap.size w2 w')) ?_) ?_
 ·unfold wJ nz;rw[ob_v ho 1 rfl];refine fH (PL o.wt o _ 1 w2 (fun e w'=>(Vl.check 1 o=0->e=.returned (.tuple #[])∧Below w2.heap.size w2 w')∧(Vl.check 1 o≠0->e=.panicked [badE (Vl.check 1 o)]∧Below w2.heap.size w2 w')) (ahD _) (ha.in_ ho).ov hb om om
   (fun h0 w' hb'=>⟨fun _=>⟨rfl,hb'⟩,fun h=>absurd h0 h⟩) (fun h0 w' hb'=>⟨fun h=>absurd h h0,fun _=>⟨rfl,hb'⟩⟩)) ?_
  rintro e w' ⟨h1,h2⟩;by_cases h0:Vl.check 1 o=0
  ·obtain⟨rfl,hb'⟩:=h1 h0;exact⟨fun _=>⟨rfl,hb'⟩,fun h=>absurd h0 h⟩
  ·obtain⟨rfl,hb'⟩:=h2 h0;exact⟨fun h=>absurd h h0,fun _=>⟨rfl,hb'⟩⟩
 rintro e w' ⟨h1,h2⟩;by_cases h0:Vl.check 1 o=0
 ·obtain⟨rfl,hb'⟩:=h1 h0;simp only[Cont];have ho:=ho.grow hb';refine aN 0 ho rfl krx rfl sm fun w4 ho=>?_;refine nF sm EF (mV ?_);simp only[iI,recV,recM,Eng.Py alA,rs,dx,ldx,fax,exx,stx,eqx,alx];refine Kq Fm (ho.cell 0 rfl 0 rfl) (And.intro ?_ ho.done);rw[h0]
 ·obtain⟨rfl,hb'⟩:=h2 h0;simp only[Cont,kJ,pd];have ho:=ho.grow hb';refine nF sm EF (mV ?_);simp only[iI,recV,recM,Eng.SG alA,rs,Vv (show kT prog 223=true by kernel_rfl),
   nC (show [Value.agg #[.int .i64 (Vl.check 1 o)],Value.bool true][1]?=some (Value.bool true) from rfl),nC (show [Value.agg #[.int .i64 (Vl.check 1 o)],Value.bool true][0]?=some (Value.agg #[.int .i64 (Vl.check 1 o)]) from rfl),dx,ldx,fax,exx,stx,eqx,alx]
  refine bC (fun b=>.pointer (some ⟨b,0,none⟩)) [.int .i64 0] 223 (fun _=>by kernel_rfl) ho fun b5 w5 ho=>?_;refine iE 0 ho rfl (new:=[.int .i64 (Vl.check 1 o)]) (show (Tryz.prog.info? 223).map (·.size)=some 1 by kernel_rfl) (by simp;rfl) rfl fun w6 ho=>?_;rw[aK (show fOff prog 223 0=some 0 by kernel_rfl),aO Fm (ho.cell 0 rfl 0 rfl)];refine aN 1 ho rfl krx rfl sm fun w7 ho=>?_;exact Kq Fm (ho.cell 1 rfl 0 rfl) (And.intro rfl ho.done)
end
section
open Eng Go.RowKit
theorem Ql (x:List UInt8)(w:World):Ret prog 256 #[.string ⟨x.toArray⟩] w (fun v w'=>v=.bool false∧w=w'):=by
 refine aP fun K hK=>xV ?_;unfold pT nz;rw[Qu];exact hK _ _ ⟨sm,rfl⟩
theorem Qm (x:List UInt8)(w:World):Ret prog 218 #[.string ⟨x.toArray⟩] w (fun v w'=>v=.bool false∧w=w'):=by
 refine aP fun K hK=>sA ?_;unfold lM nz;rw[Qu];exact hK _ _ ⟨sm,rfl⟩
theorem QS (x y:List UInt8)(w:World):Ret prog 217 #[.string ⟨x.toArray⟩,.string ⟨y.toArray⟩] w (fun v w'=>v=.bool (Vl.less x y)∧w=w'):=by
 refine aP fun K hK=>zV ?_;unfold sJ nz;refine c_eq (Ql x w) ?_;simp only[rs,acU];exact hK _ _ ⟨rfl,rfl⟩
theorem shr1 (h0:0<=a)(h1:a<=4611686018427387904):Int.fdiv (IntKind.wrap .u64 a) (2 ^ (min (1:Int).toNat IntKind.u64.bits))=a / 2:=by
 rw[Qd h0 om];show Int.fdiv a 2=a / 2;rw[apC _ om]
theorem F6 (va:Value)(l:List (List UInt8))(x:List UInt8)(w:World)(ha:Sl w va 1 l.length (bG l))(hr:Vl.Rise l)(hl:l.length<=1099511627776) :
  Ret prog 154 #[va,.string ⟨x.toArray⟩] w (fun v w'=>v=.tuple #[.int .i64 (Vl.place l x:Nat),.bool (Vl.hit l x)]∧w=w'):=by
 refine aP fun K hK=>gN ?_;unfold eG nz;rw[bB ahM ha];refine loop (fun vs w'=>∃(i j:Nat),vs=[.int .i64 i,.int .i64 j]∧i<=j∧j<=l.length∧(∀m (h:m < l.length),m < i->Vl.less l[m] x=true)∧(∀m (h:m < l.length),j<=m->Vl.less l[m] x=false)∧w=w') (fun vs _=>n1 vs - n0 vs)
  ⟨0,l.length,rfl,om,om,fun m _ h=>by omega,fun m h1 h2=>by omega,rfl⟩ ?_
 rintro vs w2 ⟨i,j,rfl,hij,hj,hlo,hhi,rfl⟩ _;simp only[dY,gd,rs,nz];by_cases hlt:(i:Int) < (j:Int)
 ·simp only[hlt,agY,i_t];rw[aA om om,Tm (show (Tryz.prog.underlying 3).isSome=true by kernel_rfl) amT,HA om,shr1 om om,
   Tm (show (Tryz.prog.underlying 84).isSome=true by kernel_rfl) aiX,aA om om]
  obtain⟨h,hh⟩:∃h:Nat,((i:Int)+(j:Int)) / 2=(h:Int):=⟨(i+j) / 2,om⟩;rw[hh];have h1:i<=h:=om
  have h2:h < j:=om
  have h3:h < l.length:=om
  refine Gz (.string ⟨(l[h]).toArray⟩) ahM krx ha om (by rw[ahI];exact eM h3) fun q hq=>?_;rw[aO Ul hq];refine c_eq (QS l[h] x w) ?_;cases hc:Vl.less l[h] x with
 |true=>
   simp only[rs];rw[aA om om];refine aY ⟨h+1,j,rfl,om,om,fun m hm hmi=>?_,hhi,rfl⟩ (by simp[n0,n1,RowKit.intOf];omega);rcases ahY m h with h4|h4
   ·exact Vl.nH (Vl.pO hr h4 h3) hc
   ·have:m=h:=om
    subst this;exact hc
 |false=>
   simp only[rs];refine aY ⟨i,h,rfl,om,om,hlo,fun m hm hmi=>?_,rfl⟩ (by simp[n0,n1,RowKit.intOf];omega);rcases ahY h m with h4|h4
   ·cases hm2:Vl.less l[m] x with
   |false=>rfl
   |true=>have:=Vl.nH (Vl.pO hr h4 hm) hm2;rw[hc] at this;cases this
   ·have:m=h:=om
    subst this;exact hc
 ·have he:i=j:=om
  subst he;simp only[hlt,agX,i_f];have hp:Vl.place l x=i:=Vl.Nv hj hlo (fun h=>hhi i h (ahD _));by_cases hn:(i:Int) < (l.length:Int)
  ·have hi':i < l.length:=om
   simp only[hn,agY,rs];refine Gz (.string ⟨(l[i]).toArray⟩) ahM krx ha om (by rw[ahI];exact eM hi') fun q hq=>?_;rw[aO Ul hq];simp only[rs];by_cases hx:l[i]=x
   ·simp only[hx,agY,rs,g_un];refine hK _ _ ⟨?_,rfl⟩;rw[hp];unfold Vl.hit;rw[hp,ahH hi',hx];simp
   ·simp only[hx,agX,rs];refine Gz (.string ⟨(l[i]).toArray⟩) ahM krx ha om (by rw[ahI];exact eM hi') fun q hq=>?_;rw[aO Ul hq];refine c_eq (Qm l[i] w) ?_;simp only[rs];refine hK _ _ ⟨?_,rfl⟩;rw[hp];unfold Vl.hit;rw[hp,ahH hi'];simp[hx]
  ·simp only[hn,agX,rs,g_un];refine hK _ _ ⟨?_,rfl⟩;rw[hp];unfold Vl.hit;rw[hp,ajD om];simp
end
section
open Eng
def iT(t5 t6 t11 w)(N1:JT)(K:KT):=nz Tryz.f144 983 [N1] [nh 9 [5,6,11]] [] (zg [5,6,11] [t5,t6,t11]) w K
def iO(t1 t2 t4 t5 t6 t10 t11 w)(N1:JT)(K:KT):=nz Tryz.f144 87 [N1] [nh 9 [5,6,11],(18,[5,6],fun s v j w f=>iT (vg v 0) (vg v 1) (s 11) w (f 0) K)] [] (zg [1,2,4,5,6,10,11] [t1,t2,t4,t5,t6,t10,t11]) w K
def jY(t0 t1 w)(K:KT):=nz Tryz.f144 1 [] [(9,[5,6,11],fun s v j w f=>iO (s 1) (s 2) (s 4) (vg v 0) (vg v 1) (s 10) (vg v 2) w (f 0) K)] [] (zg [0,1] [t0,t1]) w K
theorem qL{t0 t1 w K}(h:jY t0 t1 w K):Calls prog 144 #[t0,t1] w K:=cz [(9,[5,6])] [(4,[5,6,11])] Tryz.func144 h
def mP(t0 w)(K:KT):=nz Tryz.f145 1 [] [] [] (zg [0] [t0]) w K
theorem tH{t0 w K}(h:mP t0 w K):Calls prog 145 #[t0] w K:=cw Tryz.func145 h
end
section
open Go
theorem Ob.wK:∀os:List Ob,os.length<=Ob.wts os
|[]=>by simp
|o::os=>by
  have:=Ob.wK os;have:1<=o.wt:=by cases o;rw[Ob.wt];omega
  rw[Ob.wts,ahU];omega
namespace Wr
end Wr
end
end Go.Proofs.YtlipjfcbjemicaaGreatDoor




namespace Go.Proofs.YtlipjfcbjemicaaGreatDoor
variable{A S:Nat->Prop}{K:VWP}{L:List Eng.Ent}{M N:Eng.Mem}{P:Program}{PK:PKT}{R:Ending->FrameMode->World->Prop}{T1 T2 U:TypeId}{a:Int}{args:Array Value}{b cap d f i m sz:Nat}{cb:Array Bool}{cs news xs:List Value}{ds:List Deferred}{e:Eng.Ent}{k':IntKind}{key:List UInt8}{o:Ob}{os:List Ob}{q want y:Bool}{t0 v v' v2 vc vk:Value}{u:FrameMode}{w w0:World}{xo yo:Operand}{α:Type}
section
open Go
namespace Lx
open Oc
def eol (c:UInt8):Bool:=decide (c=13)||decide (c=10)
def VF:Bool->List UInt8->Nat
|_,[]=>0
|true,c::t=>1+VF (!eol c) t
|false,c::t=>if c=37 then 1+VF true t else if Bk c then 1+VF false t else 0
def skip (s:List UInt8)(k:Nat):Nat:=k+VF false (s.drop k)
def Xc:List UInt8->Nat
|[]=>0
|c::t=>if c=10 then 1 else if c=13 then (if t.head?=some 10 then 2 else 1) else 1+Xc t
def digit (c:UInt8):Int:=
 if 48<=c.toNat∧c.toNat<=57 then (c.toNat:Int) - 48
 else if 65<=c.toNat∧c.toNat<=70 then (c.toNat:Int) - 65+10
 else if 97<=c.toNat∧c.toNat<=102 then (c.toNat:Int) - 97+10
 else -1
def byte (a b:Int):UInt8:=UInt8.ofNat (16*a+b).toNat
end Lx
end
section
open Go
namespace Lx
open Oc
structure Tok where
 k:Int
 a:Int
 t:Int
 n:Int
 s:List UInt8
 deriving DecidableEq
def none_:Tok:=⟨0,0,0,0,[]⟩
def refused (e:Int):Tok×Int:=(none_,e)
def told (k a t:Int)(x:List UInt8)(most:Int):Tok×Int:=if most < (x.length:Int) then refused 5 else (⟨k,a,t,0,x⟩,0)
def runF:List UInt8->Nat
|[]=>0
|c::t=>if regular c then 1+runF t else 0
def run (s:List UInt8)(i:Nat):Nat:=i+runF (s.drop i)
def cut (s:List UInt8)(i j:Nat):List UInt8:=(s.drop i).take (j - i)
def Xj:List UInt8->Option (List UInt8)
|[]=>some []
|c::t=>
  if c=35 then match t with
  |a::b::t=>if digit a < 0∨digit b < 0∨16*digit a+digit b=0 then none else (Xj t).map (byte (digit a) (digit b)::·)
  |_=>none
  else (Xj t).map (c::·)
def name (s:List UInt8)(at_:Nat):Tok×Int:=
 match Xj (cut s (at_+1) (run s (at_+1))) with
|none=>refused 3
|some x=>told 4 at_ (run s (at_+1)) x 127
def oct (c:UInt8):Bool:=decide (48<=c.toNat)&&decide (c.toNat<=55)
def octF:Nat->Nat->List UInt8->Nat×Nat
|0,n,_=>(n,0)
|_+1,n,[]=>(n,0)
|m+1,n,c::t=>if oct c then ((octF m (8*n+(c.toNat - 48)) t).1,(octF m (8*n+(c.toNat - 48)) t).2+1) else (n,0)
def escL (c:UInt8):Option UInt8:=if c=110 then some 10 else if c=114 then some 13 else if c=116 then some 9 else if c=98 then some 8 else if c=102 then some 12 else none
def escF:List UInt8->List UInt8×Nat
|[]=>([],0)
|c::t=>match escL c with
 |some b=>([b],1)
 |none=>if eol c then ([],Xc (c::t)) else if 0 < (octF 3 0 (c::t)).2 then ([UInt8.ofNat (octF 3 0 (c::t)).1],(octF 3 0 (c::t)).2) else ([c],1)
def Mg:Nat->Nat->List UInt8->Option (List UInt8×Nat)
|_,_,[]=>none
|k+1,o,_::t=>(Mg k o t).map fun r=>(r.1,r.2+1)
|0,o,c::t=>
  if eol c then (Mg (Xc (c::t) - 1) o t).map fun r=>(10::r.1,r.2+1)
  else if c=92 then if t=[] then none else (Mg (escF t).2 o t).map fun r=>((escF t).1++r.1,r.2+1)
  else if c=40 then (Mg 0 (o+1) t).map fun r=>(c::r.1,r.2+1)
  else if c=41 then if o<=1 then some ([],1) else (Mg 0 (o - 1) t).map fun r=>(c::r.1,r.2+1)
  else (Mg 0 o t).map fun r=>(c::r.1,r.2+1)
def text (s:List UInt8)(at_:Nat):Tok×Int:=
 match Mg 0 1 (s.drop (at_+1)) with
|none=>refused 4
|some r=>told 3 at_ (at_+1+r.2:Nat) r.1 32767
def hexF:Int->List UInt8->(List UInt8×Nat) ⊕ Int
|_,[]=>.inr 4
|h,c::t=>
  if c=62 then .inl (if 0<=h then [byte h 0] else [],1)
  else if Bk c then match hexF h t with|.inl r=>.inl (r.1,r.2+1)|.inr e=>.inr e
  else if digit c < 0 then .inr 3
  else if h < 0 then match hexF (digit c) t with|.inl r=>.inl (r.1,r.2+1)|.inr e=>.inr e
  else match hexF (-1) t with|.inl r=>.inl (byte h (digit c)::r.1,r.2+1)|.inr e=>.inr e
def hex (s:List UInt8)(at_:Nat):Tok×Int:=
 match hexF (-1) (s.drop (at_+1)) with
|.inr e=>refused e
|.inl r=>told 3 at_ (at_+1+r.2:Nat) r.1 32767
def sgn (c:UInt8):Bool:=decide (c=43)||decide (c=45)
def dig (c:UInt8):Bool:=decide (48<=c.toNat)&&decide (c.toNat<=57)
def KV:List UInt8->List UInt8
|[]=>[]
|c::t=>if sgn c then t else c::t
def Xd (t:List UInt8):Bool:=!(KV t).isEmpty&&(KV t).all dig
def val (n:Nat)(l:List UInt8):Nat:=l.foldl (fun n c=>10*n+(c.toNat - 48)) n
def whole (t:List UInt8):Int×Int:=
 if 2147483647 < val 0 (KV t) then (0,2) else (if t.head?=some 45 then -(val 0 (KV t):Int) else (val 0 (KV t):Int),0)
def afK (t:List UInt8)(a b:Int):Tok×Int:=
 if Xd t then (if (whole t).2≠0 then refused (whole t).2 else (⟨1,a,b,(whole t).1,[]⟩,0))
 else if t.contains 46∧(Fx.read t).2=0 then (⟨2,a,b,(Fx.read t).1,[]⟩,0)
 else if t.contains 46∧(Fx.read t).2=2 then refused 2
 else told 5 a b t 127
def word (s:List UInt8)(at_:Nat):Tok×Int:=afK (cut s at_ (run s at_)) at_ (run s at_)
def mark (s:List UInt8)(at_ n:Nat):Tok×Int:=(⟨6,at_,(at_+n:Nat),0,cut s at_ (at_+n)⟩,0)
def token (s:List UInt8)(a:Nat):Tok×Int:=
 match s.drop a with
|[]=>(⟨0,a,a,0,[]⟩,0)
|c::t=>
  if c=91∨c=93∨c=123∨c=125 then mark s a 1
  else if c=60 then (if t.head?=some c then mark s a 2 else hex s a)
  else if c=62 then (if t.head?=some c then mark s a 2 else refused 3)
  else if c=47 then name s a
  else if c=40 then text s a
  else if c=41 then refused 3
  else word s a
def next (s:List UInt8)(at_:Int):Tok×Int:=if at_ < 0∨(s.length:Int) < at_ then refused 1 else token s (skip s at_.toNat)
end Lx
end
end Go.Proofs.YtlipjfcbjemicaaGreatDoor









namespace Go.Proofs.YtlipjfcbjemicaaGreatDoor
variable{A S:Nat->Prop}{K:VWP}{L:List Eng.Ent}{M N:Eng.Mem}{P:Program}{PK:PKT}{R:Ending->FrameMode->World->Prop}{T1 T2 U:TypeId}{a:Int}{args:Array Value}{b cap d f i m sz:Nat}{cb:Array Bool}{cs news xs:List Value}{ds:List Deferred}{e:Eng.Ent}{k':IntKind}{key:List UInt8}{o:Ob}{os:List Ob}{q want y:Bool}{t0 v v' v2 vc vk:Value}{u:FrameMode}{w w0:World}{xo yo:Operand}{α:Type}
section
open Eng
def BU(t0 w)(K:KT):=nz Tryz.f176 1 [] [] [] (zg [0] [t0]) w K
theorem E6{t0 w K}(h:BU t0 w K):Calls prog 176 #[t0] w K:=cw Tryz.func176 h
end
section
open Eng Go.RowKit
 attribute [local congr] AO in
theorem Tl (c:UInt8)(w:World):Ret prog 176 #[.int .u8 c.toNat] w (fun v w'=>v=.int .i64 (Lx.digit c)∧w=w'):=by
  refine aP fun K hK=>E6 ?_;unfold BU nz;have h256:=c.toNat_lt;have conv:∀{n:Int} {PK K},0<=n->n<=255->DoX prog (gL 5 3 (.int .u8 n)) w PK K=K (.int .i64 n) w:=by
   intro n PK K h0 h1;rw[Tm (show (Tryz.prog.underlying 5).isSome=true by kernel_rfl) aiX,aA om om]
  simp +contextual only[rs,gs];by_cases h1:48<=c.toNat∧c.toNat<=57
  ·have hb:(decide ((48:Int)<=(c.toNat:Int))&&decide ((c.toNat:Int)<=57))=true:=by simp;omega
   simp only[hb,i_t];rw[Jd om om,conv om om];exact hK _ _ ⟨by rw[Lx.digit,agW h1],rfl⟩
  have hb:(decide ((48:Int)<=(c.toNat:Int))&&decide ((c.toNat:Int)<=57))=false:=by
   rw[amH,ajI,ajI];omega
  simp only[hb,i_f];by_cases h2:65<=c.toNat∧c.toNat<=70
  ·have hb:(decide ((65:Int)<=(c.toNat:Int))&&decide ((c.toNat:Int)<=70))=true:=by simp;omega
   simp only[hb,i_t];rw[Jd om om,conv om om,KF,aA om om];exact hK _ _ ⟨by rw[Lx.digit,agV h1,agW h2],rfl⟩
  have hb:(decide ((65:Int)<=(c.toNat:Int))&&decide ((c.toNat:Int)<=70))=false:=by
   rw[amH,ajI,ajI];omega
  simp only[hb,i_f];by_cases h3:97<=c.toNat∧c.toNat<=102
  ·have hb:(decide ((97:Int)<=(c.toNat:Int))&&decide ((c.toNat:Int)<=102))=true:=by simp;omega
   simp only[hb,i_t];rw[Jd om om,conv om om,KF,aA om om];exact hK _ _ ⟨by rw[Lx.digit,agV h1,agV h2,agW h3],rfl⟩
  have hb:(decide ((97:Int)<=(c.toNat:Int))&&decide ((c.toNat:Int)<=102))=false:=by
   rw[amH,ajI,ajI];omega
  simp only[hb,i_f];exact hK _ _ ⟨by rw[Lx.digit,agV h1,agV h2,agV h3],rfl⟩
end
end Go.Proofs.YtlipjfcbjemicaaGreatDoor

namespace Go.Proofs.YtlipjfcbjemicaaGreatDoor
variable{A S:Nat->Prop}{K:VWP}{L:List Eng.Ent}{M N:Eng.Mem}{P:Program}{PK:PKT}{R:Ending->FrameMode->World->Prop}{T1 T2 U:TypeId}{a:Int}{args:Array Value}{b cap d f i m sz:Nat}{cb:Array Bool}{cs news xs:List Value}{ds:List Deferred}{e:Eng.Ent}{k':IntKind}{key:List UInt8}{o:Ob}{os:List Ob}{q want y:Bool}{t0 v v' v2 vc vk:Value}{u:FrameMode}{w w0:World}{xo yo:Operand}{α:Type}
section
open Eng Go.RowKit
def tokC (x:Lx.Tok):List Value:=[.int .i64 x.k,.int .i64 x.a,.int .i64 x.t,.int .i64 x.n,.string ⟨x.s.toArray⟩]
def ptr (b:Nat)(i:Nat):Value:=.pointer (some ⟨b,i,none⟩)
section
variable {w:World}{PK:PKT}{K:VWP}{S:Nat->Prop}{w0:World}{L:List Ent}
end
end
end Go.Proofs.YtlipjfcbjemicaaGreatDoor




namespace Go.Proofs.YtlipjfcbjemicaaGreatDoor
variable{A S:Nat->Prop}{K:VWP}{L:List Eng.Ent}{M N:Eng.Mem}{P:Program}{PK:PKT}{R:Ending->FrameMode->World->Prop}{T1 T2 U:TypeId}{a:Int}{args:Array Value}{b cap d f i m sz:Nat}{cb:Array Bool}{cs news xs:List Value}{ds:List Deferred}{e:Eng.Ent}{k':IntKind}{key:List UInt8}{o:Ob}{os:List Ob}{q want y:Bool}{t0 v v' v2 vc vk:Value}{u:FrameMode}{w w0:World}{xo yo:Operand}{α:Type}
section
open Eng Go.RowKit
def n3 (vs:List Value):Nat:=(RowKit.intOf (vs.getD 3 undef)).toNat
end
end Go.Proofs.YtlipjfcbjemicaaGreatDoor














namespace Go.Proofs.YtlipjfcbjemicaaGreatDoor
variable{A S:Nat->Prop}{K:VWP}{L:List Eng.Ent}{M N:Eng.Mem}{P:Program}{PK:PKT}{R:Ending->FrameMode->World->Prop}{T1 T2 U:TypeId}{a:Int}{args:Array Value}{b cap d f i m sz:Nat}{cb:Array Bool}{cs news xs:List Value}{ds:List Deferred}{e:Eng.Ent}{k':IntKind}{key:List UInt8}{o:Ob}{os:List Ob}{q want y:Bool}{t0 v v' v2 vc vk:Value}{u:FrameMode}{w w0:World}{xo yo:Operand}{α:Type}
section
open Eng Go.RowKit
theorem draw {F:World->Prop}(h:F w.drew):DrawX w F:=⟨h⟩
end
end Go.Proofs.YtlipjfcbjemicaaGreatDoor


namespace Go.Proofs.YtlipjfcbjemicaaGreatDoor
variable{A S:Nat->Prop}{K:VWP}{L:List Eng.Ent}{M N:Eng.Mem}{P:Program}{PK:PKT}{R:Ending->FrameMode->World->Prop}{T1 T2 U:TypeId}{a:Int}{args:Array Value}{b cap d f i m sz:Nat}{cb:Array Bool}{cs news xs:List Value}{ds:List Deferred}{e:Eng.Ent}{k':IntKind}{key:List UInt8}{o:Ob}{os:List Ob}{q want y:Bool}{t0 v v' v2 vc vk:Value}{u:FrameMode}{w w0:World}{xo yo:Operand}{α:Type}
section
open Eng Go.RowKit
theorem zK:∀(l:List Lx.Tok) (k j:Nat) (hk:k < l.length),j < 5->(l.flatMap tokC)[k*5+j]?=(tokC l[k])[j]?
|x::l,0,j,_,hj=>by
  rw[aiT,ajA (by simpa[tokC] using hj)];simp
|x::l,k+1,j,hk,hj=>by
  have h5:(tokC x).length=5:=rfl;rw[aiT,ajO (by rw[h5];omega),h5,show (k+1)*5+j - 5=k*5+j by omega];rw[zK l k j (by simpa using hk) hj];simp
end
end Go.Proofs.YtlipjfcbjemicaaGreatDoor


namespace Go.Proofs.YtlipjfcbjemicaaGreatDoor
variable{A S:Nat->Prop}{K:VWP}{L:List Eng.Ent}{M N:Eng.Mem}{P:Program}{PK:PKT}{R:Ending->FrameMode->World->Prop}{T1 T2 U:TypeId}{a:Int}{args:Array Value}{b cap d f i m sz:Nat}{cb:Array Bool}{cs news xs:List Value}{ds:List Deferred}{e:Eng.Ent}{k':IntKind}{key:List UInt8}{o:Ob}{os:List Ob}{q want y:Bool}{t0 v v' v2 vc vk:Value}{u:FrameMode}{w w0:World}{xo yo:Operand}{α:Type}
section
open Eng Go.RowKit
theorem smp1:Lx.next [55,46] 0=(⟨2,0,2,70000,[]⟩,0):=by decide +kernel
end
end Go.Proofs.YtlipjfcbjemicaaGreatDoor








namespace Go.Proofs.YtlipjfcbjemicaaGreatDoor
variable{A S:Nat->Prop}{K:VWP}{L:List Eng.Ent}{M N:Eng.Mem}{P:Program}{PK:PKT}{R:Ending->FrameMode->World->Prop}{T1 T2 U:TypeId}{a:Int}{args:Array Value}{b cap d f i m sz:Nat}{cb:Array Bool}{cs news xs:List Value}{ds:List Deferred}{e:Eng.Ent}{k':IntKind}{key:List UInt8}{o:Ob}{os:List Ob}{q want y:Bool}{t0 v v' v2 vc vk:Value}{u:FrameMode}{w w0:World}{xo yo:Operand}{α:Type}
section
open Eng Go.RowKit
theorem KI {wb:World}(h:ObAt A wb o vk vc cs)(hi:i < o.kids.length) :
  ∃v p,OV A wb v o.kids[i]∧∀W,Kept A wb W->(mIA 23 vc (.int .i64 (i:Int))).run prog W=.ok (.value (.pointer (some p))) W∧(aI 25 (.pointer (some p))).run prog W=.ok (.value v) W:=by
 obtain⟨b,off,cap,rfl,_⟩:=cB h.kids.1 om;obtain⟨a,hl,hov,hget⟩:=OVs.get _ _ i hi h.all;refine⟨.agg a.toArray,⟨b,off+i*6,none⟩,hov,fun W hk=>⟨?_,?_⟩⟩
 ·have:=eE (P:=prog) (T:=23) (b:=b) (off:=off) (cap:=cap) (n:=o.kids.length) (k:=.i64) (i:=(i:Int)) (w:=W) ahN szOb om om;rw[ahI] at this;exact this
 ·obtain⟨b',off',cap',he,hc⟩:=cB (h.kept hk).kids.1 om;cases he;refine bI (v:=.agg a.toArray) (AtV.agg tI hl fun j v hj=>?_);rw[akL];exact hc _ _ (hget j v hj)
theorem acE {wb:World}(h:ObAt A wb o vk vc cs)(hi:i < o.keys.length) :
  ∃p,∀W,Kept A wb W->(mIA 22 vk (.int .i64 (i:Int))).run prog W=.ok (.value (.pointer (some p))) W∧(aI 9 (.pointer (some p))).run prog W=.ok (.value (.string ⟨o.keys[i].toArray⟩)) W:=by
 obtain⟨b,off,cap,rfl,_⟩:=cB h.keys.1 om;refine⟨⟨b,off+i,none⟩,fun W hk=>⟨?_,?_⟩⟩
 ·have:=eE (P:=prog) (T:=22) (b:=b) (off:=off) (cap:=cap) (n:=o.keys.length) (k:=.i64) (i:=(i:Int)) (w:=W) ahM (show _=some 1 by kernel_rfl) om om;rw[ahI,ahZ] at this;exact this
 ·obtain⟨b',off',cap',he,hc⟩:=cB (h.kept hk).keys.1 om;cases he;exact aB HI (hc i _ (eM hi))
section
variable {w:World}{PK:PKT}{K:VWP}{S:Nat->Prop}{w0:World}{L:List Ent}
end
end
section
open Eng Go.RowKit
theorem Eng.Mem.le.trans {O:Mem}(h:M.le N)(k:N.le O):M.le O:=Mem.le_trans h k
theorem rI {l:List (List UInt8)}:∀x∈bG l,x.oneCell'=true:=by
 intro x hx;obtain⟨y,_,rfl⟩:=aiD.1 hx;rfl
theorem dQ {T:TypeId}{n:Nat}(h:(Ent.urow T sz v n xs).is w):v.oneCell'=true:=by
 rcases (show w.ownsRow 0 T sz v n xs from h).2 with ⟨rfl,_⟩|⟨g,cap,cur,rfl,_⟩<;>rfl
theorem GA {A:Nat->Prop}{w:World}:∀{os:List Ob} {cs:List Value},OVs A w cs os->∀x∈cs,x.oneCell'=true
|[],cs,h=>by rw[OVs] at h;subst h;intro x hx;cases hx
|o::os,cs,h=>by
  rw[OVs] at h;obtain⟨a,rest,rfl,hl,h1,h2⟩:=h;intro x hx;rcases aiC.1 hx with hx|hx
  ·obtain⟨vk,vc,cs',he,hk⟩:=h1.open;have e:a.toArray=(obC o vk vc).toArray:=by injection he
   have e:a=obC o vk vc:=by simpa using congrArg Array.toList e
   subst e;exact DG o hk.keys.one hk.kids.one x hx
  ·exact GA h2 x hx
theorem wH {A:Nat->Prop}{w:World}:∀{os ps:List Ob} {cs ds:List Value},OVs A w cs os->OVs A w ds ps->OVs A w (cs++ds) (os++ps)
|[],ps,cs,ds,h,k=>by rw[OVs] at h;subst h;simpa using k
|o::os,ps,cs,ds,h,k=>by
  rw[OVs] at h;obtain⟨a,rest,rfl,hl,h1,h2⟩:=h;rw[akU,OVs];exact⟨a,rest++ds,sm,hl,h1,wH h2 k⟩
theorem Vy (h:OV A w (obV o vk vc) o):OVs A w (obC o vk vc) [o]:=by
 rw[OVs];exact⟨obC o vk vc,[],sm,rfl,h,OVs.nil⟩
theorem ObAt.le {M N:Mem}{o:Ob}{vk vc:Value}{cs:List Value}(hl:M.le N)(h:ObAt M.A M.w o vk vc cs):ObAt N.A N.w o vk vc cs:=⟨h.keys.le hl,h.kids.le hl,h.all.le hl⟩
theorem Yr {k n g:Int}{s:List UInt8}{keys:List (List UInt8)}{kids:List Ob}(h1:SlA M.A M.w vk 1 keys.length (bG keys))(h2:SlA M.A M.w vc 6 kids.length cs)(h3:OVs M.A M.w cs kids):ObAt M.A M.w (.mk k n g s keys kids) vk vc cs:=⟨h1,h2,h3⟩
theorem Af (M:Mem):OV M.A M.w (obV Vl.ob0 (.slice none 0 0) (.slice none 0 0)) Vl.ob0:=(Yr (M:=M) (keys:=[]) (kids:=[]) (SlA.nil _ _ _ _) (SlA.nil _ _ _ _) OVs.nil).ov
theorem PU (o:Ob)(hk:vk.oneCell'=true)(hc:vc.oneCell'=true)(w:World):Ret prog 164 #[obV o vk vc] w (fun v w'=>v=obV o vk vc∧Below w.heap.size w w'):=by
 refine aP fun K hK=>Bo ?_;unfold wQ nz;refine eW o hk hc (Own.start w) fun b w1 ho=>?_;refine eX ho fun b2 w2 ho=>?_;rw[ob_v ho 1 rfl];refine bD 0 hk hc ho rfl fun w3 ho=>?_;exact iW (bH (ho.agg 0 rfl tI)) (hK _ _ ⟨rfl,ho.done⟩)
theorem KC:bZ prog 164=true:=krx
abbrev aaS:Value:=.func (.func 164) #[] #[]
theorem L6 (n:Nat):∀(o:Ob) (v:Value) (M:Mem) (w:World),o.wt<=n->o.wt<=100000000000->M.has w->OV M.A M.w v o->RetM prog 163 #[v,aaS] M w (fun v' N=>OV N.A N.w v' o):=by
 induction n with
|zero=>intro o v M w h;have:=o.H4;omega
|succ n ih=>
 intro o v M w hn hw hM hv;obtain⟨vk,vc,cs,rfl,ha⟩:=hv.open;have hww:Ob.wts o.kids<=100000000000:=by cases o;rw[Ob.wt] at hw;simp only[Ob.kids];omega
 have hkt:Pl.tot o.keys<=100000000000:=by cases o;rw[Ob.wt] at hw;simp only[Ob.keys];omega
 have hlk:=Ob.wK o.kids;have hkl:=Pl.iU o.keys;refine aT hM fun K hK=>Dg ?_;unfold yR nz;refine eW o ha.keys.one ha.kids.one (OwnS.memS hM) fun b w1 ho=>?_;refine eX ho fun b4 w2 ho=>?_;rw[ob_v ho 1 rfl];refine EI KC (aL ho (R:=fun v=>v=obV o vk vc) (PU o ha.keys.one ha.kids.one w2) ?_);rintro _ w3 rfl ho;refine bD 1 ha.keys.one ha.kids.one ho rfl fun w4 ho=>?_;rw[mJ,eR ho 1 rfl];refine B5 (wZ vk _ _ w4 (ha.keys.now (ho.hasM 2 rfl)) rI om) fun vk' w5 hnew=>?_;have ho:=ho.join hnew;have ho:OwnS M.A w w5 [.urow 9 1 vk' o.keys.length (bG o.keys),obE b4 ob0 (.slice none 0 0) (.slice none 0 0),obE b o vk vc,.mem M]:=ho;have hk1:vk'.oneCell'=true:=dQ (ho.at_ 0 rfl);rw[mJ];refine aN 2 ho rfl krx hk1 (show 0+4 < 6 by omega) fun w6 ho=>?_;have ho:OwnS M.A w w6 [.urow 9 1 vk' o.keys.length (bG o.keys),obE b4 ob0 (.slice none 0 0) (.slice none 0 0),obE b o vk' vc,.mem M]:=ho;obtain⟨N,hMN,hkeys,ho⟩:=ho.cG 2 rfl;have ho:OwnS M.A w w6 [obE b4 ob0 (.slice none 0 0) (.slice none 0 0),obE b o vk' vc,.mem N]:=ho;refine join fun J hJ=>?_;have fin:∀(W:World) (N':Mem) (vc':Value) (cs':List Value),OwnS M.A w W [obE b4 ob0 (.slice none 0 0) (.slice none 0 0),obE b o vk' vc',.mem N']->N.le N'->vc'.oneCell'=true->SlA N'.A N'.w vc' 6 o.kids.length cs'->OVs N'.A N'.w cs' o.kids->J [] W:=by
  intro W N' vc' cs' ho hle hc1 h1 h2;refine hJ _ _ fun _=>?_;unfold sF nz;rw[ob_v ho 1 rfl];refine bD 0 hk1 hc1 ho rfl fun w7 ho=>?_;refine iW (bH (ho.agg 0 rfl tI)) (hK _ _ N' _ 2 ho rfl (hMN.trans hle) ?_);exact ObAt.ov (⟨hkeys.le hle,h1,h2⟩:ObAt N'.A N'.w o vk' vc' cs')
 have hav:=ha.le hMN;rw[jP,cZ ho 1 rfl];obtain⟨a,cap,rfl,hnil⟩:∃a cap,vc=.slice a o.kids.length cap∧(a=none->o.kids.length=0):=by
  obtain⟨⟨_,a,cap,e,h1,_⟩,_⟩:=ha.kids;exact⟨a,cap,e,h1⟩
 rw[Z6 ahN];cases a with
|none=>
  simp only[aoD,aiQ,i_f];exact fin _ N _ _ ho N.le_refl rfl hav.kids hav.all
|some p=>
  simp only[aoE,aiR,i_t];rw[jP,cZ ho 1 rfl,bA ahN];refine Ts (sz:=6) (bytes:=88) ahN krx om om ho fun g w7 zs hzs ho=>?_;have ho:=ho.toU 6 o.kids.length o.kids.length hzs (ahD _) om;rw[aiF om] at ho;rw[jP,cZ ho 2 rfl,bA ahN];refine loop (fun vs W=>∃(i:Nat) (N':Mem) (cs' zs':List Value),vs=[.int .i64 i]∧i<=o.kids.length∧N.le N'∧OVs N'.A N'.w cs' (o.kids.take i)∧cs'.length=i*6 ∧
    OwnS M.A w W [.urow 25 6 (.slice (some ⟨g,0,none⟩) o.kids.length o.kids.length) o.kids.length (cs'++zs'),obE b4 ob0 (.slice none 0 0) (.slice none 0 0),obE b o vk' (.slice (some p) o.kids.length cap),.mem N']) (fun vs _=>o.kids.length - n0 vs)
   ⟨0,N,[],zs,rfl,om,N.le_refl,OVs.nil,rfl,ho⟩ ?_
  clear ho;rintro vs w8 ⟨i,N',cs',zs',rfl,hi,hle,hcs',hl',ho⟩ _;simp only[rV,gd,rs,nz];have hrl:=(show w8.ownsRow 0 25 6 _ _ (cs'++zs') from ho.at_ 0 rfl).1;rw[agZ,hl'] at hrl;by_cases hlt:(i:Int) < (o.kids.length:Int)
  ·have hi':i < o.kids.length:=om
   simp only[hlt,agY,i_t];obtain⟨x,q,hx,hrx⟩:=KI (hav.le hle) hi';obtain⟨r1,r2⟩:=hrx w8 (ho.hasM 3 rfl);refine aE r1 |>.mpr (aE r2 |>.mpr ?_);obtain⟨xk,xc,xcs,rfl,hxa⟩:=hx.open;refine eX ho fun b7 w9 ho=>?_;refine bD 0 hxa.keys.one hxa.kids.one ho rfl fun w10 ho=>?_;rw[ob_v ho 0 rfl];have hkw:=Es hi';refine bF ho 4 rfl (ih _ _ N' w10 om om (ho.hasM 4 rfl) hx) fun y N2 w11 hle2 hy ho=>?_;obtain⟨yk,yc,ycs,rfl,hya⟩:=hy.open;have ho:OwnS M.A w w11 [.urow 25 6 (.slice (some ⟨g,0,none⟩) o.kids.length o.kids.length) o.kids.length (cs'++zs'),obE b4 ob0 (.slice none 0 0) (.slice none 0 0),obE b o vk' (.slice (some p) o.kids.length cap),.mem N2]:=ho.tail;refine aE (eE ahN szOb om om) |>.mpr ?_;rw[ahI,ahJ];refine Cb 0 ho rfl (u:=obV o.kids[i] yk yc) (new:=obC o.kids[i] yk yc) rfl szOb (DG _ hya.keys.one hya.kids.one) (by show i*6+6<=_;omega) fun w12 ho=>?_;rw[aA om om];refine aY ⟨i+1,N2,cs'++obC o.kids[i] yk yc,zs'.drop 6,rfl,om,hle.trans hle2,?_,?_,?_⟩ (by simp[n0,RowKit.intOf];omega)
   ·rw[aiG hi'];exact wH (hcs'.le hle2) (Vy hy)
   ·rw[agZ,hl'];show i*6+6=_;omega
   ·have e:(cs'++zs').take (i*6)++obC o.kids[i] yk yc++(cs'++zs').drop (i*6+(obC o.kids[i] yk yc).length)=cs'++obC o.kids[i] yk yc++zs'.drop 6:=by
     rw[ajP hl',alC,ajC (by rw[hl'];omega),aiM,hl']
     congr 2
     show i*6+6 - i*6=6;omega
    rw[e] at ho;exact ho
  ·have hi':i=o.kids.length:=om
   subst hi';simp only[hlt,agX,i_f];have hz:zs'=[]:=akY om;subst hz;rw[ahV,aiF (ahD _)] at *;rw[jP];refine aN 2 ho rfl krx rfl (show 0+5 < 6 by omega) fun w9 ho=>?_;obtain⟨N2,hle2,hrow,ho⟩:=OwnS.cG (L:=[obE b4 ob0 (.slice none 0 0) (.slice none 0 0),obE b o vk' (.slice (some ⟨g,0,none⟩) o.kids.length o.kids.length),.mem N']) ho 2 rfl;exact fin _ N2 _ _ ho (hle.trans hle2) rfl hrow (hcs'.le hle2)
theorem CS (o:Ob)(v:Value)(M:Mem)(w:World)(hw:o.wt<=100000000000)(hM:M.has w)(hv:OV M.A M.w v o):RetM prog 95 #[v] M w (fun v' N=>OV N.A N.w v' o):=by
 obtain⟨vk,vc,cs,rfl,ha⟩:=hv.open;refine aT hM fun K hK=>E5 ?_;unfold C6 nz;refine eW o ha.keys.one ha.kids.one (OwnS.memS hM) fun b w1 ho=>?_;refine eX ho fun b4 w2 ho=>?_;rw[ob_v ho 1 rfl];refine bF ho 2 rfl (L6 o.wt o _ M w2 (ahD _) hw (ho.hasM 2 rfl) hv) fun y N w3 hle hy ho=>?_;obtain⟨yk,yc,ycs,rfl,hya⟩:=hy.open;refine bD 0 hya.keys.one hya.kids.one ho rfl fun w4 ho=>?_;exact iW (bH (ho.agg 0 rfl tI)) (hK _ _ N _ 2 ho rfl hle hy)
end
end Go.Proofs.YtlipjfcbjemicaaGreatDoor



namespace Go.Proofs.YtlipjfcbjemicaaGreatDoor
variable{A S:Nat->Prop}{K:VWP}{L:List Eng.Ent}{M N:Eng.Mem}{P:Program}{PK:PKT}{R:Ending->FrameMode->World->Prop}{T1 T2 U:TypeId}{a:Int}{args:Array Value}{b cap d f i m sz:Nat}{cb:Array Bool}{cs news xs:List Value}{ds:List Deferred}{e:Eng.Ent}{k':IntKind}{key:List UInt8}{o:Ob}{os:List Ob}{q want y:Bool}{t0 v v' v2 vc vk:Value}{u:FrameMode}{w w0:World}{xo yo:Operand}{α:Type}
section
open Eng Go.RowKit
theorem gD {b:Int}:DoX prog (mEq .neq 30 xo yo (.int .i64 a) (.int .i64 b)) w PK K=K (.bool (decide (a≠b))) w:=U8
end
end Go.Proofs.YtlipjfcbjemicaaGreatDoor

namespace Go.Proofs.YtlipjfcbjemicaaGreatDoor
variable{A S:Nat->Prop}{K:VWP}{L:List Eng.Ent}{M N:Eng.Mem}{P:Program}{PK:PKT}{R:Ending->FrameMode->World->Prop}{T1 T2 U:TypeId}{a:Int}{args:Array Value}{b cap d f i m sz:Nat}{cb:Array Bool}{cs news xs:List Value}{ds:List Deferred}{e:Eng.Ent}{k':IntKind}{key:List UInt8}{o:Ob}{os:List Ob}{q want y:Bool}{t0 v v' v2 vc vk:Value}{u:FrameMode}{w w0:World}{xo yo:Operand}{α:Type}
section
open Eng Go.RowKit
abbrev nilS:Value:=.slice none 0 0
abbrev ob1 (k n g:Int)(s:List UInt8):Ob:=.mk k n g s [] []
section
variable {w:World}{S:Nat->Prop}{w0:World}{L:List Ent}
theorem QA {K:Ending->World->Prop}(ho:OwnS S w0 w (obE b o vk vc::L))(k:K (.returned (obV o vk vc)) w):RetX prog [.cell (.pointer (some ⟨b,0,none⟩)) 25] w K:=iW (bH (ho.agg 0 rfl tI)) k
end
def obR (o:Ob)(vk vc:Value)(w:World):VWP:=fun v w'=>v=obV o vk vc∧Below w.heap.size w w'
theorem IE (s:List UInt8)(w:World):Ret prog 51 #[.string ⟨s.toArray⟩] w (obR (ob1 5 0 0 s) nilS nilS w):=by
 refine aP fun K hK=>wM ?_;unfold pY nz;refine eX (Own.start w) fun b w1 ho=>?_;have hb:∀{PK:PKT} {K:VWP},DoX prog (aZ 25 #[(0,(.int .i64 5)),(3,.string ⟨s.toArray⟩)]) w1 PK K=K (obV (ob1 5 0 0 s) nilS nilS) w1:=aE krx;rw[hb];refine bD 0 rfl rfl ho rfl fun w2 ho=>?_;exact QA ho (hK _ _ ⟨rfl,ho.done⟩)
theorem Qb (a:Option Addr)(l c:Nat)(os:List Ob)(w:World):Ret prog 50 #[.slice a l c] w (obR ((.mk 6 0 0 [] [] os)) nilS (.slice a l c) w):=by
 refine aP fun K hK=>tY ?_;unfold mR nz;refine eX (Own.start w) fun b w1 ho=>?_;have hb:∀{PK:PKT} {K:VWP},DoX prog (aZ 25 #[(0,(.int .i64 6)),(5,.slice a l c)]) w1 PK K=K (obV ((.mk 6 0 0 [] [] os)) nilS (.slice a l c)) w1:=aE krx;rw[hb];refine bD 0 rfl rfl ho rfl fun w2 ho=>?_;exact QA ho (hK _ _ ⟨rfl,ho.done⟩)
end
section
open Eng Go.RowKit
def getV (v:Value)(b:Bool):Value:=.tuple #[v,.bool b]
def errV (v:Value)(e:Int):Value:=.tuple #[v,.int .i64 e]
section
variable {w:World}{S:Nat->Prop}{w0:World}{L:List Ent}
theorem eJ {K:Ending->World->Prop}{x:Value}(i:Nat)(ho:OwnS S w0 w L)(hi:L[i]?=some (obE b o vk vc))(k:K (.returned (.tuple #[obV o vk vc,x])) w):RetX prog [.cell (.pointer (some ⟨b,0,none⟩)) 25,.val x] w K:=
 Bp (bH (ho.agg i hi tI)) F2 k
theorem He :DoX prog (aZ 25 #[]) w PK K=K (obV Vl.ob0 nilS nilS) w:=aE krx
end
theorem SU (s:List UInt8)(w:World):Ret prog 69 #[.string ⟨s.toArray⟩] w (obR (ob1 5 0 0 s) nilS nilS w):=by
 refine aP fun K hK=>Gg ?_;unfold Eh nz;refine eX (Own.start w) fun b w1 ho=>?_;have hb:∀{PK:PKT} {K:VWP},DoX prog (aZ 25 #[(0,(.int .i64 5)),(3,.string ⟨s.toArray⟩)]) w1 PK K=K (obV (ob1 5 0 0 s) nilS nilS) w1:=aE krx;rw[hb];refine bD 0 rfl rfl ho rfl fun w2 ho=>?_;exact QA ho (hK _ _ ⟨rfl,ho.done⟩)
theorem GW (o:Ob)(hk:vk.oneCell'=true)(hc:vc.oneCell'=true)(w:World):Ret prog 138 #[obV o vk vc] w (fun v w'=>v=.bool (Vl.keyed o)∧Below w.heap.size w w'):=by
 refine aP fun K hK=>E4 ?_;unfold Cy nz;refine eW o hk hc (Own.start w) fun b w1 ho=>?_;rw[fI,ob_k ho 0 rfl];unfold Vl.keyed at hK;by_cases h7:o.k=7
 ·simp only[rs,h7,agY,g_un];exact hK _ _ ⟨by simp[h7],ho.done⟩
 ·simp only[rs,h7,agX,fI,ob_k ho 0 rfl];exact hK _ _ ⟨by simp[h7],ho.done⟩
theorem FC (o:Ob)(v:Value)(key:List UInt8)(M:Mem)(w:World)(hw:o.wt<=100000000000)(hM:M.has w)(hv:OV M.A M.w v o) :
  RetM prog 146 #[v,.string ⟨key.toArray⟩] M w (fun r N=>∃v',r=getV v' (Vl.get o key).isSome∧OV N.A N.w v' ((Vl.get o key).getD Vl.ob0)):=by
 obtain⟨vk,vc,cs,rfl,ha⟩:=hv.open;have hww:Ob.wts o.kids<=100000000000:=by cases o;rw[Ob.wt] at hw;simp only[Ob.kids];omega
 have hkt:Pl.tot o.keys<=100000000000:=by cases o;rw[Ob.wt] at hw;simp only[Ob.keys];omega
 have hkl:=Pl.iU o.keys;have hlk:=Ob.wK o.kids;refine aT hM fun K hK=>Hw ?_;unfold Ge nz;refine eW o ha.keys.one ha.kids.one (OwnS.memS hM) fun b w1 ho=>?_;refine eX ho fun b4 w2 ho=>?_;rw[ob_v ho 1 rfl];refine aL ho (R:=fun v=>v=.bool (Vl.keyed o)) (GW o ha.keys.one ha.kids.one w2) ?_;rintro _ w3 rfl ho;have no:∀{W:World},OwnS M.A w W [obE b4 ob0 nilS nilS,obE b o vk vc,.mem M]->Vl.get o key=none->DoX prog (aZ 25 #[]) W (pk K) (fun t W=>DoX prog (aS 25 (.pointer (some ⟨b4,0,none⟩)) t) W (pk K) fun _ W=>RetX prog [.cell (.pointer (some ⟨b4,0,none⟩)) 25,.val (.bool false)] W K):=by
  intro W ho hg;rw[He];refine bD 0 rfl rfl ho rfl fun w4 ho=>?_;refine eJ 0 ho rfl (hK _ _ M _ 2 ho rfl M.le_refl ⟨obV Vl.ob0 nilS nilS,?_,?_⟩)
  ·rw[hg];rfl
  ·rw[hg];exact Af M
 cases hkd:Vl.keyed o with
|false=>
  simp only[rs,aiR];exact no ho (by unfold Vl.get;rw[hkd];rfl)
|true=>
  simp only[rs,aiQ];rw[mJ,eR ho 1 rfl];refine c_eq (P4 vk o.keys key w3 (ha.keys.now (ho.hasM 2 rfl)) om) ?_;by_cases hi:o.keys.idxOf key < o.keys.length
  ·rw[agW hi];have h0:¬((o.keys.idxOf key:Int) < 0):=om
   simp only[rs,h0,agX,jP,cZ ho 1 rfl];rw[bB ahN (ha.kids.now (ho.hasM 2 rfl))];simp only[rs];by_cases hc:(o.kids.length:Int)<=(o.keys.idxOf key:Int)
   ·simp only[hc,agY,rs];refine no ho ?_;unfold Vl.get;rw[hkd,agW rfl,agW hi,ajD om]
   ·simp only[hc,agX,rs,jP,cZ ho 1 rfl];have hi':o.keys.idxOf key < o.kids.length:=om
    have hg:Vl.get o key=some o.kids[o.keys.idxOf key]:=by
     unfold Vl.get;rw[hkd,agW rfl,agW hi,ahH hi']
    obtain⟨x,q,hx,hrx⟩:=KI ha hi';obtain⟨r1,r2⟩:=hrx w3 (ho.hasM 2 rfl);refine aE r1 |>.mpr (aE r2 |>.mpr ?_);have hkw:=Es hi';refine bF ho 2 rfl (CS _ x M w3 om (ho.hasM 2 rfl) hx) fun y N w4 hle hy ho=>?_;obtain⟨yk,yc,ycs,rfl,hya⟩:=hy.open;refine bD 0 hya.keys.one hya.kids.one ho rfl fun w5 ho=>?_;refine eJ 0 ho rfl (hK _ _ N _ 2 ho rfl hle ⟨obV o.kids[o.keys.idxOf key] yk yc,?_,?_⟩)
    ·rw[hg];rfl
    ·rw[hg];exact hy
  ·rw[agV hi];have h0:((-1:Int) < 0):=om
   simp only[rs,h0,agY,g_un];refine no ho ?_;unfold Vl.get;rw[hkd,agW rfl,agV hi]
theorem Ln (o:Ob)(v:Value)(M:Mem)(w:World)(hw:o.wt<=100000000000)(hM:M.has w)(hv:OV M.A M.w v o) :
  RetM prog 139 #[v] M w (fun r N=>∃v',r=errV v' (Vl.right o).2∧OV N.A N.w v' (Vl.right o).1):=by
 obtain⟨vk,vc,cs,rfl,ha⟩:=hv.open;refine aT hM fun K hK=>E3 ?_;unfold CD nz;refine eW o ha.keys.one ha.kids.one (OwnS.memS hM) fun b w1 ho=>?_;refine eX ho fun b4 w2 ho=>?_;rw[ob_v ho 1 rfl];refine aL ho (R:=fun v=>v=.int .i64 (Vl.check 1 o)) (rJ o _ w2 (OV.inw (ho.hasM 2 rfl) hv) om) ?_;rintro _ w3 rfl ho;simp only[gD];by_cases hc:Vl.check 1 o=0
 ·simp only[hc,ne_eq,not_true,agX,i_f];rw[ob_v ho 1 rfl];refine bD 0 ha.keys.one ha.kids.one ho rfl fun w4 ho=>?_;refine eJ 0 ho rfl (hK _ _ M _ 2 ho rfl M.le_refl ⟨obV o vk vc,?_,?_⟩)
  ·simp[Vl.right,hc,errV]
  ·simpa[Vl.right,hc] using hv
 ·simp only[hc,ne_eq,akI,agY,i_t];rw[He];refine bD 0 rfl rfl ho rfl fun w4 ho=>?_;refine eJ 0 ho rfl (hK _ _ M _ 2 ho rfl M.le_refl ⟨obV Vl.ob0 nilS nilS,?_,?_⟩)
  ·simp[Vl.right,hc,errV]
  ·simpa[Vl.right,hc] using Af M
theorem PX (o:Ob)(v:Value)(M:Mem)(w:World)(hw:o.wt<=100000000000)(hM:M.has w)(hv:OV M.A M.w v o) :
  RetM prog 145 #[v] M w (fun r N=>∃v',r=errV v' (Vl.right o).2∧OV N.A N.w v' (Vl.right o).1):=by
 obtain⟨vk,vc,cs,rfl,ha⟩:=hv.open;refine aT hM fun K hK=>tH ?_;unfold mP nz;refine eW o ha.keys.one ha.kids.one (OwnS.memS hM) fun b w1 ho=>?_;refine eX ho fun b4 w2 ho=>?_;rw[ob_v ho 1 rfl];refine aL ho (R:=fun v=>v=.int .i64 (Vl.check 1 o)) (pR o _ w2 (OV.inw (ho.hasM 2 rfl) hv) om) ?_;rintro _ w3 rfl ho;simp only[gD];by_cases hc:Vl.check 1 o=0
 ·simp only[hc,ne_eq,not_true,agX,i_f];rw[ob_v ho 1 rfl];refine bD 0 ha.keys.one ha.kids.one ho rfl fun w4 ho=>?_;refine eJ 0 ho rfl (hK _ _ M _ 2 ho rfl M.le_refl ⟨obV o vk vc,?_,?_⟩)
  ·simp[Vl.right,hc,errV]
  ·simpa[Vl.right,hc] using hv
 ·simp only[hc,ne_eq,akI,agY,i_t];rw[He];refine bD 0 rfl rfl ho rfl fun w4 ho=>?_;refine eJ 0 ho rfl (hK _ _ M _ 2 ho rfl M.le_refl ⟨obV Vl.ob0 nilS nilS,?_,?_⟩)
  ·simp[Vl.right,hc,errV]
  ·simpa[Vl.right,hc] using Af M
end
section
open Go
namespace Vl
theorem Kr (l:List (List UInt8))(i:Nat):Pl.tot (l.take i)+Pl.tot (l.drop i)=Pl.tot l:=by
 rw[<-Pl.HT,aiJ]
theorem LL:∀a b:List Ob,Ob.wts (a++b)=Ob.wts a+Ob.wts b
|[],b=>by rw[aiM,Ob.wts];omega
|o::a,b=>by rw[akU,Ob.wts,Ob.wts,LL a b];omega
theorem KL (l:List Ob)(i:Nat):Ob.wts (l.take i)+Ob.wts (l.drop i)=Ob.wts l:=by
 rw[<-LL,aiJ]
theorem VN (l:List (List UInt8))(i j:Nat)(h:i<=j):Pl.tot (l.drop j)<=Pl.tot (l.drop i):=by
 have:=Kr (l.drop i) (j - i);rw[alP,show i+(j - i)=j by omega] at this;omega
theorem Vo (l:List Ob)(i j:Nat)(h:i<=j):Ob.wts (l.drop j)<=Ob.wts (l.drop i):=by
 have:=KL (l.drop i) (j - i);rw[alP,show i+(j - i)=j by omega] at this;omega
theorem nE (o:Ob):o.wt=6+o.s.length+Pl.tot o.keys+Ob.wts o.kids:=by cases o;rw[Ob.wt];rfl
theorem Wp (o:Ob)(key:List UInt8)(v:Ob):(put o key v).wt<=o.wt+(key.length+1)+v.wt:=by
 rw[nE (put o key v),nE o];rw[show (put o key v).s=o.s from rfl,show (put o key v).keys=o.keys.take (place o.keys key)++key::o.keys.drop (place o.keys key+if hit o.keys key then 1 else 0) from rfl,
  show (put o key v).kids=o.kids.take (place o.keys key)++v::o.kids.drop (place o.keys key+if hit o.keys key then 1 else 0) from rfl]
 rw[Pl.HT,LL];have h1:=Kr o.keys (place o.keys key);have h2:=VN o.keys (place o.keys key) (place o.keys key+if hit o.keys key then 1 else 0) om;have h3:=KL o.kids (place o.keys key);have h4:=Vo o.kids (place o.keys key) (place o.keys key+if hit o.keys key then 1 else 0) om;have h5:∀l,Pl.tot (key::l)=key.length+1+Pl.tot l:=fun l=>by simp[Pl.tot]
 rw[h5,Ob.wts];omega
theorem NW (key:List UInt8):∀(ks:List (List UInt8)) (cs:List Ob),Pl.tot (cN key ks cs).1<=Pl.tot ks∧Ob.wts (cN key ks cs).2<=Ob.wts cs
|[],cs=>by simp[cN,Pl.tot,Ob.wts]
|k::ks,[]=>by simp[cN,Pl.tot,Ob.wts]
|k::ks,c::cs=>by
  have h5:∀a l,Pl.tot (a::l)=a.length+1+Pl.tot l:=fun a l=>by simp[Pl.tot]
  obtain⟨h1,h2⟩:=NW key ks cs;rw[cN];split
  ·rw[h5,Ob.wts];exact⟨om,om⟩
  ·rw[h5,h5,Ob.wts,Ob.wts];exact⟨om,om⟩
theorem fE (o:Ob)(key:List UInt8):(aJ o key).wt<=o.wt:=by
 rw[nE (aJ o key),nE o];have:=NW key o.keys o.kids;rw[show (aJ o key).s=o.s from rfl,show (aJ o key).keys=(cN key o.keys o.kids).1 from rfl,show (aJ o key).kids=(cN key o.keys o.kids).2 from rfl];omega
theorem UP (o:Ob):(right o).1.wt<=o.wt:=by
 unfold right;split
 ·show ob0.wt<=_;rw[nE ob0,nE o];show 6+0+Pl.tot []+Ob.wts []<=_;simp[Pl.tot,Ob.wts];omega
 ·exact ahD _
theorem Z3 (o:Ob)(key:List UInt8)(v:Ob):(set o key v).1.wt<=o.wt+(key.length+1)+v.wt:=by
 have h0:ob0.wt<=o.wt:=by
  rw[nE ob0,nE o];show 6+0+Pl.tot []+Ob.wts []<=_;simp[Pl.tot,Ob.wts];omega
 unfold set;split
 ·simp only;omega
 split
 ·simp only;omega
 split
 ·have:=fE o key;simp only;omega
 ·exact ajZ (UP _) (Wp o key v)
end Vl
end
section
open Eng Go.RowKit
theorem OwnS.sep (ho:OwnS S w0 w L)(i j:Nat)(hij:i≠j){f:Ent}(hi:L[i]?=some e)(hj:L[j]?=some f):∀k,e.blk k->¬f.blk k:=by
 obtain⟨hil,rfl⟩:=ahQ.1 hi;obtain⟨hjl,rfl⟩:=ahQ.1 hj;have hp:=alL.1 ho.apart;intro k hk hk';rcases ahY i j with h|h
 ·exact hp i j hil hjl h k hk hk'
 ·exact hp j i hjl hil om k hk' hk
section
variable {w:World}{S:Nat->Prop}{w0:World}{L:List Ent}{PK:PKT}{K:VWP}
theorem Gd (o:Ob)(hk:vk.oneCell'=true)(hc:vc.oneCell'=true)(ho:OwnS S w0 w L)(k:∀b w',OwnS S w0 w' (obE b o vk vc::L)->K (.slice (some ⟨b,0,none⟩) 1 1) w'):DoX prog (bN 23 1 #[(0,obV o vk vc)]) w PK K:=by
 cases vk<;>first|(cases hk;done)|skip
 all_goals cases vc<;>first|(cases hc;done)|exact bC (fun b=>.slice (some ⟨b,0,none⟩) 1 1) (obC o _ _) 25 (fun _=>by kernel_rfl) ho k
theorem RL (s:List UInt8)(ho:OwnS S w0 w L)(k:∀b w',OwnS S w0 w' (.cells b [.string ⟨s.toArray⟩] 9::L)->K (.slice (some ⟨b,0,none⟩) 1 1) w'):DoX prog (bN 22 1 #[(0,.string ⟨s.toArray⟩)]) w PK K:=
 bC (fun b=>.slice (some ⟨b,0,none⟩) 1 1) [.string ⟨s.toArray⟩] 9 (fun _=>by kernel_rfl) ho k
end
theorem Ii (l:List (List UInt8))(i:Nat):(bG l).take (i*1)=bG (l.take i):=by rw[ahZ];simp[bG]
theorem H5 (l:List (List UInt8))(i:Nat):(bG l).drop (i*1)=bG (l.drop i):=by rw[ahZ];simp[bG]
theorem Hc (a b:List (List UInt8)):bG (a++b)=bG a++bG b:=by simp[bG]
theorem FI {A:Nat->Prop}{w:World}:∀{os:List Ob} {cs:List Value} (i:Nat),OVs A w cs os->OVs A w (cs.take (i*6)) (os.take i)
|_,_,0,_=>by rw[akD,akS,akS];exact OVs.nil
|[],cs,i+1,h=>by rw[OVs] at h;subst h;rw[List.take_nil,List.take_nil];exact OVs.nil
|o::os,cs,i+1,h=>by
  rw[OVs] at h;obtain⟨a,rest,rfl,hl,h1,h2⟩:=h;have e:(a++rest).take ((i+1)*6)=a++rest.take (i*6):=by
   rw[aoF,aiF om]
   congr 2
   omega
  rw[e,amE,OVs];exact⟨a,_,rfl,hl,h1,FI i h2⟩
theorem FM {A:Nat->Prop}{w:World}:∀{os:List Ob} {cs:List Value} (i:Nat),OVs A w cs os->OVs A w (cs.drop (i*6)) (os.drop i)
|_,_,0,h=>by rw[akD,ajL,ajL];exact h
|[],cs,i+1,h=>by rw[OVs] at h;subst h;rw[List.drop_nil,List.drop_nil];exact OVs.nil
|o::os,cs,i+1,h=>by
  rw[OVs] at h;obtain⟨a,rest,rfl,hl,h1,h2⟩:=h;have e:(a++rest).drop ((i+1)*6)=rest.drop (i*6):=by
   rw[alC,ajC om,aiM]
   congr 1
   omega
  rw[e,aoG];exact FM i h2
theorem VJ (o x:Ob)(v u:Value)(key:List UInt8)(M:Mem)(w:World)(hw:o.wt<=10000000000)(hM:M.has w)(hv:OV M.A M.w v o)(hu:OV M.A M.w u x)(hr:Vl.Rise o.keys)(hlen:o.keys.length=o.kids.length) :
  RetM prog 140 #[v,.string ⟨key.toArray⟩,u] M w (fun r N=>OV N.A N.w r (Vl.put o key x)):=by
 obtain⟨vk,vc,cs,rfl,ha⟩:=hv.open;obtain⟨xk,xc,xcs,rfl,hx⟩:=hu.open;have hww:Ob.wts o.kids<=10000000000:=by cases o;rw[Ob.wt] at hw;simp only[Ob.kids];omega
 have hkt:Pl.tot o.keys<=10000000000:=by cases o;rw[Ob.wt] at hw;simp only[Ob.keys];omega
 have hkl:=Pl.iU o.keys;have hlk:=Ob.wK o.kids;refine aT hM fun K hK=>Gn ?_;unfold EB nz;refine eW o ha.keys.one ha.kids.one (OwnS.memS hM) fun b3 w1 ho=>?_;refine eW x hx.keys.one hx.kids.one ho fun b5 w2 ho=>?_;refine eX ho fun b6 w3 ho=>?_;rw[mJ,eR ho 2 rfl];refine c_eq (F6 vk o.keys key w3 (ha.keys.now (ho.hasM 3 rfl)) hr om) ?_;simp only[ex];rw[mJ,eR ho 2 rfl];refine B5 (wZ vk _ _ w3 (ha.keys.now (ho.hasM 3 rfl)) rI om) fun vk1 w4 hnew=>?_;have ho:=ho.join hnew;have ho:OwnS M.A w w4 [.urow 9 1 vk1 o.keys.length (bG o.keys),obE b6 ob0 nilS nilS,obE b5 x xk xc,obE b3 o vk vc,.mem M]:=ho;rw[mJ];refine aN 3 ho rfl krx (dQ (ho.at_ 0 rfl)) (show 0+4 < 6 by omega) fun w5 ho=>?_;have ho:OwnS M.A w w5 [.urow 9 1 vk1 o.keys.length (bG o.keys),obE b6 ob0 nilS nilS,obE b5 x xk xc,obE b3 o vk1 vc,.mem M]:=ho;rw[jP,cZ ho 3 rfl];refine B5 (Ep vc _ _ w5 (ha.kids.now (ho.hasM 4 rfl)) (GA ha.all) om) fun vc1 w6 hnew=>?_;have ho:=ho.join hnew;have ho:OwnS M.A w w6 [.urow 25 6 vc1 o.kids.length cs,.urow 9 1 vk1 o.keys.length (bG o.keys),obE b6 ob0 nilS nilS,obE b5 x xk xc,obE b3 o vk1 vc,.mem M]:=ho;rw[jP];refine aN 4 ho rfl krx (dQ (ho.at_ 0 rfl)) (show 0+5 < 6 by omega) fun w7 ho=>?_;have ho:OwnS M.A w w7 [.urow 25 6 vc1 o.kids.length cs,.urow 9 1 vk1 o.keys.length (bG o.keys),obE b6 ob0 nilS nilS,obE b5 x xk xc,obE b3 o vk1 vc1,.mem M]:=ho;have hple:=Vl.zH o.keys key;refine join fun J hJ=>?_;have fin:∀(W:World) (kv cv:Value) (ks:List (List UInt8)) (os:List Ob) (ds:List Value),OwnS M.A w W [.urow 25 6 cv os.length ds,.urow 9 1 kv ks.length (bG ks),obE b6 ob0 nilS nilS,obE b5 x xk xc,obE b3 o kv cv,.mem M] ->
   OVs M.A M.w ds os->Vl.put o key x=.mk o.k o.n o.g o.s ks os->J [] W:=by
  intro W kv cv ks os ds ho hall hput;refine hJ _ _ fun _=>?_;unfold As nz;have hk1:=dQ (ho.at_ 1 rfl);have hc1:=dQ (ho.at_ 0 rfl);obtain⟨N,hle,hrow,ho⟩:=OwnS.cG (L:=[.urow 9 1 kv ks.length (bG ks),obE b6 ob0 nilS nilS,obE b5 x xk xc,obE b3 o kv cv,.mem M]) ho 4 rfl;obtain⟨N2,hle2,hrow2,ho⟩:=OwnS.cG (L:=[obE b6 ob0 nilS nilS,obE b5 x xk xc,obE b3 o kv cv,.mem N]) ho 3 rfl;have ho:OwnS M.A w W [obE b6 ob0 nilS nilS,obE b5 x xk xc,obE b3 o kv cv,.mem N2]:=ho;rw[ob_v ho 2 rfl];refine bD 0 hk1 hc1 ho rfl fun w8 ho=>?_;refine iW (bH (ho.agg 0 rfl tI)) (hK _ _ N2 _ 3 ho rfl (hle.trans hle2) ?_);rw[hput];exact ObAt.ov (o:=.mk o.k o.n o.g o.s ks os) ⟨hrow2,hrow.le hle2,hall.le (hle.trans hle2)⟩
 cases hh:Vl.hit o.keys key with
|true=>
  simp only[i_t];have hi:o.keys[Vl.place o.keys key]?=some key:=ahO hh;have hlt:Vl.place o.keys key < o.keys.length:=(ahQ.1 hi).1;have hg:o.keys[Vl.place o.keys key]=key:=(ahQ.1 hi).2;rw[jP,cZ ho 4 rfl,ob_v ho 3 rfl];obtain⟨g,cap,rfl⟩:=oN (ho.at_ 0 rfl) om;refine aE (eE ahN szOb om om) |>.mpr ?_;rw[ahI,ahJ];have hcl:cs.length=o.kids.length*6:=ha.kids.1.1;refine Cb 0 ho rfl (u:=obV x xk xc) (new:=obC x xk xc) rfl szOb (DG _ hx.keys.one hx.kids.one) (by show _+6<=_;omega) fun w8 ho=>?_;have e1:o.keys.take (Vl.place o.keys key)++key::o.keys.drop (Vl.place o.keys key+1)=o.keys:=by
   conv=>rhs;rw[<-aiJ (Vl.place o.keys key) o.keys,ajB hlt,hg]
  refine fin w8 vk1 (.slice (some ⟨g,0,none⟩) o.kids.length cap) o.keys (o.kids.take (Vl.place o.keys key)++x::o.kids.drop (Vl.place o.keys key+1)) (cs.take (Vl.place o.keys key*6)++obC x xk xc++cs.drop (Vl.place o.keys key*6+6)) ?_ ?_ ?_
  ·have el:(o.kids.take (Vl.place o.keys key)++x::o.kids.drop (Vl.place o.keys key+1)).length=o.kids.length:=by simp;omega
   rw[el];exact ho
  ·have:=wH (FI (Vl.place o.keys key) ha.all) (wH (Vy hu) (FM (Vl.place o.keys key+1) ha.all));rw[show (Vl.place o.keys key+1)*6=Vl.place o.keys key*6+6 by omega,<-ahK] at this;exact this
  ·unfold Vl.put;rw[hh];simp only[if_true];rw[e1]
|false=>
  simp only[i_f];rw[mJ,eR ho 4 rfl];refine RL key ho fun nb w8 ho=>?_;refine oK 2 ho rfl (IY vk1 o.keys.length (bG o.keys) (Vl.place o.keys key) nb [.string ⟨key.toArray⟩] w8 (ho.at_ 2 rfl) (ho.at_ 0 rfl) rfl (fun h=>(OwnS.sep ho 2 0 om rfl rfl) nb h rfl) rI (by simp[Value.oneCell']) hple om) ?_;rintro kv e' w9 rfl ho;have ho:OwnS M.A w w9 [.cells nb [.string ⟨key.toArray⟩] 9,.urow 25 6 vc1 o.kids.length cs,.urow 9 1 kv (o.keys.length+1) ((bG o.keys).take (Vl.place o.keys key*1)++[.string ⟨key.toArray⟩]++(bG o.keys).drop (Vl.place o.keys key*1)),obE b6 ob0 nilS nilS,obE b5 x xk xc,obE b3 o vk1 vc1,.mem M]:=ho;rw[Ii,H5] at ho;have ho:=ho.tail;rw[mJ];refine aN 4 ho rfl krx (dQ (ho.at_ 1 rfl)) (show 0+4 < 6 by omega) fun w10 ho=>?_;have ho:OwnS M.A w w10 [.urow 25 6 vc1 o.kids.length cs,.urow 9 1 kv (o.keys.length+1) (bG (o.keys.take (Vl.place o.keys key))++[.string ⟨key.toArray⟩]++bG (o.keys.drop (Vl.place o.keys key))),obE b6 ob0 nilS nilS,obE b5 x xk xc,obE b3 o kv vc1,.mem M]:=ho;rw[jP,cZ ho 4 rfl,ob_v ho 3 rfl];refine Gd x hx.keys.one hx.kids.one ho fun nb2 w11 ho=>?_;refine oK 1 ho rfl (JL vc1 o.kids.length cs (Vl.place o.keys key) nb2 (obC x xk xc) w11 (ho.at_ 1 rfl) (ho.at_ 0 rfl) rfl (fun h=>(OwnS.sep ho 1 0 om rfl rfl) nb2 h rfl) (GA ha.all) (DG _ hx.keys.one hx.kids.one) om om) ?_;rintro cv e' w12 rfl ho;have ho:OwnS M.A w w12 [.cells nb2 (obC x xk xc) 25,.urow 25 6 cv (o.kids.length+1) (cs.take (Vl.place o.keys key*6)++obC x xk xc++cs.drop (Vl.place o.keys key*6)),.urow 9 1 kv (o.keys.length+1) (bG (o.keys.take (Vl.place o.keys key))++[.string ⟨key.toArray⟩]++bG (o.keys.drop (Vl.place o.keys key))),obE b6 ob0 nilS nilS,obE b5 x xk xc,obE b3 o kv vc1,.mem M]:=ho;have ho:=ho.tail;rw[jP];refine aN 4 ho rfl krx (dQ (ho.at_ 0 rfl)) (show 0+5 < 6 by omega) fun w13 ho=>?_;refine fin w13 kv cv (o.keys.take (Vl.place o.keys key)++key::o.keys.drop (Vl.place o.keys key)) (o.kids.take (Vl.place o.keys key)++x::o.kids.drop (Vl.place o.keys key)) (cs.take (Vl.place o.keys key*6)++obC x xk xc++cs.drop (Vl.place o.keys key*6)) ?_ ?_ ?_
  ·have el:(o.kids.take (Vl.place o.keys key)++x::o.kids.drop (Vl.place o.keys key)).length=o.kids.length+1:=by simp;omega
   have el2:(o.keys.take (Vl.place o.keys key)++key::o.keys.drop (Vl.place o.keys key)).length=o.keys.length+1:=by simp;omega
   have es:bG (o.keys.take (Vl.place o.keys key)++key::o.keys.drop (Vl.place o.keys key))=bG (o.keys.take (Vl.place o.keys key))++[.string ⟨key.toArray⟩]++bG (o.keys.drop (Vl.place o.keys key)):=by
    rw[Hc];simp[bG,strV]
   rw[el,el2,es];exact ho
  ·have:=wH (FI (Vl.place o.keys key) ha.all) (wH (Vy hu) (FM (Vl.place o.keys key) ha.all));rw[<-ahK] at this;exact this
  ·unfold Vl.put;rw[hh];simp
end
section
open Eng Go.RowKit
theorem Sl.upto {a:Option Addr}{n:Nat}(h:Sl w (.slice a n cap) sz n cs)(hi:i<=n):Sl w (.slice (subA a 0 cap sz) i cap) sz i (cs.take (i*sz)):=by
 obtain⟨hl,a',cap',e,h1,h2⟩:=h
 injection e with e1 _ e3
 subst e1;subst e3;refine⟨by rw[ahE,hl,aiH (aiO _ hi)],subA a 0 cap sz,cap,rfl,?_,?_⟩
 ·intro hn;cases a with
 |none=>have:=h1 rfl;omega
 |some p=>unfold subA at hn;split at hn<;>simp at hn
 ·intro p hp;cases a with
 |none=>unfold subA at hp;split at hp<;>simp at hp
 |some q=>
   have hq:q=p:=by
    unfold subA at hp;split at hp
    ·exact akJ hp
    ·have:=akJ hp;rw[<-this];simp[Addr.add]
   subst hq;refine⟨fun h=>(h2 q rfl).1 om,fun j u hj=>(h2 q rfl).2 j u ?_⟩;rw[ajT] at hj;split at hj<;>first|exact hj|cases hj
theorem Sl.from {a:Option Addr}{n:Nat}(h:Sl w (.slice a n cap) sz n cs)(hi:i<=n)(hc:n<=cap):Sl w (.slice (subA a i cap sz) (n - i) (cap - i)) sz (n - i) (cs.drop (i*sz)):=by
 obtain⟨hl,a',cap',e,h1,h2⟩:=h
 injection e with e1 _ e3
 subst e1;subst e3;refine⟨by rw[ahL,hl,<-amY],subA a i cap sz,cap - i,rfl,?_,?_⟩
 ·intro hn;cases a with
 |none=>have:=h1 rfl;omega
 |some p=>unfold subA at hn;split at hn<;>simp at hn
 ·intro p hp;cases a with
 |none=>unfold subA at hp;split at hp<;>simp at hp
 |some q=>
   by_cases hci:cap=i
   ·have hn:n - i=0:=om
    refine⟨fun h=>by omega,fun j u hj=>?_⟩;have:(cs.drop (i*sz)).length=0:=by rw[ahL,hl,<-amY,hn,akD]
    have:=(ahQ.1 hj).1;omega
   ·unfold subA at hp;rw[agV hci,amV] at hp
    injection hp with hp
    have hsz:0 < n - i->q.spot=none:=fun h=>(h2 q rfl).1 om;refine⟨fun h=>?_,fun j u hj=>?_⟩
    ·have hs:=hsz h;rw[<-hp];obtain⟨b,off,spot⟩:=q;simp only at hs;subst hs;rw[cC]
    ·rw[akG] at hj;have hc2:=(h2 q rfl).2 (i*sz+j) u hj;have hjl:=(ahQ.1 hj).1;have hs:q.spot=none:=(h2 q rfl).1 (by
      rcases ajV n with h0|h0
      ·rw[hl,h0,akD] at hjl;omega
      ·exact h0)
     rw[<-hp];obtain⟨b,off,spot⟩:=q;simp only at hs;subst hs;rw[cC,akL];exact hc2
theorem SlA.form {n:Nat}(h:SlA A w v sz n cs):∃a cap,v=.slice a n cap∧n<=cap:=by
 obtain⟨⟨_,a,cap,rfl,_⟩,_,h3⟩:=h;exact⟨a,cap,rfl,h3 a n cap rfl⟩
theorem LC (o:Ob)(v:Value)(i:Nat)(M:Mem)(w:World)(hw:o.wt<=10000000000)(hM:M.has w)(hv:OV M.A M.w v o)(hi:i < o.keys.length)(hlen:o.keys.length=o.kids.length) :
  RetM prog 155 #[v,.int .i64 (i:Int)] M w (fun r N=>OV N.A N.w r (.mk o.k o.n o.g o.s (o.keys.take i++o.keys.drop (i+1)) (o.kids.take i++o.kids.drop (i+1)))):=by
 obtain⟨vk,vc,cs,rfl,ha⟩:=hv.open;have hww:Ob.wts o.kids<=10000000000:=by cases o;rw[Ob.wt] at hw;simp only[Ob.kids];omega
 have hkt:Pl.tot o.keys<=10000000000:=by cases o;rw[Ob.wt] at hw;simp only[Ob.keys];omega
 have hkl:=Pl.iU o.keys;have hlk:=Ob.wK o.kids;refine aT hM fun K hK=>BJ ?_;unfold xF nz;refine eW o ha.keys.one ha.kids.one (OwnS.memS hM) fun b2 w1 ho=>?_;refine eX ho fun b4 w2 ho=>?_;rw[mJ,eR ho 1 rfl];refine B5 (wZ vk _ _ w2 (ha.keys.now (ho.hasM 2 rfl)) rI om) fun vk1 w3 hnew=>?_;have ho:=ho.join hnew;have ho:OwnS M.A w w3 [.urow 9 1 vk1 o.keys.length (bG o.keys),obE b4 ob0 nilS nilS,obE b2 o vk vc,.mem M]:=ho;simp only[rs];rw[aA om om,show (i:Int)+1=((i+1:Nat):Int) by omega];refine oK 0 ho rfl (JJ vk1 o.keys.length (bG o.keys) i w3 (ho.at_ 0 rfl) rI hi om) ?_;rintro kv e' w4 rfl ho;have ho:OwnS M.A w w4 [.urow 9 1 kv (o.keys.length - 1) ((bG o.keys).take (i*1)++(bG o.keys).drop ((i+1)*1)),obE b4 ob0 nilS nilS,obE b2 o vk vc,.mem M]:=ho;rw[Ii,H5] at ho;rw[mJ];have hk1:=dQ (ho.at_ 0 rfl);refine aN 2 ho rfl krx hk1 (show 0+4 < 6 by omega) fun w5 ho=>?_;have ho:OwnS M.A w w5 [.urow 9 1 kv (o.keys.length - 1) (bG (o.keys.take i)++bG (o.keys.drop (i+1))),obE b4 ob0 nilS nilS,obE b2 o kv vc,.mem M]:=ho;rw[jP,cZ ho 2 rfl];refine B5 (Ep vc _ _ w5 (ha.kids.now (ho.hasM 3 rfl)) (GA ha.all) om) fun vc1 w6 hnew=>?_;have ho:=ho.join hnew;have ho:OwnS M.A w w6 [.urow 25 6 vc1 o.kids.length cs,.urow 9 1 kv (o.keys.length - 1) (bG (o.keys.take i)++bG (o.keys.drop (i+1))),obE b4 ob0 nilS nilS,obE b2 o kv vc,.mem M]:=ho;refine oK 0 ho rfl (JB vc1 o.kids.length cs i w6 (ho.at_ 0 rfl) (GA ha.all) om om) ?_;rintro cv e' w7 rfl ho;have ho:OwnS M.A w w7 [.urow 25 6 cv (o.kids.length - 1) (cs.take (i*6)++cs.drop ((i+1)*6)),.urow 9 1 kv (o.keys.length - 1) (bG (o.keys.take i)++bG (o.keys.drop (i+1))),obE b4 ob0 nilS nilS,obE b2 o kv vc,.mem M]:=ho;have hc1:=dQ (ho.at_ 0 rfl);rw[jP];refine aN 3 ho rfl krx hc1 (show 0+5 < 6 by omega) fun w8 ho=>?_;have ho:OwnS M.A w w8 [.urow 25 6 cv (o.kids.length - 1) (cs.take (i*6)++cs.drop ((i+1)*6)),.urow 9 1 kv (o.keys.length - 1) (bG (o.keys.take i)++bG (o.keys.drop (i+1))),obE b4 ob0 nilS nilS,obE b2 o kv cv,.mem M]:=ho;obtain⟨N,hle,hrow,ho⟩:=OwnS.cG (L:=[.urow 9 1 kv (o.keys.length - 1) (bG (o.keys.take i)++bG (o.keys.drop (i+1))),obE b4 ob0 nilS nilS,obE b2 o kv cv,.mem M]) ho 3 rfl;obtain⟨N2,hle2,hrow2,ho⟩:=OwnS.cG (L:=[obE b4 ob0 nilS nilS,obE b2 o kv cv,.mem N]) ho 2 rfl;have ho:OwnS M.A w w8 [obE b4 ob0 nilS nilS,obE b2 o kv cv,.mem N2]:=ho;rw[ob_v ho 1 rfl];refine bD 0 hk1 hc1 ho rfl fun w9 ho=>?_;refine iW (bH (ho.agg 0 rfl tI)) (hK _ _ N2 _ 2 ho rfl (hle.trans hle2) ?_);have el1:(o.keys.take i++o.keys.drop (i+1)).length=o.keys.length - 1:=by simp;omega
 have el2:(o.kids.take i++o.kids.drop (i+1)).length=o.kids.length - 1:=by simp;omega
 refine ObAt.ov (o:=.mk o.k o.n o.g o.s (o.keys.take i++o.keys.drop (i+1)) (o.kids.take i++o.kids.drop (i+1))) (vk:=kv) (vc:=cv) (cs:=cs.take (i*6)++cs.drop ((i+1)*6)) ⟨?_,?_,?_⟩
 ·show SlA N2.A N2.w kv 1 (o.keys.take i++o.keys.drop (i+1)).length (bG (o.keys.take i++o.keys.drop (i+1)));rw[el1,Hc];exact hrow2
 ·show SlA N2.A N2.w cv 6 (o.kids.take i++o.kids.drop (i+1)).length _;rw[el2];exact hrow.le hle2
 ·exact (wH (FI i ha.all) (FM (i+1) ha.all)).le (hle.trans hle2)
def Vl.drop (o:Ob)(key:List UInt8):Ob:=if Vl.keyed o=true∧Vl.check 1 o=0 then Vl.aJ o key else o
theorem B3 (o:Ob)(v:Value)(key:List UInt8)(M:Mem)(w:World)(hw:o.wt<=10000000000)(hM:M.has w)(hv:OV M.A M.w v o) :
  RetM prog 88 #[v,.string ⟨key.toArray⟩] M w (fun r N=>OV N.A N.w r (Vl.drop o key)):=by
 obtain⟨vk,vc,cs,rfl,ha⟩:=hv.open;have hkt:Pl.tot o.keys<=10000000000:=by cases o;rw[Ob.wt] at hw;simp only[Ob.keys];omega
 have hkl:=Pl.iU o.keys;refine aT hM fun K hK=>F7 ?_;unfold En nz;refine eW o ha.keys.one ha.kids.one (OwnS.memS hM) fun b2 w1 ho=>?_;refine eX ho fun b4 w2 ho=>?_;refine join fun J hJ=>?_;have fin:∀(W:World) (N:Mem) (p:Ob) (kv cv:Value),OwnS M.A w W [obE b4 ob0 nilS nilS,obE b2 p kv cv,.mem N]->M.le N->OV N.A N.w (obV p kv cv) p->p=Vl.drop o key->p.wt<=10000000000->J [] W:=by
  intro W N p kv cv ho hle hp he hpw;refine hJ _ _ fun _=>?_;unfold Av nz;rw[ob_v ho 1 rfl];refine bF ho 2 rfl (CS p _ N W om (ho.hasM 2 rfl) hp) fun y N2 w4 hle2 hy ho=>?_;obtain⟨yk,yc,ycs,rfl,hya⟩:=hy.open;refine bD 0 hya.keys.one hya.kids.one ho rfl fun w5 ho=>?_;exact iW (bH (ho.agg 0 rfl tI)) (hK _ _ N2 _ 2 ho rfl (hle.trans hle2) (he▸hy))
 rw[ob_v ho 1 rfl];refine aL ho (R:=fun v=>v=.bool (Vl.keyed o)) (GW o ha.keys.one ha.kids.one w2) ?_;rintro _ w3 rfl ho;cases hkd:Vl.keyed o with
|false=>
  simp only[rs,g_un];exact fin w3 M o vk vc ho M.le_refl hv (by unfold Vl.drop;rw[agV (by simp[hkd])]) hw
|true=>
  simp only[rs];rw[ob_v ho 1 rfl];refine aL ho (R:=fun v=>v=.int .i64 (Vl.check 1 o)) (rJ o _ w3 (OV.inw (ho.hasM 2 rfl) hv) om) ?_;rintro _ w4 rfl ho;simp only[rs];by_cases hc:Vl.check 1 o=0
  ·simp only[hc,agY,rs];obtain⟨hr,hlen⟩:=Vl.kN hc hkd;rw[mJ,eR ho 1 rfl];refine c_eq (F6 vk o.keys key w4 (ha.keys.now (ho.hasM 2 rfl)) hr om) ?_;simp only[ex];have hdr:=Vl.PA hc hkd key;have hdd:Vl.drop o key=Vl.aJ o key:=by unfold Vl.drop;rw[agW ⟨hkd,hc⟩]
   cases hh:Vl.hit o.keys key with
  |true=>
    simp only[i_t];rw[hh,agW rfl] at hdr;have hi:o.keys[Vl.place o.keys key]?=some key:=ahO hh;have hlt:Vl.place o.keys key < o.keys.length:=(ahQ.1 hi).1;rw[ob_v ho 1 rfl];refine bF ho 2 rfl (LC o _ _ M w4 hw (ho.hasM 2 rfl) hv hlt hlen) fun y N w5 hle hy ho=>?_;rw[<-hdr] at hy;obtain⟨yk,yc,ycs,rfl,hya⟩:=hy.open;refine bD 1 hya.keys.one hya.kids.one ho rfl fun w6 ho=>?_;exact fin w6 N _ yk yc ho hle hy hdd.symm (ajZ (Vl.fE o key) hw)
  |false=>
    simp only[i_f];rw[hh] at hdr;exact fin w4 M o vk vc ho M.le_refl hv (by rw[hdd,hdr];rfl) hw
  ·simp only[hc,agX,rs];exact fin w4 M o vk vc ho M.le_refl hv (by unfold Vl.drop;rw[agV (by simp[hc])]) hw
theorem V2 (o x:Ob)(v u:Value)(key:List UInt8)(M:Mem)(w:World)(hw:o.wt<=10000000000)(hwx:x.wt<=10000000000)(hwk:key.length<=10000000000)(hM:M.has w)(hv:OV M.A M.w v o)(hu:OV M.A M.w u x) :
  RetM prog 70 #[v,.string ⟨key.toArray⟩,u] M w (fun r N=>∃v',r=errV v' (Vl.set o key x).2∧OV N.A N.w v' (Vl.set o key x).1):=by
 obtain⟨vk,vc,cs,rfl,ha⟩:=hv.open;obtain⟨xk,xc,xcs,rfl,hx⟩:=hu.open;refine aT hM fun K hK=>HP ?_;unfold Gp nz;refine eW o ha.keys.one ha.kids.one (OwnS.memS hM) fun b3 w1 ho=>?_;refine eW x hx.keys.one hx.kids.one ho fun b5 w2 ho=>?_;refine eX ho fun b6 w3 ho=>?_;rw[ob_v ho 2 rfl];refine aL ho (R:=fun v=>v=.bool (Vl.keyed o)) (GW o ha.keys.one ha.kids.one w3) ?_;rintro _ w4 rfl ho;cases hkd:Vl.keyed o with
|false=>
  simp only[rs,aiR];rw[He];refine bD 0 rfl rfl ho rfl fun w5 ho=>?_;refine eJ 0 ho rfl (hK _ _ M _ 3 ho rfl M.le_refl ⟨obV Vl.ob0 nilS nilS,?_,?_⟩)
  ·simp[Vl.set,hkd,errV]
  ·simpa[Vl.set,hkd] using Af M
|true=>
  simp only[rs,aiQ];rw[ob_v ho 2 rfl];refine aL ho (R:=fun v=>v=.int .i64 (Vl.check 1 o)) (rJ o _ w4 (OV.inw (ho.hasM 3 rfl) hv) om) ?_;rintro _ w5 rfl ho;simp only[gD];by_cases hc:Vl.check 1 o=0
  ·simp only[hc,ne_eq,not_true,agX,i_f];rw[fI,ob_k ho 1 rfl];simp only[rs];by_cases h0:x.k=0
   ·simp only[h0,agY,i_t];rw[ob_v ho 2 rfl];refine bF ho 3 rfl (B3 o _ key M w5 hw (ho.hasM 3 rfl) hv) fun y N w6 hle hy ho=>?_;obtain⟨yk,yc,ycs,rfl,hya⟩:=hy.open;refine bD 0 hya.keys.one hya.kids.one ho rfl fun w7 ho=>?_;have e:Vl.set o key x=(Vl.drop o key,0):=by simp[Vl.set,hkd,hc,h0,Vl.drop]
    refine eJ 0 ho rfl (hK _ _ N _ 3 ho rfl hle ⟨obV (Vl.drop o key) yk yc,?_,?_⟩)
    ·rw[e];rfl
    ·rw[e];exact hy
   ·simp only[h0,agX,i_f];rw[ob_v ho 2 rfl,ob_v ho 1 rfl];obtain⟨hr,hlen⟩:=Vl.kN hc hkd;have hpw:=Vl.Wp o key x;refine bF ho 3 rfl (VJ o x _ _ key M w5 hw (ho.hasM 3 rfl) hv hu hr hlen) fun y N w6 hle hy ho=>?_;refine bF ho 3 rfl (CS _ _ N w6 om (ho.hasM 3 rfl) hy) fun z N2 w7 hle2 hz ho=>?_;refine bF ho 3 rfl (Ln _ _ N2 w7 om (ho.hasM 3 rfl) hz) ?_;rintro _ N3 w8 hle3 ⟨t,rfl,ht⟩ ho;obtain⟨tk,tc,tcs,rfl,hta⟩:=ht.open;simp only[errV,ex];refine bD 0 hta.keys.one hta.kids.one ho rfl fun w9 ho=>?_;have e:Vl.set o key x=Vl.right (Vl.put o key x):=by simp[Vl.set,hkd,hc,h0]
    refine eJ 0 ho rfl (hK _ _ N3 _ 3 ho rfl (hle.trans (hle2.trans hle3)) ⟨obV (Vl.right (Vl.put o key x)).1 tk tc,?_,?_⟩)
    ·rw[e];rfl
    ·rw[e];exact ht
  ·simp only[hc,ne_eq,akI,agY,i_t];rw[He];refine bD 0 rfl rfl ho rfl fun w6 ho=>?_;refine eJ 0 ho rfl (hK _ _ M _ 3 ho rfl M.le_refl ⟨obV Vl.ob0 nilS nilS,?_,?_⟩)
   ·simp[Vl.set,hkd,hc,errV]
   ·simpa[Vl.set,hkd,hc] using Af M
end
section
open Eng Go.RowKit
theorem adW:elB prog 9 1 16=true:=krx
theorem elOb:elB prog 25 6 88=true:=krx
section
variable {w:World}{S:Nat->Prop}{w0:World}{L:List Ent}{PK:PKT}{K:VWP}
theorem aeR (i:Nat){n:Nat}(ho:OwnS S w0 w L)(hi:L[i]?=some (.urow 9 1 v n xs))(hs:Sl w v2 1 m news)(h1:∀u∈news,u.oneCell'=true)(hb:n+m<=1000000000000)
  (k:∀v' w',OwnS S w0 w' (L.set i (.urow 9 1 v' (n+m) (xs++news)))->K v' w'):DoX prog (mB .append #[22,22] 22 cb #[v,v2]) w PK K:=
 cL i ahM adW dc ho hi hs h1 om om k
theorem afN (i:Nat){n:Nat}(ho:OwnS S w0 w L)(hi:L[i]?=some (.urow 25 6 v n xs))(hs:Sl w v2 6 m news)(h1:∀u∈news,u.oneCell'=true)(hb:n+m<=1000000000000)
  (k:∀v' w',OwnS S w0 w' (L.set i (.urow 25 6 v' (n+m) (xs++news)))->K v' w'):DoX prog (mB .append #[23,23] 23 cb #[v,v2]) w PK K:=
 cL i ahN elOb dc ho hi hs h1 om om k
end
theorem Il (key:List UInt8):∀(ks:List (List UInt8)) (cs:List Ob) (i:Nat) (h1:i < ks.length) (h2:i < cs.length),
  Vl.cN key (ks.take (i+1)) (cs.take (i+1))=if ks[i]=key then Vl.cN key (ks.take i) (cs.take i) else ((Vl.cN key (ks.take i) (cs.take i)).1++[ks[i]],(Vl.cN key (ks.take i) (cs.take i)).2++[cs[i]])
|k::ks,c::cs,0,_,_=>by
  simp only[amE,akS,Vl.cN,anQ,aiM]
|k::ks,c::cs,i+1,h1,h2=>by
  simp only[amE,Vl.cN,anS];have ih:=Il key ks cs i (by simpa using h1) (by simpa using h2);rw[ih];by_cases hk:k=key
  ·simp only[hk,if_true]
  ·simp only[hk,if_false];split<;>simp
|[],_,_,h1,_=>by simp at h1
|_::_,[],_,_,h2=>by simp at h2
theorem LF (key:List UInt8):∀(ks:List (List UInt8)) (cs:List Ob),(Vl.cN key ks cs).1.length=(Vl.cN key ks cs).2.length∧(Vl.cN key ks cs).1.length<=ks.length
|[],cs=>by simp[Vl.cN]
|k::ks,[]=>by simp[Vl.cN]
|k::ks,c::cs=>by
  have ih:=LF key ks cs;rw[Vl.cN];split
  ·simp;omega
  ·simp;omega
theorem EE (o:Ob)(v:Value)(key:List UInt8)(M:Mem)(w:World)(hw:o.wt<=10000000000)(hM:M.has w)(hv:OV M.A M.w v o)(hlen:o.keys.length=o.kids.length) :
  RetM prog 144 #[v,.string ⟨key.toArray⟩] M w (fun r N=>OV N.A N.w r (Vl.aJ o key)):=by
 obtain⟨vk,vc,cs,rfl,ha⟩:=hv.open;have hww:Ob.wts o.kids<=10000000000:=by cases o;rw[Ob.wt] at hw;simp only[Ob.kids];omega
 have hkt:Pl.tot o.keys<=10000000000:=by cases o;rw[Ob.wt] at hw;simp only[Ob.keys];omega
 have hkl:=Pl.iU o.keys;have hlk:=Ob.wK o.kids;refine aT hM fun K hK=>qL ?_;unfold jY nz;refine eW o ha.keys.one ha.kids.one (OwnS.memS hM) fun b2 w1 ho=>?_;refine eX ho fun b4 w2 ho=>?_;rw[mJ,eR ho 1 rfl,bB ahM (ha.keys.now (ho.hasM 2 rfl))];refine loop (fun vs W=>∃(i:Nat) (kv cv:Value) (ds:List Value),vs=[kv,cv,.int .i64 i]∧i<=o.keys.length∧OVs M.A M.w ds (Vl.cN key (o.keys.take i) (o.kids.take i)).2 ∧
   OwnS M.A w W [.urow 25 6 cv (Vl.cN key (o.keys.take i) (o.kids.take i)).2.length ds,.urow 9 1 kv (Vl.cN key (o.keys.take i) (o.kids.take i)).1.length (bG (Vl.cN key (o.keys.take i) (o.kids.take i)).1),obE b4 ob0 nilS nilS,obE b2 o vk vc,.mem M])
  (fun vs _=>o.keys.length - n2 vs) ⟨0,nilS,nilS,[],rfl,om,OVs.nil,(ho.nilU 9 1).nilU 25 6⟩ ?_
 clear ho;rintro vs w3 ⟨i,kv,cv,ds,rfl,hi,hds,ho⟩ _;have hdl:=LF key (o.keys.take i) (o.kids.take i);have htl:(o.keys.take i).length<=o.keys.length:=by rw[ahE];omega
 simp only[iO,gd,rs,nz];by_cases hlt:(i:Int) < (o.keys.length:Int)
 ·have h1:i < o.keys.length:=om
  have h2:i < o.kids.length:=om
  simp only[hlt,agY,i_t];have hstep:=Il key o.keys o.kids i h1 h2;refine join fun J hJ=>?_;have fin:∀(W:World) (kv cv:Value) (ds:List Value),OVs M.A M.w ds (Vl.cN key (o.keys.take (i+1)) (o.kids.take (i+1))).2 ->
    OwnS M.A w W [.urow 25 6 cv (Vl.cN key (o.keys.take (i+1)) (o.kids.take (i+1))).2.length ds,.urow 9 1 kv (Vl.cN key (o.keys.take (i+1)) (o.kids.take (i+1))).1.length (bG (Vl.cN key (o.keys.take (i+1)) (o.kids.take (i+1))).1),obE b4 ob0 nilS nilS,obE b2 o vk vc,.mem M]->J [kv,cv] W:=by
   intro W kv cv ds hds ho;refine hJ _ _ fun _=>?_;simp only[iT,gd,rs,nz];rw[aA om om];exact aY ⟨i+1,kv,cv,ds,rfl,om,hds,ho⟩ (by simp[n2,RowKit.intOf];omega)
  rw[mJ,eR ho 3 rfl];obtain⟨q,hrk⟩:=acE ha h1;obtain⟨r1,r2⟩:=hrk w3 (ho.hasM 4 rfl);refine aE r1 |>.mpr (aE r2 |>.mpr ?_);simp only[rs];by_cases he:o.keys[i]=key
  ·simp only[he,ne_eq,not_true,agX,rs,g_un];rw[agW he] at hstep;exact fin w3 kv cv ds (by rw[hstep];exact hds) (by rw[hstep];exact ho)
  ·have hik:(i:Int) < (o.kids.length:Int):=om
   simp only[he,ne_eq,akI,agY,rs,jP,cZ ho 3 rfl];rw[bB ahN (ha.kids.now (ho.hasM 4 rfl))];simp only[rs,hik,agY];rw[agV he] at hstep;rw[mJ,eR ho 3 rfl];refine aE r1 |>.mpr (aE r2 |>.mpr ?_);refine RL o.keys[i] ho fun nb w4 ho=>?_;refine aeR 2 ho rfl (ho.sl 0 rfl 1 1 1 rfl) (by simp[Value.oneCell']) om fun kv' w5 ho=>?_;have ho:=ho.tail;have ho:OwnS M.A w w5 [.urow 25 6 cv (Vl.cN key (o.keys.take i) (o.kids.take i)).2.length ds,.urow 9 1 kv' ((Vl.cN key (o.keys.take i) (o.kids.take i)).1.length+1) (bG (Vl.cN key (o.keys.take i) (o.kids.take i)).1++[.string ⟨o.keys[i].toArray⟩]),obE b4 ob0 nilS nilS,obE b2 o vk vc,.mem M]:=ho;rw[cZ ho 3 rfl];obtain⟨x,q2,hx,hrx⟩:=KI ha h2;obtain⟨r3,r4⟩:=hrx w5 (ho.hasM 4 rfl);refine aE r3 |>.mpr (aE r4 |>.mpr ?_);obtain⟨xk,xc,xcs,rfl,hxa⟩:=hx.open;refine Gd o.kids[i] hxa.keys.one hxa.kids.one ho fun nb2 w6 ho=>?_;refine afN 1 ho rfl (ho.sl 0 rfl 6 1 1 rfl) (DG _ hxa.keys.one hxa.kids.one) om fun cv' w7 ho=>?_;have ho:=ho.tail;refine fin w7 kv' cv' (ds++obC o.kids[i] xk xc) ?_ ?_
   ·rw[hstep];exact wH hds (Vy hx)
   ·have es:bG ((Vl.cN key (o.keys.take i) (o.kids.take i)).1++[o.keys[i]])=bG (Vl.cN key (o.keys.take i) (o.kids.take i)).1++[.string ⟨o.keys[i].toArray⟩]:=by
     rw[Hc];simp[bG,strV]
    rw[hstep];simp only[es,agZ,ahU,akK,ahJ];exact ho
 ·simp only[hlt,agX,i_f];have hk1:=dQ (ho.at_ 1 rfl);have hc1:=dQ (ho.at_ 0 rfl);rw[aiF (show o.keys.length<=i by omega),aiF (show o.kids.length<=i by omega)] at ho hds;rw[mJ];refine aN 3 ho rfl krx hk1 (show 0+4 < 6 by omega) fun w4 ho=>?_;rw[jP];refine aN 3 ho rfl krx hc1 (show 0+5 < 6 by omega) fun w5 ho=>?_;obtain⟨N,hle,hrow,ho⟩:=OwnS.cG (L:=[.urow 9 1 kv (Vl.cN key o.keys o.kids).1.length (bG (Vl.cN key o.keys o.kids).1),obE b4 ob0 nilS nilS,obE b2 o kv cv,.mem M]) ho 3 rfl;obtain⟨N2,hle2,hrow2,ho⟩:=OwnS.cG (L:=[obE b4 ob0 nilS nilS,obE b2 o kv cv,.mem N]) ho 2 rfl;have ho:OwnS M.A w w5 [obE b4 ob0 nilS nilS,obE b2 o kv cv,.mem N2]:=ho;rw[ob_v ho 1 rfl];refine bD 0 hk1 hc1 ho rfl fun w6 ho=>?_;refine iW (bH (ho.agg 0 rfl tI)) (hK _ _ N2 _ 2 ho rfl (hle.trans hle2) ?_);exact ObAt.ov (o:=Vl.aJ o key) (vk:=kv) (vc:=cv) (cs:=ds) ⟨hrow2,hrow.le hle2,hds.le (hle.trans hle2)⟩
end
section
open Go
namespace Vl
theorem VU {v:Ob}(h:Rise o.keys)(hl:o.keys.length=o.kids.length):Rise (put o key v).keys∧(put o key v).keys.length=(put o key v).kids.length:=by
 have hp:=zH o.keys key;refine⟨?_,?_⟩
 ·show Rise (o.keys.take (place o.keys key)++key::o.keys.drop (place o.keys key+if hit o.keys key then 1 else 0));have hlo:∀x∈o.keys.take (place o.keys key),less x key=true:=by
   intro x hx;obtain⟨m,hm,rfl⟩:=akH hx;rw[ahE] at hm;rw[anE];exact Na om
  have hhi:∀x∈o.keys.drop (place o.keys key+if hit o.keys key then 1 else 0),less key x=true:=by
   intro x hx;cases hh:hit o.keys key with
  |true=>
    rw[hh] at hx;obtain⟨m,hm,rfl⟩:=akH hx;simp only[if_true,ahL] at hm;have hi:o.keys[place o.keys key]?=some key:=ahO hh;have hg:o.keys[place o.keys key]=key:=(ahQ.1 hi).2;have:=pO h (i:=place o.keys key) (j:=place o.keys key+1+m) om om;rw[hg] at this;simpa using this
  |false=>
    rw[hh] at hx;obtain⟨m,hm,rfl⟩:=akH hx;simp only[alV,if_false,ahL] at hm;have hlt:place o.keys key < o.keys.length:=om
    have hge:=Va hlt;have hne:o.keys[place o.keys key]≠key:=by
     intro e;unfold hit at hh;rw[ahH hlt,e] at hh;simp at hh
    have hk:=Pv hge hne;rcases ajV m with h0|h0
    ·subst h0;simpa using hk
    ·have:=pO h (i:=place o.keys key) (j:=place o.keys key+m) om om;simpa using nH hk this
  refine alB.2 ⟨h.sublist (aoL _ _),ajF.2 ⟨hhi,h.sublist (List.drop_sublist _ _)⟩,fun a ha b hb=>?_⟩;rcases ahG.1 hb with rfl|hb
  ·exact hlo a ha
  ·exact nH (hlo a ha) (hhi b hb)
 ·show (o.keys.take (place o.keys key)++key::o.keys.drop (place o.keys key+if hit o.keys key then 1 else 0)).length=(o.kids.take (place o.keys key)++v::o.kids.drop (place o.keys key+if hit o.keys key then 1 else 0)).length;simp only[agZ,ahE,ahU,ahL];omega
end Vl
end
section
open Eng Go.RowKit
theorem Uo (os:List Ob)(v:Value)(cs:List Value)(M:Mem)(w:World)(hw:Ob.wts os<=10000000000)(hM:M.has w)(hs:SlA M.A M.w v 6 os.length cs)(hall:OVs M.A M.w cs os) :
  RetM prog 141 #[v] M w (fun r N=>OV N.A N.w r (.mk 6 0 0 [] [] os)):=by
 obtain⟨a,cap,rfl,_⟩:=hs.form;refine aT hM fun K hK=>EG ?_;unfold CX nz;refine eX (OwnS.memS hM) fun b w1 ho=>?_;have hb:∀{PK:PKT} {K:VWP},DoX prog (aZ 25 #[(0,(.int .i64 6)),(5,.slice a os.length cap)]) w1 PK K=K (obV (.mk 6 0 0 [] [] os) nilS (.slice a os.length cap)) w1:=aE krx;rw[hb];refine bF ho 1 rfl (CS (.mk 6 0 0 [] [] os) _ M w1 (by rw[Ob.wt];simp[Pl.tot];omega) (ho.hasM 1 rfl) (ObAt.ov (o:=.mk 6 0 0 [] [] os) (vk:=nilS) (cs:=cs) ⟨SlA.nil _ _ _ _,hs,hall⟩)) fun y N w2 hle hy ho=>?_;obtain⟨yk,yc,ycs,rfl,hya⟩:=hy.open;refine bD 0 hya.keys.one hya.kids.one ho rfl fun w3 ho=>?_;exact iW (bH (ho.agg 0 rfl tI)) (hK _ _ N _ 1 ho rfl hle hy)
end
section
open Go
structure It where
 num:Int
 gen:Int
 obj:Ob
structure Dc where
 items:List It
 trailer:Ob
namespace Dk
end Dk
end
section
open Eng Go.RowKit Go.ChangeShapes Go.WideShapes
inductive Rws {α:Type} (R:List Value->α->Prop):List Value->List α->Prop
|nil:Rws R [] []
|cons {a rest:List Value} {x:α} {xs:List α}:R a x->Rws R rest xs->Rws R (a++rest) (x::xs)
section
variable {α:Type}{R R':List Value->α->Prop}
theorem Rws.snoc {a:List Value}{x:α}(hx:R a x):∀{cs:List Value} {xs:List α},Rws R cs xs->Rws R (cs++a) (xs++[x])
|_,_,.nil=>by
  have:=Rws.cons hx (Rws.nil (R:=R));simpa using this
|_,_,.cons h t=>by
  rw[ahK,akU];exact .cons h (Rws.snoc hx t)
theorem Rws.flat {c:α->List Value}:∀{cs:List Value} {xs:List α},Rws (fun cs x=>cs=c x) cs xs->cs=xs.flatMap c
|_,_,.nil=>rfl
|_,_,.cons hx t=>by rw[hx,Rws.flat t,aiT]
end
section
variable {H:Type}{enc:TypeId×Value->H}{W:World}{sp:Nat->Bool}{held:Bool}
theorem Jt {E T:TypeId}{n:Nat}{R:List Value->α->Prop}{wt:α->Nat}(ht:Tryz.prog.underlying T=some (.slice E))(hc:Tryz.prog.cellsOf E=n)(hn:0 < n)
  (hel:∀fuel cs x,DataW.trod enc prog W 0 sp held fuel E cs=some x->∃a,R cs a∧cs.length=n∧wt a<=Rows.uptoBulk x.1)
  {fuel:Nat} {cs:List Value} {x:DataW H×List MemPlace} (h:DataW.trod enc prog W 0 sp held fuel T cs=some x) :
  ∃(v:Value) (ds:List Value) (xs:List α),cs=[v]∧SlA (InW W) W v n xs.length ds∧Rws R ds xs∧xs.length<=9223372036854775807∧(xs.map wt).sum+1<=Rows.uptoBulk x.1:=by
 rcases DataW.trod_slice ht h with ⟨rfl,rfl⟩|⟨a,len,cap,elems,rest,n',rfl,rfl,rfl,_,hlc,hcm,hel2,hat,_,_⟩
 ·exact⟨_,[],[],rfl,SlA.nil _ _ _ _,.nil,sm,by simp[Rows.uptoBulk]⟩
 ·rw[hc] at hat;have step:∀k,k<=len->∃(cs:List Value) (os:List α),os.length=k∧cs.length=k*n∧Rws R cs os∧(∀j u,cs[j]?=some u->W.cell? (a.add j)=some u)∧(os.map wt).sum<=Rows.uptoBulkAll ((elems.take k).map (·.1)):=by
   intro k
   induction k with
  |zero=>intro _;exact⟨[],[],rfl,sm,.nil,(fun j u hj=>by simp at hj),by simp[Rows.uptoBulkAll]⟩
  |succ k ihk=>
    intro hk;obtain⟨cs,os,h1,hcl,h2,h3,h4⟩:=ihk om;have hki:k < elems.length:=om
    have hb:=hat k om;rw[ahH hki,alX] at hb;obtain⟨ck,hck,htr⟩:=hb;obtain⟨o,ho,hlo,hw⟩:=hel n' ck _ htr;refine⟨cs++ck,os++[o],by simp[h1],by rw[agZ,hcl,hlo,ajU,amJ],Rws.snoc ho h2,fun j u hj=>?_,?_⟩
    ·rcases ahY j cs.length with hj1|hj1
     ·rw[ajA hj1] at hj;exact h3 j u hj
     ·rw[ajO hj1] at hj;have hj6:j - cs.length < n:=by
       have:=(ahQ.1 hj).1;omega
      have:=(World.cells?_some hck).2.2 (j - cs.length) hj6;rw[<-hj,<-this,NZ,show k*n+(j - cs.length)=j by omega]
    ·rw[aiG hki,aiN,aiN,qN,aoK];simp only[aiW,alI,Rows.uptoBulkAll,akX,List.sum_nil];omega
  obtain⟨cs,os,h1,hcl,h2,h3,h4⟩:=step len (ahD _);refine⟨_,cs,os,rfl,?_,h2,?_,?_⟩
  ·rw[h1];exact SlA.JD hn (by rw[hcl]) h3 (fun b hb=>hb) hlc
  ·rw[h1];simp only[maxLen] at hcm;omega
  ·rw[<-hel2,ajG] at h4;simp only[Rows.uptoBulk];omega
end
end
section
open Eng Go.RowKit
theorem XX {p:Ob}{xk xc:Value}(h:obV o vk vc=obV p xk xc):vk=xk∧vc=xc:=by
 have:(obC o vk vc).toArray=(obC p xk xc).toArray:=by injection h
 have:obC o vk vc=obC p xk xc:=by simpa using congrArg Array.toList this
 simp only[obC,amF,and_true] at this;exact⟨this.2.2.2.2.1,this.2.2.2.2.2⟩
theorem OV.slices (h:OV A w (obV o vk vc) o):∃cs,ObAt A w o vk vc cs:=by
 obtain⟨xk,xc,cs,e,ha⟩:=h.open;obtain⟨rfl,rfl⟩:=XX e;exact⟨cs,ha⟩
theorem OV.oneK (h:OV A w (obV o vk vc) o):vk.oneCell'=true:=by obtain⟨cs,ha⟩:=h.slices;exact ha.keys.one
theorem OV.oneC (h:OV A w (obV o vk vc) o):vc.oneCell'=true:=by obtain⟨cs,ha⟩:=h.slices;exact ha.kids.one
section
variable {w:World}{PK:PKT}{K:VWP}{S:Nat->Prop}{w0:World}{L:List Ent}
end
end
end Go.Proofs.YtlipjfcbjemicaaGreatDoor


namespace Go.Proofs.YtlipjfcbjemicaaGreatDoor
variable{A S:Nat->Prop}{K:VWP}{L:List Eng.Ent}{M N:Eng.Mem}{P:Program}{PK:PKT}{R:Ending->FrameMode->World->Prop}{T1 T2 U:TypeId}{a:Int}{args:Array Value}{b cap d f i m sz:Nat}{cb:Array Bool}{cs news xs:List Value}{ds:List Deferred}{e:Eng.Ent}{k':IntKind}{key:List UInt8}{o:Ob}{os:List Ob}{q want y:Bool}{t0 v v' v2 vc vk:Value}{u:FrameMode}{w w0:World}{xo yo:Operand}{α:Type}
section
open Eng Go.RowKit
theorem RetM.told {x:Value}(h:RetM prog f args M w (fun v _=>v=x)):Ret prog f args w (fun v w'=>v=x∧Below w.heap.size w w'):=
 Ret.mono h fun v w' ⟨N,g,r⟩=>⟨r,g.below⟩
theorem I4 {x:Option Ob}(h:OV M.A M.w v (x.getD Vl.ob0)):∃vk vc,v=obV (x.getD Vl.ob0) vk vc∧OV M.A M.w (obV (x.getD Vl.ob0) vk vc) (x.getD Vl.ob0):=by
 obtain⟨vk,vc,cs,rfl,ha⟩:=h.open;exact⟨vk,vc,rfl,h⟩
end
end Go.Proofs.YtlipjfcbjemicaaGreatDoor

namespace Go.Proofs.YtlipjfcbjemicaaGreatDoor
variable{A S:Nat->Prop}{K:VWP}{L:List Eng.Ent}{M N:Eng.Mem}{P:Program}{PK:PKT}{R:Ending->FrameMode->World->Prop}{T1 T2 U:TypeId}{a:Int}{args:Array Value}{b cap d f i m sz:Nat}{cb:Array Bool}{cs news xs:List Value}{ds:List Deferred}{e:Eng.Ent}{k':IntKind}{key:List UInt8}{o:Ob}{os:List Ob}{q want y:Bool}{t0 v v' v2 vc vk:Value}{u:FrameMode}{w w0:World}{xo yo:Operand}{α:Type}
section
open Eng
def rA(t0 t1 w)(K:KT):=nz Tryz.f353 1 [] [] [] (zg [0,1] [t0,t1]) w K
theorem zN{t0 t1 w K}(h:rA t0 t1 w K):Calls prog 353 #[t0,t1] w K:=cw Tryz.func353 h
def yH(t0 w)(K:KT):=nz Tryz.f362 1 [] [] [] (zg [0] [t0]) w K
theorem Ci{t0 w K}(h:yH t0 w K):Calls prog 362 #[t0] w K:=cw Tryz.func362 h
end
end Go.Proofs.YtlipjfcbjemicaaGreatDoor


namespace Go.Proofs.YtlipjfcbjemicaaGreatDoor
variable{A S:Nat->Prop}{K:VWP}{L:List Eng.Ent}{M N:Eng.Mem}{P:Program}{PK:PKT}{R:Ending->FrameMode->World->Prop}{T1 T2 U:TypeId}{a:Int}{args:Array Value}{b cap d f i m sz:Nat}{cb:Array Bool}{cs news xs:List Value}{ds:List Deferred}{e:Eng.Ent}{k':IntKind}{key:List UInt8}{o:Ob}{os:List Ob}{q want y:Bool}{t0 v v' v2 vc vk:Value}{u:FrameMode}{w w0:World}{xo yo:Operand}{α:Type}
section
open Eng Go.RowKit
theorem Vl.St {v:Ob}{k:List UInt8}(h:Vl.get o k=some v):v.wt<=o.wt:=by
 unfold Vl.get at h;split at h
 ·split at h
  ·rename_i h1 h2
   obtain⟨hl,rfl⟩:=ahQ.1 h;have:=Es hl;omega
  ·cases h
 ·cases h
section
variable {w:World}{S:Nat->Prop}{w0:World}{L:List Ent}
end
end
end Go.Proofs.YtlipjfcbjemicaaGreatDoor


namespace Go.Proofs.YtlipjfcbjemicaaGreatDoor
variable{A S:Nat->Prop}{K:VWP}{L:List Eng.Ent}{M N:Eng.Mem}{P:Program}{PK:PKT}{R:Ending->FrameMode->World->Prop}{T1 T2 U:TypeId}{a:Int}{args:Array Value}{b cap d f i m sz:Nat}{cb:Array Bool}{cs news xs:List Value}{ds:List Deferred}{e:Eng.Ent}{k':IntKind}{key:List UInt8}{o:Ob}{os:List Ob}{q want y:Bool}{t0 v v' v2 vc vk:Value}{u:FrameMode}{w w0:World}{xo yo:Operand}{α:Type}
section
open Eng Go.RowKit
namespace Eng
def Ent.two (e f:Ent):Ent:=⟨fun k=>e.blk k∨f.blk k,fun w=>e.is w∧f.is w∧∀k,e.blk k->¬f.blk k,
 fun h k=>⟨e.keep h.1 fun b hb=>k b (.inl hb),f.keep h.2.1 fun b hb=>k b (.inr hb),h.2.2⟩,fun h k hk=>hk.elim (e.lt h.1 k) (f.lt h.2.1 k)⟩
section
variable {S:Nat->Prop}{w w0:World}{L:List Ent}
theorem OwnS.split {f:Ent}(ho:OwnS S w0 w (.two e f::L)):OwnS S w0 w (e::f::L):=by
 obtain⟨⟨he,hf,hd⟩,hb⟩:=ho.all (.two e f) sm;obtain⟨a1,a2⟩:=ajF.1 ho.apart;refine⟨ho.grew,fun x hx=>?_,ajF.2 ⟨fun x hx k hk=>?_,ajF.2 ⟨fun x hx k hk=>a1 x hx k (.inr hk),a2⟩⟩⟩
 ·rcases ahG.1 hx with rfl|hx
  ·exact⟨he,fun k hk=>hb k (.inl hk)⟩
  rcases ahG.1 hx with rfl|hx
  ·exact⟨hf,fun k hk=>hb k (.inr hk)⟩
  ·exact ho.all x (aiB _ hx)
 ·rcases ahG.1 hx with rfl|hx
  ·exact hd k hk
  ·exact a1 x hx k (.inl hk)
end
end Eng
section
variable {P:Program}{S:World->Prop}{K:Value->Prop}
theorem sN {m:Sem Next}(v:Value)(h:∀w,S w->m.run P w=.ok (.value v) w)(k:K v):HDo P S m K:=⟨v,h,k⟩
theorem aM {m:Sem Next}(v:Value)(h:∀w,m.run P w=.ok (.value v) w)(k:K v):HDo P S m K:=⟨v,fun w _=>h w,k⟩
end
section
variable {w:World}{PK:PKT}{K:VWP}{S:Nat->Prop}{w0:World}{L:List Ent}
theorem lX {T:TypeId}(h:w.heap[b]?=some (.cells cs.toArray T (0,0)))(hsz:0 < sz)(hl:cs.length=sz):Sl w (.slice (some ⟨b,0,none⟩) 1 1) sz 1 cs:=
 ⟨om,some ⟨b,0,none⟩,1,rfl,fun h=>(by cases h),fun p hp=>by cases hp;exact⟨fun _=>rfl,fun j u hj=>by rw[ahJ];exact aG (T:=T) h hj⟩⟩
end
theorem Iq (x:Int)(w:World):Ret prog 362 #[.int .i64 x] w (fun v w'=>v=.bool false∧w=w'):=by
 refine aP fun K hK=>Ci ?_;unfold yH nz;rw[U8];exact hK _ _ ⟨sm,rfl⟩
end
end Go.Proofs.YtlipjfcbjemicaaGreatDoor




namespace Go.Proofs.YtlipjfcbjemicaaGreatDoor
variable{A S:Nat->Prop}{K:VWP}{L:List Eng.Ent}{M N:Eng.Mem}{P:Program}{PK:PKT}{R:Ending->FrameMode->World->Prop}{T1 T2 U:TypeId}{a:Int}{args:Array Value}{b cap d f i m sz:Nat}{cb:Array Bool}{cs news xs:List Value}{ds:List Deferred}{e:Eng.Ent}{k':IntKind}{key:List UInt8}{o:Ob}{os:List Ob}{q want y:Bool}{t0 v v' v2 vc vk:Value}{u:FrameMode}{w w0:World}{xo yo:Operand}{α:Type}
section
open Eng Go.RowKit Go.ChangeShapes Go.WideShapes Go.ChangeAt
set_option maxRecDepth 100000
section
variable {H:Type}{enc:TypeId×Value->H}{W:World}{sp:Nat->Bool}{held:Bool}
theorem Xs {b0:Nat}{d:DataW H}{ps:List MemPlace}(hval:Value.okWide prog W .any b0 25 v)(hd:DataW.Trod enc prog W 0 sp held 25 v d ps):∃o:Ob,OV (InW W) W v o∧o.wt<=Rows.uptoBulk d:=by
 obtain⟨cs,rfl,_⟩:=okWide_struct Tryz.underlying25 hval;obtain⟨fuel,hf⟩:=hd;obtain⟨o,h1,h2,_⟩:=VZ fuel _ _ hf;exact⟨o,by simpa[Value.cells] using h1,h2⟩
end
end
section
open Eng
def jX(t0 t1 t12 t13 w)(N1:JT)(K:KT):=nz Tryz.f45 43 [N1] [nh 9 [13]] [(6,9)] (zg [0,1,12,13] [t0,t1,t12,t13]) w K
def mL(t0 t1 w)(K:KT):=nz Tryz.f45 1 [] [(9,[13],fun s v j w f=>jX (s 0) (s 1) (s 12) (vg v 0) w (f 0) K)] [] (zg [0,1] [t0,t1]) w K
theorem tK{t0 t1 w K}(h:mL t0 t1 w K):Calls prog 45 #[t0,t1] w K:=cz [] [(4,[13])] Tryz.func45 h
end
section
open Eng Go.RowKit
theorem aaG:eF prog 9=true:=krx
theorem HX (va vb:Value)(la lb:List (List UInt8))(w:World)(ha:Sl w va 1 la.length (bG la))(hb:Sl w vb 1 lb.length (bG lb))(hl:la.length<=1099511627776) :
  Ret prog 45 #[va,vb] w (fun r w'=>r=.bool (decide (la=lb))∧Below w.heap.size w w'):=by
 refine aP fun K hK=>tK ?_;unfold mL nz;rw[bB ahM ha,bB ahM hb];simp only[rs];by_cases hlen:(la.length:Int)≠(lb.length:Int)
 ·simp only[ahB hlen,i_t];have hne:la≠lb:=fun e=>hlen (by rw[e]);exact hK _ _ ⟨by rw[ahA hne],(Own.start w).done⟩
 have hle:la.length=lb.length:=om
 simp only[ahA hlen,i_f,bB ahM ha];refine loop (fun vs w'=>∃(i:Nat),vs=[.int .i64 i]∧i<=la.length∧la.take i=lb.take i∧Own w w' []) (fun vs _=>la.length - n0 vs) ⟨0,rfl,om,sm,Own.start w⟩ ?_;rintro vs w2 ⟨i,rfl,hi,he,ho⟩ _;simp only[jX,gd,rs,nz];by_cases hlt:(i:Int) < (la.length:Int)
 ·have h1:i < la.length:=om
  have h2:i < lb.length:=om
  simp only[hlt,agY,rs];obtain⟨ba,oa,ca,rfl,hca⟩:=cB ha om;obtain⟨bb,ob,cb,rfl,hcb⟩:=cB hb om;refine quiet (q_do _ (fun _=>eE ahM (show _=some 1 by kernel_rfl) om om) ?_);refine q_at (.string ⟨(la[i]).toArray⟩) (fun wc hw=>aB aaG ((ho.grow hw).old ?_)) ?_
  ·rw[ahI,ahZ];exact hca i _ (eM h1)
  refine q_do _ (fun _=>eE ahM (show _=some 1 by kernel_rfl) om om) ?_;refine q_at (.string ⟨(lb[i]).toArray⟩) (fun wc hw=>aB aaG ((ho.grow hw).old ?_)) ?_
  ·rw[ahI,ahZ];exact hcb i _ (eM h2)
  refine Xb ?_;intro w3 hw;have ho:=ho.grow hw;by_cases hq:la[i]=lb[i]
  ·simp only[hq,ne_eq,not_true,agX,i_f,rs];rw[aA om om];refine aY ⟨i+1,rfl,om,?_,ho⟩ (by simp[n0,RowKit.intOf];omega);rw[aiG h1,aiG h2,he,hq]
  ·simp only[hq,ne_eq,akI,agY,i_t];have hne:la≠lb:=fun e=>hq (by subst e;rfl);exact hK _ _ ⟨by rw[ahA hne],ho.done⟩
 ·simp only[hlt,agX,rs,g_un];have hab:la=lb:=by
   rw[aiF om,aiF om] at he;exact he
  exact hK _ _ ⟨by rw[ahB hab],ho.done⟩
end
section
open Eng
def nO(t0 t1 w)(K:KT):=nz Tryz.f24 1 [] [] [] (zg [0,1] [t0,t1]) w K
theorem vP{t0 t1 w K}(h:nO t0 t1 w K):Calls prog 24 #[t0,t1] w K:=cw Tryz.func24 h
def lA(t0 t1 t12 t13 w)(N1:JT)(K:KT):=nz Tryz.f46 43 [N1] [nh 9 [13]] [(6,10)] (zg [0,1,12,13] [t0,t1,t12,t13]) w K
def nP(t0 t1 w)(K:KT):=nz Tryz.f46 1 [] [(9,[13],fun s v j w f=>lA (s 0) (s 1) (s 12) (vg v 0) w (f 0) K)] [] (zg [0,1] [t0,t1]) w K
theorem vK{t0 t1 w K}(h:nP t0 t1 w K):Calls prog 46 #[t0,t1] w K:=cz [] [(4,[13])] Tryz.func46 h
end
end Go.Proofs.YtlipjfcbjemicaaGreatDoor




namespace Go.Proofs.YtlipjfcbjemicaaGreatDoor
variable{A S:Nat->Prop}{K:VWP}{L:List Eng.Ent}{M N:Eng.Mem}{P:Program}{PK:PKT}{R:Ending->FrameMode->World->Prop}{T1 T2 U:TypeId}{a:Int}{args:Array Value}{b cap d f i m sz:Nat}{cb:Array Bool}{cs news xs:List Value}{ds:List Deferred}{e:Eng.Ent}{k':IntKind}{key:List UInt8}{o:Ob}{os:List Ob}{q want y:Bool}{t0 v v' v2 vc vk:Value}{u:FrameMode}{w w0:World}{xo yo:Operand}{α:Type}
section
open Eng Go.RowKit
namespace Ob
 mutual
def eqb:Ob->Ob->Bool
|.mk k n g s ks cs,b=>decide (k=b.k)&&decide (n=b.n)&&decide (g=b.g)&&decide (s=b.s)&&decide (ks=b.keys)&&eqbs cs b.kids
def eqbs:List Ob->List Ob->Bool
|[],[]=>true
|a::l,b::m=>eqb a b&&eqbs l m
|[],_::_=>false
|_::_,[]=>false
end
 mutual
theorem RP:∀a b:Ob,eqb a b=true↔a=b
|.mk k n g s ks cs,.mk k' n' g' s' ks' cs'=>by
  have ih:=Jy cs cs';rw[eqb];simp only[ahR,aiI];simp only[Ob.k,Ob.n,Ob.g,Ob.s,Ob.keys,Ob.kids,ih,Ob.mk.injEq,and_assoc]
theorem Jy:∀a b:List Ob,eqbs a b=true↔a=b
|[],[]=>by simp[eqbs]
|a::l,b::m=>by
  rw[eqbs,ahR,RP a b,Jy l m];simp
|[],_::_=>by simp[eqbs]
|_::_,[]=>by simp[eqbs]
end
theorem Zt (a b:Ob):eqb a b=(decide (a.k=b.k)&&decide (a.n=b.n)&&decide (a.g=b.g)&&decide (a.s=b.s)&&decide (a.keys=b.keys)&&eqbs a.kids b.kids):=by cases a;rw[eqb];rfl
theorem QR {a b:List Ob}(h1:i < a.length)(h2:i < b.length):eqbs (a.drop i) (b.drop i)=(eqb a[i] b[i]&&eqbs (a.drop (i+1)) (b.drop (i+1))):=by
 rw[ajB h1,ajB h2,eqbs]
theorem UD:∀{a b:List Ob},a.length≠b.length->eqbs a b=false:=by
 intro a b h;cases he:eqbs a b with
|false=>rfl
|true=>rw[Jy] at he;exact absurd (by rw[he]) h
end Ob
theorem SF {a b:Ob}{ka va kb vb:Value}{ca cb:List Value}(w:World)(ha:ObAt (InW w) w a ka va ca)(hb:ObAt (InW w) w b kb vb cb)(hl:a.kids.length<=1000000000)
  (ih:∀(i:Nat) (h1:i < a.kids.length) (h2:i < b.kids.length) (x y:Value) (W:World),OV (InW W) W x a.kids[i]->OV (InW W) W y b.kids[i]->Ret prog 24 #[x,y] W (fun v w'=>v=.bool (Ob.eqb a.kids[i] b.kids[i])∧Below W.heap.size W w')) :
  Ret prog 46 #[va,vb] w (fun v w'=>v=.bool (Ob.eqbs a.kids b.kids)∧Below w.heap.size w w'):=by
 refine aP fun K hK=>vK ?_;unfold nP nz;rw[bB ahN ha.kids.1,bB ahN hb.kids.1];simp only[rs];by_cases hlen:(a.kids.length:Int)≠(b.kids.length:Int)
 ·simp only[ahB hlen,i_t];exact hK _ _ ⟨by rw[Ob.UD om],(Own.start w).done⟩
 have hle:a.kids.length=b.kids.length:=om
 simp only[ahA hlen,i_f,bB ahN ha.kids.1];refine loop (fun vs w'=>∃(i:Nat),vs=[.int .i64 i]∧i<=a.kids.length∧Ob.eqbs a.kids b.kids=Ob.eqbs (a.kids.drop i) (b.kids.drop i)∧Own w w' []) (fun vs _=>a.kids.length - n0 vs) ⟨0,rfl,om,sm,Own.start w⟩ ?_;rintro vs w2 ⟨i,rfl,hi,he,ho⟩ _;simp only[lA,gd,rs,nz];by_cases hlt:(i:Int) < (a.kids.length:Int)
 ·have h1:i < a.kids.length:=om
  have h2:i < b.kids.length:=om
  simp only[hlt,agY,rs];obtain⟨x,p,hx,hrx⟩:=KI ha h1;obtain⟨y,q,hy,hry⟩:=KI hb h2;refine quiet (q_at _ (fun W hW=>(hrx W (OwnS.keptIn (ho.grow hW))).1) ?_);refine q_at _ (fun W hW=>(hrx W (OwnS.keptIn (ho.grow hW))).2) ?_;refine q_at _ (fun W hW=>(hry W (OwnS.keptIn (ho.grow hW))).1) ?_;refine q_at _ (fun W hW=>(hry W (OwnS.keptIn (ho.grow hW))).2) ?_;refine uO _ (fun W hW=>T9 (ih i h1 h2 x y W (hx.at_ (ho.grow hW)) (hy.at_ (ho.grow hW))) hW) ?_;refine q_do _ (fun W=>bL (by simp[Op.unary];rfl)) ?_;intro w3 hw;have ho:=ho.grow hw;rw[Ob.QR h1 h2] at he;cases hq:Ob.eqb a.kids[i] b.kids[i] with
 |true=>
   simp only[aiQ,i_f,rs];rw[aA om om];refine aY ⟨i+1,rfl,om,?_,ho⟩ (by simp[n0,RowKit.intOf];omega);rw[he,hq];rfl
 |false=>
   simp only[aiR,i_t];exact hK _ _ ⟨by rw[he,hq];rfl,ho.done⟩
 ·simp only[hlt,agX,rs];refine hK _ _ ⟨?_,ho.done⟩;rw[he,ajC om,ajC om,Ob.eqbs]
theorem PC (n:Nat):∀(a b:Ob) (x y:Value) (w:World),a.wt<=n->a.wt<=1000000000->OV (InW w) w x a->OV (InW w) w y b->Ret prog 24 #[x,y] w (fun v w'=>v=.bool (Ob.eqb a b)∧Below w.heap.size w w'):=by
 induction n with
|zero=>intro a b x y w h;have:=a.H4;omega
|succ n ih=>
 intro a b x y w hn hw hx hy;obtain⟨ka,va,ca,rfl,ha⟩:=hx.open;obtain⟨kb,vb,cb,rfl,hb⟩:=hy.open;have hww:Ob.wts a.kids<=1000000000:=by cases a;rw[Ob.wt] at hw;simp only[Ob.kids];omega
 have hkt:Pl.tot a.keys<=1000000000:=by cases a;rw[Ob.wt] at hw;simp only[Ob.keys];omega
 have hlk:=Ob.wK a.kids;rw[Ob.Zt];refine aP fun K hK=>vP ?_;unfold nO nz;refine eW a ha.keys.one ha.kids.one (Own.start w) fun p w1 ho=>?_;refine eW b hb.keys.one hb.kids.one ho fun q w2 ho=>?_;rw[fI,ob_k ho 1 rfl,fI,ob_k ho 0 rfl];by_cases h1:a.k=b.k
 case neg=>simp only[rs,h1,agX,anD] at hK ⊢;exact hK _ _ ⟨rfl,ho.done⟩
 simp only[rs,h1,agY,DI,ob_n ho 1 rfl,ob_n ho 0 rfl,alK] at hK ⊢;by_cases h2:a.n=b.n
 case neg=>simp only[rs,h2,agX,anD] at hK ⊢;exact hK _ _ ⟨rfl,ho.done⟩
 simp only[rs,h2,agY,Se,ob_g ho 1 rfl,ob_g ho 0 rfl,alK] at hK ⊢;by_cases h3:a.g=b.g
 case neg=>simp only[rs,h3,agX,anD] at hK ⊢;exact hK _ _ ⟨rfl,ho.done⟩
 simp only[rs,h3,agY,C5,ob_s ho 1 rfl,ob_s ho 0 rfl,alK] at hK ⊢;by_cases h4:a.s=b.s
 case neg=>simp only[rs,h4,agX,anD] at hK ⊢;exact hK _ _ ⟨rfl,ho.done⟩
 simp only[rs,h4,agY,mJ,eR ho 1 rfl,eR ho 0 rfl,alK] at hK ⊢;have hkl:=Pl.iU a.keys;refine rN (HX ka kb a.keys b.keys w2 (ho.VV ha.keys.1) (ho.VV hb.keys.1) om) rfl ho fun w3 ho=>?_;by_cases h5:a.keys=b.keys
 case neg=>simp only[rs,h5,agX,anD] at hK ⊢;exact hK _ _ ⟨rfl,ho.done⟩
 simp only[rs,h5,agY,jP,cZ ho 1 rfl,cZ ho 0 rfl,alK] at hK ⊢;refine rN (SF w3 (ha.in_ ho) (hb.in_ ho) om ?_) rfl ho fun w4 ho=>?_
 ·intro i hi hj x y W hx hy;have:=Es hi;exact ih _ _ x y W om om hx hy
 exact hK _ _ ⟨rfl,ho.done⟩
end
end Go.Proofs.YtlipjfcbjemicaaGreatDoor

namespace Go.Proofs.YtlipjfcbjemicaaGreatDoor
variable{A S:Nat->Prop}{K:VWP}{L:List Eng.Ent}{M N:Eng.Mem}{P:Program}{PK:PKT}{R:Ending->FrameMode->World->Prop}{T1 T2 U:TypeId}{a:Int}{args:Array Value}{b cap d f i m sz:Nat}{cb:Array Bool}{cs news xs:List Value}{ds:List Deferred}{e:Eng.Ent}{k':IntKind}{key:List UInt8}{o:Ob}{os:List Ob}{q want y:Bool}{t0 v v' v2 vc vk:Value}{u:FrameMode}{w w0:World}{xo yo:Operand}{α:Type}
section
open Go
structure Lx where
 off:Int
 sty:List UInt8
 pre:List UInt8
 first:Int
 deriving DecidableEq
namespace Lb
end Lb
end
end Go.Proofs.YtlipjfcbjemicaaGreatDoor



namespace Go.Proofs.YtlipjfcbjemicaaGreatDoor
variable{A S:Nat->Prop}{K:VWP}{L:List Eng.Ent}{M N:Eng.Mem}{P:Program}{PK:PKT}{R:Ending->FrameMode->World->Prop}{T1 T2 U:TypeId}{a:Int}{args:Array Value}{b cap d f i m sz:Nat}{cb:Array Bool}{cs news xs:List Value}{ds:List Deferred}{e:Eng.Ent}{k':IntKind}{key:List UInt8}{o:Ob}{os:List Ob}{q want y:Bool}{t0 v v' v2 vc vk:Value}{u:FrameMode}{w w0:World}{xo yo:Operand}{α:Type}
section
open Eng Go.RowKit
theorem RH (h:Calls prog f args w fun e w'=>e=.returned v∧Below w.heap.size w w'):Ret prog f args w (fun v' w'=>v'=v∧Below w.heap.size w w'):=
 Calls.mono h fun e w' ⟨he,hb⟩=>⟨v,he,rfl,hb⟩
theorem PO (s:List UInt8)(c:Nat)(w:World)(hl:s.length*c<=100000000)(hc:c<=100000000):Ret prog 189 #[.string ⟨s.toArray⟩,.int .i64 c] w (fun v w'=>v=.string ⟨(Lib.repeatL s c).toArray⟩∧Below w.heap.size w w'):=by
 have:=Tryz.strings_Repeat ⟨s.toArray⟩ c w om (by show s.toArray.size*c<=_;simp;omega);exact RH (by simpa using this)
theorem xX (s:List UInt8):∀c,Lib.repeatL s (c+1)=Lib.repeatL s c++s
|0=>by simp[Lib.repeatL]
|c+1=>by
  have h1:Lib.repeatL s (c+1+1)=s++Lib.repeatL s (c+1):=rfl;have h2:Lib.repeatL s (c+1)=s++Lib.repeatL s c:=rfl;rw[h1,xX s c,<-ahK,<-h2,xX s c]
end
end Go.Proofs.YtlipjfcbjemicaaGreatDoor








namespace Go.Proofs.YtlipjfcbjemicaaGreatDoor
variable{A S:Nat->Prop}{K:VWP}{L:List Eng.Ent}{M N:Eng.Mem}{P:Program}{PK:PKT}{R:Ending->FrameMode->World->Prop}{T1 T2 U:TypeId}{a:Int}{args:Array Value}{b cap d f i m sz:Nat}{cb:Array Bool}{cs news xs:List Value}{ds:List Deferred}{e:Eng.Ent}{k':IntKind}{key:List UInt8}{o:Ob}{os:List Ob}{q want y:Bool}{t0 v v' v2 vc vk:Value}{u:FrameMode}{w w0:World}{xo yo:Operand}{α:Type}
section
open Go
namespace Vl
theorem xA (key:List UInt8):∀(ks:List (List UInt8)) (cs:List Ob),key ∉ (cN key ks cs).1
|[],_=>by simp[cN]
|_::_,[]=>by simp[cN]
|a::ks,c::cs=>by
  rw[cN];split
  ·exact xA key ks cs
  ·rename_i h
   simp only[ahG,not_or];exact⟨fun e=>h e.symm,xA key ks cs⟩
theorem DU (key:List UInt8):∀(ks:List (List UInt8)) (cs:List Ob),(cN key ks cs).1.length=(cN key ks cs).2.length
|[],_=>by simp[cN]
|_::_,[]=>by simp[cN]
|a::ks,c::cs=>by
  rw[cN];split
  ·exact DU key ks cs
  ·simp[DU key ks cs]
theorem zL (key:List UInt8):∀(ks:List (List UInt8)) (cs:List Ob),(cN key ks cs).1.Sublist ks
|[],_=>by simp[cN]
|_::_,[]=>by simp[cN]
|a::ks,c::cs=>by
  rw[cN];split
  ·exact (zL key ks cs).trans (List.sublist_cons_self _ _)
  ·exact (zL key ks cs).cons_cons _
theorem zI (key:List UInt8):∀(ks:List (List UInt8)) (cs:List Ob),(cN key ks cs).2.Sublist cs
|[],_=>by simp[cN]
|_::_,[]=>by simp[cN]
|a::ks,c::cs=>by
  rw[cN];split
  ·exact (zI key ks cs).trans (List.sublist_cons_self _ _)
  ·exact (zI key ks cs).cons_cons _
theorem LR (o:Ob)(key:List UInt8):get (aJ o key) key=none:=by
 unfold get;split
 ·rw[agV];rw[apD];exact xA key o.keys o.kids
 ·rfl
theorem KH {l:List (List UInt8)}:key ∉ l.take (place l key):=by
 intro h;obtain⟨m,hm,he⟩:=akH h;rw[ahE] at hm;have hlt:m < place l key:=om
 have:=Na hlt;rw[anE] at he;rw[he,sV] at this;cases this
theorem Yv {v:Ob}(hk:keyed o=true)(hl:o.keys.length=o.kids.length):get (put o key v) key=some v:=by
 have hp:=zH o.keys key;unfold get;rw[show keyed (put o key v)=keyed o from rfl,hk,agW rfl];have e:(put o key v).keys=o.keys.take (place o.keys key)++key::o.keys.drop (place o.keys key+if hit o.keys key then 1 else 0):=rfl;have e2:(put o key v).kids=o.kids.take (place o.keys key)++v::o.kids.drop (place o.keys key+if hit o.keys key then 1 else 0):=rfl;have hi:(put o key v).keys.idxOf key=place o.keys key:=by
  rw[e];refine WY (by simp;omega) ?_ ?_
  ·rw[ajP (by rw[ahE];omega)];exact KH
  ·rw[apF (by rw[ahE];omega)];simp[ahE,aiH hp]
 rw[hi,agW (by rw[e];simp;omega),e2,ajO (by rw[ahE];omega),ahE];have:place o.keys key - min (place o.keys key) o.kids.length=0:=om
 rw[this];rfl
theorem Ie {d:Nat}:∀{os:List Ob},lS d os=0↔∀o∈os,check d o=0
|[]=>by simp[lS]
|o::os=>by
  rw[lS];split
  ·rename_i h
   constructor
   ·intro e;exact absurd e h
   ·intro e;exact absurd (e o aiS) h
  ·rename_i h
   have h:=anT.1 h;rw[Ie];simp[h]
theorem T7 (l:List (List UInt8))(h:i < l.length):l.getD i []=l[i]:=by rw[ahC,ahH h];rfl
theorem nI :rising o=true↔o.keys.length=o.kids.length∧Rise o.keys∧(∀k∈o.keys,name k=true∧(o.k=9->k≠lenK))∧∀c∈o.kids,c.k≠0:=by
 unfold rising;simp only[ahR,aiI,ajS,aiV];constructor
 ·rintro⟨hl,h⟩;have hat:∀i (hi:i < o.keys.length),name o.keys[i]=true∧(i=0∨less (o.keys.getD (i - 1) []) o.keys[i]=true)∧(o.k=9->o.keys[i]≠lenK)∧(o.kids[i]'(om)).k≠0:=by
   intro i hi;have:=h i hi;unfold vX at this;rw[T7 _ hi,ahC (l:=o.kids),ahH (by omega:i < o.kids.length)] at this;simp only[ahR,alH,aiI,alD,alU,amH,ajI] at this;obtain⟨⟨⟨a,b⟩,c⟩,e⟩:=this;exact⟨a,b,fun h9 hk=>c.elim (fun x=>x h9) (fun x=>x hk),e⟩
  refine⟨hl,?_,?_,?_⟩
  ·refine alL.2 fun i j hi hj hij=>?_;have step:∀i (hi:i+1 < o.keys.length),less o.keys[i] o.keys[i+1]=true:=by
    intro i hi;have:=(hat (i+1) hi).2.1;rcases this with h0|h0
    ·omega
    ·rwa [alQ,T7 _ (by omega:i < o.keys.length)] at h0
   have:∀d,∀j (hj:j < o.keys.length),j=i+1+d->less o.keys[i] o.keys[j]=true:=by
    intro d
    induction d with
   |zero=>intro j hj he;subst he;exact step i hj
   |succ d ih=>
     intro j hj he;subst he;exact nH (ih (i+1+d) om rfl) (step (i+1+d) hj)
   exact this (j - (i+1)) j hj om
  ·intro k hk;obtain⟨i,hi,rfl⟩:=akH hk;exact⟨(hat i hi).1,(hat i hi).2.2.1⟩
  ·intro c hc;obtain⟨i,hi,rfl⟩:=akH hc;exact (hat i om).2.2.2
 ·rintro⟨hl,hr,hk,hc⟩;refine⟨hl,fun i hi=>?_⟩;unfold vX;rw[T7 _ hi,ahC (l:=o.kids),ahH (by omega:i < o.kids.length)];simp only[ahR,alH,aiI,alD,alU,amH,ajI];refine⟨⟨⟨(hk _ (ahP hi)).1,?_⟩,?_⟩,hc _ (ahP _)⟩
  ·rcases ajV i with h0|h0
   ·exact .inl h0
   ·refine .inr ?_;rw[T7 _ (by omega:i - 1 < o.keys.length)];exact pO hr om hi
  ·by_cases h9:o.k=9
   ·exact .inr ((hk _ (ahP hi)).2 h9)
   ·exact .inl h9
theorem jI :check d o=0↔(d<=24∧fL o=true∧(o.k=9->d<=1)∧fits o=true∧o.s.length<=long o.k∧o.kids.length<=8191∧form o=true)∧∀c∈o.kids,check (d+1) c=0:=by
 rw[Ce];have hw:why d o=0↔(d<=24∧fL o=true∧(o.k=9->d<=1)∧fits o=true∧o.s.length<=long o.k∧o.kids.length<=8191∧form o=true):=by
  unfold why;split
  ·simp;omega
  rename_i h1
  split
  ·rename_i h2
   simp only[show (10:Int)≠0 by decide,false_iff,not_and];rintro - a b;rcases h2 with h2|h2
   ·rw[h2] at a;cases a
   ·have:=b h2.1;omega
  rename_i h2
  simp only[not_or,Bool.not_eq_false,not_and,Nat.not_lt] at h2;split
  ·rename_i h3;simp[h3]
  rename_i h3
  split
  ·rename_i h4;simp;intros;omega
  rename_i h4
  split
  ·rename_i h5;simp;intros;omega
  rename_i h5
  split
  ·rename_i h6;simp[h6]
  rename_i h6
  simp only[Bool.not_eq_false] at h3 h6;exact⟨fun _=>⟨om,h2.1,h2.2,h3,om,om,h6⟩,fun _=>rfl⟩
 split
 ·rename_i h
  constructor
  ·intro e;exact absurd e h
  ·intro e;exact absurd (hw.2 e.1) h
 ·rename_i h
  have h:=anT.1 h;rw[Ie];exact⟨fun e=>⟨hw.1 h,e⟩,fun e=>e.2⟩
theorem eP (h:check d o=0)(hk:keyed o=true):check d (aJ o key)=0:=by
 obtain⟨⟨a1,a2,a3,a4,a5,a6,a7⟩,hc⟩:=jI.1 h;have s1:=zL key o.keys o.kids;have s2:=zI key o.keys o.kids;have h79:o.k=7∨o.k=9:=by simpa[keyed] using hk
 have ek:(aJ o key).k=o.k:=rfl;have eks:(aJ o key).keys=(cN key o.keys o.kids).1:=rfl;have ecs:(aJ o key).kids=(cN key o.keys o.kids).2:=rfl;refine jI.2 ⟨⟨a1,?_,a3,a4,a5,?_,?_⟩,fun c hc'=>hc c (s2.subset hc')⟩
 ·unfold fL at a2 ⊢;rw[ek];rcases h79 with h7|h9
  ·rw[h7] at a2 ⊢;simpa[used,show (aJ o key).n=o.n from rfl,show (aJ o key).g=o.g from rfl,show (aJ o key).s=o.s from rfl] using a2
  ·rw[h9] at a2 ⊢;simpa[used,show (aJ o key).n=o.n from rfl,show (aJ o key).g=o.g from rfl,show (aJ o key).s=o.s from rfl] using a2
 ·rw[ecs];exact ajZ s2.length_le a6
 ·unfold form at a7 ⊢;rw[ek];simp only[ahR] at a7 ⊢;refine⟨a7.1,?_⟩;rw[ahB h79] at a7 ⊢;have hr:rising o=true:=by simpa using a7.2
  obtain⟨r1,r2,r3,r4⟩:=nI.1 hr;have:rising (aJ o key)=true:=by
   refine nI.2 ⟨?_,?_,?_,?_⟩
   ·rw[eks,ecs];exact DU key _ _
   ·rw[eks];exact List.Pairwise.sublist s1 r2
   ·rw[eks];exact fun k hk=>r3 k (s1.subset hk)
   ·rw[ecs];exact fun c hc=>r4 c (s2.subset hc)
  simp[this]
end Vl
namespace Dk
end Dk
end
end Go.Proofs.YtlipjfcbjemicaaGreatDoor


namespace Go.Proofs.YtlipjfcbjemicaaGreatDoor
variable{A S:Nat->Prop}{K:VWP}{L:List Eng.Ent}{M N:Eng.Mem}{P:Program}{PK:PKT}{R:Ending->FrameMode->World->Prop}{T1 T2 U:TypeId}{a:Int}{args:Array Value}{b cap d f i m sz:Nat}{cb:Array Bool}{cs news xs:List Value}{ds:List Deferred}{e:Eng.Ent}{k':IntKind}{key:List UInt8}{o:Ob}{os:List Ob}{q want y:Bool}{t0 v v' v2 vc vk:Value}{u:FrameMode}{w w0:World}{xo yo:Operand}{α:Type}
section
open Go
namespace Vl
def lk (k:List UInt8):List (List UInt8)->List Ob->Option Ob
|a::ks,c::cs=>if a=k then some c else lk k ks cs
|_,_=>none
theorem XS (k:List UInt8):∀(ks:List (List UInt8)) (cs:List Ob),(if ks.idxOf k < ks.length then cs[ks.idxOf k]? else none)=lk k ks cs
|[],cs=>by simp[lk]
|a::ks,[]=>by simp[lk]
|a::ks,c::cs=>by
  rw[lk,<-XS k ks cs,List.idxOf_cons];by_cases h:a=k
  ·subst h;simp
  ·have hb:(a==k)=false:=by simpa using h
   simp[hb,h]
theorem Re {k:List UInt8}:∀{ks:List (List UInt8)} {cs:List Ob} (ks':List (List UInt8)) (cs':List Ob),ks.length=cs.length->lk k (ks++ks') (cs++cs')=(lk k ks cs).or (lk k ks' cs')
|[],[],_,_,_=>by simp[lk]
|[],c::cs,_,_,h=>by simp at h
|a::ks,[],_,_,h=>by simp at h
|a::ks,c::cs,ks',cs',h=>by
  rw[akU,akU,lk,lk,Re ks' cs' (by simpa using h)];split<;>rfl
theorem Qo {k:List UInt8}{v:Ob}(hl:o.keys.length=o.kids.length)(hne:key≠k):get (put o key v) k=get o k:=by
 unfold get;rw[show keyed (put o key v)=keyed o from rfl,XS,XS]
 congr 1
 have hp:=zH o.keys key;rw[show (put o key v).keys=o.keys.take (place o.keys key)++key::o.keys.drop (place o.keys key+if hit o.keys key then 1 else 0) from rfl,
  show (put o key v).kids=o.kids.take (place o.keys key)++v::o.kids.drop (place o.keys key+if hit o.keys key then 1 else 0) from rfl,
  Re _ _ (by rw[ahE,ahE];omega),lk,agV hne]
 conv=>rhs;rw[<-aiJ (place o.keys key) o.keys,<-aiJ (place o.keys key) o.kids,Re _ _ (by rw[ahE,ahE];omega)]
 congr 1
 by_cases hh:hit o.keys key=true
 ·rw[agW hh];have hg:o.keys[place o.keys key]?=some key:=by simpa[hit] using hh
  obtain⟨hlt,hg⟩:=ahQ.1 hg;rw[ajB (i:=place o.keys key) hlt,ajB (i:=place o.keys key) (l:=o.kids) om,lk,agV (by rw[hg];exact hne)]
 ·rw[agV hh];rfl
end Vl
namespace Dk
end Dk
namespace Pg
section
variable {d:Dc}{j:It}{o o':Ob}
end
end Pg
end
end Go.Proofs.YtlipjfcbjemicaaGreatDoor





namespace Go.Proofs.YtlipjfcbjemicaaGreatDoor
variable{A S:Nat->Prop}{K:VWP}{L:List Eng.Ent}{M N:Eng.Mem}{P:Program}{PK:PKT}{R:Ending->FrameMode->World->Prop}{T1 T2 U:TypeId}{a:Int}{args:Array Value}{b cap d f i m sz:Nat}{cb:Array Bool}{cs news xs:List Value}{ds:List Deferred}{e:Eng.Ent}{k':IntKind}{key:List UInt8}{o:Ob}{os:List Ob}{q want y:Bool}{t0 v v' v2 vc vk:Value}{u:FrameMode}{w w0:World}{xo yo:Operand}{α:Type}
section
open Eng Go.RowKit
theorem FO {k:IntKind}{b:Int}:DoX P (mB .max #[T1,T2] U cb #[.int k a,.int k' b]) w PK K=K (.int k (max a b)) w:=by
 refine aE ?_;have e:(if a < b then b else a)=max a b:=by split<;>omega
 simp[mB,builtin,Builtin.max_,Builtin.max2,e]
section
variable {w:World}{PK:PKT}{K:VWP}{S:Nat->Prop}{w0:World}{L:List Ent}
theorem aV {off:Nat}:DoX prog (mNil (.pointer (some ⟨b,off,none⟩))) w PK K=K (.pointer (some ⟨b,off,none⟩)) w:=aE rfl
end
end
section
open Go
namespace Fl
def bit (s:List UInt8)(p:Nat):Nat:=(s.getD (p / 8) 0).toNat / 2 ^ (p % 8) % 2
theorem Ry (s:List UInt8)(p:Nat):bit s p < 2:=ajW _ dc
def num (s:List UInt8)(p:Nat):Nat->Nat
|0=>0
|n+1=>num s p n+bit s (p+n)*2 ^ n
theorem wX (s:List UInt8)(p:Nat):∀n,num s p n < 2 ^ n
|0=>by rw[num];decide
|n+1=>by
  have h1:=wX s p n;have h2:=Ry s (p+n);rw[num,ajQ];rcases (by omega:bit s (p+n)=0∨bit s (p+n)=1) with h|h<;>rw[h]<;>omega
def gB (lens:List Nat):Nat->Nat
|0=>0
|l+1=>gB lens l+lens.count (l+1)*2 ^ (15 - (l+1))
def aX (lens:List Nat):Nat->Nat
|0=>0
|l+1=>aX lens l+lens.count (l+1)
def check (lens:List Nat):Int:=if gB lens 15=32768∨aX lens 15=0∨(aX lens 15=1∧lens.count 1=1) then 0 else 13
def first (lens:List Nat):Nat->Nat
|0=>0
|1=>0
|l+2=>2*(first lens (l+1)+lens.count (l+1))
theorem Oj {lens:List Nat}:∀l,gB lens l<=l*(lens.length*32768)
|0=>by simp[gB]
|l+1=>by
  have h1:=Oj (lens:=lens) l;have h2:lens.count (l+1)*2 ^ (15 - (l+1))<=lens.length*32768:=akO alZ (by
   have:2 ^ (15 - (l+1))<=2 ^ 15:=aiY dc om;simpa using this)
  rw[gB,akA];omega
theorem Gf {lens:List Nat}:∀l,aX lens l<=l*lens.length
|0=>by simp[aX]
|l+1=>by
  have h1:=Gf (lens:=lens) l;have h2:lens.count (l+1)<=lens.length:=alZ;rw[aX,akA];omega
theorem JH {lens:List Nat}:∀l,first lens l<=4 ^ l*lens.length
|0=>by simp[first]
|1=>by simp[first]
|l+2=>by
  have h1:=JH (lens:=lens) (l+1);have h2:lens.count (l+1)<=lens.length:=alZ;have h3:4 ^ (l+2)*lens.length=4*(4 ^ (l+1)*lens.length):=by rw[ajQ 4 (l+1),akE (4 ^ (l+1)) 4,amK]
  have h4:1*lens.length<=4 ^ (l+1)*lens.length:=aiO _ (Nat.one_le_pow _ _ dc);rw[first,h3];omega
end Fl
end
end Go.Proofs.YtlipjfcbjemicaaGreatDoor
