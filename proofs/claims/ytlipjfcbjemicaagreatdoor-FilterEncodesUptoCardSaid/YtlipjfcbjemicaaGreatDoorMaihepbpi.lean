/- Parts of the proof. -/
import Derived.Test.YtlipjfcbjemicaaGreatDoorRows
import Derived.Laws.RangeAny
import Derived.Sort.Walk0
import Derived.Lib.IndexMore
import Derived.Lib.LastIndexLaws
import Derived.Lib.SmallJoins
import Derived.Test.YtlipjfcbjemicaaGreatDoorMccmgjogj
set_option linter.all false
set_option maxRecDepth 20000
open Go.Proofs.Tryz
open Go.Proofs.Tryz renaming prog->ah
open Option renaming some->ax,none->aw
open Bool renaming true->av,false->au
open Go renaming Value->aq,World->ao
open Decidable renaming decide->ai
namespace Go.Proofs.YtlipjfcbjemicaaGreatDoor
variable{A S:Nat->Prop}{K:VWP}{L:List Eng.Ent}{M N:Eng.Mem}{P:Program}{PK PK2:PKT}{R:Ending->FrameMode->ao->Prop}{a:Int}{args:Array aq}{b cap d f i sz:Nat}{cs xs:List aq}{ds:List Deferred}{e:Eng.Ent}{o:Ob}{os:List Ob}{q want y:Bool}{t0 v v' vc vk:aq}{u:FrameMode}{w w0:ao}{xo yo:Operand}{α:Type}{t0 t1 t2 t3 t4:aq}{k0:Eng.KT}
section
open Eng
def nG(t3 t27 t28 t29 w)(a:JT)(K:KT):=nz f49 87 [a] [nh 17 [3,29]] [] (zg [3,27,28,29] [t3,t27,t28,t29]) w K
def oJ(t1 t3 t14 t15 t16 w)(N1:JT)(K:KT):=nz f49 43 [N1] [nh 7 [3,16],(17,[3,29],λs v j w f=>nG (vg v 0) (s 27) (s 28) (vg v 1) w (f 0) K)] [] (zg [1,3,14,15,16] [t1,t3,t14,t15,t16]) w K
def sL(t0 w)(K:KT):=nz f49 1 [] [(7,[3,16],λs v j w f=>oJ (s 1) (vg v 0) (s 14) (s 15) (vg v 1) w (f 0) K)] [] (zg [0] [t0]) w K
theorem Aj:sL t0 w k0->Calls ah 49 #[t0] w k0:=cz [] [(3,[3,16]),(8,[3,29])] func49
def qB(t0 w)(K:KT):=nz f50 1 [] [] [] (zg [0] [t0]) w K
theorem yP:qB t0 w k0->Calls ah 50 #[t0] w k0:=cw func50
def uQ(t0 w)(K:KT):=nz f51 1 [] [] [] (zg [0] [t0]) w K
theorem Bo:uQ t0 w k0->Calls ah 51 #[t0] w k0:=cw func51
def tY(t0 w)(K:KT):=nz f108 1 [] [] [] (zg [0] [t0]) w K
theorem CD:tY t0 w k0->Calls ah 108 #[t0] w k0:=cw func108
def sG(w)(K:KT):=nz f84 1 [] [] [] (zg [] []) w K
theorem AJ:sG w k0->Calls ah 84 #[] w k0:=cw func84
def iP(t1 t4 t15 w)(K:KT):=nz f203 509 [] [] [] (zg [1,4,15] [t1,t4,t15]) w K
def iO(t1 t4 t9 w)(K:KT):=nz f203 125 [] [(20,[15],λs v j w f=>iP (s 1) (s 4) (vg v 0) w K)] [] (zg [1,4,9] [t1,t4,t9]) w K
def qY(t0 w)(K:KT):=nz f203 1 [] [(14,[9],λs v j w f=>iO (s 1) (s 4) (vg v 0) w K)] [] (zg [0] [t0]) w K
theorem AE:qY t0 w k0->Calls ah 203 #[t0] w k0:=cz [(7,[9]),(10,[15])] [] func203
def sD(t0 w)(K:KT):=nz f204 1 [] [] [] (zg [0] [t0]) w K
theorem Ai:sD t0 w k0->Calls ah 204 #[t0] w k0:=cw func204
def rZ(t0 w)(K:KT):=nz f205 1 [] [] [] (zg [0] [t0]) w K
theorem AN:rZ t0 w k0->Calls ah 205 #[t0] w k0:=cw func205
def qU(t0 t1 t2 t3 t4 w)(K:KT):=nz f252 1 [] [] [] (zg [0,1,2,3,4] [t0,t1,t2,t3,t4]) w K
theorem Aq:qU t0 t1 t2 t3 t4 w k0->Calls ah 252 #[t0,t1,t2,t3,t4] w k0:=cw func252
def oI(t0 t3 w)(N1:JT)(K:KT):=nz f253 21 [N1] [nh 5 [3]] [] (zg [0,3] [t0,t3]) w K
def rX(t0 w)(K:KT):=nz f253 1 [] [(5,[3],λs v j w f=>oI (s 0) (vg v 0) w (f 0) K)] [] (zg [0] [t0]) w K
theorem Av:rX t0 w k0->Calls ah 253 #[t0] w k0:=cz [] [(2,[3])] func253
def nY(t1 t27 t28 t29 w)(N1:JT)(K:KT):=nz f206 175 [N1] [nh 17 [29]] [] (zg [1,27,28,29] [t1,t27,t28,t29]) w K
def rI(t0 w)(K:KT):=nz f206 1 [] [(17,[29],λs v j w f=>nY (s 1) (s 27) (s 28) (vg v 0) w (f 0) K)] [] (zg [0] [t0]) w K
theorem AG:rI t0 w k0->Calls ah 206 #[t0] w k0:=cz [] [(8,[29])] func206
def mA(t1 t40 t41 t42 w)(a:JT)(K:KT):=nz f143 1407 [a] [nh 29 [42]] [] (zg [1,40,41,42] [t1,t40,t41,t42]) w K
def pY(t0 t1 w)(K:KT):=nz f143 1 [] [(29,[42],λs v j w f=>mA (s 1) (s 40) (s 41) (vg v 0) w (f 0) K)] [(7,7)] (zg [0,1] [t0,t1]) w K
theorem yI:pY t0 t1 w k0->Calls ah 143 #[t0,t1] w k0:=cz [] [(14,[42])] func143
def pI(t0 w)(K:KT):=nz f74 1 [] [] [] (zg [0] [t0]) w K
theorem xQ:pI t0 w k0->Calls ah 74 #[t0] w k0:=cw func74
end
end Go.Proofs.YtlipjfcbjemicaaGreatDoor





namespace Go.Proofs.YtlipjfcbjemicaaGreatDoor
variable{A S:Nat->Prop}{K:VWP}{L:List Eng.Ent}{M N:Eng.Mem}{P:Program}{PK PK2:PKT}{R:Ending->FrameMode->ao->Prop}{a:Int}{args:Array aq}{b cap d f i sz:Nat}{cs xs:List aq}{ds:List Deferred}{e:Eng.Ent}{o:Ob}{os:List Ob}{q want y:Bool}{t0 v v' vc vk:aq}{u:FrameMode}{w w0:ao}{xo yo:Operand}{α:Type}{t0 t1 t2 t3 t4:aq}{k0:Eng.KT}
section
open Eng Go.RowKit
theorem Ct {x y:aq}(h:Ret P f args w (λv w'=>v=x∧Below w.heap.size w w'))(a:x=y)(b:Own w0 w L)
  (k:∀w',Own w0 w' L->K y w'):dZ P f args w PK K:=by
 refine C5 h ?_;rintro v w' ⟨rfl,c⟩;rw[a];exact k _ (b.grow c)
end
section
namespace Eng
open Go.RowKit
def sel (c:Bool)(x:aq):Value:=bc c x undef
theorem apW {x:aq}:sel av x=x:=rfl
theorem aqX {x:aq}:sel au x=undef:=rfl
section
variable {P:Program}{w:ao}{PK:PKT}{K:VWP}
theorem amA {v x:aq}{want:Bool}:GDo v want (λE=>E x w) w K=K (sel (kR v want) x) w:=by
 refine propext ⟨λh=>?_,λh=>⟨?_⟩⟩
 ·have:=h.out;cases hw:kR v want<;>rw[hw] at this<;>exact this
 ·cases hw:kR v want<;>rw[hw] at h<;>exact h
theorem Ez {c:Bool}{E a:(VWP)->Prop}(e:v=v')(b:kR v' want=c)(h:c=av->∀d,E d=a d):GDo v want E w K=GDo v' want a w K:=by
 subst e;refine propext ⟨λx=>⟨?_⟩,λx=>⟨?_⟩⟩
 ·have:=x.out;subst b;cases hw:kR v want with
 |false=>rw[hw] at this;exact this
 |true=>rw[hw,aF] at this;rw[aF,<-h hw];exact this
 ·have:=x.out;subst b;cases hw:kR v want with
 |false=>rw[hw] at this;exact this
 |true=>rw[hw,aF] at this;rw[aF,h hw];exact this
theorem aiW {b:Bool}:kR (.bool b) av=b:=by cases b<;>rfl
theorem aiZ {b:Bool}:kR (.bool b) au=!b:=by cases b<;>rfl
theorem aaP {c y:Bool}:kR (sel c (.bool y)) av=(c&&y):=by cases c<;>cases y<;>rfl
theorem aaA {c y:Bool}:kR (sel c (.bool y)) au=(c&&!y):=by cases c<;>cases y<;>rfl
theorem amO {b:Bool}:(av&&b)=b:=rfl
theorem amV {b:Bool}:(b&&av)=b:=by cases b<;>rfl
theorem aaF {b y:Bool}:DoX P (cW (.bool b) (sel b (.bool y)) (.bool au)) w PK K=K (.bool (b&&y)) w:=by
 rw[LS];cases b<;>rfl
theorem afE {b y:Bool}:DoX P (cW (.bool b) (.bool av) (sel (!b) (.bool y))) w PK K=K (.bool (b||y)) w:=by
 rw[LS];cases b<;>rfl
end
def gs:=And.intro @amA (And.intro @aiW (And.intro @aiZ (And.intro @aaF (And.intro @afE (And.intro @apW (And.intro @aqX (And.intro @aaP (And.intro @aaA (And.intro @amO @amV)))))))))
end Eng
end
section
open Eng Go.RowKit
 attribute [local congr] Ez
theorem acX {T:TypeId}{n:Nat}:DoX ah (mEq .eql T xo yo (ad (n:Int)) (ad 0)) w PK K=K (.bool (ai (n=0))) w:=by
 rw[amM];congr 2;simp
theorem T3 {T:TypeId}{s:List UInt8}:DoX ah (mEq .eql T xo yo (ae s) (.string ⟨#[]⟩)) w PK K=K (.bool (ai (s=[]))) w:=Lg (b:=[])
theorem ahS (l:List α):ai (((l.length:Nat):Int)=0)=ai (l=[]):=by cases l<;>simp;omega
theorem akH (l:List α):ai (((l.length:Nat):Int)=0)=ai (l.length=0):=by rw[decide_eq_decide];omega
theorem XR (o:Ob)(vk vc:aq)(cs:List aq)(n g s l:Bool)(w:ao)(h:rE (InW w) w o vk vc cs):Ret ah 252 #[obV o vk vc,.bool n,.bool g,.bool s,.bool l] w
  (λv w'=>v=.bool ((n||decide (o.n=0))&&(g||decide (o.g=0))&&(s||decide (o.s=[]))&&(l||(ai (o.keys=[])&&ai (o.kids.length=0))))∧Below w.heap.size w w'):=by
 refine aL λK e=>Aq ?_;unfold qU nz;refine eI o h.keys.one h.kids.one (Own.start w) λb c a=>?_;have d:=h.own a;have lk:∀{PK:PKT} {K:VWP},DoX ah (mB .len #[22] 3 #[au] #[vk]) c PK K=K (ad (o.keys.length:Int)) c:=aZ atN d.keys.1;have lc:∀{PK:PKT} {K:VWP},DoX ah (mB .len #[23] 3 #[au] #[vc]) c PK K=K (ad (o.kids.length:Int)) c:=aZ atO d.kids.1;simp +contextual only[rs,gs,GI,Yq,Dn,lE,jL,LX a 0 rfl,ob_g a 0 rfl,Mb a 0 rfl,eN a 0 rfl,cX a 0 rfl,lk,lc,acX,T3];refine e _ _ ⟨?_,a.done⟩;rw[ahS o.keys,akH o.kids]
theorem Tf (s:List UInt8)(w:ao)(k:s.length<=9223372036854775807):Ret ah 253 #[ae s] w (λv w'=>v=.bool (Vl.name s)∧w=w'):=by
 refine aL λK g=>Av ?_;unfold rX nz;refine loop (λvs w'=>∃(i:Nat),vs=[ad i]∧i<=s.length∧(0:UInt8) ∉ s.take i∧w=w') (λvs _=>s.length - n0 vs) ⟨0,rfl,om,sm,rfl⟩ ?_;rintro vs w2 ⟨i,rfl,hi,hm,rfl⟩ _;simp only[oI,gd,cZ atB,rs,nz];by_cases b:(i:Int) < (s.length:Int)
 ·have a:i < s.length:=om
  have j:∀{PK:PKT} {K:VWP},DoX ah (mIx 9 (ae s) (ad (i:Int))) w PK K=K (.int .u8 (s[i].toNat:Int)) w:=NW (c:=s[i]) atB (Int.natCast_nonneg i) (by simp[a]);simp only[b,asX,rs,j];by_cases d:s[i]=0
  ·have e:(s[i].toNat:Int)=0:=by rw[d];rfl
   simp only[e,asX,i_t];have f:(0:UInt8)∈s:=d▸atP a;exact g _ _ ⟨by simp[Vl.name,f],rfl⟩
  ·have e:¬(s[i].toNat:Int)=0:=λh=>d (ayP.1 (by have:(0:UInt8).toNat=0:=rfl;omega));simp only[e,asW,i_f];rw[aA om om];refine aS ⟨i+1,rfl,om,?_,rfl⟩ (by simp[n0,RowKit.intOf];omega);rw[List.take_add_one,atI a];simp only[Option.toList,auF,auB,not_or];exact⟨hm,λe=>d e.symm⟩
 ·rw[auG om] at hm;simp only[b,asW,i_f];refine g _ _ ⟨?_,rfl⟩;rw[Vl.name,atA hm,aAp]
  congr 1
  rw[decide_eq_decide];omega
theorem Q2 (o:Ob)(v:aq)(w:ao)(h:OV (InW w) w v o):Ret ah 203 #[v] w (λv w'=>v=.bool (Vl.gB o)∧Below w.heap.size w w'):=by
 obtain⟨vk,vc,cs,rfl,r⟩:=h.open;refine aL λK i=>AE ?_;unfold qY nz;refine eI o r.keys.one r.kids.one (Own.start w) λb q a=>?_;have j:=r.own a;have C:rE (InW q) q o vk vc cs:=⟨⟨j.keys.1,(λp l c e D=>avR (j.keys.2.1 p l c e D) a.size),j.keys.2.2⟩,⟨j.kids.1,(λp l c e D=>avR (j.kids.2.1 p l c e D) a.size),j.kids.2.2⟩,OVs.mono (λ_ H=>avR H a.size) _ _ j.all⟩;have zero:∀(n g s l:Bool) {K':VWP},(∀w',Own w w' [obE b o vk vc]->K' (.bool ((n||decide (o.n=0))&&(g||decide (o.g=0))&&(s||decide (o.s=[]))&&(l||(ai (o.keys=[])&&ai (o.kids.length=0))))) w') ->
   dZ ah 252 #[obV o vk vc,.bool n,.bool g,.bool s,.bool l] q (pk K) K':=λn g s l {K'} E=>Ct (XR o vk vc cs n g s l q C) rfl a E
 rw[eO,sA a 0 rfl];simp only[rs,iV a 0 rfl];by_cases k0:o.k=0
 ·simp only[k0,asX,i_t];refine zero _ _ _ _ λw2 a=>i _ _ ⟨?_,a.done⟩;simp[Vl.gB,Vl.used,k0,ayC]
 simp only[k0,asW,i_f];refine join λJ m=>?_;by_cases d:o.k=1∨o.k=2∨o.k=3
 ·have:J [.bool av] q:=by
   refine m _ _ λ_=>?_;simp only[iO,gd,i_t,iV a 0 rfl,nz];refine zero _ _ _ _ λw2 a=>i _ _ ⟨?_,a.done⟩;simp[Vl.gB,Vl.used,k0,d,ayC]
  by_cases t:o.k=1
  ·simp only[t,asX,i_t];exact this
  by_cases u:o.k=2
  ·simp only[u,Int.reduceEq,asX,asW,i_t,i_f];exact this
  have x:o.k=3:=om
  simp only[x,Int.reduceEq,asX,asW,i_t,i_f];exact this
 have t:¬o.k=1:=λh=>d (.inl h);have u:¬o.k=2:=λh=>d (.inr (.inl h));have x:¬o.k=3:=λh=>d (.inr (.inr h));simp only[t,u,x,asW,i_f];refine m _ _ λ_=>?_;clear m;simp only[iO,gd,i_f,rs,nz];refine join λJ m=>?_;by_cases f:o.k=4∨o.k=5
 ·have:J [.bool av] q:=by
   refine m _ _ λ_=>?_;simp only[iP,gd,i_t,iV a 0 rfl,nz];refine zero _ _ _ _ λw2 a=>i _ _ ⟨?_,a.done⟩;simp[Vl.gB,Vl.used,k0,t,u,x,f,ayC]
  by_cases F:o.k=4
  ·simp only[F,asX,i_t];exact this
  have G:o.k=5:=om
  simp only[G,Int.reduceEq,asX,asW,i_t,i_f];exact this
 have F:¬o.k=4:=λh=>f (.inl h);have G:¬o.k=5:=λh=>f (.inr h);simp only[F,G,asW,i_f];refine m _ _ λ_=>?_;clear m;simp only[iP,gd,i_f,rs,iV a 0 rfl,nz];by_cases y:o.k=6
 ·simp only[y,asX,i_t];refine zero _ _ _ _ λw2 a=>?_;have lk:∀{PK:PKT} {K:VWP},DoX ah (mB .len #[22] 3 #[au] #[vk]) w2 PK K=K (ad (o.keys.length:Int)) w2:=aZ atN (r.own a).keys.1;simp +contextual only[rs,gs,lE,eN a 0 rfl,lk,acX];refine i _ _ ⟨?_,a.done⟩;rw[ahS o.keys];simp[Vl.gB,Vl.used,y,ayC]
 by_cases z:o.k=7
 ·simp only[z,Int.reduceEq,asX,asW,i_t,i_f];refine zero _ _ _ _ λw2 a=>i _ _ ⟨?_,a.done⟩;simp[Vl.gB,Vl.used,z,ayC]
 by_cases A:o.k=8
 ·simp only[A,Int.reduceEq,asX,asW,i_t,i_f];refine zero _ _ _ _ λw2 a=>i _ _ ⟨?_,a.done⟩;simp[Vl.gB,Vl.used,A,ayC]
 by_cases B:o.k=9
 ·simp only[B,Int.reduceEq,asX,asW,i_t,i_f];refine zero _ _ _ _ λw2 a=>i _ _ ⟨?_,a.done⟩;simp[Vl.gB,Vl.used,B,ayC]
 simp only[y,z,A,B,asW,i_f];refine i _ _ ⟨?_,a.done⟩;simp[Vl.gB,Vl.used,k0,d,f,y,z,A,B]
theorem WS (o:Ob)(v:aq)(w:ao)(h:OV (InW w) w v o):Ret ah 204 #[v] w (λv w'=>v=.bool (Vl.fits o)∧Below w.heap.size w w'):=by
 obtain⟨vk,vc,cs,rfl,i⟩:=h.open;refine aL λK e=>Ai ?_;unfold sD nz;refine eI o i.keys.one i.kids.one (Own.start w) λb j a=>?_;simp only[eO,sA a 0 rfl,rs];by_cases c:o.k=1
 ·simp +contextual only[c,asX,i_t,GI,LX a 0 rfl,rs,gs,asX,asW,nn_t,nn_f];refine e _ _ ⟨?_,a.done⟩;rw[Vl.fits,asU c];congr 1;rw[aAq];simp;omega
 by_cases d:o.k=2
 ·simp +contextual only[d,Int.reduceEq,asX,asW,i_t,i_f,GI,LX a 0 rfl,rs,gs,asX,asW,nn_t,nn_f];refine e _ _ ⟨?_,a.done⟩;rw[Vl.fits,asT c,asU d,ayD]
 by_cases f:o.k=3
 ·simp +contextual only[f,Int.reduceEq,asX,asW,i_t,i_f,GI,LX a 0 rfl,rs,gs,asX,asW,nn_t,nn_f];refine e _ _ ⟨?_,a.done⟩;rw[Vl.fits,asT c,asT d,asU f,ayD]
 by_cases g:o.k=8
 ·simp +contextual only[g,Int.reduceEq,asX,asW,i_t,i_f,GI,Yq,LX a 0 rfl,ob_g a 0 rfl,rs,gs,asX,asW,nn_t,nn_f];refine e _ _ ⟨?_,a.done⟩;rw[Vl.fits,asT c,asT d,asT f,asU g,ayD,ayD,ayC,ayC]
 simp only[c,d,f,g,asW,i_f];refine e _ _ ⟨?_,a.done⟩;rw[Vl.fits,asT c,asT d,asT f,asT g]
theorem U6 (k:Int)(w:ao):Ret ah 205 #[ad k] w (λv w'=>v=ad (Vl.long k:Nat)∧w=w'):=by
 refine aL λK c=>AN ?_;unfold rZ nz;simp only[rs];by_cases a:k=5
 ·simp only[a,asX,i_t];exact c _ _ ⟨by rw[a];rfl,rfl⟩
 by_cases b:k=9
 ·simp only[b,Int.reduceEq,asX,asW,i_t,i_f];exact c _ _ ⟨by rw[b];rfl,rfl⟩
 simp only[a,b,asW,i_f];exact c _ _ ⟨by rw[Vl.long,asT a,asT b];rfl,rfl⟩
end
section
namespace Eng
open Go.RowKit
theorem Kk {c:Bool}{x:aq}:sel c (sel c x)=sel c x:=by cases c<;>rfl
theorem Wi {E:(VWP)->Prop}(h:kR v want=au):GDo v want E w K=K undef w:=by
 refine propext ⟨λx=>?_,λx=>⟨?_⟩⟩
 ·have:=x.out;rw[h] at this;exact this
 ·rw[h];exact x
theorem XC:∀a b:List UInt8,(Op.bytesLess a b||a==b)=!(Op.bytesLess b a):=by
 intro a b;rw[bytesLess_eq,bytesLess_eq,aAq];simp only[axS,auP,beq_iff_eq,awY,avL];constructor
 ·rintro (h|rfl)
  ·exactλd=>List.lt_asymm h d
  ·exact List.lt_irrefl _
 ·intro h;by_cases c:a < b
  ·exact .inl c
  ·exact .inr (List.le_antisymm (List.not_lt.1 h) (List.not_lt.1 c))
theorem E5 {b:Bool}:DoX P (cW (.bool (!b)) (.bool av) (sel b (.bool y))) w PK K=K (.bool (!b||y)) w:=by
 rw[LS];cases b<;>rfl
theorem anU {r:Bool}{A B:Prop}(h:q=r)(k:IfX (.bool r) A B):IfX (.bool q) A B:=by subst h;exact k
end Eng
end
section
open Eng Go.RowKit
 attribute [local congr] Ez
theorem rE.in_ (h:rE (InW w0) w0 o vk vc cs)(b:Own w0 w L):rE (InW w) w o vk vc cs:=by
 have a:=h.own b;exact⟨⟨a.keys.1,(λp l c e d=>avR (a.keys.2.1 p l c e d) b.size),a.keys.2.2⟩,⟨a.kids.1,(λp l c e d=>avR (a.kids.2.1 p l c e d) b.size),a.kids.2.2⟩,OVs.mono (λ_ f=>avR f b.size) _ _ a.all⟩
theorem nC {p:Nat->Bool}(n:Nat):(List.range (n+1)).all p=((List.range n).all p&&p n):=by
 rw[ayE,List.all_append];simp
theorem Gn {p:Nat->Bool}{n m:Nat}(hp:p n=au)(a:n < m):(List.range m).all p=false:=by
 rw[<-Bool.not_eq_true];intro h;have:=avY.1 h n (avG.2 a);rw[hp] at this;cases this
theorem O7 (h:Sl w vc 6 os.length cs)(c:OVs A w cs os)(hi:i < os.length) :
  ∃b off,(∀{PK:PKT} {K:VWP},DoX ah (mIA 23 vc (ad (i:Int))) w PK K=K (af b off) w)∧w.cell? ⟨b,off,aw⟩=ax (ad os[i].k):=by
 obtain⟨b,off,cap,rfl,j⟩:=bU h om;obtain⟨a,m,f,d⟩:=OVs.get os cs i hi c;refine⟨b,off+i*6,?_,?_⟩
 ·intro PK K;have:=dP (P:=ah) (T:=23) (b:=b) (off:=off) (cap:=cap) (n:=os.length) (k:=.i64) (i:=(i:Int)) (w:=w) atO LV om om;rw[atC] at this;exact aC this
 ·obtain⟨vk,vc',l,g,_⟩:=f.open;have e:a=obC os[i] vk vc':=by
   injection g with g
   have:=congrArg Array.toList g;simpa using this
  have:=j (i*6+0) _ (d 0 (ad os[i].k) (by rw[e];rfl));simpa using this
theorem Xd (o:Ob)(v:aq)(w:ao)(h:OV (InW w) w v o)(X:o.s.length<=9223372036854775807)(hb:o.keys.length<=9223372036854775807)(I:∀k∈o.keys,k.length<=9223372036854775807) :
  Ret ah 206 #[v] w (λv w'=>v=.bool (Vl.form o)∧Below w.heap.size w w'):=by
 obtain⟨vk,vc,cs,rfl,y⟩:=h.open;refine aL λK p=>AG ?_;unfold rI nz;refine eI o y.keys.one y.kids.one (Own.start w) λb Y f=>?_;simp only[eO,sA f 0 rfl,rs];by_cases u:o.k=5
 ·simp only[u,asX,i_t,Dn,Mb f 0 rfl];refine qE (Tf o.s Y X) ?_;refine p _ _ ⟨?_,f.done⟩;simp[Vl.form,u]
 by_cases z:o.k=7∨o.k=9
 case neg=>
  have J:¬o.k=7:=λh=>z (.inl h);have M:¬o.k=9:=λh=>z (.inr h);simp only[u,J,M,ne_eq,avD,asX,asW,rs,sA f 0 rfl];refine p _ _ ⟨?_,f.done⟩;simp[Vl.form,u,z]
 have lk:∀{W:ao} {L:List Ent},Own w W L->∀{PK:PKT} {K:VWP},DoX ah (mB .len #[22] 3 #[au] #[vk]) W PK K=K (ad (o.keys.length:Int)) W:=λf=>aZ atN (y.own f).keys.1;have lc:∀{W:ao} {L:List Ent},Own w W L->∀{PK:PKT} {K:VWP},DoX ah (mB .len #[23] 3 #[au] #[vc]) W PK K=K (ad (o.kids.length:Int)) W:=λf=>aZ atO (y.own f).kids.1;have Z:Vl.form o=Vl.rising o:=by simp[Vl.form,u,z]
 rw[Z] at p;simp +contextual only[u,asW,i_f,rs,gs,sA f 0 rfl,lE,jL,eN f 0 rfl,cX f 0 rfl,lk f,lc f];refine anU (r:=au) (by rcases z with h|h<;>simp[h]) ?_;rw[i_f];by_cases hlen:(o.keys.length:Int)≠(o.kids.length:Int)
 ·simp only[atA hlen,i_t];refine p _ _ ⟨?_,f.done⟩;have:¬o.keys.length=o.kids.length:=λe=>hlen (by rw[e]);simp[Vl.rising,this]
 have hle:o.keys.length=o.kids.length:=om
 simp only[asZ hlen,i_f];have hR:Vl.rising o=(List.range o.keys.length).all (Vl.Az o):=by simp[Vl.rising,hle]
 rw[hR] at p;refine loop (λvs w'=>∃(i:Nat),vs=[ad i]∧i<=o.keys.length∧(List.range i).all (Vl.Az o)=av∧Own w w' [obE b o vk vc]) (λvs _=>o.keys.length - n0 vs) ⟨0,rfl,om,sm,f⟩ ?_;rintro vs w2 ⟨i,rfl,hi,j,f⟩ _;simp only[nY,gd,rs,nz];by_cases A:(i:Int) < (o.keys.length:Int)
 ·have l:i < o.keys.length:=om
  simp only[A,asX,i_t];have m:=y.own f;refine Hx (ae (o.keys[i])) atN krx m.keys.1 om (by rw[atC];exact eW l) λq x=>?_;rw[aR Io x];refine qE (Tf o.keys[i] w2 (I _ (atP l))) ?_;obtain⟨kb,B,C,O⟩:=O7 m.kids.1 m.all (show i < o.kids.length by omega);have D:∀{PK:PKT} {K:VWP},DoX ah (aK 3 (af kb B)) w2 PK K=K (ad o.kids[i].k) w2:=aR bZ O;have t:ai (0 < (i:Int))=av->∃(E g:Nat),(∀{PK:PKT} {K:VWP},DoX ah (mIA 22 vk (ad (IntKind.wrap .i64 ((i:Int) - 1)))) w2 PK K=K (af E g) w2) ∧
    (∀{PK:PKT} {K:VWP},DoX ah (aK 9 (af E g)) w2 PK K=K (ae (o.keys.getD (i - 1) [])) w2):=by
   intro h;have h:=atQ h;have U:i - 1 < o.keys.length:=om
   obtain⟨E,g,V,rfl,P⟩:=bU m.keys.1 (show 0 < o.keys.length by omega);refine⟨E,g+(i - 1),?_,?_⟩
   ·intro PK K;rw[aA om om];refine aC ?_;rw[dP atN (show _=ax 1 by kernel_rfl) om om,show ((i:Int) - 1).toNat*1=i - 1 by omega]
   ·intro PK K;rw[atD,atI U];exact aR Io (P _ _ (eW U))
  have Q:o.keys.getD i []=o.keys[i]:=by rw[atD,atI l];rfl
  have R:o.kids.getD i (.mk 0 0 0 [] [] [])=o.kids[i]'(om):=by rw[atD,atI om];rfl
  have tail:∀(q:Bool) (N:Prop),q=!(Vl.Az o i)->(Vl.Az o i=av->N)->IfX (.bool q) (K (.returned (.bool au)) w2) N:=by
   intro q N x hN;cases n:Vl.Az o i with
  |false=>
    rw[n] at x;subst x;rw[show (!au)=av from rfl,i_t];exact p _ _ ⟨by rw[Gn n l],f.done⟩
  |true=>
    rw[n] at x;subst x;rw[show (!av)=au from rfl,i_f];exact hN n
  have F:Vl.Az o i=(Vl.name o.keys[i]&&(ai (i=0)||Vl.less (o.keys.getD (i - 1) []) o.keys[i])&&!(ai (o.k=9)&&ai (o.keys[i]=Vl.qF))&&ai ((o.kids[i]'(om)).k≠0)):=by
   rw[Vl.Az,Q,R]
  by_cases G:i=0
  ·have H:ai (0 < (i:Int))=false:=by rw[avL];omega
   simp +contextual only[rs,gs,H,Kk,Wi,E5,aAe,aAf,ayM,XC,eO,jL,sA f 0 rfl,cX f 0 rfl,C,D,nE,p_f];refine tail _ _ ?_ λn=>?_
   ·rw[F,atA G];simp only[Bool.true_or,aAp,Vl.qF,ne_eq,decide_not];generalize Vl.name o.keys[i]=a;generalize ai (o.k=9)=c;generalize ai ((o.kids[i]'(om)).k=0)=d;by_cases hL:o.keys[i]=[76,101,110,103,116,104]<;>simp only[hL,asX,asW]<;>cases a<;>cases c<;>cases d<;>rfl
   ·rw[aA om om];exact aS ⟨i+1,rfl,om,by rw[nC,j,n];rfl,f⟩ (by simp[n0,RowKit.intOf];omega)
  ·have H:ai (0 < (i:Int))=true:=by rw[decide_eq_true_iff];omega
   obtain⟨E,g,S,T⟩:=t H;simp +contextual only[rs,gs,H,Kk,Wi,E5,aAe,aAf,ayM,XC,eO,lE,jL,sA f 0 rfl,eN f 0 rfl,cX f 0 rfl,C,D,S,T,nE];refine tail _ _ ?_ λn=>?_
   ·rw[F,asZ G];simp only[azF,Vl.qF,ne_eq,decide_not];generalize Vl.name o.keys[i]=a;generalize ai (o.k=9)=c;generalize ai ((o.kids[i]'(om)).k=0)=d;show _=!(_&&Op.bytesLess (o.keys.getD (i - 1) []) o.keys[i]&&_&&_);generalize Op.bytesLess (o.keys.getD (i - 1) []) o.keys[i]=e;by_cases hL:o.keys[i]=[76,101,110,103,116,104]<;>simp only[hL,asX,asW]<;>cases a<;>cases c<;>cases d<;>cases e<;>rfl
   ·rw[aA om om];exact aS ⟨i+1,rfl,om,by rw[nC,j,n];rfl,f⟩ (by simp[n0,RowKit.intOf];omega)
 ·simp only[A,asW,i_f];refine p _ _ ⟨?_,f.done⟩;rw[show o.keys.length=i by omega,j]
end
section
open Eng Go.RowKit
 attribute [local congr] Ez
theorem cH.asF {w2 a:ao}{d e:List Ent}(f:Own w0 w2 d)(g:Own w0 a e):Kept (InW w0) w2 a:=λb c=>(g.done.block b c).trans (f.done.block b c).symm
theorem rE.later {w2 d:ao}{g i:List Ent}(h:rE (InW w0) w2 o vk vc cs)(j:Own w0 w2 g)(b:Own w0 d i):rE (InW d) d o vk vc cs:=by
 have a:=h.kept (cH.asF j b);exact⟨⟨a.keys.1,(λp l c e f=>avR (a.keys.2.1 p l c e f) b.size),a.keys.2.2⟩,⟨a.kids.1,(λp l c e f=>avR (a.kids.2.1 p l c e f) b.size),a.kids.2.2⟩,OVs.mono (λ_ k=>avR k b.size) _ _ a.all⟩
theorem Wh:∀{l:List (List UInt8)} {k:List UInt8},k∈l->k.length<=Pl.tot l
|a::l,k,h=>by
  simp only[Pl.tot,avC,axA];rcases atL.1 h with rfl|h
  ·omega
  ·have:=Wh h;simp only[Pl.tot] at this;omega
theorem YU:∀{l:List Ob} {o:Ob},o∈l->o.wt<=Ob.wts l
|a::l,o,h=>by
  rw[Ob.wts];rcases atL.1 h with rfl|h
  ·omega
  ·have:=YU h;omega
theorem Ob.oK (o:Ob):o.wt=6+o.s.length+Pl.tot o.keys+Ob.wts o.kids:=by cases o;rw[Ob.wt];rfl
theorem Ob.Jx (o:Ob):6<=o.wt:=by rw[o.oK];omega
theorem Xk:∀l:List Ob,l.length*6<=Ob.wts l
|[]=>by simp
|a::l=>by
  have:=Xk l;have:=a.Jx;rw[Ob.wts,atW];omega
theorem HE (hi:i < o.kids.length):o.kids[i].wt < o.wt:=by
 have:=YU (atP hi);rw[o.oK];omega
theorem KS (d:Nat)(l:List Ob)(i:Nat)(hi:i < l.length):Vl.nN d (l.drop i)=if Vl.check d l[i]≠0 then Vl.check d l[i] else Vl.nN d (l.drop (i+1)):=by
 rw[auL hi,Vl.nN]
theorem RG :o.keys.length<=o.wt:=by
 have h:∀l:List (List UInt8),l.length<=Pl.tot l:=by
  intro l
  induction l with
 |nil=>simp
 |cons a l b=>simp only[Pl.tot,avC,axA,atW] at b ⊢;omega
 have:=h o.keys;rw[o.oK];omega
theorem uP {o:Ob}:o.kids.length<=o.wt:=by
 have:=Xk o.kids;rw[o.oK];omega
theorem Y3 :o.s.length<=o.wt:=by rw[o.oK];omega
theorem SJ {k:List UInt8}(h:k∈o.keys):k.length<=o.wt:=by
 have:=Wh h;rw[o.oK];omega
theorem Ws (h:Vl.why d o≠0):Vl.check d o=Vl.why d o:=by rw[Vl.E3,asU h]
theorem PE (n:Nat):∀(o:Ob) (v:aq) (d:Nat) (w:ao),o.wt<=n->OV (InW w) w v o->o.wt<=4611686018427387904->d<=1000 ->
  Ret ah 143 #[v,ad (d:Int)] w (λv w'=>v=ad (Vl.check d o)∧Below w.heap.size w w'):=by
 induction n with
|zero=>intro o v d w h;have:=o.Jx;omega
|succ n U=>
 intro o v d w hn J hb hd;obtain⟨vk,vc,cs,rfl,t⟩:=J.open;refine aL λK r=>yI ?_;unfold pY nz;refine eI o t.keys.one t.kids.one (Own.start w) λb S a=>?_;simp only[rs];have out:∀(e:Int) (W:ao) (L:List Ent),Own w W L->Vl.why d o=e->e≠0->K (.returned (ad e)) W:=by
  intro e W L a M V;exact r _ _ ⟨by rw[Ws (by rw[M];exact V),M],a.done⟩
 by_cases z:(24:Int) < (d:Int)
 ·simp only[z,asX,i_t];exact out 7 S _ a (by rw[Vl.why,asU om]) dc
 simp only[z,asW,i_f,iV a 0 rfl];refine Ct (Q2 o _ S (t.in_ a).ov) rfl a λw2 a=>?_;have c:¬24 < d:=om
 cases hu:Vl.gB o with
|false=>
  simp only[rs,auN,nE];exact out 10 w2 _ a (by rw[Vl.why,asT c,asU (.inl hu)]) dc
|true=>
 have X:(o.k=9∧1 < d)∨¬(o.k=9∧1 < d):=by by_cases h:(o.k=9∧1 < d)<;>simp[h]
 have N:∀(A B:Prop),(o.k=9∧1 < d->A)->(¬(o.k=9∧1 < d)->B)->IfX (.bool (ai (o.k=9)&&ai ((1:Int) < (d:Int)))) A B:=by
  intro A B Y Z;by_cases h:(o.k=9∧1 < d)
  ·have e:(ai (o.k=9)&&ai ((1:Int) < (d:Int)))=true:=by simp[h.1];omega
   rw[e,i_t];exact Y h
  ·have e:(ai (o.k=9)&&ai ((1:Int) < (d:Int)))=false:=by
    rw[ayQ];by_cases y:o.k=9
    ·right;rw[avL];intro M;exact h ⟨y,om⟩
    ·left;exact asZ y
   rw[e,i_f];exact Z h
 simp +contextual only[rs,gs,auO,eO,sA a 0 rfl];refine N _ _ (λy=>?_) λy=>?_
 ·exact out 10 w2 _ a (by rw[Vl.why,asT c,asU (.inr y)]) dc
 have j:¬(Vl.gB o=au∨(o.k=9∧1 < d)):=by
  rintro (h|h)
  ·rw[hu] at h;cases h
  ·exact y h
 rw[iV a 0 rfl];refine Ct (WS o _ w2 (t.in_ a).ov) rfl a λw3 a=>?_;cases C:Vl.fits o with
|false=>
  simp only[rs,auN];exact out 2 w3 _ a (by rw[Vl.why,asT c,asT j,asU C]) dc
|true=>
 have f:¬Vl.fits o=false:=by rw[C];decide
 simp only[rs,auO];refine quiet ?_;refine gr _ (λ_=>bC amX) ?_;refine iL (ae o.s) (λW u=>aB Io ((a.grow u).cell 0 rfl 3 rfl)) ?_;refine Pq atB ?_;refine gr _ (λ_=>bC alW) ?_;refine iL (ad o.k) (λW u=>aB bZ ((a.grow u).cell 0 rfl 0 rfl)) ?_;refine iH _ (λW u=>abU (U6 o.k W) u) ?_;refine ahB ?_;intro O u;have a:=a.grow u;by_cases D:((Vl.long o.k:Nat):Int) < (o.s.length:Int)
 ·simp only[D,asX,i_t];exact out 5 O _ a (by rw[Vl.why,asT c,asT j,asT f,asU om]) dc
 have l:¬Vl.long o.k < o.s.length:=om
 have lc:∀{W:ao} {L:List Ent},Own w W L->∀{PK:PKT} {K:VWP},DoX ah (mB .len #[23] 3 #[au] #[vc]) W PK K=K (ad (o.kids.length:Int)) W:=λa=>aZ atO (t.own a).kids.1;simp only[D,asW,i_f,jL,cX a 0 rfl,lc a,rs];by_cases m:(8191:Int) < (o.kids.length:Int)
 ·simp only[m,asX,i_t];exact out 6 O _ a (by rw[Vl.why,asT c,asT j,asT f,asT l,asU om]) dc
 have g:¬8191 < o.kids.length:=om
 simp only[m,asW,i_f,iV a 0 rfl];refine Ct (Xd o _ O (t.in_ a).ov (by have:=Y3 (o:=o);omega) (by have:=RG (o:=o);omega) (λk hk=>by have:=SJ hk;omega)) rfl a λw5 a=>?_;cases E:Vl.form o with
|false=>
  simp only[rs,auN];exact out 3 w5 _ a (by rw[Vl.why,asT c,asT j,asT f,asT l,asT g,asU E]) dc
|true=>
 have F:¬Vl.form o=false:=by rw[E];decide
 have P:Vl.why d o=0:=by rw[Vl.why,asT c,asT j,asT f,asT l,asT g,asT F]
 have Q:Vl.check d o=Vl.nN (d+1) o.kids:=by rw[Vl.E3,asT (by simp[P])]
 rw[Q] at r;simp only[rs,auO,cX a 0 rfl,lc a];refine loop (λvs w'=>∃(i:Nat),vs=[ad i]∧i<=o.kids.length∧Vl.nN (d+1) o.kids=Vl.nN (d+1) (o.kids.drop i)∧Own w w' [obE b o vk vc]) (λvs _=>o.kids.length - n0 vs) ⟨0,rfl,om,rfl,a⟩ ?_;rintro vs w6 ⟨i,rfl,hi,I,a⟩ _;rw[I] at r;simp only[mA,gd,rs,nz];by_cases G:(i:Int) < (o.kids.length:Int)
 ·have x:i < o.kids.length:=om
  simp only[G,asX,i_t];rw[KS _ _ _ x] at r I;have H:=t.own a;refine aiG H.kids.1 H.all x λv hv=>?_;obtain⟨vk',vc',a1,rfl,p⟩:=hv.open;have R:=a;refine dM a λb7 w7 a=>?_;refine aP 0 p.keys.one p.kids.one a rfl λT a=>?_;have a:Own w T [obE b7 o.kids[i] vk' vc',obE b o vk vc]:=a;rw[iV a 0 rfl,aA om om,show (d:Int)+1=((d+1:Nat):Int) by omega];have a6:=HE x;refine Ct (U o.kids[i] _ (d+1) T om (p.later R a).ov om om) rfl a λw9 a=>?_;simp only[rs];by_cases q:Vl.check (d+1) o.kids[i]=0
  ·simp only[q,ne_eq,not_true,asW,i_f];rw[aA om om];rw[asT (by simp[q])] at I;exact aS ⟨i+1,rfl,om,I,a.tail⟩ (by simp[n0,RowKit.intOf];omega)
  ·simp only[q,ne_eq,avD,asX,i_t];rw[asU q] at r;exact r _ _ ⟨rfl,a.done⟩
 ·simp only[G,asW,i_f];rw[ayR om,Vl.nN] at r;exact r _ _ ⟨rfl,a.done⟩
theorem iK (o:Ob)(v:aq)(w:ao)(h:OV (InW w) w v o)(d:o.wt<=4611686018427387904):Ret ah 74 #[v] w (λv w'=>v=ad (Vl.check 1 o)∧Below w.heap.size w w'):=by
 obtain⟨vk,vc,cs,rfl,c⟩:=h.open;refine aL λK e=>xQ ?_;unfold pI nz;refine eI o c.keys.one c.kids.one (Own.start w) λb f a=>?_;rw[iV a 0 rfl];refine Ct (PE o.wt o _ 1 f (atE _) (c.in_ a).ov d om) rfl a λw2 a=>?_;exact e _ _ ⟨rfl,a.done⟩
theorem UN (l:List Ob)(i:Nat)(hi:i < l.length):Vl.sU (l.take (i+1))=Vl.sU (l.take i)+Vl.size l[i]:=by
 have h:∀(l:List Ob) (o:Ob),Vl.sU (l++[o])=Vl.sU l+Vl.size o:=by
  intro l o
  induction l with
 |nil=>simp[Vl.sU]
 |cons a l b=>rw[axF,Vl.sU,b,Vl.sU];omega
 rw[auD hi,h]
theorem LG (l:List Ob)(i:Nat):Vl.sU (l.take i)<=Vl.sU l:=by
 induction l generalizing i with
|nil=>simp
|cons a l b=>
  cases i with
 |zero=>simp[Vl.sU]
 |succ i=>rw[ayB,Vl.sU,Vl.sU];have:=b i;omega
theorem XN (n:Nat):∀(o:Ob) (v:aq) (w:ao),o.wt<=n->OV (InW w) w v o->o.wt<=4611686018427387904 ->
  Ret ah 49 #[v] w (λv w'=>v=ad (Vl.size o:Nat)∧Below w.heap.size w w'):=by
 induction n with
|zero=>intro o v w h;have:=o.Jx;omega
|succ n B=>
 intro o v w T p U;obtain⟨vk,vc,cs,rfl,g⟩:=p.open;refine aL λK C=>Aj ?_;unfold sL nz;refine eI o g.keys.one g.kids.one (Own.start w) λb V a=>?_;have D:=Y3 (o:=o);have E:=RG (o:=o);have F:=uP (o:=o);have G:=Vl.Wu o;have j:∀m:Nat,(m:Int).tdiv 50=((m / 50:Nat):Int):=λm=>by rw[aAr om];omega
 have lk:∀{W:ao} {L:List Ent},Own w W L->∀{PK:PKT} {K:VWP},DoX ah (mB .len #[22] 3 #[au] #[vk]) W PK K=K (ad (o.keys.length:Int)) W:=λa=>aZ atN (g.own a).keys.1;have lc:∀{W:ao} {L:List Ent},Own w W L->∀{PK:PKT} {K:VWP},DoX ah (mB .len #[23] 3 #[au] #[vc]) W PK K=K (ad (o.kids.length:Int)) W:=λa=>aZ atO (g.own a).kids.1;rw[Dn,Mb a 0 rfl,cZ atB,Ih dc,j,aA om om,Kn,aA om om,lE,eN a 0 rfl,lk a];have f:∀i,((o.keys.take i).map λk=>k.length / 50).sum<=(o.keys.map λk=>k.length / 50).sum:=by
  intro i
  conv=>rhs;rw[<-auR i o.keys,auJ,ayS]
  omega
 have r:=Vl.size_eq o;refine loop (λvs w'=>∃(i:Nat) (m:Int),vs=[ad m,ad i]∧i<=o.keys.length∧m=((1+o.s.length / 50+((o.keys.take i).map λk=>k.length / 50).sum:Nat):Int)∧Own w w' [obE b o vk vc]) (λvs _=>o.keys.length - n1 vs) ⟨0,_,rfl,om,sm,a⟩ ?_;rintro vs w2 ⟨i,m,rfl,hi,rfl,a⟩ _;have H:=f i;simp only[oJ,gd,rs,nz];by_cases d:(i:Int) < (o.keys.length:Int)
 ·have c:i < o.keys.length:=om
  simp only[d,asX,i_t];refine Hx (ae (o.keys[i])) atN krx (g.own a).keys.1 om (by rw[atC];exact eW c) λq I=>?_;have J:=SJ (atP c);have M:=f (i+1);have t:((o.keys.take (i+1)).map λk=>k.length / 50).sum=((o.keys.take i).map λk=>k.length / 50).sum+o.keys[i].length / 50:=by
   rw[auD c,auJ,ayS];simp
  rw[aR Io I,cZ atB,Ih dc,j,aA (n:=((o.keys[i].length / 50:Nat):Int)) om om];simp only[rs];rw[aA om om,aA om om];exact aS ⟨i+1,_,rfl,om,by rw[t];omega,a⟩ (by simp[n1,RowKit.intOf];omega)
 simp only[d,asW,i_f,jL,cX a 0 rfl,lc a];have u:i=o.keys.length:=om
 subst u;rw[auZ];refine loop (λvs w'=>∃(i:Nat) (m:Int),vs=[ad m,ad i]∧i<=o.kids.length∧m=((1+o.s.length / 50+(o.keys.map λk=>k.length / 50).sum+Vl.sU (o.kids.take i):Nat):Int)∧Own w w' [obE b o vk vc]) (λvs _=>o.kids.length - n1 vs) ⟨0,_,rfl,om,by simp[Vl.sU],a⟩ ?_;rintro vs w3 ⟨i,m,rfl,N,rfl,a⟩ _;simp only[nG,gd,rs,nz];have O:=LG o.kids i;by_cases d:(i:Int) < (o.kids.length:Int)
 ·have c:i < o.kids.length:=om
  simp only[d,asX,i_t];have l:=g.own a;refine aiG l.kids.1 l.all c λv P=>?_;obtain⟨vk',vc',Q,rfl,e⟩:=P.open;have x:=a;refine dM a λR X a=>?_;refine aP 0 e.keys.one e.kids.one a rfl λz a=>?_;have a:Own w z [obE R o.kids[i] vk' vc',obE b o vk vc]:=a;rw[iV a 0 rfl];have S:=HE c;refine Ct (B o.kids[i] _ z om (e.later x a).ov om) rfl a λY a=>?_;have y:=UN o.kids i c;have A:=LG o.kids (i+1);simp only[rs];rw[aA om om,aA om om];exact aS ⟨i+1,_,rfl,om,by rw[y];omega,a.tail⟩ (by simp[n1,RowKit.intOf];omega)
 ·simp only[d,asW,i_f];rw[auG om];refine C _ _ ⟨?_,a.done⟩;rw[r]
end
section
open Eng
def pR(t0 t1 t2 w)(K:KT):=nz f254 1 [] [] [] (zg [0,1,2] [t0,t1,t2]) w K
theorem yL:pR t0 t1 t2 w k0->Calls ah 254 #[t0,t1,t2] w k0:=cw func254
def uS(t0 t1 t2 w)(K:KT):=nz f255 1 [] [] [] (zg [0,1,2] [t0,t1,t2]) w K
theorem Cv:uS t0 t1 t2 w k0->Calls ah 255 #[t0,t1,t2] w k0:=cw func255
def Kr(t0 w)(K:KT):=nz f215 1 [] [] [] (zg [0] [t0]) w K
theorem Lf:Kr t0 w k0->Calls ah 215 #[t0] w k0:=cw func215
def zP(t1 t13 t14 t15 w)(N1:JT)(K:KT):=nz f216 43 [N1] [nh 9 [15]] [] (zg [1,13,14,15] [t1,t13,t14,t15]) w K
def DX(t0 w)(K:KT):=nz f216 1 [] [(9,[15],λs v j w f=>zP (s 1) (s 13) (s 14) (vg v 0) w (f 0) K)] [] (zg [0] [t0]) w K
theorem GF:DX t0 w k0->Calls ah 216 #[t0] w k0:=cz [] [(4,[15])] func216
def HC(t0 w)(K:KT):=nz f213 1 [] [] [] (zg [0] [t0]) w K
theorem Jy:HC t0 w k0->Calls ah 213 #[t0] w k0:=cw func213
def Gr(t0 w)(K:KT):=nz f214 1 [] [] [] (zg [0] [t0]) w K
theorem IV:Gr t0 w k0->Calls ah 214 #[t0] w k0:=cw func214
def vJ(t2 t4 t13 w)(K:KT):=nz f212 509 [] [] [] (zg [2,4,13] [t2,t4,t13]) w K
def vE(t2 t4 t8 w)(K:KT):=nz f212 125 [] [(20,[13],λs v j w f=>vJ (s 2) (s 4) (vg v 0) w K)] [] (zg [2,4,8] [t2,t4,t8]) w K
def HZ(t0 w)(K:KT):=nz f212 1 [] [(14,[8],λs v j w f=>vE (s 2) (s 4) (vg v 0) w K)] [] (zg [0] [t0]) w K
theorem Jv:HZ t0 w k0->Calls ah 212 #[t0] w k0:=cz [(7,[8]),(10,[13])] [] func212
def HI(t0 t1 w)(K:KT):=nz f211 1 [] [] [] (zg [0,1] [t0,t1]) w K
theorem Kq:HI t0 t1 w k0->Calls ah 211 #[t0,t1] w k0:=cw func211
def rT(t1 t105 t106 t107 w)(N1:JT)(K:KT):=nz f153 1535 [N1] [nh 19 [107]] [] (zg [1,105,106,107] [t1,t105,t106,t107]) w K
def Gu(t0 t1 w)(K:KT):=nz f153 1 [] [(19,[107],λs v j w f=>rT (s 1) (s 105) (s 106) (vg v 0) w (f 0) K)] [] (zg [0,1] [t0,t1]) w K
theorem IA:Gu t0 t1 w k0->Calls ah 153 #[t0,t1] w k0:=cz [] [(9,[107])] func153
def BD(t0 w)(K:KT):=nz f152 1 [] [] [] (zg [0] [t0]) w K
theorem FF:BD t0 w k0->Calls ah 152 #[t0] w k0:=cw func152
def jW(c r w)(K:KT):=
 eqx .eql 20 (.tmp 4) (.const .nilIface) r .nilIface w K λd w=>IfX d (K (.returned (.tuple #[])) w) (dx (mTA r 20 223 av) w K λa w=>exx a 1 w K λe w=>exx a 0 w K λf w=>IfX e (alx 223 w K λb w=>stx 223 b f w K λ_ w=>fax 223 b 0 w K λg w=>ldx 30 g w K λh w=>stx 30 c h w K λ_ w=>K (.returned (.tuple #[])) w) (dx (HX r) w K λ_ w=>K (.returned (.tuple #[])) w))
theorem Ev (t0 r:aq)(w:ao)(K:Ending->ao->Prop):wpX ah 12 [] [] aw (aaU (DW f210)) (topD ah [] K) (upd (mP [t0]) 4 r) [] w=jW t0 r w K:=krx
theorem pG (h:jW t0 (yX u) w (λe w=>R e (Ba u) w)):CallsD ah 210 #[t0] u w R:=
 vA func210 rfl rfl rfl rfl rfl rfl rfl rfl (Eq.mpr (Ev t0 (yX u) w _) h)
def mQ (a:Deferred)(b:aq)(K:Ending->ao->Prop):=pd ah [.cell b 30] K [a]
def Dy(b w)(K:KT):=
 alx 30 w K λa w=>dx (Ub (.func 210) #[] #[a]) w K λc w=>DfrX (dfrV c #[]) (λd1=>DoX ah (gC b #[]) w (mQ d1 a K) λd w=>DoX ah (aV 30 a (iN 0)) w (mQ d1 a K) λ_ w=>D6 ah [.cell a 30] K [d1] .returning w)
theorem GM:Dy t0 w k0->Calls ah 151 #[t0] w k0:=cw func151
def F9(t0 w)(K:KT):=nz f86 1 [] [] [] (zg [0] [t0]) w K
theorem Ip:F9 t0 w k0->Calls ah 86 #[t0] w k0:=cw func86
end
section
open Eng Go.RowKit
 attribute [local congr] Ez
theorem sZ (n a b:Int)(w:ao):Ret ah 254 #[ad n,ad a,ad b] w (λv w'=>v=.bool (ai (a<=n)&&ai (n<=b))∧w=w'):=by
 refine aL λK c=>yL ?_;unfold pR nz;simp +contextual only[rs,gs];exact c _ _ ⟨rfl,rfl⟩
theorem Qm (n a b:Int)(w:ao):Ret ah 255 #[ad n,ad a,ad b] w (λv w'=>v=.bool (ai (a<=n)&&ai (n<=b))∧w=w'):=by
 refine aL λK c=>Cv ?_;unfold uS nz;simp +contextual only[rs,gs];exact c _ _ ⟨rfl,rfl⟩
theorem YN {p:UInt8->Bool}:∀(s:List UInt8),s.takeWhile p=s->∀x∈s,p x=av
|[],_,x,b=>by cases b
|a::s,h,x,b=>by
  rw[aAc] at h;split at h
  ·rename_i c
   injection h with _ h
   rcases atL.1 b with rfl|b
   ·exact c
   ·exact YN s h x b
  ·cases h
theorem Xe {p:UInt8->Bool}:∀(s:List UInt8) {a:UInt8} {t:List UInt8},s.dropWhile p=a::t->p a=au
|[],_,_,h=>by cases h
|b::s,a,t,h=>by
  rw[List.dropWhile_cons] at h;split at h
  ·exact Xe s h
  ·rename_i c
   injection h with h _
   subst h;simpa using c
theorem Sr (s:List UInt8)(w:ao):Ret ah 215 #[ae s] w (λv w'=>v=.bool (Vl.name s)∧w=w'):=by
 refine aL λK c=>Lf ?_;unfold Kr nz;rw[cZ atB,Zs];by_cases h:(s.length:Int)<=127
 ·have hi:∀{K':VWP},K' (ad (Lib.indexByte s 0)) w->dZ ah 224 #[ae s,.int .u8 0] w (pk K) K':=λd=>qE (EM s 0 w) d;simp only[h,asX,rs];refine hi ?_;simp only[rs];refine c _ _ ⟨?_,rfl⟩;rw[Vl.name,atA (show s.length<=127 by omega),axV]
  congr 1
  rw[decide_eq_decide];rcases Tz 0 s with ⟨b,e,f⟩|⟨i,b,a,f,g⟩
  ·rw[b];refine⟨λ_ hm=>?_,λ_=>by decide⟩;have:=YN s e 0 hm;simp at this
  ·rw[b];refine⟨λh=>by omega,λhm=>absurd ?_ hm⟩;have hd:s.drop i=s[i]::s.drop (i+1):=auL a;have j:s[i]=0:=by
    have:=Xe s (g.trans hd);simpa using this
   exact j▸atP a
 ·simp only[h,asW,rs,nE];refine c _ _ ⟨?_,rfl⟩;rw[Vl.name,asZ (show ¬s.length<=127 by omega)];rfl
theorem Qr (o:Ob)(v:aq)(w:ao)(h:OV (InW w) w v o)(S:o.keys.length<=9223372036854775807) :
  Ret ah 216 #[v] w (λv w'=>v=.bool (Vl.rising o)∧Below w.heap.size w w'):=by
 obtain⟨vk,vc,cs,rfl,s⟩:=h.open;refine aL λK C=>GF ?_;unfold DX nz;refine eI o s.keys.one s.kids.one (Own.start w) λb T f=>?_;have lk:∀{W:ao} {L:List Ent},Own w W L->∀{PK:PKT} {K:VWP},DoX ah (mB .len #[22] 3 #[au] #[vk]) W PK K=K (ad (o.keys.length:Int)) W:=λf=>aZ atN (s.own f).keys.1;have lc:∀{W:ao} {L:List Ent},Own w W L->∀{PK:PKT} {K:VWP},DoX ah (mB .len #[23] 3 #[au] #[vc]) W PK K=K (ad (o.kids.length:Int)) W:=λf=>aZ atO (s.own f).kids.1;simp only[rs,lE,jL,eN f 0 rfl,cX f 0 rfl,lk f,lc f];by_cases hlen:(o.keys.length:Int)≠(o.kids.length:Int)
 ·simp only[atA hlen,i_t];refine C _ _ ⟨?_,f.done⟩;have:¬o.keys.length=o.kids.length:=λe=>hlen (by rw[e]);simp[Vl.rising,this]
 have hle:o.keys.length=o.kids.length:=om
 simp only[asZ hlen,i_f];have P:Vl.rising o=(List.range o.keys.length).all (Vl.Az o):=by simp[Vl.rising,hle]
 rw[P] at C;refine loop (λvs w'=>∃(i:Nat),vs=[ad i]∧i<=o.keys.length∧(List.range i).all (Vl.Az o)=av∧Own w w' [obE b o vk vc]) (λvs _=>o.keys.length - n0 vs) ⟨0,rfl,om,sm,f⟩ ?_;rintro vs w2 ⟨i,rfl,hi,j,f⟩ _;simp only[zP,gd,rs,nz];by_cases t:(i:Int) < (o.keys.length:Int)
 ·have n:i < o.keys.length:=om
  simp only[t,asX,i_t];have l:=s.own f;refine Hx (ae (o.keys[i])) atN krx l.keys.1 om (by rw[atC];exact eW n) λq r=>?_;rw[aR Io r];refine qE (Sr o.keys[i] w2) ?_;obtain⟨Q,u,x,E⟩:=O7 l.kids.1 l.all (show i < o.kids.length by omega);have y:∀{PK:PKT} {K:VWP},DoX ah (aK 3 (af Q u)) w2 PK K=K (ad o.kids[i].k) w2:=aR bZ E;have p:ai (0 < (i:Int))=av->∃(z g:Nat),(∀{PK:PKT} {K:VWP},DoX ah (mIA 22 vk (ad (IntKind.wrap .i64 ((i:Int) - 1)))) w2 PK K=K (af z g) w2) ∧
    (∀{PK:PKT} {K:VWP},DoX ah (aK 9 (af z g)) w2 PK K=K (ae (o.keys.getD (i - 1) [])) w2):=by
   intro h;have h:=atQ h;have M:i - 1 < o.keys.length:=om
   obtain⟨z,g,O,rfl,F⟩:=bU l.keys.1 (show 0 < o.keys.length by omega);refine⟨z,g+(i - 1),?_,?_⟩
   ·intro PK K;rw[aA om om];refine aC ?_;rw[dP atN (show _=ax 1 by kernel_rfl) om om,show ((i:Int) - 1).toNat*1=i - 1 by omega]
   ·intro PK K;rw[atD,atI M];exact aR Io (F _ _ (eW M))
  have G:o.keys.getD i []=o.keys[i]:=by rw[atD,atI n];rfl
  have H:o.kids.getD i (.mk 0 0 0 [] [] [])=o.kids[i]'(om):=by rw[atD,atI om];rfl
  have tail:∀(q:Bool) (N:Prop),q=!(Vl.Az o i)->(Vl.Az o i=av->N)->IfX (.bool q) (K (.returned (.bool au)) w2) N:=by
   intro q N r R;cases m:Vl.Az o i with
  |false=>
    rw[m] at r;subst r;rw[show (!au)=av from rfl,i_t];exact C _ _ ⟨by rw[Gn m n],f.done⟩
  |true=>
    rw[m] at r;subst r;rw[show (!av)=au from rfl,i_f];exact R m
  have A:Vl.Az o i=(Vl.name o.keys[i]&&(ai (i=0)||Vl.less (o.keys.getD (i - 1) []) o.keys[i])&&!(ai (o.k=9)&&ai (o.keys[i]=Vl.qF))&&ai ((o.kids[i]'(om)).k≠0)):=by
   rw[Vl.Az,G,H]
  by_cases B:i=0
  ·have D:ai (0 < (i:Int))=false:=by rw[avL];omega
   simp +contextual only[rs,gs,D,Kk,Wi,E5,aAe,aAf,ayM,eO,jL,sA f 0 rfl,cX f 0 rfl,x,y,nE,p_f];refine tail _ _ ?_ λm=>?_
   ·rw[A,atA B];simp only[Bool.true_or,aAp,Vl.qF,ne_eq,decide_not];generalize Vl.name o.keys[i]=a;generalize ai (o.k=9)=c;generalize ai ((o.kids[i]'(om)).k=0)=d;by_cases hL:o.keys[i]=[76,101,110,103,116,104]<;>simp only[hL,asX,asW]<;>cases a<;>cases c<;>cases d<;>rfl
   ·rw[aA om om];exact aS ⟨i+1,rfl,om,by rw[nC,j,m];rfl,f⟩ (by simp[n0,RowKit.intOf];omega)
  ·have D:ai (0 < (i:Int))=true:=by rw[decide_eq_true_iff];omega
   obtain⟨z,g,I,J⟩:=p D;simp +contextual only[rs,gs,D,Kk,Wi,E5,aAe,aAf,ayM,eO,lE,jL,sA f 0 rfl,eN f 0 rfl,cX f 0 rfl,x,y,I,J,nE];refine tail _ _ ?_ λm=>?_
   ·rw[A,asZ B];simp only[azF,Vl.qF,ne_eq,decide_not];generalize Vl.name o.keys[i]=a;generalize ai (o.k=9)=c;generalize ai ((o.kids[i]'(om)).k=0)=d;show _=!(_&&Op.bytesLess (o.keys.getD (i - 1) []) o.keys[i]&&_&&_);generalize Op.bytesLess (o.keys.getD (i - 1) []) o.keys[i]=e;by_cases hL:o.keys[i]=[76,101,110,103,116,104]<;>simp only[hL,asX,asW]<;>cases a<;>cases c<;>cases d<;>cases e<;>rfl
   ·rw[aA om om];exact aS ⟨i+1,rfl,om,by rw[nC,j,m];rfl,f⟩ (by simp[n0,RowKit.intOf];omega)
 ·simp only[t,asW,i_f];refine C _ _ ⟨?_,f.done⟩;rw[show o.keys.length=i by omega,j]
theorem WM (o:Ob)(v:aq)(w:ao)(h:OV (InW w) w v o):Ret ah 213 #[v] w (λv w'=>v=.bool (Vl.fits o)∧Below w.heap.size w w'):=by
 obtain⟨vk,vc,cs,rfl,l⟩:=h.open;refine aL λK c=>Jy ?_;unfold HC nz;refine eI o l.keys.one l.kids.one (Own.start w) λb f a=>?_;simp only[eO,sA a 0 rfl,rs];by_cases d:o.k=1
 ·simp only[d,asX,i_t,GI,LX a 0 rfl];refine qE (sZ _ _ _ f) (c _ _ ⟨?_,a.done⟩);rw[Vl.fits,asU d,ayD]
 by_cases e:o.k=2
 ·simp only[e,Int.reduceEq,asX,asW,i_t,i_f,GI,LX a 0 rfl];refine qE (sZ _ _ _ f) (c _ _ ⟨?_,a.done⟩);rw[Vl.fits,asT d,asU e,ayD]
 by_cases i:o.k=3
 ·simp only[i,Int.reduceEq,asX,asW,i_t,i_f,GI,LX a 0 rfl];refine qE (sZ _ _ _ f) (c _ _ ⟨?_,a.done⟩);rw[Vl.fits,asT d,asT e,asU i,ayD]
 by_cases j:o.k=8
 ·simp only[j,Int.reduceEq,asX,asW,i_t,i_f,GI,LX a 0 rfl];refine qE (sZ _ _ _ f) ?_;have p:Vl.fits o=(ai (1<=o.n)&&ai (o.n<=8191)&&(ai (0<=o.g)&&ai (o.g<=65535))):=by
   rw[Vl.fits,asT d,asT e,asT i,asU j,ayD,ayD]
  rw[p] at c;cases m:(ai (1<=o.n)&&ai (o.n<=8191)) with
 |false=>
   rw[m] at c;rw[g_ft,g_ft,g_ft,p_f];exact c _ _ ⟨rfl,a.done⟩
 |true=>
   rw[m] at c;rw[NL,Yq,NL,ob_g a 0 rfl,NL];refine qE (Qm _ _ _ f) ?_;rw[p_t];exact c _ _ ⟨rfl,a.done⟩
 simp only[d,e,i,j,asW,i_f];refine c _ _ ⟨?_,a.done⟩;rw[Vl.fits,asT d,asT e,asT i,asT j]
def Ma (o:Ob):Bool:=if o.k=4 then ai (o.s.length<=32767) else if o.k=5 then ai (o.s.length<=127) else ai (o.s.length<=1048576)
theorem Uk (o:Ob)(v:aq)(w:ao)(h:OV (InW w) w v o):Ret ah 214 #[v] w (λv w'=>v=.bool (Ma o)∧Below w.heap.size w w'):=by
 obtain⟨vk,vc,cs,rfl,f⟩:=h.open;refine aL λK e=>IV ?_;unfold Gr nz;refine eI o f.keys.one f.kids.one (Own.start w) λb g a=>?_;simp only[eO,sA a 0 rfl,rs];have hi:∀m:Nat,ai ((o.s.length:Int)<=(m:Int))=ai (o.s.length<=m):=λm=>by rw[decide_eq_decide];omega
 by_cases c:o.k=4
 ·simp only[c,asX,i_t,Dn,Mb a 0 rfl,cZ atB,rs];refine e _ _ ⟨?_,a.done⟩;rw[Ma,asU c,<-hi];rfl
 by_cases d:o.k=5
 ·simp only[d,Int.reduceEq,asX,asW,i_t,i_f,Dn,Mb a 0 rfl,cZ atB,rs];refine e _ _ ⟨?_,a.done⟩;rw[Ma,asT c,asU d,<-hi];rfl
 simp only[c,d,asW,i_f,Dn,Mb a 0 rfl,cZ atB,rs];refine e _ _ ⟨?_,a.done⟩;rw[Ma,asT c,asT d,<-hi];rfl
theorem UC (h:Vl.gB o=av):Ma o=!ai (Vl.long o.k < o.s.length):=by
 have key:∀m:Nat,ai (o.s.length<=m)=!ai (m < o.s.length):=λm=>by
  rw[aAq];simp
 unfold Ma Vl.long;by_cases b:o.k=4
 ·rw[asU b,asT om,asT om,key]
 by_cases a:o.k=5
 ·rw[asT b,asU a,asU a,key]
 by_cases e:o.k=9
 ·rw[asT b,asT a,asT a,asU e,key]
 have f:o.s=[]:=by
  unfold Vl.gB Vl.used at h
  revert h
  split
  ·intro h;cases h
  ·rename_i n g s ks cs he
   intro h;simp only[atZ,axS,auP] at h;have d:s=false:=by
    revert he
    repeat' split
    all_goals (intro he;first|(cases he;done)|skip)
    all_goals (simp only[axC,axH] at he;first|exact he.2.2.1.symm|omega)
   rcases h.1.1.2 with c|c
   ·rw[d] at c;cases c
   ·exact c
 rw[asT b,asT a,asT a,asT e,f];rfl
end
section
open Eng Go.RowKit
 attribute [local congr] Ez
def uC (u:Bool×Bool×Bool×Bool×Bool):List Value:=[.bool u.1,.bool u.2.1,.bool u.2.2.1,.bool u.2.2.2.1,.bool u.2.2.2.2]
def uV (u:Bool×Bool×Bool×Bool×Bool):Value:=.agg (uC u).toArray
def uE (b:Nat)(u:Bool×Bool×Bool×Bool×Bool):Ent:=.cells b (uC u) 225
def u0:Bool×Bool×Bool×Bool×Bool:=(au,au,au,au,au)
theorem aggU:I2 ah 225=ax 5:=krx
theorem szU:(Tryz.prog.info? 225).map (·.size)=ax 5:=krx
theorem alC (u:Bool×Bool×Bool×Bool×Bool):∀v∈uC u,v.oneCell'=true:=by
 intro v a;simp only[uC,atL,avO,or_false] at a;rcases a with rfl|rfl|rfl|rfl|rfl<;>rfl
theorem Vu:eP ah 4=true:=krx
section
variable {w:ao}{PK:PKT}{K:VWP}{S:Nat->Prop}{w0:ao}{L:List Ent}
theorem aqI :DoX ah (mFA 225 (af b 0) 0) w PK K=K (af b 0) w:=aO (show kC ah 225 0=ax 0 by kernel_rfl)
theorem arN :DoX ah (mFA 225 (af b 0) 1) w PK K=K (af b (0+1)) w:=aO (show kC ah 225 1=ax 1 by kernel_rfl)
theorem arM :DoX ah (mFA 225 (af b 0) 2) w PK K=K (af b (0+2)) w:=aO (show kC ah 225 2=ax 2 by kernel_rfl)
theorem arJ :DoX ah (mFA 225 (af b 0) 3) w PK K=K (af b (0+3)) w:=aO (show kC ah 225 3=ax 3 by kernel_rfl)
theorem asM :DoX ah (mFA 225 (af b 0) 4) w PK K=K (af b (0+4)) w:=aO (show kC ah 225 4=ax 4 by kernel_rfl)
theorem anW (i:Nat){u:Bool×Bool×Bool×Bool×Bool}(a:Bool×Bool×Bool×Bool×Bool)(c:cH S w0 w L)(hi:L[i]?=ax (uE b u))(k:∀w',cH S w0 w' (L.set i (uE b a))->K undef w') :
  DoX ah (aV 225 (af b 0) (uV a)) w PK K:=jK i c hi (new:=uC a) szU (alC a) rfl k
end
def afR (k:Int):Value:=.tuple #[uV ((Vl.used k).getD u0),.bool (Vl.used k).isSome]
theorem YI (k:Int)(w:ao):Ret ah 212 #[ad k] w (λv w'=>v=afR k∧Below w.heap.size w w'):=by
 refine aL λK s=>Jv ?_;unfold HZ nz;refine bI (λb=>af b 0) (uC u0) 225 (λ_=>by kernel_rfl) (Own.start w) λb a f=>?_;have fin:∀(u:Bool×Bool×Bool×Bool×Bool) (ok:Bool),Vl.used k=(if ok then ax u else aw)->(ok=au->u=u0)->DoX ah (aV 225 (af b 0) (uV u)) a (pk K) λ_ w=>
   A2 ah [.cell (af b 0) 225,.val (.bool ok)] w K:=by
  intro u ok hu t;refine anW 0 u f rfl λw2 f=>?_;refine F3 (bJ (f.agg 0 rfl aggU)) K5 (s _ _ ⟨?_,f.done⟩);rw[afR,hu];cases ok with
 |true=>rfl
 |false=>rw[t rfl];rfl
 have r:∀{PK:PKT} {K:VWP},DoX ah (aW 225 #[]) a PK K=K (uV u0) a:=aC krx;have x:∀{PK:PKT} {K:VWP},DoX ah (aW 225 #[(0,.bool av)]) a PK K=K (uV (av,au,au,au,au)) a:=aC krx;have y:∀{PK:PKT} {K:VWP},DoX ah (aW 225 #[(2,.bool av)]) a PK K=K (uV (au,au,av,au,au)) a:=aC krx;have z:∀{PK:PKT} {K:VWP},DoX ah (aW 225 #[(4,.bool av)]) a PK K=K (uV (au,au,au,au,av)) a:=aC krx;have A:∀{PK:PKT} {K:VWP},DoX ah (aW 225 #[(3,.bool av),(4,.bool av)]) a PK K=K (uV (au,au,au,av,av)) a:=aC krx;have B:∀{PK:PKT} {K:VWP},DoX ah (aW 225 #[(0,.bool av),(1,.bool av)]) a PK K=K (uV (av,av,au,au,au)) a:=aC krx;have C:∀{PK:PKT} {K:VWP},DoX ah (aW 225 #[(2,.bool av),(3,.bool av),(4,.bool av)]) a PK K=K (uV (au,au,av,av,av)) a:=aC krx;simp only[rs];by_cases k0:k=0
 ·simp only[k0,asX,i_t,r];exact fin _ av (by simp[Vl.used,k0,u0]) sm
 simp only[k0,asW,i_f];refine join λJ e=>?_;by_cases c:k=1∨k=2∨k=3
 ·have:J [.bool av] a:=by
   refine e _ _ λ_=>?_;simp only[vE,gd,i_t,x,nz];exact fin _ av (by simp[Vl.used,k0,c]) sm
  by_cases g:k=1
  ·simp only[g,asX,i_t];exact this
  by_cases i:k=2
  ·simp only[i,Int.reduceEq,asX,asW,i_t,i_f];exact this
  have j:k=3:=om
  simp only[j,Int.reduceEq,asX,asW,i_t,i_f];exact this
 have g:¬k=1:=λh=>c (.inl h);have i:¬k=2:=λh=>c (.inr (.inl h));have j:¬k=3:=λh=>c (.inr (.inr h));simp only[g,i,j,asW,i_f];refine e _ _ λ_=>?_;clear e;simp only[vE,gd,i_f,rs,nz];refine join λJ e=>?_;by_cases d:k=4∨k=5
 ·have:J [.bool av] a:=by
   refine e _ _ λ_=>?_;simp only[vJ,gd,i_t,y,nz];exact fin _ av (by simp[Vl.used,k0,g,i,j,d]) sm
  by_cases p:k=4
  ·simp only[p,asX,i_t];exact this
  have q:k=5:=om
  simp only[q,Int.reduceEq,asX,asW,i_t,i_f];exact this
 have p:¬k=4:=λh=>d (.inl h);have q:¬k=5:=λh=>d (.inr h);simp only[p,q,asW,i_f];refine e _ _ λ_=>?_;clear e;simp only[vJ,gd,i_f,rs,nz];by_cases l:k=6
 ·simp only[l,asX,i_t,z];exact fin _ av (by simp[Vl.used,l]) sm
 by_cases m:k=7
 ·simp only[m,Int.reduceEq,asX,asW,i_t,i_f,A];exact fin _ av (by simp[Vl.used,m]) sm
 by_cases n:k=8
 ·simp only[n,Int.reduceEq,asX,asW,i_t,i_f,B];exact fin _ av (by simp[Vl.used,n]) sm
 by_cases o:k=9
 ·simp only[o,Int.reduceEq,asX,asW,i_t,i_f,C];exact fin _ av (by simp[Vl.used,o]) sm
 simp only[l,m,n,o,asW,i_f,r];exact fin _ au (by simp[Vl.used,k0,c,d,l,m,n,o]) sm
theorem V8 {k:Int}{n g s ks cs:Bool}(h:Vl.used k=ax (n,g,s,ks,cs)):ks=ai (k=7∨k=9):=by
 revert h
 unfold Vl.used
 repeat' split
 all_goals (intro h;first|(cases h;done)|skip)
 all_goals simp only[axC,axH] at h
 all_goals rw[<-h.2.2.2.1]
 all_goals symm
 all_goals first|(rw[avL];omega)|(rw[decide_eq_true_iff];omega)
abbrev badE (e:Int):PanicEntry:={ v:=.iface 223 (.agg #[ad e]),recovered:=au }
theorem D2 {r:Bool}{e:Int}(h:q=r)(b:r=av->K (.tuple #[]) w)(a:r=au->PK [badE e] w):dZ ah 211 #[.bool q,ad e] w PK K:=by
 subst h;refine fY (Kq (k0:=λe' w'=>(q=av->e'=.returned (.tuple #[])∧w'=w)∧(q=au->e'=.panicked [badE e]∧w'=w)) ?_) ?_
 ·unfold HI nz;cases q with
 |true=>
   rw[QT,show (!av)=au from rfl,i_f];exact⟨λ_=>⟨rfl,rfl⟩,λh=>by cases h⟩
 |false=>
   rw[QT,show (!au)=av from rfl,i_t];have c:∀{PK:PKT} {K:VWP},DoX ah (aW 223 #[(0,ad e)]) w PK K=K (.agg #[ad e]) w:=aC krx;rw[c,Np (show nD ah 223=av by kernel_rfl),Jo];exact⟨λh=>(by cases h),λ_=>⟨rfl,rfl⟩⟩
 ·rintro e' w' ⟨d,f⟩;cases q with
 |true=>obtain⟨rfl,rfl⟩:=d rfl;exact b rfl
 |false=>obtain⟨rfl,rfl⟩:=f rfl;exact a rfl
end
section
open Eng Go.RowKit
 attribute [local congr] Ez
theorem Vf (n:Nat):∀(o:Ob) (v:aq) (d:Nat) (w:ao) (K:Ending->ao->Prop),o.wt<=n->OV (InW w) w v o->o.wt<=4611686018427387904->1<=d->d<=1000 ->
  (Vl.check d o=0->∀w',Below w.heap.size w w'->K (.returned (.tuple #[])) w')->(Vl.check d o≠0->∀w',Below w.heap.size w w'->K (.panicked [badE (Vl.check d o)]) w') ->
  Calls ah 153 #[v,ad (d:Int)] w K:=by
 induction n with
|zero=>intro o v d w K h;have:=o.Jx;omega
|succ n ih=>
 intro o v d w K hn a1 hb b3 hd t c;obtain⟨vk,vc,cs,rfl,F⟩:=a1.open;refine IA ?_;unfold Gu nz;refine eI o F.keys.one F.kids.one (Own.start w) λb w1 a=>?_;have out:∀(e:Int) (W:ao) (L:List Ent),Own w W L->Vl.why d o=e->e≠0->(pk K) [badE e] W:=by
  intro e W L a h1 h2;have h3:Vl.check d o=e:=by rw[Ws (by rw[h1];exact h2),h1]
  rw[h3] at c;exact c h2 W a.done
 rw[Zs];refine D2 (r:=ai (d<=24)) (by rw[decide_eq_decide];omega) (λH=>?_) λH=>out 7 w1 _ a (by rw[Vl.why,asU (by have:=auS H;omega)]) dc;have f:¬24 < d:=by have:=atQ H;omega
 rw[eO,sA a 0 rfl];refine Ct (YI o.k w1) rfl a λw2 a=>?_;simp only[afR,ex];refine bI (λb=>af b 0) (uC u0) 225 (λ_=>by kernel_rfl) a λC w3 a=>?_;refine anW 0 ((Vl.used o.k).getD u0) a rfl λq a=>?_;have a:Own w q [uE C ((Vl.used o.k).getD u0),obE b o vk vc]:=a;have x:(Vl.gB o=au∨(o.k=9∧1 < d))->(pk K) [badE 10] q:=λh=>out 10 q _ a (by rw[Vl.why,asT f,asU h]) dc;have lk:∀{W:ao} {L:List Ent},Own w W L->∀{PK:PKT} {K:VWP},DoX ah (mB .len #[22] 3 #[au] #[vk]) W PK K=K (ad (o.keys.length:Int)) W:=λa=>aZ atN (F.own a).keys.1;have lc:∀{W:ao} {L:List Ent},Own w W L->∀{PK:PKT} {K:VWP},DoX ah (mB .len #[23] 3 #[au] #[vc]) W PK K=K (ad (o.kids.length:Int)) W:=λa=>aZ atO (F.own a).kids.1;cases hu:Vl.used o.k with
|none=>
  have R:=x (.inl (by rw[Vl.gB,hu]));simp only[ayT,rs,nE];exact D2 (r:=au) rfl (λh=>by cases h) λ_=>R
|some u=>
 obtain⟨un,Q,us,j,p⟩:=u;rw[hu,awW] at a;have a6:Vl.gB o=((un||decide (o.n=0))&&(Q||decide (o.g=0))&&(us||decide (o.s=[]))&&(j||decide (o.keys=[]))&&(p||decide (o.kids.length=0))):=by rw[Vl.gB,hu]
 have l0:∀{PK:PKT} {K:VWP},DoX ah (aK 4 (af C 0)) q PK K=K (.bool un) q:=aR Vu (a.cell 0 rfl 0 rfl);have l1:∀{PK:PKT} {K:VWP},DoX ah (aK 4 (af C (0+1))) q PK K=K (.bool Q) q:=aR Vu (a.cell 0 rfl 1 rfl);have l2:∀{PK:PKT} {K:VWP},DoX ah (aK 4 (af C (0+2))) q PK K=K (.bool us) q:=aR Vu (a.cell 0 rfl 2 rfl);have l3:∀{W:ao} {L:List Ent},Own w W (uE C (un,Q,us,j,p)::L)->∀{PK:PKT} {K:VWP},DoX ah (aK 4 (af C (0+3))) W PK K=K (.bool j) W:=λa=>aR Vu (a.cell 0 rfl 3 rfl);have l4:∀{PK:PKT} {K:VWP},DoX ah (aK 4 (af C (0+4))) q PK K=K (.bool p) q:=aR Vu (a.cell 0 rfl 4 rfl);simp +contextual only[azM,rs,gs,Kk,Wi,E5,aAe,aAf,ayM,aqI,arN,arM,arJ,asM,l0,l1,l2,l3 a,l4,eO,GI,Yq,Dn,lE,jL,sA a 1 rfl,LX a 1 rfl,ob_g a 1 rfl,Mb a 1 rfl,eN a 1 rfl,cX a 1 rfl,lk a,lc a,T3];refine D2 (r:=Vl.gB o&&!(ai (o.k=9)&&ai (1 < d))) ?_ (λS=>?_) λS=>?_
 ·rw[a6,ahS o.keys,akH o.kids]
  congr 1
  by_cases h9:o.k=9
  ·simp only[h9,ne_eq,not_true,asW,ayM,asX,axV];rw[aAq];simp;omega
  ·simp only[h9,ne_eq,avD,asX,Bool.or_true,asW,azN,auN]
 rotate_left
 ·refine x ?_;rw[ayQ] at S;rcases S with h|h
  ·exact .inl h
  ·right;have:(ai (o.k=9)&&ai (1 < d))=true:=by simpa using h
   rw[atZ] at this;exact⟨atQ this.1,atQ this.2⟩
 rw[atZ] at S;obtain⟨T,U⟩:=S;have y:¬(Vl.gB o=au∨(o.k=9∧1 < d)):=by
  rintro (h|⟨h1,h2⟩)
  ·rw[T] at h;cases h
  ·rw[atA h1,atA h2] at U;cases U
 rw[iV a 1 rfl];refine Ct (WM o _ q (F.in_ a).ov) rfl a λw5 a=>?_;refine D2 (r:=Vl.fits o) rfl (λI=>?_) λI=>out 2 w5 _ a (by rw[Vl.why,asT f,asT y,asU I]) dc;have m:¬Vl.fits o=false:=by rw[I];decide
 rw[iV a 1 rfl];refine Ct (Uk o _ w5 (F.in_ a).ov) rfl a λD a=>?_;refine D2 (r:=!ai (Vl.long o.k < o.s.length)) (UC T) (λJ=>?_) λJ=>out 5 D _ a (by rw[Vl.why,asT f,asT y,asT m,asU (by simpa using J)]) dc;have z:¬Vl.long o.k < o.s.length:=by simpa using J
 rw[cX a 1 rfl,lc a,Zs];refine D2 (r:=ai (o.kids.length<=8191)) (by rw[decide_eq_decide];omega) (λhm=>?_) λhm=>out 6 D _ a (by rw[Vl.why,asT f,asT y,asT m,asT z,asU (by have:=auS hm;omega)]) dc;have V:¬8191 < o.kids.length:=by have:=atQ hm;omega
 rw[sA a 1 rfl,abD];have M:=V8 hu
 -- behind a7 form: a7 kids
 have rest:∀(W:ao),Vl.form o=av->Own w W [uE C (un,Q,us,j,p),obE b o vk vc] ->
   DoX ah (aK 23 (af b (0+5))) W (pk K) λt105 w=>
   DoX ah (mB .len #[23] 3 #[au] #[t105]) w (pk K) λt106 w=>
   Ax [(ad 0)] w (λa8 w N1=>∀_:Sg,rT (ad (d:Int)) t105 t106 (a8.getD 0 undef) w N1 K):=by
  intro W N a;have b0:Vl.why d o=0:=by rw[Vl.why,asT f,asT y,asT m,asT z,asT V,asT (by rw[N];decide)]
  have b1:Vl.check d o=Vl.nN (d+1) o.kids:=by rw[Vl.E3,asT (by simp[b0])]
  rw[b1] at t c;rw[cX a 1 rfl,lc a];refine loop (λvs w'=>∃(i:Nat),vs=[ad i]∧i<=o.kids.length∧Vl.nN (d+1) o.kids=Vl.nN (d+1) (o.kids.drop i)∧Own w w' [uE C (un,Q,us,j,p),obE b o vk vc]) (λvs _=>o.kids.length - n0 vs) ⟨0,rfl,om,rfl,a⟩ ?_;rintro vs D ⟨i,rfl,hi,hT,a⟩ _;rw[hT] at t c;simp only[rT,gd,rs,nz];by_cases X:(i:Int) < (o.kids.length:Int)
  ·have O:i < o.kids.length:=om
   simp only[X,asX,i_t];rw[KS _ _ _ O] at t c hT;have Y:=F.own a;refine aiG Y.kids.1 Y.all O λv hv=>?_;obtain⟨vk',vc',b5,rfl,A⟩:=hv.open;have b2:=a;refine dM a λb7 w7 a=>?_;refine aP 0 A.keys.one A.kids.one a rfl λw8 a=>?_;have a:Own w w8 [obE b7 o.kids[i] vk' vc',uE C (un,Q,us,j,p),obE b o vk vc]:=a;rw[iV a 0 rfl,aA om om,show (d:Int)+1=((d+1:Nat):Int) by omega];have b6:=HE O;refine fY (ih o.kids[i] _ (d+1) w8 _ om (A.later b2 a).ov om om om (λE w9 P=>?_) (λE w9 P=>?_)) (λ_ _ h=>h)
   ·have a:=a.grow P;rw[asT (by simp[E])] at hT;simp only[oV,rs];rw[aA om om];exact aS ⟨i+1,rfl,om,hT,a.tail⟩ (by simp[n0,RowKit.intOf];omega)
   ·rw[asU E] at c;exact c E w9 (a.grow P).done
  ·simp only[X,asW,i_f];rw[ayR om,Vl.nN] at t;exact t rfl D a.done
 have G:∀(W:ao) (L:List Ent),Own w W L->Vl.form o=au->(pk K) [badE 3] W:=λW L a h=>out 3 W _ a (by rw[Vl.why,asT f,asT y,asT m,asT z,asT V,asU h]) dc;by_cases k5:o.k=5
 ·have B:¬(o.k=7∨o.k=9):=om
  have l:j=false:=by rw[M,asZ B]
  have hf:Vl.form o=Vl.name o.s:=by simp[Vl.form,k5]
  rw[show ai (o.k≠5)=au by rw[avL];omega,g_ff,Mb a 1 rfl,g_ff];refine qE (Sr o.s D) ?_;rw[p_f];cases Z:Vl.name o.s with
 |false=>
   rw[g_ft,g_ft,show sel (kR (Value.bool au) av) undef=undef from rfl,nE,nE,g_ft,p_f];exact D2 (r:=au) rfl (λh=>by cases h) λ_=>G D _ a (by rw[hf,Z])
 |true=>
   rw[NL,l3 a,l,NL,QT,show (!au)=av from rfl,show sel (kR (Value.bool av) av) (Value.bool av)=.bool av from rfl,g_tf,g_tf,NL,p_t,p_t];exact D2 (r:=av) rfl (λ_=>rest D (by rw[hf,Z]) a) λh=>by cases h
 ·rw[show ai (o.k≠5)=av by rw[decide_eq_true_iff];exact k5,g_tf,g_tf,p_t,NL,l3 a,NL,QT];cases l:j with
 |false=>
   have B:¬(o.k=7∨o.k=9):=by rw[M,avL] at l;exact l
   rw[show (!au)=av from rfl,show sel (kR (Value.bool av) av) (Value.bool av)=.bool av from rfl,g_tf,g_tf,NL,p_t,p_t];rw[l] at a rest;exact D2 (r:=av) rfl (λ_=>rest D (by simp[Vl.form,k5,B]) a) λh=>by cases h
 |true=>
   have B:o.k=7∨o.k=9:=by rw[M,decide_eq_true_iff] at l;exact l
   have hf:Vl.form o=Vl.rising o:=by simp[Vl.form,k5,B]
   rw[show (!av)=au from rfl,show sel (kR (Value.bool av) av) (Value.bool au)=.bool au from rfl,g_ff,iV a 1 rfl,g_ff];refine Ct (Qr o _ D (F.in_ a).ov (by have:=RG (o:=o);omega)) rfl a λw7 a=>?_;rw[NL,p_f,p_t];rw[l] at a rest;exact D2 (r:=Vl.form o) hf.symm (λN=>rest w7 N a) λh=>G w7 _ a h
theorem HL:bY ah 210=true:=krx
theorem qH {rs:List RV}{K:Ending->ao->Prop}{a:Array aq}(hu:u≠.run)(hp:bY ah f=av)
  (h:CallsD ah f (args++a) u w λ
   |.returned _,b,w'=>D6 ah rs K ds (settle b) w'
   |.panicked chain,b,w'=>D6 ah rs K ds (raised b chain) w'
   |.outgrown,_,_=>False):D6 ah rs K ({ target:=.fn (.func f) a,args:=args }::ds) u w:=
 ⟨hu,.func f,a,f,args++a,rfl,by simpa[invoke] using jU hp _ w,h⟩
theorem Xs:bY ah 152=true:=krx
abbrev Ig:eP ah 30=true:=krx
theorem wV (o:Ob)(v:aq)(w:ao)(h:OV (InW w) w v o)(j:o.wt<=4611686018427387904):Ret ah 86 #[v] w (λv w'=>v=ad (Vl.check 1 o)∧Below w.heap.size w w'):=by
 refine aL λK k=>Ip ?_;obtain⟨vk,vc,cs,rfl,f⟩:=h.open;unfold F9 nz;refine eI o f.keys.one f.kids.one (Own.start w) λb l c=>?_;rw[AQ];refine fY (GM (k0:=λe w'=>e=.returned (ad (Vl.check 1 o))∧Below w.heap.size w w') ?_) ?_
 rotate_left
 ·rintro e w' ⟨rfl,a⟩;exact k _ _ ⟨rfl,a⟩
 unfold Dy iN dx alx;refine bI (λb=>af b 0) [ad 0] 30 (λ_=>by kernel_rfl) c λm w2 c=>?_;rw[AQ];refine⟨_,rfl,?_⟩;refine IC Xs ?_;show dZ ah _ #[af b 0] _ _ _;refine fY (FF (k0:=λe w'=>(Vl.check 1 o=0->e=.returned (.tuple #[])∧Below w2.heap.size w2 w')∧(Vl.check 1 o≠0->e=.panicked [badE (Vl.check 1 o)]∧Below w2.heap.size w2 w')) ?_) ?_
 ·unfold BD nz;rw[iV c 1 rfl];refine fY (Vf o.wt o _ 1 w2 (λe w'=>(Vl.check 1 o=0->e=.returned (.tuple #[])∧Below w2.heap.size w2 w')∧(Vl.check 1 o≠0->e=.panicked [badE (Vl.check 1 o)]∧Below w2.heap.size w2 w')) (atE _) (f.in_ c).ov j om om
   (λd w' a=>⟨λ_=>⟨rfl,a⟩,λh=>absurd d h⟩) (λd w' a=>⟨λh=>absurd h d,λ_=>⟨rfl,a⟩⟩)) ?_
  rintro e w' ⟨g,i⟩;by_cases d:Vl.check 1 o=0
  ·obtain⟨rfl,a⟩:=g d;exact⟨λ_=>⟨rfl,a⟩,λh=>absurd d h⟩
  ·obtain⟨rfl,a⟩:=i d;exact⟨λh=>absurd h d,λ_=>⟨rfl,a⟩⟩
 rintro e w' ⟨g,i⟩;by_cases d:Vl.check 1 o=0
 ·obtain⟨rfl,a⟩:=g d;simp only[oV];have c:=c.grow a;refine aN 0 c rfl krx rfl sm λn c=>?_;refine qH sm HL (pG ?_);simp only[jW,yX,Ba,Eng.T3 axM,rs,dx,ldx,fax,exx,stx,eqx,alx];refine P6 Ig (c.cell 0 rfl 0 rfl) (And.intro ?_ c.done);rw[d]
 ·obtain⟨rfl,a⟩:=i d;simp only[oV,mQ,pd];have c:=c.grow a;refine qH sm HL (pG ?_);simp only[jW,yX,Ba,Eng.WH axM,rs,Zi (show nD ah 223=av by kernel_rfl),
   kP (show [Value.agg #[ad (Vl.check 1 o)],Value.bool av][1]?=ax (Value.bool av) from rfl),kP (show [Value.agg #[ad (Vl.check 1 o)],Value.bool av][0]?=ax (Value.agg #[ad (Vl.check 1 o)]) from rfl),dx,ldx,fax,exx,stx,eqx,alx]
  refine bI (λb=>af b 0) [ad 0] 223 (λ_=>by kernel_rfl) c λp q c=>?_;refine jK 0 c rfl (new:=[ad (Vl.check 1 o)]) (show (Tryz.prog.info? 223).map (·.size)=ax 1 by kernel_rfl) (by simp;rfl) rfl λr c=>?_;rw[aO (show kC ah 223 0=ax 0 by kernel_rfl),aR Ig (c.cell 0 rfl 0 rfl)];refine aN 1 c rfl krx rfl sm λs c=>?_;exact P6 Ig (c.cell 1 rfl 0 rfl) (And.intro rfl c.done)
end
section
open Eng Go.RowKit
theorem Va (x:List UInt8)(w:ao):Ret ah 256 #[ae x] w (λv w'=>v=.bool au∧w=w'):=by
 refine aL λK a=>BZ ?_;unfold tS nz;rw[Rb];exact a _ _ ⟨sm,rfl⟩
theorem Ur (x:List UInt8)(w:ao):Ret ah 218 #[ae x] w (λv w'=>v=.bool au∧w=w'):=by
 refine aL λK a=>wJ ?_;unfold nU nz;rw[Rb];exact a _ _ ⟨sm,rfl⟩
theorem WL (x y:List UInt8)(w:ao):Ret ah 217 #[ae x,ae y] w (λv w'=>v=.bool (Vl.less x y)∧w=w'):=by
 refine aL λK a=>Dl ?_;unfold wY nz;refine qE (Va x w) ?_;simp only[rs,ahQ];exact a _ _ ⟨rfl,rfl⟩
theorem shr1 (b:0<=a)(c:a<=4611686018427387904):Int.fdiv (IntKind.wrap .u64 a) (2 ^ (min (1:Int).toNat IntKind.u64.bits))=a / 2:=by
 rw[Vr b om];show Int.fdiv a 2=a / 2;rw[aAI _ om]
theorem K6 (va:aq)(l:List (List UInt8))(x:List UInt8)(w:ao)(g:Sl w va 1 l.length (bF l))(s:Vl.NX l)(D:l.length<=1099511627776) :
  Ret ah 154 #[va,ae x] w (λv w'=>v=.tuple #[ad (Vl.place l x:Nat),.bool (Vl.hit l x)]∧w=w'):=by
 refine aL λK o=>jB ?_;unfold eX nz;rw[aZ atN g];refine loop (λvs w'=>∃(i j:Nat),vs=[ad i,ad j]∧i<=j∧j<=l.length∧(∀m (h:m < l.length),m < i->Vl.less l[m] x=av)∧(∀m (h:m < l.length),j<=m->Vl.less l[m] x=au)∧w=w') (λvs _=>n1 vs - n0 vs)
  ⟨0,l.length,rfl,om,om,λm _ h=>by omega,λm y z=>by omega,rfl⟩ ?_
 rintro vs w2 ⟨i,j,rfl,A,B,b,c,rfl⟩ _;simp only[eM,gd,rs,nz];by_cases d:(i:Int) < (j:Int)
 ·simp only[d,asX,i_t];rw[aA om om,Vw (show (Tryz.prog.underlying 3).isSome=av by kernel_rfl) azH,EB om,shr1 om om,
   Vw (show (Tryz.prog.underlying 84).isSome=av by kernel_rfl) auQ,aA om om]
  obtain⟨h,C⟩:∃h:Nat,((i:Int)+(j:Int)) / 2=(h:Int):=⟨(i+j) / 2,om⟩;rw[C];have y:i<=h:=om
  have z:h < j:=om
  have t:h < l.length:=om
  refine Hx (ae (l[h])) atN krx g om (by rw[atC];exact eW t) λq e=>?_;rw[aR T5 e];refine qE (WL l[h] x w) ?_;cases k:Vl.less l[h] x with
 |true=>
   simp only[rs];rw[aA om om];refine aS ⟨h+1,j,rfl,om,om,λm hm p=>?_,c,rfl⟩ (by simp[n0,n1,RowKit.intOf];omega);rcases auC m h with f|f
   ·exact Vl.qI (Vl.uR s f t) k
   ·have:m=h:=om
    subst this;exact k
 |false=>
   simp only[rs];refine aS ⟨i,h,rfl,om,om,b,λm hm p=>?_,rfl⟩ (by simp[n0,n1,RowKit.intOf];omega);rcases auC h m with f|f
   ·cases r:Vl.less l[m] x with
   |false=>rfl
   |true=>have:=Vl.qI (Vl.uR s f hm) r;rw[k] at this;cases this
   ·have:m=h:=om
    subst this;exact k
 ·have he:i=j:=om
  subst he;simp only[d,asW,i_f];have hp:Vl.place l x=i:=Vl.NP B b (λh=>c i h (atE _));by_cases u:(i:Int) < (l.length:Int)
  ·have a:i < l.length:=om
   simp only[u,asX,rs];refine Hx (ae (l[i])) atN krx g om (by rw[atC];exact eW a) λq e=>?_;rw[aR T5 e];simp only[rs];by_cases n:l[i]=x
   ·simp only[n,asX,rs,nE];refine o _ _ ⟨?_,rfl⟩;rw[hp];unfold Vl.hit;rw[hp,atI a,n];simp
   ·simp only[n,asW,rs];refine Hx (ae (l[i])) atN krx g om (by rw[atC];exact eW a) λq e=>?_;rw[aR T5 e];refine qE (Ur l[i] w) ?_;simp only[rs];refine o _ _ ⟨?_,rfl⟩;rw[hp];unfold Vl.hit;rw[hp,atI a];simp[n]
  ·simp only[u,asW,rs,nE];refine o _ _ ⟨?_,rfl⟩;rw[hp];unfold Vl.hit;rw[hp,avJ om];simp
end
section
open Eng
def pJ(t3 t6 t7 t9 t10 w)(K:KT):=nz f150 255 [] [] [] (zg [3,6,7,9,10] [t3,t6,t7,t9,t10]) w K
def tG(t0 t1 t2 w)(K:KT):=nz f150 1 [] [(16,[7],λs v j w f=>pJ (s 3) (s 6) (vg v 0) (s 9) (s 10) w K)] [] (zg [0,1,2] [t0,t1,t2]) w K
theorem Cd:tG t0 t1 t2 w k0->Calls ah 150 #[t0,t1,t2] w k0:=cz [(8,[7])] [] func150
def mD(t0 t1 t6 w)(N1:JT)(K:KT):=nz f209 19 [N1] [nh 5 [6]] [(4,15)] (zg [0,1,6] [t0,t1,t6]) w K
def pD(t0 t1 w)(K:KT):=nz f209 1 [] [(5,[6],λs v j w f=>mD (s 0) (s 1) (vg v 0) w (f 0) K)] [] (zg [0,1] [t0,t1]) w K
theorem xO:pD t0 t1 w k0->Calls ah 209 #[t0,t1] w k0:=cz [] [(2,[6])] func209
def kI(t5 t6 t11 w)(N1:JT)(K:KT):=nz f144 983 [N1] [nh 9 [5,6,11]] [] (zg [5,6,11] [t5,t6,t11]) w K
def kK(t1 t2 t4 t5 t6 t10 t11 w)(N1:JT)(K:KT):=nz f144 87 [N1] [nh 9 [5,6,11],(18,[5,6],λs v j w f=>kI (vg v 0) (vg v 1) (s 11) w (f 0) K)] [] (zg [1,2,4,5,6,10,11] [t1,t2,t4,t5,t6,t10,t11]) w K
def mO(t0 t1 w)(K:KT):=nz f144 1 [] [(9,[5,6,11],λs v j w f=>kK (s 1) (s 2) (s 4) (vg v 0) (vg v 1) (s 10) (vg v 2) w (f 0) K)] [] (zg [0,1] [t0,t1]) w K
theorem vD:mO t0 t1 w k0->Calls ah 144 #[t0,t1] w k0:=cz [(9,[5,6])] [(4,[5,6,11])] func144
def tI(t0 t1 t2 w)(K:KT):=nz f85 1 [] [] [] (zg [0,1,2] [t0,t1,t2]) w K
theorem BX:tI t0 t1 t2 w k0->Calls ah 85 #[t0,t1,t2] w k0:=cw func85
def pX(t0 w)(K:KT):=nz f145 1 [] [] [] (zg [0] [t0]) w K
theorem xY:pX t0 w k0->Calls ah 145 #[t0] w k0:=cw func145
end
section
open Go
theorem Ob.vC:∀os:List Ob,os.length<=Ob.wts os
|[]=>by simp
|o::os=>by
  have:=Ob.vC os;have:1<=o.wt:=by cases o;rw[Ob.wt];omega
  rw[Ob.wts,atW];omega
namespace Wr
end Wr
end
end Go.Proofs.YtlipjfcbjemicaaGreatDoor

namespace Go.Proofs.YtlipjfcbjemicaaGreatDoor
variable{A S:Nat->Prop}{K:VWP}{L:List Eng.Ent}{M N:Eng.Mem}{P:Program}{PK PK2:PKT}{R:Ending->FrameMode->ao->Prop}{a:Int}{args:Array aq}{b cap d f i sz:Nat}{cs xs:List aq}{ds:List Deferred}{e:Eng.Ent}{o:Ob}{os:List Ob}{q want y:Bool}{t0 v v' vc vk:aq}{u:FrameMode}{w w0:ao}{xo yo:Operand}{α:Type}{t0 t1 t2 t3 t4:aq}{k0:Eng.KT}
section
open Eng
def pE(b c d a w)(N1:JT)(K:KT):=
 lnx 9 b w K λe w=>bnx .lss 3 a e w K λf w=>IfX f (nK w (λq=>QDo ah q (mIx 9 b a) λg=>QDo ah q (iA .quo 5 g (.int .u8 16)) λh=>QDo ah q (mIx 9 c h) λi=>QDo ah q (mIx 9 b a) λj=>QDo ah q (iA .rem 5 j (.int .u8 16)) λk=>QDo ah q (mIx 9 c k) λl=>
 ∀w,q w ->
 DoX ah (aT 53 2 #[(0,i),(1,l)]) w (ay 7 (pk K)) λm w=>DoX ah (mB .append #[53,53] 53 #[au,au] #[d,m]) w (ay 7 (pk K)) λn w=>bnx .add 3 a (iN 1) w K λo w=>N1 [n,o] w)) (dx (fZ 53 9 d) w K λp w=>K (.returned p) w)
def uA(t0 w)(K:KT):=nz f132 1 [] [(9,[4,5],λs v j w f=>pE (s 0) (s 3) (vg v 0) (vg v 1) w (f 0) K)] [] (zg [0] [t0]) w K
theorem Co:uA t0 w k0->Calls ah 132 #[t0] w k0:=cz [] [(4,[4,5])] func132
end
section
open Eng Go.RowKit
abbrev Of (v:aq)(l:List UInt8):Ent:=.row 5 1 v l.length (aH l)
theorem adP {l m:List UInt8}{parts:Array (Nat×aq)}{n:Nat}{cs:Array Bool}
  (hm:∀w,(aT 53 n parts).run ah w=.ok (.value (bR w.heap.size 0 m.length m.length)) (w.alloc (.cells (aH m).toArray 5)))
  (c:cH S w0 w (Of v l::L)) (g:l.length+m.length<=140737488355328) (k:∀v' w',cH S w0 w' (Of v' (l++m)::L)->K v' w') :
  DoX ah (aT 53 n parts) w PK λt w=>DoX ah (mB .append #[53,53] 53 cs #[v,t]) w PK2 K:=by
 refine bI (λb=>bR b 0 m.length m.length) (aH m) 5 hm c λh i a=>?_;refine NF 1 atM (show elB ah 5 1 1=av by kernel_rfl) dc a rfl (a.sl 0 rfl 1 m.length m.length (by rw[cS,atY])) (GP _) om om λv' d f=>?_;refine k v' d ?_;have e:Of v' (l++m)=.row 5 1 v' (l.length+m.length) (aH l++aH m):=by
  rw[Of,iU,asY]
 rw[e];exact f.tail
theorem adA {l:List UInt8}(i:Nat)(a:cH S w0 w L)(hi:L[i]?=ax (Of v l)) :
  DoX ah (fZ 53 9 v) w PK K=K (ae l) w:=
 vG (l:=l) atM atS atB (a.ahX i hi)
theorem abH (l:List UInt8)(w:ao)(p:l.length<=1000000):Ret ah 132 #[ae l] w (λv w'=>v=ae (Oc.hex l)∧Below w.heap.size w w'):=by
 refine aL λK j=>Co ?_;unfold uA nz;refine loop (λvs w'=>∃(i:Nat) (v:aq),vs=[v,ad i]∧i<=l.length∧Own w w' [Of v (Oc.hex (l.take i))])
  (λvs _=>l.length - n1 vs) ⟨0,_,rfl,om,(Own.start w).S7 _ 1⟩ ?_
 rintro vs w2 ⟨i,v,rfl,hi,c⟩ _;simp only[pE,gd,cZ atB,iN,dx,bnx,lnx];rw[ahC];by_cases b:(i:Int) < (l.length:Int)
 ·have a:i < l.length:=om
  have g:l[(i:Int).toNat]?=ax l[i]:=by simp[a]
  have h:=l[i].toNat_lt;have d:l[i].toNat / 16 < 16:=om
  have e:l[i].toNat % 16 < 16:=om
  have k:((l[i].toNat:Int).tdiv 16)=((l[i].toNat / 16:Nat):Int):=by rw[aAr om];omega
  have n:((l[i].toNat:Int).tmod 16)=((l[i].toNat % 16:Nat):Int):=by rw[aAL om];omega
  simp only[b,asX,i_t];refine quiet (gr _ (λw=>CP atB om g) (gr _ (λw=>by rw[alN om,k,IZ om om]) (gr _ (λw=>Jd _ d w)
   (gr _ (λw=>CP atB om g) (gr _ (λw=>by rw[aqY om,n]) (gr _ (λw=>Jd _ e w) ?_))))))
  intro w3 f;have hlen:=Oc.Mr (l.take i);rw[atF] at hlen;refine adP (m:=Oc.hex1 l[i]) (λ_=>by kernel_rfl) (c.grow f) (by simp only[Oc.hex1,atW,awI];omega) λv' q o=>?_;rw[Kn,aA om om];refine aS ⟨i+1,v',rfl,om,?_⟩ (by simp[n1,RowKit.intOf];omega);rw[auD a,Oc.SR];exact o
 ·have a:i=l.length:=om
  subst a;simp only[b,asW,i_f];rw[auZ] at c;rw[adA 0 c rfl];exact j _ _ ⟨rfl,c.done⟩
end
end Go.Proofs.YtlipjfcbjemicaaGreatDoor

namespace Go.Proofs.YtlipjfcbjemicaaGreatDoor
variable{A S:Nat->Prop}{K:VWP}{L:List Eng.Ent}{M N:Eng.Mem}{P:Program}{PK PK2:PKT}{R:Ending->FrameMode->ao->Prop}{a:Int}{args:Array aq}{b cap d f i sz:Nat}{cs xs:List aq}{ds:List Deferred}{e:Eng.Ent}{o:Ob}{os:List Ob}{q want y:Bool}{t0 v v' vc vk:aq}{u:FrameMode}{w w0:ao}{xo yo:Operand}{α:Type}{t0 t1 t2 t3 t4:aq}{k0:Eng.KT}
section
open Go
namespace Lx
open Oc
def eol (c:UInt8):Bool:=ai (c=13)||decide (c=10)
def Ah:Bool->List UInt8->Nat
|_,[]=>0
|true,c::t=>1+Ah (!eol c) t
|false,c::t=>if c=37 then 1+Ah av t else if Dp c then 1+Ah au t else 0
def skip (s:List UInt8)(k:Nat):Nat:=k+Ah au (s.drop k)
def arO (s:List UInt8)(k:Int):Int:=if k < 0∨(s.length:Int) < k then k else ((skip s k.toNat:Nat):Int)
def ajD:List UInt8->Nat
|[]=>0
|c::t=>if c=10 then 1 else if c=13 then (if t.head?=ax 10 then 2 else 1) else 1+ajD t
theorem I1:∀(b:Bool) (l:List UInt8),Ah b l<=l.length
|_,[]=>by simp[Ah]
|true,c::t=>by have:=I1 (!eol c) t;simp only[Ah,atW];omega
|false,c::t=>by
  have a:=I1 av t;have d:=I1 au t;simp only[Ah,atW];split
  ·omega
  ·split<;>omega
theorem afA (s:List UInt8){k:Nat}(h:k<=s.length):skip s k<=s.length:=by
 have:=I1 au (s.drop k);rw[atG] at this;unfold skip;omega
theorem drop_cons {s:List UInt8}(h:i < s.length):s.drop i=s[i]::s.drop (i+1):=auL h
def digit (c:UInt8):Int:=
 if 48<=c.toNat∧c.toNat<=57 then (c.toNat:Int) - 48
 else if 65<=c.toNat∧c.toNat<=70 then (c.toNat:Int) - 65+10
 else if 97<=c.toNat∧c.toNat<=102 then (c.toNat:Int) - 97+10
 else -1
def byte (a b:Int):UInt8:=UInt8.ofNat (16*a+b).toNat
end Lx
namespace Lx
open Oc
structure Tok where
 k:Int
 a:Int
 t:Int
 n:Int
 s:List UInt8
 deriving DecidableEq
def none_:Tok:=⟨0,0,0,0,[]⟩
def refused (e:Int):Tok×Int:=(none_,e)
def told (k a t:Int)(x:List UInt8)(most:Int):Tok×Int:=if most < (x.length:Int) then refused 5 else (⟨k,a,t,0,x⟩,0)
def runF:List UInt8->Nat
|[]=>0
|c::t=>if regular c then 1+runF t else 0
def run (s:List UInt8)(i:Nat):Nat:=i+runF (s.drop i)
theorem WG:∀l:List UInt8,runF l<=l.length
|[]=>by simp[runF]
|c::t=>by
  have:=WG t;simp only[runF,atW];split<;>omega
theorem adF (s:List UInt8){k:Nat}(h:k<=s.length):run s k<=s.length:=by
 have:=WG (s.drop k);rw[atG] at this;unfold run;omega
def cut (s:List UInt8)(i j:Nat):List UInt8:=(s.drop i).take (j - i)
def ZZ:List UInt8->Option (List UInt8)
|[]=>ax []
|c::t=>
  if c=35 then match t with
  |a::b::t=>if digit a < 0∨digit b < 0∨16*digit a+digit b=0 then aw else (ZZ t).map (byte (digit a) (digit b)::·)
  |_=>aw
  else (ZZ t).map (c::·)
def name (s:List UInt8)(at_:Nat):Tok×Int:=
 match ZZ (cut s (at_+1) (run s (at_+1))) with
|none=>refused 3
|some x=>told 4 at_ (run s (at_+1)) x 127
def oct (c:UInt8):Bool:=ai (48<=c.toNat)&&ai (c.toNat<=55)
def octF:Nat->Nat->List UInt8->Nat×Nat
|0,n,_=>(n,0)
|_+1,n,[]=>(n,0)
|m+1,n,c::t=>if oct c then ((octF m (8*n+(c.toNat - 48)) t).1,(octF m (8*n+(c.toNat - 48)) t).2+1) else (n,0)
def escL (c:UInt8):Option UInt8:=if c=110 then ax 10 else if c=114 then ax 13 else if c=116 then ax 9 else if c=98 then ax 8 else if c=102 then ax 12 else aw
def escF:List UInt8->List UInt8×Nat
|[]=>([],0)
|c::t=>match escL c with
 |some b=>([b],1)
 |none=>if eol c then ([],ajD (c::t)) else if 0 < (octF 3 0 (c::t)).2 then ([UInt8.ofNat (octF 3 0 (c::t)).1],(octF 3 0 (c::t)).2) else ([c],1)
def EA:Nat->Nat->List UInt8->Option (List UInt8×Nat)
|_,_,[]=>aw
|k+1,o,_::t=>(EA k o t).map λr=>(r.1,r.2+1)
|0,o,c::t=>
  if eol c then (EA (ajD (c::t) - 1) o t).map λr=>(10::r.1,r.2+1)
  else if c=92 then if t=[] then aw else (EA (escF t).2 o t).map λr=>((escF t).1++r.1,r.2+1)
  else if c=40 then (EA 0 (o+1) t).map λr=>(c::r.1,r.2+1)
  else if c=41 then if o<=1 then ax ([],1) else (EA 0 (o - 1) t).map λr=>(c::r.1,r.2+1)
  else (EA 0 o t).map λr=>(c::r.1,r.2+1)
def text (s:List UInt8)(at_:Nat):Tok×Int:=
 match EA 0 1 (s.drop (at_+1)) with
|none=>refused 4
|some r=>told 3 at_ (at_+1+r.2:Nat) r.1 32767
def KQ:Int->List UInt8->(List UInt8×Nat) ⊕ Int
|_,[]=>.inr 4
|h,c::t=>
  if c=62 then .inl (if 0<=h then [byte h 0] else [],1)
  else if Dp c then match KQ h t with|.inl r=>.inl (r.1,r.2+1)|.inr e=>.inr e
  else if digit c < 0 then .inr 3
  else if h < 0 then match KQ (digit c) t with|.inl r=>.inl (r.1,r.2+1)|.inr e=>.inr e
  else match KQ (-1) t with|.inl r=>.inl (byte h (digit c)::r.1,r.2+1)|.inr e=>.inr e
def hex (s:List UInt8)(at_:Nat):Tok×Int:=
 match KQ (-1) (s.drop (at_+1)) with
|.inr e=>refused e
|.inl r=>told 3 at_ (at_+1+r.2:Nat) r.1 32767
def sgn (c:UInt8):Bool:=ai (c=43)||decide (c=45)
def dig (c:UInt8):Bool:=ai (48<=c.toNat)&&ai (c.toNat<=57)
def P1:List UInt8->List UInt8
|[]=>[]
|c::t=>if sgn c then t else c::t
def agG (t:List UInt8):Bool:=!(P1 t).isEmpty&&(P1 t).all dig
def val (n:Nat)(l:List UInt8):Nat:=l.foldl (λn c=>10*n+(c.toNat - 48)) n
def whole (t:List UInt8):Int×Int:=
 if 2147483647 < val 0 (P1 t) then (0,2) else (if t.head?=ax 45 then -(val 0 (P1 t):Int) else (val 0 (P1 t):Int),0)
def UX (t:List UInt8)(a b:Int):Tok×Int:=
 if agG t then (if (whole t).2≠0 then refused (whole t).2 else (⟨1,a,b,(whole t).1,[]⟩,0))
 else if t.contains 46∧(Fx.read t).2=0 then (⟨2,a,b,(Fx.read t).1,[]⟩,0)
 else if t.contains 46∧(Fx.read t).2=2 then refused 2
 else told 5 a b t 127
def word (s:List UInt8)(at_:Nat):Tok×Int:=UX (cut s at_ (run s at_)) at_ (run s at_)
def mark (s:List UInt8)(at_ n:Nat):Tok×Int:=(⟨6,at_,(at_+n:Nat),0,cut s at_ (at_+n)⟩,0)
def token (s:List UInt8)(a:Nat):Tok×Int:=
 match s.drop a with
|[]=>(⟨0,a,a,0,[]⟩,0)
|c::t=>
  if c=91∨c=93∨c=123∨c=125 then mark s a 1
  else if c=60 then (if t.head?=ax c then mark s a 2 else hex s a)
  else if c=62 then (if t.head?=ax c then mark s a 2 else refused 3)
  else if c=47 then name s a
  else if c=40 then text s a
  else if c=41 then refused 3
  else word s a
def next (s:List UInt8)(at_:Int):Tok×Int:=if at_ < 0∨(s.length:Int) < at_ then refused 1 else token s (skip s at_.toNat)
def upto (s:List UInt8):Nat->Int->List Tok ⊕ (Int×Int)
|0,_=>.inl []
|m+1,at_=>
  if (next s at_).2≠0 then .inr (arO s at_,(next s at_).2)
  else if (next s at_).1.k=0 then .inl []
  else match upto s m (next s at_).1.t with
  |.inl l=>.inl ((next s at_).1::l)
  |.inr f=>.inr f
end Lx
namespace Lx
open Oc
theorem XZ:∀(l:List UInt8) (h:Int) (r:List UInt8×Nat),KQ h l=.inl r->1<=r.2∧r.2<=l.length
|[],_,r,h=>by rw[KQ] at h;cases h
|c::t,h,r,he=>by
  rw[KQ] at he;have step:∀b,(∀r,KQ b t=.inl r->1<=r.2∧r.2<=t.length):=λb r d=>XZ t b r d;split at he
  ·cases he;simp
  ·split at he
   ·cases a:KQ h t with
   |inr e=>rw[a] at he;cases he
   |inl q=>rw[a] at he;cases he;have:=step _ q a;simp;omega
   ·split at he
    ·cases he
    ·split at he
     ·cases a:KQ (digit c) t with
     |inr e=>rw[a] at he;cases he
     |inl q=>rw[a] at he;cases he;have:=step _ q a;simp;omega
     ·cases a:KQ (-1) t with
     |inr e=>rw[a] at he;cases he
     |inl q=>rw[a] at he;cases he;have:=step _ q a;simp;omega
theorem NN:∀(l:List UInt8) (k o:Nat) (r:List UInt8×Nat),EA k o l=ax r->1<=r.2∧r.2<=l.length
|[],k,o,r,h=>by
  cases k<;>(rw[EA] at h;cases h)
|c::t,k+1,o,r,h=>by
  rw[EA] at h;cases a:EA k o t with
 |none=>rw[a] at h;cases h
 |some q=>rw[a] at h;cases h;have:=NN t k o q a;simp;omega
|c::t,0,o,r,h=>by
  rw[EA] at h;have step:∀(k o:Nat) (f:List UInt8->List UInt8),(EA k o t).map (λr=>(f r.1,r.2+1))=ax r->1<=r.2∧r.2<=(c::t).length:=by
   intro k o f h;cases a:EA k o t with
  |none=>rw[a] at h;cases h
  |some q=>rw[a] at h;cases h;have:=NN t k o q a;simp;omega
  split at h
  ·exact step _ _ _ h
  ·split at h
   ·split at h
    ·cases h
    ·exact step _ _ _ h
   ·split at h
    ·exact step _ _ (λx=>c::x) h
    ·split at h
     ·split at h
      ·cases h;simp
      ·exact step _ _ (λx=>c::x) h
     ·exact step _ _ (λx=>c::x) h
theorem Ng {k t:Int}{x:List UInt8}{m:Int}(h:(told k a t x m).2=0):told k a t x m=(⟨k,a,t,0,x⟩,0):=by
 unfold told at h ⊢;split
 ·rename_i b;rw[asU b] at h;cases h
 ·rfl
theorem CU:∀(b:Bool) (l:List UInt8),Ah au (l.drop (Ah b l))=0
|_,[]=>by simp[Ah]
|true,c::t=>by
  simp only[Ah];rw[axT,ayA];exact CU _ t
|false,c::t=>by
  simp only[Ah];split
  ·rw[axT,ayA];exact CU _ t
  ·split
   ·rw[axT,ayA];exact CU _ t
   ·rename_i a d
    rw[auX,Ah,asT a,asT d]
theorem XQ (s:List UInt8)(k:Nat):Ah au (s.drop (skip s k))=0:=by
 have:=CU au (s.drop k);rw[awS] at this;exact this
theorem V6 {c:UInt8}{t:List UInt8}(h:Ah au (c::t)=0):c≠37∧Dp c=false:=by
 rw[Ah] at h;split at h
 ·omega
 ·rename_i a
  split at h
  ·omega
  ·rename_i b
   exact⟨a,by simpa using b⟩
theorem Ui (c:UInt8)(hw:Dp c=au)(a:¬(c=91∨c=93∨c=123∨c=125))(b:c≠60)(d:c≠62)(f:c≠47)(g:c≠40)(h:c≠41)(i:c≠37):regular c=true:=by
 have g1:¬c=91:=λe=>a (.inl e);have g2:¬c=93:=λe=>a (.inr (.inl e));have g3:¬c=123:=λe=>a (.inr (.inr (.inl e)));have g4:¬c=125:=λe=>a (.inr (.inr (.inr e)));simp[regular,hw,anY,acG,g1,g2,g3,g4,b,d,f,g,h,i]
theorem aaD {t:List UInt8}{r:Int}(h:(UX t a r).2=0):(UX t a r).1.k≠0∧(UX t a r).1.a=a∧(UX t a r).1.t=r:=by
 unfold UX at h ⊢;split at h
 ·rename_i c
  rw[asU c];split at h
  ·rename_i b;exact absurd h b
  ·rename_i b;rw[asT b];exact⟨sm,rfl,rfl⟩
 ·rename_i c
  rw[asT c];split at h
  ·rename_i b;rw[asU b];exact⟨sm,rfl,rfl⟩
  ·rename_i b
   rw[asT b];split at h
   ·cases h
   ·rename_i d
    rw[asT d,Ng h];exact⟨sm,rfl,rfl⟩
theorem Zx {s:List UInt8}{a:Nat}(u:a < s.length)(f:Ah au (s.drop a)=0)(h:(token s a).2=0):(token s a).1.k≠0∧(token s a).1.a=a∧(a:Int) < (token s a).1.t∧(token s a).1.t<=s.length:=by
 have hd:=drop_cons u;have v:token s a=if s[a]=91∨s[a]=93∨s[a]=123∨s[a]=125 then mark s a 1
  else if s[a]=60 then (if (s.drop (a+1)).head?=ax s[a] then mark s a 2 else hex s a)
  else if s[a]=62 then (if (s.drop (a+1)).head?=ax s[a] then mark s a 2 else refused 3)
  else if s[a]=47 then name s a
  else if s[a]=40 then text s a
  else if s[a]=41 then refused 3
  else word s a:=by rw[token,hd]
 rw[hd] at f;obtain⟨n,hw⟩:=V6 f;have two:(s.drop (a+1)).head?=ax s[a]->a+2<=s.length:=by
  intro h;cases i:s.drop (a+1) with
 |nil=>rw[i] at h;cases h
 |cons x t=>
   have:=congrArg List.length i;simp at this;omega
 rw[v] at h ⊢;by_cases g0:s[a]=91∨s[a]=93∨s[a]=123∨s[a]=125
 ·rw[asU g0];exact⟨by simp[mark],rfl,by simp only[mark];omega,by simp only[mark];omega⟩
 rw[asT g0] at h ⊢;by_cases g1:s[a]=60
 ·rw[asU g1] at h ⊢;by_cases g:(s.drop (a+1)).head?=ax s[a]
  ·have:=two g;rw[asU g];exact⟨by simp[mark],rfl,by simp only[mark];omega,by simp only[mark];omega⟩
  ·rw[asT g] at h ⊢;unfold hex at h ⊢;cases b:KQ (-1) (s.drop (a+1)) with
  |inr e=>
    rw[b] at h;exfalso;have:∀(l:List UInt8) (x e:Int),KQ x l=.inr e->e≠0:=by
     intro l
     induction l with
    |nil=>intro x e he;rw[KQ] at he;cases he;decide
    |cons c t o=>
      intro x e he;rw[KQ] at he;split at he
      ·cases he
      ·split at he
       ·cases d:KQ x t with
       |inl r=>rw[d] at he;cases he
       |inr e'=>rw[d] at he;cases he;exact o _ _ d
       ·split at he
        ·cases he;decide
        ·split at he
         ·cases d:KQ (digit c) t with
         |inl r=>rw[d] at he;cases he
         |inr e'=>rw[d] at he;cases he;exact o _ _ d
         ·cases d:KQ (-1) t with
         |inl r=>rw[d] at he;cases he
         |inr e'=>rw[d] at he;cases he;exact o _ _ d
    exact this _ _ _ b h
  |inl r=>
    rw[b] at h;simp only at h ⊢;have:=XZ _ _ _ b;rw[atG] at this;rw[Ng h];exact⟨sm,rfl,by simp only;omega,by simp only;omega⟩
 rw[asT g1] at h ⊢;by_cases g2:s[a]=62
 ·rw[asU g2] at h ⊢;by_cases g:(s.drop (a+1)).head?=ax s[a]
  ·have:=two g;rw[asU g];exact⟨by simp[mark],rfl,by simp only[mark];omega,by simp only[mark];omega⟩
  ·rw[asT g] at h;cases h
 rw[asT g2] at h ⊢;by_cases g3:s[a]=47
 ·rw[asU g3] at h ⊢;have p:=adF s (show a+1<=s.length by omega);have j:a+1<=run s (a+1):=by unfold run;omega
  unfold name at h ⊢;cases b:ZZ (cut s (a+1) (run s (a+1))) with
 |none=>rw[b] at h;cases h
 |some x=>
   rw[b] at h;simp only at h ⊢;rw[Ng h];exact⟨sm,rfl,by simp only;omega,by simp only;omega⟩
 rw[asT g3] at h ⊢;by_cases g4:s[a]=40
 ·rw[asU g4] at h ⊢;unfold text at h ⊢;cases b:EA 0 1 (s.drop (a+1)) with
 |none=>rw[b] at h;cases h
 |some r=>
   rw[b] at h;simp only at h ⊢;have:=NN _ _ _ _ b;rw[atG] at this;rw[Ng h];exact⟨sm,rfl,by simp only;omega,by simp only;omega⟩
 rw[asT g4] at h ⊢;by_cases g5:s[a]=41
 ·rw[asU g5] at h;cases h
 rw[asT g5] at h ⊢;have m:=Ui s[a] hw g0 g1 g2 g3 g4 g5 n;have p:=adF s (show a<=s.length by omega);have j:a < run s a:=by unfold run;rw[hd,runF,asU m];omega
 obtain⟨w,y,q⟩:=aaD h;exact⟨w,y,by rw[show (word s a).1.t=_ from q];omega,by rw[show (word s a).1.t=_ from q];omega⟩
theorem aeV {s:List UInt8}{i:Int}(h:(next s i).2=0)(b:(next s i).1.k≠0):0<=i∧i<=s.length∧(next s i).1.a=skip s i.toNat∧(next s i).1.a < (next s i).1.t∧(next s i).1.t<=s.length:=by
 unfold next at h b ⊢
 split
 ·rename_i c;rw[asU c] at h;cases h
 ·rename_i c
  rw[asT c] at h b;have hle:=afA s (k:=i.toNat) om;rcases auC (skip s i.toNat) s.length with d|d
  ·have:=Zx d (XQ s i.toNat) h;exact⟨om,om,this.2.1,by rw[this.2.1];exact this.2.2.1,this.2.2.2⟩
  ·exfalso;rw[token,auW d] at b;exact b rfl
theorem agA (s:List UInt8)(k:Nat):k<=skip s k:=by unfold skip;omega
end Lx
namespace Lx
open Oc
theorem O3 (s:List UInt8):∀(m:Nat) (a:Int) (l:List Tok),0<=a->a<=s.length->upto s m a=.inl l->a+l.length<=s.length
|0,a,l,g,i,h=>by rw[upto] at h;cases h;simp;omega
|m+1,a,l,g,i,h=>by
  rw[upto] at h;by_cases he:(next s a).2≠0
  ·rw[asU he] at h;cases h
  ·rw[asT he] at h;have b:(next s a).2=0:=om
   by_cases c:(next s a).1.k=0
   ·rw[asU c] at h;cases h;simp;omega
   ·rw[asT c] at h;cases d:upto s m (next s a).1.t with
   |inr f=>rw[d] at h;cases h
   |inl r=>
     rw[d] at h;cases h;have e:=aeV b c;have:=O3 s m _ r om e.2.2.2.2 d;have j:=agA s a.toNat;simp;omega
end Lx
end
end Go.Proofs.YtlipjfcbjemicaaGreatDoor







namespace Go.Proofs.YtlipjfcbjemicaaGreatDoor
variable{A S:Nat->Prop}{K:VWP}{L:List Eng.Ent}{M N:Eng.Mem}{P:Program}{PK PK2:PKT}{R:Ending->FrameMode->ao->Prop}{a:Int}{args:Array aq}{b cap d f i sz:Nat}{cs xs:List aq}{ds:List Deferred}{e:Eng.Ent}{o:Ob}{os:List Ob}{q want y:Bool}{t0 v v' vc vk:aq}{u:FrameMode}{w w0:ao}{xo yo:Operand}{α:Type}{t0 t1 t2 t3 t4:aq}{k0:Eng.KT}
section
open Eng
def Fi(t0 w)(K:KT):=nz f176 1 [] [] [] (zg [0] [t0]) w K
theorem Iv:Fi t0 w k0->Calls ah 176 #[t0] w k0:=cw func176
end
section
open Eng Go.RowKit
 attribute [local congr] Ez in
theorem WE (c:UInt8)(w:ao):Ret ah 176 #[.int .u8 c.toNat] w (λv w'=>v=ad (Lx.digit c)∧w=w'):=by
  refine aL λK d=>Iv ?_;unfold Fi nz;have f:=c.toNat_lt;have conv:∀{n:Int} {PK K},0<=n->n<=255->DoX ah (fZ 5 3 (.int .u8 n)) w PK K=K (ad n) w:=by
   intro n PK K h b;rw[Vw (show (Tryz.prog.underlying 5).isSome=av by kernel_rfl) auQ,aA om om]
  simp +contextual only[rs,gs];by_cases b:48<=c.toNat∧c.toNat<=57
  ·have a:(ai ((48:Int)<=(c.toNat:Int))&&ai ((c.toNat:Int)<=57))=true:=by simp;omega
   simp only[a,i_t];rw[IZ om om,conv om om];exact d _ _ ⟨by rw[Lx.digit,asU b],rfl⟩
  have a:(ai ((48:Int)<=(c.toNat:Int))&&ai ((c.toNat:Int)<=57))=false:=by
   rw[ayQ,avL,avL];omega
  simp only[a,i_f];by_cases e:65<=c.toNat∧c.toNat<=70
  ·have a:(ai ((65:Int)<=(c.toNat:Int))&&ai ((c.toNat:Int)<=70))=true:=by simp;omega
   simp only[a,i_t];rw[IZ om om,conv om om,Kn,aA om om];exact d _ _ ⟨by rw[Lx.digit,asT b,asU e],rfl⟩
  have a:(ai ((65:Int)<=(c.toNat:Int))&&ai ((c.toNat:Int)<=70))=false:=by
   rw[ayQ,avL,avL];omega
  simp only[a,i_f];by_cases g:97<=c.toNat∧c.toNat<=102
  ·have a:(ai ((97:Int)<=(c.toNat:Int))&&ai ((c.toNat:Int)<=102))=true:=by simp;omega
   simp only[a,i_t];rw[IZ om om,conv om om,Kn,aA om om];exact d _ _ ⟨by rw[Lx.digit,asT b,asT e,asU g],rfl⟩
  have a:(ai ((97:Int)<=(c.toNat:Int))&&ai ((c.toNat:Int)<=102))=false:=by
   rw[ayQ,avL,avL];omega
  simp only[a,i_f];exact d _ _ ⟨by rw[Lx.digit,asT b,asT e,asT g],rfl⟩
end
end Go.Proofs.YtlipjfcbjemicaaGreatDoor

namespace Go.Proofs.YtlipjfcbjemicaaGreatDoor
variable{A S:Nat->Prop}{K:VWP}{L:List Eng.Ent}{M N:Eng.Mem}{P:Program}{PK PK2:PKT}{R:Ending->FrameMode->ao->Prop}{a:Int}{args:Array aq}{b cap d f i sz:Nat}{cs xs:List aq}{ds:List Deferred}{e:Eng.Ent}{o:Ob}{os:List Ob}{q want y:Bool}{t0 v v' vc vk:aq}{u:FrameMode}{w w0:ao}{xo yo:Operand}{α:Type}{t0 t1 t2 t3 t4:aq}{k0:Eng.KT}
section
open Eng Go.RowKit
def tokC (x:Lx.Tok):List Value:=[ad x.k,ad x.a,ad x.t,ad x.n,ae x.s]
def ptr (b:Nat)(i:Nat):Value:=af b i
section
variable {w:ao}{PK:PKT}{K:VWP}{S:Nat->Prop}{w0:ao}{L:List Ent}
end
end
end Go.Proofs.YtlipjfcbjemicaaGreatDoor




namespace Go.Proofs.YtlipjfcbjemicaaGreatDoor
variable{A S:Nat->Prop}{K:VWP}{L:List Eng.Ent}{M N:Eng.Mem}{P:Program}{PK PK2:PKT}{R:Ending->FrameMode->ao->Prop}{a:Int}{args:Array aq}{b cap d f i sz:Nat}{cs xs:List aq}{ds:List Deferred}{e:Eng.Ent}{o:Ob}{os:List Ob}{q want y:Bool}{t0 v v' vc vk:aq}{u:FrameMode}{w w0:ao}{xo yo:Operand}{α:Type}{t0 t1 t2 t3 t4:aq}{k0:Eng.KT}
section
open Eng Go.RowKit
def n3 (vs:List aq):Nat:=(RowKit.intOf (vs.getD 3 undef)).toNat
end
end Go.Proofs.YtlipjfcbjemicaaGreatDoor









namespace Go.Proofs.YtlipjfcbjemicaaGreatDoor
variable{A S:Nat->Prop}{K:VWP}{L:List Eng.Ent}{M N:Eng.Mem}{P:Program}{PK PK2:PKT}{R:Ending->FrameMode->ao->Prop}{a:Int}{args:Array aq}{b cap d f i sz:Nat}{cs xs:List aq}{ds:List Deferred}{e:Eng.Ent}{o:Ob}{os:List Ob}{q want y:Bool}{t0 v v' vc vk:aq}{u:FrameMode}{w w0:ao}{xo yo:Operand}{α:Type}{t0 t1 t2 t3 t4:aq}{k0:Eng.KT}
section
open Eng Go.RowKit
theorem alH {l m:List UInt8}{cs:Array Bool}
  (a:cH S w0 w (Of v l::L)) (d:l.length+m.length<=140737488355328) (k:∀v' w',cH S w0 w' (Of v' (l++m)::L)->K v' w') :
  DoX ah (mB .append #[53,9] 53 cs #[v,ae m]) w PK K:=by
 refine H7 0 atM atB (show elB ah 5 1 1=av by kernel_rfl) atS krx a rfl om λv' b _ c=>?_;refine k v' b ?_;have e:Of v' (l++m)=.row 5 1 v' (l.length+m.length) (aH l++aH m):=by
  rw[Of,iU,asY]
 rw[e];exact c
end
end Go.Proofs.YtlipjfcbjemicaaGreatDoor




namespace Go.Proofs.YtlipjfcbjemicaaGreatDoor
variable{A S:Nat->Prop}{K:VWP}{L:List Eng.Ent}{M N:Eng.Mem}{P:Program}{PK PK2:PKT}{R:Ending->FrameMode->ao->Prop}{a:Int}{args:Array aq}{b cap d f i sz:Nat}{cs xs:List aq}{ds:List Deferred}{e:Eng.Ent}{o:Ob}{os:List Ob}{q want y:Bool}{t0 v v' vc vk:aq}{u:FrameMode}{w w0:ao}{xo yo:Operand}{α:Type}{t0 t1 t2 t3 t4:aq}{k0:Eng.KT}
section
open Eng Go.RowKit
def oP (s:List UInt8):List Lx.Tok×(Int×Int):=
 match Lx.upto s 1048577 0 with
|.inl l=>if 1048576 < l.length then ([],((l.getD 1048576 Lx.none_).a,6)) else (l,(0,0))
|.inr f=>([],f)
theorem draw {F:ao->Prop}(h:F w.drew):DrawX w F:=⟨h⟩
end
end Go.Proofs.YtlipjfcbjemicaaGreatDoor


namespace Go.Proofs.YtlipjfcbjemicaaGreatDoor
variable{A S:Nat->Prop}{K:VWP}{L:List Eng.Ent}{M N:Eng.Mem}{P:Program}{PK PK2:PKT}{R:Ending->FrameMode->ao->Prop}{a:Int}{args:Array aq}{b cap d f i sz:Nat}{cs xs:List aq}{ds:List Deferred}{e:Eng.Ent}{o:Ob}{os:List Ob}{q want y:Bool}{t0 v v' vc vk:aq}{u:FrameMode}{w w0:ao}{xo yo:Operand}{α:Type}{t0 t1 t2 t3 t4:aq}{k0:Eng.KT}
section
open Eng Go.RowKit
theorem CG:∀(l:List Lx.Tok) (k j:Nat) (b:k < l.length),j < 5->(l.flatMap tokC)[k*5+j]?=(tokC l[k])[j]?
|x::l,0,j,_,a=>by
  rw[avE,avK (by simpa[tokC] using a)];simp
|x::l,k+1,j,b,a=>by
  have c:(tokC x).length=5:=rfl;rw[avE,avU (by rw[c];omega),c,show (k+1)*5+j - 5=k*5+j by omega];rw[CG l k j (by simpa using b) a];simp
end
end Go.Proofs.YtlipjfcbjemicaaGreatDoor


namespace Go.Proofs.YtlipjfcbjemicaaGreatDoor
variable{A S:Nat->Prop}{K:VWP}{L:List Eng.Ent}{M N:Eng.Mem}{P:Program}{PK PK2:PKT}{R:Ending->FrameMode->ao->Prop}{a:Int}{args:Array aq}{b cap d f i sz:Nat}{cs xs:List aq}{ds:List Deferred}{e:Eng.Ent}{o:Ob}{os:List Ob}{q want y:Bool}{t0 v v' vc vk:aq}{u:FrameMode}{w w0:ao}{xo yo:Operand}{α:Type}{t0 t1 t2 t3 t4:aq}{k0:Eng.KT}
section
open Eng Go.RowKit
theorem MN:Lx.next [55,46] 0=(⟨2,0,2,70000,[]⟩,0):=by decide +kernel
end
end Go.Proofs.YtlipjfcbjemicaaGreatDoor








namespace Go.Proofs.YtlipjfcbjemicaaGreatDoor
variable{A S:Nat->Prop}{K:VWP}{L:List Eng.Ent}{M N:Eng.Mem}{P:Program}{PK PK2:PKT}{R:Ending->FrameMode->ao->Prop}{a:Int}{args:Array aq}{b cap d f i sz:Nat}{cs xs:List aq}{ds:List Deferred}{e:Eng.Ent}{o:Ob}{os:List Ob}{q want y:Bool}{t0 v v' vc vk:aq}{u:FrameMode}{w w0:ao}{xo yo:Operand}{α:Type}{t0 t1 t2 t3 t4:aq}{k0:Eng.KT}
section
open Eng Go.RowKit
theorem JY {d:ao}(h:rE A d o vk vc cs)(hi:i < o.kids.length) :
  ∃v p,OV A d v o.kids[i]∧∀W,Kept A d W->(mIA 23 vc (ad (i:Int))).run ah W=.ok (.value (.pointer (ax p))) W∧(aK 25 (.pointer (ax p))).run ah W=.ok (.value v) W:=by
 obtain⟨b,off,cap,rfl,_⟩:=bU h.kids.1 om;obtain⟨a,l,e,c⟩:=OVs.get _ _ i hi h.all;refine⟨.agg a.toArray,⟨b,off+i*6,aw⟩,e,λW m=>⟨?_,?_⟩⟩
 ·have:=dP (P:=ah) (T:=23) (b:=b) (off:=off) (cap:=cap) (n:=o.kids.length) (k:=.i64) (i:=(i:Int)) (w:=W) atO LV om om;rw[atC] at this;exact this
 ·obtain⟨s,f,g,he,q⟩:=bU (h.kept m).kids.1 om;cases he;refine bB (v:=.agg a.toArray) (AtV.agg kE l λj v r=>?_);rw[awP];exact q _ _ (c j v r)
theorem akC {a:ao}(h:rE A a o vk vc cs)(hi:i < o.keys.length) :
  ∃p,∀W,Kept A a W->(mIA 22 vk (ad (i:Int))).run ah W=.ok (.value (.pointer (ax p))) W∧(aK 9 (.pointer (ax p))).run ah W=.ok (.value (.string ⟨o.keys[i].toArray⟩)) W:=by
 obtain⟨b,off,cap,rfl,_⟩:=bU h.keys.1 om;refine⟨⟨b,off+i,aw⟩,λW e=>⟨?_,?_⟩⟩
 ·have:=dP (P:=ah) (T:=22) (b:=b) (off:=off) (cap:=cap) (n:=o.keys.length) (k:=.i64) (i:=(i:Int)) (w:=W) atN (show _=ax 1 by kernel_rfl) om om;rw[atC,atY] at this;exact this
 ·obtain⟨g,c,d,he,f⟩:=bU (h.kept e).keys.1 om;cases he;exact aB Io (f i _ (eW hi))
section
variable {w:ao}{PK:PKT}{K:VWP}{S:Nat->Prop}{w0:ao}{L:List Ent}
end
theorem Eng.Mem.le.trans {O:Mem}(h:M.le N)(k:N.le O):M.le O:=Mem.le_trans h k
theorem nA {l:List (List UInt8)}:∀x∈bF l,x.oneCell'=true:=by
 intro x a;obtain⟨y,_,rfl⟩:=auH.1 a;rfl
theorem dO {T:TypeId}{n:Nat}(h:(Ent.urow T sz v n xs).is w):v.oneCell'=true:=by
 rcases (show w.ownsRow 0 T sz v n xs from h).2 with ⟨rfl,_⟩|⟨g,cap,cur,rfl,_⟩<;>rfl
theorem Em {A:Nat->Prop}{w:ao}:∀{os:List Ob} {cs:List aq},OVs A w cs os->∀x∈cs,x.oneCell'=av
|[],cs,h=>by rw[OVs] at h;subst h;intro x b;cases b
|o::os,cs,h=>by
  rw[OVs] at h;obtain⟨a,rest,rfl,i,d,f⟩:=h;intro x b;rcases auF.1 b with b|b
  ·obtain⟨vk,vc,g,he,c⟩:=d.open;have e:a.toArray=(obC o vk vc).toArray:=by injection he
   have e:a=obC o vk vc:=by simpa using congrArg Array.toList e
   subst e;exact yO o c.keys.one c.kids.one x b
  ·exact Em f x b
theorem gI {A:Nat->Prop}{w:ao}:∀{os ps:List Ob} {cs ds:List aq},OVs A w cs os->OVs A w ds ps->OVs A w (cs++ds) (os++ps)
|[],ps,cs,ds,h,k=>by rw[OVs] at h;subst h;simpa using k
|o::os,ps,cs,ds,h,k=>by
  rw[OVs] at h;obtain⟨a,rest,rfl,b,c,d⟩:=h;rw[axF,OVs];exact⟨a,rest++ds,sm,b,c,gI d k⟩
theorem Da (h:OV A w (obV o vk vc) o):OVs A w (obC o vk vc) [o]:=by
 rw[OVs];exact⟨obC o vk vc,[],sm,rfl,h,OVs.nil⟩
theorem rE.le {M N:Mem}{o:Ob}{vk vc:aq}{cs:List aq}(a:M.le N)(h:rE M.A M.w o vk vc cs):rE N.A N.w o vk vc cs:=⟨h.keys.le a,h.kids.le a,h.all.le a⟩
theorem aeW {k n g:Int}{s:List UInt8}{keys:List (List UInt8)}{kids:List Ob}(a:SlA M.A M.w vk 1 keys.length (bF keys))(b:SlA M.A M.w vc 6 kids.length cs)(c:OVs M.A M.w cs kids):rE M.A M.w (.mk k n g s keys kids) vk vc cs:=⟨a,b,c⟩
theorem jD (M:Mem):OV M.A M.w (obV Vl.ob0 (.slice aw 0 0) (.slice aw 0 0)) Vl.ob0:=(aeW (M:=M) (keys:=[]) (kids:=[]) (SlA.nil _ _ _ _) (SlA.nil _ _ _ _) OVs.nil).ov
theorem UI (o:Ob)(c:vk.oneCell'=av)(d:vc.oneCell'=av)(w:ao):Ret ah 164 #[obV o vk vc] w (λv w'=>v=obV o vk vc∧Below w.heap.size w w'):=by
 refine aL λK e=>Fj ?_;unfold Be nz;refine eI o c d (Own.start w) λb f a=>?_;refine dM a λg w2 a=>?_;rw[iV a 1 rfl];refine aP 0 c d a rfl λw3 a=>?_;exact fH (bJ (a.agg 0 rfl kE)) (e _ _ ⟨rfl,a.done⟩)
theorem Ph:bY ah 164=true:=krx
abbrev ajE:Value:=.func (.func 164) #[] #[]
theorem QS (n:Nat):∀(o:Ob) (v:aq) (M:Mem) (w:ao),o.wt<=n->o.wt<=100000000000->M.has w->OV M.A M.w v o->jJ ah 163 #[v,ajE] M w (λv' N=>OV N.A N.w v' o):=by
 induction n with
|zero=>intro o v M w h;have:=o.Jx;omega
|succ n ih=>
 intro o v M w hn hw hM hv;obtain⟨vk,vc,cs,rfl,r⟩:=hv.open;have a6:Ob.wts o.kids<=100000000000:=by cases o;rw[Ob.wt] at hw;simp only[Ob.kids];omega
 have a7:Pl.tot o.keys<=100000000000:=by cases o;rw[Ob.wt] at hw;simp only[Ob.keys];omega
 have a8:=Ob.vC o.kids;have b0:=Pl.iY o.keys;refine aU hM λK hK=>EJ ?_;unfold Cl nz;refine eI o r.keys.one r.kids.one (cH.memS hM) λb w1 c=>?_;refine dM c λt w2 c=>?_;rw[iV c 1 rfl];refine IC Ph (aJ c (R:=λv=>v=obV o vk vc) (UI o r.keys.one r.kids.one w2) ?_);rintro _ w3 rfl c;refine aP 1 r.keys.one r.kids.one c rfl λw4 c=>?_;rw[lE,eN c 1 rfl];refine C5 (CA vk _ _ w4 (r.keys.now (c.hasM 2 rfl)) nA om) λvk' w5 E=>?_;have c:=c.join E;have c:cH M.A w w5 [.urow 9 1 vk' o.keys.length (bF o.keys),obE t ob0 (.slice aw 0 0) (.slice aw 0 0),obE b o vk vc,.mem M]:=c;have F:vk'.oneCell'=true:=dO (c.at_ 0 rfl);rw[lE];refine aN 2 c rfl krx F (show 0+4 < 6 by omega) λw6 c=>?_;have c:cH M.A w w6 [.urow 9 1 vk' o.keys.length (bF o.keys),obE t ob0 (.slice aw 0 0) (.slice aw 0 0),obE b o vk' vc,.mem M]:=c;obtain⟨N,G,z,c⟩:=c.bV 2 rfl;have c:cH M.A w w6 [obE t ob0 (.slice aw 0 0) (.slice aw 0 0),obE b o vk' vc,.mem N]:=c;refine join λJ hJ=>?_;have fin:∀(W:ao) (j:Mem) (vc':aq) (d:List aq),cH M.A w W [obE t ob0 (.slice aw 0 0) (.slice aw 0 0),obE b o vk' vc',.mem j]->N.le j->vc'.oneCell'=av->SlA j.A j.w vc' 6 o.kids.length d->OVs j.A j.w d o.kids->J [] W:=by
  intro W j vc' d c hle S T h2;refine hJ _ _ λ_=>?_;unfold vV nz;rw[iV c 1 rfl];refine aP 0 F S c rfl λw7 c=>?_;refine fH (bJ (c.agg 0 rfl kE)) (hK _ _ j _ 2 c rfl (G.trans hle) ?_);exact rE.ov (⟨z.le hle,T,h2⟩:rE j.A j.w o vk' vc' d)
 have B:=r.le G;rw[jL,cX c 1 rfl];obtain⟨a,cap,rfl,a1⟩:∃a cap,vc=.slice a o.kids.length cap∧(a=aw->o.kids.length=0):=by
  obtain⟨⟨_,a,cap,e,T,_⟩,_⟩:=r.kids;exact⟨a,cap,e,T⟩
 rw[amN atO];cases a with
|none=>
  simp only[aAk,auO,i_f];exact fin _ N _ _ c N.le_refl rfl B.kids B.all
|some p=>
  simp only[aAl,auN,i_t];rw[jL,cX c 1 rfl,bO atO];refine RF (sz:=6) (bytes:=88) atO krx om om c λg w7 zs U c=>?_;have c:=c.toU 6 o.kids.length o.kids.length U (atE _) om;rw[auG om] at c;rw[jL,cX c 2 rfl,bO atO];refine loop (λvs W=>∃(i:Nat) (j:Mem) (d f:List aq),vs=[ad i]∧i<=o.kids.length∧N.le j∧OVs j.A j.w d (o.kids.take i)∧d.length=i*6 ∧
    cH M.A w W [.urow 25 6 (bR g 0 o.kids.length o.kids.length) o.kids.length (d++f),obE t ob0 (.slice aw 0 0) (.slice aw 0 0),obE b o vk' (.slice (ax p) o.kids.length cap),.mem j]) (λvs _=>o.kids.length - n0 vs)
   ⟨0,N,[],zs,rfl,om,N.le_refl,OVs.nil,rfl,c⟩ ?_
  clear c;rintro vs w8 ⟨i,j,d,f,rfl,hi,hle,s,l,c⟩ _;simp only[wW,gd,rs,nz];have V:=(show w8.ownsRow 0 25 6 _ _ (d++f) from c.at_ 0 rfl).1;rw[asY,l] at V;by_cases H:(i:Int) < (o.kids.length:Int)
  ·have m:i < o.kids.length:=om
   simp only[H,asX,i_t];obtain⟨x,q,hx,X⟩:=JY (B.le hle) m;obtain⟨r1,r2⟩:=X w8 (c.hasM 3 rfl);refine aC r1 |>.mpr (aC r2 |>.mpr ?_);obtain⟨xk,xc,b1,rfl,I⟩:=hx.open;refine dM c λb7 w9 c=>?_;refine aP 0 I.keys.one I.kids.one c rfl λY c=>?_;rw[iV c 0 rfl];have b2:=HE m;refine bG c 4 rfl (ih _ _ j Y om om (c.hasM 4 rfl) hx) λy Q Z k hy c=>?_;obtain⟨C,D,b3,rfl,O⟩:=hy.open;have c:cH M.A w Z [.urow 25 6 (bR g 0 o.kids.length o.kids.length) o.kids.length (d++f),obE t ob0 (.slice aw 0 0) (.slice aw 0 0),obE b o vk' (.slice (ax p) o.kids.length cap),.mem Q]:=c.tail;refine aC (dP atO LV om om) |>.mpr ?_;rw[atC,atK];refine Gw 0 c rfl (u:=obV o.kids[i] C D) (new:=obC o.kids[i] C D) rfl LV (yO _ O.keys.one O.kids.one) (by show i*6+6<=_;omega) λb5 c=>?_;rw[aA om om];refine aS ⟨i+1,Q,d++obC o.kids[i] C D,f.drop 6,rfl,om,hle.trans k,?_,?_,?_⟩ (by simp[n0,RowKit.intOf];omega)
   ·rw[auD m];exact gI (s.le k) (Da hy)
   ·rw[asY,l];show i*6+6=_;omega
   ·have e:(d++f).take (i*6)++obC o.kids[i] C D++(d++f).drop (i*6+(obC o.kids[i] C D).length)=d++obC o.kids[i] C D++f.drop 6:=by
     rw[avW l,axP,auW (by rw[l];omega),auI,l]
     congr 2
     show i*6+6 - i*6=6;omega
    rw[e] at c;exact c
  ·have m:i=o.kids.length:=om
   subst m;simp only[H,asW,i_f];have hz:f=[]:=axL om;subst hz;rw[atX,auG (atE _)] at *;rw[jL];refine aN 2 c rfl krx rfl (show 0+5 < 6 by omega) λw9 c=>?_;obtain⟨Q,k,P,c⟩:=cH.bV (L:=[obE t ob0 (.slice aw 0 0) (.slice aw 0 0),obE b o vk' (bR g 0 o.kids.length o.kids.length),.mem j]) c 2 rfl;exact fin _ Q _ _ c (hle.trans k) rfl P (s.le k)
theorem Bc (o:Ob)(v:aq)(M:Mem)(w:ao)(hw:o.wt<=100000000000)(d:M.has w)(e:OV M.A M.w v o):jJ ah 95 #[v] M w (λv' N=>OV N.A N.w v' o):=by
 obtain⟨vk,vc,cs,rfl,f⟩:=e.open;refine aU d λK h=>Ia ?_;unfold Gb nz;refine eI o f.keys.one f.kids.one (cH.memS d) λb j a=>?_;refine dM a λk w2 a=>?_;rw[iV a 1 rfl];refine bG a 2 rfl (QS o.wt o _ M w2 (atE _) hw (a.hasM 2 rfl) e) λy N w3 hle g a=>?_;obtain⟨l,m,i,rfl,c⟩:=g.open;refine aP 0 c.keys.one c.kids.one a rfl λn a=>?_;exact fH (bJ (a.agg 0 rfl kE)) (h _ _ N _ 2 a rfl hle g)
end
end Go.Proofs.YtlipjfcbjemicaaGreatDoor



namespace Go.Proofs.YtlipjfcbjemicaaGreatDoor
variable{A S:Nat->Prop}{K:VWP}{L:List Eng.Ent}{M N:Eng.Mem}{P:Program}{PK PK2:PKT}{R:Ending->FrameMode->ao->Prop}{a:Int}{args:Array aq}{b cap d f i sz:Nat}{cs xs:List aq}{ds:List Deferred}{e:Eng.Ent}{o:Ob}{os:List Ob}{q want y:Bool}{t0 v v' vc vk:aq}{u:FrameMode}{w w0:ao}{xo yo:Operand}{α:Type}{t0 t1 t2 t3 t4:aq}{k0:Eng.KT}
section
open Eng Go.RowKit
theorem eF {b:Int}:DoX ah (mEq .neq 30 xo yo (ad a) (ad b)) w PK K=K (.bool (ai (a≠b))) w:=abD
end
end Go.Proofs.YtlipjfcbjemicaaGreatDoor

namespace Go.Proofs.YtlipjfcbjemicaaGreatDoor
variable{A S:Nat->Prop}{K:VWP}{L:List Eng.Ent}{M N:Eng.Mem}{P:Program}{PK PK2:PKT}{R:Ending->FrameMode->ao->Prop}{a:Int}{args:Array aq}{b cap d f i sz:Nat}{cs xs:List aq}{ds:List Deferred}{e:Eng.Ent}{o:Ob}{os:List Ob}{q want y:Bool}{t0 v v' vc vk:aq}{u:FrameMode}{w w0:ao}{xo yo:Operand}{α:Type}{t0 t1 t2 t3 t4:aq}{k0:Eng.KT}
section
open Eng Go.RowKit
abbrev cO:Value:=.slice aw 0 0
abbrev ob1 (k n g:Int)(s:List UInt8):Ob:=.mk k n g s [] []
section
variable {w:ao}{S:Nat->Prop}{w0:ao}{L:List Ent}
theorem MG {K:Ending->ao->Prop}(a:cH S w0 w (obE b o vk vc::L))(k:K (.returned (obV o vk vc)) w):A2 ah [.cell (af b 0) 25] w K:=fH (bJ (a.agg 0 rfl kE)) k
end
def obR (o:Ob)(vk vc:aq)(w:ao):VWP:=λv w'=>v=obV o vk vc∧Below w.heap.size w w'
theorem YD (w:ao):Ret ah 84 #[] w (obR (ob1 0 0 0 []) cO cO w):=by
 refine aL λK d=>AJ ?_;unfold sG nz;refine dM (Own.start w) λb c a=>?_;have e:∀{PK:PKT} {K:VWP},DoX ah (aW 25 #[]) c PK K=K (obV (ob1 0 0 0 []) cO cO) c:=aC krx;rw[e];refine aP 0 rfl rfl a rfl λw2 a=>?_;exact MG a (d _ _ ⟨rfl,a.done⟩)
theorem Ul (n:Int)(w:ao):Ret ah 108 #[ad n] w (obR (ob1 2 n 0 []) cO cO w):=by
 refine aL λK d=>CD ?_;unfold tY nz;refine dM (Own.start w) λb c a=>?_;have e:∀{PK:PKT} {K:VWP},DoX ah (aW 25 #[(0,(ad 2)),(1,ad n)]) c PK K=K (obV (ob1 2 n 0 []) cO cO) c:=aC krx;rw[e];refine aP 0 rfl rfl a rfl λw2 a=>?_;exact MG a (d _ _ ⟨rfl,a.done⟩)
theorem Hb (s:List UInt8)(w:ao):Ret ah 51 #[ae s] w (obR (ob1 5 0 0 s) cO cO w):=by
 refine aL λK d=>Bo ?_;unfold uQ nz;refine dM (Own.start w) λb c a=>?_;have e:∀{PK:PKT} {K:VWP},DoX ah (aW 25 #[(0,(ad 5)),(3,ae s)]) c PK K=K (obV (ob1 5 0 0 s) cO cO) c:=aC krx;rw[e];refine aP 0 rfl rfl a rfl λw2 a=>?_;exact MG a (d _ _ ⟨rfl,a.done⟩)
theorem G4 (a:Option Addr)(l c:Nat)(os:List Ob)(w:ao):Ret ah 50 #[.slice a l c] w (obR ((.mk 6 0 0 [] [] os)) cO (.slice a l c) w):=by
 refine aL λK f=>yP ?_;unfold qB nz;refine dM (Own.start w) λb e d=>?_;have g:∀{PK:PKT} {K:VWP},DoX ah (aW 25 #[(0,(ad 6)),(5,.slice a l c)]) e PK K=K (obV ((.mk 6 0 0 [] [] os)) cO (.slice a l c)) e:=aC krx;rw[g];refine aP 0 rfl rfl d rfl λw2 d=>?_;exact MG d (f _ _ ⟨rfl,d.done⟩)
def getV (v:aq)(b:Bool):Value:=.tuple #[v,.bool b]
def vI (v:aq)(e:Int):Value:=.tuple #[v,ad e]
section
variable {w:ao}{S:Nat->Prop}{w0:ao}{L:List Ent}
theorem bX {K:Ending->ao->Prop}{x:aq}(i:Nat)(a:cH S w0 w L)(hi:L[i]?=ax (obE b o vk vc))(k:K (.returned (.tuple #[obV o vk vc,x])) w):A2 ah [.cell (af b 0) 25,.val x] w K:=
 F3 (bJ (a.agg i hi kE)) K5 k
theorem sR :DoX ah (aW 25 #[]) w PK K=K (obV Vl.ob0 cO cO) w:=aC krx
end
theorem MW (n:Int)(w:ao):Ret ah 137 #[ad n] w (obR (ob1 2 n 0 []) cO cO w):=by
 refine aL λK d=>Ll ?_;unfold Kb nz;refine dM (Own.start w) λb c a=>?_;have e:∀{PK:PKT} {K:VWP},DoX ah (aW 25 #[(0,(ad 2)),(1,ad n)]) c PK K=K (obV (ob1 2 n 0 []) cO cO) c:=aC krx;rw[e];refine aP 0 rfl rfl a rfl λw2 a=>?_;exact MG a (d _ _ ⟨rfl,a.done⟩)
theorem Fe (s:List UInt8)(w:ao):Ret ah 69 #[ae s] w (obR (ob1 5 0 0 s) cO cO w):=by
 refine aL λK d=>Kh ?_;unfold HP nz;refine dM (Own.start w) λb c a=>?_;have e:∀{PK:PKT} {K:VWP},DoX ah (aW 25 #[(0,(ad 5)),(3,ae s)]) c PK K=K (obV (ob1 5 0 0 s) cO cO) c:=aC krx;rw[e];refine aP 0 rfl rfl a rfl λw2 a=>?_;exact MG a (d _ _ ⟨rfl,a.done⟩)
theorem JU (o:Ob)(e:vk.oneCell'=av)(f:vc.oneCell'=av)(w:ao):Ret ah 138 #[obV o vk vc] w (λv w'=>v=.bool (Vl.keyed o)∧Below w.heap.size w w'):=by
 refine aL λK d=>IP ?_;unfold ES nz;refine eI o e f (Own.start w) λb g a=>?_;rw[eO,sA a 0 rfl];unfold Vl.keyed at d;by_cases c:o.k=7
 ·simp only[rs,c,asX,nE];exact d _ _ ⟨by simp[c],a.done⟩
 ·simp only[rs,c,asW,eO,sA a 0 rfl];exact d _ _ ⟨by simp[c],a.done⟩
theorem IY (o:Ob)(v:aq)(key:List UInt8)(M:Mem)(w:ao)(hw:o.wt<=100000000000)(k:M.has w)(p:OV M.A M.w v o) :
  jJ ah 146 #[v,ae key] M w (λr N=>∃v',r=getV v' (Vl.get o key).isSome∧OV N.A N.w v' ((Vl.get o key).getD Vl.ob0)):=by
 obtain⟨vk,vc,cs,rfl,d⟩:=p.open;have s:Ob.wts o.kids<=100000000000:=by cases o;rw[Ob.wt] at hw;simp only[Ob.kids];omega
 have u:Pl.tot o.keys<=100000000000:=by cases o;rw[Ob.wt] at hw;simp only[Ob.keys];omega
 have z:=Pl.iY o.keys;have B:=Ob.vC o.kids;refine aU k λK l=>Lh ?_;unfold JC nz;refine eI o d.keys.one d.kids.one (cH.memS k) λb L a=>?_;refine dM a λh w2 a=>?_;rw[iV a 1 rfl];refine aJ a (R:=λv=>v=.bool (Vl.keyed o)) (JU o d.keys.one d.kids.one w2) ?_;rintro _ w3 rfl a;have no:∀{W:ao},cH M.A w W [obE h ob0 cO cO,obE b o vk vc,.mem M]->Vl.get o key=aw->DoX ah (aW 25 #[]) W (pk K) (λt W=>DoX ah (aV 25 (af h 0) t) W (pk K) λ_ W=>A2 ah [.cell (af h 0) 25,.val (.bool au)] W K):=by
  intro W a f;rw[sR];refine aP 0 rfl rfl a rfl λC a=>?_;refine bX 0 a rfl (l _ _ M _ 2 a rfl M.le_refl ⟨obV Vl.ob0 cO cO,?_,?_⟩)
  ·rw[f];rfl
  ·rw[f];exact jD M
 cases c:Vl.keyed o with
|false=>
  simp only[rs,auN];exact no a (by unfold Vl.get;rw[c];rfl)
|true=>
  simp only[rs,auO];rw[lE,eN a 1 rfl];refine qE (UZ vk o.keys key w3 (d.keys.now (a.hasM 2 rfl)) om) ?_;by_cases hi:o.keys.idxOf key < o.keys.length
  ·rw[asU hi];have i:¬((o.keys.idxOf key:Int) < 0):=om
   simp only[rs,i,asW,jL,cX a 1 rfl];rw[aZ atO (d.kids.now (a.hasM 2 rfl))];simp only[rs];by_cases m:(o.kids.length:Int)<=(o.keys.idxOf key:Int)
   ·simp only[m,asX,rs];refine no a ?_;unfold Vl.get;rw[c,asU rfl,asU hi,avJ om]
   ·simp only[m,asW,rs,jL,cX a 1 rfl];have e:o.keys.idxOf key < o.kids.length:=om
    have f:Vl.get o key=ax o.kids[o.keys.idxOf key]:=by
     unfold Vl.get;rw[c,asU rfl,asU hi,atI e]
    obtain⟨x,q,D,j⟩:=JY d e;obtain⟨E,F⟩:=j w3 (a.hasM 2 rfl);refine aC E |>.mpr (aC F |>.mpr ?_);have G:=HE e;refine bG a 2 rfl (Bc _ x M w3 om (a.hasM 2 rfl) D) λy N C hle n a=>?_;obtain⟨H,I,J,rfl,g⟩:=n.open;refine aP 0 g.keys.one g.kids.one a rfl λO a=>?_;refine bX 0 a rfl (l _ _ N _ 2 a rfl hle ⟨obV o.kids[o.keys.idxOf key] H I,?_,?_⟩)
    ·rw[f];rfl
    ·rw[f];exact n
  ·rw[asT hi];have i:((-1:Int) < 0):=om
   simp only[rs,i,asX,nE];refine no a ?_;unfold Vl.get;rw[c,asU rfl,asT hi]
theorem Kw (o:Ob)(v:aq)(M:Mem)(w:ao)(hw:o.wt<=100000000000)(f:M.has w)(e:OV M.A M.w v o) :
  jJ ah 139 #[v] M w (λr N=>∃v',r=vI v' (Vl.right o).2∧OV N.A N.w v' (Vl.right o).1):=by
 obtain⟨vk,vc,cs,rfl,d⟩:=e.open;refine aU f λK g=>Iu ?_;unfold F2 nz;refine eI o d.keys.one d.kids.one (cH.memS f) λb i a=>?_;refine dM a λj w2 a=>?_;rw[iV a 1 rfl];refine aJ a (R:=λv=>v=ad (Vl.check 1 o)) (wV o _ w2 (OV.inw (a.hasM 2 rfl) e) om) ?_;rintro _ w3 rfl a;simp only[eF];by_cases c:Vl.check 1 o=0
 ·simp only[c,ne_eq,not_true,asW,i_f];rw[iV a 1 rfl];refine aP 0 d.keys.one d.kids.one a rfl λh a=>?_;refine bX 0 a rfl (g _ _ M _ 2 a rfl M.le_refl ⟨obV o vk vc,?_,?_⟩)
  ·simp[Vl.right,c,vI]
  ·simpa[Vl.right,c] using e
 ·simp only[c,ne_eq,avD,asX,i_t];rw[sR];refine aP 0 rfl rfl a rfl λh a=>?_;refine bX 0 a rfl (g _ _ M _ 2 a rfl M.le_refl ⟨obV Vl.ob0 cO cO,?_,?_⟩)
  ·simp[Vl.right,c,vI]
  ·simpa[Vl.right,c] using jD M
theorem G8 (o:Ob)(v:aq)(M:Mem)(w:ao)(hw:o.wt<=100000000000)(f:M.has w)(e:OV M.A M.w v o) :
  jJ ah 145 #[v] M w (λr N=>∃v',r=vI v' (Vl.right o).2∧OV N.A N.w v' (Vl.right o).1):=by
 obtain⟨vk,vc,cs,rfl,d⟩:=e.open;refine aU f λK g=>xY ?_;unfold pX nz;refine eI o d.keys.one d.kids.one (cH.memS f) λb i a=>?_;refine dM a λj w2 a=>?_;rw[iV a 1 rfl];refine aJ a (R:=λv=>v=ad (Vl.check 1 o)) (iK o _ w2 (OV.inw (a.hasM 2 rfl) e) om) ?_;rintro _ w3 rfl a;simp only[eF];by_cases c:Vl.check 1 o=0
 ·simp only[c,ne_eq,not_true,asW,i_f];rw[iV a 1 rfl];refine aP 0 d.keys.one d.kids.one a rfl λh a=>?_;refine bX 0 a rfl (g _ _ M _ 2 a rfl M.le_refl ⟨obV o vk vc,?_,?_⟩)
  ·simp[Vl.right,c,vI]
  ·simpa[Vl.right,c] using e
 ·simp only[c,ne_eq,avD,asX,i_t];rw[sR];refine aP 0 rfl rfl a rfl λh a=>?_;refine bX 0 a rfl (g _ _ M _ 2 a rfl M.le_refl ⟨obV Vl.ob0 cO cO,?_,?_⟩)
  ·simp[Vl.right,c,vI]
  ·simpa[Vl.right,c] using jD M
theorem Vq (va:aq)(l:List (List UInt8))(x:List UInt8)(w:ao)(f:Sl w va 1 l.length (bF l))(t:l.length<=1099511627776) :
  Ret ah 209 #[va,ae x] w (λv w'=>v=.tuple #[ad (Vl.place l x:Nat),.bool (Vl.hit l x)]∧Below w.heap.size w w'):=by
 refine aL λK n=>xO ?_;unfold pD nz;refine loop (λvs w'=>∃i:Nat,vs=[ad i]∧i<=l.length∧(∀m (h:m < l.length),m < i->Vl.less l[m] x=av)∧w=w') (λvs _=>l.length - n0 vs) ⟨0,rfl,om,λm _ h=>by omega,rfl⟩ ?_;rintro vs w2 ⟨i,rfl,hi,e,rfl⟩ _;simp only[mD,gd,nz];rw[aZ atN f];simp only[rs];have fin:(∀h:i < l.length,Vl.less l[i] x=au)->∀F,F=(λd:ao->Prop=>
   QDo ah d (mB .len #[22] 3 #[au] #[va]) λt24=>
   QDo ah d (iA .lss 3 (ad (i:Int)) t24) λt25=>
   GQ t25 av (λE=>E va) λt27=>
   GQ t25 av (λE=>E (ad (i:Int))) λt28=>
   GQ t25 av (λE=>QDo ah d (mIA 22 t27 t28) E) λt29=>
   GQ t25 av (λE=>QDo ah d (aK 9 t29) E) λt30=>
   GQ t25 av (λE=>E (ae x)) λt31=>
   GQ t25 av (λE=>QDo ah d (mEq .eql 9 (.tmp 30) (.tmp 31) t30 t31) E) λt32=>
   QDo ah d (cW t25 t32 (.bool au)) λt33=>
   ∀w,d w->K (.returned (.tuple #[ad (i:Int),t33])) w)->nK w F:=by
  intro j F p;subst p;have hp:Vl.place l x=i:=Vl.NP hi e j;refine quiet (iL (ad (l.length:Int)) (λW g=>?_) (Iq ?_))
  ·obtain⟨_,a,cap,rfl,_⟩:=f;exact CI atN
  by_cases b:(i:Int) < (l.length:Int)
  ·have c:i < l.length:=om
   simp only[b,asX,gq];obtain⟨u,y,ca,rfl,k⟩:=bU f om;refine gr _ (λ_=>dP atN (show _=ax 1 by kernel_rfl) om om) ?_;refine iL (ae (l[i])) (λz hw=>aB T5 ?_) ?_
   ·rw[atC,atY];have:=k i _ (eW c);exact (hw.cell (World.block_lt_of_cell? w _ this)).trans this
   refine aqM ?_;refine Ss ?_;intro W g;refine n _ _ ⟨?_,g⟩;rw[hp];unfold Vl.hit;rw[hp,atI c];simp
  ·simp only[b,asW,gq];refine Ss ?_;intro W g;refine n _ _ ⟨?_,g⟩;rw[hp];unfold Vl.hit;rw[hp,avJ om];simp
 by_cases b:(i:Int) < (l.length:Int)
 ·have c:i < l.length:=om
  simp only[b,asX,rs];refine Hx (ae (l[i])) atN krx f om (by rw[atC];exact eW c) λq r=>?_;rw[aR T5 r];simp only[ahQ];cases o:Op.bytesLess l[i] x with
 |true=>
   simp only[rs];rw[aA om om];refine aS ⟨i+1,rfl,om,λm hm s=>?_,rfl⟩ (by simp[n0,RowKit.intOf];omega);rcases auC m i with h|h
   ·exact e m hm h
   ·have:m=i:=om
    subst this;exact o
 |false=>
   simp only[rs];exact fin (λ_=>o) _ rfl
 ·simp only[b,asW,rs,nE];exact fin (λh=>absurd h om) _ rfl
end
section
open Go
namespace Vl
theorem OR (l:List (List UInt8))(i:Nat):Pl.tot (l.take i)+Pl.tot (l.drop i)=Pl.tot l:=by
 rw[<-Pl.Mi,auR]
theorem QI:∀a b:List Ob,Ob.wts (a++b)=Ob.wts a+Ob.wts b
|[],b=>by rw[auI,Ob.wts];omega
|o::a,b=>by rw[axF,Ob.wts,Ob.wts,QI a b];omega
theorem OK (l:List Ob)(i:Nat):Ob.wts (l.take i)+Ob.wts (l.drop i)=Ob.wts l:=by
 rw[<-QI,auR]
theorem aaE (l:List (List UInt8))(i j:Nat)(h:i<=j):Pl.tot (l.drop j)<=Pl.tot (l.drop i):=by
 have:=OR (l.drop i) (j - i);rw[awS,show i+(j - i)=j by omega] at this;omega
theorem acC (l:List Ob)(i j:Nat)(h:i<=j):Ob.wts (l.drop j)<=Ob.wts (l.drop i):=by
 have:=OK (l.drop i) (j - i);rw[awS,show i+(j - i)=j by omega] at this;omega
theorem oK (o:Ob):o.wt=6+o.s.length+Pl.tot o.keys+Ob.wts o.kids:=by cases o;rw[Ob.wt];rfl
theorem Qa (o:Ob)(key:List UInt8)(v:Ob):(put o key v).wt<=o.wt+(key.length+1)+v.wt:=by
 rw[oK (put o key v),oK o];rw[show (put o key v).s=o.s from rfl,show (put o key v).keys=o.keys.take (place o.keys key)++key::o.keys.drop (place o.keys key+if hit o.keys key then 1 else 0) from rfl,
  show (put o key v).kids=o.kids.take (place o.keys key)++v::o.kids.drop (place o.keys key+if hit o.keys key then 1 else 0) from rfl]
 rw[Pl.Mi,QI];have b:=OR o.keys (place o.keys key);have c:=aaE o.keys (place o.keys key) (place o.keys key+if hit o.keys key then 1 else 0) om;have d:=OK o.kids (place o.keys key);have e:=acC o.kids (place o.keys key) (place o.keys key+if hit o.keys key then 1 else 0) om;have a:∀l,Pl.tot (key::l)=key.length+1+Pl.tot l:=λl=>by simp[Pl.tot]
 rw[a,Ob.wts];omega
theorem RU (key:List UInt8):∀(ks:List (List UInt8)) (cs:List Ob),Pl.tot (cY key ks cs).1<=Pl.tot ks∧Ob.wts (cY key ks cs).2<=Ob.wts cs
|[],cs=>by simp[cY,Pl.tot,Ob.wts]
|k::ks,[]=>by simp[cY,Pl.tot,Ob.wts]
|k::ks,c::cs=>by
  have b:∀a l,Pl.tot (a::l)=a.length+1+Pl.tot l:=λa l=>by simp[Pl.tot]
  obtain⟨d,e⟩:=RU key ks cs;rw[cY];split
  ·rw[b,Ob.wts];exact⟨om,om⟩
  ·rw[b,b,Ob.wts,Ob.wts];exact⟨om,om⟩
theorem fQ (o:Ob)(key:List UInt8):(aM o key).wt<=o.wt:=by
 rw[oK (aM o key),oK o];have:=RU key o.keys o.kids;rw[show (aM o key).s=o.s from rfl,show (aM o key).keys=(cY key o.keys o.kids).1 from rfl,show (aM o key).kids=(cY key o.keys o.kids).2 from rfl];omega
theorem abP (o:Ob):(right o).1.wt<=o.wt:=by
 unfold right;split
 ·show ob0.wt<=_;rw[oK ob0,oK o];show 6+0+Pl.tot []+Ob.wts []<=_;simp[Pl.tot,Ob.wts];omega
 ·exact atE _
theorem Mx (o:Ob)(key:List UInt8)(v:Ob):(set o key v).1.wt<=o.wt+(key.length+1)+v.wt:=by
 have a:ob0.wt<=o.wt:=by
  rw[oK ob0,oK o];show 6+0+Pl.tot []+Ob.wts []<=_;simp[Pl.tot,Ob.wts];omega
 unfold set;split
 ·simp only;omega
 split
 ·simp only;omega
 split
 ·have:=fQ o key;simp only;omega
 ·exact avH (abP _) (Qa o key v)
end Vl
end
section
open Eng Go.RowKit
theorem cH.sep (g:cH S w0 w L)(i j:Nat)(l:i≠j){f:Ent}(hi:L[i]?=ax e)(m:L[j]?=ax f):∀k,e.blk k->¬f.blk k:=by
 obtain⟨a,rfl⟩:=atT.1 hi;obtain⟨b,rfl⟩:=atT.1 m;have hp:=axX.1 g.apart;intro k d c;rcases auC i j with h|h
 ·exact hp i j a b h k d c
 ·exact hp j i b a om k c d
section
variable {w:ao}{S:Nat->Prop}{w0:ao}{L:List Ent}{PK:PKT}{K:VWP}
theorem Ga (o:Ob)(a:vk.oneCell'=av)(c:vc.oneCell'=av)(d:cH S w0 w L)(k:∀b w',cH S w0 w' (obE b o vk vc::L)->K (bR b 0 1 1) w'):DoX ah (aT 23 1 #[(0,obV o vk vc)]) w PK K:=by
 cases vk<;>first|(cases a;done)|skip
 all_goals cases vc<;>first|(cases c;done)|exact bI (λb=>bR b 0 1 1) (obC o _ _) 25 (λ_=>by kernel_rfl) d k
theorem QD (s:List UInt8)(a:cH S w0 w L)(k:∀b w',cH S w0 w' (.cells b [ae s] 9::L)->K (bR b 0 1 1) w'):DoX ah (aT 22 1 #[(0,ae s)]) w PK K:=
 bI (λb=>bR b 0 1 1) [ae s] 9 (λ_=>by kernel_rfl) a k
end
theorem Hc (l:List (List UInt8))(i:Nat):(bF l).take (i*1)=bF (l.take i):=by rw[atY];simp[bF]
theorem Ht (l:List (List UInt8))(i:Nat):(bF l).drop (i*1)=bF (l.drop i):=by rw[atY];simp[bF]
theorem FA (a b:List (List UInt8)):bF (a++b)=bF a++bF b:=by simp[bF]
theorem FV {A:Nat->Prop}{w:ao}:∀{os:List Ob} {cs:List aq} (i:Nat),OVs A w cs os->OVs A w (cs.take (i*6)) (os.take i)
|_,_,0,_=>by rw[awR,awQ,awQ];exact OVs.nil
|[],cs,i+1,h=>by rw[OVs] at h;subst h;rw[List.take_nil,List.take_nil];exact OVs.nil
|o::os,cs,i+1,h=>by
  rw[OVs] at h;obtain⟨a,rest,rfl,b,c,d⟩:=h;have e:(a++rest).take ((i+1)*6)=a++rest.take (i*6):=by
   rw[aAn,auG om]
   congr 2
   omega
  rw[e,ayB,OVs];exact⟨a,_,rfl,b,c,FV i d⟩
theorem Fb {A:Nat->Prop}{w:ao}:∀{os:List Ob} {cs:List aq} (i:Nat),OVs A w cs os->OVs A w (cs.drop (i*6)) (os.drop i)
|_,_,0,h=>by rw[awR,auX,auX];exact h
|[],cs,i+1,h=>by rw[OVs] at h;subst h;rw[azO,azO];exact OVs.nil
|o::os,cs,i+1,h=>by
  rw[OVs] at h;obtain⟨a,rest,rfl,c,d,b⟩:=h;have e:(a++rest).drop ((i+1)*6)=rest.drop (i*6):=by
   rw[axP,auW om,auI]
   congr 1
   omega
  rw[e,ayA];exact Fb i b
theorem Tc (o x:Ob)(v u:aq)(key:List UInt8)(M:Mem)(w:ao)(hw:o.wt<=10000000000)(V:M.has w)(Z:OV M.A M.w v o)(hu:OV M.A M.w u x)(hr:Vl.NX o.keys)(hlen:o.keys.length=o.kids.length) :
  jJ ah 140 #[v,ae key,u] M w (λr N=>OV N.A N.w r (Vl.put o key x)):=by
 obtain⟨vk,vc,cs,rfl,i⟩:=Z.open;obtain⟨d,e,a1,rfl,t⟩:=hu.open;have a6:Ob.wts o.kids<=10000000000:=by cases o;rw[Ob.wt] at hw;simp only[Ob.kids];omega
 have a7:Pl.tot o.keys<=10000000000:=by cases o;rw[Ob.wt] at hw;simp only[Ob.keys];omega
 have a8:=Pl.iY o.keys;have b0:=Ob.vC o.kids;refine aU V λK hK=>Jm ?_;unfold Hw nz;refine eI o i.keys.one i.kids.one (cH.memS V) λj w1 a=>?_;refine eI x t.keys.one t.kids.one a λl w2 a=>?_;refine dM a λm w3 a=>?_;rw[lE,eN a 2 rfl];refine qE (K6 vk o.keys key w3 (i.keys.now (a.hasM 3 rfl)) hr om) ?_;simp only[ex];rw[lE,eN a 2 rfl];refine C5 (CA vk _ _ w3 (i.keys.now (a.hasM 3 rfl)) nA om) λb w4 p=>?_;have a:=a.join p;have a:cH M.A w w4 [.urow 9 1 b o.keys.length (bF o.keys),obE m ob0 cO cO,obE l x d e,obE j o vk vc,.mem M]:=a;rw[lE];refine aN 3 a rfl krx (dO (a.at_ 0 rfl)) (show 0+4 < 6 by omega) λX a=>?_;have a:cH M.A w X [.urow 9 1 b o.keys.length (bF o.keys),obE m ob0 cO cO,obE l x d e,obE j o b vc,.mem M]:=a;rw[jL,cX a 3 rfl];refine C5 (HU vc _ _ X (i.kids.now (a.hasM 4 rfl)) (Em i.all) om) λc w6 p=>?_;have a:=a.join p;have a:cH M.A w w6 [.urow 25 6 c o.kids.length cs,.urow 9 1 b o.keys.length (bF o.keys),obE m ob0 cO cO,obE l x d e,obE j o b vc,.mem M]:=a;rw[jL];refine aN 4 a rfl krx (dO (a.at_ 0 rfl)) (show 0+5 < 6 by omega) λw7 a=>?_;have a:cH M.A w w7 [.urow 25 6 c o.kids.length cs,.urow 9 1 b o.keys.length (bF o.keys),obE m ob0 cO cO,obE l x d e,obE j o b c,.mem M]:=a;have B:=Vl.xV o.keys key;refine join λJ hJ=>?_;have fin:∀(W:ao) (f cv:aq) (ks:List (List UInt8)) (os:List Ob) (ds:List aq),cH M.A w W [.urow 25 6 cv os.length ds,.urow 9 1 f ks.length (bF ks),obE m ob0 cO cO,obE l x d e,obE j o f cv,.mem M] ->
   OVs M.A M.w ds os->Vl.put o key x=.mk o.k o.n o.g o.s ks os->J [] W:=by
  intro W f cv ks os ds a C D;refine hJ _ _ λ_=>?_;unfold D1 nz;have G:=dO (a.at_ 1 rfl);have H:=dO (a.at_ 0 rfl);obtain⟨N,hle,E,a⟩:=cH.bV (L:=[.urow 9 1 f ks.length (bF ks),obE m ob0 cO cO,obE l x d e,obE j o f cv,.mem M]) a 4 rfl;obtain⟨Y,q,y,a⟩:=cH.bV (L:=[obE m ob0 cO cO,obE l x d e,obE j o f cv,.mem N]) a 3 rfl;have a:cH M.A w W [obE m ob0 cO cO,obE l x d e,obE j o f cv,.mem Y]:=a;rw[iV a 2 rfl];refine aP 0 G H a rfl λF a=>?_;refine fH (bJ (a.agg 0 rfl kE)) (hK _ _ Y _ 3 a rfl (hle.trans q) ?_);rw[D];exact rE.ov (o:=.mk o.k o.n o.g o.s ks os) ⟨y,E.le q,C.le (hle.trans q)⟩
 cases I:Vl.hit o.keys key with
|true=>
  simp only[i_t];have hi:o.keys[Vl.place o.keys key]?=ax key:=atQ I;have O:Vl.place o.keys key < o.keys.length:=(atT.1 hi).1;have hg:o.keys[Vl.place o.keys key]=key:=(atT.1 hi).2;rw[jL,cX a 4 rfl,iV a 3 rfl];obtain⟨g,cap,rfl⟩:=qL (a.at_ 0 rfl) om;refine aC (dP atO LV om om) |>.mpr ?_;rw[atC,atK];have b1:cs.length=o.kids.length*6:=i.kids.1.1;refine Gw 0 a rfl (u:=obV x d e) (new:=obC x d e) rfl LV (yO _ t.keys.one t.kids.one) (by show _+6<=_;omega) λF a=>?_;have e1:o.keys.take (Vl.place o.keys key)++key::o.keys.drop (Vl.place o.keys key+1)=o.keys:=by
   conv=>rhs;rw[<-auR (Vl.place o.keys key) o.keys,auL O,hg]
  refine fin F b (bR g 0 o.kids.length cap) o.keys (o.kids.take (Vl.place o.keys key)++x::o.kids.drop (Vl.place o.keys key+1)) (cs.take (Vl.place o.keys key*6)++obC x d e++cs.drop (Vl.place o.keys key*6+6)) ?_ ?_ ?_
  ·have el:(o.kids.take (Vl.place o.keys key)++x::o.kids.drop (Vl.place o.keys key+1)).length=o.kids.length:=by simp;omega
   rw[el];exact a
  ·have:=gI (FV (Vl.place o.keys key) i.all) (gI (Da hu) (Fb (Vl.place o.keys key+1) i.all));rw[show (Vl.place o.keys key+1)*6=Vl.place o.keys key*6+6 by omega,<-atJ] at this;exact this
  ·unfold Vl.put;rw[I];simp only[if_true];rw[e1]
|false=>
  simp only[i_f];rw[lE,eN a 4 rfl];refine QD key a λP F a=>?_;refine rQ 2 a rfl (MZ b o.keys.length (bF o.keys) (Vl.place o.keys key) P [ae key] F (a.at_ 2 rfl) (a.at_ 0 rfl) rfl (λh=>(cH.sep a 2 0 om rfl rfl) P h rfl) nA (by simp[Value.oneCell']) B om) ?_;rintro f e' w9 rfl a;have a:cH M.A w w9 [.cells P [ae key] 9,.urow 25 6 c o.kids.length cs,.urow 9 1 f (o.keys.length+1) ((bF o.keys).take (Vl.place o.keys key*1)++[ae key]++(bF o.keys).drop (Vl.place o.keys key*1)),obE m ob0 cO cO,obE l x d e,obE j o b c,.mem M]:=a;rw[Hc,Ht] at a;have a:=a.tail;rw[lE];refine aN 4 a rfl krx (dO (a.at_ 1 rfl)) (show 0+4 < 6 by omega) λQ a=>?_;have a:cH M.A w Q [.urow 25 6 c o.kids.length cs,.urow 9 1 f (o.keys.length+1) (bF (o.keys.take (Vl.place o.keys key))++[ae key]++bF (o.keys.drop (Vl.place o.keys key))),obE m ob0 cO cO,obE l x d e,obE j o f c,.mem M]:=a;rw[jL,cX a 4 rfl,iV a 3 rfl];refine Ga x t.keys.one t.kids.one a λz R a=>?_;refine rQ 1 a rfl (NQ c o.kids.length cs (Vl.place o.keys key) z (obC x d e) R (a.at_ 1 rfl) (a.at_ 0 rfl) rfl (λh=>(cH.sep a 1 0 om rfl rfl) z h rfl) (Em i.all) (yO _ t.keys.one t.kids.one) om om) ?_;rintro cv e' S rfl a;have a:cH M.A w S [.cells z (obC x d e) 25,.urow 25 6 cv (o.kids.length+1) (cs.take (Vl.place o.keys key*6)++obC x d e++cs.drop (Vl.place o.keys key*6)),.urow 9 1 f (o.keys.length+1) (bF (o.keys.take (Vl.place o.keys key))++[ae key]++bF (o.keys.drop (Vl.place o.keys key))),obE m ob0 cO cO,obE l x d e,obE j o f c,.mem M]:=a;have a:=a.tail;rw[jL];refine aN 4 a rfl krx (dO (a.at_ 0 rfl)) (show 0+5 < 6 by omega) λT a=>?_;refine fin T f cv (o.keys.take (Vl.place o.keys key)++key::o.keys.drop (Vl.place o.keys key)) (o.kids.take (Vl.place o.keys key)++x::o.kids.drop (Vl.place o.keys key)) (cs.take (Vl.place o.keys key*6)++obC x d e++cs.drop (Vl.place o.keys key*6)) ?_ ?_ ?_
  ·have el:(o.kids.take (Vl.place o.keys key)++x::o.kids.drop (Vl.place o.keys key)).length=o.kids.length+1:=by simp;omega
   have U:(o.keys.take (Vl.place o.keys key)++key::o.keys.drop (Vl.place o.keys key)).length=o.keys.length+1:=by simp;omega
   have es:bF (o.keys.take (Vl.place o.keys key)++key::o.keys.drop (Vl.place o.keys key))=bF (o.keys.take (Vl.place o.keys key))++[ae key]++bF (o.keys.drop (Vl.place o.keys key)):=by
    rw[FA];simp[bF,strV]
   rw[el,U,es];exact a
  ·have:=gI (FV (Vl.place o.keys key) i.all) (gI (Da hu) (Fb (Vl.place o.keys key) i.all));rw[<-atJ] at this;exact this
  ·unfold Vl.put;rw[I];simp
theorem Sl.upto {a:Option Addr}{n:Nat}(h:Sl w (.slice a n cap) sz n cs)(hi:i<=n):Sl w (.slice (wF a 0 cap sz) i cap) sz i (cs.take (i*sz)):=by
 obtain⟨g,a',d,e,k,f⟩:=h
 injection e with l _ m
 subst l;subst m;refine⟨by rw[atF,g,auM (auY _ hi)],wF a 0 cap sz,cap,rfl,?_,?_⟩
 ·intro c;cases a with
 |none=>have:=k rfl;omega
 |some p=>unfold wF at c;split at c<;>simp at c
 ·intro p hp;cases a with
 |none=>unfold wF at hp;split at hp<;>simp at hp
 |some q=>
   have o:q=p:=by
    unfold wF at hp;split at hp
    ·exact awT hp
    ·have:=awT hp;rw[<-this];simp[Addr.add]
   subst o;refine⟨λh=>(f q rfl).1 om,λj u b=>(f q rfl).2 j u ?_⟩;rw[avZ] at b;split at b<;>first|exact b|cases b
theorem Sl.from {a:Option Addr}{n:Nat}(h:Sl w (.slice a n cap) sz n cs)(hi:i<=n)(z:n<=cap):Sl w (.slice (wF a i cap sz) (n - i) (cap - i)) sz (n - i) (cs.drop (i*sz)):=by
 obtain⟨g,a',t,e,v,k⟩:=h
 injection e with x _ y
 subst x;subst y;refine⟨by rw[atG,g,<-azL],wF a i cap sz,cap - i,rfl,?_,?_⟩
 ·intro c;cases a with
 |none=>have:=v rfl;omega
 |some p=>unfold wF at c;split at c<;>simp at c
 ·intro p hp;cases a with
 |none=>unfold wF at hp;split at hp<;>simp at hp
 |some q=>
   by_cases l:cap=i
   ·have c:n - i=0:=om
    refine⟨λh=>by omega,λj u d=>?_⟩;have:(cs.drop (i*sz)).length=0:=by rw[atG,g,<-azL,c,awR]
    have:=(atT.1 d).1;omega
   ·unfold wF at hp;rw[asT l,ayO] at hp
    injection hp with hp
    have m:0 < n - i->q.spot=none:=λh=>(k q rfl).1 om;refine⟨λh=>?_,λj u d=>?_⟩
    ·have f:=m h;rw[<-hp];obtain⟨b,off,spot⟩:=q;simp only at f;subst f;rw[cK]
    ·rw[awJ] at d;have o:=(k q rfl).2 (i*sz+j) u d;have r:=(atT.1 d).1;have f:q.spot=none:=(k q rfl).1 (by
      rcases awB n with s|s
      ·rw[g,s,awR] at r;omega
      ·exact s)
     rw[<-hp];obtain⟨b,off,spot⟩:=q;simp only at f;subst f;rw[cK,awP];exact o
theorem SlA.form {n:Nat}(h:SlA A w v sz n cs):∃a cap,v=.slice a n cap∧n<=cap:=by
 obtain⟨⟨_,a,cap,rfl,_⟩,_,b⟩:=h;exact⟨a,cap,rfl,b a n cap rfl⟩
theorem OX (o:Ob)(v:aq)(i:Nat)(M:Mem)(w:ao)(hw:o.wt<=10000000000)(z:M.has w)(E:OV M.A M.w v o)(hi:i < o.keys.length)(hlen:o.keys.length=o.kids.length) :
  jJ ah 155 #[v,ad (i:Int)] M w (λr N=>OV N.A N.w r (.mk o.k o.n o.g o.s (o.keys.take i++o.keys.drop (i+1)) (o.kids.take i++o.kids.drop (i+1)))):=by
 obtain⟨vk,vc,cs,rfl,h⟩:=E.open;have F:Ob.wts o.kids<=10000000000:=by cases o;rw[Ob.wt] at hw;simp only[Ob.kids];omega
 have G:Pl.tot o.keys<=10000000000:=by cases o;rw[Ob.wt] at hw;simp only[Ob.keys];omega
 have H:=Pl.iY o.keys;have I:=Ob.vC o.kids;refine aU z λK J=>E2 ?_;unfold Bf nz;refine eI o h.keys.one h.kids.one (cH.memS z) λe Q a=>?_;refine dM a λf w2 a=>?_;rw[lE,eN a 1 rfl];refine C5 (CA vk _ _ w2 (h.keys.now (a.hasM 2 rfl)) nA om) λm w3 c=>?_;have a:=a.join c;have a:cH M.A w w3 [.urow 9 1 m o.keys.length (bF o.keys),obE f ob0 cO cO,obE e o vk vc,.mem M]:=a;simp only[rs];rw[aA om om,show (i:Int)+1=((i+1:Nat):Int) by omega];refine rQ 0 a rfl (Nl m o.keys.length (bF o.keys) i w3 (a.at_ 0 rfl) nA hi om) ?_;rintro b e' O rfl a;have a:cH M.A w O [.urow 9 1 b (o.keys.length - 1) ((bF o.keys).take (i*1)++(bF o.keys).drop ((i+1)*1)),obE f ob0 cO cO,obE e o vk vc,.mem M]:=a;rw[Hc,Ht] at a;rw[lE];have p:=dO (a.at_ 0 rfl);refine aN 2 a rfl krx p (show 0+4 < 6 by omega) λB a=>?_;have a:cH M.A w B [.urow 9 1 b (o.keys.length - 1) (bF (o.keys.take i)++bF (o.keys.drop (i+1))),obE f ob0 cO cO,obE e o b vc,.mem M]:=a;rw[jL,cX a 2 rfl];refine C5 (HU vc _ _ B (h.kids.now (a.hasM 3 rfl)) (Em h.all) om) λq C c=>?_;have a:=a.join c;have a:cH M.A w C [.urow 25 6 q o.kids.length cs,.urow 9 1 b (o.keys.length - 1) (bF (o.keys.take i)++bF (o.keys.drop (i+1))),obE f ob0 cO cO,obE e o b vc,.mem M]:=a;refine rQ 0 a rfl (NS q o.kids.length cs i C (a.at_ 0 rfl) (Em h.all) om om) ?_;rintro cv e' P rfl a;have a:cH M.A w P [.urow 25 6 cv (o.kids.length - 1) (cs.take (i*6)++cs.drop ((i+1)*6)),.urow 9 1 b (o.keys.length - 1) (bF (o.keys.take i)++bF (o.keys.drop (i+1))),obE f ob0 cO cO,obE e o b vc,.mem M]:=a;have t:=dO (a.at_ 0 rfl);rw[jL];refine aN 3 a rfl krx t (show 0+5 < 6 by omega) λD a=>?_;have a:cH M.A w D [.urow 25 6 cv (o.kids.length - 1) (cs.take (i*6)++cs.drop ((i+1)*6)),.urow 9 1 b (o.keys.length - 1) (bF (o.keys.take i)++bF (o.keys.drop (i+1))),obE f ob0 cO cO,obE e o b cv,.mem M]:=a;obtain⟨N,hle,u,a⟩:=cH.bV (L:=[.urow 9 1 b (o.keys.length - 1) (bF (o.keys.take i)++bF (o.keys.drop (i+1))),obE f ob0 cO cO,obE e o b cv,.mem M]) a 3 rfl;obtain⟨l,d,j,a⟩:=cH.bV (L:=[obE f ob0 cO cO,obE e o b cv,.mem N]) a 2 rfl;have a:cH M.A w D [obE f ob0 cO cO,obE e o b cv,.mem l]:=a;rw[iV a 1 rfl];refine aP 0 p t a rfl λR a=>?_;refine fH (bJ (a.agg 0 rfl kE)) (J _ _ l _ 2 a rfl (hle.trans d) ?_);have x:(o.keys.take i++o.keys.drop (i+1)).length=o.keys.length - 1:=by simp;omega
 have y:(o.kids.take i++o.kids.drop (i+1)).length=o.kids.length - 1:=by simp;omega
 refine rE.ov (o:=.mk o.k o.n o.g o.s (o.keys.take i++o.keys.drop (i+1)) (o.kids.take i++o.kids.drop (i+1))) (vk:=b) (vc:=cv) (cs:=cs.take (i*6)++cs.drop ((i+1)*6)) ⟨?_,?_,?_⟩
 ·show SlA l.A l.w b 1 (o.keys.take i++o.keys.drop (i+1)).length (bF (o.keys.take i++o.keys.drop (i+1)));rw[x,FA];exact j
 ·show SlA l.A l.w cv 6 (o.kids.take i++o.kids.drop (i+1)).length _;rw[y];exact u.le d
 ·exact (gI (FV i h.all) (Fb (i+1) h.all)).le (hle.trans d)
def gi (o:Ob)(key:List UInt8):Ob:=if Vl.keyed o=av∧Vl.check 1 o=0 then Vl.aM o key else o
theorem Fo (o:Ob)(v:aq)(key:List UInt8)(M:Mem)(w:ao)(hw:o.wt<=10000000000)(s:M.has w)(e:OV M.A M.w v o) :
  jJ ah 88 #[v,ae key] M w (λr N=>OV N.A N.w r (gi o key)):=by
 obtain⟨vk,vc,cs,rfl,h⟩:=e.open;have x:Pl.tot o.keys<=10000000000:=by cases o;rw[Ob.wt] at hw;simp only[Ob.keys];omega
 have z:=Pl.iY o.keys;refine aU s λK B=>JP ?_;unfold HJ nz;refine eI o h.keys.one h.kids.one (cH.memS s) λC O a=>?_;refine dM a λD w2 a=>?_;refine join λJ E=>?_;have fin:∀(W:ao) (N:Mem) (p:Ob) (l cv:aq),cH M.A w W [obE D ob0 cO cO,obE C p l cv,.mem N]->M.le N->OV N.A N.w (obV p l cv) p->p=gi o key->p.wt<=10000000000->J [] W:=by
  intro W N p l cv a hle hp he F;refine E _ _ λ_=>?_;unfold DJ nz;rw[iV a 1 rfl];refine bG a 2 rfl (Bc p _ N W om (a.hasM 2 rfl) hp) λy G i j f a=>?_;obtain⟨t,u,m,rfl,b⟩:=f.open;refine aP 0 b.keys.one b.kids.one a rfl λH a=>?_;exact fH (bJ (a.agg 0 rfl kE)) (B _ _ G _ 2 a rfl (hle.trans j) (he▸f))
 rw[iV a 1 rfl];refine aJ a (R:=λv=>v=.bool (Vl.keyed o)) (JU o h.keys.one h.kids.one w2) ?_;rintro _ w3 rfl a;cases c:Vl.keyed o with
|false=>
  simp only[rs,nE];exact fin w3 M o vk vc a M.le_refl e (by unfold gi;rw[asT (by simp[c])]) hw
|true=>
  simp only[rs];rw[iV a 1 rfl];refine aJ a (R:=λv=>v=ad (Vl.check 1 o)) (wV o _ w3 (OV.inw (a.hasM 2 rfl) e) om) ?_;rintro _ i rfl a;simp only[rs];by_cases g:Vl.check 1 o=0
  ·simp only[g,asX,rs];obtain⟨I,hlen⟩:=Vl.gQ g c;rw[lE,eN a 1 rfl];refine qE (K6 vk o.keys key i (h.keys.now (a.hasM 2 rfl)) I om) ?_;simp only[ex];have d:=Vl.UH g c key;have k:gi o key=Vl.aM o key:=by unfold gi;rw[asU ⟨c,g⟩]
   cases n:Vl.hit o.keys key with
  |true=>
    simp only[i_t];rw[n,asU rfl] at d;have hi:o.keys[Vl.place o.keys key]?=ax key:=atQ n;have q:Vl.place o.keys key < o.keys.length:=(atT.1 hi).1;rw[iV a 1 rfl];refine bG a 2 rfl (OX o _ _ M i hw (a.hasM 2 rfl) e q hlen) λy N H hle f a=>?_;rw[<-d] at f;obtain⟨t,u,m,rfl,b⟩:=f.open;refine aP 1 b.keys.one b.kids.one a rfl λL a=>?_;exact fin L N _ t u a hle f k.symm (avH (Vl.fQ o key) hw)
  |false=>
    simp only[i_f];rw[n] at d;exact fin i M o vk vc a M.le_refl e (by rw[k,d];rfl) hw
  ·simp only[g,asW,rs];exact fin i M o vk vc a M.le_refl e (by unfold gi;rw[asT (by simp[g])]) hw
theorem SX (o x:Ob)(v u:aq)(key:List UInt8)(M:Mem)(w:ao)(hw:o.wt<=10000000000)(E:x.wt<=10000000000)(F:key.length<=10000000000)(s:M.has w)(i:OV M.A M.w v o)(hu:OV M.A M.w u x) :
  jJ ah 70 #[v,ae key,u] M w (λr N=>∃v',r=vI v' (Vl.set o key x).2∧OV N.A N.w v' (Vl.set o key x).1):=by
 obtain⟨vk,vc,cs,rfl,j⟩:=i.open;obtain⟨X,Y,G,rfl,B⟩:=hu.open;refine aU s λK l=>LB ?_;unfold JW nz;refine eI o j.keys.one j.kids.one (cH.memS s) λZ w1 a=>?_;refine eI x B.keys.one B.kids.one a λb5 w2 a=>?_;refine dM a λb6 w3 a=>?_;rw[iV a 2 rfl];refine aJ a (R:=λv=>v=.bool (Vl.keyed o)) (JU o j.keys.one j.kids.one w3) ?_;rintro _ H rfl a;cases b:Vl.keyed o with
|false=>
  simp only[rs,auN];rw[sR];refine aP 0 rfl rfl a rfl λp a=>?_;refine bX 0 a rfl (l _ _ M _ 3 a rfl M.le_refl ⟨obV Vl.ob0 cO cO,?_,?_⟩)
  ·simp[Vl.set,b,vI]
  ·simpa[Vl.set,b] using jD M
|true=>
  simp only[rs,auO];rw[iV a 2 rfl];refine aJ a (R:=λv=>v=ad (Vl.check 1 o)) (wV o _ H (OV.inw (a.hasM 3 rfl) i) om) ?_;rintro _ p rfl a;simp only[eF];by_cases c:Vl.check 1 o=0
  ·simp only[c,ne_eq,not_true,asW,i_f];rw[eO,sA a 1 rfl];simp only[rs];by_cases m:x.k=0
   ·simp only[m,asX,i_t];rw[iV a 2 rfl];refine bG a 3 rfl (Fo o _ key M p hw (a.hasM 3 rfl) i) λy N q hle n a=>?_;obtain⟨I,J,L,rfl,d⟩:=n.open;refine aP 0 d.keys.one d.kids.one a rfl λC a=>?_;have e:Vl.set o key x=(gi o key,0):=by simp[Vl.set,b,c,m,gi]
    refine bX 0 a rfl (l _ _ N _ 3 a rfl hle ⟨obV (gi o key) I J,?_,?_⟩)
    ·rw[e];rfl
    ·rw[e];exact n
   ·simp only[m,asW,i_f];rw[iV a 2 rfl,iV a 1 rfl];obtain⟨O,hlen⟩:=Vl.gQ c b;have P:=Vl.Qa o key x;refine bG a 3 rfl (Tc o x _ _ key M p hw (a.hasM 3 rfl) i hu O hlen) λy N q hle n a=>?_;refine bG a 3 rfl (Bc _ _ N q om (a.hasM 3 rfl) n) λz Q C f S a=>?_;refine bG a 3 rfl (Kw _ _ Q C om (a.hasM 3 rfl) S) ?_;rintro _ T w8 g ⟨t,rfl,D⟩ a;obtain⟨U,V,W,rfl,h⟩:=D.open;simp only[vI,ex];refine aP 0 h.keys.one h.kids.one a rfl λw9 a=>?_;have e:Vl.set o key x=Vl.right (Vl.put o key x):=by simp[Vl.set,b,c,m]
    refine bX 0 a rfl (l _ _ T _ 3 a rfl (hle.trans (f.trans g)) ⟨obV (Vl.right (Vl.put o key x)).1 U V,?_,?_⟩)
    ·rw[e];rfl
    ·rw[e];exact D
  ·simp only[c,ne_eq,avD,asX,i_t];rw[sR];refine aP 0 rfl rfl a rfl λq a=>?_;refine bX 0 a rfl (l _ _ M _ 3 a rfl M.le_refl ⟨obV Vl.ob0 cO cO,?_,?_⟩)
   ·simp[Vl.set,b,c,vI]
   ·simpa[Vl.set,b,c] using jD M
end
end Go.Proofs.YtlipjfcbjemicaaGreatDoor
