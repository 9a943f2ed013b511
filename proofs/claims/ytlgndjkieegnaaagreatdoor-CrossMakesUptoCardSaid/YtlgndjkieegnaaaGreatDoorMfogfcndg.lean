/- Parts of the proof. -/
import Derived.Test.YtlgndjkieegnaaaGreatDoorRows
import Derived.Lib.IndexMore
import Derived.Lib.LastIndexLaws
import Derived.Lib.SmallJoins
import Derived.Lib.Overlaps
import Derived.Laws.Externs
import Derived.Lib.Repeat
import Derived.Lib.Case
import Derived.Maps.RangeRun
import Derived.Test.YtlgndjkieegnaaaGreatDoorMeabjbifi
set_option linter.all false
set_option maxRecDepth 20000
open Go.Proofs.Tryz
open Go.Proofs.Tryz renaming prog->ah
open Option renaming some->ay,none->ax
open Bool renaming true->aw,false->au
open Go renaming Value->aq,World->ao
open Decidable renaming decide->ai
namespace Go.Proofs.YtlgndjkieegnaaaGreatDoor
variable{A S:Nat->Prop}{K:VWP}{L:List Eng.Ent}{M N:Eng.Mem}{P:Program}{PK:PKT}{R:Ending->FrameMode->ao->Prop}{a:Int}{args:Array aq}{b cap d f i m sz:Nat}{cb:Array Bool}{cs news xs:List aq}{ds:List Deferred}{e:Eng.Ent}{key:List UInt8}{o:Ob}{q:Bool}{t0 v v2 va vc vk:aq}{u:FrameMode}{w w0:ao}{xo yo:Operand}{α:Type}{t0 t1 t2:aq}{k0:Eng.KT}
section
open Eng Go.RowKit
 attribute [local congr] D3
theorem bT.arV {w2 a:ao}{d e:List Ent}(f:Own w0 w2 d)(g:Own w0 a e):Kept (InW w0) w2 a:=λb c=>(g.done.block b c).trans (f.done.block b c).symm
theorem tE.later {w2 d:ao}{g i:List Ent}(h:tE (InW w0) w2 o vk vc cs)(j:Own w0 w2 g)(b:Own w0 d i):tE (InW d) d o vk vc cs:=by
 have a:=h.kept (bT.arV j b);exact⟨⟨a.keys.1,(λp l c e f=>awO (a.keys.2.1 p l c e f) b.size),a.keys.2.2⟩,⟨a.kids.1,(λp l c e f=>awO (a.kids.2.1 p l c e f) b.size),a.kids.2.2⟩,OVs.mono (λ_ k=>awO k b.size) _ _ a.all⟩
theorem WZ:∀{l:List (List UInt8)} {k:List UInt8},k∈l->k.length<=Pl.tot l
|a::l,k,h=>by
  simp only[Pl.tot,avS,ayH];rcases auI.1 h with rfl|h
  ·omega
  ·have:=WZ h;simp only[Pl.tot] at this;omega
theorem Xi:∀{l:List Ob} {o:Ob},o∈l->o.wt<=Ob.wts l
|a::l,o,h=>by
  rw[Ob.wts];rcases auI.1 h with rfl|h
  ·omega
  ·have:=Xi h;omega
theorem Ob.kN (o:Ob):o.wt=6+o.s.length+Pl.tot o.keys+Ob.wts o.kids:=by cases o;rw[Ob.wt];rfl
theorem Ob.KU (o:Ob):6<=o.wt:=by rw[o.kN];omega
theorem Y8:∀l:List Ob,l.length*6<=Ob.wts l
|[]=>by simp
|a::l=>by
  have:=Y8 l;have:=a.KU;rw[Ob.wts,auX];omega
theorem ER (hi:i < o.kids.length):o.kids[i].wt < o.wt:=by
 have:=Xi (auS hi);rw[o.kN];omega
theorem Ks (d:Nat)(l:List Ob)(i:Nat)(hi:i < l.length):Vl.oA d (l.drop i)=if Vl.check d l[i]≠0 then Vl.check d l[i] else Vl.oA d (l.drop (i+1)):=by
 rw[avX hi,Vl.oA]
theorem Rn :o.keys.length<=o.wt:=by
 have h:∀l:List (List UInt8),l.length<=Pl.tot l:=by
  intro l
  induction l with
 |nil=>simp
 |cons a l b=>simp only[Pl.tot,avS,ayH,auX] at b ⊢;omega
 have:=h o.keys;rw[o.kN];omega
theorem qZ {o:Ob}:o.kids.length<=o.wt:=by
 have:=Y8 o.kids;rw[o.kN];omega
theorem Ws :o.s.length<=o.wt:=by rw[o.kN];omega
theorem SG {k:List UInt8}(h:k∈o.keys):k.length<=o.wt:=by
 have:=WZ h;rw[o.kN];omega
theorem X7 (h:Vl.why d o≠0):Vl.check d o=Vl.why d o:=by rw[Vl.E9,auC h]
theorem P4 (n:Nat):∀(o:Ob) (v:aq) (d:Nat) (w:ao),o.wt<=n->OV (InW w) w v o->o.wt<=4611686018427387904->d<=1000 ->
  Ret ah 90 #[v,ad (d:Int)] w (λv w'=>v=ad (Vl.check d o)∧Below w.heap.size w w'):=by
 induction n with
|zero=>intro o v d w h;have:=o.KU;omega
|succ n U=>
 intro o v d w hn J hb hd;obtain⟨vk,vc,cs,rfl,t⟩:=J.open;refine aX λK r=>yO ?_;unfold qL nz;refine eQ o t.keys.one t.kids.one (Own.start w) λb S a=>?_;simp only[rs];have out:∀(e:Int) (W:ao) (L:List Ent),Own w W L->Vl.why d o=e->e≠0->K (.returned (ad e)) W:=by
  intro e W L a M V;exact r _ _ ⟨by rw[X7 (by rw[M];exact V),M],a.done⟩
 by_cases z:(24:Int) < (d:Int)
 ·simp only[z,auE,i_t];exact out 7 S _ a (by rw[Vl.why,auC om]) dc
 simp only[z,auF,i_f,jL a 0 rfl];refine tQ (Q8 o _ S (t.in_ a).ov) rfl a λw2 a=>?_;have c:¬24 < d:=om
 cases hu:Vl.gL o with
|false=>
  simp only[rs,avZ,oG];exact out 10 w2 _ a (by rw[Vl.why,auB c,auC (.inl hu)]) dc
|true=>
 have X:(o.k=9∧1 < d)∨¬(o.k=9∧1 < d):=by by_cases h:(o.k=9∧1 < d)<;>simp[h]
 have N:∀(A B:Prop),(o.k=9∧1 < d->A)->(¬(o.k=9∧1 < d)->B)->IfX (.bool (ai (o.k=9)&&ai ((1:Int) < (d:Int)))) A B:=by
  intro A B Y Z;by_cases h:(o.k=9∧1 < d)
  ·have e:(ai (o.k=9)&&ai ((1:Int) < (d:Int)))=true:=by simp[h.1];omega
   rw[e,i_t];exact Y h
  ·have e:(ai (o.k=9)&&ai ((1:Int) < (d:Int)))=false:=by
    rw[aAW];by_cases y:o.k=9
    ·right;rw[awY];intro M;exact h ⟨y,om⟩
    ·left;exact auD y
   rw[e,i_f];exact Z h
 simp +contextual only[rs,gs,awA,eG,vE a 0 rfl];refine N _ _ (λy=>?_) λy=>?_
 ·exact out 10 w2 _ a (by rw[Vl.why,auB c,auC (.inr y)]) dc
 have j:¬(Vl.gL o=au∨(o.k=9∧1 < d)):=by
  rintro (h|h)
  ·rw[hu] at h;cases h
  ·exact y h
 rw[jL a 0 rfl];refine tQ (WK o _ w2 (t.in_ a).ov) rfl a λw3 a=>?_;cases C:Vl.fits o with
|false=>
  simp only[rs,avZ];exact out 2 w3 _ a (by rw[Vl.why,auB c,auB j,auC C]) dc
|true=>
 have f:¬Vl.fits o=false:=by rw[C];decide
 simp only[rs,awA];refine quiet ?_;refine dY _ (λ_=>bE ajS) ?_;refine gA (ae o.s) (λW u=>aB Gh ((a.grow u).cell 0 rfl 3 rfl)) ?_;refine Xo auQ ?_;refine dY _ (λ_=>bE amP) ?_;refine gA (ad o.k) (λW u=>aB aU ((a.grow u).cell 0 rfl 0 rfl)) ?_;refine fY _ (λW u=>abJ (Vb o.k W) u) ?_;refine IM ?_;intro O u;have a:=a.grow u;by_cases D:((Vl.long o.k:Nat):Int) < (o.s.length:Int)
 ·simp only[D,auE,i_t];exact out 5 O _ a (by rw[Vl.why,auB c,auB j,auB f,auC om]) dc
 have l:¬Vl.long o.k < o.s.length:=om
 have lc:∀{W:ao} {L:List Ent},Own w W L->∀{PK:PKT} {K:VWP},DoX ah (mB .len #[23] 3 #[au] #[vc]) W PK K=K (ad (o.kids.length:Int)) W:=λa=>aZ auU (t.own a).kids.1;simp only[D,auF,i_f,iR,cQ a 0 rfl,lc a,rs];by_cases m:(8191:Int) < (o.kids.length:Int)
 ·simp only[m,auE,i_t];exact out 6 O _ a (by rw[Vl.why,auB c,auB j,auB f,auB l,auC om]) dc
 have g:¬8191 < o.kids.length:=om
 simp only[m,auF,i_f,jL a 0 rfl];refine tQ (XS o _ O (t.in_ a).ov (by have:=Ws (o:=o);omega) (by have:=Rn (o:=o);omega) (λk hk=>by have:=SG hk;omega)) rfl a λw5 a=>?_;cases E:Vl.form o with
|false=>
  simp only[rs,avZ];exact out 3 w5 _ a (by rw[Vl.why,auB c,auB j,auB f,auB l,auB g,auC E]) dc
|true=>
 have F:¬Vl.form o=false:=by rw[E];decide
 have P:Vl.why d o=0:=by rw[Vl.why,auB c,auB j,auB f,auB l,auB g,auB F]
 have Q:Vl.check d o=Vl.oA (d+1) o.kids:=by rw[Vl.E9,auB (by simp[P])]
 rw[Q] at r;simp only[rs,awA,cQ a 0 rfl,lc a];refine loop (λvs w'=>∃(i:Nat),vs=[ad i]∧i<=o.kids.length∧Vl.oA (d+1) o.kids=Vl.oA (d+1) (o.kids.drop i)∧Own w w' [obE b o vk vc]) (λvs _=>o.kids.length - n0 vs) ⟨0,rfl,om,rfl,a⟩ ?_;rintro vs w6 ⟨i,rfl,hi,I,a⟩ _;rw[I] at r;simp only[mM,gd,rs,nz];by_cases G:(i:Int) < (o.kids.length:Int)
 ·have x:i < o.kids.length:=om
  simp only[G,auE,i_t];rw[Ks _ _ _ x] at r I;have H:=t.own a;refine ahA H.kids.1 H.all x λv hv=>?_;obtain⟨vk',vc',a1,rfl,p⟩:=hv.open;have R:=a;refine dJ a λb7 w7 a=>?_;refine aT 0 p.keys.one p.kids.one a rfl λT a=>?_;have a:Own w T [obE b7 o.kids[i] vk' vc',obE b o vk vc]:=a;rw[jL a 0 rfl,aA om om,show (d:Int)+1=((d+1:Nat):Int) by omega];have a6:=ER x;refine tQ (U o.kids[i] _ (d+1) T om (p.later R a).ov om om) rfl a λw9 a=>?_;simp only[rs];by_cases q:Vl.check (d+1) o.kids[i]=0
  ·simp only[q,ne_eq,not_true,auF,i_f];rw[aA om om];rw[auB (by simp[q])] at I;exact bC ⟨i+1,rfl,om,I,a.tail⟩ (by simp[n0,RowKit.intOf];omega)
  ·simp only[q,ne_eq,awJ,auE,i_t];rw[auC q] at r;exact r _ _ ⟨rfl,a.done⟩
 ·simp only[G,auF,i_f];rw[aAa om,Vl.oA] at r;exact r _ _ ⟨rfl,a.done⟩
theorem lE (o:Ob)(v:aq)(w:ao)(h:OV (InW w) w v o)(d:o.wt<=4611686018427387904):Ret ah 47 #[v] w (λv w'=>v=ad (Vl.check 1 o)∧Below w.heap.size w w'):=by
 obtain⟨vk,vc,cs,rfl,c⟩:=h.open;refine aX λK e=>yS ?_;unfold pX nz;refine eQ o c.keys.one c.kids.one (Own.start w) λb f a=>?_;rw[jL a 0 rfl];refine tQ (P4 o.wt o _ 1 f (auL _) (c.in_ a).ov d om) rfl a λw2 a=>?_;exact e _ _ ⟨rfl,a.done⟩
theorem Vq (l:List Ob)(i:Nat)(hi:i < l.length):Vl.xK (l.take (i+1))=Vl.xK (l.take i)+Vl.size l[i]:=by
 have h:∀(l:List Ob) (o:Ob),Vl.xK (l++[o])=Vl.xK l+Vl.size o:=by
  intro l o
  induction l with
 |nil=>simp[Vl.xK]
 |cons a l b=>rw[axW,Vl.xK,b,Vl.xK];omega
 rw[avL hi,h]
theorem Mt (l:List Ob)(i:Nat):Vl.xK (l.take i)<=Vl.xK l:=by
 induction l generalizing i with
|nil=>simp
|cons a l b=>
  cases i with
 |zero=>simp[Vl.xK]
 |succ i=>rw[azA,Vl.xK,Vl.xK];have:=b i;omega
theorem Zf (n:Nat):∀(o:Ob) (v:aq) (w:ao),o.wt<=n->OV (InW w) w v o->o.wt<=4611686018427387904 ->
  Ret ah 24 #[v] w (λv w'=>v=ad (Vl.size o:Nat)∧Below w.heap.size w w'):=by
 induction n with
|zero=>intro o v w h;have:=o.KU;omega
|succ n B=>
 intro o v w T p U;obtain⟨vk,vc,cs,rfl,g⟩:=p.open;refine aX λK C=>Ao ?_;unfold sI nz;refine eQ o g.keys.one g.kids.one (Own.start w) λb V a=>?_;have D:=Ws (o:=o);have E:=Rn (o:=o);have F:=qZ (o:=o);have G:=Vl.Wb o;have j:∀m:Nat,(m:Int).tdiv 50=((m / 50:Nat):Int):=λm=>by rw[aAX om];omega
 have lk:∀{W:ao} {L:List Ent},Own w W L->∀{PK:PKT} {K:VWP},DoX ah (mB .len #[22] 3 #[au] #[vk]) W PK K=K (ad (o.keys.length:Int)) W:=λa=>aZ auR (g.own a).keys.1;have lc:∀{W:ao} {L:List Ent},Own w W L->∀{PK:PKT} {K:VWP},DoX ah (mB .len #[23] 3 #[au] #[vc]) W PK K=K (ad (o.kids.length:Int)) W:=λa=>aZ auU (g.own a).kids.1;rw[El,NW a 0 rfl,iU auQ,RM dc,j,aA om om,OA,aA om om,iZ,dZ a 0 rfl,lk a];have f:∀i,((o.keys.take i).map λk=>k.length / 50).sum<=(o.keys.map λk=>k.length / 50).sum:=by
  intro i
  conv=>rhs;rw[<-avV i o.keys,avM,aAq]
  omega
 have r:=Vl.size_eq o;refine loop (λvs w'=>∃(i:Nat) (m:Int),vs=[ad m,ad i]∧i<=o.keys.length∧m=((1+o.s.length / 50+((o.keys.take i).map λk=>k.length / 50).sum:Nat):Int)∧Own w w' [obE b o vk vc]) (λvs _=>o.keys.length - n1 vs) ⟨0,_,rfl,om,sm,a⟩ ?_;rintro vs w2 ⟨i,m,rfl,hi,rfl,a⟩ _;have H:=f i;simp only[pB,gd,rs,nz];by_cases d:(i:Int) < (o.keys.length:Int)
 ·have c:i < o.keys.length:=om
  simp only[d,auE,i_t];refine HI (ae (o.keys[i])) auR krx (g.own a).keys.1 om (by rw[auJ];exact fF c) λq I=>?_;have J:=SG (auS c);have M:=f (i+1);have t:((o.keys.take (i+1)).map λk=>k.length / 50).sum=((o.keys.take i).map λk=>k.length / 50).sum+o.keys[i].length / 50:=by
   rw[avL c,avM,aAq];simp
  rw[aJ Gh I,iU auQ,RM dc,j,aA (n:=((o.keys[i].length / 50:Nat):Int)) om om];simp only[rs];rw[aA om om,aA om om];exact bC ⟨i+1,_,rfl,om,by rw[t];omega,a⟩ (by simp[n1,RowKit.intOf];omega)
 simp only[d,auF,i_f,iR,cQ a 0 rfl,lc a];have u:i=o.keys.length:=om
 subst u;rw[awD];refine loop (λvs w'=>∃(i:Nat) (m:Int),vs=[ad m,ad i]∧i<=o.kids.length∧m=((1+o.s.length / 50+(o.keys.map λk=>k.length / 50).sum+Vl.xK (o.kids.take i):Nat):Int)∧Own w w' [obE b o vk vc]) (λvs _=>o.kids.length - n1 vs) ⟨0,_,rfl,om,by simp[Vl.xK],a⟩ ?_;rintro vs w3 ⟨i,m,rfl,N,rfl,a⟩ _;simp only[pG,gd,rs,nz];have O:=Mt o.kids i;by_cases d:(i:Int) < (o.kids.length:Int)
 ·have c:i < o.kids.length:=om
  simp only[d,auE,i_t];have l:=g.own a;refine ahA l.kids.1 l.all c λv P=>?_;obtain⟨vk',vc',Q,rfl,e⟩:=P.open;have x:=a;refine dJ a λR X a=>?_;refine aT 0 e.keys.one e.kids.one a rfl λz a=>?_;have a:Own w z [obE R o.kids[i] vk' vc',obE b o vk vc]:=a;rw[jL a 0 rfl];have S:=ER c;refine tQ (B o.kids[i] _ z om (e.later x a).ov om) rfl a λY a=>?_;have y:=Vq o.kids i c;have A:=Mt o.kids (i+1);simp only[rs];rw[aA om om,aA om om];exact bC ⟨i+1,_,rfl,om,by rw[y];omega,a.tail⟩ (by simp[n1,RowKit.intOf];omega)
 ·simp only[d,auF,i_f];rw[avE om];refine C _ _ ⟨?_,a.done⟩;rw[r]
end
section
open Eng
def qE(t0 t1 t2 w)(K:KT):=nz f158 1 [] [] [] (zg [0,1,2] [t0,t1,t2]) w K
theorem yB:qE t0 t1 t2 w k0->Calls ah 158 #[t0,t1,t2] w k0:=cw func158
def uA(t0 t1 t2 w)(K:KT):=nz f159 1 [] [] [] (zg [0,1,2] [t0,t1,t2]) w K
theorem Ci:uA t0 t1 t2 w k0->Calls ah 159 #[t0,t1,t2] w k0:=cw func159
def Ln(t0 w)(K:KT):=nz f119 1 [] [] [] (zg [0] [t0]) w K
theorem LG:Ln t0 w k0->Calls ah 119 #[t0] w k0:=cw func119
def zM(t1 t13 t14 t15 w)(N1:JT)(K:KT):=nz f120 43 [N1] [nh 9 [15]] [] (zg [1,13,14,15] [t1,t13,t14,t15]) w K
def DJ(t0 w)(K:KT):=nz f120 1 [] [(9,[15],λs v j w f=>zM (s 1) (s 13) (s 14) (vg v 0) w (f 0) K)] [] (zg [0] [t0]) w K
theorem Hk:DJ t0 w k0->Calls ah 120 #[t0] w k0:=cz [] [(4,[15])] func120
def Hz(t0 w)(K:KT):=nz f117 1 [] [] [] (zg [0] [t0]) w K
theorem KN:Hz t0 w k0->Calls ah 117 #[t0] w k0:=cw func117
def FC(t0 w)(K:KT):=nz f118 1 [] [] [] (zg [0] [t0]) w K
theorem Ij:FC t0 w k0->Calls ah 118 #[t0] w k0:=cw func118
def vD(t2 t4 t13 w)(K:KT):=nz f116 509 [] [] [] (zg [2,4,13] [t2,t4,t13]) w K
def vO(t2 t4 t8 w)(K:KT):=nz f116 125 [] [(20,[13],λs v j w f=>vD (s 2) (s 4) (vg v 0) w K)] [] (zg [2,4,8] [t2,t4,t8]) w K
def HB(t0 w)(K:KT):=nz f116 1 [] [(14,[8],λs v j w f=>vO (s 2) (s 4) (vg v 0) w K)] [] (zg [0] [t0]) w K
theorem JR:HB t0 w k0->Calls ah 116 #[t0] w k0:=cz [(7,[8]),(10,[13])] [] func116
def HE(t0 t1 w)(K:KT):=nz f115 1 [] [] [] (zg [0,1] [t0,t1]) w K
theorem KR:HE t0 t1 w k0->Calls ah 115 #[t0,t1] w k0:=cw func115
def sS(t1 t105 t106 t107 w)(N1:JT)(K:KT):=nz f78 1535 [N1] [nh 19 [107]] [] (zg [1,105,106,107] [t1,t105,t106,t107]) w K
def F8(t0 t1 w)(K:KT):=nz f78 1 [] [(19,[107],λs v j w f=>sS (s 1) (s 105) (s 106) (vg v 0) w (f 0) K)] [] (zg [0,1] [t0,t1]) w K
theorem Iv:F8 t0 t1 w k0->Calls ah 78 #[t0,t1] w k0:=cz [] [(9,[107])] func78
def Cm(t0 w)(K:KT):=nz f77 1 [] [] [] (zg [0] [t0]) w K
theorem FT:Cm t0 w k0->Calls ah 77 #[t0] w k0:=cw func77
def kG(c r w)(K:KT):=
 eqx .eql 20 (.tmp 4) (.const .nilIface) r .nilIface w K λd w=>IfX d (K (.returned (.tuple #[])) w) (dx (mTA r 20 145 aw) w K λa w=>exx a 1 w K λe w=>exx a 0 w K λf w=>IfX e (alx 145 w K λb w=>stx 145 b f w K λ_ w=>fax 145 b 0 w K λg w=>ldx 35 g w K λh w=>stx 35 c h w K λ_ w=>K (.returned (.tuple #[])) w) (dx (H6 r) w K λ_ w=>K (.returned (.tuple #[])) w))
theorem Ez (t0 r:aq)(w:ao)(K:Ending->ao->Prop):wpX ah 12 [] [] ax (aaV (CX f114)) (topD ah [] K) (upd (mP [t0]) 4 r) [] w=kG t0 r w K:=krx
theorem qC (h:kG t0 (Ax u) w (λe w=>R e (CK u) w)):CallsD ah 114 #[t0] u w R:=
 Dl func114 rfl rfl rfl rfl rfl rfl rfl rfl (Eq.mpr (Ez t0 (Ax u) w _) h)
def nI (a:Deferred)(b:aq)(K:Ending->ao->Prop):=pd ah [.cell b 35] K [a]
def DR(b w)(K:KT):=
 alx 35 w K λa w=>dx (QQ (.func 114) #[] #[a]) w K λc w=>DfrX (dfrV c #[]) (λd1=>DoX ah (iO b #[]) w (nI d1 a K) λd w=>DoX ah (aN 35 a (iN 0)) w (nI d1 a K) λ_ w=>Et ah [.cell a 35] K [d1] .returning w)
theorem G6:DR t0 w k0->Calls ah 76 #[t0] w k0:=cw func76
def Fi(t0 w)(K:KT):=nz f41 1 [] [] [] (zg [0] [t0]) w K
theorem IH:Fi t0 w k0->Calls ah 41 #[t0] w k0:=cw func41
end
section
open Eng Go.RowKit
 attribute [local congr] D3
theorem uX (n a b:Int)(w:ao):Ret ah 158 #[ad n,ad a,ad b] w (λv w'=>v=.bool (ai (a<=n)&&ai (n<=b))∧w=w'):=by
 refine aX λK c=>yB ?_;unfold qE nz;simp +contextual only[rs,gs];exact c _ _ ⟨rfl,rfl⟩
theorem Q1 (n a b:Int)(w:ao):Ret ah 159 #[ad n,ad a,ad b] w (λv w'=>v=.bool (ai (a<=n)&&ai (n<=b))∧w=w'):=by
 refine aX λK c=>Ci ?_;unfold uA nz;simp +contextual only[rs,gs];exact c _ _ ⟨rfl,rfl⟩
theorem Y4 {p:UInt8->Bool}:∀(s:List UInt8),s.takeWhile p=s->∀x∈s,p x=aw
|[],_,x,b=>by cases b
|a::s,h,x,b=>by
  rw[aAH] at h;split at h
  ·rename_i c
   injection h with _ h
   rcases auI.1 b with rfl|b
   ·exact c
   ·exact Y4 s h x b
  ·cases h
theorem Xv {p:UInt8->Bool}:∀(s:List UInt8) {a:UInt8} {t:List UInt8},s.dropWhile p=a::t->p a=au
|[],_,_,h=>by cases h
|b::s,a,t,h=>by
  rw[List.dropWhile_cons] at h;split at h
  ·exact Xv s h
  ·rename_i c
   injection h with h _
   subst h;simpa using c
theorem SJ (s:List UInt8)(w:ao):Ret ah 119 #[ae s] w (λv w'=>v=.bool (Vl.name s)∧w=w'):=by
 refine aX λK c=>LG ?_;unfold Ln nz;rw[iU auQ,ZK];by_cases h:(s.length:Int)<=127
 ·have hi:∀{K':VWP},K' (ad (Lib.indexByte s 0)) w->cR ah 160 #[ae s,.int .u8 0] w (pk K) K':=λd=>BJ (Nl s 0 w) d;simp only[h,auE,rs];refine hi ?_;simp only[rs];refine c _ _ ⟨?_,rfl⟩;rw[Vl.name,auG (show s.length<=127 by omega),azK]
  congr 1
  rw[decide_eq_decide];rcases SL 0 s with ⟨b,e,f⟩|⟨i,b,a,f,g⟩
  ·rw[b];refine⟨λ_ hm=>?_,λ_=>by decide⟩;have:=Y4 s e 0 hm;simp at this
  ·rw[b];refine⟨λh=>by omega,λhm=>absurd ?_ hm⟩;have j:s.drop i=s[i]::s.drop (i+1):=avX a;have k:s[i]=0:=by
    have:=Xv s (g.trans j);simpa using this
   exact k▸auS a
 ·simp only[h,auF,rs,oG];refine c _ _ ⟨?_,rfl⟩;rw[Vl.name,auD (show ¬s.length<=127 by omega)];rfl
theorem RL (o:Ob)(v:aq)(w:ao)(h:OV (InW w) w v o)(S:o.keys.length<=9223372036854775807) :
  Ret ah 120 #[v] w (λv w'=>v=.bool (Vl.rising o)∧Below w.heap.size w w'):=by
 obtain⟨vk,vc,cs,rfl,s⟩:=h.open;refine aX λK C=>Hk ?_;unfold DJ nz;refine eQ o s.keys.one s.kids.one (Own.start w) λb T f=>?_;have lk:∀{W:ao} {L:List Ent},Own w W L->∀{PK:PKT} {K:VWP},DoX ah (mB .len #[22] 3 #[au] #[vk]) W PK K=K (ad (o.keys.length:Int)) W:=λf=>aZ auR (s.own f).keys.1;have lc:∀{W:ao} {L:List Ent},Own w W L->∀{PK:PKT} {K:VWP},DoX ah (mB .len #[23] 3 #[au] #[vc]) W PK K=K (ad (o.kids.length:Int)) W:=λf=>aZ auU (s.own f).kids.1;simp only[rs,iZ,iR,dZ f 0 rfl,cQ f 0 rfl,lk f,lc f];by_cases hlen:(o.keys.length:Int)≠(o.kids.length:Int)
 ·simp only[auG hlen,i_t];refine C _ _ ⟨?_,f.done⟩;have:¬o.keys.length=o.kids.length:=λe=>hlen (by rw[e]);simp[Vl.rising,this]
 have hle:o.keys.length=o.kids.length:=om
 simp only[auD hlen,i_f];have P:Vl.rising o=(List.range o.keys.length).all (Vl.AD o):=by simp[Vl.rising,hle]
 rw[P] at C;refine loop (λvs w'=>∃(i:Nat),vs=[ad i]∧i<=o.keys.length∧(List.range i).all (Vl.AD o)=aw∧Own w w' [obE b o vk vc]) (λvs _=>o.keys.length - n0 vs) ⟨0,rfl,om,sm,f⟩ ?_;rintro vs w2 ⟨i,rfl,hi,j,f⟩ _;simp only[zM,gd,rs,nz];by_cases t:(i:Int) < (o.keys.length:Int)
 ·have n:i < o.keys.length:=om
  simp only[t,auE,i_t];have l:=s.own f;refine HI (ae (o.keys[i])) auR krx l.keys.1 om (by rw[auJ];exact fF n) λq r=>?_;rw[aJ Gh r];refine BJ (SJ o.keys[i] w2) ?_;obtain⟨Q,u,x,E⟩:=Pf l.kids.1 l.all (show i < o.kids.length by omega);have y:∀{PK:PKT} {K:VWP},DoX ah (aH 3 (af Q u)) w2 PK K=K (ad o.kids[i].k) w2:=aJ aU E;have p:ai (0 < (i:Int))=aw->∃(z g:Nat),(∀{PK:PKT} {K:VWP},DoX ah (mIA 22 vk (ad (IntKind.wrap .i64 ((i:Int) - 1)))) w2 PK K=K (af z g) w2) ∧
    (∀{PK:PKT} {K:VWP},DoX ah (aH 9 (af z g)) w2 PK K=K (ae (o.keys.getD (i - 1) [])) w2):=by
   intro h;have h:=auW h;have M:i - 1 < o.keys.length:=om
   obtain⟨z,g,O,rfl,F⟩:=bR l.keys.1 (show 0 < o.keys.length by omega);refine⟨z,g+(i - 1),?_,?_⟩
   ·intro PK K;rw[aA om om];refine aD ?_;rw[cZ auR (show _=ay 1 by kernel_rfl) om om,show ((i:Int) - 1).toNat*1=i - 1 by omega]
   ·intro PK K;rw[auK,auO M];exact aJ Gh (F _ _ (fF M))
  have G:o.keys.getD i []=o.keys[i]:=by rw[auK,auO n];rfl
  have H:o.kids.getD i (.mk 0 0 0 [] [] [])=o.kids[i]'(om):=by rw[auK,auO om];rfl
  have tail:∀(q:Bool) (N:Prop),q=!(Vl.AD o i)->(Vl.AD o i=aw->N)->IfX (.bool q) (K (.returned (.bool au)) w2) N:=by
   intro q N r R;cases m:Vl.AD o i with
  |false=>
    rw[m] at r;subst r;rw[show (!au)=aw from rfl,i_t];exact C _ _ ⟨by rw[EK m n],f.done⟩
  |true=>
    rw[m] at r;subst r;rw[show (!aw)=au from rfl,i_f];exact R m
  have A:Vl.AD o i=(Vl.name o.keys[i]&&(ai (i=0)||Vl.less (o.keys.getD (i - 1) []) o.keys[i])&&!(ai (o.k=9)&&ai (o.keys[i]=Vl.rQ))&&ai ((o.kids[i]'(om)).k≠0)):=by
   rw[Vl.AD,G,H]
  by_cases B:i=0
  ·have D:ai (0 < (i:Int))=false:=by rw[awY];omega
   simp +contextual only[rs,gs,D,JD,Zd,Fw,aAL,aAM,aAp,eG,iR,vE f 0 rfl,cQ f 0 rfl,x,y,oG,p_f];refine tail _ _ ?_ λm=>?_
   ·rw[A,auG B];simp only[Bool.true_or,aAV,Vl.rQ,ne_eq,decide_not];generalize Vl.name o.keys[i]=a;generalize ai (o.k=9)=c;generalize ai ((o.kids[i]'(om)).k=0)=d;by_cases hL:o.keys[i]=[76,101,110,103,116,104]<;>simp only[hL,auE,auF]<;>cases a<;>cases c<;>cases d<;>rfl
   ·rw[aA om om];exact bC ⟨i+1,rfl,om,by rw[nP,j,m];rfl,f⟩ (by simp[n0,RowKit.intOf];omega)
  ·have D:ai (0 < (i:Int))=true:=by rw[decide_eq_true_iff];omega
   obtain⟨z,g,I,J⟩:=p D;simp +contextual only[rs,gs,D,JD,Zd,Fw,aAL,aAM,aAp,eG,iZ,iR,vE f 0 rfl,dZ f 0 rfl,cQ f 0 rfl,x,y,I,J,oG];refine tail _ _ ?_ λm=>?_
   ·rw[A,auD B];simp only[aAS,Vl.rQ,ne_eq,decide_not];generalize Vl.name o.keys[i]=a;generalize ai (o.k=9)=c;generalize ai ((o.kids[i]'(om)).k=0)=d;show _=!(_&&Op.bytesLess (o.keys.getD (i - 1) []) o.keys[i]&&_&&_);generalize Op.bytesLess (o.keys.getD (i - 1) []) o.keys[i]=e;by_cases hL:o.keys[i]=[76,101,110,103,116,104]<;>simp only[hL,auE,auF]<;>cases a<;>cases c<;>cases d<;>cases e<;>rfl
   ·rw[aA om om];exact bC ⟨i+1,rfl,om,by rw[nP,j,m];rfl,f⟩ (by simp[n0,RowKit.intOf];omega)
 ·simp only[t,auF,i_f];refine C _ _ ⟨?_,f.done⟩;rw[show o.keys.length=i by omega,j]
theorem Yu (o:Ob)(v:aq)(w:ao)(h:OV (InW w) w v o):Ret ah 117 #[v] w (λv w'=>v=.bool (Vl.fits o)∧Below w.heap.size w w'):=by
 obtain⟨vk,vc,cs,rfl,l⟩:=h.open;refine aX λK c=>KN ?_;unfold Hz nz;refine eQ o l.keys.one l.kids.one (Own.start w) λb f a=>?_;simp only[eG,vE a 0 rfl,rs];by_cases d:o.k=1
 ·simp only[d,auE,i_t,CT,Ll a 0 rfl];refine BJ (uX _ _ _ f) (c _ _ ⟨?_,a.done⟩);rw[Vl.fits,auC d,azC]
 by_cases e:o.k=2
 ·simp only[e,Int.reduceEq,auE,auF,i_t,i_f,CT,Ll a 0 rfl];refine BJ (uX _ _ _ f) (c _ _ ⟨?_,a.done⟩);rw[Vl.fits,auB d,auC e,azC]
 by_cases i:o.k=3
 ·simp only[i,Int.reduceEq,auE,auF,i_t,i_f,CT,Ll a 0 rfl];refine BJ (uX _ _ _ f) (c _ _ ⟨?_,a.done⟩);rw[Vl.fits,auB d,auB e,auC i,azC]
 by_cases j:o.k=8
 ·simp only[j,Int.reduceEq,auE,auF,i_t,i_f,CT,Ll a 0 rfl];refine BJ (uX _ _ _ f) ?_;have p:Vl.fits o=(ai (1<=o.n)&&ai (o.n<=8191)&&(ai (0<=o.g)&&ai (o.g<=65535))):=by
   rw[Vl.fits,auB d,auB e,auB i,auC j,azC,azC]
  rw[p] at c;cases m:(ai (1<=o.n)&&ai (o.n<=8191)) with
 |false=>
   rw[m] at c;rw[g_ft,g_ft,g_ft,p_f];exact c _ _ ⟨rfl,a.done⟩
 |true=>
   rw[m] at c;rw[O2,YU,O2,ob_g a 0 rfl,O2];refine BJ (Q1 _ _ _ f) ?_;rw[p_t];exact c _ _ ⟨rfl,a.done⟩
 simp only[d,e,i,j,auF,i_f];refine c _ _ ⟨?_,a.done⟩;rw[Vl.fits,auB d,auB e,auB i,auB j]
def MI (o:Ob):Bool:=if o.k=4 then ai (o.s.length<=32767) else if o.k=5 then ai (o.s.length<=127) else ai (o.s.length<=1048576)
theorem U3 (o:Ob)(v:aq)(w:ao)(h:OV (InW w) w v o):Ret ah 118 #[v] w (λv w'=>v=.bool (MI o)∧Below w.heap.size w w'):=by
 obtain⟨vk,vc,cs,rfl,f⟩:=h.open;refine aX λK e=>Ij ?_;unfold FC nz;refine eQ o f.keys.one f.kids.one (Own.start w) λb g a=>?_;simp only[eG,vE a 0 rfl,rs];have hi:∀m:Nat,ai ((o.s.length:Int)<=(m:Int))=ai (o.s.length<=m):=λm=>by rw[decide_eq_decide];omega
 by_cases c:o.k=4
 ·simp only[c,auE,i_t,El,NW a 0 rfl,iU auQ,rs];refine e _ _ ⟨?_,a.done⟩;rw[MI,auC c,<-hi];rfl
 by_cases d:o.k=5
 ·simp only[d,Int.reduceEq,auE,auF,i_t,i_f,El,NW a 0 rfl,iU auQ,rs];refine e _ _ ⟨?_,a.done⟩;rw[MI,auB c,auC d,<-hi];rfl
 simp only[c,d,auF,i_f,El,NW a 0 rfl,iU auQ,rs];refine e _ _ ⟨?_,a.done⟩;rw[MI,auB c,auB d,<-hi];rfl
theorem Vy (h:Vl.gL o=aw):MI o=!ai (Vl.long o.k < o.s.length):=by
 have key:∀m:Nat,ai (o.s.length<=m)=!ai (m < o.s.length):=λm=>by
  rw[aAK];simp
 unfold MI Vl.long;by_cases b:o.k=4
 ·rw[auC b,auB om,auB om,key]
 by_cases a:o.k=5
 ·rw[auB b,auC a,auC a,key]
 by_cases e:o.k=9
 ·rw[auB b,auB a,auB a,auC e,key]
 have f:o.s=[]:=by
  unfold Vl.gL Vl.used at h
  revert h
  split
  ·intro h;cases h
  ·rename_i n g s ks cs he
   intro h;simp only[auY,axS,avK] at h;have d:s=false:=by
    revert he
    repeat' split
    all_goals (intro he;first|(cases he;done)|skip)
    all_goals (simp only[ayK,ayJ] at he;first|exact he.2.2.1.symm|omega)
   rcases h.1.1.2 with c|c
   ·rw[d] at c;cases c
   ·exact c
 rw[auB b,auB a,auB a,auB e,f];rfl
end
section
open Eng Go.RowKit
 attribute [local congr] D3
def uC (u:Bool×Bool×Bool×Bool×Bool):List Value:=[.bool u.1,.bool u.2.1,.bool u.2.2.1,.bool u.2.2.2.1,.bool u.2.2.2.2]
def uV (u:Bool×Bool×Bool×Bool×Bool):Value:=.agg (uC u).toArray
def uE (b:Nat)(u:Bool×Bool×Bool×Bool×Bool):Ent:=.cells b (uC u) 147
def u0:Bool×Bool×Bool×Bool×Bool:=(au,au,au,au,au)
theorem aggU:FU ah 147=ay 5:=krx
theorem szU:(Tryz.prog.info? 147).map (·.size)=ay 5:=krx
theorem apS (u:Bool×Bool×Bool×Bool×Bool):∀v∈uC u,v.oneCell'=true:=by
 intro v a;simp only[uC,auI,avP,or_false] at a;rcases a with rfl|rfl|rfl|rfl|rfl<;>rfl
theorem WY:eS ah 4=true:=krx
section
variable {w:ao}{PK:PKT}{K:VWP}{S:Nat->Prop}{w0:ao}{L:List Ent}
theorem arA :DoX ah (mFA 147 (af b 0) 0) w PK K=K (af b 0) w:=aW (show nN ah 147 0=ay 0 by kernel_rfl)
theorem arG :DoX ah (mFA 147 (af b 0) 1) w PK K=K (af b (0+1)) w:=aW (show nN ah 147 1=ay 1 by kernel_rfl)
theorem asA :DoX ah (mFA 147 (af b 0) 2) w PK K=K (af b (0+2)) w:=aW (show nN ah 147 2=ay 2 by kernel_rfl)
theorem aqU :DoX ah (mFA 147 (af b 0) 3) w PK K=K (af b (0+3)) w:=aW (show nN ah 147 3=ay 3 by kernel_rfl)
theorem aqY :DoX ah (mFA 147 (af b 0) 4) w PK K=K (af b (0+4)) w:=aW (show nN ah 147 4=ay 4 by kernel_rfl)
theorem anR (i:Nat){u:Bool×Bool×Bool×Bool×Bool}(a:Bool×Bool×Bool×Bool×Bool)(c:bT S w0 w L)(hi:L[i]?=ay (uE b u))(k:∀w',bT S w0 w' (L.set i (uE b a))->K undef w') :
  DoX ah (aN 147 (af b 0) (uV a)) w PK K:=jH i c hi (new:=uC a) szU (apS a) rfl k
end
def ahP (k:Int):Value:=.tuple #[uV ((Vl.used k).getD u0),.bool (Vl.used k).isSome]
theorem YB (k:Int)(w:ao):Ret ah 116 #[ad k] w (λv w'=>v=ahP k∧Below w.heap.size w w'):=by
 refine aX λK s=>JR ?_;unfold HB nz;refine bK (λb=>af b 0) (uC u0) 147 (λ_=>by kernel_rfl) (Own.start w) λb a f=>?_;have fin:∀(u:Bool×Bool×Bool×Bool×Bool) (ok:Bool),Vl.used k=(if ok then ay u else ax)->(ok=au->u=u0)->DoX ah (aN 147 (af b 0) (uV u)) a (pk K) λ_ w=>
   Bw ah [.cell (af b 0) 147,.val (.bool ok)] w K:=by
  intro u ok hu t;refine anR 0 u f rfl λw2 f=>?_;refine zH (bJ (f.agg 0 rfl aggU)) Ae (s _ _ ⟨?_,f.done⟩);rw[ahP,hu];cases ok with
 |true=>rfl
 |false=>rw[t rfl];rfl
 have r:∀{PK:PKT} {K:VWP},DoX ah (aV 147 #[]) a PK K=K (uV u0) a:=aD krx;have x:∀{PK:PKT} {K:VWP},DoX ah (aV 147 #[(0,.bool aw)]) a PK K=K (uV (aw,au,au,au,au)) a:=aD krx;have b2:∀{PK:PKT} {K:VWP},DoX ah (aV 147 #[(2,.bool aw)]) a PK K=K (uV (au,au,aw,au,au)) a:=aD krx;have b3:∀{PK:PKT} {K:VWP},DoX ah (aV 147 #[(4,.bool aw)]) a PK K=K (uV (au,au,au,au,aw)) a:=aD krx;have y:∀{PK:PKT} {K:VWP},DoX ah (aV 147 #[(3,.bool aw),(4,.bool aw)]) a PK K=K (uV (au,au,au,aw,aw)) a:=aD krx;have z:∀{PK:PKT} {K:VWP},DoX ah (aV 147 #[(0,.bool aw),(1,.bool aw)]) a PK K=K (uV (aw,aw,au,au,au)) a:=aD krx;have A:∀{PK:PKT} {K:VWP},DoX ah (aV 147 #[(2,.bool aw),(3,.bool aw),(4,.bool aw)]) a PK K=K (uV (au,au,aw,aw,aw)) a:=aD krx;simp only[rs];by_cases k0:k=0
 ·simp only[k0,auE,i_t,r];exact fin _ aw (by simp[Vl.used,k0,u0]) sm
 simp only[k0,auF,i_f];refine join λJ e=>?_;by_cases c:k=1∨k=2∨k=3
 ·have:J [.bool aw] a:=by
   refine e _ _ λ_=>?_;simp only[vO,gd,i_t,x,nz];exact fin _ aw (by simp[Vl.used,k0,c]) sm
  by_cases g:k=1
  ·simp only[g,auE,i_t];exact this
  by_cases i:k=2
  ·simp only[i,Int.reduceEq,auE,auF,i_t,i_f];exact this
  have j:k=3:=om
  simp only[j,Int.reduceEq,auE,auF,i_t,i_f];exact this
 have g:¬k=1:=λh=>c (.inl h);have i:¬k=2:=λh=>c (.inr (.inl h));have j:¬k=3:=λh=>c (.inr (.inr h));simp only[g,i,j,auF,i_f];refine e _ _ λ_=>?_;clear e;simp only[vO,gd,i_f,rs,nz];refine join λJ e=>?_;by_cases d:k=4∨k=5
 ·have:J [.bool aw] a:=by
   refine e _ _ λ_=>?_;simp only[vD,gd,i_t,b2,nz];exact fin _ aw (by simp[Vl.used,k0,g,i,j,d]) sm
  by_cases p:k=4
  ·simp only[p,auE,i_t];exact this
  have q:k=5:=om
  simp only[q,Int.reduceEq,auE,auF,i_t,i_f];exact this
 have p:¬k=4:=λh=>d (.inl h);have q:¬k=5:=λh=>d (.inr h);simp only[p,q,auF,i_f];refine e _ _ λ_=>?_;clear e;simp only[vD,gd,i_f,rs,nz];by_cases l:k=6
 ·simp only[l,auE,i_t,b3];exact fin _ aw (by simp[Vl.used,l]) sm
 by_cases m:k=7
 ·simp only[m,Int.reduceEq,auE,auF,i_t,i_f,y];exact fin _ aw (by simp[Vl.used,m]) sm
 by_cases n:k=8
 ·simp only[n,Int.reduceEq,auE,auF,i_t,i_f,z];exact fin _ aw (by simp[Vl.used,n]) sm
 by_cases o:k=9
 ·simp only[o,Int.reduceEq,auE,auF,i_t,i_f,A];exact fin _ aw (by simp[Vl.used,o]) sm
 simp only[l,m,n,o,auF,i_f,r];exact fin _ au (by simp[Vl.used,k0,c,d,l,m,n,o]) sm
theorem Wk {k:Int}{n g s ks cs:Bool}(h:Vl.used k=ay (n,g,s,ks,cs)):ks=ai (k=7∨k=9):=by
 revert h
 unfold Vl.used
 repeat' split
 all_goals (intro h;first|(cases h;done)|skip)
 all_goals simp only[ayK,ayJ] at h
 all_goals rw[<-h.2.2.2.1]
 all_goals symm
 all_goals first|(rw[awY];omega)|(rw[decide_eq_true_iff];omega)
abbrev badE (e:Int):PanicEntry:={ v:=.iface 145 (.agg #[ad e]),recovered:=au }
theorem DB {r:Bool}{e:Int}(h:q=r)(b:r=aw->K (.tuple #[]) w)(a:r=au->PK [badE e] w):cR ah 115 #[.bool q,ad e] w PK K:=by
 subst h;refine gK (KR (k0:=λe' w'=>(q=aw->e'=.returned (.tuple #[])∧w'=w)∧(q=au->e'=.panicked [badE e]∧w'=w)) ?_) ?_
 ·unfold HE nz;cases q with
 |true=>
   rw[PQ,show (!aw)=au from rfl,i_f];exact⟨λ_=>⟨rfl,rfl⟩,λh=>by cases h⟩
 |false=>
   rw[PQ,show (!au)=aw from rfl,i_t];have c:∀{PK:PKT} {K:VWP},DoX ah (aV 145 #[(0,ad e)]) w PK K=K (.agg #[ad e]) w:=aD krx;rw[c,Nh (show nQ ah 145=aw by kernel_rfl),K8];exact⟨λh=>(by cases h),λ_=>⟨rfl,rfl⟩⟩
 ·rintro e' w' ⟨d,f⟩;cases q with
 |true=>obtain⟨rfl,rfl⟩:=d rfl;exact b rfl
 |false=>obtain⟨rfl,rfl⟩:=f rfl;exact a rfl
end
section
open Eng Go.RowKit
 attribute [local congr] D3
theorem UP (n:Nat):∀(o:Ob) (v:aq) (d:Nat) (w:ao) (K:Ending->ao->Prop),o.wt<=n->OV (InW w) w v o->o.wt<=4611686018427387904->1<=d->d<=1000 ->
  (Vl.check d o=0->∀w',Below w.heap.size w w'->K (.returned (.tuple #[])) w')->(Vl.check d o≠0->∀w',Below w.heap.size w w'->K (.panicked [badE (Vl.check d o)]) w') ->
  Calls ah 78 #[v,ad (d:Int)] w K:=by
 induction n with
|zero=>intro o v d w K h;have:=o.KU;omega
|succ n ih=>
 intro o v d w K hn a1 hb b3 hd t c;obtain⟨vk,vc,cs,rfl,F⟩:=a1.open;refine Iv ?_;unfold F8 nz;refine eQ o F.keys.one F.kids.one (Own.start w) λb w1 a=>?_;have out:∀(e:Int) (W:ao) (L:List Ent),Own w W L->Vl.why d o=e->e≠0->(pk K) [badE e] W:=by
  intro e W L a h1 h2;have h3:Vl.check d o=e:=by rw[X7 (by rw[h1];exact h2),h1]
  rw[h3] at c;exact c h2 W a.done
 rw[ZK];refine DB (r:=ai (d<=24)) (by rw[decide_eq_decide];omega) (λH=>?_) λH=>out 7 w1 _ a (by rw[Vl.why,auC (by have:=avT H;omega)]) dc;have f:¬24 < d:=by have:=auW H;omega
 rw[eG,vE a 0 rfl];refine tQ (YB o.k w1) rfl a λw2 a=>?_;simp only[ahP,ex];refine bK (λb=>af b 0) (uC u0) 147 (λ_=>by kernel_rfl) a λC w3 a=>?_;refine anR 0 ((Vl.used o.k).getD u0) a rfl λq a=>?_;have a:Own w q [uE C ((Vl.used o.k).getD u0),obE b o vk vc]:=a;have x:(Vl.gL o=au∨(o.k=9∧1 < d))->(pk K) [badE 10] q:=λh=>out 10 q _ a (by rw[Vl.why,auB f,auC h]) dc;have lk:∀{W:ao} {L:List Ent},Own w W L->∀{PK:PKT} {K:VWP},DoX ah (mB .len #[22] 3 #[au] #[vk]) W PK K=K (ad (o.keys.length:Int)) W:=λa=>aZ auR (F.own a).keys.1;have lc:∀{W:ao} {L:List Ent},Own w W L->∀{PK:PKT} {K:VWP},DoX ah (mB .len #[23] 3 #[au] #[vc]) W PK K=K (ad (o.kids.length:Int)) W:=λa=>aZ auU (F.own a).kids.1;cases hu:Vl.used o.k with
|none=>
  have R:=x (.inl (by rw[Vl.gL,hu]));simp only[ayR,rs,oG];exact DB (r:=au) rfl (λh=>by cases h) λ_=>R
|some u=>
 obtain⟨un,Q,us,j,p⟩:=u;rw[hu,ayD] at a;have a6:Vl.gL o=((un||decide (o.n=0))&&(Q||decide (o.g=0))&&(us||decide (o.s=[]))&&(j||decide (o.keys=[]))&&(p||decide (o.kids.length=0))):=by rw[Vl.gL,hu]
 have l0:∀{PK:PKT} {K:VWP},DoX ah (aH 4 (af C 0)) q PK K=K (.bool un) q:=aJ WY (a.cell 0 rfl 0 rfl);have l1:∀{PK:PKT} {K:VWP},DoX ah (aH 4 (af C (0+1))) q PK K=K (.bool Q) q:=aJ WY (a.cell 0 rfl 1 rfl);have l2:∀{PK:PKT} {K:VWP},DoX ah (aH 4 (af C (0+2))) q PK K=K (.bool us) q:=aJ WY (a.cell 0 rfl 2 rfl);have l3:∀{W:ao} {L:List Ent},Own w W (uE C (un,Q,us,j,p)::L)->∀{PK:PKT} {K:VWP},DoX ah (aH 4 (af C (0+3))) W PK K=K (.bool j) W:=λa=>aJ WY (a.cell 0 rfl 3 rfl);have l4:∀{PK:PKT} {K:VWP},DoX ah (aH 4 (af C (0+4))) q PK K=K (.bool p) q:=aJ WY (a.cell 0 rfl 4 rfl);simp +contextual only[azD,rs,gs,JD,Zd,Fw,aAL,aAM,aAp,arA,arG,asA,aqU,aqY,l0,l1,l2,l3 a,l4,eG,CT,YU,El,iZ,iR,vE a 1 rfl,Ll a 1 rfl,ob_g a 1 rfl,NW a 1 rfl,dZ a 1 rfl,cQ a 1 rfl,lk a,lc a,VN];refine DB (r:=Vl.gL o&&!(ai (o.k=9)&&ai (1 < d))) ?_ (λS=>?_) λS=>?_
 ·rw[a6,aiU o.keys,amH o.kids]
  congr 1
  by_cases h9:o.k=9
  ·simp only[h9,ne_eq,not_true,auF,aAp,auE,azK];rw[aAK];simp;omega
  ·simp only[h9,ne_eq,awJ,auE,Bool.or_true,auF,aAr,avZ]
 rotate_left
 ·refine x ?_;rw[aAW] at S;rcases S with h|h
  ·exact .inl h
  ·right;have:(ai (o.k=9)&&ai (1 < d))=true:=by simpa using h
   rw[auY] at this;exact⟨auW this.1,auW this.2⟩
 rw[auY] at S;obtain⟨T,U⟩:=S;have y:¬(Vl.gL o=au∨(o.k=9∧1 < d)):=by
  rintro (h|⟨h1,h2⟩)
  ·rw[T] at h;cases h
  ·rw[auG h1,auG h2] at U;cases U
 rw[jL a 1 rfl];refine tQ (Yu o _ q (F.in_ a).ov) rfl a λw5 a=>?_;refine DB (r:=Vl.fits o) rfl (λI=>?_) λI=>out 2 w5 _ a (by rw[Vl.why,auB f,auB y,auC I]) dc;have m:¬Vl.fits o=false:=by rw[I];decide
 rw[jL a 1 rfl];refine tQ (U3 o _ w5 (F.in_ a).ov) rfl a λD a=>?_;refine DB (r:=!ai (Vl.long o.k < o.s.length)) (Vy T) (λJ=>?_) λJ=>out 5 D _ a (by rw[Vl.why,auB f,auB y,auB m,auC (by simpa using J)]) dc;have z:¬Vl.long o.k < o.s.length:=by simpa using J
 rw[cQ a 1 rfl,lc a,ZK];refine DB (r:=ai (o.kids.length<=8191)) (by rw[decide_eq_decide];omega) (λhm=>?_) λhm=>out 6 D _ a (by rw[Vl.why,auB f,auB y,auB m,auB z,auC (by have:=avT hm;omega)]) dc;have V:¬8191 < o.kids.length:=by have:=auW hm;omega
 rw[vE a 1 rfl,abW];have M:=Wk hu
 -- behind a7 form: a7 kids
 have rest:∀(W:ao),Vl.form o=aw->Own w W [uE C (un,Q,us,j,p),obE b o vk vc] ->
   DoX ah (aH 23 (af b (0+5))) W (pk K) λt105 w=>
   DoX ah (mB .len #[23] 3 #[au] #[t105]) w (pk K) λt106 w=>
   Es [(ad 0)] w (λa8 w N1=>∀_:Sg,sS (ad (d:Int)) t105 t106 (a8.getD 0 undef) w N1 K):=by
  intro W N a;have b0:Vl.why d o=0:=by rw[Vl.why,auB f,auB y,auB m,auB z,auB V,auB (by rw[N];decide)]
  have b1:Vl.check d o=Vl.oA (d+1) o.kids:=by rw[Vl.E9,auB (by simp[b0])]
  rw[b1] at t c;rw[cQ a 1 rfl,lc a];refine loop (λvs w'=>∃(i:Nat),vs=[ad i]∧i<=o.kids.length∧Vl.oA (d+1) o.kids=Vl.oA (d+1) (o.kids.drop i)∧Own w w' [uE C (un,Q,us,j,p),obE b o vk vc]) (λvs _=>o.kids.length - n0 vs) ⟨0,rfl,om,rfl,a⟩ ?_;rintro vs D ⟨i,rfl,hi,hT,a⟩ _;rw[hT] at t c;simp only[sS,gd,rs,nz];by_cases X:(i:Int) < (o.kids.length:Int)
  ·have O:i < o.kids.length:=om
   simp only[X,auE,i_t];rw[Ks _ _ _ O] at t c hT;have Y:=F.own a;refine ahA Y.kids.1 Y.all O λv hv=>?_;obtain⟨vk',vc',b5,rfl,A⟩:=hv.open;have b2:=a;refine dJ a λb7 w7 a=>?_;refine aT 0 A.keys.one A.kids.one a rfl λw8 a=>?_;have a:Own w w8 [obE b7 o.kids[i] vk' vc',uE C (un,Q,us,j,p),obE b o vk vc]:=a;rw[jL a 0 rfl,aA om om,show (d:Int)+1=((d+1:Nat):Int) by omega];have b6:=ER O;refine gK (ih o.kids[i] _ (d+1) w8 _ om (A.later b2 a).ov om om om (λE w9 P=>?_) (λE w9 P=>?_)) (λ_ _ h=>h)
   ·have a:=a.grow P;rw[auB (by simp[E])] at hT;simp only[He,rs];rw[aA om om];exact bC ⟨i+1,rfl,om,hT,a.tail⟩ (by simp[n0,RowKit.intOf];omega)
   ·rw[auC E] at c;exact c E w9 (a.grow P).done
  ·simp only[X,auF,i_f];rw[aAa om,Vl.oA] at t;exact t rfl D a.done
 have G:∀(W:ao) (L:List Ent),Own w W L->Vl.form o=au->(pk K) [badE 3] W:=λW L a h=>out 3 W _ a (by rw[Vl.why,auB f,auB y,auB m,auB z,auB V,auC h]) dc;by_cases k5:o.k=5
 ·have B:¬(o.k=7∨o.k=9):=om
  have l:j=false:=by rw[M,auD B]
  have hf:Vl.form o=Vl.name o.s:=by simp[Vl.form,k5]
  rw[show ai (o.k≠5)=au by rw[awY];omega,g_ff,NW a 1 rfl,g_ff];refine BJ (SJ o.s D) ?_;rw[p_f];cases Z:Vl.name o.s with
 |false=>
   rw[g_ft,g_ft,show sel (lK (Value.bool au) aw) undef=undef from rfl,oG,oG,g_ft,p_f];exact DB (r:=au) rfl (λh=>by cases h) λ_=>G D _ a (by rw[hf,Z])
 |true=>
   rw[O2,l3 a,l,O2,PQ,show (!au)=aw from rfl,show sel (lK (Value.bool aw) aw) (Value.bool aw)=.bool aw from rfl,g_tf,g_tf,O2,p_t,p_t];exact DB (r:=aw) rfl (λ_=>rest D (by rw[hf,Z]) a) λh=>by cases h
 ·rw[show ai (o.k≠5)=aw by rw[decide_eq_true_iff];exact k5,g_tf,g_tf,p_t,O2,l3 a,O2,PQ];cases l:j with
 |false=>
   have B:¬(o.k=7∨o.k=9):=by rw[M,awY] at l;exact l
   rw[show (!au)=aw from rfl,show sel (lK (Value.bool aw) aw) (Value.bool aw)=.bool aw from rfl,g_tf,g_tf,O2,p_t,p_t];rw[l] at a rest;exact DB (r:=aw) rfl (λ_=>rest D (by simp[Vl.form,k5,B]) a) λh=>by cases h
 |true=>
   have B:o.k=7∨o.k=9:=by rw[M,decide_eq_true_iff] at l;exact l
   have hf:Vl.form o=Vl.rising o:=by simp[Vl.form,k5,B]
   rw[show (!aw)=au from rfl,show sel (lK (Value.bool aw) aw) (Value.bool au)=.bool au from rfl,g_ff,jL a 1 rfl,g_ff];refine tQ (RL o _ D (F.in_ a).ov (by have:=Rn (o:=o);omega)) rfl a λw7 a=>?_;rw[O2,p_f,p_t];rw[l] at a rest;exact DB (r:=Vl.form o) hf.symm (λN=>rest w7 N a) λh=>G w7 _ a h
theorem HX:cW ah 114=true:=krx
theorem qR {rs:List RV}{K:Ending->ao->Prop}{a:Array aq}(hu:u≠.run)(hp:cW ah f=aw)
  (h:CallsD ah f (args++a) u w λ
   |.returned _,b,w'=>Et ah rs K ds (settle b) w'
   |.panicked chain,b,w'=>Et ah rs K ds (raised b chain) w'
   |.outgrown,_,_=>False):Et ah rs K ({ target:=.fn (.func f) a,args:=args }::ds) u w:=
 ⟨hu,.func f,a,f,args++a,rfl,by simpa[invoke] using jT hp _ w,h⟩
theorem Wz:cW ah 77=true:=krx
abbrev JB:eS ah 35=true:=krx
theorem lB (o:Ob)(v:aq)(w:ao)(h:OV (InW w) w v o)(j:o.wt<=4611686018427387904):Ret ah 41 #[v] w (λv w'=>v=ad (Vl.check 1 o)∧Below w.heap.size w w'):=by
 refine aX λK k=>IH ?_;obtain⟨vk,vc,cs,rfl,f⟩:=h.open;unfold Fi nz;refine eQ o f.keys.one f.kids.one (Own.start w) λb l c=>?_;rw[tZ];refine gK (G6 (k0:=λe w'=>e=.returned (ad (Vl.check 1 o))∧Below w.heap.size w w') ?_) ?_
 rotate_left
 ·rintro e w' ⟨rfl,a⟩;exact k _ _ ⟨rfl,a⟩
 unfold DR iN dx alx;refine bK (λb=>af b 0) [ad 0] 35 (λ_=>by kernel_rfl) c λb2 w2 c=>?_;rw[tZ];refine⟨_,rfl,?_⟩;refine LB Wz ?_;show cR ah _ #[af b 0] _ _ _;refine gK (FT (k0:=λe w'=>(Vl.check 1 o=0->e=.returned (.tuple #[])∧Below w2.heap.size w2 w')∧(Vl.check 1 o≠0->e=.panicked [badE (Vl.check 1 o)]∧Below w2.heap.size w2 w')) ?_) ?_
 ·unfold Cm nz;rw[jL c 1 rfl];refine gK (UP o.wt o _ 1 w2 (λe w'=>(Vl.check 1 o=0->e=.returned (.tuple #[])∧Below w2.heap.size w2 w')∧(Vl.check 1 o≠0->e=.panicked [badE (Vl.check 1 o)]∧Below w2.heap.size w2 w')) (auL _) (f.in_ c).ov j om om
   (λd w' a=>⟨λ_=>⟨rfl,a⟩,λh=>absurd d h⟩) (λd w' a=>⟨λh=>absurd h d,λ_=>⟨rfl,a⟩⟩)) ?_
  rintro e w' ⟨g,i⟩;by_cases d:Vl.check 1 o=0
  ·obtain⟨rfl,a⟩:=g d;exact⟨λ_=>⟨rfl,a⟩,λh=>absurd d h⟩
  ·obtain⟨rfl,a⟩:=i d;exact⟨λh=>absurd h d,λ_=>⟨rfl,a⟩⟩
 rintro e w' ⟨g,i⟩;by_cases d:Vl.check 1 o=0
 ·obtain⟨rfl,a⟩:=g d;simp only[He];have c:=c.grow a;refine aO 0 c rfl krx rfl sm λm c=>?_;refine qR sm HX (qC ?_);simp only[kG,Ax,CK,Eng.VN azE,rs,dx,ldx,fax,exx,stx,eqx,alx];refine EZ JB (c.cell 0 rfl 0 rfl) (And.intro ?_ c.done);rw[d]
 ·obtain⟨rfl,a⟩:=i d;simp only[He,nI,pd];have c:=c.grow a;refine qR sm HX (qC ?_);simp only[kG,Ax,CK,Eng.acV azE,rs,Z1 (show nQ ah 145=aw by kernel_rfl),
   vY (show [Value.agg #[ad (Vl.check 1 o)],Value.bool aw][1]?=ay (Value.bool aw) from rfl),vY (show [Value.agg #[ad (Vl.check 1 o)],Value.bool aw][0]?=ay (Value.agg #[ad (Vl.check 1 o)]) from rfl),dx,ldx,fax,exx,stx,eqx,alx]
  refine bK (λb=>af b 0) [ad 0] 145 (λ_=>by kernel_rfl) c λn p c=>?_;refine jH 0 c rfl (new:=[ad (Vl.check 1 o)]) (show (Tryz.prog.info? 145).map (·.size)=ay 1 by kernel_rfl) (by simp;rfl) rfl λq c=>?_;rw[aW (show nN ah 145 0=ay 0 by kernel_rfl),aJ JB (c.cell 0 rfl 0 rfl)];refine aO 1 c rfl krx rfl sm λr c=>?_;exact EZ JB (c.cell 1 rfl 0 rfl) (And.intro rfl c.done)
end
section
open Eng Go.RowKit
theorem Vx (x:List UInt8)(w:ao):Ret ah 231 #[ae x] w (λv w'=>v=.bool au∧w=w'):=by
 refine aX λK a=>Cf ?_;unfold uQ nz;rw[ahX];exact a _ _ ⟨sm,rfl⟩
theorem Us (x:List UInt8)(w:ao):Ret ah 199 #[ae x] w (λv w'=>v=.bool au∧w=w'):=by
 refine aX λK a=>wH ?_;unfold oF nz;rw[ahX];exact a _ _ ⟨sm,rfl⟩
theorem VS (x y:List UInt8)(w:ao):Ret ah 198 #[ae x,ae y] w (λv w'=>v=.bool (Vl.less x y)∧w=w'):=by
 refine aX λK a=>CU ?_;unfold wC nz;refine BJ (Vx x w) ?_;simp only[rs,aiM];exact a _ _ ⟨rfl,rfl⟩
theorem shr1 (b:0<=a)(c:a<=4611686018427387904):Int.fdiv (IntKind.wrap .u64 a) (2 ^ (min (1:Int).toNat IntKind.u64.bits))=a / 2:=by
 rw[U9 b om];show Int.fdiv a 2=a / 2;rw[azN _ om]
theorem K6 (va:aq)(l:List (List UInt8))(x:List UInt8)(w:ao)(g:Sl w va 1 l.length (bI l))(s:Vl.NT l)(D:l.length<=1099511627776) :
  Ret ah 161 #[va,ae x] w (λv w'=>v=.tuple #[ad (Vl.place l x:Nat),.bool (Vl.hit l x)]∧w=w'):=by
 refine aX λK o=>jK ?_;unfold fG nz;rw[aZ auR g];refine loop (λvs w'=>∃(i j:Nat),vs=[ad i,ad j]∧i<=j∧j<=l.length∧(∀m (h:m < l.length),m < i->Vl.less l[m] x=aw)∧(∀m (h:m < l.length),j<=m->Vl.less l[m] x=au)∧w=w') (λvs _=>n1 vs - n0 vs)
  ⟨0,l.length,rfl,om,om,λm _ h=>by omega,λm y z=>by omega,rfl⟩ ?_
 rintro vs w2 ⟨i,j,rfl,A,B,b,c,rfl⟩ _;simp only[eR,gd,rs,nz];by_cases d:(i:Int) < (j:Int)
 ·simp only[d,auE,i_t];rw[aA om om,acI (show (Tryz.prog.underlying 3).isSome=aw by kernel_rfl) aAj,Ix om,shr1 om om,
   acI (show (Tryz.prog.underlying 98).isSome=aw by kernel_rfl) avY,aA om om]
  obtain⟨h,C⟩:∃h:Nat,((i:Int)+(j:Int)) / 2=(h:Int):=⟨(i+j) / 2,om⟩;rw[C];have y:i<=h:=om
  have z:h < j:=om
  have t:h < l.length:=om
  refine HI (ae (l[h])) auR krx g om (by rw[auJ];exact fF t) λq e=>?_;rw[aJ UJ e];refine BJ (VS l[h] x w) ?_;cases k:Vl.less l[h] x with
 |true=>
   simp only[rs];rw[aA om om];refine bC ⟨h+1,j,rfl,om,om,λm hm p=>?_,c,rfl⟩ (by simp[n0,n1,RowKit.intOf];omega);rcases avI m h with f|f
   ·exact Vl.rA (Vl.uP s f t) k
   ·have:m=h:=om
    subst this;exact k
 |false=>
   simp only[rs];refine bC ⟨i,h,rfl,om,om,b,λm hm p=>?_,rfl⟩ (by simp[n0,n1,RowKit.intOf];omega);rcases avI h m with f|f
   ·cases r:Vl.less l[m] x with
   |false=>rfl
   |true=>have:=Vl.rA (Vl.uP s f hm) r;rw[k] at this;cases this
   ·have:m=h:=om
    subst this;exact k
 ·have he:i=j:=om
  subst he;simp only[d,auF,i_f];have hp:Vl.place l x=i:=Vl.OC B b (λh=>c i h (auL _));by_cases u:(i:Int) < (l.length:Int)
  ·have a:i < l.length:=om
   simp only[u,auE,rs];refine HI (ae (l[i])) auR krx g om (by rw[auJ];exact fF a) λq e=>?_;rw[aJ UJ e];simp only[rs];by_cases n:l[i]=x
   ·simp only[n,auE,rs,oG];refine o _ _ ⟨?_,rfl⟩;rw[hp];unfold Vl.hit;rw[hp,auO a,n];simp
   ·simp only[n,auF,rs];refine HI (ae (l[i])) auR krx g om (by rw[auJ];exact fF a) λq e=>?_;rw[aJ UJ e];refine BJ (Us l[i] w) ?_;simp only[rs];refine o _ _ ⟨?_,rfl⟩;rw[hp];unfold Vl.hit;rw[hp,auO a];simp[n]
  ·simp only[u,auF,rs,oG];refine o _ _ ⟨?_,rfl⟩;rw[hp];unfold Vl.hit;rw[hp,awV om];simp
end
section
open Eng
def qP(t3 t6 t7 t9 t10 w)(K:KT):=nz f100 255 [] [] [] (zg [3,6,7,9,10] [t3,t6,t7,t9,t10]) w K
def uG(t0 t1 t2 w)(K:KT):=nz f100 1 [] [(16,[7],λs v j w f=>qP (s 3) (s 6) (vg v 0) (s 9) (s 10) w K)] [] (zg [0,1,2] [t0,t1,t2]) w K
theorem AW:uG t0 t1 t2 w k0->Calls ah 100 #[t0,t1,t2] w k0:=cz [(8,[7])] [] func100
def mS(t0 t1 t6 w)(N1:JT)(K:KT):=nz f145 19 [N1] [nh 5 [6]] [(4,15)] (zg [0,1,6] [t0,t1,t6]) w K
def qN(t0 t1 w)(K:KT):=nz f145 1 [] [(5,[6],λs v j w f=>mS (s 0) (s 1) (vg v 0) w (f 0) K)] [] (zg [0,1] [t0,t1]) w K
theorem xO:qN t0 t1 w k0->Calls ah 145 #[t0,t1] w k0:=cz [] [(2,[6])] func145
def lH(t5 t6 t11 w)(N1:JT)(K:KT):=nz f98 983 [N1] [nh 9 [5,6,11]] [] (zg [5,6,11] [t5,t6,t11]) w K
def lA(t1 t2 t4 t5 t6 t10 t11 w)(N1:JT)(K:KT):=nz f98 87 [N1] [nh 9 [5,6,11],(18,[5,6],λs v j w f=>lH (vg v 0) (vg v 1) (s 11) w (f 0) K)] [] (zg [1,2,4,5,6,10,11] [t1,t2,t4,t5,t6,t10,t11]) w K
def mX(t0 t1 w)(K:KT):=nz f98 1 [] [(9,[5,6,11],λs v j w f=>lA (s 1) (s 2) (s 4) (vg v 0) (vg v 1) (s 10) (vg v 2) w (f 0) K)] [] (zg [0,1] [t0,t1]) w K
theorem vN:mX t0 t1 w k0->Calls ah 98 #[t0,t1] w k0:=cz [(9,[5,6])] [(4,[5,6,11])] func98
def uH(t0 t1 t2 w)(K:KT):=nz f56 1 [] [] [] (zg [0,1,2] [t0,t1,t2]) w K
theorem BI:uH t0 t1 t2 w k0->Calls ah 56 #[t0,t1,t2] w k0:=cw func56
def qJ(t0 w)(K:KT):=nz f99 1 [] [] [] (zg [0] [t0]) w K
theorem xP:qJ t0 w k0->Calls ah 99 #[t0] w k0:=cw func99
end
section
open Go
theorem Ob.rN:∀os:List Ob,os.length<=Ob.wts os
|[]=>by simp
|o::os=>by
  have:=Ob.rN os;have:1<=o.wt:=by cases o;rw[Ob.wt];omega
  rw[Ob.wts,auX];omega
namespace Wr
def num (n:Int):List UInt8:=(Pl.pInt n).1
def nul:List UInt8:=[110,117,108,108]
def tru:List UInt8:=[116,114,117,101]
def fal:List UInt8:=[102,97,108,115,101]
def leaf (k n:Int)(s:List UInt8):List UInt8:=
 if k=1 then (if n=0 then fal else tru)
 else if k=2 then num n
 else if k=3 then (Pl.asV n).1
 else if k=4 then (Pl.pStr s).1
 else if k=5 then (Pl.apK s).1
 else nul
 mutual
def parts:Ob->List (List UInt8)
|.mk k n g s keys kids=>
  if k=8 then [num n,num g,[82]]
  else if k=6 then [91]::(Xy kids++[[93]])
  else if k=7 then [60,60]::(Wp keys kids++[[62,62]])
  else [leaf k n s]
def Xy:List Ob->List (List UInt8)
|[]=>[]
|o::os=>parts o++Xy os
def Wp (keys:List (List UInt8)):List Ob->List (List UInt8)
|[]=>[]
|o::os=>match keys with
 |[]=>[]
 |key::ks=>(Pl.apK key).1::(parts o++Wp ks os)
end
end Wr
end
end Go.Proofs.YtlgndjkieegnaaaGreatDoor








namespace Go.Proofs.YtlgndjkieegnaaaGreatDoor
variable{A S:Nat->Prop}{K:VWP}{L:List Eng.Ent}{M N:Eng.Mem}{P:Program}{PK:PKT}{R:Ending->FrameMode->ao->Prop}{a:Int}{args:Array aq}{b cap d f i m sz:Nat}{cb:Array Bool}{cs news xs:List aq}{ds:List Deferred}{e:Eng.Ent}{key:List UInt8}{o:Ob}{q:Bool}{t0 v v2 va vc vk:aq}{u:FrameMode}{w w0:ao}{xo yo:Operand}{α:Type}{t0 t1 t2:aq}{k0:Eng.KT}
section
open Go
namespace Lx
open Oc
def Ss (u:List UInt8)(x:Tok):Prop:=next u 0=(x,0)∧x.k≠0∧x.a=0∧x.t=u.length
end Lx
end
end Go.Proofs.YtlgndjkieegnaaaGreatDoor






namespace Go.Proofs.YtlgndjkieegnaaaGreatDoor
variable{A S:Nat->Prop}{K:VWP}{L:List Eng.Ent}{M N:Eng.Mem}{P:Program}{PK:PKT}{R:Ending->FrameMode->ao->Prop}{a:Int}{args:Array aq}{b cap d f i m sz:Nat}{cb:Array Bool}{cs news xs:List aq}{ds:List Deferred}{e:Eng.Ent}{key:List UInt8}{o:Ob}{q:Bool}{t0 v v2 va vc vk:aq}{u:FrameMode}{w w0:ao}{xo yo:Operand}{α:Type}{t0 t1 t2:aq}{k0:Eng.KT}
section
open Eng Go.RowKit
def tokC (x:Lx.Tok):List Value:=[ad x.k,ad x.a,ad x.t,ad x.n,ae x.s]
def ptr (b:Nat)(i:Nat):Value:=af b i
section
variable {w:ao}{PK:PKT}{K:VWP}{S:Nat->Prop}{w0:ao}{L:List Ent}
end
end
end Go.Proofs.YtlgndjkieegnaaaGreatDoor




namespace Go.Proofs.YtlgndjkieegnaaaGreatDoor
variable{A S:Nat->Prop}{K:VWP}{L:List Eng.Ent}{M N:Eng.Mem}{P:Program}{PK:PKT}{R:Ending->FrameMode->ao->Prop}{a:Int}{args:Array aq}{b cap d f i m sz:Nat}{cb:Array Bool}{cs news xs:List aq}{ds:List Deferred}{e:Eng.Ent}{key:List UInt8}{o:Ob}{q:Bool}{t0 v v2 va vc vk:aq}{u:FrameMode}{w w0:ao}{xo yo:Operand}{α:Type}{t0 t1 t2:aq}{k0:Eng.KT}
section
open Eng Go.RowKit
def n3 (vs:List aq):Nat:=(RowKit.intOf (vs.getD 3 undef)).toNat
end
end Go.Proofs.YtlgndjkieegnaaaGreatDoor












namespace Go.Proofs.YtlgndjkieegnaaaGreatDoor
variable{A S:Nat->Prop}{K:VWP}{L:List Eng.Ent}{M N:Eng.Mem}{P:Program}{PK:PKT}{R:Ending->FrameMode->ao->Prop}{a:Int}{args:Array aq}{b cap d f i m sz:Nat}{cb:Array Bool}{cs news xs:List aq}{ds:List Deferred}{e:Eng.Ent}{key:List UInt8}{o:Ob}{q:Bool}{t0 v v2 va vc vk:aq}{u:FrameMode}{w w0:ao}{xo yo:Operand}{α:Type}{t0 t1 t2:aq}{k0:Eng.KT}
section
open Eng Go.RowKit
section
variable {w:ao}{PK:PKT}{K:VWP}{S:Nat->Prop}{w0:ao}{L:List Ent}
end
def Lh (b:Nat)(s:List UInt8):Ent:=.cells b [ae s] 9
end
end Go.Proofs.YtlgndjkieegnaaaGreatDoor

namespace Go.Proofs.YtlgndjkieegnaaaGreatDoor
variable{A S:Nat->Prop}{K:VWP}{L:List Eng.Ent}{M N:Eng.Mem}{P:Program}{PK:PKT}{R:Ending->FrameMode->ao->Prop}{a:Int}{args:Array aq}{b cap d f i m sz:Nat}{cb:Array Bool}{cs news xs:List aq}{ds:List Deferred}{e:Eng.Ent}{key:List UInt8}{o:Ob}{q:Bool}{t0 v v2 va vc vk:aq}{u:FrameMode}{w w0:ao}{xo yo:Operand}{α:Type}{t0 t1 t2:aq}{k0:Eng.KT}
section
open Eng Go.RowKit
theorem draw {F:ao->Prop}(h:F w.drew):DrawX w F:=⟨h⟩
end
end Go.Proofs.YtlgndjkieegnaaaGreatDoor


namespace Go.Proofs.YtlgndjkieegnaaaGreatDoor
variable{A S:Nat->Prop}{K:VWP}{L:List Eng.Ent}{M N:Eng.Mem}{P:Program}{PK:PKT}{R:Ending->FrameMode->ao->Prop}{a:Int}{args:Array aq}{b cap d f i m sz:Nat}{cb:Array Bool}{cs news xs:List aq}{ds:List Deferred}{e:Eng.Ent}{key:List UInt8}{o:Ob}{q:Bool}{t0 v v2 va vc vk:aq}{u:FrameMode}{w w0:ao}{xo yo:Operand}{α:Type}{t0 t1 t2:aq}{k0:Eng.KT}
section
open Eng Go.RowKit
theorem nO:∀(l:List Lx.Tok) (k j:Nat) (b:k < l.length),j < 5->(l.flatMap tokC)[k*5+j]?=(tokC l[k])[j]?
|x::l,0,j,_,a=>by
  rw[awZ,awR (by simpa[tokC] using a)];simp
|x::l,k+1,j,b,a=>by
  have c:(tokC x).length=5:=rfl;rw[awZ,awW (by rw[c];omega),c,show (k+1)*5+j - 5=k*5+j by omega];rw[nO l k j (by simpa using b) a];simp
end
end Go.Proofs.YtlgndjkieegnaaaGreatDoor











namespace Go.Proofs.YtlgndjkieegnaaaGreatDoor
variable{A S:Nat->Prop}{K:VWP}{L:List Eng.Ent}{M N:Eng.Mem}{P:Program}{PK:PKT}{R:Ending->FrameMode->ao->Prop}{a:Int}{args:Array aq}{b cap d f i m sz:Nat}{cb:Array Bool}{cs news xs:List aq}{ds:List Deferred}{e:Eng.Ent}{key:List UInt8}{o:Ob}{q:Bool}{t0 v v2 va vc vk:aq}{u:FrameMode}{w w0:ao}{xo yo:Operand}{α:Type}{t0 t1 t2:aq}{k0:Eng.KT}
section
open Eng Go.RowKit
theorem HU {wb:ao}(h:tE A wb o vk vc cs)(hi:i < o.kids.length) :
  ∃v p,OV A wb v o.kids[i]∧∀W,Kept A wb W->(mIA 23 vc (ad (i:Int))).run ah W=.ok (.value (.pointer (ay p))) W∧(aH 25 (.pointer (ay p))).run ah W=.ok (.value v) W:=by
 obtain⟨b,off,cap,rfl,_⟩:=bR h.kids.1 om;obtain⟨a,g,d,c⟩:=OVs.get _ _ i hi h.all;refine⟨.agg a.toArray,⟨b,off+i*6,ax⟩,d,λW l=>⟨?_,?_⟩⟩
 ·have:=cZ (P:=ah) (T:=23) (b:=b) (off:=off) (cap:=cap) (n:=o.kids.length) (k:=.i64) (i:=(i:Int)) (w:=W) auU Mk om om;rw[auJ] at this;exact this
 ·obtain⟨r,e,f,he,m⟩:=bR (h.kept l).kids.1 om;cases he;refine aY (v:=.agg a.toArray) (AtV.agg fR g λj v q=>?_);rw[awU];exact m _ _ (c j v q)
theorem acU {wb:ao}(h:tE A wb o vk vc cs)(hi:i < o.keys.length) :
  ∃p,∀W,Kept A wb W->(mIA 22 vk (ad (i:Int))).run ah W=.ok (.value (.pointer (ay p))) W∧(aH 9 (.pointer (ay p))).run ah W=.ok (.value (.string ⟨o.keys[i].toArray⟩)) W:=by
 obtain⟨b,off,cap,rfl,_⟩:=bR h.keys.1 om;refine⟨⟨b,off+i,ax⟩,λW d=>⟨?_,?_⟩⟩
 ·have:=cZ (P:=ah) (T:=22) (b:=b) (off:=off) (cap:=cap) (n:=o.keys.length) (k:=.i64) (i:=(i:Int)) (w:=W) auR (show _=ay 1 by kernel_rfl) om om;rw[auJ,avC] at this;exact this
 ·obtain⟨f,a,c,he,e⟩:=bR (h.kept d).keys.1 om;cases he;exact aB Gh (e i _ (fF hi))
section
variable {w:ao}{PK:PKT}{K:VWP}{S:Nat->Prop}{w0:ao}{L:List Ent}
end
theorem Eng.Mem.le.trans {O:Mem}(h:M.le N)(k:N.le O):M.le O:=Mem.le_trans h k
theorem nM {l:List (List UInt8)}:∀x∈bI l,x.oneCell'=true:=by
 intro x a;obtain⟨y,_,rfl⟩:=avN.1 a;rfl
theorem bX {T:TypeId}{n:Nat}(h:(Ent.urow T sz v n xs).is w):v.oneCell'=true:=by
 rcases (show w.ownsRow 0 T sz v n xs from h).2 with ⟨rfl,_⟩|⟨g,cap,cur,rfl,_⟩<;>rfl
theorem Ee {A:Nat->Prop}{w:ao}:∀{os:List Ob} {cs:List aq},OVs A w cs os->∀x∈cs,x.oneCell'=aw
|[],cs,h=>by rw[OVs] at h;subst h;intro x b;cases b
|o::os,cs,h=>by
  rw[OVs] at h;obtain⟨a,rest,rfl,i,d,f⟩:=h;intro x b;rcases avF.1 b with b|b
  ·obtain⟨vk,vc,g,he,c⟩:=d.open;have e:a.toArray=(obC o vk vc).toArray:=by injection he
   have e:a=obC o vk vc:=by simpa using congrArg Array.toList e
   subst e;exact iF o c.keys.one c.kids.one x b
  ·exact Ee f x b
theorem dM {A:Nat->Prop}{w:ao}:∀{os ps:List Ob} {cs ds:List aq},OVs A w cs os->OVs A w ds ps->OVs A w (cs++ds) (os++ps)
|[],ps,cs,ds,h,k=>by rw[OVs] at h;subst h;simpa using k
|o::os,ps,cs,ds,h,k=>by
  rw[OVs] at h;obtain⟨a,rest,rfl,b,c,d⟩:=h;rw[axW,OVs];exact⟨a,rest++ds,sm,b,c,dM d k⟩
theorem kI (h:OV A w (obV o vk vc) o):OVs A w (obC o vk vc) [o]:=by
 rw[OVs];exact⟨obC o vk vc,[],sm,rfl,h,OVs.nil⟩
theorem tE.le {M N:Mem}{o:Ob}{vk vc:aq}{cs:List aq}(a:M.le N)(h:tE M.A M.w o vk vc cs):tE N.A N.w o vk vc cs:=⟨h.keys.le a,h.kids.le a,h.all.le a⟩
theorem aiW {k n g:Int}{s:List UInt8}{keys:List (List UInt8)}{kids:List Ob}(a:SlA M.A M.w vk 1 keys.length (bI keys))(b:SlA M.A M.w vc 6 kids.length cs)(c:OVs M.A M.w cs kids):tE M.A M.w (.mk k n g s keys kids) vk vc cs:=⟨a,b,c⟩
theorem nW (M:Mem):OV M.A M.w (obV Vl.ob0 (.slice ax 0 0) (.slice ax 0 0)) Vl.ob0:=(aiW (M:=M) (keys:=[]) (kids:=[]) (SlA.nil _ _ _ _) (SlA.nil _ _ _ _) OVs.nil).ov
theorem Va (o:Ob)(c:vk.oneCell'=aw)(d:vc.oneCell'=aw)(w:ao):Ret ah 70 #[obV o vk vc] w (λv w'=>v=obV o vk vc∧Below w.heap.size w w'):=by
 refine aX λK e=>FY ?_;unfold BA nz;refine eQ o c d (Own.start w) λb f a=>?_;refine dJ a λb2 w2 a=>?_;rw[jL a 1 rfl];refine aT 0 c d a rfl λw3 a=>?_;exact eN (bJ (a.agg 0 rfl fR)) (e _ _ ⟨rfl,a.done⟩)
theorem Pe:cW ah 70=true:=krx
abbrev alX:Value:=.func (.func 70) #[] #[]
theorem R8 (n:Nat):∀(o:Ob) (v:aq) (M:Mem) (w:ao),o.wt<=n->o.wt<=100000000000->M.has w->OV M.A M.w v o->jR ah 69 #[v,alX] M w (λv' N=>OV N.A N.w v' o):=by
 induction n with
|zero=>intro o v M w h;have:=o.KU;omega
|succ n ih=>
 intro o v M w hn hw hM hv;obtain⟨vk,vc,cs,rfl,r⟩:=hv.open;have a6:Ob.wts o.kids<=100000000000:=by cases o;rw[Ob.wt] at hw;simp only[Ob.kids];omega
 have a7:Pl.tot o.keys<=100000000000:=by cases o;rw[Ob.wt] at hw;simp only[Ob.keys];omega
 have a8:=Ob.rN o.kids;have b0:=Pl.gE o.keys;refine bB hM λK hK=>FG ?_;unfold BM nz;refine eQ o r.keys.one r.kids.one (bT.memS hM) λb w1 c=>?_;refine dJ c λt w2 c=>?_;rw[jL c 1 rfl];refine LB Pe (aK c (R:=λv=>v=obV o vk vc) (Va o r.keys.one r.kids.one w2) ?_);rintro _ w3 rfl c;refine aT 1 r.keys.one r.kids.one c rfl λw4 c=>?_;rw[iZ,dZ c 1 rfl];refine Eh (A7 vk _ _ w4 (r.keys.now (c.hasM 2 rfl)) nM om) λvk' w5 E=>?_;have c:=c.join E;have c:bT M.A w w5 [.urow 9 1 vk' o.keys.length (bI o.keys),obE t ob0 (.slice ax 0 0) (.slice ax 0 0),obE b o vk vc,.mem M]:=c;have F:vk'.oneCell'=true:=bX (c.at_ 0 rfl);rw[iZ];refine aO 2 c rfl krx F (show 0+4 < 6 by omega) λw6 c=>?_;have c:bT M.A w w6 [.urow 9 1 vk' o.keys.length (bI o.keys),obE t ob0 (.slice ax 0 0) (.slice ax 0 0),obE b o vk' vc,.mem M]:=c;obtain⟨N,G,z,c⟩:=c.bG 2 rfl;have c:bT M.A w w6 [obE t ob0 (.slice ax 0 0) (.slice ax 0 0),obE b o vk' vc,.mem N]:=c;refine join λJ hJ=>?_;have fin:∀(W:ao) (j:Mem) (vc':aq) (d:List aq),bT M.A w W [obE t ob0 (.slice ax 0 0) (.slice ax 0 0),obE b o vk' vc',.mem j]->N.le j->vc'.oneCell'=aw->SlA j.A j.w vc' 6 o.kids.length d->OVs j.A j.w d o.kids->J [] W:=by
  intro W j vc' d c hle S T h2;refine hJ _ _ λ_=>?_;unfold vT nz;rw[jL c 1 rfl];refine aT 0 F S c rfl λw7 c=>?_;refine eN (bJ (c.agg 0 rfl fR)) (hK _ _ j _ 2 c rfl (G.trans hle) ?_);exact tE.ov (⟨z.le hle,T,h2⟩:tE j.A j.w o vk' vc' d)
 have B:=r.le G;rw[iR,cQ c 1 rfl];obtain⟨a,cap,rfl,a1⟩:∃a cap,vc=.slice a o.kids.length cap∧(a=ax->o.kids.length=0):=by
  obtain⟨⟨_,a,cap,e,T,_⟩,_⟩:=r.kids;exact⟨a,cap,e,T⟩
 rw[amI auU];cases a with
|none=>
  simp only[aBj,awA,i_f];exact fin _ N _ _ c N.le_refl rfl B.kids B.all
|some p=>
  simp only[aBk,avZ,i_t];rw[iR,cQ c 1 rfl,bW auU];refine Qy (sz:=6) (bytes:=88) auU krx om om c λg w7 zs U c=>?_;have c:=c.toU 6 o.kids.length o.kids.length U (auL _) om;rw[avE om] at c;rw[iR,cQ c 2 rfl,bW auU];refine loop (λvs W=>∃(i:Nat) (j:Mem) (d f:List aq),vs=[ad i]∧i<=o.kids.length∧N.le j∧OVs j.A j.w d (o.kids.take i)∧d.length=i*6 ∧
    bT M.A w W [.urow 25 6 (bO g 0 o.kids.length o.kids.length) o.kids.length (d++f),obE t ob0 (.slice ax 0 0) (.slice ax 0 0),obE b o vk' (.slice (ay p) o.kids.length cap),.mem j]) (λvs _=>o.kids.length - n0 vs)
   ⟨0,N,[],zs,rfl,om,N.le_refl,OVs.nil,rfl,c⟩ ?_
  clear c;rintro vs w8 ⟨i,j,d,f,rfl,hi,hle,s,l,c⟩ _;simp only[wE,gd,rs,nz];have V:=(show w8.ownsRow 0 25 6 _ _ (d++f) from c.at_ 0 rfl).1;rw[auH,l] at V;by_cases H:(i:Int) < (o.kids.length:Int)
  ·have m:i < o.kids.length:=om
   simp only[H,auE,i_t];obtain⟨x,q,hx,X⟩:=HU (B.le hle) m;obtain⟨r1,r2⟩:=X w8 (c.hasM 3 rfl);refine aD r1 |>.mpr (aD r2 |>.mpr ?_);obtain⟨xk,xc,b1,rfl,I⟩:=hx.open;refine dJ c λb7 w9 c=>?_;refine aT 0 I.keys.one I.kids.one c rfl λY c=>?_;rw[jL c 0 rfl];have b2:=ER m;refine bH c 4 rfl (ih _ _ j Y om om (c.hasM 4 rfl) hx) λy Q Z k hy c=>?_;obtain⟨C,D,b3,rfl,O⟩:=hy.open;have c:bT M.A w Z [.urow 25 6 (bO g 0 o.kids.length o.kids.length) o.kids.length (d++f),obE t ob0 (.slice ax 0 0) (.slice ax 0 0),obE b o vk' (.slice (ay p) o.kids.length cap),.mem Q]:=c.tail;refine aD (cZ auU Mk om om) |>.mpr ?_;rw[auJ,auP];refine Cw 0 c rfl (u:=obV o.kids[i] C D) (new:=obC o.kids[i] C D) rfl Mk (iF _ O.keys.one O.kids.one) (by show i*6+6<=_;omega) λb5 c=>?_;rw[aA om om];refine bC ⟨i+1,Q,d++obC o.kids[i] C D,f.drop 6,rfl,om,hle.trans k,?_,?_,?_⟩ (by simp[n0,RowKit.intOf];omega)
   ·rw[avL m];exact dM (s.le k) (kI hy)
   ·rw[auH,l];show i*6+6=_;omega
   ·have e:(d++f).take (i*6)++obC o.kids[i] C D++(d++f).drop (i*6+(obC o.kids[i] C D).length)=d++obC o.kids[i] C D++f.drop 6:=by
     rw[awK l,ayN,awG (by rw[l];omega),avU,l]
     congr 2
     show i*6+6 - i*6=6;omega
    rw[e] at c;exact c
  ·have m:i=o.kids.length:=om
   subst m;simp only[H,auF,i_f];have hz:f=[]:=ayY om;subst hz;rw[avA,avE (auL _)] at *;rw[iR];refine aO 2 c rfl krx rfl (show 0+5 < 6 by omega) λw9 c=>?_;obtain⟨Q,k,P,c⟩:=bT.bG (L:=[obE t ob0 (.slice ax 0 0) (.slice ax 0 0),obE b o vk' (bO g 0 o.kids.length o.kids.length),.mem j]) c 2 rfl;exact fin _ Q _ _ c (hle.trans k) rfl P (s.le k)
theorem wJ (o:Ob)(v:aq)(M:Mem)(w:ao)(hw:o.wt<=100000000000)(d:M.has w)(e:OV M.A M.w v o):jR ah 32 #[v] M w (λv' N=>OV N.A N.w v' o):=by
 obtain⟨vk,vc,cs,rfl,f⟩:=e.open;refine bB d λK h=>Ii ?_;unfold FX nz;refine eQ o f.keys.one f.kids.one (bT.memS d) λb j a=>?_;refine dJ a λk w2 a=>?_;rw[jL a 1 rfl];refine bH a 2 rfl (R8 o.wt o _ M w2 (auL _) hw (a.hasM 2 rfl) e) λy N w3 hle g a=>?_;obtain⟨l,m,i,rfl,c⟩:=g.open;refine aT 0 c.keys.one c.kids.one a rfl λn a=>?_;exact eN (bJ (a.agg 0 rfl fR)) (h _ _ N _ 2 a rfl hle g)
end
end Go.Proofs.YtlgndjkieegnaaaGreatDoor



namespace Go.Proofs.YtlgndjkieegnaaaGreatDoor
variable{A S:Nat->Prop}{K:VWP}{L:List Eng.Ent}{M N:Eng.Mem}{P:Program}{PK:PKT}{R:Ending->FrameMode->ao->Prop}{a:Int}{args:Array aq}{b cap d f i m sz:Nat}{cb:Array Bool}{cs news xs:List aq}{ds:List Deferred}{e:Eng.Ent}{key:List UInt8}{o:Ob}{q:Bool}{t0 v v2 va vc vk:aq}{u:FrameMode}{w w0:ao}{xo yo:Operand}{α:Type}{t0 t1 t2:aq}{k0:Eng.KT}
section
open Eng Go.RowKit
theorem eC {b:Int}:DoX ah (mEq .neq 35 xo yo (ad a) (ad b)) w PK K=K (.bool (ai (a≠b))) w:=abW
end
end Go.Proofs.YtlgndjkieegnaaaGreatDoor

namespace Go.Proofs.YtlgndjkieegnaaaGreatDoor
variable{A S:Nat->Prop}{K:VWP}{L:List Eng.Ent}{M N:Eng.Mem}{P:Program}{PK:PKT}{R:Ending->FrameMode->ao->Prop}{a:Int}{args:Array aq}{b cap d f i m sz:Nat}{cb:Array Bool}{cs news xs:List aq}{ds:List Deferred}{e:Eng.Ent}{key:List UInt8}{o:Ob}{q:Bool}{t0 v v2 va vc vk:aq}{u:FrameMode}{w w0:ao}{xo yo:Operand}{α:Type}{t0 t1 t2:aq}{k0:Eng.KT}
section
open Eng Go.RowKit
abbrev cI:Value:=.slice ax 0 0
abbrev ob1 (k n g:Int)(s:List UInt8):Ob:=.mk k n g s [] []
section
variable {w:ao}{S:Nat->Prop}{w0:ao}{L:List Ent}
theorem Qg {K:Ending->ao->Prop}(a:bT S w0 w (obE b o vk vc::L))(k:K (.returned (obV o vk vc)) w):Bw ah [.cell (af b 0) 25] w K:=eN (bJ (a.agg 0 rfl fR)) k
end
def obR (o:Ob)(vk vc:aq)(w:ao):VWP:=λv w'=>v=obV o vk vc∧Below w.heap.size w w'
theorem kY (n:Int)(w:ao):Ret ah 59 #[ad n] w (obR (ob1 2 n 0 []) cI cI w):=by
 refine aX λK d=>Cq ?_;unfold vB nz;refine dJ (Own.start w) λb c a=>?_;have e:∀{PK:PKT} {K:VWP},DoX ah (aV 25 #[(0,(ad 2)),(1,ad n)]) c PK K=K (obV (ob1 2 n 0 []) cI cI) c:=aD krx;rw[e];refine aT 0 rfl rfl a rfl λw2 a=>?_;exact Qg a (d _ _ ⟨rfl,a.done⟩)
theorem L8 (s:List UInt8)(w:ao):Ret ah 50 #[ae s] w (obR (ob1 5 0 0 s) cI cI w):=by
 refine aX λK d=>AZ ?_;unfold tM nz;refine dJ (Own.start w) λb c a=>?_;have e:∀{PK:PKT} {K:VWP},DoX ah (aV 25 #[(0,(ad 5)),(3,ae s)]) c PK K=K (obV (ob1 5 0 0 s) cI cI) c:=aD krx;rw[e];refine aT 0 rfl rfl a rfl λw2 a=>?_;exact Qg a (d _ _ ⟨rfl,a.done⟩)
theorem CC (a:Option Addr)(l c:Nat)(os:List Ob)(w:ao):Ret ah 55 #[.slice a l c] w (obR ((.mk 6 0 0 [] [] os)) cI (.slice a l c) w):=by
 refine aX λK f=>xY ?_;unfold qF nz;refine dJ (Own.start w) λb e d=>?_;have g:∀{PK:PKT} {K:VWP},DoX ah (aV 25 #[(0,(ad 6)),(5,.slice a l c)]) e PK K=K (obV ((.mk 6 0 0 [] [] os)) cI (.slice a l c)) e:=aD krx;rw[g];refine aT 0 rfl rfl d rfl λw2 d=>?_;exact Qg d (f _ _ ⟨rfl,d.done⟩)
def getV (v:aq)(b:Bool):Value:=.tuple #[v,.bool b]
def A4 (v:aq)(e:Int):Value:=.tuple #[v,ad e]
section
variable {w:ao}{S:Nat->Prop}{w0:ao}{L:List Ent}
theorem dL {K:Ending->ao->Prop}{x:aq}(i:Nat)(a:bT S w0 w L)(hi:L[i]?=ay (obE b o vk vc))(k:K (.returned (.tuple #[obV o vk vc,x])) w):Bw ah [.cell (af b 0) 25,.val x] w K:=
 zH (bJ (a.agg i hi fR)) Ae k
theorem EU :DoX ah (aV 25 #[]) w PK K=K (obV Vl.ob0 cI cI) w:=aD krx
end
theorem uR (n:Int)(w:ao):Ret ah 81 #[ad n] w (obR (ob1 2 n 0 []) cI cI w):=by
 refine aX λK d=>LO ?_;unfold Ke nz;refine dJ (Own.start w) λb c a=>?_;have e:∀{PK:PKT} {K:VWP},DoX ah (aV 25 #[(0,(ad 2)),(1,ad n)]) c PK K=K (obV (ob1 2 n 0 []) cI cI) c:=aD krx;rw[e];refine aT 0 rfl rfl a rfl λw2 a=>?_;exact Qg a (d _ _ ⟨rfl,a.done⟩)
theorem jV (s:List UInt8)(w:ao):Ret ah 82 #[ae s] w (obR (ob1 5 0 0 s) cI cI w):=by
 refine aX λK d=>JS ?_;unfold H3 nz;refine dJ (Own.start w) λb c a=>?_;have e:∀{PK:PKT} {K:VWP},DoX ah (aV 25 #[(0,(ad 5)),(3,ae s)]) c PK K=K (obV (ob1 5 0 0 s) cI cI) c:=aD krx;rw[e];refine aT 0 rfl rfl a rfl λw2 a=>?_;exact Qg a (d _ _ ⟨rfl,a.done⟩)
theorem KL (o:Ob)(e:vk.oneCell'=aw)(f:vc.oneCell'=aw)(w:ao):Ret ah 101 #[obV o vk vc] w (λv w'=>v=.bool (Vl.keyed o)∧Below w.heap.size w w'):=by
 refine aX λK d=>Io ?_;unfold F7 nz;refine eQ o e f (Own.start w) λb g a=>?_;rw[eG,vE a 0 rfl];unfold Vl.keyed at d;by_cases c:o.k=7
 ·simp only[rs,c,auE,oG];exact d _ _ ⟨by simp[c],a.done⟩
 ·simp only[rs,c,auF,eG,vE a 0 rfl];exact d _ _ ⟨by simp[c],a.done⟩
theorem CE (o:Ob)(v:aq)(key:List UInt8)(M:Mem)(w:ao)(hw:o.wt<=100000000000)(k:M.has w)(p:OV M.A M.w v o) :
  jR ah 63 #[v,ae key] M w (λr N=>∃v',r=getV v' (Vl.get o key).isSome∧OV N.A N.w v' ((Vl.get o key).getD Vl.ob0)):=by
 obtain⟨vk,vc,cs,rfl,d⟩:=p.open;have s:Ob.wts o.kids<=100000000000:=by cases o;rw[Ob.wt] at hw;simp only[Ob.kids];omega
 have u:Pl.tot o.keys<=100000000000:=by cases o;rw[Ob.wt] at hw;simp only[Ob.keys];omega
 have z:=Pl.gE o.keys;have B:=Ob.rN o.kids;refine bB k λK l=>LD ?_;unfold Kf nz;refine eQ o d.keys.one d.kids.one (bT.memS k) λb L a=>?_;refine dJ a λh w2 a=>?_;rw[jL a 1 rfl];refine aK a (R:=λv=>v=.bool (Vl.keyed o)) (KL o d.keys.one d.kids.one w2) ?_;rintro _ w3 rfl a;have no:∀{W:ao},bT M.A w W [obE h ob0 cI cI,obE b o vk vc,.mem M]->Vl.get o key=ax->DoX ah (aV 25 #[]) W (pk K) (λt W=>DoX ah (aN 25 (af h 0) t) W (pk K) λ_ W=>Bw ah [.cell (af h 0) 25,.val (.bool au)] W K):=by
  intro W a f;rw[EU];refine aT 0 rfl rfl a rfl λC a=>?_;refine dL 0 a rfl (l _ _ M _ 2 a rfl M.le_refl ⟨obV Vl.ob0 cI cI,?_,?_⟩)
  ·rw[f];rfl
  ·rw[f];exact nW M
 cases c:Vl.keyed o with
|false=>
  simp only[rs,avZ];exact no a (by unfold Vl.get;rw[c];rfl)
|true=>
  simp only[rs,awA];rw[iZ,dZ a 1 rfl];refine BJ (Vf vk o.keys key w3 (d.keys.now (a.hasM 2 rfl)) om) ?_;by_cases hi:o.keys.idxOf key < o.keys.length
  ·rw[auC hi];have i:¬((o.keys.idxOf key:Int) < 0):=om
   simp only[rs,i,auF,iR,cQ a 1 rfl];rw[aZ auU (d.kids.now (a.hasM 2 rfl))];simp only[rs];by_cases m:(o.kids.length:Int)<=(o.keys.idxOf key:Int)
   ·simp only[m,auE,rs];refine no a ?_;unfold Vl.get;rw[c,auC rfl,auC hi,awV om]
   ·simp only[m,auF,rs,iR,cQ a 1 rfl];have e:o.keys.idxOf key < o.kids.length:=om
    have f:Vl.get o key=ay o.kids[o.keys.idxOf key]:=by
     unfold Vl.get;rw[c,auC rfl,auC hi,auO e]
    obtain⟨x,q,D,j⟩:=HU d e;obtain⟨E,F⟩:=j w3 (a.hasM 2 rfl);refine aD E |>.mpr (aD F |>.mpr ?_);have G:=ER e;refine bH a 2 rfl (wJ _ x M w3 om (a.hasM 2 rfl) D) λy N C hle n a=>?_;obtain⟨H,I,J,rfl,g⟩:=n.open;refine aT 0 g.keys.one g.kids.one a rfl λO a=>?_;refine dL 0 a rfl (l _ _ N _ 2 a rfl hle ⟨obV o.kids[o.keys.idxOf key] H I,?_,?_⟩)
    ·rw[f];rfl
    ·rw[f];exact n
  ·rw[auB hi];have i:((-1:Int) < 0):=om
   simp only[rs,i,auE,oG];refine no a ?_;unfold Vl.get;rw[c,auC rfl,auB hi]
theorem KQ (o:Ob)(v:aq)(M:Mem)(w:ao)(hw:o.wt<=100000000000)(f:M.has w)(e:OV M.A M.w v o) :
  jR ah 123 #[v] M w (λr N=>∃v',r=A4 v' (Vl.right o).2∧OV N.A N.w v' (Vl.right o).1):=by
 obtain⟨vk,vc,cs,rfl,d⟩:=e.open;refine bB f λK g=>IL ?_;unfold EV nz;refine eQ o d.keys.one d.kids.one (bT.memS f) λb i a=>?_;refine dJ a λj w2 a=>?_;rw[jL a 1 rfl];refine aK a (R:=λv=>v=ad (Vl.check 1 o)) (lB o _ w2 (OV.inw (a.hasM 2 rfl) e) om) ?_;rintro _ w3 rfl a;simp only[eC];by_cases c:Vl.check 1 o=0
 ·simp only[c,ne_eq,not_true,auF,i_f];rw[jL a 1 rfl];refine aT 0 d.keys.one d.kids.one a rfl λh a=>?_;refine dL 0 a rfl (g _ _ M _ 2 a rfl M.le_refl ⟨obV o vk vc,?_,?_⟩)
  ·simp[Vl.right,c,A4]
  ·simpa[Vl.right,c] using e
 ·simp only[c,ne_eq,awJ,auE,i_t];rw[EU];refine aT 0 rfl rfl a rfl λh a=>?_;refine dL 0 a rfl (g _ _ M _ 2 a rfl M.le_refl ⟨obV Vl.ob0 cI cI,?_,?_⟩)
  ·simp[Vl.right,c,A4]
  ·simpa[Vl.right,c] using nW M
theorem MV (o:Ob)(v:aq)(M:Mem)(w:ao)(hw:o.wt<=100000000000)(f:M.has w)(e:OV M.A M.w v o) :
  jR ah 99 #[v] M w (λr N=>∃v',r=A4 v' (Vl.right o).2∧OV N.A N.w v' (Vl.right o).1):=by
 obtain⟨vk,vc,cs,rfl,d⟩:=e.open;refine bB f λK g=>xP ?_;unfold qJ nz;refine eQ o d.keys.one d.kids.one (bT.memS f) λb i a=>?_;refine dJ a λj w2 a=>?_;rw[jL a 1 rfl];refine aK a (R:=λv=>v=ad (Vl.check 1 o)) (lE o _ w2 (OV.inw (a.hasM 2 rfl) e) om) ?_;rintro _ w3 rfl a;simp only[eC];by_cases c:Vl.check 1 o=0
 ·simp only[c,ne_eq,not_true,auF,i_f];rw[jL a 1 rfl];refine aT 0 d.keys.one d.kids.one a rfl λh a=>?_;refine dL 0 a rfl (g _ _ M _ 2 a rfl M.le_refl ⟨obV o vk vc,?_,?_⟩)
  ·simp[Vl.right,c,A4]
  ·simpa[Vl.right,c] using e
 ·simp only[c,ne_eq,awJ,auE,i_t];rw[EU];refine aT 0 rfl rfl a rfl λh a=>?_;refine dL 0 a rfl (g _ _ M _ 2 a rfl M.le_refl ⟨obV Vl.ob0 cI cI,?_,?_⟩)
  ·simp[Vl.right,c,A4]
  ·simpa[Vl.right,c] using nW M
theorem UH (va:aq)(l:List (List UInt8))(x:List UInt8)(w:ao)(f:Sl w va 1 l.length (bI l))(t:l.length<=1099511627776) :
  Ret ah 145 #[va,ae x] w (λv w'=>v=.tuple #[ad (Vl.place l x:Nat),.bool (Vl.hit l x)]∧Below w.heap.size w w'):=by
 refine aX λK n=>xO ?_;unfold qN nz;refine loop (λvs w'=>∃i:Nat,vs=[ad i]∧i<=l.length∧(∀m (h:m < l.length),m < i->Vl.less l[m] x=aw)∧w=w') (λvs _=>l.length - n0 vs) ⟨0,rfl,om,λm _ h=>by omega,rfl⟩ ?_;rintro vs w2 ⟨i,rfl,hi,e,rfl⟩ _;simp only[mS,gd,nz];rw[aZ auR f];simp only[rs];have fin:(∀h:i < l.length,Vl.less l[i] x=au)->∀F,F=(λd:ao->Prop=>
   QDo ah d (mB .len #[22] 3 #[au] #[va]) λt24=>
   QDo ah d (iQ .lss 3 (ad (i:Int)) t24) λt25=>
   GQ t25 aw (λE=>E va) λt27=>
   GQ t25 aw (λE=>E (ad (i:Int))) λt28=>
   GQ t25 aw (λE=>QDo ah d (mIA 22 t27 t28) E) λt29=>
   GQ t25 aw (λE=>QDo ah d (aH 9 t29) E) λt30=>
   GQ t25 aw (λE=>E (ae x)) λt31=>
   GQ t25 aw (λE=>QDo ah d (mEq .eql 9 (.tmp 30) (.tmp 31) t30 t31) E) λt32=>
   QDo ah d (iB t25 t32 (.bool au)) λt33=>
   ∀w,d w->K (.returned (.tuple #[ad (i:Int),t33])) w)->oY w F:=by
  intro j F p;subst p;have hp:Vl.place l x=i:=Vl.OC hi e j;refine quiet (gA (ad (l.length:Int)) (λW g=>?_) (Lu ?_))
  ·obtain⟨_,a,cap,rfl,_⟩:=f;exact Hh auR
  by_cases b:(i:Int) < (l.length:Int)
  ·have c:i < l.length:=om
   simp only[b,auE,gq];obtain⟨u,y,ca,rfl,k⟩:=bR f om;refine dY _ (λ_=>cZ auR (show _=ay 1 by kernel_rfl) om om) ?_;refine gA (ae (l[i])) (λz hw=>aB UJ ?_) ?_
   ·rw[auJ,avC];have:=k i _ (fF c);exact (hw.cell (World.block_lt_of_cell? w _ this)).trans this
   refine atZ ?_;refine Sc ?_;intro W g;refine n _ _ ⟨?_,g⟩;rw[hp];unfold Vl.hit;rw[hp,auO c];simp
  ·simp only[b,auF,gq];refine Sc ?_;intro W g;refine n _ _ ⟨?_,g⟩;rw[hp];unfold Vl.hit;rw[hp,awV om];simp
 by_cases b:(i:Int) < (l.length:Int)
 ·have c:i < l.length:=om
  simp only[b,auE,rs];refine HI (ae (l[i])) auR krx f om (by rw[auJ];exact fF c) λq r=>?_;rw[aJ UJ r];simp only[aiM];cases o:Op.bytesLess l[i] x with
 |true=>
   simp only[rs];rw[aA om om];refine bC ⟨i+1,rfl,om,λm hm s=>?_,rfl⟩ (by simp[n0,RowKit.intOf];omega);rcases avI m i with h|h
   ·exact e m hm h
   ·have:m=i:=om
    subst this;exact o
 |false=>
   simp only[rs];exact fin (λ_=>o) _ rfl
 ·simp only[b,auF,rs,oG];exact fin (λh=>absurd h om) _ rfl
end
end Go.Proofs.YtlgndjkieegnaaaGreatDoor







namespace Go.Proofs.YtlgndjkieegnaaaGreatDoor
variable{A S:Nat->Prop}{K:VWP}{L:List Eng.Ent}{M N:Eng.Mem}{P:Program}{PK:PKT}{R:Ending->FrameMode->ao->Prop}{a:Int}{args:Array aq}{b cap d f i m sz:Nat}{cb:Array Bool}{cs news xs:List aq}{ds:List Deferred}{e:Eng.Ent}{key:List UInt8}{o:Ob}{q:Bool}{t0 v v2 va vc vk:aq}{u:FrameMode}{w w0:ao}{xo yo:Operand}{α:Type}{t0 t1 t2:aq}{k0:Eng.KT}
section
open Eng Go.RowKit
theorem bT.sep (g:bT S w0 w L)(i j:Nat)(l:i≠j){f:Ent}(hi:L[i]?=ay e)(m:L[j]?=ay f):∀k,e.blk k->¬f.blk k:=by
 obtain⟨a,rfl⟩:=auV.1 hi;obtain⟨b,rfl⟩:=auV.1 m;have hp:=ayX.1 g.apart;intro k d c;rcases avI i j with h|h
 ·exact hp i j a b h k d c
 ·exact hp j i b a om k c d
section
variable {w:ao}{S:Nat->Prop}{w0:ao}{L:List Ent}{PK:PKT}{K:VWP}
theorem Bm (o:Ob)(a:vk.oneCell'=aw)(c:vc.oneCell'=aw)(d:bT S w0 w L)(k:∀b w',bT S w0 w' (obE b o vk vc::L)->K (bO b 0 1 1) w'):DoX ah (aM 23 1 #[(0,obV o vk vc)]) w PK K:=by
 cases vk<;>first|(cases a;done)|skip
 all_goals cases vc<;>first|(cases c;done)|exact bK (λb=>bO b 0 1 1) (obC o _ _) 25 (λ_=>by kernel_rfl) d k
theorem D6 (s:List UInt8)(a:bT S w0 w L)(k:∀b w',bT S w0 w' (.cells b [ae s] 9::L)->K (bO b 0 1 1) w'):DoX ah (aM 22 1 #[(0,ae s)]) w PK K:=
 bK (λb=>bO b 0 1 1) [ae s] 9 (λ_=>by kernel_rfl) a k
end
theorem GH (l:List (List UInt8))(i:Nat):(bI l).take (i*1)=bI (l.take i):=by rw[avC];simp[bI]
theorem Hl (l:List (List UInt8))(i:Nat):(bI l).drop (i*1)=bI (l.drop i):=by rw[avC];simp[bI]
theorem wL (a b:List (List UInt8)):bI (a++b)=bI a++bI b:=by simp[bI]
theorem Fb {A:Nat->Prop}{w:ao}:∀{os:List Ob} {cs:List aq} (i:Nat),OVs A w cs os->OVs A w (cs.take (i*6)) (os.take i)
|_,_,0,_=>by rw[axP,axY,axY];exact OVs.nil
|[],cs,i+1,h=>by rw[OVs] at h;subst h;rw[List.take_nil,List.take_nil];exact OVs.nil
|o::os,cs,i+1,h=>by
  rw[OVs] at h;obtain⟨a,rest,rfl,b,c,d⟩:=h;have e:(a++rest).take ((i+1)*6)=a++rest.take (i*6):=by
   rw[aAJ,avE om]
   congr 2
   omega
  rw[e,azA,OVs];exact⟨a,_,rfl,b,c,Fb i d⟩
theorem Gn {A:Nat->Prop}{w:ao}:∀{os:List Ob} {cs:List aq} (i:Nat),OVs A w cs os->OVs A w (cs.drop (i*6)) (os.drop i)
|_,_,0,h=>by rw[axP,axB,axB];exact h
|[],cs,i+1,h=>by rw[OVs] at h;subst h;rw[List.drop_nil,List.drop_nil];exact OVs.nil
|o::os,cs,i+1,h=>by
  rw[OVs] at h;obtain⟨a,rest,rfl,c,d,b⟩:=h;have e:(a++rest).drop ((i+1)*6)=rest.drop (i*6):=by
   rw[ayN,awG om,avU]
   congr 1
   omega
  rw[e,aAm];exact Gn i b
theorem Ts (o x:Ob)(v u:aq)(key:List UInt8)(M:Mem)(w:ao)(hw:o.wt<=10000000000)(T:M.has w)(X:OV M.A M.w v o)(hu:OV M.A M.w u x)(Y:Vl.NT o.keys)(hlen:o.keys.length=o.kids.length) :
  jR ah 124 #[v,ae key,u] M w (λr N=>OV N.A N.w r (Vl.put o key x)):=by
 obtain⟨vk,vc,cs,rfl,i⟩:=X.open;obtain⟨d,e,Z,rfl,q⟩:=hu.open;have a1:Ob.wts o.kids<=10000000000:=by cases o;rw[Ob.wt] at hw;simp only[Ob.kids];omega
 have a6:Pl.tot o.keys<=10000000000:=by cases o;rw[Ob.wt] at hw;simp only[Ob.keys];omega
 have a7:=Pl.gE o.keys;have a8:=Ob.rN o.kids;refine bB T λK hK=>Kt ?_;unfold Ht nz;refine eQ o i.keys.one i.kids.one (bT.memS T) λb3 w1 a=>?_;refine eQ x q.keys.one q.kids.one a λj w2 a=>?_;refine dJ a λl w3 a=>?_;rw[iZ,dZ a 2 rfl];refine BJ (K6 vk o.keys key w3 (i.keys.now (a.hasM 3 rfl)) Y om) ?_;simp only[ex];rw[iZ,dZ a 2 rfl];refine Eh (A7 vk _ _ w3 (i.keys.now (a.hasM 3 rfl)) nM om) λb w4 m=>?_;have a:=a.join m;have a:bT M.A w w4 [.urow 9 1 b o.keys.length (bI o.keys),obE l ob0 cI cI,obE j x d e,obE b3 o vk vc,.mem M]:=a;rw[iZ];refine aO 3 a rfl krx (bX (a.at_ 0 rfl)) (show 0+4 < 6 by omega) λU a=>?_;have a:bT M.A w U [.urow 9 1 b o.keys.length (bI o.keys),obE l ob0 cI cI,obE j x d e,obE b3 o b vc,.mem M]:=a;rw[iR,cQ a 3 rfl];refine Eh (Hu vc _ _ U (i.kids.now (a.hasM 4 rfl)) (Ee i.all) om) λc w6 m=>?_;have a:=a.join m;have a:bT M.A w w6 [.urow 25 6 c o.kids.length cs,.urow 9 1 b o.keys.length (bI o.keys),obE l ob0 cI cI,obE j x d e,obE b3 o b vc,.mem M]:=a;rw[iR];refine aO 4 a rfl krx (bX (a.at_ 0 rfl)) (show 0+5 < 6 by omega) λw7 a=>?_;have a:bT M.A w w7 [.urow 25 6 c o.kids.length cs,.urow 9 1 b o.keys.length (bI o.keys),obE l ob0 cI cI,obE j x d e,obE b3 o b c,.mem M]:=a;have z:=Vl.xX o.keys key;refine join λJ hJ=>?_;have fin:∀(W:ao) (f cv:aq) (ks:List (List UInt8)) (os:List Ob) (ds:List aq),bT M.A w W [.urow 25 6 cv os.length ds,.urow 9 1 f ks.length (bI ks),obE l ob0 cI cI,obE j x d e,obE b3 o f cv,.mem M] ->
   OVs M.A M.w ds os->Vl.put o key x=.mk o.k o.n o.g o.s ks os->J [] W:=by
  intro W f cv ks os ds a B C;refine hJ _ _ λ_=>?_;unfold Db nz;have F:=bX (a.at_ 1 rfl);have G:=bX (a.at_ 0 rfl);obtain⟨N,hle,D,a⟩:=bT.bG (L:=[.urow 9 1 f ks.length (bI ks),obE l ob0 cI cI,obE j x d e,obE b3 o f cv,.mem M]) a 4 rfl;obtain⟨V,p,t,a⟩:=bT.bG (L:=[obE l ob0 cI cI,obE j x d e,obE b3 o f cv,.mem N]) a 3 rfl;have a:bT M.A w W [obE l ob0 cI cI,obE j x d e,obE b3 o f cv,.mem V]:=a;rw[jL a 2 rfl];refine aT 0 F G a rfl λE a=>?_;refine eN (bJ (a.agg 0 rfl fR)) (hK _ _ V _ 3 a rfl (hle.trans p) ?_);rw[C];exact tE.ov (o:=.mk o.k o.n o.g o.s ks os) ⟨t,D.le p,B.le (hle.trans p)⟩
 cases H:Vl.hit o.keys key with
|true=>
  simp only[i_t];have hi:o.keys[Vl.place o.keys key]?=ay key:=auW H;have I:Vl.place o.keys key < o.keys.length:=(auV.1 hi).1;have hg:o.keys[Vl.place o.keys key]=key:=(auV.1 hi).2;rw[iR,cQ a 4 rfl,jL a 3 rfl];obtain⟨g,cap,rfl⟩:=nX (a.at_ 0 rfl) om;refine aD (cZ auU Mk om om) |>.mpr ?_;rw[auJ,auP];have b0:cs.length=o.kids.length*6:=i.kids.1.1;refine Cw 0 a rfl (u:=obV x d e) (new:=obC x d e) rfl Mk (iF _ q.keys.one q.kids.one) (by show _+6<=_;omega) λE a=>?_;have e1:o.keys.take (Vl.place o.keys key)++key::o.keys.drop (Vl.place o.keys key+1)=o.keys:=by
   conv=>rhs;rw[<-avV (Vl.place o.keys key) o.keys,avX I,hg]
  refine fin E b (bO g 0 o.kids.length cap) o.keys (o.kids.take (Vl.place o.keys key)++x::o.kids.drop (Vl.place o.keys key+1)) (cs.take (Vl.place o.keys key*6)++obC x d e++cs.drop (Vl.place o.keys key*6+6)) ?_ ?_ ?_
  ·have el:(o.kids.take (Vl.place o.keys key)++x::o.kids.drop (Vl.place o.keys key+1)).length=o.kids.length:=by simp;omega
   rw[el];exact a
  ·have:=dM (Fb (Vl.place o.keys key) i.all) (dM (kI hu) (Gn (Vl.place o.keys key+1) i.all));rw[show (Vl.place o.keys key+1)*6=Vl.place o.keys key*6+6 by omega,<-auN] at this;exact this
  ·unfold Vl.put;rw[H];simp only[if_true];rw[e1]
|false=>
  simp only[i_f];rw[iZ,dZ a 4 rfl];refine D6 key a λnb E a=>?_;refine T3 2 a rfl (Ol b o.keys.length (bI o.keys) (Vl.place o.keys key) nb [ae key] E (a.at_ 2 rfl) (a.at_ 0 rfl) rfl (λh=>(bT.sep a 2 0 om rfl rfl) nb h rfl) nM (by simp[Value.oneCell']) z om) ?_;rintro f e' w9 rfl a;have a:bT M.A w w9 [.cells nb [ae key] 9,.urow 25 6 c o.kids.length cs,.urow 9 1 f (o.keys.length+1) ((bI o.keys).take (Vl.place o.keys key*1)++[ae key]++(bI o.keys).drop (Vl.place o.keys key*1)),obE l ob0 cI cI,obE j x d e,obE b3 o b c,.mem M]:=a;rw[GH,Hl] at a;have a:=a.tail;rw[iZ];refine aO 4 a rfl krx (bX (a.at_ 1 rfl)) (show 0+4 < 6 by omega) λO a=>?_;have a:bT M.A w O [.urow 25 6 c o.kids.length cs,.urow 9 1 f (o.keys.length+1) (bI (o.keys.take (Vl.place o.keys key))++[ae key]++bI (o.keys.drop (Vl.place o.keys key))),obE l ob0 cI cI,obE j x d e,obE b3 o f c,.mem M]:=a;rw[iR,cQ a 4 rfl,jL a 3 rfl];refine Bm x q.keys.one q.kids.one a λy P a=>?_;refine T3 1 a rfl (NB c o.kids.length cs (Vl.place o.keys key) y (obC x d e) P (a.at_ 1 rfl) (a.at_ 0 rfl) rfl (λh=>(bT.sep a 1 0 om rfl rfl) y h rfl) (Ee i.all) (iF _ q.keys.one q.kids.one) om om) ?_;rintro cv e' Q rfl a;have a:bT M.A w Q [.cells y (obC x d e) 25,.urow 25 6 cv (o.kids.length+1) (cs.take (Vl.place o.keys key*6)++obC x d e++cs.drop (Vl.place o.keys key*6)),.urow 9 1 f (o.keys.length+1) (bI (o.keys.take (Vl.place o.keys key))++[ae key]++bI (o.keys.drop (Vl.place o.keys key))),obE l ob0 cI cI,obE j x d e,obE b3 o f c,.mem M]:=a;have a:=a.tail;rw[iR];refine aO 4 a rfl krx (bX (a.at_ 0 rfl)) (show 0+5 < 6 by omega) λR a=>?_;refine fin R f cv (o.keys.take (Vl.place o.keys key)++key::o.keys.drop (Vl.place o.keys key)) (o.kids.take (Vl.place o.keys key)++x::o.kids.drop (Vl.place o.keys key)) (cs.take (Vl.place o.keys key*6)++obC x d e++cs.drop (Vl.place o.keys key*6)) ?_ ?_ ?_
  ·have el:(o.kids.take (Vl.place o.keys key)++x::o.kids.drop (Vl.place o.keys key)).length=o.kids.length+1:=by simp;omega
   have S:(o.keys.take (Vl.place o.keys key)++key::o.keys.drop (Vl.place o.keys key)).length=o.keys.length+1:=by simp;omega
   have es:bI (o.keys.take (Vl.place o.keys key)++key::o.keys.drop (Vl.place o.keys key))=bI (o.keys.take (Vl.place o.keys key))++[ae key]++bI (o.keys.drop (Vl.place o.keys key)):=by
    rw[wL];simp[bI,strV]
   rw[el,S,es];exact a
  ·have:=dM (Fb (Vl.place o.keys key) i.all) (dM (kI hu) (Gn (Vl.place o.keys key) i.all));rw[<-auN] at this;exact this
  ·unfold Vl.put;rw[H];simp
theorem Sl.upto {a:Option Addr}{n:Nat}(h:Sl w (.slice a n cap) sz n cs)(hi:i<=n):Sl w (.slice (wB a 0 cap sz) i cap) sz i (cs.take (i*sz)):=by
 obtain⟨g,a',d,e,k,f⟩:=h
 injection e with e1 _ e3
 subst e1;subst e3;refine⟨by rw[auM,g,avO (awC _ hi)],wB a 0 cap sz,cap,rfl,?_,?_⟩
 ·intro c;cases a with
 |none=>have:=k rfl;omega
 |some p=>unfold wB at c;split at c<;>simp at c
 ·intro p hp;cases a with
 |none=>unfold wB at hp;split at hp<;>simp at hp
 |some q=>
   have l:q=p:=by
    unfold wB at hp;split at hp
    ·exact axN hp
    ·have:=axN hp;rw[<-this];simp[Addr.add]
   subst l;refine⟨λh=>(f q rfl).1 om,λj u b=>(f q rfl).2 j u ?_⟩;rw[axK] at b;split at b<;>first|exact b|cases b
theorem Sl.from {a:Option Addr}{n:Nat}(h:Sl w (.slice a n cap) sz n cs)(hi:i<=n)(x:n<=cap):Sl w (.slice (wB a i cap sz) (n - i) (cap - i)) sz (n - i) (cs.drop (i*sz)):=by
 obtain⟨g,a',t,e,v,k⟩:=h
 injection e with e1 _ e3
 subst e1;subst e3;refine⟨by rw[auT,g,<-aAo],wB a i cap sz,cap - i,rfl,?_,?_⟩
 ·intro c;cases a with
 |none=>have:=v rfl;omega
 |some p=>unfold wB at c;split at c<;>simp at c
 ·intro p hp;cases a with
 |none=>unfold wB at hp;split at hp<;>simp at hp
 |some q=>
   by_cases l:cap=i
   ·have c:n - i=0:=om
    refine⟨λh=>by omega,λj u d=>?_⟩;have:(cs.drop (i*sz)).length=0:=by rw[auT,g,<-aAo,c,axP]
    have:=(auV.1 d).1;omega
   ·unfold wB at hp;rw[auB l,aAn] at hp
    injection hp with hp
    have m:0 < n - i->q.spot=none:=λh=>(k q rfl).1 om;refine⟨λh=>?_,λj u d=>?_⟩
    ·have f:=m h;rw[<-hp];obtain⟨b,off,spot⟩:=q;simp only at f;subst f;rw[cS]
    ·rw[ayB] at d;have o:=(k q rfl).2 (i*sz+j) u d;have r:=(auV.1 d).1;have f:q.spot=none:=(k q rfl).1 (by
      rcases awQ n with s|s
      ·rw[g,s,axP] at r;omega
      ·exact s)
     rw[<-hp];obtain⟨b,off,spot⟩:=q;simp only at f;subst f;rw[cS,awU];exact o
theorem SlA.form {n:Nat}(h:SlA A w v sz n cs):∃a cap,v=.slice a n cap∧n<=cap:=by
 obtain⟨⟨_,a,cap,rfl,_⟩,_,b⟩:=h;exact⟨a,cap,rfl,b a n cap rfl⟩
theorem OS (o:Ob)(v:aq)(i:Nat)(M:Mem)(w:ao)(hw:o.wt<=10000000000)(y:M.has w)(D:OV M.A M.w v o)(hi:i < o.keys.length)(hlen:o.keys.length=o.kids.length) :
  jR ah 162 #[v,ad (i:Int)] M w (λr N=>OV N.A N.w r (.mk o.k o.n o.g o.s (o.keys.take i++o.keys.drop (i+1)) (o.kids.take i++o.kids.drop (i+1)))):=by
 obtain⟨vk,vc,cs,rfl,f⟩:=D.open;have E:Ob.wts o.kids<=10000000000:=by cases o;rw[Ob.wt] at hw;simp only[Ob.kids];omega
 have F:Pl.tot o.keys<=10000000000:=by cases o;rw[Ob.wt] at hw;simp only[Ob.keys];omega
 have G:=Pl.gE o.keys;have H:=Ob.rN o.kids;refine bB y λK I=>Gt ?_;unfold Cd nz;refine eQ o f.keys.one f.kids.one (bT.memS y) λb2 P a=>?_;refine dJ a λe w2 a=>?_;rw[iZ,dZ a 1 rfl];refine Eh (A7 vk _ _ w2 (f.keys.now (a.hasM 2 rfl)) nM om) λl w3 c=>?_;have a:=a.join c;have a:bT M.A w w3 [.urow 9 1 l o.keys.length (bI o.keys),obE e ob0 cI cI,obE b2 o vk vc,.mem M]:=a;simp only[rs];rw[aA om om,show (i:Int)+1=((i+1:Nat):Int) by omega];refine T3 0 a rfl (Ot l o.keys.length (bI o.keys) i w3 (a.at_ 0 rfl) nM hi om) ?_;rintro b e' J rfl a;have a:bT M.A w J [.urow 9 1 b (o.keys.length - 1) ((bI o.keys).take (i*1)++(bI o.keys).drop ((i+1)*1)),obE e ob0 cI cI,obE b2 o vk vc,.mem M]:=a;rw[GH,Hl] at a;rw[iZ];have m:=bX (a.at_ 0 rfl);refine aO 2 a rfl krx m (show 0+4 < 6 by omega) λz a=>?_;have a:bT M.A w z [.urow 9 1 b (o.keys.length - 1) (bI (o.keys.take i)++bI (o.keys.drop (i+1))),obE e ob0 cI cI,obE b2 o b vc,.mem M]:=a;rw[iR,cQ a 2 rfl];refine Eh (Hu vc _ _ z (f.kids.now (a.hasM 3 rfl)) (Ee f.all) om) λp B c=>?_;have a:=a.join c;have a:bT M.A w B [.urow 25 6 p o.kids.length cs,.urow 9 1 b (o.keys.length - 1) (bI (o.keys.take i)++bI (o.keys.drop (i+1))),obE e ob0 cI cI,obE b2 o b vc,.mem M]:=a;refine T3 0 a rfl (NS p o.kids.length cs i B (a.at_ 0 rfl) (Ee f.all) om om) ?_;rintro cv e' O rfl a;have a:bT M.A w O [.urow 25 6 cv (o.kids.length - 1) (cs.take (i*6)++cs.drop ((i+1)*6)),.urow 9 1 b (o.keys.length - 1) (bI (o.keys.take i)++bI (o.keys.drop (i+1))),obE e ob0 cI cI,obE b2 o b vc,.mem M]:=a;have q:=bX (a.at_ 0 rfl);rw[iR];refine aO 3 a rfl krx q (show 0+5 < 6 by omega) λC a=>?_;have a:bT M.A w C [.urow 25 6 cv (o.kids.length - 1) (cs.take (i*6)++cs.drop ((i+1)*6)),.urow 9 1 b (o.keys.length - 1) (bI (o.keys.take i)++bI (o.keys.drop (i+1))),obE e ob0 cI cI,obE b2 o b cv,.mem M]:=a;obtain⟨N,hle,t,a⟩:=bT.bG (L:=[.urow 9 1 b (o.keys.length - 1) (bI (o.keys.take i)++bI (o.keys.drop (i+1))),obE e ob0 cI cI,obE b2 o b cv,.mem M]) a 3 rfl;obtain⟨j,d,h,a⟩:=bT.bG (L:=[obE e ob0 cI cI,obE b2 o b cv,.mem N]) a 2 rfl;have a:bT M.A w C [obE e ob0 cI cI,obE b2 o b cv,.mem j]:=a;rw[jL a 1 rfl];refine aT 0 m q a rfl λQ a=>?_;refine eN (bJ (a.agg 0 rfl fR)) (I _ _ j _ 2 a rfl (hle.trans d) ?_);have u:(o.keys.take i++o.keys.drop (i+1)).length=o.keys.length - 1:=by simp;omega
 have x:(o.kids.take i++o.kids.drop (i+1)).length=o.kids.length - 1:=by simp;omega
 refine tE.ov (o:=.mk o.k o.n o.g o.s (o.keys.take i++o.keys.drop (i+1)) (o.kids.take i++o.kids.drop (i+1))) (vk:=b) (vc:=cv) (cs:=cs.take (i*6)++cs.drop ((i+1)*6)) ⟨?_,?_,?_⟩
 ·show SlA j.A j.w b 1 (o.keys.take i++o.keys.drop (i+1)).length (bI (o.keys.take i++o.keys.drop (i+1)));rw[u,wL];exact h
 ·show SlA j.A j.w cv 6 (o.kids.take i++o.kids.drop (i+1)).length _;rw[x];exact t.le d
 ·exact (dM (Fb i f.all) (Gn (i+1) f.all)).le (hle.trans d)
def fw (o:Ob)(key:List UInt8):Ob:=if Vl.keyed o=aw∧Vl.check 1 o=0 then Vl.aR o key else o
theorem ES (o:Ob)(v:aq)(key:List UInt8)(M:Mem)(w:ao)(hw:o.wt<=10000000000)(s:M.has w)(e:OV M.A M.w v o) :
  jR ah 122 #[v,ae key] M w (λr N=>OV N.A N.w r (fw o key)):=by
 obtain⟨vk,vc,cs,rfl,h⟩:=e.open;have x:Pl.tot o.keys<=10000000000:=by cases o;rw[Ob.wt] at hw;simp only[Ob.keys];omega
 have z:=Pl.gE o.keys;refine bB s λK B=>JG ?_;unfold Hq nz;refine eQ o h.keys.one h.kids.one (bT.memS s) λb2 L a=>?_;refine dJ a λC w2 a=>?_;refine join λJ D=>?_;have fin:∀(W:ao) (N:Mem) (p:Ob) (l cv:aq),bT M.A w W [obE C ob0 cI cI,obE b2 p l cv,.mem N]->M.le N->OV N.A N.w (obV p l cv) p->p=fw o key->p.wt<=10000000000->J [] W:=by
  intro W N p l cv a hle hp he E;refine D _ _ λ_=>?_;unfold Dz nz;rw[jL a 1 rfl];refine bH a 2 rfl (wJ p _ N W om (a.hasM 2 rfl) hp) λy F i j f a=>?_;obtain⟨t,u,m,rfl,b⟩:=f.open;refine aT 0 b.keys.one b.kids.one a rfl λG a=>?_;exact eN (bJ (a.agg 0 rfl fR)) (B _ _ F _ 2 a rfl (hle.trans j) (he▸f))
 rw[jL a 1 rfl];refine aK a (R:=λv=>v=.bool (Vl.keyed o)) (KL o h.keys.one h.kids.one w2) ?_;rintro _ w3 rfl a;cases c:Vl.keyed o with
|false=>
  simp only[rs,oG];exact fin w3 M o vk vc a M.le_refl e (by unfold fw;rw[auB (by simp[c])]) hw
|true=>
  simp only[rs];rw[jL a 1 rfl];refine aK a (R:=λv=>v=ad (Vl.check 1 o)) (lB o _ w3 (OV.inw (a.hasM 2 rfl) e) om) ?_;rintro _ i rfl a;simp only[rs];by_cases g:Vl.check 1 o=0
  ·simp only[g,auE,rs];obtain⟨H,hlen⟩:=Vl.fM g c;rw[iZ,dZ a 1 rfl];refine BJ (K6 vk o.keys key i (h.keys.now (a.hasM 2 rfl)) H om) ?_;simp only[ex];have d:=Vl.U1 g c key;have k:fw o key=Vl.aR o key:=by unfold fw;rw[auC ⟨c,g⟩]
   cases n:Vl.hit o.keys key with
  |true=>
    simp only[i_t];rw[n,auC rfl] at d;have hi:o.keys[Vl.place o.keys key]?=ay key:=auW n;have q:Vl.place o.keys key < o.keys.length:=(auV.1 hi).1;rw[jL a 1 rfl];refine bH a 2 rfl (OS o _ _ M i hw (a.hasM 2 rfl) e q hlen) λy N G hle f a=>?_;rw[<-d] at f;obtain⟨t,u,m,rfl,b⟩:=f.open;refine aT 1 b.keys.one b.kids.one a rfl λI a=>?_;exact fin I N _ t u a hle f k.symm (axO (Vl.kX o key) hw)
  |false=>
    simp only[i_f];rw[n] at d;exact fin i M o vk vc a M.le_refl e (by rw[k,d];rfl) hw
  ·simp only[g,auF,rs];exact fin i M o vk vc a M.le_refl e (by unfold fw;rw[auB (by simp[g])]) hw
theorem NJ (o x:Ob)(v u:aq)(key:List UInt8)(M:Mem)(w:ao)(hw:o.wt<=10000000000)(E:x.wt<=10000000000)(F:key.length<=10000000000)(s:M.has w)(i:OV M.A M.w v o)(hu:OV M.A M.w u x) :
  jR ah 84 #[v,ae key,u] M w (λr N=>∃v',r=A4 v' (Vl.set o key x).2∧OV N.A N.w v' (Vl.set o key x).1):=by
 obtain⟨vk,vc,cs,rfl,j⟩:=i.open;obtain⟨X,Y,G,rfl,B⟩:=hu.open;refine bB s λK l=>LX ?_;unfold KS nz;refine eQ o j.keys.one j.kids.one (bT.memS s) λb3 Z a=>?_;refine eQ x B.keys.one B.kids.one a λb5 w2 a=>?_;refine dJ a λb6 w3 a=>?_;rw[jL a 2 rfl];refine aK a (R:=λv=>v=.bool (Vl.keyed o)) (KL o j.keys.one j.kids.one w3) ?_;rintro _ H rfl a;cases b:Vl.keyed o with
|false=>
  simp only[rs,avZ];rw[EU];refine aT 0 rfl rfl a rfl λp a=>?_;refine dL 0 a rfl (l _ _ M _ 3 a rfl M.le_refl ⟨obV Vl.ob0 cI cI,?_,?_⟩)
  ·simp[Vl.set,b,A4]
  ·simpa[Vl.set,b] using nW M
|true=>
  simp only[rs,awA];rw[jL a 2 rfl];refine aK a (R:=λv=>v=ad (Vl.check 1 o)) (lB o _ H (OV.inw (a.hasM 3 rfl) i) om) ?_;rintro _ p rfl a;simp only[eC];by_cases c:Vl.check 1 o=0
  ·simp only[c,ne_eq,not_true,auF,i_f];rw[eG,vE a 1 rfl];simp only[rs];by_cases m:x.k=0
   ·simp only[m,auE,i_t];rw[jL a 2 rfl];refine bH a 3 rfl (ES o _ key M p hw (a.hasM 3 rfl) i) λy N q hle n a=>?_;obtain⟨I,J,L,rfl,d⟩:=n.open;refine aT 0 d.keys.one d.kids.one a rfl λC a=>?_;have e:Vl.set o key x=(fw o key,0):=by simp[Vl.set,b,c,m,fw]
    refine dL 0 a rfl (l _ _ N _ 3 a rfl hle ⟨obV (fw o key) I J,?_,?_⟩)
    ·rw[e];rfl
    ·rw[e];exact n
   ·simp only[m,auF,i_f];rw[jL a 2 rfl,jL a 1 rfl];obtain⟨O,hlen⟩:=Vl.fM c b;have P:=Vl.Ql o key x;refine bH a 3 rfl (Ts o x _ _ key M p hw (a.hasM 3 rfl) i hu O hlen) λy N q hle n a=>?_;refine bH a 3 rfl (wJ _ _ N q om (a.hasM 3 rfl) n) λz Q C f S a=>?_;refine bH a 3 rfl (KQ _ _ Q C om (a.hasM 3 rfl) S) ?_;rintro _ T w8 g ⟨t,rfl,D⟩ a;obtain⟨U,V,W,rfl,h⟩:=D.open;simp only[A4,ex];refine aT 0 h.keys.one h.kids.one a rfl λw9 a=>?_;have e:Vl.set o key x=Vl.right (Vl.put o key x):=by simp[Vl.set,b,c,m]
    refine dL 0 a rfl (l _ _ T _ 3 a rfl (hle.trans (f.trans g)) ⟨obV (Vl.right (Vl.put o key x)).1 U V,?_,?_⟩)
    ·rw[e];rfl
    ·rw[e];exact D
  ·simp only[c,ne_eq,awJ,auE,i_t];rw[EU];refine aT 0 rfl rfl a rfl λq a=>?_;refine dL 0 a rfl (l _ _ M _ 3 a rfl M.le_refl ⟨obV Vl.ob0 cI cI,?_,?_⟩)
   ·simp[Vl.set,b,c,A4]
   ·simpa[Vl.set,b,c] using nW M
theorem arR:elB ah 9 1 16=true:=krx
theorem elOb:elB ah 25 6 88=true:=krx
theorem akY:(Tryz.prog.info? 9).map (·.size)=ay 1:=krx
section
variable {w:ao}{S:Nat->Prop}{w0:ao}{L:List Ent}{PK:PKT}{K:VWP}
theorem aiH (a:bT S w0 w L)(k:∀v w',bT S w0 w' (.urow 9 1 v 0 []::L)->K v w'):DoX ah (aM 22 0 #[]) w PK K:=
 bK (λb=>bO b 0 0 0) [] 9 (λ_=>by kernel_rfl) a λb c a=>k _ _ (a.toU 1 0 0 sm om om)
theorem akQ (a:bT S w0 w L)(k:∀v w',bT S w0 w' (.urow 25 6 v 0 []::L)->K v w'):DoX ah (aM 23 0 #[]) w PK K:=
 bK (λb=>bO b 0 0 0) [] 25 (λ_=>by kernel_rfl) a λb c a=>k _ _ (a.toU 6 0 0 sm om om)
theorem U8 (i:Nat){n:Nat}(a:bT S w0 w L)(hi:L[i]?=ay (.urow 9 1 v n xs))(b:Sl w v2 1 m news)(c:∀u∈news,u.oneCell'=aw)(d:n+m<=1000000000000)
  (k:∀v' w',bT S w0 w' (L.set i (.urow 9 1 v' (n+m) (xs++news)))->K v' w'):DoX ah (mB .append #[22,22] 22 cb #[v,v2]) w PK K:=
 bZ i auR arR dc a hi b c om om k
theorem G5 (i:Nat){n:Nat}(a:bT S w0 w L)(hi:L[i]?=ay (.urow 25 6 v n xs))(b:Sl w v2 6 m news)(c:∀u∈news,u.oneCell'=aw)(d:n+m<=1000000000000)
  (k:∀v' w',bT S w0 w' (L.set i (.urow 25 6 v' (n+m) (xs++news)))->K v' w'):DoX ah (mB .append #[23,23] 23 cb #[v,v2]) w PK K:=
 bZ i auU elOb dc a hi b c om om k
end
theorem T6 {l:List aq}(h:∀u∈l,u.oneCell'=aw):∀u∈l.drop i,u.oneCell'=true:=λu hu=>h u (ayG hu)
theorem Un {l:List aq}(h:∀u∈l,u.oneCell'=aw):∀u∈l.take i,u.oneCell'=true:=λu hu=>h u (awN hu)
theorem Ud (o x:Ob)(v u:aq)(key:List UInt8)(M:Mem)(w:ao)(hw:o.wt<=10000000000)(X:M.has w)(Y:OV M.A M.w v o)(hu:OV M.A M.w u x)(hlen:o.keys.length=o.kids.length) :
  jR ah 100 #[v,ae key,u] M w (λr N=>OV N.A N.w r (Vl.put o key x)):=by
 obtain⟨vk,vc,cs,rfl,d⟩:=Y.open;obtain⟨b,c,Z,rfl,t⟩:=hu.open;have a1:Ob.wts o.kids<=10000000000:=by cases o;rw[Ob.wt] at hw;simp only[Ob.kids];omega
 have a6:Pl.tot o.keys<=10000000000:=by cases o;rw[Ob.wt] at hw;simp only[Ob.keys];omega
 have a7:=Pl.gE o.keys;have a8:=Ob.rN o.kids;have m:=Vl.xX o.keys key;obtain⟨B,C,rfl,H⟩:=d.keys.form;obtain⟨ac,p,rfl,I⟩:=d.kids.form;refine bB X λK hK=>AW ?_;unfold uG nz;refine eQ o d.keys.one d.kids.one (bT.memS X) λb3 w1 a=>?_;refine eQ x t.keys.one t.kids.one a λi w2 a=>?_;refine dJ a λl w3 a=>?_;rw[iZ,dZ a 2 rfl];refine aK a (R:=λv=>v=.tuple #[ad (Vl.place o.keys key:Nat),.bool (Vl.hit o.keys key)]) (UH _ o.keys key w3 (d.keys.now (a.hasM 3 rfl)) om) ?_;rintro _ w4 rfl a;simp only[ex];refine aiH a λv1 w5 a=>?_;rw[iZ,dZ a 3 rfl];refine aD (jJ auR akY om om) |>.mpr ?_;rw[auJ];refine U8 0 a rfl (Sl.upto (d.keys.now (a.hasM 4 rfl)) m) (Un nM) om λv2 w6 a=>?_;rw[GH,avU,auP] at a;have a:bT M.A w w6 [.urow 9 1 v2 (Vl.place o.keys key) (bI (o.keys.take (Vl.place o.keys key))),obE l ob0 cI cI,obE i x b c,obE b3 o (.slice B o.keys.length C) (.slice ac o.kids.length p),.mem M]:=a;refine akQ a λv3 w7 a=>?_;rw[iR,cQ a 4 rfl];refine aD (jJ auU Mk om om) |>.mpr ?_;rw[auJ];refine G5 0 a rfl (Sl.upto (d.kids.now (a.hasM 5 rfl)) om) (Un (Ee d.all)) om λv4 w8 a=>?_;rw[avU,auP] at a;have a:bT M.A w w8 [.urow 25 6 v4 (Vl.place o.keys key) (cs.take (Vl.place o.keys key*6)),.urow 9 1 v2 (Vl.place o.keys key) (bI (o.keys.take (Vl.place o.keys key))),obE l ob0 cI cI,obE i x b c,obE b3 o (.slice B o.keys.length C) (.slice ac o.kids.length p),.mem M]:=a;refine D6 key a λnb w9 a=>?_;refine U8 2 a rfl (a.sl 0 rfl 1 1 1 rfl) (by simp[Value.oneCell']) om λv5 O a=>?_;have a:=a.tail;have a:bT M.A w O [.urow 25 6 v4 (Vl.place o.keys key) (cs.take (Vl.place o.keys key*6)),.urow 9 1 v5 (Vl.place o.keys key+1) (bI (o.keys.take (Vl.place o.keys key))++[ae key]),obE l ob0 cI cI,obE i x b c,obE b3 o (.slice B o.keys.length C) (.slice ac o.kids.length p),.mem M]:=a;rw[jL a 3 rfl];refine Bm x t.keys.one t.kids.one a λb0 b1 a=>?_;refine G5 1 a rfl (a.sl 0 rfl 6 1 1 rfl) (iF _ t.keys.one t.kids.one) om λv6 D a=>?_;have a:=a.tail;have a:bT M.A w D [.urow 25 6 v6 (Vl.place o.keys key+1) (cs.take (Vl.place o.keys key*6)++obC x b c),.urow 9 1 v5 (Vl.place o.keys key+1) (bI (o.keys.take (Vl.place o.keys key))++[ae key]),obE l ob0 cI cI,obE i x b c,obE b3 o (.slice B o.keys.length C) (.slice ac o.kids.length p),.mem M]:=a;refine join λJ hJ=>?_;have fin:∀j:Nat,j=Vl.place o.keys key+(if Vl.hit o.keys key then 1 else 0)->j<=o.keys.length->J [ad (j:Int)] D:=by
  intro j hj P;refine hJ _ _ λ_=>?_;simp only[qP,gd,nz];rw[iZ,dZ a 4 rfl];refine aD (dN auR akY om om) |>.mpr ?_;rw[auJ];refine U8 1 a rfl (Sl.from (d.keys.now (a.hasM 5 rfl)) P H) (T6 nM) om λf Q a=>?_;rw[Hl] at a;have a:bT M.A w Q [.urow 25 6 v6 (Vl.place o.keys key+1) (cs.take (Vl.place o.keys key*6)++obC x b c),.urow 9 1 f (Vl.place o.keys key+1+(o.keys.length - j)) (bI (o.keys.take (Vl.place o.keys key))++[ae key]++bI (o.keys.drop j)),obE l ob0 cI cI,obE i x b c,obE b3 o (.slice B o.keys.length C) (.slice ac o.kids.length p),.mem M]:=a;have E:=bX (a.at_ 1 rfl);rw[iZ];refine aO 4 a rfl krx E (show 0+4 < 6 by omega) λS a=>?_;have a:bT M.A w S [.urow 25 6 v6 (Vl.place o.keys key+1) (cs.take (Vl.place o.keys key*6)++obC x b c),.urow 9 1 f (Vl.place o.keys key+1+(o.keys.length - j)) (bI (o.keys.take (Vl.place o.keys key))++[ae key]++bI (o.keys.drop j)),obE l ob0 cI cI,obE i x b c,obE b3 o f (.slice ac o.kids.length p),.mem M]:=a;rw[iR,cQ a 4 rfl];refine aD (dN auU Mk om om) |>.mpr ?_;rw[auJ];refine G5 0 a rfl (Sl.from (d.kids.now (a.hasM 5 rfl)) om I) (T6 (Ee d.all)) om λy T a=>?_;have a:bT M.A w T [.urow 25 6 y (Vl.place o.keys key+1+(o.kids.length - j)) (cs.take (Vl.place o.keys key*6)++obC x b c++cs.drop (j*6)),.urow 9 1 f (Vl.place o.keys key+1+(o.keys.length - j)) (bI (o.keys.take (Vl.place o.keys key))++[ae key]++bI (o.keys.drop j)),obE l ob0 cI cI,obE i x b c,obE b3 o f (.slice ac o.kids.length p),.mem M]:=a;have F:=bX (a.at_ 0 rfl);rw[iR];refine aO 4 a rfl krx F (show 0+5 < 6 by omega) λU a=>?_;obtain⟨N,hle,G,a⟩:=bT.bG (L:=[.urow 9 1 f (Vl.place o.keys key+1+(o.keys.length - j)) (bI (o.keys.take (Vl.place o.keys key))++[ae key]++bI (o.keys.drop j)),obE l ob0 cI cI,obE i x b c,obE b3 o f y,.mem M]) a 4 rfl;obtain⟨z,h,q,a⟩:=bT.bG (L:=[obE l ob0 cI cI,obE i x b c,obE b3 o f y,.mem N]) a 3 rfl;have a:bT M.A w U [obE l ob0 cI cI,obE i x b c,obE b3 o f y,.mem z]:=a;rw[jL a 2 rfl];refine aT 0 E F a rfl λb2 a=>?_;refine eN (bJ (a.agg 0 rfl fR)) (hK _ _ z _ 3 a rfl (hle.trans h) ?_);have e:Vl.put o key x=.mk o.k o.n o.g o.s (o.keys.take (Vl.place o.keys key)++key::o.keys.drop j) (o.kids.take (Vl.place o.keys key)++x::o.kids.drop j):=by rw[hj];rfl
  rw[e];have el:(o.kids.take (Vl.place o.keys key)++x::o.kids.drop j).length=Vl.place o.keys key+1+(o.kids.length - j):=by simp;omega
  have V:(o.keys.take (Vl.place o.keys key)++key::o.keys.drop j).length=Vl.place o.keys key+1+(o.keys.length - j):=by simp;omega
  have es:bI (o.keys.take (Vl.place o.keys key)++key::o.keys.drop j)=bI (o.keys.take (Vl.place o.keys key))++[ae key]++bI (o.keys.drop j):=by
   rw[wL];simp[bI,strV]
  refine tE.ov (o:=.mk o.k o.n o.g o.s (o.keys.take (Vl.place o.keys key)++key::o.keys.drop j) (o.kids.take (Vl.place o.keys key)++x::o.kids.drop j)) (vk:=f) (vc:=y) (cs:=cs.take (Vl.place o.keys key*6)++obC x b c++cs.drop (j*6)) ⟨?_,?_,?_⟩
  ·show SlA z.A z.w f 1 (o.keys.take (Vl.place o.keys key)++key::o.keys.drop j).length (bI (o.keys.take (Vl.place o.keys key)++key::o.keys.drop j));rw[V,es];exact q
  ·show SlA z.A z.w y 6 (o.kids.take (Vl.place o.keys key)++x::o.kids.drop j).length _;rw[el];exact G.le h
  ·have:=dM (Fb (Vl.place o.keys key) d.all) (dM (kI hu) (Gn j d.all));rw[<-auN] at this;exact this.le (hle.trans h)
 cases W:Vl.hit o.keys key with
|true=>
  have hi:o.keys[Vl.place o.keys key]?=ay key:=auW W;have b4:Vl.place o.keys key < o.keys.length:=(auV.1 hi).1;simp only[rs];rw[aA om om,show (Vl.place o.keys key:Int)+1=((Vl.place o.keys key+1:Nat):Int) by omega];exact fin _ (by rw[W];rfl) om
|false=>
  simp only[i_f];exact fin _ (by rw[W];rfl) m
theorem Mz (key:List UInt8):∀(ks:List (List UInt8)) (cs:List Ob) (i:Nat) (a:i < ks.length) (b:i < cs.length),
  Vl.bY key (ks.take (i+1)) (cs.take (i+1))=if ks[i]=key then Vl.bY key (ks.take i) (cs.take i) else ((Vl.bY key (ks.take i) (cs.take i)).1++[ks[i]],(Vl.bY key (ks.take i) (cs.take i)).2++[cs[i]])
|k::ks,c::cs,0,_,_=>by
  simp only[azA,axY,Vl.bY,aAG,avU]
|k::ks,c::cs,i+1,a,b=>by
  simp only[azA,Vl.bY,aAI];have e:=Mz key ks cs i (by simpa using a) (by simpa using b);rw[e];by_cases d:k=key
  ·simp only[d,if_true]
  ·simp only[d,if_false];split<;>simp
|[],_,_,a,_=>by simp at a
|_::_,[],_,_,b=>by simp at b
theorem PV (key:List UInt8):∀(ks:List (List UInt8)) (cs:List Ob),(Vl.bY key ks cs).1.length=(Vl.bY key ks cs).2.length∧(Vl.bY key ks cs).1.length<=ks.length
|[],cs=>by simp[Vl.bY]
|k::ks,[]=>by simp[Vl.bY]
|k::ks,c::cs=>by
  have a:=PV key ks cs;rw[Vl.bY];split
  ·simp;omega
  ·simp;omega
theorem H8 (o:Ob)(v:aq)(key:List UInt8)(M:Mem)(w:ao)(hw:o.wt<=10000000000)(y:M.has w)(G:OV M.A M.w v o)(hlen:o.keys.length=o.kids.length) :
  jR ah 98 #[v,ae key] M w (λr N=>OV N.A N.w r (Vl.aR o key)):=by
 obtain⟨vk,vc,cs,rfl,h⟩:=G.open;have H:Ob.wts o.kids<=10000000000:=by cases o;rw[Ob.wt] at hw;simp only[Ob.kids];omega
 have I:Pl.tot o.keys<=10000000000:=by cases o;rw[Ob.wt] at hw;simp only[Ob.keys];omega
 have O:=Pl.gE o.keys;have P:=Ob.rN o.kids;refine bB y λK Q=>vN ?_;unfold mX nz;refine eQ o h.keys.one h.kids.one (bT.memS y) λb2 w1 a=>?_;refine dJ a λj w2 a=>?_;rw[iZ,dZ a 1 rfl,aZ auR (h.keys.now (a.hasM 2 rfl))];refine loop (λvs W=>∃(i:Nat) (c cv:aq) (ds:List aq),vs=[c,cv,ad i]∧i<=o.keys.length∧OVs M.A M.w ds (Vl.bY key (o.keys.take i) (o.kids.take i)).2 ∧
   bT M.A w W [.urow 25 6 cv (Vl.bY key (o.keys.take i) (o.kids.take i)).2.length ds,.urow 9 1 c (Vl.bY key (o.keys.take i) (o.kids.take i)).1.length (bI (Vl.bY key (o.keys.take i) (o.kids.take i)).1),obE j ob0 cI cI,obE b2 o vk vc,.mem M])
  (λvs _=>o.keys.length - n2 vs) ⟨0,cI,cI,[],rfl,om,OVs.nil,(a.nilU 9 1).nilU 25 6⟩ ?_
 clear a;rintro vs w3 ⟨i,c,cv,ds,rfl,hi,d,a⟩ _;have R:=PV key (o.keys.take i) (o.kids.take i);have S:(o.keys.take i).length<=o.keys.length:=by rw[auM];omega
 simp only[lA,gd,rs,nz];by_cases k:(i:Int) < (o.keys.length:Int)
 ·have z:i < o.keys.length:=om
  have B:i < o.kids.length:=om
  simp only[k,auE,i_t];have b:=Mz key o.keys o.kids i z B;refine join λJ T=>?_;have fin:∀(W:ao) (c cv:aq) (ds:List aq),OVs M.A M.w ds (Vl.bY key (o.keys.take (i+1)) (o.kids.take (i+1))).2 ->
    bT M.A w W [.urow 25 6 cv (Vl.bY key (o.keys.take (i+1)) (o.kids.take (i+1))).2.length ds,.urow 9 1 c (Vl.bY key (o.keys.take (i+1)) (o.kids.take (i+1))).1.length (bI (Vl.bY key (o.keys.take (i+1)) (o.kids.take (i+1))).1),obE j ob0 cI cI,obE b2 o vk vc,.mem M]->J [c,cv] W:=by
   intro W c cv ds d a;refine T _ _ λ_=>?_;simp only[lH,gd,rs,nz];rw[aA om om];exact bC ⟨i+1,c,cv,ds,rfl,om,d,a⟩ (by simp[n2,RowKit.intOf];omega)
  rw[iZ,dZ a 3 rfl];obtain⟨q,s⟩:=acU h z;obtain⟨C,D⟩:=s w3 (a.hasM 4 rfl);refine aD C |>.mpr (aD D |>.mpr ?_);simp only[rs];by_cases he:o.keys[i]=key
  ·simp only[he,ne_eq,not_true,auF,rs,oG];rw[auC he] at b;exact fin w3 c cv ds (by rw[b];exact d) (by rw[b];exact a)
  ·have t:(i:Int) < (o.kids.length:Int):=om
   simp only[he,ne_eq,awJ,auE,rs,iR,cQ a 3 rfl];rw[aZ auU (h.kids.now (a.hasM 4 rfl))];simp only[rs,t,auE];rw[auB he] at b;rw[iZ,dZ a 3 rfl];refine aD C |>.mpr (aD D |>.mpr ?_);refine D6 o.keys[i] a λnb U a=>?_;refine U8 2 a rfl (a.sl 0 rfl 1 1 1 rfl) (by simp[Value.oneCell']) om λkv' p a=>?_;have a:=a.tail;have a:bT M.A w p [.urow 25 6 cv (Vl.bY key (o.keys.take i) (o.kids.take i)).2.length ds,.urow 9 1 kv' ((Vl.bY key (o.keys.take i) (o.kids.take i)).1.length+1) (bI (Vl.bY key (o.keys.take i) (o.kids.take i)).1++[.string ⟨o.keys[i].toArray⟩]),obE j ob0 cI cI,obE b2 o vk vc,.mem M]:=a;rw[cQ a 3 rfl];obtain⟨x,q2,E,u⟩:=HU h B;obtain⟨V,X⟩:=u p (a.hasM 4 rfl);refine aD V |>.mpr (aD X |>.mpr ?_);obtain⟨Y,Z,a1,rfl,f⟩:=E.open;refine Bm o.kids[i] f.keys.one f.kids.one a λa6 w6 a=>?_;refine G5 1 a rfl (a.sl 0 rfl 6 1 1 rfl) (iF _ f.keys.one f.kids.one) om λcv' w7 a=>?_;have a:=a.tail;refine fin w7 kv' cv' (ds++obC o.kids[i] Y Z) ?_ ?_
   ·rw[b];exact dM d (kI E)
   ·have es:bI ((Vl.bY key (o.keys.take i) (o.kids.take i)).1++[o.keys[i]])=bI (Vl.bY key (o.keys.take i) (o.kids.take i)).1++[.string ⟨o.keys[i].toArray⟩]:=by
     rw[wL];simp[bI,strV]
    rw[b];simp only[es,auH,auX,ayA,auP];exact a
 ·simp only[k,auF,i_f];have l:=bX (a.at_ 1 rfl);have m:=bX (a.at_ 0 rfl);rw[avE (show o.keys.length<=i by omega),avE (show o.kids.length<=i by omega)] at a d;rw[iZ];refine aO 3 a rfl krx l (show 0+4 < 6 by omega) λU a=>?_;rw[iR];refine aO 3 a rfl krx m (show 0+5 < 6 by omega) λp a=>?_;obtain⟨N,hle,n,a⟩:=bT.bG (L:=[.urow 9 1 c (Vl.bY key o.keys o.kids).1.length (bI (Vl.bY key o.keys o.kids).1),obE j ob0 cI cI,obE b2 o c cv,.mem M]) a 3 rfl;obtain⟨F,e,g,a⟩:=bT.bG (L:=[obE j ob0 cI cI,obE b2 o c cv,.mem N]) a 2 rfl;have a:bT M.A w p [obE j ob0 cI cI,obE b2 o c cv,.mem F]:=a;rw[jL a 1 rfl];refine aT 0 l m a rfl λw6 a=>?_;refine eN (bJ (a.agg 0 rfl fR)) (Q _ _ F _ 2 a rfl (hle.trans e) ?_);exact tE.ov (o:=Vl.aR o key) (vk:=c) (vc:=cv) (cs:=ds) ⟨g,n.le e,d.le (hle.trans e)⟩
theorem NY (o x:Ob)(v u:aq)(key:List UInt8)(M:Mem)(w:ao)(hw:o.wt<=10000000000)(Q:x.wt<=10000000000)(S:key.length<=10000000000)(L:M.has w)(j:OV M.A M.w v o)(hu:OV M.A M.w u x) :
  jR ah 56 #[v,ae key,u] M w (λr N=>∃v',r=A4 v' (Vl.set o key x).2∧OV N.A N.w v' (Vl.set o key x).1):=by
 obtain⟨vk,vc,cs,rfl,O⟩:=j.open;obtain⟨Y,Z,T,rfl,P⟩:=hu.open;refine bB L λK l=>BI ?_;unfold uH nz;refine eQ o O.keys.one O.kids.one (bT.memS L) λb3 w1 a=>?_;refine eQ x P.keys.one P.kids.one a λb5 w2 a=>?_;refine dJ a λb6 w3 a=>?_;rw[eG,vE a 2 rfl];have m:(o.k=7)∨(o.k≠7∧o.k=9)∨(o.k≠7∧o.k≠9):=om
 rcases m with n|⟨n,s⟩|⟨n,s⟩
 rotate_left 2
 ·have b:Vl.keyed o=false:=by simp[Vl.keyed,n,s]
  simp only[rs,n,s,ne_eq,awJ,auE,eG,vE a 2 rfl];rw[EU];refine aT 0 rfl rfl a rfl λq a=>?_;refine dL 0 a rfl (l _ _ M _ 3 a rfl M.le_refl ⟨obV Vl.ob0 cI cI,?_,?_⟩)
  ·simp[Vl.set,b,A4]
  ·simpa[Vl.set,b] using nW M
 ·have b:Vl.keyed o=true:=by simp[Vl.keyed,n]
  simp only[rs,n,ne_eq,not_true,auF,oG]
  revert b
  clear n;intro b;rw[jL a 2 rfl];refine aK a (R:=λv=>v=ad (Vl.check 1 o)) (lE o _ w3 (OV.inw (a.hasM 3 rfl) j) om) ?_;rintro _ q rfl a;simp only[eC];by_cases c:Vl.check 1 o=0
  ·simp only[c,ne_eq,not_true,auF,i_f];simp only[eG,vE a 1 rfl,rs];obtain⟨U,hlen⟩:=Vl.fM c b;by_cases h:x.k=0
   ·simp only[h,auE,i_t];rw[jL a 2 rfl];refine bH a 3 rfl (H8 o _ key M q hw (a.hasM 3 rfl) j hlen) λy N p hle i a=>?_;obtain⟨B,C,D,rfl,d⟩:=i.open;refine aT 0 d.keys.one d.kids.one a rfl λV a=>?_;have e:Vl.set o key x=(Vl.aR o key,0):=by simp[Vl.set,b,c,h]
    refine dL 0 a rfl (l _ _ N _ 3 a rfl hle ⟨obV (Vl.aR o key) B C,?_,?_⟩)
    ·rw[e];rfl
    ·rw[e];exact i
   ·simp only[h,auF,i_f];rw[jL a 2 rfl,jL a 1 rfl];have E:=Vl.Ql o key x;refine bH a 3 rfl (Ud o x _ _ key M q hw (a.hasM 3 rfl) j hu hlen) λy N p hle i a=>?_;refine bH a 3 rfl (MV _ _ N p om (a.hasM 3 rfl) i) ?_;rintro _ F W f ⟨t,rfl,z⟩ a;obtain⟨G,H,I,rfl,g⟩:=z.open;simp only[A4,ex];refine aT 0 g.keys.one g.kids.one a rfl λX a=>?_;have e:Vl.set o key x=Vl.right (Vl.put o key x):=by simp[Vl.set,b,c,h]
    refine dL 0 a rfl (l _ _ F _ 3 a rfl (hle.trans f) ⟨obV (Vl.right (Vl.put o key x)).1 G H,?_,?_⟩)
    ·rw[e];rfl
    ·rw[e];exact z
  ·simp only[c,ne_eq,awJ,auE,i_t];rw[EU];refine aT 0 rfl rfl a rfl λp a=>?_;refine dL 0 a rfl (l _ _ M _ 3 a rfl M.le_refl ⟨obV Vl.ob0 cI cI,?_,?_⟩)
   ·simp[Vl.set,b,c,A4]
   ·simpa[Vl.set,b,c] using nW M
 ·have b:Vl.keyed o=true:=by simp[Vl.keyed,s]
  have J:¬((9:Int)=7):=om
  simp only[rs,s,J,ne_eq,not_true,awJ,auE,auF,eG,vE a 2 rfl,oG];rw[jL a 2 rfl];refine aK a (R:=λv=>v=ad (Vl.check 1 o)) (lE o _ w3 (OV.inw (a.hasM 3 rfl) j) om) ?_;rintro _ q rfl a;simp only[eC];by_cases c:Vl.check 1 o=0
  ·simp only[c,ne_eq,not_true,auF,i_f];simp only[eG,vE a 1 rfl,rs];obtain⟨U,hlen⟩:=Vl.fM c b;by_cases h:x.k=0
   ·simp only[h,auE,i_t];rw[jL a 2 rfl];refine bH a 3 rfl (H8 o _ key M q hw (a.hasM 3 rfl) j hlen) λy N p hle i a=>?_;obtain⟨B,C,D,rfl,d⟩:=i.open;refine aT 0 d.keys.one d.kids.one a rfl λV a=>?_;have e:Vl.set o key x=(Vl.aR o key,0):=by simp[Vl.set,b,c,h]
    refine dL 0 a rfl (l _ _ N _ 3 a rfl hle ⟨obV (Vl.aR o key) B C,?_,?_⟩)
    ·rw[e];rfl
    ·rw[e];exact i
   ·simp only[h,auF,i_f];rw[jL a 2 rfl,jL a 1 rfl];have E:=Vl.Ql o key x;refine bH a 3 rfl (Ud o x _ _ key M q hw (a.hasM 3 rfl) j hu hlen) λy N p hle i a=>?_;refine bH a 3 rfl (MV _ _ N p om (a.hasM 3 rfl) i) ?_;rintro _ F W f ⟨t,rfl,z⟩ a;obtain⟨G,H,I,rfl,g⟩:=z.open;simp only[A4,ex];refine aT 0 g.keys.one g.kids.one a rfl λX a=>?_;have e:Vl.set o key x=Vl.right (Vl.put o key x):=by simp[Vl.set,b,c,h]
    refine dL 0 a rfl (l _ _ F _ 3 a rfl (hle.trans f) ⟨obV (Vl.right (Vl.put o key x)).1 G H,?_,?_⟩)
    ·rw[e];rfl
    ·rw[e];exact z
  ·simp only[c,ne_eq,awJ,auE,i_t];rw[EU];refine aT 0 rfl rfl a rfl λp a=>?_;refine dL 0 a rfl (l _ _ M _ 3 a rfl M.le_refl ⟨obV Vl.ob0 cI cI,?_,?_⟩)
   ·simp[Vl.set,b,c,A4]
   ·simpa[Vl.set,b,c] using nW M
end
section
namespace Eng
open Go.RowKit
def xN (k:List UInt8):Value:=ae k
def Vt (w:ao)(b:Nat)(a:List (List UInt8×aq)):Prop:=∃es clock,w.heap[b]?=ay (.map es clock)∧es.toList.map (λe=>(e.key,e.val))=a.map λp=>(xN p.1,p.2)
def Ent.map (b:Nat)(d:List (List UInt8×aq)):Ent:=⟨λk=>k=b,λw=>Vt w b d,λ{w w'} h k=>by
  obtain⟨es,clock,a,c⟩:=h;exact⟨es,clock,(k b rfl).trans a,c⟩,λh k e=>by
  obtain⟨es,clock,a,c⟩:=h;cases e;exact eH a⟩
def wD (a:List (List UInt8×aq))(k:List UInt8):Option Value:=(a.find? λp=>ai (p.1=k)).map (·.2)
theorem K5 (k:List UInt8):∀(es:List MapEntry) (b:List (List UInt8×aq)) (i:Nat),es.map (λe=>(e.key,e.val))=b.map (λp=>(xN p.1,p.2)) ->
  ∃r,Instr.findNow .string (xN k) es i=ay r∧r.map (·.2)=wD b k
|[],[],i,_=>⟨ax,rfl,rfl⟩
|e::es,p::b,i,h=>by
  simp only[avS,azO,ayJ] at h;obtain⟨⟨j,l⟩,m⟩:=h;have g:Instr.sameNow .string (xN k) e.key=ay (ai (k=p.1)):=by
   rw[j];show ay ((⟨k.toArray⟩:ByteArray)==⟨p.1.toArray⟩)=_
   congr 1
   show (k.toArray==p.1.toArray)=_;by_cases a:k=p.1<;>simp[a]
  by_cases a:k=p.1
  ·refine⟨ay (i,e.val),?_,?_⟩
   ·rw[Instr.findNow,g];simp[a]
   ·simp[wD,a,l]
  ·obtain⟨r,c,d⟩:=K5 k es b (i+1) m;refine⟨r,?_,?_⟩
   ·rw[Instr.findNow,g];simp[a,c]
   ·have f:¬p.1=k:=λe=>a e.symm;rw[d];simp[wD,f]
|[],_::_,_,h=>by simp at h
|_::_,[],_,h=>by simp at h
section
variable {S:Nat->Prop}{P:Program}{w w0:ao}{L:List Ent}{PK:PKT}{K:VWP}
theorem Tb {T:TypeId}(a:bT S w0 w L)(k:∀b w',bT S w0 w' (.map b []::L)->K (.map (ay b)) w'):DoX P (mMap T ax) w PK K:=by
 have c:(Instr.makeMap T ax).run P w=.ok (.map (ay w.heap.size)) (w.alloc (.map #[] 0)):=rfl;exact vZ (cJ c) (k _ _ (a.add (World.grownBy_alloc w _ ax) (.map w.heap.size []) ⟨#[],0,heap_alloc_new w _,rfl⟩ (λk d=>by cases d;exact auL _)))
theorem tT {k:TypeId}{e:Bool}(a:P.underlying k=ay .string)(x:List UInt8):(Instr.checkKey e 10000 k (xN x)).run P w=.ok () w:=by
 show (Instr.checkKey e (9999+1) k (xN x)).run P w=_;rw[Instr.checkKey];simp[run_underlying a,xN]
theorem Lg {k:TypeId}(b:P.underlying k=ay .string)(x:List UInt8){es:List MapEntry}{a:List (List UInt8×aq)}(h:es.map (λe=>(e.key,e.val))=a.map (λp=>(xN p.1,p.2))) :
  ∃r,(Instr.findKey k (xN x) es).run P w=.ok r w∧r.map (·.2)=wD a x:=by
 obtain⟨r,c,d⟩:=K5 x es a 0 h;refine⟨r,?_,d⟩;simp[Instr.findKey,run_underlying b,c]
theorem Ow {T k e:TypeId}{ok:Bool}{a:List (List UInt8×aq)}{z:aq}(g:P.underlying T=ay (.map k e))(c:P.underlying k=ay .string)(m:(P.info? e).bind (·.zero)=ay z)(h:Vt w b a)(x:List UInt8) :
  (XY T (.map (ay b)) (xN x) ok).run P w=.ok (.value (if ok then .tuple #[(wD a x).getD z,.bool (wD a x).isSome] else (wD a x).getD z)) w:=by
 obtain⟨es,clock,j,n⟩:=h;obtain⟨r,l,o⟩:=Lg (P:=P) (w:=w) c x n;have d:(zeroValue e).run P w=.ok z w:=by
  obtain⟨i,hi,f⟩:=azM.1 m;simp[zeroValue,typeInfo,hi,f]
 refine cJ ?_;rw[<-o];cases r with
|none=>simp[Instr.lookup,run_underlying g,getObj,Sem.run,j,tT c x,l,d]
|some p=>
  obtain⟨i,v⟩:=p;simp[Instr.lookup,run_underlying g,getObj,Sem.run,j,tT c x,l]
theorem Tz (i:Nat){T k e:TypeId}{c:List (List UInt8×aq)}(l:P.underlying T=ay (.map k e))(a:P.underlying k=ay .string)(f:bT S w0 w L)(hi:L[i]?=ay (.map b c))(x:List UInt8)(v:aq)(m:wD c x=ax)
  (n:∀w',bT S w0 w' (L.set i (.map b (c++[(x,v)])))->K undef w'):DoX P (Xa T (.map (ay b)) (xN x) v) w PK K:=by
 obtain⟨es,clock,g,h⟩:=(show Vt w b c from f.at_ i hi);obtain⟨r,o,j⟩:=Lg (P:=P) (w:=w) a x h;have d:r=none:=by
  cases r with
 |none=>rfl
 |some p=>rw[m] at j;cases j
 subst d;have q:(Instr.mapUpdate T (.map (ay b)) (xN x) v).run P w=.ok () { w with heap:=w.heap.setIfInBounds b (.map (es.push { key:=xN x,val:=v,born:=clock }) (clock+1)) }:=by
  simp[Instr.mapUpdate,run_underlying l,getObj,setObj,Sem.run,g,tT a x,o]
 refine D1 (Kr q) (n _ ?_);refine f.put i hi (w':={ w with heap:=w.heap.setIfInBounds b _ }) ⟨rfl,rfl,rfl,sm,λk _ a=>?_⟩ (.map b (c++[(x,v)])) ?_ (λk a=>.inl a)
 ·show (w.heap.setIfInBounds b _)[k]?=_;exact ayV (λe=>a (by simp[Ent.map,e]))
 ·refine⟨es.push { key:=xN x,val:=v,born:=clock },clock+1,?_,?_⟩
  ·show (w.heap.setIfInBounds b _)[b]?=_;exact aBi (eH g)
  ·simp[h]
end
theorem Nd {a:List (List UInt8×aq)}{k:List UInt8}:wD a k=ax↔k ∉ a.map (·.1):=by
 unfold wD;rw[Option.map_eq_none_iff,aBm];exact⟨λh hm=>by obtain⟨p,hp,rfl⟩:=avN.1 hm;simpa using h p hp,λh p hp b=>h (avN.2 ⟨p,hp,by simpa using b⟩)⟩
end Eng
end
section
open Eng Go.RowKit
theorem Oa (os:List Ob)(v:aq)(cs:List aq)(M:Mem)(w:ao)(hw:Ob.wts os<=10000000000)(g:M.has w)(h:SlA M.A M.w v 6 os.length cs)(d:OVs M.A M.w cs os) :
  jR ah 83 #[v] M w (λr N=>OV N.A N.w r (.mk 6 0 0 [] [] os)):=by
 obtain⟨a,cap,rfl,_⟩:=h.form;refine bB g λK j=>Iy ?_;unfold Gx nz;refine dJ (bT.memS g) λb f c=>?_;have k:∀{PK:PKT} {K:VWP},DoX ah (aV 25 #[(0,(ad 6)),(5,.slice a os.length cap)]) f PK K=K (obV (.mk 6 0 0 [] [] os) cI (.slice a os.length cap)) f:=aD krx;rw[k];refine bH c 1 rfl (wJ (.mk 6 0 0 [] [] os) _ M f (by rw[Ob.wt];simp[Pl.tot];omega) (c.hasM 1 rfl) (tE.ov (o:=.mk 6 0 0 [] [] os) (vk:=cI) (cs:=cs) ⟨SlA.nil _ _ _ _,h,d⟩)) λy N w2 hle i c=>?_;obtain⟨m,n,l,rfl,e⟩:=i.open;refine aT 0 e.keys.one e.kids.one c rfl λw3 c=>?_;exact eN (bJ (c.agg 0 rfl fR)) (j _ _ N _ 1 c rfl hle i)
theorem Sl.cellAt {off n:Nat}(h:Sl w (bO b off n cap) sz n cs):∀j u,cs[j]?=ay u->w.cell? ⟨b,off+j,ax⟩=ay u:=by
 obtain⟨_,a,c,e,_,d⟩:=h
 injection e with e1 _ _
 exactλj u f=>(d _ e1.symm).2 j u f
theorem afH :DoX ah (aV 25 #[(0,(ad 7))]) w PK K=K (obV (.mk 7 0 0 [] [] []) cI cI) w:=aD krx
theorem Xm (ps:List Ob)(v:aq)(cs:List aq)(M:Mem)(w:ao)(hw:Ob.wts ps<=1000000000)(hM:M.has w)(hs:SlA M.A M.w v 6 ps.length cs)(n:OVs M.A M.w cs ps) :
  jR ah 127 #[v] M w (λr N=>∃v',r=A4 v' (Vl.lI ps).2∧OV N.A N.w v' (Vl.lI ps).1):=by
 have a1:tE M.A M.w (.mk 0 0 0 [] [] ps) cI v cs:=⟨SlA.nil _ _ _ _,hs,n⟩;have e2:=Ob.rN ps;refine bB hM λK hK=>KI ?_;unfold HR nz;refine dJ (bT.memS hM) λb2 w1 b=>?_;rw[aZ auU (hs.now (b.hasM 1 rfl)),NA om];have hr:((ps.length:Int).tmod 2)=((ps.length % 2:Nat):Int):=by rw[aBn om];omega
 rw[hr];simp only[rs];have no:∀{W:ao} {N:Mem} {L:List Ent} (e:Int),bT M.A w W (obE b2 ob0 cI cI::.mem N::L)->M.le N->Vl.lI ps=(Vl.ob0,e)->DoX ah (aV 25 #[]) W (pk K) (λt W=>DoX ah (aN 25 (af b2 0) t) W (pk K) λ_ W=>Bw ah [.cell (af b2 0) 25,.val (ad e)] W K):=by
  intro W N L e b hle G;rw[EU];refine aT 0 rfl rfl b rfl λw4 b=>?_;refine dL 0 b rfl (hK _ _ N _ 1 b rfl hle ⟨obV Vl.ob0 cI cI,?_,?_⟩)
  ·rw[G];rfl
  ·rw[G];exact nW N
 by_cases a6:ps.length % 2=0
 case neg=>
  have h1:¬(((ps.length % 2:Nat):Int)=0):=om
  simp only[h1,ne_eq,awJ,auE,i_t];exact no 1 b M.le_refl (by unfold Vl.lI;rw[auC a6])
 have h1:(((ps.length % 2:Nat):Int)=0):=om
 simp only[h1,ne_eq,not_true,auF,i_f];have H:Vl.lI ps=if Vl.yK ps=au then (Vl.ob0,1) else Vl.QZ [] (.mk 7 0 0 [] [] []) ps:=by unfold Vl.lI;rw[auB om]
 refine loop (λvs W=>∃(i:Nat) (x:aq),vs=[x,ad i]∧i<=ps.length∧i % 2=0∧Vl.yK ps=Vl.yK (ps.drop i)∧bT M.A w W [obE b2 ob0 cI cI,.mem M]) (λvs _=>ps.length - n1 vs) ⟨0,_,rfl,om,rfl,sm,b⟩ ?_;clear b;rintro vs w2 ⟨i,x,rfl,hi,a7,B,b⟩ _;simp only[Dt,gd,nz];rw[aZ auU (hs.now (b.hasM 1 rfl))];simp only[rs];by_cases f:(i:Int) < (ps.length:Int)
 ·have g:i+1 < ps.length:=om
  have I:i < ps.length:=om
  simp only[f,auE,i_t];obtain⟨p,q,hp,c3⟩:=HU a1 I;have hp:OV M.A M.w p ps[i]:=hp;obtain⟨r1,_⟩:=c3 w2 (b.hasM 1 rfl);obtain⟨e3,pc,e4,rfl,e5⟩:=hp.open;obtain⟨bq,oq,cq,rfl,a8⟩:=bR (hs.now (b.hasM 1 rfl)) om;refine aD (cZ auU Mk om om) |>.mpr ?_;rw[auJ,eG];have O:w2.cell? ⟨bq,oq+i*6,ax⟩=ay (ad ps[i].k):=by
   obtain⟨a,P,S,C⟩:=OVs.get ps cs i I n;obtain⟨R,ac,c4,he,c5⟩:=S.open;have e:a=obC ps[i] R ac:=by
    have e:a.toArray=(obC ps[i] R ac).toArray:=by injection he
    simpa using congrArg Array.toList e
   have:=a8 (i*6+0) _ (C 0 (ad ps[i].k) (by rw[e];rfl))
   rwa [awF] at this
  rw[aJ aU O];simp only[rs];rw[Vl.OT g] at B;by_cases h5:ps[i].k=5
  ·simp only[h5,ne_eq,not_true,auF,i_f];rw[aA om om];refine bC ⟨i+2,x,sm,om,om,?_,b⟩ (by simp[n1,RowKit.intOf];omega);rw[B,h5];simp
  ·simp only[h5,ne_eq,awJ,auE,i_t];refine no 1 b M.le_refl ?_;rw[H,B,auC (by simp[h5])]
 ·have b0:i=ps.length:=om
  simp only[f,auF,i_f];have c6:Vl.yK ps=true:=by rw[B,awG om];rfl
  rw[c6] at H;simp only[Bool.true_eq_false,if_false] at H;rw[afH];refine dJ b λb5 w3 b=>?_;refine aT 0 rfl rfl b rfl λw4 b=>?_;refine Tb b λbm w5 b=>?_;clear B hi a7 f b0;refine loop (λvs W=>∃(i:Nat) (x:aq) (h:List (List UInt8×aq)) (o:Ob) (ok X:aq) (N:Mem),vs=[x,ad i]∧i<=ps.length∧i % 2=0∧Vl.lI ps=Vl.QZ (h.map (·.1)) o (ps.drop i)∧Vl.NT o.keys∧o.keys.length=o.kids.length ∧
    o.wt+Ob.wts (ps.drop i)<=6+Ob.wts ps∧(∀p∈h,p.2=.bool aw)∧M.le N∧OV N.A N.w (obV o ok X) o∧bT M.A w W [.map bm h,obE b5 o ok X,obE b2 ob0 cI cI,.mem N]) (λvs _=>ps.length - n1 vs)
   ⟨0,x,[],.mk 7 0 0 [] [] [],cI,cI,M,rfl,om,rfl,by simpa using H,List.Pairwise.nil,rfl,by simp[Ob.wt,Ob.wts,Pl.tot],sm,M.le_refl,tE.ov (o:=.mk 7 0 0 [] [] []) (cs:=[]) ⟨SlA.nil _ _ _ _,SlA.nil _ _ _ _,OVs.nil⟩,b⟩ ?_
  clear b;rintro vs w6 ⟨i,y,h,o,ok,X,N,rfl,hi,a7,G,c,hlen,c7,P,hle,Q,b⟩ _;have b1:=Q.open;obtain⟨D,E,e6,heq,e7⟩:=b1;have e1:D=ok∧E=X:=by
   have:(obC o ok X).toArray=(obC o D E).toArray:=by injection heq
   have:obC o ok X=obC o D E:=by simpa using congrArg Array.toList this
   simp only[obC,azO,true_and,and_true] at this;exact⟨this.1.symm,this.2.symm⟩
  obtain⟨rfl,rfl⟩:=e1;simp only[Dh,gd,nz];have T:=hs.le hle;have b3:=a1.le hle;rw[aZ auU (T.now (b.hasM 3 rfl))];simp only[rs];by_cases f:(i:Int) < (ps.length:Int)
  ·have g:i+1 < ps.length:=om
   have I:i < ps.length:=om
   simp only[f,auE,i_t];have b4:=Vl.Uq (met:=h.map (·.1)) (o:=o) g;have e8:=Vl.ZE g;refine join λJ hJ=>?_;obtain⟨bq,oq,cq,rfl,a8⟩:=bR (T.now (b.hasM 3 rfl)) om;have cellAt:∀{W:ao} (l:N.has W) (m:Nat) (hm:m < ps.length) (j:Nat) (u:aq),(∀R ac,(obC ps[m] R ac)[j]?=ay u)->W.cell? ⟨bq,oq+m*6+j,ax⟩=ay u:=by
    intro W l m hm j u hu;obtain⟨a,P,S,C⟩:=OVs.get ps cs m hm n;obtain⟨R,ac,c4,he,c5⟩:=S.open;have e:a=obC ps[m] R ac:=by
     have e:a.toArray=(obC ps[m] R ac).toArray:=by injection he
     simpa using congrArg Array.toList e
    have:=Sl.cellAt (T.now l) (m*6+j) _ (C j u (by rw[e];exact hu R ac))
    rwa [<-awU] at this
   have fin:∀(W:ao) (Y:Mem) (kv cv:aq),bT M.A w W [.map bm (h++[(ps[i].s,.bool aw)]),obE b5 (if ps[i+1].k≠0 then Vl.put o ps[i].s ps[i+1] else o) kv cv,obE b2 ob0 cI cI,.mem Y]->M.le Y ->
     OV Y.A Y.w (obV (if ps[i+1].k≠0 then Vl.put o ps[i].s ps[i+1] else o) kv cv) (if ps[i+1].k≠0 then Vl.put o ps[i].s ps[i+1] else o)->ps[i].s ∉ h.map (·.1)->J [y] W:=by
    intro W Y kv cv b b6 b7 hm;refine hJ _ _ λ_=>?_;simp only[DA,gd,rs,nz];rw[aA om om];have c8:=Vl.Ql o ps[i].s ps[i+1];have e9:ps[i].s.length+1<=ps[i].wt:=by rw[Vl.kN];omega
    have e0:=ps[i+1].KU;refine bC ⟨i+2,y,h++[(ps[i].s,.bool aw)],_,kv,cv,Y,sm,om,om,?_,?_,?_,?_,?_,b6,b7,b⟩ (by simp[n1,RowKit.intOf];omega)
    ·rw[G,b4,auB hm];simp
    ·split
     ·exact (Vl.NC c hlen).1
     ·exact c
    ·split
     ·exact (Vl.NC c hlen).2
     ·exact hlen
    ·split<;>omega
    ·intro p hp;rcases avF.1 hp with hp|hp
     ·exact P p hp
     ·simp only[avD] at hp;rw[hp]
   refine aD (cZ auU Mk om om) |>.mpr ?_;rw[auJ,El,aJ Gh (cellAt (b.hasM 3 rfl) i I 3 _ λ_ _=>rfl)];refine aD (Ow (z:=.bool au) underlying182 auQ krx (b.at_ 0 rfl) ps[i].s) |>.mpr ?_;by_cases d:ps[i].s∈h.map (·.1)
   ·have hl:wD h ps[i].s=ay (.bool aw):=by
     cases U:wD h ps[i].s with
    |none=>exact absurd d (Nd.1 U)
    |some u=>
      unfold wD at U;obtain⟨p,hp,rfl⟩:=awP.1 U;rw[P p (List.mem_of_find?_eq_some hp)]
    rw[hl];simp only[ayQ,if_false,ayD,i_t];have b:bT M.A w w6 (obE b2 ob0 cI cI::.mem N::[]):=b.tail.tail;exact no 9 b hle (by rw[G,b4,auC d])
   ·have hl:wD h ps[i].s=none:=Nd.2 d;rw[hl];simp only[ayQ,if_false,Option.getD_none,i_f];refine Tz 0 underlying182 auQ b rfl ps[i].s (.bool aw) hl λZ b=>?_;have b:bT M.A w Z [.map bm (h++[(ps[i].s,.bool aw)]),obE b5 o D E,obE b2 ob0 cI cI,.mem N]:=b;rw[aA om om,show (i:Int)+1=((i+1:Nat):Int) by omega];refine aD (cZ auU Mk om om) |>.mpr ?_;have O:=cellAt (b.hasM 3 rfl) (i+1) g 0 (ad ps[i+1].k) λ_ _=>rfl;rw[awF] at O;rw[auJ,eG,aJ aU O];simp only[rs];by_cases h0:ps[i+1].k=0
    ·simp only[h0,ne_eq,not_true,auF,i_f];refine fin Z N D E ?_ hle ?_ d
     ·rw[auB (by simp[h0])];exact b
     ·rw[auB (by simp[h0])];exact Q
    ·simp only[h0,ne_eq,awJ,auE,i_t];obtain⟨x2,q2,V,b8⟩:=HU b3 g;have V:OV N.A N.w x2 ps[i+1]:=V;have b9:∀W,Below Z.heap.size Z W->N.has W:=λW l=>Mem.Pb (b.hasM 3 rfl) l;refine quiet ?_;refine gA _ (λW l=>aY ((b.grow l).agg 1 rfl fR)) ?_;refine sW ?_;rw[aA om om,show (i:Int)+1=((i+1:Nat):Int) by omega];refine gA _ (λW l=>(b8 W (b9 W l)).1) ?_;refine gA _ (λW l=>(b8 W (b9 W l)).2) ?_;intro w8 l;have b:=b.grow l;have c8:=Vl.kN ps[i];refine bH b 3 rfl (Ts o ps[i+1] _ _ ps[i].s N w8 om (b.hasM 3 rfl) Q V c hlen) λz N2 w9 F hz b=>?_;obtain⟨zk,zc,h2,rfl,c0⟩:=hz.open;refine aT 1 c0.keys.one c0.kids.one b rfl λc9 b=>?_;refine fin c9 N2 zk zc ?_ (hle.trans F) ?_ d
     ·rw[auC (by simp[h0])];exact b
     ·rw[auC (by simp[h0])];exact hz
  ·have b0:i=ps.length:=om
   simp only[f,auF,i_f];rw[awG om] at G c7;have G:Vl.lI ps=Vl.right o:=G;rw[jL b 1 rfl];refine bH b 3 rfl (wJ o _ N w6 om (b.hasM 3 rfl) Q) λz N2 Z F hz b=>?_;refine bH b 3 rfl (KQ o _ N2 Z om (b.hasM 3 rfl) hz) ?_;rintro _ N3 w8 c1 ⟨t,rfl,ht⟩ b;obtain⟨tk,tc,h3,rfl,c2⟩:=ht.open;simp only[A4,ex];refine aT 2 c2.keys.one c2.kids.one b rfl λw9 b=>?_;refine dL 2 b rfl (hK _ _ N3 _ 3 b rfl (hle.trans (F.trans c1)) ⟨obV (Vl.right o).1 tk tc,?_,?_⟩)
   ·rw[G];rfl
   ·rw[G];exact ht
end
section
open Go
structure It where
 num:Int
 gen:Int
 obj:Ob
structure Dc where
 items:List It
 trailer:Ob
namespace Dk
def Nv:List UInt8:=[82,111,111,116]
def LV:List UInt8:=[73,110,102,111]
def idK:List UInt8:=[73,68]
def it0:It:=⟨0,0,Vl.ob0⟩
def numbers (i:It):Bool:=ai (1<=i.num)&&ai (i.num<=8191)&&ai (0<=i.gen)&&ai (i.gen<=65535)
def known (k:List UInt8):Bool:=ai (k=idK)||decide (k=LV)||decide (k=Nv)
end Dk
end
section
open Eng Go.RowKit Go.ChangeShapes Go.WideShapes
inductive Rws {α:Type} (R:List aq->α->Prop):List aq->List α->Prop
|nil:Rws R [] []
|cons {a rest:List aq} {x:α} {xs:List α}:R a x->Rws R rest xs->Rws R (a++rest) (x::xs)
section
variable {α:Type}{R R':List aq->α->Prop}
theorem Rws.snoc {a:List aq}{x:α}(b:R a x):∀{cs:List aq} {xs:List α},Rws R cs xs->Rws R (cs++a) (xs++[x])
|_,_,.nil=>by
  have:=Rws.cons b (Rws.nil (R:=R));simpa using this
|_,_,.cons h t=>by
  rw[auN,axW];exact .cons h (Rws.snoc b t)
end
section
variable {H:Type}{enc:TypeId×aq->H}{W:ao}{sp:Nat->Bool}{held:Bool}
theorem Nz {E T:TypeId}{n:Nat}{R:List aq->α->Prop}{wt:α->Nat}(F:Tryz.prog.underlying T=ay (.slice E))(G:Tryz.prog.cellsOf E=n)(I:0 < n)
  (p:∀fuel cs x,DataW.trod enc ah W 0 sp held fuel E cs=ay x->∃a,R cs a∧cs.length=n∧wt a<=Rows.uptoBulk x.1)
  {fuel:Nat} {cs:List aq} {x:DataW H×List MemPlace} (h:DataW.trod enc ah W 0 sp held fuel T cs=ay x) :
  ∃(v:aq) (ds:List aq) (xs:List α),cs=[v]∧SlA (InW W) W v n xs.length ds∧Rws R ds xs∧xs.length<=9223372036854775807∧(xs.map wt).sum+1<=Rows.uptoBulk x.1:=by
 rcases DataW.trod_slice F h with ⟨rfl,rfl⟩|⟨a,len,cap,elems,rest,J,rfl,rfl,rfl,_,q,r,f,g,_,_⟩
 ·exact⟨_,[],[],rfl,SlA.nil _ _ _ _,.nil,sm,by simp[Rows.uptoBulk]⟩
 ·rw[G] at g;have step:∀k,k<=len->∃(cs:List aq) (os:List α),os.length=k∧cs.length=k*n∧Rws R cs os∧(∀j u,cs[j]?=ay u->W.cell? (a.add j)=ay u)∧(os.map wt).sum<=Rows.uptoBulkAll ((elems.take k).map (·.1)):=by
   intro k
   induction k with
  |zero=>intro _;exact⟨[],[],rfl,sm,.nil,(λj u c=>by simp at c),by simp[Rows.uptoBulkAll]⟩
  |succ k s=>
    intro L;obtain⟨cs,os,l,d,t,w,C⟩:=s om;have i:k < elems.length:=om
    have m:=g k om;rw[auO i,azM] at m;obtain⟨D,y,z⟩:=m;obtain⟨o,K,A,hw⟩:=p J D _ z;refine⟨cs++D,os++[o],by simp[l],by rw[auH,d,A,axE,aAb],Rws.snoc K t,λj u c=>?_,?_⟩
    ·rcases avI j cs.length with e|e
     ·rw[awR e] at c;exact w j u c
     ·rw[awW e] at c;have B:j - cs.length < n:=by
       have:=(auV.1 c).1;omega
      have:=(World.cells?_some y).2.2 (j - cs.length) B;rw[<-c,<-this,SP,show k*n+(j - cs.length)=j by omega]
    ·rw[avL i,avM,avM,vQ,aAq];simp only[avS,axT,Rows.uptoBulkAll,ayH,List.sum_nil];omega
  obtain⟨cs,os,l,d,t,w,C⟩:=step len (auL _);refine⟨_,cs,os,rfl,?_,t,?_,?_⟩
  ·rw[l];exact SlA.OH I (by rw[d]) w (λb m=>m) q
  ·rw[l];simp only[maxLen] at r;omega
  ·rw[<-f,awD] at C;simp only[Rows.uptoBulk];omega
end
end
section
open Eng Go.RowKit
def itC (i:It)(vk vc:aq):List Value:=ad i.num::ad i.gen::obC i.obj vk vc
def itV (i:It)(vk vc:aq):Value:=.agg (itC i vk vc).toArray
def itE (b:Nat)(i:It)(vk vc:aq):Ent:=.cells b (itC i vk vc) 27
theorem K7 {p:Ob}{a b:aq}(h:obV o vk vc=obV p a b):vk=a∧vc=b:=by
 have:(obC o vk vc).toArray=(obC p a b).toArray:=by injection h
 have:obC o vk vc=obC p a b:=by simpa using congrArg Array.toList this
 simp only[obC,azO,and_true] at this;exact⟨this.2.2.2.2.1,this.2.2.2.2.2⟩
theorem OV.slices (h:OV A w (obV o vk vc) o):∃cs,tE A w o vk vc cs:=by
 obtain⟨b,c,cs,e,a⟩:=h.open;obtain⟨rfl,rfl⟩:=K7 e;exact⟨cs,a⟩
theorem OV.oneK (h:OV A w (obV o vk vc) o):vk.oneCell'=true:=by obtain⟨cs,a⟩:=h.slices;exact a.keys.one
theorem OV.oneC (h:OV A w (obV o vk vc) o):vc.oneCell'=true:=by obtain⟨cs,a⟩:=h.slices;exact a.kids.one
theorem agU (i:It)(b:vk.oneCell'=aw)(c:vc.oneCell'=aw):∀v∈itC i vk vc,v.oneCell'=true:=by
 intro v a;simp only[itC,auI] at a;rcases a with rfl|rfl|a
 ·rfl
 ·rfl
 ·exact iF i.obj b c v a
theorem Q3:FU ah 27=ay 8:=krx
theorem szIt:(Tryz.prog.info? 27).map (·.size)=ay 8:=krx
theorem arS:nN ah 27 0=ay 0:=krx
theorem aqS:nN ah 27 1=ay 1:=krx
theorem asE:nN ah 27 2=ay 2:=krx
section
variable {w:ao}{PK:PKT}{K:VWP}{S:Nat->Prop}{w0:ao}{L:List Ent}
theorem F2 {off:Nat}:DoX ah (mFA 27 (af b off) 0) w PK K=K (af b off) w:=aW arS
theorem NF {off:Nat}:DoX ah (mFA 27 (af b off) 1) w PK K=K (af b (off+1)) w:=aW aqS
theorem IV {off:Nat}:DoX ah (mFA 27 (af b off) 2) w PK K=K (af b (off+2)) w:=aW asE
theorem agX (i:It)(a:vk.oneCell'=aw)(c:vc.oneCell'=aw)(d:bT S w0 w L)(k:∀b w',bT S w0 w' (itE b i vk vc::L)->K (af b 0) w'):DoX ah (GP 27 (itV i vk vc)) w PK K:=by
 cases vk<;>first|(cases a;done)|skip
 all_goals cases vc<;>first|(cases c;done)|exact bK (λb=>af b 0) (itC i _ _) 27 (λ_=>by kernel_rfl) d k
theorem Zn (a:bT S w0 w L)(k:∀b w',bT S w0 w' (itE b Dk.it0 cI cI::L)->K (af b 0) w'):DoX ah (fK 27) w PK K:=
 bK (λb=>af b 0) (itC Dk.it0 cI cI) 27 (λ_=>by kernel_rfl) a k
theorem L7 (j:Nat){i i':It}{vk' vc':aq}(a:vk'.oneCell'=aw)(c:vc'.oneCell'=aw)(d:bT S w0 w L)(hi:L[j]?=ay (itE b i vk vc))(k:∀w',bT S w0 w' (L.set j (itE b i' vk' vc'))->K undef w') :
  DoX ah (aN 27 (af b 0) (itV i' vk' vc')) w PK K:=jH j d hi (new:=itC i' vk' vc') szIt (agU i' a c) rfl k
theorem uW (a:bT S w0 w L)(j:Nat){i:It}(hi:L[j]?=ay (itE b i vk vc)):DoX ah (aH 3 (af b 0)) w PK K=K (ad i.num) w:=aJ aU (a.cell j hi 0 rfl)
theorem E5 (a:bT S w0 w L)(j:Nat){i:It}(hi:L[j]?=ay (itE b i vk vc)):DoX ah (aH 3 (af b (0+1))) w PK K=K (ad i.gen) w:=aJ aU (a.cell j hi 1 rfl)
theorem it_k (a:bT S w0 w L)(j:Nat){i:It}(hi:L[j]?=ay (itE b i vk vc)):DoX ah (aH 3 (af b (0+2))) w PK K=K (ad i.obj.k) w:=aJ aU (a.cell j hi 2 rfl)
theorem Jo (a:bT S w0 w L)(j:Nat){i:It}(hi:L[j]?=ay (itE b i vk vc)):DoX ah (aH 25 (af b (0+2))) w PK K=K (obV i.obj vk vc) w:=
 EN (a.X9 j hi (0+2) (obC i.obj vk vc) rfl fR)
theorem amK:DoX ah (aV 27 #[]) w PK K=K (itV Dk.it0 cI cI) w:=aD krx
end
end
section
open Eng
def HA(w)(K:KT):=nz f121 1 [] [] [] (zg [] []) w K
theorem Lm:HA w k0->Calls ah 121 #[] w k0:=cw func121
end
end Go.Proofs.YtlgndjkieegnaaaGreatDoor

namespace Go.Proofs.YtlgndjkieegnaaaGreatDoor
variable{A S:Nat->Prop}{K:VWP}{L:List Eng.Ent}{M N:Eng.Mem}{P:Program}{PK:PKT}{R:Ending->FrameMode->ao->Prop}{a:Int}{args:Array aq}{b cap d f i m sz:Nat}{cb:Array Bool}{cs news xs:List aq}{ds:List Deferred}{e:Eng.Ent}{key:List UInt8}{o:Ob}{q:Bool}{t0 v v2 va vc vk:aq}{u:FrameMode}{w w0:ao}{xo yo:Operand}{α:Type}{t0 t1 t2:aq}{k0:Eng.KT}
section
open Eng Go.RowKit
theorem jR.told {x:aq}(h:jR ah f args M w (λv _=>v=x)):Ret ah f args w (λv w'=>v=x∧Below w.heap.size w w'):=
 Ret.mono h λv w' ⟨N,g,r⟩=>⟨r,g.below⟩
theorem J9 {x:Option Ob}(h:OV M.A M.w v (x.getD Vl.ob0)):∃vk vc,v=obV (x.getD Vl.ob0) vk vc∧OV M.A M.w (obV (x.getD Vl.ob0) vk vc) (x.getD Vl.ob0):=by
 obtain⟨vk,vc,cs,rfl,a⟩:=h.open;exact⟨vk,vc,rfl,h⟩
end
end Go.Proofs.YtlgndjkieegnaaaGreatDoor

namespace Go.Proofs.YtlgndjkieegnaaaGreatDoor
variable{A S:Nat->Prop}{K:VWP}{L:List Eng.Ent}{M N:Eng.Mem}{P:Program}{PK:PKT}{R:Ending->FrameMode->ao->Prop}{a:Int}{args:Array aq}{b cap d f i m sz:Nat}{cb:Array Bool}{cs news xs:List aq}{ds:List Deferred}{e:Eng.Ent}{key:List UInt8}{o:Ob}{q:Bool}{t0 v v2 va vc vk:aq}{u:FrameMode}{w w0:ao}{xo yo:Operand}{α:Type}{t0 t1 t2:aq}{k0:Eng.KT}
section
open Eng
def wR(t0 t1 w)(K:KT):=nz f326 1 [] [] [] (zg [0,1] [t0,t1]) w K
theorem CL:wR t0 t1 w k0->Calls ah 326 #[t0,t1] w k0:=cw func326
def BZ(t0 w)(K:KT):=nz f335 1 [] [] [] (zg [0] [t0]) w K
theorem Gp:BZ t0 w k0->Calls ah 335 #[t0] w k0:=cw func335
end
end Go.Proofs.YtlgndjkieegnaaaGreatDoor


namespace Go.Proofs.YtlgndjkieegnaaaGreatDoor
variable{A S:Nat->Prop}{K:VWP}{L:List Eng.Ent}{M N:Eng.Mem}{P:Program}{PK:PKT}{R:Ending->FrameMode->ao->Prop}{a:Int}{args:Array aq}{b cap d f i m sz:Nat}{cb:Array Bool}{cs news xs:List aq}{ds:List Deferred}{e:Eng.Ent}{key:List UInt8}{o:Ob}{q:Bool}{t0 v v2 va vc vk:aq}{u:FrameMode}{w w0:ao}{xo yo:Operand}{α:Type}{t0 t1 t2:aq}{k0:Eng.KT}
section
open Eng Go.RowKit
theorem qi {v:Ob}{k:List UInt8}(h:Vl.get o k=ay v):v.wt<=o.wt:=by
 unfold Vl.get at h;split at h
 ·split at h
  ·rename_i b c
   obtain⟨a,rfl⟩:=auV.1 h;have:=ER a;omega
  ·cases h
 ·cases h
section
variable {w:ao}{S:Nat->Prop}{w0:ao}{L:List Ent}
end
def bj:List (List UInt8):=[Dk.idK,Dk.LV,Dk.Nv]
theorem Yb (M:Mem)(w:ao)(d:M.has w):jR ah 121 #[] M w (λr N=>SlA N.A N.w r 1 3 (bI bj)):=by
 refine bB d λK e=>Lm ?_;unfold HA nz;refine bK (λb=>bO b 0 3 3) (bI bj) 9 (λ_=>by kernel_rfl) (bT.memS d) λb f c=>?_;obtain⟨N,hle,a,c⟩:=bT.bG (L:=[.mem M]) (c.toU 1 3 3 dc om om) 0 rfl;exact e _ _ N _ 0 c rfl hle a
end
end Go.Proofs.YtlgndjkieegnaaaGreatDoor

namespace Go.Proofs.YtlgndjkieegnaaaGreatDoor
variable{A S:Nat->Prop}{K:VWP}{L:List Eng.Ent}{M N:Eng.Mem}{P:Program}{PK:PKT}{R:Ending->FrameMode->ao->Prop}{a:Int}{args:Array aq}{b cap d f i m sz:Nat}{cb:Array Bool}{cs news xs:List aq}{ds:List Deferred}{e:Eng.Ent}{key:List UInt8}{o:Ob}{q:Bool}{t0 v v2 va vc vk:aq}{u:FrameMode}{w w0:ao}{xo yo:Operand}{α:Type}{t0 t1 t2:aq}{k0:Eng.KT}
section
open Eng Go.RowKit
namespace Eng
def Ent.two (e f:Ent):Ent:=⟨λk=>e.blk k∨f.blk k,λw=>e.is w∧f.is w∧∀k,e.blk k->¬f.blk k,
 λh k=>⟨e.keep h.1 λb a=>k b (.inl a),f.keep h.2.1 λb a=>k b (.inr a),h.2.2⟩,λh k c=>c.elim (e.lt h.1 k) (f.lt h.2.1 k)⟩
section
variable {S:Nat->Prop}{w w0:ao}{L:List Ent}
theorem bT.split {f:Ent}(c:bT S w0 w (.two e f::L)):bT S w0 w (e::f::L):=by
 obtain⟨⟨he,h,i⟩,d⟩:=c.all (.two e f) sm;obtain⟨g,a2⟩:=axD.1 c.apart;refine⟨c.grew,λx a=>?_,axD.2 ⟨λx a k b=>?_,axD.2 ⟨λx a k b=>g x a k (.inr b),a2⟩⟩⟩
 ·rcases auI.1 a with rfl|a
  ·exact⟨he,λk b=>d k (.inl b)⟩
  rcases auI.1 a with rfl|a
  ·exact⟨h,λk b=>d k (.inr b)⟩
  ·exact c.all x (auZ _ a)
 ·rcases auI.1 a with rfl|a
  ·exact i k b
  ·exact g x a k (.inl b)
end
end Eng
section
variable {P:Program}{S:ao->Prop}{K:aq->Prop}
theorem fS {m:Sem Next}(v:aq)(h:∀w,S w->m.run P w=.ok (.value v) w)(k:K v):HDo P S m K:=⟨v,h,k⟩
theorem aP {m:Sem Next}(v:aq)(h:∀w,m.run P w=.ok (.value v) w)(k:K v):HDo P S m K:=⟨v,λw _=>h w,k⟩
end
section
variable {w:ao}{PK:PKT}{K:VWP}{S:Nat->Prop}{w0:ao}{L:List Ent}
theorem sQ {T:TypeId}(h:w.heap[b]?=ay (.cells cs.toArray T (0,0)))(a:0 < sz)(d:cs.length=sz):Sl w (bO b 0 1 1) sz 1 cs:=
 ⟨om,ay ⟨b,0,ax⟩,1,rfl,λh=>(by cases h),λp hp=>by cases hp;exact⟨λ_=>rfl,λj u c=>by rw[auP];exact aI (T:=T) h c⟩⟩
end
theorem MK (x:Int)(w:ao):Ret ah 335 #[ad x] w (λv w'=>v=.bool au∧w=w'):=by
 refine aX λK a=>Gp ?_;unfold BZ nz;rw[abW];exact a _ _ ⟨sm,rfl⟩
end
end Go.Proofs.YtlgndjkieegnaaaGreatDoor




namespace Go.Proofs.YtlgndjkieegnaaaGreatDoor
variable{A S:Nat->Prop}{K:VWP}{L:List Eng.Ent}{M N:Eng.Mem}{P:Program}{PK:PKT}{R:Ending->FrameMode->ao->Prop}{a:Int}{args:Array aq}{b cap d f i m sz:Nat}{cb:Array Bool}{cs news xs:List aq}{ds:List Deferred}{e:Eng.Ent}{key:List UInt8}{o:Ob}{q:Bool}{t0 v v2 va vc vk:aq}{u:FrameMode}{w w0:ao}{xo yo:Operand}{α:Type}{t0 t1 t2:aq}{k0:Eng.KT}
section
open Go
structure Lx where
 off:Int
 sty:List UInt8
 pre:List UInt8
 first:Int
 deriving DecidableEq
namespace Lb
end Lb
end
end Go.Proofs.YtlgndjkieegnaaaGreatDoor












namespace Go.Proofs.YtlgndjkieegnaaaGreatDoor
variable{A S:Nat->Prop}{K:VWP}{L:List Eng.Ent}{M N:Eng.Mem}{P:Program}{PK:PKT}{R:Ending->FrameMode->ao->Prop}{a:Int}{args:Array aq}{b cap d f i m sz:Nat}{cb:Array Bool}{cs news xs:List aq}{ds:List Deferred}{e:Eng.Ent}{key:List UInt8}{o:Ob}{q:Bool}{t0 v v2 va vc vk:aq}{u:FrameMode}{w w0:ao}{xo yo:Operand}{α:Type}{t0 t1 t2:aq}{k0:Eng.KT}
section
open Eng Go.RowKit Go.ChangeShapes Go.WideShapes Go.ChangeAt
set_option maxRecDepth 100000
section
variable {H:Type}{enc:TypeId×aq->H}{W:ao}{sp:Nat->Bool}{held:Bool}
theorem aoX {d:DataW H}(a:Rows.uptoSmall H [d]=aw):Rows.uptoBulk d<=1048576:=by
 have h:Rows.uptoBulkAll [d]<=1048576:=auW a;simp only[Rows.uptoBulkAll] at h;omega
end
end
section
open Eng
def nB(t0 t1 t12 t13 w)(N1:JT)(K:KT):=nz f22 43 [N1] [nh 9 [13]] [(6,9)] (zg [0,1,12,13] [t0,t1,t12,t13]) w K
def pU(t0 t1 w)(K:KT):=nz f22 1 [] [(9,[13],λs v j w f=>nB (s 0) (s 1) (s 12) (vg v 0) w (f 0) K)] [] (zg [0,1] [t0,t1]) w K
theorem yT:pU t0 t1 w k0->Calls ah 22 #[t0,t1] w k0:=cz [] [(4,[13])] func22
end
section
open Eng Go.RowKit
theorem akN:eS ah 9=true:=krx
theorem Na (va n:aq)(a b:List (List UInt8))(w:ao)(h:Sl w va 1 a.length (bI a))(o:Sl w n 1 b.length (bI b))(t:a.length<=1099511627776) :
  Ret ah 22 #[va,n] w (λr w'=>r=.bool (ai (a=b))∧Below w.heap.size w w'):=by
 refine aX λK j=>yT ?_;unfold pU nz;rw[aZ auR h,aZ auR o];simp only[rs];by_cases hlen:(a.length:Int)≠(b.length:Int)
 ·simp only[auG hlen,i_t];have c:a≠b:=λe=>hlen (by rw[e]);exact j _ _ ⟨by rw[auD c],(Own.start w).done⟩
 have hle:a.length=b.length:=om
 simp only[auD hlen,i_f,aZ auR h];refine loop (λvs w'=>∃(i:Nat),vs=[ad i]∧i<=a.length∧a.take i=b.take i∧Own w w' []) (λvs _=>a.length - n0 vs) ⟨0,rfl,om,sm,Own.start w⟩ ?_;rintro vs w2 ⟨i,rfl,hi,he,d⟩ _;simp only[nB,gd,rs,nz];by_cases f:(i:Int) < (a.length:Int)
 ·have p:i < a.length:=om
  have q:i < b.length:=om
  simp only[f,auE,rs];obtain⟨u,v,ca,rfl,k⟩:=bR h om;obtain⟨x,y,cb,rfl,l⟩:=bR o om;refine quiet (dY _ (λ_=>cZ auR (show _=ay 1 by kernel_rfl) om om) ?_);refine gA (ae (a[i])) (λs hw=>aB akN ((d.grow hw).old ?_)) ?_
  ·rw[auJ,avC];exact k i _ (fF p)
  refine dY _ (λ_=>cZ auR (show _=ay 1 by kernel_rfl) om om) ?_;refine gA (ae (b[i])) (λs hw=>aB akN ((d.grow hw).old ?_)) ?_
  ·rw[auJ,avC];exact l i _ (fF q)
  refine ahV ?_;intro w3 hw;have d:=d.grow hw;by_cases g:a[i]=b[i]
  ·simp only[g,ne_eq,not_true,auF,i_f,rs];rw[aA om om];refine bC ⟨i+1,rfl,om,?_,d⟩ (by simp[n0,RowKit.intOf];omega);rw[avL p,avL q,he,g]
  ·simp only[g,ne_eq,awJ,auE,i_t];have c:a≠b:=λe=>g (by subst e;rfl);exact j _ _ ⟨by rw[auD c],d.done⟩
 ·simp only[f,auF,rs,oG];have m:a=b:=by
   rw[avE om,avE om] at he;exact he
  exact j _ _ ⟨by rw[auG m],d.done⟩
end
section
open Eng
def sA(t0 t1 w)(K:KT):=nz f16 1 [] [] [] (zg [0,1] [t0,t1]) w K
theorem AJ:sA t0 t1 w k0->Calls ah 16 #[t0,t1] w k0:=cw func16
def oM(t0 t1 t12 t13 w)(N1:JT)(K:KT):=nz f23 43 [N1] [nh 9 [13]] [(6,10)] (zg [0,1,12,13] [t0,t1,t12,t13]) w K
def sC(t0 t1 w)(K:KT):=nz f23 1 [] [(9,[13],λs v j w f=>oM (s 0) (s 1) (s 12) (vg v 0) w (f 0) K)] [] (zg [0,1] [t0,t1]) w K
theorem Aq:sC t0 t1 w k0->Calls ah 23 #[t0,t1] w k0:=cz [] [(4,[13])] func23
end
section
open Eng Go.RowKit
theorem Xf {x y:aq}(h:Ret P f args w (λv w'=>v=x∧Below w.heap.size w w'))(a:x=y)(b:Own w0 w L)
  (k:∀w',Own w0 w' L->K y w'):cR P f args w PK K:=by
 refine Eh h ?_;rintro v w' ⟨rfl,c⟩;rw[a];exact k _ (b.grow c)
namespace Ob
 mutual
def eqb:Ob->Ob->Bool
|.mk k n g s ks cs,b=>ai (k=b.k)&&ai (n=b.n)&&ai (g=b.g)&&ai (s=b.s)&&ai (ks=b.keys)&&Lk cs b.kids
def Lk:List Ob->List Ob->Bool
|[],[]=>aw
|a::l,b::m=>eqb a b&&Lk l m
|[],_::_=>au
|_::_,[]=>au
end
 mutual
theorem aiD:∀a b:Ob,eqb a b=aw↔a=b
|.mk k n g s ks cs,.mk k' f h i d c=>by
  have e:=I3 cs c;rw[eqb];simp only[auY,avK];simp only[Ob.k,Ob.n,Ob.g,Ob.s,Ob.keys,Ob.kids,e,Ob.mk.injEq,and_assoc]
theorem I3:∀a b:List Ob,Lk a b=aw↔a=b
|[],[]=>by simp[Lk]
|a::l,b::m=>by
  rw[Lk,auY,aiD a b,I3 l m];simp
|[],_::_=>by simp[Lk]
|_::_,[]=>by simp[Lk]
end
theorem aoJ (a b:Ob):eqb a b=(ai (a.k=b.k)&&ai (a.n=b.n)&&ai (a.g=b.g)&&ai (a.s=b.s)&&ai (a.keys=b.keys)&&Lk a.kids b.kids):=by cases a;rw[eqb];rfl
theorem V3 {a b:List Ob}(c:i < a.length)(d:i < b.length):Lk (a.drop i) (b.drop i)=(eqb a[i] b[i]&&Lk (a.drop (i+1)) (b.drop (i+1))):=by
 rw[avX c,avX d,Lk]
theorem aaB:∀{a b:List Ob},a.length≠b.length->Lk a b=false:=by
 intro a b h;cases he:Lk a b with
|false=>rfl
|true=>rw[I3] at he;exact absurd (by rw[he]) h
end Ob
theorem OW {a b:Ob}{r s m:aq}{ca cb:List aq}(w:ao)(k:tE (InW w) w a r va ca)(n:tE (InW w) w b s m cb)(A:a.kids.length<=1000000000)
  (t:∀(i:Nat) (h:i < a.kids.length) (j:i < b.kids.length) (x y:aq) (W:ao),OV (InW W) W x a.kids[i]->OV (InW W) W y b.kids[i]->Ret ah 16 #[x,y] W (λv w'=>v=.bool (Ob.eqb a.kids[i] b.kids[i])∧Below W.heap.size W w')) :
  Ret ah 23 #[va,m] w (λv w'=>v=.bool (Ob.Lk a.kids b.kids)∧Below w.heap.size w w'):=by
 refine aX λK l=>Aq ?_;unfold sC nz;rw[aZ auU k.kids.1,aZ auU n.kids.1];simp only[rs];by_cases hlen:(a.kids.length:Int)≠(b.kids.length:Int)
 ·simp only[auG hlen,i_t];exact l _ _ ⟨by rw[Ob.aaB om],(Own.start w).done⟩
 have hle:a.kids.length=b.kids.length:=om
 simp only[auD hlen,i_f,aZ auU k.kids.1];refine loop (λvs w'=>∃(i:Nat),vs=[.int .i64 i]∧i<=a.kids.length∧Ob.Lk a.kids b.kids=Ob.Lk (a.kids.drop i) (b.kids.drop i)∧Own w w' []) (λvs _=>a.kids.length - n0 vs) ⟨0,rfl,om,sm,Own.start w⟩ ?_;rintro vs w2 ⟨i,rfl,hi,he,c⟩ _;simp only[oM,gd,rs,nz];by_cases e:(i:Int) < (a.kids.length:Int)
 ·have h:i < a.kids.length:=om
  have j:i < b.kids.length:=om
  simp only[e,auE,rs];obtain⟨x,p,u,f⟩:=HU k h;obtain⟨y,q,z,g⟩:=HU n j;refine quiet (gA _ (λW d=>(f W (bT.keptIn (c.grow d))).1) ?_);refine gA _ (λW d=>(f W (bT.keptIn (c.grow d))).2) ?_;refine gA _ (λW d=>(g W (bT.keptIn (c.grow d))).1) ?_;refine gA _ (λW d=>(g W (bT.keptIn (c.grow d))).2) ?_;refine fY _ (λW d=>Zh (t i h j x y W (u.at_ (c.grow d)) (z.at_ (c.grow d))) d) ?_;refine dY _ (λW=>cJ (by simp[Op.unary];rfl)) ?_;intro w3 hw;have c:=c.grow hw;rw[Ob.V3 h j] at he;cases o:Ob.eqb a.kids[i] b.kids[i] with
 |true=>
   simp only[awA,i_f,rs];rw[aA om om];refine bC ⟨i+1,rfl,om,?_,c⟩ (by simp[n0,RowKit.intOf];omega);rw[he,o];rfl
 |false=>
   simp only[avZ,i_t];exact l _ _ ⟨by rw[he,o];rfl,c.done⟩
 ·simp only[e,auF,rs];refine l _ _ ⟨?_,c.done⟩;rw[he,awG om,awG om,Ob.Lk]
theorem Mj (n:Nat):∀(a b:Ob) (x y:aq) (w:ao),a.wt<=n->a.wt<=1000000000->OV (InW w) w x a->OV (InW w) w y b->Ret ah 16 #[x,y] w (λv w'=>v=.bool (Ob.eqb a b)∧Below w.heap.size w w'):=by
 induction n with
|zero=>intro a b x y w h;have:=a.KU;omega
|succ n z=>
 intro a b x y w G hw j l;obtain⟨A,va,ca,rfl,e⟩:=j.open;obtain⟨B,H,cb,rfl,f⟩:=l.open;have C:Ob.wts a.kids<=1000000000:=by cases a;rw[Ob.wt] at hw;simp only[Ob.kids];omega
 have D:Pl.tot a.keys<=1000000000:=by cases a;rw[Ob.wt] at hw;simp only[Ob.keys];omega
 have E:=Ob.rN a.kids;rw[Ob.aoJ];refine aX λK d=>AJ ?_;unfold sA nz;refine eQ a e.keys.one e.kids.one (Own.start w) λp I c=>?_;refine eQ b f.keys.one f.kids.one c λq w2 c=>?_;rw[eG,vE c 1 rfl,eG,vE c 0 rfl];by_cases m:a.k=b.k
 case neg=>simp only[rs,m,auF,aAr] at d ⊢;exact d _ _ ⟨rfl,c.done⟩
 simp only[rs,m,auE,CT,Ll c 1 rfl,Ll c 0 rfl,azK] at d ⊢;by_cases o:a.n=b.n
 case neg=>simp only[rs,o,auF,aAr] at d ⊢;exact d _ _ ⟨rfl,c.done⟩
 simp only[rs,o,auE,YU,ob_g c 1 rfl,ob_g c 0 rfl,azK] at d ⊢;by_cases r:a.g=b.g
 case neg=>simp only[rs,r,auF,aAr] at d ⊢;exact d _ _ ⟨rfl,c.done⟩
 simp only[rs,r,auE,El,NW c 1 rfl,NW c 0 rfl,azK] at d ⊢;by_cases t:a.s=b.s
 case neg=>simp only[rs,t,auF,aAr] at d ⊢;exact d _ _ ⟨rfl,c.done⟩
 simp only[rs,t,auE,iZ,dZ c 1 rfl,dZ c 0 rfl,azK] at d ⊢;have F:=Pl.gE a.keys;refine Xf (Na A B a.keys b.keys w2 (c.Re e.keys.1) (c.Re f.keys.1) om) rfl c λw3 c=>?_;by_cases u:a.keys=b.keys
 case neg=>simp only[rs,u,auF,aAr] at d ⊢;exact d _ _ ⟨rfl,c.done⟩
 simp only[rs,u,auE,iR,cQ c 1 rfl,cQ c 0 rfl,azK] at d ⊢;refine Xf (OW w3 (e.in_ c) (f.in_ c) om ?_) rfl c λJ c=>?_
 ·intro i hi L x y W j l;have:=ER hi;exact z _ _ x y W om om j l
 exact d _ _ ⟨rfl,c.done⟩
end
end Go.Proofs.YtlgndjkieegnaaaGreatDoor









namespace Go.Proofs.YtlgndjkieegnaaaGreatDoor
variable{A S:Nat->Prop}{K:VWP}{L:List Eng.Ent}{M N:Eng.Mem}{P:Program}{PK:PKT}{R:Ending->FrameMode->ao->Prop}{a:Int}{args:Array aq}{b cap d f i m sz:Nat}{cb:Array Bool}{cs news xs:List aq}{ds:List Deferred}{e:Eng.Ent}{key:List UInt8}{o:Ob}{q:Bool}{t0 v v2 va vc vk:aq}{u:FrameMode}{w w0:ao}{xo yo:Operand}{α:Type}{t0 t1 t2:aq}{k0:Eng.KT}
section
open Go
namespace Vl
theorem Bv (key:List UInt8):∀(ks:List (List UInt8)) (cs:List Ob),key ∉ (bY key ks cs).1
|[],_=>by simp[bY]
|_::_,[]=>by simp[bY]
|a::ks,c::cs=>by
  rw[bY];split
  ·exact Bv key ks cs
  ·rename_i h
   simp only[auI,not_or];exact⟨λe=>h e.symm,Bv key ks cs⟩
theorem G4 (key:List UInt8):∀(ks:List (List UInt8)) (cs:List Ob),(bY key ks cs).1.length=(bY key ks cs).2.length
|[],_=>by simp[bY]
|_::_,[]=>by simp[bY]
|a::ks,c::cs=>by
  rw[bY];split
  ·exact G4 key ks cs
  ·simp[G4 key ks cs]
theorem CB (key:List UInt8):∀(ks:List (List UInt8)) (cs:List Ob),(bY key ks cs).1.Sublist ks
|[],_=>by simp[bY]
|_::_,[]=>by simp[bY]
|a::ks,c::cs=>by
  rw[bY];split
  ·exact (CB key ks cs).trans (List.sublist_cons_self _ _)
  ·exact (CB key ks cs).cons_cons _
theorem CF (key:List UInt8):∀(ks:List (List UInt8)) (cs:List Ob),(bY key ks cs).2.Sublist cs
|[],_=>by simp[bY]
|_::_,[]=>by simp[bY]
|a::ks,c::cs=>by
  rw[bY];split
  ·exact (CF key ks cs).trans (List.sublist_cons_self _ _)
  ·exact (CF key ks cs).cons_cons _
theorem QB (o:Ob)(key:List UInt8):get (aR o key) key=none:=by
 unfold get;split
 ·rw[auB];rw[aBl];exact Bv key o.keys o.kids
 ·rfl
theorem ON {l:List (List UInt8)}:key ∉ l.take (place l key):=by
 intro h;obtain⟨m,hm,he⟩:=axX h;rw[auM] at hm;have a:m < place l key:=om
 have:=Ua a;rw[aAl] at he;rw[he,xU] at this;cases this
theorem Rd {v:Ob}(a:keyed o=aw)(b:o.keys.length=o.kids.length):get (put o key v) key=ay v:=by
 have hp:=xX o.keys key;unfold get;rw[show keyed (put o key v)=keyed o from rfl,a,auC rfl];have e:(put o key v).keys=o.keys.take (place o.keys key)++key::o.keys.drop (place o.keys key+if hit o.keys key then 1 else 0):=rfl;have e2:(put o key v).kids=o.kids.take (place o.keys key)++v::o.kids.drop (place o.keys key+if hit o.keys key then 1 else 0):=rfl;have hi:(put o key v).keys.idxOf key=place o.keys key:=by
  rw[e];refine acM (by simp;omega) ?_ ?_
  ·rw[awK (by rw[auM];omega)];exact ON
  ·rw[aBo (by rw[auM];omega)];simp[auM,avO hp]
 rw[hi,auC (by rw[e];simp;omega),e2,awW (by rw[auM];omega),auM];have:place o.keys key - min (place o.keys key) o.kids.length=0:=om
 rw[this];rfl
theorem ME {d:Nat}:∀{os:List Ob},oA d os=0↔∀o∈os,check d o=0
|[]=>by simp[oA]
|o::os=>by
  rw[oA];split
  ·rename_i h
   constructor
   ·intro e;exact absurd e h
   ·intro e;exact absurd (e o avQ) h
  ·rename_i h
   have h:=awX.1 h;rw[ME];simp[h]
theorem abX (l:List (List UInt8))(h:i < l.length):l.getD i []=l[i]:=by rw[auK,auO h];rfl
theorem kU :rising o=aw↔o.keys.length=o.kids.length∧NT o.keys∧(∀k∈o.keys,name k=aw∧(o.k=9->k≠rQ))∧∀c∈o.kids,c.k≠0:=by
 unfold rising;simp only[auY,avK,axJ,awH];constructor
 ·rintro⟨q,h⟩;have f:∀i (hi:i < o.keys.length),name o.keys[i]=aw∧(i=0∨less (o.keys.getD (i - 1) []) o.keys[i]=aw)∧(o.k=9->o.keys[i]≠rQ)∧(o.kids[i]'(om)).k≠0:=by
   intro i hi;have:=h i hi;unfold AD at this;rw[abX _ hi,auK (l:=o.kids),auO (by omega:i < o.kids.length)] at this;simp only[auY,axS,avK,ayD,azJ,aAW,awY] at this;obtain⟨⟨⟨a,b⟩,c⟩,e⟩:=this;exact⟨a,b,λp g=>c.elim (λx=>x p) (λx=>x g),e⟩
  refine⟨q,?_,?_,?_⟩
  ·refine ayX.2 λi j hi m s=>?_;have step:∀i (hi:i+1 < o.keys.length),less o.keys[i] o.keys[i+1]=true:=by
    intro i hi;have:=(f (i+1) hi).2.1;rcases this with n|n
    ·omega
    ·rwa [ayS,abX _ (by omega:i < o.keys.length)] at n
   have:∀d,∀j (m:j < o.keys.length),j=i+1+d->less o.keys[i] o.keys[j]=true:=by
    intro d
    induction d with
   |zero=>intro j m he;subst he;exact step i m
   |succ d t=>
     intro j m he;subst he;exact rA (t (i+1+d) om rfl) (step (i+1+d) m)
   exact this (j - (i+1)) j m om
  ·intro k g;obtain⟨i,hi,rfl⟩:=axX g;exact⟨(f i hi).1,(f i hi).2.2.1⟩
  ·intro c r;obtain⟨i,hi,rfl⟩:=axX r;exact (f i om).2.2.2
 ·rintro⟨q,u,g,r⟩;refine⟨q,λi hi=>?_⟩;unfold AD;rw[abX _ hi,auK (l:=o.kids),auO (by omega:i < o.kids.length)];simp only[auY,axS,avK,ayD,azJ,aAW,awY];refine⟨⟨⟨(g _ (auS hi)).1,?_⟩,?_⟩,r _ (auS _)⟩
  ·rcases awQ i with n|n
   ·exact .inl n
   ·refine .inr ?_;rw[abX _ (by omega:i - 1 < o.keys.length)];exact uP u om hi
  ·by_cases p:o.k=9
   ·exact .inr ((g _ (auS hi)).2 p)
   ·exact .inl p
theorem gG :check d o=0↔(d<=24∧gL o=aw∧(o.k=9->d<=1)∧fits o=aw∧o.s.length<=long o.k∧o.kids.length<=8191∧form o=aw)∧∀c∈o.kids,check (d+1) c=0:=by
 rw[E9];have hw:why d o=0↔(d<=24∧gL o=aw∧(o.k=9->d<=1)∧fits o=aw∧o.s.length<=long o.k∧o.kids.length<=8191∧form o=aw):=by
  unfold why;split
  ·simp;omega
  rename_i m
  split
  ·rename_i f
   simp only[show (10:Int)≠0 by decide,false_iff,not_and];rintro - a b;rcases f with f|f
   ·rw[f] at a;cases a
   ·have:=b f.1;omega
  rename_i f
  simp only[not_or,Bool.not_eq_false,not_and,Nat.not_lt] at f;split
  ·rename_i g;simp[g]
  rename_i g
  split
  ·rename_i j;simp;intros;omega
  rename_i j
  split
  ·rename_i l;simp;intros;omega
  rename_i l
  split
  ·rename_i i;simp[i]
  rename_i i
  simp only[Bool.not_eq_false] at g i;exact⟨λ_=>⟨om,f.1,f.2,g,om,om,i⟩,λ_=>rfl⟩
 split
 ·rename_i h
  constructor
  ·intro e;exact absurd e h
  ·intro e;exact absurd (hw.2 e.1) h
 ·rename_i h
  have h:=awX.1 h;rw[ME];exact⟨λe=>⟨hw.1 h,e⟩,λe=>e.2⟩
theorem jE (h:check d o=0)(i:keyed o=aw):check d (aR o key)=0:=by
 obtain⟨⟨p,a2,a3,a4,a5,q,e⟩,j⟩:=gG.1 h;have s1:=CB key o.keys o.kids;have s2:=CF key o.keys o.kids;have f:o.k=7∨o.k=9:=by simpa[keyed] using i
 have m:(aR o key).k=o.k:=rfl;have a:(aR o key).keys=(bY key o.keys o.kids).1:=rfl;have b:(aR o key).kids=(bY key o.keys o.kids).2:=rfl;refine gG.2 ⟨⟨p,?_,a3,a4,a5,?_,?_⟩,λc l=>j c (s2.subset l)⟩
 ·unfold gL at a2 ⊢;rw[m];rcases f with r|t
  ·rw[r] at a2 ⊢;simpa[used,show (aR o key).n=o.n from rfl,show (aR o key).g=o.g from rfl,show (aR o key).s=o.s from rfl] using a2
  ·rw[t] at a2 ⊢;simpa[used,show (aR o key).n=o.n from rfl,show (aR o key).g=o.g from rfl,show (aR o key).s=o.s from rfl] using a2
 ·rw[b];exact axO s2.length_le q
 ·unfold form at e ⊢;rw[m];simp only[auY] at e ⊢;refine⟨e.1,?_⟩;rw[auG f] at e ⊢;have u:rising o=true:=by simpa using e.2
  obtain⟨y,v,w,x⟩:=kU.1 u;have:rising (aR o key)=true:=by
   refine kU.2 ⟨?_,?_,?_,?_⟩
   ·rw[a,b];exact G4 key _ _
   ·rw[a];exact List.Pairwise.sublist s1 v
   ·rw[a];exactλk i=>w k (s1.subset i)
   ·rw[b];exactλc j=>x c (s2.subset j)
  simp[this]
end Vl
namespace Dk
end Dk
namespace Ps
open Lx (next Tok Ss)
open Wr (num parts Xy Wp)
def At (s:List UInt8)(a:Int)(p:List UInt8)(b:Int):Prop:=∃(x:Tok) (a':Int),Ss p x∧next s a=({ x with a:=a',t:=b },0)
def Toks (s:List UInt8):Int->List (List UInt8)->Int->Prop
|a,[],b=>a=b
|a,p::ps,b=>∃c,At s a p c∧Toks s c ps b
end Ps
end
end Go.Proofs.YtlgndjkieegnaaaGreatDoor


namespace Go.Proofs.YtlgndjkieegnaaaGreatDoor
variable{A S:Nat->Prop}{K:VWP}{L:List Eng.Ent}{M N:Eng.Mem}{P:Program}{PK:PKT}{R:Ending->FrameMode->ao->Prop}{a:Int}{args:Array aq}{b cap d f i m sz:Nat}{cb:Array Bool}{cs news xs:List aq}{ds:List Deferred}{e:Eng.Ent}{key:List UInt8}{o:Ob}{q:Bool}{t0 v v2 va vc vk:aq}{u:FrameMode}{w w0:ao}{xo yo:Operand}{α:Type}{t0 t1 t2:aq}{k0:Eng.KT}
section
open Go
namespace Ps
open Lx (next Tok)
theorem Yk {v:Ob}:(∀k∈(Vl.put o key v).keys,k=key∨k∈o.keys)∧(∀c∈(Vl.put o key v).kids,c=v∨c∈o.kids)∧(Vl.put o key v).kids.length<=o.kids.length+1:=by
 unfold Vl.put;simp only[Ob.keys,Ob.kids];refine⟨λk a=>?_,λc b=>?_,?_⟩
 ·rcases avF.1 a with h|h
  ·exact .inr (awN h)
  ·rcases auI.1 h with h|h
   ·exact .inl h
   ·exact .inr (ayG h)
 ·rcases avF.1 b with h|h
  ·exact .inr (awN h)
  ·rcases auI.1 h with h|h
   ·exact .inl h
   ·exact .inr (ayG h)
 ·simp only[auH,auM,auX,auT];split<;>omega
end Ps
end
end Go.Proofs.YtlgndjkieegnaaaGreatDoor













namespace Go.Proofs.YtlgndjkieegnaaaGreatDoor
variable{A S:Nat->Prop}{K:VWP}{L:List Eng.Ent}{M N:Eng.Mem}{P:Program}{PK:PKT}{R:Ending->FrameMode->ao->Prop}{a:Int}{args:Array aq}{b cap d f i m sz:Nat}{cb:Array Bool}{cs news xs:List aq}{ds:List Deferred}{e:Eng.Ent}{key:List UInt8}{o:Ob}{q:Bool}{t0 v v2 va vc vk:aq}{u:FrameMode}{w w0:ao}{xo yo:Operand}{α:Type}{t0 t1 t2:aq}{k0:Eng.KT}
section
open Go
structure Slt where
 num:Int
 kind:Int
 a:Int
 b:Int
 deriving DecidableEq
structure Sec where
 at_:Int
 aC:List Slt
 trailer:Ob
 prev:Int
 hybrid:Int
 own:Int
namespace Tl
open Lx (next Tok)
def Gw:Sec:=⟨0,[],Vl.ob0,0,0,0⟩
def okS (x:Slt):Int:=
 if x.num < 0∨8191 < x.num then 2 else if x.kind < 0∨2 < x.kind then 10
 else if x.kind=2 then (if x.a < 1∨8191 < x.a∨x.b < 0∨8191 < x.b then 2 else 0) else if x.a < 0∨2147483647 < x.a∨x.b < 0∨65535 < x.b then 2 else 0
def tP:Option Int->List Slt->Int
|_,[]=>0
|last,x::l=>if okS x≠0 then okS x else if last.any (λn=>ai (x.num=n)) then 9 else if last.any (λn=>ai (x.num < n)) then 1 else tP (ay x.num) l
def check (l:List Slt):Int:=tP ax l
end Tl
end
end Go.Proofs.YtlgndjkieegnaaaGreatDoor
