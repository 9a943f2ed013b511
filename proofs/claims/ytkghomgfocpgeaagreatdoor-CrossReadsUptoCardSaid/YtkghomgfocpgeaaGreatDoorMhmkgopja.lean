/- Parts of the proof. -/
import Derived.Test.YtkghomgfocpgeaaGreatDoorRows
import Derived.Lib.IndexMore
import Derived.Lib.LastIndexLaws
import Derived.Lib.SmallJoins
import Derived.Lib.Overlaps
import Derived.Laws.Externs
import Derived.Lib.Repeat
import Derived.Lib.Case
import Derived.Test.YtkghomgfocpgeaaGreatDoorMjjaocoba
set_option linter.all false
set_option maxRecDepth 20000
open Go.Proofs.Tryz
open Go.Proofs.Tryz renaming prog->ah
open Option renaming some->ax,none->aw
open Bool renaming true->av,false->au
open Go renaming Value->aq,World->ao
open Decidable renaming decide->ai
namespace Go.Proofs.YtkghomgfocpgeaaGreatDoor
variable{A S:Nat->Prop}{E T1 U:TypeId}{K:VWP}{L:List Eng.Ent}{M N:Eng.Mem}{P:Program}{PK:PKT}{a:Int}{args:Array aq}{b cap d f i j m sz:Nat}{cb:Array Bool}{cs news xs:List aq}{ds:List Deferred}{e:Eng.Ent}{k':IntKind}{key:List UInt8}{o:Ob}{q:Bool}{t0 v v2 va vc vk:aq}{u:FrameMode}{w w0:ao}{xo yo:Operand}{t0 t1 t2:aq}{k0:Eng.KT}
section
open Eng Go.RowKit
 attribute [local congr] An
theorem dQ.arM {w2 a:ao}{d e:List Ent}(f:Own w0 w2 d)(g:Own w0 a e):Kept (InW w0) w2 a:=λb c=>(g.done.block b c).trans (f.done.block b c).symm
theorem zz.later {w2 d:ao}{g i:List Ent}(h:zz (InW w0) w2 o vk vc cs)(j:Own w0 w2 g)(b:Own w0 d i):zz (InW d) d o vk vc cs:=by
 have a:=h.kept (dQ.arM j b);exact⟨⟨a.keys.1,(λp l c e f=>axL (a.keys.2.1 p l c e f) b.size),a.keys.2.2⟩,⟨a.kids.1,(λp l c e f=>axL (a.kids.2.1 p l c e f) b.size),a.kids.2.2⟩,OVs.mono (λ_ k=>axL k b.size) _ _ a.all⟩
theorem Ye:∀{l:List (List UInt8)} {k:List UInt8},k∈l->k.length<=Pl.tot l
|a::l,k,h=>by
  simp only[Pl.tot,awY,azK];rcases avB.1 h with rfl|h
  ·omega
  ·have:=Ye h;simp only[Pl.tot] at this;omega
theorem ZN:∀{l:List Ob} {o:Ob},o∈l->o.wt<=Ob.wts l
|a::l,o,h=>by
  rw[Ob.wts];rcases avB.1 h with rfl|h
  ·omega
  ·have:=ZN h;omega
theorem Ob.jO (o:Ob):o.wt=6+o.s.length+Pl.tot o.keys+Ob.wts o.kids:=by cases o;rw[Ob.wt];rfl
theorem Ob.Mp (o:Ob):6<=o.wt:=by rw[o.jO];omega
theorem ZY:∀l:List Ob,l.length*6<=Ob.wts l
|[]=>by simp
|a::l=>by
  have:=ZY l;have:=a.Mp;rw[Ob.wts,avR];omega
theorem Jf (hi:i < o.kids.length):o.kids[i].wt < o.wt:=by
 have:=ZN (avD hi);rw[o.jO];omega
theorem Mi (d:Nat)(l:List Ob)(i:Nat)(hi:i < l.length):Vl.nO d (l.drop i)=if Vl.check d l[i]≠0 then Vl.check d l[i] else Vl.nO d (l.drop (i+1)):=by
 rw[avW hi,Vl.nO]
theorem Sv :o.keys.length<=o.wt:=by
 have h:∀l:List (List UInt8),l.length<=Pl.tot l:=by
  intro l
  induction l with
 |nil=>simp
 |cons a l b=>simp only[Pl.tot,awY,azK,avR] at b ⊢;omega
 have:=h o.keys;rw[o.jO];omega
theorem GH {o:Ob}:o.kids.length<=o.wt:=by
 have:=ZY o.kids;rw[o.jO];omega
theorem ZB :o.s.length<=o.wt:=by rw[o.jO];omega
theorem UJ {k:List UInt8}(h:k∈o.keys):k.length<=o.wt:=by
 have:=Ye h;rw[o.jO];omega
theorem YU (h:Vl.why d o≠0):Vl.check d o=Vl.why d o:=by rw[Vl.HO,auP h]
theorem Qq (n:Nat):∀(o:Ob) (v:aq) (d:Nat) (w:ao),o.wt<=n->OV (InW w) w v o->o.wt<=4611686018427387904->d<=1000 ->
  Ret ah 82 #[v,ad (d:Int)] w (λv w'=>v=ad (Vl.check d o)∧Below w.heap.size w w'):=by
 induction n with
|zero=>intro o v d w h;have:=o.Mp;omega
|succ n U=>
 intro o v d w hn J hb hd;obtain⟨vk,vc,cs,rfl,t⟩:=J.open;refine aL λK r=>Ab ?_;unfold qV nz;refine dD o t.keys.one t.kids.one (Own.start w) λb S a=>?_;simp only[rs];have out:∀(e:Int) (W:ao) (L:List Ent),Own w W L->Vl.why d o=e->e≠0->K (.returned (ad e)) W:=by
  intro e W L a M V;exact r _ _ ⟨by rw[YU (by rw[M];exact V),M],a.done⟩
 by_cases z:(24:Int) < (d:Int)
 ·simp only[z,auS,i_t];exact out 7 S _ a (by rw[Vl.why,auP om]) dc
 simp only[z,auT,i_f,oV a 0 rfl];refine uT (Tb o _ S (t.in_ a).ov) rfl a λw2 a=>?_;have c:¬24 < d:=om
 cases hu:Vl.fF o with
|false=>
  simp only[rs,awA,iO];exact out 10 w2 _ a (by rw[Vl.why,auO c,auP (.inl hu)]) dc
|true=>
 have X:(o.k=9∧1 < d)∨¬(o.k=9∧1 < d):=by by_cases h:(o.k=9∧1 < d)<;>simp[h]
 have N:∀(A B:Prop),(o.k=9∧1 < d->A)->(¬(o.k=9∧1 < d)->B)->IfX (.bool (ai (o.k=9)&&ai ((1:Int) < (d:Int)))) A B:=by
  intro A B Y Z;by_cases h:(o.k=9∧1 < d)
  ·have e:(ai (o.k=9)&&ai ((1:Int) < (d:Int)))=true:=by simp[h.1];omega
   rw[e,i_t];exact Y h
  ·have e:(ai (o.k=9)&&ai ((1:Int) < (d:Int)))=false:=by
    rw[ayW];by_cases y:o.k=9
    ·right;rw[awP];intro M;exact h ⟨y,om⟩
    ·left;exact auQ y
   rw[e,i_f];exact Z h
 simp +contextual only[rs,gs,avY,cO,zn a 0 rfl];refine N _ _ (λy=>?_) λy=>?_
 ·exact out 10 w2 _ a (by rw[Vl.why,auO c,auP (.inr y)]) dc
 have j:¬(Vl.fF o=au∨(o.k=9∧1 < d)):=by
  rintro (h|h)
  ·rw[hu] at h;cases h
  ·exact y h
 rw[oV a 0 rfl];refine uT (Yh o _ w2 (t.in_ a).ov) rfl a λw3 a=>?_;cases C:Vl.fits o with
|false=>
  simp only[rs,awA];exact out 2 w3 _ a (by rw[Vl.why,auO c,auO j,auP C]) dc
|true=>
 have f:¬Vl.fits o=false:=by rw[C];decide
 simp only[rs,avY];refine quiet ?_;refine eZ _ (λ_=>bE agY) ?_;refine kE (ae o.s) (λW u=>aB BZ ((a.grow u).cell 0 rfl 3 rfl)) ?_;refine Yl auV ?_;refine eZ _ (λ_=>bE aoD) ?_;refine kE (ad o.k) (λW u=>aB aW ((a.grow u).cell 0 rfl 0 rfl)) ?_;refine fC _ (λW u=>PQ (V8 o.k W) u) ?_;refine J6 ?_;intro O u;have a:=a.grow u;by_cases D:((Vl.long o.k:Nat):Int) < (o.s.length:Int)
 ·simp only[D,auS,i_t];exact out 5 O _ a (by rw[Vl.why,auO c,auO j,auO f,auP om]) dc
 have l:¬Vl.long o.k < o.s.length:=om
 have lc:∀{W:ao} {L:List Ent},Own w W L->∀{PK:PKT} {K:VWP},DoX ah (mB .len #[23] 3 #[au] #[vc]) W PK K=K (ad (o.kids.length:Int)) W:=λa=>aS avI (t.own a).kids.1;simp only[D,auT,i_f,eW,bW a 0 rfl,lc a,rs];by_cases m:(8191:Int) < (o.kids.length:Int)
 ·simp only[m,auS,i_t];exact out 6 O _ a (by rw[Vl.why,auO c,auO j,auO f,auO l,auP om]) dc
 have g:¬8191 < o.kids.length:=om
 simp only[m,auT,i_f,oV a 0 rfl];refine uT (Xm o _ O (t.in_ a).ov (by have:=ZB (o:=o);omega) (by have:=Sv (o:=o);omega) (λk hk=>by have:=UJ hk;omega)) rfl a λw5 a=>?_;cases E:Vl.form o with
|false=>
  simp only[rs,awA];exact out 3 w5 _ a (by rw[Vl.why,auO c,auO j,auO f,auO l,auO g,auP E]) dc
|true=>
 have F:¬Vl.form o=false:=by rw[E];decide
 have P:Vl.why d o=0:=by rw[Vl.why,auO c,auO j,auO f,auO l,auO g,auO F]
 have Q:Vl.check d o=Vl.nO (d+1) o.kids:=by rw[Vl.HO,auO (by simp[P])]
 rw[Q] at r;simp only[rs,avY,bW a 0 rfl,lc a];refine loop (λvs w'=>∃(i:Nat),vs=[ad i]∧i<=o.kids.length∧Vl.nO (d+1) o.kids=Vl.nO (d+1) (o.kids.drop i)∧Own w w' [obE b o vk vc]) (λvs _=>o.kids.length - n0 vs) ⟨0,rfl,om,rfl,a⟩ ?_;rintro vs w6 ⟨i,rfl,hi,I,a⟩ _;rw[I] at r;simp only[mG,gd,rs,nz];by_cases G:(i:Int) < (o.kids.length:Int)
 ·have x:i < o.kids.length:=om
  simp only[G,auS,i_t];rw[Mi _ _ _ x] at r I;have H:=t.own a;refine ahX H.kids.1 H.all x λv hv=>?_;obtain⟨vk',vc',a1,rfl,p⟩:=hv.open;have R:=a;refine dF a λb7 w7 a=>?_;refine bK 0 p.keys.one p.kids.one a rfl λT a=>?_;have a:Own w T [obE b7 o.kids[i] vk' vc',obE b o vk vc]:=a;rw[oV a 0 rfl,aA om om,show (d:Int)+1=((d+1:Nat):Int) by omega];have a6:=Jf x;refine uT (U o.kids[i] _ (d+1) T om (p.later R a).ov om om) rfl a λw9 a=>?_;simp only[rs];by_cases q:Vl.check (d+1) o.kids[i]=0
  ·simp only[q,ne_eq,not_true,auT,i_f];rw[aA om om];rw[auO (by simp[q])] at I;exact aU ⟨i+1,rfl,om,I,a.tail⟩ (by simp[n0,RowKit.intOf];omega)
  ·simp only[q,ne_eq,axB,auS,i_t];rw[auP q] at r;exact r _ _ ⟨rfl,a.done⟩
 ·simp only[G,auT,i_f];rw[aAS om,Vl.nO] at r;exact r _ _ ⟨rfl,a.done⟩
theorem PY (o:Ob)(v:aq)(w:ao)(h:OV (InW w) w v o)(d:o.wt<=4611686018427387904):Ret ah 49 #[v] w (λv w'=>v=ad (Vl.check 1 o)∧Below w.heap.size w w'):=by
 obtain⟨vk,vc,cs,rfl,c⟩:=h.open;refine aL λK e=>yY ?_;unfold qN nz;refine dD o c.keys.one c.kids.one (Own.start w) λb f a=>?_;rw[oV a 0 rfl];refine uT (Qq o.wt o _ 1 f (auY _) (c.in_ a).ov d om) rfl a λw2 a=>?_;exact e _ _ ⟨rfl,a.done⟩
theorem U7 (l:List Ob)(i:Nat)(hi:i < l.length):Vl.xR (l.take (i+1))=Vl.xR (l.take i)+Vl.size l[i]:=by
 have h:∀(l:List Ob) (o:Ob),Vl.xR (l++[o])=Vl.xR l+Vl.size o:=by
  intro l o
  induction l with
 |nil=>simp[Vl.xR]
 |cons a l b=>rw[ayP,Vl.xR,b,Vl.xR];omega
 rw[avP hi,h]
theorem NL (l:List Ob)(i:Nat):Vl.xR (l.take i)<=Vl.xR l:=by
 induction l generalizing i with
|nil=>simp
|cons a l b=>
  cases i with
 |zero=>simp[Vl.xR]
 |succ i=>rw[aAy,Vl.xR,Vl.xR];have:=b i;omega
theorem XH (n:Nat):∀(o:Ob) (v:aq) (w:ao),o.wt<=n->OV (InW w) w v o->o.wt<=4611686018427387904 ->
  Ret ah 10 #[v] w (λv w'=>v=ad (Vl.size o:Nat)∧Below w.heap.size w w'):=by
 induction n with
|zero=>intro o v w h;have:=o.Mp;omega
|succ n B=>
 intro o v w U p V;obtain⟨vk,vc,cs,rfl,g⟩:=p.open;refine aL λK C=>Bp ?_;unfold rI nz;refine dD o g.keys.one g.kids.one (Own.start w) λb X a=>?_;have D:=ZB (o:=o);have E:=Sv (o:=o);have F:=GH (o:=o);have G:=Vl.ZR o;have j:∀m:Nat,(m:Int).tdiv 50=((m / 50:Nat):Int):=λm=>by rw[aBf om];omega
 have H:∀{W:ao} {L:List Ent},Own w W L->∀{PK:PKT} {K:VWP},DoX ah (mB .len #[22] 3 #[au] #[vk]) W PK K=K (ad (o.keys.length:Int)) W:=λa=>aS avH (g.own a).keys.1;have lc:∀{W:ao} {L:List Ent},Own w W L->∀{PK:PKT} {K:VWP},DoX ah (mB .len #[23] 3 #[au] #[vc]) W PK K=K (ad (o.kids.length:Int)) W:=λa=>aS avI (g.own a).kids.1;rw[yK,I0 a 0 rfl,dE auV,Ej dc,j,aA om om,FL,aA om om,qZ,eP a 0 rfl,H a];have f:∀i,((o.keys.take i).map λk=>k.length / 50).sum<=(o.keys.map λk=>k.length / 50).sum:=by
  intro i
  conv=>rhs;rw[<-azL i o.keys,avT,aAl]
  omega
 have r:=Vl.size_eq o;refine loop (λvs w'=>∃(i:Nat) (m:Int),vs=[ad m,ad i]∧i<=o.keys.length∧m=((1+o.s.length / 50+((o.keys.take i).map λk=>k.length / 50).sum:Nat):Int)∧Own w w' [obE b o vk vc]) (λvs _=>o.keys.length - n1 vs) ⟨0,_,rfl,om,sm,a⟩ ?_;rintro vs w2 ⟨i,m,rfl,hi,rfl,a⟩ _;have I:=f i;simp only[oQ,gd,rs,nz];by_cases d:(i:Int) < (o.keys.length:Int)
 ·have c:i < o.keys.length:=om
  simp only[d,auS,i_t];refine Lt (ae (o.keys[i])) avH krx (g.own a).keys.1 om (by rw[auW];exact eO c) λq J=>?_;have M:=UJ (avD c);have N:=f (i+1);have t:((o.keys.take (i+1)).map λk=>k.length / 50).sum=((o.keys.take i).map λk=>k.length / 50).sum+o.keys[i].length / 50:=by
   rw[avP c,avT,aAl];simp
  rw[aH BZ J,dE auV,Ej dc,j,aA (n:=((o.keys[i].length / 50:Nat):Int)) om om];simp only[rs];rw[aA om om,aA om om];exact aU ⟨i+1,_,rfl,om,by rw[t];omega,a⟩ (by simp[n1,RowKit.intOf];omega)
 simp only[d,auT,i_f,eW,bW a 0 rfl,lc a];have u:i=o.keys.length:=om
 subst u;rw[awI];refine loop (λvs w'=>∃(i:Nat) (m:Int),vs=[ad m,ad i]∧i<=o.kids.length∧m=((1+o.s.length / 50+(o.keys.map λk=>k.length / 50).sum+Vl.xR (o.kids.take i):Nat):Int)∧Own w w' [obE b o vk vc]) (λvs _=>o.kids.length - n1 vs) ⟨0,_,rfl,om,by simp[Vl.xR],a⟩ ?_;rintro vs w3 ⟨i,m,rfl,O,rfl,a⟩ _;simp only[nV,gd,rs,nz];have P:=NL o.kids i;by_cases d:(i:Int) < (o.kids.length:Int)
 ·have c:i < o.kids.length:=om
  simp only[d,auS,i_t];have l:=g.own a;refine ahX l.kids.1 l.all c λv Q=>?_;obtain⟨vk',vc',R,rfl,e⟩:=Q.open;have x:=a;refine dF a λS Y a=>?_;refine bK 0 e.keys.one e.kids.one a rfl λz a=>?_;have a:Own w z [obE S o.kids[i] vk' vc',obE b o vk vc]:=a;rw[oV a 0 rfl];have T:=Jf c;refine uT (B o.kids[i] _ z om (e.later x a).ov om) rfl a λZ a=>?_;have y:=U7 o.kids i c;have A:=NL o.kids (i+1);simp only[rs];rw[aA om om,aA om om];exact aU ⟨i+1,_,rfl,om,by rw[y];omega,a.tail⟩ (by simp[n1,RowKit.intOf];omega)
 ·simp only[d,auT,i_f];rw[avX om];refine C _ _ ⟨?_,a.done⟩;rw[r]
end
section
open Eng
def pY(t0 t1 t2 w)(K:KT):=nz f137 1 [] [] [] (zg [0,1,2] [t0,t1,t2]) w K
theorem Au:pY t0 t1 t2 w k0->Calls ah 137 #[t0,t1,t2] w k0:=cw func137
def vK(t0 t1 t2 w)(K:KT):=nz f138 1 [] [] [] (zg [0,1,2] [t0,t1,t2]) w K
theorem DE:vK t0 t1 t2 w k0->Calls ah 138 #[t0,t1,t2] w k0:=cw func138
def Lz(t0 w)(K:KT):=nz f99 1 [] [] [] (zg [0] [t0]) w K
theorem Nr:Lz t0 w k0->Calls ah 99 #[t0] w k0:=cw func99
def AR(t1 t13 t14 t15 w)(a:JT)(K:KT):=nz f100 43 [a] [nh 9 [15]] [] (zg [1,13,14,15] [t1,t13,t14,t15]) w K
def E7(t0 w)(K:KT):=nz f100 1 [] [(9,[15],λs v j w f=>AR (s 1) (s 13) (s 14) (vg v 0) w (f 0) K)] [] (zg [0] [t0]) w K
theorem Io:E7 t0 w k0->Calls ah 100 #[t0] w k0:=cz [] [(4,[15])] func100
def Jg(t0 w)(K:KT):=nz f97 1 [] [] [] (zg [0] [t0]) w K
theorem K9:Jg t0 w k0->Calls ah 97 #[t0] w k0:=cw func97
def HC(t0 w)(K:KT):=nz f98 1 [] [] [] (zg [0] [t0]) w K
theorem Kv:HC t0 w k0->Calls ah 98 #[t0] w k0:=cw func98
def vY(t2 t4 t13 w)(K:KT):=nz f96 509 [] [] [] (zg [2,4,13] [t2,t4,t13]) w K
def wB(t2 t4 t8 w)(K:KT):=nz f96 125 [] [(20,[13],λs v j w f=>vY (s 2) (s 4) (vg v 0) w K)] [] (zg [2,4,8] [t2,t4,t8]) w K
def Ju(t0 w)(K:KT):=nz f96 1 [] [(14,[8],λs v j w f=>wB (s 2) (s 4) (vg v 0) w K)] [] (zg [0] [t0]) w K
theorem KS:Ju t0 w k0->Calls ah 96 #[t0] w k0:=cz [(7,[8]),(10,[13])] [] func96
def Ji(t0 t1 w)(K:KT):=nz f95 1 [] [] [] (zg [0,1] [t0,t1]) w K
theorem Mj:Ji t0 t1 w k0->Calls ah 95 #[t0,t1] w k0:=cw func95
def rH(t1 t105 t106 t107 w)(a:JT)(K:KT):=nz f59 1535 [a] [nh 19 [107]] [] (zg [1,105,106,107] [t1,t105,t106,t107]) w K
def GA(t0 t1 w)(K:KT):=nz f59 1 [] [(19,[107],λs v j w f=>rH (s 1) (s 105) (s 106) (vg v 0) w (f 0) K)] [] (zg [0,1] [t0,t1]) w K
theorem JP:GA t0 t1 w k0->Calls ah 59 #[t0,t1] w k0:=cz [] [(9,[107])] func59
def DC(t0 w)(K:KT):=nz f58 1 [] [] [] (zg [0] [t0]) w K
theorem G7:DC t0 w k0->Calls ah 58 #[t0] w k0:=cw func58
def iZ(c r w)(K:KT):=
 eqx .eql 20 (.tmp 4) (.const .nilIface) r .nilIface w K λd w=>IfX d (K (.returned (.tuple #[])) w) (dx (mTA r 20 135 av) w K λa w=>exx a 1 w K λe w=>exx a 0 w K λf w=>IfX e (alx 135 w K λb w=>stx 135 b f w K λ_ w=>fax 135 b 0 w K λg w=>ldx 35 g w K λh w=>stx 35 c h w K λ_ w=>K (.returned (.tuple #[])) w) (dx (G3 r) w K λ_ w=>K (.returned (.tuple #[])) w))
theorem Fz (t0 r:aq)(w:ao)(K:Ending->ao->Prop):wpX ah 12 [] [] aw (Yj (wG f94)) (topD ah [] K) (upd (jX [t0]) 4 r) [] w=iZ t0 r w K:=krx
theorem pN {R:Ending->FrameMode->ao->Prop}(h:iZ t0 (zw u) w (λe w=>R e (Al u) w)):CallsD ah 94 #[t0] u w R:=
 wD func94 rfl rfl rfl rfl rfl rfl rfl rfl (Eq.mpr (Fz t0 (zw u) w _) h)
def mY (a:Deferred)(b:aq)(K:Ending->ao->Prop):=pd ah [.cell b 35] K [a]
def Fk(b w)(K:KT):=
 alx 35 w K λa w=>dx (Q7 (.func 94) #[] #[a]) w K λc w=>DfrX (dfrV c #[]) (λd1=>DoX ah (fV b #[]) w (mY d1 a K) λd w=>DoX ah (aV 35 a (iN 0)) w (mY d1 a K) λ_ w=>Et ah [.cell a 35] K [d1] .returning w)
theorem Ie:Fk t0 w k0->Calls ah 57 #[t0] w k0:=cw func57
def Hh(t0 w)(K:KT):=nz f32 1 [] [] [] (zg [0] [t0]) w K
theorem JZ:Hh t0 w k0->Calls ah 32 #[t0] w k0:=cw func32
end
section
open Eng Go.RowKit
 attribute [local congr] An
theorem vF (n a b:Int)(w:ao):Ret ah 137 #[ad n,ad a,ad b] w (λv w'=>v=.bool (ai (a<=n)&&ai (n<=b))∧w=w'):=by
 refine aL λK c=>Au ?_;unfold pY nz;simp +contextual only[rs,gs];exact c _ _ ⟨rfl,rfl⟩
theorem S8 (n a b:Int)(w:ao):Ret ah 138 #[ad n,ad a,ad b] w (λv w'=>v=.bool (ai (a<=n)&&ai (n<=b))∧w=w'):=by
 refine aL λK c=>DE ?_;unfold vK nz;simp +contextual only[rs,gs];exact c _ _ ⟨rfl,rfl⟩
theorem Xx {p:UInt8->Bool}:∀(s:List UInt8),s.takeWhile p=s->∀x∈s,p x=av
|[],_,x,b=>by cases b
|a::s,h,x,b=>by
  rw[aAz] at h;split at h
  ·rename_i c
   injection h with _ h
   rcases avB.1 b with rfl|b
   ·exact c
   ·exact Xx s h x b
  ·cases h
theorem Zg {p:UInt8->Bool}:∀(s:List UInt8) {a:UInt8} {t:List UInt8},s.dropWhile p=a::t->p a=au
|[],_,_,h=>by cases h
|b::s,a,t,h=>by
  rw[List.dropWhile_cons] at h;split at h
  ·exact Zg s h
  ·rename_i c
   injection h with h _
   subst h;simpa using c
theorem Ue (s:List UInt8)(w:ao):Ret ah 99 #[ae s] w (λv w'=>v=.bool (Vl.name s)∧w=w'):=by
 refine aL λK c=>Nr ?_;unfold Lz nz;rw[dE auV,abB];by_cases h:(s.length:Int)<=127
 ·have hi:∀{K':VWP},K' (ad (Lib.indexByte s 0)) w->eN ah 139 #[ae s,.int .u8 0] w (pk K) K':=λd=>zq (G1 s 0 w) d;simp only[h,auS,rs];refine hi ?_;simp only[rs];refine c _ _ ⟨?_,rfl⟩;rw[Vl.name,auR (show s.length<=127 by omega),azI]
  congr 1
  rw[decide_eq_decide];rcases UB 0 s with ⟨b,e,f⟩|⟨i,b,a,f,g⟩
  ·rw[b];refine⟨λ_ hm=>?_,λ_=>by decide⟩;have:=Xx s e 0 hm;simp at this
  ·rw[b];refine⟨λh=>by omega,λhm=>absurd ?_ hm⟩;have j:s.drop i=s[i]::s.drop (i+1):=avW a;have k:s[i]=0:=by
    have:=Zg s (g.trans j);simpa using this
   exact k▸avD a
 ·simp only[h,auT,rs,iO];refine c _ _ ⟨?_,rfl⟩;rw[Vl.name,auQ (show ¬s.length<=127 by omega)];rfl
theorem Ta (o:Ob)(v:aq)(w:ao)(h:OV (InW w) w v o)(S:o.keys.length<=9223372036854775807) :
  Ret ah 100 #[v] w (λv w'=>v=.bool (Vl.rising o)∧Below w.heap.size w w'):=by
 obtain⟨vk,vc,cs,rfl,s⟩:=h.open;refine aL λK C=>Io ?_;unfold E7 nz;refine dD o s.keys.one s.kids.one (Own.start w) λb T f=>?_;have P:∀{W:ao} {L:List Ent},Own w W L->∀{PK:PKT} {K:VWP},DoX ah (mB .len #[22] 3 #[au] #[vk]) W PK K=K (ad (o.keys.length:Int)) W:=λf=>aS avH (s.own f).keys.1;have lc:∀{W:ao} {L:List Ent},Own w W L->∀{PK:PKT} {K:VWP},DoX ah (mB .len #[23] 3 #[au] #[vc]) W PK K=K (ad (o.kids.length:Int)) W:=λf=>aS avI (s.own f).kids.1;simp only[rs,qZ,eW,eP f 0 rfl,bW f 0 rfl,P f,lc f];by_cases hlen:(o.keys.length:Int)≠(o.kids.length:Int)
 ·simp only[auR hlen,i_t];refine C _ _ ⟨?_,f.done⟩;have:¬o.keys.length=o.kids.length:=λe=>hlen (by rw[e]);simp[Vl.rising,this]
 have hle:o.keys.length=o.kids.length:=om
 simp only[auQ hlen,i_f];have Q:Vl.rising o=(List.range o.keys.length).all (Vl.Bn o):=by simp[Vl.rising,hle]
 rw[Q] at C;refine loop (λvs w'=>∃(i:Nat),vs=[ad i]∧i<=o.keys.length∧(List.range i).all (Vl.Bn o)=av∧Own w w' [obE b o vk vc]) (λvs _=>o.keys.length - n0 vs) ⟨0,rfl,om,sm,f⟩ ?_;rintro vs w2 ⟨i,rfl,hi,j,f⟩ _;simp only[AR,gd,rs,nz];by_cases t:(i:Int) < (o.keys.length:Int)
 ·have n:i < o.keys.length:=om
  simp only[t,auS,i_t];have l:=s.own f;refine Lt (ae (o.keys[i])) avH krx l.keys.1 om (by rw[auW];exact eO n) λq r=>?_;rw[aH BZ r];refine zq (Ue o.keys[i] w2) ?_;obtain⟨kb,u,x,E⟩:=QJ l.kids.1 l.all (show i < o.kids.length by omega);have y:∀{PK:PKT} {K:VWP},DoX ah (aG 3 (af kb u)) w2 PK K=K (ad o.kids[i].k) w2:=aH aW E;have p:ai (0 < (i:Int))=av->∃(z g:Nat),(∀{PK:PKT} {K:VWP},DoX ah (mIA 22 vk (ad (IntKind.wrap .i64 ((i:Int) - 1)))) w2 PK K=K (af z g) w2) ∧
    (∀{PK:PKT} {K:VWP},DoX ah (aG 9 (af z g)) w2 PK K=K (ae (o.keys.getD (i - 1) [])) w2):=by
   intro h;have h:=avG h;have M:i - 1 < o.keys.length:=om
   obtain⟨z,g,O,rfl,F⟩:=bQ l.keys.1 (show 0 < o.keys.length by omega);refine⟨z,g+(i - 1),?_,?_⟩
   ·intro PK K;rw[aA om om];refine aC ?_;rw[cR avH (show _=ax 1 by kernel_rfl) om om,show ((i:Int) - 1).toNat*1=i - 1 by omega]
   ·intro PK K;rw[auZ,auX M];exact aH BZ (F _ _ (eO M))
  have G:o.keys.getD i []=o.keys[i]:=by rw[auZ,auX n];rfl
  have H:o.kids.getD i (.mk 0 0 0 [] [] [])=o.kids[i]'(om):=by rw[auZ,auX om];rfl
  have tail:∀(q:Bool) (N:Prop),q=!(Vl.Bn o i)->(Vl.Bn o i=av->N)->IfX (.bool q) (K (.returned (.bool au)) w2) N:=by
   intro q N r R;cases m:Vl.Bn o i with
  |false=>
    rw[m] at r;subst r;rw[show (!au)=av from rfl,i_t];exact C _ _ ⟨by rw[Gc m n],f.done⟩
  |true=>
    rw[m] at r;subst r;rw[show (!av)=au from rfl,i_f];exact R m
  have A:Vl.Bn o i=(Vl.name o.keys[i]&&(ai (i=0)||Vl.less (o.keys.getD (i - 1) []) o.keys[i])&&!(ai (o.k=9)&&ai (o.keys[i]=Vl.Ax))&&ai ((o.kids[i]'(om)).k≠0)):=by
   rw[Vl.Bn,G,H]
  by_cases B:i=0
  ·have D:ai (0 < (i:Int))=false:=by rw[awP];omega
   simp +contextual only[rs,gs,D,LW,Zm,GD,aAk,aAC,azX,cO,eW,zn f 0 rfl,bW f 0 rfl,x,y,iO,p_f];refine tail _ _ ?_ λm=>?_
   ·rw[A,auR B];simp only[Bool.true_or,aAR,Vl.Ax,ne_eq,decide_not];generalize Vl.name o.keys[i]=a;generalize ai (o.k=9)=c;generalize ai ((o.kids[i]'(om)).k=0)=d;by_cases hL:o.keys[i]=[76,101,110,103,116,104]<;>simp only[hL,auS,auT]<;>cases a<;>cases c<;>cases d<;>rfl
   ·rw[aA om om];exact aU ⟨i+1,rfl,om,by rw[nF,j,m];rfl,f⟩ (by simp[n0,RowKit.intOf];omega)
  ·have D:ai (0 < (i:Int))=true:=by rw[decide_eq_true_iff];omega
   obtain⟨z,g,I,J⟩:=p D;simp +contextual only[rs,gs,D,LW,Zm,GD,aAk,aAC,azX,cO,qZ,eW,zn f 0 rfl,eP f 0 rfl,bW f 0 rfl,x,y,I,J,iO];refine tail _ _ ?_ λm=>?_
   ·rw[A,auQ B];simp only[aAe,Vl.Ax,ne_eq,decide_not];generalize Vl.name o.keys[i]=a;generalize ai (o.k=9)=c;generalize ai ((o.kids[i]'(om)).k=0)=d;show _=!(_&&Op.bytesLess (o.keys.getD (i - 1) []) o.keys[i]&&_&&_);generalize Op.bytesLess (o.keys.getD (i - 1) []) o.keys[i]=e;by_cases hL:o.keys[i]=[76,101,110,103,116,104]<;>simp only[hL,auS,auT]<;>cases a<;>cases c<;>cases d<;>cases e<;>rfl
   ·rw[aA om om];exact aU ⟨i+1,rfl,om,by rw[nF,j,m];rfl,f⟩ (by simp[n0,RowKit.intOf];omega)
 ·simp only[t,auT,i_f];refine C _ _ ⟨?_,f.done⟩;rw[show o.keys.length=i by omega,j]
theorem YD (o:Ob)(v:aq)(w:ao)(h:OV (InW w) w v o):Ret ah 97 #[v] w (λv w'=>v=.bool (Vl.fits o)∧Below w.heap.size w w'):=by
 obtain⟨vk,vc,cs,rfl,l⟩:=h.open;refine aL λK c=>K9 ?_;unfold Jg nz;refine dD o l.keys.one l.kids.one (Own.start w) λb f a=>?_;simp only[cO,zn a 0 rfl,rs];by_cases d:o.k=1
 ·simp only[d,auS,i_t,oA,Dr a 0 rfl];refine zq (vF _ _ _ f) (c _ _ ⟨?_,a.done⟩);rw[Vl.fits,auP d,azD]
 by_cases e:o.k=2
 ·simp only[e,Int.reduceEq,auS,auT,i_t,i_f,oA,Dr a 0 rfl];refine zq (vF _ _ _ f) (c _ _ ⟨?_,a.done⟩);rw[Vl.fits,auO d,auP e,azD]
 by_cases i:o.k=3
 ·simp only[i,Int.reduceEq,auS,auT,i_t,i_f,oA,Dr a 0 rfl];refine zq (vF _ _ _ f) (c _ _ ⟨?_,a.done⟩);rw[Vl.fits,auO d,auO e,auP i,azD]
 by_cases j:o.k=8
 ·simp only[j,Int.reduceEq,auS,auT,i_t,i_f,oA,Dr a 0 rfl];refine zq (vF _ _ _ f) ?_;have p:Vl.fits o=(ai (1<=o.n)&&ai (o.n<=8191)&&(ai (0<=o.g)&&ai (o.g<=65535))):=by
   rw[Vl.fits,auO d,auO e,auO i,auP j,azD,azD]
  rw[p] at c;cases m:(ai (1<=o.n)&&ai (o.n<=8191)) with
 |false=>
   rw[m] at c;rw[g_ft,g_ft,g_ft,p_f];exact c _ _ ⟨rfl,a.done⟩
 |true=>
   rw[m] at c;rw[No,Yv,No,ob_g a 0 rfl,No];refine zq (S8 _ _ _ f) ?_;rw[p_t];exact c _ _ ⟨rfl,a.done⟩
 simp only[d,e,i,j,auT,i_f];refine c _ _ ⟨?_,a.done⟩;rw[Vl.fits,auO d,auO e,auO i,auO j]
def ND (o:Ob):Bool:=if o.k=4 then ai (o.s.length<=32767) else if o.k=5 then ai (o.s.length<=127) else ai (o.s.length<=1048576)
theorem VC (o:Ob)(v:aq)(w:ao)(h:OV (InW w) w v o):Ret ah 98 #[v] w (λv w'=>v=.bool (ND o)∧Below w.heap.size w w'):=by
 obtain⟨vk,vc,cs,rfl,f⟩:=h.open;refine aL λK e=>Kv ?_;unfold HC nz;refine dD o f.keys.one f.kids.one (Own.start w) λb g a=>?_;simp only[cO,zn a 0 rfl,rs];have hi:∀m:Nat,ai ((o.s.length:Int)<=(m:Int))=ai (o.s.length<=m):=λm=>by rw[decide_eq_decide];omega
 by_cases c:o.k=4
 ·simp only[c,auS,i_t,yK,I0 a 0 rfl,dE auV,rs];refine e _ _ ⟨?_,a.done⟩;rw[ND,auP c,<-hi];rfl
 by_cases d:o.k=5
 ·simp only[d,Int.reduceEq,auS,auT,i_t,i_f,yK,I0 a 0 rfl,dE auV,rs];refine e _ _ ⟨?_,a.done⟩;rw[ND,auO c,auP d,<-hi];rfl
 simp only[c,d,auT,i_f,yK,I0 a 0 rfl,dE auV,rs];refine e _ _ ⟨?_,a.done⟩;rw[ND,auO c,auO d,<-hi];rfl
theorem V1 (h:Vl.fF o=av):ND o=!ai (Vl.long o.k < o.s.length):=by
 have key:∀m:Nat,ai (o.s.length<=m)=!ai (m < o.s.length):=λm=>by
  rw[aAB];simp
 unfold ND Vl.long;by_cases b:o.k=4
 ·rw[auP b,auO om,auO om,key]
 by_cases a:o.k=5
 ·rw[auO b,auP a,auP a,key]
 by_cases e:o.k=9
 ·rw[auO b,auO a,auO a,auP e,key]
 have f:o.s=[]:=by
  unfold Vl.fF Vl.used at h
  revert h
  split
  ·intro h;cases h
  ·rename_i n g s i cs he
   intro h;simp only[avM,axQ,awG] at h;have d:s=false:=by
    revert he
    repeat' split
    all_goals (intro he;first|(cases he;done)|skip)
    all_goals (simp only[azB,azA] at he;first|exact he.2.2.1.symm|omega)
   rcases h.1.1.2 with c|c
   ·rw[d] at c;cases c
   ·exact c
 rw[auO b,auO a,auO a,auO e,f];rfl
end
section
open Eng Go.RowKit
 attribute [local congr] An
def uC (u:Bool×Bool×Bool×Bool×Bool):List Value:=[.bool u.1,.bool u.2.1,.bool u.2.2.1,.bool u.2.2.2.1,.bool u.2.2.2.2]
def uV (u:Bool×Bool×Bool×Bool×Bool):Value:=.agg (uC u).toArray
def uE (b:Nat)(u:Bool×Bool×Bool×Bool×Bool):Ent:=.cells b (uC u) 137
def u0:Bool×Bool×Bool×Bool×Bool:=(au,au,au,au,au)
theorem aggU:By ah 137=ax 5:=krx
theorem szU:(Tryz.prog.info? 137).map (·.size)=ax 5:=krx
theorem apV (u:Bool×Bool×Bool×Bool×Bool):∀v∈uC u,v.oneCell'=true:=by
 intro v a;simp only[uC,avB,awS,or_false] at a;rcases a with rfl|rfl|rfl|rfl|rfl<;>rfl
theorem Yd:dP ah 4=true:=krx
section
variable {w:ao}{PK:PKT}{K:VWP}{S:Nat->Prop}{w0:ao}{L:List Ent}
theorem arO :DoX ah (mFA 137 (af b 0) 0) w PK K=K (af b 0) w:=aQ (show uM ah 137 0=ax 0 by kernel_rfl)
theorem arX :DoX ah (mFA 137 (af b 0) 1) w PK K=K (af b (0+1)) w:=aQ (show uM ah 137 1=ax 1 by kernel_rfl)
theorem aqL :DoX ah (mFA 137 (af b 0) 2) w PK K=K (af b (0+2)) w:=aQ (show uM ah 137 2=ax 2 by kernel_rfl)
theorem asZ :DoX ah (mFA 137 (af b 0) 3) w PK K=K (af b (0+3)) w:=aQ (show uM ah 137 3=ax 3 by kernel_rfl)
theorem auK :DoX ah (mFA 137 (af b 0) 4) w PK K=K (af b (0+4)) w:=aQ (show uM ah 137 4=ax 4 by kernel_rfl)
theorem akT (i:Nat){u:Bool×Bool×Bool×Bool×Bool}(a:Bool×Bool×Bool×Bool×Bool)(c:dQ S w0 w L)(hi:L[i]?=ax (uE b u))(k:∀w',dQ S w0 w' (L.set i (uE b a))->K undef w') :
  DoX ah (aV 137 (af b 0) (uV a)) w PK K:=gF i c hi (new:=uC a) szU (apV a) rfl k
end
def agW (k:Int):Value:=.tuple #[uV ((Vl.used k).getD u0),.bool (Vl.used k).isSome]
theorem ZD (k:Int)(w:ao):Ret ah 96 #[ad k] w (λv w'=>v=agW k∧Below w.heap.size w w'):=by
 refine aL λK s=>KS ?_;unfold Ju nz;refine bB (λb=>af b 0) (uC u0) 137 (λ_=>by kernel_rfl) (Own.start w) λb a f=>?_;have fin:∀(u:Bool×Bool×Bool×Bool×Bool) (ok:Bool),Vl.used k=(if ok then ax u else aw)->(ok=au->u=u0)->DoX ah (aV 137 (af b 0) (uV u)) a (pk K) λ_ w=>
   zu ah [.cell (af b 0) 137,.val (.bool ok)] w K:=by
  intro u ok hu t;refine akT 0 u f rfl λw2 f=>?_;refine mP (bG (f.agg 0 rfl aggU)) pV (s _ _ ⟨?_,f.done⟩);rw[agW,hu];cases ok with
 |true=>rfl
 |false=>rw[t rfl];rfl
 have r:∀{PK:PKT} {K:VWP},DoX ah (aN 137 #[]) a PK K=K (uV u0) a:=aC krx;have x:∀{PK:PKT} {K:VWP},DoX ah (aN 137 #[(0,.bool av)]) a PK K=K (uV (av,au,au,au,au)) a:=aC krx;have b2:∀{PK:PKT} {K:VWP},DoX ah (aN 137 #[(2,.bool av)]) a PK K=K (uV (au,au,av,au,au)) a:=aC krx;have b3:∀{PK:PKT} {K:VWP},DoX ah (aN 137 #[(4,.bool av)]) a PK K=K (uV (au,au,au,au,av)) a:=aC krx;have y:∀{PK:PKT} {K:VWP},DoX ah (aN 137 #[(3,.bool av),(4,.bool av)]) a PK K=K (uV (au,au,au,av,av)) a:=aC krx;have z:∀{PK:PKT} {K:VWP},DoX ah (aN 137 #[(0,.bool av),(1,.bool av)]) a PK K=K (uV (av,av,au,au,au)) a:=aC krx;have A:∀{PK:PKT} {K:VWP},DoX ah (aN 137 #[(2,.bool av),(3,.bool av),(4,.bool av)]) a PK K=K (uV (au,au,av,av,av)) a:=aC krx;simp only[rs];by_cases k0:k=0
 ·simp only[k0,auS,i_t,r];exact fin _ av (by simp[Vl.used,k0,u0]) sm
 simp only[k0,auT,i_f];refine join λJ e=>?_;by_cases c:k=1∨k=2∨k=3
 ·have:J [.bool av] a:=by
   refine e _ _ λ_=>?_;simp only[wB,gd,i_t,x,nz];exact fin _ av (by simp[Vl.used,k0,c]) sm
  by_cases g:k=1
  ·simp only[g,auS,i_t];exact this
  by_cases i:k=2
  ·simp only[i,Int.reduceEq,auS,auT,i_t,i_f];exact this
  have j:k=3:=om
  simp only[j,Int.reduceEq,auS,auT,i_t,i_f];exact this
 have g:¬k=1:=λh=>c (.inl h);have i:¬k=2:=λh=>c (.inr (.inl h));have j:¬k=3:=λh=>c (.inr (.inr h));simp only[g,i,j,auT,i_f];refine e _ _ λ_=>?_;clear e;simp only[wB,gd,i_f,rs,nz];refine join λJ e=>?_;by_cases d:k=4∨k=5
 ·have:J [.bool av] a:=by
   refine e _ _ λ_=>?_;simp only[vY,gd,i_t,b2,nz];exact fin _ av (by simp[Vl.used,k0,g,i,j,d]) sm
  by_cases p:k=4
  ·simp only[p,auS,i_t];exact this
  have q:k=5:=om
  simp only[q,Int.reduceEq,auS,auT,i_t,i_f];exact this
 have p:¬k=4:=λh=>d (.inl h);have q:¬k=5:=λh=>d (.inr h);simp only[p,q,auT,i_f];refine e _ _ λ_=>?_;clear e;simp only[vY,gd,i_f,rs,nz];by_cases l:k=6
 ·simp only[l,auS,i_t,b3];exact fin _ av (by simp[Vl.used,l]) sm
 by_cases m:k=7
 ·simp only[m,Int.reduceEq,auS,auT,i_t,i_f,y];exact fin _ av (by simp[Vl.used,m]) sm
 by_cases n:k=8
 ·simp only[n,Int.reduceEq,auS,auT,i_t,i_f,z];exact fin _ av (by simp[Vl.used,n]) sm
 by_cases o:k=9
 ·simp only[o,Int.reduceEq,auS,auT,i_t,i_f,A];exact fin _ av (by simp[Vl.used,o]) sm
 simp only[l,m,n,o,auT,i_f,r];exact fin _ au (by simp[Vl.used,k0,c,d,l,m,n,o]) sm
theorem WL {k:Int}{n g s a cs:Bool}(h:Vl.used k=ax (n,g,s,a,cs)):a=ai (k=7∨k=9):=by
 revert h
 unfold Vl.used
 repeat' split
 all_goals (intro h;first|(cases h;done)|skip)
 all_goals simp only[azB,azA] at h
 all_goals rw[<-h.2.2.2.1]
 all_goals symm
 all_goals first|(rw[awP];omega)|(rw[decide_eq_true_iff];omega)
abbrev badE (e:Int):PanicEntry:={ v:=.iface 135 (.agg #[ad e]),recovered:=au }
theorem Fi {r:Bool}{e:Int}(h:q=r)(b:r=av->K (.tuple #[]) w)(a:r=au->PK [badE e] w):eN ah 95 #[.bool q,ad e] w PK K:=by
 subst h;refine eR (Mj (k0:=λe' w'=>(q=av->e'=.returned (.tuple #[])∧w'=w)∧(q=au->e'=.panicked [badE e]∧w'=w)) ?_) ?_
 ·unfold Ji nz;cases q with
 |true=>
   rw[Nl,show (!av)=au from rfl,i_f];exact⟨λ_=>⟨rfl,rfl⟩,λh=>by cases h⟩
 |false=>
   rw[Nl,show (!au)=av from rfl,i_t];have c:∀{PK:PKT} {K:VWP},DoX ah (aN 135 #[(0,ad e)]) w PK K=K (.agg #[ad e]) w:=aC krx;rw[c,KP (show jZ ah 135=av by kernel_rfl),Ib];exact⟨λh=>(by cases h),λ_=>⟨rfl,rfl⟩⟩
 ·rintro e' w' ⟨d,f⟩;cases q with
 |true=>obtain⟨rfl,rfl⟩:=d rfl;exact b rfl
 |false=>obtain⟨rfl,rfl⟩:=f rfl;exact a rfl
end
section
open Eng Go.RowKit
 attribute [local congr] An
theorem VJ (n:Nat):∀(o:Ob) (v:aq) (d:Nat) (w:ao) (K:Ending->ao->Prop),o.wt<=n->OV (InW w) w v o->o.wt<=4611686018427387904->1<=d->d<=1000 ->
  (Vl.check d o=0->∀w',Below w.heap.size w w'->K (.returned (.tuple #[])) w')->(Vl.check d o≠0->∀w',Below w.heap.size w w'->K (.panicked [badE (Vl.check d o)]) w') ->
  Calls ah 59 #[v,ad (d:Int)] w K:=by
 induction n with
|zero=>intro o v d w K h;have:=o.Mp;omega
|succ n ih=>
 intro o v d w K hn a1 hb b3 hd t c;obtain⟨vk,vc,cs,rfl,F⟩:=a1.open;refine JP ?_;unfold GA nz;refine dD o F.keys.one F.kids.one (Own.start w) λb w1 a=>?_;have out:∀(e:Int) (W:ao) (L:List Ent),Own w W L->Vl.why d o=e->e≠0->(pk K) [badE e] W:=by
  intro e W L a h1 h2;have h3:Vl.check d o=e:=by rw[YU (by rw[h1];exact h2),h1]
  rw[h3] at c;exact c h2 W a.done
 rw[abB];refine Fi (r:=ai (d<=24)) (by rw[decide_eq_decide];omega) (λH=>?_) λH=>out 7 w1 _ a (by rw[Vl.why,auP (by have:=avU H;omega)]) dc;have f:¬24 < d:=by have:=avG H;omega
 rw[cO,zn a 0 rfl];refine uT (ZD o.k w1) rfl a λw2 a=>?_;simp only[agW,ex];refine bB (λb=>af b 0) (uC u0) 137 (λ_=>by kernel_rfl) a λC w3 a=>?_;refine akT 0 ((Vl.used o.k).getD u0) a rfl λq a=>?_;have a:Own w q [uE C ((Vl.used o.k).getD u0),obE b o vk vc]:=a;have x:(Vl.fF o=au∨(o.k=9∧1 < d))->(pk K) [badE 10] q:=λh=>out 10 q _ a (by rw[Vl.why,auO f,auP h]) dc;have lk:∀{W:ao} {L:List Ent},Own w W L->∀{PK:PKT} {K:VWP},DoX ah (mB .len #[22] 3 #[au] #[vk]) W PK K=K (ad (o.keys.length:Int)) W:=λa=>aS avH (F.own a).keys.1;have lc:∀{W:ao} {L:List Ent},Own w W L->∀{PK:PKT} {K:VWP},DoX ah (mB .len #[23] 3 #[au] #[vc]) W PK K=K (ad (o.kids.length:Int)) W:=λa=>aS avI (F.own a).kids.1;cases hu:Vl.used o.k with
|none=>
  have R:=x (.inl (by rw[Vl.fF,hu]));simp only[awT,rs,iO];exact Fi (r:=au) rfl (λh=>by cases h) λ_=>R
|some u=>
 obtain⟨un,Q,us,j,p⟩:=u;rw[hu,awN] at a;have a6:Vl.fF o=((un||decide (o.n=0))&&(Q||decide (o.g=0))&&(us||decide (o.s=[]))&&(j||decide (o.keys=[]))&&(p||decide (o.kids.length=0))):=by rw[Vl.fF,hu]
 have l0:∀{PK:PKT} {K:VWP},DoX ah (aG 4 (af C 0)) q PK K=K (.bool un) q:=aH Yd (a.cell 0 rfl 0 rfl);have l1:∀{PK:PKT} {K:VWP},DoX ah (aG 4 (af C (0+1))) q PK K=K (.bool Q) q:=aH Yd (a.cell 0 rfl 1 rfl);have l2:∀{PK:PKT} {K:VWP},DoX ah (aG 4 (af C (0+2))) q PK K=K (.bool us) q:=aH Yd (a.cell 0 rfl 2 rfl);have l3:∀{W:ao} {L:List Ent},Own w W (uE C (un,Q,us,j,p)::L)->∀{PK:PKT} {K:VWP},DoX ah (aG 4 (af C (0+3))) W PK K=K (.bool j) W:=λa=>aH Yd (a.cell 0 rfl 3 rfl);have l4:∀{PK:PKT} {K:VWP},DoX ah (aG 4 (af C (0+4))) q PK K=K (.bool p) q:=aH Yd (a.cell 0 rfl 4 rfl);simp +contextual only[awU,rs,gs,LW,Zm,GD,aAk,aAC,azX,arO,arX,aqL,asZ,auK,l0,l1,l2,l3 a,l4,cO,oA,Yv,yK,qZ,eW,zn a 1 rfl,Dr a 1 rfl,ob_g a 1 rfl,I0 a 1 rfl,eP a 1 rfl,bW a 1 rfl,lk a,lc a,Vd];refine Fi (r:=Vl.fF o&&!(ai (o.k=9)&&ai (1 < d))) ?_ (λS=>?_) λS=>?_
 ·rw[a6,aiU o.keys,amB o.kids]
  congr 1
  by_cases h9:o.k=9
  ·simp only[h9,ne_eq,not_true,auT,azX,auS,azI];rw[aAB];simp;omega
  ·simp only[h9,ne_eq,axB,auS,Bool.or_true,auT,aAm,awA]
 rotate_left
 ·refine x ?_;rw[ayW] at S;rcases S with h|h
  ·exact .inl h
  ·right;have:(ai (o.k=9)&&ai (1 < d))=true:=by simpa using h
   rw[avM] at this;exact⟨avG this.1,avG this.2⟩
 rw[avM] at S;obtain⟨T,U⟩:=S;have y:¬(Vl.fF o=au∨(o.k=9∧1 < d)):=by
  rintro (h|⟨h1,h2⟩)
  ·rw[T] at h;cases h
  ·rw[auR h1,auR h2] at U;cases U
 rw[oV a 1 rfl];refine uT (YD o _ q (F.in_ a).ov) rfl a λw5 a=>?_;refine Fi (r:=Vl.fits o) rfl (λI=>?_) λI=>out 2 w5 _ a (by rw[Vl.why,auO f,auO y,auP I]) dc;have m:¬Vl.fits o=false:=by rw[I];decide
 rw[oV a 1 rfl];refine uT (VC o _ w5 (F.in_ a).ov) rfl a λD a=>?_;refine Fi (r:=!ai (Vl.long o.k < o.s.length)) (V1 T) (λJ=>?_) λJ=>out 5 D _ a (by rw[Vl.why,auO f,auO y,auO m,auP (by simpa using J)]) dc;have z:¬Vl.long o.k < o.s.length:=by simpa using J
 rw[bW a 1 rfl,lc a,abB];refine Fi (r:=ai (o.kids.length<=8191)) (by rw[decide_eq_decide];omega) (λhm=>?_) λhm=>out 6 D _ a (by rw[Vl.why,auO f,auO y,auO m,auO z,auP (by have:=avU hm;omega)]) dc;have V:¬8191 < o.kids.length:=by have:=avG hm;omega
 rw[zn a 1 rfl,adC];have M:=WL hu
 -- behind a7 form: a7 kids
 have rest:∀(W:ao),Vl.form o=av->Own w W [uE C (un,Q,us,j,p),obE b o vk vc] ->
   DoX ah (aG 23 (af b (0+5))) W (pk K) λt105 w=>
   DoX ah (mB .len #[23] 3 #[au] #[t105]) w (pk K) λt106 w=>
   zr [(ad 0)] w (λa8 w N1=>∀_:Sg,rH (ad (d:Int)) t105 t106 (a8.getD 0 undef) w N1 K):=by
  intro W N a;have b0:Vl.why d o=0:=by rw[Vl.why,auO f,auO y,auO m,auO z,auO V,auO (by rw[N];decide)]
  have b1:Vl.check d o=Vl.nO (d+1) o.kids:=by rw[Vl.HO,auO (by simp[b0])]
  rw[b1] at t c;rw[bW a 1 rfl,lc a];refine loop (λvs w'=>∃(i:Nat),vs=[ad i]∧i<=o.kids.length∧Vl.nO (d+1) o.kids=Vl.nO (d+1) (o.kids.drop i)∧Own w w' [uE C (un,Q,us,j,p),obE b o vk vc]) (λvs _=>o.kids.length - n0 vs) ⟨0,rfl,om,rfl,a⟩ ?_;rintro vs D ⟨i,rfl,hi,hT,a⟩ _;rw[hT] at t c;simp only[rH,gd,rs,nz];by_cases X:(i:Int) < (o.kids.length:Int)
  ·have O:i < o.kids.length:=om
   simp only[X,auS,i_t];rw[Mi _ _ _ O] at t c hT;have Y:=F.own a;refine ahX Y.kids.1 Y.all O λv hv=>?_;obtain⟨vk',vc',b5,rfl,A⟩:=hv.open;have b2:=a;refine dF a λb7 w7 a=>?_;refine bK 0 A.keys.one A.kids.one a rfl λw8 a=>?_;have a:Own w w8 [obE b7 o.kids[i] vk' vc',uE C (un,Q,us,j,p),obE b o vk vc]:=a;rw[oV a 0 rfl,aA om om,show (d:Int)+1=((d+1:Nat):Int) by omega];have b6:=Jf O;refine eR (ih o.kids[i] _ (d+1) w8 _ om (A.later b2 a).ov om om om (λE w9 P=>?_) (λE w9 P=>?_)) (λ_ _ h=>h)
   ·have a:=a.grow P;rw[auO (by simp[E])] at hT;simp only[wQ,rs];rw[aA om om];exact aU ⟨i+1,rfl,om,hT,a.tail⟩ (by simp[n0,RowKit.intOf];omega)
   ·rw[auP E] at c;exact c E w9 (a.grow P).done
  ·simp only[X,auT,i_f];rw[aAS om,Vl.nO] at t;exact t rfl D a.done
 have G:∀(W:ao) (L:List Ent),Own w W L->Vl.form o=au->(pk K) [badE 3] W:=λW L a h=>out 3 W _ a (by rw[Vl.why,auO f,auO y,auO m,auO z,auO V,auP h]) dc;by_cases k5:o.k=5
 ·have B:¬(o.k=7∨o.k=9):=om
  have l:j=false:=by rw[M,auQ B]
  have hf:Vl.form o=Vl.name o.s:=by simp[Vl.form,k5]
  rw[show ai (o.k≠5)=au by rw[awP];omega,g_ff,I0 a 1 rfl,g_ff];refine zq (Ue o.s D) ?_;rw[p_f];cases Z:Vl.name o.s with
 |false=>
   rw[g_ft,g_ft,show sel (jQ (Value.bool au) av) undef=undef from rfl,iO,iO,g_ft,p_f];exact Fi (r:=au) rfl (λh=>by cases h) λ_=>G D _ a (by rw[hf,Z])
 |true=>
   rw[No,l3 a,l,No,Nl,show (!au)=av from rfl,show sel (jQ (Value.bool av) av) (Value.bool av)=.bool av from rfl,g_tf,g_tf,No,p_t,p_t];exact Fi (r:=av) rfl (λ_=>rest D (by rw[hf,Z]) a) λh=>by cases h
 ·rw[show ai (o.k≠5)=av by rw[decide_eq_true_iff];exact k5,g_tf,g_tf,p_t,No,l3 a,No,Nl];cases l:j with
 |false=>
   have B:¬(o.k=7∨o.k=9):=by rw[M,awP] at l;exact l
   rw[show (!au)=av from rfl,show sel (jQ (Value.bool av) av) (Value.bool av)=.bool av from rfl,g_tf,g_tf,No,p_t,p_t];rw[l] at a rest;exact Fi (r:=av) rfl (λ_=>rest D (by simp[Vl.form,k5,B]) a) λh=>by cases h
 |true=>
   have B:o.k=7∨o.k=9:=by rw[M,decide_eq_true_iff] at l;exact l
   have hf:Vl.form o=Vl.rising o:=by simp[Vl.form,k5,B]
   rw[show (!av)=au from rfl,show sel (jQ (Value.bool av) av) (Value.bool au)=.bool au from rfl,g_ff,oV a 1 rfl,g_ff];refine uT (Ta o _ D (F.in_ a).ov (by have:=Sv (o:=o);omega)) rfl a λw7 a=>?_;rw[No,p_f,p_t];rw[l] at a rest;exact Fi (r:=Vl.form o) hf.symm (λN=>rest w7 N a) λh=>G w7 _ a h
theorem Jk:cD ah 94=true:=krx
theorem kG {rs:List RV}{K:Ending->ao->Prop}{a:Array aq}(hu:u≠.run)(hp:cD ah f=av)
  (h:CallsD ah f (args++a) u w λ
   |.returned _,b,w'=>Et ah rs K ds (settle b) w'
   |.panicked chain,b,w'=>Et ah rs K ds (raised b chain) w'
   |.outgrown,_,_=>False):Et ah rs K ({ target:=.fn (.func f) a,args:=args }::ds) u w:=
 ⟨hu,.func f,a,f,args++a,rfl,by simpa[invoke] using iF hp _ w,h⟩
theorem YG:cD ah 58=true:=krx
abbrev GW:dP ah 35=true:=krx
theorem jF (o:Ob)(v:aq)(w:ao)(h:OV (InW w) w v o)(j:o.wt<=4611686018427387904):Ret ah 32 #[v] w (λv w'=>v=ad (Vl.check 1 o)∧Below w.heap.size w w'):=by
 refine aL λK k=>JZ ?_;obtain⟨vk,vc,cs,rfl,f⟩:=h.open;unfold Hh nz;refine dD o f.keys.one f.kids.one (Own.start w) λb l c=>?_;rw[tM];refine eR (Ie (k0:=λe w'=>e=.returned (ad (Vl.check 1 o))∧Below w.heap.size w w') ?_) ?_
 rotate_left
 ·rintro e w' ⟨rfl,a⟩;exact k _ _ ⟨rfl,a⟩
 unfold Fk iN dx alx;refine bB (λb=>af b 0) [ad 0] 35 (λ_=>by kernel_rfl) c λb2 w2 c=>?_;rw[tM];refine⟨_,rfl,?_⟩;refine OI YG ?_;show eN ah _ #[af b 0] _ _ _;refine eR (G7 (k0:=λe w'=>(Vl.check 1 o=0->e=.returned (.tuple #[])∧Below w2.heap.size w2 w')∧(Vl.check 1 o≠0->e=.panicked [badE (Vl.check 1 o)]∧Below w2.heap.size w2 w')) ?_) ?_
 ·unfold DC nz;rw[oV c 1 rfl];refine eR (VJ o.wt o _ 1 w2 (λe w'=>(Vl.check 1 o=0->e=.returned (.tuple #[])∧Below w2.heap.size w2 w')∧(Vl.check 1 o≠0->e=.panicked [badE (Vl.check 1 o)]∧Below w2.heap.size w2 w')) (auY _) (f.in_ c).ov j om om
   (λd w' a=>⟨λ_=>⟨rfl,a⟩,λh=>absurd d h⟩) (λd w' a=>⟨λh=>absurd h d,λ_=>⟨rfl,a⟩⟩)) ?_
  rintro e w' ⟨g,i⟩;by_cases d:Vl.check 1 o=0
  ·obtain⟨rfl,a⟩:=g d;exact⟨λ_=>⟨rfl,a⟩,λh=>absurd d h⟩
  ·obtain⟨rfl,a⟩:=i d;exact⟨λh=>absurd h d,λ_=>⟨rfl,a⟩⟩
 rintro e w' ⟨g,i⟩;by_cases d:Vl.check 1 o=0
 ·obtain⟨rfl,a⟩:=g d;simp only[wQ];have c:=c.grow a;refine aK 0 c rfl krx rfl sm λm c=>?_;refine kG sm Jk (pN ?_);simp only[iZ,zw,Al,Eng.Vd ayD,rs,dx,ldx,fax,exx,stx,eqx,alx];refine Gr GW (c.cell 0 rfl 0 rfl) (And.intro ?_ c.done);rw[d]
 ·obtain⟨rfl,a⟩:=i d;simp only[wQ,mY,pd];have c:=c.grow a;refine kG sm Jk (pN ?_);simp only[iZ,zw,Al,Eng.YI ayD,rs,ZG (show jZ ah 135=av by kernel_rfl),
   gT (show [Value.agg #[ad (Vl.check 1 o)],Value.bool av][1]?=ax (Value.bool av) from rfl),gT (show [Value.agg #[ad (Vl.check 1 o)],Value.bool av][0]?=ax (Value.agg #[ad (Vl.check 1 o)]) from rfl),dx,ldx,fax,exx,stx,eqx,alx]
  refine bB (λb=>af b 0) [ad 0] 135 (λ_=>by kernel_rfl) c λn p c=>?_;refine gF 0 c rfl (new:=[ad (Vl.check 1 o)]) (show (Tryz.prog.info? 135).map (·.size)=ax 1 by kernel_rfl) (by simp;rfl) rfl λq c=>?_;rw[aQ (show uM ah 135 0=ax 0 by kernel_rfl),aH GW (c.cell 0 rfl 0 rfl)];refine aK 1 c rfl krx rfl sm λr c=>?_;exact Gr GW (c.cell 1 rfl 0 rfl) (And.intro rfl c.done)
end
section
open Eng Go.RowKit
theorem Vt (x:List UInt8)(w:ao):Ret ah 210 #[ae x] w (λv w'=>v=.bool au∧w=w'):=by
 refine aL λK a=>B5 ?_;unfold uW nz;rw[Wx];exact a _ _ ⟨sm,rfl⟩
theorem Vr (x:List UInt8)(w:ao):Ret ah 178 #[ae x] w (λv w'=>v=.bool au∧w=w'):=by
 refine aL λK a=>xM ?_;unfold oK nz;rw[Wx];exact a _ _ ⟨sm,rfl⟩
theorem WA (x y:List UInt8)(w:ao):Ret ah 177 #[ae x,ae y] w (λv w'=>v=.bool (Vl.less x y)∧w=w'):=by
 refine aL λK a=>El ?_;unfold xW nz;refine zq (Vt x w) ?_;simp only[rs,amE];exact a _ _ ⟨rfl,rfl⟩
theorem shr1 (b:0<=a)(c:a<=4611686018427387904):Int.fdiv (IntKind.wrap .u64 a) (2 ^ (min (1:Int).toNat IntKind.u64.bits))=a / 2:=by
 rw[Wt b om];show Int.fdiv a 2=a / 2;rw[aBg _ om]
theorem KY (va:aq)(l:List (List UInt8))(x:List UInt8)(w:ao)(g:Sl w va 1 l.length (bT l))(s:Vl.NK l)(D:l.length<=1099511627776) :
  Ret ah 140 #[va,ae x] w (λv w'=>v=.tuple #[ad (Vl.place l x:Nat),.bool (Vl.hit l x)]∧w=w'):=by
 refine aL λK o=>gQ ?_;unfold dW nz;rw[aS avH g];refine loop (λvs w'=>∃(i j:Nat),vs=[ad i,ad j]∧i<=j∧j<=l.length∧(∀m (h:m < l.length),m < i->Vl.less l[m] x=av)∧(∀m (h:m < l.length),j<=m->Vl.less l[m] x=au)∧w=w') (λvs _=>n1 vs - n0 vs)
  ⟨0,l.length,rfl,om,om,λm _ h=>by omega,λm y z=>by omega,rfl⟩ ?_
 rintro vs w2 ⟨i,j,rfl,A,B,b,c,rfl⟩ _;simp only[dK,gd,rs,nz];by_cases d:(i:Int) < (j:Int)
 ·simp only[d,auS,i_t];rw[aA om om,adE (show (Tryz.prog.underlying 3).isSome=av by kernel_rfl) ayI,F2 om,shr1 om om,
   adE (show (Tryz.prog.underlying 88).isSome=av by kernel_rfl) awM,aA om om]
  obtain⟨h,C⟩:∃h:Nat,((i:Int)+(j:Int)) / 2=(h:Int):=⟨(i+j) / 2,om⟩;rw[C];have y:i<=h:=om
  have z:h < j:=om
  have t:h < l.length:=om
  refine Lt (ae (l[h])) avH krx g om (by rw[auW];exact eO t) λq e=>?_;rw[aH aaV e];refine zq (WA l[h] x w) ?_;cases k:Vl.less l[h] x with
 |true=>
   simp only[rs];rw[aA om om];refine aU ⟨h+1,j,rfl,om,om,λm hm p=>?_,c,rfl⟩ (by simp[n0,n1,RowKit.intOf];omega);rcases awO m h with f|f
   ·exact Vl.rE (Vl.uF s f t) k
   ·have:m=h:=om
    subst this;exact k
 |false=>
   simp only[rs];refine aU ⟨i,h,rfl,om,om,b,λm hm p=>?_,rfl⟩ (by simp[n0,n1,RowKit.intOf];omega);rcases awO h m with f|f
   ·cases r:Vl.less l[m] x with
   |false=>rfl
   |true=>have:=Vl.rE (Vl.uF s f hm) r;rw[k] at this;cases this
   ·have:m=h:=om
    subst this;exact k
 ·have he:i=j:=om
  subst he;simp only[d,auT,i_f];have hp:Vl.place l x=i:=Vl.Ts B b (λh=>c i h (auY _));by_cases u:(i:Int) < (l.length:Int)
  ·have a:i < l.length:=om
   simp only[u,auS,rs];refine Lt (ae (l[i])) avH krx g om (by rw[auW];exact eO a) λq e=>?_;rw[aH aaV e];simp only[rs];by_cases n:l[i]=x
   ·simp only[n,auS,rs,iO];refine o _ _ ⟨?_,rfl⟩;rw[hp];unfold Vl.hit;rw[hp,auX a,n];simp
   ·simp only[n,auT,rs];refine Lt (ae (l[i])) avH krx g om (by rw[auW];exact eO a) λq e=>?_;rw[aH aaV e];refine zq (Vr l[i] w) ?_;simp only[rs];refine o _ _ ⟨?_,rfl⟩;rw[hp];unfold Vl.hit;rw[hp,auX a];simp[n]
  ·simp only[u,auT,rs,iO];refine o _ _ ⟨?_,rfl⟩;rw[hp];unfold Vl.hit;rw[hp,ayG om];simp
end
section
open Eng
def iA(t1 t2 t4 t5 t18 t19 t20 w)(a:JT)(K:KT):=nz f6 43 [a] [nh 9 [5,20]] [] (zg [1,2,4,5,18,19,20] [t1,t2,t4,t5,t18,t19,t20]) w K
def tX(t0 t1 w)(K:KT):=nz f6 1 [] [(9,[5,20],λs v j w f=>iA (s 1) (s 2) (s 4) (vg v 0) (s 18) (s 19) (vg v 1) w (f 0) K)] [] (zg [0,1] [t0,t1]) w K
theorem Dp:tX t0 t1 w k0->Calls ah 6 #[t0,t1] w k0:=cz [] [(4,[5,20])] func6
end
section
open Go
theorem Ob.pB:∀os:List Ob,os.length<=Ob.wts os
|[]=>by simp
|o::os=>by
  have:=Ob.pB os;have:1<=o.wt:=by cases o;rw[Ob.wt];omega
  rw[Ob.wts,avR];omega
namespace Wr
def num (n:Int):List UInt8:=(Pl.pInt n).1
def nul:List UInt8:=[110,117,108,108]
def tru:List UInt8:=[116,114,117,101]
def fal:List UInt8:=[102,97,108,115,101]
def leaf (k n:Int)(s:List UInt8):List UInt8:=
 if k=1 then (if n=0 then fal else tru)
 else if k=2 then num n
 else if k=3 then (Pl.aqW n).1
 else if k=4 then (Pl.pStr s).1
 else if k=5 then (Pl.akV s).1
 else nul
 mutual
def parts:Ob->List (List UInt8)
|.mk k n g s keys kids=>
  if k=8 then [num n,num g,[82]]
  else if k=6 then [91]::(WX kids++[[93]])
  else if k=7 then [60,60]::(XC keys kids++[[62,62]])
  else [leaf k n s]
def WX:List Ob->List (List UInt8)
|[]=>[]
|o::os=>parts o++WX os
def XC (keys:List (List UInt8)):List Ob->List (List UInt8)
|[]=>[]
|o::os=>match keys with
 |[]=>[]
 |key::a=>(Pl.akV key).1::(parts o++XC a os)
end
end Wr
end
end Go.Proofs.YtkghomgfocpgeaaGreatDoor

namespace Go.Proofs.YtkghomgfocpgeaaGreatDoor
variable{A S:Nat->Prop}{E T1 U:TypeId}{K:VWP}{L:List Eng.Ent}{M N:Eng.Mem}{P:Program}{PK:PKT}{a:Int}{args:Array aq}{b cap d f i j m sz:Nat}{cb:Array Bool}{cs news xs:List aq}{ds:List Deferred}{e:Eng.Ent}{k':IntKind}{key:List UInt8}{o:Ob}{q:Bool}{t0 v v2 va vc vk:aq}{u:FrameMode}{w w0:ao}{xo yo:Operand}{t0 t1 t2:aq}{k0:Eng.KT}
section
open Eng
def qD(t0 w)(K:KT):=nz f127 1 [] [] [] (zg [0] [t0]) w K
theorem As:qD t0 w k0->Calls ah 127 #[t0] w k0:=cw func127
end
section
open Eng Go.RowKit
theorem Oi (c:UInt8)(w:ao):Ret ah 127 #[.int .u8 c.toNat] w (λv w'=>v=.bool (Oc.JV c)∧w=w'):=by
 refine aL λK a=>As ?_;unfold qD nz;have i:=u8d c 0 0 rfl;have j:=u8d c 9 9 rfl;have k:=u8d c 10 10 rfl;have l:=u8d c 12 12 rfl;have m:=u8d c 13 13 rfl;have n:=u8d c 32 32 rfl;by_cases b:c=0
 ·simp only[rs,i,auR b,iO];exact a _ _ ⟨by rw[b];rfl,rfl⟩
 simp only[rs,i,auQ b,iO];by_cases d:c=9
 ·simp only[rs,j,auR d,iO];exact a _ _ ⟨by rw[d];rfl,rfl⟩
 simp only[rs,j,auQ d,iO];by_cases e:c=10
 ·simp only[rs,k,auR e,iO];exact a _ _ ⟨by rw[e];rfl,rfl⟩
 simp only[rs,k,auQ e,iO];by_cases f:c=12
 ·simp only[rs,l,auR f,iO];exact a _ _ ⟨by rw[f];rfl,rfl⟩
 simp only[rs,l,auQ f,iO];by_cases g:c=13
 ·simp only[rs,m,auR g,iO];exact a _ _ ⟨by rw[g];rfl,rfl⟩
 simp only[rs,m,auQ g,iO];by_cases h:c=32
 ·simp only[rs,n,auR h,iO];exact a _ _ ⟨by rw[h];rfl,rfl⟩
 simp only[rs,n,auQ h,iO];exact a _ _ ⟨by simp[Oc.JV,Oc.Yi,b,d,e,f,g,h],rfl⟩
end
end Go.Proofs.YtkghomgfocpgeaaGreatDoor

namespace Go.Proofs.YtkghomgfocpgeaaGreatDoor
variable{A S:Nat->Prop}{E T1 U:TypeId}{K:VWP}{L:List Eng.Ent}{M N:Eng.Mem}{P:Program}{PK:PKT}{a:Int}{args:Array aq}{b cap d f i j m sz:Nat}{cb:Array Bool}{cs news xs:List aq}{ds:List Deferred}{e:Eng.Ent}{k':IntKind}{key:List UInt8}{o:Ob}{q:Bool}{t0 v v2 va vc vk:aq}{u:FrameMode}{w w0:ao}{xo yo:Operand}{t0 t1 t2:aq}{k0:Eng.KT}
section
open Go
namespace Lx
open Oc
def eol (c:UInt8):Bool:=ai (c=13)||decide (c=10)
def acH:Bool->List UInt8->Nat
|_,[]=>0
|true,c::t=>1+acH (!eol c) t
|false,c::t=>if c=37 then 1+acH av t else if JV c then 1+acH au t else 0
def skip (s:List UInt8)(k:Nat):Nat:=k+acH au (s.drop k)
def agZ:List UInt8->Nat
|[]=>0
|c::t=>if c=10 then 1 else if c=13 then (if t.head?=ax 10 then 2 else 1) else 1+agZ t
def digit (c:UInt8):Int:=
 if 48<=c.toNat∧c.toNat<=57 then (c.toNat:Int) - 48
 else if 65<=c.toNat∧c.toNat<=70 then (c.toNat:Int) - 65+10
 else if 97<=c.toNat∧c.toNat<=102 then (c.toNat:Int) - 97+10
 else -1
def byte (a b:Int):UInt8:=UInt8.ofNat (16*a+b).toNat
end Lx
namespace Lx
open Oc
structure Tok where
 k:Int
 a:Int
 t:Int
 n:Int
 s:List UInt8
 deriving DecidableEq
def none_:Tok:=⟨0,0,0,0,[]⟩
def refused (e:Int):Tok×Int:=(none_,e)
def told (k a t:Int)(x:List UInt8)(most:Int):Tok×Int:=if most < (x.length:Int) then refused 5 else (⟨k,a,t,0,x⟩,0)
def runF:List UInt8->Nat
|[]=>0
|c::t=>if regular c then 1+runF t else 0
def run (s:List UInt8)(i:Nat):Nat:=i+runF (s.drop i)
def cut (s:List UInt8)(i j:Nat):List UInt8:=(s.drop i).take (j - i)
def akD:List UInt8->Option (List UInt8)
|[]=>ax []
|c::t=>
  if c=35 then match t with
  |a::b::t=>if digit a < 0∨digit b < 0∨16*digit a+digit b=0 then aw else (akD t).map (byte (digit a) (digit b)::·)
  |_=>aw
  else (akD t).map (c::·)
def name (s:List UInt8)(at_:Nat):Tok×Int:=
 match akD (cut s (at_+1) (run s (at_+1))) with
|none=>refused 3
|some x=>told 4 at_ (run s (at_+1)) x 127
def oct (c:UInt8):Bool:=ai (48<=c.toNat)&&ai (c.toNat<=55)
def octF:Nat->Nat->List UInt8->Nat×Nat
|0,n,_=>(n,0)
|_+1,n,[]=>(n,0)
|m+1,n,c::t=>if oct c then ((octF m (8*n+(c.toNat - 48)) t).1,(octF m (8*n+(c.toNat - 48)) t).2+1) else (n,0)
def escL (c:UInt8):Option UInt8:=if c=110 then ax 10 else if c=114 then ax 13 else if c=116 then ax 9 else if c=98 then ax 8 else if c=102 then ax 12 else aw
def escF:List UInt8->List UInt8×Nat
|[]=>([],0)
|c::t=>match escL c with
 |some b=>([b],1)
 |none=>if eol c then ([],agZ (c::t)) else if 0 < (octF 3 0 (c::t)).2 then ([UInt8.ofNat (octF 3 0 (c::t)).1],(octF 3 0 (c::t)).2) else ([c],1)
def RH:Nat->Nat->List UInt8->Option (List UInt8×Nat)
|_,_,[]=>aw
|k+1,o,_::t=>(RH k o t).map λr=>(r.1,r.2+1)
|0,o,c::t=>
  if eol c then (RH (agZ (c::t) - 1) o t).map λr=>(10::r.1,r.2+1)
  else if c=92 then if t=[] then aw else (RH (escF t).2 o t).map λr=>((escF t).1++r.1,r.2+1)
  else if c=40 then (RH 0 (o+1) t).map λr=>(c::r.1,r.2+1)
  else if c=41 then if o<=1 then ax ([],1) else (RH 0 (o - 1) t).map λr=>(c::r.1,r.2+1)
  else (RH 0 o t).map λr=>(c::r.1,r.2+1)
def text (s:List UInt8)(at_:Nat):Tok×Int:=
 match RH 0 1 (s.drop (at_+1)) with
|none=>refused 4
|some r=>told 3 at_ (at_+1+r.2:Nat) r.1 32767
def hexF:Int->List UInt8->(List UInt8×Nat) ⊕ Int
|_,[]=>.inr 4
|h,c::t=>
  if c=62 then .inl (if 0<=h then [byte h 0] else [],1)
  else if JV c then match hexF h t with|.inl r=>.inl (r.1,r.2+1)|.inr e=>.inr e
  else if digit c < 0 then .inr 3
  else if h < 0 then match hexF (digit c) t with|.inl r=>.inl (r.1,r.2+1)|.inr e=>.inr e
  else match hexF (-1) t with|.inl r=>.inl (byte h (digit c)::r.1,r.2+1)|.inr e=>.inr e
def hex (s:List UInt8)(at_:Nat):Tok×Int:=
 match hexF (-1) (s.drop (at_+1)) with
|.inr e=>refused e
|.inl r=>told 3 at_ (at_+1+r.2:Nat) r.1 32767
def sgn (c:UInt8):Bool:=ai (c=43)||decide (c=45)
def dig (c:UInt8):Bool:=ai (48<=c.toNat)&&ai (c.toNat<=57)
def QM:List UInt8->List UInt8
|[]=>[]
|c::t=>if sgn c then t else c::t
def ahU (t:List UInt8):Bool:=!(QM t).isEmpty&&(QM t).all dig
def val (n:Nat)(l:List UInt8):Nat:=l.foldl (λn c=>10*n+(c.toNat - 48)) n
def whole (t:List UInt8):Int×Int:=
 if 2147483647 < val 0 (QM t) then (0,2) else (if t.head?=ax 45 then -(val 0 (QM t):Int) else (val 0 (QM t):Int),0)
def aqM (t:List UInt8)(a b:Int):Tok×Int:=
 if ahU t then (if (whole t).2≠0 then refused (whole t).2 else (⟨1,a,b,(whole t).1,[]⟩,0))
 else if t.contains 46∧(Fx.read t).2=0 then (⟨2,a,b,(Fx.read t).1,[]⟩,0)
 else if t.contains 46∧(Fx.read t).2=2 then refused 2
 else told 5 a b t 127
def word (s:List UInt8)(at_:Nat):Tok×Int:=aqM (cut s at_ (run s at_)) at_ (run s at_)
def mark (s:List UInt8)(at_ n:Nat):Tok×Int:=(⟨6,at_,(at_+n:Nat),0,cut s at_ (at_+n)⟩,0)
def token (s:List UInt8)(a:Nat):Tok×Int:=
 match s.drop a with
|[]=>(⟨0,a,a,0,[]⟩,0)
|c::t=>
  if c=91∨c=93∨c=123∨c=125 then mark s a 1
  else if c=60 then (if t.head?=ax c then mark s a 2 else hex s a)
  else if c=62 then (if t.head?=ax c then mark s a 2 else refused 3)
  else if c=47 then name s a
  else if c=40 then text s a
  else if c=41 then refused 3
  else word s a
def next (s:List UInt8)(at_:Int):Tok×Int:=if at_ < 0∨(s.length:Int) < at_ then refused 1 else token s (skip s at_.toNat)
end Lx
end
end Go.Proofs.YtkghomgfocpgeaaGreatDoor





namespace Go.Proofs.YtkghomgfocpgeaaGreatDoor
variable{A S:Nat->Prop}{E T1 U:TypeId}{K:VWP}{L:List Eng.Ent}{M N:Eng.Mem}{P:Program}{PK:PKT}{a:Int}{args:Array aq}{b cap d f i j m sz:Nat}{cb:Array Bool}{cs news xs:List aq}{ds:List Deferred}{e:Eng.Ent}{k':IntKind}{key:List UInt8}{o:Ob}{q:Bool}{t0 v v2 va vc vk:aq}{u:FrameMode}{w w0:ao}{xo yo:Operand}{t0 t1 t2:aq}{k0:Eng.KT}
section
open Go
namespace Lx
open Oc
def TT (u:List UInt8)(x:Tok):Prop:=next u 0=(x,0)∧x.k≠0∧x.a=0∧x.t=u.length
end Lx
end
end Go.Proofs.YtkghomgfocpgeaaGreatDoor



namespace Go.Proofs.YtkghomgfocpgeaaGreatDoor
variable{A S:Nat->Prop}{E T1 U:TypeId}{K:VWP}{L:List Eng.Ent}{M N:Eng.Mem}{P:Program}{PK:PKT}{a:Int}{args:Array aq}{b cap d f i j m sz:Nat}{cb:Array Bool}{cs news xs:List aq}{ds:List Deferred}{e:Eng.Ent}{k':IntKind}{key:List UInt8}{o:Ob}{q:Bool}{t0 v v2 va vc vk:aq}{u:FrameMode}{w w0:ao}{xo yo:Operand}{t0 t1 t2:aq}{k0:Eng.KT}
section
open Eng
def HM(t0 w)(K:KT):=nz f151 1 [] [] [] (zg [0] [t0]) w K
theorem JL:HM t0 w k0->Calls ah 151 #[t0] w k0:=cw func151
end
section
open Eng Go.RowKit
 attribute [local congr] An in
theorem Yn (c:UInt8)(w:ao):Ret ah 151 #[.int .u8 c.toNat] w (λv w'=>v=ad (Lx.digit c)∧w=w'):=by
  refine aL λK d=>JL ?_;unfold HM nz;have f:=c.toNat_lt;have conv:∀{n:Int} {PK K},0<=n->n<=255->DoX ah (nG 5 3 (.int .u8 n)) w PK K=K (ad n) w:=by
   intro n PK K h b;rw[adE (show (Tryz.prog.underlying 5).isSome=av by kernel_rfl) awM,aA om om]
  simp +contextual only[rs,gs];by_cases b:48<=c.toNat∧c.toNat<=57
  ·have a:(ai ((48:Int)<=(c.toNat:Int))&&ai ((c.toNat:Int)<=57))=true:=by simp;omega
   simp only[a,i_t];rw[OU om om,conv om om];exact d _ _ ⟨by rw[Lx.digit,auP b],rfl⟩
  have a:(ai ((48:Int)<=(c.toNat:Int))&&ai ((c.toNat:Int)<=57))=false:=by
   rw[ayW,awP,awP];omega
  simp only[a,i_f];by_cases e:65<=c.toNat∧c.toNat<=70
  ·have a:(ai ((65:Int)<=(c.toNat:Int))&&ai ((c.toNat:Int)<=70))=true:=by simp;omega
   simp only[a,i_t];rw[OU om om,conv om om,FL,aA om om];exact d _ _ ⟨by rw[Lx.digit,auO b,auP e],rfl⟩
  have a:(ai ((65:Int)<=(c.toNat:Int))&&ai ((c.toNat:Int)<=70))=false:=by
   rw[ayW,awP,awP];omega
  simp only[a,i_f];by_cases g:97<=c.toNat∧c.toNat<=102
  ·have a:(ai ((97:Int)<=(c.toNat:Int))&&ai ((c.toNat:Int)<=102))=true:=by simp;omega
   simp only[a,i_t];rw[OU om om,conv om om,FL,aA om om];exact d _ _ ⟨by rw[Lx.digit,auO b,auO e,auP g],rfl⟩
  have a:(ai ((97:Int)<=(c.toNat:Int))&&ai ((c.toNat:Int)<=102))=false:=by
   rw[ayW,awP,awP];omega
  simp only[a,i_f];exact d _ _ ⟨by rw[Lx.digit,auO b,auO e,auO g],rfl⟩
end
end Go.Proofs.YtkghomgfocpgeaaGreatDoor

namespace Go.Proofs.YtkghomgfocpgeaaGreatDoor
variable{A S:Nat->Prop}{E T1 U:TypeId}{K:VWP}{L:List Eng.Ent}{M N:Eng.Mem}{P:Program}{PK:PKT}{a:Int}{args:Array aq}{b cap d f i j m sz:Nat}{cb:Array Bool}{cs news xs:List aq}{ds:List Deferred}{e:Eng.Ent}{k':IntKind}{key:List UInt8}{o:Ob}{q:Bool}{t0 v v2 va vc vk:aq}{u:FrameMode}{w w0:ao}{xo yo:Operand}{t0 t1 t2:aq}{k0:Eng.KT}
section
open Eng Go.RowKit
def tokC (x:Lx.Tok):List Value:=[ad x.k,ad x.a,ad x.t,ad x.n,ae x.s]
def cutC (s:List UInt8)(a:Int):List Value:=[ae s,ad a]
def ptr (b:Nat)(i:Nat):Value:=af b i
section
variable {w:ao}{PK:PKT}{K:VWP}{S:Nat->Prop}{w0:ao}{L:List Ent}
end
theorem c_64 {n:Int}(a:0<=n)(b:n<=255):DoX ah (nG 5 3 (.int .u8 n)) w PK K=K (ad n) w:=by
 rw[adE (show (Tryz.prog.underlying 5).isSome=av by kernel_rfl) awM,aA om om]
end
end Go.Proofs.YtkghomgfocpgeaaGreatDoor



namespace Go.Proofs.YtkghomgfocpgeaaGreatDoor
variable{A S:Nat->Prop}{E T1 U:TypeId}{K:VWP}{L:List Eng.Ent}{M N:Eng.Mem}{P:Program}{PK:PKT}{a:Int}{args:Array aq}{b cap d f i j m sz:Nat}{cb:Array Bool}{cs news xs:List aq}{ds:List Deferred}{e:Eng.Ent}{k':IntKind}{key:List UInt8}{o:Ob}{q:Bool}{t0 v v2 va vc vk:aq}{u:FrameMode}{w w0:ao}{xo yo:Operand}{t0 t1 t2:aq}{k0:Eng.KT}
section
open Eng Go.RowKit
def n3 (vs:List aq):Nat:=(RowKit.intOf (vs.getD 3 undef)).toNat
end
end Go.Proofs.YtkghomgfocpgeaaGreatDoor


namespace Go.Proofs.YtkghomgfocpgeaaGreatDoor
variable{A S:Nat->Prop}{E T1 U:TypeId}{K:VWP}{L:List Eng.Ent}{M N:Eng.Mem}{P:Program}{PK:PKT}{a:Int}{args:Array aq}{b cap d f i j m sz:Nat}{cb:Array Bool}{cs news xs:List aq}{ds:List Deferred}{e:Eng.Ent}{k':IntKind}{key:List UInt8}{o:Ob}{q:Bool}{t0 v v2 va vc vk:aq}{u:FrameMode}{w w0:ao}{xo yo:Operand}{t0 t1 t2:aq}{k0:Eng.KT}
section
open Eng
def qL(t0 w)(K:KT):=nz f128 1 [] [] [] (zg [0] [t0]) w K
theorem Aj:qL t0 w k0->Calls ah 128 #[t0] w k0:=cw func128
end
section
open Eng Go.RowKit
 attribute [local congr] An in
theorem Wc (c:UInt8)(w:ao):Ret ah 128 #[.int .u8 c.toNat] w (λv w'=>v=ad (Lx.digit c)∧w=w'):=by
  refine aL λK b=>Aj ?_;unfold qL nz;have f:=c.toNat_lt;simp +contextual only[rs,gs];by_cases d:48<=c.toNat∧c.toNat<=57
  ·have a:(ai ((48:Int)<=(c.toNat:Int))&&ai ((c.toNat:Int)<=57))=true:=by simp;omega
   simp only[a,i_t];rw[c_64 om om,Wj,aA om om];exact b _ _ ⟨by rw[Lx.digit,auP d],rfl⟩
  have a:(ai ((48:Int)<=(c.toNat:Int))&&ai ((c.toNat:Int)<=57))=false:=by
   rw[ayW,awP,awP];omega
  simp only[a,i_f];by_cases e:65<=c.toNat∧c.toNat<=70
  ·have a:(ai ((65:Int)<=(c.toNat:Int))&&ai ((c.toNat:Int)<=70))=true:=by simp;omega
   simp only[a,i_t];rw[c_64 om om,Wj,aA om om,FL,aA om om];exact b _ _ ⟨by rw[Lx.digit,auO d,auP e],rfl⟩
  have a:(ai ((65:Int)<=(c.toNat:Int))&&ai ((c.toNat:Int)<=70))=false:=by
   rw[ayW,awP,awP];omega
  simp only[a,i_f];by_cases g:97<=c.toNat∧c.toNat<=102
  ·have a:(ai ((97:Int)<=(c.toNat:Int))&&ai ((c.toNat:Int)<=102))=true:=by simp;omega
   simp only[a,i_t];rw[c_64 om om,Wj,aA om om,FL,aA om om];exact b _ _ ⟨by rw[Lx.digit,auO d,auO e,auP g],rfl⟩
  have a:(ai ((97:Int)<=(c.toNat:Int))&&ai ((c.toNat:Int)<=102))=false:=by
   rw[ayW,awP,awP];omega
  simp only[a,i_f];exact b _ _ ⟨by rw[Lx.digit,auO d,auO e,auO g],rfl⟩
end
end Go.Proofs.YtkghomgfocpgeaaGreatDoor








namespace Go.Proofs.YtkghomgfocpgeaaGreatDoor
variable{A S:Nat->Prop}{E T1 U:TypeId}{K:VWP}{L:List Eng.Ent}{M N:Eng.Mem}{P:Program}{PK:PKT}{a:Int}{args:Array aq}{b cap d f i j m sz:Nat}{cb:Array Bool}{cs news xs:List aq}{ds:List Deferred}{e:Eng.Ent}{k':IntKind}{key:List UInt8}{o:Ob}{q:Bool}{t0 v v2 va vc vk:aq}{u:FrameMode}{w w0:ao}{xo yo:Operand}{t0 t1 t2:aq}{k0:Eng.KT}
section
open Eng Go.RowKit
section
variable {w:ao}{PK:PKT}{K:VWP}{S:Nat->Prop}{w0:ao}{L:List Ent}
end
def Dt (b:Nat)(s:List UInt8):Ent:=.cells b [ae s] 9
end
end Go.Proofs.YtkghomgfocpgeaaGreatDoor

namespace Go.Proofs.YtkghomgfocpgeaaGreatDoor
variable{A S:Nat->Prop}{E T1 U:TypeId}{K:VWP}{L:List Eng.Ent}{M N:Eng.Mem}{P:Program}{PK:PKT}{a:Int}{args:Array aq}{b cap d f i j m sz:Nat}{cb:Array Bool}{cs news xs:List aq}{ds:List Deferred}{e:Eng.Ent}{k':IntKind}{key:List UInt8}{o:Ob}{q:Bool}{t0 v v2 va vc vk:aq}{u:FrameMode}{w w0:ao}{xo yo:Operand}{t0 t1 t2:aq}{k0:Eng.KT}
section
open Eng Go.RowKit
theorem draw {F:ao->Prop}(h:F w.drew):DrawX w F:=⟨h⟩
end
end Go.Proofs.YtkghomgfocpgeaaGreatDoor


namespace Go.Proofs.YtkghomgfocpgeaaGreatDoor
variable{A S:Nat->Prop}{E T1 U:TypeId}{K:VWP}{L:List Eng.Ent}{M N:Eng.Mem}{P:Program}{PK:PKT}{a:Int}{args:Array aq}{b cap d f i j m sz:Nat}{cb:Array Bool}{cs news xs:List aq}{ds:List Deferred}{e:Eng.Ent}{k':IntKind}{key:List UInt8}{o:Ob}{q:Bool}{t0 v v2 va vc vk:aq}{u:FrameMode}{w w0:ao}{xo yo:Operand}{t0 t1 t2:aq}{k0:Eng.KT}
section
open Eng Go.RowKit
theorem uY:∀(l:List Lx.Tok) (k j:Nat) (b:k < l.length),j < 5->(l.flatMap tokC)[k*5+j]?=(tokC l[k])[j]?
|x::l,0,j,_,a=>by
  rw[ayM,axO (by simpa[tokC] using a)];simp
|x::l,k+1,j,b,a=>by
  have c:(tokC x).length=5:=rfl;rw[ayM,ayL (by rw[c];omega),c,show (k+1)*5+j - 5=k*5+j by omega];rw[uY l k j (by simpa using b) a];simp
end
end Go.Proofs.YtkghomgfocpgeaaGreatDoor











namespace Go.Proofs.YtkghomgfocpgeaaGreatDoor
variable{A S:Nat->Prop}{E T1 U:TypeId}{K:VWP}{L:List Eng.Ent}{M N:Eng.Mem}{P:Program}{PK:PKT}{a:Int}{args:Array aq}{b cap d f i j m sz:Nat}{cb:Array Bool}{cs news xs:List aq}{ds:List Deferred}{e:Eng.Ent}{k':IntKind}{key:List UInt8}{o:Ob}{q:Bool}{t0 v v2 va vc vk:aq}{u:FrameMode}{w w0:ao}{xo yo:Operand}{t0 t1 t2:aq}{k0:Eng.KT}
section
open Eng Go.RowKit
theorem Lp {wb:ao}(h:zz A wb o vk vc cs)(hi:i < o.kids.length) :
  ∃v p,OV A wb v o.kids[i]∧∀W,Kept A wb W->(mIA 23 vc (ad (i:Int))).run ah W=.ok (.value (.pointer (ax p))) W∧(aG 25 (.pointer (ax p))).run ah W=.ok (.value v) W:=by
 obtain⟨b,off,cap,rfl,_⟩:=bQ h.kids.1 om;obtain⟨a,g,d,c⟩:=OVs.get _ _ i hi h.all;refine⟨.agg a.toArray,⟨b,off+i*6,aw⟩,d,λW l=>⟨?_,?_⟩⟩
 ·have:=cR (P:=ah) (T:=23) (b:=b) (off:=off) (cap:=cap) (n:=o.kids.length) (k:=.i64) (i:=(i:Int)) (w:=W) avI Me om om;rw[auW] at this;exact this
 ·obtain⟨r,e,f,he,m⟩:=bQ (h.kept l).kids.1 om;cases he;refine bC (v:=.agg a.toArray) (AtV.agg mQ g λj v q=>?_);rw[axK];exact m _ _ (c j v q)
theorem aqJ {wb:ao}(h:zz A wb o vk vc cs)(hi:i < o.keys.length) :
  ∃p,∀W,Kept A wb W->(mIA 22 vk (ad (i:Int))).run ah W=.ok (.value (.pointer (ax p))) W∧(aG 9 (.pointer (ax p))).run ah W=.ok (.value (.string ⟨o.keys[i].toArray⟩)) W:=by
 obtain⟨b,off,cap,rfl,_⟩:=bQ h.keys.1 om;refine⟨⟨b,off+i,aw⟩,λW d=>⟨?_,?_⟩⟩
 ·have:=cR (P:=ah) (T:=22) (b:=b) (off:=off) (cap:=cap) (n:=o.keys.length) (k:=.i64) (i:=(i:Int)) (w:=W) avH (show _=ax 1 by kernel_rfl) om om;rw[auW,avQ] at this;exact this
 ·obtain⟨f,a,c,he,e⟩:=bQ (h.kept d).keys.1 om;cases he;exact aB BZ (e i _ (eO hi))
section
variable {w:ao}{PK:PKT}{K:VWP}{S:Nat->Prop}{w0:ao}{L:List Ent}
end
theorem Eng.Mem.le.trans {O:Mem}(h:M.le N)(k:N.le O):M.le O:=Mem.le_trans h k
theorem wT {l:List (List UInt8)}:∀x∈bT l,x.oneCell'=true:=by
 intro x a;obtain⟨y,_,rfl⟩:=awD.1 a;rfl
theorem cP {T:TypeId}{n:Nat}(h:(Ent.urow T sz v n xs).is w):v.oneCell'=true:=by
 rcases (show w.ownsRow 0 T sz v n xs from h).2 with ⟨rfl,_⟩|⟨g,cap,cur,rfl,_⟩<;>rfl
theorem MG {A:Nat->Prop}{w:ao}:∀{os:List Ob} {cs:List aq},OVs A w cs os->∀x∈cs,x.oneCell'=av
|[],cs,h=>by rw[OVs] at h;subst h;intro x b;cases b
|o::os,cs,h=>by
  rw[OVs] at h;obtain⟨a,rest,rfl,i,d,f⟩:=h;intro x b;rcases avZ.1 b with b|b
  ·obtain⟨vk,vc,g,he,c⟩:=d.open;have e:a.toArray=(obC o vk vc).toArray:=by injection he
   have e:a=obC o vk vc:=by simpa using congrArg Array.toList e
   subst e;exact mT o c.keys.one c.kids.one x b
  ·exact MG f x b
theorem dX {A:Nat->Prop}{w:ao}:∀{os ps:List Ob} {cs ds:List aq},OVs A w cs os->OVs A w ds ps->OVs A w (cs++ds) (os++ps)
|[],ps,cs,ds,h,k=>by rw[OVs] at h;subst h;simpa using k
|o::os,ps,cs,ds,h,k=>by
  rw[OVs] at h;obtain⟨a,rest,rfl,b,c,d⟩:=h;rw[ayP,OVs];exact⟨a,rest++ds,sm,b,c,dX d k⟩
theorem tP (h:OV A w (obV o vk vc) o):OVs A w (obC o vk vc) [o]:=by
 rw[OVs];exact⟨obC o vk vc,[],sm,rfl,h,OVs.nil⟩
theorem zz.le {M N:Mem}{o:Ob}{vk vc:aq}{cs:List aq}(a:M.le N)(h:zz M.A M.w o vk vc cs):zz N.A N.w o vk vc cs:=⟨h.keys.le a,h.kids.le a,h.all.le a⟩
theorem aiK {k n g:Int}{s:List UInt8}{keys:List (List UInt8)}{kids:List Ob}(a:SlA M.A M.w vk 1 keys.length (bT keys))(b:SlA M.A M.w vc 6 kids.length cs)(c:OVs M.A M.w cs kids):zz M.A M.w (.mk k n g s keys kids) vk vc cs:=⟨a,b,c⟩
theorem CA (M:Mem):OV M.A M.w (obV Vl.ob0 (.slice aw 0 0) (.slice aw 0 0)) Vl.ob0:=(aiK (M:=M) (keys:=[]) (kids:=[]) (SlA.nil _ _ _ _) (SlA.nil _ _ _ _) OVs.nil).ov
theorem V6 (o:Ob)(c:vk.oneCell'=av)(d:vc.oneCell'=av)(w:ao):Ret ah 48 #[obV o vk vc] w (λv w'=>v=obV o vk vc∧Below w.heap.size w w'):=by
 refine aL λK e=>Gz ?_;unfold CS nz;refine dD o c d (Own.start w) λb f a=>?_;refine dF a λb2 w2 a=>?_;rw[oV a 1 rfl];refine bK 0 c d a rfl λw3 a=>?_;exact gC (bG (a.agg 0 rfl mQ)) (e _ _ ⟨rfl,a.done⟩)
theorem Rc:cD ah 48=true:=krx
abbrev aoX:Value:=.func (.func 48) #[] #[]
theorem RB (n:Nat):∀(o:Ob) (v:aq) (M:Mem) (w:ao),o.wt<=n->o.wt<=100000000000->M.has w->OV M.A M.w v o->lA ah 47 #[v,aoX] M w (λv' N=>OV N.A N.w v' o):=by
 induction n with
|zero=>intro o v M w h;have:=o.Mp;omega
|succ n ih=>
 intro o v M w hn hw hM hv;obtain⟨vk,vc,cs,rfl,r⟩:=hv.open;have a6:Ob.wts o.kids<=100000000000:=by cases o;rw[Ob.wt] at hw;simp only[Ob.kids];omega
 have a7:Pl.tot o.keys<=100000000000:=by cases o;rw[Ob.wt] at hw;simp only[Ob.keys];omega
 have a8:=Ob.pB o.kids;have b0:=Pl.jK o.keys;refine aO hM λK hK=>Hw ?_;unfold CM nz;refine dD o r.keys.one r.kids.one (dQ.memS hM) λb w1 c=>?_;refine dF c λt w2 c=>?_;rw[oV c 1 rfl];refine OI Rc (aI c (R:=λv=>v=obV o vk vc) (V6 o r.keys.one r.kids.one w2) ?_);rintro _ w3 rfl c;refine bK 1 r.keys.one r.kids.one c rfl λw4 c=>?_;rw[qZ,eP c 1 rfl];refine Dv (CI vk _ _ w4 (r.keys.now (c.hasM 2 rfl)) wT om) λvk' w5 E=>?_;have c:=c.join E;have c:dQ M.A w w5 [.urow 9 1 vk' o.keys.length (bT o.keys),obE t ob0 (.slice aw 0 0) (.slice aw 0 0),obE b o vk vc,.mem M]:=c;have F:vk'.oneCell'=true:=cP (c.at_ 0 rfl);rw[qZ];refine aK 2 c rfl krx F (show 0+4 < 6 by omega) λw6 c=>?_;have c:dQ M.A w w6 [.urow 9 1 vk' o.keys.length (bT o.keys),obE t ob0 (.slice aw 0 0) (.slice aw 0 0),obE b o vk' vc,.mem M]:=c;obtain⟨N,G,z,c⟩:=c.bH 2 rfl;have c:dQ M.A w w6 [obE t ob0 (.slice aw 0 0) (.slice aw 0 0),obE b o vk' vc,.mem N]:=c;refine join λJ hJ=>?_;have fin:∀(W:ao) (j:Mem) (vc':aq) (d:List aq),dQ M.A w W [obE t ob0 (.slice aw 0 0) (.slice aw 0 0),obE b o vk' vc',.mem j]->N.le j->vc'.oneCell'=av->SlA j.A j.w vc' 6 o.kids.length d->OVs j.A j.w d o.kids->J [] W:=by
  intro W j vc' d c hle S T h2;refine hJ _ _ λ_=>?_;unfold wV nz;rw[oV c 1 rfl];refine bK 0 F S c rfl λw7 c=>?_;refine gC (bG (c.agg 0 rfl mQ)) (hK _ _ j _ 2 c rfl (G.trans hle) ?_);exact zz.ov (⟨z.le hle,T,h2⟩:zz j.A j.w o vk' vc' d)
 have B:=r.le G;rw[eW,bW c 1 rfl];obtain⟨a,cap,rfl,a1⟩:∃a cap,vc=.slice a o.kids.length cap∧(a=aw->o.kids.length=0):=by
  obtain⟨⟨_,a,cap,e,T,_⟩,_⟩:=r.kids;exact⟨a,cap,e,T⟩
 rw[akQ avI];cases a with
|none=>
  simp only[aBb,avY,i_f];exact fin _ N _ _ c N.le_refl rfl B.kids B.all
|some p=>
  simp only[aBc,awA,i_t];rw[eW,bW c 1 rfl,bP avI];refine Tk (sz:=6) (bytes:=88) avI krx om om c λg w7 zs U c=>?_;have c:=c.toU 6 o.kids.length o.kids.length U (auY _) om;rw[avX om] at c;rw[eW,bW c 2 rfl,bP avI];refine loop (λvs W=>∃(i:Nat) (j:Mem) (d f:List aq),vs=[ad i]∧i<=o.kids.length∧N.le j∧OVs j.A j.w d (o.kids.take i)∧d.length=i*6 ∧
    dQ M.A w W [.urow 25 6 (cW g 0 o.kids.length o.kids.length) o.kids.length (d++f),obE t ob0 (.slice aw 0 0) (.slice aw 0 0),obE b o vk' (.slice (ax p) o.kids.length cap),.mem j]) (λvs _=>o.kids.length - n0 vs)
   ⟨0,N,[],zs,rfl,om,N.le_refl,OVs.nil,rfl,c⟩ ?_
  clear c;rintro vs w8 ⟨i,j,d,f,rfl,hi,hle,s,l,c⟩ _;simp only[yH,gd,rs,nz];have V:=(show w8.ownsRow 0 25 6 _ _ (d++f) from c.at_ 0 rfl).1;rw[auU,l] at V;by_cases H:(i:Int) < (o.kids.length:Int)
  ·have m:i < o.kids.length:=om
   simp only[H,auS,i_t];obtain⟨x,q,hx,X⟩:=Lp (B.le hle) m;obtain⟨r1,r2⟩:=X w8 (c.hasM 3 rfl);refine aC r1 |>.mpr (aC r2 |>.mpr ?_);obtain⟨xk,xc,b1,rfl,I⟩:=hx.open;refine dF c λb7 w9 c=>?_;refine bK 0 I.keys.one I.kids.one c rfl λY c=>?_;rw[oV c 0 rfl];have b2:=Jf m;refine aY c 4 rfl (ih _ _ j Y om om (c.hasM 4 rfl) hx) λy Q Z k hy c=>?_;obtain⟨C,D,b3,rfl,O⟩:=hy.open;have c:dQ M.A w Z [.urow 25 6 (cW g 0 o.kids.length o.kids.length) o.kids.length (d++f),obE t ob0 (.slice aw 0 0) (.slice aw 0 0),obE b o vk' (.slice (ax p) o.kids.length cap),.mem Q]:=c.tail;refine aC (cR avI Me om om) |>.mpr ?_;rw[auW,avC];refine D4 0 c rfl (u:=obV o.kids[i] C D) (new:=obC o.kids[i] C D) rfl Me (mT _ O.keys.one O.kids.one) (by show i*6+6<=_;omega) λb5 c=>?_;rw[aA om om];refine aU ⟨i+1,Q,d++obC o.kids[i] C D,f.drop 6,rfl,om,hle.trans k,?_,?_,?_⟩ (by simp[n0,RowKit.intOf];omega)
   ·rw[avP m];exact dX (s.le k) (tP hy)
   ·rw[auU,l];show i*6+6=_;omega
   ·have e:(d++f).take (i*6)++obC o.kids[i] C D++(d++f).drop (i*6+(obC o.kids[i] C D).length)=d++obC o.kids[i] C D++f.drop 6:=by
     rw[axU l,ayV,awK (by rw[l];omega),awW,l]
     congr 2
     show i*6+6 - i*6=6;omega
    rw[e] at c;exact c
  ·have m:i=o.kids.length:=om
   subst m;simp only[H,auT,i_f];have hz:f=[]:=ayT om;subst hz;rw[awF,avX (auY _)] at *;rw[eW];refine aK 2 c rfl krx rfl (show 0+5 < 6 by omega) λw9 c=>?_;obtain⟨Q,k,P,c⟩:=dQ.bH (L:=[obE t ob0 (.slice aw 0 0) (.slice aw 0 0),obE b o vk' (cW g 0 o.kids.length o.kids.length),.mem j]) c 2 rfl;exact fin _ Q _ _ c (hle.trans k) rfl P (s.le k)
theorem yB (o:Ob)(v:aq)(M:Mem)(w:ao)(hw:o.wt<=100000000000)(d:M.has w)(e:OV M.A M.w v o):lA ah 21 #[v] M w (λv' N=>OV N.A N.w v' o):=by
 obtain⟨vk,vc,cs,rfl,f⟩:=e.open;refine aO d λK h=>JK ?_;unfold GS nz;refine dD o f.keys.one f.kids.one (dQ.memS d) λb j a=>?_;refine dF a λk w2 a=>?_;rw[oV a 1 rfl];refine aY a 2 rfl (RB o.wt o _ M w2 (auY _) hw (a.hasM 2 rfl) e) λy N w3 hle g a=>?_;obtain⟨l,m,i,rfl,c⟩:=g.open;refine bK 0 c.keys.one c.kids.one a rfl λn a=>?_;exact gC (bG (a.agg 0 rfl mQ)) (h _ _ N _ 2 a rfl hle g)
end
end Go.Proofs.YtkghomgfocpgeaaGreatDoor



namespace Go.Proofs.YtkghomgfocpgeaaGreatDoor
variable{A S:Nat->Prop}{E T1 U:TypeId}{K:VWP}{L:List Eng.Ent}{M N:Eng.Mem}{P:Program}{PK:PKT}{a:Int}{args:Array aq}{b cap d f i j m sz:Nat}{cb:Array Bool}{cs news xs:List aq}{ds:List Deferred}{e:Eng.Ent}{k':IntKind}{key:List UInt8}{o:Ob}{q:Bool}{t0 v v2 va vc vk:aq}{u:FrameMode}{w w0:ao}{xo yo:Operand}{t0 t1 t2:aq}{k0:Eng.KT}
section
open Eng Go.RowKit
theorem bO {b:Int}:DoX ah (mEq .neq 35 xo yo (ad a) (ad b)) w PK K=K (.bool (ai (a≠b))) w:=adC
end
end Go.Proofs.YtkghomgfocpgeaaGreatDoor

namespace Go.Proofs.YtkghomgfocpgeaaGreatDoor
variable{A S:Nat->Prop}{E T1 U:TypeId}{K:VWP}{L:List Eng.Ent}{M N:Eng.Mem}{P:Program}{PK:PKT}{a:Int}{args:Array aq}{b cap d f i j m sz:Nat}{cb:Array Bool}{cs news xs:List aq}{ds:List Deferred}{e:Eng.Ent}{k':IntKind}{key:List UInt8}{o:Ob}{q:Bool}{t0 v v2 va vc vk:aq}{u:FrameMode}{w w0:ao}{xo yo:Operand}{t0 t1 t2:aq}{k0:Eng.KT}
section
open Eng Go.RowKit
abbrev dY:Value:=.slice aw 0 0
abbrev ob1 (k n g:Int)(s:List UInt8):Ob:=.mk k n g s [] []
section
variable {w:ao}{S:Nat->Prop}{w0:ao}{L:List Ent}
theorem agF {K:Ending->ao->Prop}(a:dQ S w0 w (obE b o vk vc::L))(k:K (.returned (obV o vk vc)) w):zu ah [.cell (af b 0) 25] w K:=gC (bG (a.agg 0 rfl mQ)) k
end
def obR (o:Ob)(vk vc:aq)(w:ao):VWP:=λv w'=>v=obV o vk vc∧Below w.heap.size w w'
def G5 (v:aq)(b:Bool):Value:=.tuple #[v,.bool b]
def Cr (v:aq)(e:Int):Value:=.tuple #[v,ad e]
section
variable {w:ao}{S:Nat->Prop}{w0:ao}{L:List Ent}
theorem eU {K:Ending->ao->Prop}{x:aq}(i:Nat)(a:dQ S w0 w L)(hi:L[i]?=ax (obE b o vk vc))(k:K (.returned (.tuple #[obV o vk vc,x])) w):zu ah [.cell (af b 0) 25,.val x] w K:=
 mP (bG (a.agg i hi mQ)) pV k
theorem Qe :DoX ah (aN 25 #[]) w PK K=K (obV Vl.ob0 dY dY) w:=aC krx
end
theorem uS (n:Int)(w:ao):Ret ah 62 #[ad n] w (obR (ob1 2 n 0 []) dY dY w):=by
 refine aL λK d=>MU ?_;unfold LX nz;refine dF (Own.start w) λb c a=>?_;have e:∀{PK:PKT} {K:VWP},DoX ah (aN 25 #[(0,(ad 2)),(1,ad n)]) c PK K=K (obV (ob1 2 n 0 []) dY dY) c:=aC krx;rw[e];refine bK 0 rfl rfl a rfl λw2 a=>?_;exact agF a (d _ _ ⟨rfl,a.done⟩)
theorem iI (s:List UInt8)(w:ao):Ret ah 63 #[ae s] w (obR (ob1 5 0 0 s) dY dY w):=by
 refine aL λK d=>KQ ?_;unfold I1 nz;refine dF (Own.start w) λb c a=>?_;have e:∀{PK:PKT} {K:VWP},DoX ah (aN 25 #[(0,(ad 5)),(3,ae s)]) c PK K=K (obV (ob1 5 0 0 s) dY dY) c:=aC krx;rw[e];refine bK 0 rfl rfl a rfl λw2 a=>?_;exact agF a (d _ _ ⟨rfl,a.done⟩)
theorem Mu (o:Ob)(e:vk.oneCell'=av)(f:vc.oneCell'=av)(w:ao):Ret ah 71 #[obV o vk vc] w (λv w'=>v=.bool (Vl.keyed o)∧Below w.heap.size w w'):=by
 refine aL λK d=>Kt ?_;unfold Gg nz;refine dD o e f (Own.start w) λb g a=>?_;rw[cO,zn a 0 rfl];unfold Vl.keyed at d;by_cases c:o.k=7
 ·simp only[rs,c,auS,iO];exact d _ _ ⟨by simp[c],a.done⟩
 ·simp only[rs,c,auT,cO,zn a 0 rfl];exact d _ _ ⟨by simp[c],a.done⟩
theorem DZ (o:Ob)(v:aq)(key:List UInt8)(M:Mem)(w:ao)(hw:o.wt<=100000000000)(k:M.has w)(p:OV M.A M.w v o) :
  lA ah 39 #[v,ae key] M w (λr N=>∃v',r=G5 v' (Vl.get o key).isSome∧OV N.A N.w v' ((Vl.get o key).getD Vl.ob0)):=by
 obtain⟨vk,vc,cs,rfl,d⟩:=p.open;have s:Ob.wts o.kids<=100000000000:=by cases o;rw[Ob.wt] at hw;simp only[Ob.kids];omega
 have u:Pl.tot o.keys<=100000000000:=by cases o;rw[Ob.wt] at hw;simp only[Ob.keys];omega
 have z:=Pl.jK o.keys;have B:=Ob.pB o.kids;refine aO k λK l=>MS ?_;unfold Lm nz;refine dD o d.keys.one d.kids.one (dQ.memS k) λb L a=>?_;refine dF a λh w2 a=>?_;rw[oV a 1 rfl];refine aI a (R:=λv=>v=.bool (Vl.keyed o)) (Mu o d.keys.one d.kids.one w2) ?_;rintro _ w3 rfl a;have no:∀{W:ao},dQ M.A w W [obE h ob0 dY dY,obE b o vk vc,.mem M]->Vl.get o key=aw->DoX ah (aN 25 #[]) W (pk K) (λt W=>DoX ah (aV 25 (af h 0) t) W (pk K) λ_ W=>zu ah [.cell (af h 0) 25,.val (.bool au)] W K):=by
  intro W a f;rw[Qe];refine bK 0 rfl rfl a rfl λC a=>?_;refine eU 0 a rfl (l _ _ M _ 2 a rfl M.le_refl ⟨obV Vl.ob0 dY dY,?_,?_⟩)
  ·rw[f];rfl
  ·rw[f];exact CA M
 cases c:Vl.keyed o with
|false=>
  simp only[rs,awA];exact no a (by unfold Vl.get;rw[c];rfl)
|true=>
  simp only[rs,avY];rw[qZ,eP a 1 rfl];refine zq (Vz vk o.keys key w3 (d.keys.now (a.hasM 2 rfl)) om) ?_;by_cases hi:o.keys.idxOf key < o.keys.length
  ·rw[auP hi];have i:¬((o.keys.idxOf key:Int) < 0):=om
   simp only[rs,i,auT,eW,bW a 1 rfl];rw[aS avI (d.kids.now (a.hasM 2 rfl))];simp only[rs];by_cases m:(o.kids.length:Int)<=(o.keys.idxOf key:Int)
   ·simp only[m,auS,rs];refine no a ?_;unfold Vl.get;rw[c,auP rfl,auP hi,ayG om]
   ·simp only[m,auT,rs,eW,bW a 1 rfl];have e:o.keys.idxOf key < o.kids.length:=om
    have f:Vl.get o key=ax o.kids[o.keys.idxOf key]:=by
     unfold Vl.get;rw[c,auP rfl,auP hi,auX e]
    obtain⟨x,q,D,j⟩:=Lp d e;obtain⟨E,F⟩:=j w3 (a.hasM 2 rfl);refine aC E |>.mpr (aC F |>.mpr ?_);have G:=Jf e;refine aY a 2 rfl (yB _ x M w3 om (a.hasM 2 rfl) D) λy N C hle n a=>?_;obtain⟨H,I,J,rfl,g⟩:=n.open;refine bK 0 g.keys.one g.kids.one a rfl λO a=>?_;refine eU 0 a rfl (l _ _ N _ 2 a rfl hle ⟨obV o.kids[o.keys.idxOf key] H I,?_,?_⟩)
    ·rw[f];rfl
    ·rw[f];exact n
  ·rw[auO hi];have i:((-1:Int) < 0):=om
   simp only[rs,i,auS,iO];refine no a ?_;unfold Vl.get;rw[c,auP rfl,auO hi]
theorem kX (o:Ob)(v:aq)(key:List UInt8)(M:Mem)(w:ao)(hw:o.wt<=100000000000)(D:M.has w)(H:OV M.A M.w v o) :
  lA ah 6 #[v,ae key] M w (λr N=>∃v',r=G5 v' (Vl.get o key).isSome∧OV N.A N.w v' ((Vl.get o key).getD Vl.ob0)):=by
 obtain⟨vk,vc,cs,rfl,f⟩:=H.open;have I:Ob.wts o.kids<=100000000000:=by cases o;rw[Ob.wt] at hw;simp only[Ob.kids];omega
 have J:Pl.tot o.keys<=100000000000:=by cases o;rw[Ob.wt] at hw;simp only[Ob.keys];omega
 have L:=Pl.jK o.keys;have O:=Ob.pB o.kids;refine aO D λK E=>Dp ?_;unfold tX nz;refine dD o f.keys.one f.kids.one (dQ.memS D) λb T a=>?_;refine dF a λg w2 a=>?_;have no:∀{W:ao},dQ M.A w W [obE g ob0 dY dY,obE b o vk vc,.mem M]->Vl.get o key=aw->DoX ah (aN 25 #[]) W (pk K) (λt W=>DoX ah (aV 25 (af g 0) t) W (pk K) λ_ W=>zu ah [.cell (af g 0) 25,.val (.bool au)] W K):=by
  intro W a h;rw[Qe];refine bK 0 rfl rfl a rfl λU a=>?_;refine eU 0 a rfl (E _ _ M _ 2 a rfl M.le_refl ⟨obV Vl.ob0 dY dY,?_,?_⟩)
  ·rw[h];rfl
  ·rw[h];exact CA M
 rw[cO,zn a 1 rfl];have main:Vl.keyed o=av->DoX ah (mFA 25 (af b 0) 4) w2 (pk K) (λt17 w=>
   DoX ah (aG 22 t17) w (pk K) λt18 w=>
   DoX ah (mB .len #[22] 3 #[au] #[t18]) w (pk K) λt19 w=>
   zr [(.bool au),(ad 0)] w (λj w P=>∀_:Sg,iA (ae key) (af b 0) (af g 0) (j.getD 0 undef) t18 t19 (j.getD 1 undef) w P K)):=by
  intro d;rw[qZ,eP a 1 rfl,aS avH (f.keys.now (a.hasM 2 rfl))];refine loop (λvs W=>∃i:Nat,vs=[.bool au,ad i]∧i<=o.keys.length∧key ∉ o.keys.take i∧dQ M.A w W [obE g ob0 dY dY,obE b o vk vc,.mem M]) (λvs _=>o.keys.length - n1 vs) ⟨0,rfl,om,sm,a⟩ ?_;clear a;rintro vs w3 ⟨i,rfl,hi,hm,a⟩ _;simp only[iA,gd,rs,nz];by_cases l:(i:Int) < (o.keys.length:Int)
  ·have c:i < o.keys.length:=om
   simp only[l,auS,i_t];obtain⟨q,y⟩:=aqJ f c;obtain⟨z,B⟩:=y w3 (a.hasM 2 rfl);refine aC z |>.mpr (aC B |>.mpr ?_);simp only[rs];by_cases he:o.keys[i]=key
   ·have m:o.keys.idxOf key=i:=aeD c hm he;simp only[he,auS,i_t,eW,bW a 1 rfl];rw[aS avI (f.kids.now (a.hasM 2 rfl))];simp only[rs];by_cases F:(o.kids.length:Int)<=(i:Int)
    ·simp only[F,auS,i_t];refine no a ?_;unfold Vl.get;rw[d,auP rfl,m,auP c,ayG om]
    ·simp only[F,auT,i_f,eW,bW a 1 rfl];have n:i < o.kids.length:=om
     have h:Vl.get o key=ax o.kids[i]:=by
      unfold Vl.get;rw[d,auP rfl,m,auP c,auX n]
     obtain⟨x,q,G,C⟩:=Lp f n;obtain⟨z,B⟩:=C w3 (a.hasM 2 rfl);refine aC z |>.mpr (aC B |>.mpr ?_);obtain⟨Q,R,S,rfl,p⟩:=G.open;refine bK 0 p.keys.one p.kids.one a rfl λV a=>?_;refine eU 0 a rfl (E _ _ M _ 2 a rfl M.le_refl ⟨obV o.kids[i] Q R,?_,?_⟩)
     ·rw[h];rfl
     ·rw[h];exact G
   ·simp only[he,auT,i_f];rw[aA om om];refine aU ⟨i+1,rfl,om,?_,a⟩ (by simp[n1,RowKit.intOf];omega);rw[aAQ,auX c];simp only[Option.toList,avZ,avV,not_or];exact⟨hm,λe=>he e.symm⟩
  ·simp only[l,auT,i_f];refine no a ?_;rw[avX om] at hm;unfold Vl.get;rw[d,auP rfl,auO (by rw[aBe];exact hm)]
 by_cases s:o.k=7
 ·simp only[rs,s,ne_eq,not_true,auT,iO];exact main (by simp[Vl.keyed,s])
 ·simp only[rs,s,ne_eq,axB,auS,cO,zn a 1 rfl];by_cases u:o.k=9
  ·simp only[u,not_true,auT,rs];exact main (by simp[Vl.keyed,u])
  ·simp only[u,axB,auS,rs];exact no a (by simp[Vl.get,Vl.keyed,s,u])
theorem LI (o:Ob)(v:aq)(M:Mem)(w:ao)(hw:o.wt<=100000000000)(f:M.has w)(e:OV M.A M.w v o) :
  lA ah 103 #[v] M w (λr N=>∃v',r=Cr v' (Vl.right o).2∧OV N.A N.w v' (Vl.right o).1):=by
 obtain⟨vk,vc,cs,rfl,d⟩:=e.open;refine aO f λK g=>Ku ?_;unfold F5 nz;refine dD o d.keys.one d.kids.one (dQ.memS f) λb i a=>?_;refine dF a λj w2 a=>?_;rw[oV a 1 rfl];refine aI a (R:=λv=>v=ad (Vl.check 1 o)) (jF o _ w2 (OV.inw (a.hasM 2 rfl) e) om) ?_;rintro _ w3 rfl a;simp only[bO];by_cases c:Vl.check 1 o=0
 ·simp only[c,ne_eq,not_true,auT,i_f];rw[oV a 1 rfl];refine bK 0 d.keys.one d.kids.one a rfl λh a=>?_;refine eU 0 a rfl (g _ _ M _ 2 a rfl M.le_refl ⟨obV o vk vc,?_,?_⟩)
  ·simp[Vl.right,c,Cr]
  ·simpa[Vl.right,c] using e
 ·simp only[c,ne_eq,axB,auS,i_t];rw[Qe];refine bK 0 rfl rfl a rfl λh a=>?_;refine eU 0 a rfl (g _ _ M _ 2 a rfl M.le_refl ⟨obV Vl.ob0 dY dY,?_,?_⟩)
  ·simp[Vl.right,c,Cr]
  ·simpa[Vl.right,c] using CA M
end
section
open Go
namespace Vl
theorem QR (l:List (List UInt8))(i:Nat):Pl.tot (l.take i)+Pl.tot (l.drop i)=Pl.tot l:=by
 rw[<-Pl.Ol,azL]
theorem R4:∀a b:List Ob,Ob.wts (a++b)=Ob.wts a+Ob.wts b
|[],b=>by rw[awW,Ob.wts];omega
|o::a,b=>by rw[ayP,Ob.wts,Ob.wts,R4 a b];omega
theorem LL (l:List Ob)(i:Nat):Ob.wts (l.take i)+Ob.wts (l.drop i)=Ob.wts l:=by
 rw[<-R4,azL]
theorem abN (l:List (List UInt8))(i j:Nat)(h:i<=j):Pl.tot (l.drop j)<=Pl.tot (l.drop i):=by
 have:=QR (l.drop i) (j - i);rw[azE,show i+(j - i)=j by omega] at this;omega
theorem abL (l:List Ob)(i j:Nat)(h:i<=j):Ob.wts (l.drop j)<=Ob.wts (l.drop i):=by
 have:=LL (l.drop i) (j - i);rw[azE,show i+(j - i)=j by omega] at this;omega
theorem jO (o:Ob):o.wt=6+o.s.length+Pl.tot o.keys+Ob.wts o.kids:=by cases o;rw[Ob.wt];rfl
theorem WW (o:Ob)(key:List UInt8)(v:Ob):(put o key v).wt<=o.wt+(key.length+1)+v.wt:=by
 rw[jO (put o key v),jO o];rw[show (put o key v).s=o.s from rfl,show (put o key v).keys=o.keys.take (place o.keys key)++key::o.keys.drop (place o.keys key+if hit o.keys key then 1 else 0) from rfl,
  show (put o key v).kids=o.kids.take (place o.keys key)++v::o.kids.drop (place o.keys key+if hit o.keys key then 1 else 0) from rfl]
 rw[Pl.Ol,R4];have b:=QR o.keys (place o.keys key);have c:=abN o.keys (place o.keys key) (place o.keys key+if hit o.keys key then 1 else 0) om;have d:=LL o.kids (place o.keys key);have e:=abL o.kids (place o.keys key) (place o.keys key+if hit o.keys key then 1 else 0) om;have a:∀l,Pl.tot (key::l)=key.length+1+Pl.tot l:=λl=>by simp[Pl.tot]
 rw[a,Ob.wts];omega
theorem Ut (key:List UInt8):∀(b:List (List UInt8)) (cs:List Ob),Pl.tot (fZ key b cs).1<=Pl.tot b∧Ob.wts (fZ key b cs).2<=Ob.wts cs
|[],cs=>by simp[fZ,Pl.tot,Ob.wts]
|k::b,[]=>by simp[fZ,Pl.tot,Ob.wts]
|k::b,c::cs=>by
  have d:∀a l,Pl.tot (a::l)=a.length+1+Pl.tot l:=λa l=>by simp[Pl.tot]
  obtain⟨e,f⟩:=Ut key b cs;rw[fZ];split
  ·rw[d,Ob.wts];exact⟨om,om⟩
  ·rw[d,d,Ob.wts,Ob.wts];exact⟨om,om⟩
theorem yI (o:Ob)(key:List UInt8):(bL o key).wt<=o.wt:=by
 rw[jO (bL o key),jO o];have:=Ut key o.keys o.kids;rw[show (bL o key).s=o.s from rfl,show (bL o key).keys=(fZ key o.keys o.kids).1 from rfl,show (bL o key).kids=(fZ key o.keys o.kids).2 from rfl];omega
theorem abK (o:Ob):(right o).1.wt<=o.wt:=by
 unfold right;split
 ·show ob0.wt<=_;rw[jO ob0,jO o];show 6+0+Pl.tot []+Ob.wts []<=_;simp[Pl.tot,Ob.wts];omega
 ·exact auY _
theorem aeU :((get o key).getD ob0).wt<=o.wt:=by
 have a:ob0.wt<=o.wt:=by
  rw[jO ob0,jO o];show 6+0+Pl.tot []+Ob.wts []<=_;simp[Pl.tot,Ob.wts];omega
 unfold get;split
 ·split
  ·rcases b:o.kids[o.keys.idxOf key]? with _|x
   ·exact a
   ·obtain⟨hi,rfl⟩:=avL.1 b;have c:=LL o.kids (o.keys.idxOf key);rw[avW hi,Ob.wts] at c;rw[jO o];simp only[awN];omega
  ·exact a
 ·exact a
theorem afF (o:Ob)(key:List UInt8)(v:Ob):(set o key v).1.wt<=o.wt+(key.length+1)+v.wt:=by
 have a:ob0.wt<=o.wt:=by
  rw[jO ob0,jO o];show 6+0+Pl.tot []+Ob.wts []<=_;simp[Pl.tot,Ob.wts];omega
 unfold set;split
 ·simp only;omega
 split
 ·simp only;omega
 split
 ·have:=yI o key;simp only;omega
 ·exact axN (abK _) (WW o key v)
end Vl
end
section
open Eng Go.RowKit
theorem dQ.sep (g:dQ S w0 w L)(i j:Nat)(l:i≠j){f:Ent}(hi:L[i]?=ax e)(m:L[j]?=ax f):∀k,e.blk k->¬f.blk k:=by
 obtain⟨a,rfl⟩:=avL.1 hi;obtain⟨b,rfl⟩:=avL.1 m;have hp:=azJ.1 g.apart;intro k d c;rcases awO i j with h|h
 ·exact hp i j a b h k d c
 ·exact hp j i b a om k c d
section
variable {w:ao}{S:Nat->Prop}{w0:ao}{L:List Ent}{PK:PKT}{K:VWP}
theorem JH (o:Ob)(a:vk.oneCell'=av)(c:vc.oneCell'=av)(d:dQ S w0 w L)(k:∀b w',dQ S w0 w' (obE b o vk vc::L)->K (cW b 0 1 1) w'):DoX ah (bJ 23 1 #[(0,obV o vk vc)]) w PK K:=by
 cases vk<;>first|(cases a;done)|skip
 all_goals cases vc<;>first|(cases c;done)|exact bB (λb=>cW b 0 1 1) (obC o _ _) 25 (λ_=>by kernel_rfl) d k
theorem R9 (s:List UInt8)(a:dQ S w0 w L)(k:∀b w',dQ S w0 w' (.cells b [ae s] 9::L)->K (cW b 0 1 1) w'):DoX ah (bJ 22 1 #[(0,ae s)]) w PK K:=
 bB (λb=>cW b 0 1 1) [ae s] 9 (λ_=>by kernel_rfl) a k
end
theorem NH (l:List (List UInt8))(i:Nat):(bT l).take (i*1)=bT (l.take i):=by rw[avQ];simp[bT]
theorem Ok (l:List (List UInt8))(i:Nat):(bT l).drop (i*1)=bT (l.drop i):=by rw[avQ];simp[bT]
theorem MN (a b:List (List UInt8)):bT (a++b)=bT a++bT b:=by simp[bT]
theorem KC {A:Nat->Prop}{w:ao}:∀{os:List Ob} {cs:List aq} (i:Nat),OVs A w cs os->OVs A w (cs.take (i*6)) (os.take i)
|_,_,0,_=>by rw[ayU,ayJ,ayJ];exact OVs.nil
|[],cs,i+1,h=>by rw[OVs] at h;subst h;rw[List.take_nil,List.take_nil];exact OVs.nil
|o::os,cs,i+1,h=>by
  rw[OVs] at h;obtain⟨a,rest,rfl,b,c,d⟩:=h;have e:(a++rest).take ((i+1)*6)=a++rest.take (i*6):=by
   rw[aAN,avX om]
   congr 2
   omega
  rw[e,aAy,OVs];exact⟨a,_,rfl,b,c,KC i d⟩
theorem Kz {A:Nat->Prop}{w:ao}:∀{os:List Ob} {cs:List aq} (i:Nat),OVs A w cs os->OVs A w (cs.drop (i*6)) (os.drop i)
|_,_,0,h=>by rw[ayU,ayS,ayS];exact h
|[],cs,i+1,h=>by rw[OVs] at h;subst h;rw[List.drop_nil,List.drop_nil];exact OVs.nil
|o::os,cs,i+1,h=>by
  rw[OVs] at h;obtain⟨a,rest,rfl,c,d,b⟩:=h;have e:(a++rest).drop ((i+1)*6)=rest.drop (i*6):=by
   rw[ayV,awK om,awW]
   congr 1
   omega
  rw[e,aAx];exact Kz i b
theorem UA (o x:Ob)(v u:aq)(key:List UInt8)(M:Mem)(w:ao)(hw:o.wt<=10000000000)(U:M.has w)(Y:OV M.A M.w v o)(hu:OV M.A M.w u x)(Z:Vl.NK o.keys)(hlen:o.keys.length=o.kids.length) :
  lA ah 104 #[v,ae key,u] M w (λr N=>OV N.A N.w r (Vl.put o key x)):=by
 obtain⟨vk,vc,cs,rfl,i⟩:=Y.open;obtain⟨d,e,a1,rfl,q⟩:=hu.open;have a6:Ob.wts o.kids<=10000000000:=by cases o;rw[Ob.wt] at hw;simp only[Ob.kids];omega
 have a7:Pl.tot o.keys<=10000000000:=by cases o;rw[Ob.wt] at hw;simp only[Ob.keys];omega
 have a8:=Pl.jK o.keys;have b0:=Ob.pB o.kids;refine aO U λK hK=>ML ?_;unfold Jp nz;refine dD o i.keys.one i.kids.one (dQ.memS U) λb3 w1 a=>?_;refine dD x q.keys.one q.kids.one a λj w2 a=>?_;refine dF a λl w3 a=>?_;rw[qZ,eP a 2 rfl];refine zq (KY vk o.keys key w3 (i.keys.now (a.hasM 3 rfl)) Z om) ?_;simp only[ex];rw[qZ,eP a 2 rfl];refine Dv (CI vk _ _ w3 (i.keys.now (a.hasM 3 rfl)) wT om) λb w4 m=>?_;have a:=a.join m;have a:dQ M.A w w4 [.urow 9 1 b o.keys.length (bT o.keys),obE l ob0 dY dY,obE j x d e,obE b3 o vk vc,.mem M]:=a;rw[qZ];refine aK 3 a rfl krx (cP (a.at_ 0 rfl)) (show 0+4 < 6 by omega) λV a=>?_;have a:dQ M.A w V [.urow 9 1 b o.keys.length (bT o.keys),obE l ob0 dY dY,obE j x d e,obE b3 o b vc,.mem M]:=a;rw[eW,bW a 3 rfl];refine Dv (Je vc _ _ V (i.kids.now (a.hasM 4 rfl)) (MG i.all) om) λc w6 m=>?_;have a:=a.join m;have a:dQ M.A w w6 [.urow 25 6 c o.kids.length cs,.urow 9 1 b o.keys.length (bT o.keys),obE l ob0 dY dY,obE j x d e,obE b3 o b vc,.mem M]:=a;rw[eW];refine aK 4 a rfl krx (cP (a.at_ 0 rfl)) (show 0+5 < 6 by omega) λw7 a=>?_;have a:dQ M.A w w7 [.urow 25 6 c o.kids.length cs,.urow 9 1 b o.keys.length (bT o.keys),obE l ob0 dY dY,obE j x d e,obE b3 o b c,.mem M]:=a;have B:=Vl.KB o.keys key;refine join λJ hJ=>?_;have fin:∀(W:ao) (f cv:aq) (t:List (List UInt8)) (os:List Ob) (ds:List aq),dQ M.A w W [.urow 25 6 cv os.length ds,.urow 9 1 f t.length (bT t),obE l ob0 dY dY,obE j x d e,obE b3 o f cv,.mem M] ->
   OVs M.A M.w ds os->Vl.put o key x=.mk o.k o.n o.g o.s t os->J [] W:=by
  intro W f cv t os ds a C D;refine hJ _ _ λ_=>?_;unfold E8 nz;have G:=cP (a.at_ 1 rfl);have H:=cP (a.at_ 0 rfl);obtain⟨N,hle,E,a⟩:=dQ.bH (L:=[.urow 9 1 f t.length (bT t),obE l ob0 dY dY,obE j x d e,obE b3 o f cv,.mem M]) a 4 rfl;obtain⟨X,p,y,a⟩:=dQ.bH (L:=[obE l ob0 dY dY,obE j x d e,obE b3 o f cv,.mem N]) a 3 rfl;have a:dQ M.A w W [obE l ob0 dY dY,obE j x d e,obE b3 o f cv,.mem X]:=a;rw[oV a 2 rfl];refine bK 0 G H a rfl λF a=>?_;refine gC (bG (a.agg 0 rfl mQ)) (hK _ _ X _ 3 a rfl (hle.trans p) ?_);rw[D];exact zz.ov (o:=.mk o.k o.n o.g o.s t os) ⟨y,E.le p,C.le (hle.trans p)⟩
 cases I:Vl.hit o.keys key with
|true=>
  simp only[i_t];have hi:o.keys[Vl.place o.keys key]?=ax key:=avG I;have O:Vl.place o.keys key < o.keys.length:=(avL.1 hi).1;have hg:o.keys[Vl.place o.keys key]=key:=(avL.1 hi).2;rw[eW,bW a 4 rfl,oV a 3 rfl];obtain⟨g,cap,rfl⟩:=rM (a.at_ 0 rfl) om;refine aC (cR avI Me om om) |>.mpr ?_;rw[auW,avC];have b1:cs.length=o.kids.length*6:=i.kids.1.1;refine D4 0 a rfl (u:=obV x d e) (new:=obC x d e) rfl Me (mT _ q.keys.one q.kids.one) (by show _+6<=_;omega) λF a=>?_;have e1:o.keys.take (Vl.place o.keys key)++key::o.keys.drop (Vl.place o.keys key+1)=o.keys:=by
   conv=>rhs;rw[<-azL (Vl.place o.keys key) o.keys,avW O,hg]
  refine fin F b (cW g 0 o.kids.length cap) o.keys (o.kids.take (Vl.place o.keys key)++x::o.kids.drop (Vl.place o.keys key+1)) (cs.take (Vl.place o.keys key*6)++obC x d e++cs.drop (Vl.place o.keys key*6+6)) ?_ ?_ ?_
  ·have el:(o.kids.take (Vl.place o.keys key)++x::o.kids.drop (Vl.place o.keys key+1)).length=o.kids.length:=by simp;omega
   rw[el];exact a
  ·have:=dX (KC (Vl.place o.keys key) i.all) (dX (tP hu) (Kz (Vl.place o.keys key+1) i.all));rw[show (Vl.place o.keys key+1)*6=Vl.place o.keys key*6+6 by omega,<-avO] at this;exact this
  ·unfold Vl.put;rw[I];simp only[if_true];rw[e1]
|false=>
  simp only[i_f];rw[qZ,eP a 4 rfl];refine R9 key a λnb F a=>?_;refine UK 2 a rfl (Po b o.keys.length (bT o.keys) (Vl.place o.keys key) nb [ae key] F (a.at_ 2 rfl) (a.at_ 0 rfl) rfl (λh=>(dQ.sep a 2 0 om rfl rfl) nb h rfl) wT (by simp[Value.oneCell']) B om) ?_;rintro f e' w9 rfl a;have a:dQ M.A w w9 [.cells nb [ae key] 9,.urow 25 6 c o.kids.length cs,.urow 9 1 f (o.keys.length+1) ((bT o.keys).take (Vl.place o.keys key*1)++[ae key]++(bT o.keys).drop (Vl.place o.keys key*1)),obE l ob0 dY dY,obE j x d e,obE b3 o b c,.mem M]:=a;rw[NH,Ok] at a;have a:=a.tail;rw[qZ];refine aK 4 a rfl krx (cP (a.at_ 1 rfl)) (show 0+4 < 6 by omega) λP a=>?_;have a:dQ M.A w P [.urow 25 6 c o.kids.length cs,.urow 9 1 f (o.keys.length+1) (bT (o.keys.take (Vl.place o.keys key))++[ae key]++bT (o.keys.drop (Vl.place o.keys key))),obE l ob0 dY dY,obE j x d e,obE b3 o f c,.mem M]:=a;rw[eW,bW a 4 rfl,oV a 3 rfl];refine JH x q.keys.one q.kids.one a λz Q a=>?_;refine UK 1 a rfl (OJ c o.kids.length cs (Vl.place o.keys key) z (obC x d e) Q (a.at_ 1 rfl) (a.at_ 0 rfl) rfl (λh=>(dQ.sep a 1 0 om rfl rfl) z h rfl) (MG i.all) (mT _ q.keys.one q.kids.one) om om) ?_;rintro cv e' R rfl a;have a:dQ M.A w R [.cells z (obC x d e) 25,.urow 25 6 cv (o.kids.length+1) (cs.take (Vl.place o.keys key*6)++obC x d e++cs.drop (Vl.place o.keys key*6)),.urow 9 1 f (o.keys.length+1) (bT (o.keys.take (Vl.place o.keys key))++[ae key]++bT (o.keys.drop (Vl.place o.keys key))),obE l ob0 dY dY,obE j x d e,obE b3 o f c,.mem M]:=a;have a:=a.tail;rw[eW];refine aK 4 a rfl krx (cP (a.at_ 0 rfl)) (show 0+5 < 6 by omega) λS a=>?_;refine fin S f cv (o.keys.take (Vl.place o.keys key)++key::o.keys.drop (Vl.place o.keys key)) (o.kids.take (Vl.place o.keys key)++x::o.kids.drop (Vl.place o.keys key)) (cs.take (Vl.place o.keys key*6)++obC x d e++cs.drop (Vl.place o.keys key*6)) ?_ ?_ ?_
  ·have el:(o.kids.take (Vl.place o.keys key)++x::o.kids.drop (Vl.place o.keys key)).length=o.kids.length+1:=by simp;omega
   have T:(o.keys.take (Vl.place o.keys key)++key::o.keys.drop (Vl.place o.keys key)).length=o.keys.length+1:=by simp;omega
   have es:bT (o.keys.take (Vl.place o.keys key)++key::o.keys.drop (Vl.place o.keys key))=bT (o.keys.take (Vl.place o.keys key))++[ae key]++bT (o.keys.drop (Vl.place o.keys key)):=by
    rw[MN];simp[bT,strV]
   rw[el,T,es];exact a
  ·have:=dX (KC (Vl.place o.keys key) i.all) (dX (tP hu) (Kz (Vl.place o.keys key) i.all));rw[<-avO] at this;exact this
  ·unfold Vl.put;rw[I];simp
theorem Sl.upto {a:Option Addr}{n:Nat}(h:Sl w (.slice a n cap) sz n cs)(hi:i<=n):Sl w (.slice (zx a 0 cap sz) i cap) sz i (cs.take (i*sz)):=by
 obtain⟨g,a',d,e,k,f⟩:=h
 injection e with l _ m
 subst l;subst m;refine⟨by rw[avA,g,awB (awL _ hi)],zx a 0 cap sz,cap,rfl,?_,?_⟩
 ·intro c;cases a with
 |none=>have:=k rfl;omega
 |some p=>unfold zx at c;split at c<;>simp at c
 ·intro p hp;cases a with
 |none=>unfold zx at hp;split at hp<;>simp at hp
 |some q=>
   have o:q=p:=by
    unfold zx at hp;split at hp
    ·exact ayB hp
    ·have:=ayB hp;rw[<-this];simp[Addr.add]
   subst o;refine⟨λh=>(f q rfl).1 om,λj u b=>(f q rfl).2 j u ?_⟩;rw[axS] at b;split at b<;>first|exact b|cases b
theorem Sl.from {a:Option Addr}{n:Nat}(h:Sl w (.slice a n cap) sz n cs)(hi:i<=n)(z:n<=cap):Sl w (.slice (zx a i cap sz) (n - i) (cap - i)) sz (n - i) (cs.drop (i*sz)):=by
 obtain⟨g,a',t,e,v,k⟩:=h
 injection e with x _ y
 subst x;subst y;refine⟨by rw[avF,g,<-aAj],zx a i cap sz,cap - i,rfl,?_,?_⟩
 ·intro c;cases a with
 |none=>have:=v rfl;omega
 |some p=>unfold zx at c;split at c<;>simp at c
 ·intro p hp;cases a with
 |none=>unfold zx at hp;split at hp<;>simp at hp
 |some q=>
   by_cases l:cap=i
   ·have c:n - i=0:=om
    refine⟨λh=>by omega,λj u d=>?_⟩;have:(cs.drop (i*sz)).length=0:=by rw[avF,g,<-aAj,c,ayU]
    have:=(avL.1 d).1;omega
   ·unfold zx at hp;rw[auO l,aAi] at hp
    injection hp with hp
    have m:0 < n - i->q.spot=none:=λh=>(k q rfl).1 om;refine⟨λh=>?_,λj u d=>?_⟩
    ·have f:=m h;rw[<-hp];obtain⟨b,off,spot⟩:=q;simp only at f;subst f;rw[cM]
    ·rw[axJ] at d;have o:=(k q rfl).2 (i*sz+j) u d;have r:=(avL.1 d).1;have f:q.spot=none:=(k q rfl).1 (by
      rcases axG n with s|s
      ·rw[g,s,ayU] at r;omega
      ·exact s)
     rw[<-hp];obtain⟨b,off,spot⟩:=q;simp only at f;subst f;rw[cM,axK];exact o
theorem SlA.form {n:Nat}(h:SlA A w v sz n cs):∃a cap,v=.slice a n cap∧n<=cap:=by
 obtain⟨⟨_,a,cap,rfl,_⟩,_,b⟩:=h;exact⟨a,cap,rfl,b a n cap rfl⟩
theorem QI (o:Ob)(v:aq)(i:Nat)(M:Mem)(w:ao)(hw:o.wt<=10000000000)(y:M.has w)(D:OV M.A M.w v o)(hi:i < o.keys.length)(hlen:o.keys.length=o.kids.length) :
  lA ah 141 #[v,ad (i:Int)] M w (λr N=>OV N.A N.w r (.mk o.k o.n o.g o.s (o.keys.take i++o.keys.drop (i+1)) (o.kids.take i++o.kids.drop (i+1)))):=by
 obtain⟨vk,vc,cs,rfl,f⟩:=D.open;have E:Ob.wts o.kids<=10000000000:=by cases o;rw[Ob.wt] at hw;simp only[Ob.kids];omega
 have F:Pl.tot o.keys<=10000000000:=by cases o;rw[Ob.wt] at hw;simp only[Ob.keys];omega
 have G:=Pl.jK o.keys;have H:=Ob.pB o.kids;refine aO y λK I=>GK ?_;unfold DF nz;refine dD o f.keys.one f.kids.one (dQ.memS y) λb2 P a=>?_;refine dF a λe w2 a=>?_;rw[qZ,eP a 1 rfl];refine Dv (CI vk _ _ w2 (f.keys.now (a.hasM 2 rfl)) wT om) λl w3 c=>?_;have a:=a.join c;have a:dQ M.A w w3 [.urow 9 1 l o.keys.length (bT o.keys),obE e ob0 dY dY,obE b2 o vk vc,.mem M]:=a;simp only[rs];rw[aA om om,show (i:Int)+1=((i+1:Nat):Int) by omega];refine UK 0 a rfl (Pp l o.keys.length (bT o.keys) i w3 (a.at_ 0 rfl) wT hi om) ?_;rintro b e' J rfl a;have a:dQ M.A w J [.urow 9 1 b (o.keys.length - 1) ((bT o.keys).take (i*1)++(bT o.keys).drop ((i+1)*1)),obE e ob0 dY dY,obE b2 o vk vc,.mem M]:=a;rw[NH,Ok] at a;rw[qZ];have m:=cP (a.at_ 0 rfl);refine aK 2 a rfl krx m (show 0+4 < 6 by omega) λz a=>?_;have a:dQ M.A w z [.urow 9 1 b (o.keys.length - 1) (bT (o.keys.take i)++bT (o.keys.drop (i+1))),obE e ob0 dY dY,obE b2 o b vc,.mem M]:=a;rw[eW,bW a 2 rfl];refine Dv (Je vc _ _ z (f.kids.now (a.hasM 3 rfl)) (MG f.all) om) λp B c=>?_;have a:=a.join c;have a:dQ M.A w B [.urow 25 6 p o.kids.length cs,.urow 9 1 b (o.keys.length - 1) (bT (o.keys.take i)++bT (o.keys.drop (i+1))),obE e ob0 dY dY,obE b2 o b vc,.mem M]:=a;refine UK 0 a rfl (PF p o.kids.length cs i B (a.at_ 0 rfl) (MG f.all) om om) ?_;rintro cv e' O rfl a;have a:dQ M.A w O [.urow 25 6 cv (o.kids.length - 1) (cs.take (i*6)++cs.drop ((i+1)*6)),.urow 9 1 b (o.keys.length - 1) (bT (o.keys.take i)++bT (o.keys.drop (i+1))),obE e ob0 dY dY,obE b2 o b vc,.mem M]:=a;have q:=cP (a.at_ 0 rfl);rw[eW];refine aK 3 a rfl krx q (show 0+5 < 6 by omega) λC a=>?_;have a:dQ M.A w C [.urow 25 6 cv (o.kids.length - 1) (cs.take (i*6)++cs.drop ((i+1)*6)),.urow 9 1 b (o.keys.length - 1) (bT (o.keys.take i)++bT (o.keys.drop (i+1))),obE e ob0 dY dY,obE b2 o b cv,.mem M]:=a;obtain⟨N,hle,t,a⟩:=dQ.bH (L:=[.urow 9 1 b (o.keys.length - 1) (bT (o.keys.take i)++bT (o.keys.drop (i+1))),obE e ob0 dY dY,obE b2 o b cv,.mem M]) a 3 rfl;obtain⟨j,d,h,a⟩:=dQ.bH (L:=[obE e ob0 dY dY,obE b2 o b cv,.mem N]) a 2 rfl;have a:dQ M.A w C [obE e ob0 dY dY,obE b2 o b cv,.mem j]:=a;rw[oV a 1 rfl];refine bK 0 m q a rfl λQ a=>?_;refine gC (bG (a.agg 0 rfl mQ)) (I _ _ j _ 2 a rfl (hle.trans d) ?_);have u:(o.keys.take i++o.keys.drop (i+1)).length=o.keys.length - 1:=by simp;omega
 have x:(o.kids.take i++o.kids.drop (i+1)).length=o.kids.length - 1:=by simp;omega
 refine zz.ov (o:=.mk o.k o.n o.g o.s (o.keys.take i++o.keys.drop (i+1)) (o.kids.take i++o.kids.drop (i+1))) (vk:=b) (vc:=cv) (cs:=cs.take (i*6)++cs.drop ((i+1)*6)) ⟨?_,?_,?_⟩
 ·show SlA j.A j.w b 1 (o.keys.take i++o.keys.drop (i+1)).length (bT (o.keys.take i++o.keys.drop (i+1)));rw[u,MN];exact h
 ·show SlA j.A j.w cv 6 (o.kids.take i++o.kids.drop (i+1)).length _;rw[x];exact t.le d
 ·exact (dX (KC i f.all) (Kz (i+1) f.all)).le (hle.trans d)
def ej (o:Ob)(key:List UInt8):Ob:=if Vl.keyed o=av∧Vl.check 1 o=0 then Vl.bL o key else o
theorem F6 (o:Ob)(v:aq)(key:List UInt8)(M:Mem)(w:ao)(hw:o.wt<=10000000000)(s:M.has w)(e:OV M.A M.w v o) :
  lA ah 102 #[v,ae key] M w (λr N=>OV N.A N.w r (ej o key)):=by
 obtain⟨vk,vc,cs,rfl,h⟩:=e.open;have x:Pl.tot o.keys<=10000000000:=by cases o;rw[Ob.wt] at hw;simp only[Ob.keys];omega
 have z:=Pl.jK o.keys;refine aO s λK B=>LU ?_;unfold JF nz;refine dD o h.keys.one h.kids.one (dQ.memS s) λb2 L a=>?_;refine dF a λC w2 a=>?_;refine join λJ D=>?_;have fin:∀(W:ao) (N:Mem) (p:Ob) (l cv:aq),dQ M.A w W [obE C ob0 dY dY,obE b2 p l cv,.mem N]->M.le N->OV N.A N.w (obV p l cv) p->p=ej o key->p.wt<=10000000000->J [] W:=by
  intro W N p l cv a hle hp he E;refine D _ _ λ_=>?_;unfold EV nz;rw[oV a 1 rfl];refine aY a 2 rfl (yB p _ N W om (a.hasM 2 rfl) hp) λy F i j f a=>?_;obtain⟨t,u,m,rfl,b⟩:=f.open;refine bK 0 b.keys.one b.kids.one a rfl λG a=>?_;exact gC (bG (a.agg 0 rfl mQ)) (B _ _ F _ 2 a rfl (hle.trans j) (he▸f))
 rw[oV a 1 rfl];refine aI a (R:=λv=>v=.bool (Vl.keyed o)) (Mu o h.keys.one h.kids.one w2) ?_;rintro _ w3 rfl a;cases c:Vl.keyed o with
|false=>
  simp only[rs,iO];exact fin w3 M o vk vc a M.le_refl e (by unfold ej;rw[auO (by simp[c])]) hw
|true=>
  simp only[rs];rw[oV a 1 rfl];refine aI a (R:=λv=>v=ad (Vl.check 1 o)) (jF o _ w3 (OV.inw (a.hasM 2 rfl) e) om) ?_;rintro _ i rfl a;simp only[rs];by_cases g:Vl.check 1 o=0
  ·simp only[g,auS,rs];obtain⟨H,hlen⟩:=Vl.DX g c;rw[qZ,eP a 1 rfl];refine zq (KY vk o.keys key i (h.keys.now (a.hasM 2 rfl)) H om) ?_;simp only[ex];have d:=Vl.Wk g c key;have k:ej o key=Vl.bL o key:=by unfold ej;rw[auP ⟨c,g⟩]
   cases n:Vl.hit o.keys key with
  |true=>
    simp only[i_t];rw[n,auP rfl] at d;have hi:o.keys[Vl.place o.keys key]?=ax key:=avG n;have q:Vl.place o.keys key < o.keys.length:=(avL.1 hi).1;rw[oV a 1 rfl];refine aY a 2 rfl (QI o _ _ M i hw (a.hasM 2 rfl) e q hlen) λy N G hle f a=>?_;rw[<-d] at f;obtain⟨t,u,m,rfl,b⟩:=f.open;refine bK 1 b.keys.one b.kids.one a rfl λI a=>?_;exact fin I N _ t u a hle f k.symm (axN (Vl.yI o key) hw)
  |false=>
    simp only[i_f];rw[n] at d;exact fin i M o vk vc a M.le_refl e (by rw[k,d];rfl) hw
  ·simp only[g,auT,rs];exact fin i M o vk vc a M.le_refl e (by unfold ej;rw[auO (by simp[g])]) hw
theorem OR (o x:Ob)(v u:aq)(key:List UInt8)(M:Mem)(w:ao)(hw:o.wt<=10000000000)(E:x.wt<=10000000000)(F:key.length<=10000000000)(s:M.has w)(i:OV M.A M.w v o)(hu:OV M.A M.w u x) :
  lA ah 65 #[v,ae key,u] M w (λr N=>∃v',r=Cr v' (Vl.set o key x).2∧OV N.A N.w v' (Vl.set o key x).1):=by
 obtain⟨vk,vc,cs,rfl,j⟩:=i.open;obtain⟨X,Y,G,rfl,B⟩:=hu.open;refine aO s λK l=>Nb ?_;unfold LO nz;refine dD o j.keys.one j.kids.one (dQ.memS s) λb3 Z a=>?_;refine dD x B.keys.one B.kids.one a λb5 w2 a=>?_;refine dF a λb6 w3 a=>?_;rw[oV a 2 rfl];refine aI a (R:=λv=>v=.bool (Vl.keyed o)) (Mu o j.keys.one j.kids.one w3) ?_;rintro _ H rfl a;cases b:Vl.keyed o with
|false=>
  simp only[rs,awA];rw[Qe];refine bK 0 rfl rfl a rfl λp a=>?_;refine eU 0 a rfl (l _ _ M _ 3 a rfl M.le_refl ⟨obV Vl.ob0 dY dY,?_,?_⟩)
  ·simp[Vl.set,b,Cr]
  ·simpa[Vl.set,b] using CA M
|true=>
  simp only[rs,avY];rw[oV a 2 rfl];refine aI a (R:=λv=>v=ad (Vl.check 1 o)) (jF o _ H (OV.inw (a.hasM 3 rfl) i) om) ?_;rintro _ p rfl a;simp only[bO];by_cases c:Vl.check 1 o=0
  ·simp only[c,ne_eq,not_true,auT,i_f];rw[cO,zn a 1 rfl];simp only[rs];by_cases m:x.k=0
   ·simp only[m,auS,i_t];rw[oV a 2 rfl];refine aY a 3 rfl (F6 o _ key M p hw (a.hasM 3 rfl) i) λy N q hle n a=>?_;obtain⟨I,J,L,rfl,d⟩:=n.open;refine bK 0 d.keys.one d.kids.one a rfl λC a=>?_;have e:Vl.set o key x=(ej o key,0):=by simp[Vl.set,b,c,m,ej]
    refine eU 0 a rfl (l _ _ N _ 3 a rfl hle ⟨obV (ej o key) I J,?_,?_⟩)
    ·rw[e];rfl
    ·rw[e];exact n
   ·simp only[m,auT,i_f];rw[oV a 2 rfl,oV a 1 rfl];obtain⟨O,hlen⟩:=Vl.DX c b;have P:=Vl.WW o key x;refine aY a 3 rfl (UA o x _ _ key M p hw (a.hasM 3 rfl) i hu O hlen) λy N q hle n a=>?_;refine aY a 3 rfl (yB _ _ N q om (a.hasM 3 rfl) n) λz Q C f S a=>?_;refine aY a 3 rfl (LI _ _ Q C om (a.hasM 3 rfl) S) ?_;rintro _ T w8 g ⟨t,rfl,D⟩ a;obtain⟨U,V,W,rfl,h⟩:=D.open;simp only[Cr,ex];refine bK 0 h.keys.one h.kids.one a rfl λw9 a=>?_;have e:Vl.set o key x=Vl.right (Vl.put o key x):=by simp[Vl.set,b,c,m]
    refine eU 0 a rfl (l _ _ T _ 3 a rfl (hle.trans (f.trans g)) ⟨obV (Vl.right (Vl.put o key x)).1 U V,?_,?_⟩)
    ·rw[e];rfl
    ·rw[e];exact D
  ·simp only[c,ne_eq,axB,auS,i_t];rw[Qe];refine bK 0 rfl rfl a rfl λq a=>?_;refine eU 0 a rfl (l _ _ M _ 3 a rfl M.le_refl ⟨obV Vl.ob0 dY dY,?_,?_⟩)
   ·simp[Vl.set,b,c,Cr]
   ·simpa[Vl.set,b,c] using CA M
theorem auF:elB ah 9 1 16=true:=krx
theorem elOb:elB ah 25 6 88=true:=krx
section
variable {w:ao}{S:Nat->Prop}{w0:ao}{L:List Ent}{PK:PKT}{K:VWP}
theorem atA (i:Nat){n:Nat}(a:dQ S w0 w L)(hi:L[i]?=ax (.urow 9 1 v n xs))(b:Sl w v2 1 m news)(c:∀u∈news,u.oneCell'=av)(d:n+m<=1000000000000)
  (k:∀v' w',dQ S w0 w' (L.set i (.urow 9 1 v' (n+m) (xs++news)))->K v' w'):DoX ah (mB .append #[22,22] 22 cb #[v,v2]) w PK K:=
 bN i avH auF dc a hi b c om om k
theorem Ve (i:Nat){n:Nat}(a:dQ S w0 w L)(hi:L[i]?=ax (.urow 25 6 v n xs))(b:Sl w v2 6 m news)(c:∀u∈news,u.oneCell'=av)(d:n+m<=1000000000000)
  (k:∀v' w',dQ S w0 w' (L.set i (.urow 25 6 v' (n+m) (xs++news)))->K v' w'):DoX ah (mB .append #[23,23] 23 cb #[v,v2]) w PK K:=
 bN i avI elOb dc a hi b c om om k
end
end
section
namespace Eng
open Go.RowKit
def BF (k:List UInt8):Value:=ae k
def ZQ (w:ao)(b:Nat)(a:List (List UInt8×aq)):Prop:=∃es clock,w.heap[b]?=ax (.map es clock)∧es.toList.map (λe=>(e.key,e.val))=a.map λp=>(BF p.1,p.2)
def Ent.map (b:Nat)(d:List (List UInt8×aq)):Ent:=⟨λk=>k=b,λw=>ZQ w b d,λ{w w'} h k=>by
  obtain⟨es,clock,a,c⟩:=h;exact⟨es,clock,(k b rfl).trans a,c⟩,λh k e=>by
  obtain⟨es,clock,a,c⟩:=h;cases e;exact dN a⟩
def CK (a:List (List UInt8×aq))(k:List UInt8):Option Value:=(a.find? λp=>ai (p.1=k)).map (·.2)
theorem Mc (k:List UInt8):∀(es:List MapEntry) (b:List (List UInt8×aq)) (i:Nat),es.map (λe=>(e.key,e.val))=b.map (λp=>(BF p.1,p.2)) ->
  ∃r,Instr.findNow .string (BF k) es i=ax r∧r.map (·.2)=CK b k
|[],[],i,_=>⟨aw,rfl,rfl⟩
|e::es,p::b,i,h=>by
  simp only[awY,azY,azA] at h;obtain⟨⟨j,l⟩,m⟩:=h;have g:Instr.sameNow .string (BF k) e.key=ax (ai (k=p.1)):=by
   rw[j];show ax ((⟨k.toArray⟩:ByteArray)==⟨p.1.toArray⟩)=_
   congr 1
   show (k.toArray==p.1.toArray)=_;by_cases a:k=p.1<;>simp[a]
  by_cases a:k=p.1
  ·refine⟨ax (i,e.val),?_,?_⟩
   ·rw[Instr.findNow,g];simp[a]
   ·simp[CK,a,l]
  ·obtain⟨r,c,d⟩:=Mc k es b (i+1) m;refine⟨r,?_,?_⟩
   ·rw[Instr.findNow,g];simp[a,c]
   ·have f:¬p.1=k:=λe=>a e.symm;rw[d];simp[CK,f]
|[],_::_,_,h=>by simp at h
|_::_,[],_,h=>by simp at h
section
variable {S:Nat->Prop}{P:Program}{w w0:ao}{L:List Ent}{PK:PKT}{K:VWP}
theorem UF {T:TypeId}(a:dQ S w0 w L)(k:∀b w',dQ S w0 w' (.map b []::L)->K (.map (ax b)) w'):DoX P (mMap T aw) w PK K:=by
 have c:(Instr.makeMap T aw).run P w=.ok (.map (ax w.heap.size)) (w.alloc (.map #[] 0)):=rfl;exact yO (cE c) (k _ _ (a.add (World.grownBy_alloc w _ aw) (.map w.heap.size []) ⟨#[],0,heap_alloc_new w _,rfl⟩ (λk d=>by cases d;exact auY _)))
theorem Dn {k:TypeId}{e:Bool}(a:P.underlying k=ax .string)(x:List UInt8):(Instr.checkKey e 10000 k (BF x)).run P w=.ok () w:=by
 show (Instr.checkKey e (9999+1) k (BF x)).run P w=_;rw[Instr.checkKey];simp[run_underlying a,BF]
theorem MR {k:TypeId}(b:P.underlying k=ax .string)(x:List UInt8){es:List MapEntry}{a:List (List UInt8×aq)}(h:es.map (λe=>(e.key,e.val))=a.map (λp=>(BF p.1,p.2))) :
  ∃r,(Instr.findKey k (BF x) es).run P w=.ok r w∧r.map (·.2)=CK a x:=by
 obtain⟨r,c,d⟩:=Mc x es a 0 h;refine⟨r,?_,d⟩;simp[Instr.findKey,run_underlying b,c]
theorem O6 {T k e:TypeId}{ok:Bool}{a:List (List UInt8×aq)}{z:aq}(g:P.underlying T=ax (.map k e))(c:P.underlying k=ax .string)(m:(P.info? e).bind (·.zero)=ax z)(h:ZQ w b a)(x:List UInt8) :
  (Wd T (.map (ax b)) (BF x) ok).run P w=.ok (.value (if ok then .tuple #[(CK a x).getD z,.bool (CK a x).isSome] else (CK a x).getD z)) w:=by
 obtain⟨es,clock,j,n⟩:=h;obtain⟨r,l,o⟩:=MR (P:=P) (w:=w) c x n;have d:(zeroValue e).run P w=.ok z w:=by
  obtain⟨i,hi,f⟩:=azW.1 m;simp[zeroValue,typeInfo,hi,f]
 refine cE ?_;rw[<-o];cases r with
|none=>simp[Instr.lookup,run_underlying g,getObj,Sem.run,j,Dn c x,l,d]
|some p=>
  obtain⟨i,v⟩:=p;simp[Instr.lookup,run_underlying g,getObj,Sem.run,j,Dn c x,l]
theorem TS (i:Nat){T k e:TypeId}{c:List (List UInt8×aq)}(l:P.underlying T=ax (.map k e))(a:P.underlying k=ax .string)(f:dQ S w0 w L)(hi:L[i]?=ax (.map b c))(x:List UInt8)(v:aq)(m:CK c x=aw)
  (n:∀w',dQ S w0 w' (L.set i (.map b (c++[(x,v)])))->K undef w'):DoX P (acW T (.map (ax b)) (BF x) v) w PK K:=by
 obtain⟨es,clock,g,h⟩:=(show ZQ w b c from f.at_ i hi);obtain⟨r,o,j⟩:=MR (P:=P) (w:=w) a x h;have d:r=none:=by
  cases r with
 |none=>rfl
 |some p=>rw[m] at j;cases j
 subst d;have q:(Instr.mapUpdate T (.map (ax b)) (BF x) v).run P w=.ok () { w with heap:=w.heap.setIfInBounds b (.map (es.push { key:=BF x,val:=v,born:=clock }) (clock+1)) }:=by
  simp[Instr.mapUpdate,run_underlying l,getObj,setObj,Sem.run,g,Dn a x,o]
 refine Is (Og q) (n _ ?_);refine f.put i hi (w':={ w with heap:=w.heap.setIfInBounds b _ }) ⟨rfl,rfl,rfl,sm,λk _ a=>?_⟩ (.map b (c++[(x,v)])) ?_ (λk a=>.inl a)
 ·show (w.heap.setIfInBounds b _)[k]?=_;exact azH (λe=>a (by simp[Ent.map,e]))
 ·refine⟨es.push { key:=BF x,val:=v,born:=clock },clock+1,?_,?_⟩
  ·show (w.heap.setIfInBounds b _)[b]?=_;exact aBt (dN g)
  ·simp[h]
end
theorem NO {a:List (List UInt8×aq)}{k:List UInt8}:CK a k=aw↔k ∉ a.map (·.1):=by
 unfold CK;rw[Option.map_eq_none_iff,aAT];exact⟨λh hm=>by obtain⟨p,hp,rfl⟩:=awD.1 hm;simpa using h p hp,λh p hp b=>h (awD.2 ⟨p,hp,by simpa using b⟩)⟩
end Eng
end
section
open Go
namespace Vl
def zA:List Ob->Bool
|k::_::r=>ai (k.k=5)&&zA r
|[k]=>ai (k.k=5)
|[]=>av
def Td (met:List (List UInt8))(o:Ob):List Ob->Ob×Int
|k::v::r=>if k.s∈met then (ob0,9) else Td (met++[k.s]) (if v.k≠0 then put o k.s v else o) r
|_=>right o
def D0 (ps:List Ob):Ob×Int:=if ps.length % 2≠0 then (ob0,1) else if zA ps=au then (ob0,1) else Td [] (.mk 7 0 0 [] [] []) ps
theorem Up {v:Ob}(h:NK o.keys)(u:o.keys.length=o.kids.length):NK (put o key v).keys∧(put o key v).keys.length=(put o key v).kids.length:=by
 have hp:=KB o.keys key;refine⟨?_,?_⟩
 ·show NK (o.keys.take (place o.keys key)++key::o.keys.drop (place o.keys key+if hit o.keys key then 1 else 0));have f:∀x∈o.keys.take (place o.keys key),less x key=true:=by
   intro x c;obtain⟨m,hm,rfl⟩:=axT c;rw[avA] at hm;rw[List.getElem_take];exact acU om
  have g:∀x∈o.keys.drop (place o.keys key+if hit o.keys key then 1 else 0),less key x=true:=by
   intro x c;cases d:hit o.keys key with
  |true=>
    rw[d] at c;obtain⟨m,hm,rfl⟩:=axT c;simp only[if_true,avF] at hm;have hi:o.keys[place o.keys key]?=ax key:=avG d;have t:o.keys[place o.keys key]=key:=(avL.1 hi).2;have:=uF h (i:=place o.keys key) (j:=place o.keys key+1+m) om om;rw[t] at this;simpa using this
  |false=>
    rw[d] at c;obtain⟨m,hm,rfl⟩:=axT c;simp only[ayH,if_false,avF] at hm;have k:place o.keys key < o.keys.length:=om
    have l:=aaZ k;have n:o.keys[place o.keys key]≠key:=by
     intro e;unfold hit at d;rw[auX k,e] at d;simp at d
    have q:=VK l n;rcases axG m with r|r
    ·subst r;simpa using q
    ·have:=uF h (i:=place o.keys key) (j:=place o.keys key+m) om om;simpa using rE q this
  refine List.pairwise_append.2 ⟨h.sublist (List.take_sublist _ _),ayC.2 ⟨g,h.sublist (List.drop_sublist _ _)⟩,λa s b p=>?_⟩;rcases avB.1 p with rfl|p
  ·exact f a s
  ·exact rE (f a s) (g b p)
 ·show (o.keys.take (place o.keys key)++key::o.keys.drop (place o.keys key+if hit o.keys key then 1 else 0)).length=(o.kids.take (place o.keys key)++v::o.kids.drop (place o.keys key+if hit o.keys key then 1 else 0)).length;simp only[auU,avA,avR,avF];omega
theorem Qm {ps:List Ob}(h:i+1 < ps.length):zA (ps.drop i)=(ai ((ps[i]'(om)).k=5)&&zA (ps.drop (i+2))):=by
 rw[avW (show i < ps.length by omega),avW h,zA]
theorem Wv {ps:List Ob}{met:List (List UInt8)}(h:i+1 < ps.length):Td met o (ps.drop i)=if (ps[i]'(om)).s∈met then (ob0,9) else Td (met++[(ps[i]'(om)).s]) (if ps[i+1].k≠0 then put o (ps[i]'(om)).s ps[i+1] else o) (ps.drop (i+2)):=by
 rw[avW (show i < ps.length by omega),avW h,Td]
theorem aaW {ps:List Ob}(h:i+1 < ps.length):Ob.wts (ps.drop i)=(ps[i]'(om)).wt+ps[i+1].wt+Ob.wts (ps.drop (i+2)):=by
 rw[avW (show i < ps.length by omega),avW h,Ob.wts,Ob.wts,show i+1+1=i+2 from rfl];omega
end Vl
end
section
open Eng Go.RowKit
theorem Px (os:List Ob)(v:aq)(cs:List aq)(M:Mem)(w:ao)(hw:Ob.wts os<=10000000000)(g:M.has w)(h:SlA M.A M.w v 6 os.length cs)(d:OVs M.A M.w cs os) :
  lA ah 64 #[v] M w (λr N=>OV N.A N.w r (.mk 6 0 0 [] [] os)):=by
 obtain⟨a,cap,rfl,_⟩:=h.form;refine aO g λK j=>Kb ?_;unfold Gj nz;refine dF (dQ.memS g) λb f c=>?_;have k:∀{PK:PKT} {K:VWP},DoX ah (aN 25 #[(0,(ad 6)),(5,.slice a os.length cap)]) f PK K=K (obV (.mk 6 0 0 [] [] os) dY (.slice a os.length cap)) f:=aC krx;rw[k];refine aY c 1 rfl (yB (.mk 6 0 0 [] [] os) _ M f (by rw[Ob.wt];simp[Pl.tot];omega) (c.hasM 1 rfl) (zz.ov (o:=.mk 6 0 0 [] [] os) (vk:=dY) (cs:=cs) ⟨SlA.nil _ _ _ _,h,d⟩)) λy N w2 hle i c=>?_;obtain⟨m,n,l,rfl,e⟩:=i.open;refine bK 0 e.keys.one e.kids.one c rfl λw3 c=>?_;exact gC (bG (c.agg 0 rfl mQ)) (j _ _ N _ 1 c rfl hle i)
theorem Sl.cellAt {off n:Nat}(h:Sl w (cW b off n cap) sz n cs):∀j u,cs[j]?=ax u->w.cell? ⟨b,off+j,aw⟩=ax u:=by
 obtain⟨_,a,c,e,_,d⟩:=h
 injection e with f _ _
 exactλj u g=>(d _ f.symm).2 j u g
theorem apW :DoX ah (aN 25 #[(0,(ad 7))]) w PK K=K (obV (.mk 7 0 0 [] [] []) dY dY) w:=aC krx
theorem YJ (ps:List Ob)(v:aq)(cs:List aq)(M:Mem)(w:ao)(hw:Ob.wts ps<=1000000000)(hM:M.has w)(hs:SlA M.A M.w v 6 ps.length cs)(n:OVs M.A M.w cs ps) :
  lA ah 107 #[v] M w (λr N=>∃v',r=Cr v' (Vl.D0 ps).2∧OV N.A N.w v' (Vl.D0 ps).1):=by
 have a1:zz M.A M.w (.mk 0 0 0 [] [] ps) dY v cs:=⟨SlA.nil _ _ _ _,hs,n⟩;have e2:=Ob.pB ps;refine aO hM λK hK=>KZ ?_;unfold Ja nz;refine dF (dQ.memS hM) λb2 w1 b=>?_;rw[aS avI (hs.now (b.hasM 1 rfl)),Ep om];have hr:((ps.length:Int).tmod 2)=((ps.length % 2:Nat):Int):=by rw[aAD om];omega
 rw[hr];simp only[rs];have no:∀{W:ao} {N:Mem} {L:List Ent} (e:Int),dQ M.A w W (obE b2 ob0 dY dY::.mem N::L)->M.le N->Vl.D0 ps=(Vl.ob0,e)->DoX ah (aN 25 #[]) W (pk K) (λt W=>DoX ah (aV 25 (af b2 0) t) W (pk K) λ_ W=>zu ah [.cell (af b2 0) 25,.val (ad e)] W K):=by
  intro W N L e b hle G;rw[Qe];refine bK 0 rfl rfl b rfl λw4 b=>?_;refine eU 0 b rfl (hK _ _ N _ 1 b rfl hle ⟨obV Vl.ob0 dY dY,?_,?_⟩)
  ·rw[G];rfl
  ·rw[G];exact CA N
 by_cases a6:ps.length % 2=0
 case neg=>
  have h1:¬(((ps.length % 2:Nat):Int)=0):=om
  simp only[h1,ne_eq,axB,auS,i_t];exact no 1 b M.le_refl (by unfold Vl.D0;rw[auP a6])
 have h1:(((ps.length % 2:Nat):Int)=0):=om
 simp only[h1,ne_eq,not_true,auT,i_f];have H:Vl.D0 ps=if Vl.zA ps=au then (Vl.ob0,1) else Vl.Td [] (.mk 7 0 0 [] [] []) ps:=by unfold Vl.D0;rw[auO om]
 refine loop (λvs W=>∃(i:Nat) (x:aq),vs=[x,ad i]∧i<=ps.length∧i % 2=0∧Vl.zA ps=Vl.zA (ps.drop i)∧dQ M.A w W [obE b2 ob0 dY dY,.mem M]) (λvs _=>ps.length - n1 vs) ⟨0,_,rfl,om,rfl,sm,b⟩ ?_;clear b;rintro vs w2 ⟨i,x,rfl,hi,a7,B,b⟩ _;simp only[EZ,gd,nz];rw[aS avI (hs.now (b.hasM 1 rfl))];simp only[rs];by_cases f:(i:Int) < (ps.length:Int)
 ·have g:i+1 < ps.length:=om
  have I:i < ps.length:=om
  simp only[f,auS,i_t];obtain⟨p,q,hp,c3⟩:=Lp a1 I;have hp:OV M.A M.w p ps[i]:=hp;obtain⟨r1,_⟩:=c3 w2 (b.hasM 1 rfl);obtain⟨e3,pc,e4,rfl,e5⟩:=hp.open;obtain⟨bq,oq,cq,rfl,a8⟩:=bQ (hs.now (b.hasM 1 rfl)) om;refine aC (cR avI Me om om) |>.mpr ?_;rw[auW,cO];have O:w2.cell? ⟨bq,oq+i*6,aw⟩=ax (ad ps[i].k):=by
   obtain⟨a,P,S,C⟩:=OVs.get ps cs i I n;obtain⟨R,ac,c4,he,c5⟩:=S.open;have e:a=obC ps[i] R ac:=by
    have e:a.toArray=(obC ps[i] R ac).toArray:=by injection he
    simpa using congrArg Array.toList e
   have:=a8 (i*6+0) _ (C 0 (ad ps[i].k) (by rw[e];rfl))
   rwa [axA] at this
  rw[aH aW O];simp only[rs];rw[Vl.Qm g] at B;by_cases h5:ps[i].k=5
  ·simp only[h5,ne_eq,not_true,auT,i_f];rw[aA om om];refine aU ⟨i+2,x,sm,om,om,?_,b⟩ (by simp[n1,RowKit.intOf];omega);rw[B,h5];simp
  ·simp only[h5,ne_eq,axB,auS,i_t];refine no 1 b M.le_refl ?_;rw[H,B,auP (by simp[h5])]
 ·have b0:i=ps.length:=om
  simp only[f,auT,i_f];have c6:Vl.zA ps=true:=by rw[B,awK om];rfl
  rw[c6] at H;simp only[Bool.true_eq_false,if_false] at H;rw[apW];refine dF b λb5 w3 b=>?_;refine bK 0 rfl rfl b rfl λw4 b=>?_;refine UF b λbm w5 b=>?_;clear B hi a7 f b0;refine loop (λvs W=>∃(i:Nat) (x:aq) (h:List (List UInt8×aq)) (o:Ob) (ok X:aq) (N:Mem),vs=[x,ad i]∧i<=ps.length∧i % 2=0∧Vl.D0 ps=Vl.Td (h.map (·.1)) o (ps.drop i)∧Vl.NK o.keys∧o.keys.length=o.kids.length ∧
    o.wt+Ob.wts (ps.drop i)<=6+Ob.wts ps∧(∀p∈h,p.2=.bool av)∧M.le N∧OV N.A N.w (obV o ok X) o∧dQ M.A w W [.map bm h,obE b5 o ok X,obE b2 ob0 dY dY,.mem N]) (λvs _=>ps.length - n1 vs)
   ⟨0,x,[],.mk 7 0 0 [] [] [],dY,dY,M,rfl,om,rfl,by simpa using H,List.Pairwise.nil,rfl,by simp[Ob.wt,Ob.wts,Pl.tot],sm,M.le_refl,zz.ov (o:=.mk 7 0 0 [] [] []) (cs:=[]) ⟨SlA.nil _ _ _ _,SlA.nil _ _ _ _,OVs.nil⟩,b⟩ ?_
  clear b;rintro vs w6 ⟨i,y,h,o,ok,X,N,rfl,hi,a7,G,c,hlen,c7,P,hle,Q,b⟩ _;have b1:=Q.open;obtain⟨D,E,e6,heq,e7⟩:=b1;have e1:D=ok∧E=X:=by
   have:(obC o ok X).toArray=(obC o D E).toArray:=by injection heq
   have:obC o ok X=obC o D E:=by simpa using congrArg Array.toList this
   simp only[obC,azY,true_and,and_true] at this;exact⟨this.1.symm,this.2.symm⟩
  obtain⟨rfl,rfl⟩:=e1;simp only[Fg,gd,nz];have T:=hs.le hle;have b3:=a1.le hle;rw[aS avI (T.now (b.hasM 3 rfl))];simp only[rs];by_cases f:(i:Int) < (ps.length:Int)
  ·have g:i+1 < ps.length:=om
   have I:i < ps.length:=om
   simp only[f,auS,i_t];have b4:=Vl.Wv (met:=h.map (·.1)) (o:=o) g;have e8:=Vl.aaW g;refine join λJ hJ=>?_;obtain⟨bq,oq,cq,rfl,a8⟩:=bQ (T.now (b.hasM 3 rfl)) om;have cellAt:∀{W:ao} (l:N.has W) (m:Nat) (hm:m < ps.length) (j:Nat) (u:aq),(∀R ac,(obC ps[m] R ac)[j]?=ax u)->W.cell? ⟨bq,oq+m*6+j,aw⟩=ax u:=by
    intro W l m hm j u hu;obtain⟨a,P,S,C⟩:=OVs.get ps cs m hm n;obtain⟨R,ac,c4,he,c5⟩:=S.open;have e:a=obC ps[m] R ac:=by
     have e:a.toArray=(obC ps[m] R ac).toArray:=by injection he
     simpa using congrArg Array.toList e
    have:=Sl.cellAt (T.now l) (m*6+j) _ (C j u (by rw[e];exact hu R ac))
    rwa [<-axK] at this
   have fin:∀(W:ao) (Y:Mem) (kv cv:aq),dQ M.A w W [.map bm (h++[(ps[i].s,.bool av)]),obE b5 (if ps[i+1].k≠0 then Vl.put o ps[i].s ps[i+1] else o) kv cv,obE b2 ob0 dY dY,.mem Y]->M.le Y ->
     OV Y.A Y.w (obV (if ps[i+1].k≠0 then Vl.put o ps[i].s ps[i+1] else o) kv cv) (if ps[i+1].k≠0 then Vl.put o ps[i].s ps[i+1] else o)->ps[i].s ∉ h.map (·.1)->J [y] W:=by
    intro W Y kv cv b b6 b7 hm;refine hJ _ _ λ_=>?_;simp only[E4,gd,rs,nz];rw[aA om om];have c8:=Vl.WW o ps[i].s ps[i+1];have e9:ps[i].s.length+1<=ps[i].wt:=by rw[Vl.jO];omega
    have e0:=ps[i+1].Mp;refine aU ⟨i+2,y,h++[(ps[i].s,.bool av)],_,kv,cv,Y,sm,om,om,?_,?_,?_,?_,?_,b6,b7,b⟩ (by simp[n1,RowKit.intOf];omega)
    ·rw[G,b4,auO hm];simp
    ·split
     ·exact (Vl.Up c hlen).1
     ·exact c
    ·split
     ·exact (Vl.Up c hlen).2
     ·exact hlen
    ·split<;>omega
    ·intro p hp;rcases avZ.1 hp with hp|hp
     ·exact P p hp
     ·simp only[avV] at hp;rw[hp]
   refine aC (cR avI Me om om) |>.mpr ?_;rw[auW,yK,aH BZ (cellAt (b.hasM 3 rfl) i I 3 _ λ_ _=>rfl)];refine aC (O6 (z:=.bool au) underlying175 auV krx (b.at_ 0 rfl) ps[i].s) |>.mpr ?_;by_cases d:ps[i].s∈h.map (·.1)
   ·have hl:CK h ps[i].s=ax (.bool av):=by
     cases U:CK h ps[i].s with
    |none=>exact absurd d (NO.1 U)
    |some u=>
      unfold CK at U;obtain⟨p,hp,rfl⟩:=awZ.1 U;rw[P p (List.mem_of_find?_eq_some hp)]
    rw[hl];simp only[ayH,if_false,awN,i_t];have b:dQ M.A w w6 (obE b2 ob0 dY dY::.mem N::[]):=b.tail.tail;exact no 9 b hle (by rw[G,b4,auP d])
   ·have hl:CK h ps[i].s=none:=NO.2 d;rw[hl];simp only[ayH,if_false,Option.getD_none,i_f];refine TS 0 underlying175 auV b rfl ps[i].s (.bool av) hl λZ b=>?_;have b:dQ M.A w Z [.map bm (h++[(ps[i].s,.bool av)]),obE b5 o D E,obE b2 ob0 dY dY,.mem N]:=b;rw[aA om om,show (i:Int)+1=((i+1:Nat):Int) by omega];refine aC (cR avI Me om om) |>.mpr ?_;have O:=cellAt (b.hasM 3 rfl) (i+1) g 0 (ad ps[i+1].k) λ_ _=>rfl;rw[axA] at O;rw[auW,cO,aH aW O];simp only[rs];by_cases h0:ps[i+1].k=0
    ·simp only[h0,ne_eq,not_true,auT,i_f];refine fin Z N D E ?_ hle ?_ d
     ·rw[auO (by simp[h0])];exact b
     ·rw[auO (by simp[h0])];exact Q
    ·simp only[h0,ne_eq,axB,auS,i_t];obtain⟨x2,q2,V,b8⟩:=Lp b3 g;have V:OV N.A N.w x2 ps[i+1]:=V;have b9:∀W,Below Z.heap.size Z W->N.has W:=λW l=>Mem.Qs (b.hasM 3 rfl) l;refine quiet ?_;refine kE _ (λW l=>bC ((b.grow l).agg 1 rfl mQ)) ?_;refine iR ?_;rw[aA om om,show (i:Int)+1=((i+1:Nat):Int) by omega];refine kE _ (λW l=>(b8 W (b9 W l)).1) ?_;refine kE _ (λW l=>(b8 W (b9 W l)).2) ?_;intro w8 l;have b:=b.grow l;have c8:=Vl.jO ps[i];refine aY b 3 rfl (UA o ps[i+1] _ _ ps[i].s N w8 om (b.hasM 3 rfl) Q V c hlen) λz N2 w9 F hz b=>?_;obtain⟨zk,zc,h2,rfl,c0⟩:=hz.open;refine bK 1 c0.keys.one c0.kids.one b rfl λc9 b=>?_;refine fin c9 N2 zk zc ?_ (hle.trans F) ?_ d
     ·rw[auP (by simp[h0])];exact b
     ·rw[auP (by simp[h0])];exact hz
  ·have b0:i=ps.length:=om
   simp only[f,auT,i_f];rw[awK om] at G c7;have G:Vl.D0 ps=Vl.right o:=G;rw[oV b 1 rfl];refine aY b 3 rfl (yB o _ N w6 om (b.hasM 3 rfl) Q) λz N2 Z F hz b=>?_;refine aY b 3 rfl (LI o _ N2 Z om (b.hasM 3 rfl) hz) ?_;rintro _ N3 w8 c1 ⟨t,rfl,ht⟩ b;obtain⟨tk,tc,h3,rfl,c2⟩:=ht.open;simp only[Cr,ex];refine bK 2 c2.keys.one c2.kids.one b rfl λw9 b=>?_;refine eU 2 b rfl (hK _ _ N3 _ 3 b rfl (hle.trans (F.trans c1)) ⟨obV (Vl.right o).1 tk tc,?_,?_⟩)
   ·rw[G];rfl
   ·rw[G];exact ht
end
section
open Go
structure It where
 num:Int
 gen:Int
 obj:Ob
namespace Dk
def aqQ:List UInt8:=[82,111,111,116]
def asU:List UInt8:=[73,110,102,111]
def idK:List UInt8:=[73,68]
def it0:It:=⟨0,0,Vl.ob0⟩
def numbers (i:It):Bool:=ai (1<=i.num)&&ai (i.num<=8191)&&ai (0<=i.gen)&&ai (i.gen<=65535)
end Dk
end
end Go.Proofs.YtkghomgfocpgeaaGreatDoor

namespace Go.Proofs.YtkghomgfocpgeaaGreatDoor
variable{A S:Nat->Prop}{E T1 U:TypeId}{K:VWP}{L:List Eng.Ent}{M N:Eng.Mem}{P:Program}{PK:PKT}{a:Int}{args:Array aq}{b cap d f i j m sz:Nat}{cb:Array Bool}{cs news xs:List aq}{ds:List Deferred}{e:Eng.Ent}{k':IntKind}{key:List UInt8}{o:Ob}{q:Bool}{t0 v v2 va vc vk:aq}{u:FrameMode}{w w0:ao}{xo yo:Operand}{t0 t1 t2:aq}{k0:Eng.KT}
section
open Eng Go.RowKit
def itC (i:It)(vk vc:aq):List Value:=ad i.num::ad i.gen::obC i.obj vk vc
def itV (i:It)(vk vc:aq):Value:=.agg (itC i vk vc).toArray
def itE (b:Nat)(i:It)(vk vc:aq):Ent:=.cells b (itC i vk vc) 27
theorem aiO {p:Ob}{a b:aq}(h:obV o vk vc=obV p a b):vk=a∧vc=b:=by
 have:(obC o vk vc).toArray=(obC p a b).toArray:=by injection h
 have:obC o vk vc=obC p a b:=by simpa using congrArg Array.toList this
 simp only[obC,azY,and_true] at this;exact⟨this.2.2.2.2.1,this.2.2.2.2.2⟩
theorem OV.slices (h:OV A w (obV o vk vc) o):∃cs,zz A w o vk vc cs:=by
 obtain⟨b,c,cs,e,a⟩:=h.open;obtain⟨rfl,rfl⟩:=aiO e;exact⟨cs,a⟩
theorem OV.oneK (h:OV A w (obV o vk vc) o):vk.oneCell'=true:=by obtain⟨cs,a⟩:=h.slices;exact a.keys.one
theorem OV.oneC (h:OV A w (obV o vk vc) o):vc.oneCell'=true:=by obtain⟨cs,a⟩:=h.slices;exact a.kids.one
theorem agM (i:It)(b:vk.oneCell'=av)(c:vc.oneCell'=av):∀v∈itC i vk vc,v.oneCell'=true:=by
 intro v a;simp only[itC,avB] at a;rcases a with rfl|rfl|a
 ·rfl
 ·rfl
 ·exact mT i.obj b c v a
theorem Pe:By ah 27=ax 8:=krx
theorem szIt:(Tryz.prog.info? 27).map (·.size)=ax 8:=krx
theorem auJ:uM ah 27 0=ax 0:=krx
theorem atQ:uM ah 27 1=ax 1:=krx
theorem arA:uM ah 27 2=ax 2:=krx
section
variable {w:ao}{PK:PKT}{K:VWP}{S:Nat->Prop}{w0:ao}{L:List Ent}
theorem Ip {off:Nat}:DoX ah (mFA 27 (af b off) 0) w PK K=K (af b off) w:=aQ auJ
theorem Sq {off:Nat}:DoX ah (mFA 27 (af b off) 1) w PK K=K (af b (off+1)) w:=aQ atQ
theorem Km {off:Nat}:DoX ah (mFA 27 (af b off) 2) w PK K=K (af b (off+2)) w:=aQ arA
theorem Vp (i:It)(a:vk.oneCell'=av)(c:vc.oneCell'=av)(d:dQ S w0 w L)(k:∀b w',dQ S w0 w' (itE b i vk vc::L)->K (af b 0) w'):DoX ah (AS 27 (itV i vk vc)) w PK K:=by
 cases vk<;>first|(cases a;done)|skip
 all_goals cases vc<;>first|(cases c;done)|exact bB (λb=>af b 0) (itC i _ _) 27 (λ_=>by kernel_rfl) d k
theorem aiC (a:dQ S w0 w L)(k:∀b w',dQ S w0 w' (itE b Dk.it0 dY dY::L)->K (af b 0) w'):DoX ah (iM 27) w PK K:=
 bB (λb=>af b 0) (itC Dk.it0 dY dY) 27 (λ_=>by kernel_rfl) a k
theorem UR (j:Nat){i i':It}{vk' vc':aq}(a:vk'.oneCell'=av)(c:vc'.oneCell'=av)(d:dQ S w0 w L)(hi:L[j]?=ax (itE b i vk vc))(k:∀w',dQ S w0 w' (L.set j (itE b i' vk' vc'))->K undef w') :
  DoX ah (aV 27 (af b 0) (itV i' vk' vc')) w PK K:=gF j d hi (new:=itC i' vk' vc') szIt (agM i' a c) rfl k
theorem yF (a:dQ S w0 w L)(j:Nat){i:It}(hi:L[j]?=ax (itE b i vk vc)):DoX ah (aG 3 (af b 0)) w PK K=K (ad i.num) w:=aH aW (a.cell j hi 0 rfl)
theorem Lh (a:dQ S w0 w L)(j:Nat){i:It}(hi:L[j]?=ax (itE b i vk vc)):DoX ah (aG 3 (af b (0+1))) w PK K=K (ad i.gen) w:=aH aW (a.cell j hi 1 rfl)
theorem it_k (a:dQ S w0 w L)(j:Nat){i:It}(hi:L[j]?=ax (itE b i vk vc)):DoX ah (aG 3 (af b (0+2))) w PK K=K (ad i.obj.k) w:=aH aW (a.cell j hi 2 rfl)
theorem HA (a:dQ S w0 w L)(j:Nat){i:It}(hi:L[j]?=ax (itE b i vk vc)):DoX ah (aG 25 (af b (0+2))) w PK K=K (obV i.obj vk vc) w:=
 AT (a.Y3 j hi (0+2) (obC i.obj vk vc) rfl mQ)
theorem atM:DoX ah (aN 27 #[]) w PK K=K (itV Dk.it0 dY dY) w:=aC krx
end
end
section
open Eng
def JC(w)(K:KT):=nz f101 1 [] [] [] (zg [] []) w K
theorem K1:JC w k0->Calls ah 101 #[] w k0:=cw func101
end
end Go.Proofs.YtkghomgfocpgeaaGreatDoor

namespace Go.Proofs.YtkghomgfocpgeaaGreatDoor
variable{A S:Nat->Prop}{E T1 U:TypeId}{K:VWP}{L:List Eng.Ent}{M N:Eng.Mem}{P:Program}{PK:PKT}{a:Int}{args:Array aq}{b cap d f i j m sz:Nat}{cb:Array Bool}{cs news xs:List aq}{ds:List Deferred}{e:Eng.Ent}{k':IntKind}{key:List UInt8}{o:Ob}{q:Bool}{t0 v v2 va vc vk:aq}{u:FrameMode}{w w0:ao}{xo yo:Operand}{t0 t1 t2:aq}{k0:Eng.KT}
section
open Eng Go.RowKit
theorem lA.told {x:aq}(h:lA ah f args M w (λv _=>v=x)):Ret ah f args w (λv w'=>v=x∧Below w.heap.size w w'):=
 Ret.mono h λv w' ⟨N,g,r⟩=>⟨r,g.below⟩
theorem iC {x:Option Ob}(h:OV M.A M.w v (x.getD Vl.ob0)):∃vk vc,v=obV (x.getD Vl.ob0) vk vc∧OV M.A M.w (obV (x.getD Vl.ob0) vk vc) (x.getD Vl.ob0):=by
 obtain⟨vk,vc,cs,rfl,a⟩:=h.open;exact⟨vk,vc,rfl,h⟩
end
end Go.Proofs.YtkghomgfocpgeaaGreatDoor

namespace Go.Proofs.YtkghomgfocpgeaaGreatDoor
variable{A S:Nat->Prop}{E T1 U:TypeId}{K:VWP}{L:List Eng.Ent}{M N:Eng.Mem}{P:Program}{PK:PKT}{a:Int}{args:Array aq}{b cap d f i j m sz:Nat}{cb:Array Bool}{cs news xs:List aq}{ds:List Deferred}{e:Eng.Ent}{k':IntKind}{key:List UInt8}{o:Ob}{q:Bool}{t0 v v2 va vc vk:aq}{u:FrameMode}{w w0:ao}{xo yo:Operand}{t0 t1 t2:aq}{k0:Eng.KT}
section
open Eng
def wH(t0 t1 w)(K:KT):=nz f305 1 [] [] [] (zg [0,1] [t0,t1]) w K
theorem Ei:wH t0 t1 w k0->Calls ah 305 #[t0,t1] w k0:=cw func305
def Cd(t0 w)(K:KT):=nz f314 1 [] [] [] (zg [0] [t0]) w K
theorem GV:Cd t0 w k0->Calls ah 314 #[t0] w k0:=cw func314
end
end Go.Proofs.YtkghomgfocpgeaaGreatDoor


namespace Go.Proofs.YtkghomgfocpgeaaGreatDoor
variable{A S:Nat->Prop}{E T1 U:TypeId}{K:VWP}{L:List Eng.Ent}{M N:Eng.Mem}{P:Program}{PK:PKT}{a:Int}{args:Array aq}{b cap d f i j m sz:Nat}{cb:Array Bool}{cs news xs:List aq}{ds:List Deferred}{e:Eng.Ent}{k':IntKind}{key:List UInt8}{o:Ob}{q:Bool}{t0 v v2 va vc vk:aq}{u:FrameMode}{w w0:ao}{xo yo:Operand}{t0 t1 t2:aq}{k0:Eng.KT}
section
open Eng Go.RowKit
theorem mi {v:Ob}{k:List UInt8}(h:Vl.get o k=ax v):v.wt<=o.wt:=by
 unfold Vl.get at h;split at h
 ·split at h
  ·rename_i b c
   obtain⟨a,rfl⟩:=avL.1 h;have:=Jf a;omega
  ·cases h
 ·cases h
section
variable {w:ao}{S:Nat->Prop}{w0:ao}{L:List Ent}
end
def cr:List (List UInt8):=[Dk.idK,Dk.asU,Dk.aqQ]
theorem Xr (M:Mem)(w:ao)(d:M.has w):lA ah 101 #[] M w (λr N=>SlA N.A N.w r 1 3 (bT cr)):=by
 refine aO d λK e=>K1 ?_;unfold JC nz;refine bB (λb=>cW b 0 3 3) (bT cr) 9 (λ_=>by kernel_rfl) (dQ.memS d) λb f c=>?_;obtain⟨N,hle,a,c⟩:=dQ.bH (L:=[.mem M]) (c.toU 1 3 3 dc om om) 0 rfl;exact e _ _ N _ 0 c rfl hle a
end
section
open Eng
def A8(t25 w)(a:JT)(K:KT):=nz f60 983 [a] [nh 11 [25]] [] (zg [25] [t25]) w K
def jA(t1 t2 t3 t23 t24 t25 w)(a:JT)(K:KT):=nz f60 87 [a] [nh 11 [25],(22,[],λs v j w f=>A8 (s 25) w (f 0) K)] [] (zg [1,2,3,23,24,25] [t1,t2,t3,t23,t24,t25]) w K
def EJ(t0 w)(K:KT):=nz f60 1 [] [(11,[25],λs v j w f=>jA (s 1) (s 2) (s 3) (s 23) (s 24) (vg v 0) w (f 0) K)] [] (zg [0] [t0]) w K
theorem IZ:EJ t0 w k0->Calls ah 60 #[t0] w k0:=cz [(11,[])] [(5,[25])] func60
end
end Go.Proofs.YtkghomgfocpgeaaGreatDoor

namespace Go.Proofs.YtkghomgfocpgeaaGreatDoor
variable{A S:Nat->Prop}{E T1 U:TypeId}{K:VWP}{L:List Eng.Ent}{M N:Eng.Mem}{P:Program}{PK:PKT}{a:Int}{args:Array aq}{b cap d f i j m sz:Nat}{cb:Array Bool}{cs news xs:List aq}{ds:List Deferred}{e:Eng.Ent}{k':IntKind}{key:List UInt8}{o:Ob}{q:Bool}{t0 v v2 va vc vk:aq}{u:FrameMode}{w w0:ao}{xo yo:Operand}{t0 t1 t2:aq}{k0:Eng.KT}
section
namespace Eng
open Go.RowKit
section
variable {α:Type}{enc:α->List aq}{k:Nat}
theorem Aq (a:∀x,(enc x).length=k):∀l:List α,(l.flatMap enc).length=l.length*k
|[]=>by simp
|x::l=>by rw[ayM,auU,a,Aq a l,avR,axZ];omega
theorem QW (a:∀x,(enc x).length=k):∀(l:List α) (j:Nat),(l.flatMap enc).drop (j*k)=(l.drop j).flatMap enc
|[],j=>by simp
|x::l,0=>by simp
|x::l,j+1=>by
  rw[ayM,aAx,axZ,aAu,ayV,a,awK (by rw[a];omega),aAE,QW a l j,awW]
theorem uY (a:∀x,(enc x).length=k){l:List α}(b:j < l.length)(h:(enc l[j])[i]?=ax v):(l.flatMap enc)[j*k+i]?=ax v:=by
 have c:((l.flatMap enc).drop (j*k))[i]?=ax v:=by
  rw[QW a,avW b,ayM,axO (avL.1 h).1];exact h
 rwa [axJ] at c
theorem Z6 (a:∀x,∀v∈enc x,v.oneCell'=av){l:List α}:∀v∈l.flatMap enc,v.oneCell'=true:=by
 intro v b;obtain⟨x,_,c⟩:=aAF.1 b;exact a x v c
abbrev Ent.recs (T:TypeId)(enc:α->List aq)(k:Nat)(v:aq)(l:List α):Ent:=.urow T k v l.length (l.flatMap enc)
variable {S:Nat->Prop}{P:Program}{w w0:ao}{L:List Ent}{PK PK2:PKT}{K:VWP}
theorem rec_row (c:∀x,(enc x).length=k){T:TypeId}(f:P.underlying T=ax (.slice E))(n:(P.info? E).map (·.size)=ax k)(o:By P E=ax k)(i:Nat){l:List α}(p:dQ S w0 w L)(hi:L[i]?=ax (.recs E enc k v l))(q:j < l.length) :
  ∃g cap,v=cW g 0 l.length cap∧(∀w,(mIA T v (ad (j:Int))).run P w=.ok (.value (af g (j*k))) w) ∧
   (∀w',(Ent.recs E enc k v l).is w'->(aG E (af g (j*k))).run P w'=.ok (.value (.agg (enc l[j]).toArray)) w') ∧
   ∀w',(Ent.recs E enc k v l).is w'->∀m u,(enc l[j])[m]?=ax u->w'.cell? ⟨g,j*k+m,aw⟩=ax u:=by
 obtain⟨g,cap,rfl⟩:=rM (p.at_ i hi) om;have a:∀w',(Ent.recs E enc k (cW g 0 l.length cap) l).is w'->∀m u,(enc l[j])[m]?=ax u->w'.cell? ⟨g,j*k+m,aw⟩=ax u:=by
  intro w' h m u hm;obtain⟨b,off,d,e,r⟩:=bQ (Sl.urow h) om;cases e;have:=r _ _ (uY c q hm)
  rwa [avC] at this
 refine⟨g,cap,rfl,λw=>?_,λw' h=>?_,a⟩
 ·refine (cR f n om om).trans ?_;rw[auW,avC]
 ·exact bC (AtV.agg o (c _) λm u hm=>a w' h m u hm)
end
end Eng
end
end Go.Proofs.YtkghomgfocpgeaaGreatDoor

namespace Go.Proofs.YtkghomgfocpgeaaGreatDoor
variable{A S:Nat->Prop}{E T1 U:TypeId}{K:VWP}{L:List Eng.Ent}{M N:Eng.Mem}{P:Program}{PK:PKT}{a:Int}{args:Array aq}{b cap d f i j m sz:Nat}{cb:Array Bool}{cs news xs:List aq}{ds:List Deferred}{e:Eng.Ent}{k':IntKind}{key:List UInt8}{o:Ob}{q:Bool}{t0 v v2 va vc vk:aq}{u:FrameMode}{w w0:ao}{xo yo:Operand}{t0 t1 t2:aq}{k0:Eng.KT}
section
open Eng Go.RowKit
namespace Eng
def Ent.two (e f:Ent):Ent:=⟨λk=>e.blk k∨f.blk k,λw=>e.is w∧f.is w∧∀k,e.blk k->¬f.blk k,
 λh k=>⟨e.keep h.1 λb a=>k b (.inl a),f.keep h.2.1 λb a=>k b (.inr a),h.2.2⟩,λh k c=>c.elim (e.lt h.1 k) (f.lt h.2.1 k)⟩
section
variable {S:Nat->Prop}{w w0:ao}{L:List Ent}
theorem dQ.split {f:Ent}(c:dQ S w0 w (.two e f::L)):dQ S w0 w (e::f::L):=by
 obtain⟨⟨he,h,i⟩,d⟩:=c.all (.two e f) sm;obtain⟨g,a2⟩:=ayC.1 c.apart;refine⟨c.grew,λx a=>?_,ayC.2 ⟨λx a k b=>?_,ayC.2 ⟨λx a k b=>g x a k (.inr b),a2⟩⟩⟩
 ·rcases avB.1 a with rfl|a
  ·exact⟨he,λk b=>d k (.inl b)⟩
  rcases avB.1 a with rfl|a
  ·exact⟨h,λk b=>d k (.inr b)⟩
  ·exact c.all x (awR _ a)
 ·rcases avB.1 a with rfl|a
  ·exact i k b
  ·exact g x a k (.inl b)
end
end Eng
section
variable {P:Program}{S:ao->Prop}{K:aq->Prop}
theorem iJ {m:Sem Next}(v:aq)(h:∀w,S w->m.run P w=.ok (.value v) w)(k:K v):HDo P S m K:=⟨v,h,k⟩
theorem aX {m:Sem Next}(v:aq)(h:∀w,m.run P w=.ok (.value v) w)(k:K v):HDo P S m K:=⟨v,λw _=>h w,k⟩
end
section
variable {w:ao}{PK:PKT}{K:VWP}{S:Nat->Prop}{w0:ao}{L:List Ent}
theorem gX {T:TypeId}(h:w.heap[b]?=ax (.cells cs.toArray T (0,0)))(a:0 < sz)(d:cs.length=sz):Sl w (cW b 0 1 1) sz 1 cs:=
 ⟨om,ax ⟨b,0,aw⟩,1,rfl,λh=>(by cases h),λp hp=>by cases hp;exact⟨λ_=>rfl,λj u c=>by rw[avC];exact aJ (T:=T) h c⟩⟩
end
theorem NU (x:Int)(w:ao):Ret ah 314 #[ad x] w (λv w'=>v=.bool au∧w=w'):=by
 refine aL λK a=>GV ?_;unfold Cd nz;rw[adC];exact a _ _ ⟨sm,rfl⟩
end
end Go.Proofs.YtkghomgfocpgeaaGreatDoor




namespace Go.Proofs.YtkghomgfocpgeaaGreatDoor
variable{A S:Nat->Prop}{E T1 U:TypeId}{K:VWP}{L:List Eng.Ent}{M N:Eng.Mem}{P:Program}{PK:PKT}{a:Int}{args:Array aq}{b cap d f i j m sz:Nat}{cb:Array Bool}{cs news xs:List aq}{ds:List Deferred}{e:Eng.Ent}{k':IntKind}{key:List UInt8}{o:Ob}{q:Bool}{t0 v v2 va vc vk:aq}{u:FrameMode}{w w0:ao}{xo yo:Operand}{t0 t1 t2:aq}{k0:Eng.KT}
section
open Eng Go.RowKit Go.ChangeShapes Go.WideShapes Go.ChangeAt
set_option maxRecDepth 100000
section
variable {H:Type}{enc:TypeId×aq->H}{W:ao}{sp:Nat->Bool}{held:Bool}
theorem arI {d e:DataW H}(a:Rows.uptoSmall H [d,e]=av):Rows.uptoBulk d<=1048576∧Rows.uptoBulk e<=1048576:=by
 have h:Rows.uptoBulkAll [d,e]<=1048576:=avG a;simp only[Rows.uptoBulkAll] at h;omega
end
end
section
open Eng
def lJ(t0 t1 t12 t13 w)(a:JT)(K:KT):=nz f54 43 [a] [nh 9 [13]] [(6,9)] (zg [0,1,12,13] [t0,t1,t12,t13]) w K
def qB(t0 t1 w)(K:KT):=nz f54 1 [] [(9,[13],λs v j w f=>lJ (s 0) (s 1) (s 12) (vg v 0) w (f 0) K)] [] (zg [0,1] [t0,t1]) w K
theorem zT:qB t0 t1 w k0->Calls ah 54 #[t0,t1] w k0:=cz [] [(4,[13])] func54
end
section
open Eng Go.RowKit
theorem anL:dP ah 9=true:=krx
theorem VD (va l:aq)(la lb:List (List UInt8))(w:ao)(f:Sl w va 1 la.length (bT la))(m:Sl w l 1 lb.length (bT lb))(q:la.length<=1099511627776) :
  Ret ah 54 #[va,l] w (λr w'=>r=.bool (ai (la=lb))∧Below w.heap.size w w'):=by
 refine aL λK g=>zT ?_;unfold qB nz;rw[aS avH f,aS avH m];simp only[rs];by_cases hlen:(la.length:Int)≠(lb.length:Int)
 ·simp only[auR hlen,i_t];have a:la≠lb:=λe=>hlen (by rw[e]);exact g _ _ ⟨by rw[auQ a],(Own.start w).done⟩
 have hle:la.length=lb.length:=om
 simp only[auQ hlen,i_f,aS avH f];refine loop (λvs w'=>∃(i:Nat),vs=[ad i]∧i<=la.length∧la.take i=lb.take i∧Own w w' []) (λvs _=>la.length - n0 vs) ⟨0,rfl,om,sm,Own.start w⟩ ?_;rintro vs w2 ⟨i,rfl,hi,he,b⟩ _;simp only[lJ,gd,rs,nz];by_cases c:(i:Int) < (la.length:Int)
 ·have n:i < la.length:=om
  have o:i < lb.length:=om
  simp only[c,auS,rs];obtain⟨s,t,ca,rfl,h⟩:=bQ f om;obtain⟨u,v,cb,rfl,j⟩:=bQ m om;refine quiet (eZ _ (λ_=>cR avH (show _=ax 1 by kernel_rfl) om om) ?_);refine kE (ae (la[i])) (λp hw=>aB anL ((b.grow hw).old ?_)) ?_
  ·rw[auW,avQ];exact h i _ (eO n)
  refine eZ _ (λ_=>cR avH (show _=ax 1 by kernel_rfl) om om) ?_;refine kE (ae (lb[i])) (λp hw=>aB anL ((b.grow hw).old ?_)) ?_
  ·rw[auW,avQ];exact j i _ (eO o)
  refine abV ?_;intro w3 hw;have b:=b.grow hw;by_cases d:la[i]=lb[i]
  ·simp only[d,ne_eq,not_true,auT,i_f,rs];rw[aA om om];refine aU ⟨i+1,rfl,om,?_,b⟩ (by simp[n0,RowKit.intOf];omega);rw[avP n,avP o,he,d]
  ·simp only[d,ne_eq,axB,auS,i_t];have a:la≠lb:=λe=>d (by subst e;rfl);exact g _ _ ⟨by rw[auQ a],b.done⟩
 ·simp only[c,auT,rs,iO];have k:la=lb:=by
   rw[avX om,avX om] at he;exact he
  exact g _ _ ⟨by rw[auR k],b.done⟩
end
section
open Eng
def sN(t0 t1 w)(K:KT):=nz f30 1 [] [] [] (zg [0,1] [t0,t1]) w K
theorem Bm:sN t0 t1 w k0->Calls ah 30 #[t0,t1] w k0:=cw func30
def nL(t0 t1 t12 t13 w)(a:JT)(K:KT):=nz f55 43 [a] [nh 9 [13]] [(6,10)] (zg [0,1,12,13] [t0,t1,t12,t13]) w K
def sB(t0 t1 w)(K:KT):=nz f55 1 [] [(9,[13],λs v j w f=>nL (s 0) (s 1) (s 12) (vg v 0) w (f 0) K)] [] (zg [0,1] [t0,t1]) w K
theorem BN:sB t0 t1 w k0->Calls ah 55 #[t0,t1] w k0:=cz [] [(4,[13])] func55
end
section
open Eng Go.RowKit
theorem Xo {x y:aq}(h:Ret P f args w (λv w'=>v=x∧Below w.heap.size w w'))(a:x=y)(b:Own w0 w L)
  (k:∀w',Own w0 w' L->K y w'):eN P f args w PK K:=by
 refine Dv h ?_;rintro v w' ⟨rfl,c⟩;rw[a];exact k _ (b.grow c)
namespace Ob
 mutual
def eqb:Ob->Ob->Bool
|.mk k n g s a cs,b=>ai (k=b.k)&&ai (n=b.n)&&ai (g=b.g)&&ai (s=b.s)&&ai (a=b.keys)&&Ih cs b.kids
def Ih:List Ob->List Ob->Bool
|[],[]=>av
|a::l,b::m=>eqb a b&&Ih l m
|[],_::_=>au
|_::_,[]=>au
end
 mutual
theorem XI:∀a b:Ob,eqb a b=av↔a=b
|.mk k n g s f cs,.mk k' h i j d c=>by
  have e:=PS cs c;rw[eqb];simp only[avM,awG];simp only[Ob.k,Ob.n,Ob.g,Ob.s,Ob.keys,Ob.kids,e,Ob.mk.injEq,and_assoc]
theorem PS:∀a b:List Ob,Ih a b=av↔a=b
|[],[]=>by simp[Ih]
|a::l,b::m=>by
  rw[Ih,avM,XI a b,PS l m];simp
|[],_::_=>by simp[Ih]
|_::_,[]=>by simp[Ih]
end
theorem aoB (a b:Ob):eqb a b=(ai (a.k=b.k)&&ai (a.n=b.n)&&ai (a.g=b.g)&&ai (a.s=b.s)&&ai (a.keys=b.keys)&&Ih a.kids b.kids):=by cases a;rw[eqb];rfl
theorem YY {a b:List Ob}(c:i < a.length)(d:i < b.length):Ih (a.drop i) (b.drop i)=(eqb a[i] b[i]&&Ih (a.drop (i+1)) (b.drop (i+1))):=by
 rw[avW c,avW d,Ih]
theorem adH:∀{a b:List Ob},a.length≠b.length->Ih a b=false:=by
 intro a b h;cases he:Ih a b with
|false=>rfl
|true=>rw[PS] at he;exact absurd (by rw[he]) h
end Ob
theorem ZK {a b:Ob}{r kb m:aq}{ca cb:List aq}(w:ao)(k:zz (InW w) w a r va ca)(n:zz (InW w) w b kb m cb)(z:a.kids.length<=1000000000)
  (s:∀(i:Nat) (h:i < a.kids.length) (j:i < b.kids.length) (x y:aq) (W:ao),OV (InW W) W x a.kids[i]->OV (InW W) W y b.kids[i]->Ret ah 30 #[x,y] W (λv w'=>v=.bool (Ob.eqb a.kids[i] b.kids[i])∧Below W.heap.size W w')) :
  Ret ah 55 #[va,m] w (λv w'=>v=.bool (Ob.Ih a.kids b.kids)∧Below w.heap.size w w'):=by
 refine aL λK l=>BN ?_;unfold sB nz;rw[aS avI k.kids.1,aS avI n.kids.1];simp only[rs];by_cases hlen:(a.kids.length:Int)≠(b.kids.length:Int)
 ·simp only[auR hlen,i_t];exact l _ _ ⟨by rw[Ob.adH om],(Own.start w).done⟩
 have hle:a.kids.length=b.kids.length:=om
 simp only[auQ hlen,i_f,aS avI k.kids.1];refine loop (λvs w'=>∃(i:Nat),vs=[.int .i64 i]∧i<=a.kids.length∧Ob.Ih a.kids b.kids=Ob.Ih (a.kids.drop i) (b.kids.drop i)∧Own w w' []) (λvs _=>a.kids.length - n0 vs) ⟨0,rfl,om,sm,Own.start w⟩ ?_;rintro vs w2 ⟨i,rfl,hi,he,c⟩ _;simp only[nL,gd,rs,nz];by_cases e:(i:Int) < (a.kids.length:Int)
 ·have h:i < a.kids.length:=om
  have j:i < b.kids.length:=om
  simp only[e,auS,rs];obtain⟨x,p,t,f⟩:=Lp k h;obtain⟨y,q,u,g⟩:=Lp n j;refine quiet (kE _ (λW d=>(f W (dQ.keptIn (c.grow d))).1) ?_);refine kE _ (λW d=>(f W (dQ.keptIn (c.grow d))).2) ?_;refine kE _ (λW d=>(g W (dQ.keptIn (c.grow d))).1) ?_;refine kE _ (λW d=>(g W (dQ.keptIn (c.grow d))).2) ?_;refine fC _ (λW d=>aaA (s i h j x y W (t.at_ (c.grow d)) (u.at_ (c.grow d))) d) ?_;refine eZ _ (λW=>cE (by simp[Op.unary];rfl)) ?_;intro w3 hw;have c:=c.grow hw;rw[Ob.YY h j] at he;cases o:Ob.eqb a.kids[i] b.kids[i] with
 |true=>
   simp only[avY,i_f,rs];rw[aA om om];refine aU ⟨i+1,rfl,om,?_,c⟩ (by simp[n0,RowKit.intOf];omega);rw[he,o];rfl
 |false=>
   simp only[awA,i_t];exact l _ _ ⟨by rw[he,o];rfl,c.done⟩
 ·simp only[e,auT,rs];refine l _ _ ⟨?_,c.done⟩;rw[he,awK om,awK om,Ob.Ih]
theorem Va (n:Nat):∀(a b:Ob) (x y:aq) (w:ao),a.wt<=n->a.wt<=1000000000->OV (InW w) w x a->OV (InW w) w y b->Ret ah 30 #[x,y] w (λv w'=>v=.bool (Ob.eqb a b)∧Below w.heap.size w w'):=by
 induction n with
|zero=>intro a b x y w h;have:=a.Mp;omega
|succ n z=>
 intro a b x y w F hw j l;obtain⟨A,va,ca,rfl,e⟩:=j.open;obtain⟨kb,G,cb,rfl,f⟩:=l.open;have B:Ob.wts a.kids<=1000000000:=by cases a;rw[Ob.wt] at hw;simp only[Ob.kids];omega
 have C:Pl.tot a.keys<=1000000000:=by cases a;rw[Ob.wt] at hw;simp only[Ob.keys];omega
 have D:=Ob.pB a.kids;rw[Ob.aoB];refine aL λK d=>Bm ?_;unfold sN nz;refine dD a e.keys.one e.kids.one (Own.start w) λp H c=>?_;refine dD b f.keys.one f.kids.one c λq w2 c=>?_;rw[cO,zn c 1 rfl,cO,zn c 0 rfl];by_cases m:a.k=b.k
 case neg=>simp only[rs,m,auT,aAm] at d ⊢;exact d _ _ ⟨rfl,c.done⟩
 simp only[rs,m,auS,oA,Dr c 1 rfl,Dr c 0 rfl,azI] at d ⊢;by_cases o:a.n=b.n
 case neg=>simp only[rs,o,auT,aAm] at d ⊢;exact d _ _ ⟨rfl,c.done⟩
 simp only[rs,o,auS,Yv,ob_g c 1 rfl,ob_g c 0 rfl,azI] at d ⊢;by_cases r:a.g=b.g
 case neg=>simp only[rs,r,auT,aAm] at d ⊢;exact d _ _ ⟨rfl,c.done⟩
 simp only[rs,r,auS,yK,I0 c 1 rfl,I0 c 0 rfl,azI] at d ⊢;by_cases t:a.s=b.s
 case neg=>simp only[rs,t,auT,aAm] at d ⊢;exact d _ _ ⟨rfl,c.done⟩
 simp only[rs,t,auS,qZ,eP c 1 rfl,eP c 0 rfl,azI] at d ⊢;have E:=Pl.jK a.keys;refine Xo (VD A kb a.keys b.keys w2 (c.Tf e.keys.1) (c.Tf f.keys.1) om) rfl c λw3 c=>?_;by_cases u:a.keys=b.keys
 case neg=>simp only[rs,u,auT,aAm] at d ⊢;exact d _ _ ⟨rfl,c.done⟩
 simp only[rs,u,auS,eW,bW c 1 rfl,bW c 0 rfl,azI] at d ⊢;refine Xo (ZK w3 (e.in_ c) (f.in_ c) om ?_) rfl c λI c=>?_
 ·intro i hi J x y W j l;have:=Jf hi;exact z _ _ x y W om om j l
 exact d _ _ ⟨rfl,c.done⟩
end
end Go.Proofs.YtkghomgfocpgeaaGreatDoor






namespace Go.Proofs.YtkghomgfocpgeaaGreatDoor
variable{A S:Nat->Prop}{E T1 U:TypeId}{K:VWP}{L:List Eng.Ent}{M N:Eng.Mem}{P:Program}{PK:PKT}{a:Int}{args:Array aq}{b cap d f i j m sz:Nat}{cb:Array Bool}{cs news xs:List aq}{ds:List Deferred}{e:Eng.Ent}{k':IntKind}{key:List UInt8}{o:Ob}{q:Bool}{t0 v v2 va vc vk:aq}{u:FrameMode}{w w0:ao}{xo yo:Operand}{t0 t1 t2:aq}{k0:Eng.KT}
section
open Go
structure Lx where
 off:Int
 sty:List UInt8
 pre:List UInt8
 first:Int
 deriving DecidableEq
namespace Lb
end Lb
end
end Go.Proofs.YtkghomgfocpgeaaGreatDoor



namespace Go.Proofs.YtkghomgfocpgeaaGreatDoor
variable{A S:Nat->Prop}{E T1 U:TypeId}{K:VWP}{L:List Eng.Ent}{M N:Eng.Mem}{P:Program}{PK:PKT}{a:Int}{args:Array aq}{b cap d f i j m sz:Nat}{cb:Array Bool}{cs news xs:List aq}{ds:List Deferred}{e:Eng.Ent}{k':IntKind}{key:List UInt8}{o:Ob}{q:Bool}{t0 v v2 va vc vk:aq}{u:FrameMode}{w w0:ao}{xo yo:Operand}{t0 t1 t2:aq}{k0:Eng.KT}
section
open Eng Go.RowKit
theorem Zv (h:Calls ah f args w λe w'=>e=.returned v∧Below w.heap.size w w'):Ret ah f args w (λv' w'=>v'=v∧Below w.heap.size w w'):=
 Calls.mono h λe w' ⟨he,a⟩=>⟨v,he,rfl,a⟩
theorem VW (s:List UInt8)(c:Nat)(w:ao)(a:s.length*c<=100000000)(b:c<=100000000):Ret ah 164 #[ae s,ad c] w (λv w'=>v=ae (Lib.repeatL s c)∧Below w.heap.size w w'):=by
 have:=Tryz.strings_Repeat ⟨s.toArray⟩ c w om (by show s.toArray.size*c<=_;simp;omega);exact Zv (by simpa using this)
theorem CX (s:List UInt8):∀c,Lib.repeatL s (c+1)=Lib.repeatL s c++s
|0=>by simp[Lib.repeatL]
|c+1=>by
  have a:Lib.repeatL s (c+1+1)=s++Lib.repeatL s (c+1):=rfl;have b:Lib.repeatL s (c+1)=s++Lib.repeatL s c:=rfl;rw[a,CX s c,<-avO,<-b,CX s c]
end
end Go.Proofs.YtkghomgfocpgeaaGreatDoor








namespace Go.Proofs.YtkghomgfocpgeaaGreatDoor
variable{A S:Nat->Prop}{E T1 U:TypeId}{K:VWP}{L:List Eng.Ent}{M N:Eng.Mem}{P:Program}{PK:PKT}{a:Int}{args:Array aq}{b cap d f i j m sz:Nat}{cb:Array Bool}{cs news xs:List aq}{ds:List Deferred}{e:Eng.Ent}{k':IntKind}{key:List UInt8}{o:Ob}{q:Bool}{t0 v v2 va vc vk:aq}{u:FrameMode}{w w0:ao}{xo yo:Operand}{t0 t1 t2:aq}{k0:Eng.KT}
section
open Go
namespace Vl
theorem Li (key:List UInt8):∀(b:List (List UInt8)) (cs:List Ob),key ∉ (fZ key b cs).1
|[],_=>by simp[fZ]
|_::_,[]=>by simp[fZ]
|a::b,c::cs=>by
  rw[fZ];split
  ·exact Li key b cs
  ·rename_i h
   simp only[avB,not_or];exact⟨λe=>h e.symm,Li key b cs⟩
theorem IX (key:List UInt8):∀(b:List (List UInt8)) (cs:List Ob),(fZ key b cs).1.length=(fZ key b cs).2.length
|[],_=>by simp[fZ]
|_::_,[]=>by simp[fZ]
|a::b,c::cs=>by
  rw[fZ];split
  ·exact IX key b cs
  ·simp[IX key b cs]
theorem IK (key:List UInt8):∀(b:List (List UInt8)) (cs:List Ob),(fZ key b cs).1.Sublist b
|[],_=>by simp[fZ]
|_::_,[]=>by simp[fZ]
|a::b,c::cs=>by
  rw[fZ];split
  ·exact (IK key b cs).trans (List.sublist_cons_self _ _)
  ·exact (IK key b cs).cons_cons _
theorem IU (key:List UInt8):∀(b:List (List UInt8)) (cs:List Ob),(fZ key b cs).2.Sublist cs
|[],_=>by simp[fZ]
|_::_,[]=>by simp[fZ]
|a::b,c::cs=>by
  rw[fZ];split
  ·exact (IU key b cs).trans (List.sublist_cons_self _ _)
  ·exact (IU key b cs).cons_cons _
theorem Sf (o:Ob)(key:List UInt8):get (bL o key) key=none:=by
 unfold get;split
 ·rw[auO];rw[aBe];exact Li key o.keys o.kids
 ·rfl
theorem NW {d:Nat}:∀{os:List Ob},nO d os=0↔∀o∈os,check d o=0
|[]=>by simp[nO]
|o::os=>by
  rw[nO];split
  ·rename_i h
   constructor
   ·intro e;exact absurd e h
   ·intro e;exact absurd (e o axR) h
  ·rename_i h
   have h:=aAA.1 h;rw[NW];simp[h]
theorem aeB (l:List (List UInt8))(h:i < l.length):l.getD i []=l[i]:=by rw[auZ,auX h];rfl
theorem D6 :rising o=av↔o.keys.length=o.kids.length∧NK o.keys∧(∀k∈o.keys,name k=av∧(o.k=9->k≠Ax))∧∀c∈o.kids,c.k≠0:=by
 unfold rising;simp only[avM,awG,axI,axE];constructor
 ·rintro⟨q,h⟩;have f:∀i (hi:i < o.keys.length),name o.keys[i]=av∧(i=0∨less (o.keys.getD (i - 1) []) o.keys[i]=av)∧(o.k=9->o.keys[i]≠Ax)∧(o.kids[i]'(om)).k≠0:=by
   intro i hi;have:=h i hi;unfold Bn at this;rw[aeB _ hi,auZ (l:=o.kids),auX (by omega:i < o.kids.length)] at this;simp only[avM,axQ,awG,awN,aAr,ayW,awP] at this;obtain⟨⟨⟨a,b⟩,c⟩,e⟩:=this;exact⟨a,b,λp g=>c.elim (λx=>x p) (λx=>x g),e⟩
  refine⟨q,?_,?_,?_⟩
  ·refine azJ.2 λi j hi m s=>?_;have step:∀i (hi:i+1 < o.keys.length),less o.keys[i] o.keys[i+1]=true:=by
    intro i hi;have:=(f (i+1) hi).2.1;rcases this with n|n
    ·omega
    ·rwa [aBh,aeB _ (by omega:i < o.keys.length)] at n
   have:∀d,∀j (m:j < o.keys.length),j=i+1+d->less o.keys[i] o.keys[j]=true:=by
    intro d
    induction d with
   |zero=>intro j m he;subst he;exact step i m
   |succ d t=>
     intro j m he;subst he;exact rE (t (i+1+d) om rfl) (step (i+1+d) m)
   exact this (j - (i+1)) j m om
  ·intro k g;obtain⟨i,hi,rfl⟩:=axT g;exact⟨(f i hi).1,(f i hi).2.2.1⟩
  ·intro c r;obtain⟨i,hi,rfl⟩:=axT r;exact (f i om).2.2.2
 ·rintro⟨q,u,g,r⟩;refine⟨q,λi hi=>?_⟩;unfold Bn;rw[aeB _ hi,auZ (l:=o.kids),auX (by omega:i < o.kids.length)];simp only[avM,axQ,awG,awN,aAr,ayW,awP];refine⟨⟨⟨(g _ (avD hi)).1,?_⟩,?_⟩,r _ (avD _)⟩
  ·rcases axG i with n|n
   ·exact .inl n
   ·refine .inr ?_;rw[aeB _ (by omega:i - 1 < o.keys.length)];exact uF u om hi
  ·by_cases p:o.k=9
   ·exact .inr ((g _ (avD hi)).2 p)
   ·exact .inl p
theorem tK :check d o=0↔(d<=24∧fF o=av∧(o.k=9->d<=1)∧fits o=av∧o.s.length<=long o.k∧o.kids.length<=8191∧form o=av)∧∀c∈o.kids,check (d+1) c=0:=by
 rw[HO];have hw:why d o=0↔(d<=24∧fF o=av∧(o.k=9->d<=1)∧fits o=av∧o.s.length<=long o.k∧o.kids.length<=8191∧form o=av):=by
  unfold why;split
  ·simp;omega
  rename_i m
  split
  ·rename_i f
   simp only[show (10:Int)≠0 by decide,false_iff,not_and];rintro - a b;rcases f with f|f
   ·rw[f] at a;cases a
   ·have:=b f.1;omega
  rename_i f
  simp only[not_or,Bool.not_eq_false,not_and,Nat.not_lt] at f;split
  ·rename_i g;simp[g]
  rename_i g
  split
  ·rename_i j;simp;intros;omega
  rename_i j
  split
  ·rename_i l;simp;intros;omega
  rename_i l
  split
  ·rename_i i;simp[i]
  rename_i i
  simp only[Bool.not_eq_false] at g i;exact⟨λ_=>⟨om,f.1,f.2,g,om,om,i⟩,λ_=>rfl⟩
 split
 ·rename_i h
  constructor
  ·intro e;exact absurd e h
  ·intro e;exact absurd (hw.2 e.1) h
 ·rename_i h
  have h:=aAA.1 h;rw[NW];exact⟨λe=>⟨hw.1 h,e⟩,λe=>e.2⟩
theorem rC (h:check d o=0)(i:keyed o=av):check d (bL o key)=0:=by
 obtain⟨⟨p,a2,a3,a4,a5,q,e⟩,j⟩:=tK.1 h;have s1:=IK key o.keys o.kids;have s2:=IU key o.keys o.kids;have f:o.k=7∨o.k=9:=by simpa[keyed] using i
 have m:(bL o key).k=o.k:=rfl;have a:(bL o key).keys=(fZ key o.keys o.kids).1:=rfl;have b:(bL o key).kids=(fZ key o.keys o.kids).2:=rfl;refine tK.2 ⟨⟨p,?_,a3,a4,a5,?_,?_⟩,λc l=>j c (s2.subset l)⟩
 ·unfold fF at a2 ⊢;rw[m];rcases f with r|t
  ·rw[r] at a2 ⊢;simpa[used,show (bL o key).n=o.n from rfl,show (bL o key).g=o.g from rfl,show (bL o key).s=o.s from rfl] using a2
  ·rw[t] at a2 ⊢;simpa[used,show (bL o key).n=o.n from rfl,show (bL o key).g=o.g from rfl,show (bL o key).s=o.s from rfl] using a2
 ·rw[b];exact axN s2.length_le q
 ·unfold form at e ⊢;rw[m];simp only[avM] at e ⊢;refine⟨e.1,?_⟩;rw[auR f] at e ⊢;have u:rising o=true:=by simpa using e.2
  obtain⟨y,v,w,x⟩:=D6.1 u;have:rising (bL o key)=true:=by
   refine D6.2 ⟨?_,?_,?_,?_⟩
   ·rw[a,b];exact IX key _ _
   ·rw[a];exact List.Pairwise.sublist s1 v
   ·rw[a];exactλk i=>w k (s1.subset i)
   ·rw[b];exactλc j=>x c (s2.subset j)
  simp[this]
end Vl
namespace Dk
end Dk
end
end Go.Proofs.YtkghomgfocpgeaaGreatDoor









namespace Go.Proofs.YtkghomgfocpgeaaGreatDoor
variable{A S:Nat->Prop}{E T1 U:TypeId}{K:VWP}{L:List Eng.Ent}{M N:Eng.Mem}{P:Program}{PK:PKT}{a:Int}{args:Array aq}{b cap d f i j m sz:Nat}{cb:Array Bool}{cs news xs:List aq}{ds:List Deferred}{e:Eng.Ent}{k':IntKind}{key:List UInt8}{o:Ob}{q:Bool}{t0 v v2 va vc vk:aq}{u:FrameMode}{w w0:ao}{xo yo:Operand}{t0 t1 t2:aq}{k0:Eng.KT}
section
open Eng Go.RowKit
theorem sQ {T2:TypeId}{k:IntKind}{b:Int}:DoX P (mB .max #[T1,T2] U cb #[.int k a,.int k' b]) w PK K=K (.int k (max a b)) w:=by
 refine aC ?_;have e:(if a < b then b else a)=max a b:=by split<;>omega
 simp[mB,builtin,Builtin.max_,Builtin.max2,e]
section
variable {w:ao}{PK:PKT}{K:VWP}{S:Nat->Prop}{w0:ao}{L:List Ent}
theorem bD {off:Nat}:DoX ah (GZ (af b off)) w PK K=K (af b off) w:=aC rfl
end
end
section
open Go
namespace Fl
def bit (s:List UInt8)(p:Nat):Nat:=(s.getD (p / 8) 0).toNat / 2 ^ (p % 8) % 2
theorem Q4 (s:List UInt8)(p:Nat):bit s p < 2:=ayE _ dc
def num (s:List UInt8)(p:Nat):Nat->Nat
|0=>0
|n+1=>num s p n+bit s (p+n)*2 ^ n
theorem iG (s:List UInt8)(p:Nat):∀n,num s p n < 2 ^ n
|0=>by rw[num];decide
|n+1=>by
  have a:=iG s p n;have b:=Q4 s (p+n);rw[num,ayN];rcases (by omega:bit s (p+n)=0∨bit s (p+n)=1) with h|h<;>rw[h]<;>omega
def numE (s:List UInt8)(at_ n:Nat):Nat×Nat×Int:=if at_+n<=8*s.length then (num s at_ n,at_+n,0) else (0,0,4)
def fL (lens:List Nat):Nat:=lens.foldl max 0
def Hn (n:Nat):Nat->List Nat->Nat->Nat
|_,[],_=>0
|i,l::ls,k=>if l=n then (match k with|0=>i|k+1=>Hn n (i+1) ls k) else Hn n (i+1) ls k
def place (lens:List Nat)(n k:Nat):Nat:=Hn n 0 lens k
def iX (lens:List Nat):Nat->Nat
|0=>0
|l+1=>iX lens l+lens.count (l+1)*2 ^ (15 - (l+1))
def bF (lens:List Nat):Nat->Nat
|0=>0
|l+1=>bF lens l+lens.count (l+1)
def check (lens:List Nat):Int:=if iX lens 15=32768∨bF lens 15=0∨(bF lens 15=1∧lens.count 1=1) then 0 else 13
def first (lens:List Nat):Nat->Nat
|0=>0
|1=>0
|l+2=>2*(first lens (l+1)+lens.count (l+1))
theorem UL {lens:List Nat}:∀l,iX lens l<=l*(lens.length*32768)
|0=>by simp[iX]
|l+1=>by
  have a:=UL (lens:=lens) l;have b:lens.count (l+1)*2 ^ (15 - (l+1))<=lens.length*32768:=axW ayX (by
   have:2 ^ (15 - (l+1))<=2 ^ 15:=awC dc om;simpa using this)
  rw[iX,axZ];omega
theorem Ll {lens:List Nat}:∀l,bF lens l<=l*lens.length
|0=>by simp[bF]
|l+1=>by
  have a:=Ll (lens:=lens) l;have b:lens.count (l+1)<=lens.length:=ayX;rw[bF,axZ];omega
theorem OC {lens:List Nat}:∀l,first lens l<=4 ^ l*lens.length
|0=>by simp[first]
|1=>by simp[first]
|l+2=>by
  have b:=OC (lens:=lens) (l+1);have c:lens.count (l+1)<=lens.length:=ayX;have a:4 ^ (l+2)*lens.length=4*(4 ^ (l+1)*lens.length):=by rw[ayN 4 (l+1),azZ (4 ^ (l+1)) 4,Nat.mul_assoc]
  have d:1*lens.length<=4 ^ (l+1)*lens.length:=awL _ (Nat.one_le_pow _ _ dc);rw[first,a];omega
end Fl
end
end Go.Proofs.YtkghomgfocpgeaaGreatDoor
