/- Parts of the proof. -/
import Derived.Test.YtlipjfcbjemicaaGreatDoorRows
import Derived.Test.YtlipjfcbjemicaaGreatDoorMilelddji
set_option linter.all false
set_option maxRecDepth 20000
open Go.Proofs.Tryz
open Go.Proofs.Tryz renaming prog->ah
open Option renaming some->ax,none->aw
open Bool renaming true->av,false->au
open Go renaming Value->aq,World->ao
open Decidable renaming decide->ai
namespace Go.Proofs.YtlipjfcbjemicaaGreatDoor
variable{B Sy cl counts l near:List Nat}{C:ao->Prop}{M:Eng.Mem}{P:Program}{W:ao}{above:List UInt8}{args:Array aq}{b cap d f i j jm most p t:Nat}{colors:Int}{cv:aq}{α:Type}{w:ao}{t0 t1 t2 t3 t4:aq}{k0:Eng.KT}
section
open Eng Go.RowKit
namespace Ff
def names (o:Ob):List (List UInt8)×Int:=
 if (Ja o).any (λx=>ai (x.k≠5))=av then ([],10)
 else if 8 < (Ja o).length then ([],6)
 else if (Ja o).any (λx=>ai (full x.s=[]))=av then ([],15)
 else ((Ja o).map (λx=>full x.s),0)
def of (o:Ob):List (List UInt8)×List Pm×Int:=
 if o.k≠9 then ([],[],10)
 else if (names o).2≠0 then ([],[],(names o).2)
 else if (vL o (names o).1.length).2≠0 then ([],[],(vL o (names o).1.length).2)
 else if (vL o (names o).1.length).1.any (λx=>!decide x.ok)=av then ([],[],1)
 else ((names o).1,(vL o (names o).1.length).1,0)
theorem PY {o:Ob}{n:Nat}(h:(vL o n).2=0):(vL o n).1.length=n:=by
 unfold vL at h ⊢;by_cases a:(sS o).2≠0
 ·rw[asU a] at h;cases h
 rw[asT a] at h ⊢;by_cases b:(sS o).1.any (λx=>ai ((KX x).2≠0))=av
 ·rw[asU b] at h;cases h
 rw[asT b] at h ⊢;by_cases c:n < (sS o).1.length
 ·rw[asU c] at h;cases h
 rw[asT c] at h ⊢;by_cases d:(sS o).1.any (λx=>!eight x)=av
 ·rw[asU d] at h;cases h
 rw[asT d];simp only[asY,atV,auK];omega
theorem X4 {o:Ob}:(names o).1.length<=8:=by
 unfold names
 repeat' split
 all_goals first|exact atU _|(simp only[atV];omega)
end Ff
theorem Jp:bY ah 77=true:=krx
theorem Ut:eP ah 40=true:=krx
theorem amJ:kC ah 107 0=ax 0:=krx
theorem asO:(Tryz.prog.info? 107).map (·.size)=ax 1:=krx
abbrev ofC (a b c d:Nat)(o:Ob)(vk vc vn vp:aq)(e:Int):List Ent:=[.cells d [ad e] 30,.cells c [vp] 40,.cells b [vn] 22,obE a o vk vc]
theorem Gx (o:Ob)(v:aq)(M:Mem)(w:ao)(hw:o.wt<=1000000000)(hM:M.has w)(hv:OV M.A M.w v o) :
  jJ ah 28 #[v] M w (λr N=>∃vn vp,r=.tuple #[vn,vp,ad (Ff.of o).2.2]∧SlA N.A N.w vn 1 (Ff.of o).1.length (bF (Ff.of o).1)∧SlA N.A N.w vp 3 (Ff.of o).2.1.length ((Ff.of o).2.1.flatMap pmC)):=by
 obtain⟨vk,vc,c1,rfl,ha⟩:=hv.open;refine aU hM λK hK=>LC ?_;generalize f:Ff.of o=X at hK;unfold Ff.of at f;unfold J8 iN dx alx;refine eI o ha.keys.one ha.kids.one (cH.memS hM) λC w1 c=>?_;refine bI (λb=>af b 0) [cO] 22 (λ_=>by kernel_rfl) c λg w2 c=>?_;refine bI (λb=>af b 0) [cO] 40 (λ_=>by kernel_rfl) c λj w3 c=>?_;refine bI (λb=>af b 0) [ad 0] 30 (λ_=>by kernel_rfl) c λl w4 c=>?_;have c:cH M.A w w4 (ofC C g j l o vk vc cO cO 0++([.mem M]++[])):=c;have c:=c.front;have c:cH M.A w w4 (.mem M::ofC C g j l o vk vc cO cO 0):=c;rw[AQ];refine⟨_,rfl,?_⟩
 -- c2 end with an error
 have z:∀{W:ao} {N:Mem} {e:Int} {R:List Ent},cH M.A w W (.mem N::(ofC C g j l o vk vc cO cO e++R))->M.le N->X=([],[],e) ->
   A2 ah [.cell (af g 0) 22,.cell (af j 0) 40,.cell (af l 0) 30] W K:=by
  intro W N e R c hle d;refine SS (bJ (AtV.cell Q3 (c.cell 3 rfl 0 rfl))) (bJ (AtV.cell Ut (c.cell 2 rfl 0 rfl))) (bJ (AtV.cell Ig (c.cell 1 rfl 0 rfl))) (hK _ _ N _ 0 c rfl hle ⟨cO,cO,by rw[d],by rw[d];exact SlA.nil _ _ _ _,by rw[d];exact SlA.nil _ _ _ _⟩)
 have fail:∀{W:ao} {N:Mem} {e:Int} {vn vp:aq},cH M.A w W (.mem N::ofC C g j l o vk vc vn vp 0)->M.le N->X=([],[],e) ->
   aD { target:=.fn (.func 77) #[af g 0,af j 0,af l 0],args:=#[]++#[] } (af g 0) (af j 0) (af l 0) K [upF e] W:=by
  intro W N e vn vp c hle d;show pd ah _ K _ [upF e] W;unfold pd;refine qH sm Jp (jZ (t0:=af g 0) (t1:=af j 0) (t2:=af l 0) ?_);simp only[iM,yX,Ba,upF,Eng.anN axM,rs,Zi ajV,ex,i_t,i_f,dx,exx,stx,eqx,alx];refine bI (λb=>af b 0) [ad 0] 107 (λ_=>by kernel_rfl) c λb7 w5 c=>?_;refine jK 0 c rfl (new:=[ad e]) asO (λu hu=>by rw[auB.1 hu];rfl) rfl λV c=>?_;have c:cH M.A w V (.cells b7 [ad e] 107::.mem N::ofC C g j l o vk vc vn vp 0):=c;refine join λJ hJ=>?_
  try simp only[auO,i_f]
  refine hJ _ _ λ_=>?_;unfold xD ldx fax stx;refine⟨?_⟩;have c:=c.drew
  repeat' first
  |apply And.intro
  |refine aC (bC amJ) |>.mpr ?_
  |refine aC (aB Ig (c.cell 0 rfl 0 rfl)) |>.mpr ?_
  |refine aN 4 c rfl krx rfl sm (λ_ c=>?_)
  |refine aN 3 c rfl krx rfl sm (λ_ c=>?_)
  |refine aN 2 c rfl krx rfl sm (λ_ c=>?_)
  all_goals
   unfold eA;exact z (R:=[]) c.tail hle d
 rw[eO,sA c 4 rfl];simp only[rs];refine qG (λZ=>?_) (λZ=>?_)
 rotate_left
 ·rw[asU (auS Z)] at f;exact fail c M.le_refl f.symm
 have Z:=atQ Z;rw[asT (λh=>h Z)] at f;rw[iV c 4 rfl];have c3:=Ff.SI hw;have c4:Ff.names o=Ff.names o:=rfl;generalize t:Ff.names o=Nn at f;unfold Ff.names at t;refine X5 c hw hv (λh5 vl N w5 F G c=>?_) (λh5 N w5 F c=>?_)
 rotate_left
 ·have:(Ff.Ja o).any (λx=>ai (x.k≠5))=true:=by
   refine avB.2 (Classical.byContradiction λhc=>h5 λx d=>Classical.byContradiction λh=>hc ⟨x,d,atA h⟩)
  rw[asU this] at t;rw[<-t,asU dc] at f;exact fail c F f.symm
 rw[asT (λh=>by
  obtain⟨x,d,h⟩:=avB.1 h;exact (atQ h) (h5 x d))] at t
 have hlen:∀{W:ao} {PK:PKT} {K:VWP},DoX ah (mB .len #[22] 3 #[au] #[vl]) W PK K=K (ad (((Ff.Ja o).map Ob.s).length:Int)) W:=λ{_ _ _}=>by
  obtain⟨a,cap,rfl,_⟩:=G.form;exact bO atN
 rw[hlen];simp only[rs];refine qG (λE=>?_) (λE=>?_)
 rotate_left
 ·have E:=auS E;rw[atV] at E;rw[asU om] at t;rw[<-t,asU dc] at f;exact fail c F f.symm
 have E:=atQ E;rw[asT (by rw[atV] at E;omega)] at t;rw[hlen];generalize a1:(Ff.Ja o).map Ob.s=n at G hlen E;have a6:∀{p:List UInt8->Bool},(Ff.Ja o).any (λx=>p x.s)=n.any p:=λ{p}=>by rw[<-a1,List.any_map];rfl
 have a7:(Ff.Ja o).map (λx=>Ff.full x.s)=n.map Ff.full:=by rw[<-a1,axB];rfl
 rw[a6 (p:=λx=>ai (Ff.full x=[])),a7] at t;have c:=cH.nilU c 9 1;refine loop (λvs W=>∃(i:Nat) (ov:aq),vs=[ad (i:Int)]∧i<=n.length∧(∀x∈n.take i,Ff.full x≠[])∧cH M.A w W (stsE ov ((n.take i).map Ff.full)::.mem N::ofC C g j l o vk vc ov cO 0)) (λvs _=>n.length - n0 vs) ⟨0,cO,rfl,om,sm,c⟩ ?_;clear c;rintro vs V ⟨i,ov,rfl,hi,hf,c⟩ _;simp only[Gz,gd,rs,iN];by_cases B:(i:Int) < (n.length:Int)
 ·simp only[B,asX,i_t];have m:i < n.length:=om
  obtain⟨p,H,I⟩:=Fc G m;rw[aC (H V),aC (I V (c.hasM 1 rfl))];refine qE (FM n[i] V) ?_;simp only[ex];refine qG (λh=>?_) (λh=>?_)
  rotate_left
  ·have h:=Decidable.not_not.1 (auS h);rw[asU (avB.2 ⟨_,atP m,atA h⟩)] at t;rw[<-t,asU dc] at f;exact fail c.tail F f.symm
  have h:Ff.full n[i]≠[]:=atQ h;rw[aR Q3 (c.cell 4 rfl 0 rfl)];refine YL _ c (by rw[atV,atF];omega) λa8 W2 c=>?_;have L:a8.oneCell'=true:=kT (Sl.urow (c.at_ 0 rfl));refine aN 4 c rfl krx L sm λw7 c=>?_
  try simp only[rs]
  rw[aA om om];refine⟨rfl,?_⟩;refine aS ⟨i+1,a8,rfl,om,?_,?_⟩ (by simp[n0,RowKit.intOf];omega)
  ·rw[auD m];intro x d;rcases auF.1 d with d|d
   ·exact hf x d
   ·rw[auB.1 d];exact h
  ·rw[auD m,auJ];exact c
 simp only[B,asW,i_f];have:i=n.length:=om
 subst this;rw[auZ] at hf c;rw[asT (λh=>by
  obtain⟨x,d,h⟩:=avB.1 h;exact hf x d (atQ h))] at t
 subst t;dsimp only at f;rw[asT dc] at f;generalize b0:n.map Ff.full=ns at f c;have b9:ns.length=n.length:=by rw[<-b0,atV]
 have c0:∀x∈ns,x≠[]:=by
  rw[<-b0];intro x d;obtain⟨y,O,rfl⟩:=auH.1 d;exact hf y O
 rw[iV c 5 rfl];rw[hlen,<-b9];obtain⟨N2,l2,q,c⟩:=c.bV 0 rfl;have c:cH M.A w V (.mem N2::ofC C g j l o vk vc ov cO 0):=c;have Q:=@Ff.PY o ns.length;generalize hP:Ff.vL o ns.length=P at f Q;refine abB (many:=ns.length) c hw om ((hv.le F).le l2) (λY vp N3 w7 l3 D c=>?_) (λY N3 w7 l3 c=>?_)
 rotate_left
 ·rw[hP] at Y ⊢;rw[asU Y] at f;exact fail c ((F.trans l2).trans l3) f.symm
 rw[hP] at Y D;have Q:=Q Y;rw[asT (λh=>h Y)] at f;have b5:vp.oneCell'=true:=D.one;refine aN 2 c rfl krx b5 sm λw8 c=>?_;have c:cH M.A w w8 (.mem N3::ofC C g j l o vk vc ov vp 0):=c;rw[aR Q3 (c.cell 3 rfl 0 rfl)];have hle:=(F.trans l2).trans l3;have q:=q.le l3;have S:∀{W:ao} {PK:PKT} {K:VWP},DoX ah (mB .len #[22] 3 #[au] #[ov]) W PK K=K (ad (ns.length:Int)) W:=λ{_ _ _}=>by
  obtain⟨a,cap,rfl,_⟩:=q.form;exact bO atN
 rw[S];refine loop (λvs W=>∃i:Nat,vs=[ad (i:Int)]∧i<=ns.length∧(∀x∈P.1.take i,x.ok)∧cH M.A w W (.mem N3::ofC C g j l o vk vc ov vp 0)) (λvs _=>ns.length - n0 vs) ⟨0,rfl,om,sm,c⟩ ?_;clear c;rintro vs w9 ⟨i,rfl,hi,T,c⟩ _;simp only[EV,gd,rs,iN,etx];by_cases B:(i:Int) < (ns.length:Int)
 ·simp only[B,asX,i_t];have m:i < ns.length:=om
  have U:i < P.1.length:=om
  obtain⟨p,H,I⟩:=Fc q m;rw[aC (H w9),aC (I w9 (c.hasM 0 rfl)),aR Ut (c.cell 2 rfl 0 rfl)];obtain⟨p2,b6,b8⟩:=Ow D U;rw[aC (b6 w9),aC (b8 w9 (c.hasM 0 rfl))];refine aJ c (L8 P.1[i] w9) ?_;rintro _ c5 rfl c;simp only[eF];by_cases d:P.1[i].ok
  ·rw[asU d];simp only[show ai ((0:Int)≠0)=au from rfl,rs,i_f];rw[aA om om];refine⟨rfl,?_⟩;refine aS ⟨i+1,rfl,om,?_,c⟩ (by simp[n0,RowKit.intOf];omega);rw[auD U];intro y O;rcases auF.1 O with O|O
   ·exact T y O
   ·rw[auB.1 O];exact d
  ·rw[asT d];rw[asU (avB.2 ⟨_,atP U,by simp[d]⟩)] at f;have hn:=c0 _ (atP m);simp only[show ai ((1:Int)≠0)=av from rfl,rs]
   try simp only[rs]
   rw[atA hn]
   try simp only[rs]
   try rw[i_t]
   refine aN 3 c rfl krx rfl sm λc6 c=>?_;refine aN 2 c rfl krx rfl sm λc7 c=>?_;refine aN 1 c rfl krx rfl sm λc8 c=>?_;refine qH sm Jp (jZ (t0:=af g 0) (t1:=af j 0) (t2:=af l 0) ?_);simp only[iM,yX,Ba,Eng.anB axM,i_f,dx,exx,stx,eqx,alx];exact z (R:=[]) c hle f.symm
 simp only[B,asW,i_f];have:i=ns.length:=om
 subst this;rw[auG om] at T;rw[asT (λh=>by
  obtain⟨x,d,h⟩:=avB.1 h;have:=T x d;simp[this] at h)] at f
 have fin:∀{W:ao},cH M.A w W (.mem N3::ofC C g j l o vk vc ov vp 0) ->
   kY (af g 0) (af j 0) (af l 0) { target:=.fn (.func 77) #[af g 0,af j 0,af l 0],args:=#[]++#[] } W K:=by
  intro W c;unfold kY;refine qH sm Jp (jZ (t0:=af g 0) (t1:=af j 0) (t2:=af l 0) ?_);simp only[iM,yX,Ba,Eng.anB axM,i_f,dx,exx,stx,eqx,alx];refine SS (bJ (AtV.cell Q3 (c.cell 3 rfl 0 rfl))) (bJ (AtV.cell Ut (c.cell 2 rfl 0 rfl))) (bJ (AtV.cell Ig (c.cell 1 rfl 0 rfl))) ?_;exact hK _ _ N3 _ 0 c rfl hle ⟨ov,vp,by rw[<-f],by rw[<-f];exact q,by rw[<-f];exact D⟩
 have L:ov.oneCell'=true:=q.one;refine⟨?_⟩;have c:=c.drew
 repeat' first
 |exact fin c
 |apply And.intro
 |refine aC (aB Q3 (c.cell 3 rfl 0 rfl)) |>.mpr ?_
 |refine aC (aB Ut (c.cell 2 rfl 0 rfl)) |>.mpr ?_
 |refine aN 3 c rfl krx L sm (λ_ c=>?_)
 |refine aN 2 c rfl krx b5 sm (λ_ c=>?_)
 |refine aN 1 c rfl krx rfl sm (λ_ c=>?_)
end
end Go.Proofs.YtlipjfcbjemicaaGreatDoor

namespace Go.Proofs.YtlipjfcbjemicaaGreatDoor
variable{B Sy cl counts l near:List Nat}{C:ao->Prop}{M:Eng.Mem}{P:Program}{W:ao}{above:List UInt8}{args:Array aq}{b cap d f i j jm most p t:Nat}{colors:Int}{cv:aq}{α:Type}{w:ao}{t0 t1 t2 t3 t4:aq}{k0:Eng.KT}
section
open Go
def cm (tag:Int)(above row:List UInt8)(colors:Int):List UInt8:=(List.range row.length).map λi=>row.getD i 0 - du tag above row (i:Int) colors
theorem iz {tag:Int}{row:List UInt8}:(cm tag above row colors).length=row.length:=by simp[cm]
theorem qt {tag:Int}{row:List UInt8}(h:i < row.length):(cm tag above row colors)[i]?=ax (row[i] - du tag above row (i:Int) colors):=by
 simp[cm,h,atD]
theorem uc {tag:Int}{above row:List UInt8}{colors:Int}(a:1<=colors):∀(k i:Nat),row.length=i+k->ep tag above colors (row.take i) ((cm tag above row colors).drop i)=row
|0,i,h=>by
  rw[ayR (by rw[iz];omega),auG om];rfl
|k+1,i,h=>by
  have hi:i < row.length:=om
  have b:(row.take i).length=i:=by rw[atF];omega
  have e:(cm tag above row colors).drop i=(row[i] - du tag above row (i:Int) colors)::(cm tag above row colors).drop (i+1):=by
   rw[auL (by rw[iz];exact hi)]
   congr 1
   have:=qt (tag:=tag) (above:=above) (colors:=colors) hi;rw[atI (by rw[iz];exact hi)] at this;exact awT this
  have c:du tag above row (i:Int) colors=du tag above (row.take i) (i:Int) colors:=by
   have:=ua (tag:=tag) (above:=above) (p:=row.take i) (r:=row.drop i) (colors:=colors) a;rw[auR,b] at this;exact this
  rw[e,ep,b,c];have d:row[i] - du tag above (row.take i) (i:Int) colors+du tag above (row.take i) (i:Int) colors=row[i]:=UInt8.sub_add_cancel _ _;rw[d,<-auD hi];exact uc a k (i+1) om
def ez (T:List UInt8->List UInt8->Nat)(c:Int)(n h:Nat):Nat->List UInt8->List UInt8->List UInt8
|0,_,_=>[]
|f+1,s,prev=>if s=[] then [] else (if h=1 then [UInt8.ofNat (T prev (s.take n))] else [])++(cm (T prev (s.take n):Nat) prev (s.take n) c++ez T c n h f (s.drop n) (s.take n))
theorem qu {T:List UInt8->List UInt8->Nat}{c:Int}{n h:Nat}(g:0 < n)(d:h=0∨h=1):∀(k f:Nat) (s prev:List UInt8),s.length=k*n->s.length < f->(ez T c n h f s prev).length=k*(n+h)
|_,0,_,_,_,i=>by omega
|0,f+1,s,prev,a,_=>by
  have:s=[]:=awO.1 om;unfold ez;rw[asU this];simp
|k+1,f+1,s,prev,a,i=>by
  rw[awM] at a;have b:s≠[]:=λe=>by rw[e] at a;simp at a;omega
  have lt:(s.take n).length=n:=by rw[atF];omega
  have j:(s.drop n).length=s.length - n:=atG;unfold ez;rw[asT b,asY,asY,iz,lt,qu g d k f (s.drop n) (s.take n) om om,awM];rcases d with rfl|rfl
  ·rw[asT dc];simp;omega
  ·rw[asU rfl];simp;omega
theorem ud {T:List UInt8->List UInt8->Nat}{c:Int}{n h:Nat}(o:1<=c)(u:0 < n)(p:h=0∨h=1)(q:∀a b,T a b<=4)(i:h=0->∀a b,T a b=1) :
  ∀(k f g:Nat) (s prev out:List UInt8),s.length=k*n->s.length < f->k < g->lg c n h g (ez T c n h f s prev) prev out=(out++s,0)
|_,0,_,_,_,_,_,v,_=>by omega
|_,_,0,_,_,_,_,_,w=>by omega
|0,f+1,g+1,s,prev,out,j,_,_=>by
  have:s=[]:=awO.1 om;unfold ez;rw[asU this,this];unfold lg;rw[asU (show ([]:List UInt8).length=0 from rfl),atX]
|k+1,f+1,g+1,s,prev,out,j,v,w=>by
  rw[awM] at j;have l:s≠[]:=λe=>by rw[e] at j;simp at j;omega
  have x:s.take n++s.drop n=s:=auR ..
  have lt:(s.take n).length=n:=by rw[atF];omega
  have A:(s.drop n).length=s.length - n:=atG;unfold ez;rw[asT l];have r:=ud o u p q i k f g (s.drop n) (s.take n) (out++s.take n) om om om;rw[atJ,x] at r;rw[<-r];have hle:(cm (T prev (s.take n):Nat) prev (s.take n) c).length=n:=by rw[iz,lt]
  have d:=uc (tag:=(T prev (s.take n):Nat)) (above:=prev) (row:=s.take n) o n 0 om;rw[awQ,auX] at d
  conv=>lhs;unfold lg
  have B:=q prev (s.take n);rcases p with rfl|rfl
  ·have y:=i rfl prev (s.take n);rw[y] at d hle ⊢;have m:(if (0:Nat)=1 then [UInt8.ofNat 1] else [])++(cm ((1:Nat):Int) prev (s.take n) c++ez T c n 0 f (s.drop n) (s.take n))=cm ((1:Nat):Int) prev (s.take n) c++ez T c n 0 f (s.drop n) (s.take n):=rfl;rw[m,asT (by rw[asY];omega)];dsimp only;rw[asT (show ¬(0:Nat)=1 by decide),asT dc,auX,auU,avW hle,List.drop_left' hle];have hd:ep ((1:Nat):Int) prev c [] (cm ((1:Nat):Int) prev (s.take n) c)=s.take n:=d;rw[hd]
  ·rw[asU rfl];have m:([UInt8.ofNat (T prev (s.take n))]++(cm (T prev (s.take n):Nat) prev (s.take n) c++ez T c n 1 f (s.drop n) (s.take n))).getD 0 0=UInt8.ofNat (T prev (s.take n)):=rfl;have z:(UInt8.ofNat (T prev (s.take n))).toNat=T prev (s.take n):=by rw[axN,avF om]
   have t:([UInt8.ofNat (T prev (s.take n))]++(cm (T prev (s.take n):Nat) prev (s.take n) c++ez T c n 1 f (s.drop n) (s.take n))).drop 1=cm (T prev (s.take n):Nat) prev (s.take n) c++ez T c n 1 f (s.drop n) (s.take n):=rfl;rw[asT (by rw[asY,avA];omega)];dsimp only;rw[asU rfl,m,z,asT om,t,avW hle,axT n 1,<-awS,t,List.drop_left' hle,d]
def dj (l:List UInt8):Nat:=(l.map λc=>min c.toNat (256 - c.toNat)).sum
def ij (above row:List UInt8)(c:Int):Nat->Nat×Nat
|0=>(0,dj (cm 0 above row c))
|k+1=>if dj (cm ((k+1:Nat):Int) above row c) < (ij above row c k).2 then (k+1,dj (cm ((k+1:Nat):Int) above row c)) else ij above row c k
def mg (above row:List UInt8)(c:Int):Nat:=(ij above row c 4).1
theorem uf (above row:List UInt8)(c:Int):∀k,(ij above row c k).1<=k
|0=>atE _
|k+1=>by
  have:=uf above row c k;unfold ij;split
  ·exact atE _
  ·omega
def ju (p c:Int)(above row:List UInt8):Nat:=if p=2 then 1 else if p=15 then mg above row c else (p - 10).toNat
theorem yl {p:Int}(h:p=2∨(10<=p∧p<=15))(c:Int)(a b:List UInt8):ju p c a b<=4:=by
 unfold ju;split
 ·omega
 ·split
  ·exact uf a b c 4
  ·omega
def bu (l:List Nat)(i:Nat):Nat:=
 l.getD (8*i) 0+2*l.getD (8*i+1) 0+4*l.getD (8*i+2) 0+8*l.getD (8*i+3) 0+16*l.getD (8*i+4) 0+32*l.getD (8*i+5) 0+64*l.getD (8*i+6) 0+128*l.getD (8*i+7) 0
def az (l:List Nat):List UInt8:=(List.range ((l.length+7) / 8)).map λi=>UInt8.ofNat (bu l i)
def bf (v n:Nat):List Nat:=(List.range n).map λi=>v / 2 ^ i % 2
def br (l:List Nat):Prop:=∀b∈l,b < 2
theorem bw (v n:Nat):(bf v n).length=n:=by simp[bf]
theorem ej (v n:Nat):br (bf v n):=by
 intro b a;obtain⟨i,_,rfl⟩:=auH.1 a;exact awC _ dc
theorem ja (h:br l)(i:Nat):l.getD i 0 < 2:=by
 rw[atD];cases a:l[i]? with
|none=>decide
|some b=>exact h b (awV a)
theorem ym (h:br l)(i:Nat):bu l i < 256:=by
 unfold bu;have a:=ja h (8*i);have b:=ja h (8*i+1);have c:=ja h (8*i+2);have d:=ja h (8*i+3);have e:=ja h (8*i+4);have f:=ja h (8*i+5);have g:=ja h (8*i+6);have j:=ja h (8*i+7);omega
theorem me (l:List Nat):(az l).length=(l.length+7) / 8:=by simp[az]
theorem D0 (h:i < (l.length+7) / 8):(az l).getD i 0=UInt8.ofNat (bu l i):=by
 rw[atD];simp[az,h]
theorem yn (h:br l)(i j:Nat)(a:j < 8):bu l i / 2 ^ j % 2=l.getD (8*i+j) 0:=by
 unfold bu;have b:=ja h (8*i);have c:=ja h (8*i+1);have d:=ja h (8*i+2);have e:=ja h (8*i+3);have f:=ja h (8*i+4);have g:=ja h (8*i+5);have k:=ja h (8*i+6);have m:=ja h (8*i+7);rcases (by omega:j=0∨j=1∨j=2∨j=3∨j=4∨j=5∨j=6∨j=7) with rfl|rfl|rfl|rfl|rfl|rfl|rfl|rfl<;>(try simp only[auU])<;>omega
theorem qv (h:br l)(p:Nat):Fl.bit (az l) p=l.getD p 0:=by
 unfold Fl.bit;by_cases hp:p / 8 < (l.length+7) / 8
 ·have a:=ym h (p / 8);rw[D0 hp,axN,avF (show bu l (p / 8) < 2 ^ 8 from a),yn h _ _ (awC _ dc),show 8*(p / 8)+p % 8=p by omega]
 ·have b:(az l).getD (p / 8) 0=0:=by
   rw[atD,avJ (by rw[me];omega)];rfl
  have c:l.getD p 0=0:=by
   rw[atD,avJ om];rfl
  rw[b,c];simp
theorem uh {l:List Nat}(h:br l)(p v:Nat):∀n,(∀i,i < n->l.getD (p+i) 0=v / 2 ^ i % 2)->Fl.num (az l) p n=v % 2 ^ n
|0,_=>by rw[Fl.num,Nat.pow_zero,Nat.mod_one]
|n+1,a=>by
  rw[Fl.num,uh h p v n (λi hi=>a i om),qv h,a n om,Nat.mod_pow_succ,awN]
theorem yp {a b:List Nat}{v n:Nat}(h:br (a++bf v n++b))(c:v < 2 ^ n):Fl.num (az (a++bf v n++b)) a.length n=v:=by
 rw[uh h a.length v n,avF c];intro i hi;rw[atD,atJ,avU om,azK,avK (by rw[bw];exact hi)];simp[bf,hi]
theorem bz {a b:List Nat}(c:br a)(d:br b):br (a++b):=λx e=>(auF.1 e).elim (c x) (d x)
end
def jj (v n:Nat):List Nat:=(List.range n).map λi=>v / 2 ^ (n - 1 - i) % 2
theorem ui (v n:Nat):(jj v n).length=n:=by simp[jj]
theorem yq (v n:Nat):br (jj v n):=by
 intro b a;obtain⟨i,_,rfl⟩:=auH.1 a;exact awC _ dc
def dt (lens:List Nat)(i:Nat):List Nat:=jj (da lens i) (lens.getD i 0)
theorem fw (lens:List Nat)(i:Nat):(dt lens i).length=lens.getD i 0:=ui ..
theorem lz (lens:List Nat)(i:Nat):br (dt lens i):=yq _ _
theorem uj (lens:List Nat):∀l,l < 15->(Fl.first lens (l+1)+lens.count (l+1))*2 ^ (15 - (l+1))=Fl.iE lens (l+1)
|0,_=>by simp[Fl.first,Fl.iE]
|l+1,h=>by
  have a:=uj lens l om;rw[Fl.iE,<-a,Fl.first,awA]
  congr 1
  rw[show 15 - (l+1)=(15 - (l+1+1))+1 by omega,awD,awN 2,ayV,awN 2]
theorem E0 (lens:List Nat){a:Nat}(h:a<=b):Fl.iE lens a<=Fl.iE lens b:=by
 induction b with
|zero=>
  have:a=0:=om
  subst this;exact atE _
|succ b c=>
  rcases auC a (b+1) with d|d
  ·have:=c om;rw[Fl.iE];omega
  ·have:a=b+1:=om
   subst this;exact atE _
theorem uk (lens:List Nat):∀l,Fl.iE lens l<=Fl.bH lens l*2 ^ 15
|0=>by simp[Fl.iE]
|l+1=>by
  have a:=uk lens l;rw[Fl.iE,Fl.bH,awA];have:lens.count (l+1)*2 ^ (15 - (l+1))<=lens.count (l+1)*2 ^ 15:=Nat.mul_le_mul_left _ (avP dc om);omega
theorem um {lens:List Nat}(h:Fl.check lens=0):Fl.iE lens 15<=2 ^ 15:=by
 unfold Fl.check at h;split at h
 ·rename_i a
  have:=uk lens 15;rcases a with a|a|a
  ·omega
  ·rw[a] at this;omega
  ·rw[a.1] at this;omega
 ·cases h
theorem uo {lens:List Nat}(h:bj lens=0):Fl.check lens=0:=by
 unfold bj at h;split at h
 ·cases h
 ·exact h
theorem F0 {lens:List Nat}(h:Fl.iE lens 15<=2 ^ 15){n:Nat}(d:0 < n)(a:n<=15):Fl.first lens n+lens.count n<=2 ^ n:=by
 obtain⟨l,rfl⟩:∃l,n=l+1:=⟨n - 1,om⟩;have b:=uj lens l om;have e:=E0 lens a;have c:(Fl.first lens (l+1)+lens.count (l+1))*2 ^ (15 - (l+1))<=2 ^ (l+1)*2 ^ (15 - (l+1)):=by
  rw[b,<-Nat.pow_add,show l+1+(15 - (l+1))=15 by omega];omega
 exact Nat.le_of_mul_le_mul_right c (aAi _)
theorem uq (lens:List Nat)(l:Nat):∀k,(Fl.first lens (l+1)+lens.count (l+1))*2 ^ (k+1)<=Fl.first lens (l+1+(k+1))
|0=>by
  show _<=2*(Fl.first lens (l+1)+lens.count (l+1));omega
|k+1=>by
  have a:=uq lens l k;rw[show l+1+(k+1+1)=(l+1+k)+2 by omega,Fl.first,awD,<-ayV];rw[show l+1+(k+1)=l+1+k+1 by omega] at a;omega
theorem ur {lens:List Nat}(hi:i < lens.length):(lens.take i).count (lens.getD i 0) < lens.count (lens.getD i 0):=by
 have h:lens=lens.take i++lens.drop i:=(auR i lens).symm;have a:lens.drop i=lens.getD i 0::lens.drop (i+1):=by
  rw[auL hi,atD,atI hi];rfl
 have e:lens.count (lens.getD i 0)=(lens.take i++lens.getD i 0::lens.drop (i+1)).count (lens.getD i 0):=by rw[<-a,<-h]
 rw[e,axR,List.count_cons_self];omega
theorem G0 {lens:List Nat}(hi:i < lens.length):(lf lens (lens.getD i 0)).getD ((lens.take i).count (lens.getD i 0)) 0=i:=by
 unfold lf;obtain⟨m,hm⟩:∃m,lens.length=i+(m+1):=⟨lens.length - i - 1,om⟩;have e:((List.range i).filter λj=>ai (lens.getD j 0=lens.getD i 0)).length=(lens.take i).count (lens.getD i 0):=by
  have h:=qk (lens.take i) (lens.getD i 0);rw[<-h];unfold lf;rw[atF,auM om]
  congr 1
  refine List.filter_congr λj a=>?_;rw[atD,atD (l:=lens.take i),avZ,asU (avG.1 a)]
 rw[hm,List.range_add,aAv,atD,avU om,e,avV,List.range_succ_eq_map,avC,azA,auU];simp
theorem uu {lens:List Nat}(h:Fl.iE lens 15<=2 ^ 15)(b:∀l∈lens,l<=15)(hi:0 < lens.getD i 0):da lens i < 2 ^ lens.getD i 0:=by
 have a:i < lens.length:=by
  rcases auC i lens.length with h|h
  ·exact h
  ·rw[atD,avJ h] at hi;exact absurd hi (ayG _)
 have hm:lens.getD i 0∈lens:=by rw[atD,atI a];exact atP ..
 unfold da;rw[asT om];have c:=ur a;have d:=F0 h hi (b _ hm);omega
theorem uv {a x b:List Nat}(hi:i < x.length):(a++x++b).getD (a.length+i) 0=x.getD i 0:=by
 rw[atD,atJ,avU om,azK,avK hi,atD]
theorem uw {v n:Nat}(hi:i < n):(jj v n).getD i 0=v / 2 ^ (n - 1 - i) % 2:=by
 rw[atD];simp[jj,hi]
theorem ux (l:List Nat):l.length<=8*(az l).length:=by rw[me];omega
theorem H0 {lens:List Nat}(h:Fl.iE lens 15<=2 ^ 15)(p:∀l∈lens,l<=15)(hi:0 < lens.getD i 0){a b:List Nat}(n:br (a++dt lens i++b)) :
  ∀(k l f:Nat),lens.getD i 0=l+(k+1)->k < f ->
   je lens (az (a++dt lens i++b)) f l (a.length+l) (da lens i / 2 ^ (k+1))=(i,a.length+lens.getD i 0,0):=by
 have m:i < lens.length:=by
  rcases auC i lens.length with h|h
  ·exact h
  ·rw[atD,avJ h] at hi;exact absurd hi (ayG _)
 have hm:lens.getD i 0∈lens:=by rw[atD,atI m];exact atP ..
 have o:=p _ hm;have d:=ur m;have hlen:=ux (a++dt lens i++b);simp only[asY,fw] at hlen;intro k
 induction k with
|zero=>
  intro l f j s;obtain⟨f,rfl⟩:∃g,f=g+1:=⟨f - 1,om⟩;have hu:Fl.bH lens l < Fl.bH lens (l+1):=by rw[Fl.bH];rw[j,atK] at d;omega
  have q:=my lens (a:=l+1) (b:=15) om;have e:Fl.bit (az (a++dt lens i++b)) (a.length+l)=da lens i % 2:=by
   rw[qv n,uv (by rw[fw];omega)];unfold dt;rw[uw om,show lens.getD i 0 - 1 - l=0 by omega,Nat.pow_zero,Nat.div_one]
  have r:2*(da lens i / 2 ^ (0+1))+da lens i % 2=da lens i:=by
   have:(2:Nat) ^ (0+1)=2:=rfl;rw[this];omega
  have c:da lens i=Fl.first lens (l+1)+(lens.take i).count (l+1):=by
   unfold da;rw[asT om,j]
  rw[j,atK] at d;unfold je;rw[asT om,asT om,e,r,asU (by rw[c];omega),show da lens i - Fl.first lens (l+1)=(lens.take i).count (l+1) by rw[c];omega,A0 om d];have:=G0 m;rw[j] at this;rw[this,j];rfl
|succ k t=>
  intro l f j s;obtain⟨f,rfl⟩:∃g,f=g+1:=⟨f - 1,om⟩;have hu:Fl.bH lens l < Fl.bH lens (lens.getD i 0):=by
   have:=my lens (a:=l) (b:=l+(k+1)) om;rw[j] at d ⊢;rw[show l+(k+1+1)=(l+(k+1))+1 by omega] at d ⊢;rw[Fl.bH];omega
  have q:=my lens (a:=lens.getD i 0) (b:=15) o;have e:Fl.bit (az (a++dt lens i++b)) (a.length+l)=da lens i / 2 ^ (k+1) % 2:=by
   rw[qv n,uv (by rw[fw];omega)];unfold dt;rw[uw om,show lens.getD i 0 - 1 - l=k+1 by omega]
  have r:2*(da lens i / 2 ^ (k+1+1))+da lens i / 2 ^ (k+1) % 2=da lens i / 2 ^ (k+1):=by
   rw[awD 2 (k+1),<-awH];omega
  have u:=uq lens l k;have c:Fl.first lens (l+1+(k+1))<=da lens i:=by
   unfold da;rw[asT om,j,show l+1+(k+1)=l+(k+1+1) by omega];omega
  have v:Fl.first lens (l+1)+lens.count (l+1)<=da lens i / 2 ^ (k+1):=(Nat.le_div_iff_mul_le (aAi _)).2 om
  unfold je;rw[asT om,asT om,e,r,asT om];exact t (l+1) f om om
theorem IN {lens:List Nat}(h:bj lens=0)(c:∀l∈lens,l<=15)(hi:0 < lens.getD i 0){a b:List Nat}(d:br (a++dt lens i++b)) :
  ec lens (az (a++dt lens i++b)) a.length=(i,a.length+lens.getD i 0,0):=by
 have e:=um (uo h);have f:=uu e c hi;have hm:lens.getD i 0<=15:=by
  rcases auC i lens.length with h|h
  ·exact c _ (by rw[atD,atI h];exact atP ..)
  ·rw[atD,avJ h];exact atU _
 have:=H0 e c hi d (lens.getD i 0 - 1) 0 16 om om;rw[show lens.getD i 0 - 1+1=lens.getD i 0 by omega,Nat.div_eq_of_lt f] at this;exact this
def ma (group:Nat):Nat->Nat->Nat->Nat->Nat×Nat×Nat
|0,n,sign,bits=>(sign+n / 2 ^ bits,n % 2 ^ bits,bits)
|f+1,n,sign,bits=>if group*2 ^ bits<=n then ma group f (n - group*2 ^ bits) (sign+group) (bits+1) else (sign+n / 2 ^ bits,n % 2 ^ bits,bits)
def jz (n a group:Nat):Nat×Nat×Nat:=if n < a then (n,0,0) else ma group 20 (n - a) a 1
def cg (size:Nat):Nat×Nat×Nat:=if size=258 then (285,0,0) else (257+(jz (size - 3) 8 4).1,(jz (size - 3) 8 4).2)
def dw (d:Nat):Nat×Nat×Nat:=jz (d - 1) 4 2
def ry (n:Nat):Bool:=let r:=cg (n+3);ai (257<=r.1)&&ai (r.1<=285)&&ai (fu (r.1 - 257)=r.2.2)&&ai (jy (r.1 - 257)+r.2.1=n+3)&&ai (r.2.1 < 2 ^ r.2.2)&&ai (r.2.2<=5)
theorem mn {n:Nat}(j:3<=n)(h:n<=258):257<=(cg n).1∧(cg n).1<=285∧fu ((cg n).1 - 257)=(cg n).2.2∧jy ((cg n).1 - 257)+(cg n).2.1=n∧(cg n).2.1 < 2 ^ (cg n).2.2∧(cg n).2.2<=5:=by
 have i:(List.range 256).all ry=true:=by decide +kernel
 have g:=avY.1 i (n - 3) (avG.2 om);unfold ry at g;rw[show n - 3+3=n by omega] at g;simp only[atZ,auP] at g;obtain⟨⟨⟨⟨⟨a,b⟩,c⟩,d⟩,e⟩,f⟩:=g;exact⟨a,b,c,d,e,f⟩
theorem rz (n:Nat):∀(f k:Nat),2 ^ (k+1)<=n->n < 2 ^ (k+f+2) ->
  ∃m,k<=m∧2 ^ (m+1)<=n∧n < 2 ^ (m+2)∧ma 2 f (n - 2 ^ (k+1)) (2+2*k) k=(2+2*m+(n - 2 ^ (m+1)) / 2 ^ m,(n - 2 ^ (m+1)) % 2 ^ m,m)
|0,k,h,e=>⟨k,atE _,h,e,rfl⟩
|f+1,k,h,e=>by
  have i:2 ^ (k+2)=2*2 ^ (k+1):=by rw[awD];omega
  have j:2 ^ (k+1)=2*2 ^ k:=by rw[awD];omega
  unfold ma;by_cases g:2*2 ^ k<=n - 2 ^ (k+1)
  ·rw[asU g];obtain⟨m,a,b,c,d⟩:=rz n f (k+1) (by rw[show k+1+1=k+2 by omega];omega) (by rw[show k+1+f+2=k+(f+1)+2 by omega];exact e);refine⟨m,om,b,c,?_⟩;rw[<-d,show n - 2 ^ (k+1) - 2*2 ^ k=n - 2 ^ (k+1+1) by rw[show k+1+1=k+2 by omega];omega,show 2+2*k+2=2+2*(k+1) by omega]
  ·rw[asT g];exact⟨k,atE _,h,om,rfl⟩
def qb (m:Nat):Bool:=ai (fh (2+2*m)=1+2 ^ (m+1))&&ai (fh (2+2*m+1)=1+2 ^ (m+1)+2 ^ m)
theorem nd (s:1<=d)(h:d<=32768):(dw d).1<=29∧ee (dw d).1=(dw d).2.2∧fh (dw d).1+(dw d).2.1=d∧(dw d).2.1 < 2 ^ (dw d).2.2∧(dw d).2.2<=13:=by
 unfold dw jz;by_cases k:d - 1 < 4
 ·rw[asU k];rcases (by omega:d=1∨d=2∨d=3∨d=4) with rfl|rfl|rfl|rfl<;>decide
 ·rw[asT k];obtain⟨m,a,b,c,e⟩:=rz (d - 1) 20 1 om (by have:(2:Nat) ^ (1+20+2)=8388608:=rfl;omega);have hm:m<=13:=by
   rcases auC m 14 with l|l
   ·omega
   ·have:=avP (n:=2) dc (show 15<=m+1 by omega);have o:(2:Nat) ^ 15=32768:=rfl;omega
  have p:ma 2 20 (d - 1 - 4) 4 1=ma 2 20 (d - 1 - 2 ^ (1+1)) (2+2*1) 1:=rfl;rw[p,e];have t:2 ^ (m+1)=2*2 ^ m:=by rw[awD];omega
  have u:2 ^ (m+2)=4*2 ^ m:=by rw[awD,awD];omega
  have pp:=aAi m;have g:(List.range 14).all qb=true:=by decide +kernel
  have g:=avY.1 g m (avG.2 om);unfold qb at g;rw[atZ,auP,auP] at g;have i:=Nat.div_add_mod (d - 1 - 2 ^ (m+1)) (2 ^ m);have f:=awC (d - 1 - 2 ^ (m+1)) pp;have j:(d - 1 - 2 ^ (m+1)) / 2 ^ m < 2:=(Nat.div_lt_iff_lt_mul pp).2 om;generalize (d - 1 - 2 ^ (m+1)) / 2 ^ m=q at i j ⊢;generalize (d - 1 - 2 ^ (m+1)) % 2 ^ m=r at i f ⊢;rcases (by omega:q=0∨q=1) with rfl|rfl
  ·refine⟨by show 2+2*m+0<=29;omega,by show (2+2*m+0) / 2 - 1=m;omega,?_,f,hm⟩;show fh (2+2*m)+r=d;rw[g.1];omega
  ·refine⟨by show 2+2*m+1<=29;omega,by show (2+2*m+1) / 2 - 1=m;omega,?_,f,hm⟩;show fh (2+2*m+1)+r=d;rw[g.2];omega
def ft (l:List Nat)(p:Nat)(x:List Nat):Prop:=∃a b,l=a++x++b∧p=a.length
theorem ft.fst {x y:List Nat}(h:ft l p (x++y)):ft l p x:=by
 obtain⟨a,b,rfl,rfl⟩:=h;exact⟨a,y++b,by simp[atJ],rfl⟩
theorem ft.snd {x y:List Nat}(h:ft l p (x++y)):ft l (p+x.length) y:=by
 obtain⟨a,b,rfl,rfl⟩:=h;exact⟨a++x,b,by simp[atJ],sm⟩
theorem ft.le {x:List Nat}(h:ft l p x):p+x.length<=8*(az l).length:=by
 obtain⟨a,b,rfl,rfl⟩:=h;have:=ux (a++x++b);simp only[asY] at this;omega
theorem ft.num {l:List Nat}{p v n:Nat}(h:ft l p (bf v n))(c:br l)(d:v < 2 ^ n):Fl.num (az l) p n=v:=by
 obtain⟨a,b,rfl,rfl⟩:=h;exact yp c d
theorem ft.sign {l:List Nat}{p i:Nat}{lens:List Nat}(h:ft l p (dt lens i))(c:br l)(e:bj lens=0)(d:∀l∈lens,l<=15)(hi:0 < lens.getD i 0):ec lens (az l) p=(i,p+lens.getD i 0,0):=by
 obtain⟨a,b,rfl,rfl⟩:=h;exact IN e d hi c
abbrev bo:=UInt8×Nat×Nat
def ib (out:List UInt8)(x:bo):List UInt8:=if x.2.1=0 then out++[x.1] else jd x.2.2 x.2.1 out
def gh (out:List UInt8)(l:List bo):List UInt8:=l.foldl ib out
def ic (n:Nat)(x:bo):Prop:=if x.2.1=0 then x.2.2=0 else x.1=0∧3<=x.2.1∧x.2.1<=258∧1<=x.2.2∧x.2.2<=32768∧x.2.2<=n
def jb:Nat->List bo->Prop
|_,[]=>True
|n,x::l=>ic n x∧jb (n+max x.2.1 1) l
theorem og {out:List UInt8}{x:bo}:(ib out x).length=out.length+max x.2.1 1:=by
 unfold ib;by_cases h:x.2.1=0
 ·rw[asU h,h];simp
 ·rw[asT h,tp];omega
theorem uy:∀(l:List bo) (out:List UInt8),out.length<=(gh out l).length
|[],out=>atE _
|x::l,out=>by
  have:=uy l (ib out x);rw[og] at this;show out.length<=(gh (ib out x) l).length;omega
def fg (near far:List Nat)(x:bo):List Nat:=
 if x.2.1=0 then dt near x.1.toNat
 else dt near (cg x.2.1).1++(bf (cg x.2.1).2.1 (cg x.2.1).2.2++(dt far (dw x.2.2).1++bf (dw x.2.2).2.1 (dw x.2.2).2.2))
def fe (near far:List Nat)(x:bo):Prop:=
 if x.2.1=0 then 0 < near.getD x.1.toNat 0 else 0 < near.getD (cg x.2.1).1 0∧0 < far.getD (dw x.2.2).1 0
def dm (near far:List Nat)(l:List bo):List Nat:=l.flatMap (fg near far)++dt near 256
theorem uz (near far:List Nat)(x:bo):br (fg near far x):=by
 unfold fg;split
 ·exact lz _ _
 ·exact bz (lz _ _) (bz (ej _ _) (bz (lz _ _) (ej _ _)))
theorem vd (near far:List Nat)(l:List bo):br (dm near far l):=by
 refine bz (λb a=>?_) (lz _ _);obtain⟨x,_,c⟩:=ayK.1 a;exact uz near far x b c
theorem ve {near far:List Nat}(s:bj near=0)(w:bj far=0)(d:∀l∈near,l<=15)(h:∀l∈far,l<=15)(i:0 < near.getD 256 0){B:List Nat}(a:br B){most:Nat} :
  ∀(l:List bo) (p:Nat) (out:List UInt8) (f:Nat),(∀x∈l,fe near far x)->jb out.length l->ft B p (dm near far l)->(gh out l).length<=most->l.length < f ->
   kg near far (az B) most f p out=(gh out l,p+(dm near far l).length,0)
|[],p,out,f,_,_,b,hm,j=>by
  obtain⟨f,rfl⟩:∃g,f=g+1:=⟨f - 1,by simp at j;omega⟩;have b:ft B p (dt near 256):=b;unfold kg;simp only[b.sign a s d i];rw[asT sm,asT om,asU trivial];show (out,_,_)=(out,p+(dt near 256).length,0);rw[fw]
|x::l,p,out,f,z,A,b,hm,j=>by
  obtain⟨f,rfl⟩:∃g,f=g+1:=⟨f - 1,by simp at j;omega⟩;have j:l.length < f:=by simp at j;omega
  have k:=z x (auV ..);have e:dm near far (x::l)=fg near far x++dm near far l:=by
   unfold dm;rw[avE,atJ]
  rw[e] at b;have m:=b.fst;have u:=b.snd;have o:(gh (ib out x) l).length<=most:=hm;have v:=avH (uy l (ib out x)) o;have c:=A.1;have q:=A.2;rw[<-og] at q;have n:=ve s w d h i a l (p+(fg near far x).length) (ib out x) f (λy C=>z y (auE _ C)) q u o j;have fin:gh (ib out x) l=gh out (x::l):=rfl;rw[fin] at n;rw[e,asY,<-awP,<-n]
  conv=>lhs;unfold kg
  unfold fe at k;unfold fg at m u n ⊢;unfold ic at c;rw[og] at v;unfold ib at n ⊢;by_cases t:x.2.1=0
  ·rw[asU t] at k c;simp only[asU t] at m n ⊢;have D:x.1.toNat < 256:=x.1.toNat_lt;simp only[m.sign a s d k];rw[asT sm,asU D,asT om,fw,UInt8.ofNat_toNat]
  ·rw[asT t] at k c;simp only[asT t] at m u n ⊢;obtain⟨s1,s2,E,F,G,L⟩:=mn c.2.1 c.2.2.1;obtain⟨f1,f2,f3,f4,f5⟩:=nd c.2.2.2.1 c.2.2.2.2.1;have H:=m.fst;have a2:=m.snd;rw[fw] at a2;have a3:=a2.snd;rw[bw] at a3;have a4:=a3.snd;rw[fw] at a4;have n2:=a2.fst.num a G;have I:=a4.num a f4;have J:=a2.fst.le;have K:=a4.le;rw[bw] at J K;have g3:=a3.fst.sign a w h k.2;simp only[H.sign a s d k.1];have r:ei far (az B) (p+near.getD (cg x.2.1).1 0) (cg x.2.1).1 out most=(jd x.2.2 x.2.1 out,p+near.getD (cg x.2.1).1 0+(cg x.2.1).2.2+far.getD (dw x.2.2).1 0+(dw x.2.2).2.2,0):=by
    unfold ei;rw[asT om,E,asT om,n2,F];simp only[g3];rw[asT sm,asT om,f2,asT om,I,f3,asT om,asT om]
   simp only[r];rw[asT sm,asT om,asT om,asT sm]
   congr 1
   simp only[asY,fw,bw];omega
theorem vf {near far:List Nat}:∀{l:List bo},(∀x∈l,fe near far x)->0 < near.getD 256 0->l.length+1<=(dm near far l).length
|[],_,h=>by
  show 1<=(dt near 256).length;rw[fw];exact h
|x::l,b,h=>by
  have f:=vf (λy d=>b y (auE _ d)) h;have a:=b x (auV ..);have e:dm near far (x::l)=fg near far x++dm near far l:=by
   unfold dm;rw[avE,atJ]
  have:1<=(fg near far x).length:=by
   unfold fg;unfold fe at a;by_cases c:x.2.1=0
   ·rw[asU c] at a ⊢;rw[fw];exact a
   ·rw[asT c] at a ⊢;rw[asY,fw];omega
  rw[e,asY,atW];omega
theorem vh {far:List Nat}(g:bj near=0)(h:bj far=0)(b:∀l∈near,l<=15)(c:∀l∈far,l<=15)(a:0 < near.getD 256 0)(e:br B){l:List bo}
  (f:∀x∈l,fe near far x) (i:jb 0 l) (d:ft B p (dm near far l)) (hm:(gh [] l).length<=most) :
  gn near far (az B) most p []=(gh [] l,p+(dm near far l).length,0):=by
 have j:=vf f a;have k:=d.le;exact ve g h b c a e l p [] _ f i d hm om
def gl (s:List UInt8):List Nat:=s.flatMap λc=>bf c.toNat 8
theorem qw:∀s:List UInt8,(gl s).length=8*s.length
|[]=>rfl
|c::s=>by
  have:=qw s;unfold gl at this ⊢;rw[avE,asY,this,bw,atW];omega
theorem sc (s:List UInt8):br (gl s):=λb a=>by
 obtain⟨c,_,d⟩:=ayK.1 a;exact ej _ _ b d
theorem yr {a b:List Nat}{k:Nat}(h:a.length=8*k)(hi:i < k):bu (a++b) i=bu a i:=by
 have e:∀j,j < 8->(a++b).getD (8*i+j) 0=a.getD (8*i+j) 0:=λj c=>by
  rw[atD,avK om,atD]
 unfold bu;rw[e 1 om,e 2 om,e 3 om,e 4 om,e 5 om,e 6 om,e 7 om,show (a++b).getD (8*i) 0=a.getD (8*i) 0 from e 0 om]
theorem yt {a b:List Nat}{k:Nat}(h:a.length=8*k):bu (a++b) (k+i)=bu b i:=by
 have e:∀j,(a++b).getD (8*(k+i)+j) 0=b.getD (8*i+j) 0:=λj=>by
  rw[atD,avU om,atD,show 8*(k+i)+j - a.length=8*i+j by omega]
 unfold bu;rw[e 1,e 2,e 3,e 4,e 5,e 6,e 7,show (a++b).getD (8*(k+i)) 0=b.getD (8*i) 0 from e 0]
theorem mq {a b:List Nat}{k:Nat}(h:a.length=8*k):az (a++b)=az a++az b:=by
 unfold az;rw[asY,h,show (8*k+b.length+7) / 8=k+(b.length+7) / 8 by omega,show (8*k+7) / 8=k by omega,List.range_add,auJ,axB]
 congr 1
 ·refine axY λi hi=>?_;rw[yr h (avG.1 hi)]
 ·refine axY λi _=>?_;show UInt8.ofNat (bu (a++b) (k+i))=_;rw[yt h]
theorem IS:∀n:Fin 256,az (bf n.val 8)=[UInt8.ofNat n.val]:=by decide +kernel
theorem xr (c:UInt8):az (bf c.toNat 8)=[c]:=by
 have:=IS ⟨c.toNat,c.toNat_lt⟩;rw[this,UInt8.ofNat_toNat]
theorem oh (b:List Nat):∀s:List UInt8,az (gl s++b)=s++az b
|[]=>rfl
|c::s=>by
  have e:gl (c::s)=bf c.toNat 8++gl s:=by unfold gl;rw[avE]
  rw[e,atJ,mq (k:=1) (bw _ _),oh b s,xr];rfl
theorem ft.raw {l:List Nat}{p k:Nat}{s:List UInt8}(h:ft l p (gl s))(hp:p=8*k):((az l).drop k).take s.length=s:=by
 obtain⟨a,b,rfl,rfl⟩:=h;have c:(az a).length=k:=by rw[me,hp];omega
 rw[atJ,mq hp,oh,axP,c,avV,auX,ayR om,auI,aAn,avV,awQ,atX,auZ]
def gm (l:List Nat):List Nat:=l++List.replicate ((8 - l.length % 8) % 8) 0
theorem oo (l:List Nat):(gm l).length=8*((l.length+7) / 8):=by
 unfold gm;rw[asY,auK];omega
theorem vi (l:List Nat):az (gm l)=az l:=by
 have e:∀j,(gm l).getD j 0=l.getD j 0:=λj=>by
  unfold gm;rw[atD,atD];rcases auC j l.length with h|h
  ·rw[avK h]
  ·rw[avU h,avJ (l:=l) h,azS];split<;>rfl
 unfold az;rw[oo,show (8*((l.length+7) / 8)+7) / 8=(l.length+7) / 8 by omega];refine axY λi _=>?_;unfold bu;rw[e,e,e,e,e,e,e,e]
theorem sd (h:br l):br (gm l):=bz h λb a=>by rw[awF a];decide
def jk (R:List Nat)(s:List UInt8):Prop:=∀(L:List Nat) (most:Nat),br L->ft L 0 R->s.length<=most->kj (az L) most (8*(az L).length+1) 0 []=(s,(R.length+7) / 8,0)
theorem yu {R:List Nat}{s t:List UInt8}(h:jk R s)(a:br R){most:Int}(hm:(s.length:Int)<=most)(b:s.length<=1048576):ko (az R++t) most=(s,(az R).length,0):=by
 have e:az R++t=az (gm R++gl t):=by
  have:az (gl t)=t:=by
   have:=oh [] t;rw[atX] at this;rw[this];exact atX _
  rw[mq (oo R),vi,this]
 unfold ko;rw[asT om,e,h _ _ (bz (sd a) (sc t)) ⟨[],List.replicate ((8 - R.length % 8) % 8) 0++gl t,by unfold gm;simp,rfl⟩ om,me]
def ku (last n:Nat)(s:List UInt8):List Nat:=bf last 1++(bf 0 2++(List.replicate 5 0++(bf n 16++(bf (65535 - n) 16++gl s))))
def jg:Nat->List UInt8->List Nat
|0,_=>[]
|f+1,s=>if s.length<=65535 then ku 1 s.length s else ku 0 65535 (s.take 65535)++jg f (s.drop 65535)
theorem kx (last n:Nat)(s:List UInt8):(ku last n s).length=40+8*s.length:=by
 unfold ku;simp only[asY,bw,auK,qw];omega
theorem pq (last n:Nat)(s:List UInt8):br (ku last n s):=
 bz (ej _ _) (bz (ej _ _) (bz (λb a=>by rw[awF a];decide) (bz (ej _ _) (bz (ej _ _) (sc _)))))
theorem se:∀(f:Nat) (s:List UInt8),br (jg f s)
|0,_=>λb a=>by cases a
|f+1,s=>by
  unfold jg;split
  ·exact pq _ _ _
  ·exact bz (pq _ _ _) (se f _)
theorem vj {L:List Nat}{k last:Nat}{s out:List UInt8}(h:ft L (8*k) (ku last s.length s))(a:br L)(i:last < 2)(j:s.length<=65535)(hm:out.length+s.length<=most) :
  8*k+1<=8*(az L).length∧Fl.num (az L) (8*k) 1=last∧dr (az L) most (8*k+1) out=(out++s,8*k+(ku last s.length s).length,0):=by
 have hle:=h.le;rw[kx] at hle ⊢;unfold ku at h;have b:=h.snd;rw[bw] at b;have c:=b.snd.snd;rw[bw,auK] at c;have d:=c.snd;rw[bw] at d;have e:=d.snd;rw[bw] at e;have n1:=b.fst.num a dc;have n2:=c.fst.num a om;have n3:=d.fst.num a om;have f:=e.raw (k:=k+5) om;refine⟨om,h.fst.num a om,?_⟩;unfold dr;rw[asT om,n1,asU rfl];unfold ew;dsimp only;have g:(8*k+1+2+7) / 8*8=8*k+1+2+5:=om
 rw[g,asT om,asT om,n2,n3,asT om,asT om,asT om,show (8*k+1+2+5) / 8+4=k+5 by omega,f]
 congr 2
 omega
theorem vm:∀(f:Nat) (s:List UInt8) (L:List Nat) (k:Nat) (out:List UInt8) (most g:Nat),s.length < f*65535->ft L (8*k) (jg f s)->br L->out.length+s.length<=most->f<=g ->
  kj (az L) most g (8*k) out=(out++s,k+((jg f s).length+7) / 8,0)
|0,s,L,k,out,most,g,m,_,_,_,_=>by omega
|f+1,s,L,k,out,most,g,m,h,a,hm,p=>by
  obtain⟨g,rfl⟩:∃j,g=j+1:=⟨g - 1,om⟩;unfold jg at h ⊢;unfold kj;by_cases d:s.length<=65535
  ·rw[asU d] at h ⊢;obtain⟨n,e,c⟩:=vj h a dc d hm;rw[asT om];simp only[c,e];rw[asT sm,asU trivial]
   congr 2
   omega
  ·rw[asT d] at h ⊢;have b:(s.take 65535).length=65535:=by rw[atF];omega
   have i:=h.fst
   conv at i=>arg 3;arg 2;rw[<-b]
   obtain⟨n,e,c⟩:=vj (out:=out) (most:=most) i a dc om om;have l:=h.snd;rw[kx,b] at l;rw[b,kx,b] at c;rw[asT om];simp only[c,e];rw[asT sm,asT dc];have hd:(s.drop 65535).length=s.length - 65535:=atG;have o:=vm f (s.drop 65535) L (k+65540) (out++s.take 65535) most g om (by rw[show 8*(k+65540)=8*k+(40+8*65535) by omega];exact l) a (by rw[asY];omega) om;rw[show 8*k+(40+8*65535)=8*(k+65540) by omega,o,atJ,auR,asY,kx,b]
   congr 2
   omega
theorem sf:∀(f:Nat) (s:List UInt8),s.length < f*65535->s.length<=(jg f s).length
|0,s,h=>by omega
|f+1,s,h=>by
  unfold jg;by_cases a:s.length<=65535
  ·rw[asU a,kx];omega
  ·have hd:(s.drop 65535).length=s.length - 65535:=atG;have b:(s.take 65535).length=65535:=by rw[atF];omega
   have c:=sf f (s.drop 65535) om;rw[asT a,asY,kx,b];omega
def gz (s:List UInt8):List Nat:=jg (s.length / 65535+1) s
theorem IT (s:List UInt8):br (gz s):=se _ _
theorem I0 (s:List UInt8):jk (gz s) s:=by
 intro L most b a hm;unfold gz at a ⊢;have d:=a.le;have c:s.length < (s.length / 65535+1)*65535:=om
 have e:=sf _ s c;have:=vm _ s L 0 [] most (8*(az L).length+1) c a b (by simpa using hm) om;simpa using this
def iy (l:List bo):List Nat:=bf 1 1++(bf 1 2++dm di dp l)
theorem J0 (l:List bo):br (iy l):=bz (ej _ _) (bz (ej _ _) (vd _ _ _))
def yw (i:Nat):Bool:=ai (0 < di.getD i 0)
theorem ou (h:i < 288):0 < di.getD i 0:=by
 have a:(List.range 288).all yw=true:=by decide +kernel
 exact atQ (avY.1 a i (avG.2 h))
theorem No (h:i < 32):0 < dp.getD i 0:=by
 unfold dp;rw[atD,azS,asU h];decide
theorem nf:∀l∈di,l<=15:=by
 have a:di.all (λl=>ai (l<=15))=true:=by decide +kernel
 exactλl b=>atQ (avY.1 a l b)
theorem ow:∀l∈dp,l<=15:=λl a=>by rw[awF a];decide
theorem mj:∀{l:List bo} {n:Nat},jb n l->∀x∈l,∃m,ic m x
|y::l,n,h,x,a=>by
  rcases atL.1 a with rfl|a
  ·exact⟨n,h.1⟩
  ·exact mj h.2 x a
theorem vo {l:List bo}{n:Nat}(h:jb n l):∀x∈l,fe di dp x:=by
 intro x d;obtain⟨m,hm⟩:=mj h x d;unfold ic at hm;unfold fe;by_cases c:x.2.1=0
 ·rw[asU c];have:=x.1.toNat_lt;exact ou om
 ·rw[asT c] at hm ⊢;have a:=mn hm.2.1 hm.2.2.1;have b:=nd hm.2.2.2.1 hm.2.2.2.2.1;exact⟨ou om,No om⟩
theorem vq {R x:List Nat}{s:List UInt8}(d:R=bf 1 1++x)(h:∀(L:List Nat) (most:Nat),br L->ft L 1 x->s.length<=most->1<=8*(az L).length->dr (az L) most 1 []=(s,1+x.length,0)):jk R s:=by
 subst d;intro L most b a hm;have c:=a.snd;rw[bw] at c;have hle:=a.fst.le;rw[bw] at hle;unfold kj;rw[asT om];simp only[atK,h L most b (by simpa using c) hm om,a.fst.num b dc];rw[asT sm,asU trivial]
 congr 2
 rw[asY,bw]
theorem N0 {l:List bo}(h:jb 0 l):jk (iy l) (gh [] l):=by
 refine vq rfl λL most b a hm hle=>?_;have d:=a.fst.le;have c:=a.snd;rw[bw] at d c;unfold dr;rw[asT om,a.fst.num b dc,asT dc,asU rfl,vh nv nw nf ow (ou dc) b (vo h) h (by simpa using c) hm]
 congr 2
 rw[asY,bw];omega
abbrev cd:=Nat×Nat×Nat
def fo (acc:List Nat)(m:cd):List Nat:=if m.1 < 16 then acc++[m.1] else acc++List.replicate (eh m.1+m.2.1) (if m.1=16 then acc.getD (acc.length - 1) 0 else 0)
def ie (acc:List Nat)(m:cd):Prop:=if m.1 < 16 then m.2.1=0∧m.2.2=0 else m.1<=18∧m.2.2=dh m.1∧m.2.1 < 2 ^ m.2.2∧(m.1=16->0 < acc.length)
def ff (acc:List Nat)(l:List cd):List Nat:=l.foldl fo acc
def jq:List Nat->List cd->Prop
|_,[]=>True
|acc,m::l=>ie acc m∧jq (fo acc m) l
theorem vt (acc:List Nat)(l:List cd)(m:cd):ff acc (l++[m])=fo (ff acc l) m:=by unfold ff;rw[List.foldl_append];rfl
theorem qx:∀{l:List cd} {acc:List Nat} {m:cd},jq acc l->ie (ff acc l) m->jq acc (l++[m])
|[],_,_,_,h=>⟨h,trivial⟩
|_::_,_,_,h,a=>⟨h.1,qx h.2 a⟩
def kz (cl:List Nat)(m:cd):List Nat:=dt cl m.1++bf m.2.1 m.2.2
def gy (cl:List Nat)(l:List cd):List Nat:=l.flatMap (kz cl)
theorem yx (cl:List Nat)(m:cd):br (kz cl m):=bz (lz _ _) (ej _ _)
theorem vu (cl:List Nat)(l:List cd):br (gy cl l):=λb a=>by
 obtain⟨x,_,c⟩:=ayK.1 a;exact yx cl x b c
theorem OF (g:Nat):3<=eh g:=by unfold eh;split<;>omega
theorem si (acc:List Nat)(m:cd):acc.length < (fo acc m).length:=by
 have:=OF m.1;unfold fo;split<;>simp<;>omega
theorem mr:∀(l:List cd) (acc:List Nat),acc.length+l.length<=(ff acc l).length
|[],_=>atE _
|m::l,acc=>by
  have a:=mr l (fo acc m);have b:=si acc m;show acc.length+(l.length+1)<=(ff (fo acc m) l).length;omega
theorem vv {cl:List Nat}(v:bj cl=0)(r:∀l∈cl,l<=15){B:List Nat}(c:br B){n:Nat} :
  ∀(l:List cd) (p:Nat) (acc:List Nat) (f:Nat),(∀m∈l,0 < cl.getD m.1 0)->jq acc l->ft B p (gy cl l)->(ff acc l).length=n->l.length < f ->
   kh cl (az B) n f p acc=(ff acc l,p+(gy cl l).length,0)
|[],p,acc,f,_,_,_,t,o=>by
  obtain⟨f,rfl⟩:∃g,f=g+1:=⟨f - 1,by simp at o;omega⟩;have t:acc.length=n:=t;unfold kh;rw[asU om];rfl
|m::l,p,acc,f,w,x,d,t,o=>by
  obtain⟨f,rfl⟩:∃g,f=g+1:=⟨f - 1,by simp at o;omega⟩;have o:l.length < f:=by simp at o;omega
  have hm:=w m (auV ..);have e:gy cl (m::l)=kz cl m++gy cl l:=by unfold gy;rw[avE]
  rw[e] at d ⊢;have u:=d.fst;have z:=d.snd;have h:(ff (fo acc m) l).length=n:=t;have i:=si acc m;have hle:=mr l (fo acc m);have q:=vv v r c l (p+(kz cl m).length) (fo acc m) f (λy A=>w y (auE _ A)) x.2 z h o;have fin:ff (fo acc m) l=ff acc (m::l):=rfl;rw[fin] at q;rw[asY,<-awP,<-q]
  conv=>lhs;unfold kh
  have a:=x.1;unfold ie at a;unfold kz at u q ⊢;rw[asT om];have C:=u.fst.sign c v r hm;have j:=u.snd;rw[fw] at j;have D:=j.le;rw[bw] at D;simp only[C];rw[asT sm];unfold fo at q i hle h ⊢;rw[asY,fw,bw];by_cases b:m.1 < 16
  ·rw[asU b] at a;simp only[asU b] at q ⊢;rw[a.2,auU]
  ·rw[asT b] at a;simp only[asT b] at q i hle h ⊢;simp only[asY,auK] at i hle;have E:=j.num c a.2.2.1;have s:=a.2.2.2;rw[asT (λk=>by have:=s k.1;omega),<-a.2.1,asT om,E,asT om,<-awP]
theorem jt {P:Nat->Prop}(h:∀x∈l,P x)(a:P 0)(i:Nat):P (l.getD i 0):=by
 rw[atD];cases c:l[i]? with
|none=>exact a
|some b=>exact h b (awV c)
def qc (i:Nat):Bool:=(List.range 19).all λj=>ai (i=j)||decide (cy.getD i 0≠cy.getD j 0)
def qd (j:Nat):Bool:=(List.range 19).any λi=>ai (cy.getD i 0=j)
theorem yy (hi:i < 19)(c:j < 19)(h:i≠j):cy.getD i 0≠cy.getD j 0:=by
 have d:(List.range 19).all qc=true:=by decide +kernel
 have a:=avY.1 d i (avG.2 hi);unfold qc at a;have b:=avY.1 a j (avG.2 c);rw[axS,auP,auP] at b;exact b.resolve_left h
theorem yz (b:j < 19):∃i,i < 19∧cy.getD i 0=j:=by
 have c:(List.range 19).all qd=true:=by decide +kernel
 have a:=avY.1 c j (avG.2 b);unfold qd at a;obtain⟨i,hi,h⟩:=avB.1 a;exact⟨i,avG.1 hi,atQ h⟩
theorem vw (h:i < 19):cy.getD i 0 < 19:=by
 have a:(List.range 19).all (λi=>ai (cy.getD i 0 < 19))=true:=by decide +kernel
 exact atQ (avY.1 a i (avG.2 h))
theorem vx (s:List UInt8)(p:Nat):∀(k i:Nat),k<=19->i < 19->(gw s p k).getD (cy.getD i 0) 0=if i < k then Fl.num s (p+3*i) 3 else 0
|0,i,_,hi=>by
  rw[asT om,gw,atD,azS];split<;>rfl
|k+1,i,c,hi=>by
  have b:=nc s p k;rw[gw,atD];by_cases h:k=i
  ·subst h;rw[awU (by rw[b];exact vw hi),asU om];rfl
  ·rw[azQ (yy om hi h),<-atD,vx s p k i om hi];by_cases a:i < k
   ·rw[asU a,asU om]
   ·rw[asT a,asT om]
def ji (cl:List Nat)(k:Nat):List Nat:=(List.range k).flatMap λi=>bf (cl.getD (cy.getD i 0) 0) 3
theorem qy (cl:List Nat)(k:Nat):ji cl (k+1)=ji cl k++bf (cl.getD (cy.getD k 0) 0) 3:=by
 unfold ji;rw[ayE,ayZ];simp
theorem mw (cl:List Nat):∀k,(ji cl k).length=3*k
|0=>rfl
|k+1=>by rw[qy,asY,mw cl k,bw];omega
theorem qz (cl:List Nat)(k:Nat):br (ji cl k):=λb a=>by
 obtain⟨x,_,c⟩:=ayK.1 a;exact ej _ _ b c
theorem vy {cl:List Nat}(b:∀x∈cl,x<=7){B:List Nat}(a:br B){p:Nat}:∀(k:Nat),ft B p (ji cl k)->∀i,i < k->Fl.num (az B) (p+3*i) 3=cl.getD (cy.getD i 0) 0
|k+1,h,i,hi=>by
  rw[qy] at h;rcases auC i k with c|c
  ·exact vy b a k h.fst i c
  ·obtain rfl:i=k:=om
   have d:=h.snd;rw[mw] at d;have:cl.getD (cy.getD i 0) 0<=7:=jt b dc _;exact d.num a om
theorem za (c:cl.length=19)(d:∀x∈cl,x<=7){k:Nat}(f:k<=19)(l:∀i,k<=i->i < 19->cl.getD (cy.getD i 0) 0=0)(a:br B)(b:ft B p (ji cl k)) :
  gw (az B) p k=cl:=by
 refine List.ext_getElem (by rw[nc,c]) λj m n=>?_;obtain⟨i,hi,o⟩:=yz (j:=j) om;have g:=vx (az B) p k i f hi;have e:(if i < k then Fl.num (az B) (p+3*i) 3 else 0)=cl.getD (cy.getD i 0) 0:=by
  by_cases h:i < k
  ·rw[asU h,vy d a k b i h]
  ·rw[asT h,l i om hi]
 rw[e,o,atD,atD,atI m,atI n] at g;exact g
def mh (a b cl:List Nat)(k:Nat)(ms:List cd)(l:List bo):List Nat:=
 bf 1 1++(bf 2 2++(bf (a.length - 257) 5++(bf (b.length - 1) 5++(bf (k - 4) 4++(ji cl k++(gy cl ms++dm a b l))))))
theorem zb (a b cl:List Nat)(k:Nat)(ms:List cd)(l:List bo):br (mh a b cl k ms l):=
 bz (ej _ _) (bz (ej _ _) (bz (ej _ _) (bz (ej _ _) (bz (ej _ _) (bz (qz _ _) (bz (vu _ _) (vd _ _ _)))))))
theorem O0 {a b:List Nat}{k:Nat}{ms:List cd}{l:List bo}(P:257<=a.length)(w:a.length<=286)(Q:1<=b.length)(y:b.length<=30)(R:4<=k)(r:k<=19)
  (z:cl.length=19) (u:∀x∈cl,x<=7) (A:∀i,k<=i->i < 19->cl.getD (cy.getD i 0) 0=0) (v:bj cl=0) (s:∀m∈ms,0 < cl.getD m.1 0) (t:jq [] ms) (d:ff [] ms=a++b)
  (g:bj a=0) (h:bj b=0) (j:∀x∈a,x<=15) (o:∀x∈b,x<=15) (p:0 < a.getD 256 0) (B:∀x∈l,fe a b x) (C:jb 0 l):jk (mh a b cl k ms l) (gh [] l):=by
 refine vq rfl λL most c e hm hle=>?_;have q:=e.snd;rw[bw] at q;have a2:=q.snd;rw[bw] at a2;have a3:=a2.snd;rw[bw] at a3;have a4:=a3.snd;rw[bw] at a4;have a5:=a4.snd;rw[mw] at a5;have D:=a5.snd;have E:=q.fst.le;have F:=a2.fst.le;have G:=a3.fst.le;have H:=a4.fst.le;have I:=e.fst.le;rw[bw] at I E F G;rw[mw] at H;have n1:=q.fst.num c om;have n2:=a2.fst.num c om;have n3:=a3.fst.num c om;unfold dr;rw[asT om,e.fst.num c dc,asT dc,asT dc,asU rfl];unfold iq;have J:k - 4+4=k:=om
 rw[asT om,n1,asT om,asT om,n2,asT om,asT om,n3,J,asT om];have f:=za z u r A c a4.fst;have f:gw (az L) (1+2+14) k=cl:=f;have hlen:=vv v (λx K=>avH (u x K) dc) c (n:=a.length - 257+257+(b.length - 1+1)) ms (1+2+14+3*k) [] (a.length - 257+257+(b.length - 1+1)+1) s t a5.fst (by rw[d,asY];omega) (by have:=mr ms [];rw[d,asY] at this;simp at this;omega);have hlen:Fl.lens cl (az L) (a.length - 257+257+(b.length - 1+1)) (1+2+14+3*k)=(a++b,1+2+14+3*k+(gy cl ms).length,0):=by rw[<-d];exact hlen
 have M:(a++b).take (a.length - 257+257)=a:=by rw[show a.length - 257+257=a.length by omega,List.take_left]
 have N:(a++b).drop (a.length - 257+257)=b:=by rw[show a.length - 257+257=a.length by omega,List.drop_left]
 have O:(a++b).getD 256 0=a.getD 256 0:=by rw[atD,avK om,atD]
 simp only[f,hlen,M,N,O,v,g,h];rw[asT sm,asT sm,asT om,asT sm,asT sm,vh g h j o p c B C D hm]
 congr 2
 simp only[asY,bw,mw];omega
inductive Cn where
|leaf (w s:Nat)
|node (a b:Cn)
 deriving DecidableEq
def Cn.wt:Cn->Nat
|.leaf w _=>w
|.node a b=>a.wt+b.wt
def Cn.cnt (s:Nat):Cn->Nat
|.leaf _ t=>if t=s then 1 else 0
|.node a b=>a.cnt s+b.cnt s
def Cn.C6:Cn->List Cn
|.leaf _ _=>[]
|.node a b=>[a,b]
def Cn.mC:Cn->Bool
|.leaf _ _=>av
|.node _ _=>au
def Cn.top (s:Nat):Cn->Nat
|.leaf _ t=>if t=s then 1 else 0
|.node _ _=>0
def Cn.kids (l:List Cn):List Cn:=l.flatMap Cn.C6
def Cn.kO:List Cn->List Cn
|a::b::l=>.node a b::Cn.kO l
|_=>[]
def Cn.sorted (l:List Cn):Prop:=l.Pairwise λa b=>a.wt<=b.wt
def Cn.sum (f:Cn->Nat)(l:List Cn):Nat:=(l.map f).sum
theorem Cn.sum_cons (f:Cn->Nat)(c:Cn)(l:List Cn):Cn.sum f (c::l)=f c+Cn.sum f l:=rfl
theorem Cn.JK (f:Cn->Nat)(a b:List Cn):Cn.sum f (a++b)=Cn.sum f a+Cn.sum f b:=by unfold Cn.sum;rw[auJ,ayS]
theorem Cn.MY {f:Cn->Nat}{a b:List Cn}(h:a.Perm b):Cn.sum f a=Cn.sum f b:=(h.map f).sum_nat
theorem Cn.Yp {f:Cn->Nat}:∀{q p:List Cn},q.Nodup->(∀x∈q,x∈p)->Cn.sum f q<=Cn.sum f p
|[],_,_,_=>atU _
|c::q,p,a,d=>by
  rw[azV] at a;have h:=d c (auV ..);have hp:=aAS h;rw[Cn.MY hp,Cn.sum_cons,Cn.sum_cons];have:=Cn.Yp (f:=f) (p:=p.erase c) a.2 λx g=>by
   have:=d x (auE _ g);have b:x≠c:=λe=>a.1 (e▸g);exact (List.mem_erase_of_ne b).2 this
  omega
theorem Cn.Hl (y:Cn):∀l:List Cn,(Cn.kids l).count y=Cn.sum (λc=>c.C6.count y) l
|[]=>rfl
|c::l=>by
  have:=Cn.Hl y l;unfold Cn.kids at this ⊢;rw[avE,axR,this,Cn.sum_cons]
theorem Cn.LK:∀l:List Cn,∃t,l=Cn.kids (Cn.kO l)++t∧t.length<=1
|[]=>⟨[],rfl,dc⟩
|[a]=>⟨[a],rfl,sm⟩
|a::b::l=>by
  obtain⟨t,h,c⟩:=Cn.LK l;refine⟨t,?_,c⟩;show a::b::l=(Cn.C6 (.node a b)++Cn.kids (Cn.kO l))++t
  conv=>lhs;rw[h]
  rfl
theorem Cn.gO:∀{l:List Cn} {x:Cn},x∈Cn.kO l->∃a b,x=.node a b∧a∈l∧b∈l
|a::b::l,x,h=>by
  rcases atL.1 h with rfl|h
  ·exact⟨a,b,rfl,auV ..,auE _ (auV ..)⟩
  ·obtain⟨c,d,e,f,g⟩:=Cn.gO h;exact⟨c,d,e,auE _ (auE _ f),auE _ (auE _ g)⟩
theorem Cn.JH:∀{l:List Cn},l.Nodup->(Cn.kO l).Nodup
|[],_=>List.nodup_nil
|[_],_=>List.nodup_nil
|a::b::l,h=>by
  rw[azV,azV] at h;show (Cn.node a b::Cn.kO l).Nodup;rw[azV];refine⟨λhm=>?_,Cn.JH h.2.2⟩;obtain⟨c,d,e,f,_⟩:=Cn.gO hm
  injection e with g _
  subst g;exact h.1 (auE _ f)
theorem Cn.Fw:∀l:List Cn,(Cn.kO l).length=l.length / 2
|[]=>rfl
|[_]=>by simp[Cn.kO]
|a::b::l=>by
  show (Cn.kO l).length+1=(l.length+1+1) / 2;rw[Cn.Fw l];omega
theorem Cn.KO {l:List Cn}:l.Nodup↔∀a,l.count a<=1:=List.nodup_iff_count
theorem Cn.U8 {l q:List Cn}(a:l.Nodup)(b:q.Nodup)(d:∀x∈q,x∈Cn.kO l):(Cn.kids q).Nodup:=by
 rw[Cn.KO];intro y;rw[Cn.Hl];have e:=Cn.Yp (f:=λc=>c.C6.count y) b d;rw[<-Cn.Hl y (Cn.kO l)] at e;obtain⟨t,g,_⟩:=Cn.LK l;have h:=Cn.KO.1 a y;rw[g,axR] at h;omega
def Cn.low (d r:List Cn):Prop:=∀x∈d,∀y∈r,y ∉ d->x.wt<=y.wt
theorem Cn.Nw {p:Cn->Prop}:∀{l:List Cn},Cn.sorted l->(∀x∈Cn.kO l,p x->∀y∈Cn.kO l,¬p y->x.wt<=y.wt) ->
  ∀u v,(∃x∈Cn.kO l,p x∧u∈x.C6)->v∈l->(∀x∈Cn.kO l,p x->v ∉ x.C6)->u.wt<=v.wt
|[],_,_,u,v,_,t,_=>by cases t
|[a],_,_,u,v,⟨x,j,_⟩,_,_=>by cases j
|a::b::l,n,hp,u,v,⟨x,j,k,hu⟩,t,B=>by
  unfold Cn.sorted at n;rw[avT,avT] at n;have g:x=.node a b∨x∈Cn.kO l:=atL.1 j;have m:Cn.node a b∈Cn.kO (a::b::l):=auV ..
  have f:∀{z},z∈Cn.kO l->z∈Cn.kO (a::b::l):=λh=>auE _ h;have H:=n.1 b (auV ..);by_cases i:p (.node a b)
  ·have w:=B _ m i;have o:v≠a:=λe=>w (e▸auV ..);have q:v≠b:=λe=>w (e▸auE _ (auV ..));have r:v∈l:=by
    rcases atL.1 t with h|h
    ·exact absurd h o
    ·rcases atL.1 h with h|h
     ·exact absurd h q
     ·exact h
   rcases g with rfl|g
   ·have s:=n.2.1 v r;rcases atL.1 hu with rfl|hu
    ·omega
    ·rw[auB.1 hu];exact s
   ·exact Cn.Nw n.2.2 (λx j C y D E=>hp x (f j) C y (f D) E) u v ⟨x,g,k,hu⟩ r λx j=>B x (f j)
  ·have g:x∈Cn.kO l:=g.resolve_left λe=>i (e▸k);rcases atL.1 t with o|t
   ·-- v=a: I package (a,b) is out,M x A no more G it;all J equal
    have s:=hp x j k _ m i;obtain⟨c,d,rfl,F,hd⟩:=Cn.gO g;have s:c.wt+d.wt<=a.wt+b.wt:=s;have K:=n.2.1 c F;have L:=n.2.1 d hd;rcases atL.1 hu with rfl|hu
    ·subst o;omega
    ·rw[auB.1 hu];subst o;omega
   ·rcases atL.1 t with q|r
    ·have s:=hp x j k _ m i;obtain⟨c,d,rfl,F,hd⟩:=Cn.gO g;have s:c.wt+d.wt<=a.wt+b.wt:=s;have K:=n.2.1 c F;have L:=n.2.1 d hd;rcases atL.1 hu with rfl|hu
     ·subst q;omega
     ·rw[auB.1 hu];subst q;omega
    ·exact Cn.Nw n.2.2 (λx j C y D E=>hp x (f j) C y (f D) E) u v ⟨x,g,k,hu⟩ r λx j=>B x (f j)
inductive Cn.Row (L:List Cn):Nat->List Cn->Prop
|zero {r:List Cn}:Cn.sorted r->r.Perm L->Cn.Row L 0 r
|succ {t:Nat} {q r:List Cn}:Cn.Row L t q->Cn.sorted r->r.Perm (L++Cn.kO q)->Cn.Row L (t+1) r
structure Cn.Lv (L:List Cn) (Sy:List Nat):Prop where
 leaf:∀x∈L,∃w s,x=.leaf w s∧0 < w∧s∈Sy
 has:∀s∈Sy,∃w,Cn.leaf w s∈L
 uniq:∀w v s,Cn.leaf w s∈L->Cn.leaf v s∈L->w=v
 nodup:L.Nodup
 nodupS:Sy.Nodup
 len:L.length=Sy.length
theorem Cn.Row.nodup {L:List Cn}{Sy:List Nat}(hL:Cn.Lv L Sy){t:Nat}{r:List Cn}(h:Cn.Row L t r):r.Nodup∧∀x∈r,(x∈L)∨x.mC=false:=by
 induction h with
|zero _ hp=>exact⟨hp.nodup_iff.2 hL.nodup,λx c=>.inl (hp.mem_iff.1 c)⟩
|succ g _ hp d=>
  refine⟨hp.nodup_iff.2 ?_,λx c=>?_⟩
  ·rw[List.nodup_append];refine⟨hL.nodup,Cn.JH d.1,λx c y f e=>?_⟩;subst e;obtain⟨a,b,rfl,_,_⟩:=Cn.gO f;obtain⟨w,s,h,_⟩:=hL.leaf _ c;cases h
  ·rcases auF.1 (hp.mem_iff.1 c) with h|h
   ·exact .inl h
   ·obtain⟨a,b,rfl,_,_⟩:=Cn.gO h;exact .inr rfl
theorem Cn.Row.has {L:List Cn}{r:List Cn}(h:Cn.Row L t r):∀x∈L,x∈r:=by
 intro x a;cases h with
|zero _ hp=>exact hp.mem_iff.2 a
|succ _ _ hp=>exact hp.mem_iff.2 (List.mem_append_left _ a)
theorem Cn.Row.pos {L:List Cn}(hL:Cn.Lv L Sy){r:List Cn}(h:Cn.Row L t r):∀x∈r,0 < x.wt:=by
 induction h with
|zero _ hp=>
  intro x c;obtain⟨w,s,rfl,h,_⟩:=hL.leaf x (hp.mem_iff.1 c);exact h
|succ f _ hp d=>
  intro x c;rcases auF.1 (hp.mem_iff.1 c) with h|h
  ·obtain⟨w,s,rfl,h,_⟩:=hL.leaf x h;exact h
  ·obtain⟨a,b,rfl,e,_⟩:=Cn.gO h;have:=d a e;show 0 < a.wt+b.wt;omega
theorem Cn.Ni {f:Cn->Nat}:∀{l:List Cn},(∀x∈l,f x=0)->Cn.sum f l=0
|[],_=>rfl
|c::l,h=>by rw[Cn.sum_cons,h c (auV ..),Cn.Ni λx a=>h x (auE _ a)]
theorem Cn.Wj {f:Cn->Nat}:∀{l:List Cn},0 < Cn.sum f l->∃x∈l,0 < f x
|c::l,h=>by
  rw[Cn.sum_cons] at h;by_cases a:0 < f c
  ·exact⟨c,auV ..,a⟩
  ·obtain⟨x,b,d⟩:=Cn.Wj (f:=f) (l:=l) om;exact⟨x,auE _ b,d⟩
theorem Cn.QU {f:Cn->Nat}:∀{l:List Cn} {x:Cn},x∈l->f x<=Cn.sum f l
|c::l,x,h=>by
  rw[Cn.sum_cons];rcases atL.1 h with rfl|h
  ·omega
  ·have:=Cn.QU (f:=f) h;omega
theorem Cn.QJ (s:Nat):∀d:List Cn,Cn.sum (Cn.cnt s) d=Cn.sum (Cn.top s) d+Cn.sum (Cn.cnt s) (Cn.kids d)
|[]=>rfl
|c::d=>by
  have f:=Cn.QJ s d;have e:Cn.kids (c::d)=c.C6++Cn.kids d:=by unfold Cn.kids;rw[avE]
  rw[e,Cn.JK,Cn.sum_cons,Cn.sum_cons,f];cases c with
 |leaf w t=>show (if t=s then 1 else 0)+_=_;simp only[Cn.top,Cn.C6,Cn.sum,axG,List.sum_nil];omega
 |node a b=>show (a.cnt s+b.cnt s)+_=_;simp only[Cn.top,Cn.C6,Cn.sum,avC,axG,axA,List.sum_nil];omega
def Cn.val (s:Nat):Nat->List Cn->Nat
|0,d=>Cn.sum (Cn.top s) d
|t+1,d=>Cn.sum (Cn.top s) d*2 ^ (t+1)+Cn.val s t (Cn.kids d)
theorem Cn.adN {L:List Cn}(hL:Cn.Lv L Sy){d:List Cn}(hd:d.Nodup)(hm:∀x∈d,x∈L∨x.mC=au)(s:Nat):Cn.sum (Cn.top s) d<=1:=by
 induction d with
|nil=>exact atU _
|cons c d i=>
  rw[azV] at hd;have i:=i hd.2 λx f=>hm x (auE _ f);rw[Cn.sum_cons];by_cases g:Cn.top s c=0
  ·omega
  ·have e:Cn.sum (Cn.top s) d=0:=by
    refine Cn.Ni λx f=>?_;cases x with
   |node a b=>rfl
   |leaf v t=>
     cases c with
    |node a b=>exact absurd rfl g
    |leaf w u=>
      simp only[Cn.top] at g ⊢;by_cases h:u=s
      ·by_cases j:t=s
       ·subst h;subst j;have k:=(hm _ (auV ..)).resolve_right (by simp[Cn.mC]);have l:=(hm _ (auE _ f)).resolve_right (by simp[Cn.mC]);have:=hL.uniq _ _ _ k l;subst this;exact absurd f hd.1
       ·rw[asT j]
      ·rw[asT h] at g;exact absurd rfl g
   have h:Cn.top s c<=1:=by
    cases c with
   |leaf w t=>simp only[Cn.top];split<;>omega
   |node a b=>exact atU _
   omega
theorem Cn.O5 {d:List Cn}(h:∀x∈d,x.mC=av):Cn.kids d=[]:=by
 induction d with
|nil=>rfl
|cons c d f=>
  have e:Cn.kids (c::d)=c.C6++Cn.kids d:=by unfold Cn.kids;rw[avE]
  have g:=h c (auV ..);rw[e,f λx i=>h x (auE _ i)];cases c with
 |leaf w t=>rfl
 |node a b=>cases g
theorem Cn.Jg {d:List Cn}{u:Cn}:u∈Cn.kids d↔∃x∈d,u∈x.C6:=by unfold Cn.kids;exact ayK
theorem Cn.Row.down {L:List Cn}(hL:Cn.Lv L Sy){q r d:List Cn}(B:Cn.Row L t q)(C:Cn.sorted q)(hp:r.Perm (L++Cn.kO q))(hd:d.Nodup)(hm:∀x∈d,x∈r)(A:Cn.low d r) :
  (Cn.kids d).Nodup∧(∀x∈Cn.kids d,x∈q)∧Cn.low (Cn.kids d) q:=by
 have f:∀x∈d,x.mC=au->x∈Cn.kO q:=by
  intro x i h;rcases auF.1 (hp.mem_iff.1 (hm x i)) with k|k
  ·obtain⟨w,s,rfl,_⟩:=hL.leaf x k;cases h
  ·exact k
 have j:∀x u,u∈Cn.C6 x->x.mC=false:=by
  intro x u hu;cases x with
 |leaf w s=>cases hu
 |node a b=>rfl
 have D:Cn.kids d=Cn.kids (d.filter λx=>!x.mC):=by
  clear hd hm A f
  induction d with
 |nil=>rfl
 |cons c d E=>
   have e:Cn.kids (c::d)=c.C6++Cn.kids d:=by unfold Cn.kids;rw[avE]
   rw[e,E,azA];cases c with
  |leaf w s=>rfl
  |node a b=>unfold Cn.kids;rfl
 refine⟨?_,?_,?_⟩
 ·rw[D];refine Cn.U8 (l:=q) (B.nodup hL).1 (hd.filter _) λx i=>?_;obtain⟨k,F⟩:=List.mem_filter.1 i;exact f x k (by simpa using F)
 ·intro u hu;obtain⟨x,i,g⟩:=Cn.Jg.1 hu;obtain⟨a,b,rfl,G,H⟩:=Cn.gO (f x i (j x u g));rcases atL.1 g with rfl|h
  ·exact G
  ·rw[auB.1 h];exact H
 ·intro u hu v I m;obtain⟨x,i,g⟩:=Cn.Jg.1 hu;refine Cn.Nw (p:=λz=>z∈d) C (λx i J y K M=>A x J y (hp.mem_iff.2 (List.mem_append_right _ K)) M) u v ⟨x,f x i (j x u g),i,g⟩ I λz N n o=>m (Cn.Jg.2 ⟨z,n,o⟩)
theorem Cn.Row.sorted {L:List Cn}{t:Nat}{r:List Cn}(h:Cn.Row L t r):Cn.sorted r:=by
 cases h with
|zero h _=>exact h
|succ _ h _=>exact h
theorem Cn.Row.levels {L:List Cn}(hL:Cn.Lv L Sy){r:List Cn}(h:Cn.Row L t r):∀(d:List Cn),d.Nodup->(∀x∈d,x∈r)->Cn.low d r->∀s,
  Cn.sum (Cn.cnt s) d<=t+1∧Cn.val s t d+2 ^ (t+1 - Cn.sum (Cn.cnt s) d)=2 ^ (t+1)∧(Cn.sum (Cn.top s) d=0->Cn.sum (Cn.cnt s) d=0):=by
 induction h with
|zero C hp=>
  intro d hd hm o s;have j:∀x∈d,x.mC=true:=λx i=>by
   obtain⟨w,s,rfl,_⟩:=hL.leaf x (hp.mem_iff.1 (hm x i));rfl
  have G:=Cn.adN hL hd (λx i=>.inl (hp.mem_iff.1 (hm x i))) s;have e:=Cn.QJ s d;rw[Cn.O5 j] at e;have e:Cn.sum (Cn.cnt s) d=Cn.sum (Cn.top s) d:=e;rw[e];refine⟨om,?_,λh=>h⟩;show Cn.sum (Cn.top s) d+_=_;rcases (by omega:Cn.sum (Cn.top s) d=0∨Cn.sum (Cn.top s) d=1) with h|h<;>rw[h]<;>decide
|@succ t q r l C hp H=>
  intro d hd hm o s;have g:Cn.Row L (t+1) r:=.succ l C hp;obtain⟨I,D,J⟩:=Cn.Row.down hL l l.sorted hp hd hm o;obtain⟨i1,i2,i3⟩:=H (Cn.kids d) I D J s;have G:=Cn.adN hL hd (λx i=>(g.nodup hL).2 x (hm x i)) s;have e:=Cn.QJ s d;have K:Cn.sum (Cn.top s) d=0->Cn.sum (Cn.cnt s) (Cn.kids d)=0:=by
   intro S;refine i3 ?_;rcases awB (Cn.sum (Cn.top s) (Cn.kids d)) with h|h
   ·exact h
   ·exfalso;obtain⟨x,i,k⟩:=Cn.Wj h;cases x with
   |node a b=>exact absurd k (ayG _)
   |leaf w u=>
     simp only[Cn.top] at k;have p:u=s:=by
      by_cases h:u=s
      ·exact h
      ·rw[asT h] at k;omega
     subst p;have v:Cn.leaf w u∈L:=((l.nodup hL).2 _ (D _ i)).resolve_right (by simp[Cn.mC]);have z:=g.has _ v;by_cases m:Cn.leaf w u∈d
     ·have:=Cn.QU (f:=Cn.top u) m;simp only[Cn.top,if_true] at this;omega
     ·obtain⟨y,E,n⟩:=Cn.Jg.1 i;have c:=o y E _ z m;cases y with
     |leaf _ _=>cases n
     |node a b=>
       have F:=g.pos hL;have A:Cn.node a b∈Cn.kO q:=by
        rcases auF.1 (hp.mem_iff.1 (hm _ E)) with c|c
        ·obtain⟨w,s,h,_⟩:=hL.leaf _ c;cases h
        ·exact c
       obtain⟨a',T,e',M,N⟩:=Cn.gO A
       injection e' with O P
       subst O;subst P;have Q:=l.pos hL _ M;have R:=l.pos hL _ N;have c:a.wt+b.wt<=w:=c;rcases atL.1 n with B|B
       ·rw[<-B] at c Q;have c:w+b.wt<=w:=c;omega
       ·rw[<-auB.1 B] at c R;have c:a.wt+w<=w:=c;omega
  rw[e];show _∧Cn.sum (Cn.top s) d*2 ^ (t+1)+Cn.val s t (Cn.kids d)+_=_∧_;have U:2 ^ (t+1+1)=2*2 ^ (t+1):=by rw[awD];omega
  rcases (by omega:Cn.sum (Cn.top s) d=0∨Cn.sum (Cn.top s) d=1) with h|h
  ·have c:=K h;rw[c] at i2 ⊢;rw[h];refine⟨om,?_,λ_=>rfl⟩;rw[azE] at i2;rw[awR,auU,azE];omega
  ·rw[h];refine⟨om,?_,λh=>absurd h dc⟩;rw[show t+1+1 - (1+Cn.sum (Cn.cnt s) (Cn.kids d))=t+1 - Cn.sum (Cn.cnt s) (Cn.kids d) by omega,ayU];omega
def Cn.over (Sy:List Nat)(f:Nat->Nat):Nat:=(Sy.map f).sum
theorem Cn.iQ (s:Nat)(Sy:List Nat)(f:Nat->Nat):Cn.over (s::Sy) f=f s+Cn.over Sy f:=rfl
theorem Cn.I8 (f g:Nat->Nat):∀Sy:List Nat,Cn.over Sy (λs=>f s+g s)=Cn.over Sy f+Cn.over Sy g
|[]=>rfl
|s::Sy=>by rw[Cn.iQ,Cn.iQ,Cn.iQ,Cn.I8 f g Sy];omega
theorem Cn.Nq (f:Nat->Nat)(k:Nat):∀Sy:List Nat,Cn.over Sy (λs=>f s*k)=Cn.over Sy f*k
|[]=>by simp[Cn.over]
|s::Sy=>by rw[Cn.iQ,Cn.iQ,Cn.Nq f k Sy,awA]
theorem Cn.CM {f g:Nat->Nat}:∀{Sy:List Nat},(∀s∈Sy,f s=g s)->Cn.over Sy f=Cn.over Sy g
|[],_=>rfl
|s::Sy,h=>by rw[Cn.iQ,Cn.iQ,h s (auV ..),Cn.CM λx a=>h x (auE _ a)]
theorem Cn.JZ {f:Nat->Nat}(h:∀s∈Sy,f s=0):Cn.over Sy f=0:=by
 rw[Cn.CM h]
 induction Sy with
|nil=>rfl
|cons s Sy a=>rw[Cn.iQ,a λx b=>h x (auE _ b)]
theorem Cn.L3 (k:Nat):∀Sy:List Nat,Cn.over Sy (λ_=>k)=Sy.length*k
|[]=>by simp[Cn.over]
|s::Sy=>by rw[Cn.iQ,Cn.L3 k Sy,atW,awM];omega
theorem Cn.Wd (a:Sy.Nodup){w:Nat}(b:t∈Sy):Cn.over Sy (λs=>Cn.top s (.leaf w t))=1:=by
 induction Sy with
|nil=>cases b
|cons s Sy c=>
  rw[azV] at a;rw[Cn.iQ];by_cases h:t=s
  ·subst h;rw[Cn.JZ λu hu=>?_]
   ·simp[Cn.top]
   ·simp only[Cn.top];rw[asT (λe=>a.1 (by rw[e];exact hu))]
  ·rw[c a.2 ((atL.1 b).resolve_left h)];simp[Cn.top,h]
def Cn.leaves (d:List Cn):Nat:=(d.filter Cn.mC).length
theorem Cn.Ot {L:List Cn}{Sy:List Nat}(hL:Cn.Lv L Sy):∀{d:List Cn},(∀x∈d,x∈L∨x.mC=au)->Cn.over Sy (λs=>Cn.sum (Cn.top s) d)=Cn.leaves d
|[],_=>Cn.JZ λ_ _=>rfl
|c::d,hm=>by
  have g:=Cn.Ot hL (d:=d) λx i=>hm x (auE _ i);have e:(λs=>Cn.sum (Cn.top s) (c::d))=λs=>Cn.top s c+Cn.sum (Cn.top s) d:=rfl;rw[e,Cn.I8,g];unfold Cn.leaves;rw[azA];cases c with
 |leaf w t=>
   obtain⟨w',l,h,_,j⟩:=hL.leaf _ ((hm _ (auV ..)).resolve_right (by simp[Cn.mC]))
   injection h with _ k
   subst k;rw[Cn.Wd hL.nodupS j];simp only[Cn.mC,if_true,atW];omega
 |node a b=>
   rw[Cn.JZ (f:=λs=>Cn.top s (.node a b)) λ_ _=>rfl];simp[Cn.mC]
theorem Cn.uP:∀d:List Cn,(Cn.kids d).length+2*Cn.leaves d=2*d.length
|[]=>rfl
|c::d=>by
  have f:=Cn.uP d;have e:Cn.kids (c::d)=c.C6++Cn.kids d:=by unfold Cn.kids;rw[avE]
  unfold Cn.leaves at f ⊢;rw[e,asY,azA,atW];cases c with
 |leaf w t=>simp only[Cn.mC,if_true,atW,Cn.C6,awI];omega
 |node a b=>simp only[Cn.mC,axI,if_false,Cn.C6,atW,awI];omega
theorem Cn.Row.worth {L:List Cn}(hL:Cn.Lv L Sy){r:List Cn}(h:Cn.Row L t r):∀(d:List Cn),d.Nodup->(∀x∈d,x∈r)->Cn.low d r->Cn.over Sy (λs=>Cn.val s t d)=d.length*2 ^ t:=by
 induction h with
|zero f hp=>
  intro d hd hm g;have a:∀x∈d,x.mC=true:=λx b=>by
   obtain⟨w,s,rfl,_⟩:=hL.leaf x (hp.mem_iff.1 (hm x b));rfl
  show Cn.over Sy (λs=>Cn.sum (Cn.top s) d)=_;rw[Cn.Ot hL λx b=>.inl (hp.mem_iff.1 (hm x b))];have:=Cn.uP d;rw[Cn.O5 a] at this;simp only[awI] at this;omega
|@succ t q r e f hp i=>
  intro d hd hm g;have c:Cn.Row L (t+1) r:=.succ e f hp;obtain⟨j,k,l⟩:=Cn.Row.down hL e e.sorted hp hd hm g;have m:=i (Cn.kids d) j k l;show Cn.over Sy (λs=>Cn.sum (Cn.top s) d*2 ^ (t+1)+Cn.val s t (Cn.kids d))=_;rw[Cn.I8,Cn.Nq,m,Cn.Ot hL λx b=>(c.nodup hL).2 x (hm x b)];have n:=Cn.uP d;have o:Cn.leaves d*2 ^ (t+1)=2*Cn.leaves d*2 ^ t:=by rw[awD,awN (2 ^ t) 2,<-ayV,awN (Cn.leaves d) 2]
  have p:d.length*2 ^ (t+1)=2*d.length*2 ^ t:=by rw[awD,awN (2 ^ t) 2,<-ayV,awN d.length 2]
  rw[o,p,<-awA,<-n]
  congr 1
  omega
theorem Cn.Row.len {L:List Cn}{r:List Cn}(h:Cn.Row L t r):∀k,L.length<=k*2 ^ t->2*L.length<=r.length+k:=by
 induction h with
|zero _ hp=>
  intro k a;rw[hp.length_eq];omega
|@succ t q r c _ hp b=>
  intro k a;have d:=b (2*k) (by rw[awD] at a;rw[awN 2 k,ayV,awN 2];exact a);rw[hp.length_eq,asY,Cn.Fw];omega
theorem Cn.Row.lt {L:List Cn}{r:List Cn}(h:Cn.Row L t r)(a:0 < L.length):r.length < 2*L.length:=by
 induction h with
|zero _ hp=>rw[hp.length_eq];omega
|@succ t q r b _ hp c=>
  rw[hp.length_eq,asY,Cn.Fw];omega
theorem Cn.R4 {r:List Cn}(h:Cn.sorted r)(n:Nat):Cn.low (r.take n) r:=by
 intro x d y e f;have c:y∈r.drop n:=by
  have:y∈r.take n++r.drop n:=by rw[auR];exact e
  exact (auF.1 this).resolve_left f
 have g:(r.take n++r.drop n).Pairwise λa b=>a.wt<=b.wt:=by rw[auR];exact h
 exact (axO.1 g).2.2 x d y c
theorem Cn.Row.code {L:List Cn}(hL:Cn.Lv L Sy){m:Nat}{r:List Cn}(h:Cn.Row L m r)(k:2<=L.length)(n:L.length<=2 ^ (m+1)) :
  2*L.length - 2<=r.length∧(∀s∈Sy,1<=Cn.sum (Cn.cnt s) (r.take (2*L.length - 2))∧Cn.sum (Cn.cnt s) (r.take (2*L.length - 2))<=m+1) ∧
   Cn.over Sy (λs=>2 ^ (m+1 - Cn.sum (Cn.cnt s) (r.take (2*L.length - 2))))=2 ^ (m+1):=by
 have hle:=h.len 2 (by rw[awD] at n;omega);have hd:(r.take (2*L.length - 2)).Nodup:=(aAs _ _).nodup (h.nodup hL).1;have hm:∀x∈r.take (2*L.length - 2),x∈r:=λx o=>avQ o;have b:=Cn.R4 h.sorted (2*L.length - 2);have c:=h.levels hL _ hd hm b;have hw:=h.worth hL _ hd hm b;rw[atF,auM om] at hw;generalize y:r.take (2*L.length - 2)=d at hd hm b c hw ⊢;have e:Cn.over Sy (λs=>Cn.val s m d+2 ^ (m+1 - Cn.sum (Cn.cnt s) d))=Sy.length*2 ^ (m+1):=by
  rw[Cn.CM λs _=>(c s).2.1,Cn.L3]
 rw[Cn.I8,hw,<-hL.len] at e;have z:(2*L.length - 2)*2 ^ m=(L.length - 1)*2 ^ (m+1):=by
  rw[awD,awN (2 ^ m) 2,<-ayV]
  congr 1
  omega
 have A:L.length*2 ^ (m+1)=(L.length - 1)*2 ^ (m+1)+2 ^ (m+1):=by
  conv=>lhs;rw[show L.length=L.length - 1+1 by omega,awM]
 have p:Cn.over Sy (λs=>2 ^ (m+1 - Cn.sum (Cn.cnt s) d))=2 ^ (m+1):=om
 refine⟨om,λs q=>⟨?_,(c s).1⟩,p⟩
 -- a symbol aM a i f fill v sum alone
 rcases awB (Cn.sum (Cn.cnt s) d) with g|g
 ·exfalso;have hlen:2<=Sy.length:=by rw[<-hL.len];exact k
  have key:∀(l:List Nat),s∈l->2<=l.length->2 ^ (m+1) < Cn.over l (λs=>2 ^ (m+1 - Cn.sum (Cn.cnt s) d)):=by
   intro l j w;have hp:=(aAS j).map λs=>2 ^ (m+1 - Cn.sum (Cn.cnt s) d);have hp:=hp.sum_nat;have hlen:=(aAS j).length_eq;unfold Cn.over;rw[hp,avC,axA,g,azE];cases he:l.erase s with
  |nil=>rw[he] at hlen;simp at hlen;omega
  |cons u t=>
    rw[avC,axA];have:=aAi (m+1 - Cn.sum (Cn.cnt u) d);omega
  have:=key Sy q hlen;omega
 ·exact g
theorem Cn.Row.none {L:List Cn}(hL:Cn.Lv L Sy){s:Nat}(d:s ∉ Sy){r:List Cn}(h:Cn.Row L t r):∀x∈r,Cn.cnt s x=0:=by
 induction h with
|zero _ hp=>
  intro x c;obtain⟨w,u,rfl,_,hu⟩:=hL.leaf x (hp.mem_iff.1 c);simp only[Cn.cnt];rw[asT (λe=>d (by rw[<-e];exact hu))]
|succ j _ hp f=>
  intro x c;rcases auF.1 (hp.mem_iff.1 c) with h|h
  ·obtain⟨w,u,rfl,_,hu⟩:=hL.leaf x h;simp only[Cn.cnt];rw[asT (λe=>d (by rw[<-e];exact hu))]
  ·obtain⟨a,b,rfl,g,i⟩:=Cn.gO h;show Cn.cnt s a+Cn.cnt s b=0;rw[f a g,f b i]
structure Df.OQ (counts lens:List Nat) (most:Nat):Prop where
 len:lens.length=counts.length
 le:∀x∈lens,x<=most
 chk:bj lens=0
 pos:∀i,0 < counts.getD i 0->0 < lens.getD i 0
def dn (counts:List Nat):List Nat:=(List.range counts.length).filter λi=>ai (0 < counts.getD i 0)
theorem lj {s:Nat}:s∈dn counts↔0 < counts.getD s 0:=by
 unfold dn;rw[List.mem_filter,avG,auP];refine⟨λh=>h.2,λh=>⟨?_,h⟩⟩;rcases auC s counts.length with a|a
 ·exact a
 ·rw[atD,avJ a] at h;exact absurd h (ayG _)
theorem vz (counts:List Nat):(dn counts).Nodup:=List.nodup_range.filter _
def lq (counts:List Nat):List Cn:=(dn counts).map λs=>.leaf (counts.getD s 0) s
theorem wa (counts:List Nat):Cn.Lv (lq counts) (dn counts) where
 leaf:=λx g=>by
  obtain⟨s,c,rfl⟩:=auH.1 g;exact⟨_,_,rfl,lj.1 c,c⟩
 has:=λs c=>⟨_,auH.2 ⟨s,c,rfl⟩⟩
 uniq:=λw v s i j=>by
  obtain⟨a,_,d⟩:=auH.1 i;obtain⟨b,_,f⟩:=auH.1 j
  injection d with d k
  injection f with f l
  rw[<-d,<-f,k,l]
 nodup:=by
  unfold lq;rw[List.nodup_iff_pairwise_ne,List.pairwise_map];refine (List.nodup_iff_pairwise_ne.1 (vz counts)).imp λh e=>?_
  injection e with _ e
  exact h e
 nodupS:=vz counts
 len:=by unfold lq;rw[atV]
theorem we (f:Nat->Nat):∀(l:List Nat),((l.map f).map λx=>if x=0 then 0 else 2 ^ (15 - x)).sum=Cn.over (l.filter λs=>ai (0 < f s)) (λs=>2 ^ (15 - f s))
|[]=>rfl
|s::l=>by
  have a:=we f l;rw[avC,avC,axA,a,azA];by_cases h:0 < f s
  ·rw[asT om,asU (by simpa using h),Cn.iQ]
  ·rw[asU om,asT (by simpa using h),atK]
theorem P0 {lens:List Nat}{m:Nat}{r:List Cn}(hm:m < 15)(h:Cn.Row (lq counts) m r)(n:2<=(dn counts).length)(o:(dn counts).length<=2 ^ (m+1))(v:counts.length<=288)(p:lens.length=counts.length)
  (f:∀s,s < counts.length->lens.getD s 0=Cn.sum (Cn.cnt s) (r.take (2*(dn counts).length - 2))):Df.OQ counts lens (m+1):=by
 have hL:=wa counts;rw[<-hL.len] at n o f;obtain⟨w,k,q⟩:=h.code hL n o;have j:∀{s},0 < counts.getD s 0->s < counts.length:=λ{s} h=>by
  rcases auC s counts.length with l|l
  ·exact l
  ·rw[atD,avJ l] at h;exact absurd h (ayG _)
 have c:∀i,0 < counts.getD i 0->0 < lens.getD i 0:=λi hi=>by
  rw[f i (j hi)];exact (k i (lj.2 hi)).1
 have hzero:∀i,i < counts.length->¬0 < counts.getD i 0->lens.getD i 0=0:=λi hi b=>by
  rw[f i hi];exact Cn.Ni λx d=>h.none hL (λhm=>b (lj.1 hm)) x (avQ d)
 have a:lens=(List.range counts.length).map λi=>lens.getD i 0:=by rw[<-p];exact (ti lens).symm
 have hle:∀x∈lens,x<=m+1:=by
  intro x d;rw[a] at d;obtain⟨i,hi,rfl⟩:=auH.1 d;have hi:=avG.1 hi;by_cases b:0 < counts.getD i 0
  ·rw[f i hi];exact (k i (lj.2 b)).2
  ·rw[hzero i hi b];exact atU _
 have t:ml lens=2 ^ 15:=by
  unfold ml;rw[a,we];have u:((List.range counts.length).filter λs=>ai (0 < lens.getD s 0))=dn counts:=by
   unfold dn;refine List.filter_congr λs e=>?_;have e:=avG.1 e;by_cases b:0 < counts.getD s 0
   ·rw[atA b,atA (c s b)]
   ·rw[asZ b,asZ (by rw[hzero s e b];omega)]
  rw[u,Cn.CM (g:=λs=>2 ^ (m+1 - Cn.sum (Cn.cnt s) (r.take (2*(lq counts).length - 2)))*2 ^ (15 - (m+1))) λs e=>?_,Cn.Nq,q,<-Nat.pow_add,show m+1+(15 - (m+1))=15 by omega];have:=(k s e).2;rw[f s (j (lj.1 e)),<-Nat.pow_add]
  congr 1
  omega
 refine⟨p,hle,?_,c⟩;unfold bj;rw[asT om];unfold Fl.check;rw[<-tw λx d=>by have:=hle x d;omega,t,asU (.inl rfl)]
theorem wg {lens:List Nat}(h:∀x∈lens,x=0):∀m,Fl.bH lens m=0
|0=>rfl
|m+1=>by
  rw[Fl.bH,wg h m,List.count_eq_zero_of_not_mem λhm=>by have:=h _ hm;omega]
theorem Q0 (b:counts.length<=288)(h:dn counts=[])(most:Nat):Df.OQ counts (List.replicate counts.length 0) most where
 len:=auK
 le:=λx a=>by rw[awF a];exact atU _
 chk:=by
  unfold bj;rw[auK,asT om];unfold Fl.check;rw[asU (.inr (.inl (wg (λx a=>awF a) 15)))]
 pos:=λi hi=>by
  have:=lj.2 hi;rw[h] at this;cases this
theorem zd (o:counts.length<=288){s:Nat}(h:dn counts=[s])(hm:1<=most):Df.OQ counts ((List.replicate counts.length 0).set s 1) most:=by
 have d:0 < counts.getD s 0:=lj.1 (by rw[h];exact aAw s);have b:s < counts.length:=by
  rcases auC s counts.length with c|c
  ·exact c
  ·rw[atD,avJ c] at d;exact absurd d (ayG _)
 have e:(List.replicate counts.length 0).set s 1=List.replicate s 0++1::List.replicate (counts.length - s - 1) 0:=by
  conv=>lhs;rw[show counts.length=s+((counts.length - s - 1)+1) by omega,<-List.replicate_append_replicate,axJ _ _ sm,auK,avV,azR,avN]
 have a:∀l,0 < l->((List.replicate counts.length 0).set s 1).count l=if l=1 then 1 else 0:=by
  intro l p;rw[e,axR,List.count_cons,aAT,aAT];by_cases f:l=1
  ·subst f;simp
  ·have g:(1==l)=false:=by simp;omega
   have j:(0==l)=false:=by simp;omega
   rw[g,j];simp[f]
 have hu:∀m,Fl.bH ((List.replicate counts.length 0).set s 1) (m+1)=1:=by
  intro m
  induction m with
 |zero=>rw[Fl.bH,Fl.bH,a _ om];rfl
 |succ m k=>rw[Fl.bH,k,a _ om,asT om]
 refine⟨sm,λx n=>?_,?_,λi hi=>?_⟩
 ·rcases azT n with h|h
  ·rw[awF h];omega
  ·omega
 ·unfold bj;rw[avS,auK,asT om];unfold Fl.check;rw[asU (.inr (.inr ⟨hu 14,by rw[a 1 dc];rfl⟩))]
 ·have:=lj.2 hi;rw[h] at this;rw[auB.1 this,atD,awU (by simpa using b)]
  decide
theorem ox (a:List Nat)(k:Nat){l:Nat}(c:0 < l):(a++List.replicate k 0).count l=a.count l:=by
 rw[axR,aAT];have b:(0==l)=false:=by simp;omega
 rw[b];simp
theorem wh (a:List Nat)(k:Nat):∀m,Fl.iE (a++List.replicate k 0) m=Fl.iE a m
|0=>rfl
|m+1=>by rw[Fl.iE,Fl.iE,wh a k m,ox a k om]
theorem wi (a:List Nat)(k:Nat):∀m,Fl.bH (a++List.replicate k 0) m=Fl.bH a m
|0=>rfl
|m+1=>by rw[Fl.bH,Fl.bH,wi a k m,ox a k om]
theorem wj (a:List Nat)(k:Nat):∀m,Fl.first (a++List.replicate k 0) m=Fl.first a m
|0=>rfl
|1=>rfl
|m+2=>by rw[Fl.first,Fl.first,wj a k (m+1),ox a k om]
theorem wk {a:List Nat}{k:Nat}(h:bj (a++List.replicate k 0)=0):bj a=0:=by
 unfold bj at h ⊢;split at h
 ·cases h
 ·rename_i b
  rw[asY] at b;rw[asT om];unfold Fl.check at h ⊢;rw[wh,wi,ox a k dc] at h;exact h
theorem oy (a:List Nat)(k i:Nat):(a++List.replicate k 0).getD i 0=a.getD i 0:=by
 rw[atD,atD];rcases auC i a.length with h|h
 ·rw[avK h]
 ·rw[avU h,avJ (l:=a) h,azS];split<;>rfl
theorem wm (a:List Nat)(k i:Nat):dt (a++List.replicate k 0) i=dt a i:=by
 unfold dt;rw[oy];by_cases b:a.getD i 0=0
 ·rw[b];rfl
 ·congr 1
  unfold da;rw[oy,asT b,asT b,wj];have hi:i < a.length:=by
   rcases auC i a.length with h|h
   ·exact h
   ·rw[atD,avJ h] at b;exact absurd rfl b
  rw[aAo om]
theorem R0 (a b:List Nat)(k j:Nat)(x:bo):fg (a++List.replicate k 0) (b++List.replicate j 0) x=fg a b x:=by
 unfold fg;simp only[wm]
theorem zf (a b:List Nat)(k j:Nat)(l:List bo):dm (a++List.replicate k 0) (b++List.replicate j 0) l=dm a b l:=by
 unfold dm;rw[wm]
 congr 1
 induction l with
|nil=>rfl
|cons x l c=>rw[avE,avE,c,R0]
theorem wo {n:Nat}(c:n<=l.length)(h:∀j,n<=j->l.getD j 0=0):l=l.take n++List.replicate (l.length - n) 0:=by
 refine List.ext_getElem (by simp;omega) λi b d=>?_;rcases auC i n with a|a
 ·rw[List.getElem_append_left (by simp;omega),azP]
 ·have:=h i a;rw[atD,atI b] at this;rw[aAM (by simp;omega),aAO];exact this
section
namespace Srt
section
variable {α:Type}(d:α)(wt:α->Nat)
def sw (xs:List α)(i j:Nat):List α:=(xs.set i (xs.getD j d)).set j (xs.getD i d)
def lt (x y:α):Bool:=ai (wt x < wt y)
def LN (a:Nat):Nat->List α->List α
|0,xs=>xs
|j+1,xs=>if a < j+1∧lt wt (xs.getD (j+1) d) (xs.getD j d)=av then LN a j (sw d xs (j+1) j) else xs
def Nk (a:Nat):Nat->Nat->List α->List α
|0,_,xs=>xs
|n+1,i,xs=>Nk a n (i+1) (LN d wt a i xs)
def ins (xs:List α)(a b:Nat):List α:=Nk d wt a (b - (a+1)) (a+1) xs
def swr:Nat->Nat->Nat->List α->List α
|0,_,_,xs=>xs
|n+1,a,b,xs=>swr n (a+1) (b+1) (sw d xs a b)
def rot:Nat->Nat->Nat->Nat->List α->List α
|0,_,_,_,xs=>xs
|f+1,i,j,m,xs=>if i=j then swr d i (m - i) m xs else if j < i then rot f (i - j) j m (swr d j (m - i) m xs) else rot f i (j - i) m (swr d i (m - i) (m+j - i) xs)
def bs (p:Nat->Bool):Nat->Nat->Nat->Nat
|0,i,_=>i
|f+1,i,j=>if i < j then (if p ((i+j) / 2)=av then bs p f i ((i+j) / 2) else bs p f ((i+j) / 2+1) j) else i
def up:Nat->Nat->List α->List α
|0,_,xs=>xs
|n+1,k,xs=>up n (k+1) (sw d xs k (k+1))
def down:Nat->Nat->List α->List α
|0,_,xs=>xs
|n+1,k,xs=>down n (k - 1) (sw d xs k (k - 1))
def Gs (xs:List α)(a m b:Nat):Nat:=bs (λc=>lt wt (xs.getD ((a+b) / 2+m - 1 - c) d) (xs.getD c d)) (b - a) (if (a+b) / 2 < m then (a+b) / 2+m - b else a) (if (a+b) / 2 < m then (a+b) / 2 else m)
def sym:Nat->Nat->Nat->Nat->List α->List α
|0,_,_,_,xs=>xs
|f+1,a,m,b,xs=>
  if m - a=1 then up d (bs (λh=>!lt wt (xs.getD h d) (xs.getD a d)) (b - m) m b - 1 - a) a xs
  else if b - m=1 then down d (m - bs (λh=>lt wt (xs.getD m d) (xs.getD h d)) (m - a) a m) m xs
  else
   let c:=(a+b) / 2
   let s:=Gs d wt xs a m b
   let e:=c+m - s
   let g:=if s < m∧m < e then rot d (e - s) (m - s) (e - m) m xs else xs
   let i:=if a < s∧s < c then sym f a s c g else g
   if c < e∧e < b then sym f c e b i else i
def blk (n:Nat):Nat->Nat->List α->List α
|0,_,xs=>xs
|f+1,a,xs=>if a+n<=xs.length then blk n f (a+n) (ins d wt xs a (a+n)) else ins d wt xs a xs.length
def mrg (n:Nat):Nat->Nat->List α->List α
|0,_,xs=>xs
|f+1,a,xs=>if a+2*n<=xs.length then mrg n f (a+2*n) (sym d wt (2*n) a (a+n) (a+2*n) xs) else if a+n < xs.length then sym d wt (xs.length - a) a (a+n) xs.length xs else xs
def rounds:Nat->Nat->List α->List α
|0,_,xs=>xs
|f+1,n,xs=>if n < xs.length then rounds f (2*n) (mrg d wt n (xs.length+1) 0 xs) else xs
def MI (xs:List α):List α:=rounds d wt (xs.length+1) 20 (blk d wt 20 (xs.length+1) 0 xs)
end
section
variable {α:Type}{d:α}{wt:α->Nat}
theorem HD {xs:List α}:(sw d xs i j).length=xs.length:=by unfold sw;rw[avS,avS]
theorem S8 {a:Nat}:∀(j:Nat) (xs:List α),(LN d wt a j xs).length=xs.length
|0,_=>rfl
|j+1,xs=>by
  unfold LN;split
  ·rw[S8 j,HD]
  ·rfl
theorem Tv {a:Nat}:∀(n i:Nat) (xs:List α),(Nk d wt a n i xs).length=xs.length
|0,_,_=>rfl
|n+1,i,xs=>by unfold Nk;rw[Tv n,S8]
theorem Wm {xs:List α}{a:Nat}:(ins d wt xs a b).length=xs.length:=Tv _ _ _
theorem Hk:∀(n a b:Nat) (xs:List α),(swr d n a b xs).length=xs.length
|0,_,_,_=>rfl
|n+1,a,b,xs=>by unfold swr;rw[Hk n,HD]
theorem Ny:∀(f i j m:Nat) (xs:List α),(rot d f i j m xs).length=xs.length
|0,_,_,_,_=>rfl
|f+1,i,j,m,xs=>by
  unfold rot;split
  ·rw[Hk]
  ·split
   ·rw[Ny f,Hk]
   ·rw[Ny f,Hk]
theorem aeC:∀(n k:Nat) (xs:List α),(up d n k xs).length=xs.length
|0,_,_=>rfl
|n+1,k,xs=>by unfold up;rw[aeC n,HD]
theorem Sj:∀(n k:Nat) (xs:List α),(down d n k xs).length=xs.length
|0,_,_=>rfl
|n+1,k,xs=>by unfold down;rw[Sj n,HD]
theorem KJ:∀(f a m b:Nat) (xs:List α),(sym d wt f a m b xs).length=xs.length
|0,_,_,_,_=>rfl
|f+1,a,m,b,xs=>by
  unfold sym;split
  ·rw[aeC]
  ·split
   ·rw[Sj]
   ·dsimp only;have e:(if Gs d wt xs a m b < m∧m < (a+b) / 2+m - Gs d wt xs a m b then rot d ((a+b) / 2+m - Gs d wt xs a m b - Gs d wt xs a m b) (m - Gs d wt xs a m b) ((a+b) / 2+m - Gs d wt xs a m b - m) m xs else xs).length=xs.length:=by
     split
     ·rw[Ny]
     ·rfl
    generalize (if Gs d wt xs a m b < m∧m < (a+b) / 2+m - Gs d wt xs a m b then rot d ((a+b) / 2+m - Gs d wt xs a m b - Gs d wt xs a m b) (m - Gs d wt xs a m b) ((a+b) / 2+m - Gs d wt xs a m b - m) m xs else xs)=c at e ⊢;have g:(if a < Gs d wt xs a m b∧Gs d wt xs a m b < (a+b) / 2 then sym d wt f a (Gs d wt xs a m b) ((a+b) / 2) c else c).length=xs.length:=by
     split
     ·rw[KJ f,e]
     ·exact e
    generalize (if a < Gs d wt xs a m b∧Gs d wt xs a m b < (a+b) / 2 then sym d wt f a (Gs d wt xs a m b) ((a+b) / 2) c else c)=h at g ⊢;split
    ·rw[KJ f,g]
    ·exact g
theorem getD_at {P R:List α}{x:α}:(P++x::R).getD P.length d=x:=by
 rw[atD,avU (atE _),avV];rfl
theorem getD_in {P V R:List α}(hi:i < V.length):(P++(V++R)).getD (P.length+i) d=V.getD i d:=by
 rw[atD,avU om,azK,avK hi,atD]
theorem adZ (P R Q:List α)(x y:α)(hi:i=P.length)(a:j=P.length+1+R.length):sw d (P++x::(R++y::Q)) i j=P++y::(R++x::Q):=by
 subst hi;subst a;have b:(P++x::(R++y::Q)).getD (P.length+1+R.length) d=y:=by
  rw[show P++x::(R++y::Q)=(P++x::R)++y::Q by simp,show P.length+1+R.length=(P++x::R).length by simp;omega];exact getD_at
 unfold sw;rw[b,getD_at,axJ _ _ (atE _),avV,avN,axJ _ _ om,show P.length+1+R.length - P.length=R.length+1 by omega,List.set_cons_succ,axJ _ _ (atE _),avV,avN]
theorem Wv (P R Q:List α)(x y:α)(hi:i=P.length)(a:j=P.length+1+R.length):sw d (P++x::(R++y::Q)) j i=P++y::(R++x::Q):=by
 subst hi;subst a;have b:(P++x::(R++y::Q)).getD (P.length+1+R.length) d=y:=by
  rw[show P++x::(R++y::Q)=(P++x::R)++y::Q by simp,show P.length+1+R.length=(P++x::R).length by simp;omega];exact getD_at
 unfold sw;rw[b,getD_at,axJ _ _ om,show P.length+1+R.length - P.length=R.length+1 by omega,List.set_cons_succ,axJ _ _ (atE _),avV,avN,axJ _ _ (atE _),avV,avN]
theorem Ou:∀(U V P R Q:List α) {a b:Nat},U.length=V.length->a=P.length->b=P.length+U.length+R.length->swr d U.length a b (P++(U++(R++(V++Q))))=P++(V++(R++(U++Q)))
|[],[],P,R,Q,a,b,_,_,_=>rfl
|u::U,v::V,P,R,Q,a,b,h,c,f=>by
  simp only[atW] at h f;show swr d U.length (a+1) (b+1) (sw d (P++(u::U++(R++(v::V++Q)))) a b)=_;have e:P++(u::U++(R++(v::V++Q)))=P++u::((U++R)++v::(V++Q)):=sm
  rw[e,adZ P (U++R) (V++Q) u v c (by rw[asY];omega)];have g:P++v::((U++R)++u::(V++Q))=(P++[v])++(U++((R++[u])++(V++Q))):=sm
  rw[g,Ou U V (P++[v]) (R++[u]) Q om (by simp;omega) (by simp;omega)];simp
theorem Ra:∀(f:Nat) (P U V Q:List α) {m:Nat},U.length+V.length<=f->0 < U.length->0 < V.length->m=P.length+U.length->rot d f U.length V.length m (P++(U++(V++Q)))=P++(V++(U++Q))
|0,_,U,V,_,_,h,p,_,_=>by omega
|f+1,P,U,V,Q,m,h,p,q,hm=>by
  unfold rot;by_cases k:U.length=V.length
  ·rw[asU k];exact Ou U V P [] Q k om (by simp;omega)
  rw[asT k];by_cases c:V.length < U.length
  ·rw[asU c];have n:U.take V.length++U.drop V.length=U:=auR ..
   have g:(U.take V.length).length=V.length:=by rw[atF];omega
   have j:(U.drop V.length).length=U.length - V.length:=atG;have e:=Ou (d:=d) (U.take V.length) V P (U.drop V.length) Q (a:=m - U.length) (b:=m) g om om;rw[g] at e;have l:P++(U.take V.length++(U.drop V.length++(V++Q)))=P++(U++(V++Q)):=by rw[<-atJ (U.take V.length),n]
   rw[l] at e;rw[e];have i:=Ra f (P++V) (U.drop V.length) (U.take V.length) Q (m:=m) om om om (by rw[asY];omega);rw[g,j] at i;rw[<-atJ P,i,<-atJ (U.take V.length),n,atJ]
  ·rw[asT c];have o:V.take (V.length - U.length)++V.drop (V.length - U.length)=V:=auR ..
   have g:(V.take (V.length - U.length)).length=V.length - U.length:=by rw[atF];omega
   have j:(V.drop (V.length - U.length)).length=U.length:=by rw[atG];omega
   have e:=Ou (d:=d) U (V.drop (V.length - U.length)) P (V.take (V.length - U.length)) Q (a:=m - U.length) (b:=m+V.length - U.length) j.symm om om;have l:P++(U++(V.take (V.length - U.length)++(V.drop (V.length - U.length)++Q)))=P++(U++(V++Q)):=by rw[<-atJ (V.take _),o]
   rw[l] at e;rw[e];have i:=Ra f P (V.drop (V.length - U.length)) (V.take (V.length - U.length)) (U++Q) (m:=m) om om om om;rw[g,j] at i;rw[i,<-atJ (V.take _),o]
theorem acY:∀(V P Q:List α) (u:α) {k:Nat},k=P.length->up d V.length k (P++u::(V++Q))=P++(V++u::Q)
|[],P,Q,u,k,_=>rfl
|v::V,P,Q,u,k,a=>by
  show up d V.length (k+1) (sw d (P++u::([]++v::(V++Q))) k (k+1))=_;rw[adZ P [] (V++Q) u v a (by simp;omega)];have e:P++v::([]++u::(V++Q))=(P++[v])++u::(V++Q):=sm
  rw[e,acY V (P++[v]) Q u (by simp;omega)];simp
theorem Sf:∀(n:Nat) (V P Q:List α) (u:α) {k:Nat},V.length=n->k=P.length+n->down d n k (P++(V++u::Q))=P++u::(V++Q)
|0,V,P,Q,u,k,h,f=>by
  have:V=[]:=awO.1 h;subst this;rfl
|n+1,V,P,Q,u,k,h,f=>by
  have a:V≠[]:=λe=>by rw[e] at h;simp at h
  have b:=List.dropLast_concat_getLast a;have c:V.dropLast.length=n:=by rw[aAU];omega
  show down d n (k - 1) (sw d (P++(V++u::Q)) k (k - 1))=_;generalize V.getLast a=v at b;generalize V.dropLast=W at b c;subst b;have e:P++(W++[v]++u::Q)=(P++W)++v::([]++u::Q):=sm
  rw[e,Wv (P++W) [] Q v u (by rw[asY];omega) (by simp;omega)];have g:(P++W)++u::([]++v::Q)=P++(W++u::(v::Q)):=sm
  rw[g,Sf n W P (v::Q) u c om];simp
theorem Wy {p:Nat->Bool}:∀(f i j:Nat),j - i<=f->i<=j->(∀c e,i<=c->c<=e->e < j->p c=av->p e=av) ->
  i<=bs p f i j∧bs p f i j<=j∧(∀c,i<=c->c < bs p f i j->p c=au)∧(∀c,bs p f i j<=c->c < j->p c=av)
|0,i,j,o,k,_=>⟨atE _,k,λc g d=>absurd d (by unfold bs;omega),λc g d=>by unfold bs at g;omega⟩
|f+1,i,j,o,k,hm=>by
  unfold bs;by_cases h:i < j
  ·rw[asU h];by_cases hp:p ((i+j) / 2)=av
   ·rw[asU hp];obtain⟨a,b,c,e⟩:=Wy f i ((i+j) / 2) om om λc e g d n m=>hm c e g d om m;refine⟨a,om,c,λx g d=>?_⟩;rcases auC x ((i+j) / 2) with l|l
    ·exact e x g l
    ·exact hm _ x om l d hp
   ·rw[asT hp];obtain⟨a,b,c,e⟩:=Wy f ((i+j) / 2+1) j om om λc e g d n m=>hm c e om d n m;refine⟨om,b,λx g d=>?_,e⟩;rcases auC ((i+j) / 2) x with l|l
    ·exact c x om d
    ·cases q:p x with
    |false=>rfl
    |true=>exact absurd (hm x _ g l om q) hp
  ·rw[asT h];exact⟨atE _,k,λc g d=>by omega,λc g d=>by omega⟩
end
end Srt
end
section
namespace Srt
section
variable {α:Type}{d:α}{wt:α->Nat}
def srt (wt:α->Nat)(l:List α):Prop:=l.Pairwise λx y=>wt x<=wt y
theorem Ks {A B:List α}(a:srt wt A)(b:srt wt B)(h:∀x∈A,∀y∈B,wt x<=wt y):srt wt (A++B):=axO.2 ⟨a,b,h⟩
theorem BU {V:List α}(h:srt wt V)(c:i<=j)(a:j < V.length):wt (V.getD i d)<=wt (V.getD j d):=by
 rw[atD,atD,atI a,atI om];rcases auC i j with b|b
 ·exact axX.1 h i j om a b
 ·obtain rfl:i=j:=om
  exact atE _
theorem lN {V:List α}{P:α->Prop}{k:Nat}(h:∀i,i < k->i < V.length->P (V.getD i d)):∀x∈V.take k,P x:=by
 intro x a;obtain⟨i,hi,rfl⟩:=awK a;rw[atF] at hi;have:=h i om om;rw[atD,atI om] at this;rw[azP];exact this
theorem MR {V:List α}{P:α->Prop}{k:Nat}(h:∀i,k<=i->i < V.length->P (V.getD i d)):∀x∈V.drop k,P x:=by
 intro x a;obtain⟨i,hi,rfl⟩:=awK a;rw[atG] at hi;have:=h (k+i) om om;rw[atD,atI om] at this;rw[List.getElem_drop];exact this
theorem CK {V:List α}(h:srt wt V)(k:Nat):srt wt (V.take k):=List.Pairwise.sublist (aAs k V) h
theorem Gf {V:List α}(h:srt wt V)(k:Nat):srt wt (V.drop k):=List.Pairwise.sublist (List.drop_sublist k V) h
theorem NR {P U R:List α}{c:Nat}(a:P.length<=c)(b:c < P.length+U.length):(P++(U++R)).getD c d=U.getD (c - P.length) d:=by
 have:=getD_in (d:=d) (P:=P) (V:=U) (R:=R) (i:=c - P.length) om;rw[show P.length+(c - P.length)=c by omega] at this;exact this
theorem F1 {P U V R:List α}{c:Nat}(a:P.length+U.length<=c)(b:c < P.length+U.length+V.length):(P++(U++(V++R))).getD c d=V.getD (c - (P.length+U.length)) d:=by
 rw[<-atJ P,NR (by rw[asY];exact a) (by rw[asY];exact b),asY]
theorem agO (P V Q:List α)(u:α)(f:Nat)(g:srt wt V){a m:Nat}(t:a=P.length)(hm:m=P.length+1)(E:b=m+V.length) :
  ∃W,sym d wt (f+1) a m b (P++u::(V++Q))=P++(W++Q)∧W.Perm (u::V)∧srt wt W:=by
 have l:∀c,m<=c->c < b->(P++u::(V++Q)).getD c d=V.getD (c - m) d:=λc n o=>by
  have:=F1 (d:=d) (P:=P) (U:=[u]) (V:=V) (R:=Q) (c:=c) (by simp;omega) (by simp;omega);rw[show P++u::(V++Q)=P++([u]++(V++Q)) by simp,this]
  congr 1
  simp;omega
 have hu:(P++u::(V++Q)).getD a d=u:=by rw[t];exact getD_at
 unfold sym;rw[asU om];obtain⟨s1,s2,v,w⟩:=Wy (p:=λh=>!lt wt ((P++u::(V++Q)).getD h d) ((P++u::(V++Q)).getD a d)) (b - m) m b om om (by
  intro c e n o A B;simp only[l c n om,l e om A,hu,lt,awY,avL] at B ⊢;have:=BU (d:=d) g (i:=c - m) (j:=e - m) om om;omega)
 generalize bs (λh=>!lt wt ((P++u::(V++Q)).getD h d) ((P++u::(V++Q)).getD a d)) (b - m) m b=s at s1 s2 v w ⊢;have C:(V.take (s - m)).length=s - m:=by rw[atF];omega
 have e:=acY (d:=d) (V.take (s - m)) P (V.drop (s - m)++Q) u (k:=a) t;rw[<-atJ (V.take (s - m)),auR,C] at e;rw[show s - 1 - a=s - m by omega,e];refine⟨V.take (s - m)++u::V.drop (s - m),sm,?_,?_⟩
 ·have h:(V.take (s - m)++u::V.drop (s - m)).Perm (u::(V.take (s - m)++V.drop (s - m))):=List.perm_middle
  rwa [auR] at h
 ·refine Ks (CK g _) (avT.2 ⟨?_,Gf g _⟩) ?_
  ·refine MR (d:=d) (P:=λy=>wt u<=wt y) λi n o=>?_;have:=w (i+m) om om;simp only[l (i+m) om om,hu,lt,awY,avL] at this;rw[axQ] at this;omega
  ·intro x z y q;have D:wt x < wt u:=lN (d:=d) (P:=λy=>wt y < wt u) (λi n o=>by
    have:=v (i+m) om om;simp only[l (i+m) om om,hu,lt,Bool.not_eq_false',auP] at this;rw[axQ] at this;exact this) x z
   rcases atL.1 q with rfl|q
   ·omega
   ·have:=CK g V.length;have r:(V.take (s - m)++V.drop (s - m)).Pairwise λx y=>wt x<=wt y:=by rw[auR];exact g
    exact (axO.1 r).2.2 x z y q
theorem aaY (P U Q:List α)(v:α)(f:Nat)(hu:srt wt U){a m:Nat}(A:a=P.length)(hm:m=a+U.length)(F:b=m+1)(B:m - a≠1) :
  ∃W,sym d wt (f+1) a m b (P++(U++v::Q))=P++(W++Q)∧W.Perm (U++[v])∧srt wt W:=by
 have g:∀c,a<=c->c < m->(P++(U++v::Q)).getD c d=U.getD (c - a) d:=λc l n=>by
  rw[NR om om,A]
 have o:(P++(U++v::Q)).getD m d=v:=by
  rw[<-atJ,show m=(P++U).length by rw[asY];omega];exact getD_at
 unfold sym;rw[asT B,asU om];obtain⟨s1,s2,u,w⟩:=Wy (p:=λh=>lt wt ((P++(U++v::Q)).getD m d) ((P++(U++v::Q)).getD h d)) (m - a) a m om om (by
  intro c e l n C D;simp only[g c l om,g e om C,o,lt,auP] at D ⊢;have:=BU (d:=d) hu (i:=c - a) (j:=e - a) om om;omega)
 generalize bs (λh=>lt wt ((P++(U++v::Q)).getD m d) ((P++(U++v::Q)).getD h d)) (m - a) a m=s at s1 s2 u w ⊢;have G:(U.take (s - a)).length=s - a:=by rw[atF];omega
 have E:(U.drop (s - a)).length=m - s:=by rw[atG];omega
 have e:=Sf (d:=d) (m - s) (U.drop (s - a)) (P++U.take (s - a)) Q v (k:=m) E (by rw[asY];omega);rw[atJ,<-atJ (U.take (s - a)),auR] at e;rw[e];refine⟨U.take (s - a)++v::U.drop (s - a),sm,?_,?_⟩
 ·have h:(U.take (s - a)++v::U.drop (s - a)).Perm (v::(U.take (s - a)++U.drop (s - a))):=List.perm_middle;rw[auR] at h;exact h.trans (azJ (l₁:=[v]) (l₂:=U))
 ·refine Ks (CK hu _) (avT.2 ⟨?_,Gf hu _⟩) ?_
  ·refine MR (d:=d) (P:=λy=>wt v<=wt y) λi l n=>?_;have:=w (i+a) om om;simp only[g (i+a) om om,o,lt,auP] at this;rw[axQ] at this;omega
  ·intro x z y q;have r:wt x<=wt v:=lN (d:=d) (P:=λy=>wt y<=wt v) (λi l n=>by
    have:=u (i+a) om om;simp only[g (i+a) om om,o,lt,avL] at this;rw[axQ] at this;omega) x z
   rcases atL.1 q with rfl|q
   ·exact r
   ·have t:(U.take (s - a)++U.drop (s - a)).Pairwise λx y=>wt x<=wt y:=by rw[auR];exact hu
    exact (axO.1 t).2.2 x z y q
theorem RM:∀(f:Nat) (P U V Q:List α) {a m b:Nat},U.length+V.length<=f->0 < U.length->0 < V.length->srt wt U->srt wt V->a=P.length->m=a+U.length->b=m+V.length ->
  ∃W,sym d wt f a m b (P++(U++(V++Q)))=P++(W++Q)∧W.Perm (U++V)∧srt wt W
|0,P,U,V,Q,a,m,b,hf,hU,hV,_,_,_,_,_=>by omega
|f+1,P,U,V,Q,a,m,b,hf,hU,hV,r,t,D,hm,Z=>by
  by_cases L:U.length=1
  ·obtain⟨u,rfl⟩:=ayH.1 L;exact agO P V Q u f t D (by simp at hm;omega) Z
  by_cases B:V.length=1
  ·obtain⟨v,rfl⟩:=ayH.1 B;exact aaY P U Q v f r D hm (by simpa using Z) om
  unfold sym;rw[asT om,asT om];dsimp only;generalize E:(a+b) / 2=g;generalize w:(if g < m then g+m - b else a)=lo;generalize F:(if g < m then g else m)=hi;have a1:a<=lo∧g+m - b<=lo∧(lo=a∨lo=g+m - b):=by
   rw[<-w];split<;>omega
  have a6:hi<=m∧hi<=g∧lo<=hi∧(hi=m∨hi=g):=by
   rw[<-F,<-w];split<;>omega
  have gU:∀c,a<=c->c < m->(P++(U++(V++Q))).getD c d=U.getD (c - a) d:=λc L B=>by
   rw[NR om om,D]
  have gV:∀c,m<=c->c < b->(P++(U++(V++Q))).getD c d=V.getD (c - m) d:=λc L B=>by
   rw[F1 om om,hm,D]
  have hp:∀c,lo<=c->c < hi->(lt wt ((P++(U++(V++Q))).getD (g+m - 1 - c) d) ((P++(U++(V++Q))).getD c d)=av↔wt (V.getD (g - 1 - c) d) < wt (U.getD (c - a) d)):=λc L B=>by
   rw[gU c om om,gV (g+m - 1 - c) om om,show g+m - 1 - c - m=g - 1 - c by omega];simp[lt]
  obtain⟨s1,s2,s3,s4⟩:=Wy (p:=λc=>lt wt ((P++(U++(V++Q))).getD (g+m - 1 - c) d) ((P++(U++(V++Q))).getD c d)) (b - a) lo hi om om (by
   intro c e k1 k2 k3 k4;have k4:=(hp c k1 om).1 k4;refine (hp e om k3).2 ?_;have M:=BU (d:=d) r (i:=c - a) (j:=e - a) om om;have C:=BU (d:=d) t (i:=g - 1 - e) (j:=g - 1 - c) om om;omega)
  have hs:Gs d wt (P++(U++(V++Q))) a m b=bs (λc=>lt wt ((P++(U++(V++Q))).getD (g+m - 1 - c) d) ((P++(U++(V++Q))).getD c d)) (b - a) lo hi:=by
   unfold Gs;rw[E,w,F]
  rw[hs];generalize bs (λc=>lt wt ((P++(U++(V++Q))).getD (g+m - 1 - c) d) ((P++(U++(V++Q))).getD c d)) (b - a) lo hi=s at s1 s2 s3 s4 ⊢;have N:U.take (s - a)++U.drop (s - a)=U:=auR ..
  have O:V.take (g - s)++V.drop (g - s)=V:=auR ..
  have a7:(U.take (s - a)).length=s - a:=by rw[atF];omega
  have T:(U.drop (s - a)).length=m - s:=by rw[atG];omega
  have X:(V.take (g - s)).length=g - s:=by rw[atF];omega
  have a8:(V.drop (g - s)).length=b - (g+m - s):=by rw[atG];omega
  have G:=CK r (s - a);have H:=Gf r (s - a);have I:=CK t (g - s);have J:=Gf t (g - s);have z:∀x∈U.take (s - a)++V.take (g - s),∀y∈U.drop (s - a)++V.drop (g - s),wt x<=wt y:=by
   have cU:(U.take (s - a)++U.drop (s - a)).Pairwise λx y=>wt x<=wt y:=by rw[N];exact r
   have cV:(V.take (g - s)++V.drop (g - s)).Pairwise λx y=>wt x<=wt y:=by rw[O];exact t
   intro x n y o;rcases auF.1 n with n|n<;>rcases auF.1 o with o|o
   ·exact (axO.1 cU).2.2 x n y o
   ·refine MR (d:=d) (P:=λy=>wt x<=wt y) (λj j1 j2=>?_) y o;refine lN (d:=d) (P:=λx=>wt x<=wt (V.getD j d)) (λi i1 i2=>?_) x n;rcases auC lo s with h|h
    ·have q:=s3 (s - 1) om om;have q:¬wt (V.getD (g - 1 - (s - 1)) d) < wt (U.getD (s - 1 - a) d):=λk=>by
      rw[(hp (s - 1) om om).2 k] at q;cases q
     have M:=BU (d:=d) r (i:=i) (j:=s - 1 - a) om om;have C:=BU (d:=d) t (i:=g - 1 - (s - 1)) (j:=j) om om;omega
    ·omega
   ·refine MR (d:=d) (P:=λy=>wt x<=wt y) (λj j1 j2=>?_) y o;refine lN (d:=d) (P:=λx=>wt x<=wt (U.getD j d)) (λi i1 i2=>?_) x n;rcases auC s hi with h|h
    ·have q:=(hp s om h).1 (s4 s (atE _) h);have M:=BU (d:=d) r (i:=s - a) (j:=j) om om;have C:=BU (d:=d) t (i:=i) (j:=g - 1 - s) om om;omega
    ·omega
   ·exact (axO.1 cV).2.2 x n y o
  have x1:(if s < m∧m < g+m - s then rot d (g+m - s - s) (m - s) (g+m - s - m) m (P++(U++(V++Q))) else P++(U++(V++Q)))=P++(U.take (s - a)++(V.take (g - s)++(U.drop (s - a)++(V.drop (g - s)++Q)))):=by
   by_cases h:s < m∧m < g+m - s
   ·rw[asU h];have e:=Ra (d:=d) (g+m - s - s) (P++U.take (s - a)) (U.drop (s - a)) (V.take (g - s)) (V.drop (g - s)++Q) (m:=m) om om om (by rw[asY];omega);rw[T,X] at e;rw[show g+m - s - m=g - s by omega];have e1:P++U.take (s - a)++(U.drop (s - a)++(V.take (g - s)++(V.drop (g - s)++Q)))=P++(U++(V++Q)):=by
     rw[<-atJ (V.take _),O,atJ,<-atJ (U.take _),N]
    rw[e1] at e;rw[e,atJ]
   ·rw[asT h];have e0:P++(U++(V++Q))=P++((U.take (s - a)++U.drop (s - a))++((V.take (g - s)++V.drop (g - s))++Q)):=by rw[N,O]
    rw[e0];rcases (by omega:m - s=0∨g - s=0) with K|K
    ·have e:U.drop (s - a)=[]:=awO.1 om;rw[e];simp only[atX,auI,atJ]
    ·have e:V.take (g - s)=[]:=awO.1 om;rw[e];simp only[atX,auI,atJ]
  rw[x1];have x2:∃l,(if a < s∧s < g then sym d wt f a s g (P++(U.take (s - a)++(V.take (g - s)++(U.drop (s - a)++(V.drop (g - s)++Q))))) else P++(U.take (s - a)++(V.take (g - s)++(U.drop (s - a)++(V.drop (g - s)++Q)))))=P++(l++(U.drop (s - a)++(V.drop (g - s)++Q)))∧l.Perm (U.take (s - a)++V.take (g - s))∧srt wt l:=by
   by_cases h:a < s∧s < g
   ·rw[asU h];exact RM f P (U.take (s - a)) (V.take (g - s)) (U.drop (s - a)++(V.drop (g - s)++Q)) om om om G I D om om
   ·rw[asT h];refine⟨U.take (s - a)++V.take (g - s),sm,ayF _,?_⟩;rcases (by omega:s - a=0∨g - s=0) with K|K
    ·have:U.take (s - a)=[]:=awO.1 om;rw[this];exact I
    ·have:V.take (g - s)=[]:=awO.1 om;rw[this,atX];exact G
  obtain⟨l,e2,Y,M⟩:=x2;rw[e2];have b0:l.length=g - a:=by rw[Y.length_eq,asY];omega
  have x3:∃A,(if g < g+m - s∧g+m - s < b then sym d wt f g (g+m - s) b (P++(l++(U.drop (s - a)++(V.drop (g - s)++Q)))) else P++(l++(U.drop (s - a)++(V.drop (g - s)++Q))))=P++(l++(A++Q))∧A.Perm (U.drop (s - a)++V.drop (g - s))∧srt wt A:=by
   by_cases h:g < g+m - s∧g+m - s < b
   ·rw[asU h];obtain⟨A,R,S,C⟩:=RM f (P++l) (U.drop (s - a)) (V.drop (g - s)) Q (a:=g) (m:=g+m - s) (b:=b) om om om H J (by rw[asY];omega) om om;rw[atJ,atJ] at R;exact⟨A,R,S,C⟩
   ·rw[asT h];refine⟨U.drop (s - a)++V.drop (g - s),sm,ayF _,?_⟩;rcases (by omega:m - s=0∨b - (g+m - s)=0) with K|K
    ·have:U.drop (s - a)=[]:=awO.1 om;rw[this];exact J
    ·have:V.drop (g - s)=[]:=awO.1 om;rw[this,atX];exact H
  obtain⟨A,R,S,C⟩:=x3;refine⟨l++A,by rw[R,atJ],?_,Ks M C λx n y o=>z x (Y.mem_iff.1 n) y (S.mem_iff.1 o)⟩;have h:=Y.append S;refine h.trans ?_;have B:((U.take (s - a)++V.take (g - s))++(U.drop (s - a)++V.drop (g - s))).Perm ((U.take (s - a)++U.drop (s - a))++(V.take (g - s)++V.drop (g - s))):=by
   rw[atJ,atJ];refine List.Perm.append_left _ ?_;rw[<-atJ,<-atJ];exact List.Perm.append_right _ azJ
  rwa [N,O] at B
end
end Srt
end
section
namespace Srt
section
variable {α:Type}{d:α}{wt:α->Nat}
theorem YV (P:List α)(x:α):∀(n:Nat) (U R:List α),U.length=n->srt wt U->∃W,LN d wt P.length (P.length+n) (P++(U++x::R))=P++(W++R)∧W.Perm (U++[x])∧srt wt W
|0,U,R,f,_=>by
  have:U=[]:=awO.1 f;subst this;refine⟨[x],?_,ayF _,by unfold srt;simp⟩;show LN d wt P.length P.length _=_;cases P with
 |nil=>rfl
 |cons p P=>
   show LN d wt (P.length+1) (P.length+1) _=_;unfold LN;rw[asT om];rfl
|n+1,U,R,f,g=>by
  have b:U≠[]:=λe=>by rw[e] at f;simp at f
  have i:=List.dropLast_concat_getLast b;have k:U.dropLast.length=n:=by rw[aAU];omega
  generalize U.getLast b=v at i;generalize U.dropLast=Y at i k;subst i;have e:P++(Y++[v]++x::R)=(P++Y)++v::([]++x::R):=sm
  have g1:(P++(Y++[v]++x::R)).getD (P.length+n) d=v:=by
   rw[e,show P.length+n=(P++Y).length by rw[asY];omega];exact getD_at
  have g2:(P++(Y++[v]++x::R)).getD (P.length+n+1) d=x:=by
   rw[show P++(Y++[v]++x::R)=(P++(Y++[v]))++x::R by simp,show P.length+n+1=(P++(Y++[v])).length by simp;omega];exact getD_at
  have m:srt wt Y:=(axO.1 g).1;have c:∀y∈Y,wt y<=wt v:=λy a=>(axO.1 g).2.2 y a v (aAw v);show ∃W,LN d wt P.length (P.length+n+1) _=_∧_;unfold LN;rw[g1,g2];by_cases h:wt x < wt v
  ·rw[asU ⟨om,by simp[lt,h]⟩,e,Wv (P++Y) [] R v x (by rw[asY];omega) (by simp;omega)];have o:P++Y++x::([]++v::R)=P++(Y++x::(v::R)):=sm
   rw[o];obtain⟨W,q,l,r⟩:=YV P x n Y (v::R) k m;refine⟨W++[v],by rw[q];simp,?_,Ks r (by unfold srt;simp) ?_⟩
   ·refine (l.append_right [v]).trans ?_;rw[atJ,atJ];exact List.Perm.append_left _ (List.Perm.swap v x [])
   ·intro y a z j;rw[auB.1 j];rcases auF.1 (l.mem_iff.1 a) with a|a
    ·exact c y a
    ·rw[auB.1 a];omega
  ·rw[asT (by intro s;have:=s.2;simp[lt] at this;omega)];refine⟨Y++[v]++[x],sm,ayF _,Ks g (by unfold srt;simp) ?_⟩;intro y a z j;rw[auB.1 j];rcases auF.1 a with a|a
   ·have:=c y a;omega
   ·rw[auB.1 a];omega
theorem We (P:List α):∀(Y U R:List α) {i:Nat},i=P.length+U.length->srt wt U->∃W,Nk d wt P.length Y.length i (P++(U++(Y++R)))=P++(W++R)∧W.Perm (U++Y)∧srt wt W
|[],U,R,i,_,a=>⟨U,rfl,by rw[atX],a⟩
|y::Y,U,R,i,hi,a=>by
  show ∃W,Nk d wt P.length Y.length (i+1) (LN d wt P.length i (P++(U++y::(Y++R))))=_∧_;subst hi;obtain⟨W,e,p,q⟩:=YV (d:=d) P y U.length U (Y++R) rfl a;rw[e];have g:W.length=U.length+1:=by rw[p.length_eq,asY];rfl
  obtain⟨Z,b,c,f⟩:=We P Y W R (i:=P.length+U.length+1) om q;refine⟨Z,b,c.trans ?_,f⟩;have:=p.append_right Y;simpa using this
theorem acW (P Y R:List α){a:Nat}(e:a=P.length)(c:b=a+Y.length):∃W,ins d wt (P++(Y++R)) a b=P++(W++R)∧W.Perm Y∧srt wt W:=by
 subst e;unfold ins;cases Y with
|nil=>
  refine⟨[],?_,ayF _,List.Pairwise.nil⟩;rw[show b - (P.length+1)=0 by simp at c;omega];rfl
|cons y Y=>
  have h:=We (d:=d) (wt:=wt) P Y [y] R (i:=P.length+1) sm (by unfold srt;simp);rw[show b - (P.length+1)=Y.length by simp at c;omega];exact h
def bks (wt:α->Nat)(n:Nat)(l:List α):Prop:=∀k,srt wt ((l.drop (k*n)).take n)
theorem Wb {l:List α}(h:srt wt l)(n:Nat):bks wt n l:=λk=>CK (Gf h _) _
theorem Si {W T:List α}{n:Nat}(b:srt wt W)(a:W.length=n)(c:bks wt n T):bks wt n (W++T):=by
 intro k;cases k with
|zero=>
  rw[awR,auX,<-a,List.take_left];exact b
|succ k=>
  rw[awM,axT,<-awS,<-a,List.drop_left,a];exact c k
theorem ZN {l:List α}{n:Nat}(h:bks wt n l)(j:Nat):bks wt n (l.drop (j*n)):=by
 intro k;rw[awS,<-awA];exact h _
theorem adV {n:Nat}(i:0 < n):∀(f:Nat) (P T:List α) {a:Nat},T.length < f->a=P.length->∃T',blk d wt n f a (P++T)=P++T'∧T'.Perm T∧bks wt n T'
|0,_,_,_,h,_=>by omega
|f+1,P,T,a,r,c=>by
  unfold blk;rw[asY];by_cases h:a+n<=P.length+T.length
  ·rw[asU h];have g:T.take n++T.drop n=T:=auR ..
   have j:(T.take n).length=n:=by rw[atF];omega
   have s:(T.drop n).length=T.length - n:=atG;obtain⟨W,e,p,q⟩:=acW (d:=d) (wt:=wt) P (T.take n) (T.drop n) (a:=a) (b:=a+n) c om;rw[g] at e;have k:W.length=n:=by rw[p.length_eq,j]
   obtain⟨T',l,m,o⟩:=adV i f (P++W) (T.drop n) (a:=a+n) om (by rw[asY];omega);rw[e,<-atJ,l];refine⟨W++T',by rw[atJ],?_,Si q k o⟩;have:=p.append m
   rwa [g] at this
  ·rw[asT h];obtain⟨W,e,p,q⟩:=acW (d:=d) (wt:=wt) P T [] (a:=a) (b:=P.length+T.length) c om;rw[atX,atX] at e;exact⟨W,e,p,Wb q n⟩
theorem acH {n:Nat}(r:0 < n):∀(f:Nat) (P T:List α) {a:Nat},T.length < f->a=P.length->bks wt n T->∃T',mrg d wt n f a (P++T)=P++T'∧T'.Perm T∧bks wt (2*n) T'
|0,_,_,_,h,_,_=>by omega
|f+1,P,T,a,w,l,j=>by
  unfold mrg;rw[asY];have c:srt wt (T.take n):=by have:=j 0;rwa [awR,auX] at this
  have k:srt wt ((T.drop n).take n):=by have:=j 1;rwa [ayU] at this
  have g:T.take n++T.drop n=T:=auR ..
  have x:(T.take n).length=min n T.length:=atF;have y:(T.drop n).length=T.length - n:=atG;by_cases h:a+2*n<=P.length+T.length
  ·rw[asU h];have i:(T.drop n).take n++T.drop (2*n)=T.drop n:=by rw[Nat.two_mul,<-awS];exact auR ..
   have z:((T.drop n).take n).length=n:=by rw[atF];omega
   have A:(T.drop (2*n)).length=T.length - 2*n:=atG;obtain⟨W,e,p,q⟩:=RM (d:=d) (wt:=wt) (2*n) P (T.take n) ((T.drop n).take n) (T.drop (2*n)) (a:=a) (m:=a+n) (b:=a+2*n) om om om c k l om om;rw[i,g] at e;have s:W.length=2*n:=by rw[p.length_eq,asY];omega
   obtain⟨T',t,u,v⟩:=acH r f (P++W) (T.drop (2*n)) (a:=a+2*n) om (by rw[asY];omega) (ZN j 2);rw[e,<-atJ,t];refine⟨W++T',by rw[atJ],?_,Si q s v⟩;have:=p.append u;rw[atJ,i,g] at this;exact this
  ·rw[asT h];by_cases o:a+n < P.length+T.length
   ·rw[asU o];have i:(T.drop n).take n=T.drop n:=auG om;rw[i] at k;obtain⟨W,e,p,q⟩:=RM (d:=d) (wt:=wt) (P.length+T.length - a) P (T.take n) (T.drop n) [] (a:=a) (m:=a+n) (b:=P.length+T.length) om om om c k l om om;rw[atX,atX,g] at e;rw[g] at p;exact⟨W,e,p,Wb q _⟩
   ·rw[asT o];rw[auG om] at c;exact⟨T,rfl,ayF _,Wb c _⟩
theorem Py:∀(f n:Nat) (xs:List α),0 < n->xs.length < f+n->bks wt n xs->(rounds d wt f n xs).Perm xs∧srt wt (rounds d wt f n xs)
|0,n,xs,b,g,h=>by
  have:=h 0;rw[awR,auX,auG om] at this;exact⟨ayF _,this⟩
|f+1,n,xs,b,g,h=>by
  unfold rounds;by_cases c:n < xs.length
  ·rw[asU c];obtain⟨T',e,p,q⟩:=acH (d:=d) b (xs.length+1) [] xs (a:=0) om rfl h;rw[auI,auI] at e;rw[e];have k:=p.length_eq;obtain⟨i,j⟩:=Py f (2*n) T' om om q;exact⟨i.trans p,j⟩
  ·rw[asT c];have:=h 0;rw[awR,auX,auG om] at this;exact⟨ayF _,this⟩
theorem V9 (d:α)(wt:α->Nat)(xs:List α):(MI d wt xs).Perm xs∧srt wt (MI d wt xs):=by
 unfold MI;obtain⟨T',e,p,q⟩:=adV (d:=d) (wt:=wt) (n:=20) dc (xs.length+1) [] xs (a:=0) om rfl;rw[auI,auI] at e;rw[e];have f:=p.length_eq;obtain⟨b,c⟩:=Py (d:=d) (xs.length+1) 20 T' dc om q;exact⟨b.trans p,c⟩
end
end Srt
end
section
open Eng
def cD(t6 t25 t26 t27 w)(a:JT)(K:KT):=nz f350 175 [a] [nh 23 [6,27]] [] (zg [6,25,26,27] [t6,t25,t26,t27]) w K
def cC(t3 t11 w)(N1:JT)(K:KT):=nz f350 491 [N1] [nh 7 [3,11]] [] (zg [3,11] [t3,t11]) w K
def cE(t0 t3 t9 t10 t11 w)(N1:JT)(K:KT):=nz f350 43 [N1] [nh 7 [3,11],(16,[3],λs v j w f=>cC (vg v 0) (s 11) w (f 0) K),(23,[6,27],λs v j w f=>cD (vg v 0) (s 25) (s 26) (vg v 1) w (f 0) K)] [] (zg [0,3,9,10,11] [t0,t3,t9,t10,t11]) w K
def cG(t0 w)(K:KT):=nz f350 1 [] [(7,[3,11],λs v j w f=>cE (s 0) (vg v 0) (s 9) (s 10) (vg v 1) w (f 0) K)] [] (zg [0] [t0]) w K
theorem eK:cG t0 w k0->Calls ah 350 #[t0] w k0:=cz [(8,[3])] [(3,[3,11]),(11,[6,27])] func350
def cJ(t0 w)(K:KT):=nz f360 15 [] [] [] (zg [0] [t0]) w K
def cI(t0 t1 w)(K:KT):=nz f360 7 [] [(12,[0],λs v j w f=>cJ (vg v 0) w K)] [] (zg [0,1] [t0,t1]) w K
def cM(t0 t1 w)(K:KT):=nz f360 1 [] [(6,[],λs v j w f=>cI (s 0) (s 1) w K)] [] (zg [0,1] [t0,t1]) w K
theorem eR:cM t0 t1 w k0->Calls ah 360 #[t0,t1] w k0:=cz [(3,[]),(6,[0])] [] func360
def bT(t0 t1 w)(K:KT):=nz f351 1 [] [] [] (zg [0,1] [t0,t1]) w K
theorem dQ:bT t0 t1 w k0->Calls ah 351 #[t0,t1] w k0:=cw func351
def cN(c d e f b w)(N1 H:JT)(K:KT):=
 nK w (λF=>QDo ah F (iA .gtr 3 b d) λa=>GQ a av (λE=>E e) λg=>GQ a av (λE=>E c) λh=>GQ a av (λE=>E b) λi=>GQ a av (λE=>QDo ah F (mIA 341 h i) E) λj=>GQ a av (λE=>QDo ah F (aK 342 j) E) λk=>GQ a av (λE=>E c) λl=>GQ a av (λE=>E b) λm=>GQ a av (λE=>QDo ah F (iA .sub 3 m (iN 1)) E) λn=>GQ a av (λE=>QDo ah F (mIA 341 l n) E) λo=>GQ a av (λE=>QDo ah F (aK 342 o) E) λp=>GQ a av (λE=>QDo ah F (gC g #[k,p]) E) λq=>GQ a av (λE=>QDo ah F (iA .lss 3 q (iN 0)) E) λr=>QDo ah F (cW a r (.bool au)) λs=>
 ∀w,F w ->
 IfX s (nK w (λG=>PDo ah (iA .sub 3 b (iN 1)) λt=>QDo ah G (iA .sub 3 b (iN 1)) λu=>QDo ah G (mIA 341 c u) λv=>QDo ah G (aK 342 v) λx=>QDo ah G (mIA 341 c b) λy=>QDo ah G (aK 342 y) λz=>QDo ah G (mIA 341 c b) λA=>
 ∀w,G w ->
 DoX ah (aV 342 A x) w (ay 3 (pk K)) λ_ w=>DoX ah (mIA 341 c t) w (ay 3 (pk K)) λB w=>DoX ah (aV 342 B z) w (ay 3 (pk K)) λ_ w=>bnx .sub 3 b (iN 1) w K λC w=>H [C] w)) (bnx .add 3 f (iN 1) w K λD w=>N1 [D] w))
def cL(t0 t1 t2 t3 t8 w)(N1:JT)(K:KT):=nz f365 5 [N1] [nh 3 [8],(9,[9],λs v j w f=>cN (s 0) (s 1) (s 3) (s 8) (vg v 0) w (f 1) (f 0) K)] [] (zg [0,1,2,3,8] [t0,t1,t2,t3,t8]) w K
def cP(t0 t1 t2 t3 w)(K:KT):=nz f365 1 [] [(3,[8],λs v j w f=>cL (s 0) (s 1) (s 2) (s 3) (vg v 0) w (f 0) K)] [] (zg [0,1,2,3] [t0,t1,t2,t3]) w K
theorem eY:cP t0 t1 t2 t3 w k0->Calls ah 365 #[t0,t1,t2,t3] w k0:=cz [] [(1,[8]),(4,[9])] func365
def dW(t0 t2 t4 t10 t11 w)(N1:JT)(K:KT):=nz f367 19 [N1] [nh 5 [10,11]] [] (zg [0,2,4,10,11] [t0,t2,t4,t10,t11]) w K
def eD(t0 t1 t2 t3 t4 w)(K:KT):=nz f367 1 [] [(5,[10,11],λs v j w f=>dW (s 0) (s 2) (s 4) (vg v 0) (vg v 1) w (f 0) K)] [] (zg [0,1,2,3,4] [t0,t1,t2,t3,t4]) w K
theorem gE:eD t0 t1 t2 t3 t4 w k0->Calls ah 367 #[t0,t1,t2,t3,t4] w k0:=cz [] [(2,[10,11])] func367
def dU(t6 w)(a:JT)(K:KT):=nz f361 1007 [a] [nh 15 [6]] [] (zg [6] [t6]) w K
def dS(t0 t1 t2 t6 t7 t8 w)(a b:JT)(K:KT):=nz f361 623 [a,b] [nh 15 [6],nh 19 [7,8],(32,[],λs v j w f=>dU (s 6) w (f 0) K)] [] (zg [0,1,2,6,7,8] [t0,t1,t2,t6,t7,t8]) w K
def dR(t0 t1 t2 t6 w)(a:JT)(K:KT):=nz f361 47 [a] [nh 15 [6],(19,[7,8],λs v j w f=>dS (s 0) (s 1) (s 2) (s 6) (vg v 0) (vg v 1) w (f 1) (f 0) K)] [] (zg [0,1,2,6] [t0,t1,t2,t6]) w K
def dV(t0 t1 t2 t6 t7 t8 w)(N1:JT)(K:KT):=nz f361 19 [N1] [nh 5 [7,8],(15,[6],λs v j w f=>dR (s 0) (s 1) (s 2) (vg v 0) w (f 0) K)] [] (zg [0,1,2,6,7,8] [t0,t1,t2,t6,t7,t8]) w K
def eC(t0 t1 t2 w)(K:KT):=nz f361 1 [] [(5,[7,8],λs v j w f=>dV (s 0) (s 1) (s 2) (s 6) (vg v 0) (vg v 1) w (f 0) K)] [] (zg [0,1,2] [t0,t1,t2]) w K
theorem gH:eC t0 t1 t2 w k0->Calls ah 361 #[t0,t1,t2] w k0:=cz [(16,[])] [(2,[7,8]),(7,[6]),(9,[7,8])] func361
def dB(b c d e a w)(N1:JT)(K:KT):=
 bnx .lss 3 a e w K λf w=>IfX f (nK w (λr=>PDo ah (iA .add 3 d a) λg=>QDo ah r (iA .add 3 c a) λh=>QDo ah r (iA .add 3 d a) λi=>QDo ah r (mIA 341 b i) λj=>QDo ah r (aK 342 j) λk=>QDo ah r (iA .add 3 c a) λl=>QDo ah r (mIA 341 b l) λm=>QDo ah r (aK 342 m) λn=>QDo ah r (mIA 341 b h) λo=>
 ∀w,r w ->
 DoX ah (aV 342 o k) w (ay 4 (pk K)) λ_ w=>DoX ah (mIA 341 b g) w (ay 4 (pk K)) λp w=>DoX ah (aV 342 p n) w (ay 4 (pk K)) λ_ w=>bnx .add 3 a (iN 1) w K λq w=>N1 [q] w)) (K (.returned (.tuple #[])) w)
def dN(t0 t1 t2 t3 t4 w)(K:KT):=nz f368 1 [] [(3,[10],λs v j w f=>dB (s 0) (s 1) (s 2) (s 3) (vg v 0) w (f 0) K)] [] (zg [0,1,2,3,4] [t0,t1,t2,t3,t4]) w K
theorem fI:dN t0 t1 t2 t3 t4 w k0->Calls ah 368 #[t0,t1,t2,t3,t4] w k0:=cz [] [(1,[10])] func368
def dI(t0 t3 t4 t18 t24 w)(K:KT):=nz f366 4095 [] [] [] (zg [0,3,4,18,24] [t0,t3,t4,t18,t24]) w K
def dK(t0 t1 t3 t4 t18 t20 t24 w)(K:KT):=nz f366 2047 [] [(86,[],λs v j w f=>dI (s 0) (s 3) (s 4) (s 18) (s 24) w K)] [] (zg [0,1,3,4,18,20,24] [t0,t1,t3,t4,t18,t20,t24]) w K
def dF(t0 t1 t2 t3 t4 t18 t19 t20 t21 t22 w)(a:JT)(K:KT):=nz f366 639 [a] [nh 67 [20,21],(82,[],λs v j w f=>dK (s 0) (s 1) (s 3) (s 4) (s 18) (s 20) (s 24) w K)] [(35,14)] (zg [0,1,2,3,4,18,19,20,21,22] [t0,t1,t2,t3,t4,t18,t19,t20,t21,t22]) w K
def dL(t0 t1 t2 t3 t4 t18 t19 t20 t21 w)(K:KT):=nz f366 127 [] [(67,[20,21],λs v j w f=>dF (s 0) (s 1) (s 2) (s 3) (s 4) (s 18) (s 19) (vg v 0) (vg v 1) (s 22) w (f 0) K)] [] (zg [0,1,2,3,4,18,19,20,21] [t0,t1,t2,t3,t4,t18,t19,t20,t21]) w K
def dH(b c a w)(o:JT)(K:KT):=
 bnx .gtr 3 a c w K λd w=>IfX d (nK w (λn=>PDo ah (iA .sub 3 a (iN 1)) λe=>QDo ah n (iA .sub 3 a (iN 1)) λf=>QDo ah n (mIA 341 b f) λg=>QDo ah n (aK 342 g) λh=>QDo ah n (mIA 341 b a) λi=>QDo ah n (aK 342 i) λj=>QDo ah n (mIA 341 b a) λk=>
 ∀w,n w ->
 DoX ah (aV 342 k h) w (ay 3 (pk K)) λ_ w=>DoX ah (mIA 341 b e) w (ay 3 (pk K)) λl w=>DoX ah (aV 342 l j) w (ay 3 (pk K)) λ_ w=>bnx .sub 3 a (iN 1) w K λm w=>o [m] w)) (K (.returned (.tuple #[])) w)
def dG(t0 t2 t4 t14 t15 w)(a:JT)(K:KT):=nz f366 309 [a] [nh 31 [14,15],(43,[17],λs v j w f=>dH (s 0) (s 14) (vg v 0) w (f 0) K)] [(17,12)] (zg [0,2,4,14,15] [t0,t2,t4,t14,t15]) w K
def dE(b c a w)(p:JT)(K:KT):=
 bnx .sub 3 c (iN 1) w K λd w=>bnx .lss 3 a d w K λe w=>IfX e (nK w (λo=>PDo ah (iA .add 3 a (iN 1)) λf=>QDo ah o (iA .add 3 a (iN 1)) λg=>QDo ah o (mIA 341 b g) λh=>QDo ah o (aK 342 h) λi=>QDo ah o (mIA 341 b a) λj=>QDo ah o (aK 342 j) λk=>QDo ah o (mIA 341 b a) λl=>
 ∀w,o w ->
 DoX ah (aV 342 l i) w (ay 3 (pk K)) λ_ w=>DoX ah (mIA 341 b f) w (ay 3 (pk K)) λm w=>DoX ah (aV 342 m k) w (ay 3 (pk K)) λ_ w=>bnx .add 3 a (iN 1) w K λn w=>p [n] w)) (K (.returned (.tuple #[])) w)
def dJ(t0 t1 t4 t10 t11 w)(N1:JT)(K:KT):=nz f366 154 [N1] [nh 7 [10,11],(19,[13],λs v j w f=>dE (s 0) (s 10) (vg v 0) w (f 0) K)] [(5,11)] (zg [0,1,4,10,11] [t0,t1,t4,t10,t11]) w K
set_option maxHeartbeats 0 in
def dX(t0 t1 t2 t3 t4 w)(K:KT):=nz f366 1 [] [(7,[10,11],λs v j w f=>dJ (s 0) (s 1) (s 4) (vg v 0) (vg v 1) w (f 0) K),(31,[14,15],λs v j w f=>dG (s 0) (s 2) (s 4) (vg v 0) (vg v 1) w (f 0) K),(64,[20,21],λs v j w f=>dL (s 0) (s 1) (s 2) (s 3) (s 4) (s 18) (s 19) (vg v 0) (vg v 1) w K)] [] (zg [0,1,2,3,4] [t0,t1,t2,t3,t4]) w K
theorem fX:dX t0 t1 t2 t3 t4 w k0->Calls ah 366 #[t0,t1,t2,t3,t4] w k0:=cz [(32,[20,21]),(41,[]),(43,[])] [(3,[10,11]),(9,[13]),(15,[14,15]),(21,[17]),(33,[20,21])] func366
end
section
open Eng Go.RowKit
theorem Eng.Zg {K:aq->Prop}{fa ca:Array aq}(hp:bY P f=av)(v:aq)(h:∀w,C w->Ret P f (fa++args++ca) w (λv' w'=>v'=v∧C w'))(k:K v):QDo P C (gC (.func (.func f) fa ca) args) K:=
 ⟨v,λw hw=>by
  have e:(gC (.func (.func f) fa ca) args).run P w=.ok (.enter f (fa++args++ca)) w:=by
   unfold gC;simp only[Deferred.ofValue,invoke,bind,pure,Sem.bind];exact jU hp _ _
  rw[e];exact⟨rfl,Calls.mono (h w hw) λ_ _ ⟨_,he,a,b⟩=>⟨by rw[he,a],b⟩⟩,k⟩
abbrev Pc:=aq×Cn
def pd:Pc:=(undef,.leaf 0 0)
def pcW (ps:List Pc):List Value:=ps.map (·.1)
abbrev pcE (v:aq)(ps:List Pc):Ent:=.urow 342 1 v ps.length (pcW ps)
def pw (x:Pc):Nat:=x.2.wt
def cmpI (a b:Nat):Int:=if a < b then -1 else if b < a then 1 else 0
theorem MS (a b:Nat):ai (cmpI a b < 0)=ai (a < b):=by
 unfold cmpI;split
 ·rename_i h;simp[h]
 ·rename_i h;split<;>simp[h]
structure CmpOk (M:Mem) (cv:aq) (ok:Pc->Prop):Prop where
 ptr:∀x,ok x->x.1.oneCell'=av∧x.1.cells=#[x.1]
 run:∃f fa ca,cv=.func (.func f) fa ca∧bY ah f=av∧∀W x y,M.has W->ok x->ok y->Ret ah f (fa++#[x.1,y.1]++ca) W (λv w'=>v=ad (cmpI (pw x) (pw y))∧Below W.heap.size W w')
theorem PA:eP ah 342=true:=krx
theorem GR:(Tryz.prog.info? 342).map (·.size)=ax 1:=krx
theorem ng {d:α}{xs:List α}(hi:i < xs.length)(a:j < xs.length){x:α}(h:x∈Srt.sw d xs i j):x∈xs:=by
 unfold Srt.sw at h;rcases azT h with h|h
 ·rcases azT h with h|h
  ·exact h
  ·rw[h,atD,atI a];exact atP a
 ·rw[h,atD,atI hi];exact atP hi
theorem wL {ps:List Pc}(hi:i < ps.length):ps.getD i pd∈ps:=by
 rw[atD,atI hi];exact atP hi
theorem Ye {ps:List Pc}(hi:i < ps.length):(pcW ps)[i]?=ax (ps.getD i pd).1:=by
 unfold pcW;rw[axK,atD,atI hi];rfl
theorem sO {g n:Nat}(hi:i < n)(W:ao):(mIA 341 (bR g 0 n cap) (ad (i:Int))).run ah W=.ok (.value (af g i)) W:=by
 have:=dP (P:=ah) (T:=341) (b:=g) (off:=0) (cap:=cap) (n:=n) (k:=.i64) (i:=(i:Int)) (w:=W) avX GR om om
 rwa [atC,atY,atK] at this
theorem A9 {g n:Nat}{ps:List Pc}(h:(pcE (bR g 0 n cap) ps).is W)(hi:i < ps.length):(aK 342 (af g i)).run ah W=.ok (.value (ps.getD i pd).1) W:=by
 obtain⟨k,c,d,e,j⟩:=bU (Sl.urow h) om
 injection e with b l m
 injection b with b
 have f:=congrArg Addr.block b;have a:=congrArg Addr.off b;dsimp only at f a;subst f;subst a;have:=j i _ (Ye hi);rw[atK] at this;exact aB PA this
section
variable {w:ao}{PK PK2 PK3:PKT}{K:VWP}{S:Nat->Prop}{w0:ao}{L T:List Ent}
theorem Vv {ps:List Pc}{x:Pc}(hi:i < ps.length):(pcW ps).take i++[x.1]++(pcW ps).drop (i+[x.1].length)=pcW (ps.set i x):=by
 unfold pcW;rw[ayX,aAX,asU (by simpa using hi)];simp
theorem o_sw {g:Nat}{ps:List Pc}{N:ao->Prop}{ok:Pc->Prop}(f:CmpOk M cv ok)(a:cH S w0 w (pcE (bR g 0 ps.length cap) ps::T))(b:∀x∈ps,ok x)(hi:i < ps.length)(c:j < ps.length)
  (k:∀W,cH S w0 W (pcE (bR g 0 ps.length cap) (Srt.sw pd ps i j)::T)->N W) :
  DoX ah (aV 342 (af g i) (ps.getD j pd).1) w PK λ_ w=>DoX ah (mIA 341 (bR g 0 ps.length cap) (ad (j:Int))) w PK2 λt w=>DoX ah (aV 342 t (ps.getD i pd).1) w PK3 λ_ w=>N w:=by
 obtain⟨l,m⟩:=f.ptr _ (b _ (wL hi));obtain⟨n,o⟩:=f.ptr _ (b _ (wL c));refine Gw (sz:=1) (new:=[(ps.getD j pd).1]) 0 a rfl (by rw[o]) GR (λu hu=>by rw[auB.1 hu];exact n) (by simp;omega) λh a=>?_;have a:cH S w0 h (.urow 342 1 (bR g 0 (ps.set i (ps.getD j pd)).length cap) (ps.set i (ps.getD j pd)).length (pcW (ps.set i (ps.getD j pd)))::T):=by
  rw[<-Vv hi,avS];exact a
 have d:j < (ps.set i (ps.getD j pd)).length:=by rw[avS];exact c
 refine aC (sO c h) |>.mpr ?_;refine Gw (sz:=1) (new:=[(ps.getD i pd).1]) 0 a rfl (by rw[m]) GR (λu hu=>by rw[auB.1 hu];exact l) (by simp;omega) λp a=>?_;refine k p ?_;unfold Srt.sw pcE;rw[<-Vv d];have e:((ps.set i (ps.getD j pd)).set j (ps.getD i pd)).length=(ps.set i (ps.getD j pd)).length:=avS;rw[e];have q:(ps.set i (ps.getD j pd)).length=ps.length:=avS;rw[q] at a ⊢;exact a
theorem aeN {g n a:Nat}{ps:List Pc}{o:aq}{ok:Pc->Prop}(q:CmpOk M o ok)(c:cH S w0 w (pcE (bR g 0 ps.length cap) ps::T))(p:∀x∈ps,ok x)(A:a+n<=ps.length)(B:b+n<=ps.length)(C:ps.length<=1000000000)
  (k:∀W,(∀x∈Srt.swr pd n a b ps,ok x)->cH S w0 W (pcE (bR g 0 ps.length cap) (Srt.swr pd n a b ps)::T)->K (.tuple #[]) W) :
  dZ ah 368 #[bR g 0 ps.length cap,ad (a:Int),ad (b:Int),ad (n:Int),cv] w PK K:=by
 generalize r:Srt.swr pd n a b ps=R at k;refine fY (fI (k0:=wM λv W=>v=.tuple #[]∧(∀x∈R,ok x)∧cH S w0 W (pcE (bR g 0 ps.length cap) R::T)) ?_) (λe W ⟨v,he,s,t,c⟩=>by subst he;subst s;exact k W t c);unfold dN nz;generalize u:ps.length=N at *;refine loop (λvs W=>∃(i:Nat) (d:List Pc),vs=[ad (i:Int)]∧i<=n∧d.length=N∧(∀x∈d,ok x)∧Srt.swr pd (n - i) (a+i) (b+i) d=R∧cH S w0 W (pcE (bR g 0 N cap) d::T)) (λvs _=>n - n0 vs) ⟨0,ps,rfl,om,u,p,r,c⟩ ?_;clear c;rintro vs D ⟨i,d,rfl,hi,y,f,j,c⟩ _;simp only[dB,gd,rs,iN,bnx];by_cases l:(i:Int) < (n:Int)
 ·simp only[l,asX,i_t];obtain⟨m,hm⟩:∃m,n - i=m+1:=⟨n - i - 1,om⟩;rw[hm] at j;unfold Srt.swr at j;refine cQ (λW=>cH S w0 W (pcE (bR g 0 N cap) d::T)) c.drew ?_;refine p_do _ (λ_=>OS) ?_;rw[aA om om,show (b:Int)+(i:Int)=((b+i:Nat):Int) by omega];refine nF ?_;rw[aA om om,show (a:Int)+(i:Int)=((a+i:Nat):Int) by omega];refine nF ?_;rw[aA om om,show (b:Int)+(i:Int)=((b+i:Nat):Int) by omega];refine gr _ (λW=>sO om W) (iL _ (λW h=>A9 (h.at_ 0 rfl) om) ?_);refine nF ?_;rw[aA om om,show (a:Int)+(i:Int)=((a+i:Nat):Int) by omega];refine gr _ (λW=>sO om W) (iL _ (λW h=>A9 (h.at_ 0 rfl) om) ?_);refine gr _ (λW=>sO om W) ?_;intro w2 c;subst y;refine o_sw q c f om om λw3 c=>?_
  try simp only[rs]
  rw[aA om om];refine aS ⟨i+1,Srt.sw pd d (a+i) (b+i),rfl,om,Srt.HD,λx z=>f x (ng om om z),?_,c⟩ (by simp[n0,RowKit.intOf];omega);rw[show n - (i+1)=m by omega];exact j
 ·simp only[l,asW,i_f];rw[show n - i=0 by omega] at j;unfold Srt.swr at j;subst j;exact vB ⟨rfl,f,c⟩
end
section
variable {w:ao}{PK PK2 PK3:PKT}{K:VWP}{S:Nat->Prop}{w0:ao}{L T:List Ent}
theorem apK {g a m N:Nat}{ps:List Pc}{r:aq}{ok:Pc->Prop}(s:CmpOk M r ok)(u:ps.length=N)(c:cH S w0 w (pcE (bR g 0 N cap) ps::T))(t:∀x∈ps,ok x)(D:a < m)(hm:m < b)(E:b<=N)(F:N<=1000000000)
  (k:∀W,(∀x∈Srt.rot pd (b - a) (m - a) (b - m) m ps,ok x)->cH S w0 W (pcE (bR g 0 N cap) (Srt.rot pd (b - a) (m - a) (b - m) m ps)::T)->K (.tuple #[]) W) :
  dZ ah 367 #[bR g 0 N cap,ad (a:Int),ad (m:Int),ad (b:Int),cv] w PK K:=by
 generalize y:Srt.rot pd (b - a) (m - a) (b - m) m ps=R at k;refine fY (gE (k0:=wM λv W=>v=.tuple #[]∧(∀x∈R,ok x)∧cH S w0 W (pcE (bR g 0 N cap) R::T)) ?_) (λe W ⟨v,he,z,d,c⟩=>by subst he;subst z;exact k W d c);unfold eD nz;simp only[rs];rw[aA om om,aA om om,show (m:Int) - (a:Int)=((m - a:Nat):Int) by omega,show (b:Int) - (m:Int)=((b - m:Nat):Int) by omega];refine loop (λvs W=>∃(i j f:Nat) (o:List Pc),vs=[ad (i:Int),ad (j:Int)]∧i+j<=f∧0 < i∧0 < j∧i<=m∧m+j<=N∧o.length=N∧(∀x∈o,ok x)∧Srt.rot pd f i j m o=R∧cH S w0 W (pcE (bR g 0 N cap) o::T)) (λvs _=>n0 vs+n1 vs) ⟨m - a,b - m,b - a,ps,rfl,om,om,om,om,om,u,t,y,c⟩ ?_;clear c;rintro vs G ⟨i,j,f,o,rfl,H,hi,I,A,B,C,l,h,c⟩ _;simp only[dW,gd,rs,nz];obtain⟨f,rfl⟩:∃q,f=q+1:=⟨f - 1,om⟩;unfold Srt.rot at h;subst C;by_cases he:i=j
 ·subst he;simp only[show ai ((i:Int)≠(i:Int))=au from asZ sm,i_f];rw[asU rfl] at h;rw[aA om om,show (m:Int) - (i:Int)=((m - i:Nat):Int) by omega];refine aeN s c l om om om λw2 d c=>?_;rw[h] at d c;exact vB ⟨rfl,d,c⟩
 ·rw[asT he] at h;simp only[show ai ((i:Int)≠(j:Int))=av from atA om,i_t];by_cases p:j < i
  ·rw[asU p] at h;simp only[show ai ((j:Int) < (i:Int))=av from atA om,i_t];rw[aA om om,show (m:Int) - (i:Int)=((m - i:Nat):Int) by omega];refine aeN s c l om om om λw2 d c=>?_
   try simp only[rs]
   rw[aA om om,show (i:Int) - (j:Int)=((i - j:Nat):Int) by omega];exact aS ⟨i - j,j,f,_,rfl,om,om,om,om,om,Srt.Hk _ _ _ _,d,h,c⟩ (by simp[n0,n1,RowKit.intOf];omega)
  ·rw[asT p] at h;simp only[show ai ((j:Int) < (i:Int))=au from asZ om,i_f];rw[aA (n:=(m:Int) - (i:Int)) om om,aA (n:=(m:Int)+(j:Int)) om om,aA (n:=(m:Int)+(j:Int) - (i:Int)) om om,show (m:Int) - (i:Int)=((m - i:Nat):Int) by omega,show (m:Int)+(j:Int) - (i:Int)=((m+j - i:Nat):Int) by omega];refine aeN s c l om om om λw2 d c=>?_
   try simp only[rs]
   rw[aA om om,show (j:Int) - (i:Int)=((j - i:Nat):Int) by omega];exact aS ⟨i,j - i,f,_,rfl,om,om,om,om,om,Srt.Hk _ _ _ _,d,h,c⟩ (by simp[n0,n1,RowKit.intOf];omega)
theorem aoQ {g a N:Nat}{ps:List Pc}{ok:Pc->Prop}(A:CmpOk M cv ok)(hm:T[jm]?=ax (.mem M))(C:ps.length=N)(d:cH S w0 w (pcE (bR g 0 N cap) ps::T))(s:∀x∈ps,ok x)(U:b<=N)(V:a<=N)(X:N<=1000000000)
  (k:∀W,(∀x∈Srt.ins pd pw ps a b,ok x)->cH S w0 W (pcE (bR g 0 N cap) (Srt.ins pd pw ps a b)::T)->K (.tuple #[]) W) :
  dZ ah 365 #[bR g 0 N cap,ad (a:Int),ad (b:Int),cv] w PK K:=by
 unfold Srt.ins at k;generalize D:Srt.Nk pd pw a (b - (a+1)) (a+1) ps=R at k;refine fY (eY (k0:=wM λv W=>v=.tuple #[]∧(∀x∈R,ok x)∧cH S w0 W (pcE (bR g 0 N cap) R::T)) ?_) (λe W ⟨v,he,E,F,d⟩=>by subst he;subst E;exact k W F d);unfold cP nz;obtain⟨Y,G,H,t,u,y⟩:=A.run;have z:∀{W:ao} {e:Ent},cH S w0 W (e::T)->M.has W:=λd=>d.hasM (jm+1) (by rw[auT];exact hm);simp only[rs];rw[aA om om];refine loop (λvs W=>∃(i:Nat) (c:List Pc),vs=[ad (i:Int)]∧a+1<=i∧i<=max b (a+1)∧c.length=N∧(∀x∈c,ok x)∧Srt.Nk pd pw a (b - i) i c=R∧cH S w0 W (pcE (bR g 0 N cap) c::T)) (λvs _=>b - n0 vs) ⟨a+1,ps,rfl,om,om,C,s,D,d⟩ ?_;clear d;rintro vs I ⟨i,c,rfl,hi,J,n,f,l,d⟩ _;simp only[cL,gd,rs,nz];by_cases o:(i:Int) < (b:Int)
 ·simp only[o,asX,i_t];obtain⟨q,L⟩:∃q,b - i=q+1:=⟨b - i - 1,om⟩;rw[L] at l;unfold Srt.Nk at l;refine loop (λvs W=>∃(j:Nat) (c:List Pc),vs=[ad (j:Int)]∧a<=j∧j<=i∧c.length=N∧(∀x∈c,ok x)∧Srt.Nk pd pw a q (i+1) (Srt.LN pd pw a j c)=R∧cH S w0 W (pcE (bR g 0 N cap) c::T)) (λvs _=>n0 vs) ⟨i,c,rfl,om,om,n,f,l,d⟩ ?_;clear d l f n;rintro vs w2 ⟨j,c,rfl,O,P,n,f,l,d⟩ _;simp only[cN,gd,iN,bnx];have stop:∀W,Srt.LN pd pw a j c=c->cH S w0 W (pcE (bR g 0 N cap) c::T)->IJ (λvs W=>∃(i:Nat) (c:List Pc),vs=[ad (i:Int)]∧a+1<=i∧i<=max b (a+1)∧c.length=N∧(∀x∈c,ok x)∧Srt.Nk pd pw a (b - i) i c=R∧cH S w0 W (pcE (bR g 0 N cap) c::T)) (λvs _=>b - n0 vs) [ad (i:Int)] I [ad (IntKind.i64.wrap ((i:Int)+1))] W:=by
   intro W he d;rw[aA om om];rw[he] at l;refine aS ⟨i+1,c,rfl,om,om,n,f,?_,d⟩ (by simp[n0,RowKit.intOf];omega);rw[show b - (i+1)=q by omega];exact l
  refine cQ (λW=>cH S w0 W (pcE (bR g 0 N cap) c::T)) d.drew ?_;refine ahB ?_;by_cases B:a < j
  ·obtain⟨j,rfl⟩:∃p,j=p+1:=⟨j - 1,om⟩;rw[atA (show (a:Int) < ((j+1:Nat):Int) by omega)];simp only[gq];refine gr _ (λW=>sO om W) (iL _ (λW h=>A9 (h.at_ 0 rfl) om) ?_);refine gr _ (λ_=>Ck) ?_;rw[aA om om,show ((j+1:Nat):Int) - 1=(j:Int) by omega];refine gr _ (λW=>sO om W) (iL _ (λW h=>A9 (h.at_ 0 rfl) om) ?_);subst t;refine Zg u (ad (cmpI (pw (c.getD (j+1) pd)) (pw (c.getD j pd)))) (λW h=>(y W _ _ (z h) (f _ (wL om)) (f _ (wL om))).mono λv w' r=>⟨r.1,h.grow r.2⟩) ?_;refine Iq (LO ?_);rw[MS];intro w3 d;unfold Srt.LN at l stop;by_cases m:pw (c.getD (j+1) pd) < pw (c.getD j pd)
   ·rw[asU ⟨B,atA m⟩] at l;simp only[m,asX,i_t];refine cQ (λW=>cH S w0 W (pcE (bR g 0 N cap) c::T)) d.drew ?_;refine p_do _ (λ_=>Ck) ?_;rw[aA om om,show ((j+1:Nat):Int) - 1=(j:Int) by omega];refine gr _ (λ_=>Ck) ?_;rw[aA om om,show ((j+1:Nat):Int) - 1=(j:Int) by omega];refine gr _ (λW=>sO om W) (iL _ (λW h=>A9 (h.at_ 0 rfl) om) ?_);refine gr _ (λW=>sO om W) (iL _ (λW h=>A9 (h.at_ 0 rfl) om) ?_);refine gr _ (λW=>sO om W) ?_;intro Z d;subst n;refine o_sw A d f om om λw5 d=>?_
    try simp only[rs]
    rw[aA om om,show ((j+1:Nat):Int) - 1=(j:Int) by omega];exact aS ⟨j,_,rfl,om,om,Srt.HD,λx Q=>f x (ng om om Q),l,d⟩ (by simp[n0,RowKit.intOf])
   ·simp only[m,asW,i_f,rs];exact stop w3 (asT λh=>m (atQ h.2)) d
  ·rw[asZ (show ¬(a:Int) < (j:Int) by omega)];simp only[gq];refine Dr ?_;intro w3 d;simp only[i_f,rs];refine stop w3 ?_ d;cases j with
  |zero=>rfl
  |succ j=>
    unfold Srt.LN;rw[asT (λh=>B h.1)]
 ·simp only[o,asW,i_f];rw[show b - i=0 by omega] at l;unfold Srt.Nk at l;subst l;exact vB ⟨rfl,f,d⟩
end
theorem pr {wt:α->Nat}{x y:α}(h:wt x < wt y):Srt.lt wt x y=true:=atA h
theorem pz {wt:α->Nat}{x y:α}(h:¬wt x < wt y):¬Srt.lt wt x y=true:=λk=>h (atQ k)
section
variable {w:ao}{PK PK2 PK3:PKT}{K:VWP}{S:Nat->Prop}{w0:ao}{L T:List Ent}
theorem aeE {b:Bool}:(mUn .not (.bool b)).run P W=.ok (.value (.bool (!b))) W:=bQ (by simp[Op.unary])
theorem SZ {n:Nat}(h:n<=4000000000):DoX ah (fZ 3 84 (ad (n:Int))) w PK (λt w=>DoX ah (iA .shr 84 t (.int .u64 1)) w PK2 λt w=>DoX ah (fZ 84 3 t) w PK3 K)=K (ad ((n / 2:Nat):Int)) w:=by
 rw[Vw (show (Tryz.prog.underlying 3).isSome=av by kernel_rfl) azH,EB om,shr1 om om,
  Vw (show (Tryz.prog.underlying 84).isSome=av by kernel_rfl) auQ,aA om om]
 rfl
theorem Z8 {g cap N jm:Nat}{cv:aq}{ok:Pc->Prop}{M:Mem}(hc:CmpOk M cv ok)(hm:T[jm]?=ax (.mem M))(hl:N<=1000000000):∀(f a m b:Nat) {w:ao} {PK:PKT} {K:VWP} {ps:List Pc},b - a<=f->a < m->m < b->b<=N->ps.length=N->cH S w0 w (pcE (bR g 0 N cap) ps::T)->(∀x∈ps,ok x) ->
  (∀W,(∀x∈Srt.sym pd pw f a m b ps,ok x)->cH S w0 W (pcE (bR g 0 N cap) (Srt.sym pd pw f a m b ps)::T)->K (.tuple #[]) W) ->
  dZ ah 366 #[bR g 0 N cap,ad (a:Int),ad (m:Int),ad (b:Int),cv] w PK K
|0,a,m,b,_,_,_,_,hf,a8,b0,_,_,_,_,_=>by omega
|f+1,a,m,b,w,PK,K,ps,hf,a8,b0,b1,V,l,B,k=>by
  generalize u:Srt.sym pd pw (f+1) a m b ps=R at k;refine fY (fX (k0:=wM λv W=>v=.tuple #[]∧(∀x∈R,ok x)∧cH S w0 W (pcE (bR g 0 N cap) R::T)) ?_) (λe W ⟨v,he,hv,L,l⟩=>by subst he;subst hv;exact k W L l);unfold dX nz;obtain⟨cf,c4,c5,b2,b3,b4⟩:=hc.run;have b5:∀{W:ao} {e:Ent},cH S w0 W (e::T)->M.has W:=λl=>l.hasM (jm+1) (by rw[auT];exact hm);have cmp:∀{C:aq->Prop} {y:List Pc} {i j:Nat},y.length=N->(∀x∈y,ok x)->i < N->j < N->C (ad (cmpI (pw (y.getD i pd)) (pw (y.getD j pd))))->QDo ah (λW=>cH S w0 W (pcE (bR g 0 N cap) y::T)) (gC cv #[(y.getD i pd).1,(y.getD j pd).1]) C:=by
   intro C y i j hz A hi hj hC;subst b2;exact Zg b3 _ (λW h=>(b4 W _ _ (b5 h) (A _ (wL om)) (A _ (wL om))).mono λv w' r=>⟨r.1,h.grow r.2⟩) hC
  unfold Srt.sym at u;simp only[rs];rw[aA om om,show (m:Int) - (a:Int)=((m - a:Nat):Int) by omega];by_cases L:m - a=1
  ·rw[asU L] at u;simp only[show ai (((m - a:Nat):Int)=1)=av from atA om,i_t];generalize Y:Srt.bs (λh=>!Srt.lt pw (ps.getD h pd) (ps.getD a pd)) (b - m) m b=s at u;refine loop (λvs W=>∃(i j f:Nat),vs=[ad (i:Int),ad (j:Int)]∧m<=i∧i<=j∧j<=b∧j - i<=f∧Srt.bs (λh=>!Srt.lt pw (ps.getD h pd) (ps.getD a pd)) f i j=s∧cH S w0 W (pcE (bR g 0 N cap) ps::T)) (λvs _=>n1 vs - n0 vs) ⟨m,b,b - m,rfl,om,om,om,om,Y,l⟩ ?_;clear l Y;rintro vs w1 ⟨i,j,f',rfl,hi,a1,hj,a6,z,l⟩ _;simp only[dJ,gd,rs,nz];by_cases D:(i:Int) < (j:Int)
   ·simp only[D,asX,i_t];obtain⟨f',rfl⟩:∃q,f'=q+1:=⟨f' - 1,om⟩;unfold Srt.bs at z;rw[asU om] at z;rw[aA om om,show (i:Int)+(j:Int)=((i+j:Nat):Int) by omega,SZ om];refine cQ (λW=>cH S w0 W (pcE (bR g 0 N cap) ps::T)) l.drew ?_;refine gr _ (λW=>sO om W) (iL _ (λW h=>A9 (h.at_ 0 rfl) om) ?_);refine gr _ (λW=>sO om W) (iL _ (λW h=>A9 (h.at_ 0 rfl) om) ?_);refine cmp V B om om (Iq ?_);rw[MS];intro w2 l;by_cases o:pw (ps.getD ((i+j) / 2) pd) < pw (ps.getD a pd)
    ·rw[asT (by have e:Srt.lt pw (ps.getD ((i+j) / 2) pd) (ps.getD a pd)=true:=atA o;rw[e];decide)] at z;simp only[o,asX,i_t,rs];rw[aA om om,show (((i+j) / 2:Nat):Int)+1=(((i+j) / 2+1:Nat):Int) by omega];exact aS ⟨(i+j) / 2+1,j,f',rfl,om,om,om,om,z,l⟩ (by simp[n0,n1,RowKit.intOf];omega)
    ·rw[asU (by have e:Srt.lt pw (ps.getD ((i+j) / 2) pd) (ps.getD a pd)=false:=asZ o;rw[e];rfl)] at z;simp only[o,asW,i_f];exact aS ⟨i,(i+j) / 2,f',rfl,om,om,om,om,z,l⟩ (by simp[n0,n1,RowKit.intOf];omega)
   ·simp only[D,asW,i_f];have P:s=i:=by
     rw[<-z];cases f' with
    |zero=>rfl
    |succ q=>unfold Srt.bs;rw[asT om]
    subst P;refine loop (λvs W=>∃(q:Nat) (y:List Pc),vs=[ad (q:Int)]∧a<=q∧(q<=s - 1∨q=a)∧y.length=N∧(∀x∈y,ok x)∧Srt.up pd (s - 1 - q) q y=R∧cH S w0 W (pcE (bR g 0 N cap) y::T)) (λvs _=>s - n0 vs) ⟨a,ps,rfl,om,.inr rfl,V,B,u,l⟩ ?_;clear l;rintro vs w2 ⟨q,y,rfl,hq,c6,hz,A,t,l⟩ _;simp only[dE,gd,rs,iN,bnx];rw[aA (n:=(s:Int) - 1) om om];by_cases E:(q:Int) < (s:Int) - 1
    ·simp only[E,asX,i_t];obtain⟨r,hr⟩:∃r,s - 1 - q=r+1:=⟨s - 1 - q - 1,om⟩;rw[hr] at t;unfold Srt.up at t;refine cQ (λW=>cH S w0 W (pcE (bR g 0 N cap) y::T)) l.drew ?_;refine p_do _ (λ_=>OS) ?_;rw[aA om om,show (q:Int)+1=((q+1:Nat):Int) by omega];refine nF ?_;rw[aA om om,show (q:Int)+1=((q+1:Nat):Int) by omega];refine gr _ (λW=>sO om W) (iL _ (λW h=>A9 (h.at_ 0 rfl) om) ?_);refine gr _ (λW=>sO om W) (iL _ (λW h=>A9 (h.at_ 0 rfl) om) ?_);refine gr _ (λW=>sO om W) ?_;intro w3 l;subst hz;refine o_sw hc l A om om λw4 l=>?_
     try simp only[rs]
     try rw[aA (n:=(q:Int)+1) om om,show (q:Int)+1=((q+1:Nat):Int) by omega]
     refine aS ⟨q+1,_,rfl,om,.inl om,Srt.HD,λx hx=>A x (ng om om hx),?_,l⟩ (by simp[n0,RowKit.intOf];omega);rw[show s - 1 - (q+1)=r by omega];exact t
    ·simp only[E,asW,i_f];rw[show s - 1 - q=0 by omega] at t;unfold Srt.up at t;subst t;exact vB ⟨rfl,A,l⟩
  rw[asT L] at u;simp only[show ai (((m - a:Nat):Int)=1)=au from asZ om,i_f];rw[aA om om,show (b:Int) - (m:Int)=((b - m:Nat):Int) by omega];by_cases h2:b - m=1
  ·rw[asU h2] at u;simp only[show ai (((b - m:Nat):Int)=1)=av from atA om,i_t];generalize Y:Srt.bs (λh=>Srt.lt pw (ps.getD m pd) (ps.getD h pd)) (m - a) a m=s at u;refine loop (λvs W=>∃(i j f:Nat),vs=[ad (i:Int),ad (j:Int)]∧a<=i∧i<=j∧j<=m∧j - i<=f∧Srt.bs (λh=>Srt.lt pw (ps.getD m pd) (ps.getD h pd)) f i j=s∧cH S w0 W (pcE (bR g 0 N cap) ps::T)) (λvs _=>n1 vs - n0 vs) ⟨a,m,m - a,rfl,om,om,om,om,Y,l⟩ ?_;clear l Y;rintro vs w1 ⟨i,j,f',rfl,hi,a1,hj,a6,z,l⟩ _;simp only[dG,gd,rs,nz];by_cases D:(i:Int) < (j:Int)
   ·simp only[D,asX,i_t];obtain⟨f',rfl⟩:∃q,f'=q+1:=⟨f' - 1,om⟩;unfold Srt.bs at z;rw[asU om] at z;rw[aA om om,show (i:Int)+(j:Int)=((i+j:Nat):Int) by omega,SZ om];refine cQ (λW=>cH S w0 W (pcE (bR g 0 N cap) ps::T)) l.drew ?_;refine gr _ (λW=>sO om W) (iL _ (λW h=>A9 (h.at_ 0 rfl) om) ?_);refine gr _ (λW=>sO om W) (iL _ (λW h=>A9 (h.at_ 0 rfl) om) ?_);refine cmp V B om om (Iq ?_);rw[MS];refine gr _ (λW=>aeE) ?_;intro w2 l;by_cases o:pw (ps.getD m pd) < pw (ps.getD ((i+j) / 2) pd)
    ·rw[asU (pr o)] at z;simp only[o,asX,auO,i_f];exact aS ⟨i,(i+j) / 2,f',rfl,om,om,om,om,z,l⟩ (by simp[n0,n1,RowKit.intOf];omega)
    ·rw[asT (pz o)] at z;simp only[o,asW,auN,i_t,rs];rw[aA om om,show (((i+j) / 2:Nat):Int)+1=(((i+j) / 2+1:Nat):Int) by omega];exact aS ⟨(i+j) / 2+1,j,f',rfl,om,om,om,om,z,l⟩ (by simp[n0,n1,RowKit.intOf];omega)
   ·simp only[D,asW,i_f];have P:s=i:=by
     rw[<-z];cases f' with
    |zero=>rfl
    |succ q=>unfold Srt.bs;rw[asT om]
    subst P;refine loop (λvs W=>∃(q:Nat) (y:List Pc),vs=[ad (q:Int)]∧s<=q∧q<=m∧y.length=N∧(∀x∈y,ok x)∧Srt.down pd (q - s) q y=R∧cH S w0 W (pcE (bR g 0 N cap) y::T)) (λvs _=>n0 vs) ⟨m,ps,rfl,om,om,V,B,u,l⟩ ?_;clear l;rintro vs w2 ⟨q,y,rfl,hq,c7,hz,A,t,l⟩ _;simp only[dH,gd,rs,iN,bnx];by_cases E:(s:Int) < (q:Int)
    ·simp only[E,asX,i_t];obtain⟨q,rfl⟩:∃p,q=p+1:=⟨q - 1,om⟩;obtain⟨r,hr⟩:∃r,q+1 - s=r+1:=⟨q - s,om⟩;rw[hr] at t;unfold Srt.down at t;rw[axQ] at t;refine cQ (λW=>cH S w0 W (pcE (bR g 0 N cap) y::T)) l.drew ?_;refine p_do _ (λ_=>Ck) ?_;rw[aA om om,show ((q+1:Nat):Int) - 1=(q:Int) by omega];refine gr _ (λ_=>Ck) ?_;rw[aA om om,show ((q+1:Nat):Int) - 1=(q:Int) by omega];refine gr _ (λW=>sO om W) (iL _ (λW h=>A9 (h.at_ 0 rfl) om) ?_);refine gr _ (λW=>sO om W) (iL _ (λW h=>A9 (h.at_ 0 rfl) om) ?_);refine gr _ (λW=>sO om W) ?_;intro w3 l;subst hz;refine o_sw hc l A om om λw4 l=>?_
     try simp only[rs]
     try rw[aA (n:=((q+1:Nat):Int) - 1) om om,show ((q+1:Nat):Int) - 1=(q:Int) by omega]
     refine aS ⟨q,_,rfl,om,om,Srt.HD,λx hx=>A x (ng om om hx),?_,l⟩ (by simp[n0,RowKit.intOf]);rw[show q - s=r by omega];exact t
    ·simp only[E,asW,i_f];rw[show q - s=0 by omega] at t;unfold Srt.down at t;subst t;exact vB ⟨rfl,A,l⟩
  rw[asT h2] at u;simp only[show ai (((b - m:Nat):Int)=1)=au from asZ om,i_f];rw[aA (n:=(a:Int)+(b:Int)) om om,show (a:Int)+(b:Int)=((a+b:Nat):Int) by omega,SZ om];dsimp only at u;unfold Srt.Gs at u;generalize b9:(a+b) / 2=d at u;simp only[rs];rw[aA (n:=(d:Int)+(m:Int)) om om,show (d:Int)+(m:Int)=((d+m:Nat):Int) by omega];generalize X:(if d < m then d+m - b else a)=lo at u;generalize Z:(if d < m then d else m)=hi at u;have c0:a<=lo∧d+m - b<=lo∧(lo=a∨lo=d+m - b):=by
   rw[<-X];split<;>omega
  have c3:hi<=m∧hi<=d∧lo<=hi∧(hi=m∨hi=d):=by
   rw[<-Z,<-X];split<;>omega
  refine join λJ hJ=>?_;have fin:∀W,cH S w0 W (pcE (bR g 0 N cap) ps::T)->J [ad (lo:Int),ad (hi:Int)] W:=by
   intro W l;refine hJ _ _ λ_=>?_;simp only[dL,gd,rs,nz];rw[aA (n:=((d+m:Nat):Int) - 1) om om,show ((d+m:Nat):Int) - 1=((d+m - 1:Nat):Int) by omega];generalize Y:Srt.bs (λc=>Srt.lt pw (ps.getD (d+m - 1 - c) pd) (ps.getD c pd)) (b - a) lo hi=s at u;refine loop (λvs W=>∃(i j f:Nat),vs=[ad (i:Int),ad (j:Int)]∧lo<=i∧i<=j∧j<=hi∧j - i<=f∧Srt.bs (λc=>Srt.lt pw (ps.getD (d+m - 1 - c) pd) (ps.getD c pd)) f i j=s∧cH S w0 W (pcE (bR g 0 N cap) ps::T)) (λvs _=>n1 vs - n0 vs) ⟨lo,hi,b - a,rfl,om,om,om,om,Y,l⟩ ?_;clear l Y;rintro vs w1 ⟨i,j,f',rfl,c8,a1,hj,a6,z,l⟩ _;simp only[dF,gd,rs,nz];by_cases D:(i:Int) < (j:Int)
   ·simp only[D,asX,i_t];obtain⟨f',rfl⟩:∃q,f'=q+1:=⟨f' - 1,om⟩;unfold Srt.bs at z;rw[asU om] at z;rw[aA (n:=(i:Int)+(j:Int)) om om,show (i:Int)+(j:Int)=((i+j:Nat):Int) by omega,SZ om];refine cQ (λW=>cH S w0 W (pcE (bR g 0 N cap) ps::T)) l.drew ?_;refine gr _ (λ_=>Ck) ?_;rw[aA (n:=((d+m - 1:Nat):Int) - (((i+j) / 2:Nat):Int)) om om,show ((d+m - 1:Nat):Int) - (((i+j) / 2:Nat):Int)=((d+m - 1 - (i+j) / 2:Nat):Int) by omega];refine gr _ (λW=>sO om W) (iL _ (λW h=>A9 (h.at_ 0 rfl) om) ?_);refine gr _ (λW=>sO om W) (iL _ (λW h=>A9 (h.at_ 0 rfl) om) ?_);refine cmp V B om om (Iq ?_);rw[MS];refine gr _ (λW=>aeE) ?_;intro w2 l;by_cases o:pw (ps.getD (d+m - 1 - (i+j) / 2) pd) < pw (ps.getD ((i+j) / 2) pd)
    ·rw[asU (pr o)] at z;simp only[o,asX,auO,i_f];exact aS ⟨i,(i+j) / 2,f',rfl,om,om,om,om,z,l⟩ (by simp[n0,n1,RowKit.intOf];omega)
    ·rw[asT (pz o)] at z;simp only[o,asW,auN,i_t,rs];rw[aA om om,show (((i+j) / 2:Nat):Int)+1=(((i+j) / 2+1:Nat):Int) by omega];exact aS ⟨(i+j) / 2+1,j,f',rfl,om,om,om,om,z,l⟩ (by simp[n0,n1,RowKit.intOf];omega)
   ·simp only[D,asW,i_f];have P:s=i:=by
     rw[<-z];cases f' with
    |zero=>rfl
    |succ q=>unfold Srt.bs;rw[asT om]
    subst P;rw[aA (n:=((d+m:Nat):Int) - (s:Int)) om om,show ((d+m:Nat):Int) - (s:Int)=((d+m - s:Nat):Int) by omega];generalize he:d+m - s=e at u;have a7:∀(y x1:List Pc) (W1:ao),(if s < m∧m < e then Srt.rot pd (e - s) (m - s) (e - m) m ps else ps)=x1->True:=λ_ _ _ _=>trivial;generalize H:(if s < m∧m < e then Srt.rot pd (e - s) (m - s) (e - m) m ps else ps)=x1 at u;refine join λJ2 b6=>?_;have fin2:∀W,x1.length=N->(∀x∈x1,ok x)->cH S w0 W (pcE (bR g 0 N cap) x1::T)->J2 [] W:=by
     intro W O F l;refine b6 _ _ λ_=>?_;simp only[dK,gd,rs,nz];generalize I:(if a < s∧s < d then Srt.sym pd pw f a s d x1 else x1)=x2 at u;refine join λJ3 b7=>?_;have fin3:∀W,x2.length=N->(∀x∈x2,ok x)->cH S w0 W (pcE (bR g 0 N cap) x2::T)->J3 [] W:=by
      intro W b8 G l;refine b7 _ _ λ_=>?_;simp only[dI,gd,rs,nz];by_cases Q:d < e
      ·simp only[show ai ((d:Int) < (e:Int))=av from atA om,rs];by_cases U:e < b
       ·simp only[show ai ((e:Int) < (b:Int))=av from atA om,i_t,rs];rw[asU ⟨Q,U⟩] at u;refine Z8 hc hm hl f d e b om Q U b1 b8 l G λW L l=>?_;rw[u] at L l;exact vB ⟨rfl,L,l⟩
       ·simp only[show ai ((e:Int) < (b:Int))=au from asZ om,i_f,rs];rw[asT (λh=>U h.2)] at u;rw[u] at G l;exact vB ⟨rfl,G,l⟩
      ·simp only[show ai ((d:Int) < (e:Int))=au from asZ om,i_f,rs];rw[asT (λh=>Q h.1)] at u;rw[u] at G l;exact vB ⟨rfl,G,l⟩
     by_cases Q:a < s
     ·simp only[show ai ((a:Int) < (s:Int))=av from atA om,rs];by_cases U:s < d
      ·simp only[show ai ((s:Int) < (d:Int))=av from atA om,i_t,rs];rw[asU ⟨Q,U⟩] at I;refine Z8 hc hm hl f a s d om Q U om O l F λW L l=>?_;rw[I] at L l;exact fin3 W (by rw[<-I,Srt.KJ];exact O) L l
      ·simp only[show ai ((s:Int) < (d:Int))=au from asZ om,i_f,rs];rw[asT (λh=>U h.2)] at I;rw[I] at O F l;exact fin3 W O F l
     ·simp only[show ai ((a:Int) < (s:Int))=au from asZ om,i_f,rs];rw[asT (λh=>Q h.1)] at I;rw[I] at O F l;exact fin3 W O F l
    by_cases Q:s < m
    ·simp only[show ai ((s:Int) < (m:Int))=av from atA om,rs];by_cases U:m < e
     ·simp only[show ai ((m:Int) < (e:Int))=av from atA om,i_t,rs];rw[asU ⟨Q,U⟩] at H;refine apK hc V l B Q U om hl λW L l=>?_;rw[H] at L l;exact fin2 W (by rw[<-H,Srt.Ny];exact V) L l
     ·simp only[show ai ((m:Int) < (e:Int))=au from asZ om,i_f,rs];rw[asT (λh=>U h.2)] at H;subst H;exact fin2 w1 V B l
    ·simp only[show ai ((s:Int) < (m:Int))=au from asZ om,i_f,rs];rw[asT (λh=>Q h.1)] at H;subst H;exact fin2 w1 V B l
  by_cases c:d < m
  ·simp only[show ai ((d:Int) < (m:Int))=av from atA om,i_t,rs];rw[asU c] at X Z;rw[aA (n:=((d+m:Nat):Int) - (b:Int)) om om,show ((d+m:Nat):Int) - (b:Int)=(lo:Int) by omega,show (d:Int)=(hi:Int) by omega];exact fin w l
  ·simp only[show ai ((d:Int) < (m:Int))=au from asZ om,i_f,rs];rw[asT c] at X Z;rw[show (a:Int)=(lo:Int) by omega,show (m:Int)=(hi:Int) by omega];exact fin w l
end
section
variable {w:ao}{PK PK2 PK3:PKT}{K:VWP}{S:Nat->Prop}{w0:ao}{L T:List Ent}
theorem Z6 {g N:Nat}{ok:Pc->Prop}{ps:List Pc}(t:CmpOk M cv ok)(hm:T[jm]?=ax (.mem M))(V:N<=100000000)(B:ps.length=N)(b:cH S w0 w (pcE (bR g 0 N cap) ps::T))(u:∀x∈ps,ok x)
  (k:∀W,(∀x∈Srt.MI pd pw ps,ok x)->cH S w0 W (pcE (bR g 0 N cap) (Srt.MI pd pw ps)::T)->K (.tuple #[]) W) :
  dZ ah 361 #[bR g 0 N cap,ad (N:Int),cv] w PK K:=by
 unfold Srt.MI at k;rw[B] at k;generalize y:Srt.rounds pd pw (N+1) 20 (Srt.blk pd pw 20 (N+1) 0 ps)=R at k;refine fY (gH (k0:=wM λv W=>v=.tuple #[]∧(∀x∈R,ok x)∧cH S w0 W (pcE (bR g 0 N cap) R::T)) ?_) (λe W ⟨v,he,G,m,b⟩=>by subst he;subst G;exact k W m b);unfold eC nz;generalize C:Srt.blk pd pw 20 (N+1) 0 ps=Z at y;refine loop (λvs W=>∃(a f:Nat) (d:List Pc),vs=[ad (a:Int),ad ((a+20:Nat):Int)]∧a<=N∧N < a+f∧d.length=N∧(∀x∈d,ok x)∧Srt.blk pd pw 20 f a d=Z∧cH S w0 W (pcE (bR g 0 N cap) d::T)) (λvs _=>N+20 - n0 vs) ⟨0,N+1,ps,rfl,om,om,B,u,C,b⟩ ?_;clear b C;rintro vs X ⟨a,f,d,rfl,D,hf,j,h,l,b⟩ _;simp only[dV,gd,rs,nz];obtain⟨f,rfl⟩:∃q,f=q+1:=⟨f - 1,om⟩;unfold Srt.blk at l;rw[j] at l;by_cases r:((a+20:Nat):Int)<=(N:Int)
 ·simp only[r,asX,i_t];rw[asU om] at l;refine aoQ t hm j b h om D om λw2 m b=>?_
  try simp only[rs]
  rw[aA om om];exact aS ⟨a+20,f,_,by congr 2,om,om,by rw[Srt.Wm];exact j,m,l,b⟩ (by simp[n0,RowKit.intOf];omega)
 ·simp only[r,asW,i_f];rw[asT om] at l;refine aoQ t hm j b h om D om λw2 m b=>?_;rw[l] at m b;have s:Z.length=N:=by rw[<-l,Srt.Wm];exact j
  refine loop (λvs W=>∃(n f:Nat) (d:List Pc),vs=[ad (n:Int)]∧1<=n∧N < f+n∧d.length=N∧(∀x∈d,ok x)∧Srt.rounds pd pw f n d=R∧cH S w0 W (pcE (bR g 0 N cap) d::T)) (λvs _=>N - n0 vs) ⟨20,N+1,Z,rfl,om,om,s,m,y,b⟩ ?_;clear b y l m s;rintro vs w3 ⟨n,f2,d,rfl,hn,H,j,h,l,b⟩ _;simp only[dR,gd,rs,nz];by_cases o:(n:Int) < (N:Int)
  ·simp only[o,asX,i_t];obtain⟨f2,rfl⟩:∃q,f2=q+1:=⟨f2 - 1,om⟩;unfold Srt.rounds at l;rw[j,asU om] at l;rw[aA om om];generalize E:Srt.mrg pd pw n (N+1) 0 d=Y at l;have back:∀W,Y.length=N->(∀x∈Y,ok x)->cH S w0 W (pcE (bR g 0 N cap) Y::T)->IJ (λvs W=>∃(n f:Nat) (d:List Pc),vs=[ad (n:Int)]∧1<=n∧N < f+n∧d.length=N∧(∀x∈d,ok x)∧Srt.rounds pd pw f n d=R∧cH S w0 W (pcE (bR g 0 N cap) d::T)) (λvs _=>N - n0 vs) [ad (n:Int)] w3 [ad (IntKind.i64.wrap ((n:Int)*2))] W:=by
    intro W I z b;rw[aA om om,show (n:Int)*2=((2*n:Nat):Int) by omega];exact aS ⟨2*n,f2,Y,rfl,om,om,I,z,l,b⟩ (by simp[n0,RowKit.intOf];omega)
   refine loop (λvs W=>∃(a f:Nat) (d:List Pc),vs=[ad (a:Int),ad ((a+2*n:Nat):Int)]∧a<=N∧N < a+f∧d.length=N∧(∀x∈d,ok x)∧Srt.mrg pd pw n f a d=Y∧cH S w0 W (pcE (bR g 0 N cap) d::T)) (λvs _=>N+2*n - n0 vs) ⟨0,N+1,d,by congr 3;omega,om,om,j,h,E,b⟩ ?_;clear b E h j;rintro vs L ⟨a2,f3,d,rfl,O,P,j,h,i,b⟩ _;simp only[dS,gd,rs,nz];obtain⟨f3,rfl⟩:∃q,f3=q+1:=⟨f3 - 1,om⟩;unfold Srt.mrg at i;rw[j] at i;rw[aA (n:=(a2:Int)+(n:Int)) om om,show (a2:Int)+(n:Int)=((a2+n:Nat):Int) by omega];by_cases p:((a2+2*n:Nat):Int)<=(N:Int)
   ·simp only[p,asX,i_t];rw[asU om] at i;refine Z8 t hm om (2*n) a2 (a2+n) (a2+2*n) om om om om j b h λF m b=>?_
    try simp only[rs]
    rw[aA (n:=(2:Int)*(n:Int)) om om,aA om om];exact aS ⟨a2+2*n,f3,_,by congr 4<;>omega,om,om,by rw[Srt.KJ];exact j,m,i,b⟩ (by simp[n0,RowKit.intOf];omega)
   ·simp only[p,asW,i_f];rw[asT om] at i;refine join λJ Q=>?_;have fin:∀W,Y.length=N->(∀x∈Y,ok x)->cH S w0 W (pcE (bR g 0 N cap) Y::T)->J [] W:=by
     intro W m U b;refine Q _ _ λ_=>?_;simp only[dU,gd,rs,nz];exact back W m U b
    by_cases c:a2+n < N
    ·simp only[show ai (((a2+n:Nat):Int) < (N:Int))=av from atA om,i_t];rw[asU c] at i;refine Z8 t hm om (N - a2) a2 (a2+n) N om om c om j b h λF m b=>?_;rw[i] at m b;exact fin F (by rw[<-i,Srt.KJ];exact j) m b
    ·simp only[show ai (((a2+n:Nat):Int) < (N:Int))=au from asZ om,i_f];rw[asT c] at i;rw[i] at j h b;exact fin L j h b
  ·simp only[o,asW,i_f];have A:d=R:=by
    cases f2 with
   |zero=>exact l
   |succ q=>
     unfold Srt.rounds at l;rw[j,asT om] at l;exact l
   rw[A] at h b;exact vB ⟨rfl,h,b⟩
theorem agK {g N:Nat}{ok:Pc->Prop}{ps:List Pc}(c:CmpOk M cv ok)(hm:T[jm]?=ax (.mem M))(d:N<=100000000)(e:ps.length=N)(a:cH S w0 w (pcE (bR g 0 N cap) ps::T))(b:∀x∈ps,ok x)
  (k:∀W qs,qs.Perm ps->Srt.srt pw qs->cH S w0 W (pcE (bR g 0 N cap) qs::T)->K (.tuple #[]) W) :
  dZ ah 351 #[bR g 0 N cap,cv] w PK K:=by
 refine⟨dQ ?_⟩;unfold bT nz;rw[bO avX];refine Z6 c hm d e a b λW f a=>?_;obtain⟨p,q⟩:=Srt.V9 pd pw ps;exact k W _ p q a
end
end
section
open Eng
def pF(t0 t1 t2 t8 w)(N1:JT)(K:KT):=nz f302 175 [N1] [nh 15 [8]] [] (zg [0,1,2,8] [t0,t1,t2,t8]) w K
def uW(t0 t1 t2 w)(K:KT):=nz f302 1 [] [(15,[8],λs v j w f=>pF (s 0) (s 1) (s 2) (vg v 0) w (f 0) K)] [] (zg [0,1,2] [t0,t1,t2]) w K
theorem BF:uW t0 t1 t2 w k0->Calls ah 302 #[t0,t1,t2] w k0:=cz [] [(7,[8])] func302
def oS(t0 t1 w)(K:KT):=nz f329 1 [] [] [] (zg [0,1] [t0,t1]) w K
theorem rG:oS t0 t1 w k0->Calls ah 329 #[t0,t1] w k0:=cw func329
def zM(t9 t85 t86 t87 w)(a:JT)(K:KT):=nz f298 45055 [a] [nh 57 [87]] [] (zg [9,85,86,87] [t9,t85,t86,t87]) w K
def yW(t6 t9 t10 t72 t73 w)(a:JT)(K:KT):=nz f298 22527 [a] [nh 49 [10,73],(57,[87],λs v j w f=>zM (s 9) (s 85) (s 86) (vg v 0) w (f 0) K)] [] (zg [6,9,10,72,73] [t6,t9,t10,t72,t73]) w K
def zH(t1 t6 t9 w)(K:KT):=nz f298 511 [] [(49,[10,73],λs v j w f=>yW (s 6) (s 9) (vg v 0) (s 72) (vg v 1) w (f 0) K)] [] (zg [1,6,9] [t1,t6,t9]) w K
def zX(t6 t24 w)(N1:JT)(K:KT):=nz f298 1967 [N1] [nh 15 [6,24]] [] (zg [6,24] [t6,t24]) w K
def zC(t0 t1 t6 t22 t23 t24 w)(N1:JT)(K:KT):=nz f298 175 [N1] [nh 15 [6,24],(26,[6],λs v j w f=>zX (vg v 0) (s 24) w (f 0) K),(38,[],λs v j w f=>zH (s 1) (s 6) (s 9) w K)] [(18,8)] (zg [0,1,6,22,23,24] [t0,t1,t6,t22,t23,t24]) w K
def DF(t0 t1 w)(K:KT):=nz f298 1 [] [(15,[6,24],λs v j w f=>zC (s 0) (s 1) (vg v 0) (s 22) (s 23) (vg v 1) w (f 0) K)] [] (zg [0,1] [t0,t1]) w K
theorem GW:DF t0 t1 w k0->Calls ah 298 #[t0,t1] w k0:=cz [(13,[6]),(19,[])] [(7,[6,24]),(24,[10,73]),(28,[87])] func298
def sX(t0 t1 w)(K:KT):=nz f330 1 [] [] [] (zg [0,1] [t0,t1]) w K
theorem Cw:sX t0 t1 w k0->Calls ah 330 #[t0,t1] w k0:=cw func330
def Gj(t0 t1 w)(K:KT):=nz f327 1 [] [] [] (zg [0,1] [t0,t1]) w K
theorem IG:Gj t0 t1 w k0->Calls ah 327 #[t0,t1] w k0:=cw func327
def Cj(t0 w)(K:KT):=nz f345 1 [] [] [] (zg [0] [t0]) w K
theorem Gi:Cj t0 w k0->Calls ah 345 #[t0] w k0:=cw func345
def DK(b c a w)(N1:JT)(K:KT):=
 bnx .add 3 a (iN 1) w K λd w=>lnx 341 b w K λe w=>bnx .lss 3 d e w K λf w=>IfX f (nK w (λD=>QDo ah D (mIA 341 b a) λg=>QDo ah D (aK 342 g) λh=>QDo ah D (Jf h) λi=>QDo ah D (mFA 344 i 0) λj=>QDo ah D (aK 3 j) λk=>QDo ah D (iA .add 3 a (iN 1)) λl=>QDo ah D (mIA 341 b l) λm=>QDo ah D (aK 342 m) λn=>QDo ah D (Jf n) λo=>QDo ah D (mFA 344 o 0) λp=>QDo ah D (aK 3 p) λq=>QDo ah D (iA .add 3 k q) λr=>QDo ah D (mIA 341 b a) λs=>QDo ah D (aK 342 s) λt=>QDo ah D (iA .add 3 a (iN 1)) λu=>QDo ah D (mIA 341 b u) λv=>QDo ah D (aK 342 v) λx=>QDo ah D (aW 344 #[(0,r),(2,t),(3,x)]) λy=>
 ∀w,D w ->
 DoX ah (Hr 344 y) w (ay 9 (pk K)) λz w=>DoX ah (aT 341 1 #[(0,z)]) w (ay 9 (pk K)) λA w=>DoX ah (mB .append #[341,341] 341 #[au,au] #[c,A]) w (ay 9 (pk K)) λB w=>bnx .add 3 a (iN 2) w K λC w=>N1 [B,C] w)) (K (.returned c) w)
def Hv(t0 w)(K:KT):=nz f328 1 [] [(7,[3,4],λs v j w f=>DK (s 0) (vg v 0) (vg v 1) w (f 0) K)] [] (zg [0] [t0]) w K
theorem Kp:Hv t0 w k0->Calls ah 328 #[t0] w k0:=cz [] [(3,[3,4])] func328
def fV(t0 t1 t2 w)(K:KT):=nz f344 1 [] [] [] (zg [0,1,2] [t0,t1,t2]) w K
theorem kN:fV t0 t1 t2 w k0->Calls ah 344 #[t0,t1,t2] w k0:=cw func344
def fB(t0 t1 t2 w)(K:KT):=nz f352 1 [] [] [(1,8)] (zg [0,1,2] [t0,t1,t2]) w K
theorem jM:fB t0 t1 t2 w k0->Calls ah 352 #[t0,t1,t2] w k0:=cw func352
end
end Go.Proofs.YtlipjfcbjemicaaGreatDoor
