/- Parts of the proof. -/
import Derived.Test.YtlipjfcbjemicaaGreatDoorRows
import Derived.Test.YtlipjfcbjemicaaGreatDoorMmnbgfboh
set_option linter.all false
set_option maxRecDepth 20000
open Go.Proofs.Tryz
open Go.Proofs.Tryz renaming prog->ah
open Option renaming some->ax,none->aw
open Bool renaming true->av,false->au
open Go renaming Value->aq,World->ao
open Decidable renaming decide->ai
namespace Go.Proofs.YtlipjfcbjemicaaGreatDoor
variable{K:VWP}{L:List Eng.Ent}{M:Eng.Mem}{P:Program}{PK PK2:PKT}{R:Ending->FrameMode->ao->Prop}{S:Nat->Prop}{W w w0:ao}{a colors:Int}{above key:List UInt8}{aj:List (Nat×List Nat)}{b cap d h i id mo most:Nat}{cs:List aq}{e:Eng.Ent}{fn:Func}{o:Ob}{os:List Ob}{q:Bool}{t0 v v2 va vc vk:aq}{u:FrameMode}{x:Pm}{t0 t1 t2 t3:aq}{k0:Eng.KT}
section
open Eng Go.RowKit
def ep (tag:Int)(above:List UInt8)(colors:Int):List UInt8->List UInt8->List UInt8
|acc,[]=>acc
|acc,c::r=>ep tag above colors (acc++[c+du tag above acc (acc.length:Int) colors]) r
theorem qp (tag:Int)(above:List UInt8)(colors:Int):∀(r acc:List UInt8),(ep tag above colors acc r).length=acc.length+r.length
|[],acc=>rfl
|c::r,acc=>by rw[ep,qp tag above colors r,asY,avA,atW];omega
theorem yj {p r:List UInt8}{i:Int}(h:i < (p.length:Int)):fl (p++r) i=fl p i:=by
 unfold fl;by_cases a:i < 0
 ·rw[asU (.inl a),asU (.inl a)]
 ·rw[asT (by rw[asY];omega),asT om,atD,avK om,atD]
theorem ua {tag:Int}{p r:List UInt8}(a:1<=colors):du tag above (p++r) (p.length:Int) colors=du tag above p (p.length:Int) colors:=by
 unfold du;rw[yj om]
def lg (c:Int)(n h:Nat):Nat->List UInt8->List UInt8->List UInt8->List UInt8×Int
|0,_,_,_=>([],13)
|f+1,s,prev,out=>
  if s.length=0 then (out,0)
  else if 5<=(if h=1 then (s.getD 0 0).toNat else 1) then ([],3)
  else
   let row:=ep ((if h=1 then (s.getD 0 0).toNat else 1:Nat):Int) prev c [] ((s.drop h).take n)
   lg c n h f (s.drop (n+h)) row (out++row)
def Pm.head (x:Pm):Nat:=if 10<=x.p then 1 else 0
def fm (x:Pm)(s:List UInt8):List UInt8×Int:=
 if ¬x.ok then ([],1)
 else if 1048576 < s.length then ([],5)
 else if x.p=1 then (s,0)
 else if s.length % ((x.c*x.n).toNat+x.head)≠0 then ([],16)
 else lg x.c (x.c*x.n).toNat x.head (s.length+1) s [] []
theorem anI {a b:UInt8}:IntKind.u8.wrap ((a.toNat:Int)+(b.toNat:Int))=((a+b).toNat:Int):=by
 rw[show (a.toNat:Int)+(b.toNat:Int)=((a.toNat+b.toNat:Nat):Int) by omega,uX]
 congr 1
def jC:aq->Nat|.string s=>s.size|_=>0
theorem fG (l:List UInt8):jC (ae l)=l.length:=dC l
def BRd (e:Ent)(v:aq)(l:List UInt8):Prop:=∀W,e.is W->Sl W v 1 l.length (aH l)
theorem Na {b cap:Nat}{l:List UInt8}:BRd (.mkr 5 b l) (bR b 0 l.length cap) l:=λW h=>UO h
section
variable {w:ao}{PK:PKT}{K:VWP}{S:Nat->Prop}{w0:ao}{L:List Ent}
theorem alV {tag:Nat}{a:Nat}{src:List UInt8}(i j:Nat)(u:i≠j)(c:cH S w0 w L)(hi:L[i]?=ax e)(z:L[j]?=ax (.mkr 5 a src))(A:BRd e va above)(B:1<=colors∧colors<=1000000)(O:src.length<=1000000)
  (k:∀W,cH S w0 W (L.set j (.mkr 5 a (ep (tag:Int) above colors [] src)))->K (.tuple #[]) W) :
  dZ ah 240 #[rwV va (bR a 0 src.length cap) colors,ad (tag:Int)] w PK K:=by
 have x:j < L.length:=(atT.1 z).1;have f:∀l,(L.set j (.mkr 5 a l))[j]?=ax (.mkr 5 a l):=λl=>by rw[awU x]
 generalize d:ep (tag:Int) above colors [] src=R at k;refine⟨An ?_⟩;unfold rR nz;have C:va.oneCell'=true:=kT (A w (c.at_ i hi));have D:∀W:ao,(Hr 246 (rwV va (bR a 0 src.length cap) colors)).run ah W=.ok (.value (af W.heap.size 0)) (W.alloc (.cells (rwC va (bR a 0 src.length cap) colors).toArray 246)):=λW=>by
  cases va<;>first|(cases C;done)|kernel_rfl
 refine bI (λb=>af b 0) (rwC va (bR a 0 src.length cap) colors) 246 D c λb E c=>?_;refine aC (bC yZ) |>.mpr (aC (A3 (c.at_ 0 rfl)) |>.mpr ?_);have g:∀{W:ao} {l:List UInt8},cH S w0 W (rwE b va (bR a 0 src.length cap) colors::L.set j (.mkr 5 a l))->l.length=src.length->Sl W (bR a 0 src.length cap) 1 l.length (aH l):=λc F=>by
  have:=UO (cap:=cap) (c.at_ (j+1) (f _));rw[F] at this ⊢;exact this
 have c:cH S w0 E (rwE b va (bR a 0 src.length cap) colors::L.set j (.mkr 5 a ([]++src.drop 0))):=by
  rw[auI,auX,E7 z];exact c
 rw[aZ atM (g c sm)];have G:([]++src.drop 0:List UInt8).length=src.length:=sm
 rw[G];refine loop (λvs W=>∃p:List UInt8,vs=[ad (p.length:Int)]∧p.length<=src.length∧ep (tag:Int) above colors p (src.drop p.length)=R∧cH S w0 W (rwE b va (bR a 0 src.length cap) colors::L.set j (.mkr 5 a (p++src.drop p.length)))) (λvs _=>src.length - n0 vs) ⟨[],rfl,sm,d,c⟩ ?_;clear c d;rintro vs w2 ⟨p,rfl,hp,d,c⟩ _;simp only[nL,gd,rs,nz];by_cases m:(p.length:Int) < (src.length:Int)
 ·simp only[m,asX,i_t];have o:p.length < src.length:=om
  have hd:src.drop p.length=src[p.length]::src.drop (p.length+1):=auL o;rw[hd] at d c;rw[ep] at d;have q:(p++src[p.length]::src.drop (p.length+1)).length=src.length:=by rw[asY,atW,atG];omega
  have y:(p++src[p.length]::src.drop (p.length+1))[p.length]?=ax src[p.length]:=by rw[avU (atE _),avV];rfl
  have r:∀W:ao,(mIA 53 (bR a 0 src.length cap) (ad (p.length:Int))).run ah W=.ok (.value (af a p.length)) W:=λW=>by
   have:=dP (P:=ah) (T:=53) (b:=a) (off:=0) (cap:=cap) (n:=src.length) (k:=.i64) (i:=(p.length:Int)) (w:=W) atM (show (Tryz.prog.info? 5).map (·.size)=ax 1 by kernel_rfl) om om
   rwa [atC,atY,atK] at this
  refine cQ (λW=>cH S w0 W (rwE b va (bR a 0 src.length cap) colors::L.set j (.mkr 5 a (p++src[p.length]::src.drop (p.length+1))))) c.drew ?_;refine gr _ (λ_=>bC yZ) (iL _ (λW h=>A3 (h.at_ 0 rfl)) (gr _ r ?_));refine iL (.int .u8 (src[p.length].toNat:Int)) (λW h=>aB M1 (M7 (h.at_ (j+1) (f _)) (by unfold aH;rw[axK,y];rfl))) ?_;refine iL (rwV va (bR a 0 src.length cap) colors) (λW h=>bB (h.agg 0 rfl OC)) ?_;refine iH (.int .u8 ((du (tag:Int) above p (p.length:Int) colors).toNat:Int)) (λW h=>?_) ?_
  ·have s:=g h q;have:=SN (tag:Int) above (p++src[p.length]::src.drop (p.length+1)) va (bR a 0 src.length cap) (p.length:Int) colors W om B (A W (h.at_ (i+1) (show (L.set j (.mkr 5 a _))[i]?=ax e by rw[azQ (λh=>u h.symm)];exact hi))) s;rw[ua B.1] at this;exact this.mono λv w' ⟨H,I⟩=>⟨H,h.grow I⟩
  refine nF ?_;rw[anI];refine gr _ r ?_;intro w3 c;refine Wn (j+1) (l:=p++src[p.length]::src.drop (p.length+1)) c (f _) krx (by rw[q];exact o) λJ c=>?_
  try simp only[rs]
  rw[aA om om];have t:(p++[src[p.length]+du (tag:Int) above p (p.length:Int) colors]).length=p.length+1:=sm
  refine aS ⟨p++[src[p.length]+du (tag:Int) above p (p.length:Int) colors],by rw[t];rfl,by rw[t];omega,by rw[t];exact d,?_⟩ (by simp[n0,RowKit.intOf];omega);rw[t];have M:(p++src[p.length]::src.drop (p.length+1)).set p.length (src[p.length]+du (tag:Int) above p (p.length:Int) colors)=p++[src[p.length]+du (tag:Int) above p (p.length:Int) colors]++src.drop (p.length+1):=by
   rw[axJ _ _ (atE _),avV,avN];simp
  rw[<-M];have c:cH S w0 J (rwE b va (bR a 0 src.length cap) colors::(L.set j (.mkr 5 a (p++src[p.length]::src.drop (p.length+1)))).set j (.mkr 5 a ((p++src[p.length]::src.drop (p.length+1)).set p.length (src[p.length]+du (tag:Int) above p (p.length:Int) colors)))):=c;rw[ayW] at c;exact c
 ·simp only[m,asW,i_f];have N:p.length=src.length:=om
  rw[auW om] at d c;rw[atX] at c;have d:p=R:=d;subst d;exact k w2 c.tail
end
theorem Ew (x:Pm)(s:List UInt8)(r:Nat)(w:ao)(i:1<=r)(j:s.length<=1000000000):Ret ah 232 #[pmV x,ae s,ad (r:Int)] w (λv w'=>v=ad (if ¬x.ok then 1 else if 1048576 < s.length then 5 else if x.p≠1∧s.length % r≠0 then 16 else 0)∧Below w.heap.size w w'):=by
 refine aL λK a=>Eo ?_;unfold zV nz;refine Ar x (Own.start w) λb g c=>?_;rw[I6 c 0 rfl];refine aJ c (Nh x g) ?_;rintro _ w2 rfl c
 try simp only[rs]
 by_cases h:x.ok
 case neg=>
  rw[asU h] at a;simp only[h,asW,auN,i_t];exact a _ _ ⟨rfl,c.done⟩
 rw[asT (by simp[h])] at a;simp only[h,asX,auO,i_f];rw[cZ atB]
 try simp only[rs]
 by_cases e:1048576 < s.length
 ·rw[asU e] at a;simp only[show ai ((1048576:Int) < (s.length:Int))=av from atA om,i_t];exact a _ _ ⟨rfl,c.done⟩
 rw[asT e] at a;simp only[show ai ((1048576:Int) < (s.length:Int))=au from asZ om,i_f];rw[E9,EN c 0 rfl]
 try simp only[rs]
 by_cases d:x.p=1
 ·rw[asT (by simp[d])] at a;simp only[d,ne_eq,not_true,asW,rs,nE];exact a _ _ ⟨rfl,c.done⟩
 simp only[d,ne_eq,avD,asX,rs];rw[cZ atB]
 try simp only[rs]
 rw[Di om,aoI]
 try simp only[rs]
 by_cases f:s.length % r=0
 ·rw[asT (by simp[f])] at a;simp only[show ai (((s.length % r:Nat):Int)≠0)=au from asZ om,i_f,rs];exact a _ _ ⟨rfl,c.done⟩
 ·rw[asU ⟨d,f⟩] at a;simp only[show ai (((s.length % r:Nat):Int)≠0)=av from atA om,i_t,rs];exact a _ _ ⟨rfl,c.done⟩
theorem Q5 (x:Pm)(s:List UInt8)(w:ao)(R:s.length<=1000000000):Ret ah 193 #[pmV x,ae s] w (λv w'=>v=zlT (fm x s)∧Below w.heap.size w w'):=by
 refine aL λK l=>sK ?_;generalize g:fm x s=X at l;unfold fm at g;unfold oT nz;refine Ar x (Own.start w) λb S d=>?_;rw[I6 d 0 rfl];refine aJ d (NG x S) ?_;rintro _ w2 rfl d;rw[Br];refine join λJ T=>?_;rw[E9,EN d 0 rfl]
 try simp only[rs]
 have main:J [ad (x.head:Int)] w2:=by
  refine T _ _ λ_=>?_;simp only[lH,gd,nz];rw[I6 d 0 rfl];have r:x.head<=1:=by unfold Pm.head;split<;>omega
  obtain⟨n,N,U,V⟩:∃n:Nat,max (if x.ok then x.c*x.n else 0) 1=(n:Int)∧1<=n∧n<=8192:=by
   by_cases h:x.ok
   ·rw[asU h];have Y:=Pm.mul_pos h;have F:=h.2.2.2.2;exact⟨(x.c*x.n).toNat,om,om,om⟩
   ·rw[asT h];exact⟨1,dc,dc,dc⟩
  rw[N]
  try simp only[rs]
  rw[aA om om,show (n:Int)+(x.head:Int)=((n+x.head:Nat):Int) by omega];refine aJ d (Ew x s (n+x.head) w2 om R) ?_;rintro _ w3 rfl d;simp only[eF];by_cases h:x.ok
  case neg=>
   rw[asU h] at g ⊢;simp only[show ai ((1:Int)≠0)=av from rfl,i_t];exact l _ _ ⟨by rw[<-g];rfl,d.done⟩
  rw[asT (by simp[h])] at g ⊢;have G:(x.c*x.n).toNat=n:=by
   rw[asU h] at N;have Y:=Pm.mul_pos h;omega
  rw[G] at g;by_cases F:1048576 < s.length
  ·rw[asU F] at g ⊢;simp only[show ai ((5:Int)≠0)=av from rfl,i_t];exact l _ _ ⟨by rw[<-g];rfl,d.done⟩
  rw[asT F] at g ⊢;by_cases u:x.p=1
  ·rw[asT (by simp[u])];rw[asU u] at g;simp only[show ai ((0:Int)≠0)=au from rfl,i_f];rw[E9,EN d 0 rfl];simp only[u,rs,asX,i_t];exact l _ _ ⟨by rw[<-g];rfl,d.done⟩
  rw[asT u] at g;by_cases y:s.length % (n+x.head)=0
  case neg=>
   rw[asU ⟨u,y⟩];rw[asU y] at g;simp only[show ai ((16:Int)≠0)=av from rfl,i_t];exact l _ _ ⟨by rw[<-g];rfl,d.done⟩
  rw[asT (by simp[y])];rw[asT (by simp[y])] at g;simp only[show ai ((0:Int)≠0)=au from rfl,i_f];rw[E9,EN d 0 rfl];simp only[u,rs,asW,i_f];rw[fpm1,pm_1 d 0 rfl];have O:1<=x.c∧x.c<=1000000:=⟨h.2.1,by have:=h.2.2.2.1;omega⟩;have e:∀W:ao,(aW 246 #[(2,ad x.c)]).run ah W=.ok (.value (rwV cO cO x.c)) W:=λW=>by kernel_rfl
  refine aC (e w3) |>.mpr ?_;refine bI (λb=>af b 0) (rwC cO cO 0) 246 (λ_=>by kernel_rfl) d λm w4 d=>?_;refine jK 0 d rfl (new:=rwC cO cO x.c) szRw (YY rfl rfl) rfl λw5 d=>?_;generalize x.head=hd at g r y ⊢;generalize x.c=co at g O d ⊢;have d:=(d.nilU 5 1).nilU 5 1;have d:=d.sub (L':=[.urow 5 1 cO 0 [],.urow 5 1 cO 0 [],rwE m cO cO co]) (.cons_cons _ (.cons_cons _ (.cons_cons _ (List.nil_sublist _))));refine loop (λvs W=>∃(t prev out:List UInt8) (ov va vr:aq) (e:Ent),vs=[ae t,ov]∧t.length<=s.length∧t.length % (n+hd)=0∧out.length+t.length<=s.length∧prev.length<=1000000∧BRd e vr prev∧va.oneCell'=av∧(∃f,t.length < f∧lg co n hd f t prev out=X)∧cH NoB w W [kQ ov out,e,rwE m va vr co]) (λvs _=>jC (vs.getD 0 undef)) ⟨s,[],[],cO,cO,cO,_,rfl,om,y,sm,sm,λW h=>Sl.urow h,rfl,⟨_,om,g⟩,d⟩ ?_;clear d g;rintro vs H ⟨t,prev,out,ov,va,vr,e,rfl,Z,I,a1,a6,z,a7,⟨f,hf,g⟩,d⟩ _;simp only[uH,gd,nz];obtain⟨f,rfl⟩:∃f',f=f'+1:=⟨f - 1,om⟩;rw[lg] at g;dsimp only at g;rw[cZ atB]
  try simp only[rs]
  by_cases P:t.length=0
  ·rw[asU P] at g;simp only[show ai ((0:Int) < (t.length:Int))=au from asZ om,i_f];rw[vG atM atS atB (jR (d.at_ 0 rfl))];exact l _ _ ⟨by rw[<-g];rfl,d.done⟩
  rw[asT P] at g;simp only[show ai ((0:Int) < (t.length:Int))=av from atA om,i_t];have L:n+hd<=t.length:=Nat.le_of_dvd om (aAP I);refine join λJ3 M=>?_;have o:vr.oneCell'=true:=kT (z H (d.at_ 1 rfl));have next:∀tag:Nat,(tag=if hd=1 then (t.getD 0 0).toNat else 1)->J3 [ad (tag:Int)] H:=by
   intro tag A;rw[<-A] at g;refine M _ _ λ_=>?_;simp only[tR,gd,rs,iN,bnx];by_cases Q:5<=tag
   ·rw[asU Q] at g;simp only[show ai ((5:Int)<=(tag:Int))=av from atA om,i_t];exact l _ _ ⟨by rw[<-g];rfl,d.done⟩
   rw[asT Q] at g;simp only[show ai ((5:Int)<=(tag:Int))=au from asZ om,i_f];have q:((t.drop hd).take n).length=n:=by rw[atF,atG];omega
   have i:(ep (tag:Int) prev co [] ((t.drop hd).take n)).length=n:=by rw[qp,q];simp
   have fin:∀b cap W,cH NoB w W [.mkr 5 b ((t.drop hd).take n),kQ ov out,e,rwE m vr (bR b 0 ((t.drop hd).take n).length cap) co]->gW (ae t) (ad (n:Int)) (ad (hd:Int)) ov (af m 0) (ad (tag:Int)) W (IJ (λvs W=>∃(t prev out:List UInt8) (ov va vr:aq) (e:Ent),vs=[ae t,ov]∧t.length<=s.length∧t.length % (n+hd)=0∧out.length+t.length<=s.length∧prev.length<=1000000∧BRd e vr prev∧va.oneCell'=av∧(∃f,t.length < f∧lg co n hd f t prev out=X)∧cH NoB w W [kQ ov out,e,rwE m va vr co]) (λvs _=>jC (vs.getD 0 undef)) [ae t,ov] H) K:=by
    intro b cap W d;unfold gW ldx bnx fax slx apx cx;rw[Jn (d.agg 3 rfl OC)];refine alV 2 0 dc d rfl rfl z O om λW2 d=>?_;refine aC (bC yZ) |>.mpr (aC (A3 (d.at_ 3 rfl)) |>.mpr ?_);have k:=UO (cap:=cap) (d.at_ 0 rfl);rw[i] at k;rw[q];refine bL 1 atM I3 dc d rfl k bN om om λv' B d=>?_
    try simp only[rs]
    rw[aA om om,yY atB om om,show ((n:Int)+(hd:Int)).toNat=n+hd by omega];have C:BRd (.mkr 5 b (ep (tag:Int) prev co [] ((t.drop hd).take n))) (bR b 0 n cap) (ep (tag:Int) prev co [] ((t.drop hd).take n)):=by
     have:=@Na b cap (ep (tag:Int) prev co [] ((t.drop hd).take n))
     rwa [i] at this
    have d:cH NoB w B [.mkr 5 b (ep (tag:Int) prev co [] ((t.drop hd).take n)),kQ v' (out++ep (tag:Int) prev co [] ((t.drop hd).take n)),e,rwE m vr (bR b 0 n cap) co]:=by
     rw[fD,i];rw[q] at d;exact d
    have D:(t.drop (n+hd)).length=t.length - (n+hd):=atG;refine aS ⟨t.drop (n+hd),_,_,v',vr,_,_,rfl,om,?_,by rw[asY,i];omega,by rw[i];omega,C,o,⟨f,om,g⟩,?_⟩ ?_
    ·rw[D,aAQ L] at *;omega
    ·exact (cH.swap d).sub (.cons_cons _ (.cons_cons _ (.cons _ (axE _))))
    ·show jC (ae (t.drop (n+hd))) < jC (ae t);rw[fG,fG,D];omega
   have d:=d.drew;refine⟨λW=>∃a,(rwE m a vr co).is W,⟨va,d.at_ 2 rfl⟩,?_⟩;refine aI _ (λ_=>bC yZ) (gJ _ (λW ⟨a,h⟩=>A3 h) ?_);refine aI _ (λ_=>OS) ?_;rw[aA om om];refine aI _ (λ_=>mY atB om om om) ?_;rw[show ((n:Int)+(hd:Int)).toNat - ((hd:Nat):Int).toNat=n by omega,atC];refine aI _ (λ_=>bC Sq) ⟨?_,?_⟩
   ·refine GN atB atM atS d λb cap w7 d=>⟨⟨va,d.at_ 3 rfl⟩,?_⟩;refine aN 3 d rfl krx o (by show 0+0 < 3;omega) λw8 d=>?_;refine aI _ (λ_=>bC yZ) ?_;refine aN 3 d rfl krx rfl (by show 0+1 < 3;omega) λB d=>?_;exact fin b cap B d
   ·refine aN 2 d rfl krx o (by show 0+0 < 3;omega) λw8 d=>?_;refine GN atB atM atS d λb cap w7 d=>⟨⟨vr,d.at_ 3 rfl⟩,?_⟩;refine aI _ (λ_=>bC yZ) ?_;refine aN 3 d rfl krx rfl (by show 0+1 < 3;omega) λB d=>?_;exact fin b cap B d
  try simp only[rs]
  by_cases E:hd=1
  ·simp only[show ai ((hd:Int)=1)=av from atA om,i_t];rw[NW (c:=t.getD 0 0) atB dc (get0 om),GO];exact next _ (by rw[asU E])
  ·simp only[show ai ((hd:Int)=1)=au from asZ om,i_f];exact next 1 (by rw[asT E])
 have r:x.head=if 10<=x.p then 1 else 0:=rfl
 by_cases j:10<=x.p
 ·simp only[j,asX,i_t];rw[asU j] at r;rw[r] at main;exact main
 ·simp only[j,asW,i_f];rw[asT j] at r;rw[r] at main;exact main
end
section
open Eng
def CE(t0 t1 w)(K:KT):=nz f179 1 [] [] [] (zg [0,1] [t0,t1]) w K
theorem Cc:CE t0 t1 w k0->Calls ah 179 #[t0,t1] w k0:=cw func179
def Aa(t0 t1 w)(K:KT):=nz f178 1 [] [] [(0,13)] (zg [0,1] [t0,t1]) w K
theorem Ey:Aa t0 t1 w k0->Calls ah 178 #[t0,t1] w k0:=cw func178
def Jj(t0 w)(K:KT):=nz f114 1 [] [] [] (zg [0] [t0]) w K
theorem LD:Jj t0 w k0->Calls ah 114 #[t0] w k0:=cw func114
def Bj(t0 t3 w)(N1:JT)(K:KT):=nz f186 19 [N1] [nh 5 [3]] [(2,13)] (zg [0,3] [t0,t3]) w K
def F5(t0 w)(K:KT):=nz f186 1 [] [(5,[3],λs v j w f=>Bj (s 0) (vg v 0) w (f 0) K)] [] (zg [0] [t0]) w K
theorem IW:F5 t0 w k0->Calls ah 186 #[t0] w k0:=cz [] [(2,[3])] func186
def FQ(t0 t3 t5 w)(N1 a:JT)(K:KT):=nz f119 627 [N1,a] [nh 5 [0],nh 21 [5]] [] (zg [0,3,5] [t0,t3,t5]) w K
def EP(t0 t3 w)(N1:JT)(K:KT):=nz f119 19 [N1] [nh 5 [0],(21,[5],λs v j w f=>FQ (s 0) (s 3) (vg v 0) w (f 1) (f 0) K)] [] (zg [0,3] [t0,t3]) w K
def Jk(t0 w)(K:KT):=nz f119 1 [] [(5,[0],λs v j w f=>EP (vg v 0) (s 3) w (f 0) K)] [] (zg [0] [t0]) w K
theorem Ls:Jk t0 w k0->Calls ah 119 #[t0] w k0:=cz [] [(2,[0]),(10,[5])] func119
def qT(t0 t1 t5 t22 t23 w)(a:JT)(K:KT):=nz f184 43 [a] [nh 13 [5,23]] [] (zg [0,1,5,22,23] [t0,t1,t5,t22,t23]) w K
def qO(t0 t1 t4 w)(N1:JT)(K:KT):=nz f184 10 [N1] [nh 3 [4],(13,[5,23],λs v j w f=>qT (s 0) (s 1) (vg v 0) (s 22) (vg v 1) w (f 0) K)] [] (zg [0,1,4] [t0,t1,t4]) w K
def vU(t0 t1 w)(K:KT):=nz f184 1 [] [(3,[4],λs v j w f=>qO (s 0) (s 1) (vg v 0) w (f 0) K)] [] (zg [0,1] [t0,t1]) w K
theorem Db:vU t0 t1 w k0->Calls ah 184 #[t0,t1] w k0:=cz [] [(1,[4]),(6,[5,23])] func184
def KP(t0 t1 t2 w)(K:KT):=nz f185 1 [] [] [] (zg [0,1,2] [t0,t1,t2]) w K
theorem Lw:KP t0 t1 t2 w k0->Calls ah 185 #[t0,t1,t2] w k0:=cw func185
def bE (a:Deferred)(b:aq)(c:aq)(K:Ending->ao->Prop):=pd ah [.cell b 9,.cell c 30] K [a]
def Ab(e c f w)(K:KT):=
 alx 9 w K λa w=>alx 30 w K λb w=>dx (Ub (.func 223) #[] #[a,b]) w K λg w=>DfrX (dfrV g #[]) (λd1=>DoX ah (iA .geq 3 c (iN 0)) w (bE d1 a b K) λh w=>dZ ah 179 #[h,(iN 1)] w (bE d1 a b K) λo w=>DoX ah (mB .min #[3,3] 3 #[au,av] #[c,(iN 1048576)]) w (bE d1 a b K) λi w=>DoX ah (aW 236 #[(1,i)]) w (bE d1 a b K) λj w=>DoX ah (Hr 236 j) w (bE d1 a b K) λd w=>DoX ah (gC f #[e,d]) w (bE d1 a b K) λp w=>DoX ah (Jf d) w (bE d1 a b K) λk w=>DoX ah (mFA 236 k 0) w (bE d1 a b K) λl w=>DoX ah (aK 53 l) w (bE d1 a b K) λm w=>DoX ah (fZ 53 9 m) w (bE d1 a b K) λn w=>DoX ah (aV 9 a n) w (bE d1 a b K) λ_ w=>DoX ah (aV 30 b (iN 0)) w (bE d1 a b K) λ_ w=>D6 ah [.cell a 9,.cell b 30] K [d1] .returning w)
theorem D8:Ab t0 t1 t2 w k0->Calls ah 174 #[t0,t1,t2] w k0:=cw func174
def FG(t0 t1 w)(K:KT):=nz f116 1 [] [] [] (zg [0,1] [t0,t1]) w K
theorem IM:FG t0 t1 w k0->Calls ah 116 #[t0,t1] w k0:=cw func116
def Dz(t0 t1 w)(K:KT):=nz f118 1 [] [] [] (zg [0,1] [t0,t1]) w K
theorem GL:Dz t0 t1 w k0->Calls ah 118 #[t0,t1] w k0:=cw func118
def F6(t0 t1 w)(K:KT):=nz f120 1 [] [] [] (zg [0,1] [t0,t1]) w K
theorem IB:F6 t0 t1 w k0->Calls ah 120 #[t0,t1] w k0:=cw func120
def vW(a b w)(N1:JT)(K:KT):=
 bnx .add 3 b (iN 1) w K λc w=>N1 [a,c] w
def mX(w)(K:KT):=
 K (.returned (.tuple #[])) w
def wE(f e a g b w)(N1:JT)(K:KT):=
 bnx .lss 3 b g w K λh w=>IfX h (D9 (λz=>dx (mIx 9 f b) w K λc w=>cx 176 #[c] w K λd w=>cx 177 #[c] w K λi w=>IfX i (z [a] w) (eqx .eql 5 (.tmp 30) (.const (.int .u8 62)) c (.int .u8 62) w K λj w=>IfX j (D9 (λB=>bnx .geq 3 a (iN 0) w K λk w=>IfX k (bnx .mul 3 (iN 16) a w K λl w=>dx (fZ 3 5 l) w K λm w=>dx (aT 53 1 #[(0,m)]) w K λn w=>cx 178 #[e,n] w K λu w=>B [] w) (B [] w)) (λC w=>∀_:Sg,mX w K)) (bnx .lss 3 d (iN 0) w K λo w=>IfX o (cx 179 #[(.bool au),(iN 3)] w K λv w=>z [a] w) (bnx .lss 3 a (iN 0) w K λp w=>IfX p (z [d] w) (bnx .mul 3 (iN 16) a w K λq w=>bnx .add 3 q d w K λr w=>dx (fZ 3 5 r) w K λs w=>dx (aT 53 1 #[(0,s)]) w K λt w=>cx 178 #[e,t] w K λx w=>z [(iN (-1))] w))))) (λA w=>∀_:Sg,vW (A.getD 0 undef) b w N1 K)) (cx 179 #[(.bool au),(iN 4)] w K λy w=>K (.returned (.tuple #[])) w)
def Cy(a b w)(K:KT):=
 lnx 9 a w K λc w=>Ax [(iN (-1)),(iN 0)] w (λd w N1=>∀_:Sg,wE a b (d.getD 0 undef) c (d.getD 1 undef) w N1 K)
theorem Fp:Cy t0 t1 w k0->Calls ah 175 #[t0,t1] w k0:=cz [(16,[4]),(999999,[])] [(2,[4,10])] func175
def tM(t9 w)(N1:JT)(K:KT):=nz f183 245 [N1] [nh 5 [9]] [] (zg [9] [t9]) w K
def tD(t0 t1 t4 t8 t9 w)(N1:JT)(K:KT):=nz f183 21 [N1] [nh 5 [9],(32,[],λs v j w f=>tM (s 9) w (f 0) K)] [] (zg [0,1,4,8,9] [t0,t1,t4,t8,t9]) w K
def zL(t0 t1 w)(K:KT):=nz f183 1 [] [(5,[9],λs v j w f=>tD (s 0) (s 1) (s 4) (s 8) (vg v 0) w (f 0) K)] [] (zg [0,1] [t0,t1]) w K
theorem Es:zL t0 t1 w k0->Calls ah 183 #[t0,t1] w k0:=cz [(16,[])] [(2,[9])] func183
def xC(t0 t1 w)(N1:JT)(K:KT):=nz f188 2 [N1] [nh 1 [0]] [] (zg [0,1] [t0,t1]) w K
def BQ(t0 t1 w)(K:KT):=nz f188 1 [] [(1,[0],λs v j w f=>xC (vg v 0) (s 1) w (f 0) K)] [] (zg [0,1] [t0,t1]) w K
theorem EU:BQ t0 t1 w k0->Calls ah 188 #[t0,t1] w k0:=cz [] [(0,[0])] func188
def BR (a:Nat)(K:Ending->ao->Prop):=pdM ah [.val (.string ⟨#[]⟩)] K [(mkD a)]
def DL(b c d e a o p w)(q:JT):=
 DoX ah (iA .lss 3 a e) w pkR λf w=>IfX f (DoX ah (mIA 196 d a) w pkR λg w=>DoX ah (aK 147 g) w pkR λh w=>DoX ah (iA .quo 147 c h) w pkR λi w=>DoX ah (iA .rem 147 i (.int .u64 85)) w pkR λj w=>DoX ah (iA .add 147 (.int .u64 33) j) w pkR λk w=>DoX ah (fZ 147 5 k) w pkR λl w=>dZ ah 181 #[b,l] w pkR λn w=>DoX ah (iA .add 3 a (iN 1)) w pkR λm w=>q [m] w) (EndX ah o aw w p)
def Ci(f w)(K:KT):=
 alx 188 w K λc w=>dx (fZ 9 53 f) w K λg w=>cx 180 #[g,(iN 4)] w K λh w=>RangeX ah aw 1 h w (λN J w T=>BegX ah N w (λw=>DoX ah (mB .len #[53] 3 #[au] #[(J.getD 0 undef)]) w pkR λd w=>DoX ah (aW 192 #[]) w pkR λi w=>DoX ah (DO 192) w pkR λa w=>DoX ah (aV 192 a i) w pkR λ_ w=>DoX ah (cT 192 a aw aw aw) w pkR λj w=>DoX ah (mB .copy #[53,53] 3 #[au,au] #[j,(J.getD 0 undef)]) w pkR λP w=>DoX ah (mEq .eql 3 (.tmp 20) (.const (iN 4)) d (iN 4)) w pkR λb w=>GDo b av (λE=>DoX ah (aK 192 a) w pkR E) w λk w=>GDo b av (λE=>DoX ah (aW 192 #[]) w pkR E) w λl w=>GDo b av (λE=>DoX ah (mEq .eql 192 (.tmp 23) (.tmp 24) k l) w pkR E) w λm w=>DoX ah (cW b m (.bool au)) w pkR λn w=>IfX n (dZ ah 181 #[c,(.int .u8 122)] w pkR λQ w=>EndX ah N aw w T) (DoX ah (mIA 192 a (iN 0)) w pkR λo w=>DoX ah (aK 5 o) w pkR λp w=>DoX ah (fZ 5 147 p) w pkR λq w=>DoX ah (iA .shl 147 q (.int .u64 24)) w pkR λr w=>DoX ah (mIA 192 a (iN 1)) w pkR λs w=>DoX ah (aK 5 s) w pkR λt w=>DoX ah (fZ 5 147 t) w pkR λu w=>DoX ah (iA .shl 147 u (.int .u64 16)) w pkR λv w=>DoX ah (iA .or 147 r v) w pkR λx w=>DoX ah (mIA 192 a (iN 2)) w pkR λy w=>DoX ah (aK 5 y) w pkR λz w=>DoX ah (fZ 5 147 z) w pkR λA w=>DoX ah (iA .shl 147 A (.int .u64 8)) w pkR λB w=>DoX ah (iA .or 147 x B) w pkR λC w=>DoX ah (mIA 192 a (iN 3)) w pkR λD w=>DoX ah (aK 5 D) w pkR λF w=>DoX ah (fZ 5 147 F) w pkR λG w=>DoX ah (iA .or 147 C G) w pkR λH w=>DoX ah (iA .add 3 d (iN 1)) w pkR λI w=>DoX ah (cT 197 (af 0 0) aw (ax I) aw) w pkR λe w=>DoX ah (mB .len #[196] 3 #[au] #[e]) w pkR λL w=>Ax [(iN 0)] w (λR w U=>∀_:Sg,DL c H e L (R.getD 0 undef) N T w U))))
 [(aw,λS w=>dZ ah 182 #[c] w (BR S K) λM w=>DoX ah (iA .add 9 M (.string ⟨#[126,62]⟩)) w (BR S K) λO w=>H9 ah [.val O] K [(mkD S)] .returning w)]
theorem KL (t0:aq)(w:ao)(K:Ending->ao->Prop):wpX ah 64 [] [(11,[50])] aw (DW f117) (topM ah [.tmp 2] K) (mP [t0]) [] w=Ci t0 w K:=krx
theorem Ki {K:Ending->ao->Prop}(h:Ci t0 w K):Calls ah 117 #[t0] w K:=
 P8 func117 rfl rfl rfl rfl (Eq.mpr (KL t0 w K) h)
def fL(w)(K:KT):=
 K (.returned (.tuple #[])) w
def iD(a b r w)(K:KT):=
 eqx .eql 20 (.tmp 5) (.const .nilIface) r .nilIface w K λf w=>IfX f (K (.returned (.tuple #[])) w) (dx (mTA r 20 234 av) w K λd w=>exx d 1 w K λg w=>exx d 0 w K λh w=>IfX g (alx 234 w K λc w=>stx 234 c h w K λ_ w=>DrawX w (λw=>(fax 234 c 0 w K λe w=>(ldx 30 e w K λi w=>stx 9 a (.string ⟨#[]⟩) w K λ_ w=>stx 30 b i w K λ_ w=>fL w K)∧(stx 9 a (.string ⟨#[]⟩) w K λ_ w=>ldx 30 e w K λj w=>stx 30 b j w K λ_ w=>fL w K))∧(stx 9 a (.string ⟨#[]⟩) w K λ_ w=>fax 234 c 0 w K λk w=>ldx 30 k w K λl w=>stx 30 b l w K λ_ w=>fL w K))) (dx (HX r) w K λ_ w=>K (.returned (.tuple #[])) w))
theorem Cp (t0 t1 r:aq)(w:ao)(K:Ending->ao->Prop):wpX ah 13 [] [] aw (aaU (DW f223)) (topD ah [] K) (upd (mP [t0,t1]) 5 r) [] w=iD t0 t1 r w K:=krx
theorem mK {t1:aq}(h:iD t0 t1 (yX u) w (λe w=>R e (Ba u) w)):CallsD ah 223 #[t0,t1] u w R:=
 vA func223 rfl rfl rfl rfl rfl rfl rfl rfl (Eq.mpr (Cp t0 t1 (yX u) w _) h)
end
section
open Eng Go.RowKit
def gj (most:Nat):List UInt8->Int->List UInt8->List UInt8×Int
|[],_,_=>([],4)
|c::r,half,out=>
  if Oc.Dp c=av then gj most r half out
  else if c=62 then (if half < 0 then (out,0) else if most<=out.length then ([],5) else (out++[UInt8.ofNat (16*half.toNat)],0))
  else if Lx.digit c < 0 then ([],3)
  else if half < 0 then gj most r (Lx.digit c) out
  else if most<=out.length then ([],5)
  else gj most r (-1) (out++[UInt8.ofNat (16*half+Lx.digit c).toNat])
def iu (D:Nat->List UInt8×Int)(most:Int):List UInt8×Int:=if most < 0 then ([],1) else D (min most.toNat 1048576)
def mi (s:List UInt8)(most:Int):List UInt8×Int:=iu (λm=>gj m s (-1) []) most
def skC (ov:aq)(most:Nat):List Value:=[ov,ad (most:Int)]
abbrev skE (b:Nat)(ov:aq)(most:Nat):Ent:=.cells b (skC ov most) 236
abbrev Sk (b:Nat)(most:Nat)(ov:aq)(out:List UInt8)(T:List Ent):List Ent:=skE b ov most::kQ ov out::T
theorem Tm:kC ah 236 0=ax 0:=krx
theorem aoR:kC ah 236 1=ax 1:=krx
theorem ajM:nD ah 234=true:=krx
theorem anS:kC ah 234 0=ax 0:=krx
theorem aqJ:(Tryz.prog.info? 234).map (·.size)=ax 1:=krx
theorem OZ:bY ah 223=true:=krx
def upA (e:Int):PanicEntry:={ v:=.iface 234 (.agg #[ad e]),recovered:=au }
theorem aiR (e:Int)(w:ao):Ret ah 179 #[.bool av,ad e] w (λv w'=>v=.tuple #[]∧w=w'):=by
 refine aL λK a=>Cc ?_;unfold CE nz;simp only[rs,auO,i_f];exact a _ _ ⟨rfl,rfl⟩
theorem afQ (e:Int)(w:ao):Pan ah 179 #[.bool au,ad e] w (λc w'=>c=[upA e]∧w=w'):=by
 refine VB λK a=>Cc ?_;unfold CE nz;simp only[rs,auN,i_t];have b:∀{PK:PKT} {K:VWP},DoX ah (aW 234 #[(0,ad e)]) w PK K=K (.agg #[ad e]) w:=aC krx;rw[b,Np ajM,Jo];exact a _ _ ⟨rfl,rfl⟩
section
variable {w:ao}{PK:PKT}{K:VWP}{S:Nat->Prop}{w0:ao}{L T:List Ent}
theorem mS {e:Int}(a:q=av->K (.tuple #[]) w)(b:q=au->PK [upA e] w):dZ ah 179 #[.bool q,ad e] w PK K:=by
 cases q with
|true=>exact qE (aiR e w) (a rfl)
|false=>exact agE (afQ e w) λc w' ⟨d,hw⟩=>by subst d;subst hw;exact b rfl
theorem afB {ov:aq}(h:(skE b ov most).is W):(aK 53 (af b (0+0))).run ah W=.ok (.value ov) W:=aB GK (aG (T:=236) (cs:=skC ov most) h rfl)
theorem afN {ov:aq}(h:(skE b ov most).is W):(aK 3 (af b (0+1))).run ah W=.ok (.value (ad (most:Int))) W:=aB bZ (aG (T:=236) (cs:=skC ov most) h rfl)
theorem O6 {l:List UInt8}(h:Sl W v 1 l.length (aH l)):(mB .len #[53] 3 #[au] #[v]).run ah W=.ok (.value (ad (l.length:Int))) W:=by
 obtain⟨_,a,cap,rfl,_⟩:=h;simp[mB,builtin,Builtin.len_,run_underlying atM,goInt]
theorem TH {ov:aq}{out l:List UInt8}(a:cH S w0 w (e::Sk b most ov out T))(f:BRd e v2 l)(hm:most<=1048576)(g:out.length<=most)(m:l.length<=1000000000)
  (i:out.length+l.length<=most->∀c W,cH S w0 W (Sk b most c (out++l) T)->K (.tuple #[]) W)
  (j:most < out.length+l.length->∀W,cH S w0 W (Sk b most ov out T)->PK [upA 5] W):dZ ah 178 #[af b 0,v2] w PK K:=by
 refine⟨Ey ?_⟩;unfold Aa nz;refine cQ (λW=>cH S w0 W (e::Sk b most ov out T)) a.drew ?_;refine gr _ (λ_=>cR) (gr _ (λ_=>bC Tm) (iL _ (λW h=>afB (h.at_ 1 rfl)) ?_));refine iL _ (λW h=>O6 (jR (h.at_ 2 rfl))) ?_;refine iL _ (λW h=>O6 (f W (h.at_ 0 rfl))) (nF ?_);rw[aA om om];refine gr _ (λ_=>cR) (gr _ (λ_=>bC aoR) (iL _ (λW h=>afN (h.at_ 1 rfl)) (abR ?_)));intro k a;refine mS (λh=>?_) (λh=>j (by have:=auS h;omega) k a.tail);have hle:=atQ h;rw[bD,aO Tm,aR GK (a.cell 1 rfl 0 rfl)];refine bL 2 atM I3 dc a rfl (f _ (a.at_ 0 rfl)) bN om om λv' w2 a=>?_;rw[bD,aO Tm];have d:v'.oneCell'=true:=kT (Sl.urow (a.at_ 2 rfl));refine aN 1 a rfl krx d (by show 0+0 < 2;omega) λw3 a=>?_;refine i om v' w3 ?_;unfold Sk;rw[fD];exact a.tail
end
theorem Bs (f:Nat)(hp:bY ah f=av)(s:List UInt8)(most:Int)(D:Nat->List UInt8×Int)(M:Mem)(w:ao)(l:M.has w)
  (n:∀{S:Nat->Prop} {w0 w:ao} {T:List Ent} {PK:PKT} {K:VWP} (b mo:Nat),mo<=1048576->cH S w0 w (Sk b mo cO [] (.mem M::T)) ->
   (∀h out W,D mo=(out,0)->out.length<=mo->cH S w0 W (Sk b mo h out (.mem M::T))->K (.tuple #[]) W)->(∀e h out W,D mo=([],e)->cH S w0 W (Sk b mo h out (.mem M::T))->PK [upA e] W) ->
   dZ ah f #[ae s,af b 0] w PK K) :
  jJ ah 174 #[ae s,ad most,.func (.func f) #[] #[]] M w (λv _=>v=zlT (iu D most)∧(iu D most).1.length<=1048576):=by
 refine aU l λK k=>D8 ?_;generalize c:iu D most=X at k;unfold iu at c;unfold Ab iN dx alx;refine bI (λb=>af b 0) [.string ⟨#[]⟩] 9 (λ_=>by kernel_rfl) (cH.memS l) λd q a=>?_;refine bI (λb=>af b 0) [ad 0] 30 (λ_=>by kernel_rfl) a λg w3 a=>?_;have a:cH M.A w w3 ([KG g 0,Kz d []]++([.mem M]++[])):=a;have a:=a.front;rw[AQ];refine⟨_,rfl,?_⟩;have fail:∀{W:ao} {L:List Ent} {e:Int},cH M.A w W (L++([.mem M,KG g 0,Kz d []]++[]))->X=([],e) ->
   bE { target:=.fn (.func 223) #[af d 0,af g 0],args:=#[]++#[] } (af d 0) (af g 0) K [upA e] W:=by
  intro W L e a m;have a:=a.front;have a:cH M.A w W (.mem M::KG g 0::Kz d []::(L++[])):=a;show pd ah _ K _ [upA e] W;unfold pd;refine qH sm OZ (mK (t0:=af d 0) (t1:=af g 0) ?_);simp only[iD,yX,Ba,upA,Eng.WH axM,rs,Zi ajM,ex,i_t,i_f,dx,ldx,fax,exx,stx,eqx,alx];refine bI (λb=>af b 0) [ad 0] 234 (λ_=>by kernel_rfl) a λr o a=>?_;refine jK 0 a rfl (new:=[ad e]) aqJ (λu hu=>by rw[auB.1 hu];rfl) rfl λt a=>?_;refine⟨?_⟩;have a:=a.drew
  repeat' first
  |apply And.intro
  |refine aC (bC anS) |>.mpr ?_
  |refine aC (aB Ig (a.cell 0 rfl 0 rfl)) |>.mpr ?_
  |refine aN 3 a rfl krx rfl sm (λ_ a=>?_)
  |refine aN 2 a rfl krx rfl sm (λ_ a=>?_)
  all_goals
   unfold fL;refine F3 (bJ (AtV.cell WU (a.cell 3 rfl 0 rfl))) (bJ (AtV.cell Ig (a.cell 2 rfl 0 rfl))) (k _ _ M _ 1 a rfl M.le_refl ⟨by rw[m];rfl,by rw[m];exact atU _⟩)
 try simp only[rs]
 refine mS (λj=>?_) (λj=>?_)
 rotate_left
 ·have:=auS j;rw[asU om] at c;exact fail (L:=[]) a c.symm
 have j:=atQ j;rw[asT om] at c;rw[ZF,show min most 1048576=((min most.toNat 1048576:Nat):Int) by omega];have i:min most.toNat 1048576<=1048576:=Nat.min_le_right _ _;generalize min most.toNat 1048576=mo at c i;have e:∀W:ao,(aW 236 #[(1,ad (mo:Int))]).run ah W=.ok (.value (.agg (skC cO mo).toArray)) W:=λW=>by kernel_rfl
 refine aC (e w3) |>.mpr ?_;refine bI (λb=>af b 0) (skC cO mo) 236 (λ_=>by kernel_rfl) a λfb o a=>?_;have a:=(cH.nilU a 5 1).swap;refine IC hp ?_;refine n (T:=[KG g 0,Kz d []]) fb mo i a (λov out W hd p a=>?_) (λe ov out W hd a=>?_)
 rotate_left
 ·exact fail (L:=[skE fb ov mo,kQ ov out]) a (c.symm.trans hd)
 rw[bD,aO Tm,aR GK (a.cell 0 rfl 0 rfl),vG atM atS atB (jR (a.at_ 1 rfl))];refine aN 4 a rfl krx rfl sm λx a=>?_;refine aN 3 a rfl krx rfl sm λy a=>?_;refine qH sm OZ (mK (t0:=af d 0) (t1:=af g 0) ?_);simp only[iD,yX,Ba,Eng.T3 axM,rs,i_t,i_f,dx,ldx,fax,exx,stx,eqx,alx];rw[hd] at c;refine F3 (bJ (AtV.cell WU (a.cell 4 rfl 0 rfl))) (bJ (AtV.cell Ig (a.cell 3 rfl 0 rfl))) (k _ _ M _ 2 a rfl M.le_refl ⟨by rw[<-c];rfl,by rw[<-c];dsimp only;omega⟩)
theorem Qf:bY ah 175=true:=krx
theorem alA (c:UInt8):-1<=Lx.digit c∧Lx.digit c<=15:=by
 unfold Lx.digit;have:=avI c
 repeat' split
 all_goals omega
theorem ZT {T:List Ent}(s:List UInt8)(b mo:Nat)(F:s.length<=1000000000)(hm:mo<=1048576)(j:cH S w0 w (Sk b mo cO [] T))
  (y:∀a out W,gj mo s (-1) []=(out,0)->out.length<=mo->cH S w0 W (Sk b mo a out T)->K (.tuple #[]) W) (r:∀e a out W,gj mo s (-1) []=([],e)->cH S w0 W (Sk b mo a out T)->PK [upA e] W) :
  dZ ah 175 #[ae s,af b 0] w PK K:=by
 generalize d:gj mo s (-1) []=X at y r;refine⟨Fp ?_⟩;unfold Cy iN lnx;rw[cZ atB];refine loop (λvs W=>∃(i:Nat) (half:Int) (ov:aq) (out:List UInt8),vs=[ad half,ad (i:Int)]∧i<=s.length∧-1<=half∧half<=15∧out.length<=mo∧gj mo (s.drop i) half out=X∧cH S w0 W (Sk b mo ov out T)) (λvs _=>s.length - n1 vs) ⟨0,-1,cO,[],rfl,om,om,om,sm,d,j⟩ ?_;clear j d;rintro vs p ⟨i,half,ov,out,rfl,hi,A,B,m,d,j⟩ _;simp only[wE,gd,rs,iN,dx,bnx,eqx,cx];by_cases u:(i:Int) < (s.length:Int)
 case neg=>
  simp only[u,asW,i_f];rw[auW om] at d;exact mS (λh=>by cases h) (λ_=>r 4 ov out p d.symm j)
 simp only[u,asX,i_t];have v:i < s.length:=om
 rw[auL v,gj] at d;have z:=atI v;generalize s[i]=c at d z;refine join λJ C=>?_;have next:∀(f:Int) (a:aq) (k:List UInt8) (W:ao),-1<=f->f<=15->k.length<=mo->gj mo (s.drop (i+1)) f k=X->cH S w0 W (Sk b mo a k T)->J [ad f] W:=by
  intro f a k W g1 g2 g3 g4 j;refine C _ _ λ_=>?_;simp only[vW,gd,rs,iN,bnx];rw[aA om om];exact aS ⟨i+1,f,a,k,rfl,om,g1,g2,g3,g4,j⟩ (by simp[n1,RowKit.intOf];omega)
 rw[NW atB om (by rw[atC];exact z)];refine qE (WE c p) (qE (O4 c p) ?_);have D:=alA c;by_cases hw:Oc.Dp c=av
 ·rw[asU hw] at d;rw[hw,i_t];exact next half ov out p A B m d j
 rw[asT hw] at d;rw[Bool.eq_false_iff.2 hw,i_f]
 try simp only[rs]
 have key:∀{n:Nat} {PK:PKT} {K:VWP},(out.length < mo->∀a W,cH S w0 W (Sk b mo a (out++[UInt8.ofNat n]) T)->K (.tuple #[]) W)->(mo<=out.length->∀W,cH S w0 W (Sk b mo ov out T)->PK [upA 5] W) ->
   DoX ah (aT 53 1 #[(0,.int .u8 ((UInt8.ofNat n).toNat:Int))]) p PK λt w=>dZ ah 178 #[af b 0,t] w PK K:=by
  intro n PK K E a2;refine JA _ j λG w2 j=>?_;exact TH (l:=[UInt8.ofNat n]) j (λW h=>gS h dc rfl) hm m sm (λg a W j=>E (by simp at g;omega) a W j) (λg W j=>a2 (by simp at g;omega) W j)
 by_cases o:c=62
 ·rw[asU o] at d;simp only[show ai ((c.toNat:Int)=62)=av by rw[o];rfl,i_t];refine join λH x=>?_;by_cases q:half < 0
  ·rw[asU q] at d;simp only[show ai ((0:Int)<=half)=au from asZ om,i_f];refine x _ _ λ_=>?_;unfold mX;exact y ov out p d.symm m j
  rw[asT q] at d;simp only[show ai ((0:Int)<=half)=av from atA om,i_t];rw[aA om om,show 16*half=((16*half.toNat:Nat):Int) by omega];refine aC (bA krx atS) |>.mpr ?_;rw[uX];refine key (λg a W j=>?_) (λg W j=>?_)
  ·rw[asT om] at d;refine x _ _ λ_=>?_;unfold mX;exact y a _ W d.symm (by simp;omega) j
  ·rw[asU g] at d;exact r 5 ov out W d.symm j
 rw[asT o] at d;simp only[show ai ((c.toNat:Int)=62)=au from asZ (λh=>o (ayP.1 (by rw[show (62:UInt8).toNat=62 from rfl];omega))),i_f];by_cases hd:Lx.digit c < 0
 ·rw[asU hd] at d;simp only[hd,asX,i_t];exact mS (λh=>by cases h) (λ_=>r 3 ov out p d.symm j)
 rw[asT hd] at d;simp only[hd,asW,i_f];by_cases q:half < 0
 ·rw[asU q] at d;simp only[q,asX,i_t];exact next _ ov out p om om m d j
 rw[asT q] at d;simp only[q,asW,i_f];rw[aA (n:=16*half) om om,aA om om,show 16*half+Lx.digit c=((16*half+Lx.digit c).toNat:Int) by omega];refine aC (bA krx atS) |>.mpr ?_;rw[uX];refine key (λg a W j=>?_) (λg W j=>?_)
 ·rw[asT om] at d;exact next _ a _ W om om (by simp;omega) d j
 ·rw[asU g] at d;exact r 5 ov out W d.symm j
theorem Ue (s:List UInt8)(most:Int)(M:Mem)(w:ao)(d:s.length<=1000000000)(a:M.has w):jJ ah 116 #[ae s,ad most] M w (λv _=>v=zlT (mi s most)∧(mi s most).1.length<=1048576):=by
 refine aU a λK e=>IM ?_;unfold FG nz;refine bG (cH.memS a) 0 rfl (Bs _ Qf s most _ M w a λb mo hm c f g=>ZT s b mo d hm c f g) ?_;rintro _ N i g1 ⟨rfl,h⟩ c;simp only[zlT,ex];exact e _ _ N _ 0 c rfl g1 ⟨rfl,h⟩
end
section
open Eng
def tQ(t0 w)(K:KT):=nz f61 1 [] [] [] (zg [0] [t0]) w K
theorem Bm:tQ t0 w k0->Calls ah 61 #[t0] w k0:=cw func61
def mF(t3 t4 w)(N1:JT)(K:KT):=nz f133 235 [N1] [nh 7 [3,4]] [] (zg [3,4] [t3,t4]) w K
def mM(t0 t3 t4 w)(N1:JT)(K:KT):=nz f133 43 [N1] [nh 7 [3,4],(8,[3],λs v j w f=>mF (vg v 0) (s 4) w (f 0) K)] [] (zg [0,3,4] [t0,t3,t4]) w K
def pK(t0 w)(K:KT):=nz f133 1 [] [(7,[3,4],λs v j w f=>mM (s 0) (vg v 0) (vg v 1) w (f 0) K)] [] (zg [0] [t0]) w K
theorem xN:pK t0 w k0->Calls ah 133 #[t0] w k0:=cz [(4,[3])] [(3,[3,4])] func133
def nI(t3 t4 w)(N1:JT)(K:KT):=nz f62 235 [N1] [nh 7 [3,4]] [] (zg [3,4] [t3,t4]) w K
def iI(t3 t5 t6 t7 t8 w)(a b:JT)(K:KT):=nz f62 12203 [nj,a,b] [nh 7 [3,4],nh 8 [3],nh 23 [3,7,8]] [] (zg [3,5,6,7,8] [t3,t5,t6,t7,t8]) w K
def oQ(t0 t3 t4 w)(N1:JT)(K:KT):=nz f62 43 [N1] [nh 7 [3,4],(23,[3,7,8],λs v j w f=>iI (vg v 0) (s 5) (s 6) (vg v 1) (vg v 2) w (f 1) (f 0) K),(8,[3],λs v j w f=>nI (vg v 0) (s 4) w (f 0) K)] [] (zg [0,3,4] [t0,t3,t4]) w K
def rF(t0 w)(K:KT):=nz f62 1 [] [(7,[3,4],λs v j w f=>oQ (s 0) (vg v 0) (vg v 1) w (f 0) K)] [] (zg [0] [t0]) w K
theorem Ak:rF t0 w k0->Calls ah 62 #[t0] w k0:=cz [(4,[3])] [(3,[3,4]),(11,[3,7,8])] func62
def mI(t0 t1 t5 w)(N1:JT)(K:KT):=nz f134 19 [N1] [nh 5 [5]] [(2,21)] (zg [0,1,5] [t0,t1,t5]) w K
def qD(t0 t1 w)(K:KT):=nz f134 1 [] [(5,[5],λs v j w f=>mI (s 0) (s 1) (vg v 0) w (f 0) K)] [] (zg [0,1] [t0,t1]) w K
theorem yD:qD t0 t1 w k0->Calls ah 134 #[t0,t1] w k0:=cz [] [(2,[5])] func134
def pN(e f d a w)(N1 D:JT)(K:KT):=
 bnx .lss 3 a (iN 128) w K λb w=>etx b d w λg w=>etx b a w λh w=>gtx b (iA .add 3 g h) w K λi w=>etx b e w λj w=>gtx b (mB .len #[9] 3 #[au] #[j]) w K λk w=>gtx b (iA .lss 3 i k) w K λl w=>dx (cW b l (.bool au)) w K λc w=>etx c e w λm w=>etx c d w λn w=>etx c a w λo w=>gtx c (iA .add 3 n o) w K λp w=>ctx c 134 #[m,p] w K λq w=>gtx c (iA .lss 3 q (iN 3)) w K λr w=>dx (cW c r (.bool au)) w K λs w=>IfX s (bnx .add 3 a (iN 1) w K λt w=>D [t] w) (Au w (λS3 w=>HDo ah S3 (iA .sub 3 a (iN 1)) λu=>HDo ah S3 (fZ 3 5 u) λv=>HDo ah S3 (iA .add 3 d a) λx=>HDo ah S3 (cT 9 e (ax d) (ax x) aw) λy=>DoX ah (aT 53 1 #[(0,v)]) w (ay 11 (pk K)) λz w=>S3 w∧(DoX ah (mB .append #[53,53] 53 #[au,au] #[f,z]) w (ay 11 (pk K)) λA w=>S3 w∧(DoX ah (mB .append #[53,9] 53 #[au,au] #[A,y]) w (ay 11 (pk K)) λB w=>S3 w∧(bnx .add 3 d a w K λC w=>N1 [B,C] w)))))
def qC(t0 t3 t4 w)(N1:JT)(K:KT):=nz f63 43 [N1] [nh 7 [3,4],(19,[5],λs v j w f=>pN (s 0) (s 3) (s 4) (vg v 0) w (f 1) (f 0) K)] [] (zg [0,3,4] [t0,t3,t4]) w K
def uL(t0 w)(K:KT):=nz f63 1 [] [(7,[3,4],λs v j w f=>qC (s 0) (vg v 0) (vg v 1) w (f 0) K)] [] (zg [0] [t0]) w K
theorem Bz:uL t0 w k0->Calls ah 63 #[t0] w k0:=cz [] [(3,[3,4]),(9,[5])] func63
end
section
open Eng Go.RowKit
def gp (most:Nat):Nat->List UInt8->List UInt8->List UInt8×Int
|0,_,_=>([],13)
|f+1,s,out=>
  match s with
 |[]=>([],4)
 |c::r=>
   if c.toNat=128 then (out,0)
   else if c.toNat < 128 then
    if r.length < c.toNat+1 then ([],4)
    else if most < out.length+(c.toNat+1) then ([],5)
    else gp most f (r.drop (c.toNat+1)) (out++r.take (c.toNat+1))
   else if r.length < 1 then ([],4)
   else if most < out.length+(257 - c.toNat) then ([],5)
   else gp most f (r.drop 1) (out++Lib.repeatL (r.take 1) (257 - c.toNat))
def od (s:List UInt8)(most:Int):List UInt8×Int:=iu (λm=>gp m (s.length+1) s []) most
theorem OT:bY ah 188=true:=krx
theorem HK {s:List UInt8}(h:s.length=1):∀n,(Lib.repeatL s n).length=n
|0=>rfl
|n+1=>by rw[BB,asY,HK h n,h]
theorem aaT {T:List Ent}(s:List UInt8)(b mo:Nat)(B:s.length<=1000000000)(hm:mo<=1048576)(d:cH S w0 w (Sk b mo cO [] T))
  (p:∀i out W,gp mo (s.length+1) s []=(out,0)->out.length<=mo->cH S w0 W (Sk b mo i out T)->K (.tuple #[]) W) (k:∀e i out W,gp mo (s.length+1) s []=([],e)->cH S w0 W (Sk b mo i out T)->PK [upA e] W) :
  dZ ah 188 #[ae s,af b 0] w PK K:=by
 generalize a:gp mo (s.length+1) s []=X at p k;refine⟨EU ?_⟩;unfold BQ nz;refine loop (λvs W=>∃(t:List UInt8) (ov:aq) (out:List UInt8),vs=[ae t]∧t.length<=s.length∧out.length<=mo∧(∃f,t.length < f∧gp mo f t out=X)∧cH S w0 W (Sk b mo ov out T)) (λvs _=>jC (vs.getD 0 undef)) ⟨s,cO,[],rfl,atE _,sm,⟨_,om,a⟩,d⟩ ?_;clear d a;rintro vs m ⟨t,ov,out,rfl,hi,o,⟨f,x,a⟩,d⟩ _;simp only[xC,gd,nz];obtain⟨f,rfl⟩:∃f',f=f'+1:=⟨f - 1,om⟩;unfold gp at a;have he:∀{u:List UInt8} {W:ao} {xo yo:Operand} {PK:PKT} {K:VWP},DoX ah (mEq .neq 9 xo yo (ae u) (.string ⟨#[]⟩)) W PK K=K (.bool (ai (u≠[]))) W:=λ{u _ _ _ _ _}=>Rb (b:=[]);rw[he];cases t with
|nil=>exact mS (λh=>by simp at h) (λ_=>k 4 ov out m a.symm d)
|cons c r=>
 rw[show ai ((c::r:List UInt8)≠[])=av from rfl];refine mS (λ_=>?_) (λh=>by cases h);dsimp only at a;rw[NW (c:=c) atB dc rfl,GO,yY atB dc (by simp;omega)];rw[show (1:Int).toNat=1 from rfl,List.drop_one,List.tail_cons];have y:=avI c;generalize c.toNat=n at a y;rw[atW] at hi x
 try simp only[rs]
 by_cases q:n=128
 ·rw[asU q] at a;simp only[show ai ((n:Int)=128)=av from atA om,i_t];exact p ov out m a.symm o d
 rw[asT q] at a;simp only[show ai ((n:Int)=128)=au from asZ om,i_f];have put:∀{l:List UInt8} {W:ao} {PK:PKT} {K:VWP},l.length<=1000->cH S w0 W (Sk b mo ov out T)->(out.length+l.length<=mo->∀i W,cH S w0 W (Sk b mo i (out++l) T)->K (.tuple #[]) W)->(mo < out.length+l.length->∀W,cH S w0 W (Sk b mo ov out T)->PK [upA 5] W) ->
   DoX ah (fZ 9 53 (ae l)) W PK λt w=>dZ ah 178 #[af b 0,t] w PK K:=by
  intro l W PK K C d z a2;refine GN atB atM atS d λD cap w2 d=>?_;exact TH d Na hm o om z a2
 by_cases v:n < 128
 ·rw[asU v] at a;simp only[show ai ((n:Int) < 128)=av from atA om,i_t];rw[cZ atB]
  try simp only[rs]
  refine mS (λg=>?_) (λg=>?_)
  rotate_left
  ·have:=auS g;rw[asU om] at a;exact k 4 ov out m a.symm d
  have g:=atQ g;rw[asT om] at a;rw[aA om om,O9 atB om om,show ((n:Int)+1).toNat=n+1 by omega];have j:(r.take (n+1)).length=n+1:=by rw[atF];omega
  refine put om d (λg2 i W d=>?_) (λg2 W d=>?_)
  ·rw[asT om] at a;rw[yY atB om om,show ((n:Int)+1).toNat=n+1 by omega];refine aS ⟨r.drop (n+1),i,_,rfl,by rw[atG];omega,by rw[asY];omega,⟨f,by rw[atG];omega,a⟩,d⟩ (by show jC (ae (r.drop (n+1))) < jC (ae (c::r));rw[fG,fG,atG,atW];omega)
  ·rw[asU om] at a;exact k 5 ov out W a.symm d
 rw[asT v] at a;simp only[show ai ((n:Int) < 128)=au from asZ om,i_f]
 try rw[he]
 refine mS (λg=>?_) (λg=>?_)
 rotate_left
 ·have g:=auS g;rw[asU (by rw[Decidable.not_not.1 g];decide)] at a;exact k 4 ov out m a.symm d
 have g:r≠[]:=atQ g;have g:0 < r.length:=awL.2 g;rw[asT om] at a;rw[O9 atB dc om,show (1:Int).toNat=1 from rfl]
 try simp only[rs]
 rw[aA om om,show (257:Int) - (n:Int)=((257 - n:Nat):Int) by omega];have j:(r.take 1).length=1:=by rw[atF];omega
 refine aJ d (Vg (r.take 1) (257 - n) m (by rw[j];omega) om) ?_;rintro _ w2 rfl d;have A:=HK j (257 - n);refine put om d (λg2 i W d=>?_) (λg2 W d=>?_)
 ·rw[asT om] at a;rw[yY atB om om,show (1:Int).toNat=1 from rfl];refine aS ⟨r.drop 1,i,_,rfl,by rw[atG];omega,by rw[asY];omega,⟨f,by rw[atG];omega,a⟩,d⟩ (by show jC (ae (r.drop 1)) < jC (ae (c::r));rw[fG,fG,atG,atW];omega)
 ·rw[asU om] at a;exact k 5 ov out W a.symm d
theorem UL (s:List UInt8)(most:Int)(M:Mem)(w:ao)(d:s.length<=1000000000)(a:M.has w):jJ ah 120 #[ae s,ad most] M w (λv _=>v=zlT (od s most)∧(od s most).1.length<=1048576):=by
 refine aU a λK e=>IB ?_;unfold F6 nz;refine bG (cH.memS a) 0 rfl (Bs _ OT s most _ M w a λb mo hm c f g=>aaT s b mo d hm c f g) ?_;rintro _ N i g1 ⟨rfl,h⟩ c;simp only[zlT,ex];exact e _ _ N _ 0 c rfl g1 ⟨rfl,h⟩
end
end Go.Proofs.YtlipjfcbjemicaaGreatDoor

namespace Go.Proofs.YtlipjfcbjemicaaGreatDoor
variable{K:VWP}{L:List Eng.Ent}{M:Eng.Mem}{P:Program}{PK PK2:PKT}{R:Ending->FrameMode->ao->Prop}{S:Nat->Prop}{W w w0:ao}{a colors:Int}{above key:List UInt8}{aj:List (Nat×List Nat)}{b cap d h i id mo most:Nat}{cs:List aq}{e:Eng.Ent}{fn:Func}{o:Ob}{os:List Ob}{q:Bool}{t0 v v2 va vc vk:aq}{u:FrameMode}{x:Pm}{t0 t1 t2 t3:aq}{k0:Eng.KT}
section
open Eng Go.RowKit
def iw:List Nat:=[52200625,614125,7225,85,1]
def gf (g:List UInt8)(i:Nat):Nat:=(g.getD i 84).toNat
def cr (g:List UInt8):Nat:=(((gf g 0*85+gf g 1)*85+gf g 2)*85+gf g 3)*85+gf g 4
def lh (g:List UInt8):Nat->Nat
|0=>0
|i+1=>lh g i+gf g i*iw.getD i 0
theorem rq (g:List UInt8)(i:Nat):gf g i < 256:=avI _
theorem xq (g:List UInt8):lh g 5=cr g:=by
 simp only[lh,cr,iw];show 0+gf g 0*52200625+gf g 1*614125+gf g 2*7225+gf g 3*85+gf g 4*1=_;omega
theorem lt5 (h:i < 5):i=0∨i=1∨i=2∨i=3∨i=4:=om
theorem ru (h:i < 5):iw.getD i 0<=52200625:=by
 rcases lt5 h with rfl|rfl|rfl|rfl|rfl<;>decide
theorem po (g:List UInt8):∀i,i<=5->lh g i<=i*13311159375
|0,_=>atE _
|i+1,h=>by
  have a:=po g i om;have b:gf g i*iw.getD i 0<=255*52200625:=awX (by have:=rq g i;omega) (ru om);simp only[lh];omega
def ky (mo:Nat)(r g out:List UInt8):List UInt8×Int:=
 if r=[] then ([],4)
 else if r.getD 0 0≠62∨g.length=1 then ([],3)
 else if g.length=0 then (out,0)
 else if 4294967296<=cr g then ([],3)
 else if mo < out.length+(g.length - 1) then ([],5)
 else (out++(bp (cr g)).take (g.length - 1),0)
def dy (mo:Nat):List UInt8->List UInt8->List UInt8->List UInt8×Int
|[],_,_=>([],4)
|c::r,g,out=>
  if Oc.Dp c=av then dy mo r g out
  else if c.toNat=122∧g.length=0 then (if mo < out.length+4 then ([],5) else dy mo r [] (out++[0,0,0,0]))
  else if 33<=c.toNat∧c.toNat<=117 then
   if g.length+1 < 5 then dy mo r (g++[c - 33]) out
   else if 4294967296<=cr (g++[c - 33]) then ([],3)
   else if mo < out.length+4 then ([],5)
   else dy mo r [] (out++bp (cr (g++[c - 33])))
  else if c.toNat=126 then ky mo r g out
  else ([],3)
def oe (s:List UInt8)(most:Int):List UInt8×Int:=iu (λm=>dy m s [] []) most
def Pws (M:Mem):Prop:=M.A 0∧∀i,i < 5->M.w.cell? ⟨0,i,aw⟩=ax (.int .u64 ((iw.getD i 0:Nat):Int))
theorem Pws.le {M N:Mem}(h:M.le N)(k:Pws M):Pws N:=⟨h.A _ k.1,λi hi=>Mem.cell h.has k.1 (k.2 i hi)⟩
def pwV:Value:=.agg #[.int .u64 52200625,.int .u64 614125,.int .u64 7225,.int .u64 85,.int .u64 1]
def gpC (d:List UInt8)(n:Nat):List Value:=aH d++[ad (n:Int)]
abbrev gpE (b:Nat)(d:List UInt8)(n:Nat):Ent:=.cells b (gpC d n) 201
def gp0 (g:List UInt8):List UInt8:=g++List.replicate (5 - g.length) 0
theorem oR {g:List UInt8}(h:g.length<=5):(gp0 g).length=5:=by unfold gp0;rw[asY,auK];omega
theorem Wf:kC ah 201 0=ax 0:=krx
theorem FY:kC ah 201 1=ax 5:=krx
theorem szGp:(Tryz.prog.info? 201).map (·.size)=ax 6:=krx
theorem sz4b:(Tryz.prog.info? 192).map (·.size)=ax 4:=krx
theorem arR:I2 ah 197=ax 5:=krx
theorem ZK {d:List UInt8}{n:Nat}(h:d.length=5):(gpC d n)[5]?=ax (ad (n:Int)):=by
 unfold gpC;rw[avU (by rw[gR];omega),gR,h];rfl
theorem aiC {d:List UInt8}{n:Nat}(h:i < d.length):(gpC d n)[i]?=ax (.int .u8 (d[i].toNat:Int)):=by
 unfold gpC;rw[avK (by rw[gR];exact h),fW h]
theorem XD {d:List UInt8}{n:Nat}{c:UInt8}(h:i < d.length):(gpC d n).set i (.int .u8 (c.toNat:Int))=gpC (d.set i c) n:=by
 unfold gpC;rw[List.set_append_left _ _ (by rw[gR];exact h)];simp[aH,ayX]
theorem ZC {d:List UInt8}{n m:Nat}(h:d.length=5):(gpC d n).set 5 (ad (m:Int))=gpC d m:=by
 unfold gpC;rw[axJ _ _ (by rw[gR];omega),gR,h];rfl
theorem MV {d:List UInt8}{n:Nat}:(gpC d n).length=d.length+1:=by simp[gpC,gR]
theorem aqW {n k:Nat}(a:k<=64):((n:Nat):Int).fdiv (2 ^ (min ((k:Nat):Int).toNat IntKind.u64.bits))=((n / 2 ^ k:Nat):Int):=by
 rw[show min ((k:Nat):Int).toNat IntKind.u64.bits=k by show min ((k:Nat):Int).toNat 64=k;omega,RH]
theorem wH {n:Nat}(h:n < 18446744073709551616):IntKind.u64.wrap (n:Int)=(n:Int):=by unfold IntKind.wrap;simp[IntKind.bits,IntKind.signed];omega
theorem Sl.pre {l:List UInt8}{T:TypeId}(hw:W.heap[b]?=ax (.cells (aH l).toArray T (0,0)))(e:h<=l.length):Sl W (bR b 0 h cap) 1 (l.take h).length (aH (l.take h)):=by
 have d:(l.take h).length=h:=by rw[atF];omega
 refine⟨by rw[gR,atY],ax ⟨b,0,aw⟩,cap,by rw[d],(λh=>by cases h),λp hp=>by
  cases hp;refine⟨λ_=>rfl,λj u a=>?_⟩;rw[atK];refine aG (T:=T) (cs:=aH l) hw ?_;have:aH (l.take h)=(aH l).take h:=by simp[aH,ayY]
  rw[this] at a;have c:=(atT.1 a).1;rw[atF] at c
  rwa [List.getElem?_take_of_lt om] at a⟩
section
variable {w:ao}{PK:PKT}{K:VWP}{S:Nat->Prop}{w0:ao}{L T:List Ent}
theorem ahI (h:Pws M)(hm:M.has W):DoX ah (aK 197 (af 0 0)) W PK K=K pwV W:=by
 refine Jn (AtV.agg (cs:=[.int .u64 52200625,.int .u64 614125,.int .u64 7225,.int .u64 85,.int .u64 1]) arR rfl λj v b=>?_);have a:j < 5:=(atT.1 b).1;rw[atK,Mem.cell hm h.1 (h.2 j a)];rcases lt5 a with rfl|rfl|rfl|rfl|rfl<;>exact b
theorem anL (hi:i < 5):(mIx 197 pwV (ad (i:Int))).run ah w=.ok (.value (.int .u64 ((iw.getD i 0:Nat):Int))) w:=by
 rcases lt5 hi with rfl|rfl|rfl|rfl|rfl<;>kernel_rfl
theorem VS (hi:i < 5):(mIA 199 (af b 0) (ad (i:Int))).run ah w=.ok (.value (af b i)) w:=by
 rcases lt5 hi with rfl|rfl|rfl|rfl|rfl<;>kernel_rfl
theorem asR (a:h<=4):(cT 192 (af b 0) aw (ax (ad (h:Int))) aw).run ah w=.ok (.value (bR b 0 h 4)) w:=by
 rcases (by omega:h=0∨h=1∨h=2∨h=3∨h=4) with rfl|rfl|rfl|rfl|rfl<;>kernel_rfl
theorem BN (a:cH S w0 w L)(j:Nat){n:Nat}{d:List UInt8}(hi:L[j]?=ax (gpE b d n))(hd:d.length=5):DoX ah (aK 3 (af b (0+5))) w PK K=K (ad (n:Int)) w:=aR bZ (a.cell j hi 5 (ZK hd))
theorem adY {q:Nat}{ov:aq}{out g:List UInt8}(f:cH S w0 w (Sk b mo ov out (gpE q (gp0 g) g.length::.mem M::T)))(x:Pws M)(hm:mo<=1048576)(y:out.length<=mo)(G:1<=g.length)(n:g.length<=5)
  (D:cr g < 4294967296->out.length+(g.length - 1)<=mo->∀o W,cH S w0 W (Sk b mo o (out++(bp (cr g)).take (g.length - 1)) (gpE q (gp0 []) 0::.mem M::T))->K (.tuple #[]) W)
  (H:4294967296<=cr g->∀W,cH S w0 W (Sk b mo ov out (.mem M::T))->PK [upA 3] W)
  (E:cr g < 4294967296->mo < out.length+(g.length - 1)->∀W,cH S w0 W (Sk b mo ov out (.mem M::T))->PK [upA 5] W) :
  dZ ah 184 #[af q 0,af b 0] w PK K:=by
 refine⟨Db ?_⟩;unfold vU nz
 try rw[bD]
 rw[aO FY,BN f 2 rfl (oR n)];refine loop (λvs W=>∃(i:Nat) (d:List UInt8),vs=[ad (i:Int)]∧g.length<=i∧i<=5∧d.length=5∧(∀j,j < i->(d.getD j 0).toNat=gf g j)∧cH S w0 W (Sk b mo ov out (gpE q d g.length::.mem M::T))) (λvs _=>5 - n0 vs) ⟨g.length,gp0 g,rfl,atE _,n,oR n,λj z=>by
  unfold gp0 gf;rw[atD,avK z,atD,atI z];rfl,f⟩ ?_
 clear f;rintro vs P ⟨i,d,rfl,I,A,hd,r,f⟩ _;simp only[qO,gd,rs,nz];by_cases m:(i:Int) < 5
 ·simp only[m,asX,i_t]
  try rw[bD]
  rw[aO Wf];refine aC (VS om) |>.mpr ?_;refine aN 2 f rfl krx rfl (by rw[MV];omega) λw2 f=>?_;rw[aA om om];refine aS ⟨i+1,d.set i 84,rfl,om,om,by rw[avS];exact hd,λj z=>?_,?_⟩ (by simp[n0,RowKit.intOf];omega)
  ·rw[atD,List.getElem?_set];split
   ·rename_i h;subst h
    rw[asU om];unfold gf;rw[atD,avJ om];rfl
   ·rw[<-atD];exact r j om
  ·have e:(gpC d g.length).set i (.int .u8 84)=gpC (d.set i 84) g.length:=XD (c:=84) om;show cH S w0 w2 (Sk b mo ov out (.cells q (gpC (d.set i 84) g.length) 201::.mem M::T));rw[<-e];exact f
 simp only[m,asW,i_f];have:i=5:=om
 subst this;rw[ahI x (f.hasM 3 rfl)];refine loop (λvs W=>∃i:Nat,vs=[.int .u64 ((lh g i:Nat):Int),ad (i:Int)]∧i<=5∧cH S w0 W (Sk b mo ov out (gpE q d g.length::.mem M::T))) (λvs _=>5 - n1 vs) ⟨0,rfl,om,f⟩ ?_;clear f;rintro vs w2 ⟨i,rfl,A,f⟩ _;simp only[qT,gd,rs,nz];by_cases m:(i:Int) < 5
 ·simp only[m,asX,i_t];refine aC (anL om) |>.mpr ?_
  try rw[bD]
  rw[aO Wf];refine aC (VS om) |>.mpr ?_;rw[aR M1 (f.cell 2 rfl i (aiC om))];refine aC (bA krx aAa) |>.mpr ?_;have J:d[i].toNat=gf g i:=by
   have:=r i om
   rwa [atD,atI om,awW] at this
  have Q:=rq g i;have R:gf g i*iw.getD i 0<=255*52200625:=awX om (ru om);have F:=po g i om;rw[J,wH om]
  try simp only[rs]
  rw[show ((gf g i:Nat):Int)*((iw.getD i 0:Nat):Int)=((gf g i*iw.getD i 0:Nat):Int) by push_cast;rfl,wH om,show ((lh g i:Nat):Int)+((gf g i*iw.getD i 0:Nat):Int)=((lh g (i+1):Nat):Int) by simp only[lh];push_cast;rfl,
   wH (by simp only[lh];omega),aA om om]
  exact aS ⟨i+1,rfl,om,f⟩ (by simp[n1,RowKit.intOf];omega)
 simp only[m,asW,i_f];have:i=5:=om
 subst this;have F:=po g 5 om;rw[xq] at F ⊢;refine mS (λh=>?_) (λh=>?_)
 rotate_left
 ·have:=auS h;exact H om w2 (f.sub (.cons_cons _ (.cons_cons _ (.cons _ (axE _)))))
 have s:=atQ h;have s:cr g < 4294967296:=om
 generalize cr g=v at D E s;have p:∀k:Nat,k<=64->∀{W:ao} {PK:PKT} {K:VWP},DoX ah (iA .shr 147 (.int .u64 (v:Int)) (.int .u64 (k:Int))) W PK K=K (.int .u64 ((v / 2 ^ k:Nat):Int)) W:=by
  intro k L W PK K;rw[EB om,aqW L]
 rw[show (24:Int)=((24:Nat):Int) from rfl,p 24 om];refine aC (bA krx atS) |>.mpr ?_;rw[uX,show (16:Int)=((16:Nat):Int) from rfl,p 16 om];refine aC (bA krx atS) |>.mpr ?_;rw[uX,show (8:Int)=((8:Nat):Int) from rfl,p 8 om];refine aC (bA krx atS) |>.mpr ?_;rw[uX];refine aC (bA krx atS) |>.mpr ?_;rw[uX];have B:∀{a b c d:Int} {W:ao} {PK:PKT} {K:VWP},DoX ah (aW 192 #[(0,.int .u8 a),(1,.int .u8 b),(2,.int .u8 c),(3,.int .u8 d)]) W PK K=K (.agg #[.int .u8 a,.int .u8 b,.int .u8 c,.int .u8 d]) W:=λ{_ _ _ _ _ _ _}=>aC krx;rw[B];refine bI (λb=>af b 0) (aH [0,0,0,0]) 192 (λ_=>by kernel_rfl) f λU w3 f=>?_;refine jK 0 f rfl (new:=aH (bp v)) sz4b bN rfl λV f=>?_
 try rw[bD]
 rw[aO FY,BN f 3 rfl hd]
 try simp only[rs]
 rw[aA om om,show ((g.length:Int) - 1)=((g.length - 1:Nat):Int) by omega];refine aC (asR om) |>.mpr ?_;have C:((bp v).take (g.length - 1)).length=g.length - 1:=by rw[atF,show (bp v).length=4 from rfl];omega
 refine TH (l:=(bp v).take (g.length - 1)) f (λW h=>?_) hm y om (λN o t f=>?_) (λN t f=>?_)
 ·have:=Sl.pre (cap:=4) (h:=g.length - 1) h (by show _<=4;omega);rw[C] at this ⊢;exact this
 rotate_left
 ·exact E s om t (f.sub (.cons_cons _ (.cons_cons _ (.cons _ (axE _)))))
 refine aC (show (aW 201 #[]).run ah t=.ok (.value (.agg (gpC (gp0 []) 0).toArray)) t by kernel_rfl) |>.mpr ?_
 try rw[bD]
 refine jK 2 f rfl (new:=gpC (gp0 []) 0) szGp (λu hu=>?_) (by rw[MV,hd];rfl) λO f=>?_
 ·rcases auF.1 hu with h|h
  ·exact bN u h
  ·rw[auB.1 h];rfl
 exact D s om o O f
end
theorem Nt:bY ah 183=true:=krx
section
variable {w:ao}{PK:PKT}{K:VWP}{S:Nat->Prop}{w0:ao}{T:List Ent}
theorem amC {o:Nat}{ov:aq}{r out g:List UInt8}(f:cH S w0 w (Sk b mo ov out (gpE o (gp0 g) g.length::.mem M::T)))(u:Pws M)(hm:mo<=1048576)(p:out.length<=mo)(m:g.length<=5)(E:r.length<=1000000000)
  (v:∀j a W,ky mo r g out=(a,0)->a.length<=mo->cH S w0 W (Sk b mo j a (.mem M::T))->K (.tuple #[]) W)
  (s:∀e j a W,ky mo r g out=([],e)->cH S w0 W (Sk b mo j a (.mem M::T))->PK [upA e] W) :
  dZ ah 185 #[ae r,af o 0,af b 0] w PK K:=by
 generalize c:ky mo r g out=X at v s;unfold ky at c;have drop:∀{ov out d n W},cH S w0 W (Sk b mo ov out (gpE o d n::.mem M::T))->cH S w0 W (Sk b mo ov out (.mem M::T)):=λ{_ _ _ _ _} f=>f.sub (.cons_cons _ (.cons_cons _ (.cons _ (axE _))));refine⟨Lw ?_⟩;unfold KP nz;rw[show (Value.string ⟨#[]⟩)=ae ([]:List UInt8) from rfl,Rb];refine mS (λh=>?_) (λh=>?_)
 rotate_left
 ·rw[asU (Decidable.not_not.1 (auS h))] at c;exact s 4 ov out w c.symm (drop f)
 have y:r≠[]:=atQ h;rw[asT y] at c;have C:=awL.2 y;rw[NW atB dc (get0 (i:=0) C)];have z:(((r.getD 0 0).toNat:Int)=62)↔r.getD 0 0=62:=⟨λh=>ayP.1 (by rw[show (62:UInt8).toNat=62 from rfl];omega),λh=>by rw[h];rfl⟩;have key:∀q:Bool,(q=av↔¬(r.getD 0 0≠62∨g.length=1))->dZ ah 179 #[.bool q,ad 3] w (pk (oV K PK)) λt19 w=>
   DoX ah (mFA 201 (af o 0) 1) w (pk (oV K PK)) λt22 w=>
   DoX ah (aK 3 t22) w (pk (oV K PK)) λt23 w=>
   DoX ah (iA .gtr 3 t23 (ad 0)) w (pk (oV K PK)) λt24 w=>
   IfX t24 (dZ ah 184 #[af o 0,af b 0] w (pk (oV K PK)) λt27 w=>oV K PK (.returned (.tuple #[])) w) (oV K PK (.returned (.tuple #[])) w):=by
  intro q t;refine mS (λh=>?_) (λh=>?_)
  rotate_left
  ·rw[asU (Decidable.not_not.1 (λk=>by rw[h] at t;exact absurd (t.2 k) dc))] at c;exact s 3 ov out w c.symm (drop f)
  rw[asT (t.1 h)] at c;have D:g.length≠1:=λk=>(t.1 h) (.inr k)
  try rw[bD]
  rw[aO FY,BN f 2 rfl (oR m)];simp only[rs];by_cases A:g.length=0
  ·rw[asU A] at c;simp only[show ai ((0:Int) < (g.length:Int))=au from asZ om,i_f];exact v ov out w c.symm p (drop f)
  rw[asT A] at c;simp only[show ai ((0:Int) < (g.length:Int))=av from atA om,i_t];refine adY f u hm p om m (λx B j W f=>?_) (λx W f=>?_) (λx B W f=>?_)
  ·rw[asT om,asT om] at c;exact v j _ W c.symm (by rw[asY,atF];omega) (drop f)
  ·rw[asU x] at c;exact s 3 ov out W c.symm f
  ·rw[asT om,asU B] at c;exact s 5 ov out W c.symm f
 simp only[rs];by_cases l:r.getD 0 0=62
 ·simp only[atA (z.2 l),rs]
  try rw[bD]
  rw[aO FY,BN f 2 rfl (oR m)];simp only[rs];refine key _ ?_;rw[decide_eq_true_iff];constructor
  ·intro h k;rcases k with k|k
   ·exact k l
   ·omega
  ·intro h;have:g.length≠1:=λk=>h (.inr k);omega
 ·simp only[asZ (λh=>l (z.1 h)),rs];refine key au ?_;constructor
  ·intro h;cases h
  ·intro h;exact absurd (.inl l) h
theorem XG (s:List UInt8)(b mo:Nat)(y:Pws M)(hs:s.length<=1000000000)(hm:mo<=1048576)(a:cH S w0 w (Sk b mo cO [] (.mem M::T)))
  (L:∀f out W,dy mo s [] []=(out,0)->out.length<=mo->cH S w0 W (Sk b mo f out (.mem M::T))->K (.tuple #[]) W) (v:∀e f out W,dy mo s [] []=([],e)->cH S w0 W (Sk b mo f out (.mem M::T))->PK [upA e] W) :
  dZ ah 183 #[ae s,af b 0] w PK K:=by
 generalize k:dy mo s [] []=X at L v;refine⟨Es ?_⟩;unfold zL nz;refine bI (λb=>af b 0) (gpC (gp0 []) 0) 201 (λ_=>by kernel_rfl) a λp P a=>?_;have a:cH S w0 P ([gpE p (gp0 []) 0]++([skE b cO mo,kQ cO []]++(.mem M::T))):=a;have a:=a.front;rw[cZ atB];refine loop (λvs W=>∃(i:Nat) (g:List UInt8) (ov:aq) (out:List UInt8),vs=[ad (i:Int)]∧i<=s.length∧g.length < 5∧out.length<=mo∧dy mo (s.drop i) g out=X∧cH S w0 W (Sk b mo ov out (gpE p (gp0 g) g.length::.mem M::T))) (λvs _=>s.length - n0 vs) ⟨0,[],cO,[],rfl,om,sm,sm,k,a⟩ ?_;clear a k;have drop:∀{ov out d n W},cH S w0 W (Sk b mo ov out (gpE p d n::.mem M::T))->cH S w0 W (Sk b mo ov out (.mem M::T)):=λ{_ _ _ _ _} a=>a.sub (.cons_cons _ (.cons_cons _ (.cons _ (axE _))));rintro vs w2 ⟨i,g,ov,out,rfl,hi,Q,q,k,a⟩ _;simp only[tD,gd,rs,nz];by_cases z:(i:Int) < (s.length:Int)
 case neg=>
  simp only[z,asW,i_f];rw[auW om] at k;exact mS (λh=>by cases h) (λ_=>v 4 ov out w2 k.symm (drop a))
 simp only[z,asX,i_t];have A:i < s.length:=om
 rw[auL A,dy] at k;have N:=atI A;generalize s[i]=c at k N;refine join λJ R=>?_;have next:∀(o:List UInt8) (f:aq) (j:List UInt8) (W:ao),o.length < 5->j.length<=mo->dy mo (s.drop (i+1)) o j=X->cH S w0 W (Sk b mo f j (gpE p (gp0 o) o.length::.mem M::T))->J [] W:=by
  intro o f j W g1 g2 g3 a;refine R _ _ λ_=>?_;simp only[tM,rs,nz];rw[aA om om];exact aS ⟨i+1,o,f,j,rfl,om,g1,g2,g3,a⟩ (by simp[n0,RowKit.intOf];omega)
 rw[NW atB om (by rw[atC];exact N)];refine qE (O4 c w2) ?_;by_cases hw:Oc.Dp c=av
 ·rw[asU hw] at k;rw[hw,i_t];exact next g ov out w2 Q q k a
 rw[asT hw] at k;rw[Bool.eq_false_iff.2 hw,i_f];have U:=avI c;have B:IntKind.u8.wrap ((c.toNat:Int) - 33)=((c - 33).toNat:Int):=by
  have:(c - 33).toNat=(c.toNat+223) % 256:=by rw[UInt8.toNat_sub];show (256 - 33+c.toNat) % 256=_;rw[axT]
  rw[this];unfold IntKind.wrap;simp[IntKind.bits,IntKind.signed];omega
 have rest:¬(c.toNat=122∧g.length=0)->IfX (.bool au) (DoX ah (aT 53 4 #[(0,(.int .u8 0)),(1,(.int .u8 0)),(2,(.int .u8 0)),(3,(.int .u8 0))]) w2 (pk (oV K PK)) λt28 w=>
   dZ ah 178 #[af b 0,t28] w (pk (oV K PK)) λt29 w=>J [] w) (DoX ah (iA .geq 5 (.int .u8 (c.toNat:Int)) (.int .u8 33)) w2 (pk (oV K PK)) λt32 w=>
 GDo t32 av (λE=>E (.int .u8 (c.toNat:Int)) w) w λt34 w=>
 GDo t32 av (λE=>DoX ah (iA .leq 5 t34 (.int .u8 117)) w (pk (oV K PK)) E) w λt35 w=>
 DoX ah (cW t32 t35 (.bool au)) w (pk (oV K PK)) λt36 w=>
 IfX t36 (DoX ah (mFA 201 (af p 0) 1) w (pk (oV K PK)) λt37 w=>
 DoX ah (aK 3 t37) w (pk (oV K PK)) λt38 w=>
 DoX ah (iA .sub 5 (.int .u8 (c.toNat:Int)) (.int .u8 33)) w (pk (oV K PK)) λt40 w=>
 DoX ah (mFA 201 (af p 0) 0) w (pk (oV K PK)) λt41 w=>
 DoX ah (mIA 199 t41 t38) w (pk (oV K PK)) λt42 w=>
 DoX ah (aV 5 t42 t40) w (pk (oV K PK)) λ_ w=>
 DoX ah (mFA 201 (af p 0) 1) w (pk (oV K PK)) λt43 w=>
 DoX ah (aK 3 t43) w (pk (oV K PK)) λt44 w=>
 DoX ah (iA .add 3 t44 (ad 1)) w (pk (oV K PK)) λt45 w=>
 DoX ah (mFA 201 (af p 0) 1) w (pk (oV K PK)) λt46 w=>
 DoX ah (aV 3 t46 t45) w (pk (oV K PK)) λ_ w=>
 DoX ah (mFA 201 (af p 0) 1) w (pk (oV K PK)) λt47 w=>
 DoX ah (aK 3 t47) w (pk (oV K PK)) λt48 w=>
 DoX ah (mEq .eql 3 (.tmp 48) (.const (ad 5)) t48 (ad 5)) w (pk (oV K PK)) λt49 w=>
 IfX t49 (dZ ah 184 #[af p 0,af b 0] w (pk (oV K PK)) λt51 w=>
 J [] w) (J [] w)) (DoX ah (mEq .eql 5 (.tmp 53) (.const (.int .u8 126)) (.int .u8 (c.toNat:Int)) (.int .u8 126)) w (pk (oV K PK)) λt54 w=>
 IfX t54 (DoX ah (iA .add 3 (ad (i:Int)) (ad 1)) w (pk (oV K PK)) λt57 w=>
 DoX ah (cT 9 (ae s) (ax t57) aw aw) w (pk (oV K PK)) λt58 w=>
 dZ ah 185 #[t58,af p 0,af b 0] w (pk (oV K PK)) λt60 w=>
 oV K PK (.returned (.tuple #[])) w) (dZ ah 179 #[(.bool au),(ad 3)] w (pk (oV K PK)) λt15 w=>
 J [] w))):=by
  intro G;rw[asT G] at k;simp only[i_f,rs];have tail:¬(33<=c.toNat∧c.toNat<=117)->IfX (.bool (ai ((c.toNat:Int)=126))) (DoX ah (iA .add 3 (ad (i:Int)) (ad 1)) w2 (pk (oV K PK)) λt57 w=>
 DoX ah (cT 9 (ae s) (ax t57) aw aw) w (pk (oV K PK)) λt58 w=>
 dZ ah 185 #[t58,af p 0,af b 0] w (pk (oV K PK)) λt60 w=>
 oV K PK (.returned (.tuple #[])) w) (dZ ah 179 #[(.bool au),(ad 3)] w2 (pk (oV K PK)) λt15 w=>
 J [] w):=by
   intro V;rw[asT V] at k;by_cases r:c.toNat=126
   ·rw[asU r] at k;simp only[show ai ((c.toNat:Int)=126)=av from atA om,i_t,rs];rw[aA om om,yY atB om om,show ((i:Int)+1).toNat=i+1 by omega];exact amC a y hm q om (by rw[atG];omega) (λf j W he C a=>L f j W (k.symm.trans he) C a) (λe f j W he a=>v e f j W (k.symm.trans he) a)
   ·rw[asT r] at k;simp only[show ai ((c.toNat:Int)=126)=au from asZ om,i_f];exact mS (λh=>by cases h) (λ_=>v 3 ov out w2 k.symm (drop a))
  by_cases D:33<=c.toNat
  case neg=>
   simp only[show ai ((33:Int)<=(c.toNat:Int))=au from asZ om,rs,i_f];have:=tail (λh=>D h.1);simp only[rs] at this;exact this
  simp only[show ai ((33:Int)<=(c.toNat:Int))=av from atA om,rs];by_cases t:c.toNat<=117
  case neg=>
   simp only[show ai ((c.toNat:Int)<=117)=au from asZ om,rs,i_f];have:=tail (λh=>t h.2);simp only[rs] at this;exact this
  simp only[show ai ((c.toNat:Int)<=117)=av from atA om,rs,i_t];rw[asU ⟨D,t⟩] at k;rw[aO FY,BN a 2 rfl (oR om)]
  try rw[agU]
  rw[B,aO Wf];refine aC (VS om) |>.mpr ?_;refine aN 2 a rfl krx rfl (by rw[MV,oR om];omega) λw3 a=>?_;rw[XD (by rw[oR om];omega)] at a;have Y:(gp0 g).set g.length (c - 33)=gp0 (g++[c - 33]):=by
   unfold gp0;rw[axJ _ _ (atE _),avV,asY,avA,show 5 - g.length=(5 - (g.length+1))+1 by omega,azR,avN,atJ];rfl
  rw[Y] at a;have F:(g++[c - 33]).length=g.length+1:=sm
  rw[<-F] at k;have m:(if (g++[c - 33]).length < 5 then dy mo (s.drop (i+1)) (g++[c - 33]) out else if 4294967296<=cr (g++[c - 33]) then ([],3) else if mo < out.length+4 then ([],5) else dy mo (s.drop (i+1)) [] (out++bp (cr (g++[c - 33]))))=X:=k;clear k;have a:cH S w0 w3 (Sk b mo ov out (gpE p (gp0 (g++[c - 33])) g.length::.mem M::T)):=a;generalize Z:g++[c - 33]=o at m a F;rw[aO FY,BN a 2 rfl (oR om)]
  try simp only[rs]
  rw[aA om om,aO FY,show (g.length:Int)+1=(o.length:Int) by omega];refine aN 2 a rfl krx rfl (by rw[MV,oR om];omega) λO a=>?_;rw[atK,ZC (oR om)] at a;have a:cH S w0 O (Sk b mo ov out (gpE p (gp0 o) o.length::.mem M::T)):=a;rw[aO FY,BN a 2 rfl (oR om)]
  try simp only[rs]
  by_cases u:o.length < 5
  ·rw[asU u] at m;simp only[show ai ((o.length:Int)=5)=au from asZ om,i_f];exact next o ov out O u q m a
  rw[asT u] at m;simp only[show ai ((o.length:Int)=5)=av from atA om,i_t];refine adY a y hm q om om (λH k6 f W a=>?_) (λH W a=>?_) (λH k6 W a=>?_)
  ·rw[asT om,asT om] at m;rw[show o.length - 1=4 by omega] at a;exact next [] f _ W dc (by rw[asY];show _+4<=_;omega) m a
  ·rw[asU H] at m;exact v 3 ov out W m.symm a
  ·rw[asT om,asU om] at m;exact v 5 ov out W m.symm a
 try simp only[rs]
 by_cases G:c.toNat=122
 case neg=>
  simp only[show ai ((c.toNat:Int)=122)=au from asZ om,rs];have:=rest (λh=>G h.1);simp only[rs] at this;exact this
 simp only[show ai ((c.toNat:Int)=122)=av from atA om,rs];rw[aO FY,BN a 2 rfl (oR om)];simp only[rs];by_cases x:g.length=0
 case neg=>
  simp only[show ai ((g.length:Int)=0)=au from asZ om,rs];have:=rest (λh=>x h.2);simp only[rs] at this;exact this
 rw[asU ⟨G,x⟩] at k;simp only[show ai ((g.length:Int)=0)=av from atA om,i_t];have I:g=[]:=axL x;subst I;refine bI (λb=>bR b 0 4 4) (aH [0,0,0,0]) 5 (λ_=>by kernel_rfl) a λb8 w3 a=>?_;refine TH (l:=[0,0,0,0]) a (λW h=>?_) hm q dc (λu f W a=>?_) (λu W a=>?_)
 ·exact Sl.pre (l:=[0,0,0,0]) (h:=4) h dc
 ·rw[asT (by simp at u;omega)] at k;exact next [] f _ W dc (by simpa using u) k a
 ·rw[asU (by simp at u;omega)] at k;exact v 5 ov out W k.symm (drop a)
end
theorem Ri (s:List UInt8)(most:Int)(M:Mem)(w:ao)(a:Pws M)(e:s.length<=1000000000)(c:M.has w):jJ ah 118 #[ae s,ad most] M w (λv _=>v=zlT (oe s most)∧(oe s most).1.length<=1048576):=by
 refine aU c λK f=>GL ?_;unfold Dz nz;refine bG (cH.memS c) 0 rfl (Bs _ Nt s most _ M w c λb mo hm d g h=>XG s b mo a e hm d g h) ?_;rintro _ N j g1 ⟨rfl,i⟩ d;simp only[zlT,ex];exact f _ _ N _ 0 d rfl g1 ⟨rfl,i⟩
def C0 (g:List UInt8):Nat->Nat
|0=>0
|i+1=>C0 g i*85+gf g i
section
variable {w:ao}{PK:PKT}{K:VWP}{S:Nat->Prop}{w0:ao}{L T:List Ent}
end
end
section
open Eng
def xL(t0 t1 w)(K:KT):=nz f78 1 [] [] [] (zg [0,1] [t0,t1]) w K
theorem Ac:xL t0 t1 w k0->Calls ah 78 #[t0,t1] w k0:=cw func78
def xG(t6 t25 t26 t27 w)(a:JT)(K:KT):=nz f79 351 [a] [nh 19 [6,27]] [] (zg [6,25,26,27] [t6,t25,t26,t27]) w K
def wP(t5 w)(K:KT):=nz f79 31 [] [(19,[6,27],λs v j w f=>xG (vg v 0) (s 25) (s 26) (vg v 1) w (f 0) K)] [] (zg [5] [t5]) w K
def Cq(t0 w)(K:KT):=nz f79 1 [] [(14,[5],λs v j w f=>wP (vg v 0) w K)] [] (zg [0] [t0]) w K
theorem Gq:Cq t0 w k0->Calls ah 79 #[t0] w k0:=cz [(7,[5])] [(9,[6,27])] func79
def Ae(t1 t8 w)(a:JT)(K:KT):=nz f81 639 [a] [nh 41 [8]] [] (zg [1,8] [t1,t8]) w K
def Af(t1 t8 t47 t48 t49 w)(a:JT)(K:KT):=nz f81 703 [a] [nh 33 [49],(41,[8],λs v j w f=>Ae (s 1) (vg v 0) w (f 0) K)] [] (zg [1,8,47,48,49] [t1,t8,t47,t48,t49]) w K
def zG(t1 t5 t8 t30 t31 t32 w)(a:JT)(K:KT):=nz f81 175 [a] [nh 21 [8,32],(33,[49],λs v j w f=>Af (s 1) (s 8) (s 47) (s 48) (vg v 0) w (f 0) K)] [] (zg [1,5,8,30,31,32] [t1,t5,t8,t30,t31,t32]) w K
def zQ(t1 t5 w)(K:KT):=nz f81 15 [] [(21,[8,32],λs v j w f=>zG (s 1) (s 5) (vg v 0) (s 30) (s 31) (vg v 1) w (f 0) K)] [] (zg [1,5] [t1,t5]) w K
def Dw(t0 t1 w)(K:KT):=nz f81 1 [] [(16,[5],λs v j w f=>zQ (s 1) (vg v 0) w K)] [] (zg [0,1] [t0,t1]) w K
theorem GY:Dw t0 t1 w k0->Calls ah 81 #[t0,t1] w k0:=cz [(8,[5])] [(10,[8,32]),(16,[49]),(20,[8])] func81
def aD (a:Deferred)(b:aq)(c:aq)(d:aq)(K:Ending->ao->Prop):=pd ah [.cell b 22,.cell c 40,.cell d 30] K [a]
def kY(a b c d1 w)(K:KT):=
 D6 ah [.cell a 22,.cell b 40,.cell c 30] K [d1] .returning w
def EV(b a c h i d d1 w)(y:JT)(K:KT):=
 DoX ah (iA .lss 3 d i) w (aD d1 b a c K) λj w=>IfX j (DoX ah (mIA 22 h d) w (aD d1 b a c K) λk w=>DoX ah (aK 9 k) w (aD d1 b a c K) λl w=>DoX ah (aK 40 a) w (aD d1 b a c K) λm w=>DoX ah (mIA 40 m d) w (aD d1 b a c K) λn w=>DoX ah (aK 27 n) w (aD d1 b a c K) λo w=>dZ ah 82 #[o] w (aD d1 b a c K) λf w=>DoX ah (mEq .neq 30 (.tmp 58) (.const (iN 0)) f (iN 0)) w (aD d1 b a c K) λe w=>etx e l w λp w=>GDo e av (λE=>DoX ah (mEq .neq 9 (.tmp 61) (.const (.string ⟨#[]⟩)) p (.string ⟨#[]⟩)) w (aD d1 b a c K) E) w λq w=>DoX ah (cW e q (.bool au)) w (aD d1 b a c K) λr w=>IfX r (DoX ah (aV 22 b (.slice aw 0 0)) w (aD d1 b a c K) λ_ w=>DoX ah (aV 40 a (.slice aw 0 0)) w (aD d1 b a c K) λ_ w=>DoX ah (aV 30 c f) w (aD d1 b a c K) λ_ w=>D6 ah [.cell b 22,.cell a 40,.cell c 30] K [d1] .returning w) (DoX ah (iA .add 3 d (iN 1)) w (aD d1 b a c K) λs w=>AtX [d1] [d1] (y [s] w))) (DrawX w (λw=>(DoX ah (aK 22 b) w (aD d1 b a c K) λg w=>(DoX ah (aK 40 a) w (aD d1 b a c K) λt w=>DoX ah (aV 22 b g) w (aD d1 b a c K) λ_ w=>DoX ah (aV 40 a t) w (aD d1 b a c K) λ_ w=>DoX ah (aV 30 c (iN 0)) w (aD d1 b a c K) λ_ w=>kY b a c d1 w K)∧(DoX ah (aV 22 b g) w (aD d1 b a c K) λ_ w=>DoX ah (aK 40 a) w (aD d1 b a c K) λu w=>DoX ah (aV 40 a u) w (aD d1 b a c K) λ_ w=>DoX ah (aV 30 c (iN 0)) w (aD d1 b a c K) λ_ w=>kY b a c d1 w K))∧(DoX ah (aK 40 a) w (aD d1 b a c K) λv w=>DoX ah (aK 22 b) w (aD d1 b a c K) λx w=>DoX ah (aV 22 b x) w (aD d1 b a c K) λ_ w=>DoX ah (aV 40 a v) w (aD d1 b a c K) λ_ w=>DoX ah (aV 30 c (iN 0)) w (aD d1 b a c K) λ_ w=>kY b a c d1 w K)))
def Gz(g a b c h i j d d1 w)(A:JT)(K:KT):=
 DoX ah (iA .lss 3 d j) w (aD d1 a b c K) λk w=>IfX k (DoX ah (mIA 22 i d) w (aD d1 a b c K) λl w=>DoX ah (aK 9 l) w (aD d1 a b c K) λm w=>dZ ah 80 #[m] w (aD d1 a b c K) λe w=>DoX ah (At e 0) w (aD d1 a b c K) λn w=>DoX ah (At e 1) w (aD d1 a b c K) λo w=>dZ ah 78 #[o,(iN 15)] w (aD d1 a b c K) λy w=>DoX ah (aK 22 a) w (aD d1 a b c K) λp w=>DoX ah (aT 22 1 #[(0,n)]) w (aD d1 a b c K) λq w=>DoX ah (mB .append #[22,22] 22 #[au,au] #[p,q]) w (aD d1 a b c K) λr w=>DoX ah (aV 22 a r) w (aD d1 a b c K) λ_ w=>DoX ah (iA .add 3 d (iN 1)) w (aD d1 a b c K) λs w=>AtX [d1] [d1] (A [s] w)) (DoX ah (aK 25 g) w (aD d1 a b c K) λt w=>DoX ah (mB .len #[22] 3 #[au] #[h]) w (aD d1 a b c K) λu w=>dZ ah 81 #[t,u] w (aD d1 a b c K) λv w=>DoX ah (aV 40 b v) w (aD d1 a b c K) λ_ w=>DoX ah (aK 22 a) w (aD d1 a b c K) λf w=>DoX ah (mB .len #[22] 3 #[au] #[f]) w (aD d1 a b c K) λx w=>Ax [(iN 0)] w (λz w B=>∀_:Sg,EV a b c f x (z.getD 0 undef) d1 w B K))
def J8(f w)(K:KT):=
 dx (Hr 25 f) w K λe w=>alx 22 w K λa w=>alx 40 w K λb w=>alx 30 w K λc w=>dx (Ub (.func 77) #[] #[a,b,c]) w K λg w=>DfrX (dfrV g #[]) (λd1=>DoX ah (mFA 25 e 0) w (aD d1 a b c K) λh w=>DoX ah (aK 3 h) w (aD d1 a b c K) λi w=>DoX ah (mEq .eql 3 (.tmp 15) (.const (iN 9)) i (iN 9)) w (aD d1 a b c K) λj w=>dZ ah 78 #[j,(iN 10)] w (aD d1 a b c K) λo w=>DoX ah (aK 25 e) w (aD d1 a b c K) λk w=>dZ ah 79 #[k] w (aD d1 a b c K) λd w=>DoX ah (mB .len #[22] 3 #[au] #[d]) w (aD d1 a b c K) λl w=>DoX ah (iA .leq 3 l (iN 8)) w (aD d1 a b c K) λm w=>dZ ah 78 #[m,(iN 6)] w (aD d1 a b c K) λp w=>DoX ah (mB .len #[22] 3 #[au] #[d]) w (aD d1 a b c K) λn w=>Ax [(iN 0)] w (λq w r=>∀_:Sg,Gz e a b c d d n (q.getD 0 undef) d1 w r K))
theorem LC:J8 t0 w k0->Calls ah 28 #[t0] w k0:=cz [] [(6,[26]),(14,[48])] func28
def wB(t5 t7 t21 t22 t23 w)(N1:JT)(K:KT):=nz f13 175 [N1] [nh 13 [7,23]] [] (zg [5,7,21,22,23] [t5,t7,t21,t22,t23]) w K
def B1(t0 w)(K:KT):=nz f13 1 [] [(13,[7,23],λs v j w f=>wB (s 5) (vg v 0) (s 21) (s 22) (vg v 1) w (f 0) K)] [] (zg [0] [t0]) w K
theorem FX:B1 t0 w k0->Calls ah 13 #[t0] w k0:=cz [] [(6,[7,23])] func13
def A5(a w)(K:KT):=
 K (.returned (.tuple #[a,(.bool av)])) w
def B5(a w)(b:JT):=
 b [a] w
def BM(a w)(b:JT):=
 b [a] w
def B2(a w)(b:JT):=
 b [a] w
def BK(a w)(b:JT):=
 b [a] w
def EZ(a w)(K:KT):=
 D9 (λj=>D9 (λp=>D9 (λq=>D9 (λr=>D9 (λs=>eqx .eql 9 (.tmp 4) (.const (.string ⟨#[65,72,120]⟩)) a (.string ⟨#[65,72,120]⟩) w K λb w=>IfX b (s [(.string ⟨#[65,83,67,73,73,72,101,120,68,101,99,111,100,101]⟩)] w) (eqx .eql 9 (.tmp 4) (.const (.string ⟨#[65,83,67,73,73,72,101,120,68,101,99,111,100,101]⟩)) a (.string ⟨#[65,83,67,73,73,72,101,120,68,101,99,111,100,101]⟩) w K λc w=>IfX c (s [a] w) (eqx .eql 9 (.tmp 4) (.const (.string ⟨#[65,56,53]⟩)) a (.string ⟨#[65,56,53]⟩) w K λd w=>IfX d (r [(.string ⟨#[65,83,67,73,73,56,53,68,101,99,111,100,101]⟩)] w) (eqx .eql 9 (.tmp 4) (.const (.string ⟨#[65,83,67,73,73,56,53,68,101,99,111,100,101]⟩)) a (.string ⟨#[65,83,67,73,73,56,53,68,101,99,111,100,101]⟩) w K λe w=>IfX e (r [a] w) (eqx .eql 9 (.tmp 4) (.const (.string ⟨#[82,76]⟩)) a (.string ⟨#[82,76]⟩) w K λf w=>IfX f (q [(.string ⟨#[82,117,110,76,101,110,103,116,104,68,101,99,111,100,101]⟩)] w) (eqx .eql 9 (.tmp 4) (.const (.string ⟨#[82,117,110,76,101,110,103,116,104,68,101,99,111,100,101]⟩)) a (.string ⟨#[82,117,110,76,101,110,103,116,104,68,101,99,111,100,101]⟩) w K λg w=>IfX g (q [a] w) (eqx .eql 9 (.tmp 4) (.const (.string ⟨#[70,108]⟩)) a (.string ⟨#[70,108]⟩) w K λh w=>IfX h (p [(.string ⟨#[70,108,97,116,101,68,101,99,111,100,101]⟩)] w) (eqx .eql 9 (.tmp 4) (.const (.string ⟨#[70,108,97,116,101,68,101,99,111,100,101]⟩)) a (.string ⟨#[70,108,97,116,101,68,101,99,111,100,101]⟩) w K λi w=>IfX i (p [a] w) (K (.returned (.tuple #[(.string ⟨#[]⟩),(.bool au)])) w))))))))) (λk w=>∀_:Sg,BK (k.getD 0 undef) w j)) (λl w=>∀_:Sg,B2 (l.getD 0 undef) w j)) (λm w=>∀_:Sg,BM (m.getD 0 undef) w j)) (λn w=>∀_:Sg,B5 (n.getD 0 undef) w j)) (λo w=>∀_:Sg,A5 (o.getD 0 undef) w K)
theorem IE:EZ t0 w k0->Calls ah 80 #[t0] w k0:=cz [(15,[0]),(999999,[0])] [] func80
def Ds(w)(K:KT):=nz f135 1 [] [] [] (zg [] []) w K
theorem G6:Ds w k0->Calls ah 135 #[] w k0:=cw func135
def BE(t0 t1 w)(K:KT):=nz f208 1 [] [] [] (zg [0,1] [t0,t1]) w K
theorem GA:BE t0 t1 w k0->Calls ah 208 #[t0,t1] w k0:=cw func208
def HV(c w)(K:KT):=
 dx (Hr 25 c) w K λa w=>alx 27 w K λb w=>fax 25 a 0 w K λd w=>ldx 3 d w K λe w=>ecx .eql 3 4 0 e w K λf w=>IfX f (cx 135 #[] w K λg w=>stx 27 b g w K λ_ w=>A2 ah [.cell b 27] w K) (fax 25 a 0 w K λh w=>ldx 3 h w K λi w=>ecx .eql 3 8 7 i w K λj w=>cx 78 #[j,(iN 10)] w K λr w=>Au w (λS1 w=>HDo ah S1 (aK 25 a) λk=>HDo ah S1 (aK 25 a) λl=>HDo ah S1 (aK 25 a) λm=>dZ ah 208 #[k,(.string ⟨#[80,114,101,100,105,99,116,111,114]⟩)] w (ay 4 (pk K)) λn w=>S1 w∧(dZ ah 208 #[l,(.string ⟨#[67,111,108,111,114,115]⟩)] w (ay 4 (pk K)) λo w=>S1 w∧(dZ ah 208 #[m,(.string ⟨#[67,111,108,117,109,110,115]⟩)] w (ay 4 (pk K)) λp w=>S1 w∧(HDo ah (λ_=>True) (aW 27 #[(0,n),(1,o),(2,p)]) λq=>DoX ah (aV 27 b q) w (ay 4 (pk K)) λ_ w=>(A2 ah [.cell b 27] w K))))))
theorem Ju:HV t0 w k0->Calls ah 147 #[t0] w k0:=cw func147
def DR(t0 w)(K:KT):=nz f148 1 [] [] [] (zg [0] [t0]) w K
theorem GG:DR t0 w k0->Calls ah 148 #[t0] w k0:=cw func148
def Gm(t0 t1 t2 w)(K:KT):=nz f15 1 [] [] [] (zg [0,1,2] [t0,t1,t2]) w K
theorem Ix:Gm t0 t1 t2 w k0->Calls ah 15 #[t0,t1,t2] w k0:=cw func15
def Kj(t0 t1 w)(K:KT):=nz f54 1 [] [] [(12,7)] (zg [0,1] [t0,t1]) w K
theorem Lk:Kj t0 t1 w k0->Calls ah 54 #[t0,t1] w k0:=cw func54
def Gg(t0 w)(K:KT):=nz f113 1 [] [] [] (zg [0] [t0]) w K
theorem Ij:Gg t0 w k0->Calls ah 113 #[t0] w k0:=cw func113
def qV(t0 t1 w)(K:KT):=nz f171 1 [] [] [] (zg [0,1] [t0,t1]) w K
theorem tJ:qV t0 t1 w k0->Calls ah 171 #[t0,t1] w k0:=cw func171
def Gp(t0 w)(K:KT):=nz f115 1 [] [] [] (zg [0] [t0]) w K
theorem Iz:Gp t0 w k0->Calls ah 115 #[t0] w k0:=cw func115
def AW(t0 t1 w)(K:KT):=nz f173 1 [] [] [] (zg [0,1] [t0,t1]) w K
theorem FU:AW t0 t1 w k0->Calls ah 173 #[t0,t1] w k0:=cw func173
def D3(t0 w)(K:KT):=nz f52 1 [] [] [] (zg [0] [t0]) w K
theorem Hn:D3 t0 w k0->Calls ah 52 #[t0] w k0:=cw func52
def BO(t0 t1 t2 w)(K:KT):=nz f17 1 [] [] [] (zg [0,1,2] [t0,t1,t2]) w K
theorem B4:BO t0 t1 t2 w k0->Calls ah 17 #[t0,t1,t2] w k0:=cw func17
def DD(t0 t1 w)(K:KT):=nz f30 1 [] [] [] (zg [0,1] [t0,t1]) w K
theorem G9:DD t0 t1 w k0->Calls ah 30 #[t0,t1] w k0:=cw func30
def mU(t4 t8 w)(K:KT):=nz f22 4095 [] [] [] (zg [4,8] [t4,t8]) w K
def wI(o b a e g h c p q d w)(J:JT)(K:KT):=
 bnx .lss 3 d q w K λr w=>IfX r (iax 22 p d w K λs w=>ldx 9 s w K λt w=>iax 40 o d w K λu w=>ldx 27 u w K λv w=>cx 68 #[v] w K λi w=>exx i 0 w K λx w=>exx i 1 w K λj w=>alx 25 w K λf w=>stx 25 f x w K λ_ w=>ecx .neq 30 93 0 j w K λy w=>IfX y (dx (aW 25 #[]) w K λz w=>stx 25 a z w K λ_ w=>A2 ah [.cell a 25,.val j] w K) (cx 69 #[t] w K λA w=>dx (aT 23 1 #[(0,A)]) w K λB w=>apx 23 g B w K λC w=>ldx 25 f w K λD w=>dx (aT 23 1 #[(0,D)]) w K λF w=>apx 23 h F w K λG w=>gfx c (mFA 25 f 0) w K λH w=>gfx c (aK 3 H) w K λI w=>gfx c (mEq .neq 3 (.tmp 109) (.const (iN 0)) I (iN 0)) w K λL w=>dx (cW c (.bool av) L) w K λM w=>bnx .add 3 d (iN 1) w K λO w=>J [e,C,G,M,O] w)) (Au w (λS4 w=>HDo ah S4 (aK 25 b) λP=>dZ ah 71 #[g] w (ay 6 (pk K)) λQ w=>S4 w∧(dZ ah 70 #[P,(.string ⟨#[70,105,108,116,101,114]⟩),Q] w (ay 6 (pk K)) λk w=>(HDo ah (λ_=>True) (At k 0) λR=>HDo ah (λ_=>True) (At k 1) λl=>DoX ah (aV 25 b R) w (ay 6 (pk K)) λ_ w=>(ecx .neq 30 120 0 l w K λS w=>IfX S (dx (aW 25 #[]) w K λT w=>stx 25 a T w K λ_ w=>A2 ah [.cell a 25,.val l] w K) (D9 (λE=>IfX c (Au w (λS6 w=>HDo ah S6 (aK 25 b) λU=>dZ ah 71 #[h] w (ay 6 (pk K)) λV w=>S6 w∧(dZ ah 70 #[U,(.string ⟨#[68,101,99,111,100,101,80,97,114,109,115]⟩),V] w (ay 6 (pk K)) λm w=>(HDo ah (λ_=>True) (At m 0) λW=>HDo ah (λ_=>True) (At m 1) λn=>DoX ah (aV 25 b W) w (ay 6 (pk K)) λ_ w=>(ecx .neq 30 132 0 n w K λX w=>IfX X (dx (aW 25 #[]) w K λY w=>stx 25 a Y w K λ_ w=>A2 ah [.cell a 25,.val n] w K) (E [e] w)))))) (E [e] w)) (λN w=>∀_:Sg,mU b a w K)))))))
def mT(b f g c a h d w)(N1:JT)(K:KT):=
 bnx .geq 3 d (iN 0) w K λm w=>IfX m (Au w (λS2 w=>HDo ah S2 (mIA 22 b d) λn=>HDo ah S2 (aK 9 n) λo=>HDo ah S2 (mIA 40 f d) λp=>HDo ah S2 (aK 27 p) λq=>dZ ah 17 #[o,q,g] w (ay 14 (pk K)) λi w=>S2 w∧(HDo ah S2 (At i 0) λr=>HDo ah S2 (At i 1) λj=>ecx .neq 30 59 0 j w K λs w=>IfX s (dx (aW 25 #[]) w K λt w=>stx 25 a t w K λ_ w=>A2 ah [.cell a 25,.val j] w K) (bnx .sub 3 d (iN 1) w K λu w=>N1 [r,h,u] w)))) (ldx 25 c w K λv w=>cx 30 #[v,g] w K λk w=>exx k 0 w K λx w=>exx k 1 w K λl w=>stx 25 c x w K λ_ w=>ecx .neq 30 69 0 l w K λe w=>efx e b w λy w=>gfx e (mB .len #[22] 3 #[au] #[y]) w K λz w=>gfx e (mEq .eql 3 (.tmp 73) (.const (iN 0)) z (iN 0)) w K λA w=>dx (cW e (.bool av) A) w K λB w=>IfX B (ldx 25 c w K λC w=>stx 25 a C w K λ_ w=>A2 ah [.cell a 25,.val l] w K) (lnx 22 b w K λD w=>Ax [h,(.slice aw 0 0),(.slice aw 0 0),(.bool au),(iN 0)] w (λE w F=>∀_:Sg,wI f c a (E.getD 0 undef) (E.getD 1 undef) (E.getD 2 undef) (E.getD 3 undef) b D (E.getD 4 undef) w F K)))
def BS(t0 t1 t2 t3 w)(K:KT):=nz f22 1 [] [(15,[3,9,11],λs v j w f=>mT (s 1) (s 2) (vg v 0) (s 4) (s 8) (vg v 1) (vg v 2) w (f 0) K)] [] (zg [0,1,2,3] [t0,t1,t2,t3]) w K
theorem E1:BS t0 t1 t2 t3 w k0->Calls ah 22 #[t0,t1,t2,t3] w k0:=cz [(34,[9])] [(7,[3,9,11]),(18,[9,12,13,14,80])] func22
def xZ(d w)(K:KT):=
 dx (Hr 27 d) w K λa w=>alx 25 w K λb w=>nK w (λy=>QDo ah y (aK 27 a) λe=>QCall ah y 135 #[] λf=>QDo ah y (mEq .eql 27 (.tmp 4) (.tmp 5) e f) λg=>
 ∀w,y w ->
 IfX g (dx (aW 25 #[]) w K λh w=>stx 25 b h w K λ_ w=>A2 ah [.cell b 25,.val (iN 0)] w K) (Au w (λS2 w=>HDo ah (λ_=>True) (mFA 27 a 1) λi=>HDo ah S2 (aK 3 i) λj=>HDo ah (λ_=>True) (mFA 27 a 2) λk=>HDo ah S2 (aK 3 k) λl=>HDo ah (λ_=>True) (mFA 27 a 0) λm=>HDo ah S2 (aK 3 m) λn=>dZ ah 69 #[(.string ⟨#[67,111,108,111,114,115]⟩)] w (ay 9 (pk K)) λo w=>S2 w∧(dZ ah 137 #[j] w (ay 9 (pk K)) λp w=>S2 w∧(dZ ah 69 #[(.string ⟨#[67,111,108,117,109,110,115]⟩)] w (ay 9 (pk K)) λq w=>S2 w∧(dZ ah 137 #[l] w (ay 9 (pk K)) λr w=>S2 w∧(dZ ah 69 #[(.string ⟨#[80,114,101,100,105,99,116,111,114]⟩)] w (ay 9 (pk K)) λs w=>S2 w∧(dZ ah 137 #[n] w (ay 9 (pk K)) λt w=>S2 w∧(DoX ah (aT 23 6 #[(0,o),(1,p),(2,q),(3,r),(4,s),(5,t)]) w (ay 9 (pk K)) λu w=>S2 w∧(dZ ah 136 #[u] w (ay 9 (pk K)) λc w=>S2 w∧(HDo ah (λ_=>True) (At c 0) λv=>HDo ah (λ_=>True) (At c 1) λx=>DoX ah (aV 25 b v) w (ay 9 (pk K)) λ_ w=>(A2 ah [.cell b 25,.val x] w K))))))))))))
theorem zR:xZ t0 w k0->Calls ah 68 #[t0] w k0:=cw func68
def DB(t0 w)(K:KT):=nz f71 1 [] [] [] (zg [0] [t0]) w K
theorem Ho:DB t0 w k0->Calls ah 71 #[t0] w k0:=cw func71
def DC(t12 t13 t14 t51 w)(a:JT)(K:KT):=nz f67 30399 [a] [nh 33 [12,51]] [(20,10)] (zg [12,13,14,51] [t12,t13,t14,t51]) w K
def vO(t1 t7 t12 t49 t50 t51 w)(a:JT)(K:KT):=nz f67 703 [a] [nh 33 [12,51],(40,[12],λs v j w f=>DC (vg v 0) (s 13) (s 14) (s 51) w (f 0) K)] [] (zg [1,7,12,49,50,51] [t1,t7,t12,t49,t50,t51]) w K
def DZ(t0 t1 t7 t18 t19 t20 w)(N1:JT)(K:KT):=nz f67 87 [N1] [nh 11 [7,20],(33,[12,51],λs v j w f=>vO (s 1) (s 7) (vg v 0) (s 49) (s 50) (vg v 1) w (f 0) K)] [] (zg [0,1,7,18,19,20] [t0,t1,t7,t18,t19,t20]) w K
def HN(t0 t1 w)(K:KT):=nz f67 1 [] [(11,[7,20],λs v j w f=>DZ (s 0) (s 1) (vg v 0) (s 18) (s 19) (vg v 1) w (f 0) K)] [] (zg [0,1] [t0,t1]) w K
theorem Jl:HN t0 t1 w k0->Calls ah 67 #[t0,t1] w k0:=cz [(20,[12])] [(5,[7,20]),(16,[12,51])] func67
def sB(t0 t1 w)(K:KT):=nz f121 1 [] [] [] (zg [0,1] [t0,t1]) w K
theorem AP:sB t0 t1 w k0->Calls ah 121 #[t0,t1] w k0:=cw func121
def oF(t0 t1 w)(K:KT):=nz f122 1 [] [] [] (zg [0,1] [t0,t1]) w K
theorem xI:oF t0 t1 w k0->Calls ah 122 #[t0,t1] w k0:=cw func122
end
section
open Eng Go.RowKit
namespace Ff
abbrev nHx:List UInt8:=[65,83,67,73,73,72,101,120,68,101,99,111,100,101]
abbrev n85:List UInt8:=[65,83,67,73,73,56,53,68,101,99,111,100,101]
abbrev nRL:List UInt8:=[82,117,110,76,101,110,103,116,104,68,101,99,111,100,101]
abbrev nFl:List UInt8:=[70,108,97,116,101,68,101,99,111,100,101]
abbrev aQ:List UInt8:=[70,105,108,116,101,114]
abbrev bW:List UInt8:=[68,101,99,111,100,101,80,97,114,109,115]
abbrev CY:List UInt8:=[80,114,101,100,105,99,116,111,114]
abbrev Dq:List UInt8:=[67,111,108,111,114,115]
abbrev Dj:List UInt8:=[67,111,108,117,109,110,115]
abbrev Y5:List UInt8:=[66,105,116,115,80,101,114,67,111,109,112,111,110,101,110,116]
def full (n:List UInt8):List UInt8:=
 if n=[65,72,120]∨n=nHx then nHx
 else if n=[65,56,53]∨n=n85 then n85
 else if n=[82,76]∨n=nRL then nRL
 else if n=[70,108]∨n=nFl then nFl
 else []
def bK:Pm:=⟨1,1,1⟩
def num (o:Ob)(key:List UInt8):Int×Int:=match Vl.get o key with|none=>(1,0)|some v=>if v.k=2 then (v.n,0) else (0,10)
def KX (o:Ob):Pm×Int:=
 if o.k=0 then (bK,0)
 else if o.k=7∧(num o CY).2=0∧(num o Dq).2=0∧(num o Dj).2=0 then (⟨(num o CY).1,(num o Dq).1,(num o Dj).1⟩,0)
 else (⟨0,0,0⟩,10)
def eight (o:Ob):Bool:=match Vl.get o Y5 with|none=>av|some v=>ai (v.k=2)&&ai (v.n=8)
theorem jA (n:List UInt8):full n=nHx∨full n=n85∨full n=nRL∨full n=nFl∨full n=[]:=by
 unfold full
 repeat' split
 all_goals simp
end Ff
theorem FM (n:List UInt8)(w:ao):Ret ah 80 #[ae n] w (λv w'=>v=.tuple #[ae (Ff.full n),.bool (ai (Ff.full n≠[]))]∧w=w'):=by
 refine aL λK k=>IE ?_;unfold EZ eqx;refine join λs l=>join λt o=>join λu p=>join λx q=>join λy r=>?_;have fin:∀m:List UInt8,m=Ff.full n->m≠[]->s [ae m] w:=λm hm a=>l _ _ λ_=>by
  simp only[A5,gd];exact k _ _ ⟨by rw[<-hm,atA a],rfl⟩
 have f5:∀m:List UInt8,m=Ff.full n->m≠[]->y [ae m] w:=λm hm a=>r _ _ λ_=>by
  simp only[BK,gd];exact fin m hm a
 have f4:∀m:List UInt8,m=Ff.full n->m≠[]->x [ae m] w:=λm hm a=>q _ _ λ_=>by
  simp only[B2,gd];exact fin m hm a
 have f3:∀m:List UInt8,m=Ff.full n->m≠[]->u [ae m] w:=λm hm a=>p _ _ λ_=>by
  simp only[BM,gd];exact fin m hm a
 have f2:∀m:List UInt8,m=Ff.full n->m≠[]->t [ae m] w:=λm hm a=>o _ _ λ_=>by
  simp only[B5,gd];exact fin m hm a
 clear l o p q r fin;rw[Lg];by_cases c:n=[65,72,120]
 ·rw[atA c,i_t];exact f5 _ (by unfold Ff.full;rw[asU (.inl c)]) dc
 rw[asZ c,i_f,Lg];by_cases b:n=Ff.nHx
 ·rw[atA b,i_t];exact f5 _ (by unfold Ff.full;rw[asU (.inr b),b]) (by rw[b];decide)
 rw[asZ b,i_f,Lg];by_cases f:n=[65,56,53]
 ·rw[atA f,i_t];exact f4 _ (by unfold Ff.full;rw[asT (by simp[c,b]),asU (.inl f)]) dc
 rw[asZ f,i_f,Lg];by_cases d:n=Ff.n85
 ·rw[atA d,i_t];exact f4 _ (by unfold Ff.full;rw[asT (by simp[c,b]),asU (.inr d),d]) (by rw[d];decide)
 rw[asZ d,i_f,Lg];by_cases h:n=[82,76]
 ·rw[atA h,i_t];exact f3 _ (by unfold Ff.full;rw[asT (by simp[c,b]),asT (by simp[f,d]),asU (.inl h)]) dc
 rw[asZ h,i_f,Lg];by_cases g:n=Ff.nRL
 ·rw[atA g,i_t];exact f3 _ (by unfold Ff.full;rw[asT (by simp[c,b]),asT (by simp[f,d]),asU (.inr g),g]) (by rw[g];decide)
 rw[asZ g,i_f,Lg];by_cases j:n=[70,108]
 ·rw[atA j,i_t];exact f2 _ (by unfold Ff.full;rw[asT (by simp[c,b]),asT (by simp[f,d]),asT (by simp[h,g]),asU (.inl j)]) dc
 rw[asZ j,i_f,Lg];by_cases i:n=Ff.nFl
 ·rw[atA i,i_t];exact f2 _ (by unfold Ff.full;rw[asT (by simp[c,b]),asT (by simp[f,d]),asT (by simp[h,g]),asU (.inr i),i]) (by rw[i];decide)
 rw[asZ i,i_f];have e:Ff.full n=[]:=by unfold Ff.full;rw[asT (by simp[c,b]),asT (by simp[f,d]),asT (by simp[h,g]),asT (by simp[j,i])]
 exact k _ _ ⟨by rw[e];rfl,rfl⟩
theorem LU (n:List UInt8)(w:ao):Ret ah 52 #[ae n] w (λv w'=>v=.bool (ai (Ff.full n≠[]))∧w=w'):=by
 refine aL λK a=>Hn ?_;unfold D3 nz;refine qE (FM n w) ?_;simp only[ex];exact a _ _ ⟨rfl,rfl⟩
theorem ahZ {b c:Int}:DoX ah (aW 27 #[(0,ad a),(1,ad b),(2,ad c)]) w PK K=K (pmV ⟨a,b,c⟩) w:=aC krx
theorem YX (a:cH S w0 w L)(k:∀b w',cH S w0 w' (pmE b ⟨0,0,0⟩::L)->K (af b 0) w'):DoX ah (DO 27) w PK K:=
 bI (λb=>af b 0) (pmC ⟨0,0,0⟩) 27 (λ_=>by kernel_rfl) a k
theorem Jq (i:Nat)(y:Pm)(a:cH S w0 w L)(hi:L[i]?=ax (pmE b x))(k:∀w',cH S w0 w' (L.set i (pmE b y))->K undef w'):DoX ah (aV 27 (af b 0) (pmV y)) w PK K:=
 jK i a hi szPm Ol rfl k
theorem qK (w:ao):Ret ah 135 #[] w (λv w'=>v=pmV Ff.bK∧Below w.heap.size w w'):=by
 refine aL λK c=>G6 ?_;unfold Ds nz;refine YX (Own.start w) λb d a=>?_;rw[ahZ];refine Jq 0 Ff.bK a rfl λw2 a=>?_;exact fH (bJ (a.agg 0 rfl Ep)) (c _ _ ⟨rfl,a.done⟩)
theorem ajV:nD ah 107=true:=krx
def upF (e:Int):PanicEntry:={ v:=.iface 107 (.agg #[ad e]),recovered:=au }
theorem ahM (e:Int)(w:ao):Ret ah 78 #[.bool av,ad e] w (λv w'=>v=.tuple #[]∧w=w'):=by
 refine aL λK a=>Ac ?_;unfold xL nz;simp only[rs,auO,i_f];exact a _ _ ⟨rfl,rfl⟩
theorem agH (e:Int)(w:ao):Pan ah 78 #[.bool au,ad e] w (λc w'=>c=[upF e]∧w=w'):=by
 refine VB λK a=>Ac ?_;unfold xL nz;simp only[rs,auN,i_t];have b:∀{PK:PKT} {K:VWP},DoX ah (aW 107 #[(0,ad e)]) w PK K=K (.agg #[ad e]) w:=aC krx;rw[b,Np ajV,Jo];exact a _ _ ⟨rfl,rfl⟩
section
variable {w:ao}{PK:PKT}{K:VWP}{S:Nat->Prop}{w0:ao}{L:List Ent}
theorem qG {e:Int}(a:q=av->K (.tuple #[]) w)(b:q=au->PK [upF e] w):dZ ah 78 #[.bool q,ad e] w PK K:=by
 cases q with
|true=>exact qE (ahM e w) (a rfl)
|false=>exact agE (agH e w) λc w' ⟨d,hw⟩=>by subst d;subst hw;exact b rfl
theorem YC (a:cH S w0 w (.mem M::L))(hw:o.wt<=100000000000)(j:OV M.A M.w v o)
  (c:(Ff.num o key).2=0->∀N W,M.le N->cH S w0 W (.mem N::L)->K (ad (Ff.num o key).1) W)
  (i:(Ff.num o key).2≠0->∀N W,M.le N->cH S w0 W (.mem N::L)->PK [upF 10] W):dZ ah 208 #[v,ae key] w PK K:=by
 obtain⟨vk,vc,cs,rfl,k⟩:=j.open;generalize b:Ff.num o key=X at c i;unfold Ff.num at b;refine⟨GA ?_⟩;unfold BE nz;refine eI o k.keys.one k.kids.one a λm n a=>?_;rw[iV a 0 rfl];refine bG a 1 rfl (IY o _ key M n hw (a.hasM 1 rfl) j) ?_;rintro _ N w2 hle ⟨t,rfl,d⟩ a;obtain⟨p,q,rfl,d⟩:=Nu d;simp only[getV,ex];refine dM a λr s a=>?_;refine aP 0 d.oneK d.oneC a rfl λg a=>?_;have drop:∀{W:ao} {e f:Ent},cH S w0 W (e::f::.mem N::L)->cH S w0 W (.mem N::L):=λa=>a.tail.tail;have a:cH S w0 g (obE r ((Vl.get o key).getD Vl.ob0) p q::obE m o vk vc::.mem N::L):=a;cases l:Vl.get o key with
|none=>
  rw[l] at b a;simp only[ayT,rs,auN,i_t];rw[<-b] at c;exact c rfl N g hle (drop a)
|some x=>
  rw[l] at b a;dsimp only at b;rw[awW] at a;simp only[azM,rs,auO,i_f];rw[eO,sA a 0 rfl];simp only[rs];refine qG (λh=>?_) (λh=>?_)
  ·have h:=atQ h;rw[asU h] at b;rw[GI,LX a 0 rfl];rw[<-b] at c;exact c rfl N g hle (drop a)
  ·have h:=auS h;rw[asT h] at b;rw[<-b] at i;exact i dc N g hle (drop a)
theorem amH (a:cH S w0 w (.mem M::L))(hw:o.wt<=100000000000)(i:OV M.A M.w v o)
  (e:(Ff.KX o).2=0->∀N W,M.le N->cH S w0 W (.mem N::L)->K (pmV (Ff.KX o).1) W)
  (p:(Ff.KX o).2=10->∀N W,M.le N->cH S w0 W (.mem N::L)->PK [upF 10] W):dZ ah 147 #[v] w PK K:=by
 obtain⟨vk,vc,cs,rfl,B⟩:=i.open;generalize b:Ff.KX o=X at e p;unfold Ff.KX at b;refine⟨Ju ?_⟩;unfold HV iN dx ldx fax stx alx ecx cx;refine eI o B.keys.one B.kids.one a λc I a=>?_;refine YX a λl w2 a=>?_;rw[eO,sA a 1 rfl];simp only[rs];by_cases m:o.k=0
 ·rw[asU m] at b;simp only[m,asX,i_t];refine aJ a (qK w2) ?_;rintro _ w3 rfl a;refine Jq 0 Ff.bK a rfl λq a=>?_;rw[<-b] at e;exact fH (bJ (a.agg 0 rfl Ep)) (e rfl M q M.le_refl a.tail.tail)
 rw[asT m] at b;simp only[m,asW,i_f];rw[eO,sA a 1 rfl];simp only[rs];have bad:∀{N W},¬(o.k=7∧(Ff.num o Ff.CY).2=0∧(Ff.num o Ff.Dq).2=0∧(Ff.num o Ff.Dj).2=0)->M.le N->cH S w0 W (.mem N::L)->PK [upF 10] W:=by
  intro N W h hle a;rw[asT h] at b;rw[<-b] at p;exact p rfl N W hle a
 refine qG (λf=>?_) (λf=>bad (λk=>(auS f) k.1) M.le_refl a.tail.tail);have f:=atQ f;have a:=a.drew;refine⟨λW=>(obE c o vk vc).is W,a.at_ 1 rfl,?_⟩;have r:∀W,(obE c o vk vc).is W->(aK 25 (af c 0)).run ah W=.ok (.value (obV o vk vc)) W:=λW h=>bB (AtV.agg kE (cs:=obC o vk vc) rfl λj u D=>by rw[atK];exact aG (T:=25) h D);refine gJ _ r (gJ _ r (gJ _ r ?_));have fr:∀{W:ao} {N:Mem},cH S w0 W (pmE l ⟨0,0,0⟩::obE c o vk vc::.mem N::L)->cH S w0 W (.mem N::pmE l ⟨0,0,0⟩::obE c o vk vc::L):=λ{W N} a=>by
  have a:cH S w0 W ([pmE l ⟨0,0,0⟩,obE c o vk vc]++([.mem N]++L)):=a;exact a.front
 have n:∀{W:ao} {N:Mem} {x:Pm},cH S w0 W (.mem N::pmE l x::obE c o vk vc::L)->cH S w0 W (.mem N::L):=λ{W N x} a=>a.sub (.cons_cons _ (.cons _ (.cons _ (axE _))));refine YC (fr a) hw i (λs N1 E d a=>?_) (λs N1 E d a=>λ_ _ _ _=>bad (λk=>s k.2.1) d (n a));refine⟨a.at_ 2 rfl,?_⟩;refine YC a hw (i.le d) (λt F G g a=>?_) (λt F G g a=>λ_ _ _ _=>bad (λk=>t k.2.2.1) (d.trans g) (n a));refine⟨a.at_ 2 rfl,?_⟩;refine YC a hw ((i.le d).le g) (λy C H z a=>?_) (λy C H z a=>λ_ _ _ _=>bad (λk=>y k.2.2.2) ((d.trans g).trans z) (n a));refine⟨a.at_ 2 rfl,?_⟩;rw[asU ⟨f,s,t,y⟩] at b;refine aI (pmV ⟨(Ff.num o Ff.CY).1,(Ff.num o Ff.Dq).1,(Ff.num o Ff.Dj).1⟩) (λ_=>by kernel_rfl) ?_;refine Jq 1 _ a rfl λq a=>?_;rw[<-b] at e;exact fH (bJ (a.agg 1 rfl Ep)) (e rfl C q ((d.trans g).trans z) (n a))
end
theorem Uy (o:Ob)(v:aq)(M:Mem)(w:ao)(hw:o.wt<=100000000000)(f:M.has w)(g:OV M.A M.w v o):jJ ah 148 #[v] M w (λr _=>r=.bool (Ff.eight o)):=by
 obtain⟨vk,vc,cs,rfl,h⟩:=g.open;refine aU f λK c=>GG ?_;generalize b:Ff.eight o=X at c;unfold Ff.eight at b;unfold DR nz;refine eI o h.keys.one h.kids.one (cH.memS f) λj l a=>?_;rw[iV a 0 rfl];refine bG a 1 rfl (IY o _ Ff.Y5 M l hw (a.hasM 1 rfl) g) ?_;rintro _ N w2 hle ⟨t,rfl,d⟩ a;obtain⟨m,n,rfl,d⟩:=Nu d;simp only[getV,ex];refine dM a λp s a=>?_;refine aP 0 d.oneK d.oneC a rfl λq a=>?_;have a:cH M.A w q [obE p ((Vl.get o Ff.Y5).getD Vl.ob0) m n,obE j o vk vc,.mem N]:=a;cases i:Vl.get o Ff.Y5 with
|none=>
  rw[i] at b a;simp only[ayT,rs,auN,nE,i_t];exact c _ _ N _ 2 a rfl hle (by rw[<-b])
|some x=>
  rw[i] at b a;dsimp only at b;rw[awW] at a;simp only[azM,rs,auO];rw[eO,sA a 0 rfl];simp only[rs];by_cases e:x.k=2
  ·simp only[e,asX,rs];rw[GI,LX a 0 rfl];simp only[rs];exact c _ _ N _ 2 a rfl hle (by rw[<-b,e];rfl)
  ·simp only[e,asW,rs,nE];exact c _ _ N _ 2 a rfl hle (by rw[<-b,asZ e];rfl)
end
section
open Eng
def rN(t0 w)(K:KT):=nz f19 1 [] [] [] (zg [0] [t0]) w K
theorem AD:rN t0 w k0->Calls ah 19 #[t0] w k0:=cw func19
def pU(t0 w)(K:KT):=nz f18 1 [] [] [] (zg [0] [t0]) w K
theorem yN:pU t0 w k0->Calls ah 18 #[t0] w k0:=cw func18
def pV(w)(K:KT):=nz f72 1 [] [] [] (zg [] []) w K
theorem yQ:pV w k0->Calls ah 72 #[] w k0:=cw func72
def lX(t0 t1 w)(K:KT):=nz f20 1 [] [] [] (zg [0,1] [t0,t1]) w K
theorem uY:lX t0 t1 w k0->Calls ah 20 #[t0,t1] w k0:=cw func20
def dA(a w)(K:KT):=
 A2 ah [.cell a 25] w K
def qQ(f w)(K:KT):=
 dx (Hr 27 f) w K λc w=>alx 25 w K λa w=>Au w (λS1 w=>HDo ah (λ_=>True) (mFA 27 c 1) λg=>HDo ah S1 (aK 3 g) λe=>HDo ah (λ_=>True) (mFA 27 c 2) λh=>HDo ah S1 (aK 3 h) λd=>HDo ah (λ_=>True) (mFA 27 c 0) λi=>HDo ah S1 (aK 3 i) λb=>(DoX ah (aT 22 3 #[(0,(.string ⟨#[67,111,108,111,114,115]⟩)),(1,(.string ⟨#[67,111,108,117,109,110,115]⟩)),(2,(.string ⟨#[80,114,101,100,105,99,116,111,114]⟩))]) w (ay 7 (pk K)) λj w=>S1 w∧(dZ ah 108 #[e] w (ay 7 (pk K)) λk w=>S1 w∧(dZ ah 108 #[d] w (ay 7 (pk K)) λl w=>S1 w∧(dZ ah 108 #[b] w (ay 7 (pk K)) λm w=>S1 w∧(DoX ah (aT 23 3 #[(0,k),(1,l),(2,m)]) w (ay 7 (pk K)) λn w=>S1 w∧(HDo ah (λ_=>True) (aW 25 #[(0,(iN 7)),(4,j),(5,n)]) λo=>DoX ah (aV 25 a o) w (ay 7 (pk K)) λ_ w=>(dA a w K)))))))∧(dZ ah 108 #[e] w (ay 7 (pk K)) λp w=>S1 w∧((DoX ah (aT 22 3 #[(0,(.string ⟨#[67,111,108,111,114,115]⟩)),(1,(.string ⟨#[67,111,108,117,109,110,115]⟩)),(2,(.string ⟨#[80,114,101,100,105,99,116,111,114]⟩))]) w (ay 7 (pk K)) λD w=>S1 w∧(dZ ah 108 #[d] w (ay 7 (pk K)) λE w=>S1 w∧(dZ ah 108 #[b] w (ay 7 (pk K)) λs w=>S1 w∧(DoX ah (aT 23 3 #[(0,p),(1,E),(2,s)]) w (ay 7 (pk K)) λt w=>S1 w∧(HDo ah (λ_=>True) (aW 25 #[(0,(iN 7)),(4,D),(5,t)]) λu=>DoX ah (aV 25 a u) w (ay 7 (pk K)) λ_ w=>(dA a w K))))))∧(dZ ah 108 #[d] w (ay 7 (pk K)) λq w=>S1 w∧((DoX ah (aT 22 3 #[(0,(.string ⟨#[67,111,108,111,114,115]⟩)),(1,(.string ⟨#[67,111,108,117,109,110,115]⟩)),(2,(.string ⟨#[80,114,101,100,105,99,116,111,114]⟩))]) w (ay 7 (pk K)) λF w=>S1 w∧(dZ ah 108 #[b] w (ay 7 (pk K)) λv w=>S1 w∧(DoX ah (aT 23 3 #[(0,p),(1,q),(2,v)]) w (ay 7 (pk K)) λx w=>S1 w∧(HDo ah (λ_=>True) (aW 25 #[(0,(iN 7)),(4,F),(5,x)]) λy=>DoX ah (aV 25 a y) w (ay 7 (pk K)) λ_ w=>(dA a w K)))))∧(dZ ah 108 #[b] w (ay 7 (pk K)) λr w=>S1 w∧((DoX ah (aT 22 3 #[(0,(.string ⟨#[67,111,108,111,114,115]⟩)),(1,(.string ⟨#[67,111,108,117,109,110,115]⟩)),(2,(.string ⟨#[80,114,101,100,105,99,116,111,114]⟩))]) w (ay 7 (pk K)) λG w=>S1 w∧(DoX ah (aT 23 3 #[(0,p),(1,q),(2,r)]) w (ay 7 (pk K)) λz w=>S1 w∧(HDo ah (λ_=>True) (aW 25 #[(0,(iN 7)),(4,G),(5,z)]) λA=>DoX ah (aV 25 a A) w (ay 7 (pk K)) λ_ w=>(dA a w K))))∧(DoX ah (aT 23 3 #[(0,p),(1,q),(2,r)]) w (ay 7 (pk K)) λB w=>S1 w∧(DoX ah (aT 22 3 #[(0,(.string ⟨#[67,111,108,111,114,115]⟩)),(1,(.string ⟨#[67,111,108,117,109,110,115]⟩)),(2,(.string ⟨#[80,114,101,100,105,99,116,111,114]⟩))]) w (ay 7 (pk K)) λH w=>S1 w∧(HDo ah (λ_=>True) (aW 25 #[(0,(iN 7)),(4,H),(5,B)]) λC=>DoX ah (aV 25 a C) w (ay 7 (pk K)) λ_ w=>(dA a w K)))))))))))
theorem Ag:qQ t0 w k0->Calls ah 83 #[t0] w k0:=cw func83
def fA(t3 t6 w)(K:KT):=nz f29 511 [] [] [] (zg [3,6] [t3,t6]) w K
def iS(t3 t6 t9 t12 w)(K:KT):=nz f29 255 [] [(50,[],λs v j w f=>fA (s 3) (s 6) w K)] [] (zg [3,6,9,12] [t3,t6,t9,t12]) w K
def iR(t1 t3 t6 t9 t11 t12 w)(K:KT):=nz f29 127 [] [(40,[],λs v j w f=>iS (s 3) (s 6) (s 9) (s 12) w K)] [] (zg [1,3,6,9,11,12] [t1,t3,t6,t9,t11,t12]) w K
def nT(t7 t8 t9 t10 w)(N1:JT)(K:KT):=nz f29 471 [N1] [nh 9 [7,8,9,10]] [] (zg [7,8,9,10] [t7,t8,t9,t10]) w K
def nS(t1 t2 t3 t6 t7 t8 t9 t10 w)(N1:JT)(K:KT):=nz f29 87 [N1] [nh 9 [7,8,9,10],(10,[7,8,9],λs v j w f=>nT (vg v 0) (vg v 1) (vg v 2) (s 10) w (f 0) K),(30,[],λs v j w f=>iR (s 1) (s 3) (s 6) (s 9) (s 11) (s 12) w K)] [(7,12)] (zg [1,2,3,6,7,8,9,10] [t1,t2,t3,t6,t7,t8,t9,t10]) w K
def qW(t0 t1 t2 w)(K:KT):=nz f29 1 [] [(9,[7,8,9,10],λs v j w f=>nS (s 1) (s 2) (s 3) (s 6) (vg v 0) (vg v 1) (vg v 2) (vg v 3) w (f 0) K)] [] (zg [0,1,2] [t0,t1,t2]) w K
theorem Al:qW t0 t1 t2 w k0->Calls ah 29 #[t0,t1,t2] w k0:=cz [(5,[7,8,9]),(15,[]),(20,[]),(25,[])] [(4,[7,8,9,10])] func29
def jH(t1 t2 t8 w)(a:JT)(K:KT):=nz f23 351 [a] [nh 27 [8]] [(15,14)] (zg [1,2,8] [t1,t2,t8]) w K
def jI(t1 t2 t7 w)(N1:JT)(K:KT):=nz f23 87 [N1] [nh 13 [7],(27,[8],λs v j w f=>jH (s 1) (s 2) (vg v 0) w (f 0) K)] [] (zg [1,2,7] [t1,t2,t7]) w K
def tZ(t0 t1 t2 w)(K:KT):=nz f23 1 [] [(13,[7],λs v j w f=>jI (s 1) (s 2) (vg v 0) w (f 0) K)] [] (zg [0,1,2] [t0,t1,t2]) w K
theorem CB:tZ t0 t1 t2 w k0->Calls ah 23 #[t0,t1,t2] w k0:=cz [] [(6,[7]),(13,[8])] func23
def uG(t0 t1 t2 w)(K:KT):=nz f73 1 [] [] [] (zg [0,1,2] [t0,t1,t2]) w K
theorem Cf:uG t0 t1 t2 w k0->Calls ah 73 #[t0,t1,t2] w k0:=cw func73
def lK(t1 t3 t8 t9 t11 t12 w)(N1:JT)(K:KT):=nz f25 939 [N1] [nh 11 [3,9,11]] [(10,12)] (zg [1,3,8,9,11,12] [t1,t3,t8,t9,t11,t12]) w K
def lL(t1 t2 t3 t4 t8 t9 t11 w)(N1:JT)(K:KT):=nz f25 43 [N1] [nh 11 [3,9,11],(20,[],λs v j w f=>lK (s 1) (s 3) (s 8) (s 9) (s 11) (s 12) w (f 0) K)] [] (zg [1,2,3,4,8,9,11] [t1,t2,t3,t4,t8,t9,t11]) w K
def nP(t0 t1 t2 t3 w)(K:KT):=nz f25 1 [] [(11,[3,9,11],λs v j w f=>lL (s 1) (s 2) (vg v 0) (s 4) (s 8) (vg v 1) (vg v 2) w (f 0) K)] [] (zg [0,1,2,3] [t0,t1,t2,t3]) w K
theorem xF:nP t0 t1 t2 t3 w k0->Calls ah 25 #[t0,t1,t2,t3] w k0:=cz [(10,[])] [(5,[3,9,11])] func25
end
section
open Eng Go.RowKit
theorem kD (n:List UInt8)(w:ao):Ret ah 19 #[ae n] w (λv w'=>v=ae (Ff.full n)∧w=w'):=by
 refine aL λK j=>AD ?_;unfold rN nz;generalize a:Ff.full n=X at j;unfold Ff.full at a;have fin:∀m:List UInt8,m=X->K (.returned (ae m)) w:=λm hm=>j _ _ ⟨by rw[hm],rfl⟩;simp only[rs];by_cases b:n=Ff.nHx
 ·rw[asU (.inr b)] at a;simp only[atA b,rs,i_t,nE];exact fin _ a
 simp only[asZ b,rs];by_cases c:n=[65,72,120]
 ·rw[asU (.inl c)] at a;simp only[atA c,rs,i_t];exact fin _ a
 rw[asT (by simp[b,c])] at a;simp only[asZ c,rs,i_f];by_cases d:n=Ff.n85
 ·rw[asU (.inr d)] at a;simp only[atA d,rs,i_t,nE];exact fin _ a
 simp only[asZ d,rs];by_cases e:n=[65,56,53]
 ·rw[asU (.inl e)] at a;simp only[atA e,rs,i_t];exact fin _ a
 rw[asT (by simp[d,e])] at a;simp only[asZ e,rs,i_f];by_cases f:n=Ff.nRL
 ·rw[asU (.inr f)] at a;simp only[atA f,rs,i_t,nE];exact fin _ a
 simp only[asZ f,rs];by_cases g:n=[82,76]
 ·rw[asU (.inl g)] at a;simp only[atA g,rs,i_t];exact fin _ a
 rw[asT (by simp[f,g])] at a;simp only[asZ g,rs,i_f];by_cases h:n=Ff.nFl
 ·rw[asU (.inr h)] at a;simp only[atA h,rs,i_t,nE];exact fin _ a
 simp only[asZ h,rs];by_cases i:n=[70,108]
 ·rw[asU (.inl i)] at a;simp only[atA i,rs,i_t];exact fin _ a
 rw[asT (by simp[h,i])] at a;simp only[asZ i,rs,i_f];exact fin [] a
theorem HY (n:List UInt8)(w:ao):Ret ah 18 #[ae n] w (λv w'=>v=.bool (ai (Ff.full n≠[]))∧w=w'):=by
 refine aL λK a=>yN ?_;unfold pU nz;refine qE (kD n w) ?_;rw[show (Value.string ⟨#[]⟩)=ae ([]:List UInt8) from rfl,Rb];exact a _ _ ⟨rfl,rfl⟩
theorem Bg (w:ao):Ret ah 72 #[] w (λv w'=>v=pmV Ff.bK∧Below w.heap.size w w'):=by
 refine aL λK c=>yQ ?_;unfold pV nz;refine YX (Own.start w) λb d a=>?_;rw[ahZ];refine Jq 0 Ff.bK a rfl λw2 a=>?_;exact fH (bJ (a.agg 0 rfl Ep)) (c _ _ ⟨rfl,a.done⟩)
theorem afZ (h:SlA M.A M.w vc 6 os.length cs)(c:OVs M.A M.w cs os)(hi:i < os.length) :
  ∃b off vk d,(∀W,(mIA 23 vc (ad (i:Int))).run ah W=.ok (.value (af b off)) W)∧OV M.A M.w (obV os[i] vk d) os[i] ∧
   ∀W,M.has W->∀j u,(obC os[i] vk d)[j]?=ax u->W.cell? ⟨b,off+j,aw⟩=ax u:=by
 obtain⟨b,off,cap,rfl,_⟩:=bU h.1 om;obtain⟨a,v,e,f⟩:=OVs.get _ _ i hi c;obtain⟨vk,d,o,he,p⟩:=e.open;have q:a=obC os[i] vk d:=by
  unfold obV at he
  injection he with he
  exact congrArg Array.toList he
 subst q;refine⟨b,off+i*6,vk,d,λW=>?_,e,λW r j u s=>?_⟩
 ·have:=dP (P:=ah) (T:=23) (b:=b) (off:=off) (cap:=cap) (n:=os.length) (k:=.i64) (i:=(i:Int)) (w:=W) atO LV om om
  rwa [atC] at this
 ·obtain⟨x,l,m,g,t⟩:=bU (h.now r) om;cases g;rw[awP];exact t _ _ (f j u s)
theorem Fc {l:List (List UInt8)}(a:SlA M.A M.w v 1 l.length (bF l))(hi:i < l.length) :
  ∃p,(∀W,(mIA 22 v (ad (i:Int))).run ah W=.ok (.value (.pointer (ax p))) W)∧∀W,M.has W->(aK 9 (.pointer (ax p))).run ah W=.ok (.value (.string ⟨l[i].toArray⟩)) W:=by
 obtain⟨b,off,cap,rfl,_⟩:=bU a.1 om;refine⟨⟨b,off+i,aw⟩,λW=>?_,λW e=>?_⟩
 ·have:=dP (P:=ah) (T:=22) (b:=b) (off:=off) (cap:=cap) (n:=l.length) (k:=.i64) (i:=(i:Int)) (w:=W) atN (show _=ax 1 by kernel_rfl) om om;rw[atC,atY] at this;exact this
 ·obtain⟨g,c,d,he,f⟩:=bU (a.now e) om;cases he;exact aB Io (f i _ (eW hi))
theorem VD (x:Pm):(pmC x).length=3:=rfl
theorem Ow {l:List Pm}(a:SlA M.A M.w v 3 l.length (l.flatMap pmC))(hi:i < l.length) :
  ∃p,(∀W,(mIA 40 v (ad (i:Int))).run ah W=.ok (.value (.pointer (ax p))) W)∧∀W,M.has W->(aK 27 (.pointer (ax p))).run ah W=.ok (.value (pmV l[i])) W:=by
 obtain⟨b,off,cap,rfl,_⟩:=bU a.1 om;refine⟨⟨b,off+i*3,aw⟩,λW=>?_,λW e=>?_⟩
 ·have:=dP (P:=ah) (T:=40) (b:=b) (off:=off) (cap:=cap) (n:=l.length) (k:=.i64) (i:=(i:Int)) (w:=W) awG szPm om om;rw[atC] at this;exact this
 ·obtain⟨h,c,d,he,f⟩:=bU (a.now e) om;cases he;refine bB (AtV.agg Ep (cs:=pmC l[i]) rfl λj u g=>?_);rw[awP];exact f _ _ (Eng.CG VD hi g)
abbrev JQ (v:aq)(l:List Pm):Ent:=.recs 27 pmC 3 v l
abbrev stsE (v:aq)(l:List (List UInt8)):Ent:=.urow 9 1 v l.length (bF l)
theorem elPm:elB ah 27 3 24=true:=krx
section
variable {w:ao}{PK PK2:PKT}{K:VWP}{S:Nat->Prop}{w0:ao}{L:List Ent}
theorem V3 (x:Pm){l:List Pm}{c:Array Bool}(a:cH S w0 w (JQ v l::L))(d:l.length<=1000000000)(k:∀v' W,cH S w0 W (JQ v' (l++[x])::L)->K v' W) :
  DoX ah (aT 40 1 #[(0,pmV x)]) w PK λt w=>DoX ah (mB .append #[40,40] 40 c #[v,t]) w PK2 K:=by
 refine bI (λb=>bR b 0 1 1) (pmC x) 27 (λ_=>by kernel_rfl) a λb f a=>?_;refine bL 1 awG elPm dc a rfl (gS (a.at_ 0 rfl) dc rfl) Ol om om λv' w2 a=>k v' w2 ?_;have e:JQ v' (l++[x])=.urow 27 3 v' (l.length+1) (l.flatMap pmC++pmC x):=by
  unfold JQ Ent.recs;rw[asY,ayZ,azU];rfl
 rw[e];exact a.tail
theorem YL (x:List UInt8){l:List (List UInt8)}{c:Array Bool}(a:cH S w0 w (stsE v l::L))(d:l.length<=1000000000)(k:∀v' W,cH S w0 W (stsE v' (l++[x])::L)->K v' W) :
  DoX ah (aT 22 1 #[(0,ae x)]) w PK λt w=>DoX ah (mB .append #[22,22] 22 c #[v,t]) w PK2 K:=by
 refine bI (λb=>bR b 0 1 1) [ae x] 9 (λ_=>by kernel_rfl) a λb f a=>?_;refine bL 1 atN (show elB ah 9 1 16=av by kernel_rfl) dc a rfl (gS (a.at_ 0 rfl) dc rfl) (λu hu=>by rw[auB.1 hu];rfl) om om λv' w2 a=>k v' w2 ?_;have e:stsE v' (l++[x])=.urow 9 1 v' (l.length+1) (bF l++[ae x]):=by
  unfold stsE bF;rw[asY,auJ];rfl
 rw[e];exact a.tail
theorem Qn (g:cH S w0 w (obE b o vk vc::L))(i:Nat)(hi:L[i]?=ax (.mem M))(d:OV M.A M.w (obV o vk vc) o) :
  ∃N:Mem,M.le N∧SlA N.A N.w (bR b 0 1 1) 6 1 (obC o vk vc)∧OVs N.A N.w (obC o vk vc) [o]∧cH S w0 w (L.set i (.mem N)):=by
 have j:=g.at_ 0 rfl;obtain⟨N,h,k,m,n⟩:=g.freeze i hi;refine⟨N,h,⟨?_,λp l c e _=>?_,λa l c e=>?_⟩,?_,n⟩
 ·rw[k];exact gS j dc rfl
 ·injection e with f _ _
  injection f with f
  rw[<-f];exact m b rfl
 ·injection e with _ q r
  omega
 ·have:=OVs.snoc (a:=obC o vk vc) rfl (d.le h) [] [] OVs.nil;exact this
end
def agB:aq->Nat|.slice _ n _=>n|_=>0
namespace Ff
def Ja (o:Ob):List Ob:=match Vl.get o aQ with|none=>[]|some f=>if f.k=6 then f.kids else [f]
def sS (o:Ob):List Ob×Int:=match Vl.get o bW with|none=>([],0)|some d=>if d.k=6 then (d.kids,0) else if d.k=7 then ([d],0) else ([],10)
def vL (o:Ob)(many:Nat):List Pm×Int:=
 if (sS o).2≠0 then ([],10)
 else if (sS o).1.any (λx=>ai ((KX x).2≠0))=av then ([],10)
 else if many < (sS o).1.length then ([],1)
 else if (sS o).1.any (λx=>!eight x)=av then ([],1)
 else ((sS o).1.map (λx=>(KX x).1)++List.replicate (many - (sS o).1.length) bK,0)
theorem aaZ {x:Ob}(h:x∈(sS o).1):x.wt<=o.wt:=by
 unfold sS at h;cases a:Vl.get o bW with
|none=>rw[a] at h;simp at h
|some f=>
  rw[a] at h;have b:=qh a;dsimp only at h;split at h
  ·obtain⟨i,hi,rfl⟩:=awK (show x∈f.kids from h);have:=HE hi;omega
  split at h
  ·rw[auB.1 h];exact b
  ·simp at h
theorem uP {o:Ob}:o.kids.length<=o.wt:=by
 have:=Ob.vC o.kids;cases o;simp only[Ob.kids] at *;rw[Ob.wt];omega
theorem SI (h:o.wt<=1000000000):(Ja o).length<=1000000000:=by
 unfold Ja;cases a:Vl.get o aQ with
|none=>exact atU _
|some f=>
  have b:=qh a;dsimp only;split
  ·have:=@uP f;omega
  ·exact (by decide:(1:Nat)<=1000000000)
theorem VY (h:o.wt<=1000000000):(sS o).1.length<=1000000000:=by
 unfold sS;cases a:Vl.get o bW with
|none=>exact atU _
|some f=>
  have b:=qh a;dsimp only;split
  ·have:=@uP f;show f.kids.length<=_;omega
  split
  ·exact (by decide:(1:Nat)<=1000000000)
  ·exact atU _
end Ff
section
variable {w:ao}{PK:PKT}{K:VWP}{S:Nat->Prop}{w0:ao}{L:List Ent}
structure Mk (M:Mem) (v:aq) (os:List Ob) (cs:List aq):Prop where
 sl:SlA M.A M.w v 6 os.length cs
 all:OVs M.A M.w cs os
theorem Mk.le {M N:Mem}{v:aq}{os:List Ob}{cs:List aq}(h:M.le N)(k:Mk M v os cs):Mk N v os cs:=⟨k.sl.le h,k.all.le h⟩
theorem aoO (M:Mem):Mk M cO [] []:=⟨SlA.nil _ _ _ _,OVs.nil⟩
theorem Yn (h:OV M.A M.w (obV o vk vc) o):∃cs,Mk M vc o.kids cs:=by
 obtain⟨cs,a⟩:=h.slices;exact⟨cs,a.kids,a.all⟩
theorem Pz (h:Mk M v os cs):DoX ah (mB .len #[23] 3 #[au] #[v]) W PK K=K (ad (os.length:Int)) W:=by
 obtain⟨a,cap,rfl,_⟩:=h.sl.form;exact bO atO
theorem RY (h:Mk M v os cs)(hi:i < os.length)(f:M.has w)(k:∀vk vc,OV M.A M.w (obV os[i] vk vc) os[i]->K (obV os[i] vk vc) w) :
  DoX ah (mIA 23 v (ad (i:Int))) w PK λt w=>DoX ah (aK 25 t) w PK2 K:=by
 obtain⟨b,off,vk,e,c,d,a⟩:=afZ h.sl h.all hi;refine aC (c w) |>.mpr ?_;refine aC (bB (AtV.agg kE (cs:=obC os[i] vk e) rfl (a w f))) |>.mpr ?_;exact k vk e d
theorem X5 (a:cH S w0 w (.mem M::L))(hw:o.wt<=1000000000)(E:OV M.A M.w v o)
  (q:(∀x∈Ff.Ja o,x.k=5)->∀vn N W,M.le N->SlA N.A N.w vn 1 ((Ff.Ja o).map Ob.s).length (bF ((Ff.Ja o).map Ob.s))->cH S w0 W (.mem N::L)->K vn W)
  (F:¬(∀x∈Ff.Ja o,x.k=5)->∀N W,M.le N->cH S w0 W (.mem N::L)->PK [upF 10] W):dZ ah 79 #[v] w PK K:=by
 obtain⟨vk,vc,P,rfl,G⟩:=E.open;have r:=Ff.SI hw;generalize c:Ff.Ja o=X at q F r;unfold Ff.Ja at c;refine⟨Gq ?_⟩;unfold Cq nz;refine eI o G.keys.one G.kids.one a λQ R a=>?_;rw[iV a 0 rfl];refine bG a 1 rfl (IY o _ Ff.aQ M R om (a.hasM 1 rfl) E) ?_;rintro _ N w2 hle ⟨x,rfl,b⟩ a;obtain⟨H,t,rfl,b⟩:=Nu b;simp only[getV,ex];refine dM a λT w3 a=>?_;refine aP 0 b.oneK b.oneC a rfl λw4 a=>?_;rw[iV a 0 rfl];refine Ga _ b.oneK b.oneC a λU n a=>?_;have a:cH S w0 n (obE U ((Vl.get o Ff.aQ).getD Vl.ob0) H t::obE T ((Vl.get o Ff.aQ).getD Vl.ob0) H t::obE Q o vk vc::.mem N::L):=a;refine join λJ V=>?_;have main:∀(l:Mem) (u:aq) (cs:List aq) (W:ao),M.le l->Mk l u X cs->cH S w0 W (.mem l::L)->J [u] W:=by
  intro l u cs W g d a;refine V _ _ λ_=>?_;simp only[wP,gd,nz];rw[Pz d];have a:=cH.nilU a 9 1;refine loop (λvs W=>∃(i:Nat) (ov:aq),vs=[ov,ad (i:Int)]∧i<=X.length∧(∀x∈X.take i,x.k=5)∧cH S w0 W (stsE ov ((X.take i).map Ob.s)::.mem l::L)) (λvs _=>X.length - n1 vs) ⟨0,cO,rfl,om,sm,a⟩ ?_;clear a;rintro vs Y ⟨i,ov,rfl,hi,y,a⟩ _;simp only[xG,gd,rs,nz];by_cases m:(i:Int) < (X.length:Int)
  case neg=>
   simp only[m,asW,i_f];have:i=X.length:=om
   subst this;rw[auZ] at y a;obtain⟨z,B,j,a⟩:=a.bV 0 rfl;exact q y ov z Y (g.trans B) j a
  simp only[m,asX,i_t];have e:i < X.length:=om
  refine RY d e (a.hasM 1 rfl) λyk yc I=>?_;refine dM a λb8 w7 a=>?_;refine aP 0 I.oneK I.oneC a rfl λZ a=>?_;rw[eO,sA a 0 rfl];simp only[rs];refine qG (λh=>?_) (λh=>?_)
  rotate_left
  ·exact F (λk=>(auS h) (k _ (atP e))) l Z g a.tail.tail
  have h:=atQ h;rw[Dn,Mb a 0 rfl];refine YL _ a.tail (by rw[atV,atF];omega) λC W2 a=>?_
  try simp only[rs]
  rw[aA om om];refine aS ⟨i+1,C,rfl,om,?_,?_⟩ (by simp[n1,RowKit.intOf];omega)
  ·rw[auD e];intro x b;rcases auF.1 b with b|b
   ·exact y x b
   ·rw[auB.1 b];exact h
  ·rw[auD e,auJ];exact a
 cases O:Vl.get o Ff.aQ with
|none=>
  rw[O] at c;dsimp only at c;subst c;simp only[ayT,rs,auN,i_t];exact q sm cO N n hle (SlA.nil _ _ _ _) a.tail.tail.tail
|some f=>
  rw[O] at c a b;dsimp only at c;rw[awW] at a b;simp only[azM,rs,auO,i_f];rw[eO,sA a 1 rfl];simp only[rs];by_cases p:f.k=6
  ·rw[asU p] at c;subst c;simp only[p,asX,i_t];rw[jL,cX a 1 rfl];obtain⟨cs,d⟩:=Yn b;exact main N t cs n hle d a.tail.tail.tail
  ·rw[asT p] at c;subst c;simp only[p,asW,i_f];obtain⟨z,B,j,D,a⟩:=Qn a 2 rfl b;exact main z _ _ n (hle.trans B) ⟨j,D⟩ a.tail.tail
theorem abB {many:Nat}(b:cH S w0 w (.mem M::L))(hw:o.wt<=1000000000)(hm:many<=1000000000)(hv:OV M.A M.w v o)
  (Z:(Ff.vL o many).2=0->∀vp N W,M.le N->SlA N.A N.w vp 3 (Ff.vL o many).1.length ((Ff.vL o many).1.flatMap pmC)->cH S w0 W (.mem N::L)->K vp W)
  (kf:(Ff.vL o many).2≠0->∀N W,M.le N->cH S w0 W (.mem N::L)->PK [upF (Ff.vL o many).2] W):dZ ah 81 #[v,ad (many:Int)] w PK K:=by
 obtain⟨vk,vc,b6,rfl,ha⟩:=hv.open;have H:=Ff.VY hw;have y:∀x∈(Ff.sS o).1,x.wt<=1000000000:=λx c=>by have:=Ff.aaZ c;omega
 generalize m:Ff.vL o many=X at Z kf;unfold Ff.vL at m;generalize r:Ff.sS o=D at m H y;obtain⟨l,de⟩:=D;unfold Ff.sS at r;dsimp only at m H y;refine⟨GY ?_⟩;unfold Dw nz;refine eI o ha.keys.one ha.kids.one b λb1 w1 b=>?_;refine join λJ hJ=>?_;rw[iV b 0 rfl];refine bG b 1 rfl (IY o _ Ff.bW M w1 om (b.hasM 1 rfl) hv) ?_;rintro _ N w2 hle ⟨x,rfl,c⟩ b;obtain⟨xk,xc,rfl,c⟩:=Nu c;simp only[getV,ex];refine dM b λb3 w3 b=>?_;refine aP 0 c.oneK c.oneC b rfl λw4 b=>?_;have b:cH S w0 w4 (obE b3 ((Vl.get o Ff.bW).getD Vl.ob0) xk xc::obE b1 o vk vc::.mem N::L):=b;have fail:∀{e:Int} {t:Mem} {W:ao},X=([],e)->e≠0->M.le t->cH S w0 W (.mem t::L)->PK [upF e] W:=by
  intro e t W he I g b;rw[he] at kf;exact kf I t W g b
 have main:de=0->∀(t:Mem) (vl:aq) (cs:List aq) (W:ao),M.le t->Mk t vl l cs->cH S w0 W (.mem t::L)->J [vl] W:=by
  intro a1 t vl cs W g p b;rw[asT (by rw[a1];decide)] at m;refine hJ _ _ λ_=>?_;simp only[zQ,gd,nz];rw[Pz p];have b:=cH.nilU b 27 3;refine loop (λvs W=>∃(i:Nat) (ov:aq) (z:Mem),vs=[ov,ad (i:Int)]∧i<=l.length∧(∀x∈l.take i,(Ff.KX x).2=0)∧t.le z∧cH S w0 W (JQ ov ((l.take i).map λx=>(Ff.KX x).1)::.mem z::L)) (λvs _=>l.length - n1 vs) ⟨0,cO,t,rfl,om,sm,t.le_refl,b⟩ ?_;clear b;rintro vs w6 ⟨i,ov,z,rfl,hi,I,B,b⟩ _;simp only[zG,gd,rs,nz];by_cases n:(i:Int) < (l.length:Int)
  ·simp only[n,asX,i_t];have d:i < l.length:=om
   refine RY (p.le B) d (b.hasM 1 rfl) λT U F=>?_;refine dM b λV w7 b=>?_;refine aP 0 F.oneK F.oneC b rfl λG b=>?_;rw[iV b 0 rfl];have b:cH S w0 G ([obE V l[i] T U,JQ ov ((l.take i).map λx=>(Ff.KX x).1)]++([.mem z]++L)):=b;refine amH b.front (by have:=y _ (atP d);omega) F (λe0 u W2 E b=>?_) (λe0 u W2 E b=>?_)
   rotate_left
   ·refine fail (e:=10) ?_ dc ((g.trans B).trans E) (b.sub (.cons_cons _ (.cons _ (.cons _ (axE _)))));rw[asU (avB.2 ⟨_,atP d,atA (by rw[e0];decide)⟩)] at m;exact m.symm
   have b:cH S w0 W2 ([.mem u,obE V l[i] T U]++([JQ ov ((l.take i).map λx=>(Ff.KX x).1)]++L)):=b;have b:=b.front;have b:cH S w0 W2 (JQ ov ((l.take i).map λx=>(Ff.KX x).1)::.mem u::obE V l[i] T U::L):=b;refine V3 _ b (by rw[atV,atF];omega) λC W3 b=>?_
   try simp only[rs]
   rw[aA om om];refine aS ⟨i+1,C,u,rfl,om,?_,B.trans E,?_⟩ (by simp[n1,RowKit.intOf];omega)
   ·rw[auD d];intro x c;rcases auF.1 c with c|c
    ·exact I x c
    ·rw[auB.1 c];exact e0
   ·rw[auD d,auJ];exact b.sub (.cons_cons _ (.cons_cons _ (.cons _ (axE _))))
  simp only[n,asW,i_f];have:i=l.length:=om
  subst this;rw[auZ] at I b;rw[asT (λh=>by
   obtain⟨x,c,h⟩:=avB.1 h;exact (atQ h) (I x c))] at m
  rw[Pz p];simp only[rs];refine qG (λh=>?_) (λh=>?_)
  rotate_left
  ·have:=auS h;rw[asU om] at m;exact fail m.symm dc (g.trans B) b.tail
  have b7:=atQ h;rw[asT om] at m;rw[Pz p];generalize a6:(l.map λx=>(Ff.KX x).1)=ps at m b;have O:ps.length=l.length:=by rw[<-a6,atV]
  refine loop (λvs W=>∃(i:Nat) (u:Mem),vs=[ad (i:Int)]∧i<=l.length∧(∀x∈l.take i,Ff.eight x=av)∧z.le u∧cH S w0 W (JQ ov ps::.mem u::L)) (λvs _=>l.length - n0 vs) ⟨0,z,rfl,om,sm,z.le_refl,b⟩ ?_;clear b;rintro vs w7 ⟨i,u,rfl,hi,h8,E,b⟩ _;simp only[Af,gd,rs,nz];by_cases n:(i:Int) < (l.length:Int)
  ·simp only[n,asX,i_t];have d:i < l.length:=om
   refine RY ((p.le B).le E) d (b.hasM 1 rfl) λT U F=>?_;refine dM b λV G b=>?_;refine aP 0 F.oneK F.oneC b rfl λw9 b=>?_;rw[iV b 0 rfl];refine bG b 2 rfl (Uy l[i] _ u w9 (by have:=y _ (atP d);omega) (b.hasM 2 rfl) F) ?_;rintro _ N4 b9 l4 rfl b;refine qG (λh=>?_) (λh=>?_)
   rotate_left
   ·rw[asU (avB.2 ⟨_,atP d,by rw[h];rfl⟩)] at m;exact fail m.symm dc (((g.trans B).trans E).trans l4) b.tail.tail
   try simp only[rs]
   rw[aA om om];refine aS ⟨i+1,N4,rfl,om,?_,E.trans l4,b.tail⟩ (by simp[n0,RowKit.intOf];omega);rw[auD d];intro x c;rcases auF.1 c with c|c
   ·exact h8 x c
   ·rw[auB.1 c];exact h
  simp only[n,asW,i_f];have:i=l.length:=om
  subst this;rw[auZ] at h8;rw[asT (λh=>by
   obtain⟨x,c,h⟩:=avB.1 h;rw[h8 x c] at h;cases h)] at m
  refine loop (λvs W=>∃(j:Nat) (ov:aq),vs=[ov]∧l.length+j<=many∧cH S w0 W (JQ ov (ps++List.replicate j Ff.bK)::.mem u::L)) (λvs _=>many - agB (vs.getD 0 undef)) ⟨0,ov,rfl,om,by rw[List.replicate_zero,atX];exact b⟩ ?_;clear b;rintro vs G ⟨j,ov,rfl,hj,b⟩ _;have P:(ps++List.replicate j Ff.bK).length=l.length+j:=by rw[asY,auK,O]
  have a7:∃a cap,ov=.slice a (l.length+j) cap:=by
   obtain⟨_,a,cap,h,_⟩:=Sl.urow (b.at_ 0 rfl);exact⟨a,cap,by rw[h,P]⟩
  obtain⟨a,cap,Q⟩:=a7;simp only[Ae,gd,nz];rw[show DoX ah (mB .len #[40] 3 #[au] #[ov]) G=DoX ah (mB .len #[40] 3 #[au] #[.slice a (l.length+j) cap]) G by rw[Q],bO awG];simp only[rs];by_cases n:((l.length+j:Nat):Int) < (many:Int)
  ·simp only[n,asX,i_t];refine aJ b (qK G) ?_;rintro _ w9 rfl b;refine V3 _ b (by rw[P];omega) λC W3 b=>?_;have b:cH S w0 W3 (JQ C (ps++List.replicate (j+1) Ff.bK)::.mem u::L):=by
    rw[aAR,<-atJ];exact b
   have R:(ps++List.replicate (j+1) Ff.bK).length=l.length+(j+1):=by rw[asY,auK,O]
   refine aS ⟨j+1,C,rfl,om,b⟩ ?_;obtain⟨_,a',b5,h',_⟩:=Sl.urow (b.at_ 0 rfl);rw[Q,h',R];show many - (l.length+(j+1)) < many - (l.length+j);omega
  simp only[n,asW,i_f];have a8:j=many - l.length:=om
  subst a8;rw[<-m] at Z;obtain⟨N5,l5,b0,b⟩:=b.bV 0 rfl;exact Z rfl ov N5 G (((g.trans B).trans E).trans l5) b0 b
 cases hg:Vl.get o Ff.bW with
|none=>
  rw[hg] at r;dsimp only at r
  injection r with s q
  subst s;simp only[ayT,rs,i_f];exact main q.symm N cO [] w4 hle (aoO N) b.tail.tail
|some f=>
  rw[hg] at r b c;dsimp only at r;rw[awW] at b c;simp only[azM,i_t];rw[iV b 0 rfl];refine Ga _ c.oneK c.oneC b λnb w5 b=>?_;rw[eO,sA b 1 rfl];simp only[rs];by_cases Y:f.k=6
  ·rw[asU Y] at r
   injection r with s q
   subst s;simp only[Y,asX,i_t];rw[jL,cX b 1 rfl];obtain⟨cs,p⟩:=Yn c;exact main q.symm N xc cs w5 hle p b.tail.tail.tail
  rw[asT Y] at r;simp only[Y,asW,i_f];rw[eO,sA b 1 rfl];simp only[rs];refine qG (λh=>?_) (λh=>?_)
  ·rw[asU (atQ h)] at r
   injection r with s q
   subst s;obtain⟨z,B,b2,b4,b⟩:=Qn b 2 rfl c;exact main q.symm z _ _ w5 (hle.trans B) ⟨b2,b4⟩ b.tail.tail
  ·rw[asT (auS h)] at r
   injection r with s q
   rw[asU (by rw[<-q];decide)] at m;exact fail m.symm dc hle b.tail.tail.tail
end
end
namespace Eng
theorem KV {f:FuncId}{o c:Oper}{rest:Code}{args:List aq}{n d2:Nat}{I:List (Nat×List Nat)}{rs:List ResultVar}
  (J:P.funcs[f]?=ax fn) (L:fn.body=ax (.seq (.region id #[o,c] au) rest)) (M:o.op=.call { callee:=.builtin .recover,args:=#[],argTypes:=#[] }) (N:o.guard=aw) (hd:o.dst=ax d) (C:Nat.blt d n=av)
  (D:c.op=.assign (.tmp d)) (E:c.guard=aw) (q:c.dst=ax d2) (r:Nat.blt d2 n=av)
  (O:fn.ntmps=n) (F:fn.results.toList=rs) (Q:Nat.ble args.length n=av)
  (h:wpX P n aj I aw rest (topD P rs (λe w'=>R e (Ba u) w')) (upd (upd (mP args) d (yX u)) d2 (yX u)) [] w):CallsD P f args.toArray u w R:=by
 refine callsD_of_wpS J L λp cs hu=>?_;rw[O];refine wpS_seq (wpS_region ?_);have hex:∀ρ:Operand->aq,(execOp ρ o).run P w=.ok .recover w:=by
  intro ρ;unfold execOp;rw[M];simp[resolve,invoke,builtin,bind,pure,Sem.bind,Sem.run]
 have s:=E4 (args:=args) Q;have b:Rep n (upd (mP args) d (yX u)) (({ tmps:=args.toArray++Array.replicate (n - args.toArray.size) undef,defers:=[] }:Act).put o.dst (yX u)).tmps:=by
  rw[hd];exact Rep.put (a:={ tmps:=args.toArray++Array.replicate (n - args.toArray.size) undef,defers:=[] }) s (d:=ax d) C (yX u)
 have g:(({ tmps:=args.toArray++Array.replicate (n - args.toArray.size) undef,defers:=[] }:Act).put o.dst (yX u)).defers=[]:=by rw[hd];rfl
 obtain⟨B,i⟩:∃A,A=({ tmps:=args.toArray++Array.replicate (n - args.toArray.size) undef,defers:=[] }:Act).put o.dst (yX u):=⟨_,rfl⟩;rw[<-i] at b g;have t:(execOp B.eval c).run P w=.ok (.value (yX u)) w:=by
  rw[Rep.eval b];unfold execOp;rw[D];simp[rd,upd,pure,Sem.run]
 have key:wpOpsS P #[o,c] (Exit.thenS (rest.wpS P (bodyPostS P fn p cs R)) (bodyPostS P fn p cs R)) [1] B ({ p with mode:=Ba u }::cs) w:=by
  unfold wpOpsS;simp only[aAE,auT,axW];rw[asU (by simp[Region.wanted,E]),t];simp only[Oper.upon];have j:Rep n (upd (upd (mP args) d (yX u)) d2 (yX u)) (B.put c.dst (yX u)).tmps:=by
   rw[q];exact Rep.put b (d:=ax d2) r (yX u)
  have k:(B.put c.dst (yX u)).defers=[]:=by rw[q];exact g
  refine wpS_of_wp (Code.wp_mono ?_ (wpIn_wide.1 (EI rest aw _ _ _ w j (by rw[k];exact h))));rintro e a w' ⟨σ,S,l⟩;have y:∀K:Ending->ao->Prop,RetD P (Ln σ rs) w' K->∃v,(results fn a.tmps).run P w'=.ok v w'∧K (.returned v) w':=λK l=>by
   rw[CJ S,F];exact IX l
  generalize m:a.defers=ds at l;cases e<;>cases ds<;>first|(exact l.elim;done)|skip
  ·obtain⟨v,G,H⟩:=y (λe w'=>R e (Ba u) w') l;exact⟨m,Ba u,rfl,v,G,H⟩
  ·obtain⟨v,G,H⟩:=y (λe w'=>R e (Ba u) w') l;exact⟨m,Ba u,rfl,v,G,H⟩
  ·exact⟨m,Ba u,rfl,l⟩
 have e:=rec_eq p cs;rw[hu] at e;show wpOpsS P #[o,c] _ [0,1] _ (p::cs) w;unfold wpOpsS;simp only[aAE,axW];rw[asU (by simp[Region.wanted,N])];rw[hex];cases z:recoverD (p::cs) with
|none=>
  rw[z] at e;simp only[axH] at e;simp only;rw[e.1,e.2,<-i];exact key
|some x=>
  obtain⟨v,T⟩:=x;rw[z] at e;simp only[axH] at e;simp only;rw[e.1,e.2,<-i];exact key
end Eng
section
open Eng
def eA(w)(K:KT):=
 K (.returned (.tuple #[])) w
def xD(c a b d w)(K:KT):=
 DrawX w (λw=>(fax 107 d 0 w K λe w=>(ldx 30 e w K λf w=>stx 22 c (.slice aw 0 0) w K λ_ w=>stx 40 a (.slice aw 0 0) w K λ_ w=>stx 30 b f w K λ_ w=>eA w K)∧(stx 22 c (.slice aw 0 0) w K λ_ w=>(ldx 30 e w K λh w=>stx 40 a (.slice aw 0 0) w K λ_ w=>stx 30 b h w K λ_ w=>eA w K)∧(stx 40 a (.slice aw 0 0) w K λ_ w=>ldx 30 e w K λi w=>stx 30 b i w K λ_ w=>eA w K)))∧(stx 22 c (.slice aw 0 0) w K λ_ w=>(fax 107 d 0 w K λg w=>(ldx 30 g w K λj w=>stx 40 a (.slice aw 0 0) w K λ_ w=>stx 30 b j w K λ_ w=>eA w K)∧(stx 40 a (.slice aw 0 0) w K λ_ w=>ldx 30 g w K λk w=>stx 30 b k w K λ_ w=>eA w K))∧(stx 40 a (.slice aw 0 0) w K λ_ w=>fax 107 d 0 w K λl w=>ldx 30 l w K λm w=>stx 30 b m w K λ_ w=>eA w K)))
def iM(c d e r w)(K:KT):=
 eqx .neq 20 (.tmp 7) (.const .nilIface) r .nilIface w K λf w=>IfX f (dx (mTA r 20 107 av) w K λa w=>exx a 0 w K λg w=>exx a 1 w K λh w=>alx 107 w K λb w=>stx 107 b g w K λ_ w=>D9 (λj=>dx (mUn .not h) w K λi w=>IfX i (dx (HX r) w K λ_ w=>j [] w) (j [] w)) (λk w=>∀_:Sg,xD c d e b w K)) (K (.returned (.tuple #[])) w)
theorem FI (t0 t1 t2 r:aq)(w:ao)(K:Ending->ao->Prop):wpX ah 19 [(5,[])] [] aw (aaU (DW f77)) (topD ah [] K) (upd (upd (mP [t0,t1,t2]) 6 r) 3 r) [] w=iM t0 t1 t2 r w K:=krx
theorem jZ {t1 t2:aq}(h:iM t0 t1 t2 (yX u) w (λe w=>R e (Ba u) w)):CallsD ah 77 #[t0,t1,t2] u w R:=
 KV func77 rfl rfl rfl rfl rfl rfl rfl rfl rfl rfl rfl rfl (Eq.mpr (FI t0 t1 t2 (yX u) w _) h)
end
end Go.Proofs.YtlipjfcbjemicaaGreatDoor
