/- Parts of the proof. -/
import Derived.Test.YtlgndjkieegnaaaGreatDoorRows
import Derived.Test.YtlgndjkieegnaaaGreatDoorMdbklghoo
set_option linter.all false
set_option maxRecDepth 20000
open Go.Proofs.Tryz
open Go.Proofs.Tryz renaming prog->ah
open Option renaming some->ay,none->ax
open Bool renaming true->aw,false->au
open Go renaming Value->aq,World->ao
open Decidable renaming decide->ai
namespace Go.Proofs.YtlgndjkieegnaaaGreatDoor
variable{K:VWP}{L:List Eng.Ent}{M:Eng.Mem}{P:Program}{PK PK2:PKT}{R:Ending->FrameMode->ao->Prop}{S:Nat->Prop}{W w w0:ao}{a colors:Int}{above key:List UInt8}{aj:List (Nat×List Nat)}{b cap d i id j:Nat}{cb:Array Bool}{cs:List aq}{e:Eng.Ent}{fn:Func}{o:Ob}{os:List Ob}{q:Bool}{t0 v va vc vk:aq}{u:FrameMode}{t0 t1 t2 t3:aq}{k0:Eng.KT}
section
open Eng Go.RowKit
def ej (tag:Int)(above:List UInt8)(colors:Int):List UInt8->List UInt8->List UInt8
|acc,[]=>acc
|acc,c::r=>ej tag above colors (acc++[c+ey tag above acc (acc.length:Int) colors]) r
theorem qt (tag:Int)(above:List UInt8)(colors:Int):∀(r acc:List UInt8),(ej tag above colors acc r).length=acc.length+r.length
|[],acc=>rfl
|c::r,acc=>by rw[ej,qt tag above colors r,auH,awM,auX];omega
theorem yq {p r:List UInt8}{i:Int}(h:i < (p.length:Int)):gx (p++r) i=gx p i:=by
 unfold gx;by_cases a:i < 0
 ·rw[auC (.inl a),auC (.inl a)]
 ·rw[auB (by rw[auH];omega),auB om,auK,awR om,auK]
theorem ua {tag:Int}{p r:List UInt8}(a:1<=colors):ey tag above (p++r) (p.length:Int) colors=ey tag above p (p.length:Int) colors:=by
 unfold ey;rw[yq om]
def ky (c:Int)(n h:Nat):Nat->List UInt8->List UInt8->List UInt8->List UInt8×Int
|0,_,_,_=>([],13)
|f+1,s,prev,out=>
  if s.length=0 then (out,0)
  else if 5<=(if h=1 then (s.getD 0 0).toNat else 1) then ([],3)
  else
   let row:=ej ((if h=1 then (s.getD 0 0).toNat else 1:Nat):Int) prev c [] ((s.drop h).take n)
   ky c n h f (s.drop (n+h)) row (out++row)
def Pm.head (x:Pm):Nat:=if 10<=x.p then 1 else 0
def gl (x:Pm)(s:List UInt8):List UInt8×Int:=
 if ¬x.ok then ([],1)
 else if 1048576 < s.length then ([],5)
 else if x.p=1 then (s,0)
 else if s.length % ((x.c*x.n).toNat+x.head)≠0 then ([],16)
 else ky x.c (x.c*x.n).toNat x.head (s.length+1) s [] []
theorem anY {a b:UInt8}:IntKind.u8.wrap ((a.toNat:Int)+(b.toNat:Int))=((a+b).toNat:Int):=by
 rw[show (a.toNat:Int)+(b.toNat:Int)=((a.toNat+b.toNat:Nat):Int) by omega,RO]
 congr 1
def BW:aq->Nat|.string s=>s.size|_=>0
theorem xC (l:List UInt8):BW (ae l)=l.length:=dX l
def BRd (e:Ent)(v:aq)(l:List UInt8):Prop:=∀W,e.is W->Sl W v 1 l.length (bA l)
theorem X6 {b cap:Nat}{l:List UInt8}:BRd (.mkr 5 b l) (bO b 0 l.length cap) l:=λW h=>Wm h
section
variable {w:ao}{PK:PKT}{K:VWP}{S:Nat->Prop}{w0:ao}{L:List Ent}
theorem amJ {tag:Nat}{b2:Nat}{src:List UInt8}(i j:Nat)(s:i≠j)(a:bT S w0 w L)(hi:L[i]?=ay e)(x:L[j]?=ay (.mkr 5 b2 src))(y:BRd e va above)(z:1<=colors∧colors<=1000000)(M:src.length<=1000000)
  (k:∀W,bT S w0 W (L.set j (.mkr 5 b2 (ej (tag:Int) above colors [] src)))->K (.tuple #[]) W) :
  cR ah 222 #[rwV va (bO b2 0 src.length cap) colors,ad (tag:Int)] w PK K:=by
 have t:j < L.length:=(auV.1 x).1;have d:∀l,(L.set j (.mkr 5 b2 l))[j]?=ay (.mkr 5 b2 l):=λl=>by rw[axR t]
 generalize c:ej (tag:Int) above colors [] src=R at k;refine⟨AQ ?_⟩;unfold sE nz;have A:va.oneCell'=true:=nS (y w (a.at_ i hi));have B:∀W:ao,(GP 235 (rwV va (bO b2 0 src.length cap) colors)).run ah W=.ok (.value (af W.heap.size 0)) (W.alloc (.cells (rwC va (bO b2 0 src.length cap) colors).toArray 235)):=λW=>by
  cases va<;>first|(cases A;done)|kernel_rfl
 refine bK (λb=>af b 0) (rwC va (bO b2 0 src.length cap) colors) 235 B a λb C a=>?_;refine aD (bE Ai) |>.mpr (aD (BG (a.at_ 0 rfl)) |>.mpr ?_);have f:∀{W:ao} {l:List UInt8},bT S w0 W (rwE b va (bO b2 0 src.length cap) colors::L.set j (.mkr 5 b2 l))->l.length=src.length->Sl W (bO b2 0 src.length cap) 1 l.length (bA l):=λa D=>by
  have:=Wm (cap:=cap) (a.at_ (j+1) (d _));rw[D] at this ⊢;exact this
 have a:bT S w0 C (rwE b va (bO b2 0 src.length cap) colors::L.set j (.mkr 5 b2 ([]++src.drop 0))):=by
  rw[avU,axB,yH x];exact a
 rw[aZ avH (f a sm)];have E:([]++src.drop 0:List UInt8).length=src.length:=sm
 rw[E];refine loop (λvs W=>∃p:List UInt8,vs=[ad (p.length:Int)]∧p.length<=src.length∧ej (tag:Int) above colors p (src.drop p.length)=R∧bT S w0 W (rwE b va (bO b2 0 src.length cap) colors::L.set j (.mkr 5 b2 (p++src.drop p.length)))) (λvs _=>src.length - n0 vs) ⟨[],rfl,sm,c,a⟩ ?_;clear a c;rintro vs w2 ⟨p,rfl,hp,c,a⟩ _;simp only[oU,gd,rs,nz];by_cases g:(p.length:Int) < (src.length:Int)
 ·simp only[g,auE,i_t];have m:p.length < src.length:=om
  have F:src.drop p.length=src[p.length]::src.drop (p.length+1):=avX m;rw[F] at c a;rw[ej] at c;have o:(p++src[p.length]::src.drop (p.length+1)).length=src.length:=by rw[auH,auX,auT];omega
  have u:(p++src[p.length]::src.drop (p.length+1))[p.length]?=ay src[p.length]:=by rw[awW (auL _),axL];rfl
  have q:∀W:ao,(mIA 80 (bO b2 0 src.length cap) (ad (p.length:Int))).run ah W=.ok (.value (af b2 p.length)) W:=λW=>by
   have:=cZ (P:=ah) (T:=80) (b:=b2) (off:=0) (cap:=cap) (n:=src.length) (k:=.i64) (i:=(p.length:Int)) (w:=W) avH (show (Tryz.prog.info? 5).map (·.size)=ay 1 by kernel_rfl) om om
   rwa [auJ,avC,auP] at this
  refine cY (λW=>bT S w0 W (rwE b va (bO b2 0 src.length cap) colors::L.set j (.mkr 5 b2 (p++src[p.length]::src.drop (p.length+1))))) a.drew ?_;refine dY _ (λ_=>bE Ai) (gA _ (λW h=>BG (h.at_ 0 rfl)) (dY _ q ?_));refine gA (.int .u8 (src[p.length].toNat:Int)) (λW h=>aB nU8l (QV (h.at_ (j+1) (d _)) (by unfold bA;rw[ayO,u];rfl))) ?_;refine gA (rwV va (bO b2 0 src.length cap) colors) (λW h=>aY (h.agg 0 rfl Qb)) ?_;refine fY (.int .u8 ((ey (tag:Int) above p (p.length:Int) colors).toNat:Int)) (λW h=>?_) ?_
  ·have r:=f h o;have:=TR (tag:Int) above (p++src[p.length]::src.drop (p.length+1)) va (bO b2 0 src.length cap) (p.length:Int) colors W om z (y W (h.at_ (i+1) (show (L.set j (.mkr 5 b2 _))[i]?=ay e by rw[azU (λh=>s h.symm)];exact hi))) r;rw[ua z.1] at this;exact this.mono λv w' ⟨G,H⟩=>⟨G,h.grow H⟩
  refine sW ?_;rw[anY];refine dY _ q ?_;intro w3 a;refine YM (j+1) (l:=p++src[p.length]::src.drop (p.length+1)) a (d _) krx (by rw[o];exact m) λI a=>?_
  try simp only[rs]
  rw[aA om om];have e1:(p++[src[p.length]+ey (tag:Int) above p (p.length:Int) colors]).length=p.length+1:=sm
  refine bC ⟨p++[src[p.length]+ey (tag:Int) above p (p.length:Int) colors],by rw[e1];rfl,by rw[e1];omega,by rw[e1];exact c,?_⟩ (by simp[n0,RowKit.intOf];omega);rw[e1];have e2:(p++src[p.length]::src.drop (p.length+1)).set p.length (src[p.length]+ey (tag:Int) above p (p.length:Int) colors)=p++[src[p.length]+ey (tag:Int) above p (p.length:Int) colors]++src.drop (p.length+1):=by
   rw[azF _ _ (auL _),axL,axF];simp
  rw[<-e2];have a:bT S w0 I (rwE b va (bO b2 0 src.length cap) colors::(L.set j (.mkr 5 b2 (p++src[p.length]::src.drop (p.length+1)))).set j (.mkr 5 b2 ((p++src[p.length]::src.drop (p.length+1)).set p.length (src[p.length]+ey (tag:Int) above p (p.length:Int) colors)))):=a;rw[azT] at a;exact a
 ·simp only[g,auF,i_f];have J:p.length=src.length:=om
  rw[awG om] at c a;rw[avA] at a;have c:p=R:=c;subst c;exact k w2 a.tail
end
theorem Kh (x:Pm)(s:List UInt8)(r:Nat)(w:ao)(i:1<=r)(j:s.length<=1000000000):Ret ah 214 #[pmV x,ae s,ad (r:Int)] w (λv w'=>v=ad (if ¬x.ok then 1 else if 1048576 < s.length then 5 else if x.p≠1∧s.length % r≠0 then 16 else 0)∧Below w.heap.size w w'):=by
 refine aX λK a=>Ef ?_;unfold zW nz;refine Kd x (Own.start w) λb g c=>?_;rw[Pr c 0 rfl];refine aK c (Ng x g) ?_;rintro _ w2 rfl c
 try simp only[rs]
 by_cases h:x.ok
 case neg=>
  rw[auC h] at a;simp only[h,auF,avZ,i_t];exact a _ _ ⟨rfl,c.done⟩
 rw[auB (by simp[h])] at a;simp only[h,auE,awA,i_f];rw[iU auQ]
 try simp only[rs]
 by_cases e:1048576 < s.length
 ·rw[auC e] at a;simp only[show ai ((1048576:Int) < (s.length:Int))=aw from auG om,i_t];exact a _ _ ⟨rfl,c.done⟩
 rw[auB e] at a;simp only[show ai ((1048576:Int) < (s.length:Int))=au from auD om,i_f];rw[Oo,Om c 0 rfl]
 try simp only[rs]
 by_cases d:x.p=1
 ·rw[auB (by simp[d])] at a;simp only[d,ne_eq,not_true,auF,rs,oG];exact a _ _ ⟨rfl,c.done⟩
 simp only[d,ne_eq,awJ,auE,rs];rw[iU auQ]
 try simp only[rs]
 rw[NA om,atC]
 try simp only[rs]
 by_cases f:s.length % r=0
 ·rw[auB (by simp[f])] at a;simp only[show ai (((s.length % r:Nat):Int)≠0)=au from auD om,i_f,rs];exact a _ _ ⟨rfl,c.done⟩
 ·rw[auC ⟨d,f⟩] at a;simp only[show ai (((s.length % r:Nat):Int)≠0)=aw from auG om,i_t,rs];exact a _ _ ⟨rfl,c.done⟩
theorem Q4 (x:Pm)(s:List UInt8)(w:ao)(T:s.length<=1000000000):Ret ah 191 #[pmV x,ae s] w (λv w'=>v=zlT (gl x s)∧Below w.heap.size w w'):=by
 refine aX λK o=>Eo ?_;generalize g:gl x s=X at o;unfold gl at g;unfold zJ nz;refine Kd x (Own.start w) λb U d=>?_;rw[Pr d 0 rfl];refine aK d (Sk x U) ?_;rintro _ w2 rfl d;rw[vC];refine join λJ V=>?_;rw[Oo,Om d 0 rfl]
 try simp only[rs]
 have main:J [ad (x.head:Int)] w2:=by
  refine V _ _ λ_=>?_;simp only[uJ,gd,nz];rw[Pr d 0 rfl];have y:x.head<=1:=by unfold Pm.head;split<;>omega
  obtain⟨n,P,Y,Z⟩:∃n:Nat,max (if x.ok then x.c*x.n else 0) 1=(n:Int)∧1<=n∧n<=8192:=by
   by_cases h:x.ok
   ·rw[auC h];have h1:=Pm.mul_pos h;have H:=h.2.2.2.2;exact⟨(x.c*x.n).toNat,om,om,om⟩
   ·rw[auB h];exact⟨1,dc,dc,dc⟩
  rw[P]
  try simp only[rs]
  rw[aA om om,show (n:Int)+(x.head:Int)=((n+x.head:Nat):Int) by omega];refine aK d (Kh x s (n+x.head) w2 om T) ?_;rintro _ w3 rfl d;simp only[eC];by_cases h:x.ok
  case neg=>
   rw[auC h] at g ⊢;simp only[show ai ((1:Int)≠0)=aw from rfl,i_t];exact o _ _ ⟨by rw[<-g];rfl,d.done⟩
  rw[auB (by simp[h])] at g ⊢;have I:(x.c*x.n).toNat=n:=by
   rw[auC h] at P;have h1:=Pm.mul_pos h;omega
  rw[I] at g;by_cases H:1048576 < s.length
  ·rw[auC H] at g ⊢;simp only[show ai ((5:Int)≠0)=aw from rfl,i_t];exact o _ _ ⟨by rw[<-g];rfl,d.done⟩
  rw[auB H] at g ⊢;by_cases z:x.p=1
  ·rw[auB (by simp[z])];rw[auC z] at g;simp only[show ai ((0:Int)≠0)=au from rfl,i_f];rw[Oo,Om d 0 rfl];simp only[z,rs,auE,i_t];exact o _ _ ⟨by rw[<-g];rfl,d.done⟩
  rw[auB z] at g;by_cases A:s.length % (n+x.head)=0
  case neg=>
   rw[auC ⟨z,A⟩];rw[auC A] at g;simp only[show ai ((16:Int)≠0)=aw from rfl,i_t];exact o _ _ ⟨by rw[<-g];rfl,d.done⟩
  rw[auB (by simp[A])];rw[auB (by simp[A])] at g;simp only[show ai ((0:Int)≠0)=au from rfl,i_f];rw[Oo,Om d 0 rfl];simp only[z,rs,auF,i_f];rw[fpm1,pm_1 d 0 rfl];have Q:1<=x.c∧x.c<=1000000:=⟨h.2.1,by have:=h.2.2.2.1;omega⟩;have e:∀W:ao,(aV 235 #[(2,ad x.c)]).run ah W=.ok (.value (rwV cI cI x.c)) W:=λW=>by kernel_rfl
  refine aD (e w3) |>.mpr ?_;refine bK (λb=>af b 0) (rwC cI cI 0) 235 (λ_=>by kernel_rfl) d λq w4 d=>?_;refine jH 0 d rfl (new:=rwC cI cI x.c) szRw (Yl rfl rfl) rfl λw5 d=>?_;generalize x.head=i at g y A ⊢;generalize x.c=co at g Q d ⊢;have d:=(d.nilU 5 1).nilU 5 1;have d:=d.sub (L':=[.urow 5 1 cI 0 [],.urow 5 1 cI 0 [],rwE q cI cI co]) (.cons_cons _ (.cons_cons _ (.cons_cons _ (List.nil_sublist _))));refine loop (λvs W=>∃(t prev out:List UInt8) (ov va j:aq) (e:Ent),vs=[ae t,ov]∧t.length<=s.length∧t.length % (n+i)=0∧out.length+t.length<=s.length∧prev.length<=1000000∧BRd e j prev∧va.oneCell'=aw∧(∃f,t.length < f∧ky co n i f t prev out=X)∧bT NoB w W [pP ov out,e,rwE q va j co]) (λvs _=>BW (vs.getD 0 undef)) ⟨s,[],[],cI,cI,cI,_,rfl,om,A,sm,sm,λW h=>Sl.urow h,rfl,⟨_,om,g⟩,d⟩ ?_;clear d g;rintro vs L ⟨t,prev,out,ov,va,j,e,rfl,a1,M,a6,a7,B,a8,⟨f,hf,g⟩,d⟩ _;simp only[uT,gd,nz];obtain⟨f,rfl⟩:∃f',f=f'+1:=⟨f - 1,om⟩;rw[ky] at g;dsimp only at g;rw[iU auQ]
  try simp only[rs]
  by_cases R:t.length=0
  ·rw[auC R] at g;simp only[show ai ((0:Int) < (t.length:Int))=au from auD om,i_f];rw[JU avH awI auQ (zP (d.at_ 0 rfl))];exact o _ _ ⟨by rw[<-g];rfl,d.done⟩
  rw[auB R] at g;simp only[show ai ((0:Int) < (t.length:Int))=aw from auG om,i_t];have N:n+i<=t.length:=Nat.le_of_dvd om (Nat.dvd_of_mod_eq_zero M);refine join λJ3 O=>?_;have r:j.oneCell'=true:=nS (B L (d.at_ 1 rfl));have next:∀tag:Nat,(tag=if i=1 then (t.getD 0 0).toNat else 1)->J3 [ad (tag:Int)] L:=by
   intro tag C;rw[<-C] at g;refine O _ _ λ_=>?_;simp only[uL,gd,rs,iN,bnx];by_cases S:5<=tag
   ·rw[auC S] at g;simp only[show ai ((5:Int)<=(tag:Int))=aw from auG om,i_t];exact o _ _ ⟨by rw[<-g];rfl,d.done⟩
   rw[auB S] at g;simp only[show ai ((5:Int)<=(tag:Int))=au from auD om,i_f];have u:((t.drop i).take n).length=n:=by rw[auM,auT];omega
   have k:(ej (tag:Int) prev co [] ((t.drop i).take n)).length=n:=by rw[qt,u];simp
   have fin:∀b cap W,bT NoB w W [.mkr 5 b ((t.drop i).take n),pP ov out,e,rwE q j (bO b 0 ((t.drop i).take n).length cap) co]->iP (ae t) (ad (n:Int)) (ad (i:Int)) ov (af q 0) (ad (tag:Int)) W (Vg (λvs W=>∃(t prev out:List UInt8) (ov va j:aq) (e:Ent),vs=[ae t,ov]∧t.length<=s.length∧t.length % (n+i)=0∧out.length+t.length<=s.length∧prev.length<=1000000∧BRd e j prev∧va.oneCell'=aw∧(∃f,t.length < f∧ky co n i f t prev out=X)∧bT NoB w W [pP ov out,e,rwE q va j co]) (λvs _=>BW (vs.getD 0 undef)) [ae t,ov] L) K:=by
    intro b cap W d;unfold iP nz;rw[EN (d.agg 3 rfl Qb)];refine amJ 2 0 dc d rfl rfl B Q om λW2 d=>?_;refine aD (bE Ai) |>.mpr (aD (BG (d.at_ 3 rfl)) |>.mpr ?_);have m:=Wm (cap:=cap) (d.at_ 0 rfl);rw[k] at m;rw[u];refine bZ 1 avH O5 dc d rfl m fW om om λv' D d=>?_
    try simp only[rs]
    rw[aA om om,TH auQ om om,show ((n:Int)+(i:Int)).toNat=n+i by omega];have E:BRd (.mkr 5 b (ej (tag:Int) prev co [] ((t.drop i).take n))) (bO b 0 n cap) (ej (tag:Int) prev co [] ((t.drop i).take n)):=by
     have:=@X6 b cap (ej (tag:Int) prev co [] ((t.drop i).take n))
     rwa [k] at this
    have d:bT NoB w D [.mkr 5 b (ej (tag:Int) prev co [] ((t.drop i).take n)),pP v' (out++ej (tag:Int) prev co [] ((t.drop i).take n)),e,rwE q j (bO b 0 n cap) co]:=by
     rw[tU,k];rw[u] at d;exact d
    have F:(t.drop (n+i)).length=t.length - (n+i):=auT;refine bC ⟨t.drop (n+i),_,_,v',j,_,_,rfl,om,?_,by rw[auH,k];omega,by rw[k];omega,E,r,⟨f,om,g⟩,?_⟩ ?_
    ·rw[F,Nat.mod_eq_sub_mod N] at *;omega
    ·exact (bT.swap d).sub (.cons_cons _ (.cons_cons _ (.cons _ (azV _))))
    ·show BW (ae (t.drop (n+i))) < BW (ae t);rw[xC,xC,F];omega
   have d:=d.drew;refine⟨λW=>∃a,(rwE q a j co).is W,⟨va,d.at_ 2 rfl⟩,?_⟩;refine aP _ (λ_=>bE Ai) (fS _ (λW ⟨a,h⟩=>BG h) ?_);refine aP _ (λ_=>Fk) ?_;rw[aA om om];refine aP _ (λ_=>rP auQ om om om) ?_;rw[show ((n:Int)+(i:Int)).toNat - ((i:Nat):Int).toNat=n by omega,auJ];refine aP _ (λ_=>bE SD) ⟨?_,?_⟩
   ·refine Np auQ avH awI d λb cap w7 d=>⟨⟨va,d.at_ 3 rfl⟩,?_⟩;refine aO 3 d rfl krx r (by show 0+0 < 3;omega) λw8 d=>?_;refine aP _ (λ_=>bE Ai) ?_;refine aO 3 d rfl krx rfl (by show 0+1 < 3;omega) λD d=>?_;exact fin b cap D d
   ·refine aO 2 d rfl krx r (by show 0+0 < 3;omega) λw8 d=>?_;refine Np auQ avH awI d λb cap w7 d=>⟨⟨j,d.at_ 3 rfl⟩,?_⟩;refine aP _ (λ_=>bE Ai) ?_;refine aO 3 d rfl krx rfl (by show 0+1 < 3;omega) λD d=>?_;exact fin b cap D d
  try simp only[rs]
  by_cases G:i=1
  ·simp only[show ai ((i:Int)=1)=aw from auG om,i_t];rw[s_ix (c:=t.getD 0 0) auQ dc (get0 om),Oq];exact next _ (by rw[auC G])
  ·simp only[show ai ((i:Int)=1)=au from auD om,i_f];exact next 1 (by rw[auB G])
 have y:x.head=if 10<=x.p then 1 else 0:=rfl
 by_cases l:10<=x.p
 ·simp only[l,auE,i_t];rw[auC l] at y;rw[y] at main;exact main
 ·simp only[l,auF,i_f];rw[auB l] at y;rw[y] at main;exact main
end
end Go.Proofs.YtlgndjkieegnaaaGreatDoor



namespace Go.Proofs.YtlgndjkieegnaaaGreatDoor
variable{K:VWP}{L:List Eng.Ent}{M:Eng.Mem}{P:Program}{PK PK2:PKT}{R:Ending->FrameMode->ao->Prop}{S:Nat->Prop}{W w w0:ao}{a colors:Int}{above key:List UInt8}{aj:List (Nat×List Nat)}{b cap d i id j:Nat}{cb:Array Bool}{cs:List aq}{e:Eng.Ent}{fn:Func}{o:Ob}{os:List Ob}{q:Bool}{t0 v va vc vk:aq}{u:FrameMode}{t0 t1 t2 t3:aq}{k0:Eng.KT}
section
open Eng Go.RowKit
def jj (most:Nat):List UInt8->Int->List UInt8->List UInt8×Int
|[],_,_=>([],4)
|c::r,half,out=>
  if Oc.JP c=aw then jj most r half out
  else if c=62 then (if half < 0 then (out,0) else if most<=out.length then ([],5) else (out++[UInt8.ofNat (16*half.toNat)],0))
  else if Lx.digit c < 0 then ([],3)
  else if half < 0 then jj most r (Lx.digit c) out
  else if most<=out.length then ([],5)
  else jj most r (-1) (out++[UInt8.ofNat (16*half+Lx.digit c).toNat])
def lj (D:Nat->List UInt8×Int)(most:Int):List UInt8×Int:=if most < 0 then ([],1) else D (min most.toNat 1048576)
def pq (s:List UInt8)(most:Int):List UInt8×Int:=lj (λm=>jj m s (-1) []) most
section
variable {w:ao}{PK:PKT}{K:VWP}{S:Nat->Prop}{w0:ao}{L T:List Ent}
end
end
end Go.Proofs.YtlgndjkieegnaaaGreatDoor

namespace Go.Proofs.YtlgndjkieegnaaaGreatDoor
variable{K:VWP}{L:List Eng.Ent}{M:Eng.Mem}{P:Program}{PK PK2:PKT}{R:Ending->FrameMode->ao->Prop}{S:Nat->Prop}{W w w0:ao}{a colors:Int}{above key:List UInt8}{aj:List (Nat×List Nat)}{b cap d i id j:Nat}{cb:Array Bool}{cs:List aq}{e:Eng.Ent}{fn:Func}{o:Ob}{os:List Ob}{q:Bool}{t0 v va vc vk:aq}{u:FrameMode}{t0 t1 t2 t3:aq}{k0:Eng.KT}
section
open Eng Go.RowKit
def jl (most:Nat):Nat->List UInt8->List UInt8->List UInt8×Int
|0,_,_=>([],13)
|f+1,s,out=>
  match s with
 |[]=>([],4)
 |c::r=>
   if c.toNat=128 then (out,0)
   else if c.toNat < 128 then
    if r.length < c.toNat+1 then ([],4)
    else if most < out.length+(c.toNat+1) then ([],5)
    else jl most f (r.drop (c.toNat+1)) (out++r.take (c.toNat+1))
   else if r.length < 1 then ([],4)
   else if most < out.length+(257 - c.toNat) then ([],5)
   else jl most f (r.drop 1) (out++Lib.repeatL (r.take 1) (257 - c.toNat))
def ru (s:List UInt8)(most:Int):List UInt8×Int:=lj (λm=>jl m (s.length+1) s []) most
section
variable {w:ao}{PK:PKT}{K:VWP}{S:Nat->Prop}{w0:ao}{L T:List Ent}
theorem afF (c:UInt8){ov:aq}{out:List UInt8}(a:bT S w0 w (pP ov out::T))(e:out.length<=1000000000)(k:∀b W,bT S w0 W (pP b (out++[c])::T)->K b W) :
  DoX ah (aM 80 1 #[(0,.int .u8 (c.toNat:Int))]) w PK λt w=>DoX ah (mB .append #[80,80] 80 #[au,au] #[ov,t]) w PK K:=by
 refine UY _ a λf w2 a=>?_;refine bZ 1 avH O5 dc a rfl (sQ (a.at_ 0 rfl) dc rfl) fW om om λv' d a=>k v' d ?_;rw[tU];exact a.tail
end
def ud:List Nat:=[52200625,614125,7225,85,1]
def mm (g:List UInt8)(i:Nat):Nat:=(g.getD i 84).toNat
def ee (g:List UInt8):Nat:=(((mm g 0*85+mm g 1)*85+mm g 2)*85+mm g 3)*85+mm g 4
theorem lt5 (h:i < 5):i=0∨i=1∨i=2∨i=3∨i=4:=om
def nr (a:Nat)(r g out:List UInt8):List UInt8×Int:=
 if r=[] then ([],4)
 else if r.getD 0 0≠62∨g.length=1 then ([],3)
 else if g.length=0 then (out,0)
 else if 4294967296<=ee g then ([],3)
 else if a < out.length+(g.length - 1) then ([],5)
 else (out++(cd (ee g)).take (g.length - 1),0)
def fp (a:Nat):List UInt8->List UInt8->List UInt8->List UInt8×Int
|[],_,_=>([],4)
|c::r,g,out=>
  if Oc.JP c=aw then fp a r g out
  else if c.toNat=122∧g.length=0 then (if a < out.length+4 then ([],5) else fp a r [] (out++[0,0,0,0]))
  else if 33<=c.toNat∧c.toNat<=117 then
   if g.length+1 < 5 then fp a r (g++[c - 33]) out
   else if 4294967296<=ee (g++[c - 33]) then ([],3)
   else if a < out.length+4 then ([],5)
   else fp a r [] (out++cd (ee (g++[c - 33])))
  else if c.toNat=126 then nr a r g out
  else ([],3)
def ry (s:List UInt8)(most:Int):List UInt8×Int:=lj (λm=>fp m s [] []) most
def Pws (M:Mem):Prop:=M.A 0∧∀i,i < 5->M.w.cell? ⟨0,i,ax⟩=ay (.int .u64 ((ud.getD i 0:Nat):Int))
theorem Pws.le {M N:Mem}(h:M.le N)(k:Pws M):Pws N:=⟨h.A _ k.1,λi hi=>Mem.cell h.has k.1 (k.2 i hi)⟩
theorem aoB {n:Nat}(h:n < 18446744073709551616):IntKind.u64.wrap (n:Int)=(n:Int):=by unfold IntKind.wrap;simp[IntKind.bits,IntKind.signed];omega
section
variable {w:ao}{PK:PKT}{K:VWP}{S:Nat->Prop}{w0:ao}{L T:List Ent}
end
section
variable {w:ao}{PK:PKT}{K:VWP}{S:Nat->Prop}{w0:ao}{T:List Ent}
end
def IT (g:List UInt8):Nat->Nat
|0=>0
|i+1=>IT g i*85+mm g i
section
variable {w:ao}{PK:PKT}{K:VWP}{S:Nat->Prop}{w0:ao}{L T:List Ent}
end
end
section
open Eng
def yM(t0 t1 w)(K:KT):=nz f92 1 [] [] [] (zg [0,1] [t0,t1]) w K
theorem zO:yM t0 t1 w k0->Calls ah 92 #[t0,t1] w k0:=cw func92
def wP(t6 t25 t26 t27 w)(a:JT)(K:KT):=nz f93 351 [a] [nh 19 [6,27]] [] (zg [6,25,26,27] [t6,t25,t26,t27]) w K
def wX(t5 w)(K:KT):=nz f93 31 [] [(19,[6,27],λs v j w f=>wP (vg v 0) (s 25) (s 26) (vg v 1) w (f 0) K)] [] (zg [5] [t5]) w K
def Bs(t0 w)(K:KT):=nz f93 1 [] [(14,[5],λs v j w f=>wX (vg v 0) w K)] [] (zg [0] [t0]) w K
theorem F5:Bs t0 w k0->Calls ah 93 #[t0] w k0:=cz [(7,[5])] [(9,[6,27])] func93
def Ah(t1 t8 w)(a:JT)(K:KT):=nz f95 639 [a] [nh 41 [8]] [] (zg [1,8] [t1,t8]) w K
def zE(t1 t8 t47 t48 t49 w)(a:JT)(K:KT):=nz f95 703 [a] [nh 33 [49],(41,[8],λs v j w f=>Ah (s 1) (vg v 0) w (f 0) K)] [] (zg [1,8,47,48,49] [t1,t8,t47,t48,t49]) w K
def zA(t1 t5 t8 t30 t31 t32 w)(a:JT)(K:KT):=nz f95 175 [a] [nh 21 [8,32],(33,[49],λs v j w f=>zE (s 1) (s 8) (s 47) (s 48) (vg v 0) w (f 0) K)] [] (zg [1,5,8,30,31,32] [t1,t5,t8,t30,t31,t32]) w K
def zY(t1 t5 w)(K:KT):=nz f95 15 [] [(21,[8,32],λs v j w f=>zA (s 1) (s 5) (vg v 0) (s 30) (s 31) (vg v 1) w (f 0) K)] [] (zg [1,5] [t1,t5]) w K
def DM(t0 t1 w)(K:KT):=nz f95 1 [] [(16,[5],λs v j w f=>zY (s 1) (vg v 0) w K)] [] (zg [0,1] [t0,t1]) w K
theorem Hn:DM t0 t1 w k0->Calls ah 95 #[t0,t1] w k0:=cz [(8,[5])] [(10,[8,32]),(16,[49]),(20,[8])] func95
def aE (a:Deferred)(b:aq)(c:aq)(d:aq)(K:Ending->ao->Prop):=pd ah [.cell b 22,.cell c 54,.cell d 35] K [a]
def mE(a b c d1 w)(K:KT):=
 Et ah [.cell a 22,.cell b 54,.cell c 35] K [d1] .returning w
def Fa(b a c h i d d1 w)(y:JT)(K:KT):=
 DoX ah (iQ .lss 3 d i) w (aE d1 b a c K) λj w=>IfX j (DoX ah (mIA 22 h d) w (aE d1 b a c K) λk w=>DoX ah (aH 9 k) w (aE d1 b a c K) λl w=>DoX ah (aH 54 a) w (aE d1 b a c K) λm w=>DoX ah (mIA 54 m d) w (aE d1 b a c K) λn w=>DoX ah (aH 53 n) w (aE d1 b a c K) λo w=>cR ah 96 #[o] w (aE d1 b a c K) λf w=>DoX ah (mEq .neq 35 (.tmp 58) (.const (iN 0)) f (iN 0)) w (aE d1 b a c K) λe w=>etx e l w λp w=>GDo e aw (λE=>DoX ah (mEq .neq 9 (.tmp 61) (.const (.string ⟨#[]⟩)) p (.string ⟨#[]⟩)) w (aE d1 b a c K) E) w λq w=>DoX ah (iB e q (.bool au)) w (aE d1 b a c K) λr w=>IfX r (DoX ah (aN 22 b (.slice ax 0 0)) w (aE d1 b a c K) λ_ w=>DoX ah (aN 54 a (.slice ax 0 0)) w (aE d1 b a c K) λ_ w=>DoX ah (aN 35 c f) w (aE d1 b a c K) λ_ w=>Et ah [.cell b 22,.cell a 54,.cell c 35] K [d1] .returning w) (DoX ah (iQ .add 3 d (iN 1)) w (aE d1 b a c K) λs w=>AtX [d1] [d1] (y [s] w))) (DrawX w (λw=>(DoX ah (aH 22 b) w (aE d1 b a c K) λg w=>(DoX ah (aH 54 a) w (aE d1 b a c K) λt w=>DoX ah (aN 22 b g) w (aE d1 b a c K) λ_ w=>DoX ah (aN 54 a t) w (aE d1 b a c K) λ_ w=>DoX ah (aN 35 c (iN 0)) w (aE d1 b a c K) λ_ w=>mE b a c d1 w K)∧(DoX ah (aN 22 b g) w (aE d1 b a c K) λ_ w=>DoX ah (aH 54 a) w (aE d1 b a c K) λu w=>DoX ah (aN 54 a u) w (aE d1 b a c K) λ_ w=>DoX ah (aN 35 c (iN 0)) w (aE d1 b a c K) λ_ w=>mE b a c d1 w K))∧(DoX ah (aH 54 a) w (aE d1 b a c K) λv w=>DoX ah (aH 22 b) w (aE d1 b a c K) λx w=>DoX ah (aN 22 b x) w (aE d1 b a c K) λ_ w=>DoX ah (aN 54 a v) w (aE d1 b a c K) λ_ w=>DoX ah (aN 35 c (iN 0)) w (aE d1 b a c K) λ_ w=>mE b a c d1 w K)))
def EL(g a b c h i j d d1 w)(A:JT)(K:KT):=
 DoX ah (iQ .lss 3 d j) w (aE d1 a b c K) λk w=>IfX k (DoX ah (mIA 22 i d) w (aE d1 a b c K) λl w=>DoX ah (aH 9 l) w (aE d1 a b c K) λm w=>cR ah 94 #[m] w (aE d1 a b c K) λe w=>DoX ah (Ag e 0) w (aE d1 a b c K) λn w=>DoX ah (Ag e 1) w (aE d1 a b c K) λo w=>cR ah 92 #[o,(iN 15)] w (aE d1 a b c K) λy w=>DoX ah (aH 22 a) w (aE d1 a b c K) λp w=>DoX ah (aM 22 1 #[(0,n)]) w (aE d1 a b c K) λq w=>DoX ah (mB .append #[22,22] 22 #[au,au] #[p,q]) w (aE d1 a b c K) λr w=>DoX ah (aN 22 a r) w (aE d1 a b c K) λ_ w=>DoX ah (iQ .add 3 d (iN 1)) w (aE d1 a b c K) λs w=>AtX [d1] [d1] (A [s] w)) (DoX ah (aH 25 g) w (aE d1 a b c K) λt w=>DoX ah (mB .len #[22] 3 #[au] #[h]) w (aE d1 a b c K) λu w=>cR ah 95 #[t,u] w (aE d1 a b c K) λv w=>DoX ah (aN 54 b v) w (aE d1 a b c K) λ_ w=>DoX ah (aH 22 a) w (aE d1 a b c K) λf w=>DoX ah (mB .len #[22] 3 #[au] #[f]) w (aE d1 a b c K) λx w=>Es [(iN 0)] w (λz w B=>∀_:Sg,Fa a b c f x (z.getD 0 undef) d1 w B K))
def KJ(f w)(K:KT):=
 dx (GP 25 f) w K λe w=>alx 22 w K λa w=>alx 54 w K λb w=>alx 35 w K λc w=>dx (QQ (.func 91) #[] #[a,b,c]) w K λg w=>DfrX (dfrV g #[]) (λd1=>DoX ah (mFA 25 e 0) w (aE d1 a b c K) λh w=>DoX ah (aH 3 h) w (aE d1 a b c K) λi w=>DoX ah (mEq .eql 3 (.tmp 15) (.const (iN 9)) i (iN 9)) w (aE d1 a b c K) λj w=>cR ah 92 #[j,(iN 10)] w (aE d1 a b c K) λo w=>DoX ah (aH 25 e) w (aE d1 a b c K) λk w=>cR ah 93 #[k] w (aE d1 a b c K) λd w=>DoX ah (mB .len #[22] 3 #[au] #[d]) w (aE d1 a b c K) λl w=>DoX ah (iQ .leq 3 l (iN 8)) w (aE d1 a b c K) λm w=>cR ah 92 #[m,(iN 6)] w (aE d1 a b c K) λp w=>DoX ah (mB .len #[22] 3 #[au] #[d]) w (aE d1 a b c K) λn w=>Es [(iN 0)] w (λq w r=>∀_:Sg,EL e a b c d d n (q.getD 0 undef) d1 w r K))
theorem Ly:KJ t0 w k0->Calls ah 48 #[t0] w k0:=cz [] [(6,[26]),(14,[48])] func48
def xH(t5 t7 t21 t22 t23 w)(N1:JT)(K:KT):=nz f18 175 [N1] [nh 13 [7,23]] [] (zg [5,7,21,22,23] [t5,t7,t21,t22,t23]) w K
def Bp(t0 w)(K:KT):=nz f18 1 [] [(13,[7,23],λs v j w f=>xH (s 5) (vg v 0) (s 21) (s 22) (vg v 1) w (f 0) K)] [] (zg [0] [t0]) w K
theorem EG:Bp t0 w k0->Calls ah 18 #[t0] w k0:=cz [] [(6,[7,23])] func18
def BN(a w)(K:KT):=
 K (.returned (.tuple #[a,(.bool aw)])) w
def Cc(a w)(b:JT):=
 b [a] w
def Cr(a w)(b:JT):=
 b [a] w
def B2(a w)(b:JT):=
 b [a] w
def BP(a w)(b:JT):=
 b [a] w
def FB(a w)(K:KT):=
 Fq (λj=>Fq (λp=>Fq (λq=>Fq (λr=>Fq (λs=>eqx .eql 9 (.tmp 4) (.const (.string ⟨#[65,72,120]⟩)) a (.string ⟨#[65,72,120]⟩) w K λb w=>IfX b (s [(.string ⟨#[65,83,67,73,73,72,101,120,68,101,99,111,100,101]⟩)] w) (eqx .eql 9 (.tmp 4) (.const (.string ⟨#[65,83,67,73,73,72,101,120,68,101,99,111,100,101]⟩)) a (.string ⟨#[65,83,67,73,73,72,101,120,68,101,99,111,100,101]⟩) w K λc w=>IfX c (s [a] w) (eqx .eql 9 (.tmp 4) (.const (.string ⟨#[65,56,53]⟩)) a (.string ⟨#[65,56,53]⟩) w K λd w=>IfX d (r [(.string ⟨#[65,83,67,73,73,56,53,68,101,99,111,100,101]⟩)] w) (eqx .eql 9 (.tmp 4) (.const (.string ⟨#[65,83,67,73,73,56,53,68,101,99,111,100,101]⟩)) a (.string ⟨#[65,83,67,73,73,56,53,68,101,99,111,100,101]⟩) w K λe w=>IfX e (r [a] w) (eqx .eql 9 (.tmp 4) (.const (.string ⟨#[82,76]⟩)) a (.string ⟨#[82,76]⟩) w K λf w=>IfX f (q [(.string ⟨#[82,117,110,76,101,110,103,116,104,68,101,99,111,100,101]⟩)] w) (eqx .eql 9 (.tmp 4) (.const (.string ⟨#[82,117,110,76,101,110,103,116,104,68,101,99,111,100,101]⟩)) a (.string ⟨#[82,117,110,76,101,110,103,116,104,68,101,99,111,100,101]⟩) w K λg w=>IfX g (q [a] w) (eqx .eql 9 (.tmp 4) (.const (.string ⟨#[70,108]⟩)) a (.string ⟨#[70,108]⟩) w K λh w=>IfX h (p [(.string ⟨#[70,108,97,116,101,68,101,99,111,100,101]⟩)] w) (eqx .eql 9 (.tmp 4) (.const (.string ⟨#[70,108,97,116,101,68,101,99,111,100,101]⟩)) a (.string ⟨#[70,108,97,116,101,68,101,99,111,100,101]⟩) w K λi w=>IfX i (p [a] w) (K (.returned (.tuple #[(.string ⟨#[]⟩),(.bool au)])) w))))))))) (λk w=>∀_:Sg,BP (k.getD 0 undef) w j)) (λl w=>∀_:Sg,B2 (l.getD 0 undef) w j)) (λm w=>∀_:Sg,Cr (m.getD 0 undef) w j)) (λn w=>∀_:Sg,Cc (n.getD 0 undef) w j)) (λo w=>∀_:Sg,BN (o.getD 0 undef) w K)
theorem Im:FB t0 w k0->Calls ah 94 #[t0] w k0:=cz [(15,[0]),(999999,[0])] [] func94
def DI(w)(K:KT):=nz f125 1 [] [] [] (zg [] []) w K
theorem G8:DI w k0->Calls ah 125 #[] w k0:=cw func125
def Be(t0 t1 w)(K:KT):=nz f168 1 [] [] [] (zg [0,1] [t0,t1]) w K
theorem FZ:Be t0 t1 w k0->Calls ah 168 #[t0,t1] w k0:=cw func168
def Hx(c w)(K:KT):=
 dx (GP 25 c) w K λa w=>alx 53 w K λb w=>fax 25 a 0 w K λd w=>ldx 3 d w K λe w=>ecx .eql 3 4 0 e w K λf w=>IfX f (cx 125 #[] w K λg w=>stx 53 b g w K λ_ w=>Bw ah [.cell b 53] w K) (fax 25 a 0 w K λh w=>ldx 3 h w K λi w=>ecx .eql 3 8 7 i w K λj w=>cx 92 #[j,(iN 10)] w K λr w=>Ay w (λS1 w=>HDo ah S1 (aH 25 a) λk=>HDo ah S1 (aH 25 a) λl=>HDo ah S1 (aH 25 a) λm=>cR ah 168 #[k,(.string ⟨#[80,114,101,100,105,99,116,111,114]⟩)] w (az 4 (pk K)) λn w=>S1 w∧(cR ah 168 #[l,(.string ⟨#[67,111,108,111,114,115]⟩)] w (az 4 (pk K)) λo w=>S1 w∧(cR ah 168 #[m,(.string ⟨#[67,111,108,117,109,110,115]⟩)] w (az 4 (pk K)) λp w=>S1 w∧(HDo ah (λ_=>True) (aV 53 #[(0,n),(1,o),(2,p)]) λq=>DoX ah (aN 53 b q) w (az 4 (pk K)) λ_ w=>(Bw ah [.cell b 53] w K))))))
theorem KY:Hx t0 w k0->Calls ah 132 #[t0] w k0:=cw func132
def Dd(t0 w)(K:KT):=nz f133 1 [] [] [] (zg [0] [t0]) w K
theorem GR:Dd t0 w k0->Calls ah 133 #[t0] w k0:=cw func133
def FA(t0 t1 t2 w)(K:KT):=nz f49 1 [] [] [] (zg [0,1,2] [t0,t1,t2]) w K
theorem Iw:FA t0 t1 t2 w k0->Calls ah 49 #[t0,t1,t2] w k0:=cw func49
def Kw(t0 t1 w)(K:KT):=nz f97 1 [] [] [(12,7)] (zg [0,1] [t0,t1]) w K
theorem LM:Kw t0 t1 w k0->Calls ah 97 #[t0,t1] w k0:=cw func97
def FI(t0 w)(K:KT):=nz f135 1 [] [] [] (zg [0] [t0]) w K
theorem IJ:FI t0 w k0->Calls ah 135 #[t0] w k0:=cw func135
def BQ(t0 t1 w)(K:KT):=nz f169 1 [] [] [] (zg [0,1] [t0,t1]) w K
theorem Gr:BQ t0 t1 w k0->Calls ah 169 #[t0,t1] w k0:=cw func169
def E2(t0 w)(K:KT):=nz f137 1 [] [] [] (zg [0] [t0]) w K
theorem IA:E2 t0 w k0->Calls ah 137 #[t0] w k0:=cw func137
def AY(t0 t1 w)(K:KT):=nz f171 1 [] [] [] (zg [0,1] [t0,t1]) w K
theorem FW:AY t0 t1 w k0->Calls ah 171 #[t0,t1] w k0:=cw func171
def HK(t0 t1 t2 w)(K:KT):=nz f86 1 [] [] [] (zg [0,1,2] [t0,t1,t2]) w K
theorem JN:HK t0 t1 t2 w k0->Calls ah 86 #[t0,t1,t2] w k0:=cw func86
def Dv(t0 t1 w)(K:KT):=nz f87 1 [] [] [] (zg [0,1] [t0,t1]) w K
theorem Hb:Dv t0 t1 w k0->Calls ah 87 #[t0,t1] w k0:=cw func87
def wG(t4 t8 w)(K:KT):=nz f44 4095 [] [] [] (zg [4,8] [t4,t8]) w K
def nK(o b a e g h c p q d w)(J:JT)(K:KT):=
 bnx .lss 3 d q w K λr w=>IfX r (iax 22 p d w K λs w=>ldx 9 s w K λt w=>iax 54 o d w K λu w=>ldx 53 u w K λv w=>cx 88 #[v] w K λi w=>exx i 0 w K λx w=>exx i 1 w K λj w=>alx 25 w K λf w=>stx 25 f x w K λ_ w=>ecx .neq 35 93 0 j w K λy w=>IfX y (dx (aV 25 #[]) w K λz w=>stx 25 a z w K λ_ w=>Bw ah [.cell a 25,.val j] w K) (cx 82 #[t] w K λA w=>dx (aM 23 1 #[(0,A)]) w K λB w=>apx 23 g B w K λC w=>ldx 25 f w K λD w=>dx (aM 23 1 #[(0,D)]) w K λF w=>apx 23 h F w K λG w=>gfx c (mFA 25 f 0) w K λH w=>gfx c (aH 3 H) w K λI w=>gfx c (mEq .neq 3 (.tmp 109) (.const (iN 0)) I (iN 0)) w K λL w=>dx (iB c (.bool aw) L) w K λM w=>bnx .add 3 d (iN 1) w K λO w=>J [e,C,G,M,O] w)) (Ay w (λS4 w=>HDo ah S4 (aH 25 b) λP=>cR ah 89 #[g] w (az 6 (pk K)) λQ w=>S4 w∧(cR ah 84 #[P,(.string ⟨#[70,105,108,116,101,114]⟩),Q] w (az 6 (pk K)) λk w=>(HDo ah (λ_=>True) (Ag k 0) λR=>HDo ah (λ_=>True) (Ag k 1) λl=>DoX ah (aN 25 b R) w (az 6 (pk K)) λ_ w=>(ecx .neq 35 120 0 l w K λS w=>IfX S (dx (aV 25 #[]) w K λT w=>stx 25 a T w K λ_ w=>Bw ah [.cell a 25,.val l] w K) (Fq (λE=>IfX c (Ay w (λS6 w=>HDo ah S6 (aH 25 b) λU=>cR ah 89 #[h] w (az 6 (pk K)) λV w=>S6 w∧(cR ah 84 #[U,(.string ⟨#[68,101,99,111,100,101,80,97,114,109,115]⟩),V] w (az 6 (pk K)) λm w=>(HDo ah (λ_=>True) (Ag m 0) λW=>HDo ah (λ_=>True) (Ag m 1) λn=>DoX ah (aN 25 b W) w (az 6 (pk K)) λ_ w=>(ecx .neq 35 132 0 n w K λX w=>IfX X (dx (aV 25 #[]) w K λY w=>stx 25 a Y w K λ_ w=>Bw ah [.cell a 25,.val n] w K) (E [e] w)))))) (E [e] w)) (λN w=>∀_:Sg,wG b a w K)))))))
def jI(b f g c a h d w)(N1:JT)(K:KT):=
 bnx .geq 3 d (iN 0) w K λm w=>IfX m (Ay w (λS2 w=>HDo ah S2 (mIA 22 b d) λn=>HDo ah S2 (aH 9 n) λo=>HDo ah S2 (mIA 54 f d) λp=>HDo ah S2 (aH 53 p) λq=>cR ah 86 #[o,q,g] w (az 14 (pk K)) λi w=>S2 w∧(HDo ah S2 (Ag i 0) λr=>HDo ah S2 (Ag i 1) λj=>ecx .neq 35 59 0 j w K λs w=>IfX s (dx (aV 25 #[]) w K λt w=>stx 25 a t w K λ_ w=>Bw ah [.cell a 25,.val j] w K) (bnx .sub 3 d (iN 1) w K λu w=>N1 [r,h,u] w)))) (ldx 25 c w K λv w=>cx 87 #[v,g] w K λk w=>exx k 0 w K λx w=>exx k 1 w K λl w=>stx 25 c x w K λ_ w=>ecx .neq 35 69 0 l w K λe w=>efx e b w λy w=>gfx e (mB .len #[22] 3 #[au] #[y]) w K λz w=>gfx e (mEq .eql 3 (.tmp 73) (.const (iN 0)) z (iN 0)) w K λA w=>dx (iB e (.bool aw) A) w K λB w=>IfX B (ldx 25 c w K λC w=>stx 25 a C w K λ_ w=>Bw ah [.cell a 25,.val l] w K) (lnx 22 b w K λD w=>Es [h,(.slice ax 0 0),(.slice ax 0 0),(.bool au),(iN 0)] w (λE w F=>∀_:Sg,nK f c a (E.getD 0 undef) (E.getD 1 undef) (E.getD 2 undef) (E.getD 3 undef) b D (E.getD 4 undef) w F K)))
def Co(t0 t1 t2 t3 w)(K:KT):=nz f44 1 [] [(15,[3,9,11],λs v j w f=>jI (s 1) (s 2) (vg v 0) (s 4) (s 8) (vg v 1) (vg v 2) w (f 0) K)] [] (zg [0,1,2,3] [t0,t1,t2,t3]) w K
theorem Ga:Co t0 t1 t2 t3 w k0->Calls ah 44 #[t0,t1,t2,t3] w k0:=cz [(34,[9])] [(7,[3,9,11]),(18,[9,12,13,14,80])] func44
def Gf(d w)(K:KT):=
 dx (GP 53 d) w K λa w=>alx 25 w K λb w=>oY w (λy=>QDo ah y (aH 53 a) λe=>Fj ah y 125 #[] λf=>QDo ah y (mEq .eql 53 (.tmp 4) (.tmp 5) e f) λg=>
 ∀w,y w ->
 IfX g (dx (aV 25 #[]) w K λh w=>stx 25 b h w K λ_ w=>Bw ah [.cell b 25,.val (iN 0)] w K) (Ay w (λS2 w=>HDo ah (λ_=>True) (mFA 53 a 1) λi=>HDo ah S2 (aH 3 i) λj=>HDo ah (λ_=>True) (mFA 53 a 2) λk=>HDo ah S2 (aH 3 k) λl=>HDo ah (λ_=>True) (mFA 53 a 0) λm=>HDo ah S2 (aH 3 m) λn=>cR ah 82 #[(.string ⟨#[67,111,108,111,114,115]⟩)] w (az 9 (pk K)) λo w=>S2 w∧(cR ah 81 #[j] w (az 9 (pk K)) λp w=>S2 w∧(cR ah 82 #[(.string ⟨#[67,111,108,117,109,110,115]⟩)] w (az 9 (pk K)) λq w=>S2 w∧(cR ah 81 #[l] w (az 9 (pk K)) λr w=>S2 w∧(cR ah 82 #[(.string ⟨#[80,114,101,100,105,99,116,111,114]⟩)] w (az 9 (pk K)) λs w=>S2 w∧(cR ah 81 #[n] w (az 9 (pk K)) λt w=>S2 w∧(DoX ah (aM 23 6 #[(0,o),(1,p),(2,q),(3,r),(4,s),(5,t)]) w (az 9 (pk K)) λu w=>S2 w∧(cR ah 127 #[u] w (az 9 (pk K)) λc w=>S2 w∧(HDo ah (λ_=>True) (Ag c 0) λv=>HDo ah (λ_=>True) (Ag c 1) λx=>DoX ah (aN 25 b v) w (az 9 (pk K)) λ_ w=>(Bw ah [.cell b 25,.val x] w K))))))))))))
theorem IY:Gf t0 w k0->Calls ah 88 #[t0] w k0:=cw func88
def DC(t0 w)(K:KT):=nz f89 1 [] [] [] (zg [0] [t0]) w K
theorem GM:DC t0 w k0->Calls ah 89 #[t0] w k0:=cw func89
def DK(t12 t13 t14 t51 w)(a:JT)(K:KT):=nz f85 30399 [a] [nh 33 [12,51]] [(20,10)] (zg [12,13,14,51] [t12,t13,t14,t51]) w K
def Dj(t1 t7 t12 t49 t50 t51 w)(a:JT)(K:KT):=nz f85 703 [a] [nh 33 [12,51],(40,[12],λs v j w f=>DK (vg v 0) (s 13) (s 14) (s 51) w (f 0) K)] [] (zg [1,7,12,49,50,51] [t1,t7,t12,t49,t50,t51]) w K
def DG(t0 t1 t7 t18 t19 t20 w)(N1:JT)(K:KT):=nz f85 87 [N1] [nh 11 [7,20],(33,[12,51],λs v j w f=>Dj (s 1) (s 7) (vg v 0) (s 49) (s 50) (vg v 1) w (f 0) K)] [] (zg [0,1,7,18,19,20] [t0,t1,t7,t18,t19,t20]) w K
def Ie(t0 t1 w)(K:KT):=nz f85 1 [] [(11,[7,20],λs v j w f=>DG (s 0) (s 1) (vg v 0) (s 18) (s 19) (vg v 1) w (f 0) K)] [] (zg [0,1] [t0,t1]) w K
theorem Kq:Ie t0 t1 w k0->Calls ah 85 #[t0,t1] w k0:=cz [(20,[12])] [(5,[7,20]),(16,[12,51])] func85
def sF(t0 t1 w)(K:KT):=nz f143 1 [] [] [] (zg [0,1] [t0,t1]) w K
theorem AF:sF t0 t1 w k0->Calls ah 143 #[t0,t1] w k0:=cw func143
def oC(t0 t1 w)(K:KT):=nz f144 1 [] [] [] (zg [0,1] [t0,t1]) w K
theorem vR:oC t0 t1 w k0->Calls ah 144 #[t0,t1] w k0:=cw func144
end
section
open Eng Go.RowKit
namespace Ff
abbrev nHx:List UInt8:=[65,83,67,73,73,72,101,120,68,101,99,111,100,101]
abbrev n85:List UInt8:=[65,83,67,73,73,56,53,68,101,99,111,100,101]
abbrev nRL:List UInt8:=[82,117,110,76,101,110,103,116,104,68,101,99,111,100,101]
abbrev nFl:List UInt8:=[70,108,97,116,101,68,101,99,111,100,101]
abbrev aQ:List UInt8:=[70,105,108,116,101,114]
abbrev bS:List UInt8:=[68,101,99,111,100,101,80,97,114,109,115]
abbrev AE:List UInt8:=[80,114,101,100,105,99,116,111,114]
abbrev Al:List UInt8:=[67,111,108,111,114,115]
abbrev Ap:List UInt8:=[67,111,108,117,109,110,115]
abbrev aaO:List UInt8:=[66,105,116,115,80,101,114,67,111,109,112,111,110,101,110,116]
def full (n:List UInt8):List UInt8:=
 if n=[65,72,120]∨n=nHx then nHx
 else if n=[65,56,53]∨n=n85 then n85
 else if n=[82,76]∨n=nRL then nRL
 else if n=[70,108]∨n=nFl then nFl
 else []
def xF:Pm:=⟨1,1,1⟩
def num (o:Ob)(key:List UInt8):Int×Int:=match Vl.get o key with|none=>(1,0)|some v=>if v.k=2 then (v.n,0) else (0,10)
def L6 (o:Ob):Pm×Int:=
 if o.k=0 then (xF,0)
 else if o.k=7∧(num o AE).2=0∧(num o Al).2=0∧(num o Ap).2=0 then (⟨(num o AE).1,(num o Al).1,(num o Ap).1⟩,0)
 else (⟨0,0,0⟩,10)
def eight (o:Ob):Bool:=match Vl.get o aaO with|none=>aw|some v=>ai (v.k=2)&&ai (v.n=8)
theorem G3 (n:List UInt8):full n=nHx∨full n=n85∨full n=nRL∨full n=nFl∨full n=[]:=by
 unfold full
 repeat' split
 all_goals simp
end Ff
theorem KC (n:List UInt8)(w:ao):Ret ah 94 #[ae n] w (λv w'=>v=.tuple #[ae (Ff.full n),.bool (ai (Ff.full n≠[]))]∧w=w'):=by
 refine aX λK j=>Im ?_;unfold FB eqx;refine join λr k=>join λs l=>join λt o=>join λu p=>join λx q=>?_;have fin:∀m:List UInt8,m=Ff.full n->m≠[]->r [ae m] w:=λm hm a=>k _ _ λ_=>by
  simp only[BN,gd];exact j _ _ ⟨by rw[<-hm,auG a],rfl⟩
 have f5:∀m:List UInt8,m=Ff.full n->m≠[]->x [ae m] w:=λm hm a=>q _ _ λ_=>by
  simp only[BP,gd];exact fin m hm a
 have f4:∀m:List UInt8,m=Ff.full n->m≠[]->u [ae m] w:=λm hm a=>p _ _ λ_=>by
  simp only[B2,gd];exact fin m hm a
 have f3:∀m:List UInt8,m=Ff.full n->m≠[]->t [ae m] w:=λm hm a=>o _ _ λ_=>by
  simp only[Cr,gd];exact fin m hm a
 have f2:∀m:List UInt8,m=Ff.full n->m≠[]->s [ae m] w:=λm hm a=>l _ _ λ_=>by
  simp only[Cc,gd];exact fin m hm a
 clear k l o p q fin;rw[K3];by_cases c:n=[65,72,120]
 ·rw[auG c,i_t];exact f5 _ (by unfold Ff.full;rw[auC (.inl c)]) dc
 rw[auD c,i_f,K3];by_cases b:n=Ff.nHx
 ·rw[auG b,i_t];exact f5 _ (by unfold Ff.full;rw[auC (.inr b),b]) (by rw[b];decide)
 rw[auD b,i_f,K3];by_cases c3:n=[65,56,53]
 ·rw[auG c3,i_t];exact f4 _ (by unfold Ff.full;rw[auB (by simp[c,b]),auC (.inl c3)]) dc
 rw[auD c3,i_f,K3];by_cases d:n=Ff.n85
 ·rw[auG d,i_t];exact f4 _ (by unfold Ff.full;rw[auB (by simp[c,b]),auC (.inr d),d]) (by rw[d];decide)
 rw[auD d,i_f,K3];by_cases g:n=[82,76]
 ·rw[auG g,i_t];exact f3 _ (by unfold Ff.full;rw[auB (by simp[c,b]),auB (by simp[c3,d]),auC (.inl g)]) dc
 rw[auD g,i_f,K3];by_cases f:n=Ff.nRL
 ·rw[auG f,i_t];exact f3 _ (by unfold Ff.full;rw[auB (by simp[c,b]),auB (by simp[c3,d]),auC (.inr f),f]) (by rw[f];decide)
 rw[auD f,i_f,K3];by_cases i:n=[70,108]
 ·rw[auG i,i_t];exact f2 _ (by unfold Ff.full;rw[auB (by simp[c,b]),auB (by simp[c3,d]),auB (by simp[g,f]),auC (.inl i)]) dc
 rw[auD i,i_f,K3];by_cases h:n=Ff.nFl
 ·rw[auG h,i_t];exact f2 _ (by unfold Ff.full;rw[auB (by simp[c,b]),auB (by simp[c3,d]),auB (by simp[g,f]),auC (.inr h),h]) (by rw[h];decide)
 rw[auD h,i_f];have e:Ff.full n=[]:=by unfold Ff.full;rw[auB (by simp[c,b]),auB (by simp[c3,d]),auB (by simp[g,f]),auB (by simp[i,h])]
 exact j _ _ ⟨by rw[e];rfl,rfl⟩
theorem apD {b c:Int}:DoX ah (aV 53 #[(0,ad a),(1,ad b),(2,ad c)]) w PK K=K (pmV ⟨a,b,c⟩) w:=aD krx
theorem aiC (a:bT S w0 w L)(k:∀b w',bT S w0 w' (pmE b ⟨0,0,0⟩::L)->K (af b 0) w'):DoX ah (fK 53) w PK K:=
 bK (λb=>af b 0) (pmC ⟨0,0,0⟩) 53 (λ_=>by kernel_rfl) a k
theorem Tk (i:Nat){x:Pm}(y:Pm)(a:bT S w0 w L)(hi:L[i]?=ay (pmE b x))(k:∀w',bT S w0 w' (L.set i (pmE b y))->K undef w'):DoX ah (aN 53 (af b 0) (pmV y)) w PK K:=
 jH i a hi szPm Kz rfl k
theorem Hg (w:ao):Ret ah 125 #[] w (λv w'=>v=pmV Ff.xF∧Below w.heap.size w w'):=by
 refine aX λK c=>G8 ?_;unfold DI nz;refine aiC (Own.start w) λb d a=>?_;rw[apD];refine Tk 0 Ff.xF a rfl λw2 a=>?_;exact eN (bJ (a.agg 0 rfl LK)) (c _ _ ⟨rfl,a.done⟩)
theorem aoY:nQ ah 120=true:=krx
def upF (e:Int):PanicEntry:={ v:=.iface 120 (.agg #[ad e]),recovered:=au }
theorem aiP (e:Int)(w:ao):Ret ah 92 #[.bool aw,ad e] w (λv w'=>v=.tuple #[]∧w=w'):=by
 refine aX λK a=>zO ?_;unfold yM nz;simp only[rs,awA,i_f];exact a _ _ ⟨rfl,rfl⟩
theorem afZ (e:Int)(w:ao):Pan ah 92 #[.bool au,ad e] w (λc w'=>c=[upF e]∧w=w'):=by
 refine XC λK a=>zO ?_;unfold yM nz;simp only[rs,avZ,i_t];have b:∀{PK:PKT} {K:VWP},DoX ah (aV 120 #[(0,ad e)]) w PK K=K (.agg #[ad e]) w:=aD krx;rw[b,Nh aoY,K8];exact a _ _ ⟨rfl,rfl⟩
section
variable {w:ao}{PK:PKT}{K:VWP}{S:Nat->Prop}{w0:ao}{L:List Ent}
theorem qX {e:Int}(a:q=aw->K (.tuple #[]) w)(b:q=au->PK [upF e] w):cR ah 92 #[.bool q,ad e] w PK K:=by
 cases q with
|true=>exact BJ (aiP e w) (a rfl)
|false=>exact ahD (afZ e w) λc w' ⟨d,hw⟩=>by subst d;subst hw;exact b rfl
theorem Y9 (a:bT S w0 w (.mem M::L))(hw:o.wt<=100000000000)(j:OV M.A M.w v o)
  (c:(Ff.num o key).2=0->∀N W,M.le N->bT S w0 W (.mem N::L)->K (ad (Ff.num o key).1) W)
  (i:(Ff.num o key).2≠0->∀N W,M.le N->bT S w0 W (.mem N::L)->PK [upF 10] W):cR ah 168 #[v,ae key] w PK K:=by
 obtain⟨vk,vc,cs,rfl,k⟩:=j.open;generalize b:Ff.num o key=X at c i;unfold Ff.num at b;refine⟨FZ ?_⟩;unfold Be nz;refine eQ o k.keys.one k.kids.one a λb2 m a=>?_;rw[jL a 0 rfl];refine bH a 1 rfl (CE o _ key M m hw (a.hasM 1 rfl) j) ?_;rintro _ N w2 hle ⟨t,rfl,d⟩ a;obtain⟨n,p,rfl,d⟩:=J9 d;simp only[getV,ex];refine dJ a λq r a=>?_;refine aT 0 d.oneK d.oneC a rfl λg a=>?_;have drop:∀{W:ao} {e f:Ent},bT S w0 W (e::f::.mem N::L)->bT S w0 W (.mem N::L):=λa=>a.tail.tail;have a:bT S w0 g (obE q ((Vl.get o key).getD Vl.ob0) n p::obE b2 o vk vc::.mem N::L):=a;cases l:Vl.get o key with
|none=>
  rw[l] at b a;simp only[ayR,rs,avZ,i_t];rw[<-b] at c;exact c rfl N g hle (drop a)
|some x=>
  rw[l] at b a;dsimp only at b;rw[ayD] at a;simp only[azD,rs,awA,i_f];rw[eG,vE a 0 rfl];simp only[rs];refine qX (λh=>?_) (λh=>?_)
  ·have h:=auW h;rw[auC h] at b;rw[CT,Ll a 0 rfl];rw[<-b] at c;exact c rfl N g hle (drop a)
  ·have h:=avT h;rw[auB h] at b;rw[<-b] at i;exact i dc N g hle (drop a)
theorem apI (a:bT S w0 w (.mem M::L))(hw:o.wt<=100000000000)(i:OV M.A M.w v o)
  (e:(Ff.L6 o).2=0->∀N W,M.le N->bT S w0 W (.mem N::L)->K (pmV (Ff.L6 o).1) W)
  (n:(Ff.L6 o).2=10->∀N W,M.le N->bT S w0 W (.mem N::L)->PK [upF 10] W):cR ah 132 #[v] w PK K:=by
 obtain⟨vk,vc,cs,rfl,s⟩:=i.open;generalize b:Ff.L6 o=X at e n;unfold Ff.L6 at b;refine⟨KY ?_⟩;unfold Hx iN dx ldx fax stx alx ecx cx;refine eQ o s.keys.one s.kids.one a λc E a=>?_;refine aiC a λb2 w2 a=>?_;rw[eG,vE a 1 rfl];simp only[rs];by_cases l:o.k=0
 ·rw[auC l] at b;simp only[l,auE,i_t];refine aK a (Hg w2) ?_;rintro _ w3 rfl a;refine Tk 0 Ff.xF a rfl λp a=>?_;rw[<-b] at e;exact eN (bJ (a.agg 0 rfl LK)) (e rfl M p M.le_refl a.tail.tail)
 rw[auB l] at b;simp only[l,auF,i_f];rw[eG,vE a 1 rfl];simp only[rs];have bad:∀{N W},¬(o.k=7∧(Ff.num o Ff.AE).2=0∧(Ff.num o Ff.Al).2=0∧(Ff.num o Ff.Ap).2=0)->M.le N->bT S w0 W (.mem N::L)->PK [upF 10] W:=by
  intro N W h hle a;rw[auB h] at b;rw[<-b] at n;exact n rfl N W hle a
 refine qX (λf=>?_) (λf=>bad (λk=>(avT f) k.1) M.le_refl a.tail.tail);have f:=auW f;have a:=a.drew;refine⟨λW=>(obE c o vk vc).is W,a.at_ 1 rfl,?_⟩;have q:∀W,(obE c o vk vc).is W->(aH 25 (af c 0)).run ah W=.ok (.value (obV o vk vc)) W:=λW h=>aY (AtV.agg fR (cs:=obC o vk vc) rfl λj u y=>by rw[auP];exact aI (T:=25) h y);refine fS _ q (fS _ q (fS _ q ?_));have fr:∀{W:ao} {N:Mem},bT S w0 W (pmE b2 ⟨0,0,0⟩::obE c o vk vc::.mem N::L)->bT S w0 W (.mem N::pmE b2 ⟨0,0,0⟩::obE c o vk vc::L):=λ{W N} a=>by
  have a:bT S w0 W ([pmE b2 ⟨0,0,0⟩,obE c o vk vc]++([.mem N]++L)):=a;exact a.front
 have m:∀{W:ao} {N:Mem} {x:Pm},bT S w0 W (.mem N::pmE b2 x::obE c o vk vc::L)->bT S w0 W (.mem N::L):=λ{W N x} a=>a.sub (.cons_cons _ (.cons _ (.cons _ (azV _))));refine Y9 (fr a) hw i (λe1 N1 z d a=>?_) (λe1 N1 z d a=>λ_ _ _ _=>bad (λk=>e1 k.2.1) d (m a));refine⟨a.at_ 2 rfl,?_⟩;refine Y9 a hw (i.le d) (λe2 B C g a=>?_) (λe2 B C g a=>λ_ _ _ _=>bad (λk=>e2 k.2.2.1) (d.trans g) (m a));refine⟨a.at_ 2 rfl,?_⟩;refine Y9 a hw ((i.le d).le g) (λe3 t D r a=>?_) (λe3 t D r a=>λ_ _ _ _=>bad (λk=>e3 k.2.2.2) ((d.trans g).trans r) (m a));refine⟨a.at_ 2 rfl,?_⟩;rw[auC ⟨f,e1,e2,e3⟩] at b;refine aP (pmV ⟨(Ff.num o Ff.AE).1,(Ff.num o Ff.Al).1,(Ff.num o Ff.Ap).1⟩) (λ_=>by kernel_rfl) ?_;refine Tk 1 _ a rfl λp a=>?_;rw[<-b] at e;exact eN (bJ (a.agg 1 rfl LK)) (e rfl t p ((d.trans g).trans r) (m a))
end
theorem UR (o:Ob)(v:aq)(M:Mem)(w:ao)(hw:o.wt<=100000000000)(f:M.has w)(g:OV M.A M.w v o):jR ah 133 #[v] M w (λr _=>r=.bool (Ff.eight o)):=by
 obtain⟨vk,vc,cs,rfl,h⟩:=g.open;refine bB f λK c=>GR ?_;generalize b:Ff.eight o=X at c;unfold Ff.eight at b;unfold Dd nz;refine eQ o h.keys.one h.kids.one (bT.memS f) λb2 j a=>?_;rw[jL a 0 rfl];refine bH a 1 rfl (CE o _ Ff.aaO M j hw (a.hasM 1 rfl) g) ?_;rintro _ N w2 hle ⟨t,rfl,d⟩ a;obtain⟨l,m,rfl,d⟩:=J9 d;simp only[getV,ex];refine dJ a λn q a=>?_;refine aT 0 d.oneK d.oneC a rfl λp a=>?_;have a:bT M.A w p [obE n ((Vl.get o Ff.aaO).getD Vl.ob0) l m,obE b2 o vk vc,.mem N]:=a;cases i:Vl.get o Ff.aaO with
|none=>
  rw[i] at b a;simp only[ayR,rs,avZ,oG,i_t];exact c _ _ N _ 2 a rfl hle (by rw[<-b])
|some x=>
  rw[i] at b a;dsimp only at b;rw[ayD] at a;simp only[azD,rs,awA];rw[eG,vE a 0 rfl];simp only[rs];by_cases e:x.k=2
  ·simp only[e,auE,rs];rw[CT,Ll a 0 rfl];simp only[rs];exact c _ _ N _ 2 a rfl hle (by rw[<-b,e];rfl)
  ·simp only[e,auF,rs,oG];exact c _ _ N _ 2 a rfl hle (by rw[<-b,auD e];rfl)
end
section
open Eng
def rW(t0 w)(K:KT):=nz f51 1 [] [] [] (zg [0] [t0]) w K
theorem AU:rW t0 w k0->Calls ah 51 #[t0] w k0:=cw func51
def pW(w)(K:KT):=nz f52 1 [] [] [] (zg [] []) w K
theorem yJ:pW w k0->Calls ah 52 #[] w k0:=cw func52
def fU(t2 w)(K:KT):=nz f53 7 [] [] [] (zg [2] [t2]) w K
def iA(S1:ao->Prop)(a b c d e w)(K:KT):=
 cR ah 59 #[e] w (az 7 (pk K)) λf w=>S1 w∧(DoX ah (aM 23 3 #[(0,c),(1,d),(2,f)]) w (az 7 (pk K)) λg w=>S1 w∧(HDo ah (λ_=>True) (aV 25 #[(0,(iN 7)),(4,b),(5,g)]) λh=>DoX ah (aN 25 a h) w (az 7 (pk K)) λ_ w=>(fU a w K)))
def iE(S1:ao->Prop)(a b c d e w)(K:KT):=
 cR ah 59 #[d] w (az 7 (pk K)) λf w=>S1 w∧(iA S1 a b c f e w K)
def rD(h w)(K:KT):=
 dx (GP 53 h) w K λc w=>alx 25 w K λa w=>Ay w (λS1 w=>HDo ah (λ_=>True) (mFA 53 c 1) λi=>HDo ah S1 (aH 3 i) λf=>HDo ah (λ_=>True) (mFA 53 c 2) λj=>HDo ah S1 (aH 3 j) λd=>HDo ah (λ_=>True) (mFA 53 c 0) λk=>HDo ah S1 (aH 3 k) λb=>(DoX ah (aM 22 3 #[(0,(.string ⟨#[67,111,108,111,114,115]⟩)),(1,(.string ⟨#[67,111,108,117,109,110,115]⟩)),(2,(.string ⟨#[80,114,101,100,105,99,116,111,114]⟩))]) w (az 7 (pk K)) λl w=>S1 w∧(cR ah 59 #[f] w (az 7 (pk K)) λm w=>S1 w∧(iE S1 a l m d b w K)))∧(cR ah 59 #[f] w (az 7 (pk K)) λp w=>S1 w∧((DoX ah (aM 22 3 #[(0,(.string ⟨#[67,111,108,111,114,115]⟩)),(1,(.string ⟨#[67,111,108,117,109,110,115]⟩)),(2,(.string ⟨#[80,114,101,100,105,99,116,111,114]⟩))]) w (az 7 (pk K)) λs w=>S1 w∧(iE S1 a s p d b w K))∧(cR ah 59 #[d] w (az 7 (pk K)) λe w=>S1 w∧((DoX ah (aM 22 3 #[(0,(.string ⟨#[67,111,108,111,114,115]⟩)),(1,(.string ⟨#[67,111,108,117,109,110,115]⟩)),(2,(.string ⟨#[80,114,101,100,105,99,116,111,114]⟩))]) w (az 7 (pk K)) λt w=>S1 w∧(iA S1 a t p e b w K))∧(cR ah 59 #[b] w (az 7 (pk K)) λg w=>S1 w∧((DoX ah (aM 22 3 #[(0,(.string ⟨#[67,111,108,111,114,115]⟩)),(1,(.string ⟨#[67,111,108,117,109,110,115]⟩)),(2,(.string ⟨#[80,114,101,100,105,99,116,111,114]⟩))]) w (az 7 (pk K)) λu w=>S1 w∧(DoX ah (aM 23 3 #[(0,p),(1,e),(2,g)]) w (az 7 (pk K)) λn w=>S1 w∧(HDo ah (λ_=>True) (aV 25 #[(0,(iN 7)),(4,u),(5,n)]) λo=>DoX ah (aN 25 a o) w (az 7 (pk K)) λ_ w=>(fU a w K))))∧(DoX ah (aM 23 3 #[(0,p),(1,e),(2,g)]) w (az 7 (pk K)) λq w=>S1 w∧(DoX ah (aM 22 3 #[(0,(.string ⟨#[67,111,108,111,114,115]⟩)),(1,(.string ⟨#[67,111,108,117,109,110,115]⟩)),(2,(.string ⟨#[80,114,101,100,105,99,116,111,114]⟩))]) w (az 7 (pk K)) λv w=>S1 w∧(HDo ah (λ_=>True) (aV 25 #[(0,(iN 7)),(4,v),(5,q)]) λr=>DoX ah (aN 25 a r) w (az 7 (pk K)) λ_ w=>(fU a w K)))))))))))
theorem AB:rD t0 w k0->Calls ah 53 #[t0] w k0:=cw func53
def oZ(t3 t6 w)(K:KT):=nz f19 511 [] [] [] (zg [3,6] [t3,t6]) w K
def oH(t3 t6 t9 t12 w)(K:KT):=nz f19 255 [] [(50,[],λs v j w f=>oZ (s 3) (s 6) w K)] [] (zg [3,6,9,12] [t3,t6,t9,t12]) w K
def pC(t1 t3 t6 t9 t11 t12 w)(K:KT):=nz f19 127 [] [(40,[],λs v j w f=>oH (s 3) (s 6) (s 9) (s 12) w K)] [] (zg [1,3,6,9,11,12] [t1,t3,t6,t9,t11,t12]) w K
def oE(t7 t8 t9 t10 w)(N1:JT)(K:KT):=nz f19 471 [N1] [nh 9 [7,8,9,10]] [] (zg [7,8,9,10] [t7,t8,t9,t10]) w K
def jD(t1 t2 t3 t6 t7 t8 t9 t10 w)(N1:JT)(K:KT):=nz f19 87 [N1] [nh 9 [7,8,9,10],(10,[7,8,9],λs v j w f=>oE (vg v 0) (vg v 1) (vg v 2) (s 10) w (f 0) K),(30,[],λs v j w f=>pC (s 1) (s 3) (s 6) (s 9) (s 11) (s 12) w K)] [(7,12)] (zg [1,2,3,6,7,8,9,10] [t1,t2,t3,t6,t7,t8,t9,t10]) w K
def rU(t0 t1 t2 w)(K:KT):=nz f19 1 [] [(9,[7,8,9,10],λs v j w f=>jD (s 1) (s 2) (s 3) (s 6) (vg v 0) (vg v 1) (vg v 2) (vg v 3) w (f 0) K)] [] (zg [0,1,2] [t0,t1,t2]) w K
theorem An:rU t0 t1 t2 w k0->Calls ah 19 #[t0,t1,t2] w k0:=cz [(5,[7,8,9]),(15,[]),(20,[]),(25,[])] [(4,[7,8,9,10])] func19
end
section
open Eng Go.RowKit
theorem RB (n:List UInt8)(w:ao):Ret ah 51 #[ae n] w (λv w'=>v=ae (Ff.full n)∧w=w'):=by
 refine aX λK i=>AU ?_;unfold rW nz;generalize a:Ff.full n=X at i;unfold Ff.full at a;have fin:∀m:List UInt8,m=X->K (.returned (ae m)) w:=λm hm=>i _ _ ⟨by rw[hm],rfl⟩;simp only[rs];by_cases b:n=Ff.nHx
 ·rw[auC (.inr b)] at a;simp only[auG b,rs,i_t,oG];exact fin _ a
 simp only[auD b,rs];by_cases c:n=[65,72,120]
 ·rw[auC (.inl c)] at a;simp only[auG c,rs,i_t];exact fin _ a
 rw[auB (by simp[b,c])] at a;simp only[auD c,rs,i_f];by_cases c3:n=Ff.n85
 ·rw[auC (.inr c3)] at a;simp only[auG c3,rs,i_t,oG];exact fin _ a
 simp only[auD c3,rs];by_cases d:n=[65,56,53]
 ·rw[auC (.inl d)] at a;simp only[auG d,rs,i_t];exact fin _ a
 rw[auB (by simp[c3,d])] at a;simp only[auD d,rs,i_f];by_cases e:n=Ff.nRL
 ·rw[auC (.inr e)] at a;simp only[auG e,rs,i_t,oG];exact fin _ a
 simp only[auD e,rs];by_cases f:n=[82,76]
 ·rw[auC (.inl f)] at a;simp only[auG f,rs,i_t];exact fin _ a
 rw[auB (by simp[e,f])] at a;simp only[auD f,rs,i_f];by_cases g:n=Ff.nFl
 ·rw[auC (.inr g)] at a;simp only[auG g,rs,i_t,oG];exact fin _ a
 simp only[auD g,rs];by_cases h:n=[70,108]
 ·rw[auC (.inl h)] at a;simp only[auG h,rs,i_t];exact fin _ a
 rw[auB (by simp[g,h])] at a;simp only[auD h,rs,i_f];exact fin [] a
theorem PW (w:ao):Ret ah 52 #[] w (λv w'=>v=pmV Ff.xF∧Below w.heap.size w w'):=by
 refine aX λK c=>yJ ?_;unfold pW nz;refine aiC (Own.start w) λb d a=>?_;rw[apD];refine Tk 0 Ff.xF a rfl λw2 a=>?_;exact eN (bJ (a.agg 0 rfl LK)) (c _ _ ⟨rfl,a.done⟩)
theorem Ri (h:SlA M.A M.w vc 6 os.length cs)(c:OVs M.A M.w cs os)(hi:i < os.length) :
  ∃b off vk d,(∀W,(mIA 23 vc (ad (i:Int))).run ah W=.ok (.value (af b off)) W)∧OV M.A M.w (obV os[i] vk d) os[i] ∧
   ∀W,M.has W->∀j u,(obC os[i] vk d)[j]?=ay u->W.cell? ⟨b,off+j,ax⟩=ay u:=by
 obtain⟨b,off,cap,rfl,_⟩:=bR h.1 om;obtain⟨a,v,e,f⟩:=OVs.get _ _ i hi c;obtain⟨vk,d,o,he,p⟩:=e.open;have q:a=obC os[i] vk d:=by
  unfold obV at he
  injection he with he
  exact congrArg Array.toList he
 subst q;refine⟨b,off+i*6,vk,d,λW=>?_,e,λW r j u s=>?_⟩
 ·have:=cZ (P:=ah) (T:=23) (b:=b) (off:=off) (cap:=cap) (n:=os.length) (k:=.i64) (i:=(i:Int)) (w:=W) auU Mk om om
  rwa [auJ] at this
 ·obtain⟨x,l,m,g,t⟩:=bR (h.now r) om;cases g;rw[awU];exact t _ _ (f j u s)
theorem NO {l:List (List UInt8)}(a:SlA M.A M.w v 1 l.length (bI l))(hi:i < l.length) :
  ∃p,(∀W,(mIA 22 v (ad (i:Int))).run ah W=.ok (.value (.pointer (ay p))) W)∧∀W,M.has W->(aH 9 (.pointer (ay p))).run ah W=.ok (.value (.string ⟨l[i].toArray⟩)) W:=by
 obtain⟨b,off,cap,rfl,_⟩:=bR a.1 om;refine⟨⟨b,off+i,ax⟩,λW=>?_,λW e=>?_⟩
 ·have:=cZ (P:=ah) (T:=22) (b:=b) (off:=off) (cap:=cap) (n:=l.length) (k:=.i64) (i:=(i:Int)) (w:=W) auR (show _=ay 1 by kernel_rfl) om om;rw[auJ,avC] at this;exact this
 ·obtain⟨g,c,d,he,f⟩:=bR (a.now e) om;cases he;exact aB Gh (f i _ (fF hi))
theorem ajM (x:Pm):(pmC x).length=3:=rfl
theorem pmAt {l:List Pm}(a:SlA M.A M.w v 3 l.length (l.flatMap pmC))(hi:i < l.length) :
  ∃p,(∀W,(mIA 54 v (ad (i:Int))).run ah W=.ok (.value (.pointer (ay p))) W)∧∀W,M.has W->(aH 53 (.pointer (ay p))).run ah W=.ok (.value (pmV l[i])) W:=by
 obtain⟨b,off,cap,rfl,_⟩:=bR a.1 om;refine⟨⟨b,off+i*3,ax⟩,λW=>?_,λW e=>?_⟩
 ·have:=cZ (P:=ah) (T:=54) (b:=b) (off:=off) (cap:=cap) (n:=l.length) (k:=.i64) (i:=(i:Int)) (w:=W) azW szPm om om;rw[auJ] at this;exact this
 ·obtain⟨h,c,d,he,f⟩:=bR (a.now e) om;cases he;refine aY (AtV.agg LK (cs:=pmC l[i]) rfl λj u g=>?_);rw[awU];exact f _ _ (Eng.nO ajM hi g)
abbrev Mn (v:aq)(l:List Pm):Ent:=.recs 53 pmC 3 v l
abbrev stsE (v:aq)(l:List (List UInt8)):Ent:=.urow 9 1 v l.length (bI l)
theorem elPm:elB ah 53 3 24=true:=krx
section
variable {w:ao}{PK PK2:PKT}{K:VWP}{S:Nat->Prop}{w0:ao}{L:List Ent}
theorem adW (x:Pm){l:List Pm}{c:Array Bool}(a:bT S w0 w (Mn v l::L))(d:l.length<=1000000000)(k:∀v' W,bT S w0 W (Mn v' (l++[x])::L)->K v' W) :
  DoX ah (aM 54 1 #[(0,pmV x)]) w PK λt w=>DoX ah (mB .append #[54,54] 54 c #[v,t]) w PK2 K:=by
 refine bK (λb=>bO b 0 1 1) (pmC x) 53 (λ_=>by kernel_rfl) a λb f a=>?_;refine bZ 1 azW elPm dc a rfl (sQ (a.at_ 0 rfl) dc rfl) Kz om om λv' w2 a=>k v' w2 ?_;have e:Mn v' (l++[x])=.urow 53 3 v' (l.length+1) (l.flatMap pmC++pmC x):=by
  unfold Mn Ent.recs;rw[auH,axQ,ayP];rfl
 rw[e];exact a.tail
theorem XG (x:List UInt8){l:List (List UInt8)}{c:Array Bool}(a:bT S w0 w (stsE v l::L))(d:l.length<=1000000000)(k:∀v' W,bT S w0 W (stsE v' (l++[x])::L)->K v' W) :
  DoX ah (aM 22 1 #[(0,ae x)]) w PK λt w=>DoX ah (mB .append #[22,22] 22 c #[v,t]) w PK2 K:=by
 refine bK (λb=>bO b 0 1 1) [ae x] 9 (λ_=>by kernel_rfl) a λb f a=>?_;refine bZ 1 auR (show elB ah 9 1 16=aw by kernel_rfl) dc a rfl (sQ (a.at_ 0 rfl) dc rfl) (λu hu=>by rw[avD.1 hu];rfl) om om λv' w2 a=>k v' w2 ?_;have e:stsE v' (l++[x])=.urow 9 1 v' (l.length+1) (bI l++[ae x]):=by
  unfold stsE bI;rw[auH,avM];rfl
 rw[e];exact a.tail
theorem YK (f:bT S w0 w (obE b o vk vc::L))(i:Nat)(hi:L[i]?=ay (.mem M))(d:OV M.A M.w (obV o vk vc) o) :
  ∃N:Mem,M.le N∧SlA N.A N.w (bO b 0 1 1) 6 1 (obC o vk vc)∧OVs N.A N.w (obC o vk vc) [o]∧bT S w0 w (L.set i (.mem N)):=by
 have h:=f.at_ 0 rfl;obtain⟨N,g,j,k,m⟩:=f.freeze i hi;refine⟨N,g,⟨?_,λp l c e _=>?_,λa l c e=>?_⟩,?_,m⟩
 ·rw[j];exact sQ h dc rfl
 ·injection e with e1 _ _
  injection e1 with e1
  rw[<-e1];exact k b rfl
 ·injection e with _ e2 e3
  omega
 ·have:=OVs.snoc (a:=obC o vk vc) rfl (d.le g) [] [] OVs.nil;exact this
end
namespace Cs
def has (o:Ob)(ks:List (List UInt8)):List (List UInt8×Ob):=ks.filterMap λk=>(Vl.get o k).map λv=>(k,v)
def ofL (l:List (List UInt8×Ob)):Ob:=.mk 7 0 0 [] (l.map (·.1)) (l.map (·.2))
def iC (o:Ob):Ob:=if (o.k≠7∧o.k≠9)∨Vl.check 1 o≠0 then ofL [] else ofL (has o bj)
theorem Sv (o:Ob)(ks:List (List UInt8))(k:List UInt8):has o (ks++[k])=has o ks++(match Vl.get o k with|some v=>[(k,v)]|none=>[]):=by
 unfold has;rw[List.filterMap_append]
 congr 1
 cases h:Vl.get o k<;>simp[h]
theorem VZ (o:Ob)(ks:List (List UInt8)):(has o ks).length<=ks.length:=List.length_filterMap_le _ _
end Cs
section
variable {w:ao}{PK:PKT}{K:VWP}{S:Nat->Prop}{w0:ao}{L T:List Ent}
abbrev DcR (a cv:aq)(l:List (List UInt8×Ob))(ds:List aq)(b:Nat)(T:List Ent):List Ent:=
 .urow 9 1 a l.length (bI (l.map (·.1)))::.urow 25 6 cv l.length ds::obE b (ob1 7 0 0 []) a cv::T
end
theorem getD_some {k:List UInt8}{x:Ob}(h:Vl.get o k=ay x):(Vl.get o k).getD Vl.ob0=x:=by rw[h];rfl
theorem P6 (o:Ob)(v:aq)(M:Mem)(w:ao)(hw:o.wt<=100000000000)(hM:M.has w)(V:OV M.A M.w v o):jR ah 79 #[v] M w (λr N=>OV N.A N.w r (Cs.iC o)):=by
 obtain⟨vk,vc,cs,rfl,ha⟩:=V.open;refine bB hM λK hK=>Hm ?_;unfold De nz;refine eQ o ha.keys.one ha.kids.one (bT.memS hM) λb w1 a=>?_;refine dJ a λb2 w2 a=>?_;rw[afH];refine dJ a λb3 w3 a=>?_;refine aT (o':=ob1 7 0 0 []) (vk':=cI) (vc':=cI) 0 rfl rfl a rfl λB a=>?_;have a:bT M.A w B [obE b3 (ob1 7 0 0 []) cI cI,obE b2 ob0 cI cI,obE b o vk vc,.mem M]:=a;rw[eG,vE a 2 rfl];have no:∀{W:ao},bT M.A w W [obE b3 (ob1 7 0 0 []) cI cI,obE b2 ob0 cI cI,obE b o vk vc,.mem M]->Cs.iC o=Cs.ofL []->DoX ah (aH 25 (af b3 0)) W (pk K) (λt22 w=>DoX ah (aN 25 (af b2 0) t22) w (pk K) λ_ w=>Bw ah [.cell (af b2 0) 25] w K):=by
  intro W a he;rw[jL a 0 rfl];refine aT 1 rfl rfl a rfl λB a=>?_;have a:bT M.A w B [obE b3 (ob1 7 0 0 []) cI cI,obE b2 (ob1 7 0 0 []) cI cI,obE b o vk vc,.mem M]:=a;refine eN (bJ (a.agg 1 rfl fR)) (hK _ _ M _ 3 a rfl M.le_refl ?_);rw[he];exact tE.ov (o:=Cs.ofL []) (vk:=cI) (vc:=cI) (cs:=[]) ⟨SlA.nil _ _ _ _,SlA.nil _ _ _ _,.nil⟩
 have main:(o.k=7∨o.k=9)->∀{W:ao},bT M.A w W [obE b3 (ob1 7 0 0 []) cI cI,obE b2 ob0 cI cI,obE b o vk vc,.mem M]->Vl.check 1 o=0->cR ah 121 #[] W (pk K) (λt23 w=>
 DoX ah (mB .len #[22] 3 #[au] #[t23]) w (pk K) λt24 w=>
 Es [(ad 0)] w (λn w N1=>∀_:Sg,kH (af b 0) (af b2 0) (af b3 0) t23 t24 (n.getD 0 undef) w N1 K)):=by
  intro X W a C;have het:Cs.iC o=Cs.ofL (Cs.has o bj):=by
   unfold Cs.iC;rw[auB];rintro (⟨h1,h2⟩|h);·rcases X with h|h;exact h1 h;exact h2 h
   exact h C
  refine bH a 3 rfl (Yb M W (a.hasM 3 rfl)) λkl N1 w5 l1 D a=>?_;rw[aZ auR (D.now (a.hasM 3 rfl))];have a:=bT.nilU a 25 6;have a:=bT.nilU a 9 1;refine loop (λvs W=>∃(i:Nat) (f cv:aq) (ds:List aq) (N:Mem),vs=[ad (i:Int)]∧i<=3∧N1.le N∧OVs N.A N.w ds ((Cs.has o (bj.take i)).map (·.2))∧bT M.A w W (DcR f cv (Cs.has o (bj.take i)) ds b3 [obE b2 ob0 cI cI,obE b o vk vc,.mem N])) (λvs _=>3 - n0 vs) ⟨0,cI,cI,[],N1,rfl,om,N1.le_refl,.nil,a⟩ ?_;clear a;rintro vs P ⟨i,f,cv,ds,N,rfl,hi,Q,m,a⟩ _;simp only[kH,gd,rs,nz];by_cases F:(i:Int) < ((3:Nat):Int)
  ·simp only[auG F,i_t];have G:i < bj.length:=by show i < 3;omega
   refine join λJ hJ=>?_;obtain⟨p,Y,Z⟩:=NO (l:=bj) (D.le Q) G;rw[aD (Y P),aD (Z P (a.hasM 5 rfl)),jL a 4 rfl];refine bH a 5 rfl (CE o _ bj[i] N P hw (a.hasM 5 rfl) ((V.le l1).le Q)) ?_;rintro _ g w7 l3 ⟨xv,rfl,hx⟩ a;obtain⟨q,s,b0,rfl,c⟩:=hx.open;simp only[getV,ex];refine dJ a λS w8 a=>?_;refine aT 0 c.keys.one c.kids.one a rfl λw9 a=>?_;have H:bj.take (i+1)=bj.take i++[bj[i]]:=avL G;have hlen:=Cs.VZ o (bj.take i);rw[auM] at hlen;have next:∀{W:ao} {kv' cv':aq} {ds':List aq},OVs g.A g.w ds' ((Cs.has o (bj.take (i+1))).map (·.2))->bT M.A w W (DcR kv' cv' (Cs.has o (bj.take (i+1))) ds' b3 [obE b2 ob0 cI cI,obE b o vk vc,.mem g])->J [] W:=by
    intro W kv' cv' ds' I a;refine hJ _ _ λ_=>?_;simp only[zV,rs,nz];rw[aA om om];exact bC ⟨i+1,kv',cv',ds',g,rfl,om,Q.trans l3,I,a⟩ (by simp[n0,RowKit.intOf];omega)
   cases hg:Vl.get o bj[i] with
  |none=>
    simp only[ayR,i_f];have e:Cs.has o (bj.take (i+1))=Cs.has o (bj.take i):=by rw[H,Cs.Sv,hg];simp
    exact next (by rw[e];exact m.le l3) (by rw[e];exact a.tail)
  |some x=>
    simp only[azD,i_t];rw[getD_some hg] at hx a c;have e:Cs.has o (bj.take (i+1))=Cs.has o (bj.take i)++[(bj[i],x)]:=by rw[H,Cs.Sv,hg]
    generalize Cs.has o (bj.take i)=d at *;have a:bT M.A w w9 [obE S x q s,.urow 9 1 f d.length (bI (d.map (·.1))),.urow 25 6 cv d.length ds,obE b3 (ob1 7 0 0 []) f cv,obE b2 ob0 cI cI,obE b o vk vc,.mem g]:=a;rw[iZ,dZ a 3 rfl];refine D6 bj[i] a λnb b4 a=>?_;refine U8 2 a rfl (a.sl 0 rfl 1 1 1 rfl) (by simp[Value.oneCell']) om λkv' a1 a=>?_;have a:=a.tail;have a:bT M.A w a1 [obE S x q s,.urow 9 1 kv' (d.length+1) (bI (d.map (·.1))++[.string ⟨bj[i].toArray⟩]),.urow 25 6 cv d.length ds,obE b3 (ob1 7 0 0 []) f cv,obE b2 ob0 cI cI,obE b o vk vc,.mem g]:=a;have t:=bX (a.at_ 1 rfl);rw[iZ];refine aO 3 a rfl krx t (show 0+4 < 6 by omega) λa6 a=>?_;have a:bT M.A w a6 [obE S x q s,.urow 9 1 kv' (d.length+1) (bI (d.map (·.1))++[.string ⟨bj[i].toArray⟩]),.urow 25 6 cv d.length ds,obE b3 (ob1 7 0 0 []) kv' cv,obE b2 ob0 cI cI,obE b o vk vc,.mem g]:=a;rw[iR,cQ a 3 rfl,jL a 0 rfl];refine Bm x c.keys.one c.kids.one a λb5 b7 a=>?_;refine G5 3 a rfl (a.sl 0 rfl 6 1 1 rfl) (iF _ c.keys.one c.kids.one) om λcv' a7 a=>?_;have a:=a.tail;have a:bT M.A w a7 [obE S x q s,.urow 9 1 kv' (d.length+1) (bI (d.map (·.1))++[.string ⟨bj[i].toArray⟩]),.urow 25 6 cv' (d.length+1) (ds++obC x q s),obE b3 (ob1 7 0 0 []) kv' cv,obE b2 ob0 cI cI,obE b o vk vc,.mem g]:=a;have u:=bX (a.at_ 2 rfl);rw[iR];refine aO 3 a rfl krx u (show 0+5 < 6 by omega) λa8 a=>?_;have a:=a.tail;refine next (kv':=kv') (cv':=cv') (ds':=ds++obC x q s) ?_ ?_
    ·rw[e,avM];exact dM (m.le l3) (kI hx)
    ·rw[e];show bT M.A w a8 [.urow 9 1 kv' (d++[(bj[i],x)]).length (bI ((d++[(bj[i],x)]).map (·.1))),.urow 25 6 cv' (d++[(bj[i],x)]).length (ds++obC x q s),obE b3 (ob1 7 0 0 []) kv' cv',obE b2 ob0 cI cI,obE b o vk vc,.mem g];rw[auH,avM,wL];exact a
  simp only[auD F,i_f];have:i=3:=om
  subst this;rw[show bj.take 3=bj from rfl] at m a;have t:=bX (a.at_ 0 rfl);have u:=bX (a.at_ 1 rfl);obtain⟨g,hle,O,a⟩:=bT.bG (L:=[.urow 25 6 cv (Cs.has o bj).length ds,obE b3 (ob1 7 0 0 []) f cv,obE b2 ob0 cI cI,obE b o vk vc,.mem N]) a 4 rfl;obtain⟨y,j,z,a⟩:=bT.bG (L:=[obE b3 (ob1 7 0 0 []) f cv,obE b2 ob0 cI cI,obE b o vk vc,.mem g]) a 3 rfl;have a:bT M.A w P [obE b3 (ob1 7 0 0 []) f cv,obE b2 ob0 cI cI,obE b o vk vc,.mem y]:=a;rw[jL a 0 rfl];refine aT 1 t u a rfl λw7 a=>?_;have a:bT M.A w w7 [obE b3 (ob1 7 0 0 []) f cv,obE b2 (ob1 7 0 0 []) f cv,obE b o vk vc,.mem y]:=a;refine eN (bJ (a.agg 1 rfl fR)) (hK _ _ y _ 3 a rfl (((l1.trans Q).trans hle).trans j) ?_);rw[het];refine tE.ov (o:=Cs.ofL (Cs.has o bj)) (vk:=f) (vc:=cv) (cs:=ds) ⟨?_,?_,(m.le (hle.trans j))⟩
  ·show SlA y.A y.w f 1 ((Cs.has o bj).map (·.1)).length (bI ((Cs.has o bj).map (·.1)));rw[avJ];exact O.le j
  ·show SlA y.A y.w cv 6 ((Cs.has o bj).map (·.2)).length ds;rw[avJ];exact z
 have rest:(o.k=7∨o.k=9)->GDo (.bool au) au (λE=>DoX ah (aH 25 (af b 0)) B (pk K) E) B λt18 w=>
 GDo (.bool au) au (λE=>cR ah 41 #[t18] w (pk K) E) w λt19 w=>
 GDo (.bool au) au (λE=>DoX ah (mEq .neq 35 (.tmp 19) (.const (ad 0)) t19 (ad 0)) w (pk K) E) w λt20 w=>
 DoX ah (iB (.bool au) (.bool aw) t20) w (pk K) λt21 w=>
 IfX t21 (DoX ah (aH 25 (af b3 0)) w (pk K) λt22 w=>
 DoX ah (aN 25 (af b2 0) t22) w (pk K) λ_ w=>
 Bw ah [.cell (af b2 0) 25] w K) (cR ah 121 #[] w (pk K) λt23 w=>
 DoX ah (mB .len #[22] 3 #[au] #[t23]) w (pk K) λt24 w=>
 Es [(ad 0)] w (λn w N1=>∀_:Sg,kH (af b 0) (af b2 0) (af b3 0) t23 t24 (n.getD 0 undef) w N1 K)):=by
  intro X;simp only[rs];rw[jL a 2 rfl];refine aK a (R:=λv=>v=ad (Vl.check 1 o)) (lB o _ B (OV.inw (a.hasM 3 rfl) V) om) ?_;rintro _ w5 rfl a;simp only[eC,rs];by_cases C:Vl.check 1 o=0
  ·simp only[C,show ai ((0:Int)≠0)=au from rfl,i_f];exact main X a C
  ·simp only[auG (show Vl.check 1 o≠0 from C),i_t];exact no a (by unfold Cs.iC;rw[auC (.inr C)])
 simp only[rs];by_cases T:o.k=7
 ·simp only[auD (show ¬o.k≠7 fromλh=>h T),rs,oG];have:=rest (.inl T);simp only[rs] at this;exact this
 simp only[auG (show o.k≠7 from T),rs];rw[eG,vE a 2 rfl];simp only[rs];by_cases U:o.k=9
 ·simp only[auD (show ¬o.k≠9 fromλh=>h U),rs,oG];have:=rest (.inr U);simp only[rs] at this;exact this
 simp only[auG (show o.k≠9 from U),rs,oG,i_t];exact no a (by unfold Cs.iC;rw[auC (.inl ⟨T,U⟩)])
end
end Go.Proofs.YtlgndjkieegnaaaGreatDoor

namespace Go.Proofs.YtlgndjkieegnaaaGreatDoor
variable{K:VWP}{L:List Eng.Ent}{M:Eng.Mem}{P:Program}{PK PK2:PKT}{R:Ending->FrameMode->ao->Prop}{S:Nat->Prop}{W w w0:ao}{a colors:Int}{above key:List UInt8}{aj:List (Nat×List Nat)}{b cap d i id j:Nat}{cb:Array Bool}{cs:List aq}{e:Eng.Ent}{fn:Func}{o:Ob}{os:List Ob}{q:Bool}{t0 v va vc vk:aq}{u:FrameMode}{t0 t1 t2 t3:aq}{k0:Eng.KT}
section
open Go
namespace Tl
def adj (y x:Slt):Prop:=y.num < x.num∧x.num - 1=y.num
instance (y x:Slt):Decidable (adj y x):=by unfold adj;infer_instance
def Ru (gs:List (List Slt))(x:Slt):List (List Slt):=match gs.getLast? with
|none=>[[x]]
|some g=>match g.getLast? with
 |none=>gs++[[x]]
 |some y=>if adj y x then gs.dropLast++[g++[x]] else gs++[[x]]
theorem GD:∀(l cur:List Slt),cur≠[]->fV cur l≠[]
|[],cur,h=>by rw[fV,auB h];simp
|x::l,cur,h=>by
  rw[fV];cases a:cur.getLast? with
 |none=>exact GD l [x] sm
 |some y=>
   simp only;split
   ·exact GD l _ sm
   ·simp
theorem U5 {g:List Slt}{gs:List (List Slt)}{x:Slt}(h:gs≠[]):Ru (g::gs) x=g::Ru gs x:=by
 unfold Ru;have e:(g::gs).getLast?=gs.getLast?:=by
  cases gs with
 |nil=>exact absurd rfl h
 |cons a b=>rw[List.getLast?_cons_cons]
 rw[e];cases c:gs.getLast? with
|none=>exact absurd (aAs.1 c) h
|some u=>
  simp only;cases hu:u.getLast? with
 |none=>rfl
 |some y=>
   simp only;split
   ·rw[List.dropLast_cons_of_ne_nil h];rfl
   ·rfl
theorem oQ (x:Slt):∀(l cur:List Slt),fV cur (l++[x])=Ru (fV cur l) x
|[],cur=>by
  rw[avU,fV,fV];cases a:cur.getLast? with
 |none=>
   have b:cur=[]:=aAs.1 a;subst b;rfl
 |some y=>
   have b:cur≠[]:=λe=>by rw[e] at a;cases a
   rw[auB b];unfold Ru;simp only[List.getLast?_singleton,a];unfold adj;split
   ·rename_i h;rw[fV,auB sm];simp[h]
   ·rename_i h;rw[fV,auB sm];simp[h]
|z::l,cur=>by
  rw[axW,fV,fV];cases a:cur.getLast? with
 |none=>exact oQ x l [z]
 |some y=>
   simp only;split
   ·exact oQ x l _
   ·rw[oQ x l [z],U5 (GD l [z] sm)]
theorem Jy {l:List Slt}{y:Slt}(h:l.getLast?=ay y):∃gs g,Di l=gs++[g]∧g.getLast?=ay y∧g≠[]∧g.length<=l.length:=by
 obtain⟨a,f⟩:=xD l;have b:Di l≠[]:=λe=>by
  rw[e] at a;rw[<-a] at h;cases h
 obtain⟨gs,g,e⟩:∃gs g,Di l=gs++[g]:=⟨_,_,(aA3 b).symm⟩;have c:g≠[]:=(f g (by rw[e];simp)).1;refine⟨gs,g,e,?_,c,?_⟩
 ·rw[e] at a;rw[<-a] at h;simp only[List.flatten_append,aAN,List.flatten_nil,avA] at h;rw[aA4] at h;cases d:g.getLast? with
 |none=>exact absurd (aAs.1 d) c
 |some z=>rw[d] at h;exact h
 ·have:=congrArg List.length a;rw[e] at this;simp at this;omega
theorem Uc {l:List Slt}{x y:Slt}(a:l.getLast?=ay y)(h:adj y x):∃(q:List (Int×Int)) (f:Int) (n:Nat),runs l=q++[(f,(n:Int))]∧runs (l++[x])=q++[(f,(n:Int)+1)]∧n<=l.length:=by
 obtain⟨gs,g,e,b,c,d⟩:=Jy a;refine⟨gs.map run,first g,g.length,?_,?_,d⟩
 ·unfold runs;rw[e,avM];rfl
 ·unfold runs Di;rw[oQ];have e':fV [] l=gs++[g]:=e;rw[e'];unfold Ru;rw[List.getLast?_concat];simp only[b,auC h,List.dropLast_concat,avM,avS,axT];have:first (g++[x])=first g:=by
   cases g with
  |nil=>exact absurd rfl c
  |cons _ _=>rfl
  unfold run;rw[this,auH];simp
theorem PF {l:List Slt}{x:Slt}(h:∀y,l.getLast?=ay y->¬adj y x):runs (l++[x])=runs l++[(x.num,1)]:=by
 unfold runs Di;rw[oQ];cases a:l.getLast? with
|none=>
  have:l=[]:=aAs.1 a;subst this;rfl
|some y=>
  obtain⟨gs,g,e,b,c,d⟩:=Jy a;have e':fV [] l=gs++[g]:=e;rw[e'];unfold Ru;rw[List.getLast?_concat];simp only[b,auB (h y a),avM,avS,axT];rfl
theorem qW (l:List Slt):(runs l).length<=l.length:=by
 obtain⟨c,d⟩:=xD l;have:∀gs:List (List Slt),(∀g∈gs,Grp g)->gs.length<=gs.flatten.length:=by
  intro gs
  induction gs with
 |nil=>intro _;simp
 |cons g gs e=>
   intro h;have a:=e λu hu=>h u (auZ _ hu);have b:0 < g.length:=azL.2 (h g avQ).1;simp only[auX,aAN,auH];omega
 have:=this _ d;rw[c] at this;unfold runs;simpa using this
end Tl
end
end Go.Proofs.YtlgndjkieegnaaaGreatDoor

namespace Go.Proofs.YtlgndjkieegnaaaGreatDoor
variable{K:VWP}{L:List Eng.Ent}{M:Eng.Mem}{P:Program}{PK PK2:PKT}{R:Ending->FrameMode->ao->Prop}{S:Nat->Prop}{W w w0:ao}{a colors:Int}{above key:List UInt8}{aj:List (Nat×List Nat)}{b cap d i id j:Nat}{cb:Array Bool}{cs:List aq}{e:Eng.Ent}{fn:Func}{o:Ob}{os:List Ob}{q:Bool}{t0 v va vc vk:aq}{u:FrameMode}{t0 t1 t2 t3:aq}{k0:Eng.KT}
section
open Eng Go.RowKit
def rnC (p:Int×Int):List Value:=[ad p.1,ad p.2]
def rnV (p:Int×Int):Value:=.agg (rnC p).toArray
abbrev Pt (l:List (Int×Int)):List Value:=l.flatMap rnC
abbrev I7 (v:aq)(l:List (Int×Int)):Ent:=.recs 97 rnC 2 v l
theorem JW (p:Int×Int):(rnC p).length=2:=rfl
theorem Yv (p:Int×Int):∀v∈rnC p,v.oneCell'=true:=by
 intro v a;simp only[rnC,auI,avP,or_false] at a;rcases a with rfl|rfl<;>rfl
theorem akU:FU ah 97=ay 2:=krx
theorem szRn:(Tryz.prog.info? 97).map (·.size)=ay 2:=krx
theorem elRn:elB ah 97 2 16=true:=krx
section
variable {w:ao}{PK:PKT}{K:VWP}{S:Nat->Prop}{w0:ao}{L:List Ent}
theorem YS {off:Nat}:(mIA 97 (af b off) (ad 0)).run ah w=.ok (.value (af b off)) w:=krx
theorem Kn {off:Nat}:(mIA 97 (af b off) (ad 1)).run ah w=.ok (.value (af b (off+1))) w:=krx
theorem aeZ {off:Nat}:DoX ah (mIA 97 (af b off) (ad 0)) w PK K=K (af b off) w:=aD YS
theorem aeB {off:Nat}:DoX ah (mIA 97 (af b off) (ad 1)) w PK K=K (af b (off+1)) w:=aD Kn
theorem m_rn {n:Int}{m:Int}:DoX ah (aV 97 #[(0,ad n),(1,ad m)]) w PK K=K (rnV (n,m)) w:=aD krx
theorem rns_row (i:Nat){l:List (Int×Int)}(a:bT S w0 w L)(hi:L[i]?=ay (I7 v l))(b:j < l.length) :
  ∃g cap,v=bO g 0 l.length cap∧(∀w,(mIA 62 v (ad (j:Int))).run ah w=.ok (.value (af g (j*2))) w) ∧
   (∀w',(I7 v l).is w'->(aH 97 (af g (j*2))).run ah w'=.ok (.value (rnV l[j])) w') ∧
   ∀w',(I7 v l).is w'->∀m u,(rnC l[j])[m]?=ay u->w'.cell? ⟨g,j*2+m,ax⟩=ay u:=
 rec_row JW azG szRn akU i a hi b
theorem Wt (i:Nat){l:List (Int×Int)}{p:Int×Int}(a:bT S w0 w L)(hi:L[i]?=ay (I7 v l))(c:l.length<=1000000000)
  (k:∀v' w',bT S w0 w' (L.set i (I7 v' (l++[p])))->K v' w') :
  DoX ah (aM 62 1 #[(0,rnV p)]) w PK λt w=>DoX ah (mB .append #[62,62] 62 cb #[v,t]) w PK2 K:=by
 refine bK (λb=>bO b 0 1 1) (rnC p) 97 (λ_=>by kernel_rfl) a λnb d a=>?_;refine bZ (i+1) azG elRn dc a (by rw[avR];exact hi) (a.sl 0 rfl 2 1 1 rfl) (Yv p) om om λv' w2 a=>k v' w2 ?_;have e:I7 v' (l++[p])=.urow 97 2 v' (l.length+1) (l.flatMap rnC++rnC p):=by
  rw[I7,Ent.recs,auH,axQ];simp
 rw[e];exact a.tail
theorem WB (i:Nat){g:Nat}{q:List (Int×Int)}{f n m:Int}{N:Nat}(a:bT S w0 w L)(hi:L[i]?=ay (I7 (bO g 0 N cap) (q++[(f,n)])))
  (h:∀w',bT S w0 w' (L.set i (I7 (bO g 0 N cap) (q++[(f,m)])))->K undef w') :
  DoX ah (aN 3 (af g (q.length*2+1)) (ad m)) w PK K:=by
 obtain⟨j,b,e⟩:=nX (a.at_ i hi) sm
 injection e with e1 e2
 subst e2;refine Cw i a hi (u:=ad m) (new:=[ad m]) rfl krx (λv d=>by rcases avD.1 d with rfl;rfl) (by simp;omega) λw' a=>h w' ?_;have c:=Eng.nU JW q;have e:((q++[(f,n)]).flatMap rnC).take (q.length*2+1)++[ad m]++((q++[(f,n)]).flatMap rnC).drop (q.length*2+1+[Value.int .i64 m].length)=(q++[(f,m)]).flatMap rnC:=by
  rw[axQ,axQ,ayP,ayP,aAJ,avE om,ayN,awG (by rw[c];simp only[auX,ayA];omega),c,
   show q.length*2+1 - q.length*2=1 by omega,show q.length*2+1+[Value.int .i64 m].length - q.length*2=2 by simp;omega]
  simp[rnC]
 have e2:I7 (bO g 0 (q++[(f,n)]).length cap) (q++[(f,m)])=.urow 97 2 (bO g 0 (q++[(f,n)]).length cap) (q++[(f,n)]).length ((q++[(f,m)]).flatMap rnC):=by
  rw[I7,Ent.recs,auH,auH];rfl
 rw[e2,<-e];exact a
end
def UT (l:List Slt):Prop:=∀x∈l,-9223372036854775808<=x.num∧x.num<=9223372036854775807
def SltI (l:List Slt):Prop:=∀x∈l,x.a<=9223372036854775807∧x.b<=9223372036854775807
theorem Qq {l:List Slt}(a:j < l.length):(l.take (j+1)).getLast?=ay l[j]:=by
 rw[List.getLast?_eq_getElem?,auM,avO om,ayS,List.getElem?_take_of_lt om,auO a]
theorem rB {l:List Slt}(a:j < l.length):l.take (j+1)=l.take j++[l[j]]:=by
 rw[List.take_add_one,auO a];rfl
def RnsV (l:List Slt)(v:aq)(N:Mem):Prop:=SlA N.A N.w v 2 (Tl.runs l).length (Pt (Tl.runs l))
theorem Y3 (l:List Slt)(v:aq)(M:Mem)(w:ao)(b:l.length<=1000000)(G:UT l)(E:M.has w)(F:SlA M.A M.w v 4 l.length (GU l)) :
  jR ah 80 #[v] M w (RnsV l):=by
 refine bB E λK Q=>Kj ?_;unfold HH nz;rw[aZ axA (F.now E)];refine loop (λvs W=>∃(i:Nat) (u:aq),vs=[u,ad i]∧i<=l.length∧bT M.A w W [I7 u (Tl.runs (l.take i)),.mem M]) (λvs _=>l.length - n1 vs) ⟨0,_,rfl,om,bT.nilU (bT.memS E) 97 2⟩ ?_;rintro vs R ⟨i,u,rfl,hi,a⟩ _;simp only[CY,gd,rs,nz];by_cases p:(i:Int) < (l.length:Int)
 case neg=>
  simp only[auD p,i_f];rw[avE om] at a;obtain⟨N,hle,r,a⟩:=bT.bG (L:=[.mem M]) a 0 rfl;exact Q _ _ N _ 0 a rfl hle r
 have m:i < l.length:=om
 simp only[auG p,i_t];refine join λJ S=>?_;obtain⟨g,off,T⟩:=jQ F m;obtain⟨U,V⟩:=T R (a.hasM 1 rfl);refine aD U |>.mpr (aD (Bt V) |>.mpr ?_);refine Lw a λD w2 a=>?_;refine Hr (y:=l[i]) 0 a rfl λw3 a=>?_;have a:bT M.A w w3 [slE D l[i],I7 u (Tl.runs (l.take i)),.mem M]:=a;have next:∀{s:aq} {W:ao},bT M.A w W [slE D l[i],I7 s (Tl.runs (l.take (i+1))),.mem M]->J [s] W:=by
  intro s W a;refine S _ _ λ_=>?_;simp only[Dg,gd,rs,nz];rw[aA om om];exact bC ⟨i+1,s,rfl,om,a.tail⟩ (by show l.length - Int.toNat ((i:Int)+1) < l.length - Int.toNat (i:Int);omega)
 have t:=rB m;have z:=Tl.qW (l.take i);rw[auM,avO om] at z;have X:=G l[i] (auS m);have d:∀{W:ao},bT M.A w W [slE D l[i],I7 u (Tl.runs (l.take i)),.mem M]->(∀y,(l.take i).getLast?=ay y->¬Tl.adj y l[i])->DoX ah (mFA 60 (af D 0) 0) W (pk K) λt49 w=>
 DoX ah (aH 3 t49) w (pk K) λt50 w=>
 DoX ah (aV 97 #[(0,t50),(1,(ad 1))]) w (pk K) λt51 w=>
 DoX ah (aM 62 1 #[(0,t51)]) w (pk K) λt52 w=>
 DoX ah (mB .append #[62,62] 62 #[au,au] #[u,t52]) w (pk K) λt53 w=>
 J [t53] w:=by
  intro W a hm;rw[Qa,aJ aU (a.cell 0 rfl 0 rfl),m_rn];refine Wt 1 a rfl om λs w4 a=>?_;rw[<-Tl.PF hm,<-t] at a;exact next a
 refine quiet ?_;rcases awQ i with H|H
 ·subst H;refine IM ?_;simp only[show ai ((0:Int) < ((0:Nat):Int))=au by decide,gq,CM];refine F9 ?_;simp only[gq,CM];refine F9 λW b=>?_;simp only[i_f];exact d (a.grow b) (λy o=>by simp at o)
 obtain⟨j,rfl⟩:∃j,i=j+1:=⟨i - 1,om⟩;have Y:(0:Int) < ((j+1:Nat):Int):=om
 have B:IntKind.wrap .i64 (((j+1:Nat):Int) - 1)=(j:Int):=by rw[aA om om];omega
 obtain⟨g2,I,e⟩:=jQ F (i:=j) om;have c:=Qq (l:=l) (j:=j) om;have Z:=G l[j] (auS om);refine IM ?_;simp only[auG Y,gq,CM];refine dY _ (λ_=>bE fs0) ?_;refine gA (ad l[j+1].num) (λ_ b=>aB aU ((a.grow b).cell 0 rfl 0 rfl)) ?_;refine dY (ad (j:Int)) (λ_=>by rw[sZ,B]) ?_;refine gA _ (λW b=>(e W ((a.grow b).hasM 2 rfl)).1) ?_;refine dY _ (λ_=>bE fs0) ?_;refine gA (ad l[j].num) (λW b=>qV (e W ((a.grow b).hasM 2 rfl)).2) ?_;refine IM (MZ ?_);by_cases k:l[j].num < l[j+1].num
 case neg=>
  simp only[auD k,gq,CM];refine F9 λW b=>?_;simp only[i_f];refine d (a.grow b) λy o=>?_;rw[c] at o;cases o;exactλh=>k h.1
 simp only[auG k,gq,CM];refine dY _ (λ_=>bE fs0) ?_;refine gA (ad l[j+1].num) (λ_ b=>aB aU ((a.grow b).cell 0 rfl 0 rfl)) ?_;refine dY (ad (l[j+1].num - 1)) (λ_=>by rw[sZ,aA om om]) ?_;refine dY (ad (j:Int)) (λ_=>by rw[sZ,B]) ?_;refine gA _ (λW b=>(e W ((a.grow b).hasM 2 rfl)).1) ?_;refine dY _ (λ_=>bE fs0) ?_;refine gA (ad l[j].num) (λW b=>qV (e W ((a.grow b).hasM 2 rfl)).2) ?_;refine q_eq (MZ ?_);by_cases heq:l[j+1].num - 1=l[j].num
 case neg=>
  simp only[auD heq];intro W b;simp only[i_f];refine d (a.grow b) λy o=>?_;rw[c] at o;cases o;exactλh=>heq h.2
 simp only[auG heq];intro W b;simp only[i_t];have a:=a.grow b;obtain⟨q,f,n,e1,e2,hn⟩:=Tl.Uc c (x:=l[j+1]) ⟨k,heq⟩;rw[auM,avO om] at hn;rw[e1] at a z;obtain⟨g3,O,rfl,P,_,cl⟩:=rns_row 1 a rfl (j:=q.length) sm;have C:(q++[(f,(n:Int))])[q.length]'(sm)=(f,(n:Int)):=sm
 rw[C] at cl;have hlen:(q++[(f,(n:Int))]).length=q.length+1:=sm
 refine quiet ?_;refine gA (ad ((q.length+1:Nat):Int)) (λW b=>by rw[Me azG ((a.grow b).slU 1 rfl),hlen]) ?_;refine dY (ad (q.length:Int)) (λ_=>by rw[sZ,aA om om,show ((q.length+1:Nat):Int) - 1=(q.length:Int) by omega]) ?_;refine dY _ (λw=>P w) (dY _ (λ_=>Kn) ?_);refine gA (ad (n:Int)) (λW b=>aB aU (cl _ ((a.grow b).at_ 1 rfl) 1 _ rfl)) ?_;refine dY (ad ((n:Int)+1)) (λ_=>by rw[Fk,aA om om]) ?_;refine dY _ (λw=>P w) (dY _ (λ_=>Kn) ?_);intro W2 b;have a:=a.grow b;refine WB 1 a rfl λw5 a=>?_;rw[<-e2,<-t] at a;exact next a
theorem YC (l:List Slt)(v:aq)(M:Mem)(w:ao)(b:l.length<=1000000)(F:UT l)(G:M.has w)(D:SlA M.A M.w v 4 l.length (GU l)) :
  jR ah 60 #[v] M w (RnsV l):=by
 refine bB G λK Q=>AN ?_;unfold rO nz;refine loop (λvs W=>∃(i:Nat) (u:aq),vs=[u,ad i]∧i<=l.length∧bT M.A w W [I7 u (Tl.runs (l.take i)),.mem M]) (λvs _=>l.length - n1 vs) ⟨0,_,rfl,om,bT.nilU (bT.memS G) 97 2⟩ ?_;rintro vs w1 ⟨i,u,rfl,hi,a⟩ _;simp only[oO,gd,nz];rw[aZ axA (D.now (a.hasM 1 rfl))];simp only[rs];by_cases o:(i:Int) < (l.length:Int)
 case neg=>
  simp only[auD o,i_f];rw[avE om] at a;obtain⟨N,hle,p,a⟩:=bT.bG (L:=[.mem M]) a 0 rfl;exact Q _ _ N _ 0 a rfl hle p
 have k:i < l.length:=om
 simp only[auG o,i_t];refine join λJ R=>?_;obtain⟨g,off,E⟩:=jQ D k;have r:=rB k;have s:=Tl.qW (l.take i);rw[auM,avO om] at s;have S:=F l[i] (auS k);rw[aZ azG (a.slU 0 rfl)];simp only[rs];have next:∀{t:aq} {W:ao},bT M.A w W [I7 t (Tl.runs (l.take (i+1))),.mem M]->J [t] W:=by
  intro t W a;refine R _ _ λ_=>?_;simp only[pH,gd,rs,nz];rw[aA om om];exact bC ⟨i+1,t,rfl,om,a⟩ (by show l.length - Int.toNat ((i:Int)+1) < l.length - Int.toNat (i:Int);omega)
 have d:∀{W:ao},bT M.A w W [I7 u (Tl.runs (l.take i)),.mem M]->(∀y,(l.take i).getLast?=ay y->¬Tl.adj y l[i])->DoX ah (mIA 32 v (ad (i:Int))) W (pk K) λt52 w=>
 DoX ah (mFA 60 t52 0) w (pk K) λt53 w=>
 DoX ah (aH 3 t53) w (pk K) λt54 w=>
 DoX ah (aV 97 #[(0,t54),(1,(ad 1))]) w (pk K) λt55 w=>
 DoX ah (aM 62 1 #[(0,t55)]) w (pk K) λt56 w=>
 DoX ah (mB .append #[62,62] 62 #[au,au] #[u,t56]) w (pk K) λt57 w=>
 J [t57] w:=by
  intro W a hm;obtain⟨T,U⟩:=E W (a.hasM 1 rfl);refine aD T |>.mpr ?_;rw[Qa];refine aD (qV U) |>.mpr ?_;rw[m_rn];refine Wt 0 a rfl om λt w4 a=>?_;rw[<-Tl.PF hm,<-r] at a;exact next a
 refine quiet ?_;rcases awQ i with H|H
 ·subst H;refine IM ?_;simp only[show ai ((0:Int) < ((0:Nat):Int))=au by decide,gq,CM];refine F9 ?_;simp only[gq,CM];refine F9 λW b=>?_;simp only[i_f];exact d (a.grow b) (λy m=>by simp at m)
 obtain⟨j,rfl⟩:∃j,i=j+1:=⟨i - 1,om⟩;have V:(0:Int) < ((j+1:Nat):Int):=om
 have z:IntKind.wrap .i64 (((j+1:Nat):Int) - 1)=(j:Int):=by rw[aA om om];omega
 obtain⟨g2,I,e⟩:=jQ D (i:=j) om;have c:=Qq (l:=l) (j:=j) om;have X:=F l[j] (auS om);refine IM ?_;simp only[auG V,gq,CM];refine dY (ad (j:Int)) (λ_=>by rw[sZ,z]) ?_;refine gA _ (λW b=>(e W ((a.grow b).hasM 1 rfl)).1) ?_;refine dY _ (λ_=>bE fs0) ?_;refine gA (ad l[j].num) (λW b=>qV (e W ((a.grow b).hasM 1 rfl)).2) ?_;refine Lu (MZ ?_);by_cases B:l[j].num < 9223372036854775807
 case neg=>
  simp only[auD B,gq,CM];refine F9 λW b=>?_;simp only[i_f];refine d (a.grow b) λy m=>?_;rw[c] at m;cases m;intro h;have:=h.1;omega
 simp only[auG B,gq,CM];refine gA _ (λW b=>(E W ((a.grow b).hasM 1 rfl)).1) ?_;refine dY _ (λ_=>bE fs0) ?_;refine gA (ad l[j+1].num) (λW b=>qV (E W ((a.grow b).hasM 1 rfl)).2) ?_;refine dY (ad (j:Int)) (λ_=>by rw[sZ,z]) ?_;refine gA _ (λW b=>(e W ((a.grow b).hasM 1 rfl)).1) ?_;refine dY _ (λ_=>bE fs0) ?_;refine gA (ad l[j].num) (λW b=>qV (e W ((a.grow b).hasM 1 rfl)).2) ?_;refine dY (ad (l[j].num+1)) (λ_=>by rw[Fk,aA om om]) ?_;refine q_eq (MZ ?_);by_cases heq:l[j+1].num=l[j].num+1
 case neg=>
  simp only[auD heq];intro W b;simp only[i_f];refine d (a.grow b) λy m=>?_;rw[c] at m;cases m;intro h;have:=h.2;omega
 simp only[auG heq];intro W b;simp only[i_t];have a:=a.grow b;obtain⟨q,f,n,e1,e2,Y⟩:=Tl.Uc c (x:=l[j+1]) ⟨om,om⟩;rw[auM,avO om] at Y;have hlen:(q++[(f,(n:Int))]).length=q.length+1:=sm
 rw[e1] at a s;obtain⟨g3,O,rfl,P,_,cl⟩:=rns_row 0 a rfl (j:=q.length) sm;have C:(q++[(f,(n:Int))])[q.length]'(sm)=(f,(n:Int)):=sm
 rw[C] at cl;have Z:IntKind.wrap .i64 (((Tl.runs (l.take (j+1))).length:Int) - 1)=(q.length:Int):=by rw[e1,hlen,aA om om];omega
 rw[Z];refine quiet ?_;refine dY _ (λw=>P w) (dY _ (λ_=>Kn) ?_);refine gA (ad (n:Int)) (λW b=>aB aU (cl _ ((a.grow b).at_ 0 rfl) 1 _ rfl)) ?_;refine dY (ad ((n:Int)+1)) (λ_=>by rw[Fk,aA om om]) ?_;refine dY _ (λw=>P w) (dY _ (λ_=>Kn) ?_);intro W2 b;have a:=a.grow b;refine WB 0 a rfl λw5 a=>?_;rw[<-e2,<-r] at a;exact next a
end
section
open Eng
def Cp(t0 t3 w)(N1:JT)(K:KT):=nz f45 19 [N1] [nh 5 [0,3]] [] (zg [0,3] [t0,t3]) w K
def EP(t0 w)(K:KT):=nz f45 1 [] [(5,[0,3],λs v j w f=>Cp (vg v 0) (vg v 1) w (f 0) K)] [] (zg [0] [t0]) w K
theorem Ih:EP t0 w k0->Calls ah 45 #[t0] w k0:=cz [] [(2,[0,3])] func45
def Ad(t2 t3 t4 t7 t8 t9 w)(N1:JT)(K:KT):=nz f13 43 [N1] [nh 7 [3,4,9]] [] (zg [2,3,4,7,8,9] [t2,t3,t4,t7,t8,t9]) w K
def DT(t0 w)(K:KT):=nz f13 1 [] [(7,[3,4,9],λs v j w f=>Ad (s 2) (vg v 0) (vg v 1) (s 7) (s 8) (vg v 2) w (f 0) K)] [] (zg [0] [t0]) w K
theorem GO:DT t0 w k0->Calls ah 13 #[t0] w k0:=cz [] [(3,[3,4,9])] func13
def zG(t0 t1 t7 w)(N1:JT)(K:KT):=nz f43 21 [N1] [nh 5 [0,7]] [] (zg [0,1,7] [t0,t1,t7]) w K
def DH(t0 t1 t2 w)(K:KT):=nz f43 1 [] [(5,[0,7],λs v j w f=>zG (vg v 0) (s 1) (vg v 1) w (f 0) K)] [] (zg [0,1,2] [t0,t1,t2]) w K
theorem GL:DH t0 t1 t2 w k0->Calls ah 43 #[t0,t1,t2] w k0:=cz [] [(2,[0,7])] func43
def DN(a g c d b w)(v:JT)(K:KT):=
 lnx 23 d w K λh w=>bnx .lss 3 b h w K λi w=>IfX i (Ay w (λS7 w=>HDo ah S7 (aH 25 c) λj=>HDo ah (λ_=>True) (mIA 23 d b) λk=>HDo ah (λ_=>True) (mFA 25 k 3) λl=>HDo ah S7 (aH 9 l) λm=>HDo ah (λ_=>True) (iQ .add 3 b (iN 1)) λn=>HDo ah (λ_=>True) (mIA 23 d n) λo=>HDo ah S7 (aH 25 o) λp=>cR ah 84 #[j,m,p] w (az 15 (pk K)) λe w=>(HDo ah (λ_=>True) (Ag e 0) λq=>HDo ah (λ_=>True) (Ag e 1) λf=>DoX ah (aN 25 c q) w (az 15 (pk K)) λ_ w=>(ecx .neq 35 96 0 f w K λr w=>IfX r (dx (aV 25 #[]) w K λs w=>stx 25 a s w K λ_ w=>Bw ah [.cell a 25,.val f] w K) (bnx .add 3 b (iN 2) w K λt w=>v [g,t] w))))) (ldx 25 c w K λu w=>stx 25 a u w K λ_ w=>Bw ah [.cell a 25,.val (iN 0)] w K)
def nT(t4 t5 t6 t14 w)(K:KT):=nz f42 1023 [] [(41,[5,15],λs v j w f=>DN (s 4) (vg v 0) (s 6) (s 14) (vg v 1) w (f 0) K)] [] (zg [4,5,6,14] [t4,t5,t6,t14]) w K
def Dn(b e f g h i c j a w)(M:JT)(K:KT):=
 bnx .lss 3 a (iN 3) w K λk w=>IfX k (dx (mIx 43 j a) w K λl w=>cx 81 #[l] w K λm w=>dx (aM 23 1 #[(0,m)]) w K λn w=>apx 23 c n w K λo w=>bnx .add 3 a (iN 1) w K λp w=>M [o,p] w) (cx 82 #[(.string ⟨#[84,121,112,101]⟩)] w K λq w=>cx 82 #[(.string ⟨#[88,82,101,102]⟩)] w K λr w=>cx 82 #[(.string ⟨#[83,105,122,101]⟩)] w K λs w=>cx 81 #[h] w K λt w=>cx 82 #[(.string ⟨#[87]⟩)] w K λu w=>cx 83 #[c] w K λv w=>cx 82 #[(.string ⟨#[73,110,100,101,120]⟩)] w K λx w=>cx 83 #[i] w K λy w=>dx (aM 23 8 #[(0,q),(1,r),(2,s),(3,t),(4,u),(5,v),(6,x),(7,y)]) w K λd w=>Fq (λL=>fax 34 b 3 w K λz w=>ldx 3 z w K λA w=>bnx .geq 3 A (iN 0) w K λB w=>IfX B (oY w (λE=>Fj ah E 82 #[(.string ⟨#[80,114,101,118]⟩)] λC=>QDo ah E (mFA 34 b 3) λD=>QDo ah E (aH 3 D) λF=>Fj ah E 81 #[F] λG=>
 ∀w,E w ->
 DoX ah (aM 23 2 #[(0,C),(1,G)]) w (pm1 (pk K)) λH w=>DoX ah (mB .append #[23,23] 23 #[au,au] #[d,H]) w (pm1 (pk K)) λI w=>L [I] w)) (L [d] w)) (λJ w=>∀_:Sg,nT e f g (J.getD 0 undef) w K))
def DD(d e f g h i c j k b w)(N1:JT)(K:KT):=
 bnx .lss 3 b k w K λl w=>IfX l (iax 62 j b w K λm w=>ldx 97 m w K λn w=>alx 97 w K λa w=>stx 97 a n w K λ_ w=>iax 97 a (iN 0) w K λo w=>ldx 3 o w K λp w=>iax 97 a (iN 1) w K λq w=>ldx 3 q w K λr w=>bnx .add 3 p r w K λs w=>oY w (λE=>QDo ah E (mIA 97 a (iN 0)) λt=>QDo ah E (aH 3 t) λu=>Fj ah E 81 #[u] λv=>QDo ah E (mIA 97 a (iN 1)) λx=>QDo ah E (aH 3 x) λy=>Fj ah E 81 #[y] λz=>
 ∀w,E w ->
 DoX ah (aM 23 2 #[(0,v),(1,z)]) w (pm1 (pk K)) λA w=>DoX ah (mB .append #[23,23] 23 #[au,au] #[c,A]) w (pm1 (pk K)) λB w=>bnx .add 3 b (iN 1) w K λC w=>N1 [s,B,C] w)) (ldx 43 e w K λD w=>Es [(.slice ax 0 0),(iN 0)] w (λF w G=>∀_:Sg,Dn d f g h i c (F.getD 0 undef) D (F.getD 1 undef) w G K))
def H5(t0 t1 w)(K:KT):=nz f42 1 [] [(11,[7,8,24],λs v j w f=>DD (s 2) (s 3) (s 4) (s 5) (s 6) (vg v 0) (vg v 1) (s 22) (s 23) (vg v 2) w (f 0) K)] [] (zg [0,1] [t0,t1]) w K
theorem JV:H5 t0 t1 w k0->Calls ah 42 #[t0,t1] w k0:=cz [(19,[14])] [(5,[7,8,24]),(12,[11,44]),(20,[5,15])] func42
def Ds(t6 t9 t69 t79 t80 w)(N1 a:JT)(K:KT):=nz f12 374271 [N1,a] [nh 35 [9,69],nh 41 [9,80]] [] (zg [6,9,69,79,80] [t6,t9,t69,t79,t80]) w K
def DP(t1 t2 t6 t7 t9 t67 t68 t69 w)(N1:JT)(K:KT):=nz f12 5631 [N1] [nh 35 [9,69],(41,[9,80],λs v j w f=>Ds (s 6) (vg v 0) (s 69) (s 79) (vg v 1) w (f 1) (f 0) K)] [] (zg [1,2,6,7,9,67,68,69] [t1,t2,t6,t7,t9,t67,t68,t69]) w K
def Ic(t0 w)(K:KT):=nz f12 1 [] [(35,[9,69],λs v j w f=>DP (s 1) (s 2) (s 6) (s 7) (vg v 0) (s 67) (s 68) (vg v 1) w (f 0) K)] [] (zg [0] [t0]) w K
theorem Kk:Ic t0 w k0->Calls ah 12 #[t0] w k0:=cz [] [(17,[9,69]),(20,[9,80])] func12
def BK(t0 w)(K:KT):=nz f62 1 [] [] [] (zg [0] [t0]) w K
theorem BB:BK t0 w k0->Calls ah 62 #[t0] w k0:=cw func62
def Fe(t0 t1 w)(K:KT):=nz f64 1 [] [] [] (zg [0,1] [t0,t1]) w K
theorem Ik:Fe t0 t1 w k0->Calls ah 64 #[t0,t1] w k0:=cw func64
def Gu(t0 w)(K:KT):=nz f65 1 [] [] [] (zg [0] [t0]) w K
theorem Iq:Gu t0 w k0->Calls ah 65 #[t0] w k0:=cw func65
def Bz(d f g b w)(N1:JT)(K:KT):=
 lnx 23 d w K λh w=>bnx .lss 3 b h w K λi w=>IfX i (Ay w (λS2 w=>HDo ah S2 (mIA 23 d b) λj=>HDo ah S2 (aH 25 j) λk=>HDo ah S2 (iQ .add 3 b (iN 1)) λl=>HDo ah S2 (mIA 23 d l) λm=>HDo ah S2 (aH 25 m) λn=>cR ah 64 #[k,(iN 2147483647)] w (az 11 (pk K)) λc w=>S2 w∧(cR ah 64 #[n,(iN 2147483647)] w (az 11 (pk K)) λe w=>S2 w∧(bnx .geq 3 c g w K λa w=>etx a c w λo w=>etx a e w λp w=>gtx a (iQ .add 3 o p) w K λq w=>gtx a (iQ .leq 3 q (iN 8192)) w K λr w=>dx (iB a r (.bool au)) w K λs w=>cx 62 #[s] w K λz w=>bnx .add 3 c e w K λt w=>dx (aV 97 #[(0,c),(1,e)]) w K λu w=>dx (aM 62 1 #[(0,u)]) w K λv w=>apx 62 f v w K λx w=>bnx .add 3 b (iN 2) w K λy w=>N1 [x,t,y] w)))) (K (.returned f) w)
def FK(t0 w)(K:KT):=nz f66 1 [] [(11,[3,4,5],λs v j w f=>Bz (s 0) (vg v 0) (vg v 1) (vg v 2) w (f 0) K)] [] (zg [0] [t0]) w K
theorem Ir:FK t0 w k0->Calls ah 66 #[t0] w k0:=cz [] [(5,[3,4,5])] func66
def DQ(t2 t3 w)(K:KT):=nz f29 32767 [] [] [] (zg [2,3] [t2,t3]) w K
def DL(t1 t2 t3 w)(K:KT):=nz f29 16383 [] [(44,[],λs v j w f=>DQ (s 2) (s 3) w K)] [] (zg [1,2,3] [t1,t2,t3]) w K
def DU(t1 t2 t3 t8 t11 t54 w)(N1:JT)(K:KT):=nz f29 11263 [N1] [nh 23 [54],(38,[],λs v j w f=>DL (s 1) (s 2) (s 3) w K)] [] (zg [1,2,3,8,11,54] [t1,t2,t3,t8,t11,t54]) w K
def HZ(t0 w)(K:KT):=nz f29 1 [] [(23,[54],λs v j w f=>DU (s 1) (s 2) (s 3) (s 8) (s 11) (vg v 0) w (f 0) K)] [] (zg [0] [t0]) w K
theorem KV:HZ t0 w k0->Calls ah 29 #[t0] w k0:=cz [(19,[]),(22,[])] [(11,[54])] func29
def mY(t0 w)(K:KT):=nz f68 1 [] [] [] (zg [0] [t0]) w K
theorem vK:mY t0 w k0->Calls ah 68 #[t0] w k0:=cw func68
def iH(t0 t4 t9 t14 t15 w)(N1 a:JT)(K:KT):=nz f103 365 [N1,a] [nh 3 [9],nh 9 [15]] [] (zg [0,4,9,14,15] [t0,t4,t9,t14,t15]) w K
def iI(t0 t7 t8 t9 w)(N1:JT)(K:KT):=nz f103 5 [N1] [nh 3 [9],(9,[15],λs v j w f=>iH (s 0) (s 4) (s 9) (s 14) (vg v 0) w (f 1) (f 0) K)] [] (zg [0,7,8,9] [t0,t7,t8,t9]) w K
def jP(t0 t1 w)(K:KT):=nz f103 1 [] [(3,[9],λs v j w f=>iI (s 0) (s 7) (s 8) (vg v 0) w (f 0) K)] [] (zg [0,1] [t0,t1]) w K
theorem pT:jP t0 t1 w k0->Calls ah 103 #[t0,t1] w k0:=cz [] [(1,[9]),(4,[15])] func103
def fX(t2 t3 t7 t25 t26 w)(N1:JT)(K:KT):=nz f67 351 [N1] [nh 15 [7,26]] [] (zg [2,3,7,25,26] [t2,t3,t7,t25,t26]) w K
def lZ(t0 t1 t2 t3 w)(K:KT):=nz f67 1 [] [(15,[7,26],λs v j w f=>fX (s 2) (s 3) (vg v 0) (s 25) (vg v 1) w (f 0) K)] [] (zg [0,1,2,3] [t0,t1,t2,t3]) w K
theorem tH:lZ t0 t1 t2 t3 w k0->Calls ah 67 #[t0,t1,t2,t3] w k0:=cz [] [(7,[7,26])] func67
def mO (a:Nat)(K:Ending->ao->Prop):=pdM ah [.val (.slice ax 0 0)] K [(mkD a)]
def aS (a:Nat)(K:Ending->ao->Prop):=pdM ah [.val undef] K [(mkD a)]
def oB(b d e a s w)(t:JT)(K:KT):=
 DoX ah (iQ .lss 3 a e) w (aS s K) λf w=>IfX f (DoX ah (mIA 32 d a) w (aS s K) λg w=>DoX ah (aH 60 g) w (aS s K) λh w=>DoX ah (fK 60) w (aS s K) λc w=>DoX ah (aN 60 c h) w (aS s K) λ_ w=>DoX ah (mFA 60 c 1) w (aS s K) λi w=>DoX ah (aH 3 i) w (aS s K) λj w=>DoX ah (iQ .leq 3 j (iN 2)) w (aS s K) λk w=>cR ah 62 #[k] w (aS s K) λq w=>DoX ah (iQ .add 3 a (iN 1)) w (aS s K) λl w=>AtX [(mkD s)] [(mkD s)] (t [l] w)) (DoX ah (aH 32 b) w (aS s K) λm w=>cR ah 40 #[m] w (aS s K) λn w=>DoX ah (mEq .eql 35 (.tmp 40) (.const (iN 0)) n (iN 0)) w (aS s K) λo w=>cR ah 62 #[o] w (aS s K) λr w=>DoX ah (aH 32 b) w (aS s K) λp w=>HJ ah [.val p] K [(mkD s)] .returning w)
def cG(a b g h w):=
 DoX ah (aH 32 a) w pkR λc w=>DoX ah (aH 60 b) w pkR λd w=>DoX ah (aM 32 1 #[(0,d)]) w pkR λe w=>DoX ah (mB .append #[32,32] 32 #[au,au] #[c,e]) w pkR λf w=>DoX ah (aN 32 a f) w pkR λ_ w=>EndX ah g ax w h
def kL(l m w)(K:KT):=
 dx (GP 64 l) w K λf w=>dx (GP 9 m) w K λn w=>alx 32 w K λa w=>alx 3 w K λg w=>stx 3 g (iN 0) w K λ_ w=>dx (QQ (.func 67) #[] #[f,g,n]) w K λo w=>alx 83 w K λb w=>stx 83 b o w K λ_ w=>ldx 64 f w K λp w=>cx 68 #[p] w K λq w=>RangeX ah ax 1 q w (λI u w J=>BegX ah I w (λw=>Ay w (λS2 w=>HDo ah S2 (aH 83 b) λh=>HDo ah S2 (aH 83 b) λd=>HDo ah S2 (aH 83 b) λc=>(CVX ah h #[(iN 0)] w (pm1 (pm1 (pm1 (pm1 (pm1 pkR))))) λe w=>S2 w∧((CVX ah d #[(iN 1)] w (pm1 (pm1 (pm1 (pm1 (pm1 pkR))))) λi w=>S2 w∧((CVX ah c #[(iN 2)] w (pm1 (pm1 (pm1 (pm1 (pm1 pkR))))) λr w=>S2 w∧(HDo ah (λ_=>True) (aV 60 #[(0,(u.getD 0 undef)),(1,e),(2,i),(3,r)]) λs=>DoX ah (fK 60) w (pm1 (pm1 (pm1 (pm1 (pm1 pkR))))) λj w=>S2 w∧(DoX ah (aN 60 j s) w (pm1 (pm1 (pm1 (pm1 (pm1 pkR))))) λ_ w=>(cG a j I J w))))∧(DoX ah (fK 60) w (pm1 (pm1 (pm1 (pm1 (pm1 pkR))))) λv w=>S2 w∧(CVX ah c #[(iN 2)] w (pm1 (pm1 (pm1 (pm1 (pm1 pkR))))) λz w=>S2 w∧(HDo ah (λ_=>True) (aV 60 #[(0,(u.getD 0 undef)),(1,e),(2,i),(3,z)]) λA=>DoX ah (aN 60 v A) w (pm1 (pm1 (pm1 (pm1 (pm1 pkR))))) λ_ w=>(cG a v I J w))))))∧(DoX ah (fK 60) w (pm1 (pm1 (pm1 (pm1 (pm1 pkR))))) λx w=>S2 w∧(CVX ah d #[(iN 1)] w (pm1 (pm1 (pm1 (pm1 (pm1 pkR))))) λB w=>S2 w∧(CVX ah c #[(iN 2)] w (pm1 (pm1 (pm1 (pm1 (pm1 pkR))))) λC w=>S2 w∧(HDo ah (λ_=>True) (aV 60 #[(0,(u.getD 0 undef)),(1,e),(2,B),(3,C)]) λD=>DoX ah (aN 60 x D) w (pm1 (pm1 (pm1 (pm1 (pm1 pkR))))) λ_ w=>(cG a x I J w)))))))∧(DoX ah (fK 60) w (pm1 (pm1 (pm1 (pm1 (pm1 pkR))))) λy w=>S2 w∧(CVX ah h #[(iN 0)] w (pm1 (pm1 (pm1 (pm1 (pm1 pkR))))) λE w=>S2 w∧(CVX ah d #[(iN 1)] w (pm1 (pm1 (pm1 (pm1 (pm1 pkR))))) λF w=>S2 w∧(CVX ah c #[(iN 2)] w (pm1 (pm1 (pm1 (pm1 (pm1 pkR))))) λG w=>S2 w∧(HDo ah (λ_=>True) (aV 60 #[(0,(u.getD 0 undef)),(1,E),(2,F),(3,G)]) λH=>DoX ah (aN 60 y H) w (pm1 (pm1 (pm1 (pm1 (pm1 pkR))))) λ_ w=>(cG a y I J w)))))))))
 [(ax,λL w=>DoX ah (aH 32 a) w (mO L K) λk w=>DoX ah (mB .len #[32] 3 #[au] #[k]) w (mO L K) λt w=>Es [(iN 0)] w (λM w N=>∀_:Sg,oB a k t (M.getD 0 undef) L w N K))]
theorem AH (t0 t1:aq)(w:ao)(K:Ending->ao->Prop):wpX ah 44 [] [(9,[30])] ax (CX f31) (topM ah [.tmp 4] K) (mP [t0,t1]) [] w=kL t0 t1 w K:=krx
theorem AP {t1:aq}{K:Ending->ao->Prop}(h:kL t0 t1 w K):Calls ah 31 #[t0,t1] w K:=
 Pp func31 rfl rfl rfl rfl (Eq.mpr (AH t0 t1 w K) h)
def nF (a:Deferred)(b:aq)(K:Ending->ao->Prop):=pd ah [.cell b 35] K [a]
def DX(b w)(K:KT):=
 alx 35 w K λa w=>dx (QQ (.func 61) #[] #[a]) w K λc w=>DfrX (dfrV c #[]) (λd1=>DoX ah (iO b #[]) w (nF d1 a K) λd w=>DoX ah (aN 35 a (iN 0)) w (nF d1 a K) λ_ w=>Et ah [.cell a 35] K [d1] .returning w)
theorem GK:DX t0 w k0->Calls ah 27 #[t0] w k0:=cw func27
def Aj(t0 t1 w)(K:KT):=nz f28 1 [] [] [] (zg [0,1] [t0,t1]) w K
theorem Ev:Aj t0 t1 w k0->Calls ah 28 #[t0,t1] w k0:=cw func28
def zZ(t0 t1 t2 w)(K:KT):=nz f30 1 [] [] [] (zg [0,1,2] [t0,t1,t2]) w K
theorem Ew:zZ t0 t1 t2 w k0->Calls ah 30 #[t0,t1,t2] w k0:=cw func30
def H4(t0 t1 w)(K:KT):=nz f8 1 [] [] [] (zg [0,1] [t0,t1]) w K
theorem Jr:H4 t0 t1 w k0->Calls ah 8 #[t0,t1] w k0:=cw func8
end
section
open Eng Go.RowKit
namespace Cs
def nbG:Nat->Int->Nat
|0,_=>0
|f+1,n=>if 0 < n then nbG f (n.fdiv 256)+1 else 0
def nb (n:Int):Nat:=nbG 4 n
def Mc (l:List Int):Int:=l.foldl (λm x=>max m x) 0
def wa (l:List Slt):Nat:=nb (Mc (l.map (·.a)))
def wb (l:List Slt):Nat:=nb (Mc (l.map (·.b)))
def num (n:Int):Nat->List UInt8
|0=>[]
|w+1=>UInt8.ofNat ((n / (256 ^ w)) % 256).toNat::num n w
theorem adZ:∀(f:Nat) (n:Int),nbG f n<=f
|0,_=>auL _
|f+1,n=>by
  have:=adZ f (n.fdiv 256);unfold nbG;split<;>omega
theorem amL (n:Int):nb n<=4:=adZ 4 n
theorem jC (n:Int):∀w,(num n w).length=w
|0=>rfl
|w+1=>by unfold num;rw[auX,jC n w]
theorem F1 (l:List Int)(x:Int):Mc (l++[x])=max (Mc l) x:=by unfold Mc;rw[aAy];rfl
end Cs
theorem Mu (n:Int)(w:ao):Ret ah 45 #[ad n] w (λv w'=>v=ad (Cs.nb n:Nat)∧w=w'):=by
 refine aX λK a=>Ih ?_;unfold EP nz;refine loop (λvs W=>∃(m:Int) (k:Nat),vs=[ad m,ad (k:Int)]∧k<=4∧Cs.nb n=k+Cs.nbG (4 - k) m∧w=W) (λvs _=>4 - n1 vs) ⟨n,0,rfl,om,by simp[Cs.nb],rfl⟩ ?_;rintro vs c ⟨m,k,rfl,d,he,rfl⟩ _;simp only[Cp,gd,rs,nz];by_cases hm:0 < m
 ·simp only[auG hm,rs,oG];by_cases b:(k:Int) < 4
  ·simp only[auG b,i_t];rw[aA om om,Ix dc,show (2:Int) ^ min (8:Int).toNat IntKind.i64.bits=256 from rfl];refine bC ⟨m.fdiv 256,k+1,rfl,om,?_,rfl⟩ (by simp[n1,RowKit.intOf];omega);rw[he,show 4 - k=(4 - (k+1))+1 by omega,Cs.nbG,auC hm];omega
  ·simp only[auD b,i_f];have:k=4:=om
   subst this;exact a _ _ ⟨by rw[he];rfl,rfl⟩
 ·simp only[auD hm,rs,oG,i_f];refine a _ _ ⟨?_,rfl⟩;rw[he];cases h:4 - k with
 |zero=>rfl
 |succ f=>rw[Cs.nbG,auB hm];rfl
def w3C (a b:Int):List Value:=[ad 1,ad a,ad b]
def w3V (a b:Int):Value:=.agg (w3C a b).toArray
theorem agg3:FU ah 43=ay 3:=krx
theorem sz3:(Tryz.prog.info? 43).map (·.size)=ay 3:=krx
def w0C:List Value:=[ad 0,ad 0,ad 0]
section
variable {w:ao}{PK:PKT}{K:VWP}{S:Nat->Prop}{w0:ao}{L T:List Ent}
theorem o_w3 (a:bT S w0 w L)(k:∀b w',bT S w0 w' (.cells b w0C 43::L)->K (af b 0) w'):DoX ah (fK 43) w PK K:=
 bK (λb=>af b 0) w0C 43 (λ_=>by kernel_rfl) a k
theorem M9 (j:Nat){c:List aq}{d:Int}(g:c.length=3)(f:bT S w0 w L)(hi:L[j]?=ay (.cells b c 43))(k:∀w',bT S w0 w' (L.set j (.cells b (w3C a d) 43))->K undef w') :
  DoX ah (aN 43 (af b 0) (w3V a d)) w PK K:=by
 refine B9 j f hi (new:=w3C a d) sz3 (λv h=>?_) (by rw[g];show 0+3<=3;omega) λw' f=>k w' ?_
 ·simp only[w3C,auI,avP,or_false] at h;rcases h with rfl|rfl|rfl<;>rfl
 ·have e:c.take 0++w3C a d++c.drop (0+(w3C a d).length)=w3C a d:=by
   rw[awG (by rw[g];show 3<=0+3;omega)];simp
  rw[e] at f;exact f
theorem m_w3 {b:Int}:DoX ah (aV 43 #[(0,ad 1),(1,ad a),(2,ad b)]) w PK K=K (w3V a b) w:=aD krx
end
theorem Ej (l:List Slt)(v:aq)(M:Mem)(w:ao)(o:l.length<=1000000000)(f:M.has w)(h:SlA M.A M.w v 4 l.length (GU l)) :
  jR ah 13 #[v] M w (λr _=>r=w3V (Cs.wa l:Nat) (Cs.wb l:Nat)):=by
 refine bB f λK j=>GO ?_;unfold DT nz;refine o_w3 (bT.memS f) λb2 p c=>?_;rw[aZ axA (h.now (c.hasM 1 rfl))];refine loop (λvs W=>∃(i:Nat),vs=[ad (Cs.Mc ((l.take i).map (·.a))),ad (Cs.Mc ((l.take i).map (·.b))),ad (i:Int)]∧i<=l.length∧bT M.A w W [.cells b2 w0C 43,.mem M]) (λvs _=>l.length - (RowKit.intOf (vs.getD 2 undef)).toNat) ⟨0,rfl,om,c⟩ ?_;clear c;rintro vs w2 ⟨i,rfl,hi,c⟩ _;simp only[Ad,gd,rs,nz];by_cases d:(i:Int) < (l.length:Int)
 ·simp only[auG d,i_t];have e:i < l.length:=om
  obtain⟨g,off,k⟩:=jQ h e;obtain⟨m,n⟩:=k w2 (c.hasM 1 rfl);refine aD m |>.mpr (aD (Bt n) |>.mpr ?_);refine Lw c λq w3 c=>?_;refine Hr (y:=l[i]) 0 c rfl λs c=>?_;rw[HL,aJ aU (c.cell 0 rfl 2 rfl),vC,Hy,aJ aU (c.cell 0 rfl 3 rfl),vC]
  try simp only[rs]
  rw[aA om om];refine bC ⟨i+1,?_,om,c.tail⟩ (by simp[RowKit.intOf];omega);rw[rB e,avM,avM,aA5,aA5,Cs.F1,Cs.F1];rfl
 simp only[auD d,i_f];have:i=l.length:=om
 subst this;rw[awD];refine BJ (Mu _ w2) ?_;refine BJ (Mu _ w2) ?_;rw[m_w3];refine M9 0 rfl c rfl λw3 c=>?_;exact eN (bJ (c.agg 0 rfl agg3)) (j _ _ M _ 1 c rfl M.le_refl rfl)
section
variable {w:ao}{PK:PKT}{K:VWP}{S:Nat->Prop}{w0:ao}{L T:List Ent}
theorem ccu8 {n:Int}:DoX ah (tG 3 5 (ad n)) w PK K=K (.int .u8 (IntKind.wrap .u8 n)) w:=aD krx
theorem Ka {n:Int}{wd:Nat}{ov:aq}{out:List UInt8}(b:bT S w0 w (pP ov out::T))(hw:wd<=4)(o:out.length<=100000000)(k:∀a W,bT S w0 W (pP a (out++Cs.num n wd)::T)->K a W) :
  cR ah 43 #[ov,ad n,ad (wd:Int)] w PK K:=by
 refine gK (GL (k0:=wT λv W=>bT S w0 W (pP v (out++Cs.num n wd)::T)) ?_) (λe W ⟨v,he,b⟩=>by subst he;exact k v W b);unfold DH nz;simp only[rs];rw[aA om om];refine loop (λvs W=>∃(j:Nat) (a:aq) (q:List UInt8),vs=[a,ad ((j:Int) - 1)]∧j<=wd∧q++Cs.num n j=out++Cs.num n wd∧q.length<=out.length+wd∧bT S w0 W (pP a q::T)) (λvs _=>(RowKit.intOf (vs.getD 1 undef)+1).toNat) ⟨wd,ov,out,rfl,om,rfl,om,b⟩ ?_;clear b;rintro vs p ⟨j,a,q,rfl,r,c,h,b⟩ _;simp only[zG,gd,rs,nz];by_cases l:0 < j
 ·simp only[show ai ((0:Int)<=(j:Int) - 1)=aw from auG om,i_t];obtain⟨i,rfl⟩:∃i,j=i+1:=⟨j - 1,om⟩;rw[show ((i+1:Nat):Int) - 1=(i:Int) by omega];have m:i < 4:=om
  have d:n.fdiv (2 ^ min (8*(i:Int)).toNat IntKind.i64.bits)=n / 256 ^ i:=by
   rw[azN _ (Int.le_of_lt (Int.pow_pos dc))]
   congr 1
   rcases (by omega:i=0∨i=1∨i=2∨i=3) with rfl|rfl|rfl|rfl<;>rfl
  rw[aA om om,Ix om,d,ccu8];have hu:IntKind.wrap .u8 (n / 256 ^ i)=((UInt8.ofNat ((n / 256 ^ i) % 256).toNat).toNat:Int):=by
   have g:=Int.emod_nonneg (n / 256 ^ i) (show (256:Int)≠0 by decide);have s:=aBp (n / 256 ^ i) (show (0:Int) < 256 by decide);rw[ayE,awB (show _ < 2 ^ 8 by omega)];show (n / 256 ^ i) % 256=_;omega
  rw[hu];refine afF _ b om λf w2 b=>?_
  try simp only[rs]
  rw[aA om om];refine bC ⟨i,f,_,rfl,om,?_,?_,b⟩ (by simp[RowKit.intOf])
  ·rw[<-c,Cs.num,auN];try rfl
  ·have g:=congrArg List.length c;rw[auH,auH,Cs.jC,Cs.jC] at g;rw[auH];show _+1<=_;omega
 have:j=0:=om
 subst this;simp only[show ai ((0:Int)<=((0:Nat):Int) - 1)=au from rfl,i_f];have e:q=out++Cs.num n wd:=by rw[<-c];simp[Cs.num]
 rw[e] at b;exact⟨_,rfl,b⟩
end
def aiJ:aq->Nat|.slice _ n _=>n|_=>0
namespace Ff
def Jx (o:Ob):List Ob:=match Vl.get o aQ with|none=>[]|some f=>if f.k=6 then f.kids else [f]
def yD (o:Ob):List Ob×Int:=match Vl.get o bS with|none=>([],0)|some d=>if d.k=6 then (d.kids,0) else if d.k=7 then ([d],0) else ([],10)
def yW (o:Ob)(many:Nat):List Pm×Int:=
 if (yD o).2≠0 then ([],10)
 else if (yD o).1.any (λx=>ai ((L6 x).2≠0))=aw then ([],10)
 else if many < (yD o).1.length then ([],1)
 else if (yD o).1.any (λx=>!eight x)=aw then ([],1)
 else ((yD o).1.map (λx=>(L6 x).1)++List.replicate (many - (yD o).1.length) xF,0)
theorem abT {x:Ob}(h:x∈(yD o).1):x.wt<=o.wt:=by
 unfold yD at h;cases a:Vl.get o bS with
|none=>rw[a] at h;simp at h
|some f=>
  rw[a] at h;have b:=qi a;dsimp only at h;split at h
  ·obtain⟨i,hi,rfl⟩:=axX (show x∈f.kids from h);have:=ER hi;omega
  split at h
  ·rw[avD.1 h];exact b
  ·simp at h
theorem qZ {o:Ob}:o.kids.length<=o.wt:=by
 have:=Ob.rN o.kids;cases o;simp only[Ob.kids] at *;rw[Ob.wt];omega
theorem Sn (h:o.wt<=1000000000):(Jx o).length<=1000000000:=by
 unfold Jx;cases a:Vl.get o aQ with
|none=>exact avG _
|some f=>
  have b:=qi a;dsimp only;split
  ·have:=@qZ f;omega
  ·exact (by decide:(1:Nat)<=1000000000)
theorem YZ (h:o.wt<=1000000000):(yD o).1.length<=1000000000:=by
 unfold yD;cases a:Vl.get o bS with
|none=>exact avG _
|some f=>
  have b:=qi a;dsimp only;split
  ·have:=@qZ f;show f.kids.length<=_;omega
  split
  ·exact (by decide:(1:Nat)<=1000000000)
  ·exact avG _
end Ff
section
variable {w:ao}{PK:PKT}{K:VWP}{S:Nat->Prop}{w0:ao}{L:List Ent}
structure Ou (M:Mem) (v:aq) (os:List Ob) (cs:List aq):Prop where
 sl:SlA M.A M.w v 6 os.length cs
 all:OVs M.A M.w cs os
theorem Ou.le {M N:Mem}{v:aq}{os:List Ob}{cs:List aq}(h:M.le N)(k:Ou M v os cs):Ou N v os cs:=⟨k.sl.le h,k.all.le h⟩
theorem alF (M:Mem):Ou M cI [] []:=⟨SlA.nil _ _ _ _,OVs.nil⟩
theorem NK (h:OV M.A M.w (obV o vk vc) o):∃cs,Ou M vc o.kids cs:=by
 obtain⟨cs,a⟩:=h.slices;exact⟨cs,a.kids,a.all⟩
theorem HQ (h:Ou M v os cs):DoX ah (mB .len #[23] 3 #[au] #[v]) W PK K=K (ad (os.length:Int)) W:=by
 obtain⟨a,cap,rfl,_⟩:=h.sl.form;exact bW auU
theorem OK (h:Ou M v os cs)(hi:i < os.length)(f:M.has w)(k:∀vk vc,OV M.A M.w (obV os[i] vk vc) os[i]->K (obV os[i] vk vc) w) :
  DoX ah (mIA 23 v (ad (i:Int))) w PK λt w=>DoX ah (aH 25 t) w PK2 K:=by
 obtain⟨b,off,vk,e,c,d,a⟩:=Ri h.sl h.all hi;refine aD (c w) |>.mpr ?_;refine aD (aY (AtV.agg fR (cs:=obC os[i] vk e) rfl (a w f))) |>.mpr ?_;exact k vk e d
theorem XA (a:bT S w0 w (.mem M::L))(hw:o.wt<=1000000000)(E:OV M.A M.w v o)
  (q:(∀x∈Ff.Jx o,x.k=5)->∀vn N W,M.le N->SlA N.A N.w vn 1 ((Ff.Jx o).map Ob.s).length (bI ((Ff.Jx o).map Ob.s))->bT S w0 W (.mem N::L)->K vn W)
  (F:¬(∀x∈Ff.Jx o,x.k=5)->∀N W,M.le N->bT S w0 W (.mem N::L)->PK [upF 10] W):cR ah 93 #[v] w PK K:=by
 obtain⟨vk,vc,P,rfl,G⟩:=E.open;have r:=Ff.Sn hw;generalize c:Ff.Jx o=X at q F r;unfold Ff.Jx at c;refine⟨F5 ?_⟩;unfold Bs nz;refine eQ o G.keys.one G.kids.one a λQ R a=>?_;rw[jL a 0 rfl];refine bH a 1 rfl (CE o _ Ff.aQ M R om (a.hasM 1 rfl) E) ?_;rintro _ N w2 hle ⟨x,rfl,b⟩ a;obtain⟨H,t,rfl,b⟩:=J9 b;simp only[getV,ex];refine dJ a λb3 w3 a=>?_;refine aT 0 b.oneK b.oneC a rfl λY a=>?_;rw[jL a 0 rfl];refine Bm _ b.oneK b.oneC a λnb n a=>?_;have a:bT S w0 n (obE nb ((Vl.get o Ff.aQ).getD Vl.ob0) H t::obE b3 ((Vl.get o Ff.aQ).getD Vl.ob0) H t::obE Q o vk vc::.mem N::L):=a;refine join λJ T=>?_;have main:∀(l:Mem) (u:aq) (cs:List aq) (W:ao),M.le l->Ou l u X cs->bT S w0 W (.mem l::L)->J [u] W:=by
  intro l u cs W g d a;refine T _ _ λ_=>?_;simp only[wX,gd,nz];rw[HQ d];have a:=bT.nilU a 9 1;refine loop (λvs W=>∃(i:Nat) (ov:aq),vs=[ov,ad (i:Int)]∧i<=X.length∧(∀x∈X.take i,x.k=5)∧bT S w0 W (stsE ov ((X.take i).map Ob.s)::.mem l::L)) (λvs _=>X.length - n1 vs) ⟨0,cI,rfl,om,sm,a⟩ ?_;clear a;rintro vs U ⟨i,ov,rfl,hi,y,a⟩ _;simp only[wP,gd,rs,nz];by_cases m:(i:Int) < (X.length:Int)
  case neg=>
   simp only[m,auF,i_f];have:i=X.length:=om
   subst this;rw[awD] at y a;obtain⟨z,B,j,a⟩:=a.bG 0 rfl;exact q y ov z U (g.trans B) j a
  simp only[m,auE,i_t];have e:i < X.length:=om
  refine OK d e (a.hasM 1 rfl) λZ yc I=>?_;refine dJ a λb8 w7 a=>?_;refine aT 0 I.oneK I.oneC a rfl λV a=>?_;rw[eG,vE a 0 rfl];simp only[rs];refine qX (λh=>?_) (λh=>?_)
  rotate_left
  ·exact F (λk=>(avT h) (k _ (auS e))) l V g a.tail.tail
  have h:=auW h;rw[El,NW a 0 rfl];refine XG _ a.tail (by rw[avJ,auM];omega) λC W2 a=>?_
  try simp only[rs]
  rw[aA om om];refine bC ⟨i+1,C,rfl,om,?_,?_⟩ (by simp[n1,RowKit.intOf];omega)
  ·rw[avL e];intro x b;rcases avF.1 b with b|b
   ·exact y x b
   ·rw[avD.1 b];exact h
  ·rw[avL e,avM];exact a
 cases O:Vl.get o Ff.aQ with
|none=>
  rw[O] at c;dsimp only at c;subst c;simp only[ayR,rs,avZ,i_t];exact q sm cI N n hle (SlA.nil _ _ _ _) a.tail.tail.tail
|some f=>
  rw[O] at c a b;dsimp only at c;rw[ayD] at a b;simp only[azD,rs,awA,i_f];rw[eG,vE a 1 rfl];simp only[rs];by_cases p:f.k=6
  ·rw[auC p] at c;subst c;simp only[p,auE,i_t];rw[iR,cQ a 1 rfl];obtain⟨cs,d⟩:=NK b;exact main N t cs n hle d a.tail.tail.tail
  ·rw[auB p] at c;subst c;simp only[p,auF,i_f];obtain⟨z,B,j,D,a⟩:=YK a 2 rfl b;exact main z _ _ n (hle.trans B) ⟨j,D⟩ a.tail.tail
theorem aaM {many:Nat}(b:bT S w0 w (.mem M::L))(hw:o.wt<=1000000000)(hm:many<=1000000000)(hv:OV M.A M.w v o)
  (Z:(Ff.yW o many).2=0->∀vp N W,M.le N->SlA N.A N.w vp 3 (Ff.yW o many).1.length ((Ff.yW o many).1.flatMap pmC)->bT S w0 W (.mem N::L)->K vp W)
  (kf:(Ff.yW o many).2≠0->∀N W,M.le N->bT S w0 W (.mem N::L)->PK [upF (Ff.yW o many).2] W):cR ah 95 #[v,ad (many:Int)] w PK K:=by
 obtain⟨vk,vc,b6,rfl,ha⟩:=hv.open;have H:=Ff.YZ hw;have y:∀x∈(Ff.yD o).1,x.wt<=1000000000:=λx c=>by have:=Ff.abT c;omega
 generalize m:Ff.yW o many=X at Z kf;unfold Ff.yW at m;generalize r:Ff.yD o=D at m H y;obtain⟨l,de⟩:=D;unfold Ff.yD at r;dsimp only at m H y;refine⟨Hn ?_⟩;unfold DM nz;refine eQ o ha.keys.one ha.kids.one b λb1 w1 b=>?_;refine join λJ hJ=>?_;rw[jL b 0 rfl];refine bH b 1 rfl (CE o _ Ff.bS M w1 om (b.hasM 1 rfl) hv) ?_;rintro _ N w2 hle ⟨x,rfl,c⟩ b;obtain⟨xk,xc,rfl,c⟩:=J9 c;simp only[getV,ex];refine dJ b λb3 w3 b=>?_;refine aT 0 c.oneK c.oneC b rfl λw4 b=>?_;have b:bT S w0 w4 (obE b3 ((Vl.get o Ff.bS).getD Vl.ob0) xk xc::obE b1 o vk vc::.mem N::L):=b;have fail:∀{e:Int} {t:Mem} {W:ao},X=([],e)->e≠0->M.le t->bT S w0 W (.mem t::L)->PK [upF e] W:=by
  intro e t W he I g b;rw[he] at kf;exact kf I t W g b
 have main:de=0->∀(t:Mem) (vl:aq) (cs:List aq) (W:ao),M.le t->Ou t vl l cs->bT S w0 W (.mem t::L)->J [vl] W:=by
  intro a1 t vl cs W g p b;rw[auB (by rw[a1];decide)] at m;refine hJ _ _ λ_=>?_;simp only[zY,gd,nz];rw[HQ p];have b:=bT.nilU b 53 3;refine loop (λvs W=>∃(i:Nat) (ov:aq) (z:Mem),vs=[ov,ad (i:Int)]∧i<=l.length∧(∀x∈l.take i,(Ff.L6 x).2=0)∧t.le z∧bT S w0 W (Mn ov ((l.take i).map λx=>(Ff.L6 x).1)::.mem z::L)) (λvs _=>l.length - n1 vs) ⟨0,cI,t,rfl,om,sm,t.le_refl,b⟩ ?_;clear b;rintro vs w6 ⟨i,ov,z,rfl,hi,I,B,b⟩ _;simp only[zA,gd,rs,nz];by_cases n:(i:Int) < (l.length:Int)
  ·simp only[n,auE,i_t];have d:i < l.length:=om
   refine OK (p.le B) d (b.hasM 1 rfl) λT U F=>?_;refine dJ b λV w7 b=>?_;refine aT 0 F.oneK F.oneC b rfl λG b=>?_;rw[jL b 0 rfl];have b:bT S w0 G ([obE V l[i] T U,Mn ov ((l.take i).map λx=>(Ff.L6 x).1)]++([.mem z]++L)):=b;refine apI b.front (by have:=y _ (auS d);omega) F (λe0 u W2 E b=>?_) (λe0 u W2 E b=>?_)
   rotate_left
   ·refine fail (e:=10) ?_ dc ((g.trans B).trans E) (b.sub (.cons_cons _ (.cons _ (.cons _ (azV _)))));rw[auC (ayF.2 ⟨_,auS d,auG (by rw[e0];decide)⟩)] at m;exact m.symm
   have b:bT S w0 W2 ([.mem u,obE V l[i] T U]++([Mn ov ((l.take i).map λx=>(Ff.L6 x).1)]++L)):=b;have b:=b.front;have b:bT S w0 W2 (Mn ov ((l.take i).map λx=>(Ff.L6 x).1)::.mem u::obE V l[i] T U::L):=b;refine adW _ b (by rw[avJ,auM];omega) λC W3 b=>?_
   try simp only[rs]
   rw[aA om om];refine bC ⟨i+1,C,u,rfl,om,?_,B.trans E,?_⟩ (by simp[n1,RowKit.intOf];omega)
   ·rw[avL d];intro x c;rcases avF.1 c with c|c
    ·exact I x c
    ·rw[avD.1 c];exact e0
   ·rw[avL d,avM];exact b.sub (.cons_cons _ (.cons_cons _ (.cons _ (azV _))))
  simp only[n,auF,i_f];have:i=l.length:=om
  subst this;rw[awD] at I b;rw[auB (λh=>by
   obtain⟨x,c,h⟩:=ayF.1 h;exact (auW h) (I x c))] at m
  rw[HQ p];simp only[rs];refine qX (λh=>?_) (λh=>?_)
  rotate_left
  ·have:=avT h;rw[auC om] at m;exact fail m.symm dc (g.trans B) b.tail
  have b7:=auW h;rw[auB om] at m;rw[HQ p];generalize a6:(l.map λx=>(Ff.L6 x).1)=ps at m b;have O:ps.length=l.length:=by rw[<-a6,avJ]
  refine loop (λvs W=>∃(i:Nat) (u:Mem),vs=[ad (i:Int)]∧i<=l.length∧(∀x∈l.take i,Ff.eight x=aw)∧z.le u∧bT S w0 W (Mn ov ps::.mem u::L)) (λvs _=>l.length - n0 vs) ⟨0,z,rfl,om,sm,z.le_refl,b⟩ ?_;clear b;rintro vs w7 ⟨i,u,rfl,hi,h8,E,b⟩ _;simp only[zE,gd,rs,nz];by_cases n:(i:Int) < (l.length:Int)
  ·simp only[n,auE,i_t];have d:i < l.length:=om
   refine OK ((p.le B).le E) d (b.hasM 1 rfl) λT U F=>?_;refine dJ b λV G b=>?_;refine aT 0 F.oneK F.oneC b rfl λw9 b=>?_;rw[jL b 0 rfl];refine bH b 2 rfl (UR l[i] _ u w9 (by have:=y _ (auS d);omega) (b.hasM 2 rfl) F) ?_;rintro _ N4 b9 l4 rfl b;refine qX (λh=>?_) (λh=>?_)
   rotate_left
   ·rw[auC (ayF.2 ⟨_,auS d,by rw[h];rfl⟩)] at m;exact fail m.symm dc (((g.trans B).trans E).trans l4) b.tail.tail
   try simp only[rs]
   rw[aA om om];refine bC ⟨i+1,N4,rfl,om,?_,E.trans l4,b.tail⟩ (by simp[n0,RowKit.intOf];omega);rw[avL d];intro x c;rcases avF.1 c with c|c
   ·exact h8 x c
   ·rw[avD.1 c];exact h
  simp only[n,auF,i_f];have:i=l.length:=om
  subst this;rw[awD] at h8;rw[auB (λh=>by
   obtain⟨x,c,h⟩:=ayF.1 h;rw[h8 x c] at h;cases h)] at m
  refine loop (λvs W=>∃(j:Nat) (ov:aq),vs=[ov]∧l.length+j<=many∧bT S w0 W (Mn ov (ps++List.replicate j Ff.xF)::.mem u::L)) (λvs _=>many - aiJ (vs.getD 0 undef)) ⟨0,ov,rfl,om,by rw[List.replicate_zero,avA];exact b⟩ ?_;clear b;rintro vs G ⟨j,ov,rfl,hj,b⟩ _;have P:(ps++List.replicate j Ff.xF).length=l.length+j:=by rw[auH,avW,O]
  have a7:∃a cap,ov=.slice a (l.length+j) cap:=by
   obtain⟨_,a,cap,h,_⟩:=Sl.urow (b.at_ 0 rfl);exact⟨a,cap,by rw[h,P]⟩
  obtain⟨a,cap,Q⟩:=a7;simp only[Ah,gd,nz];rw[show DoX ah (mB .len #[54] 3 #[au] #[ov]) G=DoX ah (mB .len #[54] 3 #[au] #[.slice a (l.length+j) cap]) G by rw[Q],bW azW];simp only[rs];by_cases n:((l.length+j:Nat):Int) < (many:Int)
  ·simp only[n,auE,i_t];refine aK b (Hg G) ?_;rintro _ w9 rfl b;refine adW _ b (by rw[P];omega) λC W3 b=>?_;have b:bT S w0 W3 (Mn C (ps++List.replicate (j+1) Ff.xF)::.mem u::L):=by
    rw[List.replicate_succ',<-auN];exact b
   have R:(ps++List.replicate (j+1) Ff.xF).length=l.length+(j+1):=by rw[auH,avW,O]
   refine bC ⟨j+1,C,rfl,om,b⟩ ?_;obtain⟨_,a',b5,h',_⟩:=Sl.urow (b.at_ 0 rfl);rw[Q,h',R];show many - (l.length+(j+1)) < many - (l.length+j);omega
  simp only[n,auF,i_f];have a8:j=many - l.length:=om
  subst a8;rw[<-m] at Z;obtain⟨N5,l5,b0,b⟩:=b.bG 0 rfl;exact Z rfl ov N5 G (((g.trans B).trans E).trans l5) b0 b
 cases hg:Vl.get o Ff.bS with
|none=>
  rw[hg] at r;dsimp only at r
  injection r with s q
  subst s;simp only[ayR,rs,i_f];exact main q.symm N cI [] w4 hle (alF N) b.tail.tail
|some f=>
  rw[hg] at r b c;dsimp only at r;rw[ayD] at b c;simp only[azD,i_t];rw[jL b 0 rfl];refine Bm _ c.oneK c.oneC b λnb w5 b=>?_;rw[eG,vE b 1 rfl];simp only[rs];by_cases Y:f.k=6
  ·rw[auC Y] at r
   injection r with s q
   subst s;simp only[Y,auE,i_t];rw[iR,cQ b 1 rfl];obtain⟨cs,p⟩:=NK c;exact main q.symm N xc cs w5 hle p b.tail.tail.tail
  rw[auB Y] at r;simp only[Y,auF,i_f];rw[eG,vE b 1 rfl];simp only[rs];refine qX (λh=>?_) (λh=>?_)
  ·rw[auC (auW h)] at r
   injection r with s q
   subst s;obtain⟨z,B,b2,b4,b⟩:=YK b 2 rfl c;exact main q.symm z _ _ w5 (hle.trans B) ⟨b2,b4⟩ b.tail.tail
  ·rw[auB (avT h)] at r
   injection r with s q
   rw[auC (by rw[<-q];decide)] at m;exact fail m.symm dc hle b.tail.tail.tail
end
end
namespace Eng
theorem Bb {f:FuncId}{o c:Oper}{rest:Code}{args:List aq}{n d2:Nat}{J:List (Nat×List Nat)}{rs:List ResultVar}
  (L:P.funcs[f]?=ay fn) (M:fn.body=ay (.seq (.region id #[o,c] au) rest)) (N:o.op=.call { callee:=.builtin .recover,args:=#[],argTypes:=#[] }) (O:o.guard=ax) (I:o.dst=ay d) (C:Nat.blt d n=aw)
  (D:c.op=.assign (.tmp d)) (E:c.guard=ax) (q:c.dst=ay d2) (r:Nat.blt d2 n=aw)
  (Q:fn.ntmps=n) (F:fn.results.toList=rs) (S:Nat.ble args.length n=aw)
  (h:wpX P n aj J ax rest (topD P rs (λe w'=>R e (CK u) w')) (upd (upd (mP args) d (Ax u)) d2 (Ax u)) [] w):CallsD P f args.toArray u w R:=by
 refine callsD_of_wpS L M λp cs hu=>?_;rw[Q];refine wpS_seq (wpS_region ?_);have hex:∀ρ:Operand->aq,(execOp ρ o).run P w=.ok .recover w:=by
  intro ρ;unfold execOp;rw[N];simp[resolve,invoke,builtin,bind,pure,Sem.bind,Sem.run]
 have s:=Gi (args:=args) S;have b:Rep n (upd (mP args) d (Ax u)) (({ tmps:=args.toArray++Array.replicate (n - args.toArray.size) undef,defers:=[] }:Act).put o.dst (Ax u)).tmps:=by
  rw[I];exact Rep.put (a:={ tmps:=args.toArray++Array.replicate (n - args.toArray.size) undef,defers:=[] }) s (d:=ay d) C (Ax u)
 have g:(({ tmps:=args.toArray++Array.replicate (n - args.toArray.size) undef,defers:=[] }:Act).put o.dst (Ax u)).defers=[]:=by rw[I];rfl
 obtain⟨B,i⟩:∃A,A=({ tmps:=args.toArray++Array.replicate (n - args.toArray.size) undef,defers:=[] }:Act).put o.dst (Ax u):=⟨_,rfl⟩;rw[<-i] at b g;have t:(execOp B.eval c).run P w=.ok (.value (Ax u)) w:=by
  rw[Rep.eval b];unfold execOp;rw[D];simp[rd,upd,pure,Sem.run]
 have key:wpOpsS P #[o,c] (Exit.thenS (rest.wpS P (bodyPostS P fn p cs R)) (bodyPostS P fn p cs R)) [1] B ({ p with mode:=CK u }::cs) w:=by
  unfold wpOpsS;simp only[aBh,avR,ayW];rw[auC (by simp[Region.wanted,E]),t];simp only[Oper.upon];have j:Rep n (upd (upd (mP args) d (Ax u)) d2 (Ax u)) (B.put c.dst (Ax u)).tmps:=by
   rw[q];exact Rep.put b (d:=ay d2) r (Ax u)
  have k:(B.put c.dst (Ax u)).defers=[]:=by rw[q];exact g
  refine wpS_of_wp (Code.wp_mono ?_ (wpIn_wide.1 (ED rest ax _ _ _ w j (by rw[k];exact h))));rintro e a w' ⟨σ,T,l⟩;have y:∀K:Ending->ao->Prop,RetD P (LW σ rs) w' K->∃v,(results fn a.tmps).run P w'=.ok v w'∧K (.returned v) w':=λK l=>by
   rw[Cv T,F];exact I2 l
  generalize m:a.defers=ds at l;cases e<;>cases ds<;>first|(exact l.elim;done)|skip
  ·obtain⟨v,G,H⟩:=y (λe w'=>R e (CK u) w') l;exact⟨m,CK u,rfl,v,G,H⟩
  ·obtain⟨v,G,H⟩:=y (λe w'=>R e (CK u) w') l;exact⟨m,CK u,rfl,v,G,H⟩
  ·exact⟨m,CK u,rfl,l⟩
 have e:=rec_eq p cs;rw[hu] at e;show wpOpsS P #[o,c] _ [0,1] _ (p::cs) w;unfold wpOpsS;simp only[aBh,ayW];rw[auC (by simp[Region.wanted,O])];rw[hex];cases z:recoverD (p::cs) with
|none=>
  rw[z] at e;simp only[ayJ] at e;simp only;rw[e.1,e.2,<-i];exact key
|some x=>
  obtain⟨v,U⟩:=x;rw[z] at e;simp only[ayJ] at e;simp only;rw[e.1,e.2,<-i];exact key
end Eng
section
open Eng
def eA(w)(K:KT):=
 K (.returned (.tuple #[])) w
def wV(c a b d w)(K:KT):=
 DrawX w (λw=>(fax 120 d 0 w K λe w=>(ldx 35 e w K λf w=>stx 22 c (.slice ax 0 0) w K λ_ w=>stx 54 a (.slice ax 0 0) w K λ_ w=>stx 35 b f w K λ_ w=>eA w K)∧(stx 22 c (.slice ax 0 0) w K λ_ w=>(ldx 35 e w K λh w=>stx 54 a (.slice ax 0 0) w K λ_ w=>stx 35 b h w K λ_ w=>eA w K)∧(stx 54 a (.slice ax 0 0) w K λ_ w=>ldx 35 e w K λi w=>stx 35 b i w K λ_ w=>eA w K)))∧(stx 22 c (.slice ax 0 0) w K λ_ w=>(fax 120 d 0 w K λg w=>(ldx 35 g w K λj w=>stx 54 a (.slice ax 0 0) w K λ_ w=>stx 35 b j w K λ_ w=>eA w K)∧(stx 54 a (.slice ax 0 0) w K λ_ w=>ldx 35 g w K λk w=>stx 35 b k w K λ_ w=>eA w K))∧(stx 54 a (.slice ax 0 0) w K λ_ w=>fax 120 d 0 w K λl w=>ldx 35 l w K λm w=>stx 35 b m w K λ_ w=>eA w K)))
def jA(c d e r w)(K:KT):=
 eqx .neq 20 (.tmp 7) (.const .nilIface) r .nilIface w K λf w=>IfX f (dx (mTA r 20 120 aw) w K λa w=>exx a 0 w K λg w=>exx a 1 w K λh w=>alx 120 w K λb w=>stx 120 b g w K λ_ w=>Fq (λj=>dx (mUn .not h) w K λi w=>IfX i (dx (H6 r) w K λ_ w=>j [] w) (j [] w)) (λk w=>∀_:Sg,wV c d e b w K)) (K (.returned (.tuple #[])) w)
theorem Gm (t0 t1 t2 r:aq)(w:ao)(K:Ending->ao->Prop):wpX ah 19 [(5,[])] [] ax (aaV (CX f91)) (topD ah [] K) (upd (upd (mP [t0,t1,t2]) 6 r) 3 r) [] w=jA t0 t1 t2 r w K:=krx
theorem kO {t1 t2:aq}(h:jA t0 t1 t2 (Ax u) w (λe w=>R e (CK u) w)):CallsD ah 91 #[t0,t1,t2] u w R:=
 Bb func91 rfl rfl rfl rfl rfl rfl rfl rfl rfl rfl rfl rfl (Eq.mpr (Gm t0 t1 t2 (Ax u) w _) h)
end
section
open Eng Go.RowKit
namespace Ff
def names (o:Ob):List (List UInt8)×Int:=
 if (Jx o).any (λx=>ai (x.k≠5))=aw then ([],10)
 else if 8 < (Jx o).length then ([],6)
 else if (Jx o).any (λx=>ai (full x.s=[]))=aw then ([],15)
 else ((Jx o).map (λx=>full x.s),0)
def of (o:Ob):List (List UInt8)×List Pm×Int:=
 if o.k≠9 then ([],[],10)
 else if (names o).2≠0 then ([],[],(names o).2)
 else if (yW o (names o).1.length).2≠0 then ([],[],(yW o (names o).1.length).2)
 else if (yW o (names o).1.length).1.any (λx=>!decide x.ok)=aw then ([],[],1)
 else ((names o).1,(yW o (names o).1.length).1,0)
theorem OY {o:Ob}{n:Nat}(h:(yW o n).2=0):(yW o n).1.length=n:=by
 unfold yW at h ⊢;by_cases a:(yD o).2≠0
 ·rw[auC a] at h;cases h
 rw[auB a] at h ⊢;by_cases b:(yD o).1.any (λx=>ai ((L6 x).2≠0))=aw
 ·rw[auC b] at h;cases h
 rw[auB b] at h ⊢;by_cases c:n < (yD o).1.length
 ·rw[auC c] at h;cases h
 rw[auB c] at h ⊢;by_cases d:(yD o).1.any (λx=>!eight x)=aw
 ·rw[auC d] at h;cases h
 rw[auB d];simp only[auH,avJ,avW];omega
theorem Ye {o:Ob}:(names o).1.length<=8:=by
 unfold names
 repeat' split
 all_goals first|exact avG _|(simp only[avJ];omega)
end Ff
theorem Jp:cW ah 91=true:=krx
theorem Z3:eS ah 54=true:=krx
theorem anZ:nN ah 120 0=ay 0:=krx
theorem aqJ:(Tryz.prog.info? 120).map (·.size)=ay 1:=krx
abbrev ofC (a b2 b3 b:Nat)(o:Ob)(vk vc vn vp:aq)(e:Int):List Ent:=[.cells b [ad e] 35,.cells b3 [vp] 54,.cells b2 [vn] 22,obE a o vk vc]
theorem Yr (o:Ob)(v:aq)(M:Mem)(w:ao)(hw:o.wt<=1000000000)(hM:M.has w)(hv:OV M.A M.w v o) :
  jR ah 48 #[v] M w (λr N=>∃vn vp,r=.tuple #[vn,vp,ad (Ff.of o).2.2]∧SlA N.A N.w vn 1 (Ff.of o).1.length (bI (Ff.of o).1)∧SlA N.A N.w vp 3 (Ff.of o).2.1.length ((Ff.of o).2.1.flatMap pmC)):=by
 obtain⟨vk,vc,b9,rfl,ha⟩:=hv.open;refine bB hM λK hK=>Ly ?_;generalize f:Ff.of o=X at hK;unfold Ff.of at f;unfold KJ iN dx alx;refine eQ o ha.keys.one ha.kids.one (bT.memS hM) λz w1 c=>?_;refine bK (λb=>af b 0) [cI] 22 (λ_=>by kernel_rfl) c λb2 w2 c=>?_;refine bK (λb=>af b 0) [cI] 54 (λ_=>by kernel_rfl) c λb3 w3 c=>?_;refine bK (λb=>af b 0) [ad 0] 35 (λ_=>by kernel_rfl) c λg w4 c=>?_;have c:bT M.A w w4 (ofC z b2 b3 g o vk vc cI cI 0++([.mem M]++[])):=c;have c:=c.front;have c:bT M.A w w4 (.mem M::ofC z b2 b3 g o vk vc cI cI 0):=c;rw[tZ];refine⟨_,rfl,?_⟩
 -- c0 end with an error
 have q:∀{W:ao} {N:Mem} {e:Int} {R:List Ent},bT M.A w W (.mem N::(ofC z b2 b3 g o vk vc cI cI e++R))->M.le N->X=([],[],e) ->
   Bw ah [.cell (af b2 0) 22,.cell (af b3 0) 54,.cell (af g 0) 35] W K:=by
  intro W N e R c hle d;refine SH (bJ (AtV.cell QU (c.cell 3 rfl 0 rfl))) (bJ (AtV.cell Z3 (c.cell 2 rfl 0 rfl))) (bJ (AtV.cell JB (c.cell 1 rfl 0 rfl))) (hK _ _ N _ 0 c rfl hle ⟨cI,cI,by rw[d],by rw[d];exact SlA.nil _ _ _ _,by rw[d];exact SlA.nil _ _ _ _⟩)
 have fail:∀{W:ao} {N:Mem} {e:Int} {vn vp:aq},bT M.A w W (.mem N::ofC z b2 b3 g o vk vc vn vp 0)->M.le N->X=([],[],e) ->
   aE { target:=.fn (.func 91) #[af b2 0,af b3 0,af g 0],args:=#[]++#[] } (af b2 0) (af b3 0) (af g 0) K [upF e] W:=by
  intro W N e vn vp c hle d;show pd ah _ K _ [upF e] W;unfold pd;refine qR sm Jp (kO (t0:=af b2 0) (t1:=af b3 0) (t2:=af g 0) ?_);simp only[jA,Ax,CK,upF,Eng.adM azE,rs,Z1 aoY,ex,i_t,i_f,dx,exx,stx,eqx,alx];refine bK (λb=>af b 0) [ad 0] 120 (λ_=>by kernel_rfl) c λb7 w5 c=>?_;refine jH 0 c rfl (new:=[ad e]) aqJ (λu hu=>by rw[avD.1 hu];rfl) rfl λT c=>?_;have c:bT M.A w T (.cells b7 [ad e] 120::.mem N::ofC z b2 b3 g o vk vc vn vp 0):=c;refine join λJ hJ=>?_
  try simp only[awA,i_f]
  refine hJ _ _ λ_=>?_;unfold wV ldx fax stx;refine⟨?_⟩;have c:=c.drew
  repeat' first
  |apply And.intro
  |refine aD (bE anZ) |>.mpr ?_
  |refine aD (aB JB (c.cell 0 rfl 0 rfl)) |>.mpr ?_
  |refine aO 4 c rfl krx rfl sm (λ_ c=>?_)
  |refine aO 3 c rfl krx rfl sm (λ_ c=>?_)
  |refine aO 2 c rfl krx rfl sm (λ_ c=>?_)
  all_goals
   unfold eA;exact q (R:=[]) c.tail hle d
 rw[eG,vE c 4 rfl];simp only[rs];refine qX (λV=>?_) (λV=>?_)
 rotate_left
 ·rw[auC (avT V)] at f;exact fail c M.le_refl f.symm
 have V:=auW V;rw[auB (λh=>h V)] at f;rw[jL c 4 rfl];have c1:=Ff.Sn hw;have c2:Ff.names o=Ff.names o:=rfl;generalize n:Ff.names o=Nn at f;unfold Ff.names at n;refine XA c hw hv (λh5 vl N w5 D E c=>?_) (λh5 N w5 D c=>?_)
 rotate_left
 ·have:(Ff.Jx o).any (λx=>ai (x.k≠5))=true:=by
   refine ayF.2 (Classical.byContradiction λhc=>h5 λx d=>Classical.byContradiction λh=>hc ⟨x,d,auG h⟩)
  rw[auC this] at n;rw[<-n,auC dc] at f;exact fail c D f.symm
 rw[auB (λh=>by
  obtain⟨x,d,h⟩:=ayF.1 h;exact (auW h) (h5 x d))] at n
 have hlen:∀{W:ao} {PK:PKT} {K:VWP},DoX ah (mB .len #[22] 3 #[au] #[vl]) W PK K=K (ad (((Ff.Jx o).map Ob.s).length:Int)) W:=λ{_ _ _}=>by
  obtain⟨a,cap,rfl,_⟩:=E.form;exact bW auR
 rw[hlen];simp only[rs];refine qX (λC=>?_) (λC=>?_)
 rotate_left
 ·have C:=avT C;rw[avJ] at C;rw[auC om] at n;rw[<-n,auC dc] at f;exact fail c D f.symm
 have C:=auW C;rw[auB (by rw[avJ] at C;omega)] at n;rw[hlen];generalize Y:(Ff.Jx o).map Ob.s=l at E hlen C;have Z:∀{p:List UInt8->Bool},(Ff.Jx o).any (λx=>p x.s)=l.any p:=λ{p}=>by rw[<-Y,List.any_map];rfl
 have a1:(Ff.Jx o).map (λx=>Ff.full x.s)=l.map Ff.full:=by rw[<-Y,aAi];rfl
 rw[Z (p:=λx=>ai (Ff.full x=[])),a1] at n;have c:=bT.nilU c 9 1;refine loop (λvs W=>∃(i:Nat) (ov:aq),vs=[ad (i:Int)]∧i<=l.length∧(∀x∈l.take i,Ff.full x≠[])∧bT M.A w W (stsE ov ((l.take i).map Ff.full)::.mem N::ofC z b2 b3 g o vk vc ov cI 0)) (λvs _=>l.length - n0 vs) ⟨0,cI,rfl,om,sm,c⟩ ?_;clear c;rintro vs T ⟨i,ov,rfl,hi,hf,c⟩ _;simp only[EL,gd,rs,iN];by_cases t:(i:Int) < (l.length:Int)
 ·simp only[t,auE,i_t];have j:i < l.length:=om
  obtain⟨p,F,G⟩:=NO E j;rw[aD (F T),aD (G T (c.hasM 1 rfl))];refine BJ (KC l[i] T) ?_;simp only[ex];refine qX (λh=>?_) (λh=>?_)
  rotate_left
  ·have h:=Decidable.not_not.1 (avT h);rw[auC (ayF.2 ⟨_,auS j,auG h⟩)] at n;rw[<-n,auC dc] at f;exact fail c.tail D f.symm
  have h:Ff.full l[i]≠[]:=auW h;rw[aJ QU (c.cell 4 rfl 0 rfl)];refine XG _ c (by rw[avJ,auM];omega) λa6 W2 c=>?_;have H:a6.oneCell'=true:=nS (Sl.urow (c.at_ 0 rfl));refine aO 4 c rfl krx H sm λw7 c=>?_
  try simp only[rs]
  rw[aA om om];refine⟨rfl,?_⟩;refine bC ⟨i+1,a6,rfl,om,?_,?_⟩ (by simp[n0,RowKit.intOf];omega)
  ·rw[avL j];intro x d;rcases avF.1 d with d|d
   ·exact hf x d
   ·rw[avD.1 d];exact h
  ·rw[avL j,avM];exact c
 simp only[t,auF,i_f];have:i=l.length:=om
 subst this;rw[awD] at hf c;rw[auB (λh=>by
  obtain⟨x,d,h⟩:=ayF.1 h;exact hf x d (auW h))] at n
 subst n;dsimp only at f;rw[auB dc] at f;generalize a7:l.map Ff.full=ns at f c;have b6:ns.length=l.length:=by rw[<-a7,avJ]
 have b8:∀x∈ns,x≠[]:=by
  rw[<-a7];intro x d;obtain⟨y,I,rfl⟩:=avN.1 d;exact hf y I
 rw[jL c 5 rfl];rw[hlen,<-b6];obtain⟨N2,l2,m,c⟩:=c.bG 0 rfl;have c:bT M.A w T (.mem N2::ofC z b2 b3 g o vk vc ov cI 0):=c;have L:=@Ff.OY o ns.length;generalize hP:Ff.yW o ns.length=P at f L;refine aaM (many:=ns.length) c hw om ((hv.le D).le l2) (λU vp N3 w7 l3 B c=>?_) (λU N3 w7 l3 c=>?_)
 rotate_left
 ·rw[hP] at U ⊢;rw[auC U] at f;exact fail c ((D.trans l2).trans l3) f.symm
 rw[hP] at U B;have L:=L U;rw[auB (λh=>h U)] at f;have a8:vp.oneCell'=true:=B.one;refine aO 2 c rfl krx a8 sm λw8 c=>?_;have c:bT M.A w w8 (.mem N3::ofC z b2 b3 g o vk vc ov vp 0):=c;rw[aJ QU (c.cell 3 rfl 0 rfl)];have hle:=(D.trans l2).trans l3;have m:=m.le l3;have O:∀{W:ao} {PK:PKT} {K:VWP},DoX ah (mB .len #[22] 3 #[au] #[ov]) W PK K=K (ad (ns.length:Int)) W:=λ{_ _ _}=>by
  obtain⟨a,cap,rfl,_⟩:=m.form;exact bW auR
 rw[O];refine loop (λvs W=>∃i:Nat,vs=[ad (i:Int)]∧i<=ns.length∧(∀x∈P.1.take i,x.ok)∧bT M.A w W (.mem N3::ofC z b2 b3 g o vk vc ov vp 0)) (λvs _=>ns.length - n0 vs) ⟨0,rfl,om,sm,c⟩ ?_;clear c;rintro vs w9 ⟨i,rfl,hi,Q,c⟩ _;simp only[Fa,gd,rs,iN,etx];by_cases t:(i:Int) < (ns.length:Int)
 ·simp only[t,auE,i_t];have j:i < ns.length:=om
  have S:i < P.1.length:=om
  obtain⟨p,F,G⟩:=NO m j;rw[aD (F w9),aD (G w9 (c.hasM 0 rfl)),aJ Z3 (c.cell 2 rfl 0 rfl)];obtain⟨p2,b0,b5⟩:=pmAt B S;rw[aD (b0 w9),aD (b5 w9 (c.hasM 0 rfl))];refine aK c (MA P.1[i] w9) ?_;rintro _ c3 rfl c;simp only[eC];by_cases d:P.1[i].ok
  ·rw[auC d];simp only[show ai ((0:Int)≠0)=au from rfl,rs,i_f];rw[aA om om];refine⟨rfl,?_⟩;refine bC ⟨i+1,rfl,om,?_,c⟩ (by simp[n0,RowKit.intOf];omega);rw[avL S];intro y I;rcases avF.1 I with I|I
   ·exact Q y I
   ·rw[avD.1 I];exact d
  ·rw[auB d];rw[auC (ayF.2 ⟨_,auS S,by simp[d]⟩)] at f;have hn:=b8 _ (auS j);simp only[show ai ((1:Int)≠0)=aw from rfl,rs]
   try simp only[rs]
   rw[auG hn]
   try simp only[rs]
   try rw[i_t]
   refine aO 3 c rfl krx rfl sm λc4 c=>?_;refine aO 2 c rfl krx rfl sm λc5 c=>?_;refine aO 1 c rfl krx rfl sm λc6 c=>?_;refine qR sm Jp (kO (t0:=af b2 0) (t1:=af b3 0) (t2:=af g 0) ?_);simp only[jA,Ax,CK,Eng.ajI azE,i_f,dx,exx,stx,eqx,alx];exact q (R:=[]) c hle f.symm
 simp only[t,auF,i_f];have:i=ns.length:=om
 subst this;rw[avE om] at Q;rw[auB (λh=>by
  obtain⟨x,d,h⟩:=ayF.1 h;have:=Q x d;simp[this] at h)] at f
 have fin:∀{W:ao},bT M.A w W (.mem N3::ofC z b2 b3 g o vk vc ov vp 0) ->
   mE (af b2 0) (af b3 0) (af g 0) { target:=.fn (.func 91) #[af b2 0,af b3 0,af g 0],args:=#[]++#[] } W K:=by
  intro W c;unfold mE;refine qR sm Jp (kO (t0:=af b2 0) (t1:=af b3 0) (t2:=af g 0) ?_);simp only[jA,Ax,CK,Eng.ajI azE,i_f,dx,exx,stx,eqx,alx];refine SH (bJ (AtV.cell QU (c.cell 3 rfl 0 rfl))) (bJ (AtV.cell Z3 (c.cell 2 rfl 0 rfl))) (bJ (AtV.cell JB (c.cell 1 rfl 0 rfl))) ?_;exact hK _ _ N3 _ 0 c rfl hle ⟨ov,vp,by rw[<-f],by rw[<-f];exact m,by rw[<-f];exact B⟩
 have H:ov.oneCell'=true:=m.one;refine⟨?_⟩;have c:=c.drew
 repeat' first
 |exact fin c
 |apply And.intro
 |refine aD (aB QU (c.cell 3 rfl 0 rfl)) |>.mpr ?_
 |refine aD (aB Z3 (c.cell 2 rfl 0 rfl)) |>.mpr ?_
 |refine aO 3 c rfl krx H sm (λ_ c=>?_)
 |refine aO 2 c rfl krx a8 sm (λ_ c=>?_)
 |refine aO 1 c rfl krx rfl sm (λ_ c=>?_)
end
end Go.Proofs.YtlgndjkieegnaaaGreatDoor

namespace Go.Proofs.YtlgndjkieegnaaaGreatDoor
variable{K:VWP}{L:List Eng.Ent}{M:Eng.Mem}{P:Program}{PK PK2:PKT}{R:Ending->FrameMode->ao->Prop}{S:Nat->Prop}{W w w0:ao}{a colors:Int}{above key:List UInt8}{aj:List (Nat×List Nat)}{b cap d i id j:Nat}{cb:Array Bool}{cs:List aq}{e:Eng.Ent}{fn:Func}{o:Ob}{os:List Ob}{q:Bool}{t0 v va vc vk:aq}{u:FrameMode}{t0 t1 t2 t3:aq}{k0:Eng.KT}
section
open Go
def dt (tag:Int)(above row:List UInt8)(colors:Int):List UInt8:=(List.range row.length).map λi=>row.getD i 0 - ey tag above row (i:Int) colors
theorem jn {tag:Int}{row:List UInt8}:(dt tag above row colors).length=row.length:=by simp[dt]
theorem uf {tag:Int}{row:List UInt8}(h:i < row.length):(dt tag above row colors)[i]?=ay (row[i] - ey tag above row (i:Int) colors):=by
 simp[dt,h,auK]
theorem uh {tag:Int}{above row:List UInt8}{colors:Int}(a:1<=colors):∀(k i:Nat),row.length=i+k->ej tag above colors (row.take i) ((dt tag above row colors).drop i)=row
|0,i,h=>by
  rw[aAa (by rw[jn];omega),avE om];rfl
|k+1,i,h=>by
  have hi:i < row.length:=om
  have b:(row.take i).length=i:=by rw[auM];omega
  have e:(dt tag above row colors).drop i=(row[i] - ey tag above row (i:Int) colors)::(dt tag above row colors).drop (i+1):=by
   rw[avX (by rw[jn];exact hi)]
   congr 1
   have:=uf (tag:=tag) (above:=above) (colors:=colors) hi;rw[auO (by rw[jn];exact hi)] at this;exact axN this
  have c:ey tag above row (i:Int) colors=ey tag above (row.take i) (i:Int) colors:=by
   have:=ua (tag:=tag) (above:=above) (p:=row.take i) (r:=row.drop i) (colors:=colors) a;rw[avV,b] at this;exact this
  rw[e,ej,b,c];have e2:row[i] - ey tag above (row.take i) (i:Int) colors+ey tag above (row.take i) (i:Int) colors=row[i]:=UInt8.sub_add_cancel _ _;rw[e2,<-avL hi];exact uh a k (i+1) om
def ft (T:List UInt8->List UInt8->Nat)(c:Int)(n h:Nat):Nat->List UInt8->List UInt8->List UInt8
|0,_,_=>[]
|f+1,s,prev=>if s=[] then [] else (if h=1 then [UInt8.ofNat (T prev (s.take n))] else [])++(dt (T prev (s.take n):Nat) prev (s.take n) c++ft T c n h f (s.drop n) (s.take n))
theorem qu {T:List UInt8->List UInt8->Nat}{c:Int}{n h:Nat}(g:0 < n)(d:h=0∨h=1):∀(k f:Nat) (s prev:List UInt8),s.length=k*n->s.length < f->(ft T c n h f s prev).length=k*(n+h)
|_,0,_,_,_,i=>by omega
|0,f+1,s,prev,a,_=>by
  have:s=[]:=axZ.1 om;unfold ft;rw[auC this];simp
|k+1,f+1,s,prev,a,i=>by
  rw[awS] at a;have b:s≠[]:=λe=>by rw[e] at a;simp at a;omega
  have lt:(s.take n).length=n:=by rw[auM];omega
  have j:(s.drop n).length=s.length - n:=auT;unfold ft;rw[auB b,auH,auH,jn,lt,qu g d k f (s.drop n) (s.take n) om om,awS];rcases d with rfl|rfl
  ·rw[auB dc];simp;omega
  ·rw[auC rfl];simp;omega
theorem ui {T:List UInt8->List UInt8->Nat}{c:Int}{n h:Nat}(o:1<=c)(u:0 < n)(p:h=0∨h=1)(q:∀a b,T a b<=4)(i:h=0->∀a b,T a b=1) :
  ∀(k f g:Nat) (s prev out:List UInt8),s.length=k*n->s.length < f->k < g->ky c n h g (ft T c n h f s prev) prev out=(out++s,0)
|_,0,_,_,_,_,_,v,_=>by omega
|_,_,0,_,_,_,_,_,w=>by omega
|0,f+1,g+1,s,prev,out,j,_,_=>by
  have:s=[]:=axZ.1 om;unfold ft;rw[auC this,this];unfold ky;rw[auC (show ([]:List UInt8).length=0 from rfl),avA]
|k+1,f+1,g+1,s,prev,out,j,v,w=>by
  rw[awS] at j;have l:s≠[]:=λe=>by rw[e] at j;simp at j;omega
  have x:s.take n++s.drop n=s:=avV ..
  have lt:(s.take n).length=n:=by rw[auM];omega
  have B:(s.drop n).length=s.length - n:=auT;unfold ft;rw[auB l];have r:=ui o u p q i k f g (s.drop n) (s.take n) (out++s.take n) om om om;rw[auN,x] at r;rw[<-r];have hle:(dt (T prev (s.take n):Nat) prev (s.take n) c).length=n:=by rw[jn,lt]
  have d:=uh (tag:=(T prev (s.take n):Nat)) (above:=prev) (row:=s.take n) o n 0 om;rw[axY,axB] at d
  conv=>lhs;unfold ky
  have C:=q prev (s.take n);rcases p with rfl|rfl
  ·have y:=i rfl prev (s.take n);rw[y] at d hle ⊢;have m:(if (0:Nat)=1 then [UInt8.ofNat 1] else [])++(dt ((1:Nat):Int) prev (s.take n) c++ft T c n 0 f (s.drop n) (s.take n))=dt ((1:Nat):Int) prev (s.take n) c++ft T c n 0 f (s.drop n) (s.take n):=rfl;rw[m,auB (by rw[auH];omega)];dsimp only;rw[auB (show ¬(0:Nat)=1 by decide),auB dc,axB,awF,awK hle,aAz hle];have z:ej ((1:Nat):Int) prev c [] (dt ((1:Nat):Int) prev (s.take n) c)=s.take n:=d;rw[z]
  ·rw[auC rfl];have m:([UInt8.ofNat (T prev (s.take n))]++(dt (T prev (s.take n):Nat) prev (s.take n) c++ft T c n 1 f (s.drop n) (s.take n))).getD 0 0=UInt8.ofNat (T prev (s.take n)):=rfl;have A:(UInt8.ofNat (T prev (s.take n))).toNat=T prev (s.take n):=by rw[ayE,awB om]
   have t:([UInt8.ofNat (T prev (s.take n))]++(dt (T prev (s.take n):Nat) prev (s.take n) c++ft T c n 1 f (s.drop n) (s.take n))).drop 1=dt (T prev (s.take n):Nat) prev (s.take n) c++ft T c n 1 f (s.drop n) (s.take n):=rfl;rw[auB (by rw[auH,awM];omega)];dsimp only;rw[auC rfl,m,A,auB om,t,awK hle,aAf n 1,<-ayM,t,aAz hle,d]
def fh (l:List UInt8):Nat:=(l.map λc=>min c.toNat (256 - c.toNat)).sum
def jq (above row:List UInt8)(c:Int):Nat->Nat×Nat
|0=>(0,fh (dt 0 above row c))
|k+1=>if fh (dt ((k+1:Nat):Int) above row c) < (jq above row c k).2 then (k+1,fh (dt ((k+1:Nat):Int) above row c)) else jq above row c k
def qc (above row:List UInt8)(c:Int):Nat:=(jq above row c 4).1
theorem uj (above row:List UInt8)(c:Int):∀k,(jq above row c k).1<=k
|0=>auL _
|k+1=>by
  have:=uj above row c k;unfold jq;split
  ·exact auL _
  ·omega
def ly (p c:Int)(above row:List UInt8):Nat:=if p=2 then 1 else if p=15 then qc above row c else (p - 10).toNat
theorem yr {p:Int}(h:p=2∨(10<=p∧p<=15))(c:Int)(a b:List UInt8):ly p c a b<=4:=by
 unfold ly;split
 ·omega
 ·split
  ·exact uj a b c 4
  ·omega
end
end Go.Proofs.YtlgndjkieegnaaaGreatDoor
