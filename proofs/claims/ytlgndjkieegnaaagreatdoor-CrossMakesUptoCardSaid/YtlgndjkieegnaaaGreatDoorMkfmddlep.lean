/- Parts of the proof. -/
import Derived.Test.YtlgndjkieegnaaaGreatDoorRows
import Derived.Test.YtlgndjkieegnaaaGreatDoorMgokndlkf
set_option linter.all false
set_option maxRecDepth 20000
open Go.Proofs.Tryz
open Go.Proofs.Tryz renaming prog->ah
open Option renaming some->ay,none->ax
open Bool renaming true->aw,false->au
open Go renaming Value->aq,World->ao
open Decidable renaming decide->ai
namespace Go.Proofs.YtlgndjkieegnaaaGreatDoor
variable{A:Nat->Prop}{B Sy cl counts l near:List Nat}{C:ao->Prop}{M N:Eng.Mem}{P:Program}{W w:ao}{args ca fa:Array aq}{b cap d f fb i j jm m most p t:Nat}{cb:Array Bool}{cs:List aq}{cv v va:aq}{α:Type}{t0 t1 t2 t3 t4:aq}{k0:Eng.KT}
section
open Go
def br (l:List Nat)(i:Nat):Nat:=
 l.getD (8*i) 0+2*l.getD (8*i+1) 0+4*l.getD (8*i+2) 0+8*l.getD (8*i+3) 0+16*l.getD (8*i+4) 0+32*l.getD (8*i+5) 0+64*l.getD (8*i+6) 0+128*l.getD (8*i+7) 0
def bf (l:List Nat):List UInt8:=(List.range ((l.length+7) / 8)).map λi=>UInt8.ofNat (br l i)
def bg (v n:Nat):List Nat:=(List.range n).map λi=>v / 2 ^ i % 2
def bp (l:List Nat):Prop:=∀b∈l,b < 2
theorem bt (v n:Nat):(bg v n).length=n:=by simp[bg]
theorem eh (v n:Nat):bp (bg v n):=by
 intro b a;obtain⟨i,_,rfl⟩:=avN.1 a;exact axU _ dc
theorem im (h:bp l)(i:Nat):l.getD i 0 < 2:=by
 rw[auK];cases a:l[i]? with
|none=>decide
|some b=>exact h b (ayC a)
theorem yt (h:bp l)(i:Nat):br l i < 256:=by
 unfold br;have a:=im h (8*i);have b:=im h (8*i+1);have c:=im h (8*i+2);have d:=im h (8*i+3);have e:=im h (8*i+4);have f:=im h (8*i+5);have g:=im h (8*i+6);have j:=im h (8*i+7);omega
theorem lz (l:List Nat):(bf l).length=(l.length+7) / 8:=by simp[bf]
theorem I0 (h:i < (l.length+7) / 8):(bf l).getD i 0=UInt8.ofNat (br l i):=by
 rw[auK];simp[bf,h]
theorem yu (h:bp l)(i j:Nat)(a:j < 8):br l i / 2 ^ j % 2=l.getD (8*i+j) 0:=by
 unfold br;have b:=im h (8*i);have c:=im h (8*i+1);have d:=im h (8*i+2);have e:=im h (8*i+3);have f:=im h (8*i+4);have g:=im h (8*i+5);have k:=im h (8*i+6);have m:=im h (8*i+7);rcases (by omega:j=0∨j=1∨j=2∨j=3∨j=4∨j=5∨j=6∨j=7) with rfl|rfl|rfl|rfl|rfl|rfl|rfl|rfl<;>(try simp only[awF])<;>omega
theorem qv (h:bp l)(p:Nat):Fl.bit (bf l) p=l.getD p 0:=by
 unfold Fl.bit;by_cases hp:p / 8 < (l.length+7) / 8
 ·have a:=yt h (p / 8);rw[I0 hp,ayE,awB (show br l (p / 8) < 2 ^ 8 from a),yu h _ _ (axU _ dc),show 8*(p / 8)+p % 8=p by omega]
 ·have b:(bf l).getD (p / 8) 0=0:=by
   rw[auK,awV (by rw[lz];omega)];rfl
  have c:l.getD p 0=0:=by
   rw[auK,awV om];rfl
  rw[b,c];simp
theorem um {l:List Nat}(h:bp l)(p v:Nat):∀n,(∀i,i < n->l.getD (p+i) 0=v / 2 ^ i % 2)->Fl.num (bf l) p n=v % 2 ^ n
|0,_=>by rw[Fl.num,Nat.pow_zero,Nat.mod_one]
|n+1,a=>by
  rw[Fl.num,um h p v n (λi hi=>a i om),qv h,a n om,Nat.mod_pow_succ,axH]
theorem yw {a b:List Nat}{v n:Nat}(h:bp (a++bg v n++b))(c:v < 2 ^ n):Fl.num (bf (a++bg v n++b)) a.length n=v:=by
 rw[um h a.length v n,awB c];intro i hi;rw[auK,auN,awW om,aAc,awR (by rw[bt];exact hi)];simp[bg,hi]
theorem bu {a b:List Nat}(c:bp a)(d:bp b):bp (a++b):=λx e=>(avF.1 e).elim (c x) (d x)
end
def iz (v n:Nat):List Nat:=(List.range n).map λi=>v / 2 ^ (n - 1 - i) % 2
theorem uo (v n:Nat):(iz v n).length=n:=by simp[iz]
theorem yx (v n:Nat):bp (iz v n):=by
 intro b a;obtain⟨i,_,rfl⟩:=avN.1 a;exact axU _ dc
def dp (lens:List Nat)(i:Nat):List Nat:=iz (cr lens i) (lens.getD i 0)
theorem fo (lens:List Nat)(i:Nat):(dp lens i).length=lens.getD i 0:=uo ..
theorem lr (lens:List Nat)(i:Nat):bp (dp lens i):=yx _ _
theorem uq (lens:List Nat):∀l,l < 15->(Fl.first lens (l+1)+lens.count (l+1))*2 ^ (15 - (l+1))=Fl.iS lens (l+1)
|0,_=>by simp[Fl.first,Fl.iS]
|l+1,h=>by
  have a:=uq lens l om;rw[Fl.iS,<-a,Fl.first,axE]
  congr 1
  rw[show 15 - (l+1)=(15 - (l+1+1))+1 by omega,awT,axH 2,azR,axH 2]
theorem J0 (lens:List Nat){a:Nat}(h:a<=b):Fl.iS lens a<=Fl.iS lens b:=by
 induction b with
|zero=>
  have:a=0:=om
  subst this;exact auL _
|succ b c=>
  rcases avI a (b+1) with d|d
  ·have:=c om;rw[Fl.iS];omega
  ·have:a=b+1:=om
   subst this;exact auL _
theorem ur (lens:List Nat):∀l,Fl.iS lens l<=Fl.bN lens l*2 ^ 15
|0=>by simp[Fl.iS]
|l+1=>by
  have a:=ur lens l;rw[Fl.iS,Fl.bN,axE];have:lens.count (l+1)*2 ^ (15 - (l+1))<=lens.count (l+1)*2 ^ 15:=aAQ _ (awL dc om);omega
theorem uu {lens:List Nat}(h:Fl.check lens=0):Fl.iS lens 15<=2 ^ 15:=by
 unfold Fl.check at h;split at h
 ·rename_i a
  have:=ur lens 15;rcases a with a|a|a
  ·omega
  ·rw[a] at this;omega
  ·rw[a.1] at this;omega
 ·cases h
theorem uv {lens:List Nat}(h:bn lens=0):Fl.check lens=0:=by
 unfold bn at h;split at h
 ·cases h
 ·exact h
theorem No {lens:List Nat}(h:Fl.iS lens 15<=2 ^ 15){n:Nat}(d:0 < n)(a:n<=15):Fl.first lens n+lens.count n<=2 ^ n:=by
 obtain⟨l,rfl⟩:∃l,n=l+1:=⟨n - 1,om⟩;have b:=uq lens l om;have e:=J0 lens a;have c:(Fl.first lens (l+1)+lens.count (l+1))*2 ^ (15 - (l+1))<=2 ^ (l+1)*2 ^ (15 - (l+1)):=by
  rw[b,<-Nat.pow_add,show l+1+(15 - (l+1))=15 by omega];omega
 exact Nat.le_of_mul_le_mul_right c (aAR _)
theorem uw (lens:List Nat)(l:Nat):∀k,(Fl.first lens (l+1)+lens.count (l+1))*2 ^ (k+1)<=Fl.first lens (l+1+(k+1))
|0=>by
  show _<=2*(Fl.first lens (l+1)+lens.count (l+1));omega
|k+1=>by
  have a:=uw lens l k;rw[show l+1+(k+1+1)=(l+1+k)+2 by omega,Fl.first,awT,<-azR];rw[show l+1+(k+1)=l+1+k+1 by omega] at a;omega
theorem ux {lens:List Nat}(hi:i < lens.length):(lens.take i).count (lens.getD i 0) < lens.count (lens.getD i 0):=by
 have h:lens=lens.take i++lens.drop i:=(avV i lens).symm;have a:lens.drop i=lens.getD i 0::lens.drop (i+1):=by
  rw[avX hi,auK,auO hi];rfl
 have e:lens.count (lens.getD i 0)=(lens.take i++lens.getD i 0::lens.drop (i+1)).count (lens.getD i 0):=by rw[<-a,<-h]
 rw[e,ayT,List.count_cons_self];omega
theorem N0 {lens:List Nat}(hi:i < lens.length):(kx lens (lens.getD i 0)).getD ((lens.take i).count (lens.getD i 0)) 0=i:=by
 unfold kx;obtain⟨m,hm⟩:∃m,lens.length=i+(m+1):=⟨lens.length - i - 1,om⟩;have e:((List.range i).filter λj=>ai (lens.getD j 0=lens.getD i 0)).length=(lens.take i).count (lens.getD i 0):=by
  have h:=ql (lens.take i) (lens.getD i 0);rw[<-h];unfold kx;rw[auM,avO om]
  congr 1
  refine List.filter_congr λj a=>?_;rw[auK,auK (l:=lens.take i),axK,auC (awH.1 a)]
 rw[hm,List.range_add,aA1,auK,awW om,e,axL,List.range_succ_eq_map,avS,aAd,awF];simp
theorem uy {lens:List Nat}(h:Fl.iS lens 15<=2 ^ 15)(b:∀l∈lens,l<=15)(hi:0 < lens.getD i 0):cr lens i < 2 ^ lens.getD i 0:=by
 have a:i < lens.length:=by
  rcases avI i lens.length with h|h
  ·exact h
  ·rw[auK,awV h] at hi;exact absurd hi (azH _)
 have hm:lens.getD i 0∈lens:=by rw[auK,auO a];exact auS ..
 unfold cr;rw[auB om];have c:=ux a;have d:=No h hi (b _ hm);omega
theorem uz {a x b:List Nat}(hi:i < x.length):(a++x++b).getD (a.length+i) 0=x.getD i 0:=by
 rw[auK,auN,awW om,aAc,awR hi,auK]
theorem vd {v n:Nat}(hi:i < n):(iz v n).getD i 0=v / 2 ^ (n - 1 - i) % 2:=by
 rw[auK];simp[iz,hi]
theorem ve (l:List Nat):l.length<=8*(bf l).length:=by rw[lz];omega
theorem OF {lens:List Nat}(h:Fl.iS lens 15<=2 ^ 15)(p:∀l∈lens,l<=15)(hi:0 < lens.getD i 0){a b:List Nat}(n:bp (a++dp lens i++b)) :
  ∀(k l f:Nat),lens.getD i 0=l+(k+1)->k < f ->
   iw lens (bf (a++dp lens i++b)) f l (a.length+l) (cr lens i / 2 ^ (k+1))=(i,a.length+lens.getD i 0,0):=by
 have m:i < lens.length:=by
  rcases avI i lens.length with h|h
  ·exact h
  ·rw[auK,awV h] at hi;exact absurd hi (azH _)
 have hm:lens.getD i 0∈lens:=by rw[auK,auO m];exact auS ..
 have o:=p _ hm;have d:=ux m;have hlen:=ve (a++dp lens i++b);simp only[auH,fo] at hlen;intro k
 induction k with
|zero=>
  intro l f j s;obtain⟨f,rfl⟩:∃g,f=g+1:=⟨f - 1,om⟩;have hu:Fl.bN lens l < Fl.bN lens (l+1):=by rw[Fl.bN];rw[j,auP] at d;omega
  have q:=nc lens (a:=l+1) (b:=15) om;have e:Fl.bit (bf (a++dp lens i++b)) (a.length+l)=cr lens i % 2:=by
   rw[qv n,uz (by rw[fo];omega)];unfold dp;rw[vd om,show lens.getD i 0 - 1 - l=0 by omega,Nat.pow_zero,Nat.div_one]
  have r:2*(cr lens i / 2 ^ (0+1))+cr lens i % 2=cr lens i:=by
   have:(2:Nat) ^ (0+1)=2:=rfl;rw[this];omega
  have c:cr lens i=Fl.first lens (l+1)+(lens.take i).count (l+1):=by
   unfold cr;rw[auB om,j]
  rw[j,auP] at d;unfold iw;rw[auB om,auB om,e,r,auC (by rw[c];omega),show cr lens i - Fl.first lens (l+1)=(lens.take i).count (l+1) by rw[c];omega,G0 om d];have:=N0 m;rw[j] at this;rw[this,j];rfl
|succ k t=>
  intro l f j s;obtain⟨f,rfl⟩:∃g,f=g+1:=⟨f - 1,om⟩;have hu:Fl.bN lens l < Fl.bN lens (lens.getD i 0):=by
   have:=nc lens (a:=l) (b:=l+(k+1)) om;rw[j] at d ⊢;rw[show l+(k+1+1)=(l+(k+1))+1 by omega] at d ⊢;rw[Fl.bN];omega
  have q:=nc lens (a:=lens.getD i 0) (b:=15) o;have e:Fl.bit (bf (a++dp lens i++b)) (a.length+l)=cr lens i / 2 ^ (k+1) % 2:=by
   rw[qv n,uz (by rw[fo];omega)];unfold dp;rw[vd om,show lens.getD i 0 - 1 - l=k+1 by omega]
  have r:2*(cr lens i / 2 ^ (k+1+1))+cr lens i / 2 ^ (k+1) % 2=cr lens i / 2 ^ (k+1):=by
   rw[awT 2 (k+1),<-axM];omega
  have u:=uw lens l k;have c:Fl.first lens (l+1+(k+1))<=cr lens i:=by
   unfold cr;rw[auB om,j,show l+1+(k+1)=l+(k+1+1) by omega];omega
  have v:Fl.first lens (l+1)+lens.count (l+1)<=cr lens i / 2 ^ (k+1):=(Nat.le_div_iff_mul_le (aAR _)).2 om
  unfold iw;rw[auB om,auB om,e,r,auB om];exact t (l+1) f om om
theorem O0 {lens:List Nat}(h:bn lens=0)(c:∀l∈lens,l<=15)(hi:0 < lens.getD i 0){a b:List Nat}(d:bp (a++dp lens i++b)) :
  du lens (bf (a++dp lens i++b)) a.length=(i,a.length+lens.getD i 0,0):=by
 have e:=uu (uv h);have f:=uy e c hi;have hm:lens.getD i 0<=15:=by
  rcases avI i lens.length with h|h
  ·exact c _ (by rw[auK,auO h];exact auS ..)
  ·rw[auK,awV h];exact avG _
 have:=OF e c hi d (lens.getD i 0 - 1) 0 16 om om;rw[show lens.getD i 0 - 1+1=lens.getD i 0 by omega,Nat.div_eq_of_lt f] at this;exact this
def lu (group:Nat):Nat->Nat->Nat->Nat->Nat×Nat×Nat
|0,n,sign,bits=>(sign+n / 2 ^ bits,n % 2 ^ bits,bits)
|f+1,n,sign,bits=>if group*2 ^ bits<=n then lu group f (n - group*2 ^ bits) (sign+group) (bits+1) else (sign+n / 2 ^ bits,n % 2 ^ bits,bits)
def jt (n a group:Nat):Nat×Nat×Nat:=if n < a then (n,0,0) else lu group 20 (n - a) a 1
def bz (size:Nat):Nat×Nat×Nat:=if size=258 then (285,0,0) else (257+(jt (size - 3) 8 4).1,(jt (size - 3) 8 4).2)
def dr (d:Nat):Nat×Nat×Nat:=jt (d - 1) 4 2
def rz (n:Nat):Bool:=let r:=bz (n+3);ai (257<=r.1)&&ai (r.1<=285)&&ai (fm (r.1 - 257)=r.2.2)&&ai (ji (r.1 - 257)+r.2.1=n+3)&&ai (r.2.1 < 2 ^ r.2.2)&&ai (r.2.2<=5)
theorem mn {n:Nat}(j:3<=n)(h:n<=258):257<=(bz n).1∧(bz n).1<=285∧fm ((bz n).1 - 257)=(bz n).2.2∧ji ((bz n).1 - 257)+(bz n).2.1=n∧(bz n).2.1 < 2 ^ (bz n).2.2∧(bz n).2.2<=5:=by
 have i:(List.range 256).all rz=true:=by decide +kernel
 have g:=axJ.1 i (n - 3) (awH.2 om);unfold rz at g;rw[show n - 3+3=n by omega] at g;simp only[auY,avK] at g;obtain⟨⟨⟨⟨⟨a,b⟩,c⟩,d⟩,e⟩,f⟩:=g;exact⟨a,b,c,d,e,f⟩
theorem sd (n:Nat):∀(f k:Nat),2 ^ (k+1)<=n->n < 2 ^ (k+f+2) ->
  ∃m,k<=m∧2 ^ (m+1)<=n∧n < 2 ^ (m+2)∧lu 2 f (n - 2 ^ (k+1)) (2+2*k) k=(2+2*m+(n - 2 ^ (m+1)) / 2 ^ m,(n - 2 ^ (m+1)) % 2 ^ m,m)
|0,k,h,e=>⟨k,auL _,h,e,rfl⟩
|f+1,k,h,e=>by
  have e1:2 ^ (k+2)=2*2 ^ (k+1):=by rw[awT];omega
  have i:2 ^ (k+1)=2*2 ^ k:=by rw[awT];omega
  unfold lu;by_cases g:2*2 ^ k<=n - 2 ^ (k+1)
  ·rw[auC g];obtain⟨m,a,b,c,d⟩:=sd n f (k+1) (by rw[show k+1+1=k+2 by omega];omega) (by rw[show k+1+f+2=k+(f+1)+2 by omega];exact e);refine⟨m,om,b,c,?_⟩;rw[<-d,show n - 2 ^ (k+1) - 2*2 ^ k=n - 2 ^ (k+1+1) by rw[show k+1+1=k+2 by omega];omega,show 2+2*k+2=2+2*(k+1) by omega]
  ·rw[auB g];exact⟨k,auL _,h,om,rfl⟩
def qd (m:Nat):Bool:=ai (fg (2+2*m)=1+2 ^ (m+1))&&ai (fg (2+2*m+1)=1+2 ^ (m+1)+2 ^ m)
theorem ng (s:1<=d)(h:d<=32768):(dr d).1<=29∧dw (dr d).1=(dr d).2.2∧fg (dr d).1+(dr d).2.1=d∧(dr d).2.1 < 2 ^ (dr d).2.2∧(dr d).2.2<=13:=by
 unfold dr jt;by_cases k:d - 1 < 4
 ·rw[auC k];rcases (by omega:d=1∨d=2∨d=3∨d=4) with rfl|rfl|rfl|rfl<;>decide
 ·rw[auB k];obtain⟨m,a,b,c,e⟩:=sd (d - 1) 20 1 om (by have:(2:Nat) ^ (1+20+2)=8388608:=rfl;omega);have hm:m<=13:=by
   rcases avI m 14 with l|l
   ·omega
   ·have:=awL (n:=2) dc (show 15<=m+1 by omega);have o:(2:Nat) ^ 15=32768:=rfl;omega
  have p:lu 2 20 (d - 1 - 4) 4 1=lu 2 20 (d - 1 - 2 ^ (1+1)) (2+2*1) 1:=rfl;rw[p,e];have t:2 ^ (m+1)=2*2 ^ m:=by rw[awT];omega
  have u:2 ^ (m+2)=4*2 ^ m:=by rw[awT,awT];omega
  have pp:=aAR m;have g:(List.range 14).all qd=true:=by decide +kernel
  have g:=axJ.1 g m (awH.2 om);unfold qd at g;rw[auY,avK,avK] at g;have i:=Nat.div_add_mod (d - 1 - 2 ^ (m+1)) (2 ^ m);have f:=axU (d - 1 - 2 ^ (m+1)) pp;have j:(d - 1 - 2 ^ (m+1)) / 2 ^ m < 2:=(Nat.div_lt_iff_lt_mul pp).2 om;generalize (d - 1 - 2 ^ (m+1)) / 2 ^ m=q at i j ⊢;generalize (d - 1 - 2 ^ (m+1)) % 2 ^ m=r at i f ⊢;rcases (by omega:q=0∨q=1) with rfl|rfl
  ·refine⟨by show 2+2*m+0<=29;omega,by show (2+2*m+0) / 2 - 1=m;omega,?_,f,hm⟩;show fg (2+2*m)+r=d;rw[g.1];omega
  ·refine⟨by show 2+2*m+1<=29;omega,by show (2+2*m+1) / 2 - 1=m;omega,?_,f,hm⟩;show fg (2+2*m+1)+r=d;rw[g.2];omega
def fl (l:List Nat)(p:Nat)(x:List Nat):Prop:=∃a b,l=a++x++b∧p=a.length
theorem fl.fst {x y:List Nat}(h:fl l p (x++y)):fl l p x:=by
 obtain⟨a,b,rfl,rfl⟩:=h;exact⟨a,y++b,by simp[auN],rfl⟩
theorem fl.snd {x y:List Nat}(h:fl l p (x++y)):fl l (p+x.length) y:=by
 obtain⟨a,b,rfl,rfl⟩:=h;exact⟨a++x,b,by simp[auN],sm⟩
theorem fl.le {x:List Nat}(h:fl l p x):p+x.length<=8*(bf l).length:=by
 obtain⟨a,b,rfl,rfl⟩:=h;have:=ve (a++x++b);simp only[auH] at this;omega
theorem fl.num {l:List Nat}{p v n:Nat}(h:fl l p (bg v n))(c:bp l)(d:v < 2 ^ n):Fl.num (bf l) p n=v:=by
 obtain⟨a,b,rfl,rfl⟩:=h;exact yw c d
theorem fl.sign {l:List Nat}{p i:Nat}{lens:List Nat}(h:fl l p (dp lens i))(c:bp l)(e:bn lens=0)(d:∀l∈lens,l<=15)(hi:0 < lens.getD i 0):du lens (bf l) p=(i,p+lens.getD i 0,0):=by
 obtain⟨a,b,rfl,rfl⟩:=h;exact O0 e d hi c
abbrev bo:=UInt8×Nat×Nat
def gr (out:List UInt8)(x:bo):List UInt8:=if x.2.1=0 then out++[x.1] else ir x.2.2 x.2.1 out
def fu (out:List UInt8)(l:List bo):List UInt8:=l.foldl gr out
def gu (n:Nat)(x:bo):Prop:=if x.2.1=0 then x.2.2=0 else x.1=0∧3<=x.2.1∧x.2.1<=258∧1<=x.2.2∧x.2.2<=32768∧x.2.2<=n
def iq:Nat->List bo->Prop
|_,[]=>True
|n,x::l=>gu n x∧iq (n+max x.2.1 1) l
theorem oh {out:List UInt8}{x:bo}:(gr out x).length=out.length+max x.2.1 1:=by
 unfold gr;by_cases h:x.2.1=0
 ·rw[auC h,h];simp
 ·rw[auB h,tp];omega
theorem vf:∀(l:List bo) (out:List UInt8),out.length<=(fu out l).length
|[],out=>auL _
|x::l,out=>by
  have:=vf l (gr out x);rw[oh] at this;show out.length<=(fu (gr out x) l).length;omega
def ff (near far:List Nat)(x:bo):List Nat:=
 if x.2.1=0 then dp near x.1.toNat
 else dp near (bz x.2.1).1++(bg (bz x.2.1).2.1 (bz x.2.1).2.2++(dp far (dr x.2.2).1++bg (dr x.2.2).2.1 (dr x.2.2).2.2))
def ez (near far:List Nat)(x:bo):Prop:=
 if x.2.1=0 then 0 < near.getD x.1.toNat 0 else 0 < near.getD (bz x.2.1).1 0∧0 < far.getD (dr x.2.2).1 0
def dh (near far:List Nat)(l:List bo):List Nat:=l.flatMap (ff near far)++dp near 256
theorem vh (near far:List Nat)(x:bo):bp (ff near far x):=by
 unfold ff;split
 ·exact lr _ _
 ·exact bu (lr _ _) (bu (eh _ _) (bu (lr _ _) (eh _ _)))
theorem vi (near far:List Nat)(l:List bo):bp (dh near far l):=by
 refine bu (λb a=>?_) (lr _ _);obtain⟨x,_,c⟩:=azP.1 a;exact vh near far x b c
theorem vj {near far:List Nat}(s:bn near=0)(w:bn far=0)(d:∀l∈near,l<=15)(h:∀l∈far,l<=15)(i:0 < near.getD 256 0){B:List Nat}(a:bp B){most:Nat} :
  ∀(l:List bo) (p:Nat) (out:List UInt8) (f:Nat),(∀x∈l,ez near far x)->iq out.length l->fl B p (dh near far l)->(fu out l).length<=most->l.length < f ->
   jy near far (bf B) most f p out=(fu out l,p+(dh near far l).length,0)
|[],p,out,f,_,_,b,hm,j=>by
  obtain⟨f,rfl⟩:∃g,f=g+1:=⟨f - 1,by simp at j;omega⟩;have b:fl B p (dp near 256):=b;unfold jy;simp only[b.sign a s d i];rw[auB sm,auB om,auC trivial];show (out,_,_)=(out,p+(dp near 256).length,0);rw[fo]
|x::l,p,out,f,z,A,b,hm,j=>by
  obtain⟨f,rfl⟩:∃g,f=g+1:=⟨f - 1,by simp at j;omega⟩;have j:l.length < f:=by simp at j;omega
  have k:=z x (avQ ..);have e:dh near far (x::l)=ff near far x++dh near far l:=by
   unfold dh;rw[awZ,auN]
  rw[e] at b;have m:=b.fst;have u:=b.snd;have o:(fu (gr out x) l).length<=most:=hm;have v:=axO (vf l (gr out x)) o;have c:=A.1;have q:=A.2;rw[<-oh] at q;have n:=vj s w d h i a l (p+(ff near far x).length) (gr out x) f (λy C=>z y (auZ _ C)) q u o j;have fin:fu (gr out x) l=fu out (x::l):=rfl;rw[fin] at n;rw[e,auH,<-awU,<-n]
  conv=>lhs;unfold jy
  unfold ez at k;unfold ff at m u n ⊢;unfold gu at c;rw[oh] at v;unfold gr at n ⊢;by_cases t:x.2.1=0
  ·rw[auC t] at k c;simp only[auC t] at m n ⊢;have D:x.1.toNat < 256:=x.1.toNat_lt;simp only[m.sign a s d k];rw[auB sm,auC D,auB om,fo,UInt8.ofNat_toNat]
  ·rw[auB t] at k c;simp only[auB t] at m u n ⊢;obtain⟨s1,s2,E,F,G,L⟩:=mn c.2.1 c.2.2.1;obtain⟨f1,f2,f3,f4,f5⟩:=ng c.2.2.2.1 c.2.2.2.2.1;have H:=m.fst;have a2:=m.snd;rw[fo] at a2;have a3:=a2.snd;rw[bt] at a3;have a4:=a3.snd;rw[fo] at a4;have n2:=a2.fst.num a G;have I:=a4.num a f4;have J:=a2.fst.le;have K:=a4.le;rw[bt] at J K;have g3:=a3.fst.sign a w h k.2;simp only[H.sign a s d k.1];have r:dz far (bf B) (p+near.getD (bz x.2.1).1 0) (bz x.2.1).1 out most=(ir x.2.2 x.2.1 out,p+near.getD (bz x.2.1).1 0+(bz x.2.1).2.2+far.getD (dr x.2.2).1 0+(dr x.2.2).2.2,0):=by
    unfold dz;rw[auB om,E,auB om,n2,F];simp only[g3];rw[auB sm,auB om,f2,auB om,I,f3,auB om,auB om]
   simp only[r];rw[auB sm,auB om,auB om,auB sm]
   congr 1
   simp only[auH,fo,bt];omega
theorem vm {near far:List Nat}:∀{l:List bo},(∀x∈l,ez near far x)->0 < near.getD 256 0->l.length+1<=(dh near far l).length
|[],_,h=>by
  show 1<=(dp near 256).length;rw[fo];exact h
|x::l,b,h=>by
  have f:=vm (λy d=>b y (auZ _ d)) h;have a:=b x (avQ ..);have e:dh near far (x::l)=ff near far x++dh near far l:=by
   unfold dh;rw[awZ,auN]
  have:1<=(ff near far x).length:=by
   unfold ff;unfold ez at a;by_cases c:x.2.1=0
   ·rw[auC c] at a ⊢;rw[fo];exact a
   ·rw[auB c] at a ⊢;rw[auH,fo];omega
  rw[e,auH,auX];omega
theorem vo {far:List Nat}(g:bn near=0)(h:bn far=0)(b:∀l∈near,l<=15)(c:∀l∈far,l<=15)(a:0 < near.getD 256 0)(e:bp B){l:List bo}
  (f:∀x∈l,ez near far x) (i:iq 0 l) (d:fl B p (dh near far l)) (hm:(fu [] l).length<=most) :
  gf near far (bf B) most p []=(fu [] l,p+(dh near far l).length,0):=by
 have j:=vm f a;have k:=d.le;exact vj g h b c a e l p [] _ f i d hm om
def fx (s:List UInt8):List Nat:=s.flatMap λc=>bg c.toNat 8
theorem qw:∀s:List UInt8,(fx s).length=8*s.length
|[]=>rfl
|c::s=>by
  have:=qw s;unfold fx at this ⊢;rw[awZ,auH,this,bt,auX];omega
theorem se (s:List UInt8):bp (fx s):=λb a=>by
 obtain⟨c,_,d⟩:=azP.1 a;exact eh _ _ b d
theorem yy {a b:List Nat}{k:Nat}(h:a.length=8*k)(hi:i < k):br (a++b) i=br a i:=by
 have e:∀j,j < 8->(a++b).getD (8*i+j) 0=a.getD (8*i+j) 0:=λj c=>by
  rw[auK,awR om,auK]
 unfold br;rw[e 1 om,e 2 om,e 3 om,e 4 om,e 5 om,e 6 om,e 7 om,show (a++b).getD (8*i) 0=a.getD (8*i) 0 from e 0 om]
theorem yz {a b:List Nat}{k:Nat}(h:a.length=8*k):br (a++b) (k+i)=br b i:=by
 have e:∀j,(a++b).getD (8*(k+i)+j) 0=b.getD (8*i+j) 0:=λj=>by
  rw[auK,awW om,auK,show 8*(k+i)+j - a.length=8*i+j by omega]
 unfold br;rw[e 1,e 2,e 3,e 4,e 5,e 6,e 7,show (a++b).getD (8*(k+i)) 0=b.getD (8*i) 0 from e 0]
theorem mq {a b:List Nat}{k:Nat}(h:a.length=8*k):bf (a++b)=bf a++bf b:=by
 unfold bf;rw[auH,h,show (8*k+b.length+7) / 8=k+(b.length+7) / 8 by omega,show (8*k+7) / 8=k by omega,List.range_add,avM,aAi]
 congr 1
 ·refine azY λi hi=>?_;rw[yy h (awH.1 hi)]
 ·refine azY λi _=>?_;show UInt8.ofNat (br (a++b) (k+i))=_;rw[yz h]
theorem za:∀n:Fin 256,bf (bg n.val 8)=[UInt8.ofNat n.val]:=by decide +kernel
theorem xy (c:UInt8):bf (bg c.toNat 8)=[c]:=by
 have:=za ⟨c.toNat,c.toNat_lt⟩;rw[this,UInt8.ofNat_toNat]
theorem oo (b:List Nat):∀s:List UInt8,bf (fx s++b)=s++bf b
|[]=>rfl
|c::s=>by
  have e:fx (c::s)=bg c.toNat 8++fx s:=by unfold fx;rw[awZ]
  rw[e,auN,mq (k:=1) (bt _ _),oo b s,xy];rfl
theorem fl.raw {l:List Nat}{p k:Nat}{s:List UInt8}(h:fl l p (fx s))(hp:p=8*k):((bf l).drop k).take s.length=s:=by
 obtain⟨a,b,rfl,rfl⟩:=h;have c:(bf a).length=k:=by rw[lz,hp];omega
 rw[auN,mq hp,oo,ayN,c,axL,axB,aAa om,avU,aAJ,axL,axY,avA,awD]
def fy (l:List Nat):List Nat:=l++List.replicate ((8 - l.length % 8) % 8) 0
theorem ou (l:List Nat):(fy l).length=8*((l.length+7) / 8):=by
 unfold fy;rw[auH,avW];omega
theorem vq (l:List Nat):bf (fy l)=bf l:=by
 have e:∀j,(fy l).getD j 0=l.getD j 0:=λj=>by
  unfold fy;rw[auK,auK];rcases avI j l.length with h|h
  ·rw[awR h]
  ·rw[awW h,awV (l:=l) h,aAu];split<;>rfl
 unfold bf;rw[ou,show (8*((l.length+7) / 8)+7) / 8=(l.length+7) / 8 by omega];refine azY λi _=>?_;unfold br;rw[e,e,e,e,e,e,e,e]
theorem sf (h:bp l):bp (fy l):=bu h λb a=>by rw[axV a];decide
def ja (R:List Nat)(s:List UInt8):Prop:=∀(L:List Nat) (most:Nat),bp L->fl L 0 R->s.length<=most->kh (bf L) most (8*(bf L).length+1) 0 []=(s,(R.length+7) / 8,0)
theorem P0 {R:List Nat}{s t:List UInt8}(h:ja R s)(a:bp R){most:Int}(hm:(s.length:Int)<=most)(b:s.length<=1048576):ki (bf R++t) most=(s,(bf R).length,0):=by
 have e:bf R++t=bf (fy R++fx t):=by
  have:bf (fx t)=t:=by
   have:=oo [] t;rw[avA] at this;rw[this];exact avA _
  rw[mq (ou R),vq,this]
 unfold ki;rw[auB om,e,h _ _ (bu (sf a) (se t)) ⟨[],List.replicate ((8 - R.length % 8) % 8) 0++fx t,by unfold fy;simp,rfl⟩ om,lz]
def kj (last n:Nat)(s:List UInt8):List Nat:=bg last 1++(bg 0 2++(List.replicate 5 0++(bg n 16++(bg (65535 - n) 16++fx s))))
def ix:Nat->List UInt8->List Nat
|0,_=>[]
|f+1,s=>if s.length<=65535 then kj 1 s.length s else kj 0 65535 (s.take 65535)++ix f (s.drop 65535)
theorem km (last n:Nat)(s:List UInt8):(kj last n s).length=40+8*s.length:=by
 unfold kj;simp only[auH,bt,avW,qw];omega
theorem pr (last n:Nat)(s:List UInt8):bp (kj last n s):=
 bu (eh _ _) (bu (eh _ _) (bu (λb a=>by rw[axV a];decide) (bu (eh _ _) (bu (eh _ _) (se _)))))
theorem si:∀(f:Nat) (s:List UInt8),bp (ix f s)
|0,_=>λb a=>by cases a
|f+1,s=>by
  unfold ix;split
  ·exact pr _ _ _
  ·exact bu (pr _ _ _) (si f _)
theorem vt {L:List Nat}{k last:Nat}{s out:List UInt8}(h:fl L (8*k) (kj last s.length s))(a:bp L)(i:last < 2)(j:s.length<=65535)(hm:out.length+s.length<=most) :
  8*k+1<=8*(bf L).length∧Fl.num (bf L) (8*k) 1=last∧dn (bf L) most (8*k+1) out=(out++s,8*k+(kj last s.length s).length,0):=by
 have hle:=h.le;rw[km] at hle ⊢;unfold kj at h;have b:=h.snd;rw[bt] at b;have c:=b.snd.snd;rw[bt,avW] at c;have d:=c.snd;rw[bt] at d;have e:=d.snd;rw[bt] at e;have n1:=b.fst.num a dc;have n2:=c.fst.num a om;have n3:=d.fst.num a om;have f:=e.raw (k:=k+5) om;refine⟨om,h.fst.num a om,?_⟩;unfold dn;rw[auB om,n1,auC rfl];unfold ev;dsimp only;have g:(8*k+1+2+7) / 8*8=8*k+1+2+5:=om
 rw[g,auB om,auB om,n2,n3,auB om,auB om,auB om,show (8*k+1+2+5) / 8+4=k+5 by omega,f]
 congr 2
 omega
theorem vu:∀(f:Nat) (s:List UInt8) (L:List Nat) (k:Nat) (out:List UInt8) (most g:Nat),s.length < f*65535->fl L (8*k) (ix f s)->bp L->out.length+s.length<=most->f<=g ->
  kh (bf L) most g (8*k) out=(out++s,k+((ix f s).length+7) / 8,0)
|0,s,L,k,out,most,g,i,_,_,_,_=>by omega
|f+1,s,L,k,out,most,g,i,h,a,hm,n=>by
  obtain⟨g,rfl⟩:∃j,g=j+1:=⟨g - 1,om⟩;unfold ix at h ⊢;unfold kh;by_cases c:s.length<=65535
  ·rw[auC c] at h ⊢;obtain⟨l,b2,b3⟩:=vt h a dc c hm;rw[auB om];simp only[b3,b2];rw[auB sm,auC trivial]
   congr 2
   omega
  ·rw[auB c] at h ⊢;have b:(s.take 65535).length=65535:=by rw[auM];omega
   have d:=h.fst
   conv at d=>arg 3;arg 2;rw[<-b]
   obtain⟨l,b2,b3⟩:=vt (out:=out) (most:=most) d a dc om om;have e:=h.snd;rw[km,b] at e;rw[b,km,b] at b3;rw[auB om];simp only[b3,b2];rw[auB sm,auB dc];have o:(s.drop 65535).length=s.length - 65535:=auT;have m:=vu f (s.drop 65535) L (k+65540) (out++s.take 65535) most g om (by rw[show 8*(k+65540)=8*k+(40+8*65535) by omega];exact e) a (by rw[auH];omega) om;rw[show 8*k+(40+8*65535)=8*(k+65540) by omega,m,auN,avV,auH,km,b]
   congr 2
   omega
theorem sj:∀(f:Nat) (s:List UInt8),s.length < f*65535->s.length<=(ix f s).length
|0,s,h=>by omega
|f+1,s,h=>by
  unfold ix;by_cases a:s.length<=65535
  ·rw[auC a,km];omega
  ·have c:(s.drop 65535).length=s.length - 65535:=auT;have b:(s.take 65535).length=65535:=by rw[auM];omega
   have d:=sj f (s.drop 65535) om;rw[auB a,auH,km,b];omega
def gm (s:List UInt8):List Nat:=ix (s.length / 65535+1) s
theorem Q0 (s:List UInt8):bp (gm s):=si _ _
theorem R0 (s:List UInt8):ja (gm s) s:=by
 intro L most b a hm;unfold gm at a ⊢;have d:=a.le;have c:s.length < (s.length / 65535+1)*65535:=om
 have e:=sj _ s c;have:=vu _ s L 0 [] most (8*(bf L).length+1) c a b (by simpa using hm) om;simpa using this
def il (l:List bo):List Nat:=bg 1 1++(bg 1 2++dh cy dj l)
theorem zb (l:List bo):bp (il l):=bu (eh _ _) (bu (eh _ _) (vi _ _ _))
def zh (i:Nat):Bool:=ai (0 < cy.getD i 0)
theorem ow (h:i < 288):0 < cy.getD i 0:=by
 have a:(List.range 288).all zh=true:=by decide +kernel
 exact auW (axJ.1 a i (awH.2 h))
theorem T0 (h:i < 32):0 < dj.getD i 0:=by
 unfold dj;rw[auK,aAu,auC h];decide
theorem ni:∀l∈cy,l<=15:=by
 have a:cy.all (λl=>ai (l<=15))=true:=by decide +kernel
 exactλl b=>auW (axJ.1 a l b)
theorem ox:∀l∈dj,l<=15:=λl a=>by rw[axV a];decide
theorem mi:∀{l:List bo} {n:Nat},iq n l->∀x∈l,∃m,gu m x
|y::l,n,h,x,a=>by
  rcases auI.1 a with rfl|a
  ·exact⟨n,h.1⟩
  ·exact mi h.2 x a
theorem vv {l:List bo}{n:Nat}(h:iq n l):∀x∈l,ez cy dj x:=by
 intro x d;obtain⟨m,hm⟩:=mi h x d;unfold gu at hm;unfold ez;by_cases c:x.2.1=0
 ·rw[auC c];have:=x.1.toNat_lt;exact ow om
 ·rw[auB c] at hm ⊢;have a:=mn hm.2.1 hm.2.2.1;have b:=ng hm.2.2.2.1 hm.2.2.2.2.1;exact⟨ow om,T0 om⟩
theorem vw {R x:List Nat}{s:List UInt8}(d:R=bg 1 1++x)(h:∀(L:List Nat) (most:Nat),bp L->fl L 1 x->s.length<=most->1<=8*(bf L).length->dn (bf L) most 1 []=(s,1+x.length,0)):ja R s:=by
 subst d;intro L most b a hm;have c:=a.snd;rw[bt] at c;have hle:=a.fst.le;rw[bt] at hle;unfold kh;rw[auB om];simp only[auP,h L most b (by simpa using c) hm om,a.fst.num b dc];rw[auB sm,auC trivial]
 congr 2
 rw[auH,bt]
theorem U0 {l:List bo}(h:iq 0 l):ja (il l) (fu [] l):=by
 refine vw rfl λL most b a hm hle=>?_;have d:=a.fst.le;have c:=a.snd;rw[bt] at d c;unfold dn;rw[auB om,a.fst.num b dc,auB dc,auC rfl,vo ny od ni ox (ow dc) b (vv h) h (by simpa using c) hm]
 congr 2
 rw[auH,bt];omega
abbrev bw:=Nat×Nat×Nat
def fj (acc:List Nat)(m:bw):List Nat:=if m.1 < 16 then acc++[m.1] else acc++List.replicate (dy m.1+m.2.1) (if m.1=16 then acc.getD (acc.length - 1) 0 else 0)
def gw (acc:List Nat)(m:bw):Prop:=if m.1 < 16 then m.2.1=0∧m.2.2=0 else m.1<=18∧m.2.2=cu m.1∧m.2.1 < 2 ^ m.2.2∧(m.1=16->0 < acc.length)
def fe (acc:List Nat)(l:List bw):List Nat:=l.foldl fj acc
def jd:List Nat->List bw->Prop
|_,[]=>True
|acc,m::l=>gw acc m∧jd (fj acc m) l
theorem vx (acc:List Nat)(l:List bw)(m:bw):fe acc (l++[m])=fj (fe acc l) m:=by unfold fe;rw[aAy];rfl
theorem qx:∀{l:List bw} {acc:List Nat} {m:bw},jd acc l->gw (fe acc l) m->jd acc (l++[m])
|[],_,_,_,h=>⟨h,trivial⟩
|_::_,_,_,h,a=>⟨h.1,qx h.2 a⟩
def ku (cl:List Nat)(m:bw):List Nat:=dp cl m.1++bg m.2.1 m.2.2
def gj (cl:List Nat)(l:List bw):List Nat:=l.flatMap (ku cl)
theorem zj (cl:List Nat)(m:bw):bp (ku cl m):=bu (lr _ _) (eh _ _)
theorem vy (cl:List Nat)(l:List bw):bp (gj cl l):=λb a=>by
 obtain⟨x,_,c⟩:=azP.1 a;exact zj cl x b c
theorem V0 (g:Nat):3<=dy g:=by unfold dy;split<;>omega
theorem sn (acc:List Nat)(m:bw):acc.length < (fj acc m).length:=by
 have:=V0 m.1;unfold fj;split<;>simp<;>omega
theorem mr:∀(l:List bw) (acc:List Nat),acc.length+l.length<=(fe acc l).length
|[],_=>auL _
|m::l,acc=>by
  have a:=mr l (fj acc m);have b:=sn acc m;show acc.length+(l.length+1)<=(fe (fj acc m) l).length;omega
theorem vz {cl:List Nat}(v:bn cl=0)(r:∀l∈cl,l<=15){B:List Nat}(c:bp B){n:Nat} :
  ∀(l:List bw) (p:Nat) (acc:List Nat) (f:Nat),(∀m∈l,0 < cl.getD m.1 0)->jd acc l->fl B p (gj cl l)->(fe acc l).length=n->l.length < f ->
   jz cl (bf B) n f p acc=(fe acc l,p+(gj cl l).length,0)
|[],p,acc,f,_,_,_,t,o=>by
  obtain⟨f,rfl⟩:∃g,f=g+1:=⟨f - 1,by simp at o;omega⟩;have t:acc.length=n:=t;unfold jz;rw[auC om];rfl
|m::l,p,acc,f,w,x,d,t,o=>by
  obtain⟨f,rfl⟩:∃g,f=g+1:=⟨f - 1,by simp at o;omega⟩;have o:l.length < f:=by simp at o;omega
  have hm:=w m (avQ ..);have e:gj cl (m::l)=ku cl m++gj cl l:=by unfold gj;rw[awZ]
  rw[e] at d ⊢;have u:=d.fst;have z:=d.snd;have h:(fe (fj acc m) l).length=n:=t;have i:=sn acc m;have hle:=mr l (fj acc m);have q:=vz v r c l (p+(ku cl m).length) (fj acc m) f (λy A=>w y (auZ _ A)) x.2 z h o;have fin:fe (fj acc m) l=fe acc (m::l):=rfl;rw[fin] at q;rw[auH,<-awU,<-q]
  conv=>lhs;unfold jz
  have a:=x.1;unfold gw at a;unfold ku at u q ⊢;rw[auB om];have C:=u.fst.sign c v r hm;have j:=u.snd;rw[fo] at j;have D:=j.le;rw[bt] at D;simp only[C];rw[auB sm];unfold fj at q i hle h ⊢;rw[auH,fo,bt];by_cases b:m.1 < 16
  ·rw[auC b] at a;simp only[auC b] at q ⊢;rw[a.2,awF]
  ·rw[auB b] at a;simp only[auB b] at q i hle h ⊢;simp only[auH,avW] at i hle;have E:=j.num c a.2.2.1;have s:=a.2.2.2;rw[auB (λk=>by have:=s k.1;omega),<-a.2.1,auB om,E,auB om,<-awU]
theorem je {P:Nat->Prop}(h:∀x∈l,P x)(a:P 0)(i:Nat):P (l.getD i 0):=by
 rw[auK];cases c:l[i]? with
|none=>exact a
|some b=>exact h b (ayC c)
def qe (i:Nat):Bool:=(List.range 19).all λj=>ai (i=j)||decide (cm.getD i 0≠cm.getD j 0)
def qf (j:Nat):Bool:=(List.range 19).any λi=>ai (cm.getD i 0=j)
theorem zl (hi:i < 19)(c:j < 19)(h:i≠j):cm.getD i 0≠cm.getD j 0:=by
 have d:(List.range 19).all qe=true:=by decide +kernel
 have a:=axJ.1 d i (awH.2 hi);unfold qe at a;have b:=axJ.1 a j (awH.2 c);rw[axS,avK,avK] at b;exact b.resolve_left h
theorem X0 (b:j < 19):∃i,i < 19∧cm.getD i 0=j:=by
 have c:(List.range 19).all qf=true:=by decide +kernel
 have a:=axJ.1 c j (awH.2 b);unfold qf at a;obtain⟨i,hi,h⟩:=ayF.1 a;exact⟨i,awH.1 hi,auW h⟩
theorem we (h:i < 19):cm.getD i 0 < 19:=by
 have a:(List.range 19).all (λi=>ai (cm.getD i 0 < 19))=true:=by decide +kernel
 exact auW (axJ.1 a i (awH.2 h))
theorem wg (s:List UInt8)(p:Nat):∀(k i:Nat),k<=19->i < 19->(gh s p k).getD (cm.getD i 0) 0=if i < k then Fl.num s (p+3*i) 3 else 0
|0,i,_,hi=>by
  rw[auB om,gh,auK,aAu];split<;>rfl
|k+1,i,c,hi=>by
  have b:=nf s p k;rw[gh,auK];by_cases h:k=i
  ·subst h;rw[axR (by rw[b];exact we hi),auC om];rfl
  ·rw[azU (zl om hi h),<-auK,wg s p k i om hi];by_cases a:i < k
   ·rw[auC a,auC om]
   ·rw[auB a,auB om]
def iy (cl:List Nat)(k:Nat):List Nat:=(List.range k).flatMap λi=>bg (cl.getD (cm.getD i 0) 0) 3
theorem qy (cl:List Nat)(k:Nat):iy cl (k+1)=iy cl k++bg (cl.getD (cm.getD k 0) 0) 3:=by
 unfold iy;rw[azZ,axQ];simp
theorem mw (cl:List Nat):∀k,(iy cl k).length=3*k
|0=>rfl
|k+1=>by rw[qy,auH,mw cl k,bt];omega
theorem qz (cl:List Nat)(k:Nat):bp (iy cl k):=λb a=>by
 obtain⟨x,_,c⟩:=azP.1 a;exact eh _ _ b c
theorem wh {cl:List Nat}(b:∀x∈cl,x<=7){B:List Nat}(a:bp B){p:Nat}:∀(k:Nat),fl B p (iy cl k)->∀i,i < k->Fl.num (bf B) (p+3*i) 3=cl.getD (cm.getD i 0) 0
|k+1,h,i,hi=>by
  rw[qy] at h;rcases avI i k with c|c
  ·exact wh b a k h.fst i c
  ·obtain rfl:i=k:=om
   have d:=h.snd;rw[mw] at d;have:cl.getD (cm.getD i 0) 0<=7:=je b dc _;exact d.num a om
theorem zm (c:cl.length=19)(d:∀x∈cl,x<=7){k:Nat}(f:k<=19)(l:∀i,k<=i->i < 19->cl.getD (cm.getD i 0) 0=0)(a:bp B)(b:fl B p (iy cl k)) :
  gh (bf B) p k=cl:=by
 refine aA2 (by rw[nf,c]) λj m n=>?_;obtain⟨i,hi,o⟩:=X0 (j:=j) om;have g:=wg (bf B) p k i f hi;have e:(if i < k then Fl.num (bf B) (p+3*i) 3 else 0)=cl.getD (cm.getD i 0) 0:=by
  by_cases h:i < k
  ·rw[auC h,wh d a k b i h]
  ·rw[auB h,l i om hi]
 rw[e,o,auK,auK,auO m,auO n] at g;exact g
def me (a b cl:List Nat)(k:Nat)(ms:List bw)(l:List bo):List Nat:=
 bg 1 1++(bg 2 2++(bg (a.length - 257) 5++(bg (b.length - 1) 5++(bg (k - 4) 4++(iy cl k++(gj cl ms++dh a b l))))))
theorem zn (a b cl:List Nat)(k:Nat)(ms:List bw)(l:List bo):bp (me a b cl k ms l):=
 bu (eh _ _) (bu (eh _ _) (bu (eh _ _) (bu (eh _ _) (bu (eh _ _) (bu (qz _ _) (bu (vy _ _) (vi _ _ _)))))))
theorem zo {a b:List Nat}{k:Nat}{ms:List bw}{l:List bo}(P:257<=a.length)(w:a.length<=286)(Q:1<=b.length)(y:b.length<=30)(R:4<=k)(r:k<=19)
  (z:cl.length=19) (u:∀x∈cl,x<=7) (A:∀i,k<=i->i < 19->cl.getD (cm.getD i 0) 0=0) (v:bn cl=0) (s:∀m∈ms,0 < cl.getD m.1 0) (t:jd [] ms) (d:fe [] ms=a++b)
  (g:bn a=0) (h:bn b=0) (j:∀x∈a,x<=15) (o:∀x∈b,x<=15) (p:0 < a.getD 256 0) (B:∀x∈l,ez a b x) (C:iq 0 l):ja (me a b cl k ms l) (fu [] l):=by
 refine vw rfl λL most c e hm hle=>?_;have q:=e.snd;rw[bt] at q;have a2:=q.snd;rw[bt] at a2;have a3:=a2.snd;rw[bt] at a3;have a4:=a3.snd;rw[bt] at a4;have a5:=a4.snd;rw[mw] at a5;have D:=a5.snd;have E:=q.fst.le;have F:=a2.fst.le;have G:=a3.fst.le;have H:=a4.fst.le;have I:=e.fst.le;rw[bt] at I E F G;rw[mw] at H;have n1:=q.fst.num c om;have n2:=a2.fst.num c om;have n3:=a3.fst.num c om;unfold dn;rw[auB om,e.fst.num c dc,auB dc,auB dc,auC rfl];unfold gz;have J:k - 4+4=k:=om
 rw[auB om,n1,auB om,auB om,n2,auB om,auB om,n3,J,auB om];have f:=zm z u r A c a4.fst;have f:gh (bf L) (1+2+14) k=cl:=f;have hlen:=vz v (λx K=>axO (u x K) dc) c (n:=a.length - 257+257+(b.length - 1+1)) ms (1+2+14+3*k) [] (a.length - 257+257+(b.length - 1+1)+1) s t a5.fst (by rw[d,auH];omega) (by have:=mr ms [];rw[d,auH] at this;simp at this;omega);have hlen:Fl.lens cl (bf L) (a.length - 257+257+(b.length - 1+1)) (1+2+14+3*k)=(a++b,1+2+14+3*k+(gj cl ms).length,0):=by rw[<-d];exact hlen
 have M:(a++b).take (a.length - 257+257)=a:=by rw[show a.length - 257+257=a.length by omega,List.take_left]
 have N:(a++b).drop (a.length - 257+257)=b:=by rw[show a.length - 257+257=a.length by omega,List.drop_left]
 have O:(a++b).getD 256 0=a.getD 256 0:=by rw[auK,awR om,auK]
 simp only[f,hlen,M,N,O,v,g,h];rw[auB sm,auB sm,auB om,auB sm,auB sm,vo g h j o p c B C D hm]
 congr 2
 simp only[auH,bt,mw];omega
inductive Cn where
|leaf (w s:Nat)
|node (a b:Cn)
 deriving DecidableEq
def Cn.wt:Cn->Nat
|.leaf w _=>w
|.node a b=>a.wt+b.wt
def Cn.cnt (s:Nat):Cn->Nat
|.leaf _ t=>if t=s then 1 else 0
|.node a b=>a.cnt s+b.cnt s
def Cn.CO:Cn->List Cn
|.leaf _ _=>[]
|.node a b=>[a,b]
def Cn.nD:Cn->Bool
|.leaf _ _=>aw
|.node _ _=>au
def Cn.top (s:Nat):Cn->Nat
|.leaf _ t=>if t=s then 1 else 0
|.node _ _=>0
def Cn.kids (l:List Cn):List Cn:=l.flatMap Cn.CO
def Cn.bL:List Cn->List Cn
|a::b::l=>.node a b::Cn.bL l
|_=>[]
def Cn.sorted (l:List Cn):Prop:=l.Pairwise λa b=>a.wt<=b.wt
def Cn.sum (f:Cn->Nat)(l:List Cn):Nat:=(l.map f).sum
theorem Cn.sum_cons (f:Cn->Nat)(c:Cn)(l:List Cn):Cn.sum f (c::l)=f c+Cn.sum f l:=rfl
theorem Cn.JO (f:Cn->Nat)(a b:List Cn):Cn.sum f (a++b)=Cn.sum f a+Cn.sum f b:=by unfold Cn.sum;rw[avM,aAq]
theorem Cn.Nk {f:Cn->Nat}{a b:List Cn}(h:a.Perm b):Cn.sum f a=Cn.sum f b:=(h.map f).sum_nat
theorem Cn.WS {f:Cn->Nat}:∀{q p:List Cn},q.Nodup->(∀x∈q,x∈p)->Cn.sum f q<=Cn.sum f p
|[],_,_,_=>avG _
|c::q,p,a,d=>by
  rw[aAA] at a;have h:=d c (avQ ..);have hp:=aBq h;rw[Cn.Nk hp,Cn.sum_cons,Cn.sum_cons];have:=Cn.WS (f:=f) (p:=p.erase c) a.2 λx g=>by
   have:=d x (auZ _ g);have b:x≠c:=λe=>a.1 (e▸g);exact (List.mem_erase_of_ne b).2 this
  omega
theorem Cn.G9 (y:Cn):∀l:List Cn,(Cn.kids l).count y=Cn.sum (λc=>c.CO.count y) l
|[]=>rfl
|c::l=>by
  have:=Cn.G9 y l;unfold Cn.kids at this ⊢;rw[awZ,ayT,this,Cn.sum_cons]
theorem Cn.MF:∀l:List Cn,∃t,l=Cn.kids (Cn.bL l)++t∧t.length<=1
|[]=>⟨[],rfl,dc⟩
|[a]=>⟨[a],rfl,sm⟩
|a::b::l=>by
  obtain⟨t,h,c⟩:=Cn.MF l;refine⟨t,?_,c⟩;show a::b::l=(Cn.CO (.node a b)++Cn.kids (Cn.bL l))++t
  conv=>lhs;rw[h]
  rfl
theorem Cn.gZ:∀{l:List Cn} {x:Cn},x∈Cn.bL l->∃a b,x=.node a b∧a∈l∧b∈l
|a::b::l,x,h=>by
  rcases auI.1 h with rfl|h
  ·exact⟨a,b,rfl,avQ ..,auZ _ (avQ ..)⟩
  ·obtain⟨c,d,e,f,g⟩:=Cn.gZ h;exact⟨c,d,e,auZ _ (auZ _ f),auZ _ (auZ _ g)⟩
theorem Cn.KW:∀{l:List Cn},l.Nodup->(Cn.bL l).Nodup
|[],_=>List.nodup_nil
|[_],_=>List.nodup_nil
|a::b::l,h=>by
  rw[aAA,aAA] at h;show (Cn.node a b::Cn.bL l).Nodup;rw[aAA];refine⟨λhm=>?_,Cn.KW h.2.2⟩;obtain⟨c,d,e,f,_⟩:=Cn.gZ hm
  injection e with e1 _
  subst e1;exact h.1 (auZ _ f)
theorem Cn.Gd:∀l:List Cn,(Cn.bL l).length=l.length / 2
|[]=>rfl
|[_]=>by simp[Cn.bL]
|a::b::l=>by
  show (Cn.bL l).length+1=(l.length+1+1) / 2;rw[Cn.Gd l];omega
theorem Cn.Lo {l:List Cn}:l.Nodup↔∀a,l.count a<=1:=List.nodup_iff_count
theorem Cn.UQ {l q:List Cn}(a:l.Nodup)(b:q.Nodup)(d:∀x∈q,x∈Cn.bL l):(Cn.kids q).Nodup:=by
 rw[Cn.Lo];intro y;rw[Cn.G9];have e:=Cn.WS (f:=λc=>c.CO.count y) b d;rw[<-Cn.G9 y (Cn.bL l)] at e;obtain⟨t,g,_⟩:=Cn.MF l;have h:=Cn.Lo.1 a y;rw[g,ayT] at h;omega
def Cn.low (d r:List Cn):Prop:=∀x∈d,∀y∈r,y ∉ d->x.wt<=y.wt
theorem Cn.Ok {p:Cn->Prop}:∀{l:List Cn},Cn.sorted l->(∀x∈Cn.bL l,p x->∀y∈Cn.bL l,¬p y->x.wt<=y.wt) ->
  ∀u v,(∃x∈Cn.bL l,p x∧u∈x.CO)->v∈l->(∀x∈Cn.bL l,p x->v ∉ x.CO)->u.wt<=v.wt
|[],_,_,u,v,_,t,_=>by cases t
|[a],_,_,u,v,⟨x,j,_⟩,_,_=>by cases j
|a::b::l,n,hp,u,v,⟨x,j,k,hu⟩,t,B=>by
  unfold Cn.sorted at n;rw[axD,axD] at n;have g:x=.node a b∨x∈Cn.bL l:=auI.1 j;have m:Cn.node a b∈Cn.bL (a::b::l):=avQ ..
  have f:∀{z},z∈Cn.bL l->z∈Cn.bL (a::b::l):=λh=>auZ _ h;have I:=n.1 b (avQ ..);by_cases i:p (.node a b)
  ·have w:=B _ m i;have o:v≠a:=λe=>w (e▸avQ ..);have q:v≠b:=λe=>w (e▸auZ _ (avQ ..));have r:v∈l:=by
    rcases auI.1 t with h|h
    ·exact absurd h o
    ·rcases auI.1 h with h|h
     ·exact absurd h q
     ·exact h
   rcases g with rfl|g
   ·have s:=n.2.1 v r;rcases auI.1 hu with rfl|hu
    ·omega
    ·rw[avD.1 hu];exact s
   ·exact Cn.Ok n.2.2 (λx j C y D E=>hp x (f j) C y (f D) E) u v ⟨x,g,k,hu⟩ r λx j=>B x (f j)
  ·have g:x∈Cn.bL l:=g.resolve_left λe=>i (e▸k);rcases auI.1 t with o|t
   ·-- v=a: J package (a,b) is out,L x A no more H it;all K equal
    have s:=hp x j k _ m i;obtain⟨c,d,rfl,F,G⟩:=Cn.gZ g;have s:c.wt+d.wt<=a.wt+b.wt:=s;have e1:=n.2.1 c F;have e2:=n.2.1 d G;rcases auI.1 hu with rfl|hu
    ·subst o;omega
    ·rw[avD.1 hu];subst o;omega
   ·rcases auI.1 t with q|r
    ·have s:=hp x j k _ m i;obtain⟨c,d,rfl,F,G⟩:=Cn.gZ g;have s:c.wt+d.wt<=a.wt+b.wt:=s;have e1:=n.2.1 c F;have e2:=n.2.1 d G;rcases auI.1 hu with rfl|hu
     ·subst q;omega
     ·rw[avD.1 hu];subst q;omega
    ·exact Cn.Ok n.2.2 (λx j C y D E=>hp x (f j) C y (f D) E) u v ⟨x,g,k,hu⟩ r λx j=>B x (f j)
inductive Cn.Row (L:List Cn):Nat->List Cn->Prop
|zero {r:List Cn}:Cn.sorted r->r.Perm L->Cn.Row L 0 r
|succ {t:Nat} {q r:List Cn}:Cn.Row L t q->Cn.sorted r->r.Perm (L++Cn.bL q)->Cn.Row L (t+1) r
structure Cn.Lv (L:List Cn) (Sy:List Nat):Prop where
 leaf:∀x∈L,∃w s,x=.leaf w s∧0 < w∧s∈Sy
 has:∀s∈Sy,∃w,Cn.leaf w s∈L
 uniq:∀w v s,Cn.leaf w s∈L->Cn.leaf v s∈L->w=v
 nodup:L.Nodup
 nodupS:Sy.Nodup
 len:L.length=Sy.length
theorem Cn.Row.nodup {L:List Cn}{Sy:List Nat}(hL:Cn.Lv L Sy){t:Nat}{r:List Cn}(h:Cn.Row L t r):r.Nodup∧∀x∈r,(x∈L)∨x.nD=false:=by
 induction h with
|zero _ hp=>exact⟨hp.nodup_iff.2 hL.nodup,λx c=>.inl (hp.mem_iff.1 c)⟩
|succ g _ hp d=>
  refine⟨hp.nodup_iff.2 ?_,λx c=>?_⟩
  ·rw[List.nodup_append];refine⟨hL.nodup,Cn.KW d.1,λx c y f e=>?_⟩;subst e;obtain⟨a,b,rfl,_,_⟩:=Cn.gZ f;obtain⟨w,s,h,_⟩:=hL.leaf _ c;cases h
  ·rcases avF.1 (hp.mem_iff.1 c) with h|h
   ·exact .inl h
   ·obtain⟨a,b,rfl,_,_⟩:=Cn.gZ h;exact .inr rfl
theorem Cn.Row.has {L:List Cn}{r:List Cn}(h:Cn.Row L t r):∀x∈L,x∈r:=by
 intro x a;cases h with
|zero _ hp=>exact hp.mem_iff.2 a
|succ _ _ hp=>exact hp.mem_iff.2 (aA6 _ a)
theorem Cn.Row.pos {L:List Cn}(hL:Cn.Lv L Sy){r:List Cn}(h:Cn.Row L t r):∀x∈r,0 < x.wt:=by
 induction h with
|zero _ hp=>
  intro x c;obtain⟨w,s,rfl,h,_⟩:=hL.leaf x (hp.mem_iff.1 c);exact h
|succ f _ hp d=>
  intro x c;rcases avF.1 (hp.mem_iff.1 c) with h|h
  ·obtain⟨w,s,rfl,h,_⟩:=hL.leaf x h;exact h
  ·obtain⟨a,b,rfl,e,_⟩:=Cn.gZ h;have:=d a e;show 0 < a.wt+b.wt;omega
theorem Cn.On {f:Cn->Nat}:∀{l:List Cn},(∀x∈l,f x=0)->Cn.sum f l=0
|[],_=>rfl
|c::l,h=>by rw[Cn.sum_cons,h c (avQ ..),Cn.On λx a=>h x (auZ _ a)]
theorem Cn.YH {f:Cn->Nat}:∀{l:List Cn},0 < Cn.sum f l->∃x∈l,0 < f x
|c::l,h=>by
  rw[Cn.sum_cons] at h;by_cases a:0 < f c
  ·exact⟨c,avQ ..,a⟩
  ·obtain⟨x,b,d⟩:=Cn.YH (f:=f) (l:=l) om;exact⟨x,auZ _ b,d⟩
theorem Cn.Q5 {f:Cn->Nat}:∀{l:List Cn} {x:Cn},x∈l->f x<=Cn.sum f l
|c::l,x,h=>by
  rw[Cn.sum_cons];rcases auI.1 h with rfl|h
  ·omega
  ·have:=Cn.Q5 (f:=f) h;omega
theorem Cn.RD (s:Nat):∀d:List Cn,Cn.sum (Cn.cnt s) d=Cn.sum (Cn.top s) d+Cn.sum (Cn.cnt s) (Cn.kids d)
|[]=>rfl
|c::d=>by
  have f:=Cn.RD s d;have e:Cn.kids (c::d)=c.CO++Cn.kids d:=by unfold Cn.kids;rw[awZ]
  rw[e,Cn.JO,Cn.sum_cons,Cn.sum_cons,f];cases c with
 |leaf w t=>show (if t=s then 1 else 0)+_=_;simp only[Cn.top,Cn.CO,Cn.sum,axT,List.sum_nil];omega
 |node a b=>show (a.cnt s+b.cnt s)+_=_;simp only[Cn.top,Cn.CO,Cn.sum,avS,axT,ayH,List.sum_nil];omega
def Cn.val (s:Nat):Nat->List Cn->Nat
|0,d=>Cn.sum (Cn.top s) d
|t+1,d=>Cn.sum (Cn.top s) d*2 ^ (t+1)+Cn.val s t (Cn.kids d)
theorem Cn.adE {L:List Cn}(hL:Cn.Lv L Sy){d:List Cn}(h:d.Nodup)(hm:∀x∈d,x∈L∨x.nD=au)(s:Nat):Cn.sum (Cn.top s) d<=1:=by
 induction d with
|nil=>exact avG _
|cons c d j=>
  rw[aAA] at h;have j:=j h.2 λx f=>hm x (auZ _ f);rw[Cn.sum_cons];by_cases g:Cn.top s c=0
  ·omega
  ·have e:Cn.sum (Cn.top s) d=0:=by
    refine Cn.On λx f=>?_;cases x with
   |node a b=>rfl
   |leaf v t=>
     cases c with
    |node a b=>exact absurd rfl g
    |leaf w u=>
      simp only[Cn.top] at g ⊢;by_cases i:u=s
      ·by_cases k:t=s
       ·subst i;subst k;have l:=(hm _ (avQ ..)).resolve_right (by simp[Cn.nD]);have m:=(hm _ (auZ _ f)).resolve_right (by simp[Cn.nD]);have:=hL.uniq _ _ _ l m;subst this;exact absurd f h.1
       ·rw[auB k]
      ·rw[auB i] at g;exact absurd rfl g
   have i:Cn.top s c<=1:=by
    cases c with
   |leaf w t=>simp only[Cn.top];split<;>omega
   |node a b=>exact avG _
   omega
theorem Cn.PZ {d:List Cn}(h:∀x∈d,x.nD=aw):Cn.kids d=[]:=by
 induction d with
|nil=>rfl
|cons c d f=>
  have e:Cn.kids (c::d)=c.CO++Cn.kids d:=by unfold Cn.kids;rw[awZ]
  have g:=h c (avQ ..);rw[e,f λx i=>h x (auZ _ i)];cases c with
 |leaf w t=>rfl
 |node a b=>cases g
theorem Cn.Jg {d:List Cn}{u:Cn}:u∈Cn.kids d↔∃x∈d,u∈x.CO:=by unfold Cn.kids;exact azP
theorem Cn.Row.down {L:List Cn}(hL:Cn.Lv L Sy){q r d:List Cn}(C:Cn.Row L t q)(D:Cn.sorted q)(hp:r.Perm (L++Cn.bL q))(A:d.Nodup)(hm:∀x∈d,x∈r)(B:Cn.low d r) :
  (Cn.kids d).Nodup∧(∀x∈Cn.kids d,x∈q)∧Cn.low (Cn.kids d) q:=by
 have f:∀x∈d,x.nD=au->x∈Cn.bL q:=by
  intro x i h;rcases avF.1 (hp.mem_iff.1 (hm x i)) with k|k
  ·obtain⟨w,s,rfl,_⟩:=hL.leaf x k;cases h
  ·exact k
 have j:∀x u,u∈Cn.CO x->x.nD=false:=by
  intro x u hu;cases x with
 |leaf w s=>cases hu
 |node a b=>rfl
 have E:Cn.kids d=Cn.kids (d.filter λx=>!x.nD):=by
  clear A hm B f
  induction d with
 |nil=>rfl
 |cons c d F=>
   have e:Cn.kids (c::d)=c.CO++Cn.kids d:=by unfold Cn.kids;rw[awZ]
   rw[e,F,aAd];cases c with
  |leaf w s=>rfl
  |node a b=>unfold Cn.kids;rfl
 refine⟨?_,?_,?_⟩
 ·rw[E];refine Cn.UQ (l:=q) (C.nodup hL).1 (A.filter _) λx i=>?_;obtain⟨k,G⟩:=List.mem_filter.1 i;exact f x k (by simpa using G)
 ·intro u hu;obtain⟨x,i,g⟩:=Cn.Jg.1 hu;obtain⟨a,b,rfl,H,I⟩:=Cn.gZ (f x i (j x u g));rcases auI.1 g with rfl|h
  ·exact H
  ·rw[avD.1 h];exact I
 ·intro u hu v J m;obtain⟨x,i,g⟩:=Cn.Jg.1 hu;refine Cn.Ok (p:=λz=>z∈d) D (λx i K y M N=>B x K y (hp.mem_iff.2 (aA7 _ M)) N) u v ⟨x,f x i (j x u g),i,g⟩ J λz O n o=>m (Cn.Jg.2 ⟨z,n,o⟩)
theorem Cn.Row.sorted {L:List Cn}{t:Nat}{r:List Cn}(h:Cn.Row L t r):Cn.sorted r:=by
 cases h with
|zero h _=>exact h
|succ _ h _=>exact h
theorem Cn.Row.levels {L:List Cn}(hL:Cn.Lv L Sy){r:List Cn}(h:Cn.Row L t r):∀(d:List Cn),d.Nodup->(∀x∈d,x∈r)->Cn.low d r->∀s,
  Cn.sum (Cn.cnt s) d<=t+1∧Cn.val s t d+2 ^ (t+1 - Cn.sum (Cn.cnt s) d)=2 ^ (t+1)∧(Cn.sum (Cn.top s) d=0->Cn.sum (Cn.cnt s) d=0):=by
 induction h with
|zero D hp=>
  intro d o hm p s;have j:∀x∈d,x.nD=true:=λx i=>by
   obtain⟨w,s,rfl,_⟩:=hL.leaf x (hp.mem_iff.1 (hm x i));rfl
  have H:=Cn.adE hL o (λx i=>.inl (hp.mem_iff.1 (hm x i))) s;have e:=Cn.RD s d;rw[Cn.PZ j] at e;have e:Cn.sum (Cn.cnt s) d=Cn.sum (Cn.top s) d:=e;rw[e];refine⟨om,?_,λh=>h⟩;show Cn.sum (Cn.top s) d+_=_;rcases (by omega:Cn.sum (Cn.top s) d=0∨Cn.sum (Cn.top s) d=1) with h|h<;>rw[h]<;>decide
|@succ t q r l D hp I=>
  intro d o hm p s;have g:Cn.Row L (t+1) r:=.succ l D hp;obtain⟨J,E,K⟩:=Cn.Row.down hL l l.sorted hp o hm p;obtain⟨i1,i2,i3⟩:=I (Cn.kids d) J E K s;have H:=Cn.adE hL o (λx i=>(g.nodup hL).2 x (hm x i)) s;have e:=Cn.RD s d;have M:Cn.sum (Cn.top s) d=0->Cn.sum (Cn.cnt s) (Cn.kids d)=0:=by
   intro T;refine i3 ?_;rcases awQ (Cn.sum (Cn.top s) (Cn.kids d)) with h|h
   ·exact h
   ·exfalso;obtain⟨x,i,k⟩:=Cn.YH h;cases x with
   |node a b=>exact absurd k (azH _)
   |leaf w u=>
     simp only[Cn.top] at k;have v:u=s:=by
      by_cases h:u=s
      ·exact h
      ·rw[auB h] at k;omega
     subst v;have z:Cn.leaf w u∈L:=((l.nodup hL).2 _ (E _ i)).resolve_right (by simp[Cn.nD]);have A:=g.has _ z;by_cases m:Cn.leaf w u∈d
     ·have:=Cn.Q5 (f:=Cn.top u) m;simp only[Cn.top,if_true] at this;omega
     ·obtain⟨y,F,n⟩:=Cn.Jg.1 i;have c:=p y F _ A m;cases y with
     |leaf _ _=>cases n
     |node a b=>
       have G:=g.pos hL;have B:Cn.node a b∈Cn.bL q:=by
        rcases avF.1 (hp.mem_iff.1 (hm _ F)) with c|c
        ·obtain⟨w,s,h,_⟩:=hL.leaf _ c;cases h
        ·exact c
       obtain⟨a',U,e',N,O⟩:=Cn.gZ B
       injection e' with P Q
       subst P;subst Q;have R:=l.pos hL _ N;have S:=l.pos hL _ O;have c:a.wt+b.wt<=w:=c;rcases auI.1 n with C|C
       ·rw[<-C] at c R;have c:w+b.wt<=w:=c;omega
       ·rw[<-avD.1 C] at c S;have c:a.wt+w<=w:=c;omega
  rw[e];show _∧Cn.sum (Cn.top s) d*2 ^ (t+1)+Cn.val s t (Cn.kids d)+_=_∧_;have V:2 ^ (t+1+1)=2*2 ^ (t+1):=by rw[awT];omega
  rcases (by omega:Cn.sum (Cn.top s) d=0∨Cn.sum (Cn.top s) d=1) with h|h
  ·have c:=M h;rw[c] at i2 ⊢;rw[h];refine⟨om,?_,λ_=>rfl⟩;rw[aAE] at i2;rw[axP,awF,aAE];omega
  ·rw[h];refine⟨om,?_,λh=>absurd h dc⟩;rw[show t+1+1 - (1+Cn.sum (Cn.cnt s) (Cn.kids d))=t+1 - Cn.sum (Cn.cnt s) (Cn.kids d) by omega,aAb];omega
def Cn.over (Sy:List Nat)(f:Nat->Nat):Nat:=(Sy.map f).sum
theorem Cn.iT (s:Nat)(Sy:List Nat)(f:Nat->Nat):Cn.over (s::Sy) f=f s+Cn.over Sy f:=rfl
theorem Cn.Jf (f g:Nat->Nat):∀Sy:List Nat,Cn.over Sy (λs=>f s+g s)=Cn.over Sy f+Cn.over Sy g
|[]=>rfl
|s::Sy=>by rw[Cn.iT,Cn.iT,Cn.iT,Cn.Jf f g Sy];omega
theorem Cn.OJ (f:Nat->Nat)(k:Nat):∀Sy:List Nat,Cn.over Sy (λs=>f s*k)=Cn.over Sy f*k
|[]=>by simp[Cn.over]
|s::Sy=>by rw[Cn.iT,Cn.iT,Cn.OJ f k Sy,axE]
theorem Cn.CH {f g:Nat->Nat}:∀{Sy:List Nat},(∀s∈Sy,f s=g s)->Cn.over Sy f=Cn.over Sy g
|[],_=>rfl
|s::Sy,h=>by rw[Cn.iT,Cn.iT,h s (avQ ..),Cn.CH λx a=>h x (auZ _ a)]
theorem Cn.KX {f:Nat->Nat}(h:∀s∈Sy,f s=0):Cn.over Sy f=0:=by
 rw[Cn.CH h]
 induction Sy with
|nil=>rfl
|cons s Sy a=>rw[Cn.iT,a λx b=>h x (auZ _ b)]
theorem Cn.MG (k:Nat):∀Sy:List Nat,Cn.over Sy (λ_=>k)=Sy.length*k
|[]=>by simp[Cn.over]
|s::Sy=>by rw[Cn.iT,Cn.MG k Sy,auX,awS];omega
theorem Cn.Yj (a:Sy.Nodup){w:Nat}(b:t∈Sy):Cn.over Sy (λs=>Cn.top s (.leaf w t))=1:=by
 induction Sy with
|nil=>cases b
|cons s Sy c=>
  rw[aAA] at a;rw[Cn.iT];by_cases h:t=s
  ·subst h;rw[Cn.KX λu hu=>?_]
   ·simp[Cn.top]
   ·simp only[Cn.top];rw[auB (λe=>a.1 (by rw[e];exact hu))]
  ·rw[c a.2 ((auI.1 b).resolve_left h)];simp[Cn.top,h]
def Cn.leaves (d:List Cn):Nat:=(d.filter Cn.nD).length
theorem Cn.NV {L:List Cn}{Sy:List Nat}(hL:Cn.Lv L Sy):∀{d:List Cn},(∀x∈d,x∈L∨x.nD=au)->Cn.over Sy (λs=>Cn.sum (Cn.top s) d)=Cn.leaves d
|[],_=>Cn.KX λ_ _=>rfl
|c::d,hm=>by
  have g:=Cn.NV hL (d:=d) λx i=>hm x (auZ _ i);have e:(λs=>Cn.sum (Cn.top s) (c::d))=λs=>Cn.top s c+Cn.sum (Cn.top s) d:=rfl;rw[e,Cn.Jf,g];unfold Cn.leaves;rw[aAd];cases c with
 |leaf w t=>
   obtain⟨w',k,h,_,j⟩:=hL.leaf _ ((hm _ (avQ ..)).resolve_right (by simp[Cn.nD]))
   injection h with _ e2
   subst e2;rw[Cn.Yj hL.nodupS j];simp only[Cn.nD,if_true,auX];omega
 |node a b=>
   rw[Cn.KX (f:=λs=>Cn.top s (.node a b)) λ_ _=>rfl];simp[Cn.nD]
theorem Cn.qZ:∀d:List Cn,(Cn.kids d).length+2*Cn.leaves d=2*d.length
|[]=>rfl
|c::d=>by
  have f:=Cn.qZ d;have e:Cn.kids (c::d)=c.CO++Cn.kids d:=by unfold Cn.kids;rw[awZ]
  unfold Cn.leaves at f ⊢;rw[e,auH,aAd,auX];cases c with
 |leaf w t=>simp only[Cn.nD,if_true,auX,Cn.CO,ayA];omega
 |node a b=>simp only[Cn.nD,ayQ,if_false,Cn.CO,auX,ayA];omega
theorem Cn.Row.worth {L:List Cn}(hL:Cn.Lv L Sy){r:List Cn}(h:Cn.Row L t r):∀(d:List Cn),d.Nodup->(∀x∈d,x∈r)->Cn.low d r->Cn.over Sy (λs=>Cn.val s t d)=d.length*2 ^ t:=by
 induction h with
|zero f hp=>
  intro d g hm i;have a:∀x∈d,x.nD=true:=λx b=>by
   obtain⟨w,s,rfl,_⟩:=hL.leaf x (hp.mem_iff.1 (hm x b));rfl
  show Cn.over Sy (λs=>Cn.sum (Cn.top s) d)=_;rw[Cn.NV hL λx b=>.inl (hp.mem_iff.1 (hm x b))];have:=Cn.qZ d;rw[Cn.PZ a] at this;simp only[ayA] at this;omega
|@succ t q r e f hp j=>
  intro d g hm i;have c:Cn.Row L (t+1) r:=.succ e f hp;obtain⟨k,l,m⟩:=Cn.Row.down hL e e.sorted hp g hm i;have n:=j (Cn.kids d) k l m;show Cn.over Sy (λs=>Cn.sum (Cn.top s) d*2 ^ (t+1)+Cn.val s t (Cn.kids d))=_;rw[Cn.Jf,Cn.OJ,n,Cn.NV hL λx b=>(c.nodup hL).2 x (hm x b)];have o:=Cn.qZ d;have e1:Cn.leaves d*2 ^ (t+1)=2*Cn.leaves d*2 ^ t:=by rw[awT,axH (2 ^ t) 2,<-azR,axH (Cn.leaves d) 2]
  have e2:d.length*2 ^ (t+1)=2*d.length*2 ^ t:=by rw[awT,axH (2 ^ t) 2,<-azR,axH d.length 2]
  rw[e1,e2,<-axE,<-o]
  congr 1
  omega
theorem Cn.Row.len {L:List Cn}{r:List Cn}(h:Cn.Row L t r):∀k,L.length<=k*2 ^ t->2*L.length<=r.length+k:=by
 induction h with
|zero _ hp=>
  intro k a;rw[hp.length_eq];omega
|@succ t q r c _ hp b=>
  intro k a;have d:=b (2*k) (by rw[awT] at a;rw[axH 2 k,azR,axH 2];exact a);rw[hp.length_eq,auH,Cn.Gd];omega
theorem Cn.Row.lt {L:List Cn}{r:List Cn}(h:Cn.Row L t r)(a:0 < L.length):r.length < 2*L.length:=by
 induction h with
|zero _ hp=>rw[hp.length_eq];omega
|@succ t q r b _ hp c=>
  rw[hp.length_eq,auH,Cn.Gd];omega
theorem Cn.TO {r:List Cn}(h:Cn.sorted r)(n:Nat):Cn.low (r.take n) r:=by
 intro x d y e f;have c:y∈r.drop n:=by
  have:y∈r.take n++r.drop n:=by rw[avV];exact e
  exact (avF.1 this).resolve_left f
 have g:(r.take n++r.drop n).Pairwise λa b=>a.wt<=b.wt:=by rw[avV];exact h
 exact (ayL.1 g).2.2 x d y c
theorem Cn.Row.code {L:List Cn}(hL:Cn.Lv L Sy){r:List Cn}(h:Cn.Row L m r)(n:2<=L.length)(o:L.length<=2 ^ (m+1)) :
  2*L.length - 2<=r.length∧(∀s∈Sy,1<=Cn.sum (Cn.cnt s) (r.take (2*L.length - 2))∧Cn.sum (Cn.cnt s) (r.take (2*L.length - 2))<=m+1) ∧
   Cn.over Sy (λs=>2 ^ (m+1 - Cn.sum (Cn.cnt s) (r.take (2*L.length - 2))))=2 ^ (m+1):=by
 have hle:=h.len 2 (by rw[awT] at o;omega);have f:(r.take (2*L.length - 2)).Nodup:=(aAT _ _).nodup (h.nodup hL).1;have hm:∀x∈r.take (2*L.length - 2),x∈r:=λx p=>awN p;have b:=Cn.TO h.sorted (2*L.length - 2);have c:=h.levels hL _ f hm b;have hw:=h.worth hL _ f hm b;rw[auM,avO om] at hw;generalize z:r.take (2*L.length - 2)=d at f hm b c hw ⊢;have e:Cn.over Sy (λs=>Cn.val s m d+2 ^ (m+1 - Cn.sum (Cn.cnt s) d))=Sy.length*2 ^ (m+1):=by
  rw[Cn.CH λs _=>(c s).2.1,Cn.MG]
 rw[Cn.Jf,hw,<-hL.len] at e;have e1:(2*L.length - 2)*2 ^ m=(L.length - 1)*2 ^ (m+1):=by
  rw[awT,axH (2 ^ m) 2,<-azR]
  congr 1
  omega
 have e2:L.length*2 ^ (m+1)=(L.length - 1)*2 ^ (m+1)+2 ^ (m+1):=by
  conv=>lhs;rw[show L.length=L.length - 1+1 by omega,awS]
 have q:Cn.over Sy (λs=>2 ^ (m+1 - Cn.sum (Cn.cnt s) d))=2 ^ (m+1):=om
 refine⟨om,λs v=>⟨?_,(c s).1⟩,q⟩
 -- a symbol aR a j g fill w sum alone
 rcases awQ (Cn.sum (Cn.cnt s) d) with i|i
 ·exfalso;have hlen:2<=Sy.length:=by rw[<-hL.len];exact n
  have key:∀(l:List Nat),s∈l->2<=l.length->2 ^ (m+1) < Cn.over l (λs=>2 ^ (m+1 - Cn.sum (Cn.cnt s) d)):=by
   intro l k y;have hp:=(aBq k).map λs=>2 ^ (m+1 - Cn.sum (Cn.cnt s) d);have hp:=hp.sum_nat;have hlen:=(aBq k).length_eq;unfold Cn.over;rw[hp,avS,ayH,i,aAE];cases he:l.erase s with
  |nil=>rw[he] at hlen;simp at hlen;omega
  |cons u t=>
    rw[avS,ayH];have:=aAR (m+1 - Cn.sum (Cn.cnt u) d);omega
  have:=key Sy v hlen;omega
 ·exact i
theorem Cn.Row.none {L:List Cn}(hL:Cn.Lv L Sy){s:Nat}(d:s ∉ Sy){r:List Cn}(h:Cn.Row L t r):∀x∈r,Cn.cnt s x=0:=by
 induction h with
|zero _ hp=>
  intro x c;obtain⟨w,u,rfl,_,hu⟩:=hL.leaf x (hp.mem_iff.1 c);simp only[Cn.cnt];rw[auB (λe=>d (by rw[<-e];exact hu))]
|succ j _ hp f=>
  intro x c;rcases avF.1 (hp.mem_iff.1 c) with h|h
  ·obtain⟨w,u,rfl,_,hu⟩:=hL.leaf x h;simp only[Cn.cnt];rw[auB (λe=>d (by rw[<-e];exact hu))]
  ·obtain⟨a,b,rfl,g,i⟩:=Cn.gZ h;show Cn.cnt s a+Cn.cnt s b=0;rw[f a g,f b i]
structure Df.O4 (counts lens:List Nat) (most:Nat):Prop where
 len:lens.length=counts.length
 le:∀x∈lens,x<=most
 chk:bn lens=0
 pos:∀i,0 < counts.getD i 0->0 < lens.getD i 0
def di (counts:List Nat):List Nat:=(List.range counts.length).filter λi=>ai (0 < counts.getD i 0)
theorem kz {s:Nat}:s∈di counts↔0 < counts.getD s 0:=by
 unfold di;rw[List.mem_filter,awH,avK];refine⟨λh=>h.2,λh=>⟨?_,h⟩⟩;rcases avI s counts.length with a|a
 ·exact a
 ·rw[auK,awV a] at h;exact absurd h (azH _)
theorem wi (counts:List Nat):(di counts).Nodup:=List.nodup_range.filter _
def lf (counts:List Nat):List Cn:=(di counts).map λs=>.leaf (counts.getD s 0) s
theorem wj (counts:List Nat):Cn.Lv (lf counts) (di counts) where
 leaf:=λx d=>by
  obtain⟨s,c,rfl⟩:=avN.1 d;exact⟨_,_,rfl,kz.1 c,c⟩
 has:=λs c=>⟨_,avN.2 ⟨s,c,rfl⟩⟩
 uniq:=λw v s f g=>by
  obtain⟨a,_,e1⟩:=avN.1 f;obtain⟨b,_,e2⟩:=avN.1 g
  injection e1 with e1 e3
  injection e2 with e2 i
  rw[<-e1,<-e2,e3,i]
 nodup:=by
  unfold lf;rw[List.nodup_iff_pairwise_ne,List.pairwise_map];refine (List.nodup_iff_pairwise_ne.1 (wi counts)).imp λh e=>?_
  injection e with _ e
  exact h e
 nodupS:=wi counts
 len:=by unfold lf;rw[avJ]
theorem wk (f:Nat->Nat):∀(l:List Nat),((l.map f).map λx=>if x=0 then 0 else 2 ^ (15 - x)).sum=Cn.over (l.filter λs=>ai (0 < f s)) (λs=>2 ^ (15 - f s))
|[]=>rfl
|s::l=>by
  have a:=wk f l;rw[avS,avS,ayH,a,aAd];by_cases h:0 < f s
  ·rw[auB om,auC (by simpa using h),Cn.iT]
  ·rw[auC om,auB (by simpa using h),auP]
theorem Y0 {lens:List Nat}{r:List Cn}(hm:m < 15)(h:Cn.Row (lf counts) m r)(n:2<=(di counts).length)(o:(di counts).length<=2 ^ (m+1))(u:counts.length<=288)(p:lens.length=counts.length)
  (f:∀s,s < counts.length->lens.getD s 0=Cn.sum (Cn.cnt s) (r.take (2*(di counts).length - 2))):Df.O4 counts lens (m+1):=by
 have hL:=wj counts;rw[<-hL.len] at n o f;obtain⟨v,k,c3⟩:=h.code hL n o;have j:∀{s},0 < counts.getD s 0->s < counts.length:=λ{s} h=>by
  rcases avI s counts.length with l|l
  ·exact l
  ·rw[auK,awV l] at h;exact absurd h (azH _)
 have c:∀i,0 < counts.getD i 0->0 < lens.getD i 0:=λi hi=>by
  rw[f i (j hi)];exact (k i (kz.2 hi)).1
 have hzero:∀i,i < counts.length->¬0 < counts.getD i 0->lens.getD i 0=0:=λi hi b=>by
  rw[f i hi];exact Cn.On λx d=>h.none hL (λhm=>b (kz.1 hm)) x (awN d)
 have a:lens=(List.range counts.length).map λi=>lens.getD i 0:=by rw[<-p];exact (ti lens).symm
 have hle:∀x∈lens,x<=m+1:=by
  intro x d;rw[a] at d;obtain⟨i,hi,rfl⟩:=avN.1 d;have hi:=awH.1 hi;by_cases b:0 < counts.getD i 0
  ·rw[f i hi];exact (k i (kz.2 b)).2
  ·rw[hzero i hi b];exact avG _
 have q:ml lens=2 ^ 15:=by
  unfold ml;rw[a,wk];have t:((List.range counts.length).filter λs=>ai (0 < lens.getD s 0))=di counts:=by
   unfold di;refine List.filter_congr λs e=>?_;have e:=awH.1 e;by_cases b:0 < counts.getD s 0
   ·rw[auG b,auG (c s b)]
   ·rw[auD b,auD (by rw[hzero s e b];omega)]
  rw[t,Cn.CH (g:=λs=>2 ^ (m+1 - Cn.sum (Cn.cnt s) (r.take (2*(lf counts).length - 2)))*2 ^ (15 - (m+1))) λs e=>?_,Cn.OJ,c3,<-Nat.pow_add,show m+1+(15 - (m+1))=15 by omega];have:=(k s e).2;rw[f s (j (kz.1 e)),<-Nat.pow_add]
  congr 1
  omega
 refine⟨p,hle,?_,c⟩;unfold bn;rw[auB om];unfold Fl.check;rw[<-tx λx d=>by have:=hle x d;omega,q,auC (.inl rfl)]
theorem wm {lens:List Nat}(h:∀x∈lens,x=0):∀m,Fl.bN lens m=0
|0=>rfl
|m+1=>by
  rw[Fl.bN,wm h m,List.count_eq_zero_of_not_mem λhm=>by have:=h _ hm;omega]
theorem Z0 (b:counts.length<=288)(h:di counts=[])(most:Nat):Df.O4 counts (List.replicate counts.length 0) most where
 len:=avW
 le:=λx a=>by rw[axV a];exact avG _
 chk:=by
  unfold bn;rw[avW,auB om];unfold Fl.check;rw[auC (.inr (.inl (wm (λx a=>axV a) 15)))]
 pos:=λi hi=>by
  have:=kz.2 hi;rw[h] at this;cases this
theorem aaa (o:counts.length<=288){s:Nat}(h:di counts=[s])(hm:1<=most):Df.O4 counts ((List.replicate counts.length 0).set s 1) most:=by
 have d:0 < counts.getD s 0:=kz.1 (by rw[h];exact aA8 s);have b:s < counts.length:=by
  rcases avI s counts.length with c|c
  ·exact c
  ·rw[auK,awV c] at d;exact absurd d (azH _)
 have e:(List.replicate counts.length 0).set s 1=List.replicate s 0++1::List.replicate (counts.length - s - 1) 0:=by
  conv=>lhs;rw[show counts.length=s+((counts.length - s - 1)+1) by omega,<-List.replicate_append_replicate,azF _ _ sm,avW,axL,aAP,axF]
 have a:∀l,0 < l->((List.replicate counts.length 0).set s 1).count l=if l=1 then 1 else 0:=by
  intro l p;rw[e,ayT,List.count_cons,aBr,aBr];by_cases f:l=1
  ·subst f;simp
  ·have g:(1==l)=false:=by simp;omega
   have j:(0==l)=false:=by simp;omega
   rw[g,j];simp[f]
 have hu:∀m,Fl.bN ((List.replicate counts.length 0).set s 1) (m+1)=1:=by
  intro m
  induction m with
 |zero=>rw[Fl.bN,Fl.bN,a _ om];rfl
 |succ m k=>rw[Fl.bN,k,a _ om,auB om]
 refine⟨sm,λx n=>?_,?_,λi hi=>?_⟩
 ·rcases aAv n with h|h
  ·rw[axV h];omega
  ·omega
 ·unfold bn;rw[axC,avW,auB om];unfold Fl.check;rw[auC (.inr (.inr ⟨hu 14,by rw[a 1 dc];rfl⟩))]
 ·have:=kz.2 hi;rw[h] at this;rw[avD.1 this,auK,axR (by simpa using b)]
  decide
theorem oy (a:List Nat)(k:Nat){l:Nat}(c:0 < l):(a++List.replicate k 0).count l=a.count l:=by
 rw[ayT,aBr];have b:(0==l)=false:=by simp;omega
 rw[b];simp
theorem wo (a:List Nat)(k:Nat):∀m,Fl.iS (a++List.replicate k 0) m=Fl.iS a m
|0=>rfl
|m+1=>by rw[Fl.iS,Fl.iS,wo a k m,oy a k om]
theorem wq (a:List Nat)(k:Nat):∀m,Fl.bN (a++List.replicate k 0) m=Fl.bN a m
|0=>rfl
|m+1=>by rw[Fl.bN,Fl.bN,wq a k m,oy a k om]
theorem wu (a:List Nat)(k:Nat):∀m,Fl.first (a++List.replicate k 0) m=Fl.first a m
|0=>rfl
|1=>rfl
|m+2=>by rw[Fl.first,Fl.first,wu a k (m+1),oy a k om]
theorem wx {a:List Nat}{k:Nat}(h:bn (a++List.replicate k 0)=0):bn a=0:=by
 unfold bn at h ⊢;split at h
 ·cases h
 ·rename_i b
  rw[auH] at b;rw[auB om];unfold Fl.check at h ⊢;rw[wo,wq,oy a k dc] at h;exact h
theorem oz (a:List Nat)(k i:Nat):(a++List.replicate k 0).getD i 0=a.getD i 0:=by
 rw[auK,auK];rcases avI i a.length with h|h
 ·rw[awR h]
 ·rw[awW h,awV (l:=a) h,aAu];split<;>rfl
theorem wy (a:List Nat)(k i:Nat):dp (a++List.replicate k 0) i=dp a i:=by
 unfold dp;rw[oz];by_cases b:a.getD i 0=0
 ·rw[b];rfl
 ·congr 1
  unfold cr;rw[oz,auB b,auB b,wu];have hi:i < a.length:=by
   rcases avI i a.length with h|h
   ·exact h
   ·rw[auK,awV h] at b;exact absurd rfl b
  rw[aAU om]
theorem aab (a b:List Nat)(k j:Nat)(x:bo):ff (a++List.replicate k 0) (b++List.replicate j 0) x=ff a b x:=by
 unfold ff;simp only[wy]
theorem aac (a b:List Nat)(k j:Nat)(l:List bo):dh (a++List.replicate k 0) (b++List.replicate j 0) l=dh a b l:=by
 unfold dh;rw[wy]
 congr 1
 induction l with
|nil=>rfl
|cons x l c=>rw[awZ,awZ,c,aab]
theorem wz {n:Nat}(c:n<=l.length)(h:∀j,n<=j->l.getD j 0=0):l=l.take n++List.replicate (l.length - n) 0:=by
 refine aA2 (by simp;omega) λi b d=>?_;rcases avI i n with a|a
 ·rw[List.getElem_append_left (by simp;omega),aAl]
 ·have:=h i a;rw[auK,auO b] at this;rw[aBo (by simp;omega),List.getElem_replicate];exact this
section
namespace Srt
section
variable {α:Type}(d:α)(wt:α->Nat)
def sw (xs:List α)(i j:Nat):List α:=(xs.set i (xs.getD j d)).set j (xs.getD i d)
def lt (x y:α):Bool:=ai (wt x < wt y)
def MM (a:Nat):Nat->List α->List α
|0,xs=>xs
|j+1,xs=>if a < j+1∧lt wt (xs.getD (j+1) d) (xs.getD j d)=aw then MM a j (sw d xs (j+1) j) else xs
def OQ (a:Nat):Nat->Nat->List α->List α
|0,_,xs=>xs
|n+1,i,xs=>OQ a n (i+1) (MM d wt a i xs)
def ins (xs:List α)(a b:Nat):List α:=OQ d wt a (b - (a+1)) (a+1) xs
def swr:Nat->Nat->Nat->List α->List α
|0,_,_,xs=>xs
|n+1,a,b,xs=>swr n (a+1) (b+1) (sw d xs a b)
def rot:Nat->Nat->Nat->Nat->List α->List α
|0,_,_,_,xs=>xs
|f+1,i,j,m,xs=>if i=j then swr d i (m - i) m xs else if j < i then rot f (i - j) j m (swr d j (m - i) m xs) else rot f i (j - i) m (swr d i (m - i) (m+j - i) xs)
def bs (p:Nat->Bool):Nat->Nat->Nat->Nat
|0,i,_=>i
|f+1,i,j=>if i < j then (if p ((i+j) / 2)=aw then bs p f i ((i+j) / 2) else bs p f ((i+j) / 2+1) j) else i
def up:Nat->Nat->List α->List α
|0,_,xs=>xs
|n+1,k,xs=>up n (k+1) (sw d xs k (k+1))
def down:Nat->Nat->List α->List α
|0,_,xs=>xs
|n+1,k,xs=>down n (k - 1) (sw d xs k (k - 1))
def I4 (xs:List α)(a m b:Nat):Nat:=bs (λc=>lt wt (xs.getD ((a+b) / 2+m - 1 - c) d) (xs.getD c d)) (b - a) (if (a+b) / 2 < m then (a+b) / 2+m - b else a) (if (a+b) / 2 < m then (a+b) / 2 else m)
def sym:Nat->Nat->Nat->Nat->List α->List α
|0,_,_,_,xs=>xs
|f+1,a,m,b,xs=>
  if m - a=1 then up d (bs (λh=>!lt wt (xs.getD h d) (xs.getD a d)) (b - m) m b - 1 - a) a xs
  else if b - m=1 then down d (m - bs (λh=>lt wt (xs.getD m d) (xs.getD h d)) (m - a) a m) m xs
  else
   let c:=(a+b) / 2
   let s:=I4 d wt xs a m b
   let e:=c+m - s
   let g:=if s < m∧m < e then rot d (e - s) (m - s) (e - m) m xs else xs
   let i:=if a < s∧s < c then sym f a s c g else g
   if c < e∧e < b then sym f c e b i else i
def blk (n:Nat):Nat->Nat->List α->List α
|0,_,xs=>xs
|f+1,a,xs=>if a+n<=xs.length then blk n f (a+n) (ins d wt xs a (a+n)) else ins d wt xs a xs.length
def mrg (n:Nat):Nat->Nat->List α->List α
|0,_,xs=>xs
|f+1,a,xs=>if a+2*n<=xs.length then mrg n f (a+2*n) (sym d wt (2*n) a (a+n) (a+2*n) xs) else if a+n < xs.length then sym d wt (xs.length - a) a (a+n) xs.length xs else xs
def rounds:Nat->Nat->List α->List α
|0,_,xs=>xs
|f+1,n,xs=>if n < xs.length then rounds f (2*n) (mrg d wt n (xs.length+1) 0 xs) else xs
def L5 (xs:List α):List α:=rounds d wt (xs.length+1) 20 (blk d wt 20 (xs.length+1) 0 xs)
end
section
variable {α:Type}{d:α}{wt:α->Nat}
theorem HN {xs:List α}:(sw d xs i j).length=xs.length:=by unfold sw;rw[axC,axC]
theorem TE {a:Nat}:∀(j:Nat) (xs:List α),(MM d wt a j xs).length=xs.length
|0,_=>rfl
|j+1,xs=>by
  unfold MM;split
  ·rw[TE j,HN]
  ·rfl
theorem TK {a:Nat}:∀(n i:Nat) (xs:List α),(OQ d wt a n i xs).length=xs.length
|0,_,_=>rfl
|n+1,i,xs=>by unfold OQ;rw[TK n,TE]
theorem YJ {xs:List α}{a:Nat}:(ins d wt xs a b).length=xs.length:=TK _ _ _
theorem Hj:∀(n a b:Nat) (xs:List α),(swr d n a b xs).length=xs.length
|0,_,_,_=>rfl
|n+1,a,b,xs=>by unfold swr;rw[Hj n,HN]
theorem NX:∀(f i j m:Nat) (xs:List α),(rot d f i j m xs).length=xs.length
|0,_,_,_,_=>rfl
|f+1,i,j,m,xs=>by
  unfold rot;split
  ·rw[Hj]
  ·split
   ·rw[NX f,Hj]
   ·rw[NX f,Hj]
theorem aeA:∀(n k:Nat) (xs:List α),(up d n k xs).length=xs.length
|0,_,_=>rfl
|n+1,k,xs=>by unfold up;rw[aeA n,HN]
theorem Tm:∀(n k:Nat) (xs:List α),(down d n k xs).length=xs.length
|0,_,_=>rfl
|n+1,k,xs=>by unfold down;rw[Tm n,HN]
theorem Ky:∀(f a m b:Nat) (xs:List α),(sym d wt f a m b xs).length=xs.length
|0,_,_,_,_=>rfl
|f+1,a,m,b,xs=>by
  unfold sym;split
  ·rw[aeA]
  ·split
   ·rw[Tm]
   ·dsimp only;have e:(if I4 d wt xs a m b < m∧m < (a+b) / 2+m - I4 d wt xs a m b then rot d ((a+b) / 2+m - I4 d wt xs a m b - I4 d wt xs a m b) (m - I4 d wt xs a m b) ((a+b) / 2+m - I4 d wt xs a m b - m) m xs else xs).length=xs.length:=by
     split
     ·rw[NX]
     ·rfl
    generalize (if I4 d wt xs a m b < m∧m < (a+b) / 2+m - I4 d wt xs a m b then rot d ((a+b) / 2+m - I4 d wt xs a m b - I4 d wt xs a m b) (m - I4 d wt xs a m b) ((a+b) / 2+m - I4 d wt xs a m b - m) m xs else xs)=c at e ⊢;have g:(if a < I4 d wt xs a m b∧I4 d wt xs a m b < (a+b) / 2 then sym d wt f a (I4 d wt xs a m b) ((a+b) / 2) c else c).length=xs.length:=by
     split
     ·rw[Ky f,e]
     ·exact e
    generalize (if a < I4 d wt xs a m b∧I4 d wt xs a m b < (a+b) / 2 then sym d wt f a (I4 d wt xs a m b) ((a+b) / 2) c else c)=h at g ⊢;split
    ·rw[Ky f,g]
    ·exact g
theorem getD_at {P R:List α}{x:α}:(P++x::R).getD P.length d=x:=by
 rw[auK,awW (auL _),axL];rfl
theorem getD_in {P V R:List α}(hi:i < V.length):(P++(V++R)).getD (P.length+i) d=V.getD i d:=by
 rw[auK,awW om,aAc,awR hi,auK]
theorem adV (P R Q:List α)(x y:α)(hi:i=P.length)(a:j=P.length+1+R.length):sw d (P++x::(R++y::Q)) i j=P++y::(R++x::Q):=by
 subst hi;subst a;have e1:(P++x::(R++y::Q)).getD (P.length+1+R.length) d=y:=by
  rw[show P++x::(R++y::Q)=(P++x::R)++y::Q by simp,show P.length+1+R.length=(P++x::R).length by simp;omega];exact getD_at
 unfold sw;rw[e1,getD_at,azF _ _ (auL _),axL,axF,azF _ _ om,show P.length+1+R.length - P.length=R.length+1 by omega,List.set_cons_succ,azF _ _ (auL _),axL,axF]
theorem Yf (P R Q:List α)(x y:α)(hi:i=P.length)(a:j=P.length+1+R.length):sw d (P++x::(R++y::Q)) j i=P++y::(R++x::Q):=by
 subst hi;subst a;have e1:(P++x::(R++y::Q)).getD (P.length+1+R.length) d=y:=by
  rw[show P++x::(R++y::Q)=(P++x::R)++y::Q by simp,show P.length+1+R.length=(P++x::R).length by simp;omega];exact getD_at
 unfold sw;rw[e1,getD_at,azF _ _ om,show P.length+1+R.length - P.length=R.length+1 by omega,List.set_cons_succ,azF _ _ (auL _),axL,axF,azF _ _ (auL _),axL,axF]
theorem NU:∀(U V P R Q:List α) {a b:Nat},U.length=V.length->a=P.length->b=P.length+U.length+R.length->swr d U.length a b (P++(U++(R++(V++Q))))=P++(V++(R++(U++Q)))
|[],[],P,R,Q,a,b,_,_,_=>rfl
|u::U,v::V,P,R,Q,a,b,h,c,f=>by
  simp only[auX] at h f;show swr d U.length (a+1) (b+1) (sw d (P++(u::U++(R++(v::V++Q)))) a b)=_;have e:P++(u::U++(R++(v::V++Q)))=P++u::((U++R)++v::(V++Q)):=sm
  rw[e,adV P (U++R) (V++Q) u v c (by rw[auH];omega)];have e2:P++v::((U++R)++u::(V++Q))=(P++[v])++(U++((R++[u])++(V++Q))):=sm
  rw[e2,NU U V (P++[v]) (R++[u]) Q om (by simp;omega) (by simp;omega)];simp
theorem RT:∀(f:Nat) (P U V Q:List α) {m:Nat},U.length+V.length<=f->0 < U.length->0 < V.length->m=P.length+U.length->rot d f U.length V.length m (P++(U++(V++Q)))=P++(V++(U++Q))
|0,_,U,V,_,_,h,o,_,_=>by omega
|f+1,P,U,V,Q,m,h,o,p,hm=>by
  unfold rot;by_cases k:U.length=V.length
  ·rw[auC k];exact NU U V P [] Q k om (by simp;omega)
  rw[auB k];by_cases c:V.length < U.length
  ·rw[auC c];have l:U.take V.length++U.drop V.length=U:=avV ..
   have g:(U.take V.length).length=V.length:=by rw[auM];omega
   have j:(U.drop V.length).length=U.length - V.length:=auT;have e:=NU (d:=d) (U.take V.length) V P (U.drop V.length) Q (a:=m - U.length) (b:=m) g om om;rw[g] at e;have e1:P++(U.take V.length++(U.drop V.length++(V++Q)))=P++(U++(V++Q)):=by rw[<-auN (U.take V.length),l]
   rw[e1] at e;rw[e];have i:=RT f (P++V) (U.drop V.length) (U.take V.length) Q (m:=m) om om om (by rw[auH];omega);rw[g,j] at i;rw[<-auN P,i,<-auN (U.take V.length),l,auN]
  ·rw[auB c];have n:V.take (V.length - U.length)++V.drop (V.length - U.length)=V:=avV ..
   have g:(V.take (V.length - U.length)).length=V.length - U.length:=by rw[auM];omega
   have j:(V.drop (V.length - U.length)).length=U.length:=by rw[auT];omega
   have e:=NU (d:=d) U (V.drop (V.length - U.length)) P (V.take (V.length - U.length)) Q (a:=m - U.length) (b:=m+V.length - U.length) j.symm om om;have e1:P++(U++(V.take (V.length - U.length)++(V.drop (V.length - U.length)++Q)))=P++(U++(V++Q)):=by rw[<-auN (V.take _),n]
   rw[e1] at e;rw[e];have i:=RT f P (V.drop (V.length - U.length)) (V.take (V.length - U.length)) (U++Q) (m:=m) om om om om;rw[g,j] at i;rw[i,<-auN (V.take _),n]
theorem afD:∀(V P Q:List α) (u:α) {k:Nat},k=P.length->up d V.length k (P++u::(V++Q))=P++(V++u::Q)
|[],P,Q,u,k,_=>rfl
|v::V,P,Q,u,k,a=>by
  show up d V.length (k+1) (sw d (P++u::([]++v::(V++Q))) k (k+1))=_;rw[adV P [] (V++Q) u v a (by simp;omega)];have e:P++v::([]++u::(V++Q))=(P++[v])++u::(V++Q):=sm
  rw[e,afD V (P++[v]) Q u (by simp;omega)];simp
theorem TC:∀(n:Nat) (V P Q:List α) (u:α) {k:Nat},V.length=n->k=P.length+n->down d n k (P++(V++u::Q))=P++u::(V++Q)
|0,V,P,Q,u,k,h,f=>by
  have:V=[]:=axZ.1 h;subst this;rfl
|n+1,V,P,Q,u,k,h,f=>by
  have a:V≠[]:=λe=>by rw[e] at h;simp at h
  have b:=aA3 a;have c:V.dropLast.length=n:=by rw[aBs];omega
  show down d n (k - 1) (sw d (P++(V++u::Q)) k (k - 1))=_;generalize V.getLast a=v at b;generalize V.dropLast=W at b c;subst b;have e:P++(W++[v]++u::Q)=(P++W)++v::([]++u::Q):=sm
  rw[e,Yf (P++W) [] Q v u (by rw[auH];omega) (by simp;omega)];have e2:(P++W)++u::([]++v::Q)=P++(W++u::(v::Q)):=sm
  rw[e2,TC n W P (v::Q) u c om];simp
theorem VW {p:Nat->Bool}:∀(f i j:Nat),j - i<=f->i<=j->(∀c e,i<=c->c<=e->e < j->p c=aw->p e=aw) ->
  i<=bs p f i j∧bs p f i j<=j∧(∀c,i<=c->c < bs p f i j->p c=au)∧(∀c,bs p f i j<=c->c < j->p c=aw)
|0,i,j,o,k,_=>⟨auL _,k,λc g d=>absurd d (by unfold bs;omega),λc g d=>by unfold bs at g;omega⟩
|f+1,i,j,o,k,hm=>by
  unfold bs;by_cases h:i < j
  ·rw[auC h];by_cases hp:p ((i+j) / 2)=aw
   ·rw[auC hp];obtain⟨a,b,c,e⟩:=VW f i ((i+j) / 2) om om λc e g d n m=>hm c e g d om m;refine⟨a,om,c,λx g d=>?_⟩;rcases avI x ((i+j) / 2) with l|l
    ·exact e x g l
    ·exact hm _ x om l d hp
   ·rw[auB hp];obtain⟨a,b,c,e⟩:=VW f ((i+j) / 2+1) j om om λc e g d n m=>hm c e om d n m;refine⟨om,b,λx g d=>?_,e⟩;rcases avI ((i+j) / 2) x with l|l
    ·exact c x om d
    ·cases q:p x with
    |false=>rfl
    |true=>exact absurd (hm x _ g l om q) hp
  ·rw[auB h];exact⟨auL _,k,λc g d=>by omega,λc g d=>by omega⟩
end
end Srt
end
section
namespace Srt
section
variable {α:Type}{d:α}{wt:α->Nat}
def srt (wt:α->Nat)(l:List α):Prop:=l.Pairwise λx y=>wt x<=wt y
theorem KK {A B:List α}(a:srt wt A)(b:srt wt B)(h:∀x∈A,∀y∈B,wt x<=wt y):srt wt (A++B):=ayL.2 ⟨a,b,h⟩
theorem B7 {V:List α}(h:srt wt V)(c:i<=j)(a:j < V.length):wt (V.getD i d)<=wt (V.getD j d):=by
 rw[auK,auK,auO a,auO om];rcases avI i j with b|b
 ·exact ayX.1 h i j om a b
 ·obtain rfl:i=j:=om
  exact auL _
theorem mC {V:List α}{P:α->Prop}{k:Nat}(h:∀i,i < k->i < V.length->P (V.getD i d)):∀x∈V.take k,P x:=by
 intro x a;obtain⟨i,hi,rfl⟩:=axX a;rw[auM] at hi;have:=h i om om;rw[auK,auO om] at this;rw[aAl];exact this
theorem NI {V:List α}{P:α->Prop}{k:Nat}(h:∀i,k<=i->i < V.length->P (V.getD i d)):∀x∈V.drop k,P x:=by
 intro x a;obtain⟨i,hi,rfl⟩:=axX a;rw[auT] at hi;have:=h (k+i) om om;rw[auK,auO om] at this;rw[List.getElem_drop];exact this
theorem Cx {V:List α}(h:srt wt V)(k:Nat):srt wt (V.take k):=List.Pairwise.sublist (aAT k V) h
theorem E6 {V:List α}(h:srt wt V)(k:Nat):srt wt (V.drop k):=List.Pairwise.sublist (List.drop_sublist k V) h
theorem OG {P U R:List α}{c:Nat}(a:P.length<=c)(b:c < P.length+U.length):(P++(U++R)).getD c d=U.getD (c - P.length) d:=by
 have:=getD_in (d:=d) (P:=P) (V:=U) (R:=R) (i:=c - P.length) om;rw[show P.length+(c - P.length)=c by omega] at this;exact this
theorem EI {P U V R:List α}{c:Nat}(a:P.length+U.length<=c)(b:c < P.length+U.length+V.length):(P++(U++(V++R))).getD c d=V.getD (c - (P.length+U.length)) d:=by
 rw[<-auN P,OG (by rw[auH];exact a) (by rw[auH];exact b),auH]
theorem agI (P V Q:List α)(u:α)(f:Nat)(g:srt wt V){a:Nat}(t:a=P.length)(hm:m=P.length+1)(E:b=m+V.length) :
  ∃W,sym d wt (f+1) a m b (P++u::(V++Q))=P++(W++Q)∧W.Perm (u::V)∧srt wt W:=by
 have l:∀c,m<=c->c < b->(P++u::(V++Q)).getD c d=V.getD (c - m) d:=λc n o=>by
  have:=EI (d:=d) (P:=P) (U:=[u]) (V:=V) (R:=Q) (c:=c) (by simp;omega) (by simp;omega);rw[show P++u::(V++Q)=P++([u]++(V++Q)) by simp,this]
  congr 1
  simp;omega
 have hu:(P++u::(V++Q)).getD a d=u:=by rw[t];exact getD_at
 unfold sym;rw[auC om];obtain⟨s1,s2,v,w⟩:=VW (p:=λh=>!lt wt ((P++u::(V++Q)).getD h d) ((P++u::(V++Q)).getD a d)) (b - m) m b om om (by
  intro c e n o A B;simp only[l c n om,l e om A,hu,lt,azJ,awY] at B ⊢;have:=B7 (d:=d) g (i:=c - m) (j:=e - m) om om;omega)
 generalize bs (λh=>!lt wt ((P++u::(V++Q)).getD h d) ((P++u::(V++Q)).getD a d)) (b - m) m b=s at s1 s2 v w ⊢;have C:(V.take (s - m)).length=s - m:=by rw[auM];omega
 have e:=afD (d:=d) (V.take (s - m)) P (V.drop (s - m)++Q) u (k:=a) t;rw[<-auN (V.take (s - m)),avV,C] at e;rw[show s - 1 - a=s - m by omega,e];refine⟨V.take (s - m)++u::V.drop (s - m),sm,?_,?_⟩
 ·have h:(V.take (s - m)++u::V.drop (s - m)).Perm (u::(V.take (s - m)++V.drop (s - m))):=List.perm_middle
  rwa [avV] at h
 ·refine KK (Cx g _) (axD.2 ⟨?_,E6 g _⟩) ?_
  ·refine NI (d:=d) (P:=λy=>wt u<=wt y) λi n o=>?_;have:=w (i+m) om om;simp only[l (i+m) om om,hu,lt,azJ,awY] at this;rw[ayS] at this;omega
  ·intro x z y q;have D:wt x < wt u:=mC (d:=d) (P:=λy=>wt y < wt u) (λi n o=>by
    have:=v (i+m) om om;simp only[l (i+m) om om,hu,lt,Bool.not_eq_false',avK] at this;rw[ayS] at this;exact this) x z
   rcases auI.1 q with rfl|q
   ·omega
   ·have:=Cx g V.length;have r:(V.take (s - m)++V.drop (s - m)).Pairwise λx y=>wt x<=wt y:=by rw[avV];exact g
    exact (ayL.1 r).2.2 x z y q
theorem Z6 (P U Q:List α)(v:α)(f:Nat)(hu:srt wt U){a:Nat}(A:a=P.length)(hm:m=a+U.length)(F:b=m+1)(B:m - a≠1) :
  ∃W,sym d wt (f+1) a m b (P++(U++v::Q))=P++(W++Q)∧W.Perm (U++[v])∧srt wt W:=by
 have g:∀c,a<=c->c < m->(P++(U++v::Q)).getD c d=U.getD (c - a) d:=λc l n=>by
  rw[OG om om,A]
 have o:(P++(U++v::Q)).getD m d=v:=by
  rw[<-auN,show m=(P++U).length by rw[auH];omega];exact getD_at
 unfold sym;rw[auB B,auC om];obtain⟨s1,s2,u,w⟩:=VW (p:=λh=>lt wt ((P++(U++v::Q)).getD m d) ((P++(U++v::Q)).getD h d)) (m - a) a m om om (by
  intro c e l n C D;simp only[g c l om,g e om C,o,lt,avK] at D ⊢;have:=B7 (d:=d) hu (i:=c - a) (j:=e - a) om om;omega)
 generalize bs (λh=>lt wt ((P++(U++v::Q)).getD m d) ((P++(U++v::Q)).getD h d)) (m - a) a m=s at s1 s2 u w ⊢;have G:(U.take (s - a)).length=s - a:=by rw[auM];omega
 have E:(U.drop (s - a)).length=m - s:=by rw[auT];omega
 have e:=TC (d:=d) (m - s) (U.drop (s - a)) (P++U.take (s - a)) Q v (k:=m) E (by rw[auH];omega);rw[auN,<-auN (U.take (s - a)),avV] at e;rw[e];refine⟨U.take (s - a)++v::U.drop (s - a),sm,?_,?_⟩
 ·have h:(U.take (s - a)++v::U.drop (s - a)).Perm (v::(U.take (s - a)++U.drop (s - a))):=List.perm_middle;rw[avV] at h;exact h.trans (aAk (l₁:=[v]) (l₂:=U))
 ·refine KK (Cx hu _) (axD.2 ⟨?_,E6 hu _⟩) ?_
  ·refine NI (d:=d) (P:=λy=>wt v<=wt y) λi l n=>?_;have:=w (i+a) om om;simp only[g (i+a) om om,o,lt,avK] at this;rw[ayS] at this;omega
  ·intro x z y q;have r:wt x<=wt v:=mC (d:=d) (P:=λy=>wt y<=wt v) (λi l n=>by
    have:=u (i+a) om om;simp only[g (i+a) om om,o,lt,awY] at this;rw[ayS] at this;omega) x z
   rcases auI.1 q with rfl|q
   ·exact r
   ·have t:(U.take (s - a)++U.drop (s - a)).Pairwise λx y=>wt x<=wt y:=by rw[avV];exact hu
    exact (ayL.1 t).2.2 x z y q
theorem Tp:∀(f:Nat) (P U V Q:List α) {a m b:Nat},U.length+V.length<=f->0 < U.length->0 < V.length->srt wt U->srt wt V->a=P.length->m=a+U.length->b=m+V.length ->
  ∃W,sym d wt f a m b (P++(U++(V++Q)))=P++(W++Q)∧W.Perm (U++V)∧srt wt W
|0,P,U,V,Q,a,m,b,hf,hU,hV,_,_,_,_,_=>by omega
|f+1,P,U,V,Q,a,m,b,hf,hU,hV,r,t,D,hm,Y=>by
  by_cases L:U.length=1
  ·obtain⟨u,rfl⟩:=aA9.1 L;exact agI P V Q u f t D (by simp at hm;omega) Y
  by_cases B:V.length=1
  ·obtain⟨v,rfl⟩:=aA9.1 B;exact Z6 P U Q v f r D hm (by simpa using Y) om
  unfold sym;rw[auB om,auB om];dsimp only;generalize E:(a+b) / 2=g;generalize w:(if g < m then g+m - b else a)=lo;generalize F:(if g < m then g else m)=hi;have Z:a<=lo∧g+m - b<=lo∧(lo=a∨lo=g+m - b):=by
   rw[<-w];split<;>omega
  have a1:hi<=m∧hi<=g∧lo<=hi∧(hi=m∨hi=g):=by
   rw[<-F,<-w];split<;>omega
  have gU:∀c,a<=c->c < m->(P++(U++(V++Q))).getD c d=U.getD (c - a) d:=λc L B=>by
   rw[OG om om,D]
  have gV:∀c,m<=c->c < b->(P++(U++(V++Q))).getD c d=V.getD (c - m) d:=λc L B=>by
   rw[EI om om,hm,D]
  have hp:∀c,lo<=c->c < hi->(lt wt ((P++(U++(V++Q))).getD (g+m - 1 - c) d) ((P++(U++(V++Q))).getD c d)=aw↔wt (V.getD (g - 1 - c) d) < wt (U.getD (c - a) d)):=λc L B=>by
   rw[gU c om om,gV (g+m - 1 - c) om om,show g+m - 1 - c - m=g - 1 - c by omega];simp[lt]
  obtain⟨s1,s2,s3,s4⟩:=VW (p:=λc=>lt wt ((P++(U++(V++Q))).getD (g+m - 1 - c) d) ((P++(U++(V++Q))).getD c d)) (b - a) lo hi om om (by
   intro c e k1 k2 k3 k4;have k4:=(hp c k1 om).1 k4;refine (hp e om k3).2 ?_;have M:=B7 (d:=d) r (i:=c - a) (j:=e - a) om om;have C:=B7 (d:=d) t (i:=g - 1 - e) (j:=g - 1 - c) om om;omega)
  have hs:I4 d wt (P++(U++(V++Q))) a m b=bs (λc=>lt wt ((P++(U++(V++Q))).getD (g+m - 1 - c) d) ((P++(U++(V++Q))).getD c d)) (b - a) lo hi:=by
   unfold I4;rw[E,w,F]
  rw[hs];generalize bs (λc=>lt wt ((P++(U++(V++Q))).getD (g+m - 1 - c) d) ((P++(U++(V++Q))).getD c d)) (b - a) lo hi=s at s1 s2 s3 s4 ⊢;have N:U.take (s - a)++U.drop (s - a)=U:=avV ..
  have O:V.take (g - s)++V.drop (g - s)=V:=avV ..
  have a6:(U.take (s - a)).length=s - a:=by rw[auM];omega
  have S:(U.drop (s - a)).length=m - s:=by rw[auT];omega
  have T:(V.take (g - s)).length=g - s:=by rw[auM];omega
  have a7:(V.drop (g - s)).length=b - (g+m - s):=by rw[auT];omega
  have G:=Cx r (s - a);have H:=E6 r (s - a);have I:=Cx t (g - s);have J:=E6 t (g - s);have z:∀x∈U.take (s - a)++V.take (g - s),∀y∈U.drop (s - a)++V.drop (g - s),wt x<=wt y:=by
   have cU:(U.take (s - a)++U.drop (s - a)).Pairwise λx y=>wt x<=wt y:=by rw[N];exact r
   have cV:(V.take (g - s)++V.drop (g - s)).Pairwise λx y=>wt x<=wt y:=by rw[O];exact t
   intro x n y o;rcases avF.1 n with n|n<;>rcases avF.1 o with o|o
   ·exact (ayL.1 cU).2.2 x n y o
   ·refine NI (d:=d) (P:=λy=>wt x<=wt y) (λj j1 j2=>?_) y o;refine mC (d:=d) (P:=λx=>wt x<=wt (V.getD j d)) (λi i1 i2=>?_) x n;rcases avI lo s with h|h
    ·have q:=s3 (s - 1) om om;have q:¬wt (V.getD (g - 1 - (s - 1)) d) < wt (U.getD (s - 1 - a) d):=λk=>by
      rw[(hp (s - 1) om om).2 k] at q;cases q
     have M:=B7 (d:=d) r (i:=i) (j:=s - 1 - a) om om;have C:=B7 (d:=d) t (i:=g - 1 - (s - 1)) (j:=j) om om;omega
    ·omega
   ·refine NI (d:=d) (P:=λy=>wt x<=wt y) (λj j1 j2=>?_) y o;refine mC (d:=d) (P:=λx=>wt x<=wt (U.getD j d)) (λi i1 i2=>?_) x n;rcases avI s hi with h|h
    ·have q:=(hp s om h).1 (s4 s (auL _) h);have M:=B7 (d:=d) r (i:=s - a) (j:=j) om om;have C:=B7 (d:=d) t (i:=i) (j:=g - 1 - s) om om;omega
    ·omega
   ·exact (ayL.1 cV).2.2 x n y o
  have x1:(if s < m∧m < g+m - s then rot d (g+m - s - s) (m - s) (g+m - s - m) m (P++(U++(V++Q))) else P++(U++(V++Q)))=P++(U.take (s - a)++(V.take (g - s)++(U.drop (s - a)++(V.drop (g - s)++Q)))):=by
   by_cases h:s < m∧m < g+m - s
   ·rw[auC h];have e:=RT (d:=d) (g+m - s - s) (P++U.take (s - a)) (U.drop (s - a)) (V.take (g - s)) (V.drop (g - s)++Q) (m:=m) om om om (by rw[auH];omega);rw[S,T] at e;rw[show g+m - s - m=g - s by omega];have e1:P++U.take (s - a)++(U.drop (s - a)++(V.take (g - s)++(V.drop (g - s)++Q)))=P++(U++(V++Q)):=by
     rw[<-auN (V.take _),O,auN,<-auN (U.take _),N]
    rw[e1] at e;rw[e,auN]
   ·rw[auB h];have e0:P++(U++(V++Q))=P++((U.take (s - a)++U.drop (s - a))++((V.take (g - s)++V.drop (g - s))++Q)):=by rw[N,O]
    rw[e0];rcases (by omega:m - s=0∨g - s=0) with K|K
    ·have e:U.drop (s - a)=[]:=axZ.1 om;rw[e];simp only[avA,avU,auN]
    ·have e:V.take (g - s)=[]:=axZ.1 om;rw[e];simp only[avA,avU,auN]
  rw[x1];have x2:∃l,(if a < s∧s < g then sym d wt f a s g (P++(U.take (s - a)++(V.take (g - s)++(U.drop (s - a)++(V.drop (g - s)++Q))))) else P++(U.take (s - a)++(V.take (g - s)++(U.drop (s - a)++(V.drop (g - s)++Q)))))=P++(l++(U.drop (s - a)++(V.drop (g - s)++Q)))∧l.Perm (U.take (s - a)++V.take (g - s))∧srt wt l:=by
   by_cases h:a < s∧s < g
   ·rw[auC h];exact Tp f P (U.take (s - a)) (V.take (g - s)) (U.drop (s - a)++(V.drop (g - s)++Q)) om om om G I D om om
   ·rw[auB h];refine⟨U.take (s - a)++V.take (g - s),sm,ayU _,?_⟩;rcases (by omega:s - a=0∨g - s=0) with K|K
    ·have:U.take (s - a)=[]:=axZ.1 om;rw[this];exact I
    ·have:V.take (g - s)=[]:=axZ.1 om;rw[this,avA];exact G
  obtain⟨l,e2,X,M⟩:=x2;rw[e2];have a8:l.length=g - a:=by rw[X.length_eq,auH];omega
  have x3:∃A,(if g < g+m - s∧g+m - s < b then sym d wt f g (g+m - s) b (P++(l++(U.drop (s - a)++(V.drop (g - s)++Q)))) else P++(l++(U.drop (s - a)++(V.drop (g - s)++Q))))=P++(l++(A++Q))∧A.Perm (U.drop (s - a)++V.drop (g - s))∧srt wt A:=by
   by_cases h:g < g+m - s∧g+m - s < b
   ·rw[auC h];obtain⟨A,e3,R,C⟩:=Tp f (P++l) (U.drop (s - a)) (V.drop (g - s)) Q (a:=g) (m:=g+m - s) (b:=b) om om om H J (by rw[auH];omega) om om;rw[auN,auN] at e3;exact⟨A,e3,R,C⟩
   ·rw[auB h];refine⟨U.drop (s - a)++V.drop (g - s),sm,ayU _,?_⟩;rcases (by omega:m - s=0∨b - (g+m - s)=0) with K|K
    ·have:U.drop (s - a)=[]:=axZ.1 om;rw[this];exact J
    ·have:V.drop (g - s)=[]:=axZ.1 om;rw[this,avA];exact H
  obtain⟨A,e3,R,C⟩:=x3;refine⟨l++A,by rw[e3,auN],?_,KK M C λx n y o=>z x (X.mem_iff.1 n) y (R.mem_iff.1 o)⟩;have h:=X.append R;refine h.trans ?_;have B:((U.take (s - a)++V.take (g - s))++(U.drop (s - a)++V.drop (g - s))).Perm ((U.take (s - a)++U.drop (s - a))++(V.take (g - s)++V.drop (g - s))):=by
   rw[auN,auN];refine aBt _ ?_;rw[<-auN,<-auN];exact List.Perm.append_right _ aAk
  rwa [N,O] at B
end
end Srt
end
section
namespace Srt
section
variable {α:Type}{d:α}{wt:α->Nat}
theorem Ya (P:List α)(x:α):∀(n:Nat) (U R:List α),U.length=n->srt wt U->∃W,MM d wt P.length (P.length+n) (P++(U++x::R))=P++(W++R)∧W.Perm (U++[x])∧srt wt W
|0,U,R,f,_=>by
  have:U=[]:=axZ.1 f;subst this;refine⟨[x],?_,ayU _,by unfold srt;simp⟩;show MM d wt P.length P.length _=_;cases P with
 |nil=>rfl
 |cons p P=>
   show MM d wt (P.length+1) (P.length+1) _=_;unfold MM;rw[auB om];rfl
|n+1,U,R,f,g=>by
  have b:U≠[]:=λe=>by rw[e] at f;simp at f
  have i:=aA3 b;have k:U.dropLast.length=n:=by rw[aBs];omega
  generalize U.getLast b=v at i;generalize U.dropLast=Y at i k;subst i;have e:P++(Y++[v]++x::R)=(P++Y)++v::([]++x::R):=sm
  have g1:(P++(Y++[v]++x::R)).getD (P.length+n) d=v:=by
   rw[e,show P.length+n=(P++Y).length by rw[auH];omega];exact getD_at
  have g2:(P++(Y++[v]++x::R)).getD (P.length+n+1) d=x:=by
   rw[show P++(Y++[v]++x::R)=(P++(Y++[v]))++x::R by simp,show P.length+n+1=(P++(Y++[v])).length by simp;omega];exact getD_at
  have m:srt wt Y:=(ayL.1 g).1;have c:∀y∈Y,wt y<=wt v:=λy a=>(ayL.1 g).2.2 y a v (aA8 v);show ∃W,MM d wt P.length (P.length+n+1) _=_∧_;unfold MM;rw[g1,g2];by_cases h:wt x < wt v
  ·rw[auC ⟨om,by simp[lt,h]⟩,e,Yf (P++Y) [] R v x (by rw[auH];omega) (by simp;omega)];have e2:P++Y++x::([]++v::R)=P++(Y++x::(v::R)):=sm
   rw[e2];obtain⟨W,e3,l,o⟩:=Ya P x n Y (v::R) k m;refine⟨W++[v],by rw[e3];simp,?_,KK o (by unfold srt;simp) ?_⟩
   ·refine (l.append_right [v]).trans ?_;rw[auN,auN];exact aBt _ (List.Perm.swap v x [])
   ·intro y a z j;rw[avD.1 j];rcases avF.1 (l.mem_iff.1 a) with a|a
    ·exact c y a
    ·rw[avD.1 a];omega
  ·rw[auB (by intro q;have:=q.2;simp[lt] at this;omega)];refine⟨Y++[v]++[x],sm,ayU _,KK g (by unfold srt;simp) ?_⟩;intro y a z j;rw[avD.1 j];rcases avF.1 a with a|a
   ·have:=c y a;omega
   ·rw[avD.1 a];omega
theorem Xq (P:List α):∀(Y U R:List α) {i:Nat},i=P.length+U.length->srt wt U->∃W,OQ d wt P.length Y.length i (P++(U++(Y++R)))=P++(W++R)∧W.Perm (U++Y)∧srt wt W
|[],U,R,i,_,a=>⟨U,rfl,by rw[avA],a⟩
|y::Y,U,R,i,hi,a=>by
  show ∃W,OQ d wt P.length Y.length (i+1) (MM d wt P.length i (P++(U++y::(Y++R))))=_∧_;subst hi;obtain⟨W,e,p,q⟩:=Ya (d:=d) P y U.length U (Y++R) rfl a;rw[e];have f:W.length=U.length+1:=by rw[p.length_eq,auH];rfl
  obtain⟨Z,e2,b,c⟩:=Xq P Y W R (i:=P.length+U.length+1) om q;refine⟨Z,e2,b.trans ?_,c⟩;have:=p.append_right Y;simpa using this
theorem aeD (P Y R:List α){a:Nat}(e:a=P.length)(c:b=a+Y.length):∃W,ins d wt (P++(Y++R)) a b=P++(W++R)∧W.Perm Y∧srt wt W:=by
 subst e;unfold ins;cases Y with
|nil=>
  refine⟨[],?_,ayU _,List.Pairwise.nil⟩;rw[show b - (P.length+1)=0 by simp at c;omega];rfl
|cons y Y=>
  have h:=Xq (d:=d) (wt:=wt) P Y [y] R (i:=P.length+1) sm (by unfold srt;simp);rw[show b - (P.length+1)=Y.length by simp at c;omega];exact h
def bks (wt:α->Nat)(n:Nat)(l:List α):Prop:=∀k,srt wt ((l.drop (k*n)).take n)
theorem WE {l:List α}(h:srt wt l)(n:Nat):bks wt n l:=λk=>Cx (E6 h _) _
theorem SB {W T:List α}{n:Nat}(b:srt wt W)(a:W.length=n)(c:bks wt n T):bks wt n (W++T):=by
 intro k;cases k with
|zero=>
  rw[axP,axB,<-a,List.take_left];exact b
|succ k=>
  rw[awS,aAf,<-ayM,<-a,List.drop_left,a];exact c k
theorem Z5 {l:List α}{n:Nat}(h:bks wt n l)(j:Nat):bks wt n (l.drop (j*n)):=by
 intro k;rw[ayM,<-axE];exact h _
theorem aeY {n:Nat}(i:0 < n):∀(f:Nat) (P T:List α) {a:Nat},T.length < f->a=P.length->∃T',blk d wt n f a (P++T)=P++T'∧T'.Perm T∧bks wt n T'
|0,_,_,_,h,_=>by omega
|f+1,P,T,a,o,c=>by
  unfold blk;rw[auH];by_cases h:a+n<=P.length+T.length
  ·rw[auC h];have g:T.take n++T.drop n=T:=avV ..
   have j:(T.take n).length=n:=by rw[auM];omega
   have r:(T.drop n).length=T.length - n:=auT;obtain⟨W,e,p,q⟩:=aeD (d:=d) (wt:=wt) P (T.take n) (T.drop n) (a:=a) (b:=a+n) c om;rw[g] at e;have k:W.length=n:=by rw[p.length_eq,j]
   obtain⟨T',e2,l,m⟩:=aeY i f (P++W) (T.drop n) (a:=a+n) om (by rw[auH];omega);rw[e,<-auN,e2];refine⟨W++T',by rw[auN],?_,SB q k m⟩;have:=p.append l
   rwa [g] at this
  ·rw[auB h];obtain⟨W,e,p,q⟩:=aeD (d:=d) (wt:=wt) P T [] (a:=a) (b:=P.length+T.length) c om;rw[avA,avA] at e;exact⟨W,e,p,WE q n⟩
theorem acX {n:Nat}(l:0 < n):∀(f:Nat) (P T:List α) {a:Nat},T.length < f->a=P.length->bks wt n T->∃T',mrg d wt n f a (P++T)=P++T'∧T'.Perm T∧bks wt (2*n) T'
|0,_,_,_,h,_,_=>by omega
|f+1,P,T,a,t,j,g=>by
  unfold mrg;rw[auH];have c:srt wt (T.take n):=by have:=g 0;rwa [axP,axB] at this
  have i:srt wt ((T.drop n).take n):=by have:=g 1;rwa [aAb] at this
  have e1:T.take n++T.drop n=T:=avV ..
  have u:(T.take n).length=min n T.length:=auM;have v:(T.drop n).length=T.length - n:=auT;by_cases h:a+2*n<=P.length+T.length
  ·rw[auC h];have e2:(T.drop n).take n++T.drop (2*n)=T.drop n:=by rw[Nat.two_mul,<-ayM];exact avV ..
   have w:((T.drop n).take n).length=n:=by rw[auM];omega
   have x:(T.drop (2*n)).length=T.length - 2*n:=auT;obtain⟨W,e,p,q⟩:=Tp (d:=d) (wt:=wt) (2*n) P (T.take n) ((T.drop n).take n) (T.drop (2*n)) (a:=a) (m:=a+n) (b:=a+2*n) om om om c i j om om;rw[e2,e1] at e;have o:W.length=2*n:=by rw[p.length_eq,auH];omega
   obtain⟨T',e3,r,s⟩:=acX l f (P++W) (T.drop (2*n)) (a:=a+2*n) om (by rw[auH];omega) (Z5 g 2);rw[e,<-auN,e3];refine⟨W++T',by rw[auN],?_,SB q o s⟩;have:=p.append r;rw[auN,e2,e1] at this;exact this
  ·rw[auB h];by_cases k:a+n < P.length+T.length
   ·rw[auC k];have e2:(T.drop n).take n=T.drop n:=avE om;rw[e2] at i;obtain⟨W,e,p,q⟩:=Tp (d:=d) (wt:=wt) (P.length+T.length - a) P (T.take n) (T.drop n) [] (a:=a) (m:=a+n) (b:=P.length+T.length) om om om c i j om om;rw[avA,avA,e1] at e;rw[e1] at p;exact⟨W,e,p,WE q _⟩
   ·rw[auB k];rw[avE om] at c;exact⟨T,rfl,ayU _,WE c _⟩
theorem PN:∀(f n:Nat) (xs:List α),0 < n->xs.length < f+n->bks wt n xs->(rounds d wt f n xs).Perm xs∧srt wt (rounds d wt f n xs)
|0,n,xs,b,g,h=>by
  have:=h 0;rw[axP,axB,avE om] at this;exact⟨ayU _,this⟩
|f+1,n,xs,b,g,h=>by
  unfold rounds;by_cases c:n < xs.length
  ·rw[auC c];obtain⟨T',e,p,q⟩:=acX (d:=d) b (xs.length+1) [] xs (a:=0) om rfl h;rw[avU,avU] at e;rw[e];have k:=p.length_eq;obtain⟨i,j⟩:=PN f (2*n) T' om om q;exact⟨i.trans p,j⟩
  ·rw[auB c];have:=h 0;rw[axP,axB,avE om] at this;exact⟨ayU _,this⟩
theorem Xe (d:α)(wt:α->Nat)(xs:List α):(L5 d wt xs).Perm xs∧srt wt (L5 d wt xs):=by
 unfold L5;obtain⟨T',e,p,q⟩:=aeY (d:=d) (wt:=wt) (n:=20) dc (xs.length+1) [] xs (a:=0) om rfl;rw[avU,avU] at e;rw[e];have f:=p.length_eq;obtain⟨b,c⟩:=PN (d:=d) (xs.length+1) 20 T' dc om q;exact⟨b.trans p,c⟩
end
end Srt
end
section
open Eng
def cD(t6 t25 t26 t27 w)(a:JT)(K:KT):=nz f323 175 [a] [nh 23 [6,27]] [] (zg [6,25,26,27] [t6,t25,t26,t27]) w K
def cC(t3 t11 w)(N1:JT)(K:KT):=nz f323 491 [N1] [nh 7 [3,11]] [] (zg [3,11] [t3,t11]) w K
def cB(t0 t3 t9 t10 t11 w)(N1:JT)(K:KT):=nz f323 43 [N1] [nh 7 [3,11],(16,[3],λs v j w f=>cC (vg v 0) (s 11) w (f 0) K),(23,[6,27],λs v j w f=>cD (vg v 0) (s 25) (s 26) (vg v 1) w (f 0) K)] [] (zg [0,3,9,10,11] [t0,t3,t9,t10,t11]) w K
def cH(t0 w)(K:KT):=nz f323 1 [] [(7,[3,11],λs v j w f=>cB (s 0) (vg v 0) (s 9) (s 10) (vg v 1) w (f 0) K)] [] (zg [0] [t0]) w K
theorem eW:cH t0 w k0->Calls ah 323 #[t0] w k0:=cz [(8,[3])] [(3,[3,11]),(11,[6,27])] func323
def cL(t0 w)(K:KT):=nz f333 15 [] [] [] (zg [0] [t0]) w K
def cK(t0 t1 w)(K:KT):=nz f333 7 [] [(12,[0],λs v j w f=>cL (vg v 0) w K)] [] (zg [0,1] [t0,t1]) w K
def cM(t0 t1 w)(K:KT):=nz f333 1 [] [(6,[],λs v j w f=>cK (s 0) (s 1) w K)] [] (zg [0,1] [t0,t1]) w K
theorem fE:cM t0 t1 w k0->Calls ah 333 #[t0,t1] w k0:=cz [(3,[]),(6,[0])] [] func333
def bV(t0 t1 w)(K:KT):=nz f324 1 [] [] [] (zg [0,1] [t0,t1]) w K
theorem dO:bV t0 t1 w k0->Calls ah 324 #[t0,t1] w k0:=cw func324
def cO(c d e f b w)(N1 H:JT)(K:KT):=
 oY w (λF=>QDo ah F (iQ .gtr 3 b d) λa=>GQ a aw (λE=>E e) λg=>GQ a aw (λE=>E c) λh=>GQ a aw (λE=>E b) λi=>GQ a aw (λE=>QDo ah F (mIA 326 h i) E) λj=>GQ a aw (λE=>QDo ah F (aH 327 j) E) λk=>GQ a aw (λE=>E c) λl=>GQ a aw (λE=>E b) λm=>GQ a aw (λE=>QDo ah F (iQ .sub 3 m (iN 1)) E) λn=>GQ a aw (λE=>QDo ah F (mIA 326 l n) E) λo=>GQ a aw (λE=>QDo ah F (aH 327 o) E) λp=>GQ a aw (λE=>QDo ah F (iO g #[k,p]) E) λq=>GQ a aw (λE=>QDo ah F (iQ .lss 3 q (iN 0)) E) λr=>QDo ah F (iB a r (.bool au)) λs=>
 ∀w,F w ->
 IfX s (oY w (λG=>PDo ah (iQ .sub 3 b (iN 1)) λt=>QDo ah G (iQ .sub 3 b (iN 1)) λu=>QDo ah G (mIA 326 c u) λv=>QDo ah G (aH 327 v) λx=>QDo ah G (mIA 326 c b) λy=>QDo ah G (aH 327 y) λz=>QDo ah G (mIA 326 c b) λA=>
 ∀w,G w ->
 DoX ah (aN 327 A x) w (az 3 (pk K)) λ_ w=>DoX ah (mIA 326 c t) w (az 3 (pk K)) λB w=>DoX ah (aN 327 B z) w (az 3 (pk K)) λ_ w=>bnx .sub 3 b (iN 1) w K λC w=>H [C] w)) (bnx .add 3 f (iN 1) w K λD w=>N1 [D] w))
def cN(t0 t1 t2 t3 t8 w)(N1:JT)(K:KT):=nz f338 5 [N1] [nh 3 [8],(9,[9],λs v j w f=>cO (s 0) (s 1) (s 3) (s 8) (vg v 0) w (f 1) (f 0) K)] [] (zg [0,1,2,3,8] [t0,t1,t2,t3,t8]) w K
def cT(t0 t1 t2 t3 w)(K:KT):=nz f338 1 [] [(3,[8],λs v j w f=>cN (s 0) (s 1) (s 2) (s 3) (vg v 0) w (f 0) K)] [] (zg [0,1,2,3] [t0,t1,t2,t3]) w K
theorem fL:cT t0 t1 t2 t3 w k0->Calls ah 338 #[t0,t1,t2,t3] w k0:=cz [] [(1,[8]),(4,[9])] func338
def dS(t0 t2 t4 t10 t11 w)(N1:JT)(K:KT):=nz f340 19 [N1] [nh 5 [10,11]] [] (zg [0,2,4,10,11] [t0,t2,t4,t10,t11]) w K
def eF(t0 t1 t2 t3 t4 w)(K:KT):=nz f340 1 [] [(5,[10,11],λs v j w f=>dS (s 0) (s 2) (s 4) (vg v 0) (vg v 1) w (f 0) K)] [] (zg [0,1,2,3,4] [t0,t1,t2,t3,t4]) w K
theorem gO:eF t0 t1 t2 t3 t4 w k0->Calls ah 340 #[t0,t1,t2,t3,t4] w k0:=cz [] [(2,[10,11])] func340
def dU(t6 w)(a:JT)(K:KT):=nz f334 1007 [a] [nh 15 [6]] [] (zg [6] [t6]) w K
def dP(t0 t1 t2 t6 t7 t8 w)(a b:JT)(K:KT):=nz f334 623 [a,b] [nh 15 [6],nh 19 [7,8],(32,[],λs v j w f=>dU (s 6) w (f 0) K)] [] (zg [0,1,2,6,7,8] [t0,t1,t2,t6,t7,t8]) w K
def dQ(t0 t1 t2 t6 w)(a:JT)(K:KT):=nz f334 47 [a] [nh 15 [6],(19,[7,8],λs v j w f=>dP (s 0) (s 1) (s 2) (s 6) (vg v 0) (vg v 1) w (f 1) (f 0) K)] [] (zg [0,1,2,6] [t0,t1,t2,t6]) w K
def dR(t0 t1 t2 t6 t7 t8 w)(N1:JT)(K:KT):=nz f334 19 [N1] [nh 5 [7,8],(15,[6],λs v j w f=>dQ (s 0) (s 1) (s 2) (vg v 0) w (f 0) K)] [] (zg [0,1,2,6,7,8] [t0,t1,t2,t6,t7,t8]) w K
def eD(t0 t1 t2 w)(K:KT):=nz f334 1 [] [(5,[7,8],λs v j w f=>dR (s 0) (s 1) (s 2) (s 6) (vg v 0) (vg v 1) w (f 0) K)] [] (zg [0,1,2] [t0,t1,t2]) w K
theorem gN:eD t0 t1 t2 w k0->Calls ah 334 #[t0,t1,t2] w k0:=cz [(16,[])] [(2,[7,8]),(7,[6]),(9,[7,8])] func334
def cX(b c d e a w)(N1:JT)(K:KT):=
 bnx .lss 3 a e w K λf w=>IfX f (oY w (λr=>PDo ah (iQ .add 3 d a) λg=>QDo ah r (iQ .add 3 c a) λh=>QDo ah r (iQ .add 3 d a) λi=>QDo ah r (mIA 326 b i) λj=>QDo ah r (aH 327 j) λk=>QDo ah r (iQ .add 3 c a) λl=>QDo ah r (mIA 326 b l) λm=>QDo ah r (aH 327 m) λn=>QDo ah r (mIA 326 b h) λo=>
 ∀w,r w ->
 DoX ah (aN 327 o k) w (az 4 (pk K)) λ_ w=>DoX ah (mIA 326 b g) w (az 4 (pk K)) λp w=>DoX ah (aN 327 p n) w (az 4 (pk K)) λ_ w=>bnx .add 3 a (iN 1) w K λq w=>N1 [q] w)) (K (.returned (.tuple #[])) w)
def dK(t0 t1 t2 t3 t4 w)(K:KT):=nz f341 1 [] [(3,[10],λs v j w f=>cX (s 0) (s 1) (s 2) (s 3) (vg v 0) w (f 0) K)] [] (zg [0,1,2,3,4] [t0,t1,t2,t3,t4]) w K
theorem fZ:dK t0 t1 t2 t3 t4 w k0->Calls ah 341 #[t0,t1,t2,t3,t4] w k0:=cz [] [(1,[10])] func341
def dE(t0 t3 t4 t18 t24 w)(K:KT):=nz f339 4095 [] [] [] (zg [0,3,4,18,24] [t0,t3,t4,t18,t24]) w K
def dI(t0 t1 t3 t4 t18 t20 t24 w)(K:KT):=nz f339 2047 [] [(86,[],λs v j w f=>dE (s 0) (s 3) (s 4) (s 18) (s 24) w K)] [] (zg [0,1,3,4,18,20,24] [t0,t1,t3,t4,t18,t20,t24]) w K
def dB(t0 t1 t2 t3 t4 t18 t19 t20 t21 t22 w)(a:JT)(K:KT):=nz f339 639 [a] [nh 67 [20,21],(82,[],λs v j w f=>dI (s 0) (s 1) (s 3) (s 4) (s 18) (s 20) (s 24) w K)] [(35,14)] (zg [0,1,2,3,4,18,19,20,21,22] [t0,t1,t2,t3,t4,t18,t19,t20,t21,t22]) w K
def dD(t0 t1 t2 t3 t4 t18 t19 t20 t21 w)(K:KT):=nz f339 127 [] [(67,[20,21],λs v j w f=>dB (s 0) (s 1) (s 2) (s 3) (s 4) (s 18) (s 19) (vg v 0) (vg v 1) (s 22) w (f 0) K)] [] (zg [0,1,2,3,4,18,19,20,21] [t0,t1,t2,t3,t4,t18,t19,t20,t21]) w K
def dF(b c a w)(o:JT)(K:KT):=
 bnx .gtr 3 a c w K λd w=>IfX d (oY w (λn=>PDo ah (iQ .sub 3 a (iN 1)) λe=>QDo ah n (iQ .sub 3 a (iN 1)) λf=>QDo ah n (mIA 326 b f) λg=>QDo ah n (aH 327 g) λh=>QDo ah n (mIA 326 b a) λi=>QDo ah n (aH 327 i) λj=>QDo ah n (mIA 326 b a) λk=>
 ∀w,n w ->
 DoX ah (aN 327 k h) w (az 3 (pk K)) λ_ w=>DoX ah (mIA 326 b e) w (az 3 (pk K)) λl w=>DoX ah (aN 327 l j) w (az 3 (pk K)) λ_ w=>bnx .sub 3 a (iN 1) w K λm w=>o [m] w)) (K (.returned (.tuple #[])) w)
def dH(t0 t2 t4 t14 t15 w)(a:JT)(K:KT):=nz f339 309 [a] [nh 31 [14,15],(43,[17],λs v j w f=>dF (s 0) (s 14) (vg v 0) w (f 0) K)] [(17,12)] (zg [0,2,4,14,15] [t0,t2,t4,t14,t15]) w K
def dC(b c a w)(p:JT)(K:KT):=
 bnx .sub 3 c (iN 1) w K λd w=>bnx .lss 3 a d w K λe w=>IfX e (oY w (λo=>PDo ah (iQ .add 3 a (iN 1)) λf=>QDo ah o (iQ .add 3 a (iN 1)) λg=>QDo ah o (mIA 326 b g) λh=>QDo ah o (aH 327 h) λi=>QDo ah o (mIA 326 b a) λj=>QDo ah o (aH 327 j) λk=>QDo ah o (mIA 326 b a) λl=>
 ∀w,o w ->
 DoX ah (aN 327 l i) w (az 3 (pk K)) λ_ w=>DoX ah (mIA 326 b f) w (az 3 (pk K)) λm w=>DoX ah (aN 327 m k) w (az 3 (pk K)) λ_ w=>bnx .add 3 a (iN 1) w K λn w=>p [n] w)) (K (.returned (.tuple #[])) w)
def dG(t0 t1 t4 t10 t11 w)(N1:JT)(K:KT):=nz f339 154 [N1] [nh 7 [10,11],(19,[13],λs v j w f=>dC (s 0) (s 10) (vg v 0) w (f 0) K)] [(5,11)] (zg [0,1,4,10,11] [t0,t1,t4,t10,t11]) w K
set_option maxHeartbeats 0 in
def dV(t0 t1 t2 t3 t4 w)(K:KT):=nz f339 1 [] [(7,[10,11],λs v j w f=>dG (s 0) (s 1) (s 4) (vg v 0) (vg v 1) w (f 0) K),(31,[14,15],λs v j w f=>dH (s 0) (s 2) (s 4) (vg v 0) (vg v 1) w (f 0) K),(64,[20,21],λs v j w f=>dD (s 0) (s 1) (s 2) (s 3) (s 4) (s 18) (s 19) (vg v 0) (vg v 1) w K)] [] (zg [0,1,2,3,4] [t0,t1,t2,t3,t4]) w K
theorem gH:dV t0 t1 t2 t3 t4 w k0->Calls ah 339 #[t0,t1,t2,t3,t4] w k0:=cz [(32,[20,21]),(41,[]),(43,[])] [(3,[10,11]),(9,[13]),(15,[14,15]),(21,[17]),(33,[20,21])] func339
end
section
open Eng Go.RowKit
theorem Eng.Zs {K:aq->Prop}(hp:cW P f=aw)(v:aq)(h:∀w,C w->Ret P f (fa++args++ca) w (λv' w'=>v'=v∧C w'))(k:K v):QDo P C (iO (.func (.func f) fa ca) args) K:=
 ⟨v,λw hw=>by
  have e:(iO (.func (.func f) fa ca) args).run P w=.ok (.enter f (fa++args++ca)) w:=by
   unfold iO;simp only[Deferred.ofValue,invoke,bind,pure,Sem.bind];exact jT hp _ _
  rw[e];exact⟨rfl,Calls.mono (h w hw) λ_ _ ⟨_,he,a,b⟩=>⟨by rw[he,a],b⟩⟩,k⟩
abbrev Pc:=aq×Cn
def pd:Pc:=(undef,.leaf 0 0)
def pcW (ps:List Pc):List Value:=ps.map (·.1)
abbrev pcE (v:aq)(ps:List Pc):Ent:=.urow 327 1 v ps.length (pcW ps)
def pw (x:Pc):Nat:=x.2.wt
def cmpI (a b:Nat):Int:=if a < b then -1 else if b < a then 1 else 0
theorem NM (a b:Nat):ai (cmpI a b < 0)=ai (a < b):=by
 unfold cmpI;split
 ·rename_i h;simp[h]
 ·rename_i h;split<;>simp[h]
structure CmpOk (M:Mem) (cv:aq) (ok:Pc->Prop):Prop where
 ptr:∀x,ok x->x.1.oneCell'=aw∧x.1.cells=#[x.1]
 run:∃f fa ca,cv=.func (.func f) fa ca∧cW ah f=aw∧∀W x y,M.has W->ok x->ok y->Ret ah f (fa++#[x.1,y.1]++ca) W (λv w'=>v=ad (cmpI (pw x) (pw y))∧Below W.heap.size W w')
theorem Pv:eS ah 327=true:=krx
theorem GX:(Tryz.prog.info? 327).map (·.size)=ay 1:=krx
theorem nm {d:α}{xs:List α}(hi:i < xs.length)(a:j < xs.length){x:α}(h:x∈Srt.sw d xs i j):x∈xs:=by
 unfold Srt.sw at h;rcases aAv h with h|h
 ·rcases aAv h with h|h
  ·exact h
  ·rw[h,auK,auO a];exact auS a
 ·rw[h,auK,auO hi];exact auS hi
theorem vU {ps:List Pc}(hi:i < ps.length):ps.getD i pd∈ps:=by
 rw[auK,auO hi];exact auS hi
theorem XJ {ps:List Pc}(hi:i < ps.length):(pcW ps)[i]?=ay (ps.getD i pd).1:=by
 unfold pcW;rw[ayO,auK,auO hi];rfl
theorem tD {g n:Nat}(hi:i < n)(W:ao):(mIA 326 (bO g 0 n cap) (ad (i:Int))).run ah W=.ok (.value (af g i)) W:=by
 have:=cZ (P:=ah) (T:=326) (b:=g) (off:=0) (cap:=cap) (n:=n) (k:=.i64) (i:=(i:Int)) (w:=W) axI GX om om
 rwa [auJ,avC,auP] at this
theorem BU {g n:Nat}{ps:List Pc}(h:(pcE (bO g 0 n cap) ps).is W)(hi:i < ps.length):(aH 327 (af g i)).run ah W=.ok (.value (ps.getD i pd).1) W:=by
 obtain⟨j,b,c,e,f⟩:=bR (Sl.urow h) om
 injection e with e1 e2 e3
 injection e1 with e1
 have d:=congrArg Addr.block e1;have a:=congrArg Addr.off e1;dsimp only at d a;subst d;subst a;have:=f i _ (XJ hi);rw[auP] at this;exact aB Pv this
section
variable {w:ao}{PK PK2 PK3:PKT}{K:VWP}{S:Nat->Prop}{w0:ao}{L T:List Ent}
theorem XX {ps:List Pc}{x:Pc}(hi:i < ps.length):(pcW ps).take i++[x.1]++(pcW ps).drop (i+[x.1].length)=pcW (ps.set i x):=by
 unfold pcW;rw[aAw,aBy,auC (by simpa using hi)];simp
theorem o_sw {g:Nat}{ps:List Pc}{N:ao->Prop}{ok:Pc->Prop}(f:CmpOk M cv ok)(a:bT S w0 w (pcE (bO g 0 ps.length cap) ps::T))(b:∀x∈ps,ok x)(hi:i < ps.length)(c:j < ps.length)
  (k:∀W,bT S w0 W (pcE (bO g 0 ps.length cap) (Srt.sw pd ps i j)::T)->N W) :
  DoX ah (aN 327 (af g i) (ps.getD j pd).1) w PK λ_ w=>DoX ah (mIA 326 (bO g 0 ps.length cap) (ad (j:Int))) w PK2 λt w=>DoX ah (aN 327 t (ps.getD i pd).1) w PK3 λ_ w=>N w:=by
 obtain⟨l,m⟩:=f.ptr _ (b _ (vU hi));obtain⟨n,o⟩:=f.ptr _ (b _ (vU c));refine Cw (sz:=1) (new:=[(ps.getD j pd).1]) 0 a rfl (by rw[o]) GX (λu hu=>by rw[avD.1 hu];exact n) (by simp;omega) λh a=>?_;have a:bT S w0 h (.urow 327 1 (bO g 0 (ps.set i (ps.getD j pd)).length cap) (ps.set i (ps.getD j pd)).length (pcW (ps.set i (ps.getD j pd)))::T):=by
  rw[<-XX hi,axC];exact a
 have d:j < (ps.set i (ps.getD j pd)).length:=by rw[axC];exact c
 refine aD (tD c h) |>.mpr ?_;refine Cw (sz:=1) (new:=[(ps.getD i pd).1]) 0 a rfl (by rw[m]) GX (λu hu=>by rw[avD.1 hu];exact l) (by simp;omega) λp a=>?_;refine k p ?_;unfold Srt.sw pcE;rw[<-XX d];have e:((ps.set i (ps.getD j pd)).set j (ps.getD i pd)).length=(ps.set i (ps.getD j pd)).length:=axC;rw[e];have e2:(ps.set i (ps.getD j pd)).length=ps.length:=axC;rw[e2] at a ⊢;exact a
theorem afS {g n a:Nat}{ps:List Pc}{o:aq}{ok:Pc->Prop}(q:CmpOk M o ok)(c:bT S w0 w (pcE (bO g 0 ps.length cap) ps::T))(p:∀x∈ps,ok x)(A:a+n<=ps.length)(B:b+n<=ps.length)(C:ps.length<=1000000000)
  (k:∀W,(∀x∈Srt.swr pd n a b ps,ok x)->bT S w0 W (pcE (bO g 0 ps.length cap) (Srt.swr pd n a b ps)::T)->K (.tuple #[]) W) :
  cR ah 341 #[bO g 0 ps.length cap,ad (a:Int),ad (b:Int),ad (n:Int),cv] w PK K:=by
 generalize r:Srt.swr pd n a b ps=R at k;refine gK (fZ (k0:=wT λv W=>v=.tuple #[]∧(∀x∈R,ok x)∧bT S w0 W (pcE (bO g 0 ps.length cap) R::T)) ?_) (λe W ⟨v,he,s,t,c⟩=>by subst he;subst s;exact k W t c);unfold dK nz;generalize u:ps.length=N at *;refine loop (λvs W=>∃(i:Nat) (d:List Pc),vs=[ad (i:Int)]∧i<=n∧d.length=N∧(∀x∈d,ok x)∧Srt.swr pd (n - i) (a+i) (b+i) d=R∧bT S w0 W (pcE (bO g 0 N cap) d::T)) (λvs _=>n - n0 vs) ⟨0,ps,rfl,om,u,p,r,c⟩ ?_;clear c;rintro vs D ⟨i,d,rfl,hi,y,f,j,c⟩ _;simp only[cX,gd,rs,iN,bnx];by_cases l:(i:Int) < (n:Int)
 ·simp only[l,auE,i_t];obtain⟨m,hm⟩:∃m,n - i=m+1:=⟨n - i - 1,om⟩;rw[hm] at j;unfold Srt.swr at j;refine cY (λW=>bT S w0 W (pcE (bO g 0 N cap) d::T)) c.drew ?_;refine p_do _ (λ_=>Fk) ?_;rw[aA om om,show (b:Int)+(i:Int)=((b+i:Nat):Int) by omega];refine sW ?_;rw[aA om om,show (a:Int)+(i:Int)=((a+i:Nat):Int) by omega];refine sW ?_;rw[aA om om,show (b:Int)+(i:Int)=((b+i:Nat):Int) by omega];refine dY _ (λW=>tD om W) (gA _ (λW h=>BU (h.at_ 0 rfl) om) ?_);refine sW ?_;rw[aA om om,show (a:Int)+(i:Int)=((a+i:Nat):Int) by omega];refine dY _ (λW=>tD om W) (gA _ (λW h=>BU (h.at_ 0 rfl) om) ?_);refine dY _ (λW=>tD om W) ?_;intro w2 c;subst y;refine o_sw q c f om om λw3 c=>?_
  try simp only[rs]
  rw[aA om om];refine bC ⟨i+1,Srt.sw pd d (a+i) (b+i),rfl,om,Srt.HN,λx z=>f x (nm om om z),?_,c⟩ (by simp[n0,RowKit.intOf];omega);rw[show n - (i+1)=m by omega];exact j
 ·simp only[l,auF,i_f];rw[show n - i=0 by omega] at j;unfold Srt.swr at j;subst j;exact vG ⟨rfl,f,c⟩
end
section
variable {w:ao}{PK PK2 PK3:PKT}{K:VWP}{S:Nat->Prop}{w0:ao}{L T:List Ent}
theorem arM {g a N:Nat}{ps:List Pc}{r:aq}{ok:Pc->Prop}(s:CmpOk M r ok)(u:ps.length=N)(c:bT S w0 w (pcE (bO g 0 N cap) ps::T))(t:∀x∈ps,ok x)(D:a < m)(hm:m < b)(E:b<=N)(F:N<=1000000000)
  (k:∀W,(∀x∈Srt.rot pd (b - a) (m - a) (b - m) m ps,ok x)->bT S w0 W (pcE (bO g 0 N cap) (Srt.rot pd (b - a) (m - a) (b - m) m ps)::T)->K (.tuple #[]) W) :
  cR ah 340 #[bO g 0 N cap,ad (a:Int),ad (m:Int),ad (b:Int),cv] w PK K:=by
 generalize y:Srt.rot pd (b - a) (m - a) (b - m) m ps=R at k;refine gK (gO (k0:=wT λv W=>v=.tuple #[]∧(∀x∈R,ok x)∧bT S w0 W (pcE (bO g 0 N cap) R::T)) ?_) (λe W ⟨v,he,z,d,c⟩=>by subst he;subst z;exact k W d c);unfold eF nz;simp only[rs];rw[aA om om,aA om om,show (m:Int) - (a:Int)=((m - a:Nat):Int) by omega,show (b:Int) - (m:Int)=((b - m:Nat):Int) by omega];refine loop (λvs W=>∃(i j f:Nat) (o:List Pc),vs=[ad (i:Int),ad (j:Int)]∧i+j<=f∧0 < i∧0 < j∧i<=m∧m+j<=N∧o.length=N∧(∀x∈o,ok x)∧Srt.rot pd f i j m o=R∧bT S w0 W (pcE (bO g 0 N cap) o::T)) (λvs _=>n0 vs+n1 vs) ⟨m - a,b - m,b - a,ps,rfl,om,om,om,om,om,u,t,y,c⟩ ?_;clear c;rintro vs G ⟨i,j,f,o,rfl,H,hi,I,A,B,C,l,h,c⟩ _;simp only[dS,gd,rs,nz];obtain⟨f,rfl⟩:∃q,f=q+1:=⟨f - 1,om⟩;unfold Srt.rot at h;subst C;by_cases he:i=j
 ·subst he;simp only[show ai ((i:Int)≠(i:Int))=au from auD sm,i_f];rw[auC rfl] at h;rw[aA om om,show (m:Int) - (i:Int)=((m - i:Nat):Int) by omega];refine afS s c l om om om λw2 d c=>?_;rw[h] at d c;exact vG ⟨rfl,d,c⟩
 ·rw[auB he] at h;simp only[show ai ((i:Int)≠(j:Int))=aw from auG om,i_t];by_cases p:j < i
  ·rw[auC p] at h;simp only[show ai ((j:Int) < (i:Int))=aw from auG om,i_t];rw[aA om om,show (m:Int) - (i:Int)=((m - i:Nat):Int) by omega];refine afS s c l om om om λw2 d c=>?_
   try simp only[rs]
   rw[aA om om,show (i:Int) - (j:Int)=((i - j:Nat):Int) by omega];exact bC ⟨i - j,j,f,_,rfl,om,om,om,om,om,Srt.Hj _ _ _ _,d,h,c⟩ (by simp[n0,n1,RowKit.intOf];omega)
  ·rw[auB p] at h;simp only[show ai ((j:Int) < (i:Int))=au from auD om,i_f];rw[aA (n:=(m:Int) - (i:Int)) om om,aA (n:=(m:Int)+(j:Int)) om om,aA (n:=(m:Int)+(j:Int) - (i:Int)) om om,show (m:Int) - (i:Int)=((m - i:Nat):Int) by omega,show (m:Int)+(j:Int) - (i:Int)=((m+j - i:Nat):Int) by omega];refine afS s c l om om om λw2 d c=>?_
   try simp only[rs]
   rw[aA om om,show (j:Int) - (i:Int)=((j - i:Nat):Int) by omega];exact bC ⟨i,j - i,f,_,rfl,om,om,om,om,om,Srt.Hj _ _ _ _,d,h,c⟩ (by simp[n0,n1,RowKit.intOf];omega)
theorem akS {g a N:Nat}{ps:List Pc}{ok:Pc->Prop}(A:CmpOk M cv ok)(hm:T[jm]?=ay (.mem M))(C:ps.length=N)(d:bT S w0 w (pcE (bO g 0 N cap) ps::T))(s:∀x∈ps,ok x)(U:b<=N)(V:a<=N)(X:N<=1000000000)
  (k:∀W,(∀x∈Srt.ins pd pw ps a b,ok x)->bT S w0 W (pcE (bO g 0 N cap) (Srt.ins pd pw ps a b)::T)->K (.tuple #[]) W) :
  cR ah 338 #[bO g 0 N cap,ad (a:Int),ad (b:Int),cv] w PK K:=by
 unfold Srt.ins at k;generalize D:Srt.OQ pd pw a (b - (a+1)) (a+1) ps=R at k;refine gK (fL (k0:=wT λv W=>v=.tuple #[]∧(∀x∈R,ok x)∧bT S w0 W (pcE (bO g 0 N cap) R::T)) ?_) (λe W ⟨v,he,E,F,d⟩=>by subst he;subst E;exact k W F d);unfold cT nz;obtain⟨Y,G,H,t,u,y⟩:=A.run;have z:∀{W:ao} {e:Ent},bT S w0 W (e::T)->M.has W:=λd=>d.hasM (jm+1) (by rw[avR];exact hm);simp only[rs];rw[aA om om];refine loop (λvs W=>∃(i:Nat) (c:List Pc),vs=[ad (i:Int)]∧a+1<=i∧i<=max b (a+1)∧c.length=N∧(∀x∈c,ok x)∧Srt.OQ pd pw a (b - i) i c=R∧bT S w0 W (pcE (bO g 0 N cap) c::T)) (λvs _=>b - n0 vs) ⟨a+1,ps,rfl,om,om,C,s,D,d⟩ ?_;clear d;rintro vs I ⟨i,c,rfl,hi,J,n,f,l,d⟩ _;simp only[cN,gd,rs,nz];by_cases o:(i:Int) < (b:Int)
 ·simp only[o,auE,i_t];obtain⟨q,L⟩:∃q,b - i=q+1:=⟨b - i - 1,om⟩;rw[L] at l;unfold Srt.OQ at l;refine loop (λvs W=>∃(j:Nat) (c:List Pc),vs=[ad (j:Int)]∧a<=j∧j<=i∧c.length=N∧(∀x∈c,ok x)∧Srt.OQ pd pw a q (i+1) (Srt.MM pd pw a j c)=R∧bT S w0 W (pcE (bO g 0 N cap) c::T)) (λvs _=>n0 vs) ⟨i,c,rfl,om,om,n,f,l,d⟩ ?_;clear d l f n;rintro vs w2 ⟨j,c,rfl,O,P,n,f,l,d⟩ _;simp only[cO,gd,iN,bnx];have stop:∀W,Srt.MM pd pw a j c=c->bT S w0 W (pcE (bO g 0 N cap) c::T)->Vg (λvs W=>∃(i:Nat) (c:List Pc),vs=[ad (i:Int)]∧a+1<=i∧i<=max b (a+1)∧c.length=N∧(∀x∈c,ok x)∧Srt.OQ pd pw a (b - i) i c=R∧bT S w0 W (pcE (bO g 0 N cap) c::T)) (λvs _=>b - n0 vs) [ad (i:Int)] I [ad (IntKind.i64.wrap ((i:Int)+1))] W:=by
   intro W he d;rw[aA om om];rw[he] at l;refine bC ⟨i+1,c,rfl,om,om,n,f,?_,d⟩ (by simp[n0,RowKit.intOf];omega);rw[show b - (i+1)=q by omega];exact l
  refine cY (λW=>bT S w0 W (pcE (bO g 0 N cap) c::T)) d.drew ?_;refine IM ?_;by_cases B:a < j
  ·obtain⟨j,rfl⟩:∃p,j=p+1:=⟨j - 1,om⟩;rw[auG (show (a:Int) < ((j+1:Nat):Int) by omega)];simp only[gq];refine dY _ (λW=>tD om W) (gA _ (λW h=>BU (h.at_ 0 rfl) om) ?_);refine dY _ (λ_=>sZ) ?_;rw[aA om om,show ((j+1:Nat):Int) - 1=(j:Int) by omega];refine dY _ (λW=>tD om W) (gA _ (λW h=>BU (h.at_ 0 rfl) om) ?_);subst t;refine Zs u (ad (cmpI (pw (c.getD (j+1) pd)) (pw (c.getD j pd)))) (λW h=>(y W _ _ (z h) (f _ (vU om)) (f _ (vU om))).mono λv w' r=>⟨r.1,h.grow r.2⟩) ?_;refine Lu (MZ ?_);rw[NM];intro w3 d;unfold Srt.MM at l stop;by_cases m:pw (c.getD (j+1) pd) < pw (c.getD j pd)
   ·rw[auC ⟨B,auG m⟩] at l;simp only[m,auE,i_t];refine cY (λW=>bT S w0 W (pcE (bO g 0 N cap) c::T)) d.drew ?_;refine p_do _ (λ_=>sZ) ?_;rw[aA om om,show ((j+1:Nat):Int) - 1=(j:Int) by omega];refine dY _ (λ_=>sZ) ?_;rw[aA om om,show ((j+1:Nat):Int) - 1=(j:Int) by omega];refine dY _ (λW=>tD om W) (gA _ (λW h=>BU (h.at_ 0 rfl) om) ?_);refine dY _ (λW=>tD om W) (gA _ (λW h=>BU (h.at_ 0 rfl) om) ?_);refine dY _ (λW=>tD om W) ?_;intro Z d;subst n;refine o_sw A d f om om λw5 d=>?_
    try simp only[rs]
    rw[aA om om,show ((j+1:Nat):Int) - 1=(j:Int) by omega];exact bC ⟨j,_,rfl,om,om,Srt.HN,λx Q=>f x (nm om om Q),l,d⟩ (by simp[n0,RowKit.intOf])
   ·simp only[m,auF,i_f,rs];exact stop w3 (auB λh=>m (auW h.2)) d
  ·rw[auD (show ¬(a:Int) < (j:Int) by omega)];simp only[gq];refine F9 ?_;intro w3 d;simp only[i_f,rs];refine stop w3 ?_ d;cases j with
  |zero=>rfl
  |succ j=>
    unfold Srt.MM;rw[auB (λh=>B h.1)]
 ·simp only[o,auF,i_f];rw[show b - i=0 by omega] at l;unfold Srt.OQ at l;subst l;exact vG ⟨rfl,f,d⟩
end
theorem pz {wt:α->Nat}{x y:α}(h:wt x < wt y):Srt.lt wt x y=true:=auG h
theorem qa {wt:α->Nat}{x y:α}(h:¬wt x < wt y):¬Srt.lt wt x y=true:=λk=>h (auW k)
section
variable {w:ao}{PK PK2 PK3:PKT}{K:VWP}{S:Nat->Prop}{w0:ao}{L T:List Ent}
theorem adP {b:Bool}:(mUn .not (.bool b)).run P W=.ok (.value (.bool (!b))) W:=cJ (by simp[Op.unary])
theorem TS {n:Nat}(h:n<=4000000000):DoX ah (tG 3 98 (ad (n:Int))) w PK (λt w=>DoX ah (iQ .shr 98 t (.int .u64 1)) w PK2 λt w=>DoX ah (tG 98 3 t) w PK3 K)=K (ad ((n / 2:Nat):Int)) w:=by
 rw[acI (show (Tryz.prog.underlying 3).isSome=aw by kernel_rfl) aAj,Ix om,shr1 om om,
  acI (show (Tryz.prog.underlying 98).isSome=aw by kernel_rfl) avY,aA om om]
 rfl
theorem acE {g cap N jm:Nat}{cv:aq}{ok:Pc->Prop}{M:Mem}(hc:CmpOk M cv ok)(hm:T[jm]?=ay (.mem M))(hl:N<=1000000000):∀(f a m b:Nat) {w:ao} {PK:PKT} {K:VWP} {ps:List Pc},b - a<=f->a < m->m < b->b<=N->ps.length=N->bT S w0 w (pcE (bO g 0 N cap) ps::T)->(∀x∈ps,ok x) ->
  (∀W,(∀x∈Srt.sym pd pw f a m b ps,ok x)->bT S w0 W (pcE (bO g 0 N cap) (Srt.sym pd pw f a m b ps)::T)->K (.tuple #[]) W) ->
  cR ah 339 #[bO g 0 N cap,ad (a:Int),ad (m:Int),ad (b:Int),cv] w PK K
|0,a,m,b,_,_,_,_,hf,a8,b0,_,_,_,_,_=>by omega
|f+1,a,m,b,w,PK,K,ps,hf,a8,b0,b1,V,l,B,k=>by
  generalize u:Srt.sym pd pw (f+1) a m b ps=R at k;refine gK (gH (k0:=wT λv W=>v=.tuple #[]∧(∀x∈R,ok x)∧bT S w0 W (pcE (bO g 0 N cap) R::T)) ?_) (λe W ⟨v,he,hv,L,l⟩=>by subst he;subst hv;exact k W L l);unfold dV nz;obtain⟨cf,c4,c5,b2,b3,b4⟩:=hc.run;have b5:∀{W:ao} {e:Ent},bT S w0 W (e::T)->M.has W:=λl=>l.hasM (jm+1) (by rw[avR];exact hm);have cmp:∀{C:aq->Prop} {y:List Pc} {i j:Nat},y.length=N->(∀x∈y,ok x)->i < N->j < N->C (ad (cmpI (pw (y.getD i pd)) (pw (y.getD j pd))))->QDo ah (λW=>bT S w0 W (pcE (bO g 0 N cap) y::T)) (iO cv #[(y.getD i pd).1,(y.getD j pd).1]) C:=by
   intro C y i j hz A hi hj hC;subst b2;exact Zs b3 _ (λW h=>(b4 W _ _ (b5 h) (A _ (vU om)) (A _ (vU om))).mono λv w' r=>⟨r.1,h.grow r.2⟩) hC
  unfold Srt.sym at u;simp only[rs];rw[aA om om,show (m:Int) - (a:Int)=((m - a:Nat):Int) by omega];by_cases L:m - a=1
  ·rw[auC L] at u;simp only[show ai (((m - a:Nat):Int)=1)=aw from auG om,i_t];generalize Y:Srt.bs (λh=>!Srt.lt pw (ps.getD h pd) (ps.getD a pd)) (b - m) m b=s at u;refine loop (λvs W=>∃(i j f:Nat),vs=[ad (i:Int),ad (j:Int)]∧m<=i∧i<=j∧j<=b∧j - i<=f∧Srt.bs (λh=>!Srt.lt pw (ps.getD h pd) (ps.getD a pd)) f i j=s∧bT S w0 W (pcE (bO g 0 N cap) ps::T)) (λvs _=>n1 vs - n0 vs) ⟨m,b,b - m,rfl,om,om,om,om,Y,l⟩ ?_;clear l Y;rintro vs w1 ⟨i,j,f',rfl,hi,a1,hj,a6,z,l⟩ _;simp only[dG,gd,rs,nz];by_cases D:(i:Int) < (j:Int)
   ·simp only[D,auE,i_t];obtain⟨f',rfl⟩:∃q,f'=q+1:=⟨f' - 1,om⟩;unfold Srt.bs at z;rw[auC om] at z;rw[aA om om,show (i:Int)+(j:Int)=((i+j:Nat):Int) by omega,TS om];refine cY (λW=>bT S w0 W (pcE (bO g 0 N cap) ps::T)) l.drew ?_;refine dY _ (λW=>tD om W) (gA _ (λW h=>BU (h.at_ 0 rfl) om) ?_);refine dY _ (λW=>tD om W) (gA _ (λW h=>BU (h.at_ 0 rfl) om) ?_);refine cmp V B om om (Lu ?_);rw[NM];intro w2 l;by_cases o:pw (ps.getD ((i+j) / 2) pd) < pw (ps.getD a pd)
    ·rw[auB (by have e:Srt.lt pw (ps.getD ((i+j) / 2) pd) (ps.getD a pd)=true:=auG o;rw[e];decide)] at z;simp only[o,auE,i_t,rs];rw[aA om om,show (((i+j) / 2:Nat):Int)+1=(((i+j) / 2+1:Nat):Int) by omega];exact bC ⟨(i+j) / 2+1,j,f',rfl,om,om,om,om,z,l⟩ (by simp[n0,n1,RowKit.intOf];omega)
    ·rw[auC (by have e:Srt.lt pw (ps.getD ((i+j) / 2) pd) (ps.getD a pd)=false:=auD o;rw[e];rfl)] at z;simp only[o,auF,i_f];exact bC ⟨i,(i+j) / 2,f',rfl,om,om,om,om,z,l⟩ (by simp[n0,n1,RowKit.intOf];omega)
   ·simp only[D,auF,i_f];have P:s=i:=by
     rw[<-z];cases f' with
    |zero=>rfl
    |succ q=>unfold Srt.bs;rw[auB om]
    subst P;refine loop (λvs W=>∃(q:Nat) (y:List Pc),vs=[ad (q:Int)]∧a<=q∧(q<=s - 1∨q=a)∧y.length=N∧(∀x∈y,ok x)∧Srt.up pd (s - 1 - q) q y=R∧bT S w0 W (pcE (bO g 0 N cap) y::T)) (λvs _=>s - n0 vs) ⟨a,ps,rfl,om,.inr rfl,V,B,u,l⟩ ?_;clear l;rintro vs w2 ⟨q,y,rfl,hq,c6,hz,A,t,l⟩ _;simp only[dC,gd,rs,iN,bnx];rw[aA (n:=(s:Int) - 1) om om];by_cases E:(q:Int) < (s:Int) - 1
    ·simp only[E,auE,i_t];obtain⟨r,hr⟩:∃r,s - 1 - q=r+1:=⟨s - 1 - q - 1,om⟩;rw[hr] at t;unfold Srt.up at t;refine cY (λW=>bT S w0 W (pcE (bO g 0 N cap) y::T)) l.drew ?_;refine p_do _ (λ_=>Fk) ?_;rw[aA om om,show (q:Int)+1=((q+1:Nat):Int) by omega];refine sW ?_;rw[aA om om,show (q:Int)+1=((q+1:Nat):Int) by omega];refine dY _ (λW=>tD om W) (gA _ (λW h=>BU (h.at_ 0 rfl) om) ?_);refine dY _ (λW=>tD om W) (gA _ (λW h=>BU (h.at_ 0 rfl) om) ?_);refine dY _ (λW=>tD om W) ?_;intro w3 l;subst hz;refine o_sw hc l A om om λw4 l=>?_
     try simp only[rs]
     try rw[aA (n:=(q:Int)+1) om om,show (q:Int)+1=((q+1:Nat):Int) by omega]
     refine bC ⟨q+1,_,rfl,om,.inl om,Srt.HN,λx hx=>A x (nm om om hx),?_,l⟩ (by simp[n0,RowKit.intOf];omega);rw[show s - 1 - (q+1)=r by omega];exact t
    ·simp only[E,auF,i_f];rw[show s - 1 - q=0 by omega] at t;unfold Srt.up at t;subst t;exact vG ⟨rfl,A,l⟩
  rw[auB L] at u;simp only[show ai (((m - a:Nat):Int)=1)=au from auD om,i_f];rw[aA om om,show (b:Int) - (m:Int)=((b - m:Nat):Int) by omega];by_cases h2:b - m=1
  ·rw[auC h2] at u;simp only[show ai (((b - m:Nat):Int)=1)=aw from auG om,i_t];generalize Y:Srt.bs (λh=>Srt.lt pw (ps.getD m pd) (ps.getD h pd)) (m - a) a m=s at u;refine loop (λvs W=>∃(i j f:Nat),vs=[ad (i:Int),ad (j:Int)]∧a<=i∧i<=j∧j<=m∧j - i<=f∧Srt.bs (λh=>Srt.lt pw (ps.getD m pd) (ps.getD h pd)) f i j=s∧bT S w0 W (pcE (bO g 0 N cap) ps::T)) (λvs _=>n1 vs - n0 vs) ⟨a,m,m - a,rfl,om,om,om,om,Y,l⟩ ?_;clear l Y;rintro vs w1 ⟨i,j,f',rfl,hi,a1,hj,a6,z,l⟩ _;simp only[dH,gd,rs,nz];by_cases D:(i:Int) < (j:Int)
   ·simp only[D,auE,i_t];obtain⟨f',rfl⟩:∃q,f'=q+1:=⟨f' - 1,om⟩;unfold Srt.bs at z;rw[auC om] at z;rw[aA om om,show (i:Int)+(j:Int)=((i+j:Nat):Int) by omega,TS om];refine cY (λW=>bT S w0 W (pcE (bO g 0 N cap) ps::T)) l.drew ?_;refine dY _ (λW=>tD om W) (gA _ (λW h=>BU (h.at_ 0 rfl) om) ?_);refine dY _ (λW=>tD om W) (gA _ (λW h=>BU (h.at_ 0 rfl) om) ?_);refine cmp V B om om (Lu ?_);rw[NM];refine dY _ (λW=>adP) ?_;intro w2 l;by_cases o:pw (ps.getD m pd) < pw (ps.getD ((i+j) / 2) pd)
    ·rw[auC (pz o)] at z;simp only[o,auE,awA,i_f];exact bC ⟨i,(i+j) / 2,f',rfl,om,om,om,om,z,l⟩ (by simp[n0,n1,RowKit.intOf];omega)
    ·rw[auB (qa o)] at z;simp only[o,auF,avZ,i_t,rs];rw[aA om om,show (((i+j) / 2:Nat):Int)+1=(((i+j) / 2+1:Nat):Int) by omega];exact bC ⟨(i+j) / 2+1,j,f',rfl,om,om,om,om,z,l⟩ (by simp[n0,n1,RowKit.intOf];omega)
   ·simp only[D,auF,i_f];have P:s=i:=by
     rw[<-z];cases f' with
    |zero=>rfl
    |succ q=>unfold Srt.bs;rw[auB om]
    subst P;refine loop (λvs W=>∃(q:Nat) (y:List Pc),vs=[ad (q:Int)]∧s<=q∧q<=m∧y.length=N∧(∀x∈y,ok x)∧Srt.down pd (q - s) q y=R∧bT S w0 W (pcE (bO g 0 N cap) y::T)) (λvs _=>n0 vs) ⟨m,ps,rfl,om,om,V,B,u,l⟩ ?_;clear l;rintro vs w2 ⟨q,y,rfl,hq,c7,hz,A,t,l⟩ _;simp only[dF,gd,rs,iN,bnx];by_cases E:(s:Int) < (q:Int)
    ·simp only[E,auE,i_t];obtain⟨q,rfl⟩:∃p,q=p+1:=⟨q - 1,om⟩;obtain⟨r,hr⟩:∃r,q+1 - s=r+1:=⟨q - s,om⟩;rw[hr] at t;unfold Srt.down at t;rw[ayS] at t;refine cY (λW=>bT S w0 W (pcE (bO g 0 N cap) y::T)) l.drew ?_;refine p_do _ (λ_=>sZ) ?_;rw[aA om om,show ((q+1:Nat):Int) - 1=(q:Int) by omega];refine dY _ (λ_=>sZ) ?_;rw[aA om om,show ((q+1:Nat):Int) - 1=(q:Int) by omega];refine dY _ (λW=>tD om W) (gA _ (λW h=>BU (h.at_ 0 rfl) om) ?_);refine dY _ (λW=>tD om W) (gA _ (λW h=>BU (h.at_ 0 rfl) om) ?_);refine dY _ (λW=>tD om W) ?_;intro w3 l;subst hz;refine o_sw hc l A om om λw4 l=>?_
     try simp only[rs]
     try rw[aA (n:=((q+1:Nat):Int) - 1) om om,show ((q+1:Nat):Int) - 1=(q:Int) by omega]
     refine bC ⟨q,_,rfl,om,om,Srt.HN,λx hx=>A x (nm om om hx),?_,l⟩ (by simp[n0,RowKit.intOf]);rw[show q - s=r by omega];exact t
    ·simp only[E,auF,i_f];rw[show q - s=0 by omega] at t;unfold Srt.down at t;subst t;exact vG ⟨rfl,A,l⟩
  rw[auB h2] at u;simp only[show ai (((b - m:Nat):Int)=1)=au from auD om,i_f];rw[aA (n:=(a:Int)+(b:Int)) om om,show (a:Int)+(b:Int)=((a+b:Nat):Int) by omega,TS om];dsimp only at u;unfold Srt.I4 at u;generalize b9:(a+b) / 2=d at u;simp only[rs];rw[aA (n:=(d:Int)+(m:Int)) om om,show (d:Int)+(m:Int)=((d+m:Nat):Int) by omega];generalize X:(if d < m then d+m - b else a)=lo at u;generalize Z:(if d < m then d else m)=hi at u;have c0:a<=lo∧d+m - b<=lo∧(lo=a∨lo=d+m - b):=by
   rw[<-X];split<;>omega
  have c3:hi<=m∧hi<=d∧lo<=hi∧(hi=m∨hi=d):=by
   rw[<-Z,<-X];split<;>omega
  refine join λJ hJ=>?_;have fin:∀W,bT S w0 W (pcE (bO g 0 N cap) ps::T)->J [ad (lo:Int),ad (hi:Int)] W:=by
   intro W l;refine hJ _ _ λ_=>?_;simp only[dD,gd,rs,nz];rw[aA (n:=((d+m:Nat):Int) - 1) om om,show ((d+m:Nat):Int) - 1=((d+m - 1:Nat):Int) by omega];generalize Y:Srt.bs (λc=>Srt.lt pw (ps.getD (d+m - 1 - c) pd) (ps.getD c pd)) (b - a) lo hi=s at u;refine loop (λvs W=>∃(i j f:Nat),vs=[ad (i:Int),ad (j:Int)]∧lo<=i∧i<=j∧j<=hi∧j - i<=f∧Srt.bs (λc=>Srt.lt pw (ps.getD (d+m - 1 - c) pd) (ps.getD c pd)) f i j=s∧bT S w0 W (pcE (bO g 0 N cap) ps::T)) (λvs _=>n1 vs - n0 vs) ⟨lo,hi,b - a,rfl,om,om,om,om,Y,l⟩ ?_;clear l Y;rintro vs w1 ⟨i,j,f',rfl,c8,a1,hj,a6,z,l⟩ _;simp only[dB,gd,rs,nz];by_cases D:(i:Int) < (j:Int)
   ·simp only[D,auE,i_t];obtain⟨f',rfl⟩:∃q,f'=q+1:=⟨f' - 1,om⟩;unfold Srt.bs at z;rw[auC om] at z;rw[aA (n:=(i:Int)+(j:Int)) om om,show (i:Int)+(j:Int)=((i+j:Nat):Int) by omega,TS om];refine cY (λW=>bT S w0 W (pcE (bO g 0 N cap) ps::T)) l.drew ?_;refine dY _ (λ_=>sZ) ?_;rw[aA (n:=((d+m - 1:Nat):Int) - (((i+j) / 2:Nat):Int)) om om,show ((d+m - 1:Nat):Int) - (((i+j) / 2:Nat):Int)=((d+m - 1 - (i+j) / 2:Nat):Int) by omega];refine dY _ (λW=>tD om W) (gA _ (λW h=>BU (h.at_ 0 rfl) om) ?_);refine dY _ (λW=>tD om W) (gA _ (λW h=>BU (h.at_ 0 rfl) om) ?_);refine cmp V B om om (Lu ?_);rw[NM];refine dY _ (λW=>adP) ?_;intro w2 l;by_cases o:pw (ps.getD (d+m - 1 - (i+j) / 2) pd) < pw (ps.getD ((i+j) / 2) pd)
    ·rw[auC (pz o)] at z;simp only[o,auE,awA,i_f];exact bC ⟨i,(i+j) / 2,f',rfl,om,om,om,om,z,l⟩ (by simp[n0,n1,RowKit.intOf];omega)
    ·rw[auB (qa o)] at z;simp only[o,auF,avZ,i_t,rs];rw[aA om om,show (((i+j) / 2:Nat):Int)+1=(((i+j) / 2+1:Nat):Int) by omega];exact bC ⟨(i+j) / 2+1,j,f',rfl,om,om,om,om,z,l⟩ (by simp[n0,n1,RowKit.intOf];omega)
   ·simp only[D,auF,i_f];have P:s=i:=by
     rw[<-z];cases f' with
    |zero=>rfl
    |succ q=>unfold Srt.bs;rw[auB om]
    subst P;rw[aA (n:=((d+m:Nat):Int) - (s:Int)) om om,show ((d+m:Nat):Int) - (s:Int)=((d+m - s:Nat):Int) by omega];generalize he:d+m - s=e at u;have a7:∀(y x1:List Pc) (W1:ao),(if s < m∧m < e then Srt.rot pd (e - s) (m - s) (e - m) m ps else ps)=x1->True:=λ_ _ _ _=>trivial;generalize H:(if s < m∧m < e then Srt.rot pd (e - s) (m - s) (e - m) m ps else ps)=x1 at u;refine join λJ2 b6=>?_;have fin2:∀W,x1.length=N->(∀x∈x1,ok x)->bT S w0 W (pcE (bO g 0 N cap) x1::T)->J2 [] W:=by
     intro W O F l;refine b6 _ _ λ_=>?_;simp only[dI,gd,rs,nz];generalize I:(if a < s∧s < d then Srt.sym pd pw f a s d x1 else x1)=x2 at u;refine join λJ3 b7=>?_;have fin3:∀W,x2.length=N->(∀x∈x2,ok x)->bT S w0 W (pcE (bO g 0 N cap) x2::T)->J3 [] W:=by
      intro W b8 G l;refine b7 _ _ λ_=>?_;simp only[dE,gd,rs,nz];by_cases Q:d < e
      ·simp only[show ai ((d:Int) < (e:Int))=aw from auG om,rs];by_cases U:e < b
       ·simp only[show ai ((e:Int) < (b:Int))=aw from auG om,i_t,rs];rw[auC ⟨Q,U⟩] at u;refine acE hc hm hl f d e b om Q U b1 b8 l G λW L l=>?_;rw[u] at L l;exact vG ⟨rfl,L,l⟩
       ·simp only[show ai ((e:Int) < (b:Int))=au from auD om,i_f,rs];rw[auB (λh=>U h.2)] at u;rw[u] at G l;exact vG ⟨rfl,G,l⟩
      ·simp only[show ai ((d:Int) < (e:Int))=au from auD om,i_f,rs];rw[auB (λh=>Q h.1)] at u;rw[u] at G l;exact vG ⟨rfl,G,l⟩
     by_cases Q:a < s
     ·simp only[show ai ((a:Int) < (s:Int))=aw from auG om,rs];by_cases U:s < d
      ·simp only[show ai ((s:Int) < (d:Int))=aw from auG om,i_t,rs];rw[auC ⟨Q,U⟩] at I;refine acE hc hm hl f a s d om Q U om O l F λW L l=>?_;rw[I] at L l;exact fin3 W (by rw[<-I,Srt.Ky];exact O) L l
      ·simp only[show ai ((s:Int) < (d:Int))=au from auD om,i_f,rs];rw[auB (λh=>U h.2)] at I;rw[I] at O F l;exact fin3 W O F l
     ·simp only[show ai ((a:Int) < (s:Int))=au from auD om,i_f,rs];rw[auB (λh=>Q h.1)] at I;rw[I] at O F l;exact fin3 W O F l
    by_cases Q:s < m
    ·simp only[show ai ((s:Int) < (m:Int))=aw from auG om,rs];by_cases U:m < e
     ·simp only[show ai ((m:Int) < (e:Int))=aw from auG om,i_t,rs];rw[auC ⟨Q,U⟩] at H;refine arM hc V l B Q U om hl λW L l=>?_;rw[H] at L l;exact fin2 W (by rw[<-H,Srt.NX];exact V) L l
     ·simp only[show ai ((m:Int) < (e:Int))=au from auD om,i_f,rs];rw[auB (λh=>U h.2)] at H;subst H;exact fin2 w1 V B l
    ·simp only[show ai ((s:Int) < (m:Int))=au from auD om,i_f,rs];rw[auB (λh=>Q h.1)] at H;subst H;exact fin2 w1 V B l
  by_cases c:d < m
  ·simp only[show ai ((d:Int) < (m:Int))=aw from auG om,i_t,rs];rw[auC c] at X Z;rw[aA (n:=((d+m:Nat):Int) - (b:Int)) om om,show ((d+m:Nat):Int) - (b:Int)=(lo:Int) by omega,show (d:Int)=(hi:Int) by omega];exact fin w l
  ·simp only[show ai ((d:Int) < (m:Int))=au from auD om,i_f,rs];rw[auB c] at X Z;rw[show (a:Int)=(lo:Int) by omega,show (m:Int)=(hi:Int) by omega];exact fin w l
end
section
variable {w:ao}{PK PK2 PK3:PKT}{K:VWP}{S:Nat->Prop}{w0:ao}{L T:List Ent}
theorem ZW {g N:Nat}{ok:Pc->Prop}{ps:List Pc}(t:CmpOk M cv ok)(hm:T[jm]?=ay (.mem M))(V:N<=100000000)(B:ps.length=N)(b:bT S w0 w (pcE (bO g 0 N cap) ps::T))(u:∀x∈ps,ok x)
  (k:∀W,(∀x∈Srt.L5 pd pw ps,ok x)->bT S w0 W (pcE (bO g 0 N cap) (Srt.L5 pd pw ps)::T)->K (.tuple #[]) W) :
  cR ah 334 #[bO g 0 N cap,ad (N:Int),cv] w PK K:=by
 unfold Srt.L5 at k;rw[B] at k;generalize y:Srt.rounds pd pw (N+1) 20 (Srt.blk pd pw 20 (N+1) 0 ps)=R at k;refine gK (gN (k0:=wT λv W=>v=.tuple #[]∧(∀x∈R,ok x)∧bT S w0 W (pcE (bO g 0 N cap) R::T)) ?_) (λe W ⟨v,he,G,m,b⟩=>by subst he;subst G;exact k W m b);unfold eD nz;generalize C:Srt.blk pd pw 20 (N+1) 0 ps=Z at y;refine loop (λvs W=>∃(a f:Nat) (d:List Pc),vs=[ad (a:Int),ad ((a+20:Nat):Int)]∧a<=N∧N < a+f∧d.length=N∧(∀x∈d,ok x)∧Srt.blk pd pw 20 f a d=Z∧bT S w0 W (pcE (bO g 0 N cap) d::T)) (λvs _=>N+20 - n0 vs) ⟨0,N+1,ps,rfl,om,om,B,u,C,b⟩ ?_;clear b C;rintro vs X ⟨a,f,d,rfl,D,hf,j,h,l,b⟩ _;simp only[dR,gd,rs,nz];obtain⟨f,rfl⟩:∃q,f=q+1:=⟨f - 1,om⟩;unfold Srt.blk at l;rw[j] at l;by_cases r:((a+20:Nat):Int)<=(N:Int)
 ·simp only[r,auE,i_t];rw[auC om] at l;refine akS t hm j b h om D om λw2 m b=>?_
  try simp only[rs]
  rw[aA om om];exact bC ⟨a+20,f,_,by congr 2,om,om,by rw[Srt.YJ];exact j,m,l,b⟩ (by simp[n0,RowKit.intOf];omega)
 ·simp only[r,auF,i_f];rw[auB om] at l;refine akS t hm j b h om D om λw2 m b=>?_;rw[l] at m b;have s:Z.length=N:=by rw[<-l,Srt.YJ];exact j
  refine loop (λvs W=>∃(n f:Nat) (d:List Pc),vs=[ad (n:Int)]∧1<=n∧N < f+n∧d.length=N∧(∀x∈d,ok x)∧Srt.rounds pd pw f n d=R∧bT S w0 W (pcE (bO g 0 N cap) d::T)) (λvs _=>N - n0 vs) ⟨20,N+1,Z,rfl,om,om,s,m,y,b⟩ ?_;clear b y l m s;rintro vs w3 ⟨n,f2,d,rfl,hn,H,j,h,l,b⟩ _;simp only[dQ,gd,rs,nz];by_cases o:(n:Int) < (N:Int)
  ·simp only[o,auE,i_t];obtain⟨f2,rfl⟩:∃q,f2=q+1:=⟨f2 - 1,om⟩;unfold Srt.rounds at l;rw[j,auC om] at l;rw[aA om om];generalize E:Srt.mrg pd pw n (N+1) 0 d=Y at l;have back:∀W,Y.length=N->(∀x∈Y,ok x)->bT S w0 W (pcE (bO g 0 N cap) Y::T)->Vg (λvs W=>∃(n f:Nat) (d:List Pc),vs=[ad (n:Int)]∧1<=n∧N < f+n∧d.length=N∧(∀x∈d,ok x)∧Srt.rounds pd pw f n d=R∧bT S w0 W (pcE (bO g 0 N cap) d::T)) (λvs _=>N - n0 vs) [ad (n:Int)] w3 [ad (IntKind.i64.wrap ((n:Int)*2))] W:=by
    intro W I z b;rw[aA om om,show (n:Int)*2=((2*n:Nat):Int) by omega];exact bC ⟨2*n,f2,Y,rfl,om,om,I,z,l,b⟩ (by simp[n0,RowKit.intOf];omega)
   refine loop (λvs W=>∃(a f:Nat) (d:List Pc),vs=[ad (a:Int),ad ((a+2*n:Nat):Int)]∧a<=N∧N < a+f∧d.length=N∧(∀x∈d,ok x)∧Srt.mrg pd pw n f a d=Y∧bT S w0 W (pcE (bO g 0 N cap) d::T)) (λvs _=>N+2*n - n0 vs) ⟨0,N+1,d,by congr 3;omega,om,om,j,h,E,b⟩ ?_;clear b E h j;rintro vs L ⟨a2,f3,d,rfl,O,P,j,h,i,b⟩ _;simp only[dP,gd,rs,nz];obtain⟨f3,rfl⟩:∃q,f3=q+1:=⟨f3 - 1,om⟩;unfold Srt.mrg at i;rw[j] at i;rw[aA (n:=(a2:Int)+(n:Int)) om om,show (a2:Int)+(n:Int)=((a2+n:Nat):Int) by omega];by_cases p:((a2+2*n:Nat):Int)<=(N:Int)
   ·simp only[p,auE,i_t];rw[auC om] at i;refine acE t hm om (2*n) a2 (a2+n) (a2+2*n) om om om om j b h λF m b=>?_
    try simp only[rs]
    rw[aA (n:=(2:Int)*(n:Int)) om om,aA om om];exact bC ⟨a2+2*n,f3,_,by congr 4<;>omega,om,om,by rw[Srt.Ky];exact j,m,i,b⟩ (by simp[n0,RowKit.intOf];omega)
   ·simp only[p,auF,i_f];rw[auB om] at i;refine join λJ Q=>?_;have fin:∀W,Y.length=N->(∀x∈Y,ok x)->bT S w0 W (pcE (bO g 0 N cap) Y::T)->J [] W:=by
     intro W m U b;refine Q _ _ λ_=>?_;simp only[dU,gd,rs,nz];exact back W m U b
    by_cases c:a2+n < N
    ·simp only[show ai (((a2+n:Nat):Int) < (N:Int))=aw from auG om,i_t];rw[auC c] at i;refine acE t hm om (N - a2) a2 (a2+n) N om om c om j b h λF m b=>?_;rw[i] at m b;exact fin F (by rw[<-i,Srt.Ky];exact j) m b
    ·simp only[show ai (((a2+n:Nat):Int) < (N:Int))=au from auD om,i_f];rw[auB c] at i;rw[i] at j h b;exact fin L j h b
  ·simp only[o,auF,i_f];have A:d=R:=by
    cases f2 with
   |zero=>exact l
   |succ q=>
     unfold Srt.rounds at l;rw[j,auB om] at l;exact l
   rw[A] at h b;exact vG ⟨rfl,h,b⟩
theorem ahG {g N:Nat}{ok:Pc->Prop}{ps:List Pc}(d:CmpOk M cv ok)(hm:T[jm]?=ay (.mem M))(e:N<=100000000)(f:ps.length=N)(a:bT S w0 w (pcE (bO g 0 N cap) ps::T))(b:∀x∈ps,ok x)
  (k:∀W c,c.Perm ps->Srt.srt pw c->bT S w0 W (pcE (bO g 0 N cap) c::T)->K (.tuple #[]) W) :
  cR ah 324 #[bO g 0 N cap,cv] w PK K:=by
 refine⟨dO ?_⟩;unfold bV nz;rw[bW axI];refine ZW d hm e f a b λW h a=>?_;obtain⟨p,q⟩:=Srt.Xe pd pw ps;exact k W _ p q a
end
end
section
open Eng
def qB(t0 t1 t2 t8 w)(N1:JT)(K:KT):=nz f277 175 [N1] [nh 15 [8]] [] (zg [0,1,2,8] [t0,t1,t2,t8]) w K
def tO(t0 t1 t2 w)(K:KT):=nz f277 1 [] [(15,[8],λs v j w f=>qB (s 0) (s 1) (s 2) (vg v 0) w (f 0) K)] [] (zg [0,1,2] [t0,t1,t2]) w K
theorem Ck:tO t0 t1 t2 w k0->Calls ah 277 #[t0,t1,t2] w k0:=cz [] [(7,[8])] func277
def pR(t0 t1 w)(K:KT):=nz f302 1 [] [] [] (zg [0,1] [t0,t1]) w K
theorem rI:pR t0 t1 w k0->Calls ah 302 #[t0,t1] w k0:=cw func302
def zQ(t9 t85 t86 t87 w)(a:JT)(K:KT):=nz f273 45055 [a] [nh 57 [87]] [] (zg [9,85,86,87] [t9,t85,t86,t87]) w K
def zS(t6 t9 t10 t72 t73 w)(a:JT)(K:KT):=nz f273 22527 [a] [nh 49 [10,73],(57,[87],λs v j w f=>zQ (s 9) (s 85) (s 86) (vg v 0) w (f 0) K)] [] (zg [6,9,10,72,73] [t6,t9,t10,t72,t73]) w K
def zK(t1 t6 t9 w)(K:KT):=nz f273 511 [] [(49,[10,73],λs v j w f=>zS (s 6) (s 9) (vg v 0) (s 72) (vg v 1) w (f 0) K)] [] (zg [1,6,9] [t1,t6,t9]) w K
def zL(t6 t24 w)(N1:JT)(K:KT):=nz f273 1967 [N1] [nh 15 [6,24]] [] (zg [6,24] [t6,t24]) w K
def zU(t0 t1 t6 t22 t23 t24 w)(N1:JT)(K:KT):=nz f273 175 [N1] [nh 15 [6,24],(26,[6],λs v j w f=>zL (vg v 0) (s 24) w (f 0) K),(38,[],λs v j w f=>zK (s 1) (s 6) (s 9) w K)] [(18,8)] (zg [0,1,6,22,23,24] [t0,t1,t6,t22,t23,t24]) w K
def CZ(t0 t1 w)(K:KT):=nz f273 1 [] [(15,[6,24],λs v j w f=>zU (s 0) (s 1) (vg v 0) (s 22) (s 23) (vg v 1) w (f 0) K)] [] (zg [0,1] [t0,t1]) w K
theorem G1:CZ t0 t1 w k0->Calls ah 273 #[t0,t1] w k0:=cz [(13,[6]),(19,[])] [(7,[6,24]),(24,[10,73]),(28,[87])] func273
def uB(t0 t1 w)(K:KT):=nz f303 1 [] [] [] (zg [0,1] [t0,t1]) w K
theorem B8:uB t0 t1 w k0->Calls ah 303 #[t0,t1] w k0:=cw func303
def Gc(t0 t1 w)(K:KT):=nz f300 1 [] [] [] (zg [0,1] [t0,t1]) w K
theorem IG:Gc t0 t1 w k0->Calls ah 300 #[t0,t1] w k0:=cw func300
def Cj(t0 w)(K:KT):=nz f318 1 [] [] [] (zg [0] [t0]) w K
theorem FR:Cj t0 w k0->Calls ah 318 #[t0] w k0:=cw func318
def DO(b c a w)(N1:JT)(K:KT):=
 bnx .add 3 a (iN 1) w K λd w=>lnx 326 b w K λe w=>bnx .lss 3 d e w K λf w=>IfX f (oY w (λD=>QDo ah D (mIA 326 b a) λg=>QDo ah D (aH 327 g) λh=>QDo ah D (JL h) λi=>QDo ah D (mFA 329 i 0) λj=>QDo ah D (aH 3 j) λk=>QDo ah D (iQ .add 3 a (iN 1)) λl=>QDo ah D (mIA 326 b l) λm=>QDo ah D (aH 327 m) λn=>QDo ah D (JL n) λo=>QDo ah D (mFA 329 o 0) λp=>QDo ah D (aH 3 p) λq=>QDo ah D (iQ .add 3 k q) λr=>QDo ah D (mIA 326 b a) λs=>QDo ah D (aH 327 s) λt=>QDo ah D (iQ .add 3 a (iN 1)) λu=>QDo ah D (mIA 326 b u) λv=>QDo ah D (aH 327 v) λx=>QDo ah D (aV 329 #[(0,r),(2,t),(3,x)]) λy=>
 ∀w,D w ->
 DoX ah (GP 329 y) w (az 9 (pk K)) λz w=>DoX ah (aM 326 1 #[(0,z)]) w (az 9 (pk K)) λA w=>DoX ah (mB .append #[326,326] 326 #[au,au] #[c,A]) w (az 9 (pk K)) λB w=>bnx .add 3 a (iN 2) w K λC w=>N1 [B,C] w)) (K (.returned c) w)
def Hv(t0 w)(K:KT):=nz f301 1 [] [(7,[3,4],λs v j w f=>DO (s 0) (vg v 0) (vg v 1) w (f 0) K)] [] (zg [0] [t0]) w K
theorem Kx:Hv t0 w k0->Calls ah 301 #[t0] w k0:=cz [] [(3,[3,4])] func301
def gB(t0 t1 t2 w)(K:KT):=nz f317 1 [] [] [] (zg [0,1,2] [t0,t1,t2]) w K
theorem lJ:gB t0 t1 t2 w k0->Calls ah 317 #[t0,t1,t2] w k0:=cw func317
def fO(t0 t1 t2 w)(K:KT):=nz f325 1 [] [] [(1,8)] (zg [0,1,2] [t0,t1,t2]) w K
theorem kD:fO t0 t1 t2 w k0->Calls ah 325 #[t0,t1,t2] w k0:=cw func325
end
section
open Eng Go.RowKit
def cnC (w s:Nat)(a b:aq):List Value:=[ad (w:Int),ad (s:Int),a,b]
abbrev cnE (c w s:Nat)(a b:aq):Ent:=.cells c (cnC w s a b) 329
theorem VM:nN ah 329 0=ay 0:=krx
theorem adG:nN ah 329 1=ay 1:=krx
theorem Yt:nN ah 329 2=ay 2:=krx
theorem alU:nN ah 329 3=ay 3:=krx
def Jb (A:Nat->Prop)(w:ao):aq->Cn->Prop
|v,.leaf wt s=>∃b,v=af b 0∧A b∧(cnE b wt s (.pointer ax) (.pointer ax)).is w
|v,.node x y=>∃b va a,v=af b 0∧A b∧(cnE b (x.wt+y.wt) 0 va a).is w∧Jb A w va x∧Jb A w a y
theorem Sr (h:M.le N){T:TypeId}(a:M.A b)(k:(Ent.cells b cs T).is M.w):(Ent.cells b cs T).is N.w:=by
 show N.w.heap[b]?=_;rw[h.has b a];exact k
theorem Jb.le {M N:Mem}(h:M.le N):∀{c:Cn} {v:aq},Jb M.A M.w v c->Jb N.A N.w v c
|.leaf wt s,v,⟨b,d,a,e⟩=>⟨b,d,h.A b a,Sr h a e⟩
|.node x y,v,⟨b,va,f,d,a,e,g,i⟩=>⟨b,va,f,d,h.A b a,Sr h a e,Jb.le h g,Jb.le h i⟩
theorem mH (a:M.has W){T:TypeId}(c:M.A b)(k:(Ent.cells b cs T).is M.w):(Ent.cells b cs T).is W:=by
 show W.heap[b]?=_;rw[a b c];exact k
theorem Jb.ptr {c:Cn}(h:Jb A w v c):∃b,v=af b 0∧A b:=by
 cases c with
|leaf wt s=>obtain⟨b,a,d,_⟩:=h;exact⟨b,a,d⟩
|node x y=>obtain⟨b,_,_,a,d,_⟩:=h;exact⟨b,a,d⟩
theorem Jb.wt {M:Mem}{v:aq}{c:Cn}(h:Jb M.A M.w v c):∃b s va a,v=af b 0∧M.A b∧(cnE b c.wt s va a).is M.w:=by
 cases c with
|leaf wt s=>obtain⟨b,d,e,f⟩:=h;exact⟨b,s,_,_,d,e,f⟩
|node x y=>obtain⟨b,va,a,d,e,f,_⟩:=h;exact⟨b,0,va,a,d,e,f⟩
def okM (M:Mem)(x:Pc):Prop:=Jb M.A M.w x.1 x.2
theorem PS (a b:Nat)(w:ao):Ret ah 326 #[ad (a:Int),ad (b:Int)] w (λv w'=>v=ad (cmpI a b)∧w=w'):=by
 refine aX λK c=>CL ?_;unfold wR nz;refine BJ (MK a w) (BJ (MK b w) ?_);unfold cmpI at c;simp only[rs];by_cases d:a < b
 ·simp only[show ai ((a:Int) < (b:Int))=aw from auG om,i_t];rw[auC d] at c;exact c _ _ ⟨rfl,rfl⟩
 ·simp only[show ai ((a:Int) < (b:Int))=au from auD om,i_f];rw[auB d] at c;by_cases e:b < a
  ·simp only[show ai ((b:Int) < (a:Int))=aw from auG om,i_t];rw[auC e] at c;exact c _ _ ⟨rfl,rfl⟩
  ·simp only[show ai ((b:Int) < (a:Int))=au from auD om,i_f];rw[auB e] at c;exact c _ _ ⟨rfl,rfl⟩
theorem Ko {c:Cn}(a:M.has W)(h:Jb M.A M.w v c):Ret ah 318 #[v] W (λr w'=>r=ad (c.wt:Int)∧W=w'):=by
 refine aX λK d=>FR ?_;unfold Cj nz;obtain⟨b,s,va,e,rfl,f,g⟩:=h.wt;rw[bQ,aW VM];refine aD (aB aU (aI (T:=329) (cs:=cnC c.wt s va e) (mH a f g) (i:=0) rfl)) |>.mpr ?_;exact d _ _ ⟨rfl,rfl⟩
theorem FN:cW ah 318=true:=krx
theorem NG:cW ah 325=true:=krx
theorem atV:eS ah 344=true:=krx
def wtF:Value:=.func (.func 318) #[] #[]
abbrev fcE (b:Nat):Ent:=.cells b [wtF] 344
theorem aaH {x y:Pc}(b:M.has W)(e:M.A fb)(f:(fcE fb).is M.w)(g:okM M x)(j:okM M y) :
  Ret ah 325 #[x.1,y.1,af fb 0] W (λv w'=>v=ad (cmpI (pw x) (pw y))∧Below W.heap.size W w'):=by
 refine aX λK k=>kD ?_;unfold fO nz;have d:∀{W:ao},M.has W->(aH 344 (af fb 0)).run ah W=.ok (.value wtF) W:=λb=>aB atV (aI (T:=344) (cs:=[wtF]) (mH b e f) (i:=0) rfl);have c:=Own.start W;refine cY (λV=>Own W V []) c.drew ?_;have a:∀{V:ao},Own W V []->M.has V:=λh=>Mem.Pb b h.below;refine gA _ (λV h=>d (a h)) ?_;refine Zs FN (ad (pw x:Int)) (λV h=>(Ko (a h) g).mono λv w' r=>⟨r.1,by rw[<-r.2];exact h⟩) ?_;refine gA _ (λV h=>d (a h)) ?_;refine Zs FN (ad (pw y:Int)) (λV h=>(Ko (a h) j).mono λv w' r=>⟨r.1,by rw[<-r.2];exact h⟩) ?_;refine fY (ad (cmpI (pw x) (pw y))) (λV h=>(PS (pw x) (pw y) V).mono λv w' r=>⟨r.1,by rw[<-r.2];exact h⟩) ?_;intro V l;exact k _ _ ⟨rfl,l.done⟩
theorem amT (c:M.A fb)(d:(fcE fb).is M.w):CmpOk M (.func (.func 325) #[] #[af fb 0]) (okM M) where
 ptr:=λx a=>by
  obtain⟨b,e,_⟩:=Jb.ptr a;rw[e];exact⟨rfl,rfl⟩
 run:=⟨_,_,_,rfl,NG,λW x y f a g=>aaH f c d a g⟩
theorem Oj:elB ah 327 1 8=true:=krx
theorem amC:eS ah 326=true:=krx
section
variable {w:ao}{PK:PKT}{K:VWP}{S:Nat->Prop}{w0:ao}{L T:List Ent}
theorem WH {ps:List Pc}(h:∀x∈ps,okM M x):∀u∈pcW ps,u.oneCell'=true:=by
 intro u hu;obtain⟨x,a,rfl⟩:=avN.1 hu;obtain⟨b,c,_⟩:=Jb.ptr (h x a);rw[c];rfl
theorem QC (a b:List Pc):pcW (a++b)=pcW a++pcW b:=by simp[pcW]
theorem afO (o:bT S w0 w L)(p:0 < m)(t:m<=1000000000)
  (k:∀b c w',m<=c->bT S w0 w' (.urow 327 1 (bO b 0 0 c) 0 []::L)->K (bO b 0 m c) w') :
  DoX ah (mB .append #[326,3] 326 cb #[.slice ax 0 0,ad (m:Int)]) w PK K:=by
 obtain⟨i,z,hi,q,r,f,n⟩:=mA Oj;have a:(Builtin.firstCells i.size 0 (.slice ax 0 0)).run ah w.drew=.ok ([]:List aq).toArray w.drew:=by
  simp[Builtin.firstCells]
 have g:=grownCap_ge w (0+m) 0 327;have hle:=grownCap_le_maxLen w (0+m) 0 327 (by simp only[maxLen];omega);have s:=Lib.run_append_grow_zeros (P:=ah) w 326 3 326 327 i z .i64 .i64 axI avY hi q ax 0 0 [] a m p om om om (by
   rw[f];omega) (by rw[f];exact growslice_fits om om)
 have h:∀x,(Builtin.zeroCells z.cells x).toList.length=x*1:=by intro x;simp[Builtin.zeroCells,n]
 obtain⟨d,j⟩:∃d,d=(Builtin.zeroCells z.cells m).toList++(Builtin.zeroCells z.cells (grownCap w (0+m) 0 327 - (0+m))).toList:=⟨_,rfl⟩;have hlen:d.length=grownCap w (0+m) 0 327:=by
  rw[j,auH,h,h];omega
 have key:=(o.drew).alloc d 327;have e:d.toArray=([]:List aq).toArray++Builtin.zeroCells z.cells m++Builtin.zeroCells z.cells (grownCap w (0+m) 0 327 - (0+m)):=by
  rw[j];simp
 have l:(mB .append #[326,3] 326 cb #[.slice ax 0 0,ad (m:Int)]).run ah w=.ok (.value (bO w.heap.size 0 (0+m) (grownCap w (0+m) 0 327))) (w.drew.alloc (.cells d.toArray 327)):=by
  rw[e];simp[mB,builtin,s]
 have hu:=key.toU 1 0 (grownCap w (0+m) 0 327) om om (by simp only[maxLen] at hle;exact hle);rw[axP,axY] at hu;rw[auP] at l hu g;exact vZ l (k _ _ _ g hu)
theorem alO:(Tryz.prog.info? 326).map (·.size)=ay 1:=krx
theorem akL (d:bT S w0 w L)(g:0 < m)(h:m<=1000000000)(k:∀v W,bT S w0 W (.urow 327 1 v 0 []::L)->K v W):cR ah 333 #[.slice ax 0 0,ad (m:Int)] w PK K:=by
 refine gK (fE (k0:=wT λv W=>bT S w0 W (.urow 327 1 v 0 []::L)) ?_) (λe W ⟨v,he,d⟩=>by subst he;exact k v W d);unfold cM nz;refine join λJ i=>?_;simp only[rs,show ai ((m:Int) < 0)=au from auD om,i_f];refine i _ _ λ_=>?_;unfold cK nz;refine join λl f=>?_;rw[Ti axI,bW axI];simp only[rs];have j:IntKind.i64.wrap (((0:Nat):Int) - ((0:Nat):Int))=0:=aA om om;rw[j];rw[aA om om];simp only[show ai ((0:Int) < (m:Int) - 0)=aw from auG om,i_t];rw[Ti axI,Int.sub_zero];have es:∀{PK:PKT} {K:VWP},DoX ah (fJ 326 (.slice ax 0 0) ax (ay (ad ((0:Nat):Int))) ax) w PK K=K (.slice ax 0 0) w:=aD krx;rw[es];refine afO d g h λb c w2 n d=>?_;rw[bW axI];refine aD (jJ axI GX om om) |>.mpr ?_;refine f _ _ λ_=>?_;simp only[cL,gd,nz];have e:wB (ay ⟨b,0,ax⟩) 0 c 1=ay ⟨b,0,ax⟩:=HT (a:=⟨b,0,ax⟩);rw[e];exact vG d
theorem Z4 {g:Nat}{h:aq}{a c:List Pc}(hm:T[jm]?=ay (.mem M))(d:bT S w0 w (.cells g [va,h] 326::T))(I:SlA M.A M.w va 1 a.length (pcW a))(L:SlA M.A M.w h 1 c.length (pcW c))
  (B:∀x∈a,okM M x) (C:∀x∈c,okM M x) (Q:0 < a.length) (j:a.length<=100000000) (q:c.length<=100000000)
  (k:∀v W,bT S w0 W (pcE v (a++c)::.cells g [va,h] 326::T)->K v W) :
  cR ah 323 #[bO g 0 2 2] w PK K:=by
 refine gK (eW (k0:=wT λv W=>bT S w0 W (pcE v (a++c)::.cells g [va,h] 326::T)) ?_) (λe W ⟨v,he,d⟩=>by subst he;exact k v W d);unfold cH nz;rw[bW aBu];have D:∀{W:ao} {e:Ent},bT S w0 W (e::T)->M.has W:=λd=>d.hasM (jm+1) (by rw[avR];exact hm);have E:∀{W:ao} {e e':Ent},bT S w0 W (e::e'::T)->M.has W:=λd=>d.hasM (jm+2) (by rw[avR,avR];exact hm);have r:∀{i:Nat} (W:ao),i < 2->(mIA 358 (bO g 0 2 2) (ad (i:Int))).run ah W=.ok (.value (af g i)) W:=λ{i} W hi=>by
  have:=cZ (P:=ah) (T:=358) (b:=g) (off:=0) (cap:=2) (n:=2) (k:=.i64) (i:=(i:Int)) (w:=W) aBu alO om om
  rwa [auJ,avC,auP] at this
 have s:∀{i:Nat} {W:ao},i < 2->M.has W->Sl W ([va,h].getD i undef) 1 ([a,c].getD i []).length (pcW ([a,c].getD i [])):=λ{i W} hi F=>by
  rcases (by omega:i=0∨i=1) with rfl|rfl
  ·exact I.now F
  ·exact L.now F
 have t:∀{i:Nat},i < 2->[va,h][i]?=ay ([va,h].getD i undef):=λ{i} hi=>by
  rcases (by omega:i=0∨i=1) with rfl|rfl<;>rfl
 refine loop (λvs W=>∃i sz:Nat,vs=[ad (sz:Int),ad (i:Int)]∧i<=2∧sz=(([a,c].take i).flatten).length∧bT S w0 W (.cells g [va,h] 326::T)) (λvs _=>2 - n1 vs) ⟨0,0,rfl,om,rfl,d⟩ ?_;clear d;rintro vs N ⟨i,sz,rfl,hi,l,d⟩ _;simp only[cB,gd,rs,nz];by_cases y:(i:Int) < ((2:Nat):Int)
 ·simp only[y,auE,i_t];have f:i < 2:=om
  refine join λJ O=>?_;refine aD (r N f) |>.mpr (aD (aB amC (d.cell 0 rfl i (t f))) |>.mpr ?_);rw[aZ axI (s f (D d))];have hle:([a,c].getD i []).length<=100000000:=by
   rcases (by omega:i=0∨i=1) with rfl|rfl
   ·exact j
   ·exact q
  have G:sz<=100000000:=by
   rw[l];rcases (by omega:i=0∨i=1) with rfl|rfl
   ·simp
   ·simpa using j
  have o:sz+([a,c].getD i []).length=(([a,c].take (i+1)).flatten).length:=by
   rw[l];rcases (by omega:i=0∨i=1) with rfl|rfl<;>simp
  simp only[rs];rw[aA om om];simp only[show ai ((sz:Int)+((([a,c].getD i []).length:Nat):Int) < 0)=au from auD om,i_f];refine O _ _ λ_=>?_;simp only[cC,gd,rs,nz];rw[aA om om];exact bC ⟨i+1,sz+([a,c].getD i []).length,by congr 2,om,o,d⟩ (by simp[n1,RowKit.intOf];omega)
 ·simp only[y,auF,i_f];have p:i=2:=om
  subst p;have l:sz=a.length+c.length:=by rw[l];simp
  refine akL d om om λv0 w2 d=>?_;rw[bW aBu];refine loop (λvs W=>∃(i:Nat) (v:aq),vs=[v,ad (i:Int)]∧i<=2∧bT S w0 W (pcE v (([a,c].take i).flatten)::.cells g [va,h] 326::T)) (λvs _=>2 - n1 vs) ⟨0,v0,rfl,om,d⟩ ?_;clear d;rintro vs w3 ⟨i,v,rfl,hi,d⟩ _;simp only[cD,gd,rs,nz];by_cases m:(i:Int) < ((2:Nat):Int)
  ·simp only[m,auE,i_t];have f:i < 2:=om
   refine aD (r w3 f) |>.mpr (aD (aB amC (d.cell 1 rfl i (t f))) |>.mpr ?_);have hle:([a,c].getD i []).length<=100000000:=by
    rcases (by omega:i=0∨i=1) with rfl|rfl
    ·exact j
    ·exact q
   have H:(([a,c].take i).flatten).length<=100000000:=by
    rcases (by omega:i=0∨i=1) with rfl|rfl
    ·simp
    ·simpa using j
   have z:∀u∈pcW ([a,c].getD i []),u.oneCell'=true:=by
    rcases (by omega:i=0∨i=1) with rfl|rfl
    ·exact WH B
    ·exact WH C
   have o:([a,c].take (i+1)).flatten=([a,c].take i).flatten++[a,c].getD i []:=by
    rcases (by omega:i=0∨i=1) with rfl|rfl<;>simp
   refine bZ 0 axI Oj dc d rfl (s f (E d)) z om om λv' R d=>?_
   try simp only[rs]
   rw[aA om om];refine bC ⟨i+1,v',by congr 2,om,?_⟩ (by simp[n1,RowKit.intOf];omega);rw[o];unfold pcE;rw[QC,auH];exact d
  ·simp only[m,auF,i_f];have p:i=2:=om
   subst p;have e:([a,c].take 2).flatten=a++c:=sm
   rw[e] at d;exact vG d
end
theorem okM.le {M N:Mem}(h:M.le N){x:Pc}(k:okM M x):okM N x:=Jb.le h k
theorem Lc (c d:List Pc)(va e:aq)(M:Mem)(w:ao)(y:M.has w)(B:SlA M.A M.w va 1 c.length (pcW c))(C:SlA M.A M.w e 1 d.length (pcW d))(j:∀x∈c,okM M x)(k:∀x∈d,okM M x)(D:0 < c.length)(E:c.length<=10000000)(F:d.length<=10000000)
  (o:va.oneCell'=aw) (p:e.oneCell'=aw) :
  jR ah 300 #[va,e] M w (λr N=>∃f:List Pc,f.Perm (c++d)∧Srt.srt pw f∧(∀x∈f,okM N x)∧r.oneCell'=aw∧SlA N.A N.w r 1 f.length (pcW f)):=by
 refine bB y λK G=>IG ?_;unfold Gc nz;have a:bT M.A w w [.mem M]:=bT.memS y;refine⟨lJ ?_⟩;unfold gB nz;refine bK (λb=>af b 0) [wtF] 344 (λ_=>by kernel_rfl) a λfb Q a=>?_;have q:=a.at_ 0 rfl;obtain⟨N1,g1,s,l,a⟩:=bT.freeze (L:=[.mem M]) a 0 rfl;have t:N1.A fb:=l fb rfl;have m:(fcE fb).is N1.w:=by rw[s];exact q
 have H:∀W:ao,(aM 358 2 #[(0,va),(1,e)]).run ah W=.ok (.value (bO W.heap.size 0 2 2)) (W.alloc (.cells [va,e].toArray 326)):=λW=>by
  cases va<;>first|(cases o;done)|(cases e<;>first|(cases p;done)|kernel_rfl)
 refine bK (λb=>bO b 0 2 2) [va,e] 326 H a λz w2 a=>?_;refine Z4 (jm:=0) rfl a (B.le g1) (C.le g1) (λx i=>(j x i).le g1) (λx i=>(k x i).le g1) D om om λv w3 a=>?_;have n:∀x∈c++d,okM N1 x:=λx i=>by
  rcases avF.1 i with h|h
  ·exact (j x h).le g1
  ·exact (k x h).le g1
 have hlen:(c++d).length=c.length+d.length:=auH;obtain⟨g,cap,rfl⟩:=nX (a.at_ 0 rfl) om;rw[tZ];refine ahG (jm:=1) (amT t m) rfl om rfl a n λI f hp J a=>?_;have O:=hp.length_eq;have a:bT M.A w I (.urow 327 1 (bO g 0 (c++d).length cap) f.length (pcW f)::[.cells z [va,e] 326,.mem N1]):=a;obtain⟨P,g2,u,a⟩:=bT.bG (L:=[.cells z [va,e] 326,.mem N1]) a 1 rfl;exact G _ _ P _ 1 a rfl (g1.trans g2) ⟨f,hp,J,λx i=>(n x (hp.mem_iff.1 i)).le g2,rfl,u⟩
theorem pcAt {ps:List Pc}(a:SlA M.A M.w v 1 ps.length (pcW ps))(hi:i < ps.length) :
  ∃p,(∀W,(mIA 326 v (ad (i:Int))).run ah W=.ok (.value (.pointer (ay p))) W)∧∀W,M.has W->(aH 327 (.pointer (ay p))).run ah W=.ok (.value ps[i].1) W:=by
 obtain⟨b,off,cap,rfl,_⟩:=bR a.1 om;refine⟨⟨b,off+i,ax⟩,λW=>?_,λW e=>?_⟩
 ·have:=cZ (P:=ah) (T:=326) (b:=b) (off:=off) (cap:=cap) (n:=ps.length) (k:=.i64) (i:=(i:Int)) (w:=W) axI GX om om;rw[auJ,avC] at this;exact this
 ·obtain⟨g,c,d,he,f⟩:=bR (a.now e) om;cases he;refine aB Pv (f i _ ?_);rw[XJ hi,auK,auO hi];rfl
theorem Uv (ps:List Pc)(v:aq)(M:Mem)(w:ao)(m:M.has w)(G:SlA M.A M.w v 1 ps.length (pcW ps))(n:∀x∈ps,okM M x)(hl:ps.length<=1000000)(o:∀x∈ps,pw x<=1000000000000000) :
  jR ah 301 #[v] M w (λr N=>∃c:List Pc,c.map (·.2)=Cn.bL (ps.map (·.2))∧(∀x∈c,okM N x)∧r.oneCell'=aw∧SlA N.A N.w r 1 c.length (pcW c)):=by
 refine bB m λK hK=>Kx ?_;unfold Hv nz;have a:bT M.A w w [.mem M]:=bT.memS m;have a:bT M.A w w [.urow 327 1 cI 0 [],.mem M]:=bT.nilU (L:=[.mem M]) a _ _;refine loop (λvs W=>∃(i:Nat) (v':aq) (c:List Pc) (N:Mem),vs=[v',ad (i:Int)]∧i<=ps.length+1∧M.le N∧c.length=i / 2∧i % 2=0∧c.map (·.2)++Cn.bL ((ps.drop i).map (·.2))=Cn.bL (ps.map (·.2))∧(∀x∈c,okM N x)∧bT M.A w W [pcE v' c,.mem N]) (λvs _=>ps.length+2 - n1 vs) ⟨0,cI,[],M,rfl,om,M.le_refl,rfl,rfl,rfl,(λx J=>by cases J),a⟩ ?_;clear a;rintro vs w1 ⟨i,v',c,N,rfl,hi,hle,b6,b7,O,p,a⟩ _;simp only[DO,gd,rs,iN,bnx,lnx];rw[aA om om,aZ axI (G.now (Mem.JJ hle (a.hasM 1 rfl)))];simp only[rs];by_cases q:(i:Int)+1 < (ps.length:Int)
 ·simp only[q,auE,i_t];have b8:i+1 < ps.length:=om
  have b9:=λ{j:Nat} (hj:j < ps.length)=>pcAt G hj;have d:∀{V:ao},bT M.A w V [pcE v' c,.mem N]->M.has V:=λh=>Mem.JJ hle (h.hasM 1 rfl);obtain⟨p0,s,e⟩:=pcAt G (i:=i) om;obtain⟨p1,z,f⟩:=pcAt G (i:=i+1) om;have g:=n _ (auS (show i < ps.length by omega));have k:=n _ (auS (show i+1 < ps.length by omega));have B:=o _ (auS (show i < ps.length by omega));have C:=o _ (auS (show i+1 < ps.length by omega));have l:ps.drop i=ps[i]::ps[i+1]::ps.drop (i+2):=by
   rw[avX (show i < ps.length by omega),avX (show i+1 < ps.length by omega)]
  generalize ps[i]=x at e g B l;generalize ps[i+1]=y at f k C l;have D:=g.le hle;have E:=k.le hle;obtain⟨H,s0,P,Q,R,S,U⟩:=Jb.wt g;obtain⟨I,s1,X,Y,e1,Z,a1⟩:=Jb.wt k;have l0:∀{V:ao},M.has V->(aH 3 (af H (0+0))).run ah V=.ok (.value (ad (x.2.wt:Int))) V:=λm=>aB aU (aI (T:=329) (cs:=cnC x.2.wt s0 P Q) (mH m S U) (i:=0) rfl);have l1:∀{V:ao},M.has V->(aH 3 (af I (0+0))).run ah V=.ok (.value (ad (y.2.wt:Int))) V:=λm=>aB aU (aI (T:=329) (cs:=cnC y.2.wt s1 X Y) (mH m Z a1) (i:=0) rfl);refine cY (λV=>bT M.A w V [pcE v' c,.mem N]) a.drew ?_;refine dY _ s (gA _ (λV h=>e V (d h)) ?_);rw[R];refine dY _ (λ_=>dW) (dY _ (λ_=>bE VM) (gA _ (λV h=>l0 (d h)) ?_));refine sW ?_;rw[aA om om,show (i:Int)+1=((i+1:Nat):Int) by omega];refine dY _ z (gA _ (λV h=>f V (d h)) ?_);rw[e1];refine dY _ (λ_=>dW) (dY _ (λ_=>bE VM) (gA _ (λV h=>l1 (d h)) ?_));have b4:x.2.wt<=1000000000000000:=B;have b5:y.2.wt<=1000000000000000:=C;refine sW ?_;rw[aA om om,show (x.2.wt:Int)+(y.2.wt:Int)=((x.2.wt+y.2.wt:Nat):Int) by omega];refine dY _ s (gA _ (λV h=>e V (d h)) ?_);refine sW ?_;rw[aA om om,show (i:Int)+1=((i+1:Nat):Int) by omega];refine dY _ z (gA _ (λV h=>f V (d h)) ?_);rw[R,e1];refine dY (.agg (cnC (x.2.wt+y.2.wt) 0 (af H 0) (af I 0)).toArray) (λ_=>by kernel_rfl) ?_;intro w2 a;refine bK (λb=>af b 0) (cnC (x.2.wt+y.2.wt) 0 (af H 0) (af I 0)) 329 (λ_=>by kernel_rfl) a λnb w3 a=>?_;have a6:=a.at_ 0 rfl;obtain⟨N1,g1,a7,F,a⟩:=bT.freeze (L:=[pcE v' c,.mem N]) a 1 rfl;have hz:okM N1 (af nb 0,.node x.2 y.2):=by
   refine⟨nb,af H 0,af I 0,rfl,F nb rfl,by rw[a7];exact a6,?_,?_⟩
   ·have:=D.le g1;unfold okM at this;rw[R] at this;exact this
   ·have:=E.le g1;unfold okM at this;rw[e1] at this;exact this
  have a:bT M.A w w3 [pcE v' c,.mem N1]:=a;refine bK (λb=>bO b 0 1 1) [af nb 0] 327 (λ_=>by kernel_rfl) a λsb w4 a=>?_;refine bZ 1 axI Oj dc a rfl (sQ (a.at_ 0 rfl) dc rfl) (λu hu=>by rw[avD.1 hu];rfl) om om λv2 w5 a=>?_
  try simp only[rs]
  rw[aA om om];have a:bT M.A w w5 [pcE v2 (c++[(af nb 0,.node x.2 y.2)]),.mem N1]:=by
   unfold pcE;rw[QC,auH];exact a.tail
  refine bC ⟨i+2,v2,_,N1,rfl,om,hle.trans g1,by rw[auH,awM];omega,om,?_,λu hu=>?_,a⟩ (by simp[n1,RowKit.intOf];omega)
  ·rw[<-O,l,avM,auN];rfl
  ·rcases avF.1 hu with h|h
   ·exact (p u h).le g1
   ·rw[avD.1 h];exact hz
 ·simp only[q,auF,i_f];have a8:=bX (a.at_ 0 rfl);have b2:Cn.bL ((ps.drop i).map (·.2))=[]:=by
   have hd:(ps.drop i).length<=1:=by rw[auT];omega
   rcases hp:ps.drop i with _|⟨x,_|⟨y,t⟩⟩
   ·rfl
   ·rfl
   ·rw[hp] at hd;simp at hd
  rw[b2,avA] at O;obtain⟨N2,g2,b3,a⟩:=bT.bG (L:=[.mem N]) a 0 rfl;exact hK _ _ N2 _ 0 a rfl (hle.trans g2) ⟨c,O,λx J=>(p x J).le g2,a8,b3⟩
end
section
open Eng
def Qs(w)(K:KT):=nz f262 1 [] [] [] (zg [] []) w K
theorem Qv:Qs w k0->Calls ah 262 #[] w k0:=cw func262
def vA(t0 t1 t2 w)(K:KT):=nz f314 3 [] [] [(2,22)] (zg [0,1,2] [t0,t1,t2]) w K
def Ab(t0 t1 t2 w)(K:KT):=nz f314 1 [] [(4,[],λs v j w f=>vA (s 0) (s 1) (s 2) w K)] [] (zg [0,1,2] [t0,t1,t2]) w K
theorem Em:Ab t0 t1 t2 w k0->Calls ah 314 #[t0,t1,t2] w k0:=cz [(2,[])] [] func314
def tV(w)(K:KT):=nz f290 31 [] [] [] (zg [] []) w K
def uZ(t0 t1 t3 t9 t38 w)(N1:JT)(K:KT):=nz f290 1899 [N1] [nh 9 [38]] [] (zg [0,1,3,9,38] [t0,t1,t3,t9,t38]) w K
def tN(t0 t1 t2 t3 t37 t38 w)(N1:JT)(K:KT):=nz f290 43 [N1] [nh 9 [38],(16,[9],λs v j w f=>uZ (s 0) (s 1) (s 3) (vg v 0) (s 38) w (f 0) K),(24,[],λs v j w f=>tV w K)] [] (zg [0,1,2,3,37,38] [t0,t1,t2,t3,t37,t38]) w K
def Ac(t0 t1 t2 t3 w)(K:KT):=nz f290 1 [] [(9,[38],λs v j w f=>tN (s 0) (s 1) (s 2) (s 3) (s 37) (vg v 0) w (f 0) K)] [] (zg [0,1,2,3] [t0,t1,t2,t3]) w K
theorem Eu:Ac t0 t1 t2 t3 w k0->Calls ah 290 #[t0,t1,t2,t3] w k0:=cz [(8,[9]),(12,[])] [(4,[38])] func290
def zR(t0 t1 t2 w)(K:KT):=nz f263 1 [] [] [] (zg [0,1,2] [t0,t1,t2]) w K
theorem Ec:zR t0 t1 t2 w k0->Calls ah 263 #[t0,t1,t2] w k0:=cw func263
def uN(t0 w)(K:KT):=nz f264 1 [] [] [] (zg [0] [t0]) w K
theorem A6:uN t0 w k0->Calls ah 264 #[t0] w k0:=cw func264
def uF(t0 t1 w)(K:KT):=nz f265 7 [] [] [] (zg [0,1] [t0,t1]) w K
def zX(t0 t1 w)(K:KT):=nz f265 1 [] [(6,[],λs v j w f=>uF (s 0) (s 1) w K)] [] (zg [0,1] [t0,t1]) w K
theorem Ep:zX t0 t1 w k0->Calls ah 265 #[t0,t1] w k0:=cz [(3,[])] [] func265
def wZ(t0 w)(K:KT):=nz f266 1 [] [] [] (zg [0] [t0]) w K
theorem CS:wZ t0 w k0->Calls ah 266 #[t0] w k0:=cw func266
def lG(t0 w)(K:KT):=nz f291 1 [] [] [] (zg [0] [t0]) w K
theorem sN:lG t0 w k0->Calls ah 291 #[t0] w k0:=cw func291
end
end Go.Proofs.YtlgndjkieegnaaaGreatDoor
