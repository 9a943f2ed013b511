/- Parts of the proof. -/
import Derived.Maps.RangeRun
import Derived.Test.YtkghomgfocpgeaaGreatDoorRows
import Derived.Lib.ConvBytes
import Derived.Laws.IdiomCopy
import Derived.Test.YtkghomgfocpgeaaGreatDoorMgjbmoekn
set_option linter.all false
set_option maxRecDepth 20000
open Go.Proofs.Tryz
open Go.Proofs.Tryz renaming prog->ah
open Option renaming some->ax,none->aw
open Bool renaming true->av,false->au
open Go renaming Value->aq,World->ao
open Decidable renaming decide->ai
namespace Go.Proofs.YtkghomgfocpgeaaGreatDoor
variable{A:Nat->Prop}{D E:TypeId}{M:Eng.Mem}{P:Program}{R:List Eng.Ent}{W w:ao}{a way:Int}{args:Array aq}{b cap f fb i j most p rb sz tb:Nat}{cs:List aq}{l near:List Nat}{t0 t1 v:aq}{u:FrameMode}{α:Type}{t0 t1 t2:aq}{k0:Eng.KT}
section
open Eng Go.RowKit
theorem Wy {R:aq->Prop}(h:lA P f args M w (λv _=>R v)):Ret P f args w (λv w'=>R v∧Below w.heap.size w w'):=Ret.mono h λv w' ⟨N,g,r⟩=>⟨r,g.below⟩
theorem asS (a b:Nat):((a:Nat):Int).tdiv ((b:Nat):Int)=((a / b:Nat):Int):=rfl
theorem aoN (a b:Nat):((a:Nat):Int).tmod ((b:Nat):Int)=((a % b:Nat):Int):=rfl
theorem IE {n:Nat}(h:n<=1000000000):IntKind.u64.wrap (n:Int)=(n:Int):=by unfold IntKind.wrap;simp[IntKind.bits,IntKind.signed];omega
theorem shl1 {n:Nat}(a:n<=62):IntKind.wrap .i64 (1*2 ^ (min ((n:Nat):Int).toNat IntKind.i64.bits))=((2 ^ n:Nat):Int):=by
 have hp:2 ^ n<=2 ^ 62:=awC dc a;have b:(2:Nat) ^ 62=4611686018427387904:=dc
 rw[show min ((n:Nat):Int).toNat IntKind.i64.bits=n by show min ((n:Nat):Int).toNat 64=n;omega,show (1:Int)*2 ^ n=((2 ^ n:Nat):Int) by push_cast;omega];generalize 2 ^ n=q at hp;exact aA om om
theorem LP (n:Nat)(w:ao)(a:n<=62):Ret ah 231 #[ad (n:Int)] w (λv w'=>v=ad ((2 ^ n:Nat):Int)∧w=w'):=by
 refine aL λK b=>BU ?_;unfold rY nz;refine aC (aZ krx ayI) |>.mpr ?_;rw[IE om,Bi om,shl1 a];exact b _ _ ⟨rfl,rfl⟩
theorem UW (s:List UInt8)(p:Nat)(w:ao)(hp:p<=1000000000000)(i:s.length<=1000000000):Ret ah 202 #[ae s,ad (p:Int)] w (λv w'=>v=ad (if p < 8*s.length then ((Fl.bit s p:Nat):Int) else -1)∧Below w.heap.size w w'):=by
 refine aL λK b=>Cc ?_;unfold vB nz;simp only[rs,show ai ((p:Int) < 0)=au from auQ om];rw[Ej dc,show ((p:Nat):Int).tdiv 8=((p / 8:Nat):Int) from rfl,aA om om]
 try simp only[rs]
 rw[dE auV]
 try simp only[rs]
 by_cases h:p < 8*s.length
 ·simp only[show ai ((s.length:Int)<=((p / 8:Nat):Int))=au from auQ om,rs];rw[auP h] at b;refine quiet ?_;have e:s[p / 8]?=ax (s.getD (p / 8) 0):=by
   rw[auZ,auX om];rfl
  refine aaI dc ?_;rw[show ((p:Nat):Int).tdiv 8=((p / 8:Nat):Int) from rfl,aA om om];refine q_ix (c:=s.getD (p / 8) 0) auV om (by rw[auW];exact e) ?_;refine eZ _ (λ_=>aZ krx awM) (aeC dc ?_);rw[show ((p:Nat):Int).tmod 8=((p % 8:Nat):Int) from rfl];refine fC (ad ((2 ^ (p % 8):Nat):Int)) (λW h=>(LP (p % 8) W om).mono λv w' ⟨f,d⟩=>⟨f,d▸h⟩) ?_;have j:=awQ (s.getD (p / 8) 0);have d:0 < 2 ^ (p % 8):=aAI _;rw[show IntKind.i64.wrap ((s.getD (p / 8) 0).toNat:Int)=((s.getD (p / 8) 0).toNat:Int) from aA om om];refine aaI om ?_;rw[asS];have g:(s.getD (p / 8) 0).toNat / 2 ^ (p % 8)<=(s.getD (p / 8) 0).toNat:=azF _ _;have a:Fl.bit s p=(s.getD (p / 8) 0).toNat / 2 ^ (p % 8) % 2:=rfl;generalize (s.getD (p / 8) 0).toNat / 2 ^ (p % 8)=q at g a ⊢;rw[aA om om];refine aeC dc ?_;rw[show ((q:Nat):Int).tmod 2=((q % 2:Nat):Int) from rfl,<-a];intro w2 hw;exact b _ _ ⟨rfl,hw⟩
 ·simp only[show ai ((s.length:Int)<=((p / 8:Nat):Int))=av from auR om,rs];rw[auO h] at b;exact b _ _ ⟨rfl,Below.refl _ _⟩
def nmT (x:Nat×Nat×Int):Value:=.tuple #[ad (x.1:Int),ad (x.2.1:Int),ad x.2.2]
theorem OX (s:List UInt8)(p n:Nat)(w:ao)(hp:p<=8*s.length)(o:n<=32)(e:s.length<=1000000000):Ret ah 171 #[ae s,ad (p:Int),ad (n:Int)] w (λv w'=>v=nmT (Fl.numE s p n)∧Below w.heap.size w w'):=by
 refine aL λK c=>wN ?_;unfold oI nz;have a:dQ NoB w w []:=Own.start w;refine loop (λvs W=>∃i:Nat,vs=[ad (Fl.num s p i:Int),ad (i:Int)]∧i<=n∧p+i<=8*s.length∧dQ NoB w W []) (λvs _=>n - n1 vs) ⟨0,rfl,om,om,a⟩ ?_;clear a;rintro vs f ⟨i,rfl,hi,g,a⟩ _;simp only[kV,gd,rs,nz];by_cases b:(i:Int) < (n:Int)
 ·simp only[b,auS,i_t];rw[aA om om,show (p:Int)+(i:Int)=((p+i:Nat):Int) by omega];refine aI a (UW s (p+i) f om e) ?_;rintro _ w2 rfl a;by_cases d:p+i < 8*s.length
  ·rw[auP d];have h:=Fl.Q4 s (p+i);simp only[rs,show ai (((Fl.bit s (p+i):Nat):Int) < 0)=au from auQ om];refine aC (aZ krx ayI) |>.mpr ?_;have j:2 ^ i<=2 ^ 32:=awC dc om;have k:(2:Nat) ^ 32=4294967296:=dc
   have l:=Fl.iG s p i;have m:Fl.bit s (p+i)*2 ^ i<=1*2 ^ i:=awL _ om;rw[IE om,Bi om,show min ((i:Nat):Int).toNat IntKind.i64.bits=i by show min ((i:Nat):Int).toNat 64=i;omega,
    show ((Fl.bit s (p+i):Nat):Int)*2 ^ i=((Fl.bit s (p+i)*2 ^ i:Nat):Int) by push_cast;rfl,aA om om]
   try simp only[rs]
   rw[aA om om,aA om om];refine aU ⟨i+1,?_,om,om,a⟩ (by simp[n1,RowKit.intOf];omega);rw[Fl.num]
   push_cast
   rfl
  ·rw[auO d];simp only[rs,show ai ((-1:Int) < 0)=av from rfl];refine c _ _ ⟨?_,a.done⟩;unfold Fl.numE;rw[auO om];rfl
 ·simp only[b,auT,i_f];have:i=n:=om
  subst this;rw[aA om om];refine c _ _ ⟨?_,a.done⟩;unfold Fl.numE;rw[auP om];unfold nmT
  push_cast
  rfl
theorem yb (l:List Nat)(x:Nat):gr (l++[x])=gr l+(if x=0 then 0 else 1):=by
 unfold gr;rw[aAW,auU];by_cases h:x=0<;>simp[h]
theorem yd (l:List Nat)(x:Nat):dq (l++[x])=dq l+(if x=0 then 0 else 2 ^ (15 - x)):=by
 unfold dq;rw[avT,aAl];simp
theorem pz:∀(l:List Nat),dq l<=l.length*32768
|[]=>by simp[dq]
|x::l=>by
  have a:=pz l;unfold dq at a ⊢;rw[awY,azK,avR,axZ];have:(if x=0 then 0 else 2 ^ (15 - x))<=32768:=by
   split
   ·omega
   ·have:2 ^ (15 - x)<=2 ^ 15:=awC dc om;simpa using this
  omega
theorem vm (l:List Nat):gr l<=l.length:=aBi _ _
theorem Di (h:i < l.length):l.take (i+1)=l.take i++[l[i]]:=avP h
theorem Zj (lens:List Nat)(v:aq)(M:Mem)(w:ao)(n:lens.length<=100000)(e:M.has w)(f:SlA M.A M.w v 1 lens.length (aT lens)) :
  lA ah 233 #[v] M w (λr _=>r=ad (gr lens:Int)):=by
 refine aO e λK j=>Bl ?_;unfold sU nz;have a:dQ M.A w w [.mem M]:=dQ.memS e;refine loop (λvs W=>∃i:Nat,vs=[ad (gr (lens.take i):Int),ad (i:Int)]∧i<=lens.length∧dQ M.A w W [.mem M]) (λvs _=>lens.length - n1 vs) ⟨0,rfl,om,a⟩ ?_;clear a;rintro vs g ⟨i,rfl,hi,a⟩ _;simp only[nT,gd,nz];rw[aS avJ (f.now (a.hasM 0 rfl))]
 try simp only[rs]
 by_cases b:(i:Int) < (lens.length:Int)
 ·simp only[b,auS,i_t];have c:i < lens.length:=om
  refine join λJ k=>?_;obtain⟨b2,off,l,m⟩:=eG (f.now (a.hasM 0 rfl)) c;refine aC (l g) |>.mpr (aC (aB aW m) |>.mpr ?_);have d:=vm (lens.take i);rw[avA] at d;have fin:J [ad (gr (lens.take (i+1)):Int)] g:=by
   refine k _ _ λ_=>?_;simp only[oF,gd,rs,nz];rw[aA om om];exact aU ⟨i+1,rfl,om,a⟩ (by simp[n1,RowKit.intOf];omega)
  rw[Di c,yb] at fin
  try simp only[rs]
  by_cases h:lens[i]=0
  ·rw[auP h,axA] at fin;simp only[show ai (((lens[i]:Nat):Int)≠0)=au from auQ om,i_f];exact fin
  ·rw[auO h] at fin;simp only[show ai (((lens[i]:Nat):Int)≠0)=av from auR om,i_t];rw[aA om om];exact fin
 ·simp only[b,auT,i_f];have:i=lens.length:=om
  subst this;rw[awI];exact j _ _ M _ 0 a rfl M.le_refl rfl
theorem Dy (lens:List Nat)(v:aq)(M:Mem)(w:ao)(h:∀l∈lens,l<=15)(z:lens.length<=100000)(p:M.has w)(j:SlA M.A M.w v 1 lens.length (aT lens)) :
  lA ah 206 #[v] M w (λr _=>r=ad (bh lens)):=by
 refine aO p λK g=>Aa ?_;unfold qS nz;have a:dQ M.A w w [.mem M]:=dQ.memS p;rw[aS avJ (j.now p)]
 try simp only[rs]
 by_cases d:(288:Int) < (lens.length:Int)
 ·simp only[d,auS,i_t];exact g _ _ M _ 0 a rfl M.le_refl (by unfold bh;rw[auP om])
 have B:bh lens=Fl.check lens:=by unfold bh;rw[auO om]
 simp only[d,auT,i_f];refine loop (λvs W=>∃i:Nat,vs=[ad (dq (lens.take i):Int),ad (Fl.fL (lens.take i):Int),ad (i:Int)]∧i<=lens.length∧dQ M.A w W [.mem M]) (λvs _=>lens.length - n2 vs) ⟨0,rfl,om,a⟩ ?_;clear a;rintro vs f ⟨i,rfl,hi,a⟩ _;simp only[lL,gd,nz];rw[aS avJ (j.now (a.hasM 0 rfl))]
 try simp only[rs]
 by_cases k:(i:Int) < (lens.length:Int)
 ·simp only[k,auS,i_t];have c:i < lens.length:=om
  have x:=h _ (avD c);refine join λJ C=>?_;obtain⟨b2,off,n,o⟩:=eG (j.now (a.hasM 0 rfl)) c;refine aC (n f) |>.mpr (aC (aB aW o) |>.mpr ?_);simp only[rs,show ai (((lens[i]:Nat):Int) < 0)=au from auQ om];refine aC (n f) |>.mpr (aC (aB aW o) |>.mpr ?_);simp only[rs,show ai ((15:Int) < ((lens[i]:Nat):Int))=au from auQ om];refine aC (n f) |>.mpr (aC (aB aW o) |>.mpr ?_);have m:=pz (lens.take i);rw[avA] at m;have D:min i lens.length*32768<=100000*32768:=awL _ om;have fin:∀W,dQ M.A w W [.mem M]->J [ad (dq (lens.take (i+1)):Int),ad (Fl.fL (lens.take (i+1)):Int)] W:=by
   intro W a;refine C _ _ λ_=>?_;simp only[lD,gd,rs,nz];rw[aA om om];exact aU ⟨i+1,rfl,om,a⟩ (by simp[n2,RowKit.intOf];omega)
  rw[Di c,yd,sn] at fin
  try simp only[rs]
  by_cases q:lens[i]=0
  ·rw[auP q,axA,q,Nat.max_zero] at fin;simp only[show ai ((0:Int) < ((lens[i]:Nat):Int))=au from auQ om,i_f];exact fin f a
  ·rw[auO q] at fin;simp only[show ai ((0:Int) < ((lens[i]:Nat):Int))=av from auR om,i_t];refine aC (n f) |>.mpr (aC (aB aW o) |>.mpr ?_)
   try simp only[rs]
   rw[aA om om,show (15:Int) - ((lens[i]:Nat):Int)=((15 - lens[i]:Nat):Int) by omega];refine aI a (R:=λr=>r=ad ((2 ^ (15 - lens[i]):Nat):Int)) ((LP (15 - lens[i]) f om).mono λv w' ⟨s,t⟩=>⟨s,t▸Below.refl _ _⟩) ?_;rintro _ w2 rfl a;have u:2 ^ (15 - lens[i])<=2 ^ 15:=awC dc om;have e:(2:Nat) ^ 15=32768:=dc
   generalize 2 ^ (15 - lens[i])=pw at u fin ⊢
   try simp only[rs]
   rw[aA om om];obtain⟨b3,y,E,F⟩:=eG (j.now (a.hasM 0 rfl)) c;refine aC (E w2) |>.mpr (aC (aB aW F) |>.mpr ?_);rw[sQ];have:=fin w2 a;rw[show max ((Fl.fL (lens.take i):Nat):Int) ((lens[i]:Nat):Int)=((max (Fl.fL (lens.take i)) lens[i]:Nat):Int) by omega];rw[show ((dq (lens.take i):Nat):Int)+(pw:Int)=((dq (lens.take i)+pw:Nat):Int) by omega];exact this
 ·simp only[k,auT,i_f];have:i=lens.length:=om
  subst this;rw[awI];have m:=pz lens;refine aI a (R:=λr=>r=ad ((2 ^ 15:Nat):Int)) ((LP 15 f om).mono λv w' ⟨s,t⟩=>⟨s,t▸Below.refl _ _⟩) ?_;rintro _ w2 rfl a;have b:=xz h;rw[<-B] at b;have e:((2 ^ 15:Nat):Int)=32768:=dc
  rw[e]
  try simp only[rs]
  by_cases G:dq lens=32768
  ·rw[auP (.inl G)] at b;simp only[show ai (((dq lens:Nat):Int)=32768)=av from auR om,rs,iO];exact g _ _ M _ 0 a rfl M.le_refl (by rw[b])
  simp only[show ai (((dq lens:Nat):Int)=32768)=au from auQ om,rs,iO];by_cases H:dq lens=0
  ·rw[auP (.inr (.inl H))] at b;simp only[show ai (((dq lens:Nat):Int)=0)=av from auR om,rs,iO];exact g _ _ M _ 0 a rfl M.le_refl (by rw[b])
  simp only[show ai (((dq lens:Nat):Int)=0)=au from auQ om,rs,iO];refine aY a 0 rfl (Zj lens v M w2 z (a.hasM 0 rfl) j) ?_;rintro _ N w3 hle rfl a
  try simp only[rs]
  by_cases I:gr lens=1
  ·simp only[show ai (((gr lens:Nat):Int)=1)=av from auR om,rs];by_cases L:Fl.fL lens=1
   ·rw[auP (.inr (.inr ⟨I,L⟩))] at b;simp only[show ai (((Fl.fL lens:Nat):Int)=1)=av from auR om,rs];exact g _ _ N _ 0 a rfl hle (by rw[b])
   ·rw[auO om] at b;simp only[show ai (((Fl.fL lens:Nat):Int)=1)=au from auQ om,rs];exact g _ _ N _ 0 a rfl hle (by rw[b])
  ·rw[auO om] at b;simp only[show ai (((gr lens:Nat):Int)=1)=au from auQ om,rs];exact g _ _ N _ 0 a rfl hle (by rw[b])
theorem P4 (lens:List Nat)(n k:Nat)(v:aq)(M:Mem)(w:ao)(s:lens.length<=100000)(e:k<=1000000)(j:M.has w)(l:SlA M.A M.w v 1 lens.length (aT lens)) :
  lA ah 263 #[v,ad (n:Int),ad (k:Int)] M w (λr _=>r=ad (Fl.place lens n k:Int)):=by
 refine aO j λK f=>yS ?_;generalize a:Fl.place lens n k=R at f;unfold pT nz;have b:dQ M.A w w [.mem M]:=dQ.memS j;refine loop (λvs W=>∃(i k:Nat),vs=[ad (k:Int),ad (i:Int)]∧i<=lens.length∧k<=1000000∧Fl.Hn n i (lens.drop i) k=R∧dQ M.A w W [.mem M]) (λvs _=>lens.length - n1 vs) ⟨0,k,rfl,om,e,a,b⟩ ?_;clear b a e;rintro vs m ⟨i,k,rfl,hi,e,a,b⟩ _;simp only[lE,gd,nz];rw[aS avJ (l.now (b.hasM 0 rfl))]
 try simp only[rs]
 by_cases c:(i:Int) < (lens.length:Int)
 ·simp only[c,auS,i_t];have d:i < lens.length:=om
  refine join λJ o=>?_;obtain⟨b2,off,p,q⟩:=eG (l.now (b.hasM 0 rfl)) d;refine aC (p m) |>.mpr (aC (aB aW q) |>.mpr ?_);rw[avW d] at a;unfold Fl.Hn at a;have fin:∀k':Nat,k'<=1000000->Fl.Hn n (i+1) (lens.drop (i+1)) k'=R->J [ad (k':Int)] m:=by
   intro k' g h;refine o _ _ λ_=>?_;simp only[mH,gd,rs,nz];rw[aA om om];exact aU ⟨i+1,k',rfl,om,g,h,b⟩ (by simp[n1,RowKit.intOf];omega)
  try simp only[rs]
  by_cases he:lens[i]=n
  ·rw[auP he] at a;simp only[show ai (((lens[i]:Nat):Int)=(n:Int))=av from auR om,i_t,rs];cases k with
  |zero=>
    simp only[show ai (((0:Nat):Int)=0)=av from rfl,i_t];dsimp only at a;subst a;exact f _ _ M _ 0 b rfl M.le_refl rfl
  |succ k=>
    simp only[show ai (((k+1:Nat):Int)=0)=au from auQ om,i_f];rw[aA om om,show ((k+1:Nat):Int) - 1=(k:Int) by omega];exact fin k om a
  ·rw[auO he] at a;simp only[show ai (((lens[i]:Nat):Int)=(n:Int))=au from auQ om,i_f];exact fin k e a
 ·simp only[c,auT,i_f];rw[awK om] at a;have a:0=R:=a;subst a;exact f _ _ M _ 0 b rfl M.le_refl rfl
abbrev n6T:TypeId:=298
abbrev n6E (b:Nat)(f:Nat->Int):Ent:=.cells b (nsC f) n6T
theorem KD (hi:i < 16):(mIA n6T (af b 0) (ad (i:Int))).run ah W=.ok (.value (af b i)) W:=by
 rcases lt16 hi with rfl|rfl|rfl|rfl|rfl|rfl|rfl|rfl|rfl|rfl|rfl|rfl|rfl|rfl|rfl|rfl<;>kernel_rfl
def fo (lens:List Nat)(l:Nat):Nat:=if l=0 then 0 else Fl.first lens l+lens.count l
theorem yf (lens:List Nat)(l:Nat):Fl.first lens (l+1)=2*fo lens l:=by
 unfold fo;cases l with
|zero=>rfl
|succ l=>rw[auO om,Fl.first]
theorem KX (lens:List Nat)(v:aq)(s:List UInt8)(p:Nat)(M:Mem)(w:ao)(k:∀l∈lens,l<=15)(P:lens.length<=1000)(hp:p<=8*s.length)(B:s.length<=1000000000)(E:M.has w)(y:SlA M.A M.w v 1 lens.length (aT lens)) :
  lA ah 234 #[v,ae s,ad (p:Int)] M w (λr _=>∃a b:Nat,r=nmT (a,b,(bw lens s p).2.2)∧b<=8*s.length∧((bw lens s p).2.2=0->a=(bw lens s p).1∧b=(bw lens s p).2.1)):=by
 refine aO E λK z=>Br ?_;generalize d:bw lens s p=R at z;unfold bw at d;unfold sM nz;refine bB (λb=>af b 0) (nsC λ_=>0) n6T (λ_=>by kernel_rfl) (dQ.memS E) λC w1 c=>?_;have F:(λ_=>0:Nat->Int)=λm=>(((lens.take 0).count m:Nat):Int):=by funext m;simp
 rw[F] at c;refine loop (λvs W=>∃i:Nat,vs=[ad (Fl.fL (lens.take i):Int),ad (i:Int)]∧i<=lens.length∧dQ M.A w W [n6E C (λm=>(((lens.take i).count m:Nat):Int)),.mem M]) (λvs _=>lens.length - n1 vs) ⟨0,rfl,om,c⟩ ?_;clear c F;rintro vs w2 ⟨i,rfl,hi,c⟩ _;simp only[nY,gd,nz];rw[aS avJ (y.now (c.hasM 1 rfl))]
 try simp only[rs]
 by_cases o:(i:Int) < (lens.length:Int)
 ·simp only[o,auS,i_t];have g:i < lens.length:=om
  have j:=k _ (avD g);obtain⟨b2,off,Q,S⟩:=eG (y.now (c.hasM 1 rfl)) g;refine aC (Q w2) |>.mpr (aC (aB aW S) |>.mpr ?_);have T:(lens.take i).count lens[i]<=1000:=by
   have:=ayX (a:=lens[i]) (l:=lens.take i);rw[avA] at this;omega
  refine aC (KD om) |>.mpr ?_;rw[aH aW (c.cell 0 rfl lens[i] (Ce _ om))]
  try simp only[rs]
  rw[aA om om];refine aC (KD om) |>.mpr ?_;refine aK 0 c rfl krx rfl (by show lens[i] < 16;omega) λw3 c=>?_;rw[X9 _ _ om] at c;have c:dQ M.A w w3 [n6E C (λm=>(((lens.take (i+1)).count m:Nat):Int)),.mem M]:=by
   have e:(λm=>if m=lens[i] then (((lens.take i).count lens[i]:Nat):Int)+1 else (((lens.take i).count m:Nat):Int))=λm=>(((lens.take (i+1)).count m:Nat):Int):=by
    funext m
    rw[Di g,aAa];by_cases h:m=lens[i]
    ·rw[auP h,h];simp
    ·rw[auO h];have:[lens[i]].count m=0:=by rw[List.count_eq_zero];simpa using h
     omega
   rw[<-e];exact c
  obtain⟨b3,G,U,V⟩:=eG (y.now (c.hasM 1 rfl)) g;refine aC (U w3) |>.mpr (aC (aB aW V) |>.mpr ?_);rw[sQ]
  try simp only[rs]
  rw[aA om om];refine aU ⟨i+1,?_,om,c⟩ (by simp[n1,RowKit.intOf];omega);rw[Di g,sn]
  congr 2
  omega
 simp only[o,auT,i_f];have:i=lens.length:=om
 subst this;rw[awI] at c ⊢;have t:∀m,lens.count m<=1000:=λm=>axN ayX P;have X:Fl.fL lens<=15:=sq.2 k;refine loop (λvs W=>∃(l q code:Nat),vs=[ad (q:Int),ad (code:Int),ad (fo lens l:Int),ad ((l+1:Nat):Int)]∧l<=15∧q<=8*s.length∧fo lens l<=code∧code < 2 ^ l∧gl lens s (16 - l) l q code=R∧dQ M.A w W [n6E C (λm=>((lens.count m:Nat):Int)),.mem M]) (λvs _=>16 - (RowKit.intOf (vs.getD 3 undef)).toNat) ⟨0,p,0,rfl,om,hp,by simp[fo],sm,d,c⟩ ?_;clear c d hi o;rintro vs w3 ⟨l,q,code,rfl,j,H,Y,Z,d,c⟩ _;simp only[oM,gd,rs,nz];obtain⟨f,hf⟩:∃f,16 - l=f+1:=⟨15 - l,om⟩;rw[hf] at d;unfold gl at d;have u:=pr (lens:=lens) (m:=l) j k;by_cases x:((l+1:Nat):Int)<=((Fl.fL lens:Nat):Int)
 case neg=>
  simp only[x,auT,i_f];rw[auP (u.2 om)] at d;subst d;exact z _ _ M _ 1 c rfl M.le_refl ⟨0,q,rfl,H,λh=>absurd h (by dsimp only;decide)⟩
 simp only[x,auS,i_t];rw[auO (by rw[u];omega)] at d;refine aI c (UW s q w3 om B) ?_;rintro _ w4 rfl c;by_cases I:q < 8*s.length
 case neg=>
  rw[auO I];rw[auP om] at d;subst d;simp only[rs,show ai ((-1:Int) < 0)=av from rfl];exact z _ _ M _ 1 c rfl M.le_refl ⟨0,q,rfl,H,λh=>absurd h (by dsimp only;decide)⟩
 rw[auP I];rw[auO om] at d;have a1:=Fl.Q4 s q;have J:2 ^ l<=2 ^ 15:=awC dc j;have L:(2:Nat) ^ 15=32768:=dc
 have D:=yf lens l;have a6:=t (l+1);simp only[rs,show ai (((Fl.bit s q:Nat):Int) < 0)=au from auQ om];have a7:code < 32768:=om
 rw[aA (n:=(q:Int)+1) om om,aA (n:=2*(code:Int)) om om,aA (n:=2*((fo lens l:Nat):Int)) om om,aA (n:=2*(code:Int)+((Fl.bit s q:Nat):Int)) om om,aA (n:=2*(code:Int)+((Fl.bit s q:Nat):Int) - 2*((fo lens l:Nat):Int)) om om];refine aC (KD om) |>.mpr ?_;rw[aH aW (c.cell 0 rfl (l+1) (Ce _ om))]
 try simp only[rs]
 by_cases O:2*code+Fl.bit s q < Fl.first lens (l+1)+lens.count (l+1)
 ·rw[auP O] at d;simp only[show ai ((2*(code:Int)+((Fl.bit s q:Nat):Int)) - 2*((fo lens l:Nat):Int) < ((lens.count (l+1):Nat):Int))=av from auR om,i_t];rw[show (2*(code:Int)+((Fl.bit s q:Nat):Int)) - 2*((fo lens l:Nat):Int)=((2*code+Fl.bit s q - Fl.first lens (l+1):Nat):Int) by omega];refine aY c 1 rfl (P4 lens (l+1) (2*code+Fl.bit s q - Fl.first lens (l+1)) v M w4 om om (c.hasM 1 rfl) y) ?_;rintro _ N w5 hle rfl c;subst d;refine z _ _ N _ 1 c rfl hle ⟨Fl.place lens (l+1) (2*code+Fl.bit s q - Fl.first lens (l+1)),q+1,rfl,om,λ_=>⟨?_,rfl⟩⟩;rw[vj,<-ya om om]
 ·rw[auO O] at d;simp only[show ai ((2*(code:Int)+((Fl.bit s q:Nat):Int)) - 2*((fo lens l:Nat):Int) < ((lens.count (l+1):Nat):Int))=au from auQ om,i_f];refine aC (KD om) |>.mpr ?_;rw[aH aW (c.cell 0 rfl (l+1) (Ce _ om))]
  try simp only[rs]
  rw[aA om om,aA om om];have e2:fo lens (l+1)=Fl.first lens (l+1)+lens.count (l+1):=by unfold fo;rw[auO om]
  refine aU ⟨l+1,q+1,2*code+Fl.bit s q,?_,om,om,om,by rw[ayN];omega,by rw[show 16 - (l+1)=f by omega];exact d,c⟩ (by simp[RowKit.intOf];omega);rw[e2,D]
  push_cast
  rfl
def bz (s:List UInt8)(most p:Nat)(out:List UInt8):List UInt8×Nat×Int:=
 let a:=(p+7) / 8*8
 if 8*s.length < a+16 then (out,p,4)
 else if 8*s.length < a+32 then (out,p,4)
 else if Fl.num s a 16+Fl.num s (a+16) 16≠65535 then (out,p,3)
 else if most < out.length+Fl.num s a 16 then (out,p,5)
 else if 8*s.length < a+32+8*Fl.num s a 16 then (out,p,4)
 else (out++(s.drop (a / 8+4)).take (Fl.num s a 16),a+32+8*Fl.num s a 16,0)
theorem eJ {a b:List UInt8}:iS v (a++b)=.urow 5 1 v (a.length+b.length) (aM a++aM b):=by
 unfold iS aM;rw[auU,avT]
theorem Uv {ov:aq}{most:Int}(h:(flE b rb ov most).is W):(aG 253 (af b 0)).run ah W=.ok (.value (af rb 0)) W:=aB aeW (aJ (T:=256) (cs:=flC rb ov most) h rfl)
theorem z8U:(Tryz.prog.info? 5).bind (·.zero)=ax (.int .u8 0):=krx
section
variable {w:ao}{PK:PKT}{K:VWP}{S:Nat->Prop}{w0:ao}
theorem adL {ov:aq}{s:List UInt8}{out:List UInt8}(b:dQ S w0 w (Fs fb rb s most ov way p out R))(hw:way=0∨way=1)(hp:p<=8*s.length)(l:s.length<=1000000000)(y:most<=1000000000)(z:out.length<=most)
  (t:(bz s most p out).2.2=0->(bz s most p out).2.1<=8*s.length->(bz s most p out).1.length<=most->∀way' d W,(way'=0∨way'=1)->dQ S w0 W (Fs fb rb s most d way' (bz s most p out).2.1 (bz s most p out).1 R)->K (.tuple #[]) W)
  (g:(bz s most p out).2.2≠0->∀d way' A i W,dQ S w0 W (Fs fb rb s most d way' A i R)->PK [upI (bz s most p out).2.2] W) :
  eN ah 260 #[af fb 0] w PK K:=by
 generalize c:bz s most p out=X at t g;refine⟨wC ?_⟩;unfold mM iN ldx bnx fax nlx eqx cx;unfold bz at c;dsimp only at c;rw[bD,Rv,Zs b 0 rfl];refine ajL 1 b rfl hp l λB b=>?_;have b:dQ S w0 B (Fs fb rb s most ov 0 ((p+7) / 8*8) out R):=b;have m:(p+7) / 8*8 % 8=0:=om
 have j:(p+7) / 8*8<=8*s.length:=om
 generalize (p+7) / 8*8=a at c b m j;refine sV (n:=16) 0 1 b rfl rfl (.inl rfl) j om l (λo u b=>?_) (λo u b=>?_)
 rotate_left
 ·rw[auP o] at c;subst c;exact g (by dsimp only;decide) _ _ _ _ _ b
 rw[auO om] at c;have b:dQ S w0 u (Fs fb rb s most ov 1 (a+16) out R):=b;refine sV (n:=16) 0 1 b rfl rfl (.inr rfl) o om l (λC v b=>?_) (λC v b=>?_)
 rotate_left
 ·rw[auP om] at c;subst c;exact g (by dsimp only;decide) _ _ _ _ _ b
 rw[auO om] at c;have b:dQ S w0 v (Fs fb rb s most ov 1 (a+16+16) out R):=b;have q:=Fl.iG s a 16;have D:=Fl.iG s (a+16) 16;have E:(2:Nat) ^ 16=65536:=dc
 simp only[rs];rw[aA om om];refine jB (λk=>?_) (λk=>?_)
 rotate_left
 ·have:=avU k;rw[auP om] at c;subst c;exact g (by dsimp only;decide) _ _ _ _ _ b
 have k:=avG k;rw[auO om] at c;generalize Fl.num s a 16=n at c q k;refine Yy (n:=n) 0 2 b rfl rfl om om om (λF G b=>?_) (λF G b=>?_)
 rotate_left
 ·rw[auP om] at c;subst c;exact g (by dsimp only;decide) _ _ _ _ _ b
 rw[auO om] at c;have b:=b.drew;refine⟨λW=>(flE fb rb ov most).is W,b.at_ 0 rfl,?_⟩;refine aX _ (λ_=>cS) (aX _ (λ_=>bE DH) (iJ _ (λW h=>KR h) ?_));refine aX _ (λ_=>cS) (aX _ (λ_=>bE Zz) (iJ _ (λW h=>Uv h) ?_));refine atS (n:=n) 1 b rfl om om om l (λH x b=>?_) (λH x b=>?_)
 rotate_left
 ·rw[auP om] at c;subst c;refine⟨b.at_ 0 rfl,?_⟩;refine NQ (Im ?_);refine TW (s:=[]) (λh=>absurd h dc) λ_=>?_
  repeat intro _
  exact g (by dsimp only;decide) _ _ _ _ _ b
 rw[auO om] at c;have b:dQ S w0 x (Fs fb rb s most ov 1 (a+16+16+8*n) out R):=b;refine⟨b.at_ 0 rfl,?_⟩;refine NQ (Im ?_);refine TW (λ_=>?_) λh=>absurd rfl h;refine⟨b.at_ 0 rfl,?_⟩;have e:((s.drop ((a+16+16) / 8)).take n).length=n:=by rw[avA,avF];omega
 refine IG 2 avE auV G8 avN z8U b rfl (by rw[e];omega) λv' I b=>?_;have r:v'.oneCell'=true:=cP (b.at_ 2 rfl);refine⟨b.at_ 0 rfl,?_⟩;refine aX _ (λ_=>cS) (aX _ (λ_=>bE DH) ?_);refine SA 0 r b rfl λf b=>?_;have b:dQ S w0 f (Fs fb rb s most v' 1 (a+16+16+8*n) (out++(s.drop ((a+16+16) / 8)).take n) R):=by
  show dQ S w0 f (flE fb rb v' (most:Int)::bqE rb s 1 (a+16+16+8*n)::iS v' (out++(s.drop ((a+16+16) / 8)).take n)::R);rw[eJ];exact b
 rw[show (a+16+16) / 8=a / 8+4 by omega] at b e;subst c;exact t rfl (by dsimp only;omega) (by dsimp only;rw[auU,e];omega) 1 v' f (.inr rfl) b
end
theorem szI1:(Tryz.prog.info? 3).map (·.size)=ax 1:=krx
theorem Ao {l:List α}{n:Nat}{v:α}(h:(l.take n)[j]?=ax v):l[j]?=ax v:=by
 obtain⟨a,b⟩:=avL.1 h;rw[avA] at a;rw[auX om,<-b,List.getElem_take]
section
variable {w:ao}{PK:PKT}{K:VWP}{S:Nat->Prop}{w0:ao}{L:List Ent}
theorem Zn {r k:Nat}{x:aq}(i:Nat)(c:dQ S w0 w L)(hi:L[i]?=ax (.cells r [x] 3))(G:x.oneCell'=av)(U:k<=1000)
  (H:∀b w',dQ S w0 w' (.cells b (List.replicate k x) 3::L)->K (cW b 0 k k) w') :
  eN ah 272 #[cW r 0 1 1,ad (k:Int)] w PK K:=by
 refine⟨tQ ?_⟩;unfold kQ nz;refine join λJ I=>?_;rw[amQ,auQ om,i_f];refine I _ _ λ_=>?_;unfold iT nz;rw[aS avJ (gX (sz:=1) (c.at_ i hi) dc rfl)];refine aC (aZ krx ayI) |>.mpr (aC (aZ krx ayI) |>.mpr ?_);rw[show IntKind.u64.wrap ((1:Nat):Int)=((1:Nat):Int) from rfl,show IntKind.u64.wrap (k:Int)=(k:Int) by unfold IntKind.wrap;simp[IntKind.bits,IntKind.signed];omega];refine eR (Tryz.bits_Mul 1 k dc om w) (λe W ⟨he,M⟩=>?_);subst he;subst M;have N:1*k / 18446744073709551616=0:=om
 have O:1*k % 18446744073709551616=k:=om
 rw[N,O];show wQ _ _ _ _;simp only[wQ,ex];refine join λV u=>?_;simp only[rs,show ai ((0:Int) < ((0:Nat):Int))=au from rfl,show ai ((9223372036854775807:Int) < (k:Int))=au from auQ om];refine u _ _ λ_=>?_;unfold iD nz;refine aC (aZ krx awM) |>.mpr ?_;rw[show IntKind.i64.wrap (k:Int)=(k:Int) from aA om om];refine zI om c λg Q c=>?_;have y:(.cells g (List.replicate k (ad 0)) 3::L)[i+1]?=ax (.cells r [x] 3):=hi;have z:(List.replicate k (Value.int .i64 0)).length=k:=awJ;have l:=LK (P:=ah) (dT:=59) (sT:=59) (ty:=3) (T:=3) (E:=3) (cb:=#[au,au]) (g:=g) (o:=0) (dLen:=k) (dCap:=k) (sz:=1) (a:=⟨r,0,aw⟩) (sLen:=1) (sCap:=1) (w:=Q) (cur:=List.replicate k (Value.int .i64 0)) (src:=[x].take (Nat.min 1 k)) avJ szI1 (c.at_ 0 rfl) (by rw[avA,awX];simp) (λj v A=>by
  have d:[x][j]?=ax v:=Ao A;rw[cM,avC];exact aJ (T:=3) (c.at_ (i+1) y) d) (by rw[avA,awX,z];have s:Nat.min 1 k=min 1 k:=rfl;omega) (by
  intro v t;have:=axF t;rw[avV] at this;rw[this];exact G)
 refine yO l ?_;have c:=gN c 0 rfl ((List.replicate k (Value.int .i64 0)).take 0++[x].take (Nat.min 1 k)++(List.replicate k (Value.int .i64 0)).drop (0+([x].take (Nat.min 1 k)).length));refine loop (λvs W=>∃(n:Nat) (cur:List aq),vs=[ad n]∧n<=k∧(n=0->k=0)∧cur.length=k∧cur.take n=List.replicate n x∧dQ S w0 W (.cells g cur 3::L)) (λvs _=>k - n0 vs) ⟨Nat.min 1 k,_,rfl,azQ _ _,?_,?_,?_,c⟩ ?_
 ·intro h;rcases axG k with d|d
  ·exact d
  ·have:Nat.min 1 k=1:=awB d;omega
 ·rcases axG k with d|d
  ·subst d;rfl
  ·rw[show Nat.min 1 k=1 from awB d];simp;omega
 ·rcases axG k with d|d
  ·subst d;rfl
  ·rw[show Nat.min 1 k=1 from awB d];rfl
 clear c l;rintro vs w2 ⟨n,cur,rfl,X,R,p,f,c⟩ _;simp only[iQ,gd,bnx,lnx];rw[aS avJ (Sl.cells (c.at_ 0 rfl) 1 k k (by rw[p,avQ]))];simp only[rs];by_cases q:(n:Int) < (k:Int)
 ·simp only[q,auS,i_t];refine dR (λW=>dQ S w0 W (.cells g cur 3::L)) c.drew ?_;refine eZ _ (λ_=>cZ avJ szI1 om om) (eZ _ (λ_=>iY avJ szI1 om om) ?_);intro w3 c;rw[auW,eT om,show zx (ax ⟨g,0,aw⟩) 0 k 1=ax ⟨g,0,aw⟩ from Jz (a:=⟨g,0,aw⟩),avC,avQ];have l:=LK (P:=ah) (dT:=59) (sT:=59) (ty:=3) (T:=3) (E:=3) (cb:=#[au,au]) (g:=g) (o:=n) (dLen:=k - n) (dCap:=k - n) (sz:=1) (a:=⟨g,0,aw⟩) (sLen:=n) (sCap:=k) (w:=w3) (cur:=cur) (src:=cur.take (Nat.min n (k - n))) avJ szI1 (c.at_ 0 rfl) (by
    rw[avA,p,avQ];have Y:=Nat.min_le_left n (k - n);have s:Nat.min n (k - n)=min n (k - n):=rfl;omega) (λj v A=>by
   have d:cur[j]?=ax v:=Ao A;rw[cM,avC];exact aJ (T:=3) (c.at_ 0 rfl) d) (by
    rw[avA,p];have s:Nat.min n (k - n)=min n (k - n):=rfl;omega) (by
   intro v t;have B:cur.take (Nat.min n (k - n))=(cur.take n).take (Nat.min n (k - n)):=by
    rw[ayK]
    congr 1
    have s:Nat.min n (k - n)=min n (k - n):=rfl;omega
   rw[B,f] at t;have:=ayA (axF t);rw[this];exact G)
  refine yO l ?_;have c:=gN c 0 rfl (cur.take n++cur.take (Nat.min n (k - n))++cur.drop (n+(cur.take (Nat.min n (k - n))).length));have s:Nat.min n (k - n)=min n (k - n):=rfl;have C:1<=Nat.min n (k - n):=om
  have D:Nat.min n (k - n)<=k - n:=om
  have F:Nat.min n (k - n)<=n:=om
  generalize Nat.min n (k - n)=m at c C D F;rw[show goInt m=ad (m:Int) from rfl];simp only[rs];rw[aA om om];refine aU ⟨n+m,_,rfl,om,om,?_,?_,c⟩ (by simp[n0,RowKit.intOf];omega)
  ·simp only[auU,avA,avF,p];omega
  ·have B:cur.take m=List.replicate m x:=by
    have:cur.take m=(cur.take n).take m:=by rw[ayK];congr 1;omega
    rw[this,f,List.take_replicate];congr 1;omega
   rw[f,B,aBd sm,avX sm,List.replicate_append_replicate]
 ·simp only[q,auT,i_f];have:n=k:=om
  subst this;rw[avX om] at f;subst f;exact H g w2 c
end
end
end Go.Proofs.YtkghomgfocpgeaaGreatDoor

namespace Go.Proofs.YtkghomgfocpgeaaGreatDoor
variable{A:Nat->Prop}{D E:TypeId}{M:Eng.Mem}{P:Program}{R:List Eng.Ent}{W w:ao}{a way:Int}{args:Array aq}{b cap f fb i j most p rb sz tb:Nat}{cs:List aq}{l near:List Nat}{t0 t1 v:aq}{u:FrameMode}{α:Type}{t0 t1 t2:aq}{k0:Eng.KT}
section
namespace Eng
open Go.RowKit
def NM (k:Int):Value:=ad k
def TM (w:ao)(b:Nat)(a:List (Int×aq)):Prop:=∃es clock,w.heap[b]?=ax (.map es clock)∧es.toList.map (λe=>(e.key,e.val))=a.map λp=>(NM p.1,p.2)
def zG (a:List (Int×aq))(k:Int):Option Value:=(a.find? λp=>ai (p.1=k)).map (·.2)
theorem MB (k:Int):∀(es:List MapEntry) (a:List (Int×aq)) (i:Nat),es.map (λe=>(e.key,e.val))=a.map (λp=>(NM p.1,p.2)) ->
  ∃r,Instr.findNow (.int .i64) (NM k) es i=ax r∧r.map (·.2)=zG a k
|[],[],i,_=>⟨aw,rfl,rfl⟩
|e::es,p::a,i,h=>by
  simp only[awY,azY,azA] at h;obtain⟨⟨j,l⟩,m⟩:=h;have g:Instr.sameNow (.int .i64) (NM k) e.key=ax (ai (k=p.1)):=by
   rw[j];show ax (k==p.1)=_
   congr 1
  by_cases b:k=p.1
  ·refine⟨ax (i,e.val),?_,?_⟩
   ·rw[Instr.findNow,g];simp[b]
   ·simp[zG,b,l]
  ·obtain⟨r,c,d⟩:=MB k es a (i+1) m;refine⟨r,?_,?_⟩
   ·rw[Instr.findNow,g];simp[b,c]
   ·have f:¬p.1=k:=λe=>b e.symm;rw[d];simp[zG,f]
|[],_::_,_,h=>by simp at h
|_::_,[],_,h=>by simp at h
section
variable {S:Nat->Prop}{P:Program}{w w0:ao}{L:List Ent}{PK:PKT}{K:VWP}
theorem Jw {k:TypeId}{e:Bool}(a:P.underlying k=ax (.int .i64))(x:Int):(Instr.checkKey e 10000 k (NM x)).run P w=.ok () w:=by
 show (Instr.checkKey e (9999+1) k (NM x)).run P w=_;rw[Instr.checkKey];simp[run_underlying a,NM]
theorem SV {k:TypeId}(b:P.underlying k=ax (.int .i64))(x:Int){es:List MapEntry}{a:List (Int×aq)}(h:es.map (λe=>(e.key,e.val))=a.map (λp=>(NM p.1,p.2))) :
  ∃r,(Instr.findKey k (NM x) es).run P w=.ok r w∧r.map (·.2)=zG a x:=by
 obtain⟨r,c,d⟩:=MB x es a 0 h;refine⟨r,?_,d⟩;simp[Instr.findKey,run_underlying b,c]
theorem Yu {T k e:TypeId}{ok:Bool}{a:List (Int×aq)}{z:aq}(g:P.underlying T=ax (.map k e))(c:P.underlying k=ax (.int .i64))(m:(P.info? e).bind (·.zero)=ax z)(h:TM w b a)(x:Int) :
  (Wd T (.map (ax b)) (NM x) ok).run P w=.ok (.value (if ok then .tuple #[(zG a x).getD z,.bool (zG a x).isSome] else (zG a x).getD z)) w:=by
 obtain⟨es,clock,j,n⟩:=h;obtain⟨r,l,o⟩:=SV (P:=P) (w:=w) c x n;have d:(zeroValue e).run P w=.ok z w:=by
  obtain⟨i,hi,f⟩:=azW.1 m;simp[zeroValue,typeInfo,hi,f]
 refine cE ?_;rw[<-o];cases r with
|none=>simp[Instr.lookup,run_underlying g,getObj,Sem.run,j,Jw c x,l,d]
|some p=>
  obtain⟨i,v⟩:=p;simp[Instr.lookup,run_underlying g,getObj,Sem.run,j,Jw c x,l]
end
section
variable {S:Nat->Prop}{P:Program}{w w0:ao}{L:List Ent}{PK:PKT}{K:VWP}
end
end Eng
end
section
open Eng Go.RowKit
abbrev frT:TypeId:=308
abbrev frA:TypeId:=309
def fxL:List (Nat×Nat):=[(144,8),(112,9),(24,7),(8,8)]
def fxC:List Value:=fxL.flatMap λp=>[ad (p.1:Int),ad (p.2:Int)]
def MZ (i:Nat):List Nat:=(fxL.take i).flatMap λp=>List.replicate p.1 p.2
def bj:List Nat:=MZ 4
def cj:List Nat:=List.replicate 32 5
theorem WC (hi:i<=4):(MZ i).length<=288:=by
 rcases (by omega:i=0∨i=1∨i=2∨i=3∨i=4) with rfl|rfl|rfl|rfl|rfl<;>decide +kernel
theorem Vu (hi:i < 4):MZ (i+1)=MZ i++List.replicate (fxL.getD i (0,0)).1 (fxL.getD i (0,0)).2:=by
 rcases (by omega:i=0∨i=1∨i=2∨i=3) with rfl|rfl|rfl|rfl<;>decide +kernel
theorem anV (hi:i < 4):(fxL.getD i (0,0)).1<=144∧1<=(fxL.getD i (0,0)).1:=by
 rcases (by omega:i=0∨i=1∨i=2∨i=3) with rfl|rfl|rfl|rfl<;>decide
theorem Gx (k n:Nat):aT (List.replicate k n)=List.replicate k (ad (n:Int)):=by simp[aT]
section
variable {w:ao}{PK:PKT}{K:VWP}{S:Nat->Prop}{w0:ao}{L:List Ent}
theorem m_fr {b:Int}:DoX ah (aN frT #[(0,ad a),(1,ad b)]) w PK K=K (.agg #[ad a,ad b]) w:=aC krx
theorem atT:DoX ah (aN frA #[(0,.agg #[ad 144,ad 8]),(1,.agg #[ad 112,ad 9]),(2,.agg #[ad 24,ad 7]),(3,.agg #[ad 8,ad 8])]) w PK K=K (.agg fxC.toArray) w:=aC krx
theorem amO (hi:i < 4):(mIx frA (.agg fxC.toArray) (ad (i:Int))).run ah w=.ok (.value (.agg #[ad ((fxL.getD i (0,0)).1:Int),ad ((fxL.getD i (0,0)).2:Int)])) w:=by
 rcases (by omega:i=0∨i=1∨i=2∨i=3) with rfl|rfl|rfl|rfl<;>kernel_rfl
def frC (a b:Int):List Value:=[ad a,ad b]
theorem RQ {b:Int}:∀u∈frC a b,u.oneCell'=true:=by
 intro u hu;simp only[frC,avB,awS,or_false] at hu;rcases hu with rfl|rfl<;>rfl
theorem aoY:uM ah frT 0=ax 0:=krx
theorem aoF:uM ah frT 1=ax 1:=krx
theorem szFr:(Tryz.prog.info? frT).map (·.size)=ax 2:=krx
theorem Oh (M:Mem)(w:ao)(j:M.has w):lA ah 248 #[] M w (λv N=>∃a b,v=.tuple #[a,b]∧SlA N.A N.w a 1 bj.length (aT bj)∧SlA N.A N.w b 1 cj.length (aT cj)):=by
 refine aO j λK l=>Gy ?_;unfold Cv nz;have c:dQ M.A w w [.mem M]:=dQ.memS j;rw[m_fr,m_fr,m_fr,m_fr,atT];have c:dQ M.A w w [.urow 3 1 dY 0 [],.mem M]:=dQ.nilU (L:=[.mem M]) c _ _;refine loop (λvs W=>∃(i:Nat) (ov:aq),vs=[ov,ad (i:Int)]∧i<=4∧dQ M.A w W [.urow 3 1 ov (MZ i).length (aT (MZ i)),.mem M]) (λvs _=>4 - n1 vs) ⟨0,dY,rfl,om,c⟩ ?_;clear c;rintro vs t ⟨i,ov,rfl,hi,c⟩ _;simp only[yE,gd,rs,nz];by_cases g:(i:Int) < 4
 ·simp only[g,auS,i_t];have d:i < 4:=om
  have m:=WC (Nat.le_of_lt d);have hle:=anV d;have f:=Vu d;refine aC (amO d) |>.mpr ?_;generalize fxL.getD i (0,0)=e at hle f;obtain⟨k,n⟩:=e;dsimp only at hle f ⊢;refine bB (λb=>af b 0) (frC 0 0) frT (λ_=>by kernel_rfl) c λb w2 c=>?_;refine gF 0 c rfl (new:=frC k n) szFr RQ rfl λw3 c=>?_;rw[aQ aoF,aH aW (c.cell 0 rfl 1 rfl)];refine kK (n:Int) c λb2 o c=>?_;rw[aQ aoY,aH aW (c.cell 1 rfl 0 rfl)];refine Zn 0 c rfl rfl om λb3 p c=>?_;refine gY 3 c rfl (Sl.cells (c.at_ 0 rfl) 1 k k (by rw[awJ,avQ])) (λu hu=>by rw[ayA hu];rfl) om λv' x c=>?_
  try simp only[rs]
  rw[aA om om];refine aU ⟨i+1,v',rfl,om,?_⟩ (by simp[n1,RowKit.intOf];omega);rw[f,iV,Gx,auU,awJ];exact c.tail.tail.tail
 ·simp only[g,auT,i_f];have:i=4:=om
  subst this;refine kK 5 c λb2 o c=>?_;refine Zn (k:=32) 0 c rfl rfl om λb3 p c=>?_;have c:=c.sub (L':=[.cells b3 (List.replicate 32 (ad 5)) 3,.urow 3 1 ov (MZ 4).length (aT (MZ 4)),.mem M]) (.cons_cons _ (.cons _ (axX _)));have c:=dQ.toU (b:=b3) c 1 32 32 (by rw[awJ]) om om;obtain⟨q,g1,h,c⟩:=dQ.bH (L:=[.urow 3 1 ov (MZ 4).length (aT (MZ 4)),.mem M]) c 1 rfl;obtain⟨r,g2,s,c⟩:=dQ.bH (L:=[.mem q]) c 0 rfl;refine l _ _ r _ 0 c rfl (g1.trans g2) ⟨_,_,rfl,s,?_⟩;have h:=h.le g2;rw[show cj.length=32 from rfl,show aT cj=List.replicate 32 (ad 5) from Gx 32 5];exact h
end
def dj (g:Nat):Nat:=if g=18 then 11 else 3
def br (g:Nat):Nat:=if g=16 then 2 else if g=17 then 3 else 7
def gu (cl:List Nat)(s:List UInt8)(n:Nat):Nat->Nat->List Nat->List Nat×Nat×Int
|0,p,l=>(l,p,13)
|f+1,p,l=>
  if n<=l.length then (l,p,0)
  else
   let r:=bw cl s p
   if r.2.2≠0 then (l,p,r.2.2)
   else if r.1 < 16 then gu cl s n f r.2.1 (l++[r.1])
   else if r.1=16∧l.length=0 then (l,p,3)
   else if 8*s.length < r.2.1+br r.1 then (l,p,4)
   else if n < l.length+(dj r.1+Fl.num s r.2.1 (br r.1)) then (l,p,3)
   else gu cl s n f (r.2.1+br r.1) (l++List.replicate (dj r.1+Fl.num s r.2.1 (br r.1)) (if r.1=16 then l.getD (l.length - 1) 0 else 0))
def Fl.lens (cl:List Nat)(s:List UInt8)(n p:Nat):List Nat×Nat×Int:=gu cl s n (n+1) p []
def rpM:List (Int×aq):=[(16,.agg #[ad 3,ad 2]),(17,.agg #[ad 3,ad 3]),(18,.agg #[ad 11,ad 7])]
def Rp (M:Mem):Prop:=∃a,M.A 3∧M.w.cell? ⟨3,0,aw⟩=ax (.map (ax a))∧M.A a∧∃b,(∀k:Int,zG b k=zG rpM k)∧TM M.w a b
theorem Mem.cell {M:Mem}{w:ao}(h:M.has w){b j:Nat}{v:aq}(a:M.A b)(c:M.w.cell? ⟨b,j,aw⟩=ax v):w.cell? ⟨b,j,aw⟩=ax v:=(QK (h b a)).trans c
theorem Rp.le {M N:Mem}(h:M.le N)(k:Rp M):Rp N:=by
 obtain⟨b,c,e,d,f,a,es,cl,g,i⟩:=k;exact⟨b,h.A _ c,Mem.cell h.has c e,h.A _ d,f,a,es,cl,(h.has b d).trans g,i⟩
theorem asX {g:Nat}(h:g < 16):zG rpM (g:Int)=none:=by
 simp[zG,rpM];omega
theorem arP {g:Nat}(h:16<=g)(a:g < 19):zG rpM (g:Int)=ax (.agg #[ad (dj g:Int),ad (br g:Int)]):=by
 rcases (by omega:g=16∨g=17∨g=18) with rfl|rfl|rfl<;>rfl
theorem mpRp:Tryz.prog.underlying 343=ax (.map 3 341):=underlying343
theorem zRp:(Tryz.prog.info? 341).bind (·.zero)=ax (.agg #[ad 0,ad 0]):=krx
theorem anT:dP ah 343=true:=krx
theorem amL:uM ah 341 0=ax 0:=krx
theorem anF:uM ah 341 1=ax 1:=krx
theorem szRp:(Tryz.prog.info? 341).map (·.size)=ax 2:=krx
theorem sx (g:Nat):br g<=7:=by
 unfold br;split
 ·omega
 ·split<;>omega
theorem sy (g:Nat):3<=dj g∧dj g<=11:=by unfold dj;split<;>omega
def HS:aq->Nat|.slice _ n _=>n|_=>0
def asR (vs:List aq):Nat:=HS (vs.getD 0 undef)
theorem IA {n:Nat}(h:Sl w v sz n cs):HS v=n:=by
 obtain⟨_,a,cap,rfl,_⟩:=h;rfl
section
variable {w:ao}{PK:PKT}{K:VWP}{S:Nat->Prop}{w0:ao}{L:List Ent}
theorem acY {n:Nat}(f:n<=1000000)(a:dQ S w0 w L)(k:∀v w',dQ S w0 w' (.urow 3 1 v 0 []::L)->K v w') :
  DoX ah (IH 59 (ad 0) (ad (n:Int))) w PK K:=by
 obtain⟨i,hi,c,d,e⟩:=TN;refine bB (λb=>cW b 0 0 n) (List.replicate n (ad 0)) 3 (λW=>?_) a λb w' a=>k _ _ ?_
 ·have:=Go.run_make (P:=ah) W 59 3 i (Value.int .i64 0) avJ hi c .i64 .i64 (0:Int) (n:Int) om om (by rw[e];omega) om;rw[d,auW,T6] at this;exact cE this
 ·have:=dQ.toU (b:=b) a 1 0 n (by rw[awJ,avQ]) om om;exact this
theorem ajR {a:Nat}{b:List (Int×aq)}(c:∀k:Int,zG b k=zG rpM k)(d:M.has w)(e:M.A a)(h:TM M.w a b)(g:Nat):(Wd 343 (.map (ax a)) (ad (g:Int)) av).run ah w=.ok (.value (.tuple #[(zG rpM (g:Int)).getD (.agg #[ad 0,ad 0]),.bool (zG rpM (g:Int)).isSome])) w:=by
 have hw:TM w a b:=by
  obtain⟨es,cl,f,i⟩:=h;exact⟨es,cl,(d a e).trans f,i⟩
 rw[<-c];exact Yu (ok:=av) mpRp awM zRp hw (g:Int)
theorem ZV {n:Nat}{ov:aq}{s:List UInt8}{out:List UInt8}{cl:List Nat}(jm:Nat)(a:dQ S w0 w (Fs fb rb s most ov way p out R))(hm:R[jm]?=ax (.mem M))(ht:TbAt M.A M.w tb cl)(hl:cl.length=19)(N:Rp M)(hw:way=0∨way=1)(hp:p<=8*s.length)(hs:s.length<=1000000000)(hn:n<=1000)
  (k1:(Fl.lens cl s n p).2.2=0->(Fl.lens cl s n p).2.1<=8*s.length->(Fl.lens cl s n p).1.length=n->(∀x∈(Fl.lens cl s n p).1,x<=15)->∀way' i W,(way'=0∨way'=1)->dQ S w0 W (.urow 3 1 i (Fl.lens cl s n p).1.length (aT (Fl.lens cl s n p).1)::Fs fb rb s most ov way' (Fl.lens cl s n p).2.1 out R)->K i W)
  (E:(Fl.lens cl s n p).2.2≠0->∀way' p' W,dQ S w0 W (Fs fb rb s most ov way' p' out R)->PK [upI (Fl.lens cl s n p).2.2] W) :
  eN ah 291 #[af fb 0,af tb 0,ad (n:Int)] w PK K:=by
 generalize c:Fl.lens cl s n p=X at k1 E;unfold Fl.lens at c;refine⟨tR ?_⟩;unfold jY iN dx;refine acY om a λi w1 a=>?_;refine loop (λvs W=>∃(p:Nat) (way:Int) (l:List Nat) (i:aq),vs=[i]∧(way=0∨way=1)∧p<=8*s.length∧l.length<=n∧(∀x∈l,x<=15)∧(∃f,n+1 - l.length<=f∧gu cl s n f p l=X)∧dQ S w0 W (.urow 3 1 i l.length (aT l)::Fs fb rb s most ov way p out R)) (λvs _=>n - asR vs) ⟨p,way,[],i,rfl,hw,hp,avK _,(λx o=>by cases o),⟨_,auY _,c⟩,a⟩ ?_;clear a c hp hw;rintro vs w1 ⟨p,way,l,i,rfl,hw,hp,a8,j,⟨f,hf,c⟩,a⟩ _;have b0:HS i=l.length:=IA (a.slU 0 rfl);simp only[iK,gd,iN,dx,ldx,bnx,iax,fax,nlx,exx,stx,alx,lnx,ecx,apx,cx];obtain⟨f,rfl⟩:∃f',f=f'+1:=⟨f - 1,om⟩;rw[gu] at c;dsimp only at c;rw[aS avJ (a.slU 0 rfl)]
 try simp only[rs]
 by_cases F:(l.length:Int) < (n:Int)
 case neg=>
  simp only[F,auT,i_f];rw[auP om] at c;subst c;exact k1 rfl hp (by dsimp only;omega) j _ _ _ hw a
 simp only[F,auS,i_t];rw[auO om] at c
 try rw[bD]
 rw[Rv,Zs a 1 rfl];refine Tc 2 (jm+4) om a rfl hm ht om hw hp hs λd W3 v r a=>?_;have a:dQ S w0 W3 (.urow 3 1 i l.length (aT l)::Fs fb rb s most ov d (bw cl s p).2.1 out R):=a;have m:(bw cl s p).1 < cl.length:=nm s om 16 0 p 0;rw[hl] at m;generalize bw cl s p=T at c a r m;obtain⟨g,q,e⟩:=T;dsimp only at c a r m;simp only[ex];refine zQ (λJ=>?_) (λJ=>?_)
 rotate_left
 ·rw[auP J] at c;subst c;exact E J _ _ _ a.tail
 rw[auO (by rw[J];decide)] at c;obtain⟨mb,O,P,Q,al,U,V⟩:=N;have hM:=a.hasM (jm+4) hm;rw[aH anT (Mem.cell hM O P)];refine aC (ajR U hM Q V g) |>.mpr ?_;simp only[ex];refine bB (λb=>af b 0) (frC 0 0) 341 (λ_=>by kernel_rfl) a λy w4 a=>?_;by_cases z:g < 16
 ·rw[auP z] at c;rw[asX z];simp only[Option.getD_none,awT];refine gF 0 a rfl (new:=frC 0 0) szRp RQ rfl λw5 a=>?_;simp only[rs,nn_f];refine kK (g:Int) a λb2 w6 a=>?_;refine gY 2 a rfl (a.sl 0 rfl 1 1 1 rfl) gI om λv' w7 a=>?_;have G:HS v'=l.length+1:=IA (a.slU 2 rfl);refine aU ⟨q,d,l++[g],v',rfl,v,r,by rw[auU,awX];omega,?_,⟨f,by rw[auU,awX];omega,c⟩,?_⟩ (by show n - HS v' < n - HS i;omega)
  ·intro x o;rcases avZ.1 o with o|o
   ·exact j x o
   ·rw[avV.1 o];omega
  ·rw[iV,auU];exact a.tail.tail
 rw[auO z] at c;rw[arP om m];simp only[awN,awU];refine gF 0 a rfl (new:=frC (dj g) (br g)) szRp RQ rfl λw5 a=>?_;simp only[rs,nn_t];have hB:=sx g;have hL:=sy g;refine join λJ2 Y=>?_;have rest:∀(W:ao) (D:Nat),(D=if g=16 then l.getD (l.length - 1) 0 else 0)->D<=15->¬(g=16∧l.length=0)->dQ S w0 W (.cells y (frC (dj g) (br g)) 341::.urow 3 1 i l.length (aT l)::Fs fb rb s most ov d q out R)->J2 [ad (D:Int)] W:=by
  intro W D Z B a1 a;rw[auO a1,<-Z] at c;refine Y _ _ λ_=>?_;simp only[iU,gd,iN,dx,bnx,lnx,apx,cx];have a:=a.drew;refine⟨λW=>(Ent.cells y (frC (dj g) (br g)) 341).is W,a.at_ 0 rfl,?_⟩;refine aX _ (λ_=>bE amL) (iJ _ (λW h=>aB aW (aJ (T:=341) h rfl)) ?_);refine aX _ (λ_=>bE anF) (iJ _ (λW h=>aB aW (aJ (T:=341) h rfl)) ?_);refine sV (n:=br g) 2 3 a rfl rfl v r om hs (λh5 W5 a=>?_) (λh5 W5 a=>?_)
  rotate_left
  ·rw[auP h5] at c;subst c
   repeat intro _
   exact E (by dsimp only;decide) _ _ _ a.tail.tail
  rw[auO om] at c;have H:(if 0 < br g then (1:Int) else d)=0∨(if 0 < br g then (1:Int) else d)=1:=by split;exact .inr rfl;exact v
  have a:dQ S w0 W5 (.cells y (frC (dj g) (br g)) 341::.urow 3 1 i l.length (aT l)::Fs fb rb s most ov (if 0 < br g then 1 else d) (q+br g) out R):=a;generalize (if 0 < br g then (1:Int) else d)=I at a H;have b1:=Fl.iG s q (br g);have b4:2 ^ br g<=2 ^ 7:=awC dc hB;have a7:(2:Nat) ^ 7=128:=dc
  refine⟨a.at_ 0 rfl,?_⟩;refine aX _ (λ_=>Qz) ?_;rw[aA om om,show (dj g:Int)+(Fl.num s q (br g):Int)=((dj g+Fl.num s q (br g):Nat):Int) by omega];generalize hk:dj g+Fl.num s q (br g)=k at c;rw[aS avJ (a.slU 1 rfl)]
  try simp only[rs]
  rw[aA om om];refine jB (λt=>?_) (λt=>?_)
  rotate_left
  ·have:=avU t;rw[auP om] at c;subst c;exact E (by dsimp only;decide) _ _ _ a.tail.tail
  have t:=avG t;rw[auO om] at c;refine kK (D:Int) a λb2 w6 a=>?_;refine Zn 0 a rfl rfl om λb3 w7 a=>?_;refine gY 3 a rfl (Sl.cells (a.at_ 0 rfl) 1 k k (by rw[awJ,avQ])) (λu hu=>by rw[ayA hu];rfl) om λv' w8 a=>?_;have G:HS v'=l.length+k:=IA (a.slU 3 rfl);refine aU ⟨q+br g,I,l++List.replicate k D,v',rfl,H,h5,by rw[auU,awJ];omega,?_,⟨f,by rw[auU,awJ];omega,c⟩,?_⟩ (by show n - HS v' < n - HS i;omega)
  ·intro x o;rcases avZ.1 o with o|o
   ·exact j x o
   ·rw[ayA o];exact B
  ·rw[iV,Gx,auU,awJ];exact a.tail.tail.tail
 by_cases L:g=16
 case neg=>
  simp only[show ai ((g:Int)=16)=au from auQ om,i_f];exact rest _ 0 (by rw[auO L]) om (λh=>L h.1) a
 simp only[show ai ((g:Int)=16)=av from auR om,i_t];rw[aS avJ (a.slU 1 rfl)]
 try simp only[rs]
 refine jB (λt=>?_) (λt=>?_)
 rotate_left
 ·have:=avU t;rw[auP ⟨L,om⟩] at c;subst c;exact E (by dsimp only;decide) _ _ _ a.tail.tail
 have t:=avG t;rw[aS avJ (a.slU 1 rfl)]
 try simp only[rs]
 rw[aA om om,show (l.length:Int) - 1=((l.length - 1:Nat):Int) by omega];have C:l.length - 1 < l.length:=om
 obtain⟨b2,off,r1,r2⟩:=eG (a.slU 1 rfl) C;refine aC (r1 w5) |>.mpr (aC (aB aW r2) |>.mpr ?_);have a6:l.getD (l.length - 1) 0=l[l.length - 1]:=by rw[auZ,auX C];rfl
 exact rest _ _ (by rw[auP L,a6]) (j _ (avD C)) (λh=>by omega) a
end
theorem TbAt.le {M N:Mem}(h:M.le N){b:Nat}{lens:List Nat}(k:TbAt M.A M.w b lens):TbAt N.A N.w b lens:=by
 obtain⟨a,c,o,d,e,f⟩:=k;exact⟨a,c,o,h.A b d,(tbE b a c (cnt lens) (D1 lens) o).keep e (λk g=>by cases g;exact h.has b d),f.le h⟩
theorem tg:∀l∈bj,l<=15:=by
 intro l a;have h:bj.all (λl=>ai (l<=15))=true:=by decide +kernel
 exact avG (axI.1 h l a)
theorem th:∀l∈cj,l<=15:=by
 intro l a;rw[ayA a];decide
theorem lr:bj.length=288:=by decide +kernel
theorem lu:cj.length=32:=by decide +kernel
theorem qa:bh bj=0:=by decide +kernel
theorem qb:bh cj=0:=by decide +kernel
def db:List Nat:=[16,17,18,0,8,7,9,6,10,5,11,4,12,3,13,2,14,1,15]
theorem ti (h:i < 19):db.getD i 0 < 19:=by
 have a:(List.range 19).all (λi=>ai (db.getD i 0 < 19))=true:=by decide +kernel
 exact avG (axI.1 a i (axE.2 h))
def Od (M:Mem):Prop:=M.A 2∧∀i,i < 19->M.w.cell? ⟨2,i,aw⟩=ax (ad ((db.getD i 0:Nat):Int))
theorem Od.le {M N:Mem}(h:M.le N)(k:Od M):Od N:=⟨h.A _ k.1,λi hi=>Mem.cell h.has k.1 (k.2 i hi)⟩
theorem lt19 (h:i < 19):i=0∨i=1∨i=2∨i=3∨i=4∨i=5∨i=6∨i=7∨i=8∨i=9∨i=10∨i=11∨i=12∨i=13∨i=14∨i=15∨i=16∨i=17∨i=18:=om
def et (s:List UInt8)(p:Nat):Nat->List Nat
|0=>List.replicate 19 0
|i+1=>(et s p i).set (db.getD i 0) (Fl.num s (p+3*i) 3)
theorem ml (s:List UInt8)(p:Nat):∀i,(et s p i).length=19
|0=>rfl
|i+1=>by rw[et,axM,ml s p i]
theorem qc (s:List UInt8)(p:Nat):∀i,∀x∈et s p i,x<=7
|0,x,h=>by rw[ayA h];decide
|i+1,x,h=>by
  rcases aAY h with h|h
  ·exact qc s p i x h
  ·have:=Fl.iG s (p+3*i) 3;rw[h];omega
def fj (s:List UInt8)(most p:Nat)(out:List UInt8):List UInt8×Nat×Int:=
 if 8*s.length < p+5 then (out,p,4)
 else if 29 < Fl.num s p 5 then (out,p,3)
 else if 8*s.length < p+10 then (out,p,4)
 else if 29 < Fl.num s (p+5) 5 then (out,p,3)
 else if 8*s.length < p+14 then (out,p,4)
 else if 8*s.length < p+14+3*(Fl.num s (p+10) 4+4) then (out,p,4)
 else
  let cl:=et s (p+14) (Fl.num s (p+10) 4+4)
  if bh cl≠0 then (out,p,bh cl)
  else
   let r:=Fl.lens cl s (Fl.num s p 5+257+(Fl.num s (p+5) 5+1)) (p+14+3*(Fl.num s (p+10) 4+4))
   if r.2.2≠0 then (out,p,r.2.2)
   else if r.1.getD 256 0=0 then (out,p,13)
   else if bh (r.1.take (Fl.num s p 5+257))≠0 then (out,p,bh (r.1.take (Fl.num s p 5+257)))
   else if bh (r.1.drop (Fl.num s p 5+257))≠0 then (out,p,bh (r.1.drop (Fl.num s p 5+257)))
   else dt (r.1.take (Fl.num s p 5+257)) (r.1.drop (Fl.num s p 5+257)) s most r.2.1 out
def bu (s:List UInt8)(most p:Nat)(out:List UInt8):List UInt8×Nat×Int:=
 if 8*s.length < p+2 then (out,p,4)
 else if Fl.num s p 2=0 then bz s most (p+2) out
 else if Fl.num s p 2=1 then dt bj cj s most (p+2) out
 else if Fl.num s p 2=2 then fj s most (p+2) out
 else (out,p,3)
theorem SlA.UD {a:Option Addr}{n:Nat}(h:SlA A w (.slice a n cap) sz n cs)(hi:i<=n)(d:0 < i->0 < n):SlA A w (.slice (zx a 0 cap sz) i cap) sz i (cs.take (i*sz)):=by
 obtain⟨f,g,j⟩:=h;have r:=j _ _ _ rfl;refine⟨Sl.upto f hi,λp l c e k=>?_,λa l c e=>?_⟩
 ·injection e with b _ _
  obtain⟨q,m,o⟩:=L6 b;have:=g q n cap (by rw[m]) (d k)
  rwa [<-o]
 ·injection e with b s t
  omega
section
variable {w:ao}{PK:PKT}{K:VWP}{S:Nat->Prop}{w0:ao}{L:List Ent}
abbrev arT:TypeId:=288
theorem aaU :(cY arT (af b 0) aw aw aw).run ah W=.ok (.value (cW b 0 19 19)) W:=krx
theorem akN {h:Nat}(c:h<=19):(cY arT (af b 0) aw (ax (ad (h:Int))) aw).run ah W=.ok (.value (cW b 0 h 19)) W:=by
 rcases (by omega:h=19∨h < 19) with rfl|a
 ·kernel_rfl
 ·rcases lt19 a with rfl|rfl|rfl|rfl|rfl|rfl|rfl|rfl|rfl|rfl|rfl|rfl|rfl|rfl|rfl|rfl|rfl|rfl|rfl<;>kernel_rfl
theorem adU (hi:i < 19):(mIA arT (af b 0) (ad (i:Int))).run ah W=.ok (.value (af b i)) W:=by
 rcases lt19 hi with rfl|rfl|rfl|rfl|rfl|rfl|rfl|rfl|rfl|rfl|rfl|rfl|rfl|rfl|rfl|rfl|rfl|rfl|rfl<;>kernel_rfl
theorem akC {ov:aq}{s:List UInt8}{out:List UInt8}{T:List Ent}(c:dQ S w0 w (Fs fb rb s most ov way p out (.mem M::T)))(hw:way=0∨way=1)(hp:p<=8*s.length)(u:s.length<=1000000000)(g:most<=1000000000)(i:out.length<=most)
  (x:(dt bj cj s most p out).2.2=0->(dt bj cj s most p out).2.1<=8*s.length->(dt bj cj s most p out).1.length<=most->∀N way' d W,M.le N->(way'=0∨way'=1)->dQ S w0 W (Fs fb rb s most d way' (dt bj cj s most p out).2.1 (dt bj cj s most p out).1 (.mem N::T))->K (.tuple #[]) W)
  (y:(dt bj cj s most p out).2.2≠0->∀N d way' j e W,M.le N->dQ S w0 W (Fs fb rb s most d way' j e (.mem N::T))->PK [upI (dt bj cj s most p out).2.2] W) :
  eN ah 261 #[af fb 0] w PK K:=by
 refine⟨wS ?_⟩;unfold oN nz;refine aY c 3 rfl (Oh M w (c.hasM 3 rfl)) ?_;rintro _ q r g1 ⟨a,b,rfl,z,A⟩ c;have c:dQ S w0 r (Fs fb rb s most ov way p out (.mem q::T)):=c;simp only[ex];refine aY c 3 rfl (HJ bj a q r tg (by rw[lr];omega) (by rw[lr];omega) (c.hasM 3 rfl) z) ?_;intro v t w2 g2 f c;rw[auO (by rw[qa];decide)] at f;obtain⟨tb,rfl,k⟩:=f;have c:dQ S w0 w2 (Fs fb rb s most ov way p out (.mem t::T)):=c;simp only[ex];refine uX (λ_=>?_) (λh=>absurd rfl h);refine aY c 3 rfl (HJ cj b t w2 th (by rw[lu];omega) (by rw[lu];omega) (c.hasM 3 rfl) (A.le g2)) ?_;intro v l w3 g3 f c;rw[auO (by rw[qb];decide)] at f;obtain⟨D,rfl,m⟩:=f;have c:dQ S w0 w3 (Fs fb rb s most ov way p out (.mem l::T)):=c;simp only[ex];refine uX (λ_=>?_) (λh=>absurd rfl h);have hle:=g1.trans (g2.trans g3);exact WV 0 c rfl (k.le g3) m (by rw[lr];omega) (by rw[lu];omega) hw hp u g i (λn B C way' d W o c=>x n B C l way' d W hle o c) (λn d way' j e W c=>y n l d way' j e W hle c)
theorem QU (l:List Nat)(i n:Nat):aT (l.set i n)=(aT l).set i (ad (n:Int)):=by simp[aT,aAb]
theorem XV {ov:aq}{s:List UInt8}{out:List UInt8}{T:List Ent}(d:dQ S w0 w (Fs fb rb s most ov way p out (.mem M::T)))(b2:Rp M)(Y:Od M)(hw:way=0∨way=1)(hp:p<=8*s.length)(U:s.length<=1000000000)(b3:most<=1000000000)(b4:out.length<=most)
  (k1:(fj s most p out).2.2=0->(fj s most p out).2.1<=8*s.length->(fj s most p out).1.length<=most->∀N way' u W,M.le N->(way'=0∨way'=1)->dQ S w0 W (Fs fb rb s most u way' (fj s most p out).2.1 (fj s most p out).1 (.mem N::T))->K (.tuple #[]) W)
  (z:(fj s most p out).2.2≠0->∀N u way' p' C W,M.le N->dQ S w0 W (Fs fb rb s most u way' p' C (.mem N::T))->PK [upI (fj s most p out).2.2] W) :
  eN ah 262 #[af fb 0] w PK K:=by
 generalize f:fj s most p out=X at k1 z;unfold fj at f;dsimp only at f;refine⟨tU ?_⟩;unfold kI iN bnx slx alx lnx cx;have h5:(2:Nat) ^ 5=32:=dc
 have h4:(2:Nat) ^ 4=16:=dc
 refine sV (n:=5) 0 1 d rfl rfl hw hp om U (λD W1 d=>?_) (λD W1 d=>?_)
 rotate_left
 ·rw[auP D] at f;subst f;exact z (by dsimp only;decide) M _ _ _ _ _ M.le_refl d
 rw[auO om] at f;have d:dQ S w0 W1 (Fs fb rb s most ov 1 (p+5) out (.mem M::T)):=d;have n1:=Fl.iG s p 5;generalize Fl.num s p 5=g at f n1
 try simp only[rs]
 rw[aA om om];refine jB (λE=>?_) (λE=>?_)
 rotate_left
 ·have:=avU E;rw[auP om] at f;subst f;exact z (by dsimp only;decide) M _ _ _ _ _ M.le_refl d
 have E:=avG E;rw[auO om] at f;refine sV (n:=5) 0 1 d rfl rfl (.inr rfl) D om U (λO W2 d=>?_) (λO W2 d=>?_)
 rotate_left
 ·rw[auP om] at f;subst f;exact z (by dsimp only;decide) M _ _ _ _ _ M.le_refl d
 rw[auO om] at f;have d:dQ S w0 W2 (Fs fb rb s most ov 1 (p+5+5) out (.mem M::T)):=d;have n2:=Fl.iG s (p+5) 5;generalize Fl.num s (p+5) 5=hd at f n2
 try simp only[rs]
 rw[aA om om];refine jB (λF=>?_) (λF=>?_)
 rotate_left
 ·have:=avU F;rw[auP om] at f;subst f;exact z (by dsimp only;decide) M _ _ _ _ _ M.le_refl d
 have F:=avG F;rw[auO om] at f;refine bB (λb=>af b 0) (aT (List.replicate 19 0)) arT (λ_=>by kernel_rfl) d λZ W3 d=>?_;refine sV (n:=4) 1 2 d rfl rfl (.inr rfl) O om U (λV W4 d=>?_) (λV W4 d=>?_)
 rotate_left
 ·rw[auP om] at f;subst f;exact z (by dsimp only;decide) M _ _ _ _ _ M.le_refl d.tail
 rw[auO om] at f;have d:dQ S w0 W4 (.cells Z (aT (List.replicate 19 0)) arT::Fs fb rb s most ov 1 (p+14) out (.mem M::T)):=d;have n3:=Fl.iG s (p+10) 4;rw[show Fl.num s (p+5+5) 4=Fl.num s (p+10) 4 from rfl];generalize Fl.num s (p+10) 4=o at f n3
 try simp only[rs]
 rw[aA om om,show (o:Int)+4=((o+4:Nat):Int) by omega];refine aC (akN om) |>.mpr ?_;have hlen:∀W:ao,DoX ah (mB .len #[59] 3 #[au] #[cW 2 0 (o+4) 19]) W (Eng.pk λ_ _=>True) (λv _=>v=ad ((o+4:Nat):Int)):=λW=>by
  refine yO (v:=ad ((o+4:Nat):Int)) (w':=W) ?_ rfl;simp[mB,builtin,Builtin.len_,run_underlying avJ,goInt]
 clear hlen;refine yO (v:=ad ((o+4:Nat):Int)) (w':=W4) (by simp[mB,builtin,Builtin.len_,run_underlying avJ,goInt]) ?_;have b5:aT (List.replicate 19 0)=aT (et s (p+14) 0):=rfl;rw[b5] at d;refine loop (λvs W=>∃i:Nat,vs=[ad (i:Int)]∧i<=o+4∧p+14+3*i<=8*s.length∧dQ S w0 W (.cells Z (aT (et s (p+14) i)) arT::Fs fb rb s most ov 1 (p+14+3*i) out (.mem M::T))) (λvs _=>o+4 - n0 vs) ⟨0,rfl,om,om,d⟩ ?_;clear d;rintro vs w5 ⟨i,rfl,hi,a1,d⟩ _;simp only[iE,gd,rs,iN,ldx,bnx,iax,exx,stx,slx,cx];by_cases a6:(i:Int) < ((o+4:Nat):Int)
 ·simp only[a6,auS,i_t];have H:i < 19:=om
  have a7:=cR (P:=ah) (T:=59) (b:=2) (off:=0) (cap:=19) (n:=o+4) (k:=.i64) (i:=(i:Int)) (w:=w5) avJ szI1 om om;rw[auW,avQ,avC] at a7;refine aC a7 |>.mpr ?_;rw[aH aW (Mem.cell (d.hasM 4 rfl) Y.1 (Y.2 i H))];refine sV (n:=3) 1 2 d rfl rfl (.inr rfl) a1 om U (λe6 W6 d=>?_) (λe6 W6 d=>?_)
  rotate_left
  ·rw[auP om] at f;subst f;exact z (by dsimp only;decide) M _ _ _ _ _ M.le_refl d.tail
  have d:dQ S w0 W6 (.cells Z (aT (et s (p+14) i)) arT::Fs fb rb s most ov 1 (p+14+3*i+3) out (.mem M::T)):=d;have I:=ti H;refine aC (adU I) |>.mpr ?_;refine aK 0 d rfl krx rfl (by rw[dZ,ml];exact I) λw7 d=>?_
  try simp only[rs]
  rw[aA om om];refine aU ⟨i+1,rfl,om,om,?_⟩ (by simp[n0,RowKit.intOf];omega);rw[et,QU];exact d
 simp only[a6,auT,i_f];have b7:i=o+4:=om
 subst b7;rw[auO om] at f;have G:=ml s (p+14) (o+4);have a8:=qc s (p+14) (o+4);generalize et s (p+14) (o+4)=cl at f G a8 d;refine aC aaU |>.mpr ?_;have b8:=d.at_ 0 rfl;obtain⟨N1,g1,b9,b0,d⟩:=dQ.freeze (L:=Fs fb rb s most ov 1 (p+14+3*(o+4)) out (.mem M::T)) d 3 rfl;have d:dQ S w0 w5 (Fs fb rb s most ov 1 (p+14+3*(o+4)) out (.mem N1::T)):=d;have c0:SlA N1.A N1.w (cW Z 0 19 19) 1 cl.length (aT cl):=by
  rw[b9,G];refine⟨Sl.cells b8 1 19 19 (by rw[dZ,G]),λq l c e _=>?_,λa l c e=>?_⟩
  ·injection e with D E O
   cases D;exact b0 Z rfl
  ·injection e with D E O
   omega
 refine aY d 3 rfl (HJ cl _ N1 w5 (λl h=>by have:=a8 l h;omega) om om (d.hasM 3 rfl) c0) ?_;intro v N2 w6 g2 y d;have d:dQ S w0 w6 (Fs fb rb s most ov 1 (p+14+3*(o+4)) out (.mem N2::T)):=d;by_cases B:bh cl=0
 case neg=>
  rw[auP B] at y;subst y;rw[auP B] at f;subst f;simp only[ex];refine uX (λh=>absurd h B) (λ_=>?_);exact z B N2 _ _ _ _ _ (g1.trans g2) d
 rw[auO (by simp[B])] at y;obtain⟨tb,rfl,c1⟩:=y;rw[auO (by simp[B])] at f;simp only[ex];refine uX (λ_=>?_) (λh=>absurd rfl h)
 try simp only[rs]
 rw[aA om om,show (g:Int)+257+((hd:Int)+1)=((g+257+(hd+1):Nat):Int) by omega];have g12:=g1.trans g2;refine ZV 0 d rfl c1 G (b2.le g12) (.inr rfl) a1 U om (λD E O F way' lv W Q d=>?_) (λD way' p' W d=>?_)
 rotate_left
 ·rw[auP D] at f;subst f;exact z D N2 _ _ _ _ _ g12 d
 rw[auO (by rw[D];decide)] at f;generalize Fl.lens cl s (g+257+(hd+1)) (p+14+3*(o+4))=r at f E O F d;obtain⟨l,q,e⟩:=r;dsimp only at f E O F d;obtain⟨R,g3,t,d⟩:=dQ.bH (L:=Fs fb rb s most ov way' q out (.mem N2::T)) d 3 rfl;have d:dQ S w0 W (Fs fb rb s most ov way' q out (.mem R::T)):=d;have g13:=g12.trans g3;have J:256 < l.length:=om
 obtain⟨b6,off,r1,r2⟩:=eG (t.now (d.hasM 3 rfl)) J;refine aC (r1 W) |>.mpr (aC (aB aW r2) |>.mpr ?_);have b1:l.getD 256 0=l[256]:=by rw[auZ,auX J];rfl
 try simp only[rs]
 refine jB (λV=>?_) (λV=>?_)
 rotate_left
 ·have:=avU V;rw[auP (by rw[b1];omega)] at f;subst f;exact z (by dsimp only;decide) R _ _ _ _ _ g13 d
 have V:=avG V;rw[auO (by rw[b1];omega)] at f;obtain⟨la,lc,c2,c5⟩:=t.form;rw[c2] at t ⊢;have d:=d.drew;refine⟨λ_=>True,trivial,?_⟩;refine aX _ (λ_=>iY avJ szI1 om om) (aX _ (λ_=>cZ avJ szI1 om om) ?_);have hA:SlA R.A R.w (.slice (zx la 0 lc 1) (g+257) lc) 1 (l.take (g+257)).length (aT (l.take (g+257))):=by
  have:=t.UD (i:=g+257) om om;rw[avA,awB om];rw[avQ] at this;have e:aT (l.take (g+257))=(aT l).take (g+257):=by unfold aT;rw[azR]
  rw[e];exact this
 have hB:SlA R.A R.w (.slice (zx la (g+257) lc 1) (l.length - (g+257)) (lc - (g+257))) 1 (l.drop (g+257)).length (aT (l.drop (g+257))):=by
  have:=t.WO (i:=g+257) om;rw[avF];rw[avQ] at this;have e:aT (l.drop (g+257))=(aT l).drop (g+257):=by unfold aT;rw[List.map_drop]
  rw[e];exact this
 rw[show ((g:Int)+257).toNat=g+257 by omega];have t15:∀x∈l.take (g+257),x<=15:=λx hx=>F x (axF hx);have d15:∀x∈l.drop (g+257),x<=15:=λx hx=>F x (ayR hx);have tl:(l.take (g+257)).length=g+257:=by rw[avA];omega
 have dl:(l.drop (g+257)).length=hd+1:=by rw[avF];omega
 generalize l.take (g+257)=near at f hA t15 tl;generalize l.drop (g+257)=far at f hB d15 dl;refine aY d 3 rfl (HJ near _ R _ t15 om om (d.hasM 3 rfl) hA) ?_;intro v N4 w8 g4 y d;have d:dQ S w0 w8 (Fs fb rb s most ov way' q out (.mem N4::T)):=d;have g14:=g13.trans g4;refine⟨trivial,?_⟩;by_cases j:bh near=0
 case neg=>
  rw[auP j] at y;subst y;rw[auP j] at f;subst f;refine NQ (Im ?_);refine uX (λh=>absurd h j) (λ_=>?_)
  repeat intro _
  exact z j N4 _ _ _ _ _ g14 d
 rw[auO (by simp[j])] at y;obtain⟨tn,rfl,c3⟩:=y;rw[auO (by simp[j])] at f;refine NQ (Im ?_);refine uX (λ_=>?_) (λh=>absurd rfl h);refine⟨trivial,?_⟩;refine aY d 3 rfl (HJ far _ N4 _ d15 om om (d.hasM 3 rfl) (hB.le g4)) ?_;intro v N5 w9 g5 y d;have d:dQ S w0 w9 (Fs fb rb s most ov way' q out (.mem N5::T)):=d;have g15:=g14.trans g5;refine⟨trivial,?_⟩;by_cases m:bh far=0
 case neg=>
  rw[auP m] at y;subst y;rw[auP m] at f;subst f;refine NQ (Im ?_);refine uX (λh=>absurd h m) (λ_=>?_)
  repeat intro _
  exact z m N5 _ _ _ _ _ g15 d
 rw[auO (by simp[m])] at y;obtain⟨tf,rfl,c4⟩:=y;rw[auO (by simp[m])] at f;refine NQ (Im ?_);refine uX (λ_=>?_) (λh=>absurd rfl h);refine⟨trivial,?_⟩;refine WV 0 d rfl (c3.le g5) c4 om om Q E U b3 b4 (λh1 h2 h3 way' u W Q d=>?_) (λh1 u way' p' C W d=>?_)
 ·refine⟨trivial,?_⟩;rw[f] at h1 h2 h3 d;exact k1 h1 h2 h3 N5 way' u W g15 Q d
 ·rw[f] at h1 ⊢
  repeat intro _
  exact z h1 N5 u way' p' C W g15 d
theorem agU {ov:aq}{s:List UInt8}{out:List UInt8}{T:List Ent}(b:dQ S w0 w (Fs fb rb s most ov way p out (.mem M::T)))(y:Rp M)(z:Od M)(hw:way=0∨way=1)(hp:p<=8*s.length)(o:s.length<=1000000000)(k:most<=1000000000)(l:out.length<=most)
  (k0:8*s.length < p+1->∀N a way' m c W,M.le N->dQ S w0 W (Fs fb rb s most a way' m c (.mem N::T))->PK [upI 4] W)
  (x:p+1<=8*s.length->(bu s most (p+1) out).2.2=0->(bu s most (p+1) out).2.1<=8*s.length->(bu s most (p+1) out).1.length<=most->∀N way' a W,M.le N->(way'=0∨way'=1)->dQ S w0 W (Fs fb rb s most a way' (bu s most (p+1) out).2.1 (bu s most (p+1) out).1 (.mem N::T))->K (.bool (ai (Fl.num s p 1=1))) W)
  (j:p+1<=8*s.length->(bu s most (p+1) out).2.2≠0->∀N a way' m c W,M.le N->dQ S w0 W (Fs fb rb s most a way' m c (.mem N::T))->PK [upI (bu s most (p+1) out).2.2] W) :
  eN ah 229 #[af fb 0] w PK K:=by
 refine⟨xP ?_⟩;unfold nJ nz;refine sV (n:=1) 0 1 b rfl rfl hw hp om o (λq A b=>?_) (λq A b=>?_)
 rotate_left
 ·exact k0 q M _ _ _ _ _ M.le_refl b
 have b:dQ S w0 A (Fs fb rb s most ov 1 (p+1) out (.mem M::T)):=b;have x:=x q;have j:=j q;generalize e:bu s most (p+1) out=X at x j;unfold bu at e
 try simp only[rs]
 rw[show ai ((Fl.num s p 1:Int)=1)=ai (Fl.num s p 1=1) by congr 1;exact propext om];refine join λJ C=>?_;have fin:∀N way' a W,M.le N->(way'=0∨way'=1)->X.2.2=0->X.2.1<=8*s.length->X.1.length<=most->dQ S w0 W (Fs fb rb s most a way' X.2.1 X.1 (.mem N::T))->J [] W:=by
  intro N way' a W hle f d g i b;refine C _ _ λ_=>?_;simp only[kH,nz];exact x d g i N way' a W hle f b
 refine sV (n:=2) 0 1 b rfl rfl (.inr rfl) q om o (λr B b=>?_) (λr B b=>?_)
 rotate_left
 ·rw[auP r] at e;subst e;exact j (by dsimp only;decide) M _ _ _ _ _ M.le_refl b
 rw[auO om] at e;have b:dQ S w0 B (Fs fb rb s most ov 1 (p+1+2) out (.mem M::T)):=b
 try simp only[rs]
 by_cases t:Fl.num s (p+1) 2=0
 ·simp only[show ai ((Fl.num s (p+1) 2:Int)=0)=av from auR om,i_t];rw[auP t] at e;refine adL b (.inr rfl) r o k l (λd g i way' a W f b=>?_) (λd a way' m c W b=>?_)
  ·rw[e] at d g i b;exact fin M way' a W M.le_refl f d g i b
  ·rw[e] at d ⊢;exact j d M _ _ _ _ _ M.le_refl b
 simp only[show ai ((Fl.num s (p+1) 2:Int)=0)=au from auQ om,i_f];rw[auO t] at e
 try simp only[rs]
 by_cases u:Fl.num s (p+1) 2=1
 ·simp only[show ai ((Fl.num s (p+1) 2:Int)=1)=av from auR om,i_t];rw[auP u] at e;refine akC b (.inr rfl) r o k l (λd g i N way' a W hle f b=>?_) (λd N a way' m c W hle b=>?_)
  ·rw[e] at d g i b;exact fin N way' a W hle f d g i b
  ·rw[e] at d ⊢;exact j d N _ _ _ _ _ hle b
 simp only[show ai ((Fl.num s (p+1) 2:Int)=1)=au from auQ om,i_f];rw[auO u] at e
 try simp only[rs]
 by_cases v:Fl.num s (p+1) 2=2
 ·simp only[show ai ((Fl.num s (p+1) 2:Int)=2)=av from auR om,i_t];rw[auP v] at e;refine XV b y z (.inr rfl) r o k l (λd g i N way' a W hle f b=>?_) (λd N a way' m c W hle b=>?_)
  ·rw[e] at d g i b;exact fin N way' a W hle f d g i b
  ·rw[e] at d ⊢;exact j d N _ _ _ _ _ hle b
 simp only[show ai ((Fl.num s (p+1) 2:Int)=2)=au from auQ om,i_f];rw[auO v] at e;subst e;exact jB (λh=>absurd h dc) λ_=>j (by dsimp only;decide) M _ _ _ _ _ M.le_refl b
end
end
section
open Eng
def bR (a:Deferred)(b:aq)(c:aq)(d:aq)(K:Ending->ao->Prop):=pd ah [.cell b 9,.cell c 3,.cell d 35] K [a]
def C6(a b c d d1 w)(p:JT)(K:KT):=
 eN ah 229 #[d] w (bR d1 a b c K) λe w=>DoX ah (mUn .not e) w (bR d1 a b c K) λf w=>IfX f (AtX [d1] [d1] (p [] w)) (zp w (λo=>QDo ah o (GZ d) λg=>QDo ah o (mFA 256 g 1) λh=>QDo ah o (aG 70 h) λi=>QDo ah o (nG 70 9 i) λj=>QDo ah o (GZ d) λk=>QDo ah o (mFA 256 k 0) λl=>QDo ah o (aG 253 l) λm=>Eu ah o 230 #[m] λn=>
 ∀w,o w ->
 DoX ah (aV 9 a j) w (bR d1 a b c K) λ_ w=>DoX ah (aV 3 b n) w (bR d1 a b c K) λ_ w=>DoX ah (aV 35 c (iN 0)) w (bR d1 a b c K) λ_ w=>Et ah [.cell a 9,.cell b 3,.cell c 35] K [d1] .returning w))
def Gn(e d w)(K:KT):=
 alx 9 w K λa w=>alx 3 w K λb w=>alx 35 w K λc w=>dx (Q7 (.func 226) #[] #[a,b,c]) w K λf w=>DfrX (dfrV f #[]) (λd1=>DoX ah (gS .geq 3 d (iN 0)) w (bR d1 a b c K) λg w=>eN ah 227 #[g,(iN 1)] w (bR d1 a b c K) λl w=>eN ah 228 #[e] w (bR d1 a b c K) λh w=>DoX ah (mB .min #[3,3] 3 #[au,av] #[d,(iN 1048576)]) w (bR d1 a b c K) λi w=>DoX ah (aN 256 #[(0,h),(2,i)]) w (bR d1 a b c K) λj w=>DoX ah (AS 256 j) w (bR d1 a b c K) λk w=>zr [] w (λm w n=>∀_:Sg,C6 a b c k d1 w n K))
theorem J7:Gn t0 t1 w k0->Calls ah 200 #[t0,t1] w k0:=cz [] [(4,[])] func200
def dA(w)(K:KT):=
 K (.returned (.tuple #[])) w
def kC(d a b r w)(K:KT):=
 eqx .eql 20 (.tmp 6) (.const .nilIface) r .nilIface w K λg w=>IfX g (K (.returned (.tuple #[])) w) (dx (mTA r 20 251 av) w K λf w=>exx f 1 w K λh w=>exx f 0 w K λi w=>IfX h (alx 251 w K λc w=>stx 251 c i w K λ_ w=>DrawX w (λw=>(fax 251 c 0 w K λe w=>(ldx 35 e w K λj w=>stx 9 d (.string ⟨#[]⟩) w K λ_ w=>stx 3 a (iN 0) w K λ_ w=>stx 35 b j w K λ_ w=>dA w K)∧(stx 9 d (.string ⟨#[]⟩) w K λ_ w=>(ldx 35 e w K λl w=>stx 3 a (iN 0) w K λ_ w=>stx 35 b l w K λ_ w=>dA w K)∧(stx 3 a (iN 0) w K λ_ w=>ldx 35 e w K λm w=>stx 35 b m w K λ_ w=>dA w K)))∧(stx 9 d (.string ⟨#[]⟩) w K λ_ w=>(fax 251 c 0 w K λk w=>(ldx 35 k w K λn w=>stx 3 a (iN 0) w K λ_ w=>stx 35 b n w K λ_ w=>dA w K)∧(stx 3 a (iN 0) w K λ_ w=>ldx 35 k w K λo w=>stx 35 b o w K λ_ w=>dA w K))∧(stx 3 a (iN 0) w K λ_ w=>fax 251 c 0 w K λp w=>ldx 35 p w K λq w=>stx 35 b q w K λ_ w=>dA w K)))) (dx (G3 r) w K λ_ w=>K (.returned (.tuple #[])) w))
theorem GU (t0 t1 t2 r:aq)(w:ao)(K:Ending->ao->Prop):wpX ah 14 [] [] aw (Yj (wG f226)) (topD ah [] K) (upd (jX [t0,t1,t2]) 6 r) [] w=kC t0 t1 t2 r w K:=krx
theorem sE {t2:aq}{R:Ending->FrameMode->ao->Prop}(h:kC t0 t1 t2 (zw u) w (λe w=>R e (Al u) w)):CallsD ah 226 #[t0,t1,t2] u w R:=
 wD func226 rfl rfl rfl rfl rfl rfl rfl rfl (Eq.mpr (GU t0 t1 t2 (zw u) w _) h)
end
section
open Eng Go.RowKit
theorem nq (near far:List Nat)(s:List UInt8)(most:Nat):∀(f p:Nat) (out:List UInt8),(iy near far s most f p out).2.2=0->p<=(iy near far s most f p out).2.1
|0,_,_,h=>by simp[iy] at h
|f+1,p,out,h=>by
  unfold iy at h ⊢;dsimp only at h ⊢;split
  ·exact auY _
  rename_i c;rw[auO c] at h
  have:=mj (Decidable.not_not.1 c);split
  ·rename_i a;rw[auP a] at h
   split
   ·exact auY _
   rename_i b;rw[auO b] at h
   have:=nq near far s most f _ _ h;omega
  rename_i a;rw[auO a] at h
  split
  ·dsimp only;omega
  rename_i b;rw[auO b] at h
  split
  ·exact auY _
  rename_i d;rw[auO d] at h
  have e:=po (Decidable.not_not.1 d);have:=nq near far s most f _ _ h;omega
theorem qd (cl:List Nat)(s:List UInt8)(n:Nat):∀(f p:Nat) (l:List Nat),(gu cl s n f p l).2.2=0->p<=(gu cl s n f p l).2.1
|0,_,_,h=>by simp[gu] at h
|f+1,p,l,h=>by
  unfold gu at h ⊢;dsimp only at h ⊢;split
  ·exact auY _
  rename_i c;rw[auO c] at h
  split
  ·exact auY _
  rename_i b;rw[auO b] at h
  have:=mj (Decidable.not_not.1 b);split
  ·rename_i a;rw[auP a] at h
   have:=qd cl s n f _ _ h;omega
  rename_i a;rw[auO a] at h
  split
  ·exact auY _
  rename_i d;rw[auO d] at h
  split
  ·exact auY _
  rename_i e;rw[auO e] at h
  split
  ·exact auY _
  rename_i g;rw[auO g] at h
  have:=qd cl s n f _ _ h;omega
theorem yg {s:List UInt8}{out:List UInt8}(h:(bz s most p out).2.2=0):p<=(bz s most p out).2.1:=by
 unfold bz at h ⊢;dsimp only at h ⊢
 repeat' split
 all_goals first|exact auY _|(dsimp only;omega)
theorem vo {s:List UInt8}{out:List UInt8}(h:(fj s most p out).2.2=0):p<=(fj s most p out).2.1:=by
 unfold fj at h ⊢;by_cases g:8*s.length < p+5
 ·rw[auP g];exact auY _
 rw[auO g] at h ⊢;by_cases i:29 < Fl.num s p 5
 ·rw[auP i];exact auY _
 rw[auO i] at h ⊢;by_cases j:8*s.length < p+10
 ·rw[auP j];exact auY _
 rw[auO j] at h ⊢;by_cases k:29 < Fl.num s (p+5) 5
 ·rw[auP k];exact auY _
 rw[auO k] at h ⊢;by_cases m:8*s.length < p+14
 ·rw[auP m];exact auY _
 rw[auO m] at h ⊢;by_cases o:8*s.length < p+14+3*(Fl.num s (p+10) 4+4)
 ·rw[auP o];exact auY _
 rw[auO o] at h ⊢;have w:p<=p+14+3*(Fl.num s (p+10) 4+4):=om
 generalize p+14+3*(Fl.num s (p+10) 4+4)=q at h w ⊢;generalize et s (p+14) (Fl.num s (p+10) 4+4)=cl at h ⊢;generalize Fl.num s p 5+257=b at h ⊢;generalize b+(Fl.num s (p+5) 5+1)=n at h ⊢;have a:(Fl.lens cl s n q).2.2=0->q<=(Fl.lens cl s n q).2.1:=qd cl s n _ _ _;dsimp only at h ⊢;generalize Fl.lens cl s n q=r at h a ⊢;obtain⟨l,t,e⟩:=r;dsimp only at h a ⊢;by_cases u:bh cl≠0
 ·rw[auP u];exact auY _
 rw[auO u] at h ⊢;by_cases f:e≠0
 ·rw[auP f];exact auY _
 rw[auO f] at h ⊢;by_cases v:l.getD 256 0=0
 ·rw[auP v];exact auY _
 rw[auO v] at h ⊢;by_cases c:bh (l.take b)≠0
 ·rw[auP c];exact auY _
 rw[auO c] at h ⊢;by_cases d:bh (l.drop b)≠0
 ·rw[auP d];exact auY _
 rw[auO d] at h ⊢;have x:t<=(dt (l.take b) (l.drop b) s most t out).2.1:=nq _ _ _ _ _ _ _ h;have:=a (Decidable.not_not.1 f);omega
theorem tj {s:List UInt8}{most p:Nat}{out:List UInt8}(h:(bu s most p out).2.2=0):p<=(bu s most p out).2.1:=by
 unfold bu at h ⊢;split
 ·exact auY _
 rename_i c;rw[auO c] at h
 split
 ·rename_i a;rw[auP a] at h
  have:=yg h;omega
 rename_i a;rw[auO a] at h
 split
 ·rename_i b;rw[auP b] at h
  have:=nq _ _ _ _ _ _ _ h;unfold dt;omega
 rename_i b;rw[auO b] at h
 split
 ·rename_i d;rw[auP d] at h
  have:=vo h;omega
 exact auY _
namespace Eng
section
variable {P:Program}{w:ao}
theorem Qg {S:TypeId}{l:List UInt8}(j:P.underlying S=ax (.slice E))(he:P.underlying E=ax (.int .u8))(k:P.underlying D=ax .string)(h:Sl w v 1 l.length (aM l)):(nG S D v).run P w=.ok (.value (ae l)) w:=by
 obtain⟨q,a,cap,rfl,n,o⟩:=h;cases a with
|none=>
  have g:=n rfl;have:l=[]:=ayT g;subst this;exact cE (run_convert_bytes_nil w S E j he _ _ D k)
|some p=>
  obtain⟨f,d⟩:=o p rfl;by_cases g:l=[]
  ·subst g;refine cE ?_;have m:(loadCells p 0).run P w=.ok (([]:List Int).map (Value.int .u8)).toArray w:=rfl;rw[show ([]:List UInt8).length=0 from rfl,run_convert_bytes_string w S D E _ 0 cap j he k,run_bytesToString w p 0 cap [] m];rfl
  replace f:=f (azU.2 g)
  obtain⟨b,off,spot⟩:=p;simp only at f d;subst f;have:=run_convert_bytes_arg (P:=P) w S E j he b off l.length cap (l.map λc=>(c.toNat:Int)) sm (λi hi=>by
   refine d i _ ?_;simp[aM,auX hi]) D k
  refine cE ?_;rw[this];have e:strOfNums (l.map λc=>(c.toNat:Int))=⟨l.toArray⟩:=by
   unfold strOfNums;rw[aAg]
   congr 2
   conv=>rhs;rw[<-List.map_id l]
   refine azV λc _=>?_;simp
  rw[e]
end
end Eng
def jv (s:List UInt8)(most:Nat):Nat->Nat->List UInt8->List UInt8×Nat×Int
|0,_,_=>([],0,13)
|f+1,p,out=>
  if 8*s.length < p+1 then ([],0,4)
  else
   let r:=bu s most (p+1) out
   if r.2.2≠0 then ([],0,r.2.2)
   else if Fl.num s p 1=1 then (r.1,(r.2.1+7) / 8,0)
   else jv s most f r.2.1 r.1
def fy (s:List UInt8)(most:Int):List UInt8×Nat×Int:=if most < 0 then ([],0,1) else jv s (min most.toNat 1048576) (8*s.length+1) 0 []
def flT (x:List UInt8×Nat×Int):Value:=.tuple #[ae x.1,ad (x.2.1:Int),ad x.2.2]
abbrev Lg (b:Nat)(l:List UInt8):Ent:=.cells b [ae l] 9
abbrev SL (b:Nat)(n:Int):Ent:=.cells b [ad n] 3
abbrev LN (b:Nat)(e:Int):Ent:=.cells b [ad e] 35
theorem NC:cD ah 226=true:=krx
theorem nfUp:jZ ah 251=true:=krx
theorem arQ:uM ah 251 0=ax 0:=krx
theorem szUp:(Tryz.prog.info? 251).map (·.size)=ax 1:=krx
section
variable {w:ao}{PK:PKT}{K:VWP}{S:Nat->Prop}{w0:ao}{L:List Ent}
theorem YK (s:List UInt8)(a:dQ S w0 w L)(k:∀b w',dQ S w0 w' (bqE b s 0 0::L)->K (af b 0) w'):eN ah 228 #[ae s] w PK K:=by
 refine eR (OQ (k0:=zy λv W=>∃b,v=af b 0∧dQ S w0 W (bqE b s 0 0::L)) ?_) (λe W ⟨v,he,b,c,a⟩=>by subst he;subst c;exact k b W a);unfold NI nz;have e:∀W:ao,(aN 297 #[(1,ae s)]).run ah W=.ok (.value (.agg (bqC s 0 0).toArray)) W:=λW=>by kernel_rfl
 refine aC (e w) |>.mpr ?_;exact bB (λb=>af b 0) (bqC s 0 0) 297 (λ_=>by kernel_rfl) a λb w' a=>xB ⟨b,rfl,a⟩
end
theorem adD (s:List UInt8)(most:Int)(M:Mem)(w:ao)(y:Rp M)(z:Od M)(R:s.length<=1000000000)(S:M.has w) :
  lA ah 200 #[ae s,ad most] M w (λv _=>v=flT (fy s most)∧(fy s most).2.1<=s.length∧(fy s most).1.length<=1048576):=by
 refine aO S λK C=>J7 ?_;generalize c:fy s most=X at C;unfold fy at c;unfold Gn iN dx alx;refine bB (λb=>af b 0) [.string ⟨#[]⟩] 9 (λ_=>by kernel_rfl) (dQ.memS S) λj Z a=>?_;refine bB (λb=>af b 0) [ad 0] 3 (λ_=>by kernel_rfl) a λk w2 a=>?_;refine bB (λb=>af b 0) [ad 0] 35 (λ_=>by kernel_rfl) a λl w3 a=>?_;have a:dQ M.A w w3 ([LN l 0,SL k 0,Lg j []]++([.mem M]++[])):=a;have a:=a.front;rw[tM];refine⟨_,rfl,?_⟩;have fail:∀{W:ao} {L:List Ent} {e:Int} {N:Mem},dQ M.A w W (L++([.mem N,LN l 0,SL k 0,Lg j []]++[]))->M.le N->X=([],0,e) ->
   bR { target:=.fn (.func 226) #[af j 0,af k 0,af l 0],args:=#[]++#[] } (af j 0) (af k 0) (af l 0) K [upI e] W:=by
  intro W L e N a hle D;have a:=a.front;have a:dQ M.A w W (.mem N::LN l 0::SL k 0::Lg j []::(L++[])):=a;show pd ah _ K _ [upI e] W;unfold pd;refine kG sm NC (sE (t0:=af j 0) (t1:=af k 0) (t2:=af l 0) ?_);simp only[kC,zw,Al,upI,Eng.YI ayD,rs,ZG nfUp,ex,i_t,i_f,iN,dx,ldx,fax,exx,stx,eqx,alx];refine bB (λb=>af b 0) [ad 0] 251 (λ_=>by kernel_rfl) a λb7 E a=>?_;refine gF 0 a rfl (new:=[ad e]) szUp (λu hu=>by rw[avV.1 hu];rfl) rfl λF a=>?_;refine⟨?_⟩;have a:=a.drew
  repeat' first
  |apply And.intro
  |refine aC (bE arQ) |>.mpr ?_
  |refine aC (aB GW (a.cell 0 rfl 0 rfl)) |>.mpr ?_
  |refine aK 4 a rfl krx rfl sm (λ_ a=>?_)
  |refine aK 3 a rfl krx rfl sm (λ_ a=>?_)
  |refine aK 2 a rfl krx rfl sm (λ_ a=>?_)
  all_goals
   unfold dA;refine TZ (bG (AtV.cell ZH (a.cell 4 rfl 0 rfl))) (bG (AtV.cell aW (a.cell 3 rfl 0 rfl))) (bG (AtV.cell GW (a.cell 2 rfl 0 rfl))) (C _ _ N _ 1 a rfl hle ⟨by rw[D];rfl,by rw[D];exact avK _,by rw[D];exact avK _⟩)
 try simp only[rs]
 refine jB (λo=>?_) (λo=>?_)
 rotate_left
 ·have:=avU o;rw[auP om] at c;exact fail (L:=[]) a M.le_refl c.symm
 have o:=avG o;rw[auO om] at c;refine YK s a λrb U a=>?_;rw[Vi,show min most 1048576=((min most.toNat 1048576:Nat):Int) by omega];have G:min most.toNat 1048576<=1048576:=azQ _ _;generalize min most.toNat 1048576=i at c G;have e:∀W:ao,(aN 256 #[(0,af rb 0),(2,ad (i:Int))]).run ah W=.ok (.value (.agg (flC rb dY (i:Int)).toArray)) W:=λW=>by kernel_rfl
 refine aC (e U) |>.mpr ?_;refine bB (λb=>af b 0) (flC rb dY (i:Int)) 256 (λ_=>by kernel_rfl) a λfb E a=>?_;have a:=dQ.nilU a 5 1;have a:dQ M.A w E ([iS dY []]++([flE fb rb dY (i:Int),bqE rb s 0 0]++[.mem M,LN l 0,SL k 0,Lg j []])):=a;have a:dQ M.A w E (Fs fb rb s i dY 0 0 [] (.mem M::[LN l 0,SL k 0,Lg j []])):=(dQ.front a).perm (List.Perm.refl _);refine loop (λvs W=>∃(p:Nat) (way:Int) (ov:aq) (out:List UInt8) (N:Mem),vs=[]∧(way=0∨way=1)∧p<=8*s.length∧out.length<=i∧M.le N∧(∃f,8*s.length+1 - p<=f∧jv s i f p out=X)∧dQ M.A w W (Fs fb rb s i ov way p out (.mem N::[LN l 0,SL k 0,Lg j []]))) (λ_ w=>8*s.length+1 - I6 rb w) ⟨0,0,dY,[],M,rfl,.inl rfl,om,sm,M.le_refl,⟨_,om,c⟩,a⟩ ?_;clear a c;rintro vs F ⟨p,way,ov,out,N,rfl,hw,hp,H,hle,⟨f,hf,c⟩,a⟩ _;have I:I6 rb F=p:=Ld (a.at_ 1 rfl);simp only[C6,iN];obtain⟨f,rfl⟩:∃f',f=f'+1:=⟨f - 1,om⟩;rw[jv] at c;dsimp only at c;have m:=@tj s i (p+1) out;refine agU a (y.le hle) (z.le hle) hw hp R om H (λJ q g way' O n W d a=>?_) (λJ r P T q way' g W d Q a=>?_) (λJ r q g way' O n W d a=>?_)
 ·rw[auP J] at c;exact fail (L:=[flE fb rb g (i:Int),bqE rb s way' O,iS g n]) a (hle.trans d) c.symm
 rotate_left
 ·rw[auO om,auP r] at c;exact fail (L:=[flE fb rb g (i:Int),bqE rb s way' O,iS g n]) a (hle.trans d) c.symm
 rw[auO om,auO (by rw[r];decide)] at c;have m:=m r;generalize bu s i (p+1) out=B at c a r P T m
 try simp only[rs]
 by_cases x:Fl.num s p 1=1
 case neg=>
  rw[auO x] at c;simp only[x,auT,awA,i_t];have t:I6 rb W=B.2.1:=Ld (a.at_ 1 rfl);refine⟨rfl,?_⟩;refine aU ⟨B.2.1,way',g,B.1,q,rfl,Q,P,T,hle.trans d,⟨f,om,c⟩,a⟩ (by show 8*s.length+1 - I6 rb W < 8*s.length+1 - I6 rb F;rw[I,t];omega)
 rw[auP x] at c;simp only[x,auS,avY,i_f];refine dR (λW=>dQ M.A w W (Fs fb rb s i g way' B.2.1 B.1 (.mem q::[LN l 0,SL k 0,Lg j []]))) a.drew ?_;refine eZ _ (λ_=>cS) (eZ _ (λ_=>bE DH) (kE _ (λW h=>KR (h.at_ 0 rfl)) ?_));refine kE (ae B.1) (λW h=>Qg avE avN auV (dO (h.at_ 2 rfl))) ?_;refine eZ _ (λ_=>cS) (eZ _ (λ_=>bE Zz) (kE _ (λW h=>Uv (h.at_ 0 rfl)) ?_));refine fC (ad (((B.2.1+7) / 8:Nat):Int)) (λW h=>(akB (h.at_ 1 rfl) P R).mono λv w' ⟨o,V⟩=>⟨o,h.grow V⟩) ?_;intro w7 a;refine aK 6 a rfl krx rfl sm λw8 a=>?_;refine aK 5 a rfl krx rfl sm λw9 a=>?_;refine aK 4 a rfl krx rfl sm λY a=>?_;refine kG sm NC (sE (t0:=af j 0) (t1:=af k 0) (t2:=af l 0) ?_);simp only[kC,zw,Al,Eng.Vd ayD,rs,i_t,i_f,iN,dx,ldx,fax,exx,stx,eqx,alx];refine TZ (bG (AtV.cell ZH (a.cell 6 rfl 0 rfl))) (bG (AtV.cell aW (a.cell 5 rfl 0 rfl))) (bG (AtV.cell GW (a.cell 4 rfl 0 rfl))) (C _ _ q _ 3 a rfl (hle.trans d) ⟨by rw[<-c];rfl,by rw[<-c];dsimp only;omega,by rw[<-c];dsimp only;omega⟩)
theorem FI (i:Nat)(w:ao)(hi:i<=28):Ret ah 264 #[ad ((257+i:Nat):Int)] w (λv w'=>v=ad (cg i:Int)∧Below w.heap.size w w'):=by
 refine aL λK a=>wU ?_;unfold oO nz;unfold cg at a
 try simp only[rs]
 by_cases c:i < 8
 ·simp only[show ai (((257+i:Nat):Int) < 265)=av from auR om,rs];rw[auO om,show i / 4 - 1=0 by omega] at a;exact a _ _ ⟨rfl,Below.refl _ _⟩
 simp only[show ai (((257+i:Nat):Int) < 265)=au from auQ om,rs];by_cases b:i=28
 ·simp only[show ai ((284:Int) < ((257+i:Nat):Int))=av from auR om,rs];rw[auP b] at a;exact a _ _ ⟨rfl,Below.refl _ _⟩
 simp only[show ai ((284:Int) < ((257+i:Nat):Int))=au from auQ om,rs];rw[auO b] at a;rw[aA om om,Ej dc,show ((257+i:Nat):Int) - 261=((i - 4:Nat):Int) by omega,show ((i - 4:Nat):Int).tdiv 4=(((i - 4) / 4:Nat):Int) from rfl,aA om om,show (i - 4) / 4=i / 4 - 1 by omega];exact a _ _ ⟨rfl,Below.refl _ _⟩
theorem Ck (i:Nat)(w:ao)(hi:i<=30):Ret ah 266 #[ad (i:Int)] w (λv w'=>v=ad (bp i:Int)∧Below w.heap.size w w'):=by
 refine aL λK a=>vU ?_;unfold mN nz;unfold bp at a
 try simp only[rs]
 by_cases b:i < 4
 ·simp only[show ai (((i:Nat):Int) < 4)=av from auR om,rs];rw[show i / 2 - 1=0 by omega] at a;exact a _ _ ⟨rfl,Below.refl _ _⟩
 simp only[show ai (((i:Nat):Int) < 4)=au from auQ om,rs];rw[aA om om,Ej dc,show ((i:Nat):Int) - 2=((i - 2:Nat):Int) by omega,show ((i - 2:Nat):Int).tdiv 2=(((i - 2) / 2:Nat):Int) from rfl,aA om om,show (i - 2) / 2=i / 2 - 1 by omega];exact a _ _ ⟨rfl,Below.refl _ _⟩
theorem SQ (i m:Nat)(w:ao)(hi:i<=28)(hm:m < 2 ^ cg i):Ret ah 265 #[ad ((257+i:Nat):Int),ad (m:Int)] w (λv w'=>v=.tuple #[ad ((fc i+m:Nat):Int),ad 0]∧Below w.heap.size w w'):=by
 refine aL λK k=>BI ?_;unfold rG nz;have a:dQ NoB w w []:=Own.start w;obtain⟨q,l⟩:=lj hi;have n:2 ^ cg i<=2 ^ 5:=awC dc l;have o:(2:Nat) ^ 5=32:=dc
 simp only[rs,show ai (((257+i:Nat):Int) < 257)=au from auQ om,show ai ((285:Int) < ((257+i:Nat):Int))=au from auQ om,show ai ((m:Int) < 0)=au from auQ om];refine aI a (FI i w hi) ?_;rintro _ r rfl a;refine aC (aZ krx ayI) |>.mpr ?_;rw[IE om,Bi om,shl1 om];simp only[rs,show ai (((2 ^ cg i:Nat):Int)<=(m:Int))=au from auQ om];by_cases b:i=28
 ·have:m=0:=by rw[b] at hm;simp[cg] at hm;exact hm
  subst this;simp only[show ai (((257+i:Nat):Int)=285)=av from auR om,i_t];exact k _ _ ⟨by rw[b];rfl,a.done⟩
 simp only[show ai (((257+i:Nat):Int)=285)=au from auQ om,i_f];have d:fc i=dp 4 3 i:=by unfold fc;rw[auO b]
 refine loop (λvs W=>∃j:Nat,vs=[ad (dp 4 3 j:Int),ad ((257+j:Nat):Int)]∧j<=i∧dQ NoB w W []) (λvs _=>257+i - n1 vs) ⟨0,rfl,om,a⟩ ?_;clear a;rintro vs w2 ⟨j,rfl,s,a⟩ _;simp only[oE,gd,rs,nz];by_cases c:((257+j:Nat):Int) < ((257+i:Nat):Int)
 ·simp only[c,auS,i_t];refine aI a (FI j w2 om) ?_;rintro _ w3 rfl a;have e:cg j=j / 4 - 1:=by unfold cg;rw[auO om]
  have f:=(lj (i:=j) om).2;have p:dp 4 3 j<=1000:=by
   have:=(lj (i:=j) om).1;unfold fc at this
   rwa [auO om] at this
  have g:2 ^ cg j<=2 ^ 5:=awC dc f;refine aC (aZ krx ayI) |>.mpr ?_;rw[IE om,Bi om,shl1 om];generalize h:2 ^ cg j=pw at g ⊢
  try simp only[rs]
  rw[aA om om,aA om om];refine aU ⟨j+1,?_,om,a⟩ (by simp[n1,RowKit.intOf];omega);rw[dp,<-e,h]
  push_cast
  rfl
 ·simp only[c,auT,i_f];have:j=i:=om
  subst this;rw[<-d,aA om om];refine k _ _ ⟨?_,a.done⟩
  push_cast
  rfl
theorem V7 (i m:Nat)(w:ao)(hi:i<=29)(hm:m < 2 ^ bp i):Ret ah 267 #[ad (i:Int),ad (m:Int)] w (λv w'=>v=.tuple #[ad ((di i+m:Nat):Int),ad 0]∧Below w.heap.size w w'):=by
 refine aL λK f=>CE ?_;unfold uQ nz;have a:dQ NoB w w []:=Own.start w;obtain⟨n,g⟩:=lq hi;have h:2 ^ bp i<=2 ^ 13:=awC dc g;have k:(2:Nat) ^ 13=8192:=dc
 simp only[rs,show ai (((i:Nat):Int) < 0)=au from auQ om,show ai ((29:Int) < ((i:Nat):Int))=au from auQ om,show ai ((m:Int) < 0)=au from auQ om];refine aI a (Ck i w om) ?_;rintro _ o rfl a;refine aC (aZ krx ayI) |>.mpr ?_;rw[IE om,Bi om,shl1 om];simp only[rs,show ai (((2 ^ bp i:Nat):Int)<=(m:Int))=au from auQ om];refine loop (λvs W=>∃j:Nat,vs=[ad (dp 2 1 j:Int),ad (j:Int)]∧j<=i∧dQ NoB w W []) (λvs _=>i - n1 vs) ⟨0,rfl,om,a⟩ ?_;clear a;rintro vs w2 ⟨j,rfl,p,a⟩ _;simp only[qR,gd,rs,nz];by_cases b:(j:Int) < (i:Int)
 ·simp only[b,auS,i_t];refine aI a (Ck j w2 om) ?_;rintro _ w3 rfl a;have c:=(lq (i:=j) om).2;have l:dp 2 1 j<=100000:=(lq (i:=j) om).1;have d:2 ^ bp j<=2 ^ 13:=awC dc c;refine aC (aZ krx ayI) |>.mpr ?_;rw[IE om,Bi om,shl1 om];generalize e:2 ^ bp j=pw at d ⊢
  try simp only[rs]
  rw[aA om om,aA om om];refine aU ⟨j+1,?_,om,a⟩ (by simp[n1,RowKit.intOf];omega);rw[dp,show j / 2 - 1=bp j from rfl,e]
  push_cast
  rfl
 ·simp only[b,auT,i_f];have:j=i:=om
  subst this;have:di j=dp 2 1 j:=rfl;rw[aA om om];refine f _ _ ⟨?_,a.done⟩;rw[this]
  push_cast
  rfl
theorem yh (h:i < 288):bj.take (i+1)=bj.take i++[if 256<=i∧i < 280 then 7 else if 144<=i∧i < 256 then 9 else 8]:=by
 have b:(List.range 288).all (λi=>ai (bj.getD i 0=if 256<=i∧i < 280 then 7 else if 144<=i∧i < 256 then 9 else 8))=true:=by decide +kernel
 have c:=avG (axI.1 b i (axE.2 h));have a:i < bj.length:=by rw[lr];exact h
 rw[Di a,<-c,auZ,auX a];rfl
theorem Wo (M:Mem)(w:ao)(o:M.has w):lA ah 204 #[] M w (λv N=>∃a b,v=.tuple #[a,b]∧SlA N.A N.w a 1 bj.length (aT bj)∧SlA N.A N.w b 1 cj.length (aT cj)):=by
 refine aO o λK p=>Am ?_;unfold pP nz;have c:dQ M.A w w [.mem M]:=dQ.memS o;have c:dQ M.A w w [.urow 3 1 dY 0 [],.mem M]:=dQ.nilU (L:=[.mem M]) c _ _;refine loop (λvs W=>∃(i:Nat) (ov:aq),vs=[ov,ad (i:Int)]∧i<=288∧dQ M.A w W [.urow 3 1 ov (bj.take i).length (aT (bj.take i)),.mem M]) (λvs _=>288 - n1 vs) ⟨0,dY,rfl,om,c⟩ ?_;clear c;rintro vs k ⟨i,ov,rfl,hi,c⟩ _;simp only[lW,gd,rs,nz];by_cases d:(i:Int) < 288
 ·simp only[d,auS,i_t];have l:=yh (i:=i) om;have q:(bj.take i).length<=288:=by rw[avA];omega
  refine join λr m=>?_;have fin:∀n:Nat,bj.take (i+1)=bj.take i++[n]->fM ov (ad (i:Int)) (ad (n:Int)) k (PZ (λvs W=>∃(i:Nat) (ov:aq),vs=[ov,ad (i:Int)]∧i<=288∧dQ M.A w W [.urow 3 1 ov (bj.take i).length (aT (bj.take i)),.mem M]) (λvs _=>288 - n1 vs) [ov,ad (i:Int)] k) K:=by
   intro n f;unfold fM nz;refine kK (n:Int) c λb2 s c=>?_;refine gY 1 c rfl (c.sl 0 rfl 1 1 1 rfl) gI om λv' t c=>?_
   try simp only[rs]
   rw[aA om om];refine aU ⟨i+1,v',rfl,om,?_⟩ (by simp[n1,RowKit.intOf];omega);rw[f,iV,auU];exact c.tail
  have step:∀n:Nat,(bj.take (i+1)=bj.take i++[if 256<=i∧i < 280 then 7 else n])->r [ad (n:Int)] k:=by
   intro n f;refine m _ _ λ_=>?_;simp only[lR,gd,nz];refine join λy g=>?_
   try simp only[rs]
   by_cases e:(256:Int)<=(i:Int)
   ·simp only[e,auS,rs];by_cases h:(i:Int) < 280
    ·simp only[h,auS,rs];rw[auP om] at f;exact g _ _ λ_=>fin 7 f
    ·simp only[h,auT,rs];rw[auO om] at f;exact g _ _ λ_=>fin n f
   ·simp only[e,auT,rs];rw[auO om] at f;exact g _ _ λ_=>fin n f
  by_cases e:(144:Int)<=(i:Int)
  ·simp only[e,auS,rs];by_cases h:(i:Int) < 256
   ·simp only[h,auS,rs];exact step 9 (by rw[l,auP (show 144<=i∧i < 256 by omega)])
   ·simp only[h,auT,rs];exact step 8 (by rw[l,auO (show ¬(144<=i∧i < 256) by omega)])
  ·simp only[e,auT,rs];exact step 8 (by rw[l,auO (show ¬(144<=i∧i < 256) by omega)])
 ·simp only[d,auT,i_f];have:i=288:=om
  subst this;have j:bj.take 288=bj:=avX (by rw[lr];omega);rw[j] at c;have c:dQ M.A w k [.urow 3 1 dY 0 [],.urow 3 1 ov bj.length (aT bj),.mem M]:=dQ.nilU c _ _;refine loop (λvs W=>∃(i:Nat) (bv:aq),vs=[bv,ad (i:Int)]∧i<=32∧dQ M.A w W [.urow 3 1 bv i (List.replicate i (ad 5)),.urow 3 1 ov bj.length (aT bj),.mem M]) (λvs _=>32 - n1 vs) ⟨0,dY,rfl,om,c⟩ ?_;clear c;rintro vs w2 ⟨i,bv,rfl,hi,c⟩ _;simp only[mK,gd,rs,nz];by_cases d:(i:Int) < 32
  ·simp only[d,auS,i_t];refine kK 5 c λb2 s c=>?_;refine gY 1 c rfl (c.sl 0 rfl 1 1 1 rfl) gI om λv' t c=>?_
   try simp only[rs]
   rw[aA om om];refine aU ⟨i+1,v',rfl,om,?_⟩ (by simp[n1,RowKit.intOf];omega);rw[aAZ];exact c.tail
  ·simp only[d,auT,i_f];have:i=32:=om
   subst this;obtain⟨u,g1,e,c⟩:=dQ.bH (L:=[.urow 3 1 ov bj.length (aT bj),.mem M]) c 1 rfl;obtain⟨x,g2,h,c⟩:=dQ.bH (L:=[.mem u]) c 0 rfl;refine p _ _ x _ 0 c rfl (g1.trans g2) ⟨_,_,rfl,h,?_⟩;have e:=e.le g2;rw[show cj.length=32 from rfl,show aT cj=List.replicate 32 (ad 5) from Gx 32 5];exact e
section
variable {w:ao}{PK:PKT}{K:VWP}{S:Nat->Prop}{w0:ao}{L:List Ent}
def D2 (v:aq)(p:Nat)(e:Int):Value:=.tuple #[v,ad (p:Int),ad e]
theorem JX {e:Int}:DoX ah (zt (D2 v p e) 0) w PK K=K v w:=gT rfl
theorem JW {e:Int}:DoX ah (zt (D2 v p e) 1) w PK K=K (ad (p:Int)) w:=gT rfl
theorem Kw {e:Int}:DoX ah (zt (D2 v p e) 2) w PK K=K (ad e) w:=gT rfl
theorem CJ {x:Nat×Nat×Int}:DoX ah (zt (nmT x) 0) w PK K=K (ad (x.1:Int)) w:=gT rfl
theorem C0 {x:Nat×Nat×Int}:DoX ah (zt (nmT x) 1) w PK K=K (ad (x.2.1:Int)) w:=gT rfl
theorem Df {x:Nat×Nat×Int}:DoX ah (zt (nmT x) 2) w PK K=K (ad x.2.2) w:=gT rfl
theorem Cm {s:List UInt8}{n:Nat}(a:dQ S w0 w L)(hp:p<=8*s.length)(c:n<=32)(d:s.length<=1000000000)
  (e:p+n<=8*s.length->∀W,dQ S w0 W L->K (nmT (Fl.num s p n,p+n,0)) W) (f:8*s.length < p+n->∀W,dQ S w0 W L->K (nmT (0,0,4)) W):eN ah 171 #[ae s,ad (p:Int),ad (n:Int)] w PK K:=by
 refine aI a (OX s p n w hp c d) ?_;rintro _ b rfl a;unfold Fl.numE;split
 ·rename_i h;exact e h b a
 ·rename_i h;exact f om b a
theorem Zk {ov:aq}{s:List UInt8}{out:List UInt8}(b:dQ S w0 w (iS ov out::R))(hp:p<=8*s.length)(t:s.length<=1000000000)(y:most<=1000000000)(z:out.length<=most)
  (i:(bz s most p out).2.2=0->(bz s most p out).2.1<=8*s.length->(bz s most p out).1.length<=most->∀d W,dQ S w0 W (iS d (bz s most p out).1::R)->K (D2 d (bz s most p out).2.1 0) W)
  (j:(bz s most p out).2.2≠0->∀W,dQ S w0 W R->K (D2 dY 0 (bz s most p out).2.2) W) :
  eN ah 203 #[ae s,ad (p:Int),ov,ad (most:Int)] w PK K:=by
 generalize c:bz s most p out=X at i j;refine eR (wL (k0:=zy λv W=>(X.2.2=0∧X.2.1<=8*s.length∧X.1.length<=most∧∃d,v=D2 d X.2.1 0∧dQ S w0 W (iS d X.1::R))∨(X.2.2≠0∧v=D2 dY 0 X.2.2∧dQ S w0 W R)) ?_) (λe W ⟨v,he,A⟩=>by
  subst he;rcases A with ⟨f,k,l,d,rfl,b⟩|⟨f,rfl,b⟩
  ·exact i f k l d W b
  ·exact j f W b)
 clear i j;unfold bz at c;dsimp only at c;unfold nK nz
 try simp only[rs]
 rw[aA om om,Ej dc,show (p:Int)+7=((p+7:Nat):Int) by omega,show ((p+7:Nat):Int).tdiv 8=(((p+7) / 8:Nat):Int) from rfl,aA om om]
 try simp only[rs]
 rw[aA om om,show (((p+7) / 8:Nat):Int)*8=(((p+7) / 8*8:Nat):Int) by push_cast;rfl];have o:(p+7) / 8*8 % 8=0:=om
 have h:(p+7) / 8*8<=8*s.length:=om
 generalize (p+7) / 8*8=a at c o h;refine Cm (n:=16) b h om t (λf B b=>?_) (λf B b=>?_)
 rotate_left
 ·rw[auP f] at c;subst c;simp only[CJ,C0,Df,bO,show ai ((4:Int)≠0)=av from rfl,i_t];exact xB (.inr ⟨by (first|decide|(dsimp only;decide)),rfl,b.tail⟩)
 rw[auO om] at c;simp only[CJ,C0,Df,bO,show ai ((0:Int)≠0)=au from rfl,i_f];refine Cm (p:=a+16) (n:=16) b f om t (λk C b=>?_) (λk C b=>?_)
 rotate_left
 ·rw[auP om] at c;subst c;simp only[CJ,C0,Df,bO,show ai ((4:Int)≠0)=av from rfl,i_t];exact xB (.inr ⟨by (first|decide|(dsimp only;decide)),rfl,b.tail⟩)
 rw[auO om] at c;simp only[CJ,C0,Df,bO,show ai ((0:Int)≠0)=au from rfl,i_f];have q:=Fl.iG s a 16;have r:=Fl.iG s (a+16) 16;have D:(2:Nat) ^ 16=65536:=dc
 try simp only[rs]
 rw[aA om om];generalize Fl.num s a 16=n at c q;generalize Fl.num s (a+16) 16=m at c r;by_cases l:n+m=65535
 case neg=>
  rw[auP l] at c;simp only[show ai ((m:Int)≠65535 - (n:Int))=av from auR om,i_t];subst c;exact xB (.inr ⟨by (first|decide|(dsimp only;decide)),rfl,b.tail⟩)
 rw[auO om] at c;simp only[show ai ((m:Int)≠65535 - (n:Int))=au from auQ om,i_f];rw[aS avE (dO (b.at_ 0 rfl))]
 try simp only[rs]
 rw[aA om om];by_cases u:most < out.length+n
 ·rw[auP u] at c;simp only[show ai ((most:Int) - (out.length:Int) < (n:Int))=av from auR om,i_t];subst c;exact xB (.inr ⟨by (first|decide|(dsimp only;decide)),rfl,b.tail⟩)
 rw[auO u] at c;simp only[show ai ((most:Int) - (out.length:Int) < (n:Int))=au from auQ om,i_f];rw[dE auV,Ej dc,show ((a+16+16:Nat):Int).tdiv 8=(((a+16+16) / 8:Nat):Int) from rfl,aA om om]
 try simp only[rs]
 rw[aA om om];by_cases x:8*s.length < a+32+8*n
 ·rw[auP x] at c;simp only[show ai ((s.length:Int) - (((a+16+16) / 8:Nat):Int) < (n:Int))=av from auR om,i_t];subst c;exact xB (.inr ⟨by (first|decide|(dsimp only;decide)),rfl,b.tail⟩)
 rw[auO x] at c;simp only[show ai ((s.length:Int) - (((a+16+16) / 8:Nat):Int) < (n:Int))=au from auQ om,i_f];rw[Ej dc,Ej dc,show ((a+16+16:Nat):Int).tdiv 8=(((a+16+16) / 8:Nat):Int) from rfl,aA om om]
 try simp only[rs]
 rw[aA om om,SU auV om om om];rw[show ((((a+16+16) / 8:Nat):Int)+(n:Int)).toNat - (((a+16+16) / 8:Nat):Int).toNat=n by omega,auW];have g:((s.drop ((a+16+16) / 8)).take n).length=n:=by rw[avA,avF];omega
 refine IG 0 avE auV G8 avN z8U b rfl (by rw[g];omega) λv' E b=>?_
 try simp only[rs]
 rw[aA (n:=8*(n:Int)) om om,aA om om];rw[show (a+16+16) / 8=a / 8+4 by omega] at b g;have b:dQ S w0 E (iS v' (out++(s.drop (a / 8+4)).take n)::R):=by
  rw[eJ];exact b
 subst c;refine xB (.inl ⟨rfl,by dsimp only;omega,by dsimp only;rw[auU,g];omega,v',?_,b⟩);unfold D2
 congr 4
 all_goals first|rfl|(push_cast;omega)
theorem XQ {ov z:aq}{s:List UInt8}{out:List UInt8}{far:List Nat}(jm:Nat)(c:dQ S w0 w (iS ov out::R))(hm:R[jm]?=ax (.mem M))(hf:SlA M.A M.w z 1 far.length (aT far))(C:∀l∈far,l<=15)(hl:far.length<=1000)(hp:p<=8*s.length)(D:s.length<=1000000000)(a1:most<=1000000000)(a6:out.length<=most)(hi:i<=1000)
  (E:(bs far s p (257+i) out most).2.2=0->(bs far s p (257+i) out most).2.1<=8*s.length->(bs far s p (257+i) out most).1.length<=most->∀g W,dQ S w0 W (iS g (bs far s p (257+i) out most).1::R)->K (D2 g (bs far s p (257+i) out most).2.1 0) W)
  (F:(bs far s p (257+i) out most).2.2≠0->∀W,dQ S w0 W R->K (D2 dY 0 (bs far s p (257+i) out most).2.2) W) :
  eN ah 235 #[ae s,ad (p:Int),ad ((257+i:Nat):Int),z,ov,ad (most:Int)] w PK K:=by
 generalize f:bs far s p (257+i) out most=X at E F;refine eR (wZ (k0:=zy λv W=>(X.2.2=0∧X.2.1<=8*s.length∧X.1.length<=most∧∃g,v=D2 g X.2.1 0∧dQ S w0 W (iS g X.1::R))∨(X.2.2≠0∧v=D2 dY 0 X.2.2∧dQ S w0 W R)) ?_) (λe W ⟨v,he,hv⟩=>by
  subst he;rcases hv with ⟨u,x,n,g,rfl,c⟩|⟨u,rfl,c⟩
  ·exact E u x n g W c
  ·exact F u W c)
 clear E F;unfold bs at f;unfold oR nz
 try simp only[rs]
 by_cases u:285 < 257+i
 ·rw[auP u] at f;simp only[show ai ((285:Int) < ((257+i:Nat):Int))=av from auR om,i_t];subst f;exact xB (.inr ⟨by (first|decide|(dsimp only;decide)),rfl,c.tail⟩)
 simp only[show ai ((285:Int) < ((257+i:Nat):Int))=au from auQ om,i_f];have h:i<=28:=om
 rw[auO u,aAE] at f;obtain⟨a7,G⟩:=lj h;refine aI c (FI i w h) ?_;rintro _ w1 rfl c;refine Cm c hp om D (λx W c=>?_) (λx W c=>?_)
 rotate_left
 ·rw[auP x] at f;subst f;simp only[CJ,C0,Df,bO,show ai ((4:Int)≠0)=av from rfl,i_t];exact xB (.inr ⟨by (first|decide|(dsimp only;decide)),rfl,c.tail⟩)
 rw[auO om] at f;dsimp only at f;simp only[CJ,C0,Df,bO,show ai ((0:Int)≠0)=au from rfl,i_f];have r:=Fl.iG s p (cg i);refine aI c (SQ i _ W h r) ?_;rintro _ w2 rfl c;simp only[ex];have H:fc i+Fl.num s p (cg i)<=100000:=by
  have:2 ^ cg i<=2 ^ 5:=awC dc G;omega
 generalize fc i+Fl.num s p (cg i)=sz at f H;refine aI c (Wy (KX far z s (p+cg i) M w2 C hl x D (c.hasM (jm+1) hm) hf)) ?_;rintro _ w3 ⟨a,b,rfl,I,t⟩ c;generalize bw far s (p+cg i)=T at f t;obtain⟨fi,q,e⟩:=T;dsimp only at f t;simp only[CJ,C0,Df,bO];by_cases n:e=0
 case neg=>
  rw[auP n] at f;subst f;simp only[auR (show e≠0 from n),i_t];exact xB (.inr ⟨n,rfl,c.tail⟩)
 obtain⟨rfl,rfl⟩:=t n;rw[auO (by rw[n];decide)] at f;simp only[auQ (show ¬e≠0 by rw[n];decide),i_f,rs];by_cases V:29 < a
 ·rw[auP V] at f;simp only[show ai ((29:Int) < (a:Int))=av from auR om,i_t];subst f;exact xB (.inr ⟨by (first|decide|(dsimp only;decide)),rfl,c.tail⟩)
 rw[auO V] at f;simp only[show ai ((29:Int) < (a:Int))=au from auQ om,i_f];have o:a<=29:=om
 obtain⟨a8,J⟩:=lq o;refine aI c (Ck a w3 om) ?_;rintro _ w4 rfl c;refine Cm c I om D (λY W c=>?_) (λY W c=>?_)
 rotate_left
 ·rw[auP Y] at f;subst f;simp only[CJ,C0,Df,bO,show ai ((4:Int)≠0)=av from rfl,i_t];exact xB (.inr ⟨by (first|decide|(dsimp only;decide)),rfl,c.tail⟩)
 rw[auO om] at f;simp only[CJ,C0,Df,bO,show ai ((0:Int)≠0)=au from rfl,i_f];have r:=Fl.iG s b (bp a);refine aI c (V7 a _ W o r) ?_;rintro _ w6 rfl c;simp only[ex];have b0:=ru a;have L:1<=di a+Fl.num s b (bp a):=om
 have N:di a+Fl.num s b (bp a)<=1000000:=by
  have:2 ^ bp a<=2 ^ 13:=awC dc J;omega
 generalize di a+Fl.num s b (bp a)=d at f L N;rw[aS avE (dO (c.at_ 0 rfl))]
 try simp only[rs]
 by_cases Z:out.length < d
 ·rw[auP Z] at f;simp only[show ai ((out.length:Int) < (d:Int))=av from auR om,i_t];subst f;exact xB (.inr ⟨by (first|decide|(dsimp only;decide)),rfl,c.tail⟩)
 rw[auO Z] at f;simp only[show ai ((out.length:Int) < (d:Int))=au from auQ om,i_f];rw[aS avE (dO (c.at_ 0 rfl))]
 try simp only[rs]
 rw[aA om om];by_cases h7:most < out.length+sz
 ·rw[auP h7] at f;simp only[show ai ((most:Int) - (out.length:Int) < (sz:Int))=av from auR om,i_t];subst f;exact xB (.inr ⟨by (first|decide|(dsimp only;decide)),rfl,c.tail⟩)
 rw[auO h7] at f;simp only[show ai ((most:Int) - (out.length:Int) < (sz:Int))=au from auQ om,i_f];have O:=rq d sz out;generalize j:gi d sz out=B at f O;refine loop (λvs W=>∃(k:Nat) (ov:aq) (out:List UInt8),vs=[ov,ad (k:Int)]∧k<=sz∧d<=out.length∧out.length+(sz - k)=B.length∧gi d (sz - k) out=B∧dQ S w0 W (iS ov out::R)) (λvs _=>sz - n1 vs) ⟨0,ov,out,rfl,om,om,om,by rw[Nat.sub_zero];exact j,c⟩ ?_;clear c j;rintro vs w7 ⟨k,ov,out,rfl,hk,b1,P,j,c⟩ _;simp only[jS,gd,rs,nz];by_cases y:(k:Int) < (sz:Int)
 ·simp only[y,auS,i_t];obtain⟨m,Q⟩:∃m,sz - k=m+1:=⟨sz - k - 1,om⟩;rw[Q,gi] at j;rw[aS avE (dO (c.at_ 0 rfl))]
  try simp only[rs]
  rw[aA om om,show (out.length:Int) - (d:Int)=((out.length - d:Nat):Int) by omega];have hid:out.length - d < out.length:=om
  obtain⟨b2,off,r1,r2⟩:=KF (dO (c.at_ 0 rfl)) hid;refine aC (r1 w7) |>.mpr (aC (aB nU8l r2) |>.mpr ?_);have U:out.getD (out.length - d) 0=out[out.length - d]:=by rw[auZ,auX hid];rfl
  rw[<-U];refine Nc _ c λb8 w8 c=>?_;refine bN 1 avE G8 dc c rfl (gX (c.at_ 0 rfl) dc rfl) bU om om λv' w9 c=>?_
  try simp only[rs]
  rw[aA om om];refine aU ⟨k+1,v',out++[out.getD (out.length - d) 0],rfl,om,by rw[auU];omega,by rw[auU,awX];omega,by rw[show sz - (k+1)=m by omega];exact j,?_⟩ (by simp[n1,RowKit.intOf];omega);rw[eJ];exact c.tail
 ·simp only[y,auT,i_f];have:k=sz:=om
  subst this;rw[ayY] at j P;have j:out=B:=j;subst j;subst f;exact xB (.inl ⟨rfl,by dsimp only;omega,by dsimp only;omega,ov,rfl,c⟩)
end
def cd (s:List UInt8)(p:Nat):List Nat×List Nat×Nat×Int:=
 if 8*s.length < p+5 then ([],[],0,4)
 else if 29 < Fl.num s p 5 then ([],[],0,3)
 else if 8*s.length < p+10 then ([],[],0,4)
 else if 29 < Fl.num s (p+5) 5 then ([],[],0,3)
 else if 8*s.length < p+14 then ([],[],0,4)
 else if 8*s.length < p+14+3*(Fl.num s (p+10) 4+4) then ([],[],0,4)
 else
  let cl:=et s (p+14) (Fl.num s (p+10) 4+4)
  if bh cl≠0 then ([],[],0,bh cl)
  else
   let r:=Fl.lens cl s (Fl.num s p 5+257+(Fl.num s (p+5) 5+1)) (p+14+3*(Fl.num s (p+10) 4+4))
   if r.2.2≠0 then ([],[],0,r.2.2)
   else (r.1.take (Fl.num s p 5+257),r.1.drop (Fl.num s p 5+257),r.2.1,0)
theorem vq (s:List UInt8)(most p:Nat)(out:List UInt8):fj s most p out =
  if (cd s p).2.2.2≠0 then (out,p,(cd s p).2.2.2)
  else if (cd s p).1.getD 256 0=0 then (out,p,13)
  else if bh (cd s p).1≠0 then (out,p,bh (cd s p).1)
  else if bh (cd s p).2.1≠0 then (out,p,bh (cd s p).2.1)
  else dt (cd s p).1 (cd s p).2.1 s most (cd s p).2.2.1 out:=by
 unfold fj cd;by_cases c:8*s.length < p+5
 ·simp only[auP c];rfl
 simp only[auO c];by_cases d:29 < Fl.num s p 5
 ·simp only[auP d];rfl
 simp only[auO d];by_cases f:8*s.length < p+10
 ·simp only[auP f];rfl
 simp only[auO f];by_cases g:29 < Fl.num s (p+5) 5
 ·simp only[auP g];rfl
 simp only[auO g];by_cases h:8*s.length < p+14
 ·simp only[auP h];rfl
 simp only[auO h];by_cases i:8*s.length < p+14+3*(Fl.num s (p+10) 4+4)
 ·simp only[auP i];rfl
 simp only[auO i];generalize p+14+3*(Fl.num s (p+10) 4+4)=q;generalize et s (p+14) (Fl.num s (p+10) 4+4)=cl;generalize Fl.num s (p+5) 5+1=j;have e:∀(l:List Nat) (n:Nat),(l.take (n+257)).getD 256 0=l.getD 256 0:=λl n=>by
  rw[auZ,aAJ om,auZ]
 have e:=λl=>e l (Fl.num s p 5);generalize Fl.num s p 5+257=k at e ⊢;generalize Fl.lens cl s (k+j) q=r;obtain⟨l,o,m⟩:=r;dsimp only;by_cases a:bh cl≠0
 ·rw[auP a,auP a,auP a]
 rw[auO a,auO a];by_cases b:m≠0
 ·rw[auP b,auP b,auP b]
 rw[auO b,auO b];dsimp only;rw[auO (show ¬((0:Int)≠0) by decide),e]
theorem VZ (cl:List Nat)(v:aq)(s:List UInt8)(p n:Nat)(M:Mem)(w:ao)(Q:cl.length=19)(R:∀l∈cl,l<=15)(hp:p<=8*s.length)(F:s.length<=1000000000)(hn:n<=1000)(hM:M.has w)(hs:SlA M.A M.w v 1 cl.length (aT cl)) :
  lA ah 232 #[ae s,ad (p:Int),v,ad (n:Int)] M w (λr N=>((Fl.lens cl s n p).2.2≠0∧r=D2 dY 0 (Fl.lens cl s n p).2.2)∨((Fl.lens cl s n p).2.2=0∧(Fl.lens cl s n p).2.1<=8*s.length∧(Fl.lens cl s n p).1.length=n∧(∀x∈(Fl.lens cl s n p).1,x<=15)∧∃c,r=D2 c (Fl.lens cl s n p).2.1 0∧SlA N.A N.w c 1 (Fl.lens cl s n p).1.length (aT (Fl.lens cl s n p).1))):=by
 refine aO hM λK D=>Dh ?_;generalize b:Fl.lens cl s n p=X at D;unfold Fl.lens at b;unfold vG nz;have a:dQ M.A w w [.mem M]:=dQ.memS hM;have a:dQ M.A w w [.urow 3 1 dY 0 [],.mem M]:=dQ.nilU (L:=[.mem M]) a _ _;refine loop (λvs W=>∃(p:Nat) (l:List Nat) (c:aq),vs=[ad (p:Int),c]∧p<=8*s.length∧l.length<=n∧(∀x∈l,x<=15)∧(∃f,n+1 - l.length<=f∧gu cl s n f p l=X)∧dQ M.A w W [.urow 3 1 c l.length (aT l),.mem M]) (λvs _=>n - HS (vs.getD 1 undef)) ⟨p,[],dY,rfl,hp,avK _,(λx j=>by cases j),⟨_,auY _,b⟩,a⟩ ?_;clear a b hp;rintro vs S ⟨p,l,c,rfl,hp,a8,d,⟨f,hf,b⟩,a⟩ _;have b0:HS c=l.length:=IA (a.slU 0 rfl);simp only[pS,gd,nz];obtain⟨f,rfl⟩:∃f',f=f'+1:=⟨f - 1,om⟩;rw[gu] at b;dsimp only at b;rw[aS avJ (a.slU 0 rfl)]
 try simp only[rs]
 by_cases G:(l.length:Int) < (n:Int)
 case neg=>
  simp only[G,auT,i_f];rw[auP om] at b;subst b;obtain⟨N1,g1,h1,a⟩:=dQ.bH (L:=[.mem M]) a 0 rfl;exact D _ _ N1 _ 0 a rfl g1 (.inr ⟨rfl,hp,by dsimp only;omega,d,c,rfl,h1⟩)
 simp only[G,auS,i_t];rw[auO om] at b;refine aI a (Wy (KX cl v s p M S R om hp F (a.hasM 1 rfl) hs)) ?_;rintro _ w3 ⟨g,q,rfl,H,y⟩ a;have k:(bw cl s p).1 < cl.length:=nm s om 16 0 p 0;rw[Q] at k;generalize bw cl s p=T at b y k;obtain⟨g',q',e⟩:=T;dsimp only at b y k;simp only[CJ,C0,Df,bO];by_cases E:e=0
 case neg=>
  rw[auP E] at b;subst b;simp only[auR (show e≠0 from E),i_t];exact D _ _ M _ 1 a rfl M.le_refl (.inl ⟨E,rfl⟩)
 obtain⟨rfl,rfl⟩:=y E;rw[auO (by rw[E];decide)] at b;simp only[auQ (show ¬e≠0 by rw[E];decide),i_f,rs];by_cases I:g < 16
 ·rw[auP I] at b;simp only[show ai ((g:Int) < 16)=av from auR om,i_t];refine kK (g:Int) a λb2 w6 a=>?_;refine gY 1 a rfl (a.sl 0 rfl 1 1 1 rfl) gI om λv' w7 a=>?_;have J:HS v'=l.length+1:=IA (a.slU 1 rfl);refine aU ⟨q,l++[g],v',rfl,H,by rw[auU,awX];omega,?_,⟨f,by rw[auU,awX];omega,b⟩,?_⟩ (by show n - HS v' < n - HS c;omega)
  ·intro x j;rcases avZ.1 j with j|j
   ·exact d x j
   ·rw[avV.1 j];omega
  ·rw[iV,auU];exact a.tail
 rw[auO I] at b;simp only[show ai ((g:Int) < 16)=au from auQ om,i_f,rs];have hB:=sx g;have hL:=sy g;have rest:∀(t:Nat),(t=if g=16 then l.getD (l.length - 1) 0 else 0)->t<=15->¬(g=16∧l.length=0)->gV (ae s) (ad (n:Int)) c (ad (g:Int)) (ad (q:Int)) (ad 2) (ad 3) (ad (t:Int)) w3 (PZ (λvs W=>∃(p:Nat) (l:List Nat) (c:aq),vs=[ad (p:Int),c]∧p<=8*s.length∧l.length<=n∧(∀x∈l,x<=15)∧(∃f,n+1 - l.length<=f∧gu cl s n f p l=X)∧dQ M.A w W [.urow 3 1 c l.length (aT l),.mem M]) (λvs _=>n - HS (vs.getD 1 undef)) [ad (p:Int),c] S) K:=by
  intro t U z V;rw[auO V,<-U] at b;have more:gZ (ae s) (ad (n:Int)) c (ad (q:Int)) (ad (br g:Int)) (ad (dj g:Int)) (ad (t:Int)) w3 (PZ (λvs W=>∃(p:Nat) (l:List Nat) (c:aq),vs=[ad (p:Int),c]∧p<=8*s.length∧l.length<=n∧(∀x∈l,x<=15)∧(∃f,n+1 - l.length<=f∧gu cl s n f p l=X)∧dQ M.A w W [.urow 3 1 c l.length (aT l),.mem M]) (λvs _=>n - HS (vs.getD 1 undef)) [ad (p:Int),c] S) K:=by
   unfold gZ nz;refine Cm a H om F (λY W5 a=>?_) (λY W5 a=>?_)
   rotate_left
   ·rw[auP Y] at b;subst b;simp only[CJ,C0,Df,bO,show ai ((4:Int)≠0)=av from rfl,i_t];exact D _ _ M _ 1 a rfl M.le_refl (.inl ⟨by (first|decide|(dsimp only;decide)),rfl⟩)
   rw[auO om] at b;simp only[CJ,C0,Df,bO,show ai ((0:Int)≠0)=au from rfl,i_f];have b1:=Fl.iG s q (br g);have b3:2 ^ br g<=2 ^ 7:=awC dc hB;have a7:(2:Nat) ^ 7=128:=dc
   try simp only[rs]
   rw[aA om om,aS avJ (a.slU 0 rfl)]
   try simp only[rs]
   rw[aA om om];by_cases h6:n < l.length+(dj g+Fl.num s q (br g))
   ·rw[auP h6] at b;simp only[show ai ((n:Int) - (l.length:Int) < (dj g:Int)+(Fl.num s q (br g):Int))=av from auR om,i_t];subst b;exact D _ _ M _ 1 a rfl M.le_refl (.inl ⟨by (first|decide|(dsimp only;decide)),rfl⟩)
   rw[auO h6] at b;simp only[show ai ((n:Int) - (l.length:Int) < (dj g:Int)+(Fl.num s q (br g):Int))=au from auQ om,i_f];refine loop (λvs W=>∃(i:Nat) (m:aq),vs=[m,ad (i:Int)]∧i<=dj g+Fl.num s q (br g)∧dQ M.A w W [.urow 3 1 m (l.length+i) (aT (l++List.replicate i t)),.mem M]) (λvs _=>dj g+Fl.num s q (br g) - n1 vs) ⟨0,c,rfl,om,by rw[aBj,awF];exact a⟩ ?_;clear a;rintro vs w6 ⟨i,m,rfl,hi,a⟩ _;simp only[pQ,gd,rs,nz];rw[aA om om];by_cases u:(i:Int) < (dj g:Int)+(Fl.num s q (br g):Int)
   ·simp only[u,auS,i_t];refine kK (t:Int) a λb2 w7 a=>?_;refine gY 1 a rfl (a.sl 0 rfl 1 1 1 rfl) gI om λv' w8 a=>?_
    try simp only[rs]
    rw[aA om om];refine aU ⟨i+1,v',rfl,om,?_⟩ (by simp[n1,RowKit.intOf];omega);rw[aAZ,<-avO,iV];exact a.tail
   ·simp only[u,auT,i_f];have:i=dj g+Fl.num s q (br g):=om
    subst this;have J:=IA (a.slU 0 rfl);refine aU ⟨q+br g,l++List.replicate _ t,m,rfl,Y,by rw[auU,awJ];omega,?_,⟨f,by rw[auU,awJ];omega,b⟩,?_⟩ (by show n - HS m < n - HS c;omega)
    ·intro x j;rcases avZ.1 j with j|j
     ·exact d x j
     ·rw[ayA j];exact z
    ·rw[auU,awJ];exact a
  unfold gV nz;refine join λJ3 O=>?_
  try simp only[rs]
  by_cases Z:g=17
  ·simp only[show ai ((g:Int)=17)=av from auR om,i_t];refine O _ _ λ_=>?_;simp only[gU,gd,nz];refine join λJ4 o=>?_;simp only[rs,show ai ((g:Int)=18)=au from auQ om,i_f];refine o _ _ λ_=>?_;subst Z;exact more
  simp only[show ai ((g:Int)=17)=au from auQ om,i_f];refine O _ _ λ_=>?_;simp only[gU,gd,nz];refine join λJ4 o=>?_
  try simp only[rs]
  by_cases a1:g=18
  ·simp only[show ai ((g:Int)=18)=av from auR om,i_t];refine o _ _ λ_=>?_;subst a1;exact more
  simp only[show ai ((g:Int)=18)=au from auQ om,i_f];refine o _ _ λ_=>?_;have:g=16:=om
  subst this;exact more
 by_cases P:g=16
 case neg=>
  simp only[show ai ((g:Int)=16)=au from auQ om,rs];refine join λJ2 B=>?_
  try simp only[rs,show ai ((g:Int)=16)=au from auQ om,i_f]
  exact B _ _ λ_=>rest 0 (by rw[auO P]) om (λh=>P h.1)
 simp only[show ai ((g:Int)=16)=av from auR om,rs];rw[aS avJ (a.slU 0 rfl)]
 try simp only[rs]
 by_cases h0:l.length=0
 ·simp only[show ai ((l.length:Int)=0)=av from auR om,rs];rw[auP ⟨P,h0⟩] at b;subst b;exact D _ _ M _ 1 a rfl M.le_refl (.inl ⟨by (first|decide|(dsimp only;decide)),rfl⟩)
 simp only[show ai ((l.length:Int)=0)=au from auQ om,rs];refine join λJ2 B=>?_
 try simp only[rs,show ai ((g:Int)=16)=av from auR om,i_t]
 rw[aS avJ (a.slU 0 rfl)]
 try simp only[rs]
 rw[aA om om,show (l.length:Int) - 1=((l.length - 1:Nat):Int) by omega];have C:l.length - 1 < l.length:=om
 obtain⟨b2,off,r1,r2⟩:=eG (a.slU 0 rfl) C;refine aC (r1 w3) |>.mpr (aC (aB aW r2) |>.mpr ?_);have a6:l.getD (l.length - 1) 0=l[l.length - 1]:=by rw[auZ,auX C];rfl
 exact B _ _ λ_=>rest _ (by rw[auP P,a6]) (d _ (avD C)) (λh=>by omega)
def r11L (a b:aq)(p:Nat)(e:Int):Value:=.tuple #[a,b,ad (p:Int),ad e]
theorem Qh (s:List UInt8)(p:Nat)(M:Mem)(w:ao)(hp:p<=8*s.length)(t:s.length<=1000000000)(hM:M.has w) :
  lA ah 205 #[ae s,ad (p:Int)] M w (λr N=>((cd s p).2.2.2≠0∧r=r11L dY dY 0 (cd s p).2.2.2)∨((cd s p).2.2.2=0∧(cd s p).2.2.1<=8*s.length∧257<=(cd s p).1.length∧(cd s p).1.length<=1000∧(cd s p).2.1.length<=1000∧(∀x∈(cd s p).1,x<=15)∧(∀x∈(cd s p).2.1,x<=15)∧∃a b,r=r11L a b (cd s p).2.2.1 0∧SlA N.A N.w a 1 (cd s p).1.length (aT (cd s p).1)∧SlA N.A N.w b 1 (cd s p).2.1.length (aT (cd s p).2.1))):=by
 refine aO hM λK H=>vT ?_;generalize f:cd s p=X at H;unfold cd at f;dsimp only at f;unfold lQ nz;have d:dQ M.A w w [.mem M]:=dQ.memS hM;have h5:(2:Nat) ^ 5=32:=dc
 have h4:(2:Nat) ^ 4=16:=dc
 have E:∀{W:ao} {L:List Ent} (e:Int) (i:Nat),dQ M.A w W L->L[i]?=ax (.mem M)->X=([],[],0,e)->e≠0->K (.returned (.tuple #[dY,dY,ad 0,ad e])) W:=by
  intro W L e i d hi F h0;exact H _ _ M _ i d hi M.le_refl (.inl ⟨by rw[F];exact h0,by rw[F];rfl⟩)
 refine Cm (n:=5) d hp om t (λo W1 d=>?_) (λo W1 d=>?_)
 rotate_left
 ·rw[auP o] at f;simp only[CJ,C0,Df,bO,show ai ((4:Int)≠0)=av from rfl,i_t];exact E 4 0 d rfl f.symm dc
 rw[auO om] at f;simp only[CJ,C0,Df,bO,show ai ((0:Int)≠0)=au from rfl,i_f];have a1:=Fl.iG s p 5;generalize Fl.num s p 5=g at f a1
 try simp only[rs]
 by_cases G:29 < g
 ·rw[auP G] at f;simp only[show ai ((29:Int) < (g:Int))=av from auR om,i_t];exact E 3 0 d rfl f.symm dc
 rw[auO G] at f;simp only[show ai ((29:Int) < (g:Int))=au from auQ om,i_f];refine Cm (p:=p+5) (n:=5) d o om t (λI W2 d=>?_) (λI W2 d=>?_)
 rotate_left
 ·rw[auP om] at f;simp only[CJ,C0,Df,bO,show ai ((4:Int)≠0)=av from rfl,i_t];exact E 4 0 d rfl f.symm dc
 rw[auO om] at f;simp only[CJ,C0,Df,bO,show ai ((0:Int)≠0)=au from rfl,i_f];have a6:=Fl.iG s (p+5) 5;generalize Fl.num s (p+5) 5=C at f a6
 try simp only[rs]
 by_cases J:29 < C
 ·rw[auP J] at f;simp only[show ai ((29:Int) < (C:Int))=av from auR om,i_t];exact E 3 0 d rfl f.symm dc
 rw[auO J] at f;simp only[show ai ((29:Int) < (C:Int))=au from auQ om,i_f];refine Cm (p:=p+5+5) (n:=4) d I om t (λe5 W3 d=>?_) (λe5 W3 d=>?_)
 rotate_left
 ·rw[auP om] at f;simp only[CJ,C0,Df,bO,show ai ((4:Int)≠0)=av from rfl,i_t];exact E 4 0 d rfl f.symm dc
 rw[auO om] at f;simp only[CJ,C0,Df,bO,show ai ((0:Int)≠0)=au from rfl,i_f];have a7:=Fl.iG s (p+10) 4;rw[show Fl.num s (p+5+5) 4=Fl.num s (p+10) 4 from rfl,show p+5+5+4=p+14 from rfl];generalize Fl.num s (p+10) 4=z at f a7;refine bB (λb=>cW b 0 19 19) (aT db) 3 (λ_=>by kernel_rfl) d λO W4 d=>?_;refine zI (n:=19) om d λlb W5 d=>?_;have a8:List.replicate 19 (Value.int .i64 0)=aT (et s (p+14) 0):=rfl;rw[a8] at d;refine loop (λvs W=>∃i:Nat,vs=[ad ((p+14+3*i:Nat):Int),ad (i:Int)]∧i<=z+4∧p+14+3*i<=8*s.length∧dQ M.A w W [.cells lb (aT (et s (p+14) i)) 3,.cells O (aT db) 3,.mem M]) (λvs _=>z+4 - n1 vs) ⟨0,rfl,om,om,d⟩ ?_;clear d;rintro vs w5 ⟨i,rfl,hi,Q,d⟩ _;simp only[jL,gd,rs,nz];rw[aA om om];by_cases R:(i:Int) < (z:Int)+4
 ·simp only[R,auS,i_t];have j:i < 19:=om
  refine Cm (n:=3) d Q om t (λe6 W6 d=>?_) (λe6 W6 d=>?_)
  rotate_left
  ·rw[auP om] at f;simp only[CJ,C0,Df,bO,show ai ((4:Int)≠0)=av from rfl,i_t];exact E 4 2 d rfl f.symm dc
  simp only[CJ,C0,Df,bO,show ai ((0:Int)≠0)=au from rfl,i_f];have S:=ti j;have D:db.length=19:=rfl;obtain⟨b2,off,r1,r2⟩:=eG (l:=db) (v:=cW O 0 19 19) (d.sl 1 rfl 1 19 19 rfl) (i:=i) (by rw[D];exact j);refine aC (r1 W6) |>.mpr (aC (aB aW r2) |>.mpr ?_);have b0:db[i]'(by rw[D];exact j)=db.getD i 0:=by rw[auZ,auX (by rw[D];exact j)];rfl
  rw[b0];have U:=cR (P:=ah) (T:=59) (b:=lb) (off:=0) (cap:=19) (n:=19) (k:=.i64) (i:=((db.getD i 0:Nat):Int)) (w:=W6) avJ szI1 om om;rw[auW,avQ,avC] at U;refine aC U |>.mpr ?_;refine aK 0 d rfl krx rfl (by rw[dZ,ml];exact S) λw7 d=>?_
  try simp only[rs]
  rw[aA om om];refine aU ⟨i+1,rfl,om,om,?_⟩ (by simp[n1,RowKit.intOf];omega);rw[et,QU];exact d
 simp only[R,auT,i_f];have b1:i=z+4:=om
 subst b1;rw[auO om] at f;have B:=ml s (p+14) (z+4);have V:=qc s (p+14) (z+4);generalize et s (p+14) (z+4)=cl at f B V d;have b3:=d.at_ 0 rfl;obtain⟨N1,g1,b4,Y,d⟩:=dQ.freeze (L:=[.cells O (aT db) 3,.mem M]) d 1 rfl;have d:dQ M.A w w5 [.cells O (aT db) 3,.mem N1]:=d;have u:SlA N1.A N1.w (cW lb 0 19 19) 1 cl.length (aT cl):=by
  rw[b4,B];refine⟨Sl.cells b3 1 19 19 (by rw[dZ,B]),λq l c e _=>?_,λa l c e=>?_⟩
  ·injection e with o G I
   cases o;exact Y lb rfl
  ·injection e with o G I
   omega
 have Z:∀l∈cl,l<=15:=λl h=>by have:=V l h;omega
 refine aY d 1 rfl (Dy cl _ N1 w5 Z om (d.hasM 1 rfl) u) ?_;rintro _ N2 w6 g2 rfl d;have g12:=g1.trans g2;simp only[bO];by_cases y:bh cl=0
 case neg=>
  rw[auP y] at f;subst f;simp only[auR (show bh cl≠0 from y),i_t];exact H _ _ N2 _ 1 d rfl g12 (.inl ⟨y,rfl⟩)
 rw[auO (by simp[y])] at f;simp only[auQ (show ¬bh cl≠0 by simp[y]),i_f,rs];rw[aA (n:=(g:Int)+257) om om,aA (n:=(g:Int)+257+(C:Int)) om om,aA om om,show (g:Int)+257+(C:Int)+1=((g+257+(C+1):Nat):Int) by omega];refine aY d 1 rfl (VZ cl _ s (p+14+3*(z+4)) (g+257+(C+1)) N2 w6 B Z Q t om (d.hasM 1 rfl) (u.le g2)) ?_;intro v N3 w7 g3 hv d;have g13:=g12.trans g3;generalize Fl.lens cl s (g+257+(C+1)) (p+14+3*(z+4))=r at f hv;obtain⟨l,q,e⟩:=r;dsimp only at f hv;rcases hv with ⟨o,rfl⟩|⟨o,G,I,J,lv,rfl,m⟩
 ·rw[auP o] at f;subst f;simp only[JX,JW,Kw,bO,auR o,i_t];exact H _ _ N3 _ 1 d rfl g13 (.inl ⟨o,rfl⟩)
 rw[auO (by rw[o];decide)] at f;simp only[JX,JW,Kw,bO,show ai ((0:Int)≠0)=au from rfl,i_f];obtain⟨la,lc,b5,b6⟩:=m.form;rw[b5] at m ⊢;refine dR (λW=>dQ M.A w W [.cells O (aT db) 3,.mem N3]) d.drew ?_;refine iR ?_;rw[aA om om];refine eZ _ (λ_=>iY avJ szI1 om om) (iR ?_);rw[aA om om];refine eZ _ (λ_=>cZ avJ szI1 om om) ?_;intro w8 d;rw[show ((g:Int)+257).toNat=g+257 by omega];subst f;refine H _ _ N3 _ 1 d rfl g13 (.inr ⟨rfl,G,by dsimp only;rw[avA];omega,by dsimp only;rw[avA];omega,by dsimp only;rw[avF];omega,λx F=>J x (axF F),λx F=>J x (ayR F),_,_,rfl,?_,?_⟩)
 ·have:=m.UD (i:=g+257) om om;dsimp only;rw[avA,awB om];rw[avQ] at this;have e:aT (l.take (g+257))=(aT l).take (g+257):=by unfold aT;rw[azR]
  rw[e];exact this
 ·have:=m.WO (i:=g+257) om;dsimp only;rw[avF];rw[avQ] at this;have e:aT (l.drop (g+257))=(aT l).drop (g+257):=by unfold aT;rw[List.map_drop]
  rw[e];exact this
section
variable {w:ao}{PK:PKT}{K:VWP}{S:Nat->Prop}{w0:ao}{L:List Ent}
theorem amY {a b:aq}{e:Int}:DoX ah (zt (r11L a b p e) 0) w PK K=K a w:=gT rfl
theorem amW {a b:aq}{e:Int}:DoX ah (zt (r11L a b p e) 1) w PK K=K b w:=gT rfl
theorem amF {a b:aq}{e:Int}:DoX ah (zt (r11L a b p e) 2) w PK K=K (ad (p:Int)) w:=gT rfl
theorem amD {a b:aq}{e:Int}:DoX ah (zt (r11L a b p e) 3) w PK K=K (ad e) w:=gT rfl
theorem Ug {ov vn H:aq}{s:List UInt8}{out:List UInt8}{far:List Nat}(jm:Nat)(a:dQ S w0 w (iS ov out::R))(hm:R[jm]?=ax (.mem M))(N:SlA M.A M.w vn 1 near.length (aT near))(O:SlA M.A M.w H 1 far.length (aT far))(t:∀l∈near,l<=15)(y:∀l∈far,l<=15)(z:near.length<=1000)(P:far.length<=1000)(hp:p<=8*s.length)(I:s.length<=1000000000)(B:most<=1000000000)(h:out.length<=most)
  (D:(dt near far s most p out).2.2=0->(dt near far s most p out).2.1<=8*s.length->(dt near far s most p out).1.length<=most->∀c W,dQ S w0 W (iS c (dt near far s most p out).1::R)->K (D2 c (dt near far s most p out).2.1 0) W)
  (E:(dt near far s most p out).2.2≠0->∀W,dQ S w0 W R->K (D2 dY 0 (dt near far s most p out).2.2) W) :
  eN ah 207 #[ae s,ad (p:Int),vn,H,ov,ad (most:Int)] w PK K:=by
 generalize b:dt near far s most p out=X at D E;refine eR (zR (k0:=zy λv W=>(X.2.2=0∧X.2.1<=8*s.length∧X.1.length<=most∧∃c,v=D2 c X.2.1 0∧dQ S w0 W (iS c X.1::R))∨(X.2.2≠0∧v=D2 dY 0 X.2.2∧dQ S w0 W R)) ?_) (λe W ⟨v,he,Q⟩=>by
  subst he;rcases Q with ⟨F,U,j,c,rfl,a⟩|⟨F,rfl,a⟩
  ·exact D F U j c W a
  ·exact E F W a)
 clear D E;unfold pR nz;refine loop (λvs W=>∃(p:Nat) (ov:aq) (out:List UInt8),vs=[ad (p:Int),ov]∧p<=8*s.length∧out.length<=most∧(∃f,8*s.length+1 - p<=f∧iy near far s most f p out=X)∧dQ S w0 W (iS ov out::R)) (λvs _=>8*s.length+1 - n0 vs) ⟨p,ov,out,rfl,hp,h,⟨_,auY _,b⟩,a⟩ ?_;clear a b hp h;rintro vs V ⟨p,ov,out,rfl,hp,h,⟨f,Y,b⟩,a⟩ _;simp only[mC,gd,nz];obtain⟨f,rfl⟩:∃f',f=f'+1:=⟨f - 1,om⟩;rw[iy] at b;dsimp only at b;refine aI a (Wy (KX near vn s p M V t z hp I (a.hasM (jm+1) hm) N)) ?_;rintro _ w3 ⟨g,q,rfl,m,n⟩ a;have d:=@mj near s p;have hle:=@sd near s p;generalize bw near s p=T at b n d hle;obtain⟨g',q',e⟩:=T;dsimp only at b n d hle;simp only[CJ,C0,Df,bO];by_cases j:e=0
 case neg=>
  rw[auP j] at b;subst b;simp only[auR (show e≠0 from j),i_t];exact xB (.inr ⟨j,rfl,a.tail⟩)
 obtain⟨rfl,rfl⟩:=n j;have d:=d j;rw[auO (by rw[j];decide)] at b;simp only[auQ (show ¬e≠0 by rw[j];decide),i_f,rs];by_cases k:g=256
 ·rw[auO om,auP k] at b;simp only[show ai ((g:Int)=256)=av from auR om,i_t];subst b;exact xB (.inl ⟨rfl,m,h,ov,rfl,a⟩)
 simp only[show ai ((g:Int)=256)=au from auQ om,i_f,rs];by_cases u:g < 256
 ·rw[auP u] at b;simp only[show ai ((256:Int) < (g:Int))=au from auQ om,i_f];rw[aS avE (dO (a.at_ 0 rfl))]
  try simp only[rs]
  by_cases J:most < out.length+1
  ·rw[auP J] at b;simp only[show ai ((most:Int)<=(out.length:Int))=av from auR om,i_t];subst b;exact xB (.inr ⟨by (first|decide|(dsimp only;decide)),rfl,a.tail⟩)
  rw[auO J] at b;simp only[show ai ((most:Int)<=(out.length:Int))=au from auQ om,i_f];refine aC (cU8 om) |>.mpr ?_;refine Nc _ a λb8 w8 a=>?_;refine bN 1 avE G8 dc a rfl (gX (a.at_ 0 rfl) dc rfl) bU om om λv' w9 a=>?_;refine aU ⟨q,v',_,rfl,m,by rw[auU,awX];omega,⟨f,om,b⟩,?_⟩ (by simp[n0,RowKit.intOf];omega);rw[eJ];exact a.tail
 rw[auO u,auO k] at b;simp only[show ai ((256:Int) < (g:Int))=av from auR om,i_t];obtain⟨i,rfl⟩:∃i,g=257+i:=⟨g - 257,om⟩;have o:=@po far s q (257+i) most out;refine XQ jm a hm O y P m I B h om (λr L x G Z a=>?_) (λr Z a=>?_)
 rotate_left
 ·rw[auP r] at b;subst b;simp only[JX,JW,Kw,bO,auR r,i_t];exact xB (.inr ⟨r,rfl,a⟩)
 rw[auO (by rw[r];decide)] at b;have o:=o r;generalize bs far s q (257+i) out most=C at b a o L x;simp only[JX,JW,Kw,bO,show ai ((0:Int)≠0)=au from rfl,i_f];exact aU ⟨C.2.1,G,C.1,rfl,L,x,⟨f,om,b⟩,a⟩ (by simp[n0,RowKit.intOf];omega)
end
section
variable {w:ao}{PK:PKT}{K:VWP}{S:Nat->Prop}{w0:ao}{L:List Ent}
theorem adF {ov:aq}{s:List UInt8}{out:List UInt8}{T:List Ent}(c:dQ S w0 w (iS ov out::.mem M::T))(hp:p+2<=8*s.length)(z:s.length<=1000000000)(n:most<=1000000000)(o:out.length<=most)
  (E:(bu s most p out).2.2=0->(bu s most p out).2.1<=8*s.length->(bu s most p out).1.length<=most->∀N f W,M.le N->dQ S w0 W (iS f (bu s most p out).1::.mem N::T)->K (D2 f (bu s most p out).2.1 0) W)
  (F:(bu s most p out).2.2≠0->∀N W,M.le N->dQ S w0 W (.mem N::T)->K (D2 dY 0 (bu s most p out).2.2) W) :
  eN ah 172 #[ae s,ad ((p+2:Nat):Int),ad (Fl.num s p 2:Int),ov,ad (most:Int)] w PK K:=by
 generalize d:bu s most p out=X at E F;refine eR (zZ (k0:=zy λv W=>(X.2.2=0∧X.2.1<=8*s.length∧X.1.length<=most∧∃N f,M.le N∧v=D2 f X.2.1 0∧dQ S w0 W (iS f X.1::.mem N::T))∨(X.2.2≠0∧∃N,M.le N∧v=D2 dY 0 X.2.2∧dQ S w0 W (.mem N::T))) ?_) (λe W ⟨v,he,u⟩=>by
  subst he;rcases u with ⟨t,G,O,N,f,hle,rfl,c⟩|⟨t,N,hle,rfl,c⟩
  ·exact E t G O N f W hle c
  ·exact F t N W hle c)
 clear E F;unfold bu at d;rw[auO om] at d;have H:=Fl.iG s p 2;have V:(2:Nat) ^ 2=4:=dc
 generalize Fl.num s p 2=k at d H;unfold qP nz
 try simp only[rs]
 by_cases O:k=3
 ·rw[auO om,auO om,auO om] at d;simp only[show ai ((k:Int)=3)=av from auR om,i_t];subst d;exact xB (.inr ⟨by (first|decide|(dsimp only;decide)),M,M.le_refl,rfl,c.tail⟩)
 simp only[show ai ((k:Int)=3)=au from auQ om,i_f,rs];by_cases P:k=0
 ·rw[auP P] at d;simp only[show ai ((k:Int)=0)=av from auR om,i_t];refine Zk c hp z n o (λg j l f W c=>?_) (λg W c=>?_)
  ·rw[d] at g j l c ⊢;simp only[JX,JW,Kw];exact xB (.inl ⟨g,j,l,M,f,M.le_refl,rfl,c⟩)
  ·rw[d] at g ⊢;simp only[JX,JW,Kw];exact xB (.inr ⟨g,M,M.le_refl,rfl,c⟩)
 simp only[show ai ((k:Int)=0)=au from auQ om,i_f];rw[auO P] at d;refine aY c 1 rfl (Wo M w (c.hasM 1 rfl)) ?_;rintro _ A Q g1 ⟨a,b,rfl,Y,Z⟩ c;have c:dQ S w0 Q (iS ov out::.mem A::T):=c;simp only[ex];refine join λJ R=>?_
 try simp only[rs]
 by_cases t:k=1
 ·rw[auP t] at d;simp only[show ai ((k:Int)=2)=au from auQ om,i_f];refine R _ _ λ_=>?_;simp only[fJ,gd,nz];refine Ug 0 c rfl Y Z tg th (by rw[lr];omega) (by rw[lu];omega) hp z n o (λg j l f W c=>?_) (λg W c=>?_)
  ·rw[d] at g j l c ⊢;simp only[JX,JW,Kw];exact xB (.inl ⟨g,j,l,A,f,g1,rfl,c⟩)
  ·rw[d] at g ⊢;simp only[JX,JW,Kw];exact xB (.inr ⟨g,A,g1,rfl,c⟩)
 have G:k=2:=om
 rw[auO t,auP G,vq] at d;simp only[show ai ((k:Int)=2)=av from auR om,i_t];refine aY c 1 rfl (Qh s (p+2) A Q hp z (c.hasM 1 rfl)) ?_;intro v B w2 g2 u c;have c:dQ S w0 w2 (iS ov out::.mem B::T):=c;have g12:=g1.trans g2;generalize cd s (p+2)=D at d u;obtain⟨near,far,q,e⟩:=D;dsimp only at d u;rcases u with ⟨g,rfl⟩|⟨g,j,l,e4,e5,x,f15,va,vb,rfl,r,y⟩
 ·rw[auP g] at d;subst d;simp only[amY,amW,amF,amD,bO,auR g,i_t];exact xB (.inr ⟨g,B,g12,rfl,c.tail⟩)
 rw[auO (by rw[g];decide)] at d;simp only[amY,amW,amF,amD,bO,show ai ((0:Int)≠0)=au from rfl,i_f];have m:256 < near.length:=om
 obtain⟨b6,off,r1,r2⟩:=eG (r.now (c.hasM 1 rfl)) m;refine aC (r1 w2) |>.mpr (aC (aB aW r2) |>.mpr ?_);have I:near.getD 256 0=near[256]:=by rw[auZ,auX m];rfl
 rw[I] at d
 try simp only[rs]
 by_cases U:near[256]=0
 ·rw[auP U] at d;simp only[show ai (((near[256]:Nat):Int)=0)=av from auR om,i_t];subst d;exact xB (.inr ⟨by (first|decide|(dsimp only;decide)),B,g12,rfl,c.tail⟩)
 rw[auO U] at d;simp only[show ai (((near[256]:Nat):Int)=0)=au from auQ om,i_f];refine aY c 1 rfl (Dy near va B w2 x om (c.hasM 1 rfl) r) ?_;rintro _ L w3 g3 rfl c;have c:dQ S w0 w3 (iS ov out::.mem L::T):=c;have g13:=g12.trans g3;simp only[bO];by_cases i:bh near=0
 case neg=>
  rw[auP i] at d;subst d;simp only[auR (show bh near≠0 from i),i_t];exact xB (.inr ⟨i,L,g13,rfl,c.tail⟩)
 rw[auO (by simp[i])] at d;simp only[auQ (show ¬bh near≠0 by simp[i]),i_f];refine aY c 1 rfl (Dy far vb L w3 f15 om (c.hasM 1 rfl) (y.le g3)) ?_;rintro _ C w4 g4 rfl c;have c:dQ S w0 w4 (iS ov out::.mem C::T):=c;have g14:=g13.trans g4;simp only[bO];by_cases h:bh far=0
 case neg=>
  rw[auP h] at d;subst d;simp only[auR (show bh far≠0 from h),i_t];exact xB (.inr ⟨h,C,g14,rfl,c.tail⟩)
 rw[auO (by simp[h])] at d;simp only[auQ (show ¬bh far≠0 by simp[h]),i_f];refine R _ _ λ_=>?_;simp only[fJ,gd,nz];refine Ug 0 c rfl (r.le (g3.trans g4)) (y.le (g3.trans g4)) x f15 e4 e5 j z n o (λg j l f W c=>?_) (λg W c=>?_)
 ·rw[d] at g j l c ⊢;simp only[JX,JW,Kw];exact xB (.inl ⟨g,j,l,C,f,g14,rfl,c⟩)
 ·rw[d] at g ⊢;simp only[JX,JW,Kw];exact xB (.inr ⟨g,C,g14,rfl,c⟩)
end
theorem Vx (s:List UInt8)(most:Int)(M:Mem)(w:ao)(j:s.length<=1000000000)(q:M.has w) :
  lA ah 132 #[ae s,ad most] M w (λv _=>v=flT (fy s most)∧(fy s most).2.1<=s.length∧(fy s most).1.length<=1048576):=by
 refine aO q λK g=>B1 ?_;generalize a:fy s most=X at g;unfold fy at a;unfold tY nz;have b:dQ M.A w w [.mem M]:=dQ.memS q
 try simp only[rs]
 by_cases d:most < 0
 ·rw[auP d] at a;simp only[d,auS,i_t];exact g _ _ M _ 0 b rfl M.le_refl ⟨by rw[<-a];rfl,by rw[<-a];dsimp only;omega,by rw[<-a];dsimp only;simp<;>omega⟩
 rw[auO d] at a;simp only[d,auT,i_f];rw[Vi,show min most 1048576=((min most.toNat 1048576:Nat):Int) by omega];have k:min most.toNat 1048576<=1048576:=azQ _ _;generalize min most.toNat 1048576=h at a k;have b:=dQ.nilU b 5 1;have b:dQ M.A w w (iS dY []::.mem M::[]):=b;refine loop (λvs W=>∃(p:Nat) (ov:aq) (out:List UInt8) (N:Mem),vs=[ov,ad (p:Int)]∧p<=8*s.length∧out.length<=h∧M.le N∧(∃f,8*s.length+1 - p<=f∧jv s h f p out=X)∧dQ M.A w W (iS ov out::.mem N::[])) (λvs _=>8*s.length+1 - n1 vs) ⟨0,dY,[],M,rfl,om,sm,M.le_refl,⟨_,om,a⟩,b⟩ ?_;clear b a;rintro vs D ⟨p,ov,out,N,rfl,hp,l,hle,⟨f,E,a⟩,b⟩ _;simp only[qW,gd,nz];obtain⟨f,rfl⟩:∃f',f=f'+1:=⟨f - 1,om⟩;rw[jv] at a;dsimp only at a;refine Cm (n:=1) b hp om j (λm y b=>?_) (λm y b=>?_)
 rotate_left
 ·rw[auP m] at a;simp only[CJ,C0,Df,bO,show ai ((4:Int)≠0)=av from rfl,i_t];exact g _ _ N _ 1 b rfl hle ⟨by rw[<-a];rfl,by rw[<-a];dsimp only;omega,by rw[<-a];dsimp only;simp<;>omega⟩
 rw[auO om] at a;simp only[CJ,C0,Df,bO,show ai ((0:Int)≠0)=au from rfl,i_f];have e:=@tj s h (p+1) out;refine Cm (p:=p+1) (n:=2) b m om j (λr z b=>?_) (λr z b=>?_)
 rotate_left
 ·have C:bu s h (p+1) out=(out,p+1,4):=by unfold bu;rw[auP om]
  rw[C,auP (by dsimp only;decide)] at a;simp only[CJ,C0,Df,bO,show ai ((4:Int)≠0)=av from rfl,i_t];exact g _ _ N _ 1 b rfl hle ⟨by rw[<-a];rfl,by rw[<-a];dsimp only;omega,by rw[<-a];dsimp only;simp<;>omega⟩
 simp only[CJ,C0,Df,bO,show ai ((0:Int)≠0)=au from rfl,i_f];refine adF b r j om l (λd t u i o W c b=>?_) (λd i W c b=>?_)
 rotate_left
 ·rw[auP d] at a;simp only[JX,JW,Kw,bO,auR d,i_t];exact g _ _ i _ 0 b rfl (hle.trans c) ⟨by rw[<-a];rfl,by rw[<-a];dsimp only;omega,by rw[<-a];dsimp only;simp<;>omega⟩
 rw[auO (by rw[d];decide)] at a;have e:=e d;generalize bu s h (p+1) out=B at a b d t u e;simp only[JX,JW,Kw,bO,show ai ((0:Int)≠0)=au from rfl,i_f,rs];by_cases x:Fl.num s p 1=1
 case neg=>
  rw[auO x] at a;simp only[show ai ((Fl.num s p 1:Int)=1)=au from auQ om,i_f];exact aU ⟨B.2.1,o,B.1,i,rfl,t,u,hle.trans c,⟨f,om,a⟩,b⟩ (by simp[n1,RowKit.intOf];omega)
 rw[auP x] at a;simp only[show ai ((Fl.num s p 1:Int)=1)=av from auR om,i_t];rw[mU avE avN auV (dO (b.at_ 0 rfl))]
 try simp only[rs]
 rw[aA om om,Ej dc,show (B.2.1:Int)+7=((B.2.1+7:Nat):Int) by omega,show ((B.2.1+7:Nat):Int).tdiv 8=(((B.2.1+7) / 8:Nat):Int) from rfl,aA om om];exact g _ _ i _ 1 b rfl (hle.trans c) ⟨by rw[<-a];rfl,by rw[<-a];dsimp only;omega,by rw[<-a];dsimp only;omega⟩
end
section
open Eng
def Gt(t1 t5 t15 t16 w)(a:JT)(K:KT):=nz f225 43 [a] [nh 7 [16]] [(5,5)] (zg [1,5,15,16] [t1,t5,t15,t16]) w K
def Mr(t0 t1 w)(K:KT):=nz f225 1 [] [(7,[16],λs v j w f=>Gt (s 1) (s 5) (s 15) (vg v 0) w (f 0) K)] [] (zg [0,1] [t0,t1]) w K
theorem MV:Mr t0 t1 w k0->Calls ah 225 #[t0,t1] w k0:=cz [] [(3,[16])] func225
def Ov(t0 w)(K:KT):=nz f198 1 [] [] [] (zg [0] [t0]) w K
theorem PD:Ov t0 w k0->Calls ah 198 #[t0] w k0:=cw func198
def Gv(t0 t1 w)(K:KT):=nz f258 1 [] [] [] (zg [0,1] [t0,t1]) w K
theorem J9:Gv t0 t1 w k0->Calls ah 258 #[t0,t1] w k0:=cw func258
def Mv(t0 w)(K:KT):=nz f197 1 [] [] [] (zg [0] [t0]) w K
theorem Nq:Mv t0 w k0->Calls ah 197 #[t0] w k0:=cw func197
def Gb(t0 w)(K:KT):=nz f199 1 [] [] [(3,8)] (zg [0] [t0]) w K
theorem JR:Gb t0 w k0->Calls ah 199 #[t0] w k0:=cw func199
def GI(t0 t1 w)(K:KT):=nz f167 1 [] [] [(10,10)] (zg [0,1] [t0,t1]) w K
theorem JU:GI t0 t1 w k0->Calls ah 167 #[t0,t1] w k0:=cw func167
def nM(t1 t5 t6 t7 w)(a:JT)(K:KT):=nz f173 43 [a] [nh 7 [5,6,7]] [] (zg [1,5,6,7] [t1,t5,t6,t7]) w K
def rN(t0 t1 w)(K:KT):=nz f173 1 [] [(7,[5,6,7],λs v j w f=>nM (s 1) (vg v 0) (vg v 1) (vg v 2) w (f 0) K)] [] (zg [0,1] [t0,t1]) w K
theorem Bu:rN t0 t1 w k0->Calls ah 173 #[t0,t1] w k0:=cz [] [(3,[5,6,7])] func173
def vH(t0 w)(K:KT):=nz f134 1 [] [] [] (zg [0] [t0]) w K
theorem CF:vH t0 w k0->Calls ah 134 #[t0] w k0:=cw func134
def sS(t0 w)(K:KT):=nz f133 1 [] [] [] (zg [0] [t0]) w K
theorem BQ:sS t0 w k0->Calls ah 133 #[t0] w k0:=cw func133
def nZ(t0 t1 w)(K:KT):=nz f92 1 [] [] [(3,28),(11,9)] (zg [0,1] [t0,t1]) w K
theorem xZ:nZ t0 t1 w k0->Calls ah 92 #[t0,t1] w k0:=cw func92
end
section
open Eng Go.RowKit
def fp (x:Nat×Nat)(c:UInt8):Nat×Nat:=((x.1+c.toNat) % 65521,(x.2+(x.1+c.toNat) % 65521) % 65521)
def eb (s:List UInt8):Nat×Nat:=s.foldl fp (1,0)
def fq (s:List UInt8):Nat:=65536*(eb s).2+(eb s).1
def bo (n:Nat):List UInt8:=[UInt8.ofNat (n / 2 ^ 24),UInt8.ofNat (n / 2 ^ 16),UInt8.ofNat (n / 2 ^ 8),UInt8.ofNat n]
def lf (a b:Nat):Bool:=ai (a % 16≠8)||decide (7 < a / 16)||decide ((256*a+b) % 31≠0)||decide (b / 32 % 2≠0)
def ft (s:List UInt8)(most:Int):List UInt8×Int:=
 if s.length < 2 then ([],4)
 else if lf (s.getD 0 0).toNat (s.getD 1 0).toNat=av then ([],3)
 else
  let r:=fy (s.drop 2) most
  if r.2.2≠0 then ([],r.2.2)
  else if s.length < 2+r.2.1+4 then ([],4)
  else if (s.drop (2+r.2.1)).take 4≠bo (fq r.1) then ([],12)
  else (r.1,0)
theorem nr (s:List UInt8):(eb s).1 < 65521∧(eb s).2 < 65521:=by
 unfold eb;have:∀(l:List UInt8) (x:Nat×Nat),x.1 < 65521∧x.2 < 65521->(l.foldl fp x).1 < 65521∧(l.foldl fp x).2 < 65521:=by
  intro l
  induction l with
 |nil=>exactλx h=>h
 |cons c l a=>exactλx h=>a _ ⟨ayE _ dc,ayE _ dc⟩
 exact this s _ ⟨dc,dc⟩
theorem tm {s:List UInt8}(h:i < s.length):eb (s.take (i+1))=fp (eb (s.take i)) s[i]:=by
 unfold eb;rw[avP h,aAK];rfl
def zlT (x:List UInt8×Int):Value:=.tuple #[ae x.1,ad x.2]
theorem B8 {n:Nat}(h:n < 4294967296):IntKind.u32.wrap (n:Int)=(n:Int):=by unfold IntKind.wrap;simp[IntKind.bits,IntKind.signed];omega
theorem D3 {n:Int}(a:0<=n)(h:n < 4294967296):IntKind.u32.wrap n=n:=by unfold IntKind.wrap;simp[IntKind.bits,IntKind.signed];omega
theorem rA (n:Nat):IntKind.u8.wrap (n:Int)=((UInt8.ofNat n).toNat:Int):=by
 unfold IntKind.wrap;simp[IntKind.bits,IntKind.signed]
theorem apI {a:Nat}(c:b < 2 ^ i):a*2 ^ i ||| b=a*2 ^ i+b:=by
 have:=aAU c a;rw[azZ a,<-this]
theorem or32 {a:Nat}(c:a < 65536)(d:b < 65536):bOr .u32 ((b*65536:Nat):Int) (a:Int)=((65536*b+a:Nat):Int):=by
 have e:b*65536 ||| a=65536*b+a:=by
  have:b*65536 ||| a=b*65536+a:=apI (i:=16) c;omega
 unfold bOr;show IntKind.wrap .u32 (((BitVec.ofInt 32 ((b*65536:Nat):Int) ||| BitVec.ofInt 32 (a:Int)).toNat:Nat):Int)=_;rw[BitVec.ofInt_natCast,BitVec.ofInt_natCast,BitVec.toNat_or,BitVec.toNat_ofNat,BitVec.toNat_ofNat,axC om,axC om,e];exact B8 om
theorem or64 {a:Nat}(d:a < 256)(c:b < 256):bOr .i64 ((a*256:Nat):Int) (b:Int)=((256*a+b:Nat):Int):=by
 have e:a*256 ||| b=256*a+b:=by
  have:a*256 ||| b=a*256+b:=apI (i:=8) c;omega
 unfold bOr;show IntKind.wrap .i64 (((BitVec.ofInt 64 ((a*256:Nat):Int) ||| BitVec.ofInt 64 (b:Int)).toNat:Nat):Int)=_;rw[BitVec.ofInt_natCast,BitVec.ofInt_natCast,BitVec.toNat_or,BitVec.toNat_ofNat,BitVec.toNat_ofNat,axC om,axC om,e];exact aA om om
theorem U8:∀n:Fin 256,IS .i64 (n.val:Int) 15=((n.val % 16:Nat):Int):=by decide +kernel
theorem Xs:∀n:Fin 256,IS .i64 (n.val:Int) 32=((n.val / 32 % 2*32:Nat):Int):=by decide +kernel
theorem Vm:∀n:Fin 256,IS .u8 (n.val:Int) 32=((n.val / 32 % 2*32:Nat):Int):=by decide +kernel
theorem amS {n:Nat}(h:n < 256):IS .i64 (n:Int) 15=((n % 16:Nat):Int):=U8 ⟨n,h⟩
theorem atV {n:Nat}(h:n < 256):IS .i64 (n:Int) 32=((n / 32 % 2*32:Nat):Int):=Xs ⟨n,h⟩
theorem anP {n:Nat}(h:n < 256):IS .u8 (n:Int) 32=((n / 32 % 2*32:Nat):Int):=Vm ⟨n,h⟩
def suC (a b:Nat):List Value:=[.int .u32 (a:Int),.int .u32 (b:Int)]
def suV (a b:Nat):Value:=.agg (suC a b).toArray
abbrev suE (c a b:Nat):Ent:=.cells c (suC a b) 292
theorem Sc {a:Nat}:∀u∈suC a b,u.oneCell'=true:=by
 intro u hu;simp only[suC,avB,awS,or_false] at hu;rcases hu with rfl|rfl<;>rfl
theorem ahM:By ah 292=ax 2:=krx
theorem szSu:(Tryz.prog.info? 292).map (·.size)=ax 2:=krx
theorem TL:uM ah 292 0=ax 0:=krx
theorem XF:uM ah 292 1=ax 1:=krx
theorem nU32:dP ah 163=true:=krx
theorem agS (a b:Nat)(c:UInt8)(w:ao)(j:a < 65521)(k:b < 65521):Ret ah 258 #[suV a b,.int .u8 (c.toNat:Int)] w (λv w'=>v=suV (fp (a,b) c).1 (fp (a,b) c).2∧Below w.heap.size w w'):=by
 refine aL λK g=>J9 ?_;unfold Gv nz;have l:=awQ c;refine bB (λb=>af b 0) (suC a b) 292 (λ_=>by kernel_rfl) (Own.start w) λb2 m e=>?_;refine bB (λb=>af b 0) (suC 0 0) 292 (λ_=>by kernel_rfl) e λf w2 e=>?_;rw[aQ TL,aH nU32 (e.cell 1 rfl 0 rfl)];refine aC (aZ krx aAM) |>.mpr ?_;rw[B8 om,FL,D3 om om,show (a:Int)+(c.toNat:Int)=((a+c.toNat:Nat):Int) by push_cast;rfl,Ep dc,show (((a+c.toNat:Nat):Int)).tmod 65521=(((a+c.toNat) % 65521:Nat):Int) from rfl,aQ TL];refine aK 1 e rfl krx rfl (by show 0+0 < 2;omega) λw3 e=>?_;have hm:=ayE (a+c.toNat) (show 65521>0 by decide);have e:dQ NoB w w3 [suE f 0 0,suE b2 ((a+c.toNat) % 65521) b]:=e;generalize h:(a+c.toNat) % 65521=d at e hm;rw[aQ XF,aH nU32 (e.cell 1 rfl 1 rfl),aQ TL,aH nU32 (e.cell 1 rfl 0 rfl),FL,D3 om om,show (b:Int)+(d:Int)=((b+d:Nat):Int) by push_cast;rfl,Ep dc,show (((b+d:Nat):Int)).tmod 65521=(((b+d) % 65521:Nat):Int) from rfl,aQ XF];refine aK 1 e rfl krx rfl (by show 0+1 < 2;omega) λi e=>?_;have e:dQ NoB w i [suE f 0 0,suE b2 d ((b+d) % 65521)]:=e;rw[AT (e.agg 1 rfl ahM)];refine gF 0 e rfl (new:=suC d ((b+d) % 65521)) szSu Sc rfl λn e=>?_;refine gC (bG (e.agg 0 rfl ahM)) (g _ _ ⟨?_,e.done⟩);unfold fp suV;dsimp only;rw[h]
theorem UH (s:List UInt8)(w:ao)(q:s.length<=1000000000):Ret ah 198 #[ae s] w (λv w'=>v=.int .u32 (fq s:Int)∧Below w.heap.size w w'):=by
 refine aL λK l=>PD ?_;unfold Ov nz;have more:Ret ah 225 #[.int .u32 1,ae s] w (λv w'=>v=.int .u32 (fq s:Int)∧Below w.heap.size w w'):=by
  refine aL λK l=>MV ?_;unfold Mr nz;rw[Y4,show IS .u32 1 65535=1 by decide +kernel,Ep dc,show (1:Int).tmod 65521=((1:Nat):Int) from rfl,F2 dc,show (1:Int).fdiv (2 ^ (min (16:Int).toNat IntKind.u32.bits))=0 by decide +kernel,Ep dc,show (0:Int).tmod 65521=((0:Nat):Int) from rfl];refine aC (show (aN 292 #[(0,.int .u32 ((1:Nat):Int)),(1,.int .u32 ((0:Nat):Int))]).run ah w=.ok (.value (suV 1 0)) w by kernel_rfl) |>.mpr ?_;refine bB (λb=>af b 0) (suC 0 0) 292 (λ_=>by kernel_rfl) (Own.start w) λn r d=>?_;refine gF 0 d rfl (new:=suC 1 0) szSu Sc rfl λw2 d=>?_;rw[dE auV];refine loop (λvs W=>∃i:Nat,vs=[ad (i:Int)]∧i<=s.length∧dQ NoB w W [suE n (eb (s.take i)).1 (eb (s.take i)).2]) (λvs _=>s.length - n0 vs) ⟨0,rfl,om,d⟩ ?_;clear d;rintro vs w3 ⟨i,rfl,hi,d⟩ _;simp only[Gt,gd,rs,nz];by_cases g:(i:Int) < (s.length:Int)
  ·simp only[g,auS,i_t];have j:i < s.length:=om
   obtain⟨e,f⟩:=nr (s.take i);have k:=tm j;generalize eb (s.take i)=x at d e f k;obtain⟨a,b⟩:=x;refine dR (λW=>dQ NoB w W [suE n a b]) d.drew ?_;refine kE (suV a b) (λW h=>bC (h.agg 0 rfl ahM)) (q_ix (c:=s[i]) auV om (by rw[auW];exact auX j) ?_);refine fC (suV (fp (a,b) s[i]).1 (fp (a,b) s[i]).2) (λW h=>(agS a b s[i] W e f).mono λv w' ⟨o,p⟩=>⟨o,h.grow p⟩) ?_;intro t d;refine gF 0 d rfl (new:=suC (fp (a,b) s[i]).1 (fp (a,b) s[i]).2) szSu Sc rfl λu d=>?_
   try simp only[rs]
   rw[aA om om];refine aU ⟨i+1,rfl,om,?_⟩ (by simp[n0,RowKit.intOf];omega);rw[k];exact d
  ·simp only[g,auT,i_f];have:i=s.length:=om
   subst this;rw[awI] at d;obtain⟨e,f⟩:=nr s;have m:fq s=65536*(eb s).2+(eb s).1:=rfl;generalize eb s=x at d e f m;obtain⟨a,b⟩:=x;dsimp only at e f m;rw[aQ XF,aH nU32 (d.cell 0 rfl 1 rfl),Bi dc,show min (16:Int).toNat IntKind.u32.bits=16 from rfl,show (b:Int)*2 ^ 16=((b*65536:Nat):Int) by omega,B8 om,aQ TL,aH nU32 (d.cell 0 rfl 0 rfl),b_or,or32 om om,<-m];exact l _ _ ⟨rfl,d.done⟩
 refine Dv more λv w' ⟨e,f⟩=>?_;exact l _ _ ⟨e,f⟩
theorem VH (s:List UInt8)(w:ao)(o:s.length<=1000000000):Ret ah 134 #[ae s] w (λv w'=>v=.int .u32 (fq s:Int)∧Below w.heap.size w w'):=by
 refine aL λK k=>CF ?_;unfold vH nz;have more:Ret ah 173 #[.int .u32 1,ae s] w (λv w'=>v=.int .u32 (fq s:Int)∧Below w.heap.size w w'):=by
  refine aL λK k=>Bu ?_;unfold rN nz;rw[Ep dc,show (1:Int).tmod 65536=1 from rfl,Ep dc,show (1:Int).tmod 65521=((1:Nat):Int) from rfl,Ej dc,show IntKind.u32.wrap ((1:Int).tdiv 65536)=0 by decide +kernel,Ep dc,show (0:Int).tmod 65521=((0:Nat):Int) from rfl];refine loop (λvs W=>∃i:Nat,vs=[.int .u32 ((eb (s.take i)).1:Int),.int .u32 ((eb (s.take i)).2:Int),ad (i:Int)]∧i<=s.length∧w=W) (λvs _=>s.length - n2 vs) ⟨0,rfl,om,rfl⟩ ?_;rintro vs _ ⟨i,rfl,hi,rfl⟩ _;simp only[nM,gd,nz];rw[dE auV]
  try simp only[rs]
  by_cases g:(i:Int) < (s.length:Int)
  ·simp only[g,auS,i_t];have h:i < s.length:=om
   obtain⟨e,f⟩:=nr (s.take i);have j:=tm h;generalize eb (s.take i)=x at e f j;obtain⟨a,b⟩:=x;dsimp only at e f ⊢;have p:=awQ s[i];rw[H4 (c:=s[i]) auV om (by rw[auW];exact auX h)];refine aC (aZ krx aAM) |>.mpr ?_;rw[B8 om,FL,D3 om om,show (a:Int)+(s[i].toNat:Int)=((a+s[i].toNat:Nat):Int) by push_cast;rfl,Ep dc,show (((a+s[i].toNat:Nat):Int)).tmod 65521=(((a+s[i].toNat) % 65521:Nat):Int) from rfl];have hm:=ayE (a+s[i].toNat) (show 65521>0 by decide);generalize m:(a+s[i].toNat) % 65521=d at hm;rw[FL,D3 om om,show (b:Int)+(d:Int)=((b+d:Nat):Int) by push_cast;rfl,Ep dc,show (((b+d:Nat):Int)).tmod 65521=(((b+d) % 65521:Nat):Int) from rfl]
   try simp only[rs]
   rw[aA om om];refine aU ⟨i+1,?_,om,rfl⟩ (by simp[n2,RowKit.intOf];omega);rw[j];unfold fp;dsimp only;rw[m];rfl
  ·simp only[g,auT,i_f];have:i=s.length:=om
   subst this;rw[awI];obtain⟨e,f⟩:=nr s;have l:fq s=65536*(eb s).2+(eb s).1:=rfl;generalize eb s=x at e f l;obtain⟨a,b⟩:=x;dsimp only at e f l ⊢
   try simp only[rs]
   rw[D3 (n:=65536*(b:Int)) om om,D3 om om,show 65536*(b:Int)+(a:Int)=((65536*b+a:Nat):Int) by omega,<-l];exact k _ _ ⟨rfl,Below.refl _ _⟩
 refine Dv more λv w' ⟨e,f⟩=>?_;exact k _ _ ⟨e,f⟩
theorem shrU {n k:Nat}(a:k<=32):((n:Nat):Int).fdiv (2 ^ (min ((k:Nat):Int).toNat IntKind.u32.bits))=((n / 2 ^ k:Nat):Int):=by
 rw[show min ((k:Nat):Int).toNat IntKind.u32.bits=k by show min ((k:Nat):Int).toNat 32=k;omega,Sd]
theorem Rs (n:Nat)(w:ao):Ret ah 197 #[.int .u32 (n:Int)] w (λv w'=>v=ae (bo n)∧Below w.heap.size w w'):=by
 refine aL λK c=>Nq ?_;unfold Mv nz;rw[F2 dc,show (24:Int)=((24:Nat):Int) from rfl,shrU dc];refine aC (aZ krx avN) |>.mpr ?_;rw[rA,F2 dc,show (16:Int)=((16:Nat):Int) from rfl,shrU dc];refine aC (aZ krx avN) |>.mpr ?_;rw[rA,F2 dc,show (8:Int)=((8:Nat):Int) from rfl,shrU dc];refine aC (aZ krx avN) |>.mpr ?_;rw[rA];refine aC (aZ krx avN) |>.mpr ?_;rw[rA];refine bB (λb=>cW b 0 4 4) (aM (bo n)) 5 (λ_=>by kernel_rfl) (Own.start w) λb2 d a=>?_;rw[mU (l:=bo n) avE avN auV (a.sl 0 rfl 1 4 4 rfl)];exact c _ _ ⟨rfl,a.done⟩
theorem Tm (n:Nat)(w:ao):Ret ah 133 #[.int .u32 (n:Int)] w (λv w'=>v=ae (bo n)∧Below w.heap.size w w'):=by
 refine aL λK c=>BQ ?_;unfold sS nz;rw[F2 dc,show (24:Int)=((24:Nat):Int) from rfl,shrU dc];refine aC (aZ krx avN) |>.mpr ?_;rw[rA,F2 dc,show (16:Int)=((16:Nat):Int) from rfl,shrU dc];refine aC (aZ krx avN) |>.mpr ?_;rw[rA,F2 dc,show (8:Int)=((8:Nat):Int) from rfl,shrU dc];refine aC (aZ krx avN) |>.mpr ?_;rw[rA];refine aC (aZ krx avN) |>.mpr ?_;rw[rA];refine bB (λb=>cW b 0 4 4) (aM (bo n)) 5 (λ_=>by kernel_rfl) (Own.start w) λb2 d a=>?_;rw[mU (l:=bo n) avE avN auV (a.sl 0 rfl 1 4 4 rfl)];exact c _ _ ⟨rfl,a.done⟩
theorem get0 {s:List UInt8}(h:i < s.length):s[i]?=ax (s.getD i 0):=by
 rw[auZ,auX h];rfl
theorem RF (s:List UInt8)(w:ao)(l:s.length<=1000000000):Ret ah 199 #[ae s] w (λv w'=>v=ad (if s.length < 2 then 4 else if lf (s.getD 0 0).toNat (s.getD 1 0).toNat=av then 3 else 0)∧Below w.heap.size w w'):=by
 refine aL λK d=>JR ?_;unfold Gb nz;rw[dE auV]
 try simp only[rs]
 by_cases e:s.length < 2
 ·rw[auP e] at d;simp only[show ai ((s.length:Int) < 2)=av from auR om,i_t];exact d _ _ ⟨rfl,Below.refl _ _⟩
 rw[auO e] at d;simp only[show ai ((s.length:Int) < 2)=au from auQ om,i_f];refine quiet (q_ix (c:=s.getD 0 0) auV dc (get0 om) (eZ _ (λ_=>aZ krx awM) (q_ix (c:=s.getD 1 0) auV dc (get0 om) (eZ _ (λ_=>aZ krx awM) ?_))));intro m hw;have f:=awQ (s.getD 0 0);have g:=awQ (s.getD 1 0);generalize (s.getD 0 0).toNat=a at f d;generalize (s.getD 1 0).toNat=b at g d;rw[show IntKind.i64.wrap (a:Int)=(a:Int) from aA om om,show IntKind.i64.wrap (b:Int)=(b:Int) from aA om om];rw[Y4,amS om];unfold lf at d
 try simp only[rs]
 by_cases h:a % 16=8
 case neg=>
  simp only[show ai (((a % 16:Nat):Int)≠8)=av from auR om,rs];rw[auP (by simp[h])] at d;exact d _ _ ⟨rfl,hw⟩
 simp only[show ai (((a % 16:Nat):Int)≠8)=au from auQ om,rs];rw[F2 dc,show ((a:Nat):Int).fdiv (2 ^ (min (4:Int).toNat IntKind.i64.bits))=((a / 2 ^ 4:Nat):Int) from Sd a 4]
 try simp only[rs]
 by_cases i:7 < a / 16
 ·simp only[show ai ((7:Int) < ((a / 2 ^ 4:Nat):Int))=av from auR om,rs];rw[auP (by simp[i])] at d;exact d _ _ ⟨rfl,hw⟩
 simp only[show ai ((7:Int) < ((a / 2 ^ 4:Nat):Int))=au from auQ om,rs];rw[Bi dc,show min (8:Int).toNat IntKind.i64.bits=8 from rfl,show (a:Int)*2 ^ 8=((a*256:Nat):Int) by push_cast;rfl,aA om om]
 try simp only[rs]
 rw[b_or,or64 f g,Ep dc,show ((256*a+b:Nat):Int).tmod 31=(((256*a+b) % 31:Nat):Int) from rfl]
 try simp only[rs]
 by_cases j:(256*a+b) % 31=0
 case neg=>
  simp only[show ai ((((256*a+b) % 31:Nat):Int)≠0)=av from auR om,rs];rw[auP (by simp[j])] at d;exact d _ _ ⟨rfl,hw⟩
 simp only[show ai ((((256*a+b) % 31:Nat):Int)≠0)=au from auQ om,rs];rw[Y4,atV om]
 try simp only[rs]
 by_cases k:b / 32 % 2=0
 case neg=>
  simp only[show ai (((b / 32 % 2*32:Nat):Int)≠0)=av from auR om,rs];rw[auP (by simp[k])] at d;exact d _ _ ⟨rfl,hw⟩
 simp only[show ai (((b / 32 % 2*32:Nat):Int)≠0)=au from auQ om,rs];rw[auO (by simp[h,i,j,k])] at d;exact d _ _ ⟨rfl,hw⟩
theorem Th (s:List UInt8)(most:Int)(M:Mem)(w:ao)(f:Rp M)(g:Od M)(p:s.length<=1000000000)(l:M.has w) :
  lA ah 167 #[ae s,ad most] M w (λv _=>v=zlT (ft s most)∧(ft s most).1.length<=1048576):=by
 refine aO l λK c=>JU ?_;generalize a:ft s most=X at c;unfold ft at a;unfold GI nz;have b:dQ M.A w w [.mem M]:=dQ.memS l;refine aI b (RF s w p) ?_;rintro _ q rfl b;simp only[bO];by_cases m:s.length < 2
 ·rw[auP m] at a ⊢;simp only[show ai ((4:Int)≠0)=av from rfl,i_t];exact c _ _ M _ 0 b rfl M.le_refl ⟨by rw[<-a];rfl,by rw[<-a];exact avK _⟩
 rw[auO m] at a ⊢;by_cases n:lf (s.getD 0 0).toNat (s.getD 1 0).toNat=av
 ·rw[auP n] at a ⊢;simp only[show ai ((3:Int)≠0)=av from rfl,i_t];exact c _ _ M _ 0 b rfl M.le_refl ⟨by rw[<-a];rfl,by rw[<-a];exact avK _⟩
 rw[auO n] at a ⊢;simp only[show ai ((0:Int)≠0)=au from rfl,i_f];dsimp only at a;rw[Hl auV dc om,show (2:Int).toNat=2 from rfl];refine aY b 0 rfl (adD (s.drop 2) most M q f g (by rw[avF];omega) (b.hasM 0 rfl)) ?_;rintro _ N w2 g1 ⟨rfl,hu,i⟩ b;generalize fy (s.drop 2) most=r at a hu i;obtain⟨t,u,e⟩:=r;dsimp only at a hu i;rw[avF] at hu;simp only[flT,ex,bO];by_cases he:e=0
 case neg=>
  rw[auP he] at a;simp only[auR (show e≠0 from he),i_t];exact c _ _ N _ 0 b rfl g1 ⟨by rw[<-a];rfl,by rw[<-a];exact avK _⟩
 rw[auO (by rw[he];decide)] at a;simp only[auQ (show ¬e≠0 by rw[he];decide),i_f];rw[dE auV,avF]
 try simp only[rs]
 rw[aA om om];by_cases o:s.length < 2+u+4
 ·rw[auP o] at a;simp only[show ai (((s.length - 2:Nat):Int) - (u:Int) < 4)=av from auR om,i_t];exact c _ _ N _ 0 b rfl g1 ⟨by rw[<-a];rfl,by rw[<-a];exact avK _⟩
 rw[auO o] at a;simp only[show ai (((s.length - 2:Nat):Int) - (u:Int) < 4)=au from auQ om,i_f];refine dR (λW=>dQ M.A w W [.mem N]) b.drew ?_;refine iR ?_;rw[aA om om];refine eZ _ (λ_=>jD auV om om (by rw[avF];omega)) ?_;refine fC _ (λW h=>(UH t W om).mono λv w' ⟨j,k⟩=>⟨j,h.grow k⟩) ?_;refine fC _ (λW h=>(Rs (fq t) W).mono λv w' ⟨j,k⟩=>⟨j,h.grow k⟩) ?_;refine abV ?_;intro w3 b;rw[show ((u:Int)+4).toNat - ((u:Nat):Int).toNat=4 by omega,auW,azE];by_cases d:(s.drop (2+u)).take 4=bo (fq t)
 case neg=>
  rw[auP d] at a;simp only[auR (show (s.drop (2+u)).take 4≠bo (fq t) from d),i_t];exact c _ _ N _ 0 b rfl g1 ⟨by rw[<-a];rfl,by rw[<-a];exact avK _⟩
 rw[auO (by rw[d];simp)] at a;simp only[auQ (show ¬(s.drop (2+u)).take 4≠bo (fq t) by rw[d];simp),i_f];exact c _ _ N _ 0 b rfl g1 ⟨by rw[<-a];rfl,by rw[<-a];exact i⟩
theorem O7 (s:List UInt8)(most:Int)(M:Mem)(w:ao)(G:s.length<=1000000000)(q:M.has w) :
  lA ah 92 #[ae s,ad most] M w (λv _=>v=zlT (ft s most)∧(ft s most).1.length<=1048576):=by
 refine aO q λK i=>xZ ?_;generalize d:ft s most=X at i;unfold ft at d;unfold nZ nz;have f:dQ M.A w w [.mem M]:=dQ.memS q;rw[dE auV]
 try simp only[rs]
 by_cases x:s.length < 2
 ·rw[auP x] at d;simp only[show ai ((s.length:Int) < 2)=av from auR om,i_t];exact i _ _ M _ 0 f rfl M.le_refl ⟨by rw[<-d];rfl,by rw[<-d];exact avK _⟩
 rw[auO x] at d;simp only[show ai ((s.length:Int) < 2)=au from auQ om,i_f];dsimp only at d;have E:=awQ (s.getD 0 0);have F:=awQ (s.getD 1 0);refine dR (λW=>dQ M.A w W [.mem M]) f.drew ?_;refine q_ix (c:=s.getD 0 0) auV dc (get0 om) (aeC dc (q_ne ?_));have m:∀{K:aq->Prop} {C:ao->Prop},K (.int .u8 ((s.getD 0 0).toNat:Int))->QDo ah C (mIx 9 (ae s) (ad 0)) K:=λh=>q_ix (c:=s.getD 0 0) auV dc (get0 om) h;have o:∀{K:aq->Prop} {C:ao->Prop},K (.int .u8 ((s.getD 1 0).toNat:Int))->QDo ah C (mIx 9 (ae s) (ad 1)) K:=λh=>q_ix (c:=s.getD 1 0) auV dc (get0 om) h;generalize (s.getD 0 0).toNat=a at E d m;generalize (s.getD 1 0).toNat=b at F d o;rw[show ((a:Nat):Int).tmod 16=((a % 16:Nat):Int) from rfl];unfold lf at d;have bad:∀W,dQ M.A w W [.mem M]->X=([],3)->K (.returned (.tuple #[.string ⟨#[]⟩,ad 3])) W:=λW f y=>i _ _ M _ 0 f rfl M.le_refl ⟨by rw[y];rfl,by rw[y];exact avK _⟩;by_cases j:a % 16=8
 case neg=>
  rw[auR (show ((a % 16:Nat):Int)≠8 by omega)];simp only[gq];refine H8 ?_;simp only[gq];refine H8 ?_;simp only[gq];refine H8 ?_;intro g f;rw[i_t];rw[auP (by simp[j])] at d;exact bad g f d.symm
 rw[auQ (show ¬((a % 16:Nat):Int)≠8 by omega)];simp only[gq];refine m (aaI dc ?_);rw[show IntKind.u8.wrap (((a:Nat):Int).tdiv 16)=((a / 16:Nat):Int) by rw[show ((a:Nat):Int).tdiv 16=((a / 16:Nat):Int) from rfl,rA];simp;omega];refine J6 (B0 ?_);by_cases k:7 < a / 16
 ·rw[auR (show (7:Int) < ((a / 16:Nat):Int) by omega)];simp only[gq];refine H8 ?_;simp only[gq];refine H8 ?_;intro g f;rw[i_t];rw[auP (by simp[k])] at d;exact bad g f d.symm
 rw[auQ (show ¬(7:Int) < ((a / 16:Nat):Int) by omega)];simp only[gq];refine m (eZ _ (λ_=>aZ krx awM) (eZ _ (λ_=>agN) (o (eZ _ (λ_=>aZ krx awM) (iR (aeC dc (q_ne (B0 ?_))))))));rw[show IntKind.i64.wrap (a:Int)=(a:Int) from aA om om,show IntKind.i64.wrap (b:Int)=(b:Int) from aA om om,aA (n:=256*(a:Int)) om om,aA om om,
  show (256*(a:Int)+(b:Int))=((256*a+b:Nat):Int) by push_cast;rfl,show ((256*a+b:Nat):Int).tmod 31=(((256*a+b) % 31:Nat):Int) from rfl]
 by_cases z:(256*a+b) % 31=0
 case neg=>
  rw[auR (show (((256*a+b) % 31:Nat):Int)≠0 by omega)];simp only[gq];refine H8 ?_;intro g f;rw[i_t];rw[auP (by simp[z])] at d;exact bad g f d.symm
 rw[auQ (show ¬(((256*a+b) % 31:Nat):Int)≠0 by omega)];simp only[gq];refine o (eZ _ (λ_=>acL) (q_ne (B0 ?_)));rw[anP om];intro g f;by_cases B:b / 32 % 2=0
 case neg=>
  rw[auR (show ((b / 32 % 2*32:Nat):Int)≠0 by omega),i_t];rw[auP (by simp[B])] at d;exact bad g f d.symm
 rw[auQ (show ¬((b / 32 % 2*32:Nat):Int)≠0 by omega),i_f];rw[auO (by simp[j,k,z,B])] at d;rw[Hl auV dc om,show (2:Int).toNat=2 from rfl];refine aY f 0 rfl (Vx (s.drop 2) most M g (by rw[avF];omega) (f.hasM 0 rfl)) ?_;rintro _ N w2 g1 ⟨rfl,hu,p⟩ f;generalize fy (s.drop 2) most=r at d hu p;obtain⟨t,u,e⟩:=r;dsimp only at d hu p;rw[avF] at hu;simp only[flT,ex,bO];by_cases he:e=0
 case neg=>
  rw[auP he] at d;simp only[auR (show e≠0 from he),i_t];exact i _ _ N _ 0 f rfl g1 ⟨by rw[<-d];rfl,by rw[<-d];exact avK _⟩
 rw[auO (by rw[he];decide)] at d;simp only[auQ (show ¬e≠0 by rw[he];decide),i_f,rs];rw[aA om om,dE auV]
 try simp only[rs]
 rw[aA om om];by_cases D:s.length < 2+u+4
 ·rw[auP D] at d;simp only[show ai ((s.length:Int) - (2+(u:Int)) < 4)=av from auR om,i_t];exact i _ _ N _ 0 f rfl g1 ⟨by rw[<-d];rfl,by rw[<-d];exact avK _⟩
 rw[auO D] at d;simp only[show ai ((s.length:Int) - (2+(u:Int)) < 4)=au from auQ om,i_f];refine dR (λW=>dQ M.A w W [.mem N]) f.drew ?_;refine iR ?_;rw[aA om om];refine eZ _ (λ_=>jD auV om om om) ?_;refine fC _ (λW h=>(VH t W om).mono λv w' ⟨j,k⟩=>⟨j,h.grow k⟩) ?_;refine fC _ (λW h=>(Tm (fq t) W).mono λv w' ⟨j,k⟩=>⟨j,h.grow k⟩) ?_;refine abV ?_;intro w3 f;rw[show (2+(u:Int)+4).toNat - (2+(u:Int)).toNat=4 by omega,show (2+(u:Int)).toNat=2+u by omega];by_cases l:(s.drop (2+u)).take 4=bo (fq t)
 case neg=>
  rw[auP l] at d;simp only[auR (show (s.drop (2+u)).take 4≠bo (fq t) from l),i_t];exact i _ _ N _ 0 f rfl g1 ⟨by rw[<-d];rfl,by rw[<-d];exact avK _⟩
 rw[auO (by rw[l];simp)] at d;simp only[auQ (show ¬(s.drop (2+u)).take 4≠bo (fq t) by rw[l];simp),i_f];exact i _ _ N _ 0 f rfl g1 ⟨by rw[<-d];rfl,by rw[<-d];exact p⟩
end
section
namespace Eng
open Go.RowKit
def MkIs (w:ao)(E:TypeId)(b:Nat)(l:List UInt8):Prop:=∃rest:List aq,w.heap[b]?=ax (.cells (aM l++rest).toArray E (l.length+rest.length,l.length+rest.length+1))
def Ent.mkr (E:TypeId)(b:Nat)(l:List UInt8):Ent:=
 ⟨λk=>k=b,λw=>MkIs w E b l,λ{w w'} h k=>by obtain⟨rest,h⟩:=h;exact⟨rest,(k b rfl).trans h⟩,λ{w} h k a=>by obtain⟨rest,h⟩:=h;cases a;exact dN h⟩
theorem fI (l:List UInt8):(aM l).length=l.length:=by simp[aM]
theorem RC {l:List UInt8}(h:(Ent.mkr E b l).is w)(a:(aM l)[i]?=ax v):w.cell? ⟨b,i,aw⟩=ax v:=by
 obtain⟨rest,h⟩:=h;have:(aM l++rest)[i]?=ax v:=by rw[axO (avL.1 a).1];exact a
 simp[World.cell?,h,this]
theorem WH {l:List UInt8}(h:(Ent.mkr E b l).is w):Sl w (cW b 0 l.length cap) 1 l.length (aM l):=
 ⟨by rw[fI,avQ],ax ⟨b,0,aw⟩,cap,rfl,(λh=>by cases h),λp hp=>by cases hp;exact⟨λ_=>rfl,λj u a=>by rw[avC];exact RC h a⟩⟩
section
variable {S:Nat->Prop}{P:Program}{w w0:ao}{L:List Ent}{PK:PKT}{K:VWP}
theorem K3 {T:TypeId}{l:List UInt8}(c:P.underlying T=ax .string)(d:P.underlying D=ax (.slice E))(he:P.underlying E=ax (.int .u8))(f:dQ S w0 w L)
  (k:∀b cap w',dQ S w0 w' (.mkr E b l::L)->K (cW b 0 l.length cap) w'):DoX P (nG T D (ae l)) w PK K:=by
 have a:=Go.Lib.run_convert_string_bytes (P:=P) w T D E ⟨l.toArray⟩ c d he;rw[cQ] at a;refine yO (cE a) (k _ _ _ ?_);refine f.add ⟨?_,?_,?_,?_,?_⟩ (.mkr E w.heap.size l) ?_ (λk g=>by cases g;exact auY _)
 ·unfold Go.Lib.bytesWorld World.freeze;split<;>rfl
 ·unfold Go.Lib.bytesWorld World.freeze;split<;>rfl
 ·unfold Go.Lib.bytesWorld World.freeze;split<;>rfl
 ·rw[Go.Lib.bytesWorld_size];omega
 ·intro j h _;exact Go.Lib.bytesWorld_at_old w E _ j h
 ·refine⟨(Array.replicate (grownCap w l.length 0 E - l.length) (Value.int .u8 0)).toList,?_⟩;have:=Go.Lib.bytesWorld_at_new w E ⟨l.toArray⟩;rw[this];have e:Go.Lib.bytesCells w E ⟨l.toArray⟩=(aM l++(Array.replicate (grownCap w l.length 0 E - l.length) (Value.int .u8 0)).toList).toArray:=by
   unfold Go.Lib.bytesCells;rw[cQ];apply Array.ext';simp[aM]
  rw[e];simp[aM]
theorem Zx (i:Nat){T:TypeId}{off:Nat}{l:List UInt8}{c:UInt8}(h:dQ S w0 w L)(hi:L[i]?=ax (.mkr E b l))(t:(P.info? T).map (·.size)=ax 1)(a:off < l.length)
  (k:∀w',dQ S w0 w' (L.set i (.mkr E b (l.set off c)))->K undef w'):DoX P (aV T (af b off) (.int .u8 (c.toNat:Int))) w PK K:=by
 obtain⟨rest,g⟩:=(show MkIs w E b l from h.at_ i hi);have d:=RC (h.at_ i hi) (i:=off) (v:=.int .u8 (l[off].toNat:Int)) (by simp[aM,a]);have m:w.frozen? ⟨b,off,aw⟩=false:=by
  unfold World.frozen?;rw[g];simp;omega
 have n:=run_storeCells_cells (P:=P) b off [.int .u8 (c.toNat:Int)] 0 w (λj o=>by
  have:j=0:=by simpa using o
  subst this;exact (congrArg Option.isSome d)) (λj o=>by
  have:j=0:=by simpa using o
  subst this;exact m) (λv u=>by rw[avV.1 u];rfl)
 obtain⟨ii,p,x⟩:=awZ.1 t;have f:(Instr.storeAt T (af b off) (.int .u8 (c.toNat:Int))).run P w=.ok () (w.setCells b (off+0) [.int .u8 (c.toNat:Int)]):=by
  have y:(Value.int .u8 (c.toNat:Int)).cells=#[Value.int .u8 (c.toNat:Int)]:=rfl;simp[Instr.storeAt,Instr.sureAddr,storeVar,y,sizeOf,typeInfo,p,x,n]
 refine Is (Og f) (k _ ?_);have s:b < w.heap.size:=dN g;have z:w.setCells b (off+0) [.int .u8 (c.toNat:Int)]=w.setCell ⟨b,off,aw⟩ (.int .u8 (c.toNat:Int)):=rfl;rw[z];refine h.put i hi (w':=w.setCell ⟨b,off,aw⟩ (.int .u8 (c.toNat:Int))) ⟨rfl,rfl,rfl,by simp[World.setCell],λk _ q=>?_⟩ (.mkr E b (l.set off c)) ⟨rest,?_⟩ (λk q=>.inl q)
 ·have r:k≠b:=λe=>q e;simp[World.setCell,Array.getElem?_modify,Ne.symm r]
 ·have A:w.heap[b]=.cells (aM l++rest).toArray E (l.length+rest.length,l.length+rest.length+1):=(azS.1 g).2;simp only[World.setCell,Array.getElem?_modify,auP,g,aAi,awT,ayH,if_false,axM]
  congr 2
  apply Array.ext';simp only[Array.toList_setIfInBounds];rw[List.set_append_left _ _ (by rw[fI];exact a)];simp[aM,aAb]
end
end Eng
end
section
open Eng
def Gm(t0 w)(K:KT):=nz f110 1 [] [] [(2,25)] (zg [0] [t0]) w K
theorem JS:Gm t0 w k0->Calls ah 110 #[t0] w k0:=cw func110
def CO(t0 w)(K:KT):=nz f78 1 [] [] [] (zg [0] [t0]) w K
theorem G6:CO t0 w k0->Calls ah 78 #[t0] w k0:=cw func78
def Ho(t0 w)(K:KT):=nz f192 1 [] [] [] (zg [0] [t0]) w K
theorem JN:Ho t0 w k0->Calls ah 192 #[t0] w k0:=cw func192
def DS(t0 t1 w)(K:KT):=nz f268 1 [] [] [] (zg [0,1] [t0,t1]) w K
theorem HG:DS t0 t1 w k0->Calls ah 268 #[t0,t1] w k0:=cw func268
def eQ(t8 t23 w)(a:JT)(K:KT):=nz f240 983 [a] [nh 9 [8,23]] [] (zg [8,23] [t8,t23]) w K
def gL(t7 t8 t22 t23 w)(a:JT)(K:KT):=nz f240 87 [a] [nh 9 [8,23],(16,[8],λs v j w f=>eQ (vg v 0) (s 23) w (f 0) K)] [] (zg [7,8,22,23] [t7,t8,t22,t23]) w K
def Cu(t0 t1 t2 w)(K:KT):=nz f240 1 [] [(9,[8,23],λs v j w f=>gL (s 7) (vg v 0) (s 22) (vg v 1) w (f 0) K)] [] (zg [0,1,2] [t0,t1,t2]) w K
theorem HL:Cu t0 t1 t2 w k0->Calls ah 240 #[t0,t1,t2] w k0:=cz [(8,[8])] [(4,[8,23])] func240
def Jq(t0 t1 w)(K:KT):=nz f239 1 [] [] [] (zg [0,1] [t0,t1]) w K
theorem Ml:Jq t0 t1 w k0->Calls ah 239 #[t0,t1] w k0:=cw func239
def uB(t0 t1 t2 w)(K:KT):=nz f218 1 [] [] [(1,21)] (zg [0,1,2] [t0,t1,t2]) w K
theorem Dc:uB t0 t1 t2 w k0->Calls ah 218 #[t0,t1,t2] w k0:=cw func218
def oS(t1 t2 t5 t13 t14 t15 w)(a:JT)(K:KT):=nz f194 43 [a] [nh 7 [15]] [] (zg [1,2,5,13,14,15] [t1,t2,t5,t13,t14,t15]) w K
def rV(t0 t1 w)(K:KT):=nz f194 1 [] [(7,[15],λs v j w f=>oS (s 1) (s 2) (s 5) (s 13) (s 14) (vg v 0) w (f 0) K)] [] (zg [0,1] [t0,t1]) w K
theorem Bx:rV t0 t1 w k0->Calls ah 194 #[t0,t1] w k0:=cz [] [(3,[15])] func194
def nW(t1 t2 t7 t8 w)(a:JT)(K:KT):=nz f201 11 [a] [nh 5 [8]] [(4,11)] (zg [1,2,7,8] [t1,t2,t7,t8]) w K
def tI(t0 t1 w)(K:KT):=nz f201 1 [] [(5,[8],λs v j w f=>nW (s 1) (s 2) (s 7) (vg v 0) w (f 0) K)] [] (zg [0,1] [t0,t1]) w K
theorem BD:tI t0 t1 w k0->Calls ah 201 #[t0,t1] w k0:=cz [] [(2,[8])] func201
def uI(t3 t6 t7 t8 w)(a:JT)(K:KT):=nz f219 43 [a] [nh 7 [3,8]] [] (zg [3,6,7,8] [t3,t6,t7,t8]) w K
def AF(t0 w)(K:KT):=nz f219 1 [] [(7,[3,8],λs v j w f=>uI (vg v 0) (s 6) (s 7) (vg v 1) w (f 0) K)] [] (zg [0] [t0]) w K
theorem FT:AF t0 w k0->Calls ah 219 #[t0] w k0:=cz [] [(3,[3,8])] func219
def nN(t3 t4 t5 w)(a:JT)(K:KT):=nz f195 471 [a] [nh 9 [3,4,5]] [] (zg [3,4,5] [t3,t4,t5]) w K
def nR(t1 t3 t4 t5 w)(a:JT)(K:KT):=nz f195 87 [a] [nh 9 [3,4,5],(10,[3,4],λs v j w f=>nN (vg v 0) (vg v 1) (s 5) w (f 0) K)] [] (zg [1,3,4,5] [t1,t3,t4,t5]) w K
def sD(t0 w)(K:KT):=nz f195 1 [] [(9,[3,4,5],λs v j w f=>nR (s 1) (vg v 0) (vg v 1) (vg v 2) w (f 0) K)] [] (zg [0] [t0]) w K
theorem BB:sD t0 w k0->Calls ah 195 #[t0] w k0:=cz [(5,[3,4])] [(4,[3,4,5])] func195
def AX(t0 t1 t2 w)(K:KT):=nz f193 1 [] [] [] (zg [0,1,2] [t0,t1,t2]) w K
theorem FR:AX t0 t1 t2 w k0->Calls ah 193 #[t0,t1,t2] w k0:=cw func193
def vS(a b c w)(e:JT)(K:KT):=
 slx 9 a (ax b) aw aw w K λd w=>e [d,c] w
def uP(b c a w)(j:JT)(K:KT):=
 AI w (λS5 w=>HDo ah S5 (nG 3 5 a) λd=>HDo ah S5 (aG 228 c) λe=>DoX ah (bJ 70 1 #[(0,d)]) w (ay 6 (pk K)) λf w=>S5 w∧(DoX ah (mB .append #[70,70] 70 #[au,au] #[b,f]) w (ay 6 (pk K)) λg w=>S5 w∧(eN ah 194 #[e,a] w (ay 6 (pk K)) λh w=>S5 w∧(DoX ah (mB .append #[70,70] 70 #[au,au] #[g,h]) w (ay 6 (pk K)) λi w=>S5 w∧(j [i] w)))))
def fS(c a b w)(q:JT)(K:KT):=
 fax 73 c 0 w K λe w=>ldx 3 e w K λf w=>bnx .sub 3 f (iN 10) w K λg w=>zP (λr=>fax 73 c 0 w K λh w=>ldx 3 h w K λd w=>ecx .eql 3 69 2 d w K λi w=>IfX i (ldx 228 b w K λj w=>cx 194 #[j,(iN 1)] w K λk w=>apx 70 a k w K λl w=>q [l] w) (ecx .eql 3 69 15 d w K λm w=>IfX m (ldx 228 b w K λn w=>cx 195 #[n] w K λo w=>r [a,o] w) (r [a,g] w))) (λp w=>∀_:Sg,uP (p.getD 0 undef) b (p.getD 1 undef) w q K)
def kO(b d e c a w)(s:JT)(K:KT):=
 lnx 9 b w K λi w=>bnx .gtr 3 i (iN 0) w K λj w=>IfX j (zP (λr=>AI w (λS3 w=>HDo ah (λ_=>True) (mFA 228 a 1) λk=>HDo ah S3 (aG 70 k) λf=>HDo ah (λ_=>True) (cY 9 b aw (ax e) aw) λg=>HDo ah (λ_=>True) (mFA 228 a 0) λh=>(DoX ah (nG 9 70 g) w (ay 7 (pk K)) λl w=>S3 w∧(DoX ah (aV 70 h f) w (ay 7 (pk K)) λ_ w=>(HDo ah (λ_=>True) (mFA 228 a 1) λm=>DoX ah (aV 70 m l) w (ay 7 (pk K)) λ_ w=>(fS d c a w r K))))∧(DoX ah (aV 70 h f) w (ay 7 (pk K)) λ_ w=>(DoX ah (nG 9 70 g) w (ay 7 (pk K)) λo w=>S3 w∧(HDo ah (λ_=>True) (mFA 228 a 1) λp=>DoX ah (aV 70 p o) w (ay 7 (pk K)) λ_ w=>(fS d c a w r K)))))) (λq w=>∀_:Sg,vS b e (q.getD 0 undef) w s K)) (dx (nG 70 9 c) w K λn w=>K (.returned (.tuple #[n,(iN 0)])) w)
def AL(g b w)(K:KT):=
 dx (AS 73 g) w K λc w=>ldx 73 c w K λh w=>cx 192 #[h] w K λi w=>mbx .max #[3,3] 3 #[au,av] #[i,(iN 1)] w K λd w=>ldx 73 c w K λj w=>cx 193 #[j,b,d] w K λe w=>ecx .neq 35 18 0 e w K λk w=>IfX k (K (.returned (.tuple #[(.string ⟨#[]⟩),e])) w) (fax 73 c 0 w K λl w=>ldx 3 l w K λm w=>ecx .eql 3 23 1 m w K λn w=>IfX n (K (.returned (.tuple #[b,(iN 0)])) w) (fax 73 c 0 w K λo w=>ldx 3 o w K λp w=>bnx .geq 3 p (iN 10) w K λa w=>etx a b w λq w=>gtx a (mB .len #[9] 3 #[au] #[q]) w K λr w=>etx a b w λs w=>gtx a (mB .len #[9] 3 #[au] #[s]) w K λt w=>etx a d w λu w=>gtx a (gS .quo 3 t u) w K λv w=>gtx a (gS .add 3 r v) w K λx w=>gtx a (gS .gtr 3 x (iN 1048576)) w K λy w=>dx (fK a y (.bool au)) w K λz w=>IfX z (K (.returned (.tuple #[(.string ⟨#[]⟩),(iN 5)])) w) (lnx 9 b w K λA w=>lnx 9 b w K λB w=>bnx .quo 3 B d w K λC w=>bnx .add 3 A C w K λD w=>dx (IH 70 (iN 0) D) w K λF w=>fax 73 c 1 w K λG w=>ldx 3 G w K λH w=>dx (aN 228 #[(2,H)]) w K λI w=>alx 228 w K λf w=>stx 228 f I w K λ_ w=>zr [b,F] w (λE w J=>∀_:Sg,kO (E.getD 0 undef) c d (E.getD 1 undef) f w J K))))
theorem FV:AL t0 t1 w k0->Calls ah 165 #[t0,t1] w k0:=cz [(12,[8]),(20,[8,10])] [(11,[1,8])] func165
def fQ(b c d e a f w)(n:JT)(K:KT):=
 ldx 228 a w K λg w=>cx 201 #[g,f] w K λm w=>fax 228 a 1 w K λh w=>ldx 70 h w K λi w=>apx 70 e i w K λj w=>bnx .add 3 c d w K λk w=>slx 9 b (ax k) aw aw w K λl w=>n [l,j] w
def uJ(c d b f a e w)(q:JT)(K:KT):=
 bnx .geq 3 e (iN 5) w K λj w=>IfX j (K (.returned (.tuple #[(.string ⟨#[]⟩),(iN 3)])) w) (AI w (λS4 w=>HDo ah (λ_=>True) (mFA 228 a 1) λk=>HDo ah S4 (aG 70 k) λg=>HDo ah (λ_=>True) (gS .add 3 d b) λl=>HDo ah (λ_=>True) (cY 9 c (ax b) (ax l) aw) λh=>HDo ah (λ_=>True) (mFA 228 a 0) λi=>(DoX ah (nG 9 70 h) w (ay 10 (pk K)) λm w=>S4 w∧(DoX ah (aV 70 i g) w (ay 10 (pk K)) λ_ w=>(HDo ah (λ_=>True) (mFA 228 a 1) λn=>DoX ah (aV 70 n m) w (ay 10 (pk K)) λ_ w=>(fQ c d b f a e w q K))))∧(DoX ah (aV 70 i g) w (ay 10 (pk K)) λ_ w=>(DoX ah (nG 9 70 h) w (ay 10 (pk K)) λo w=>S4 w∧(HDo ah (λ_=>True) (mFA 228 a 1) λp=>DoX ah (aV 70 p o) w (ay 10 (pk K)) λ_ w=>(fQ c d b f a e w q K))))))
def uD(a d b c e w)(n:JT)(K:KT):=
 lnx 9 a w K λf w=>bnx .gtr 3 f (iN 0) w K λg w=>IfX g (zP (λm=>ecx .eql 3 42 1 b w K λh w=>IfX h (dx (mIx 9 a (iN 0)) w K λi w=>dx (nG 5 3 i) w K λj w=>m [j] w) (m [(iN 1)] w)) (λl w=>∀_:Sg,uJ a d b c e (l.getD 0 undef) w n K)) (dx (nG 70 9 c) w K λk w=>K (.returned (.tuple #[k,(iN 0)])) w)
def uH(a b c d w)(K:KT):=
 ldx 73 b w K λg w=>bnx .add 3 c d w K λh w=>cx 193 #[g,a,h] w K λe w=>ecx .neq 35 24 0 e w K λi w=>IfX i (K (.returned (.tuple #[(.string ⟨#[]⟩),e])) w) (fax 73 b 0 w K λj w=>ldx 3 j w K λk w=>ecx .eql 3 28 1 k w K λl w=>IfX l (K (.returned (.tuple #[a,(iN 0)])) w) (fax 73 b 1 w K λm w=>ldx 3 m w K λn w=>dx (aN 228 #[(2,n)]) w K λo w=>alx 228 w K λf w=>stx 228 f o w K λ_ w=>zr [a,(.slice aw 0 0)] w (λp w q=>∀_:Sg,uD (p.getD 0 undef) c d (p.getD 1 undef) f w q K)))
def AY(b c w)(K:KT):=
 dx (AS 73 b) w K λa w=>ldx 73 a w K λd w=>cx 192 #[d] w K λe w=>mbx .max #[3,3] 3 #[au,av] #[e,(iN 1)] w K λf w=>zP (λk=>fax 73 a 0 w K λg w=>ldx 3 g w K λh w=>bnx .geq 3 h (iN 10) w K λi w=>IfX i (k [(iN 1)] w) (k [(iN 0)] w)) (λj w=>∀_:Sg,uH c a f (j.getD 0 undef) w K)
theorem Fv:AY t0 t1 w k0->Calls ah 168 #[t0,t1] w k0:=cz [(4,[7]),(16,[11])] [(11,[1,9])] func168
end
end Go.Proofs.YtkghomgfocpgeaaGreatDoor
