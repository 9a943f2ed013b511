/- Parts of the proof. -/
import Derived.Test.YtlgndjkieegnaaaGreatDoorRows
import Derived.Test.YtlgndjkieegnaaaGreatDoorMfbkkdfio
set_option linter.all false
set_option maxRecDepth 20000
open Go.Proofs.Tryz
open Go.Proofs.Tryz renaming prog->ah
open Option renaming some->ay,none->ax
open Bool renaming true->aw,false->au
open Go renaming Value->aq,World->ao
open Decidable renaming decide->ai
namespace Go.Proofs.YtlgndjkieegnaaaGreatDoor
variable{A:Nat->Prop}{K:VWP}{M N:Eng.Mem}{W w:ao}{a:Int}{args:Array aq}{b f fuel i:Nat}{cs:List aq}{key:List UInt8}{o:Ob}{v vc vk:aq}{x:Sec}{xo yo:Operand}{t0:aq}{k0:Eng.KT}
section
open Go Eng
namespace Cs
theorem adI (m:Nat):∀(w v:Nat),(num (m:Int) w).foldl (λv (c:UInt8)=>v*256+c.toNat) v=v*256 ^ w+m % 256 ^ w
|0,v=>by simp[num,Nat.mod_one]
|w+1,v=>by
  unfold num;rw[azX,adI m w];have a:(UInt8.ofNat (((m:Int) / 256 ^ w) % 256).toNat).toNat=m / 256 ^ w % 256:=by
   have e:((m:Int) / 256 ^ w) % 256=((m / 256 ^ w % 256:Nat):Int):=by push_cast;rfl
   rw[e,auJ,ayE,awB (show _ < 2 ^ 8 by have:=axU (m / 256 ^ w) (show 0 < 256 by decide);omega)]
  rw[a,Nat.mod_pow_succ,awT,axE,azR,axH 256 (256 ^ w),axH (m / 256 ^ w % 256)];omega
theorem Q2 {n:Int}{w:Nat}(a:0<=n)(h:n < ((256 ^ w:Nat):Int)):((be (num n w):Nat):Int)=n:=by
 obtain⟨m,rfl⟩:∃m:Nat,n=(m:Int):=⟨n.toNat,om⟩;unfold be;rw[adI m w 0,awB om];omega
theorem adB:∀(f:Nat) (n:Int),0<=n->n < ((256 ^ f:Nat):Int)->n < ((256 ^ nbG f n:Nat):Int)
|0,n,a,h=>h
|f+1,n,a,h=>by
  unfold nbG;split
  ·have b:n.fdiv 256=n / 256:=azN _ dc;rw[b];rw[awT] at h ⊢;have:=adB f (n / 256) om (by push_cast at h ⊢;omega)
   push_cast at this ⊢;omega
  ·show n < ((256 ^ 0:Nat):Int);have:(256:Nat) ^ 0=1:=rfl;omega
theorem foldl_max:∀(l:List Int) (m:Int),m<=l.foldl (λm x=>max m x) m∧∀x∈l,x<=l.foldl (λm x=>max m x) m
|[],m=>⟨azI _,λ_ h=>by cases h⟩
|a::l,m=>by
  obtain⟨d,c⟩:=foldl_max l (max m a);rw[azX];refine⟨om,λx b=>?_⟩;rcases auI.1 b with rfl|b
  ·omega
  ·exact c x b
theorem Ue {B:Int}:∀(l:List Int) (m:Int),m<=B->(∀x∈l,x<=B)->l.foldl (λm x=>max m x) m<=B
|[],m,h,_=>h
|a::l,m,h,b=>by
  rw[azX];exact Ue l _ (by have:=b a (avQ ..);omega) λx c=>b x (auZ _ c)
theorem WQ {l:List Int}(a:∀x∈l,x<=2147483647){x:Int}(b:x∈l):x < ((256 ^ nb (Mc l):Nat):Int):=by
 obtain⟨c,d⟩:=foldl_max l 0;have f:=Ue (B:=2147483647) l 0 dc a;have e:=adB 4 (Mc l) c (by show Mc l < 4294967296;unfold Mc;omega);have g:=d x b;unfold nb;unfold Mc at e ⊢;omega
theorem Mp (a b:Nat):∀(l:List Slt) (k:Nat) (h:k < l.length),(pM l a b).drop (k*(1+a+b))=kJ l[k] a b++pM (l.drop (k+1)) a b
|s::l,0,_=>by rw[axP];rfl
|s::l,k+1,h=>by
  have c:=Mp a b l k (by simpa using h);show (kJ s a b++pM l a b).drop _=_;rw[awS,aAf,<-ayM,aAz (En s a b),c];rfl
theorem QD {l:List Slt}{ps:List (Int×Int)}{q:Int}(i:Tl.check l=0)(g:Cu ps=l.map (·.num)):aC ⟨[1,(wa l:Nat),(wb l:Nat)],ps,q⟩ (rows l)=l:=by
 have c:=λx d=>Tl.MS (Tl.xB i x d);refine aA2 ?_ λk v e=>?_
 ·rw[Pu];show (Cu ps).length=_;rw[g,avJ]
 have j:=PM (x:=⟨[1,(wa l:Nat),(wb l:Nat)],ps,q⟩) (s:=rows l) (k:=k) (n:=l[k].num) (by show (Cu ps)[k]?=_;rw[g,ayO,auO e];rfl);rw[(auV.1 j).2];obtain⟨⟨w,a2⟩,⟨m,z⟩,⟨o,b2⟩,p,A⟩:=c l[k] (auS e);have r:l[k].a < ((256 ^ wa l:Nat):Int):=WQ (λx d=>by obtain⟨y,f,rfl⟩:=avN.1 d;exact (c y f).2.2.1.2) (avN.2 ⟨l[k],auS e,rfl⟩);have t:l[k].b < ((256 ^ wb l:Nat):Int):=WQ (λx d=>by obtain⟨y,f,rfl⟩:=avN.1 d;have:=(c y f).2.2.2.2;omega) (avN.2 ⟨l[k],auS e,rfl⟩);have hw:wide ⟨[1,(wa l:Nat),(wb l:Nat)],ps,q⟩=1+wa l+wb l:=by
  show (1:Int).toNat+((wa l:Nat):Int).toNat+((wb l:Nat):Int).toNat=_;rw[auJ,auJ];rfl
 have u:=Mp (wa l) (wb l) l k e;unfold rowAt;dsimp only;rw[hw];show (⟨l[k].num,field (rows l) 0 (k*(1+wa l+wb l)) 1,field (rows l) 1 (k*(1+wa l+wb l)+1) ((wa l:Nat):Int),field (rows l) 2 (k*(1+wa l+wb l)+1+((wa l:Nat):Int).toNat) ((wb l:Nat):Int)⟩:Slt)=l[k];have d0:(rows l).drop (k*(1+wa l+wb l))=num l[k].kind 1++(num l[k].a (wa l)++(num l[k].b (wb l)++pM (l.drop (k+1)) (wa l) (wb l))):=by
  unfold rows;rw[u];unfold kJ;simp only[auN]
 have d1:(rows l).drop (k*(1+wa l+wb l)+1)=num l[k].a (wa l)++(num l[k].b (wb l)++pM (l.drop (k+1)) (wa l) (wb l)):=by
  rw[<-ayM,d0,aAz (jC _ _)]
 have d2:(rows l).drop (k*(1+wa l+wb l)+1+wa l)=num l[k].b (wb l)++pM (l.drop (k+1)) (wa l) (wb l):=by
  rw[<-ayM,d1,aAz (jC _ _)]
 have f0:field (rows l) 0 (k*(1+wa l+wb l)) 1=l[k].kind:=by
  unfold field;rw[auB (λh=>by have:=h.1;exact absurd this dc)];unfold fld;rw[d0,show (1:Int).toNat=1 from rfl,awK (jC _ _)];exact Q2 m (by show l[k].kind < 256;omega)
 have f1:field (rows l) 1 (k*(1+wa l+wb l)+1) ((wa l:Nat):Int)=l[k].a:=by
  unfold field;rw[auB (λh=>by have:=h.2;exact absurd this dc)];unfold fld;rw[d1,auJ,awK (jC _ _)];exact Q2 o r
 have f2:field (rows l) 2 (k*(1+wa l+wb l)+1+((wa l:Nat):Int).toNat) ((wb l:Nat):Int)=l[k].b:=by
  unfold field;rw[auB (λh=>by have:=h.2;exact absurd this dc)];unfold fld;rw[auJ (wb l),auJ (wa l),d2,awK (jC _ _)];exact Q2 p t
 rw[f0,f1,f2]
end Cs
namespace Cs
def Runs:Int->List (Int×Int)->Prop
|_,[]=>True
|up,r::l=>(up<=r.1∧0<=r.2∧r.1+r.2<=8192)∧Runs (r.1+r.2) l
theorem GB:∀{l:List (Int×Int)} {up:Int},0<=up->Runs up l->∀r∈l,0<=r.1∧0<=r.2∧r.1+r.2<=8192
|[],_,_,_,_,h=>by cases h
|a::l,up,f,⟨⟨g,c,d⟩,e⟩,r,b=>by
  rcases auI.1 b with rfl|b
  ·exact⟨om,c,d⟩
  ·exact GB om e r b
theorem MY:∀{l:List (Int×Int)} {up:Int},0<=up->Runs up l->index up ((flat l).map kM)=ay l
|[],_,_,_=>rfl
|a::l,up,f,⟨⟨b,g,c⟩,d⟩=>by
  have e:=MY (l:=l) (up:=a.1+a.2) om d;show index up (kM a.1::kM a.2::(flat l).map kM)=_;unfold index;have e1:(kM a.1).n=a.1:=rfl;have e2:(kM a.2).n=a.2:=rfl;rw[e1,e2,auC ⟨⟨rfl,by rw[e1];omega,by rw[e1];omega⟩,⟨rfl,by rw[e2];omega,by rw[e2];omega⟩,b,c⟩,e];rfl
theorem VI:∀{l:List (Int×Int)} {up:Int},0<=up->Runs up l->0<=size l∧size l<=8192:=by
 intro l up a h;unfold size;cases e:l.getLast? with
|none=>exact⟨azI _,dc⟩
|some r=>
  obtain⟨b,c,d⟩:=GB a h r (List.mem_of_mem_getLast? e);show 0<=r.1+r.2∧r.1+r.2<=8192;omega
theorem Qc:∀{g:List Slt} {n:Int},Tl.LR n g->PA (n,(g.length:Int))=g.map (·.num)
|[],n,_=>rfl
|x::g,n,⟨b,c⟩=>by
  have a:=Qc c;unfold PA at a ⊢;rw[auJ] at a ⊢;rw[auX,List.range_succ_eq_map,avS,avS,aAi,b]
  congr 1
  ·show n+((0:Nat):Int)=n;omega
  ·rw[<-a];refine azY λk _=>?_;show n+((k+1:Nat):Int)=n+1+(k:Nat);omega
theorem KH:∀{gs:List (List Slt)},(∀g∈gs,Tl.Grp g)->Cu (gs.map Tl.run)=gs.flatten.map (·.num)
|[],_=>rfl
|g::gs,h=>by
  have a:=KH (gs:=gs) λg b=>h g (auZ _ b);have:=Qc (h g (avQ ..)).2;show PA (Tl.run g)++Cu (gs.map Tl.run)=_;rw[a,aAN,avM,<-this];rfl
theorem Qi (l:List Slt):Cu (Tl.runs l)=l.map (·.num):=by
 obtain⟨a,b⟩:=Tl.xD l;unfold Tl.runs;rw[KH b,a]
theorem JM:∀{gs:List (List Slt)} {up:Int},(∀g∈gs,Tl.Grp g)->(∀x∈gs.flatten,up<=x.num∧x.num<=8191)->Tl.akM gs.flatten->Runs up (gs.map Tl.run)
|[],_,_,_,_=>trivial
|g::gs,up,h,a,c=>by
  rw[aAN] at a c;obtain⟨m,f,i⟩:=ayL.1 c;have b:=h g (avQ ..);obtain⟨y,d,j⟩:=Tl.abA b;have k:up<=Tl.first g:=by
   cases g with
  |nil=>exact absurd rfl b.1
  |cons z g=>exact (a z sm).1
  have l:=(a y (aA6 _ d)).2;refine⟨⟨k,Int.natCast_nonneg _,by show Tl.first g+(g.length:Int)<=8192;omega⟩,?_⟩;refine JM (λg b=>h g (auZ _ b)) (λx e=>⟨?_,(a x (aA7 _ e)).2⟩) f;have:=i y d x e;show Tl.first g+(g.length:Int)<=x.num
  omega
theorem Gv {l:List Slt}(a:Tl.check l=0):Runs 0 (Tl.runs l):=by
 obtain⟨b,d⟩:=Tl.xD l;refine JM d (λx c=>?_) (by rw[b];exact (Tl.Qe a).2.1);rw[b] at c;have:=Tl.MS (Tl.xB a x c);omega
end Cs
namespace Cs
theorem Jt (x:Sec):(∀p∈bL x,p.2.k≠0)∧((bL x).map (·.1)).Nodup∧bL x≠[]:=by
 unfold bL;split
 ·refine⟨λp hp=>?_,by show [kK,iD,kW,fP,pQ].Nodup;decide,sm⟩;simp only[axW,avU,auI,avP,or_false] at hp;rcases hp with rfl|rfl|rfl|rfl|rfl
  ·show (5:Int)≠0;decide
  ·show (2:Int)≠0;decide
  ·show (6:Int)≠0;decide
  ·show (6:Int)≠0;decide
  ·show (2:Int)≠0;decide
 ·refine⟨λp hp=>?_,by show [kK,iD,kW,fP].Nodup;decide,sm⟩;simp only[avA,auI,avP,or_false] at hp;rcases hp with rfl|rfl|rfl|rfl
  ·show (5:Int)≠0;decide
  ·show (2:Int)≠0;decide
  ·show (6:Int)≠0;decide
  ·show (6:Int)≠0;decide
theorem VD (o:Ob):Vl.get (iC o) pQ=none:=by
 refine Vl.agJ λh=>?_;have h:pQ∈bj:=by
  unfold iC at h;split at h
  ·cases h
  ·have h:pQ∈(has o bj).map (·.1):=h;obtain⟨p,hp,e⟩:=avN.1 h;obtain⟨k,b,e2⟩:=List.mem_filterMap.1 hp;cases a:Vl.get o k with
  |none=>rw[a] at e2;cases e2
  |some v=>
    rw[a] at e2;have:=axN e2;rw[<-e,<-this];exact b
 exact absurd h dc
theorem acB (h:(lI x).2=0):(∀p∈bL x,Vl.get (lI x).1 p.1=ay p.2)∧Vl.get (lI x).1 pQ=if 0<=x.prev then ay (kM x.prev) else none:=by
 obtain⟨a,b,c⟩:=Jt x;obtain⟨_,_,i3,i4⟩:=Qr (o:=iC x.trailer) (l:=bL x) h a b c;refine⟨i3,?_⟩;by_cases hp:0<=x.prev
 ·rw[auC hp];refine i3 (pQ,kM x.prev) ?_;unfold bL;rw[auC hp];exact aA7 _ (avD.2 rfl)
 ·rw[auB hp];refine (i4 pQ ?_).trans (VD _);unfold bL;rw[auB hp];show pQ ∉ [kK,iD,kW,fP]
  decide
theorem WI {P:Ob}(j:(lI x).2=0)(l:Tl.check x.aC=0)(hp:-1<=x.prev∧x.prev<=2147483647)(m:P.k=9)(b:∀k,k≠Ff.aQ->k≠Ff.bS->k≠Vl.rQ->Vl.get P k=Vl.get (lI x).1 k) :
  keys P=ay ⟨[1,(wa x.aC:Nat),(wb x.aC:Nat)],Tl.runs x.aC,x.prev⟩:=by
 obtain⟨d1,d2⟩:=acB j;have g:=Gv l;have d:=VI (azI 0) g;have z:=Fm x.aC;have A:=Fc x.aC;have a:∀p∈[(kK,Ff.bP qU),(iD,kM (size (Tl.runs x.aC))),(kW,D4 [1,(wa x.aC:Nat),(wb x.aC:Nat)]),(fP,D4 (flat (Tl.runs x.aC)))],Vl.get (lI x).1 p.1=ay p.2:=λp hp=>d1 p (aA6 _ hp);have o:Vl.get P kK=ay (Ff.bP qU):=(b _ dc dc dc).trans (a (kK,_) (.head _));have q:Vl.get P iD=ay (kM (size (Tl.runs x.aC))):=(b _ dc dc dc).trans (a (iD,_) (.tail _ (.head _)));have r:Vl.get P kW=ay (D4 [1,(wa x.aC:Nat),(wb x.aC:Nat)]):=(b _ dc dc dc).trans (a (kW,_) (.tail _ (.tail _ (.head _))));have s:Vl.get P fP=ay (D4 (flat (Tl.runs x.aC))):=(b _ dc dc dc).trans (a (fP,_) (.tail _ (.tail _ (.tail _ (.head _)))));have t:Vl.get P pQ=if 0<=x.prev then ay (kM x.prev) else none:=(b _ dc dc dc).trans d2
 have u:got P kK=Ff.bP qU:=by unfold got;rw[o];rfl
 have v:got P iD=kM (size (Tl.runs x.aC)):=by unfold got;rw[q];rfl
 have i:got P kW=D4 [1,(wa x.aC:Nat),(wb x.aC:Nat)]:=by unfold got;rw[r];rfl
 have w:isX P:=by
  unfold isX;rw[u,v,i];refine⟨m,⟨rfl,rfl⟩,⟨rfl,d⟩,rfl,rfl,λy c=>?_⟩;have c:y∈[kM 1,kM (wa x.aC:Nat),kM (wb x.aC:Nat)]:=c;simp only[auI,avP,or_false] at c;rcases c with rfl|rfl|rfl
  ·exact⟨rfl,by show (0:Int)<=1;decide,by show (1:Int)<=4;decide⟩
  ·exact⟨rfl,by show (0:Int)<=(wa x.aC:Nat);omega,by show ((wa x.aC:Nat):Int)<=4;omega⟩
  ·exact⟨rfl,by show (0:Int)<=(wb x.aC:Nat);omega,by show ((wb x.aC:Nat):Int)<=4;omega⟩
 have e:yR P=ay (Tl.runs x.aC):=by
  unfold yR;rw[s];show (if (6:Int)=6 then index 0 ((flat (Tl.runs x.aC)).map kM) else ax)=_;rw[auC rfl];exact MY (azI 0) g
 have f:Ib P=ay x.prev:=by
  unfold Ib;rw[t];by_cases h:0<=x.prev
  ·rw[auC h];show (if inr (kM x.prev) 2147483647 then ay (kM x.prev).n else ax)=_;rw[auC ⟨rfl,h,hp.2⟩];rfl
  ·rw[auB h];show ay (-1:Int)=ay x.prev;rw[show x.prev=-1 by omega]
 unfold keys;rw[auC w,e,f,i];rfl
theorem ajL (e:x.aC.length<=8192)(c:Tl.check x.aC=0):T5 ⟨[1,(wa x.aC:Nat),(wb x.aC:Nat)],Tl.runs x.aC,x.prev⟩ (rows x.aC) ∧
  aC ⟨[1,(wa x.aC:Nat),(wb x.aC:Nat)],Tl.runs x.aC,x.prev⟩ (rows x.aC)=x.aC:=by
 have a:=QD (q:=x.prev) c (Qi x.aC);have f:=GB (azI 0) (Gv c);have h:=Fm x.aC;have i:=Fc x.aC;have g:=Tl.qW x.aC;have b:(Cu (Tl.runs x.aC)).length=x.aC.length:=by rw[Qi,avJ]
 have hw:wide ⟨[1,(wa x.aC:Nat),(wb x.aC:Nat)],Tl.runs x.aC,x.prev⟩=1+wa x.aC+wb x.aC:=by
  show (1:Int).toNat+((wa x.aC:Nat):Int).toNat+((wb x.aC:Nat):Int).toNat=_;rw[auJ,auJ];rfl
 have hlen:(rows x.aC).length=x.aC.length*(1+wa x.aC+wb x.aC):=pI _ _ _;have hle:x.aC.length*(1+wa x.aC+wb x.aC)<=8192*9:=axG e om;refine⟨⟨⟨rfl,λn b=>?_⟩,⟨by show (Tl.runs x.aC).length<=_;omega,λp hp=>by have:=f p hp;omega⟩,⟨by show (Cu (Tl.runs x.aC)).length<=_;omega,by rw[hw];show (Cu (Tl.runs x.aC)).length*_<=_;rw[b,hlen];exact auL _,om⟩,λy d=>?_,by rw[a];exact c⟩,a⟩
 ·have b:n∈[1,((wa x.aC:Nat):Int),((wb x.aC:Nat):Int)]:=b;simp only[auI,avP,or_false] at b;rcases b with rfl|rfl|rfl<;>omega
 ·rw[a] at d;exact (Tl.MS (Tl.xB c y d)).2.1.2
theorem YQ {i:It}(h:Fp x i 0)(f:x.aC.length<=8192)(B:0<=a) :
  (∀y,0<=a->Bd.check i=0->keys i.obj=ay y->(Ff.decode i.obj).2=0->T5 y (Ff.decode i.obj).1)∧(∀n∈(Ff.of i.obj).1,Ff.full n=Ff.nFl)∧i.num=x.own∧i.gen=0∧∃t,t.k=7∧read i a=(⟨a,x.aC,t,x.prev,-1,x.own⟩,0):=by
 unfold Fp at h;have b:=why.eq_1 x;by_cases hw:why x≠0
 ·rw[auC hw] at h;exact absurd h.2.symm hw
 rw[auB hw] at h;have hw:=awX.1 hw;rw[hw] at b;obtain⟨D,m,he,hi⟩:=h;rw[auB (λh=>h he.symm)] at hi;by_cases d:Tl.check x.aC≠0
 ·rw[auC d] at b;exact absurd b.symm d
 rw[auB d] at b;have d:=awX.1 d;by_cases o:x.own < 1∨8191 < x.own∨x.prev < -1∨2147483647 < x.prev
 ·rw[auC o] at b;cases b
 rw[auB o] at b;by_cases c3:Vl.check 1 x.trailer≠0
 ·rw[auC c3] at b;exact absurd b.symm c3
 rw[auB c3] at b;by_cases p:x.trailer.k≠7
 ·rw[auC p] at b;cases b
 rw[auB p] at b;by_cases e:(lI x).2≠0
 ·rw[auC e] at b;exact absurd b.symm e
 have e:=awX.1 e;have l:=O9 e;have q:=EH f;have hlen:(rows x.aC).length=x.aC.length*(1+wa x.aC+wb x.aC):=pI _ _ _;have C:=Fm x.aC;have E:=Fc x.aC;have hle:x.aC.length*(1+wa x.aC+wb x.aC)<=8192*9:=axG f om;have r:D.length<=1048576:=by
  have:=m;unfold Ff.MT at this;rw[auB dc,auC dc,auC (Gb f)] at this;omega
 obtain⟨e1,e2,⟨e3,s⟩,u⟩:=Ff.OL he.symm m (aaJ x.aC) r om;have c:=WI e d om e1 λk n1 n2 n3=>u k n1 n2 n3 (.inl l);obtain⟨v,w⟩:=ajL f d;subst hi;have z:Bd.check ⟨x.own,0,(Ff.zF (lI x).1 (pm x.aC) D).1⟩=0:=by
  unfold Bd.check;rw[auB,auB (λh=>h e2),auB (by show ¬(Ff.zF (lI x).1 (pm x.aC) D).1.k=8;rw[e1];decide)];have:Dk.numbers ⟨x.own,0,(Ff.zF (lI x).1 (pm x.aC) D).1⟩=true:=by
   simp only[Dk.numbers,auY,avK];omega
  rw[this];decide
 refine⟨λy _ _ A _=>?_,λn j=>?_,rfl,rfl,.mk 7 (Ff.zF (lI x).1 (pm x.aC) D).1.n (Ff.zF (lI x).1 (pm x.aC) D).1.g [] (Ff.zF (lI x).1 (pm x.aC) D).1.keys (Ff.zF (lI x).1 (pm x.aC) D).1.kids,rfl,?_⟩
 ·have:=c.symm.trans A;rw[<-axN this];show T5 _ (Ff.decode (Ff.zF (lI x).1 (pm x.aC) D).1).1;rw[e3];exact v
 ·have j:n∈(Ff.of (Ff.zF (lI x).1 (pm x.aC) D).1).1:=j;rw[s] at j;rw[avD.1 j];decide
 ·unfold read;rw[auB om,auB (λh=>h z)];show (match keys (Ff.zF (lI x).1 (pm x.aC) D).1 with|none=>_|some x=>_)=_;rw[c];dsimp only;rw[e3,auB (show ¬((0:Int)≠0) by decide),w]
end Cs
namespace Ff
theorem NN {v:Ob}:(Vl.put o key v).kids.length<=o.kids.length+1:=by
 show (o.kids.take _++v::o.kids.drop _).length<=_;rw[auH,auX,auM,auT];omega
theorem Ek {v:Ob}(c:Vl.check 1 o=0)(d:Vl.keyed o=aw)(f:Vl.name key=aw)(hL:key≠Vl.rQ)(e:v.k≠0)(a:Vl.check 2 v=0)(g:o.kids.length<=8190):Vl.set o key v=(Vl.put o key v,0):=by
 have b:=Vl.A2 c d f (λ_=>hL) e a g;unfold Vl.set Vl.right;rw[auB (by rw[d];decide),auB (by rw[c];decide),auB e,auB (by rw[b];decide)]
theorem TI {p:Pm}{D:List UInt8}(h:(plain o D).2=0)(c:D.length<=1048576)(hp:pmI p)(g:o.kids.length<=8188):(zF o p D).2=0:=by
 obtain⟨d,i,b,j,l,m⟩:=NP h c;have a:Vl.keyed (plain o D).1=true:=by simp[Vl.keyed,d]
 have e1:=Ek (key:=aQ) (v:=bP nFl) b a dc dc (show (5:Int)≠0 by decide) (nG nFl 2 dc) om;have e:=Vl.A2 (key:=aQ) (v:=bP nFl) b a dc (λ_=>by decide) (show (5:Int)≠0 by decide) (nG nFl 2 dc) om;have f:=NN (o:=(plain o D).1) (key:=aQ) (v:=bP nFl);have e2:=Ek (key:=bS) (v:=cP p) e a dc dc (show (7:Int)≠0 by decide) (yQ p 2 dc hp) om;unfold zF;rw[auB (λk=>k h),e1,auB (show ¬((0:Int)≠0) by decide)];dsimp only;rw[e2,auB (show ¬((0:Int)≠0) by decide)]
end Ff
namespace Cs
theorem abO {i:It}{e:Int}(h:Fp x i e)(a:x.aC.length<=8192)(hw:why x=0)(hp:∀D,(Ff.plain (lI x).1 D).2=0)(d:(lI x).1.kids.length<=8188):e=0:=by
 unfold Fp at h;rw[auB (λk=>k hw)] at h;obtain⟨D,b,he,_⟩:=h;rw[he];have c:=EH a;refine Ff.TI (hp D) ?_ (pm_I _) d;unfold Ff.MT at b;rw[auB dc,auC dc,auC (Gb a)] at b;omega
def LU:List Slt:=[⟨1,1,300,0⟩,⟨2,1,5,0⟩]
def smpX:Sec:=⟨0,LU,.mk 7 0 0 [] [] [],7,-1,2⟩
def smpZ:Sec:=⟨0,[],.mk 7 0 0 [] [] [],0,0,0⟩
def smpI:It:=⟨1,0,.mk 7 0 0 [] [] []⟩
theorem ajG:why smpX=0:=by decide +kernel
theorem Zw:(lI smpX).1.kids.length<=8188:=by decide +kernel
theorem Yn (D:List UInt8):(Ff.plain (lI smpX).1 D).2=0:=by
 unfold Ff.plain;rw[auB (by decide +kernel),auB (by decide +kernel)]
theorem Ta:why smpZ=1:=by decide +kernel
theorem aaR:read smpI 0=(Tl.Gw,20):=by
 have a:Bd.check smpI=0:=by decide +kernel
 have b:keys smpI.obj=none:=by decide +kernel
 unfold read;rw[auB dc,auB (λh=>h a),b]
theorem acR:wa LU=2∧wb LU=0:=by decide +kernel
end Cs
namespace Cs
theorem aaI (p:Pm):(Ff.cP p).wt<=100:=by
 have:(Ff.cP p).wt=(Ff.cP ⟨0,0,0⟩).wt:=rfl;rw[this];decide +kernel
theorem agW (o:Ob)(p:Pm)(D:List UInt8):(Ff.zF o p D).1.wt<=o.wt+D.length+1000:=by
 have a:=Ff.Sj o D;have b:=Vl.JC (Ff.plain o D).1 Ff.aQ (Ff.bP Ff.nFl);have c:=Vl.JC (Vl.set (Ff.plain o D).1 Ff.aQ (Ff.bP Ff.nFl)).1 Ff.bS (Ff.cP p);have d:=aaI p;have e:(Ff.bP Ff.nFl).wt<=100:=by decide +kernel
 have f:Ff.aQ.length<=20:=dc
 have g:Ff.bS.length<=20:=dc
 have h:Vl.ob0.wt<=6:=dc
 unfold Ff.zF;split
 ·omega
 split
 ·show Vl.ob0.wt<=_;omega
 split
 ·show Vl.ob0.wt<=_;omega
 ·show (Vl.set (Vl.set (Ff.plain o D).1 Ff.aQ (Ff.bP Ff.nFl)).1 Ff.bS (Ff.cP p)).1.wt<=_;omega
theorem X3 {i:It}{e:Int}(h:Fp x i e)(a:x.aC.length<=8192)(hw:x.trailer.wt<=10000000):i.obj.wt<=1000000000:=by
 have k:Dk.it0.obj.wt<=6:=dc
 unfold Fp at h;split at h
 ·rw[h.1];omega
 obtain⟨D,b,he,hi⟩:=h;rw[hi];split
 ·omega
 have c:=EH a;have l:D.length<=1048576:=by
  unfold Ff.MT at b;rw[auB dc,auC dc,auC (Gb a)] at b;omega
 have m:=agW (lI x).1 (pm x.aC) D;have n:=IZ x.trailer;have d:=Tl.qW x.aC;obtain⟨f,g⟩:=Ja x om;have j:=FE (bL x) (iC x.trailer) 100000 f;have o:(100000+11)*(bL x).length<=(100000+11)*5:=aAQ _ g;have p:(lI x).1.wt<=(iC x.trailer).wt+(100000+11)*(bL x).length+6:=j;show (Ff.zF (lI x).1 (pm x.aC) D).1.wt<=_;omega
end Cs
end
section
open Eng Go.RowKit
theorem ov7 (N:Mem):OV N.A N.w (obV (.mk 7 0 0 [] [] []) cI cI) (.mk 7 0 0 [] [] []):=tE.ov (o:=.mk 7 0 0 [] [] []) (vk:=cI) (vc:=cI) (cs:=[]) ⟨SlA.nil _ _ _ _,SlA.nil _ _ _ _,.nil⟩
theorem DZ (M:Mem)(w:ao)(o:Rp M)(p:Od M)(f:Pws M)(hM:M.has w):jR ah 6 #[] M w (λr _=>r=.bool aw):=by
 refine bB hM λK hK=>xM ?_;unfold qI nz;have e1:∀{PK:PKT} {K:VWP} {W:ao},DoX ah (aV 60 #[(0,ad 1),(1,ad 1),(2,ad 300)]) W PK K=K (slV ⟨1,1,300,0⟩) W:=λ{PK K W}=>aD krx;have e2:∀{PK:PKT} {K:VWP} {W:ao},DoX ah (aV 60 #[(0,ad 2),(1,ad 1),(2,ad 5)]) W PK K=K (slV ⟨2,1,5,0⟩) W:=λ{PK K W}=>aD krx;have e3:∀{PK:PKT} {K:VWP} {W:ao},DoX ah (aV 25 #[(0,ad 7)]) W PK K=K (obV (.mk 7 0 0 [] [] []) cI cI) W:=λ{PK K W}=>aD krx;have e4:∀{b:Nat} {PK:PKT} {K:VWP} {W:ao},DoX ah (aV 34 #[(1,bO b 0 2 2),(2,obV (.mk 7 0 0 [] [] []) cI cI),(3,ad 7),(4,ad (-1)),(5,ad 2)]) W PK K=K (Jq Cs.smpX (bO b 0 2 2) cI cI) W:=λ{b PK K W}=>aD krx;have e5:∀{PK:PKT} {K:VWP} {W:ao},DoX ah (aV 34 #[(2,obV (.mk 7 0 0 [] [] []) cI cI)]) W PK K=K (Jq Cs.smpZ cI cI cI) W:=λ{PK K W}=>aD krx;have e6:∀{PK:PKT} {K:VWP} {W:ao},DoX ah (aV 27 #[(0,ad 1),(2,obV (.mk 7 0 0 [] [] []) cI cI)]) W PK K=K (itV Cs.smpI cI cI) W:=λ{PK K W}=>aD krx;rw[e1,e2];refine bK (λb=>bO b 0 2 2) (GU Cs.LU) 60 (λ_=>by kernel_rfl) (bT.memS hM) λb1 w1 c=>?_;have c:=c.toU 4 2 2 rfl om om;obtain⟨N1,l1,g,c⟩:=c.bG 0 rfl;have g:SlA N1.A N1.w (bO b1 0 2 2) 4 Cs.LU.length (GU Cs.LU):=g;rw[e3,e4];refine V9 c λb2 w2 c=>?_;refine My (y:=Cs.smpX) 0 rfl rfl rfl c rfl λw3 c=>?_;rw[se_v c 0 rfl];have c:bT M.A w w3 [jN b2 Cs.smpX (bO b1 0 2 2) cI cI,.mem N1]:=c;refine bH c 1 rfl (JH Cs.smpX _ cI cI N1 w3 (f.le l1) dc dc (c.hasM 1 rfl) g (ov7 N1)) ?_;rintro _ N2 w4 l2 ⟨i,e,u,x,rfl,q,h⟩ c;have he:e=0:=Cs.abO q dc Cs.ajG Cs.Yn Cs.Zw;subst he;obtain⟨B,C,D,E,t,b6,a1⟩:=Cs.YQ q dc (a:=9) dc;have m:i.obj.wt<=1000000000:=Cs.X3 q dc dc;have c:=c.tail;simp only[ex];refine Zn c λb3 w5 c=>?_;refine L7 0 (i':=i) h.oneK h.oneC c rfl λw6 c=>?_;have c:bT M.A w w6 [itE b3 i u x,.mem N2]:=c;rw[EN (c.agg 0 rfl Q3)];have j:=l1.trans l2;refine bH c 1 rfl (JF i 9 N2 w6 (o.le j) (p.le j) (f.le j) m (c.hasM 1 rfl) h C B) ?_;rintro _ N3 w7 l3 ⟨sv,rfl,d⟩ c;rw[a1] at d ⊢;obtain⟨z,F,G,rfl,H,I⟩:=d;simp only[ex];refine V9 c λJ w8 c=>?_;refine My (y:=⟨9,Cs.LU,t,7,-1,2⟩) 0 H.one I.oneK I.oneC c rfl λw9 c=>?_;have c:bT M.A w w9 [jN J ⟨9,Cs.LU,t,7,-1,2⟩ z F G,itE b3 i u x,.mem N3]:=c;rw[e3,e6];have k:=j.trans l3;refine bH c 2 rfl (JF Cs.smpI 0 N3 w9 (o.le k) (p.le k) (f.le k) dc (c.hasM 2 rfl) (ov7 N3) (λn hn=>by cases hn) (λy _ _ hy _=>by
  have:Cs.keys Cs.smpI.obj=none:=by decide +kernel
  rw[this] at hy;cases hy)) ?_
 rintro _ N4 b8 Y ⟨sv,rfl,d⟩ c;rw[Cs.aaR] at d ⊢;obtain⟨zs,zk,zc,rfl,a6,L⟩:=d;simp only[ex];refine V9 c λb7 c0 c=>?_;refine My (y:=Tl.Gw) 0 a6.one L.oneK L.oneC c rfl λN c=>?_;have c:=c.tail;have c:bT M.A w N [jN J ⟨9,Cs.LU,t,7,-1,2⟩ z F G,itE b3 i u x,.mem N4]:=c;rw[EN (c.agg 1 rfl Q3)];have l:=k.trans Y;refine bH c 2 rfl (JF i (-1) N4 N (o.le l) (p.le l) (f.le l) m (c.hasM 2 rfl) ((h.le l3).le Y) C (λy h0 _ _ _=>absurd h0 dc)) ?_;rintro _ N5 c1 l5 ⟨sv,rfl,d⟩ c;have a7:Cs.read i (-1)=(Tl.Gw,1):=by unfold Cs.read;rw[auC dc]
 rw[a7] at d ⊢;obtain⟨us,uk,uc,rfl,a8,O⟩:=d;simp only[ex];refine V9 c λb9 c2 c=>?_;refine My (y:=Tl.Gw) 0 a8.one O.oneK O.oneC c rfl λP c=>?_;have c:=c.tail;have c:bT M.A w P [jN J ⟨9,Cs.LU,t,7,-1,2⟩ z F G,itE b3 i u x,.mem N5]:=c;rw[e3,e5];have b0:=l.trans l5;refine bH c 2 rfl (JH Cs.smpZ cI cI cI N5 P (f.le b0) dc dc (c.hasM 2 rfl) (SlA.nil _ _ _ _) (ov7 N5)) ?_;rintro _ N6 c3 l6 ⟨i2,b4,jk,jc,rfl,s,Q⟩ c;have hZ:b4=1:=by
  unfold Cs.Fp at s;rw[auC (by rw[Cs.Ta];decide)] at s;rw[s.2,Cs.Ta]
 subst hZ;simp only[ex];refine Zn c λc4 c5 c=>?_;refine L7 0 (i':=i2) Q.oneK Q.oneC c rfl λS c=>?_;have c:=c.tail;have c:bT M.A w S [jN J ⟨9,Cs.LU,t,7,-1,2⟩ z F G,itE b3 i u x,.mem N6]:=c;have lN:=((((l2.trans l3).trans Y).trans l5).trans l6);refine bH c 2 rfl (Ej Cs.LU _ N6 S dc (c.hasM 2 rfl) (g.le lN)) ?_;rintro _ Z T l7 rfl c;have c:bT M.A w T [jN J ⟨9,Cs.LU,t,7,-1,2⟩ z F G,itE b3 i u x,.mem Z]:=c;rw[m_w3,Cs.acR.1,Cs.acR.2];have e7:∀{PK:PKT} {K:VWP} {W:ao} {xo yo:Operand},DoX ah (mEq .eql 43 xo yo (w3V ((2:Nat):Int) ((0:Nat):Int)) (w3V 2 0)) W PK K=K (.bool aw) W:=λ{PK K W xo yo}=>aD krx;rw[e7];have U:=(g.le lN).le l7;have V:=((((H.le Y).le l5).le l6).le l7);have X:M.le Z:=(l1.trans lN).trans l7;simp only[rs,auE];rw[F2,uW c 1 rfl,D];have e8:Cs.smpX.own=2:=rfl;simp only[rs,e8,auE];rw[NF,E5 c 1 rfl,E];simp only[rs,auE];rw[tX,Gg c 0 rfl]
 try simp only[rs,auE]
 refine aK c (R:=λv=>v=.bool (ai (Cs.LU=Cs.LU))) (OZ Cs.LU Cs.LU z _ Z T dc (c.hasM 2 rfl) V U) ?_;rintro _ c6 rfl c;simp only[rs,auE];rw[Kp,aJ aU (c.cell 0 rfl 8 rfl)];simp only[rs,auE];rw[akZ,aJ aU (c.cell 0 rfl 9 rfl)];simp only[rs,auE];rw[La,aJ aU (c.cell 0 rfl 10 rfl)];simp only[rs,auE];rw[apH,aJ aU (c.cell 0 rfl 0 rfl)];simp only[rs,auE];exact hK _ _ Z _ 2 c rfl X rfl
end
end Go.Proofs.YtlgndjkieegnaaaGreatDoor

namespace Go.Proofs.YtlgndjkieegnaaaGreatDoor
variable{A:Nat->Prop}{K:VWP}{M N:Eng.Mem}{W w:ao}{a:Int}{args:Array aq}{b f fuel i:Nat}{cs:List aq}{key:List UInt8}{o:Ob}{v vc vk:aq}{x:Sec}{xo yo:Operand}{t0:aq}{k0:Eng.KT}
section
open Go Eng
namespace Cs
def pick:List (List UInt8)->List Ob->List (List UInt8×Ob)
|k::ks,c::cs=>(if Dk.known k then [(k,c)] else [])++pick ks cs
|_,_=>[]
theorem Qn:∀{ks:List (List UInt8)} {cs:List Ob} {i:Nat} (a:i < ks.length) (b:i < cs.length),pick (ks.take (i+1)) (cs.take (i+1))=pick (ks.take i) (cs.take i)++if Dk.known ks[i] then [(ks[i],cs[i])] else []
|k::ks,c::cs,0,_,_=>by
  show pick [k] [c]=_;simp[pick]
|k::ks,c::cs,i+1,a,b=>by
  have d:=Qn (ks:=ks) (cs:=cs) (i:=i) (by simpa using a) (by simpa using b);show pick (k::ks.take (i+1)) (c::cs.take (i+1))=pick (k::ks.take i) (c::cs.take i)++_;rw[pick,pick,d,auN];rfl
theorem Dm {k:List UInt8}:∀{ks:List (List UInt8)} {cs:List Ob},k ∉ ks->Vl.lk k ks cs=ax
|[],cs,_=>by cases cs<;>rfl
|a::ks,[],_=>rfl
|a::ks,c::cs,h=>by
  rw[Vl.lk,auB (λe=>h (by rw[e];exact avQ ..)),Dm (λb=>h (auZ _ b))]
def three (ks:List (List UInt8))(cs:List Ob):List (List UInt8×Ob):=bj.filterMap λk=>(Vl.lk k ks cs).map λv=>(k,v)
theorem Jh (ks:List (List UInt8))(cs:List Ob):three ks cs=((Vl.lk Dk.idK ks cs).map λv=>(Dk.idK,v)).toList++(((Vl.lk Dk.LV ks cs).map λv=>(Dk.LV,v)).toList++((Vl.lk Dk.Nv ks cs).map λv=>(Dk.Nv,v)).toList):=by
 unfold three bj;cases a:Vl.lk Dk.idK ks cs<;>cases b:Vl.lk Dk.LV ks cs<;>cases c:Vl.lk Dk.Nv ks cs<;>simp[a,b,c]
theorem M7:∀{ks:List (List UInt8)} {cs:List Ob},Vl.NT ks->pick ks cs=three ks cs
|[],cs,_=>by rw[Jh,Dm sm,Dm sm,Dm sm];cases cs<;>rfl
|a::ks,[],_=>by rw[Jh];rfl
|a::ks,c::cs,h=>by
  obtain⟨b,d⟩:=axD.1 h;have e:=M7 (cs:=cs) d;have out:∀k,Vl.less a k=au->k ∉ ks:=λk f hm=>by have:=b k hm;rw[f] at this;cases this
  rw[pick,e,Jh,Jh,Vl.lk,Vl.lk,Vl.lk];by_cases e1:a=Dk.idK
  ·subst e1;rw[auC dc,auC rfl,auB dc,auB dc,Dm (out Dk.idK dc)];rfl
  by_cases e2:a=Dk.LV
  ·subst e2;rw[auC dc,auB e1,auC rfl,auB dc,Dm (out Dk.idK dc),Dm (out Dk.LV dc)];rfl
  by_cases e3:a=Dk.Nv
  ·subst e3;rw[auC dc,auB e1,auB e2,auC rfl,Dm (out Dk.idK dc),Dm (out Dk.LV dc),Dm (out Dk.Nv dc)];rfl
  rw[auB (by unfold Dk.known;simp[e1,e2,e3]),auB e1,auB e2,auB e3];rfl
theorem ZP (b:Vl.check 1 o=0)(a:Vl.keyed o=aw):pick o.keys o.kids=has o bj:=by
 rw[M7 (Vl.fM b a).1];unfold three has
 congr 1
 funext k
 rw[Vl.I1 a]
theorem Tf:∀(ks:List (List UInt8)) (cs:List Ob),(pick ks cs).length<=ks.length
|[],cs=>by cases cs<;>exact avG _
|_::_,[]=>avG _
|k::ks,c::cs=>by
  have:=Tf ks cs;unfold pick;rw[auH,auX];split
  ·show 1+_<=_;omega
  ·show 0+_<=_;omega
theorem OB:∀(f:Nat) {a b:Int},a<=b->nbG f a<=nbG f b
|0,_,_,_=>auL _
|f+1,a,b,h=>by
  unfold nbG;by_cases c:0 < a
  ·rw[auC c,auC om];have:=OB f (a:=a.fdiv 256) (b:=b.fdiv 256) (by
    rw[azN _ dc,azN _ dc];omega)
   omega
  ·rw[auB c];omega
theorem adN (a b:Int):nb (max a b)=max (nb a) (nb b):=by
 rcases Int.le_total a b with h|h
 ·rw[Int.max_eq_right h,Nat.max_eq_right (show nb a<=nb b from OB 4 h)]
 ·rw[Int.max_eq_left h,Nat.max_eq_left (show nb b<=nb a from OB 4 h)]
theorem VP {l:List Slt}:size (Tl.runs l)=match l.getLast? with|some s=>s.num+1|none=>0:=by
 obtain⟨a,d⟩:=Tl.xD l;unfold Tl.runs size;rcases List.eq_nil_or_concat (Tl.Di l) with e|⟨gs,g,e⟩
 ·rw[e] at a ⊢;have:l=[]:=a.symm;subst this;rfl
 ·rw[e] at a d ⊢;obtain⟨b,f⟩:=d g sm;rcases List.eq_nil_or_concat g with e2|⟨q,s,e2⟩
  ·exact absurd e2 b
  ·subst e2;rw[aBx] at f;have h:l=(gs.flatten++q)++[s]:=by rw[<-a];simp
   have c:=(Tl.CA.1 f).2;rw[h,aA4,aBx,aBx,avM];simp only[avS,axT,aA4,List.getLast?_singleton,Option.some_or,Tl.run];rw[c,auH];show _+((q.length+1:Nat):Int)=_;omega
def wth (o:Ob)(k:List UInt8)(v:Ob):Ob:=if (Vl.set o k v).2≠0 then o else (Vl.set o k v).1
theorem Mg:∀{l:List (List UInt8×Ob)} {o:Ob},(gJ o l).2=0->l.foldl (λo p=>wth o p.1 p.2) o=(gJ o l).1
|[],o,_=>rfl
|p::r,o,h=>by
  unfold gJ at h ⊢;by_cases a:(Vl.set o p.1 p.2).2≠0
  ·rw[auC a] at h;exact absurd h a
  rw[auB a] at h ⊢;rw[azX,<-Mg h];unfold wth;rw[auB a]
theorem Mi:∀{l:List (List UInt8×Ob)} {o:Ob},Vl.check 1 o=0->Vl.keyed o=aw->(∀p∈l,Vl.name p.1=aw∧p.1≠Vl.rQ∧p.2.k≠0∧Vl.check 2 p.2=0)->o.kids.length+l.length<=8190 ->
  (gJ o l).2=0∧(gJ o l).1.k=o.k∧Vl.check 1 (gJ o l).1=0∧(gJ o l).1.kids.length<=o.kids.length+l.length∧∀k∈(gJ o l).1.keys,k∈l.map (·.1)∨k∈o.keys
|[],o,a,_,_,_=>⟨rfl,rfl,a,auL _,λk h=>.inr h⟩
|p::r,o,a,b,hp,d=>by
  have d:o.kids.length+(r.length+1)<=8190:=d;obtain⟨f,g,i,j⟩:=hp p (avQ ..);have e:=Ff.Ek (key:=p.1) (v:=p.2) a b f g i j om;have c:=Vl.A2 (key:=p.1) (v:=p.2) a b f (λ_=>g) i j om;obtain⟨m,_,s⟩:=Ps.Yk (o:=o) (v:=p.2) (key:=p.1);obtain⟨i1,i2,i3,i4,i5⟩:=Mi (l:=r) (o:=Vl.put o p.1 p.2) c b (λq n=>hp q (auZ _ n)) om;unfold gJ;rw[e,auB (show ¬((0:Int)≠0) by decide)];refine⟨i1,i2,i3,by dsimp only;rw[auX];omega,λk hm=>?_⟩;rw[avS];rcases i5 k hm with h|h
  ·exact .inl (auZ _ h)
  ·rcases m k h with rfl|h
   ·exact .inl (avQ ..)
   ·exact .inr h
theorem adO {k:List UInt8}{v:Ob}:∀{ks:List (List UInt8)} {cs:List Ob},Vl.lk k ks cs=ay v->k∈ks∧v∈cs
|a::ks,c::cs,h=>by
  unfold Vl.lk at h;split at h
  ·rename_i e
   cases h;exact⟨by rw[e];exact avQ ..,avQ ..⟩
  ·have:=adO h;exact⟨auZ _ this.1,auZ _ this.2⟩
|[],_,h=>by simp[Vl.lk] at h
|_::_,[],h=>by simp[Vl.lk] at h
theorem Wa {p:List UInt8×Ob}(h:p∈has o bj):p.1∈bj∧Vl.get o p.1=ay p.2:=by
 obtain⟨k,b,e⟩:=List.mem_filterMap.1 h;cases a:Vl.get o k with
|none=>rw[a] at e;cases e
|some v=>rw[a] at e;cases e;exact⟨b,a⟩
theorem Zj (o:Ob):Vl.NT ((has o bj).map (·.1)):=by
 have h:((has o bj).map (·.1)).Sublist bj:=by
  unfold has;generalize bj=l
  induction l with
 |nil=>exact List.Sublist.slnil
 |cons a l b=>
   rw[aBv];cases Vl.get o a with
  |none=>exact List.Sublist.cons _ b
  |some v=>exact List.Sublist.cons_cons _ b
 exact List.Pairwise.sublist h (by unfold bj;decide)
theorem T4 (l:Vl.check 1 o=0)(g:o.k=7):iC o=ofL (has o bj)∧(iC o).k=7∧Vl.check 1 (iC o)=0∧(iC o).kids.length<=3∧∀k∈(iC o).keys,k∈bj:=by
 have e:iC o=ofL (has o bj):=by
  unfold iC;rw[auB];rintro (h|h)
  ·exact h.1 g
  ·exact h l
 have m:Vl.keyed o=true:=by simp[Vl.keyed,g]
 have hlen:=VZ o bj;have s:bj.length=3:=rfl;have a:∀c∈((has o bj).map (·.2)),c∈o.kids:=λc b=>by
  obtain⟨p,hp,rfl⟩:=avN.1 b;have:=(Wa hp).2;rw[Vl.I1 m] at this;exact (adO this).2
 have d:∀k∈((has o bj).map (·.1)),k∈bj:=λk f=>by
  obtain⟨p,hp,rfl⟩:=avN.1 f;exact (Wa hp).1
 obtain⟨⟨n,a2,a3,a4,a5,t,i⟩,j⟩:=Vl.gG.1 l;have q:Vl.rising o=true:=by
  unfold Vl.form at i;rw[g] at i;simpa using i
 obtain⟨u,v,w,r⟩:=Vl.kU.1 q;rw[e];refine⟨rfl,rfl,Vl.gG.2 ⟨⟨n,rfl,(λh=>absurd h (show ¬((7:Int)=9) by decide)),rfl,(show (0:Nat)<=_ from avG _),?_,?_⟩,λc b=>j c (a c b)⟩,?_,d⟩
 ·show ((has o bj).map (·.2)).length<=8191;rw[avJ];omega
 ·have:Vl.rising (ofL (has o bj))=true:=Vl.kU.2 ⟨by show ((has o bj).map (·.1)).length=((has o bj).map (·.2)).length;rw[avJ,avJ],Zj o,λk f=>by
   have:=d k f;simp only[bj,auI,avP,or_false] at this;rcases this with rfl|rfl|rfl<;>exact⟨dc,λ_=>by decide⟩,λc b=>r c (a c b)⟩
  show ((!(ai ((7:Int)=5))||_)&&(!(ai ((7:Int)=7∨(7:Int)=9))||Vl.rising (ofL (has o bj))))=aw;rw[this];rfl
 ·show ((has o bj).map (·.2)).length<=3;rw[avJ];omega
theorem MQ {l:List Int}(h:∀n∈l,-2147483647<=n∧n<=2147483647)(a:l.length<=8191):Vl.check 2 (D4 l)=0:=
 Vl.gG.2 ⟨⟨dc,rfl,(λe=>absurd e (show ¬((6:Int)=9) by decide)),rfl,(show (0:Nat)<=_ from avG _),(by show (l.map kM).length<=8191;rw[avJ];exact a),rfl⟩,λc b=>by
  obtain⟨n,d,rfl⟩:=avN.1 (show c∈l.map kM from b);exact Ff.xG n 3 dc (h n d)⟩
theorem Tx (v:x.aC.length<=4000)(i:Tl.check x.aC=0)(hp:x.prev<=2147483647)(c3:Vl.check 1 x.trailer=0)(j:x.trailer.k=7) :
  (lI x).2=0∧(lI x).1.k=7∧Vl.check 1 (lI x).1=0∧(lI x).1.kids.length<=8∧Ff.aQ ∉ (lI x).1.keys∧Ff.bS ∉ (lI x).1.keys∧Vl.rQ ∉ (lI x).1.keys:=by
 obtain⟨_,t1,t2,t3,t4⟩:=T4 c3 j;have m:=GB (azI 0) (Gv i);have q:=VI (azI 0) (Gv i);have s:=Tl.qW x.aC;have w:=Fm x.aC;have y:=Fc x.aC;have t:=(Jt x).1;have c:∀k∈(bL x).map (·.1),k∈[kK,iD,kW,fP,pQ]:=by
  intro k a;unfold bL at a;split at a
  ·exact a
  ·simp only[avA,avS,axT,auI,avP,or_false] at a ⊢;rcases a with h|h|h|h<;>simp[h]
 have u:(bL x).length<=5:=by
  unfold bL;split
  ·show 5<=5;omega
  ·show 4<=5;omega
 obtain⟨i1,i2,i3,i4,i5⟩:=Mi (l:=bL x) (o:=iC x.trailer) t2 (by simp[Vl.keyed,t1]) (λp b=>by
  have a:=c p.1 (avN.2 ⟨p,b,rfl⟩);refine⟨?_,?_,t p b,?_⟩
  ·simp only[auI,avP,or_false] at a;rcases a with e|e|e|e|e<;>rw[e]<;>decide
  ·simp only[auI,avP,or_false] at a;rcases a with e|e|e|e|e<;>rw[e]<;>decide
  ·unfold bL at b;rcases avF.1 b with h|h
   ·simp only[auI,avP,or_false] at h;rcases h with rfl|rfl|rfl|rfl
    ·decide
    ·exact Ff.xG _ 2 dc om
    ·refine MQ (λn f=>?_) (by show 3<=8191;decide);simp only[auI,avP,or_false] at f;rcases f with rfl|rfl|rfl<;>omega
    ·refine MQ (λn f=>?_) (by rw[nU];omega);obtain⟨r,g,d⟩:=azP.1 (show n∈(Tl.runs x.aC).flatMap _ from f);have:=m r g;simp only[auI,avP,or_false] at d;rcases d with rfl|rfl<;>omega
   ·split at h
    ·simp only[auI,avP,or_false] at h;subst h;exact Ff.xG _ 2 dc om
    ·cases h) om
 have out:∀k,k ∉ [kK,iD,kW,fP,pQ]->k ∉ bj->k ∉ (lI x).1.keys:=λk n1 n2 hm=>by
  rcases i5 k hm with h|h
  ·exact n1 (c k h)
  ·exact n2 (t4 k h)
 exact⟨i1,i2.trans t1,i3,(show (gJ (iC x.trailer) (bL x)).1.kids.length<=8 by omega),out _ dc dc,out _ dc dc,out _ dc dc⟩
end Cs
namespace Ff
def Eb (o:Ob)(p:Pm):Ob:=
 if (Vl.set o aQ (bP nFl)).2≠0 then o
 else if (Vl.set (Vl.set o aQ (bP nFl)).1 bS (cP p)).2≠0 then (Vl.set o aQ (bP nFl)).1
 else (Vl.set (Vl.set o aQ (bP nFl)).1 bS (cP p)).1
theorem Sd {o':Ob}(a:o.keys=o'.keys)(b:o.kids=o'.kids)(k:List UInt8)(v:Ob):(Vl.put o k v).keys=(Vl.put o' k v).keys∧(Vl.put o k v).kids=(Vl.put o' k v).kids:=by
 unfold Vl.put;rw[a,b];exact⟨rfl,rfl⟩
theorem Ym {p:Pm}{D:List UInt8}(b:o.k=7)(c:Vl.check 1 o=0)(m:o.kids.length<=8100)(n1:aQ ∉ o.keys)(n2:bS ∉ o.keys)(n3:Vl.rQ ∉ o.keys)(j:D.length<=1048576)(hp:pmI p) :
  (zF o p D).2=0∧(zF o p D).1.keys=(Eb o p).keys∧(zF o p D).1.kids=(Eb o p).kids:=by
 have d:Vl.keyed o=true:=by simp[Vl.keyed,b]
 have e:=(Vl.fM c d).2;have f:Vl.check 1 (kP o)=0:=by
  have:o.s=[]:=by
   obtain⟨⟨_,a2,_⟩,_⟩:=Vl.gG.1 c;unfold Vl.gL at a2;rw[b] at a2;simp[Vl.used] at a2;simp[a2]
  obtain⟨k,n,g,s,ks,cs⟩:=o;have b:k=7:=b;have this:s=[]:=this;subst b;subst this;exact c
 have d1:Vl.aR (kP o) aQ=kP o:=by
  show Ob.mk _ _ _ _ (Vl.bY aQ o.keys o.kids).1 (Vl.bY aQ o.keys o.kids).2=_;rw[Vl.rC e n1];rfl
 have d2:Vl.aR (kP o) bS=kP o:=by
  show Ob.mk _ _ _ _ (Vl.bY bS o.keys o.kids).1 (Vl.bY bS o.keys o.kids).2=_;rw[Vl.rC e n2];rfl
 have d3:Vl.aR (kP o) Vl.rQ=kP o:=by
  show Ob.mk _ _ _ _ (Vl.bY Vl.rQ o.keys o.kids).1 (Vl.bY Vl.rQ o.keys o.kids).2=_;rw[Vl.rC e n3];rfl
 have a:plain o D=(.mk 9 o.n o.g D o.keys o.kids,0):=by
  unfold plain;rw[auB (λh=>h.2 b),auB (λh=>h f)];unfold bare;rw[d1,d2];unfold Bd.I5;rw[d3];rfl
 have he:=TI (o:=o) (p:=p) (D:=D) (by rw[a]) j hp om;obtain⟨q,A,l,B,C,E⟩:=NP (o:=o) (D:=D) (by rw[a]) j;have i:Vl.keyed (plain o D).1=true:=by simp[Vl.keyed,q]
 have f1:=Ek (key:=aQ) (v:=bP nFl) c d dc dc (show (5:Int)≠0 by decide) (nG nFl 2 dc) om;have g1:=Ek (key:=aQ) (v:=bP nFl) l i dc dc (show (5:Int)≠0 by decide) (nG nFl 2 dc) om;have r:=Vl.A2 (key:=aQ) (v:=bP nFl) c d dc (λ_=>by decide) (show (5:Int)≠0 by decide) (nG nFl 2 dc) om;have t:=Vl.A2 (key:=aQ) (v:=bP nFl) l i dc (λ_=>by decide) (show (5:Int)≠0 by decide) (nG nFl 2 dc) om;have F:=NN (o:=o) (key:=aQ) (v:=bP nFl);have G:=NN (o:=(plain o D).1) (key:=aQ) (v:=bP nFl);have f2:=Ek (key:=bS) (v:=cP p) r d dc dc (show (7:Int)≠0 by decide) (yQ p 2 dc hp) om;have g2:=Ek (key:=bS) (v:=cP p) t i dc dc (show (7:Int)≠0 by decide) (yQ p 2 dc hp) om;obtain⟨s1,s2⟩:=Sd (o:=(plain o D).1) (o':=o) (by rw[a];rfl) (by rw[a];rfl) aQ (bP nFl);obtain⟨u,w⟩:=Sd s1 s2 bS (cP p);have z:¬((0:Int)≠0):=dc
 refine⟨he,?_⟩;have x:(zF o p D).1=Vl.put (Vl.put (plain o D).1 aQ (bP nFl)) bS (cP p):=by
  unfold zF;rw[auB (by rw[a];exact z),g1];dsimp only;rw[auB z,g2,auB z]
 have y:Eb o p=Vl.put (Vl.put o aQ (bP nFl)) bS (cP p):=by
  unfold Eb;rw[f1];dsimp only;rw[auB z,f2,auB z]
 rw[x,y];exact⟨u,w⟩
end Ff
end
section
open Eng Go.RowKit
theorem Hp (n:Int)(w:ao)(c:n<=9223372036854775807):Ret ah 46 #[ad n] w (λv w'=>v=ad (Cs.nb n:Nat)∧w=w'):=by
 refine aX λK a=>yC ?_;unfold pZ nz;refine loop (λvs W=>∃(m:Int) (k:Nat),vs=[ad m,ad (k:Int)]∧k<=4∧m<=9223372036854775807∧Cs.nb n=k+Cs.nbG (4 - k) m∧w=W) (λvs _=>4 - n1 vs) ⟨n,0,rfl,om,c,by simp[Cs.nb],rfl⟩ ?_;rintro vs g ⟨m,k,rfl,i,d,he,rfl⟩ _;simp only[mQ,gd,rs,nz];by_cases hm:0 < m
 ·simp only[auG hm,rs,oG];by_cases b:(k:Int) < 4
  ·simp only[auG b,i_t];rw[RM dc]
   try simp only[rs]
   have e:m.tdiv 256=m / 256:=aAX om;rw[e,aA om om,aA om om];refine bC ⟨m / 256,k+1,rfl,om,om,?_,rfl⟩ (by simp[n1,RowKit.intOf];omega);rw[he,show 4 - k=(4 - (k+1))+1 by omega,Cs.nbG,auC hm,azN _ dc];omega
  ·simp only[auD b,i_f];have:k=4:=om
   subst this;exact a _ _ ⟨by rw[he];rfl,rfl⟩
 ·simp only[auD hm,rs,oG,i_f];refine a _ _ ⟨?_,rfl⟩;rw[he];cases h:4 - k with
 |zero=>rfl
 |succ f=>rw[Cs.nbG,auB hm];rfl
theorem qS (l:List Slt)(v:aq)(M:Mem)(w:ao)(q:l.length<=1000000000)(n:SltI l)(f:M.has w)(h:SlA M.A M.w v 4 l.length (GU l)) :
  jR ah 14 #[v] M w (λr _=>r=w3V (Cs.wa l:Nat) (Cs.wb l:Nat)):=by
 refine bB f λK o=>vS ?_;unfold oP nz;refine o_w3 (bT.memS f) λb2 s c=>?_;refine loop (λvs W=>∃(i:Nat),vs=[ad (Cs.nb (Cs.Mc ((l.take i).map (·.a))):Nat),ad (Cs.nb (Cs.Mc ((l.take i).map (·.b))):Nat),ad (i:Int)]∧i<=l.length∧bT M.A w W [.cells b2 w0C 43,.mem M]) (λvs _=>l.length - (RowKit.intOf (vs.getD 2 undef)).toNat) ⟨0,rfl,om,c⟩ ?_;clear c;rintro vs w2 ⟨i,rfl,hi,c⟩ _;simp only[mD,gd,nz];rw[aZ axA (h.now (c.hasM 1 rfl))];simp only[rs];by_cases e:(i:Int) < (l.length:Int)
 ·simp only[auG e,i_t];have d:i < l.length:=om
  obtain⟨f1,f2⟩:=n l[i] (auS d);obtain⟨g,off,p⟩:=jQ h d;obtain⟨j,k⟩:=p w2 (c.hasM 1 rfl);refine aD j |>.mpr ?_;rw[HL,aJ aU (k 2 _ rfl)];refine BJ (Hp _ w2 f1) ?_;rw[vC];refine aD j |>.mpr ?_;rw[Hy,aJ aU (k 3 _ rfl)];refine BJ (Hp _ w2 f2) ?_;rw[vC]
  try simp only[rs]
  rw[aA om om];refine bC ⟨i+1,?_,om,c⟩ (by simp[RowKit.intOf];omega);have m:∀a b:Nat,((max a b:Nat):Int)=max (a:Int) (b:Int):=λa b=>by omega
  have e1:=Cs.adN (Cs.Mc ((l.take i).map (·.a))) l[i].a;have e2:=Cs.adN (Cs.Mc ((l.take i).map (·.b))) l[i].b;rw[rB d,avM,avM,aA5,aA5,Cs.F1,Cs.F1,e1,e2,m,m];rfl
 simp only[auD e,i_f];have:i=l.length:=om
 subst this;rw[awD,m_w3];refine M9 0 rfl c rfl λw3 c=>?_;exact eN (bJ (c.agg 0 rfl agg3)) (o _ _ M _ 1 c rfl M.le_refl rfl)
section
variable {w:ao}{PK:PKT}{S:Nat->Prop}{w0:ao}{L T:List Ent}
theorem arI {n:Nat}(h:n < 18446744073709551616):DoX ah (tG 3 98 (ad (n:Int))) w PK K=K (.int .u64 (n:Int)) w:=
 aD (by rw[eI (show (Tryz.prog.underlying 3).isSome=aw by kernel_rfl) aAj,aoB h])
theorem akP {n:Int}(hi:i < 4){ov:aq}{q:List UInt8}(c:bT S w0 w (pP ov q::T))(d:q.length<=1000000000)(k:∀a W,bT S w0 W (pP a (q++[UInt8.ofNat ((n / 256 ^ i) % 256).toNat])::T)->K a W) :
  DoX ah (tG 3 98 (ad (IntKind.wrap .i64 (8*(i:Int))))) w PK λt59 w=>
  DoX ah (iQ .shr 3 (ad n) t59) w PK λt60 w=>
  DoX ah (tG 3 5 t60) w PK λt61 w=>
  DoX ah (aM 80 1 #[(0,t61)]) w PK λt62 w=>
  DoX ah (mB .append #[80,80] 80 #[au,au] #[ov,t62]) w PK K:=by
 have b:n.fdiv (2 ^ min ((8*i:Nat):Int).toNat IntKind.i64.bits)=n / 256 ^ i:=by
  rw[azN _ (Int.le_of_lt (Int.pow_pos dc))]
  congr 1
  rcases (by omega:i=0∨i=1∨i=2∨i=3) with rfl|rfl|rfl|rfl<;>rfl
 have hu:IntKind.wrap .u8 (n / 256 ^ i)=((UInt8.ofNat ((n / 256 ^ i) % 256).toNat).toNat:Int):=by
  have e:=Int.emod_nonneg (n / 256 ^ i) (show (256:Int)≠0 by decide);have f:=aBp (n / 256 ^ i) (show (0:Int) < 256 by decide);rw[ayE,awB (show _ < 2 ^ 8 by omega)];show (n / 256 ^ i) % 256=_;omega
 rw[aA om om,show (8:Int)*(i:Int)=((8*i:Nat):Int) by omega,arI om,Ix om,b,ccu8,hu];exact afF _ c d k
end
theorem RG (l:List Slt)(v:aq)(M:Mem)(w:ao)(U:l.length<=8192)(E:SltI l)(t:M.has w)(C:SlA M.A M.w v 4 l.length (GU l)) :
  jR ah 21 #[v] M w (λr _=>r=ae (Cs.rows l)):=by
 refine bB t λK F=>Au ?_;unfold sB nz;refine bH (bT.memS t) 0 rfl (qS l v M w om E t C) ?_;rintro _ N V D rfl c;refine o_w3 c λb3 w2 c=>?_;refine M9 0 rfl c rfl λw3 c=>?_;have c:bT M.A w w3 [.cells b3 (w3C (Cs.wa l:Nat) (Cs.wb l:Nat)) 43,.mem N]:=c;have h:=C.le D;have G:=Cs.Fm l;have H:=Cs.Fc l;have u:∀i,(Cs.pM (l.take i) (Cs.wa l) (Cs.wb l)).length<=8192*9:=by
  intro i;rw[Cs.pI];exact axG (by rw[auM];omega) om
 have I:Cs.rows l=Cs.pM l (Cs.wa l) (Cs.wb l):=rfl;generalize Cs.wa l=a at *;generalize Cs.wb l=d at *;have i1:∀{W:ao} {PK:PKT} {K:VWP},DoX ah (mIA 43 (af b3 0) (ad 1)) W PK K=K (af b3 1) W:=λ{W PK K}=>aD krx;have i2:∀{W:ao} {PK:PKT} {K:VWP},DoX ah (mIA 43 (af b3 0) (ad 2)) W PK K=K (af b3 2) W:=λ{W PK K}=>aD krx;refine loop (λvs W=>∃(i:Nat),vs=[ae (Cs.pM (l.take i) a d),ad (i:Int)]∧i<=l.length∧bT M.A w W [.cells b3 (w3C a d) 43,.mem N]) (λvs _=>l.length - n1 vs) ⟨0,rfl,om,c⟩ ?_;clear c;rintro vs J ⟨i,rfl,hi,c⟩ _;simp only[nZ,gd,nz];rw[aZ axA (h.now (c.hasM 1 rfl))];simp only[rs];by_cases k:(i:Int) < (l.length:Int)
 case neg=>
  simp only[auD k,i_f];have:i=l.length:=om
  subst this;rw[awD,<-I];exact F _ _ N _ 1 c rfl D rfl
 simp only[auG k,i_t];have n:i < l.length:=om
 obtain⟨g,off,x⟩:=jQ h n;obtain⟨o,p⟩:=x J (c.hasM 1 rfl);refine aD o |>.mpr ?_;rw[Ia,aJ aU (p 1 _ rfl),ccu8];have y:Cs.num l[i].kind 1=[UInt8.ofNat (l[i].kind % 256).toNat]:=by
  show [UInt8.ofNat ((l[i].kind / (256 ^ 0)) % 256).toNat]=_;rw[show ((256:Int) ^ 0)=1 from rfl,Int.ediv_one]
 have hu:IntKind.wrap .u8 l[i].kind=((UInt8.ofNat (l[i].kind % 256).toNat).toNat:Int):=by
  have G:=Int.emod_nonneg l[i].kind (show (256:Int)≠0 by decide);have H:=aBp l[i].kind (show (0:Int) < 256 by decide);rw[ayE,awB (show _ < 2 ^ 8 by omega)];show l[i].kind % 256=_;omega
 rw[hu];refine UY _ c λL O c=>?_;have c:bT M.A w O (pP (bO L 0 1 1) (Cs.num l[i].kind 1)::[.cells b3 (w3C a d) 43,.mem N]):=by rw[y];exact c.toU 1 1 1 rfl om om
 rw[i1,aJ aU (c.cell 1 rfl 1 rfl)];simp only[rs];rw[aA om om];refine loop (λvs W=>∃(j:Nat) (ov:aq) (q:List UInt8),vs=[ov,ad ((j:Int) - 1)]∧j<=a∧q++Cs.num l[i].a j=Cs.num l[i].kind 1++Cs.num l[i].a a∧q.length+j=1+a∧bT M.A w W (pP ov q::[.cells b3 (w3C a d) 43,.mem N])) (λvs _=>(RowKit.intOf (vs.getD 1 undef)+1).toNat) ⟨a,_,Cs.num l[i].kind 1,rfl,om,rfl,by rw[Cs.jC],c⟩ ?_;clear c;rintro vs P ⟨j,ov,q,rfl,Q,f,s,c⟩ _;simp only[nY,gd,rs,nz];by_cases z:0 < j
 ·simp only[show ai ((0:Int)<=(j:Int) - 1)=aw from auG om,i_t];obtain⟨m,rfl⟩:∃m,j=m+1:=⟨j - 1,om⟩;rw[show ((m+1:Nat):Int) - 1=(m:Int) by omega];obtain⟨o,p⟩:=x P (c.hasM 2 rfl);refine aD o |>.mpr ?_;rw[HL,aJ aU (p 2 _ rfl)];refine akP (show m < 4 by omega) c om λe R c=>?_;rw[aA om om];refine bC ⟨m,e,_,rfl,om,?_,?_,c⟩ (by simp[RowKit.intOf])
  ·rw[<-f,Cs.num,auN];try rfl
  ·rw[auH];show _+1+m=_;omega
 have:j=0:=om
 subst this;simp only[show ai ((0:Int)<=((0:Nat):Int) - 1)=au from rfl,i_f];have eq:q=Cs.num l[i].kind 1++Cs.num l[i].a a:=by rw[<-f];simp[Cs.num]
 subst eq;rw[i2,aJ aU (c.cell 1 rfl 2 rfl)];simp only[rs];rw[aA om om];clear f s;refine loop (λvs W=>∃(j:Nat) (ov:aq) (q:List UInt8),vs=[ov,ad ((j:Int) - 1)]∧j<=d∧q++Cs.num l[i].b j=Cs.kJ l[i] a d∧q.length+j=1+a+d∧bT M.A w W (pP ov q::[.cells b3 (w3C a d) 43,.mem N])) (λvs _=>(RowKit.intOf (vs.getD 1 undef)+1).toNat) ⟨d,_,_,rfl,om,rfl,by rw[auH,Cs.jC,Cs.jC],c⟩ ?_;clear c;rintro vs S ⟨j,ov,q,rfl,Q,f,s,c⟩ _;simp only[oR,gd,rs,nz];by_cases z:0 < j
 ·simp only[show ai ((0:Int)<=(j:Int) - 1)=aw from auG om,i_t];obtain⟨m,rfl⟩:∃m,j=m+1:=⟨j - 1,om⟩;rw[show ((m+1:Nat):Int) - 1=(m:Int) by omega];obtain⟨o,p⟩:=x S (c.hasM 2 rfl);refine aD o |>.mpr ?_;rw[Hy,aJ aU (p 3 _ rfl)];refine akP (show m < 4 by omega) c om λe R c=>?_;rw[aA om om];refine bC ⟨m,e,_,rfl,om,?_,?_,c⟩ (by simp[RowKit.intOf])
  ·rw[<-f,Cs.num,auN];try rfl
  ·rw[auH];show _+1+m=_;omega
 have:j=0:=om
 subst this;simp only[show ai ((0:Int)<=((0:Nat):Int) - 1)=au from rfl,i_f];have eq:q=Cs.kJ l[i] a d:=by rw[<-f];simp[Cs.num]
 subst eq;rw[JU avH awI auQ (zP (c.at_ 0 rfl))];have T:=u i;have B:Cs.pM (l.take (i+1)) a d=Cs.pM (l.take i) a d++Cs.kJ l[i] a d:=by rw[rB n,Cs.L1]
 try simp only[rs]
 rw[ajC (by rw[Cs.En];omega)]
 try simp only[rs]
 rw[aA om om,<-B];refine bC ⟨i+1,rfl,om,c.tail⟩ (by simp[n1,RowKit.intOf];omega)
namespace Cs
def may (x:Sec):Int:=
 if Tl.check x.aC≠0 then Tl.check x.aC
 else if x.own < 1∨8191 < x.own∨x.prev < -1∨2147483647 < x.prev then 1
 else if Vl.check 1 x.trailer≠0 then Vl.check 1 x.trailer
 else if x.trailer.k≠7 then 10 else 0
end Cs
theorem UG (x:Sec)(vs vk vc:aq)(M:Mem)(w:ao)(p:x.aC.length<=1000000000)(hw:x.trailer.wt<=1000000000)(l:M.has w)
  (d:SlA M.A M.w vs 4 x.aC.length (GU x.aC)) (c:OV M.A M.w (obV x.trailer vk vc) x.trailer) :
  jR ah 15 #[Jq x vs vk vc] M w (λr _=>r=ad (Cs.may x)):=by
 refine bB l λK m=>Ce ?_;unfold tK nz;refine Vr x d.one c.oneK c.oneC (bT.memS l) λn o a=>?_;have fin:∀{W:ao} {e:Int},bT M.A w W [jN n x vs vk vc,.mem M]->Cs.may x=e->K (.returned (ad e)) W:=λa he=>m _ _ M _ 1 a rfl M.le_refl (by rw[he]);have b:=Cs.may.eq_1 x;rw[tX,Gg a 0 rfl];refine aK a (R:=λv=>v=ad (Tl.check x.aC)) (Qh x.aC vs M o om (a.hasM 1 rfl) d) ?_;rintro _ w3 rfl a;simp only[eC];by_cases f:Tl.check x.aC=0
 case neg=>
  rw[auC f] at b;simp only[auG (show Tl.check x.aC≠0 from f),i_t];exact fin a b
 rw[auB (λh=>h f)] at b;simp only[f,show ai ((0:Int)≠0)=au from rfl,i_f];rw[La,aJ aU (a.cell 0 rfl 10 rfl)];simp only[rs];have bad:x.own < 1∨8191 < x.own∨x.prev < -1∨2147483647 < x.prev->Cs.may x=1:=λh=>by rw[b,auC h]
 by_cases g:x.own < 1
 ·simp only[auG g,rs,oG,i_t];exact fin a (bad (.inl g))
 simp only[auD g,rs];rw[La,aJ aU (a.cell 0 rfl 10 rfl)];simp only[rs];by_cases a2:8191 < x.own
 ·simp only[auG a2,rs,oG,i_t];exact fin a (bad (.inr (.inl a2)))
 simp only[auD a2,rs];rw[Kp,aJ aU (a.cell 0 rfl 8 rfl)];simp only[rs];by_cases a3:x.prev < -1
 ·simp only[auG a3,rs,oG,i_t];exact fin a (bad (.inr (.inr (.inl a3))))
 simp only[auD a3,rs];rw[Kp,aJ aU (a.cell 0 rfl 8 rfl)];simp only[rs];by_cases a4:2147483647 < x.prev
 ·simp only[auG a4,rs,i_t];exact fin a (bad (.inr (.inr (.inr a4))))
 simp only[auD a4,rs,i_f];rw[auB (by rintro (h|h|h|h);exact g h;exact a2 h;exact a3 h;exact a4 h)] at b;rw[KG,Xb a 0 rfl];refine aK a (R:=λv=>v=ad (Vl.check 1 x.trailer)) (lE x.trailer _ w3 (OV.inw (a.hasM 1 rfl) c) om) ?_;rintro _ q rfl a;simp only[eC];by_cases i:Vl.check 1 x.trailer=0
 case neg=>
  rw[auC i] at b;simp only[auG (show Vl.check 1 x.trailer≠0 from i),i_t];exact fin a b
 rw[auB (λh=>h i)] at b;simp only[i,show ai ((0:Int)≠0)=au from rfl,i_f];rw[KG,eG,afE a 0 rfl];simp only[rs];by_cases j:x.trailer.k=7
 case neg=>
  rw[auC j] at b;simp only[auG (show x.trailer.k≠7 from j),i_t];exact fin a b
 rw[auB (λh=>h j)] at b;simp only[auD (show ¬x.trailer.k≠7 fromλh=>h j),i_f];exact fin a b
theorem sK (o x:Ob)(v u:aq)(key:List UInt8)(M:Mem)(w:ao)(hw:o.wt<=10000000000)(g:x.wt<=10000000000)(i:key.length<=10000000000)(l:M.has w)(j:OV M.A M.w v o)(hu:OV M.A M.w u x) :
  jR ah 58 #[v,ae key,u] M w (λr N=>OV N.A N.w r (Cs.wth o key x)):=by
 obtain⟨vk,vc,cs,rfl,d⟩:=j.open;obtain⟨p,q,s,rfl,m⟩:=hu.open;refine bB l λK n=>Av ?_;unfold rK nz;refine eQ o d.keys.one d.kids.one (bT.memS l) λb3 I a=>?_;refine eQ x m.keys.one m.kids.one a λt w2 a=>?_;refine dJ a λB w3 a=>?_;rw[jL a 2 rfl,jL a 1 rfl];refine bH a 3 rfl (NY o x _ _ key M w3 hw g i (a.hasM 3 rfl) j hu) ?_;rintro _ N J k ⟨y,rfl,f⟩ a;have c:=Cs.wth.eq_1 o key x;generalize Vl.set o key x=R at f c;obtain⟨z,e⟩:=R;obtain⟨C,D,E,rfl,b⟩:=f.open;dsimp only at b f c;simp only[A4,ex];refine dJ a λF L a=>?_;refine aT 0 b.keys.one b.kids.one a rfl λG a=>?_;have a:bT M.A w G [obE F z C D,obE B ob0 cI cI,obE t x p q,obE b3 o vk vc,.mem N]:=a;simp only[eC];by_cases he:e=0
 ·rw[auB (λh=>h he)] at c;simp only[auD (show ¬e≠0 fromλh=>h he),i_f];rw[jL a 0 rfl];refine aT 1 b.keys.one b.kids.one a rfl λH a=>?_;exact eN (bJ (a.agg 1 rfl fR)) (n _ _ N _ 4 a rfl k (by rw[c];exact f))
 ·rw[auC he] at c;simp only[auG (show e≠0 from he),i_t];rw[jL a 3 rfl];refine aT 1 d.keys.one d.kids.one a rfl λH a=>?_;exact eN (bJ (a.agg 1 rfl fR)) (n _ _ N _ 4 a rfl k (by rw[c];exact j.le k))
theorem arW {wb:ao}(h:tE A wb o vk vc cs)(hi:i < o.kids.length) :
  ∃v p,OV A wb v o.kids[i]∧(∀W,(mIA 23 vc (ad (i:Int))).run ah W=.ok (.value (.pointer (ay p))) W)∧∀W,Kept A wb W->(aH 25 (.pointer (ay p))).run ah W=.ok (.value v) W:=by
 obtain⟨v,p,e,d⟩:=HU h hi;obtain⟨b,off,cap,rfl,_⟩:=bR h.kids.1 om;have c:∀W:ao,(mIA 23 (bO b off o.kids.length cap) (ad (i:Int))).run ah W=.ok (.value (af b (off+i*6))) W:=λW=>by
  have:=cZ (P:=ah) (T:=23) (b:=b) (off:=off) (cap:=cap) (n:=o.kids.length) (k:=.i64) (i:=(i:Int)) (w:=W) auU Mk om om
  rwa [auJ] at this
 have hp:p=⟨b,off+i*6,ax⟩:=by
  have a:=(d wb (λ_ _=>rfl)).1;rw[c wb] at a
  injection a with a _
  injection a with a
  injection a with a
  injection a with a
  exact a.symm
 subst hp;exact⟨v,_,e,c,λW f=>(d W f).2⟩
theorem LJ (o:Ob)(v:aq)(M:Mem)(w:ao)(hw:o.wt<=1000000000)(hM:M.has w)(hv:OV M.A M.w v o)(E:Vl.check 1 o=0)(H:o.k=7):jR ah 57 #[v] M w (λr N=>OV N.A N.w r (Cs.iC o)):=by
 obtain⟨vk,vc,cs,rfl,u⟩:=hv.open;refine bB hM λK hK=>vJ ?_;unfold nA nz;refine eQ o u.keys.one u.kids.one (bT.memS hM) λd w1 a=>?_;refine dJ a λb2 w2 a=>?_;rw[afH];refine dJ a λb3 w3 a=>?_;refine aT (o':=ob1 7 0 0 []) (vk':=cI) (vc':=cI) 0 rfl rfl a rfl λw4 a=>?_;have a:bT M.A w w4 [obE b3 (ob1 7 0 0 []) cI cI,obE b2 ob0 cI cI,obE d o vk vc,.mem M]:=a;rw[eG,vE a 2 rfl];simp only[rs,auD (show ¬o.k≠7 fromλh=>h H),oG];rw[jL a 2 rfl];refine aK a (R:=λv=>v=ad (Vl.check 1 o)) (lE o _ w4 (OV.inw (a.hasM 3 rfl) hv) om) ?_;rintro _ w5 rfl a;simp only[eC,rs,E,show ai ((0:Int)≠0)=au from rfl,i_f];have x:Vl.keyed o=true:=by simp[Vl.keyed,H]
 have hlen:=(Vl.fM E x).2;have a1:o.keys.length<=1000000000:=by have:=Pl.gE o.keys;have:=o.kN;omega
 rw[iZ,dZ a 2 rfl,aZ auR (u.keys.now (a.hasM 3 rfl))];have a:=bT.nilU a 25 6;have a:=bT.nilU a 9 1;refine loop (λvs W=>∃(i:Nat) (f cv:aq) (ds:List aq),vs=[ad (i:Int)]∧i<=o.keys.length∧OVs M.A M.w ds ((Cs.pick (o.keys.take i) (o.kids.take i)).map (·.2))∧bT M.A w W (DcR f cv (Cs.pick (o.keys.take i) (o.kids.take i)) ds b3 [obE b2 ob0 cI cI,obE d o vk vc,.mem M])) (λvs _=>o.keys.length - n0 vs) ⟨0,cI,cI,[],rfl,om,.nil,a⟩ ?_;clear a;rintro vs y ⟨i,f,cv,ds,rfl,hi,g,a⟩ _;simp only[kZ,gd,rs,dx,ldx,bnx,iax,fax,stx,eqx,apx,gfx,efx];by_cases z:(i:Int) < (o.keys.length:Int)
 ·simp only[auG z,i_t];have h1:i < o.keys.length:=om
  have h2:i < o.kids.length:=om
  refine join λJ hJ=>?_;obtain⟨p,I⟩:=acU u h1;obtain⟨r1,r2⟩:=I y (a.hasM 5 rfl);refine aD r1 |>.mpr (aD r2 |>.mpr ?_);have b:=Cs.Qn h1 h2;have O:=Cs.Tf (o.keys.take i) (o.kids.take i);rw[auM] at O;have next:∀{W:ao} {kv' cv':aq} {ds':List aq},OVs M.A M.w ds' ((Cs.pick (o.keys.take (i+1)) (o.kids.take (i+1))).map (·.2))->bT M.A w W (DcR kv' cv' (Cs.pick (o.keys.take (i+1)) (o.kids.take (i+1))) ds' b3 [obE b2 ob0 cI cI,obE d o vk vc,.mem M])->J [] W:=by
   intro W kv' cv' ds' B a;refine hJ _ _ λ_=>?_;simp only[lC,rs,nz];rw[aA om om];exact bC ⟨i+1,kv',cv',ds',rfl,om,B,a⟩ (by simp[n0,RowKit.intOf];omega)
  have C:Dk.known o.keys[i]=au->J [] y:=by
   intro P;rw[P] at b;have b:Cs.pick (o.keys.take (i+1)) (o.kids.take (i+1))=Cs.pick (o.keys.take i) (o.kids.take i):=by rw[b];simp
   exact next (by rw[b];exact g) (by rw[b];exact a)
  have hit:Dk.known o.keys[i]=aw->DoX ah (mFA 25 (af b3 0) 4) y (pk K) λt39 w=>
 DoX ah (aH 22 t39) w (pk K) λt40 w=>
 DoX ah (aM 22 1 #[(0,.string ⟨o.keys[i].toArray⟩)]) w (pk K) λt42 w=>
 DoX ah (mB .append #[22,22] 22 #[au,au] #[t40,t42]) w (pk K) λt43 w=>
 DoX ah (mFA 25 (af b3 0) 4) w (pk K) λt44 w=>
 DoX ah (aN 22 t44 t43) w (pk K) λ_ w=>
 Ay w (λS3 w=>
 HDo ah (λ_=>True) (mFA 25 (af b3 0) 5) λt45=>
 HDo ah S3 (aH 23 t45) λt46=>
 HDo ah (λ_=>True) (mFA 25 (af d 0) 5) λt47=>
 HDo ah S3 (aH 23 t47) λt48=>
 HDo ah (λ_=>True) (mIA 23 t48 (ad (i:Int))) λt50=>
 HDo ah S3 (aH 25 t50) λt51=>
 DoX ah (aM 23 1 #[(0,t51)]) w (az 8 (pk K)) λt52 w=>
 S3 w∧(DoX ah (mB .append #[23,23] 23 #[au,au] #[t46,t52]) w (az 8 (pk K)) λt53 w=>
 S3 w∧(HDo ah (λ_=>True) (mFA 25 (af b3 0) 5) λt54=>
 DoX ah (aN 23 t54 t53) w (az 8 (pk K)) λ_ w=>
 (J [] w)))):=by
   intro P;rw[P] at b;obtain⟨xv,q,hx,Q,S⟩:=arW u h2;obtain⟨T,U,a6,rfl,l⟩:=hx.open;have e:Cs.pick (o.keys.take (i+1)) (o.kids.take (i+1))=Cs.pick (o.keys.take i) (o.kids.take i)++[(o.keys[i],o.kids[i])]:=b;generalize Cs.pick (o.keys.take i) (o.kids.take i)=c at *;have a:bT M.A w y [.urow 9 1 f c.length (bI (c.map (·.1))),.urow 25 6 cv c.length ds,obE b3 (ob1 7 0 0 []) f cv,obE b2 ob0 cI cI,obE d o vk vc,.mem M]:=a;rw[iZ,dZ a 2 rfl];refine D6 o.keys[i] a λnb a7 a=>?_;refine U8 1 a rfl (a.sl 0 rfl 1 1 1 rfl) (by simp[Value.oneCell']) om λkv' V a=>?_;have a:=a.tail;have a:bT M.A w V [.urow 9 1 kv' (c.length+1) (bI (c.map (·.1))++[.string ⟨o.keys[i].toArray⟩]),.urow 25 6 cv c.length ds,obE b3 (ob1 7 0 0 []) f cv,obE b2 ob0 cI cI,obE d o vk vc,.mem M]:=a;have m:=bX (a.at_ 0 rfl);rw[iZ];refine aO 2 a rfl krx m (show 0+4 < 6 by omega) λX a=>?_;have a:bT M.A w X [.urow 9 1 kv' (c.length+1) (bI (c.map (·.1))++[.string ⟨o.keys[i].toArray⟩]),.urow 25 6 cv c.length ds,obE b3 (ob1 7 0 0 []) kv' cv,obE b2 ob0 cI cI,obE d o vk vc,.mem M]:=a;have a:=a.drew;refine⟨λW=>W.cell? ⟨b3,5,ax⟩=ay cv∧W.cell? ⟨d,5,ax⟩=ay vc∧M.has W,⟨a.cell 2 rfl 5 rfl,a.cell 4 rfl 5 rfl,a.hasM 5 rfl⟩,?_⟩;refine aP _ (λ_=>bE acG) (fS _ (λW h=>aB Zx h.1) ?_);refine aP _ (λ_=>bE acG) (fS _ (λW h=>aB Zx h.2.1) ?_);refine aP _ Q (fS _ (λW h=>S W h.2.2) ?_);refine Bm o.kids[i] l.keys.one l.kids.one a λa8 b0 a=>?_;refine⟨⟨a.cell 3 rfl 5 rfl,a.cell 5 rfl 5 rfl,a.hasM 6 rfl⟩,?_⟩;refine G5 2 a rfl (a.sl 0 rfl 6 1 1 rfl) (iF _ l.keys.one l.kids.one) om λcv' Y a=>?_;have a:=a.tail;have a:bT M.A w Y [.urow 9 1 kv' (c.length+1) (bI (c.map (·.1))++[.string ⟨o.keys[i].toArray⟩]),.urow 25 6 cv' (c.length+1) (ds++obC o.kids[i] T U),obE b3 (ob1 7 0 0 []) kv' cv,obE b2 ob0 cI cI,obE d o vk vc,.mem M]:=a;refine⟨⟨a.cell 2 rfl 5 rfl,a.cell 4 rfl 5 rfl,a.hasM 5 rfl⟩,?_⟩;have n:=bX (a.at_ 1 rfl);refine aP _ (λ_=>bE acG) ?_;refine aO 2 a rfl krx n (show 0+5 < 6 by omega) λZ a=>?_;refine next (kv':=kv') (cv':=cv') (ds':=ds++obC o.kids[i] T U) ?_ ?_
   ·rw[e,avM];exact dM g (kI hx)
   ·rw[e];show bT M.A w Z [.urow 9 1 kv' (c++[(o.keys[i],o.kids[i])]).length (bI ((c++[(o.keys[i],o.kids[i])]).map (·.1))),.urow 25 6 cv' (c++[(o.keys[i],o.kids[i])]).length (ds++obC o.kids[i] T U),obE b3 (ob1 7 0 0 []) kv' cv',obE b2 ob0 cI cI,obE d o vk vc,.mem M];rw[auH,avM,wL];exact a
  rw[K3];by_cases F:o.keys[i]=[73,68]
  ·simp only[auG F,rs,oG,i_t];exact hit (by unfold Dk.known;simp[Dk.idK,F])
  simp only[auD F,rs];by_cases G:o.keys[i]=[73,110,102,111]
  ·simp only[auG G,rs,oG,i_t];exact hit (by unfold Dk.known;simp[Dk.LV,G])
  simp only[auD G,rs];by_cases c3:o.keys[i]=[82,111,111,116]
  ·simp only[auG c3,rs,oG,i_t];exact hit (by unfold Dk.known;simp[Dk.Nv,c3])
  simp only[auD c3,rs,i_f];exact C (by unfold Dk.known;simp[Dk.idK,Dk.LV,Dk.Nv,F,G,c3])
 simp only[auD z,i_f];rw[avE (show o.keys.length<=i by omega),avE (show o.kids.length<=i by omega)] at g a;rw[Cs.ZP E x] at g a;obtain⟨t1,_⟩:=Cs.T4 E H;have m:=bX (a.at_ 0 rfl);have n:=bX (a.at_ 1 rfl);obtain⟨N2,hle,D,a⟩:=bT.bG (L:=[.urow 25 6 cv (Cs.has o bj).length ds,obE b3 (ob1 7 0 0 []) f cv,obE b2 ob0 cI cI,obE d o vk vc,.mem M]) a 4 rfl;obtain⟨s,j,t,a⟩:=bT.bG (L:=[obE b3 (ob1 7 0 0 []) f cv,obE b2 ob0 cI cI,obE d o vk vc,.mem N2]) a 3 rfl;have a:bT M.A w y [obE b3 (ob1 7 0 0 []) f cv,obE b2 ob0 cI cI,obE d o vk vc,.mem s]:=a;rw[jL a 0 rfl];refine aT 1 m n a rfl λw7 a=>?_;have a:bT M.A w w7 [obE b3 (ob1 7 0 0 []) f cv,obE b2 (ob1 7 0 0 []) f cv,obE d o vk vc,.mem s]:=a;refine eN (bJ (a.agg 1 rfl fR)) (hK _ _ s _ 3 a rfl (hle.trans j) ?_);rw[t1];refine tE.ov (o:=Cs.ofL (Cs.has o bj)) (vk:=f) (vc:=cv) (cs:=ds) ⟨?_,?_,(g.le (hle.trans j))⟩
 ·show SlA s.A s.w f 1 ((Cs.has o bj).map (·.1)).length (bI ((Cs.has o bj).map (·.1)));rw[avJ];exact D.le j
 ·show SlA s.A s.w cv 6 ((Cs.has o bj).map (·.2)).length ds;rw[avJ];exact t
section
variable {w:ao}{PK:PKT}{K:VWP}{S:Nat->Prop}{w0:ao}{L T:List Ent}
theorem akB (a c d:Ob)(e:bT S w0 w L)(k:∀b w',bT S w0 w' (.cells b (obC a cI cI++obC c cI cI++obC d cI cI) 25::L)->K (bO b 0 3 3) w') :
  DoX ah (aM 23 3 #[(0,obV a cI cI),(1,obV c cI cI),(2,obV d cI cI)]) w PK K:=
 bK (λb=>bO b 0 3 3) _ 25 (λ_=>by kernel_rfl) e k
theorem adH (a b c:Int)(i:Nat)(d:bT S w0 w L)(hi:L[i]?=ay (.mem M))(k:∀x N w',M.le N->SlA N.A N.w (bO x 0 3 3) 6 3 (obC (Cs.kM a) cI cI++obC (Cs.kM b) cI cI++obC (Cs.kM c) cI cI)->bT S w0 w' (L.set i (.mem N))->K (bO x 0 3 3) w') :
  DoX ah (aM 23 3 #[(0,obV (Cs.kM a) cI cI),(1,obV (Cs.kM b) cI cI),(2,obV (Cs.kM c) cI cI)]) w PK K:=
 akB _ _ _ d λx w' d=>by
  obtain⟨N,l,h,d⟩:=bT.bG (d.toU 6 3 3 rfl om om) i hi;exact k x N w' l h d
theorem ajX (i:Nat)(a:bT S w0 w L)(hi:L[i]?=ay (.mem M))(k:∀x N w',M.le N->SlA N.A N.w (bO x 0 3 3) 1 3 (bI [Ff.Al,Ff.Ap,Ff.AE])->bT S w0 w' (L.set i (.mem N))->K (bO x 0 3 3) w') :
  DoX ah (aM 22 3 #[(0,.string ⟨#[67,111,108,111,114,115]⟩),(1,.string ⟨#[67,111,108,117,109,110,115]⟩),(2,.string ⟨#[80,114,101,100,105,99,116,111,114]⟩)]) w PK K:=by
 refine bK (λb=>bO b 0 3 3) (bI [Ff.Al,Ff.Ap,Ff.AE]) 9 (λ_=>by kernel_rfl) a λx w' a=>?_;obtain⟨N,l,h,a⟩:=bT.bG (a.toU 1 3 3 rfl om om) i hi;exact k x N w' l h a
end
theorem Sw (N:Mem)(a b c:Int):OVs N.A N.w (obC (Cs.kM a) cI cI++obC (Cs.kM b) cI cI++obC (Cs.kM c) cI cI) [Cs.kM a,Cs.kM b,Cs.kM c]:=
 dM (dM (kI (fI N 2 a 0 [])) (kI (fI N 2 b 0 []))) (kI (fI N 2 c 0 []))
theorem QY (p:Pm)(M:Mem)(w:ao)(m:M.has w):jR ah 53 #[pmV p] M w (λr N=>OV N.A N.w r (Ff.cP p)):=by
 refine bB m λK q=>AB ?_;unfold rD iE iA iN dx alx;refine Kd p (bT.memS m) λd v a=>?_;refine dJ a λb2 w2 a=>?_;have a:=a.drew;have it:∀{n:Int} {W:ao} {N:Mem} {PK:PKT} {K:VWP},bT M.A w W [obE b2 ob0 cI cI,pmE d p,.mem N]->(∀e,bT M.A w e [obE b2 ob0 cI cI,pmE d p,.mem N]->(pmE d p).is e∧K (obV (Cs.kM n) cI cI) e)->cR ah 59 #[ad n] W PK λt w=>(pmE d p).is w∧K t w:=by
  intro n W N PK K a k;refine aK a (kY n W) ?_;rintro _ e rfl a;exact k e a
 have fin:∀{W:ao} {N b:Mem} {x y:Nat} {PK:PKT},SlA b.A b.w (bO x 0 3 3) 1 3 (bI [Ff.Al,Ff.Ap,Ff.AE])->SlA N.A N.w (bO y 0 3 3) 6 3 (obC (Cs.kM p.c) cI cI++obC (Cs.kM p.n) cI cI++obC (Cs.kM p.p) cI cI)->b.le N->M.le N->bT M.A w W [obE b2 ob0 cI cI,pmE d p,.mem N] ->
   (pmE d p).is W∧HDo ah (λ_=>True) (aV 25 #[(0,(ad 7)),(4,bO x 0 3 3),(5,bO y 0 3 3)]) λt14=>
   DoX ah (aN 25 (af b2 0) t14) W PK λ_ w=>fU (af b2 0) w K:=by
  intro W N b x y PK s g l u a;refine⟨a.at_ 1 rfl,?_⟩;refine aP (obV (Ff.cP p) (bO x 0 3 3) (bO y 0 3 3)) (λ_=>by kernel_rfl) ?_;refine aT 0 rfl rfl a rfl λw3 a=>?_;exact eN (bJ (a.agg 0 rfl fR)) (q _ _ N _ 2 a rfl u (tE.ov (o:=Ff.cP p) ⟨s.le l,g,Sw N _ _ _⟩))
 have st:∀{W:ao} {N:Mem} {PK:PKT} {K:VWP},bT M.A w W [obE b2 ob0 cI cI,pmE d p,.mem N]->(∀x b e,N.le b->SlA b.A b.w (bO x 0 3 3) 1 3 (bI [Ff.Al,Ff.Ap,Ff.AE])->bT M.A w e [obE b2 ob0 cI cI,pmE d p,.mem b]->(pmE d p).is e∧K (bO x 0 3 3) e) ->
   DoX ah (aM 22 3 #[(0,.string ⟨#[67,111,108,111,114,115]⟩),(1,.string ⟨#[67,111,108,117,109,110,115]⟩),(2,.string ⟨#[80,114,101,100,105,99,116,111,114]⟩)]) W PK λt w=>(pmE d p).is w∧K t w:=
  λa k=>ajX 2 a rfl λx b e l h a=>k x b e l h a
 refine⟨λW=>(pmE d p).is W,a.at_ 1 rfl,?_⟩;refine aP (af d (0+1)) (λ_=>bE Md) (fS (ad p.c) (λW h=>aB aU (aI (T:=53) (cs:=pmC p) h rfl)) ?_);refine aP (af d (0+2)) (λ_=>bE Pj) (fS (ad p.n) (λW h=>aB aU (aI (T:=53) (cs:=pmC p) h rfl)) ?_);refine aP (af d (0+0)) (λ_=>bE XE) (fS (ad p.p) (λW h=>aB aU (aI (T:=53) (cs:=pmC p) h rfl)) ?_);have i:∀{W:ao} {N:Mem} {PK:PKT} {K:VWP},bT M.A w W [obE b2 ob0 cI cI,pmE d p,.mem N]->(∀x b e,N.le b->SlA b.A b.w (bO x 0 3 3) 6 3 (obC (Cs.kM p.c) cI cI++obC (Cs.kM p.n) cI cI++obC (Cs.kM p.p) cI cI)->bT M.A w e [obE b2 ob0 cI cI,pmE d p,.mem b]->K (bO x 0 3 3) e) ->
   DoX ah (aM 23 3 #[(0,obV (Cs.kM p.c) cI cI),(1,obV (Cs.kM p.n) cI cI),(2,obV (Cs.kM p.p) cI cI)]) W PK K:=
  λa k=>adH _ _ _ 2 a rfl λx b e l h a=>k x b e l h a
 refine⟨st a λx N W l h a=>⟨a.at_ 1 rfl,it a λW a=>⟨a.at_ 1 rfl,it a λW a=>⟨a.at_ 1 rfl,it a λW a=>⟨a.at_ 1 rfl,i a λy j W f g a=>fin h g f (l.trans f) a⟩⟩⟩⟩,?_⟩;refine it a λW a=>⟨a.at_ 1 rfl,?_⟩;refine⟨st a λx N W l h a=>⟨a.at_ 1 rfl,it a λW a=>⟨a.at_ 1 rfl,it a λW a=>⟨a.at_ 1 rfl,i a λy j W f g a=>fin h g f (l.trans f) a⟩⟩⟩,?_⟩;refine it a λW a=>⟨a.at_ 1 rfl,?_⟩;refine⟨st a λx N W l h a=>⟨a.at_ 1 rfl,it a λW a=>⟨a.at_ 1 rfl,i a λy j W f g a=>fin h g f (l.trans f) a⟩⟩,?_⟩;refine it a λW a=>⟨a.at_ 1 rfl,?_⟩;refine⟨st a λx N W l h a=>⟨a.at_ 1 rfl,i a λy j W f g a=>fin h g f (l.trans f) a⟩,?_⟩;exact i a λy N W l h a=>⟨a.at_ 1 rfl,st a λx j W f g a=>fin g (h.le f) j.le_refl (l.trans f) a⟩
theorem UX (o:Ob)(v vn vp:aq)(p:Pm)(M:Mem)(w:ao)(hp:p≠Ff.xF)(hw:o.wt<=1000000000)(hM:M.has w)(hv:OV M.A M.w v o)(hn:SlA M.A M.w vn 1 [Ff.nFl].length (bI [Ff.nFl]))(Z:SlA M.A M.w vp 3 [p].length ([p].flatMap pmC)) :
  jR ah 19 #[v,vn,vp] M w (λr N=>OV N.A N.w r (Ff.Eb o p)):=by
 obtain⟨vk,vc,cs,rfl,ha⟩:=hv.open;refine bB hM λK hK=>An ?_;unfold rU nz;refine eQ o ha.keys.one ha.kids.one (bT.memS hM) λb3 w1 a=>?_;refine dJ a λj w2 a=>?_;have c7:(Ff.cP p).wt<=1000:=by
  show (Ob.mk 7 0 0 [] _ _).wt<=1000;have:(Ob.mk 7 0 0 [] [Ff.Al,Ff.Ap,Ff.AE] [ob1 2 p.c 0 [],ob1 2 p.n 0 [],ob1 2 p.p 0 []]).wt=(Ob.mk 7 0 0 [] [Ff.Al,Ff.Ap,Ff.AE] [ob1 2 0 0 [],ob1 2 0 0 [],ob1 2 0 0 []]).wt:=rfl;rw[this];decide
 refine loop (λvs W=>(vs=[cI,cI,.bool au,ad 0]∧bT M.A w W [obE j ob0 cI cI,obE b3 o vk vc,.mem M]) ∨
  ∃(fv T:aq) (ds:List aq) (N:Mem),vs=[fv,T,.bool aw,ad 1]∧M.le N∧SlA N.A N.w fv 6 [Ff.bP Ff.nFl].length (obC (Ff.bP Ff.nFl) cI cI)∧SlA N.A N.w T 6 [Ff.cP p].length ds∧OVs N.A N.w ds [Ff.cP p]∧bT M.A w W [obE j ob0 cI cI,obE b3 o vk vc,.mem N]) (λvs _=>1 - (RowKit.intOf (vs.getD 3 undef)).toNat) (.inl ⟨rfl,a⟩) ?_
 clear a;rintro vs w3 (⟨rfl,a⟩|⟨fv,T,ds,N,rfl,k,x,B,b2,a⟩) _
 ·simp only[jD,gd,nz];rw[pJ hn];simp only[rs,show ai ((0:Int) < (([Ff.nFl].length:Nat):Int))=aw from rfl,i_t];refine join λJ hJ=>?_;obtain⟨q,I,O⟩:=NO (i:=0) hn dc;obtain⟨q2,f,g⟩:=pmAt (i:=0) Z (by show 0 < 1;decide)
  replace I:∀W,(mIA 22 vn (ad 0)).run ah W=.ok (.value (.pointer (ay q))) W:=I
  replace f:∀W,(mIA 54 vp (ad 0)).run ah W=.ok (.value (.pointer (ay q2))) W:=f
  replace O:∀W,M.has W->(aH 9 (.pointer (ay q))).run ah W=.ok (.value (ae Ff.nFl)) W:=O
  replace g:∀W,M.has W->(aH 53 (.pointer (ay q2))).run ah W=.ok (.value (pmV p)) W:=g
  rw[aD (I w3),aD (O w3 (a.hasM 2 rfl))];refine BJ (RB Ff.nFl w3) ?_;rw[show Ff.full Ff.nFl=Ff.nFl by decide];refine aK a (L8 Ff.nFl w3) ?_;rintro _ w4 rfl a;have a:=bT.nilU a 25 6;refine Bm (Ff.bP Ff.nFl) rfl rfl a λnb w5 a=>?_;refine G5 1 a rfl (a.sl 0 rfl 6 1 1 rfl) (iF _ rfl rfl) om λfv w6 a=>?_;have a:=a.tail;obtain⟨N,k,x,a⟩:=bT.bG (L:=[obE j ob0 cI cI,obE b3 o vk vc,.mem M]) a 2 rfl;have a:bT M.A w w6 [obE j ob0 cI cI,obE b3 o vk vc,.mem N]:=a;refine cY (λW=>bT M.A w W [obE j ob0 cI cI,obE b3 o vk vc,.mem N]) a.drew ?_;refine gA (ad 1) (λW h=>Me azW ((Z.le k).now (h.hasM 2 rfl))) ?_;refine Lu ?_;simp only[show ai ((0:Int) < 1)=aw from rfl,gq];refine dY _ f ?_;refine gA (pmV p) (λW h=>g W (Mem.JJ k (h.hasM 2 rfl))) ?_;refine fY (pmV Ff.xF) (λW h=>(PW W).mono λv w' ⟨k1,k2⟩=>⟨k1,h.grow k2⟩) ?_;refine dY _ (λ_=>alM) ?_;rw[Ff.acP hp];refine MZ ?_;intro w7 a;simp only[avZ,i_t];rw[aD (f w7),aD (g w7 (Mem.JJ k (a.hasM 2 rfl)))];refine bH a 2 rfl (QY p N w7 (a.hasM 2 rfl)) λtv U w8 H a6 a=>?_;obtain⟨tk,tc,c8,rfl,C⟩:=a6.open;have a:=bT.nilU a 25 6;refine Bm (Ff.cP p) C.keys.one C.kids.one a λc9 w9 a=>?_;refine G5 1 a rfl (a.sl 0 rfl 6 1 1 rfl) (iF _ C.keys.one C.kids.one) om λT D a=>?_;have a:=a.tail;obtain⟨V,P,B,a⟩:=bT.bG (L:=[obE j ob0 cI cI,obE b3 o vk vc,.mem U]) a 2 rfl;have a:bT M.A w D [obE j ob0 cI cI,obE b3 o vk vc,.mem V]:=a;refine hJ _ _ λ_=>?_;simp only[oE,gd,rs,nz];exact bC (.inr ⟨fv,T,_,V,rfl,(k.trans H).trans P,(x.le H).le P,B,(kI a6).le P,a⟩) (by show (0:Nat) < 1;decide)
 simp only[jD,gd,nz];have a7:=hn.le k;rw[pJ hn];simp only[rs,show ai ((1:Int) < (([Ff.nFl].length:Nat):Int))=au from rfl,i_f];obtain⟨fb,foff,fk,fc,l,m,b4⟩:=Ri x (os:=[Ff.bP Ff.nFl]) (kI (fI N 5 0 0 Ff.nFl)) (i:=0) dc;obtain⟨db,a8,X,Y,s,t,b5⟩:=Ri B b2 (i:=0) (by show 0 < 1;decide)
 replace l:∀W,(mIA 23 fv (ad 0)).run ah W=.ok (.value (af fb foff)) W:=l
 replace s:∀W,(mIA 23 T (ad 0)).run ah W=.ok (.value (af db a8)) W:=s
 obtain⟨a1,a2,a3,rfl,_⟩:=bR x.1 dc;obtain⟨c1,c2,c3,rfl,_⟩:=bR B.1 (by show 0 < 1;decide);refine aK a (CC _ _ _ [] w3) ?_;rintro _ w4 rfl a;refine aK a (CC _ _ _ [] w4) ?_;rintro _ w5 rfl a;refine dJ a λE w6 a=>?_;refine dJ a λF w7 a=>?_;refine aT 1 rfl rfl a rfl λw8 a=>?_;refine aT 0 rfl rfl a rfl λw9 a=>?_;refine join λJ4 b7=>?_;rw[pJ a7];simp only[rs,show ai ((([Ff.nFl].length:Nat):Int)=1)=aw from rfl,i_t];rw[aD (l w9),EN (AtV.agg fR (cs:=obC (Ff.bP Ff.nFl) fk fc) rfl (b4 w9 (a.hasM 4 rfl)))];refine aT (o':=Ff.bP Ff.nFl) 1 m.oneK m.oneC a rfl λD a=>?_;rw[aD (s D),EN (AtV.agg fR (cs:=obC (Ff.cP p) X Y) rfl (b5 D (a.hasM 4 rfl)))];refine aT (o':=Ff.cP p) 0 t.oneK t.oneC a rfl λb0 a=>?_;have a:bT M.A w b0 [obE F (Ff.cP p) X Y,obE E (Ff.bP Ff.nFl) fk fc,obE j ob0 cI cI,obE b3 o vk vc,.mem N]:=a;have m:OV N.A N.w (obV (Ff.bP Ff.nFl) fk fc) (Ff.bP Ff.nFl):=m;have t:OV N.A N.w (obV (Ff.cP p) X Y) (Ff.cP p):=t;refine b7 _ _ λ_=>?_;simp only[pC,gd,nz];refine join λJ5 b8=>?_;rw[pJ a7];simp only[rs,show ai ((0:Int) < (([Ff.nFl].length:Nat):Int))=aw from rfl,i_t];rw[jL a 3 rfl,jL a 1 rfl];have u:=Ff.Eb.eq_1 o p;have b1:=Vl.JC o Ff.aQ (Ff.bP Ff.nFl);have e0:(Ff.bP Ff.nFl).wt<=1000:=dc
 have e1:Ff.aQ.length<=100∧Ff.bS.length<=100:=dc
 refine bH a 4 rfl (NY o (Ff.bP Ff.nFl) _ _ Ff.aQ N b0 om om om (a.hasM 4 rfl) (hv.le k) m) ?_;generalize Vl.set o Ff.aQ (Ff.bP Ff.nFl)=R at u b1;obtain⟨y,e⟩:=R;dsimp only at u b1;rintro _ U e3 H ⟨yv,rfl,hy⟩ a;obtain⟨yk,yc,e4,rfl,b⟩:=hy.open;dsimp only at b hy;simp only[A4,ex];refine dJ a λQ e5 a=>?_;refine aT 0 b.keys.one b.kids.one a rfl λb9 a=>?_;have a:bT M.A w b9 [obE Q y yk yc,obE F (Ff.cP p) X Y,obE E (Ff.bP Ff.nFl) fk fc,obE j ob0 cI cI,obE b3 o vk vc,.mem U]:=a;simp only[eC];by_cases he:e=0
 case neg=>
  rw[auC he] at u;simp only[auG (show e≠0 from he),i_t];rw[jL a 4 rfl];refine aT 3 ha.keys.one ha.kids.one a rfl λS a=>?_;exact eN (bJ (a.agg 3 rfl fR)) (hK _ _ U _ 5 a rfl (k.trans H) (by rw[u];exact hv.le (k.trans H)))
 rw[auB (λh=>h he)] at u;simp only[auD (show ¬e≠0 fromλh=>h he),i_f];rw[jL a 0 rfl];refine aT 4 b.keys.one b.kids.one a rfl λS a=>?_;have a:bT M.A w S [obE Q y yk yc,obE F (Ff.cP p) X Y,obE E (Ff.bP Ff.nFl) fk fc,obE j ob0 cI cI,obE b3 y yk yc,.mem U]:=a;refine b8 _ _ λ_=>?_;simp only[oH,i_t,nz];refine join λJ6 c0=>?_;rw[jL a 4 rfl,jL a 1 rfl];refine bH a 5 rfl (NY y (Ff.cP p) _ _ Ff.bS U S om om om (a.hasM 5 rfl) hy (t.le H)) ?_;generalize Vl.set y Ff.bS (Ff.cP p)=R at u;obtain⟨z,e2⟩:=R;dsimp only at u;rintro _ V e6 P ⟨zv,rfl,hz⟩ a;obtain⟨zk,zc,e7,rfl,d⟩:=hz.open;dsimp only at d hz;simp only[A4,ex];refine dJ a λc4 e8 a=>?_;refine aT 0 d.keys.one d.kids.one a rfl λc5 a=>?_;have a:bT M.A w c5 [obE c4 z zk zc,obE Q y yk yc,obE F (Ff.cP p) X Y,obE E (Ff.bP Ff.nFl) fk fc,obE j ob0 cI cI,obE b3 y yk yc,.mem V]:=a;simp only[eC];by_cases G:e2=0
 case neg=>
  rw[auC G] at u;simp only[auG (show e2≠0 from G),i_t];rw[jL a 5 rfl];refine aT 4 b.keys.one b.kids.one a rfl λc6 a=>?_;exact eN (bJ (a.agg 4 rfl fR)) (hK _ _ V _ 6 a rfl ((k.trans H).trans P) (by rw[u];exact hy.le P))
 rw[auB (λh=>h G)] at u;simp only[auD (show ¬e2≠0 fromλh=>h G),i_f];rw[jL a 0 rfl];refine aT 5 d.keys.one d.kids.one a rfl λc6 a=>?_;refine c0 _ _ λ_=>?_;simp only[oZ,nz];rw[jL a 5 rfl];refine aT 4 d.keys.one d.kids.one a rfl λe9 a=>?_;exact eN (bJ (a.agg 4 rfl fR)) (hK _ _ V _ 6 a rfl ((k.trans H).trans P) (by rw[u];exact hz))
theorem po (o:Ob)(k:List UInt8)(v:Ob):(Cs.wth o k v).wt<=o.wt+k.length+v.wt+7:=by
 have:=Vl.JC o k v;unfold Cs.wth;split<;>omega
theorem acD {l:List (Int×Int)}(a:SlA M.A M.w v 2 l.length (Pt l))(hi:i < l.length) :
  ∃b off,(∀W,(mIA 62 v (ad (i:Int))).run ah W=.ok (.value (af b off)) W)∧∀W,M.has W->W.cell? ⟨b,off,ax⟩=ay (ad l[i].1)∧W.cell? ⟨b,off+1,ax⟩=ay (ad l[i].2):=by
 obtain⟨b,off,cap,rfl,_⟩:=bR a.1 om;refine⟨b,off+i*2,λW=>?_,λW f=>?_⟩
 ·have:=cZ (P:=ah) (T:=62) (b:=b) (off:=off) (cap:=cap) (n:=l.length) (k:=.i64) (i:=(i:Int)) (w:=W) azG szRn om om;rw[auJ] at this;exact this
 ·obtain⟨g,c,d,he,e⟩:=bR (a.now f) om;cases he;refine⟨e _ _ (Eng.nO JW hi (i:=0) rfl),?_⟩;rw[awU];exact e _ _ (Eng.nO JW hi (i:=1) rfl)
theorem Rk (x:Sec)(vs vk vc:aq)(M:Mem)(w:ao)(hb:x.aC.length<=4000)(hf:SltI x.aC)(hc:Tl.check x.aC=0)(hw:x.trailer.wt<=100000000)(c8:Vl.check 1 x.trailer=0)(c9:x.trailer.k=7)(hd:(Cs.lI x).2=0)(hM:M.has w)
  (X:SlA M.A M.w vs 4 x.aC.length (GU x.aC)) (O:OV M.A M.w (obV x.trailer vk vc) x.trailer) :
  jR ah 20 #[Jq x vs vk vc] M w (λr N=>OV N.A N.w r (Cs.lI x).1):=by
 refine bB hM λK hK=>AO ?_;unfold rG nz;refine Vr x X.one O.oneK O.oneC (bT.memS hM) λm w1 b=>?_;refine dJ b λb2 w2 b=>?_;rw[KG,Xb b 1 rfl];refine bH b 2 rfl (LJ x.trailer _ M w2 om (b.hasM 2 rfl) O c8 c9) λy N1 w3 l1 f b=>?_;obtain⟨yk,yc,D,rfl,c⟩:=f.open;refine dJ b λb3 w4 b=>?_;refine aT 0 c.keys.one c.kids.one b rfl λw5 b=>?_;have b:bT M.A w w5 [obE b3 (Cs.iC x.trailer) yk yc,obE b2 ob0 cI cI,jN m x vs vk vc,.mem N1]:=b;have e0:=Cs.bL.eq_1 x;have R:(Cs.bL x).foldl (λo p=>Cs.wth o p.1 p.2) (Cs.iC x.trailer)=(Cs.lI x).1:=Cs.Mg hd;rw[e0,aAy] at R;simp only[azX,List.foldl_nil] at R;have h7:=Cs.IZ x.trailer;have h8:=Tl.qW x.aC;have i1:∀n:Int,(Cs.kM n).wt=6:=λ_=>rfl;have h9:(Ff.bP Cs.qU).wt<=1000:=dc
 have j0:Cs.kK.length<=100∧Cs.iD.length<=100∧Cs.kW.length<=100∧Cs.fP.length<=100∧Cs.pQ.length<=100:=dc
 have q1:=po (Cs.iC x.trailer) Cs.kK (Ff.bP Cs.qU);refine cY (λW=>bT M.A w W [obE b3 (Cs.iC x.trailer) yk yc,obE b2 ob0 cI cI,jN m x vs vk vc,.mem N1]) b.drew ?_;refine gA (obV (Cs.iC x.trailer) yk yc) (λW h=>aY (h.agg 0 rfl fR)) ?_;refine fY (obV (Ff.bP Cs.qU) cI cI) (λW h=>(L8 Cs.qU W).mono λv w' ⟨t,q⟩=>⟨t,h.grow q⟩) ?_;intro w6 b;refine bH b 3 rfl (sK _ (Ff.bP Cs.qU) _ _ Cs.kK N1 w6 om om om (b.hasM 3 rfl) f (fI N1 5 0 0 Cs.qU)) λy Y w7 l2 f b=>?_;generalize Cs.wth (Cs.iC x.trailer) Cs.kK (Ff.bP Cs.qU)=S at *;obtain⟨t,c1,D,rfl,c⟩:=f.open;refine aT 0 c.keys.one c.kids.one b rfl λw8 b=>?_;have b:bT M.A w w8 [obE b3 S t c1,obE b2 ob0 cI cI,jN m x vs vk vc,.mem Y]:=b;have E:=(X.le l1).le l2;have hlen:Cs.size (Tl.runs x.aC)=match x.aC.getLast? with|some s=>s.num+1|none=>0:=Cs.VP
 generalize j1:Cs.size (Tl.runs x.aC)=sz at *;have j2:=Cs.Fm x.aC;have j3:=Cs.Fc x.aC;have nx:∀{W:ao},bT M.A w W [obE b3 S t c1,obE b2 ob0 cI cI,jN m x vs vk vc,.mem Y]->iV (af m 0) (af b2 0) (af b3 0) (ad sz) W K:=by
  intro W b;unfold iV iN ldx fax stx alx cx;have q2:=po S Cs.iD (Cs.kM sz);refine cY (λW=>bT M.A w W [obE b3 S t c1,obE b2 ob0 cI cI,jN m x vs vk vc,.mem Y]) b.drew ?_;refine gA (obV S t c1) (λW h=>aY (h.agg 0 rfl fR)) ?_;refine fY (obV (Cs.kM sz) cI cI) (λW h=>(kY sz W).mono λv w' ⟨t,q⟩=>⟨t,h.grow q⟩) ?_;intro w9 b;refine bH b 3 rfl (sK _ (Cs.kM sz) _ _ Cs.iD Y w9 om (by rw[i1];omega) om (b.hasM 3 rfl) f (fI Y 2 sz 0 [])) λy N3 j4 l3 f b=>?_;rw[i1] at q2;generalize Cs.wth S Cs.iD (Cs.kM sz)=F at *;obtain⟨q,P,D,rfl,c⟩:=f.open;refine aT 0 c.keys.one c.kids.one b rfl λZ b=>?_;have b:bT M.A w Z [obE b3 F q P,obE b2 ob0 cI cI,jN m x vs vk vc,.mem N3]:=b;have e1:=E.le l3;rw[tX,Gg b 2 rfl];refine bH b 3 rfl (qS x.aC vs N3 Z om hf (b.hasM 3 rfl) e1) ?_;rintro _ N4 j5 l4 rfl b;refine o_w3 b λB j6 b=>?_;refine M9 0 rfl b rfl λe2 b=>?_;have b:bT M.A w e2 [.cells B (w3C (Cs.wa x.aC:Nat) (Cs.wb x.aC:Nat)) 43,obE b3 F q P,obE b2 ob0 cI cI,jN m x vs vk vc,.mem N4]:=b;have q3:=po F Cs.kW (Cs.D4 [1,(Cs.wa x.aC:Nat),(Cs.wb x.aC:Nat)]);generalize ((Cs.wa x.aC:Nat):Int)=a at *;generalize ((Cs.wb x.aC:Nat):Int)=d at *;have e3:=nq [1,a,d];have e3:(Cs.D4 [1,a,d]).wt<=1000:=by
   have h:=pn [1,a,d];have h3:([1,a,d]:List Int).length=3:=rfl;omega
  have b:=b.drew;refine⟨λW=>(obE b3 F q P).is W∧(Ent.cells B (w3C a d) 43).is W,⟨b.at_ 1 rfl,b.at_ 0 rfl⟩,?_⟩;refine fS (obV F q P) (λW h=>aY (AtV.agg fR (cs:=obC F q P) rfl λj u hj=>by rw[auP];exact aI (T:=25) h.1 hj)) ?_;refine aP (af B (0+0)) (λ_=>LS (i:=0) dc) (fS (ad 1) (λW h=>aB aU (aI (T:=43) (cs:=w3C a d) h.2 rfl)) ?_);refine aP (af B (0+1)) (λ_=>LS (i:=1) dc) (fS (ad a) (λW h=>aB aU (aI (T:=43) (cs:=w3C a d) h.2 rfl)) ?_);refine aP (af B (0+2)) (λ_=>LS (i:=2) dc) (fS (ad d) (λW h=>aB aU (aI (T:=43) (cs:=w3C a d) h.2 rfl)) ?_);refine aK b (kY 1 _) ?_;rintro _ j7 rfl b;refine⟨⟨b.at_ 1 rfl,b.at_ 0 rfl⟩,?_⟩;refine aK b (kY a _) ?_;rintro _ j8 rfl b;refine⟨⟨b.at_ 1 rfl,b.at_ 0 rfl⟩,?_⟩;refine aK b (kY d _) ?_;rintro _ j9 rfl b;refine⟨⟨b.at_ 1 rfl,b.at_ 0 rfl⟩,?_⟩;refine adH 1 a d 4 b rfl λxb N5 a1 l5 a6 b=>?_;have b:bT M.A w a1 [.cells B (w3C a d) 43,obE b3 F q P,obE b2 ob0 cI cI,jN m x vs vk vc,.mem N5]:=b;refine⟨⟨b.at_ 1 rfl,b.at_ 0 rfl⟩,?_⟩;refine aK b (CC _ _ _ ([1,a,d].map Cs.kM) a1) ?_;rintro _ e4 rfl b;refine⟨⟨b.at_ 1 rfl,b.at_ 0 rfl⟩,?_⟩;have a7:=((l3.trans l4).trans l5);refine bH b 4 rfl (sK _ (Cs.D4 [1,a,d]) _ _ Cs.kW N5 e4 om om om (b.hasM 4 rfl) ((f.le l4).le l5) (tE.ov (o:=Cs.D4 [1,a,d]) ⟨SlA.nil _ _ _ _,a6,Sw N5 1 a d⟩)) λy N6 e5 l6 f b=>?_;generalize Cs.wth F Cs.kW (Cs.D4 [1,a,d])=G at *;have b:bT M.A w e5 [.cells B (w3C a d) 43,obE b3 F q P,obE b2 ob0 cI cI,jN m x vs vk vc,.mem N6]:=b;refine⟨⟨b.at_ 1 rfl,b.at_ 0 rfl⟩,?_⟩;obtain⟨Q,c3,D,rfl,c⟩:=f.open;refine aT 1 c.keys.one c.kids.one b rfl λa8 b=>?_;have b:bT M.A w a8 [.cells B (w3C a d) 43,obE b3 G Q c3,obE b2 ob0 cI cI,jN m x vs vk vc,.mem N6]:=b;have I:=(a7.trans l6);have e6:=E.le I;rw[tX,Gg b 3 rfl];refine bH b 4 rfl (YC x.aC vs N6 a8 om (SZ hc) (b.hasM 4 rfl) e6) λrv U e7 l7 H b=>?_;have H:SlA U.A U.w rv 2 (Tl.runs x.aC).length (Pt (Tl.runs x.aC)):=H;have b:bT M.A w e7 [.cells B (w3C a d) 43,obE b3 G Q c3,obE b2 ob0 cI cI,jN m x vs vk vc,.mem U]:=b;have e8:=f.le l7;have b0:M.le U:=((l1.trans l2).trans I).trans l7;have q4:=po G Cs.fP (Cs.D4 (Cs.flat (Tl.runs x.aC)));have e9:=pn (Cs.flat (Tl.runs x.aC));rw[Cs.nU] at e9;generalize Tl.runs x.aC=l at *;have b:=bT.nilU b 25 6;refine loop (λvs' W=>∃(i:Nat) (cv:aq),vs'=[cv,ad (i:Int)]∧i<=l.length∧bT M.A w W [inR cv (Cs.flat (l.take i)),.cells B (w3C a d) 43,obE b3 G Q c3,obE b2 ob0 cI cI,jN m x vs vk vc,.mem U]) (λvs _=>l.length - n1 vs) ⟨0,cI,rfl,om,b⟩ ?_;clear b;rintro vs' h0 ⟨i,cv,rfl,hi,b⟩ _;simp only[oD,gd,iN,ldx,bnx,fax,stx,lnx,cx];rw[aZ azG (H.now (b.hasM 5 rfl))];simp only[rs];have h1:=Cs.nU (l.take i);rw[auM] at h1;by_cases b4:(i:Int) < (l.length:Int)
  ·simp only[auG b4,i_t];have C:i < l.length:=om
   obtain⟨g,off,b6,b7⟩:=acD H C;refine cY (λW=>bT M.A w W [inR cv (Cs.flat (l.take i)),.cells B (w3C a d) 43,obE b3 G Q c3,obE b2 ob0 cI cI,jN m x vs vk vc,.mem U]) b.drew ?_;refine dY _ b6 (dY _ (λ_=>YS) ?_);refine gA (ad l[i].1) (λW h=>aB aU (b7 W (h.hasM 5 rfl)).1) ?_;refine fY (obV (Cs.kM l[i].1) cI cI) (λW h=>(kY l[i].1 W).mono λv w' ⟨t,q⟩=>⟨t,h.grow q⟩) ?_;refine dY _ b6 (dY _ (λ_=>Kn) ?_);refine gA (ad l[i].2) (λW h=>aB aU (b7 W (h.hasM 5 rfl)).2) ?_;refine fY (obV (Cs.kM l[i].2) cI cI) (λW h=>(kY l[i].2 W).mono λv w' ⟨t,q⟩=>⟨t,h.grow q⟩) ?_;intro b8 b;refine akT 0 b rfl om λcv' h2 b=>?_
   try simp only[rs]
   rw[aA om om];refine bC ⟨i+1,cv',rfl,om,?_⟩ (by simp[n1,RowKit.intOf];omega);rw[G7 C,xx];exact b
  simp only[auD b4,i_f];have:i=l.length:=om
  subst this;rw[awD] at b;obtain⟨L,l8,b9,b⟩:=b.bG 4 rfl;have b:bT M.A w h0 [.cells B (w3C a d) 43,obE b3 G Q c3,obE b2 ob0 cI cI,jN m x vs vk vc,.mem L]:=b;have c0:∃v',(∀W,Ret ah 55 #[cv] W (λv w'=>v=v'∧Below W.heap.size W w'))∧OV L.A L.w v' (Cs.D4 (Cs.flat l)):=by
   obtain⟨z,n,cap,rfl⟩:∃z n cap,cv=.slice z n cap:=by
    obtain⟨_,z,cap,e,_⟩:=b9.1;exact⟨z,_,cap,e⟩
   refine⟨_,λW=>CC z n cap ((Cs.flat l).map Cs.kM) W,tE.ov (o:=Cs.D4 (Cs.flat l)) ⟨SlA.nil _ _ _ _,?_,Jd L _⟩⟩;show SlA L.A L.w _ 6 ((Cs.flat l).map Cs.kM).length _;rw[avJ];exact b9
  obtain⟨av,h4,h5⟩:=c0;refine cY (λW=>bT M.A w W [.cells B (w3C a d) 43,obE b3 G Q c3,obE b2 ob0 cI cI,jN m x vs vk vc,.mem L]) b.drew ?_;refine gA (obV G Q c3) (λW h=>aY (h.agg 1 rfl fR)) ?_;refine fY av (λW h=>(h4 W).mono λv w' ⟨t,q⟩=>⟨t,h.grow q⟩) ?_;intro b8 b;refine bH b 4 rfl (sK _ (Cs.D4 (Cs.flat l)) _ _ Cs.fP L b8 om om om (b.hasM 4 rfl) (e8.le l8) h5) λy V h2 l9 f b=>?_;generalize Cs.wth G Cs.fP (Cs.D4 (Cs.flat l))=o4 at *;obtain⟨k4,c4,D,rfl,c⟩:=f.open;refine aT 1 c.keys.one c.kids.one b rfl λh6 b=>?_;have b:bT M.A w h6 [.cells B (w3C a d) 43,obE b3 o4 k4 c4,obE b2 ob0 cI cI,jN m x vs vk vc,.mem V]:=b;have fin:∀{W:ao} {N:Mem} {o5:Ob} {k5 c5:aq},V.le N->o5=(Cs.lI x).1->OV N.A N.w (obV o5 k5 c5) o5->bT M.A w W [.cells B (w3C a d) 43,obE b3 o5 k5 c5,obE b2 ob0 cI cI,jN m x vs vk vc,.mem N]->iY (af b2 0) (af b3 0) W K:=by
   intro W N o5 k5 c5 hle he f b;unfold iY nz;rw[jL b 1 rfl];refine aT 2 f.oneK f.oneC b rfl λc6 b=>?_;exact eN (bJ (b.agg 2 rfl fR)) (hK _ _ N _ 4 b rfl (((b0.trans l8).trans l9).trans hle) (by rw[<-he];exact f))
  refine join λJ8 c7=>?_;rw[Kp,aJ aU (b.cell 3 rfl 8 rfl)];simp only[rs];by_cases hp:0<=x.prev
  ·simp only[auG hp,i_t];rw[auC hp,azX,List.foldl_nil] at R;refine cY (λW=>bT M.A w W [.cells B (w3C a d) 43,obE b3 o4 k4 c4,obE b2 ob0 cI cI,jN m x vs vk vc,.mem V]) b.drew ?_;refine gA (obV o4 k4 c4) (λW h=>aY (h.agg 1 rfl fR)) ?_;refine dY _ (λ_=>bE fse3) ?_;refine gA (ad x.prev) (λW h=>aB aU (h.cell 3 rfl 8 rfl)) ?_;refine fY (obV (Cs.kM x.prev) cI cI) (λW h=>(kY x.prev W).mono λv w' ⟨t,q⟩=>⟨t,h.grow q⟩) ?_;intro c6 b;refine bH b 4 rfl (sK _ (Cs.kM x.prev) _ _ Cs.pQ V c6 om (by rw[i1];omega) om (b.hasM 4 rfl) f (fI V 2 x.prev 0 [])) λy k0 k6 l10 f b=>?_;obtain⟨k5,c5,D,rfl,c⟩:=f.open;refine aT 1 c.keys.one c.kids.one b rfl λk7 b=>?_;exact c7 _ _ λ_=>fin l10 R f b
  ·simp only[auD hp,i_f];rw[auB hp,List.foldl_nil] at R;exact c7 _ _ λ_=>fin V.le_refl R f b
 refine join λJ hJ=>?_;rw[tX,Gg b 2 rfl,aZ axA (E.now (b.hasM 3 rfl))];simp only[rs];by_cases hz:(0:Int) < (x.aC.length:Int)
 ·simp only[auG hz,i_t];rw[tX,Gg b 2 rfl,tX,Gg b 2 rfl,aZ axA (E.now (b.hasM 3 rfl))];simp only[rs];rw[aA om om,show (x.aC.length:Int) - 1=((x.aC.length - 1:Nat):Int) by omega];have C:x.aC.length - 1 < x.aC.length:=om
  obtain⟨g,off,hr⟩:=jQ E C;obtain⟨r1,r2⟩:=hr w8 (b.hasM 3 rfl);have k8:=(Tl.MS (Tl.xB hc _ (auS C))).1;refine aD r1 |>.mpr ?_;rw[Qa];refine aD (qV r2) |>.mpr ?_
  try simp only[rs]
  rw[aA om om];have e:x.aC[x.aC.length - 1].num+1=sz:=by
   rw[hlen,List.getLast?_eq_getElem?,auO C]
  rw[e];refine hJ _ _ λ_=>?_;simp only[gd];exact nx b
 ·simp only[auD hz,i_f];have e:(0:Int)=sz:=by
   have:x.aC=[]:=axZ.1 om;rw[hlen,this];rfl
  refine hJ _ _ λ_=>?_;simp only[gd];rw[e];exact nx b
end
section
open Go Eng
namespace Cs
theorem adL (h:may x=0):Tl.check x.aC=0∧(1<=x.own∧x.own<=8191∧-1<=x.prev∧x.prev<=2147483647)∧Vl.check 1 x.trailer=0∧x.trailer.k=7:=by
 unfold may at h;by_cases a:Tl.check x.aC≠0
 ·rw[auC a] at h;exact absurd h a
 rw[auB a] at h;by_cases b:x.own < 1∨8191 < x.own∨x.prev < -1∨2147483647 < x.prev
 ·rw[auC b] at h;cases h
 rw[auB b] at h;by_cases c3:Vl.check 1 x.trailer≠0
 ·rw[auC c3] at h;exact absurd h c3
 rw[auB c3] at h;by_cases c:x.trailer.k≠7
 ·rw[auC c] at h;cases h
 exact⟨awX.1 a,om,awX.1 c3,awX.1 c⟩
theorem aiQ (h:may x≠0):why x=may x:=by
 unfold may at h;unfold why may;by_cases a:Tl.check x.aC≠0
 ·rw[auC a,auC a]
 rw[auB a] at h;rw[auB a,auB a];by_cases b:x.own < 1∨8191 < x.own∨x.prev < -1∨2147483647 < x.prev
 ·rw[auC b,auC b]
 rw[auB b] at h;rw[auB b,auB b];by_cases c3:Vl.check 1 x.trailer≠0
 ·rw[auC c3,auC c3]
 rw[auB c3] at h;rw[auB c3,auB c3];by_cases c:x.trailer.k≠7
 ·rw[auC c,auC c]
 rw[auB c] at h;exact absurd rfl h
theorem agL {i:It}{e:Int}(h:Fp x i e)(hm:may x≠0):i=Dk.it0∧e=may x:=by
 unfold Fp at h;rw[aiQ hm,auC hm] at h;exact h
theorem ZT {i:It}{e:Int}(h:Fp x i e)(q:x.aC.length<=200)(hm:may x=0) :
  e=0∧i.num=x.own∧i.gen=0∧Bd.check i=0∧Ff.decode i.obj=(rows x.aC,0)∧(∀n∈(Ff.of i.obj).1,Ff.full n=Ff.nFl)∧i.obj.k=9∧i.obj.keys=(Ff.Eb (lI x).1 (pm x.aC)).keys∧i.obj.kids=(Ff.Eb (lI x).1 (pm x.aC)).kids:=by
 obtain⟨c,⟨r,s,t,l⟩,c3,d⟩:=adL hm;obtain⟨d1,d2,d3,d4,d5,d6,d7⟩:=Tx om c l c3 d;have hw:why x=0:=by
  unfold why;rw[auB (λh=>h c),auB om,auB (λh=>h c3),auB (λh=>h d),auB (λh=>h d1)]
 unfold Fp at h;rw[auB (λk=>k hw)] at h;obtain⟨D,f,he,hi⟩:=h;have a:x.aC.length<=8192:=om
 have g:=EH a;have hlen:(rows x.aC).length=x.aC.length*(1+wa x.aC+wb x.aC):=pI _ _ _;have u:=Fm x.aC;have v:=Fc x.aC;have hle:x.aC.length*(1+wa x.aC+wb x.aC)<=8192*9:=axG a om;have j:D.length<=1048576:=by
  have:=f;unfold Ff.MT at this;rw[auB dc,auC dc,auC (Gb a)] at this;omega
 obtain⟨z,m,o⟩:=Ff.Ym (D:=D) d2 d3 om d5 d6 d7 j (pm_I x.aC);rw[auB (λh=>h z)] at hi;obtain⟨e1,e2,⟨e3,p⟩,w⟩:=Ff.OL z f (aaJ x.aC) j om;subst hi;refine⟨he.trans z,rfl,rfl,?_,e3,λn b=>?_,e1,m,o⟩
 ·unfold Bd.check;rw[auB,auB (λh=>h e2),auB (by show ¬(Ff.zF (lI x).1 (pm x.aC) D).1.k=8;rw[e1];decide)];have:Dk.numbers ⟨x.own,0,(Ff.zF (lI x).1 (pm x.aC) D).1⟩=true:=by
   simp only[Dk.numbers,auY,avK];omega
  rw[this];decide
 ·have b:n∈(Ff.of (Ff.zF (lI x).1 (pm x.aC) D).1).1:=b;rw[p] at b;rw[avD.1 b];decide
end Cs
end
section
open Eng
def qK(t0 w)(K:KT):=nz f17 1 [] [] [] (zg [0] [t0]) w K
theorem yU:qK t0 w k0->Calls ah 17 #[t0] w k0:=cw func17
end
section
open Eng Go.RowKit
theorem Qd (i:It)(w:ao)(hw:i.obj.wt<=100000000000)(l:OV (InW w) w (obV i.obj vk vc) i.obj):Ret ah 17 #[itV i vk vc] w (λv w'=>v=ad (Bd.check i)∧Below w.heap.size w w'):=by
 refine aX λK f=>yU ?_;unfold qK nz;refine agX i l.oneK l.oneC (Own.start w) λb m a=>?_;have out:Dk.numbers i=au->K (.returned (ad 2)) m:=λh=>f _ _ ⟨by rw[Bd.check,auC h],a.done⟩;have o:Dk.numbers i=aw↔1<=i.num∧i.num<=8191∧0<=i.gen∧i.gen<=65535:=by
  simp only[Dk.numbers,auY,avK];omega
 have outs:¬(1<=i.num∧i.num<=8191∧0<=i.gen∧i.gen<=65535)->K (.returned (ad 2)) m:=λh=>out (by
  cases q:Dk.numbers i with
 |true=>exact absurd (o.1 q) h
 |false=>rfl)
 by_cases d:i.num < 1
 ·simp only[rs,F2,uW a 0 rfl,auG d,oG];exact outs om
 by_cases g:i.num>8191
 ·simp only[rs,F2,uW a 0 rfl,auD d,auG g,oG];exact outs om
 by_cases n:i.gen < 0
 ·simp only[rs,F2,NF,uW a 0 rfl,E5 a 0 rfl,auD d,auD g,auG n,oG];exact outs om
 by_cases p:i.gen>65535
 ·simp only[rs,F2,NF,uW a 0 rfl,E5 a 0 rfl,auD d,auD g,auD n,auG p,oG];exact outs om
 simp only[rs,F2,NF,uW a 0 rfl,E5 a 0 rfl,auD d,auD g,auD n,auD p,oG,IV,Jo a 0 rfl];have c:Dk.numbers i=true:=o.2 om;obtain⟨cs,r⟩:=l.slices;refine tQ (lE i.obj _ m (r.in_ a).ov om) rfl a λw2 a=>?_;rw[eC];by_cases e:Vl.check 1 i.obj=0
 case neg=>
  simp only[auG (show Vl.check 1 i.obj≠0 from e),i_t];exact f _ _ ⟨by rw[Bd.check,auB (by simp[c]),auC e],a.done⟩
 simp only[e,show ai ((0:Int)≠0)=au by decide,i_f,IV,eG,it_k a 0 rfl,rs];by_cases j:i.obj.k=8
 ·simp only[auG j,i_t];exact f _ _ ⟨by rw[Bd.check,auB (by simp[c]),auB (by simp[e]),auC j],a.done⟩
 ·simp only[auD j,i_f];exact f _ _ ⟨by rw[Bd.check,auB (by simp[c]),auB (by simp[e]),auB j],a.done⟩
theorem anP {a:Nat}(c:a<=4)(d:b<=4):(mEq .neq 43 xo yo (w3V (a:Nat) (b:Nat)) (w3V (a:Nat) (b:Nat))).run ah w=.ok (.value (.bool au)) w:=by
 rcases (by omega:a=0∨a=1∨a=2∨a=3∨a=4) with rfl|rfl|rfl|rfl|rfl<;>rcases (by omega:b=0∨b=1∨b=2∨b=3∨b=4) with rfl|rfl|rfl|rfl|rfl<;>kernel_rfl
def alA:Option Nat->List Ent
|none=>[]
|some b=>[obE b ob0 cI cI]
def ZS (S:Nat->Prop)(M:Mem)(w:ao)(e1 e2 e3:Ent)(D F:Ob)(p:Pm)(q:Option Nat)(d n pp k:Option aq)(W:ao):Prop:=
 ∃N,M.le N∧(∀v,d=ay v->OV N.A N.w v D)∧(∀v,n=ay v->SlA N.A N.w v 1 [Ff.nFl].length (bI [Ff.nFl]))∧(∀v,pp=ay v->SlA N.A N.w v 3 [p].length ([p].flatMap pmC))∧(∀v,k=ay v->OV N.A N.w v F)∧bT S w W (alA q++[e1,e2,e3,.mem N])
section
variable {S:Nat->Prop}{M:Mem}{w W:ao}{e1 e2 e3:Ent}{D F:Ob}{p:Pm}{q:Option Nat}{d n pp k:Option aq}{PK:PKT}{K:VWP}
theorem ZS.is1 (h:ZS S M w e1 e2 e3 D F p q d n pp k W):e1.is W∧e3.is W:=by
 obtain⟨N,_,_,_,_,_,a⟩:=h;cases q
 ·exact⟨a.at_ 0 rfl,a.at_ 2 rfl⟩
 ·exact⟨a.at_ 1 rfl,a.at_ 3 rfl⟩
theorem ZS.set {N a:Mem}{W:ao}{q:Option Nat}(b:bT S w W ((alA q++[e1,e2,e3,.mem N]).set ((alA q).length+3) (.mem a))):bT S w W (alA q++[e1,e2,e3,.mem a]):=by
 cases q<;>exact b
theorem ZS.get {q:Option Nat}:(alA q++[e1,e2,e3,.mem N])[(alA q).length+3]?=ay (.mem N):=by
 cases q<;>rfl
theorem aeL {T:Ob}(j:ZS S M w e1 e2 e3 D F p q d n pp k W)(m:∀N,M.le N->N.has W->(∀v,d=ay v->OV N.A N.w v D)->(∀v,n=ay v->SlA N.A N.w v 1 [Ff.nFl].length (bI [Ff.nFl]))->(∀v,pp=ay v->SlA N.A N.w v 3 [p].length ([p].flatMap pmC))->jR ah f args N W (λr N=>OV N.A N.w r T))
  (o:∀v N b,M.le N->OV N.A N.w v T->(∀v,d=ay v->OV N.A N.w v D)->(∀v,n=ay v->SlA N.A N.w v 1 [Ff.nFl].length (bI [Ff.nFl]))->(∀v,pp=ay v->SlA N.A N.w v 3 [p].length ([p].flatMap pmC))->(∀v,k=ay v->OV N.A N.w v F)->bT S w b (alA q++[e1,e2,e3,.mem N])->K v b):cR ah f args W PK K:=by
 obtain⟨N,l,e,g,i,s,c⟩:=j;refine bH c ((alA q).length+3) ZS.get (m N l (c.hasM _ ZS.get) e g i) λv t b a u c=>?_;exact o v t b (l.trans a) u (λv h=>(e v h).le a) (λv h=>(g v h).le a) (λv h=>(i v h).le a) (λv h=>(s v h).le a) (ZS.set c)
theorem agE (e:ZS S M w e1 e2 e3 D F p q d ax pp k W)(f:∀v c,ZS S M w e1 e2 e3 D F p q d (ay v) pp k c->K v c):DoX ah (aM 22 1 #[(0,(.string ⟨#[70,108,97,116,101,68,101,99,111,100,101]⟩))]) W PK K:=by
 obtain⟨N,l,g,o,i,j,a⟩:=e;refine D6 Ff.nFl a λx c a=>?_;obtain⟨m,b,n,a⟩:=bT.bG (a.toU 1 1 1 rfl om om) ((alA q).length+3) ZS.get;exact f _ _ ⟨m,l.trans b,λv h=>(g v h).le b,λv h=>by cases h;exact n,λv h=>(i v h).le b,λv h=>(j v h).le b,ZS.set a⟩
theorem ajP (f:ZS S M w e1 e2 e3 D F p q d n ax k W)(g:∀v e,ZS S M w e1 e2 e3 D F p q d n (ay v) k e->K v e):DoX ah (aM 54 1 #[(0,pmV p)]) W PK K:=by
 obtain⟨N,l,i,j,s,m,a⟩:=f;refine bK (λb=>bO b 0 1 1) (pmC p) 53 (λ_=>by kernel_rfl) a λx e a=>?_;obtain⟨o,c,r,a⟩:=bT.bG (a.toU 3 1 1 rfl om om) ((alA q).length+3) ZS.get;exact g _ _ ⟨o,l.trans c,λv h=>(i v h).le c,λv h=>(j v h).le c,λv h=>by cases h;exact r,λv h=>(m v h).le c,ZS.set a⟩
theorem agR (e:ZS S M w e1 e2 e3 D F p ax d n pp k W)(f:∀b a,ZS S M w e1 e2 e3 D F p (ay b) d n pp k a->K (af b 0) a):DoX ah (fK 25) W PK K:=by
 obtain⟨N,l,g,h,i,j,c⟩:=e;exact dJ c λb a c=>f b a ⟨N,l,g,h,i,j,c⟩
end
theorem Lz (x:Sec)(vs vk vc:aq)(M:Mem)(w:ao)(O:Rp M)(P:Od M)(E:Pws M)(hM:M.has w)(hb:x.aC.length<=1000000000)(hw:x.trailer.wt<=10000000)(hf:SltI x.aC)
  (G:SlA M.A M.w vs 4 x.aC.length (GU x.aC)) (s:OV M.A M.w (obV x.trailer vk vc) x.trailer) :
  jR ah 4 #[Jq x vs vk vc] M w (λr _=>r=.bool aw):=by
 refine bB hM λK hK=>qT ?_;unfold kC eZ fB fA eY dA fC eX iN dx ldx fax exx stx eqx alx ecx gtx gfx ctx cfx cx;refine Vr x G.one s.oneK s.oneC (bT.memS hM) λb2 w1 a=>?_;have lv:∀{W:ao} {L:List Ent} {N:Mem} (j:Nat),bT M.A w W L->L[j]?=ay (.mem N)->M.le N->cR ah 6 #[] W (pk K) λt w=>K (.returned t) w:=by
  intro W L N j a hj hle;refine bH a j hj (DZ N W (O.le hle) (P.le hle) (E.le hle) (a.hasM j hj)) ?_;rintro _ N2 W2 C rfl a;exact hK _ _ N2 _ j a (axR (auV.1 hj).1) (hle.trans C) rfl
 rw[se_v a 0 rfl];refine aK a (R:=λr=>∃b,r=.bool b∧(b=aw->x.aC.length<=200)) (Q7 x vs vk vc w1 hb om G (OV.inw (a.hasM 1 rfl) s)) ?_;rintro _ w2 ⟨q,rfl,hq⟩ a;rw[PQ];cases q with
|false=>
  simp only[avZ,i_t];exact lv 1 a rfl M.le_refl
|true=>
 have hl:=hq rfl;simp only[awA,i_f];rw[se_v a 0 rfl];refine bH a 1 rfl (JH x vs vk vc M w2 E om hw (a.hasM 1 rfl) G s) ?_;rintro _ N w3 X ⟨i,e,c,y,rfl,Y,z⟩ a;have b0:=Cs.X3 Y om hw;simp only[ex];refine Zn a λb3 w4 a=>?_;refine L7 0 (i':=i) z.oneK z.oneC a rfl λw5 a=>?_;have a:bT M.A w w5 [itE b3 i c y,jN b2 x vs vk vc,.mem N]:=a;have Q:=G.le X;have b1:=s.le X;refine cY (λW=>bT M.A w W [itE b3 i c y,jN b2 x vs vk vc,.mem N]) a.drew ?_;refine dY _ (λ_=>bE fse1) ?_;refine gA vs (λ_ h=>aB nSls (h.cell 1 rfl 1 rfl)) ?_;refine fY (w3V (Cs.wa x.aC:Nat) (Cs.wb x.aC:Nat)) (λW h=>Ret.mono (Ej x.aC vs N W hb (h.hasM 2 rfl) Q) λv w' ⟨_,g,k2⟩=>⟨k2,h.grow g.below⟩) ?_;refine dY _ (λ_=>bE fse1) ?_;refine gA vs (λ_ h=>aB nSls (h.cell 1 rfl 1 rfl)) ?_;refine fY (w3V (Cs.wa x.aC:Nat) (Cs.wb x.aC:Nat)) (λW h=>Ret.mono (qS x.aC vs N W hb hf (h.hasM 2 rfl) Q) λv w' ⟨_,g,k2⟩=>⟨k2,h.grow g.below⟩) ?_;refine dY _ (λ_=>anP (Cs.Fm x.aC) (Cs.Fc x.aC)) ?_;intro w6 a;simp only[i_f];rw[se_v a 1 rfl];refine bH a 2 rfl (UG x vs vk vc N w6 hb om (a.hasM 2 rfl) Q b1) ?_;rintro _ N2 w7 C rfl a;have a:bT M.A w w7 [itE b3 i c y,jN b2 x vs vk vc,.mem N2]:=a;simp only[eC];by_cases hm:Cs.may x=0
 case neg=>
  obtain⟨rfl,rfl⟩:=Cs.agL Y hm;simp only[auG (show Cs.may x≠0 from hm),i_t,rs,auE];rw[F2,uW a 0 rfl];simp only[rs,show ai (Dk.it0.num=0)=aw from rfl];rw[NF,E5 a 0 rfl];simp only[rs,show ai (Dk.it0.gen=0)=aw from rfl];rw[IV,Jo a 0 rfl]
  try simp only[rs]
  rw[EU];refine aK a (R:=λv=>v=.bool (Ob.eqb Vl.ob0 Vl.ob0)) (Mj Vl.ob0.wt Vl.ob0 Vl.ob0 _ _ w7 (auL _) dc (OV.inw (a.hasM 2 rfl) (z.le C)) (OV.inw (a.hasM 2 rfl) (nW N2))) ?_;rintro _ w8 rfl a;simp only[rs,show Ob.eqb Vl.ob0 Vl.ob0=aw from by decide];refine bH a 2 rfl (DZ N2 w8 (O.le (X.trans C)) (P.le (X.trans C)) (E.le (X.trans C)) (a.hasM 2 rfl)) ?_;rintro _ N3 w9 l3 rfl a
  try simp only[rs]
  exact hK _ _ N3 _ 2 a rfl ((X.trans C).trans l3) rfl
 obtain⟨rfl,b4,b5,c6,b6,c7,c8,Z,a1⟩:=Cs.ZT Y hl hm;obtain⟨c1,⟨o1,o2,p1,p2⟩,c3,c4⟩:=Cs.adL hm;obtain⟨d1,d2,d3,d4,d5,d6,d7⟩:=Cs.Tx om c1 p2 c3 c4;simp only[hm,show ai ((0:Int)≠0)=au from rfl,i_f,rs];rw[F2,uW a 0 rfl,b4]
 try simp only[rs]
 rw[La,aJ aU (a.cell 1 rfl 10 rfl)];simp only[rs,show ai (x.own≠x.own)=au from auD (λh=>h rfl)];rw[NF,E5 a 0 rfl,b5];simp only[rs,show ai ((0:Int)≠0)=au from rfl];rw[EN (a.agg 0 rfl Q3)];refine aK a (R:=λv=>v=ad (Bd.check i)) (Qd i w7 om (OV.inw (a.hasM 2 rfl) (z.le C))) ?_;rintro _ w8 rfl a;simp only[eC,c6,rs,show ai ((0:Int)≠0)=au from rfl,i_f];rw[IV,Jo a 0 rfl];have f:=X.trans C;refine bH a 2 rfl (ML i.obj (λx _=>pdR x) (λn h x=>aeN (c7 n h)) _ N2 w8 (O.le f) (P.le f) (E.le f) b0 (a.hasM 2 rfl) (z.le C)) ?_;rintro _ N3 w9 l3 rfl a;have a:bT M.A w w9 [itE b3 i c y,jN b2 x vs vk vc,.mem N3]:=a;rw[b6];simp only[zlT,ex];rw[tX,Gg a 1 rfl];refine bH a 2 rfl (qS x.aC vs N3 w9 hb hf (a.hasM 2 rfl) ((Q.le C).le l3)) ?_;rintro _ B e8 l4 rfl a;refine o_w3 a λm e9 a=>?_;refine M9 0 rfl a rfl λb7 a=>?_;have a:bT M.A w b7 [.cells m (w3C (Cs.wa x.aC:Nat) (Cs.wb x.aC:Nat)) 43,itE b3 i c y,jN b2 x vs vk vc,.mem B]:=a;have H:M.le B:=(f.trans l3).trans l4;have U:=((z.le C).le l3).le l4;have V:=G.le H;have c0:=s.le H;have h0:=Cs.Fm x.aC;have h5:=Cs.Fc x.aC;have c9:=Cs.alV x.aC;have c2:pmV (Cs.pm x.aC)=.agg #[ad 12,ad 1,ad (1+(Cs.wa x.aC:Nat)+(Cs.wb x.aC:Nat))]:=rfl;have h6:(Cs.lI x).1.wt<=100000000:=by
  have hp:=(Cs.Ja x (by have:=Tl.qW x.aC;omega));have h:=Cs.FE (Cs.bL x) (Cs.iC x.trailer) 100000 hp.1;have I:(100000+11)*(Cs.bL x).length<=(100000+11)*5:=aAQ _ hp.2;have h7:=Cs.IZ x.trailer;unfold Cs.lI;omega
 have h8:i.obj.keys.length<=1000000000∧i.obj.kids.length<=1000000000:=by
  have J:=Pl.gE i.obj.keys;have I:=Ob.rN i.obj.kids;have h3:=i.obj.kN;omega
 have last:∀{W:ao} {N:Mem} {b9:Nat} {fk fc:aq},B.le N->OV N.A N.w (obV (Ff.Eb (Cs.lI x).1 (Cs.pm x.aC)) fk fc) (Ff.Eb (Cs.lI x).1 (Cs.pm x.aC))->bT M.A w W [obE b9 (Ff.Eb (Cs.lI x).1 (Cs.pm x.aC)) fk fc,.cells m (w3C (Cs.wa x.aC:Nat) (Cs.wb x.aC:Nat)) 43,itE b3 i c y,jN b2 x vs vk vc,.mem N] ->
   aL (af b2 0) (af b3 0) (ae (Cs.rows x.aC)) (ad 0) (af b9 0) W K:=by
  intro W N b9 fk fc lN hF a;unfold aL nz;simp only[rs,auE];rw[tX,Gg a 3 rfl]
  try simp only[rs]
  refine bH a 4 rfl (RG x.aC vs N W om hf (a.hasM 4 rfl) (V.le lN)) ?_;rintro _ N5 e0 l5 rfl a;simp only[rs,auE];rw[IV,eG,aJ aU (a.cell 2 rfl 2 rfl)];simp only[rs,c8,auE];rw[IV,iZ,aJ QU (a.cell 2 rfl 6 rfl)]
  try simp only[rs]
  rw[iZ,dZ a 0 rfl]
  try simp only[rs]
  obtain⟨gk,gc,gs,ge,a6⟩:=(OV.inw (a.hasM 4 rfl) ((U.le lN).le l5)).open;obtain⟨rfl,rfl⟩:=K7 ge;obtain⟨e1,e2,e3,a7,a8⟩:=(OV.inw (a.hasM 4 rfl) (hF.le l5)).open;obtain⟨rfl,rfl⟩:=K7 a7;refine aK a (R:=λv=>v=.bool (ai (i.obj.keys=(Ff.Eb (Cs.lI x).1 (Cs.pm x.aC)).keys))) (Na c fk i.obj.keys _ e0 a6.keys.1 a8.keys.1 om) ?_;rintro _ e4 rfl a;simp only[rs,auG Z];rw[IV,iR,aJ Zx (a.cell 2 rfl 7 rfl)]
  try simp only[rs]
  rw[iR,cQ a 0 rfl]
  try simp only[rs]
  obtain⟨gk,gc,gs,ge,a6⟩:=(OV.inw (a.hasM 4 rfl) ((U.le lN).le l5)).open;obtain⟨rfl,rfl⟩:=K7 ge;obtain⟨e1,e2,e3,a7,a8⟩:=(OV.inw (a.hasM 4 rfl) (hF.le l5)).open;obtain⟨rfl,rfl⟩:=K7 a7;refine aK a (R:=λv=>v=.bool (Ob.Lk i.obj.kids (Ff.Eb (Cs.lI x).1 (Cs.pm x.aC)).kids)) (OW e4 a6 a8 om λj J I u v W hu hv=>Mj _ _ _ u v W (auL _) (by have:=ER J;omega) hu hv) ?_;rintro _ e5 rfl a;simp only[rs,(Ob.I3 _ _).2 a1];have o:=(H.trans lN).trans l5;refine bH a 4 rfl (DZ N5 e5 (O.le o) (P.le o) (E.le o) (a.hasM 4 rfl)) ?_;rintro _ N6 h9 l6 rfl a
  try simp only[rs]
  exact hK _ _ N6 _ 4 a rfl (o.trans l6) rfl
 have e6:∀{N:Mem} {W:ao},B.le N->N.has W->jR ah 20 #[Jq x vs vk vc] N W (λr N=>OV N.A N.w r (Cs.lI x).1):=λl hN=>Rk x vs vk vc _ _ om hf c1 om c3 c4 d1 hN (V.le l) (c0.le l);have e7:∀{N:Mem} {W:ao} {v vn vp:aq},N.has W->OV N.A N.w v (Cs.lI x).1->SlA N.A N.w vn 1 [Ff.nFl].length (bI [Ff.nFl])->SlA N.A N.w vp 3 [Cs.pm x.aC].length ([Cs.pm x.aC].flatMap pmC)->jR ah 19 #[v,vn,vp] N W (λr N=>OV N.A N.w r (Ff.Eb (Cs.lI x).1 (Cs.pm x.aC))):=λhN hv J I=>UX _ _ _ _ _ _ _ c9 om hN hv J I;generalize Ff.Eb (Cs.lI x).1 (Cs.pm x.aC)=F at *;generalize (Cs.lI x).1=D at *;generalize Cs.pm x.aC=p at *;generalize Cs.rows x.aC=data at *;have a:=a.drew;refine⟨λW=>(jN b2 x vs vk vc).is W∧(Ent.cells m (w3C (Cs.wa x.aC:Nat) (Cs.wb x.aC:Nat)) 43).is W,⟨a.at_ 2 rfl,a.at_ 0 rfl⟩,?_⟩;have zi:∀{W q d n pp k},ZS M.A B w (.cells m (w3C (Cs.wa x.aC:Nat) (Cs.wb x.aC:Nat)) 43) (itE b3 i c y) (jN b2 x vs vk vc) D F p q d n pp k W->(jN b2 x vs vk vc).is W∧(Ent.cells m (w3C (Cs.wa x.aC:Nat) (Cs.wb x.aC:Nat)) 43).is W:=λh=>⟨h.is1.2,h.is1.1⟩;have zd:∀{W q n pp k PK K},ZS M.A B w (.cells m (w3C (Cs.wa x.aC:Nat) (Cs.wb x.aC:Nat)) 43) (itE b3 i c y) (jN b2 x vs vk vc) D F p q ax n pp k W->(∀v S,ZS M.A B w (.cells m (w3C (Cs.wa x.aC:Nat) (Cs.wb x.aC:Nat)) 43) (itE b3 i c y) (jN b2 x vs vk vc) D F p q (ay v) n pp k S->K v S)->cR ah 20 #[Jq x vs vk vc] W PK K:=
  λhz hk=>aeL hz (λN l hN _ _ _=>e6 l hN) λv N S l hv J I h3 h4 a=>hk v S ⟨N,l,(λu h=>by cases h;exact hv),I,h3,h4,a⟩
 have zk:∀{W q d n pp PK K},ZS M.A B w (.cells m (w3C (Cs.wa x.aC:Nat) (Cs.wb x.aC:Nat)) 43) (itE b3 i c y) (jN b2 x vs vk vc) D F p q (ay d) (ay n) (ay pp) ax W->(∀v S,ZS M.A B w (.cells m (w3C (Cs.wa x.aC:Nat) (Cs.wb x.aC:Nat)) 43) (itE b3 i c y) (jN b2 x vs vk vc) D F p q (ay d) (ay n) (ay pp) (ay v) S->K v S)->cR ah 19 #[d,n,pp] W PK K:=
  λhz hk=>aeL hz (λN l hN J I h3=>e7 hN (J _ rfl) (I _ rfl) (h3 _ rfl)) λv N S l hv J I h3 h4 a=>hk v S ⟨N,l,J,I,h3,(λu h=>by cases h;exact hv),a⟩
 have zf:∀{W b d n pp k PK},ZS M.A B w (.cells m (w3C (Cs.wa x.aC:Nat) (Cs.wb x.aC:Nat)) 43) (itE b3 i c y) (jN b2 x vs vk vc) D F p (ay b) d n pp (ay k) W->DoX ah (aN 25 (af b 0) k) W PK λ_ w=>aL (af b2 0) (af b3 0) (ae data) (ad 0) (af b 0) w K:=by
  rintro W b d n pp k PK ⟨N,l,J,I,h3,h4,a⟩;have hk:=h4 _ rfl;obtain⟨fk,fc,fs,rfl,c5⟩:=hk.open;refine aT 0 c5.keys.one c5.kids.one a rfl λw' a=>?_;exact last l hk a
 have z0:ZS M.A B w (.cells m (w3C (Cs.wa x.aC:Nat) (Cs.wb x.aC:Nat)) 43) (itE b3 i c y) (jN b2 x vs vk vc) D F p ax ax ax ax ax b7.drew:=⟨B,B.le_refl,(λ_ h=>by cases h),(λ_ h=>by cases h),(λ_ h=>by cases h),(λ_ h=>by cases h),a⟩;refine fS (Jq x vs vk vc) (λW h=>aY (AtV.agg TJ (cs:=secC x vs vk vc) rfl λj u hj=>by rw[auP];exact aI (T:=34) h.1 hj)) ?_;refine aP (af m (0+0)) (λ_=>LS (i:=0) dc) (fS (ad 1) (λW h=>aB aU (aI (T:=43) (cs:=w3C (Cs.wa x.aC:Nat) (Cs.wb x.aC:Nat)) h.2 rfl)) ?_);refine aP (af m (0+1)) (λ_=>LS (i:=1) dc) (fS (ad (Cs.wa x.aC:Nat)) (λW h=>aB aU (aI (T:=43) (cs:=w3C (Cs.wa x.aC:Nat) (Cs.wb x.aC:Nat)) h.2 rfl)) ?_);refine aP (ad (1+(Cs.wa x.aC:Nat))) (λ_=>by rw[Fk,aA om om]) ?_;refine aP (af m (0+2)) (λ_=>LS (i:=2) dc) (fS (ad (Cs.wb x.aC:Nat)) (λW h=>aB aU (aI (T:=43) (cs:=w3C (Cs.wa x.aC:Nat) (Cs.wb x.aC:Nat)) h.2 rfl)) ?_);refine aP (ad (1+(Cs.wa x.aC:Nat)+(Cs.wb x.aC:Nat))) (λ_=>by rw[Fk,aA om om]) ?_;refine aP (pmV p) (λ_=>by rw[c2];kernel_rfl) ?_
 repeat' first
 |exact zf (by assumption)
 |refine agR (by assumption) λ_ _ h=>⟨zi h,?_⟩
 |refine agE (by assumption) λ_ _ h=>⟨zi h,?_⟩
 |refine ajP (by assumption) λ_ _ h=>⟨zi h,?_⟩
 |refine zk (by assumption) λ_ _ h=>⟨zi h,?_⟩
 |refine zd (by assumption) λ_ _ h=>⟨zi h,?_⟩
 |refine And.intro ?_ ?_
end
section
open Eng Go.RowKit Go.ChangeShapes Go.WideShapes Go.ChangeAt
set_option maxRecDepth 100000
theorem adU {α:Type}:∀{l:List α},l.length=4->∃a b c d,l=[a,b,c,d]
|[a,b,c,d],_=>⟨a,b,c,d,rfl⟩
theorem anT {α:Type}:∀{l:List α},l.length=6->∃a b c d e f,l=[a,b,c,d,e,f]
|[a,b,c,d,e,f],_=>⟨a,b,c,d,e,f,rfl⟩
theorem aiG {α:Type}:∀{l:List α},l.length=11->∃a b c d e f g h i j k,l=[a,b,c,d,e,f,g,h,i,j,k]
|[a,b,c,d,e,f,g,h,i,j,k],_=>⟨a,b,c,d,e,f,g,h,i,j,k,rfl⟩
section
variable {H:Type}{enc:TypeId×aq->H}{W:ao}{sp:Nat->Bool}{held:Bool}
theorem XZ (fuel:Nat)(cs:List aq)(x:DataW H×List MemPlace)(h:DataW.trod enc ah W 0 sp held fuel 60 cs=ay x):∃l:Slt,(cs=slC l∧(-9223372036854775808<=l.num∧l.num<=9223372036854775807)∧l.a<=9223372036854775807∧l.b<=9223372036854775807)∧cs.length=4∧1<=Rows.uptoBulk x.1:=by
 obtain⟨xs,n,rfl,rfl,p,e,f⟩:=DataW.trod_struct underlying60 h;have r:Tryz.prog.cellsOf 60=4:=krx
 rw[r] at p;have e:xs.length=4:=e;obtain⟨s,t,u,v,rfl⟩:=adU e;obtain⟨v0,v1,v2,v3,rfl⟩:=adU p;have q:=f 0 _ rfl;have e1:=f 1 _ rfl;have e2:=f 2 _ rfl;have e3:=f 3 _ rfl;have k0:Tryz.prog.cellsOf 3=1:=krx
 simp only[k0,axB,aAm,azA,axY,ayW,avR] at q e1 e2 e3;obtain⟨a,g,rfl,hw⟩:=DataW.trod_int avY q;obtain⟨b,i,rfl,_⟩:=DataW.trod_int avY e1;obtain⟨c,j,rfl,k⟩:=DataW.trod_int avY e2;obtain⟨d,m,rfl,o⟩:=DataW.trod_int avY e3
 injection g with g _
 injection i with i _
 injection j with j _
 injection m with m _
 subst g;subst i;subst j;subst m;refine⟨⟨a,b,c,d⟩,⟨rfl,vM hw,(vM k).2,(vM o).2⟩,rfl,?_⟩;simp only[Rows.uptoBulk,avS,axT,Rows.uptoBulkAll];omega
theorem Ub {α:Type}:∀l:List α,(l.map λ_=>1).sum=l.length
|[]=>rfl
|a::l=>by rw[avS,ayH,Ub l,auX];omega
theorem Te:∀{cs:List aq} {l:List Slt},Rws (λcs x=>cs=slC x∧(-9223372036854775808<=x.num∧x.num<=9223372036854775807)∧x.a<=9223372036854775807∧x.b<=9223372036854775807) cs l->cs=GU l∧UT l∧SltI l
|_,_,.nil=>⟨rfl,(λx c=>by cases c),λx c=>by cases c⟩
|_,_,.cons (a:=a) (rest:=rest) h t=>by
  obtain⟨d,e,f⟩:=Te t;refine⟨by rw[h.1,d];rfl,λx c=>?_,λx c=>?_⟩
  ·rcases auI.1 c with rfl|c
   ·exact h.2.1
   ·exact e x c
  ·rcases auI.1 c with rfl|c
   ·exact h.2.2
   ·exact f x c
theorem O3 {B:Nat}{d:DataW H}{ps:List MemPlace}(g:Value.okWide ah W .any B 34 v)(C:DataW.Trod enc ah W 0 sp held 34 v d ps) :
  ∃x:Sec,SecV (Mem.all W) v x∧UT x.aC∧SltI x.aC∧x.trailer.wt<=Rows.uptoBulk d∧x.aC.length<=Rows.uptoBulk d:=by
 obtain⟨cs,rfl,_⟩:=okWide_struct underlying34 g;obtain⟨fuel,h⟩:=C;have h:DataW.trod enc ah W 0 sp held fuel 34 cs.toList=ay (d,ps):=h;obtain⟨xs,n,rfl,c,s,e,f⟩:=DataW.trod_struct underlying34 h;have j:Tryz.prog.cellsOf 34=11:=krx
 rw[j] at s;have e:xs.length=6:=e;obtain⟨N,D,E,O,P,Q,rfl⟩:=anT e;obtain⟨v0,v1,v2,v3,v4,v5,v6,t,S,v9,v10,i⟩:=aiG s;rw[i] at f;have u:=f 0 _ rfl;have e1:=f 1 _ rfl;have e2:=f 2 _ rfl;have e3:=f 3 _ rfl;have z:=f 4 _ rfl;have A:=f 5 _ rfl;have k0:Tryz.prog.cellsOf 32=1:=krx
 have F:Tryz.prog.cellsOf 3=1:=krx
 have G:Tryz.prog.cellsOf 25=6:=krx
 simp only[k0,F,G,axB,aAm,azA,axY,ayW,avR] at u e1 e2 e3 z A;obtain⟨a,k,_,_⟩:=DataW.trod_int avY u;obtain⟨v',ds,is,l,I,J,T,K⟩:=Nz (R:=λcs x=>cs=slC x∧(-9223372036854775808<=x.num∧x.num<=9223372036854775807)∧x.a<=9223372036854775807∧x.b<=9223372036854775807) (wt:=λ_:Slt=>1) (n:=4) axA krx dc XZ e1;obtain⟨o,g1,g2,g3⟩:=abZ _ _ _ e2;obtain⟨p,hp,_,_⟩:=DataW.trod_int avY e3;obtain⟨y,m,_,_⟩:=DataW.trod_int avY z;obtain⟨w,hw,_,_⟩:=DataW.trod_int avY A
 injection l with l _
 injection k with k _
 injection hp with hp _
 injection m with m _
 injection hw with hw _
 subst l;subst k;subst hp;subst m;subst hw;obtain⟨vk,vc,L,he,q⟩:=g1.open;have he:[v2,v3,v4,v5,v6,t]=obC o vk vc:=by
  have:[v2,v3,v4,v5,v6,t].toArray=(obC o vk vc).toArray:=by injection he
  simpa using congrArg Array.toList this
 obtain⟨r,M,hi⟩:=Te J;subst r;have U:Rows.uptoBulk D.1+Rows.uptoBulk E.1<=Rows.uptoBulk d:=by
  have c:d=_:=congrArg Prod.fst c;rw[c];simp only[Rows.uptoBulk,avS,axT,Rows.uptoBulkAll];omega
 rw[Ub] at K;refine⟨⟨a,is,o,p,y,w⟩,⟨v1,vk,vc,?_,I,q.ov⟩,M,hi,?_,?_⟩
 ·rw[Jq,secC];show Value.agg cs=.agg ([Value.int .i64 a,v1]++(obC o vk vc++[Value.int .i64 p,Value.int .i64 y,Value.int .i64 w])).toArray;rw[<-he];have:cs=cs.toList.toArray:=sm
  rw[this,i];rfl
 ·show o.wt<=_;omega
 ·show is.length<=_;omega
end
end
section
open Eng Go.RowKit
def ajB (w:ao)(g:Nat):World:=
 { w with heap:=(w.heap.modify g λ
  |.cells _ t frozen=>.cells #[.map (ay w.heap.size)] t frozen
  |o=>o).push (.map #[⟨ad 16,.agg #[ad 3,ad 2],0⟩,⟨ad 17,.agg #[ad 3,ad 3],1⟩,⟨ad 18,.agg #[ad 11,ad 7],2⟩] 3) }
end
end Go.Proofs.YtlgndjkieegnaaaGreatDoor






namespace Go.Proofs.YtlgndjkieegnaaaGreatDoor
variable{A:Nat->Prop}{K:VWP}{M N:Eng.Mem}{W w:ao}{a:Int}{args:Array aq}{b f fuel i:Nat}{cs:List aq}{key:List UInt8}{o:Ob}{v vc vk:aq}{x:Sec}{xo yo:Operand}{t0:aq}{k0:Eng.KT}
section
open Eng Go.RowKit Go.ChangeShapes Go.WideShapes Go.ChangeAt
set_option maxRecDepth 100000
theorem aeT {α:Type}:∀{l:List α},l.length=2->∃a b,l=[a,b]
|[a,b],_=>⟨a,b,rfl⟩
theorem mapM_mem {α β:Type}{f:α->Option β}:∀{l:List α} {r:List β},l.mapM f=ay r->(∀a∈l,∃b∈r,f a=ay b)∧∀b∈r,∃a∈l,f a=ay b
|[],r,h=>by
  simp only[List.mapM_nil,Option.pure_def,ayK] at h;subst h;exact⟨(λa d=>by cases d),(λb g=>by cases g)⟩
|x::l,r,h=>by
  simp only[List.mapM_cons,Option.bind_eq_bind,azM,Option.pure_def,ayK] at h;obtain⟨b,g,j,i,rfl⟩:=h;obtain⟨i1,i2⟩:=mapM_mem i;refine⟨λa d=>?_,λc e=>?_⟩
  ·rcases auI.1 d with rfl|d
   ·exact⟨b,avQ,g⟩
   ·obtain⟨c,e,he⟩:=i1 a d;exact⟨c,auZ _ e,he⟩
  ·rcases auI.1 e with rfl|e
   ·exact⟨x,avQ,g⟩
   ·obtain⟨a,d,he⟩:=i2 c e;exact⟨a,auZ _ d,he⟩
theorem Za {H:Type}(x y:Lit×DataW H):∀l:List (Lit×DataW H),y∈DataW.insert x l↔y=x∨y∈l
|[]=>by simp[DataW.insert]
|z::r=>by
  unfold DataW.insert;split
  ·simp
  ·rw[auI,Za x y r,auI];constructor
   ·rintro (h|h|h)
    ·exact .inr (.inl h)
    ·exact .inl h
    ·exact .inr (.inr h)
   ·rintro (h|h|h)
    ·exact .inr (.inl h)
    ·exact .inl h
    ·exact .inr (.inr h)
theorem MH {H:Type}(y:Lit×DataW H):∀l:List (Lit×DataW H),y∈l.foldr DataW.insert []↔y∈l
|[]=>by simp
|x::r=>by rw[List.foldr_cons,Za,MH y r,auI]
section
variable {H:Type}{enc:TypeId×aq->H}{W:ao}{sp:Nat->Bool}{held:Bool}
theorem SX (fuel:Nat)(cs:List aq)(x:DataW H×List MemPlace)(h:DataW.trod enc ah W 0 sp held fuel 348 cs=ay x):∃a b:Int,cs=[.int .i64 a,.int .i64 b]∧x.1=.agg [.lit (.int .i64 a),.lit (.int .i64 b)]:=by
 obtain⟨xs,n,rfl,d,g,c,i⟩:=DataW.trod_struct underlying348 h;have k:Tryz.prog.cellsOf 348=2:=krx
 rw[k] at g;have c:xs.length=2:=c;obtain⟨l,m,rfl⟩:=aeT c;obtain⟨v0,v1,rfl⟩:=aeT g;have j:=i 0 _ rfl;have e1:=i 1 _ rfl;have k0:Tryz.prog.cellsOf 3=1:=krx
 simp only[k0,axB,aAm,azA,axY,ayW,avR] at j e1;obtain⟨a,e,rfl,_⟩:=DataW.trod_int avY j;obtain⟨b,f,rfl,_⟩:=DataW.trod_int avY e1
 injection e with e _
 injection f with f _
 subst e;subst f;exact⟨a,b,rfl,by rw[d];rfl⟩
end
section
variable {H:Type}{enc:TypeId×aq->H}{P:Program}{W:ao}{sp:Nat->Bool}{held:Bool}
theorem Yz {t k e:TypeId}(i:P.underlying t=ay (.map k e)){L:List (Lit×DataW H)}{p:List MemPlace}(h:DataW.trod enc P W 0 sp held fuel t cs=ay (.map L,p)) :
  ∃b es clock n entries,cs=[.map (ay b)]∧W.heap[b]?=ay (.map es clock) ∧
   (es.toList.mapM λx=>(keyOf P k x.key).bind λkey=>if x.val.formed P e then (DataW.trod enc P W 0 sp held n e x.val.cells.toList).map λy=>((key,y.1),y.2) else ax)=ay entries ∧
   (entries.map (·.1)).foldr DataW.insert []=L:=by
 cases fuel with
|zero=>simp[DataW.trod] at h
|succ n=>
  unfold DataW.trod at h;rw[i] at h;rcases cs with _|⟨c,_|⟨d,r⟩⟩
  ·simp at h
  ·cases c with
  |map a=>
    cases a with
   |none=>simp at h
   |some b=>
     dsimp only at h;cases g:W.heap[b]? with
    |none=>rw[g] at h;simp at h
    |some o=>
      rw[g] at h;cases o with
     |map es clock=>
       dsimp only at h;split at h
       ·obtain⟨entries,j,f⟩:=azM.1 h;refine⟨b,es,clock,n,entries,rfl,g,j,?_⟩
        try dsimp only at f
        split at f
        ·injection f with f
         injection f with f _
         injection f with f
        ·cases f
       ·cases h
     |_=>simp at h
  |_=>simp at h
  ·simp at h
end
def rpD {H:Type}:List (Lit×DataW H):=[(.int .i64 16,.agg [.lit (.int .i64 3),.lit (.int .i64 2)]),(.int .i64 17,.agg [.lit (.int .i64 3),.lit (.int .i64 3)]),(.int .i64 18,.agg [.lit (.int .i64 11),.lit (.int .i64 7)])]
def repK (x:MapEntry):Int×Value:=(match x.key with|.int _ n=>n|_=>0,x.val)
theorem WR {a:Lit}(h:keyOf ah 3 v=ay a):∃n:Int,v=.int .i64 n∧a=.int .i64 n:=by
 unfold keyOf at h;rw[avY] at h;dsimp only at h;unfold mapKey at h;rw[avY] at h;cases v with
|int q n=>
  dsimp only at h;split at h
  ·rename_i b
   obtain⟨rfl,_⟩:=b
   injection h with h
   exact⟨n,rfl,h.symm⟩
  ·cases h
|_=>simp at h
theorem aaT (a:List (Int×aq))(d:∀p∈a,p∈rpM)(e:∀p∈rpM,p∈a)(k:Int):xV a k=xV rpM k:=by
 unfold xV;cases b:a.find? (λp=>ai (p.1=k)) with
|none=>
  have f:=aBm.1 b;have:rpM.find? (λp=>ai (p.1=k))=none:=aBm.2 λp hp=>f p (e p hp);rw[this]
|some p=>
  have hm:=d p (List.mem_of_find?_eq_some b);have c:p.1=k:=by simpa using List.find?_some b
  simp only[rpM,auI,avP,or_false] at hm;rcases hm with rfl|rfl|rfl<;>(dsimp only at c;subst c;rfl)
theorem ahY {rest:List (String×DataW Unit)}(h:laidMet ah (("foliant/inflate.repeats",.map rpD)::rest) W):Rp (Mem.all W):=by
 obtain⟨ps,⟨g',t',cs,fuel,p,q,hg',ht',hvar,hd,_,_⟩,_⟩:=h;obtain rfl:=axN ((show Tryz.prog.globalNamed "foliant/inflate.repeats"=ay 3 by kernel_rfl).symm.trans hg')
 obtain rfl:=axN ((show (Tryz.prog.globals[3]?).map (·.type)=ay 350 by kernel_rfl).symm.trans ht');obtain⟨b,es,clock,n,entries,hcs,hb,hm,hs⟩:=Yz mpRp hd;have hcell:=World.var?_cell (show Tryz.prog.globalNamed "foliant/inflate.repeats"=ay 3 by kernel_rfl) hvar 0
 have hc0:cs[0]?=ay (.map (ay b)):=by
  rw[<-Array.getElem?_toList,hcs];rfl
 rw[hc0] at hcell;have hgb:3 < W.heap.size:=by
  have:=hcell;unfold World.cell? at this;cases hh:W.heap[3]? with
 |none=>simp[hh] at this
 |some o=>exact eH hh
 obtain⟨m1,m2⟩:=mapM_mem hm;have hL:∀y:Lit×DataW Unit,y∈(rpD:List (Lit×DataW Unit))↔y∈entries.map (·.1):=λy=>by rw[<-hs];exact MH y _
 -- each entry
 have ent:∀x∈es.toList,∃k a c:Int,x.key=.int .i64 k∧x.val=.agg #[.int .i64 a,.int .i64 c]∧((Lit.int .i64 k,DataW.agg [.lit (.int .i64 a),.lit (.int .i64 c)]):Lit×DataW Unit)∈rpD:=by
  intro x hx;obtain⟨en,hen,hf⟩:=m1 x hx;obtain⟨kl,hk,hf⟩:=azM.1 hf;obtain⟨k,hk1,rfl⟩:=WR hk;split at hf
  ·rename_i hfm
   obtain⟨y,hy,rfl⟩:=awP.1 hf;obtain⟨a,c,hcs2,hy1⟩:=SX _ _ _ hy;refine⟨k,a,c,hk1,?_,?_⟩
   ·cases hv:x.val with
   |agg vs=>
     rw[hv] at hcs2;have:vs.toList=[ad a,ad c]:=hcs2;rw[show vs=vs.toList.toArray by simp,this]
   |_=>rw[hv] at hfm;exact absurd hfm (by unfold Value.formed;rw[underlying348];simp)
   ·rw[hL,<-hy1];exact avN.2 ⟨_,hen,rfl⟩
  ·cases hf
 have inR:∀{k a c:Int},((Lit.int .i64 k,DataW.agg [.lit (.int .i64 a),.lit (.int .i64 c)]):Lit×DataW Unit)∈rpD->(k,Value.agg #[.int .i64 a,.int .i64 c])∈rpM:=by
  intro k a c h;simp only[rpD,auI,avP,or_false,ayJ] at h;rcases h with ⟨h1,h2⟩|⟨h1,h2⟩|⟨h1,h2⟩<;>(injection h1 with _ h1;injection h2 with h2;simp only[azO,and_true] at h2;obtain⟨h3,h4⟩:=h2;injection h3 with h3;injection h4 with h4;injection h3 with _ h3;injection h4 with _ h4;subst h1;subst h3;subst h4;simp[rpM])
 refine⟨b,hgb,hcell,eH hb,es.toList.map repK,aaT _ ?_ ?_,es,clock,hb,?_⟩
 ·intro p hp;obtain⟨x,hx,rfl⟩:=avN.1 hp;obtain⟨k,a,c,e1,e2,e3⟩:=ent x hx;have:repK x=(k,.agg #[ad a,ad c]):=by unfold repK;rw[e1,e2]
  rw[this];exact inR e3
 ·intro p hp;have key:∀{k a c:Int},((Lit.int .i64 k,DataW.agg [.lit (.int .i64 a),.lit (.int .i64 c)]):Lit×DataW Unit)∈rpD->(k,Value.agg #[.int .i64 a,.int .i64 c])∈es.toList.map repK:=by
   intro k a c h;obtain⟨en,hen,he⟩:=avN.1 ((hL _).1 h);obtain⟨x,hx,hf⟩:=m2 en hen;obtain⟨k',a',c',e1,e2,_⟩:=ent x hx;obtain⟨kl,hk,hf⟩:=azM.1 hf;obtain⟨k2,hk1,rfl⟩:=WR hk;split at hf
   ·obtain⟨y,hy,rfl⟩:=awP.1 hf;obtain⟨a2,c2,hcs2,hy1⟩:=SX _ _ _ hy;rw[e2] at hcs2;have hcs2:[Value.int .i64 a',Value.int .i64 c']=[ad a2,ad c2]:=hcs2;simp only[azO,and_true] at hcs2;obtain⟨q1,q2⟩:=hcs2
    injection q1 with _ q1
    injection q2 with _ q2
    rw[e1] at hk1
    injection hk1 with _ hk1
    dsimp only at he;rw[hy1] at he
    injection he with he1 he2
    injection he1 with _ he1
    injection he2 with he2
    simp only[azO,and_true] at he2;obtain⟨w1,w2⟩:=he2
    injection w1 with w1
    injection w2 with w2
    injection w1 with _ w1
    injection w2 with _ w2
    refine avN.2 ⟨x,hx,?_⟩;unfold repK;rw[e1,e2];subst q1;subst q2;subst hk1;subst he1;subst w1;subst w2;rfl
   ·cases hf
  simp only[rpM,auI,avP,or_false] at hp;rcases hp with rfl|rfl|rfl
  ·exact key (by simp[rpD])
  ·exact key (by simp[rpD])
  ·exact key (by simp[rpD])
 ·rw[aAi];refine azY λx hx=>?_;obtain⟨k,a,c,e1,e2,e3⟩:=ent x hx;show (x.key,x.val)=(Pn (repK x).1,(repK x).2);unfold repK;rw[e1];rfl
end
section
open Eng Go.RowKit Go.ChangeShapes Go.WideShapes Go.ChangeAt
set_option maxRecDepth 100000
section
variable {H:Type}{enc:TypeId×aq->H}{W:ao}{sp:Nat->Bool}{held:Bool}
end
theorem X1 {g:Nat}(h:W.cell? ⟨g,i,ax⟩=ay v):g < W.heap.size:=by
 unfold World.cell? at h;cases a:W.heap[g]? with
|none=>simp[a] at h
|some o=>exact eH a
theorem agF (h:Lib.TabIs ah W "foliant/inflate.order" .i64 [16,17,18,0,8,7,9,6,10,5,11,4,12,3,13,2,14,1,15]):Od (Mem.all W):=by
 refine⟨X1 (Lib.TabIs.cell (g:=2) h krx 0 dc),λi hi=>?_⟩;have:=Lib.TabIs.cell (g:=2) h krx i hi;rw[show (Mem.all W).w=W from rfl,this];rcases lt19 hi with rfl|rfl|rfl|rfl|rfl|rfl|rfl|rfl|rfl|rfl|rfl|rfl|rfl|rfl|rfl|rfl|rfl|rfl|rfl<;>rfl
theorem abQ (h:Lib.TabIs ah W "foliant/ascii.powers" .u64 [52200625,614125,7225,85,1]):Pws (Mem.all W):=by
 refine⟨X1 (Lib.TabIs.cell (g:=0) h krx 0 dc),λi hi=>?_⟩;have:=Lib.TabIs.cell (g:=0) h krx i hi;rw[show (Mem.all W).w=W from rfl,this];rcases lt5 hi with rfl|rfl|rfl|rfl|rfl<;>rfl
end
section
open Eng Go.RowKit
theorem crossMakes_row (x:Sec)(v:aq)(w:ao)(a:Rp (Mem.all w))(b:Od (Mem.all w))(c:Pws (Mem.all w))(d:SecV (Mem.all w) v x)(e:SltI x.aC)(hw:x.trailer.wt<=1048576)(h:x.aC.length<=1048576) :
  Ret ah 4 #[v] w (λv w'=>v=.bool aw∧Below w.heap.size w w'):=by
 obtain⟨vs,vk,vc,rfl,f,g⟩:=d;exact jR.told (Lz x vs vk vc (Mem.all w) w a b c (Mem.aiN w) om om e f g)
end
end Go.Proofs.YtlgndjkieegnaaaGreatDoor
