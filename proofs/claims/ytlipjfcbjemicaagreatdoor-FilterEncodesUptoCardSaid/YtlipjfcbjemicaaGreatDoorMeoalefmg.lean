/- Parts of the proof. -/
import Derived.Test.YtlipjfcbjemicaaGreatDoorRows
import Derived.Test.YtlipjfcbjemicaaGreatDoorMoaagmcam
set_option linter.all false
set_option maxRecDepth 20000
open Go.Proofs.Tryz
open Go.Proofs.Tryz renaming prog->ah
open Option renaming some->ax,none->aw
open Bool renaming true->av,false->au
open Go renaming Value->aq,World->ao
open Decidable renaming decide->ai
namespace Go.Proofs.YtlipjfcbjemicaaGreatDoor
variable{C:ao->Prop}{H:Type}{K:VWP}{M:Eng.Mem}{P:Program}{PK PK2:PKT}{W w:ao}{a:Int}{b fuel i sz:Nat}{cs:List aq}{data:List UInt8}{ns:List (List UInt8)}{o:Ob}{os:List Ob}{v vc vk vn vp:aq}{x:Pm}{xo yo:Operand}{t0 t1:aq}{k0:Eng.KT}
section
open Eng Go.RowKit
def MayR (ns:List (List UInt8))(ps:List Pm)(r:aq)(N:Mem):Prop:=
 if Ff.Km ns ps=0 then ∃va a,r=.tuple #[va,a,ad 0]∧SlA N.A N.w va 1 (ns.map Ff.full).length (bF (ns.map Ff.full))∧SlA N.A N.w a 3 (Ff.oP ns ps).length ((Ff.oP ns ps).flatMap pmC)
 else r=.tuple #[cO,cO,ad (Ff.Km ns ps)]
theorem Jw {ps:List Pm}(g:ps.length=ns.length):(ns.zip ps).any (λq=>!ai (Ff.full q.1=Ff.nFl)&&!Pm.eqb q.2 Ff.bK)=av↔∃(i:Nat) (a:i < ns.length) (b:i < ps.length),Ff.full ns[i]≠Ff.nFl∧ps[i]≠Ff.bK:=by
 rw[avB];constructor
 ·rintro⟨q,c,h⟩;obtain⟨i,hi,rfl⟩:=awK c;rw[List.length_zip] at hi;rw[List.getElem_zip] at h;simp only[atZ,awY,avL] at h;refine⟨i,om,om,h.1,λe=>?_⟩;rw[Ff.jY.2 e] at h;exact absurd h.2 dc
 ·rintro⟨i,a,b,d,f⟩;refine⟨(ns[i],ps[i]),?_,?_⟩
  ·have:(ns.zip ps)[i]'(by rw[List.length_zip];omega)=(ns[i],ps[i]):=List.getElem_zip;rw[<-this];exact atP _
  ·simp only[atZ,awY,avL];refine⟨d,?_⟩;cases h:Pm.eqb ps[i] Ff.bK with
  |false=>rfl
  |true=>exact absurd (Ff.jY.1 h) f
theorem X7 (ns:List (List UInt8))(ps:List Pm)(vn vp:aq)(M:Mem)(w:ao)(b1:ns.length<=1000)(z:ps.length<=1000)(hM:M.has w)(F:SlA M.A M.w vn 1 ns.length (bF ns))(hp:SlA M.A M.w vp 3 ps.length (ps.flatMap pmC)) :
  jJ ah 67 #[vn,vp] M w (MayR ns ps):=by
 refine aU hM λK hK=>Jl ?_;unfold HN nz;have a:cH M.A w w [.mem M]:=cH.memS hM;have k:=Ff.Km.eq_1 ns ps;have bad:∀{e:Int} {W:ao} {L:List Ent} {N:Mem} (j:Nat),Ff.Km ns ps=e->e≠0->cH M.A w W L->L[j]?=ax (.mem N)->M.le N->K (.returned (.tuple #[cO,cO,ad e])) W:=λj he r a hj hle=>hK _ _ _ _ j a hj hle (by unfold MayR;rw[he,asT r]);rw[fS F];simp only[rs];by_cases h8:8 < ns.length
 ·rw[asU h8] at k;simp only[show ai ((8:Int) < (ns.length:Int))=av from atA om,i_t];exact bad 0 k dc a rfl M.le_refl
 rw[asT h8] at k;simp only[show ai ((8:Int) < (ns.length:Int))=au from asZ om,i_f];rw[fS F];have a:=cH.nilU a 9 1;refine loop (λvs W=>∃(i:Nat) (ov:aq),vs=[ov,ad (i:Int)]∧i<=ns.length∧(∀n∈ns.take i,Ff.full n≠[])∧cH M.A w W [stsE ov ((ns.take i).map Ff.full),.mem M]) (λvs _=>ns.length - n1 vs) ⟨0,cO,rfl,om,λn h=>by simp at h,a⟩ ?_;clear a;rintro vs T ⟨i,ov,rfl,hi,X,a⟩ _;simp only[DZ,gd,rs,nz];by_cases o:(i:Int) < (ns.length:Int)
 ·simp only[o,asX,i_t];have l:i < ns.length:=om
  obtain⟨p,B,C⟩:=Fc F l;rw[aC (B T),aC (C T (a.hasM 1 rfl))];refine qE (FM ns[i] T) ?_;by_cases U:Ff.full ns[i]=[]
  ·rw[asU (avB.2 ⟨_,atP l,atA U⟩)] at k;simp only[ex,rs,asZ (show ¬Ff.full ns[i]≠[] fromλh=>h U),auN,i_t];exact bad 1 k dc a rfl M.le_refl
  simp only[ex,rs,atA (show Ff.full ns[i]≠[] from U),auO,i_f];refine YL _ a (by rw[atV,atF];omega) λY W2 a=>?_
  try simp only[rs]
  rw[aA om om];refine aS ⟨i+1,Y,rfl,om,λn h=>?_,?_⟩ (by simp[n1,RowKit.intOf];omega)
  ·rw[auD l] at h;rcases auF.1 h with h|h
   ·exact X n h
   ·rw[auB.1 h];exact U
  ·rw[auD l,auJ];exact a
 simp only[o,asW,i_f];have:i=ns.length:=om
 subst this;rw[auZ] at a X;rw[asT (λh=>by obtain⟨n,F,h⟩:=avB.1 h;exact X n F (atQ h))] at k;obtain⟨N1,H,D,a⟩:=a.bV 0 rfl;have a:cH M.A w T [.mem N1]:=a;have s:=hp.le H;have E:((ps.length:Int)≠0)↔ps≠[]:=by
  constructor
  ·intro h e;rw[e] at h;exact h rfl
  ·intro h e;exact h (awO.1 om)
 have two:∀{W:ao} {J:Nat},cH M.A w W [.mem N1]->(ps=[]∨ps.length=ns.length)->DoX ah (aT 40 0 #[]) W (pk K) λt46 w=>
 DoX ah (mB .append #[40,40] 40 #[au,au] #[t46,vp]) w (pk K) λt48 w=>
 DoX ah (mB .len #[22] 3 #[au] #[ov]) w (pk K) λt50 w=>
 Ax [t48,(ad 0)] w (λI w Z=>∀_:Sg,vO vp ov (I.getD 0 undef) ov t50 (I.getD 1 undef) w Z K):=by
  intro W _ a d;have k:Ff.Km ns ps=if (ns.zip ps).any (λq=>!ai (Ff.full q.1=Ff.nFl)&&!Pm.eqb q.2 Ff.bK)=av then 1 else 0:=by
   rw[k,asT];rintro⟨x,t⟩;rcases d with h|h
   ·exact x h
   ·exact t h
  refine bI (λb=>bR b 0 0 0) [] 27 (λ_=>by kernel_rfl) a λb3 w2 a=>?_;have a:=cH.toU a (sz:=3) (n:=0) (cap:=0) rfl (atE _) dc;have a:cH M.A w w2 [JQ (bR b3 0 0 0) [],.mem N1]:=a;refine bL 0 awG elPm dc a rfl (s.now (a.hasM 1 rfl)) (λu hu=>by obtain⟨p,_,hu⟩:=ayK.1 hu;exact Ol u hu) (by show (0+ps.length)*24<=_;omega) (by show 0+ps.length<=_;omega) λva w3 a=>?_;have e0:(Ent.urow 27 3 va (([]:List Pm).length+ps.length) (([]:List Pm).flatMap pmC++ps.flatMap pmC))=JQ va ps:=by
   show Ent.urow _ _ _ (0+ps.length) ([]++ps.flatMap pmC)=_;rw[atK,auI]
  have a:cH M.A w w3 [JQ va ps,.mem N1]:=by rw[<-e0];exact a
  rw[fS D,atV];refine loop (λvs W=>∃(i:Nat) (ov:aq),vs=[ov,ad (i:Int)]∧i<=ns.length∧(∀(j:Nat) (x:j < ns.length) (t:j < ps.length),j < i->Ff.full ns[j]=Ff.nFl∨ps[j]=Ff.bK)∧cH M.A w W [JQ ov (if ps=[] then List.replicate i Ff.bK else ps),.mem N1]) (λvs _=>ns.length - n1 vs) ⟨0,va,rfl,om,λj _ _ h=>absurd h (azB _),by
   by_cases h:ps=[]
   ·rw[asU h];rw[h] at a;exact a
   ·rw[asT h];exact a⟩ ?_
  clear a;rintro vs O ⟨i,pv,rfl,hi,hg,a⟩ _;simp only[vO,gd,rs,nz];by_cases o:(i:Int) < (ns.length:Int)
  ·simp only[o,asX,i_t];have a1:i < ns.length:=om
   have l:i < (ns.map Ff.full).length:=by rw[atV];omega
   obtain⟨p,B,C⟩:=Fc D l;rw[aC (B O),aC (C O (a.hasM 1 rfl))];refine join λJ hJ=>?_;have step:∀(f:aq) (W:ao),cH M.A w W [JQ f (if ps=[] then List.replicate (i+1) Ff.bK else ps),.mem N1]->J [f] W:=by
    intro f W a;refine hJ _ _ λ_=>?_;simp only[DC,gd,nz];generalize y:(if ps=[] then List.replicate (i+1) Ff.bK else ps)=q at a;have P:i < q.length:=by
     rw[<-y];split
     ·rw[auK];omega
     ·rename_i h
      rcases d with G|G
      ·exact absurd G h
      ·omega
    refine cQ (λW=>cH M.A w W [JQ f q,.mem N1]) a.drew ?_;obtain⟨g,cap,b2,Q,R,_⟩:=rec_row VD awG szPm Ep 0 a rfl (j:=i) P;rw[show (Value.string ⟨#[70,108,97,116,101,68,101,99,111,100,101]⟩)=ae Ff.nFl from rfl];refine Xm ?_;have next:∀W,(Ff.full ns[i]=Ff.nFl∨q[i]=Ff.bK)->cH M.A w W [JQ f q,.mem N1]->DoX ah (iA .add 3 (ad (i:Int)) (ad 1)) W (pk K) (λt73 W=>IJ (λvs W=>∃(i:Nat) (ov:aq),vs=[ov,ad (i:Int)]∧i<=ns.length∧(∀(j:Nat) (x:j < ns.length) (t:j < ps.length),j < i->Ff.full ns[j]=Ff.nFl∨ps[j]=Ff.bK)∧cH M.A w W [JQ ov (if ps=[] then List.replicate i Ff.bK else ps),.mem N1]) (λvs _=>ns.length - n1 vs) [pv,ad (i:Int)] O [f,t73] W):=by
     intro W a6 a;rw[Kn,aA om om];refine aS ⟨i+1,f,rfl,om,λj x t hj=>?_,by rw[y];exact a⟩ (by simp[n1,RowKit.intOf];omega);by_cases a7:j=i
     ·subst a7;rcases a6 with h|h
      ·exact .inl h
      ·refine .inr ?_;have:ps≠[]:=λe=>by rw[e] at t;exact azB _ t
       rw[asT this] at y;subst y;exact h
     ·exact hg j x t om
    by_cases m:(ns.map Ff.full)[i]=Ff.nFl
    ·rw[asZ (λh=>h m)];simp only[gq,XS];refine Dr ?_;intro w6 a;rw[i_f];exact next w6 (.inl (by rw[aAh] at m;exact m)) a
    ·rw[atA (show (ns.map Ff.full)[i]≠Ff.nFl from m)];simp only[gq];refine gr _ Q (iL _ (λW h=>R W (h.at_ 0 rfl)) ?_);refine iH (pmV Ff.bK) (λW h=>(qK W).mono λv w' ⟨k1,k2⟩=>⟨k1,h.grow k2⟩) ?_;refine gr _ (λ_=>Tx) (LO ?_);intro w6 a;cases he:Pm.eqb q[i] Ff.bK with
    |true=>
      rw[auO,i_f];exact next w6 (.inr (Ff.jY.1 he)) a
    |false=>
      rw[auN,i_t];have r:q[i]≠Ff.bK:=λh=>by rw[Ff.jY.2 h] at he;cases he
      have z:ps≠[]:=λh=>by
       rw[asU h] at y;subst y;exact r (aAO ..)
      rw[asT z] at y;subst y;have V:ps.length=ns.length:=by
       rcases d with h|h
       ·exact absurd h z
       ·exact h
      rw[asU ((Jw V).2 ⟨i,a1,P,by rw[aAh] at m;exact m,r⟩)] at k;exact bad 1 k dc a rfl H
   rw[aZ awG (s.now (a.hasM 1 rfl))];simp only[rs];by_cases c:ps=[]
   ·simp only[show ai ((ps.length:Int)=0)=av from atA (by rw[c];rfl),i_t];rw[asU c] at a;refine aJ a (qK O) ?_;rintro _ w5 rfl a;refine V3 _ a (by rw[auK];omega) λf W2 a=>?_;exact step f W2 (by rw[asU c,aAR];exact a)
   ·simp only[show ai ((ps.length:Int)=0)=au from asZ (E.2 c),i_f];rw[asT c] at a;exact step pv O (by rw[asT c];exact a)
  simp only[o,asW,i_f];have:i=ns.length:=om
  subst this;have S:(if ps=[] then List.replicate ns.length Ff.bK else ps)=Ff.oP ns ps:=rfl;rw[S] at a;have a8:Ff.Km ns ps=0:=by
   rw[k,asT];intro h;rcases d with G|G
   ·rw[G,List.zip_nil_right] at h;cases h
   ·obtain⟨j,x,t,h3,h4⟩:=(Jw G).1 h;rcases hg j x t x with h|h
    ·exact h3 h
    ·exact h4 h
  obtain⟨Z,l2,b0,a⟩:=a.bV 0 rfl;exact hK _ _ Z _ 0 a rfl (H.trans l2) (by unfold MayR;rw[asU a8];exact⟨ov,pv,rfl,D.le l2,b0⟩)
 rw[aZ awG (s.now (a.hasM 0 rfl))];simp only[rs];by_cases c:ps=[]
 ·simp only[show ai ((ps.length:Int)≠0)=au from asZ (λh=>E.1 h c),nE,rs,i_f];exact two (J:=0) a (.inl c)
 simp only[show ai ((ps.length:Int)≠0)=av from atA (E.2 c),rs];rw[aZ awG (s.now (a.hasM 0 rfl))];rw[fS (F.le H)];simp only[rs];by_cases V:ps.length=ns.length
 ·simp only[show ai ((ps.length:Int)≠(ns.length:Int))=au from asZ om,i_f];exact two (J:=0) a (.inr V)
 ·rw[asU ⟨c,V⟩] at k;simp only[show ai ((ps.length:Int)≠(ns.length:Int))=av from atA om,i_t];exact bad 0 k dc a rfl H
theorem UA (p:Pm)(a:p.ok)(M:Mem)(w:ao)(b:M.has w):jJ ah 68 #[pmV p] M w (λr N=>∃v',r=vI v' 0∧OV N.A N.w v' (Ff.pmO p)):=by
 by_cases h:p=Ff.bK
 ·subst h;exact (Uq M w b).mono λv N _ e=>⟨_,e,jD N⟩
 ·have e:Ff.pmO p=Ff.Ao p:=by
   unfold Ff.pmO;rw[asT (λk=>h (Ff.jY.1 k))]
  rw[e];exact Vj p h (Ff.adQ a) M w b
namespace Ff
theorem O8:∀(i:Nat) {ms:List (List UInt8)} {qs:List Pm} {s t:List UInt8} {e:Int},Mn (ms.drop i) (qs.drop i) s t e->e≠0->∃D,Mn ms qs s D e
|0,ms,qs,s,t,e,h,_=>⟨t,h⟩
|i+1,[],_,s,t,e,h,he=>by
  have h:t=s∧e=0:=by rw[azO] at h;exact h
  exact absurd h.2 he
|i+1,n::r,[],s,t,e,h,he=>by
  have h:t=s∧e=0:=by
   rw[azO] at h
   revert h
   cases List.drop (i+1) (n::r)<;>exact id
  exact absurd h.2 he
|i+1,n::r,p::q,s,t,e,h,he=>by
  obtain⟨D,a⟩:=O8 i (ms:=r) (qs:=q) h he;exact⟨[],D,e,a,by rw[asU he];exact⟨rfl,rfl⟩⟩
theorem XY {ms:List (List UInt8)}{qs:List Pm}(a:i < ms.length)(b:i < qs.length){s u t:List UInt8}{e:Int}(h:Mn (ms.drop (i+1)) (qs.drop (i+1)) s u 0)(c:M9 ms[i] qs[i] u t e):Mn (ms.drop i) (qs.drop i) s t e:=by
 rw[auL a,auL b];exact⟨u,0,h,by rw[asT (λh=>h rfl)];exact c⟩
theorem CT {ps:List Pm}(h:Km ns ps=0):(oP ns ps).length=ns.length:=by
 unfold Km at h;unfold oP;split
 ·exact auK
 ·rename_i hp
  by_cases a:ps.length=ns.length
  ·exact a
  ·split at h
   ·cases h
   ·split at h
    ·cases h
    ·rw[asU ⟨hp,a⟩] at h;cases h
theorem Oa {ps:List Pm}(h:ps=[])(a:x∈oP ns ps):x=bK:=by
 unfold oP at a;rw[asU h] at a;exact awF a
theorem PF {ps:List Pm}(h:Km ns ps=0):ns.length<=8∧(∀m∈ns.map full,full m=m∧m≠[])∧∀q∈(ns.map full).zip (oP ns ps),full q.1=nFl∨q.2=bK:=by
 unfold Km at h;split at h
 ·cases h
 rename_i s
 split at h
 ·cases h
 rename_i l
 split at h
 ·cases h
 rename_i o
 split at h
 ·cases h
 rename_i p
 have a:∀n∈ns,full n≠[]:=λn b f=>l (avB.2 ⟨n,b,atA f⟩);have c:∀n,full n≠[]->full (full n)=full n:=λn b=>by
  rcases jA n with e|e|e|e|e<;>rw[e]<;>first|decide|exact absurd e b
 refine⟨om,λm hm=>?_,λq r=>?_⟩
 ·obtain⟨n,b,rfl⟩:=auH.1 hm;exact⟨c n (a n b),a n b⟩
 ·obtain⟨i,hi,rfl⟩:=awK r;rw[List.length_zip,atV] at hi;rw[List.getElem_zip,aAh];dsimp only;have d:i < ns.length:=om
  rw[c _ (a _ (atP d))];by_cases hp:ps=[]
  ·refine .inr ?_;exact Oa hp (atP _)
  ·have g:i < ps.length:=by
    have:(oP ns ps).length=ps.length:=by unfold oP;rw[asT hp]
    omega
   have he:(oP ns ps)[i]'(om)=ps[i]:=by
    have:oP ns ps=ps:=by unfold oP;rw[asT hp]
    simp only[this]
   rw[he];by_cases j:full ns[i]=nFl
   ·exact .inl j
   by_cases k:ps[i]=bK
   ·exact .inr k
   exact absurd ((Jw (ayL.1 λf=>o ⟨hp,f⟩)).2 ⟨i,d,g,j,k⟩) p
theorem FZ {α:Type}{f:α->Ob}{b:Nat}(h:∀x,(f x).wt<=b):∀l:List α,Ob.wts (l.map f)<=b*l.length
|[]=>atU _
|x::l=>by
  have a:=FZ h l;have:=h x;show (f x).wt+Ob.wts (l.map f)<=_;rw[atW,Nat.mul_add];omega
theorem tX {os:List Ob}:(alone os).wt<=Ob.wts os+6:=by
 unfold alone;split
 ·rename_i a
  obtain⟨o,rfl⟩:=ayH.1 a;have:Ob.wts [o]=o.wt+0:=rfl;show o.wt<=_;omega
 ·have:=Vl.oK (Ob.mk 6 0 0 [] [] os);have e:(Ob.mk 6 0 0 [] [] os).wt=6+0+0+Ob.wts os:=this;omega
theorem RR (p:Pm):(pmO p).wt<=1000:=by
 unfold pmO;split
 ·exact aAW krx
 ·exact aAW krx
theorem apI (p:Pm):ai ((pmO p).k≠0)=!Pm.eqb p bK:=by
 unfold pmO;cases Pm.eqb p bK<;>rfl
theorem NU (l:List Pm)(p:Pm):odd (l++[p])=(odd l||!Pm.eqb p bK):=by
 unfold odd;rw[List.any_append,List.any_cons,List.any_nil,ayM]
def Oz (o:Ob)(ns:List (List UInt8))(ps:List Pm)(data:List UInt8)(Y:Ob)(e:Int):Prop:=
 if o.k≠9∧o.k≠7 then Y=Vl.ob0∧e=10
 else if Km ns ps≠0 then Y=Vl.ob0∧e=Km ns ps
 else ∃D a,Mn (ns.map full) (oP ns ps) data D a∧if a≠0 then Y=Vl.ob0∧e=a else Y=(Eu o (ns.map full) (oP ns ps) D).1∧e=(Eu o (ns.map full) (oP ns ps) D).2
end Ff
theorem HO (o:Ob)(v:aq)(ns:List (List UInt8))(ps:List Pm)(vn vp:aq)(data:List UInt8)(M:Mem)(w:ao)(j0:Pws M)(j1:ns.length<=1000)(j2:ps.length<=1000)(hd:data.length<=200)
  (hw:o.wt<=100000000) (hM:M.has w) (hv:OV M.A M.w v o) (hn:SlA M.A M.w vn 1 ns.length (bF ns)) (hp:SlA M.A M.w vp 3 ps.length (ps.flatMap pmC)) :
  jJ ah 22 #[v,vn,vp,ae data] M w (λr N=>∃v' Y e,r=vI v' e∧OV N.A N.w v' Y∧Ff.Oz o ns ps data Y e):=by
 obtain⟨vk,vc,k2,rfl,c6⟩:=hv.open;refine aU hM λK R=>E1 ?_;unfold BS nz;refine eI o c6.keys.one c6.kids.one (cH.memS hM) λg w1 a=>?_;refine dM a λl w2 a=>?_;rw[eO,sA a 1 rfl];simp only[rs];have k3:=@LI o;have main:∀W,(o.k=9∨o.k=7)->cH M.A w W [obE l ob0 cO cO,obE g o vk vc,.mem M]->dZ ah 67 #[vn,vp] W (pk K) λt31 w=>
 DoX ah (At t31 0) w (pk K) λt32 w=>
 DoX ah (At t31 1) w (pk K) λt33 w=>
 DoX ah (At t31 2) w (pk K) λt34 w=>
 DoX ah (mEq .neq 30 (.tmp 35) (.const (ad 0)) t34 (ad 0)) w (pk K) λt36 w=>
 IfX t36 (DoX ah (aW 25 #[]) w (pk K) λt37 w=>
 DoX ah (aV 25 (af l 0) t37) w (pk K) λ_ w=>
 A2 ah [.cell (af l 0) 25,.val t34] w K) (DoX ah (mB .len #[22] 3 #[au] #[t32]) w (pk K) λt40 w=>
 DoX ah (iA .sub 3 t40 (ad 1)) w (pk K) λt41 w=>
 Ax [ae data,(ad 0),t41] w (λb6 w N1=>∀_:Sg,mT t32 t33 (b6.getD 0 undef) (af g 0) (af l 0) (b6.getD 1 undef) (b6.getD 2 undef) w N1 K)):=by
  intro w2 hk a;refine bG a 2 rfl (X7 ns ps vn vp M w2 j1 j2 (a.hasM 2 rfl) hn hp) ?_;intro r N w3 l1 hr a;have a:cH M.A w w3 [obE l ob0 cO cO,obE g o vk vc,.mem N]:=a;have c7:¬(o.k≠9∧o.k≠7):=om
  unfold MayR at hr;by_cases d:Ff.Km ns ps=0
  case neg=>
   rw[asT d] at hr;subst hr;generalize hE:Ff.Km ns ps=E at d;simp only[ex,kP (show [cO,cO,Value.int .i64 E][2]?=ax (Value.int .i64 E) from rfl),kP (show [cO,cO,Value.int .i64 E][1]?=ax cO from rfl),kP (show [cO,cO,Value.int .i64 E][0]?=ax cO from rfl),eF,atA (show E≠0 from d),i_t];rw[sR];refine aP 0 rfl rfl a rfl λB a=>?_;exact bX 0 a rfl (R _ _ N _ 2 a rfl l1 ⟨_,Vl.ob0,E,rfl,jD N,by unfold Ff.Oz;rw[asT c7,hE,asU d];exact⟨rfl,rfl⟩⟩)
  rw[asU d] at hr;obtain⟨va,vb,rfl,s,a7⟩:=hr;simp only[ex,kP (show [va,vb,Value.int .i64 0][2]?=ax (Value.int .i64 0) from rfl),kP (show [va,vb,Value.int .i64 0][1]?=ax vb from rfl),kP (show [va,vb,Value.int .i64 0][0]?=ax va from rfl),eF,show ai ((0:Int)≠0)=au from rfl,i_f];have hT:∀{Y:Ob} {e:Int} {D e1},Ff.Mn (ns.map Ff.full) (Ff.oP ns ps) data D e1->(if e1≠0 then Y=Vl.ob0∧e=e1 else Y=(Ff.Eu o (ns.map Ff.full) (Ff.oP ns ps) D).1∧e=(Ff.Eu o (ns.map Ff.full) (Ff.oP ns ps) D).2)->Ff.Oz o ns ps data Y e:=by
   intro Y e D e1 h1 h2;unfold Ff.Oz;rw[asT c7,asT (λh=>h d)];exact⟨D,e1,h1,h2⟩
  have j3:=Ff.CT d;obtain⟨h8,c8,hz⟩:=Ff.PF d;have k1:Ob.wts ((ns.map Ff.full).map Ff.bP)<=30*ns.length:=by
   rw[axB];exact Ff.FZ (λn=>by
    show (Ff.bP (Ff.full n)).wt<=30;rcases Ff.jA n with e|e|e|e|e<;>rw[e]<;>decide) ns
  have k4:(ns.map Ff.full).length=ns.length:=atV _;generalize Ff.oP ns ps=qs at *;generalize ns.map Ff.full=ms at *;have c9:=Ff.FZ Ff.RR qs;rw[j3] at c9;rw[fS s]
  try simp only[rs]
  have k5:ms.length<=8:=om
  have b7:qs.length=ms.length:=om
  rw[aA om om];refine loop (λvs W=>∃(j:Nat) (D:List UInt8) (S:Mem),vs=[ae D,ad 0,ad ((j:Int) - 1)]∧j<=ms.length∧Ff.Mn (ms.drop j) (qs.drop j) data D 0∧N.le S∧cH M.A w W [obE l ob0 cO cO,obE g o vk vc,.mem S]) (λvs _=>(RowKit.intOf (vs.getD 2 undef)+1).toNat) ⟨ms.length,data,N,rfl,atE _,by rw[List.drop_length];exact⟨rfl,rfl⟩,N.le_refl,a⟩ ?_;clear a;rintro vs w4 ⟨j,D,N',rfl,hj,hD,l0,a⟩ _;have j4:=Ff.Fk hd hD;have:=Ff.bnd8 (k:=(ms.drop j).length) (by rw[atG];omega);have j4:D.length<=200000:=om
  simp only[mT,gd,rs,iN,dx,ldx,bnx,exx,stx,lnx,ecx,gfx,efx,cx];by_cases e0:0 < j
  ·simp only[show ai ((0:Int)<=(j:Int) - 1)=av from atA om,i_t];obtain⟨i,rfl⟩:∃i,j=i+1:=⟨j - 1,om⟩;rw[show ((i+1:Nat):Int) - 1=(i:Int) by omega];have hi:i < ms.length:=om
   have C:i < qs.length:=om
   obtain⟨p,b9,c0⟩:=Fc (s.le l0) hi;obtain⟨p2,U,V⟩:=Ow (a7.le l0) (i:=i) C;have a:=a.drew;refine⟨λW=>N'.has W,a.hasM 2 rfl,?_⟩;refine aI _ b9 (gJ _ (λW h=>c0 W h) ?_);refine aI _ U (gJ _ (λW h=>V W h) ?_);refine bG a 2 rfl (agQ ms[i] qs[i] (peR _) D N' _ (j0.le (l1.trans l0)) (a.hasM 2 rfl) om) ?_;rintro _ q w5 l3 ⟨t,e,rfl,hR⟩ a;have a:cH M.A w w5 [obE l ob0 cO cO,obE g o vk vc,.mem q]:=a;have hE:=Ff.XY hi C hD hR;refine⟨Mem.DM l3 (a.hasM 2 rfl),?_⟩;simp only[zlT];refine aI (ae t) (λ_=>by kernel_rfl) (aI (ad e) (λ_=>by kernel_rfl) ?_);simp only[eF];by_cases he:e=0
   case neg=>
    simp only[atA (show e≠0 from he),i_t];obtain⟨X,c⟩:=Ff.O8 i hE he;rw[sR];refine aP 0 rfl rfl a rfl λB a=>?_;exact bX 0 a rfl (R _ _ q _ 2 a rfl ((l1.trans l0).trans l3) ⟨_,Vl.ob0,e,rfl,jD q,hT c (by rw[asU he];exact⟨rfl,rfl⟩)⟩)
   subst he;simp only[show ai ((0:Int)≠0)=au from rfl,i_f]
   try simp only[rs]
   rw[aA om om];exact aS ⟨i,t,q,rfl,om,hE,l0.trans l3,a⟩ (by simp[RowKit.intOf])
  have e0:j=0:=om
  subst e0;rw[auX,auX] at hD
  replace l1:=l1.trans l0
  replace s:=s.le l0
  replace a7:=a7.le l0
  clear l0;simp only[show ai ((0:Int)<=((0:Nat):Int) - 1)=au from rfl,i_f];have hx:=Ff.NZ o D;have j5:=Ff.Oi hD hz (λm h=>by rw[(c8 m h).1];exact (c8 m h).2) b7;generalize c:Ff.Eu o ms qs D=X at hT;have hT:=@hT X.1 X.2 D 0 hD (by rw[asT (λh=>h rfl),c];exact⟨rfl,rfl⟩);have R:∀(v:aq) (w':ao) (N:Mem) (L:List Ent) (i:Nat),cH M.A w w' L->L[i]?=ax (.mem N)->M.le N->(∃v',v=vI v' X.2∧OV N.A N.w v' X.1)->K (.returned v) w':=λv w' N L i h1 h2 h3 ⟨v',h4,h5⟩=>R v w' N L i h1 h2 h3 ⟨v',X.1,X.2,h4,h5,hT⟩;clear hT;unfold Ff.Eu at c;rw[iV a 1 rfl];refine bG a 2 rfl (LI o _ D N' w4 om om (a.hasM 2 rfl) (hv.le l1)) ?_;generalize Ff.plain o D=P at c hx;obtain⟨x,pe⟩:=P;rintro _ S w5 l2 ⟨xv,rfl,e2⟩ a;obtain⟨I,O,k6,rfl,f⟩:=e2.open;dsimp only at c hx f;simp only[vI,ex];refine aP 1 f.keys.one f.kids.one a rfl λw6 a=>?_;have a:cH M.A w w6 [obE l ob0 cO cO,obE g x I O,.mem S]:=a;simp only[eF,rs];by_cases a8:pe=0
  case neg=>
   rw[asU a8] at c;simp only[atA (show pe≠0 from a8),rs,nE,i_t];rw[iV a 1 rfl];refine aP 0 f.keys.one f.kids.one a rfl λB a=>?_;exact bX 0 a rfl (R _ _ S _ 2 a rfl (l1.trans l2) ⟨_,by rw[<-c];rfl,by rw[<-c];exact f.ov⟩)
  rw[asT (λh=>h a8)] at c;subst a8;simp only[show ai ((0:Int)≠0)=au from rfl,rs];rw[fS s];by_cases b0:ms=[]
  ·rw[asU b0] at c;simp only[rs,show ai ((ms.length:Int)=0)=av from atA (by rw[b0];rfl),i_t];rw[iV a 1 rfl];refine aP 0 f.keys.one f.kids.one a rfl λB a=>?_;exact bX 0 a rfl (R _ _ S _ 2 a rfl (l1.trans l2) ⟨_,by rw[<-c];rfl,by rw[<-c];exact f.ov⟩)
  rw[asT b0] at c;have k8:=awL.2 b0;simp only[rs,show ai ((ms.length:Int)=0)=au from asZ om,i_f];rw[fS s];have a:=(cH.nilU a 25 6);have a:=(cH.nilU a 25 6);have a:cH M.A w w6 [La cO [],.urow 25 6 cO 0 [],obE l ob0 cO cO,obE g x I O,.mem S]:=a;have e3:=s.le l2;have e4:=a7.le l2;refine loop (λvs W=>∃(i:Nat) (fv Q:aq) (cs:List aq) (q:Mem),vs=[ad 0,fv,Q,.bool (Ff.odd (qs.take i)),ad (i:Int)]∧i<=ms.length∧S.le q∧OVs q.A q.w cs ((qs.take i).map Ff.pmO)∧cH M.A w W [La fv (ms.take i),.urow 25 6 Q i cs,obE l ob0 cO cO,obE g x I O,.mem q]) (λvs _=>ms.length - (RowKit.intOf (vs.getD 4 undef)).toNat) ⟨0,cO,cO,[],S,rfl,om,S.le_refl,OVs.nil,a⟩ ?_;clear a;rintro vs B ⟨i,fv,Q,cs,q,rfl,hi,l3,c1,a⟩ _;simp only[wI,gd,rs,iN,dx,ldx,bnx,iax,exx,stx,alx,ecx,apx,gfx,cx];by_cases e5:(i:Int) < (ms.length:Int)
  ·simp only[e5,asX,i_t];have e6:i < ms.length:=om
   have C:i < qs.length:=om
   obtain⟨p,b9,c0⟩:=Fc (e3.le l3) e6;obtain⟨p2,U,V⟩:=Ow (e4.le l3) (i:=i) C;rw[aC (b9 B),aC (c0 B (a.hasM 4 rfl)),aC (U B),aC (V B (a.hasM 4 rfl))];refine bG a 4 rfl (UA qs[i] (j5 _ (atP C)) q B (a.hasM 4 rfl)) ?_;rintro _ N4 w8 l4 ⟨tv,rfl,ht⟩ a;obtain⟨tk,tc,m0,rfl,F⟩:=ht.open;simp only[vI,ex];refine dM a λc2 w9 a=>?_;refine aP 0 F.keys.one F.kids.one a rfl λc3 a=>?_;simp only[eF,show ai ((0:Int)≠0)=au from rfl,i_f];refine aJ a (Fe ms[i] c3) ?_;rintro _ Z rfl a;have a:cH M.A w Z [obE c2 (Ff.pmO qs[i]) tk tc,La fv (ms.take i),.urow 25 6 Q i cs,obE l ob0 cO cO,obE g x I O,.mem N4]:=a;refine acT ms[i] 1 a rfl (by rw[atF];omega) λfv' e7 a=>?_;have a:cH M.A w e7 [obE c2 (Ff.pmO qs[i]) tk tc,La fv' (ms.take i++[ms[i]]),.urow 25 6 Q i cs,obE l ob0 cO cO,obE g x I O,.mem N4]:=a;rw[iV a 0 rfl];refine Ga (Ff.pmO qs[i]) F.keys.one F.kids.one a λnb e8 a=>?_;refine UD 3 a rfl (a.sl 0 rfl 6 1 1 rfl) (yO _ F.keys.one F.kids.one) om λc4 b1 a=>?_;have a:=a.tail;have a:cH M.A w b1 [obE c2 (Ff.pmO qs[i]) tk tc,La fv' (ms.take i++[ms[i]]),.urow 25 6 c4 (i+1) (cs++obC (Ff.pmO qs[i]) tk tc),obE l ob0 cO cO,obE g x I O,.mem N4]:=a;have e9:qs.take (i+1)=qs.take i++[qs[i]]:=auD C;have fin:∀b,b=Ff.odd (qs.take (i+1))->IJ (λvs W=>∃(i:Nat) (fv Q:aq) (cs:List aq) (q:Mem),vs=[ad 0,fv,Q,.bool (Ff.odd (qs.take i)),ad (i:Int)]∧i<=ms.length∧S.le q∧OVs q.A q.w cs ((qs.take i).map Ff.pmO)∧cH M.A w W [La fv (ms.take i),.urow 25 6 Q i cs,obE l ob0 cO cO,obE g x I O,.mem q]) (λvs _=>ms.length - (RowKit.intOf (vs.getD 4 undef)).toNat) [ad 0,fv,Q,.bool (Ff.odd (qs.take i)),ad (i:Int)] B [ad 0,fv',c4,.bool b,ad (IntKind.i64.wrap ((i:Int)+1))] b1:=by
    intro b hb;rw[aA om om,hb];refine aS ⟨i+1,fv',c4,cs++obC (Ff.pmO qs[i]) tk tc,N4,rfl,om,l3.trans l4,?_,?_⟩ (by simp[RowKit.intOf];omega)
    ·rw[e9,auJ];exact gI (c1.le l4) (Da ht)
    ·rw[auD e6];exact a.tail
   rw[e9,Ff.NU] at fin;cases a1:Ff.odd (qs.take i) with
  |true=>
    rw[a1] at fin;simp only[rs,nE];exact fin av rfl
  |false=>
    rw[a1] at fin;simp only[rs];rw[eO,sA a 0 rfl];simp only[rs];rw[Ff.apI];exact fin _ (azF _).symm
  simp only[e5,asW,i_f];have:i=ms.length:=om
  subst this;have h0:qs.take ms.length=qs:=by rw[<-b7,auZ]
  rw[h0] at c1;rw[h0];rw[auZ] at a;obtain⟨N4,l4,j6,a⟩:=a.bV 3 rfl;have a:cH M.A w B [.urow 25 6 Q ms.length cs,obE l ob0 cO cO,obE g x I O,.mem N4]:=a;obtain⟨N5,l5,j7,a⟩:=a.bV 2 rfl;have a:cH M.A w B [obE l ob0 cO cO,obE g x I O,.mem N5]:=a;have j8:Mk N5 fv (ms.map Ff.bP) (ms.flatMap nmC):=⟨by rw[atV];exact j6.le l5,Oe ms⟩;have h6:Mk N5 Q (qs.map Ff.pmO) cs:=⟨by rw[atV,b7];exact j7,(c1.le l4).le l5⟩;have h7:=(((l1.trans l2).trans l3).trans l4).trans l5;have h9:=(((e2.le l3).le l4).le l5);have m1:=@Ff.tX (ms.map Ff.bP);have m2:=@Ff.tX (qs.map Ff.pmO);have a:=a.drew;refine⟨λW=>(obE g x I O).is W,a.at_ 1 rfl,?_⟩;refine gJ (obV x I O) (λW h=>bB (AtV.agg kE (cs:=obC x I O) rfl λj u hj=>by rw[atK];exact aG (T:=25) h hj)) ?_;refine bG a 2 rfl (LP (ms.map Ff.bP) fv _ N5 _ om (a.hasM 2 rfl) j8) λy N6 w8 l6 hy a=>?_;refine⟨a.at_ 1 rfl,?_⟩;refine bG a 2 rfl (SX x (Ff.alone (ms.map Ff.bP)) _ y Ff.aQ N6 w8 om om dc (a.hasM 2 rfl) (h9.le l6) hy) ?_;have c5:=Vl.Mx x Ff.aQ (Ff.alone (ms.map Ff.bP));rw[show Ff.aQ.length=6 from rfl] at c5;generalize Vl.set x Ff.aQ (Ff.alone (ms.map Ff.bP))=Rr at c c5;obtain⟨z,ze⟩:=Rr;dsimp only at c c5;rintro _ N7 w9 l7 ⟨zv,rfl,hz⟩ a;obtain⟨zk,zc,m3,rfl,G⟩:=hz.open;dsimp only at G hz;unfold vI;refine aI (obV z zk zc) (λ_=>by kernel_rfl) (aI (ad ze) (λ_=>by kernel_rfl) ?_);refine aP 1 G.keys.one G.kids.one a rfl λc3 a=>?_;have a:cH M.A w c3 [obE l ob0 cO cO,obE g z zk zc,.mem N7]:=a;have a6:=(h7.trans l6).trans l7;simp only[eF];by_cases b2:ze=0
  case neg=>
   rw[asU b2] at c;simp only[atA (show ze≠0 from b2),i_t];rw[sR];refine aP 0 rfl rfl a rfl λZ a=>?_;exact bX 0 a rfl (R _ _ N7 _ 2 a rfl a6 ⟨_,by rw[<-c];rfl,by rw[<-c];exact jD N7⟩)
  rw[asT (λh=>h b2)] at c;simp only[asZ (show ¬ze≠0 fromλh=>h b2),i_f];refine join λJ hJ=>?_;cases a1:Ff.odd qs with
 |false=>
   rw[asU a1] at c
   try simp only[i_f]
   refine hJ _ _ λ_=>?_;unfold mU nz;rw[iV a 1 rfl];refine aP 0 G.keys.one G.kids.one a rfl λZ a=>?_;exact bX 0 a rfl (R _ _ N7 _ 2 a rfl a6 ⟨_,by rw[<-c];rfl,by rw[<-c];exact G.ov⟩)
 |true=>
  rw[asT (by rw[a1];decide)] at c
  try simp only[i_t]
  have a:=a.drew;refine⟨λW=>(obE g z zk zc).is W,a.at_ 1 rfl,?_⟩;refine gJ (obV z zk zc) (λW h=>bB (AtV.agg kE (cs:=obC z zk zc) rfl λj u hj=>by rw[atK];exact aG (T:=25) h hj)) ?_;refine bG a 2 rfl (LP (qs.map Ff.pmO) Q _ N7 _ om (a.hasM 2 rfl) ⟨(h6.sl.le l6).le l7,(h6.all.le l6).le l7⟩) λy2 N8 Z l8 j9 a=>?_;refine⟨a.at_ 1 rfl,?_⟩;refine bG a 2 rfl (SX z (Ff.alone (qs.map Ff.pmO)) _ y2 Ff.bW N8 Z om om dc (a.hasM 2 rfl) (hz.le l8) j9) ?_;generalize Vl.set z Ff.bW (Ff.alone (qs.map Ff.pmO))=Rr at c;obtain⟨y,ye⟩:=Rr;dsimp only at c;rintro _ N9 e7 l9 ⟨yv,rfl,k0⟩ a;obtain⟨yk,yc,m4,rfl,H⟩:=k0.open;dsimp only at H;unfold vI;refine aI (obV y yk yc) (λ_=>by kernel_rfl) (aI (ad ye) (λ_=>by kernel_rfl) ?_);refine aP 1 H.keys.one H.kids.one a rfl λe8 a=>?_;have a:cH M.A w e8 [obE l ob0 cO cO,obE g y yk yc,.mem N9]:=a;have b5:=(a6.trans l8).trans l9;simp only[eF];by_cases b3:ye=0
  case neg=>
   rw[asU b3] at c;simp only[atA (show ye≠0 from b3),i_t];rw[sR];refine aP 0 rfl rfl a rfl λb1 a=>?_;exact bX 0 a rfl (R _ _ N9 _ 2 a rfl b5 ⟨_,by rw[<-c];rfl,by rw[<-c];exact jD N9⟩)
  rw[asT (λh=>h b3)] at c;simp only[asZ (show ¬ye≠0 fromλh=>h b3),i_f];refine hJ _ _ λ_=>?_;unfold mU nz;rw[iV a 1 rfl];refine aP 0 H.keys.one H.kids.one a rfl λb1 a=>?_;exact bX 0 a rfl (R _ _ N9 _ 2 a rfl b5 ⟨_,by rw[<-c];rfl,by rw[<-c];exact H.ov⟩)
 by_cases k9:o.k=9
 ·simp only[asZ (show ¬o.k≠9 fromλh=>h k9),rs,nE,i_f];exact main w2 (.inl k9) a
 simp only[atA (show o.k≠9 from k9),rs];rw[eO,sA a 1 rfl];by_cases k7:o.k=7
 ·simp only[rs,asZ (show ¬o.k≠7 fromλh=>h k7),i_f];exact main w2 (.inr k7) a
 ·simp only[rs,atA (show o.k≠7 from k7),i_t];rw[sR];refine aP 0 rfl rfl a rfl λB a=>?_;exact bX 0 a rfl (R _ _ M _ 2 a rfl M.le_refl ⟨_,Vl.ob0,10,rfl,jD M,by unfold Ff.Oz;rw[asU ⟨k9,k7⟩];exact⟨rfl,rfl⟩⟩)
end
section
open Eng
def pZ(t0 t6 t7 t8 w)(N1:JT)(K:KT):=nz f142 495 [N1] [nh 13 [0,6]] [] (zg [0,6,7,8] [t0,t6,t7,t8]) w K
def pC(t0 t6 w)(N1:JT)(K:KT):=nz f142 47 [N1] [nh 13 [0,6],(20,[8],λs v j w f=>pZ (s 0) (s 6) (s 7) (vg v 0) w (f 0) K)] [] (zg [0,6] [t0,t6]) w K
def tU(t0 t1 w)(K:KT):=nz f142 1 [] [(13,[0,6],λs v j w f=>pC (vg v 0) (vg v 1) w (f 0) K)] [] (zg [0,1] [t0,t1]) w K
theorem Bu:tU t0 t1 w k0->Calls ah 142 #[t0,t1] w k0:=cz [(10,[8])] [(6,[0,6])] func142
end
section
open Eng Go.RowKit
def Sto.ms:List aq->Nat
|.string b::_=>b.data.toList.length
|_=>0
def Sto.bt (x:Int):UInt8:=UInt8.ofNat (x % 256).toNat
theorem Sto.wrap (x:Int):IntKind.u8.wrap x=((Sto.bt x).toNat:Int):=by
 unfold Sto.bt IntKind.wrap;simp[IntKind.bits,IntKind.signed];omega
def Sto.sh (x:Int):Int:=x.fdiv (2 ^ (min (8:Int).toNat IntKind.i64.bits))
def Sto.nt (x:Int):Int:=bXor .i64 (-1) x
def Sto.hd (n:Int)(c:UInt8):List UInt8:=[c,Sto.bt n,Sto.bt (Sto.sh n),Sto.bt (Sto.nt n),Sto.bt (Sto.sh (Sto.nt n))]
def Sto.m (s:List UInt8):Nat:=min s.length 65535
def Sto.go:Nat->List UInt8->List UInt8
|0,_=>[]
|f+1,s=>Sto.hd (Sto.m s) (if Sto.m s=s.length then 1 else 0)++s.take (Sto.m s)++if Sto.m s=s.length then [] else Sto.go f (s.drop (Sto.m s))
def Sto.all (s:List UInt8):List UInt8:=Sto.go (s.length+1) s
theorem Sto.V2:∀(f:Nat) (s:List UInt8),13107*(Sto.go f s).length<=13108*s.length+65535
|0,s=>by show 13107*0<=_;omega
|f+1,s=>by
  have a:=Sto.V2 f (s.drop (Sto.m s));unfold Sto.go;rw[asY,asY,show (Sto.hd (Sto.m s) (if Sto.m s=s.length then 1 else 0)).length=5 from rfl,atF];rw[atG] at a;have hm:Sto.m s=min s.length 65535:=rfl;by_cases h:Sto.m s=s.length
  ·rw[asU h,awI];omega
  ·rw[asT h];omega
theorem akO :DoX P (mUn .xor (ad a)) w PK K=K (ad (Sto.nt a)) w:=fT (by simp[Op.unary,Op.intBits,Sto.nt,bXor,IntKind.signed])
theorem Uj (s:List UInt8)(w:ao)(n:s.length<=1000000):Ret ah 142 #[ae s,ad 0] w (λv w'=>v=M4 (Sto.all s) 0∧Below w.heap.size w w'):=by
 refine aL λK e=>Bu ?_;unfold tU nz;simp only[rs,show ai ((0:Int) < 0)=au from rfl,show ai ((2:Int) < 0)=au from rfl,i_f];rw[cZ atB];simp only[rs,show ai ((1048576:Int) < (s.length:Int))=au from asZ om,i_f];refine loop (λvs w'=>∃(f:Nat) (u:List UInt8) (v:aq) (l:List UInt8),vs=[ae u,v]∧u.length < f∧u.length<=s.length∧l.length+u.length+5*u.length<=6*s.length+0∧l++Sto.go f u=Sto.all s∧Own w w' [Of v l]) (λvs _=>Sto.ms vs) ⟨s.length+1,s,cO,[],rfl,om,om,by simp;omega,rfl,(Own.start w).S7 _ 1⟩ ?_;rintro vs h ⟨f,u,v,l,rfl,o,hu,p,b,a⟩ _;simp only[pC,gd,nz];rw[cZ atB,Ek];have hm:min ((u.length:Nat):Int) 65535=((Sto.m u:Nat):Int):=by unfold Sto.m;omega
 have i:Sto.m u=min u.length 65535:=rfl;rw[hm];refine join λJ j=>?_;have step:∀c:UInt8,c=(if Sto.m u=u.length then 1 else 0)->J [.int .u8 (c.toNat:Int)] h:=by
  intro c d;refine j _ _ λ_=>?_;simp only[pZ,gd,nz];refine aC (bA krx atS) |>.mpr ?_;rw[Sto.wrap,EB dc];refine aC (bA krx atS) |>.mpr ?_;rw[Sto.wrap,akO];refine aC (bA krx atS) |>.mpr ?_;rw[Sto.wrap,akO,EB dc];refine aC (bA krx atS) |>.mpr ?_;rw[Sto.wrap];refine adP (m:=Sto.hd (Sto.m u) c) (λ_=>by kernel_rfl) a (by show _+5<=_;omega) λv1 w2 a=>?_;rw[O9 atB om om];refine alH a (by rw[asY];show _+5+_<=_;rw[atF];omega) λv2 w3 a=>?_;rw[atC] at a;rw[yY atB om om,atC];obtain⟨f,rfl⟩:∃g,f=g+1:=⟨f - 1,om⟩;unfold Sto.go at b;rw[<-d] at b;by_cases he:Sto.m u=u.length
  ·rw[asU he] at d;rw[asU he,atX,<-atJ] at b;subst d;simp only[rs,show ai ((((1:UInt8).toNat:Nat):Int)=1)=av from rfl,i_t];rw[adA 0 a rfl,b];exact e _ _ ⟨rfl,a.done⟩
  ·rw[asT he] at d;rw[asT he] at b;subst d;simp only[rs,show ai ((((0:UInt8).toNat:Nat):Int)=1)=au from rfl,i_f];have k:65535=Sto.m u:=om
   refine aS ⟨f,u.drop (Sto.m u),v2,_,rfl,by rw[atG];omega,by rw[atG];omega,?_,?_,a⟩ ?_
   ·rw[asY,asY,atG,atF];show l.length+5+_+_+_<=_;omega
   ·rw[<-b];simp only[atJ]
   ·show (u.drop (Sto.m u)).length < u.length;rw[atG];omega
 rw[cZ atB];simp only[rs];by_cases he:Sto.m u=u.length
 ·simp only[show ai (((Sto.m u:Nat):Int)=(u.length:Int))=av from atA om,i_t];exact step 1 (by rw[asU he])
 ·simp only[show ai (((Sto.m u:Nat):Int)=(u.length:Int))=au from asZ om,i_f];exact step 0 (by rw[asT he])
namespace Ff
def Le (o:Ob)(ns:List (List UInt8))(ps:List Pm):Int:=if o.k≠9∧o.k≠7 then 10 else Km ns ps
def FN (n:List UInt8)(p:Pm)(s:List UInt8):List UInt8×Int:=
 if full n=[] then ([],15)
 else if full n=nFl then
  if ct p s=0 then ([120,156]++Sto.all (bn p s)++bp (fq (bn p s)),0) else ([],ct p s)
 else (fP n s,0)
theorem abT {n s:List UInt8}{p:Pm}:(FN n p s).1.length<=stg s.length:=by
 unfold FN stg;split
 ·show 0<=_;omega
 ·split
  ·split
   ·rename_i hw
    have:=Xf hw;have:=Sto.V2 ((bn p s).length+1) (bn p s);show ([120,156]++Sto.all (bn p s)++bp (fq (bn p s))).length<=_;rw[asY,asY,show (bp (fq (bn p s))).length=4 from rfl,show ([120,156]:List UInt8).length=2 from rfl,Sto.all];omega
   ·show 0<=_;omega
  ·have:=L1 (n:=n) (s:=s);show (fP n s).length<=_;omega
end Ff
theorem U3 (n:List UInt8)(p:Pm)(s:List UInt8)(w:ao)(l:s.length<=200000):Ret ah 73 #[ae n,pmV p,ae s] w (λv w'=>v=M4 (Ff.FN n p s).1 (Ff.FN n p s).2∧Below w.heap.size w w'):=by
 refine aL λK i=>Cf ?_;unfold uG nz;refine Ar p (Own.start w) λj d a=>?_;refine qE (HY n d) ?_;generalize b:Ff.FN n p s=X at i;have fin:∀{W:ao},Own w W [pmE j p]->K (.returned (M4 X.1 X.2)) W:=λa=>i _ _ ⟨rfl,a.done⟩;unfold Ff.FN at b;by_cases e:Ff.full n=[]
 ·rw[asU e] at b;subst b;simp only[asZ (show ¬Ff.full n≠[] fromλh=>h e),rs,auN,i_t];exact fin a
 rw[asT e] at b;simp only[atA (show Ff.full n≠[] from e),rs,auO,i_f];refine qE (kD n d) ?_;rw[show (Value.string ⟨#[70,108,97,116,101,68,101,99,111,100,101]⟩)=ae Ff.nFl from rfl];simp only[rs];by_cases f:Ff.full n=Ff.nFl
 case neg=>
  rw[asT f] at b;subst b;simp only[atA (show Ff.full n≠Ff.nFl from f),i_t];rw[cZ atB];simp only[rs,show ai ((1048576:Int) < (s.length:Int))=au from asZ om,i_f];refine aJ a (ON n s d om) ?_;rintro _ w2 rfl a;exact fin a
 rw[asU f] at b;simp only[asZ (show ¬Ff.full n≠Ff.nFl fromλh=>h f),i_f];rw[I6 a 0 rfl];refine aJ a (K7 p s d om) ?_;rintro _ w2 rfl a;unfold M4;simp only[ex,eF];by_cases c:ct p s=0
 case neg=>
  rw[asT c] at b;subst b;simp only[atA (show ct p s≠0 from c),i_t];exact fin a
 have hle:=Ff.Xf c;rw[asU c] at b;simp only[c,if_true,show ai ((0:Int)≠0)=au from rfl,i_f];refine aJ a (Uj (bn p s) w2 om) ?_;rintro _ w3 rfl a;unfold M4;simp only[ex,eF,show ai ((0:Int)≠0)=au from rfl,i_f];have g:=Sto.V2 ((bn p s).length+1) (bn p s);have g:(Sto.all (bn p s)).length<=1000000:=by unfold Sto.all;omega
 rw[show (Value.string ⟨#[120,156]⟩)=ae ([120,156]:List UInt8) from rfl,Pf (by show 2+_<=_;omega)];refine aJ a (Vb (bn p s) w3 om) ?_;rintro _ k rfl a;refine aJ a (Ro _ k) ?_;rintro _ m rfl a;rw[Pf (by rw[asY];show 2+_+4<=_;omega)];subst b;exact fin a
theorem Mj (o:Ob)(v:aq)(ns:List (List UInt8))(ps:List Pm)(vn vp:aq)(M:Mem)(w:ao)(Y:ns.length<=1000)(Z:ps.length<=1000)(U:M.has w)(hv:OV M.A M.w v o)(q:SlA M.A M.w vn 1 ns.length (bF ns))(hp:SlA M.A M.w vp 3 ps.length (ps.flatMap pmC)) :
  jJ ah 23 #[v,vn,vp] M w (λr _=>r=ad (Ff.Le o ns ps)):=by
 obtain⟨vk,vc,a1,rfl,B⟩:=hv.open;refine aU U λK hK=>CB ?_;unfold tZ nz;refine eI o B.keys.one B.kids.one (cH.memS U) λz w1 a=>?_;have fin:∀{W:ao} {e:Int},cH M.A w W [obE z o vk vc,.mem M]->Ff.Le o ns ps=e->K (.returned (ad e)) W:=λa he=>hK _ _ M _ 1 a rfl M.le_refl (by rw[he]);have c:=Ff.Le.eq_1 o ns ps;rw[eO,sA a 0 rfl];simp only[rs];have main:¬(o.k≠9∧o.k≠7)->DoX ah (mB .len #[22] 3 #[au] #[vn]) w1 (pk K) λt18 w=>
 DoX ah (iA .gtr 3 t18 (ad 8)) w (pk K) λt19 w=>
 IfX t19 (K (.returned (ad 6)) w) (Ax [(ad 0)] w (λG w N1=>∀_:Sg,jI vn vp (G.getD 0 undef) w N1 K)):=by
  intro hk;rw[asT hk,Ff.Km.eq_1] at c;rw[fS q];simp only[rs];by_cases V:8 < ns.length
  ·rw[asU V] at c;simp only[show ai ((8:Int) < (ns.length:Int))=av from atA om,i_t];exact fin a c
  rw[asT V] at c;simp only[show ai ((8:Int) < (ns.length:Int))=au from asZ om,i_f];refine loop (λvs W=>∃i:Nat,vs=[ad (i:Int)]∧i<=ns.length∧(∀n∈ns.take i,Ff.full n≠[])∧cH M.A w W [obE z o vk vc,.mem M]) (λvs _=>ns.length - n0 vs) ⟨0,rfl,om,λn h=>by simp at h,a⟩ ?_;clear a;rintro vs w2 ⟨i,rfl,hi,H,a⟩ _;simp only[jI,gd,nz];rw[fS q];simp only[rs];by_cases f:(i:Int) < (ns.length:Int)
  ·simp only[f,asX,i_t];have t:i < ns.length:=om
   obtain⟨p,u,x⟩:=Fc q t;rw[aC (u w2),aC (x w2 (a.hasM 1 rfl))];refine qE (HY ns[i] w2) ?_;by_cases E:Ff.full ns[i]=[]
   ·rw[asU (avB.2 ⟨_,atP t,atA E⟩)] at c;simp only[rs,asZ (show ¬Ff.full ns[i]≠[] fromλh=>h E),auN,i_t];exact fin a c
   simp only[rs,atA (show Ff.full ns[i]≠[] from E),auO,i_f];rw[aA om om];refine aS ⟨i+1,rfl,om,λn h=>?_,a⟩ (by simp[n0,RowKit.intOf];omega);rw[auD t] at h;rcases auF.1 h with h|h
   ·exact H n h
   ·rw[auB.1 h];exact E
  simp only[f,asW,i_f];have:i=ns.length:=om
  subst this;rw[auZ] at H;rw[asT (λh=>by obtain⟨n,q,h⟩:=avB.1 h;exact H n q (atQ h))] at c;rw[aZ awG (hp.now (a.hasM 1 rfl))];simp only[rs];have two:(ps=[]∨ps.length=ns.length)->Ax [(ad 0)] w2 (λI w N2=>∀_:Sg,jH vn vp (I.getD 0 undef) w N2 K):=by
   intro b;rw[asT (by rintro⟨y,s⟩;rcases b with h|h;exact y h;exact s h)] at c;refine loop (λvs W=>∃i:Nat,vs=[ad (i:Int)]∧i<=ps.length∧(∀(j:Nat) (y:j < ns.length) (s:j < ps.length),j < i->Ff.full ns[j]=Ff.nFl∨ps[j]=Ff.bK)∧cH M.A w W [obE z o vk vc,.mem M]) (λvs _=>ps.length - n0 vs) ⟨0,rfl,om,λj _ _ h=>absurd h (azB _),a⟩ ?_;clear a;rintro vs w3 ⟨i,rfl,hi,X,a⟩ _;simp only[jH,gd,nz];rw[aZ awG (hp.now (a.hasM 1 rfl))];simp only[rs];by_cases f:(i:Int) < (ps.length:Int)
   ·have d:i < ps.length:=om
    have g:i < ns.length:=by
     rcases b with h|h
     ·rw[h] at d;exact absurd d (azB _)
     ·omega
    simp only[f,asX,rs];rw[fS q];simp only[rs,show ai ((i:Int) < (ns.length:Int))=av from atA om,i_t];obtain⟨p,u,x⟩:=Fc q g;obtain⟨p2,C,D⟩:=Ow hp d;refine cQ (λW=>cH M.A w W [obE z o vk vc,.mem M]) a.drew ?_;refine gr _ u (iL _ (λW h=>x W (h.hasM 1 rfl)) ?_);refine iH (ae (Ff.full ns[i])) (λW h=>(kD _ W).mono λv w' ⟨J,L⟩=>⟨J,by rw[<-L];exact h⟩) ?_;rw[show (Value.string ⟨#[70,108,97,116,101,68,101,99,111,100,101]⟩)=ae Ff.nFl from rfl];refine Xm ?_;have next:∀W,(Ff.full ns[i]=Ff.nFl∨ps[i]=Ff.bK)->cH M.A w W [obE z o vk vc,.mem M]->IJ (λvs W=>∃i:Nat,vs=[ad (i:Int)]∧i<=ps.length∧(∀(j:Nat) (y:j < ns.length) (s:j < ps.length),j < i->Ff.full ns[j]=Ff.nFl∨ps[j]=Ff.bK)∧cH M.A w W [obE z o vk vc,.mem M]) (λvs _=>ps.length - n0 vs) [ad (i:Int)] w3 [ad (IntKind.i64.wrap ((i:Int)+1))] W:=by
     intro W N a;rw[aA om om];refine aS ⟨i+1,rfl,om,λj y s hj=>?_,a⟩ (by simp[n0,RowKit.intOf];omega);by_cases O:j=i
     ·subst O;exact N
     ·exact X j y s om
    by_cases l:Ff.full ns[i]=Ff.nFl
    ·rw[asZ (λh=>h l)];simp only[gq,XS];refine Dr ?_;intro P a;rw[i_f];exact next P (.inl l) a
    ·rw[atA (show Ff.full ns[i]≠Ff.nFl from l)];simp only[gq];refine gr _ C (iL _ (λW h=>D W (h.hasM 1 rfl)) ?_);refine iH (pmV Ff.bK) (λW h=>(Bg W).mono λv w' ⟨J,L⟩=>⟨J,h.grow L⟩) ?_;refine gr _ (λ_=>Tx) (LO ?_);intro P a;cases he:Pm.eqb ps[i] Ff.bK with
    |true=>
      rw[auO,i_f];exact next P (.inr (Ff.jY.1 he)) a
    |false=>
      rw[auN,i_t];have Q:ps[i]≠Ff.bK:=λh=>by rw[Ff.jY.2 h] at he;cases he
      have F:ps.length=ns.length:=by
       rcases b with h|h
       ·rw[h] at d;exact absurd d (azB _)
       ·exact h
      rw[asU ((Jw F).2 ⟨i,g,d,l,Q⟩)] at c;exact fin a c
   have g:i=ps.length:=om
   subst g;simp only[f,asW,rs,nE,i_f];refine fin a ?_;rw[c,asT];intro h;rcases b with R|R
   ·rw[R,List.zip_nil_right] at h;cases h
   ·obtain⟨j,y,s,h3,h4⟩:=(Jw R).1 h;rcases X j y s s with h|h
    ·exact h3 h
    ·exact h4 h
  by_cases m:ps=[]
  ·simp only[show ai ((0:Int) < (ps.length:Int))=au from asZ (by rw[m];decide),rs,nE,i_f];exact two (.inl m)
  have a6:=awL.2 m;simp only[show ai ((0:Int) < (ps.length:Int))=av from atA om,rs];rw[aZ awG (hp.now (a.hasM 1 rfl))];rw[fS q];simp only[rs];by_cases F:ps.length=ns.length
  ·simp only[show ai ((ps.length:Int)≠(ns.length:Int))=au from asZ om,i_f];exact two (.inr F)
  ·rw[asU ⟨m,F⟩] at c;simp only[show ai ((ps.length:Int)≠(ns.length:Int))=av from atA om,i_t];exact fin a c
 by_cases S:o.k=9
 ·simp only[asZ (show ¬o.k≠9 fromλh=>h S),rs,nE,i_f];exact main om
 simp only[atA (show o.k≠9 from S),rs];rw[eO,sA a 0 rfl];by_cases T:o.k=7
 ·simp only[rs,asZ (show ¬o.k≠7 fromλh=>h T),i_f];exact main om
 ·simp only[rs,atA (show o.k≠7 from T),i_t];rw[asU ⟨S,T⟩] at c;exact fin a c
end
end Go.Proofs.YtlipjfcbjemicaaGreatDoor










namespace Go.Proofs.YtlipjfcbjemicaaGreatDoor
variable{C:ao->Prop}{H:Type}{K:VWP}{M:Eng.Mem}{P:Program}{PK PK2:PKT}{W w:ao}{a:Int}{b fuel i sz:Nat}{cs:List aq}{data:List UInt8}{ns:List (List UInt8)}{o:Ob}{os:List Ob}{v vc vk vn vp:aq}{x:Pm}{xo yo:Operand}{t0 t1:aq}{k0:Eng.KT}
section
open Eng Go.RowKit
section
variable {w:ao}{PK:PKT}{K:VWP}{S:Nat->Prop}{w0:ao}{L T:List Ent}
theorem akD (a c d:Ob)(e:cH S w0 w L)(k:∀b w',cH S w0 w' (.cells b (obC a cO cO++obC c cO cO++obC d cO cO) 25::L)->K (bR b 0 3 3) w') :
  DoX ah (aT 23 3 #[(0,obV a cO cO),(1,obV c cO cO),(2,obV d cO cO)]) w PK K:=
 bI (λb=>bR b 0 3 3) _ 25 (λ_=>by kernel_rfl) e k
theorem aoU (a b c:Int)(i:Nat)(d:cH S w0 w L)(hi:L[i]?=ax (.mem M))(k:∀x N w',M.le N->SlA N.A N.w (bR x 0 3 3) 6 3 (obC (Cs.FB a) cO cO++obC (Cs.FB b) cO cO++obC (Cs.FB c) cO cO)->cH S w0 w' (L.set i (.mem N))->K (bR x 0 3 3) w') :
  DoX ah (aT 23 3 #[(0,obV (Cs.FB a) cO cO),(1,obV (Cs.FB b) cO cO),(2,obV (Cs.FB c) cO cO)]) w PK K:=
 akD _ _ _ d λx w' d=>by
  obtain⟨N,l,h,d⟩:=cH.bV (d.toU 6 3 3 rfl om om) i hi;exact k x N w' l h d
theorem aoS (i:Nat)(a:cH S w0 w L)(hi:L[i]?=ax (.mem M))(k:∀x N w',M.le N->SlA N.A N.w (bR x 0 3 3) 1 3 (bF [Ff.Dq,Ff.Dj,Ff.CY])->cH S w0 w' (L.set i (.mem N))->K (bR x 0 3 3) w') :
  DoX ah (aT 22 3 #[(0,.string ⟨#[67,111,108,111,114,115]⟩),(1,.string ⟨#[67,111,108,117,109,110,115]⟩),(2,.string ⟨#[80,114,101,100,105,99,116,111,114]⟩)]) w PK K:=by
 refine bI (λb=>bR b 0 3 3) (bF [Ff.Dq,Ff.Dj,Ff.CY]) 9 (λ_=>by kernel_rfl) a λx w' a=>?_;obtain⟨N,l,h,a⟩:=cH.bV (a.toU 1 3 3 rfl om om) i hi;exact k x N w' l h a
end
theorem ZX (N:Mem)(a b c:Int):OVs N.A N.w (obC (Cs.FB a) cO cO++obC (Cs.FB b) cO cO++obC (Cs.FB c) cO cO) [Cs.FB a,Cs.FB b,Cs.FB c]:=
 gI (gI (Da (xK N 2 a 0 [])) (Da (xK N 2 b 0 []))) (Da (xK N 2 c 0 []))
theorem Rz (p:Pm)(M:Mem)(w:ao)(q:M.has w):jJ ah 83 #[pmV p] M w (λr N=>OV N.A N.w r (Ff.Ao p)):=by
 refine aU q λK s=>Ag ?_;unfold qQ iN dx alx;refine Ar p (cH.memS q) λd z a=>?_;refine dM a λi w2 a=>?_;have a:=a.drew;have it:∀{n:Int} {W:ao} {N:Mem} {PK:PKT} {K:VWP},cH M.A w W [obE i ob0 cO cO,pmE d p,.mem N]->(∀e,cH M.A w e [obE i ob0 cO cO,pmE d p,.mem N]->(pmE d p).is e∧K (obV (Cs.FB n) cO cO) e)->dZ ah 108 #[ad n] W PK λt w=>(pmE d p).is w∧K t w:=by
  intro n W N PK K a k;refine aJ a (Ul n W) ?_;rintro _ e rfl a;exact k e a
 have fin:∀{W:ao} {N b:Mem} {x y:Nat} {PK:PKT},SlA b.A b.w (bR x 0 3 3) 1 3 (bF [Ff.Dq,Ff.Dj,Ff.CY])->SlA N.A N.w (bR y 0 3 3) 6 3 (obC (Cs.FB p.c) cO cO++obC (Cs.FB p.n) cO cO++obC (Cs.FB p.p) cO cO)->b.le N->M.le N->cH M.A w W [obE i ob0 cO cO,pmE d p,.mem N] ->
   (pmE d p).is W∧HDo ah (λ_=>True) (aW 25 #[(0,(ad 7)),(4,bR x 0 3 3),(5,bR y 0 3 3)]) λt14=>
   DoX ah (aV 25 (af i 0) t14) W PK λ_ w=>dA (af i 0) w K:=by
  intro W N b x y PK u g l v a;refine⟨a.at_ 1 rfl,?_⟩;refine aI (obV (Ff.Ao p) (bR x 0 3 3) (bR y 0 3 3)) (λ_=>by kernel_rfl) ?_;refine aP 0 rfl rfl a rfl λw3 a=>?_;exact fH (bJ (a.agg 0 rfl kE)) (s _ _ N _ 2 a rfl v (rE.ov (o:=Ff.Ao p) ⟨u.le l,g,ZX N _ _ _⟩))
 have st:∀{W:ao} {N:Mem} {PK:PKT} {K:VWP},cH M.A w W [obE i ob0 cO cO,pmE d p,.mem N]->(∀x b e,N.le b->SlA b.A b.w (bR x 0 3 3) 1 3 (bF [Ff.Dq,Ff.Dj,Ff.CY])->cH M.A w e [obE i ob0 cO cO,pmE d p,.mem b]->(pmE d p).is e∧K (bR x 0 3 3) e) ->
   DoX ah (aT 22 3 #[(0,.string ⟨#[67,111,108,111,114,115]⟩),(1,.string ⟨#[67,111,108,117,109,110,115]⟩),(2,.string ⟨#[80,114,101,100,105,99,116,111,114]⟩)]) W PK λt w=>(pmE d p).is w∧K t w:=
  λa k=>aoS 2 a rfl λx b e l h a=>k x b e l h a
 refine⟨λW=>(pmE d p).is W,a.at_ 1 rfl,?_⟩;refine aI (af d (0+1)) (λ_=>bC Mc) (gJ (ad p.c) (λW h=>aB bZ (aG (T:=27) (cs:=pmC p) h rfl)) ?_);refine aI (af d (0+2)) (λ_=>bC OL) (gJ (ad p.n) (λW h=>aB bZ (aG (T:=27) (cs:=pmC p) h rfl)) ?_);refine aI (af d (0+0)) (λ_=>bC XL) (gJ (ad p.p) (λW h=>aB bZ (aG (T:=27) (cs:=pmC p) h rfl)) ?_);have j:∀{W:ao} {N:Mem} {PK:PKT} {K:VWP},cH M.A w W [obE i ob0 cO cO,pmE d p,.mem N]->(∀x b e,N.le b->SlA b.A b.w (bR x 0 3 3) 6 3 (obC (Cs.FB p.c) cO cO++obC (Cs.FB p.n) cO cO++obC (Cs.FB p.p) cO cO)->cH M.A w e [obE i ob0 cO cO,pmE d p,.mem b]->K (bR x 0 3 3) e) ->
   DoX ah (aT 23 3 #[(0,obV (Cs.FB p.c) cO cO),(1,obV (Cs.FB p.n) cO cO),(2,obV (Cs.FB p.p) cO cO)]) W PK K:=
  λa k=>aoU _ _ _ 2 a rfl λx b e l h a=>k x b e l h a
 refine⟨st a λx N W l h a=>⟨a.at_ 1 rfl,it a λW a=>⟨a.at_ 1 rfl,it a λW a=>⟨a.at_ 1 rfl,it a λW a=>⟨a.at_ 1 rfl,j a λy m W f g a=>fin h g f (l.trans f) a⟩⟩⟩⟩,?_⟩;refine it a λW a=>⟨a.at_ 1 rfl,?_⟩;refine⟨st a λx N W l h a=>⟨a.at_ 1 rfl,it a λW a=>⟨a.at_ 1 rfl,it a λW a=>⟨a.at_ 1 rfl,j a λy m W f g a=>fin h g f (l.trans f) a⟩⟩⟩,?_⟩;refine it a λW a=>⟨a.at_ 1 rfl,?_⟩;refine⟨st a λx N W l h a=>⟨a.at_ 1 rfl,it a λW a=>⟨a.at_ 1 rfl,j a λy m W f g a=>fin h g f (l.trans f) a⟩⟩,?_⟩;refine it a λW a=>⟨a.at_ 1 rfl,?_⟩;refine⟨st a λx N W l h a=>⟨a.at_ 1 rfl,j a λy m W f g a=>fin h g f (l.trans f) a⟩,?_⟩;exact j a λy N W l h a=>⟨a.at_ 1 rfl,st a λx m W f g a=>fin g (h.le f) m.le_refl (l.trans f) a⟩
theorem ME (o:Ob)(v vn vp:aq)(ns:List (List UInt8))(ps:List Pm)(M:Mem)(w:ao)(T:Ff.Km ns ps=0)(hw:o.wt<=1000000000)(hM:M.has w)(hv:OV M.A M.w v o)(hn:SlA M.A M.w vn 1 ns.length (bF ns))(b7:SlA M.A M.w vp 3 ps.length (ps.flatMap pmC)) :
  jJ ah 29 #[v,vn,vp] M w (λr N=>OV N.A N.w r (Ff.IL o (ns.map Ff.full) (Ff.oP ns ps))):=by
 obtain⟨vk,vc,cs,rfl,ha⟩:=hv.open;have t:=Ff.CT T;obtain⟨h8,j7,hz⟩:=Ff.PF T;have j5:Ob.wts ((ns.map Ff.full).map Ff.bP)<=30*ns.length:=by
  rw[axB];exact Ff.FZ (λn=>by
   show (Ff.bP (Ff.full n)).wt<=30;rcases Ff.jA n with e|e|e|e|e<;>rw[e]<;>decide) ns
 have e8:ps=[]∨ps.length=ns.length∧Ff.oP ns ps=ps:=by
  by_cases h:ps=[]
  ·exact .inl h
  ·have e:Ff.oP ns ps=ps:=by unfold Ff.oP;rw[asT h]
   exact .inr ⟨by rw[<-t,e],e⟩
 have e9:ps=[]->∀(i:Nat) (h:i < (Ff.oP ns ps).length),(Ff.oP ns ps)[i]=Ff.bK:=by
  intro h i hi;exact Ff.Oa h (atP _)
 refine aU hM λK hK=>Al ?_;unfold qW nz;refine eI o ha.keys.one ha.kids.one (cH.memS hM) λj w1 a=>?_;refine dM a λk w2 a=>?_;generalize Ff.oP ns ps=qs at *;have b8:=Ff.FZ Ff.RR qs;rw[t] at b8;have j8:=@Ff.tX ((ns.map Ff.full).map Ff.bP);have j9:=@Ff.tX (qs.map Ff.pmO);have a:=cH.nilU a 25 6;have a:=cH.nilU a 25 6;have a:cH M.A w w2 [La cO [],.urow 25 6 cO 0 [],obE k ob0 cO cO,obE j o vk vc,.mem M]:=a;refine loop (λvs W=>∃(i:Nat) (fv u:aq) (ds:List aq) (N:Mem),vs=[fv,u,.bool (Ff.odd (qs.take i)),ad (i:Int)]∧i<=ns.length∧M.le N∧OVs N.A N.w ds ((qs.take i).map Ff.pmO) ∧
  cH M.A w W [La fv ((ns.take i).map Ff.full),.urow 25 6 u i ds,obE k ob0 cO cO,obE j o vk vc,.mem N]) (λvs _=>ns.length - (RowKit.intOf (vs.getD 3 undef)).toNat) ⟨0,cO,cO,[],M,rfl,om,M.le_refl,OVs.nil,a⟩ ?_
 clear a;rintro vs w3 ⟨i,fv,u,ds,N,rfl,hi,d,I,a⟩ _;simp only[nS,gd,nz];rw[fS hn];simp only[rs];by_cases b9:(i:Int) < (ns.length:Int)
 ·simp only[b9,asX,i_t];have c0:i < ns.length:=om
  have c2:i < qs.length:=om
  refine join λJ hJ=>?_;obtain⟨q,h2,h3⟩:=Fc hn c0;rw[aC (h2 w3),aC (h3 w3 (Mem.DM d (a.hasM 4 rfl)))];refine qE (kD ns[i] w3) ?_;refine aJ a (Hb (Ff.full ns[i]) w3) ?_;rintro _ w4 rfl a;refine acT (Ff.full ns[i]) 0 a rfl (by rw[atV,atF];omega) λfv' w6 a=>?_;have a:cH M.A w w6 [La fv' ((ns.take i).map Ff.full++[Ff.full ns[i]]),.urow 25 6 u i ds,obE k ob0 cO cO,obE j o vk vc,.mem N]:=a;have h4:(ns.take i).map Ff.full++[Ff.full ns[i]]=(ns.take (i+1)).map Ff.full:=by rw[auD c0,auJ];rfl
  rw[h4] at a;have X:qs.take (i+1)=qs.take i++[qs[i]]:=auD c2;have step:∀(W:ao) (f:Mem) (Y Z:aq),M.le f->N.le f->OV f.A f.w (obV (Ff.pmO qs[i]) Y Z) (Ff.pmO qs[i])->cH M.A w W [La fv' ((ns.take (i+1)).map Ff.full),.urow 25 6 u i ds,obE k ob0 cO cO,obE j o vk vc,.mem f] ->
    DoX ah (aT 23 1 #[(0,obV (Ff.pmO qs[i]) Y Z)]) W (pk K) λt50 w=>DoX ah (mB .append #[23,23] 23 #[au,au] #[u,t50]) w (pk K) λt51 w=>J [fv',t51,.bool (Ff.odd (qs.take (i+1)))] w:=by
   intro W f Y Z l0 x ht a;refine Ga (Ff.pmO qs[i]) ht.oneK ht.oneC a λk0 w9 a=>?_;refine UD 2 a rfl (a.sl 0 rfl 6 1 1 rfl) (yO _ ht.oneK ht.oneC) om λc4 L a=>?_;have a:=a.tail;have a:cH M.A w L [La fv' ((ns.take (i+1)).map Ff.full),.urow 25 6 c4 (i+1) (ds++obC (Ff.pmO qs[i]) Y Z),obE k ob0 cO cO,obE j o vk vc,.mem f]:=a;refine hJ _ _ λ_=>?_;simp only[nT,gd,rs,nz];rw[aA om om];refine aS ⟨i+1,fv',c4,ds++obC (Ff.pmO qs[i]) Y Z,f,rfl,om,l0,?_,a⟩ (by simp[RowKit.intOf];omega);rw[X,auJ];exact gI (I.le x) (Da ht)
  have null:∀W,qs[i]=Ff.bK->cH M.A w W [La fv' ((ns.take (i+1)).map Ff.full),.urow 25 6 u i ds,obE k ob0 cO cO,obE j o vk vc,.mem N] ->
    dZ ah 84 #[] W (pk K) λt53 w=>DoX ah (aT 23 1 #[(0,t53)]) w (pk K) λt54 w=>DoX ah (mB .append #[23,23] 23 #[au,au] #[u,t54]) w (pk K) λt55 w=>J [fv',t55,.bool (Ff.odd (qs.take i))] w:=by
   intro W hu a;refine aJ a (YD W) ?_;rintro _ w4 rfl a;have e:Ff.pmO qs[i]=Vl.ob0:=by rw[hu];rfl
   have eo:Ff.odd (qs.take (i+1))=Ff.odd (qs.take i):=by rw[X,Ff.NU,hu,show Pm.eqb Ff.bK Ff.bK=av from rfl,auO,ayM]
   have:=step w4 N cO cO d N.le_refl (by rw[e];exact jD N) a;rw[e,eo] at this;exact this
  refine cQ (λW=>cH M.A w W [La fv' ((ns.take (i+1)).map Ff.full),.urow 25 6 u i ds,obE k ob0 cO cO,obE j o vk vc,.mem N]) a.drew ?_;refine iL (ad (ps.length:Int)) (λW h=>CO awG ((b7.le d).now (h.hasM 4 rfl))) ?_;refine Iq ?_;rcases e8 with c5|⟨k3,h5⟩
  ·simp only[show ai ((i:Int) < (ps.length:Int))=au from asZ (by rw[c5];show ¬((i:Int) < 0);omega),gq,XS];refine Dr ?_;intro w7 a;simp only[i_f];exact null w7 (e9 c5 i c2) a
  simp only[show ai ((i:Int) < (ps.length:Int))=av from atA om,gq];obtain⟨q2,U,V⟩:=Ow (i:=i) b7 om;refine gr _ U ?_;refine iL (pmV ps[i]) (λW h=>V W (Mem.DM d (h.hasM 4 rfl))) ?_;refine iH (pmV Ff.bK) (λW h=>(Bg W).mono λv w' ⟨k1,k2⟩=>⟨k1,h.grow k2⟩) ?_;refine gr _ (λ_=>Tx) (LO ?_);intro w7 a;have a6:qs[i]=ps[i]:=by simp only[h5]
  cases hu:Pm.eqb ps[i] Ff.bK with
 |true=>
   simp only[auO,i_f];exact null w7 (by rw[a6];exact Ff.jY.1 hu) a
 |false=>
   simp only[auN,i_t];rw[aC (U w7),aC (V w7 (Mem.DM d (a.hasM 4 rfl)))];refine bG a 4 rfl (Rz ps[i] N w7 (a.hasM 4 rfl)) λtv f w8 x c6 a=>?_;obtain⟨Y,Z,k4,rfl,k5⟩:=c6.open;have e:Ff.pmO qs[i]=Ff.Ao ps[i]:=by unfold Ff.pmO;rw[a6,hu,asT dc]
   have eo:Ff.odd (qs.take (i+1))=true:=by rw[X,Ff.NU,a6,hu,auN,Bool.or_true]
   have:=step w8 f Y Z (d.trans x) x (by rw[e];exact c6) a;rw[e,eo] at this;exact this
 simp only[b9,asW,i_f];have h6:i=ns.length:=om
 subst h6;have c7:qs.take ns.length=qs:=by rw[<-t,auZ]
 rw[c7] at I;rw[c7];rw[auZ] at a;generalize h7:ns.map Ff.full=ms at *;have c8:ms.length=ns.length:=by rw[<-h7,atV]
 obtain⟨N4,l4,c9,a⟩:=a.bV 3 rfl;have a:cH M.A w w3 [.urow 25 6 u ns.length ds,obE k ob0 cO cO,obE j o vk vc,.mem N4]:=a;obtain⟨H,l5,e0,a⟩:=a.bV 2 rfl;have h9:cH M.A w w3 [obE k ob0 cO cO,obE j o vk vc,.mem H]:=a;have B:Mk H fv (ms.map Ff.bP) (ms.flatMap nmC):=⟨by rw[atV];exact c9.le l5,Oe ms⟩;have C:Mk H u (qs.map Ff.pmO) ds:=⟨by rw[atV,t];exact e0,(I.le l4).le l5⟩;have d:=(d.trans l4).trans l5;clear I c9 e0;obtain⟨a1,a3,rfl,_⟩:=B.sl.form;obtain⟨c1,c3,rfl,_⟩:=C.sl.form;have a:=h9;refine aJ a (G4 _ _ _ [] w3) ?_;rintro _ w4 rfl a;refine aJ a (G4 _ _ _ [] w4) ?_;rintro _ w5 rfl a;refine dM a λD w6 a=>?_;refine dM a λE w7 a=>?_;refine aP 1 rfl rfl a rfl λw8 a=>?_;refine aP 0 rfl rfl a rfl λw9 a=>?_;have two:∀(W:ao) (fk fc O P:aq),OV H.A H.w (obV (Ff.alone (ms.map Ff.bP)) fk fc) (Ff.alone (ms.map Ff.bP))->OV H.A H.w (obV (Ff.alone (qs.map Ff.pmO)) O P) (Ff.alone (qs.map Ff.pmO)) ->
   cH M.A w W [obE E (Ff.alone (qs.map Ff.pmO)) O P,obE D (Ff.alone (ms.map Ff.bP)) fk fc,obE k ob0 cO cO,obE j o vk vc,.mem H]->iR vn (af j 0) (af k 0) (.bool (Ff.odd qs)) (af D 0) (af E 0) W K:=by
  intro a7 fk fc O P p s a;have c:=Ff.IL.eq_1 o ms qs;have e1:=Vl.Mx o Ff.aQ (Ff.alone (ms.map Ff.bP));have k6:Ff.aQ.length<=100∧Ff.bW.length<=100:=dc
  have a8:ms=[]->Ff.odd qs=false:=λh=>by
   have:qs=[]:=awO.1 (by rw[t,<-c8,h];rfl);rw[this];rfl
  generalize Ff.alone (ms.map Ff.bP)=F at *;generalize Ff.alone (qs.map Ff.pmO)=G at *;simp only[iR,gd,nz];refine join λJ5 e3=>?_;rw[fS hn];simp only[rs];by_cases h0:ms=[]
  ·have j0:ns.length=0:=by rw[<-c8,h0];rfl
   rw[asU h0] at c;simp only[show ai ((0:Int) < (ns.length:Int))=au from asZ om,i_f];refine e3 _ _ λ_=>?_;simp only[iS,a8 h0,nz];refine join λJ6 Q=>?_;simp only[i_f];refine Q _ _ λ_=>?_;simp only[fA,nz];rw[iV a 3 rfl];refine aP 2 ha.keys.one ha.kids.one a rfl λe4 a=>?_;exact fH (bJ (a.agg 2 rfl kE)) (hK _ _ H _ 4 a rfl d (by rw[c];exact hv.le d))
  rw[asT h0] at c;have j0:=awL.2 h0;simp only[show ai ((0:Int) < (ns.length:Int))=av from atA om,i_t];rw[iV a 3 rfl,iV a 1 rfl];refine bG a 4 rfl (TA o F _ _ Ff.aQ H a7 om om om (a.hasM 4 rfl) (hv.le d) p) ?_;generalize Vl.set o Ff.aQ F=R at c e1;obtain⟨y,e⟩:=R;dsimp only at c e1;rintro _ f k7 x ⟨yv,rfl,hy⟩ a;obtain⟨yk,yc,k8,rfl,b⟩:=hy.open;dsimp only at b hy;simp only[vI,ex];refine dM a λb0 k9 a=>?_;refine aP 0 b.keys.one b.kids.one a rfl λj1 a=>?_;have a:cH M.A w j1 [obE b0 y yk yc,obE E G O P,obE D F fk fc,obE k ob0 cO cO,obE j o vk vc,.mem f]:=a;simp only[eF];by_cases he:e=0
  case neg=>
   rw[asU he] at c;simp only[atA (show e≠0 from he),i_t];rw[iV a 4 rfl];refine aP 3 ha.keys.one ha.kids.one a rfl λb1 a=>?_;exact fH (bJ (a.agg 3 rfl kE)) (hK _ _ f _ 5 a rfl (d.trans x) (by rw[c];exact hv.le (d.trans x)))
  rw[asT (λh=>h he)] at c;simp only[asZ (show ¬e≠0 fromλh=>h he),i_f];rw[iV a 0 rfl];refine aP 4 b.keys.one b.kids.one a rfl λb1 a=>?_;have a:cH M.A w b1 [obE b0 y yk yc,obE E G O P,obE D F fk fc,obE k ob0 cO cO,obE j y yk yc,.mem f]:=a;refine e3 _ _ λ_=>?_;simp only[iS,nz];refine join λJ6 Q=>?_;by_cases b2:Ff.odd qs=au
  ·rw[asU b2] at c;simp only[b2,i_f];refine Q _ _ λ_=>?_;simp only[fA,nz];rw[iV a 4 rfl];refine aP 3 b.keys.one b.kids.one a rfl λe4 a=>?_;exact fH (bJ (a.agg 3 rfl kE)) (hK _ _ f _ 5 a rfl (d.trans x) (by rw[c];exact hy))
  rw[asT b2] at c;simp only[show Ff.odd qs=av by cases h:Ff.odd qs<;>simp_all,i_t];rw[iV a 4 rfl,iV a 1 rfl];refine bG a 5 rfl (TA y G _ _ Ff.bW f b1 om om om (a.hasM 5 rfl) hy (s.le x)) ?_;generalize Vl.set y Ff.bW G=R at c;obtain⟨z,e2⟩:=R;dsimp only at c;rintro _ N3 l6 l3 ⟨zv,rfl,hz⟩ a;obtain⟨zk,zc,l7,rfl,g⟩:=hz.open;dsimp only at g hz;simp only[vI,ex];refine dM a λj2 l8 a=>?_;refine aP 0 g.keys.one g.kids.one a rfl λj3 a=>?_;have a:cH M.A w j3 [obE j2 z zk zc,obE b0 y yk yc,obE E G O P,obE D F fk fc,obE k ob0 cO cO,obE j y yk yc,.mem N3]:=a;simp only[eF];by_cases S:e2=0
  case neg=>
   rw[asU S] at c;simp only[atA (show e2≠0 from S),i_t];rw[iV a 5 rfl];refine aP 4 b.keys.one b.kids.one a rfl λj4 a=>?_;exact fH (bJ (a.agg 4 rfl kE)) (hK _ _ N3 _ 6 a rfl ((d.trans x).trans l3) (by rw[c];exact hy.le l3))
  rw[asT (λh=>h S)] at c;simp only[asZ (show ¬e2≠0 fromλh=>h S),i_f];rw[iV a 0 rfl];refine aP 5 g.keys.one g.kids.one a rfl λj4 a=>?_;refine Q _ _ λ_=>?_;simp only[fA,nz];rw[iV a 5 rfl];refine aP 4 g.keys.one g.kids.one a rfl λe4 a=>?_;exact fH (bJ (a.agg 4 rfl kE)) (hK _ _ N3 _ 6 a rfl ((d.trans x).trans l3) (by rw[c];exact hz))
 refine join λJ4 e5=>?_;rw[fS hn];simp only[rs];by_cases h1:ns.length=1
 ·simp only[show ai ((ns.length:Int)=1)=av from atA om,i_t];have b4:(ms.map Ff.bP).length=1:=by rw[atV];omega
  have b5:(qs.map Ff.pmO).length=1:=by rw[atV];omega
  obtain⟨fb,foff,fk,fc,l,p,e6⟩:=afZ B.sl B.all (i:=0) om;obtain⟨db,j6,O,P,m,s,e7⟩:=afZ C.sl C.all (i:=0) om;have ef:(ms.map Ff.bP)[0]'(om)=Ff.alone (ms.map Ff.bP):=by unfold Ff.alone;rw[asU b4,atD,atI om,awW]
  have eq:(qs.map Ff.pmO)[0]'(om)=Ff.alone (qs.map Ff.pmO):=by unfold Ff.alone;rw[asU b5,atD,atI om,awW]
  rw[ef] at p e6;rw[eq] at s e7;have l:=l w9;rw[show ((0:Nat):Int)=0 from rfl] at l;rw[aC l,Jn (AtV.agg kE (cs:=obC (Ff.alone (ms.map Ff.bP)) fk fc) rfl (e6 w9 (a.hasM 4 rfl)))];refine aP (o':=Ff.alone (ms.map Ff.bP)) 1 p.oneK p.oneC a rfl λL a=>?_;have m:=m L;rw[show ((0:Nat):Int)=0 from rfl] at m;rw[aC m,Jn (AtV.agg kE (cs:=obC (Ff.alone (qs.map Ff.pmO)) O P) rfl (e7 L (a.hasM 4 rfl)))];refine aP (o':=Ff.alone (qs.map Ff.pmO)) 0 s.oneK s.oneC a rfl λa7 a=>?_;refine e5 _ _ λ_=>?_;exact two a7 fk fc O P p s a
 ·simp only[show ai ((ns.length:Int)=1)=au from asZ om,i_f];refine e5 _ _ λ_=>?_;have b4:(ms.map Ff.bP).length≠1:=by rw[atV];omega
  have b5:(qs.map Ff.pmO).length≠1:=by rw[atV];omega
  have ef:Ff.alone (ms.map Ff.bP)=.mk 6 0 0 [] [] (ms.map Ff.bP):=by unfold Ff.alone;rw[asT b4]
  have eq:Ff.alone (qs.map Ff.pmO)=.mk 6 0 0 [] [] (qs.map Ff.pmO):=by unfold Ff.alone;rw[asT b5]
  refine two w9 cO _ cO _ ?_ ?_ (by rw[ef,eq];exact a)
  ·rw[ef];exact rE.ov (o:=.mk 6 0 0 [] [] (ms.map Ff.bP)) ⟨SlA.nil _ _ _ _,B.sl,B.all⟩
  ·rw[eq];exact rE.ov (o:=.mk 6 0 0 [] [] (qs.map Ff.pmO)) ⟨SlA.nil _ _ _ _,C.sl,C.all⟩
end
section
open Eng
def nJ(t0 t1 w)(K:KT):=nz f76 1 [] [] [] (zg [0,1] [t0,t1]) w K
theorem xJ:nJ t0 t1 w k0->Calls ah 76 #[t0,t1] w k0:=cw func76
def pM(t0 t1 w)(K:KT):=nz f27 1 [] [] [] (zg [0,1] [t0,t1]) w K
theorem yS:pM t0 t1 w k0->Calls ah 27 #[t0,t1] w k0:=cw func27
end
section
open Eng Go.RowKit
theorem aqE {s:List UInt8}{a b:aq}{ks:List (List UInt8)}(c:a.oneCell'=av)(d:b.oneCell'=av):DoX ah (aW 25 #[(0,ad 9),(3,ae s),(4,a),(5,b)]) w PK K=K (obV (.mk 9 0 0 s ks os) a b) w:=by
 cases a<;>first|(cases c;done)|skip
 all_goals cases b<;>first|(cases d;done)|exact aC krx
theorem PR (o:Ob)(v:aq)(data:List UInt8)(M:Mem)(w:ao)(i:o.k=7)(j:Vl.check 1 o=0)(hd:data.length<=1048576)(hw:o.wt<=1000000000)(D:M.has w)(l:OV M.A M.w v o) :
  jJ ah 76 #[v,ae data] M w (λr N=>∃v',r=vI v' 0∧OV N.A N.w v' (Bd.Cg o data)):=by
 obtain⟨vk,vc,cs,rfl,E⟩:=l.open;have m:Vl.keyed o=true:=by simp[Vl.keyed,i]
 obtain⟨_,hlen⟩:=Vl.gQ j m;refine aU D λK I=>xJ ?_;unfold nJ nz;refine eI o E.keys.one E.kids.one (cH.memS D) λJ W a=>?_;refine dM a λL w2 a=>?_;rw[eO,sA a 1 rfl];simp only[rs,i,show ai ((7:Int)≠7)=au by decide,i_f];rw[iV a 1 rfl];refine aJ a (R:=λv=>v=ad (Vl.check 1 o)) (iK o _ w2 (OV.inw (a.hasM 2 rfl) l) om) ?_;rintro _ w3 rfl a;simp only[j,eF,show ai ((0:Int)≠0)=au by decide,i_f];rw[iV a 1 rfl];refine bG a 2 rfl (tH o _ Vl.qF M w3 om (a.hasM 2 rfl) l hlen) λy N X hle O a=>?_;have p:=Bd.Hq (data:=data) j i hd;have P:=Vl.fQ o Vl.qF;have c:Bd.Cg o data=.mk 9 (Vl.aM o Vl.qF).n (Vl.aM o Vl.qF).g data (Vl.aM o Vl.qF).keys (Vl.aM o Vl.qF).kids:=rfl;have e:(Vl.aM o Vl.qF).n=0∧(Vl.aM o Vl.qF).g=0:=by
  obtain⟨⟨_,a2,_⟩,_⟩:=Vl.fU.1 j;unfold Vl.gB at a2;rw[i] at a2;simp[Vl.used] at a2;exact⟨a2.1.1,a2.1.2⟩
 rw[e.1,e.2] at c;generalize Vl.aM o Vl.qF=x at *;obtain⟨q,u,z,rfl,b⟩:=O.open;refine dM a λQ Y a=>?_;refine aP 0 b.keys.one b.kids.one a rfl λF a=>?_;rw[lE,eN a 0 rfl,jL,cX a 0 rfl,aqE (ks:=x.keys) (os:=x.kids) b.keys.one b.kids.one];have a:cH M.A w F [obE Q x q u,obE L ob0 cO cO,obE J o vk vc,.mem N]:=a;have B:OV N.A N.w (obV (.mk 9 0 0 data x.keys x.kids) q u) (Bd.Cg o data):=by
  rw[c];exact rE.ov (o:=.mk 9 0 0 data x.keys x.kids) (vk:=q) (vc:=u) (cs:=z) ⟨b.keys,b.kids,b.all⟩
 have C:(Bd.Cg o data).wt<=100000000000:=by
  have G:=Vl.oK (Bd.Cg o data);have S:=Vl.oK x;rw[c] at G ⊢;simp only[Ob.s,Ob.keys,Ob.kids] at G S ⊢;omega
 refine bG a 3 rfl (G8 _ _ N F C (a.hasM 3 rfl) B) ?_;rintro _ T Z f ⟨t,rfl,H⟩ a;have h:Vl.right (Bd.Cg o data)=(Bd.Cg o data,0):=by unfold Vl.right;rw[asT (by simp[p])]
 rw[h] at H;obtain⟨tk,tc,U,rfl,d⟩:=H.open;simp only[vI,ex,h];refine aP 1 d.keys.one d.kids.one a rfl λV a=>?_;exact bX 1 a rfl (I _ _ T _ 3 a rfl (hle.trans f) ⟨_,rfl,d.ov⟩)
theorem Mt (o:Ob)(v:aq)(data:List UInt8)(M:Mem)(w:ao)(hd:data.length<=1048576)(hw:o.wt<=1000000000)(C:M.has w)(G:OV M.A M.w v o) :
  jJ ah 27 #[v,ae data] M w (λr N=>∃v',r=vI v' (Ff.plain o data).2∧OV N.A N.w v' (Ff.plain o data).1):=by
 obtain⟨vk,vc,cs,rfl,e⟩:=G.open;refine aU C λK p=>yS ?_;generalize b:Ff.plain o data=X at p;unfold Ff.plain at b;unfold pM nz;refine eI o e.keys.one e.kids.one (cH.memS C) λH w1 a=>?_;refine dM a λI w2 a=>?_;rw[eO,sA a 1 rfl];simp only[rs];have f:OV M.A M.w (obV (Ff.kS o) vk vc) (Ff.kS o):=rE.ov (o:=Ff.kS o) (vk:=vk) (vc:=vc) (cs:=cs) ⟨e.keys,e.kids,e.all⟩;by_cases l:o.k≠9∧o.k≠7
 ·rw[asU l] at b;simp only[atA (show o.k≠9 from l.1),rs];rw[eO,sA a 1 rfl];simp only[rs,atA (show o.k≠7 from l.2),i_t];rw[sR];refine aP 0 rfl rfl a rfl λJ a=>?_;exact bX 0 a rfl (p _ _ M _ 2 a rfl M.le_refl ⟨obV Vl.ob0 cO cO,by rw[<-b];rfl,by rw[<-b];exact jD M⟩)
 rw[asT l] at b;by_cases s:o.k=9
 case' pos=>
  simp only[asZ (show ¬o.k≠9 fromλh=>h s),rs,nE,i_f]
 case' neg=>
  have L:o.k=7:=ayL.1 λh=>l ⟨s,h⟩;simp only[atA (show o.k≠9 from s),rs];rw[eO,sA a 1 rfl];simp only[rs,asZ (show ¬o.k≠7 fromλh=>h L),i_f]
 all_goals
  rw[iV a 1 rfl];refine dM a λO w3 a=>?_;refine aP 0 e.keys.one e.kids.one a rfl λJ a=>?_;rw[eO];refine aN 0 a rfl krx rfl (show 0 < 6 by omega) λw5 a=>?_;rw[Dn];refine aN 0 a rfl krx rfl (show 0+3 < 6 by omega) λD a=>?_;have a:cH M.A w D [obE O (Ff.kS o) vk vc,obE I ob0 cO cO,obE H o vk vc,.mem M]:=a;have u:=Ff.Nc o;have P:Bd.Cg (Ff.bare o) data=Bd.Cg (Vl.aM (Vl.aM (Ff.kS o) Ff.aQ) Ff.bW) data:=rfl;have q:(Ff.kS o).k=7:=rfl;rw[P] at b;generalize Ff.kS o=d at b u a f q;rw[iV a 0 rfl];refine aJ a (R:=λv=>v=ad (Vl.check 1 d)) (iK d _ D (OV.inw (a.hasM 3 rfl) f) om) ?_;rintro _ Q rfl a;simp only[eF];by_cases j:Vl.check 1 d=0
  case neg=>
   rw[asU j] at b;simp only[atA (show Vl.check 1 d≠0 from j),i_t];rw[sR];refine aP 1 rfl rfl a rfl λE a=>?_;exact bX 1 a rfl (p _ _ M _ 3 a rfl M.le_refl ⟨obV Vl.ob0 cO cO,by rw[<-b];rfl,by rw[<-b];exact jD M⟩)
  rw[asT (λh=>h j)] at b;simp only[j,show ai ((0:Int)≠0)=au from rfl,i_f];rw[iV a 0 rfl];refine bG a 3 rfl (MK d _ Ff.aQ M Q q j om (a.hasM 3 rfl) f) λy1 N1 E S x a=>?_;have m:=Vl.eZ (key:=Ff.aQ) j (by simp[Vl.keyed,q]);have g:(Vl.aM d Ff.aQ).k=7:=q;have T:=Vl.fQ d Ff.aQ;generalize Vl.aM d Ff.aQ=d1 at *;refine bG a 3 rfl (MK d1 _ Ff.bW N1 E g m om (a.hasM 3 rfl) x) λy2 U w9 V n a=>?_;have y:=Vl.eZ (key:=Ff.bW) m (by simp[Vl.keyed,g]);have z:(Vl.aM d1 Ff.bW).k=7:=g;have W:=Vl.fQ d1 Ff.bW;generalize Vl.aM d1 Ff.bW=d2 at *;obtain⟨Y,Z,F,rfl,c⟩:=n.open;refine aP 0 c.keys.one c.kids.one a rfl λB a=>?_;rw[iV a 0 rfl];refine bG a 3 rfl (PR d2 _ data U B z y hd om (a.hasM 3 rfl) n) ?_;rintro _ N3 a1 l3 ⟨t,rfl,ht⟩ a;obtain⟨tk,tc,a6,rfl,i⟩:=ht.open;simp only[vI,ex];refine aP 1 i.keys.one i.kids.one a rfl λa7 a=>?_;exact bX 1 a rfl (p _ _ N3 _ 3 a rfl ((S.trans V).trans l3) ⟨_,by rw[<-b];rfl,by rw[<-b];exact i.ov⟩)
end
section
open Eng
def pP(t0 w)(K:KT):=nz f11 1 [] [] [] (zg [0] [t0]) w K
theorem yB:pP t0 w k0->Calls ah 11 #[t0] w k0:=cw func11
def pO(w)(K:KT):=
 dx (aT 22 1 #[(0,(.string ⟨#[70,105,108,116,101,114]⟩))]) w K λC w=>cx 51 #[(.string ⟨#[65,72,120]⟩)] w K λD w=>cx 51 #[(.string ⟨#[70,108]⟩)] w K λF w=>dx (aT 23 2 #[(0,D),(1,F)]) w K λG w=>cx 50 #[G] w K λH w=>dx (aT 23 1 #[(0,H)]) w K λI w=>dx (aW 25 #[(0,(iN 9)),(4,C),(5,I)]) w K λL w=>alx 25 w K λv w=>stx 25 v L w K λ_ w=>ldx 25 v w K λM w=>cx 28 #[M] w K λg w=>exx g 0 w K λO w=>exx g 1 w K λh w=>exx g 2 w K λP w=>dx (aW 27 #[(0,(iN 1)),(1,(iN 1)),(2,(iN 1))]) w K λQ w=>alx 27 w K λa w=>stx 27 a Q w K λ_ w=>ldx 27 a w K λR w=>cx 17 #[(.string ⟨#[65,72,120]⟩),R,(.string ⟨#[74]⟩)] w K λx w=>exx x 0 w K λS w=>exx x 1 w K λT w=>ldx 27 a w K λU w=>cx 15 #[(.string ⟨#[65,83,67,73,73,72,101,120,68,101,99,111,100,101]⟩),U,(.string ⟨#[52,97,62]⟩)] w K λy w=>exx y 0 w K λV w=>exx y 1 w K λW w=>ldx 27 a w K λX w=>cx 15 #[(.string ⟨#[76,90,87,68,101,99,111,100,101]⟩),X,(.string ⟨#[]⟩)] w K λz w=>exx z 0 w K λt46 w=>exx z 1 w K λY w=>dx (aW 25 #[(0,(iN 7))]) w K λZ w=>dx (aT 22 2 #[(0,(.string ⟨#[82,76]⟩)),(1,(.string ⟨#[65,72,120]⟩))]) w K λt50 w=>cx 22 #[Z,t50,(.slice aw 0 0),(.string ⟨#[74]⟩)] w K λA w=>exx A 0 w K λt52 w=>exx A 1 w K λt53 w=>alx 25 w K λi w=>stx 25 i t52 w K λ_ w=>ldx 25 i w K λt55 w=>cx 13 #[t55] w K λB w=>exx B 0 w K λt57 w=>exx B 1 w K λt58 w=>dx (aW 25 #[]) w K λt60 w=>cx 28 #[t60] w K λj w=>exx j 0 w K λt62 w=>exx j 1 w K λt63 w=>exx j 2 w K λt64 w=>Au w (λS1 w=>dZ ah 52 #[(.string ⟨#[65,56,53]⟩)] w (ay 72 (pk K)) λk w=>S1 w∧(GDo k av (λE=>dZ ah 52 #[(.string ⟨#[76,90,87]⟩)] w (ay 72 (pk K)) E) w λt67 w=>S1 w∧(GQ k av (λE=>HDo ah S1 (mUn .not t67) E) λt68=>HDo ah S1 (cW k t68 (.bool au)) λl=>GQ l av (λE=>E P) λt71=>GQ l av (λE=>HDo ah S1 (mEq .eql 30 (.tmp 71) (.const (iN 0)) t71 (iN 0)) E) λt72=>HDo ah S1 (cW l t72 (.bool au)) λe=>GQ e av (λE=>E O) λt75=>GDo e av (λE=>DoX ah (aT 22 2 #[(0,(.string ⟨#[65,83,67,73,73,72,101,120,68,101,99,111,100,101]⟩)),(1,(.string ⟨#[70,108,97,116,101,68,101,99,111,100,101]⟩))]) w (ay 72 (pk K)) E) w λt76 w=>S1 w∧(GDo e av (λE=>dZ ah 45 #[t75,t76] w (ay 72 (pk K)) E) w λt77 w=>S1 w∧(HDo ah S1 (cW e t77 (.bool au)) λf=>GQ f av (λE=>E h) λt80=>GQ f av (λE=>HDo ah S1 (mB .len #[40] 3 #[au] #[t80]) E) λt81=>GQ f av (λE=>HDo ah S1 (mEq .eql 3 (.tmp 81) (.const (iN 2)) t81 (iN 2)) E) λt82=>HDo ah S1 (cW f t82 (.bool au)) λb=>GQ b av (λE=>E h) λt85=>GQ b av (λE=>HDo ah S1 (mIA 40 t85 (iN 0)) E) λt86=>GQ b av (λE=>HDo ah S1 (aK 27 t86) E) λt87=>GQ b av (λE=>HDo ah S1 (aK 27 a) E) λt88=>GQ b av (λE=>HDo ah S1 (mEq .eql 27 (.tmp 87) (.tmp 88) t87 t88) E) λt89=>HDo ah S1 (cW b t89 (.bool au)) λc=>GQ c av (λE=>E h) λt92=>GQ c av (λE=>HDo ah S1 (mIA 40 t92 (iN 1)) E) λt93=>GQ c av (λE=>HDo ah S1 (aK 27 t93) E) λt94=>GQ c av (λE=>HDo ah S1 (aK 27 a) E) λt95=>GQ c av (λE=>HDo ah S1 (mEq .eql 27 (.tmp 94) (.tmp 95) t94 t95) E) λt96=>HDo ah S1 (cW c t96 (.bool au)) λm=>GQ m av (λE=>E S) λt99=>GQ m av (λE=>HDo ah S1 (mEq .eql 9 (.tmp 99) (.const (.string ⟨#[52,65,62]⟩)) t99 (.string ⟨#[52,65,62]⟩)) E) λt100=>HDo ah S1 (cW m t100 (.bool au)) λn=>GQ n av (λE=>E T) λt103=>GQ n av (λE=>HDo ah S1 (mEq .eql 30 (.tmp 103) (.const (iN 0)) t103 (iN 0)) E) λt104=>HDo ah S1 (cW n t104 (.bool au)) λo=>GQ o av (λE=>E V) λt107=>GQ o av (λE=>HDo ah S1 (mEq .eql 9 (.tmp 107) (.const (.string ⟨#[74]⟩)) t107 (.string ⟨#[74]⟩)) E) λt108=>HDo ah S1 (cW o t108 (.bool au)) λp=>GQ p av (λE=>E W) λt111=>GQ p av (λE=>HDo ah S1 (mEq .eql 30 (.tmp 111) (.const (iN 0)) t111 (iN 0)) E) λt112=>HDo ah S1 (cW p t112 (.bool au)) λq=>GQ q av (λE=>E Y) λt115=>GQ q av (λE=>HDo ah S1 (mEq .eql 30 (.tmp 115) (.const (iN 15)) t115 (iN 15)) E) λt116=>HDo ah S1 (cW q t116 (.bool au)) λr=>GQ r av (λE=>E t53) λt119=>GQ r av (λE=>HDo ah S1 (mEq .eql 30 (.tmp 119) (.const (iN 0)) t119 (iN 0)) E) λt120=>HDo ah S1 (cW r t120 (.bool au)) λd=>GQ d av (λE=>HDo ah S1 (mFA 25 i 4) E) λt123=>GQ d av (λE=>HDo ah S1 (aK 22 t123) E) λt124=>GQ d av (λE=>HDo ah S1 (mB .len #[22] 3 #[au] #[t124]) E) λt125=>GQ d av (λE=>HDo ah S1 (mEq .eql 3 (.tmp 125) (.const (iN 1)) t125 (iN 1)) E) λt126=>HDo ah S1 (cW d t126 (.bool au)) λs=>GQ s av (λE=>E t57) λt129=>GQ s av (λE=>HDo ah S1 (mEq .eql 9 (.tmp 129) (.const (.string ⟨#[74]⟩)) t129 (.string ⟨#[74]⟩)) E) λt130=>HDo ah S1 (cW s t130 (.bool au)) λt=>GQ t av (λE=>E t58) λt133=>GQ t av (λE=>HDo ah S1 (mEq .eql 30 (.tmp 133) (.const (iN 0)) t133 (iN 0)) E) λt134=>HDo ah S1 (cW t t134 (.bool au)) λu=>GQ u av (λE=>E t64) λt137=>GQ u av (λE=>HDo ah S1 (mEq .eql 30 (.tmp 137) (.const (iN 10)) t137 (iN 10)) E) λt138=>HDo ah S1 (cW u t138 (.bool au)) λt139=>K (.returned t139) w)))))
theorem yK:pO w k0->Calls ah 12 #[] w k0:=cw func12
def nZ(t0 t3 w)(N1:JT)(K:KT):=nz f26 21 [N1] [nh 5 [3]] [] (zg [0,3] [t0,t3]) w K
def rU(t0 w)(K:KT):=nz f26 1 [] [(5,[3],λs v j w f=>nZ (s 0) (vg v 0) w (f 0) K)] [] (zg [0] [t0]) w K
theorem AH:rU t0 w k0->Calls ah 26 #[t0] w k0:=cz [] [(2,[3])] func26
def gD(t3 t12 t13 t17 w)(a:JT)(K:KT):=nz f5 11263 [a] [nh 37 [17]] [(20,30)] (zg [3,12,13,17] [t3,t12,t13,t17]) w K
def gX(z A w)(K:KT):=
 dx (Hr 25 z) w K λe w=>dx (Hr 42 A) w K λa w=>ldx 25 e w K λB w=>cx 11 #[B] w K λC w=>dx (mUn .not C) w K λf w=>gfx f (mFA 42 a 2) w K λD w=>gfx f (aK 9 D) w K λF w=>gfx f (mB .len #[9] 3 #[au] #[F]) w K λG w=>gfx f (iA .gtr 3 G (iN 200)) w K λH w=>dx (cW f (.bool av) H) w K λg w=>gfx g (mFA 42 a 0) w K λI w=>gfx g (aK 22 I) w K λL w=>gfx g (mB .len #[22] 3 #[au] #[L]) w K λM w=>gfx g (iA .gtr 3 M (iN 20)) w K λO w=>dx (cW g (.bool av) O) w K λh w=>gfx h (mFA 42 a 1) w K λP w=>gfx h (aK 40 P) w K λQ w=>gfx h (mB .len #[40] 3 #[au] #[Q]) w K λR w=>gfx h (iA .gtr 3 R (iN 20)) w K λS w=>dx (cW h (.bool av) S) w K λT w=>IfX T (cx 12 #[] w K λU w=>K (.returned U) w) (ldx 25 e w K λV w=>fax 42 a 0 w K λW w=>ldx 22 W w K λX w=>fax 42 a 1 w K λY w=>ldx 40 Y w K λZ w=>fax 42 a 2 w K λt46 w=>ldx 9 t46 w K λt47 w=>cx 22 #[V,X,Z,t47] w K λp w=>exx p 0 w K λt49 w=>exx p 1 w K λl w=>alx 25 w K λc w=>stx 25 c t49 w K λ_ w=>ldx 25 e w K λt51 w=>fax 42 a 0 w K λt52 w=>ldx 22 t52 w K λt53 w=>fax 42 a 1 w K λt54 w=>ldx 40 t54 w K λt55 w=>cx 23 #[t51,t53,t55] w K λq w=>ecx .neq 30 57 0 q w K λt58 w=>IfX t58 (eqx .eql 30 (.tmp 59) (.tmp 60) l q w K λj w=>gtx j (aK 25 c) w K λt63 w=>gtx j (aW 25 #[]) w K λt64 w=>ctx j 24 #[t63,t64] w K λt65 w=>dx (cW j t65 (.bool au)) w K λr w=>ctx r 12 #[] w K λt68 w=>dx (cW r t68 (.bool au)) w K λt69 w=>K (.returned t69) w) (ldx 25 e w K λt71 w=>fax 42 a 0 w K λt72 w=>ldx 22 t72 w K λt73 w=>fax 42 a 1 w K λt74 w=>ldx 40 t74 w K λt75 w=>fax 42 a 2 w K λt76 w=>ldx 9 t76 w K λt77 w=>cx 25 #[t71,t73,t75,t77] w K λs w=>exx s 0 w K λt79 w=>exx s 1 w K λt80 w=>alx 25 w K λt8 w=>stx 25 t8 t79 w K λ_ w=>fax 42 a 0 w K λt81 w=>ldx 22 t81 w K λt82 w=>cx 26 #[t82] w K λk w=>etx k l w λt85 w=>etx k t80 w λt86 w=>gtx k (mEq .neq 30 (.tmp 85) (.tmp 86) t85 t86) w K λt87 w=>dx (cW k t87 (.bool au)) w K λt88 w=>IfX t88 (K (.returned (.bool au)) w) (ecx .neq 30 89 0 l w K λt90 w=>IfX t90 (ldx 25 c w K λt91 w=>dx (aW 25 #[]) w K λt92 w=>cx 24 #[t91,t92] w K λt w=>ctx t 12 #[] w K λt95 w=>dx (cW t t95 (.bool au)) w K λt96 w=>K (.returned t96) w) (ldx 25 e w K λt98 w=>fax 25 c 3 w K λt99 w=>ldx 9 t99 w K λt100 w=>cx 27 #[t98,t100] w K λu w=>exx u 0 w K λt102 w=>exx u 1 w K λt103 w=>alx 25 w K λv w=>stx 25 v t102 w K λ_ w=>ldx 25 c w K λt105 w=>cx 28 #[t105] w K λm w=>exx m 0 w K λx w=>exx m 1 w K λt108 w=>exx m 2 w K λt109 w=>ldx 25 c w K λt111 w=>cx 13 #[t111] w K λy w=>exx y 0 w K λt113 w=>exx y 1 w K λt114 w=>Au w (λS1 w=>HDo ah S1 (mEq .neq 30 (.tmp 115) (.const (iN 0)) t103 (iN 0)) λn=>GQ n au (λE=>E t109) λt118=>GQ n au (λE=>HDo ah S1 (mEq .neq 30 (.tmp 118) (.const (iN 0)) t118 (iN 0)) E) λt119=>HDo ah S1 (cW n (.bool av) t119) λo=>GQ o au (λE=>E t114) λt122=>GQ o au (λE=>HDo ah S1 (mEq .neq 30 (.tmp 122) (.const (iN 0)) t122 (iN 0)) E) λt123=>HDo ah S1 (cW o (.bool av) t123) λi=>GQ i au (λE=>E t113) λt126=>GQ i au (λE=>HDo ah S1 (mFA 42 a 2) E) λt127=>GQ i au (λE=>HDo ah S1 (aK 9 t127) E) λt128=>GQ i au (λE=>HDo ah S1 (mEq .neq 9 (.tmp 126) (.tmp 128) t126 t128) E) λt129=>HDo ah S1 (cW i (.bool av) t129) λd=>GQ d au (λE=>E x) λt132=>GQ d au (λE=>HDo ah S1 (mB .len #[22] 3 #[au] #[t132]) E) λt133=>GQ d au (λE=>HDo ah S1 (mFA 42 a 0) E) λt134=>GQ d au (λE=>HDo ah S1 (aK 22 t134) E) λt135=>GQ d au (λE=>HDo ah S1 (mB .len #[22] 3 #[au] #[t135]) E) λt136=>GQ d au (λE=>HDo ah S1 (mEq .neq 3 (.tmp 133) (.tmp 136) t133 t136) E) λt137=>HDo ah S1 (cW d (.bool av) t137) λb=>GQ b au (λE=>HDo ah S1 (aK 25 c) E) λt140=>GQ b au (λE=>HDo ah S1 (aK 25 v) E) λt141=>GQ b au (λE=>HDo ah S1 (mFA 42 a 0) E) λt142=>GQ b au (λE=>HDo ah S1 (aK 22 t142) E) λt143=>GQ b au (λE=>HDo ah S1 (mFA 42 a 1) E) λt144=>GQ b au (λE=>HDo ah S1 (aK 40 t144) E) λt145=>GDo b au (λE=>dZ ah 29 #[t141,t143,t145] w (ay 33 (pk K)) E) w λt146 w=>S1 w∧(GDo b au (λE=>dZ ah 24 #[t140,t146] w (ay 33 (pk K)) E) w λt147 w=>S1 w∧(GQ b au (λE=>HDo ah S1 (mUn .not t147) E) λt148=>HDo ah S1 (cW b (.bool av) t148) λt149=>IfX t149 (K (.returned (.bool au)) w) (Ax [(iN 0)] w (λJ w N=>∀_:Sg,gD a x t108 (J.getD 0 undef) w N K)))))))))
theorem mR:gX t0 t1 w k0->Calls ah 5 #[t0,t1] w k0:=cz [] [(18,[17])] func5
end
section
open Eng Go.RowKit
namespace Ff
def smpA:Ob:=.mk 6 0 0 [] [] [ob1 5 0 0 [65,72,120],ob1 5 0 0 [70,108]]
def MN:Ob:=.mk 9 0 0 [] [aQ] [smpA]
def smpD:Ob:=.mk 7 0 0 [] [] []
def NH:Ob:=.mk 9 0 0 [2,52,65,62,128] [aQ] [.mk 6 0 0 [] [] [bP nRL,bP nHx]]
theorem aeO:of MN=([nHx,nFl],[bK,bK],0):=krx
theorem alU:of Vl.ob0=([],[],10):=krx
theorem afS:oneA [65,72,120] [74]=[52,65,62]:=krx
theorem ZD:Hh nHx bK [52,97,62]=([74],0):=krx
theorem Z5:Hh [76,90,87,68,101,99,111,100,101] bK []=([],15):=krx
theorem agY:Eu smpD [nRL,nHx] [bK,bK] (fP nRL (fP nHx [74]))=(NH,0):=krx
theorem L6 {n s t:List UInt8}{p:Pm}{e:Int}(h:M9 n p s t e)(a:full n≠[])(b:full n≠nFl):t=fP n s∧e=0:=by
 unfold M9 at h;rw[asT a,asT b] at h;exact h
theorem Zq {Y:Ob}{e:Int}(h:Oz smpD [[82,76],[65,72,120]] [] [74] Y e):Y=NH∧e=0:=by
 unfold Oz at h;rw[asT dc,asT dc] at h;obtain⟨D,a,b,h⟩:=h;have b:Mn [nRL,nHx] [bK,bK] [74] D a:=b;obtain⟨u,f,⟨g,i,⟨rfl,rfl⟩,c⟩,d⟩:=b;rw[asT dc] at c;obtain⟨rfl,rfl⟩:=L6 c dc dc;rw[asT dc] at d;obtain⟨rfl,rfl⟩:=L6 d dc dc;rw[asT dc] at h;have a:Eu smpD ([[82,76],[65,72,120]].map full) (oP [[82,76],[65,72,120]] []) (fP nRL (fP nHx [74]))=(NH,0):=agY;rw[a] at h;exact h
theorem afU:decode NH=([74],0):=krx
theorem Zk:∀x∈(of NH).2.1,x.p=1:=by
 have e:(of NH).2.1=[bK,bK]:=krx
 rw[e];intro x b;rw[awF (n:=2) (a:=bK) b];rfl
end Ff
theorem Wt {T:TypeId}{a:List UInt8}:(mEq .eql T xo yo (ae a) (ae a)).run ah w=.ok (.value (.bool av)) w:=by
 refine bQ ?_;simp[eqGuard,binOp,Op.stringOp,gN]
section
variable {S:Nat->Prop}{w0 w:ao}{L:List Ent}
theorem K1 {n:Nat}{T:TypeId}(g:cs.length=n*sz)(q:0 < n)(f:cH S w0 w (.cells b cs T::L))(i:Nat)(hi:L[i]?=ax (.mem M)) :
  ∃N:Mem,M.le N∧SlA N.A N.w (bR b 0 n n) sz n cs∧cH S w0 w (L.set i (.mem N)):=by
 have h:=f.sl 0 rfl sz n n g;obtain⟨N,j,k,m,o⟩:=f.freeze i hi;refine⟨N,j,⟨?_,λp l c e _=>?_,λa l c e=>?_⟩,o⟩
 ·rw[k];exact h
 ·injection e with d _ _
  injection d with d
  rw[<-d];exact m b rfl
 ·injection e with _ r s
  omega
end
theorem Qw :(mEq .eql 30 xo yo (ad a) (ad a)).run ah w=.ok (.value (.bool av)) w:=bQ (by simp[eqGuard,binOp,Op.intCmp])
theorem anQ :(mEq .eql 3 xo yo (ad a) (ad a)).run ah w=.ok (.value (.bool av)) w:=bQ (by simp[eqGuard,binOp,Op.intCmp])
theorem Dd {a b:aq}:(cW (.bool av) a b).run ah w=.ok (.value a) w:=by simp[cW,asBool]
theorem asH {a b:Option Addr}{n n2 c d:Nat}{ks:List (List UInt8)}:DoX ah (aW 25 #[(0,ad 9),(4,.slice a n c),(5,.slice b n2 d)]) w PK K=K (obV (.mk 9 0 0 [] ks os) (.slice a n c) (.slice b n2 d)) w:=aC krx
theorem Q9 (M:Mem)(w:ao)(z:Rp M)(B:Od M)(s:Pws M)(hM:M.has w):jJ ah 12 #[] M w (λr _=>r=.bool av):=by
 refine aU hM λK hK=>yK ?_;unfold pO iN dx ldx exx stx alx cx;have c:cH M.A w w [.mem M]:=cH.memS hM
 -- c0 X
 refine bI (λb=>bR b 0 1 1) (bF [Ff.aQ]) 9 (λ_=>by kernel_rfl) c λd w1 c=>?_;obtain⟨N1,l1,a1,c⟩:=K1 (sz:=1) (n:=1) rfl dc c 0 rfl;refine aJ c (Hb [65,72,120] w1) ?_;rintro _ w2 rfl c;refine aJ c (Hb [70,108] w2) ?_;rintro _ w3 rfl c;refine bI (λb=>bR b 0 2 2) (nmC [65,72,120]++nmC [70,108]) 25 (λ_=>by kernel_rfl) c λt w4 c=>?_;obtain⟨G,l2,a6,c⟩:=K1 (sz:=6) (n:=2) rfl dc c 0 rfl;have C:OVs G.A G.w (nmC [65,72,120]++nmC [70,108]) [ob1 5 0 0 [65,72,120],ob1 5 0 0 [70,108]]:=by
  have:=Oe (A:=G.A) (W:=G.w) [[65,72,120],[70,108]];exact this
 refine aJ c (G4 (ax ⟨t,0,aw⟩) 2 2 [ob1 5 0 0 [65,72,120],ob1 5 0 0 [70,108]] w4) ?_;rintro _ w5 rfl c;have hA:OV G.A G.w (obV Ff.smpA cO (bR t 0 2 2)) Ff.smpA:=rE.ov (o:=Ff.smpA) (vk:=cO) (cs:=nmC [65,72,120]++nmC [70,108]) ⟨SlA.nil _ _ _ _,a6,C⟩;refine Ga Ff.smpA (vk:=cO) (vc:=bR t 0 2 2) rfl rfl c λf w6 c=>?_;obtain⟨N3,l3,a7,a8,c⟩:=Qn c 0 rfl hA;rw[asH (ks:=[Ff.aQ]) (os:=[Ff.smpA])];have h1:OV N3.A N3.w (obV Ff.MN (bR d 0 1 1) (bR f 0 1 1)) Ff.MN:=rE.ov (o:=Ff.MN) (cs:=obC Ff.smpA cO (bR t 0 2 2)) ⟨(a1.le l2).le l3,a7,a8⟩;refine dM c λH w7 c=>?_;refine aP 0 (o':=Ff.MN) (vk':=bR d 0 1 1) (vc':=bR f 0 1 1) rfl rfl c rfl λw8 c=>?_;rw[iV c 0 rfl];refine bG c 1 rfl (Gx Ff.MN _ N3 w8 dc (c.hasM 1 rfl) h1) ?_;rw[Ff.aeO];rintro _ N4 w9 l4 ⟨vn,vp,rfl,hn,hp⟩ c;simp only[ex,kP (show [vn,vp,Value.int .i64 0][2]?=ax (Value.int .i64 0) from rfl),kP (show [vn,vp,Value.int .i64 0][1]?=ax vp from rfl),kP (show [vn,vp,Value.int .i64 0][0]?=ax vn from rfl)];rw[ahZ];refine YX c λv c1 c=>?_;refine Jq 0 Ff.bK c rfl λI c=>?_;have c:cH M.A w I [pmE v Ff.bK,obE H Ff.MN (bR d 0 1 1) (bR f 0 1 1),.mem N4]:=c;have g:=((l1.trans l2).trans l3).trans l4;rw[I6 c 0 rfl];refine aJ c (VF [65,72,120] Ff.bK [74] I (.inl dc) dc) ?_;rintro _ b0 rfl c;rw[Ff.afS];simp only[zlT,ex];rw[I6 c 0 rfl];refine bG c 2 rfl (TN Ff.nHx Ff.bK (pdR1 rfl) [52,97,62] N4 b0 (z.le g) (B.le g) (s.le g) dc (c.hasM 2 rfl)) ?_;rintro _ N5 b2 l5 ⟨rfl,_⟩ c;rw[Ff.ZD];simp only[zlT,ex];rw[I6 c 0 rfl];have k:=g.trans l5;rw[show (Value.string ⟨#[]⟩)=ae ([]:List UInt8) from rfl];refine bG c 2 rfl (TN [76,90,87,68,101,99,111,100,101] Ff.bK (pdR1 rfl) [] N5 b2 (z.le k) (B.le k) (s.le k) dc (c.hasM 2 rfl)) ?_;rintro _ N6 J l6 ⟨rfl,_⟩ c;rw[Ff.Z5];simp only[zlT,ex];have y:=k.trans l6;refine aC (show (aW 25 #[(0,ad 7)]).run ah J=.ok (.value (obV Ff.smpD cO cO)) J by kernel_rfl) |>.mpr ?_;refine bI (λb=>bR b 0 2 2) (bF [[82,76],[65,72,120]]) 9 (λ_=>by kernel_rfl) c λb3 D c=>?_;have c:cH M.A w D [.cells b3 (bF [[82,76],[65,72,120]]) 9,pmE v Ff.bK,obE H Ff.MN (bR d 0 1 1) (bR f 0 1 1),.mem N6]:=c;obtain⟨Z,l7,b4,c⟩:=K1 (sz:=1) (n:=2) rfl dc c 2 rfl;have c:cH M.A w D [pmE v Ff.bK,obE H Ff.MN (bR d 0 1 1) (bR f 0 1 1),.mem Z]:=c;have hD:OV Z.A Z.w (obV Ff.smpD cO cO) Ff.smpD:=rE.ov (o:=Ff.smpD) (vk:=cO) (vc:=cO) (cs:=[]) ⟨SlA.nil _ _ _ _,SlA.nil _ _ _ _,OVs.nil⟩;refine bG c 2 rfl (HO Ff.smpD _ [[82,76],[65,72,120]] [] _ cO [74] Z D (s.le (y.trans l7)) dc dc dc dc (c.hasM 2 rfl) hD b4 (SlA.nil _ _ _ _)) ?_;rintro _ N8 c2 l8 ⟨xv,Y,e,rfl,hX,hT⟩ c;obtain⟨rfl,rfl⟩:=Ff.Zq hT;obtain⟨xk,L,c3,rfl,E⟩:=hX.open;simp only[vI,ex];refine dM c λp c4 c=>?_;refine aP 0 E.keys.one E.kids.one c rfl λb6 c=>?_;rw[iV c 0 rfl];have l:=(y.trans l7).trans l8;refine bG c 3 rfl (L5 Ff.NH (λx h=>pdR1 (Ff.Zk x h)) _ N8 b6 (z.le l) (B.le l) (s.le l) dc (c.hasM 3 rfl) hX) ?_;rintro _ N9 b7 l9 rfl c;rw[Ff.afU];simp only[zlT,ex];rw[sR];refine bG c 3 rfl (Gx Vl.ob0 _ N9 b7 dc (c.hasM 3 rfl) (jD N9)) ?_;rw[Ff.alU];rintro _ m b8 l10 ⟨zn,zp,rfl,_,_⟩ c;simp only[ex,kP (show [zn,zp,Value.int .i64 10][2]?=ax (Value.int .i64 10) from rfl),kP (show [zn,zp,Value.int .i64 10][1]?=ax zp from rfl),kP (show [zn,zp,Value.int .i64 10][0]?=ax zn from rfl)];have c:cH M.A w b8 [obE p Ff.NH xk L,pmE v Ff.bK,obE H Ff.MN (bR d 0 1 1) (bR f 0 1 1),.mem m]:=c;have N:=(((((hn.le l5).le l6).le l7).le l8).le l9).le l10;have q:=(((((hp.le l5).le l6).le l7).le l8).le l9).le l10;have F:=(l.trans l9).trans l10;obtain⟨pa,pc,rfl,_⟩:=q.form;obtain⟨q0,O,P⟩:=Ow q (i:=0) dc;obtain⟨q1,Q,R⟩:=Ow q (i:=1) dc;obtain⟨S,U,rfl,_⟩:=E.keys.form;have c:=c.drew;refine⟨λW=>(obE p Ff.NH (.slice S 1 U) L).is W∧(pmE v Ff.bK).is W∧m.has W,⟨c.at_ 0 rfl,c.at_ 1 rfl,c.hasM 3 rfl⟩,?_⟩;have hS:∀{W:ao},cH M.A w W [obE p Ff.NH (.slice S 1 U) L,pmE v Ff.bK,obE H Ff.MN (bR d 0 1 1) (bR f 0 1 1),.mem m]->(obE p Ff.NH (.slice S 1 U) L).is W∧(pmE v Ff.bK).is W∧m.has W:=λc=>⟨c.at_ 0 rfl,c.at_ 1 rfl,c.hasM 3 rfl⟩;refine qE (LU [65,56,53] _) ?_;rw[show ai (Ff.full [65,56,53]≠[])=av by decide];refine⟨hS c,?_⟩;simp only[rs];refine qE (LU [76,90,87] _) ?_;rw[show ai (Ff.full [76,90,87]≠[])=au by decide];refine⟨hS c,?_⟩;simp only[gq];refine aI (.bool av) (λ_=>bQ (by simp[Op.unary])) ?_;refine aI (.bool av) (λ_=>Dd) ?_;simp only[gq];refine aI (.bool av) (λ_=>Qw) (aI (.bool av) (λ_=>Dd) ?_)
 try simp only[gq,rs]
 refine bI (λb=>bR b 0 2 2) (bF [Ff.nHx,Ff.nFl]) 9 (λ_=>by kernel_rfl) c λb9 V c=>?_;have c:cH M.A w V ([.cells b9 (bF [Ff.nHx,Ff.nFl]) 9]++[obE p Ff.NH (.slice S 1 U) L,pmE v Ff.bK,obE H Ff.MN (bR d 0 1 1) (bR f 0 1 1),.mem m]):=c;refine⟨hS c.tail,?_⟩
 try simp only[gq,rs]
 refine aJ c (MF vn _ [Ff.nHx,Ff.nFl] [Ff.nHx,Ff.nFl] V (N.now (c.hasM 4 rfl)) (c.sl 0 rfl 1 2 2 rfl) dc) ?_;rintro _ c5 rfl c;refine⟨hS c.tail,?_⟩;rw[atA (show [Ff.nHx,Ff.nFl]=[Ff.nHx,Ff.nFl] from rfl)];refine aI (.bool av) (λ_=>Dd) ?_;simp only[gq];refine aI (ad 2) (λ_=>by kernel_rfl) (aI (.bool av) (λ_=>anQ) (aI (.bool av) (λ_=>Dd) ?_));simp only[gq];refine aI _ O (gJ (pmV Ff.bK) (λW h=>P W h.2.2) (gJ (pmV Ff.bK) (λW h=>bB (AtV.agg Ep (cs:=pmC Ff.bK) rfl λj u hj=>by rw[atK];exact aG (T:=27) h.2.1 hj)) (aI (.bool av) (λ_=>St) (aI (.bool av) (λ_=>Dd) ?_))));simp only[gq];refine aI _ Q (gJ (pmV Ff.bK) (λW h=>R W h.2.2) (gJ (pmV Ff.bK) (λW h=>bB (AtV.agg Ep (cs:=pmC Ff.bK) rfl λj u hj=>by rw[atK];exact aG (T:=27) h.2.1 hj)) (aI (.bool av) (λ_=>St) (aI (.bool av) (λ_=>Dd) ?_))));simp only[gq];refine aI (.bool av) (λ_=>Wt (a:=[52,65,62])) (aI (.bool av) (λ_=>Dd) ?_);simp only[gq];refine aI (.bool av) (λ_=>Qw) (aI (.bool av) (λ_=>Dd) ?_);simp only[gq];refine aI (.bool av) (λ_=>Wt (a:=[74])) (aI (.bool av) (λ_=>Dd) ?_);simp only[gq];refine aI (.bool av) (λ_=>Qw) (aI (.bool av) (λ_=>Dd) ?_);simp only[gq];refine aI (.bool av) (λ_=>Qw) (aI (.bool av) (λ_=>Dd) ?_);simp only[gq];refine aI (.bool av) (λ_=>Qw) (aI (.bool av) (λ_=>Dd) ?_);simp only[gq];refine aI _ (λ_=>bC aoA) (gJ (.slice S 1 U) (λW h=>aB Q3 (aG (T:=25) h.1 (i:=4) rfl)) (aI (ad 1) (λ_=>by kernel_rfl) (aI (.bool av) (λ_=>anQ) (aI (.bool av) (λ_=>Dd) ?_))));simp only[gq];refine aI (.bool av) (λ_=>Wt (a:=[74])) (aI (.bool av) (λ_=>Dd) ?_);simp only[gq];refine aI (.bool av) (λ_=>Qw) (aI (.bool av) (λ_=>Dd) ?_);simp only[gq];refine aI (.bool av) (λ_=>Qw) (aI (.bool av) (λ_=>Dd) ?_);exact hK _ _ m _ 4 c rfl F rfl
theorem Qt (o:Ob)(v:aq)(M:Mem)(w:ao)(hw:o.wt<=1000000000)(b:M.has w)(c:OV M.A M.w v o) :
  jJ ah 11 #[v] M w (λr _=>r=.bool (ai (Vl.size o<=3000)&&ai (o.s.length<=600))):=by
 obtain⟨vk,vc,g,rfl,d⟩:=c.open;refine aU b λK e=>yB ?_;unfold pP nz;refine eI o d.keys.one d.kids.one (cH.memS b) λi h a=>?_;rw[iV a 0 rfl];refine aJ a (R:=λv=>v=ad (Vl.size o:Nat)) (XN o.wt o _ h (atE _) (OV.inw (a.hasM 1 rfl) c) om) ?_;rintro _ w2 rfl a;simp only[rs];by_cases f:Vl.size o<=3000
 ·simp only[show ai ((Vl.size o:Int)<=3000)=av from atA om,rs];rw[Dn,Mb a 0 rfl]
  try simp only[rs]
  rw[cZ atB]
  try simp only[rs]
  refine e _ _ M _ 1 a rfl M.le_refl ?_;rw[atA f,axV]
  congr 1
  exact decide_eq_decide.2 om
 ·simp only[show ai ((Vl.size o:Int)<=3000)=au from asZ om,rs,nE];exact e _ _ M _ 1 a rfl M.le_refl (by rw[asZ f];rfl)
namespace Ff
theorem Mh (o:Ob)(D E:List UInt8):(plain o D).2=(plain o E).2:=by
 unfold plain;split
 ·rfl
 split<;>rfl
theorem Pu:∀l:List Ob,l.length<=Vl.sU l
|[]=>atU _
|o::l=>by
  have:=Pu l;have h:=Vl.size_eq o;rw[Vl.sU,atW];omega
theorem Vy (o:Ob):o.kids.length<=Vl.size o:=by
 have:=Pu o.kids;rw[Vl.size_eq];omega
end Ff
theorem q_x0 {K:aq->Prop}{a b:aq}(h:K a):QDo P C (At (.tuple #[a,b]) 0) K:=gr a (λ_=>rfl) h
theorem q_x1 {K:aq->Prop}{a b:aq}(h:K b):QDo P C (At (.tuple #[a,b]) 1) K:=gr b (λ_=>rfl) h
namespace Ff
def jG:List (List UInt8)->List Pm->List UInt8->List UInt8×Int
|n::r,p::q,s=>if (jG r q s).2≠0 then ([],(jG r q s).2) else FN n p (jG r q s).1
|_,_,s=>(s,0)
def refE (o:Ob)(ns:List (List UInt8))(ps:List Pm)(data:List UInt8):Int:=
 if Le o ns ps≠0 then Le o ns ps
 else if (jG ns (oP ns ps) data).2≠0 then (jG ns (oP ns ps) data).2
 else if (plain o (jG ns (oP ns ps) data).1).2≠0 then (plain o (jG ns (oP ns ps) data).1).2
 else Vl.check 1 (IL (plain o (jG ns (oP ns ps) data).1).1 (ns.map full) (oP ns ps))
theorem NC:∀{ns:List (List UInt8)} {ps:List Pm} {s:List UInt8},s.length<=200->(jG ns ps s).1.length<=bnd ns.length
|[],_,s,h=>by unfold jG;exact h
|n::r,[],s,h=>by unfold jG;exact avH h (TS (atU _))
|n::r,p::q,s,h=>by
  have a:=NC (ns:=r) (ps:=q) h;unfold jG;split
  ·exact atU _
  ·refine avH abT ?_;show stg (jG r q s).1.length<=stg (bnd r.length);unfold stg;omega
theorem TZ {qs:List Pm}(a:i < ns.length)(b:i < qs.length){s:List UInt8}(h:(jG (ns.drop (i+1)) (qs.drop (i+1)) s).2=0):jG (ns.drop i) (qs.drop i) s=FN ns[i] qs[i] (jG (ns.drop (i+1)) (qs.drop (i+1)) s).1:=by
 rw[auL a,auL b,jG,asT (λk=>k h)]
theorem L9:∀(i:Nat) {ns:List (List UInt8)} {qs:List Pm} {s:List UInt8},(jG (ns.drop i) (qs.drop i) s).2≠0->(jG ns qs s).2=(jG (ns.drop i) (qs.drop i) s).2
|0,_,_,_,_=>rfl
|i+1,[],qs,s,h=>by
  rw[azO] at h;exact absurd rfl h
|i+1,n::r,[],s,h=>by
  rw[azO] at h;refine absurd ?_ h;cases List.drop (i+1) (n::r)<;>rfl
|i+1,n::r,p::q,s,h=>by
  have h:(jG (r.drop i) (q.drop i) s).2≠0:=h;have a:=L9 i (ns:=r) (qs:=q) h;show (jG (n::r) (p::q) s).2=(jG (r.drop i) (q.drop i) s).2;rw[jG,asU (by rw[a];exact h),a]
def G2 (ns:List (List UInt8)):Bool:=!(ns.dropLast.any λn=>ai (full n=nFl))
theorem Gy:∀{ns:List (List UInt8)} {qs:List Pm} {s D:List UInt8} {e:Int},G2 ns=av->(∀n∈ns,full n≠[])->Mn (ns.map full) qs s D e->e=(jG ns qs s).2
|[],qs,s,D,e,_,_,h=>by
  have h:D=s∧e=0:=h;exact h.2
|n::r,[],s,D,e,_,_,h=>by
  have h:D=s∧e=0:=h;exact h.2
|n::r,p::q,s,D,e,b,g,⟨u,i,d,a⟩=>by
  have j:full (full n)=full n:=by
   have f:=g n (auV ..);rcases jA n with e|e|e|e|e<;>rw[e]<;>first|decide|exact absurd e f
  have l:i=(jG r q s).2:=by
   refine Gy ?_ (λm hm=>g m (auE _ hm)) d;unfold G2 at b ⊢;cases r with
  |nil=>rfl
  |cons m r=>
    rw[List.dropLast_cons_cons,List.any_cons] at b;simp only[awY,Bool.or_eq_false_iff] at b ⊢;exact b.2
  rw[jG];by_cases he:i=0
  case neg=>
   rw[asU he] at a;rw[<-l,asU he];exact a.2
  rw[asT (λh=>h he)] at a;rw[<-l,asT (λh=>h he)];unfold M9 at a;unfold FN;rw[j] at a;have f:=g n (auV ..);rw[asT f] at a;rw[asT f];by_cases c:full n=nFl
  ·rw[asU c] at a;rw[asU c];have o:r=[]:=by
    cases r with
   |nil=>rfl
   |cons m r=>
     unfold G2 at b;rw[List.dropLast_cons_cons,List.any_cons,atA c] at b;cases b
   subst o;have hu:u=s:=by
    have d:u=s∧i=0:=d;exact d.1
   have k:(jG [] q s).1=s:=rfl;rw[k];subst hu;by_cases hw:ct p u=0
   ·rw[asU hw] at a;rw[asU hw];exact a.1
   ·rw[asT hw] at a;rw[asT hw];exact a.2
  ·rw[asT c] at a;rw[asT c];exact a.2
end Ff
theorem M6 (o:Ob)(v:aq)(ns:List (List UInt8))(ps:List Pm)(vn vp:aq)(data:List UInt8)(M:Mem)(w:ao)(a1:ns.length<=1000)(a6:ps.length<=1000)(hd:data.length<=200)
  (hw:o.wt<=100000000) (hM:M.has w) (hv:OV M.A M.w v o) (Z:SlA M.A M.w vn 1 ns.length (bF ns)) (hp:SlA M.A M.w vp 3 ps.length (ps.flatMap pmC)) :
  jJ ah 25 #[v,vn,vp,ae data] M w (λr N=>∃v' Y,r=vI v' (Ff.refE o ns ps data)∧OV N.A N.w v' Y):=by
 obtain⟨vk,vc,b9,rfl,F⟩:=hv.open;refine aU hM λK hK=>xF ?_;unfold nP nz;refine eI o F.keys.one F.kids.one (cH.memS hM) λu w1 a=>?_;refine dM a λg w2 a=>?_;rw[iV a 1 rfl];refine bG a 2 rfl (Mj o _ ns ps vn vp M w2 a1 a6 (a.hasM 2 rfl) hv Z hp) ?_;rintro _ N w3 l rfl a;have a:cH M.A w w3 [obE g ob0 cO cO,obE u o vk vc,.mem N]:=a;have c:=Ff.refE.eq_1 o ns ps data;generalize Ff.refE o ns ps data=Y at c hK;simp only[eF];have bad:∀{W:ao} {N:Mem} {e:Int} {L:List Ent},cH M.A w W (obE g ob0 cO cO::L)->L[1]?=ax (.mem N)->M.le N->Y=e->DoX ah (aW 25 #[]) W (pk K) λt25 w=>
 DoX ah (aV 25 (af g 0) t25) w (pk K) λ_ w=>
 A2 ah [.cell (af g 0) 25,.val (ad e)] w K:=by
  intro W N e L a hi hl he;rw[sR];refine aP 0 rfl rfl a rfl λq a=>?_;exact bX 0 a rfl (hK _ _ N _ 2 a (by rw[avN,auT];exact hi) hl ⟨_,Vl.ob0,by rw[he];rfl,jD N⟩)
 by_cases b:Ff.Le o ns ps=0
 case neg=>
  rw[asU b] at c;simp only[atA (show Ff.Le o ns ps≠0 from b),i_t];exact bad a rfl l c
 rw[asT (λh=>h b)] at c;simp only[b,show ai ((0:Int)≠0)=au from rfl,i_f];have a7:¬(o.k≠9∧o.k≠7):=λh=>by unfold Ff.Le at b;rw[asU h] at b;cases b
 have b:Ff.Km ns ps=0:=by unfold Ff.Le at b;rw[asT a7] at b;exact b
 have G:=Ff.CT b;obtain⟨h8,c0,hz⟩:=Ff.PF b;have b7:Ob.wts ((ns.map Ff.full).map Ff.bP)<=30*ns.length:=by
  rw[axB];exact Ff.FZ (λn=>by
   show (Ff.bP (Ff.full n)).wt<=30;rcases Ff.jA n with e|e|e|e|e<;>rw[e]<;>decide) ns
 have H:ps=[]∨ps.length=ns.length∧Ff.oP ns ps=ps:=by
  by_cases h:ps=[]
  ·exact .inl h
  ·have e:Ff.oP ns ps=ps:=by unfold Ff.oP;rw[asT h]
   exact .inr ⟨by rw[<-G,e],e⟩
 have a8:ps=[]->∀(i:Nat) (h:i < (Ff.oP ns ps).length),(Ff.oP ns ps)[i]=Ff.bK:=λh i hi=>Ff.Oa h (atP _);have z:=λ(x:Ob) (v:aq) (M:Mem) (w:ao)=>ME x v vn vp ns ps M w b;generalize Ff.oP ns ps=qs at *;have I:=Ff.FZ Ff.RR qs;rw[G] at I;have c1:=@Ff.tX ((ns.map Ff.full).map Ff.bP);have c2:=@Ff.tX (qs.map Ff.pmO);rw[fS Z]
 try simp only[rs]
 rw[aA om om];refine loop (λvs W=>∃(j:Nat) (D:List UInt8),vs=[ae D,ad 0,ad ((j:Int) - 1)]∧j<=ns.length∧D=(Ff.jG (ns.drop j) (qs.drop j) data).1∧(Ff.jG (ns.drop j) (qs.drop j) data).2=0∧cH M.A w W [obE g ob0 cO cO,obE u o vk vc,.mem N]) (λvs _=>(RowKit.intOf (vs.getD 2 undef)+1).toNat) ⟨ns.length,data,rfl,atE _,by rw[List.drop_length];rfl,by rw[List.drop_length];rfl,a⟩ ?_;clear a;rintro vs w4 ⟨j,D,rfl,hj,hD,h0,a⟩ _;have b0:=Ff.NC (ns:=ns.drop j) (ps:=qs.drop j) hd;have:=Ff.bnd8 (k:=(ns.drop j).length) (by rw[atG];omega);rw[<-hD] at b0;simp only[lL,gd,rs,nz];by_cases O:0 < j
 ·simp only[show ai ((0:Int)<=(j:Int) - 1)=av from atA om,i_t];obtain⟨i,rfl⟩:∃i,j=i+1:=⟨j - 1,om⟩;rw[show ((i+1:Nat):Int) - 1=(i:Int) by omega];have hi:i < ns.length:=om
  have Q:i < qs.length:=om
  have hE:=Ff.TZ hi Q h0;rw[<-hD] at hE;have f:=λh=>Ff.L9 i (ns:=ns) (qs:=qs) (s:=data) h;rw[hE] at f;obtain⟨p,b1,b2⟩:=Fc (Z.le l) hi;refine aJ a (Bg w4) ?_;rintro _ w5 rfl a;refine YX a λB w6 a=>?_;refine Jq 0 Ff.bK a rfl λq a=>?_;have a:cH M.A w q [pmE B Ff.bK,obE g ob0 cO cO,obE u o vk vc,.mem N]:=a;refine join λJ hJ=>?_;have step:∀W,cH M.A w W [pmE B qs[i],obE g ob0 cO cO,obE u o vk vc,.mem N]->J [] W:=by
   intro W a;refine hJ _ _ λ_=>?_;simp only[lK,gd,nz];refine cQ (λW=>cH M.A w W [pmE B qs[i],obE g ob0 cO cO,obE u o vk vc,.mem N]) a.drew ?_;refine gr _ b1 (iL _ (λW h=>b2 W (h.hasM 3 rfl)) ?_);refine iL (pmV qs[i]) (λW h=>bB (h.agg 0 rfl Ep)) ?_;refine iH (M4 (Ff.FN ns[i] qs[i] D).1 (Ff.FN ns[i] qs[i] D).2) (λW h=>(U3 ns[i] qs[i] D W om).mono λv w' ⟨k1,k2⟩=>⟨k1,h.grow k2⟩) ?_;unfold M4;refine q_x0 (q_x1 ?_);intro w8 a;simp only[eF];by_cases he:(Ff.FN ns[i] qs[i] D).2=0
   case neg=>
    simp only[atA (show (Ff.FN ns[i] qs[i] D).2≠0 from he),i_t];have hf:=f he;rw[hf,asU he] at c;exact bad a.tail rfl l c
   simp only[he,show ai ((0:Int)≠0)=au from rfl,i_f]
   try simp only[rs]
   rw[aA om om];exact aS ⟨i,(Ff.FN ns[i] qs[i] D).1,rfl,om,by rw[hE],by rw[hE];exact he,a.tail⟩ (by simp[RowKit.intOf])
  rw[aZ awG ((hp.le l).now (a.hasM 3 rfl))];simp only[rs];rcases H with S|⟨c3,d⟩
  ·simp only[show ai ((i:Int) < (ps.length:Int))=au from asZ (by rw[S];show ¬((i:Int) < 0);omega),i_f];exact step q (by rw[a8 S i Q];exact a)
  ·simp only[show ai ((i:Int) < (ps.length:Int))=av from atA om,i_t];obtain⟨p2,T,U⟩:=Ow (i:=i) (hp.le l) om;have b3:qs[i]=ps[i]:=by simp only[d]
   rw[aC (T q),aC (U q (a.hasM 3 rfl))];refine Jq 0 ps[i] a rfl λw8 a=>?_;exact step w8 (by rw[b3];exact a)
 have O:j=0:=om
 subst O;rw[auX,auX] at hD h0;rw[h0,asT (λh=>h rfl),<-hD] at c;simp only[show ai ((0:Int)<=((0:Nat):Int) - 1)=au from rfl,i_f];have hx:=Ff.NZ o D;rw[iV a 1 rfl];refine bG a 2 rfl (Mt o _ D N w4 om om (a.hasM 2 rfl) (hv.le l)) ?_;generalize Ff.plain o D=P at c hx;obtain⟨x,pe⟩:=P;rintro _ N2 w5 l2 ⟨xv,rfl,C⟩ a;obtain⟨xk,xc,c4,rfl,E⟩:=C.open;dsimp only at c hx E C;simp only[vI,ex];refine dM a λV w6 a=>?_;refine aP 0 E.keys.one E.kids.one a rfl λq a=>?_;have a:cH M.A w q [obE V x xk xc,obE g ob0 cO cO,obE u o vk vc,.mem N2]:=a;simp only[eF,rs];by_cases d:pe=0
 case neg=>
  rw[asU d] at c;simp only[atA (show pe≠0 from d),i_t];exact bad a.tail rfl (l.trans l2) c
 rw[asT (λh=>h d)] at c;subst d;simp only[show ai ((0:Int)≠0)=au from rfl,i_f];rw[iV a 0 rfl];refine bG a 3 rfl (z x _ N2 q om (a.hasM 3 rfl) C (Z.le (l.trans l2)) (hp.le (l.trans l2))) ?_;have b5:(Ff.IL x (ns.map Ff.full) qs).wt<=1000000000:=by
  have h1:=Vl.Mx x Ff.aQ (Ff.alone ((ns.map Ff.full).map Ff.bP));have h2:=Vl.Mx (Vl.set x Ff.aQ (Ff.alone ((ns.map Ff.full).map Ff.bP))).1 Ff.bW (Ff.alone (qs.map Ff.pmO));have h3:Ff.aQ.length=6∧Ff.bW.length=11:=dc
  unfold Ff.IL;split
  ·omega
  split
  ·omega
  split
  ·omega
  split<;>omega
 generalize Ff.IL x (ns.map Ff.full) qs=y at c b5;intro yv N3 w8 l3 hy a;obtain⟨yk,yc,c5,rfl,m⟩:=hy.open;refine dM a λb6 w9 a=>?_;refine aP 0 m.keys.one m.kids.one a rfl λX a=>?_;have a:cH M.A w X [obE b6 y yk yc,obE V x xk xc,obE g ob0 cO cO,obE u o vk vc,.mem N3]:=a;rw[iV a 0 rfl];refine aJ a (R:=λv=>v=ad (Vl.check 1 y)) (iK y _ X (OV.inw (a.hasM 4 rfl) hy) om) ?_;rintro _ c6 rfl a;simp only[eF];have t:=(l.trans l2).trans l3;by_cases hc:Vl.check 1 y=0
 case neg=>
  simp only[atA (show Vl.check 1 y≠0 from hc),i_t];exact bad a.tail.tail rfl t c
 simp only[hc,show ai ((0:Int)≠0)=au from rfl,i_f];rw[iV a 0 rfl];refine aP 2 m.keys.one m.kids.one a rfl λc7 a=>?_;exact bX 2 a rfl (hK _ _ N3 _ 4 a rfl t ⟨_,y,by rw[c,hc];rfl,hy⟩)
theorem UK (ns:List (List UInt8))(vn:aq)(M:Mem)(w:ao)(o:ns.length<=1000)(m:M.has w)(c:SlA M.A M.w vn 1 ns.length (bF ns)) :
  jJ ah 26 #[vn] M w (λr _=>r=.bool (Ff.G2 ns)):=by
 refine aU m λK q=>AH ?_;unfold rU nz;have s:ns.dropLast.length=ns.length - 1:=aAU;have fin:∀{W:ao} {e:Bool},cH M.A w W [.mem M]->Ff.G2 ns=e->K (.returned (.bool e)) W:=λa he=>q _ _ M _ 0 a rfl M.le_refl (by rw[he]);refine loop (λvs W=>∃i:Nat,vs=[ad (i:Int)]∧i<=ns.length - 1∧(∀n∈ns.dropLast.take i,Ff.full n≠Ff.nFl)∧cH M.A w W [.mem M]) (λvs _=>ns.length - n0 vs) ⟨0,rfl,om,λn h=>by simp at h,cH.memS m⟩ ?_;rintro vs f ⟨i,rfl,hi,g,a⟩ _;simp only[nZ,gd,rs,nz];rw[aA om om,fS c];simp only[rs];by_cases t:i+1 < ns.length
 ·simp only[show ai ((i:Int)+1 < (ns.length:Int))=av from atA om,i_t];have j:i < ns.length:=om
  have hd:i < ns.dropLast.length:=om
  have b:ns.dropLast[i]=ns[i]:=List.getElem_dropLast ..
  obtain⟨p,k,l⟩:=Fc c j;rw[aC (k f),aC (l f (a.hasM 0 rfl))];refine qE (kD ns[i] f) ?_;rw[show (Value.string ⟨#[70,108,97,116,101,68,101,99,111,100,101]⟩)=ae Ff.nFl from rfl];simp only[rs];by_cases d:Ff.full ns[i]=Ff.nFl
  ·simp only[atA d,i_t];refine fin a ?_;unfold Ff.G2;rw[avB.2 ⟨ns[i],by rw[<-b];exact atP _,atA d⟩];rfl
  ·simp only[asZ d,i_f];refine aS ⟨i+1,rfl,om,λn h=>?_,a⟩ (by simp[n0,RowKit.intOf];omega);rw[auD hd] at h;rcases auF.1 h with h|h
   ·exact g n h
   ·rw[auB.1 h,b];exact d
 ·simp only[show ai ((i:Int)+1 < (ns.length:Int))=au from asZ om,i_f];refine fin a ?_;have:i=ns.dropLast.length:=om
  rw[this,auZ] at g;unfold Ff.G2;rw[awY,List.any_eq_false];intro n c h;exact g n c (atQ h)
namespace Ff
theorem VT {D:List UInt8}(h:(plain o D).2≠0):(plain o D).1=Vl.ob0:=by
 unfold plain at h ⊢;split
 ·rfl
 ·rename_i a
  rw[asT a] at h;split
  ·rfl
  ·rename_i b
   rw[asT b] at h;exact absurd rfl h
theorem Z2 {o:Ob}{ms:List (List UInt8)}{qs:List Pm}:(IL o ms qs).wt<=o.wt+Ob.wts (ms.map bP)+Ob.wts (qs.map pmO)+40:=by
 have a:=Vl.Mx o aQ (alone (ms.map bP));have b:=Vl.Mx (Vl.set o aQ (alone (ms.map bP))).1 bW (alone (qs.map pmO));have c:aQ.length=6∧bW.length=11:=dc
 have d:=@tX (ms.map bP);have e:=@tX (qs.map pmO);unfold IL;split
 ·omega
 split
 ·omega
 split
 ·omega
 split<;>omega
theorem ajH {ps:List Pm}(h:Le o ns ps=0):¬(o.k≠9∧o.k≠7)∧Km ns ps=0:=by
 unfold Le at h;by_cases a:o.k≠9∧o.k≠7
 ·rw[asU a] at h;cases h
 ·rw[asT a] at h;exact⟨a,h⟩
theorem agZ {ps:List Pm}{Y:Ob}{e:Int}(h:Oz o ns ps data Y e)(hm:Le o ns ps≠0):Y=Vl.ob0∧e=Le o ns ps:=by
 unfold Oz at h;unfold Le at hm ⊢;by_cases a:o.k≠9∧o.k≠7
 ·rw[asU a] at h;rw[asU a];exact h
 ·rw[asT a] at h hm;rw[asT a];rw[asU hm] at h;exact h
theorem Y6 {ps:List Pm}{Y:Ob}{e:Int}(h:Oz o ns ps data Y e)(hm:Le o ns ps=0)(hd:data.length<=200)(w:o.kids.length<=8100) :
  (e≠0->Y=Vl.ob0)∧(G2 ns=av->e=refE o ns ps data)∧(e=0->∃D,D.length<=200000∧Y.s=D∧(plain o D).2=0∧Y=IL (plain o D).1 (ns.map full) (oP ns ps)∧of Y=(ns.map full,oP ns ps,0)∧decode Y=(data,0)):=by
 obtain⟨p,a⟩:=ajH hm;have y:=CT a;obtain⟨z,b,x⟩:=PF a;unfold Oz at h;rw[asT p,asT (λh=>h a)] at h;obtain⟨D,A,g,h⟩:=h;have l:=refE.eq_1 o ns ps data;rw[asT (λh=>h hm)] at l;have d:∀n∈ns,full n≠[]:=λn B=>(b _ (auH.2 ⟨n,B,rfl⟩)).2;have q:(ns.map full).length=ns.length:=atV _;generalize oP ns ps=qs at *;have f:qs.length=(ns.map full).length:=om
 have L:=bnd8 (k:=ns.length) z;have r:=Fk hd g;rw[q] at r;by_cases c:A=0
 case neg=>
  rw[asU c] at h;refine⟨λ_=>h.1,λi=>?_,λt=>absurd (h.2.symm.trans t) c⟩;have:=Gy i d g;rw[h.2,l,asU (by rw[<-this];exact c)];exact this
 subst c;rw[asT (λh=>h rfl)] at h;have u:=Oi g x (λm h=>by rw[(b m h).1];exact (b m h).2) f;by_cases hp:(plain o D).2=0
 case neg=>
  have C:Eu o (ns.map full) qs D=plain o D:=by unfold Eu;rw[asU hp]
  rw[C] at h;refine⟨λ_=>by rw[h.1];exact VT hp,λi=>?_,λt=>absurd (h.2.symm.trans t) hp⟩;have:=Gy i d g;have j:=Mh o D (jG ns qs data).1;rw[h.2,l,asT (λh=>h this.symm),asU (by rw[<-j];exact hp)];exact j
 have v:=Xb om b f x hd g hp w;obtain⟨E,F,M,G,N,H,I⟩:=v;have he:e=0:=by rw[h.2,E]
 refine⟨λh=>absurd he h,λi=>?_,λ_=>⟨D,om,?_,hp,?_,?_,?_⟩⟩
 ·have:=Gy i d g;have j:=Mh o D (jG ns qs data).1;have O:=NC (ns:=ns) (ps:=qs) hd;rw[he,l,asT (λh=>h this.symm),asT (by rw[<-j];exactλh=>h hp)];obtain⟨P,J,K,_⟩:=RS (D:=(jG ns qs data).1) om b f u om (j.symm.trans hp) w;rw[<-J];exact K.symm
 ·rw[h.1];exact G
 ·rw[h.1];exact F
 ·rw[h.1];exact H
 ·rw[h.1];exact I
end Ff
def asC (vn vp:aq)(data:List UInt8):List Value:=[vn,vp,ae data]
def asV (vn vp:aq)(data:List UInt8):Value:=.agg (asC vn vp data).toArray
abbrev asE (b:Nat)(vn vp:aq)(data:List UInt8):Ent:=.cells b (asC vn vp data) 42
theorem TE:kC ah 42 0=ax 0:=krx
theorem Th:kC ah 42 1=ax 1:=krx
theorem adJ:kC ah 42 2=ax 2:=krx
theorem aeI:eP ah 22=true:=krx
section
variable {w:ao}{PK:PKT}{K:VWP}{S:Nat->Prop}{w0:ao}{L:List Ent}
theorem aqC (data:List UInt8)(a:vn.oneCell'=av)(c:vp.oneCell'=av)(d:cH S w0 w L)(k:∀b w',cH S w0 w' (asE b vn vp data::L)->K (af b 0) w'):DoX ah (Hr 42 (asV vn vp data)) w PK K:=by
 cases vn<;>first|(cases a;done)|skip
 all_goals cases vp<;>first|(cases c;done)|exact bI (λb=>af b 0) (asC _ _ data) 42 (λ_=>by kernel_rfl) d k
theorem as_n (a:cH S w0 w L)(j:Nat)(hi:L[j]?=ax (asE b vn vp data)):DoX ah (mFA 42 (af b 0) 0) w PK (λt w=>DoX ah (aK 22 t) w PK2 K)=K vn w:=by
 rw[aO TE];exact aR aeI (a.cell j hi 0 rfl)
theorem as_p (a:cH S w0 w L)(j:Nat)(hi:L[j]?=ax (asE b vn vp data)):DoX ah (mFA 42 (af b 0) 1) w PK (λt w=>DoX ah (aK 40 t) w PK2 K)=K vp w:=by
 rw[aO Th];exact aR Ut (a.cell j hi 1 rfl)
theorem as_d (a:cH S w0 w L)(j:Nat)(hi:L[j]?=ax (asE b vn vp data)):DoX ah (mFA 42 (af b 0) 2) w PK (λt w=>DoX ah (aK 9 t) w PK2 K)=K (ae data) w:=by
 rw[aO adJ];exact aR Io (a.cell j hi 2 rfl)
theorem Qx (h:(asE b vn vp data).is W):(aK 22 (af b (0+0))).run ah W=.ok (.value vn) W:=aB aeI (aG (T:=42) (cs:=asC vn vp data) h rfl)
theorem Q1 (h:(asE b vn vp data).is W):(aK 40 (af b (0+1))).run ah W=.ok (.value vp) W:=aB Ut (aG (T:=42) (cs:=asC vn vp data) h rfl)
theorem aiL (h:(asE b vn vp data).is W):(aK 9 (af b (0+2))).run ah W=.ok (.value (ae data)) W:=aB Io (aG (T:=42) (cs:=asC vn vp data) h rfl)
theorem adD (h:(obE b o vk vc).is W):(aK 25 (af b 0)).run ah W=.ok (.value (obV o vk vc)) W:=
 bB (AtV.agg kE (cs:=obC o vk vc) rfl λj u a=>by rw[atK];exact aG (T:=25) h a)
theorem Z4 {T:TypeId}{k:IntKind}{b:Int}:(mEq .neq T xo yo (.int k a) (.int k b)).run ah W=.ok (.value (.bool (ai (a≠b)))) W:=bQ (by simp[eqGuard,binOp,Op.intCmp,Wq])
theorem Zd {T:TypeId}{a b:List UInt8}:(mEq .neq T xo yo (ae a) (ae b)).run ah W=.ok (.value (.bool (ai (a≠b)))) W:=bQ (by
 have e:(a==b)=ai (a=b):=by by_cases h:a=b<;>simp[h]
 simp[eqGuard,binOp,Op.stringOp,gN,e])
end
theorem G5 (o:Ob)(v:aq)(ns:List (List UInt8))(ps:List Pm)(vn vp:aq)(data:List UInt8)(M:Mem)(w:ao)(c3:Rp M)(c4:Od M)(b0:Pws M)(hw:o.wt<=100000000)(hM:M.has w)(hv:OV M.A M.w v o)
  (H:SlA M.A M.w vn 1 ns.length (bF ns)) (hp:SlA M.A M.w vp 3 ps.length (ps.flatMap pmC)) :
  jJ ah 5 #[v,asV vn vp data] M w (λr _=>r=.bool av):=by
 obtain⟨vk,vc,m2,rfl,ha⟩:=hv.open;refine aU hM λK hK=>mR ?_;unfold gX iN dx ldx fax exx stx eqx alx ecx gtx gfx ctx etx cx;refine eI o ha.keys.one ha.kids.one (cH.memS hM) λp w1 a=>?_;refine aqC data H.one hp.one a λc w2 a=>?_;rw[iV a 1 rfl];refine bG a 2 rfl (Qt o _ M w2 om (a.hasM 2 rfl) hv) ?_;rintro _ N w3 y rfl a;have a:cH M.A w w3 [asE c vn vp data,obE p o vk vc,.mem N]:=a;have m:∀{W:ao} {N:Mem} {L:List Ent} (j:Nat) {PK:PKT} {z:VWP},cH M.A w W L->L[j]?=ax (.mem N)->M.le N->(∀S W,M.le S->cH M.A w W (L.set j (.mem S))->z (.bool av) W)->dZ ah 12 #[] W PK z:=by
  intro W N L j PK z a V l k;refine bG a j V (Q9 N W (c3.le l) (c4.le l) (b0.le l) (a.hasM j V)) ?_;rintro _ S W3 u rfl a;exact k S W3 (l.trans u) a
 have early:∀{W:ao} {N:Mem} {L:List Ent} (j:Nat),cH M.A w W L->L[j]?=ax (.mem N)->M.le N->dZ ah 12 #[] W (pk K) λt25 w=>K (.returned t25) w:=λj a V l=>
  m j a V l λS W u a=>hK _ _ S _ j a (by rw[awU (atT.1 V).1]) u rfl
 generalize hq:(ai (Vl.size o<=3000)&&ai (o.s.length<=600))=q;simp only[rs];cases q with
|false=>
  simp only[auN,rs,nE,gd,i_t];exact early 2 a rfl y
|true=>
 have m3:Vl.size o<=3000:=by
  simp only[atZ,auP] at hq;exact hq.1
 have l0:=Ff.Vy o;simp only[auO,rs,gd];rw[as_d a 0 rfl,cZ atB];simp only[rs];by_cases h2:200 < data.length
 ·simp only[show ai ((200:Int) < (data.length:Int))=av from atA om,rs,gd,nE,i_t];exact early 2 a rfl y
 simp only[show ai ((200:Int) < (data.length:Int))=au from asZ om,rs,gd];rw[as_n a 0 rfl,fS (H.le y)];simp only[rs];by_cases h3:20 < ns.length
 ·simp only[show ai ((20:Int) < (ns.length:Int))=av from atA om,rs,gd,nE,i_t];exact early 2 a rfl y
 simp only[show ai ((20:Int) < (ns.length:Int))=au from asZ om,rs,gd];rw[as_p a 0 rfl,aZ awG ((hp.le y).now (a.hasM 2 rfl))];simp only[rs];by_cases h4:20 < ps.length
 ·simp only[show ai ((20:Int) < (ps.length:Int))=av from atA om,rs,gd,nE,i_t];exact early 2 a rfl y
 simp only[show ai ((20:Int) < (ps.length:Int))=au from asZ om,i_f];rw[iV a 1 rfl,as_n a 0 rfl,as_p a 0 rfl,as_d a 0 rfl];refine bG a 2 rfl (HO o _ ns ps vn vp data N w3 (b0.le y) om om om hw (a.hasM 2 rfl) (hv.le y) (H.le y) (hp.le y)) ?_;rintro _ N2 w4 l2 ⟨yv,Y,e,rfl,hy,hT⟩ a;obtain⟨f,g,m4,rfl,c5⟩:=hy.open
 replace l2:=y.trans l2
 simp only[vI,ex];refine dM a λt w5 a=>?_;refine aP 0 c5.keys.one c5.kids.one a rfl λw6 a=>?_;have a:cH M.A w w6 [obE t Y f g,asE c vn vp data,obE p o vk vc,.mem N2]:=a;rw[iV a 2 rfl,as_n a 1 rfl,as_p a 1 rfl];refine bG a 3 rfl (Mj o _ ns ps vn vp N2 w6 om om (a.hasM 3 rfl) (hv.le l2) (H.le l2) (hp.le l2)) ?_;rintro _ S w7 u rfl a;have a:cH M.A w w7 [obE t Y f g,asE c vn vp data,obE p o vk vc,.mem S]:=a;have b1:=hy.le u
 replace u:=l2.trans u
 have B:∀{W:ao} {N:Mem} {L:List Ent} (j:Nat) {PK:PKT} {z:VWP},Y=Vl.ob0->OV N.A N.w (obV Y f g) Y->cH M.A w W L->L[j]?=ax (.mem N)->(∀W,cH M.A w W L->z (.bool av) W)->dZ ah 24 #[obV Y f g,obV Vl.ob0 cO cO] W PK z:=by
  intro W N L j PK z hY hy a V k;refine aJ a (R:=λv=>v=.bool (Ob.eqb Y Vl.ob0)) (MB Y.wt Y Vl.ob0 _ _ W (atE _) (by rw[hY];decide) (OV.inw (a.hasM j V) hy) (OV.inw (a.hasM j V) (jD N))) ?_;rintro _ w9 rfl a;rw[(Ob.jY _ _).2 hY];exact k w9 a
 simp only[eF];by_cases d:Ff.Le o ns ps=0
 case neg=>
  obtain⟨hY,he⟩:=Ff.agZ hT d;simp only[atA (show Ff.Le o ns ps≠0 from d),i_t];rw[he];simp only[rs,asX];rw[iV a 0 rfl,sR];refine B 3 hY b1 a rfl λW a=>?_;simp only[rs];refine m 3 a rfl u λN4 W T a=>?_
  try simp only[rs]
  exact hK _ _ N4 _ 3 a rfl T rfl
 simp only[d,show ai ((0:Int)≠0)=au from rfl,i_f];obtain⟨hA,hB,hC⟩:=Ff.Y6 hT d om om;have b4:=(Ff.ajH d).2;clear hT;rw[iV a 2 rfl,as_n a 1 rfl,as_p a 1 rfl,as_d a 1 rfl];refine bG a 3 rfl (M6 o _ ns ps vn vp data S w7 om om om hw (a.hasM 3 rfl) (hv.le u) (H.le u) (hp.le u)) ?_;rintro _ N4 w8 T ⟨zv,Z,rfl,hz⟩ a;obtain⟨I,J,m5,rfl,c6⟩:=hz.open;have c7:=b1.le T
 replace T:=u.trans T
 simp only[vI,ex];refine dM a λO w9 a=>?_;refine aP 0 c6.keys.one c6.kids.one a rfl λc8 a=>?_;have a:cH M.A w c8 [obE O Z I J,obE t Y f g,asE c vn vp data,obE p o vk vc,.mem N4]:=a;rw[as_n a 2 rfl];refine bG a 4 rfl (UK ns vn N4 c8 om (a.hasM 4 rfl) (H.le T)) ?_;rintro _ N5 C l5 rfl a;have a:cH M.A w C [obE O Z I J,obE t Y f g,asE c vn vp data,obE p o vk vc,.mem N5]:=a;have b6:=c7.le l5
 replace l5:=T.trans l5
 have X:∀{z:VWP},z (.bool au) C->GDo (.bool (Ff.G2 ns)) av (λE=>E (ad e) C) C λt85 w=>
 GDo (.bool (Ff.G2 ns)) av (λE=>E (ad (Ff.refE o ns ps data)) w) w λt86 w=>
 GDo (.bool (Ff.G2 ns)) av (λE=>DoX ah (mEq .neq 30 (.tmp 85) (.tmp 86) t85 t86) w (pk K) E) w λt87 w=>
 DoX ah (cW (.bool (Ff.G2 ns)) t87 (.bool au)) w (pk K) z:=by
  intro z k;cases ht:Ff.G2 ns with
 |false=>
   simp only[rs,nE];exact k
 |true=>
   rw[hB ht];simp only[rs,ne_eq,not_true,asW];exact k
 refine X ?_;simp only[i_f,eF];clear hB X;by_cases he:e=0
 case neg=>
  have hY:=hA he;simp only[atA (show e≠0 from he),i_t];rw[iV a 1 rfl,sR];refine B 4 hY b6 a rfl λW a=>?_;simp only[rs];refine m 4 a rfl l5 λN4 W T a=>?_
  try simp only[rs]
  exact hK _ _ N4 _ 4 a rfl T rfl
 simp only[he,show ai ((0:Int)≠0)=au from rfl,i_f];obtain⟨D,m6,j8,j9,c9,k0,e0⟩:=hC he;clear hA hC;have e1:=Ff.CT b4;obtain⟨h8,m7,m8⟩:=Ff.PF b4;have e2:(ns.map Ff.full).length=ns.length:=atV _;have m0:Ob.wts ((ns.map Ff.full).map Ff.bP)<=30*ns.length:=by
  rw[axB];exact Ff.FZ (λn=>by
   show (Ff.bP (Ff.full n)).wt<=30;rcases Ff.jA n with e|e|e|e|e<;>rw[e]<;>decide) ns
 have e3:=Ff.FZ Ff.RR (Ff.oP ns ps);rw[e1] at e3;have m1:=Ff.NZ o D;have m9:Y.wt<=200000000:=by
  have:=@Ff.Z2 (Ff.plain o D).1 (ns.map Ff.full) (Ff.oP ns ps);rw[c9];omega
 rw[iV a 3 rfl,Dn,Mb a 1 rfl,j8];refine bG a 4 rfl (Mt o _ D N5 C om om (a.hasM 4 rfl) (hv.le l5)) ?_;rintro _ N6 n4 l6 ⟨xv,rfl,hx⟩ a;obtain⟨F,G,n5,rfl,e4⟩:=hx.open;have b7:=b6.le l6
 replace l6:=l5.trans l6
 simp only[vI,ex,j9];refine dM a λb n6 a=>?_;refine aP 0 e4.keys.one e4.kids.one a rfl λe5 a=>?_;have a:cH M.A w e5 [obE b (Ff.plain o D).1 F G,obE O Z I J,obE t Y f g,asE c vn vp data,obE p o vk vc,.mem N6]:=a;rw[iV a 2 rfl];refine bG a 5 rfl (Gx Y _ N6 e5 om (a.hasM 5 rfl) b7) ?_;rw[k0];rintro _ N7 e6 l7 ⟨fn,fp,rfl,b9,c0⟩ a;have a:cH M.A w e6 [obE b (Ff.plain o D).1 F G,obE O Z I J,obE t Y f g,asE c vn vp data,obE p o vk vc,.mem N7]:=a;dsimp only at b9 c0;have c1:=b7.le l7;have e7:=hx.le l7
 replace l7:=l6.trans l7
 simp only[ex,kP (show [fn,fp,Value.int .i64 0][2]?=ax (Value.int .i64 0) from rfl),kP (show [fn,fp,Value.int .i64 0][1]?=ax fp from rfl),kP (show [fn,fp,Value.int .i64 0][0]?=ax fn from rfl)];rw[iV a 2 rfl];refine bG a 5 rfl (Nv Y _ N7 e6 (c3.le l7) (c4.le l7) (b0.le l7) om (a.hasM 5 rfl) c1) ?_;rw[e0];rintro _ N8 k3 Q rfl a;have a:cH M.A w k3 [obE b (Ff.plain o D).1 F G,obE O Z I J,obE t Y f g,asE c vn vp data,obE p o vk vc,.mem N8]:=a;have k4:=c1.le Q;have k5:=e7.le Q;have a1:=b9.le Q;have e8:=c0.le Q
 replace Q:=l7.trans Q
 clear b9 c0 hx e7 hy b1 c7 b6 b7 c1;simp only[zlT,ex];have k6:(Ff.oP ns ps).length=ns.length:=e1;have k7:∀(i:Nat) (h1:i < (ns.map Ff.full).length) (h2:i < ns.length),(ns.map Ff.full)[i]=Ff.full ns[i]:=λi h1 h2=>aAh ..
 have k8:∀(i:Nat) (h1:i < (Ff.oP ns ps).length) (h2:i < ps.length),(Ff.oP ns ps)[i]=ps[i]:=λi h1 h2=>by
  have e:Ff.oP ns ps=ps:=by unfold Ff.oP;rw[asT (λh=>by rw[h] at h2;exact azB _ h2)]
  simp only[e]
 have a6:=λ(W:ao) (h:N8.has W)=>ME (Ff.plain o D).1 (obV (Ff.plain o D).1 F G) vn vp ns ps N8 W b4 om h k5 (H.le Q) (hp.le Q);rw[<-c9] at a6;generalize Ff.oP ns ps=qs at *;generalize ns.map Ff.full=ms at *;generalize (Ff.plain o D).1=P at *;have a:=a.drew;refine⟨λW=>N8.has W∧(asE c vn vp data).is W∧(obE t Y f g).is W∧(obE b P F G).is W,⟨a.hasM 5 rfl,a.at_ 3 rfl,a.at_ 2 rfl,a.at_ 0 rfl⟩,?_⟩;refine aI (.bool au) (λ_=>by kernel_rfl) ?_;simp only[Ld];refine aI (.bool au) (λ_=>by kernel_rfl) (aI (.bool au) (λ_=>by kernel_rfl) ?_);simp only[Ld];refine aI (.bool au) (λ_=>by kernel_rfl) (aI (.bool au) (λ_=>by kernel_rfl) ?_);simp only[Ld];refine aI (af c (0+2)) (λ_=>bC adJ) (gJ (ae data) (λW h=>aiL h.2.1) ?_);refine aI (.bool au) (λ_=>by rw[Zd,asZ (λh=>h rfl)]) (aI (.bool au) (λ_=>by kernel_rfl) ?_);simp only[Ld];refine gJ (ad (ns.length:Int)) (λW h=>by rw[CO atN (a1.now h.1),e2]) ?_;refine aI (af c (0+0)) (λ_=>bC TE) (gJ vn (λW h=>Qx h.2.1) ?_);refine gJ (ad (ns.length:Int)) (λW h=>CO atN ((H.le Q).now h.1)) ?_;refine aI (.bool au) (λ_=>by rw[Z4,asZ (λh=>h rfl)]) (aI (.bool au) (λ_=>by kernel_rfl) ?_);simp only[Ld];refine gJ (obV Y f g) (λW h=>adD h.2.2.1) (gJ (obV P F G) (λW h=>adD h.2.2.2) ?_);refine aI (af c (0+0)) (λ_=>bC TE) (gJ vn (λW h=>Qx h.2.1) ?_);refine aI (af c (0+1)) (λ_=>bC Th) (gJ vp (λW h=>Q1 h.2.1) ?_);simp only[rs];refine bG a 5 rfl (a6 _ (a.hasM 5 rfl)) ?_;intro kv N9 e9 x h0 a;obtain⟨kk,kc,n7,rfl,n8⟩:=h0.open;have a:cH M.A w e9 [obE b P F G,obE O Z I J,obE t Y f g,asE c vn vp data,obE p o vk vc,.mem N9]:=a;refine⟨⟨Mem.DM x (a.hasM 5 rfl),a.at_ 3 rfl,a.at_ 2 rfl,a.at_ 0 rfl⟩,?_⟩
 try simp only[rs]
 refine aJ a (R:=λv=>v=.bool (Ob.eqb Y Y)) (MB Y.wt Y Y _ _ e9 (atE _) om (OV.inw (a.hasM 5 rfl) (k4.le x)) (OV.inw (a.hasM 5 rfl) h0)) ?_;rintro _ n9 rfl a;rw[(Ob.jY _ _).2 rfl];refine⟨⟨Mem.DM x (a.hasM 5 rfl),a.at_ 3 rfl,a.at_ 2 rfl,a.at_ 0 rfl⟩,?_⟩
 try simp only[Ld]
 refine aI (.bool au) (λ_=>by kernel_rfl) (aI (.bool au) (λ_=>by kernel_rfl) ?_)
 try simp only[i_f]
 have a7:=a1.le x;have a8:=e8.le x
 replace x:=Q.trans x
 refine loop (λvs W=>∃i:Nat,vs=[ad (i:Int)]∧i<=ns.length∧cH M.A w W [obE b P F G,obE O Z I J,obE t Y f g,asE c vn vp data,obE p o vk vc,.mem N9]) (λvs _=>ns.length - n0 vs) ⟨0,rfl,om,a⟩ ?_;clear a;rintro vs k9 ⟨i,rfl,hi,a⟩ _;simp only[gD,gd,nz];rw[fS a7,e2];simp only[rs];by_cases U:(i:Int) < (ns.length:Int)
 ·simp only[U,asX,rs];rw[aZ awG (a8.now (a.hasM 5 rfl)),k6];simp only[U,asX,rs];rw[as_n a 3 rfl,fS (H.le x)];simp only[U,asX,rs,i_t];have h5:i < ns.length:=om
  have h6:i < ms.length:=om
  have h7:i < qs.length:=om
  obtain⟨p1,h9,j0⟩:=Fc a7 h6;obtain⟨p2,j1,j2⟩:=Fc (H.le x) h5;obtain⟨p3,j3,j4⟩:=Ow a8 h7;refine cQ (λW=>cH M.A w W [obE b P F G,obE O Z I J,obE t Y f g,asE c vn vp data,obE p o vk vc,.mem N9]) a.drew ?_;refine gr _ h9 (iL _ (λW h=>j0 W (h.hasM 5 rfl)) ?_);refine gr _ (λ_=>bC TE) (iL vn (λW h=>Qx (h.at_ 3 rfl)) ?_);refine gr _ j1 (iL _ (λW h=>j2 W (h.hasM 5 rfl)) ?_);refine iH (ae (Ff.full ns[i])) (λW h=>(kD _ W).mono λv w' ⟨k1,k2⟩=>⟨k1,by rw[<-k2];exact h⟩) ?_;refine Xm ?_;rw[k7 i h6 h5,asZ (λh=>h rfl)];simp only[Ld];refine gr _ (λ_=>bC Th) (iL vp (λW h=>Q1 (h.at_ 3 rfl)) ?_);refine iL (ad (ps.length:Int)) (λW h=>CO awG ((hp.le x).now (h.hasM 5 rfl))) ?_;refine Iq ?_;have fin:∀W,cH M.A w W [obE b P F G,obE O Z I J,obE t Y f g,asE c vn vp data,obE p o vk vc,.mem N9]->IJ (λvs W=>∃i:Nat,vs=[ad (i:Int)]∧i<=ns.length∧cH M.A w W [obE b P F G,obE O Z I J,obE t Y f g,asE c vn vp data,obE p o vk vc,.mem N9]) (λvs _=>ns.length - n0 vs) [ad (i:Int)] k9 [ad (IntKind.i64.wrap ((i:Int)+1))] W:=by
   intro W a;rw[aA om om];exact aS ⟨i+1,rfl,om,a⟩ (by simp[n0,RowKit.intOf];omega)
  by_cases j5:i < ps.length
  ·simp only[show ai ((i:Int) < (ps.length:Int))=av from atA om,gq,ajY,Ld];obtain⟨p4,j6,j7⟩:=Ow (hp.le x) j5;refine gr _ j3 (iL _ (λW h=>j4 W (h.hasM 5 rfl)) ?_);refine gr _ (λ_=>bC Th) (iL vp (λW h=>Q1 (h.at_ 3 rfl)) ?_);refine gr _ j6 (iL _ (λW h=>j7 W (h.hasM 5 rfl)) ?_);rw[k8 i h7 j5];refine gr _ (λ_=>Tx) ?_;rw[Ff.jY.2 rfl];refine LO (Dr ?_);intro c2 a;simp only[auO,rs,i_f];exact fin c2 a
  ·simp only[show ai ((i:Int) < (ps.length:Int))=au from asZ om,gq,XS,Ld];refine Dr (Dr ?_);intro c2 a;simp only[rs,i_f];exact fin c2 a
 simp only[U,asW,rs,nE,i_f];exact early 5 a rfl x
end
section
open Eng Go.RowKit Go.ChangeShapes Go.WideShapes Go.ChangeAt
set_option maxRecDepth 100000
theorem acU {α:Type}:∀{l:List α},l.length=2->∃a b,l=[a,b]
|[a,b],_=>⟨a,b,rfl⟩
theorem mapM_mem {α β:Type}{f:α->Option β}:∀{l:List α} {r:List β},l.mapM f=ax r->(∀a∈l,∃b∈r,f a=ax b)∧∀b∈r,∃a∈l,f a=ax b
|[],r,h=>by
  simp only[List.mapM_nil,Option.pure_def,axC] at h;subst h;exact⟨(λa d=>by cases d),(λb g=>by cases g)⟩
|x::l,r,h=>by
  simp only[List.mapM_cons,Option.bind_eq_bind,ayI,Option.pure_def,axC] at h;obtain⟨b,g,j,i,rfl⟩:=h;obtain⟨i1,i2⟩:=mapM_mem i;refine⟨λa d=>?_,λc e=>?_⟩
  ·rcases atL.1 d with rfl|d
   ·exact⟨b,auV,g⟩
   ·obtain⟨c,e,he⟩:=i1 a d;exact⟨c,auE _ e,he⟩
  ·rcases atL.1 e with rfl|e
   ·exact⟨x,auV,g⟩
   ·obtain⟨a,d,he⟩:=i2 c e;exact⟨a,auE _ d,he⟩
theorem Xv {H:Type}(x y:Lit×DataW H):∀l:List (Lit×DataW H),y∈DataW.insert x l↔y=x∨y∈l
|[]=>by simp[DataW.insert]
|z::r=>by
  unfold DataW.insert;split
  ·simp
  ·rw[atL,Xv x y r,atL];constructor
   ·rintro (h|h|h)
    ·exact .inr (.inl h)
    ·exact .inl h
    ·exact .inr (.inr h)
   ·rintro (h|h|h)
    ·exact .inr (.inl h)
    ·exact .inl h
    ·exact .inr (.inr h)
theorem Mq {H:Type}(y:Lit×DataW H):∀l:List (Lit×DataW H),y∈l.foldr DataW.insert []↔y∈l
|[]=>by simp
|x::r=>by rw[List.foldr_cons,Xv,Mq y r,atL]
section
variable {H:Type}{enc:TypeId×aq->H}{W:ao}{sp:Nat->Bool}{held:Bool}
theorem SU (fuel:Nat)(cs:List aq)(x:DataW H×List MemPlace)(h:DataW.trod enc ah W 0 sp held fuel 363 cs=ax x):∃a b:Int,cs=[.int .i64 a,.int .i64 b]∧x.1=.agg [.lit (.int .i64 a),.lit (.int .i64 b)]:=by
 obtain⟨xs,n,rfl,d,g,c,i⟩:=DataW.trod_struct underlying363 h;have l:Tryz.prog.cellsOf 363=2:=krx
 rw[l] at g;have c:xs.length=2:=c;obtain⟨m,o,rfl⟩:=acU c;obtain⟨v0,v1,rfl⟩:=acU g;have j:=i 0 _ rfl;have k:=i 1 _ rfl;have k0:Tryz.prog.cellsOf 3=1:=krx
 simp only[k0,auX,ayA,ayB,awQ,axW,auT] at j k;obtain⟨a,e,rfl,_⟩:=DataW.trod_int auQ j;obtain⟨b,f,rfl,_⟩:=DataW.trod_int auQ k
 injection e with e _
 injection f with f _
 subst e;subst f;exact⟨a,b,rfl,by rw[d];rfl⟩
end
section
variable {H:Type}{enc:TypeId×aq->H}{P:Program}{W:ao}{sp:Nat->Bool}{held:Bool}
theorem X3 {t k e:TypeId}(i:P.underlying t=ax (.map k e)){L:List (Lit×DataW H)}{p:List MemPlace}(h:DataW.trod enc P W 0 sp held fuel t cs=ax (.map L,p)) :
  ∃b es clock n entries,cs=[.map (ax b)]∧W.heap[b]?=ax (.map es clock) ∧
   (es.toList.mapM λx=>(keyOf P k x.key).bind λkey=>if x.val.formed P e then (DataW.trod enc P W 0 sp held n e x.val.cells.toList).map λy=>((key,y.1),y.2) else aw)=ax entries ∧
   (entries.map (·.1)).foldr DataW.insert []=L:=by
 cases fuel with
|zero=>simp[DataW.trod] at h
|succ n=>
  unfold DataW.trod at h;rw[i] at h;rcases cs with _|⟨c,_|⟨d,r⟩⟩
  ·simp at h
  ·cases c with
  |map a=>
    cases a with
   |none=>simp at h
   |some b=>
     dsimp only at h;cases g:W.heap[b]? with
    |none=>rw[g] at h;simp at h
    |some o=>
      rw[g] at h;cases o with
     |map es clock=>
       dsimp only at h;split at h
       ·obtain⟨entries,j,f⟩:=ayI.1 h;refine⟨b,es,clock,n,entries,rfl,g,j,?_⟩
        try dsimp only at f
        split at f
        ·injection f with f
         injection f with f _
         injection f with f
        ·cases f
       ·cases h
     |_=>simp at h
  |_=>simp at h
  ·simp at h
end
def rpD {H:Type}:List (Lit×DataW H):=[(.int .i64 16,.agg [.lit (.int .i64 3),.lit (.int .i64 2)]),(.int .i64 17,.agg [.lit (.int .i64 3),.lit (.int .i64 3)]),(.int .i64 18,.agg [.lit (.int .i64 11),.lit (.int .i64 7)])]
def repK (x:MapEntry):Int×Value:=(match x.key with|.int _ n=>n|_=>0,x.val)
theorem V5 {a:Lit}(h:keyOf ah 3 v=ax a):∃n:Int,v=.int .i64 n∧a=.int .i64 n:=by
 unfold keyOf at h;rw[auQ] at h;dsimp only at h;unfold mapKey at h;rw[auQ] at h;cases v with
|int q n=>
  dsimp only at h;split at h
  ·rename_i b
   obtain⟨rfl,_⟩:=b
   injection h with h
   exact⟨n,rfl,h.symm⟩
  ·cases h
|_=>simp at h
theorem ZR (a:List (Int×aq))(d:∀p∈a,p∈rpM)(e:∀p∈rpM,p∈a)(k:Int):xX a k=xX rpM k:=by
 unfold xX;cases b:a.find? (λp=>ai (p.1=k)) with
|none=>
  have f:=aAJ.1 b;have:rpM.find? (λp=>ai (p.1=k))=none:=aAJ.2 λp hp=>f p (e p hp);rw[this]
|some p=>
  have hm:=d p (List.mem_of_find?_eq_some b);have c:p.1=k:=by simpa using List.find?_some b
  simp only[rpM,atL,avO,or_false] at hm;rcases hm with rfl|rfl|rfl<;>(dsimp only at c;subst c;rfl)
theorem ahV {rest:List (String×DataW Unit)}(h:laidMet ah (("foliant/inflate.repeats",.map rpD)::rest) W):Rp (Mem.all W):=by
 obtain⟨ps,⟨g',t',cs,fuel,p,q,hg',ht',hvar,hd,_,_⟩,_⟩:=h;obtain rfl:=awT ((show Tryz.prog.globalNamed "foliant/inflate.repeats"=ax 3 by kernel_rfl).symm.trans hg')
 obtain rfl:=awT ((show (Tryz.prog.globals[3]?).map (·.type)=ax 365 by kernel_rfl).symm.trans ht');obtain⟨b,es,clock,n,entries,hcs,hb,hm,hs⟩:=X3 mpRp hd;have hcell:=World.var?_cell (show Tryz.prog.globalNamed "foliant/inflate.repeats"=ax 3 by kernel_rfl) hvar 0
 have hc0:cs[0]?=ax (.map (ax b)):=by
  rw[<-Array.getElem?_toList,hcs];rfl
 rw[hc0] at hcell;have hgb:3 < W.heap.size:=by
  have:=hcell;unfold World.cell? at this;cases hh:W.heap[3]? with
 |none=>simp[hh] at this
 |some o=>exact dY hh
 obtain⟨m1,m2⟩:=mapM_mem hm;have hL:∀y:Lit×DataW Unit,y∈(rpD:List (Lit×DataW Unit))↔y∈entries.map (·.1):=λy=>by rw[<-hs];exact Mq y _
 -- each entry
 have ent:∀x∈es.toList,∃k a c:Int,x.key=.int .i64 k∧x.val=.agg #[.int .i64 a,.int .i64 c]∧((Lit.int .i64 k,DataW.agg [.lit (.int .i64 a),.lit (.int .i64 c)]):Lit×DataW Unit)∈rpD:=by
  intro x hx;obtain⟨en,hen,hf⟩:=m1 x hx;obtain⟨kl,hk,hf⟩:=ayI.1 hf;obtain⟨k,hk1,rfl⟩:=V5 hk;split at hf
  ·rename_i hfm
   obtain⟨y,hy,rfl⟩:=avM.1 hf;obtain⟨a,c,hcs2,hy1⟩:=SU _ _ _ hy;refine⟨k,a,c,hk1,?_,?_⟩
   ·cases hv:x.val with
   |agg vs=>
     rw[hv] at hcs2;have:vs.toList=[ad a,ad c]:=hcs2;rw[show vs=vs.toList.toArray by simp,this]
   |_=>rw[hv] at hfm;exact absurd hfm (by unfold Value.formed;rw[underlying363];simp)
   ·rw[hL,<-hy1];exact auH.2 ⟨_,hen,rfl⟩
  ·cases hf
 have inR:∀{k a c:Int},((Lit.int .i64 k,DataW.agg [.lit (.int .i64 a),.lit (.int .i64 c)]):Lit×DataW Unit)∈rpD->(k,Value.agg #[.int .i64 a,.int .i64 c])∈rpM:=by
  intro k a c h;simp only[rpD,atL,avO,or_false,axH] at h;rcases h with ⟨h1,h2⟩|⟨h1,h2⟩|⟨h1,h2⟩<;>(injection h1 with _ h1;injection h2 with h2;simp only[ayJ,and_true] at h2;obtain⟨h3,h4⟩:=h2;injection h3 with h3;injection h4 with h4;injection h3 with _ h3;injection h4 with _ h4;subst h1;subst h3;subst h4;simp[rpM])
 refine⟨b,hgb,hcell,dY hb,es.toList.map repK,ZR _ ?_ ?_,es,clock,hb,?_⟩
 ·intro p hp;obtain⟨x,hx,rfl⟩:=auH.1 hp;obtain⟨k,a,c,e1,e2,e3⟩:=ent x hx;have:repK x=(k,.agg #[ad a,ad c]):=by unfold repK;rw[e1,e2]
  rw[this];exact inR e3
 ·intro p hp;have key:∀{k a c:Int},((Lit.int .i64 k,DataW.agg [.lit (.int .i64 a),.lit (.int .i64 c)]):Lit×DataW Unit)∈rpD->(k,Value.agg #[.int .i64 a,.int .i64 c])∈es.toList.map repK:=by
   intro k a c h;obtain⟨en,hen,he⟩:=auH.1 ((hL _).1 h);obtain⟨x,hx,hf⟩:=m2 en hen;obtain⟨k',a',c',e1,e2,_⟩:=ent x hx;obtain⟨kl,hk,hf⟩:=ayI.1 hf;obtain⟨k2,hk1,rfl⟩:=V5 hk;split at hf
   ·obtain⟨y,hy,rfl⟩:=avM.1 hf;obtain⟨a2,c2,hcs2,hy1⟩:=SU _ _ _ hy;rw[e2] at hcs2;have hcs2:[Value.int .i64 a',Value.int .i64 c']=[ad a2,ad c2]:=hcs2;simp only[ayJ,and_true] at hcs2;obtain⟨q1,q2⟩:=hcs2
    injection q1 with _ q1
    injection q2 with _ q2
    rw[e1] at hk1
    injection hk1 with _ hk1
    dsimp only at he;rw[hy1] at he
    injection he with he1 he2
    injection he1 with _ he1
    injection he2 with he2
    simp only[ayJ,and_true] at he2;obtain⟨w1,w2⟩:=he2
    injection w1 with w1
    injection w2 with w2
    injection w1 with _ w1
    injection w2 with _ w2
    refine auH.2 ⟨x,hx,?_⟩;unfold repK;rw[e1,e2];subst q1;subst q2;subst hk1;subst he1;subst w1;subst w2;rfl
   ·cases hf
  simp only[rpM,atL,avO,or_false] at hp;rcases hp with rfl|rfl|rfl
  ·exact key (by simp[rpD])
  ·exact key (by simp[rpD])
  ·exact key (by simp[rpD])
 ·rw[axB];refine axY λx hx=>?_;obtain⟨k,a,c,e1,e2,e3⟩:=ent x hx;show (x.key,x.val)=(Om (repK x).1,(repK x).2);unfold repK;rw[e1];rfl
end
section
open Eng Go.RowKit
def aiN (w:ao)(g:Nat):World:=
 { w with heap:=(w.heap.modify g λ
  |.cells _ t frozen=>.cells #[.map (ax w.heap.size)] t frozen
  |o=>o).push (.map #[⟨ad 16,.agg #[ad 3,ad 2],0⟩,⟨ad 17,.agg #[ad 3,ad 3],1⟩,⟨ad 18,.agg #[ad 11,ad 7],2⟩] 3) }
end
section
open Eng Go.RowKit Go.ChangeShapes Go.WideShapes Go.ChangeAt
set_option maxRecDepth 100000
theorem SP {α:Type}:∀{l:List α},l.length=3->∃a b c,l=[a,b,c]
|[a,b,c],_=>⟨a,b,c,rfl⟩
section
variable {H:Type}{enc:TypeId×aq->H}{W:ao}{sp:Nat->Bool}{held:Bool}
end
theorem X2 {g:Nat}(h:W.cell? ⟨g,i,aw⟩=ax v):g < W.heap.size:=by
 unfold World.cell? at h;cases a:W.heap[g]? with
|none=>simp[a] at h
|some o=>exact dY a
theorem agJ (h:Lib.TabIs ah W "foliant/inflate.order" .i64 [16,17,18,0,8,7,9,6,10,5,11,4,12,3,13,2,14,1,15]):Od (Mem.all W):=by
 refine⟨X2 (Lib.TabIs.cell (g:=2) h krx 0 dc),λi hi=>?_⟩;have:=Lib.TabIs.cell (g:=2) h krx i hi;rw[show (Mem.all W).w=W from rfl,this];rcases lt19 hi with rfl|rfl|rfl|rfl|rfl|rfl|rfl|rfl|rfl|rfl|rfl|rfl|rfl|rfl|rfl|rfl|rfl|rfl|rfl<;>rfl
theorem aaC (h:Lib.TabIs ah W "foliant/ascii.powers" .u64 [52200625,614125,7225,85,1]):Pws (Mem.all W):=by
 refine⟨X2 (Lib.TabIs.cell (g:=0) h krx 0 dc),λi hi=>?_⟩;have:=Lib.TabIs.cell (g:=0) h krx i hi;rw[show (Mem.all W).w=W from rfl,this];rcases lt5 hi with rfl|rfl|rfl|rfl|rfl<;>rfl
end
section
open Eng Go.RowKit Go.ChangeShapes Go.WideShapes Go.ChangeAt
set_option maxRecDepth 100000
theorem alL {a b:DataW H}(h:Rows.uptoSmall H [a,b]=av):Rows.uptoBulk a<=1048576:=by
 have h:Rows.uptoBulkAll [a,b]<=1048576:=atQ h;simp only[Rows.uptoBulkAll] at h;omega
section
variable {H:Type}{enc:TypeId×aq->H}{W:ao}{sp:Nat->Bool}{held:Bool}
theorem Kd:∀xs:List (List UInt8),(xs.flatMap λs=>[Value.string ⟨s.toArray⟩])=bF xs
|[]=>rfl
|s::xs=>by rw[avE,Kd xs];rfl
theorem U7 (fuel:Nat)(cs:List aq)(x:DataW H×List MemPlace)(h:DataW.trod enc ah W 0 sp held fuel 9 cs=ax x):∃s:List UInt8,cs=[ae s]∧cs.length=1∧0<=Rows.uptoBulk x.1:=by
 obtain⟨s,rfl,rfl,_⟩:=DataW.trod_string atB h;exact⟨s.data.toList,rfl,rfl,atU _⟩
theorem XB (fuel:Nat)(cs:List aq)(x:DataW H×List MemPlace)(h:DataW.trod enc ah W 0 sp held fuel 27 cs=ax x):∃p:Pm,cs=pmC p∧cs.length=3∧0<=Rows.uptoBulk x.1:=by
 obtain⟨xs,n,rfl,rfl,j,d,e⟩:=DataW.trod_struct underlying27 h;have o:Tryz.prog.cellsOf 27=3:=krx
 rw[o] at j;have d:xs.length=3:=d;obtain⟨q,r,s,rfl⟩:=SP d;obtain⟨v0,v1,v2,rfl⟩:=SP j;have k:=e 0 _ rfl;have l:=e 1 _ rfl;have m:=e 2 _ rfl;have k0:Tryz.prog.cellsOf 3=1:=krx
 simp only[k0,auX,ayA,ayB,awQ,axW,auT] at k l m;obtain⟨a,f,_,_⟩:=DataW.trod_int auQ k;obtain⟨b,g,_,_⟩:=DataW.trod_int auQ l;obtain⟨c,i,_,_⟩:=DataW.trod_int auQ m
 injection f with f _
 injection g with g _
 injection i with i _
 subst f;subst g;subst i;exact⟨⟨a,b,c⟩,rfl,rfl,atU _⟩
theorem WJ {q:Nat}{d:DataW H}{ps:List MemPlace}(b:Value.okWide ah W .any q 42 v)(hd:DataW.Trod enc ah W 0 sp held 42 v d ps) :
  ∃(ns:List (List UInt8)) (pl:List Pm) (vn vp:aq) (data:List UInt8),v=asV vn vp data∧SlA (InW W) W vn 1 ns.length (bF ns)∧SlA (InW W) W vp 3 pl.length (pl.flatMap pmC):=by
 obtain⟨cs,rfl,_⟩:=okWide_struct underlying42 b;obtain⟨fuel,h⟩:=hd;have h:DataW.trod enc ah W 0 sp held fuel 42 cs.toList=ax (d,ps):=h;obtain⟨xs,n,rfl,r,k,a,e⟩:=DataW.trod_struct underlying42 h;have t:Tryz.prog.cellsOf 42=3:=krx
 rw[t] at k;have a:xs.length=3:=a;obtain⟨A,B,C,rfl⟩:=SP a;obtain⟨v0,v1,v2,c⟩:=SP k;rw[c] at e;have l:=e 0 _ rfl;have m:=e 1 _ rfl;have o:=e 2 _ rfl;have k0:Tryz.prog.cellsOf 22=1:=krx
 have u:Tryz.prog.cellsOf 40=1:=krx
 have w:Tryz.prog.cellsOf 9=1:=krx
 simp only[k0,u,w,auX,ayA,ayB,awQ,axW,auT] at l m o;obtain⟨v',ds,is,f,x,y,_⟩:=ET (R:=λcs (s:List UInt8)=>cs=[ae s]) (wt:=λ_:List UInt8=>0) (n:=1) atN krx dc U7 l;obtain⟨z,es,js,g1,g2,g3,_⟩:=ET (R:=λcs (p:Pm)=>cs=pmC p) (wt:=λ_:Pm=>0) (n:=3) awG krx dc XB m;obtain⟨s,g,_,_⟩:=DataW.trod_string atB o
 injection f with f _
 injection g1 with g1 _
 injection g with g _
 subst f;subst g1;subst g;have i:ds=bF is:=(Rws.flat y).trans (Kd is);have j:es=js.flatMap pmC:=Rws.flat g3;subst i;subst j;refine⟨is,js,v0,v1,s.data.toList,?_,x,g2⟩;have:cs=cs.toList.toArray:=sm
 rw[this,c];rfl
end
theorem filterEncodes_row (o:Ob)(v vn vp:aq)(ns:List (List UInt8))(pl:List Pm)(data:List UInt8)(w:ao)(a:Rp (Mem.all w))(b:Od (Mem.all w))(c:Pws (Mem.all w))(d:OV (InW w) w v o)(hw:o.wt<=1048576)(e:SlA (InW w) w vn 1 ns.length (bF ns))(hp:SlA (InW w) w vp 3 pl.length (pl.flatMap pmC)) :
  Ret ah 5 #[v,asV vn vp data] w (λv w'=>v=.bool av∧Below w.heap.size w w'):=
 jJ.told (G5 o v ns pl vn vp data (Mem.all w) w a b c om (Mem.afX w) d e hp)
end
end Go.Proofs.YtlipjfcbjemicaaGreatDoor
