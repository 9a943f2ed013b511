/- Parts of the proof. -/
import Derived.Test.YtlgndjkieegnaaaGreatDoorRows
import Derived.Test.YtlgndjkieegnaaaGreatDoorMcmkgepbp
set_option linter.all false
set_option maxRecDepth 20000
open Go.Proofs.Tryz
open Go.Proofs.Tryz renaming prog->ah
open Option renaming some->ay,none->ax
open Bool renaming true->aw,false->au
open Go renaming Value->aq,World->ao
open Decidable renaming decide->ai
namespace Go.Proofs.YtlgndjkieegnaaaGreatDoor
variable{D:TypeId}{K:VWP}{M N:Eng.Mem}{PK:PKT}{R:Ending->FrameMode->ao->Prop}{W w:ao}{a:Int}{args ca fa:Array aq}{b f i j:Nat}{cb:Array Bool}{cs:List aq}{key:List UInt8}{o:Ob}{pv t0 v vc vk:aq}{q:Bool}{u:FrameMode}{xo yo:Operand}{t0 t1:aq}{k0:Eng.KT}
section
open Eng Go.RowKit
def kg (x:Pm):List UInt8->List UInt8->Nat:=ly x.p x.c
def ei (x:Pm)(s:List UInt8):Int:=
 if ¬x.ok then 1
 else if 1048576 < s.length then 5
 else if x.p=1 then 0
 else if s.length % (x.c*x.n).toNat≠0 then 16
 else if 10<=x.p∧1048576 < s.length+s.length / (x.c*x.n).toNat then 5
 else 0
def dm (x:Pm)(s:List UInt8):List UInt8:=if x.p=1 then s else ft (kg x) x.c (x.c*x.n).toNat x.head (s.length+1) s []
theorem xl {x:Pm}{s:List UInt8}(h:ei x s=0):gl x (dm x s)=(s,0)∧(dm x s).length<=1048576:=by
 unfold ei at h;by_cases d:x.ok
 case neg=>rw[auC d] at h;cases h
 rw[auB (by simp[d])] at h;by_cases t:1048576 < s.length
 ·rw[auC t] at h;cases h
 rw[auB t] at h;have l:=Pm.mul_pos d;obtain⟨n,v⟩:∃n:Nat,x.c*x.n=(n:Int):=⟨(x.c*x.n).toNat,om⟩;unfold gl dm;rw[v] at h l ⊢;rw[auJ] at h ⊢;by_cases j:x.p=1
 ·simp only[auC j];rw[auB (by simp[d]),auB om];exact⟨rfl,om⟩
 rw[auB j] at h;simp only[auB j];by_cases m:s.length % n=0
 case neg=>rw[auC m] at h;cases h
 rw[auB (by simp[m])] at h;have g:0 < n:=om
 have o:s.length=s.length / n*n:=by
  have:=Nat.div_add_mod s.length n;rw[m,awF,axH] at this;exact this.symm
 have u:x.head=0∨x.head=1:=by unfold Pm.head;split<;>simp
 have hlen:=qu (T:=kg x) (c:=x.c) g u (s.length / n) (s.length+1) s [] o om;have i:x.p=2∨(10<=x.p∧x.p<=15):=by
  rcases d.1 with h|h|h
  ·exact absurd h j
  ·exact .inl h
  ·exact .inr h
 have e:=ui (T:=kg x) (c:=x.c) d.2.1 g u (λa b=>yr i x.c a b) (λq a b=>by
  unfold Pm.head at q;have:x.p=2:=by
   rcases i with h|h
   ·exact h
   ·rw[auC h.1] at q;cases q
  unfold kg ly;rw[auC this]) (s.length / n) (s.length+1) ((ft (kg x) x.c n x.head (s.length+1) s []).length+1) s [] [] o om (by
   rw[hlen];have:s.length / n*1<=s.length / n*(n+x.head):=aAQ _ om;omega)
 have hle:(ft (kg x) x.c n x.head (s.length+1) s []).length<=1048576:=by
  rw[hlen,Nat.mul_add,<-o];have k:x.head=if 10<=x.p then 1 else 0:=rfl
  by_cases f:10<=x.p
  ·rw[auC f] at k;rw[k,avC];refine Nat.le_of_not_lt λr=>?_;rw[auC ⟨f,r⟩] at h;cases h
  ·rw[auB f] at k;rw[k];omega
 refine⟨?_,hle⟩;rw[auB (by simp[d]),auB om,auB (by rw[hlen,Nat.mul_mod_left];simp),e];rfl
def encT (r:List UInt8)(e:Int):Value:=.tuple #[ae r,ad e]
theorem akX {T:TypeId}(a:Tryz.prog.underlying D=ay (.int .u8))(b:Tryz.prog.underlying T=ay (.int .i64))(n:Nat)(W:ao):(tG T D (ad (n:Int))).run ah W=.ok (.value (.int .u8 ((UInt8.ofNat n).toNat:Int))) W:=by
 rw[<-RO];exact eI (by rw[b];rfl) a
theorem Q6 (x:Pm)(s:List UInt8)(w:ao)(hs:s.length<=1000000000):Ret ah 188 #[pmV x,ae s] w (λv w'=>v=encT (if ei x s=0 then dm x s else []) (ei x s)∧Below w.heap.size w w'):=by
 refine aX λK B=>D8 ?_;generalize i:ei x s=X at B;unfold ei at i;unfold zT nz;refine Kd x (Own.start w) λb w1 d=>?_;rw[Pr d 0 rfl];refine aK d (Sk x w1) ?_;rintro _ w2 rfl d;rw[vC,Pr d 0 rfl];obtain⟨n,hn,b5,b6⟩:∃n:Nat,max (if x.ok then x.c*x.n else 0) 1=(n:Int)∧1<=n∧n<=8192:=by
  by_cases h:x.ok
  ·rw[auC h];have h1:=Pm.mul_pos h;have r:=h.2.2.2.2;exact⟨(x.c*x.n).toNat,om,om,om⟩
  ·rw[auB h];exact⟨1,dc,dc,dc⟩
 rw[hn];refine aK d (Kh x s n w2 om hs) ?_;rintro _ w3 rfl d;simp only[eC];by_cases h:x.ok
 case neg=>
  rw[auC h] at i ⊢;simp only[show ai ((1:Int)≠0)=aw from rfl,i_t];exact B _ _ ⟨by rw[<-i];rfl,d.done⟩
 rw[auB (by simp[h])] at i ⊢;have J:(x.c*x.n).toNat=n:=by
  rw[auC h] at hn;have h1:=Pm.mul_pos h;omega
 rw[J] at i;by_cases r:1048576 < s.length
 ·rw[auC r] at i ⊢;simp only[show ai ((5:Int)≠0)=aw from rfl,i_t];exact B _ _ ⟨by rw[<-i];rfl,d.done⟩
 rw[auB r] at i ⊢;by_cases y:x.p=1
 ·rw[auB (by simp[y])];rw[auC y] at i;simp only[show ai ((0:Int)≠0)=au from rfl,i_f];rw[Oo,Om d 0 rfl];simp only[y,rs,auE,i_t];exact B _ _ ⟨by rw[<-i];unfold dm;rw[auC rfl,auC y];rfl,d.done⟩
 rw[auB y] at i;by_cases L:s.length % n=0
 case neg=>
  rw[auC ⟨y,L⟩];rw[auC L] at i;simp only[show ai ((16:Int)≠0)=aw from rfl,i_t];exact B _ _ ⟨by rw[<-i];rfl,d.done⟩
 rw[auB (by simp[L])];rw[auB (by simp[L])] at i;simp only[show ai ((0:Int)≠0)=au from rfl,i_f];rw[Oo,Om d 0 rfl];simp only[y,rs,auF,i_f];have hdiv:s.length / n<=s.length:=azS _ _;obtain⟨q,hq⟩:∃q,s.length / n=q:=⟨_,rfl⟩;rw[hq] at i hdiv;have C:∀{PK:PKT} {K:VWP} {W:ao},DoX ah (iQ .quo 3 (ad (s.length:Int)) (ad (n:Int))) W PK K=K (ad (q:Int)) W:=λ{PK K W}=>by
  rw[RM om,show ((s.length:Nat):Int).tdiv (n:Int)=((s.length / n:Nat):Int) from rfl,hq,aA om om]
 have hc:1<=x.c∧x.c<=1000000:=⟨h.2.1,by have:=h.2.2.2.1;omega⟩;have b7:x.p=2∨(10<=x.p∧x.p<=15):=by
  rcases h.1 with h|h|h
  ·exact absurd h y
  ·exact .inl h
  ·exact .inr h
 have main:X=0->DoX ah (mB .len #[9] 3 #[au] #[ae s]) w3 (pk K) λt41 w=>
   DoX ah (mB .len #[9] 3 #[au] #[ae s]) w (pk K) λt43 w=>
   DoX ah (iQ .quo 3 t43 (ad (n:Int))) w (pk K) λt45 w=>
   DoX ah (iQ .add 3 t41 t45) w (pk K) λt46 w=>
   DoX ah (Ld 80 (ad 0) t46) w (pk K) λt47 w=>
   DoX ah (mFA 53 (af b 0) 1) w (pk K) λt48 w=>
   DoX ah (aH 3 t48) w (pk K) λt49 w=>
   DoX ah (aV 235 #[(2,t49)]) w (pk K) λt50 w=>
   DoX ah (fK 235) w (pk K) λt9 w=>
   DoX ah (aN 235 t9 t50) w (pk K) λ_ w=>
   Es [ae s,t47] w (λM w N1=>∀_:Sg,lS (M.getD 0 undef) (af b 0) (ad (n:Int)) (M.getD 1 undef) t9 w N1 K):=by
  intro N;have m:∀W',Below w.heap.size w W'->K (.returned (encT (dm x s) 0)) W':=λW' hB=>B _ _ ⟨by rw[auC N,N],hB⟩;clear B;unfold dm at m;rw[auB y,J] at m;rw[iU auQ,iU auQ,C]
  try simp only[rs]
  rw[aA om om,show (s.length:Int)+(q:Int)=((s.length+q:Nat):Int) by omega];refine aaE om d λF w4 d=>?_;rw[fpm1,pm_1 d 1 rfl];have e:∀W:ao,(aV 235 #[(2,ad x.c)]).run ah W=.ok (.value (rwV cI cI x.c)) W:=λW=>by kernel_rfl
  refine aD (e w4) |>.mpr ?_;refine bK (λb=>af b 0) (rwC cI cI 0) 235 (λ_=>by kernel_rfl) d λo w5 d=>?_;refine jH 0 d rfl (new:=rwC cI cI x.c) szRw (Yl rfl rfl) rfl λw6 d=>?_;have d:=d.nilU 5 1;have d:bT NoB w w6 [pP cI [],rwE o cI cI x.c,pP F [],pmE b x]:=d;have d:=d.perm (L':=[pP F [],pP cI [],rwE o cI cI x.c,pmE b x]) (by
   refine .trans (.cons _ (.swap _ _ _)) (.swap _ _ _))
  generalize z:ft (kg x) x.c n x.head (s.length+1) s []=E at m;refine loop (λvs W=>∃(t prev out:List UInt8) (ov va l:aq) (e:Ent),vs=[ae t,ov]∧t.length<=s.length∧t.length % n=0∧out.length+2*t.length<=2*s.length∧prev.length<=1000000∧BRd e l prev∧va.oneCell'=aw∧(∃f,t.length < f∧out++ft (kg x) x.c n x.head f t prev=E)∧bT NoB w W [pP ov out,e,rwE o va l x.c,pmE b x]) (λvs _=>BW (vs.getD 0 undef)) ⟨s,[],[],F,cI,cI,_,rfl,om,L,sm,sm,λW h=>zP h,rfl,⟨s.length+1,om,by rw[avU];exact z⟩,d⟩ ?_;clear d z;rintro vs w6 ⟨t,prev,out,ov,va,l,e,rfl,c0,a1,c1,c2,G,c3,⟨f,hf,z⟩,d⟩ _;simp only[lS,gd,iN,dx,bnx,lnx];obtain⟨f,rfl⟩:∃f',f=f'+1:=⟨f - 1,om⟩;rw[ft] at z;rw[iU auQ]
  try simp only[rs]
  by_cases V:t=[]
  ·rw[auC V,avA] at z;simp only[show ai ((0:Int) < (t.length:Int))=au from auD (by rw[V];decide),i_f];rw[JU avH awI auQ (zP (d.at_ 0 rfl)),z];exact m _ d.done
  have c4:0 < t.length:=azL.2 V;rw[auB V] at z;simp only[show ai ((0:Int) < (t.length:Int))=aw from auG om,i_t];have a6:n<=t.length:=Nat.le_of_dvd om (Nat.dvd_of_mod_eq_zero a1);refine join λJ2 a7=>?_;have H:l.oneCell'=true:=nS (G w6 (d.at_ 1 rfl));have k:(t.take n).length=n:=by rw[auM];omega
  generalize O:t.take n=row at z k;have Y:∀tag:Int,(dt tag prev row x.c).length=n:=λtag=>by rw[jn,k]
  -- behind a row
  have next:∀(b2 cap:Nat) (v':aq) (new:List UInt8) (W:ao),bT NoB w W [.mkr 5 b2 row,pP v' (out++new),e,rwE o l (bO b2 0 n cap) x.c,pmE b x]->new.length<=2*n ->
    new=(if x.head=1 then [UInt8.ofNat (kg x prev row)] else [])++dt (kg x prev row:Nat) prev row x.c->J2 [v'] W:=by
   intro b2 cap v' new W d c5 P;refine a7 _ _ λ_=>?_;simp only[tW,gd,nz];rw[TH auQ om om,auJ];have Q:BRd (.mkr 5 b2 row) (bO b2 0 n cap) row:=by
    have:=@X6 b2 cap row
    rwa [k] at this
   have R:(t.drop n).length=t.length - n:=auT;refine bC ⟨t.drop n,row,out++new,v',l,_,_,rfl,om,?_,by rw[auH];omega,om,Q,H,⟨f,om,?_⟩,?_⟩ ?_
   ·rw[R,Nat.mod_eq_sub_mod a6] at *;omega
   ·rw[P,auN,auN];exact z
   ·exact (bT.swap d).sub (.cons_cons _ (.cons_cons _ (.cons _ (azV _))))
   ·show BW (ae (t.drop n)) < BW (ae t);rw[xC,xC,R];omega
  have fin:∀b2 cap W,bT NoB w W [.mkr 5 b2 row,pP ov out,e,rwE o l (bO b2 0 row.length cap) x.c,pmE b x]->iJ (af b 0) ov (af o 0) W J2 K:=by
   intro b2 cap W d;rw[k] at d;unfold iJ nz;have hA:∀W,bT NoB w W [.mkr 5 b2 row,pP ov out,e,rwE o l (bO b2 0 n cap) x.c,pmE b x]->Sl W l 1 prev.length (bA prev):=λW d=>G W (d.at_ 2 rfl);have hR:∀W,bT NoB w W [.mkr 5 b2 row,pP ov out,e,rwE o l (bO b2 0 n cap) x.c,pmE b x]->Sl W (bO b2 0 n cap) 1 row.length (bA row):=λW d=>by
    have:=Wm (cap:=cap) (d.at_ 0 rfl);rw[k] at this ⊢;exact this
   rw[Oo,Om d 4 rfl]
   try simp only[rs]
   have b4:2<=x.p∧x.p<=15:=om
   rw[aA om om];refine join λJ4 a8=>?_;rw[Oo,Om d 4 rfl]
   try simp only[rs]
   by_cases r:x.p=2
   ·simp only[r,auE,i_t];rw[EN (d.agg 3 rfl Qb)];refine TX (tag:=1) d hA hR hc om λg Z d=>?_;refine bZ 2 avH O5 dc d rfl (d.sl 0 rfl 1 row.length row.length (by rw[jM,jn,avC])) fW om om λv' w8 d=>?_;have hT:kg x prev row=1:=by unfold kg ly;rw[auC r]
    have hh:¬x.head=1:=by unfold Pm.head;rw[auB om];decide
    refine next b2 cap v' (dt 1 prev row x.c) w8 ?_ (by rw[Y];omega) (by rw[auB hh,hT];rfl)
    rw[tU,Y,<-k];rw[<-k] at d;exact d.tail
   simp only[r,auF,i_f];have S:10<=x.p:=om
   have hh:x.head=1:=by unfold Pm.head;rw[auC S]
   have D:∀(tag:Nat) (W:ao),tag=kg x prev row->bT NoB w W [.mkr 5 b2 row,pP ov out,e,rwE o l (bO b2 0 n cap) x.c,pmE b x]->J4 [ov,ad (tag:Int)] W:=by
    intro tag W U d;refine a8 _ _ λ_=>?_;simp only[tR,gd];have d:=d.drew;refine⟨λW=>(rwE o l (bO b2 0 n cap) x.c).is W,d.at_ 3 rfl,?_⟩;refine aP _ (λW=>akX awI avY tag W) ?_;refine fS (rwV l (bO b2 0 n cap) x.c) (λW h=>aY (AtV.agg Qb (cs:=rwC l (bO b2 0 n cap) x.c) rfl λj u hj=>by rw[auP];exact aI (T:=235) h hj)) ?_;refine UY (UInt8.ofNat tag) d λb8 w9 d=>⟨d.at_ 4 rfl,?_⟩;refine bZ 2 avH O5 dc d rfl (sQ (d.at_ 0 rfl) dc rfl) fW om om λv' b0 d=>⟨d.at_ 4 rfl,?_⟩;have d:bT NoB w b0 [.mkr 5 b2 row,pP v' (out++[UInt8.ofNat tag]),e,rwE o l (bO b2 0 n cap) x.c,pmE b x]:=by
     rw[tU];exact d.tail
    refine TX (tag:=(tag:Int)) d (λW d=>G W (d.at_ 2 rfl)) (λW d=>by
     have:=Wm (cap:=cap) (d.at_ 0 rfl);rw[k] at this ⊢;exact this) hc om λg c6 d=>⟨d.at_ 4 rfl,?_⟩
    refine bZ 2 avH O5 dc d rfl (d.sl 0 rfl 1 row.length row.length (by rw[jM,jn,avC])) fW (by rw[auH,awM];omega) (by rw[auH,awM];omega) λb1 b3 d=>⟨d.at_ 4 rfl,?_⟩;refine next b2 cap b1 ([UInt8.ofNat tag]++dt (tag:Int) prev row x.c) b3 ?_ (by rw[auH,Y,awM];omega) (by rw[auC hh,U])
    rw[<-auN,tU,Y,<-k];rw[<-k] at d;exact d.tail
   by_cases A:x.p=15
   ·simp only[A,auE,i_t];rw[EN (d.agg 3 rfl Qb)];refine alC d hA hR hc om λZ d=>?_;exact D _ Z (by unfold kg ly;rw[auB r,auC A]) d
   ·simp only[A,auF,i_f];rw[show x.p - 10=(((x.p - 10).toNat:Nat):Int) by omega];exact D _ W (by unfold kg ly;rw[auB r,auB A]) d
  have d:=d.drew;refine⟨λW=>∃a,(rwE o a l x.c).is W,⟨va,d.at_ 2 rfl⟩,?_⟩;refine aP _ (λ_=>bE Ai) (fS _ (λW ⟨a,h⟩=>BG h) ?_);refine aP _ (λ_=>acC auQ om om) ?_;rw[auJ,O];refine aP _ (λ_=>bE SD) ⟨?_,?_⟩
  ·refine Np auQ avH awI d λb cap Z d=>⟨⟨va,d.at_ 3 rfl⟩,?_⟩;refine aO 3 d rfl krx H (by show 0+0 < 3;omega) λw8 d=>?_;refine aP _ (λ_=>bE Ai) ?_;refine aO 3 d rfl krx rfl (by show 0+1 < 3;omega) λw9 d=>?_;exact fin b cap w9 d
  ·refine aO 2 d rfl krx H (by show 0+0 < 3;omega) λw8 d=>?_;refine Np auQ avH awI d λb cap Z d=>⟨⟨l,d.at_ 3 rfl⟩,?_⟩;refine aP _ (λ_=>bE Ai) ?_;refine aO 3 d rfl krx rfl (by show 0+1 < 3;omega) λw9 d=>?_;exact fin b cap w9 d
 rw[Oo,Om d 0 rfl]
 try simp only[rs]
 by_cases I:10<=x.p
 ·simp only[I,auE,gd,rs];rw[iU auQ,iU auQ,C]
  try simp only[rs]
  rw[aA om om];by_cases h5:1048576 < s.length+q
  ·rw[auC ⟨I,h5⟩] at i;simp only[show ai ((1048576:Int) < (s.length:Int)+(q:Int))=aw from auG om,i_t];exact B _ _ ⟨by rw[<-i];rfl,d.done⟩
  ·rw[auB om] at i;simp only[show ai ((1048576:Int) < (s.length:Int)+(q:Int))=au from auD om,i_f];exact main i.symm
 ·rw[auB om] at i;simp only[I,auF,gd,rs,i_f];exact main i.symm
def PdR (x:Pm):Prop:=∀(s:List UInt8) (w:ao),s.length<=1000000000->Ret ah 191 #[pmV x,ae s] w (λv w'=>v=zlT (gl x s)∧Below w.heap.size w w')
def PeR (x:Pm):Prop:=∀(s:List UInt8) (w:ao),s.length<=1000000000->Ret ah 188 #[pmV x,ae s] w (λv w'=>v=encT (if ei x s=0 then dm x s else []) (ei x s)∧Below w.heap.size w w')
theorem pdR (x:Pm):PdR x:=Q4 x
theorem peR (x:Pm):PeR x:=Q6 x
theorem xm (c:Int)(n h:Nat):∀(f:Nat) (s prev out:List UInt8),(ky c n h f s prev out).1.length<=out.length+s.length
|0,_,_,_=>avG _
|f+1,s,prev,out=>by
  unfold ky;split
  ·exact Nat.le_add_right _ _
  generalize (if h=1 then (s.getD 0 0).toNat else 1:Nat)=tag;split
  ·exact avG _
  dsimp only;have a:(ej (tag:Int) prev c [] ((s.drop h).take n)).length=min n (s.length - h):=by
   rw[qt,auM,auT];simp
  generalize ej (tag:Int) prev c [] ((s.drop h).take n)=row at a;have:=xm c n h f (s.drop (n+h)) row (out++row);rw[auH,auT] at this;omega
theorem aan (x:Pm)(s:List UInt8):(gl x s).1.length<=s.length:=by
 unfold gl;split
 ·exact avG _
 split
 ·exact avG _
 split
 ·exact auL _
 split
 ·exact avG _
 ·have:=xm x.c (x.c*x.n).toNat x.head (s.length+1) s [] [];simpa using this
namespace Ff
def MP (n:List UInt8)(p:Pm)(s:List UInt8):List UInt8×Int:=
 if full n=nHx then pq s 1048576
 else if full n=n85 then ry s 1048576
 else if full n=nRL then ru s 1048576
 else if full n=nFl then
  if ¬p.ok then ([],1)
  else if (ie s 1048576).2≠0 then ([],(ie s 1048576).2)
  else gl p (ie s 1048576).1
 else ([],15)
def chain:List (List UInt8)->List Pm->List UInt8->List UInt8×Int
|n::ns,p::ps,s=>if (MP n p s).2≠0 then ([],(MP n p s).2) else chain ns ps (MP n p s).1
|_,_,s=>(s,0)
def decode (o:Ob):List UInt8×Int:=if (of o).2.2≠0 then ([],(of o).2.2) else chain (of o).1 (of o).2.1 o.s
theorem anX {o:Ob}:(of o).2.1.length=(of o).1.length:=by
 unfold of;by_cases b:o.k≠9
 ·rw[auC b];rfl
 rw[auB b];by_cases c:(names o).2≠0
 ·rw[auC c];rfl
 rw[auB c];by_cases a:(yW o (names o).1.length).2≠0
 ·rw[auC a];rfl
 rw[auB a];split
 ·rfl
 ·exact OY (Decidable.not_not.1 a)
end Ff
theorem UU:cW ah 171=true:=krx
theorem VF:cW ah 169=true:=krx
theorem OX:cW ah 144=true:=krx
theorem nFnU:eS ah 142=true:=krx
theorem nFnS:eS ah 88=true:=krx
theorem nFnW:eS ah 128=true:=krx
theorem adR:nN ah 130 0=ay 0:=krx
theorem aeF:nN ah 130 1=ay 1:=krx
theorem Py:(Tryz.prog.info? 130).map (·.size)=ay 2:=krx
theorem Yw:FU ah 130=ay 2:=krx
theorem amQ:FU ah 158=ay 3:=krx
theorem szFt:(Tryz.prog.info? 158).map (·.size)=ay 3:=krx
theorem afB:nN ah 158 0=ay 0:=krx
def fnV (f:Nat):Value:=.func (.func f) #[] #[]
def EO (b:Nat):Value:=.func (.func 171) #[] #[af b 0]
def FF (b:Nat):Value:=.func (.func 169) #[] #[af b 0]
def Oe (x:Pm):Value:=.func (.func 143) #[pmV x] #[]
def yF (x:Pm):Value:=.func (.func 144) #[pmV x] #[]
abbrev upE (b f:Nat):Ent:=.cells b [fnV f] 142
abbrev UA (b f:Nat):Ent:=.cells b [fnV f] 88
def wyC (p u:aq):List Value:=[p,u]
abbrev wyE (b:Nat)(p u:aq):Ent:=.cells b (wyC p u) 130
section
variable {w:ao}{PK:PKT}{K:VWP}{S:Nat->Prop}{w0:ao}{L:List Ent}
theorem Y2 (a:bT S w0 w L)(k:∀b W,bT S w0 W (upE b f::L)->K (EO b) W):cR ah 137 #[.func (.func f) #[] #[]] w PK K:=by
 refine gK (IA (k0:=wT λv W=>∃b,v=EO b∧bT S w0 W (upE b f::L)) ?_) (λe W ⟨v,he,b,c,a⟩=>by subst he;subst c;exact k b W a);unfold E2 nz;refine bK (λb=>af b 0) [fnV f] 142 (λ_=>by kernel_rfl) a λb d a=>?_;rw[tZ];exact vG ⟨b,rfl,a⟩
theorem WC (a:bT S w0 w L)(k:∀b W,bT S w0 W (UA b f::L)->K (FF b) W):cR ah 135 #[.func (.func f) #[] #[]] w PK K:=by
 refine gK (IJ (k0:=wT λv W=>∃b,v=FF b∧bT S w0 W (UA b f::L)) ?_) (λe W ⟨v,he,b,c,a⟩=>by subst he;subst c;exact k b W a);unfold FI nz;refine bK (λb=>af b 0) [fnV f] 88 (λ_=>by kernel_rfl) a λb d a=>?_;rw[tZ];exact vG ⟨b,rfl,a⟩
theorem agA {fn fn2:Fn}{a b a2 b2:Array aq}:DoX ah (aV 130 #[(0,.func fn a b),(1,.func fn2 a2 b2)]) w PK K=K (.agg (wyC (.func fn a b) (.func fn2 a2 b2)).toArray) w:=aD krx
theorem anN {n:List UInt8}{x:Pm}(e:bT S w0 w L)
  (q:∀(f g:Nat),(Ff.full n=Ff.nHx∧f=136∧g=138)∨(Ff.full n=Ff.n85∧f=139∧g=140)∨(Ff.full n=Ff.nRL∧f=141∧g=142)->∀i b2 W,bT S w0 W (upE b2 g::UA i f::L)->K (.tuple #[.agg (wyC (FF i) (EO b2)).toArray,ad 0]) W)
  (t:Ff.full n=Ff.nFl->∀W,bT S w0 W L->K (.tuple #[.agg (wyC (Oe x) (yF x)).toArray,ad (if x.ok then 0 else 1)]) W)
  (y:Ff.full n=[]->∀W,bT S w0 W L->K (.tuple #[.agg (wyC .nilFunc .nilFunc).toArray,ad 15]) W):cR ah 97 #[ae n,pmV x] w PK K:=by
 refine⟨LM ?_⟩;unfold Kw nz;refine Kd x e λb3 E e=>?_;refine bK (λb=>af b 0) (wyC .nilFunc .nilFunc) 130 (λ_=>by kernel_rfl) e λr w2 e=>?_;refine BJ (KC n w2) ?_;simp only[ex,rs];have one:∀{fn fn2:Fn} {a b a2 b2:Array aq},∀u∈wyC (.func fn a b) (.func fn2 a2 b2),u.oneCell'=true:=by
  intro fn fn2 a b a2 b2 u hu;simp only[wyC,auI,avP,or_false] at hu;rcases hu with rfl|rfl<;>rfl
 have fr:∀{W:ao} {a b c d:Ent},bT S w0 W (a::b::c::d::L)->bT S w0 W (a::b::L):=λe=>e.sub (.cons_cons _ (.cons_cons _ (.cons _ (.cons _ (azV _)))));have z:=Ff.G3 n;by_cases k:Ff.full n=[]
 ·simp only[auD (show ¬Ff.full n≠[] fromλh=>h k),avZ,i_t];refine aD (show (aV 130 #[]).run ah w2=.ok (.value (.agg (wyC .nilFunc .nilFunc).toArray)) w2 by kernel_rfl) |>.mpr ?_;refine jH 0 e rfl (new:=wyC .nilFunc .nilFunc) Py (λu hu=>by
   simp only[wyC,auI,avP,or_false] at hu;rcases hu with rfl|rfl<;>rfl) rfl λw3 e=>?_
  exact zH (bJ (e.agg 0 rfl Yw)) Ae (y k w3 e.tail.tail)
 simp only[auG (show Ff.full n≠[] from k),awA,i_f];by_cases l:Ff.full n=Ff.nHx
 ·simp only[auG l,i_t];refine WC e λi w3 e=>?_;refine Y2 e λb2 m e=>?_;unfold FF EO;rw[agA];refine jH 2 e rfl (new:=wyC (FF i) (EO b2)) Py one rfl λj e=>?_;exact zH (bJ (e.agg 2 rfl Yw)) Ae (q _ _ (.inl ⟨l,rfl,rfl⟩) i b2 j (fr e))
 simp only[auD l,i_f]
 try simp only[rs]
 by_cases o:Ff.full n=Ff.n85
 ·simp only[auG o,i_t];refine WC e λi w3 e=>?_;refine Y2 e λb2 m e=>?_;unfold FF EO;rw[agA];refine jH 2 e rfl (new:=wyC (FF i) (EO b2)) Py one rfl λj e=>?_;exact zH (bJ (e.agg 2 rfl Yw)) Ae (q _ _ (.inr (.inl ⟨o,rfl,rfl⟩)) i b2 j (fr e))
 simp only[auD o,i_f]
 try simp only[rs]
 by_cases p:Ff.full n=Ff.nRL
 ·simp only[auG p,i_t];refine WC e λi w3 e=>?_;refine Y2 e λb2 m e=>?_;unfold FF EO;rw[agA];refine jH 2 e rfl (new:=wyC (FF i) (EO b2)) Py one rfl λj e=>?_;exact zH (bJ (e.agg 2 rfl Yw)) Ae (q _ _ (.inr (.inr ⟨p,rfl,rfl⟩)) i b2 j (fr e))
 simp only[auD p,i_f];have A:Ff.full n=Ff.nFl:=by
  rcases z with h|h|h|h|h
  ·exact absurd h l
  ·exact absurd h o
  ·exact absurd h p
  ·exact h
  ·exact absurd h k
 rw[Pr e 1 rfl];refine aD (show (aV 158 #[(0,pmV x)]).run ah w2=.ok (.value (.agg (pmC x).toArray)) w2 by kernel_rfl) |>.mpr ?_;refine bK (λb=>af b 0) (pmC ⟨0,0,0⟩) 158 (λ_=>by kernel_rfl) e λs w3 e=>?_;refine jH 0 e rfl (new:=pmC x) szFt Kz rfl λm e=>?_;have e:bT S w0 m (.cells s (pmC x) 158::wyE r .nilFunc .nilFunc::pmE b3 x::L):=e;refine cY (λW=>bT S w0 W (.cells s (pmC x) 158::wyE r .nilFunc .nilFunc::pmE b3 x::L)) e.drew ?_;refine gA (pmV x) (λW h=>aY (h.agg 0 rfl amQ)) ?_;refine dY (Oe x) (λ_=>cJ rfl) ?_;refine gA (pmV x) (λW h=>aY (h.agg 0 rfl amQ)) ?_;refine dY (yF x) (λ_=>cJ rfl) ?_;refine dY (.agg (wyC (Oe x) (yF x)).toArray) (λ_=>by kernel_rfl) ?_;refine gA (pmV x) (λW h=>aY (h.agg 2 rfl LK)) ?_;refine fY _ (λW h=>(MA x W).mono λv w' ⟨B,C⟩=>⟨B,h.grow C⟩) ?_;intro j e;refine jH 1 e rfl (new:=wyC (Oe x) (yF x)) Py one rfl λD e=>?_;exact zH (bJ (e.agg 1 rfl Yw)) Ae (t A D e.tail.tail.tail)
end
theorem WO (b f:Nat)(s:List UInt8)(D:List UInt8×Int)(M:Mem)(w:ao)(hp:cW ah f=aw)(c:(upE b f).is w)(a:M.has w)
  (h:jR ah f #[ae s,ad 1048576] M w (λv _=>v=zlT D∧D.1.length<=1048576)):jR ah 171 #[ae s,af b 0] M w (λv _=>v=zlT D∧D.1.length<=1048576):=by
 refine bB a λK d=>FW ?_;unfold AY nz;rw[aJ nFnU (aI (T:=142) (cs:=[fnV f]) c (i:=0) rfl)];unfold fnV;refine LB hp (bH (bT.memS a) 0 rfl h ?_);rintro _ N j g1 ⟨rfl,e⟩ g;simp only[zlT,ex];exact d _ _ N _ 0 g rfl g1 ⟨rfl,e⟩
theorem RS (x:Pm)(k:PdR x)(s:List UInt8)(M:Mem)(w:ao)(f:Rp M)(g:Od M)(l:s.length<=1000000000)(i:M.has w) :
  jR ah 144 #[pmV x,ae s] M w (λv _=>v=zlT (if (ie s 1048576).2≠0 then ([],(ie s 1048576).2) else gl x (ie s 1048576).1)∧(ie s 1048576).1.length<=1048576):=by
 refine bB i λK c=>vR ?_;unfold oC nz;refine bK (λb=>af b 0) (pmC x) 158 (λ_=>by kernel_rfl) (bT.memS i) λb2 m a=>?_;refine bH a 1 rfl (QT s 1048576 M m f g l (a.hasM 1 rfl)) ?_;rintro _ N w2 g1 ⟨rfl,d⟩ a;generalize ie s 1048576=U at c d;obtain⟨t,e⟩:=U;dsimp only at c d;simp only[zlT,ex,eC];by_cases he:e=0
 case neg=>
  rw[auC he] at c;simp only[auG (show e≠0 from he),i_t];exact c _ _ N _ 1 a rfl g1 ⟨rfl,d⟩
 rw[auB (λh=>h he)] at c;simp only[auD (show ¬e≠0 fromλh=>h he),i_f];rw[aW afB,EN (T:=53) (v:=pmV x) (AtV.agg LK (cs:=pmC x) rfl λj u n=>by rw[awF,auP];exact a.cell 0 rfl j n)];refine aK a (k t w2 om) ?_;rintro _ w3 rfl a;simp only[zlT,ex];exact c _ _ N _ 1 a rfl g1 ⟨rfl,d⟩
def UdA (n:List UInt8)(x:Pm):Prop:=∀(f g:Nat),(Ff.full n=Ff.nHx∧f=136∧g=138)∨(Ff.full n=Ff.n85∧f=139∧g=140)∨(Ff.full n=Ff.nRL∧f=141∧g=142)->∀(s:List UInt8) (M:Mem) (w:ao),Pws M->s.length<=1000000000->M.has w ->
 ∃_:cW ah g=aw,jR ah g #[ae s,ad 1048576] M w (λv _=>v=zlT (Ff.MP n x s)∧(Ff.MP n x s).1.length<=1048576)
theorem aeN {n:List UInt8}{x:Pm}(h:Ff.full n=Ff.nFl):UdA n x:=by
 intro f g b;rcases b with ⟨a,_⟩|⟨a,_⟩|⟨a,_⟩<;>rw[h] at a<;>exact absurd a dc
theorem abG (n:List UInt8)(x:Pm)(G:PdR x)(H:UdA n x)(s:List UInt8)(M:Mem)(w:ao)(m:Rp M)(o:Od M)(q:Pws M)(C:s.length<=1000000000)(D:M.has w) :
  jR ah 49 #[ae n,pmV x,ae s] M w (λv _=>v=zlT (Ff.MP n x s)∧(Ff.MP n x s).1.length<=1048576):=by
 refine bB D λK i=>Iw ?_;generalize c:Ff.MP n x s=X at i;have r:=c;unfold Ff.MP at c;unfold FA nz;refine Kd x (bT.memS D) λE J a=>?_;rw[Pr a 0 rfl];have d:∀{p u:aq},p.oneCell'=aw->u.oneCell'=aw->∀y∈wyC p u,y.oneCell'=true:=by
  intro p u hp hu y F;simp only[wyC,auI,avP,or_false] at F;rcases F with rfl|rfl<;>assumption
 refine anN a (λf g t z b2 w2 a=>?_) (λe w2 a=>?_) (λe w2 a=>?_)
 ·simp only[ex];refine bK (λb=>af b 0) (wyC .nilFunc .nilFunc) 130 (λ_=>by kernel_rfl) a λk w3 a=>?_;refine jH 0 a rfl (new:=wyC (FF z) (EO b2)) Py (d rfl rfl) rfl λh a=>?_;have a:bT M.A w h [wyE k (FF z) (EO b2),upE b2 g,UA z f,pmE E x,.mem M]:=a;simp only[eC,show ai ((0:Int)≠0)=au from rfl,i_f];rw[aW aeF,aJ nFnW (a.cell 0 rfl 1 rfl)];have j:=a.hasM 4 rfl;have key:=H f g t s M h q C j;rw[r] at key;obtain⟨hp,key⟩:=key;unfold EO;refine LB UU (bH a 4 rfl (WO b2 g s X M h hp (a.at_ 1 rfl) j key) ?_);rintro _ N I g1 ⟨rfl,B⟩ a;simp only[zlT,ex];exact i _ _ N _ 4 a rfl g1 ⟨rfl,B⟩
 ·rw[auB (by rw[e];decide),auB (by rw[e];decide),auB (by rw[e];decide),auC e] at c;simp only[ex];refine bK (λb=>af b 0) (wyC .nilFunc .nilFunc) 130 (λ_=>by kernel_rfl) a λk w3 a=>?_;refine jH 0 a rfl (new:=wyC (Oe x) (yF x)) Py (d rfl rfl) rfl λh a=>?_;have a:bT M.A w h [wyE k (Oe x) (yF x),pmE E x,.mem M]:=a;simp only[eC];by_cases l:x.ok
  case neg=>
   rw[auC l] at c;simp only[auB l,show ai ((1:Int)≠0)=aw from rfl,i_t];exact i _ _ M _ 2 a rfl M.le_refl ⟨by rw[<-c];rfl,by rw[<-c];exact avG _⟩
  rw[auB (by simp[l])] at c;simp only[auC l,show ai ((0:Int)≠0)=au from rfl,i_f];rw[aW aeF,aJ nFnW (a.cell 0 rfl 1 rfl)];unfold yF;refine LB OX (bH a 2 rfl (RS x G s M h m o C (a.hasM 2 rfl)) ?_);rintro _ N I g1 ⟨rfl,B⟩ a;rw[c];simp only[zlT,ex];refine i _ _ N _ 2 a rfl g1 ⟨rfl,?_⟩;rw[<-c];split
  ·exact avG _
  ·exact axO (aan _ _) B
 ·rw[auB (by rw[e];decide),auB (by rw[e];decide),auB (by rw[e];decide),auB (by rw[e];decide)] at c;simp only[ex];refine bK (λb=>af b 0) (wyC .nilFunc .nilFunc) 130 (λ_=>by kernel_rfl) a λk w3 a=>?_;refine jH 0 a rfl (new:=wyC .nilFunc .nilFunc) Py (d rfl rfl) rfl λh a=>?_;simp only[eC,show ai ((15:Int)≠0)=aw from rfl,i_t];exact i _ _ M _ 2 a rfl M.le_refl ⟨by rw[<-c];rfl,by rw[<-c];exact avG _⟩
theorem aao {ns:List (List UInt8)}{ps:List Pm}(a:i < ns.length)(b:i < ps.length)(s:List UInt8) :
  Ff.chain (ns.drop i) (ps.drop i) s=if (Ff.MP ns[i] ps[i] s).2≠0 then ([],(Ff.MP ns[i] ps[i] s).2) else Ff.chain (ns.drop (i+1)) (ps.drop (i+1)) (Ff.MP ns[i] ps[i] s).1:=by
 rw[avX a,avX b,Ff.chain]
theorem aap {ns:List (List UInt8)}{ps:List Pm}(a:ns.length<=i)(s:List UInt8):Ff.chain (ns.drop i) (ps.drop i) s=(s,0):=by
 rw[awG a];unfold Ff.chain;rfl
theorem AT {o:Ob}:(Ff.of o).1.length<=8:=by
 have:=@Ff.Ye o;unfold Ff.of;by_cases a:o.k≠9
 ·rw[auC a];exact avG _
 rw[auB a];by_cases b:(Ff.names o).2≠0
 ·rw[auC b];exact avG _
 rw[auB b];by_cases c:(Ff.yW o (Ff.names o).1.length).2≠0
 ·rw[auC c];exact avG _
 rw[auB c];split
 ·exact avG _
 ·exact this
section
variable {M:Mem}{vn vp:aq}{ns:List (List UInt8)}{ps:List Pm}
theorem pJ (b:SlA M.A M.w vn 1 ns.length (bI ns)):DoX ah (mB .len #[22] 3 #[au] #[vn]) W PK K=K (ad (ns.length:Int)) W:=by
 obtain⟨a,cap,rfl,_⟩:=b.form;exact bW auR
end
theorem ML (o:Ob)(z:∀x∈(Ff.of o).2.1,PdR x)(B:∀n∈(Ff.of o).1,∀x,UdA n x)(v:aq)(M:Mem)(w:ao)(C:Rp M)(D:Od M)(E:Pws M)(hw:o.wt<=1000000000)(O:M.has w)(P:OV M.A M.w v o) :
  jR ah 18 #[v] M w (λr _=>r=zlT (Ff.decode o)):=by
 obtain⟨vk,vc,V,rfl,Q⟩:=P.open;refine bB O λK y=>EG ?_;generalize a:Ff.decode o=X at y;unfold Ff.decode at a;unfold Bp nz;refine eQ o Q.keys.one Q.kids.one (bT.memS O) λY Z b=>?_;rw[jL b 0 rfl];refine bH b 1 rfl (Yr o _ M Z hw (b.hasM 1 rfl) P) ?_;have j:=@Ff.anX o;have k:=@AT o;generalize Ff.of o=F at a j k z B;obtain⟨ns,ps,e⟩:=F;dsimp only at a j k z B;rintro _ N w2 g ⟨vn,vp,rfl,G,hp⟩ b;dsimp only at G hp;simp only[ex,vY (show [vn,vp,Value.int .i64 e][2]?=ay (Value.int .i64 e) from rfl),vY (show [vn,vp,Value.int .i64 e][1]?=ay vp from rfl),vY (show [vn,vp,Value.int .i64 e][0]?=ay vn from rfl),eC];by_cases he:e=0
 case neg=>
  rw[auC he] at a;simp only[auG (show e≠0 from he),i_t];exact y _ _ N _ 1 b rfl g (by rw[<-a];rfl)
 rw[auB (λh=>h he)] at a;simp only[auD (show ¬e≠0 fromλh=>h he),i_f];rw[El,NW b 0 rfl,pJ G];have H:o.s.length<=1000000000:=by
  have:o.s.length<=o.wt:=by rw[o.kN];omega
  omega
 refine loop (λvs W=>∃(i:Nat) (s:List UInt8) (l:Mem),vs=[ae s,ad (i:Int)]∧i<=ns.length∧s.length<=1000000000∧N.le l∧Ff.chain (ns.drop i) (ps.drop i) s=X∧bT M.A w W [obE Y o vk vc,.mem l]) (λvs _=>ns.length - n1 vs) ⟨0,o.s,N,rfl,om,H,N.le_refl,a,b⟩ ?_;clear b a;rintro vs w3 ⟨i,s,l,rfl,hi,hs,c,a,b⟩ _;simp only[xH,gd,rs,nz];by_cases m:(i:Int) < (ns.length:Int)
 ·simp only[m,auE,i_t];have d:i < ns.length:=om
  have f:i < ps.length:=om
  rw[aao d f] at a;obtain⟨p,I,J⟩:=NO (G.le c) d;rw[aD (I w3),aD (J w3 (b.hasM 1 rfl))];obtain⟨p2,q,u⟩:=pmAt (hp.le c) f;rw[aD (q w3),aD (u w3 (b.hasM 1 rfl))];refine bH b 1 rfl (abG ns[i] ps[i] (z _ (auS f)) (B _ (auS d) _) s l w3 ((C.le g).le c) ((D.le g).le c) ((E.le g).le c) hs (b.hasM 1 rfl)) ?_;rintro _ R w4 S ⟨rfl,T⟩ b;generalize Ff.MP ns[i] ps[i] s=U at a T;obtain⟨t,L⟩:=U;dsimp only at a T;simp only[zlT,ex,eC];by_cases hu:L=0
  case neg=>
   rw[auC hu] at a;simp only[auG (show L≠0 from hu),i_t];exact y _ _ R _ 1 b rfl ((g.trans c).trans S) (by rw[<-a];rfl)
  rw[auB (λh=>h hu)] at a;simp only[auD (show ¬L≠0 fromλh=>h hu),i_f]
  try simp only[rs]
  rw[aA om om];exact bC ⟨i+1,t,R,rfl,om,om,c.trans S,a,b⟩ (by simp[n1,RowKit.intOf];omega)
 simp only[m,auF,i_f];rw[aap om] at a;exact y _ _ l _ 1 b rfl (g.trans c) (by rw[<-a];rfl)
def ke (c:UInt8):Nat->List UInt8->Nat
|0,_=>0
|_,[]=>0
|f+1,d::r=>if d=c then ke c f r+1 else 0
def cj (s:List UInt8):Nat:=ke (s.getD 0 0) 128 s
theorem xn (c:UInt8):∀(f:Nat) (s:List UInt8),ke c f s<=f∧ke c f s<=s.length
|0,s=>by unfold ke;omega
|f+1,[]=>by unfold ke;exact⟨om,sm⟩
|f+1,d::r=>by
  have:=xn c f r;unfold ke;split
  ·rw[auX];omega
  ·omega
def mh:Nat->Nat->List UInt8->Nat
|0,n,_=>n
|f+1,n,s=>if n < min s.length 128∧cj (s.drop n) < 3 then mh f (n+1) s else n
def dd (s:List UInt8):Nat:=mh 128 1 s
theorem xp:∀(f n:Nat) (s:List UInt8),n<=min s.length 128->n<=mh f n s∧mh f n s<=min s.length 128
|0,n,s,h=>⟨auL _,h⟩
|f+1,n,s,h=>by
  unfold mh;split
  ·rename_i a
   have:=xp f (n+1) s om;omega
  ·exact⟨auL _,h⟩
def jg:Nat->List UInt8->List UInt8
|0,_=>[]
|f+1,s=>
  if s=[] then [128]
  else if 3<=cj s then [UInt8.ofNat (257 - cj s),s.getD 0 0]++jg f (s.drop (cj s))
  else [UInt8.ofNat (dd s - 1)]++s.take (dd s)++jg f (s.drop (dd s))
def my (s:List UInt8):List UInt8:=jg (s.length+1) s
section
variable {w:ao}{PK:PKT}{K:Ending->ao->Prop}{N1:List aq->ao->Prop}{S:Nat->Prop}{w0:ao}{L:List Ent}
end
end
section
open Go
namespace Bd
def I5 (o:Ob)(data:List UInt8):Ob:=.mk 9 (Vl.aR o Vl.rQ).n (Vl.aR o Vl.rQ).g data (Vl.aR o Vl.rQ).keys (Vl.aR o Vl.rQ).kids
theorem QG (h:Vl.check 1 o=0)(c:o.k=7):Vl.rQ ∉ (Vl.aR o Vl.rQ).keys:=by
 have d:Vl.keyed o=true:=by simp[Vl.keyed,c]
 have f:=Vl.jE (key:=Vl.rQ) h d;have a:Vl.keyed (Vl.aR o Vl.rQ)=true:=by
  have e:(Vl.aR o Vl.rQ).k=o.k:=rfl;simp[Vl.keyed,e,c]
 obtain⟨_,hlen⟩:=Vl.fM f a;intro hm;have b:=Vl.QB o Vl.rQ;unfold Vl.get at b;rw[auC a,auC (List.idxOf_lt_length_of_mem hm),auO (by rw[<-hlen];exact List.idxOf_lt_length_of_mem hm)] at b;cases b
theorem MD {data:List UInt8}(h:Vl.check 1 o=0)(d:o.k=7)(j:data.length<=1048576):Vl.check 1 (I5 o data)=0:=by
 have l:Vl.keyed o=true:=by simp[Vl.keyed,d]
 have m:=Vl.jE (key:=Vl.rQ) h l;have b:=QG h d;have f:(Vl.aR o Vl.rQ).k=7:=d;unfold I5;generalize Vl.aR o Vl.rQ=x at *;obtain⟨⟨p,a2,a3,a4,a5,r,c⟩,a⟩:=Vl.gG.1 m;obtain⟨k,n,g,s,ks,cs⟩:=x;simp only[Ob.k,Ob.n,Ob.g,Ob.s,Ob.keys,Ob.kids] at *;subst f;refine Vl.gG.2 ⟨⟨p,?_,λ_=>azI 1 |> λ_=>by omega,?_,?_,r,?_⟩,a⟩
 ·unfold Vl.gL at a2 ⊢;simp only[Ob.k,Ob.n,Ob.g,Ob.s,Ob.keys,Ob.kids,Vl.used] at a2 ⊢
  simp_all
  exact a2.1
 ·simp[Vl.fits,Ob.k]
 ·simpa[Vl.long,Ob.k,Ob.s] using j
 ·unfold Vl.form at c ⊢;simp only[Ob.k] at c ⊢;simp only[show ai ((7:Int)=7∨(7:Int)=9)=aw by decide,awA,aAS,auY] at c;obtain⟨t,u,v,w⟩:=Vl.kU.1 c.2;have y:Vl.rising (.mk 9 n g data ks cs)=true:=Vl.kU.2 ⟨t,u,λq i=>⟨(v q i).1,λ_ e=>b (e▸i)⟩,w⟩;simp[y]
theorem Pz (h:Vl.check 1 o=0)(a:o.k=7):(if Vl.keyed o=aw∧Vl.check 1 o=0 then Vl.aR o Vl.rQ else o)=Vl.aR o Vl.rQ:=by
 rw[auC ⟨by simp[Vl.keyed,a],h⟩]
end Bd
end
section
open Eng
def Dq(t0 t1 w)(K:KT):=nz f126 1 [] [] [] (zg [0,1] [t0,t1]) w K
theorem Hi:Dq t0 t1 w k0->Calls ah 126 #[t0,t1] w k0:=cw func126
end
end Go.Proofs.YtlgndjkieegnaaaGreatDoor

namespace Go.Proofs.YtlgndjkieegnaaaGreatDoor
variable{D:TypeId}{K:VWP}{M N:Eng.Mem}{PK:PKT}{R:Ending->FrameMode->ao->Prop}{W w:ao}{a:Int}{args ca fa:Array aq}{b f i j:Nat}{cb:Array Bool}{cs:List aq}{key:List UInt8}{o:Ob}{pv t0 v vc vk:aq}{q:Bool}{u:FrameMode}{xo yo:Operand}{t0 t1:aq}{k0:Eng.KT}
section
open Eng Go.RowKit
theorem QM (o:Ob)(v:aq)(data:List UInt8)(M:Mem)(w:ao)(h:o.k=7)(i:Vl.check 1 o=0)(H:data.length<=1048576)(hw:o.wt<=1000000000)(C:M.has w)(j:OV M.A M.w v o) :
  jR ah 126 #[v,ae data] M w (λr N=>∃v',r=A4 v' 0∧OV N.A N.w v' (Bd.I5 o data)):=by
 obtain⟨vk,vc,cs,rfl,D⟩:=j.open;refine bB C λK I=>Hi ?_;unfold Dq nz;refine eQ o D.keys.one D.kids.one (bT.memS C) λb2 T a=>?_;refine dJ a λJ w2 a=>?_;rw[eG,vE a 1 rfl];simp only[rs,h,show ai ((7:Int)≠7)=au by decide,i_f];rw[jL a 1 rfl];refine aK a (R:=λv=>v=ad (Vl.check 1 o)) (lB o _ w2 (OV.inw (a.hasM 2 rfl) j) om) ?_;rintro _ w3 rfl a;simp only[i,eC,show ai ((0:Int)≠0)=au by decide,i_f];rw[jL a 1 rfl];refine bH a 2 rfl (ES o _ Vl.rQ M w3 om (a.hasM 2 rfl) j) λy N U hle E a=>?_;have l:fw o Vl.rQ=Vl.aR o Vl.rQ:=by unfold fw;exact Bd.Pz i h
 rw[l] at E;have m:=Bd.MD (data:=data) i h H;have L:=Vl.kX o Vl.rQ;have c:Bd.I5 o data=.mk 9 (Vl.aR o Vl.rQ).n (Vl.aR o Vl.rQ).g data (Vl.aR o Vl.rQ).keys (Vl.aR o Vl.rQ).kids:=rfl;generalize Vl.aR o Vl.rQ=x at *;obtain⟨p,q,u,rfl,b⟩:=E.open;refine dJ a λO V a=>?_;refine aT 0 b.keys.one b.kids.one a rfl λW a=>?_;rw[eG];refine aO 0 a rfl krx rfl (show 0 < 6 by omega) λX a=>?_;rw[El];refine aO 0 a rfl krx rfl (show 0+3 < 6 by omega) λF a=>?_;have a:bT M.A w F [obE O (Bd.I5 o data) p q,obE J ob0 cI cI,obE b2 o vk vc,.mem N]:=by rw[c];exact a
 have z:OV N.A N.w (obV (Bd.I5 o data) p q) (Bd.I5 o data):=by
  rw[c];exact tE.ov (o:=.mk 9 x.n x.g data x.keys x.kids) (vk:=p) (vc:=q) (cs:=u) ⟨b.keys,b.kids,b.all⟩
 have B:(Bd.I5 o data).wt<=100000000000:=by
  have e1:=Vl.kN (Bd.I5 o data);have e2:=Vl.kN x;rw[c] at e1 ⊢;simp only[Ob.s,Ob.keys,Ob.kids] at e1 e2 ⊢;omega
 rw[jL a 0 rfl];refine bH a 3 rfl (KQ _ _ N F B (a.hasM 3 rfl) z) ?_;rintro _ P Y e ⟨t,rfl,G⟩ a;have f:Vl.right (Bd.I5 o data)=(Bd.I5 o data,0):=by unfold Vl.right;rw[auB (by simp[m])]
 rw[f] at G;obtain⟨Z,tc,Q,rfl,d⟩:=G.open;simp only[A4,ex,f];refine aT 1 d.keys.one d.kids.one a rfl λS a=>?_;exact dL 1 a rfl (I _ _ P _ 3 a rfl (hle.trans e) ⟨_,rfl,d.ov⟩)
namespace Ff
def kP (o:Ob):Ob:=.mk 7 o.n o.g [] o.keys o.kids
def bare (o:Ob):Ob:=Vl.aR (Vl.aR (kP o) aQ) bS
def plain (o:Ob)(data:List UInt8):Ob×Int:=
 if o.k≠9∧o.k≠7 then (Vl.ob0,10)
 else if Vl.check 1 (kP o)≠0 then (Vl.ob0,Vl.check 1 (kP o))
 else (Bd.I5 (bare o) data,0)
theorem Uj (o:Ob):(kP o).wt<=o.wt:=by
 obtain⟨k,n,g,s,ks,cs⟩:=o;show (Ob.mk 7 n g [] ks cs).wt<=(Ob.mk k n g s ks cs).wt;rw[Ob.wt,Ob.wt];have:([]:List UInt8).length=0:=rfl;omega
end Ff
theorem UC (o:Ob)(v:aq)(data:List UInt8)(M:Mem)(w:ao)(G:data.length<=1048576)(hw:o.wt<=1000000000)(E:M.has w)(H:OV M.A M.w v o) :
  jR ah 87 #[v,ae data] M w (λr N=>∃v',r=A4 v' (Ff.plain o data).2∧OV N.A N.w v' (Ff.plain o data).1):=by
 obtain⟨vk,vc,cs,rfl,l⟩:=H.open;refine bB E λK y=>Hb ?_;generalize b:Ff.plain o data=X at y;unfold Ff.plain at b;unfold Dv nz;refine eQ o l.keys.one l.kids.one (bT.memS E) λb2 w1 a=>?_;refine dJ a λc w2 a=>?_;have no:∀{W:ao} {N:Mem} {e:Int} {x:Ob},bT M.A w W [obE c ob0 cI cI,obE b2 x vk vc,.mem N]->M.le N->X=(Vl.ob0,e)->DoX ah (aV 25 #[]) W (pk K) (λt W=>DoX ah (aN 25 (af c 0) t) W (pk K) λ_ W=>Bw ah [.cell (af c 0) 25,.val (ad e)] W K):=by
  intro W N e x a hle F;rw[EU];refine aT 0 rfl rfl a rfl λz a=>?_;refine dL 0 a rfl (y _ _ N _ 2 a rfl hle ⟨obV Vl.ob0 cI cI,?_,?_⟩)
  ·rw[F];rfl
  ·rw[F];exact nW N
 rw[eG,vE a 1 rfl];simp only[rs];have f:OV M.A M.w (obV (Ff.kP o) vk vc) (Ff.kP o):=tE.ov (o:=Ff.kP o) (vk:=vk) (vc:=vc) (cs:=cs) ⟨l.keys,l.kids,l.all⟩;have main:¬(o.k≠9∧o.k≠7)->DoX ah (mFA 25 (af b2 0) 0) w2 (pk K) λt16 w=>
 DoX ah (aN 3 t16 (ad 7)) w (pk K) λ_ w=>
 DoX ah (mFA 25 (af b2 0) 3) w (pk K) λt17 w=>
 DoX ah (aN 9 t17 (.string ⟨#[]⟩)) w (pk K) λ_ w=>
 DoX ah (aH 25 (af b2 0)) w (pk K) λt18 w=>
 cR ah 41 #[t18] w (pk K) λt19 w=>
 DoX ah (mEq .neq 35 (.tmp 20) (.const (ad 0)) t19 (ad 0)) w (pk K) λt21 w=>
 IfX t21 (DoX ah (aV 25 #[]) w (pk K) λt22 w=>
 DoX ah (aN 25 (af c 0) t22) w (pk K) λ_ w=>
 Bw ah [.cell (af c 0) 25,.val t19] w K) (DoX ah (aH 25 (af b2 0)) w (pk K) λt24 w=>
 cR ah 122 #[t24,(.string ⟨#[70,105,108,116,101,114]⟩)] w (pk K) λt25 w=>
 cR ah 122 #[t25,(.string ⟨#[68,101,99,111,100,101,80,97,114,109,115]⟩)] w (pk K) λt26 w=>
 cR ah 126 #[t26,ae data] w (pk K) λt28 w=>
 DoX ah (Ag t28 0) w (pk K) λt29 w=>
 DoX ah (Ag t28 1) w (pk K) λt30 w=>
 DoX ah (aN 25 (af c 0) t29) w (pk K) λ_ w=>
 Bw ah [.cell (af c 0) 25,.val t30] w K):=by
  intro I;rw[auB I] at b;rw[eG];refine aO 1 a rfl krx rfl (show 0 < 6 by omega) λw3 a=>?_;rw[El];refine aO 1 a rfl krx rfl (show 0+3 < 6 by omega) λz a=>?_;have a:bT M.A w z [obE c ob0 cI cI,obE b2 (Ff.kP o) vk vc,.mem M]:=a;have B:=Ff.Uj o;have J:Bd.I5 (Ff.bare o) data=Bd.I5 (Vl.aR (Vl.aR (Ff.kP o) Ff.aQ) Ff.bS) data:=rfl;have q:(Ff.kP o).k=7:=rfl;rw[J] at b;generalize Ff.kP o=d at b B a f q;rw[jL a 1 rfl];refine aK a (R:=λv=>v=ad (Vl.check 1 d)) (lB d _ z (OV.inw (a.hasM 2 rfl) f) om) ?_;rintro _ L rfl a;simp only[eC];by_cases j:Vl.check 1 d=0
  case neg=>
   rw[auC j] at b;simp only[auG (show Vl.check 1 d≠0 from j),i_t];exact no a M.le_refl b.symm
  rw[auB (λh=>h j)] at b;simp only[j,show ai ((0:Int)≠0)=au from rfl,i_f];rw[jL a 1 rfl];refine bH a 2 rfl (ES d _ Ff.aQ M L om (a.hasM 2 rfl) f) λy1 N1 O P m a=>?_;have e1:fw d Ff.aQ=Vl.aR d Ff.aQ:=by unfold fw;rw[auC ⟨by simp[Vl.keyed,q],j⟩]
  rw[e1] at m;have n:=Vl.jE (key:=Ff.aQ) j (by simp[Vl.keyed,q]);have g:(Vl.aR d Ff.aQ).k=7:=q;have Q:=Vl.kX d Ff.aQ;generalize Vl.aR d Ff.aQ=d1 at *;refine bH a 2 rfl (ES d1 _ Ff.bS N1 O om (a.hasM 2 rfl) m) λy2 S T U p a=>?_;have e2:fw d1 Ff.bS=Vl.aR d1 Ff.bS:=by unfold fw;rw[auC ⟨by simp[Vl.keyed,g],n⟩]
  rw[e2] at p;have C:=Vl.jE (key:=Ff.bS) n (by simp[Vl.keyed,g]);have D:(Vl.aR d1 Ff.bS).k=7:=g;have V:=Vl.kX d1 Ff.bS;generalize Vl.aR d1 Ff.bS=d2 at *;refine bH a 2 rfl (QM d2 _ data S T D C G om (a.hasM 2 rfl) p) ?_;rintro _ Y w8 Z ⟨t,rfl,ht⟩ a;obtain⟨tk,tc,a1,rfl,i⟩:=ht.open;simp only[A4,ex];refine aT 0 i.keys.one i.kids.one a rfl λw9 a=>?_;exact dL 0 a rfl (y _ _ Y _ 2 a rfl ((P.trans U).trans Z) ⟨_,by rw[<-b];rfl,by rw[<-b];exact i.ov⟩)
 by_cases s:o.k=9
 ·simp only[auD (show ¬o.k≠9 fromλh=>h s),rs,oG,i_f];exact main (λh=>h.1 s)
 simp only[auG (show o.k≠9 from s),rs];rw[eG,vE a 1 rfl];simp only[rs];by_cases u:o.k=7
 ·simp only[auD (show ¬o.k≠7 fromλh=>h u),rs,i_f];exact main (λh=>h.2 u)
 ·simp only[auG (show o.k≠7 from u),rs,i_t];rw[auC ⟨s,u⟩] at b;exact no a M.le_refl b.symm
theorem eqPm:eqT ah 53 [(0,au),(1,au),(2,au)]:=⟨krx,krx,krx,krx⟩
def Pm.eqb (x y:Pm):Bool:=ai (x.p=y.p)&&(ai (x.c=y.c)&&ai (x.n=y.n))
theorem adF (x y:Pm):([(0,au),(1,au),(2,au)]:List (Nat×Bool)).all (λp=>Gs (pmC x).toArray[p.1]? (pmC y).toArray[p.1]?)=Pm.eqb x y:=by
 have e:([(0,au),(1,au),(2,au)]:List (Nat×Bool)).all (λp=>Gs (pmC x).toArray[p.1]? (pmC y).toArray[p.1]?)=((x.p==y.p)&&((x.c==y.c)&&((x.n==y.n)&&aw))):=rfl;rw[e];unfold Pm.eqb;rw[aAV];rfl
theorem aoP {x y:Pm}:(mEq .eql 53 xo yo (pmV x) (pmV y)).run ah w=.ok (.value (.bool (Pm.eqb x y))) w:=by
 rw[<-adF];exact QK eqPm rfl
theorem alM {x y:Pm}:(mEq .neq 53 xo yo (pmV x) (pmV y)).run ah w=.ok (.value (.bool (!Pm.eqb x y))) w:=by
 rw[<-adF];exact Lj eqPm rfl
def mj (os:List Ob):Ob:=if os.length=1 then os.getD 0 Vl.ob0 else .mk 6 0 0 [] [] os
theorem L9 (os:List Ob)(v:aq)(cs:List aq)(M:Mem)(w:ao)(hw:Ob.wts os<=1000000000)(d:M.has w)(h:Ou M v os cs):jR ah 89 #[v] M w (λr N=>OV N.A N.w r (mj os)):=by
 refine bB d λK e=>GM ?_;unfold DC nz;refine dJ (bT.memS d) λb2 g a=>?_;rw[HQ h];simp only[rs];by_cases f:os.length=1
 ·simp only[show ai ((os.length:Int)=1)=aw from auG om,i_t];refine OK (i:=0) h om (a.hasM 1 rfl) λj k c=>?_;refine aT 0 c.oneK c.oneC a rfl λw2 a=>?_;refine eN (bJ (a.agg 0 rfl fR)) (e _ _ M _ 1 a rfl M.le_refl ?_);have:mj os=os[0]:=by unfold mj;rw[auC f,auK,auO om,ayD]
  rw[this];exact c
 ·simp only[show ai ((os.length:Int)=1)=au from auD om,i_f];refine bH a 1 rfl (Oa os _ cs M g om (a.hasM 1 rfl) h.sl h.all) λy N w2 l c a=>?_;obtain⟨j,k,m,rfl,b⟩:=c.open;refine aT 0 b.keys.one b.kids.one a rfl λw3 a=>?_;refine eN (bJ (a.agg 0 rfl fR)) (e _ _ N _ 1 a rfl l ?_);unfold mj;rw[auB f];exact b.ov
namespace Ff
def bP (n:List UInt8):Ob:=ob1 5 0 0 n
end Ff
section
variable {w:ao}{PK PK2:PKT}{K:VWP}{S:Nat->Prop}{w0:ao}{L:List Ent}
end
end
end Go.Proofs.YtlgndjkieegnaaaGreatDoor


namespace Go.Proofs.YtlgndjkieegnaaaGreatDoor
variable{D:TypeId}{K:VWP}{M N:Eng.Mem}{PK:PKT}{R:Ending->FrameMode->ao->Prop}{W w:ao}{a:Int}{args ca fa:Array aq}{b f i j:Nat}{cb:Array Bool}{cs:List aq}{key:List UInt8}{o:Ob}{pv t0 v vc vk:aq}{q:Bool}{u:FrameMode}{xo yo:Operand}{t0 t1:aq}{k0:Eng.KT}
section
open Go
theorem asY {p:UInt8->Prop}(h:∀n:Fin 256,p (UInt8.ofNat n.val))(c:UInt8):p c:=by
 have:=h ⟨c.toNat,c.toNat_lt⟩;simpa using this
theorem A0 (c:UInt8):Lx.digit (Oc.L3 (c.toNat / 16))=((c.toNat / 16:Nat):Int)∧Lx.digit (Oc.L3 (c.toNat % 16))=((c.toNat % 16:Nat):Int)∧Oc.JP (Oc.L3 (c.toNat / 16))=au∧Oc.JP (Oc.L3 (c.toNat % 16))=au∧Oc.L3 (c.toNat / 16)≠62∧Oc.L3 (c.toNat % 16)≠62:=
 asY (p:=λc=>Lx.digit (Oc.L3 (c.toNat / 16))=((c.toNat / 16:Nat):Int)∧Lx.digit (Oc.L3 (c.toNat % 16))=((c.toNat % 16:Nat):Int)∧Oc.JP (Oc.L3 (c.toNat / 16))=au∧Oc.JP (Oc.L3 (c.toNat % 16))=au∧Oc.L3 (c.toNat / 16)≠62∧Oc.L3 (c.toNat % 16)≠62) (by decide +kernel) c
theorem xq (most:Nat)(r:List UInt8):∀(s out:List UInt8),out.length+s.length<=most->jj most (Oc.hex s++62::r) (-1) out=(out++s,0)
|[],out,_=>by
  show jj most (62::r) (-1) out=_;unfold jj;rw[auB dc,auC rfl,auC dc,avA]
|c::s,out,h=>by
  obtain⟨a,b,d,f,g,i⟩:=A0 c;have j:c.toNat < 256:=c.toNat_lt;simp only[auX] at h;have e:Oc.hex (c::s)++62::r=Oc.L3 (c.toNat / 16)::Oc.L3 (c.toNat % 16)::(Oc.hex s++62::r):=rfl;rw[e];unfold jj;rw[d,auB dc,auB g,a,auB om,auC dc];unfold jj;rw[f,auB dc,auB i,b,auB om,auB om,auB om];have e2:(16*((c.toNat / 16:Nat):Int)+((c.toNat % 16:Nat):Int)).toNat=c.toNat:=om
  rw[e2,UInt8.ofNat_toNat,xq most r s (out++[c]) (by simp;omega),auN];rfl
theorem rj {D:Nat->List UInt8×Int}{s:List UInt8}{most:Int}(hm:(s.length:Int)<=most)(a:s.length<=1048576)(h:∀m,s.length<=m->D m=(s,0)):lj D most=(s,0):=by
 unfold lj;rw[auB om,h _ om]
theorem aaq {s:List UInt8}{most:Int}(hm:(s.length:Int)<=most)(a:s.length<=1048576):pq (Oc.hex s++[62]) most=(s,0):=
 rj hm a λm h=>by
  rw[xq m [] s [] (by simpa using h)];rfl
theorem xr (c:UInt8):∀(f:Nat) (s:List UInt8),s.take (ke c f s)=List.replicate (ke c f s) c
|0,s=>by unfold ke;simp
|f+1,[]=>by unfold ke;simp
|f+1,d::r=>by
  unfold ke;by_cases h:d=c
  ·rw[auC h,azA,xr c f r,aAP,h]
  ·rw[auB h];simp
theorem xt (c:UInt8):∀n,Lib.repeatL [c] n=List.replicate n c
|0=>rfl
|n+1=>by
  show [c]++Lib.repeatL [c] n=_;rw[xt c n,aAP];rfl
theorem By {s:List UInt8}(h:s≠[]):1<=dd s∧dd s<=min s.length 128:=by
 have a:0 < s.length:=azL.2 h;unfold dd;exact xp 128 1 s om
theorem rk (most:Nat):∀(g:Nat) (s out:List UInt8) (f:Nat),s.length < g->out.length+s.length<=most->(jg g s).length<=f->jl most f (jg g s) out=(out++s,0)
|0,_,_,_,h,_,_=>by omega
|g+1,s,out,f,o,hm,a=>by
  unfold jg at a ⊢;by_cases c:s=[]
  ·rw[auC c] at a ⊢;obtain⟨f,rfl⟩:∃j,f=j+1:=⟨f - 1,by simp at a;omega⟩;rw[c];unfold jl;simp
  rw[auB c] at a ⊢;have p:0 < s.length:=azL.2 c;have m:=xn (s.getD 0 0) 128 s;by_cases k:3<=cj s
  ·rw[auC k] at a ⊢;simp only[auH,auX,ayA] at a;obtain⟨f,rfl⟩:∃j,f=j+1:=⟨f - 1,om⟩;have b:=xr (s.getD 0 0) 128 s;have e:s.take (cj s)++s.drop (cj s)=s:=avV ..
   have n:(s.drop (cj s)).length=s.length - cj s:=auT;change cj s<=128∧cj s<=s.length at m;change s.take (cj s)=List.replicate (cj s) (s.getD 0 0) at b;have i:(UInt8.ofNat (257 - cj s)).toNat=257 - cj s:=by
    rw[ayE,awB om]
   have d:=rk most g (s.drop (cj s)) (out++s.take (cj s)) f om (by rw[auH,auM];omega) om;rw[auN,e] at d;rw[<-d];show jl most (f+1) (UInt8.ofNat (257 - cj s)::([s.getD 0 0]++jg g (s.drop (cj s)))) out=_
   conv=>lhs;unfold jl
   dsimp only;rw[i,auB om,auB om,auB sm,auB om,show 257 - (257 - cj s)=cj s by omega];have e1:([s.getD 0 0]++jg g (s.drop (cj s))).take 1=[s.getD 0 0]:=rfl;have e2:([s.getD 0 0]++jg g (s.drop (cj s))).drop 1=jg g (s.drop (cj s)):=rfl;rw[e1,e2,xt,b]
  ·rw[auB k] at a ⊢;simp only[auH,auX,ayA] at a;obtain⟨f,rfl⟩:∃j,f=j+1:=⟨f - 1,om⟩;have l:=By c;have e:s.take (dd s)++s.drop (dd s)=s:=avV ..
   have lt:(s.take (dd s)).length=dd s:=by rw[auM];omega
   have n:(s.drop (dd s)).length=s.length - dd s:=auT;have i:(UInt8.ofNat (dd s - 1)).toNat=dd s - 1:=by
    rw[ayE,awB om]
   have d:=rk most g (s.drop (dd s)) (out++s.take (dd s)) f om (by rw[auH];omega) om;rw[auN,e] at d;rw[<-d];show jl most (f+1) (UInt8.ofNat (dd s - 1)::(s.take (dd s)++jg g (s.drop (dd s)))) out=_
   conv=>lhs;unfold jl
   dsimp only;rw[i,show dd s - 1+1=dd s by omega,auB om,auC om,auB (by rw[auH];omega),auB om];have e1:(s.take (dd s)++jg g (s.drop (dd s))).take (dd s)=s.take (dd s):=awK lt;have e2:(s.take (dd s)++jg g (s.drop (dd s))).drop (dd s)=jg g (s.drop (dd s)):=aAz lt;rw[e1,e2]
def ko (p:List UInt8):Nat:=((p.getD 0 0).toNat*256+(p.getD 1 0).toNat)*65536+(p.getD 2 0).toNat*256+(p.getD 3 0).toNat
def nu (p:List UInt8):List UInt8:=if ko p=0∧p.length=4 then [122] else (List.range (p.length+1)).map λk=>UInt8.ofNat (33+ko p / ud.getD k 0 % 85)
def ma:Nat->List UInt8->List UInt8
|0,_=>[]
|f+1,s=>if s=[] then [126,62] else nu (s.take 4)++ma f (s.drop 4)
def mz (s:List UInt8):List UInt8:=ma (s.length+1) s
theorem tg (n:Nat)(h:n < 85):Oc.JP (UInt8.ofNat (33+n))=au∧(UInt8.ofNat (33+n)).toNat=33+n∧(UInt8.ofNat (33+n) - 33).toNat=n∧UInt8.ofNat (33+n) - 33=UInt8.ofNat n:=by
 have a:∀n:Fin 85,Oc.JP (UInt8.ofNat (33+n.val))=au∧(UInt8.ofNat (33+n.val)).toNat=33+n.val∧(UInt8.ofNat (33+n.val) - 33).toNat=n.val∧UInt8.ofNat (33+n.val) - 33=UInt8.ofNat n.val:=by decide +kernel
 exact a ⟨n,h⟩
theorem jv {a n:Nat}(h:n < 85){r g out:List UInt8}(e:g.length < 4):fp a (UInt8.ofNat (33+n)::r) g out=fp a r (g++[UInt8.ofNat n]) out:=by
 obtain⟨b,c,f,d⟩:=tg n h
 conv=>lhs;unfold fp
 rw[b,auB dc,c,auB om,auC ⟨om,om⟩,auC om,d]
theorem aar {a n:Nat}(h:n < 85){r g out:List UInt8}(e:g.length=4)(f:ee (g++[UInt8.ofNat n]) < 4294967296)(hm:out.length+4<=a):fp a (UInt8.ofNat (33+n)::r) g out=fp a r [] (out++cd (ee (g++[UInt8.ofNat n]))):=by
 obtain⟨b,c,i,d⟩:=tg n h
 conv=>lhs;unfold fp
 rw[b,auB dc,c,auB om,auC ⟨om,om⟩,auB om,d,auB om,auB om]
theorem BY (p:List UInt8):ko p < 4294967296:=by
 have a:=(p.getD 0 0).toNat_lt;have b:=(p.getD 1 0).toNat_lt;have c:=(p.getD 2 0).toNat_lt;have d:=(p.getD 3 0).toNat_lt;unfold ko;omega
theorem B0 {p:List UInt8}(hp:p.length=4):∃a b c d,p=[a,b,c,d]:=by
 rcases p with _|⟨a,_|⟨b,_|⟨c,_|⟨d,_|⟨e,t⟩⟩⟩⟩⟩
 case cons.cons.cons.cons.nil=>exact⟨a,b,c,d,rfl⟩
 all_goals simp at hp
theorem lh {n:Nat}{x:UInt8}(h:n % 256=x.toNat):UInt8.ofNat n=x:=by
 rw[<-UInt8.toNat_inj,ayE];exact h
theorem C0 {p:List UInt8}(hp:p.length=4){v:Nat}(f:v=ko p):cd v=p:=by
 obtain⟨a,b,c,d,rfl⟩:=B0 hp;have g:=a.toNat_lt;have h:=b.toNat_lt;have i:=c.toNat_lt;have j:=d.toNat_lt;have e:ko [a,b,c,d]=(a.toNat*256+b.toNat)*65536+c.toNat*256+d.toNat:=rfl;show [UInt8.ofNat (v / 16777216),UInt8.ofNat (v / 65536),UInt8.ofNat (v / 256),UInt8.ofNat v]=_;rw[f,e];rw[lh (x:=a) om,lh (x:=b) om,lh (x:=c) om,lh (x:=d) om]
theorem rm (v:Nat):cd v=[UInt8.ofNat (v / 16777216),UInt8.ofNat (v / 65536),UInt8.ofNat (v / 256),UInt8.ofNat v]:=rfl
theorem yb (a b c d e:UInt8):ee [a,b,c,d,e]=(((a.toNat*85+b.toNat)*85+c.toNat)*85+d.toNat)*85+e.toNat:=rfl
theorem yd (a b c d:UInt8):ee [a,b,c,d]=(((a.toNat*85+b.toNat)*85+c.toNat)*85+d.toNat)*85+84:=rfl
theorem yf (a b c:UInt8):ee [a,b,c]=(((a.toNat*85+b.toNat)*85+c.toNat)*85+84)*85+84:=rfl
theorem yg (a b:UInt8):ee [a,b]=(((a.toNat*85+b.toNat)*85+84)*85+84)*85+84:=rfl
theorem ij {n:Nat}(h:n < 85):(UInt8.ofNat n).toNat=n:=by rw[ayE,awB om]
theorem aas {v:Nat}(a:v < 4294967296):ee [UInt8.ofNat (v / 52200625 % 85),UInt8.ofNat (v / 614125 % 85),UInt8.ofNat (v / 7225 % 85),UInt8.ofNat (v / 85 % 85),UInt8.ofNat (v / 1 % 85)]=v:=by
 have h:∀n:Nat,n % 85 < 85:=λn=>axU _ dc;rw[yb,ij (h _),ij (h _),ij (h _),ij (h _),ij (h _),Nat.div_one];have e1:v / 7225=v / 85 / 85:=by rw[axM]
 have e2:v / 614125=v / 85 / 85 / 85:=by rw[axM,axM]
 have e3:v / 52200625=v / 85 / 85 / 85 / 85:=by rw[axM,axM,axM]
 rw[e1,e2,e3];omega
theorem rn {a:Nat}{g out p:List UInt8}(b:g.length=p.length+1)(d:0 < p.length)(e:ee g < 4294967296)(hm:out.length+p.length<=a)(c:(cd (ee g)).take p.length=p):fp a [126,62] g out=(out++p,0):=by
 unfold fp;rw[auB dc,auB (λh=>absurd h.1 dc),auB (λh=>absurd h.2 dc),auC dc];unfold nr;rw[auB sm,auB (λh=>h.elim (λh=>h rfl) (λh=>by omega)),auB om,auB om,auB om,b,ayS,c]
theorem xu (l:Nat):∀(f:Nat) (s out:List UInt8),s.length < f->out.length+s.length<=l->fp l (ma f s) [] out=(out++s,0)
|0,_,_,h,_=>by omega
|f+1,s,out,D,hm=>by
  unfold ma;by_cases p:s=[]
  ·rw[auC p,p,avA];unfold fp;rw[auB dc,auB (λh=>absurd h.1 dc),auB (λh=>absurd h.2 dc),auC dc];unfold nr;rw[auB sm,auB (λh=>h.elim (λh=>h rfl) (λh=>absurd h dc)),auC (show ([]:List UInt8).length=0 from rfl)]
  rw[auB p];have E:0 < s.length:=azL.2 p;have g:∀n:Nat,n % 85 < 85:=λn=>axU _ dc;by_cases z:4<=s.length
  ·have r:s.take 4++s.drop 4=s:=avV ..
   have lt:(s.take 4).length=4:=by rw[auM];omega
   have F:(s.drop 4).length=s.length - 4:=auT;have q:=xu l f (s.drop 4) (out++s.take 4) om (by rw[auH];omega);rw[auN,r] at q;have m:=BY (s.take 4);have o:=C0 lt rfl;unfold nu;by_cases u:ko (s.take 4)=0∧(s.take 4).length=4
   ·rw[auC u];rw[u.1] at o;have e:s.take 4=[0,0,0,0]:=by rw[<-o];rfl
    rw[e] at q;show fp l (122::ma f (s.drop 4)) [] out=_;unfold fp;rw[auB dc,auC ⟨dc,rfl⟩,auB om,q]
   ·rw[auB u,lt];generalize G:ko (s.take 4)=v at m o;show fp l (UInt8.ofNat (33+v / 52200625 % 85)::UInt8.ofNat (33+v / 614125 % 85)::UInt8.ofNat (33+v / 7225 % 85)::UInt8.ofNat (33+v / 85 % 85)::UInt8.ofNat (33+v / 1 % 85)::ma f (s.drop 4)) [] out=_;rw[jv (g _) dc,jv (g _) sm,jv (g _) sm,jv (g _) sm];have hw:=aas m;rw[aar (g _) sm (by show ee [_,_,_,_,_] < _;rw[hw];exact m) om];show fp l _ [] (out++cd (ee [_,_,_,_,_]))=_;rw[hw,o,q]
  ·have r:s.take 4=s:=avE om;have A:s.drop 4=[]:=aAa om;have B:ma f []=[126,62]:=by
    obtain⟨f,rfl⟩:∃j,f=j+1:=⟨f - 1,om⟩;unfold ma;rw[auC rfl]
   rw[r,A,B];unfold nu;rw[auB om];rcases s with _|⟨a,_|⟨b,_|⟨c,_|⟨d,t⟩⟩⟩⟩
   ·exact absurd rfl p
   ·have y:=a.toNat_lt;have m:ko [a]=a.toNat*16777216:=by show (a.toNat*256+0)*65536+0*256+0=_;omega
    rw[m];obtain⟨v,w⟩:∃v,v=a.toNat*16777216:=⟨_,rfl⟩;rw[<-w];show fp l (UInt8.ofNat (33+v / 52200625 % 85)::UInt8.ofNat (33+v / 614125 % 85)::[126,62]) [] out=_;rw[jv (g _) dc,jv (g _) sm];have e:ee [UInt8.ofNat (v / 52200625 % 85),UInt8.ofNat (v / 614125 % 85)]=v / 614125*614125+614124:=by
     rw[yg,ij (g _),ij (g _)];have e3:v / 52200625=v / 614125 / 85:=by rw[axM]
     rw[e3];omega
    have i:v<=v / 614125*614125+614124:=om
    have k:v / 614125*614125+614124 < v+614125:=om
    generalize v / 614125*614125+614124=X at e i k;refine rn rfl sm ?_ hm ?_
    ·show ee [_,_] < _;rw[e];omega
    ·show (cd (ee [_,_])).take 1=_;rw[e,rm,lh (x:=a) om];rfl
   ·have y:=a.toNat_lt;have C:=b.toNat_lt;have m:ko [a,b]=(a.toNat*256+b.toNat)*65536:=by show (a.toNat*256+b.toNat)*65536+0*256+0=_;omega
    rw[m];generalize w:(a.toNat*256+b.toNat)*65536=v;show fp l (UInt8.ofNat (33+v / 52200625 % 85)::UInt8.ofNat (33+v / 614125 % 85)::UInt8.ofNat (33+v / 7225 % 85)::[126,62]) [] out=_;rw[jv (g _) dc,jv (g _) sm,jv (g _) sm];have e:ee [UInt8.ofNat (v / 52200625 % 85),UInt8.ofNat (v / 614125 % 85),UInt8.ofNat (v / 7225 % 85)]=v / 7225*7225+7224:=by
     rw[yf,ij (g _),ij (g _),ij (g _)];have e2:v / 614125=v / 7225 / 85:=by rw[axM]
     have e3:v / 52200625=v / 7225 / 85 / 85:=by rw[axM,axM]
     rw[e2,e3];omega
    have i:v<=v / 7225*7225+7224:=om
    have k:v / 7225*7225+7224 < v+7225:=om
    generalize v / 7225*7225+7224=X at e i k;refine rn rfl sm ?_ hm ?_
    ·show ee [_,_,_] < _;rw[e];omega
    ·show (cd (ee [_,_,_])).take 2=_;rw[e,rm,lh (x:=a) om,lh (x:=b) om];rfl
   ·have y:=a.toNat_lt;have C:=b.toNat_lt;have H:=c.toNat_lt;have m:ko [a,b,c]=(a.toNat*256+b.toNat)*65536+c.toNat*256:=by show (a.toNat*256+b.toNat)*65536+c.toNat*256+0=_;omega
    rw[m];generalize w:(a.toNat*256+b.toNat)*65536+c.toNat*256=v;show fp l (UInt8.ofNat (33+v / 52200625 % 85)::UInt8.ofNat (33+v / 614125 % 85)::UInt8.ofNat (33+v / 7225 % 85)::UInt8.ofNat (33+v / 85 % 85)::[126,62]) [] out=_;rw[jv (g _) dc,jv (g _) sm,jv (g _) sm,jv (g _) sm];have e:ee [UInt8.ofNat (v / 52200625 % 85),UInt8.ofNat (v / 614125 % 85),UInt8.ofNat (v / 7225 % 85),UInt8.ofNat (v / 85 % 85)]=v / 85*85+84:=by
     rw[yd,ij (g _),ij (g _),ij (g _),ij (g _)];have e1:v / 7225=v / 85 / 85:=by rw[axM]
     have e2:v / 614125=v / 85 / 85 / 85:=by rw[axM,axM]
     have e3:v / 52200625=v / 85 / 85 / 85 / 85:=by rw[axM,axM,axM]
     rw[e1,e2,e3];omega
    have i:v<=v / 85*85+84:=om
    have k:v / 85*85+84 < v+85:=om
    generalize v / 85*85+84=X at e i k;refine rn rfl sm ?_ hm ?_
    ·show ee [_,_,_,_] < _;rw[e];omega
    ·show (cd (ee [_,_,_,_])).take 3=_;rw[e,rm,lh (x:=a) om,lh (x:=b) om,lh (x:=c) om];rfl
   ·simp at z
theorem aat {s:List UInt8}{most:Int}(hm:(s.length:Int)<=most)(a:s.length<=1048576):ry (mz s) most=(s,0):=
 rj hm a λm h=>by
  unfold mz;rw[xu m (s.length+1) s [] om (by simpa using h)];rfl
theorem aau {s:List UInt8}{most:Int}(hm:(s.length:Int)<=most)(a:s.length<=1048576):ru (my s) most=(s,0):=
 rj hm a λm h=>by
  unfold my;rw[rk m (s.length+1) s [] _ om (by simpa using h) (Nat.le_succ _)];rfl
end
end Go.Proofs.YtlgndjkieegnaaaGreatDoor




namespace Go.Proofs.YtlgndjkieegnaaaGreatDoor
variable{D:TypeId}{K:VWP}{M N:Eng.Mem}{PK:PKT}{R:Ending->FrameMode->ao->Prop}{W w:ao}{a:Int}{args ca fa:Array aq}{b f i j:Nat}{cb:Array Bool}{cs:List aq}{key:List UInt8}{o:Ob}{pv t0 v vc vk:aq}{q:Bool}{u:FrameMode}{xo yo:Operand}{t0 t1:aq}{k0:Eng.KT}
section
open Eng Go.RowKit
namespace Ff
def Br (n s:List UInt8):List UInt8:=if full n=nHx then Oc.hex s++[62] else if full n=n85 then mz s else if full n=nRL then my s else []
def MT (n:List UInt8)(x:Pm)(s t:List UInt8)(e:Int):Prop:=
 if full n=[] then t=[]∧e=15
 else if full n=nFl then (if ei x s=0 then e=0∧ie t 1048576=(dm x s,0)∧t.length<=(dm x s).length+(dm x s).length / 1000+16 else t=[]∧e=ei x s)
 else t=Br n s∧e=0
end Ff
theorem Ff.Zy {n:List UInt8}{x:Pm}{s t:List UInt8}{e:Int}(h:Ff.MT n x s t e)(he:e=0)(b:s.length<=1048576):Ff.MP n x t=(s,0):=by
 unfold Ff.MT at h;by_cases c:Ff.full n=[]
 ·rw[auC c] at h;rw[h.2] at he;cases he
 rw[auB c] at h;unfold Ff.MP;by_cases a:Ff.full n=Ff.nFl
 ·rw[auC a] at h;rw[auB (by rw[a];decide),auB (by rw[a];decide),auB (by rw[a];decide),auC a];by_cases hw:ei x s=0
  ·rw[auC hw] at h;have d:x.ok:=by
    refine Decidable.byContradiction λf=>?_;unfold ei at hw;rw[auC f] at hw;cases hw
   rw[auB (by simp[d])];simp only[h.2.1];rw[auB dc];exact (xl hw).1
  ·rw[auB hw] at h;rw[h.2] at he;exact absurd he hw
 ·rw[auB a] at h;obtain⟨rfl,_⟩:=h;have g:=Ff.G3 n;rcases g with h|h|h|h|h
  ·have hp:Ff.Br n s=Oc.hex s++[62]:=by unfold Ff.Br;rw[auC h]
   rw[hp,auC h];exact aaq om b
  ·have hp:Ff.Br n s=mz s:=by unfold Ff.Br;rw[auB (by rw[h];decide),auC h]
   rw[hp,auB (by rw[h];decide),auC h];exact aat om b
  ·have hp:Ff.Br n s=my s:=by unfold Ff.Br;rw[auB (by rw[h];decide),auB (by rw[h];decide),auC h]
   rw[hp,auB (by rw[h];decide),auB (by rw[h];decide),auC h];exact aau om b
  ·exact absurd h a
  ·exact absurd h c
theorem Vd:cW ah 143=true:=krx
theorem Ve (b f:Nat)(s r:List UInt8)(M:Mem)(w:ao)(hp:cW ah f=aw)(c:(UA b f).is w)(a:M.has w)(h:jR ah f #[ae s] M w (λv _=>v=ae r)) :
  jR ah 169 #[ae s,af b 0] M w (λv _=>v=zlT (r,0)):=by
 refine bB a λK d=>Gr ?_;unfold BQ nz;rw[aJ nFnS (aI (T:=88) (cs:=[fnV f]) c (i:=0) rfl)];unfold fnV;refine LB hp (bH (bT.memS a) 0 rfl h ?_);rintro _ N g g1 rfl e;exact d _ _ N _ 0 e rfl g1 rfl
theorem WG (x:Pm)(f:PeR x)(s:List UInt8)(M:Mem)(w:ao)(c:M.has w)(g:s.length<=1000000000) :
  jR ah 143 #[pmV x,ae s] M w (λv _=>∃t e,v=zlT (t,e)∧if ei x s=0 then e=0∧ie t 1048576=(dm x s,0)∧t.length<=(dm x s).length+(dm x s).length / 1000+16 else t=[]∧e=ei x s):=by
 refine bB c λK d=>AF ?_;unfold sF nz;refine bK (λb=>af b 0) (pmC x) 158 (λ_=>by kernel_rfl) (bT.memS c) λb2 i a=>?_;rw[aW afB,EN (T:=53) (v:=pmV x) (AtV.agg LK (cs:=pmC x) rfl λj u k=>by rw[awF,auP];exact a.cell 0 rfl j k)];refine aK a (f s i g) ?_;rintro _ w2 rfl a;simp only[encT,ex,eC];by_cases hw:ei x s=0
 case neg=>
  simp only[auG (show ei x s≠0 from hw),i_t];exact d _ _ M _ 1 a rfl M.le_refl ⟨[],ei x s,rfl,by rw[auB hw];exact⟨rfl,rfl⟩⟩
 simp only[auD (show ¬ei x s≠0 fromλh=>h hw),i_f,auC hw];refine bH a 1 rfl (XF (dm x s) M w2 (a.hasM 1 rfl) (xl hw).2) ?_;rintro _ N w3 g1 ⟨t,rfl,l,m⟩ a;simp only[ex];exact d _ _ N _ 1 a rfl g1 ⟨t,0,rfl,by rw[auC hw];exact⟨rfl,l,m⟩⟩
def OnA (n:List UInt8):Prop:=∀(f g:Nat),(Ff.full n=Ff.nHx∧f=136∧g=138)∨(Ff.full n=Ff.n85∧f=139∧g=140)∨(Ff.full n=Ff.nRL∧f=141∧g=142)->∀(s:List UInt8) (M:Mem) (w:ao),Pws M->s.length<=1000000->M.has w ->
 ∃_:cW ah f=aw,¬Ff.full n=[]∧¬Ff.full n=Ff.nFl∧jR ah f #[ae s] M w (λv _=>v=ae (Ff.Br n s))
theorem apJ {n:List UInt8}(h:Ff.full n=Ff.nFl):OnA n:=by
 intro f g b;rcases b with ⟨a,_⟩|⟨a,_⟩|⟨a,_⟩<;>rw[h] at a<;>exact absurd a dc
theorem afV (n:List UInt8)(x:Pm)(F:PeR x)(G:OnA n)(s:List UInt8)(M:Mem)(w:ao)(q:Pws M)(C:M.has w)(H:s.length<=1000000) :
  jR ah 86 #[ae n,pmV x,ae s] M w (λv _=>∃t e,v=zlT (t,e)∧Ff.MT n x s t e):=by
 refine bB C λK d=>JN ?_;unfold HK nz;unfold Ff.MT at d;refine Kd x (bT.memS C) λD J a=>?_;rw[Pr a 0 rfl];have c:∀{p u:aq},p.oneCell'=aw->u.oneCell'=aw->∀y∈wyC p u,y.oneCell'=true:=by
  intro p u hp hu y E;simp only[wyC,auI,avP,or_false] at E;rcases E with rfl|rfl<;>assumption
 refine anN a (λf g r l b2 w2 a=>?_) (λm w2 a=>?_) (λm w2 a=>?_)
 ·simp only[ex];refine bK (λb=>af b 0) (wyC .nilFunc .nilFunc) 130 (λ_=>by kernel_rfl) a λo w3 a=>?_;refine jH 0 a rfl (new:=wyC (FF l) (EO b2)) Py (c rfl rfl) rfl λi a=>?_;have a:bT M.A w i [wyE o (FF l) (EO b2),upE b2 g,UA l f,pmE D x,.mem M]:=a;simp only[eC,show ai ((0:Int)≠0)=au from rfl,i_f];rw[iU auQ];simp only[rs,show ai ((1048576:Int) < (s.length:Int))=au from auD om,i_f];rw[aW adR,aJ nFnW (a.cell 0 rfl 0 rfl)];have k:=a.hasM 4 rfl;have key:=G f g r s M i q H k;obtain⟨hp,j,z,key⟩:=key;simp only[auB j,auB z] at d;unfold FF;refine LB VF (bH a 4 rfl (Ve l f s _ M i hp (a.at_ 2 rfl) k key) ?_);rintro _ N I g1 rfl a;simp only[zlT,ex];exact d _ _ N _ 4 a rfl g1 ⟨_,_,rfl,rfl,rfl⟩
 ·have j:¬Ff.full n=[]:=by rw[m];decide
  simp only[auB j,auC m] at d;simp only[ex];refine bK (λb=>af b 0) (wyC .nilFunc .nilFunc) 130 (λ_=>by kernel_rfl) a λo w3 a=>?_;refine jH 0 a rfl (new:=wyC (Oe x) (yF x)) Py (c rfl rfl) rfl λi a=>?_;have a:bT M.A w i [wyE o (Oe x) (yF x),pmE D x,.mem M]:=a;simp only[eC];by_cases B:x.ok
  case neg=>
   have hw:ei x s=1:=by unfold ei;rw[auC B]
   simp only[hw,auB (show ¬(1:Int)=0 by decide)] at d;simp only[auB B,show ai ((1:Int)≠0)=aw from rfl,i_t];exact d _ _ M _ 2 a rfl M.le_refl ⟨[],1,rfl,rfl,rfl⟩
  simp only[auC B,show ai ((0:Int)≠0)=au from rfl,i_f];rw[iU auQ];simp only[rs,show ai ((1048576:Int) < (s.length:Int))=au from auD om,i_f];rw[aW adR,aJ nFnW (a.cell 0 rfl 0 rfl)];unfold Oe;refine LB Vd (bH a 2 rfl (WG x F s M i (a.hasM 2 rfl) om) ?_);rintro _ N I g1 ⟨t,e,rfl,h⟩ a;simp only[zlT,ex];exact d _ _ N _ 2 a rfl g1 ⟨t,e,rfl,h⟩
 ·simp only[auC m] at d;simp only[ex];refine bK (λb=>af b 0) (wyC .nilFunc .nilFunc) 130 (λ_=>by kernel_rfl) a λo w3 a=>?_;refine jH 0 a rfl (new:=wyC .nilFunc .nilFunc) Py (c rfl rfl) rfl λi a=>?_;simp only[eC,show ai ((15:Int)≠0)=aw from rfl,i_t];exact d _ _ M _ 2 a rfl M.le_refl ⟨[],15,rfl,rfl,rfl⟩
end
end Go.Proofs.YtlgndjkieegnaaaGreatDoor

namespace Go.Proofs.YtlgndjkieegnaaaGreatDoor
variable{D:TypeId}{K:VWP}{M N:Eng.Mem}{PK:PKT}{R:Ending->FrameMode->ao->Prop}{W w:ao}{a:Int}{args ca fa:Array aq}{b f i j:Nat}{cb:Array Bool}{cs:List aq}{key:List UInt8}{o:Ob}{pv t0 v vc vk:aq}{q:Bool}{u:FrameMode}{xo yo:Operand}{t0 t1:aq}{k0:Eng.KT}
section
open Eng Go.RowKit
namespace Ff
def cP (p:Pm):Ob:=.mk 7 0 0 [] [Al,Ap,AE] [ob1 2 p.c 0 [],ob1 2 p.n 0 [],ob1 2 p.p 0 []]
theorem xG (n:Int)(d:Nat)(a:d<=24)(h:-2147483647<=n∧n<=2147483647):Vl.check d (ob1 2 n 0 [])=0:=
 Vl.gG.2 ⟨⟨a,rfl,(λe=>absurd e (show ¬((2:Int)=9) by decide)),(show ai (-2147483647<=n∧n<=2147483647)=aw from auG h),(show (0:Nat)<=_ from avG _),(show (0:Nat)<=8191 by decide),rfl⟩,(λc b=>by cases b)⟩
def pmI (p:Pm):Prop:=(-2147483647<=p.p∧p.p<=2147483647)∧(-2147483647<=p.c∧p.c<=2147483647)∧(-2147483647<=p.n∧p.n<=2147483647)
theorem yQ (p:Pm)(d:Nat)(b:d<=23)(h:pmI p):Vl.check d (cP p)=0:=by
 refine Vl.gG.2 ⟨⟨om,rfl,(λe=>absurd e (show ¬((7:Int)=9) by decide)),rfl,(show (0:Nat)<=_ from avG _),(show (3:Nat)<=8191 by decide),rfl⟩,λc a=>?_⟩;have a:c∈[ob1 2 p.c 0 [],ob1 2 p.n 0 [],ob1 2 p.p 0 []]:=a;simp only[auI,avP,or_false] at a;rcases a with rfl|rfl|rfl
 ·exact xG _ _ om h.2.1
 ·exact xG _ _ om h.2.2
 ·exact xG _ _ om h.1
theorem Vm (p:Pm)(h:pmI p):Vl.lI [bP Al,ob1 2 p.c 0 [],bP Ap,ob1 2 p.n 0 [],bP AE,ob1 2 p.p 0 []]=(cP p,0):=by
 have e:Vl.lI [bP Al,ob1 2 p.c 0 [],bP Ap,ob1 2 p.n 0 [],bP AE,ob1 2 p.p 0 []]=Vl.right (cP p):=krx
 rw[e];unfold Vl.right;rw[yQ p 1 dc h];rfl
theorem acP {p:Pm}(h:p≠xF):Pm.eqb p xF=false:=by
 cases d:Pm.eqb p xF with
|false=>rfl
|true=>
  unfold Pm.eqb at d;simp only[auY,avK] at d;obtain⟨a,b,c⟩:=p;exact absurd (by rw[show a=_ from d.1,show b=_ from d.2.1,show c=_ from d.2.2]) h
end Ff
section
variable {w:ao}{PK:PKT}{K:VWP}{S:Nat->Prop}{w0:ao}{L T:List Ent}
theorem amF (a c d e f g:Ob)(h:bT S w0 w L)(k:∀b w',bT S w0 w' (.cells b (obC a cI cI++obC c cI cI++obC d cI cI++obC e cI cI++obC f cI cI++obC g cI cI) 25::L)->K (bO b 0 6 6) w') :
  DoX ah (aM 23 6 #[(0,obV a cI cI),(1,obV c cI cI),(2,obV d cI cI),(3,obV e cI cI),(4,obV f cI cI),(5,obV g cI cI)]) w PK K:=
 bK (λb=>bO b 0 6 6) _ 25 (λ_=>by kernel_rfl) h k
end
theorem fI (N:Mem)(k n g:Int)(s:List UInt8):OV N.A N.w (obV (ob1 k n g s) cI cI) (ob1 k n g s):=
 tE.ov (o:=ob1 k n g s) (vk:=cI) (vc:=cI) (cs:=[]) ⟨SlA.nil _ _ _ _,SlA.nil _ _ _ _,.nil⟩
theorem Vu (p:Pm)(hp:p≠Ff.xF)(hi:Ff.pmI p)(M:Mem)(w:ao)(i:M.has w):jR ah 88 #[pmV p] M w (λr N=>∃v',r=A4 v' 0∧OV N.A N.w v' (Ff.cP p)):=by
 refine bB i λK k=>IY ?_;unfold Gf iN dx stx alx;refine Kd p (bT.memS i) λd z a=>?_;refine dJ a λb2 w2 a=>?_;refine cY (λW=>bT M.A w W [obE b2 ob0 cI cI,pmE d p,.mem M]) a.drew ?_;refine gA (pmV p) (λW h=>aY (h.agg 1 rfl LK)) ?_;refine fY (pmV Ff.xF) (λW h=>(Hg W).mono λv w' ⟨l,m⟩=>⟨l,h.grow m⟩) ?_;refine dY _ (λ_=>aoP) ?_;intro w3 a;rw[Ff.acP hp,i_f];have a:=a.drew;refine⟨λW=>(pmE d p).is W,a.at_ 1 rfl,?_⟩;refine aP (af d (0+1)) (λ_=>bE Md) (fS (ad p.c) (λW h=>aB aU (aI (T:=53) (cs:=pmC p) h rfl)) ?_);refine aP (af d (0+2)) (λ_=>bE Pj) (fS (ad p.n) (λW h=>aB aU (aI (T:=53) (cs:=pmC p) h rfl)) ?_);refine aP (af d (0+0)) (λ_=>bE XE) (fS (ad p.p) (λW h=>aB aU (aI (T:=53) (cs:=pmC p) h rfl)) ?_);refine aK a (jV Ff.Al _) ?_;rintro _ B rfl a;refine⟨a.at_ 1 rfl,?_⟩;refine aK a (uR p.c _) ?_;rintro _ C rfl a;refine⟨a.at_ 1 rfl,?_⟩;refine aK a (jV Ff.Ap _) ?_;rintro _ D rfl a;refine⟨a.at_ 1 rfl,?_⟩;refine aK a (uR p.n _) ?_;rintro _ E rfl a;refine⟨a.at_ 1 rfl,?_⟩;refine aK a (jV Ff.AE _) ?_;rintro _ F rfl a;refine⟨a.at_ 1 rfl,?_⟩;refine aK a (uR p.p _) ?_;rintro _ G rfl a;refine⟨a.at_ 1 rfl,?_⟩;refine amF (Ff.bP Ff.Al) (ob1 2 p.c 0 []) (Ff.bP Ff.Ap) (ob1 2 p.n 0 []) (Ff.bP Ff.AE) (ob1 2 p.p 0 []) a λb g a=>?_;refine⟨a.at_ 2 rfl,?_⟩;obtain⟨N,hle,e,a⟩:=bT.bG (L:=[obE b2 ob0 cI cI,pmE d p,.mem M]) (a.toU 6 6 6 rfl om om) 2 rfl;refine bH a 2 rfl (Xm [Ff.bP Ff.Al,ob1 2 p.c 0 [],Ff.bP Ff.Ap,ob1 2 p.n 0 [],Ff.bP Ff.AE,ob1 2 p.p 0 []] _ _ N g (Nat.le_of_ble_eq_true krx) (a.hasM 2 rfl) e
  (dM (dM (dM (dM (dM (kI (fI N 5 0 0 Ff.Al)) (kI (fI N 2 p.c 0 []))) (kI (fI N 5 0 0 Ff.Ap))) (kI (fI N 2 p.n 0 []))) (kI (fI N 5 0 0 Ff.AE))) (kI (fI N 2 p.p 0 [])))) ?_
 rw[Ff.Vm p hi];rintro _ o q s ⟨H,rfl,j⟩ a;obtain⟨t,u,x,rfl,f⟩:=j.open;refine⟨a.at_ 1 rfl,?_⟩;unfold A4;refine aP (obV (Ff.cP p) t u) (λ_=>by kernel_rfl) (aP (ad 0) (λ_=>by kernel_rfl) ?_);refine aT 0 f.keys.one f.kids.one a rfl λy a=>?_;exact dL 0 a rfl (k _ _ o _ 2 a rfl (hle.trans s) ⟨_,rfl,j⟩)
theorem VJ (n:List UInt8)(p:Pm)(vn vp:aq)(M:Mem)(w:ao)(t:Ff.full n=Ff.nFl)(u:M.has w)(k:SlA M.A M.w vn 1 [n].length (bI [n]))(hp:SlA M.A M.w vp 3 1 (pmC p)) :
  jR ah 85 #[vn,vp] M w (λr N=>∃va v,r=.tuple #[va,v,ad 0]∧SlA N.A N.w va 1 [Ff.nFl].length (bI [Ff.nFl])∧SlA N.A N.w v 3 [p].length ([p].flatMap pmC)):=by
 refine bB u λK B=>Kq ?_;unfold Ie nz;have a:bT M.A w w [.mem M]:=bT.memS u;rw[pJ k];simp only[rs,show ai ((8:Int) < (([n].length:Nat):Int))=au from rfl,i_f];rw[pJ k];have a:=bT.nilU a 9 1;refine loop (λvs W=>∃(i:Nat) (ov:aq),vs=[ov,ad (i:Int)]∧i<=1∧bT M.A w W [stsE ov (([n].take i).map Ff.full),.mem M]) (λvs _=>1 - n1 vs) ⟨0,cI,rfl,om,a⟩ ?_;clear a;rintro vs l ⟨i,ov,rfl,hi,a⟩ _;simp only[DG,gd,rs,nz];by_cases c:(i:Int) < (([n].length:Nat):Int)
 ·simp only[c,auE,i_t];have f:i < [n].length:=by have:(i:Int) < 1:=c;show i < 1;omega
  obtain⟨q,h,j⟩:=NO k f;rw[aD (h l),aD (j l (a.hasM 1 rfl))];have m:i=0:=by have:i < 1:=f;omega
  subst m;refine BJ (KC n l) ?_;simp only[ex,rs,auG (show Ff.full n≠[] by rw[t];decide),awA,i_f];refine XG _ a sm λo E a=>?_
  try simp only[rs]
  exact bC ⟨1,o,rfl,om,a⟩ (by show (0:Nat) < 1;decide)
 simp only[c,auF,i_f];have:i=1:=by have:¬(i:Int) < 1:=c;omega
 subst this;obtain⟨N1,x,d,a⟩:=a.bG 0 rfl;have a:bT M.A w l [.mem N1]:=a;have d:SlA N1.A N1.w ov 1 [Ff.nFl].length (bI [Ff.nFl]):=by
  have e:([n].take 1).map Ff.full=[Ff.nFl]:=by simp[t]
  rw[e] at d;exact d
 have g:=hp.le x;rw[aZ azW (g.now (a.hasM 0 rfl))];simp only[rs,show ai (((1:Nat):Int)≠0)=aw from rfl,i_t];rw[aZ azW (g.now (a.hasM 0 rfl)),pJ k];simp only[rs,show ai (((1:Nat):Int)≠(([n].length:Nat):Int))=au from rfl,i_f];refine bK (λb=>bO b 0 0 0) [] 53 (λ_=>by kernel_rfl) a λb3 w2 a=>?_;have a:=bT.toU a (sz:=3) (n:=0) (cap:=0) rfl (auL _) dc;have a:bT M.A w w2 [Mn (bO b3 0 0 0) [],.mem N1]:=a;refine bZ 0 azW elPm dc a rfl (g.now (a.hasM 1 rfl)) Kz dc dc λva w3 a=>?_;have a:bT M.A w w3 [Mn va [p],.mem N1]:=a;rw[pJ d];refine loop (λvs W=>∃(i:Nat),vs=[va,ad (i:Int)]∧i<=1∧bT M.A w W [Mn va [p],.mem N1]) (λvs _=>1 - n1 vs) ⟨0,rfl,om,a⟩ ?_;clear a;rintro vs y ⟨i,rfl,hi,a⟩ _;simp only[Dj,gd,rs,nz];by_cases c:(i:Int) < (([Ff.nFl].length:Nat):Int)
 ·simp only[c,auE,i_t];have f:i < [Ff.nFl].length:=by have:(i:Int) < 1:=c;show i < 1;omega
  obtain⟨q,h,j⟩:=NO d f;rw[aD (h y),aD (j y (a.hasM 1 rfl))];have m:i=0:=by have:i < 1:=f;omega
  subst m;refine join λJ C=>?_;rw[aZ azW (g.now (a.hasM 1 rfl))];simp only[rs,show ai (((1:Nat):Int)=0)=au from rfl,i_f];refine C _ _ λ_=>?_;simp only[DK,gd,nz];refine cY (λW=>bT M.A w W [Mn va [p],.mem N1]) a.drew ?_;rw[show (Value.string ⟨#[70,108,97,116,101,68,101,99,111,100,101]⟩)=ae Ff.nFl from rfl];refine ahV ?_;rw[show ai ([Ff.nFl][0]≠Ff.nFl)=au from rfl];simp only[gq,CM];refine F9 ?_;intro F a;rw[i_f,OA,aA om om];exact bC ⟨1,rfl,om,a⟩ (by show (0:Nat) < 1;decide)
 simp only[c,auF,i_f];obtain⟨D,z,s,a⟩:=a.bG 0 rfl;exact B _ _ D _ 0 a rfl (x.trans z) ⟨ov,va,rfl,d.le z,s⟩
namespace Cs
abbrev kK:List UInt8:=[84,121,112,101]
abbrev qU:List UInt8:=[88,82,101,102]
abbrev iD:List UInt8:=[83,105,122,101]
abbrev kW:List UInt8:=[87]
abbrev fP:List UInt8:=[73,110,100,101,120]
abbrev pQ:List UInt8:=[80,114,101,118]
def kM (n:Int):Ob:=ob1 2 n 0 []
def D4 (l:List Int):Ob:=.mk 6 0 0 [] [] (l.map kM)
def flat (l:List (Int×Int)):List Int:=l.flatMap λr=>[r.1,r.2]
def size (l:List (Int×Int)):Int:=match l.getLast? with|some r=>r.1+r.2|none=>0
def bL (x:Sec):List (List UInt8×Ob):=
 [(kK,Ff.bP qU),(iD,kM (size (Tl.runs x.aC))),(kW,D4 [1,(wa x.aC:Nat),(wb x.aC:Nat)]),(fP,D4 (flat (Tl.runs x.aC)))]++if 0<=x.prev then [(pQ,kM x.prev)] else []
def gJ:Ob->List (List UInt8×Ob)->Ob×Int
|o,[]=>(o,0)
|o,p::r=>if (Vl.set o p.1 p.2).2≠0 then (Vl.ob0,(Vl.set o p.1 p.2).2) else gJ (Vl.set o p.1 p.2).1 r
def lI (x:Sec):Ob×Int:=gJ (iC x.trailer) (bL x)
def row (l:List (List UInt8×Ob)):List Ob:=l.flatMap λp=>[Ff.bP p.1,p.2]
theorem RX:∀l:List (List UInt8×Ob),(row l).length=2*l.length
|[]=>rfl
|p::l=>by
  have:=RX l;show ((row l).length+1)+1=_;rw[auX];omega
theorem WM:∀{l:List (List UInt8×Ob)} {i:Nat} (hi:i < l.length) (h:2*i+1 < (row l).length),(row l)[2*i]'(om)=Ff.bP l[i].1∧(row l)[2*i+1]=l[i].2
|p::l,0,_,_=>⟨rfl,rfl⟩
|p::l,i+1,hi,h=>by
  have a:i < l.length:=by simpa using hi
  have e:row (p::l)=Ff.bP p.1::p.2::row l:=rfl;have b:2*i+1 < (row l).length:=by rw[RX];omega
  have:=WM a b;constructor
  ·have e1:(row (p::l))[2*(i+1)]?=ay (Ff.bP l[i].1):=by
    rw[e,show 2*(i+1)=(2*i)+1+1 by omega,avR,avR,auO om,this.1]
   have:=auV.1 e1;exact this.2
  ·have e1:(row (p::l))[2*(i+1)+1]?=ay l[i].2:=by
    rw[e,show 2*(i+1)+1=(2*i+1)+1+1 by omega,avR,avR,auO om,this.2]
   have:=auV.1 e1;exact this.2
theorem FE:∀(l:List (List UInt8×Ob)) (o:Ob) (n:Nat),(∀p∈l,p.1.length<=10∧p.2.wt<=n)->(gJ o l).1.wt<=o.wt+(n+11)*l.length+6
|[],o,n,_=>by show o.wt<=_;omega
|p::r,o,n,h=>by
  have hp:=h p (avQ ..);have b:=Vl.JC o p.1 p.2;have c:=FE r (Vl.set o p.1 p.2).1 n λq a=>h q (auZ _ a);unfold gJ;rw[auX,Nat.mul_add];split
  ·show (6:Nat)<=_;omega
  ·omega
end Cs
theorem apN {l:List (Int×Int)}(a:SlA M.A M.w v 2 l.length (Pt l))(hi:i < l.length) :
  ∃p,(∀W,(mIA 62 v (ad (i:Int))).run ah W=.ok (.value (.pointer (ay p))) W)∧∀W,M.has W->(aH 97 (.pointer (ay p))).run ah W=.ok (.value (rnV l[i])) W:=by
 obtain⟨b,off,cap,rfl,_⟩:=bR a.1 om;refine⟨⟨b,off+i*2,ax⟩,λW=>?_,λW e=>?_⟩
 ·have:=cZ (P:=ah) (T:=62) (b:=b) (off:=off) (cap:=cap) (n:=l.length) (k:=.i64) (i:=(i:Int)) (w:=W) azG szRn om om;rw[auJ] at this;exact this
 ·obtain⟨h,c,d,he,f⟩:=bR (a.now e) om;cases he;refine aY (AtV.agg akU (cs:=rnC l[i]) rfl λj u g=>?_);rw[awU];exact f _ _ (Eng.nO JW hi g)
def intC (n:Int):List Value:=obC (Cs.kM n) cI cI
def Up (l:List Int):List Value:=l.flatMap intC
theorem Jd (N:Mem):∀l:List Int,OVs N.A N.w (Up l) (l.map Cs.kM)
|[]=>.nil
|n::l=>dM (kI (fI N 2 n 0 [])) (Jd N l)
abbrev inR (v:aq)(l:List Int):Ent:=.urow 25 6 v l.length (Up l)
section
variable {w:ao}{PK PK2:PKT}{K:VWP}{S:Nat->Prop}{w0:ao}{L T:List Ent}
theorem o_rn (a:bT S w0 w L)(k:∀b w',bT S w0 w' (.cells b (rnC (0,0)) 97::L)->K (af b 0) w'):DoX ah (fK 97) w PK K:=
 bK (λb=>af b 0) (rnC (0,0)) 97 (λ_=>by kernel_rfl) a k
theorem aeC (j:Nat){x y:Int×Int}(a:bT S w0 w L)(hi:L[j]?=ay (.cells b (rnC x) 97))(k:∀w',bT S w0 w' (L.set j (.cells b (rnC y) 97))->K undef w') :
  DoX ah (aN 97 (af b 0) (rnV y)) w PK K:=jH j a hi (new:=rnC y) szRn (Yv y) rfl k
theorem asU {d:Int}(c:bT S w0 w L)(k:∀b w',bT S w0 w' (.cells b (w3C a d) 43::L)->K (af b 0) w'):DoX ah (GP 43 (w3V a d)) w PK K:=
 bK (λb=>af b 0) (w3C a d) 43 (λ_=>by kernel_rfl) c k
theorem aqL {d:Int}(hi:i < 3):DoX ah (mIx 43 (w3V a d) (ad (i:Int))) w PK K=K (ad ([1,a,d].getD i 0)) w:=by
 rcases (by omega:i=0∨i=1∨i=2) with rfl|rfl|rfl<;>exact aD krx
theorem atX (i:Nat){l:List Int}{n:Int}(a:bT S w0 w L)(hi:L[i]?=ay (inR v l))(c:l.length<=1000000000)(k:∀v' w',bT S w0 w' (L.set i (inR v' (l++[n])))->K v' w') :
  DoX ah (aM 23 1 #[(0,obV (Cs.kM n) cI cI)]) w PK λt w=>DoX ah (mB .append #[23,23] 23 cb #[v,t]) w PK2 K:=by
 refine bK (λb=>bO b 0 1 1) (intC n) 25 (λ_=>by kernel_rfl) a λnb d a=>?_;refine G5 (i+1) a (by rw[avR];exact hi) (a.sl 0 rfl 6 1 1 rfl) (iF _ rfl rfl) om λv' w2 a=>k v' w2 ?_;have e:inR v' (l++[n])=.urow 25 6 v' (l.length+1) (Up l++intC n):=by
  unfold inR Up;rw[auH,axQ,ayP];rfl
 rw[e];exact a.tail
theorem akT (i:Nat){l:List Int}{n m:Int}(a:bT S w0 w L)(hi:L[i]?=ay (inR v l))(c:l.length<=1000000000)(k:∀v' w',bT S w0 w' (L.set i (inR v' (l++[n,m])))->K v' w') :
  DoX ah (aM 23 2 #[(0,obV (Cs.kM n) cI cI),(1,obV (Cs.kM m) cI cI)]) w PK λt w=>DoX ah (mB .append #[23,23] 23 cb #[v,t]) w PK2 K:=by
 refine bK (λb=>bO b 0 2 2) (intC n++intC m) 25 (λ_=>by kernel_rfl) a λnb d a=>?_;refine G5 (i+1) a (by rw[avR];exact hi) (a.sl 0 rfl 6 2 2 rfl) (λu hu=>?_) om λv' w2 a=>k v' w2 ?_
 ·rcases avF.1 hu with h|h<;>exact iF _ rfl rfl u h
 ·have e:inR v' (l++[n,m])=.urow 25 6 v' (l.length+2) (Up l++(intC n++intC m)):=by
   unfold inR Up;rw[auH,axQ];rfl
  rw[e];exact a.tail
theorem arJ {n:Int}{a c d e:aq}{f g:Ob}(h:bT S w0 w L)
  (k:∀b w',bT S w0 w' (.cells b (obC (Ff.bP Cs.kK) cI cI++obC (Ff.bP Cs.qU) cI cI++obC (Ff.bP Cs.iD) cI cI++intC n++obC (Ff.bP Cs.kW) cI cI++obC f a c++obC (Ff.bP Cs.fP) cI cI++obC g d e) 25::L)->K (bO b 0 8 8) w') (i:a.oneCell'=aw) (j:c.oneCell'=aw) (l:d.oneCell'=aw) (m:e.oneCell'=aw) :
  DoX ah (aM 23 8 #[(0,obV (Ff.bP Cs.kK) cI cI),(1,obV (Ff.bP Cs.qU) cI cI),(2,obV (Ff.bP Cs.iD) cI cI),(3,obV (Cs.kM n) cI cI),(4,obV (Ff.bP Cs.kW) cI cI),(5,obV f a c),(6,obV (Ff.bP Cs.fP) cI cI),(7,obV g d e)]) w PK K:=
 bK (λb=>bO b 0 8 8) _ 25 (λ_=>by kernel_rfl) h k
end
end
section
open Go Eng
namespace Tl
theorem Mr:∀{l:List Slt} {last:Option Int},tP last l=0->∀x∈l,okS x=0
|y::l,last,h,x,b=>by
  unfold tP at h;by_cases a:okS y≠0
  ·rw[auC a] at h;exact absurd h a
  rw[auB a] at h;split at h
  ·cases h
  split at h
  ·cases h
  rcases auI.1 b with rfl|b
  ·exact awX.1 a
  ·exact Mr h x b
theorem xB {l:List Slt}(h:check l=0):∀x∈l,okS x=0:=Mr h
theorem MS {x:Slt}(h:okS x=0):(0<=x.num∧x.num<=8191)∧(0<=x.kind∧x.kind<=2)∧(0<=x.a∧x.a<=2147483647)∧(0<=x.b∧x.b<=65535):=by
 unfold okS at h;split at h
 ·cases h
 split at h
 ·cases h
 split at h
 ·split at h
  ·cases h
  ·omega
 ·split at h
  ·cases h
  ·omega
theorem GB {l:List Slt}(h:check l=0):∀r∈runs l,0<=r.1∧r.1<=8191∧0<=r.2∧r.2<=l.length:=by
 intro r e;obtain⟨g,b,rfl⟩:=avN.1 e;obtain⟨d,f⟩:=xD l;obtain⟨c,_⟩:=f g b;have a:∀x∈g,x∈l:=λx i=>by rw[<-d];exact List.mem_flatten.2 ⟨g,b,i⟩
 have hlen:g.length<=l.length:=by
  rw[<-d];exact (List.sublist_flatten_of_mem b).length_le
 cases g with
|nil=>exact absurd rfl c
|cons x g=>
  have:=MS (xB h x (a x (avQ ..)));show 0<=x.num∧x.num<=8191∧(0:Int)<=((x::g).length:Int)∧((x::g).length:Int)<=_;omega
end Tl
theorem SZ {l:List Slt}(h:Tl.check l=0):UT l:=λx a=>by
 have:=Tl.MS (Tl.xB h x a);omega
namespace Cs
def kJ (s:Slt)(a b:Nat):List UInt8:=num s.kind 1++num s.a a++num s.b b
def pM (l:List Slt)(a b:Nat):List UInt8:=l.flatMap λs=>kJ s a b
def rows (l:List Slt):List UInt8:=pM l (wa l) (wb l)
def pm (l:List Slt):Pm:=⟨12,1,1+(wa l:Nat)+(wb l:Nat)⟩
theorem En (s:Slt)(a b:Nat):(kJ s a b).length=1+a+b:=by unfold kJ;rw[auH,auH,jC,jC,jC]
theorem pI (a b:Nat):∀l:List Slt,(pM l a b).length=l.length*(1+a+b)
|[]=>by simp[pM]
|s::l=>by
  show (kJ s a b++pM l a b).length=_;rw[auH,En,pI a b l,auX,awS];omega
theorem Fm (l:List Slt):wa l<=4:=amL _
theorem Fc (l:List Slt):wb l<=4:=amL _
theorem aaJ (l:List Slt):(pm l).ok:=by
 have a:=Fm l;have b:=Fc l;refine⟨.inr (.inr (by show (10:Int)<=12∧(12:Int)<=15;decide)),by show (1:Int)<=1;decide,?_,by show (1:Int)<=8192;decide,?_⟩
 ·show (1:Int)<=1+(wa l:Nat)+(wb l:Nat);omega
 ·show (1:Int)*(1+(wa l:Nat)+(wb l:Nat))<=8192;omega
theorem alV (l:List Slt):pm l≠Ff.xF:=λh=>by
 have:=congrArg Pm.p h;exact absurd this (by show ¬(12:Int)=1;decide)
theorem pm_I (l:List Slt):Ff.pmI (pm l):=by
 have a:=Fm l;have b:=Fc l;refine⟨by show (-2147483647:Int)<=12∧(12:Int)<=2147483647;decide,by show (-2147483647:Int)<=1∧(1:Int)<=2147483647;decide,?_⟩;refine⟨?_,?_⟩
 ·show -2147483647<=(1:Int)+(wa l:Nat)+(wb l:Nat);omega
 ·show (1:Int)+(wa l:Nat)+(wb l:Nat)<=2147483647;omega
theorem YD (l:List Slt):((pm l).c*(pm l).n).toNat=1+wa l+wb l:=by
 show ((1:Int)*(1+(wa l:Nat)+(wb l:Nat))).toNat=_;omega
theorem Gb {l:List Slt}(a:l.length<=8192):ei (pm l) (rows l)=0:=by
 have c:=Fm l;have d:=Fc l;have b:(rows l).length=l.length*(1+wa l+wb l):=pI _ _ l;have hle:l.length*(1+wa l+wb l)<=8192*9:=axG a om;unfold ei;rw[YD,b,auB (λh=>h (aaJ l)),auB om,auB (by show ¬(12:Int)=1;decide),auB (by rw[Nat.mul_mod_left];simp),auB];rintro⟨_,h⟩;rw[Nat.mul_div_cancel _ om] at h;omega
theorem EH {l:List Slt}(a:l.length<=8192):(dm (pm l) (rows l)).length<=90000:=by
 have c:=Fm l;have d:=Fc l;have b:(rows l).length=l.length*(1+wa l+wb l):=pI _ _ l;unfold dm;rw[auB (by show ¬(12:Int)=1;decide),YD,qu om (by unfold Pm.head;split<;>simp) l.length _ (rows l) [] b om];have e:(pm l).head<=1:=by unfold Pm.head;split<;>omega
 calc l.length*(1+wa l+wb l+(pm l).head)<=8192*10:=axG a om
  _<=90000:=dc
theorem IZ (o:Ob):(iC o).wt<=o.wt*3+100:=by
 have p:(ofL []).wt=6:=rfl;unfold iC;split
 ·omega
 have d:∀k:List UInt8,((Vl.get o k).getD Vl.ob0).wt<=o.wt:=λk=>Vl.aeJ;have f:∀ks:List (List UInt8),(∀k∈ks,k.length<=10)->(ofL (has o ks)).wt<=6+(o.wt+11)*ks.length:=by
  intro ks
  induction ks with
 |nil=>intro _;show (6:Nat)<=_;omega
 |cons k ks b=>
   intro c;have b:=b λq g=>c q (auZ _ g);have r:=c k (avQ ..);have a:=d k;rw[auX,Nat.mul_add];cases h:Vl.get o k with
  |none=>
    have e:has o (k::ks)=has o ks:=by unfold has;rw[aBv,h];rfl
    rw[e];omega
  |some v=>
    rw[h] at a;have e:has o (k::ks)=(k,v)::has o ks:=by unfold has;rw[aBv,h];rfl
    have e1:=Vl.kN (ofL ((k,v)::has o ks));have e2:=Vl.kN (ofL (has o ks));have e3:(ofL ((k,v)::has o ks)).keys=k::(ofL (has o ks)).keys:=rfl;have i:(ofL ((k,v)::has o ks)).kids=v::(ofL (has o ks)).kids:=rfl;have j:(ofL ((k,v)::has o ks)).s=[]:=rfl;have l:(ofL (has o ks)).s=[]:=rfl;have m:Pl.tot (k::(ofL (has o ks)).keys)=k.length+1+Pl.tot (ofL (has o ks)).keys:=by simp[Pl.tot]
    have n:Ob.wts (v::(ofL (has o ks)).kids)=v.wt+Ob.wts (ofL (has o ks)).kids:=rfl;rw[e];rw[e3,i,j,m,n] at e1;rw[l] at e2;have a:v.wt<=o.wt:=a;omega
 have:=f bj dc;rw[show bj.length=3 from rfl] at this;omega
theorem abU {k:List UInt8}{v:Ob}(h:(Vl.set o k v).2=0):(Vl.set o k v).1.k=o.k:=by
 unfold Vl.set at h ⊢;split
 ·rename_i b;rw[auC b] at h;cases h
 rename_i b
 rw[auB b] at h;split
 ·rename_i a;rw[auC a] at h;exact absurd h a
 rename_i a
 rw[auB a] at h;split
 ·rfl
 rename_i d
 rw[auB d] at h;unfold Vl.right at h ⊢;split
 ·rename_i c;rw[auC c] at h;exact absurd h c
 ·rfl
theorem KD:∀{l:List (List UInt8×Ob)} {o:Ob},(gJ o l).2=0->(gJ o l).1.k=o.k
|[],o,_=>rfl
|p::r,o,h=>by
  unfold gJ at h ⊢;by_cases a:(Vl.set o p.1 p.2).2≠0
  ·rw[auC a] at h;exact absurd h a
  rw[auB a] at h ⊢;rw[KD h,abU (awX.1 a)]
theorem O9 {x:Sec}(h:(lI x).2=0):(lI x).1.k=7:=by
 unfold lI at h ⊢;rw[KD h];unfold iC;split<;>rfl
end Cs
end
section
open Go
namespace Vl
theorem D5 (o:Ob)(key:List UInt8):(∀k∈(aR o key).keys,k∈o.keys)∧(aR o key).kids.length<=o.kids.length:=⟨λk h=>(CB key o.keys o.kids).subset h,(CF key o.keys o.kids).length_le⟩
theorem agJ (h:key ∉ o.keys):get o key=none:=by
 unfold get;split
 ·rw[auB (λa=>h (aBl.1 a))]
 ·rfl
theorem A2 {v:Ob}(p:check 1 o=0)(q:keyed o=aw)(r:name key=aw)(hL:o.k=9->key≠rQ)(s:v.k≠0)(d:check 2 v=0)(D:o.kids.length<=8190):check 1 (put o key v)=0:=by
 obtain⟨⟨t,a2,a3,a4,a5,E,f⟩,a⟩:=gG.1 p;have b:o.k=7∨o.k=9:=by simpa[keyed] using q
 have u:rising o=true:=by
  unfold form at f;simp only[auY,axS,azJ,awY] at f;rcases f.2 with h|h
  ·exact absurd b h
  ·exact h
 obtain⟨w,x,y,z⟩:=kU.1 u;obtain⟨A,B⟩:=NC (key:=key) (v:=v) x w;obtain⟨C,m,F⟩:=Ps.Yk (o:=o) (v:=v) (key:=key);have n:(put o key v).k=o.k:=rfl;refine gG.2 ⟨⟨t,?_,a3,a4,a5,om,?_⟩,λc g=>?_⟩
 ·unfold gL at a2 ⊢;rw[n];rcases b with e|e
  ·rw[e] at a2 ⊢;simp[used] at a2 ⊢;exact a2
  ·rw[e] at a2 ⊢;simp[used] at a2 ⊢;exact a2
 ·have i:rising (put o key v)=true:=kU.2 ⟨B,A,λk j=>by
   rcases C k j with rfl|e
   ·exact⟨r,λh=>hL h⟩
   ·exact y k e,λc l=>by
   rcases m c l with rfl|e
   ·exact s
   ·exact z c e⟩
  unfold form;rw[n,i];rcases b with e|e<;>rw[e]<;>rfl
 ·rcases m c g with rfl|e
  ·exact d
  ·exact a c e
end Vl
end
section
open Go Eng
namespace Ff
theorem agC {n:List UInt8}:Vl.name (full n)=true:=by
 rcases G3 n with e|e|e|e|e<;>rw[e]<;>decide
theorem nG (n:List UInt8)(d:Nat)(b:d<=24):Vl.check d (bP (full n))=0:=by
 have a:=agC (n:=n);refine Vl.gG.2 ⟨⟨b,rfl,(λe=>absurd e (show ¬((5:Int)=9) by decide)),rfl,?_,(show (0:Nat)<=8191 by decide),?_⟩,(λc f=>by cases f)⟩
 ·unfold Vl.name at a;simp only[auY,avK] at a;exact a.1
 ·show ((!(ai ((5:Int)=5))||Vl.name (full n))&&_)=aw;rw[a];rfl
end Ff
namespace Ff
theorem NP {D:List UInt8}(h:(plain o D).2=0)(d:D.length<=1048576):(plain o D).1.k=9∧(plain o D).1.s=D∧Vl.check 1 (plain o D).1=0∧aQ ∉ (plain o D).1.keys∧bS ∉ (plain o D).1.keys∧(plain o D).1.kids.length<=o.kids.length:=by
 unfold plain at h ⊢;by_cases b:o.k≠9∧o.k≠7
 ·rw[auC b] at h;cases h
 rw[auB b] at h ⊢;by_cases a:Vl.check 1 (kP o)≠0
 ·rw[auC a] at h;exact absurd h a
 rw[auB a];have a:=awX.1 a;have e:Vl.keyed (kP o)=true:=rfl;have f:=Vl.jE (key:=aQ) a e;have g:=Vl.jE (key:=bS) f rfl;have s1:=Vl.D5 (kP o) aQ;have s2:=Vl.D5 (Vl.aR (kP o) aQ) bS;have c:=Vl.D5 (Vl.aR (Vl.aR (kP o) aQ) bS) Vl.rQ;have i:aQ ∉ (Vl.aR (kP o) aQ).keys:=Vl.Bv aQ _ _;have j:bS ∉ (Vl.aR (Vl.aR (kP o) aQ) bS).keys:=Vl.Bv bS _ _;have l:(kP o).kids.length=o.kids.length:=rfl;refine⟨rfl,rfl,Bd.MD g rfl d,λhm=>i (s2.1 _ (c.1 _ hm)),λhm=>j (c.1 _ hm),?_⟩;show (Vl.aR (Vl.aR (Vl.aR (kP o) aQ) bS) Vl.rQ).kids.length<=_;omega
theorem Sj (o:Ob)(D:List UInt8):(plain o D).1.wt<=o.wt+D.length:=by
 have c:=Vl.kN o;unfold plain;split
 ·show (6:Nat)<=_;omega
 split
 ·show (6:Nat)<=_;omega
 ·have d:=Uj o;have f:=Vl.kX (kP o) aQ;have a:=Vl.kX (Vl.aR (kP o) aQ) bS;have g:=Vl.kX (bare o) Vl.rQ;have e1:=Vl.kN (Bd.I5 (bare o) D);have e2:=Vl.kN (Vl.aR (bare o) Vl.rQ);have e:bare o=Vl.aR (Vl.aR (kP o) aQ) bS:=rfl;rw[<-e] at a;have b:(Bd.I5 (bare o) D).s=D:=rfl;have a2:(Bd.I5 (bare o) D).keys=(Vl.aR (bare o) Vl.rQ).keys:=rfl;have a3:(Bd.I5 (bare o) D).kids=(Vl.aR (bare o) Vl.rQ).kids:=rfl;rw[b,a2,a3] at e1;show (Bd.I5 (bare o) D).wt<=_;omega
end Ff
end
section
open Eng Go.RowKit
namespace Ff
def zF (o:Ob)(p:Pm)(D:List UInt8):Ob×Int:=
 if (plain o D).2≠0 then plain o D
 else if (Vl.set (plain o D).1 aQ (bP nFl)).2≠0 then (Vl.ob0,(Vl.set (plain o D).1 aQ (bP nFl)).2)
 else if (Vl.set (Vl.set (plain o D).1 aQ (bP nFl)).1 bS (cP p)).2≠0 then (Vl.ob0,(Vl.set (Vl.set (plain o D).1 aQ (bP nFl)).1 bS (cP p)).2)
 else ((Vl.set (Vl.set (plain o D).1 aQ (bP nFl)).1 bS (cP p)).1,0)
end Ff
theorem YX (o:Ob)(v:aq)(n:List UInt8)(p:Pm)(vn vp:aq)(data:List UInt8)(M:Mem)(w:ao)(c5:Pws M)(hk:o.k=9∨o.k=7)(hf:Ff.full n=Ff.nFl)(hp:p≠Ff.xF)(c6:Ff.pmI p)(b5:ei p data=0)(c7:data.length<=1000000)
  (hw:o.wt<=100000000) (hx:∀D,Ff.MT Ff.nFl p data D 0->D.length<=1000000∧(Ff.plain o D).1.wt<=1000000000) (hM:M.has w) (hv:OV M.A M.w v o) (hn:SlA M.A M.w vn 1 [n].length (bI [n])) (c8:SlA M.A M.w vp 3 1 (pmC p)) :
  jR ah 44 #[v,vn,vp,ae data] M w (λr N=>∃D v',Ff.MT Ff.nFl p data D 0∧r=A4 v' (Ff.zF o p D).2∧OV N.A N.w v' (Ff.zF o p D).1):=by
 obtain⟨vk,vc,e7,rfl,b6⟩:=hv.open;refine bB hM λK hK=>Ga ?_;unfold Co nz;refine eQ o b6.keys.one b6.kids.one (bT.memS hM) λd w1 a=>?_;refine dJ a λf w2 a=>?_;rw[eG,vE a 1 rfl];simp only[rs];have main:∀W,bT M.A w W [obE f ob0 cI cI,obE d o vk vc,.mem M]->cR ah 85 #[vn,vp] W (pk K) λt31 w=>
 DoX ah (Ag t31 0) w (pk K) λt32 w=>
 DoX ah (Ag t31 1) w (pk K) λt33 w=>
 DoX ah (Ag t31 2) w (pk K) λt34 w=>
 DoX ah (mEq .neq 35 (.tmp 35) (.const (ad 0)) t34 (ad 0)) w (pk K) λt36 w=>
 IfX t36 (DoX ah (aV 25 #[]) w (pk K) λt37 w=>
 DoX ah (aN 25 (af f 0) t37) w (pk K) λ_ w=>
 Bw ah [.cell (af f 0) 25,.val t34] w K) (DoX ah (mB .len #[22] 3 #[au] #[t32]) w (pk K) λt40 w=>
 DoX ah (iQ .sub 3 t40 (ad 1)) w (pk K) λt41 w=>
 Es [ae data,(ad 0),t41] w (λa6 w N1=>∀_:Sg,jI t32 t33 (a6.getD 0 undef) (af d 0) (af f 0) (a6.getD 1 undef) (a6.getD 2 undef) w N1 K)):=by
  intro w2 a;refine bH a 2 rfl (VJ n p vn vp M w2 hf (a.hasM 2 rfl) hn c8) ?_;rintro _ N w3 l1 ⟨va,vb,rfl,g,O⟩ a;have a:bT M.A w w3 [obE f ob0 cI cI,obE d o vk vc,.mem N]:=a;simp only[ex,vY (show [va,vb,Value.int .i64 0][2]?=ay (Value.int .i64 0) from rfl),vY (show [va,vb,Value.int .i64 0][1]?=ay vb from rfl),vY (show [va,vb,Value.int .i64 0][0]?=ay va from rfl),eC,show ai ((0:Int)≠0)=au from rfl,i_f];rw[pJ g]
  try simp only[rs]
  rw[show IntKind.i64.wrap ((([Ff.nFl].length:Nat):Int) - 1)=0 from rfl];refine loop (λvs W=>(vs=[ae data,ad 0,ad 0]∧bT M.A w W [obE f ob0 cI cI,obE d o vk vc,.mem N])∨∃(D:List UInt8) (Q:Mem),vs=[ae D,ad 0,ad (-1)]∧Ff.MT Ff.nFl p data D 0∧N.le Q∧bT M.A w W [obE f ob0 cI cI,obE d o vk vc,.mem Q]) (λvs _=>(RowKit.intOf (vs.getD 2 undef)+1).toNat) (.inl ⟨rfl,a⟩) ?_;clear a;rintro vs w4 (⟨rfl,a⟩|⟨D,N',rfl,hD,l0,a⟩) _
  ·simp only[jI,gd,rs,show ai ((0:Int)<=0)=aw from rfl,i_t,iN,dx,ldx,bnx,exx,stx,lnx,ecx,gfx,efx,cx];obtain⟨q,l,a7⟩:=NO (i:=0) g dc;obtain⟨q2,c,F⟩:=pmAt (i:=0) O (by show 0 < 1;decide);have a:=a.drew;refine⟨λW=>N.has W,a.hasM 2 rfl,?_⟩;refine aP _ l (fS _ (λW h=>a7 W h) ?_);refine aP _ c (fS _ (λW h=>F W h) ?_);refine bH a 2 rfl (afV Ff.nFl p (peR p) (apJ dc) data N _ (c5.le l1) (a.hasM 2 rfl) c7) ?_;rintro _ N3 w5 l3 ⟨t,e,rfl,hR⟩ a;have he:e=0:=by
    unfold Ff.MT at hR;rw[auB dc,auC dc,auC b5] at hR;exact hR.1
   subst he;refine⟨Mem.JJ l3 (a.hasM 2 rfl),?_⟩;simp only[zlT];refine aP (ae t) (λ_=>by kernel_rfl) (aP (ad 0) (λ_=>by kernel_rfl) ?_);simp only[eC,show ai ((0:Int)≠0)=au from rfl,i_f]
   try simp only[rs]
   exact bC (.inr ⟨t,N3,rfl,hR,l3,a⟩) (by show (0:Nat) < 1;decide)
  simp only[jI,gd,rs,show ai ((0:Int)<=-1)=au from rfl,i_f,iN,dx,ldx,bnx,exx,stx,lnx,ecx,gfx,efx,cx]
  replace l1:=l1.trans l0
  replace g:=g.le l0
  replace O:=O.le l0
  clear l0;obtain⟨e8,hx⟩:=hx D hD;generalize b:Ff.zF o p D=X;have hK:∀(v:aq) (w':ao) (N:Mem) (L:List Ent) (i:Nat),bT M.A w w' L->L[i]?=ay (.mem N)->M.le N->(∃v',v=A4 v' X.2∧OV N.A N.w v' X.1)->K (.returned v) w':=λv w' N L i h1 h2 h3 ⟨v',h4,h5⟩=>hK v w' N L i h1 h2 h3 ⟨D,v',hD,by rw[b];exact h4,by rw[b];exact h5⟩;unfold Ff.zF at b;rw[jL a 1 rfl];refine bH a 2 rfl (UC o _ D N' w4 om om (a.hasM 2 rfl) (hv.le l1)) ?_;generalize Ff.plain o D=P at b hx;obtain⟨x,pe⟩:=P;rintro _ Q w5 l2 ⟨xv,rfl,b7⟩ a;obtain⟨C,E,e9,rfl,m⟩:=b7.open;dsimp only at b hx m;simp only[A4,ex];refine aT 1 m.keys.one m.kids.one a rfl λw6 a=>?_;have a:bT M.A w w6 [obE f ob0 cI cI,obE d x C E,.mem Q]:=a;simp only[eC,rs];by_cases R:pe=0
  case neg=>
   rw[auC R] at b;simp only[auG (show pe≠0 from R),rs,oG,i_t];rw[jL a 1 rfl];refine aT 0 m.keys.one m.kids.one a rfl λY a=>?_;exact dL 0 a rfl (hK _ _ Q _ 2 a rfl (l1.trans l2) ⟨_,by rw[<-b];rfl,by rw[<-b];exact m.ov⟩)
  rw[auB (λh=>h R)] at b;subst R;simp only[show ai ((0:Int)≠0)=au from rfl,rs];rw[pJ g];simp only[rs,show ai ((([Ff.nFl].length:Nat):Int)=0)=au from rfl,i_f];rw[pJ g];have b9:=g.le l2;have c0:=O.le l2;have a:=(bT.nilU a 25 6);have a:=(bT.nilU a 25 6);have a:bT M.A w w6 [.urow 25 6 cI 0 [],.urow 25 6 cI 0 [],obE f ob0 cI cI,obE d x C E,.mem Q]:=a;refine loop (λvs W=>(vs=[ad 0,cI,cI,.bool au,ad 0]∧bT M.A w W [.urow 25 6 cI 0 [],.urow 25 6 cI 0 [],obE f ob0 cI cI,obE d x C E,.mem Q])∨∃(fv pv G H:aq) (N3:Mem),vs=[ad 0,fv,pv,.bool aw,ad 1]∧Q.le N3∧OV N3.A N3.w (obV (Ff.cP p) G H) (Ff.cP p)∧bT M.A w W [.urow 25 6 fv 1 (obC (Ff.bP Ff.nFl) cI cI),.urow 25 6 pv 1 (obC (Ff.cP p) G H),obE f ob0 cI cI,obE d x C E,.mem N3]) (λvs _=>1 - (RowKit.intOf (vs.getD 4 undef)).toNat) (.inl ⟨rfl,a⟩) ?_;clear a;rintro vs Y (⟨rfl,a⟩|⟨fv,pv,G,H,N3,rfl,l3,ht,a⟩) _
  ·simp only[nK,gd,rs,show ai ((0:Int) < (([Ff.nFl].length:Nat):Int))=aw from rfl,i_t,iN,dx,ldx,bnx,iax,exx,stx,alx,ecx,apx,gfx,cx];obtain⟨q,l,a7⟩:=NO (i:=0) b9 dc;obtain⟨q2,c,F⟩:=pmAt (i:=0) c0 (by show 0 < 1;decide);have l:=l Y;have c:=c Y;rw[show ((0:Nat):Int)=0 from rfl] at l c;rw[aD l,aD (a7 Y (a.hasM 4 rfl)),aD c,aD (F Y (a.hasM 4 rfl))];refine bH a 4 rfl (Vu p hp c6 Q Y (a.hasM 4 rfl)) ?_;rintro _ N4 w8 l4 ⟨tv,rfl,ht⟩ a;obtain⟨G,H,h0,rfl,s⟩:=ht.open;simp only[A4,ex];refine dJ a λa8 w9 a=>?_;refine aT 0 s.keys.one s.kids.one a rfl λb0 a=>?_;simp only[eC,show ai ((0:Int)≠0)=au from rfl,i_f];refine aK a (jV Ff.nFl b0) ?_;rintro _ S rfl a;have a:bT M.A w S [obE a8 (Ff.cP p) G H,.urow 25 6 cI 0 [],.urow 25 6 cI 0 [],obE f ob0 cI cI,obE d x C E,.mem N4]:=a;refine Bm (Ff.bP Ff.nFl) (vk:=cI) (vc:=cI) rfl rfl a λnb c9 a=>?_;refine G5 2 a rfl (a.sl 0 rfl 6 1 1 rfl) (iF _ rfl rfl) om λfv b1 a=>?_;have a:=a.tail;have a:bT M.A w b1 [obE a8 (Ff.cP p) G H,.urow 25 6 fv 1 (obC (Ff.bP Ff.nFl) cI cI),.urow 25 6 cI 0 [],obE f ob0 cI cI,obE d x C E,.mem N4]:=a;rw[jL a 0 rfl];refine Bm (Ff.cP p) s.keys.one s.kids.one a λnb c1 a=>?_;refine G5 3 a rfl (a.sl 0 rfl 6 1 1 rfl) (iF _ s.keys.one s.kids.one) om λpv e0 a=>?_;have a:=a.tail;have a:bT M.A w e0 [obE a8 (Ff.cP p) G H,.urow 25 6 fv 1 (obC (Ff.bP Ff.nFl) cI cI),.urow 25 6 pv 1 (obC (Ff.cP p) G H),obE f ob0 cI cI,obE d x C E,.mem N4]:=a
   try simp only[rs]
   rw[eG,vE a 0 rfl];simp only[rs,show ai ((Ff.cP p).k≠0)=aw from rfl];exact bC (.inr ⟨fv,pv,G,H,N4,rfl,l4,ht,a.tail⟩) (by show (0:Nat) < 1;decide)
  simp only[nK,gd,rs,show ai ((1:Int) < (([Ff.nFl].length:Nat):Int))=au from rfl,i_f,iN,dx,ldx,bnx,iax,exx,stx,alx,ecx,apx,gfx,cx];obtain⟨N4,l4,e1,a⟩:=a.bG 3 rfl;have a:bT M.A w Y [.urow 25 6 pv 1 (obC (Ff.cP p) G H),obE f ob0 cI cI,obE d x C E,.mem N4]:=a;obtain⟨N5,l5,e2,a⟩:=a.bG 2 rfl;have a:bT M.A w Y [obE f ob0 cI cI,obE d x C E,.mem N5]:=a;have e3:Ou N5 fv [Ff.bP Ff.nFl] (obC (Ff.bP Ff.nFl) cI cI):=⟨e1.le l5,kI (fI N5 5 0 0 Ff.nFl)⟩;have c2:Ou N5 pv [Ff.cP p] (obC (Ff.cP p) G H):=⟨e2,kI ((ht.le l4).le l5)⟩;have c3:=(((l1.trans l2).trans l3).trans l4).trans l5;have c4:=(((b7.le l3).le l4).le l5);have e5:(Ff.bP Ff.nFl).wt<=1000:=dc
  have e6:(Ff.cP p).wt<=1000:=Nat.le_of_ble_eq_true krx;have a:=a.drew;refine⟨λW=>(obE d x C E).is W,a.at_ 1 rfl,?_⟩;refine fS (obV x C E) (λW h=>aY (AtV.agg fR (cs:=obC x C E) rfl λj u hj=>by rw[auP];exact aI (T:=25) h hj)) ?_;refine bH a 2 rfl (L9 [Ff.bP Ff.nFl] fv _ N5 _ (by show (_:Nat)<=_;decide) (a.hasM 2 rfl) e3) λy N6 w8 l6 hy a=>?_;refine⟨a.at_ 1 rfl,?_⟩;have hy:OV N6.A N6.w y (Ff.bP Ff.nFl):=hy;refine bH a 2 rfl (NJ x (Ff.bP Ff.nFl) _ y Ff.aQ N6 w8 om om dc (a.hasM 2 rfl) (c4.le l6) hy) ?_;have U:(Vl.set x Ff.aQ (Ff.bP Ff.nFl)).2=0->(Vl.set x Ff.aQ (Ff.bP Ff.nFl)).1.wt<=2000000000:=λ_=>by
   have:=Vl.JC x Ff.aQ (Ff.bP Ff.nFl);have hk:Ff.aQ.length=6:=rfl;omega
  generalize Vl.set x Ff.aQ (Ff.bP Ff.nFl)=Rr at b U;obtain⟨z,ze⟩:=Rr;dsimp only at b U;rintro _ N7 w9 l7 ⟨zv,rfl,hz⟩ a;obtain⟨zk,zc,h6,rfl,b2⟩:=hz.open;dsimp only at b2 hz;unfold A4;refine aP (obV z zk zc) (λ_=>by kernel_rfl) (aP (ad ze) (λ_=>by kernel_rfl) ?_);refine aT 1 b2.keys.one b2.kids.one a rfl λb0 a=>?_;have a:bT M.A w b0 [obE f ob0 cI cI,obE d z zk zc,.mem N7]:=a;have Z:=(c3.trans l6).trans l7;simp only[eC];by_cases I:ze=0
  case neg=>
   rw[auC I] at b;simp only[auG (show ze≠0 from I),i_t];rw[EU];refine aT 0 rfl rfl a rfl λS a=>?_;exact dL 0 a rfl (hK _ _ N7 _ 2 a rfl Z ⟨_,by rw[<-b];rfl,by rw[<-b];exact nW N7⟩)
  rw[auB (λh=>h I)] at b;have U:=U I;simp only[auD (show ¬ze≠0 fromλh=>h I),i_f];refine join λJ hJ=>?_
  try simp only[i_t]
  have a:=a.drew;refine⟨λW=>(obE d z zk zc).is W,a.at_ 1 rfl,?_⟩;refine fS (obV z zk zc) (λW h=>aY (AtV.agg fR (cs:=obC z zk zc) rfl λj u hj=>by rw[auP];exact aI (T:=25) h hj)) ?_;refine bH a 2 rfl (L9 [Ff.cP p] pv _ N7 _ (by show (_:Nat)+0<=_;omega) (a.hasM 2 rfl) ⟨(c2.sl.le l6).le l7,(c2.all.le l6).le l7⟩) λy2 N8 S l8 b3 a=>?_;refine⟨a.at_ 1 rfl,?_⟩;have b3:OV N8.A N8.w y2 (Ff.cP p):=b3;refine bH a 2 rfl (NJ z (Ff.cP p) _ y2 Ff.bS N8 S om om dc (a.hasM 2 rfl) (hz.le l8) b3) ?_;generalize Vl.set z Ff.bS (Ff.cP p)=Rr at b;obtain⟨y,ye⟩:=Rr;dsimp only at b;rintro _ N9 c9 l9 ⟨yv,rfl,e4⟩ a;obtain⟨yk,yc,h7,rfl,B⟩:=e4.open;dsimp only at B;unfold A4;refine aP (obV y yk yc) (λ_=>by kernel_rfl) (aP (ad ye) (λ_=>by kernel_rfl) ?_);refine aT 1 B.keys.one B.kids.one a rfl λb1 a=>?_;have a:bT M.A w b1 [obE f ob0 cI cI,obE d y yk yc,.mem N9]:=a;have a1:=(Z.trans l8).trans l9;simp only[eC];by_cases V:ye=0
  case neg=>
   rw[auC V] at b;simp only[auG (show ye≠0 from V),i_t];rw[EU];refine aT 0 rfl rfl a rfl λc1 a=>?_;exact dL 0 a rfl (hK _ _ N9 _ 2 a rfl a1 ⟨_,by rw[<-b];rfl,by rw[<-b];exact nW N9⟩)
  rw[auB (λh=>h V)] at b;simp only[auD (show ¬ye≠0 fromλh=>h V),i_f];refine hJ _ _ λ_=>?_;unfold wG nz;rw[jL a 1 rfl];refine aT 0 B.keys.one B.kids.one a rfl λc1 a=>?_;exact dL 0 a rfl (hK _ _ N9 _ 2 a rfl a1 ⟨_,by rw[<-b];rfl,by rw[<-b];exact B.ov⟩)
 by_cases k9:o.k=9
 ·simp only[auD (show ¬o.k≠9 fromλh=>h k9),rs,oG,i_f];exact main w2 a
 have k7:o.k=7:=by rcases hk with h|h;exact absurd h k9;exact h
 simp only[auG (show o.k≠9 from k9),rs];rw[eG,vE a 1 rfl];simp only[rs,auD (show ¬o.k≠7 fromλh=>h k7),i_f];exact main w2 a
theorem aav (l:List (Int×Int))(r:Int×Int):Cs.size (l++[r])=r.1+r.2:=by unfold Cs.size;rw[aA4];rfl
theorem G7 {l:List (Int×Int)}(a:j < l.length):l.take (j+1)=l.take j++[l[j]]:=avL a
theorem xx (l:List (Int×Int))(r:Int×Int):Cs.flat (l++[r])=Cs.flat l++[r.1,r.2]:=by unfold Cs.flat;rw[axQ,ayP]
theorem Cs.nU:∀l:List (Int×Int),(Cs.flat l).length=2*l.length
|[]=>rfl
|r::l=>by
  have:=Cs.nU l;show ((Cs.flat l).length+1)+1=_;rw[auX];omega
theorem nq:∀l:List Int,Ob.wts (l.map Cs.kM)<=6*l.length
|[]=>auL _
|n::l=>by
  have a:=nq l;have h:(Cs.kM n).wt=6:=rfl;show (Cs.kM n).wt+Ob.wts (l.map Cs.kM)<=_;rw[auX];omega
theorem pn (l:List Int):(Cs.D4 l).wt<=6*l.length+6:=by
 have h:=nq l;have e:(Cs.D4 l).wt=6+0+0+Ob.wts (l.map Cs.kM):=Vl.kN (Cs.D4 l);omega
theorem anS {S0:Nat->Prop}{Y:ao}{F s b2 b3:Nat}{c3:List aq}{x:Sec}{vs vk vc:aq}{ds:List aq}{ps:List (List UInt8×Ob)}{ok I:aq}{K:Ending->ao->Prop}{X:Ob×Int}
  (c:Cs.gJ o ps=X) (J:∀p∈ps,p.1.length<=10∧p.2.wt<=100000) (a6:ps.length<=5) (a:bT M.A w Y [obE s o ok I,obE F ob0 cI cI,.mem N]) (hle:M.le N) (b:OV N.A N.w (obV o ok I) o) (t:o.wt<=1000000000)
  (n:SlA N.A N.w pv 6 (Cs.row ps).length ds) (g:OVs N.A N.w ds (Cs.row ps))
  (Z:∀(v:aq) (w':ao) (N:Mem) (L:List Ent) (i:Nat),bT M.A w w' L->L[i]?=ay (.mem N)->M.le N->(∃v',v=A4 v' X.2∧OV N.A N.w v' X.1)->K (.returned v) w') :
  nT (af F 0) (ad 0) (af s 0) pv Y K:=by
 unfold nT nz;have a7:=Cs.RX ps;refine loop (λvs W=>∃(i:Nat) (o':Ob) (d e:aq) (k:Mem),vs=[ad 0,ad ((2*i:Nat):Int)]∧i<=ps.length∧Cs.gJ o' (ps.drop i)=X∧o'.wt<=1000000000+200000*i∧N.le k∧OV k.A k.w (obV o' d e) o'∧bT M.A w W [obE s o' d e,obE F ob0 cI cI,.mem k]) (λvs _=>2*ps.length - n1 vs) ⟨0,o,ok,I,N,rfl,om,c,om,N.le_refl,b,a⟩ ?_;clear a c b t;rintro vs w2 ⟨i,o',d,e,k,rfl,hi,c,t,l,b,a⟩ _;simp only[DN,gd,iN,dx,ldx,bnx,stx,lnx,ecx];rw[aZ auU ((n.le l).now (a.hasM 2 rfl))];simp only[rs];by_cases q:i < ps.length
 ·simp only[show ai (((2*i:Nat):Int) < ((Cs.row ps).length:Int))=aw from auG om,i_t];have h1:2*i < (Cs.row ps).length:=om
  have h2:2*i+1 < (Cs.row ps).length:=om
  obtain⟨e1,e2⟩:=Cs.WM q h2;obtain⟨p1,q1,a8,b0,y,a1,O⟩:=Ri (n.le l) (g.le l) h1;obtain⟨p2,q2,B,C,D,m,P⟩:=Ri (n.le l) (g.le l) h2;obtain⟨b1,b5⟩:=J ps[i] (auS q);have a:=a.drew;refine⟨λW=>(obE s o' d e).is W∧k.has W,⟨a.at_ 0 rfl,a.hasM 2 rfl⟩,?_⟩;refine fS (obV o' d e) (λW h=>aY (AtV.agg fR (cs:=obC o' d e) rfl λj u hj=>by rw[auP];exact aI (T:=25) h.1 hj)) ?_;refine aP _ y ?_;refine aP (af p1 (q1+3)) (λ_=>bE ajS) ?_;refine fS (ae (ps[i].1)) (λW h=>aB Gh (O W h.2 3 _ (by rw[e1];rfl))) ?_;refine aP (ad ((2*i+1:Nat):Int)) (λW=>by rw[Fk,aA om om];rfl) ?_;refine aP _ D ?_;refine fS (obV (Cs.row ps)[2*i+1] B C) (λW h=>aY (AtV.agg fR (cs:=obC (Cs.row ps)[2*i+1] B C) rfl (P W h.2))) ?_;rw[e2] at m ⊢;refine bH a 2 rfl (NJ o' ps[i].2 _ _ ps[i].1 k _ om om om (a.hasM 2 rfl) b m) ?_;have E:=Vl.JC o' ps[i].1 ps[i].2;have Q:ps.drop i=ps[i]::ps.drop (i+1):=avX q;rw[Q,Cs.gJ] at c;generalize Vl.set o' ps[i].1 ps[i].2=R at c E;obtain⟨z,G⟩:=R;dsimp only at c E;rintro _ H w3 l2 ⟨zv,rfl,S⟩ a;obtain⟨U,V,b7,rfl,r⟩:=S.open;dsimp only at S r;unfold A4;refine aP (obV z U V) (λ_=>by kernel_rfl) (aP (ad G) (λ_=>by kernel_rfl) ?_);refine aT 0 r.keys.one r.kids.one a rfl λw4 a=>?_;have a:bT M.A w w4 [obE s z U V,obE F ob0 cI cI,.mem H]:=a;simp only[eC];by_cases f:G=0
  case neg=>
   rw[auC f] at c;simp only[auG (show G≠0 from f),i_t];rw[EU];refine aT 1 rfl rfl a rfl λw5 a=>?_;exact dL 1 a rfl (Z _ _ H _ 2 a rfl ((hle.trans l).trans l2) ⟨_,by rw[<-c];rfl,by rw[<-c];exact nW H⟩)
  rw[auB (λh=>h f)] at c;simp only[auD (show ¬G≠0 fromλh=>h f),i_f]
  try simp only[rs]
  rw[aA om om];exact bC ⟨i+1,z,U,V,H,by rw[show ((2*i:Nat):Int)+2=((2*(i+1):Nat):Int) by omega],om,c,om,l.trans l2,S,a⟩ (by simp[n1,RowKit.intOf];omega)
 simp only[show ai (((2*i:Nat):Int) < ((Cs.row ps).length:Int))=au from auD om,i_f];have:i=ps.length:=om
 subst this;rw[List.drop_length,Cs.gJ] at c;rw[jL a 0 rfl];refine aT 1 (b.oneK) (b.oneC) a rfl λw3 a=>?_;exact dL 1 a rfl (Z _ _ k _ 2 a rfl (hle.trans l) ⟨_,by rw[<-c];rfl,by rw[<-c];exact b⟩)
theorem Cs.Ja (x:Sec)(b:(Tl.runs x.aC).length<=8192):(∀p∈Cs.bL x,p.1.length<=10∧p.2.wt<=100000)∧(Cs.bL x).length<=5:=by
 have hi:∀n:Int,(Cs.kM n).wt=6:=λ_=>rfl;have c:=pn [1,(Cs.wa x.aC:Nat),(Cs.wb x.aC:Nat)];have a:=pn (Cs.flat (Tl.runs x.aC));rw[Cs.nU] at a;have d:([1,((Cs.wa x.aC:Nat):Int),((Cs.wb x.aC:Nat):Int)]:List Int).length=3:=rfl;unfold Cs.bL;refine⟨λp hp=>?_,by
  split
  ·show (5:Nat)<=5;decide
  ·show (4:Nat)<=5;decide⟩
 rcases avF.1 hp with hp|hp
 ·simp only[auI,avP,or_false] at hp;rcases hp with rfl|rfl|rfl|rfl
  ·exact⟨dc,dc⟩
  ·exact⟨by show (4:Nat)<=10;decide,by show (6:Nat)<=_;decide⟩
  ·exact⟨by show (1:Nat)<=10;decide,by show (Cs.D4 _).wt<=_;omega⟩
  ·exact⟨by show (5:Nat)<=10;decide,by show (Cs.D4 _).wt<=_;omega⟩
 ·split at hp
  ·simp only[auI,avP,or_false] at hp;subst hp;exact⟨by show (4:Nat)<=10;decide,by show (6:Nat)<=_;decide⟩
  ·cases hp
theorem Xs (x:Sec)(vs vk vc:aq)(M:Mem)(w:ao)(hb:x.aC.length<=8192)(hf:UT x.aC)(T:∀r∈Tl.runs x.aC,0<=r.1∧r.1<=8191∧0<=r.2∧r.2<=1000000)(hw:x.trailer.wt<=100000000)(b8:(Cs.iC x.trailer).wt<=1000000000)(hM:M.has w)
  (U:SlA M.A M.w vs 4 x.aC.length (GU x.aC)) (H:OV M.A M.w (obV x.trailer vk vc) x.trailer) :
  jR ah 42 #[Jq x vs vk vc,w3V (Cs.wa x.aC:Nat) (Cs.wb x.aC:Nat)] M w (λr N=>∃v',r=A4 v' (Cs.lI x).2∧OV N.A N.w v' (Cs.lI x).1):=by
 have e3:=Tl.qW x.aC;obtain⟨b9,c0⟩:=Cs.Ja x om;refine bB hM λK hK=>JV ?_;unfold H5 nz;refine Vr x U.one H.oneK H.oneC (bT.memS hM) λb2 w1 c=>?_;refine asU c λb3 w2 c=>?_;refine dJ c λj w3 c=>?_;rw[KG,Xb c 2 rfl];refine bH c 3 rfl (P6 x.trailer _ M w3 om (c.hasM 3 rfl) H) λy N1 w4 l1 hy c=>?_;obtain⟨k,l,e4,rfl,V⟩:=hy.open;refine dJ c λm w5 c=>?_;refine aT 0 V.keys.one V.kids.one c rfl λw6 c=>?_;have c:bT M.A w w6 [obE m (Cs.iC x.trailer) k l,obE j ob0 cI cI,.cells b3 (w3C (Cs.wa x.aC:Nat) (Cs.wb x.aC:Nat)) 43,jN b2 x vs vk vc,.mem N1]:=c;rw[tX,Gg c 3 rfl];refine bH c 4 rfl (Y3 x.aC vs N1 w6 om hf (c.hasM 4 rfl) (U.le l1)) λrv E w7 l2 s c=>?_;have s:SlA E.A E.w rv 2 (Tl.runs x.aC).length (Pt (Tl.runs x.aC)):=s;rw[aZ azG (s.now (c.hasM 4 rfl))];have c:=bT.nilU c 25 6;have c:bT M.A w w7 [inR cI (Cs.flat ((Tl.runs x.aC).take 0)),obE m (Cs.iC x.trailer) k l,obE j ob0 cI cI,.cells b3 (w3C (Cs.wa x.aC:Nat) (Cs.wb x.aC:Nat)) 43,jN b2 x vs vk vc,.mem E]:=c;have q:Cs.bL x=[(Cs.kK,Ff.bP Cs.qU),(Cs.iD,Cs.kM (Cs.size (Tl.runs x.aC))),(Cs.kW,Cs.D4 [1,(Cs.wa x.aC:Nat),(Cs.wb x.aC:Nat)]),(Cs.fP,Cs.D4 (Cs.flat (Tl.runs x.aC)))]++if 0<=x.prev then [(Cs.pQ,Cs.kM x.prev)] else []:=rfl
 unfold Cs.lI at hK;generalize e5:Tl.runs x.aC=f at *;generalize ((Cs.wa x.aC:Nat):Int)=a at *;generalize ((Cs.wb x.aC:Nat):Int)=d at *;generalize Cs.iC x.trailer=tr at *;have I:∀i,0<=Cs.size (f.take i)∧Cs.size (f.take i)<=1008191:=by
  intro i;unfold Cs.size;cases h:(f.take i).getLast? with
 |none=>exact⟨azI _,dc⟩
 |some r=>
   have:=T r (awN (List.mem_of_mem_getLast? h));show 0<=r.1+r.2∧r.1+r.2<=_;omega
 refine loop (λvs' W=>∃(i:Nat) (cv:aq),vs'=[ad (Cs.size (f.take i)),cv,ad (i:Int)]∧i<=f.length∧bT M.A w W [inR cv (Cs.flat (f.take i)),obE m tr k l,obE j ob0 cI cI,.cells b3 (w3C a d) 43,jN b2 x vs vk vc,.mem E]) (λvs _=>f.length - (RowKit.intOf (vs.getD 2 undef)).toNat) ⟨0,cI,rfl,om,c⟩ ?_;clear c;rintro vs' w8 ⟨i,cv,rfl,hi,c⟩ _;simp only[DD,gd,rs,iN,ldx,bnx,iax,stx,alx];have X:=Cs.nU (f.take i);rw[auM] at X;by_cases Y:(i:Int) < (f.length:Int)
 ·simp only[auG Y,i_t];have t:i < f.length:=om
  have hr:=T f[i] (auS t);obtain⟨p,c1,c2⟩:=apN s t;rw[aD (c1 w8),aD (c2 w8 (c.hasM 5 rfl))];refine o_rn c λZ w9 c=>?_;refine aeC 0 (y:=f[i]) c rfl λz c=>?_;have c:bT M.A w z [.cells Z (rnC f[i]) 97,inR cv (Cs.flat (f.take i)),obE m tr k l,obE j ob0 cI cI,.cells b3 (w3C a d) 43,jN b2 x vs vk vc,.mem E]:=c;rw[aeZ,aJ aU (c.cell 0 rfl 0 rfl),aeB,aJ aU (c.cell 0 rfl 1 rfl),OA,aA om om];refine cY (λW=>bT M.A w W [.cells Z (rnC f[i]) 97,inR cv (Cs.flat (f.take i)),obE m tr k l,obE j ob0 cI cI,.cells b3 (w3C a d) 43,jN b2 x vs vk vc,.mem E]) c.drew ?_;refine dY _ (λ_=>YS) ?_;refine gA (ad f[i].1) (λW h=>aB aU (h.cell 0 rfl 0 rfl)) ?_;refine fY (obV (Cs.kM f[i].1) cI cI) (λW h=>(uR f[i].1 W).mono λv w' ⟨O,P⟩=>⟨O,h.grow P⟩) ?_;refine dY _ (λ_=>Kn) ?_;refine gA (ad f[i].2) (λW h=>aB aU (h.cell 0 rfl 1 rfl)) ?_;refine fY (obV (Cs.kM f[i].2) cI cI) (λW h=>(uR f[i].2 W).mono λv w' ⟨O,P⟩=>⟨O,h.grow P⟩) ?_;intro Q c;refine akT 1 c rfl om λcv' a1 c=>?_
  try simp only[rs]
  rw[aA om om];refine bC ⟨i+1,cv',?_,om,?_⟩ (by simp[RowKit.intOf];omega)
  ·rw[G7 t,aav];rfl
  ·rw[G7 t,xx];exact c.tail
 simp only[auD Y,i_f];have:i=f.length:=om
 subst this;rw[awD] at c;rw[EN (c.agg 3 rfl agg3)];have c:=bT.nilU c 25 6;have I:=I f.length;rw[awD] at I X ⊢;show Es [cI,ad 0] w8 _;refine loop (λvs' W=>∃(i:Nat) (wv:aq),vs'=[wv,ad (i:Int)]∧i<=3∧bT M.A w W [inR wv ([1,a,d].take i),inR cv (Cs.flat f),obE m tr k l,obE j ob0 cI cI,.cells b3 (w3C a d) 43,jN b2 x vs vk vc,.mem E]) (λvs _=>3 - n1 vs) ⟨0,cI,rfl,om,c⟩ ?_;clear c;rintro vs' w9 ⟨i,wv,rfl,hi,c⟩ _;simp only[Dn,gd,rs,iN,dx,ldx,bnx,fax,apx,cx];by_cases h3:(i:Int) < 3
 ·simp only[auG h3,i_t];have c4:i < 3:=om
  show DoX ah (mIx 43 (w3V a d) (ad (i:Int))) w9 (pk K) _;rw[aqL c4];refine aK c (uR _ w9) ?_;rintro _ z rfl c;refine atX 0 c rfl (by rw[auM];omega) λc5 Q c=>?_
  try simp only[rs]
  rw[aA om om];refine bC ⟨i+1,c5,rfl,om,?_⟩ (by simp[n1,RowKit.intOf];omega);have e:([1,a,d]:List Int).take (i+1)=[1,a,d].take i++[([1,a,d]:List Int).getD i 0]:=by
   rcases (by omega:i=0∨i=1∨i=2) with rfl|rfl|rfl<;>rfl
  rw[e];exact c
 simp only[auD h3,i_f];have:i=3:=om
 subst this;have c:bT M.A w w9 [inR wv [1,a,d],inR cv (Cs.flat f),obE m tr k l,obE j ob0 cI cI,.cells b3 (w3C a d) 43,jN b2 x vs vk vc,.mem E]:=c;refine aK c (jV Cs.kK w9) ?_;rintro _ z rfl c;refine aK c (jV Cs.qU z) ?_;rintro _ Q rfl c;refine aK c (jV Cs.iD Q) ?_;rintro _ a1 rfl c;refine aK c (uR (Cs.size f) a1) ?_;rintro _ c6 rfl c;refine aK c (jV Cs.kW c6) ?_;rintro _ R rfl c;obtain⟨N3,l3,c7,c⟩:=c.bG 5 rfl;have c:bT M.A w R [inR cv (Cs.flat f),obE m tr k l,obE j ob0 cI cI,.cells b3 (w3C a d) 43,jN b2 x vs vk vc,.mem N3]:=c;obtain⟨N4,l4,c8,c⟩:=c.bG 4 rfl;have c:bT M.A w R [obE m tr k l,obE j ob0 cI cI,.cells b3 (w3C a d) 43,jN b2 x vs vk vc,.mem N4]:=c;have e6:=nq [1,a,d];have e7:=nq (Cs.flat f);have e8:([1,a,d]:List Int).length=3:=rfl;refine bH c 4 rfl (Oa ([1,a,d].map Cs.kM) wv _ N4 R om (c.hasM 4 rfl) (by rw[avJ];exact c7.le l4) (Jd N4 _)) λz1 N5 c9 l5 B c=>?_;obtain⟨a6,a7,e9,rfl,F⟩:=B.open;refine aK c (jV Cs.fP c9) ?_;rintro _ e0 rfl c;refine bH c 4 rfl (Oa ((Cs.flat f).map Cs.kM) cv _ N5 e0 om (c.hasM 4 rfl) (by rw[avJ];exact c8.le l5) (Jd N5 _)) λz2 o h0 l6 a8 c=>?_;obtain⟨b0,b1,h4,rfl,G⟩:=a8.open;refine arJ (n:=Cs.size f) c (λnb e1 c=>?_) F.keys.one F.kids.one G.keys.one G.kids.one;have c:=c.toU 6 8 8 rfl om om;have B:=B.le l6;have g:=dM (dM (dM (dM (dM (dM (dM (kI (fI o 5 0 0 Cs.kK)) (kI (fI o 5 0 0 Cs.qU))) (kI (fI o 5 0 0 Cs.iD))) (kI (fI o 2 (Cs.size f) 0 []))) (kI (fI o 5 0 0 Cs.kW))) (kI B)) (kI (fI o 5 0 0 Cs.fP))) (kI a8);have c:bT M.A w e1 [.urow 25 6 (bO nb 0 8 8) 8 (obC (ob1 5 0 0 Cs.kK) cI cI++obC (ob1 5 0 0 Cs.qU) cI cI++obC (ob1 5 0 0 Cs.iD) cI cI++obC (ob1 2 (Cs.size f) 0 []) cI cI++obC (ob1 5 0 0 Cs.kW) cI cI++obC (.mk 6 0 0 [] [] ([1,a,d].map Cs.kM)) a6 a7++obC (ob1 5 0 0 Cs.fP) cI cI++obC (.mk 6 0 0 [] [] ((Cs.flat f).map Cs.kM)) b0 b1),obE m tr k l,obE j ob0 cI cI,.cells b3 (w3C a d) 43,jN b2 x vs vk vc,.mem o]:=c;generalize (obC (ob1 5 0 0 Cs.kK) cI cI++obC (ob1 5 0 0 Cs.qU) cI cI++obC (ob1 5 0 0 Cs.iD) cI cI++obC (ob1 2 (Cs.size f) 0 []) cI cI++obC (ob1 5 0 0 Cs.kW) cI cI++obC (.mk 6 0 0 [] [] ([1,a,d].map Cs.kM)) a6 a7++obC (ob1 5 0 0 Cs.fP) cI cI++obC (.mk 6 0 0 [] [] ((Cs.flat f).map Cs.kM)) b0 b1)=b5 at c g;have g:OVs o.A o.w b5 (Cs.row [(Cs.kK,Ff.bP Cs.qU),(Cs.iD,Cs.kM (Cs.size f)),(Cs.kW,Cs.D4 [1,a,d]),(Cs.fP,Cs.D4 (Cs.flat f))]):=g;have b7:=(((l1.trans l2).trans l3).trans l4).trans (l5.trans l6);have e2:OV o.A o.w (obV tr k l) tr:=((((hy.le l2).le l3).le l4).le l5).le l6;have fin:∀{W:ao} {N:Mem} {pv:aq} {ps:List (List UInt8×Ob)} {ds:List aq},ps=Cs.bL x->o.le N->bT M.A w W [obE m tr k l,obE j ob0 cI cI,.cells b3 (w3C a d) 43,jN b2 x vs vk vc,.mem N]->SlA N.A N.w pv 6 (Cs.row ps).length ds->OVs N.A N.w ds (Cs.row ps)->nT (af j 0) (ad 0) (af m 0) pv W K:=by
  intro W N pv ps ds he hl c h1 h2;subst he;have c:bT M.A w W ([obE m tr k l,obE j ob0 cI cI]++([.cells b3 (w3C a d) 43,jN b2 x vs vk vc]++[.mem N])):=c;have c:=c.front.tail.tail;exact anS (S0:=M.A) (b2:=b2) (b3:=b3) (c3:=[]) (x:=x) (vs:=vs) (vk:=vk) (vc:=vc) rfl b9 c0 c (b7.trans hl) (e2.le hl) b8 h1 h2 hK
 refine join λJ hJ=>?_;rw[Kp,aJ aU (c.cell 4 rfl 8 rfl)];simp only[rs];by_cases C:0<=x.prev
 ·simp only[auG C,i_t];refine cY (λW=>bT M.A w W [.urow 25 6 (bO nb 0 8 8) 8 b5,obE m tr k l,obE j ob0 cI cI,.cells b3 (w3C a d) 43,jN b2 x vs vk vc,.mem o]) c.drew ?_;refine fY (obV (Ff.bP Cs.pQ) cI cI) (λW h=>(jV Cs.pQ W).mono λv w' ⟨O,P⟩=>⟨O,h.grow P⟩) ?_;refine dY _ (λ_=>bE fse3) ?_;refine gA (ad x.prev) (λW h=>aB aU (h.cell 4 rfl 8 rfl)) ?_;refine fY (obV (Cs.kM x.prev) cI cI) (λW h=>(uR x.prev W).mono λv w' ⟨O,P⟩=>⟨O,h.grow P⟩) ?_;intro h5 c;refine bK (λb=>bO b 0 2 2) (obC (Ff.bP Cs.pQ) cI cI++intC x.prev) 25 (λ_=>by kernel_rfl) c λh6 h7 c=>?_;refine G5 1 c rfl (c.sl 0 rfl 6 2 2 rfl) (λu hu=>by rcases avF.1 hu with h|h<;>exact iF _ rfl rfl u h) om λpv h8 c=>?_;have c:=c.tail;obtain⟨N7,l7,S,c⟩:=bT.bG (L:=[obE m tr k l,obE j ob0 cI cI,.cells b3 (w3C a d) 43,jN b2 x vs vk vc,.mem o]) c 4 rfl;have D:=dM (g.le l7) (dM (kI (fI N7 5 0 0 Cs.pQ)) (kI (fI N7 2 x.prev 0 [])));refine hJ _ _ λ_=>?_;simp only[gd];exact fin (ps:=[(Cs.kK,Ff.bP Cs.qU),(Cs.iD,Cs.kM (Cs.size f)),(Cs.kW,Cs.D4 [1,a,d]),(Cs.fP,Cs.D4 (Cs.flat f))]++[(Cs.pQ,Cs.kM x.prev)]) (by rw[q,auC C]) l7 c S D
 ·simp only[auD C,i_f];obtain⟨N7,l7,S,c⟩:=bT.bG (L:=[obE m tr k l,obE j ob0 cI cI,.cells b3 (w3C a d) 43,jN b2 x vs vk vc,.mem o]) c 4 rfl;refine hJ _ _ λ_=>?_;simp only[gd];exact fin (ps:=[(Cs.kK,Ff.bP Cs.qU),(Cs.iD,Cs.kM (Cs.size f)),(Cs.kW,Cs.D4 [1,a,d]),(Cs.fP,Cs.D4 (Cs.flat f))]) (by rw[q,auB C];rfl) l7 c S (g.le l7)
namespace Cs
def inr (o:Ob)(most:Int):Prop:=o.k=2∧0<=o.n∧o.n<=most
instance (o:Ob) (most:Int):Decidable (inr o most):=inferInstanceAs (Decidable (_∧_))
def index:Int->List Ob->Option (List (Int×Int))
|_,[]=>ay []
|_,[_]=>ax
|up,a::b::r=>if inr a 2147483647∧inr b 2147483647∧up<=a.n∧a.n+b.n<=8192 then (index (a.n+b.n) r).map ((a.n,b.n)::·) else ax
theorem Pq:∀{l:List Ob} {up:Int},l.length % 2=1->index up l=ax
|[],_,h=>by cases h
|[_],_,_=>rfl
|a::b::r,up,h=>by
  unfold index;rw[Pq (l:=r) (by simp only[auX] at h;omega)];split<;>rfl
end Cs
def upC:PanicEntry:={ v:=.iface 100 (.agg #[]),recovered:=au }
theorem amR:nQ ah 100=true:=krx
theorem afY (w:ao):Ret ah 62 #[.bool aw] w (λv w'=>v=.tuple #[]∧w=w'):=by
 refine aX λK a=>BB ?_;unfold BK nz;simp only[rs,awA,i_f];exact a _ _ ⟨rfl,rfl⟩
theorem agH (w:ao):Pan ah 62 #[.bool au] w (λc w'=>c=[upC]∧w=w'):=by
 refine XC λK a=>BB ?_;unfold BK nz;simp only[rs,avZ,i_t];have b:∀{PK:PKT} {K:VWP},DoX ah (aV 100 #[]) w PK K=K (.agg #[]) w:=aD krx;rw[b,Nh amR,K8];exact a _ _ ⟨rfl,rfl⟩
section
variable {w:ao}{PK:PKT}{K:VWP}{S:Nat->Prop}{w0:ao}{L:List Ent}
theorem mG (a:q=aw->K (.tuple #[]) w)(b:q=au->PK [upC] w):cR ah 62 #[.bool q] w PK K:=by
 cases q with
|true=>exact BJ (afY w) (a rfl)
|false=>exact ahD (agH w) λc w' ⟨d,hw⟩=>by subst d;subst hw;exact b rfl
theorem Lf {most:Int}(a:bT S w0 w L)(e:vk.oneCell'=aw)(f:vc.oneCell'=aw)(i:0<=most∧most<=2147483647)
  (g:Cs.inr o most->∀W,bT S w0 W L->K (ad o.n) W) (d:¬Cs.inr o most->∀W,bT S w0 W L->PK [upC] W):cR ah 64 #[obV o vk vc,ad most] w PK K:=by
 refine⟨Ik ?_⟩;unfold Fe nz;refine eQ o e f a λj b a=>?_;rw[eG,vE a 0 rfl];simp only[rs];by_cases c:o.k=2
 case neg=>
  simp only[auD c,rs,oG];exact mG (λh=>by cases h) λ_=>d (λh=>c h.1) b a.tail
 simp only[auG c,rs];rw[CT,Ll a 0 rfl];simp only[rs];by_cases a2:0<=o.n
 case neg=>
  simp only[auD a2,rs,oG];exact mG (λh=>by cases h) λ_=>d (λh=>a2 h.2.1) b a.tail
 simp only[auG a2,rs];rw[CT,Ll a 0 rfl];simp only[rs];refine mG (λh=>?_) λh=>d (λk=>(avT h) k.2.2) b a.tail;rw[CT,Ll a 0 rfl];exact g ⟨c,a2,auW h⟩ b a.tail
theorem Yg (a:bT S w0 w L)(c:vk.oneCell'=aw)(d:vc.oneCell'=aw)
  (e:o.k=6->∀W,bT S w0 W L->K vc W) (f:¬o.k=6->∀W,bT S w0 W L->PK [upC] W):cR ah 65 #[obV o vk vc] w PK K:=by
 refine⟨Iq ?_⟩;unfold Gu nz;refine eQ o c d a λg b a=>?_;rw[eG,vE a 0 rfl];simp only[rs];refine mG (λh=>?_) λh=>f (avT h) b a.tail;rw[iR,cQ a 0 rfl];exact e (auW h) b a.tail
theorem afU {l:List Ob}(a:bT S w0 w (.mem M::L))(b:Ou M v l cs)(Q:l.length<=1000000000)
  (C:∀ps,Cs.index 0 l=ay ps->∀N pv W,M.le N->SlA N.A N.w pv 2 ps.length (Pt ps)->bT S w0 W (.mem N::L)->K pv W)
  (u:Cs.index 0 l=ax->∀W,bT S w0 W (.mem M::L)->PK [upC] W):cR ah 66 #[v] w PK K:=by
 refine⟨Ir ?_⟩;unfold FK nz;rw[HQ b];have hm:(l.length:Int).tmod 2=((l.length % 2:Nat):Int):=by rw[aBn om];omega
 rw[NA dc,hm];simp only[rs];refine mG (λhe=>?_) λhe=>u (Cs.Pq (by have:=avT he;omega)) w a;have he:=auW he;have a:=bT.nilU a 97 2;have a:bT S w0 w (I7 cI []::.mem M::L):=a;generalize c:Cs.index 0 l=X at C u;refine loop (λvs W=>∃(i:Nat) (ov:aq) (out:List (Int×Int)) (up:Int),vs=[ov,ad up,ad ((2*i:Nat):Int)]∧2*i<=l.length∧(Cs.index up (l.drop (2*i))).map (out++·)=X∧(0<=up∧up<=8192)∧out.length=i∧bT S w0 W (I7 ov out::.mem M::L)) (λvs _=>l.length - (RowKit.intOf (vs.getD 2 undef)).toNat) ⟨0,cI,[],0,rfl,om,by rw[<-c];cases h:Cs.index 0 l<;>simp[h],om,rfl,a⟩ ?_;clear a c;rintro vs F ⟨i,ov,out,up,rfl,hi,c,G,x,a⟩ _;simp only[Bz,gd,iN,dx,bnx,lnx,apx,gtx,etx,cx];rw[HQ b];simp only[rs];by_cases f:((2*i:Nat):Int) < (l.length:Int)
 case neg=>
  simp only[auD f,i_f];have:2*i=l.length:=om
  rw[this,List.drop_length,Cs.index] at c;obtain⟨N,hle,H,a⟩:=a.bG 0 rfl;refine C out (by rw[<-c];simp) N ov F hle ?_ a;exact H
 simp only[auG f,i_t];have D:2*i < l.length:=om
 have E:2*i+1 < l.length:=om
 obtain⟨R,T,g,j,k,d,y⟩:=Ri b.sl b.all D;obtain⟨U,V,m,o,p,e,z⟩:=Ri b.sl b.all E;have I:l.drop (2*i)=l[2*i]::l[2*i+1]::l.drop (2*(i+1)):=by
  rw[avX D,avX E,show 2*(i+1)=2*i+1+1 by omega]
 rw[I,Cs.index] at c;have bad:∀{W},¬(Cs.inr l[2*i] 2147483647∧Cs.inr l[2*i+1] 2147483647∧up<=l[2*i].n∧l[2*i].n+l[2*i+1].n<=8192)->bT S w0 W (I7 ov out::.mem M::L)->PK [upC] W:=by
  intro W h a;rw[auB h] at c;exact u (by rw[<-c];rfl) W a.tail
 have a:=a.drew;refine⟨λW=>M.has W,a.hasM 1 rfl,?_⟩;refine aP _ k ?_;refine fS (obV l[2*i] g j) (λW h=>aY (AtV.agg fR (cs:=obC l[2*i] g j) rfl (y W h))) ?_;refine aP (ad ((2*i+1:Nat):Int)) (λW=>by rw[Fk,aA om om];rfl) ?_;refine aP _ p ?_;refine fS (obV l[2*i+1] m o) (λW h=>aY (AtV.agg fR (cs:=obC l[2*i+1] m o) rfl (z W h))) ?_;refine Lf a d.oneK d.oneC dc (λq w2 a=>?_) (λq W a=>?_)
 rotate_left
 ·repeat refineλ_=>?_
  exact bad (λh=>q h.1) a
 refine⟨a.hasM 1 rfl,?_⟩;refine Lf a e.oneK e.oneC dc (λs w3 a=>?_) (λs W a=>?_)
 rotate_left
 ·repeat refineλ_=>?_
  exact bad (λh=>s h.2.1) a
 refine⟨a.hasM 1 rfl,?_⟩;have J:=q.2;have O:=s.2;simp only[rs];by_cases t:up<=l[2*i].n
 case neg=>
  simp only[auD t,rs,oG];exact mG (λh=>by cases h) λ_=>bad (λh=>t h.2.2.1) a
 simp only[auG t,rs];rw[aA om om];refine mG (λa2=>?_) λa2=>bad (λh=>(avT a2) h.2.2.2) a;have a2:=auW a2;rw[auC ⟨q,s,t,a2⟩] at c;have P:∀{PK:PKT} {K:VWP},DoX ah (aV 97 #[(0,ad l[2*i].n),(1,ad l[2*i+1].n)]) w3 PK K=K (rnV (l[2*i].n,l[2*i+1].n)) w3:=aD krx;rw[P];refine Wt 0 a rfl om λB Y a=>?_
 try simp only[rs]
 rw[aA om om];refine bC ⟨i+1,B,out++[(l[2*i].n,l[2*i+1].n)],l[2*i].n+l[2*i+1].n,by rw[show ((2*i:Nat):Int)+2=((2*(i+1):Nat):Int) by omega],om,?_,om,by rw[auH,x];rfl,a⟩ (by simp[RowKit.intOf];omega);rw[<-c];cases Cs.index (l[2*i].n+l[2*i+1].n) (l.drop (2*(i+1))) with
|none=>rfl
|some r=>simp
end
namespace Cs
def why (x:Sec):Int:=
 if Tl.check x.aC≠0 then Tl.check x.aC
 else if x.own < 1∨8191 < x.own∨x.prev < -1∨2147483647 < x.prev then 1
 else if Vl.check 1 x.trailer≠0 then Vl.check 1 x.trailer
 else if x.trailer.k≠7 then 10 else if (lI x).2≠0 then (lI x).2 else 0
def Fp (x:Sec)(i:It)(e:Int):Prop:=
 if why x≠0 then i=Dk.it0∧e=why x
 else ∃D,Ff.MT Ff.nFl (pm x.aC) (rows x.aC) D 0∧e=(Ff.zF (lI x).1 (pm x.aC) D).2∧i=if (Ff.zF (lI x).1 (pm x.aC) D).2≠0 then Dk.it0 else ⟨x.own,0,(Ff.zF (lI x).1 (pm x.aC) D).1⟩
theorem L1 (l:List Slt)(s:Slt)(a b:Nat):pM (l++[s]) a b=pM l a b++kJ s a b:=by unfold pM;rw[axQ,ayP]
end Cs
theorem La :DoX ah (mFA 34 (af b 0) 5) w PK K=K (af b 10) w:=aW fse5
theorem LS {off:Nat}(hi:i < 3):(mIA 43 (af b off) (ad (i:Int))).run ah w=.ok (.value (af b (off+i))) w:=by
 rcases (by omega:i=0∨i=1∨i=2) with rfl|rfl|rfl<;>kernel_rfl
theorem m_k3 {k b:Int}:DoX ah (aV 43 #[(0,ad k),(1,ad a),(2,ad b)]) w PK K=K (.agg #[ad k,ad a,ad b]) w:=aD krx
theorem atA {k b:Int}(hi:i < 3):DoX ah (mIx 43 (.agg #[ad k,ad a,ad b]) (ad (i:Int))) w PK K=K (ad ([k,a,b].getD i 0)) w:=by
 rcases (by omega:i=0∨i=1∨i=2) with rfl|rfl|rfl<;>exact aD krx
theorem JH (x:Sec)(vs vk vc:aq)(M:Mem)(w:ao)(c4:Pws M)(hb:x.aC.length<=8192)(hw:x.trailer.wt<=10000000)(hM:M.has w)
  (u:SlA M.A M.w vs 4 x.aC.length (GU x.aC)) (U:OV M.A M.w (obV x.trailer vk vc) x.trailer) :
  jR ah 12 #[Jq x vs vk vc] M w (λr N=>∃i e Z ic,r=.tuple #[itV i Z ic,ad e]∧Cs.Fp x i e∧OV N.A N.w (obV i.obj Z ic) i.obj):=by
 refine bB hM λK hK=>Kk ?_;unfold Ic nz;refine Vr x u.one U.oneK U.oneC (bT.memS hM) λl w1 c=>?_;refine Zn c λb2 w2 c=>?_;have no:∀{W:ao} {N:Mem} {L:List Ent} {e:Int},bT M.A w W (itE b2 Dk.it0 cI cI::.mem N::L)->M.le N->Cs.why x=e->e≠0->DoX ah (aV 27 #[]) W (pk K) (λt W=>DoX ah (aN 27 (af b2 0) t) W (pk K) λ_ W=>Bw ah [.cell (af b2 0) 27,.val (ad e)] W K):=by
  intro W N L e c hle he c5;rw[amK];refine L7 0 (i':=Dk.it0) rfl rfl c rfl λw4 c=>?_;refine zH (bJ (c.agg 0 rfl Q3)) Ae (hK _ _ N _ 1 c rfl hle ⟨Dk.it0,e,cI,cI,rfl,?_,nW N⟩);unfold Cs.Fp;rw[he,auC c5];exact⟨rfl,rfl⟩
 have c:bT M.A w w2 [itE b2 Dk.it0 cI cI,jN l x vs vk vc,.mem M]:=c;have swp:∀{W:ao} {N:Mem},bT M.A w W [itE b2 Dk.it0 cI cI,jN l x vs vk vc,.mem N]->bT M.A w W (itE b2 Dk.it0 cI cI::.mem N::[jN l x vs vk vc]):=λc=>by
  have c:bT M.A w _ ([itE b2 Dk.it0 cI cI]++([jN l x vs vk vc]++[.mem _])):=c;exact (bT.perm c (aBt _ (aAk)))
 rw[tX,Gg c 1 rfl];refine aK c (R:=λv=>v=ad (Tl.check x.aC)) (MC x.aC vs M w2 om (c.hasM 2 rfl) u) ?_;rintro _ w3 rfl c;have m:=Cs.why.eq_1 x;simp only[eC];by_cases hc:Tl.check x.aC=0
 case neg=>
  rw[auC hc] at m;simp only[auG (show Tl.check x.aC≠0 from hc),i_t];exact no (swp c) M.le_refl m hc
 rw[auB (λh=>h hc)] at m;simp only[hc,show ai ((0:Int)≠0)=au from rfl,i_f];rw[La,aJ aU (c.cell 1 rfl 10 rfl)];simp only[rs];have bad:x.own < 1∨8191 < x.own∨x.prev < -1∨2147483647 < x.prev->Cs.why x=1:=λh=>by rw[m,auC h]
 by_cases a1:x.own < 1
 ·simp only[auG a1,rs,oG,i_t];exact no (swp c) M.le_refl (bad (.inl a1)) dc
 simp only[auD a1,rs];rw[La,aJ aU (c.cell 1 rfl 10 rfl)];simp only[rs];by_cases a2:8191 < x.own
 ·simp only[auG a2,rs,oG,i_t];exact no (swp c) M.le_refl (bad (.inr (.inl a2))) dc
 simp only[auD a2,rs];rw[Kp,aJ aU (c.cell 1 rfl 8 rfl)];simp only[rs];by_cases a3:x.prev < -1
 ·simp only[auG a3,rs,oG,i_t];exact no (swp c) M.le_refl (bad (.inr (.inr (.inl a3)))) dc
 simp only[auD a3,rs];rw[Kp,aJ aU (c.cell 1 rfl 8 rfl)];simp only[rs];by_cases a4:2147483647 < x.prev
 ·simp only[auG a4,rs,i_t];exact no (swp c) M.le_refl (bad (.inr (.inr (.inr a4)))) dc
 simp only[auD a4,rs,i_f];rw[auB (by rintro (h|h|h|h);exact a1 h;exact a2 h;exact a3 h;exact a4 h)] at m;rw[KG,Xb c 1 rfl];refine aK c (R:=λv=>v=ad (Vl.check 1 x.trailer)) (lB x.trailer _ w3 (OV.inw (c.hasM 2 rfl) U) om) ?_;rintro _ w4 rfl c;simp only[eC];by_cases hk:Vl.check 1 x.trailer=0
 case neg=>
  rw[auC hk] at m;simp only[auG (show Vl.check 1 x.trailer≠0 from hk),i_t];exact no (swp c) M.le_refl m hk
 rw[auB (λh=>h hk)] at m;simp only[hk,show ai ((0:Int)≠0)=au from rfl,i_f];rw[KG,eG,afE c 1 rfl];simp only[rs];by_cases h7:x.trailer.k=7
 case neg=>
  rw[auC h7] at m;simp only[auG (show x.trailer.k≠7 from h7),i_t];exact no (swp c) M.le_refl m dc
 rw[auB (λh=>h h7)] at m;simp only[auD (show ¬x.trailer.k≠7 fromλh=>h h7),i_f];rw[tX,Gg c 1 rfl];refine bH c 2 rfl (Ej x.aC vs M w4 om (c.hasM 2 rfl) u) ?_;rintro _ N1 w5 l1 rfl c;refine o_w3 c λf w6 c=>?_;refine M9 0 rfl c rfl λw7 c=>?_;have c:bT M.A w w7 [.cells f (w3C (Cs.wa x.aC:Nat) (Cs.wb x.aC:Nat)) 43,itE b2 Dk.it0 cI cI,jN l x vs vk vc,.mem N1]:=c;rw[se_v c 2 rfl,EN (c.agg 0 rfl agg3)];have c6:=Tl.GB hc;have j0:=Cs.IZ x.trailer;refine bH c 3 rfl (Xs x vs vk vc N1 w7 hb (SZ hc) (λr hr=>by have:=c6 r hr;omega) om om (c.hasM 3 rfl) (u.le l1) (U.le l1)) ?_;have F:=@Cs.O9 x;have a6:(Cs.lI x).1.wt<=100000000:=by
  have hp:=(Cs.Ja x (by have:=Tl.qW x.aC;omega));have h:=Cs.FE (Cs.bL x) (Cs.iC x.trailer) 100000 hp.1;have h2:(100000+11)*(Cs.bL x).length<=(100000+11)*5:=aAQ _ hp.2;unfold Cs.lI;omega
 have V:=Cs.Fp.eq_1 x;generalize Cs.lI x=P at m F a6 V;obtain⟨o,pe⟩:=P;dsimp only at m F a6 V;rintro _ T w8 l2 ⟨ov,rfl,a7⟩ c;obtain⟨ok,z,j1,rfl,a8⟩:=a7.open;dsimp only at a8 a7;simp only[A4,ex];refine dJ c λs w9 c=>?_;refine aT 0 a8.keys.one a8.kids.one c rfl λc7 c=>?_;have c:bT M.A w c7 [obE s o ok z,.cells f (w3C (Cs.wa x.aC:Nat) (Cs.wb x.aC:Nat)) 43,itE b2 Dk.it0 cI cI,jN l x vs vk vc,.mem T]:=c;simp only[eC];by_cases B:pe=0
 case neg=>
  rw[auC B] at m;simp only[auG (show pe≠0 from B),i_t];exact no (swp c.tail.tail) (l1.trans l2) m B
 rw[auB (λh=>h B)] at m;simp only[auD (show ¬pe≠0 fromλh=>h B),i_f];have F:=F B;rw[tX,Gg c 3 rfl,aZ axA (((u.le l1).le l2).now (c.hasM 4 rfl))];have b5:=(u.le l1).le l2;have c8:=Cs.Fm x.aC;have c9:=Cs.Fc x.aC;have b8:∀i,(Cs.pM (x.aC.take i) (Cs.wa x.aC) (Cs.wb x.aC)).length<=8192*9:=by
  intro i;rw[Cs.pI];exact axG (by rw[auM];omega) om
 have b9:pmV (Cs.pm x.aC)=.agg #[ad 12,ad 1,ad (1+(Cs.wa x.aC:Nat)+(Cs.wb x.aC:Nat))]:=rfl;have G:Cs.rows x.aC=Cs.pM x.aC (Cs.wa x.aC) (Cs.wb x.aC):=rfl;generalize h0:Cs.wa x.aC=a at *;generalize h8:Cs.wb x.aC=d at *;have c:=bT.nilU c 5 1;refine loop (λvs' W=>∃(i:Nat) (ov:aq),vs'=[ov,ad (i:Int)]∧i<=x.aC.length∧bT M.A w W [pP ov (Cs.pM (x.aC.take i) a d),obE s o ok z,.cells f (w3C a d) 43,itE b2 Dk.it0 cI cI,jN l x vs vk vc,.mem T]) (λvs _=>x.aC.length - n1 vs) ⟨0,cI,rfl,om,c⟩ ?_;clear c;rintro vs' n ⟨i,ov,rfl,hi,c⟩ _;simp only[DP,gd,rs,nz];by_cases c0:(i:Int) < (x.aC.length:Int)
 ·simp only[auG c0,i_t];have c1:i < x.aC.length:=om
  obtain⟨g,off,hr⟩:=jQ b5 c1;obtain⟨r1,r2⟩:=hr n (c.hasM 5 rfl);refine aD r1 |>.mpr (aD (Bt r2) |>.mpr ?_);refine Lw c λj2 e0 c=>?_;refine Hr (y:=x.aC[i]) 0 c rfl λb0 c=>?_;rw[Ia,aJ aU (c.cell 0 rfl 1 rfl),HL,aJ aU (c.cell 0 rfl 2 rfl),Hy,aJ aU (c.cell 0 rfl 3 rfl),m_k3];have c:bT M.A w b0 [pP ov (Cs.pM (x.aC.take i) a d),obE s o ok z,.cells f (w3C a d) 43,itE b2 Dk.it0 cI cI,jN l x vs vk vc,.mem T]:=c.tail;have e1:=b8 i;generalize hq:Cs.pM (x.aC.take i) a d=q at c e1;have b3:Cs.pM (x.aC.take (i+1)) a d=q++Cs.kJ x.aC[i] a d:=by rw[rB c1,Cs.L1,hq]
  refine loop (λvs' W=>∃(j:Nat) (ov:aq),vs'=[ov,ad (j:Int)]∧j<=3∧bT M.A w W [pP ov (q++(if 0 < j then Cs.num x.aC[i].kind 1 else [])++(if 1 < j then Cs.num x.aC[i].a a else [])++(if 2 < j then Cs.num x.aC[i].b d else [])),obE s o ok z,.cells f (w3C a d) 43,itE b2 Dk.it0 cI cI,jN l x vs vk vc,.mem T]) (λvs _=>3 - n1 vs) ⟨0,ov,rfl,om,by simpa using c⟩ ?_;clear c;rintro vs' C ⟨j,H,rfl,hj,c⟩ _;simp only[Ds,gd,rs,nz];by_cases h3:(j:Int) < 3
  ·simp only[auG h3,i_t];have c2:j < 3:=om
   rw[atA c2,aD (LS c2)];rcases (by omega:j=0∨j=1∨j=2) with rfl|rfl|rfl
   ·have c:bT M.A w C (pP H q::[obE s o ok z,.cells f (w3C a d) 43,itE b2 Dk.it0 cI cI,jN l x vs vk vc,.mem T]):=by simpa using c
    rw[aJ aU (c.cell 2 rfl 0 rfl)];refine Ka (wd:=1) c dc om λI J c=>?_
    try simp only[rs]
    exact bC ⟨1,I,rfl,om,by simpa using c⟩ (by show (2:Nat) < 3;decide)
   ·have c:bT M.A w C (pP H (q++Cs.num x.aC[i].kind 1)::[obE s o ok z,.cells f (w3C a d) 43,itE b2 Dk.it0 cI cI,jN l x vs vk vc,.mem T]):=by simpa using c
    rw[aJ aU (c.cell 2 rfl 1 rfl)];refine Ka (wd:=a) c c8 (by rw[auH,Cs.jC];omega) λI J c=>?_
    try simp only[rs]
    exact bC ⟨2,I,rfl,om,by simpa using c⟩ (by show (1:Nat) < 2;decide)
   ·have c:bT M.A w C (pP H (q++Cs.num x.aC[i].kind 1++Cs.num x.aC[i].a a)::[obE s o ok z,.cells f (w3C a d) 43,itE b2 Dk.it0 cI cI,jN l x vs vk vc,.mem T]):=by simpa using c
    rw[aJ aU (c.cell 2 rfl 2 rfl)];refine Ka (wd:=d) c c9 (by rw[auH,auH,Cs.jC,Cs.jC];omega) λI J c=>?_
    try simp only[rs]
    exact bC ⟨3,I,rfl,om,by simpa using c⟩ (by show (0:Nat) < 1;decide)
  simp only[auD h3,i_f];have:j=3:=om
  subst this;have c:bT M.A w C [pP H (q++Cs.kJ x.aC[i] a d),obE s o ok z,.cells f (w3C a d) 43,itE b2 Dk.it0 cI cI,jN l x vs vk vc,.mem T]:=by
   have e:q++Cs.kJ x.aC[i] a d=q++Cs.num x.aC[i].kind 1++Cs.num x.aC[i].a a++Cs.num x.aC[i].b d:=by unfold Cs.kJ;rw[auN,auN,auN]
   rw[e];simpa using c
  try simp only[rs]
  rw[aA om om];refine bC ⟨i+1,H,rfl,om,?_⟩ (by simp[n1,RowKit.intOf];omega);rw[b3];exact c
 simp only[auD c0,i_f];have:i=x.aC.length:=om
 subst this;rw[awD] at c;have e2:=b8 x.aC.length;rw[awD] at e2;have ia:∀(i:Nat) {W:ao},i < 3->∀{PK:PKT} {K:VWP},DoX ah (mIA 43 (af f 0) (ad (i:Int))) W PK K=K (af f (0+i)) W:=λi _ h=>aD (LS h);rw[show DoX ah (mIA 43 (af f 0) (ad 0)) n (pk K)=λY=>Y (af f (0+0)) n from funext λY=>ia 0 dc];dsimp only;rw[aJ aU (c.cell 2 rfl 0 rfl)];rw[show DoX ah (mIA 43 (af f 0) (ad 1)) n (pk K)=λY=>Y (af f (0+1)) n from funext λY=>ia 1 dc];dsimp only;rw[aJ aU (c.cell 2 rfl 1 rfl),OA,aA om om];rw[show DoX ah (mIA 43 (af f 0) (ad 2)) n (pk K)=λY=>Y (af f (0+2)) n from funext λY=>ia 2 dc];dsimp only;rw[aJ aU (c.cell 2 rfl 2 rfl),OA,aA om om];have c3:∀{W:ao} {PK:PKT} {K:VWP},DoX ah (aV 53 #[(0,ad 12),(1,ad 1),(2,ad (1+(a:Int)+(d:Int)))]) W PK K=K (pmV (Cs.pm x.aC)) W:=by
  intro W PK K;rw[b9];exact aD krx
 rw[c3];have e3:=Cs.alV x.aC;have e4:=Cs.pm_I x.aC;have b4:=Cs.Gb hb;have e5:=Cs.EH hb;have h9:=Cs.aaJ x.aC;rw[G] at b4 e5;simp only[m,G] at V;generalize Cs.pm x.aC=p at *;generalize Cs.pM x.aC a d=data at *;refine bK (λb=>af b 0) (pmC ⟨0,0,0⟩) 53 (λ_=>by kernel_rfl) c λE e0 c=>?_;refine jH 0 c rfl (new:=pmC p) szPm Kz rfl λb0 c=>?_;have c:bT M.A w b0 [pmE E p,pP ov data,obE s o ok z,.cells f (w3C a d) 43,itE b2 Dk.it0 cI cI,jN l x vs vk vc,.mem T]:=c;rw[jL c 2 rfl];refine D6 Ff.nFl c λnb C c=>?_;obtain⟨N3,l3,b3,c⟩:=bT.bG (L:=[pmE E p,pP ov data,obE s o ok z,.cells f (w3C a d) 43,itE b2 Dk.it0 cI cI,jN l x vs vk vc,.mem T]) (c.toU 1 1 1 rfl om om) 6 rfl;have c:bT M.A w C [pmE E p,pP ov data,obE s o ok z,.cells f (w3C a d) 43,itE b2 Dk.it0 cI cI,jN l x vs vk vc,.mem N3]:=c;rw[Pr c 0 rfl];refine bK (λb=>bO b 0 1 1) (pmC p) 53 (λ_=>by kernel_rfl) c λj3 J c=>?_;obtain⟨N4,l4,e6,c⟩:=bT.bG (L:=[pmE E p,pP ov data,obE s o ok z,.cells f (w3C a d) 43,itE b2 Dk.it0 cI cI,jN l x vs vk vc,.mem N3]) (c.toU 3 1 1 rfl om om) 6 rfl;have c:bT M.A w J [pmE E p,pP ov data,obE s o ok z,.cells f (w3C a d) 43,itE b2 Dk.it0 cI cI,jN l x vs vk vc,.mem N4]:=c;rw[JU avH awI auQ (zP (c.at_ 1 rfl))];have O:=(((l1.trans l2).trans l3).trans l4);refine bH c 6 rfl (YX o _ Ff.nFl p _ _ data N4 J (c4.le O) (.inr F) dc e3 e4 b4 om a6 (λD hD=>?_) (c.hasM 6 rfl) ((a7.le l3).le l4) (b3.le l4) e6) ?_
 ·unfold Ff.MT at hD;rw[auB dc,auC dc,auC b4] at hD;have:=Ff.Sj o D;omega
 rintro _ N5 j4 l5 ⟨D,rv,hD,rfl,X⟩ c;have hX:∀(W:ao) (N:Mem) (L:List Ent) (i:Nat) (it:It) (e:Int) (Z ic:aq),bT M.A w W L->L[i]?=ay (.mem N)->M.le N->e=(Ff.zF o p D).2->it=(if (Ff.zF o p D).2≠0 then Dk.it0 else ⟨x.own,0,(Ff.zF o p D).1⟩)->OV N.A N.w (obV it.obj Z ic) it.obj->K (.returned (.tuple #[itV it Z ic,ad e])) W:=λW N L i it e Z ic h1 h2 h3 h4 h5 h6=>
  hK _ W N L i h1 h2 h3 ⟨it,e,Z,ic,rfl,by rw[V,auB (λh=>h rfl)];exact⟨D,hD,h4,h5⟩,h6⟩
 generalize Ff.zF o p D=R at X hX;obtain⟨y,ye⟩:=R;obtain⟨yk,yc,j5,rfl,Q⟩:=X.open;dsimp only at Q X hX;simp only[A4,ex];refine aT 2 Q.keys.one Q.kids.one c rfl λe7 c=>?_;have c:bT M.A w e7 [pmE E p,pP ov data,obE s y yk yc,.cells f (w3C a d) 43,itE b2 Dk.it0 cI cI,jN l x vs vk vc,.mem N5]:=c;simp only[eC];by_cases S:ye=0
 case neg=>
  simp only[auG (show ye≠0 from S),i_t];rw[amK];refine L7 4 (i':=Dk.it0) rfl rfl c rfl λe8 c=>?_;refine zH (bJ (c.agg 4 rfl Q3)) Ae (hX _ N5 _ 6 Dk.it0 ye cI cI c rfl (O.trans l5) rfl (by rw[auC S]) (nW N5))
 simp only[auD (show ¬ye≠0 fromλh=>h S),i_f];rw[La,aJ aU (c.cell 5 rfl 10 rfl),jL c 2 rfl];have e9:∀{W:ao} {PK:PKT} {K:VWP},DoX ah (aV 27 #[(0,ad x.own),(2,obV y yk yc)]) W PK K=K (itV ⟨x.own,0,y⟩ yk yc) W:=aD krx;rw[e9];refine L7 4 (i':=⟨x.own,0,y⟩) Q.keys.one Q.kids.one c rfl λe8 c=>?_;exact zH (bJ (c.agg 4 rfl Q3)) Ae (hX _ N5 _ 6 ⟨x.own,0,y⟩ 0 yk yc c rfl (O.trans l5) S.symm (by rw[auB (λh=>h S)]) X)
structure Stm where
 w:List Int
 bL:List (Int×Int)
 prev:Int
namespace Cs
def got (o:Ob)(k:List UInt8):Ob:=(Vl.get o k).getD Vl.ob0
def yR (o:Ob):Option (List (Int×Int)):=match Vl.get o fP with|none=>ay [(0,(got o iD).n)]|some v=>if v.k=6 then index 0 v.kids else ax
def Ib (o:Ob):Option Int:=match Vl.get o pQ with|none=>ay (-1)|some v=>if inr v 2147483647 then ay v.n else ax
def isX (o:Ob):Prop:=o.k=9∧((got o kK).k=5∧(got o kK).s=qU)∧inr (got o iD) 8192∧(got o kW).k=6∧(got o kW).kids.length=3∧∀x∈(got o kW).kids,inr x 4
instance (o:Ob):Decidable (isX o):=inferInstanceAs (Decidable (_∧_))
def keys (o:Ob):Option Stm:=
 if isX o then (yR o).bind λp=>(Ib o).map λq=>⟨(got o kW).kids.map Ob.n,p,q⟩ else ax
def ws (l:List Int)(i:Nat):List Int:=l.take i++List.replicate (3 - i) 0
theorem PX {k:List UInt8}:(got o k).wt<=o.wt:=Vl.aeJ
end Cs
def GG (x:Stm)(pv:aq):List Value:=x.w.map (.int .i64 ·)++[pv,ad x.prev]
def stmV (x:Stm)(pv:aq):Value:=.agg (GG x pv).toArray
abbrev qY (b:Nat)(x:Stm)(pv:aq):Ent:=.cells b (GG x pv) 64
def LA:Stm:=⟨[0,0,0],[],0⟩
theorem ajQ {l:List Int}{ps:List (Int×Int)}{q:Int}(h:l.length=3)(hi:i < l.length):(GG ⟨Cs.ws l i,ps,q⟩ pv).set (0+i) (ad l[i])=GG ⟨Cs.ws l (i+1),ps,q⟩ pv:=by
 match l,h with
|[a,b,c],_=>rcases (by have:i < 3:=hi;omega:i=0∨i=1∨i=2) with rfl|rfl|rfl<;>rfl
theorem ws3 {l:List Int}(h:l.length=3):Cs.ws l 3=l∧∀i,(Cs.ws l i).length=3∨3 < i:=by
 match l,h with
|[a,b,c],_=>exact⟨rfl,λi=>by
   rcases (by omega:i=0∨i=1∨i=2∨i=3∨3 < i) with rfl|rfl|rfl|rfl|h
   ·exact .inl rfl
   ·exact .inl rfl
   ·exact .inl rfl
   ·exact .inl rfl
   ·exact .inr h⟩
theorem acT {l:List Int}{ps ps':List (Int×Int)}{q:Int}{d:aq}(h:l.length=3):(GG ⟨l,ps,q⟩ pv).set 3 d=GG ⟨l,ps',q⟩ d:=by
 match l,h with
|[a,b,c],_=>rfl
theorem aaQ {l:List Int}{ps:List (Int×Int)}{q d:Int}(h:l.length=3):(GG ⟨l,ps,q⟩ pv).set 4 (ad d)=GG ⟨l,ps,d⟩ pv:=by
 match l,h with
|[a,b,c],_=>rfl
theorem tS {x:Stm}(h:x.w.length=3):(GG x pv).length=5:=by unfold GG;rw[auH,avJ,h];rfl
theorem aaZ {x:Stm}(h:pv.oneCell'=aw):∀v∈GG x pv,v.oneCell'=true:=by
 intro v a;rcases avF.1 a with a|a
 ·obtain⟨n,_,rfl⟩:=avN.1 a;rfl
 ·simp only[auI,avP,or_false] at a;rcases a with rfl|rfl
  ·exact h
  ·rfl
theorem V1 {x:Stm}(h:x.w.length=3):(GG x pv)[3]?=ay pv∧(GG x pv)[4]?=ay (ad x.prev)∧∀i (hi:i < x.w.length),(GG x pv)[i]?=ay (ad x.w[i]):=by
 obtain⟨l,ps,q⟩:=x
 match l,h with
|[a,b,c],_=>
  refine⟨rfl,rfl,λi hi=>?_⟩;rcases (by have:i < 3:=hi;omega:i=0∨i=1∨i=2) with rfl|rfl|rfl<;>rfl
theorem XV:FU ah 64=ay 5:=krx
theorem arD:(Tryz.prog.info? 64).map (·.size)=ay 5:=krx
theorem fst0:nN ah 64 0=ay 0:=krx
theorem fst1:nN ah 64 1=ay 3:=krx
theorem fst2:nN ah 64 2=ay 4:=krx
theorem nRns:eS ah 62=true:=krx
section
variable {w:ao}{PK PK2 PK3 PK4 PK5 PK6:PKT}{K:VWP}{S:Nat->Prop}{w0:ao}{L:List Ent}
theorem aeI :DoX ah (mFA 64 (af b 0) 0) w PK K=K (af b 0) w:=aW fst0
theorem Zb :DoX ah (mFA 64 (af b 0) 1) w PK K=K (af b 3) w:=aW fst1
theorem adQ :DoX ah (mFA 64 (af b 0) 2) w PK K=K (af b 4) w:=aW fst2
theorem WU (a:bT S w0 w L)(k:∀b w',bT S w0 w' (qY b LA cI::L)->K (af b 0) w'):DoX ah (fK 64) w PK K:=
 bK (λb=>af b 0) (GG LA cI) 64 (λ_=>by kernel_rfl) a k
theorem arZ:DoX ah (aV 64 #[(2,ad (-1))]) w PK K=K (stmV ⟨[0,0,0],[],-1⟩ cI) w:=aD krx
theorem RN (j:Nat){c:List aq}{x:Stm}(d:x.w.length=3)(hp:pv.oneCell'=aw)(g:c.length=5)(a:bT S w0 w L)(hi:L[j]?=ay (.cells b c 64))(k:∀w',bT S w0 w' (L.set j (qY b x pv))->K undef w') :
  DoX ah (aN 64 (af b 0) (stmV x pv)) w PK K:=by
 have f:=tS (pv:=pv) d;refine B9 j a hi (new:=GG x pv) (by rw[f];exact arD) (aaZ hp) om λw' a=>k w' ?_;have e:c.take 0++GG x pv++c.drop (0+(GG x pv).length)=GG x pv:=by
  rw[awG om];simp
 rw[e] at a;exact a
theorem Ph {K:aq->VWP}{d:Nat}{e3 e2:Ent}(a:bT S w0 w (e3::e2::obE d o vk vc::.mem M::L))(hw:o.wt<=100000000000)(h:OV M.A M.w (obV o vk vc) o)
  (k:∀N b e f W,M.le N->OV N.A N.w (obV (Cs.got o key) e f) (Cs.got o key)->bT S w0 W (obE b (Cs.got o key) e f::e3::e2::obE d o vk vc::.mem N::L)->K (af b 0) (.bool (Vl.get o key).isSome) W) :
  DoX ah (aH 25 (af d 0)) w PK λt w=>cR ah 63 #[t,ae key] w PK2 λr w=>DoX ah (Ag r 0) w PK3 λx w=>DoX ah (Ag r 1) w PK4 λg w=>
   DoX ah (fK 25) w PK5 λp w=>DoX ah (aN 25 p x) w PK6 λ_ w=>K p g w:=by
 rw[jL a 2 rfl];refine bH a 3 rfl (CE o _ key M w hw (a.hasM 3 rfl) h) ?_;rintro _ N w2 hle ⟨t,rfl,c⟩ a;obtain⟨i,j,rfl,c⟩:=J9 c;simp only[getV,ex];refine dJ a λl n a=>?_;refine aT 0 c.oneK c.oneC a rfl λm a=>?_;exact k N l i j m hle c a
end
end
section
open Go Eng
namespace Vl
theorem I1 (a:keyed o=aw)(k:List UInt8):get o k=lk k o.keys o.kids:=by
 unfold get;rw[auC a,ZX]
theorem Gy {key k:List UInt8}(h:k≠key):∀(ks:List (List UInt8)) (cs:List Ob),lk k (bY key ks cs).1 (bY key ks cs).2=lk k ks cs
|[],cs=>by cases cs<;>rfl
|a::ks,[]=>rfl
|a::ks,c::cs=>by
  have b:=Gy h ks cs;unfold bY;split
  ·rename_i e
   rw[b,lk,auB (λd=>h (by rw[<-d,e]))]
  ·rw[lk,lk,b]
theorem Ry {k:List UInt8}{v:Ob}(h:(set o k v).2=0)(d:v.k≠0):set o k v=(put o k v,0)∧keyed o=aw∧check 1 o=0∧check 1 (put o k v)=0:=by
 unfold set at h ⊢;by_cases c:keyed o=au
 ·rw[auC c] at h;cases h
 rw[auB c] at h ⊢;by_cases a:check 1 o≠0
 ·rw[auC a] at h;exact absurd h a
 rw[auB a,auB d] at h ⊢;unfold right at h ⊢;by_cases b:check 1 (put o k v)≠0
 ·rw[auC b] at h;exact absurd h b
 rw[auB b];exact⟨rfl,by cases h:keyed o<;>simp_all,awX.1 a,awX.1 b⟩
end Vl
namespace Cs
theorem Qr:∀{l:List (List UInt8×Ob)} {o:Ob},(gJ o l).2=0->(∀p∈l,p.2.k≠0)->(l.map (·.1)).Nodup->l≠[] ->
  Vl.keyed (gJ o l).1=aw∧Vl.check 1 (gJ o l).1=0∧(∀p∈l,Vl.get (gJ o l).1 p.1=ay p.2)∧∀k,k ∉ l.map (·.1)->Vl.get (gJ o l).1 k=Vl.get o k
|[],_,_,_,_,h=>absurd rfl h
|p::r,o,h,j,c,_=>by
  unfold gJ at h ⊢;by_cases d:(Vl.set o p.1 p.2).2≠0
  ·rw[auC d] at h;exact absurd h d
  rw[auB d] at h ⊢;obtain⟨e,a,u,f⟩:=Vl.Ry (awX.1 d) (j p (avQ ..));rw[e] at h ⊢;dsimp only at h ⊢;have m:=(Vl.fM u a).2;have g:Vl.keyed (Vl.put o p.1 p.2)=true:=a;have c:p.1 ∉ r.map (·.1)∧(r.map (·.1)).Nodup:=by simpa using c
  have n:=Vl.Rd (key:=p.1) (v:=p.2) a m;have s:∀k,p.1≠k->Vl.get (Vl.put o p.1 p.2) k=Vl.get o k:=λk i=>Vl.CI m i;by_cases t:r=[]
  ·subst t;refine⟨g,f,λq b=>?_,λk a=>?_⟩
   ·rw[avD.1 b];exact n
   ·exact s k (λe=>a (by simp[e]))
  obtain⟨i1,i2,i3,i4⟩:=Qr h (λq b=>j q (auZ _ b)) c.2 t;refine⟨i1,i2,λq b=>?_,λk a=>?_⟩
  ·rcases auI.1 b with rfl|b
   ·rw[i4 _ c.1];exact n
   ·exact i3 q b
  ·rw[i4 k (λh=>a (by simp[h])),s k (λe=>a (by simp[e]))]
end Cs
namespace Ff
theorem Ze (p:Pm):L6 (cP p)=(p,0):=by
 have a:num (cP p) AE=(p.p,0):=rfl;have b:num (cP p) Al=(p.c,0):=rfl;have d:num (cP p) Ap=(p.n,0):=rfl;unfold L6;rw[auB (show ¬(cP p).k=0 by show ¬(7:Int)=0;decide),a,b,d,auC ⟨rfl,rfl,rfl,rfl⟩]
theorem Uz (p:Pm):eight (cP p)=true:=rfl
theorem OL {p:Pm}{D data:List UInt8}(h:(zF o p D).2=0)(B:MT nFl p data D 0)(d:p.ok)(C:D.length<=1048576)(E:data.length<=1048576) :
  (zF o p D).1.k=9∧Vl.check 1 (zF o p D).1=0∧(decode (zF o p D).1=(data,0)∧of (zF o p D).1=([nFl],[p],0))∧∀k,k≠aQ->k≠bS->k≠Vl.rQ->(o.k=7∨o.k=9)->Vl.get (zF o p D).1 k=Vl.get o k:=by
 unfold zF at h ⊢;by_cases a:(plain o D).2≠0
 ·rw[auC a] at h;exact absurd h a
 rw[auB a] at h ⊢;by_cases j:(Vl.set (plain o D).1 aQ (bP nFl)).2≠0
 ·rw[auC j] at h;exact absurd h j
 rw[auB j] at h ⊢;by_cases e:(Vl.set (Vl.set (plain o D).1 aQ (bP nFl)).1 bS (cP p)).2≠0
 ·rw[auC e] at h;exact absurd h e
 rw[auB e];have a:=awX.1 a;obtain⟨t,F,L,M,N,O⟩:=NP a C;obtain⟨e1,u,G,H⟩:=Vl.Ry (awX.1 j) (show (5:Int)≠0 by decide);rw[e1] at e ⊢;obtain⟨e2,w,_,I⟩:=Vl.Ry (awX.1 e) (show (7:Int)≠0 by decide);rw[e2];have f:=(Vl.fM G u).2;have b:=(Vl.fM H w).2;have x:=Vl.Rd (key:=bS) (v:=cP p) w b;have y:Vl.get (Vl.put (Vl.put (plain o D).1 aQ (bP nFl)) bS (cP p)) aQ=ay (bP nFl):=by
  rw[Vl.CI b dc];exact Vl.Rd u f
 refine⟨t,I,?_,λk n1 n2 n3 l=>?_⟩
 ·have g:(Vl.put (Vl.put (plain o D).1 aQ (bP nFl)) bS (cP p)).k=9:=t;have z:(Vl.put (Vl.put (plain o D).1 aQ (bP nFl)) bS (cP p)).s=D:=F;generalize Vl.put (Vl.put (plain o D).1 aQ (bP nFl)) bS (cP p)=P at x y g z;have c:Jx P=[bP nFl]:=by unfold Jx;rw[y];rfl
  have J:names P=([nFl],0):=by unfold names;rw[c];rfl
  have K:yD P=([cP p],0):=by unfold yD;rw[x];rfl
  have m:yW P 1=([p],0):=by
   unfold yW;rw[K];simp only[List.any_cons,List.any_nil,Ze,Uz,avS,axT];rfl
  have i:of P=([nFl],[p],0):=by
   unfold of;rw[auB (λh=>h g),J];dsimp only;rw[auB dc,show ([nFl]:List (List UInt8)).length=1 from rfl,m];dsimp only;rw[auB dc,auB (by simp[d])]
  refine⟨?_,i⟩;unfold decode;rw[i,z];dsimp only;rw[auB dc];unfold chain;rw[Zy B rfl E,auB (by show ¬((0:Int)≠0);decide)];rfl
 ·rw[Vl.CI b (Ne.symm n2),Vl.CI f (Ne.symm n1)];have n:(plain o D).1=Bd.I5 (bare o) D:=by
   unfold plain at a ⊢;by_cases A:o.k≠9∧o.k≠7
   ·rw[auC A] at a;cases a
   rw[auB A] at a ⊢;by_cases q:Vl.check 1 (kP o)≠0
   ·rw[auC q] at a;exact absurd a q
   rw[auB q]
  have r:Vl.keyed o=true:=by rcases l with h|h<;>simp[Vl.keyed,h]
  rw[n,Vl.I1 (o:=Bd.I5 (bare o) D) rfl,Vl.I1 r];show Vl.lk k (Vl.bY Vl.rQ _ _).1 (Vl.bY Vl.rQ _ _).2=_;rw[Vl.Gy n3];show Vl.lk k (Vl.bY bS _ _).1 (Vl.bY bS _ _).2=_;rw[Vl.Gy n2];show Vl.lk k (Vl.bY aQ _ _).1 (Vl.bY aQ _ _).2=_;rw[Vl.Gy n1];rfl
end Ff
end
section
open Eng Go.RowKit
section
variable {w:ao}{PK:PKT}{K:VWP}{S:Nat->Prop}{w0:ao}{L:List Ent}
theorem apC (a:bT S w0 w (.mem M::L))(hw:o.wt<=1000000000)(Y:OV M.A M.w v o)
  (kt:∀x,Cs.keys o=ay x->∀N pv W,M.le N->SlA N.A N.w pv 2 x.bL.length (Pt x.bL)->bT S w0 W (.mem N::L)->K (stmV x pv) W)
  (t:Cs.keys o=ax->∀N W,M.le N->bT S w0 W (.mem N::L)->PK [upC] W):cR ah 29 #[v] w PK K:=by
 obtain⟨vk,vc,cs,rfl,ha⟩:=Y.open;refine⟨KV ?_⟩;unfold HZ nz;refine eQ o ha.keys.one ha.kids.one a λg w1 a=>?_;refine WU a λb2 w2 a=>?_;rw[arZ];refine WU a λb3 w3 a=>?_;refine RN 0 rfl rfl rfl a rfl λw4 a=>?_;have a:bT S w0 w4 (qY b3 ⟨[0,0,0],[],-1⟩ cI::qY b2 LA cI::obE g o vk vc::.mem M::L):=a;have f:¬Cs.isX o->Cs.keys o=none:=λh=>by unfold Cs.keys;rw[auB h]
 have cut:∀{W:ao} {N:Mem} {e1 e2 e3:Ent},bT S w0 W (e1::e2::e3::.mem N::L)->bT S w0 W (.mem N::L):=λa=>a.tail.tail.tail;rw[eG,vE a 2 rfl];simp only[rs];refine mG (λh9=>?_) λh9=>t (f λh=>avT h9 h.1) M w4 M.le_refl (cut a);have h9:=auW h9;refine Ph a om Y λN1 b4 tk tc w5 E ht a=>?_;rw[eG,vE a 0 rfl];simp only[rs];have hT:∀{W},¬((Cs.got o Cs.kK).k=5∧(Cs.got o Cs.kK).s=Cs.qU)->bT S w0 W (obE b4 (Cs.got o Cs.kK) tk tc::qY b3 ⟨[0,0,0],[],-1⟩ cI::qY b2 LA cI::obE g o vk vc::.mem N1::L)->PK [upC] W:=
  λh a=>t (f λk=>h k.2.1) N1 _ E (cut a.tail)
 by_cases h5:(Cs.got o Cs.kK).k=5
 case neg=>
  simp only[auD h5,rs,oG];exact mG (λh=>by cases h) λ_=>hT (λh=>h5 h.1) a
 simp only[auG h5,rs];rw[El,NW a 0 rfl];simp only[rs];refine mG (λF=>?_) λF=>hT (λh=>?_) a
 rotate_left
 ·exact avT F h.2
 have c1:(Cs.got o Cs.kK).s=Cs.qU:=auW F;have a:=a.tail;refine Ph a om (Y.le E) λN2 b6 sk sc w6 l2 hs a=>?_;rw[jL a 0 rfl];refine Lf a hs.oneK hs.oneC dc (λG w7 a=>?_) λG W a=>t (f λh=>G h.2.2.1) N2 W (E.trans l2) (cut a.tail);have a:=a.tail;refine Ph a om ((Y.le E).le l2) λN3 b9 xk xc w8 l3 u a=>?_;rw[jL a 0 rfl];refine Yg a u.oneK u.oneC (λH w9 a=>?_) λH W a=>t (f λh=>H h.2.2.2.1) N3 W ((E.trans l2).trans l3) (cut a.tail);obtain⟨cs,a1⟩:=NK u;rw[HQ a1];simp only[rs];refine mG (λI=>?_) λI=>t (f λh=>avT I (by have:(Cs.got o Cs.kW).kids.length=3:=h.2.2.2.2.1;show ((Cs.got o Cs.kW).kids.length:Int)=3;omega)) N3 w9 ((E.trans l2).trans l3) (cut a.tail);have I:(Cs.got o Cs.kW).kids.length=3:=by have:((Cs.got o Cs.kW).kids.length:Int)=3:=auW I;omega
 have a:=a.tail;have O:=(E.trans l2).trans l3;have c:((Cs.got o Cs.kW).kids.map Ob.n).length=3:=by rw[avJ,I]
 refine loop (λvs W=>∃(i:Nat),vs=[ad (i:Int)]∧i<=3∧(∀x∈(Cs.got o Cs.kW).kids.take i,Cs.inr x 4)∧bT S w0 W (qY b3 ⟨Cs.ws ((Cs.got o Cs.kW).kids.map Ob.n) i,[],-1⟩ cI::qY b2 LA cI::obE g o vk vc::.mem N3::L)) (λvs _=>3 - n0 vs) ⟨0,rfl,om,sm,a⟩ ?_;clear a;rintro vs a6 ⟨i,rfl,hi,j,a⟩ _;simp only[DU,gd,rs,nz];by_cases a7:(i:Int) < 3
 ·simp only[auG a7,i_t];have P:i < (Cs.got o Cs.kW).kids.length:=om
  refine OK a1 P (a.hasM 3 rfl) λyk yc hy=>?_;refine Lf a hy.oneK hy.oneC dc (λd c2 a=>?_) λd W a=>t (f λh=>d (h.2.2.2.2.2 _ (auS P))) N3 W O (cut a);rw[aeI];refine aD (LS om) |>.mpr ?_;have c3:=((ws3 c).2 i).resolve_right om;refine aO 0 a rfl krx rfl (by rw[tS c3];omega) λQ a=>?_
  try simp only[rs]
  rw[aA om om];refine bC ⟨i+1,rfl,om,?_,?_⟩ (by simp[n0,RowKit.intOf];omega)
  ·rw[avL P];intro x u;rcases avF.1 u with u|u
   ·exact j x u
   ·rw[avD.1 u];exact d
  ·have e:=ajQ (ps:=[]) (q:=-1) (pv:=cI) c (show i < ((Cs.got o Cs.kW).kids.map Ob.n).length by omega);rw[List.getElem_map] at e;rw[qY,<-e];exact a
 simp only[auD a7,i_f];have:i=3:=om
 subst this;have F:Cs.isX o:=⟨h9,⟨h5,c1⟩,G,H,I,by rw[<-I,awD] at j;exact j⟩;rw[(ws3 c).1] at a;have R:∀{p q},Cs.yR o=ay p->Cs.Ib o=ay q->Cs.keys o=ay ⟨(Cs.got o Cs.kW).kids.map Ob.n,p,q⟩:=λh1 h2=>by unfold Cs.keys;rw[auC F,h1,h2];rfl
 have T:Cs.yR o=ax∨Cs.Ib o=ax->Cs.keys o=none:=λh=>by
  unfold Cs.keys;rw[auC F];rcases h with h|h
  ·rw[h];rfl
  ·rw[h];cases Cs.yR o<;>rfl
 clear F;generalize (Cs.got o Cs.kW).kids.map Ob.n=ns at *;have hb:∀{PK:PKT} {K:VWP},DoX ah (aV 97 #[(0,ad 0),(1,ad (Cs.got o Cs.iD).n)]) a6 PK K=K (rnV (0,(Cs.got o Cs.iD).n)) a6:=aD krx;rw[hb];refine bK (λb=>bO b 0 1 1) (rnC (0,(Cs.got o Cs.iD).n)) 97 (λ_=>by kernel_rfl) a λnb c2 a=>?_;rw[Zb];refine aO 1 a rfl krx rfl (by rw[tS c];omega) λQ a=>?_;have a:bT S w0 Q (.cells nb (rnC (0,(Cs.got o Cs.iD).n)) 97::.cells b3 ((GG ⟨ns,[],-1⟩ cI).set 3 (bO nb 0 1 1)) 64::qY b2 LA cI::obE g o vk vc::.mem N3::L):=a;rw[acT c (ps':=[(0,(Cs.got o Cs.iD).n)])] at a;have a:=a.toU 2 1 1 rfl om om;obtain⟨N4,Z,c4,a⟩:=a.bG 3 rfl;have a:bT S w0 Q (qY b3 ⟨ns,[(0,(Cs.got o Cs.iD).n)],-1⟩ (bO nb 0 1 1)::qY b2 LA cI::obE g o vk vc::.mem N4::L):=a;refine join λJ hJ=>?_;have main:∀{ps pv N W},Cs.yR o=ay ps->N4.le N->SlA N.A N.w pv 2 ps.length (Pt ps)->bT S w0 W (qY b3 ⟨ns,ps,-1⟩ pv::qY b2 LA cI::obE g o vk vc::.mem N::L)->J [] W:=by
  intro ps pv N W hp hN hs a;refine hJ _ _ λ_=>?_;unfold DL nz;refine join λJ3 c5=>?_;have l:∀{q N' W},Cs.Ib o=ay q->N.le N'->bT S w0 W (qY b3 ⟨ns,ps,q⟩ pv::qY b2 LA cI::obE g o vk vc::.mem N'::L)->J3 [] W:=by
   intro q N' W D a8 a;refine c5 _ _ λ_=>?_;unfold DQ nz;have b0:FU ah 64=ay (GG ⟨ns,ps,q⟩ pv).length:=by rw[tS c];exact XV
   rw[EN (a.agg 0 rfl b0)];refine RN 1 c hs.one rfl a rfl λU a=>?_;exact eN (bJ (a.agg 1 rfl b0)) (kt _ (R hp D) N' pv U ((O.trans Z).trans (hN.trans a8)) (hs.le a8) (cut a))
  refine Ph a om (((Y.le O).le Z).le hN) λV c6 pk pc U z B a=>?_;have D:Cs.Ib o=match Vl.get o Cs.pQ with|none=>ay (-1)|some v=>if Cs.inr v 2147483647 then ay v.n else none:=rfl
  have m:Cs.got o Cs.pQ=(Vl.get o Cs.pQ).getD Vl.ob0:=rfl;cases hg:Vl.get o Cs.pQ with
 |none=>
   rw[hg] at D;simp only[ayR,i_f];exact l D z a.tail
 |some y=>
   rw[hg] at D m;simp only[azD,i_t];rw[m] at B a;simp only[ayD] at B a D;rw[jL a 0 rfl];refine Lf a B.oneK B.oneC dc (λd b5 a=>?_) λd W a=>t (T (.inr (by rw[D,auB d]))) V W ((O.trans Z).trans (hN.trans z)) (cut a.tail);rw[adQ];refine aO 1 a rfl krx rfl (by rw[tS c];omega) λX a=>?_;have a:bT S w0 X (obE c6 y pk pc::.cells b3 ((GG ⟨ns,ps,-1⟩ pv).set 4 (ad y.n)) 64::qY b2 LA cI::obE g o vk vc::.mem V::L):=a;rw[aaQ c] at a;exact l (by rw[D,auC d]) z a.tail
 have hp:Cs.yR o=match Vl.get o Cs.fP with|none=>ay [(0,(Cs.got o Cs.iD).n)]|some v=>if v.k=6 then Cs.index 0 v.kids else none:=rfl
 have m:Cs.got o Cs.fP=(Vl.get o Cs.fP).getD Vl.ob0:=rfl;refine Ph a om ((Y.le O).le Z) λV C ik ic U z r a=>?_;have b7:=Cs.PX (o:=o) (k:=Cs.fP);cases hg:Vl.get o Cs.fP with
|none=>
  rw[hg] at hp;simp only[ayR,i_f];exact main hp z (c4.le z) a.tail
|some y=>
  rw[hg] at hp m;simp only[azD,i_t];rw[m] at r a b7;simp only[ayD] at r a hp b7;rw[jL a 0 rfl];refine Yg a r.oneK r.oneC (λH b5 a=>?_) λH W a=>t (T (.inl (by rw[hp,auB H]))) V W ((O.trans Z).trans z) (cut a.tail);rw[auC H] at hp;obtain⟨c8,b8⟩:=NK r;have c9:=@Ff.qZ y;have a:bT S w0 b5 ([obE C y ik ic,qY b3 ⟨ns,[(0,(Cs.got o Cs.iD).n)],-1⟩ (bO nb 0 1 1),qY b2 LA cI,obE g o vk vc]++([.mem V]++L)):=a;refine afU a.front b8 om (λps he N6 pv X l6 c0 a=>?_) λhe W a=>t (T (.inl (by rw[hp,he]))) V W ((O.trans Z).trans z) (by
   have a:bT S w0 W (.mem V::obE C y ik ic::qY b3 ⟨ns,[(0,(Cs.got o Cs.iD).n)],-1⟩ (bO nb 0 1 1)::qY b2 LA cI::obE g o vk vc::L):=a;exact a.sub (.cons_cons _ (.cons _ (.cons _ (.cons _ (.cons _ (azV _)))))))
  rw[Zb];have a:bT S w0 X (.mem N6::obE C y ik ic::qY b3 ⟨ns,[(0,(Cs.got o Cs.iD).n)],-1⟩ (bO nb 0 1 1)::qY b2 LA cI::obE g o vk vc::L):=a;refine aO 2 a rfl krx c0.one (by rw[tS c];omega) λc7 a=>?_;have a:bT S w0 c7 ([.mem N6]++([obE C y ik ic,.cells b3 ((GG ⟨ns,[(0,(Cs.got o Cs.iD).n)],-1⟩ (bO nb 0 1 1)).set 3 pv) 64,qY b2 LA cI,obE g o vk vc]++L)):=a;rw[acT c (ps':=ps)] at a;exact main (by rw[hp,he]) (z.trans l6) c0 a.front.tail
end
namespace Cs
def PA (p:Int×Int):List Int:=(List.range p.2.toNat).map λk=>p.1+(k:Nat)
def Cu (l:List (Int×Int)):List Int:=l.flatMap PA
theorem TM (p:Int×Int):(PA p).length=p.2.toNat:=by simp[PA]
theorem U6 {l:List (Int×Int)}(hi:i < l.length):Cu l=Cu (l.take i)++(PA l[i]++Cu (l.drop (i+1))):=by
 unfold Cu;rw[show PA l[i]++(l.drop (i+1)).flatMap PA=(l[i]::l.drop (i+1)).flatMap PA from rfl,<-avX hi,<-axQ,avV]
theorem aaY {l:List (Int×Int)}(hi:i < l.length)(a:j < l[i].2.toNat):(Cu l)[(Cu (l.take i)).length+j]?=ay (l[i].1+(j:Nat)):=by
 rw[U6 hi,awW om,aAc,awR (by rw[TM];exact a)];unfold PA;rw[ayO,List.getElem?_range a];rfl
theorem Ww {l:List (Int×Int)}(hi:i < l.length):(Cu (l.take (i+1))).length=(Cu (l.take i)).length+l[i].2.toNat:=by
 rw[avL hi];unfold Cu;rw[axQ,auH,ayP,TM]
def be (l:List UInt8):Nat:=l.foldl (λv c=>v*256+c.toNat) 0
theorem WX (l:List UInt8)(c:UInt8):be (l++[c])=be l*256+c.toNat:=by unfold be;rw[aAy];rfl
theorem anA:∀(n:Nat) (l:List UInt8),l.length=n->be l < 256 ^ n
|0,l,h=>by rw[ayY h];decide
|n+1,l,h=>by
  have a:l≠[]:=by intro b;rw[b] at h;cases h
  rw[<-aA3 a,WX];have:=anA n l.dropLast (by rw[aBs];omega);have c:=(l.getLast a).toNat_lt;rw[awT];have d:(2:Nat) ^ 8=256:=rfl;omega
def fld (s:List UInt8)(at_:Nat)(n:Int):Int:=(be ((s.drop at_).take n.toNat):Nat)
def field (s:List UInt8)(i at_:Nat)(n:Int):Int:=if n=0∧i=0 then 1 else fld s at_ n
end Cs
theorem orW8 {v c:Nat}(a:v < 256 ^ 4)(b:c < 256):bOr .i64 ((v*2 ^ 8:Nat):Int) (c:Int)=((v*2 ^ 8+c:Nat):Int):=by
 have a:v < 4294967296:=a;have h:v*2 ^ 8 ||| c=v*2 ^ 8+c:=by rw[axH];exact (aAY (i:=8) b v).symm
 unfold bOr;rw[BitVec.toNat_or];simp only[BitVec.ofInt_natCast,BitVec.toNat_ofNat];rw[awB (show v*2 ^ 8 < 2 ^ IntKind.i64.bits by show _ < 18446744073709551616;omega),awB (show c < 2 ^ IntKind.i64.bits by show _ < 18446744073709551616;omega),h];exact aA om om
section
variable {w:ao}{PK:PKT}{K:VWP}{S:Nat->Prop}{w0:ao}{L:List Ent}
theorem G2 {x:Stm}{s:List UInt8}{b2 b3 b:Nat}{at_:Nat}(i2 i3 i6:Nat)(a:bT S w0 w L)(u:L[i2]?=ay (qY b2 x pv))(t:L[i3]?=ay (Lh b3 s))(o:L[i6]?=ay (.cells b [ad (at_:Nat)] 3))
  (n3:i3≠i6) (v:x.w.length=3) (hi:i < x.w.length) (hw:0<=x.w[i]∧x.w[i]<=4) (y:at_+x.w[i].toNat<=s.length) (D:s.length<=1000000000)
  (k:∀W,bT S w0 W (L.set i6 (.cells b [ad ((at_+x.w[i].toNat:Nat):Int)] 3))->K (ad (Cs.field s i at_ x.w[i])) W) :
  cR ah 67 #[ad (i:Int),af b2 0,af b 0,af b3 0] w PK K:=by
 have z:i6 < L.length:=(auV.1 o).1;refine⟨tH ?_⟩;unfold lZ nz;rw[aeI];refine aD (LS om) |>.mpr ?_;rw[aJ aU (a.cell i2 u (0+i) ((by rw[auP];exact (V1 v).2.2 i hi)))];simp only[rs];have rest:Cs.field s i at_ x.w[i]=Cs.fld s at_ x.w[i]->DoX ah (aH 3 (af b 0)) w (pk (He K PK)) (λt18 w=>
   DoX ah (iQ .add 3 t18 (ad x.w[i])) w (pk (He K PK)) λt20 w=>
   DoX ah (aH 9 (af b3 0)) w (pk (He K PK)) λt21 w=>
   DoX ah (mB .len #[9] 3 #[au] #[t21]) w (pk (He K PK)) λt22 w=>
   DoX ah (iQ .leq 3 t20 t22) w (pk (He K PK)) λt23 w=>
   cR ah 62 #[t23] w (pk (He K PK)) λt24 w=>
   Es [(ad 0),(ad 0)] w (λd w N1=>∀_:Sg,fX (af b 0) (af b3 0) (d.getD 0 undef) (ad x.w[i]) (d.getD 1 undef) w N1 (He K PK))):=by
  intro he;rw[he] at k;generalize x.w[i]=n at *;obtain⟨n,rfl⟩:∃m:Nat,n=(m:Int):=⟨n.toNat,om⟩;rw[auJ] at y k;rw[aJ aU (a.cell i6 o 0 rfl)];simp only[rs];rw[aA om om,aJ Gh (a.cell i3 t 0 rfl)];simp only[rs,iU auQ];refine mG (λ_=>?_) λh=>absurd (show (at_:Int)+n<=(s.length:Int) by omega) (avT h);refine loop (λvs W=>∃(j:Nat),vs=[ad ((Cs.be ((s.drop at_).take j):Nat):Int),ad (j:Int)]∧j<=n∧bT S w0 W (L.set i6 (.cells b [ad ((at_+j:Nat):Int)] 3))) (λvs _=>n - n1 vs) ⟨0,rfl,om,by rw[awF,yH o];exact a⟩ ?_;clear a;rintro vs A ⟨j,rfl,E,a⟩ _;simp only[fX,gd,rs,nz];by_cases f:(j:Int) < (n:Int)
  case neg=>
   simp only[auD f,i_f];have:j=n:=om
   subst this;have:=k A a;unfold Cs.fld at this;rw[auJ] at this;exact this
  simp only[auG f,i_t];have p:at_+j < s.length:=om
  have q:=Cs.anA j ((s.drop at_).take j) (by rw[auM,auT];omega);have g:Cs.be ((s.drop at_).take j) < 256 ^ 4:=awO q (awL dc om);have B:Cs.be ((s.drop at_).take j) < 4294967296:=g;have C:=s[at_+j].toNat_lt;rw[II dc,show (2:Int) ^ min (8:Int).toNat IntKind.i64.bits=2 ^ 8 from rfl,aA om om];have r:(L.set i6 (Ent.cells b [ad ((at_+j:Nat):Int)] 3))[i6]?=ay (.cells b [ad ((at_+j:Nat):Int)] 3):=axR z;have c3:(L.set i6 (Ent.cells b [ad ((at_+j:Nat):Int)] 3))[i3]?=ay (Lh b3 s):=by rw[azU (Ne.symm n3)];exact t
  rw[aJ Gh (a.cell i3 c3 0 rfl),aJ aU (a.cell i6 r 0 rfl),s_ix (c:=s[at_+j]) auQ om (by rw[auJ];exact auO p),Oq,b_or,show ((Cs.be ((s.drop at_).take j):Nat):Int)*2 ^ 8=((Cs.be ((s.drop at_).take j)*2 ^ 8:Nat):Int) by omega,orW8 g C,aJ aU (a.cell i6 r 0 rfl)];simp only[rs];rw[aA om om];refine aO i6 a r krx rfl sm λw2 a=>?_;rw[azT] at a
  try simp only[rs]
  rw[aA om om];refine bC ⟨j+1,?_,om,?_⟩ (by simp[n1,RowKit.intOf];omega)
  ·have e:(s.drop at_).take (j+1)=(s.drop at_).take j++[s[at_+j]]:=by
    rw[avL (by rw[auT];omega),List.getElem_drop]
   rw[e,Cs.WX];rfl
  ·exact a
 by_cases l:x.w[i]=0
 case neg=>
  simp only[auD l,rs,oG,i_f];exact rest (by unfold Cs.field;rw[auB (λh=>l h.1)])
 simp only[auG l,rs];by_cases a2:i=0
 case neg=>
  simp only[auD (show ¬(i:Int)=0 by omega),rs,i_f];exact rest (by unfold Cs.field;rw[auB (λh=>a2 h.2)])
 simp only[auG (show (i:Int)=0 by omega),rs,i_t];have e:Cs.field s i at_ x.w[i]=1:=by unfold Cs.field;rw[auC ⟨l,a2⟩]
 rw[e] at k;refine k w ?_;rw[l];rw[show at_+(0:Int).toNat=at_ from rfl,yH o];exact a
end
theorem UO (x:Stm)(pv:aq)(N:Mem)(b:Nat)(J:x.w.length=3)(F:SlA N.A N.w pv 2 x.bL.length (Pt x.bL))(L:x.bL.length<=1000000000)(O:∀p∈x.bL,0<=p.1∧0<=p.2∧p.1+p.2<=1000000)
  (S:Nat->Prop) (w0 G:ao) (L0:Loop) (d df:Nat) (z:List Ent) (R:Nat->List Ent->Prop) (K:Ending->ao->Prop)
  (P:∀k M,R k M->Ent.mem N∈M) (c:bT S w0 G (CN L0 d df++(z++[qY b x pv]))) (e:R 0 z)
  (Q:∀(k:Nat) (n:Int) (M X:List Ent) (W:ao),(Cs.Cu x.bL)[k]?=ay n->R k M->bT S w0 W (CN L0 d df++(M++X)) ->
   Yld ah d [ad n] W (λr H=>(r=.bool aw∧∃u,R (k+1) u∧bT S w0 H (CN L0 d df++(u++X)))∨(r=.bool au∧K (.returned (.tuple #[])) H)))
  (q:∀(M X:List Ent) (W:ao),R (Cs.Cu x.bL).length M->bT S w0 W (CN L0 d df++(M++X))->K (.returned (.tuple #[])) W) :
  Calls ah 103 #[.func (.yield d) #[] #[],af b 0] G K:=by
 refine pT ?_;unfold jP nz;have s:∀{M:List Ent} {X:List Ent} {W:ao},R 0 M∨True->bT S w0 W (CN L0 d df++(M++(X++[qY b x pv])))->W.cell? ⟨b,3,ax⟩=ay pv:=by
  intro M X W _ h;have:qY b x pv∈CN L0 d df++(M++(X++[qY b x pv])):=sm
  have:=aI (T:=64) (h.mem this) (i:=3) ((V1 J).1);exact this
 have g:∀{k:Nat} {M X:List Ent} {W:ao},R k M->bT S w0 W (CN L0 d df++(M++X))->N.has W:=by
  intro k M X W e h;have U:=P k M e;have:Ent.mem N∈CN L0 d df++(M++X):=aA7 _ (aA6 _ U);obtain⟨i,hi⟩:=List.getElem?_of_mem this;exact h.hasM i hi
 rw[Zb,aJ nRns (s (X:=[]) (.inr trivial) c)];rw[aZ azG (F.now (g e c))];refine loop (λvs W=>∃(i:Nat) (M:List Ent),vs=[ad (i:Int)]∧i<=x.bL.length∧R (Cs.Cu (x.bL.take i)).length M∧bT S w0 W (CN L0 d df++(M++[qY b x pv]))) (λvs _=>x.bL.length - n0 vs) ⟨0,z,rfl,om,e,c⟩ ?_;clear c e;rintro vs w2 ⟨i,M,rfl,hi,e,c⟩ _;simp only[iI,gd,rs,nz];by_cases t:(i:Int) < (x.bL.length:Int)
 case neg=>
  simp only[auD t,i_f];have:i=x.bL.length:=om
  subst this;rw[awD] at e;exact q M _ w2 e c
 simp only[auG t,i_t];have f:i < x.bL.length:=om
 obtain⟨p,B,C⟩:=apN F f;obtain⟨V,Y,Z⟩:=O x.bL[i] (auS f);rw[aD (B w2),aD (C w2 (g e c))];refine o_rn c λl w3 c=>?_;refine aeC 0 (y:=x.bL[i]) c rfl λI c=>?_;have c:bT S w0 I (.cells l (rnC x.bL[i]) 97::(CN L0 d df++(M++[qY b x pv]))):=c;rw[aeB,aJ aU (c.cell 0 rfl 1 rfl)];have c:bT S w0 I (CN L0 d df++(M++([.cells l (rnC x.bL[i]) 97]++[qY b x pv]))):=by
  refine c.perm ?_;rw[<-auN,<-auN];refine (List.perm_middle (l₁:=CN L0 d df++M) (l₂:=[qY b x pv]) (a:=.cells l (rnC x.bL[i]) 97)).symm.trans ?_;exact ayU _
 have o:∀{M:List Ent} {W:ao},bT S w0 W (CN L0 d df++(M++([.cells l (rnC x.bL[i]) 97]++[qY b x pv])))->W.cell? ⟨l,0,ax⟩=ay (ad x.bL[i].1):=by
  intro M W h;have:Ent.cells l (rnC x.bL[i]) 97∈CN L0 d df++(M++([.cells l (rnC x.bL[i]) 97]++[qY b x pv])):=sm
  exact aI (h.mem this) (i:=0) rfl
 refine loop (λvs W=>∃(j:Nat) (M:List Ent),vs=[ad (j:Int)]∧(j:Int)<=x.bL[i].2∧R ((Cs.Cu (x.bL.take i)).length+j) M∧bT S w0 W (CN L0 d df++(M++([.cells l (rnC x.bL[i]) 97]++[qY b x pv])))) (λvs _=>x.bL[i].2.toNat - n0 vs) ⟨0,M,rfl,om,e,c⟩ ?_;clear c e;rintro vs w5 ⟨j,M,rfl,hj,e,c⟩ _;simp only[iH,gd,rs,nz];by_cases m:(j:Int) < x.bL[i].2
 case neg=>
  simp only[auD m,i_f]
  try simp only[rs]
  rw[aA om om];refine bC ⟨i+1,M,rfl,om,?_,?_⟩ (by simp[n0,RowKit.intOf];omega)
  ·rw[Cs.Ww f,show x.bL[i].2.toNat=j by omega];exact e
  ·refine c.sub ?_;refine List.Sublist.append_left (List.Sublist.append_left (List.sublist_append_right _ _) _) _
 simp only[auG m,i_t];rw[aeZ,aJ aU (o c)]
 try simp only[rs]
 rw[aA om om];refine aqT (args:=[ad (x.bL[i].1+j)]) (Q _ (x.bL[i].1+j) M _ w5 (Cs.aaY f om) e c) ?_;rintro v w6 (⟨rfl,u,D,E⟩|⟨rfl,hK⟩)
 ·rw[PQ,awA,i_f]
  try simp only[rs]
  rw[aA om om];exact bC ⟨j+1,u,rfl,om,D,E⟩ (by simp[n0,RowKit.intOf];omega)
 ·rw[PQ,avZ,i_t];exact hK
section
variable {w:ao}{PK:PKT}{K:VWP}{S:Nat->Prop}{w0:ao}{L:List Ent}
theorem afC (x:Stm)(d:x.w.length=3)(hp:pv.oneCell'=aw)(e:bT S w0 w L)(k:∀b w',bT S w0 w' (qY b x pv::L)->K (af b 0) w'):DoX ah (GP 64 (stmV x pv)) w PK K:=by
 obtain⟨l,ps,q⟩:=x
 match l,d with
|[a,b,c],_=>exact bK (λb=>af b 0) (GG ⟨[a,b,c],ps,q⟩ pv) 64 (λ_=>by kernel_rfl) e k
theorem WA (x:Stm)(c:x.w.length=3)(hp:pv.oneCell'=aw)(a:bT S w0 w L)(k:∀b W,bT S w0 W (qY b x pv::L)->K (.func (.func 103) #[] #[af b 0]) W) :
  cR ah 68 #[stmV x pv] w PK K:=by
 refine⟨vK ?_⟩;unfold mY nz;refine afC x c hp a λb d a=>?_;rw[tZ];exact k b d a
end
namespace Cs
def wide (x:Stm):Nat:=(x.w.getD 0 0).toNat+(x.w.getD 1 0).toNat+(x.w.getD 2 0).toNat
def rowAt (x:Stm)(s:List UInt8)(k:Nat)(n:Int):Slt:=
 let a:=x.w.getD 0 0;let b:=x.w.getD 1 0;let c:=x.w.getD 2 0;let p:=k*wide x
 ⟨n,field s 0 p a,field s 1 (p+a.toNat) b,field s 2 (p+a.toNat+b.toNat) c⟩
def aC (x:Stm)(s:List UInt8):List Slt:=(Cu x.bL).mapIdx (rowAt x s)
theorem Pu (x:Stm)(s:List UInt8):(aC x s).length=(Cu x.bL).length:=by unfold aC;rw[List.length_mapIdx]
theorem PM {x:Stm}{s:List UInt8}{k:Nat}{n:Int}(h:(Cu x.bL)[k]?=ay n):(aC x s)[k]?=ay (rowAt x s k n):=by
 unfold aC;rw[List.getElem?_mapIdx,h];rfl
end Cs
theorem agY (hp:cW ah f=aw)(h:cR ah f (fa++args++ca) w PK K):CVX ah (.func (.func f) fa ca) args w PK K:=⟨⟨f,fa,ca,rfl,hp,h⟩⟩
theorem D7:cW ah 67=true:=krx
abbrev cloV (b2 a b3:Nat):Value:=.func (.func 67) #[] #[af b2 0,af a 0,af b3 0]
abbrev Nr (b b2 a b3:Nat):Ent:=.cells b [cloV b2 a b3] 83
theorem aqK:eS ah 83=true:=krx
abbrev atE (b at_:Nat):Ent:=.cells b [ad (at_:Int)] 3
abbrev svE (b:Nat)(v:aq):Ent:=.cells b [v] 32
theorem apF {n k b:Int}:(aV 60 #[(0,ad n),(1,ad k),(2,ad a),(3,ad b)]).run ah W=.ok (.value (slV ⟨n,k,a,b⟩)) W:=krx
section
variable {w:ao}{PK:PKT}{K:VWP}{S:Nat->Prop}{w0:ao}{L:List Ent}
theorem aoS {x:Stm}{s:List UInt8}(d:bT S w0 w (.mem N::L))(V:x.w.length=3)(hw:∀n∈x.w,0<=n∧n<=4)(hs:SlA N.A N.w pv 2 x.bL.length (Pt x.bL))
  (a8:x.bL.length<=1000000000) (hb:∀p∈x.bL,0<=p.1∧0<=p.2∧p.1+p.2<=1000000) (hn:(Cs.Cu x.bL).length<=100000) (hd:(Cs.Cu x.bL).length*Cs.wide x<=s.length) (u:s.length<=1000000000)
  (hk:∀y∈Cs.aC x s,y.kind<=2) (hc:Tl.check (Cs.aC x s)=0)
  (kt:∀E j W,N.le E->SlA E.A E.w j 4 (Cs.aC x s).length (GU (Cs.aC x s))->bT S w0 W (.mem E::L)->K j W):cR ah 31 #[stmV x pv,ae s] w PK K:=by
 obtain⟨xw,ps,q⟩:=x
 match xw,V with
|[a,b,c],V=>
 refine⟨AP ?_⟩;unfold kL iN dx ldx stx alx cx;refine afC _ V hs.one d λb2 w1 d=>?_;refine bK (λb=>af b 0) [ae s] 9 (λ_=>by kernel_rfl) d λb3 w2 d=>?_;refine bK (λb=>af b 0) [cI] 32 (λ_=>by kernel_rfl) d λG w3 d=>?_;refine bK (λb=>af b 0) [ad 0] 3 (λ_=>by kernel_rfl) d λf w4 d=>?_;refine aO 0 d rfl krx rfl sm λw5 d=>?_;rw[tZ];refine bK (λb=>af b 0) [.nilFunc] 83 (λ_=>by kernel_rfl) d λr w6 d=>?_;refine aO 0 d rfl krx rfl sm λw7 d=>?_;have d:bT S w0 w7 (Nr r b2 f b3::atE f 0::svE G cI::Lh b3 s::qY b2 ⟨[a,b,c],ps,q⟩ pv::.mem N::L):=d;have b0:FU ah 64=ay (GG ⟨[a,b,c],ps,q⟩ pv).length:=by rw[tS V];exact XV
 rw[EN (d.agg 4 rfl b0)];refine WA _ V hs.one d λbi w8 d=>?_;have d:=bT.nilU d 60 4;generalize I:(⟨[a,b,c],ps,q⟩:Stm)=x at *;obtain⟨b8,c0,c1⟩:(0<=a∧a<=4)∧(0<=b∧b<=4)∧(0<=c∧c<=4):=by
  subst I;exact⟨hw a sm,hw b sm,hw c sm⟩
 have b1:Cs.wide x=a.toNat+b.toNat+c.toNat:=by subst I;rfl
 have o:x.w=[a,b,c]:=by subst I;rfl
 have Y:∀k n,Cs.rowAt x s k n=⟨n,Cs.field s 0 (k*Cs.wide x) a,Cs.field s 1 (k*Cs.wide x+a.toNat) b,Cs.field s 2 (k*Cs.wide x+a.toNat+b.toNat) c⟩:=by subst I;intro k n;rfl
 have O:=Cs.Pu x s
 let P:Nat->aq->List Slt->List Ent:=λat_ j l=>[slsE j l,Nr r b2 f b3,atE f at_,svE G j,Lh b3 s,qY b2 x pv,.mem N]
 have d:bT S w0 w8 ((P 0 cI []++L)++[qY bi x pv]):=by
  refine d.perm ?_;show List.Perm (_::_::([Nr r b2 f b3,atE f 0,svE G cI,Lh b3 s,qY b2 x pv,.mem N]++L)) (_::(([Nr r b2 f b3,atE f 0,svE G cI,Lh b3 s,qY b2 x pv,.mem N]++L)++[_]));exact List.Perm.cons _ (aBw _ _).symm
 refine range d (show cW ah 103=aw by kernel_rfl) λL0 df H w9 d hy=>?_;refine UO x pv N bi (by rw[o];rfl) hs a8 hb S w0 w9 L0 H df (P 0 cI []++L) (λk M=>∃j,M=P (k*Cs.wide x) j ((Cs.aC x s).take k)++L) _ (λk M ⟨j,h⟩=>by subst h;simp[P]) d ⟨cI,by simp[P]⟩ ?_ ?_
 ·rintro k n M X W Z ⟨j,rfl⟩ d;have c2:k < (Cs.Cu x.bL).length:=(auV.1 Z).1;have c3:k*Cs.wide x+Cs.wide x<=s.length:=by
   have:=awC (Cs.wide x) (show k+1<=(Cs.Cu x.bL).length by omega);rw[awS] at this;omega
  have b4:(Cs.aC x s).take (k+1)=(Cs.aC x s).take k++[Cs.rowAt x s k n]:=by
   have h:=Cs.PM (s:=s) Z;obtain⟨h1,h2⟩:=auV.1 h;rw[avL h1,h2]
  have a1:((Cs.aC x s).take k).length<=1000000000:=by rw[auM];omega
  rw[awS,b4,Y];generalize (Cs.aC x s).take k=l at *;generalize c4:k*Cs.wide x=at_ at *;have i0:0 < x.w.length:=by rw[o];simp
  have i1:1 < x.w.length:=by rw[o];simp
  have i2:2 < x.w.length:=by rw[o];simp
  have g0:x.w[0]=a:=by simp[o]
  have g1:x.w[1]=b:=by simp[o]
  have g2:x.w[2]=c:=by simp[o]
  have z:x.w.length=3:=by rw[o];rfl
  have d:bT S w0 W (.obj H (lp L0 .ready ax)::.obj df (.deferred (ay []))::slsE j l::Nr r b2 f b3::atE f at_::svE G j::Lh b3 s::qY b2 x pv::.mem N::(L++X)):=d;have key:∀R:VWP,(∀W' Q,bT S w0 W' (CN L0 H df++((P (at_+Cs.wide x) Q (l++[⟨n,Cs.field s 0 at_ a,Cs.field s 1 (at_+a.toNat) b,Cs.field s 2 (at_+a.toNat+b.toNat) c⟩])++L)++X))->R (.bool aw) W')->Yld ah H [ad n] W R:=by
   intro R hR;refine hy _ W _ (d.at_ 0 rfl) rfl ?_;refine aqH 0 d rfl λW3 d=>?_;simp only[List.getD_cons_zero]
   let B:Nat->List Ent:=λat_=>.obj H (lp L0 .busy ax)::.obj df (.deferred (ay []))::slsE j l::Nr r b2 f b3::atE f at_::svE G j::Lh b3 s::qY b2 x pv::.mem N::(L++X)
   have d:bT S w0 W3 (B at_):=d;have d:=d.drew;have f0:∀{F W PK K},(F=[]∨∃e,F=[e])->bT S w0 W (F++B at_)->(∀W,bT S w0 W (F++B (at_+a.toNat))->K (ad (Cs.field s 0 at_ a)) W)->CVX ah (cloV b2 f b3) #[ad 0] W PK K:=by
    intro F W PK K hF d k;rw[<-g0] at k;refine agY D7 ?_;rcases hF with rfl|⟨e,rfl⟩
    ·exact G2 (i:=0) 7 6 4 d rfl rfl rfl dc z i0 (by rw[g0];omega) (by rw[g0];omega) u k
    ·exact G2 (i:=0) 8 7 5 d rfl rfl rfl dc z i0 (by rw[g0];omega) (by rw[g0];omega) u k
   have f1:∀{F W PK K},(F=[]∨∃e,F=[e])->bT S w0 W (F++B (at_+a.toNat))->(∀W,bT S w0 W (F++B (at_+a.toNat+b.toNat))->K (ad (Cs.field s 1 (at_+a.toNat) b)) W)->CVX ah (cloV b2 f b3) #[ad 1] W PK K:=by
    intro F W PK K hF d k;rw[<-g1] at k;refine agY D7 ?_;rcases hF with rfl|⟨e,rfl⟩
    ·exact G2 (i:=1) 7 6 4 d rfl rfl rfl dc z i1 (by rw[g1];omega) (by rw[g1];omega) u k
    ·exact G2 (i:=1) 8 7 5 d rfl rfl rfl dc z i1 (by rw[g1];omega) (by rw[g1];omega) u k
   have f2:∀{F W PK K},(F=[]∨∃e,F=[e])->bT S w0 W (F++B (at_+a.toNat+b.toNat))->(∀W,bT S w0 W (F++B (at_+Cs.wide x))->K (ad (Cs.field s 2 (at_+a.toNat+b.toNat) c)) W)->CVX ah (cloV b2 f b3) #[ad 2] W PK K:=by
    intro F W PK K hF d k;rw[b1,<-awU,<-awU] at k;rw[<-g2] at k;refine agY D7 ?_;rcases hF with rfl|⟨e,rfl⟩
    ·exact G2 (i:=2) 7 6 4 d rfl rfl rfl dc z i2 (by rw[g2];omega) (by rw[g2];omega) u k
    ·exact G2 (i:=2) 8 7 5 d rfl rfl rfl dc z i2 (by rw[g2];omega) (by rw[g2];omega) u k
   refine⟨λW=>(Nr r b2 f b3).is W,d.at_ 3 rfl,?_⟩;have ld:∀W,(Nr r b2 f b3).is W->(aH 83 (af r 0)).run ah W=.ok (.value (cloV b2 f b3)) W:=λW h=>aB aqK (aI (T:=83) h (i:=0) rfl);refine fS _ ld (fS _ ld (fS _ ld ?_));have out:∀{W C},bT S w0 W ([slE C ⟨n,Cs.field s 0 at_ a,Cs.field s 1 (at_+a.toNat) b,Cs.field s 2 (at_+a.toNat+b.toNat) c⟩]++B (at_+Cs.wide x))->cG (af G 0) (af C 0) H R W:=by
    intro W C d;unfold cG;rw[aJ nSls (d.cell 6 rfl 0 rfl),sl_v d 0 rfl];refine aoG 3 d rfl a1 λv' W2 d=>?_;have h1:v'.oneCell'=true:=(bX (d.at_ 3 rfl));refine aO 6 d rfl krx h1 sm λW3 d=>?_;refine asL 1 d rfl λJ d=>hR J v' d.tail
   have st:∀{W C} {PK:PKT},bT S w0 W ([slE C sl0]++B (at_+Cs.wide x))->HDo ah (λ_=>True) (aV 60 #[(0,ad n),(1,ad (Cs.field s 0 at_ a)),(2,ad (Cs.field s 1 (at_+a.toNat) b)),(3,ad (Cs.field s 2 (at_+a.toNat+b.toNat) c))]) λt=>DoX ah (aN 60 (af C 0) t) W PK λ_ w=>cG (af G 0) (af C 0) H R w:=by
    intro W C PK d;exact aP _ (λ_=>apF) (Hr 0 d rfl λW2 d=>out d)
   have m:∀{W e at_},bT S w0 W ([e]++B at_)->(Nr r b2 f b3).is W:=λd=>d.at_ 4 rfl;have U:∀{W at_},bT S w0 W ([]++B at_)->(Nr r b2 f b3).is W:=λd=>d.at_ 3 rfl;have d:bT S w0 _ ([]++B at_):=d;refine⟨f0 (.inl rfl) d λJ d=>⟨U d,f1 (.inl rfl) d λW5 d=>⟨U d,f2 (.inl rfl) d λW6 d=>⟨U d,?_⟩,?_⟩,?_⟩,?_⟩
   ·exact aP _ (λ_=>apF) (Lw d λC W7 d=>⟨m d,Hr 0 d rfl λW8 d=>out d⟩)
   ·exact Lw d λC W6 d=>⟨m d,f2 (.inr ⟨_,rfl⟩) d λW7 d=>⟨m d,st d⟩⟩
   ·exact Lw d λC W5 d=>⟨m d,f1 (.inr ⟨_,rfl⟩) d λW6 d=>⟨m d,f2 (.inr ⟨_,rfl⟩) d λW7 d=>⟨m d,st d⟩⟩⟩
   ·exact Lw d λC J d=>⟨m d,f0 (.inr ⟨_,rfl⟩) d λW5 d=>⟨m d,f1 (.inr ⟨_,rfl⟩) d λW6 d=>⟨m d,f2 (.inr ⟨_,rfl⟩) d λW7 d=>⟨m d,st d⟩⟩⟩⟩
  exact key _ λW' Q d=>.inl ⟨rfl,_,⟨Q,rfl⟩,d⟩
 ·rintro M X W ⟨j,rfl⟩ d;refine⟨_,.ready,ax,_,rfl,(by intro h;cases h),d.at_ 0 rfl,auI.2 (.inl rfl),?_⟩;have hp:bT S w0 (NR W H (lp L0 .exhausted ax)) (.obj H (lp L0 .exhausted ax)::.obj df (.deferred (ay []))::((P ((Cs.Cu x.bL).length*Cs.wide x) j ((Cs.aC x s).take (Cs.Cu x.bL).length)++L)++X)):=Jl (o':=lp L0 .exhausted ax) d 0 rfl;rw[<-O,awD] at hp;have d:=hp.tail.swap;obtain⟨E,hle,D,d⟩:=bT.bG (L:=.obj df (.deferred (ay []))::Nr r b2 f b3::atE f ((Cs.aC x s).length*Cs.wide x)::svE G j::Lh b3 s::qY b2 x pv::.mem N::(L++X)) d 6 rfl;have D:SlA E.A E.w j 4 (Cs.aC x s).length (GU (Cs.aC x s)):=D;have d:bT S w0 _ (.obj df (.deferred (ay []))::Nr r b2 f b3::atE f ((Cs.aC x s).length*Cs.wide x)::svE G j::Lh b3 s::qY b2 x pv::.mem E::(L++X)):=d;generalize NR W H (lp L0 .exhausted ax)=W1 at d;rw[aJ nSls (d.cell 3 rfl 0 rfl),aZ axA (D.now (d.hasM 6 rfl))];refine loop (λvs W=>∃(i:Nat),vs=[ad (i:Int)]∧i<=(Cs.aC x s).length∧bT S w0 W (.obj df (.deferred (ay []))::Nr r b2 f b3::atE f ((Cs.aC x s).length*Cs.wide x)::svE G j::Lh b3 s::qY b2 x pv::.mem E::(L++X))) (λvs _=>(Cs.aC x s).length - n0 vs) ⟨0,rfl,om,d⟩ ?_;clear d hp;rintro vs W2 ⟨i,rfl,hi,d⟩ _;simp only[oB,gd,rs,iN];by_cases a6:(i:Int) < ((Cs.aC x s).length:Int)
  ·simp only[auG a6,i_t];have a7:i < (Cs.aC x s).length:=om
   obtain⟨g,off,hr⟩:=jQ D a7;obtain⟨r1,r2⟩:=hr W2 (d.hasM 6 rfl);refine aD r1 |>.mpr (aD (Bt r2) |>.mpr ?_);refine Lw d λC W3 d=>?_;refine Hr (y:=(Cs.aC x s)[i]) 0 d rfl λJ d=>?_;rw[Ia,aJ aU (d.cell 0 rfl 1 rfl)];simp only[rs];refine mG (λ_=>?_) λh=>absurd (hk _ (auS a7)) (avT h)
   try simp only[rs]
   rw[aA om om];exact⟨rfl,bC ⟨i+1,rfl,om,d.tail⟩ (by simp[n0,RowKit.intOf];omega)⟩
  simp only[auD a6,i_f];rw[aJ nSls (d.cell 3 rfl 0 rfl)];refine aK d (R:=λv=>v=ad (Tl.check (Cs.aC x s))) (MC (Cs.aC x s) j E W2 om (d.hasM 6 rfl) D) ?_;rintro _ W3 rfl d;rw[hc];simp only[rs];refine mG (λ_=>?_) λh=>(by cases h);rw[aJ nSls (d.cell 3 rfl 0 rfl)];refine amD 0 d rfl λJ d=>?_;show He K PK (.returned j) J;refine kt E j J hle D ?_;have d:bT S w0 J (.obj df (.deferred ax)::Nr r b2 f b3::atE f ((Cs.aC x s).length*Cs.wide x)::svE G j::Lh b3 s::qY b2 x pv::.mem E::(L++X)):=d;exact d.sub (.cons _ (.cons _ (.cons _ (.cons _ (.cons _ (.cons _ (.cons_cons _ (List.sublist_append_left _ _))))))))
end
end
section
open Eng
def qH(a w)(K:KT):=
 stx 35 a (iN 20) w K λ_ w=>K (.returned (.tuple #[])) w
def iL(b r w)(K:KT):=
 eqx .neq 20 (.tmp 5) (.const .nilIface) r .nilIface w K λc w=>IfX c (Fq (λh=>dx (mTA r 20 100 aw) w K λa w=>exx a 0 w K λd w=>exx a 1 w K λe w=>alx 100 w K λf w=>stx 100 f d w K λ_ w=>dx (mUn .not e) w K λg w=>IfX g (dx (H6 r) w K λ_ w=>h [] w) (h [] w)) (λi w=>∀_:Sg,qH b w K)) (K (.returned (.tuple #[])) w)
theorem Cg (t0 r:aq)(w:ao)(K:Ending->ao->Prop):wpX ah 15 [(5,[])] [] ax (aaV (CX f61)) (topD ah [] K) (upd (upd (mP [t0]) 4 r) 1 r) [] w=iL t0 r w K:=krx
theorem mR (h:iL t0 (Ax u) w (λe w=>R e (CK u) w)):CallsD ah 61 #[t0] u w R:=
 Bb func61 rfl rfl rfl rfl rfl rfl rfl rfl rfl rfl rfl rfl (Eq.mpr (Cg t0 (Ax u) w _) h)
end
section
open Eng Go.RowKit
theorem F3:cW ah 61=true:=krx
abbrev eeE (b:Nat)(e:Int):Ent:=.cells b [ad e] 35
section
variable {w:ao}{PK:PKT}{K:VWP}{S:Nat->Prop}{w0:ao}{L:List Ent}
theorem SR {d:Array aq}{T F:List Ent->Prop}(hp:cW ah f=aw)(a:bT S w0 w L)
  (h:∀b W,bT S w0 W (eeE b 0::L)->∀(K':VWP) (e:PKT),(∀v c L',T L'->bT S w0 c (eeE b 0::L')->K' v c)->(∀c L',F L'->bT S w0 c (eeE b 0::L')->e [upC] c)->cR ah f (#[]++#[]++d) W e K')
  (g:∀c L',T L'->bT S w0 c L'->K (ad 0) c) (i:∀c L',F L'->bT S w0 c L'->K (ad 20) c) :
  cR ah 27 #[.func (.func f) #[] d] w PK K:=by
 refine⟨GK ?_⟩;unfold DX iN dx alx;refine bK (λb=>af b 0) [ad 0] 35 (λ_=>by kernel_rfl) a λb2 w2 a=>?_;rw[tZ];refine⟨_,rfl,?_⟩;refine LB hp ?_;refine h b2 w2 a _ _ (λv W L' j a=>?_) λW L' k a=>?_
 ·refine aO 0 a rfl krx rfl sm λm a=>?_;refine qR sm F3 (mR ?_);simp only[iL,Ax,CK,Eng.ajI azE,rs,i_f,dx,exx,stx,eqx,alx];refine EZ JB (a.cell 0 rfl 0 rfl) ?_;exact g _ _ j a.tail
 ·simp only[nF,pd];refine qR sm F3 (mR ?_);simp only[iL,Ax,CK,upC,Eng.adM azE,rs,i_t,dx,exx,stx,eqx,alx];refine join λJ l=>?_;simp only[Z1 amR,vY (show [Value.agg #[],Value.bool aw][1]?=ay (Value.bool aw) from rfl),vY (show [Value.agg #[],Value.bool aw][0]?=ay (Value.agg #[]) from rfl)];refine bK (λb=>af b 0) [] 100 (λ_=>by kernel_rfl) a λn o a=>?_;refine jH 0 a rfl (new:=[]) (show (Tryz.prog.info? 100).map (·.size)=ay 0 by kernel_rfl) sm rfl λp a=>?_;simp only[rs,awA,i_f];refine l _ _ λ_=>?_;unfold qH iN stx;refine aO 1 a rfl krx rfl sm λq a=>?_;refine EZ JB (a.cell 1 rfl 0 rfl) ?_;exact i _ _ k a.tail.tail
end
end
section
open Eng
def H7(t0 w)(K:KT):=nz f26 1 [] [] [] (zg [0] [t0]) w K
theorem JX:H7 t0 w k0->Calls ah 26 #[t0] w k0:=cw func26
end
section
open Go
namespace Bd
def check (i:It):Int:=if Dk.numbers i=au then 2 else if Vl.check 1 i.obj≠0 then Vl.check 1 i.obj else if i.obj.k=8 then 10 else 0
end Bd
end
section
open Eng Go.RowKit
theorem UM (i:It)(w:ao)(hw:i.obj.wt<=100000000000)(l:OV (InW w) w (obV i.obj vk vc) i.obj):Ret ah 26 #[itV i vk vc] w (λv w'=>v=ad (Bd.check i)∧Below w.heap.size w w'):=by
 refine aX λK f=>JX ?_;unfold H7 nz;refine agX i l.oneK l.oneC (Own.start w) λb m a=>?_;have out:Dk.numbers i=au->K (.returned (ad 2)) m:=λh=>f _ _ ⟨by rw[Bd.check,auC h],a.done⟩;have o:Dk.numbers i=aw↔1<=i.num∧i.num<=8191∧0<=i.gen∧i.gen<=65535:=by
  simp only[Dk.numbers,auY,avK];omega
 have outs:¬(1<=i.num∧i.num<=8191∧0<=i.gen∧i.gen<=65535)->K (.returned (ad 2)) m:=λh=>out (by
  cases q:Dk.numbers i with
 |true=>exact absurd (o.1 q) h
 |false=>rfl)
 by_cases d:i.num < 1
 ·simp only[rs,F2,uW a 0 rfl,auG d,oG];exact outs om
 by_cases g:i.num>8191
 ·simp only[rs,F2,uW a 0 rfl,auD d,auG g,oG];exact outs om
 by_cases n:i.gen < 0
 ·simp only[rs,F2,NF,uW a 0 rfl,E5 a 0 rfl,auD d,auD g,auG n,oG];exact outs om
 by_cases p:i.gen>65535
 ·simp only[rs,F2,NF,uW a 0 rfl,E5 a 0 rfl,auD d,auD g,auD n,auG p,oG];exact outs om
 simp only[rs,F2,NF,uW a 0 rfl,E5 a 0 rfl,auD d,auD g,auD n,auD p,oG,IV,Jo a 0 rfl];have c:Dk.numbers i=true:=o.2 om;obtain⟨cs,r⟩:=l.slices;refine tQ (lB i.obj _ m (r.in_ a).ov om) rfl a λw2 a=>?_;rw[eC];by_cases e:Vl.check 1 i.obj=0
 case neg=>
  simp only[auG (show Vl.check 1 i.obj≠0 from e),i_t];exact f _ _ ⟨by rw[Bd.check,auB (by simp[c]),auC e],a.done⟩
 simp only[e,show ai ((0:Int)≠0)=au by decide,i_f,IV,eG,it_k a 0 rfl,rs];by_cases j:i.obj.k=8
 ·simp only[auG j,i_t];exact f _ _ ⟨by rw[Bd.check,auB (by simp[c]),auB (by simp[e]),auC j],a.done⟩
 ·simp only[auD j,i_f];exact f _ _ ⟨by rw[Bd.check,auB (by simp[c]),auB (by simp[e]),auB j],a.done⟩
namespace Cs
def T5 (x:Stm)(s:List UInt8):Prop:=
 (x.w.length=3∧∀n∈x.w,0<=n∧n<=4)∧(x.bL.length<=1000000000∧∀p∈x.bL,0<=p.1∧0<=p.2∧p.1+p.2<=1000000) ∧
 ((Cu x.bL).length<=100000∧(Cu x.bL).length*wide x<=s.length∧s.length<=1000000000)∧(∀y∈aC x s,y.kind<=2)∧Tl.check (aC x s)=0
def read (i:It)(a:Int):Sec×Int:=
 if a < 0 then (Tl.Gw,1) else if Bd.check i≠0 then (Tl.Gw,Bd.check i) else match keys i.obj with
 |none=>(Tl.Gw,20)
 |some x=>if (Ff.decode i.obj).2≠0 then (Tl.Gw,(Ff.decode i.obj).2)
   else (⟨a,aC x (Ff.decode i.obj).1,.mk 7 i.obj.n i.obj.g [] i.obj.keys i.obj.kids,x.prev,-1,i.num⟩,0)
theorem alR {x:Stm}(h:keys o=ay x):x.w.length=3:=by
 unfold keys at h;split at h
 ·rename_i c
  cases a:yR o with
 |none=>rw[a] at h;cases h
 |some p=>
   cases b:Ib o with
  |none=>rw[a,b] at h;cases h
  |some q=>
    rw[a,b] at h;have:=axN h;rw[<-this];show ((got o kW).kids.map Ob.n).length=3;rw[avJ];exact c.2.2.2.2.1
 ·cases h
end Cs
theorem R6:cW ah 28=true:=krx
theorem RE:cW ah 30=true:=krx
theorem aqV {p n:Int}{l:List Slt}{b a2 a3:Option Addr}{n1 c n2 d n3 c3:Nat}:DoX ah (aV 34 #[(0,ad a),(1,.slice b n1 c),(2,obV o (.slice a2 n2 d) (.slice a3 n3 c3)),(3,ad p),(4,ad (-1)),(5,ad n)]) W PK K=K (Jq ⟨a,l,o,p,-1,n⟩ (.slice b n1 c) (.slice a2 n2 d) (.slice a3 n3 c3)) W:=aD krx
theorem JF (i:It)(a:Int){p q:aq}(M:Mem)(w:ao)(a6:Rp M)(a7:Od M)(a8:Pws M)(hw:i.obj.wt<=1000000000)(hM:M.has w)(I:OV M.A M.w (obV i.obj p q) i.obj)
  (b0:∀n∈(Ff.of i.obj).1,Ff.full n=Ff.nFl)
  (k:∀x,0<=a->Bd.check i=0->Cs.keys i.obj=ay x->(Ff.decode i.obj).2=0->Cs.T5 x (Ff.decode i.obj).1) :
  jR ah 8 #[itV i p q,ad a] M w (λr N=>∃sv,r=.tuple #[sv,ad (Cs.read i a).2]∧SecV N sv (Cs.read i a).1):=by
 refine bB hM λK hK=>Jr ?_;unfold H4 nz;refine agX i I.oneK I.oneC (bT.memS hM) λb2 w1 c=>?_;refine V9 c λm w2 c=>?_;have E:∀N:Mem,SecV N (Jq Tl.Gw cI cI cI) Tl.Gw:=λN=>⟨cI,cI,cI,rfl,SlA.nil _ _ _ _,nW N⟩;have no:∀{W:ao} {N:Mem} {L:List Ent} {e:Int} (j:Nat),bT M.A w W L->L[j]?=ay (jN m Tl.Gw cI cI cI)->(∃Q,L[Q]?=ay (.mem N)∧Q≠j)->M.le N->Cs.read i a=(Tl.Gw,e)->DoX ah (aV 34 #[]) W (pk K) (λt W=>DoX ah (aN 34 (af m 0) t) W (pk K) λ_ W=>Bw ah [.cell (af m 0) 34,.val (ad e)] W K):=by
  intro W N L e j c hj ⟨Q,b1,b3⟩ hle he;rw[asZ];refine My (y:=Tl.Gw) j rfl rfl rfl c hj λw4 c=>?_;have b5:=(auV.1 hj).1;refine zH (bJ (c.agg j (axR b5) TJ)) Ae (hK _ _ N _ Q c (by rw[azU (Ne.symm b3)];exact b1) hle ⟨_,by rw[he],by rw[he];exact E N⟩)
 have d:=Cs.read.eq_1 i a;simp only[rs];by_cases S:a < 0
 ·rw[auC S] at d;simp only[auG S,i_t];exact no 0 c rfl ⟨2,rfl,dc⟩ M.le_refl d
 rw[auB S] at d;simp only[auD S,i_f];rw[EN (c.agg 1 rfl Q3)];refine aK c (R:=λv=>v=ad (Bd.check i)) (UM i w2 om (OV.inw (c.hasM 2 rfl) I)) ?_;rintro _ w3 rfl c;simp only[eC];by_cases O:Bd.check i=0
 case neg=>
  rw[auC O] at d;simp only[auG (show Bd.check i≠0 from O),i_t];exact no 0 c rfl ⟨2,rfl,dc⟩ M.le_refl d
 rw[auB (λh=>h O)] at d;simp only[O,show ai ((0:Int)≠0)=au from rfl,i_f];refine WU c λu w4 c=>?_
 try rw[tZ]
 have c:bT M.A w w4 [qY u LA cI,jN m Tl.Gw cI cI cI,itE b2 i p q,.mem M]:=c;refine SR (T:=λL=>∃x N pv,Cs.keys i.obj=ay x∧M.le N∧SlA N.A N.w pv 2 x.bL.length (Pt x.bL)∧L=[qY u x pv,jN m Tl.Gw cI cI cI,itE b2 i p q,.mem N])
  (F:=λL=>Cs.keys i.obj=ax∧∃N,M.le N∧L=[qY u LA cI,jN m Tl.Gw cI cI cI,itE b2 i p q,.mem N]) R6 c (λbe W c K' G kT kF=>?_) ?_ ?_
 ·show cR ah 28 #[af b2 0,af u 0] W G K';refine⟨Ev ?_⟩;unfold Aj nz;rw[IV,Jo c 3 rfl];have c:bT M.A w W ([eeE be 0,qY u LA cI,jN m Tl.Gw cI cI cI,itE b2 i p q]++([.mem M]++[])):=c;have bk:∀{W N e1 e2 e3 e4},bT M.A w W (.mem N::[e1,e2,e3,e4])->bT M.A w W [e1,e2,e3,e4,.mem N]:=λc=>c.perm (aBw _ _).symm;refine apC c.front hw I (λx B N pv W2 hle U c=>?_) λB N W2 hle c=>kF W2 _ ⟨B,N,hle,rfl⟩ (bk c);have c:=bk c;refine RN 1 (Cs.alR B) U.one rfl c rfl λw6 c=>?_;exact kT _ _ _ ⟨x,N,pv,B,hle,U,rfl⟩ c
 rotate_left
 ·rintro W _ ⟨B,N,hle,rfl⟩ c;rw[B] at d;simp only[eC,show ai ((20:Int)≠0)=aw from rfl,i_t];exact no 1 c rfl ⟨3,rfl,dc⟩ hle d
 rintro W _ ⟨x,N,pv,B,hle,U,rfl⟩ c;rw[B] at d;dsimp only at d;simp only[eC,show ai ((0:Int)≠0)=au from rfl,i_f];rw[IV,Jo c 2 rfl];refine bH c 3 rfl (ML i.obj (λx _=>pdR x) (λn h x=>aeN (b0 n h)) _ N W (a6.le hle) (a7.le hle) (a8.le hle) hw (c.hasM 3 rfl) (I.le hle)) ?_;rintro _ V W2 X rfl c;have k:=k x om O B;generalize Ff.decode i.obj=D at *;obtain⟨s,e⟩:=D;dsimp only at d k;simp only[zlT,ex];refine bK (λb=>af b 0) [.string ⟨#[]⟩] 9 (λ_=>by kernel_rfl) c λH w7 c=>?_;refine aO 0 c rfl krx rfl sm λw8 c=>?_;have c:bT M.A w w8 [Lh H s,qY u x pv,jN m Tl.Gw cI cI cI,itE b2 i p q,.mem V]:=c;simp only[eC];by_cases he:e=0
 case neg=>
  rw[auC he] at d;simp only[auG (show e≠0 from he),i_t];exact no 2 c rfl ⟨4,rfl,dc⟩ (hle.trans X) d
 rw[auB (λh=>h he)] at d;simp only[auD (show ¬e≠0 fromλh=>h he),i_f];obtain⟨⟨r1,r2⟩,⟨r3,r4⟩,⟨r5,r6,r7⟩,r8,r9⟩:=k he;refine bK (λb=>af b 0) [cI] 32 (λ_=>by kernel_rfl) c λo w9 c=>?_
 try rw[tZ]
 have c:bT M.A w w9 [svE o cI,Lh H s,qY u x pv,jN m Tl.Gw cI cI cI,itE b2 i p q,.mem V]:=c;refine SR (T:=λL=>∃C J,V.le C∧SlA C.A C.w J 4 (Cs.aC x s).length (GU (Cs.aC x s))∧L=[svE o J,Lh H s,qY u x pv,jN m Tl.Gw cI cI cI,itE b2 i p q,.mem C])
  (F:=λ_=>False) RE c (λbe W c K' G kT kF=>?_) ?_ λ_ _ h=>h.elim
 ·show cR ah 30 #[af u 0,af H 0,af o 0] W G K';refine⟨Ew ?_⟩;unfold zZ nz;have b6:FU ah 64=ay (GG x pv).length:=by rw[tS r1];exact XV
  rw[EN (c.agg 3 rfl b6),aJ Gh (c.cell 2 rfl 0 rfl)];have c:bT M.A w W ([eeE be 0,svE o cI,Lh H s,qY u x pv,jN m Tl.Gw cI cI cI,itE b2 i p q]++([.mem V]++[])):=c;refine aoS c.front r1 r2 (U.le X) r3 r4 r5 r6 r7 r8 r9 λC J W3 Y z c=>?_;have c:bT M.A w W3 (.mem C::[eeE be 0,svE o cI,Lh H s,qY u x pv,jN m Tl.Gw cI cI cI,itE b2 i p q]):=c;have c:=c.perm (aBw (Ent.mem C) _).symm;refine aO 1 c rfl krx z.one sm λw6 c=>?_;exact kT _ _ _ ⟨C,J,Y,z,rfl⟩ c
 rintro W3 _ ⟨N3,J,Y,z,rfl⟩ c;simp only[eC,show ai ((0:Int)≠0)=au from rfl,i_f];rw[IV,Jo c 4 rfl];refine bH c 5 rfl (wJ i.obj _ N3 W3 om (c.hasM 5 rfl) (((I.le hle).le X).le Y)) ?_;intro tv Z W4 l4 ht c;obtain⟨tk,tc,b8,rfl,f⟩:=ht.open;refine dJ c λc0 c5 c=>?_;refine aT 0 f.keys.one f.kids.one c rfl λc6 c=>?_;rw[eG];refine aO 0 c rfl krx rfl (by simp[obC]) λc7 c=>?_;rw[El];refine aO 0 c rfl krx rfl (by simp[obC]) λc4 c=>?_;have c:bT M.A w c4 [obE c0 (.mk 7 i.obj.n i.obj.g [] i.obj.keys i.obj.kids) tk tc,svE o J,Lh H s,qY u x pv,jN m Tl.Gw cI cI cI,itE b2 i p q,.mem Z]:=c;have P:OV Z.A Z.w (obV (.mk 7 i.obj.n i.obj.g [] i.obj.keys i.obj.kids) tk tc) (.mk 7 i.obj.n i.obj.g [] i.obj.keys i.obj.kids):=tE.ov (cs:=b8) ⟨f.keys,f.kids,f.all⟩;rw[aJ nSls (c.cell 1 rfl 0 rfl),jL c 0 rfl,adQ,aJ aU (c.cell 3 rfl 4 ((V1 r1).2.1)),F2,uW c 5 rfl];obtain⟨q1,c1,rfl,_⟩:=z.form;obtain⟨q2,c2,rfl,_⟩:=f.keys.form;obtain⟨q3,c3,rfl,_⟩:=f.kids.form;rw[aqV (l:=Cs.aC x s)];refine My (y:=⟨a,Cs.aC x s,.mk 7 i.obj.n i.obj.g [] i.obj.keys i.obj.kids,x.prev,-1,i.num⟩) 4 rfl rfl rfl c rfl λc8 c=>?_;refine zH (bJ (c.agg 4 rfl TJ)) Ae (hK _ _ Z _ 6 c rfl (((hle.trans X).trans Y).trans l4) ⟨_,by rw[d],?_⟩);rw[d];exact⟨_,_,_,rfl,z.le l4,P⟩
end
end Go.Proofs.YtlgndjkieegnaaaGreatDoor
