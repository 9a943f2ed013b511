/- Texts that go together: CsL CsM CsN SCrossR CsO SBody Plain08K BoChk CsP Plain20D Plain20E Plain20F Plain20G Plain20H CsR Plain20I CsU TbOp LayR SLaw16 FeL FeM FeO FeN CsUw. -/
import Derived.Test.YtlipjfcbjemicaaGreatDoorRows
import Derived.Test.YtlipjfcbjemicaaGreatDoorMlinfoank
set_option linter.defProp false
set_option linter.unusedSimpArgs false
set_option linter.unusedVariables false
set_option maxRecDepth 20000
open Go.Proofs.Tryz
open Go.Proofs.Tryz renaming prog->ah
open Option renaming some->ax,none->aw
open Bool renaming true->av,false->au
open Go renaming Value->aq,World->ao
open Decidable renaming decide->ai
namespace Go.Proofs.YtlipjfcbjemicaaGreatDoor
variable{K:VWP}{N:Eng.Mem}{PK:PKT}{R:Ending->FrameMode->ao->Prop}{W w:ao}{a:Int}{args ca fa:Array aq}{cs:List aq}{f i j m:Nat}{key:List UInt8}{o:Ob}{pv t0 v vc vk:aq}{u:FrameMode}{t0:aq}{k0:Eng.KT}
section
open Eng Go.RowKit
namespace Cs
def run1 (p:Int×Int):List Int:=(List.range p.2.toNat).map λk=>p.1+(k:Nat)
def nums (l:List (Int×Int)):List Int:=l.flatMap run1
theorem OH (p:Int×Int):(run1 p).length=p.2.toNat:=by simp[run1]
theorem RE {l:List (Int×Int)}(hi:i < l.length):nums l=nums (l.take i)++(run1 l[i]++nums (l.drop (i+1))):=by
 unfold nums;rw[show run1 l[i]++(l.drop (i+1)).flatMap run1=(l[i]::l.drop (i+1)).flatMap run1 from rfl,<-anB hi,<-aoQ,amX]
theorem Vz {l:List (Int×Int)}(hi:i < l.length)(a:j < l[i].2.toNat):(nums l)[(nums (l.take i)).length+j]?=ax (l[i].1+(j:Nat)):=by
 rw[RE hi,aoB om,aqW,anV (by rw[OH];exact a)];unfold run1;rw[apP,List.getElem?_range a];rfl
theorem Sm {l:List (Int×Int)}(hi:i < l.length):(nums (l.take (i+1))).length=(nums (l.take i)).length+l[i].2.toNat:=by
 rw[amO hi];unfold nums;rw[aoQ,alI,apQ,OH]
def be (l:List UInt8):Nat:=l.foldl (λv c=>v*256+c.toNat) 0
theorem TP (l:List UInt8)(c:UInt8):be (l++[c])=be l*256+c.toNat:=by unfold be;rw[asI];rfl
theorem adR:∀(n:Nat) (l:List UInt8),l.length=n->be l < 256 ^ n
|0,l,h=>by rw[aqB h];decide
|n+1,l,h=>by
  have a:l≠[]:=by intro b;rw[b] at h;cases h
  rw[<-asY a,TP];have:=adR n l.dropLast (by rw[auA];omega);have c:=(l.getLast a).toNat_lt;rw[anL];have d:(2:Nat) ^ 8=256:=rfl;omega
def fld (s:List UInt8)(at_:Nat)(n:Int):Int:=(be ((s.drop at_).take n.toNat):Nat)
def field (s:List UInt8)(i at_:Nat)(n:Int):Int:=if n=0∧i=0 then 1 else fld s at_ n
end Cs
theorem orW8 {v c:Nat}(a:v < 256 ^ 4)(b:c < 256):bOr .i64 ((v*2 ^ 8:Nat):Int) (c:Int)=((v*2 ^ 8+c:Nat):Int):=by
 have a:v < 4294967296:=a;have h:v*2 ^ 8 ||| c=v*2 ^ 8+c:=by rw[aoD];exact (asT (i:=8) b v).symm
 unfold bOr;rw[BitVec.toNat_or];simp only[BitVec.ofInt_natCast,BitVec.toNat_ofNat];rw[anD (show v*2 ^ 8 < 2 ^ IntKind.i64.bits by show _ < 18446744073709551616;omega),anD (show c < 2 ^ IntKind.i64.bits by show _ < 18446744073709551616;omega),h];exact aA om om
section
variable {w:ao}{PK:PKT}{K:VWP}{S:Nat->Prop}{w0:ao}{L:List Ent}
theorem D6 {x:Stm}{s:List UInt8}{b2 b3 b:Nat}{at_:Nat}(i2 i3 i6:Nat)(a:OwnS S w0 w L)(u:L[i2]?=ax (stmE b2 x pv))(t:L[i3]?=ax (strE b3 s))(o:L[i6]?=ax (.cells b [.int .i64 (at_:Nat)] 3))
  (n3:i3≠i6) (v:x.w.length=3) (hi:i < x.w.length) (hw:0<=x.w[i]∧x.w[i]<=4) (y:at_+x.w[i].toNat<=s.length) (D:s.length<=1000000000)
  (k:∀W,OwnS S w0 W (L.set i6 (.cells b [.int .i64 ((at_+x.w[i].toNat:Nat):Int)] 3))->K (.int .i64 (Cs.field s i at_ x.w[i])) W) :
  CallX ah 161 #[.int .i64 (i:Int),.pointer (ax ⟨b2,0,aw⟩),.pointer (ax ⟨b,0,aw⟩),.pointer (ax ⟨b3,0,aw⟩)] w PK K:=by
 have z:i6 < L.length:=(alY.1 o).1;refine⟨pC ?_⟩;unfold jU nz;rw[Yp];refine aD (WJ om) |>.mpr ?_;rw[aJ aU (a.cell i2 u (0+i) ((by rw[alU];exact (SZ v).2.2 i hi)))];simp only[rs];have rest:Cs.field s i at_ x.w[i]=Cs.fld s at_ x.w[i]->DoX ah (aH 3 (.pointer (ax ⟨b,0,aw⟩))) w (pk (Cont K PK)) (λt18 w=>
   DoX ah (mBin .add 3 t18 (.int .i64 x.w[i])) w (pk (Cont K PK)) λt20 w=>
   DoX ah (aH 9 (.pointer (ax ⟨b3,0,aw⟩))) w (pk (Cont K PK)) λt21 w=>
   DoX ah (mB .len #[9] 3 #[au] #[t21]) w (pk (Cont K PK)) λt22 w=>
   DoX ah (mBin .leq 3 t20 t22) w (pk (Cont K PK)) λt23 w=>
   CallX ah 157 #[t23] w (pk (Cont K PK)) λt24 w=>
   LoopX [(.int .i64 0),(.int .i64 0)] w (λd w N1=>∀_:Sg,eY (.pointer (ax ⟨b,0,aw⟩)) (.pointer (ax ⟨b3,0,aw⟩)) (d.getD 0 undef) (.int .i64 x.w[i]) (d.getD 1 undef) w N1 (Cont K PK))):=by
  intro he;rw[he] at k;generalize x.w[i]=n at *;obtain⟨n,rfl⟩:∃m:Nat,n=(m:Int):=⟨n.toNat,om⟩;rw[alQ] at y k;rw[aJ aU (a.cell i6 o 0 rfl)];simp only[rs];rw[aA om om,aJ Kc (a.cell i3 t 0 rfl)];simp only[rs,iJ alV];refine kC (λ_=>?_) λh=>absurd (show (at_:Int)+n<=(s.length:Int) by omega) (amR h);refine loop (λvs W=>∃(j:Nat),vs=[.int .i64 ((Cs.be ((s.drop at_).take j):Nat):Int),.int .i64 (j:Int)]∧j<=n∧OwnS S w0 W (L.set i6 (.cells b [.int .i64 ((at_+j:Nat):Int)] 3))) (λvs _=>n - n1 vs) ⟨0,rfl,om,by rw[anF,tH o];exact a⟩ ?_;clear a;rintro vs A ⟨j,rfl,E,a⟩ _;simp only[eY,gd,rs,nz];by_cases f:(j:Int) < (n:Int)
  case neg=>
   simp only[alJ f,i_f];have:j=n:=om
   subst this;have:=k A a;unfold Cs.fld at this;rw[alQ] at this;exact this
  simp only[alM f,i_t];have p:at_+j < s.length:=om
  have q:=Cs.adR j ((s.drop at_).take j) (by rw[alR,alW];omega);have g:Cs.be ((s.drop at_).take j) < 256 ^ 4:=aoN q (anN dc om);have B:Cs.be ((s.drop at_).take j) < 4294967296:=g;have C:=s[at_+j].toNat_lt;rw[Fc dc,show (2:Int) ^ min (8:Int).toNat IntKind.i64.bits=2 ^ 8 from rfl,aA om om];have r:(L.set i6 (Ent.cells b [.int .i64 ((at_+j:Nat):Int)] 3))[i6]?=ax (.cells b [.int .i64 ((at_+j:Nat):Int)] 3):=aoS z;have c3:(L.set i6 (Ent.cells b [.int .i64 ((at_+j:Nat):Int)] 3))[i3]?=ax (strE b3 s):=by rw[aqO (Ne.symm n3)];exact t
  rw[aJ Kc (a.cell i3 c3 0 rfl),aJ aU (a.cell i6 r 0 rfl),s_ix (c:=s[at_+j]) alV om (by rw[alQ];exact alT p),u8ix,b_or,show ((Cs.be ((s.drop at_).take j):Nat):Int)*2 ^ 8=((Cs.be ((s.drop at_).take j)*2 ^ 8:Nat):Int) by omega,orW8 g C,aJ aU (a.cell i6 r 0 rfl)];simp only[rs];rw[aA om om];refine aK i6 a r krx rfl sm λw2 a=>?_;rw[aqN] at a
  try simp only[rs]
  rw[aA om om];refine aY ⟨j+1,?_,om,?_⟩ (by simp[n1,RowKit.intOf];omega)
  ·have e:(s.drop at_).take (j+1)=(s.drop at_).take j++[s[at_+j]]:=by
    rw[amO (by rw[alW];omega),List.getElem_drop]
   rw[e,Cs.TP];rfl
  ·exact a
 by_cases l:x.w[i]=0
 case neg=>
  simp only[alJ l,rs,g_un,i_f];exact rest (by unfold Cs.field;rw[alG (λh=>l h.1)])
 simp only[alM l,rs];by_cases a2:i=0
 case neg=>
  simp only[alJ (show ¬(i:Int)=0 by omega),rs,i_f];exact rest (by unfold Cs.field;rw[alG (λh=>a2 h.2)])
 simp only[alM (show (i:Int)=0 by omega),rs,i_t];have e:Cs.field s i at_ x.w[i]=1:=by unfold Cs.field;rw[alH ⟨l,a2⟩]
 rw[e] at k;refine k w ?_;rw[l];rw[show at_+(0:Int).toNat=at_ from rfl,tH o];exact a
end
end
section
open Eng Go.RowKit
theorem Q5 (x:Stm)(pv:aq)(N:Mem)(b:Nat)(J:x.w.length=3)(F:SlA N.A N.w pv 2 x.bF.length (rnsC x.bF))(L:x.bF.length<=1000000000)(O:∀p∈x.bF,0<=p.1∧0<=p.2∧p.1+p.2<=1000000)
  (S:Nat->Prop) (w0 G:ao) (L0:Loop) (d df:Nat) (z:List Ent) (R:Nat->List Ent->Prop) (K:Ending->ao->Prop)
  (P:∀k M,R k M->Ent.mem N∈M) (c:OwnS S w0 G (Ai L0 d df++(z++[stmE b x pv]))) (e:R 0 z)
  (Q:∀(k:Nat) (n:Int) (M X:List Ent) (W:ao),(Cs.nums x.bF)[k]?=ax n->R k M->OwnS S w0 W (Ai L0 d df++(M++X)) ->
   Yld ah d [.int .i64 n] W (λr H=>(r=.bool av∧∃u,R (k+1) u∧OwnS S w0 H (Ai L0 d df++(u++X)))∨(r=.bool au∧K (.returned (.tuple #[])) H)))
  (q:∀(M X:List Ent) (W:ao),R (Cs.nums x.bF).length M->OwnS S w0 W (Ai L0 d df++(M++X))->K (.returned (.tuple #[])) W) :
  Calls ah 221 #[.func (.yield d) #[] #[],.pointer (ax ⟨b,0,aw⟩)] G K:=by
 refine mW ?_;unfold iA nz;have s:∀{M:List Ent} {X:List Ent} {W:ao},R 0 M∨True->OwnS S w0 W (Ai L0 d df++(M++(X++[stmE b x pv])))->W.cell? ⟨b,3,aw⟩=ax pv:=by
  intro M X W _ h;have:stmE b x pv∈Ai L0 d df++(M++(X++[stmE b x pv])):=sm
  have:=aI (T:=118) (h.mem this) (i:=3) ((SZ J).1);exact this
 have g:∀{k:Nat} {M X:List Ent} {W:ao},R k M->OwnS S w0 W (Ai L0 d df++(M++X))->N.has W:=by
  intro k M X W e h;have U:=P k M e;have:Ent.mem N∈Ai L0 d df++(M++X):=atB _ (atA _ U);obtain⟨i,hi⟩:=List.getElem?_of_mem this;exact h.hasM i hi
 rw[Tu,aJ nRns (s (X:=[]) (.inr trivial) c)];rw[bE arS (F.now (g e c))];refine loop (λvs W=>∃(i:Nat) (M:List Ent),vs=[.int .i64 (i:Int)]∧i<=x.bF.length∧R (Cs.nums (x.bF.take i)).length M∧OwnS S w0 W (Ai L0 d df++(M++[stmE b x pv]))) (λvs _=>x.bF.length - n0 vs) ⟨0,z,rfl,om,e,c⟩ ?_;clear c e;rintro vs w2 ⟨i,M,rfl,hi,e,c⟩ _;simp only[gB,gd,rs,nz];by_cases t:(i:Int) < (x.bF.length:Int)
 case neg=>
  simp only[alJ t,i_f];have:i=x.bF.length:=om
  subst this;rw[anI] at e;exact q M _ w2 e c
 simp only[alM t,i_t];have f:i < x.bF.length:=om
 obtain⟨p,B,C⟩:=afR F f;obtain⟨V,Y,Z⟩:=O x.bF[i] (alX f);rw[aD (B w2),aD (C w2 (g e c))];refine o_rn c λl w3 c=>?_;refine YK 0 (y:=x.bF[i]) c rfl λI c=>?_;have c:OwnS S w0 I (.cells l (rnC x.bF[i]) 135::(Ai L0 d df++(M++[stmE b x pv]))):=c;rw[Yg,aJ aU (c.cell 0 rfl 1 rfl)];have c:OwnS S w0 I (Ai L0 d df++(M++([.cells l (rnC x.bF[i]) 135]++[stmE b x pv]))):=by
  refine c.perm ?_;rw[<-alS,<-alS];refine (List.perm_middle (l₁:=Ai L0 d df++M) (l₂:=[stmE b x pv]) (a:=.cells l (rnC x.bF[i]) 135)).symm.trans ?_;exact apX _
 have o:∀{M:List Ent} {W:ao},OwnS S w0 W (Ai L0 d df++(M++([.cells l (rnC x.bF[i]) 135]++[stmE b x pv])))->W.cell? ⟨l,0,aw⟩=ax (.int .i64 x.bF[i].1):=by
  intro M W h;have:Ent.cells l (rnC x.bF[i]) 135∈Ai L0 d df++(M++([.cells l (rnC x.bF[i]) 135]++[stmE b x pv])):=sm
  exact aI (h.mem this) (i:=0) rfl
 refine loop (λvs W=>∃(j:Nat) (M:List Ent),vs=[.int .i64 (j:Int)]∧(j:Int)<=x.bF[i].2∧R ((Cs.nums (x.bF.take i)).length+j) M∧OwnS S w0 W (Ai L0 d df++(M++([.cells l (rnC x.bF[i]) 135]++[stmE b x pv])))) (λvs _=>x.bF[i].2.toNat - n0 vs) ⟨0,M,rfl,om,e,c⟩ ?_;clear c e;rintro vs w5 ⟨j,M,rfl,hj,e,c⟩ _;simp only[fT,gd,rs,nz];by_cases m:(j:Int) < x.bF[i].2
 case neg=>
  simp only[alJ m,i_f]
  try simp only[rs]
  rw[aA om om];refine aY ⟨i+1,M,rfl,om,?_,?_⟩ (by simp[n0,RowKit.intOf];omega)
  ·rw[Cs.Sm f,show x.bF[i].2.toNat=j by omega];exact e
  ·refine c.sub ?_;refine List.Sublist.append_left (List.Sublist.append_left (List.sublist_append_right _ _) _) _
 simp only[alM m,i_t];rw[Yo,aJ aU (o c)]
 try simp only[rs]
 rw[aA om om];refine ajZ (args:=[.int .i64 (x.bF[i].1+j)]) (Q _ (x.bF[i].1+j) M _ w5 (Cs.Vz f om) e c) ?_;rintro v w6 (⟨rfl,u,D,E⟩|⟨rfl,hK⟩)
 ·rw[NB,anH,i_f]
  try simp only[rs]
  rw[aA om om];exact aY ⟨j+1,u,rfl,om,D,E⟩ (by simp[n0,RowKit.intOf];omega)
 ·rw[NB,anK,i_t];exact hK
section
variable {w:ao}{PK:PKT}{K:VWP}{S:Nat->Prop}{w0:ao}{L:List Ent}
theorem XD (x:Stm)(d:x.w.length=3)(hp:pv.oneCell'=av)(e:OwnS S w0 w L)(k:∀b w',OwnS S w0 w' (stmE b x pv::L)->K (.pointer (ax ⟨b,0,aw⟩)) w'):DoX ah (mBox 118 (stmV x pv)) w PK K:=by
 obtain⟨l,ps,q⟩:=x
 match l,d with
|[a,b,c],_=>exact bA (λb=>.pointer (ax ⟨b,0,aw⟩)) (stmC ⟨[a,b,c],ps,q⟩ pv) 118 (λ_=>by kernel_rfl) e k
theorem SA (x:Stm)(c:x.w.length=3)(hp:pv.oneCell'=av)(a:OwnS S w0 w L)(k:∀b W,OwnS S w0 W (stmE b x pv::L)->K (.func (.func 221) #[] #[.pointer (ax ⟨b,0,aw⟩)]) W) :
  CallX ah 162 #[stmV x pv] w PK K:=by
 refine⟨qU ?_⟩;unfold kO nz;refine XD x c hp a λb d a=>?_;rw[pY];exact k b d a
end
end
section
open Eng Go.RowKit
namespace Cs
def wide (x:Stm):Nat:=(x.w.getD 0 0).toNat+(x.w.getD 1 0).toNat+(x.w.getD 2 0).toNat
def rowAt (x:Stm)(s:List UInt8)(k:Nat)(n:Int):Slt:=
 let a:=x.w.getD 0 0;let b:=x.w.getD 1 0;let c:=x.w.getD 2 0;let p:=k*wide x
 ⟨n,field s 0 p a,field s 1 (p+a.toNat) b,field s 2 (p+a.toNat+b.toNat) c⟩
def aG (x:Stm)(s:List UInt8):List Slt:=(nums x.bF).mapIdx (rowAt x s)
theorem L1 (x:Stm)(s:List UInt8):(aG x s).length=(nums x.bF).length:=by unfold aG;rw[List.length_mapIdx]
theorem L6 {x:Stm}{s:List UInt8}{k:Nat}{n:Int}(h:(nums x.bF)[k]?=ax n):(aG x s)[k]?=ax (rowAt x s k n):=by
 unfold aG;rw[List.getElem?_mapIdx,h];rfl
end Cs
theorem abA (hp:cO ah f=av)(h:CallX ah f (fa++args++ca) w PK K):CVX ah (.func (.func f) fa ca) args w PK K:=⟨⟨f,fa,ca,rfl,hp,h⟩⟩
theorem BI:cO ah 161=true:=krx
abbrev cloV (b2 a b3:Nat):Value:=.func (.func 161) #[] #[.pointer (ax ⟨b2,0,aw⟩),.pointer (ax ⟨a,0,aw⟩),.pointer (ax ⟨b3,0,aw⟩)]
abbrev cloE (b b2 a b3:Nat):Ent:=.cells b [cloV b2 a b3] 131
theorem ahI:eD ah 131=true:=krx
abbrev atE (b at_:Nat):Ent:=.cells b [.int .i64 (at_:Int)] 3
abbrev svE (b:Nat)(v:aq):Ent:=.cells b [v] 61
theorem adE {n k b:Int}:(aS 83 #[(0,.int .i64 n),(1,.int .i64 k),(2,.int .i64 a),(3,.int .i64 b)]).run ah W=.ok (.value (slV ⟨n,k,a,b⟩)) W:=krx
section
variable {w:ao}{PK:PKT}{K:VWP}{S:Nat->Prop}{w0:ao}{L:List Ent}
theorem acW {x:Stm}{s:List UInt8}(d:OwnS S w0 w (.mem N::L))(V:x.w.length=3)(hw:∀n∈x.w,0<=n∧n<=4)(hs:SlA N.A N.w pv 2 x.bF.length (rnsC x.bF))
  (a8:x.bF.length<=1000000000) (hb:∀p∈x.bF,0<=p.1∧0<=p.2∧p.1+p.2<=1000000) (hn:(Cs.nums x.bF).length<=100000) (hd:(Cs.nums x.bF).length*Cs.wide x<=s.length) (u:s.length<=1000000000)
  (hk:∀y∈Cs.aG x s,y.kind<=2) (hc:Tl.check (Cs.aG x s)=0)
  (kt:∀E j W,N.le E->SlA E.A E.w j 4 (Cs.aG x s).length (slsC (Cs.aG x s))->OwnS S w0 W (.mem E::L)->K j W):CallX ah 94 #[stmV x pv,.string ⟨s.toArray⟩] w PK K:=by
 obtain⟨xw,ps,q⟩:=x
 match xw,V with
|[a,b,c],V=>
 refine⟨wA ?_⟩;unfold iW iN dx ldx stx alx cx;refine XD _ V hs.one d λb2 w1 d=>?_;refine bA (λb=>.pointer (ax ⟨b,0,aw⟩)) [.string ⟨s.toArray⟩] 9 (λ_=>by kernel_rfl) d λb3 w2 d=>?_;refine bA (λb=>.pointer (ax ⟨b,0,aw⟩)) [nilS] 61 (λ_=>by kernel_rfl) d λG w3 d=>?_;refine bA (λb=>.pointer (ax ⟨b,0,aw⟩)) [.int .i64 0] 3 (λ_=>by kernel_rfl) d λf w4 d=>?_;refine aK 0 d rfl krx rfl sm λw5 d=>?_;rw[pY];refine bA (λb=>.pointer (ax ⟨b,0,aw⟩)) [.nilFunc] 131 (λ_=>by kernel_rfl) d λr w6 d=>?_;refine aK 0 d rfl krx rfl sm λw7 d=>?_;have d:OwnS S w0 w7 (cloE r b2 f b3::atE f 0::svE G nilS::strE b3 s::stmE b2 ⟨[a,b,c],ps,q⟩ pv::.mem N::L):=d;have b0:aggN ah 118=ax (stmC ⟨[a,b,c],ps,q⟩ pv).length:=by rw[pW V];exact U8
 rw[l_at (d.agg 4 rfl b0)];refine SA _ V hs.one d λbi w8 d=>?_;have d:=OwnS.nilU d 83 4;generalize I:(⟨[a,b,c],ps,q⟩:Stm)=x at *;obtain⟨b8,c0,c1⟩:(0<=a∧a<=4)∧(0<=b∧b<=4)∧(0<=c∧c<=4):=by
  subst I;exact⟨hw a sm,hw b sm,hw c sm⟩
 have b1:Cs.wide x=a.toNat+b.toNat+c.toNat:=by subst I;rfl
 have o:x.w=[a,b,c]:=by subst I;rfl
 have Y:∀k n,Cs.rowAt x s k n=⟨n,Cs.field s 0 (k*Cs.wide x) a,Cs.field s 1 (k*Cs.wide x+a.toNat) b,Cs.field s 2 (k*Cs.wide x+a.toNat+b.toNat) c⟩:=by subst I;intro k n;rfl
 have O:=Cs.L1 x s
 let P:Nat->aq->List Slt->List Ent:=λat_ j l=>[slsE j l,cloE r b2 f b3,atE f at_,svE G j,strE b3 s,stmE b2 x pv,.mem N]
 have d:OwnS S w0 w8 ((P 0 nilS []++L)++[stmE bi x pv]):=by
  refine d.perm ?_;show List.Perm (_::_::([cloE r b2 f b3,atE f 0,svE G nilS,strE b3 s,stmE b2 x pv,.mem N]++L)) (_::(([cloE r b2 f b3,atE f 0,svE G nilS,strE b3 s,stmE b2 x pv,.mem N]++L)++[_]));exact List.Perm.cons _ (auD _ _).symm
 refine range d (show cO ah 221=av by kernel_rfl) λL0 df H w9 d hy=>?_;refine Q5 x pv N bi (by rw[o];rfl) hs a8 hb S w0 w9 L0 H df (P 0 nilS []++L) (λk M=>∃j,M=P (k*Cs.wide x) j ((Cs.aG x s).take k)++L) _ (λk M ⟨j,h⟩=>by subst h;simp[P]) d ⟨nilS,by simp[P]⟩ ?_ ?_
 ·rintro k n M X W Z ⟨j,rfl⟩ d;have c2:k < (Cs.nums x.bF).length:=(alY.1 Z).1;have c3:k*Cs.wide x+Cs.wide x<=s.length:=by
   have:=anC (Cs.wide x) (show k+1<=(Cs.nums x.bF).length by omega);rw[anS] at this;omega
  have b4:(Cs.aG x s).take (k+1)=(Cs.aG x s).take k++[Cs.rowAt x s k n]:=by
   have h:=Cs.L6 (s:=s) Z;obtain⟨h1,h2⟩:=alY.1 h;rw[amO h1,h2]
  have a1:((Cs.aG x s).take k).length<=1000000000:=by rw[alR];omega
  rw[anS,b4,Y];generalize (Cs.aG x s).take k=l at *;generalize c4:k*Cs.wide x=at_ at *;have i0:0 < x.w.length:=by rw[o];simp
  have i1:1 < x.w.length:=by rw[o];simp
  have i2:2 < x.w.length:=by rw[o];simp
  have g0:x.w[0]=a:=by simp[o]
  have g1:x.w[1]=b:=by simp[o]
  have g2:x.w[2]=c:=by simp[o]
  have z:x.w.length=3:=by rw[o];rfl
  have d:OwnS S w0 W (.obj H (lp L0 .ready aw)::.obj df (.deferred (ax []))::slsE j l::cloE r b2 f b3::atE f at_::svE G j::strE b3 s::stmE b2 x pv::.mem N::(L++X)):=d;have key:∀R:VWP,(∀W' Q,OwnS S w0 W' (Ai L0 H df++((P (at_+Cs.wide x) Q (l++[⟨n,Cs.field s 0 at_ a,Cs.field s 1 (at_+a.toNat) b,Cs.field s 2 (at_+a.toNat+b.toNat) c⟩])++L)++X))->R (.bool av) W')->Yld ah H [.int .i64 n] W R:=by
   intro R hR;refine hy _ W _ (d.at_ 0 rfl) rfl ?_;refine aiM 0 d rfl λW3 d=>?_;simp only[List.getD_cons_zero]
   let B:Nat->List Ent:=λat_=>.obj H (lp L0 .busy aw)::.obj df (.deferred (ax []))::slsE j l::cloE r b2 f b3::atE f at_::svE G j::strE b3 s::stmE b2 x pv::.mem N::(L++X)
   have d:OwnS S w0 W3 (B at_):=d;have d:=d.drew;have f0:∀{F W PK K},(F=[]∨∃e,F=[e])->OwnS S w0 W (F++B at_)->(∀W,OwnS S w0 W (F++B (at_+a.toNat))->K (.int .i64 (Cs.field s 0 at_ a)) W)->CVX ah (cloV b2 f b3) #[.int .i64 0] W PK K:=by
    intro F W PK K hF d k;rw[<-g0] at k;refine abA BI ?_;rcases hF with rfl|⟨e,rfl⟩
    ·exact D6 (i:=0) 7 6 4 d rfl rfl rfl dc z i0 (by rw[g0];omega) (by rw[g0];omega) u k
    ·exact D6 (i:=0) 8 7 5 d rfl rfl rfl dc z i0 (by rw[g0];omega) (by rw[g0];omega) u k
   have f1:∀{F W PK K},(F=[]∨∃e,F=[e])->OwnS S w0 W (F++B (at_+a.toNat))->(∀W,OwnS S w0 W (F++B (at_+a.toNat+b.toNat))->K (.int .i64 (Cs.field s 1 (at_+a.toNat) b)) W)->CVX ah (cloV b2 f b3) #[.int .i64 1] W PK K:=by
    intro F W PK K hF d k;rw[<-g1] at k;refine abA BI ?_;rcases hF with rfl|⟨e,rfl⟩
    ·exact D6 (i:=1) 7 6 4 d rfl rfl rfl dc z i1 (by rw[g1];omega) (by rw[g1];omega) u k
    ·exact D6 (i:=1) 8 7 5 d rfl rfl rfl dc z i1 (by rw[g1];omega) (by rw[g1];omega) u k
   have f2:∀{F W PK K},(F=[]∨∃e,F=[e])->OwnS S w0 W (F++B (at_+a.toNat+b.toNat))->(∀W,OwnS S w0 W (F++B (at_+Cs.wide x))->K (.int .i64 (Cs.field s 2 (at_+a.toNat+b.toNat) c)) W)->CVX ah (cloV b2 f b3) #[.int .i64 2] W PK K:=by
    intro F W PK K hF d k;rw[b1,<-anX,<-anX] at k;rw[<-g2] at k;refine abA BI ?_;rcases hF with rfl|⟨e,rfl⟩
    ·exact D6 (i:=2) 7 6 4 d rfl rfl rfl dc z i2 (by rw[g2];omega) (by rw[g2];omega) u k
    ·exact D6 (i:=2) 8 7 5 d rfl rfl rfl dc z i2 (by rw[g2];omega) (by rw[g2];omega) u k
   refine⟨λW=>(cloE r b2 f b3).is W,d.at_ 3 rfl,?_⟩;have ld:∀W,(cloE r b2 f b3).is W->(aH 131 (.pointer (ax ⟨r,0,aw⟩))).run ah W=.ok (.value (cloV b2 f b3)) W:=λW h=>aB ahI (aI (T:=131) h (i:=0) rfl);refine jI _ ld (jI _ ld (jI _ ld ?_));have out:∀{W C},OwnS S w0 W ([slE C ⟨n,Cs.field s 0 at_ a,Cs.field s 1 (at_+a.toNat) b,Cs.field s 2 (at_+a.toNat+b.toNat) c⟩]++B (at_+Cs.wide x))->cC (.pointer (ax ⟨G,0,aw⟩)) (.pointer (ax ⟨C,0,aw⟩)) H R W:=by
    intro W C d;unfold cC;rw[aJ nSls (d.cell 6 rfl 0 rfl),sl_v d 0 rfl];refine acS 3 d rfl a1 λv' W2 d=>?_;have h1:v'.oneCell'=true:=(cQ (d.at_ 3 rfl));refine aK 6 d rfl krx h1 sm λW3 d=>?_;refine ajJ 1 d rfl λJ d=>hR J v' d.tail
   have st:∀{W C} {PK:PKT},OwnS S w0 W ([slE C sl0]++B (at_+Cs.wide x))->HDo ah (λ_=>True) (aS 83 #[(0,.int .i64 n),(1,.int .i64 (Cs.field s 0 at_ a)),(2,.int .i64 (Cs.field s 1 (at_+a.toNat) b)),(3,.int .i64 (Cs.field s 2 (at_+a.toNat+b.toNat) c))]) λt=>DoX ah (aN 83 (.pointer (ax ⟨C,0,aw⟩)) t) W PK λ_ w=>cC (.pointer (ax ⟨G,0,aw⟩)) (.pointer (ax ⟨C,0,aw⟩)) H R w:=by
    intro W C PK d;exact aR _ (λ_=>adE) (HQ 0 d rfl λW2 d=>out d)
   have m:∀{W e at_},OwnS S w0 W ([e]++B at_)->(cloE r b2 f b3).is W:=λd=>d.at_ 4 rfl;have U:∀{W at_},OwnS S w0 W ([]++B at_)->(cloE r b2 f b3).is W:=λd=>d.at_ 3 rfl;have d:OwnS S w0 _ ([]++B at_):=d;refine⟨f0 (.inl rfl) d λJ d=>⟨U d,f1 (.inl rfl) d λW5 d=>⟨U d,f2 (.inl rfl) d λW6 d=>⟨U d,?_⟩,?_⟩,?_⟩,?_⟩
   ·exact aR _ (λ_=>adE) (KD d λC W7 d=>⟨m d,HQ 0 d rfl λW8 d=>out d⟩)
   ·exact KD d λC W6 d=>⟨m d,f2 (.inr ⟨_,rfl⟩) d λW7 d=>⟨m d,st d⟩⟩
   ·exact KD d λC W5 d=>⟨m d,f1 (.inr ⟨_,rfl⟩) d λW6 d=>⟨m d,f2 (.inr ⟨_,rfl⟩) d λW7 d=>⟨m d,st d⟩⟩⟩
   ·exact KD d λC J d=>⟨m d,f0 (.inr ⟨_,rfl⟩) d λW5 d=>⟨m d,f1 (.inr ⟨_,rfl⟩) d λW6 d=>⟨m d,f2 (.inr ⟨_,rfl⟩) d λW7 d=>⟨m d,st d⟩⟩⟩⟩
  exact key _ λW' Q d=>.inl ⟨rfl,_,⟨Q,rfl⟩,d⟩
 ·rintro M X W ⟨j,rfl⟩ d;refine⟨_,.ready,aw,_,rfl,(by intro h;cases h),d.at_ 0 rfl,alN.2 (.inl rfl),?_⟩;have hp:OwnS S w0 (putO W H (lp L0 .exhausted aw)) (.obj H (lp L0 .exhausted aw)::.obj df (.deferred (ax []))::((P ((Cs.nums x.bF).length*Cs.wide x) j ((Cs.aG x s).take (Cs.nums x.bF).length)++L)++X)):=F4 (o':=lp L0 .exhausted aw) d 0 rfl;rw[<-O,anI] at hp;have d:=hp.tail.swap;obtain⟨E,hle,D,d⟩:=OwnS.bJ (L:=.obj df (.deferred (ax []))::cloE r b2 f b3::atE f ((Cs.aG x s).length*Cs.wide x)::svE G j::strE b3 s::stmE b2 x pv::.mem N::(L++X)) d 6 rfl;have D:SlA E.A E.w j 4 (Cs.aG x s).length (slsC (Cs.aG x s)):=D;have d:OwnS S w0 _ (.obj df (.deferred (ax []))::cloE r b2 f b3::atE f ((Cs.aG x s).length*Cs.wide x)::svE G j::strE b3 s::stmE b2 x pv::.mem E::(L++X)):=d;generalize putO W H (lp L0 .exhausted aw)=W1 at d;rw[aJ nSls (d.cell 3 rfl 0 rfl),bE aoU (D.now (d.hasM 6 rfl))];refine loop (λvs W=>∃(i:Nat),vs=[.int .i64 (i:Int)]∧i<=(Cs.aG x s).length∧OwnS S w0 W (.obj df (.deferred (ax []))::cloE r b2 f b3::atE f ((Cs.aG x s).length*Cs.wide x)::svE G j::strE b3 s::stmE b2 x pv::.mem E::(L++X))) (λvs _=>(Cs.aG x s).length - n0 vs) ⟨0,rfl,om,d⟩ ?_;clear d hp;rintro vs W2 ⟨i,rfl,hi,d⟩ _;simp only[lZ,gd,rs,iN];by_cases a6:(i:Int) < ((Cs.aG x s).length:Int)
  ·simp only[alM a6,i_t];have a7:i < (Cs.aG x s).length:=om
   obtain⟨g,off,hr⟩:=oJ D a7;obtain⟨r1,r2⟩:=hr W2 (d.hasM 6 rfl);refine aD r1 |>.mpr (aD (BJ r2) |>.mpr ?_);refine KD d λC W3 d=>?_;refine HQ (y:=(Cs.aG x s)[i]) 0 d rfl λJ d=>?_;rw[MF,aJ aU (d.cell 0 rfl 1 rfl)];simp only[rs];refine kC (λ_=>?_) λh=>absurd (hk _ (alX a7)) (amR h)
   try simp only[rs]
   rw[aA om om];exact⟨rfl,aY ⟨i+1,rfl,om,d.tail⟩ (by simp[n0,RowKit.intOf];omega)⟩
  simp only[alJ a6,i_f];rw[aJ nSls (d.cell 3 rfl 0 rfl)];refine aM d (R:=λv=>v=.int .i64 (Tl.check (Cs.aG x s))) (Jm (Cs.aG x s) j E W2 om (d.hasM 6 rfl) D) ?_;rintro _ W3 rfl d;rw[hc];simp only[rs];refine kC (λ_=>?_) λh=>(by cases h);rw[aJ nSls (d.cell 3 rfl 0 rfl)];refine aeP 0 d rfl λJ d=>?_;show Cont K PK (.returned j) J;refine kt E j J hle D ?_;have d:OwnS S w0 J (.obj df (.deferred aw)::cloE r b2 f b3::atE f ((Cs.aG x s).length*Cs.wide x)::svE G j::strE b3 s::stmE b2 x pv::.mem E::(L++X)):=d;exact d.sub (.cons _ (.cons _ (.cons _ (.cons _ (.cons _ (.cons _ (.cons_cons _ (List.sublist_append_left _ _))))))))
end
end
section
open Eng
def nD(a w)(K:KT):=
 stx 30 a (iN 20) w K λ_ w=>K (.returned (.tuple #[])) w
def fU(b r w)(K:KT):=
 eqx .neq 20 (.tmp 5) (.const .nilIface) r .nilIface w K λc w=>IfX c (JoinX (λh=>dx (mTA r 20 167 av) w K λa w=>exx a 0 w K λd w=>exx a 1 w K λe w=>alx 167 w K λf w=>stx 167 f d w K λ_ w=>dx (mUn .not e) w K λg w=>IfX g (dx (Ev r) w K λ_ w=>h [] w) (h [] w)) (λi w=>∀_:Sg,nD b w K)) (K (.returned (.tuple #[])) w)
theorem zI (t0 r:aq)(w:ao)(K:Ending->ao->Prop):wpX ah 15 [(5,[])] [] aw (Xy (A5 f156)) (topD ah [] K) (upd (upd (kI [t0]) 4 r) 1 r) [] w=fU t0 r w K:=krx
theorem kL (h:fU t0 (recV u) w (λe w=>R e (recM u) w)):CallsD ah 156 #[t0] u w R:=
 wH func156 rfl rfl rfl rfl rfl rfl rfl rfl rfl rfl rfl rfl (Eq.mpr (zI t0 (recV u) w _) h)
end
section
open Eng Go.RowKit
theorem CW:cO ah 156=true:=krx
abbrev eeE (b:Nat)(e:Int):Ent:=.cells b [.int .i64 e] 30
section
variable {w:ao}{PK:PKT}{K:VWP}{S:Nat->Prop}{w0:ao}{L:List Ent}
theorem P4 {d:Array aq}{T F:List Ent->Prop}(hp:cO ah f=av)(a:OwnS S w0 w L)
  (h:∀b W,OwnS S w0 W (eeE b 0::L)->∀(K':VWP) (e:PKT),(∀v c L',T L'->OwnS S w0 c (eeE b 0::L')->K' v c)->(∀c L',F L'->OwnS S w0 c (eeE b 0::L')->e [upC] c)->CallX ah f (#[]++#[]++d) W e K')
  (g:∀c L',T L'->OwnS S w0 c L'->K (.int .i64 0) c) (i:∀c L',F L'->OwnS S w0 c L'->K (.int .i64 20) c) :
  CallX ah 90 #[.func (.func f) #[] d] w PK K:=by
 refine⟨Ec ?_⟩;unfold Au iN dx alx;refine bA (λb=>.pointer (ax ⟨b,0,aw⟩)) [.int .i64 0] 30 (λ_=>by kernel_rfl) a λb2 w2 a=>?_;rw[pY];refine⟨_,rfl,?_⟩;refine Iq hp ?_;refine h b2 w2 a _ _ (λv W L' j a=>?_) λW L' k a=>?_
 ·refine aK 0 a rfl krx rfl sm λm a=>?_;refine nM sm CW (kL ?_);simp only[fU,recV,recM,Eng.aaC aqE,rs,i_f,dx,exx,stx,eqx,alx];refine Ds Hh (a.cell 0 rfl 0 rfl) ?_;exact g _ _ j a.tail
 ·simp only[kX,pd];refine nM sm CW (kL ?_);simp only[fU,recV,recM,upC,Eng.X1 aqE,rs,i_t,dx,exx,stx,eqx,alx];refine join λJ l=>?_;simp only[VG afN,rP (show [Value.agg #[],Value.bool av][1]?=ax (Value.bool av) from rfl),rP (show [Value.agg #[],Value.bool av][0]?=ax (Value.agg #[]) from rfl)];refine bA (λb=>.pointer (ax ⟨b,0,aw⟩)) [] 167 (λ_=>by kernel_rfl) a λn o a=>?_;refine gY 0 a rfl (new:=[]) (show (Tryz.prog.info? 167).map (·.size)=ax 0 by kernel_rfl) sm rfl λp a=>?_;simp only[rs,anH,i_f];refine l _ _ λ_=>?_;unfold nD iN stx;refine aK 1 a rfl krx rfl sm λq a=>?_;refine Ds Hh (a.cell 1 rfl 0 rfl) ?_;exact i _ _ k a.tail.tail
end
end
section
open Eng
def El(t0 w)(K:KT):=nz f89 1 [] [] [] (zg [0] [t0]) w K
theorem G3:El t0 w k0->Calls ah 89 #[t0] w k0:=cw func89
end
section
open Go
namespace Bd
def check (i:It):Int:=if Dk.numbers i=au then 2 else if Vl.check 1 i.obj≠0 then Vl.check 1 i.obj else if i.obj.k=8 then 10 else 0
end Bd
end
section
open Eng Go.RowKit
theorem Rt (i:It)(w:ao)(hw:i.obj.wt<=100000000000)(l:OV (InW w) w (obV i.obj vk vc) i.obj):Ret ah 89 #[itV i vk vc] w (λv w'=>v=.int .i64 (Bd.check i)∧Below w.heap.size w w'):=by
 refine aZ λK f=>G3 ?_;unfold El nz;refine agV i l.oneK l.oneC (Own.start w) λb m a=>?_;have out:Dk.numbers i=au->K (.returned (.int .i64 2)) m:=λh=>f _ _ ⟨by rw[Bd.check,alH h],a.done⟩;have o:Dk.numbers i=av↔1<=i.num∧i.num<=8191∧0<=i.gen∧i.gen<=65535:=by
  simp only[Dk.numbers,amB,amU];omega
 have outs:¬(1<=i.num∧i.num<=8191∧0<=i.gen∧i.gen<=65535)->K (.returned (.int .i64 2)) m:=λh=>out (by
  cases q:Dk.numbers i with
 |true=>exact absurd (o.1 q) h
 |false=>rfl)
 by_cases d:i.num < 1
 ·simp only[rs,MW,G9 a 0 rfl,alM d,g_un];exact outs om
 by_cases g:i.num>8191
 ·simp only[rs,MW,G9 a 0 rfl,alJ d,alM g,g_un];exact outs om
 by_cases n:i.gen < 0
 ·simp only[rs,MW,VH,G9 a 0 rfl,OM a 0 rfl,alJ d,alJ g,alM n,g_un];exact outs om
 by_cases p:i.gen>65535
 ·simp only[rs,MW,VH,G9 a 0 rfl,OM a 0 rfl,alJ d,alJ g,alJ n,alM p,g_un];exact outs om
 simp only[rs,MW,VH,G9 a 0 rfl,OM a 0 rfl,alJ d,alJ g,alJ n,alJ p,g_un,Te,Pp a 0 rfl];have c:Dk.numbers i=true:=o.2 om;obtain⟨cs,r⟩:=l.slices;refine LL (jF i.obj _ m (r.in_ a).ov om) rfl a λw2 a=>?_;rw[eS];by_cases e:Vl.check 1 i.obj=0
 case neg=>
  simp only[alM (show Vl.check 1 i.obj≠0 from e),i_t];exact f _ _ ⟨by rw[Bd.check,alG (by simp[c]),alH e],a.done⟩
 simp only[e,show ai ((0:Int)≠0)=au by decide,i_f,Te,fR,it_k a 0 rfl,rs];by_cases j:i.obj.k=8
 ·simp only[alM j,i_t];exact f _ _ ⟨by rw[Bd.check,alG (by simp[c]),alG (by simp[e]),alH j],a.done⟩
 ·simp only[alJ j,i_f];exact f _ _ ⟨by rw[Bd.check,alG (by simp[c]),alG (by simp[e]),alG j],a.done⟩
end
section
open Eng Go.RowKit
namespace Cs
def Py (x:Stm)(s:List UInt8):Prop:=
 (x.w.length=3∧∀n∈x.w,0<=n∧n<=4)∧(x.bF.length<=1000000000∧∀p∈x.bF,0<=p.1∧0<=p.2∧p.1+p.2<=1000000) ∧
 ((nums x.bF).length<=100000∧(nums x.bF).length*wide x<=s.length∧s.length<=1000000000)∧(∀y∈aG x s,y.kind<=2)∧Tl.check (aG x s)=0
def read (i:It)(a:Int):Sec×Int:=
 if a < 0 then (Tl.sec0,1) else if Bd.check i≠0 then (Tl.sec0,Bd.check i) else match keys i.obj with
 |none=>(Tl.sec0,20)
 |some x=>if (Ff.decode i.obj).2≠0 then (Tl.sec0,(Ff.decode i.obj).2)
   else (⟨a,aG x (Ff.decode i.obj).1,.mk 7 i.obj.n i.obj.g [] i.obj.keys i.obj.kids,x.prev,-1,i.num⟩,0)
theorem agZ {x:Stm}(h:keys o=ax x):x.w.length=3:=by
 unfold keys at h;split at h
 ·rename_i c
  cases a:tZ o with
 |none=>rw[a] at h;cases h
 |some p=>
   cases b:ES o with
  |none=>rw[a,b] at h;cases h
  |some q=>
    rw[a,b] at h;have:=aoJ h;rw[<-this];show ((got o kW).kids.map Ob.n).length=3;rw[amT];exact c.2.2.2.2.1
 ·cases h
end Cs
theorem NV:cO ah 91=true:=krx
theorem MQ:cO ah 93=true:=krx
theorem ahM {p n:Int}{l:List Slt}{b a2 a3:Option Addr}{n1 c n2 d n3 c3:Nat}:DoX ah (aS 63 #[(0,.int .i64 a),(1,.slice b n1 c),(2,obV o (.slice a2 n2 d) (.slice a3 n3 c3)),(3,.int .i64 p),(4,.int .i64 (-1)),(5,.int .i64 n)]) W PK K=K (secV ⟨a,l,o,p,-1,n⟩ (.slice b n1 c) (.slice a2 n2 d) (.slice a3 n3 c3)) W:=aD krx
theorem Gk (i:It)(a:Int){p q:aq}(M:Mem)(w:ao)(a6:Rp M)(a7:Od M)(a8:Pws M)(hw:i.obj.wt<=1000000000)(hM:M.has w)(I:OV M.A M.w (obV i.obj p q) i.obj)
  (b0:∀n∈(Ff.of i.obj).1,Ff.full n=Ff.nFl)
  (k:∀x,0<=a->Bd.check i=0->Cs.keys i.obj=ax x->(Ff.decode i.obj).2=0->Cs.Py x (Ff.decode i.obj).1) :
  RetM ah 34 #[itV i p q,.int .i64 a] M w (λr N=>∃sv,r=.tuple #[sv,.int .i64 (Cs.read i a).2]∧SecV N sv (Cs.read i a).1):=by
 refine bB hM λK hK=>Gp ?_;unfold E1 nz;refine agV i I.oneK I.oneC (OwnS.memS hM) λb2 w1 c=>?_;refine UH c λm w2 c=>?_;have E:∀N:Mem,SecV N (secV Tl.sec0 nilS nilS nilS) Tl.sec0:=λN=>⟨nilS,nilS,nilS,rfl,SlA.nil _ _ _ _,uZ N⟩;have no:∀{W:ao} {N:Mem} {L:List Ent} {e:Int} (j:Nat),OwnS M.A w W L->L[j]?=ax (secE m Tl.sec0 nilS nilS nilS)->(∃Q,L[Q]?=ax (.mem N)∧Q≠j)->M.le N->Cs.read i a=(Tl.sec0,e)->DoX ah (aS 63 #[]) W (pk K) (λt W=>DoX ah (aN 63 (.pointer (ax ⟨m,0,aw⟩)) t) W (pk K) λ_ W=>RetX ah [.cell (.pointer (ax ⟨m,0,aw⟩)) 63,.val (.int .i64 e)] W K):=by
  intro W N L e j c hj ⟨Q,b1,b3⟩ hle he;rw[akB];refine Jj (y:=Tl.sec0) j rfl rfl rfl c hj λw4 c=>?_;have b5:=(alY.1 hj).1;refine vO (bI (c.agg j (aoS b5) TU)) uI (hK _ _ N _ Q c (by rw[aqO (Ne.symm b3)];exact b1) hle ⟨_,by rw[he],by rw[he];exact E N⟩)
 have d:=Cs.read.eq_1 i a;simp only[rs];by_cases S:a < 0
 ·rw[alH S] at d;simp only[alM S,i_t];exact no 0 c rfl ⟨2,rfl,dc⟩ M.le_refl d
 rw[alG S] at d;simp only[alJ S,i_f];rw[l_at (c.agg 1 rfl Ro)];refine aM c (R:=λv=>v=.int .i64 (Bd.check i)) (Rt i w2 om (OV.inw (c.hasM 2 rfl) I)) ?_;rintro _ w3 rfl c;simp only[eS];by_cases O:Bd.check i=0
 case neg=>
  rw[alH O] at d;simp only[alM (show Bd.check i≠0 from O),i_t];exact no 0 c rfl ⟨2,rfl,dc⟩ M.le_refl d
 rw[alG (λh=>h O)] at d;simp only[O,show ai ((0:Int)≠0)=au from rfl,i_f];refine T6 c λu w4 c=>?_
 try rw[pY]
 have c:OwnS M.A w w4 [stmE u stm0 nilS,secE m Tl.sec0 nilS nilS nilS,itE b2 i p q,.mem M]:=c;refine P4 (T:=λL=>∃x N pv,Cs.keys i.obj=ax x∧M.le N∧SlA N.A N.w pv 2 x.bF.length (rnsC x.bF)∧L=[stmE u x pv,secE m Tl.sec0 nilS nilS nilS,itE b2 i p q,.mem N])
  (F:=λL=>Cs.keys i.obj=aw∧∃N,M.le N∧L=[stmE u stm0 nilS,secE m Tl.sec0 nilS nilS nilS,itE b2 i p q,.mem N]) NV c (λbe W c K' G kT kF=>?_) ?_ ?_
 ·show CallX ah 91 #[.pointer (ax ⟨b2,0,aw⟩),.pointer (ax ⟨u,0,aw⟩)] W G K';refine⟨Bx ?_⟩;unfold vJ nz;rw[Te,Pp c 3 rfl];have c:OwnS M.A w W ([eeE be 0,stmE u stm0 nilS,secE m Tl.sec0 nilS nilS nilS,itE b2 i p q]++([.mem M]++[])):=c;have bk:∀{W N e1 e2 e3 e4},OwnS M.A w W (.mem N::[e1,e2,e3,e4])->OwnS M.A w W [e1,e2,e3,e4,.mem N]:=λc=>c.perm (auD _ _).symm;refine adW c.front hw I (λx B N pv W2 hle U c=>?_) λB N W2 hle c=>kF W2 _ ⟨B,N,hle,rfl⟩ (bk c);have c:=bk c;refine MR 1 (Cs.agZ B) U.one rfl c rfl λw6 c=>?_;exact kT _ _ _ ⟨x,N,pv,B,hle,U,rfl⟩ c
 rotate_left
 ·rintro W _ ⟨B,N,hle,rfl⟩ c;rw[B] at d;simp only[eS,show ai ((20:Int)≠0)=av from rfl,i_t];exact no 1 c rfl ⟨3,rfl,dc⟩ hle d
 rintro W _ ⟨x,N,pv,B,hle,U,rfl⟩ c;rw[B] at d;dsimp only at d;simp only[eS,show ai ((0:Int)≠0)=au from rfl,i_f];rw[Te,Pp c 2 rfl];refine bH c 3 rfl (QF i.obj (λx _=>pdR x) (λn h x=>acR (b0 n h)) _ N W (a6.le hle) (a7.le hle) (a8.le hle) hw (c.hasM 3 rfl) (I.le hle)) ?_;rintro _ V W2 X rfl c;have k:=k x om O B;generalize Ff.decode i.obj=D at *;obtain⟨s,e⟩:=D;dsimp only at d k;simp only[zlT,ex];refine bA (λb=>.pointer (ax ⟨b,0,aw⟩)) [.string ⟨#[]⟩] 9 (λ_=>by kernel_rfl) c λH w7 c=>?_;refine aK 0 c rfl krx rfl sm λw8 c=>?_;have c:OwnS M.A w w8 [strE H s,stmE u x pv,secE m Tl.sec0 nilS nilS nilS,itE b2 i p q,.mem V]:=c;simp only[eS];by_cases he:e=0
 case neg=>
  rw[alH he] at d;simp only[alM (show e≠0 from he),i_t];exact no 2 c rfl ⟨4,rfl,dc⟩ (hle.trans X) d
 rw[alG (λh=>h he)] at d;simp only[alJ (show ¬e≠0 fromλh=>h he),i_f];obtain⟨⟨r1,r2⟩,⟨r3,r4⟩,⟨r5,r6,r7⟩,r8,r9⟩:=k he;refine bA (λb=>.pointer (ax ⟨b,0,aw⟩)) [nilS] 61 (λ_=>by kernel_rfl) c λo w9 c=>?_
 try rw[pY]
 have c:OwnS M.A w w9 [svE o nilS,strE H s,stmE u x pv,secE m Tl.sec0 nilS nilS nilS,itE b2 i p q,.mem V]:=c;refine P4 (T:=λL=>∃C J,V.le C∧SlA C.A C.w J 4 (Cs.aG x s).length (slsC (Cs.aG x s))∧L=[svE o J,strE H s,stmE u x pv,secE m Tl.sec0 nilS nilS nilS,itE b2 i p q,.mem C])
  (F:=λ_=>False) MQ c (λbe W c K' G kT kF=>?_) ?_ λ_ _ h=>h.elim
 ·show CallX ah 93 #[.pointer (ax ⟨u,0,aw⟩),.pointer (ax ⟨H,0,aw⟩),.pointer (ax ⟨o,0,aw⟩)] W G K';refine⟨BG ?_⟩;unfold vN nz;have b6:aggN ah 118=ax (stmC x pv).length:=by rw[pW r1];exact U8
  rw[l_at (c.agg 3 rfl b6),aJ Kc (c.cell 2 rfl 0 rfl)];have c:OwnS M.A w W ([eeE be 0,svE o nilS,strE H s,stmE u x pv,secE m Tl.sec0 nilS nilS nilS,itE b2 i p q]++([.mem V]++[])):=c;refine acW c.front r1 r2 (U.le X) r3 r4 r5 r6 r7 r8 r9 λC J W3 Y z c=>?_;have c:OwnS M.A w W3 (.mem C::[eeE be 0,svE o nilS,strE H s,stmE u x pv,secE m Tl.sec0 nilS nilS nilS,itE b2 i p q]):=c;have c:=c.perm (auD (Ent.mem C) _).symm;refine aK 1 c rfl krx z.one sm λw6 c=>?_;exact kT _ _ _ ⟨C,J,Y,z,rfl⟩ c
 rintro W3 _ ⟨N3,J,Y,z,rfl⟩ c;simp only[eS,show ai ((0:Int)≠0)=au from rfl,i_f];rw[Te,Pp c 4 rfl];refine bH c 5 rfl (rH i.obj _ N3 W3 om (c.hasM 5 rfl) (((I.le hle).le X).le Y)) ?_;intro tv Z W4 l4 ht c;obtain⟨tk,tc,b8,rfl,f⟩:=ht.open;refine fO c λc0 c5 c=>?_;refine bK 0 f.keys.one f.kids.one c rfl λc6 c=>?_;rw[fR];refine aK 0 c rfl krx rfl (by simp[obC]) λc7 c=>?_;rw[G5];refine aK 0 c rfl krx rfl (by simp[obC]) λc4 c=>?_;have c:OwnS M.A w c4 [obE c0 (.mk 7 i.obj.n i.obj.g [] i.obj.keys i.obj.kids) tk tc,svE o J,strE H s,stmE u x pv,secE m Tl.sec0 nilS nilS nilS,itE b2 i p q,.mem Z]:=c;have P:OV Z.A Z.w (obV (.mk 7 i.obj.n i.obj.g [] i.obj.keys i.obj.kids) tk tc) (.mk 7 i.obj.n i.obj.g [] i.obj.keys i.obj.kids):=ObAt.ov (cs:=b8) ⟨f.keys,f.kids,f.all⟩;rw[aJ nSls (c.cell 1 rfl 0 rfl),ob_v c 0 rfl,Yu,aJ aU (c.cell 3 rfl 4 ((SZ r1).2.1)),MW,G9 c 5 rfl];obtain⟨q1,c1,rfl,_⟩:=z.form;obtain⟨q2,c2,rfl,_⟩:=f.keys.form;obtain⟨q3,c3,rfl,_⟩:=f.kids.form;rw[ahM (l:=Cs.aG x s)];refine Jj (y:=⟨a,Cs.aG x s,.mk 7 i.obj.n i.obj.g [] i.obj.keys i.obj.kids,x.prev,-1,i.num⟩) 4 rfl rfl rfl c rfl λc8 c=>?_;refine vO (bI (c.agg 4 rfl TU)) uI (hK _ _ Z _ 6 c rfl (((hle.trans X).trans Y).trans l4) ⟨_,by rw[d],?_⟩);rw[d];exact⟨_,_,_,rfl,z.le l4,P⟩
end
section
open Go Eng
namespace Cs
theorem XX (m:Nat):∀(w v:Nat),(num (m:Int) w).foldl (λv (c:UInt8)=>v*256+c.toNat) v=v*256 ^ w+m % 256 ^ w
|0,v=>by simp[num,Nat.mod_one]
|w+1,v=>by
  unfold num;rw[asA,XX m w];have a:(UInt8.ofNat (((m:Int) / 256 ^ w) % 256).toNat).toNat=m / 256 ^ w % 256:=by
   have e:((m:Int) / 256 ^ w) % 256=((m / 256 ^ w % 256:Nat):Int):=by push_cast;rfl
   rw[e,alQ,apR,anD (show _ < 2 ^ 8 by have:=aoT (m / 256 ^ w) (show 0 < 256 by decide);omega)]
  rw[a,Nat.mod_pow_succ,anL,aoA,aqL,aoD 256 (256 ^ w),aoD (m / 256 ^ w % 256)];omega
theorem Ou {n:Int}{w:Nat}(a:0<=n)(h:n < ((256 ^ w:Nat):Int)):((be (num n w):Nat):Int)=n:=by
 obtain⟨m,rfl⟩:∃m:Nat,n=(m:Int):=⟨n.toNat,om⟩;unfold be;rw[XX m w 0,anD om];omega
theorem Ys:∀(f:Nat) (n:Int),0<=n->n < ((256 ^ f:Nat):Int)->n < ((256 ^ nbG f n:Nat):Int)
|0,n,a,h=>h
|f+1,n,a,h=>by
  unfold nbG;split
  ·have b:n.fdiv 256=n / 256:=aqI _ dc;rw[b];rw[anL] at h ⊢;have:=Ys f (n / 256) om (by push_cast at h ⊢;omega)
   push_cast at this ⊢;omega
  ·show n < ((256 ^ 0:Nat):Int);have:(256:Nat) ^ 0=1:=rfl;omega
theorem foldl_max:∀(l:List Int) (m:Int),m<=l.foldl (λm x=>max m x) m∧∀x∈l,x<=l.foldl (λm x=>max m x) m
|[],m=>⟨arA _,λ_ h=>by cases h⟩
|a::l,m=>by
  obtain⟨d,c⟩:=foldl_max l (max m a);rw[asA];refine⟨om,λx b=>?_⟩;rcases alN.1 b with rfl|b
  ·omega
  ·exact c x b
theorem OR {B:Int}:∀(l:List Int) (m:Int),m<=B->(∀x∈l,x<=B)->l.foldl (λm x=>max m x) m<=B
|[],m,h,_=>h
|a::l,m,h,b=>by
  rw[asA];exact OR l _ (by have:=b a (amV ..);omega) λx c=>b x (amG _ c)
theorem S8 {l:List Int}(a:∀x∈l,x<=2147483647){x:Int}(b:x∈l):x < ((256 ^ nb (maxL l):Nat):Int):=by
 obtain⟨c,d⟩:=foldl_max l 0;have f:=OR (B:=2147483647) l 0 dc a;have e:=Ys 4 (maxL l) c (by show maxL l < 4294967296;unfold maxL;omega);have g:=d x b;unfold nb;unfold maxL at e ⊢;omega
theorem I6 (a b:Nat):∀(l:List Slt) (k:Nat) (h:k < l.length),(sX l a b).drop (k*(1+a+b))=mT l[k] a b++sX (l.drop (k+1)) a b
|s::l,0,_=>by rw[aoO];rfl
|s::l,k+1,h=>by
  have c:=I6 a b l k (by simpa using h);show (mT s a b++sX l a b).drop _=_;rw[anS,arC,<-apN,arU (He s a b),c];rfl
theorem MM {l:List Slt}{ps:List (Int×Int)}{q:Int}(i:Tl.check l=0)(g:nums ps=l.map (·.num)):aG ⟨[1,(wa l:Nat),(wb l:Nat)],ps,q⟩ (rows l)=l:=by
 have c:=λx d=>Tl.MH (Tl.wG i x d);refine asX ?_ λk v e=>?_
 ·rw[L1];show (nums ps).length=_;rw[g,amT]
 have j:=L6 (x:=⟨[1,(wa l:Nat),(wb l:Nat)],ps,q⟩) (s:=rows l) (k:=k) (n:=l[k].num) (by show (nums ps)[k]?=_;rw[g,apP,alT e];rfl);rw[(alY.1 j).2];obtain⟨⟨w,a2⟩,⟨m,z⟩,⟨o,b2⟩,p,A⟩:=c l[k] (alX e);have r:l[k].a < ((256 ^ wa l:Nat):Int):=S8 (λx d=>by obtain⟨y,f,rfl⟩:=amM.1 d;exact (c y f).2.2.1.2) (amM.2 ⟨l[k],alX e,rfl⟩);have t:l[k].b < ((256 ^ wb l:Nat):Int):=S8 (λx d=>by obtain⟨y,f,rfl⟩:=amM.1 d;have:=(c y f).2.2.2.2;omega) (amM.2 ⟨l[k],alX e,rfl⟩);have hw:wide ⟨[1,(wa l:Nat),(wb l:Nat)],ps,q⟩=1+wa l+wb l:=by
  show (1:Int).toNat+((wa l:Nat):Int).toNat+((wb l:Nat):Int).toNat=_;rw[alQ,alQ];rfl
 have u:=I6 (wa l) (wb l) l k e;unfold rowAt;dsimp only;rw[hw];show (⟨l[k].num,field (rows l) 0 (k*(1+wa l+wb l)) 1,field (rows l) 1 (k*(1+wa l+wb l)+1) ((wa l:Nat):Int),field (rows l) 2 (k*(1+wa l+wb l)+1+((wa l:Nat):Int).toNat) ((wb l:Nat):Int)⟩:Slt)=l[k];have d0:(rows l).drop (k*(1+wa l+wb l))=num l[k].kind 1++(num l[k].a (wa l)++(num l[k].b (wb l)++sX (l.drop (k+1)) (wa l) (wb l))):=by
  unfold rows;rw[u];unfold mT;simp only[alS]
 have d1:(rows l).drop (k*(1+wa l+wb l)+1)=num l[k].a (wa l)++(num l[k].b (wb l)++sX (l.drop (k+1)) (wa l) (wb l)):=by
  rw[<-apN,d0,arU (jP _ _)]
 have d2:(rows l).drop (k*(1+wa l+wb l)+1+wa l)=num l[k].b (wb l)++sX (l.drop (k+1)) (wa l) (wb l):=by
  rw[<-apN,d1,arU (jP _ _)]
 have f0:field (rows l) 0 (k*(1+wa l+wb l)) 1=l[k].kind:=by
  unfold field;rw[alG (λh=>by have:=h.1;exact absurd this dc)];unfold fld;rw[d0,show (1:Int).toNat=1 from rfl,anM (jP _ _)];exact Ou m (by show l[k].kind < 256;omega)
 have f1:field (rows l) 1 (k*(1+wa l+wb l)+1) ((wa l:Nat):Int)=l[k].a:=by
  unfold field;rw[alG (λh=>by have:=h.2;exact absurd this dc)];unfold fld;rw[d1,alQ,anM (jP _ _)];exact Ou o r
 have f2:field (rows l) 2 (k*(1+wa l+wb l)+1+((wa l:Nat):Int).toNat) ((wb l:Nat):Int)=l[k].b:=by
  unfold field;rw[alG (λh=>by have:=h.2;exact absurd this dc)];unfold fld;rw[alQ (wb l),alQ (wa l),d2,anM (jP _ _)];exact Ou p t
 rw[f0,f1,f2]
end Cs
end
section
open Go Eng
namespace Cs
def Runs:Int->List (Int×Int)->Prop
|_,[]=>True
|up,r::l=>(up<=r.1∧0<=r.2∧r.1+r.2<=8192)∧Runs (r.1+r.2) l
theorem Hs:∀{l:List (Int×Int)} {up:Int},0<=up->Runs up l->∀r∈l,0<=r.1∧0<=r.2∧r.1+r.2<=8192
|[],_,_,_,_,h=>by cases h
|a::l,up,f,⟨⟨g,c,d⟩,e⟩,r,b=>by
  rcases alN.1 b with rfl|b
  ·exact⟨om,c,d⟩
  ·exact Hs om e r b
theorem Jo:∀{l:List (Int×Int)} {up:Int},0<=up->Runs up l->index up ((flat l).map intO)=ax l
|[],_,_,_=>rfl
|a::l,up,h,⟨⟨d,i,e⟩,f⟩=>by
  have g:=Jo (l:=l) (up:=a.1+a.2) om f;show index up (intO a.1::intO a.2::(flat l).map intO)=_;unfold index;have b:(intO a.1).n=a.1:=rfl;have c:(intO a.2).n=a.2:=rfl;rw[b,c,alH ⟨⟨rfl,by rw[b];omega,by rw[b];omega⟩,⟨rfl,by rw[c];omega,by rw[c];omega⟩,d,e⟩,g];rfl
theorem Y1:∀{l:List (Int×Int)} {up:Int},0<=up->Runs up l->0<=size l∧size l<=8192:=by
 intro l up a h;unfold size;cases e:l.getLast? with
|none=>exact⟨arA _,dc⟩
|some r=>
  obtain⟨b,c,d⟩:=Hs a h r (List.mem_of_mem_getLast? e);show 0<=r.1+r.2∧r.1+r.2<=8192;omega
theorem Lg:∀{g:List Slt} {n:Int},Tl.H9 n g->run1 (n,(g.length:Int))=g.map (·.num)
|[],n,_=>rfl
|x::g,n,⟨b,c⟩=>by
  have a:=Lg c;unfold run1 at a ⊢;rw[alQ] at a ⊢;rw[amC,List.range_succ_eq_map,anE,anE,arF,b]
  congr 1
  ·show n+((0:Nat):Int)=n;omega
  ·rw[<-a];refine aqS λk _=>?_;show n+((k+1:Nat):Int)=n+1+(k:Nat);omega
theorem Hx:∀{gs:List (List Slt)},(∀g∈gs,Tl.Grp g)->nums (gs.map Tl.run)=gs.flatten.map (·.num)
|[],_=>rfl
|g::gs,h=>by
  have a:=Hx (gs:=gs) λg b=>h g (amG _ b);have:=Lg (h g (amV ..)).2;show run1 (Tl.run g)++nums (gs.map Tl.run)=_;rw[a,asF,amW,<-this];rfl
theorem Li (l:List Slt):nums (Tl.runs l)=l.map (·.num):=by
 obtain⟨a,b⟩:=Tl.wF l;unfold Tl.runs;rw[Hx b,a]
theorem HH:∀{gs:List (List Slt)} {up:Int},(∀g∈gs,Tl.Grp g)->(∀x∈gs.flatten,up<=x.num∧x.num<=8191)->Tl.aeJ gs.flatten->Runs up (gs.map Tl.run)
|[],_,_,_,_=>trivial
|g::gs,up,h,a,c=>by
  rw[asF] at a c;obtain⟨m,f,i⟩:=apM.1 c;have b:=h g (amV ..);obtain⟨y,d,j⟩:=Tl.VU b;have k:up<=Tl.first g:=by
   cases g with
  |nil=>exact absurd rfl b.1
  |cons z g=>exact (a z sm).1
  have l:=(a y (atA _ d)).2;refine⟨⟨k,Int.natCast_nonneg _,by show Tl.first g+(g.length:Int)<=8192;omega⟩,?_⟩;refine HH (λg b=>h g (amG _ b)) (λx e=>⟨?_,(a x (atB _ e)).2⟩) f;have:=i y d x e;show Tl.first g+(g.length:Int)<=x.num
  omega
theorem LA {l:List Slt}(a:Tl.check l=0):Runs 0 (Tl.runs l):=by
 obtain⟨b,d⟩:=Tl.wF l;refine HH d (λx c=>?_) (by rw[b];exact (Tl.Mv a).2.1);rw[b] at c;have:=Tl.MH (Tl.wG a x c);omega
end Cs
end
section
open Go Eng
namespace Cs
theorem MO (x:Sec):(∀p∈bF x,p.2.k≠0)∧((bF x).map (·.1)).Nodup∧bF x≠[]:=by
 unfold bF;split
 ·refine⟨λp hp=>?_,by show [mV,iX,kW,gJ,qT].Nodup;decide,sm⟩;simp only[apE,amZ,alN,anA,or_false] at hp;rcases hp with rfl|rfl|rfl|rfl|rfl
  ·show (5:Int)≠0;decide
  ·show (2:Int)≠0;decide
  ·show (6:Int)≠0;decide
  ·show (6:Int)≠0;decide
  ·show (2:Int)≠0;decide
 ·refine⟨λp hp=>?_,by show [mV,iX,kW,gJ].Nodup;decide,sm⟩;simp only[amE,alN,anA,or_false] at hp;rcases hp with rfl|rfl|rfl|rfl
  ·show (5:Int)≠0;decide
  ·show (2:Int)≠0;decide
  ·show (6:Int)≠0;decide
  ·show (6:Int)≠0;decide
theorem QV (o:Ob):Vl.get (sS o) qT=none:=by
 refine Vl.ZQ λh=>?_;have h:qT∈bw:=by
  unfold sS at h;split at h
  ·cases h
  ·have h:qT∈(has o bw).map (·.1):=h;obtain⟨p,hp,e⟩:=amM.1 h;obtain⟨k,c,a⟩:=List.mem_filterMap.1 hp;cases b:Vl.get o k with
  |none=>rw[b] at a;cases a
  |some v=>
    rw[b] at a;have:=aoJ a;rw[<-e,<-this];exact c
 exact absurd h dc
theorem Xn {x:Sec}(h:(dict x).2=0):(∀p∈bF x,Vl.get (dict x).1 p.1=ax p.2)∧Vl.get (dict x).1 qT=if 0<=x.prev then ax (intO x.prev) else none:=by
 obtain⟨a,b,c⟩:=MO x;obtain⟨_,_,i3,i4⟩:=Mg (o:=sS x.trailer) (l:=bF x) h a b c;refine⟨i3,?_⟩;by_cases hp:0<=x.prev
 ·rw[alH hp];refine i3 (qT,intO x.prev) ?_;unfold bF;rw[alH hp];exact atB _ (amH.2 rfl)
 ·rw[alG hp];refine (i4 qT ?_).trans (QV _);unfold bF;rw[alG hp];show qT ∉ [mV,iX,kW,gJ]
  decide
theorem Sk {x:Sec}{P:Ob}(j:(dict x).2=0)(l:Tl.check x.aG=0)(hp:-1<=x.prev∧x.prev<=2147483647)(m:P.k=9)(b:∀k,k≠Ff.aX->k≠Ff.cL->k≠Vl.lenK->Vl.get P k=Vl.get (dict x).1 k) :
  keys P=ax ⟨[1,(wa x.aG:Nat),(wb x.aG:Nat)],Tl.runs x.aG,x.prev⟩:=by
 obtain⟨d1,d2⟩:=Xn j;have g:=LA l;have d:=Y1 (arA 0) g;have z:=JQ x.aG;have A:=KS x.aG;have a:∀p∈[(mV,Ff.cA xP),(iX,intO (size (Tl.runs x.aG))),(kW,arrO [1,(wa x.aG:Nat),(wb x.aG:Nat)]),(gJ,arrO (flat (Tl.runs x.aG)))],Vl.get (dict x).1 p.1=ax p.2:=λp hp=>d1 p (atA _ hp);have o:Vl.get P mV=ax (Ff.cA xP):=(b _ dc dc dc).trans (a (mV,_) (.head _));have q:Vl.get P iX=ax (intO (size (Tl.runs x.aG))):=(b _ dc dc dc).trans (a (iX,_) (.tail _ (.head _)));have r:Vl.get P kW=ax (arrO [1,(wa x.aG:Nat),(wb x.aG:Nat)]):=(b _ dc dc dc).trans (a (kW,_) (.tail _ (.tail _ (.head _))));have s:Vl.get P gJ=ax (arrO (flat (Tl.runs x.aG))):=(b _ dc dc dc).trans (a (gJ,_) (.tail _ (.tail _ (.tail _ (.head _)))));have t:Vl.get P qT=if 0<=x.prev then ax (intO x.prev) else none:=(b _ dc dc dc).trans d2
 have u:got P mV=Ff.cA xP:=by unfold got;rw[o];rfl
 have v:got P iX=intO (size (Tl.runs x.aG)):=by unfold got;rw[q];rfl
 have i:got P kW=arrO [1,(wa x.aG:Nat),(wb x.aG:Nat)]:=by unfold got;rw[r];rfl
 have w:isX P:=by
  unfold isX;rw[u,v,i];refine⟨m,⟨rfl,rfl⟩,⟨rfl,d⟩,rfl,rfl,λy c=>?_⟩;have c:y∈[intO 1,intO (wa x.aG:Nat),intO (wb x.aG:Nat)]:=c;simp only[alN,anA,or_false] at c;rcases c with rfl|rfl|rfl
  ·exact⟨rfl,by show (0:Int)<=1;decide,by show (1:Int)<=4;decide⟩
  ·exact⟨rfl,by show (0:Int)<=(wa x.aG:Nat);omega,by show ((wa x.aG:Nat):Int)<=4;omega⟩
  ·exact⟨rfl,by show (0:Int)<=(wb x.aG:Nat);omega,by show ((wb x.aG:Nat):Int)<=4;omega⟩
 have e:tZ P=ax (Tl.runs x.aG):=by
  unfold tZ;rw[s];show (if (6:Int)=6 then index 0 ((flat (Tl.runs x.aG)).map intO) else aw)=_;rw[alH rfl];exact Jo (arA 0) g
 have f:ES P=ax x.prev:=by
  unfold ES;rw[t];by_cases h:0<=x.prev
  ·rw[alH h];show (if inr (intO x.prev) 2147483647 then ax (intO x.prev).n else aw)=_;rw[alH ⟨rfl,h,hp.2⟩];rfl
  ·rw[alG h];show ax (-1:Int)=ax x.prev;rw[show x.prev=-1 by omega]
 unfold keys;rw[alH w,e,f,i];rfl
theorem Zc {x:Sec}(e:x.aG.length<=8192)(c:Tl.check x.aG=0):Py ⟨[1,(wa x.aG:Nat),(wb x.aG:Nat)],Tl.runs x.aG,x.prev⟩ (rows x.aG) ∧
  aG ⟨[1,(wa x.aG:Nat),(wb x.aG:Nat)],Tl.runs x.aG,x.prev⟩ (rows x.aG)=x.aG:=by
 have a:=MM (q:=x.prev) c (Li x.aG);have f:=Hs (arA 0) (LA c);have h:=JQ x.aG;have i:=KS x.aG;have g:=Tl.B4 x.aG;have b:(nums (Tl.runs x.aG)).length=x.aG.length:=by rw[Li,amT]
 have hw:wide ⟨[1,(wa x.aG:Nat),(wb x.aG:Nat)],Tl.runs x.aG,x.prev⟩=1+wa x.aG+wb x.aG:=by
  show (1:Int).toNat+((wa x.aG:Nat):Int).toNat+((wb x.aG:Nat):Int).toNat=_;rw[alQ,alQ];rfl
 have hlen:(rows x.aG).length=x.aG.length*(1+wa x.aG+wb x.aG):=sG _ _ _;have hle:x.aG.length*(1+wa x.aG+wb x.aG)<=8192*9:=aoR e om;refine⟨⟨⟨rfl,λn b=>?_⟩,⟨by show (Tl.runs x.aG).length<=_;omega,λp hp=>by have:=f p hp;omega⟩,⟨by show (nums (Tl.runs x.aG)).length<=_;omega,by rw[hw];show (nums (Tl.runs x.aG)).length*_<=_;rw[b,hlen];exact alP _,om⟩,λy d=>?_,by rw[a];exact c⟩,a⟩
 ·have b:n∈[1,((wa x.aG:Nat):Int),((wb x.aG:Nat):Int)]:=b;simp only[alN,anA,or_false] at b;rcases b with rfl|rfl|rfl<;>omega
 ·rw[a] at d;exact (Tl.MH (Tl.wG c y d)).2.1.2
theorem Vp {x:Sec}{i:It}(h:Il x i 0)(f:x.aG.length<=8192)(F:0<=a) :
  (∀y,0<=a->Bd.check i=0->keys i.obj=ax y->(Ff.decode i.obj).2=0->Py y (Ff.decode i.obj).1)∧(∀n∈(Ff.of i.obj).1,Ff.full n=Ff.nFl)∧i.num=x.own∧i.gen=0∧∃t,t.k=7∧read i a=(⟨a,x.aG,t,x.prev,-1,x.own⟩,0):=by
 unfold Il at h;have b:=why.eq_1 x;by_cases hw:why x≠0
 ·rw[alH hw] at h;exact absurd h.2.symm hw
 rw[alG hw] at h;have hw:=aoP.1 hw;rw[hw] at b;obtain⟨D,m,he,hi⟩:=h;rw[alG (λh=>h he.symm)] at hi;by_cases d:Tl.check x.aG≠0
 ·rw[alH d] at b;exact absurd b.symm d
 rw[alG d] at b;have d:=aoP.1 d;by_cases o:x.own < 1∨8191 < x.own∨x.prev < -1∨2147483647 < x.prev
 ·rw[alH o] at b;cases b
 rw[alG o] at b;by_cases c3:Vl.check 1 x.trailer≠0
 ·rw[alH c3] at b;exact absurd b.symm c3
 rw[alG c3] at b;by_cases p:x.trailer.k≠7
 ·rw[alH p] at b;cases b
 rw[alG p] at b;by_cases e:(dict x).2≠0
 ·rw[alH e] at b;exact absurd b.symm e
 have e:=aoP.1 e;have l:=Le e;have q:=FQ f;have hlen:(rows x.aG).length=x.aG.length*(1+wa x.aG+wb x.aG):=sG _ _ _;have G:=JQ x.aG;have H:=KS x.aG;have hle:x.aG.length*(1+wa x.aG+wb x.aG)<=8192*9:=aoR f om;have u:D.length<=1048576:=by
  have:=m;unfold Ff.OneR at this;rw[alG dc,alH dc,alH (FR f)] at this;omega
 obtain⟨r,v,⟨s,w⟩,z⟩:=Ff.R9 he.symm m (ZO x.aG) u om;have c:=Sk e d om r λk n1 n2 n3=>z k n1 n2 n3 (.inl l);obtain⟨A,B⟩:=Zc f d;subst hi;have C:Bd.check ⟨x.own,0,(Ff.encF (dict x).1 (pm x.aG) D).1⟩=0:=by
  unfold Bd.check;rw[alG,alG (λh=>h v),alG (by show ¬(Ff.encF (dict x).1 (pm x.aG) D).1.k=8;rw[r];decide)];have:Dk.numbers ⟨x.own,0,(Ff.encF (dict x).1 (pm x.aG) D).1⟩=true:=by
   simp only[Dk.numbers,amB,amU];omega
  rw[this];decide
 refine⟨λy _ _ E _=>?_,λn j=>?_,rfl,rfl,.mk 7 (Ff.encF (dict x).1 (pm x.aG) D).1.n (Ff.encF (dict x).1 (pm x.aG) D).1.g [] (Ff.encF (dict x).1 (pm x.aG) D).1.keys (Ff.encF (dict x).1 (pm x.aG) D).1.kids,rfl,?_⟩
 ·have:=c.symm.trans E;rw[<-aoJ this];show Py _ (Ff.decode (Ff.encF (dict x).1 (pm x.aG) D).1).1;rw[s];exact A
 ·have j:n∈(Ff.of (Ff.encF (dict x).1 (pm x.aG) D).1).1:=j;rw[w] at j;rw[amH.1 j];decide
 ·unfold read;rw[alG om,alG (λh=>h C)];show (match keys (Ff.encF (dict x).1 (pm x.aG) D).1 with|none=>_|some x=>_)=_;rw[c];dsimp only;rw[s,alG (show ¬((0:Int)≠0) by decide),B]
end Cs
end
section
open Go Eng
namespace Ff
theorem XA {v:Ob}:(Vl.put o key v).kids.length<=o.kids.length+1:=by
 show (o.kids.take _++v::o.kids.drop _).length<=_;rw[alI,amC,alR,alW];omega
theorem Up {v:Ob}(c:Vl.check 1 o=0)(d:Vl.keyed o=av)(f:Vl.name key=av)(hL:key≠Vl.lenK)(e:v.k≠0)(a:Vl.check 2 v=0)(g:o.kids.length<=8190):Vl.set o key v=(Vl.put o key v,0):=by
 have b:=Vl.K9 c d f (λ_=>hL) e a g;unfold Vl.set Vl.right;rw[alG (by rw[d];decide),alG (by rw[c];decide),alG e,alG (by rw[b];decide)]
theorem VI {p:Pm}{D:List UInt8}(h:(plain o D).2=0)(c:D.length<=1048576)(hp:pmI p)(j:o.kids.length<=8188):(encF o p D).2=0:=by
 obtain⟨d,l,b,m,n,q⟩:=Pu h c;have a:Vl.keyed (plain o D).1=true:=by simp[Vl.keyed,d]
 have e:=Up (key:=aX) (v:=cA nFl) b a dc dc (show (5:Int)≠0 by decide) (GW nFl 2 dc) om;have f:=Vl.K9 (key:=aX) (v:=cA nFl) b a dc (λ_=>by decide) (show (5:Int)≠0 by decide) (GW nFl 2 dc) om;have g:=XA (o:=(plain o D).1) (key:=aX) (v:=cA nFl);have i:=Up (key:=cL) (v:=eN p) f a dc dc (show (7:Int)≠0 by decide) (GP p 2 dc hp) om;unfold encF;rw[alG (λk=>k h),e,alG (show ¬((0:Int)≠0) by decide)];dsimp only;rw[i,alG (show ¬((0:Int)≠0) by decide)]
end Ff
namespace Cs
theorem Wq {x:Sec}{i:It}{e:Int}(h:Il x i e)(a:x.aG.length<=8192)(hw:why x=0)(hp:∀D,(Ff.plain (dict x).1 D).2=0)(d:(dict x).1.kids.length<=8188):e=0:=by
 unfold Il at h;rw[alG (λk=>k hw)] at h;obtain⟨D,b,he,_⟩:=h;rw[he];have c:=FQ a;refine Ff.VI (hp D) ?_ (pm_I _) d;unfold Ff.OneR at b;rw[alG dc,alH dc,alH (FR a)] at b;omega
def smpL:List Slt:=[⟨1,1,300,0⟩,⟨2,1,5,0⟩]
def smpX:Sec:=⟨0,smpL,.mk 7 0 0 [] [] [],7,-1,2⟩
def smpZ:Sec:=⟨0,[],.mk 7 0 0 [] [] [],0,0,0⟩
def smpI:It:=⟨1,0,.mk 7 0 0 [] [] []⟩
theorem ZM:why smpX=0:=by decide +kernel
theorem WE:(dict smpX).1.kids.length<=8188:=by decide +kernel
theorem SR (D:List UInt8):(Ff.plain (dict smpX).1 D).2=0:=by
 unfold Ff.plain;rw[alG (by decide +kernel),alG (by decide +kernel)]
theorem P5:why smpZ=1:=by decide +kernel
theorem Wu:read smpI 0=(Tl.sec0,20):=by
 have a:Bd.check smpI=0:=by decide +kernel
 have b:keys smpI.obj=none:=by decide +kernel
 unfold read;rw[alG dc,alG (λh=>h a),b]
theorem YA:wa smpL=2∧wb smpL=0:=by decide +kernel
end Cs
end
section
open Go Eng
namespace Cs
theorem Wp (p:Pm):(Ff.eN p).wt<=100:=by
 have:(Ff.eN p).wt=(Ff.eN ⟨0,0,0⟩).wt:=rfl;rw[this];decide +kernel
theorem abB (o:Ob)(p:Pm)(D:List UInt8):(Ff.encF o p D).1.wt<=o.wt+D.length+1000:=by
 have a:=Ff.PL o D;have b:=Vl.Mb (Ff.plain o D).1 Ff.aX (Ff.cA Ff.nFl);have c:=Vl.Mb (Vl.set (Ff.plain o D).1 Ff.aX (Ff.cA Ff.nFl)).1 Ff.cL (Ff.eN p);have d:=Wp p;have e:(Ff.cA Ff.nFl).wt<=100:=by decide +kernel
 have f:Ff.aX.length<=20:=dc
 have g:Ff.cL.length<=20:=dc
 have h:Vl.ob0.wt<=6:=dc
 unfold Ff.encF;split
 ·omega
 split
 ·show Vl.ob0.wt<=_;omega
 split
 ·show Vl.ob0.wt<=_;omega
 ·show (Vl.set (Vl.set (Ff.plain o D).1 Ff.aX (Ff.cA Ff.nFl)).1 Ff.cL (Ff.eN p)).1.wt<=_;omega
theorem Z1 {x:Sec}{i:It}{e:Int}(h:Il x i e)(a:x.aG.length<=8192)(hw:x.trailer.wt<=10000000):i.obj.wt<=1000000000:=by
 have k:Dk.it0.obj.wt<=6:=dc
 unfold Il at h;split at h
 ·rw[h.1];omega
 obtain⟨D,b,he,hi⟩:=h;rw[hi];split
 ·omega
 have c:=FQ a;have l:D.length<=1048576:=by
  unfold Ff.OneR at b;rw[alG dc,alH dc,alH (FR a)] at b;omega
 have m:=abB (dict x).1 (pm x.aG) D;have n:=Qk x.trailer;have d:=Tl.B4 x.aG;obtain⟨f,g⟩:=KA x om;have j:=Gx (bF x) (sS x.trailer) 100000 f;have o:(100000+11)*(bF x).length<=(100000+11)*5:=asZ _ g;have p:(dict x).1.wt<=(sS x.trailer).wt+(100000+11)*(bF x).length+6:=j;show (Ff.encF (dict x).1 (pm x.aG) D).1.wt<=_;omega
end Cs
end
section
open Eng Go.RowKit
theorem ov7 (N:Mem):OV N.A N.w (obV (.mk 7 0 0 [] [] []) nilS nilS) (.mk 7 0 0 [] [] []):=ObAt.ov (o:=.mk 7 0 0 [] [] []) (vk:=nilS) (vc:=nilS) (cs:=[]) ⟨SlA.nil _ _ _ _,SlA.nil _ _ _ _,.nil⟩
theorem HR (M:Mem)(w:ao)(o:Rp M)(p:Od M)(f:Pws M)(hM:M.has w):RetM ah 32 #[] M w (λr _=>r=.bool av):=by
 refine bB hM λK hK=>tM ?_;unfold nF nz;have e1:∀{PK:PKT} {K:VWP} {W:ao},DoX ah (aS 83 #[(0,.int .i64 1),(1,.int .i64 1),(2,.int .i64 300)]) W PK K=K (slV ⟨1,1,300,0⟩) W:=λ{PK K W}=>aD krx;have e2:∀{PK:PKT} {K:VWP} {W:ao},DoX ah (aS 83 #[(0,.int .i64 2),(1,.int .i64 1),(2,.int .i64 5)]) W PK K=K (slV ⟨2,1,5,0⟩) W:=λ{PK K W}=>aD krx;have e3:∀{PK:PKT} {K:VWP} {W:ao},DoX ah (aS 25 #[(0,.int .i64 7)]) W PK K=K (obV (.mk 7 0 0 [] [] []) nilS nilS) W:=λ{PK K W}=>aD krx;have e4:∀{b:Nat} {PK:PKT} {K:VWP} {W:ao},DoX ah (aS 63 #[(1,.slice (ax ⟨b,0,aw⟩) 2 2),(2,obV (.mk 7 0 0 [] [] []) nilS nilS),(3,.int .i64 7),(4,.int .i64 (-1)),(5,.int .i64 2)]) W PK K=K (secV Cs.smpX (.slice (ax ⟨b,0,aw⟩) 2 2) nilS nilS) W:=λ{b PK K W}=>aD krx;have e5:∀{PK:PKT} {K:VWP} {W:ao},DoX ah (aS 63 #[(2,obV (.mk 7 0 0 [] [] []) nilS nilS)]) W PK K=K (secV Cs.smpZ nilS nilS nilS) W:=λ{PK K W}=>aD krx;have e6:∀{PK:PKT} {K:VWP} {W:ao},DoX ah (aS 57 #[(0,.int .i64 1),(2,obV (.mk 7 0 0 [] [] []) nilS nilS)]) W PK K=K (itV Cs.smpI nilS nilS) W:=λ{PK K W}=>aD krx;rw[e1,e2];refine bA (λb=>.slice (ax ⟨b,0,aw⟩) 2 2) (slsC Cs.smpL) 83 (λ_=>by kernel_rfl) (OwnS.memS hM) λb1 w1 c=>?_;have c:=c.toU 4 2 2 rfl om om;obtain⟨N1,l1,g,c⟩:=c.bJ 0 rfl;have g:SlA N1.A N1.w (.slice (ax ⟨b1,0,aw⟩) 2 2) 4 Cs.smpL.length (slsC Cs.smpL):=g;rw[e3,e4];refine UH c λb2 w2 c=>?_;refine Jj (y:=Cs.smpX) 0 rfl rfl rfl c rfl λw3 c=>?_;rw[se_v c 0 rfl];have c:OwnS M.A w w3 [secE b2 Cs.smpX (.slice (ax ⟨b1,0,aw⟩) 2 2) nilS nilS,.mem N1]:=c;refine bH c 1 rfl (Mu Cs.smpX _ nilS nilS N1 w3 (f.le l1) dc dc (c.hasM 1 rfl) g (ov7 N1)) ?_;rintro _ N2 w4 l2 ⟨i,e,u,x,rfl,q,h⟩ c;have he:e=0:=Cs.Wq q dc Cs.ZM Cs.SR Cs.WE;subst he;obtain⟨B,C,D,E,t,b6,a1⟩:=Cs.Vp q dc (a:=9) dc;have m:i.obj.wt<=1000000000:=Cs.Z1 q dc dc;have c:=c.tail;simp only[ex];refine Zj c λb3 w5 c=>?_;refine Mx 0 (i':=i) h.oneK h.oneC c rfl λw6 c=>?_;have c:OwnS M.A w w6 [itE b3 i u x,.mem N2]:=c;rw[l_at (c.agg 0 rfl Ro)];have j:=l1.trans l2;refine bH c 1 rfl (Gk i 9 N2 w6 (o.le j) (p.le j) (f.le j) m (c.hasM 1 rfl) h C B) ?_;rintro _ N3 w7 l3 ⟨sv,rfl,d⟩ c;rw[a1] at d ⊢;obtain⟨z,F,G,rfl,H,I⟩:=d;simp only[ex];refine UH c λJ w8 c=>?_;refine Jj (y:=⟨9,Cs.smpL,t,7,-1,2⟩) 0 H.one I.oneK I.oneC c rfl λw9 c=>?_;have c:OwnS M.A w w9 [secE J ⟨9,Cs.smpL,t,7,-1,2⟩ z F G,itE b3 i u x,.mem N3]:=c;rw[e3,e6];have k:=j.trans l3;refine bH c 2 rfl (Gk Cs.smpI 0 N3 w9 (o.le k) (p.le k) (f.le k) dc (c.hasM 2 rfl) (ov7 N3) (λn hn=>by cases hn) (λy _ _ hy _=>by
  have:Cs.keys Cs.smpI.obj=none:=by decide +kernel
  rw[this] at hy;cases hy)) ?_
 rintro _ N4 b8 Y ⟨sv,rfl,d⟩ c;rw[Cs.Wu] at d ⊢;obtain⟨zs,zk,zc,rfl,a6,L⟩:=d;simp only[ex];refine UH c λb7 c0 c=>?_;refine Jj (y:=Tl.sec0) 0 a6.one L.oneK L.oneC c rfl λN c=>?_;have c:=c.tail;have c:OwnS M.A w N [secE J ⟨9,Cs.smpL,t,7,-1,2⟩ z F G,itE b3 i u x,.mem N4]:=c;rw[l_at (c.agg 1 rfl Ro)];have l:=k.trans Y;refine bH c 2 rfl (Gk i (-1) N4 N (o.le l) (p.le l) (f.le l) m (c.hasM 2 rfl) ((h.le l3).le Y) C (λy h0 _ _ _=>absurd h0 dc)) ?_;rintro _ N5 c1 l5 ⟨sv,rfl,d⟩ c;have a7:Cs.read i (-1)=(Tl.sec0,1):=by unfold Cs.read;rw[alH dc]
 rw[a7] at d ⊢;obtain⟨us,uk,uc,rfl,a8,O⟩:=d;simp only[ex];refine UH c λb9 c2 c=>?_;refine Jj (y:=Tl.sec0) 0 a8.one O.oneK O.oneC c rfl λP c=>?_;have c:=c.tail;have c:OwnS M.A w P [secE J ⟨9,Cs.smpL,t,7,-1,2⟩ z F G,itE b3 i u x,.mem N5]:=c;rw[e3,e5];have b0:=l.trans l5;refine bH c 2 rfl (Mu Cs.smpZ nilS nilS nilS N5 P (f.le b0) dc dc (c.hasM 2 rfl) (SlA.nil _ _ _ _) (ov7 N5)) ?_;rintro _ N6 c3 l6 ⟨i2,b4,jk,jc,rfl,s,Q⟩ c;have hZ:b4=1:=by
  unfold Cs.Il at s;rw[alH (by rw[Cs.P5];decide)] at s;rw[s.2,Cs.P5]
 subst hZ;simp only[ex];refine Zj c λc4 c5 c=>?_;refine Mx 0 (i':=i2) Q.oneK Q.oneC c rfl λS c=>?_;have c:=c.tail;have c:OwnS M.A w S [secE J ⟨9,Cs.smpL,t,7,-1,2⟩ z F G,itE b3 i u x,.mem N6]:=c;have lN:=((((l2.trans l3).trans Y).trans l5).trans l6);refine bH c 2 rfl (BF Cs.smpL _ N6 S dc (c.hasM 2 rfl) (g.le lN)) ?_;rintro _ Z T l7 rfl c;have c:OwnS M.A w T [secE J ⟨9,Cs.smpL,t,7,-1,2⟩ z F G,itE b3 i u x,.mem Z]:=c;rw[m_w3,Cs.YA.1,Cs.YA.2];have e7:∀{PK:PKT} {K:VWP} {W:ao} {xo yo:Operand},DoX ah (mEq .eql 71 xo yo (w3V ((2:Nat):Int) ((0:Nat):Int)) (w3V 2 0)) W PK K=K (.bool av) W:=λ{PK K W xo yo}=>aD krx;rw[e7];have U:=(g.le lN).le l7;have V:=((((H.le Y).le l5).le l6).le l7);have X:M.le Z:=(l1.trans lN).trans l7;simp only[rs,alK];rw[MW,G9 c 1 rfl,D];have e8:Cs.smpX.own=2:=rfl;simp only[rs,e8,alK];rw[VH,OM c 1 rfl,E];simp only[rs,alK];rw[L7,SW c 0 rfl]
 try simp only[rs,alK]
 refine aM c (R:=λv=>v=.bool (ai (Cs.smpL=Cs.smpL))) (KZ Cs.smpL Cs.smpL z _ Z T dc (c.hasM 2 rfl) V U) ?_;rintro _ c6 rfl c;simp only[rs,alK];rw[PJ,aJ aU (c.cell 0 rfl 8 rfl)];simp only[rs,alK];rw[acV,aJ aU (c.cell 0 rfl 9 rfl)];simp only[rs,alK];rw[OQ,aJ aU (c.cell 0 rfl 10 rfl)];simp only[rs,alK];rw[aeL,aJ aU (c.cell 0 rfl 0 rfl)];simp only[rs,alK];exact hK _ _ Z _ 2 c rfl X rfl
end
section
open Go Eng
namespace Cs
theorem P7:∀(f:Nat) (n:Int),0<=n->nbG f n < f->n < ((256 ^ nbG f n:Nat):Int)
|0,_,_,h=>absurd h (Nat.not_lt_zero _)
|f+1,n,c,h=>by
  unfold nbG at h ⊢;split
  ·rename_i a
   rw[alH a] at h;have b:n.fdiv 256=n / 256:=aqI _ dc;rw[b] at h ⊢;have:=P7 f (n / 256) om om;rw[anL]
   push_cast at this ⊢;omega
  ·show n < ((256 ^ 0:Nat):Int);have:(256:Nat) ^ 0=1:=rfl;omega
theorem L3:∀(f:Nat) (n:Int) (k:Nat),nbG f n=k+1->((256 ^ k:Nat):Int)<=n
|0,_,_,h=>by cases h
|f+1,n,k,h=>by
  unfold nbG at h;split at h
  ·rename_i b
   have a:n.fdiv 256=n / 256:=aqI _ dc;rw[a] at h;cases k with
  |zero=>
    have:(256:Nat) ^ 0=1:=rfl;omega
  |succ k=>
    have:=L3 f (n / 256) k om;rw[anL]
    push_cast at this ⊢;omega
  ·cases h
theorem Lw:∀(l:List Int) (m:Int),l.foldl (λm x=>max m x) m=m∨l.foldl (λm x=>max m x) m∈l
|[],m=>.inl rfl
|a::l,m=>by
  rw[asA];rcases Lw l (max m a) with h|h
  ·rw[h];rcases Int.le_total m a with b|b
   ·rw[Int.max_eq_right b];exact .inr (amV ..)
   ·rw[Int.max_eq_left b];exact .inl rfl
  ·exact .inr (amG _ h)
theorem pow8 (k:Nat):(2:Int) ^ (8*k)=((256 ^ k:Nat):Int):=by
 rw[Int.pow_mul];push_cast;rfl
theorem adB {l:List Int}{x:Int}(a:x∈l)(b:nb (maxL l) < 4):¬0 < x.fdiv (2 ^ (8*nb (maxL l))):=by
 obtain⟨c,d⟩:=foldl_max l 0;have e:=P7 4 (maxL l) c b;have g:=d x a;have hp:0 < ((256 ^ nb (maxL l):Nat):Int):=by have:=Nat.pow_pos (n:=nb (maxL l)) (show 0 < 256 by decide);omega
 rw[pow8,aqI _ (Int.le_of_lt hp)];have f:x < ((256 ^ nb (maxL l):Nat):Int):=by unfold nb;unfold maxL at e ⊢;omega
 intro h;have:=(atX hp).1 (show 1<=x / ((256 ^ nb (maxL l):Nat):Int) by omega);omega
theorem Uj {l:List Int}(h:0 < nb (maxL l)):∃x∈l,0 < x∧0 < x.fdiv (2 ^ (8*nb (maxL l) - 8)):=by
 obtain⟨k,a⟩:∃k,nb (maxL l)=k+1:=⟨nb (maxL l) - 1,om⟩;have b:=L3 4 (maxL l) k a;have hp:0 < ((256 ^ k:Nat):Int):=by have:=Nat.pow_pos (n:=k) (show 0 < 256 by decide);omega
 refine⟨maxL l,?_,om,?_⟩
 ·rcases Lw l 0 with h|h
  ·have:maxL l=0:=h;omega
  ·exact h
 ·rw[a,show 8*(k+1) - 8=8*k by omega,pow8,aqI _ (Int.le_of_lt hp)];have:=(atX hp).2 (show 1*((256 ^ k:Nat):Int)<=maxL l by omega);omega
end Cs
end
section
set_option maxHeartbeats 2000000
open Eng Go.RowKit
section
variable {C:ao->Prop}{K:aq->Prop}
theorem E4 {n:Nat}(h:n<=4)(k:K (.int .i64 ((8*n:Nat):Int))):QDo ah C (mBin .mul 3 (.int .i64 8) (.int .i64 (n:Int))) K:=q_do _ (λ_=>by rw[ZX,aA om om];rw[show (8:Int)*n=((8*n:Nat):Int) by omega]) k
theorem EB {n:Nat}(a:0 < n)(h:n<=4)(k:K (.int .i64 ((8*n - 8:Nat):Int))):QDo ah C (mBin .sub 3 (.int .i64 ((8*n:Nat):Int)) (.int .i64 8)) K:=q_do _ (λ_=>by rw[rB,aA om om];rw[show ((8*n:Nat):Int) - 8=((8*n - 8:Nat):Int) by omega]) k
theorem VW (h:m<=40)(k:K (.int .u64 (m:Int))):QDo ah C (sE 3 84 (.int .i64 (m:Int))) K:=
 q_do _ (λ_=>by rw[dU (show (Tryz.prog.underlying 3).isSome=av by kernel_rfl) arG,abM om]) k
theorem Wo {x:Int}(h:m<=40)(k:K (.int .i64 (x.fdiv (2 ^ m)))):QDo ah C (mBin .shr 3 (.int .i64 x) (.int .u64 (m:Int))) K:=
 q_do _ (λ_=>by rw[VB om,show min ((m:Nat):Int).toNat IntKind.i64.bits=m by show min ((m:Nat):Int).toNat 64=m;rw[alQ];omega]) k
end
def gv (b:Bool)(v:aq):Value:=bif b then v else undef
theorem gv_t {b:Bool}(h:b=av):gv b v=v:=by subst h;rfl
section
variable {C:ao->Prop}{K:aq->Prop}
theorem gq_s {b:Bool}{E:(aq->Prop)->Prop}(v:aq)(h:b=av->∀K,K v->E K)(k:K (gv b v)):GQ (.bool b) av E K:=by
 cases b
 ·rw[abI];exact k
 ·rw[adF];exact h rfl K k
theorem gq_p {b c:Bool}(k:K (.bool (b&&c))):QDo ah C (kH (.bool b) (gv b (.bool c)) (.bool au)) K:=by
 cases b
 ·exact q_pf k
 ·exact q_pt k
end
theorem EV {c:Bool}{n:Nat}(h:(c&&ai (0 < (n:Int)))=av):0 < n:=by
 rw[amB] at h;have:=alZ h.2;omega
namespace Cs
def tight (w:Nat)(x:Int):Bool:=ai (0 < x)&&(ai ((0:Int) < (w:Int))&&ai (0 < x.fdiv (2 ^ (8*w - 8))))
end Cs
theorem HC (l:List Slt)(v:aq)(M:Mem)(w:ao)(G:Rp M)(H:Od M)(I:Pws M)(hM:M.has w)(o:l.length<=9223372036854775807)(hf:Nq l)(S:SlA M.A M.w v 4 l.length (slsC l)) :
  RetM ah 10 #[v] M w (λr _=>r=.bool av):=by
 refine bB hM λK hK=>mQ ?_;unfold iB nz;have c:=OwnS.memS hM;have lv:∀{W:ao} {L:List Ent} {N:Mem} (j:Nat),OwnS M.A w W L->L[j]?=ax (.mem N)->M.le N->CallX ah 32 #[] W (pk K) λt w=>K (.returned t) w:=by
  intro W L N j c T hle;refine bH c j T (HR N W (G.le hle) (H.le hle) (I.le hle) (c.hasM j T)) ?_;rintro _ U W2 V rfl c;exact hK _ _ U _ j c (aoS (alY.1 T).1) (hle.trans V) rfl
 rw[bE aoU (S.now (c.hasM 0 rfl))];simp only[rs];by_cases hl:(200:Int) < (l.length:Int)
 ·simp only[alM hl,i_t];exact lv 0 c rfl M.le_refl
 simp only[alJ hl,i_f];refine bH c 0 rfl (BF l v M w om (c.hasM 0 rfl) S) ?_;rintro _ N w1 J rfl c;refine o_w3 c λb3 w2 c=>?_;refine UC 0 rfl c rfl λw3 c=>?_;have c:OwnS M.A w w3 [.cells b3 (w3C (Cs.wa l:Nat) (Cs.wb l:Nat)) 71,.mem N]:=c;have u:=Cs.JQ l;have z:=Cs.KS l;have i0:∀{W:ao} {PK:PKT} {K:VWP},DoX ah (mIA 71 (.pointer (ax ⟨b3,0,aw⟩)) (.int .i64 0)) W PK K=K (.pointer (ax ⟨b3,0,aw⟩)) W:=λ{W PK K}=>aD krx;have i1:∀{W:ao} {PK:PKT} {K:VWP},DoX ah (mIA 71 (.pointer (ax ⟨b3,0,aw⟩)) (.int .i64 1)) W PK K=K (.pointer (ax ⟨b3,1,aw⟩)) W:=λ{W PK K}=>aD krx;have i2:∀{W:ao} {PK:PKT} {K:VWP},DoX ah (mIA 71 (.pointer (ax ⟨b3,0,aw⟩)) (.int .i64 2)) W PK K=K (.pointer (ax ⟨b3,2,aw⟩)) W:=λ{W PK K}=>aD krx;rw[i0,aJ aU (c.cell 0 rfl 0 rfl)];simp only[rs,show ai ((1:Int)≠1)=au from rfl];rw[i1,aJ aU (c.cell 0 rfl 1 rfl)];simp only[rs,show ai (((Cs.wa l:Nat):Int) < 0)=au from alJ om];rw[i1,aJ aU (c.cell 0 rfl 1 rfl)];simp only[rs,show ai ((4:Int) < ((Cs.wa l:Nat):Int))=au from alJ om];rw[i2,aJ aU (c.cell 0 rfl 2 rfl)];simp only[rs,show ai (((Cs.wb l:Nat):Int) < 0)=au from alJ om];rw[i2,aJ aU (c.cell 0 rfl 2 rfl)];simp only[rs,show ai ((4:Int) < ((Cs.wb l:Nat):Int))=au from alJ om,i_f];have p:∀{C:ao->Prop} {K:aq->Prop},K (.pointer (ax ⟨b3,1,aw⟩))->QDo ah C (mIA 71 (.pointer (ax ⟨b3,0,aw⟩)) (.int .i64 1)) K:=λ{C K} k=>q_do _ (λ_=>by kernel_rfl) k;have q:∀{C:ao->Prop} {K:aq->Prop},K (.pointer (ax ⟨b3,2,aw⟩))->QDo ah C (mIA 71 (.pointer (ax ⟨b3,0,aw⟩)) (.int .i64 2)) K:=λ{C K} k=>q_do _ (λ_=>by kernel_rfl) k;have E:∀{K:aq->Prop},K (.int .i64 (Cs.wa l:Nat))->QDo ah (λW=>OwnS M.A w W [.cells b3 (w3C (Cs.wa l:Nat) (Cs.wb l:Nat)) 71,.mem N]) (aH 3 (.pointer (ax ⟨b3,1,aw⟩))) K:=λ{K} k=>q_at _ (λW h=>aB aU (h.cell 0 rfl 1 rfl)) k;have F:∀{K:aq->Prop},K (.int .i64 (Cs.wb l:Nat))->QDo ah (λW=>OwnS M.A w W [.cells b3 (w3C (Cs.wa l:Nat) (Cs.wb l:Nat)) 71,.mem N]) (aH 3 (.pointer (ax ⟨b3,2,aw⟩))) K:=λ{K} k=>q_at _ (λW h=>aB aU (h.cell 0 rfl 2 rfl)) k;refine dK (λW=>OwnS M.A w W [.cells b3 (w3C (Cs.wa l:Nat) (Cs.wb l:Nat)) 71,.mem N]) c.drew ?_;refine p (E (q_eq (q (F (q_eq ?_)))));intro w4 c;refine loop (λvs W=>∃(i:Nat) (A B:Bool),vs=[.bool A,.bool B,.int .i64 (i:Int)]∧i<=l.length∧A=(ai (((Cs.wa l:Nat):Int)=0)||(l.take i).any λy=>Cs.tight (Cs.wa l) y.a)∧B=(ai (((Cs.wb l:Nat):Int)=0)||(l.take i).any λy=>Cs.tight (Cs.wb l) y.b)∧OwnS M.A w W [.cells b3 (w3C (Cs.wa l:Nat) (Cs.wb l:Nat)) 71,.mem N]) (λvs _=>l.length - (RowKit.intOf (vs.getD 2 undef)).toNat) ⟨0,_,_,rfl,om,sm,sm,c⟩ ?_;clear c;rintro vs w5 ⟨i,A,B,rfl,hi,Q,R,c⟩ _;have O:=S.le J;simp only[fV,gd,nz];rw[bE aoU (O.now (c.hasM 1 rfl))];simp only[rs];by_cases P:(i:Int) < (l.length:Int)
 case neg=>
  simp only[alJ P,i_f];have:i=l.length:=om
  subst this;rw[anI] at Q R;have X:A=true:=by
   rw[Q];by_cases h:Cs.wa l=0
   ·rw[alM om,Bool.true_or]
   ·obtain⟨x,Y,t1,t2⟩:=Cs.Uj (l:=l.map Slt.a) (show 0 < Cs.wa l by omega);obtain⟨y,Z,rfl⟩:=amM.1 Y;rw[apC];refine .inr (aoW.2 ⟨y,Z,?_⟩);have t2:0 < y.a.fdiv (2 ^ (8*Cs.wa l - 8)):=t2;unfold Cs.tight;rw[alM t1,alM om,alM t2];rfl
  have a1:B=true:=by
   rw[R];by_cases h:Cs.wb l=0
   ·rw[alM om,Bool.true_or]
   ·obtain⟨x,Y,t1,t2⟩:=Cs.Uj (l:=l.map Slt.b) (show 0 < Cs.wb l by omega);obtain⟨y,Z,rfl⟩:=amM.1 Y;rw[apC];refine .inr (aoW.2 ⟨y,Z,?_⟩);have t2:0 < y.b.fdiv (2 ^ (8*Cs.wb l - 8)):=t2;unfold Cs.tight;rw[alM t1,alM om,alM t2];rfl
  rw[X,a1];simp only[rs];refine bH c 1 rfl (HR N w5 (G.le J) (H.le J) (I.le J) (c.hasM 1 rfl)) ?_;rintro _ U W2 V rfl c
  try simp only[rs]
  exact hK _ _ U _ 1 c rfl (J.trans V) rfl
 simp only[alM P,i_t];have s:i < l.length:=om
 obtain⟨g,off,hr⟩:=oJ O s;have fa:((Cs.wa l:Nat):Int) < 4->¬0 < l[i].a.fdiv (2 ^ (8*Cs.wa l)):=λh=>Cs.adB (l:=l.map Slt.a) (amM.2 ⟨_,alX s,rfl⟩) (show Cs.wa l < 4 by omega);have fb:((Cs.wb l:Nat):Int) < 4->¬0 < l[i].b.fdiv (2 ^ (8*Cs.wb l)):=λh=>Cs.adB (l:=l.map Slt.b) (amM.2 ⟨_,alX s,rfl⟩) (show Cs.wb l < 4 by omega);have D:∀{K:aq->Prop},K (.pointer (ax ⟨g,off,aw⟩))->QDo ah (λW=>OwnS M.A w W [.cells b3 (w3C (Cs.wa l:Nat) (Cs.wb l:Nat)) 71,.mem N]) (mIA 61 v (.int .i64 (i:Int))) K:=λ{K} k=>q_at _ (λW h=>(hr W (h.hasM 1 rfl)).1) k;have d:∀{C:ao->Prop} {K:aq->Prop},K (.pointer (ax ⟨g,off+2,aw⟩))->QDo ah C (mFA 83 (.pointer (ax ⟨g,off,aw⟩)) 2) K:=λ{C K} k=>q_do _ (λ_=>bC fs2) k;have e:∀{C:ao->Prop} {K:aq->Prop},K (.pointer (ax ⟨g,off+3,aw⟩))->QDo ah C (mFA 83 (.pointer (ax ⟨g,off,aw⟩)) 3) K:=λ{C K} k=>q_do _ (λ_=>bC fs3) k;have f:∀{K:aq->Prop},K (.int .i64 l[i].a)->QDo ah (λW=>OwnS M.A w W [.cells b3 (w3C (Cs.wa l:Nat) (Cs.wb l:Nat)) 71,.mem N]) (aH 3 (.pointer (ax ⟨g,off+2,aw⟩))) K:=λ{K} k=>q_at _ (λW h=>aB aU ((hr W (h.hasM 1 rfl)).2 2 _ rfl)) k;have m:∀{K:aq->Prop},K (.int .i64 l[i].b)->QDo ah (λW=>OwnS M.A w W [.cells b3 (w3C (Cs.wa l:Nat) (Cs.wb l:Nat)) 71,.mem N]) (aH 3 (.pointer (ax ⟨g,off+3,aw⟩))) K:=λ{K} k=>q_at _ (λW h=>aB aU ((hr W (h.hasM 1 rfl)).2 3 _ rfl)) k;have a6:(l.take (i+1)).any (λy=>Cs.tight (Cs.wa l) y.a)=((l.take i).any (λy=>Cs.tight (Cs.wa l) y.a)||Cs.tight (Cs.wa l) l[i].a):=by
  rw[amO s,List.any_append,List.any_cons,List.any_nil,arL]
 have a7:(l.take (i+1)).any (λy=>Cs.tight (Cs.wb l) y.b)=((l.take i).any (λy=>Cs.tight (Cs.wb l) y.b)||Cs.tight (Cs.wb l) l[i].b):=by
  rw[amO s,List.any_append,List.any_cons,List.any_nil,arL]
 have fw:∀(n:Nat) (x:Int),((n:Int) < 4->¬0 < x.fdiv (2 ^ (8*n)))->((ai ((n:Int) < 4)&&ai (0 < x))&&ai (0 < x.fdiv (2 ^ (8*n))))=false:=by
  intro n x h;by_cases h4:(n:Int) < 4
  ·rw[alJ (h h4),asP]
  ·rw[alJ h4];rfl
 refine dK (λW=>OwnS M.A w W [.cells b3 (w3C (Cs.wa l:Nat) (Cs.wb l:Nat)) 71,.mem N]) c.drew ?_;refine p (E (DQ ?_))
 repeat first
 |refine gq_s _ (λ_ _ k=>k) ?_
 |refine gq_s _ (λo _ k=>by (try simp only[gv_t o]);with_reducible first|exact p k|exact q k|exact E k|exact F k|exact D k|exact d k|exact e k|exact f k|exact m k|exact yS k|exact DQ k|exact E4 u k|exact E4 z k|exact EB (EV o) u k|exact EB (EV o) z k|exact VW om k|exact Wo om k) ?_
 |with_reducible refine gq_p ?_
 |with_reducible refine D ?_
 |with_reducible refine d ?_
 |with_reducible refine e ?_
 |with_reducible refine f ?_
 |with_reducible refine m ?_
 |with_reducible refine yS ?_
 simp only[fw _ _ fa,Mh];refine q ?_
 try simp only[Mh]
 refine F ?_
 try simp only[Mh]
 refine DQ ?_
 try simp only[Mh]
 repeat first
 |refine gq_s _ (λ_ _ k=>k) ?_
 |refine gq_s _ (λo _ k=>by (try simp only[gv_t o]);with_reducible first|exact p k|exact q k|exact E k|exact F k|exact D k|exact d k|exact e k|exact f k|exact m k|exact yS k|exact DQ k|exact E4 u k|exact E4 z k|exact EB (EV o) u k|exact EB (EV o) z k|exact VW om k|exact Wo om k) ?_
 |with_reducible refine gq_p ?_
 |with_reducible refine D ?_
 |with_reducible refine d ?_
 |with_reducible refine e ?_
 |with_reducible refine f ?_
 |with_reducible refine m ?_
 |with_reducible refine yS ?_
 simp only[fw _ _ fb,Mh];refine q_pf ?_;intro w6 c;simp only[i_f];have nxt:∀(W:ao) (A' B':Bool),A'=(A||Cs.tight (Cs.wa l) l[i].a)->B'=(B||Cs.tight (Cs.wb l) l[i].b)->OwnS M.A w W [.cells b3 (w3C (Cs.wa l:Nat) (Cs.wb l:Nat)) 71,.mem N] ->
   (∃(k:Nat) (A B:Bool),[Value.bool A',.bool B',.int .i64 ((i+1:Nat):Int)]=[.bool A,.bool B,.int .i64 (k:Int)]∧k<=l.length∧A=(ai (((Cs.wa l:Nat):Int)=0)||(l.take k).any λy=>Cs.tight (Cs.wa l) y.a)∧B=(ai (((Cs.wb l:Nat):Int)=0)||(l.take k).any λy=>Cs.tight (Cs.wb l) y.b)∧OwnS M.A w W [.cells b3 (w3C (Cs.wa l:Nat) (Cs.wb l:Nat)) 71,.mem N]):=by
  intro W A' B' a8 b0 c;refine⟨i+1,_,_,rfl,om,?_,?_,c⟩
  ·rw[a6,a8,Q,Bool.or_assoc]
  ·rw[a7,b0,R,Bool.or_assoc]
 refine dK (λW=>OwnS M.A w W [.cells b3 (w3C (Cs.wa l:Nat) (Cs.wb l:Nat)) 71,.mem N]) c.drew ?_;have tA:∀(n:Nat) (x:Int),((ai (0 < x)&&ai ((0:Int) < (n:Int)))&&ai (0 < x.fdiv (2 ^ (8*n - 8))))=(au||Cs.tight n x):=λn x=>by unfold Cs.tight;rw[asK,Bool.and_assoc]
 clear Q R;cases A
 case' true=>
  simp only[aaW,D5];refine q_pt ?_
 case' false=>
  simp only[Mh]
  repeat first
  |refine gq_s _ (λ_ _ k=>k) ?_
  |refine gq_s _ (λo _ k=>by (try simp only[gv_t o]);with_reducible first|exact p k|exact q k|exact E k|exact F k|exact D k|exact d k|exact e k|exact f k|exact m k|exact yS k|exact DQ k|exact E4 u k|exact E4 z k|exact EB (EV o) u k|exact EB (EV o) z k|exact VW om k|exact Wo om k) ?_
  |with_reducible refine gq_p ?_
  |with_reducible refine D ?_
  |with_reducible refine d ?_
  |with_reducible refine e ?_
  |with_reducible refine f ?_
  |with_reducible refine m ?_
  |with_reducible refine yS ?_
  refine q_pf ?_
 all_goals
  intro w7 c;refine dK (λW=>OwnS M.A w W [.cells b3 (w3C (Cs.wa l:Nat) (Cs.wb l:Nat)) 71,.mem N]) c.drew ?_;cases B
  case' true=>
   simp only[aaW,D5];refine q_pt ?_
  case' false=>
   simp only[Mh]
   repeat first
   |refine gq_s _ (λ_ _ k=>k) ?_
   |refine gq_s _ (λo _ k=>by (try simp only[gv_t o]);with_reducible first|exact p k|exact q k|exact E k|exact F k|exact D k|exact d k|exact e k|exact f k|exact m k|exact yS k|exact DQ k|exact E4 u k|exact E4 z k|exact EB (EV o) u k|exact EB (EV o) z k|exact VW om k|exact Wo om k) ?_
   |with_reducible refine gq_p ?_
   |with_reducible refine D ?_
   |with_reducible refine d ?_
   |with_reducible refine e ?_
   |with_reducible refine f ?_
   |with_reducible refine m ?_
   |with_reducible refine yS ?_
   refine q_pf ?_
 all_goals
  intro w8 c
  try simp only[rs]
  rw[aA om om];exact aY (nxt _ _ _ (by first|rfl|exact tA _ _) (by first|rfl|exact tA _ _) c) (by simp[RowKit.intOf];omega)
end
section
open Eng Go.RowKit Go.ChangeShapes Go.WideShapes Go.ChangeAt
set_option maxRecDepth 100000
theorem Yz {α:Type}:∀{l:List α},l.length=4->∃a b c d,l=[a,b,c,d]
|[a,b,c,d],_=>⟨a,b,c,d,rfl⟩
section
variable {H:Type}{enc:TypeId×aq->H}{W:ao}{sp:Nat->Bool}{held:Bool}
theorem TH (fuel:Nat)(cs:List aq)(x:DataW H×List MemPlace)(h:DataW.trod enc ah W 0 sp held fuel 83 cs=ax x):∃l:Slt,(cs=slC l∧(-9223372036854775808<=l.num∧l.num<=9223372036854775807)∧l.a<=9223372036854775807∧l.b<=9223372036854775807)∧cs.length=4∧1<=Rows.uptoBulk x.1:=by
 obtain⟨xs,n,rfl,rfl,p,e,f⟩:=DataW.trod_struct underlying83 h;have u:Tryz.prog.cellsOf 83=4:=krx
 rw[u] at p;have e:xs.length=4:=e;obtain⟨v,w,y,z,rfl⟩:=Yz e;obtain⟨v0,v1,v2,v3,rfl⟩:=Yz p;have q:=f 0 _ rfl;have r:=f 1 _ rfl;have s:=f 2 _ rfl;have t:=f 3 _ rfl;have k0:Tryz.prog.cellsOf 3=1:=krx
 simp only[k0,aoL,asR,asQ,apL,aqR,amS] at q r s t;obtain⟨a,g,rfl,hw⟩:=DataW.trod_int anG q;obtain⟨b,i,rfl,_⟩:=DataW.trod_int anG r;obtain⟨c,j,rfl,k⟩:=DataW.trod_int anG s;obtain⟨d,m,rfl,o⟩:=DataW.trod_int anG t
 injection g with g _
 injection i with i _
 injection j with j _
 injection m with m _
 subst g;subst i;subst j;subst m;refine⟨⟨a,b,c,d⟩,⟨rfl,qZ hw,(qZ k).2,(qZ o).2⟩,rfl,?_⟩;simp only[Rows.uptoBulk,anE,apS,Rows.uptoBulkAll];omega
theorem PE:∀{cs:List aq} {l:List Slt},Rws (λcs x=>cs=slC x∧(-9223372036854775808<=x.num∧x.num<=9223372036854775807)∧x.a<=9223372036854775807∧x.b<=9223372036854775807) cs l->cs=slsC l∧Nq l∧SltI l
|_,_,.nil=>⟨rfl,(λx c=>by cases c),λx c=>by cases c⟩
|_,_,.cons (a:=a) (rest:=rest) h t=>by
  obtain⟨d,e,f⟩:=PE t;refine⟨by rw[h.1,d];rfl,λx c=>?_,λx c=>?_⟩
  ·rcases alN.1 c with rfl|c
   ·exact h.2.1
   ·exact e x c
  ·rcases alN.1 c with rfl|c
   ·exact h.2.2
   ·exact f x c
theorem Vo {h:Nat}{d:DataW H}{ps:List MemPlace}(c:Value.okWide ah W .any h 61 v)(i:DataW.Trod enc ah W 0 sp held 61 v d ps) :
  ∃l:List Slt,SlA (Mem.all W).A (Mem.all W).w v 4 l.length (slsC l)∧Nq l∧l.length<=9223372036854775807:=by
 obtain⟨a,len,cap,rfl⟩:=okWide_slice aoU c;obtain⟨fuel,j⟩:=i;obtain⟨v',ds,xs,f,k,m,o,q⟩:=Kd (R:=λcs x=>cs=slC x∧(-9223372036854775808<=x.num∧x.num<=9223372036854775807)∧x.a<=9223372036854775807∧x.b<=9223372036854775807) (wt:=λ_:Slt=>1) (n:=4) aoU krx dc TH j;have e:v'=.slice a len cap:=by
  have f:[Value.slice a len cap]=[v']:=f
  injection f with f _
  exact f.symm
 subst e;obtain⟨g,p,_⟩:=PE m;subst g;exact⟨xs,k,p,o⟩
end
end
section
open Eng Go.RowKit
def aaA (w:ao)(g:Nat):World:=
 { w with heap:=(w.heap.modify g λ
  |.cells _ t frozen=>.cells #[.map (ax w.heap.size)] t frozen
  |o=>o).push (.map #[⟨.int .i64 16,.agg #[.int .i64 3,.int .i64 2],0⟩,⟨.int .i64 17,.agg #[.int .i64 3,.int .i64 3],1⟩,⟨.int .i64 18,.agg #[.int .i64 11,.int .i64 7],2⟩] 3) }
end
end Go.Proofs.YtlipjfcbjemicaaGreatDoor



namespace Go.Proofs.YtlipjfcbjemicaaGreatDoor
variable{K:VWP}{N:Eng.Mem}{PK:PKT}{R:Ending->FrameMode->ao->Prop}{W w:ao}{a:Int}{args ca fa:Array aq}{cs:List aq}{f i j m:Nat}{key:List UInt8}{o:Ob}{pv t0 v vc vk:aq}{u:FrameMode}{t0:aq}{k0:Eng.KT}
section
open Eng Go.RowKit Go.ChangeShapes Go.WideShapes Go.ChangeAt
set_option maxRecDepth 100000
theorem X7 {α:Type}:∀{l:List α},l.length=2->∃a b,l=[a,b]
|[a,b],_=>⟨a,b,rfl⟩
theorem mapM_mem {α β:Type}{f:α->Option β}:∀{l:List α} {r:List β},l.mapM f=ax r->(∀a∈l,∃b∈r,f a=ax b)∧∀b∈r,∃a∈l,f a=ax b
|[],r,h=>by
  simp only[List.mapM_nil,Option.pure_def,apK] at h;subst h;exact⟨(λa d=>by cases d),(λb g=>by cases g)⟩
|x::l,r,h=>by
  simp only[List.mapM_cons,Option.bind_eq_bind,aqU,Option.pure_def,apK] at h;obtain⟨b,g,j,i,rfl⟩:=h;obtain⟨i1,i2⟩:=mapM_mem i;refine⟨λa d=>?_,λc e=>?_⟩
  ·rcases alN.1 d with rfl|d
   ·exact⟨b,amV,g⟩
   ·obtain⟨c,e,he⟩:=i1 a d;exact⟨c,amG _ e,he⟩
  ·rcases alN.1 e with rfl|e
   ·exact⟨x,amV,g⟩
   ·obtain⟨a,d,he⟩:=i2 c e;exact⟨a,amG _ d,he⟩
theorem Tx {H:Type}(x y:Lit×DataW H):∀l:List (Lit×DataW H),y∈DataW.insert x l↔y=x∨y∈l
|[]=>by simp[DataW.insert]
|z::r=>by
  unfold DataW.insert;split
  ·simp
  ·rw[alN,Tx x y r,alN];constructor
   ·rintro (h|h|h)
    ·exact .inr (.inl h)
    ·exact .inl h
    ·exact .inr (.inr h)
   ·rintro (h|h|h)
    ·exact .inr (.inl h)
    ·exact .inl h
    ·exact .inr (.inr h)
theorem IL {H:Type}(y:Lit×DataW H):∀l:List (Lit×DataW H),y∈l.foldr DataW.insert []↔y∈l
|[]=>by simp
|x::r=>by rw[List.foldr_cons,Tx,IL y r,alN]
section
variable {H:Type}{enc:TypeId×aq->H}{W:ao}{sp:Nat->Bool}{held:Bool}
theorem Qe (fuel:Nat)(cs:List aq)(x:DataW H×List MemPlace)(h:DataW.trod enc ah W 0 sp held fuel 363 cs=ax x):∃a b:Int,cs=[.int .i64 a,.int .i64 b]∧x.1=.agg [.lit (.int .i64 a),.lit (.int .i64 b)]:=by
 obtain⟨xs,n,rfl,d,g,c,i⟩:=DataW.trod_struct underlying363 h;have l:Tryz.prog.cellsOf 363=2:=krx
 rw[l] at g;have c:xs.length=2:=c;obtain⟨m,o,rfl⟩:=X7 c;obtain⟨v0,v1,rfl⟩:=X7 g;have j:=i 0 _ rfl;have k:=i 1 _ rfl;have k0:Tryz.prog.cellsOf 3=1:=krx
 simp only[k0,aoL,asR,asQ,apL,aqR,amS] at j k;obtain⟨a,e,rfl,_⟩:=DataW.trod_int anG j;obtain⟨b,f,rfl,_⟩:=DataW.trod_int anG k
 injection e with e _
 injection f with f _
 subst e;subst f;exact⟨a,b,rfl,by rw[d];rfl⟩
end
section
variable {H:Type}{enc:TypeId×aq->H}{P:Program}{W:ao}{sp:Nat->Bool}{held:Bool}
theorem Sr {t k e:TypeId}(i:P.underlying t=ax (.map k e)){fuel:Nat}{L:List (Lit×DataW H)}{p:List MemPlace}(h:DataW.trod enc P W 0 sp held fuel t cs=ax (.map L,p)) :
  ∃b es clock n entries,cs=[.map (ax b)]∧W.heap[b]?=ax (.map es clock) ∧
   (es.toList.mapM λx=>(keyOf P k x.key).bind λkey=>if x.val.formed P e then (DataW.trod enc P W 0 sp held n e x.val.cells.toList).map λy=>((key,y.1),y.2) else aw)=ax entries ∧
   (entries.map (·.1)).foldr DataW.insert []=L:=by
 cases fuel with
|zero=>simp[DataW.trod] at h
|succ n=>
  unfold DataW.trod at h;rw[i] at h;rcases cs with _|⟨c,_|⟨d,r⟩⟩
  ·simp at h
  ·cases c with
  |map a=>
    cases a with
   |none=>simp at h
   |some b=>
     dsimp only at h;cases g:W.heap[b]? with
    |none=>rw[g] at h;simp at h
    |some o=>
      rw[g] at h;cases o with
     |map es clock=>
       dsimp only at h;split at h
       ·obtain⟨entries,j,f⟩:=aqU.1 h;refine⟨b,es,clock,n,entries,rfl,g,j,?_⟩
        try dsimp only at f
        split at f
        ·injection f with f
         injection f with f _
         injection f with f
        ·cases f
       ·cases h
     |_=>simp at h
  |_=>simp at h
  ·simp at h
end
def rpD {H:Type}:List (Lit×DataW H):=[(.int .i64 16,.agg [.lit (.int .i64 3),.lit (.int .i64 2)]),(.int .i64 17,.agg [.lit (.int .i64 3),.lit (.int .i64 3)]),(.int .i64 18,.agg [.lit (.int .i64 11),.lit (.int .i64 7)])]
def repK (x:MapEntry):Int×Value:=(match x.key with|.int _ n=>n|_=>0,x.val)
theorem Tc {a:Lit}(h:keyOf ah 3 v=ax a):∃n:Int,v=.int .i64 n∧a=.int .i64 n:=by
 unfold keyOf at h;rw[anG] at h;dsimp only at h;unfold mapKey at h;rw[anG] at h;cases v with
|int q n=>
  dsimp only at h;split at h
  ·rename_i b
   obtain⟨rfl,_⟩:=b
   injection h with h
   exact⟨n,rfl,h.symm⟩
  ·cases h
|_=>simp at h
theorem Xe (a:List (Int×aq))(d:∀p∈a,p∈rpM)(e:∀p∈rpM,p∈a)(k:Int):tL a k=tL rpM k:=by
 unfold tL;cases b:a.find? (λp=>ai (p.1=k)) with
|none=>
  have f:=atU.1 b;have:rpM.find? (λp=>ai (p.1=k))=none:=atU.2 λp hp=>f p (e p hp);rw[this]
|some p=>
  have hm:=d p (List.mem_of_find?_eq_some b);have c:p.1=k:=by simpa using List.find?_some b
  simp only[rpM,alN,anA,or_false] at hm;rcases hm with rfl|rfl|rfl<;>(dsimp only at c;subst c;rfl)
theorem ZF {rest:List (String×DataW Unit)}(h:laidMet ah (("foliant/inflate.repeats",.map rpD)::rest) W):Rp (Mem.all W):=by
 obtain⟨ps,⟨g',t',cs,fuel,p,q,hg',ht',hvar,hd,_,_⟩,_⟩:=h;obtain rfl:=aoJ ((show Tryz.prog.globalNamed "foliant/inflate.repeats"=ax 3 by kernel_rfl).symm.trans hg')
 obtain rfl:=aoJ ((show (Tryz.prog.globals[3]?).map (·.type)=ax 365 by kernel_rfl).symm.trans ht');obtain⟨b,es,clock,n,entries,hcs,hb,hm,hs⟩:=Sr mpRp hd;have hcell:=World.var?_cell (show Tryz.prog.globalNamed "foliant/inflate.repeats"=ax 3 by kernel_rfl) hvar 0
 have hc0:cs[0]?=ax (.map (ax b)):=by
  rw[<-Array.getElem?_toList,hcs];rfl
 rw[hc0] at hcell;have hgb:3 < W.heap.size:=by
  have:=hcell;unfold World.cell? at this;cases hh:W.heap[3]? with
 |none=>simp[hh] at this
 |some o=>exact dV hh
 obtain⟨m1,m2⟩:=mapM_mem hm;have hL:∀y:Lit×DataW Unit,y∈(rpD:List (Lit×DataW Unit))↔y∈entries.map (·.1):=λy=>by rw[<-hs];exact IL y _
 -- each entry
 have ent:∀x∈es.toList,∃k a c:Int,x.key=.int .i64 k∧x.val=.agg #[.int .i64 a,.int .i64 c]∧((Lit.int .i64 k,DataW.agg [.lit (.int .i64 a),.lit (.int .i64 c)]):Lit×DataW Unit)∈rpD:=by
  intro x hx;obtain⟨en,hen,hf⟩:=m1 x hx;obtain⟨kl,hk,hf⟩:=aqU.1 hf;obtain⟨k,hk1,rfl⟩:=Tc hk;split at hf
  ·rename_i hfm
   obtain⟨y,hy,rfl⟩:=anP.1 hf;obtain⟨a,c,hcs2,hy1⟩:=Qe _ _ _ hy;refine⟨k,a,c,hk1,?_,?_⟩
   ·cases hv:x.val with
   |agg vs=>
     rw[hv] at hcs2;have:vs.toList=[.int .i64 a,.int .i64 c]:=hcs2;rw[show vs=vs.toList.toArray by simp,this]
   |_=>rw[hv] at hfm;exact absurd hfm (by unfold Value.formed;rw[underlying363];simp)
   ·rw[hL,<-hy1];exact amM.2 ⟨_,hen,rfl⟩
  ·cases hf
 have inR:∀{k a c:Int},((Lit.int .i64 k,DataW.agg [.lit (.int .i64 a),.lit (.int .i64 c)]):Lit×DataW Unit)∈rpD->(k,Value.agg #[.int .i64 a,.int .i64 c])∈rpM:=by
  intro k a c h;simp only[rpD,alN,anA,or_false,apJ] at h;rcases h with ⟨h1,h2⟩|⟨h1,h2⟩|⟨h1,h2⟩<;>(injection h1 with _ h1;injection h2 with h2;simp only[aqJ,and_true] at h2;obtain⟨h3,h4⟩:=h2;injection h3 with h3;injection h4 with h4;injection h3 with _ h3;injection h4 with _ h4;subst h1;subst h3;subst h4;simp[rpM])
 refine⟨b,hgb,hcell,dV hb,es.toList.map repK,Xe _ ?_ ?_,es,clock,hb,?_⟩
 ·intro p hp;obtain⟨x,hx,rfl⟩:=amM.1 hp;obtain⟨k,a,c,e1,e2,e3⟩:=ent x hx;have:repK x=(k,.agg #[.int .i64 a,.int .i64 c]):=by unfold repK;rw[e1,e2]
  rw[this];exact inR e3
 ·intro p hp;have key:∀{k a c:Int},((Lit.int .i64 k,DataW.agg [.lit (.int .i64 a),.lit (.int .i64 c)]):Lit×DataW Unit)∈rpD->(k,Value.agg #[.int .i64 a,.int .i64 c])∈es.toList.map repK:=by
   intro k a c h;obtain⟨en,hen,he⟩:=amM.1 ((hL _).1 h);obtain⟨x,hx,hf⟩:=m2 en hen;obtain⟨k',a',c',e1,e2,_⟩:=ent x hx;obtain⟨kl,hk,hf⟩:=aqU.1 hf;obtain⟨k2,hk1,rfl⟩:=Tc hk;split at hf
   ·obtain⟨y,hy,rfl⟩:=anP.1 hf;obtain⟨a2,c2,hcs2,hy1⟩:=Qe _ _ _ hy;rw[e2] at hcs2;have hcs2:[Value.int .i64 a',Value.int .i64 c']=[.int .i64 a2,.int .i64 c2]:=hcs2;simp only[aqJ,and_true] at hcs2;obtain⟨q1,q2⟩:=hcs2
    injection q1 with _ q1
    injection q2 with _ q2
    rw[e1] at hk1
    injection hk1 with _ hk1
    dsimp only at he;rw[hy1] at he
    injection he with he1 he2
    injection he1 with _ he1
    injection he2 with he2
    simp only[aqJ,and_true] at he2;obtain⟨w1,w2⟩:=he2
    injection w1 with w1
    injection w2 with w2
    injection w1 with _ w1
    injection w2 with _ w2
    refine amM.2 ⟨x,hx,?_⟩;unfold repK;rw[e1,e2];subst q1;subst q2;subst hk1;subst he1;subst w1;subst w2;rfl
   ·cases hf
  simp only[rpM,alN,anA,or_false] at hp;rcases hp with rfl|rfl|rfl
  ·exact key (by simp[rpD])
  ·exact key (by simp[rpD])
  ·exact key (by simp[rpD])
 ·rw[arF];refine aqS λx hx=>?_;obtain⟨k,a,c,e1,e2,e3⟩:=ent x hx;show (x.key,x.val)=(intK (repK x).1,(repK x).2);unfold repK;rw[e1];rfl
end
section
open Eng Go.RowKit Go.ChangeShapes Go.WideShapes Go.ChangeAt
set_option maxRecDepth 100000
section
variable {H:Type}{enc:TypeId×aq->H}{W:ao}{sp:Nat->Bool}{held:Bool}
end
theorem Sq {g:Nat}(h:W.cell? ⟨g,i,aw⟩=ax v):g < W.heap.size:=by
 unfold World.cell? at h;cases a:W.heap[g]? with
|none=>simp[a] at h
|some o=>exact dV a
theorem Zh (h:Lib.TabIs ah W "foliant/inflate.order" .i64 [16,17,18,0,8,7,9,6,10,5,11,4,12,3,13,2,14,1,15]):Od (Mem.all W):=by
 refine⟨Sq (Lib.TabIs.cell (g:=2) h krx 0 dc),λi hi=>?_⟩;have:=Lib.TabIs.cell (g:=2) h krx i hi;rw[show (Mem.all W).w=W from rfl,this];rcases lt19 hi with rfl|rfl|rfl|rfl|rfl|rfl|rfl|rfl|rfl|rfl|rfl|rfl|rfl|rfl|rfl|rfl|rfl|rfl|rfl<;>rfl
theorem VN (h:Lib.TabIs ah W "foliant/ascii.powers" .u64 [52200625,614125,7225,85,1]):Pws (Mem.all W):=by
 refine⟨Sq (Lib.TabIs.cell (g:=0) h krx 0 dc),λi hi=>?_⟩;have:=Lib.TabIs.cell (g:=0) h krx i hi;rw[show (Mem.all W).w=W from rfl,this];rcases lt5 hi with rfl|rfl|rfl|rfl|rfl<;>rfl
end
section
open Eng Go.RowKit
theorem crossWidths_row (l:List Slt)(v:aq)(w:ao)(a:Rp (Mem.all w))(b:Od (Mem.all w))(c:Pws (Mem.all w))(d:SlA (Mem.all w).A (Mem.all w).w v 4 l.length (slsC l))(e:Nq l)(f:l.length<=9223372036854775807) :
  Ret ah 10 #[v] w (λv w'=>v=.bool av∧Below w.heap.size w w'):=
 RetM.told (HC l v (Mem.all w) w a b c (Mem.Zt w) f e d)
end
end Go.Proofs.YtlipjfcbjemicaaGreatDoor
