/- Parts of the proof. -/
import Derived.Test.YtkghomgfocpgeaaGreatDoorRows
import GoSem.ClaimGoes
import Derived.KernelRfl
import Derived.Test.YtkghomgfocpgeaaGreatDoorMppdaejam
set_option linter.all false
set_option maxRecDepth 20000
open Go.Proofs.Tryz
open Go.Proofs.Tryz renaming prog->ah
open Option renaming some->ax,none->aw
open Bool renaming true->av,false->au
open Go renaming Value->aq,World->ao
open Decidable renaming decide->ai
namespace Go.Proofs.YtkghomgfocpgeaaGreatDoor
variable{K:VWP}{M N:Eng.Mem}{P:Program}{PK:PKT}{S:Nat->Prop}{W w w0:ao}{a lo:Int}{b cap fuel i j jm most p tb:Nat}{cs:List aq}{l:List Nat}{o:Ob}{ps:List Pc}{pv v v' vc vk:aq}{xo yo:Operand}{α β:Type}{t0 t1 t2:aq}{k0:Eng.KT}
section
open Eng
def nP(t0 t1 t2 w)(K:KT):=nz f52 1 [] [] [] (zg [0,1,2] [t0,t1,t2]) w K
theorem xF:nP t0 t1 t2 w k0->Calls ah 52 #[t0,t1,t2] w k0:=cw func52
def nQ(t1 t2 t6 t7 w)(a:JT)(K:KT):=nz f53 87 [a] [nh 11 [6,7]] [] (zg [1,2,6,7] [t1,t2,t6,t7]) w K
def rP(t0 t1 w)(K:KT):=nz f53 1 [] [(11,[6,7],λs v j w f=>nQ (s 1) (s 2) (vg v 0) (vg v 1) w (f 0) K)] [] (zg [0,1] [t0,t1]) w K
theorem BA:rP t0 t1 w k0->Calls ah 53 #[t0,t1] w k0:=cz [] [(5,[6,7])] func53
def jN(t11 t12 t13 t14 w)(a b:JT)(K:KT):=nz f25 95615 [a,b] [nh 29 [11,12,13],nh 41 [11,14]] [] (zg [11,12,13,14] [t11,t12,t13,t14]) w K
def jM(t6 t11 t12 t13 w)(a:JT)(K:KT):=nz f25 1407 [a] [nh 29 [11,12,13],(41,[11,14],λs v j w f=>jN (vg v 0) (s 12) (s 13) (vg v 1) w (f 1) (f 0) K)] [(16,19),(18,11)] (zg [6,11,12,13] [t6,t11,t12,t13]) w K
def jH(t6 w)(K:KT):=nz f25 63 [] [(29,[11,12,13],λs v j w f=>jM (s 6) (vg v 0) (vg v 1) (vg v 2) w (f 0) K)] [] (zg [6] [t6]) w K
def lK(t0 w)(K:KT):=nz f25 1 [] [(22,[6],λs v j w f=>jH (vg v 0) w K)] [] (zg [0] [t0]) w K
theorem vZ:lK t0 w k0->Calls ah 25 #[t0] w k0:=cz [(11,[6])] [(14,[11,12,13]),(20,[11,14])] func25
def nS(t0 w)(K:KT):=nz f26 1 [] [] [] (zg [0] [t0]) w K
theorem xI:nS t0 w k0->Calls ah 26 #[t0] w k0:=cw func26
def sL(t0 w)(K:KT):=nz f29 1 [] [] [] (zg [0] [t0]) w K
theorem BR:sL t0 w k0->Calls ah 29 #[t0] w k0:=cw func29
def qK(t0 w)(K:KT):=nz f23 1 [] [] [] (zg [0] [t0]) w K
theorem zK:qK t0 w k0->Calls ah 23 #[t0] w k0:=cw func23
def lV(t0 t3 t4 w)(a:JT)(K:KT):=nz f27 43 [a] [nh 7 [3,4]] [] (zg [0,3,4] [t0,t3,t4]) w K
def pI(t0 w)(K:KT):=nz f27 1 [] [(7,[3,4],λs v j w f=>lV (s 0) (vg v 0) (vg v 1) w (f 0) K)] [] (zg [0] [t0]) w K
theorem Ae:pI t0 w k0->Calls ah 27 #[t0] w k0:=cz [] [(3,[3,4])] func27
def oG(b f g a h c d e w)(I:JT)(K:KT):=
 bnx .gtr 3 e (iN 2) w K λi w=>IfX i (dx (aN 34 #[]) w K λj w=>stx 34 b j w K λ_ w=>zu ah [.cell b 34,.val (iN 20)] w K) (zp w (λE=>QDo ah E (mIA 59 g c) λk=>QDo ah E (aG 3 k) λl=>QDo ah E (mIA 59 a (iN 0)) λm=>QDo ah E (aG 3 m) λn=>QDo ah E (mIA 59 a (iN 0)) λo=>QDo ah E (aG 3 o) λp=>QDo ah E (mIA 59 a (iN 1)) λq=>QDo ah E (aG 3 q) λr=>QDo ah E (gS .add 3 p r) λs=>QDo ah E (cY 9 d (ax n) (ax s) aw) λt=>Eu ah E 27 #[t] λu=>QDo ah E (mIA 59 a (iN 0)) λv=>QDo ah E (aG 3 v) λx=>QDo ah E (mIA 59 a (iN 1)) λy=>QDo ah E (aG 3 y) λz=>QDo ah E (gS .add 3 x z) λA=>QDo ah E (cY 9 d (ax A) aw aw) λB=>Eu ah E 27 #[B] λC=>QDo ah E (aN 42 #[(0,l),(1,e),(2,u),(3,C)]) λD=>
 ∀w,E w ->
 DoX ah (bJ 32 1 #[(0,D)]) w (ay 11 (pk K)) λF w=>DoX ah (mB .append #[32,32] 32 #[au,au] #[h,F]) w (ay 11 (pk K)) λG w=>bnx .add 3 c (iN 1) w K λH w=>I [f,G,H] w))
def oL(t1 t2 t4 t5 t7 t8 t10 t12 t14 t15 t16 w)(a:JT)(K:KT):=nz f8 45055 [a] [nh 39 [5,15,16],(50,[18],λs v j w f=>oG (s 4) (s 5) (s 10) (s 12) (s 15) (s 16) (s 17) (vg v 0) w (f 0) K)] [] (zg [1,2,4,5,7,8,10,12,14,15,16] [t1,t2,t4,t5,t7,t8,t10,t12,t14,t15,t16]) w K
def tC(t0 t1 w)(K:KT):=nz f8 1 [] [(39,[5,15,16],λs v j w f=>oL (s 1) (s 2) (s 4) (vg v 0) (s 7) (s 8) (s 10) (s 12) (s 14) (vg v 1) (vg v 2) w (f 0) K)] [(14,12)] (zg [0,1] [t0,t1]) w K
theorem BE:tC t0 t1 w k0->Calls ah 8 #[t0,t1] w k0:=cz [(25,[18])] [(19,[5,15,16])] func8
def lT(t0 t1 t5 w)(a:JT)(K:KT):=nz f13 43 [a] [nh 9 [5]] [(6,9)] (zg [0,1,5] [t0,t1,t5]) w K
def qI(t0 t1 w)(K:KT):=nz f13 1 [] [(9,[5],λs v j w f=>lT (s 0) (s 1) (vg v 0) w (f 0) K)] [] (zg [0,1] [t0,t1]) w K
theorem yR:qI t0 t1 w k0->Calls ah 13 #[t0,t1] w k0:=cz [] [(4,[5])] func13
def rU(t0 t1 w)(K:KT):=nz f9 1 [] [] [] (zg [0,1] [t0,t1]) w K
theorem Bt:rU t0 t1 w k0->Calls ah 9 #[t0,t1] w k0:=cw func9
end
section
open Eng Go.RowKit
theorem F7 (o:Ob)(v:aq)(key:List UInt8)(m:Int)(M:Mem)(w:ao)(hw:o.wt<=100000000000)(f:M.has w)(g:OV M.A M.w v o) :
  lA ah 52 #[v,ae key,ad m] M w (λr _=>r=.tuple #[ad ((Cs.M1 o key m).getD 0),.bool (Cs.M1 o key m).isSome]):=by
 obtain⟨vk,vc,cs,rfl,i⟩:=g.open;refine aO f λK e=>xF ?_;generalize b:Cs.M1 o key m=X at e;unfold Cs.M1 at b;unfold nP nz;refine dD o i.keys.one i.kids.one (dQ.memS f) λb2 p a=>?_;rw[oV a 0 rfl];refine aY a 1 rfl (kX o _ key M p hw (a.hasM 1 rfl) g) ?_;rintro _ N w2 hle ⟨t,rfl,c⟩ a;obtain⟨q,s,rfl,c⟩:=iC c;simp only[G5,ex];refine dF a λu y a=>?_;refine bK 0 c.oneK c.oneC a rfl λj a=>?_;have a:dQ M.A w j [obE u ((Vl.get o key).getD Vl.ob0) q s,obE b2 o vk vc,.mem N]:=a;have no:X=aw->K (.returned (.tuple #[(ad 0),(.bool au)])) j:=λh=>e _ _ N _ 2 a rfl hle (by rw[h];rfl);cases l:Vl.get o key with
|none=>
  rw[l] at b;simp only[awT,rs,awA,g_tf,iO,i_t];exact no b.symm
|some x=>
  rw[l] at b a;dsimp only at b;rw[awN] at a;simp only[awU,rs,avY];rw[cO,zn a 0 rfl];simp only[rs];by_cases d:x.k=2
  case neg=>
   rw[auO (λh=>d h.1)] at b;simp only[auR (show x.k≠2 from d),rs,iO,i_t];exact no b.symm
  simp only[auQ (show ¬x.k≠2 fromλh=>h d),rs];rw[oA,Dr a 0 rfl];simp only[rs];by_cases a2:x.n < 0
  ·rw[auO (λh=>by have:=h.2.1;omega)] at b;simp only[auR a2,rs,iO,i_t];exact no b.symm
  simp only[auQ a2,rs];rw[oA,Dr a 0 rfl];simp only[rs];by_cases a3:m < x.n
  ·rw[auO (λh=>by have:=h.2.2;omega)] at b;simp only[auR a3,rs,i_t];exact no b.symm
  rw[auP ⟨d,om,om⟩] at b;simp only[auQ a3,rs,i_f];rw[oA,Dr a 0 rfl];exact e _ _ N _ 2 a rfl hle (by rw[<-b];rfl)
theorem L3 (o:Ob)(v:aq)(m:Int)(M:Mem)(w:ao)(hw:o.wt<=1000000000)(F:M.has w)(I:OV M.A M.w v o) :
  lA ah 53 #[v,ad m] M w (λr N=>∃G,r=.tuple #[G,.bool (Cs.ints o m).isSome]∧SlA N.A N.w G 1 ((Cs.ints o m).getD []).length (tD ((Cs.ints o m).getD []))):=by
 obtain⟨vk,vc,cs,rfl,p⟩:=I.open;have J:o.kids.length<=1000000000:=by have:=Ob.pB o.kids;cases o;rw[Ob.wt] at hw;simp only[Ob.kids] at this ⊢;omega
 refine aO F λK C=>BA ?_;generalize f:Cs.ints o m=X at C;unfold Cs.ints at f;unfold rP nz;refine dD o p.keys.one p.kids.one (dQ.memS F) λb2 U a=>?_;rw[cO,zn a 0 rfl];simp only[rs];have no:∀{W:ao} {L:List Ent} (j:Nat),dQ M.A w W L->L[j]?=ax (.mem M)->X=aw->K (.returned (.tuple #[(.slice aw 0 0),(.bool au)])) W:=λj a O s=>C _ _ M _ j a O M.le_refl ⟨_,by rw[s];rfl,by rw[s];exact SlA.nil _ _ _ _⟩;by_cases t:o.k=6
 case neg=>
  rw[auO (λh=>t h.1)] at f;simp only[auR (show o.k≠6 from t),i_t];exact no 1 a rfl f.symm
 simp only[auQ (show ¬o.k≠6 fromλh=>h t),i_f];have a:=dQ.nilU a 3 1;refine loop (λvs W=>∃(i:Nat) (u:aq),vs=[u,ad (i:Int)]∧i<=o.kids.length∧(∀k (h:k < o.kids.length),k < i->Cs.inr o.kids[k] m)∧dQ M.A w W [.urow 3 1 u i (tD ((o.kids.take i).map Ob.n)),obE b2 o vk vc,.mem M]) (λvs _=>o.kids.length - n1 vs) ⟨0,_,rfl,om,λk _ h=>by omega,a⟩ ?_;clear a;rintro vs w2 ⟨i,u,rfl,hi,g,a⟩ _;simp only[nQ,gd,nz];rw[eW,bW a 1 rfl,aS avI (p.kids.now (a.hasM 2 rfl))];simp only[rs];by_cases q:(i:Int) < (o.kids.length:Int)
 case neg=>
  simp only[auQ q,i_f];have:i=o.kids.length:=om
  subst this;rw[awI] at a;rw[auP ⟨t,λx s=>by
   obtain⟨k,y,rfl⟩:=axT s;exact g k y y⟩] at f
  obtain⟨N,P,D,a⟩:=dQ.bH a 1 rfl;refine C _ _ N _ 1 a rfl P ⟨u,by rw[<-f];rfl,?_⟩;rw[<-f,awN,avS];exact D
 simp only[auR q,i_t];have l:i < o.kids.length:=om
 obtain⟨b,off,V,Y,d,Q,c⟩:=QX p.kids p.all l;have z:∀{W:ao},M.has W->W.cell? ⟨b,off,aw⟩=ax (ad o.kids[i].k)∧W.cell? ⟨b,off+1,aw⟩=ax (ad o.kids[i].n):=λH=>⟨c _ H 0 _ rfl,c _ H 1 _ rfl⟩;have E:¬Cs.inr o.kids[i] m->X=none:=λh=>by rw[auO (λR=>h (R.2 _ (avD l)))] at f;exact f.symm
 rw[eW,bW a 1 rfl,aC (d w2),cO,aH aW (z (a.hasM 2 rfl)).1];simp only[rs];by_cases B:o.kids[i].k=2
 case neg=>
  simp only[auR (show o.kids[i].k≠2 from B),rs,iO,i_t];exact no 2 a rfl (E λh=>B h.1)
 simp only[auQ (show ¬o.kids[i].k≠2 fromλh=>h B),rs];rw[eW,bW a 1 rfl]
 try simp only[rs]
 rw[aC (d w2),oA,aH nI65 (z (a.hasM 2 rfl)).2];simp only[rs];by_cases a2:o.kids[i].n < 0
 ·simp only[auR a2,rs,iO,i_t];exact no 2 a rfl (E λh=>by have:=h.2.1;omega)
 simp only[auQ a2,rs];rw[eW,bW a 1 rfl]
 try simp only[rs]
 rw[aC (d w2),oA,aH nI65 (z (a.hasM 2 rfl)).2];simp only[rs];by_cases a3:m < o.kids[i].n
 ·simp only[auR a3,rs,i_t];exact no 2 a rfl (E λh=>by have:=h.2.2;omega)
 simp only[auQ a3,rs,i_f];rw[eW,bW a 1 rfl,aC (d w2),oA,aH nI65 (z (a.hasM 2 rfl)).2];refine kK o.kids[i].n a λZ w3 a=>?_;refine gY 1 a rfl (a.sl 0 rfl 1 1 1 rfl) gI om λS w4 a=>?_
 try simp only[rs]
 rw[aA om om];refine aU ⟨i+1,S,rfl,om,λk y T=>?_,?_⟩ (by simp[n1,RowKit.intOf];omega)
 ·rcases awO k i with h|h
  ·exact g k y h
  ·have:k=i:=om
   subst this;exact⟨B,om,om⟩
 ·have e:tD ((o.kids.take (i+1)).map Ob.n)=tD ((o.kids.take i).map Ob.n)++tD [o.kids[i].n]:=by
   rw[avP l,avT];unfold tD;rw[avT];rfl
  rw[e];exact a.tail
theorem Lr (o:Ob)(v:aq)(M:Mem)(w:ao)(hw:o.wt<=100000000000)(e:M.has w)(d:OV M.A M.w v o) :
  lA ah 29 #[v] M w (λr _=>r=.tuple #[ad ((Cs.uU o).getD 0),.bool (Cs.uU o).isSome]):=by
 obtain⟨vk,vc,cs,rfl,f⟩:=d.open;refine aO e λK b=>BR ?_;rw[Cs.aaS] at b;unfold sL nz;refine dD o f.keys.one f.kids.one (dQ.memS e) λb2 h a=>?_;rw[oV a 0 rfl];refine aY a 1 rfl (kX o _ Cs.BV M h hw (a.hasM 1 rfl) d) ?_;rintro _ N w2 hle ⟨t,rfl,c⟩ a;obtain⟨l,m,rfl,c⟩:=iC c;simp only[G5,ex];refine dF a λn p a=>?_;refine bK 0 c.oneK c.oneC a rfl λi a=>?_;cases g:Vl.get o Cs.BV with
|none=>
  rw[g] at b;simp only[awT,rs,awA,i_t];exact b _ _ N _ 2 a rfl hle rfl
|some x=>
  rw[g] at b;simp only[awU,rs,avY,i_f];rw[oV a 1 rfl];refine aY a 2 rfl (F7 o _ Cs.BV 2147483647 N i hw (a.hasM 2 rfl) (d.le hle)) ?_;rintro _ j q k rfl a;simp only[ex];exact b _ _ j _ 2 a rfl (hle.trans k) rfl
theorem F8 (o:Ob)(v:aq)(M:Mem)(w:ao)(hw:o.wt<=1000000000)(j:M.has w)(k:OV M.A M.w v o) :
  lA ah 26 #[v] M w (λr N=>∃c,r=.tuple #[c,.bool (Cs.Af o).isSome]∧∀l,Cs.Af o=ax l->SlA N.A N.w c 1 l.length (tD l)):=by
 obtain⟨vk,vc,cs,rfl,m⟩:=k.open;refine aO j λK e=>xI ?_;generalize b:Cs.Af o=X at e;unfold Cs.Af at b;unfold nS nz;refine dD o m.keys.one m.kids.one (dQ.memS j) λb2 p a=>?_;rw[oV a 0 rfl];refine aY a 1 rfl (kX o _ Cs.kW M p om (a.hasM 1 rfl) k) ?_;rintro _ N w2 hle ⟨t,rfl,d⟩ a;obtain⟨u,x,rfl,d⟩:=iC d;simp only[G5,ex];refine dF a λy z a=>?_;refine bK 0 d.oneK d.oneC a rfl λq a=>?_;rw[oV a 0 rfl];have s:(Cs.got o Cs.kW).wt<=o.wt:=Cs.Jr;refine aY a 2 rfl (L3 (Cs.got o Cs.kW) _ 4 N q om (a.hasM 2 rfl) d) ?_;rintro _ g B i ⟨c,rfl,f⟩ a;simp only[ex];cases hi:Cs.ints (Cs.got o Cs.kW) 4 with
|none=>
  rw[hi] at b;simp only[awT,rs,iO];exact e _ _ g _ 2 a rfl (hle.trans i) ⟨c,by rw[<-b];rfl,λl h=>by rw[<-b] at h;cases h⟩
|some l=>
  rw[hi] at b f;dsimp only at b;rw[awN] at f;simp only[awU,rs];rw[aS avJ (f.now (a.hasM 2 rfl))];simp only[rs];by_cases n:l.length=3
  ·rw[auP n] at b;simp only[auR (show (l.length:Int)=3 by omega),rs];exact e _ _ g _ 2 a rfl (hle.trans i) ⟨c,by rw[<-b];rfl,λC h=>by rw[<-b] at h;cases h;exact f⟩
  ·rw[auO n] at b;simp only[auQ (show ¬(l.length:Int)=3 by omega),rs];exact e _ _ g _ 2 a rfl (hle.trans i) ⟨c,by rw[<-b];rfl,λl h=>by rw[<-b] at h;cases h⟩
theorem DM (l:List UInt8)(w:ao)(h:l.length<=4):Ret ah 27 #[ae l] w (λv w'=>v=ad (Cs.be l:Nat)∧w=w'):=by
 refine aL λK f=>Ae ?_;unfold pI nz;refine loop (λvs W=>∃i:Nat,vs=[ad ((Cs.be (l.take i):Nat):Int),ad (i:Int)]∧i<=l.length∧W=w) (λvs _=>l.length - n1 vs) ⟨0,rfl,om,rfl⟩ ?_;rintro vs _ ⟨i,rfl,hi,rfl⟩ _;simp only[lV,gd,nz];rw[dE auV];simp only[rs];by_cases a:(i:Int) < (l.length:Int)
 case neg=>
  simp only[auQ a,i_f];exact f _ _ ⟨by rw[avX om],rfl⟩
 simp only[auR a,i_t];have b:i < l.length:=om
 have d:=Cs.ajK i (l.take i) (by rw[avA];omega);have e:Cs.be (l.take i) < 256 ^ 4:=axL d (awC dc om);have g:Cs.be (l.take i) < 4294967296:=e;have j:=l[i].toNat_lt;rw[aA om om,H4 (c:=l[i]) auV om (by rw[auW];exact auX b),Dm];simp only[rs];rw[aA (n:=256*((Cs.be (l.take i):Nat):Int)+(l[i].toNat:Int)) om om,aA om om];refine aU ⟨i+1,?_,om,rfl⟩ (by simp[n1,RowKit.intOf];omega);rw[avP b,Cs.Sr];have:((Cs.be (l.take i)*256+l[i].toNat:Nat):Int)=256*((Cs.be (l.take i):Nat):Int)+(l[i].toNat:Int):=om
 rw[this];rfl
theorem ahW {F:(List aq->ao->Prop)->Prop}{R:List aq->ao->Prop}(I:List aq->ao->Prop)(a:∀J:List aq->ao->Prop,(∀vs w,I vs w->J vs w)->F J)(b:∀vs w,I vs w->R vs w):zP F R:=join λJ c=>a J λvs w hi=>c vs w (b vs w hi)
theorem D9 {l:List Int}(a:SlA M.A M.w v 1 l.length (tD l))(hi:i < l.length) :
  ∃p,(∀W,(mIA 59 v (ad (i:Int))).run ah W=.ok (.value (.pointer (ax p))) W)∧∀W,M.has W->(aG 3 (.pointer (ax p))).run ah W=.ok (.value (ad l[i])) W:=by
 obtain⟨b,off,cap,rfl,_⟩:=bQ a.1 om;refine⟨⟨b,off+i,aw⟩,λW=>?_,λW e=>?_⟩
 ·have:=cR (P:=ah) (T:=59) (b:=b) (off:=off) (cap:=cap) (n:=l.length) (k:=.i64) (i:=(i:Int)) (w:=W) avJ (show _=ax 1 by kernel_rfl) om om;rw[auW,avQ] at this;exact this
 ·obtain⟨g,c,d,he,f⟩:=bQ (a.now e) om;cases he;exact aB aW (f i _ (Zi hi))
namespace Cs
theorem VA {e b:Int}{r:List Int}:CT e (a::b::r)=if a < e∨8192 < a+b then aw else (CT (a+b) r).map ((a,b)::·):=rfl
theorem XY :((List.range (j+1)).map λk=>a+(k:Nat))=((List.range j).map λk=>a+(k:Nat))++[a+(j:Nat)]:=by rw[azM,avT];rfl
theorem YE (d:List (Int×Int))(p:Int×Int):zo (d++[p])=zo d++run1 p:=by unfold zo;rw[axH,ayO]
theorem Rt (a b:List Int):tD (a++b)=tD a++tD b:=avT
theorem auL {l:List Int}(h:i+1 < l.length):l.drop i=l[i]::l[i+1]::l.drop (i+2):=by
 rw[avW (by omega:i < l.length),avW h]
end Cs
theorem ER (o:Ob)(v:aq)(M:Mem)(w:ao)(hw:o.wt<=1000000000)(hM:M.has w)(Z:OV M.A M.w v o) :
  lA ah 25 #[v] M w (λr N=>∃lv,r=.tuple #[lv,.bool (Cs.EL o).isSome]∧∀p,Cs.EL o=ax p->SlA N.A N.w lv 1 (Cs.zo p).length (tD (Cs.zo p))):=by
 obtain⟨vk,vc,cs,rfl,ha⟩:=Z.open;refine aO hM λK hK=>vZ ?_;generalize f:Cs.EL o=X at hK;unfold Cs.EL at f;unfold lK nz;refine dD o ha.keys.one ha.kids.one (dQ.memS hM) λb2 w1 c=>?_;rw[oV c 0 rfl];refine aY c 1 rfl (F7 o _ Cs.gA 8192 M w1 om (c.hasM 1 rfl) Z) ?_;rintro _ N w2 hle rfl c;simp only[ex];have no:∀{W:ao} {N:Mem} {L:List Ent} (j:Nat),dQ M.A w W L->L[j]?=ax (.mem N)->M.le N->X=aw->K (.returned (.tuple #[(.slice aw 0 0),(.bool au)])) W:=λj c hj hle B=>hK _ _ _ _ j c hj hle ⟨_,by rw[B];rfl,λp h=>by rw[B] at h;cases h⟩;cases C:Cs.M1 o Cs.gA 8192 with
|none=>
  rw[C] at f;simp only[awT,rs,awA,i_t];exact no 1 c rfl hle f.symm
|some n=>
 have I:0<=n∧n<=8192:=by
  unfold Cs.M1 at C;split at C
  ·cases C
  ·split at C
   ·rename_i h;cases C;exact h.2
   ·cases C
 rw[C] at f;dsimp only at f;simp only[awU,rs,avY,i_f,awN];refine bB (λb=>cW b 0 2 2) (tD [0,n]) 3 (λ_=>by kernel_rfl) c λb3 w3 c=>?_;have c:=c.toU 1 2 2 rfl om om;obtain⟨N1,l1,O,c⟩:=dQ.bH c 1 rfl;have m:=hle.trans l1;have c:dQ M.A w w3 [obE b2 o vk vc,.mem N1]:=c;refine ahW (λvs W=>∃(pv:aq) (l:List Int) (N:Mem),vs=[pv]∧l.length<=1000000000∧(∀x∈l,0<=x∧x<=8192)∧X=Cs.CT 0 l∧M.le N∧SlA N.A N.w pv 1 l.length (tD l)∧dQ M.A w W [.mem N]) (λJ hJ=>?_) ?_;rw[oV c 0 rfl];refine aY c 1 rfl (kX o _ Cs.fD N1 w3 om (c.hasM 1 rfl) (Z.le m)) ?_;rintro _ P w4 Y ⟨t,rfl,F⟩ c;obtain⟨tk,tc,rfl,F⟩:=iC F;simp only[G5,ex];refine dF c λb5 w5 c=>?_;refine bK 0 F.oneK F.oneC c rfl λw6 c=>?_;have c:dQ M.A w w6 [obE b5 ((Vl.get o Cs.fD).getD Vl.ob0) tk tc,obE b2 o vk vc,.mem P]:=c;have g:=m.trans Y;cases hg:Vl.get o Cs.fD with
|none=>
  rw[hg] at f;simp only[awT,i_f];refine hJ _ _ ⟨_,[0,n],P,rfl,(show 2<=1000000000 by decide),λx B=>?_,f.symm,g,O.le Y,c.tail.tail⟩;rcases avB.1 B with rfl|B
  ·decide
  ·rw[avV.1 B];exact I
|some u=>
  rw[hg] at f c F;dsimp only at f;rw[awN] at c F;simp only[awU,i_t];rw[oV c 0 rfl];have a8:u.wt<=o.wt:=mi hg;refine aY c 2 rfl (L3 u _ 8192 P w6 om (c.hasM 2 rfl) F) ?_;rintro _ N3 w7 l3 ⟨lv,rfl,D⟩ c;simp only[ex];cases hi:Cs.ints u 8192 with
 |none=>
   rw[hi] at f;simp only[awT,rs,awA,g_tf,iO,i_t];exact no 2 c rfl (g.trans l3) f.symm
 |some l=>
   rw[hi] at f D;dsimp only at f;rw[awN] at D;have q:l.length<=1000000000∧∀x∈l,0<=x∧x<=8192:=by
    unfold Cs.ints at hi;split at hi
    ·rename_i h
     cases hi;have hk:=Ob.pB u.kids;have:u.kids.length<=u.wt:=by cases u;rw[Ob.wt];simp only[Ob.kids] at hk ⊢;omega
     refine⟨by rw[avS];omega,λx B=>?_⟩;obtain⟨y,hy,rfl⟩:=awD.1 B;exact (h.2 y hy).2
    ·cases hi
   simp only[awU,rs,avY];rw[aS avJ (D.now (c.hasM 2 rfl))]
   try simp only[rs]
   rw[Ep dc]
   try simp only[rs]
   by_cases h2:l.length % 2=0
   ·rw[auO (λh=>h h2)] at f;simp only[auQ (show ¬(l.length:Int).tmod 2≠0 by rw[aAD om];omega),i_f];exact hJ _ _ ⟨_,l,N3,rfl,q.1,q.2,f.symm,g.trans l3,D,c.tail.tail⟩
   ·rw[auP h2] at f;simp only[auR (show (l.length:Int).tmod 2≠0 by rw[aAD om];omega),i_t];exact no 2 c rfl (g.trans l3) f.symm
 clear c O m l1 I f;rintro vs W ⟨pv,l,N,rfl,b0,q,f,hle,D,c⟩ _;simp only[gd];unfold jH nz;have c:=dQ.nilU c 3 1;refine loop (λvs W=>∃(i:Nat) (d:List (Int×Int)) (u:aq) (e:Int),vs=[u,ad e,ad ((2*i:Nat):Int)]∧2*i<=l.length∧0<=e∧e<=8192∧((Cs.zo d).length:Int)<=e∧X=(Cs.CT e (l.drop (2*i))).map (d++·)∧dQ M.A w W [.urow 3 1 u (Cs.zo d).length (tD (Cs.zo d)),.mem N]) (λvs _=>l.length - (RowKit.intOf (vs.getD 2 undef)).toNat) ⟨0,[],_,0,rfl,om,om,om,dc,by rw[f];simp,c⟩ ?_;clear c f;rintro vs w2 ⟨i,d,u,e,rfl,hi,h0,h1,b1,f,c⟩ _;simp only[jM,gd,nz]
 try simp only[rs]
 rw[aS avJ (D.now (c.hasM 1 rfl))];simp only[rs];rw[aA om om];by_cases Q:((2*i:Nat):Int)+1 < (l.length:Int)
 case neg=>
  simp only[auQ Q,i_f];have R:X=ax d:=by
   have a1:(l.drop (2*i)).length<=1:=by rw[avF];omega
   rw[f]
   match hq:l.drop (2*i),a1 with
  |[],_=>simp[Cs.CT]
  |[x],_=>simp[Cs.CT]
  obtain⟨P,Y,a6,c⟩:=dQ.bH c 0 rfl;exact hK _ _ P _ 0 c rfl (hle.trans Y) ⟨u,by rw[R];rfl,λp h=>by rw[R] at h;cases h;exact a6⟩
 simp only[auR Q,i_t];have i1:2*i+1 < l.length:=om
 have i0:2*i < l.length:=om
 obtain⟨p0,s,z⟩:=D9 D i0;obtain⟨p1,a7,S⟩:=D9 D i1;rw[Cs.auL i1,Cs.VA] at f;have ba:=q l[2*i] (avD i0);have bb:=q l[2*i+1] (avD i1);have E:∀W,(mIA 59 pv (ad (((2*i:Nat):Int)+1))).run ah W=.ok (.value (.pointer (ax p1))) W:=λW=>a7 W;generalize l[2*i]=a at *;generalize l[2*i+1]=b at *;refine quiet ?_;refine eZ _ s (kE _ (λW hw=>z W ((c.grow hw).hasM 1 rfl)) (abF ?_));by_cases G:a < e
 ·simp only[auR G,gq];refine H8 λw3 hw=>?_;rw[i_t];exact no 1 (c.grow hw) rfl hle (by rw[f,auP (.inl G)];rfl)
 simp only[auQ G,gq];refine eZ _ s (kE _ (λW hw=>z W ((c.grow hw).hasM 1 rfl)) (iR ?_));rw[aA om om];refine eZ _ E (kE _ (λW hw=>S W ((c.grow hw).hasM 1 rfl)) (iR ?_));rw[aA om om];refine J6 (B0 λw3 hw=>?_);have c:=c.grow hw;by_cases H:8192 < a+b
 ·simp only[auR H,i_t];exact no 1 c rfl hle (by rw[f,auP (.inr H)];rfl)
 simp only[auQ H,i_f];rw[auO om] at f;refine quiet ?_;refine eZ _ s (kE _ (λW hw=>z W ((c.grow hw).hasM 1 rfl)) (iR ?_));rw[aA om om];refine eZ _ E (kE _ (λW hw=>S W ((c.grow hw).hasM 1 rfl)) (iR ?_));rw[aA om om];intro w4 T;have c:=c.grow T;rw[aC (s w4),aC (z w4 (c.hasM 1 rfl))];have U:Cs.zo (d++[(a,b)])=Cs.zo d++(List.range b.toNat).map λk=>a+(k:Nat):=Cs.YE d (a,b);refine loop (λvs W=>∃(j:Nat) (u:aq),vs=[u,ad (a+(j:Nat))]∧(j:Int)<=b∧dQ M.A w W [.urow 3 1 u (Cs.zo d++(List.range j).map λk=>a+(k:Nat)).length (tD (Cs.zo d++(List.range j).map λk=>a+(k:Nat))),.mem N]) (λvs _=>(a+b - RowKit.intOf (vs.getD 1 undef)).toNat) ⟨0,u,sm,om,by simpa using c⟩ ?_;clear c T;rintro vs w5 ⟨j,u,rfl,hj,c⟩ _;simp only[jN,gd,rs,nz];by_cases V:a+(j:Int) < a+b
 ·simp only[auR V,i_t];refine kK (a+(j:Int)) c λb6 w6 c=>?_;refine gY 1 c rfl (c.sl 0 rfl 1 1 1 rfl) gI (by simp;omega) λu' w7 c=>?_
  try simp only[rs]
  rw[aA om om];refine aU ⟨j+1,u',by simp[Int.add_assoc],om,?_⟩ (by simp[RowKit.intOf];omega);have e2:(Cs.zo d++(List.range (j+1)).map λk=>a+(k:Nat))=(Cs.zo d++(List.range j).map λk=>a+(k:Nat))++[a+(j:Int)]:=by rw[Cs.XY,avO]
  rw[e2,Cs.Rt,auU];exact c.tail
 ·simp only[auQ V,i_f]
  try simp only[rs]
  rw[aA om om];have:j=b.toNat:=om
  subst this;refine aU ⟨i+1,d++[(a,b)],u,a+b,by simp;omega,om,om,om,?_,?_,?_⟩ (by simp[RowKit.intOf];omega)
  ·rw[U];simp;omega
  ·rw[f,show 2*(i+1)=2*i+2 by omega,Option.map_map]
   congr 1;funext x;simp
  ·rw[U];exact c
theorem zf {x:Stm}(h:Cs.keys o=ax x):Cs.EL o=ax x.bV∧Cs.Af o=ax x.w∧Cs.uU o=ax x.prev:=by
 rw[Cs.To] at h;split at h
 ·cases a:Cs.EL o with
 |none=>rw[a] at h;cases h
 |some p=>
   cases b:Cs.Af o with
  |none=>rw[a,b] at h;cases h
  |some q=>
    cases c:Cs.uU o with
   |none=>rw[a,b,c] at h;cases h
   |some r=>rw[a,b,c] at h;cases h;exact⟨rfl,rfl,rfl⟩
 ·cases h
theorem Q3 (o:Ob)(v:aq)(M:Mem)(w:ao)(hw:o.wt<=1000000000)(i:M.has w)(b:OV M.A M.w v o) :
  lA ah 23 #[v] M w (λr _=>r=.bool (Cs.keys o).isSome):=by
 obtain⟨vk,vc,cs,rfl,j⟩:=b.open;refine aO i λK y=>zK ?_;unfold qK nz;refine dD o j.keys.one j.kids.one (dQ.memS i) λb2 z a=>?_;rw[oV a 0 rfl];refine aY a 1 rfl (kX o _ Cs.oC M z om (a.hasM 1 rfl) b) ?_;rintro _ N w2 hle ⟨t,rfl,c⟩ a;obtain⟨B,C,rfl,c⟩:=iC c;simp only[G5,ex];refine dF a λD O a=>?_;refine bK 0 c.oneK c.oneC a rfl λl a=>?_;have a:dQ M.A w l [obE D (Cs.got o Cs.oC) B C,obE b2 o vk vc,.mem N]:=a;rw[oV a 1 rfl];refine aY a 2 rfl (ER o _ N l hw (a.hasM 2 rfl) (b.le hle)) ?_;rintro _ E F g ⟨P,rfl,_⟩ a;simp only[ex];rw[oV a 1 rfl];refine aY a 2 rfl (F8 o _ E F hw (a.hasM 2 rfl) ((b.le hle).le g)) ?_;rintro _ G H m ⟨Q,rfl,_⟩ a;simp only[ex];rw[oV a 1 rfl];refine aY a 2 rfl (Lr o _ G H om (a.hasM 2 rfl) (((b.le hle).le g).le m)) ?_;rintro _ I J L rfl a;simp only[ex];have fin:∀q,(Cs.keys o).isSome=q->K (.returned (.bool q)) J:=λq h=>y _ _ I _ 2 a rfl (((hle.trans g).trans m).trans L) (by rw[h]);rw[Cs.To] at fin;rw[cO,zn a 1 rfl];simp only[rs];by_cases d:o.k=9
 case neg=>
  simp only[auQ d,rs,iO];exact fin _ (by rw[auO (λh=>d h.1)];rfl)
 simp only[auR d,rs];rw[cO,zn a 0 rfl];simp only[rs];by_cases e:(Cs.got o Cs.oC).k=5
 case neg=>
  simp only[auQ e,rs,iO];exact fin _ (by rw[auO (λh=>e h.2.1)];rfl)
 simp only[auR e,rs];rw[yK,I0 a 0 rfl]
 try simp only[rs]
 by_cases f:(Cs.got o Cs.oC).s=Cs.Ev
 case neg=>
  simp only[auQ (show ¬(Cs.got o Cs.oC).s=[88,82,101,102] from f),rs,iO];exact fin _ (by rw[auO (λh=>f h.2.2)];rfl)
 simp only[auR (show (Cs.got o Cs.oC).s=[88,82,101,102] from f),rs];rw[auP ⟨d,e,f⟩] at fin;cases n:Cs.EL o with
|none=>rw[n] at fin;simp only[awT,rs,iO];exact fin _ rfl
|some p=>
  rw[n] at fin;cases u:Cs.Af o with
 |none=>rw[u] at fin;simp only[awU,awT,rs,iO];exact fin _ rfl
 |some q=>
   rw[u] at fin;cases x:Cs.uU o with
  |none=>rw[x] at fin;simp only[awU,awT,rs,iO];exact fin _ rfl
  |some r=>rw[x] at fin;simp only[awU,rs,iO];exact fin _ rfl
theorem eqSl:eqT ah 42 [(0,au),(1,au),(2,au),(3,au)]:=⟨krx,krx,krx,krx⟩
theorem aoG (x y:Slt):([(0,au),(1,au),(2,au),(3,au)]:List (Nat×Bool)).all (λp=>Hy (slC x).toArray[p.1]? (slC y).toArray[p.1]?)=ai (x=y):=by
 have e:([(0,au),(1,au),(2,au),(3,au)]:List (Nat×Bool)).all (λp=>Hy (slC x).toArray[p.1]? (slC y).toArray[p.1]?)=((x.num==y.num)&&((x.kind==y.kind)&&((x.a==y.a)&&((x.b==y.b)&&av)))):=rfl;rw[e,aAB];obtain⟨a,b,c,d⟩:=x;obtain⟨a',f,g,d'⟩:=y;simp
theorem anZ {x y:Slt}:(mEq .neq 42 xo yo (slV x) (slV y)).run ah w=.ok (.value (.bool (!ai (x=y)))) w:=by
 rw[<-aoG];exact Sx eqSl rfl
end
section
open Eng
def qF(w)(K:KT):=nz f5 1 [] [] [] (zg [] []) w K
theorem Ak:qF w k0->Calls ah 5 #[] w k0:=cw func5
def pK(t0 w)(K:KT):=nz f4 1 [] [] [] (zg [0] [t0]) w K
theorem yQ:pK t0 w k0->Calls ah 4 #[t0] w k0:=cw func4
def gD(t1 t2 w)(K:KT):=nz f3 15 [] [] [] (zg [1,2] [t1,t2]) w K
def iL(t0 t1 w)(K:KT):=nz f3 1 [] [(16,[],λs v j w f=>gD (s 1) (s 2) w K)] [] (zg [0,1] [t0,t1]) w K
theorem qX:iL t0 t1 w k0->Calls ah 3 #[t0,t1] w k0:=cz [(8,[])] [] func3
end
section
open Eng Go.RowKit
theorem Jx (la lb:List Slt)(va n:aq)(M:Mem)(w:ao)(t:la.length<=1000000000)(g:M.has w)(k:SlA M.A M.w va 4 la.length (Il la))(l:SlA M.A M.w n 4 lb.length (Il lb)) :
  Ret ah 13 #[va,n] w (λr w'=>r=.bool (ai (la=lb))∧Below w.heap.size w w'):=by
 refine aL λK o=>yR ?_;unfold qI nz;rw[aS ayF (k.now g),aS ayF (l.now g)];simp only[rs];by_cases hlen:(la.length:Int)≠(lb.length:Int)
 ·simp only[auR hlen,i_t];have b:la≠lb:=λe=>hlen (by rw[e]);exact o _ _ ⟨by rw[auQ b],Below.refl _ _⟩
 have hle:la.length=lb.length:=om
 simp only[auQ hlen,i_f];refine loop (λvs w'=>∃(i:Nat),vs=[ad i]∧i<=la.length∧la.take i=lb.take i∧dQ M.A w w' [.mem M]) (λvs _=>la.length - n0 vs) ⟨0,rfl,om,sm,dQ.memS g⟩ ?_;rintro vs w2 ⟨i,rfl,hi,he,a⟩ _;simp only[lT,gd,nz];rw[aS ayF (k.now (a.hasM 0 rfl))];simp only[rs];have fin:∀{W:ao} {q:Bool},dQ M.A w W [.mem M]->ai (la=lb)=q->K (.returned (.bool q)) W:=λa h=>o _ _ ⟨by rw[h],(a.FU 0 rfl M.le_refl g).below⟩;by_cases c:(i:Int) < (la.length:Int)
 case neg=>
  simp only[auQ c,i_f,iO,rs];have m:la=lb:=by
   rw[avX om,avX om] at he;exact he
  exact fin a (auR m)
 have p:i < la.length:=om
 have s:i < lb.length:=om
 simp only[auR c,rs];rw[aS ayF (l.now (a.hasM 0 rfl))];simp only[rs,auR (show (i:Int) < (lb.length:Int) by omega),i_t];obtain⟨u,v,d⟩:=rS k p;obtain⟨x,y,f⟩:=rS l s;refine quiet ?_;refine kE _ (λW hw=>(d W ((a.grow hw).hasM 0 rfl)).1) (kE _ (λW hw=>DN (d W ((a.grow hw).hasM 0 rfl)).2) ?_);refine kE _ (λW hw=>(f W ((a.grow hw).hasM 0 rfl)).1) (kE _ (λW hw=>DN (f W ((a.grow hw).hasM 0 rfl)).2) ?_);refine eZ _ (λ_=>anZ) ?_;intro w3 hw;have a:=a.grow hw;by_cases j:la[i]=lb[i]
 ·simp only[j,auS,avY,i_f,rs];rw[aA om om];refine aU ⟨i+1,rfl,om,?_,a⟩ (by show la.length - Int.toNat ((i:Int)+1) < la.length - Int.toNat (i:Int);omega);rw[avP p,avP s,he,j]
 ·simp only[j,auT,awA,i_t];have b:la≠lb:=λe=>j (by subst e;rfl);exact fin a (auQ b)
end
section
open Eng
def pO(t0 w)(K:KT):=nz f22 1 [] [] [] (zg [0] [t0]) w K
theorem Ar:pO t0 w k0->Calls ah 22 #[t0] w k0:=cw func22
end
section
open Eng Go.RowKit
theorem Rk (i:It)(w:ao)(hw:i.obj.wt<=100000000000)(l:OV (InW w) w (obV i.obj vk vc) i.obj):Ret ah 22 #[itV i vk vc] w (λv w'=>v=ad (Bd.check i)∧Below w.heap.size w w'):=by
 refine aL λK f=>Ar ?_;unfold pO nz;refine Vp i l.oneK l.oneC (Own.start w) λb m a=>?_;have out:Dk.numbers i=au->K (.returned (ad 2)) m:=λh=>f _ _ ⟨by rw[Bd.check,auP h],a.done⟩;have o:Dk.numbers i=av↔1<=i.num∧i.num<=8191∧0<=i.gen∧i.gen<=65535:=by
  simp only[Dk.numbers,avM,awG];omega
 have outs:¬(1<=i.num∧i.num<=8191∧0<=i.gen∧i.gen<=65535)->K (.returned (ad 2)) m:=λh=>out (by
  cases q:Dk.numbers i with
 |true=>exact absurd (o.1 q) h
 |false=>rfl)
 by_cases d:i.num < 1
 ·simp only[rs,Ip,yF a 0 rfl,auR d,iO];exact outs om
 by_cases g:i.num>8191
 ·simp only[rs,Ip,yF a 0 rfl,auQ d,auR g,iO];exact outs om
 by_cases n:i.gen < 0
 ·simp only[rs,Ip,Sq,yF a 0 rfl,Lh a 0 rfl,auQ d,auQ g,auR n,iO];exact outs om
 by_cases p:i.gen>65535
 ·simp only[rs,Ip,Sq,yF a 0 rfl,Lh a 0 rfl,auQ d,auQ g,auQ n,auR p,iO];exact outs om
 simp only[rs,Ip,Sq,yF a 0 rfl,Lh a 0 rfl,auQ d,auQ g,auQ n,auQ p,iO,Km,HA a 0 rfl];have c:Dk.numbers i=true:=o.2 om;obtain⟨cs,r⟩:=l.slices;refine uT (PY i.obj _ m (r.in_ a).ov om) rfl a λw2 a=>?_;rw[bO];by_cases e:Vl.check 1 i.obj=0
 case neg=>
  simp only[auR (show Vl.check 1 i.obj≠0 from e),i_t];exact f _ _ ⟨by rw[Bd.check,auO (by simp[c]),auP e],a.done⟩
 simp only[e,show ai ((0:Int)≠0)=au by decide,i_f,Km,cO,it_k a 0 rfl,rs];by_cases j:i.obj.k=8
 ·simp only[auR j,i_t];exact f _ _ ⟨by rw[Bd.check,auO (by simp[c]),auO (by simp[e]),auP j],a.done⟩
 ·simp only[auQ j,i_f];exact f _ _ ⟨by rw[Bd.check,auO (by simp[c]),auO (by simp[e]),auO j],a.done⟩
theorem aaQ (a:vk.oneCell'=av)(b:vc.oneCell'=av)(o:Ob)(W:ao):(aN 25 #[(0,ad 7),(4,vk),(5,vc)]).run ah W=.ok (.value (obV (.mk 7 0 0 [] o.keys o.kids) vk vc)) W:=by
 cases vk<;>first|(cases a;done)|skip
 all_goals cases vc<;>first|(cases b;done)|kernel_rfl
theorem Ww {T:TypeId}{a:List UInt8}{k:IntKind}(h:P.underlying T=ax .string)(b:0<=lo)(c:lo<=a.length) :
  (cY T (ae a) (ax (.int k lo)) aw aw).run P w=.ok (.value (ae (a.drop lo.toNat))) w:=by
 refine cE ?_;have e:(⟨a.toArray⟩:ByteArray).extract lo.toNat a.length=⟨(a.drop lo.toNat).toArray⟩:=by
  rw[IY (s:=(⟨a.toArray⟩:ByteArray).extract lo.toNat a.length),Lib.extract_data];rw[avX sm]
 have g2:(0<=lo∧lo<=((a.length:Nat):Int)):=om
 simp only[Instr.sliceAt,Instr.slice,Instr.sliceBounds,Instr.sliceBound,asIntOf,run_underlying h,cQ];simp[run_underlying h,cQ,b,c,e]
theorem afV :DoX ah (mFA 34 (af b 0) 5) w PK K=K (af b 10) w:=aQ fse5
namespace Cs
theorem XE {x:Stm}(h:keys o=ax x):∃A B C:Nat,x.w=[(A:Int),(B:Int),(C:Int)]∧A<=4∧B<=4∧C<=4∧wide x=A+B+C:=by
 obtain⟨⟨f,d⟩,_⟩:=Ls h;obtain⟨g,ps,q⟩:=x
 match g,f with
|[a,b,c],_=>
  have i:=d a sm;have e:=d b sm;have j:=d c sm;refine⟨a.toNat,b.toNat,c.toNat,?_,om,om,om,rfl⟩;rw[aBq i.1,aBq e.1,aBq j.1]
theorem cutA {s:List UInt8}{A V:Nat}(h:A<=V):((s.drop p).take V).take A=(s.drop p).take A:=by rw[ayK,awB h]
theorem cutB {s:List UInt8}{A B V:Nat}(h:A+B<=V):(((s.drop p).take V).drop A).take B=(s.drop (p+A)).take B:=by
 rw[List.drop_take,ayK,azE,awB om]
theorem cutC {s:List UInt8}{A C V:Nat}(h:A+C=V):((s.drop p).take V).drop A=(s.drop (p+A)).take C:=by
 rw[List.drop_take,azE,show V - A=C by omega]
end Cs
theorem SJ (i:It)(a:Int){S T:aq}(M:Mem)(w:ao)(hw:i.obj.wt<=1000000000)(hM:M.has w)(F:OV M.A M.w (obV i.obj S T) i.obj) :
  lA ah 8 #[itV i S T,ad a] M w (λr N=>∃sv,r=.tuple #[sv,ad (Cs.Ci i a).2]∧SecV N sv (Cs.Ci i a).1):=by
 refine aO hM λK hK=>BE ?_;unfold tC nz;refine Vp i F.oneK F.oneC (dQ.memS hM) λb2 w1 b=>?_;refine P8 b λb4 w2 b=>?_;have a6:∀N:Mem,SecV N (Mk Tl.zJ dY dY dY) Tl.zJ:=λN=>⟨dY,dY,dY,rfl,SlA.nil _ _ _ _,CA N⟩;have no:∀{W:ao} {N:Mem} {L:List Ent} {e:Int} (j:Nat),dQ M.A w W L->L[j]?=ax (uN b4 Tl.zJ dY dY dY)->(∃j',L[j']?=ax (.mem N)∧j'≠j)->M.le N->Cs.Ci i a=(Tl.zJ,e)->DoX ah (aN 34 #[]) W (pk K) (λt W=>DoX ah (aV 34 (af b4 0) t) W (pk K) λ_ W=>zu ah [.cell (af b4 0) 34,.val (ad e)] W K):=by
  intro W N L e j b hj ⟨j',c9,U⟩ hle he;rw[aoU];refine E1 (y:=Tl.zJ) j rfl rfl rfl b hj λw4 b=>?_;have e0:=(avL.1 hj).1;refine mP (bG (b.agg j (axP e0) QY)) pV (hK _ _ N _ j' b (by rw[azO (Ne.symm U)];exact c9) hle ⟨_,by rw[he],by rw[he];exact a6 N⟩)
 have f:=Cs.Ci.eq_1 i a;simp only[rs];by_cases a1:a < 0
 ·rw[auP a1] at f;simp only[auR a1,i_t];exact no 0 b rfl ⟨2,rfl,dc⟩ M.le_refl f
 rw[auO a1] at f;simp only[auQ a1,i_f];rw[AT (b.agg 1 rfl Pe)];refine aI b (R:=λv=>v=ad (Bd.check i)) (Rk i w2 om (OV.inw (b.hasM 2 rfl) F)) ?_;rintro _ w3 rfl b;simp only[bO];by_cases hc:Bd.check i=0
 case neg=>
  rw[auP hc] at f;simp only[auR (show Bd.check i≠0 from hc),i_t];exact no 0 b rfl ⟨2,rfl,dc⟩ M.le_refl f
 rw[auO (λh=>h hc)] at f;simp only[hc,show ai ((0:Int)≠0)=au from rfl,i_f];rw[Km,HA b 1 rfl];refine dF b λb7 w4 b=>?_;refine bK 0 F.oneK F.oneC b rfl λw5 b=>?_;have b:dQ M.A w w5 [obE b7 i.obj S T,uN b4 Tl.zJ dY dY dY,itE b2 i S T,.mem M]:=b;rw[oV b 0 rfl];refine aY b 3 rfl (Q3 i.obj _ M w5 hw (b.hasM 3 rfl) F) ?_;rintro _ N1 w6 Y rfl b;rw[Nl];cases hx:Cs.keys i.obj with
|none=>
  rw[hx] at f;simp only[awT,awA,i_t];exact no 1 b rfl ⟨3,rfl,dc⟩ Y f
|some x=>
 rw[hx] at f;dsimp only at f;simp only[awU,avY,i_f];rw[oV b 0 rfl];refine aY b 3 rfl (PL i.obj _ N1 w6 hw (b.hasM 3 rfl) (F.le Y)) ?_;rintro _ N2 w7 l2 rfl b;have e2:=uu hM (o:=i.obj) hw;generalize Ff.decode i.obj=D at *;obtain⟨s,e⟩:=D;dsimp only at f e2;simp only[zlT,ex,bO];by_cases he:e=0
 case neg=>
  rw[auP he] at f;simp only[auR (show e≠0 from he),i_t];exact no 1 b rfl ⟨3,rfl,dc⟩ (Y.trans l2) f
 rw[auO (λh=>h he)] at f;subst he;simp only[show ai ((0:Int)≠0)=au from rfl,i_f];obtain⟨hp,e3,e4⟩:=zf hx;obtain⟨_,_,h4,_⟩:=Cs.Ls hx;rw[oV b 0 rfl];refine aY b 3 rfl (ER i.obj _ N2 w7 hw (b.hasM 3 rfl) ((F.le Y).le l2)) ?_;rintro _ N3 w8 l3 ⟨nv,rfl,q⟩ b;have q:=q _ hp;simp only[ex];rw[oV b 0 rfl];refine aY b 3 rfl (F8 i.obj _ N3 w8 hw (b.hasM 3 rfl) (((F.le Y).le l2).le l3)) ?_;rintro _ N4 w9 l4 ⟨wv,rfl,z⟩ b;have z:=z _ e3;have q:=q.le l4;have b5:=(((F.le Y).le l2).le l3).le l4;have hle:M.le N4:=((Y.trans l2).trans l3).trans l4;clear Y l2 l3 l4;simp only[ex];obtain⟨A,B,C,b6,hA,hB,hC,a7⟩:=Cs.XE hx;rw[b6] at z;obtain⟨p0,g,p⟩:=D9 z (i:=0) (show 0 < 3 by decide);obtain⟨p1,G,H⟩:=D9 z (i:=1) (show 1 < 3 by decide);obtain⟨p2,a8,b0⟩:=D9 z (i:=2) (show 2 < 3 by decide);have g:∀W,(mIA 59 wv (ad 0)).run ah W=.ok (.value (.pointer (ax p0))) W:=g;have G:∀W,(mIA 59 wv (ad 1)).run ah W=.ok (.value (.pointer (ax p1))) W:=G;have a8:∀W,(mIA 59 wv (ad 2)).run ah W=.ok (.value (.pointer (ax p2))) W:=a8;have p:∀W,N4.has W->(aG 3 (.pointer (ax p0))).run ah W=.ok (.value (ad (A:Int))) W:=p;have H:∀W,N4.has W->(aG 3 (.pointer (ax p1))).run ah W=.ok (.value (ad (B:Int))) W:=H;have b0:∀W,N4.has W->(aG 3 (.pointer (ax p2))).run ah W=.ok (.value (ad (C:Int))) W:=b0;refine quiet ?_;refine eZ _ g (kE _ (λW c=>p W ((b.grow c).hasM 3 rfl)) (eZ _ G (kE _ (λW c=>H W ((b.grow c).hasM 3 rfl)) (iR ?_))));rw[aA om om];refine eZ _ a8 (kE _ (λW c=>b0 W ((b.grow c).hasM 3 rfl)) (iR ?_));rw[aA om om,show (A:Int)+(B:Int)+(C:Int)=((Cs.wide x:Nat):Int) by rw[a7];omega];intro h5 c;have b:=b.grow c;generalize hV:Cs.wide x=V at *;have Z:V<=12:=om
 rw[dE auV,aS avJ (q.now (b.hasM 3 rfl))];have hmul:(Cs.zo x.bV).length*V<=8192*12:=axW om Z;simp only[rs];rw[show ((Cs.zo x.bV).length:Int)*(V:Int)=(((Cs.zo x.bV).length*V:Nat):Int) by push_cast;rfl,aA om om];have h6:=Cs.My x s;by_cases b8:(s.length:Int) < (((Cs.zo x.bV).length*V:Nat):Int)
 ·simp only[auR b8,i_t];exact no 1 b rfl ⟨3,rfl,dc⟩ hle (by rw[f,auO (λh=>by have:=h.1;rw[hV] at this;omega)])
 simp only[auQ b8,i_f];have e5:(Cs.zo x.bV).length*V<=s.length:=om
 have b:=dQ.nilU b 42 4;refine loop (λvs W=>∃(k:Nat) (u:aq),vs=[ad 0,u,ad (k:Int)]∧k<=(Cs.zo x.bV).length∧(∀m (h:m < (Cs.aR x s).length),m < k->(Cs.aR x s)[m].kind<=2)∧dQ M.A w W [slsE u ((Cs.aR x s).take k),obE b7 i.obj S T,uN b4 Tl.zJ dY dY dY,itE b2 i S T,.mem N4]) (λvs _=>(Cs.zo x.bV).length - (RowKit.intOf (vs.getD 2 undef)).toNat) ⟨0,_,rfl,om,λm _ h=>by omega,b⟩ ?_;clear b c;rintro vs d ⟨k,u,rfl,hk,b9,b⟩ _;simp only[oL,gd,nz];rw[aS avJ (q.now (b.hasM 4 rfl))];simp only[rs];by_cases c0:(k:Int) < ((Cs.zo x.bV).length:Int)
 case neg=>
  simp only[auQ c0,i_f];have:k=(Cs.aR x s).length:=om
  subst this;rw[awI] at b;obtain⟨N5,l5,I,b⟩:=dQ.bH b 3 rfl;have I:SlA N5.A N5.w u 4 (Cs.aR x s).length (Il (Cs.aR x s)):=I;have b:dQ M.A w d [obE b7 i.obj S T,uN b4 Tl.zJ dY dY dY,itE b2 i S T,.mem N5]:=b;refine aI b (R:=λv=>v=ad (Tl.check (Cs.aR x s))) (Q1 (Cs.aR x s) u N5 d om (b.hasM 3 rfl) I) ?_;rintro _ c4 rfl b;simp only[bO];by_cases X:Tl.check (Cs.aR x s)=0
  case neg=>
   simp only[auR (show Tl.check (Cs.aR x s)≠0 from X),i_t];exact no 1 b rfl ⟨3,rfl,dc⟩ (hle.trans l5) (by rw[f,auO (λh=>X h.2.2)])
  simp only[X,show ai ((0:Int)≠0)=au from rfl,i_f];have hG:Cs.Good x s:=⟨by rw[hV];exact e5,λy hy=>by
   obtain⟨m,hm,rfl⟩:=axT hy;exact b9 m hm hm,X⟩
  rw[auP hG] at f;rw[oV b 0 rfl];refine aY b 3 rfl (Lr i.obj _ N5 c4 om (b.hasM 3 rfl) (b5.le l5)) ?_;rintro _ N6 b1 l6 rfl b;simp only[ex];rw[e4,awN,qZ,eP b 0 rfl,eW,bW b 0 rfl,aC (aaQ F.oneK F.oneC i.obj b1),Ip,yF b 2 rfl];have hz:=b;have e6:=b5.le (l5.trans l6);obtain⟨tk,tc,e7,he,O⟩:=e6.open;have e1:=congrArg (λv=>Value.cells v) he;have e8:S=tk∧T=tc:=by
   simp only[obV,Value.cells,obC] at e1;simp at e1;exact⟨e1.1,e1.2⟩
  obtain⟨rfl,rfl⟩:=e8;have c5:OV N6.A N6.w (obV (.mk 7 0 0 [] i.obj.keys i.obj.kids) S T) (.mk 7 0 0 [] i.obj.keys i.obj.kids):=zz.ov (cs:=e7) ⟨O.keys,O.kids,O.all⟩;obtain⟨q1,c1,rfl,_⟩:=I.form;obtain⟨q2,c2,rfl,_⟩:=O.keys.form;obtain⟨q3,c3,rfl,_⟩:=O.kids.form;rw[apU (l:=Cs.aR x s)];have b:dQ M.A w b1 [obE b7 i.obj _ _,uN b4 Tl.zJ dY dY dY,itE b2 i _ _,.mem N6]:=hz;refine E1 (y:=⟨a,Cs.aR x s,.mk 7 0 0 [] i.obj.keys i.obj.kids,x.prev,-1,i.num⟩) 1 rfl rfl rfl b rfl λh7 b=>?_;refine mP (bG (b.agg 1 rfl QY)) pV (hK _ _ N6 _ 3 b rfl ((hle.trans l5).trans l6) ⟨_,by rw[f],?_⟩);rw[f];exact⟨_,_,_,rfl,I.le l6,c5⟩
 simp only[auR c0,i_t];have c6:k < (Cs.zo x.bV).length:=om
 have c7:k < (Cs.aR x s).length:=om
 have h3:k*V+V<=s.length:=by
  have:=awL V (show k+1<=(Cs.zo x.bV).length by omega);rw[axZ] at this;omega
 have h8:k*V<=8192*12:=axW om Z;rw[show (k:Int)*(V:Int)=((k*V:Nat):Int) by push_cast;rfl,aA (n:=((k*V:Nat):Int)) om om,aA (n:=((k*V:Nat):Int)+(V:Int)) om om];rw[SU auV om om om,auW,show (((k*V:Nat):Int)+(V:Int)).toNat - k*V=V by omega];have b3:((s.drop (k*V)).take V).length=V:=by rw[avA,avF];omega
 rw[aC (g d),aC (p d (b.hasM 4 rfl)),Us auV om (by rw[b3];omega),auW,Cs.cutA om];refine Dv (DM _ d (by rw[avA];omega)) ?_;rintro _ _ ⟨rfl,rfl⟩;refine ahW (λvs W=>vs=[ad (Cs.field s 0 (k*V) (A:Int))]∧d=W) (λJ hJ=>?_) ?_
 ·rw[aC (g d),aC (p d (b.hasM 4 rfl))];simp only[rs];by_cases h0:(A:Int)=0
  ·simp only[auR h0,i_t];exact hJ _ _ ⟨by rw[Cs.field,auP ⟨h0,rfl⟩],rfl⟩
  ·simp only[auQ h0,i_f];exact hJ _ _ ⟨by rw[Cs.field,auO (λh=>h0 h.1),Cs.fld,auW],rfl⟩
 rintro vs W ⟨rfl,rfl⟩ _;simp only[oG,gd,rs,iN,dx,bnx,stx];obtain⟨n,hn⟩:∃n,(Cs.zo x.bV)[k]?=ax n:=⟨_,auX c6⟩;have P:(Cs.aR x s)[k]=⟨n,Cs.field s 0 (k*V) A,Cs.field s 1 (k*V+A) B,Cs.field s 2 (k*V+A+B) C⟩:=by
  have h:=Cs.QE (s:=s) hn;obtain⟨h1,h2⟩:=avL.1 h;rw[h2];unfold Cs.rowAt;rw[hV,b6];rfl
 have U:∀{j at_:Nat} {n:Int},j≠0->Cs.field s j at_ n=Cs.fld s at_ n:=λhj=>auO (λh=>hj h.2);by_cases Q:2 < Cs.field s 0 (k*V) A
 ·simp only[auR Q,i_t];exact no 2 b rfl ⟨4,rfl,dc⟩ hle (by rw[f,auO (λh=>by have:=h.2.1 _ (avD c7);rw[P] at this;dsimp only at this;omega)])
 simp only[auQ Q,i_f];obtain⟨pn,e9,c8⟩:=D9 q c6;rw[(avL.1 hn).2] at c8;have E:∀{W},Below d.heap.size d W->N4.has W:=λc=>(b.grow c).hasM 4 rfl;refine quiet ?_;refine eZ _ e9 (kE _ (λW c=>c8 W (E c)) ?_);refine eZ _ g (kE _ (λW c=>p W (E c)) ?_);refine eZ _ g (kE _ (λW c=>p W (E c)) ?_);refine eZ _ G (kE _ (λW c=>H W (E c)) (iR ?_));rw[aA om om];refine eZ _ (λ_=>jD auV om om (by rw[b3];omega)) ?_;rw[auW,show ((A:Int)+(B:Int)).toNat - A=B by omega,Cs.cutB om];refine fC _ (λW c=>PQ (DM _ W (by rw[avA];omega)) c) ?_;refine eZ _ g (kE _ (λW c=>p W (E c)) ?_);refine eZ _ G (kE _ (λW c=>H W (E c)) (iR ?_));rw[aA om om];refine eZ _ (λ_=>Ww auV om (by rw[b3];omega)) ?_;rw[show ((A:Int)+(B:Int)).toNat=A+B by omega,Cs.cutC (C:=C) om];refine fC _ (λW c=>PQ (DM _ W (by rw[avA];omega)) c) ?_;refine eZ _ (λ_=>ahG) λc4 c=>?_;have b:=b.grow c;refine aeR 0 b rfl (by rw[avA];omega) λu' b1 b=>?_
 try simp only[rs]
 rw[aA om om];refine aU ⟨k+1,u',rfl,om,λm hm h9=>?_,?_⟩ (by simp[RowKit.intOf];omega)
 ·rcases awO m k with h|h
  ·exact b9 m hm h
  ·have:m=k:=om
   subst this;rw[P];dsimp only;omega
 ·rw[avP c7,P,U (j:=1) dc,U (j:=2) dc,Cs.fld,Cs.fld,auW,auW];rw[axK] at *;exact b
theorem SS (x:Sec)(f g:aq)(M:Mem)(w:ao)(k:x.aR.length<=1000000000)(hw:x.trailer.wt<=1000000000)(h:M.has w)(l:SecV M f x)(m:SecV M g x) :
  Ret ah 9 #[f,g] w (λr w'=>r=.bool av∧Below w.heap.size w w'):=by
 obtain⟨vs,vk,vc,rfl,e,d⟩:=l;obtain⟨us,i,j,rfl,c,b⟩:=m;refine aL λK n=>Bt ?_;unfold rU nz;refine aeA x e.one d.oneK d.oneC (dQ.memS h) λb2 p a=>?_;refine aeA x c.one b.oneK b.oneC a λb3 w2 a=>?_;have a:dQ M.A w w2 [uN b3 x us i j,uN b2 x vs vk vc,.mem M]:=a;rw[X3,anY a 1 rfl,X3,anY a 0 rfl];simp only[rs,auS];rw[LD,Sw a 1 rfl,LD,Sw a 0 rfl];refine aI a (R:=λv=>v=.bool (ai (x.aR=x.aR))) (Jx x.aR x.aR vs us M w2 k (a.hasM 2 rfl) e c) ?_;rintro _ w3 rfl a;simp only[rs,auS];rw[Qy,abA a 1 rfl,Qy,abA a 0 rfl];refine aI a (R:=λv=>v=.bool (Ob.eqb x.trailer x.trailer)) (Va _ x.trailer x.trailer _ _ w3 (auY _) hw (OV.inw (a.hasM 2 rfl) d) (OV.inw (a.hasM 2 rfl) b)) ?_;rintro _ o rfl a;rw[(Ob.XI x.trailer x.trailer).2 rfl];simp only[rs];rw[NA,aH aW (a.cell 1 rfl 8 rfl),NA,aH aW (a.cell 0 rfl 8 rfl)];simp only[rs,auS];rw[ZL,aH aW (a.cell 1 rfl 9 rfl),ZL,aH aW (a.cell 0 rfl 9 rfl)];simp only[rs,auS];rw[afV,aH aW (a.cell 1 rfl 10 rfl),afV,aH aW (a.cell 0 rfl 10 rfl)];simp only[rs,auS];have a:dQ M.A w o ([uN b3 x us i j,uN b2 x vs vk vc]++([.mem M]++[])):=a;exact n _ _ ⟨rfl,(a.front.FU 0 rfl M.le_refl h).below⟩
theorem RO (i:It)(d e:aq)(w:ao)(hw:i.obj.wt<=1000000000)(c:OV (InW w) w (obV i.obj d e) i.obj) :
  Ret ah 4 #[itV i d e] w (λr w'=>(∃b,r=.bool b)∧Below w.heap.size w w'):=by
 refine aL λK f=>yQ ?_;unfold pK nz;refine Vp i c.oneK c.oneC (Own.start w) λb g a=>?_;rw[Km,HA a 0 rfl];obtain⟨cs,j⟩:=c.slices;refine uT (XH i.obj.wt i.obj _ g (auY _) (j.in_ a).ov om) rfl a λw2 a=>?_
 try simp only[rs]
 by_cases h:(Vl.size i.obj:Int)<=2000
 case neg=>
  simp only[auQ h,rs,iO];exact f _ _ ⟨⟨_,rfl⟩,a.done⟩
 simp only[auR h,rs];rw[Km,yK,aH BZ (a.cell 0 rfl 5 rfl),dE auV]
 try simp only[rs]
 exact f _ _ ⟨⟨_,rfl⟩,a.done⟩
namespace Srt
theorem Hm (f:α->β)(d:α)(xs:List α)(i:Nat):(xs.map f).getD i (f d)=f (xs.getD i d):=by
 rw[auZ,auZ,azP];cases xs[i]?<;>rfl
section
variable {α β:Type}(f:α->β){d:α}{wt:α->Nat}{wt':β->Nat}(h:∀x,wt' (f x)=wt x)
 include h
theorem TJ (a:Nat):∀(j:Nat) (xs:List α),(NP d wt a j xs).map f=NP (f d) wt' a j (xs.map f)
|0,xs=>rfl
|j+1,xs=>by
  unfold NP;rw[Hm,Hm];unfold lt;rw[h,h];split
  ·rw[TJ a j]
   congr 1
   unfold sw;rw[aAb,aAb,Hm,Hm]
  ·rfl
theorem Tn (a:Nat):∀(n i:Nat) (xs:List α),(KV d wt a n i xs).map f=KV (f d) wt' a n i (xs.map f)
|0,i,xs=>rfl
|n+1,i,xs=>by
  unfold KV;rw[Tn a n,TJ f h]
theorem ZM (xs:List α)(a b:Nat):(ins d wt xs a b).map f=ins (f d) wt' (xs.map f) a b:=Tn f h a _ _ xs
end
end Srt
def ie (l:List Cn):List Cn:=Srt.ins (.leaf 0 0) Cn.wt l 0 l.length
theorem xp (ps:List Pc):(Srt.ins pd pw ps 0 ps.length).map (·.2)=ie (ps.map (·.2)):=by
 unfold ie;rw[avS];exact Srt.ZM (·.2) (λ_=>rfl) ps 0 ps.length
theorem og (l:List Cn):(ie l).length=l.length:=Srt.ZO
section
variable {w:ao}{PK PK2 PK3:PKT}{K:VWP}{S:Nat->Prop}{w0:ao}{L T:List Ent}
theorem abG {g N:Nat}{cv:aq}{ok:Pc->Prop}(h:CmpOk M cv ok)(hm:T[jm]?=ax (.mem M))(m:N < 20)(i:ps.length=N)(c:dQ S w0 w (pcE (cW g 0 N cap) ps::T))(f:∀x∈ps,ok x)
  (k:∀W,(∀x∈Srt.ins pd pw ps 0 N,ok x)->dQ S w0 W (pcE (cW g 0 N cap) (Srt.ins pd pw ps 0 N)::T)->K (.tuple #[]) W) :
  eN ah 303 #[cW g 0 N cap,cv] w PK K:=by
 refine⟨cU ?_⟩;unfold bS nz;rw[bP axD];generalize j:Srt.ins pd pw ps 0 N=R at k;refine eR (eY (k0:=zy λv W=>v=.tuple #[]∧(∀x∈R,ok x)∧dQ S w0 W (pcE (cW g 0 N cap) R::T)) ?_) (λe W ⟨v,he,l,d,c⟩=>by subst he;subst l;exact k W d c);unfold dC nz;refine loop (λvs W=>vs=[ad 0,ad 20]∧dQ S w0 W (pcE (cW g 0 N cap) ps::T)) (λvs _=>0) ⟨rfl,c⟩ ?_;clear c;rintro vs n ⟨rfl,c⟩ _;simp only[cV,gd,rs,nz];rw[auQ (show ¬(20:Int)<=(N:Int) by omega)];simp only[i_f];refine aqK (a:=0) (b:=N) h hm i c f (auY _) (avK _) om λw2 d c=>?_;rw[j] at d c;refine loop (λvs W=>vs=[ad 20]∧dQ S w0 W (pcE (cW g 0 N cap) R::T)) (λvs _=>0) ⟨rfl,c⟩ ?_;clear c;rintro vs w3 ⟨rfl,c⟩ _;simp only[cX,gd,rs,nz];rw[auQ (show ¬(20:Int) < (N:Int) by omega)];simp only[i_f];exact xB ⟨rfl,d,c⟩
end
theorem Jv (c d:List Pc)(va e:aq)(M:Mem)(w:ao)(D:M.has w)(E:SlA M.A M.w va 1 c.length (pcW c))(F:SlA M.A M.w e 1 d.length (pcW d))(k:∀x∈c,okM M x)(l:∀x∈d,okM M x)(G:0 < c.length)(P:c.length+d.length < 20)
  (q:va.oneCell'=av) (s:e.oneCell'=av) :
  lA ah 279 #[va,e] M w (λr N=>∃f:List Pc,f.map (·.2)=ie (c.map (·.2)++d.map (·.2))∧(∀x∈f,okM N x)∧r.oneCell'=av∧SlA N.A N.w r 1 f.length (pcW f)):=by
 refine aO D λK H=>Kn ?_;unfold Ha nz;have a:dQ M.A w w [.mem M]:=dQ.memS D;refine⟨jP ?_⟩;unfold eK nz;refine bB (λb=>af b 0) [wtF] 337 (λ_=>by kernel_rfl) a λfb Q a=>?_;have t:=a.at_ 0 rfl;obtain⟨m,g1,u,n,a⟩:=dQ.freeze (L:=[.mem M]) a 0 rfl;have y:m.A fb:=n fb rfl;have o:(fcE fb).is m.w:=by rw[u];exact t
 have I:∀W:ao,(bJ 351 2 #[(0,va),(1,e)]).run ah W=.ok (.value (cW W.heap.size 0 2 2)) (W.alloc (.cells [va,e].toArray 319)):=λW=>by
  cases va<;>first|(cases q;done)|(cases e<;>first|(cases s;done)|kernel_rfl)
 refine bB (λb=>cW b 0 2 2) [va,e] 319 I a λlb w2 a=>?_;refine acF (jm:=0) rfl a (E.le g1) (F.le g1) (λx i=>(k x i).le g1) (λx i=>(l x i).le g1) G om om λv w3 a=>?_;have z:∀x∈c++d,okM m x:=λx i=>by
  rcases avZ.1 i with h|h
  ·exact (k x h).le g1
  ·exact (l x h).le g1
 have hlen:(c++d).length=c.length+d.length:=auU;obtain⟨g,cap,rfl⟩:=rM (a.at_ 0 rfl) om;rw[tM];refine abG (jm:=1) (amA y o) rfl om rfl a z λJ p a=>?_;have B:(Srt.ins pd pw (c++d) 0 (c++d).length).length=(c++d).length:=Srt.ZO;have j:=xp (c++d);rw[avT] at j;generalize Srt.ins pd pw (c++d) 0 (c++d).length=f at p B j a;have a:dQ M.A w J (.urow 320 1 (cW g 0 (c++d).length cap) f.length (pcW f)::[.cells lb [va,e] 319,.mem m]):=a;obtain⟨O,g2,C,a⟩:=dQ.bH (L:=[.cells lb [va,e] 319,.mem m]) a 1 rfl;exact H _ _ O _ 1 a rfl (g1.trans g2) ⟨f,j,λx i=>(p x i).le g2,rfl,C⟩
end
def gg (C:List Cn):Nat->List Cn
|0=>ie C
|t+1=>ie (ie C++Cn.bV (gg C t))
theorem uv (C:List Cn):∀t,(gg C t).length<=2*C.length
|0=>by unfold gg;rw[og];omega
|t+1=>by
  have:=uv C t;unfold gg;rw[og,auU,og,Cn.LA];omega
abbrev gm:=Nat×Bool×List Nat
def cy (U:List Nat):Cn->gm
|.leaf w s=>(w,U.contains s,U.map λu=>if s=u then 1 else 0)
|.node a b=>((cy U a).1+(cy U b).1,(cy U a).2.1&&(cy U b).2.1,List.zipWith (·+ ·) (cy U a).2.2 (cy U b).2.2)
def vh (a b:gm):gm:=(a.1+b.1,a.2.1&&b.2.1,List.zipWith (·+ ·) a.2.2 b.2.2)
def qu:List gm->List gm
|a::b::l=>vh a b::qu l
|_=>[]
def ko (z:gm)(l:List gm):List gm:=Srt.ins z (·.1) l 0 l.length
def me (z:gm)(C:List gm):Nat->List gm
|0=>ko z C
|t+1=>ko z (ko z C++qu (me z C t))
theorem oh (U:List Nat):∀c:Cn,(cy U c).1=c.wt
|.leaf w s=>rfl
|.node a b=>by show _+_=_+_;rw[oh U a,oh U b]
theorem qv (U:List Nat):∀c:Cn,(cy U c).2.2=U.map λu=>c.cnt u
|.leaf w s=>rfl
|.node a b=>by
  show List.zipWith _ _ _=_;rw[qv U a,qv U b,List.zipWith_map,List.zipWith_self];rfl
theorem oo (U:List Nat){s:Nat}(d:s ∉ U):∀c:Cn,(cy U c).2.1=av->c.cnt s=0
|.leaf w t,h=>by
  have h:U.contains t=true:=h;show (if t=s then 1 else 0)=0;rw[auO λe=>d (by rw[<-e];simpa using h)]
|.node a b,h=>by
  have h:((cy U a).2.1&&(cy U b).2.1)=true:=h;rw[avM] at h;show a.cnt s+b.cnt s=0;rw[oo U d a h.1,oo U d b h.2]
theorem qw (U:List Nat)(l:List Cn):(ie l).map (cy U)=ko (cy U (.leaf 0 0)) (l.map (cy U)):=by
 unfold ie ko;rw[avS];exact Srt.ZM (cy U) (λc=>oh U c) l 0 l.length
theorem uw (U:List Nat):∀l:List Cn,(Cn.bV l).map (cy U)=qu (l.map (cy U))
|[]=>rfl
|[_]=>rfl
|a::b::l=>by
  show _::_=_::_;rw[uw U l];rfl
theorem ou (U:List Nat)(C:List Cn):∀t,(gg C t).map (cy U)=me (cy U (.leaf 0 0)) (C.map (cy U)) t
|0=>qw U C
|t+1=>by
  unfold gg me;rw[qw,avT,qw,uw,ou U C t]
def my (counts:List Nat):List gm:=(iu counts).map (cy (bn counts))
def ig (counts:List Nat)(t:Nat):List gm:=me (cy (bn counts) (.leaf 0 0)) (my counts) t
def qx (counts:List Nat)(most:Nat):List gm:=(ig counts (most - 1)).take (2*(bn counts).length - 2)
def fm (counts:List Nat)(most:Nat):List Nat:=if (bn counts).length < 2 then List.replicate counts.length 0 else
 (List.range counts.length).map λs=>if (bn counts).contains s then ((qx counts most).map λc=>c.2.2.getD ((bn counts).idxOf s) 0).sum else 0
def lh (counts:List Nat)(most:Nat):Bool:=ai ((bn counts).length≠1)&&(ai ((bn counts).length=0)||(ai ((bn counts).length < 10)&&((List.range most).all λt=>(ig counts t).all λc=>ai (c.1<=1000000)&&c.2.1) &&
 ai (2*(bn counts).length - 2<=(ig counts (most - 1)).length)&&(fm counts most).all λx=>ai (x<=1000)))
theorem mz (counts:List Nat)(most:Nat):(fm counts most).length=counts.length:=by
 unfold fm;split
 ·exact awJ
 ·rw[avS,List.length_range]
theorem zh {counts:List Nat}(j:2<=(bn counts).length)(f:∀c∈ig counts (most - 1),c.2.1=av){s:Nat}(g:s < counts.length) :
  (fm counts most).getD s 0=Cn.sum (Cn.cnt s) ((gg (iu counts) (most - 1)).take (2*(bn counts).length - 2)):=by
 have a:=ou (bn counts) (iu counts) (most - 1);have d:qx counts most=((gg (iu counts) (most - 1)).take (2*(bn counts).length - 2)).map (cy (bn counts)):=by
  unfold qx ig my;rw[<-a,azR]
 have b:∀c∈(gg (iu counts) (most - 1)).take (2*(bn counts).length - 2),(cy (bn counts) c).2.1=true:=λc e=>f _ (by
  unfold ig my;rw[<-a];exact awD.2 ⟨c,axF e,rfl⟩)
 unfold fm;rw[auO om,auZ,azP,List.getElem?_range g,aAi,awN,d];generalize (gg (iu counts) (most - 1)).take (2*(bn counts).length - 2)=l at b;unfold Cn.sum;by_cases hu:s∈bn counts
 ·rw[auP (by simpa using hu),aAg]
  congr 1
  refine azV λc _=>?_;have hi:=aBo hu;show (cy (bn counts) c).2.2.getD _ 0=_;rw[qv,auZ,azP,auX hi,aAi,awN,List.getElem_idxOf]
 ·rw[auO (by simpa using hu)];have:∀c∈l,c.cnt s=0:=λc e=>oo _ hu c (b c e);clear b d
  induction l with
 |nil=>rfl
 |cons c l h=>
   rw[awY,azK,this c axR,avC];exact h λx i=>this x (awR _ i)
section
open Eng Go.RowKit
theorem zH (counts:List Nat)(most:Nat)(v:aq)(M:Mem)(w:ao)(hM:M.has w)(E:SlA M.A M.w v 1 counts.length (aT counts))(hl:counts.length<=288)(l4:0 < counts.length)(hc:∀c∈counts,c<=2147483647)(hm:1<=most)(h4:most<=15)(h5:4<=most)(a6:lh counts most=av) :
  lA ah 252 #[v,ad (most:Int)] M w (λr N=>∃r',r=.tuple #[r',ad 0]∧r'.oneCell'=av∧SlA N.A N.w r' 1 (fm counts most).length (aT (fm counts most))):=by
 obtain⟨h6,b9⟩:(bn counts).length≠1∧((bn counts).length=0∨((bn counts).length < 10∧(∀t < most,∀c∈ig counts t,c.1<=1000000∧c.2.1=av)∧2*(bn counts).length - 2<=(ig counts (most - 1)).length∧∀x∈fm counts most,x<=1000)):=by
  unfold lh at a6;simp only[avM,axQ,awG,axI,axE] at a6;obtain⟨q,F⟩:=a6;refine⟨q,F.imp_right λh=>⟨h.1.1.1,λt ht c hc=>h.1.1.2 t ht c hc,h.1.2,h.2⟩⟩
 refine aO hM λK hK=>IQ ?_;unfold Fp nz;have d:dQ M.A w w [.mem M]:=dQ.memS hM;rw[aS avJ (E.now hM)];simp only[rs,show ai ((288:Int) < (counts.length:Int))=au from auQ om,show ai ((most:Int) < 1)=au from auQ om,show ai ((15:Int) < (most:Int))=au from auQ om,i_f];rw[aS avJ (E.now hM)];have d:dQ M.A w w [.urow 320 1 dY 0 [],.mem M]:=dQ.nilU (L:=[.mem M]) d _ _;refine loop (λvs W=>∃(i:Nat) (v':aq) (f:List Pc) (N:Mem),vs=[v',ad (i:Int)]∧i<=counts.length∧M.le N∧f.map (·.2)=kj counts i∧(∀x∈f,okM N x)∧dQ M.A w W [pcE v' f,.mem N]) (λvs _=>counts.length - n1 vs) ⟨0,dY,[],M,rfl,om,M.le_refl,rfl,(λx m=>by cases m),d⟩ ?_;clear d;rintro vs w1 ⟨i,v',f,N,rfl,hi,hle,hX,a7,d⟩ _;simp only[AV,gd,rs,nz];have l5:=Ad hX;have l6:=yw counts i;by_cases c0:(i:Int) < (counts.length:Int)
 ·simp only[c0,auS,i_t];have a8:i < counts.length:=om
  refine join λJ hJ=>?_;obtain⟨b2,off,r1,r2⟩:=eG (E.now (Mem.QO hle (d.hasM 1 rfl))) a8;refine aC (r1 w1) |>.mpr (aC (aB aW r2) |>.mpr ?_);have h7:=hc _ (avD a8);have h8:counts.getD i 0=counts[i]:=by rw[auZ,auX a8];rfl
  have e:=yu counts i;rw[h8] at e;generalize counts[i]=ci at h7 e;simp only[rs,show ai ((ci:Int) < 0)=au from auQ om,show ai ((2147483647:Int) < (ci:Int))=au from auQ om,i_f];have fin:∀(W:ao) (v2:aq) (H:List Pc) (R:Mem),N.le R->H.map (·.2)=kj counts (i+1)->(∀x∈H,okM R x)->dQ M.A w W [pcE v2 H,.mem R]->J [v2] W:=by
   intro W v2 H R g q F d;refine hJ _ _ λ_=>?_;simp only[AA,gd,rs,nz];rw[aA om om];exact aU ⟨i+1,v2,H,R,rfl,om,hle.trans g,q,F,d⟩ (by simp[n1,RowKit.intOf];omega)
  by_cases h0:0 < ci
  ·simp only[show ai ((0:Int) < (ci:Int))=av from auR om,i_t];rw[auP h0] at e;have mb:∀{PK:PKT} {K:VWP},DoX ah (aN 322 #[(0,ad (ci:Int)),(1,ad (i:Int))]) w1 PK K=K (.agg (cnC ci i (.pointer aw) (.pointer aw)).toArray) w1:=aC krx;rw[mb];refine bB (λb=>af b 0) (cnC ci i (.pointer aw) (.pointer aw)) 322 (λ_=>by kernel_rfl) d λnb w3 d=>?_;have h9:=d.at_ 0 rfl;obtain⟨N1,g1,j0,c1,d⟩:=dQ.freeze (L:=[pcE v' f,.mem N]) d 1 rfl;have hz:okM N1 (af nb 0,.leaf ci i):=⟨nb,rfl,c1 nb rfl,by rw[j0];exact h9⟩;have d:dQ M.A w w3 [pcE v' f,.mem N1]:=d;refine bB (λb=>cW b 0 1 1) [af nb 0] 320 (λ_=>by kernel_rfl) d λsb w4 d=>?_;refine bN 1 axD OP dc d rfl (gX (d.at_ 0 rfl) dc rfl) (λu hu=>by rw[avV.1 hu];rfl) om om λv2 w5 d=>?_;have d:dQ M.A w w5 [pcE v2 (f++[(af nb 0,.leaf ci i)]),.mem N1]:=by
    unfold pcE;rw[Se,auU];exact d.tail
   refine fin w5 v2 _ N1 g1 (by rw[avT,hX,e];rfl) (λu hu=>?_) d;rcases avZ.1 hu with h|h
   ·exact (a7 u h).le g1
   ·rw[avV.1 h];exact hz
  ·simp only[show ai ((0:Int) < (ci:Int))=au from auQ om,i_f];rw[auO h0,awF] at e;exact fin w1 v' f N N.le_refl (by rw[hX,e]) a7 d
 ·simp only[c0,auT,i_f];have j1:i=counts.length:=om
  subst j1;rw[yt] at hX;have c2:=xd counts;have j3:f.length=(bn counts).length:=by rw[Ad hX,c2.len]
  have l7:2 ^ most<=2 ^ 15:=awC dc h4;have l8:(2:Nat) ^ 15=32768:=rfl;rw[L1 (d.at_ 0 rfl),Bi om];have y:=aaP (a:=1) (k:=most) om om;rw[Nat.one_mul] at y;have y:IntKind.i64.wrap ((1:Int)*2 ^ min ((most:Nat):Int).toNat IntKind.i64.bits)=((2 ^ most:Nat):Int):=y;rw[y];have l0:f.length < 10:=by rcases b9 with h|h<;>omega
  have l9:f.length<=2 ^ most:=by
   have:=awC (n:=2) dc h5;have e4:(2:Nat) ^ 4=16:=rfl;omega
  simp only[rs,show ai (((2 ^ most:Nat):Int) < (f.length:Int))=au from auQ om,i_f];rw[aS avJ (E.now (Mem.QO hle (d.hasM 1 rfl)))];refine zI om d λz w2 d=>?_;refine bB (λb=>af b 0) [.slice aw 0 0] 59 (λ_=>by kernel_rfl) d λob w3 d=>?_;refine aK 0 d rfl krx rfl (by show 0 < 1;omega) λw4 d=>?_;have j4:aT (List.replicate counts.length 0)=List.replicate counts.length (ad 0):=by simp[aT]
  have d:dQ M.A w w4 (lnE ob z (List.replicate counts.length 0).length::lrE z (List.replicate counts.length 0)::[pcE v' f,.mem N]):=by
   unfold lrE;rw[j4,awJ];exact d
  refine join λJ3 j5=>?_;rw[L1 (d.at_ 2 rfl)];simp only[rs];have fin:∀(W:ao) (out:List Nat),out.length=counts.length->(f.length < 2->out=fm counts most)->(2<=f.length->out=List.replicate counts.length 0)->dQ M.A w W (lnE ob z out.length::lrE z out::[pcE v' f,.mem N])->J3 [] W:=by
   intro W out S q F d;refine j5 _ _ λ_=>?_;unfold Ay nz;rw[L1 (d.at_ 2 rfl)];simp only[rs];by_cases j6:f.length < 2
   ·simp only[show ai ((f.length:Int) < 2)=av from auR om,i_t];rw[aH MH (d.cell 0 rfl 0 rfl)];obtain⟨R,g2,b0,L2,j2,b1,b3⟩:=afG (j:=1) d rfl om;exact hK _ _ R L2 j2 b1 b3 (hle.trans g2) ⟨_,rfl,rfl,by rw[<-q j6];exact b0⟩
   ·simp only[show ai ((f.length:Int) < 2)=au from auQ om,i_f];have F:=F om;subst F;have j7:=cP (d.at_ 2 rfl);have d:dQ M.A w W ([lnE ob z (List.replicate counts.length 0).length,lrE z (List.replicate counts.length 0)]++([pcE v' f]++[.mem N])):=d;obtain⟨R,g2,j8,d⟩:=dQ.bH (L:=[lnE ob z (List.replicate counts.length 0).length,lrE z (List.replicate counts.length 0)]++[.mem N]) d.front 2 rfl;have d:dQ M.A w W [lnE ob z (List.replicate counts.length 0).length,lrE z (List.replicate counts.length 0),.mem R]:=d;obtain⟨l1,B,I,j9⟩:=b9.resolve_left om;refine aY d 2 rfl (Jv f [] v' dY R W (d.hasM 2 rfl) j8 (SlA.nil _ _ _ _) (λx m=>(a7 x m).le g2) (λx m=>by cases m) om (by rw[aAc];omega) j7 rfl) ?_;rintro lv N3 w5 g3 ⟨ls,U,c3,c4,O⟩ d;rw[hX,ayZ,awF] at U;have c5:=c2.len;have m0:ls.length=(bn counts).length:=by rw[Ad U,og,c5]
    rw[aA om om];refine loop (λvs V=>∃(k:Nat) (rv:aq) (rs:List Pc) (N':Mem),vs=[rv,ad (k:Int)]∧k<=most - 1∧N3.le N'∧rs.map (·.2)=gg (iu counts) k∧(∀x∈rs,okM N' x)∧rv.oneCell'=av∧SlA N'.A N'.w rv 1 rs.length (pcW rs)∧dQ M.A w V [lnE ob z (List.replicate counts.length 0).length,lrE z (List.replicate counts.length 0),.mem N']) (λvs _=>most - n1 vs) ⟨0,lv,ls,N3,rfl,om,N3.le_refl,U,c3,c4,O,d⟩ ?_;clear d;rintro vs w6 ⟨k,rv,rws,N4,rfl,hk,g4,o,c6,m1,C,d⟩ _;simp only[A3,gd,rs,nz];have k0:=uv (iu counts) k;rw[<-o,avS,c5] at k0;have c7:∀x∈rws,cy (bn counts) x.2∈ig counts k:=λx m=>by
     unfold ig my;rw[<-ou,<-o];exact awD.2 ⟨x.2,awD.2 ⟨x,m,rfl⟩,rfl⟩
    by_cases X:(k:Int) < (most:Int) - 1
    ·simp only[X,auS,i_t];have k1:∀x∈rws,pw x<=1000000000000000:=λx m=>by
      have q:=(B k om _ (c7 x m)).1;rw[oh] at q;show x.2.wt<=_;omega
     refine aY d 2 rfl (Vv rws rv N4 w6 (d.hasM 2 rfl) C c6 om k1) ?_;rintro pv N5 w7 g5 ⟨qq,c8,c9,e0,e2⟩ d;have l2:qq.length<=9:=by
      rw[Ad c8,Cn.LA,avS];omega
     refine aY d 2 rfl (Jv ls qq lv pv N5 w7 (d.hasM 2 rfl) (O.le (g4.trans g5)) e2 (λx m=>(c3 x m).le (g4.trans g5)) c9 om om c4 e0) ?_;rintro k2 N6 w8 g6 ⟨k3,k4,e3,k5,b4⟩ d
     try simp only[rs]
     rw[aA om om];refine aU ⟨k+1,k2,k3,N6,rfl,om,g4.trans (g5.trans g6),?_,e3,k5,b4,d⟩ (by simp[n1,RowKit.intOf];omega);rw[k4,U,c8,o];rfl
    ·simp only[X,auT,i_f];have k6:k=most - 1:=om
     subst k6;have b5:(ig counts (most - 1)).length=rws.length:=by
      unfold ig my;rw[<-ou,<-o,avS,avS]
     rw[b5] at I;have e5:∀c∈ig counts (most - 1),c.2.1=true:=λc hc=>(B (most - 1) om c hc).2;rw[aS axD ((O.le g4).now (d.hasM 2 rfl))];simp only[rs];rw[aA (n:=(2:Int)*(ls.length:Int)) om om,aA om om,show (2:Int)*(ls.length:Int) - 2=((2*(bn counts).length - 2:Nat):Int) by omega];have P:∀s,s < counts.length->(fm counts most).getD s 0=Cn.sum (Cn.cnt s) ((rws.take (2*(bn counts).length - 2)).map (·.2)):=λs E=>by
      rw[zh om e5 E,<-o,azR]
     generalize hD:2*(bn counts).length - 2=D at I P;obtain⟨rb,e6,Y,rfl,_⟩:=bQ C.1 om;have l3:=C.2.2 _ _ _ rfl;refine aC (iY axD H9 om om) |>.mpr ?_;rw[auW];have G:=SlA.UD C (i:=D) I (λh=>by omega);rw[avQ] at G;generalize m2:Value.slice (zx (ax ⟨rb,e6,aw⟩) 0 Y 1) D Y=sv at G;have e7:pcW (rws.take D)=(pcW rws).take D:=by unfold pcW;rw[azR]
     have Z:(rws.take D).length=D:=by rw[avA];omega
     have G:SlA N4.A N4.w sv 1 (rws.take D).length (pcW (rws.take D)):=by rw[e7,Z];exact G
     rw[aS axD (G.now (d.hasM 2 rfl)),Z];have b6:∀s∈bn counts,s < counts.length:=λs E=>by
      have:=ua.1 E;rcases awO s counts.length with h'|h'
      ·exact h'
      ·rw[auZ,ayG h'] at this;exact absurd this (aAp _)
     have e8:∀x∈rws,∀s,s ∉ bn counts->x.2.cnt s=0:=λx m s E=>oo _ E _ (e5 _ (c7 x m));have b7:∀x∈rws,∀s,0 < x.2.cnt s->s < counts.length:=λx m s E=>by
      by_cases hu:s∈bn counts
      ·exact b6 s hu
      ·rw[e8 x m s hu] at E;exact absurd E (aAp _)
     refine loop (λvs V=>∃(i:Nat) (out:List Nat),vs=[ad (i:Int)]∧i<=D∧out.length=counts.length∧(∀s,out.getD s 0=Cn.sum (Cn.cnt s) ((rws.take i).map (·.2)))∧dQ M.A w V [lnE ob z out.length,lrE z out,.mem N4]) (λvs _=>D - n0 vs) ⟨0,List.replicate counts.length 0,rfl,om,awJ,λs=>by
      rw[auZ,aAH];split<;>rfl,d⟩ ?_
     clear d;rintro vs w7 ⟨j,out,rfl,hj,S,Q,d⟩ _;simp only[Bc,gd,rs,nz];by_cases a1:(j:Int) < (D:Int)
     ·simp only[a1,auS,i_t];have k7:j < (rws.take D).length:=om
      have b8:j < rws.length:=om
      obtain⟨p,ia,ld⟩:=pcAt G k7;refine aC (ia w7) |>.mpr (aC (ld w7 (d.hasM 2 rfl)) |>.mpr ?_)
      try rw[tM]
      rw[List.getElem_take];have m:=c6 _ (avD b8);have e9:∀s,Cn.sum (Cn.cnt s) ((rws.take (j+1)).map (·.2))=Cn.sum (Cn.cnt s) ((rws.take j).map (·.2))+rws[j].2.cnt s:=λs=>by
       rw[avP b8,avT,Cn.Yc];rfl
      have k8:∀s,Cn.sum (Cn.cnt s) ((rws.take (j+1)).map (·.2))<=1000:=λs=>by
       by_cases hu:s∈bn counts
       ·have q:(fm counts most).getD s 0<=1000:=by
         rw[auZ,auX (by rw[mz];exact b6 s hu)];exact j9 _ (avD _)
        rw[P s (b6 s hu)] at q;have F:(rws.take D).map (·.2)=(rws.take (j+1)).map (·.2)++((rws.drop (j+1)).take (D - (j+1))).map (·.2):=by
         rw[<-avT]
         congr 1
         conv=>lhs;rw[show D=j+1+(D - (j+1)) by omega,List.take_add]
        rw[F,Cn.Yc] at q;omega
       ·have:∀l:List Pc,(∀x∈l,x∈rws)->Cn.sum (Cn.cnt s) (l.map (·.2))=0:=λl=>by
         induction l with
        |nil=>intro _;rfl
        |cons c l ih=>intro h;rw[awY,Cn.sum_cons,e8 c (h c axR) s hu,ih λx m=>h x (awR _ m)]
        rw[this _ λx m=>axF m];omega
      refine Xb (jm:=0) (T:=[.mem N4]) rfl rws[j].2 d m (λs h=>by rw[S];exact b7 _ (avD b8) s h) (λs=>by rw[Q,<-e9];have:=k8 s;omega) λW2 h3 q F d=>?_
      try simp only[rs]
      rw[aA om om];exact aU ⟨j+1,h3,rfl,om,by rw[q,S],λs=>by rw[F,Q,e9],d⟩ (by simp[n0,RowKit.intOf];omega)
     ·simp only[a1,auT,i_f];have k9:j=D:=om
      subst k9;rw[aH MH (d.cell 0 rfl 0 rfl)];obtain⟨N5,g5,b0,L2,j2,b1,b3⟩:=afG (j:=0) d rfl om;have he:out=fm counts most:=by
       refine List.ext_getElem (by rw[S,mz]) λs q F=>?_;have e1:=Q s;rw[<-P s om,auZ,auX q,auZ,auX F] at e1;exact e1
      exact hK _ _ N5 L2 j2 b1 b3 (hle.trans (g2.trans (g3.trans (g4.trans g5)))) ⟨_,rfl,rfl,by rw[<-he];exact b0⟩
  have m3:f.length≠1:=by rw[j3];exact h6
  simp only[show ai ((f.length:Int)=1)=au from auQ om,i_f];refine fin w4 _ awJ (λh=>?_) (λ_=>rfl) d;unfold fm;rw[auP om]
def ey (ps:List bt):List Nat:=ps.foldl (λca x=>ir ca x.1.toNat) ((List.replicate 286 0).set 256 1)
theorem ux (ps:List bt):(ey ps).length=286:=by
 unfold ey;have:∀(ps:List bt) (l:List Nat),(ps.foldl (λca x=>ir ca x.1.toNat) l).length=l.length:=by
  intro ps
  induction ps with
 |nil=>intro l;rfl
 |cons x ps a=>intro l;rw[List.foldl_cons,a,uf]
 rw[this];rfl
theorem zi (ps:List bt)(x:bt):ey (ps++[x])=ir (ey ps) x.1.toNat:=by unfold ey;rw[aAK];rfl
theorem PV (ps:List bt)(pv:aq)(M:Mem)(w:ao)(D:M.has w)(m:SlA M.A M.w pv 3 ps.length (ps.flatMap ptC))(u:∀x∈ps,x.2.1=0)(H:ps.length<=1048576) :
  lA ah 251 #[pv] M w (λr N=>∃va E,r=.tuple #[va,E]∧SlA N.A N.w va 1 286 (aT (ey ps))∧SlA N.A N.w E 1 30 (aT (List.replicate 30 0))):=by
 refine aO D λK I=>Eb ?_;unfold xG iN dx;have a:dQ M.A w w [.mem M]:=dQ.memS D;have t:∀n:Nat,aT (List.replicate n 0)=List.replicate n (ad 0):=λn=>by simp[aT]
 have body:∀(W:ao) (d b:Nat),dQ M.A w W [lrE d (List.replicate 286 0),lrE b (List.replicate 30 0),.mem M]->dV pv (cW d 0 286 286) (cW b 0 30 30) W K:=by
  intro W d b a;unfold dV iN iax stx lnx;refine aC (Sh (i:=256) (k:=.i64) dc W) |>.mpr ?_;refine aK 0 a rfl krx rfl (by rw[dZ,awJ];decide) λw2 a=>?_;rw[show (Value.int .i64 1)=ad ((1:Nat):Int) from rfl,H3] at a;rw[aS aA2 (m.now (a.hasM 2 rfl))];refine loop (λvs V=>∃(i:Nat),vs=[ad (i:Int)]∧i<=ps.length∧(∀j,(ey (ps.take i)).getD j 0<=i+1)∧dQ M.A w V [lrE d (ey (ps.take i)),lrE b (List.replicate 30 0),.mem M]) (λvs _=>ps.length - n0 vs) ⟨0,rfl,om,?_,a⟩ ?_
  ·refine ja (P:=λc=>c<=0+1) (λc F=>?_) dc;rcases aAY F with h|h
   ·rw[ayA h];decide
   ·rw[h];decide
  clear a;rintro vs w3 ⟨i,rfl,hi,o,a⟩ _;simp only[sY,gd,rs,nz];have f:=ux (ps.take i);by_cases q:(i:Int) < (ps.length:Int)
  ·have g:i < ps.length:=om
   simp only[q,auS,i_t];obtain⟨p,v,s⟩:=ptAt m g;refine join λJ O=>?_;rw[aC (v w3),aC (s w3 (a.hasM 2 rfl))];have Q:=u _ (avD g);have e:=zi (ps.take i) ps[i];rw[<-avP g] at e;generalize ps[i]=x at s Q e;refine Xd a λR Z a=>?_;refine U4 (y:=x) 0 a rfl λS a=>?_;have a:dQ M.A w S (ptE R x::[lrE d (ey (ps.take i)),lrE b (List.replicate 30 0),.mem M]):=a;rw[aQ Qr,pt_1 a 0 rfl];simp only[rs];simp only[show ai ((x.2.1:Int)=0)=av from auR om,i_t];rw[aQ Zt,pt_0 a 0 rfl];have F:=x.1.toNat_lt;have T:=o x.1.toNat;refine aoK 1 a rfl f om om λw6 a=>?_;have U:=uh (l:=ey (ps.take i)) (j:=x.1.toNat) om;refine O _ _ λ_=>?_;simp only[tG,gd,rs,nz];rw[aA om om];refine aU ⟨i+1,rfl,om,λj=>?_,?_⟩ (by simp[n0,RowKit.intOf];omega)
   ·rw[e,U];have:=o j;split<;>omega
   ·rw[e];exact a.tail
  ·simp only[q,auT,i_f];have z:i=ps.length:=om
   subst z;rw[awI] at a f;have a:=a.toU 1 286 286 (by rw[dZ,f]) (auY _) om;rw[avQ,avX (by rw[dZ];omega)] at a;obtain⟨G,g1,B,a⟩:=dQ.bH (L:=[lrE b (List.replicate 30 0),.mem M]) a 1 rfl;have a:dQ M.A w w3 [lrE b (List.replicate 30 0),.mem G]:=a;have a:=a.toU 1 30 30 (by rw[dZ];rfl) (auY _) om;rw[avQ,avX (by rw[dZ];exact auY _)] at a;obtain⟨X,g2,C,a⟩:=dQ.bH (L:=[.mem G]) a 0 rfl;exact I _ _ X _ 0 a rfl (g1.trans g2) ⟨_,_,rfl,B.le g2,C⟩
 refine⟨?_⟩;have a:=a.drew;refine⟨?_,?_⟩
 ·refine zI (n:=286) om a λd Y a=>⟨?_,?_⟩
  all_goals
   refine zI (n:=30) om a λb w2 a=>?_;refine body w2 d b ?_;unfold lrE;rw[t,t];exact a.perm (List.Perm.swap _ _ _)
 ·refine zI (n:=30) om a λb Y a=>?_;refine zI (n:=286) om a λd w2 a=>?_;refine body w2 d b ?_;unfold lrE;rw[t,t];exact a
def dk (l:List Nat)(keep:Nat):Nat->Nat
|0=>0
|n+1=>if keep < n+1∧l.getD n 0=0 then dk l keep n else n+1
theorem Ly (l:List Nat)(v:aq)(keep:Nat)(M:Mem)(w:ao)(o:M.has w)(d:SlA M.A M.w v 1 l.length (aT l))(x:keep<=l.length)(E:0 < keep)(F:l.length<=1000000) :
  Ret ah 253 #[v,ad (keep:Int)] w (λr w'=>(keep<=dk l keep l.length∧dk l keep l.length<=l.length∧r.oneCell'=av∧SlA M.A M.w r 1 (dk l keep l.length) (aT (l.take (dk l keep l.length))))∧w=w'):=by
 refine aL λK p=>Ko ?_;unfold F4 nz;rw[aS avJ (d.now o)];generalize y:dk l keep l.length=X at p;refine loop (λvs W=>∃n:Nat,vs=[ad (n:Int)]∧keep<=n∧n<=l.length∧dk l keep n=X∧w=W) (λvs _=>n0 vs) ⟨l.length,rfl,x,auY _,y,rfl⟩ ?_;rintro vs _ ⟨n,rfl,z,B,a,rfl⟩ _;simp only[B3,gd,rs,nz];obtain⟨m,rfl⟩:∃m,n=m+1:=⟨n - 1,om⟩;unfold dk at a;obtain⟨b,off,cap,rfl,_⟩:=bQ d.1 om;have q:=d.2.2 _ _ _ rfl;have stop:m+1=X->DoX ah (cY 59 (cW b off l.length cap) aw (ax (ad ((m+1:Nat):Int))) aw) w (pk K) λt23 w=>K (.returned t23) w:=by
  intro e;refine aC (iY avJ TC om om) |>.mpr ?_;rw[auW];have f:=SlA.UD d (i:=m+1) B (λh=>by omega);rw[avQ] at f;refine p _ _ ⟨⟨om,om,?_,?_⟩,rfl⟩
  ·unfold zx;split<;>rfl
  ·rw[<-e,show aT (l.take (m+1))=(aT l).take (m+1) by unfold aT;rw[azR]];exact f
 have C:l.getD m 0=l[m]'(om):=by rw[auZ,auX om];rfl
 by_cases s:keep < m+1
 ·simp only[show ai ((keep:Int) < ((m+1:Nat):Int))=av from auR om,rs];rw[aA om om,show ((m+1:Nat):Int) - 1=(m:Int) by omega];obtain⟨b2,t,D,g⟩:=eG (d.now o) (i:=m) om;rw[<-C] at g;generalize l.getD m 0=c at a g;refine aC (D w) |>.mpr (aC (aB aW g) |>.mpr ?_);simp only[rs];by_cases u:c=0
  ·rw[auP ⟨s,u⟩] at a;simp only[show ai ((c:Int)=0)=av from auR om,i_t];exact aU ⟨m,rfl,om,om,a,rfl⟩ (by simp[n0,RowKit.intOf])
  ·rw[auO (λh=>u h.2)] at a;have j:¬(c:Int)=0:=om
   simp only[auQ j,i_f];exact stop a
 ·rw[auO (λh=>s h.1)] at a;have k:¬(keep:Int) < ((m+1:Nat):Int):=om
  simp only[auQ k,i_f,rs];exact stop a
def jy (l:List Nat)(i:Nat):Nat->Nat->Nat
|0,n=>n
|f+1,n=>if i+n < l.length∧l.getD (i+n) 0=l.getD i 0 then jy l i f (n+1) else n
def fg (c n:Nat):List dh×Nat:=
 if c=0∧11<=n then ([(18,min n 138 - 11,7)],min n 138) else if c=0∧3<=n then ([(17,n - 3,3)],n) else if 4<=n then ([(c,0,0),(16,min n 7 - 4,2)],min n 7) else ([(c,0,0)],1)
def ju (l:List Nat):Nat->Nat->List dh
|0,_=>[]
|f+1,i=>if i < l.length then (fg (l.getD i 0) (jy l i l.length 1)).1++ju l f (i+(fg (l.getD i 0) (jy l i l.length 1)).2) else []
theorem xq (c:Nat){n:Nat}(h:1<=n):1<=(fg c n).2∧(fg c n).2<=n∧(fg c n).1.length<=2:=by
 unfold fg;split
 ·refine⟨?_,?_,?_⟩<;>simp<;>omega
 ·split
  ·refine⟨?_,?_,?_⟩<;>simp<;>omega
  ·split
   ·refine⟨?_,?_,?_⟩<;>simp<;>omega
   ·refine⟨?_,?_,?_⟩<;>simp<;>omega
section
variable {w:ao}{PK:PKT}{S:Nat->Prop}{w0:ao}{L T:List Ent}
theorem ajW {ms:List dh}{n:Nat}{y:List aq->ao->Prop}{K:Ending->ao->Prop}(F:SlA M.A M.w v 1 l.length (aT l))(hi:i < l.length)(q:l[i] < 16)(G:1<=n)(H:n<=1000000)(I:ms.length<=3000000)(d:dQ S w0 W [K7 v' ms,.mem M])
  (emit:∀(W:ao) (v2:aq),dQ S w0 W [K7 v2 (ms++(fg l[i] n).1),.mem M]->dS v2 (ad (i:Int)) (ad ((fg l[i] n).2:Int)) W y K) :
  zP (λx=>
 DoX ah (mIA 59 v (ad (i:Int))) W (pk K) λt42 W=>
 DoX ah (aG 3 t42) W (pk K) λt43 W=>
 DoX ah (mEq .eql 3 (.tmp 43) (.const (ad 0)) t43 (ad 0)) W (pk K) λt44 W=>
 GDo t44 av (λE=>E (ad (n:Int)) W) W λt46 W=>
 GDo t44 av (λE=>DoX ah (gS .geq 3 t46 (ad 11)) W (pk K) E) W λt47 W=>
 DoX ah (fK t44 t47 (.bool au)) W (pk K) λt48 W=>
 IfX t48 (DoX ah (mB .min #[3,3] 3 #[au,av] #[(ad (n:Int)),(ad 138)]) W (pk K) λt50 W=>
 DoX ah (gS .sub 3 t50 (ad 11)) W (pk K) λt53 W=>
 DoX ah (aN 287 #[(0,(ad 18)),(1,t53),(2,(ad 7))]) W (pk K) λt54 W=>
 DoX ah (bJ 284 1 #[(0,t54)]) W (pk K) λt55 W=>
 DoX ah (mB .append #[284,284] 284 #[au,au] #[v',t55]) W (pk K) λt56 W=>
 x [t56,t50] W) (DoX ah (mIA 59 v (ad (i:Int))) W (pk K) λt60 W=>
 DoX ah (aG 3 t60) W (pk K) λt61 W=>
 DoX ah (mEq .eql 3 (.tmp 61) (.const (ad 0)) t61 (ad 0)) W (pk K) λt62 W=>
 GDo t62 av (λE=>E (ad (n:Int)) W) W λt64 W=>
 GDo t62 av (λE=>DoX ah (gS .geq 3 t64 (ad 3)) W (pk K) E) W λt65 W=>
 DoX ah (fK t62 t65 (.bool au)) W (pk K) λt66 W=>
 IfX t66 (DoX ah (gS .sub 3 (ad (n:Int)) (ad 3)) W (pk K) λt69 W=>
 DoX ah (aN 287 #[(0,(ad 17)),(1,t69),(2,(ad 3))]) W (pk K) λt70 W=>
 DoX ah (bJ 284 1 #[(0,t70)]) W (pk K) λt71 W=>
 DoX ah (mB .append #[284,284] 284 #[au,au] #[v',t71]) W (pk K) λt72 W=>
 x [t72,(ad (n:Int))] W) (DoX ah (gS .geq 3 (ad (n:Int)) (ad 4)) W (pk K) λt75 W=>
 IfX t75 (DoX ah (mB .min #[3,3] 3 #[au,av] #[(ad (n:Int)),(ad 7)]) W (pk K) λt77 W=>
 DoX ah (mIA 59 v (ad (i:Int))) W (pk K) λt81 W=>
 DoX ah (aG 3 t81) W (pk K) λt82 W=>
 DoX ah (aN 287 #[(0,t82),(1,(ad 0)),(2,(ad 0))]) W (pk K) λt83 W=>
 DoX ah (gS .sub 3 t77 (ad 4)) W (pk K) λt85 W=>
 DoX ah (aN 287 #[(0,(ad 16)),(1,t85),(2,(ad 2))]) W (pk K) λt86 W=>
 DoX ah (bJ 284 2 #[(0,t83),(1,t86)]) W (pk K) λt87 W=>
 DoX ah (mB .append #[284,284] 284 #[au,au] #[v',t87]) W (pk K) λt88 W=>
 x [t88,t77] W) (DoX ah (mIA 59 v (ad (i:Int))) W (pk K) λt34 W=>
 DoX ah (aG 3 t34) W (pk K) λt35 W=>
 DoX ah (aN 287 #[(0,t35),(1,(ad 0)),(2,(ad 0))]) W (pk K) λt36 W=>
 DoX ah (bJ 284 1 #[(0,t36)]) W (pk K) λt37 W=>
 DoX ah (mB .append #[284,284] 284 #[au,au] #[v',t37]) W (pk K) λt38 W=>
 x [t38,(ad 1)] W)))) (λr W=>∀_:Sg,dS (r.getD 0 undef) (ad (i:Int)) (r.getD 1 undef) W y K):=by
 obtain⟨p,k,f⟩:=Yo F hi;generalize l[i]=c at q f emit;refine join λJ L=>?_;have go:∀(W:ao) (v2:aq) (g:Nat),dS v2 (ad (i:Int)) (ad (g:Int)) W y K->J [v2,ad (g:Int)] W:=λW v2 g h=>L _ _ λ_=>h;have o:=d.hasM 1 rfl;refine aC (k W) |>.mpr (aC (f W o) |>.mpr ?_);simp only[rs];have e:∀(m:dh) (g:Nat) (W:ao),fg c n=([m],g)->dQ S w0 W [K7 v' ms,.mem M]->∀PK:PKT,
   DoX ah (bJ 284 1 #[(0,mkV m)]) W PK λt W=>DoX ah (mB .append #[284,284] 284 #[au,au] #[v',t]) W PK λt W=>J [t,ad (g:Int)] W:=by
  intro m g W h d PK;rw[h] at emit;refine bB (λb=>cW b 0 1 1) (mkC m) 287 (λ_=>by kernel_rfl) d λz B d=>?_;have d:dQ S w0 B [.cells z ([m].flatMap mkC) 287,K7 v' ms,.mem M]:=by
   rw[ayO];exact d
  exact aeY (new:=[m]) om sm d λv2 w2 d=>go _ _ _ (emit w2 v2 d)
 have last:fg c n=([(c,0,0)],1)->(∀PK:PKT,DoX ah (bJ 284 1 #[(0,mkV (c,0,0))]) W PK λt W=>DoX ah (mB .append #[284,284] 284 #[au,au] #[v',t]) W PK λt W=>J [t,ad ((1:Nat):Int)] W):=
  λh=>e (c,0,0) 1 W h d
 have fourth:fg c n=([(c,0,0),(16,min n 7 - 4,2)],min n 7)->∀PK:PKT,DoX ah (bJ 284 2 #[(0,mkV (c,0,0)),(1,mkV (16,min n 7 - 4,2))]) W PK λt W=>DoX ah (mB .append #[284,284] 284 #[au,au] #[v',t]) W PK λt W=>J [t,ad ((min n 7:Nat):Int)] W:=by
  intro h PK;rw[h] at emit;refine bB (λb=>cW b 0 2 2) (mkC (c,0,0)++mkC (16,min n 7 - 4,2)) 287 (λ_=>by kernel_rfl) d λz B d=>?_;exact aeY (new:=[(c,0,0),(16,min n 7 - 4,2)]) om sm d λv2 w2 d=>go _ _ _ (emit w2 v2 d)
 have N:min (n:Int) 7=((min n 7:Nat):Int):=om
 have s:min (n:Int) 138=((min n 138:Nat):Int):=om
 by_cases u:c=0
 ·subst u;simp only[show ai (((0:Nat):Int)=0)=av from rfl,rs];by_cases j:11<=n
  ·simp only[show ai ((11:Int)<=(n:Int))=av from auR om,i_t,rs];rw[MF,s];simp only[rs];rw[aA om om,show ((min n 138:Nat):Int) - 11=((min n 138 - 11:Nat):Int) by omega];refine (m_mk (a:=18) (b:=min n 138 - 11) (c:=7)).mpr ?_;exact e (18,min n 138 - 11,7) (min n 138) W (by unfold fg;rw[auP ⟨rfl,j⟩]) d _
  ·simp only[show ai ((11:Int)<=(n:Int))=au from auQ om,i_f,rs];refine aC (k W) |>.mpr (aC (f W o) |>.mpr ?_);simp only[show ai (((0:Nat):Int)=0)=av from rfl,rs];by_cases C:3<=n
   ·simp only[show ai ((3:Int)<=(n:Int))=av from auR om,i_t,rs];rw[aA om om,show (n:Int) - 3=((n - 3:Nat):Int) by omega];refine (m_mk (a:=17) (b:=n - 3) (c:=3)).mpr ?_;exact e (17,n - 3,3) n W (by unfold fg;rw[auO (λh=>j h.2),auP ⟨rfl,C⟩]) d _
   ·simp only[show ai ((3:Int)<=(n:Int))=au from auQ om,i_f,rs];simp only[show ai ((4:Int)<=(n:Int))=au from auQ om,i_f,rs];refine aC (k W) |>.mpr (aC (f W o) |>.mpr ?_);refine (m_mk (a:=0) (b:=0) (c:=0)).mpr ?_;exact last (by unfold fg;rw[auO (λh=>j h.2),auO (λh=>C h.2),auO om]) _
 ·simp only[show ai ((c:Int)=0)=au from auQ om,i_f,rs];refine aC (k W) |>.mpr (aC (f W o) |>.mpr ?_);simp only[show ai ((c:Int)=0)=au from auQ om,i_f,rs];by_cases D:4<=n
  ·simp only[show ai ((4:Int)<=(n:Int))=av from auR om,i_t,rs];rw[MF,N];refine aC (k W) |>.mpr (aC (f W o) |>.mpr ?_);refine (m_mk (a:=c) (b:=0) (c:=0)).mpr ?_;simp only[rs];rw[aA om om,show ((min n 7:Nat):Int) - 4=((min n 7 - 4:Nat):Int) by omega];refine (m_mk (a:=16) (b:=min n 7 - 4) (c:=2)).mpr ?_;exact fourth (by unfold fg;rw[auO (λh=>u h.1),auO (λh=>u h.1),auP D]) _
  ·simp only[show ai ((4:Int)<=(n:Int))=au from auQ om,i_f,rs];refine aC (k W) |>.mpr (aC (f W o) |>.mpr ?_);refine (m_mk (a:=c) (b:=0) (c:=0)).mpr ?_;exact last (by unfold fg;rw[auO (λh=>u h.1),auO (λh=>u h.1),auO D]) _
end
theorem RD (l:List Nat)(v:aq)(M:Mem)(w:ao)(J:M.has w)(o:SlA M.A M.w v 1 l.length (aT l))(Z:l.length<=1000000)(z:∀x∈l,x<=15) :
  lA ah 254 #[v] M w (λr N=>r.oneCell'=av∧SlA N.A N.w r 3 (ju l (l.length+1) 0).length ((ju l (l.length+1) 0).flatMap mkC)):=by
 refine aO J λK O=>GM ?_;unfold Dg nz;have b:dQ M.A w w [.mem M]:=dQ.memS J;generalize P:ju l (l.length+1) 0=X at O;have b:dQ M.A w w [.urow 287 3 dY 0 [],.mem M]:=dQ.nilU (L:=[.mem M]) b _ _;refine loop (λvs W=>∃(i f:Nat) (v':aq) (ms:List dh),vs=[v',ad (i:Int)]∧i<=l.length∧l.length < i+f∧ms.length<=2*i∧ms++ju l f i=X∧dQ M.A w W [K7 v' ms,.mem M]) (λvs _=>l.length - n1 vs) ⟨0,l.length+1,dY,[],rfl,om,om,auY _,P,b⟩ ?_;clear b;rintro vs Q ⟨i,f,v',ms,rfl,hi,hf,S,c,b⟩ _;simp only[wJ,gd,nz];rw[aS avJ (o.now (b.hasM 1 rfl))];simp only[rs];obtain⟨f,rfl⟩:∃q,f=q+1:=⟨f - 1,om⟩;unfold ju at c;by_cases p:(i:Int) < (l.length:Int)
 case neg=>
  simp only[p,auT,i_f];have B:i=l.length:=om
  subst B;rw[auO (aAp _),awF] at c;subst c;have C:=cP (b.at_ 0 rfl);obtain⟨T,g1,D,b⟩:=dQ.bH (L:=[.mem M]) b 0 rfl;exact O _ _ T _ 0 b rfl g1 ⟨C,D⟩
 simp only[p,auS,i_t];have j:i < l.length:=om
 obtain⟨p0,E,G⟩:=Yo o j;have s:=z _ (avD j);have m:l.getD i 0=l[i]:=by rw[auZ,auX j];rfl
 rw[auP j,m] at c;generalize U:jy l i l.length 1=R at c;refine loop (λvs W=>∃(n g:Nat),vs=[ad (n:Int)]∧1<=n∧i+n<=l.length∧l.length < i+n+g∧jy l i g n=R∧dQ M.A w W [K7 v' ms,.mem M]) (λvs _=>l.length+1 - n0 vs) ⟨1,l.length,rfl,om,om,om,U,b⟩ ?_;clear b;rintro vs w2 ⟨n,g,rfl,t,V,hg,d,b⟩ _;simp only[xH,gd,nz];have u:=xq l[i] (n:=n) t;have emit:n=R->∀(W:ao) (v2:aq),dQ M.A w W [K7 v2 (ms++(fg l[i] n).1),.mem M]->dS v2 (ad (i:Int)) (ad ((fg l[i] n).2:Int)) W (PZ (λvs W=>∃(i f:Nat) (v':aq) (ms:List dh),vs=[v',ad (i:Int)]∧i<=l.length∧l.length < i+f∧ms.length<=2*i∧ms++ju l f i=X∧dQ M.A w W [K7 v' ms,.mem M]) (λvs _=>l.length - n1 vs) [v',ad (i:Int)] Q) K:=by
  intro e W v2 b;subst e
  try dsimp only at c
  generalize fg l[i] n=F at c b u;obtain⟨new,Y⟩:=F;dsimp only at c b u ⊢;simp only[dS,rs,nz];rw[aA om om];exact aU ⟨i+Y,f,v2,ms++new,by congr 2,om,om,by rw[auU];omega,by rw[avO];exact c,b⟩ (by simp[n1,RowKit.intOf];omega)
 have stop:=λ(W:ao) (e:n=R) (b:dQ M.A w W [K7 v' ms,.mem M])=>ajW o j (Nat.lt_succ_of_le s) t om om b (emit e);obtain⟨g,rfl⟩:∃q,g=q+1:=⟨g - 1,om⟩;unfold jy at d;refine dR (λW=>dQ M.A w W [K7 v' ms,.mem M]) b.drew ?_;refine iR ?_;rw[aA om om,show (i:Int)+(n:Int)=((i+n:Nat):Int) by omega];refine kE (ad (l.length:Int)) (λW h=>?_) (abF ?_)
 ·obtain⟨_,a,cap,rfl,_⟩:=o.1;exact NB avJ
 by_cases k:i+n < l.length
 case neg=>
  rw[auQ (show ¬((i+n:Nat):Int) < (l.length:Int) by omega)];simp only[gq];refine B0 ?_;intro w3 b;simp only[i_f];exact stop w3 (by rw[<-d,auO (λh=>k h.1)]) b
 rw[auR (show ((i+n:Nat):Int) < (l.length:Int) by omega)];simp only[gq];obtain⟨p1,H,I⟩:=Yo o k;have y:l.getD (i+n) 0=l[i+n]:=by rw[auZ,auX k];rfl
 refine iR ?_;rw[aA om om,show (i:Int)+(n:Int)=((i+n:Nat):Int) by omega];refine eZ _ H (kE _ (λW h=>I W (h.hasM 1 rfl)) ?_);refine eZ _ E (kE _ (λW h=>G W (h.hasM 1 rfl)) (q_eq (H8 ?_)));intro w3 b;by_cases he:l[i+n]=l[i]
 ·rw[auR (show ((l[i+n]:Nat):Int)=((l[i]:Nat):Int) by omega)];simp only[i_t,rs];rw[aA om om];refine aU ⟨n+1,g,rfl,om,om,om,?_,b⟩ (by simp[n0,RowKit.intOf];omega);rw[auP ⟨k,by rw[y,m];exact he⟩] at d;exact d
 ·rw[auQ (show ¬((l[i+n]:Nat):Int)=((l[i]:Nat):Int) by omega)];simp only[i_f];exact stop w3 (by rw[<-d,auO (λh=>he (by rw[<-y,<-m];exact h.2))]) b
def dm (ps:List bt):List Nat:=fm (ey ps) 15
def dv:List Nat:=fm (List.replicate 30 0) 15
def ku (ps:List bt):List Nat:=(dm ps).take (dk (dm ps) 257 (dm ps).length)++dv.take (dk dv 1 dv.length)
def gj (ps:List bt):List dh:=ju (ku ps) ((ku ps).length+1) 0
def jg (ms:List dh):List Nat:=ms.foldl (λco m=>ir co m.1) (List.replicate 19 0)
def ij (ps:List bt):List Nat:=fm (jg (gj ps)) 7
def kx (ps:List bt):List Nat:=ef (ij ps) 19
def ky (la lb:List Nat)(a nb:Nat)(lc:List Nat)(nin:Nat)(ms:List dh)(ps:List bt):List Nat:=
 bf 1 1++bf 2 2++bf (a - 257) 5++bf (nb - 1) 5++bf (nin - 4) 4++iq lc nin++gz lc ms++gy la lb ps
def mf (ps:List bt):List Nat:=ky (dm ps) dv (dk (dm ps) 257 (dm ps).length) (dk dv 1 dv.length) (ij ps) (dk (kx ps) 4 (kx ps).length) (gj ps) ps
abbrev rk (ps:List bt):Prop:=lh (ey ps) 15=av∧lh (List.replicate 30 0) 15=av∧lh (jg (gj ps)) 7=av∧(∀c∈ey ps,c<=2147483647)∧bh (dm ps)=0∧bh dv=0∧bh (ij ps)=0∧(∀x∈dm ps,x<=15)∧(∀x∈dv,x<=15)∧(∀x∈ij ps,x<=7)∧(∀m∈gj ps,m.1<=18∧m.2.1 < 2 ^ m.2.2∧m.2.2<=7)∧(gj ps).length<=316∧(∀m∈gj ps,0 < (ij ps).getD m.1 0)∧0 < (dm ps).getD 256 0∧(∀x∈ps,0 < (dm ps).getD x.1.toNat 0)
theorem aiV {K:Ending->ao->Prop}{sa sb mv iv:aq}{o f tt:Nat}{ps:List bt}{la lb a b lc:List Nat}{ms:List dh}{nin:Nat}
  (c:dQ S w0 W [.cells o (prC f tb) 276,.mem N]) (b1:TbW N.A N.w f la) (b2:TbW N.A N.w tb lb) (b3:TbW N.A N.w tt lc)
  (b4:bh la=0) (b5:bh lb=0) (b6:bh lc=0) (d:∀x∈la,x<=15) (q:∀x∈lb,x<=15) (G:∀x∈lc,x<=7) (h5:lc.length=19)
  (h6:257<=a.length) (e7:a.length<=286) (h7:1<=b.length) (e8:b.length<=30) (hk:4<=nin) (h8:nin<=19)
  (b7:SlA N.A N.w sa 1 a.length (aT a)) (b8:SlA N.A N.w sb 1 b.length (aT b)) (C:SlA N.A N.w iv 1 (ef lc nin).length (aT (ef lc nin))) (H:SlA N.A N.w mv 3 ms.length (ms.flatMap mkC)) (b9:SlA N.A N.w pv 3 ps.length (ps.flatMap ptC))
  (c0:∀m∈ms,0 < lc.getD m.1 0) (I:∀m∈ms,m.1<=18∧m.2.1 < 2 ^ m.2.2∧m.2.2<=7) (h9:ms.length<=316) (J:0 < la.getD 256 0) (hh:∀x∈ps,kd la lb x) (L:kh 0 ps) (c1:ps.length<=1048576)
  (k:∀W,dQ S w0 W [.cells o (prC f tb) 276,.mem N]->K (.returned (ae (az (ky la lb a.length b.length lc nin ms ps)))) W) :
  eN ah 241 #[] W (pk K) λt102 W=>
 eN ah 242 #[t102,(ad 1),(ad 1)] W (pk K) λt104 W=>
 eN ah 242 #[t102,(ad 2),(ad 2)] W (pk K) λt106 W=>
 DoX ah (mB .len #[59] 3 #[au] #[sa]) W (pk K) λt109 W=>
 DoX ah (gS .sub 3 t109 (ad 257)) W (pk K) λt110 W=>
 eN ah 242 #[t102,t110,(ad 5)] W (pk K) λt111 W=>
 DoX ah (mB .len #[59] 3 #[au] #[sb]) W (pk K) λt114 W=>
 DoX ah (gS .sub 3 t114 (ad 1)) W (pk K) λt115 W=>
 eN ah 242 #[t102,t115,(ad 5)] W (pk K) λt116 W=>
 DoX ah (mB .len #[59] 3 #[au] #[iv]) W (pk K) λt119 W=>
 DoX ah (gS .sub 3 t119 (ad 4)) W (pk K) λt120 W=>
 eN ah 242 #[t102,t120,(ad 4)] W (pk K) λt121 W=>
 DoX ah (mB .len #[59] 3 #[au] #[iv]) W (pk K) λt123 W=>
 zr [(ad 0)] W (λc2 W N3=>∀_:Sg,tL pv (af o 0) mv (af tt 0) t102 iv t123 (c2.getD 0 undef) W N3 K):=by
 have M:=qn lc nin;have e:∀x∈lc,x<=15:=λx hx=>axN (G x hx) dc;refine Zc c λwb w7 c=>?_;refine pX (x:=1) (n:=1) c (λb hb=>by cases hb) (.inl rfl) om dc sm λe9 v1 w8 c3 c=>?_;rw[awW] at c;have O:=ei 1 1;refine pX (x:=2) (n:=2) c O c3 om dc (by rw[eg];decide) λh0 v2 w9 c4 c=>?_;have P:=dd O (ei 2 2);rw[aS avJ (b7.now (c.hasM 3 rfl))];simp only[rs];rw[aA om om,show (a.length:Int) - 257=((a.length - 257:Nat):Int) by omega];refine pX (n:=5) c P c4 om om (by simp[eg]) λQ v3 j0 R c=>?_;have T:=dd P (ei (a.length - 257) 5);rw[aS avJ (b8.now (c.hasM 3 rfl))]
 try simp only[rs]
 rw[aA om om,show (b.length:Int) - 1=((b.length - 1:Nat):Int) by omega];refine pX (n:=5) c T R om om (by simp[eg]) λh1 v4 j1 c5 c=>?_;have U:=dd T (ei (b.length - 1) 5);rw[aS avJ (C.now (c.hasM 3 rfl)),M]
 try simp only[rs]
 rw[aA om om,show (nin:Int) - 4=((nin - 4:Nat):Int) by omega];refine pX (n:=4) c U c5 om om (by simp[eg]) λr v5 c6 V c=>?_;have D:=dd U (ei (nin - 4) 4);rw[aS avJ (C.now (c.hasM 3 rfl)),M];have c7:(bf 1 1++bf 2 2++bf (a.length - 257) 5++bf (b.length - 1) 5++bf (nin - 4) 4).length=17:=by simp[eg]
 have hB:bf 1 1++bf 2 2++bf (a.length - 257) 5++bf (b.length - 1) 5++bf (nin - 4) 4++iq lc nin++gz lc ms++gy la lb ps=ky la lb a.length b.length lc nin ms ps:=rfl;generalize bf 1 1++bf 2 2++bf (a.length - 257) 5++bf (b.length - 1) 5++bf (nin - 4) 4=B at c c7 hB D;refine loop (λvs W=>∃(i:Nat) (way:Int) (v:aq),vs=[ad (i:Int)]∧i<=nin∧(way=0∨way=1)∧dQ S w0 W (Wr wb way (B++iq lc i) v [.cells o (prC f tb) 276,.mem N])) (λvs _=>nin - n0 vs) ⟨0,r,v5,rfl,om,V,by show dQ S w0 c6 (Wr wb r (B++[]) v5 _);rw[awF];exact c⟩ ?_;clear c V;rintro vs E ⟨i,way,v,rfl,hi,hw,c⟩ _;simp only[tL,gd,rs,nz];have h2:=tz lc i;by_cases X:(i:Int) < (nin:Int)
 ·simp only[X,auS,i_t];obtain⟨p,ia,ld⟩:=Yo C (i:=i) om;refine aC (ia E) |>.mpr (aC (ld E (c.hasM 3 rfl)) |>.mpr ?_);have c8:(ef lc nin)[i]'(om)=lc.getD (db.getD i 0) 0:=by
   have:=xl (cl:=lc) (k:=nin) (i:=i) om;rw[auZ,auX om] at this;exact this
  rw[c8];have hle:lc.getD (db.getD i 0) 0<=7:=ja G dc _;refine pX (n:=3) c (dd D (rh _ _)) hw om om (by rw[auU];omega) λY v6 j2 c9 c=>?_;rw[avO,<-tx] at c
  try simp only[rs]
  rw[aA om om];exact aU ⟨i+1,Y,v6,rfl,om,c9,c⟩ (by simp[n0,RowKit.intOf];omega)
 simp only[X,auT,i_f];have e0:i=nin:=om
 subst e0;rw[aS aA3 (H.now (c.hasM 3 rfl))];have Z:=dd D (rh lc i);have e1:(B++iq lc i).length<=100:=by rw[auU];omega
 generalize B++iq lc i=F at c Z e1 hB;refine loop (λvs W=>∃(j:Nat) (way:Int) (v:aq),vs=[ad (j:Int)]∧j<=ms.length∧(way=0∨way=1)∧dQ S w0 W (Wr wb way (F++gz lc (ms.take j)) v [.cells o (prC f tb) 276,.mem N])) (λvs _=>ms.length - n0 vs) ⟨0,way,v,rfl,om,hw,by show dQ S w0 E (Wr wb way (F++[]) v _);rw[awF];exact c⟩ ?_;clear c hw;rintro vs a1 ⟨j,way,v,rfl,hj,hw,c⟩ _;simp only[CZ,gd,rs,nz];have s:=ui e (l:=ms.take j) λm hm=>(I m (axF hm)).2.2;rw[avA,awB hj] at s;have g:=dd Z (xa lc (ms.take j));by_cases t:(j:Int) < (ms.length:Int)
 ·simp only[t,auS,i_t];have h:j < ms.length:=om
  obtain⟨p,ia,ld⟩:=mkAt H h;refine aC (ia a1) |>.mpr (aC (ld a1 (c.hasM 3 rfl)) |>.mpr ?_);have a6:=I _ (avD h);have a7:=c0 _ (avD h);have a8:ms.take (j+1)=ms.take j++[ms[j]]:=avP h;generalize ms[j]=m at a6 a7 a8;refine alP c λxb j3 c=>?_;refine afB (y:=m) 0 c rfl λb0 c=>?_;have c:dQ S w0 b0 ([mkE xb m]++(Wr wb way (F++gz lc (ms.take j)) v []++[.cells o (prC f tb) 276,.mem N])):=c;have c:dQ S w0 b0 (Wr wb way (F++gz lc (ms.take j)) v (mkE xb m::[.cells o (prC f tb) 276,.mem N])):=c.front;rw[aQ aeH,mk_0 c 2 rfl];refine Hx (jm:=2) (i:=m.1) c rfl b3 b6 e a7 g hw (by rw[auU];omega) λh3 v8 j4 e2 c=>?_;have e3:lc.getD m.1 0<=15:=ja e dc _;rw[aQ alX,mk_1 c 2 rfl,aQ aoI,mk_2 c 2 rfl];refine pX c (dd g (kg _ _)) e2 om a6.2.1 (by simp only[auU,jj];omega) λz v9 e4 e5 c=>?_
  try simp only[rs]
  rw[aA om om];refine aU ⟨j+1,z,v9,rfl,om,e5,?_⟩ (by simp[n0,RowKit.intOf];omega);rw[a8,yy,<-avO,<-avO];have c:dQ S w0 e4 ((Wr wb z (F++gz lc (ms.take j)++gh lc m.1++bf m.2.1 m.2.2) v9 [])++([mkE xb m]++[.cells o (prC f tb) 276,.mem N])):=c;exact c.front.tail
 simp only[t,auT,i_f];have e6:j=ms.length:=om
 subst e6;rw[awI] at c g s;refine aC (bC (AtV.agg apZ (cs:=prC f tb) rfl λj u hj=>by rw[avC];exact c.cell 2 rfl j hj)) |>.mpr ?_;refine UE (jm:=1) c rfl b1 b2 b4 b5 d q J b9 hh L c1 g hw (by rw[auU];omega) λQ v3 j5 R c=>?_;rw[hB] at c;have h4:=od d q (l:=ps) λx hx=>ma L x hx;have e3:la.getD 256 0<=15:=ja d dc _;have j6:(ky la lb a.length b.length lc i ms ps).length=F.length+(gz lc ms).length+((ps.flatMap (fx la lb)).length+la.getD 256 0):=by
  rw[<-hB,auU,auU];unfold gy;rw[auU,jj]
 refine SX c om om λW c=>?_;exact k W c
theorem zj (ms:List dh)(m:dh):jg (ms++[m])=ir (jg ms) m.1:=by unfold jg;rw[aAK];rfl
theorem Xc (ps:List bt)(pv:aq)(M:Mem)(w:ao)(hM:M.has w)(b2:SlA M.A M.w pv 3 ps.length (ps.flatMap ptC))(e1:kh 0 ps)(b4:∀x∈ps,x.2.1=0)(b5:ps.length<=1048576)(hX:rk ps) :
  lA ah 223 #[pv] M w (λv _=>v=ae (az (mf ps))):=by
 refine aO hM λK hK=>Kk ?_;unfold HD nz;obtain⟨e2,e3,U,b6,F,G,H,r,s,b7,b8,e4,e5,b9,e6⟩:=hX;have d:dQ M.A w w [.mem M]:=dQ.memS hM;have c0:=ux ps;refine aY d 0 rfl (PV ps pv M w hM b2 b4 b5) ?_;rintro _ N1 w1 g1 ⟨va,vb,rfl,e7,e8⟩ d;simp only[ex];refine aY d 0 rfl (zH (ey ps) 15 va N1 w1 (d.hasM 0 rfl) (by rw[c0];exact e7) om om b6 om om om e2) ?_;rintro _ N2 w2 g2 ⟨V,rfl,j4,e⟩ d;simp only[ex];refine aY d 0 rfl (zH (List.replicate 30 0) 15 vb N2 w2 (d.hasM 0 rfl) (by rw[awJ];exact e8.le g2) (by rw[awJ];omega) (by rw[awJ];omega) (λc hc=>by rw[ayA hc];omega) om om om e3) ?_;rintro _ N3 w3 g3 ⟨X,rfl,j5,f⟩ d;simp only[ex];have j6:(dm ps).length=286:=by unfold dm;rw[mz,c0]
 have j7:dv.length=30:=by unfold dv;rw[mz,awJ]
 have eL:ku ps=(dm ps).take (dk (dm ps) 257 (dm ps).length)++dv.take (dk dv 1 dv.length):=rfl;have eM:gj ps=ju (ku ps) ((ku ps).length+1) 0:=rfl;have eX:mf ps=ky (dm ps) dv (dk (dm ps) 257 (dm ps).length) (dk dv 1 dv.length) (ij ps) (dk (kx ps) 4 (kx ps).length) (gj ps) ps:=rfl;have e:SlA N2.A N2.w V 1 (dm ps).length (aT (dm ps)):=e;have f:SlA N3.A N3.w X 1 dv.length (aT dv):=f;have eC:ij ps=fm (jg (gj ps)) 7:=rfl;have eI:kx ps=ef (ij ps) 19:=rfl;rw[eX] at hK;clear eX;generalize dm ps=la at *;generalize dv=lb at *;refine bB (λb=>af b 0) [.pointer aw,.pointer aw] 276 (λ_=>by kernel_rfl) d λg w4 d=>?_;refine aY d 1 rfl (Co la V N3 w4 r om om (d.hasM 1 rfl) (e.le g3)) ?_;rintro _ N4 w5 g4 h4 d;rw[auO (by rw[F];exactλh=>h rfl)] at h4;obtain⟨k,rfl,Y⟩:=h4;simp only[ex];rw[aQ Qn];refine aK 0 d rfl krx rfl (by show 0+0 < 2;omega) λw6 d=>?_;refine aY d 1 rfl (Co lb X N4 w6 s om om (d.hasM 1 rfl) (f.le g4)) ?_;rintro _ N5 w7 g5 h5 d;rw[auO (by rw[G];exactλh=>h rfl)] at h5;obtain⟨tb,rfl,e9⟩:=h5;simp only[ex];rw[aQ Y6];refine aK 0 d rfl krx rfl (by show 0+1 < 2;omega) λw8 d=>?_;have d:dQ M.A w w8 [.cells g (prC k tb) 276,.mem N5]:=d;have Y:=TbW.le g5 Y;have Z:=e.le (g3.trans (g4.trans g5));have a1:=f.le (g4.trans g5);refine Dv (Ly la V 257 N5 w8 (d.hasM 1 rfl) Z om om om) ?_;rintro sa _ ⟨⟨k3,j8,j9,I⟩,rfl⟩;refine Dv (Ly lb X 1 N5 w8 (d.hasM 1 rfl) a1 om om om) ?_;rintro sb _ ⟨⟨k4,k0,k1,J⟩,rfl⟩;generalize dk la 257 la.length=na at *;generalize dk lb 1 lb.length=nb at *;have h0:(la.take na).length=na:=by rw[avA];omega
 have h1:(lb.take nb).length=nb:=by rw[avA];omega
 have c1:∀x∈la.take na,x<=15:=λx C=>r x (axF C);have c2:∀x∈lb.take nb,x<=15:=λx C=>s x (axF C);generalize la.take na=a at *;generalize lb.take nb=b at *;subst h0 h1;refine Yf d λv0 w9 d=>?_;refine gY 0 d rfl (I.now (d.hasM 2 rfl)) Hs om λv1 k5 d=>?_;refine gY 0 d rfl (J.now (d.hasM 2 rfl)) Hs om λv2 c3 d=>?_;have d:dQ M.A w c3 (.urow 3 1 v2 (a++b).length (aT (a++b))::[.cells g (prC k tb) 276,.mem N5]):=by
  rw[iV,auU];rw[avC,awW] at d;exact d
 obtain⟨N6,g6,h2,d⟩:=dQ.bH (L:=[.cells g (prC k tb) 276,.mem N5]) d 1 rfl;refine aY d 1 rfl (RD (a++b) v2 N6 c3 (d.hasM 1 rfl) h2 (by rw[auU];omega) (λx C=>(avZ.1 C).elim (c1 x) (c2 x))) ?_;rintro mv N7 h3 g7 ⟨k6,D⟩ d;rw[<-eL,<-eM] at D;have d:dQ M.A w h3 [.cells g (prC k tb) 276,.mem N7]:=d;clear eL eM;generalize gj ps=ms at *;refine zI (n:=19) om d λgo k7 d=>?_;have hz:aT (List.replicate 19 0)=List.replicate 19 (ad 0):=by simp[aT]
 rw[<-hz] at d;rw[aS aA3 (D.now (d.hasM 2 rfl))];refine loop (λvs W=>∃(i:Nat) (co:List Nat),vs=[ad (i:Int)]∧i<=ms.length∧co.length=19∧co=jg (ms.take i)∧(∀j,co.getD j 0<=i)∧dQ M.A w W [lrE go co,.cells g (prC k tb) 276,.mem N7]) (λvs _=>ms.length - n0 vs) ⟨0,List.replicate 19 0,rfl,om,awJ,rfl,λj=>by
  refine ja (P:=λc=>c<=0) (λc hc=>?_) (auY 0) j;rw[ayA hc];exact auY 0,d⟩ ?_
 clear d;rintro vs a6 ⟨i,co,rfl,hi,t,a7,u,d⟩ _;simp only[C8,gd,rs,nz];by_cases c4:(i:Int) < (ms.length:Int)
 ·simp only[c4,auS,i_t];have a8:i < ms.length:=om
  obtain⟨p,ia,ld⟩:=mkAt D a8;refine aC (ia a6) |>.mpr (aC (ld a6 (d.hasM 2 rfl)) |>.mpr ?_);have h6:=b8 _ (avD a8);have c5:ms.take (i+1)=ms.take i++[ms[i]]:=avP a8;generalize ms[i]=m at h6 c5;refine alP d λxb k8 d=>?_;refine afB (y:=m) 0 d rfl λh7 d=>?_;have d:dQ M.A w h7 (mkE xb m::[lrE go co,.cells g (prC k tb) 276,.mem N7]):=d;rw[aQ aeH,mk_0 d 0 rfl];have k9:=u m.1;refine aoK 1 d rfl t om om λl0 d=>?_
  try simp only[rs]
  rw[aA om om];have hg:=uh (l:=co) (j:=m.1) om;exact aU ⟨i+1,ir co m.1,rfl,om,by rw[uf];exact t,by rw[c5,zj,a7],λj=>by rw[hg];have:=u j;split<;>omega,d.tail⟩ (by simp[n0,RowKit.intOf];omega)
 simp only[c4,auT,i_f];have b0:i=ms.length:=om
 subst b0;rw[awI] at a7;rw[<-a7] at U eC;have d:=d.toU 1 19 19 (by rw[dZ,t]) (auY _) om;rw[avQ,avX (by rw[dZ];omega)] at d;obtain⟨N8,g8,c6,d⟩:=dQ.bH (L:=[.cells g (prC k tb) 276,.mem N7]) d 1 rfl;refine aY d 1 rfl (zH co 7 _ N8 a6 (d.hasM 1 rfl) (by rw[t];exact c6) om om (xj λj=>by have:=u j;omega) om om om U) ?_;rintro _ N9 h8 g9 ⟨h9,rfl,k2,z⟩ d;simp only[ex];have N:(fm co 7).length=19:=by rw[mz,t]
 rw[<-eC] at z N;clear eC U;generalize ij ps=lc at *;refine aY d 1 rfl (Co lc h9 N9 h8 (λx C=>axN (b7 x C) dc) om om (d.hasM 1 rfl) z) ?_;rintro _ B j0 g10 c7 d;rw[auO (by rw[H];exactλh=>h rfl)] at c7;obtain⟨tt,rfl,j1⟩:=c7;simp only[ex];refine aI d (Sb j0) ?_;rintro _ c8 rfl d;have d:dQ M.A w c8 [.cells g (prC k tb) 276,.mem B]:=d;have E:=z.le g10;have d:dQ M.A w c8 [.urow 3 1 dY 0 [],.cells g (prC k tb) 276,.mem B]:=dQ.nilU (L:=[.cells g (prC k tb) 276,.mem B]) d _ _;refine loop (λvs W=>∃(i:Nat) (v:aq),vs=[v,ad (i:Int)]∧i<=19∧dQ M.A w W [.urow 3 1 v (ef lc i).length (aT (ef lc i)),.cells g (prC k tb) 276,.mem B]) (λvs _=>19 - n1 vs) ⟨0,dY,rfl,om,d⟩ ?_;clear d;rintro vs o ⟨i,v,rfl,hi,d⟩ _;simp only[Dx,gd,rs,nz];have c9:=qn lc i;by_cases O:(i:Int) < 19
 ·simp only[O,auS,i_t];have Q:i < 19:=om
  have l1:=yp Q;refine aC (apT Q o) |>.mpr ?_;obtain⟨p,ia,ld⟩:=Yo E (i:=db.getD i 0) om;refine aC (ia o) |>.mpr (aC (ld o (d.hasM 2 rfl)) |>.mpr ?_);have j2:∀(j:Nat) (hj:j < lc.length),lc[j]'hj=lc.getD j 0:=λj hj=>by
   rw[auZ,auX hj];rfl
  rw[j2];refine kK _ d λb3 l2 d=>?_;refine gY 1 d rfl (d.sl 0 rfl 1 1 1 rfl) gI om λv' l3 d=>?_
  try simp only[rs]
  rw[aA om om];refine aU ⟨i+1,v',rfl,om,?_⟩ (by simp[n1,RowKit.intOf];omega);rw[xm,iV,auU];exact d.tail
 simp only[O,auT,i_f];have b0:i=19:=om
 subst b0;obtain⟨b1,g11,e0,d⟩:=dQ.bH (L:=[.cells g (prC k tb) 276,.mem B]) d 1 rfl;have d:dQ M.A w o [.cells g (prC k tb) 276,.mem b1]:=d;refine Dv (Ly (ef lc 19) v 4 b1 o (d.hasM 1 rfl) e0 om om om) ?_;rintro iv _ ⟨⟨j3,R,l4,T⟩,rfl⟩;rw[eI] at hK;generalize dk (ef lc 19) 4 (ef lc 19).length=nin at *;rw[c9] at R;have hit:(ef lc 19).take nin=ef lc nin:=by
  unfold ef;rw[<-azR,List.take_range,awB R]
 rw[hit] at T;have q:=g6.trans (g7.trans (g8.trans (g9.trans (g10.trans g11))));have hh:∀x∈ps,kd la lb x:=λx C=>by
  unfold kd;rw[auP (b4 x C)];exact e6 x C
 refine aiV (S:=M.A) (w0:=w) (W:=o) (la:=la) (lb:=lb) (a:=a) (b:=b) (lc:=lc) (ms:=ms) (nin:=nin) (ps:=ps) d (TbW.le q Y) (TbW.le q e9) (TbW.le g11 j1) F G H r s b7 N om om om om j3 om (I.le q) (J.le q) (by rw[qn];exact T) (D.le (g8.trans (g9.trans (g10.trans g11)))) (b2.le (g1.trans (g2.trans (g3.trans (g4.trans (g5.trans q)))))) e5 b8 e4 b9 hh e1 b5 λW d=>?_;exact hK _ _ b1 _ 1 d rfl (g1.trans (g2.trans (g3.trans (g4.trans (g5.trans q))))) rfl
def ez (s:List UInt8)(i:Nat):List UInt8:=(s.drop i).take 3
def dn (s:List UInt8):List bt:=s.map λc=>(c,0,0)
abbrev nc (s:List UInt8):Prop:=s.length<=1048576∧(∀i,i < s.length->∀j,j < i->s.length < i+3∨ez s j≠ez s i)∧rk (dn s)
theorem qy:∀(s:List UInt8) (n:Nat),kh n (dn s)
|[],_=>trivial
|_::s,_=>⟨by show (if (0:Nat)=0 then _ else _);rw[auP rfl],qy s _⟩
theorem xr {s:List UInt8}:∀x∈dn s,x.2.1=0:=λx a=>by
 obtain⟨c,_,rfl⟩:=awD.1 a;rfl
def jl (s:List UInt8)(a:Nat)(b:List (List UInt8×aq)):Prop:=∀p∈b,∃j,j < a∧p.1=ez s j
theorem oz {s:List UInt8}{a:Nat}{b:List (List UInt8×aq)}(c:∀i,i < s.length->∀j,j < i->s.length < i+3∨ez s j≠ez s i)(h:jl s a b)(f:a+3<=s.length):CK b (ez s a)=none:=by
 unfold CK;rw[Option.map_eq_none_iff,aAT];intro p hp he;obtain⟨j,d,e⟩:=h p hp;rcases c a om j d with h|h
 ·omega
 ·exact h (by rw[<-e];simpa using he)
section
variable {w:ao}{PK:PKT}{K:VWP}{S:Nat->Prop}{w0:ao}{L T:List Ent}
theorem aiD {s:List UInt8}{fr g:Nat}{f:List (List UInt8×aq)}(u:∀i,i < s.length->∀j,j < i->s.length < i+3∨ez s j≠ez s i)(a:dQ S w0 w (.map b f::T))(d:jl s fr f)(x:fr<=g)(z:g<=s.length)(A:s.length<=1048576)
  (k:∀c W,dQ S w0 W (.map b c::T)->jl s g c->K (.tuple #[]) W):eN ah 247 #[.map (ax b),BF s,ad (fr:Int),ad (g:Int)] w PK K:=by
 refine eR (Bs (k0:=zy λv W=>v=.tuple #[]∧∃c,dQ S w0 W (.map b c::T)∧jl s g c) ?_) (λe W ⟨v,he,y,c,a,d⟩=>by subst he;subst y;exact k c W a d);unfold rX;refine loop (λvs W=>∃(i:Nat) (f:List (List UInt8×aq)),vs=[ad (i:Int)]∧i<=g∧jl s i f∧dQ S w0 W (.map b f::T)) (λvs _=>g - n0 vs) ⟨fr,f,rfl,x,d,a⟩ ?_;clear a d;rintro vs q ⟨i,f,rfl,hi,d,a⟩ _;simp only[oP,gd,rs,iN,dx,bnx,gtx,etx];have stop:∀W,dQ S w0 W (.map b f::T)->zy (λv W=>v=.tuple #[]∧∃c,dQ S w0 W (.map b c::T)∧jl s g c) (.returned (.tuple #[])) W:=λW a=>xB ⟨rfl,f,a,λp hp=>(d p hp).imp λj h=>⟨om,h.2⟩⟩;by_cases l:(i:Int) < (g:Int)
 case neg=>
  simp only[l,auT,gd,rs,i_f];exact stop q a
 simp only[l,auS,gd,rs];have n:(BF s)=ae s:=rfl;rw[n,dE auV,aA om om];simp only[rs];by_cases r:(i:Int)+3<=(s.length:Int)
 case neg=>
  simp only[r,auT,i_f];exact stop q a
 simp only[r,auS,i_t];have o:i+3<=s.length:=om
 have a:=a.drew;refine⟨λW=>ZQ W b f,a.at_ 0 rfl,?_⟩;have m:((s.drop ((i:Int)).toNat).take (((i:Int)+3).toNat - ((i:Int)).toNat))=ez s i:=by
  rw[auW,show ((i:Int)+3).toNat - i=3 by omega];rfl
 refine aX _ (λ_=>Qz) ?_;rw[aA om om];refine aX _ (λ_=>jD auV om om om) ?_;refine aX _ (λ_=>Qz) ?_;rw[aA om om];refine aX _ (λ_=>jD auV om om om) ?_;rw[m];have t:=oz u d o;refine iJ ((CK f (ez s i)).getD dY) (λW h=>O6 (ok:=au) aBr auV amN h (ez s i)) ?_;rw[aA om om,show (i:Int)+1=((i+1:Nat):Int) by omega,t];refine kK (i:Int) (dQ.nilU a 3 1) λb3 w2 a=>⟨a.at_ 2 rfl,?_⟩;refine gY 1 a rfl (a.sl 0 rfl 1 1 1 rfl) gI om λv' w3 a=>?_;refine TS 0 aBr auV a.tail.tail rfl (ez s i) v' t λB a=>?_;refine aU ⟨i+1,f++[(ez s i,v')],rfl,om,λp hp=>?_,a⟩ (by simp[n0,RowKit.intOf];omega);rcases avZ.1 hp with hp|hp
 ·exact (d p hp).imp λj h=>⟨om,h.2⟩
 ·exact⟨i,om,by rw[avV.1 hp]⟩
theorem Wf {s:List UInt8}{a:Nat}{d:List (List UInt8×aq)}(m:∀i,i < s.length->∀j,j < i->s.length < i+3∨ez s j≠ez s i)(c:dQ S w0 w (.map b d::T))(f:jl s a d)(q:a<=s.length)(r:s.length<=1048576)
  (k:∀W,dQ S w0 W (.map b d::T)->K (ptV (0,0,0)) W):eN ah 246 #[.map (ax b),BF s,ad (a:Int)] w PK K:=by
 refine eR (wA (k0:=zy λv W=>v=ptV (0,0,0)∧dQ S w0 W (.map b d::T)) ?_) (λe W ⟨v,he,o,c⟩=>by subst he;subst o;exact k W c);unfold lG nz;refine Xd c λh t c=>?_;refine Xd c λp w2 c=>?_;have g:(BF s)=ae s:=rfl;have fin:DoX ah (aG 271 (af p 0)) w2 (pk (zy λv W=>v=ptV (0,0,0)∧dQ S w0 W (.map b d::T))) λt72 w=>
   DoX ah (aV 271 (af h 0) t72) w (pk (zy λv W=>v=ptV (0,0,0)∧dQ S w0 W (.map b d::T))) λ_ w=>
   zu ah [.cell (af h 0) 271] w (zy λv W=>v=ptV (0,0,0)∧dQ S w0 W (.map b d::T)):=by
  rw[akZ 0 c rfl];refine U4 (y:=(0,0,0)) 1 c rfl λw3 c=>?_;exact aqF 1 c rfl (xB ⟨rfl,c.tail.tail⟩)
 simp only[rs];rw[g,dE auV,aA om om];simp only[rs];by_cases l:(s.length:Int) < (a:Int)+3
 ·simp only[l,auS,i_t];exact fin
 simp only[l,auT,i_f];rw[dE auV];simp only[rs];rw[aA (n:=(s.length:Int) - a) om om,MF,show min (258:Int) ((s.length:Int) - a)=((min 258 (s.length - a):Nat):Int) by omega];rw[SU auV om om om,auW,show ((a:Int)+3).toNat - a=3 by omega];refine aC (O6 (ok:=au) aBr auV amN (show ZQ w2 b d from c.at_ 2 rfl) (ez s a)) |>.mpr ?_;simp only[ayH,if_false];rw[oz m f om];show DoX ah (mB .len #[59] 3 #[au] #[dY]) w2 _ _;rw[show dY=.slice aw 0 0 from rfl,bP avJ];simp only[rs];rw[aA om om];refine loop (λvs W=>vs=[ad (-1)]∧W=w2) (λ_ _=>0) ⟨rfl,rfl⟩ ?_;rintro vs w3 ⟨rfl,rfl⟩ _;simp only[jI,gd,rs,show ai ((0:Int)<=-1)=au by decide,i_f,nz];exact fin
end
theorem S9 (s:List UInt8)(M:Mem)(w:ao)(p:M.has w)(u:nc s) :
  lA ah 221 #[BF s] M w (λr N=>SlA N.A N.w r 3 (dn s).length ((dn s).flatMap ptC)):=by
 obtain⟨q,t,_⟩:=u;refine aO p λK x=>Hz ?_;unfold DD nz;have m:(BF s)=ae s:=rfl;rw[m,dE auV];simp only[rs,show ai ((1048576:Int) < (s.length:Int))=au from auQ om,i_f];have d:dQ M.A w w [.mem M]:=dQ.memS p;refine UF (dQ.nilU d 271 3) λb G d=>?_;refine loop (λvs W=>∃(a:Nat) (f:List (List UInt8×aq)) (v:aq),vs=[v,ad (a:Int)]∧a<=s.length∧jl s a f∧dQ M.A w W [.map b f,.urow 271 3 v a ((dn (s.take a)).flatMap ptC),.mem M]) (λvs _=>s.length - n1 vs)
  ⟨0,[],dY,rfl,om,(λr z=>by cases z),d⟩ ?_
 clear d;rintro vs w2 ⟨a,f,v,rfl,B,h,d⟩ _;simp only[xC,gd,rs,nz];rw[dE auV];simp only[rs];by_cases i:(a:Int) < (s.length:Int)
 case neg=>
  simp only[i,auT,i_f];have n:a=s.length:=om
  subst n;obtain⟨N,g,j,d⟩:=dQ.bH (L:=[.mem M]) d.tail 0 rfl;rw[awI] at j;exact x _ _ N _ 0 d rfl g (by rw[show (dn s).length=s.length from avS _];exact j)
 have k:a < s.length:=om
 simp only[i,auS,i_t];refine Wf t d h B q λw3 d=>?_;refine Xd d λC H d=>?_;refine U4 (y:=(0,0,0)) 0 d rfl λI d=>?_;rw[aQ Qr,pt_1 d 0 rfl,sQ];refine join λJ D=>?_;rw[aQ Qr,pt_1 d 0 rfl];simp only[rs,show ai (((0:Nat):Int)=0)=av from rfl,i_t];rw[H4 (c:=s[a]) auV om (by rw[auW,auX k]),aQ Zt];refine aK 0 d rfl krx rfl (by show 0 < 3;decide) λE d=>?_;have d:dQ M.A w E (ptE C (s[a],0,0)::[.map b f,.urow 271 3 v a ((dn (s.take a)).flatMap ptC),.mem M]):=d;refine D _ _ λ_=>?_;simp only[wR,gd,rs,nz];rw[akZ 0 d rfl];refine akW (s[a],0,0) d.tail λO P d=>?_;refine bN 2 aA2 elPt dc d rfl (d.sl 0 rfl 3 1 1 rfl) Xg om om λv' F d=>?_;have d:dQ M.A w F [.map b f,.urow 271 3 v' (a+1) ((dn (s.take a)).flatMap ptC++ptC (s[a],0,0)),.mem M]:=d.tail
 try simp only[rs]
 rw[show max ((0:Nat):Int) 1=1 from rfl,aA om om,show (a:Int)+1=((a+1:Nat):Int) by omega];refine aiD (s:=s) t d h om om q λo Q d l=>?_;refine aU ⟨a+1,o,v',rfl,om,l,?_⟩ (by simp[n1,RowKit.intOf];omega);have e:(dn (s.take (a+1))).flatMap ptC=(dn (s.take a)).flatMap ptC++ptC (s[a],0,0):=by
  rw[avP k];unfold dn;rw[avT,axH];simp
 rw[e];exact d
def jz (a b:List Nat):List Nat:=if (az a).length < (az b).length then a else b
def ix (s:List UInt8):List Nat:=jz (mf (dn s)) (jz (fw (dn s)) (gn s))
theorem Zf (s:List UInt8)(M:Mem)(w:ao)(k:M.has w)(i:nc s)(r:(az (ix s)).length<=1000000) :
  lA ah 196 #[BF s,ad 2] M w (λv _=>v=.tuple #[ae (az (ix s)),ad 0]):=by
 have l:=i.1;have m:(dn s).length=s.length:=avS _;refine aO k λK n=>J8 ?_;unfold G9 nz;have a:dQ M.A w w [.mem M]:=dQ.memS k;simp only[rs,gd,show ai ((2:Int) < 0)=au from rfl,show ai ((2:Int) < 2)=au from rfl,show ai ((2:Int)=0)=au from rfl,i_f];rw[show BF s=ae s from rfl,dE auV];simp only[rs,show ai ((1048576:Int) < (s.length:Int))=au from auQ om,i_f];refine YZ a l λo a=>?_;refine aY a 0 rfl (S9 s M o (a.hasM 0 rfl) i) ?_;rintro pv N w2 g e a;have a:dQ M.A w w2 [.mem N]:=a;refine join λJ p=>?_;have next:∀(d:Mem) (W:ao),N.le d->dQ M.A w W [.mem d]->J [ae (az (jz (fw (dn s)) (gn s)))] W:=by
  intro d W g2 a;refine p _ _ λ_=>?_;simp only[gd];unfold CB nz;refine join λq j=>?_;simp only[rs,auS,i_t];have last:∀(d:Mem) (W:ao),N.le d->dQ M.A w W [.mem d]->q [ae (az (ix s))] W:=by
   intro d W g2 a;refine j _ _ λ_=>?_;simp only[gd];unfold CH nz;refine aI a (VX (az (ix s)) W om) ?_;rintro _ t rfl a;exact n _ _ d _ 0 a rfl (g.trans g2) rfl
  refine aY a 0 rfl (Xc (dn s) pv d W (a.hasM 0 rfl) (e.le g2) (qy s 0) xr om i.2.2) ?_;rintro _ f h g3 rfl a;have a:dQ M.A w h [.mem f]:=a;rw[dE auV,dE auV];simp only[rs];have c:=last f h (g2.trans g3) a;unfold ix at c;rw[jz] at c;by_cases b:(az (mf (dn s))).length < (az (jz (fw (dn s)) (gn s))).length
  ·rw[auP b] at c;simp only[Int.ofNat_lt,b,auS,i_t];exact c
  ·rw[auO b] at c;simp only[Int.ofNat_lt,b,auT,i_f];exact c
 refine aY a 0 rfl (Vg (dn s) pv N w2 (a.hasM 0 rfl) e (qy s 0) om) ?_;rintro _ f h g3 rfl a;have a:dQ M.A w h [.mem f]:=a;rw[dE auV,dE auV];simp only[rs];have nxt:=next f h g3 a
 rw[jz] at nxt;by_cases b:(az (fw (dn s))).length < (az (gn s)).length
 ·rw[auP b] at nxt;simp only[Int.ofNat_lt,b,auS,i_t];exact nxt
 ·rw[auO b] at nxt;simp only[Int.ofNat_lt,b,auT,i_f];exact nxt
def rm (s:List UInt8):List UInt8:=[120,156]++az (ix s)++bo (fq s)
theorem VR (s:List UInt8)(M:Mem)(w:ao)(b:M.has w)(c:nc s)(e:(az (ix s)).length<=1000000) :
  lA ah 166 #[BF s,ad 2] M w (λv _=>v=.tuple #[BF (rm s),ad 0]):=by
 have h:=c.1;refine aO b λK f=>Na ?_;unfold LQ nz;have a:dQ M.A w w [.mem M]:=dQ.memS b;refine aY a 0 rfl (Zf s M w b c e) ?_;rintro _ N d g rfl a;have a:dQ M.A w d [.mem N]:=a;simp only[ex,bO,rs,show ai ((0:Int)≠0)=au from rfl,i_f];rw[show (Value.string ⟨#[120,156]⟩)=ae ([120,156]:List UInt8) from rfl,akX (by simp;omega)];refine aI a (UH s d om) ?_;rintro _ w2 rfl a;refine aI a (Rs (fq s) w2) ?_;rintro _ w3 rfl a;rw[akX (by simp[bo];omega)];exact f _ _ N _ 0 a rfl g rfl
def il (x:Pm)(s:List UInt8):List UInt8:=rm (fu x s)
abbrev mg (x:Pm)(s:List UInt8):Prop:=jb x s=0∧nc (fu x s)∧(az (ix (fu x s))).length<=1000000
theorem VI (x:Pm)(e:PeR x)(s:List UInt8)(M:Mem)(w:ao)(d:M.has w)(k:s.length<=1000000)(c:mg x s) :
  lA ah 119 #[pmV x,ae s] M w (λv _=>v=zlT (il x s,0)):=by
 refine aO d λK f=>Bj ?_;unfold sK nz;refine bB (λb=>af b 0) (pmC x) 151 (λ_=>by kernel_rfl) (dQ.memS d) λb2 g a=>?_;rw[aQ aeV,AT (T:=73) (v:=pmV x) (AtV.agg F3 (cs:=pmC x) rfl λj u i=>by rw[axA,avC];exact a.cell 0 rfl j i)];refine aI a (e s g om) ?_;rintro _ w2 rfl a;simp only[encT,ex,bO,auP c.1,auQ (show ¬jb x s≠0 fromλh=>h c.1),i_f];refine aY a 1 rfl (VR (fu x s) M w2 (a.hasM 1 rfl) c.2.1 c.2.2) ?_;rintro _ N w3 g1 rfl a;simp only[ex];exact f _ _ N _ 1 a rfl g1 rfl
theorem XW (n:List UInt8)(d:Ff.full n=Ff.nFl)(x:Pm)(o:PeR x)(s:List UInt8)(M:Mem)(w:ao)(j:M.has w)(q:s.length<=1000000)(k:mg x s) :
  lA ah 67 #[ae n,pmV x,ae s] M w (λv _=>v=zlT (il x s,0)):=by
 refine aO j λK r=>Mb ?_;unfold JA nz;refine GY x (dQ.memS j) λt C a=>?_;rw[Ij a 0 rfl];have c:∀{p u:aq},p.oneCell'=av->u.oneCell'=av->∀y∈wyC p u,y.oneCell'=true:=by
  intro p u hp hu y l;simp only[wyC,avB,awS,or_false] at l;rcases l with rfl|rfl<;>assumption
 have z:x.ok:=Decidable.byContradiction λh=>by
  have:=k.1;unfold jb at this;rw[auP h] at this;cases this
 refine anX a (λf g e D b2 w2 a=>?_) (λd w2 a=>?_) (λh w2 a=>absurd (d.symm.trans h) dc)
 ·rcases e with ⟨i,_⟩|⟨i,_⟩|⟨i,_⟩<;>exact absurd (d.symm.trans i) dc
 simp only[ex];refine bB (λb=>af b 0) (wyC .nilFunc .nilFunc) 120 (λ_=>by kernel_rfl) a λB w3 a=>?_;refine gF 0 a rfl (new:=wyC (Pw x) (zN x)) szWy (c rfl rfl) rfl λm a=>?_;have a:dQ M.A w m [wyE B (Pw x) (zN x),pmE t x,.mem M]:=a;simp only[bO,auP z,show ai ((0:Int)≠0)=au from rfl,i_f];rw[dE auV];simp only[rs,show ai ((1048576:Int) < (s.length:Int))=au from auQ om,i_f];rw[aQ anQ,aH nFnW (a.cell 0 rfl 0 rfl)];unfold Pw;refine OI Vy (aY a 2 rfl (VI x o s M m (a.hasM 2 rfl) q k) ?_);rintro _ N E g1 rfl a;simp only[zlT,ex];exact r _ _ N _ 2 a rfl g1 rfl
theorem Xk (o:Ob)(v:aq)(n:List UInt8)(p:Pm)(vn vp:aq)(data:List UInt8)(M:Mem)(w:ao)(hk:o.k=9∨o.k=7)(hf:Ff.full n=Ff.nFl)(hp:p≠Ff.qY)(c1:Ff.pmI p)(c2:mg p data)(c3:data.length<=1000000)
  (hw:o.wt<=100000000) (e4:(il p data).length<=1000000) (hx:(Ff.plain o (il p data)).1.wt<=1000000000) (h0:(Ff.encF o p (il p data)).2=0) (hM:M.has w) (hv:OV M.A M.w v o) (hn:SlA M.A M.w vn 1 [n].length (bT [n])) (c4:SlA M.A M.w vp 3 1 (pmC p)) :
  lA ah 35 #[v,vn,vp,ae data] M w (λr N=>∃v',r=Cr v' 0∧OV N.A N.w v' (Ff.encF o p (il p data)).1):=by
 obtain⟨vk,vc,e5,rfl,b0⟩:=hv.open;refine aO hM λK hK=>GP ?_;unfold DL iN dx ldx bnx fax exx stx alx lnx ecx gtx cx;refine dD o b0.keys.one b0.kids.one (dQ.memS hM) λc w1 a=>?_;refine dF a λd w2 a=>?_;rw[cO,zn a 1 rfl];simp only[rs];have main:∀W,dQ M.A w W [obE d ob0 dY dY,obE c o vk vc,.mem M]->eN ah 66 #[vn,vp] W (pk K) λt31 w=>
 DoX ah (zt t31 0) w (pk K) λt32 w=>
 DoX ah (zt t31 1) w (pk K) λt33 w=>
 DoX ah (zt t31 2) w (pk K) λt34 w=>
 DoX ah (mEq .neq 35 (.tmp 35) (.const (ad 0)) t34 (ad 0)) w (pk K) λt36 w=>
 IfX t36 (DoX ah (aN 25 #[]) w (pk K) λt37 w=>
 DoX ah (aV 25 (af d 0) t37) w (pk K) λ_ w=>
 zu ah [.cell (af d 0) 25,.val t34] w K) (DoX ah (mB .len #[22] 3 #[au] #[t32]) w (pk K) λt40 w=>
 DoX ah (gS .sub 3 t40 (ad 1)) w (pk K) λt41 w=>
 zr [ae data,(ad 0),t41] w (λQ w N1=>∀_:Sg,gK t32 t33 (Q.getD 0 undef) (af c 0) (af d 0) (Q.getD 1 undef) (Q.getD 2 undef) w N1 K)):=by
  intro w2 a;refine aY a 2 rfl (WT n p vn vp M w2 hf (a.hasM 2 rfl) hn c4) ?_;rintro _ N w3 l1 ⟨va,vb,rfl,f,G⟩ a;have a:dQ M.A w w3 [obE d ob0 dY dY,obE c o vk vc,.mem N]:=a;simp only[ex,gT (show [va,vb,Value.int .i64 0][2]?=ax (Value.int .i64 0) from rfl),gT (show [va,vb,Value.int .i64 0][1]?=ax vb from rfl),gT (show [va,vb,Value.int .i64 0][0]?=ax va from rfl),bO,show ai ((0:Int)≠0)=au from rfl,i_f];rw[zU f]
  try simp only[rs]
  rw[show IntKind.i64.wrap ((([Ff.nFl].length:Nat):Int) - 1)=0 from rfl];refine loop (λvs W=>(vs=[ae data,ad 0,ad 0]∧dQ M.A w W [obE d ob0 dY dY,obE c o vk vc,.mem N])∨∃(O:Mem),vs=[ae (il p data),ad 0,ad (-1)]∧N.le O∧dQ M.A w W [obE d ob0 dY dY,obE c o vk vc,.mem O]) (λvs _=>(RowKit.intOf (vs.getD 2 undef)+1).toNat) (.inl ⟨rfl,a⟩) ?_;clear a;rintro vs w4 (⟨rfl,a⟩|⟨N',rfl,l0,a⟩) _
  ·simp only[gK,gd,rs,show ai ((0:Int)<=0)=av from rfl,i_t,iN,dx,ldx,bnx,exx,stx,lnx,ecx,gfx,efx,cx];obtain⟨q,g,R⟩:=PO (i:=0) f dc;obtain⟨q2,b,B⟩:=pmAt (i:=0) G (by show 0 < 1;decide);have a:=a.drew;refine⟨λW=>N.has W,a.hasM 2 rfl,?_⟩;refine aX _ g (iJ _ (λW h=>R W h) ?_);refine aX _ b (iJ _ (λW h=>B W h) ?_);refine aY a 2 rfl (XW Ff.nFl dc p (peR p) data N _ (a.hasM 2 rfl) c3 c2) ?_;rintro _ S w5 l3 rfl a;refine⟨Mem.QO l3 (a.hasM 2 rfl),?_⟩;simp only[zlT];refine aX (ae (il p data)) (λ_=>by kernel_rfl) (aX (ad 0) (λ_=>by kernel_rfl) ?_);simp only[bO,show ai ((0:Int)≠0)=au from rfl,i_f]
   try simp only[rs]
   exact aU (.inr ⟨S,rfl,l3,a⟩) (by show (0:Nat) < 1;decide)
  simp only[gK,gd,rs,show ai ((0:Int)<=-1)=au from rfl,i_f,iN,dx,ldx,bnx,exx,stx,lnx,ecx,gfx,efx,cx]
  replace l1:=l1.trans l0
  replace f:=f.le l0
  replace G:=G.le l0
  clear l0;generalize il p data=D at *;generalize e:Ff.encF o p D=X at *;obtain⟨X1,X2⟩:=X;dsimp only at h0 hK;subst h0;unfold Ff.encF at e;rw[oV a 1 rfl];refine aY a 2 rfl (Wl o _ D N' w4 om om (a.hasM 2 rfl) (hv.le l1)) ?_;generalize Ff.plain o D=P at e hx;obtain⟨x,pe⟩:=P;rintro _ O w5 l2 ⟨xv,rfl,b1⟩ a;obtain⟨s,t,e6,rfl,U⟩:=b1.open;dsimp only at e hx U;simp only[Cr,ex];refine bK 1 U.keys.one U.kids.one a rfl λw6 a=>?_;have a:dQ M.A w w6 [obE d ob0 dY dY,obE c x s t,.mem O]:=a;simp only[bO,rs];by_cases H:pe=0
  case neg=>rw[auP H] at e;exact absurd (congrArg (·.2) e) H
  rw[auO (λh=>h H)] at e;subst H;simp only[show ai ((0:Int)≠0)=au from rfl,rs];rw[zU f];simp only[rs,show ai ((([Ff.nFl].length:Nat):Int)=0)=au from rfl,i_f];rw[zU f];have b2:=f.le l2;have b3:=G.le l2;have a:=(dQ.nilU a 25 6);have a:=(dQ.nilU a 25 6);have a:dQ M.A w w6 [.urow 25 6 dY 0 [],.urow 25 6 dY 0 [],obE d ob0 dY dY,obE c x s t,.mem O]:=a;refine loop (λvs W=>(vs=[ad 0,dY,dY,.bool au,ad 0]∧dQ M.A w W [.urow 25 6 dY 0 [],.urow 25 6 dY 0 [],obE d ob0 dY dY,obE c x s t,.mem O])∨∃(fv pv C E:aq) (S:Mem),vs=[ad 0,fv,pv,.bool av,ad 1]∧O.le S∧OV S.A S.w (obV (Ff.pE p) C E) (Ff.pE p)∧dQ M.A w W [.urow 25 6 fv 1 (obC (Ff.dG Ff.nFl) dY dY),.urow 25 6 pv 1 (obC (Ff.pE p) C E),obE d ob0 dY dY,obE c x s t,.mem S]) (λvs _=>1 - (RowKit.intOf (vs.getD 4 undef)).toNat) (.inl ⟨rfl,a⟩) ?_;clear a;rintro vs V (⟨rfl,a⟩|⟨fv,pv,C,E,S,rfl,l3,ht,a⟩) _
  ·simp only[mZ,gd,rs,show ai ((0:Int) < (([Ff.nFl].length:Nat):Int))=av from rfl,i_t,iN,dx,ldx,bnx,iax,exx,stx,alx,ecx,apx,gfx,cx];obtain⟨q,g,R⟩:=PO (i:=0) b2 dc;obtain⟨q2,b,B⟩:=pmAt (i:=0) b3 (by show 0 < 1;decide);have g:=g V;have b:=b V;rw[show ((0:Nat):Int)=0 from rfl] at g b;rw[aC g,aC (R V (a.hasM 4 rfl)),aC b,aC (B V (a.hasM 4 rfl))];refine aY a 4 rfl (Wm p hp c1 O V (a.hasM 4 rfl)) ?_;rintro _ N4 w8 l4 ⟨tv,rfl,ht⟩ a;obtain⟨C,E,e7,rfl,l⟩:=ht.open;simp only[Cr,ex];refine dF a λY w9 a=>?_;refine bK 0 l.keys.one l.kids.one a rfl λZ a=>?_;simp only[bO,show ai ((0:Int)≠0)=au from rfl,i_f];refine aI a (iI Ff.nFl Z) ?_;rintro _ a1 rfl a;have a:dQ M.A w a1 [obE Y (Ff.pE p) C E,.urow 25 6 dY 0 [],.urow 25 6 dY 0 [],obE d ob0 dY dY,obE c x s t,.mem N4]:=a;refine JH (Ff.dG Ff.nFl) (vk:=dY) (vc:=dY) rfl rfl a λnb c5 a=>?_;refine Ve 2 a rfl (a.sl 0 rfl 6 1 1 rfl) (mT _ rfl rfl) om λfv a6 a=>?_;have a:=a.tail;have a:dQ M.A w a6 [obE Y (Ff.pE p) C E,.urow 25 6 fv 1 (obC (Ff.dG Ff.nFl) dY dY),.urow 25 6 dY 0 [],obE d ob0 dY dY,obE c x s t,.mem N4]:=a;rw[oV a 0 rfl];refine JH (Ff.pE p) l.keys.one l.kids.one a λnb c6 a=>?_;refine Ve 3 a rfl (a.sl 0 rfl 6 1 1 rfl) (mT _ l.keys.one l.kids.one) om λpv c7 a=>?_;have a:=a.tail;have a:dQ M.A w c7 [obE Y (Ff.pE p) C E,.urow 25 6 fv 1 (obC (Ff.dG Ff.nFl) dY dY),.urow 25 6 pv 1 (obC (Ff.pE p) C E),obE d ob0 dY dY,obE c x s t,.mem N4]:=a
   try simp only[rs]
   rw[cO,zn a 0 rfl];simp only[rs,show ai ((Ff.pE p).k≠0)=av from rfl];exact aU (.inr ⟨fv,pv,C,E,N4,rfl,l4,ht,a.tail⟩) (by show (0:Nat) < 1;decide)
  simp only[mZ,gd,rs,show ai ((1:Int) < (([Ff.nFl].length:Nat):Int))=au from rfl,i_f,iN,dx,ldx,bnx,iax,exx,stx,alx,ecx,apx,gfx,cx];obtain⟨N4,l4,c8,a⟩:=a.bH 3 rfl;have a:dQ M.A w V [.urow 25 6 pv 1 (obC (Ff.pE p) C E),obE d ob0 dY dY,obE c x s t,.mem N4]:=a;obtain⟨N5,l5,c9,a⟩:=a.bH 2 rfl;have a:dQ M.A w V [obE d ob0 dY dY,obE c x s t,.mem N5]:=a;have e0:Jh N5 fv [Ff.dG Ff.nFl] (obC (Ff.dG Ff.nFl) dY dY):=⟨c8.le l5,tP (iB N5 5 0 0 Ff.nFl)⟩;have b5:Jh N5 pv [Ff.pE p] (obC (Ff.pE p) C E):=⟨c9,tP ((ht.le l4).le l5)⟩;have b6:=(((l1.trans l2).trans l3).trans l4).trans l5;have b7:=(((b1.le l3).le l4).le l5);have e2:(Ff.dG Ff.nFl).wt<=1000:=dc
  have e3:(Ff.pE p).wt<=1000:=Nat.le_of_ble_eq_true krx;have a:=a.drew;refine⟨λW=>(obE c x s t).is W,a.at_ 1 rfl,?_⟩;refine iJ (obV x s t) (λW h=>bC (AtV.agg mQ (cs:=obC x s t) rfl λj u hj=>by rw[avC];exact aJ (T:=25) h hj)) ?_;refine aY a 2 rfl (Ou [Ff.dG Ff.nFl] fv _ N5 _ (by show (_:Nat)<=_;decide) (a.hasM 2 rfl) e0) λy N6 w8 l6 hy a=>?_;refine⟨a.at_ 1 rfl,?_⟩;have hy:OV N6.A N6.w y (Ff.dG Ff.nFl):=hy;refine aY a 2 rfl (OR x (Ff.dG Ff.nFl) _ y Ff.cT N6 w8 om om dc (a.hasM 2 rfl) (b7.le l6) hy) ?_;have I:(Vl.set x Ff.cT (Ff.dG Ff.nFl)).2=0->(Vl.set x Ff.cT (Ff.dG Ff.nFl)).1.wt<=2000000000:=λ_=>by
   have:=Vl.afF x Ff.cT (Ff.dG Ff.nFl);have hk:Ff.cT.length=6:=rfl;omega
  generalize Vl.set x Ff.cT (Ff.dG Ff.nFl)=Rr at e I;obtain⟨z,ze⟩:=Rr;dsimp only at e I;rintro _ N7 w9 l7 ⟨zv,rfl,hz⟩ a;obtain⟨zk,zc,e8,rfl,a7⟩:=hz.open;dsimp only at a7 hz;unfold Cr;refine aX (obV z zk zc) (λ_=>by kernel_rfl) (aX (ad ze) (λ_=>by kernel_rfl) ?_);refine bK 1 a7.keys.one a7.kids.one a rfl λZ a=>?_;have a:dQ M.A w Z [obE d ob0 dY dY,obE c z zk zc,.mem N7]:=a;have b9:=(b6.trans l6).trans l7;simp only[bO];by_cases F:ze=0
  case neg=>rw[auP F] at e;exact absurd (congrArg (·.2) e) F
  rw[auO (λh=>h F)] at e;have I:=I F;simp only[auQ (show ¬ze≠0 fromλh=>h F),i_f];refine join λJ hJ=>?_
  try simp only[i_t]
  have a:=a.drew;refine⟨λW=>(obE c z zk zc).is W,a.at_ 1 rfl,?_⟩;refine iJ (obV z zk zc) (λW h=>bC (AtV.agg mQ (cs:=obC z zk zc) rfl λj u hj=>by rw[avC];exact aJ (T:=25) h hj)) ?_;refine aY a 2 rfl (Ou [Ff.pE p] pv _ N7 _ (by show (_:Nat)+0<=_;omega) (a.hasM 2 rfl) ⟨(b5.sl.le l6).le l7,(b5.all.le l6).le l7⟩) λy2 N8 a1 l8 a8 a=>?_;refine⟨a.at_ 1 rfl,?_⟩;have a8:OV N8.A N8.w y2 (Ff.pE p):=a8;refine aY a 2 rfl (OR z (Ff.pE p) _ y2 Ff.gH N8 a1 om om dc (a.hasM 2 rfl) (hz.le l8) a8) ?_;generalize Vl.set z Ff.gH (Ff.pE p)=Rr at e;obtain⟨y,ye⟩:=Rr;dsimp only at e;rintro _ N9 c5 l9 ⟨yv,rfl,e1⟩ a;obtain⟨yk,yc,e9,rfl,m⟩:=e1.open;dsimp only at m;unfold Cr;refine aX (obV y yk yc) (λ_=>by kernel_rfl) (aX (ad ye) (λ_=>by kernel_rfl) ?_);refine bK 1 m.keys.one m.kids.one a rfl λa6 a=>?_;have a:dQ M.A w a6 [obE d ob0 dY dY,obE c y yk yc,.mem N9]:=a;have c0:=(b9.trans l8).trans l9;simp only[bO];by_cases L:ye=0
  case neg=>rw[auP L] at e;exact absurd (congrArg (·.2) e) L
  rw[auO (λh=>h L)] at e;simp only[auQ (show ¬ye≠0 fromλh=>h L),i_f];refine hJ _ _ λ_=>?_;unfold yC iN ldx stx;rw[oV a 1 rfl];refine bK 0 m.keys.one m.kids.one a rfl λc6 a=>?_;exact eU 0 a rfl (hK _ _ N9 _ 2 a rfl c0 ⟨_,rfl,by obtain rfl:y=X1:=congrArg Prod.fst e;exact m.ov⟩)
 by_cases k9:o.k=9
 ·simp only[auQ (show ¬o.k≠9 fromλh=>h k9),rs,iO,i_f];exact main w2 a
 have k7:o.k=7:=by rcases hk with h|h;exact absurd h k9;exact h
 simp only[auR (show o.k≠9 from k9),rs];rw[cO,zn a 1 rfl];simp only[rs,auQ (show ¬o.k≠7 fromλh=>h k7),i_f];exact main w2 a
def mh (x:Sec):Ob×Int:=Ff.encF (Cs.D0 x).1 (Cs.pm x.aR) (il (Cs.pm x.aR) (Cs.rows x.aR))
abbrev pf (x:Sec):Prop:=mg (Cs.pm x.aR) (Cs.rows x.aR)∧(il (Cs.pm x.aR) (Cs.rows x.aR)).length<=1000000∧(Cs.D0 x).1.k=7∧(Cs.D0 x).1.wt<=100000000∧(Ff.plain (Cs.D0 x).1 (il (Cs.pm x.aR) (Cs.rows x.aR))).1.wt<=1000000000∧(mh x).2=0
def nd (x:Sec)(i:It)(e:Int):Prop:=if Cs.why x≠0 then i=Dk.it0∧e=Cs.why x else i=⟨x.own,0,(mh x).1⟩∧e=0
theorem NV (x:Sec)(vs vk vc:aq)(M:Mem)(w:ao)(Q:(Cs.D0 x).2=0)(hg:Cs.why x=0->pf x)(hb:x.aR.length<=8192)(hw:x.trailer.wt<=10000000)(hM:M.has w)
  (u:SlA M.A M.w vs 4 x.aR.length (Il x.aR)) (S:OV M.A M.w (obV x.trailer vk vc) x.trailer) :
  lA ah 11 #[Mk x vs vk vc] M w (λr N=>∃i e ik ic,r=.tuple #[itV i ik ic,ad e]∧nd x i e∧OV N.A N.w (obV i.obj ik ic) i.obj):=by
 refine aO hM λK hK=>Mf ?_;unfold I4 iN dx ldx bnx fax exx stx alx lnx ecx gfx cx;refine aeA x u.one S.oneK S.oneC (dQ.memS hM) λl w1 c=>?_;refine aiC c λb2 w2 c=>?_;have no:∀{W:ao} {N:Mem} {L:List Ent} {e:Int},dQ M.A w W (itE b2 Dk.it0 dY dY::.mem N::L)->M.le N->Cs.why x=e->e≠0->DoX ah (aN 27 #[]) W (pk K) (λt W=>DoX ah (aV 27 (af b2 0) t) W (pk K) λ_ W=>zu ah [.cell (af b2 0) 27,.val (ad e)] W K):=by
  intro W N L e c hle he c4;rw[atM];refine UR 0 (i':=Dk.it0) rfl rfl c rfl λw4 c=>?_;refine mP (bG (c.agg 0 rfl Pe)) pV (hK _ _ N _ 1 c rfl hle ⟨Dk.it0,e,dY,dY,rfl,?_,CA N⟩);unfold nd;rw[he,auP c4];exact⟨rfl,rfl⟩
 have c:dQ M.A w w2 [itE b2 Dk.it0 dY dY,uN l x vs vk vc,.mem M]:=c;have swp:∀{W:ao} {N:Mem},dQ M.A w W [itE b2 Dk.it0 dY dY,uN l x vs vk vc,.mem N]->dQ M.A w W (itE b2 Dk.it0 dY dY::.mem N::[uN l x vs vk vc]):=λc=>by
  have c:dQ M.A w _ ([itE b2 Dk.it0 dY dY]++([uN l x vs vk vc]++[.mem _])):=c;exact (dQ.perm c (List.Perm.append_left _ (List.perm_append_comm)))
 rw[LD,Sw c 1 rfl];refine aI c (R:=λv=>v=ad (Tl.check x.aR)) (On x.aR vs M w2 om (c.hasM 2 rfl) u) ?_;rintro _ w3 rfl c;have z:=Cs.why.eq_1 x;simp only[bO];by_cases X:Tl.check x.aR=0
 case neg=>
  rw[auP X] at z;simp only[auR (show Tl.check x.aR≠0 from X),i_t];exact no (swp c) M.le_refl z X
 rw[auO (λh=>h X)] at z;simp only[X,show ai ((0:Int)≠0)=au from rfl,i_f];rw[Ul,aH aW (c.cell 1 rfl 10 rfl)];simp only[rs];have bad:x.own < 1∨8191 < x.own∨x.prev < -1∨2147483647 < x.prev->Cs.why x=1:=λh=>by rw[z,auP h]
 by_cases a1:x.own < 1
 ·simp only[auR a1,rs,iO,i_t];exact no (swp c) M.le_refl (bad (.inl a1)) dc
 simp only[auQ a1,rs];rw[Ul,aH aW (c.cell 1 rfl 10 rfl)];simp only[rs];by_cases a2:8191 < x.own
 ·simp only[auR a2,rs,iO,i_t];exact no (swp c) M.le_refl (bad (.inr (.inl a2))) dc
 simp only[auQ a2,rs];rw[NA,aH aW (c.cell 1 rfl 8 rfl)];simp only[rs];by_cases a3:x.prev < -1
 ·simp only[auR a3,rs,iO,i_t];exact no (swp c) M.le_refl (bad (.inr (.inr (.inl a3)))) dc
 simp only[auQ a3,rs];rw[NA,aH aW (c.cell 1 rfl 8 rfl)];simp only[rs];by_cases a4:2147483647 < x.prev
 ·simp only[auR a4,rs,i_t];exact no (swp c) M.le_refl (bad (.inr (.inr (.inr a4)))) dc
 simp only[auQ a4,rs,i_f];rw[auO (by rintro (h|h|h|h);exact a1 h;exact a2 h;exact a3 h;exact a4 h)] at z;rw[Qy,abA c 1 rfl];refine aI c (R:=λv=>v=ad (Vl.check 1 x.trailer)) (jF x.trailer _ w3 (OV.inw (c.hasM 2 rfl) S) om) ?_;rintro _ w4 rfl c;simp only[bO];by_cases hk:Vl.check 1 x.trailer=0
 case neg=>
  rw[auP hk] at z;simp only[auR (show Vl.check 1 x.trailer≠0 from hk),i_t];exact no (swp c) M.le_refl z hk
 rw[auO (λh=>h hk)] at z;simp only[hk,show ai ((0:Int)≠0)=au from rfl,i_f];rw[Qy,cO,anN c 1 rfl];simp only[rs];by_cases h7:x.trailer.k=7
 case neg=>
  rw[auP h7] at z;simp only[auR (show x.trailer.k≠7 from h7),i_t];exact no (swp c) M.le_refl z dc
 rw[auO (λh=>h h7),auO (λh=>h Q)] at z;obtain⟨hz,b3,Y,Z,T,E⟩:=hg z;simp only[auQ (show ¬x.trailer.k≠7 fromλh=>h h7),i_f];rw[LD,Sw c 1 rfl];refine aY c 2 rfl (MD x.aR vs M w4 om (c.hasM 2 rfl) u) ?_;rintro _ N1 w5 l1 rfl c;refine o_w3 c λf w6 c=>?_;refine afO 0 rfl c rfl λw7 c=>?_;have c:dQ M.A w w7 [.cells f (w3C (Cs.wa x.aR:Nat) (Cs.wb x.aR:Nat)) 45,itE b2 Dk.it0 dY dY,uN l x vs vk vc,.mem N1]:=c;rw[se_v c 2 rfl,AT (c.agg 0 rfl agg3)];have c5:=Tl.ahY X;have e9:=Cs.acA x.trailer;refine aY c 3 rfl (Zu x vs vk vc N1 w7 hb (acE X) (λr hr=>by have:=c5 r hr;omega) om om (c.hasM 3 rfl) (u.le l1) (S.le l1)) ?_;have m:=nd.eq_1 x;unfold mh at m E;generalize Cs.D0 x=P at Q Y Z T E m;obtain⟨o,pe⟩:=P;dsimp only at Q Y Z T E m;subst Q;rintro _ O w8 l2 ⟨ov,rfl,a6⟩ c;obtain⟨ok,B,h0,rfl,a7⟩:=a6.open;dsimp only at a7 a6;simp only[Cr,ex];refine dF c λs w9 c=>?_;refine bK 0 a7.keys.one a7.kids.one c rfl λc6 c=>?_;have c:dQ M.A w c6 [obE s o ok B,.cells f (w3C (Cs.wa x.aR:Nat) (Cs.wb x.aR:Nat)) 45,itE b2 Dk.it0 dY dY,uN l x vs vk vc,.mem O]:=c;simp only[bO];simp only[show ai ((0:Int)≠0)=au from rfl,i_f];rw[LD,Sw c 3 rfl,aS ayF (((u.le l1).le l2).now (c.hasM 4 rfl))];have b4:=(u.le l1).le l2;have c7:=Cs.alQ x.aR;have c8:=Cs.aoS x.aR;have b5:∀i,(Cs.Hi (x.aR.take i) (Cs.wa x.aR) (Cs.wb x.aR)).length<=8192*9:=by
  intro i;rw[Cs.Rh];exact axW (by rw[avA];omega) om
 have b8:pmV (Cs.pm x.aR)=.agg #[ad 12,ad 1,ad (1+(Cs.wa x.aR:Nat)+(Cs.wb x.aR:Nat))]:=rfl;have F:Cs.rows x.aR=Cs.Hi x.aR (Cs.wa x.aR) (Cs.wb x.aR):=rfl;generalize e7:Cs.wa x.aR=a at *;generalize e8:Cs.wb x.aR=d at *;have c:=dQ.nilU c 5 1;refine loop (λvs' W=>∃(i:Nat) (ov:aq),vs'=[ov,ad (i:Int)]∧i<=x.aR.length∧dQ M.A w W [iS ov (Cs.Hi (x.aR.take i) a d),obE s o ok B,.cells f (w3C a d) 45,itE b2 Dk.it0 dY dY,uN l x vs vk vc,.mem O]) (λvs _=>x.aR.length - n1 vs) ⟨0,dY,rfl,om,c⟩ ?_;clear c;rintro vs' n ⟨i,ov,rfl,hi,c⟩ _;simp only[EP,gd,rs,iN,dx,ldx,bnx,iax,fax,exx,stx,alx,ecx,cx];by_cases b9:(i:Int) < (x.aR.length:Int)
 ·simp only[auR b9,i_t];have c0:i < x.aR.length:=om
  obtain⟨g,off,hr⟩:=rS b4 c0;obtain⟨r1,r2⟩:=hr n (c.hasM 5 rfl);refine aC r1 |>.mpr (aC (DN r2) |>.mpr ?_);refine Np c λh1 c9 c=>?_;refine JE (y:=x.aR[i]) 0 c rfl λa8 c=>?_;rw[L8,aH aW (c.cell 0 rfl 1 rfl),Nz,aH aW (c.cell 0 rfl 2 rfl),OA,aH aW (c.cell 0 rfl 3 rfl),m_k3];have c:dQ M.A w a8 [iS ov (Cs.Hi (x.aR.take i) a d),obE s o ok B,.cells f (w3C a d) 45,itE b2 Dk.it0 dY dY,uN l x vs vk vc,.mem O]:=c.tail;have e0:=b5 i;generalize hq:Cs.Hi (x.aR.take i) a d=q at c e0;have b0:Cs.Hi (x.aR.take (i+1)) a d=q++Cs.zL x.aR[i] a d:=by rw[Ir c0,Cs.Vw,hq]
  refine loop (λvs' W=>∃(j:Nat) (ov:aq),vs'=[ov,ad (j:Int)]∧j<=3∧dQ M.A w W [iS ov (q++(if 0 < j then Cs.num x.aR[i].kind 1 else [])++(if 1 < j then Cs.num x.aR[i].a a else [])++(if 2 < j then Cs.num x.aR[i].b d else [])),obE s o ok B,.cells f (w3C a d) 45,itE b2 Dk.it0 dY dY,uN l x vs vk vc,.mem O]) (λvs _=>3 - n1 vs) ⟨0,ov,rfl,om,by simpa using c⟩ ?_;clear c;rintro vs' C ⟨j,G,rfl,hj,c⟩ _;simp only[Ft,gd,rs,iN,dx,ldx,bnx,iax,cx];by_cases h3:(j:Int) < 3
  ·simp only[auR h3,i_t];have c1:j < 3:=om
   rw[aqR c1,aC (acR c1)];rcases (by omega:j=0∨j=1∨j=2) with rfl|rfl|rfl
   ·have c:dQ M.A w C (iS G q::[obE s o ok B,.cells f (w3C a d) 45,itE b2 Dk.it0 dY dY,uN l x vs vk vc,.mem O]):=by simpa using c
    rw[aH aW (c.cell 2 rfl 0 rfl)];refine K6 (wd:=1) c dc om λH I c=>?_
    try simp only[rs]
    exact aU ⟨1,H,rfl,om,by simpa using c⟩ (by show (2:Nat) < 3;decide)
   ·have c:dQ M.A w C (iS G (q++Cs.num x.aR[i].kind 1)::[obE s o ok B,.cells f (w3C a d) 45,itE b2 Dk.it0 dY dY,uN l x vs vk vc,.mem O]):=by simpa using c
    rw[aH aW (c.cell 2 rfl 1 rfl)];refine K6 (wd:=a) c c7 (by rw[auU,Cs.yW];omega) λH I c=>?_
    try simp only[rs]
    exact aU ⟨2,H,rfl,om,by simpa using c⟩ (by show (1:Nat) < 2;decide)
   ·have c:dQ M.A w C (iS G (q++Cs.num x.aR[i].kind 1++Cs.num x.aR[i].a a)::[obE s o ok B,.cells f (w3C a d) 45,itE b2 Dk.it0 dY dY,uN l x vs vk vc,.mem O]):=by simpa using c
    rw[aH aW (c.cell 2 rfl 2 rfl)];refine K6 (wd:=d) c c8 (by rw[auU,auU,Cs.yW,Cs.yW];omega) λH I c=>?_
    try simp only[rs]
    exact aU ⟨3,H,rfl,om,by simpa using c⟩ (by show (0:Nat) < 1;decide)
  simp only[auQ h3,i_f];have:j=3:=om
  subst this;have c:dQ M.A w C [iS G (q++Cs.zL x.aR[i] a d),obE s o ok B,.cells f (w3C a d) 45,itE b2 Dk.it0 dY dY,uN l x vs vk vc,.mem O]:=by
   have e:q++Cs.zL x.aR[i] a d=q++Cs.num x.aR[i].kind 1++Cs.num x.aR[i].a a++Cs.num x.aR[i].b d:=by unfold Cs.zL;rw[avO,avO,avO]
   rw[e];simpa using c
  try simp only[rs]
  rw[aA om om];refine aU ⟨i+1,G,rfl,om,?_⟩ (by simp[n1,RowKit.intOf];omega);rw[b0];exact c
 simp only[auQ b9,i_f];have:i=x.aR.length:=om
 subst this;rw[awI] at c;have e1:=b5 x.aR.length;rw[awI] at e1;have ia:∀(i:Nat) {W:ao},i < 3->∀{PK:PKT} {K:VWP},DoX ah (mIA 45 (af f 0) (ad (i:Int))) W PK K=K (af f (0+i)) W:=λi _ h=>aC (acR h);rw[show DoX ah (mIA 45 (af f 0) (ad 0)) n (pk K)=λV=>V (af f (0+0)) n from funext λV=>ia 0 dc];dsimp only;rw[aH aW (c.cell 2 rfl 0 rfl)];rw[show DoX ah (mIA 45 (af f 0) (ad 1)) n (pk K)=λV=>V (af f (0+1)) n from funext λV=>ia 1 dc];dsimp only;rw[aH aW (c.cell 2 rfl 1 rfl),FL,aA om om];rw[show DoX ah (mIA 45 (af f 0) (ad 2)) n (pk K)=λV=>V (af f (0+2)) n from funext λV=>ia 2 dc];dsimp only;rw[aH aW (c.cell 2 rfl 2 rfl),FL,aA om om];have c2:∀{W:ao} {PK:PKT} {K:VWP},DoX ah (aN 73 #[(0,ad 12),(1,ad 1),(2,ad (1+(a:Int)+(d:Int)))]) W PK K=K (pmV (Cs.pm x.aR)) W:=by
  intro W PK K;rw[b8];exact aC krx
 rw[c2];have e2:=Cs.asF x.aR;have e3:=Cs.pm_I x.aR;rw[F] at hz b3 T E;simp only[z,F] at m;generalize Cs.pm x.aR=p at *;generalize Cs.Hi x.aR a d=data at *;refine bB (λb=>af b 0) (pmC ⟨0,0,0⟩) 73 (λ_=>by kernel_rfl) c λD c9 c=>?_;refine gF 0 c rfl (new:=pmC p) szPm ME rfl λa8 c=>?_;have c:dQ M.A w a8 [pmE D p,iS ov data,obE s o ok B,.cells f (w3C a d) 45,itE b2 Dk.it0 dY dY,uN l x vs vk vc,.mem O]:=c;rw[oV c 2 rfl];refine R9 Ff.nFl c λnb C c=>?_;obtain⟨N3,l3,b0,c⟩:=dQ.bH (L:=[pmE D p,iS ov data,obE s o ok B,.cells f (w3C a d) 45,itE b2 Dk.it0 dY dY,uN l x vs vk vc,.mem O]) (c.toU 1 1 1 rfl om om) 6 rfl;have c:dQ M.A w C [pmE D p,iS ov data,obE s o ok B,.cells f (w3C a d) 45,itE b2 Dk.it0 dY dY,uN l x vs vk vc,.mem N3]:=c;rw[Ij c 0 rfl];refine bB (λb=>cW b 0 1 1) (pmC p) 73 (λ_=>by kernel_rfl) c λh2 I c=>?_;obtain⟨N4,l4,e4,c⟩:=dQ.bH (L:=[pmE D p,iS ov data,obE s o ok B,.cells f (w3C a d) 45,itE b2 Dk.it0 dY dY,uN l x vs vk vc,.mem N3]) (c.toU 3 1 1 rfl om om) 6 rfl;have c:dQ M.A w I [pmE D p,iS ov data,obE s o ok B,.cells f (w3C a d) 45,itE b2 Dk.it0 dY dY,uN l x vs vk vc,.mem N4]:=c;rw[mU avE avN auV (dO (c.at_ 1 rfl))];have c3:=(((l1.trans l2).trans l3).trans l4);refine aY c 6 rfl (Xk o _ Ff.nFl p _ _ data N4 I (.inr Y) dc e2 e3 hz om Z b3 T E (c.hasM 6 rfl) ((a6.le l3).le l4) (b0.le l4) e4) ?_;rintro _ N5 h4 l5 ⟨rv,rfl,U⟩ c;generalize Ff.encF o p (il p data)=R at U m;obtain⟨y,ye⟩:=R;obtain⟨yk,yc,h5,rfl,J⟩:=U.open;dsimp only at J U m;simp only[Cr,ex];refine bK 2 J.keys.one J.kids.one c rfl λe5 c=>?_;have c:dQ M.A w e5 [pmE D p,iS ov data,obE s y yk yc,.cells f (w3C a d) 45,itE b2 Dk.it0 dY dY,uN l x vs vk vc,.mem N5]:=c;simp only[bO];simp only[show ai ((0:Int)≠0)=au from rfl,i_f];rw[Ul,aH aW (c.cell 5 rfl 10 rfl),oV c 2 rfl];have e6:∀{W:ao} {PK:PKT} {K:VWP},DoX ah (aN 27 #[(0,ad x.own),(2,obV y yk yc)]) W PK K=K (itV ⟨x.own,0,y⟩ yk yc) W:=aC krx;rw[e6];refine UR 4 (i':=⟨x.own,0,y⟩) J.keys.one J.kids.one c rfl λh6 c=>?_;exact mP (bG (c.agg 4 rfl Pe)) pV (hK _ _ N5 _ 6 c rfl (c3.trans l5) ⟨⟨x.own,0,y⟩,0,yk,yc,rfl,by rw[m,auO (λh=>h rfl)];exact⟨rfl,rfl⟩,U⟩)
end
end Go.Proofs.YtkghomgfocpgeaaGreatDoor






namespace Go.Proofs.YtkghomgfocpgeaaGreatDoor
variable{K:VWP}{M N:Eng.Mem}{P:Program}{PK:PKT}{S:Nat->Prop}{W w w0:ao}{a lo:Int}{b cap fuel i j jm most p tb:Nat}{cs:List aq}{l:List Nat}{o:Ob}{ps:List Pc}{pv v v' vc vk:aq}{xo yo:Operand}{α β:Type}{t0 t1 t2:aq}{k0:Eng.KT}
section
open Go Eng
namespace Ff
end Ff
namespace Cs
def H0:List Slt:=[⟨1,1,300,0⟩,⟨2,1,5,0⟩]
def smpX:Sec:=⟨0,H0,.mk 7 0 0 [] [] [],7,-1,2⟩
def smpZ:Sec:=⟨0,[],.mk 7 0 0 [] [] [],0,0,0⟩
def smpI:It:=⟨1,0,.mk 7 0 0 [] [] []⟩
theorem agK:why smpX=0:=by decide +kernel
theorem Pd:why smpZ=1:=by decide +kernel
theorem aeP:wa H0=2∧wb H0=0:=by decide +kernel
end Cs
end
section
open Eng Go.RowKit
theorem ov7 (N:Mem):OV N.A N.w (obV (.mk 7 0 0 [] [] []) dY dY) (.mk 7 0 0 [] [] []):=zz.ov (o:=.mk 7 0 0 [] [] []) (vk:=dY) (vc:=dY) (cs:=[]) ⟨SlA.nil _ _ _ _,SlA.nil _ _ _ _,.nil⟩
def im:It:=⟨2,0,(mh Cs.smpX).1⟩
set_option maxHeartbeats 0 in
theorem xt:pf Cs.smpX:=by decide +kernel
theorem xu:Cs.Ci im 9=(⟨9,Cs.H0,(Cs.Ci im 9).1.trailer,7,-1,2⟩,0):=krx
theorem xx:Cs.Ci im (-1)=(Tl.zJ,1):=krx
theorem xy:Cs.Ci Cs.smpI 0=(Tl.zJ,20):=krx
theorem Jt (M:Mem)(w:ao)(m:Rp M)(n:Od M)(o:Pws M)(hM:M.has w):lA ah 5 #[] M w (λr _=>r=.bool av):=by
 refine aO hM λK hK=>Ak ?_;unfold qF nz;have e1:∀{PK:PKT} {K:VWP} {W:ao},DoX ah (aN 42 #[(0,ad 1),(1,ad 1),(2,ad 300)]) W PK K=K (slV ⟨1,1,300,0⟩) W:=λ{PK K W}=>aC krx;have e2:∀{PK:PKT} {K:VWP} {W:ao},DoX ah (aN 42 #[(0,ad 2),(1,ad 1),(2,ad 5)]) W PK K=K (slV ⟨2,1,5,0⟩) W:=λ{PK K W}=>aC krx;have Z:∀{PK:PKT} {K:VWP} {W:ao},DoX ah (aN 25 #[(0,ad 7)]) W PK K=K (obV (.mk 7 0 0 [] [] []) dY dY) W:=λ{PK K W}=>aC krx;have e4:∀{b:Nat} {PK:PKT} {K:VWP} {W:ao},DoX ah (aN 34 #[(1,cW b 0 2 2),(2,obV (.mk 7 0 0 [] [] []) dY dY),(3,ad 7),(4,ad (-1)),(5,ad 2)]) W PK K=K (Mk Cs.smpX (cW b 0 2 2) dY dY) W:=λ{b PK K W}=>aC krx;have e5:∀{PK:PKT} {K:VWP} {W:ao},DoX ah (aN 34 #[(2,obV (.mk 7 0 0 [] [] []) dY dY)]) W PK K=K (Mk Cs.smpZ dY dY dY) W:=λ{PK K W}=>aC krx;have e6:∀{PK:PKT} {K:VWP} {W:ao},DoX ah (aN 27 #[(0,ad 1),(2,obV (.mk 7 0 0 [] [] []) dY dY)]) W PK K=K (itV Cs.smpI dY dY) W:=λ{PK K W}=>aC krx;rw[e1,e2];refine bB (λb=>cW b 0 2 2) (Il Cs.H0) 42 (λ_=>by kernel_rfl) (dQ.memS hM) λb1 w1 a=>?_;have a:=a.toU 4 2 2 rfl om om;obtain⟨z,l1,d,a⟩:=a.bH 0 rfl;have d:SlA z.A z.w (cW b1 0 2 2) 4 Cs.H0.length (Il Cs.H0):=d;rw[Z,e4];refine P8 a λb2 w2 a=>?_;refine E1 (y:=Cs.smpX) 0 rfl rfl rfl a rfl λw3 a=>?_;rw[se_v a 0 rfl];have a:dQ M.A w w3 [uN b2 Cs.smpX (cW b1 0 2 2) dY dY,.mem z]:=a;refine aY a 1 rfl (NV Cs.smpX _ dY dY z w3 (by decide +kernel) (λ_=>xt) dc dc (a.hasM 1 rfl) d (ov7 z)) ?_;rintro _ N2 w4 l2 ⟨i,e,s,u,rfl,p,f⟩ a;unfold nd at p;rw[auO (by rw[Cs.agK];decide)] at p;obtain⟨hi,rfl⟩:=p;have hi:i=im:=hi;subst hi;have l:im.obj.wt<=1000000000:=by decide +kernel
 have B:=xu;generalize (Cs.Ci im 9).1.trailer=t at B;have a1:=xx;have C:im.num=2:=rfl;have D:im.gen=0:=rfl;generalize im=i at *;have a:=a.tail;simp only[ex];refine aiC a λb3 w5 a=>?_;refine UR 0 (i':=i) f.oneK f.oneC a rfl λw6 a=>?_;have a:dQ M.A w w6 [itE b3 i s u,.mem N2]:=a;rw[AT (a.agg 0 rfl Pe)];have g:=l1.trans l2;refine aY a 1 rfl (D8 i 9 N2 w6 (m.le g) (n.le g) (o.le g) l (a.hasM 1 rfl) f) ?_;rintro _ N3 w7 l3 ⟨sv,rfl,c⟩ a;rw[B] at c ⊢;obtain⟨x,E,F,rfl,G,H⟩:=c;simp only[ex];refine P8 a λI w8 a=>?_;refine E1 (y:=⟨9,Cs.H0,t,7,-1,2⟩) 0 G.one H.oneK H.oneC a rfl λw9 a=>?_;have a:dQ M.A w w9 [uN I ⟨9,Cs.H0,t,7,-1,2⟩ x E F,itE b3 i s u,.mem N3]:=a;rw[Z,e6];have j:=g.trans l3;refine aY a 2 rfl (D8 Cs.smpI 0 N3 w9 (m.le j) (n.le j) (o.le j) dc (a.hasM 2 rfl) (ov7 N3)) ?_;rintro _ N4 b0 X ⟨sv,rfl,c⟩ a;rw[xy] at c ⊢;obtain⟨zs,zk,zc,rfl,a6,J⟩:=c;simp only[ex];refine P8 a λb7 b4 a=>?_;refine E1 (y:=Tl.zJ) 0 a6.one J.oneK J.oneC a rfl λL a=>?_;have a:=a.tail;have a:dQ M.A w L [uN I ⟨9,Cs.H0,t,7,-1,2⟩ x E F,itE b3 i s u,.mem N4]:=a;rw[AT (a.agg 1 rfl Pe)];have k:=j.trans X;refine aY a 2 rfl (D8 i (-1) N4 L (m.le k) (n.le k) (o.le k) l (a.hasM 2 rfl) ((f.le l3).le X)) ?_;rintro _ N5 b6 l5 ⟨sv,rfl,c⟩ a;rw[a1] at c ⊢;obtain⟨us,uk,uc,rfl,a7,N⟩:=c;simp only[ex];refine P8 a λb9 b8 a=>?_;refine E1 (y:=Tl.zJ) 0 a7.one N.oneK N.oneC a rfl λO a=>?_;have a:=a.tail;have a:dQ M.A w O [uN I ⟨9,Cs.H0,t,7,-1,2⟩ x E F,itE b3 i s u,.mem N5]:=a;rw[Z,e5];have c0:=k.trans l5;refine aY a 2 rfl (NV Cs.smpZ dY dY dY N5 O (by decide +kernel) (λh=>absurd h (by rw[Cs.Pd];decide)) dc dc (a.hasM 2 rfl) (SlA.nil _ _ _ _) (ov7 N5)) ?_;rintro _ N6 c1 l6 ⟨i2,a8,jk,jc,rfl,q,P⟩ a;have hZ:a8=1:=by
  unfold nd at q;rw[auP (by rw[Cs.Pd];decide)] at q;rw[q.2,Cs.Pd]
 subst hZ;simp only[ex];refine aiC a λc2 c3 a=>?_;refine UR 0 (i':=i2) P.oneK P.oneC a rfl λQ a=>?_;have a:=a.tail;have a:dQ M.A w Q [uN I ⟨9,Cs.H0,t,7,-1,2⟩ x E F,itE b3 i s u,.mem N6]:=a;have lN:=((((l2.trans l3).trans X).trans l5).trans l6);refine aY a 2 rfl (MD Cs.H0 _ N6 Q dc (a.hasM 2 rfl) (d.le lN)) ?_;rintro _ Y S l7 rfl a;have a:dQ M.A w S [uN I ⟨9,Cs.H0,t,7,-1,2⟩ x E F,itE b3 i s u,.mem Y]:=a;rw[m_w3,Cs.aeP.1,Cs.aeP.2];have e7:∀{PK:PKT} {K:VWP} {W:ao} {xo yo:Operand},DoX ah (mEq .eql 45 xo yo (w3V ((2:Nat):Int) ((0:Nat):Int)) (w3V 2 0)) W PK K=K (.bool av) W:=λ{PK K W xo yo}=>aC krx;rw[e7];have T:=(d.le lN).le l7;have U:=((((G.le X).le l5).le l6).le l7);have V:M.le Y:=(l1.trans lN).trans l7;simp only[rs,auS];rw[Ip,yF a 1 rfl,C];have e8:Cs.smpX.own=2:=rfl;simp only[rs,e8,auS];rw[Sq,Lh a 1 rfl,D];simp only[rs,auS];rw[LD,Sw a 0 rfl]
 try simp only[rs,auS]
 refine aI a (R:=λv=>v=.bool (ai (Cs.H0=Cs.H0))) (Jx Cs.H0 Cs.H0 x _ Y S dc (a.hasM 2 rfl) U T) ?_;rintro _ c4 rfl a;simp only[rs,auS];rw[NA,aH aW (a.cell 0 rfl 8 rfl)];simp only[rs,auS];rw[ZL,aH aW (a.cell 0 rfl 9 rfl)];simp only[rs,auS];rw[Ul,aH aW (a.cell 0 rfl 10 rfl)];simp only[rs,auS];rw[X3,aH aW (a.cell 0 rfl 0 rfl)];simp only[rs,auS];exact hK _ _ Y _ 2 a rfl V rfl
theorem zl (i:It)(a:Int):(Cs.Ci i a).1.aR.length<=8192∧(Cs.Ci i a).1.trailer.wt<=i.obj.wt:=by
 have b:Tl.zJ.aR.length<=8192∧Tl.zJ.trailer.wt<=i.obj.wt:=by
  refine⟨dc,?_⟩;rw[Vl.jO i.obj];show 6<=_;omega
 unfold Cs.Ci;split
 ·exact b
 split
 ·exact b
 split
 ·exact b
 rename_i x c
 split
 ·exact b
 split
 ·refine⟨by rw[Cs.My];exact (Cs.Ls c).2.2.1,?_⟩;rw[Vl.jO i.obj];dsimp only;rw[Ob.wt];simp only[aAc];omega
 ·exact b
theorem MY (i:It)(a:Int){h k:aq}(M:Mem)(w:ao)(m:Rp M)(o:Od M)(p:Pws M)(hw:i.obj.wt<=100000000)(U:M.has w)(s:OV M.A M.w (obV i.obj h k) i.obj) :
  lA ah 3 #[itV i h k,ad a] M w (λr _=>r=.bool av):=by
 refine aO U λK V=>qX ?_;unfold iL nz;refine Vp i s.oneK s.oneC (dQ.memS U) λb2 w1 c=>?_;have X:∀{W:ao} {L:List Ent} {N:Mem} (j:Nat),dQ M.A w W L->L[j]?=ax (.mem N)->M.le N->eN ah 5 #[] W (pk K) λt w=>K (.returned t) w:=by
  intro W L N j c I hle;refine aY c j I (Jt N W (m.le hle) (o.le hle) (p.le hle) (c.hasM j I)) ?_;rintro _ B W2 f rfl c;exact V _ _ B _ j c (axP (avL.1 I).1) (hle.trans f) rfl
 rw[AT (c.agg 0 rfl Pe)];refine aI c (R:=λr=>∃b,r=.bool b) (RO i h k w1 om (OV.inw (c.hasM 1 rfl) s)) ?_;rintro _ w2 ⟨q,rfl⟩ c;rw[Nl];cases q with
|false=>
  simp only[awA,i_t];exact X 1 c rfl M.le_refl
|true=>
 simp only[avY,i_f];refine ahW (λvs W=>∃N,M.le N∧dQ M.A w W [itE b2 i h k,.mem N]) (λJ Y=>?_) ?_
 ·rw[Km,HA c 0 rfl];refine aY c 1 rfl (kX i.obj _ Cs.gA M w2 om (c.hasM 1 rfl) s) ?_;rintro _ N w3 hle ⟨t,rfl,H⟩ c;obtain⟨Z,tc,rfl,H⟩:=iC H;simp only[G5,ex];refine dF c λb5 w4 c=>?_;refine bK 0 H.oneK H.oneC c rfl λD c=>?_;have c:dQ M.A w D [obE b5 ((Vl.get i.obj Cs.gA).getD Vl.ob0) Z tc,itE b2 i h k,.mem N]:=c;have out:∀{W:ao},dQ M.A w W [obE b5 ((Vl.get i.obj Cs.gA).getD Vl.ob0) Z tc,itE b2 i h k,.mem N]->J [] W:=λc=>Y _ _ ⟨N,hle,c.tail⟩;generalize (Vl.get i.obj Cs.gA).getD Vl.ob0=v at *;cases (Vl.get i.obj Cs.gA).isSome with
 |false=>
   simp only[rs,iO,i_f];exact out c
 |true=>
  simp only[rs];rw[oA,Dr c 0 rfl];simp only[rs];by_cases h1:300 < v.n
  case neg=>
   simp only[auQ h1,rs,iO,i_f];exact out c
  simp only[auR h1,rs];rw[oA,Dr c 0 rfl];simp only[rs];by_cases h2:v.n<=8192
  case neg=>
   simp only[auQ h2,rs,iO,i_f];exact out c
  simp only[auR h2,rs,i_t];rw[Km,HA c 1 rfl];refine aY c 2 rfl (kX i.obj _ Cs.fD N D om (c.hasM 2 rfl) (s.le hle)) ?_;rintro _ B w6 f ⟨t2,rfl,g⟩ c;obtain⟨uk,uc,rfl,g⟩:=iC g;simp only[G5,ex];refine dF c λb7 w7 c=>?_;refine bK 0 g.oneK g.oneC c rfl λO c=>?_;rw[Nl];cases (Vl.get i.obj Cs.fD).isSome with
 |false=>
   simp only[awA,i_t];exact X 3 c rfl (hle.trans f)
 |true=>
   simp only[avY,i_f];exact Y _ _ ⟨B,hle.trans f,c.tail.tail⟩
 clear c;rintro vs W ⟨N,hle,c⟩ _;unfold gD nz;rw[AT (c.agg 0 rfl Pe)];refine aY c 1 rfl (D8 i a N W (m.le hle) (o.le hle) (p.le hle) om (c.hasM 1 rfl) (s.le hle)) ?_;rintro _ B w3 f ⟨sv,rfl,P⟩ c;obtain⟨hl,E⟩:=zl i a;obtain⟨x,e,hR⟩:∃x e,Cs.Ci i a=(x,e):=⟨_,_,rfl⟩;rw[hR] at P hl E ⊢;dsimp only at P hl E ⊢;simp only[ex];obtain⟨F,vk,vc,rfl,G,u⟩:=P;refine P8 c λb9 w4 c=>?_;refine E1 (y:=x) 0 G.one u.oneK u.oneC c rfl λD c=>?_;have c:dQ M.A w D [uN b9 x F vk vc,itE b2 i h k,.mem B]:=c;rw[AT (c.agg 1 rfl Pe)];refine aY c 2 rfl (SJ i a B D om (c.hasM 2 rfl) ((s.le hle).le f)) ?_;rintro _ Q w6 C ⟨sv,rfl,z⟩ c;rw[hR] at z ⊢;dsimp only at z ⊢;simp only[ex];obtain⟨S,uk,uc,rfl,l,d⟩:=z;refine P8 c λT w7 c=>?_;refine E1 (y:=x) 0 l.one d.oneK d.oneC c rfl λO c=>?_;have c:dQ M.A w O [uN T x S uk uc,uN b9 x F vk vc,itE b2 i h k,.mem Q]:=c;rw[se_v c 1 rfl,se_v c 0 rfl];refine aI c (R:=λv=>v=.bool av) (SS x _ _ Q O om om (c.hasM 3 rfl) ⟨_,_,_,rfl,G.le C,u.le C⟩ ⟨_,_,_,rfl,l,d⟩) ?_;rintro _ w9 rfl c;simp only[rs,auS];refine aY c 3 rfl (Jt Q w9 (m.le ((hle.trans f).trans C)) (o.le ((hle.trans f).trans C)) (p.le ((hle.trans f).trans C)) (c.hasM 3 rfl)) ?_;rintro _ N4 a1 l4 rfl c
 try simp only[rs]
 exact V _ _ N4 _ 3 c rfl (((hle.trans f).trans C).trans l4) rfl
end
section
open Eng Go.RowKit Go.ChangeShapes Go.WideShapes Go.ChangeAt
set_option maxRecDepth 100000
theorem alN {α:Type}:∀{l:List α},l.length=3->∃a b c,l=[a,b,c]
|[a,b,c],_=>⟨a,b,c,rfl⟩
theorem alO {α:Type}:∀{l:List α},l.length=8->∃a b c d e f g h,l=[a,b,c,d,e,f,g,h]
|[a,b,c,d,e,f,g,h],_=>⟨a,b,c,d,e,f,g,h,rfl⟩
section
variable {H:Type}{enc:TypeId×aq->H}{W:ao}{sp:Nat->Bool}{held:Bool}
theorem adO {s:Nat}{d:DataW H}{ps:List MemPlace}(c:Value.okWide ah W .any s 27 v)(t:DataW.Trod enc ah W 0 sp held 27 v d ps) :
  ∃(i:It) (vk vc:aq),v=itV i vk vc∧OV (InW W) W (obV i.obj vk vc) i.obj∧i.obj.wt<=Rows.uptoBulk d:=by
 obtain⟨cs,rfl,_⟩:=okWide_struct underlying27 c;obtain⟨fuel,h⟩:=t;have h:DataW.trod enc ah W 0 sp held fuel 27 cs.toList=ax (d,ps):=h;obtain⟨xs,n,rfl,a,k,b,f⟩:=DataW.trod_struct underlying27 h;have u:Tryz.prog.cellsOf 27=8:=krx
 rw[u] at k;have b:xs.length=3:=b;obtain⟨B,C,w,rfl⟩:=alN b;obtain⟨v0,v1,v2,v3,v4,v5,v6,l,e⟩:=alO k;rw[e] at f;have p:=f 0 _ rfl;have q:=f 1 _ rfl;have r:=f 2 _ rfl;have k0:Tryz.prog.cellsOf 3=1:=krx
 have x:Tryz.prog.cellsOf 25=6:=krx
 simp only[k0,x,ayS,aAx,aAy,ayJ,azT,awH] at p q r;obtain⟨m,hm,_,_⟩:=DataW.trod_int awM p;obtain⟨g,j,_,_⟩:=DataW.trod_int awM q;obtain⟨o,y,D,E⟩:=aaJ _ _ _ r
 injection hm with hm _
 injection j with j _
 subst hm;subst j;obtain⟨vk,vc,z,he,A⟩:=y.open;have he:[v2,v3,v4,v5,v6,l]=obC o vk vc:=by
  have:[v2,v3,v4,v5,v6,l].toArray=(obC o vk vc).toArray:=by injection he
  simpa using congrArg Array.toList this
 have F:Rows.uptoBulk w.1<=Rows.uptoBulk d:=by
  have a:d=_:=congrArg Prod.fst a;rw[a];simp only[Rows.uptoBulk,awY,ayZ,Rows.uptoBulkAll];omega
 refine⟨⟨m,g,o⟩,vk,vc,?_,A.ov,?_⟩
 ·rw[itV,itC];show Value.agg cs=.agg (Value.int .i64 m::Value.int .i64 g::obC o vk vc).toArray;rw[<-he];have:cs=cs.toList.toArray:=sm
  rw[this,e]
 ·show o.wt<=_;omega
end
end
section
open Eng Go.RowKit
def ahP (w:ao)(g:Nat):World:=
 { w with heap:=(w.heap.modify g λ
  |.cells _ t frozen=>.cells #[.map (ax w.heap.size)] t frozen
  |o=>o).push (.map #[⟨ad 16,.agg #[ad 3,ad 2],0⟩,⟨ad 17,.agg #[ad 3,ad 3],1⟩,⟨ad 18,.agg #[ad 11,ad 7],2⟩] 3) }
end
end Go.Proofs.YtkghomgfocpgeaaGreatDoor






namespace Go.Proofs.YtkghomgfocpgeaaGreatDoor
variable{K:VWP}{M N:Eng.Mem}{P:Program}{PK:PKT}{S:Nat->Prop}{W w w0:ao}{a lo:Int}{b cap fuel i j jm most p tb:Nat}{cs:List aq}{l:List Nat}{o:Ob}{ps:List Pc}{pv v v' vc vk:aq}{xo yo:Operand}{α β:Type}{t0 t1 t2:aq}{k0:Eng.KT}
section
open Eng Go.RowKit Go.ChangeShapes Go.WideShapes Go.ChangeAt
set_option maxRecDepth 100000
theorem afC {α:Type}:∀{l:List α},l.length=2->∃a b,l=[a,b]
|[a,b],_=>⟨a,b,rfl⟩
theorem mapM_mem {α β:Type}{f:α->Option β}:∀{l:List α} {r:List β},l.mapM f=ax r->(∀a∈l,∃b∈r,f a=ax b)∧∀b∈r,∃a∈l,f a=ax b
|[],r,h=>by
  simp only[List.mapM_nil,Option.pure_def,azB] at h;subst h;exact⟨(λa d=>by cases d),(λb g=>by cases g)⟩
|x::l,r,h=>by
  simp only[List.mapM_cons,Option.bind_eq_bind,azW,Option.pure_def,azB] at h;obtain⟨b,g,j,i,rfl⟩:=h;obtain⟨i1,i2⟩:=mapM_mem i;refine⟨λa d=>?_,λc e=>?_⟩
  ·rcases avB.1 d with rfl|d
   ·exact⟨b,axR,g⟩
   ·obtain⟨c,e,he⟩:=i1 a d;exact⟨c,awR _ e,he⟩
  ·rcases avB.1 e with rfl|e
   ·exact⟨x,axR,g⟩
   ·obtain⟨a,d,he⟩:=i2 c e;exact⟨a,awR _ d,he⟩
theorem Xh {H:Type}(x y:Lit×DataW H):∀l:List (Lit×DataW H),y∈DataW.insert x l↔y=x∨y∈l
|[]=>by simp[DataW.insert]
|z::r=>by
  unfold DataW.insert;split
  ·simp
  ·rw[avB,Xh x y r,avB];constructor
   ·rintro (h|h|h)
    ·exact .inr (.inl h)
    ·exact .inl h
    ·exact .inr (.inr h)
   ·rintro (h|h|h)
    ·exact .inr (.inl h)
    ·exact .inl h
    ·exact .inr (.inr h)
theorem Oj {H:Type}(y:Lit×DataW H):∀l:List (Lit×DataW H),y∈l.foldr DataW.insert []↔y∈l
|[]=>by simp
|x::r=>by rw[List.foldr_cons,Xh,Oj y r,avB]
section
variable {H:Type}{enc:TypeId×aq->H}{W:ao}{sp:Nat->Bool}{held:Bool}
theorem Uy (fuel:Nat)(cs:List aq)(x:DataW H×List MemPlace)(h:DataW.trod enc ah W 0 sp held fuel 341 cs=ax x):∃a b:Int,cs=[.int .i64 a,.int .i64 b]∧x.1=.agg [.lit (.int .i64 a),.lit (.int .i64 b)]:=by
 obtain⟨xs,n,rfl,d,g,c,i⟩:=DataW.trod_struct underlying341 h;have l:Tryz.prog.cellsOf 341=2:=krx
 rw[l] at g;have c:xs.length=2:=c;obtain⟨m,o,rfl⟩:=afC c;obtain⟨v0,v1,rfl⟩:=afC g;have j:=i 0 _ rfl;have k:=i 1 _ rfl;have k0:Tryz.prog.cellsOf 3=1:=krx
 simp only[k0,ayS,aAx,aAy,ayJ,azT,awH] at j k;obtain⟨a,e,rfl,_⟩:=DataW.trod_int awM j;obtain⟨b,f,rfl,_⟩:=DataW.trod_int awM k
 injection e with e _
 injection f with f _
 subst e;subst f;exact⟨a,b,rfl,by rw[d];rfl⟩
end
section
variable {H:Type}{enc:TypeId×aq->H}{P:Program}{W:ao}{sp:Nat->Bool}{held:Bool}
theorem ZT {t k e:TypeId}(i:P.underlying t=ax (.map k e)){L:List (Lit×DataW H)}{p:List MemPlace}(h:DataW.trod enc P W 0 sp held fuel t cs=ax (.map L,p)) :
  ∃b es clock n entries,cs=[.map (ax b)]∧W.heap[b]?=ax (.map es clock) ∧
   (es.toList.mapM λx=>(keyOf P k x.key).bind λkey=>if x.val.formed P e then (DataW.trod enc P W 0 sp held n e x.val.cells.toList).map λy=>((key,y.1),y.2) else aw)=ax entries ∧
   (entries.map (·.1)).foldr DataW.insert []=L:=by
 cases fuel with
|zero=>simp[DataW.trod] at h
|succ n=>
  unfold DataW.trod at h;rw[i] at h;rcases cs with _|⟨c,_|⟨d,r⟩⟩
  ·simp at h
  ·cases c with
  |map a=>
    cases a with
   |none=>simp at h
   |some b=>
     dsimp only at h;cases g:W.heap[b]? with
    |none=>rw[g] at h;simp at h
    |some o=>
      rw[g] at h;cases o with
     |map es clock=>
       dsimp only at h;split at h
       ·obtain⟨entries,j,f⟩:=azW.1 h;refine⟨b,es,clock,n,entries,rfl,g,j,?_⟩
        try dsimp only at f
        split at f
        ·injection f with f
         injection f with f _
         injection f with f
        ·cases f
       ·cases h
     |_=>simp at h
  |_=>simp at h
  ·simp at h
end
def rpD {H:Type}:List (Lit×DataW H):=[(.int .i64 16,.agg [.lit (.int .i64 3),.lit (.int .i64 2)]),(.int .i64 17,.agg [.lit (.int .i64 3),.lit (.int .i64 3)]),(.int .i64 18,.agg [.lit (.int .i64 11),.lit (.int .i64 7)])]
def repK (x:MapEntry):Int×Value:=(match x.key with|.int _ n=>n|_=>0,x.val)
theorem Zq {a:Lit}(h:keyOf ah 3 v=ax a):∃n:Int,v=.int .i64 n∧a=.int .i64 n:=by
 unfold keyOf at h;rw[awM] at h;dsimp only at h;unfold mapKey at h;rw[awM] at h;cases v with
|int q n=>
  dsimp only at h;split at h
  ·rename_i b
   obtain⟨rfl,_⟩:=b
   injection h with h
   exact⟨n,rfl,h.symm⟩
  ·cases h
|_=>simp at h
theorem adM (a:List (Int×aq))(d:∀p∈a,p∈rpM)(e:∀p∈rpM,p∈a)(k:Int):zG a k=zG rpM k:=by
 unfold zG;cases b:a.find? (λp=>ai (p.1=k)) with
|none=>
  have f:=aAT.1 b;have:rpM.find? (λp=>ai (p.1=k))=none:=aAT.2 λp hp=>f p (e p hp);rw[this]
|some p=>
  have hm:=d p (List.mem_of_find?_eq_some b);have c:p.1=k:=by simpa using List.find?_some b
  simp only[rpM,avB,awS,or_false] at hm;rcases hm with rfl|rfl|rfl<;>(dsimp only at c;subst c;rfl)
theorem ajU {rest:List (String×DataW Unit)}(h:laidMet ah (("foliant/inflate.repeats",.map rpD)::rest) W):Rp (Mem.all W):=by
 obtain⟨ps,⟨g',t',cs,fuel,p,q,hg',ht',hvar,hd,_,_⟩,_⟩:=h;obtain rfl:=ayB ((show Tryz.prog.globalNamed "foliant/inflate.repeats"=ax 3 by kernel_rfl).symm.trans hg')
 obtain rfl:=ayB ((show (Tryz.prog.globals[3]?).map (·.type)=ax 343 by kernel_rfl).symm.trans ht');obtain⟨b,es,clock,n,entries,hcs,hb,hm,hs⟩:=ZT mpRp hd;have hcell:=World.var?_cell (show Tryz.prog.globalNamed "foliant/inflate.repeats"=ax 3 by kernel_rfl) hvar 0
 have hc0:cs[0]?=ax (.map (ax b)):=by
  rw[<-Array.getElem?_toList,hcs];rfl
 rw[hc0] at hcell;have hgb:3 < W.heap.size:=by
  have:=hcell;unfold World.cell? at this;cases hh:W.heap[3]? with
 |none=>simp[hh] at this
 |some o=>exact dN hh
 obtain⟨m1,m2⟩:=mapM_mem hm;have hL:∀y:Lit×DataW Unit,y∈(rpD:List (Lit×DataW Unit))↔y∈entries.map (·.1):=λy=>by rw[<-hs];exact Oj y _
 -- each entry
 have ent:∀x∈es.toList,∃k a c:Int,x.key=.int .i64 k∧x.val=.agg #[.int .i64 a,.int .i64 c]∧((Lit.int .i64 k,DataW.agg [.lit (.int .i64 a),.lit (.int .i64 c)]):Lit×DataW Unit)∈rpD:=by
  intro x hx;obtain⟨en,hen,hf⟩:=m1 x hx;obtain⟨kl,hk,hf⟩:=azW.1 hf;obtain⟨k,hk1,rfl⟩:=Zq hk;split at hf
  ·rename_i hfm
   obtain⟨y,hy,rfl⟩:=awZ.1 hf;obtain⟨a,c,hcs2,hy1⟩:=Uy _ _ _ hy;refine⟨k,a,c,hk1,?_,?_⟩
   ·cases hv:x.val with
   |agg vs=>
     rw[hv] at hcs2;have:vs.toList=[ad a,ad c]:=hcs2;rw[show vs=vs.toList.toArray by simp,this]
   |_=>rw[hv] at hfm;exact absurd hfm (by unfold Value.formed;rw[underlying341];simp)
   ·rw[hL,<-hy1];exact awD.2 ⟨_,hen,rfl⟩
  ·cases hf
 have inR:∀{k a c:Int},((Lit.int .i64 k,DataW.agg [.lit (.int .i64 a),.lit (.int .i64 c)]):Lit×DataW Unit)∈rpD->(k,Value.agg #[.int .i64 a,.int .i64 c])∈rpM:=by
  intro k a c h;simp only[rpD,avB,awS,or_false,azA] at h;rcases h with ⟨h1,h2⟩|⟨h1,h2⟩|⟨h1,h2⟩<;>(injection h1 with _ h1;injection h2 with h2;simp only[azY,and_true] at h2;obtain⟨h3,h4⟩:=h2;injection h3 with h3;injection h4 with h4;injection h3 with _ h3;injection h4 with _ h4;subst h1;subst h3;subst h4;simp[rpM])
 refine⟨b,hgb,hcell,dN hb,es.toList.map repK,adM _ ?_ ?_,es,clock,hb,?_⟩
 ·intro p hp;obtain⟨x,hx,rfl⟩:=awD.1 hp;obtain⟨k,a,c,e1,e2,e3⟩:=ent x hx;have:repK x=(k,.agg #[ad a,ad c]):=by unfold repK;rw[e1,e2]
  rw[this];exact inR e3
 ·intro p hp;have key:∀{k a c:Int},((Lit.int .i64 k,DataW.agg [.lit (.int .i64 a),.lit (.int .i64 c)]):Lit×DataW Unit)∈rpD->(k,Value.agg #[.int .i64 a,.int .i64 c])∈es.toList.map repK:=by
   intro k a c h;obtain⟨en,hen,he⟩:=awD.1 ((hL _).1 h);obtain⟨x,hx,hf⟩:=m2 en hen;obtain⟨k',a',c',e1,e2,_⟩:=ent x hx;obtain⟨kl,hk,hf⟩:=azW.1 hf;obtain⟨k2,hk1,rfl⟩:=Zq hk;split at hf
   ·obtain⟨y,hy,rfl⟩:=awZ.1 hf;obtain⟨a2,c2,hcs2,hy1⟩:=Uy _ _ _ hy;rw[e2] at hcs2;have hcs2:[Value.int .i64 a',Value.int .i64 c']=[ad a2,ad c2]:=hcs2;simp only[azY,and_true] at hcs2;obtain⟨q1,q2⟩:=hcs2
    injection q1 with _ q1
    injection q2 with _ q2
    rw[e1] at hk1
    injection hk1 with _ hk1
    dsimp only at he;rw[hy1] at he
    injection he with he1 he2
    injection he1 with _ he1
    injection he2 with he2
    simp only[azY,and_true] at he2;obtain⟨w1,w2⟩:=he2
    injection w1 with w1
    injection w2 with w2
    injection w1 with _ w1
    injection w2 with _ w2
    refine awD.2 ⟨x,hx,?_⟩;unfold repK;rw[e1,e2];subst q1;subst q2;subst hk1;subst he1;subst w1;subst w2;rfl
   ·cases hf
  simp only[rpM,avB,awS,or_false] at hp;rcases hp with rfl|rfl|rfl
  ·exact key (by simp[rpD])
  ·exact key (by simp[rpD])
  ·exact key (by simp[rpD])
 ·rw[aAg];refine azV λx hx=>?_;obtain⟨k,a,c,e1,e2,e3⟩:=ent x hx;show (x.key,x.val)=(NM (repK x).1,(repK x).2);unfold repK;rw[e1];rfl
end
section
open Eng Go.RowKit Go.ChangeShapes Go.WideShapes Go.ChangeAt
set_option maxRecDepth 100000
section
variable {H:Type}{enc:TypeId×aq->H}{W:ao}{sp:Nat->Bool}{held:Bool}
end
theorem Xy {g:Nat}(h:W.cell? ⟨g,i,aw⟩=ax v):g < W.heap.size:=by
 unfold World.cell? at h;cases a:W.heap[g]? with
|none=>simp[a] at h
|some o=>exact dN a
theorem ajF (h:Lib.TabIs ah W "foliant/inflate.order" .i64 [16,17,18,0,8,7,9,6,10,5,11,4,12,3,13,2,14,1,15]):Od (Mem.all W):=by
 refine⟨Xy (Lib.TabIs.cell (g:=2) h krx 0 dc),λi hi=>?_⟩;have:=Lib.TabIs.cell (g:=2) h krx i hi;rw[show (Mem.all W).w=W from rfl,this];rcases lt19 hi with rfl|rfl|rfl|rfl|rfl|rfl|rfl|rfl|rfl|rfl|rfl|rfl|rfl|rfl|rfl|rfl|rfl|rfl|rfl<;>rfl
theorem acM (h:Lib.TabIs ah W "foliant/ascii.powers" .u64 [52200625,614125,7225,85,1]):Pws (Mem.all W):=by
 refine⟨Xy (Lib.TabIs.cell (g:=0) h krx 0 dc),λi hi=>?_⟩;have:=Lib.TabIs.cell (g:=0) h krx i hi;rw[show (Mem.all W).w=W from rfl,this];rcases lt5 hi with rfl|rfl|rfl|rfl|rfl<;>rfl
end
section
open Eng Go.RowKit
theorem crossReads_row (i:It)(a:Int)(vk vc:aq)(w:ao)(b:Rp (Mem.all w))(c:Od (Mem.all w))(d:Pws (Mem.all w))(e:OV (InW w) w (obV i.obj vk vc) i.obj)(hw:i.obj.wt<=1048576) :
  Ret ah 3 #[itV i vk vc,ad a] w (λv w'=>v=.bool av∧Below w.heap.size w w'):=
 lA.told (MY i a (Mem.all w) w b c d om (Mem.ahA w) e)
end
section
open Go
theorem Rj (h:P.funcs.any Func.goes=au)(f:FuncId):P.goes f=false:=by
 have a:∀g:FuncId,((P.funcs[g]?).any Func.goes)=false:=by
  intro g;cases b:P.funcs[g]? with
 |none=>rfl
 |some fn=>
   have:=Array.any_eq_false.1 h;obtain⟨hi,e⟩:=azS.1 b;have:=this g hi;rw[e] at this;simpa using this
 unfold Program.goes;rw[h,aAk,azX];simp[a]
theorem goesBy_none (h:P.funcs.any Func.goes=au)(c:OpenClaim):au=c.goesBy P:=by
 unfold OpenClaim.goesBy Program.goesAt Program.goesFrom;have a:∀o:Option FuncId,o.any P.goes=false:=by
  intro o;cases o with
 |none=>rfl
 |some f=>exact Rj h f
 rw[a,aAe];cases c.start<;>simp[Rj h]
end
end Go.Proofs.YtkghomgfocpgeaaGreatDoor
