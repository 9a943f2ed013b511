/- Parts of the proof. -/
import Derived.Test.YtkghomgfocpgeaaGreatDoorRows
import Derived.Test.YtkghomgfocpgeaaGreatDoorMhmkgopja
set_option linter.all false
set_option maxRecDepth 20000
open Go.Proofs.Tryz
open Go.Proofs.Tryz renaming prog->ah
open Option renaming some->ax,none->aw
open Bool renaming true->av,false->au
open Go renaming Value->aq,World->ao
open Decidable renaming decide->ai
namespace Go.Proofs.YtkghomgfocpgeaaGreatDoor
variable{A:Nat->Prop}{C:ao->Prop}{E U:TypeId}{K:VWP}{L R:List Eng.Ent}{M:Eng.Mem}{P:Program}{PK:PKT}{W w w' w0:ao}{a way:Int}{b cap fb i j m most p rb sz tb:Nat}{c v v' v2:aq}{cb:Array Bool}{cs news xs:List aq}{l near:List Nat}{q:Bool}{xo yo:Operand}{α:Type}{t0 t1 t2 t3 t4 t5:aq}{k0:Eng.KT}
section
open Eng
def NI(t0 w)(K:KT):=nz f228 1 [] [] [] (zg [0] [t0]) w K
theorem OQ:NI t0 w k0->Calls ah 228 #[t0] w k0:=cw func228
def oZ(t0 t1 w)(K:KT):=nz f292 1 [] [] [] (zg [0,1] [t0,t1]) w K
theorem sG:oZ t0 t1 w k0->Calls ah 292 #[t0,t1] w k0:=cw func292
def pF(t0 t1 w)(K:KT):=nz f301 1 [] [] [] (zg [0,1] [t0,t1]) w K
theorem rW:pF t0 t1 w k0->Calls ah 301 #[t0,t1] w k0:=cw func301
def tW(t5 w)(K:KT):=nz f307 15 [] [] [] (zg [5] [t5]) w K
def Bf(t0 t1 w)(K:KT):=nz f307 1 [] [(12,[],λs v j w f=>tW (s 5) w K)] [(1,18)] (zg [0,1] [t0,t1]) w K
theorem FK:Bf t0 t1 w k0->Calls ah 307 #[t0,t1] w k0:=cz [(6,[])] [] func307
def rL(t8 w)(K:KT):=nz f298 63 [] [] [] (zg [8] [t8]) w K
def tJ(t8 t35 w)(a:JT)(K:KT):=nz f298 983 [a] [nh 15 [8,35]] [] (zg [8,35] [t8,t35]) w K
def tN(t0 t1 t2 t8 t34 t35 w)(a:JT)(K:KT):=nz f298 87 [a] [nh 15 [8,35],(26,[8],λs v j w f=>tJ (vg v 0) (s 35) w (f 0) K),(32,[],λs v j w f=>rL (s 8) w K)] [] (zg [0,1,2,8,34,35] [t0,t1,t2,t8,t34,t35]) w K
def wP(t0 t1 t2 w)(K:KT):=nz f298 1 [] [(15,[8,35],λs v j w f=>tN (s 0) (s 1) (s 2) (vg v 0) (s 34) (vg v 1) w (f 0) K)] [] (zg [0,1,2] [t0,t1,t2]) w K
theorem Eo:wP t0 t1 t2 w k0->Calls ah 298 #[t0,t1,t2] w k0:=cz [(13,[8]),(16,[])] [(7,[8,35])] func298
def AW(t0 t1 w)(K:KT):=nz f284 1 [] [] [] (zg [0,1] [t0,t1]) w K
theorem FQ:AW t0 t1 w k0->Calls ah 284 #[t0,t1] w k0:=cw func284
def qG(t0 w)(K:KT):=nz f285 7 [] [] [] (zg [0] [t0]) w K
def uG(t0 w)(K:KT):=nz f285 1 [] [(6,[],λs v j w f=>qG (s 0) w K)] [] (zg [0] [t0]) w K
theorem Db:uG t0 w k0->Calls ah 285 #[t0] w k0:=cz [(3,[])] [] func285
def AP(t0 t1 w)(K:KT):=nz f288 1 [] [] [(3,13),(6,17)] (zg [0,1] [t0,t1]) w K
theorem FW:AP t0 t1 w k0->Calls ah 288 #[t0,t1] w k0:=cw func288
def C7(t0 w)(K:KT):=nz f230 1 [] [] [] (zg [0] [t0]) w K
theorem Gs:C7 t0 w k0->Calls ah 230 #[t0] w k0:=cw func230
def xY(t0 w)(K:KT):=nz f306 1 [] [] [(3,18)] (zg [0] [t0]) w K
theorem Ea:xY t0 w k0->Calls ah 306 #[t0] w k0:=cw func306
end
section
open Eng Go.RowKit
theorem acG:∀n:Fin 256,IS .i64 (n.val:Int) 1=((n.val % 2:Nat):Int):=by decide +kernel
theorem and1 {n:Nat}(h:n < 256):IS .i64 (n:Int) 1=((n % 2:Nat):Int):=acG ⟨n,h⟩
theorem agO {v:Nat}(a:v < 2 ^ i)(f:b < 2)(hi:i<=30):bOr .i64 (v:Int) ((b*2 ^ i:Nat):Int)=((v+b*2 ^ i:Nat):Int):=by
 have hp:2 ^ i<=2 ^ 30:=awC dc hi;have c:(2:Nat) ^ 30=1073741824:=dc
 have d:b*2 ^ i<=2 ^ 30:=by
  have:b*2 ^ i<=1*2 ^ i:=awL _ om;omega
 have e:v ||| b*2 ^ i=v+b*2 ^ i:=by
  have:=aAU a b;rw[Nat.or_comm,azZ b,<-this,aAu]
 unfold bOr;show IntKind.wrap .i64 (((BitVec.ofInt 64 (v:Int) ||| BitVec.ofInt 64 ((b*2 ^ i:Nat):Int)).toNat:Nat):Int)=_;rw[BitVec.ofInt_natCast,BitVec.ofInt_natCast,BitVec.toNat_or,BitVec.toNat_ofNat,BitVec.toNat_ofNat,axC om,axC om,e];exact aA om om
theorem Sd (a n:Nat):((a:Nat):Int).fdiv (2 ^ n)=((a / 2 ^ n:Nat):Int):=by
 rw[aBg _ (by exact Int.pow_nonneg dc)]
 push_cast
 rfl
def bqC (s:List UInt8)(way:Int)(p:Nat):List Value:=[ad way,ad ((p % 8:Nat):Int),ae s,ad ((p / 8:Nat):Int)]
def bqE (b:Nat)(s:List UInt8)(way:Int)(p:Nat):Ent:=.cells b (bqC s way p) 297
theorem Zd:uM ah 297 0=ax 0:=krx
theorem Uj:uM ah 297 1=ax 2:=krx
theorem Oz:uM ah 297 2=ax 3:=krx
theorem alZ:uM ah 295 0=ax 0:=krx
theorem afA:uM ah 295 1=ax 1:=krx
theorem szSd:(Tryz.prog.info? 295).map (·.size)=ax 2:=krx
theorem ZH:dP ah 9=true:=krx
section
variable {w:ao}{PK:PKT}{K:VWP}{S:Nat->Prop}{w0:ao}{L:List Ent}
theorem EM {off:Nat}:DoX ah (mFA 297 (af b off) 0) w PK K=K (af b off) w:=aQ Zd
theorem Jb {off:Nat}:DoX ah (mFA 297 (af b off) 2) w PK K=K (af b (off+3)) w:=aQ Oz
theorem NJ {off:Nat}:DoX ah (mFA 295 (af b off) 0) w PK K=K (af b off) w:=aQ alZ
theorem xQ {off:Nat}:DoX ah (mFA 295 (af b off) 1) w PK K=K (af b (off+1)) w:=aQ afA
theorem St (a:dQ S w0 w L)(j:Nat){s:List UInt8}(hi:L[j]?=ax (bqE b s way p)):DoX ah (aG 3 (af b (0+1))) w PK K=K (ad ((p % 8:Nat):Int)) w:=aH aW (a.cell j hi 1 rfl)
theorem alK (a:dQ S w0 w L)(j:Nat){s:List UInt8}(hi:L[j]?=ax (bqE b s way p)):DoX ah (aG 3 (af b (0+3))) w PK K=K (ad ((p / 8:Nat):Int)) w:=aH aW (a.cell j hi 3 rfl)
end
section
variable {W:ao}{b:Nat}{s:List UInt8}{way:Int}{p:Nat}
theorem ID (h:(bqE b s way p).is W):(aG 3 (af b (0+1))).run ah W=.ok (.value (ad ((p % 8:Nat):Int))) W:=aB aW (aJ (T:=297) (cs:=bqC s way p) h rfl)
theorem Pq (h:(bqE b s way p).is W):(aG 9 (af b (0+2))).run ah W=.ok (.value (ae s)) W:=aB ZH (aJ (T:=297) (cs:=bqC s way p) h rfl)
theorem yP (h:(bqE b s way p).is W):(aG 3 (af b (0+3))).run ah W=.ok (.value (ad ((p / 8:Nat):Int))) W:=aB aW (aJ (T:=297) (cs:=bqC s way p) h rfl)
theorem V3 (h:(bqE b s way p).is W):Ret ah 301 #[af b 0,ad 1] W (λv w'=>v=ad ((p % 8:Nat):Int)∧Below W.heap.size W w'):=by
 refine aL λK a=>rW ?_;unfold pF nz;simp only[rs,auS,bD];rw[xQ];refine aC (ID h) |>.mpr ?_;exact a _ _ ⟨rfl,(Own.start W).done⟩
theorem VP (h:(bqE b s way p).is W)(hw:way=0∨way=1):Ret ah 292 #[af b 0,ad 1] W (λv w'=>v=.bool au∧Below W.heap.size W w'):=by
 refine aL λK a=>sG ?_;unfold oZ nz;have r:=aB (P:=ah) (T:=3) aW (aJ (T:=297) (cs:=bqC s way p) h (i:=0) rfl);rw[bD,NJ];refine aC r |>.mpr ?_;rcases hw with rfl|rfl
 ·simp only[rs,ne_eq,not_true,auT,iO];exact a _ _ ⟨rfl,(Own.start W).done⟩
 ·simp only[rs,show ai ((1:Int)≠0)=av by decide,bD];rw[NJ];refine aC r |>.mpr ?_;simp only[rs,ne_eq,not_true,auT];exact a _ _ ⟨rfl,(Own.start W).done⟩
end
def rqE (b:Nat)(s:List UInt8)(way u a:Int):Ent:=.cells b [ad way,ad u,ae s,ad a] 297
section
variable {w:ao}{PK:PKT}{K:VWP}{S:Nat->Prop}{w0:ao}{L:List Ent}
theorem ahO (c:dQ S w0 w L)(j:Nat){s:List UInt8}{u:Int}(hi:L[j]?=ax (rqE b s way u a)):DoX ah (aG 3 (af b (0+1))) w PK K=K (ad u) w:=aH aW (c.cell j hi 1 rfl)
theorem asL (c:dQ S w0 w L)(j:Nat){s:List UInt8}{u:Int}(hi:L[j]?=ax (rqE b s way u a)):DoX ah (aG 3 (af b (0+3))) w PK K=K (ad a) w:=aH aW (c.cell j hi 3 rfl)
theorem Za (j:Nat){s:List UInt8}{u c:Int}(d:dQ S w0 w L)(hi:L[j]?=ax (rqE b s way u a))(k:∀w',dQ S w0 w' (L.set j (rqE b s way c a))->K undef w'):DoX ah (aV 3 (af b (0+1)) (ad c)) w PK K:=aK j d hi krx rfl (by show 0+1 < 4;omega) k
theorem SG (j:Nat){s:List UInt8}{u a':Int}(c:dQ S w0 w L)(hi:L[j]?=ax (rqE b s way u a))(k:∀w',dQ S w0 w' (L.set j (rqE b s way u a'))->K undef w'):DoX ah (aV 3 (af b (0+3)) (ad a')) w PK K:=aK j c hi krx rfl (by show 0+3 < 4;omega) k
theorem ahF (j:Nat){s:List UInt8}{u way':Int}(c:dQ S w0 w L)(hi:L[j]?=ax (rqE b s way u a))(k:∀w',dQ S w0 w' (L.set j (rqE b s way' u a))->K undef w'):DoX ah (aV 3 (af b 0) (ad way')) w PK K:=aK j c hi krx rfl (by show 0 < 4;omega) k
theorem asE {s:List UInt8}(j:Nat)(a:dQ S w0 w L)(c:L[j]?=ax (bqE b s way p))(hp:p < 8*s.length)(t:s.length<=1000000000)
  (k:∀W,dQ S w0 W (L.set j (bqE b s way (p+1)))->K (ad (Fl.bit s p)) W):eN ah 307 #[af b 0,ad 1] w PK K:=by
 have d:j < L.length:=(avL.1 c).1;refine eR (FK (k0:=zy λv W=>v=ad (Fl.bit s p)∧dQ S w0 W (L.set j (bqE b s way (p+1)))) ?_) (λe W ⟨v,he,m,a⟩=>by subst he;subst m;exact k W a);unfold Bf nz;have hi:p / 8 < s.length:=om
 refine dR (λW=>dQ S w0 W L) a.drew ?_;refine eZ _ (λ_=>cS) (eZ _ (λ_=>bE Uj) (kE _ (λW h=>Pq (h.at_ j c)) ?_));refine eZ _ (λ_=>cS) (eZ _ (λ_=>bE Oz) (kE _ (λW h=>yP (h.at_ j c)) ?_));refine q_ix auV om (by rw[auW,auX hi]) ?_;refine eZ _ (λ_=>aZ krx awM) ?_;have u:=(s[p / 8]).toNat_lt;rw[aA om om];refine eZ _ (λ_=>cS) (eZ _ (λ_=>bE Zd) ?_);refine fC (ad ((p % 8:Nat):Int)) (λW h=>(V3 (h.at_ j c)).mono λv w' r=>⟨r.1,h.grow r.2⟩) ?_;refine eZ _ (λ_=>aiY om) ?_;rw[show min ((p % 8:Nat):Int).toNat IntKind.i64.bits=p % 8 by show min ((p % 8:Nat):Int).toNat 64=p % 8;omega,Sd];refine eZ _ (λ_=>acL) ?_;have n:s[p / 8].toNat / 2 ^ (p % 8)<=s[p / 8].toNat:=azF _ _;rw[and1 om];have f:s[p / 8].toNat / 2 ^ (p % 8) % 2=Fl.bit s p:=by
  unfold Fl.bit;rw[auZ,auX hi];rfl
 rw[f];intro w2 a;refine join λJ o=>?_;have fin:∀W,dQ S w0 W (L.set j (bqE b s way (p+1)))->J [] W:=by
  intro W a;refine o _ _ λ_=>?_;unfold tW nz;exact xB ⟨rfl,a⟩
 rw[bD,EM,xQ,St a j c];simp only[rs,bD];rw[EM,xQ,aA om om];refine Za j a c λw3 a=>?_;have g:(L.set j (rqE b s way (((p % 8:Nat):Int)+1) ((p / 8:Nat):Int)))[j]?=ax (rqE b s way (((p % 8:Nat):Int)+1) ((p / 8:Nat):Int)):=by rw[axP d]
 rw[EM,xQ,ahO a j g];simp only[rs,bD];by_cases l:((p % 8:Nat):Int)+1=8
 ·simp only[l,auS,i_t,rs,bD];rw[EM,xQ];refine Za j a g λx a=>?_;rw[azN] at a;have i:(L.set j (rqE b s way 0 ((p / 8:Nat):Int)))[j]?=ax (rqE b s way 0 ((p / 8:Nat):Int)):=by rw[axP d]
  rw[Jb,asL a j i];simp only[rs,bD];rw[Jb,aA om om];refine SG j a i λq a=>?_;rw[azN] at a;refine fin q ?_;have e:rqE b s way 0 (((p / 8:Nat):Int)+1)=bqE b s way (p+1):=by
   unfold rqE bqE bqC;rw[show (p+1) % 8=0 by omega,show (p+1) / 8=p / 8+1 by omega];rfl
  rw[<-e];exact a
 ·simp only[l,auT,i_f];refine fin w3 ?_;have e:rqE b s way (((p % 8:Nat):Int)+1) ((p / 8:Nat):Int)=bqE b s way (p+1):=by
   unfold rqE bqE bqC;rw[show (p+1) % 8=p % 8+1 by omega,show (p+1) / 8=p / 8 by omega];rfl
  rw[<-e];exact a
theorem Ix :DoX ah (mEq .eql 253 xo yo (af b 0) (.pointer aw)) w PK K=K (.bool au) w:=aC krx
theorem YM {s:List UInt8}(h:(bqE b s way p).is W)(hp:p<=8*s.length)(d:s.length<=1000000000):Ret ah 306 #[af b 0] W (λv w'=>v=ad ((8*s.length - p:Nat):Int)∧Below W.heap.size W w'):=by
 refine aL λK a=>Ea ?_;unfold xY nz;rw[Ix,i_f];have c:dQ (bqE b s way p).blk W W [bqE b s way p]:=dQ.lend h;refine dR (λw'=>(bqE b s way p).is w'∧Below W.heap.size W w') ⟨?_,?_⟩ ?_
 ·exact c.drew.at_ 0 rfl
 ·exact (Own.start W).drew.done
 refine eZ _ (λ_=>cS) (eZ _ (λ_=>bE Uj) (kE _ (λW h=>Pq h.1) (Yl auV ?_)));refine eZ _ (λ_=>cS) (eZ _ (λ_=>bE Oz) (kE _ (λW h=>yP h.1) (eZ _ (λ_=>Cj) ?_)));rw[aA om om];refine eZ _ (λ_=>agN) ?_;rw[aA om om];refine eZ _ (λ_=>cS) (eZ _ (λ_=>bE Zd) (eZ _ (λ_=>bE afA) (kE _ (λW h=>ID h.1) (eZ _ (λ_=>Cj) ?_))));rw[aA om om];intro w' hw;refine a _ _ ⟨?_,hw.2⟩
 congr 1
 omega
theorem Ac {L:List α}{e:α}(h:L[j]?=ax e):L.set j e=L:=by
 refine List.ext_getElem? λi=>?_;by_cases hi:i=j
 ·subst hi;rw[axP (avL.1 h).1,h]
 ·rw[azO (Ne.symm hi)]
theorem alL {s:List UInt8}{n:Nat}(j:Nat)(a:dQ S w0 w L)(g:L[j]?=ax (bqE b s way p))(hw:way=0∨way=1)(hp:p<=8*s.length)(D:n<=24)(q:s.length<=1000000000)
  (u:p+n<=8*s.length->∀W,dQ S w0 W (L.set j (bqE b s (if 0 < n then 1 else way) (p+n)))->K (.tuple #[ad (Fl.num s p n),ad 0]) W)
  (x:8*s.length < p+n->∀W,dQ S w0 W L->K (.tuple #[ad 0,ad 4]) W):eN ah 298 #[af b 0,ad (n:Int),ad 1] w PK K:=by
 have h:j < L.length:=(avL.1 g).1;refine eR (Eo (k0:=zy λv W=>(p+n<=8*s.length∧v=.tuple #[ad (Fl.num s p n),ad 0]∧dQ S w0 W (L.set j (bqE b s (if 0 < n then 1 else way) (p+n))))∨(8*s.length < p+n∧v=.tuple #[ad 0,ad 4]∧dQ S w0 W L)) ?_) (λe W ⟨v,he,k⟩=>by
  subst he;rcases k with ⟨l,rfl,a⟩|⟨l,rfl,a⟩
  ·exact u l W a
  ·exact x l W a)
 unfold wP nz;rw[Ix];simp only[rs,show ai ((n:Int) < 0)=au from auQ om,show ai ((24:Int) < (n:Int))=au from auQ om,bD];rw[EM];refine aI a (R:=λv=>v=.bool au) (VP (a.at_ j g) hw) ?_;rintro _ w2 rfl a;simp only[rs];refine aI a (R:=λv=>v=ad ((8*s.length - p:Nat):Int)) (YM (a.at_ j g) hp q) ?_;rintro _ w3 rfl a;simp only[rs];by_cases c:((8*s.length - p:Nat):Int) < (n:Int)
 ·simp only[c,auS,i_t];exact xB (.inr ⟨om,rfl,a⟩)
 simp only[c,auT,i_f];refine loop (λvs W=>∃i:Nat,vs=[ad (Fl.num s p i),ad i]∧i<=n∧dQ S w0 W (L.set j (bqE b s way (p+i)))) (λvs _=>n - n1 vs) ⟨0,rfl,om,by rw[axA,Ac g];exact a⟩ ?_;clear a;rintro vs y ⟨i,rfl,hi,a⟩ _;simp only[tN,gd,rs,nz];have d:(L.set j (bqE b s way (p+i)))[j]?=ax (bqE b s way (p+i)):=by rw[axP h]
 by_cases f:(i:Int) < (n:Int)
 ·simp only[f,auS,i_t];refine join λJ m=>?_;refine asE j a d om q λr a=>?_;rw[azN] at a
  try simp only[rs,auS]
  rw[Bi om];have z:=Fl.Q4 s (p+i);have k:=Fl.iG s p i;have A:2 ^ i<=2 ^ 24:=awC dc om;have B:(2:Nat) ^ 24=16777216:=dc
  have C:Fl.bit s (p+i)*2 ^ i<=2 ^ 24:=by
   have:Fl.bit s (p+i)*2 ^ i<=1*2 ^ i:=awL _ om;omega
  rw[show min ((i:Nat):Int).toNat IntKind.i64.bits=i by show min ((i:Nat):Int).toNat 64=i;omega];rw[show ((Fl.bit s (p+i):Nat):Int)*2 ^ i=((Fl.bit s (p+i)*2 ^ i:Nat):Int) by push_cast;rfl];rw[aA om om,b_or,agO k z om];refine m _ _ λ_=>?_;simp only[tJ,gd,rs,nz];rw[aA om om];exact aU ⟨i+1,by rw[Fl.num];rfl,om,a⟩ (by simp[n1,RowKit.intOf];omega)
 ·simp only[f,auT,i_f];have o:i=n:=om
  subst o;refine join λJ m=>?_;have fin:∀W,dQ S w0 W (L.set j (bqE b s (if 0 < i then 1 else way) (p+i)))->J [] W:=by
   intro W a;refine m _ _ λ_=>?_;simp only[rL,nz];exact xB (.inl ⟨om,rfl,a⟩)
  by_cases t:0 < i
  ·rw[auP t] at fin;simp only[show ai ((0:Int) < (i:Int))=av from auR om,rs,bD];rw[EM,NJ];refine ahF (way':=1) j a d λr a=>?_;rw[azN] at a;exact fin r a
  ·rw[auO t] at fin;simp only[show ai ((0:Int) < (i:Int))=au from auQ om,rs];exact fin y a
theorem akY {s:List UInt8}{n:Nat}(j:Nat)(a:dQ S w0 w L)(d:L[j]?=ax (bqE b s way p))(hw:way=0∨way=1)(hp:p<=8*s.length)(f:n<=24)(g:s.length<=1000000000)
  (h:p+n<=8*s.length->∀W,dQ S w0 W (L.set j (bqE b s (if 0 < n then 1 else way) (p+n)))->K (.tuple #[ad (Fl.num s p n),ad 0]) W)
  (i:8*s.length < p+n->∀W,dQ S w0 W L->K (.tuple #[ad 0,ad 4]) W):eN ah 284 #[af b 0,ad (n:Int)] w PK K:=by
 refine eR (FQ (k0:=zy λv W=>(p+n<=8*s.length∧v=.tuple #[ad (Fl.num s p n),ad 0]∧dQ S w0 W (L.set j (bqE b s (if 0 < n then 1 else way) (p+n))))∨(8*s.length < p+n∧v=.tuple #[ad 0,ad 4]∧dQ S w0 W L)) ?_) (λe W ⟨v,he,k⟩=>by
  subst he;rcases k with ⟨c,rfl,a⟩|⟨c,rfl,a⟩
  ·exact h c W a
  ·exact i c W a)
 unfold AW nz;refine alL j a d hw hp f g (λc W a=>?_) (λc W a=>?_)
 ·simp only[ex];exact xB (.inl ⟨c,rfl,a⟩)
 ·simp only[ex];exact xB (.inr ⟨c,rfl,a⟩)
end
end
section
open Eng
def vV(t0 t1 w)(K:KT):=nz f227 1 [] [] [] (zg [0,1] [t0,t1]) w K
theorem xL:vV t0 t1 w k0->Calls ah 227 #[t0,t1] w k0:=cw func227
def uA(t0 t1 w)(K:KT):=nz f283 1 [] [] [] (zg [0,1] [t0,t1]) w K
theorem CV:uA t0 t1 w k0->Calls ah 283 #[t0,t1] w k0:=cw func283
def oW(t0 t1 w)(K:KT):=nz f287 1 [] [] [] (zg [0,1] [t0,t1]) w K
theorem yN:oW t0 t1 w k0->Calls ah 287 #[t0,t1] w k0:=cw func287
def eD(t0 t1 w)(K:KT):=nz f290 1 [] [] [] (zg [0,1] [t0,t1]) w K
theorem iW:eD t0 t1 w k0->Calls ah 290 #[t0,t1] w k0:=cw func290
def qH(t0 t1 w)(K:KT):=nz f259 1 [] [] [] (zg [0,1] [t0,t1]) w K
theorem Av:qH t0 t1 w k0->Calls ah 259 #[t0,t1] w k0:=cw func259
def qJ(t0 t1 w)(K:KT):=nz f286 1 [] [] [(0,12)] (zg [0,1] [t0,t1]) w K
theorem zW:qJ t0 t1 w k0->Calls ah 286 #[t0,t1] w k0:=cw func286
def mM(a w)(K:KT):=
 nlx a w K λd w=>fax 256 d 0 w K λe w=>ldx 253 e w K λf w=>cx 285 #[f] w K λv w=>cx 259 #[a,(iN 16)] w K λb w=>cx 259 #[a,(iN 16)] w K λg w=>bnx .sub 3 (iN 65535) b w K λh w=>eqx .eql 3 (.tmp 11) (.tmp 13) g h w K λi w=>cx 227 #[i,(iN 3)] w K λx w=>cx 286 #[a,b] w K λy w=>AI w (λS1 w=>HDo ah (λ_=>True) (GZ a) λj=>HDo ah (λ_=>True) (mFA 256 j 1) λk=>HDo ah S1 (aG 70 k) λl=>HDo ah (λ_=>True) (GZ a) λm=>HDo ah (λ_=>True) (mFA 256 m 0) λn=>HDo ah S1 (aG 253 n) λo=>eN ah 288 #[o,b] w (ay 14 (pk K)) λc w=>S1 w∧(HDo ah (λ_=>True) (zt c 0) λp=>HDo ah (λ_=>True) (zt c 1) λq=>eN ah 287 #[p,q] w (ay 14 (pk K)) λr w=>S1 w∧(DoX ah (mB .append #[70,9] 70 #[au,au] #[l,r]) w (ay 14 (pk K)) λs w=>S1 w∧(HDo ah (λ_=>True) (GZ a) λt=>HDo ah (λ_=>True) (mFA 256 t 1) λu=>DoX ah (aV 70 u s) w (ay 14 (pk K)) λ_ w=>(K (.returned (.tuple #[])) w)))))
theorem wC:mM t0 w k0->Calls ah 260 #[t0] w k0:=cw func260
def oN(t0 w)(K:KT):=nz f261 1 [] [] [] (zg [0] [t0]) w K
theorem wS:oN t0 w k0->Calls ah 261 #[t0] w k0:=cw func261
def iE(a b i e j k c w)(E:JT)(K:KT):=
 bnx .lss 3 c k w K λl w=>IfX l (iax 59 j c w K λm w=>ldx 3 m w K λn w=>cx 259 #[a,(iN 3)] w K λo w=>iax 288 e n w K λp w=>stx 3 p o w K λ_ w=>bnx .add 3 c (iN 1) w K λq w=>E [q] w) (slx 288 e aw aw aw w K λr w=>cx 249 #[r] w K λf w=>exx f 0 w K λs w=>exx f 1 w K λt w=>cx 290 #[s,t] w K λu w=>bnx .add 3 b i w K λv w=>cx 291 #[a,u,v] w K λd w=>iax 59 d (iN 256) w K λx w=>ldx 3 x w K λy w=>bnx .gtr 3 y (iN 0) w K λz w=>cx 227 #[z,(iN 13)] w K λL w=>AI w (λS2 w=>HDo ah S2 (cY 59 d aw (ax b) aw) λA=>HDo ah S2 (cY 59 d (ax b) aw aw) λB=>eN ah 249 #[A] w (ay 11 (pk K)) λg w=>S2 w∧(HDo ah S2 (zt g 0) λC=>HDo ah S2 (zt g 1) λD=>eN ah 290 #[C,D] w (ay 11 (pk K)) λF w=>S2 w∧(eN ah 249 #[B] w (ay 11 (pk K)) λh w=>S2 w∧(HDo ah S2 (zt h 0) λG=>HDo ah S2 (zt h 1) λH=>eN ah 290 #[G,H] w (ay 11 (pk K)) λI w=>S2 w∧(eN ah 289 #[a,F,I] w (ay 11 (pk K)) λM w=>S2 w∧(K (.returned (.tuple #[])) w)))))))
def kI(a w)(K:KT):=
 cx 259 #[a,(iN 5)] w K λe w=>bnx .add 3 e (iN 257) w K λb w=>bnx .leq 3 b (iN 286) w K λf w=>cx 227 #[f,(iN 3)] w K λm w=>cx 259 #[a,(iN 5)] w K λg w=>bnx .add 3 g (iN 1) w K λc w=>bnx .leq 3 c (iN 30) w K λh w=>cx 227 #[h,(iN 3)] w K λn w=>alx 288 w K λi w=>cx 259 #[a,(iN 4)] w K λj w=>bnx .add 3 j (iN 4) w K λk w=>slx 288 (af 2 0) aw (ax k) aw w K λd w=>lnx 59 d w K λl w=>zr [(iN 0)] w (λo w p=>∀_:Sg,iE a b c i d l (o.getD 0 undef) w p K)
theorem tU:kI t0 w k0->Calls ah 262 #[t0] w k0:=cz [] [(6,[25])] func262
def iU(d e a b f w)(s:JT)(K:KT):=
 AI w (λS3 w=>HDo ah S3 (mFA 341 b 0) λg=>HDo ah S3 (aG 3 g) λh=>HDo ah S3 (mFA 341 b 1) λi=>HDo ah S3 (aG 3 i) λj=>eN ah 259 #[d,j] w (ay 7 (pk K)) λk w=>S3 w∧(HDo ah S3 (gS .add 3 h k) λc=>lnx 59 a w K λl w=>bnx .add 3 l c w K λm w=>bnx .leq 3 m e w K λn w=>cx 227 #[n,(iN 3)] w K λr w=>dx (bJ 59 1 #[(0,f)]) w K λo w=>cx 272 #[o,c] w K λp w=>apx 59 a p w K λq w=>s [q] w))
def iK(c h d a w)(F:JT)(K:KT):=
 lnx 59 a w K λi w=>bnx .lss 3 i d w K λj w=>IfX j (nlx c w K λk w=>fax 256 k 0 w K λl w=>ldx 253 l w K λm w=>cx 299 #[h,m] w K λe w=>exx e 0 w K λn w=>exx e 1 w K λo w=>cx 283 #[n,o] w K λb w=>ldx 343 (af 3 0) w K λp w=>dx (Wd 343 p b av) w K λf w=>exx f 0 w K λq w=>exx f 1 w K λr w=>alx 341 w K λg w=>stx 341 g q w K λ_ w=>dx (mUn .not r) w K λs w=>IfX s (dx (bJ 59 1 #[(0,b)]) w K λt w=>apx 59 a t w K λu w=>F [u] w) (zP (λG=>ecx .eql 3 40 16 b w K λv w=>IfX v (lnx 59 a w K λx w=>bnx .gtr 3 x (iN 0) w K λy w=>cx 227 #[y,(iN 3)] w K λD w=>lnx 59 a w K λz w=>bnx .sub 3 z (iN 1) w K λA w=>iax 59 a A w K λB w=>ldx 3 B w K λC w=>G [C] w) (G [(iN 0)] w)) (λE w=>∀_:Sg,iU c d a g (E.getD 0 undef) w F K))) (K (.returned a) w)
def jY(b c a w)(K:KT):=
 dx (IH 59 (iN 0) a) w K λd w=>zr [d] w (λe w f=>∀_:Sg,iK b c a (e.getD 0 undef) w f K)
theorem tR:jY t0 t1 t2 w k0->Calls ah 291 #[t0,t1,t2] w k0:=cz [(11,[11])] [(2,[7])] func291
def kR(t0 t1 t2 w)(a:JT)(K:KT):=nz f289 2 [a] [nh 1 []] [] (zg [0,1,2] [t0,t1,t2]) w K
def nU(t0 t1 t2 w)(K:KT):=nz f289 1 [] [(1,[],λs v j w f=>kR (s 0) (s 1) (s 2) w (f 0) K)] [] (zg [0,1,2] [t0,t1,t2]) w K
theorem wO:nU t0 t1 t2 w k0->Calls ah 289 #[t0,t1,t2] w k0:=cz [] [(0,[])] func289
def jJ(a c d b w)(y:JT)(K:KT):=
 bnx .lss 3 b d w K λe w=>IfX e (AI w (λS2 w=>HDo ah (λ_=>True) (GZ a) λf=>HDo ah (λ_=>True) (mFA 256 f 1) λg=>HDo ah S2 (aG 70 g) λh=>HDo ah (λ_=>True) (GZ a) λi=>HDo ah (λ_=>True) (mFA 256 i 1) λj=>HDo ah S2 (aG 70 j) λk=>HDo ah (λ_=>True) (GZ a) λl=>HDo ah (λ_=>True) (mFA 256 l 1) λm=>HDo ah S2 (aG 70 m) λn=>HDo ah (λ_=>True) (mB .len #[70] 3 #[au] #[n]) λo=>HDo ah (λ_=>True) (gS .sub 3 o c) λp=>HDo ah (λ_=>True) (mIA 70 k p) λq=>HDo ah S2 (aG 5 q) λr=>DoX ah (bJ 70 1 #[(0,r)]) w (ay 20 (pk K)) λs w=>S2 w∧(DoX ah (mB .append #[70,70] 70 #[au,au] #[h,s]) w (ay 20 (pk K)) λt w=>S2 w∧(HDo ah (λ_=>True) (GZ a) λu=>HDo ah (λ_=>True) (mFA 256 u 1) λv=>DoX ah (aV 70 v t) w (ay 20 (pk K)) λ_ w=>(bnx .add 3 b (iN 1) w K λx w=>y [x] w))))) (K (.returned (.tuple #[])) w)
def lS(a b i w)(K:KT):=
 bnx .leq 3 b (iN 285) w K λj w=>cx 227 #[j,(iN 13)] w K λI w=>bnx .sub 3 b (iN 257) w K λk w=>cx 309 #[k] w K λl w=>dx (mFld 349 l 1) w K λm w=>cx 259 #[a,m] w K λn w=>cx 308 #[b,n] w K λd w=>exx d 0 w K λo w=>exx d 1 w K λp w=>cx 283 #[o,p] w K λe w=>nlx a w K λq w=>fax 256 q 0 w K λr w=>ldx 253 r w K λs w=>cx 299 #[i,s] w K λf w=>exx f 0 w K λt w=>exx f 1 w K λu w=>cx 283 #[t,u] w K λc w=>bnx .leq 3 c (iN 29) w K λv w=>cx 227 #[v,(iN 13)] w K λL w=>cx 311 #[c] w K λx w=>dx (mFld 349 x 1) w K λy w=>cx 259 #[a,y] w K λz w=>cx 310 #[c,z] w K λg w=>exx g 0 w K λA w=>exx g 1 w K λB w=>cx 283 #[A,B] w K λh w=>nlx a w K λC w=>fax 256 C 1 w K λD w=>ldx 70 D w K λF w=>lnx 70 F w K λG w=>bnx .leq 3 h G w K λH w=>cx 227 #[H,(iN 14)] w K λM w=>cx 286 #[a,e] w K λO w=>zr [(iN 0)] w (λE w J=>∀_:Sg,jJ a h e (E.getD 0 undef) w J K)
theorem vX:lS t0 t1 t2 w k0->Calls ah 300 #[t0,t1,t2] w k0:=cz [] [(8,[57])] func300
def kH(t3 w)(K:KT):=nz f229 15 [] [] [] (zg [3] [t3]) w K
def nJ(t0 w)(K:KT):=nz f229 1 [] [(20,[],λs v j w f=>kH (s 3) w K)] [] (zg [0] [t0]) w K
theorem xP:nJ t0 w k0->Calls ah 229 #[t0] w k0:=cz [(10,[])] [] func229
def EU(t0 t1 w)(K:KT):=nz f308 1 [] [] [] (zg [0,1] [t0,t1]) w K
theorem IC:EU t0 t1 w k0->Calls ah 308 #[t0,t1] w k0:=cw func308
def EW(t0 w)(K:KT):=nz f309 1 [] [] [] (zg [0] [t0]) w K
theorem HR:EW t0 w k0->Calls ah 309 #[t0] w k0:=cw func309
def Gw(t0 t1 w)(K:KT):=nz f310 1 [] [] [] (zg [0,1] [t0,t1]) w K
theorem Kc:Gw t0 t1 w k0->Calls ah 310 #[t0,t1] w k0:=cw func310
def GF(t0 w)(K:KT):=nz f311 1 [] [] [] (zg [0] [t0]) w K
theorem Kf:GF t0 w k0->Calls ah 311 #[t0] w k0:=cw func311
def uR(t0 t1 t2 t6 t8 t9 w)(a:JT)(K:KT):=nz f316 21 [a] [nh 5 [1,9]] [] (zg [0,1,2,6,8,9] [t0,t1,t2,t6,t8,t9]) w K
def AH(t0 t1 t2 w)(K:KT):=nz f316 1 [] [(5,[1,9],λs v j w f=>uR (s 0) (vg v 0) (s 2) (s 6) (s 8) (vg v 1) w (f 0) K)] [] (zg [0,1,2] [t0,t1,t2]) w K
theorem Fu:AH t0 t1 t2 w k0->Calls ah 316 #[t0,t1,t2] w k0:=cz [] [(2,[1,9])] func316
def sA(t0 t1 w)(K:KT):=nz f315 1 [] [] [] (zg [0,1] [t0,t1]) w K
theorem Bz:sA t0 t1 w k0->Calls ah 315 #[t0,t1] w k0:=cw func315
def yE(t0 t8 t9 w)(a:JT)(K:KT):=nz f248 21 [a] [nh 5 [0,9]] [] (zg [0,8,9] [t0,t8,t9]) w K
def Cv(w)(K:KT):=nz f248 1 [] [(5,[0,9],λs v j w f=>yE (vg v 0) (s 8) (vg v 1) w (f 0) K)] [] (zg [] []) w K
theorem Gy:Cv w k0->Calls ah 248 #[] w k0:=cz [] [(2,[0,9])] func248
end
section
open Eng Go.RowKit
theorem nfI:jZ ah 251=true:=krx
def upI (e:Int):PanicEntry:={ v:=.iface 251 (.agg #[ad e]),recovered:=au }
theorem akH (e:Int)(w:ao):Ret ah 227 #[.bool av,ad e] w (λv w'=>v=.tuple #[]∧w=w'):=by
 refine aL λK a=>xL ?_;unfold vV nz;simp only[rs,avY,i_f];exact a _ _ ⟨rfl,rfl⟩
theorem aiI (e:Int)(w:ao):Pan ah 227 #[.bool au,ad e] w (λc w'=>c=[upI e]∧w=w'):=by
 refine TH λK a=>xL ?_;unfold vV nz;simp only[rs,awA,i_t];have b:∀{PK:PKT} {K:VWP},DoX ah (aN 251 #[(0,ad e)]) w PK K=K (.agg #[ad e]) w:=aC krx;rw[b,KP nfI,Ib];exact a _ _ ⟨rfl,rfl⟩
section
variable {w:ao}{PK:PKT}{K:VWP}{S:Nat->Prop}{w0:ao}{L:List Ent}
theorem jB {e:Int}(a:q=av->K (.tuple #[]) w)(b:q=au->PK [upI e] w):eN ah 227 #[.bool q,ad e] w PK K:=by
 cases q with
|true=>exact zq (akH e w) (a rfl)
|false=>exact acS (aiI e w) λc w' ⟨d,hw⟩=>by subst d;subst hw;exact b rfl
theorem zQ {n e:Int}(a:e=0->K (ad n) w)(b:e≠0->PK [upI e] w):eN ah 283 #[ad n,ad e] w PK K:=by
 refine⟨CV ?_⟩;unfold uA nz;simp only[rs];exact jB (λh=>a (avG h)) λh=>b (avU h)
theorem TW {s:List UInt8}{e:Int}(a:e=0->K (ae s) w)(b:e≠0->PK [upI e] w):eN ah 287 #[ae s,ad e] w PK K:=by
 refine⟨yN ?_⟩;unfold oW nz;simp only[rs];exact jB (λh=>a (avG h)) λh=>b (avU h)
theorem ajL {s:List UInt8}(j:Nat)(c:dQ S w0 w L)(d:L[j]?=ax (bqE b s way p))(hp:p<=8*s.length)(o:s.length<=1000000000)
  (k:∀W,dQ S w0 W (L.set j (bqE b s 0 ((p+7) / 8*8)))->K (.tuple #[]) W):eN ah 285 #[af b 0] w PK K:=by
 have f:j < L.length:=(avL.1 d).1;refine eR (Db (k0:=zy λv W=>v=.tuple #[]∧dQ S w0 W (L.set j (bqE b s 0 ((p+7) / 8*8)))) ?_) (λe W ⟨v,he,i,c⟩=>by subst he;subst i;exact k W c);unfold uG nz;rw[Ix,i_f];refine join λJ l=>?_;have fin:∀(W:ao) (u a:Int),a=(((p+7) / 8:Nat):Int)->dQ S w0 W (L.set j (rqE b s way u a))->J [] W:=by
  intro W u a m c;refine l _ _ λ_=>?_;unfold qG nz;have g:(L.set j (rqE b s way u a))[j]?=ax (rqE b s way u a):=by rw[axP f]
  have n:∀{PK:PKT} {K:VWP},DoX ah (aN 295 #[]) W PK K=K (.agg #[ad 0,ad 0]) W:=aC krx;rw[n,bD,EM];refine CP j c g (new:=[ad 0,ad 0]) szSd dc (by show 0+2<=4;omega) λw2 c=>?_;rw[azN] at c;refine xB ⟨rfl,?_⟩;subst m;have e:bqE b s 0 ((p+7) / 8*8)=rqE b s 0 0 (((p+7) / 8:Nat):Int):=by
   unfold rqE bqE bqC;rw[show (p+7) / 8*8 % 8=0 by omega,show (p+7) / 8*8 / 8=(p+7) / 8 by omega];rfl
  rw[e];exact c
 rw[bD,EM,xQ,St c j d];simp only[rs,bD];by_cases h:(0:Int) < ((p % 8:Nat):Int)
 ·simp only[h,auS,i_t,rs,bD];rw[Jb,alK c j d];simp only[rs,bD];rw[Jb,aA om om];refine SG (a':=((p / 8:Nat):Int)+1) j c d λw3 c=>?_;exact fin w3 _ _ om c
 ·simp only[h,auT,i_f];refine fin w ((p % 8:Nat):Int) ((p / 8:Nat):Int) om ?_;rw[show rqE b s way ((p % 8:Nat):Int) ((p / 8:Nat):Int)=bqE b s way p from rfl,Ac d];exact c
theorem atS {s:List UInt8}{n:Nat}(j:Nat)(a:dQ S w0 w L)(f:L[j]?=ax (bqE b s way p))(k:p % 8=0)(hp:p<=8*s.length)(q:n<=1000000000)(r:s.length<=1000000000)
  (l:p+8*n<=8*s.length->∀W,dQ S w0 W (L.set j (bqE b s way (p+8*n)))->K (.tuple #[ae ((s.drop (p / 8)).take n),ad 0]) W)
  (m:8*s.length < p+8*n->∀W,dQ S w0 W L->K (.tuple #[.string ⟨#[]⟩,ad 4]) W):eN ah 288 #[af b 0,ad (n:Int)] w PK K:=by
 have g:j < L.length:=(avL.1 f).1;refine eR (FW (k0:=zy λv W=>(p+8*n<=8*s.length∧v=.tuple #[ae ((s.drop (p / 8)).take n),ad 0]∧dQ S w0 W (L.set j (bqE b s way (p+8*n))))∨(8*s.length < p+8*n∧v=.tuple #[.string ⟨#[]⟩,ad 4]∧dQ S w0 W L)) ?_) (λe W ⟨v,he,o⟩=>by
  subst he;rcases o with ⟨i,rfl,a⟩|⟨i,rfl,a⟩
  ·exact l i W a
  ·exact m i W a)
 unfold AP nz;rw[Ix];simp only[rs,show ai ((n:Int) < 0)=au from auQ om,bD];rw[EM,xQ,St a j f,k];simp only[rs,show ai ((0:Int) < ((0:Nat):Int))=au from rfl];refine dR (λW=>dQ S w0 W L) a.drew ?_;refine eZ _ (λ_=>cS) (eZ _ (λ_=>bE Uj) (kE _ (λW h=>Pq (h.at_ j f)) (Yl auV ?_)));refine eZ _ (λ_=>cS) (eZ _ (λ_=>bE Oz) (kE _ (λW h=>yP (h.at_ j f)) (eZ _ (λ_=>Cj) ?_)));rw[aA om om];refine J6 ?_;intro w2 a;by_cases c:(s.length:Int) - ((p / 8:Nat):Int) < (n:Int)
 ·simp only[c,auS,i_t];exact xB (.inr ⟨om,rfl,a⟩)
 simp only[c,auT,i_f,rs,bD];rw[Jb,alK a j f];simp only[rs,bD];rw[Jb,aA om om];refine SG (a':=((p / 8:Nat):Int)+n) j a f λw3 a=>?_;have e:rqE b s way ((p % 8:Nat):Int) (((p / 8:Nat):Int)+n)=bqE b s way (p+8*n):=by
  unfold rqE bqE bqC;rw[show (p+8*n) % 8=p % 8 by omega,show (p+8*n) / 8=p / 8+n by omega];rfl
 rw[e] at a;have d:(L.set j (bqE b s way (p+8*n)))[j]?=ax (bqE b s way (p+8*n)):=by rw[axP g]
 refine dR (λW=>dQ S w0 W (L.set j (bqE b s way (p+8*n)))) a.drew ?_;refine eZ _ (λ_=>cS) (eZ _ (λ_=>bE Uj) (kE _ (λW h=>Pq (h.at_ j d)) ?_));refine eZ _ (λ_=>cS) (eZ _ (λ_=>bE Oz) (kE _ (λW h=>yP (h.at_ j d)) (eZ _ (λ_=>Cj) ?_)));rw[show (p+8*n) / 8=p / 8+n by omega,aA om om];refine eZ _ (λ_=>cS) (eZ _ (λ_=>bE Oz) (kE _ (λW h=>yP (h.at_ j d)) ?_));rw[show (p+8*n) / 8=p / 8+n by omega];refine eZ _ (λ_=>jD auV om om om) ?_;intro t a;refine xB (.inl ⟨om,?_,a⟩);rw[show (((p / 8+n:Nat):Int) - (n:Int)).toNat=p / 8 by omega,show ((p / 8+n:Nat):Int).toNat - p / 8=n by omega]
theorem akB {s:List UInt8}(h:(bqE b s way p).is W)(hp:p<=8*s.length)(d:s.length<=1000000000):Ret ah 230 #[af b 0] W (λv w'=>v=ad (((p+7) / 8:Nat):Int)∧Below W.heap.size W w'):=by
 refine aL λK a=>Gs ?_;unfold C7 nz;rw[Ix,i_f,bD,EM,xQ];refine aC (ID h) |>.mpr ?_;simp only[rs,bD];by_cases c:(0:Int) < ((p % 8:Nat):Int)
 ·simp only[c,auS,i_t,rs,bD];rw[Jb];refine aC (yP h) |>.mpr ?_;simp only[rs];rw[aA om om];exact a _ _ ⟨by congr 1;omega,(Own.start W).done⟩
 ·simp only[c,auT,i_f,rs,bD];rw[Jb];refine aC (yP h) |>.mpr ?_;exact a _ _ ⟨by congr 1;omega,(Own.start W).done⟩
end
end
section
open Eng
def AJ(t8 w)(a:JT)(K:KT):=nz f275 491 [a] [nh 7 [8]] [] (zg [8] [t8]) w K
def AK(t2 t3 t6 t7 t8 w)(a:JT)(K:KT):=nz f275 43 [a] [nh 7 [8],(14,[],λs v j w f=>AJ (s 8) w (f 0) K)] [] (zg [2,3,6,7,8] [t2,t3,t6,t7,t8]) w K
def EO(t0 w)(K:KT):=nz f275 1 [] [(7,[8],λs v j w f=>AK (s 2) (s 3) (s 6) (s 7) (vg v 0) w (f 0) K)] [] (zg [0] [t0]) w K
theorem HZ:EO t0 w k0->Calls ah 275 #[t0] w k0:=cz [(7,[])] [(3,[8])] func275
def ET(t5 t6 t7 t8 w)(a:JT)(K:KT):=nz f294 351 [a] [nh 25 [6,7,8]] [] (zg [5,6,7,8] [t5,t6,t7,t8]) w K
def EA(t0 t12 t13 t14 w)(a:JT)(K:KT):=nz f294 43 [a] [nh 9 [14],(25,[6,7,8],λs v j w f=>ET (s 5) (vg v 0) (vg v 1) (vg v 2) w (f 0) K)] [] (zg [0,12,13,14] [t0,t12,t13,t14]) w K
def I7(t0 w)(K:KT):=nz f294 1 [] [(9,[14],λs v j w f=>EA (s 0) (s 12) (s 13) (vg v 0) w (f 0) K)] [] (zg [0] [t0]) w K
theorem LH:I7 t0 w k0->Calls ah 294 #[t0] w k0:=cz [] [(4,[14]),(12,[6,7,8])] func294
def Dz(t1 t2 t3 t4 w)(a:JT)(K:KT):=nz f276 43 [a] [nh 7 [4]] [(5,11)] (zg [1,2,3,4] [t1,t2,t3,t4]) w K
def Hk(t0 w)(K:KT):=nz f276 1 [] [(7,[4],λs v j w f=>Dz (s 1) (s 2) (s 3) (vg v 0) w (f 0) K)] [] (zg [0] [t0]) w K
theorem Kl:Hk t0 w k0->Calls ah 276 #[t0] w k0:=cz [] [(3,[4])] func276
def EG(t22 w)(a:JT)(K:KT):=nz f273 1967 [a] [nh 15 [22]] [] (zg [22] [t22]) w K
def EF(t5 t6 t20 t21 t22 w)(a:JT)(K:KT):=nz f273 175 [a] [nh 15 [22],(24,[],λs v j w f=>EG (s 22) w (f 0) K)] [] (zg [5,6,20,21,22] [t5,t6,t20,t21,t22]) w K
def JG(t0 w)(K:KT):=nz f273 1 [] [(15,[22],λs v j w f=>EF (s 5) (s 6) (s 20) (s 21) (vg v 0) w (f 0) K)] [] (zg [0] [t0]) w K
theorem L7:JG t0 w k0->Calls ah 273 #[t0] w k0:=cz [(12,[])] [(7,[22])] func273
def Dq(a w)(c:JT)(K:KT):=
 bnx .add 3 a (iN 1) w K λb w=>c [b] w
def Cl(b c d e a w)(s t:JT)(K:KT):=
 bnx .lss 3 a e w K λf w=>IfX f (zP (λr=>iax 59 d a w K λg w=>ldx 3 g w K λh w=>eqx .eql 3 (.tmp 44) (.tmp 45) h c w K λi w=>IfX i (nlx b w K λj w=>fax 315 j 4 w K λk w=>ldx 59 k w K λl w=>dx (bJ 59 1 #[(0,a)]) w K λm w=>apx 59 l m w K λn w=>nlx b w K λo w=>fax 315 o 4 w K λp w=>stx 59 p n w K λ_ w=>r [] w) (r [] w)) (λu w=>∀_:Sg,Dq a w t K)) (bnx .add 3 c (iN 1) w K λq w=>s [q] w)
def Ds(a b c w)(g:JT)(K:KT):=
 bnx .leq 3 c (iN 15) w K λd w=>IfX d (lnx 59 a w K λe w=>zr [(iN 0)] w (λf w h=>∀_:Sg,Cl b c a e (f.getD 0 undef) w g h K)) (K (.returned (.tuple #[b,(iN 0)])) w)
def IJ(a w)(K:KT):=
 cx 273 #[a] w K λc w=>exx c 0 w K λe w=>exx c 1 w K λd w=>ecx .neq 35 15 0 d w K λf w=>IfX f (K (.returned (.tuple #[(.pointer aw),d])) w) (cx 274 #[a] w K λg w=>cx 275 #[a] w K λh w=>dx (aN 315 #[(0,g),(1,e),(2,h)]) w K λi w=>dx (AS 315 i) w K λb w=>nlx b w K λj w=>fax 315 j 2 w K λk w=>ldx 312 k w K λl w=>cx 276 #[l] w K λm w=>nlx b w K λn w=>fax 315 n 3 w K λo w=>stx 312 o m w K λ_ w=>zr [(iN 1)] w (λp w q=>∀_:Sg,Ds a b (p.getD 0 undef) w q K))
theorem Hf:IJ t0 w k0->Calls ah 249 #[t0] w k0:=cz [(14,[])] [(7,[7]),(10,[39])] func249
def rJ(t0 t1 t6 t7 t8 w)(a:JT)(K:KT):=nz f299 175 [a] [nh 13 [6,7,8]] [] (zg [0,1,6,7,8] [t0,t1,t6,t7,t8]) w K
def wW(t0 t1 w)(K:KT):=nz f299 1 [] [(13,[6,7,8],λs v j w f=>rJ (s 0) (s 1) (vg v 0) (vg v 1) (vg v 2) w (f 0) K)] [] (zg [0,1] [t0,t1]) w K
theorem En:wW t0 t1 w k0->Calls ah 299 #[t0,t1] w k0:=cz [] [(6,[6,7,8])] func299
end
section
open Eng Go.RowKit
def nsC (f:Nat->Int):List Value:=[ad (f 0),ad (f 1),ad (f 2),ad (f 3),ad (f 4),ad (f 5),ad (f 6),ad (f 7),ad (f 8),ad (f 9),ad (f 10),ad (f 11),ad (f 12),ad (f 13),ad (f 14),ad (f 15)]
def nsV (f:Nat->Int):Value:=.agg (nsC f).toArray
def nsE (b:Nat)(f:Nat->Int):Ent:=.cells b (nsC f) 312
theorem XT (f:Nat->Int):∀v∈nsC f,v.oneCell'=true:=by
 intro v a;simp only[nsC,avB,awS,or_false] at a;rcases a with rfl|rfl|rfl|rfl|rfl|rfl|rfl|rfl|rfl|rfl|rfl|rfl|rfl|rfl|rfl|rfl<;>rfl
theorem lt16 (hi:i < 16):i=0∨i=1∨i=2∨i=3∨i=4∨i=5∨i=6∨i=7∨i=8∨i=9∨i=10∨i=11∨i=12∨i=13∨i=14∨i=15:=om
theorem Ce (f:Nat->Int)(hi:i < 16):(nsC f)[i]?=ax (ad (f i)):=by
 rcases lt16 hi with rfl|rfl|rfl|rfl|rfl|rfl|rfl|rfl|rfl|rfl|rfl|rfl|rfl|rfl|rfl|rfl<;>rfl
theorem X9 (f:Nat->Int)(x:Int)(hi:i < 16):(nsC f).set i (ad x)=nsC (λj=>if j=i then x else f j):=by
 rcases lt16 hi with rfl|rfl|rfl|rfl|rfl|rfl|rfl|rfl|rfl|rfl|rfl|rfl|rfl|rfl|rfl|rfl<;>rfl
theorem agX:By ah 312=ax 16:=krx
theorem szNs:(Tryz.prog.info? 312).map (·.size)=ax 16:=krx
section
variable {w:ao}{PK:PKT}{K:VWP}{S:Nat->Prop}{w0:ao}{L:List Ent}
theorem KA {off:Nat}(hi:i < 16):(mIA 312 (af b off) (ad (i:Int))).run ah W=.ok (.value (af b (off+i))) W:=by
 rcases lt16 hi with rfl|rfl|rfl|rfl|rfl|rfl|rfl|rfl|rfl|rfl|rfl|rfl|rfl|rfl|rfl|rfl<;>kernel_rfl
theorem LF {off:Nat}(hi:i < 16):DoX ah (mIA 312 (af b off) (ad (i:Int))) w PK K=K (af b (off+i)) w:=aC (KA hi)
theorem V9 (a:dQ S w0 w L)(k:∀b w',dQ S w0 w' (nsE b (λ_=>0)::L)->K (af b 0) w'):DoX ah (iM 312) w PK K:=
 bB (λb=>af b 0) (nsC λ_=>0) 312 (λ_=>by kernel_rfl) a k
theorem arF (f:Nat->Int)(a:dQ S w0 w L)(k:∀b w',dQ S w0 w' (nsE b f::L)->K (af b 0) w'):DoX ah (AS 312 (nsV f)) w PK K:=
 bB (λb=>af b 0) (nsC f) 312 (λ_=>by kernel_rfl) a k
theorem NZ (c:dQ S w0 w L)(j:Nat){f:Nat->Int}(hi:L[j]?=ax (nsE b f))(a:i < 16):DoX ah (aG 3 (af b (0+i))) w PK K=K (ad (f i)) w:=aH aW (c.cell j hi (0+i) (by rw[avC];exact Ce f a))
theorem Ze (j:Nat){f:Nat->Int}{x:Int}(a:i < 16)(c:dQ S w0 w L)(hi:L[j]?=ax (nsE b f))(k:∀w',dQ S w0 w' (L.set j (nsE b (λm=>if m=i then x else f m)))->K undef w') :
  DoX ah (aV 3 (af b (0+i)) (ad x)) w PK K:=aK j c hi krx rfl (by show 0+i < 16;omega) λw' c=>k w' (by
   unfold nsE;rw[<-X9 f x a,<-avC i];rw[avC i] at c ⊢;simpa using c)
theorem ns_v (a:dQ S w0 w L)(j:Nat){f:Nat->Int}(hi:L[j]?=ax (nsE b f)):DoX ah (aG 312 (af b 0)) w PK K=K (nsV f) w:=AT (a.agg j hi agX)
theorem Tz (j:Nat){f f':Nat->Int}(a:dQ S w0 w L)(hi:L[j]?=ax (nsE b f))(k:∀w',dQ S w0 w' (L.set j (nsE b f'))->K undef w') :
  DoX ah (aV 312 (af b 0) (nsV f')) w PK K:=gF j a hi (new:=nsC f') szNs (XT f') rfl k
theorem afX {K:Ending->ao->Prop}{f:Nat->Int}(i:Nat)(a:dQ S w0 w L)(hi:L[i]?=ax (nsE b f))(k:K (.returned (nsV f)) w):zu ah [.cell (af b 0) 312] w K:=
 gC (bG (a.agg i hi agX)) k
end
def cnt (lens:List Nat):Nat->Int:=λi=>if i=0 then 0 else ((lens.count i:Nat):Int)
def aT (l:List Nat):List Value:=l.map λn=>ad ((n:Nat):Int)
theorem eG (a:Sl w v 1 l.length (aT l))(hi:i < l.length) :
  ∃b off,(∀W,(mIA 59 v (ad (i:Int))).run ah W=.ok (.value (af b off)) W)∧w.cell? ⟨b,off,aw⟩=ax (ad ((l[i]:Nat):Int)):=by
 obtain⟨b,off,cap,rfl,c⟩:=bQ a om;refine⟨b,off+i,λW=>?_,c i _ (by simp[aT,hi])⟩;have:=cR (P:=ah) (T:=59) (b:=b) (off:=off) (cap:=cap) (n:=l.length) (k:=.i64) (i:=(i:Int)) (w:=W) avJ (show _=ax 1 by kernel_rfl) om om;rw[auW,avQ] at this;exact this
theorem yT (lens:List Nat)(v:aq)(M:Mem)(w:ao)(k:∀l∈lens,l<=15)(D:lens.length<=100000)(p:M.has w)(q:SlA M.A M.w v 1 lens.length (aT lens)) :
  lA ah 275 #[v] M w (λr _=>r=nsV (cnt lens)):=by
 refine aO p λK x=>HZ ?_;unfold EO nz;refine V9 (dQ.memS p) λb2 E c=>?_;refine V9 c λb3 w2 c=>?_;rw[aS avJ (q.now (c.hasM 2 rfl))];refine loop (λvs W=>∃i:Nat,vs=[ad i]∧i<=lens.length∧dQ M.A w W [nsE b3 (cnt (lens.take i)),nsE b2 (λ_=>0),.mem M]) (λvs _=>lens.length - n0 vs) ⟨0,rfl,om,?_⟩ ?_
 ·have e:cnt (lens.take 0)=λ_=>0:=by funext i;simp[cnt]
  rw[e];exact c
 clear c;rintro vs w3 ⟨i,rfl,hi,c⟩ _;simp only[AK,gd,rs,nz];by_cases g:(i:Int) < (lens.length:Int)
 ·have f:i < lens.length:=om
  simp only[g,auS,i_t];refine join λJ y=>?_;obtain⟨b,off,z,B⟩:=eG (q.now (c.hasM 2 rfl)) f;have s:=k _ (avD f);refine aC (z w3) |>.mpr (aC (aB aW B) |>.mpr ?_);have j:lens.take (i+1)=lens.take i++[lens[i]]:=by rw[avP f]
  have fin:∀W,dQ M.A w W [nsE b3 (cnt (lens.take (i+1))),nsE b2 (λ_=>0),.mem M]->J [] W:=by
   intro W c;refine y _ _ λ_=>?_;simp only[AJ,gd,rs,nz];rw[aA om om];exact aU ⟨i+1,rfl,om,c⟩ (by simp[n0,RowKit.intOf];omega)
  simp only[rs];by_cases t:(0:Int) < ((lens[i]:Nat):Int)
  ·simp only[t,auS,i_t];rw[LF om,NZ c 0 rfl om];simp only[rs];rw[LF om];have C:(lens.take i).count lens[i]<=100000:=by
    have:=ayX (a:=lens[i]) (l:=lens.take i);rw[avA] at this;omega
   have n:cnt (lens.take i) lens[i]=(((lens.take i).count lens[i]:Nat):Int):=by unfold cnt;rw[auO om]
   rw[n,aA om om];refine Ze 0 om c rfl λu c=>fin u ?_;have e:(λm=>if m=lens[i] then (((lens.take i).count lens[i]:Nat):Int)+1 else cnt (lens.take i) m)=cnt (lens.take (i+1)):=by
    funext m
    unfold cnt;rw[j,aAa,aAG];by_cases hm:m=lens[i]
    ·subst hm;rw[auP rfl,auO om];simp
    ·rw[auO hm];by_cases d:m=0
     ·rw[auP d,auP d]
     ·rw[auO d,auO d];have:(lens[i]==m)=false:=by simp;exactλh=>hm h.symm
      rw[this];simp
   rw[<-e];exact c
  ·simp only[t,auT,i_f];refine fin w3 ?_;have e:cnt (lens.take (i+1))=cnt (lens.take i):=by
    funext m
    unfold cnt;rw[j,aAa,aAG];by_cases d:m=0
    ·rw[auP d,auP d]
    ·rw[auO d,auO d];have:(lens[i]==m)=false:=by simp;omega
     rw[this];simp
   rw[e];exact c
 ·simp only[g,auT,i_f];have o:i=lens.length:=om
  subst o;rw[awI] at c;rw[ns_v c 0 rfl];refine Tz 1 c rfl λu c=>?_;exact afX 1 c rfl (x _ _ M _ 2 c rfl M.le_refl rfl)
theorem Iw (lens:List Nat)(M:Mem)(w:ao)(o:lens.length<=100000)(f:M.has w) :
  lA ah 276 #[nsV (cnt lens)] M w (λr _=>r=nsV (λi=>((Fl.first lens (if i<=15 then i else 0):Nat):Int))):=by
 refine aO f λK p=>Kl ?_;unfold Hk nz;refine arF (cnt lens) (dQ.memS f) λg x a=>?_;refine V9 a λb2 w2 a=>?_;refine V9 a λb3 w3 a=>?_;refine loop (λvs W=>∃l:Nat,vs=[ad l]∧1<=l∧l<=15∧dQ M.A w W [nsE b3 (λi=>((Fl.first lens (if i<=l then i else 0):Nat):Int)),nsE b2 (λ_=>0),nsE g (cnt lens),.mem M]) (λvs _=>15 - n0 vs) ⟨1,rfl,om,om,?_⟩ ?_
 ·have e:(λi=>((Fl.first lens (if i<=1 then i else 0):Nat):Int))=λ_=>0:=by
   funext i
   by_cases h:i<=1
   ·rw[auP h];rcases (by omega:i=0∨i=1) with rfl|rfl<;>rfl
   ·rw[auO h];rfl
  rw[e];exact a
 clear a;rintro vs q ⟨l,rfl,s,j,a⟩ _;simp only[Dz,gd,rs,nz];by_cases b:(l:Int) < 15
 ·simp only[b,auS,i_t];have t:=Fl.OC (lens:=lens) l;have u:lens.count l<=lens.length:=ayX;have hp:4 ^ l<=4 ^ 15:=awC dc om;have v:(4:Nat) ^ 15=1073741824:=dc
  have n:4 ^ l*lens.length<=1073741824*100000:=axW om o;have d:cnt lens l=((lens.count l:Nat):Int):=by unfold cnt;rw[auO om]
  refine dR (λW=>dQ M.A w W [nsE b3 (λi=>((Fl.first lens (if i<=l then i else 0):Nat):Int)),nsE b2 (λ_=>0),nsE g (cnt lens),.mem M]) a.drew ?_;refine iR ?_;rw[aA om om];refine eZ _ (λ_=>KA om) (kE (ad (Fl.first lens l)) (λW h=>aB aW (h.cell 0 rfl (0+l) (by rw[avC];refine (Ce _ om).trans ?_;rw[auP (auY l)]))) ?_);refine eZ _ (λ_=>KA om) (kE (ad (lens.count l:Nat)) (λW h=>aB aW (h.cell 2 rfl (0+l) (by rw[avC];refine (Ce _ om).trans ?_;rw[d]))) ?_);refine iR ?_;rw[aA om om];refine eZ _ (λ_=>agN) ?_;rw[aA om om];rw[show ((l:Nat):Int)+1=((l+1:Nat):Int) by omega];refine eZ _ (λ_=>KA om) ?_;intro y a;refine Ze 0 om a rfl λz a=>?_;refine aU ⟨l+1,rfl,om,om,?_⟩ (by simp[n0,RowKit.intOf];omega);have e:(λm=>if m=l+1 then (2:Int)*(((Fl.first lens l:Nat):Int)+((lens.count l:Nat):Int)) else ((Fl.first lens (if m<=l then m else 0):Nat):Int))=λi=>((Fl.first lens (if i<=l+1 then i else 0):Nat):Int):=by
   funext m
   by_cases hm:m=l+1
   ·subst hm;rw[auP rfl,auP (auY _)];obtain⟨k,rfl⟩:∃k,l=k+1:=⟨l - 1,om⟩;rw[Fl.first];push_cast;rfl
   ·rw[auO hm];by_cases c:m<=l
    ·rw[auP c,auP om]
    ·rw[auO c,auO om]
  rw[<-e];exact a
 ·simp only[b,auT,i_f];have:l=15:=om
  subst this;rw[ns_v a 0 rfl];refine Tz 1 a rfl λq a=>?_;exact afX 1 a rfl (p _ _ M _ 3 a rfl M.le_refl rfl)
def bh (lens:List Nat):Int:=if 288 < lens.length then 6 else Fl.check lens
theorem V5 (lens:List Nat)(v:aq)(M:Mem)(w:ao)(m:∀l∈lens,l<=15)(n:lens.length<=100000)(s:M.has w)(t:SlA M.A M.w v 1 lens.length (aT lens)) :
  lA ah 294 #[v] M w (λr _=>r=ad (bh lens)):=by
 refine aO s λK u=>LH ?_;unfold I7 nz;have d:dQ M.A w w [.mem M]:=dQ.memS s;rw[aS avJ (t.now s)];simp only[rs];by_cases g:(288:Int) < (lens.length:Int)
 ·simp only[g,auS,i_t];exact u _ _ M _ 0 d rfl M.le_refl (by unfold bh;rw[auP om])
 have y:bh lens=Fl.check lens:=by unfold bh;rw[auO om]
 simp only[g,auT,i_f];rw[aS avJ (t.now s)];refine loop (λvs W=>∃i:Nat,vs=[ad i]∧i<=lens.length∧dQ M.A w W [.mem M]) (λvs _=>lens.length - n0 vs) ⟨0,rfl,om,d⟩ ?_;clear d;rintro vs w2 ⟨i,rfl,hi,d⟩ _;simp only[EA,gd,rs,nz];by_cases f:(i:Int) < (lens.length:Int)
 ·have o:i < lens.length:=om
  simp only[f,auS,i_t];obtain⟨b,off,z,B⟩:=eG (t.now (d.hasM 0 rfl)) o;have p:=m _ (avD o);refine aC (z w2) |>.mpr (aC (aB aW B) |>.mpr ?_);simp only[rs,show ai (((lens[i]:Nat):Int) < 0)=au from auQ om,show ai ((15:Int) < ((lens[i]:Nat):Int))=au from auQ om];rw[aA om om];exact aU ⟨i+1,rfl,om,d⟩ (by simp[n0,RowKit.intOf];omega)
 simp only[f,auT,i_f];refine aY d 0 rfl (yT lens v M w2 m n (d.hasM 0 rfl) t) ?_;rintro _ N w3 hle rfl d;refine V9 d λx G d=>?_;refine Tz 0 d rfl λC d=>?_;have d:dQ M.A w C [nsE x (cnt lens),.mem N]:=d;refine loop (λvs W=>∃l:Nat,vs=[ad (Fl.iX lens l),ad (Fl.bF lens l),ad ((l+1:Nat):Int)]∧l<=15∧dQ M.A w W [nsE x (cnt lens),.mem N]) (λvs _=>16 - n2 vs) ⟨0,rfl,om,d⟩ ?_;clear d f hi;rintro vs D ⟨l,rfl,p,d⟩ _;simp only[ET,gd,rs,nz];have j:∀k,k≠0->cnt lens k=((lens.count k:Nat):Int):=λk h=>by unfold cnt;rw[auO h]
 by_cases f:((l+1:Nat):Int)<=15
 ·simp only[f,auS,i_t];have E:lens.count (l+1)<=lens.length:=ayX;have s1:=Fl.UL (lens:=lens) (l+1);have s2:=Fl.Ll (lens:=lens) (l+1);have H:(l+1)*(lens.length*32768)<=16*(100000*32768):=axW om (awL _ n);have I:(l+1)*lens.length<=16*100000:=axW om n;rw[Fl.iX] at s1;rw[Fl.bF] at s2;rw[LF om,NZ d 0 rfl om,j _ om]
  try simp only[rs]
  rw[aA om om,Bi om];rw[show min ((15:Int) - ((l+1:Nat):Int)).toNat IntKind.i64.bits=15 - (l+1) by show min ((15:Int) - ((l+1:Nat):Int)).toNat 64=15 - (l+1);omega];rw[show ((lens.count (l+1):Nat):Int)*2 ^ (15 - (l+1))=((lens.count (l+1)*2 ^ (15 - (l+1)):Nat):Int) by push_cast;rfl];generalize F:lens.count (l+1)*2 ^ (15 - (l+1))=q at s1 ⊢;rw[aA om om]
  try simp only[rs]
  rw[aA om om,LF om,NZ d 0 rfl om,j _ om]
  try simp only[rs]
  rw[aA om om,aA om om];refine aU ⟨l+1,?_,om,d⟩ (by simp[n2,RowKit.intOf];omega);rw[Fl.iX,Fl.bF,F];rfl
 ·have n:l=15:=om
  subst n;simp only[f,auT,i_f];have fin:∀e:Int,e=Fl.check lens->K (.returned (ad e)) D:=λe he=>u _ _ N _ 1 d rfl hle (by rw[y,he]);unfold Fl.check at fin;by_cases a:Fl.iX lens 15=32768
  ·simp only[show ai (((Fl.iX lens 15:Nat):Int)=32768)=av from auR om,rs,iO];exact fin 0 (by rw[auP (.inl a)])
  simp only[show ai (((Fl.iX lens 15:Nat):Int)=32768)=au from auQ om,rs];by_cases b:Fl.bF lens 15=0
  ·simp only[show ai (((Fl.bF lens 15:Nat):Int)=0)=av from auR om,rs,iO];exact fin 0 (by rw[auP (.inr (.inl b))])
  simp only[show ai (((Fl.bF lens 15:Nat):Int)=0)=au from auQ om,rs];by_cases c:Fl.bF lens 15=1
  ·simp only[show ai (((Fl.bF lens 15:Nat):Int)=1)=av from auR om,rs];rw[show ((1:Int))=((1:Nat):Int) from rfl,LF om,NZ d 0 rfl om,j 1 om];by_cases e:lens.count 1=1
   ·simp only[rs,show ai (((lens.count 1:Nat):Int)=((1:Nat):Int))=av from auR om];exact fin 0 (by rw[auP (.inr (.inr ⟨c,e⟩))])
   ·simp only[rs,show ai (((lens.count 1:Nat):Int)=((1:Nat):Int))=au from auQ om];exact fin 13 (by rw[auO (λh=>h.elim a λh=>h.elim b λh=>e h.2)])
  ·simp only[show ai (((Fl.bF lens 15:Nat):Int)=1)=au from auQ om,rs,iO];exact fin 13 (by rw[auO (λh=>h.elim a λh=>h.elim b λh=>c h.1)])
def tD (l:List Int):List Value:=l.map λn=>ad n
theorem gI {l:List Int}:∀x∈tD l,x.oneCell'=true:=by
 intro x a;obtain⟨n,-,rfl⟩:=awD.1 a;rfl
theorem Zi {l:List Int}(h:i < l.length):(tD l)[i]?=ax (ad l[i]):=by simp[tD,h]
theorem MH:dP ah 59=true:=krx
theorem auN:elB ah 3 1 8=true:=krx
section
variable {w:ao}{PK:PKT}{K:VWP}{S:Nat->Prop}{w0:ao}{L:List Ent}
theorem Yf (a:dQ S w0 w L)(k:∀v w',dQ S w0 w' (.urow 3 1 v 0 []::L)->K v w'):DoX ah (bJ 59 0 #[]) w PK K:=
 bB (λb=>cW b 0 0 0) [] 3 (λ_=>by kernel_rfl) a λb c a=>k _ _ (a.toU 1 0 0 sm om om)
theorem kK (n:Int)(a:dQ S w0 w L)(k:∀b w',dQ S w0 w' (.cells b (tD [n]) 3::L)->K (cW b 0 1 1) w'):DoX ah (bJ 59 1 #[(0,ad n)]) w PK K:=
 bB (λb=>cW b 0 1 1) (tD [n]) 3 (λ_=>by kernel_rfl) a k
theorem gY (i:Nat){n:Nat}(a:dQ S w0 w L)(hi:L[i]?=ax (.urow 3 1 v n xs))(b:Sl w v2 1 m news)(c:∀u∈news,u.oneCell'=av)(d:n+m<=100000000000)
  (k:∀v' w',dQ S w0 w' (L.set i (.urow 3 1 v' (n+m) (xs++news)))->K v' w'):DoX ah (mB .append #[59,59] 59 cb #[v,v2]) w PK K:=
 bN i avJ auN dc a hi b c om om k
end
theorem NQ {K:aq->Prop}{a b:aq}(h:K a):HDo P C (zt (.tuple #[a,b]) 0) K:=aX a (λ_=>rfl) h
theorem Im {K:aq->Prop}{a b:aq}(h:K b):HDo P C (zt (.tuple #[a,b]) 1) K:=aX b (λ_=>rfl) h
theorem T6 (n:Nat):(Go.madeCells (Value.int .i64 0).cells (n*1))=(List.replicate n (Value.int .i64 0)).toArray:=by
 unfold Go.madeCells;refine Array.ext sm λi a b=>?_;have e:(Value.int .i64 0).cells=#[Value.int .i64 0]:=rfl;simp only[Array.getElem_map,List.getElem_toArray,List.getElem_replicate,e];simp[Nat.mod_one]
theorem TN:∃i,Tryz.prog.info? 3=ax i∧i.zero=ax (Value.int .i64 0)∧i.size=1∧i.bytes=8:=⟨_,rfl,krx,krx,krx⟩
section
variable {w:ao}{PK:PKT}{K:VWP}{S:Nat->Prop}{w0:ao}{L:List Ent}
theorem zI {n:Nat}(f:n<=1000000)(a:dQ S w0 w L)(k:∀b w',dQ S w0 w' (.cells b (List.replicate n (ad 0)) 3::L)->K (cW b 0 n n) w') :
  DoX ah (IH 59 (ad (n:Int)) (ad (n:Int))) w PK K:=by
 obtain⟨i,hi,c,d,e⟩:=TN;refine bB (λb=>cW b 0 n n) (List.replicate n (ad 0)) 3 (λW=>?_) a k;have:=Go.run_make (P:=ah) W 59 3 i (Value.int .i64 0) avJ hi c .i64 .i64 (n:Int) (n:Int) om om (by rw[e];omega) om;rw[d,auW,T6] at this;exact cE this
end
def ep (lens:List Nat)(i:Nat):Nat:=if lens.getD i 0=0 then 0 else Fl.first lens (lens.getD i 0)+(lens.take i).count (lens.getD i 0)
def gk (lens:List Nat):List Nat:=(List.range lens.length).map (ep lens)
theorem gp (lens:List Nat):(gk lens).length=lens.length:=by simp[gk]
theorem rn {lens:List Nat}(hi:i < lens.length):(gk lens)[i]?=ax (ep lens i):=by
 simp[gk,hi]
def gJ (lens:List Nat)(i:Nat):List Value:=aT ((gk lens).take i)++List.replicate (lens.length - i) (ad 0)
theorem RT {lens:List Nat}(hi:i<=lens.length):(gJ lens i).length=lens.length:=by
 unfold gJ aT;rw[auU,avS,avA,awJ,gp];omega
theorem Mh {lens:List Nat}(hi:i < lens.length):(gJ lens i).set i (ad ((ep lens i:Nat):Int))=gJ lens (i+1):=by
 unfold gJ;have a:(aT ((gk lens).take i)).length=i:=by unfold aT;rw[avS,avA,gp];omega
 rw[aAV _ _ om,a,ayY];obtain⟨k,b⟩:∃k,lens.length - i=k+1:=⟨lens.length - i - 1,om⟩;rw[b,aBa,axV,show lens.length - (i+1)=k by omega];rw[avP (by rw[gp];exact hi)];have e:(gk lens)[i]'(by rw[gp];exact hi)=ep lens i:=by
  have:=rn hi;rw[auX (by rw[gp];exact hi)] at this;exact ayB this
 rw[e];simp[aT]
theorem P3 {lens:List Nat}(hi:i < lens.length)(a:ep lens i=0):gJ lens (i+1)=gJ lens i:=by
 rw[<-Mh hi,a];refine Ac ?_;unfold gJ;have b:(aT ((gk lens).take i)).length=i:=by unfold aT;rw[avS,avA,gp];omega
 rw[ayL om,b,ayY,aAH,auP om];rfl
def nxt (lens:List Nat)(i:Nat):Nat->Int:=λm=>((Fl.first lens (if m<=15 then m else 0)+(if m=0 then 0 else (lens.take i).count m):Nat):Int)
theorem Of (lens:List Nat)(v:aq)(M:Mem)(w:ao)(o:∀l∈lens,l<=15)(z:lens.length<=100000)(C:M.has w)(q:SlA M.A M.w v 1 lens.length (aT lens)) :
  lA ah 273 #[v] M w (λr N=>∃v',r=.tuple #[v',ad (bh lens)]∧v'.oneCell'=av∧(bh lens=0->SlA N.A N.w v' 1 lens.length (aT (gk lens)))):=by
 refine aO C λK O=>L7 ?_;unfold JG nz;have c:dQ M.A w w [.mem M]:=dQ.memS C;refine aI c (R:=λr=>r=ad (bh lens)) (lA.told (V5 lens v M w o z C q)) ?_;rintro _ U rfl c;rw[bO];by_cases B:bh lens=0
 case neg=>
  simp only[B,ne_eq,axB,auS,i_t];exact O _ _ M _ 0 c rfl M.le_refl ⟨_,rfl,rfl,λh=>absurd h B⟩
 simp only[B,ne_eq,not_true,auT,i_f];refine aI c (R:=λr=>r=nsV (cnt lens)) (lA.told (yT lens v M U o z (c.hasM 0 rfl) q)) ?_;rintro _ w2 rfl c;refine aI c (R:=λr=>r=nsV (λi=>((Fl.first lens (if i<=15 then i else 0):Nat):Int))) (lA.told (Iw lens M w2 z (c.hasM 0 rfl))) ?_;rintro _ w3 rfl c;refine V9 c λD w4 c=>?_;refine Tz 0 c rfl λw5 c=>?_;rw[aS avJ (q.now (c.hasM 1 rfl))];refine zI om c λs w6 c=>?_;rw[aS avJ (q.now (c.hasM 2 rfl))];refine loop (λvs W=>∃i:Nat,vs=[ad i]∧i<=lens.length∧dQ M.A w W [.cells s (gJ lens i) 3,nsE D (nxt lens i),.mem M]) (λvs _=>lens.length - n0 vs) ⟨0,rfl,om,?_⟩ ?_
 ·have F:gJ lens 0=List.replicate lens.length (ad 0):=by simp[gJ,aT]
  have G:nxt lens 0=λi=>((Fl.first lens (if i<=15 then i else 0):Nat):Int):=by
   funext m;unfold nxt;simp
  rw[F,G];exact c
 clear c;rintro vs H ⟨i,rfl,hi,c⟩ _;simp only[EF,gd,rs,nz];by_cases t:(i:Int) < (lens.length:Int)
 ·have d:i < lens.length:=om
  simp only[t,auS,i_t];refine join λJ V=>?_;obtain⟨b,off,X,Y⟩:=eG (q.now (c.hasM 2 rfl)) d;have f:=o _ (avD d);have u:lens.getD i 0=lens[i]:=by rw[auZ,auX d];rfl
  refine aC (X H) |>.mpr (aC (aB aW Y) |>.mpr ?_);have p:lens.take (i+1)=lens.take i++[lens[i]]:=by rw[avP d]
  have fin:∀W,dQ M.A w W [.cells s (gJ lens (i+1)) 3,nsE D (nxt lens (i+1)),.mem M]->J [] W:=by
   intro W c;refine V _ _ λ_=>?_;simp only[EG,gd,rs,nz];rw[aA om om];exact aU ⟨i+1,rfl,om,c⟩ (by simp[n0,RowKit.intOf];omega)
  simp only[rs];by_cases Q:(0:Int) < ((lens[i]:Nat):Int)
  ·simp only[Q,auS,i_t];have Z:=Fl.OC (lens:=lens) lens[i];have hp:4 ^ lens[i]<=4 ^ 15:=awC dc f;have a1:(4:Nat) ^ 15=1073741824:=dc
   have S:4 ^ lens[i]*lens.length<=1073741824*100000:=axW om z;have a6:(lens.take i).count lens[i]<=100000:=by
    have:=ayX (a:=lens[i]) (l:=lens.take i);rw[avA] at this;omega
   have x:ep lens i=Fl.first lens lens[i]+(lens.take i).count lens[i]:=by
    unfold ep;rw[u,auO om]
   have y:nxt lens i lens[i]=((ep lens i:Nat):Int):=by
    unfold nxt;rw[auP f,auO om,x]
   rw[LF om,NZ c 1 rfl om,y];have I:=cR (P:=ah) (T:=59) (b:=s) (off:=0) (cap:=lens.length) (n:=lens.length) (k:=.i64) (i:=(i:Int)) (w:=H) avJ (show _=ax 1 by kernel_rfl) om om;refine aC I |>.mpr ?_;rw[auW,avQ,avC];refine aK 0 c rfl krx rfl (by rw[RT hi];exact d) λw8 c=>?_;rw[Mh d] at c;have c:dQ M.A w w8 [.cells s (gJ lens (i+1)) 3,nsE D (nxt lens i),.mem M]:=c;rw[LF om,NZ c 1 rfl om,y];simp only[rs];rw[LF om,aA om om];refine Ze 1 om c rfl λw9 c=>fin w9 ?_;have e:(λm=>if m=lens[i] then ((ep lens i:Nat):Int)+1 else nxt lens i m)=nxt lens (i+1):=by
    funext m
    by_cases hm:m=lens[i]
    ·subst hm;rw[auP rfl];unfold nxt;rw[auP f,auO om,p,aAa,aAG,x];simp;omega
    ·rw[auO hm];unfold nxt;rw[p,aAa,aAG];have:(lens[i]==m)=false:=by simp;exactλh=>hm h.symm
     rw[this];simp
   rw[<-e];exact c
  ·simp only[Q,auT,i_f];have hz:lens[i]=0:=om
   refine fin H ?_;have F:gJ lens (i+1)=gJ lens i:=P3 d (by unfold ep;rw[u,auP hz]);have G:nxt lens (i+1)=nxt lens i:=by
    funext m
    unfold nxt;rw[p,aAa,aAG];by_cases g:m=0
    ·rw[auP g,auP g]
    ·rw[auO g,auO g];have:(lens[i]==m)=false:=by simp;omega
     rw[this];simp
   rw[F,G];exact c
 ·simp only[t,auT,i_f];have L:i=lens.length:=om
  subst L;have er:gJ lens lens.length=aT (gk lens):=by
   unfold gJ;rw[avX (by rw[gp];omega)];simp
  rw[er] at c;have c:=dQ.toU (b:=s) (cs:=aT (gk lens)) (E:=3) c 1 lens.length lens.length (by unfold aT;rw[avS,gp];omega) om om;obtain⟨N,hle,j,c⟩:=dQ.bH c 1 rfl;rw[avX (by unfold aT;rw[avS,gp];omega)] at j;exact O _ _ N _ 1 c rfl hle ⟨_,by rw[B],rfl,λ_=>j⟩
end
section
open Eng
def mI(t0 w)(K:KT):=nz f274 1 [] [] [] (zg [0] [t0]) w K
theorem wE:mI t0 w k0->Calls ah 274 #[t0] w k0:=cw func274
def iQ(a b w)(j:JT)(K:KT):=
 lnx 59 a w K λc w=>bnx .lss 3 b c w K λd w=>IfX d (zp w (λi=>QDo ah i (cY 59 a (ax b) aw aw) λe=>QDo ah i (cY 59 a aw (ax b) aw) λf=>
 ∀w,i w ->
 DoX ah (mB .copy #[59,59] 3 #[au,au] #[e,f]) w (ay 5 (pk K)) λg w=>DoX ah (gS .add 3 b g) w (ay 5 (pk K)) λh w=>j [h] w)) (K (.returned a) w)
def iD(t0 t6 w)(K:KT):=nz f272 31 [] [(17,[8],λs v j w f=>iQ (s 7) (vg v 0) w (f 0) K)] [] (zg [0,6] [t0,t6]) w K
def iT(t0 t1 w)(K:KT):=nz f272 7 [] [(12,[],λs v j w f=>iD (s 0) (s 6) w K)] [] (zg [0,1] [t0,t1]) w K
def kQ(t0 t1 w)(K:KT):=nz f272 1 [] [(6,[],λs v j w f=>iT (s 0) (s 1) w K)] [] (zg [0,1] [t0,t1]) w K
theorem tQ:kQ t0 t1 w k0->Calls ah 272 #[t0,t1] w k0:=cz [(3,[]),(6,[])] [(8,[8])] func272
end
section
open Eng Go.RowKit
theorem Hs :∀x∈aT l,x.oneCell'=true:=by
 intro x a;obtain⟨n,-,rfl⟩:=awD.1 a;rfl
theorem dZ (l:List Nat):(aT l).length=l.length:=by simp[aT]
theorem aiT {off n c:Nat}:DoX ah (mEq .eql 59 xo yo (cW b off n c) (.slice aw 0 0)) w PK K=K (.bool au) w:=aC krx
theorem Nv (l:List Nat)(v:aq)(M:Mem)(w:ao)(i:l.length<=100000)(j:0 < l.length)(e:M.has w)(f:SlA M.A M.w v 1 l.length (aT l)) :
  lA ah 274 #[v] M w (λr N=>SlA N.A N.w r 1 l.length (aT l)):=by
 refine aO e λK g=>wE ?_;unfold mI nz;have a:dQ M.A w w [.mem M]:=dQ.memS e;have go:∀{b off n c:Nat},v=cW b off n c->DoX ah (mEq .eql 59 (.tmp 3) (.const (.slice aw 0 0)) v (.slice aw 0 0)) w (Eng.pk K) λt4 w=>IfX t4 (K (.returned (.slice aw 0 0)) w) (DoX ah (bJ 59 0 #[]) w (Eng.pk K) λt5 w=>
   DoX ah (mB .append #[59,59] 59 #[au,au] #[t5,v]) w (Eng.pk K) λt7 w=>K (.returned t7) w):=by
  rintro b off n c rfl;rw[aiT,i_f];refine Yf a λv0 k a=>?_;refine gY 0 a rfl (f.now (a.hasM 1 rfl)) Hs om λv1 w2 a=>?_;obtain⟨N,hle,d,a⟩:=dQ.bH (L:=[.mem M]) a 0 rfl;refine g _ _ N _ 0 a rfl hle ?_;rw[avC] at d;exact d
 obtain⟨b,off,cap,h,-⟩:=bQ f.1 om;exact go h
def tbC (a b:aq)(f g:Nat->Int)(o:aq):List Value:=a::b::(nsC f++(nsC g++[o]))
def tbV (a b:aq)(f g:Nat->Int)(o:aq):Value:=.agg (tbC a b f g o).toArray
def tbE (c:Nat)(a b:aq)(f g:Nat->Int)(o:aq):Ent:=.cells c (tbC a b f g o) 315
theorem agD:uM ah 315 0=ax 0:=krx
theorem alF:uM ah 315 1=ax 1:=krx
theorem aqG:uM ah 315 2=ax 2:=krx
theorem apQ:uM ah 315 3=ax 18:=krx
theorem akS:uM ah 315 4=ax 34:=krx
def jn (lens:List Nat)(l:Nat):List Nat:=(List.range lens.length).filter λi=>ai (lens.getD i 0=l)
def bg (lens:List Nat):Nat->List Nat
|0=>[]
|l+1=>bg lens l++jn lens (l+1)
abbrev D1 (lens:List Nat):Nat->Int:=λi=>((Fl.first lens (if i<=15 then i else 0):Nat):Int)
def TbAt (A:Nat->Prop)(w:ao)(b:Nat)(lens:List Nat):Prop:=∃a c o,A b∧(tbE b a c (cnt lens) (D1 lens) o).is w∧SlA A w o 1 (bg lens 15).length (aT (bg lens 15))
theorem U5:dP ah 274=true:=krx
section
variable {w:ao}{PK:PKT}{K:VWP}{S:Nat->Prop}{w0:ao}{L:List Ent}
theorem U6 {off:Nat}:DoX ah (mFA 315 (af b off) 2) w PK K=K (af b (off+2)) w:=aQ aqG
theorem Yq {off:Nat}:DoX ah (mFA 315 (af b off) 3) w PK K=K (af b (off+18)) w:=aQ apQ
theorem Q6 {off:Nat}:DoX ah (mFA 315 (af b off) 4) w PK K=K (af b (off+34)) w:=aQ akS
theorem m_tb {a:aq}{f:Nat->Int}(b:a.oneCell'=av)(d:c.oneCell'=av):DoX ah (aN 315 #[(0,a),(1,c),(2,nsV f)]) w PK K=K (tbV a c f (λ_=>0) dY) w:=by
 cases a<;>first|(cases b;done)|skip
 all_goals cases c<;>first|(cases d;done)|exact aC krx
theorem aqA {a:aq}{f g:Nat->Int}(d:a.oneCell'=av)(e:c.oneCell'=av)(h:dQ S w0 w L)(k:∀b w',dQ S w0 w' (tbE b a c f g dY::L)->K (af b 0) w'):DoX ah (AS 315 (tbV a c f g dY)) w PK K:=by
 cases a<;>first|(cases d;done)|skip
 all_goals cases c<;>first|(cases e;done)|exact bB (λb=>af b 0) (tbC _ _ f g dY) 315 (λ_=>by kernel_rfl) h k
theorem tb_n (d:dQ S w0 w L)(j:Nat){a o:aq}{f g:Nat->Int}(hi:L[j]?=ax (tbE b a c f g o)):DoX ah (aG 312 (af b (0+2))) w PK K=K (nsV f) w:=AT (d.Y3 j hi (0+2) (nsC f) rfl agX)
theorem UQ (d:dQ S w0 w L)(j:Nat){a o:aq}{f g:Nat->Int}(hi:L[j]?=ax (tbE b a c f g o)):DoX ah (aG 59 (af b (0+34))) w PK K=K o w:=aH MH (d.cell j hi 34 rfl)
theorem Y5 (j:Nat){a o:aq}{f g d:Nat->Int}(e:dQ S w0 w L)(hi:L[j]?=ax (tbE b a c f g o))(k:∀w',dQ S w0 w' (L.set j (tbE b a c f d o))->K undef w') :
  DoX ah (aV 312 (af b (0+18)) (nsV d)) w PK K:=CP j e hi (new:=nsC d) szNs (XT d) (by show 0+18+16<=35;omega) k
theorem YF (j:Nat){a o o':aq}{f g:Nat->Int}(h:o'.oneCell'=av)(d:dQ S w0 w L)(hi:L[j]?=ax (tbE b a c f g o))(k:∀w',dQ S w0 w' (L.set j (tbE b a c f g o'))->K undef w') :
  DoX ah (aV 59 (af b (0+34)) o') w PK K:=aK j d hi krx h (by show 0+34 < 35;omega) k
end
def cu (lens:List Nat)(l i:Nat):List Nat:=(List.range i).filter λi=>ai (lens.getD i 0=l)
theorem pg (lens:List Nat)(l i:Nat):(cu lens l i).length<=i:=by
 have:=aBi (λi=>ai (lens.getD i 0=l)) (List.range i);rw[List.length_range] at this;exact this
theorem ph (lens:List Nat):∀l,(bg lens l).length<=l*lens.length
|0=>by simp[bg]
|l+1=>by
  have a:=ph lens l;have b:=pg lens (l+1) lens.length;have e:jn lens (l+1)=cu lens (l+1) lens.length:=rfl;rw[bg,auU,e,axZ];omega
theorem iV (a b:List Nat):aT (a++b)=aT a++aT b:=by simp[aT]
theorem HJ (lens:List Nat)(v:aq)(M:Mem)(w:ao)(j:∀l∈lens,l<=15)(g:lens.length<=100000)(Q:0 < lens.length)(z:M.has w)(y:SlA M.A M.w v 1 lens.length (aT lens)) :
  lA ah 249 #[v] M w (λr N=>if bh lens≠0 then r=.tuple #[.pointer aw,ad (bh lens)] else ∃b,r=.tuple #[af b 0,ad 0]∧TbAt N.A N.w b lens):=by
 refine aO z λK G=>Hf ?_;unfold IJ iN dx ldx fax nlx exx stx ecx cx;have a:dQ M.A w w [.mem M]:=dQ.memS z;refine aY a 0 rfl (Of lens v M w j g z y) ?_;rintro _ H S g1 ⟨cv,rfl,k,m⟩ a;simp only[ex,bO];by_cases n:bh lens=0
 case neg=>
  simp only[n,ne_eq,axB,auS,i_t];exact G _ _ H _ 0 a rfl g1 (by rw[auP n])
 have m:=m n;simp only[n,ne_eq,not_true,auT,i_f];refine aY a 0 rfl (Nv lens v H S g Q (a.hasM 0 rfl) (y.le g1)) λd e w2 g2 o a=>?_;refine aI a (R:=λr=>r=nsV (cnt lens)) (lA.told (yT lens v e w2 j g (a.hasM 0 rfl) (y.le (g1.trans g2)))) ?_;rintro _ w3 rfl a;rw[m_tb o.one k];refine aqA o.one k a λb T a=>?_;rw[bD,U6,tb_n a 0 rfl];refine aI a (R:=λr=>r=nsV (D1 lens)) (lA.told (Iw lens e T g (a.hasM 1 rfl))) ?_;rintro _ w5 rfl a;rw[bD,Yq];refine Y5 0 a rfl λU a=>?_;have p:=y.le (g1.trans g2);have a:dQ M.A w U [.urow 3 1 dY 0 [],tbE b d cv (cnt lens) (D1 lens) dY,.mem e]:=dQ.nilU (L:=[tbE b d cv (cnt lens) (D1 lens) dY,.mem e]) a _ _;refine loop (λvs W=>∃(l:Nat) (ov:aq),vs=[ad ((l+1:Nat):Int)]∧l<=15∧dQ M.A w W [.urow 3 1 ov (bg lens l).length (aT (bg lens l)),tbE b d cv (cnt lens) (D1 lens) ov,.mem e]) (λvs _=>16 - n0 vs) ⟨0,dY,rfl,om,a⟩ ?_;clear a;rintro vs V ⟨l,ov,rfl,q,a⟩ _;simp only[Ds,gd,rs,iN,bnx,lnx];by_cases s:((l+1:Nat):Int)<=15
 ·simp only[s,auS,i_t];rw[aS avJ (p.now (a.hasM 2 rfl))];have X:=ph lens l;have I:l*lens.length<=15*100000:=axW q g;refine loop (λvs W=>∃(i:Nat) (ov:aq),vs=[ad i]∧i<=lens.length∧dQ M.A w W [.urow 3 1 ov (bg lens l++cu lens (l+1) i).length (aT (bg lens l++cu lens (l+1) i)),tbE b d cv (cnt lens) (D1 lens) ov,.mem e]) (λvs _=>lens.length - n0 vs) ⟨0,ov,rfl,om,by
   rw[show cu lens (l+1) 0=[] from rfl,awF];exact a⟩ ?_
  clear a;rintro vs O ⟨i,ov,rfl,hi,a⟩ _;simp only[Cl,gd,rs,iN,dx,ldx,bnx,iax,fax,nlx,stx,eqx,apx];by_cases f:(i:Int) < (lens.length:Int)
  ·have t:i < lens.length:=om
   simp only[f,auS,i_t];refine join λJ Y=>?_;obtain⟨b2,off,Z,r2⟩:=eG (p.now (a.hasM 2 rfl)) t;have B:lens.getD i 0=lens[i]:=by rw[auZ,auX t];rfl
   refine aC (Z O) |>.mpr (aC (aB aW r2) |>.mpr ?_);have a1:=pg lens (l+1) i;have c:cu lens (l+1) (i+1)=cu lens (l+1) i++(if lens[i]=l+1 then [i] else []):=by
    unfold cu;rw[azM,aAW]
    congr 1
    rw[<-B];by_cases h:lens.getD i 0=l+1
    ·rw[auP h];exact List.filter_cons_of_pos (auR h)
    ·rw[auO h];exact List.filter_cons_of_neg (by rw[auQ h];decide)
   have fin:∀(W:ao) (ov:aq),dQ M.A w W [.urow 3 1 ov (bg lens l++cu lens (l+1) (i+1)).length (aT (bg lens l++cu lens (l+1) (i+1))),tbE b d cv (cnt lens) (D1 lens) ov,.mem e]->J [] W:=by
    intro W ov a;refine Y _ _ λ_=>?_;simp only[Dq,gd,rs,iN,bnx];rw[aA om om];exact aU ⟨i+1,ov,rfl,om,a⟩ (by simp[n0,RowKit.intOf];omega)
   simp only[rs];by_cases he:lens[i]=l+1
   ·rw[auP he] at c;simp only[show ai (((lens[i]:Nat):Int)=((l+1:Nat):Int))=av from auR om,i_t,rs,bD];rw[Q6,UQ a 1 rfl];refine kK (i:Int) a λb3 w9 a=>?_;refine gY 1 a rfl (a.sl 0 rfl 1 1 1 rfl) gI (by rw[auU];omega) λv' a6 a=>?_
    try simp only[rs,bD]
    rw[Q6];refine YF 2 (cP (a.at_ 1 rfl)) a rfl λC a=>?_;refine fin C v' ?_;have e1:aT (bg lens l++cu lens (l+1) (i+1))=aT (bg lens l++cu lens (l+1) i)++tD [(i:Int)]:=by
     rw[c,<-avO,iV];rfl
    have e2:(bg lens l++cu lens (l+1) (i+1)).length=(bg lens l++cu lens (l+1) i).length+1:=by
     rw[c,<-avO,auU];rfl
    rw[e1,e2];exact a.tail
   ·rw[auO he,awF] at c;simp only[show ai (((lens[i]:Nat):Int)=((l+1:Nat):Int))=au from auQ om,i_f];refine fin O ov ?_;rw[c];exact a
  ·simp only[f,auT,i_f];have D:i=lens.length:=om
   subst D;rw[aA om om];exact aU ⟨l+1,ov,rfl,om,a⟩ (by simp[n0,RowKit.intOf];omega)
 ·have g:l=15:=om
  subst g;simp only[s,auT,i_f];obtain⟨P,g3,u,a⟩:=dQ.bH (L:=[tbE b d cv (cnt lens) (D1 lens) ov,.mem e]) a 1 rfl;have a:dQ M.A w V [tbE b d cv (cnt lens) (D1 lens) ov,.mem P]:=a;have E:=a.at_ 0 rfl;obtain⟨N4,g4,F,x,a⟩:=dQ.freeze (L:=[.mem P]) a 0 rfl;refine G _ _ N4 _ 0 a rfl (g1.trans (g2.trans (g3.trans g4))) ?_;rw[auO (by simp[n])];exact⟨b,rfl,d,cv,ov,x b rfl,by rw[F];exact E,u.le g4⟩
def gl (lens:List Nat)(s:List UInt8):Nat->Nat->Nat->Nat->Nat×Nat×Int
|0,_,p,_=>(0,p,13)
|f+1,l,p,code=>if Fl.bF lens 15<=Fl.bF lens l then (0,p,13) else if 8*s.length<=p then (0,p,4)
  else if 2*code+Fl.bit s p < Fl.first lens (l+1)+lens.count (l+1) then ((bg lens 15).getD (Fl.bF lens l+(2*code+Fl.bit s p - Fl.first lens (l+1))) 0,p+1,0)
  else gl lens s f (l+1) (p+1) (2*code+Fl.bit s p)
def bw (lens:List Nat)(s:List UInt8)(p:Nat):Nat×Nat×Int:=gl lens s 16 0 p 0
theorem vi (lens:List Nat):(List.range lens.length).map (λi=>lens.getD i 0)=lens:=by
 refine List.ext_getElem sm λi b a=>?_;rw[List.getElem_map,List.getElem_range,auZ,auX a];rfl
theorem rp (lens:List Nat)(l:Nat):(jn lens l).length=lens.count l:=by
 conv=>rhs;rw[<-vi lens]
 rw[List.count_eq_countP,List.countP_map,List.countP_eq_length_filter];unfold jn
 congr 1
theorem ng (lens:List Nat):∀l,(bg lens l).length=Fl.bF lens l
|0=>rfl
|l+1=>by rw[bg,auU,ng lens l,rp,Fl.bF]
theorem ni (lens:List Nat){a:Nat}(h:a<=b):Fl.bF lens a<=Fl.bF lens b:=by
 induction b with
|zero=>
  have:a=0:=om
  subst this;exact auY _
|succ b c=>
  rcases awO a (b+1) with d|d
  ·have:=c om;rw[Fl.bF];omega
  ·have:a=b+1:=om
   subst this;exact auY _
theorem apC {c:Nat}(a:b < 2)(d:c<=1000000):bOr .i64 ((c*2:Nat):Int) (b:Int)=((2*c+b:Nat):Int):=by
 have e:c*2 ||| b=2*c+b:=by
  have:=aAU (i:=1) (b:=b) (by simpa using a) c;rw[azZ c];simpa using this.symm
 unfold bOr;show IntKind.wrap .i64 (((BitVec.ofInt 64 ((c*2:Nat):Int) ||| BitVec.ofInt 64 (b:Int)).toNat:Nat):Int)=_;rw[BitVec.ofInt_natCast,BitVec.ofInt_natCast,BitVec.toNat_or,BitVec.toNat_ofNat,BitVec.toNat_ofNat,axC om,axC om,e];exact aA om om
theorem acC {a o:aq}{f g:Nat->Int}(d:M.A b)(h:(tbE b a c f g o).is M.w)(e:M.has W):(tbE b a c f g o).is W:=by
 show W.heap[b]?=_;rw[e b d];exact h
section
variable {W:ao}{b:Nat}{a c o:aq}{f g:Nat->Int}
theorem aiZ (h:(tbE b a c f g o).is W):(aG 59 (af b (0+34))).run ah W=.ok (.value o) W:=aB MH (aJ (T:=315) (cs:=tbC a c f g o) h rfl)
theorem Zy (h:(tbE b a c f g o).is W)(hi:i < 16):(aG 3 (af b (0+2+i))).run ah W=.ok (.value (ad (f i))) W:=aB aW (aJ (T:=315) (cs:=tbC a c f g o) h (by
 unfold tbC;rw[show 0+2+i=i+1+1 by omega,awH,awH,axO (by show i < 16;exact hi)];exact Ce f hi))
theorem aiA (h:(tbE b a c f g o).is W)(hi:i < 16):(aG 3 (af b (0+18+i))).run ah W=.ok (.value (ad (g i))) W:=aB aW (aJ (T:=315) (cs:=tbC a c f g o) h (by
 unfold tbC;rw[show 0+18+i=(i+16)+1+1 by omega,awH,awH,ayL (by show 16<=i+16;omega)];show (nsC g++[o])[i+16 - 16]?=_;rw[aBh,axO (by show i < 16;exact hi)];exact Ce g hi))
end
theorem L6 {a:Option Addr}{l:Nat}{p:Addr}(h:zx a l cap sz=ax p):∃q:Addr,a=ax q∧q.block=p.block:=by
 unfold zx at h;split at h
 ·exact⟨p,h,rfl⟩
 ·obtain⟨q,b,rfl⟩:=awZ.1 h;exact⟨q,b,by unfold Addr.add;split<;>rfl⟩
theorem SlA.WO {a:Option Addr}{n:Nat}(h:SlA A w (.slice a n cap) sz n cs)(hi:i<=n):SlA A w (.slice (zx a i cap sz) (n - i) (cap - i)) sz (n - i) (cs.drop (i*sz)):=by
 have b:=h.2.2 _ _ _ rfl;refine⟨Sl.from h.1 hi b,λp l c e g=>?_,λa' l c e=>?_⟩
 ·injection e with e _ _
  obtain⟨q,d,f⟩:=L6 e;have:=h.2.1 q n cap (by rw[d]) om
  rwa [<-f]
 ·injection e with _ j k
  omega
theorem Zr :DoX ah (mEq .eql 274 xo yo (af b 0) (.pointer aw)) w PK K=K (.bool au) w:=aC krx
section
variable {w:ao}{PK:PKT}{K:VWP}{S:Nat->Prop}{w0:ao}{L:List Ent}
theorem Tc {s:List UInt8}{lens:List Nat}(j jm:Nat)(D:jm≠j)(a:dQ S w0 w L)(P:L[j]?=ax (bqE b s way p))(hm:L[jm]?=ax (.mem M))(ht:TbAt M.A M.w tb lens)(hl:lens.length<=1000)(hw:way=0∨way=1)(hp:p<=8*s.length)(hs:s.length<=1000000000)
  (k:∀way' W,way'=0∨way'=1->(bw lens s p).2.1<=8*s.length->dQ S w0 W (L.set j (bqE b s way' (bw lens s p).2.1))->K (.tuple #[ad (bw lens s p).1,ad (bw lens s p).2.2]) W) :
  eN ah 299 #[af tb 0,af b 0] w PK K:=by
 have E:j < L.length:=(avL.1 P).1;generalize hR:bw lens s p=R at k;refine eR (En (k0:=zy λv W=>∃way',(way'=0∨way'=1)∧R.2.1<=8*s.length∧v=.tuple #[ad R.1,ad R.2.2]∧dQ S w0 W (L.set j (bqE b s way' R.2.1))) ?_) (λe W ⟨v,he,way',F,h2,hv,a⟩=>by subst he;subst hv;exact k way' W F h2 a);unfold wW nz;obtain⟨ta,tc,tv,Q,g,m⟩:=ht;rw[Zr];simp only[rs];rw[Ix];simp only[rs,bD];have o:∀x:Int×Nat,(L.set j (bqE b s x.1 x.2))[jm]?=ax (.mem M):=λx=>by rw[azO (Ne.symm D)];exact hm
 rw[Q6];refine aC (aiZ (acC Q g (a.hasM jm hm))) |>.mpr ?_;have hlen:=ng lens 15;refine loop (λvs W=>∃(l q code:Nat) (way:Int) (G:aq),vs=[G,ad code,ad ((l+1:Nat):Int)]∧SlA M.A M.w G 1 (Fl.bF lens 15 - Fl.bF lens l) (aT ((bg lens 15).drop (Fl.bF lens l)))∧l<=15∧code < 2 ^ l∧Fl.first lens (l+1)<=2*code∧(way=0∨way=1)∧q<=8*s.length ∧
  gl lens s (16 - l) l q code=R∧dQ S w0 W (L.set j (bqE b s way q))) (λvs _=>16 - n2 vs) ⟨0,p,0,way,tv,rfl,?_,om,dc,by simp[Fl.first],hw,hp,hR,by rw[Ac P];exact a⟩ ?_
 ·rw[show Fl.bF lens 0=0 from rfl,ayS,Nat.sub_zero,<-hlen];exact m
 clear a;rintro vs w2 ⟨l,q,code,way,G,rfl,f,r,a1,a6,hw,H,c,a⟩ _;simp only[rJ,gd,nz];rw[aS avJ (f.now (a.hasM jm (o (way,q))))];simp only[rs];have a7:=ni lens r;have a8:=Fl.Ll (lens:=lens) 15;have I:16 - l=(15 - l)+1:=om
 rw[I,gl] at c;have J:(L.set j (bqE b s way q))[j]?=ax (bqE b s way q):=by rw[axP E]
 by_cases t:(0:Int) < ((Fl.bF lens 15 - Fl.bF lens l:Nat):Int)
 case neg=>
  simp only[t,auT,i_f];rw[auP om] at c;subst c;exact xB ⟨way,hw,H,rfl,a⟩
 have T:l < 15:=by
  rcases awO l 15 with h|h
  ·exact h
  ·have:l=15:=om
   subst this;omega
 rw[auO om] at c;simp only[t,auS,i_t];refine akY (n:=1) j a J hw H om hs (λF W a=>?_) (λF W a=>?_)
 ·rw[auP dc,azN] at a;rw[auO om] at c;have u:Fl.num s q 1=Fl.bit s q:=by simp[Fl.num]
  simp only[ex,bO,show ai ((0:Int)≠0)=au by decide,i_f];have hb:=Fl.Q4 s q;have U:2 ^ l<=2 ^ 14:=awC dc om;have V:(2:Nat) ^ 14=16384:=dc
  rw[Bi dc];rw[show (code:Int)*2 ^ (min (1:Int).toNat IntKind.i64.bits)=((code*2:Nat):Int) by
   rw[show min (1:Int).toNat IntKind.i64.bits=1 from rfl];push_cast;omega]
  rw[aA om om,u,b_or,apC hb om];have X:=a.hasM jm (o (1,q+1));have d:=acC Q g X
  try simp only[rs,bD]
  rw[Yq,LF om];refine aC (aiA d om) |>.mpr ?_;have y:D1 lens (l+1)=((Fl.first lens (l+1):Nat):Int):=by show ((Fl.first lens (if l+1<=15 then l+1 else 0):Nat):Int)=_;rw[auP om]
  have z:cnt lens (l+1)=((lens.count (l+1):Nat):Int):=by unfold cnt;rw[auO om]
  have b0:lens.count (l+1)<=lens.length:=ayX;rw[y]
  try simp only[rs,bD]
  rw[aA om om,U6,LF om];refine aC (Zy d om) |>.mpr ?_;rw[z]
  try simp only[rs]
  have N:Fl.bF lens (l+1)=Fl.bF lens l+lens.count (l+1):=by rw[Fl.bF]
  have Y:=ni lens (show l+1<=15 by omega);by_cases B:((2*code+Fl.bit s q:Nat):Int) - ((Fl.first lens (l+1):Nat):Int) < ((lens.count (l+1):Nat):Int)
  ·simp only[B,auS,i_t];rw[auP om] at c;have O:((bg lens 15).drop (Fl.bF lens l)).length=Fl.bF lens 15 - Fl.bF lens l:=by rw[avF,hlen]
   have C:2*code+Fl.bit s q - Fl.first lens (l+1) < ((bg lens 15).drop (Fl.bF lens l)).length:=om
   obtain⟨b2,off,r1,r2⟩:=eG (l:=(bg lens 15).drop (Fl.bF lens l)) (by rw[O];exact f.now X) C;rw[show ((2*code+Fl.bit s q:Nat):Int) - ((Fl.first lens (l+1):Nat):Int)=((2*code+Fl.bit s q - Fl.first lens (l+1):Nat):Int) by omega];refine aC (r1 W) |>.mpr (aC (aB aW r2) |>.mpr ?_);have e0:((bg lens 15).drop (Fl.bF lens l))[2*code+Fl.bit s q - Fl.first lens (l+1)]=(bg lens 15).getD (Fl.bF lens l+(2*code+Fl.bit s q - Fl.first lens (l+1))) 0:=by
    rw[List.getElem_drop,auZ,auX (by rw[avF] at C;omega)];rfl
   rw[e0];generalize (bg lens 15).getD (Fl.bF lens l+(2*code+Fl.bit s q - Fl.first lens (l+1))) 0=sym at c;subst c;exact xB ⟨1,.inr rfl,by show q+1<=_;omega,rfl,a⟩
  ·simp only[B,auT,i_f];rw[auO om] at c
   try simp only[rs,bD]
   rw[U6,LF om];refine aC (Zy d om) |>.mpr ?_;rw[z];obtain⟨oa,oc,rfl,Z⟩:=f.form;refine aC (cZ avJ (show _=ax 1 by kernel_rfl) om om) |>.mpr ?_;rw[auW]
   try simp only[rs]
   rw[aA om om];refine aU ⟨l+1,q+1,2*code+Fl.bit s q,1,_,rfl,?_,om,?_,?_,.inr rfl,om,?_,a⟩ (by simp[n2,RowKit.intOf];omega)
   ·have:=f.WO (i:=lens.count (l+1)) om;rw[show Fl.bF lens 15 - Fl.bF lens (l+1)=Fl.bF lens 15 - Fl.bF lens l - lens.count (l+1) by omega];have e:(aT ((bg lens 15).drop (Fl.bF lens l))).drop (lens.count (l+1)*1)=aT ((bg lens 15).drop (Fl.bF lens (l+1))):=by
     unfold aT;rw[avQ,<-List.map_drop,azE,N]
    rw[<-e];exact this
   ·rw[ayN];omega
   ·rw[Fl.first];omega
   ·rw[show 16 - (l+1)=15 - l by omega];exact c
 ·simp only[ex,bO,show ai ((4:Int)≠0)=av by decide,i_t];rw[auP om] at c;subst c;exact xB ⟨way,hw,H,rfl,a⟩
end
def flC (rb:Nat)(ov:aq)(most:Int):List Value:=[af rb 0,ov,ad most]
def flE (b rb:Nat)(ov:aq)(most:Int):Ent:=.cells b (flC rb ov most) 256
def iS (ov:aq)(out:List UInt8):Ent:=.urow 5 1 ov out.length (aM out)
theorem Zz:uM ah 256 0=ax 0:=krx
theorem DH:uM ah 256 1=ax 1:=krx
theorem akR:uM ah 256 2=ax 2:=krx
theorem aeW:dP ah 253=true:=krx
theorem MT:dP ah 70=true:=krx
section
variable {w:ao}{PK:PKT}{K:VWP}{S:Nat->Prop}{w0:ao}{L:List Ent}
theorem Rv {off:Nat}:DoX ah (mFA 256 (af b off) 0) w PK K=K (af b off) w:=aQ Zz
theorem Zs (a:dQ S w0 w L)(j:Nat){ov:aq}{most:Int}(hi:L[j]?=ax (flE b rb ov most)):DoX ah (aG 253 (af b 0)) w PK K=K (af rb 0) w:=aH aeW (a.cell j hi 0 rfl)
theorem sV {ov:aq}{most:Int}{s:List UInt8}{n:Nat}(e j:Nat)(a:dQ S w0 w L)(c:L[e]?=ax (flE fb b ov most))(f:L[j]?=ax (bqE b s way p))(hw:way=0∨way=1)(hp:p<=8*s.length)(g:n<=24)(i:s.length<=1000000000)
  (k:p+n<=8*s.length->∀W,dQ S w0 W (L.set j (bqE b s (if 0 < n then 1 else way) (p+n)))->K (ad (Fl.num s p n)) W)
  (l:8*s.length < p+n->∀W,dQ S w0 W L->PK [upI 4] W):eN ah 259 #[af fb 0,ad (n:Int)] w PK K:=by
 refine⟨Av ?_⟩;unfold qH nz;rw[bD,Rv,Zs a e c];refine akY j a f hw hp g i (λd W a=>?_) (λd W a=>?_)
 ·simp only[ex];exact zQ (λ_=>k d W a) (λh=>absurd rfl h)
 ·simp only[ex];exact zQ (λh=>absurd h dc) (λ_=>l d W a)
theorem Yy {ov:aq}{n:Nat}{out:List UInt8}(e g:Nat)(d:dQ S w0 w L)(c:L[e]?=ax (flE fb b ov most))(f:L[g]?=ax (iS ov out))(l:n<=1000000000)(hm:most<=1000000000)(i:out.length<=1000000000)
  (j:out.length+n<=most->∀W,dQ S w0 W L->K (.tuple #[]) W) (k:most < out.length+n->∀W,dQ S w0 W L->PK [upI 5] W):eN ah 286 #[af fb 0,ad (n:Int)] w PK K:=by
 refine⟨zW ?_⟩;unfold qJ nz;refine dR (λW=>dQ S w0 W L) d.drew ?_;refine eZ _ (λ_=>cS) (eZ _ (λ_=>bE DH) (kE ov (λW h=>aB MT (h.cell e c 1 rfl)) ?_));refine kE (ad (out.length:Int)) (λW h=>?_) ?_
 ·have:=h.slU g f;obtain⟨_,a,cap,rfl,_⟩:=this;simp[mB,builtin,Builtin.len_,run_underlying avE,goInt]
 refine iR ?_;rw[aA om om];refine eZ _ (λ_=>cS) (eZ _ (λ_=>bE akR) (kE (ad (most:Int)) (λW h=>aB aW (h.cell e c 2 rfl)) (acJ ?_)));intro w2 d;exact jB (λh=>j (by have:=avG h;omega) w2 d) (λh=>k (by have:=avU h;omega) w2 d)
theorem uX {e:Int}(a:e=0->K v w)(b:e≠0->PK [upI e] w):eN ah 290 #[v,ad e] w PK K:=by
 refine⟨iW ?_⟩;unfold eD nz;simp only[rs];exact jB (λh=>a (avG h)) λh=>b (avU h)
end
def dp (each first:Nat):Nat->Nat
|0=>first
|i+1=>dp each first i+2 ^ (i / each - 1)
theorem pj (each first:Nat):∀i,i<=40->dp each first i<=first+i*2 ^ 40
|0,_=>by simp[dp]
|i+1,h=>by
  have a:=pj each first i om
  have b:i / each<=i:=azF _ _;have c:2 ^ (i / each - 1)<=2 ^ 40:=awC dc om;rw[dp,axZ];omega
def snC (a b:Int):List Value:=[ad a,ad b]
def snV (a b:Int):Value:=.agg (snC a b).toArray
def snE (c:Nat)(a b:Int):Ent:=.cells c (snC a b) 349
theorem asT:By ah 349=ax 2:=krx
theorem szSn:(Tryz.prog.info? 349).map (·.size)=ax 2:=krx
theorem aqH:uM ah 349 0=ax 0:=krx
theorem apD:uM ah 349 1=ax 1:=krx
section
variable {w:ao}{PK:PKT}{K:VWP}{S:Nat->Prop}{w0:ao}{L:List Ent}
theorem ajQ (a:dQ S w0 w L)(k:∀b w',dQ S w0 w' (snE b 0 0::L)->K (af b 0) w'):DoX ah (iM 349) w PK K:=
 bB (λb=>af b 0) (snC 0 0) 349 (λ_=>by kernel_rfl) a k
theorem asG (a c:Int)(d:dQ S w0 w L)(k:∀b w',dQ S w0 w' (snE b a c::L)->K (af b 0) w'):DoX ah (AS 349 (snV a c)) w PK K:=
 bB (λb=>af b 0) (snC a c) 349 (λ_=>by kernel_rfl) d k
theorem m_sn {c:Int}:DoX ah (aN 349 #[(0,ad a),(1,ad c)]) w PK K=K (snV a c) w:=aC krx
theorem asD :DoX ah (aN 349 #[(0,ad a)]) w PK K=K (snV a 0) w:=aC krx
theorem TQ (j:Nat){c a' d:Int}(f:dQ S w0 w L)(hi:L[j]?=ax (snE b a c))(k:∀w',dQ S w0 w' (L.set j (snE b a' d))->K undef w') :
  DoX ah (aV 349 (af b 0) (snV a' d)) w PK K:=gF j f hi (new:=snC a' d) szSn (by intro v e;simp only[snC,avB,awS,or_false] at e;rcases e with rfl|rfl<;>rfl) rfl k
theorem TK {K:Ending->ao->Prop}{c:Int}(i:Nat)(d:dQ S w0 w L)(hi:L[i]?=ax (snE b a c))(k:K (.returned (snV a c)) w):zu ah [.cell (af b 0) 349] w K:=
 gC (bG (d.agg i hi asT)) k
end
theorem NN (i first each:Nat)(w:ao)(hi:i<=40)(he:1<=each)(o:first<=1000):Ret ah 316 #[ad (i:Int),ad (first:Int),ad (each:Int)] w (λv w'=>v=snV (dp each first i) ((i / each - 1:Nat):Int)∧Below w.heap.size w w'):=by
 refine aL λK j=>Fu ?_;unfold AH nz;refine ajQ (Own.start w) λb l a=>?_;have a:Own w l [snE b 0 0]:=a;have more:∀q:Nat,max 0 (((q:Nat):Int) - 1)=((q - 1:Nat):Int):=λq=>by omega
 have quo:∀k:Nat,((k:Nat):Int).tdiv (each:Int)=((k / each:Nat):Int):=λk=>by
  rw[aBf om];rfl
 refine loop (λvs W=>∃k:Nat,vs=[ad (dp each first k),ad k]∧k<=i∧Own w W [snE b 0 0]) (λvs _=>i - n1 vs) ⟨0,rfl,om,a⟩ ?_;clear a;rintro vs w2 ⟨k,rfl,p,a⟩ _;simp only[uR,gd,rs,nz];by_cases e:(k:Int) < (i:Int)
 ·simp only[e,auS,i_t];have g:k / each<=k:=azF _ _;have c:=pj each first (k+1)
  rw[dp] at c;have f:dp each first (k+1)=dp each first k+2 ^ (k / each - 1):=rfl
  rw[Ej om,quo];generalize k / each=d at *;rw[aA om om]
  try simp only[rs]
  rw[aA om om,sQ,more,Bi om];have c:=c om;have m:(2:Nat) ^ 40=1099511627776:=dc
  have n:2 ^ (d - 1)<=2 ^ 40:=awC dc om;rw[show min ((d - 1:Nat):Int).toNat IntKind.i64.bits=d - 1 by show min ((d - 1:Nat):Int).toNat 64=d - 1;omega];rw[show (1:Int)*2 ^ (d - 1)=((2 ^ (d - 1):Nat):Int) by push_cast;omega];have hm:(k+1)*2 ^ 40<=41*2 ^ 40:=awL _ om;generalize r:2 ^ (d - 1)=q at *;rw[aA om om]
  try simp only[rs]
  rw[aA om om,aA om om];exact aU ⟨k+1,by rw[f];rfl,om,a⟩ (by simp[n1,RowKit.intOf];omega)
 ·simp only[e,auT,i_f];have h:k=i:=om
  subst h;have g:k / each<=k:=azF _ _;have c:=pj each first (k+1)
  rw[dp] at c;have f:dp each first (k+1)=dp each first k+2 ^ (k / each - 1):=rfl
  rw[Ej om,quo];generalize k / each=d at *;rw[aA om om]
  try simp only[rs]
  rw[aA om om,sQ,more,m_sn];have a:dQ NoB w w2 [snE b 0 0]:=a;refine TQ 0 a rfl λw3 a=>?_;exact TK 0 a rfl (j _ _ ⟨rfl,a.below⟩)
def fc (i:Nat):Nat:=if i=28 then 258 else dp 4 3 i
def cg (i:Nat):Nat:=if i=28 then 0 else i / 4 - 1
def di (i:Nat):Nat:=dp 2 1 i
def bp (i:Nat):Nat:=i / 2 - 1
theorem Qc (i:Nat)(w:ao)(hi:i<=28):Ret ah 309 #[ad (i:Int)] w (λv w'=>v=snV (fc i) (cg i)∧Below w.heap.size w w'):=by
 refine aL λK c=>HR ?_;unfold EW nz;refine ajQ (Own.start w) λb d a=>?_;have a:dQ NoB w d [snE b 0 0]:=a;simp only[rs];by_cases h:(i:Int)=28
 ·have hi:i=28:=om
  subst hi;simp only[h,auS,i_t];rw[asD];refine TQ 0 a rfl λw3 a=>?_;exact TK 0 a rfl (c _ _ ⟨rfl,a.below⟩)
 ·simp only[h,auT,i_f];refine aI a (R:=λv=>v=snV (dp 4 3 i) ((i / 4 - 1:Nat):Int)) (NN i 3 4 d om om om) ?_;rintro _ w2 rfl a;refine TQ 0 a rfl λw3 a=>?_;refine TK 0 a rfl (c _ _ ⟨?_,a.below⟩);unfold fc cg;rw[auO om,auO om]
theorem T5 (i:Nat)(w:ao)(hi:i<=30):Ret ah 311 #[ad (i:Int)] w (λv w'=>v=snV (di i) (bp i)∧Below w.heap.size w w'):=by
 refine aL λK d=>Kf ?_;unfold GF nz;refine ajQ (Own.start w) λb c a=>?_;have a:dQ NoB w c [snE b 0 0]:=a;refine aI a (R:=λv=>v=snV (dp 2 1 i) ((i / 2 - 1:Nat):Int)) (NN i 1 2 c om om om) ?_;rintro _ w2 rfl a;refine TQ 0 a rfl λw3 a=>?_;exact TK 0 a rfl (d _ _ ⟨rfl,a.below⟩)
theorem QG (a e m:Nat)(w:ao)(h:a<=1000000000)(he:e<=30)(hm:m < 2 ^ e):Ret ah 315 #[snV (a:Int) (e:Int),ad (m:Int)] w (λv w'=>v=.tuple #[ad ((a+m:Nat):Int),ad 0]∧Below w.heap.size w w'):=by
 refine aL λK d=>Bz ?_;unfold sA nz;refine asG _ _ (Own.start w) λb f c=>?_;have c:dQ NoB w f [snE b a e]:=c;have hp:2 ^ e<=2 ^ 30:=awC dc he;have g:(2:Nat) ^ 30=1073741824:=dc
 simp only[rs,show ai ((m:Int) < 0)=au from auQ om];rw[aQ apD,aH aW (c.cell 0 rfl 1 rfl),Bi om];rw[show min (e:Int).toNat IntKind.i64.bits=e by show min (e:Int).toNat 64=e;omega];rw[show (1:Int)*2 ^ e=((2 ^ e:Nat):Int) by push_cast;omega,aA om om];simp only[rs,show ai (((2 ^ e:Nat):Int)<=(m:Int))=au from auQ om];rw[aQ aqH,aH aW (c.cell 0 rfl 0 rfl)];simp only[rs];rw[aA om om];exact d _ _ ⟨rfl,c.below⟩
theorem lj (h:i<=28):fc i<=1000∧cg i<=5:=by
 have:i=0∨i=1∨i=2∨i=3∨i=4∨i=5∨i=6∨i=7∨i=8∨i=9∨i=10∨i=11∨i=12∨i=13∨i=14∨i=15∨i=16∨i=17∨i=18∨i=19∨i=20∨i=21∨i=22∨i=23∨i=24∨i=25∨i=26∨i=27∨i=28:=om
 rcases this with rfl|rfl|rfl|rfl|rfl|rfl|rfl|rfl|rfl|rfl|rfl|rfl|rfl|rfl|rfl|rfl|rfl|rfl|rfl|rfl|rfl|rfl|rfl|rfl|rfl|rfl|rfl|rfl|rfl<;>decide
theorem lq (h:i<=29):di i<=100000∧bp i<=13:=by
 have:i=0∨i=1∨i=2∨i=3∨i=4∨i=5∨i=6∨i=7∨i=8∨i=9∨i=10∨i=11∨i=12∨i=13∨i=14∨i=15∨i=16∨i=17∨i=18∨i=19∨i=20∨i=21∨i=22∨i=23∨i=24∨i=25∨i=26∨i=27∨i=28∨i=29:=om
 rcases this with rfl|rfl|rfl|rfl|rfl|rfl|rfl|rfl|rfl|rfl|rfl|rfl|rfl|rfl|rfl|rfl|rfl|rfl|rfl|rfl|rfl|rfl|rfl|rfl|rfl|rfl|rfl|rfl|rfl|rfl<;>decide
theorem XM (i m:Nat)(w:ao)(hi:i<=28)(hm:m < 2 ^ cg i):Ret ah 308 #[ad ((257+i:Nat):Int),ad (m:Int)] w (λv w'=>v=.tuple #[ad ((fc i+m:Nat):Int),ad 0]∧Below w.heap.size w w'):=by
 refine aL λK b=>IC ?_;unfold EU nz;have a:dQ NoB w w []:=Own.start w;obtain⟨c,d⟩:=lj hi;simp only[rs,show ai (((257+i:Nat):Int) < 257)=au from auQ om,show ai ((285:Int) < ((257+i:Nat):Int))=au from auQ om];rw[aA om om,show ((257+i:Nat):Int) - 257=(i:Int) by omega];refine aI a (R:=λv=>v=snV (fc i) (cg i)) (Qc i w hi) ?_;rintro _ w2 rfl a;refine aI a (R:=λv=>v=.tuple #[ad ((fc i+m:Nat):Int),ad 0]) (QG _ _ m w2 om om hm) ?_;rintro _ w3 rfl a;simp only[ex];exact b _ _ ⟨rfl,a.below⟩
theorem aaE (i m:Nat)(w:ao)(hi:i<=29)(hm:m < 2 ^ bp i):Ret ah 310 #[ad (i:Int),ad (m:Int)] w (λv w'=>v=.tuple #[ad ((di i+m:Nat):Int),ad 0]∧Below w.heap.size w w'):=by
 refine aL λK b=>Kc ?_;unfold Gw nz;have a:dQ NoB w w []:=Own.start w;obtain⟨c,d⟩:=lq hi;simp only[rs,show ai ((i:Int) < 0)=au from auQ om,show ai ((29:Int) < (i:Int))=au from auQ om];refine aI a (R:=λv=>v=snV (di i) (bp i)) (T5 i w om) ?_;rintro _ w2 rfl a;refine aI a (R:=λv=>v=.tuple #[ad ((di i+m:Nat):Int),ad 0]) (QG _ _ m w2 om om hm) ?_;rintro _ w3 rfl a;simp only[ex];exact b _ _ ⟨rfl,a.below⟩
end
section
namespace Eng
open Go.RowKit
theorem QK {g:Nat}(h:w'.heap[g]?=w.heap[g]?):w'.cell? ⟨g,j,aw⟩=w.cell? ⟨g,j,aw⟩:=by
 unfold World.cell?;simp only[h]
theorem Tg {T:TypeId}{cs:Array Bool}{g n bytes:Nat}(H:P.underlying T=ax (.slice E))(he:elB P E sz bytes=av)(L:0 < sz)
  (d:(Ent.urow E sz (cW g 0 n cap) n xs).is w) (M:Sl w v2 sz m news) (hm:0 < m) (N:∀u∈news,u.oneCell'=av) (O:(n+m)*bytes<=140737488355328) (Q:n+m<=140737488355328)
  (r:(mB .append #[T,T] U cs #[cW g 0 n cap,v2]).run P w=.ok (.value v') w') (l:(Ent.urow E sz v' (n+m) (xs++news)).is w') {j:Nat} {u:aq} (o:xs[j]?=ax u):w'.cell? ⟨g,j,aw⟩=ax u:=by
 obtain⟨i,z,hi,R,v,x,S⟩:=kL he;subst v;subst x;have d:w.ownsRow 0 E i.size (cW g 0 n cap) n xs:=d;have l:w'.ownsRow 0 E i.size v' (n+m) (xs++news):=l;obtain⟨y,a,c,rfl,V,W⟩:=M;have A:n+m<=maxLen:=by simp only[maxLen];omega
 cases a with
|none=>have:=V rfl;omega
|some p=>
  have I:∀j u,news[j]?=ax u->w.cell? (p.add j)=ax u:=by
   intro j u o;obtain⟨B,f⟩:=W p rfl;have:=B hm;obtain⟨b,off,spot⟩:=p;simp only at this f;subst this;rw[cM];exact f j u o
  have holds:∀j u,xs[j]?=ax u->w.cell? ((⟨g,0,aw⟩:Addr).add j)=ax u:=d.cells (g:=g) rfl;have C:=d.1;rcases d.2 with ⟨h,_⟩|⟨g',J,cur,X,Y,K,Z,a1,D,F⟩
  ·cases h
  injection X with q e2 e3
  injection q with q
  injection q with q
  subst q;subst e3;by_cases k:n+m<=cap
  ·have s:n*i.size+news.length<=cur.size:=by rw[y,D,<-axY];exact awL _ k
   have G:=run_append_room (P:=P) w T U E i H hi g n cap cur K p m c news y I N k s;have:(mB .append #[T,T] U cs #[cW g 0 n cap,.slice (ax p) m c]).run P w=.ok (.value (cW g 0 (n+m) cap)) (w.setRow g (cur.toList.take (n*i.size)++news++cur.toList.drop (n*i.size+news.length)).toArray):=by simp[mB,builtin,G]
   rw[this] at r;cases r;have:=l.cells (g:=g) rfl j u (by rw[axO (avL.1 o).1];exact o);rw[cM,avC] at this;exact this
  ·have G:=run_append_grow (P:=P) w T U E i z H hi R ⟨g,0,aw⟩ n cap xs C holds p m c news y I om (by simp only[maxLen] at A;omega) (growslice_fits om O);have:(mB .append #[T,T] U cs #[cW g 0 n cap,.slice (ax p) m c]).run P w=.ok (.value (cW w.heap.size 0 (n+m) (grownCap w (n+m) cap E)))
    (w.drew.alloc (.cells (xs.toArray++news.toArray++Builtin.zeroCells z.cells (grownCap w (n+m) cap E - (n+m))) E)):=by simp[mB,builtin,G]
   rw[this] at r;cases r;have t:g < w.heap.size:=(azS.1 K).1;have e:(w.drew.alloc (.cells (xs.toArray++news.toArray++Builtin.zeroCells z.cells (grownCap w (n+m) cap E - (n+m))) E)).heap[g]?=w.heap[g]?:=by first|exact heap_alloc_old w.drew _ t|exact heap_alloc_old w.drew _ _ t
   rw[QK e];have:=holds j u o;rw[cM,avC] at this;exact this
theorem HN {T d:TypeId}{cs:Array Bool}{n:Nat}{l:List UInt8}(k:P.underlying T=ax (.slice E))(hu:P.underlying d=ax .string)(he:elB P E 1 1=av)(o:P.underlying E=ax (.int .u8))
  (b:(P.info? E).bind (·.zero)=ax (.int .u8 0)) (a:w.ownsRow 0 E 1 v n xs) (e:n+l.length<=140737488355328) :
  ∃v' w',(mB .append #[T,d] U cs #[v,ae l]).run P w=.ok (.value v') w'∧IT (.urow E 1 v n xs) (.urow E 1 v' (n+l.length) (xs++aM l)) w w':=by
 obtain⟨v',w',r,t,_⟩:=Ia (P:=P) (U:=U) (cs:=cs) k hu he o b (World.ownsRowF_of a) e;refine⟨v',w',r,t.grew,?_,t.new⟩;obtain⟨i,z,hi,s,f,g,p⟩:=kL he;have h:i.zero=ax (.int .u8 0):=by rw[hi] at b;exact b
 have c:=cQ l;have j:n+(⟨l.toArray⟩:ByteArray).size<=maxLen:=by rw[c];simp only[maxLen];omega
 obtain⟨v2,w2,q,m,u,x⟩:=Lib.run_append_own_string (P:=P) w 0 T d U E i k hu hi h f g v n xs a ⟨l.toArray⟩ j (by rw[c];omega) (avK _);rw[Da,c] at m;have:(mB .append #[T,d] U cs #[v,ae l]).run P w=.ok (.value v2) w2:=by simp[mB,builtin,q]
 rw[this] at r;cases r;exact m
section
variable {S:Nat->Prop}{P:Program}{w:ao}{PK:PKT}{K:VWP}
theorem Y2 (i:Nat){T:TypeId}{cs:Array Bool}{g bytes n:Nat}(d:P.underlying T=ax (.slice E))(he:elB P E sz bytes=av)(a:0 < sz)
  (c:dQ S w0 w L) (hi:L[i]?=ax (.urow E sz (cW g 0 n cap) n xs)) (e:Sl w v2 sz m news) (hm:0 < m) (f:∀u∈news,u.oneCell'=av) (h:(n+m)*bytes<=140737488355328) (b:n+m<=140737488355328)
  (k:∀v' w',(∀j u,xs[j]?=ax u->w'.cell? ⟨g,j,aw⟩=ax u)->dQ S w0 w' (L.set i (.urow E sz v' (n+m) (xs++news)))->K v' w'):DoX P (mB .append #[T,T] U cs #[cW g 0 n cap,v2]) w PK K:=by
 obtain⟨v',w',r,t⟩:=CD (cs:=cs) (U:=U) d he a (c.at_ i hi) e f h b;exact yO r (k _ _ (λj u l=>Tg d he a (c.at_ i hi) e hm f h b r t.is l) (c.turn i hi t))
theorem IG (i:Nat){T c:TypeId}{cs:Array Bool}{n:Nat}{l:List UInt8}(e:P.underlying T=ax (.slice E))(hu:P.underlying c=ax .string)(he:elB P E 1 1=av)(f:P.underlying E=ax (.int .u8))
  (a:(P.info? E).bind (·.zero)=ax (.int .u8 0)) (d:dQ S w0 w L) (hi:L[i]?=ax (.urow E 1 v n xs)) (b:n+l.length<=140737488355328)
  (k:∀v' w',dQ S w0 w' (L.set i (.urow E 1 v' (n+l.length) (xs++aM l)))->K v' w'):DoX P (mB .append #[T,c] U cs #[v,ae l]) w PK K:=by
 obtain⟨v',w',r,t⟩:=HN (cs:=cs) (U:=U) e hu he f a (d.at_ i hi) b;exact yO r (k _ _ (d.turn i hi t))
end
end Eng
end
section
open Eng Go.RowKit
def gi (d:Nat):Nat->List UInt8->List UInt8
|0,out=>out
|n+1,out=>gi d n (out++[out.getD (out.length - d) 0])
theorem rq (d:Nat):∀(n:Nat) (out:List UInt8),(gi d n out).length=out.length+n
|0,out=>rfl
|n+1,out=>by rw[gi,rq d n,auU,awX];omega
theorem ru (i:Nat):1<=di i:=by
 unfold di
 induction i with
|zero=>decide
|succ i a=>exact axN a (Nat.le_add_right _ _)
def bs (far:List Nat)(s:List UInt8)(p sign:Nat)(out:List UInt8)(most:Nat):List UInt8×Nat×Int:=
 if 285 < sign then (out,p,13)
 else if 8*s.length < p+cg (sign - 257) then (out,p,4)
 else
  let size:=fc (sign - 257)+Fl.num s p (cg (sign - 257))
  let r:=bw far s (p+cg (sign - 257))
  if r.2.2≠0 then (out,p,r.2.2)
  else if 29 < r.1 then (out,p,13)
  else if 8*s.length < r.2.1+bp r.1 then (out,p,4)
  else
   let d:=di r.1+Fl.num s r.2.1 (bp r.1)
   if out.length < d then (out,p,14)
   else if most < out.length+size then (out,p,5)
   else (gi d size out,r.2.1+bp r.1,0)
theorem akA {b:Int}:(mFld 349 (snV a b) 1).run ah W=.ok (.value (ad b)) W:=krx
theorem aoH {b:Int}:DoX ah (mFld 349 (snV a b) 1) w PK K=K (ad b) w:=aC akA
section
variable {w:ao}{PK:PKT}{K:VWP}{S:Nat->Prop}{w0:ao}{L:List Ent}
theorem afW (a:dQ S w0 w L)(j:Nat){ov:aq}{most:Int}(hi:L[j]?=ax (flE b rb ov most)):DoX ah (aG 70 (af b (0+1))) w PK K=K ov w:=aH MT (a.cell j hi 1 rfl)
theorem SA (j:Nat){ov a:aq}{most:Int}(h:a.oneCell'=av)(c:dQ S w0 w L)(hi:L[j]?=ax (flE b rb ov most))(k:∀w',dQ S w0 w' (L.set j (flE b rb a most))->K undef w') :
  DoX ah (aV 70 (af b (0+1)) a) w PK K:=aK j c hi krx h (by show 0+1 < 3;omega) k
theorem G8:elB ah 5 1 1=true:=krx
theorem Nc (c:UInt8)(a:dQ S w0 w L)(k:∀b w',dQ S w0 w' (.cells b (aM [c]) 5::L)->K (cW b 0 1 1) w'):DoX ah (bJ 70 1 #[(0,.int .u8 (c.toNat:Int))]) w PK K:=
 bB (λb=>cW b 0 1 1) (aM [c]) 5 (λ_=>by kernel_rfl) a k
abbrev Fs (fb rb:Nat)(s:List UInt8)(most:Nat)(ov:aq)(way:Int)(p:Nat)(out:List UInt8)(R:List Ent):List Ent:=flE fb rb ov (most:Int)::bqE rb s way p::iS ov out::R
theorem KR {ov:aq}{most:Int}(h:(flE b rb ov most).is W):(aG 70 (af b (0+1))).run ah W=.ok (.value ov) W:=aB MT (aJ (T:=256) (cs:=flC rb ov most) h rfl)
theorem dO {ov:aq}{out:List UInt8}(h:(iS ov out).is W):Sl W ov 1 out.length (aM out):=Sl.urow h
theorem gP {l:List UInt8}(hi:i < l.length):(aM l)[i]?=ax (.int .u8 (l[i].toNat:Int)):=by
 unfold aM;rw[azP,auX hi];rfl
theorem KF {l:List UInt8}(a:Sl w v 1 l.length (aM l))(hi:i < l.length) :
  ∃b off,(∀W,(mIA 70 v (ad (i:Int))).run ah W=.ok (.value (af b (off+i))) W)∧w.cell? ⟨b,off+i,aw⟩=ax (.int .u8 (l[i].toNat:Int)):=by
 obtain⟨b,off,cap,rfl,c⟩:=bQ a om;refine⟨b,off,λW=>?_,c i _ (gP hi)⟩;have:=cR (P:=ah) (T:=70) (b:=b) (off:=off) (cap:=cap) (n:=l.length) (k:=.i64) (i:=(i:Int)) (w:=W) avE (show _=ax 1 by kernel_rfl) om om
 rwa [auW,avQ] at this
theorem nU8l:dP ah 5=true:=krx
theorem bU {l:List UInt8}:∀u∈aM l,u.oneCell'=true:=by
 unfold aM;intro u hu;obtain⟨c,_,rfl⟩:=awD.1 hu;rfl
theorem abS {ov:aq}{s:List UInt8}{out:List UInt8}{lens:List Nat}(jm:Nat)(f:dQ S w0 w (Fs fb rb s most ov way p out R))(hm:R[jm]?=ax (.mem M))(ht:TbAt M.A M.w tb lens)(hl:lens.length<=1000)(hw:way=0∨way=1)(hp:p<=8*s.length)(Q:s.length<=1000000000)(b2:most<=1000000000)(b3:out.length<=most)(hi:i<=1000)
  (H:(bs lens s p (257+i) out most).2.2=0->(bs lens s p (257+i) out most).2.1<=8*s.length->(bs lens s p (257+i) out most).1.length<=most->∀way' l W,(way'=0∨way'=1)->dQ S w0 W (Fs fb rb s most l way' (bs lens s p (257+i) out most).2.1 (bs lens s p (257+i) out most).1 R)->K (.tuple #[]) W)
  (y:(bs lens s p (257+i) out most).2.2≠0->∀l way' p' a W,dQ S w0 W (Fs fb rb s most l way' p' a R)->PK [upI (bs lens s p (257+i) out most).2.2] W) :
  eN ah 300 #[af fb 0,ad ((257+i:Nat):Int),af tb 0] w PK K:=by
 generalize g:bs lens s p (257+i) out most=X at H y;refine⟨vX ?_⟩;unfold lS iN dx ldx bnx fax nlx exx lnx cx;unfold bs at g;simp only[rs];refine jB (λI=>?_) (λI=>?_)
 rotate_left
 ·have:=avU I;rw[auP om] at g;subst g;exact y (by dsimp only;decide) _ _ _ _ _ f
 have I:=avG I;have u:i<=28:=om
 rw[auO om,aAE] at g;obtain⟨b4,U⟩:=lj u;rw[aA om om,show ((257+i:Nat):Int) - 257=(i:Int) by omega];refine aI f (R:=λv=>v=snV (fc i) (cg i)) (Qc i w u) ?_;rintro _ w1 rfl f;rw[aoH];refine sV 0 1 f rfl rfl hw hp om Q (λh2 W f=>?_) (λh2 W f=>?_)
 rotate_left
 ·rw[auP h2] at g;subst g;exact y (by dsimp only;decide) _ _ _ _ _ f
 rw[auO om] at g;dsimp only at g;have x:(if 0 < cg i then (1:Int) else way)=0∨(if 0 < cg i then (1:Int) else way)=1:=by split;exact .inr rfl;exact hw
 have f:dQ S w0 W (Fs fb rb s most ov (if 0 < cg i then 1 else way) (p+cg i) out R):=f;generalize (if 0 < cg i then (1:Int) else way)=a8 at f x;have C:=Fl.iG s p (cg i);refine aI f (R:=λv=>v=.tuple #[ad ((fc i+Fl.num s p (cg i):Nat):Int),ad 0]) (XM i _ W u C) ?_;rintro _ w2 rfl f;simp only[ex];refine zQ (λ_=>?_) (λh=>absurd rfl h);have V:fc i+Fl.num s p (cg i)<=100000:=by
  have:2 ^ cg i<=2 ^ 5:=awC dc U;omega
 generalize fc i+Fl.num s p (cg i)=sz at g V
 try rw[bD]
 rw[Rv,Zs f 0 rfl];refine Tc 1 (jm+3) om f rfl hm ht hl x om Q λj W3 E D f=>?_;have f:dQ S w0 W3 (Fs fb rb s most ov j (bw lens s (p+cg i)).2.1 out R):=f;generalize bw lens s (p+cg i)=T at g f D;obtain⟨fi,q,e⟩:=T;dsimp only at g f D;simp only[ex];refine zQ (λJ=>?_) (λJ=>?_)
 rotate_left
 ·rw[auP J] at g;subst g;exact y J _ _ _ _ _ f
 rw[auO (by rw[J];decide)] at g;simp only[rs];refine jB (λL=>?_) (λL=>?_)
 rotate_left
 ·have:=avU L;rw[auP om] at g;subst g;exact y (by dsimp only;decide) _ _ _ _ _ f
 have L:=avG L;have z:fi<=29:=om
 rw[auO om] at g;obtain⟨b5,b6⟩:=lq z;refine aI f (R:=λv=>v=snV (di fi) (bp fi)) (T5 fi W3 om) ?_;rintro _ w4 rfl f;rw[aoH];refine sV 0 1 f rfl rfl E D om Q (λh5 W f=>?_) (λh5 W f=>?_)
 rotate_left
 ·rw[auP h5] at g;subst g;exact y (by dsimp only;decide) _ _ _ _ _ f
 rw[auO om] at g;have x:(if 0 < bp fi then (1:Int) else j)=0∨(if 0 < bp fi then (1:Int) else j)=1:=by split;exact .inr rfl;exact E
 have f:dQ S w0 W (Fs fb rb s most ov (if 0 < bp fi then 1 else j) (q+bp fi) out R):=f;generalize (if 0 < bp fi then (1:Int) else j)=o at f x;have C:=Fl.iG s q (bp fi);refine aI f (R:=λv=>v=.tuple #[ad ((di fi+Fl.num s q (bp fi):Nat):Int),ad 0]) (aaE fi _ W z C) ?_;rintro _ w6 rfl f;simp only[ex];refine zQ (λ_=>?_) (λh=>absurd rfl h);have b7:=ru fi;have Y:1<=di fi+Fl.num s q (bp fi):=om
 generalize di fi+Fl.num s q (bp fi)=d at g Y
 try rw[bD]
 rw[aQ DH,afW f 0 rfl,aS avE (dO (f.at_ 2 rfl))];simp only[rs];refine jB (λN=>?_) (λN=>?_)
 rotate_left
 ·have:=avU N;rw[auP om] at g;subst g;exact y (by dsimp only;decide) _ _ _ _ _ f
 have N:=avG N;rw[auO om] at g;refine Yy (n:=sz) 0 2 f rfl rfl om om om (λh7 W f=>?_) (λh7 W f=>?_)
 rotate_left
 ·rw[auP om] at g;subst g;exact y (by dsimp only;decide) _ _ _ _ _ f
 rw[auO om] at g;refine loop (λvs W=>∃(k:Nat) (l:aq) (a:List UInt8),vs=[ad k]∧k<=sz∧d<=a.length∧a.length+(sz - k)<=most∧gi d (sz - k) a=X.1∧dQ S w0 W (Fs fb rb s most l o (q+bp fi) a R)) (λvs _=>sz - n0 vs) ⟨0,ov,out,rfl,om,om,om,by rw[<-g];rfl,f⟩ ?_;clear f;rintro vs w7 ⟨k,l,a,rfl,hk,b9,c0,t,f⟩ _;simp only[jJ,gd,rs,iN,bnx];by_cases F:(k:Int) < (sz:Int)
 ·simp only[F,auS,i_t];have f:=f.drew;have r:a.length - d < a.length:=om
  obtain⟨O,B,rfl⟩:=rM (f.at_ 2 rfl) om;obtain⟨cb,b0,b1,m,Z⟩:=bQ (dO (f.at_ 2 rfl)) om
  injection m with m e2 e3
  injection m with m
  injection m with m e4
  subst m;subst e4;refine⟨λW=>(flE fb rb (cW O 0 a.length B) most).is W∧W.cell? ⟨O,a.length - d,aw⟩=ax (.int .u8 (a[a.length - d].toNat:Int)),⟨f.at_ 0 rfl,?_⟩,?_⟩
  ·have:=Z _ _ (gP r)
   rwa [avC] at this
  refine aX _ (λ_=>cS) (aX _ (λ_=>bE DH) (iJ _ (λW h=>KR h.1) ?_));refine aX _ (λ_=>cS) (aX _ (λ_=>bE DH) (iJ _ (λW h=>KR h.1) ?_));refine aX _ (λ_=>cS) (aX _ (λ_=>bE DH) (iJ _ (λW h=>KR h.1) ?_));refine aX (ad (a.length:Int)) (λW=>by simp[mB,builtin,Builtin.len_,run_underlying avE,goInt]) ?_;refine aX _ (λW=>cE (by simp[binOp];rfl)) ?_;rw[aA om om,show (a.length:Int) - (d:Int)=((a.length - d:Nat):Int) by omega];refine aX (af O (a.length - d)) (λW=>?_) ?_
  ·have:=cR (P:=ah) (T:=70) (b:=O) (off:=0) (cap:=B) (n:=a.length) (k:=.i64) (i:=((a.length - d:Nat):Int)) (w:=W) avE (show _=ax 1 by kernel_rfl) om om
   rwa [auW,avQ,avC] at this
  refine iJ _ (λW h=>aB nU8l h.2) ?_;generalize hc:a[a.length - d]=c;refine Nc c f λb8 w8 f=>?_;refine⟨⟨f.at_ 1 rfl,?_⟩,?_⟩
  ·obtain⟨_,_,_,m,Z⟩:=bQ (dO (f.at_ 3 rfl)) om
   injection m with m e2 e3
   injection m with m
   injection m with m e4
   subst m;subst e4;have:=Z _ _ (gP r);rw[avC,hc] at this;exact this
  refine Y2 3 avE G8 dc f rfl (gX (f.at_ 0 rfl) dc rfl) dc bU om om λv' w9 a1 f=>?_;have a6:v'.oneCell'=true:=cP (f.at_ 3 rfl);refine⟨⟨f.at_ 1 rfl,?_⟩,?_⟩
  ·have:=a1 _ _ (gP r);rw[hc] at this;exact this
  refine aX _ (λ_=>cS) (aX _ (λ_=>bE DH) ?_);refine SA 1 a6 f rfl λG f=>?_;have f:dQ S w0 G (.cells b8 (aM [c]) 5::Fs fb rb s most v' o (q+bp fi) (a++[c]) R):=by
   have e:iS v' (a++[c])=.urow 5 1 v' (a.length+1) (aM a++aM [c]):=by
    unfold iS aM;rw[auU,avT];rfl
   show dQ S w0 G (.cells b8 (aM [c]) 5::flE fb rb v' (most:Int)::bqE rb s o (q+bp fi)::iS v' (a++[c])::R);rw[e];exact f
  rw[aA om om];refine aU ⟨k+1,v',a++[c],rfl,om,by rw[auU];omega,by rw[auU,awX];omega,?_,f.tail⟩ (by simp[n0,RowKit.intOf];omega);rw[<-t,show sz - k=(sz - (k+1))+1 by omega,gi,auZ,auX r,<-hc];rfl
 ·simp only[F,auT,i_f];have a7:k=sz:=om
  subst a7;rw[ayY,gi] at t;rw[<-g] at t;rw[<-g] at H;dsimp only at t H;have:=H rfl om (by rw[<-t];omega) o l w7 x (by rw[<-t];exact f);exact this
end
def I6 (b:Nat)(w:ao):Nat:=match w.cell? ⟨b,1,aw⟩,w.cell? ⟨b,3,aw⟩ with|some (.int _ u),ax (.int _ a)=>8*a.toNat+u.toNat|_,_=>0
theorem Ld {s:List UInt8}(h:(bqE b s way p).is w):I6 b w=p:=by
 unfold I6;rw[show w.cell? ⟨b,1,aw⟩=ax (ad ((p % 8:Nat):Int)) from aJ (T:=297) (cs:=bqC s way p) h rfl,show w.cell? ⟨b,3,aw⟩=ax (ad ((p / 8:Nat):Int)) from aJ (T:=297) (cs:=bqC s way p) h rfl];show 8*((p / 8:Nat):Int).toNat+((p % 8:Nat):Int).toNat=p;omega
theorem ry (lens:List Nat)(s:List UInt8):∀(f l p code:Nat),(gl lens s f l p code).2.2=0->p < (gl lens s f l p code).2.1
|0,_,_,_,h=>by simp[gl] at h
|f+1,l,p,code,h=>by
  unfold gl at h ⊢;split
  ·rename_i a;rw[auP a] at h;simp at h
  rename_i a;rw[auO a] at h
  split
  ·rename_i b;rw[auP b] at h;simp at h
  rename_i b;rw[auO b] at h
  split
  ·exact Nat.lt_succ_self _
  rename_i c;rw[auO c] at h
  have:=ry lens s f (l+1) (p+1) (2*code+Fl.bit s p) h;omega
theorem mj {lens:List Nat}{s:List UInt8}{p:Nat}(h:(bw lens s p).2.2=0):p < (bw lens s p).2.1:=ry lens s 16 0 p 0 h
theorem po {far:List Nat}{s:List UInt8}{p sign most:Nat}{out:List UInt8}(h:(bs far s p sign out most).2.2=0):p<=(bs far s p sign out most).2.1:=by
 unfold bs at h ⊢;split
 ·exact auY _
 rename_i b;rw[auO b] at h
 split
 ·exact auY _
 rename_i c;rw[auO c] at h
 dsimp only at h ⊢;split
 ·exact auY _
 rename_i a;rw[auO a] at h
 have:=mj (Decidable.not_not.1 a);split
 ·exact auY _
 rename_i d;rw[auO d] at h
 split
 ·exact auY _
 rename_i e;rw[auO e] at h
 split
 ·exact auY _
 rename_i f;rw[auO f] at h
 split
 ·exact auY _
 dsimp only;omega
def iy (near far:List Nat)(s:List UInt8)(most:Nat):Nat->Nat->List UInt8->List UInt8×Nat×Int
|0,p,out=>(out,p,13)
|f+1,p,out=>
  let r:=bw near s p
  if r.2.2≠0 then (out,p,r.2.2)
  else if r.1 < 256 then if most < out.length+1 then (out,p,5) else iy near far s most f r.2.1 (out++[UInt8.ofNat r.1])
  else if r.1=256 then (out,r.2.1,0)
  else
   let c:=bs far s r.2.1 r.1 out most
   if c.2.2≠0 then (out,p,c.2.2) else iy near far s most f c.2.1 c.1
def dt (near far:List Nat)(s:List UInt8)(most p:Nat)(out:List UInt8):List UInt8×Nat×Int:=iy near far s most (8*s.length+1 - p) p out
theorem rz (lens:List Nat):∀(l i:Nat),i∈bg lens l->i < lens.length
|0,i,h=>by cases h
|l+1,i,h=>by
  rw[bg,avZ] at h;rcases h with h|h
  ·exact rz lens l i h
  ·unfold jn at h;have:=(List.mem_filter.1 h).1;exact axE.1 this
theorem nm {lens:List Nat}(s:List UInt8)(a:0 < lens.length):∀(f l p code:Nat),(gl lens s f l p code).1 < lens.length
|0,_,_,_=>by simpa[gl] using a
|f+1,l,p,code=>by
  unfold gl;split
  ·exact a
  split
  ·exact a
  split
  ·dsimp only;rw[auZ];rcases h:(bg lens 15)[Fl.bF lens l+(2*code+Fl.bit s p - Fl.first lens (l+1))]? with _|x
   ·exact a
   ·exact rz lens 15 x (ayQ h)
  ·exact nm s a f _ _ _
theorem sd {lens:List Nat}(s:List UInt8)(p:Nat):(bw lens s p).1<=lens.length:=by
 rcases axG lens.length with h|h
 ·have:lens=[]:=ayT h;subst this;simp[bw,gl,Fl.bF]
 ·exact Nat.le_of_lt (nm s h 16 0 p 0)
theorem cU8 {n:Nat}(h:n < 256):(nG 3 5 (ad (n:Int))).run ah W=.ok (.value (.int .u8 ((UInt8.ofNat n).toNat:Int))) W:=by
 have:=aZ (P:=ah) (S:=3) (D:=5) (k:=.i64) (n:=(n:Int)) (w:=W) krx avN;rw[this]
 congr 3
section
variable {w:ao}{PK:PKT}{K:VWP}{S:Nat->Prop}{w0:ao}
theorem WV {O:Nat}{ov:aq}{s:List UInt8}{out:List UInt8}{far:List Nat}(jm:Nat)(a:dQ S w0 w (Fs fb rb s most ov way p out R))(hm:R[jm]?=ax (.mem M))(ht:TbAt M.A M.w tb near)(F:TbAt M.A M.w O far)(hl:near.length<=1000)(G:far.length<=1000)(hw:way=0∨way=1)(hp:p<=8*s.length)(P:s.length<=1000000000)(H:most<=1000000000)(h:out.length<=most)
  (Q:(dt near far s most p out).2.2=0->(dt near far s most p out).2.1<=8*s.length->(dt near far s most p out).1.length<=most->∀way' r W,(way'=0∨way'=1)->dQ S w0 W (Fs fb rb s most r way' (dt near far s most p out).2.1 (dt near far s most p out).1 R)->K (.tuple #[]) W)
  (E:(dt near far s most p out).2.2≠0->∀r way' p' v W,dQ S w0 W (Fs fb rb s most r way' p' v R)->PK [upI (dt near far s most p out).2.2] W) :
  eN ah 289 #[af fb 0,af tb 0,af O 0] w PK K:=by
 generalize b:dt near far s most p out=X at Q E;refine⟨wO ?_⟩;unfold nU nz;refine loop (λvs W=>∃(p:Nat) (way:Int) (ov:aq) (out:List UInt8),vs=[]∧(way=0∨way=1)∧p<=8*s.length∧out.length<=most∧(∃f,8*s.length+1 - p<=f∧iy near far s most f p out=X)∧dQ S w0 W (Fs fb rb s most ov way p out R)) (λ_ w=>8*s.length+1 - I6 rb w) ⟨p,way,ov,out,rfl,hw,hp,h,⟨_,auY _,b⟩,a⟩ ?_;clear a b hp hw h;rintro vs I ⟨p,way,ov,out,rfl,hw,hp,h,⟨f,hf,b⟩,a⟩ _;have x:I6 rb I=p:=Ld (a.at_ 1 rfl);unfold kR nz;obtain⟨f,rfl⟩:∃f',f=f'+1:=⟨f - 1,om⟩;rw[iy] at b;dsimp only at b;rw[bD,Rv,Zs a 0 rfl];refine Tc 1 (jm+3) om a rfl hm ht hl hw hp P λc W3 t j a=>?_;have a:dQ S w0 W3 (Fs fb rb s most ov c (bw near s p).2.1 out R):=a;have d:=@mj near s p;have hle:=@sd near s p;generalize bw near s p=T at b a j d hle;obtain⟨g,q,e⟩:=T;dsimp only at b a j d hle;simp only[ex];refine zQ (λy=>?_) (λy=>?_)
 rotate_left
 ·rw[auP y] at b;subst b;exact E y _ _ _ _ _ a
 rw[auO (by rw[y];decide)] at b;have d:=d y;simp only[rs];by_cases m:(g:Int) < 256
 ·simp only[m,auS,i_t];rw[auP om] at b;refine Yy (n:=1) 0 2 a rfl rfl om om om (λh7 W a=>?_) (λh7 W a=>?_)
  rotate_left
  ·rw[auP om] at b;subst b;exact E (by dsimp only;decide) _ _ _ _ _ a
  rw[auO om] at b
  try rw[bD]
  rw[aQ DH,afW a 0 rfl];refine aC (cU8 om) |>.mpr ?_;refine Nc _ a λU w8 a=>?_;refine bN 3 avE G8 dc a rfl (gX (a.at_ 0 rfl) dc rfl) bU om om λv' w9 a=>?_;have J:v'.oneCell'=true:=cP (a.at_ 3 rfl)
  try rw[bD]
  rw[aQ DH];refine SA 1 J a rfl λl a=>?_;have a:dQ S w0 l (.cells U (aM [UInt8.ofNat g]) 5::Fs fb rb s most v' c q (out++[UInt8.ofNat g]) R):=by
   have e:iS v' (out++[UInt8.ofNat g])=.urow 5 1 v' (out.length+1) (aM out++aM [UInt8.ofNat g]):=by
    unfold iS aM;rw[auU,avT];rfl
   show dQ S w0 l (.cells U (aM [UInt8.ofNat g]) 5::flE fb rb v' (most:Int)::bqE rb s c q::iS v' (out++[UInt8.ofNat g])::R);rw[e];exact a
  have k:I6 rb l=q:=Ld (a.at_ 2 rfl);refine aU ⟨q,c,v',_,rfl,t,j,by rw[auU,awX];omega,⟨f,om,b⟩,a.tail⟩ (by show 8*s.length+1 - I6 rb l < 8*s.length+1 - I6 rb I;rw[x,k];omega)
 simp only[m,auT,i_f];rw[auO om] at b
 try simp only[rs]
 by_cases V:(g:Int)=256
 ·simp only[V,auS,i_t];rw[auP om] at b;subst b;exact Q rfl j h _ _ _ t a
 simp only[V,auT,i_f];rw[auO om] at b;obtain⟨i,rfl⟩:∃i,g=257+i:=⟨g - 257,om⟩;have u:=@po far s q (257+i) most out;refine abS jm a hm F G t j P H h om (λz Y B o D L N a=>?_) (λz D o p4 Z L a=>?_)
 rotate_left
 ·rw[auP z] at b;subst b;exact E z _ _ _ _ _ a
 rw[auO (by rw[z];decide)] at b;have u:=u z;generalize bs far s q (257+i) out most=C at b a u Y B;have k:I6 rb L=C.2.1:=Ld (a.at_ 1 rfl);refine aU ⟨C.2.1,o,D,C.1,rfl,N,Y,B,⟨f,om,b⟩,a⟩ (by show 8*s.length+1 - I6 rb L < 8*s.length+1 - I6 rb I;rw[x,k];omega)
end
end
def dq (lens:List Nat):Nat:=(lens.map λl=>if l=0 then 0 else 2 ^ (15 - l)).sum
def gr (lens:List Nat):Nat:=(lens.filter λl=>ai (l≠0)).length
theorem se (m:Nat):Fl.iX [] m=0:=by
 induction m with
|zero=>rfl
|succ m a=>simp[Fl.iX,a]
theorem pq (m:Nat):Fl.bF [] m=0:=by
 induction m with
|zero=>rfl
|succ m a=>simp[Fl.bF,a]
theorem sf (l:Nat)(ls:List Nat)(m:Nat):Fl.iX (l::ls) m=Fl.iX ls m+(if l=0 then 0 else if l<=m then 2 ^ (15 - l) else 0):=by
 induction m with
|zero=>
  simp only[Fl.iX];split;·rfl
  ·rw[auO om]
|succ m b=>
  rw[Fl.iX,b,Fl.iX,List.count_cons];by_cases h:l=m+1
  ·subst h;simp only[beq_self_eq_true,if_true,axY,Nat.one_mul];rw[auO om,auO om,auO om,auP (auY _)];omega
  ·have c:(l==m+1)=false:=by simp[h]
   rw[c];simp only[ayH,if_false,axA];by_cases a:l=0
   ·simp[a]
   ·rw[auO a,auO a];by_cases hm:l<=m
    ·rw[auP hm,auP om];omega
    ·rw[auO hm,auO om];simp
theorem nn (l:Nat)(ls:List Nat)(m:Nat):Fl.bF (l::ls) m=Fl.bF ls m+(if l=0 then 0 else if l<=m then 1 else 0):=by
 induction m with
|zero=>
  simp only[Fl.bF];split;·rfl
  ·rw[auO om]
|succ m b=>
  rw[Fl.bF,b,Fl.bF,List.count_cons];by_cases h:l=m+1
  ·subst h;simp only[beq_self_eq_true,if_true];rw[auO om,auO om,auO om,auP (auY _)];omega
  ·have c:(l==m+1)=false:=by simp[h]
   rw[c];simp only[ayH,if_false,axA];by_cases a:l=0
   ·simp[a]
   ·rw[auO a,auO a];by_cases hm:l<=m
    ·rw[auP hm,auP om];omega
    ·rw[auO hm,auO om];simp
theorem si:∀{lens:List Nat},(∀l∈lens,l<=15)->dq lens=Fl.iX lens 15
|[],_=>by rw[se];rfl
|l::ls,h=>by
  have a:=si (lens:=ls) λx b=>h x (awR _ b);have c:=h l (axR ..);unfold dq at a ⊢;rw[awY,azK,a,sf,auP c];omega
theorem sj:∀{lens:List Nat},(∀l∈lens,l<=15)->gr lens=Fl.bF lens 15
|[],_=>by rw[pq];rfl
|l::ls,h=>by
  have a:=sj (lens:=ls) λx c=>h x (awR _ c);have d:=h l (axR ..);unfold gr at a ⊢;rw[nn,auP d,<-a,aAX];by_cases b:l=0
  ·simp[b]
  ·simp[b]
theorem sn (lens:List Nat)(l:Nat):Fl.fL (lens++[l])=max (Fl.fL lens) l:=by simp[Fl.fL]
theorem so (m:Nat):∀(lens:List Nat) (a:Nat),lens.foldl max a<=m↔a<=m∧∀l∈lens,l<=m
|[],a=>by simp
|l::ls,a=>by
  rw[List.foldl_cons,so m ls (max a l)];simp only[avB,forall_eq_or_imp,Nat.max_le,and_assoc]
theorem sq {lens:List Nat}:Fl.fL lens<=m↔∀l∈lens,l<=m:=by
 unfold Fl.fL;rw[so];simp
theorem sr:∀{lens:List Nat} {m:Nat},m<=15->(∀l∈lens,l<=15)->(Fl.bF lens 15<=Fl.bF lens m↔∀l∈lens,l<=m)
|[],m,_,_=>by simp[pq]
|l::ls,m,hm,h=>by
  have c:=sr (lens:=ls) hm λx d=>h x (awR _ d);have e:=h l (axR ..);have hle:∀ls:List Nat,Fl.bF ls m<=Fl.bF ls 15:=λls=>ni ls hm;have:=hle ls;rw[nn,nn,auP e];simp only[avB,forall_eq_or_imp,<-c];by_cases a:l=0
  ·simp[a]
  ·rw[auO a,auO a];by_cases b:l<=m
   ·rw[auP b];omega
   ·rw[auO b];omega
theorem pr {lens:List Nat}(hm:m<=15)(h:∀l∈lens,l<=15):Fl.bF lens 15<=Fl.bF lens m↔Fl.fL lens<=m:=by
 rw[sr hm h,sq]
theorem xz {lens:List Nat}(h:∀l∈lens,l<=15):Fl.check lens=if dq lens=32768∨dq lens=0∨(gr lens=1∧Fl.fL lens=1) then 0 else 13:=by
 unfold Fl.check;rw[si h,sj h];have c:Fl.iX lens 15=0↔Fl.bF lens 15=0:=by
  clear h
  induction lens with
 |nil=>simp[se,pq]
 |cons l ls f=>
   rw[sf,nn];by_cases c:l=0
   ·simp[c,f]
   ·rw[auO c,auO c];by_cases d:l<=15
    ·rw[auP d,auP d];have:0 < 2 ^ (15 - l):=aAI _;omega
    ·rw[auO d,auO d];simpa using f
 have g:Fl.bF lens 15=1->(lens.count 1=1↔Fl.fL lens=1):=by
  intro hu;have i:Fl.bF lens 1=lens.count 1:=by simp[Fl.bF]
  have a:=pr (lens:=lens) (m:=1) om h;have b:=pr (lens:=lens) (m:=0) om h;have j:Fl.bF lens 0=0:=rfl;have hm:=ni lens (show 1<=15 by omega);rw[i] at a hm;rw[j] at b;omega
 congr 1
 apply propext;constructor
 ·rintro (k|k|⟨k,e⟩)
  ·exact .inl k
  ·exact .inr (.inl (c.2 k))
  ·exact .inr (.inr ⟨k,(g k).1 e⟩)
 ·rintro (k|k|⟨k,e⟩)
  ·exact .inl k
  ·exact .inr (.inl (c.1 k))
  ·exact .inr (.inr ⟨k,(g k).2 e⟩)
theorem su (lens:List Nat)(l:Nat):∀m,l<=m->∃t,bg lens m=bg lens l++t
|0,h=>by
  obtain rfl:l=0:=om
  exact⟨[],sm⟩
|m+1,h=>by
  rcases awO l (m+1) with a|a
  ·obtain⟨t,b⟩:=su lens l m om;exact⟨t++jn lens (m+1),by rw[bg,b,avO]⟩
  ·have:l=m+1:=om
   subst this;exact⟨[],sm⟩
theorem ya {lens:List Nat}{l k:Nat}(c:l < 15)(a:k < lens.count (l+1)):(bg lens 15).getD (Fl.bF lens l+k) 0=(jn lens (l+1)).getD k 0:=by
 obtain⟨t,b⟩:=su lens (l+1) 15 om;rw[b,bg,avO,auZ,ayL (by rw[ng];omega),ng,aAE,
  axO (by rw[rp];exact a),auZ]
theorem px (n:Nat):∀(lens:List Nat) (i k:Nat),Fl.Hn n i lens k=((List.range' i lens.length).filter λj=>ai (lens.getD (j - i) 0=n)).getD k 0
|[],i,k=>by simp[Fl.Hn]
|l::ls,i,k=>by
  have e:(List.range' (i+1) ls.length).filter (λj=>ai ((l::ls).getD (j - i) 0=n))=(List.range' (i+1) ls.length).filter (λj=>ai (ls.getD (j - (i+1)) 0=n)):=by
   refine List.filter_congr λj a=>?_;have:=(List.mem_range'_1.1 a).1;rw[show j - i=(j - (i+1))+1 by omega,List.getD_cons_succ]
  rw[avR,List.range'_succ,aAX,e,ayY,List.getD_cons_zero];unfold Fl.Hn;by_cases h:l=n
  ·rw[auP h,auP (by simp[h])];cases k with
  |zero=>rfl
  |succ k=>simp only[List.getD_cons_succ];exact px n ls (i+1) k
  ·rw[auO h,auO (by simp[h])];exact px n ls (i+1) k
theorem vj (lens:List Nat)(n k:Nat):Fl.place lens n k=(jn lens n).getD k 0:=by
 unfold Fl.place jn;rw[px,List.range_eq_range'];simp
section
open Eng
def vB(t0 t1 w)(K:KT):=nz f202 1 [] [] [(3,11)] (zg [0,1] [t0,t1]) w K
theorem Cc:vB t0 t1 w k0->Calls ah 202 #[t0,t1] w k0:=cw func202
def lD(t3 t4 t5 w)(a:JT)(K:KT):=nz f206 471 [a] [nh 11 [3,4,5]] [] (zg [3,4,5] [t3,t4,t5]) w K
def lL(t0 t3 t4 t5 w)(a:JT)(K:KT):=nz f206 87 [a] [nh 11 [3,4,5],(12,[3,4],λs v j w f=>lD (vg v 0) (vg v 1) (s 5) w (f 0) K)] [] (zg [0,3,4,5] [t0,t3,t4,t5]) w K
def qS(t0 w)(K:KT):=nz f206 1 [] [(11,[3,4,5],λs v j w f=>lL (s 0) (vg v 0) (vg v 1) (vg v 2) w (f 0) K)] [] (zg [0] [t0]) w K
theorem Aa:qS t0 w k0->Calls ah 206 #[t0] w k0:=cz [(6,[3,4])] [(5,[3,4,5])] func206
def oM(t0 t1 t2 t9 t10 t12 t13 t14 w)(a:JT)(K:KT):=nz f234 351 [a] [nh 21 [2,12,13,14]] [] (zg [0,1,2,9,10,12,13,14] [t0,t1,t2,t9,t10,t12,t13,t14]) w K
def nY(t0 t1 t2 t9 t10 t11 w)(a:JT)(K:KT):=nz f234 87 [a] [nh 9 [10,11],(21,[2,12,13,14],λs v j w f=>oM (s 0) (s 1) (vg v 0) (s 9) (s 10) (vg v 1) (vg v 2) (vg v 3) w (f 0) K)] [] (zg [0,1,2,9,10,11] [t0,t1,t2,t9,t10,t11]) w K
def sM(t0 t1 t2 w)(K:KT):=nz f234 1 [] [(9,[10,11],λs v j w f=>nY (s 0) (s 1) (s 2) (s 9) (vg v 0) (vg v 1) w (f 0) K)] [] (zg [0,1,2] [t0,t1,t2]) w K
theorem Br:sM t0 t1 t2 w k0->Calls ah 234 #[t0,t1,t2] w k0:=cz [] [(4,[10,11]),(10,[2,12,13,14])] func234
def rY(t0 w)(K:KT):=nz f231 1 [] [] [] (zg [0] [t0]) w K
theorem BU:rY t0 w k0->Calls ah 231 #[t0] w k0:=cw func231
def mH(t2 t7 w)(a:JT)(K:KT):=nz f263 117 [a] [nh 5 [2,7]] [] (zg [2,7] [t2,t7]) w K
def lE(t0 t1 t2 t7 w)(a:JT)(K:KT):=nz f263 21 [a] [nh 5 [2,7],(6,[2],λs v j w f=>mH (vg v 0) (s 7) w (f 0) K)] [] (zg [0,1,2,7] [t0,t1,t2,t7]) w K
def pT(t0 t1 t2 w)(K:KT):=nz f263 1 [] [(5,[2,7],λs v j w f=>lE (s 0) (s 1) (vg v 0) (vg v 1) w (f 0) K)] [] (zg [0,1,2] [t0,t1,t2]) w K
theorem yS:pT t0 t1 t2 w k0->Calls ah 263 #[t0,t1,t2] w k0:=cz [(3,[2])] [(2,[2,7])] func263
def oF(t3 t4 w)(a:JT)(K:KT):=nz f233 235 [a] [nh 7 [3,4]] [] (zg [3,4] [t3,t4]) w K
def nT(t0 t3 t4 w)(a:JT)(K:KT):=nz f233 43 [a] [nh 7 [3,4],(8,[3],λs v j w f=>oF (vg v 0) (s 4) w (f 0) K)] [] (zg [0,3,4] [t0,t3,t4]) w K
def sU(t0 w)(K:KT):=nz f233 1 [] [(7,[3,4],λs v j w f=>nT (s 0) (vg v 0) (vg v 1) w (f 0) K)] [] (zg [0] [t0]) w K
theorem Bl:sU t0 w k0->Calls ah 233 #[t0] w k0:=cz [(4,[3])] [(3,[3,4])] func233
def kV(t0 t1 t2 t9 t10 w)(a:JT)(K:KT):=nz f171 43 [a] [nh 7 [9,10]] [] (zg [0,1,2,9,10] [t0,t1,t2,t9,t10]) w K
def oI(t0 t1 t2 w)(K:KT):=nz f171 1 [] [(7,[9,10],λs v j w f=>kV (s 0) (s 1) (s 2) (vg v 0) (vg v 1) w (f 0) K)] [] (zg [0,1,2] [t0,t1,t2]) w K
theorem wN:oI t0 t1 t2 w k0->Calls ah 171 #[t0,t1,t2] w k0:=cz [] [(3,[9,10])] func171
def oO(t0 w)(K:KT):=nz f264 1 [] [] [] (zg [0] [t0]) w K
theorem wU:oO t0 w k0->Calls ah 264 #[t0] w k0:=cw func264
def mN(t0 w)(K:KT):=nz f266 1 [] [] [] (zg [0] [t0]) w K
theorem vU:mN t0 w k0->Calls ah 266 #[t0] w k0:=cw func266
def oE(t0 t1 t6 t7 w)(a:JT)(K:KT):=nz f265 175 [a] [nh 15 [6,7]] [] (zg [0,1,6,7] [t0,t1,t6,t7]) w K
def rG(t0 t1 w)(K:KT):=nz f265 1 [] [(15,[6,7],λs v j w f=>oE (s 0) (s 1) (vg v 0) (vg v 1) w (f 0) K)] [] (zg [0,1] [t0,t1]) w K
theorem BI:rG t0 t1 w k0->Calls ah 265 #[t0,t1] w k0:=cz [] [(7,[6,7])] func265
def qR(t0 t1 t6 t7 w)(a:JT)(K:KT):=nz f267 87 [a] [nh 11 [6,7]] [] (zg [0,1,6,7] [t0,t1,t6,t7]) w K
def uQ(t0 t1 w)(K:KT):=nz f267 1 [] [(11,[6,7],λs v j w f=>qR (s 0) (s 1) (vg v 0) (vg v 1) w (f 0) K)] [] (zg [0,1] [t0,t1]) w K
theorem CE:uQ t0 t1 w k0->Calls ah 267 #[t0,t1] w k0:=cz [] [(5,[6,7])] func267
def mK(t2 t3 t6 w)(a:JT)(K:KT):=nz f204 87 [a] [nh 25 [3,6]] [] (zg [2,3,6] [t2,t3,t6]) w K
def fM(t2 t4 t5 w)(a:JT)(K:KT):=nz f204 1963 [a] [nh 7 [2,4]] [] (zg [2,4,5] [t2,t4,t5]) w K
def lR(t2 t4 t5 w)(a:JT)(K:KT):=nz f204 939 [a] [nh 7 [2,4],(20,[5],λs v j w f=>fM (s 2) (s 4) (vg v 0) w (f 0) K)] [] (zg [2,4,5] [t2,t4,t5]) w K
def lW(t2 t3 t4 w)(a:JT)(K:KT):=nz f204 43 [a] [nh 7 [2,4],(16,[5],λs v j w f=>lR (s 2) (s 4) (vg v 0) w (f 0) K),(25,[3,6],λs v j w f=>mK (s 2) (vg v 0) (vg v 1) w (f 0) K)] [] (zg [2,3,4] [t2,t3,t4]) w K
def pP(w)(K:KT):=nz f204 1 [] [(7,[2,4],λs v j w f=>lW (vg v 0) (s 3) (vg v 1) w (f 0) K)] [] (zg [] []) w K
theorem Am:pP w k0->Calls ah 204 #[] w k0:=cz [(8,[5]),(10,[5])] [(3,[2,4]),(12,[3,6])] func204
def nK(t0 t1 t2 t3 w)(K:KT):=nz f203 1 [] [] [] (zg [0,1,2,3] [t0,t1,t2,t3]) w K
theorem wL:nK t0 t1 t2 t3 w k0->Calls ah 203 #[t0,t1,t2,t3] w k0:=cw func203
def jL(t0 t8 t11 t14 t15 t17 t18 t19 w)(a:JT)(K:KT):=nz f205 22527 [a] [nh 35 [15,19]] [(29,13)] (zg [0,8,11,14,15,17,18,19] [t0,t8,t11,t14,t15,t17,t18,t19]) w K
def lQ(t0 t1 w)(K:KT):=nz f205 1 [] [(35,[15,19],λs v j w f=>jL (s 0) (s 8) (s 11) (s 14) (vg v 0) (s 17) (s 18) (vg v 1) w (f 0) K)] [] (zg [0,1] [t0,t1]) w K
theorem vT:lQ t0 t1 w k0->Calls ah 205 #[t0,t1] w k0:=cz [] [(17,[15,19])] func205
def pQ(t11 t16 t17 t18 t19 t21 w)(a b:JT)(K:KT):=nz f232 720883 [a,b] [nh 5 [1,11],nh 47 [11,21]] [] (zg [11,16,17,18,19,21] [t11,t16,t17,t18,t19,t21]) w K
def gZ(t0 t3 t11 t13 t15 t16 t17 w)(a:JT)(K:KT):=nz f232 16371 [a] [nh 5 [1,11],(47,[11,21],λs v j w f=>pQ (vg v 0) (s 16) (s 17) (s 18) (s 19) (vg v 1) w (f 1) (f 0) K)] [] (zg [0,3,11,13,15,16,17] [t0,t3,t11,t13,t15,t16,t17]) w K
def gU(t0 t3 t11 t12 t13 t15 t16 t17 w)(a:JT)(K:KT):=nz f232 8179 [a] [nh 5 [1,11],(34,[15,16],λs v j w f=>gZ (s 0) (s 3) (s 11) (s 13) (vg v 0) (vg v 1) (s 17) w (f 0) K)] [] (zg [0,3,11,12,13,15,16,17] [t0,t3,t11,t12,t13,t15,t16,t17]) w K
def gV(t0 t3 t11 t12 t13 t15 t16 t17 w)(a:JT)(K:KT):=nz f232 4083 [a] [nh 5 [1,11],(30,[15],λs v j w f=>gU (s 0) (s 3) (s 11) (s 12) (s 13) (vg v 0) (s 16) (s 17) w (f 0) K)] [] (zg [0,3,11,12,13,15,16,17] [t0,t3,t11,t12,t13,t15,t16,t17]) w K
def pS(t0 t1 t2 t3 t11 w)(a:JT)(K:KT):=nz f232 19 [a] [nh 5 [1,11],(26,[17],λs v j w f=>gV (s 0) (s 3) (s 11) (s 12) (s 13) (s 15) (s 16) (vg v 0) w (f 0) K)] [] (zg [0,1,2,3,11] [t0,t1,t2,t3,t11]) w K
def vG(t0 t1 t2 t3 w)(K:KT):=nz f232 1 [] [(5,[1,11],λs v j w f=>pS (s 0) (vg v 0) (s 2) (s 3) (vg v 1) w (f 0) K)] [] (zg [0,1,2,3] [t0,t1,t2,t3]) w K
theorem Dh:vG t0 t1 t2 t3 w k0->Calls ah 232 #[t0,t1,t2,t3] w k0:=cz [(13,[17]),(15,[15]),(17,[15,16])] [(2,[1,11]),(23,[11,21])] func232
def jS(t4 t18 t24 t26 t28 w)(a:JT)(K:KT):=nz f235 90111 [a] [nh 43 [4,28]] [] (zg [4,18,24,26,28] [t4,t18,t24,t26,t28]) w K
def oR(t0 t1 t2 t3 t4 t5 w)(K:KT):=nz f235 1 [] [(43,[4,28],λs v j w f=>jS (vg v 0) (s 18) (s 24) (s 26) (vg v 1) w (f 0) K)] [] (zg [0,1,2,3,4,5] [t0,t1,t2,t3,t4,t5]) w K
theorem wZ:oR t0 t1 t2 t3 t4 t5 w k0->Calls ah 235 #[t0,t1,t2,t3,t4,t5] w k0:=cz [] [(21,[4,28])] func235
def mC(t0 t1 t2 t3 t4 t5 w)(a:JT)(K:KT):=nz f207 5 [a] [nh 3 [1,4]] [] (zg [0,1,2,3,4,5] [t0,t1,t2,t3,t4,t5]) w K
def pR(t0 t1 t2 t3 t4 t5 w)(K:KT):=nz f207 1 [] [(3,[1,4],λs v j w f=>mC (s 0) (vg v 0) (s 2) (s 3) (vg v 1) (s 5) w (f 0) K)] [] (zg [0,1,2,3,4,5] [t0,t1,t2,t3,t4,t5]) w K
theorem zR:pR t0 t1 t2 t3 t4 t5 w k0->Calls ah 207 #[t0,t1,t2,t3,t4,t5] w k0:=cz [] [(1,[1,4])] func207
def fJ(t0 t1 t3 t4 t13 t14 w)(K:KT):=nz f172 63 [] [] [] (zg [0,1,3,4,13,14] [t0,t1,t3,t4,t13,t14]) w K
def qP(t0 t1 t2 t3 t4 w)(K:KT):=nz f172 1 [] [(38,[1,13,14],λs v j w f=>fJ (s 0) (vg v 0) (s 3) (s 4) (vg v 1) (vg v 2) w K)] [] (zg [0,1,2,3,4] [t0,t1,t2,t3,t4]) w K
theorem zZ:qP t0 t1 t2 t3 t4 w k0->Calls ah 172 #[t0,t1,t2,t3,t4] w k0:=cz [(19,[1,13,14])] [] func172
def qW(t0 t1 t7 t8 w)(a:JT)(K:KT):=nz f132 95 [a] [nh 13 [7,8]] [] (zg [0,1,7,8] [t0,t1,t7,t8]) w K
def tY(t0 t1 w)(K:KT):=nz f132 1 [] [(13,[7,8],λs v j w f=>qW (s 0) (s 1) (vg v 0) (vg v 1) w (f 0) K)] [] (zg [0,1] [t0,t1]) w K
theorem B1:tY t0 t1 w k0->Calls ah 132 #[t0,t1] w k0:=cz [] [(6,[7,8])] func132
end
end Go.Proofs.YtkghomgfocpgeaaGreatDoor
