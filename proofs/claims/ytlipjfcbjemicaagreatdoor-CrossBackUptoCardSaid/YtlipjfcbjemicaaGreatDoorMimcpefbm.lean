/- Texts that go together: SBit InfA SInfl InfB SCode InfC InfD IntsA InfE SSlcN InfF InfG InfH InfI InfJ InfK EngAJ InfL InfM Plain16B SRef10 SRef11 IrA InfN InfO EngAB InfP. -/
import Derived.Test.YtlipjfcbjemicaaGreatDoorRows
import Derived.Test.YtlipjfcbjemicaaGreatDoorMffnbibpl
set_option linter.defProp false
set_option linter.unusedSimpArgs false
set_option linter.unusedVariables false
set_option maxRecDepth 20000
open Go.Proofs.Tryz
open Go.Proofs.Tryz renaming prog->ah
open Option renaming some->ax,none->aw
open Bool renaming true->av,false->au
open Go renaming Value->aq,World->ao
open Decidable renaming decide->ai
namespace Go.Proofs.YtlipjfcbjemicaaGreatDoor
variable{A:Nat->Prop}{C:ao->Prop}{K:VWP}{L:List Eng.Ent}{M:Eng.Mem}{P:Program}{PK:PKT}{U:TypeId}{W w w' w0:ao}{a way:Int}{b cap fb i j m most p rb sz tb:Nat}{c v v' v2:aq}{cb:Array Bool}{cl l near:List Nat}{cs news xs:List aq}{q:Bool}{xo yo:Operand}{α:Type}{t0 t1 t2:aq}{k0:Eng.KT}
section
open Eng
def I5(t0 w)(K:KT):=nz f273 1 [] [] [] (zg [0] [t0]) w K
theorem KB:I5 t0 w k0->Calls ah 273 #[t0] w k0:=cw func273
def mX(t0 t1 w)(K:KT):=nz f340 1 [] [] [] (zg [0,1] [t0,t1]) w K
theorem oI:mX t0 t1 w k0->Calls ah 340 #[t0,t1] w k0:=cw func340
def nD(t0 t1 w)(K:KT):=nz f349 1 [] [] [] (zg [0,1] [t0,t1]) w K
theorem pD:nD t0 t1 w k0->Calls ah 349 #[t0,t1] w k0:=cw func349
def pV(t5 w)(K:KT):=nz f355 15 [] [] [] (zg [5] [t5]) w K
def vJ(t0 t1 w)(K:KT):=nz f355 1 [] [(12,[],λs v j w f=>pV (s 5) w K)] [(1,18)] (zg [0,1] [t0,t1]) w K
theorem BW:vJ t0 t1 w k0->Calls ah 355 #[t0,t1] w k0:=cz [(6,[])] [] func355
def oL(t8 w)(K:KT):=nz f346 63 [] [] [] (zg [8] [t8]) w K
def oF(t8 t35 w)(N1:JT)(K:KT):=nz f346 983 [N1] [nh 15 [8,35]] [] (zg [8,35] [t8,t35]) w K
def oK(t0 t1 t2 t8 t34 t35 w)(N1:JT)(K:KT):=nz f346 87 [N1] [nh 15 [8,35],(26,[8],λs v j w f=>oF (vg v 0) (s 35) w (f 0) K),(32,[],λs v j w f=>oL (s 8) w K)] [] (zg [0,1,2,8,34,35] [t0,t1,t2,t8,t34,t35]) w K
def sI(t0 t1 t2 w)(K:KT):=nz f346 1 [] [(15,[8,35],λs v j w f=>oK (s 0) (s 1) (s 2) (vg v 0) (s 34) (vg v 1) w (f 0) K)] [] (zg [0,1,2] [t0,t1,t2]) w K
theorem Ar:sI t0 t1 t2 w k0->Calls ah 346 #[t0,t1,t2] w k0:=cz [(13,[8]),(16,[])] [(7,[8,35])] func346
def vA(t0 t1 w)(K:KT):=nz f332 1 [] [] [] (zg [0,1] [t0,t1]) w K
theorem BE:vA t0 t1 w k0->Calls ah 332 #[t0,t1] w k0:=cw func332
def nN(t0 w)(K:KT):=nz f333 7 [] [] [] (zg [0] [t0]) w K
def qY(t0 w)(K:KT):=nz f333 1 [] [(6,[],λs v j w f=>nN (s 0) w K)] [] (zg [0] [t0]) w K
theorem zR:qY t0 w k0->Calls ah 333 #[t0] w k0:=cz [(3,[])] [] func333
def uP(t0 t1 w)(K:KT):=nz f336 1 [] [] [(3,13),(6,17)] (zg [0,1] [t0,t1]) w K
theorem Bu:uP t0 t1 w k0->Calls ah 336 #[t0,t1] w k0:=cw func336
def yR(t0 w)(K:KT):=nz f275 1 [] [] [] (zg [0] [t0]) w K
theorem DI:yR t0 w k0->Calls ah 275 #[t0] w k0:=cw func275
def rQ(t0 w)(K:KT):=nz f354 1 [] [] [(3,18)] (zg [0] [t0]) w K
theorem Ay:rQ t0 w k0->Calls ah 354 #[t0] w k0:=cw func354
end
section
open Eng Go.RowKit
theorem Xs:∀n:Fin 256,bAnd .i64 (n.val:Int) 1=((n.val % 2:Nat):Int):=by decide +kernel
theorem and1 {n:Nat}(h:n < 256):bAnd .i64 (n:Int) 1=((n % 2:Nat):Int):=Xs ⟨n,h⟩
theorem aaW {v:Nat}(a:v < 2 ^ i)(f:b < 2)(hi:i<=30):bOr .i64 (v:Int) ((b*2 ^ i:Nat):Int)=((v+b*2 ^ i:Nat):Int):=by
 have hp:2 ^ i<=2 ^ 30:=aoH dc hi;have c:(2:Nat) ^ 30=1073741824:=dc
 have d:b*2 ^ i<=2 ^ 30:=by
  have:b*2 ^ i<=1*2 ^ i:=anY _ om;omega
 have e:v ||| b*2 ^ i=v+b*2 ^ i:=by
  have:=atO a b;rw[Nat.or_comm,aoY b,<-this,arX]
 unfold bOr;show IntKind.wrap .i64 (((BitVec.ofInt 64 (v:Int) ||| BitVec.ofInt 64 ((b*2 ^ i:Nat):Int)).toNat:Nat):Int)=_;rw[BitVec.ofInt_natCast,BitVec.ofInt_natCast,BitVec.toNat_or,BitVec.toNat_ofNat,BitVec.toNat_ofNat,anZ om,anZ om,e];exact aA om om
theorem RS (a n:Nat):((a:Nat):Int).fdiv (2 ^ n)=((a / 2 ^ n:Nat):Int):=by
 rw[atN _ (by exact Int.pow_nonneg dc)]
 push_cast
 rfl
def bqC (s:List UInt8)(way:Int)(p:Nat):List Value:=[.int .i64 way,.int .i64 ((p % 8:Nat):Int),.string ⟨s.toArray⟩,.int .i64 ((p / 8:Nat):Int)]
def bqE (b:Nat)(s:List UInt8)(way:Int)(p:Nat):Ent:=.cells b (bqC s way p) 317
theorem TK:fOff ah 317 0=ax 0:=krx
theorem P1:fOff ah 317 1=ax 2:=krx
theorem JI:fOff ah 317 2=ax 3:=krx
theorem adH:fOff ah 315 0=ax 0:=krx
theorem YH:fOff ah 315 1=ax 1:=krx
theorem szSd:(Tryz.prog.info? 315).map (·.size)=ax 2:=krx
theorem aaH:eD ah 9=true:=krx
section
variable {w:ao}{PK:PKT}{K:VWP}{S:Nat->Prop}{w0:ao}{L:List Ent}
theorem Bc {off:Nat}:DoX ah (mFA 317 (.pointer (ax ⟨b,off,aw⟩)) 0) w PK K=K (.pointer (ax ⟨b,off,aw⟩)) w:=aO TK
theorem EG {off:Nat}:DoX ah (mFA 317 (.pointer (ax ⟨b,off,aw⟩)) 2) w PK K=K (.pointer (ax ⟨b,off+3,aw⟩)) w:=aO JI
theorem JK {off:Nat}:DoX ah (mFA 315 (.pointer (ax ⟨b,off,aw⟩)) 0) w PK K=K (.pointer (ax ⟨b,off,aw⟩)) w:=aO adH
theorem sX {off:Nat}:DoX ah (mFA 315 (.pointer (ax ⟨b,off,aw⟩)) 1) w PK K=K (.pointer (ax ⟨b,off+1,aw⟩)) w:=aO YH
theorem Ov (a:OwnS S w0 w L)(j:Nat){s:List UInt8}(hi:L[j]?=ax (bqE b s way p)):DoX ah (aH 3 (.pointer (ax ⟨b,0+1,aw⟩))) w PK K=K (.int .i64 ((p % 8:Nat):Int)) w:=aJ aU (a.cell j hi 1 rfl)
theorem acT (a:OwnS S w0 w L)(j:Nat){s:List UInt8}(hi:L[j]?=ax (bqE b s way p)):DoX ah (aH 3 (.pointer (ax ⟨b,0+3,aw⟩))) w PK K=K (.int .i64 ((p / 8:Nat):Int)) w:=aJ aU (a.cell j hi 3 rfl)
end
section
variable {W:ao}{b:Nat}{s:List UInt8}{way:Int}{p:Nat}
theorem En (h:(bqE b s way p).is W):(aH 3 (.pointer (ax ⟨b,0+1,aw⟩))).run ah W=.ok (.value (.int .i64 ((p % 8:Nat):Int))) W:=aB aU (aI (T:=317) (cs:=bqC s way p) h rfl)
theorem Kd (h:(bqE b s way p).is W):(aH 9 (.pointer (ax ⟨b,0+2,aw⟩))).run ah W=.ok (.value (.string ⟨s.toArray⟩)) W:=aB aaH (aI (T:=317) (cs:=bqC s way p) h rfl)
theorem tM (h:(bqE b s way p).is W):(aH 3 (.pointer (ax ⟨b,0+3,aw⟩))).run ah W=.ok (.value (.int .i64 ((p / 8:Nat):Int))) W:=aB aU (aI (T:=317) (cs:=bqC s way p) h rfl)
theorem RG (h:(bqE b s way p).is W):Ret ah 349 #[.pointer (ax ⟨b,0,aw⟩),.int .i64 1] W (λv w'=>v=.int .i64 ((p % 8:Nat):Int)∧Below W.heap.size W w'):=by
 refine aZ λK a=>pD ?_;unfold nD nz;simp only[rs,amD,bG];rw[sX];refine aD (En h) |>.mpr ?_;exact a _ _ ⟨rfl,(Own.start W).done⟩
theorem QZ (h:(bqE b s way p).is W)(hw:way=0∨way=1):Ret ah 340 #[.pointer (ax ⟨b,0,aw⟩),.int .i64 1] W (λv w'=>v=.bool au∧Below W.heap.size W w'):=by
 refine aZ λK a=>oI ?_;unfold mX nz;have r:=aB (P:=ah) (T:=3) aU (aI (T:=317) (cs:=bqC s way p) h (i:=0) rfl);rw[bG,JK];refine aD r |>.mpr ?_;rcases hw with rfl|rfl
 ·simp only[rs,ne_eq,not_true,amF,g_un];exact a _ _ ⟨rfl,(Own.start W).done⟩
 ·simp only[rs,show ai ((1:Int)≠0)=av by decide,bG];rw[JK];refine aD r |>.mpr ?_;simp only[rs,ne_eq,not_true,amF];exact a _ _ ⟨rfl,(Own.start W).done⟩
end
def rqE (b:Nat)(s:List UInt8)(way u a:Int):Ent:=.cells b [.int .i64 way,.int .i64 u,.string ⟨s.toArray⟩,.int .i64 a] 317
section
variable {w:ao}{PK:PKT}{K:VWP}{S:Nat->Prop}{w0:ao}{L:List Ent}
theorem ZX (c:OwnS S w0 w L)(j:Nat){s:List UInt8}{u:Int}(hi:L[j]?=ax (rqE b s way u a)):DoX ah (aH 3 (.pointer (ax ⟨b,0+1,aw⟩))) w PK K=K (.int .i64 u) w:=aJ aU (c.cell j hi 1 rfl)
theorem ahY (c:OwnS S w0 w L)(j:Nat){s:List UInt8}{u:Int}(hi:L[j]?=ax (rqE b s way u a)):DoX ah (aH 3 (.pointer (ax ⟨b,0+3,aw⟩))) w PK K=K (.int .i64 a) w:=aJ aU (c.cell j hi 3 rfl)
theorem Tb (j:Nat){s:List UInt8}{u c:Int}(d:OwnS S w0 w L)(hi:L[j]?=ax (rqE b s way u a))(k:∀w',OwnS S w0 w' (L.set j (rqE b s way c a))->K undef w'):DoX ah (aN 3 (.pointer (ax ⟨b,0+1,aw⟩)) (.int .i64 c)) w PK K:=aK j d hi krx rfl (by show 0+1 < 4;omega) k
theorem OP (j:Nat){s:List UInt8}{u a':Int}(c:OwnS S w0 w L)(hi:L[j]?=ax (rqE b s way u a))(k:∀w',OwnS S w0 w' (L.set j (rqE b s way u a'))->K undef w'):DoX ah (aN 3 (.pointer (ax ⟨b,0+3,aw⟩)) (.int .i64 a')) w PK K:=aK j c hi krx rfl (by show 0+3 < 4;omega) k
theorem Zb (j:Nat){s:List UInt8}{u way':Int}(c:OwnS S w0 w L)(hi:L[j]?=ax (rqE b s way u a))(k:∀w',OwnS S w0 w' (L.set j (rqE b s way' u a))->K undef w'):DoX ah (aN 3 (.pointer (ax ⟨b,0,aw⟩)) (.int .i64 way')) w PK K:=aK j c hi krx rfl (by show 0 < 4;omega) k
theorem ajR {s:List UInt8}(j:Nat)(a:OwnS S w0 w L)(c:L[j]?=ax (bqE b s way p))(hp:p < 8*s.length)(t:s.length<=1000000000)
  (k:∀W,OwnS S w0 W (L.set j (bqE b s way (p+1)))->K (.int .i64 (Fl.bit s p)) W):CallX ah 355 #[.pointer (ax ⟨b,0,aw⟩),.int .i64 1] w PK K:=by
 have d:j < L.length:=(amS.1 c).1;refine fH (BW (k0:=RetK λv W=>v=.int .i64 (Fl.bit s p)∧OwnS S w0 W (L.set j (bqE b s way (p+1)))) ?_) (λe W ⟨v,he,m,a⟩=>by subst he;subst m;exact k W a);unfold vJ nz;have hi:p / 8 < s.length:=om
 refine dW (λW=>OwnS S w0 W L) a.drew ?_;refine q_do _ (λ_=>dK) (q_do _ (λ_=>bE P1) (q_at _ (λW h=>Kd (h.at_ j c)) ?_));refine q_do _ (λ_=>dK) (q_do _ (λ_=>bE JI) (q_at _ (λW h=>tM (h.at_ j c)) ?_));refine q_ix amP om (by rw[amK,amN hi]) ?_;refine q_do _ (λ_=>eC krx anT) ?_;have u:=(s[p / 8]).toNat_lt;rw[aA om om];refine q_do _ (λ_=>dK) (q_do _ (λ_=>bE TK) ?_);refine mG (.int .i64 ((p % 8:Nat):Int)) (λW h=>(RG (h.at_ j c)).mono λv w' r=>⟨r.1,h.grow r.2⟩) ?_;refine q_do _ (λ_=>aaR om) ?_;rw[show min ((p % 8:Nat):Int).toNat IntKind.i64.bits=p % 8 by show min ((p % 8:Nat):Int).toNat 64=p % 8;omega,RS];refine q_do _ (λ_=>aaL) ?_;have n:s[p / 8].toNat / 2 ^ (p % 8)<=s[p / 8].toNat:=arH _ _;rw[and1 om];have f:s[p / 8].toNat / 2 ^ (p % 8) % 2=Fl.bit s p:=by
  unfold Fl.bit;rw[amI,amN hi];rfl
 rw[f];intro w2 a;refine join λJ o=>?_;have fin:∀W,OwnS S w0 W (L.set j (bqE b s way (p+1)))->J [] W:=by
  intro W a;refine o _ _ λ_=>?_;unfold pV nz;exact retK ⟨rfl,a⟩
 rw[bG,Bc,sX,Ov a j c];simp only[rs,bG];rw[Bc,sX,aA om om];refine Tb j a c λw3 a=>?_;have g:(L.set j (rqE b s way (((p % 8:Nat):Int)+1) ((p / 8:Nat):Int)))[j]?=ax (rqE b s way (((p % 8:Nat):Int)+1) ((p / 8:Nat):Int)):=by rw[apN d]
 rw[Bc,sX,ZX a j g];simp only[rs,bG];by_cases l:((p % 8:Nat):Int)+1=8
 ·simp only[l,amD,i_t,rs,bG];rw[Bc,sX];refine Tb j a g λx a=>?_;rw[arI] at a;have i:(L.set j (rqE b s way 0 ((p / 8:Nat):Int)))[j]?=ax (rqE b s way 0 ((p / 8:Nat):Int)):=by rw[apN d]
  rw[EG,ahY a j i];simp only[rs,bG];rw[EG,aA om om];refine OP j a i λq a=>?_;rw[arI] at a;refine fin q ?_;have e:rqE b s way 0 (((p / 8:Nat):Int)+1)=bqE b s way (p+1):=by
   unfold rqE bqE bqC;rw[show (p+1) % 8=0 by omega,show (p+1) / 8=p / 8+1 by omega];rfl
  rw[<-e];exact a
 ·simp only[l,amF,i_f];refine fin w3 ?_;have e:rqE b s way (((p % 8:Nat):Int)+1) ((p / 8:Nat):Int)=bqE b s way (p+1):=by
   unfold rqE bqE bqC;rw[show (p+1) % 8=p % 8+1 by omega,show (p+1) / 8=p / 8 by omega];rfl
  rw[<-e];exact a
theorem Eg :DoX ah (mEq .eql 275 xo yo (.pointer (ax ⟨b,0,aw⟩)) (.pointer aw)) w PK K=K (.bool au) w:=aD krx
theorem Vj {s:List UInt8}(h:(bqE b s way p).is W)(hp:p<=8*s.length)(d:s.length<=1000000000):Ret ah 354 #[.pointer (ax ⟨b,0,aw⟩)] W (λv w'=>v=.int .i64 ((8*s.length - p:Nat):Int)∧Below W.heap.size W w'):=by
 refine aZ λK a=>Ay ?_;unfold rQ nz;rw[Eg,i_f];have c:OwnS (bqE b s way p).blk W W [bqE b s way p]:=OwnS.lend h;refine dW (λw'=>(bqE b s way p).is w'∧Below W.heap.size W w') ⟨?_,?_⟩ ?_
 ·exact c.drew.at_ 0 rfl
 ·exact (Own.start W).drew.done
 refine q_do _ (λ_=>dK) (q_do _ (λ_=>bE P1) (q_at _ (λW h=>Kd h.1) (Yc amP ?_)));refine q_do _ (λ_=>dK) (q_do _ (λ_=>bE JI) (q_at _ (λW h=>tM h.1) (q_do _ (λ_=>sR) ?_)));rw[aA om om];refine q_do _ (λ_=>afX) ?_;rw[aA om om];refine q_do _ (λ_=>dK) (q_do _ (λ_=>bE TK) (q_do _ (λ_=>bE YH) (q_at _ (λW h=>En h.1) (q_do _ (λ_=>sR) ?_))));rw[aA om om];intro w' hw;refine a _ _ ⟨?_,hw.2⟩
 congr 1
 omega
theorem uH {L:List α}{e:α}(h:L[j]?=ax e):L.set j e=L:=by
 refine List.ext_getElem? λi=>?_;by_cases hi:i=j
 ·subst hi;rw[apN (amS.1 h).1,h]
 ·rw[arJ (Ne.symm hi)]
theorem ahE {s:List UInt8}{n:Nat}(j:Nat)(a:OwnS S w0 w L)(g:L[j]?=ax (bqE b s way p))(hw:way=0∨way=1)(hp:p<=8*s.length)(D:n<=24)(q:s.length<=1000000000)
  (u:p+n<=8*s.length->∀W,OwnS S w0 W (L.set j (bqE b s (if 0 < n then 1 else way) (p+n)))->K (.tuple #[.int .i64 (Fl.num s p n),.int .i64 0]) W)
  (x:8*s.length < p+n->∀W,OwnS S w0 W L->K (.tuple #[.int .i64 0,.int .i64 4]) W):CallX ah 346 #[.pointer (ax ⟨b,0,aw⟩),.int .i64 (n:Int),.int .i64 1] w PK K:=by
 have h:j < L.length:=(amS.1 g).1;refine fH (Ar (k0:=RetK λv W=>(p+n<=8*s.length∧v=.tuple #[.int .i64 (Fl.num s p n),.int .i64 0]∧OwnS S w0 W (L.set j (bqE b s (if 0 < n then 1 else way) (p+n))))∨(8*s.length < p+n∧v=.tuple #[.int .i64 0,.int .i64 4]∧OwnS S w0 W L)) ?_) (λe W ⟨v,he,k⟩=>by
  subst he;rcases k with ⟨l,rfl,a⟩|⟨l,rfl,a⟩
  ·exact u l W a
  ·exact x l W a)
 unfold sI nz;rw[Eg];simp only[rs,show ai ((n:Int) < 0)=au from amE om,show ai ((24:Int) < (n:Int))=au from amE om,bG];rw[Bc];refine aL a (R:=λv=>v=.bool au) (QZ (a.at_ j g) hw) ?_;rintro _ w2 rfl a;simp only[rs];refine aL a (R:=λv=>v=.int .i64 ((8*s.length - p:Nat):Int)) (Vj (a.at_ j g) hp q) ?_;rintro _ w3 rfl a;simp only[rs];by_cases c:((8*s.length - p:Nat):Int) < (n:Int)
 ·simp only[c,amD,i_t];exact retK (.inr ⟨om,rfl,a⟩)
 simp only[c,amF,i_f];refine loop (λvs W=>∃i:Nat,vs=[.int .i64 (Fl.num s p i),.int .i64 i]∧i<=n∧OwnS S w0 W (L.set j (bqE b s way (p+i)))) (λvs _=>n - n1 vs) ⟨0,rfl,om,by rw[aoC,uH g];exact a⟩ ?_;clear a;rintro vs y ⟨i,rfl,hi,a⟩ _;simp only[oK,gd,rs,nz];have d:(L.set j (bqE b s way (p+i)))[j]?=ax (bqE b s way (p+i)):=by rw[apN h]
 by_cases f:(i:Int) < (n:Int)
 ·simp only[f,amD,i_t];refine join λJ m=>?_;refine ajR j a d om q λr a=>?_;rw[arI] at a
  try simp only[rs,amD]
  rw[FV om];have z:=Fl.VF s (p+i);have k:=Fl.xV s p i;have A:2 ^ i<=2 ^ 24:=aoH dc om;have B:(2:Nat) ^ 24=16777216:=dc
  have C:Fl.bit s (p+i)*2 ^ i<=2 ^ 24:=by
   have:Fl.bit s (p+i)*2 ^ i<=1*2 ^ i:=anY _ om;omega
  rw[show min ((i:Nat):Int).toNat IntKind.i64.bits=i by show min ((i:Nat):Int).toNat 64=i;omega];rw[show ((Fl.bit s (p+i):Nat):Int)*2 ^ i=((Fl.bit s (p+i)*2 ^ i:Nat):Int) by push_cast;rfl];rw[aA om om,b_or,aaW k z om];refine m _ _ λ_=>?_;simp only[oF,gd,rs,nz];rw[aA om om];exact aY ⟨i+1,by rw[Fl.num];rfl,om,a⟩ (by simp[n1,RowKit.intOf];omega)
 ·simp only[f,amF,i_f];have o:i=n:=om
  subst o;refine join λJ m=>?_;have fin:∀W,OwnS S w0 W (L.set j (bqE b s (if 0 < i then 1 else way) (p+i)))->J [] W:=by
   intro W a;refine m _ _ λ_=>?_;simp only[oL,nz];exact retK (.inl ⟨om,rfl,a⟩)
  by_cases t:0 < i
  ·rw[amB t] at fin;simp only[show ai ((0:Int) < (i:Int))=av from amG om,rs,bG];rw[Bc,JK];refine Zb (way':=1) j a d λr a=>?_;rw[arI] at a;exact fin r a
  ·rw[amA t] at fin;simp only[show ai ((0:Int) < (i:Int))=au from amE om,rs];exact fin y a
theorem abZ {s:List UInt8}{n:Nat}(j:Nat)(a:OwnS S w0 w L)(d:L[j]?=ax (bqE b s way p))(hw:way=0∨way=1)(hp:p<=8*s.length)(f:n<=24)(g:s.length<=1000000000)
  (h:p+n<=8*s.length->∀W,OwnS S w0 W (L.set j (bqE b s (if 0 < n then 1 else way) (p+n)))->K (.tuple #[.int .i64 (Fl.num s p n),.int .i64 0]) W)
  (i:8*s.length < p+n->∀W,OwnS S w0 W L->K (.tuple #[.int .i64 0,.int .i64 4]) W):CallX ah 332 #[.pointer (ax ⟨b,0,aw⟩),.int .i64 (n:Int)] w PK K:=by
 refine fH (BE (k0:=RetK λv W=>(p+n<=8*s.length∧v=.tuple #[.int .i64 (Fl.num s p n),.int .i64 0]∧OwnS S w0 W (L.set j (bqE b s (if 0 < n then 1 else way) (p+n))))∨(8*s.length < p+n∧v=.tuple #[.int .i64 0,.int .i64 4]∧OwnS S w0 W L)) ?_) (λe W ⟨v,he,k⟩=>by
  subst he;rcases k with ⟨c,rfl,a⟩|⟨c,rfl,a⟩
  ·exact h c W a
  ·exact i c W a)
 unfold vA nz;refine ahE j a d hw hp f g (λc W a=>?_) (λc W a=>?_)
 ·simp only[ex];exact retK (.inl ⟨c,rfl,a⟩)
 ·simp only[ex];exact retK (.inr ⟨c,rfl,a⟩)
end
end
section
open Eng
def rD(t0 t1 w)(K:KT):=nz f272 1 [] [] [] (zg [0,1] [t0,t1]) w K
theorem sE:rD t0 t1 w k0->Calls ah 272 #[t0,t1] w k0:=cw func272
def qV(t0 t1 w)(K:KT):=nz f331 1 [] [] [] (zg [0,1] [t0,t1]) w K
theorem zJ:qV t0 t1 w k0->Calls ah 331 #[t0,t1] w k0:=cw func331
def mO(t0 t1 w)(K:KT):=nz f335 1 [] [] [] (zg [0,1] [t0,t1]) w K
theorem tF:mO t0 t1 w k0->Calls ah 335 #[t0,t1] w k0:=cw func335
def eQ(t0 t1 w)(K:KT):=nz f338 1 [] [] [] (zg [0,1] [t0,t1]) w K
theorem iJ:eQ t0 t1 w k0->Calls ah 338 #[t0,t1] w k0:=cw func338
def nJ(t0 t1 w)(K:KT):=nz f305 1 [] [] [] (zg [0,1] [t0,t1]) w K
theorem uL:nJ t0 t1 w k0->Calls ah 305 #[t0,t1] w k0:=cw func305
def nM(t0 t1 w)(K:KT):=nz f334 1 [] [] [(0,12)] (zg [0,1] [t0,t1]) w K
theorem tS:nM t0 t1 w k0->Calls ah 334 #[t0,t1] w k0:=cw func334
def kV(a w)(K:KT):=
 nlx a w K λd w=>fax 278 d 0 w K λe w=>ldx 275 e w K λf w=>cx 333 #[f] w K λv w=>cx 305 #[a,(iN 16)] w K λb w=>cx 305 #[a,(iN 16)] w K λg w=>bnx .sub 3 (iN 65535) b w K λh w=>eqx .eql 3 (.tmp 11) (.tmp 13) g h w K λi w=>cx 272 #[i,(iN 3)] w K λx w=>cx 334 #[a,b] w K λy w=>HeldX w (λS1 w=>HDo ah (λ_=>True) (mNil a) λj=>HDo ah (λ_=>True) (mFA 278 j 1) λk=>HDo ah S1 (aH 53 k) λl=>HDo ah (λ_=>True) (mNil a) λm=>HDo ah (λ_=>True) (mFA 278 m 0) λn=>HDo ah S1 (aH 275 n) λo=>CallX ah 336 #[o,b] w (ay 14 (pk K)) λc w=>S1 w∧(HDo ah (λ_=>True) (mExt c 0) λp=>HDo ah (λ_=>True) (mExt c 1) λq=>CallX ah 335 #[p,q] w (ay 14 (pk K)) λr w=>S1 w∧(DoX ah (mB .append #[53,9] 53 #[au,au] #[l,r]) w (ay 14 (pk K)) λs w=>S1 w∧(HDo ah (λ_=>True) (mNil a) λt=>HDo ah (λ_=>True) (mFA 278 t 1) λu=>DoX ah (aN 53 u s) w (ay 14 (pk K)) λ_ w=>(K (.returned (.tuple #[])) w)))))
theorem rA:kV t0 w k0->Calls ah 306 #[t0] w k0:=cw func306
def lZ(t0 w)(K:KT):=nz f307 1 [] [] [] (zg [0] [t0]) w K
theorem sZ:lZ t0 w k0->Calls ah 307 #[t0] w k0:=cw func307
def iI(a b i e j k c w)(N1:JT)(K:KT):=
 bnx .lss 3 c k w K λl w=>IfX l (iax 123 j c w K λm w=>ldx 3 m w K λn w=>cx 305 #[a,(iN 3)] w K λo w=>iax 308 e n w K λp w=>stx 3 p o w K λ_ w=>bnx .add 3 c (iN 1) w K λq w=>N1 [q] w) (slx 308 e aw aw aw w K λr w=>cx 295 #[r] w K λf w=>exx f 0 w K λs w=>exx f 1 w K λt w=>cx 338 #[s,t] w K λu w=>bnx .add 3 b i w K λv w=>cx 339 #[a,u,v] w K λd w=>iax 123 d (iN 256) w K λx w=>ldx 3 x w K λy w=>bnx .gtr 3 y (iN 0) w K λz w=>cx 272 #[z,(iN 13)] w K λL w=>HeldX w (λS2 w=>HDo ah S2 (eI 123 d aw (ax b) aw) λA=>HDo ah S2 (eI 123 d (ax b) aw aw) λB=>CallX ah 295 #[A] w (ay 11 (pk K)) λg w=>S2 w∧(HDo ah S2 (mExt g 0) λC=>HDo ah S2 (mExt g 1) λD=>CallX ah 338 #[C,D] w (ay 11 (pk K)) λF w=>S2 w∧(CallX ah 295 #[B] w (ay 11 (pk K)) λh w=>S2 w∧(HDo ah S2 (mExt h 0) λG=>HDo ah S2 (mExt h 1) λH=>CallX ah 338 #[G,H] w (ay 11 (pk K)) λI w=>S2 w∧(CallX ah 337 #[a,F,I] w (ay 11 (pk K)) λM w=>S2 w∧(K (.returned (.tuple #[])) w)))))))
def jY(t0 w)(K:KT):=nz f308 1 [] [(13,[25],λs v j w f=>iI (s 0) (s 2) (s 3) (s 4) (s 23) (s 24) (vg v 0) w (f 0) K)] [] (zg [0] [t0]) w K
theorem pN:jY t0 w k0->Calls ah 308 #[t0] w k0:=cz [] [(6,[25])] func308
def iP(d e a b f w)(N1:JT)(K:KT):=
 HeldX w (λS3 w=>HDo ah S3 (mFA 363 b 0) λg=>HDo ah S3 (aH 3 g) λh=>HDo ah S3 (mFA 363 b 1) λi=>HDo ah S3 (aH 3 i) λj=>CallX ah 305 #[d,j] w (ay 7 (pk K)) λk w=>S3 w∧(HDo ah S3 (mBin .add 3 h k) λc=>lnx 123 a w K λl w=>bnx .add 3 l c w K λm w=>bnx .leq 3 m e w K λn w=>cx 272 #[n,(iN 3)] w K λr w=>dx (bN 123 1 #[(0,f)]) w K λo w=>cx 320 #[o,c] w K λp w=>apx 123 a p w K λq w=>N1 [q] w))
def iO(t0 t1 t2 t7 w)(N1:JT)(K:KT):=nz f339 19 [N1] [nh 5 [7],(22,[11],λs v j w f=>iP (s 0) (s 2) (s 7) (s 9) (vg v 0) w (f 0) K)] [] (zg [0,1,2,7] [t0,t1,t2,t7]) w K
def jR(t0 t1 t2 w)(K:KT):=nz f339 1 [] [(5,[7],λs v j w f=>iO (s 0) (s 1) (s 2) (vg v 0) w (f 0) K)] [] (zg [0,1,2] [t0,t1,t2]) w K
theorem pQ:jR t0 t1 t2 w k0->Calls ah 339 #[t0,t1,t2] w k0:=cz [(11,[11])] [(2,[7])] func339
def jL(t0 t1 t2 w)(N1:JT)(K:KT):=nz f337 2 [N1] [nh 1 []] [] (zg [0,1,2] [t0,t1,t2]) w K
def mD(t0 t1 t2 w)(K:KT):=nz f337 1 [] [(1,[],λs v j w f=>jL (s 0) (s 1) (s 2) w (f 0) K)] [] (zg [0,1,2] [t0,t1,t2]) w K
theorem sP:mD t0 t1 t2 w k0->Calls ah 337 #[t0,t1,t2] w k0:=cz [] [(0,[])] func337
def iZ(a c d b w)(N1:JT)(K:KT):=
 bnx .lss 3 b d w K λe w=>IfX e (HeldX w (λS2 w=>HDo ah (λ_=>True) (mNil a) λf=>HDo ah (λ_=>True) (mFA 278 f 1) λg=>HDo ah S2 (aH 53 g) λh=>HDo ah (λ_=>True) (mNil a) λi=>HDo ah (λ_=>True) (mFA 278 i 1) λj=>HDo ah S2 (aH 53 j) λk=>HDo ah (λ_=>True) (mNil a) λl=>HDo ah (λ_=>True) (mFA 278 l 1) λm=>HDo ah S2 (aH 53 m) λn=>HDo ah (λ_=>True) (mB .len #[53] 3 #[au] #[n]) λo=>HDo ah (λ_=>True) (mBin .sub 3 o c) λp=>HDo ah (λ_=>True) (mIA 53 k p) λq=>HDo ah S2 (aH 5 q) λr=>DoX ah (bN 53 1 #[(0,r)]) w (ay 20 (pk K)) λs w=>S2 w∧(DoX ah (mB .append #[53,53] 53 #[au,au] #[h,s]) w (ay 20 (pk K)) λt w=>S2 w∧(HDo ah (λ_=>True) (mNil a) λu=>HDo ah (λ_=>True) (mFA 278 u 1) λv=>DoX ah (aN 53 v t) w (ay 20 (pk K)) λ_ w=>(bnx .add 3 b (iN 1) w K λx w=>N1 [x] w))))) (K (.returned (.tuple #[])) w)
def kU(t0 t1 t2 w)(K:KT):=nz f348 1 [] [(17,[57],λs v j w f=>iZ (s 0) (s 8) (s 56) (vg v 0) w (f 0) K)] [] (zg [0,1,2] [t0,t1,t2]) w K
theorem rL:kU t0 t1 t2 w k0->Calls ah 348 #[t0,t1,t2] w k0:=cz [] [(8,[57])] func348
def jM(t3 w)(K:KT):=nz f274 15 [] [] [] (zg [3] [t3]) w K
def mL(t0 w)(K:KT):=nz f274 1 [] [(20,[],λs v j w f=>jM (s 3) w K)] [] (zg [0] [t0]) w K
theorem sN:mL t0 w k0->Calls ah 274 #[t0] w k0:=cz [(10,[])] [] func274
def AA(t0 t1 w)(K:KT):=nz f356 1 [] [] [] (zg [0,1] [t0,t1]) w K
theorem DT:AA t0 t1 w k0->Calls ah 356 #[t0,t1] w k0:=cw func356
def AK(t0 w)(K:KT):=nz f357 1 [] [] [] (zg [0] [t0]) w K
theorem D6:AK t0 w k0->Calls ah 357 #[t0] w k0:=cw func357
def DD(t0 t1 w)(K:KT):=nz f358 1 [] [] [] (zg [0,1] [t0,t1]) w K
theorem Fp:DD t0 t1 w k0->Calls ah 358 #[t0,t1] w k0:=cw func358
def Cv(t0 w)(K:KT):=nz f359 1 [] [] [] (zg [0] [t0]) w K
theorem FZ:Cv t0 w k0->Calls ah 359 #[t0] w k0:=cw func359
def qP(t0 t1 t2 t6 t8 t9 w)(N1:JT)(K:KT):=nz f364 21 [N1] [nh 5 [1,9]] [] (zg [0,1,2,6,8,9] [t0,t1,t2,t6,t8,t9]) w K
def vD(t0 t1 t2 w)(K:KT):=nz f364 1 [] [(5,[1,9],λs v j w f=>qP (s 0) (vg v 0) (s 2) (s 6) (s 8) (vg v 1) w (f 0) K)] [] (zg [0,1,2] [t0,t1,t2]) w K
theorem BK:vD t0 t1 t2 w k0->Calls ah 364 #[t0,t1,t2] w k0:=cz [] [(2,[1,9])] func364
def oM(t0 t1 w)(K:KT):=nz f363 1 [] [] [] (zg [0,1] [t0,t1]) w K
theorem wG:oM t0 t1 w k0->Calls ah 363 #[t0,t1] w k0:=cw func363
def rM(t0 t8 t9 w)(N1:JT)(K:KT):=nz f294 21 [N1] [nh 5 [0,9]] [] (zg [0,8,9] [t0,t8,t9]) w K
def yK(w)(K:KT):=nz f294 1 [] [(5,[0,9],λs v j w f=>rM (vg v 0) (s 8) (vg v 1) w (f 0) K)] [] (zg [] []) w K
theorem CJ:yK w k0->Calls ah 294 #[] w k0:=cz [] [(2,[0,9])] func294
end
section
open Eng Go.RowKit
theorem nfI:lL ah 273=true:=krx
def upI (e:Int):PanicEntry:={ v:=.iface 273 (.agg #[.int .i64 e]),recovered:=au }
theorem Zr (e:Int)(w:ao):Ret ah 272 #[.bool av,.int .i64 e] w (λv w'=>v=.tuple #[]∧w=w'):=by
 refine aZ λK a=>sE ?_;unfold rD nz;simp only[rs,aoB,i_f];exact a _ _ ⟨rfl,rfl⟩
theorem ZS (e:Int)(w:ao):Pan ah 272 #[.bool au,.int .i64 e] w (λc w'=>c=[upI e]∧w=w'):=by
 refine UQ λK a=>sE ?_;unfold rD nz;simp only[rs,aoD,i_t];have b:∀{PK:PKT} {K:VWP},DoX ah (aS 273 #[(0,.int .i64 e)]) w PK K=K (.agg #[.int .i64 e]) w:=aD krx;rw[b,Ky nfI,HZ];exact a _ _ ⟨rfl,rfl⟩
section
variable {w:ao}{PK:PKT}{K:VWP}{S:Nat->Prop}{w0:ao}{L:List Ent}
theorem iU {e:Int}(a:q=av->K (.tuple #[]) w)(b:q=au->PK [upI e] w):CallX ah 272 #[.bool q,.int .i64 e] w PK K:=by
 cases q with
|true=>exact c_eq (Zr e w) (a rfl)
|false=>exact Y9 (ZS e w) λc w' ⟨d,hw⟩=>by subst d;subst hw;exact b rfl
theorem tO {n e:Int}(a:e=0->K (.int .i64 n) w)(b:e≠0->PK [upI e] w):CallX ah 331 #[.int .i64 n,.int .i64 e] w PK K:=by
 refine⟨zJ ?_⟩;unfold qV nz;simp only[rs];exact iU (λh=>a (amU h)) λh=>b (anO h)
theorem Qk {s:List UInt8}{e:Int}(a:e=0->K (.string ⟨s.toArray⟩) w)(b:e≠0->PK [upI e] w):CallX ah 335 #[.string ⟨s.toArray⟩,.int .i64 e] w PK K:=by
 refine⟨tF ?_⟩;unfold mO nz;simp only[rs];exact iU (λh=>a (amU h)) λh=>b (anO h)
theorem Zs {s:List UInt8}(j:Nat)(c:OwnS S w0 w L)(d:L[j]?=ax (bqE b s way p))(hp:p<=8*s.length)(o:s.length<=1000000000)
  (k:∀W,OwnS S w0 W (L.set j (bqE b s 0 ((p+7) / 8*8)))->K (.tuple #[]) W):CallX ah 333 #[.pointer (ax ⟨b,0,aw⟩)] w PK K:=by
 have f:j < L.length:=(amS.1 d).1;refine fH (zR (k0:=RetK λv W=>v=.tuple #[]∧OwnS S w0 W (L.set j (bqE b s 0 ((p+7) / 8*8)))) ?_) (λe W ⟨v,he,i,c⟩=>by subst he;subst i;exact k W c);unfold qY nz;rw[Eg,i_f];refine join λJ l=>?_;have fin:∀(W:ao) (u a:Int),a=(((p+7) / 8:Nat):Int)->OwnS S w0 W (L.set j (rqE b s way u a))->J [] W:=by
  intro W u a m c;refine l _ _ λ_=>?_;unfold nN nz;have g:(L.set j (rqE b s way u a))[j]?=ax (rqE b s way u a):=by rw[apN f]
  have n:∀{PK:PKT} {K:VWP},DoX ah (aS 315 #[]) W PK K=K (.agg #[.int .i64 0,.int .i64 0]) W:=aD krx;rw[n,bG,Bc];refine xR j c g (new:=[.int .i64 0,.int .i64 0]) szSd dc (by show 0+2<=4;omega) λw2 c=>?_;rw[arI] at c;refine retK ⟨rfl,?_⟩;subst m;have e:bqE b s 0 ((p+7) / 8*8)=rqE b s 0 0 (((p+7) / 8:Nat):Int):=by
   unfold rqE bqE bqC;rw[show (p+7) / 8*8 % 8=0 by omega,show (p+7) / 8*8 / 8=(p+7) / 8 by omega];rfl
  rw[e];exact c
 rw[bG,Bc,sX,Ov c j d];simp only[rs,bG];by_cases h:(0:Int) < ((p % 8:Nat):Int)
 ·simp only[h,amD,i_t,rs,bG];rw[EG,acT c j d];simp only[rs,bG];rw[EG,aA om om];refine OP (a':=((p / 8:Nat):Int)+1) j c d λw3 c=>?_;exact fin w3 _ _ om c
 ·simp only[h,amF,i_f];refine fin w ((p % 8:Nat):Int) ((p / 8:Nat):Int) om ?_;rw[show rqE b s way ((p % 8:Nat):Int) ((p / 8:Nat):Int)=bqE b s way p from rfl,uH d];exact c
theorem aiI {s:List UInt8}{n:Nat}(j:Nat)(a:OwnS S w0 w L)(f:L[j]?=ax (bqE b s way p))(k:p % 8=0)(hp:p<=8*s.length)(q:n<=1000000000)(r:s.length<=1000000000)
  (l:p+8*n<=8*s.length->∀W,OwnS S w0 W (L.set j (bqE b s way (p+8*n)))->K (.tuple #[.string ⟨((s.drop (p / 8)).take n).toArray⟩,.int .i64 0]) W)
  (m:8*s.length < p+8*n->∀W,OwnS S w0 W L->K (.tuple #[.string ⟨#[]⟩,.int .i64 4]) W):CallX ah 336 #[.pointer (ax ⟨b,0,aw⟩),.int .i64 (n:Int)] w PK K:=by
 have g:j < L.length:=(amS.1 f).1;refine fH (Bu (k0:=RetK λv W=>(p+8*n<=8*s.length∧v=.tuple #[.string ⟨((s.drop (p / 8)).take n).toArray⟩,.int .i64 0]∧OwnS S w0 W (L.set j (bqE b s way (p+8*n))))∨(8*s.length < p+8*n∧v=.tuple #[.string ⟨#[]⟩,.int .i64 4]∧OwnS S w0 W L)) ?_) (λe W ⟨v,he,o⟩=>by
  subst he;rcases o with ⟨i,rfl,a⟩|⟨i,rfl,a⟩
  ·exact l i W a
  ·exact m i W a)
 unfold uP nz;rw[Eg];simp only[rs,show ai ((n:Int) < 0)=au from amE om,bG];rw[Bc,sX,Ov a j f,k];simp only[rs,show ai ((0:Int) < ((0:Nat):Int))=au from rfl];refine dW (λW=>OwnS S w0 W L) a.drew ?_;refine q_do _ (λ_=>dK) (q_do _ (λ_=>bE P1) (q_at _ (λW h=>Kd (h.at_ j f)) (Yc amP ?_)));refine q_do _ (λ_=>dK) (q_do _ (λ_=>bE JI) (q_at _ (λW h=>tM (h.at_ j f)) (q_do _ (λ_=>sR) ?_)));rw[aA om om];refine KD ?_;intro w2 a;by_cases c:(s.length:Int) - ((p / 8:Nat):Int) < (n:Int)
 ·simp only[c,amD,i_t];exact retK (.inr ⟨om,rfl,a⟩)
 simp only[c,amF,i_f,rs,bG];rw[EG,acT a j f];simp only[rs,bG];rw[EG,aA om om];refine OP (a':=((p / 8:Nat):Int)+n) j a f λw3 a=>?_;have e:rqE b s way ((p % 8:Nat):Int) (((p / 8:Nat):Int)+n)=bqE b s way (p+8*n):=by
  unfold rqE bqE bqC;rw[show (p+8*n) % 8=p % 8 by omega,show (p+8*n) / 8=p / 8+n by omega];rfl
 rw[e] at a;have d:(L.set j (bqE b s way (p+8*n)))[j]?=ax (bqE b s way (p+8*n)):=by rw[apN g]
 refine dW (λW=>OwnS S w0 W (L.set j (bqE b s way (p+8*n)))) a.drew ?_;refine q_do _ (λ_=>dK) (q_do _ (λ_=>bE P1) (q_at _ (λW h=>Kd (h.at_ j d)) ?_));refine q_do _ (λ_=>dK) (q_do _ (λ_=>bE JI) (q_at _ (λW h=>tM (h.at_ j d)) (q_do _ (λ_=>sR) ?_)));rw[show (p+8*n) / 8=p / 8+n by omega,aA om om];refine q_do _ (λ_=>dK) (q_do _ (λ_=>bE JI) (q_at _ (λW h=>tM (h.at_ j d)) ?_));rw[show (p+8*n) / 8=p / 8+n by omega];refine q_do _ (λ_=>pE amP om om om) ?_;intro t a;refine retK (.inl ⟨om,?_,a⟩);rw[show (((p / 8+n:Nat):Int) - (n:Int)).toNat=p / 8 by omega,show ((p / 8+n:Nat):Int).toNat - p / 8=n by omega]
theorem ZK {s:List UInt8}(h:(bqE b s way p).is W)(hp:p<=8*s.length)(d:s.length<=1000000000):Ret ah 275 #[.pointer (ax ⟨b,0,aw⟩)] W (λv w'=>v=.int .i64 (((p+7) / 8:Nat):Int)∧Below W.heap.size W w'):=by
 refine aZ λK a=>DI ?_;unfold yR nz;rw[Eg,i_f,bG,Bc,sX];refine aD (En h) |>.mpr ?_;simp only[rs,bG];by_cases c:(0:Int) < ((p % 8:Nat):Int)
 ·simp only[c,amD,i_t,rs,bG];rw[EG];refine aD (tM h) |>.mpr ?_;simp only[rs];rw[aA om om];exact a _ _ ⟨by congr 1;omega,(Own.start W).done⟩
 ·simp only[c,amF,i_f,rs,bG];rw[EG];refine aD (tM h) |>.mpr ?_;exact a _ _ ⟨by congr 1;omega,(Own.start W).done⟩
end
end
section
open Eng
def vZ(t8 w)(N1:JT)(K:KT):=nz f323 491 [N1] [nh 7 [8]] [] (zg [8] [t8]) w K
def vE(t2 t3 t6 t7 t8 w)(N1:JT)(K:KT):=nz f323 43 [N1] [nh 7 [8],(14,[],λs v j w f=>vZ (s 8) w (f 0) K)] [] (zg [2,3,6,7,8] [t2,t3,t6,t7,t8]) w K
def Bm(t0 w)(K:KT):=nz f323 1 [] [(7,[8],λs v j w f=>vE (s 2) (s 3) (s 6) (s 7) (vg v 0) w (f 0) K)] [] (zg [0] [t0]) w K
theorem DP:Bm t0 w k0->Calls ah 323 #[t0] w k0:=cz [(7,[])] [(3,[8])] func323
def AD(t5 t6 t7 t8 w)(a:JT)(K:KT):=nz f342 351 [a] [nh 25 [6,7,8]] [] (zg [5,6,7,8] [t5,t6,t7,t8]) w K
def AE(t0 t12 t13 t14 w)(N1:JT)(K:KT):=nz f342 43 [N1] [nh 9 [14],(25,[6,7,8],λs v j w f=>AD (s 5) (vg v 0) (vg v 1) (vg v 2) w (f 0) K)] [] (zg [0,12,13,14] [t0,t12,t13,t14]) w K
def Ev(t0 w)(K:KT):=nz f342 1 [] [(9,[14],λs v j w f=>AE (s 0) (s 12) (s 13) (vg v 0) w (f 0) K)] [] (zg [0] [t0]) w K
theorem Hb:Ev t0 w k0->Calls ah 342 #[t0] w k0:=cz [] [(4,[14]),(12,[6,7,8])] func342
def yD(t1 t2 t3 t4 w)(N1:JT)(K:KT):=nz f324 43 [N1] [nh 7 [4]] [(5,11)] (zg [1,2,3,4] [t1,t2,t3,t4]) w K
def CG(t0 w)(K:KT):=nz f324 1 [] [(7,[4],λs v j w f=>yD (s 1) (s 2) (s 3) (vg v 0) w (f 0) K)] [] (zg [0] [t0]) w K
theorem FO:CG t0 w k0->Calls ah 324 #[t0] w k0:=cz [] [(3,[4])] func324
def Br(t22 w)(N1:JT)(K:KT):=nz f321 1967 [N1] [nh 15 [22]] [] (zg [22] [t22]) w K
def Bg(t5 t6 t20 t21 t22 w)(N1:JT)(K:KT):=nz f321 175 [N1] [nh 15 [22],(24,[],λs v j w f=>Br (s 22) w (f 0) K)] [] (zg [5,6,20,21,22] [t5,t6,t20,t21,t22]) w K
def ED(t0 w)(K:KT):=nz f321 1 [] [(15,[22],λs v j w f=>Bg (s 5) (s 6) (s 20) (s 21) (vg v 0) w (f 0) K)] [] (zg [0] [t0]) w K
theorem Ii:ED t0 w k0->Calls ah 321 #[t0] w k0:=cz [(12,[])] [(7,[22])] func321
def xP(t39 w)(a:JT)(K:KT):=nz f295 62815 [nj,a] [nh 15 [7],nh 21 [39]] [] (zg [39] [t39]) w K
def zL(t6 t7 t37 t38 t39 w)(N1 a:JT)(K:KT):=nz f295 5471 [N1,a] [nh 15 [7],nh 21 [39],(28,[],λs v j w f=>xP (s 39) w (f 0) K)] [] (zg [6,7,37,38,39] [t6,t7,t37,t38,t39]) w K
def xI(t0 t6 t7 w)(N1:JT)(K:KT):=nz f295 351 [N1] [nh 15 [7],(21,[39],λs v j w f=>zL (s 6) (s 7) (s 37) (s 38) (vg v 0) w (f 1) (f 0) K)] [] (zg [0,6,7] [t0,t6,t7]) w K
def DM(t0 w)(K:KT):=nz f295 1 [] [(15,[7],λs v j w f=>xI (s 0) (s 6) (vg v 0) w (f 0) K)] [] (zg [0] [t0]) w K
theorem Cd:DM t0 w k0->Calls ah 295 #[t0] w k0:=cz [(14,[])] [(7,[7]),(10,[39])] func295
def pC(t0 t1 t6 t7 t8 w)(N1:JT)(K:KT):=nz f347 175 [N1] [nh 13 [6,7,8]] [] (zg [0,1,6,7,8] [t0,t1,t6,t7,t8]) w K
def sG(t0 t1 w)(K:KT):=nz f347 1 [] [(13,[6,7,8],λs v j w f=>pC (s 0) (s 1) (vg v 0) (vg v 1) (vg v 2) w (f 0) K)] [] (zg [0,1] [t0,t1]) w K
theorem As:sG t0 t1 w k0->Calls ah 347 #[t0,t1] w k0:=cz [] [(6,[6,7,8])] func347
end
section
open Eng Go.RowKit
def nsC (f:Nat->Int):List Value:=[.int .i64 (f 0),.int .i64 (f 1),.int .i64 (f 2),.int .i64 (f 3),.int .i64 (f 4),.int .i64 (f 5),.int .i64 (f 6),.int .i64 (f 7),.int .i64 (f 8),.int .i64 (f 9),.int .i64 (f 10),.int .i64 (f 11),.int .i64 (f 12),.int .i64 (f 13),.int .i64 (f 14),.int .i64 (f 15)]
def nsV (f:Nat->Int):Value:=.agg (nsC f).toArray
def nsE (b:Nat)(f:Nat->Int):Ent:=.cells b (nsC f) 334
theorem SY (f:Nat->Int):∀v∈nsC f,v.oneCell'=true:=by
 intro v a;simp only[nsC,amH,anW,or_false] at a;rcases a with rfl|rfl|rfl|rfl|rfl|rfl|rfl|rfl|rfl|rfl|rfl|rfl|rfl|rfl|rfl|rfl<;>rfl
theorem lt16 (hi:i < 16):i=0∨i=1∨i=2∨i=3∨i=4∨i=5∨i=6∨i=7∨i=8∨i=9∨i=10∨i=11∨i=12∨i=13∨i=14∨i=15:=om
theorem GB (f:Nat->Int)(hi:i < 16):(nsC f)[i]?=ax (.int .i64 (f i)):=by
 rcases lt16 hi with rfl|rfl|rfl|rfl|rfl|rfl|rfl|rfl|rfl|rfl|rfl|rfl|rfl|rfl|rfl|rfl<;>rfl
theorem abD (f:Nat->Int)(x:Int)(hi:i < 16):(nsC f).set i (.int .i64 x)=nsC (λj=>if j=i then x else f j):=by
 rcases lt16 hi with rfl|rfl|rfl|rfl|rfl|rfl|rfl|rfl|rfl|rfl|rfl|rfl|rfl|rfl|rfl|rfl<;>rfl
theorem Za:aggN ah 334=ax 16:=krx
theorem szNs:(Tryz.prog.info? 334).map (·.size)=ax 16:=krx
section
variable {w:ao}{PK:PKT}{K:VWP}{S:Nat->Prop}{w0:ao}{L:List Ent}
theorem F4 {off:Nat}(hi:i < 16):(mIA 334 (.pointer (ax ⟨b,off,aw⟩)) (.int .i64 (i:Int))).run ah W=.ok (.value (.pointer (ax ⟨b,off+i,aw⟩))) W:=by
 rcases lt16 hi with rfl|rfl|rfl|rfl|rfl|rfl|rfl|rfl|rfl|rfl|rfl|rfl|rfl|rfl|rfl|rfl<;>kernel_rfl
theorem H7 {off:Nat}(hi:i < 16):DoX ah (mIA 334 (.pointer (ax ⟨b,off,aw⟩)) (.int .i64 (i:Int))) w PK K=K (.pointer (ax ⟨b,off+i,aw⟩)) w:=aD (F4 hi)
theorem Q1 (a:OwnS S w0 w L)(k:∀b w',OwnS S w0 w' (nsE b (λ_=>0)::L)->K (.pointer (ax ⟨b,0,aw⟩)) w'):DoX ah (iH 334) w PK K:=
 bA (λb=>.pointer (ax ⟨b,0,aw⟩)) (nsC λ_=>0) 334 (λ_=>by kernel_rfl) a k
theorem akZ (f:Nat->Int)(a:OwnS S w0 w L)(k:∀b w',OwnS S w0 w' (nsE b f::L)->K (.pointer (ax ⟨b,0,aw⟩)) w'):DoX ah (mBox 334 (nsV f)) w PK K:=
 bA (λb=>.pointer (ax ⟨b,0,aw⟩)) (nsC f) 334 (λ_=>by kernel_rfl) a k
theorem JS (c:OwnS S w0 w L)(j:Nat){f:Nat->Int}(hi:L[j]?=ax (nsE b f))(a:i < 16):DoX ah (aH 3 (.pointer (ax ⟨b,0+i,aw⟩))) w PK K=K (.int .i64 (f i)) w:=aJ aU (c.cell j hi (0+i) (by rw[amO];exact GB f a))
theorem Va (j:Nat){f:Nat->Int}{x:Int}(a:i < 16)(c:OwnS S w0 w L)(hi:L[j]?=ax (nsE b f))(k:∀w',OwnS S w0 w' (L.set j (nsE b (λm=>if m=i then x else f m)))->K undef w') :
  DoX ah (aN 3 (.pointer (ax ⟨b,0+i,aw⟩)) (.int .i64 x)) w PK K:=aK j c hi krx rfl (by show 0+i < 16;omega) λw' c=>k w' (by
   unfold nsE;rw[<-abD f x a,<-amO i];rw[amO i] at c ⊢;simpa using c)
theorem ns_v (a:OwnS S w0 w L)(j:Nat){f:Nat->Int}(hi:L[j]?=ax (nsE b f)):DoX ah (aH 334 (.pointer (ax ⟨b,0,aw⟩))) w PK K=K (nsV f) w:=l_at (a.agg j hi Za)
theorem Px (j:Nat){f f':Nat->Int}(a:OwnS S w0 w L)(hi:L[j]?=ax (nsE b f))(k:∀w',OwnS S w0 w' (L.set j (nsE b f'))->K undef w') :
  DoX ah (aN 334 (.pointer (ax ⟨b,0,aw⟩)) (nsV f')) w PK K:=gX j a hi (new:=nsC f') szNs (SY f') rfl k
theorem Yr {K:Ending->ao->Prop}{f:Nat->Int}(i:Nat)(a:OwnS S w0 w L)(hi:L[i]?=ax (nsE b f))(k:K (.returned (nsV f)) w):RetX ah [.cell (.pointer (ax ⟨b,0,aw⟩)) 334] w K:=
 iA (bJ (a.agg i hi Za)) k
end
def cnt (lens:List Nat):Nat->Int:=λi=>if i=0 then 0 else ((lens.count i:Nat):Int)
def aV (l:List Nat):List Value:=l.map λn=>.int .i64 ((n:Nat):Int)
theorem mU (a:Sl w v 1 l.length (aV l))(hi:i < l.length) :
  ∃b off,(∀W,(mIA 123 v (.int .i64 (i:Int))).run ah W=.ok (.value (.pointer (ax ⟨b,off,aw⟩))) W)∧w.cell? ⟨b,off,aw⟩=ax (.int .i64 ((l[i]:Nat):Int)):=by
 obtain⟨b,off,cap,rfl,c⟩:=bY a om;refine⟨b,off+i,λW=>?_,c i _ (by simp[aV,hi])⟩;have:=dX (P:=ah) (T:=123) (b:=b) (off:=off) (cap:=cap) (n:=l.length) (k:=.i64) (i:=(i:Int)) (w:=W) amZ (show _=ax 1 by kernel_rfl) om om;rw[amK,anC] at this;exact this
theorem tX (lens:List Nat)(v:aq)(M:Mem)(w:ao)(k:∀l∈lens,l<=15)(D:lens.length<=100000)(p:M.has w)(q:SlA M.A M.w v 1 lens.length (aV lens)) :
  RetM ah 323 #[v] M w (λr _=>r=nsV (cnt lens)):=by
 refine bB p λK x=>DP ?_;unfold Bm nz;refine Q1 (OwnS.memS p) λb2 E c=>?_;refine Q1 c λb3 w2 c=>?_;rw[bD amZ (q.now (c.hasM 2 rfl))];refine loop (λvs W=>∃i:Nat,vs=[.int .i64 i]∧i<=lens.length∧OwnS M.A w W [nsE b3 (cnt (lens.take i)),nsE b2 (λ_=>0),.mem M]) (λvs _=>lens.length - n0 vs) ⟨0,rfl,om,?_⟩ ?_
 ·have e:cnt (lens.take 0)=λ_=>0:=by funext i;simp[cnt]
  rw[e];exact c
 clear c;rintro vs w3 ⟨i,rfl,hi,c⟩ _;simp only[vE,gd,rs,nz];by_cases g:(i:Int) < (lens.length:Int)
 ·have f:i < lens.length:=om
  simp only[g,amD,i_t];refine join λJ y=>?_;obtain⟨b,off,z,B⟩:=mU (q.now (c.hasM 2 rfl)) f;have s:=k _ (amR f);refine aD (z w3) |>.mpr (aD (aB aU B) |>.mpr ?_);have j:lens.take (i+1)=lens.take i++[lens[i]]:=by rw[anH f]
  have fin:∀W,OwnS M.A w W [nsE b3 (cnt (lens.take (i+1))),nsE b2 (λ_=>0),.mem M]->J [] W:=by
   intro W c;refine y _ _ λ_=>?_;simp only[vZ,gd,rs,nz];rw[aA om om];exact aY ⟨i+1,rfl,om,c⟩ (by simp[n0,RowKit.intOf];omega)
  simp only[rs];by_cases t:(0:Int) < ((lens[i]:Nat):Int)
  ·simp only[t,amD,i_t];rw[H7 om,JS c 0 rfl om];simp only[rs];rw[H7 om];have C:(lens.take i).count lens[i]<=100000:=by
    have:=arF (a:=lens[i]) (l:=lens.take i);rw[amL] at this;omega
   have n:cnt (lens.take i) lens[i]=(((lens.take i).count lens[i]:Nat):Int):=by unfold cnt;rw[amA om]
   rw[n,aA om om];refine Va 0 om c rfl λu c=>fin u ?_;have e:(λm=>if m=lens[i] then (((lens.take i).count lens[i]:Nat):Int)+1 else cnt (lens.take i) m)=cnt (lens.take (i+1)):=by
    funext m
    unfold cnt;rw[j,aqR,atB];by_cases hm:m=lens[i]
    ·subst hm;rw[amB rfl,amA om];simp
    ·rw[amA hm];by_cases d:m=0
     ·rw[amB d,amB d]
     ·rw[amA d,amA d];have:(lens[i]==m)=false:=by simp;exactλh=>hm h.symm
      rw[this];simp
   rw[<-e];exact c
  ·simp only[t,amF,i_f];refine fin w3 ?_;have e:cnt (lens.take (i+1))=cnt (lens.take i):=by
    funext m
    unfold cnt;rw[j,aqR,atB];by_cases d:m=0
    ·rw[amB d,amB d]
    ·rw[amA d,amA d];have:(lens[i]==m)=false:=by simp;omega
     rw[this];simp
   rw[e];exact c
 ·simp only[g,amF,i_f];have o:i=lens.length:=om
  subst o;rw[aoA] at c;rw[ns_v c 0 rfl];refine Px 1 c rfl λu c=>?_;exact Yr 1 c rfl (x _ _ M _ 2 c rfl M.le_refl rfl)
theorem DX (lens:List Nat)(M:Mem)(w:ao)(o:lens.length<=100000)(f:M.has w) :
  RetM ah 324 #[nsV (cnt lens)] M w (λr _=>r=nsV (λi=>((Fl.first lens (if i<=15 then i else 0):Nat):Int))):=by
 refine bB f λK p=>FO ?_;unfold CG nz;refine akZ (cnt lens) (OwnS.memS f) λg x a=>?_;refine Q1 a λb2 w2 a=>?_;refine Q1 a λb3 w3 a=>?_;refine loop (λvs W=>∃l:Nat,vs=[.int .i64 l]∧1<=l∧l<=15∧OwnS M.A w W [nsE b3 (λi=>((Fl.first lens (if i<=l then i else 0):Nat):Int)),nsE b2 (λ_=>0),nsE g (cnt lens),.mem M]) (λvs _=>15 - n0 vs) ⟨1,rfl,om,om,?_⟩ ?_
 ·have e:(λi=>((Fl.first lens (if i<=1 then i else 0):Nat):Int))=λ_=>0:=by
   funext i
   by_cases h:i<=1
   ·rw[amB h];rcases (by omega:i=0∨i=1) with rfl|rfl<;>rfl
   ·rw[amA h];rfl
  rw[e];exact a
 clear a;rintro vs q ⟨l,rfl,s,j,a⟩ _;simp only[yD,gd,rs,nz];by_cases b:(l:Int) < 15
 ·simp only[b,amD,i_t];have t:=Fl.Kl (lens:=lens) l;have u:lens.count l<=lens.length:=arF;have hp:4 ^ l<=4 ^ 15:=aoH dc om;have v:(4:Nat) ^ 15=1073741824:=dc
  have n:4 ^ l*lens.length<=1073741824*100000:=apM om o;have d:cnt lens l=((lens.count l:Nat):Int):=by unfold cnt;rw[amA om]
  refine dW (λW=>OwnS M.A w W [nsE b3 (λi=>((Fl.first lens (if i<=l then i else 0):Nat):Int)),nsE b2 (λ_=>0),nsE g (cnt lens),.mem M]) a.drew ?_;refine pJ ?_;rw[aA om om];refine q_do _ (λ_=>F4 om) (q_at (.int .i64 (Fl.first lens l)) (λW h=>aB aU (h.cell 0 rfl (0+l) (by rw[amO];refine (GB _ om).trans ?_;rw[amB (amJ l)]))) ?_);refine q_do _ (λ_=>F4 om) (q_at (.int .i64 (lens.count l:Nat)) (λW h=>aB aU (h.cell 2 rfl (0+l) (by rw[amO];refine (GB _ om).trans ?_;rw[d]))) ?_);refine pJ ?_;rw[aA om om];refine q_do _ (λ_=>afX) ?_;rw[aA om om];rw[show ((l:Nat):Int)+1=((l+1:Nat):Int) by omega];refine q_do _ (λ_=>F4 om) ?_;intro y a;refine Va 0 om a rfl λz a=>?_;refine aY ⟨l+1,rfl,om,om,?_⟩ (by simp[n0,RowKit.intOf];omega);have e:(λm=>if m=l+1 then (2:Int)*(((Fl.first lens l:Nat):Int)+((lens.count l:Nat):Int)) else ((Fl.first lens (if m<=l then m else 0):Nat):Int))=λi=>((Fl.first lens (if i<=l+1 then i else 0):Nat):Int):=by
   funext m
   by_cases hm:m=l+1
   ·subst hm;rw[amB rfl,amB (amJ _)];obtain⟨k,rfl⟩:∃k,l=k+1:=⟨l - 1,om⟩;rw[Fl.first];push_cast;rfl
   ·rw[amA hm];by_cases c:m<=l
    ·rw[amB c,amB om]
    ·rw[amA c,amA om]
  rw[<-e];exact a
 ·simp only[b,amF,i_f];have:l=15:=om
  subst this;rw[ns_v a 0 rfl];refine Px 1 a rfl λq a=>?_;exact Yr 1 a rfl (p _ _ M _ 3 a rfl M.le_refl rfl)
end
section
open Eng Go.RowKit
def bh (lens:List Nat):Int:=if 288 < lens.length then 6 else Fl.check lens
theorem Sf (lens:List Nat)(v:aq)(M:Mem)(w:ao)(m:∀l∈lens,l<=15)(n:lens.length<=100000)(s:M.has w)(t:SlA M.A M.w v 1 lens.length (aV lens)) :
  RetM ah 342 #[v] M w (λr _=>r=.int .i64 (bh lens)):=by
 refine bB s λK u=>Hb ?_;unfold Ev nz;have d:OwnS M.A w w [.mem M]:=OwnS.memS s;rw[bD amZ (t.now s)];simp only[rs];by_cases g:(288:Int) < (lens.length:Int)
 ·simp only[g,amD,i_t];exact u _ _ M _ 0 d rfl M.le_refl (by unfold bh;rw[amB om])
 have y:bh lens=Fl.check lens:=by unfold bh;rw[amA om]
 simp only[g,amF,i_f];rw[bD amZ (t.now s)];refine loop (λvs W=>∃i:Nat,vs=[.int .i64 i]∧i<=lens.length∧OwnS M.A w W [.mem M]) (λvs _=>lens.length - n0 vs) ⟨0,rfl,om,d⟩ ?_;clear d;rintro vs w2 ⟨i,rfl,hi,d⟩ _;simp only[AE,gd,rs,nz];by_cases f:(i:Int) < (lens.length:Int)
 ·have o:i < lens.length:=om
  simp only[f,amD,i_t];obtain⟨b,off,z,B⟩:=mU (t.now (d.hasM 0 rfl)) o;have p:=m _ (amR o);refine aD (z w2) |>.mpr (aD (aB aU B) |>.mpr ?_);simp only[rs,show ai (((lens[i]:Nat):Int) < 0)=au from amE om,show ai ((15:Int) < ((lens[i]:Nat):Int))=au from amE om];rw[aA om om];exact aY ⟨i+1,rfl,om,d⟩ (by simp[n0,RowKit.intOf];omega)
 simp only[f,amF,i_f];refine bH d 0 rfl (tX lens v M w2 m n (d.hasM 0 rfl) t) ?_;rintro _ N w3 hle rfl d;refine Q1 d λx G d=>?_;refine Px 0 d rfl λC d=>?_;have d:OwnS M.A w C [nsE x (cnt lens),.mem N]:=d;refine loop (λvs W=>∃l:Nat,vs=[.int .i64 (Fl.gC lens l),.int .i64 (Fl.bC lens l),.int .i64 ((l+1:Nat):Int)]∧l<=15∧OwnS M.A w W [nsE x (cnt lens),.mem N]) (λvs _=>16 - n2 vs) ⟨0,rfl,om,d⟩ ?_;clear d f hi;rintro vs D ⟨l,rfl,p,d⟩ _;simp only[AD,gd,rs,nz];have j:∀k,k≠0->cnt lens k=((lens.count k:Nat):Int):=λk h=>by unfold cnt;rw[amA h]
 by_cases f:((l+1:Nat):Int)<=15
 ·simp only[f,amD,i_t];have E:lens.count (l+1)<=lens.length:=arF;have s1:=Fl.Pu (lens:=lens) (l+1);have s2:=Fl.HC (lens:=lens) (l+1);have H:(l+1)*(lens.length*32768)<=16*(100000*32768):=apM om (anY _ n);have I:(l+1)*lens.length<=16*100000:=apM om n;rw[Fl.gC] at s1;rw[Fl.bC] at s2;rw[H7 om,JS d 0 rfl om,j _ om]
  try simp only[rs]
  rw[aA om om,FV om];rw[show min ((15:Int) - ((l+1:Nat):Int)).toNat IntKind.i64.bits=15 - (l+1) by show min ((15:Int) - ((l+1:Nat):Int)).toNat 64=15 - (l+1);omega];rw[show ((lens.count (l+1):Nat):Int)*2 ^ (15 - (l+1))=((lens.count (l+1)*2 ^ (15 - (l+1)):Nat):Int) by push_cast;rfl];generalize F:lens.count (l+1)*2 ^ (15 - (l+1))=q at s1 ⊢;rw[aA om om]
  try simp only[rs]
  rw[aA om om,H7 om,JS d 0 rfl om,j _ om]
  try simp only[rs]
  rw[aA om om,aA om om];refine aY ⟨l+1,?_,om,d⟩ (by simp[n2,RowKit.intOf];omega);rw[Fl.gC,Fl.bC,F];rfl
 ·have n:l=15:=om
  subst n;simp only[f,amF,i_f];have fin:∀e:Int,e=Fl.check lens->K (.returned (.int .i64 e)) D:=λe he=>u _ _ N _ 1 d rfl hle (by rw[y,he]);unfold Fl.check at fin;by_cases a:Fl.gC lens 15=32768
  ·simp only[show ai (((Fl.gC lens 15:Nat):Int)=32768)=av from amG om,rs,g_un];exact fin 0 (by rw[amB (.inl a)])
  simp only[show ai (((Fl.gC lens 15:Nat):Int)=32768)=au from amE om,rs];by_cases b:Fl.bC lens 15=0
  ·simp only[show ai (((Fl.bC lens 15:Nat):Int)=0)=av from amG om,rs,g_un];exact fin 0 (by rw[amB (.inr (.inl b))])
  simp only[show ai (((Fl.bC lens 15:Nat):Int)=0)=au from amE om,rs];by_cases c:Fl.bC lens 15=1
  ·simp only[show ai (((Fl.bC lens 15:Nat):Int)=1)=av from amG om,rs];rw[show ((1:Int))=((1:Nat):Int) from rfl,H7 om,JS d 0 rfl om,j 1 om];by_cases e:lens.count 1=1
   ·simp only[rs,show ai (((lens.count 1:Nat):Int)=((1:Nat):Int))=av from amG om];exact fin 0 (by rw[amB (.inr (.inr ⟨c,e⟩))])
   ·simp only[rs,show ai (((lens.count 1:Nat):Int)=((1:Nat):Int))=au from amE om];exact fin 13 (by rw[amA (λh=>h.elim a λh=>h.elim b λh=>e h.2)])
  ·simp only[show ai (((Fl.bC lens 15:Nat):Int)=1)=au from amE om,rs,g_un];exact fin 13 (by rw[amA (λh=>h.elim a λh=>h.elim b λh=>c h.1)])
end
section
open Eng Go.RowKit
def NZ (l:List Int):List Value:=l.map λn=>.int .i64 n
theorem tD {l:List Int}:∀x∈NZ l,x.oneCell'=true:=by
 intro x a;obtain⟨n,-,rfl⟩:=anK.1 a;rfl
theorem Ez:eD ah 123=true:=krx
theorem ajJ:elB ah 3 1 8=true:=krx
theorem Ji {K:aq->Prop}{a b:aq}(h:K a):HDo P C (mExt (.tuple #[a,b]) 0) K:=aR a (λ_=>rfl) h
theorem DR {K:aq->Prop}{a b:aq}(h:K b):HDo P C (mExt (.tuple #[a,b]) 1) K:=aR b (λ_=>rfl) h
section
variable {w:ao}{PK:PKT}{K:VWP}{S:Nat->Prop}{w0:ao}{L:List Ent}
theorem SL (a:OwnS S w0 w L)(k:∀v w',OwnS S w0 w' (.urow 3 1 v 0 []::L)->K v w'):DoX ah (bN 123 0 #[]) w PK K:=
 bA (λb=>.slice (ax ⟨b,0,aw⟩) 0 0) [] 3 (λ_=>by kernel_rfl) a λb c a=>k _ _ (a.toU 1 0 0 sm om om)
theorem uN (n:Int)(a:OwnS S w0 w L)(k:∀b w',OwnS S w0 w' (.cells b (NZ [n]) 3::L)->K (.slice (ax ⟨b,0,aw⟩) 1 1) w'):DoX ah (bN 123 1 #[(0,.int .i64 n)]) w PK K:=
 bA (λb=>.slice (ax ⟨b,0,aw⟩) 1 1) (NZ [n]) 3 (λ_=>by kernel_rfl) a k
theorem oA (i:Nat){n:Nat}(a:OwnS S w0 w L)(hi:L[i]?=ax (.urow 3 1 v n xs))(b:Sl w v2 1 m news)(c:∀u∈news,u.oneCell'=av)(d:n+m<=100000000000)
  (k:∀v' w',OwnS S w0 w' (L.set i (.urow 3 1 v' (n+m) (xs++news)))->K v' w'):DoX ah (mB .append #[123,123] 123 cb #[v,v2]) w PK K:=
 bR i amZ ajJ dc a hi b c om om k
end
end
section
open Eng Go.RowKit
theorem PT (n:Nat):(Go.madeCells (Value.int .i64 0).cells (n*1))=(List.replicate n (Value.int .i64 0)).toArray:=by
 unfold Go.madeCells;refine Array.ext sm λi a b=>?_;have e:(Value.int .i64 0).cells=#[Value.int .i64 0]:=rfl;simp only[Array.getElem_map,List.getElem_toArray,List.getElem_replicate,e];simp[Nat.mod_one]
theorem PD:∃i,Tryz.prog.info? 3=ax i∧i.zero=ax (Value.int .i64 0)∧i.size=1∧i.bytes=8:=⟨_,rfl,krx,krx,krx⟩
section
variable {w:ao}{PK:PKT}{K:VWP}{S:Nat->Prop}{w0:ao}{L:List Ent}
theorem wR {n:Nat}(f:n<=1000000)(a:OwnS S w0 w L)(k:∀b w',OwnS S w0 w' (.cells b (List.replicate n (.int .i64 0)) 3::L)->K (.slice (ax ⟨b,0,aw⟩) n n) w') :
  DoX ah (G5 123 (.int .i64 (n:Int)) (.int .i64 (n:Int))) w PK K:=by
 obtain⟨i,hi,c,d,e⟩:=PD;refine bA (λb=>.slice (ax ⟨b,0,aw⟩) n n) (List.replicate n (.int .i64 0)) 3 (λW=>?_) a k;have:=Go.run_make (P:=ah) W 123 3 i (Value.int .i64 0) amZ hi c .i64 .i64 (n:Int) (n:Int) om om (by rw[e];omega) om;rw[d,amK,PT] at this;exact cJ this
end
def cg (lens:List Nat)(i:Nat):Nat:=if lens.getD i 0=0 then 0 else Fl.first lens (lens.getD i 0)+(lens.take i).count (lens.getD i 0)
def ij (lens:List Nat):List Nat:=(List.range lens.length).map (cg lens)
theorem ir (lens:List Nat):(ij lens).length=lens.length:=by simp[ij]
theorem qz {lens:List Nat}(hi:i < lens.length):(ij lens)[i]?=ax (cg lens i):=by
 simp[ij,hi]
def gE (lens:List Nat)(i:Nat):List Value:=aV ((ij lens).take i)++List.replicate (lens.length - i) (.int .i64 0)
theorem Om {lens:List Nat}(hi:i<=lens.length):(gE lens i).length=lens.length:=by
 unfold gE aV;rw[amC,anP,amL,anU,ir];omega
theorem GL {lens:List Nat}(hi:i < lens.length):(gE lens i).set i (.int .i64 ((cg lens i:Nat):Int))=gE lens (i+1):=by
 unfold gE;have a:(aV ((ij lens).take i)).length=i:=by unfold aV;rw[anP,amL,ir];omega
 rw[arA _ _ om,a,apD];obtain⟨k,b⟩:∃k,lens.length - i=k+1:=⟨lens.length - i - 1,om⟩;rw[b,atC,aoX,show lens.length - (i+1)=k by omega];rw[anH (by rw[ir];exact hi)];have e:(ij lens)[i]'(by rw[ir];exact hi)=cg lens i:=by
  have:=qz hi;rw[amN (by rw[ir];exact hi)] at this;exact apF this
 rw[e];simp[aV]
theorem M3 {lens:List Nat}(hi:i < lens.length)(a:cg lens i=0):gE lens (i+1)=gE lens i:=by
 rw[<-GL hi,a];refine uH ?_;unfold gE;have b:(aV ((ij lens).take i)).length=i:=by unfold aV;rw[anP,amL,ir];omega
 rw[aoQ om,b,apD,asK,amB om];rfl
def nxt (lens:List Nat)(i:Nat):Nat->Int:=λm=>((Fl.first lens (if m<=15 then m else 0)+(if m=0 then 0 else (lens.take i).count m):Nat):Int)
theorem JE (lens:List Nat)(v:aq)(M:Mem)(w:ao)(o:∀l∈lens,l<=15)(z:lens.length<=100000)(C:M.has w)(q:SlA M.A M.w v 1 lens.length (aV lens)) :
  RetM ah 321 #[v] M w (λr N=>∃v',r=.tuple #[v',.int .i64 (bh lens)]∧v'.oneCell'=av∧(bh lens=0->SlA N.A N.w v' 1 lens.length (aV (ij lens)))):=by
 refine bB C λK O=>Ii ?_;unfold ED nz;have c:OwnS M.A w w [.mem M]:=OwnS.memS C;refine aL c (R:=λr=>r=.int .i64 (bh lens)) (RetM.told (Sf lens v M w o z C q)) ?_;rintro _ U rfl c;rw[eN];by_cases B:bh lens=0
 case neg=>
  simp only[B,ne_eq,aqD,amD,i_t];exact O _ _ M _ 0 c rfl M.le_refl ⟨_,rfl,rfl,λh=>absurd h B⟩
 simp only[B,ne_eq,not_true,amF,i_f];refine aL c (R:=λr=>r=nsV (cnt lens)) (RetM.told (tX lens v M U o z (c.hasM 0 rfl) q)) ?_;rintro _ w2 rfl c;refine aL c (R:=λr=>r=nsV (λi=>((Fl.first lens (if i<=15 then i else 0):Nat):Int))) (RetM.told (DX lens M w2 z (c.hasM 0 rfl))) ?_;rintro _ w3 rfl c;refine Q1 c λD w4 c=>?_;refine Px 0 c rfl λw5 c=>?_;rw[bD amZ (q.now (c.hasM 1 rfl))];refine wR om c λs w6 c=>?_;rw[bD amZ (q.now (c.hasM 2 rfl))];refine loop (λvs W=>∃i:Nat,vs=[.int .i64 i]∧i<=lens.length∧OwnS M.A w W [.cells s (gE lens i) 3,nsE D (nxt lens i),.mem M]) (λvs _=>lens.length - n0 vs) ⟨0,rfl,om,?_⟩ ?_
 ·have F:gE lens 0=List.replicate lens.length (.int .i64 0):=by simp[gE,aV]
  have G:nxt lens 0=λi=>((Fl.first lens (if i<=15 then i else 0):Nat):Int):=by
   funext m;unfold nxt;simp
  rw[F,G];exact c
 clear c;rintro vs H ⟨i,rfl,hi,c⟩ _;simp only[Bg,gd,rs,nz];by_cases t:(i:Int) < (lens.length:Int)
 ·have d:i < lens.length:=om
  simp only[t,amD,i_t];refine join λJ V=>?_;obtain⟨b,off,X,Y⟩:=mU (q.now (c.hasM 2 rfl)) d;have f:=o _ (amR d);have u:lens.getD i 0=lens[i]:=by rw[amI,amN d];rfl
  refine aD (X H) |>.mpr (aD (aB aU Y) |>.mpr ?_);have p:lens.take (i+1)=lens.take i++[lens[i]]:=by rw[anH d]
  have fin:∀W,OwnS M.A w W [.cells s (gE lens (i+1)) 3,nsE D (nxt lens (i+1)),.mem M]->J [] W:=by
   intro W c;refine V _ _ λ_=>?_;simp only[Br,gd,rs,nz];rw[aA om om];exact aY ⟨i+1,rfl,om,c⟩ (by simp[n0,RowKit.intOf];omega)
  simp only[rs];by_cases Q:(0:Int) < ((lens[i]:Nat):Int)
  ·simp only[Q,amD,i_t];have Z:=Fl.Kl (lens:=lens) lens[i];have hp:4 ^ lens[i]<=4 ^ 15:=aoH dc f;have a1:(4:Nat) ^ 15=1073741824:=dc
   have S:4 ^ lens[i]*lens.length<=1073741824*100000:=apM om z;have a6:(lens.take i).count lens[i]<=100000:=by
    have:=arF (a:=lens[i]) (l:=lens.take i);rw[amL] at this;omega
   have x:cg lens i=Fl.first lens lens[i]+(lens.take i).count lens[i]:=by
    unfold cg;rw[u,amA om]
   have y:nxt lens i lens[i]=((cg lens i:Nat):Int):=by
    unfold nxt;rw[amB f,amA om,x]
   rw[H7 om,JS c 1 rfl om,y];have I:=dX (P:=ah) (T:=123) (b:=s) (off:=0) (cap:=lens.length) (n:=lens.length) (k:=.i64) (i:=(i:Int)) (w:=H) amZ (show _=ax 1 by kernel_rfl) om om;refine aD I |>.mpr ?_;rw[amK,anC,amO];refine aK 0 c rfl krx rfl (by rw[Om hi];exact d) λw8 c=>?_;rw[GL d] at c;have c:OwnS M.A w w8 [.cells s (gE lens (i+1)) 3,nsE D (nxt lens i),.mem M]:=c;rw[H7 om,JS c 1 rfl om,y];simp only[rs];rw[H7 om,aA om om];refine Va 1 om c rfl λw9 c=>fin w9 ?_;have e:(λm=>if m=lens[i] then ((cg lens i:Nat):Int)+1 else nxt lens i m)=nxt lens (i+1):=by
    funext m
    by_cases hm:m=lens[i]
    ·subst hm;rw[amB rfl];unfold nxt;rw[amB f,amA om,p,aqR,atB,x];simp;omega
    ·rw[amA hm];unfold nxt;rw[p,aqR,atB];have:(lens[i]==m)=false:=by simp;exactλh=>hm h.symm
     rw[this];simp
   rw[<-e];exact c
  ·simp only[Q,amF,i_f];have hz:lens[i]=0:=om
   refine fin H ?_;have F:gE lens (i+1)=gE lens i:=M3 d (by unfold cg;rw[u,amB hz]);have G:nxt lens (i+1)=nxt lens i:=by
    funext m
    unfold nxt;rw[p,aqR,atB];by_cases g:m=0
    ·rw[amB g,amB g]
    ·rw[amA g,amA g];have:(lens[i]==m)=false:=by simp;omega
     rw[this];simp
   rw[F,G];exact c
 ·simp only[t,amF,i_f];have L:i=lens.length:=om
  subst L;have er:gE lens lens.length=aV (ij lens):=by
   unfold gE;rw[anJ (by rw[ir];omega)];simp
  rw[er] at c;have c:=OwnS.toU (b:=s) (cs:=aV (ij lens)) (E:=3) c 1 lens.length lens.length (by unfold aV;rw[anP,ir];omega) om om;obtain⟨N,hle,j,c⟩:=OwnS.bI c 1 rfl;rw[anJ (by unfold aV;rw[anP,ir];omega)] at j;exact O _ _ N _ 1 c rfl hle ⟨_,by rw[B],rfl,λ_=>j⟩
end
section
open Eng
def kK(t0 w)(K:KT):=nz f322 1 [] [] [] (zg [0] [t0]) w K
theorem rK:kK t0 w k0->Calls ah 322 #[t0] w k0:=cw func322
def iQ(a b w)(j:JT)(K:KT):=
 lnx 123 a w K λc w=>bnx .lss 3 b c w K λd w=>IfX d (QuietX w (λi=>QDo ah i (eI 123 a (ax b) aw aw) λe=>QDo ah i (eI 123 a aw (ax b) aw) λf=>
 ∀w,i w ->
 DoX ah (mB .copy #[123,123] 3 #[au,au] #[e,f]) w (ay 5 (pk K)) λg w=>DoX ah (mBin .add 3 b g) w (ay 5 (pk K)) λh w=>j [h] w)) (K (.returned a) w)
def iG(t0 t6 w)(K:KT):=nz f320 31 [] [(17,[8],λs v j w f=>iQ (s 7) (vg v 0) w (f 0) K)] [] (zg [0,6] [t0,t6]) w K
def iK(t0 t1 w)(K:KT):=nz f320 7 [] [(12,[],λs v j w f=>iG (s 0) (s 6) w K)] [] (zg [0,1] [t0,t1]) w K
def jS(t0 t1 w)(K:KT):=nz f320 1 [] [(6,[],λs v j w f=>iK (s 0) (s 1) w K)] [] (zg [0,1] [t0,t1]) w K
theorem pI:jS t0 t1 w k0->Calls ah 320 #[t0,t1] w k0:=cz [(3,[]),(6,[])] [(8,[8])] func320
end
section
open Eng Go.RowKit
theorem CP :∀x∈aV l,x.oneCell'=true:=by
 intro x a;obtain⟨n,-,rfl⟩:=anK.1 a;rfl
theorem eO (l:List Nat):(aV l).length=l.length:=by simp[aV]
theorem ZB {off n c:Nat}:DoX ah (mEq .eql 123 xo yo (.slice (ax ⟨b,off,aw⟩) n c) (.slice aw 0 0)) w PK K=K (.bool au) w:=aD krx
theorem I4 (l:List Nat)(v:aq)(M:Mem)(w:ao)(i:l.length<=100000)(j:0 < l.length)(e:M.has w)(f:SlA M.A M.w v 1 l.length (aV l)) :
  RetM ah 322 #[v] M w (λr N=>SlA N.A N.w r 1 l.length (aV l)):=by
 refine bB e λK g=>rK ?_;unfold kK nz;have a:OwnS M.A w w [.mem M]:=OwnS.memS e;have go:∀{b off n c:Nat},v=.slice (ax ⟨b,off,aw⟩) n c->DoX ah (mEq .eql 123 (.tmp 3) (.const (.slice aw 0 0)) v (.slice aw 0 0)) w (Eng.pk K) λt4 w=>IfX t4 (K (.returned (.slice aw 0 0)) w) (DoX ah (bN 123 0 #[]) w (Eng.pk K) λt5 w=>
   DoX ah (mB .append #[123,123] 123 #[au,au] #[t5,v]) w (Eng.pk K) λt7 w=>K (.returned t7) w):=by
  rintro b off n c rfl;rw[ZB,i_f];refine SL a λv0 k a=>?_;refine oA 0 a rfl (f.now (a.hasM 1 rfl)) CP om λv1 w2 a=>?_;obtain⟨N,hle,d,a⟩:=OwnS.bI (L:=[.mem M]) a 0 rfl;refine g _ _ N _ 0 a rfl hle ?_;rw[amO] at d;exact d
 obtain⟨b,off,cap,h,-⟩:=bY f.1 om;exact go h
def tbC (a b:aq)(f g:Nat->Int)(o:aq):List Value:=a::b::(nsC f++(nsC g++[o]))
def tbV (a b:aq)(f g:Nat->Int)(o:aq):Value:=.agg (tbC a b f g o).toArray
def tbE (c:Nat)(a b:aq)(f g:Nat->Int)(o:aq):Ent:=.cells c (tbC a b f g o) 337
theorem Yw:fOff ah 337 0=ax 0:=krx
theorem adL:fOff ah 337 1=ax 1:=krx
theorem abX:fOff ah 337 2=ax 2:=krx
theorem adM:fOff ah 337 3=ax 18:=krx
theorem acG:fOff ah 337 4=ax 34:=krx
def jy (lens:List Nat)(l:Nat):List Nat:=(List.range lens.length).filter λi=>ai (lens.getD i 0=l)
def bg (lens:List Nat):Nat->List Nat
|0=>[]
|l+1=>bg lens l++jy lens (l+1)
end
section
open Eng Go.RowKit
abbrev fstW (lens:List Nat):Nat->Int:=λi=>((Fl.first lens (if i<=15 then i else 0):Nat):Int)
def TbAt (A:Nat->Prop)(w:ao)(b:Nat)(lens:List Nat):Prop:=∃a c o,A b∧(tbE b a c (cnt lens) (fstW lens) o).is w∧SlA A w o 1 (bg lens 15).length (aV (bg lens 15))
theorem PE:eD ah 294=true:=krx
section
variable {w:ao}{PK:PKT}{K:VWP}{S:Nat->Prop}{w0:ao}{L:List Ent}
theorem O3 {off:Nat}:DoX ah (mFA 337 (.pointer (ax ⟨b,off,aw⟩)) 2) w PK K=K (.pointer (ax ⟨b,off+2,aw⟩)) w:=aO abX
theorem Vn {off:Nat}:DoX ah (mFA 337 (.pointer (ax ⟨b,off,aw⟩)) 3) w PK K=K (.pointer (ax ⟨b,off+18,aw⟩)) w:=aO adM
theorem Mj {off:Nat}:DoX ah (mFA 337 (.pointer (ax ⟨b,off,aw⟩)) 4) w PK K=K (.pointer (ax ⟨b,off+34,aw⟩)) w:=aO acG
theorem m_tb {a:aq}{f:Nat->Int}(b:a.oneCell'=av)(d:c.oneCell'=av):DoX ah (aS 337 #[(0,a),(1,c),(2,nsV f)]) w PK K=K (tbV a c f (λ_=>0) nilS) w:=by
 cases a<;>first|(cases b;done)|skip
 all_goals cases c<;>first|(cases d;done)|exact aD krx
theorem afZ {a:aq}{f g:Nat->Int}(d:a.oneCell'=av)(e:c.oneCell'=av)(h:OwnS S w0 w L)(k:∀b w',OwnS S w0 w' (tbE b a c f g nilS::L)->K (.pointer (ax ⟨b,0,aw⟩)) w'):DoX ah (mBox 337 (tbV a c f g nilS)) w PK K:=by
 cases a<;>first|(cases d;done)|skip
 all_goals cases c<;>first|(cases e;done)|exact bA (λb=>.pointer (ax ⟨b,0,aw⟩)) (tbC _ _ f g nilS) 337 (λ_=>by kernel_rfl) h k
theorem tb_n (d:OwnS S w0 w L)(j:Nat){a o:aq}{f g:Nat->Int}(hi:L[j]?=ax (tbE b a c f g o)):DoX ah (aH 334 (.pointer (ax ⟨b,0+2,aw⟩))) w PK K=K (nsV f) w:=l_at (d.VN j hi (0+2) (nsC f) rfl Za)
theorem PR (d:OwnS S w0 w L)(j:Nat){a o:aq}{f g:Nat->Int}(hi:L[j]?=ax (tbE b a c f g o)):DoX ah (aH 123 (.pointer (ax ⟨b,0+34,aw⟩))) w PK K=K o w:=aJ Ez (d.cell j hi 34 rfl)
theorem Tp (j:Nat){a o:aq}{f g d:Nat->Int}(e:OwnS S w0 w L)(hi:L[j]?=ax (tbE b a c f g o))(k:∀w',OwnS S w0 w' (L.set j (tbE b a c f d o))->K undef w') :
  DoX ah (aN 334 (.pointer (ax ⟨b,0+18,aw⟩)) (nsV d)) w PK K:=xR j e hi (new:=nsC d) szNs (SY d) (by show 0+18+16<=35;omega) k
theorem VM (j:Nat){a o o':aq}{f g:Nat->Int}(h:o'.oneCell'=av)(d:OwnS S w0 w L)(hi:L[j]?=ax (tbE b a c f g o))(k:∀w',OwnS S w0 w' (L.set j (tbE b a c f g o'))->K undef w') :
  DoX ah (aN 123 (.pointer (ax ⟨b,0+34,aw⟩)) o') w PK K:=aK j d hi krx h (by show 0+34 < 35;omega) k
end
def cj (lens:List Nat)(l i:Nat):List Nat:=(List.range i).filter λi=>ai (lens.getD i 0=l)
theorem pg (lens:List Nat)(l i:Nat):(cj lens l i).length<=i:=by
 have:=atP (λi=>ai (lens.getD i 0=l)) (List.range i);rw[atQ] at this;exact this
theorem ph (lens:List Nat):∀l,(bg lens l).length<=l*lens.length
|0=>by simp[bg]
|l+1=>by
  have a:=ph lens l;have b:=pg lens (l+1) lens.length;have e:jy lens (l+1)=cj lens (l+1) lens.length:=rfl;rw[bg,amC,e,aoM];omega
theorem mS (a b:List Nat):aV (a++b)=aV a++aV b:=by simp[aV]
theorem BX (lens:List Nat)(v:aq)(M:Mem)(w:ao)(j:∀l∈lens,l<=15)(g:lens.length<=100000)(P:0 < lens.length)(z:M.has w)(y:SlA M.A M.w v 1 lens.length (aV lens)) :
  RetM ah 295 #[v] M w (λr N=>if bh lens≠0 then r=.tuple #[.pointer aw,.int .i64 (bh lens)] else ∃b,r=.tuple #[.pointer (ax ⟨b,0,aw⟩),.int .i64 0]∧TbAt N.A N.w b lens):=by
 refine bB z λK G=>Cd ?_;unfold DM nz;have a:OwnS M.A w w [.mem M]:=OwnS.memS z;refine bH a 0 rfl (JE lens v M w j g z y) ?_;rintro _ N1 Q g1 ⟨cv,rfl,k,m⟩ a;simp only[ex,eN];by_cases n:bh lens=0
 case neg=>
  simp only[n,ne_eq,aqD,amD,i_t];exact G _ _ N1 _ 0 a rfl g1 (by rw[amB n])
 have m:=m n;simp only[n,ne_eq,not_true,amF,i_f];refine bH a 0 rfl (I4 lens v N1 Q g P (a.hasM 0 rfl) (y.le g1)) λd e w2 g2 o a=>?_;refine aL a (R:=λr=>r=nsV (cnt lens)) (RetM.told (tX lens v e w2 j g (a.hasM 0 rfl) (y.le (g1.trans g2)))) ?_;rintro _ w3 rfl a;rw[m_tb o.one k];refine afZ o.one k a λb S a=>?_;rw[bG,O3,tb_n a 0 rfl];refine aL a (R:=λr=>r=nsV (fstW lens)) (RetM.told (DX lens e S g (a.hasM 1 rfl))) ?_;rintro _ w5 rfl a;rw[bG,Vn];refine Tp 0 a rfl λT a=>?_;have p:=y.le (g1.trans g2);have a:OwnS M.A w T [.urow 3 1 nilS 0 [],tbE b d cv (cnt lens) (fstW lens) nilS,.mem e]:=OwnS.nilU (L:=[tbE b d cv (cnt lens) (fstW lens) nilS,.mem e]) a _ _;refine loop (λvs W=>∃(l:Nat) (ov:aq),vs=[.int .i64 ((l+1:Nat):Int)]∧l<=15∧OwnS M.A w W [.urow 3 1 ov (bg lens l).length (aV (bg lens l)),tbE b d cv (cnt lens) (fstW lens) ov,.mem e]) (λvs _=>16 - n0 vs) ⟨0,nilS,rfl,om,a⟩ ?_;clear a;rintro vs U ⟨l,ov,rfl,q,a⟩ _;simp only[xI,gd,rs,nz];by_cases s:((l+1:Nat):Int)<=15
 ·simp only[s,amD,i_t];rw[bD amZ (p.now (a.hasM 2 rfl))];have V:=ph lens l;have H:l*lens.length<=15*100000:=apM q g;refine loop (λvs W=>∃(i:Nat) (ov:aq),vs=[.int .i64 i]∧i<=lens.length∧OwnS M.A w W [.urow 3 1 ov (bg lens l++cj lens (l+1) i).length (aV (bg lens l++cj lens (l+1) i)),tbE b d cv (cnt lens) (fstW lens) ov,.mem e]) (λvs _=>lens.length - n0 vs) ⟨0,ov,rfl,om,by
   rw[show cj lens (l+1) 0=[] from rfl,amY];exact a⟩ ?_
  clear a;rintro vs I ⟨i,ov,rfl,hi,a⟩ _;simp only[zL,gd,rs,nz];by_cases f:(i:Int) < (lens.length:Int)
  ·have t:i < lens.length:=om
   simp only[f,amD,i_t];refine join λJ X=>?_;obtain⟨b2,off,Y,Z⟩:=mU (p.now (a.hasM 2 rfl)) t;have B:lens.getD i 0=lens[i]:=by rw[amI,amN t];rfl
   refine aD (Y I) |>.mpr (aD (aB aU Z) |>.mpr ?_);have a1:=pg lens (l+1) i;have c:cj lens (l+1) (i+1)=cj lens (l+1) i++(if lens[i]=l+1 then [i] else []):=by
    unfold cj;rw[arO,atS]
    congr 1
    rw[<-B];by_cases h:lens.getD i 0=l+1
    ·rw[amB h];exact List.filter_cons_of_pos (amG h)
    ·rw[amA h];exact List.filter_cons_of_neg (by rw[amE h];decide)
   have fin:∀(W:ao) (ov:aq),OwnS M.A w W [.urow 3 1 ov (bg lens l++cj lens (l+1) (i+1)).length (aV (bg lens l++cj lens (l+1) (i+1))),tbE b d cv (cnt lens) (fstW lens) ov,.mem e]->J [] W:=by
    intro W ov a;refine X _ _ λ_=>?_;simp only[xP,gd,rs,nz];rw[aA om om];exact aY ⟨i+1,ov,rfl,om,a⟩ (by simp[n0,RowKit.intOf];omega)
   simp only[rs];by_cases he:lens[i]=l+1
   ·rw[amB he] at c;simp only[show ai (((lens[i]:Nat):Int)=((l+1:Nat):Int))=av from amG om,i_t,rs,bG];rw[Mj,PR a 1 rfl];refine uN (i:Int) a λb3 w9 a=>?_;refine oA 1 a rfl (a.sl 0 rfl 1 1 1 rfl) tD (by rw[amC];omega) λv' a6 a=>?_
    try simp only[rs,bG]
    rw[Mj];refine VM 2 (cQ (a.at_ 1 rfl)) a rfl λC a=>?_;refine fin C v' ?_;have e1:aV (bg lens l++cj lens (l+1) (i+1))=aV (bg lens l++cj lens (l+1) i)++NZ [(i:Int)]:=by
     rw[c,<-amM,mS];rfl
    have e2:(bg lens l++cj lens (l+1) (i+1)).length=(bg lens l++cj lens (l+1) i).length+1:=by
     rw[c,<-amM,amC];rfl
    rw[e1,e2];exact a.tail
   ·rw[amA he,amY] at c;simp only[show ai (((lens[i]:Nat):Int)=((l+1:Nat):Int))=au from amE om,i_f];refine fin I ov ?_;rw[c];exact a
  ·simp only[f,amF,i_f];have D:i=lens.length:=om
   subst D;rw[aA om om];exact aY ⟨l+1,ov,rfl,om,a⟩ (by simp[n0,RowKit.intOf];omega)
 ·have g:l=15:=om
  subst g;simp only[s,amF,i_f];obtain⟨O,g3,u,a⟩:=OwnS.bI (L:=[tbE b d cv (cnt lens) (fstW lens) ov,.mem e]) a 1 rfl;have a:OwnS M.A w U [tbE b d cv (cnt lens) (fstW lens) ov,.mem O]:=a;have E:=a.at_ 0 rfl;obtain⟨N4,g4,F,x,a⟩:=OwnS.freeze (L:=[.mem O]) a 0 rfl;refine G _ _ N4 _ 0 a rfl (g1.trans (g2.trans (g3.trans g4))) ?_;rw[amA (by simp[n])];exact⟨b,rfl,d,cv,ov,x b rfl,by rw[F];exact E,u.le g4⟩
end
section
open Eng Go.RowKit
def gy (lens:List Nat)(s:List UInt8):Nat->Nat->Nat->Nat->Nat×Nat×Int
|0,_,p,_=>(0,p,13)
|f+1,l,p,code=>if Fl.bC lens 15<=Fl.bC lens l then (0,p,13) else if 8*s.length<=p then (0,p,4)
  else if 2*code+Fl.bit s p < Fl.first lens (l+1)+lens.count (l+1) then ((bg lens 15).getD (Fl.bC lens l+(2*code+Fl.bit s p - Fl.first lens (l+1))) 0,p+1,0)
  else gy lens s f (l+1) (p+1) (2*code+Fl.bit s p)
def dk (lens:List Nat)(s:List UInt8)(p:Nat):Nat×Nat×Int:=gy lens s 16 0 p 0
theorem ra (lens:List Nat):(List.range lens.length).map (λi=>lens.getD i 0)=lens:=by
 refine atT sm λi b a=>?_;rw[List.getElem_map,List.getElem_range,amI,amN a];rfl
theorem pj (lens:List Nat)(l:Nat):(jy lens l).length=lens.count l:=by
 conv=>rhs;rw[<-ra lens]
 rw[List.count_eq_countP,List.countP_map,List.countP_eq_length_filter];unfold jy
 congr 1
theorem mw (lens:List Nat):∀l,(bg lens l).length=Fl.bC lens l
|0=>rfl
|l+1=>by rw[bg,amC,mw lens l,pj,Fl.bC]
theorem mf (lens:List Nat){a:Nat}(h:a<=b):Fl.bC lens a<=Fl.bC lens b:=by
 induction b with
|zero=>
  have:a=0:=om
  subst this;exact amJ _
|succ b c=>
  rcases anE a (b+1) with d|d
  ·have:=c om;rw[Fl.bC];omega
  ·have:a=b+1:=om
   subst this;exact amJ _
theorem acJ {c:Nat}(a:b < 2)(d:c<=1000000):bOr .i64 ((c*2:Nat):Int) (b:Int)=((2*c+b:Nat):Int):=by
 have e:c*2 ||| b=2*c+b:=by
  have:=atO (i:=1) (b:=b) (by simpa using a) c;rw[aoY c];simpa using this.symm
 unfold bOr;show IntKind.wrap .i64 (((BitVec.ofInt 64 ((c*2:Nat):Int) ||| BitVec.ofInt 64 (b:Int)).toNat:Nat):Int)=_;rw[BitVec.ofInt_natCast,BitVec.ofInt_natCast,BitVec.toNat_or,BitVec.toNat_ofNat,BitVec.toNat_ofNat,anZ om,anZ om,e];exact aA om om
theorem Wx {a o:aq}{f g:Nat->Int}(d:M.A b)(h:(tbE b a c f g o).is M.w)(e:M.has W):(tbE b a c f g o).is W:=by
 show W.heap[b]?=_;rw[e b d];exact h
section
variable {W:ao}{b:Nat}{a c o:aq}{f g:Nat->Int}
theorem aaP (h:(tbE b a c f g o).is W):(aH 123 (.pointer (ax ⟨b,0+34,aw⟩))).run ah W=.ok (.value o) W:=aB Ez (aI (T:=337) (cs:=tbC a c f g o) h rfl)
theorem T3 (h:(tbE b a c f g o).is W)(hi:i < 16):(aH 3 (.pointer (ax ⟨b,0+2+i,aw⟩))).run ah W=.ok (.value (.int .i64 (f i))) W:=aB aU (aI (T:=337) (cs:=tbC a c f g o) h (by
 unfold tbC;rw[show 0+2+i=i+1+1 by omega,anM,anM,aoL (by show i < 16;exact hi)];exact GB f hi))
theorem aaA (h:(tbE b a c f g o).is W)(hi:i < 16):(aH 3 (.pointer (ax ⟨b,0+18+i,aw⟩))).run ah W=.ok (.value (.int .i64 (g i))) W:=aB aU (aI (T:=337) (cs:=tbC a c f g o) h (by
 unfold tbC;rw[show 0+18+i=(i+16)+1+1 by omega,anM,anM,aoQ (by show 16<=i+16;omega)];show (nsC g++[o])[i+16 - 16]?=_;rw[aqQ,aoL (by show i < 16;exact hi)];exact GB g hi))
end
theorem G4 {a:Option Addr}{l:Nat}{p:Addr}(h:subA a l cap sz=ax p):∃q:Addr,a=ax q∧q.block=p.block:=by
 unfold subA at h;split at h
 ·exact⟨p,h,rfl⟩
 ·obtain⟨q,b,rfl⟩:=aoJ.1 h;exact⟨q,b,by unfold Addr.add;split<;>rfl⟩
theorem SlA.YT {a:Option Addr}{n:Nat}(h:SlA A w (.slice a n cap) sz n cs)(hi:i<=n):SlA A w (.slice (subA a i cap sz) (n - i) (cap - i)) sz (n - i) (cs.drop (i*sz)):=by
 have b:=h.2.2 _ _ _ rfl;refine⟨Sl.from h.1 hi b,λp l c e g=>?_,λa' l c e=>?_⟩
 ·injection e with e _ _
  obtain⟨q,d,f⟩:=G4 e;have:=h.2.1 q n cap (by rw[d]) om
  rwa [<-f]
 ·injection e with _ j k
  omega
theorem Vu :DoX ah (mEq .eql 294 xo yo (.pointer (ax ⟨b,0,aw⟩)) (.pointer aw)) w PK K=K (.bool au) w:=aD krx
section
variable {w:ao}{PK:PKT}{K:VWP}{S:Nat->Prop}{w0:ao}{L:List Ent}
theorem Oe {s:List UInt8}{lens:List Nat}(j jm:Nat)(D:jm≠j)(a:OwnS S w0 w L)(P:L[j]?=ax (bqE b s way p))(hm:L[jm]?=ax (.mem M))(ht:TbAt M.A M.w tb lens)(hl:lens.length<=1000)(hw:way=0∨way=1)(hp:p<=8*s.length)(hs:s.length<=1000000000)
  (k:∀way' W,way'=0∨way'=1->(dk lens s p).2.1<=8*s.length->OwnS S w0 W (L.set j (bqE b s way' (dk lens s p).2.1))->K (.tuple #[.int .i64 (dk lens s p).1,.int .i64 (dk lens s p).2.2]) W) :
  CallX ah 347 #[.pointer (ax ⟨tb,0,aw⟩),.pointer (ax ⟨b,0,aw⟩)] w PK K:=by
 have E:j < L.length:=(amS.1 P).1;generalize hR:dk lens s p=R at k;refine fH (As (k0:=RetK λv W=>∃way',(way'=0∨way'=1)∧R.2.1<=8*s.length∧v=.tuple #[.int .i64 R.1,.int .i64 R.2.2]∧OwnS S w0 W (L.set j (bqE b s way' R.2.1))) ?_) (λe W ⟨v,he,way',F,h2,hv,a⟩=>by subst he;subst hv;exact k way' W F h2 a);unfold sG nz;obtain⟨ta,tc,tv,Q,g,m⟩:=ht;rw[Vu];simp only[rs];rw[Eg];simp only[rs,bG];have o:∀x:Int×Nat,(L.set j (bqE b s x.1 x.2))[jm]?=ax (.mem M):=λx=>by rw[arJ (Ne.symm D)];exact hm
 rw[Mj];refine aD (aaP (Wx Q g (a.hasM jm hm))) |>.mpr ?_;have hlen:=mw lens 15;refine loop (λvs W=>∃(l q code:Nat) (way:Int) (G:aq),vs=[G,.int .i64 code,.int .i64 ((l+1:Nat):Int)]∧SlA M.A M.w G 1 (Fl.bC lens 15 - Fl.bC lens l) (aV ((bg lens 15).drop (Fl.bC lens l)))∧l<=15∧code < 2 ^ l∧Fl.first lens (l+1)<=2*code∧(way=0∨way=1)∧q<=8*s.length ∧
  gy lens s (16 - l) l q code=R∧OwnS S w0 W (L.set j (bqE b s way q))) (λvs _=>16 - n2 vs) ⟨0,p,0,way,tv,rfl,?_,om,dc,by simp[Fl.first],hw,hp,hR,by rw[uH P];exact a⟩ ?_
 ·rw[show Fl.bC lens 0=0 from rfl,aoT,asU,<-hlen];exact m
 clear a;rintro vs w2 ⟨l,q,code,way,G,rfl,f,r,a1,a6,hw,H,c,a⟩ _;simp only[pC,gd,nz];rw[bD amZ (f.now (a.hasM jm (o (way,q))))];simp only[rs];have a7:=mf lens r;have a8:=Fl.HC (lens:=lens) 15;have I:16 - l=(15 - l)+1:=om
 rw[I,gy] at c;have J:(L.set j (bqE b s way q))[j]?=ax (bqE b s way q):=by rw[apN E]
 by_cases t:(0:Int) < ((Fl.bC lens 15 - Fl.bC lens l:Nat):Int)
 case neg=>
  simp only[t,amF,i_f];rw[amB om] at c;subst c;exact retK ⟨way,hw,H,rfl,a⟩
 have T:l < 15:=by
  rcases anE l 15 with h|h
  ·exact h
  ·have:l=15:=om
   subst this;omega
 rw[amA om] at c;simp only[t,amD,i_t];refine abZ (n:=1) j a J hw H om hs (λF W a=>?_) (λF W a=>?_)
 ·rw[amB dc,arI] at a;rw[amA om] at c;have u:Fl.num s q 1=Fl.bit s q:=by simp[Fl.num]
  simp only[ex,eN,show ai ((0:Int)≠0)=au by decide,i_f];have hb:=Fl.VF s q;have U:2 ^ l<=2 ^ 14:=aoH dc om;have V:(2:Nat) ^ 14=16384:=dc
  rw[FV dc];rw[show (code:Int)*2 ^ (min (1:Int).toNat IntKind.i64.bits)=((code*2:Nat):Int) by
   rw[show min (1:Int).toNat IntKind.i64.bits=1 from rfl];push_cast;omega]
  rw[aA om om,u,b_or,acJ hb om];have X:=a.hasM jm (o (1,q+1));have d:=Wx Q g X
  try simp only[rs,bG]
  rw[Vn,H7 om];refine aD (aaA d om) |>.mpr ?_;have y:fstW lens (l+1)=((Fl.first lens (l+1):Nat):Int):=by show ((Fl.first lens (if l+1<=15 then l+1 else 0):Nat):Int)=_;rw[amB om]
  have z:cnt lens (l+1)=((lens.count (l+1):Nat):Int):=by unfold cnt;rw[amA om]
  have b0:lens.count (l+1)<=lens.length:=arF;rw[y]
  try simp only[rs,bG]
  rw[aA om om,O3,H7 om];refine aD (T3 d om) |>.mpr ?_;rw[z]
  try simp only[rs]
  have N:Fl.bC lens (l+1)=Fl.bC lens l+lens.count (l+1):=by rw[Fl.bC]
  have Y:=mf lens (show l+1<=15 by omega);by_cases B:((2*code+Fl.bit s q:Nat):Int) - ((Fl.first lens (l+1):Nat):Int) < ((lens.count (l+1):Nat):Int)
  ·simp only[B,amD,i_t];rw[amB om] at c;have O:((bg lens 15).drop (Fl.bC lens l)).length=Fl.bC lens 15 - Fl.bC lens l:=by rw[amQ,hlen]
   have C:2*code+Fl.bit s q - Fl.first lens (l+1) < ((bg lens 15).drop (Fl.bC lens l)).length:=om
   obtain⟨b2,off,r1,r2⟩:=mU (l:=(bg lens 15).drop (Fl.bC lens l)) (by rw[O];exact f.now X) C;rw[show ((2*code+Fl.bit s q:Nat):Int) - ((Fl.first lens (l+1):Nat):Int)=((2*code+Fl.bit s q - Fl.first lens (l+1):Nat):Int) by omega];refine aD (r1 W) |>.mpr (aD (aB aU r2) |>.mpr ?_);have e0:((bg lens 15).drop (Fl.bC lens l))[2*code+Fl.bit s q - Fl.first lens (l+1)]=(bg lens 15).getD (Fl.bC lens l+(2*code+Fl.bit s q - Fl.first lens (l+1))) 0:=by
    rw[List.getElem_drop,amI,amN (by rw[amQ] at C;omega)];rfl
   rw[e0];generalize (bg lens 15).getD (Fl.bC lens l+(2*code+Fl.bit s q - Fl.first lens (l+1))) 0=sym at c;subst c;exact retK ⟨1,.inr rfl,by show q+1<=_;omega,rfl,a⟩
  ·simp only[B,amF,i_f];rw[amA om] at c
   try simp only[rs,bG]
   rw[O3,H7 om];refine aD (T3 d om) |>.mpr ?_;rw[z];obtain⟨oa,oc,rfl,Z⟩:=f.form;refine aD (dR amZ (show _=ax 1 by kernel_rfl) om om) |>.mpr ?_;rw[amK]
   try simp only[rs]
   rw[aA om om];refine aY ⟨l+1,q+1,2*code+Fl.bit s q,1,_,rfl,?_,om,?_,?_,.inr rfl,om,?_,a⟩ (by simp[n2,RowKit.intOf];omega)
   ·have:=f.YT (i:=lens.count (l+1)) om;rw[show Fl.bC lens 15 - Fl.bC lens (l+1)=Fl.bC lens 15 - Fl.bC lens l - lens.count (l+1) by omega];have e:(aV ((bg lens 15).drop (Fl.bC lens l))).drop (lens.count (l+1)*1)=aV ((bg lens 15).drop (Fl.bC lens (l+1))):=by
     unfold aV;rw[anC,<-List.map_drop,aqJ,N]
    rw[<-e];exact this
   ·rw[aoN];omega
   ·rw[Fl.first];omega
   ·rw[show 16 - (l+1)=15 - l by omega];exact c
 ·simp only[ex,eN,show ai ((4:Int)≠0)=av by decide,i_t];rw[amB om] at c;subst c;exact retK ⟨way,hw,H,rfl,a⟩
end
end
section
open Eng Go.RowKit
def flC (rb:Nat)(ov:aq)(most:Int):List Value:=[.pointer (ax ⟨rb,0,aw⟩),ov,.int .i64 most]
def flE (b rb:Nat)(ov:aq)(most:Int):Ent:=.cells b (flC rb ov most) 278
def outR (ov:aq)(out:List UInt8):Ent:=.urow 5 1 ov out.length (aP out)
theorem Tc:fOff ah 278 0=ax 0:=krx
theorem xS:fOff ah 278 1=ax 1:=krx
theorem ahH:fOff ah 278 2=ax 2:=krx
theorem X2:eD ah 275=true:=krx
theorem On:eD ah 53=true:=krx
section
variable {w:ao}{PK:PKT}{K:VWP}{S:Nat->Prop}{w0:ao}{L:List Ent}
theorem Mx {off:Nat}:DoX ah (mFA 278 (.pointer (ax ⟨b,off,aw⟩)) 0) w PK K=K (.pointer (ax ⟨b,off,aw⟩)) w:=aO Tc
theorem TL (a:OwnS S w0 w L)(j:Nat){ov:aq}{most:Int}(hi:L[j]?=ax (flE b rb ov most)):DoX ah (aH 275 (.pointer (ax ⟨b,0,aw⟩))) w PK K=K (.pointer (ax ⟨rb,0,aw⟩)) w:=aJ X2 (a.cell j hi 0 rfl)
theorem oC {ov:aq}{most:Int}{s:List UInt8}{n:Nat}(e j:Nat)(a:OwnS S w0 w L)(c:L[e]?=ax (flE fb b ov most))(f:L[j]?=ax (bqE b s way p))(hw:way=0∨way=1)(hp:p<=8*s.length)(g:n<=24)(i:s.length<=1000000000)
  (k:p+n<=8*s.length->∀W,OwnS S w0 W (L.set j (bqE b s (if 0 < n then 1 else way) (p+n)))->K (.int .i64 (Fl.num s p n)) W)
  (l:8*s.length < p+n->∀W,OwnS S w0 W L->PK [upI 4] W):CallX ah 305 #[.pointer (ax ⟨fb,0,aw⟩),.int .i64 (n:Int)] w PK K:=by
 refine⟨uL ?_⟩;unfold nJ nz;rw[bG,Mx,TL a e c];refine abZ j a f hw hp g i (λd W a=>?_) (λd W a=>?_)
 ·simp only[ex];exact tO (λ_=>k d W a) (λh=>absurd rfl h)
 ·simp only[ex];exact tO (λh=>absurd h dc) (λ_=>l d W a)
theorem SO {ov:aq}{n:Nat}{out:List UInt8}(e g:Nat)(d:OwnS S w0 w L)(c:L[e]?=ax (flE fb b ov most))(f:L[g]?=ax (outR ov out))(l:n<=1000000000)(hm:most<=1000000000)(i:out.length<=1000000000)
  (j:out.length+n<=most->∀W,OwnS S w0 W L->K (.tuple #[]) W) (k:most < out.length+n->∀W,OwnS S w0 W L->PK [upI 5] W):CallX ah 334 #[.pointer (ax ⟨fb,0,aw⟩),.int .i64 (n:Int)] w PK K:=by
 refine⟨tS ?_⟩;unfold nM nz;refine dW (λW=>OwnS S w0 W L) d.drew ?_;refine q_do _ (λ_=>dK) (q_do _ (λ_=>bE xS) (q_at ov (λW h=>aB On (h.cell e c 1 rfl)) ?_));refine q_at (.int .i64 (out.length:Int)) (λW h=>?_) ?_
 ·have:=h.slU g f;obtain⟨_,a,cap,rfl,_⟩:=this;simp[mB,builtin,Builtin.len_,run_underlying anD,goInt]
 refine pJ ?_;rw[aA om om];refine q_do _ (λ_=>dK) (q_do _ (λ_=>bE ahH) (q_at (.int .i64 (most:Int)) (λW h=>aB aU (h.cell e c 2 rfl)) (Zj ?_)));intro w2 d;exact iU (λh=>j (by have:=amU h;omega) w2 d) (λh=>k (by have:=anO h;omega) w2 d)
theorem pX {e:Int}(a:e=0->K v w)(b:e≠0->PK [upI e] w):CallX ah 338 #[v,.int .i64 e] w PK K:=by
 refine⟨iJ ?_⟩;unfold eQ nz;simp only[rs];exact iU (λh=>a (amU h)) λh=>b (anO h)
end
end
section
open Eng Go.RowKit
def fm (each first:Nat):Nat->Nat
|0=>first
|i+1=>fm each first i+2 ^ (i / each - 1)
theorem pn (each first:Nat):∀i,i<=40->fm each first i<=first+i*2 ^ 40
|0,_=>by simp[fm]
|i+1,h=>by
  have a:=pn each first i om
  have b:i / each<=i:=arH _ _;have c:2 ^ (i / each - 1)<=2 ^ 40:=aoH dc om;rw[fm,aoM];omega
def snC (a b:Int):List Value:=[.int .i64 a,.int .i64 b]
def snV (a b:Int):Value:=.agg (snC a b).toArray
def snE (c:Nat)(a b:Int):Ent:=.cells c (snC a b) 371
theorem akD:aggN ah 371=ax 2:=krx
theorem szSn:(Tryz.prog.info? 371).map (·.size)=ax 2:=krx
theorem adS:fOff ah 371 0=ax 0:=krx
theorem aeB:fOff ah 371 1=ax 1:=krx
section
variable {w:ao}{PK:PKT}{K:VWP}{S:Nat->Prop}{w0:ao}{L:List Ent}
theorem aaQ (a:OwnS S w0 w L)(k:∀b w',OwnS S w0 w' (snE b 0 0::L)->K (.pointer (ax ⟨b,0,aw⟩)) w'):DoX ah (iH 371) w PK K:=
 bA (λb=>.pointer (ax ⟨b,0,aw⟩)) (snC 0 0) 371 (λ_=>by kernel_rfl) a k
theorem ajQ (a c:Int)(d:OwnS S w0 w L)(k:∀b w',OwnS S w0 w' (snE b a c::L)->K (.pointer (ax ⟨b,0,aw⟩)) w'):DoX ah (mBox 371 (snV a c)) w PK K:=
 bA (λb=>.pointer (ax ⟨b,0,aw⟩)) (snC a c) 371 (λ_=>by kernel_rfl) d k
theorem m_sn {c:Int}:DoX ah (aS 371 #[(0,.int .i64 a),(1,.int .i64 c)]) w PK K=K (snV a c) w:=aD krx
theorem alH :DoX ah (aS 371 #[(0,.int .i64 a)]) w PK K=K (snV a 0) w:=aD krx
theorem PV (j:Nat){c a' d:Int}(f:OwnS S w0 w L)(hi:L[j]?=ax (snE b a c))(k:∀w',OwnS S w0 w' (L.set j (snE b a' d))->K undef w') :
  DoX ah (aN 371 (.pointer (ax ⟨b,0,aw⟩)) (snV a' d)) w PK K:=gX j f hi (new:=snC a' d) szSn (by intro v e;simp only[snC,amH,anW,or_false] at e;rcases e with rfl|rfl<;>rfl) rfl k
theorem PF {K:Ending->ao->Prop}{c:Int}(i:Nat)(d:OwnS S w0 w L)(hi:L[i]?=ax (snE b a c))(k:K (.returned (snV a c)) w):RetX ah [.cell (.pointer (ax ⟨b,0,aw⟩)) 371] w K:=
 iA (bJ (d.agg i hi akD)) k
end
theorem Jd (i first each:Nat)(w:ao)(hi:i<=40)(he:1<=each)(o:first<=1000):Ret ah 364 #[.int .i64 (i:Int),.int .i64 (first:Int),.int .i64 (each:Int)] w (λv w'=>v=snV (fm each first i) ((i / each - 1:Nat):Int)∧Below w.heap.size w w'):=by
 refine aZ λK j=>BK ?_;unfold vD nz;refine aaQ (Own.start w) λb l a=>?_;have a:Own w l [snE b 0 0]:=a;have more:∀q:Nat,max 0 (((q:Nat):Int) - 1)=((q - 1:Nat):Int):=λq=>by omega
 have quo:∀k:Nat,((k:Nat):Int).tdiv (each:Int)=((k / each:Nat):Int):=λk=>by
  rw[auM om];rfl
 refine loop (λvs W=>∃k:Nat,vs=[.int .i64 (fm each first k),.int .i64 k]∧k<=i∧Own w W [snE b 0 0]) (λvs _=>i - n1 vs) ⟨0,rfl,om,a⟩ ?_;clear a;rintro vs w2 ⟨k,rfl,p,a⟩ _;simp only[qP,gd,rs,nz];by_cases e:(k:Int) < (i:Int)
 ·simp only[e,amD,i_t];have g:k / each<=k:=arH _ _;have c:=pn each first (k+1)
  rw[fm] at c;have f:fm each first (k+1)=fm each first k+2 ^ (k / each - 1):=rfl
  rw[RH om,quo];generalize k / each=d at *;rw[aA om om]
  try simp only[rs]
  rw[aA om om,wN,more,FV om];have c:=c om;have m:(2:Nat) ^ 40=1099511627776:=dc
  have n:2 ^ (d - 1)<=2 ^ 40:=aoH dc om;rw[show min ((d - 1:Nat):Int).toNat IntKind.i64.bits=d - 1 by show min ((d - 1:Nat):Int).toNat 64=d - 1;omega];rw[show (1:Int)*2 ^ (d - 1)=((2 ^ (d - 1):Nat):Int) by push_cast;omega];have hm:(k+1)*2 ^ 40<=41*2 ^ 40:=anY _ om;generalize r:2 ^ (d - 1)=q at *;rw[aA om om]
  try simp only[rs]
  rw[aA om om,aA om om];exact aY ⟨k+1,by rw[f];rfl,om,a⟩ (by simp[n1,RowKit.intOf];omega)
 ·simp only[e,amF,i_f];have h:k=i:=om
  subst h;have g:k / each<=k:=arH _ _;have c:=pn each first (k+1)
  rw[fm] at c;have f:fm each first (k+1)=fm each first k+2 ^ (k / each - 1):=rfl
  rw[RH om,quo];generalize k / each=d at *;rw[aA om om]
  try simp only[rs]
  rw[aA om om,wN,more,m_sn];have a:OwnS NoB w w2 [snE b 0 0]:=a;refine PV 0 a rfl λw3 a=>?_;exact PF 0 a rfl (j _ _ ⟨rfl,a.below⟩)
end
section
open Eng Go.RowKit
def iu (i:Nat):Nat:=if i=28 then 258 else fm 4 3 i
def ey (i:Nat):Nat:=if i=28 then 0 else i / 4 - 1
def ej (i:Nat):Nat:=fm 2 1 i
def dm (i:Nat):Nat:=i / 2 - 1
theorem Mi (i:Nat)(w:ao)(hi:i<=28):Ret ah 357 #[.int .i64 (i:Int)] w (λv w'=>v=snV (iu i) (ey i)∧Below w.heap.size w w'):=by
 refine aZ λK c=>D6 ?_;unfold AK nz;refine aaQ (Own.start w) λb d a=>?_;have a:OwnS NoB w d [snE b 0 0]:=a;simp only[rs];by_cases h:(i:Int)=28
 ·have hi:i=28:=om
  subst hi;simp only[h,amD,i_t];rw[alH];refine PV 0 a rfl λw3 a=>?_;exact PF 0 a rfl (c _ _ ⟨rfl,a.below⟩)
 ·simp only[h,amF,i_f];refine aL a (R:=λv=>v=snV (fm 4 3 i) ((i / 4 - 1:Nat):Int)) (Jd i 3 4 d om om om) ?_;rintro _ w2 rfl a;refine PV 0 a rfl λw3 a=>?_;refine PF 0 a rfl (c _ _ ⟨?_,a.below⟩);unfold iu ey;rw[amA om,amA om]
theorem O2 (i:Nat)(w:ao)(hi:i<=30):Ret ah 359 #[.int .i64 (i:Int)] w (λv w'=>v=snV (ej i) (dm i)∧Below w.heap.size w w'):=by
 refine aZ λK d=>FZ ?_;unfold Cv nz;refine aaQ (Own.start w) λb c a=>?_;have a:OwnS NoB w c [snE b 0 0]:=a;refine aL a (R:=λv=>v=snV (fm 2 1 i) ((i / 2 - 1:Nat):Int)) (Jd i 1 2 c om om om) ?_;rintro _ w2 rfl a;refine PV 0 a rfl λw3 a=>?_;exact PF 0 a rfl (d _ _ ⟨rfl,a.below⟩)
theorem LU (a e m:Nat)(w:ao)(h:a<=1000000000)(he:e<=30)(hm:m < 2 ^ e):Ret ah 363 #[snV (a:Int) (e:Int),.int .i64 (m:Int)] w (λv w'=>v=.tuple #[.int .i64 ((a+m:Nat):Int),.int .i64 0]∧Below w.heap.size w w'):=by
 refine aZ λK d=>wG ?_;unfold oM nz;refine ajQ _ _ (Own.start w) λb f c=>?_;have c:OwnS NoB w f [snE b a e]:=c;have hp:2 ^ e<=2 ^ 30:=aoH dc he;have g:(2:Nat) ^ 30=1073741824:=dc
 simp only[rs,show ai ((m:Int) < 0)=au from amE om];rw[aO aeB,aJ aU (c.cell 0 rfl 1 rfl),FV om];rw[show min (e:Int).toNat IntKind.i64.bits=e by show min (e:Int).toNat 64=e;omega];rw[show (1:Int)*2 ^ e=((2 ^ e:Nat):Int) by push_cast;omega,aA om om];simp only[rs,show ai (((2 ^ e:Nat):Int)<=(m:Int))=au from amE om];rw[aO adS,aJ aU (c.cell 0 rfl 0 rfl)];simp only[rs];rw[aA om om];exact d _ _ ⟨rfl,c.below⟩
theorem re (h:i<=28):iu i<=1000∧ey i<=5:=by
 have:i=0∨i=1∨i=2∨i=3∨i=4∨i=5∨i=6∨i=7∨i=8∨i=9∨i=10∨i=11∨i=12∨i=13∨i=14∨i=15∨i=16∨i=17∨i=18∨i=19∨i=20∨i=21∨i=22∨i=23∨i=24∨i=25∨i=26∨i=27∨i=28:=om
 rcases this with rfl|rfl|rfl|rfl|rfl|rfl|rfl|rfl|rfl|rfl|rfl|rfl|rfl|rfl|rfl|rfl|rfl|rfl|rfl|rfl|rfl|rfl|rfl|rfl|rfl|rfl|rfl|rfl|rfl<;>decide
theorem rh (h:i<=29):ej i<=100000∧dm i<=13:=by
 have:i=0∨i=1∨i=2∨i=3∨i=4∨i=5∨i=6∨i=7∨i=8∨i=9∨i=10∨i=11∨i=12∨i=13∨i=14∨i=15∨i=16∨i=17∨i=18∨i=19∨i=20∨i=21∨i=22∨i=23∨i=24∨i=25∨i=26∨i=27∨i=28∨i=29:=om
 rcases this with rfl|rfl|rfl|rfl|rfl|rfl|rfl|rfl|rfl|rfl|rfl|rfl|rfl|rfl|rfl|rfl|rfl|rfl|rfl|rfl|rfl|rfl|rfl|rfl|rfl|rfl|rfl|rfl|rfl|rfl<;>decide
theorem SR (i m:Nat)(w:ao)(hi:i<=28)(hm:m < 2 ^ ey i):Ret ah 356 #[.int .i64 ((257+i:Nat):Int),.int .i64 (m:Int)] w (λv w'=>v=.tuple #[.int .i64 ((iu i+m:Nat):Int),.int .i64 0]∧Below w.heap.size w w'):=by
 refine aZ λK b=>DT ?_;unfold AA nz;have a:OwnS NoB w w []:=Own.start w;obtain⟨c,d⟩:=re hi;simp only[rs,show ai (((257+i:Nat):Int) < 257)=au from amE om,show ai ((285:Int) < ((257+i:Nat):Int))=au from amE om];rw[aA om om,show ((257+i:Nat):Int) - 257=(i:Int) by omega];refine aL a (R:=λv=>v=snV (iu i) (ey i)) (Mi i w hi) ?_;rintro _ w2 rfl a;refine aL a (R:=λv=>v=.tuple #[.int .i64 ((iu i+m:Nat):Int),.int .i64 0]) (LU _ _ m w2 om om hm) ?_;rintro _ w3 rfl a;simp only[ex];exact b _ _ ⟨rfl,a.below⟩
theorem Xb (i m:Nat)(w:ao)(hi:i<=29)(hm:m < 2 ^ dm i):Ret ah 358 #[.int .i64 (i:Int),.int .i64 (m:Int)] w (λv w'=>v=.tuple #[.int .i64 ((ej i+m:Nat):Int),.int .i64 0]∧Below w.heap.size w w'):=by
 refine aZ λK b=>Fp ?_;unfold DD nz;have a:OwnS NoB w w []:=Own.start w;obtain⟨c,d⟩:=rh hi;simp only[rs,show ai ((i:Int) < 0)=au from amE om,show ai ((29:Int) < (i:Int))=au from amE om];refine aL a (R:=λv=>v=snV (ej i) (dm i)) (O2 i w om) ?_;rintro _ w2 rfl a;refine aL a (R:=λv=>v=.tuple #[.int .i64 ((ej i+m:Nat):Int),.int .i64 0]) (LU _ _ m w2 om om hm) ?_;rintro _ w3 rfl a;simp only[ex];exact b _ _ ⟨rfl,a.below⟩
end
section
namespace Eng
open Go.RowKit
theorem LS {g:Nat}(h:w'.heap[g]?=w.heap[g]?):w'.cell? ⟨g,j,aw⟩=w.cell? ⟨g,j,aw⟩:=by
 unfold World.cell?;simp only[h]
theorem Ow {T E:TypeId}{cs:Array Bool}{g n bytes:Nat}(H:P.underlying T=ax (.slice E))(he:elB P E sz bytes=av)(L:0 < sz)
  (d:(Ent.urow E sz (.slice (ax ⟨g,0,aw⟩) n cap) n xs).is w) (M:Sl w v2 sz m news) (hm:0 < m) (N:∀u∈news,u.oneCell'=av) (O:(n+m)*bytes<=140737488355328) (Q:n+m<=140737488355328)
  (r:(mB .append #[T,T] U cs #[.slice (ax ⟨g,0,aw⟩) n cap,v2]).run P w=.ok (.value v') w') (l:(Ent.urow E sz v' (n+m) (xs++news)).is w') {j:Nat} {u:aq} (o:xs[j]?=ax u):w'.cell? ⟨g,j,aw⟩=ax u:=by
 obtain⟨i,z,hi,R,v,x,S⟩:=kD he;subst v;subst x;have d:w.ownsRow 0 E i.size (.slice (ax ⟨g,0,aw⟩) n cap) n xs:=d;have l:w'.ownsRow 0 E i.size v' (n+m) (xs++news):=l;obtain⟨y,a,c,rfl,V,W⟩:=M;have A:n+m<=maxLen:=by simp only[maxLen];omega
 cases a with
|none=>have:=V rfl;omega
|some p=>
  have I:∀j u,news[j]?=ax u->w.cell? (p.add j)=ax u:=by
   intro j u o;obtain⟨B,f⟩:=W p rfl;have:=B hm;obtain⟨b,off,spot⟩:=p;simp only at this f;subst this;rw[cM];exact f j u o
  have holds:∀j u,xs[j]?=ax u->w.cell? ((⟨g,0,aw⟩:Addr).add j)=ax u:=d.cells (g:=g) rfl;have C:=d.1;rcases d.2 with ⟨h,_⟩|⟨g',J,cur,X,Y,K,Z,a1,D,F⟩
  ·cases h
  injection X with q e2 e3
  injection q with q
  injection q with q
  subst q;subst e3;by_cases k:n+m<=cap
  ·have s:n*i.size+news.length<=cur.size:=by rw[y,D,<-aoW];exact anY _ k
   have G:=run_append_room (P:=P) w T U E i H hi g n cap cur K p m c news y I N k s;have:(mB .append #[T,T] U cs #[.slice (ax ⟨g,0,aw⟩) n cap,.slice (ax p) m c]).run P w=.ok (.value (.slice (ax ⟨g,0,aw⟩) (n+m) cap)) (w.setRow g (cur.toList.take (n*i.size)++news++cur.toList.drop (n*i.size+news.length)).toArray):=by simp[mB,builtin,G]
   rw[this] at r;cases r;have:=l.cells (g:=g) rfl j u (by rw[aoL (amS.1 o).1];exact o);rw[cM,amO] at this;exact this
  ·have G:=run_append_grow (P:=P) w T U E i z H hi R ⟨g,0,aw⟩ n cap xs C holds p m c news y I om (by simp only[maxLen] at A;omega) (growslice_fits om O);have:(mB .append #[T,T] U cs #[.slice (ax ⟨g,0,aw⟩) n cap,.slice (ax p) m c]).run P w=.ok (.value (.slice (ax ⟨w.heap.size,0,aw⟩) (n+m) (grownCap w (n+m) cap E)))
    (w.drew.alloc (.cells (xs.toArray++news.toArray++Builtin.zeroCells z.cells (grownCap w (n+m) cap E - (n+m))) E)):=by simp[mB,builtin,G]
   rw[this] at r;cases r;have t:g < w.heap.size:=(arW.1 K).1;have e:(w.drew.alloc (.cells (xs.toArray++news.toArray++Builtin.zeroCells z.cells (grownCap w (n+m) cap E - (n+m))) E)).heap[g]?=w.heap[g]?:=by first|exact heap_alloc_old w.drew _ t|exact heap_alloc_old w.drew _ _ t
   rw[LS e];have:=holds j u o;rw[cM,amO] at this;exact this
theorem C7 {T d E:TypeId}{cs:Array Bool}{n:Nat}{l:List UInt8}(k:P.underlying T=ax (.slice E))(hu:P.underlying d=ax .string)(he:elB P E 1 1=av)(o:P.underlying E=ax (.int .u8))
  (b:(P.info? E).bind (·.zero)=ax (.int .u8 0)) (a:w.ownsRow 0 E 1 v n xs) (e:n+l.length<=140737488355328) :
  ∃v' w',(mB .append #[T,d] U cs #[v,.string ⟨l.toArray⟩]).run P w=.ok (.value v') w'∧Turn (.urow E 1 v n xs) (.urow E 1 v' (n+l.length) (xs++aP l)) w w':=by
 obtain⟨v',w',r,t,_⟩:=DL (P:=P) (U:=U) (cs:=cs) k hu he o b (World.ownsRowF_of a) e;refine⟨v',w',r,t.grew,?_,t.new⟩;obtain⟨i,z,hi,s,f,g,p⟩:=kD he;have h:i.zero=ax (.int .u8 0):=by rw[hi] at b;exact b
 have c:=dL l;have j:n+(⟨l.toArray⟩:ByteArray).size<=maxLen:=by rw[c];simp only[maxLen];omega
 obtain⟨v2,w2,q,m,u,x⟩:=Lib.run_append_own_string (P:=P) w 0 T d U E i k hu hi h f g v n xs a ⟨l.toArray⟩ j (by rw[c];omega) (anG _);rw[zF,c] at m;have:(mB .append #[T,d] U cs #[v,.string ⟨l.toArray⟩]).run P w=.ok (.value v2) w2:=by simp[mB,builtin,q]
 rw[this] at r;cases r;exact m
section
variable {S:Nat->Prop}{P:Program}{w:ao}{PK:PKT}{K:VWP}
theorem Up (i:Nat){T E:TypeId}{cs:Array Bool}{g bytes n:Nat}(d:P.underlying T=ax (.slice E))(he:elB P E sz bytes=av)(a:0 < sz)
  (c:OwnS S w0 w L) (hi:L[i]?=ax (.urow E sz (.slice (ax ⟨g,0,aw⟩) n cap) n xs)) (e:Sl w v2 sz m news) (hm:0 < m) (f:∀u∈news,u.oneCell'=av) (h:(n+m)*bytes<=140737488355328) (b:n+m<=140737488355328)
  (k:∀v' w',(∀j u,xs[j]?=ax u->w'.cell? ⟨g,j,aw⟩=ax u)->OwnS S w0 w' (L.set i (.urow E sz v' (n+m) (xs++news)))->K v' w'):DoX P (mB .append #[T,T] U cs #[.slice (ax ⟨g,0,aw⟩) n cap,v2]) w PK K:=by
 obtain⟨v',w',r,t⟩:=xJ (cs:=cs) (U:=U) d he a (c.at_ i hi) e f h b;exact tG r (k _ _ (λj u l=>Ow d he a (c.at_ i hi) e hm f h b r t.is l) (c.turn i hi t))
theorem I2 (i:Nat){T c E:TypeId}{cs:Array Bool}{n:Nat}{l:List UInt8}(e:P.underlying T=ax (.slice E))(hu:P.underlying c=ax .string)(he:elB P E 1 1=av)(f:P.underlying E=ax (.int .u8))
  (a:(P.info? E).bind (·.zero)=ax (.int .u8 0)) (d:OwnS S w0 w L) (hi:L[i]?=ax (.urow E 1 v n xs)) (b:n+l.length<=140737488355328)
  (k:∀v' w',OwnS S w0 w' (L.set i (.urow E 1 v' (n+l.length) (xs++aP l)))->K v' w'):DoX P (mB .append #[T,c] U cs #[v,.string ⟨l.toArray⟩]) w PK K:=by
 obtain⟨v',w',r,t⟩:=C7 (cs:=cs) (U:=U) e hu he f a (d.at_ i hi) b;exact tG r (k _ _ (d.turn i hi t))
end
end Eng
end
section
open Eng Go.RowKit
def gw (d:Nat):Nat->List UInt8->List UInt8
|0,out=>out
|n+1,out=>gw d n (out++[out.getD (out.length - d) 0])
theorem ri (d:Nat):∀(n:Nat) (out:List UInt8),(gw d n out).length=out.length+n
|0,out=>rfl
|n+1,out=>by rw[gw,ri d n,amC,aoI];omega
theorem yt (i:Nat):1<=ej i:=by
 unfold ej
 induction i with
|zero=>decide
|succ i a=>exact apG a (Nat.le_add_right _ _)
def dp (far:List Nat)(s:List UInt8)(p sign:Nat)(out:List UInt8)(most:Nat):List UInt8×Nat×Int:=
 if 285 < sign then (out,p,13)
 else if 8*s.length < p+ey (sign - 257) then (out,p,4)
 else
  let size:=iu (sign - 257)+Fl.num s p (ey (sign - 257))
  let r:=dk far s (p+ey (sign - 257))
  if r.2.2≠0 then (out,p,r.2.2)
  else if 29 < r.1 then (out,p,13)
  else if 8*s.length < r.2.1+dm r.1 then (out,p,4)
  else
   let d:=ej r.1+Fl.num s r.2.1 (dm r.1)
   if out.length < d then (out,p,14)
   else if most < out.length+size then (out,p,5)
   else (gw d size out,r.2.1+dm r.1,0)
theorem ZR {b:Int}:(mFld 371 (snV a b) 1).run ah W=.ok (.value (.int .i64 b)) W:=krx
theorem aeA {b:Int}:DoX ah (mFld 371 (snV a b) 1) w PK K=K (.int .i64 b) w:=aD ZR
section
variable {w:ao}{PK:PKT}{K:VWP}{S:Nat->Prop}{w0:ao}{L:List Ent}
theorem Y3 (a:OwnS S w0 w L)(j:Nat){ov:aq}{most:Int}(hi:L[j]?=ax (flE b rb ov most)):DoX ah (aH 53 (.pointer (ax ⟨b,0+1,aw⟩))) w PK K=K ov w:=aJ On (a.cell j hi 1 rfl)
theorem NA (j:Nat){ov a:aq}{most:Int}(h:a.oneCell'=av)(c:OwnS S w0 w L)(hi:L[j]?=ax (flE b rb ov most))(k:∀w',OwnS S w0 w' (L.set j (flE b rb a most))->K undef w') :
  DoX ah (aN 53 (.pointer (ax ⟨b,0+1,aw⟩)) a) w PK K:=aK j c hi krx h (by show 0+1 < 3;omega) k
theorem elU8:elB ah 5 1 1=true:=krx
theorem TO (c:UInt8)(a:OwnS S w0 w L)(k:∀b w',OwnS S w0 w' (.cells b (aP [c]) 5::L)->K (.slice (ax ⟨b,0,aw⟩) 1 1) w'):DoX ah (bN 53 1 #[(0,.int .u8 (c.toNat:Int))]) w PK K:=
 bA (λb=>.slice (ax ⟨b,0,aw⟩) 1 1) (aP [c]) 5 (λ_=>by kernel_rfl) a k
abbrev Fs (fb rb:Nat)(s:List UInt8)(most:Nat)(ov:aq)(way:Int)(p:Nat)(out:List UInt8)(R:List Ent):List Ent:=flE fb rb ov (most:Int)::bqE rb s way p::outR ov out::R
theorem Hg {ov:aq}{most:Int}(h:(flE b rb ov most).is W):(aH 53 (.pointer (ax ⟨b,0+1,aw⟩))).run ah W=.ok (.value ov) W:=aB On (aI (T:=278) (cs:=flC rb ov most) h rfl)
theorem yO {ov:aq}{out:List UInt8}(h:(outR ov out).is W):Sl W ov 1 out.length (aP out):=Sl.urow h
theorem jC {l:List UInt8}(hi:i < l.length):(aP l)[i]?=ax (.int .u8 (l[i].toNat:Int)):=by
 unfold aP;rw[aqL,amN hi];rfl
theorem V3 {l:List UInt8}(a:Sl w v 1 l.length (aP l))(hi:i < l.length) :
  ∃b off,(∀W,(mIA 53 v (.int .i64 (i:Int))).run ah W=.ok (.value (.pointer (ax ⟨b,off+i,aw⟩))) W)∧w.cell? ⟨b,off+i,aw⟩=ax (.int .u8 (l[i].toNat:Int)):=by
 obtain⟨b,off,cap,rfl,c⟩:=bY a om;refine⟨b,off,λW=>?_,c i _ (jC hi)⟩;have:=dX (P:=ah) (T:=53) (b:=b) (off:=off) (cap:=cap) (n:=l.length) (k:=.i64) (i:=(i:Int)) (w:=W) anD (show _=ax 1 by kernel_rfl) om om
 rwa [amK,anC] at this
theorem nU8l:eD ah 5=true:=krx
theorem eW {l:List UInt8}:∀u∈aP l,u.oneCell'=true:=by
 unfold aP;intro u hu;obtain⟨c,_,rfl⟩:=anK.1 hu;rfl
theorem Wn {ov:aq}{s:List UInt8}{out:List UInt8}{lens:List Nat}{R:List Ent}(jm:Nat)(f:OwnS S w0 w (Fs fb rb s most ov way p out R))(hm:R[jm]?=ax (.mem M))(ht:TbAt M.A M.w tb lens)(hl:lens.length<=1000)(hw:way=0∨way=1)(hp:p<=8*s.length)(Q:s.length<=1000000000)(b2:most<=1000000000)(b3:out.length<=most)(hi:i<=1000)
  (H:(dp lens s p (257+i) out most).2.2=0->(dp lens s p (257+i) out most).2.1<=8*s.length->(dp lens s p (257+i) out most).1.length<=most->∀way' l W,(way'=0∨way'=1)->OwnS S w0 W (Fs fb rb s most l way' (dp lens s p (257+i) out most).2.1 (dp lens s p (257+i) out most).1 R)->K (.tuple #[]) W)
  (y:(dp lens s p (257+i) out most).2.2≠0->∀l way' p' a W,OwnS S w0 W (Fs fb rb s most l way' p' a R)->PK [upI (dp lens s p (257+i) out most).2.2] W) :
  CallX ah 348 #[.pointer (ax ⟨fb,0,aw⟩),.int .i64 ((257+i:Nat):Int),.pointer (ax ⟨tb,0,aw⟩)] w PK K:=by
 generalize g:dp lens s p (257+i) out most=X at H y;refine⟨rL ?_⟩;unfold kU nz;unfold dp at g;simp only[rs];refine iU (λI=>?_) (λI=>?_)
 rotate_left
 ·have:=anO I;rw[amB om] at g;subst g;exact y (by dsimp only;decide) _ _ _ _ _ f
 have I:=amU I;have u:i<=28:=om
 rw[amA om,arQ] at g;obtain⟨b4,U⟩:=re u;rw[aA om om,show ((257+i:Nat):Int) - 257=(i:Int) by omega];refine aL f (R:=λv=>v=snV (iu i) (ey i)) (Mi i w u) ?_;rintro _ w1 rfl f;rw[aeA];refine oC 0 1 f rfl rfl hw hp om Q (λh2 W f=>?_) (λh2 W f=>?_)
 rotate_left
 ·rw[amB h2] at g;subst g;exact y (by dsimp only;decide) _ _ _ _ _ f
 rw[amA om] at g;dsimp only at g;have x:(if 0 < ey i then (1:Int) else way)=0∨(if 0 < ey i then (1:Int) else way)=1:=by split;exact .inr rfl;exact hw
 have f:OwnS S w0 W (Fs fb rb s most ov (if 0 < ey i then 1 else way) (p+ey i) out R):=f;generalize (if 0 < ey i then (1:Int) else way)=a8 at f x;have C:=Fl.xV s p (ey i);refine aL f (R:=λv=>v=.tuple #[.int .i64 ((iu i+Fl.num s p (ey i):Nat):Int),.int .i64 0]) (SR i _ W u C) ?_;rintro _ w2 rfl f;simp only[ex];refine tO (λ_=>?_) (λh=>absurd rfl h);have V:iu i+Fl.num s p (ey i)<=100000:=by
  have:2 ^ ey i<=2 ^ 5:=aoH dc U;omega
 generalize iu i+Fl.num s p (ey i)=sz at g V
 try rw[bG]
 rw[Mx,TL f 0 rfl];refine Oe 1 (jm+3) om f rfl hm ht hl x om Q λj W3 E D f=>?_;have f:OwnS S w0 W3 (Fs fb rb s most ov j (dk lens s (p+ey i)).2.1 out R):=f;generalize dk lens s (p+ey i)=T at g f D;obtain⟨fi,q,e⟩:=T;dsimp only at g f D;simp only[ex];refine tO (λJ=>?_) (λJ=>?_)
 rotate_left
 ·rw[amB J] at g;subst g;exact y J _ _ _ _ _ f
 rw[amA (by rw[J];decide)] at g;simp only[rs];refine iU (λL=>?_) (λL=>?_)
 rotate_left
 ·have:=anO L;rw[amB om] at g;subst g;exact y (by dsimp only;decide) _ _ _ _ _ f
 have L:=amU L;have z:fi<=29:=om
 rw[amA om] at g;obtain⟨b5,b6⟩:=rh z;refine aL f (R:=λv=>v=snV (ej fi) (dm fi)) (O2 fi W3 om) ?_;rintro _ w4 rfl f;rw[aeA];refine oC 0 1 f rfl rfl E D om Q (λh5 W f=>?_) (λh5 W f=>?_)
 rotate_left
 ·rw[amB h5] at g;subst g;exact y (by dsimp only;decide) _ _ _ _ _ f
 rw[amA om] at g;have x:(if 0 < dm fi then (1:Int) else j)=0∨(if 0 < dm fi then (1:Int) else j)=1:=by split;exact .inr rfl;exact E
 have f:OwnS S w0 W (Fs fb rb s most ov (if 0 < dm fi then 1 else j) (q+dm fi) out R):=f;generalize (if 0 < dm fi then (1:Int) else j)=o at f x;have C:=Fl.xV s q (dm fi);refine aL f (R:=λv=>v=.tuple #[.int .i64 ((ej fi+Fl.num s q (dm fi):Nat):Int),.int .i64 0]) (Xb fi _ W z C) ?_;rintro _ w6 rfl f;simp only[ex];refine tO (λ_=>?_) (λh=>absurd rfl h);have b7:=yt fi;have Y:1<=ej fi+Fl.num s q (dm fi):=om
 generalize ej fi+Fl.num s q (dm fi)=d at g Y
 try rw[bG]
 rw[aO xS,Y3 f 0 rfl,bD anD (yO (f.at_ 2 rfl))];simp only[rs];refine iU (λN=>?_) (λN=>?_)
 rotate_left
 ·have:=anO N;rw[amB om] at g;subst g;exact y (by dsimp only;decide) _ _ _ _ _ f
 have N:=amU N;rw[amA om] at g;refine SO (n:=sz) 0 2 f rfl rfl om om om (λh7 W f=>?_) (λh7 W f=>?_)
 rotate_left
 ·rw[amB om] at g;subst g;exact y (by dsimp only;decide) _ _ _ _ _ f
 rw[amA om] at g;refine loop (λvs W=>∃(k:Nat) (l:aq) (a:List UInt8),vs=[.int .i64 k]∧k<=sz∧d<=a.length∧a.length+(sz - k)<=most∧gw d (sz - k) a=X.1∧OwnS S w0 W (Fs fb rb s most l o (q+dm fi) a R)) (λvs _=>sz - n0 vs) ⟨0,ov,out,rfl,om,om,om,by rw[<-g];rfl,f⟩ ?_;clear f;rintro vs w7 ⟨k,l,a,rfl,hk,b9,c0,t,f⟩ _;simp only[iZ,gd,rs,iN,bnx];by_cases F:(k:Int) < (sz:Int)
 ·simp only[F,amD,i_t];have f:=f.drew;have r:a.length - d < a.length:=om
  obtain⟨O,B,rfl⟩:=mN (f.at_ 2 rfl) om;obtain⟨cb,b0,b1,m,Z⟩:=bY (yO (f.at_ 2 rfl)) om
  injection m with m e2 e3
  injection m with m
  injection m with m e4
  subst m;subst e4;refine⟨λW=>(flE fb rb (.slice (ax ⟨O,0,aw⟩) a.length B) most).is W∧W.cell? ⟨O,a.length - d,aw⟩=ax (.int .u8 (a[a.length - d].toNat:Int)),⟨f.at_ 0 rfl,?_⟩,?_⟩
  ·have:=Z _ _ (jC r)
   rwa [amO] at this
  refine aR _ (λ_=>dK) (aR _ (λ_=>bE xS) (jH _ (λW h=>Hg h.1) ?_));refine aR _ (λ_=>dK) (aR _ (λ_=>bE xS) (jH _ (λW h=>Hg h.1) ?_));refine aR _ (λ_=>dK) (aR _ (λ_=>bE xS) (jH _ (λW h=>Hg h.1) ?_));refine aR (.int .i64 (a.length:Int)) (λW=>by simp[mB,builtin,Builtin.len_,run_underlying anD,goInt]) ?_;refine aR _ (λW=>cJ (by simp[binOp];rfl)) ?_;rw[aA om om,show (a.length:Int) - (d:Int)=((a.length - d:Nat):Int) by omega];refine aR (.pointer (ax ⟨O,a.length - d,aw⟩)) (λW=>?_) ?_
  ·have:=dX (P:=ah) (T:=53) (b:=O) (off:=0) (cap:=B) (n:=a.length) (k:=.i64) (i:=((a.length - d:Nat):Int)) (w:=W) anD (show _=ax 1 by kernel_rfl) om om
   rwa [amK,anC,amO] at this
  refine jH _ (λW h=>aB nU8l h.2) ?_;generalize hc:a[a.length - d]=c;refine TO c f λb8 w8 f=>?_;refine⟨⟨f.at_ 1 rfl,?_⟩,?_⟩
  ·obtain⟨_,_,_,m,Z⟩:=bY (yO (f.at_ 3 rfl)) om
   injection m with m e2 e3
   injection m with m
   injection m with m e4
   subst m;subst e4;have:=Z _ _ (jC r);rw[amO,hc] at this;exact this
  refine Up 3 anD elU8 dc f rfl (pA (f.at_ 0 rfl) dc rfl) dc eW om om λv' w9 a1 f=>?_;have a6:v'.oneCell'=true:=cQ (f.at_ 3 rfl);refine⟨⟨f.at_ 1 rfl,?_⟩,?_⟩
  ·have:=a1 _ _ (jC r);rw[hc] at this;exact this
  refine aR _ (λ_=>dK) (aR _ (λ_=>bE xS) ?_);refine NA 1 a6 f rfl λG f=>?_;have f:OwnS S w0 G (.cells b8 (aP [c]) 5::Fs fb rb s most v' o (q+dm fi) (a++[c]) R):=by
   have e:outR v' (a++[c])=.urow 5 1 v' (a.length+1) (aP a++aP [c]):=by
    unfold outR aP;rw[amC,anN];rfl
   show OwnS S w0 G (.cells b8 (aP [c]) 5::flE fb rb v' (most:Int)::bqE rb s o (q+dm fi)::outR v' (a++[c])::R);rw[e];exact f
  rw[aA om om];refine aY ⟨k+1,v',a++[c],rfl,om,by rw[amC];omega,by rw[amC,aoI];omega,?_,f.tail⟩ (by simp[n0,RowKit.intOf];omega);rw[<-t,show sz - k=(sz - (k+1))+1 by omega,gw,amI,amN r,<-hc];rfl
 ·simp only[F,amF,i_f];have a7:k=sz:=om
  subst a7;rw[apD,gw] at t;rw[<-g] at t;rw[<-g] at H;dsimp only at t H;have:=H rfl om (by rw[<-t];omega) o l w7 x (by rw[<-t];exact f);exact this
end
end
section
open Eng Go.RowKit
def bqAt (b:Nat)(w:ao):Nat:=match w.cell? ⟨b,1,aw⟩,w.cell? ⟨b,3,aw⟩ with|some (.int _ u),ax (.int _ a)=>8*a.toNat+u.toNat|_,_=>0
theorem Hz {s:List UInt8}(h:(bqE b s way p).is w):bqAt b w=p:=by
 unfold bqAt;rw[show w.cell? ⟨b,1,aw⟩=ax (.int .i64 ((p % 8:Nat):Int)) from aI (T:=317) (cs:=bqC s way p) h rfl,show w.cell? ⟨b,3,aw⟩=ax (.int .i64 ((p / 8:Nat):Int)) from aI (T:=317) (cs:=bqC s way p) h rfl];show 8*((p / 8:Nat):Int).toNat+((p % 8:Nat):Int).toNat=p;omega
theorem rj (lens:List Nat)(s:List UInt8):∀(f l p code:Nat),(gy lens s f l p code).2.2=0->p < (gy lens s f l p code).2.1
|0,_,_,_,h=>by simp[gy] at h
|f+1,l,p,code,h=>by
  unfold gy at h ⊢;split
  ·rename_i a;rw[amB a] at h;simp at h
  rename_i a;rw[amA a] at h
  split
  ·rename_i b;rw[amB b] at h;simp at h
  rename_i b;rw[amA b] at h
  split
  ·exact Nat.lt_succ_self _
  rename_i c;rw[amA c] at h
  have:=rj lens s f (l+1) (p+1) (2*code+Fl.bit s p) h;omega
theorem my {lens:List Nat}{s:List UInt8}{p:Nat}(h:(dk lens s p).2.2=0):p < (dk lens s p).2.1:=rj lens s 16 0 p 0 h
theorem rk {far:List Nat}{s:List UInt8}{p sign most:Nat}{out:List UInt8}(h:(dp far s p sign out most).2.2=0):p<=(dp far s p sign out most).2.1:=by
 unfold dp at h ⊢;split
 ·exact amJ _
 rename_i b;rw[amA b] at h
 split
 ·exact amJ _
 rename_i c;rw[amA c] at h
 dsimp only at h ⊢;split
 ·exact amJ _
 rename_i a;rw[amA a] at h
 have:=my (Decidable.not_not.1 a);split
 ·exact amJ _
 rename_i d;rw[amA d] at h
 split
 ·exact amJ _
 rename_i e;rw[amA e] at h
 split
 ·exact amJ _
 rename_i f;rw[amA f] at h
 split
 ·exact amJ _
 dsimp only;omega
def je (near far:List Nat)(s:List UInt8)(most:Nat):Nat->Nat->List UInt8->List UInt8×Nat×Int
|0,p,out=>(out,p,13)
|f+1,p,out=>
  let r:=dk near s p
  if r.2.2≠0 then (out,p,r.2.2)
  else if r.1 < 256 then if most < out.length+1 then (out,p,5) else je near far s most f r.2.1 (out++[UInt8.ofNat r.1])
  else if r.1=256 then (out,r.2.1,0)
  else
   let c:=dp far s r.2.1 r.1 out most
   if c.2.2≠0 then (out,p,c.2.2) else je near far s most f c.2.1 c.1
def fl (near far:List Nat)(s:List UInt8)(most p:Nat)(out:List UInt8):List UInt8×Nat×Int:=je near far s most (8*s.length+1 - p) p out
theorem rm (lens:List Nat):∀(l i:Nat),i∈bg lens l->i < lens.length
|0,i,h=>by cases h
|l+1,i,h=>by
  rw[bg,anF] at h;rcases h with h|h
  ·exact rm lens l i h
  ·unfold jy at h;have:=(List.mem_filter.1 h).1;exact aoE.1 this
theorem po {lens:List Nat}(s:List UInt8)(a:0 < lens.length):∀(f l p code:Nat),(gy lens s f l p code).1 < lens.length
|0,_,_,_=>by simpa[gy] using a
|f+1,l,p,code=>by
  unfold gy;split
  ·exact a
  split
  ·exact a
  split
  ·dsimp only;rw[amI];rcases h:(bg lens 15)[Fl.bC lens l+(2*code+Fl.bit s p - Fl.first lens (l+1))]? with _|x
   ·exact a
   ·exact rm lens 15 x (apV h)
  ·exact po s a f _ _ _
theorem xl {lens:List Nat}(s:List UInt8)(p:Nat):(dk lens s p).1<=lens.length:=by
 rcases aoP lens.length with h|h
 ·have:lens=[]:=aqW h;subst this;simp[dk,gy,Fl.bC]
 ·exact Nat.le_of_lt (po s h 16 0 p 0)
theorem cU8 {n:Nat}(h:n < 256):(tP 3 5 (.int .i64 (n:Int))).run ah W=.ok (.value (.int .u8 ((UInt8.ofNat n).toNat:Int))) W:=by
 have:=eC (P:=ah) (S:=3) (D:=5) (k:=.i64) (n:=(n:Int)) (w:=W) krx aoK;rw[this]
 congr 3
section
variable {w:ao}{PK:PKT}{K:VWP}{S:Nat->Prop}{w0:ao}
theorem Ts {O:Nat}{ov:aq}{s:List UInt8}{out:List UInt8}{far:List Nat}{R:List Ent}(jm:Nat)(a:OwnS S w0 w (Fs fb rb s most ov way p out R))(hm:R[jm]?=ax (.mem M))(ht:TbAt M.A M.w tb near)(F:TbAt M.A M.w O far)(hl:near.length<=1000)(G:far.length<=1000)(hw:way=0∨way=1)(hp:p<=8*s.length)(P:s.length<=1000000000)(H:most<=1000000000)(h:out.length<=most)
  (Q:(fl near far s most p out).2.2=0->(fl near far s most p out).2.1<=8*s.length->(fl near far s most p out).1.length<=most->∀way' r W,(way'=0∨way'=1)->OwnS S w0 W (Fs fb rb s most r way' (fl near far s most p out).2.1 (fl near far s most p out).1 R)->K (.tuple #[]) W)
  (E:(fl near far s most p out).2.2≠0->∀r way' p' v W,OwnS S w0 W (Fs fb rb s most r way' p' v R)->PK [upI (fl near far s most p out).2.2] W) :
  CallX ah 337 #[.pointer (ax ⟨fb,0,aw⟩),.pointer (ax ⟨tb,0,aw⟩),.pointer (ax ⟨O,0,aw⟩)] w PK K:=by
 generalize b:fl near far s most p out=X at Q E;refine⟨sP ?_⟩;unfold mD nz;refine loop (λvs W=>∃(p:Nat) (way:Int) (ov:aq) (out:List UInt8),vs=[]∧(way=0∨way=1)∧p<=8*s.length∧out.length<=most∧(∃f,8*s.length+1 - p<=f∧je near far s most f p out=X)∧OwnS S w0 W (Fs fb rb s most ov way p out R)) (λ_ w=>8*s.length+1 - bqAt rb w) ⟨p,way,ov,out,rfl,hw,hp,h,⟨_,amJ _,b⟩,a⟩ ?_;clear a b hp hw h;rintro vs I ⟨p,way,ov,out,rfl,hw,hp,h,⟨f,hf,b⟩,a⟩ _;have x:bqAt rb I=p:=Hz (a.at_ 1 rfl);unfold jL nz;obtain⟨f,rfl⟩:∃f',f=f'+1:=⟨f - 1,om⟩;rw[je] at b;dsimp only at b;rw[bG,Mx,TL a 0 rfl];refine Oe 1 (jm+3) om a rfl hm ht hl hw hp P λc W3 t j a=>?_;have a:OwnS S w0 W3 (Fs fb rb s most ov c (dk near s p).2.1 out R):=a;have d:=@my near s p;have hle:=@xl near s p;generalize dk near s p=T at b a j d hle;obtain⟨g,q,e⟩:=T;dsimp only at b a j d hle;simp only[ex];refine tO (λy=>?_) (λy=>?_)
 rotate_left
 ·rw[amB y] at b;subst b;exact E y _ _ _ _ _ a
 rw[amA (by rw[y];decide)] at b;have d:=d y;simp only[rs];by_cases m:(g:Int) < 256
 ·simp only[m,amD,i_t];rw[amB om] at b;refine SO (n:=1) 0 2 a rfl rfl om om om (λh7 W a=>?_) (λh7 W a=>?_)
  rotate_left
  ·rw[amB om] at b;subst b;exact E (by dsimp only;decide) _ _ _ _ _ a
  rw[amA om] at b
  try rw[bG]
  rw[aO xS,Y3 a 0 rfl];refine aD (cU8 om) |>.mpr ?_;refine TO _ a λU w8 a=>?_;refine bR 3 anD elU8 dc a rfl (pA (a.at_ 0 rfl) dc rfl) eW om om λv' w9 a=>?_;have J:v'.oneCell'=true:=cQ (a.at_ 3 rfl)
  try rw[bG]
  rw[aO xS];refine NA 1 J a rfl λl a=>?_;have a:OwnS S w0 l (.cells U (aP [UInt8.ofNat g]) 5::Fs fb rb s most v' c q (out++[UInt8.ofNat g]) R):=by
   have e:outR v' (out++[UInt8.ofNat g])=.urow 5 1 v' (out.length+1) (aP out++aP [UInt8.ofNat g]):=by
    unfold outR aP;rw[amC,anN];rfl
   show OwnS S w0 l (.cells U (aP [UInt8.ofNat g]) 5::flE fb rb v' (most:Int)::bqE rb s c q::outR v' (out++[UInt8.ofNat g])::R);rw[e];exact a
  have k:bqAt rb l=q:=Hz (a.at_ 2 rfl);refine aY ⟨q,c,v',_,rfl,t,j,by rw[amC,aoI];omega,⟨f,om,b⟩,a.tail⟩ (by show 8*s.length+1 - bqAt rb l < 8*s.length+1 - bqAt rb I;rw[x,k];omega)
 simp only[m,amF,i_f];rw[amA om] at b
 try simp only[rs]
 by_cases V:(g:Int)=256
 ·simp only[V,amD,i_t];rw[amB om] at b;subst b;exact Q rfl j h _ _ _ t a
 simp only[V,amF,i_f];rw[amA om] at b;obtain⟨i,rfl⟩:∃i,g=257+i:=⟨g - 257,om⟩;have u:=@rk far s q (257+i) most out;refine Wn jm a hm F G t j P H h om (λz Y B o D L N a=>?_) (λz D o p4 Z L a=>?_)
 rotate_left
 ·rw[amB z] at b;subst b;exact E z _ _ _ _ _ a
 rw[amA (by rw[z];decide)] at b;have u:=u z;generalize dp far s q (257+i) out most=C at b a u Y B;have k:bqAt rb L=C.2.1:=Hz (a.at_ 1 rfl);refine aY ⟨C.2.1,o,D,C.1,rfl,N,Y,B,⟨f,om,b⟩,a⟩ (by show 8*s.length+1 - bqAt rb L < 8*s.length+1 - bqAt rb I;rw[x,k];omega)
end
end
def lr (lens:List Nat):Nat:=(lens.map λl=>if l=0 then 0 else 2 ^ (15 - l)).sum
theorem yu (m:Nat):Fl.gC [] m=0:=by
 induction m with
|zero=>rfl
|succ m a=>simp[Fl.gC,a]
theorem yw (l:Nat)(ls:List Nat)(m:Nat):Fl.gC (l::ls) m=Fl.gC ls m+(if l=0 then 0 else if l<=m then 2 ^ (15 - l) else 0):=by
 induction m with
|zero=>
  simp only[Fl.gC];split;·rfl
  ·rw[amA om]
|succ m b=>
  rw[Fl.gC,b,Fl.gC,List.count_cons];by_cases h:l=m+1
  ·subst h;simp only[beq_self_eq_true,if_true,aoW,arP];rw[amA om,amA om,amA om,amB (amJ _)];omega
  ·have c:(l==m+1)=false:=by simp[h]
   rw[c];simp only[aqO,if_false,aoC];by_cases a:l=0
   ·simp[a]
   ·rw[amA a,amA a];by_cases hm:l<=m
    ·rw[amB hm,amB om];omega
    ·rw[amA hm,amA om];simp
theorem rn:∀{lens:List Nat},(∀l∈lens,l<=15)->lr lens=Fl.gC lens 15
|[],_=>by rw[yu];rfl
|l::ls,h=>by
  have a:=rn (lens:=ls) λx b=>h x (anA _ b);have c:=h l (anQ ..);unfold lr at a ⊢;rw[anS,aqC,a,yw,amB c];omega
theorem rp (lens:List Nat)(l:Nat):∀m,l<=m->∃t,bg lens m=bg lens l++t
|0,h=>by
  obtain rfl:l=0:=om
  exact⟨[],sm⟩
|m+1,h=>by
  rcases anE l (m+1) with a|a
  ·obtain⟨t,b⟩:=rp lens l m om;exact⟨t++jy lens (m+1),by rw[bg,b,amM]⟩
  ·have:l=m+1:=om
   subst this;exact⟨[],sm⟩
theorem yx {lens:List Nat}{l k:Nat}(c:l < 15)(a:k < lens.count (l+1)):(bg lens 15).getD (Fl.bC lens l+k) 0=(jy lens (l+1)).getD k 0:=by
 obtain⟨t,b⟩:=rp lens (l+1) 15 om;rw[b,bg,amM,amI,aoQ (by rw[mw];omega),mw,arQ,
  aoL (by rw[pj];exact a),amI]
end Go.Proofs.YtlipjfcbjemicaaGreatDoor


namespace Go.Proofs.YtlipjfcbjemicaaGreatDoor
variable{A:Nat->Prop}{C:ao->Prop}{K:VWP}{L:List Eng.Ent}{M:Eng.Mem}{P:Program}{PK:PKT}{U:TypeId}{W w w' w0:ao}{a way:Int}{b cap fb i j m most p rb sz tb:Nat}{c v v' v2:aq}{cb:Array Bool}{cl l near:List Nat}{cs news xs:List aq}{q:Bool}{xo yo:Operand}{α:Type}{t0 t1 t2:aq}{k0:Eng.KT}
section
open Eng Go.RowKit
theorem ajS (a b:Nat):((a:Nat):Int).tmod ((b:Nat):Int)=((a % b:Nat):Int):=rfl
end
section
open Eng Go.RowKit
def dy (s:List UInt8)(most p:Nat)(out:List UInt8):List UInt8×Nat×Int:=
 let a:=(p+7) / 8*8
 if 8*s.length < a+16 then (out,p,4)
 else if 8*s.length < a+32 then (out,p,4)
 else if Fl.num s a 16+Fl.num s (a+16) 16≠65535 then (out,p,3)
 else if most < out.length+Fl.num s a 16 then (out,p,5)
 else if 8*s.length < a+32+8*Fl.num s a 16 then (out,p,4)
 else (out++(s.drop (a / 8+4)).take (Fl.num s a 16),a+32+8*Fl.num s a 16,0)
theorem qM {a b:List UInt8}:outR v (a++b)=.urow 5 1 v (a.length+b.length) (aP a++aP b):=by
 unfold outR aP;rw[amC,anN]
theorem P5 {ov:aq}{most:Int}(h:(flE b rb ov most).is W):(aH 275 (.pointer (ax ⟨b,0,aw⟩))).run ah W=.ok (.value (.pointer (ax ⟨rb,0,aw⟩))) W:=aB X2 (aI (T:=278) (cs:=flC rb ov most) h rfl)
theorem z8U:(Tryz.prog.info? 5).bind (·.zero)=ax (.int .u8 0):=krx
section
variable {w:ao}{PK:PKT}{K:VWP}{S:Nat->Prop}{w0:ao}
theorem Xh {ov:aq}{s:List UInt8}{out:List UInt8}{R:List Ent}(b:OwnS S w0 w (Fs fb rb s most ov way p out R))(hw:way=0∨way=1)(hp:p<=8*s.length)(l:s.length<=1000000000)(y:most<=1000000000)(z:out.length<=most)
  (t:(dy s most p out).2.2=0->(dy s most p out).2.1<=8*s.length->(dy s most p out).1.length<=most->∀way' d W,(way'=0∨way'=1)->OwnS S w0 W (Fs fb rb s most d way' (dy s most p out).2.1 (dy s most p out).1 R)->K (.tuple #[]) W)
  (g:(dy s most p out).2.2≠0->∀d way' A i W,OwnS S w0 W (Fs fb rb s most d way' A i R)->PK [upI (dy s most p out).2.2] W) :
  CallX ah 306 #[.pointer (ax ⟨fb,0,aw⟩)] w PK K:=by
 generalize c:dy s most p out=X at t g;refine⟨rA ?_⟩;unfold kV iN ldx bnx fax nlx eqx cx;unfold dy at c;dsimp only at c;rw[bG,Mx,TL b 0 rfl];refine Zs 1 b rfl hp l λB b=>?_;have b:OwnS S w0 B (Fs fb rb s most ov 0 ((p+7) / 8*8) out R):=b;have m:(p+7) / 8*8 % 8=0:=om
 have j:(p+7) / 8*8<=8*s.length:=om
 generalize (p+7) / 8*8=a at c b m j;refine oC (n:=16) 0 1 b rfl rfl (.inl rfl) j om l (λo u b=>?_) (λo u b=>?_)
 rotate_left
 ·rw[amB o] at c;subst c;exact g (by dsimp only;decide) _ _ _ _ _ b
 rw[amA om] at c;have b:OwnS S w0 u (Fs fb rb s most ov 1 (a+16) out R):=b;refine oC (n:=16) 0 1 b rfl rfl (.inr rfl) o om l (λC v b=>?_) (λC v b=>?_)
 rotate_left
 ·rw[amB om] at c;subst c;exact g (by dsimp only;decide) _ _ _ _ _ b
 rw[amA om] at c;have b:OwnS S w0 v (Fs fb rb s most ov 1 (a+16+16) out R):=b;have q:=Fl.xV s a 16;have D:=Fl.xV s (a+16) 16;have E:(2:Nat) ^ 16=65536:=dc
 simp only[rs];rw[aA om om];refine iU (λk=>?_) (λk=>?_)
 rotate_left
 ·have:=anO k;rw[amB om] at c;subst c;exact g (by dsimp only;decide) _ _ _ _ _ b
 have k:=amU k;rw[amA om] at c;generalize Fl.num s a 16=n at c q k;refine SO (n:=n) 0 2 b rfl rfl om om om (λF G b=>?_) (λF G b=>?_)
 rotate_left
 ·rw[amB om] at c;subst c;exact g (by dsimp only;decide) _ _ _ _ _ b
 rw[amA om] at c;have b:=b.drew;refine⟨λW=>(flE fb rb ov most).is W,b.at_ 0 rfl,?_⟩;refine aR _ (λ_=>dK) (aR _ (λ_=>bE xS) (jH _ (λW h=>Hg h) ?_));refine aR _ (λ_=>dK) (aR _ (λ_=>bE Tc) (jH _ (λW h=>P5 h) ?_));refine aiI (n:=n) 1 b rfl om om om l (λH x b=>?_) (λH x b=>?_)
 rotate_left
 ·rw[amB om] at c;subst c;refine⟨b.at_ 0 rfl,?_⟩;refine Ji (DR ?_);refine Qk (s:=[]) (λh=>absurd h dc) λ_=>?_
  repeat intro _
  exact g (by dsimp only;decide) _ _ _ _ _ b
 rw[amA om] at c;have b:OwnS S w0 x (Fs fb rb s most ov 1 (a+16+16+8*n) out R):=b;refine⟨b.at_ 0 rfl,?_⟩;refine Ji (DR ?_);refine Qk (λ_=>?_) λh=>absurd rfl h;refine⟨b.at_ 0 rfl,?_⟩;have e:((s.drop ((a+16+16) / 8)).take n).length=n:=by rw[amL,amQ];omega
 refine I2 2 anD amP elU8 aoK z8U b rfl (by rw[e];omega) λv' I b=>?_;have r:v'.oneCell'=true:=cQ (b.at_ 2 rfl);refine⟨b.at_ 0 rfl,?_⟩;refine aR _ (λ_=>dK) (aR _ (λ_=>bE xS) ?_);refine NA 0 r b rfl λf b=>?_;have b:OwnS S w0 f (Fs fb rb s most v' 1 (a+16+16+8*n) (out++(s.drop ((a+16+16) / 8)).take n) R):=by
  show OwnS S w0 f (flE fb rb v' (most:Int)::bqE rb s 1 (a+16+16+8*n)::outR v' (out++(s.drop ((a+16+16) / 8)).take n)::R);rw[qM];exact b
 rw[show (a+16+16) / 8=a / 8+4 by omega] at b e;subst c;exact t rfl (by dsimp only;omega) (by dsimp only;rw[amC,e];omega) 1 v' f (.inr rfl) b
end
end
section
open Eng Go.RowKit
theorem szI1:(Tryz.prog.info? 3).map (·.size)=ax 1:=krx
theorem uF {l:List α}{n:Nat}{v:α}(h:(l.take n)[j]?=ax v):l[j]?=ax v:=by
 obtain⟨a,b⟩:=amS.1 h;rw[amL] at a;rw[amN om,<-b,asC]
section
variable {w:ao}{PK:PKT}{K:VWP}{S:Nat->Prop}{w0:ao}{L:List Ent}
theorem Ti {r k:Nat}{x:aq}(i:Nat)(c:OwnS S w0 w L)(hi:L[i]?=ax (.cells r [x] 3))(G:x.oneCell'=av)(U:k<=1000)
  (H:∀b w',OwnS S w0 w' (.cells b (List.replicate k x) 3::L)->K (.slice (ax ⟨b,0,aw⟩) k k) w') :
  CallX ah 320 #[.slice (ax ⟨r,0,aw⟩) 1 1,.int .i64 (k:Int)] w PK K:=by
 refine⟨pI ?_⟩;unfold jS nz;refine join λJ I=>?_;rw[aeC,amE om,i_f];refine I _ _ λ_=>?_;unfold iK nz;rw[bD amZ (pA (sz:=1) (c.at_ i hi) dc rfl)];refine aD (eC krx asW) |>.mpr (aD (eC krx asW) |>.mpr ?_);rw[show IntKind.u64.wrap ((1:Nat):Int)=((1:Nat):Int) from rfl,show IntKind.u64.wrap (k:Int)=(k:Int) by unfold IntKind.wrap;simp[IntKind.bits,IntKind.signed];omega];refine fH (Tryz.bits_Mul 1 k dc om w) (λe W ⟨he,M⟩=>?_);subst he;subst M;have N:1*k / 18446744073709551616=0:=om
 have O:1*k % 18446744073709551616=k:=om
 rw[N,O];show Cont _ _ _ _;simp only[Cont,ex];refine join λV u=>?_;simp only[rs,show ai ((0:Int) < ((0:Nat):Int))=au from rfl,show ai ((9223372036854775807:Int) < (k:Int))=au from amE om];refine u _ _ λ_=>?_;unfold iG nz;refine aD (eC krx anT) |>.mpr ?_;rw[show IntKind.i64.wrap (k:Int)=(k:Int) from aA om om];refine wR om c λg Q c=>?_;have y:(.cells g (List.replicate k (.int .i64 0)) 3::L)[i+1]?=ax (.cells r [x] 3):=hi;have z:(List.replicate k (Value.int .i64 0)).length=k:=anU;have l:=HU (P:=ah) (dT:=123) (sT:=123) (ty:=3) (T:=3) (E:=3) (cb:=#[au,au]) (g:=g) (o:=0) (dLen:=k) (dCap:=k) (sz:=1) (a:=⟨r,0,aw⟩) (sLen:=1) (sCap:=1) (w:=Q) (cur:=List.replicate k (Value.int .i64 0)) (src:=[x].take (Nat.min 1 k)) amZ szI1 (c.at_ 0 rfl) (by rw[amL,aoI];simp) (λj v A=>by
  have d:[x][j]?=ax v:=uF A;rw[cM,amO];exact aI (T:=3) (c.at_ (i+1) y) d) (by rw[amL,aoI,z];have s:Nat.min 1 k=min 1 k:=rfl;omega) (by
  intro v t;have:=aoO t;rw[anB] at this;rw[this];exact G)
 refine tG l ?_;have c:=gZ c 0 rfl ((List.replicate k (Value.int .i64 0)).take 0++[x].take (Nat.min 1 k)++(List.replicate k (Value.int .i64 0)).drop (0+([x].take (Nat.min 1 k)).length));refine loop (λvs W=>∃(n:Nat) (cur:List aq),vs=[.int .i64 n]∧n<=k∧(n=0->k=0)∧cur.length=k∧cur.take n=List.replicate n x∧OwnS S w0 W (.cells g cur 3::L)) (λvs _=>k - n0 vs) ⟨Nat.min 1 k,_,rfl,Nat.min_le_right _ _,?_,?_,?_,c⟩ ?_
 ·intro h;rcases aoP k with d|d
  ·exact d
  ·have:Nat.min 1 k=1:=anL d;omega
 ·rcases aoP k with d|d
  ·subst d;rfl
  ·rw[show Nat.min 1 k=1 from anL d];simp;omega
 ·rcases aoP k with d|d
  ·subst d;rfl
  ·rw[show Nat.min 1 k=1 from anL d];rfl
 clear c l;rintro vs w2 ⟨n,cur,rfl,X,R,p,f,c⟩ _;simp only[iQ,gd,bnx,lnx];rw[bD amZ (Sl.cells (c.at_ 0 rfl) 1 k k (by rw[p,anC]))];simp only[rs];by_cases q:(n:Int) < (k:Int)
 ·simp only[q,amD,i_t];refine dW (λW=>OwnS S w0 W (.cells g cur 3::L)) c.drew ?_;refine q_do _ (λ_=>dR amZ szI1 om om) (q_do _ (λ_=>jT amZ szI1 om om) ?_);intro w3 c;rw[amK,fJ om,show subA (ax ⟨g,0,aw⟩) 0 k 1=ax ⟨g,0,aw⟩ from EM (a:=⟨g,0,aw⟩),amO,anC];have l:=HU (P:=ah) (dT:=123) (sT:=123) (ty:=3) (T:=3) (E:=3) (cb:=#[au,au]) (g:=g) (o:=n) (dLen:=k - n) (dCap:=k - n) (sz:=1) (a:=⟨g,0,aw⟩) (sLen:=n) (sCap:=k) (w:=w3) (cur:=cur) (src:=cur.take (Nat.min n (k - n))) amZ szI1 (c.at_ 0 rfl) (by
    rw[amL,p,anC];have Y:=Nat.min_le_left n (k - n);have s:Nat.min n (k - n)=min n (k - n):=rfl;omega) (λj v A=>by
   have d:cur[j]?=ax v:=uF A;rw[cM,amO];exact aI (T:=3) (c.at_ 0 rfl) d) (by
    rw[amL,p];have s:Nat.min n (k - n)=min n (k - n):=rfl;omega) (by
   intro v t;have B:cur.take (Nat.min n (k - n))=(cur.take n).take (Nat.min n (k - n)):=by
    rw[aqX]
    congr 1
    have s:Nat.min n (k - n)=min n (k - n):=rfl;omega
   rw[B,f] at t;have:=apP (aoO t);rw[this];exact G)
  refine tG l ?_;have c:=gZ c 0 rfl (cur.take n++cur.take (Nat.min n (k - n))++cur.drop (n+(cur.take (Nat.min n (k - n))).length));have s:Nat.min n (k - n)=min n (k - n):=rfl;have C:1<=Nat.min n (k - n):=om
  have D:Nat.min n (k - n)<=k - n:=om
  have F:Nat.min n (k - n)<=n:=om
  generalize Nat.min n (k - n)=m at c C D F;rw[show goInt m=.int .i64 (m:Int) from rfl];simp only[rs];rw[aA om om];refine aY ⟨n+m,_,rfl,om,om,?_,?_,c⟩ (by simp[n0,RowKit.intOf];omega)
  ·simp only[amC,amL,amQ,p];omega
  ·have B:cur.take m=List.replicate m x:=by
    have:cur.take m=(cur.take n).take m:=by rw[aqX];congr 1;omega
    rw[this,f,List.take_replicate];congr 1;omega
   rw[f,B,atL sm,anJ sm,List.replicate_append_replicate]
 ·simp only[q,amF,i_f];have:n=k:=om
  subst this;rw[anJ om] at f;subst f;exact H g w2 c
end
end
section
namespace Eng
open Go.RowKit
def intK (k:Int):Value:=.int .i64 k
def Qc (w:ao)(b:Nat)(a:List (Int×aq)):Prop:=∃es clock,w.heap[b]?=ax (.map es clock)∧es.toList.map (λe=>(e.key,e.val))=a.map λp=>(intK p.1,p.2)
def uG (a:List (Int×aq))(k:Int):Option Value:=(a.find? λp=>ai (p.1=k)).map (·.2)
theorem G9 (k:Int):∀(es:List MapEntry) (a:List (Int×aq)) (i:Nat),es.map (λe=>(e.key,e.val))=a.map (λp=>(intK p.1,p.2)) ->
  ∃r,Instr.findNow (.int .i64) (intK k) es i=ax r∧r.map (·.2)=uG a k
|[],[],i,_=>⟨aw,rfl,rfl⟩
|e::es,p::a,i,h=>by
  simp only[anS,arE,aqG] at h;obtain⟨⟨j,l⟩,m⟩:=h;have g:Instr.sameNow (.int .i64) (intK k) e.key=ax (ai (k=p.1)):=by
   rw[j];show ax (k==p.1)=_
   congr 1
  by_cases b:k=p.1
  ·refine⟨ax (i,e.val),?_,?_⟩
   ·rw[Instr.findNow,g];simp[b]
   ·simp[uG,b,l]
  ·obtain⟨r,c,d⟩:=G9 k es a (i+1) m;refine⟨r,?_,?_⟩
   ·rw[Instr.findNow,g];simp[b,c]
   ·have f:¬p.1=k:=λe=>b e.symm;rw[d];simp[uG,f]
|[],_::_,_,h=>by simp at h
|_::_,[],_,h=>by simp at h
section
variable {S:Nat->Prop}{P:Program}{w w0:ao}{L:List Ent}{PK:PKT}{K:VWP}
theorem EZ {k:TypeId}{e:Bool}(a:P.underlying k=ax (.int .i64))(x:Int):(Instr.checkKey e 10000 k (intK x)).run P w=.ok () w:=by
 show (Instr.checkKey e (9999+1) k (intK x)).run P w=_;rw[Instr.checkKey];simp[run_underlying a,intK]
theorem OA {k:TypeId}(b:P.underlying k=ax (.int .i64))(x:Int){es:List MapEntry}{a:List (Int×aq)}(h:es.map (λe=>(e.key,e.val))=a.map (λp=>(intK p.1,p.2))) :
  ∃r,(Instr.findKey k (intK x) es).run P w=.ok r w∧r.map (·.2)=uG a x:=by
 obtain⟨r,c,d⟩:=G9 x es a 0 h;refine⟨r,?_,d⟩;simp[Instr.findKey,run_underlying b,c]
theorem T4 {T k e:TypeId}{ok:Bool}{a:List (Int×aq)}{z:aq}(g:P.underlying T=ax (.map k e))(c:P.underlying k=ax (.int .i64))(m:(P.info? e).bind (·.zero)=ax z)(h:Qc w b a)(x:Int) :
  (Sn T (.map (ax b)) (intK x) ok).run P w=.ok (.value (if ok then .tuple #[(uG a x).getD z,.bool (uG a x).isSome] else (uG a x).getD z)) w:=by
 obtain⟨es,clock,j,n⟩:=h;obtain⟨r,l,o⟩:=OA (P:=P) (w:=w) c x n;have d:(zeroValue e).run P w=.ok z w:=by
  obtain⟨i,hi,f⟩:=arD.1 m;simp[zeroValue,typeInfo,hi,f]
 refine cJ ?_;rw[<-o];cases r with
|none=>simp[Instr.lookup,run_underlying g,getObj,Sem.run,j,EZ c x,l,d]
|some p=>
  obtain⟨i,v⟩:=p;simp[Instr.lookup,run_underlying g,getObj,Sem.run,j,EZ c x,l]
end
section
variable {S:Nat->Prop}{P:Program}{w w0:ao}{L:List Ent}{PK:PKT}{K:VWP}
end
end Eng
end
section
open Eng Go.RowKit
abbrev frT:TypeId:=330
abbrev frA:TypeId:=331
def fxL:List (Nat×Nat):=[(144,8),(112,9),(24,7),(8,8)]
def fxC:List Value:=fxL.flatMap λp=>[.int .i64 (p.1:Int),.int .i64 (p.2:Int)]
def IF (i:Nat):List Nat:=(fxL.take i).flatMap λp=>List.replicate p.1 p.2
def cr:List Nat:=IF 4
def db:List Nat:=List.replicate 32 5
theorem TS (hi:i<=4):(IF i).length<=288:=by
 rcases (by omega:i=0∨i=1∨i=2∨i=3∨i=4) with rfl|rfl|rfl|rfl|rfl<;>decide +kernel
theorem RN (hi:i < 4):IF (i+1)=IF i++List.replicate (fxL.getD i (0,0)).1 (fxL.getD i (0,0)).2:=by
 rcases (by omega:i=0∨i=1∨i=2∨i=3) with rfl|rfl|rfl|rfl<;>decide +kernel
theorem aeS (hi:i < 4):(fxL.getD i (0,0)).1<=144∧1<=(fxL.getD i (0,0)).1:=by
 rcases (by omega:i=0∨i=1∨i=2∨i=3) with rfl|rfl|rfl|rfl<;>decide
theorem Ih (k n:Nat):aV (List.replicate k n)=List.replicate k (.int .i64 (n:Int)):=by simp[aV]
section
variable {w:ao}{PK:PKT}{K:VWP}{S:Nat->Prop}{w0:ao}{L:List Ent}
theorem m_fr {b:Int}:DoX ah (aS frT #[(0,.int .i64 a),(1,.int .i64 b)]) w PK K=K (.agg #[.int .i64 a,.int .i64 b]) w:=aD krx
theorem ajM:DoX ah (aS frA #[(0,.agg #[.int .i64 144,.int .i64 8]),(1,.agg #[.int .i64 112,.int .i64 9]),(2,.agg #[.int .i64 24,.int .i64 7]),(3,.agg #[.int .i64 8,.int .i64 8])]) w PK K=K (.agg fxC.toArray) w:=aD krx
theorem aeE (hi:i < 4):(mIx frA (.agg fxC.toArray) (.int .i64 (i:Int))).run ah w=.ok (.value (.agg #[.int .i64 ((fxL.getD i (0,0)).1:Int),.int .i64 ((fxL.getD i (0,0)).2:Int)])) w:=by
 rcases (by omega:i=0∨i=1∨i=2∨i=3) with rfl|rfl|rfl|rfl<;>kernel_rfl
def frC (a b:Int):List Value:=[.int .i64 a,.int .i64 b]
theorem M9 {b:Int}:∀u∈frC a b,u.oneCell'=true:=by
 intro u hu;simp only[frC,amH,anW,or_false] at hu;rcases hu with rfl|rfl<;>rfl
theorem aeY:fOff ah frT 0=ax 0:=krx
theorem afD:fOff ah frT 1=ax 1:=krx
theorem szFr:(Tryz.prog.info? frT).map (·.size)=ax 2:=krx
theorem Jh (M:Mem)(w:ao)(j:M.has w):RetM ah 294 #[] M w (λv N=>∃a b,v=.tuple #[a,b]∧SlA N.A N.w a 1 cr.length (aV cr)∧SlA N.A N.w b 1 db.length (aV db)):=by
 refine bB j λK l=>CJ ?_;unfold yK nz;have c:OwnS M.A w w [.mem M]:=OwnS.memS j;rw[m_fr,m_fr,m_fr,m_fr,ajM];have c:OwnS M.A w w [.urow 3 1 nilS 0 [],.mem M]:=OwnS.nilU (L:=[.mem M]) c _ _;refine loop (λvs W=>∃(i:Nat) (ov:aq),vs=[ov,.int .i64 (i:Int)]∧i<=4∧OwnS M.A w W [.urow 3 1 ov (IF i).length (aV (IF i)),.mem M]) (λvs _=>4 - n1 vs) ⟨0,nilS,rfl,om,c⟩ ?_;clear c;rintro vs s ⟨i,ov,rfl,hi,c⟩ _;simp only[rM,gd,rs,nz];by_cases g:(i:Int) < 4
 ·simp only[g,amD,i_t];have d:i < 4:=om
  have m:=TS (Nat.le_of_lt d);have hle:=aeS d;have f:=RN d;refine aD (aeE d) |>.mpr ?_;generalize fxL.getD i (0,0)=e at hle f;obtain⟨k,n⟩:=e;dsimp only at hle f ⊢;refine bA (λb=>.pointer (ax ⟨b,0,aw⟩)) (frC 0 0) frT (λ_=>by kernel_rfl) c λb w2 c=>?_;refine gX 0 c rfl (new:=frC k n) szFr M9 rfl λw3 c=>?_;rw[aO afD,aJ aU (c.cell 0 rfl 1 rfl)];refine uN (n:Int) c λb2 o c=>?_;rw[aO aeY,aJ aU (c.cell 1 rfl 0 rfl)];refine Ti 0 c rfl rfl om λb3 p c=>?_;refine oA 3 c rfl (Sl.cells (c.at_ 0 rfl) 1 k k (by rw[anU,anC])) (λu hu=>by rw[apP hu];rfl) om λv' t c=>?_
  try simp only[rs]
  rw[aA om om];refine aY ⟨i+1,v',rfl,om,?_⟩ (by simp[n1,RowKit.intOf];omega);rw[f,mS,Ih,amC,anU];exact c.tail.tail.tail
 ·simp only[g,amF,i_f];have:i=4:=om
  subst this;refine uN 5 c λb2 o c=>?_;refine Ti (k:=32) 0 c rfl rfl om λb3 p c=>?_;have c:=c.sub (L':=[.cells b3 (List.replicate 32 (.int .i64 5)) 3,.urow 3 1 ov (IF 4).length (aV (IF 4)),.mem M]) (.cons_cons _ (.cons _ (arK _)));have c:=OwnS.toU (b:=b3) c 1 32 32 (by rw[anU]) om om;obtain⟨N1,g1,h,c⟩:=OwnS.bI (L:=[.urow 3 1 ov (IF 4).length (aV (IF 4)),.mem M]) c 1 rfl;obtain⟨q,g2,r,c⟩:=OwnS.bI (L:=[.mem N1]) c 0 rfl;refine l _ _ q _ 0 c rfl (g1.trans g2) ⟨_,_,rfl,r,?_⟩;have h:=h.le g2;rw[show db.length=32 from rfl,show aV db=List.replicate 32 (.int .i64 5) from Ih 32 5];exact h
end
def dn (g:Nat):Nat:=if g=18 then 11 else 3
def cm (g:Nat):Nat:=if g=16 then 2 else if g=17 then 3 else 7
def jg (cl:List Nat)(s:List UInt8)(n:Nat):Nat->Nat->List Nat->List Nat×Nat×Int
|0,p,l=>(l,p,13)
|f+1,p,l=>
  if n<=l.length then (l,p,0)
  else
   let r:=dk cl s p
   if r.2.2≠0 then (l,p,r.2.2)
   else if r.1 < 16 then jg cl s n f r.2.1 (l++[r.1])
   else if r.1=16∧l.length=0 then (l,p,3)
   else if 8*s.length < r.2.1+cm r.1 then (l,p,4)
   else if n < l.length+(dn r.1+Fl.num s r.2.1 (cm r.1)) then (l,p,3)
   else jg cl s n f (r.2.1+cm r.1) (l++List.replicate (dn r.1+Fl.num s r.2.1 (cm r.1)) (if r.1=16 then l.getD (l.length - 1) 0 else 0))
def Fl.lens (cl:List Nat)(s:List UInt8)(n p:Nat):List Nat×Nat×Int:=jg cl s n (n+1) p []
def rpM:List (Int×aq):=[(16,.agg #[.int .i64 3,.int .i64 2]),(17,.agg #[.int .i64 3,.int .i64 3]),(18,.agg #[.int .i64 11,.int .i64 7])]
def Rp (M:Mem):Prop:=∃a,M.A 3∧M.w.cell? ⟨3,0,aw⟩=ax (.map (ax a))∧M.A a∧∃b,(∀k:Int,uG b k=uG rpM k)∧Qc M.w a b
theorem Mem.cell {M:Mem}{w:ao}(h:M.has w){b j:Nat}{v:aq}(a:M.A b)(c:M.w.cell? ⟨b,j,aw⟩=ax v):w.cell? ⟨b,j,aw⟩=ax v:=(LS (h b a)).trans c
theorem Rp.le {M N:Mem}(h:M.le N)(k:Rp M):Rp N:=by
 obtain⟨b,c,e,d,f,a,es,cl,g,i⟩:=k;exact⟨b,h.A _ c,Mem.cell h.has c e,h.A _ d,f,a,es,cl,(h.has b d).trans g,i⟩
theorem ajH {g:Nat}(h:g < 16):uG rpM (g:Int)=none:=by
 simp[uG,rpM];omega
theorem akU {g:Nat}(h:16<=g)(a:g < 19):uG rpM (g:Int)=ax (.agg #[.int .i64 (dn g:Int),.int .i64 (cm g:Int)]):=by
 rcases (by omega:g=16∨g=17∨g=18) with rfl|rfl|rfl<;>rfl
theorem mpRp:Tryz.prog.underlying 365=ax (.map 3 363):=underlying365
theorem zRp:(Tryz.prog.info? 363).bind (·.zero)=ax (.agg #[.int .i64 0,.int .i64 0]):=krx
theorem ahA:eD ah 365=true:=krx
theorem acA:fOff ah 363 0=ax 0:=krx
theorem adY:fOff ah 363 1=ax 1:=krx
theorem szRp:(Tryz.prog.info? 363).map (·.size)=ax 2:=krx
theorem yy (g:Nat):cm g<=7:=by
 unfold cm;split
 ·omega
 ·split<;>omega
theorem yz (g:Nat):3<=dn g∧dn g<=11:=by unfold dn;split<;>omega
def lenV:aq->Nat|.slice _ n _=>n|_=>0
def alI (vs:List aq):Nat:=lenV (vs.getD 0 undef)
theorem OI {n:Nat}(h:Sl w v sz n cs):lenV v=n:=by
 obtain⟨_,a,cap,rfl,_⟩:=h;rfl
section
variable {w:ao}{PK:PKT}{K:VWP}{S:Nat->Prop}{w0:ao}{L:List Ent}
theorem Xf {n:Nat}(f:n<=1000000)(a:OwnS S w0 w L)(k:∀v w',OwnS S w0 w' (.urow 3 1 v 0 []::L)->K v w') :
  DoX ah (G5 123 (.int .i64 0) (.int .i64 (n:Int))) w PK K:=by
 obtain⟨i,hi,c,d,e⟩:=PD;refine bA (λb=>.slice (ax ⟨b,0,aw⟩) 0 n) (List.replicate n (.int .i64 0)) 3 (λW=>?_) a λb w' a=>k _ _ ?_
 ·have:=Go.run_make (P:=ah) W 123 3 i (Value.int .i64 0) amZ hi c .i64 .i64 (0:Int) (n:Int) om om (by rw[e];omega) om;rw[d,amK,PT] at this;exact cJ this
 ·have:=OwnS.toU (b:=b) a 1 0 n (by rw[anU,anC]) om om;exact this
theorem abC {a:Nat}{b:List (Int×aq)}(c:∀k:Int,uG b k=uG rpM k)(d:M.has w)(e:M.A a)(h:Qc M.w a b)(g:Nat):(Sn 365 (.map (ax a)) (.int .i64 (g:Int)) av).run ah w=.ok (.value (.tuple #[(uG rpM (g:Int)).getD (.agg #[.int .i64 0,.int .i64 0]),.bool (uG rpM (g:Int)).isSome])) w:=by
 have hw:Qc w a b:=by
  obtain⟨es,cl,f,i⟩:=h;exact⟨es,cl,(d a e).trans f,i⟩
 rw[<-c];exact T4 (ok:=av) mpRp anT zRp hw (g:Int)
theorem Vf {n:Nat}{ov:aq}{s:List UInt8}{out:List UInt8}{R:List Ent}(jm:Nat)(a:OwnS S w0 w (Fs fb rb s most ov way p out R))(hm:R[jm]?=ax (.mem M))(ht:TbAt M.A M.w tb cl)(hl:cl.length=19)(N:Rp M)(hw:way=0∨way=1)(hp:p<=8*s.length)(hs:s.length<=1000000000)(hn:n<=1000)
  (k1:(Fl.lens cl s n p).2.2=0->(Fl.lens cl s n p).2.1<=8*s.length->(Fl.lens cl s n p).1.length=n->(∀x∈(Fl.lens cl s n p).1,x<=15)->∀way' i W,(way'=0∨way'=1)->OwnS S w0 W (.urow 3 1 i (Fl.lens cl s n p).1.length (aV (Fl.lens cl s n p).1)::Fs fb rb s most ov way' (Fl.lens cl s n p).2.1 out R)->K i W)
  (E:(Fl.lens cl s n p).2.2≠0->∀way' p' W,OwnS S w0 W (Fs fb rb s most ov way' p' out R)->PK [upI (Fl.lens cl s n p).2.2] W) :
  CallX ah 339 #[.pointer (ax ⟨fb,0,aw⟩),.pointer (ax ⟨tb,0,aw⟩),.int .i64 (n:Int)] w PK K:=by
 generalize c:Fl.lens cl s n p=X at k1 E;unfold Fl.lens at c;refine⟨pQ ?_⟩;unfold jR nz;refine Xf om a λi w1 a=>?_;refine loop (λvs W=>∃(p:Nat) (way:Int) (l:List Nat) (i:aq),vs=[i]∧(way=0∨way=1)∧p<=8*s.length∧l.length<=n∧(∀x∈l,x<=15)∧(∃f,n+1 - l.length<=f∧jg cl s n f p l=X)∧OwnS S w0 W (.urow 3 1 i l.length (aV l)::Fs fb rb s most ov way p out R)) (λvs _=>n - alI vs) ⟨p,way,[],i,rfl,hw,hp,anG _,(λx o=>by cases o),⟨_,amJ _,c⟩,a⟩ ?_;clear a c hp hw;rintro vs w1 ⟨p,way,l,i,rfl,hw,hp,a8,j,⟨f,hf,c⟩,a⟩ _;have b0:lenV i=l.length:=OI (a.slU 0 rfl);simp only[iO,gd,nz];obtain⟨f,rfl⟩:∃f',f=f'+1:=⟨f - 1,om⟩;rw[jg] at c;dsimp only at c;rw[bD amZ (a.slU 0 rfl)]
 try simp only[rs]
 by_cases F:(l.length:Int) < (n:Int)
 case neg=>
  simp only[F,amF,i_f];rw[amB om] at c;subst c;exact k1 rfl hp (by dsimp only;omega) j _ _ _ hw a
 simp only[F,amD,i_t];rw[amA om] at c
 try rw[bG]
 rw[Mx,TL a 1 rfl];refine Oe 2 (jm+4) om a rfl hm ht om hw hp hs λd W3 v r a=>?_;have a:OwnS S w0 W3 (.urow 3 1 i l.length (aV l)::Fs fb rb s most ov d (dk cl s p).2.1 out R):=a;have m:(dk cl s p).1 < cl.length:=po s om 16 0 p 0;rw[hl] at m;generalize dk cl s p=T at c a r m;obtain⟨g,q,e⟩:=T;dsimp only at c a r m;simp only[ex];refine tO (λJ=>?_) (λJ=>?_)
 rotate_left
 ·rw[amB J] at c;subst c;exact E J _ _ _ a.tail
 rw[amA (by rw[J];decide)] at c;obtain⟨mb,O,P,Q,al,U,V⟩:=N;have hM:=a.hasM (jm+4) hm;rw[aJ ahA (Mem.cell hM O P)];refine aD (abC U hM Q V g) |>.mpr ?_;simp only[ex];refine bA (λb=>.pointer (ax ⟨b,0,aw⟩)) (frC 0 0) 363 (λ_=>by kernel_rfl) a λy w4 a=>?_;by_cases z:g < 16
 ·rw[amB z] at c;rw[ajH z];simp only[Option.getD_none,aqP];refine gX 0 a rfl (new:=frC 0 0) szRp M9 rfl λw5 a=>?_;simp only[rs,nn_f];refine uN (g:Int) a λb2 w6 a=>?_;refine oA 2 a rfl (a.sl 0 rfl 1 1 1 rfl) tD om λv' w7 a=>?_;have G:lenV v'=l.length+1:=OI (a.slU 2 rfl);refine aY ⟨q,d,l++[g],v',rfl,v,r,by rw[amC,aoI];omega,?_,⟨f,by rw[amC,aoI];omega,c⟩,?_⟩ (by show n - lenV v' < n - lenV i;omega)
  ·intro x o;rcases anF.1 o with o|o
   ·exact j x o
   ·rw[anB.1 o];omega
  ·rw[mS,amC];exact a.tail.tail
 rw[amA z] at c;rw[akU om m];simp only[apY,aqY];refine gX 0 a rfl (new:=frC (dn g) (cm g)) szRp M9 rfl λw5 a=>?_;simp only[rs,nn_t];have hB:=yy g;have hL:=yz g;refine join λJ2 Y=>?_;have rest:∀(W:ao) (D:Nat),(D=if g=16 then l.getD (l.length - 1) 0 else 0)->D<=15->¬(g=16∧l.length=0)->OwnS S w0 W (.cells y (frC (dn g) (cm g)) 363::.urow 3 1 i l.length (aV l)::Fs fb rb s most ov d q out R)->J2 [.int .i64 (D:Int)] W:=by
  intro W D Z B a1 a;rw[amA a1,<-Z] at c;refine Y _ _ λ_=>?_;simp only[iP,gd,iN,dx,bnx,lnx,apx,cx];have a:=a.drew;refine⟨λW=>(Ent.cells y (frC (dn g) (cm g)) 363).is W,a.at_ 0 rfl,?_⟩;refine aR _ (λ_=>bE acA) (jH _ (λW h=>aB aU (aI (T:=363) h rfl)) ?_);refine aR _ (λ_=>bE adY) (jH _ (λW h=>aB aU (aI (T:=363) h rfl)) ?_);refine oC (n:=cm g) 2 3 a rfl rfl v r om hs (λh5 W5 a=>?_) (λh5 W5 a=>?_)
  rotate_left
  ·rw[amB h5] at c;subst c
   repeat intro _
   exact E (by dsimp only;decide) _ _ _ a.tail.tail
  rw[amA om] at c;have H:(if 0 < cm g then (1:Int) else d)=0∨(if 0 < cm g then (1:Int) else d)=1:=by split;exact .inr rfl;exact v
  have a:OwnS S w0 W5 (.cells y (frC (dn g) (cm g)) 363::.urow 3 1 i l.length (aV l)::Fs fb rb s most ov (if 0 < cm g then 1 else d) (q+cm g) out R):=a;generalize (if 0 < cm g then (1:Int) else d)=I at a H;have b1:=Fl.xV s q (cm g);have b4:2 ^ cm g<=2 ^ 7:=aoH dc hB;have a7:(2:Nat) ^ 7=128:=dc
  refine⟨a.at_ 0 rfl,?_⟩;refine aR _ (λ_=>Iy) ?_;rw[aA om om,show (dn g:Int)+(Fl.num s q (cm g):Int)=((dn g+Fl.num s q (cm g):Nat):Int) by omega];generalize hk:dn g+Fl.num s q (cm g)=k at c;rw[bD amZ (a.slU 1 rfl)]
  try simp only[rs]
  rw[aA om om];refine iU (λt=>?_) (λt=>?_)
  rotate_left
  ·have:=anO t;rw[amB om] at c;subst c;exact E (by dsimp only;decide) _ _ _ a.tail.tail
  have t:=amU t;rw[amA om] at c;refine uN (D:Int) a λb2 w6 a=>?_;refine Ti 0 a rfl rfl om λb3 w7 a=>?_;refine oA 3 a rfl (Sl.cells (a.at_ 0 rfl) 1 k k (by rw[anU,anC])) (λu hu=>by rw[apP hu];rfl) om λv' w8 a=>?_;have G:lenV v'=l.length+k:=OI (a.slU 3 rfl);refine aY ⟨q+cm g,I,l++List.replicate k D,v',rfl,H,h5,by rw[amC,anU];omega,?_,⟨f,by rw[amC,anU];omega,c⟩,?_⟩ (by show n - lenV v' < n - lenV i;omega)
  ·intro x o;rcases anF.1 o with o|o
   ·exact j x o
   ·rw[apP o];exact B
  ·rw[mS,Ih,amC,anU];exact a.tail.tail.tail
 by_cases L:g=16
 case neg=>
  simp only[show ai ((g:Int)=16)=au from amE om,i_f];exact rest _ 0 (by rw[amA L]) om (λh=>L h.1) a
 simp only[show ai ((g:Int)=16)=av from amG om,i_t];rw[bD amZ (a.slU 1 rfl)]
 try simp only[rs]
 refine iU (λt=>?_) (λt=>?_)
 rotate_left
 ·have:=anO t;rw[amB ⟨L,om⟩] at c;subst c;exact E (by dsimp only;decide) _ _ _ a.tail.tail
 have t:=amU t;rw[bD amZ (a.slU 1 rfl)]
 try simp only[rs]
 rw[aA om om,show (l.length:Int) - 1=((l.length - 1:Nat):Int) by omega];have C:l.length - 1 < l.length:=om
 obtain⟨b2,off,r1,r2⟩:=mU (a.slU 1 rfl) C;refine aD (r1 w5) |>.mpr (aD (aB aU r2) |>.mpr ?_);have a6:l.getD (l.length - 1) 0=l[l.length - 1]:=by rw[amI,amN C];rfl
 exact rest _ _ (by rw[amB L,a6]) (j _ (amR C)) (λh=>by omega) a
end
end
end Go.Proofs.YtlipjfcbjemicaaGreatDoor
