/- Texts that go together: SInfl InfB SCode InfC InfD IntsA InfE SSlcN InfF InfG InfH InfI InfJ InfK EngAJ InfL InfM Plain16B SRef10 SRef11 IrA InfN InfO EngAB InfP InfQ SInflR SInflQ InfR IrB IrC IrD SZlib SRef13. -/
import Derived.Test.YtlipjfcbjemicaaGreatDoorRows
import Derived.Test.YtlipjfcbjemicaaGreatDoorMnccpkcan
set_option linter.defProp false
set_option linter.unusedSimpArgs false
set_option linter.unusedVariables false
set_option maxRecDepth 20000
open Go.Proofs.Tryz
open Go.Proofs.Tryz renaming prog->ah
open Option renaming some->ax,none->aw
open Bool renaming true->av,false->au
open Go renaming Value->aq,World->ao
open Decidable renaming decide->ai
namespace Go.Proofs.YtlipjfcbjemicaaGreatDoor
variable{A:Nat->Prop}{C:ao->Prop}{D U:TypeId}{K:VWP}{L:List Eng.Ent}{M:Eng.Mem}{P:Program}{PK:PKT}{R:Ending->FrameMode->ao->Prop}{W w w' w0:ao}{a way:Int}{b cap fb i j m most p rb sz tb:Nat}{c t0 v v' v2:aq}{cb:Array Bool}{cl l near:List Nat}{cs news xs:List aq}{q:Bool}{u:FrameMode}{xo yo:Operand}{α:Type}{t0 t1 t2:aq}{k0:Eng.KT}
section
open Eng
def qS(t0 t1 w)(K:KT):=nz f272 1 [] [] [] (zg [0,1] [t0,t1]) w K
theorem sW:qS t0 t1 w k0->Calls ah 272 #[t0,t1] w k0:=cw func272
def qL(t0 t1 w)(K:KT):=nz f331 1 [] [] [] (zg [0,1] [t0,t1]) w K
theorem wB:qL t0 t1 w k0->Calls ah 331 #[t0,t1] w k0:=cw func331
def lS(t0 t1 w)(K:KT):=nz f335 1 [] [] [] (zg [0,1] [t0,t1]) w K
theorem sB:lS t0 t1 w k0->Calls ah 335 #[t0,t1] w k0:=cw func335
def eR(t0 t1 w)(K:KT):=nz f338 1 [] [] [] (zg [0,1] [t0,t1]) w K
theorem iG:eR t0 t1 w k0->Calls ah 338 #[t0,t1] w k0:=cw func338
def nI(t0 t1 w)(K:KT):=nz f305 1 [] [] [] (zg [0,1] [t0,t1]) w K
theorem uA:nI t0 t1 w k0->Calls ah 305 #[t0,t1] w k0:=cw func305
def nG(t0 t1 w)(K:KT):=nz f334 1 [] [] [(0,12)] (zg [0,1] [t0,t1]) w K
theorem tN:nG t0 t1 w k0->Calls ah 334 #[t0,t1] w k0:=cw func334
def kR(a w)(K:KT):=
 nlx a w K λd w=>fax 278 d 0 w K λe w=>ldx 275 e w K λf w=>cx 333 #[f] w K λv w=>cx 305 #[a,(iN 16)] w K λb w=>cx 305 #[a,(iN 16)] w K λg w=>bnx .sub 3 (iN 65535) b w K λh w=>eqx .eql 3 (.tmp 11) (.tmp 13) g h w K λi w=>cx 272 #[i,(iN 3)] w K λx w=>cx 334 #[a,b] w K λy w=>HeldX w (λS1 w=>HDo ah (λ_=>True) (mNil a) λj=>HDo ah (λ_=>True) (mFA 278 j 1) λk=>HDo ah S1 (aH 53 k) λl=>HDo ah (λ_=>True) (mNil a) λm=>HDo ah (λ_=>True) (mFA 278 m 0) λn=>HDo ah S1 (aH 275 n) λo=>CallX ah 336 #[o,b] w (ay 14 (pk K)) λc w=>S1 w∧(HDo ah (λ_=>True) (mExt c 0) λp=>HDo ah (λ_=>True) (mExt c 1) λq=>CallX ah 335 #[p,q] w (ay 14 (pk K)) λr w=>S1 w∧(DoX ah (mB .append #[53,9] 53 #[au,au] #[l,r]) w (ay 14 (pk K)) λs w=>S1 w∧(HDo ah (λ_=>True) (mNil a) λt=>HDo ah (λ_=>True) (mFA 278 t 1) λu=>DoX ah (aN 53 u s) w (ay 14 (pk K)) λ_ w=>(K (.returned (.tuple #[])) w)))))
theorem qX:kR t0 w k0->Calls ah 306 #[t0] w k0:=cw func306
def lP(t0 w)(K:KT):=nz f307 1 [] [] [] (zg [0] [t0]) w K
theorem rO:lP t0 w k0->Calls ah 307 #[t0] w k0:=cw func307
def iQ(a b i e j k c w)(N1:JT)(K:KT):=
 bnx .lss 3 c k w K λl w=>IfX l (iax 123 j c w K λm w=>ldx 3 m w K λn w=>cx 305 #[a,(iN 3)] w K λo w=>iax 308 e n w K λp w=>stx 3 p o w K λ_ w=>bnx .add 3 c (iN 1) w K λq w=>N1 [q] w) (slx 308 e aw aw aw w K λr w=>cx 295 #[r] w K λf w=>exx f 0 w K λs w=>exx f 1 w K λt w=>cx 338 #[s,t] w K λu w=>bnx .add 3 b i w K λv w=>cx 339 #[a,u,v] w K λd w=>iax 123 d (iN 256) w K λx w=>ldx 3 x w K λy w=>bnx .gtr 3 y (iN 0) w K λz w=>cx 272 #[z,(iN 13)] w K λL w=>HeldX w (λS2 w=>HDo ah S2 (eG 123 d aw (ax b) aw) λA=>HDo ah S2 (eG 123 d (ax b) aw aw) λB=>CallX ah 295 #[A] w (ay 11 (pk K)) λg w=>S2 w∧(HDo ah S2 (mExt g 0) λC=>HDo ah S2 (mExt g 1) λD=>CallX ah 338 #[C,D] w (ay 11 (pk K)) λF w=>S2 w∧(CallX ah 295 #[B] w (ay 11 (pk K)) λh w=>S2 w∧(HDo ah S2 (mExt h 0) λG=>HDo ah S2 (mExt h 1) λH=>CallX ah 338 #[G,H] w (ay 11 (pk K)) λI w=>S2 w∧(CallX ah 337 #[a,F,I] w (ay 11 (pk K)) λM w=>S2 w∧(K (.returned (.tuple #[])) w)))))))
def jV(t0 w)(K:KT):=nz f308 1 [] [(13,[25],λs v j w f=>iQ (s 0) (s 2) (s 3) (s 4) (s 23) (s 24) (vg v 0) w (f 0) K)] [] (zg [0] [t0]) w K
theorem pA:jV t0 w k0->Calls ah 308 #[t0] w k0:=cz [] [(6,[25])] func308
def iP(d e a b f w)(N1:JT)(K:KT):=
 HeldX w (λS3 w=>HDo ah S3 (mFA 363 b 0) λg=>HDo ah S3 (aH 3 g) λh=>HDo ah S3 (mFA 363 b 1) λi=>HDo ah S3 (aH 3 i) λj=>CallX ah 305 #[d,j] w (ay 7 (pk K)) λk w=>S3 w∧(HDo ah S3 (mBin .add 3 h k) λc=>lnx 123 a w K λl w=>bnx .add 3 l c w K λm w=>bnx .leq 3 m e w K λn w=>cx 272 #[n,(iN 3)] w K λr w=>dx (bN 123 1 #[(0,f)]) w K λo w=>cx 320 #[o,c] w K λp w=>apx 123 a p w K λq w=>N1 [q] w))
def iR(t0 t1 t2 t7 w)(N1:JT)(K:KT):=nz f339 19 [N1] [nh 5 [7],(22,[11],λs v j w f=>iP (s 0) (s 2) (s 7) (s 9) (vg v 0) w (f 0) K)] [] (zg [0,1,2,7] [t0,t1,t2,t7]) w K
def jS(t0 t1 t2 w)(K:KT):=nz f339 1 [] [(5,[7],λs v j w f=>iR (s 0) (s 1) (s 2) (vg v 0) w (f 0) K)] [] (zg [0,1,2] [t0,t1,t2]) w K
theorem pE:jS t0 t1 t2 w k0->Calls ah 339 #[t0,t1,t2] w k0:=cz [(11,[11])] [(2,[7])] func339
def jN(t0 t1 t2 w)(N1:JT)(K:KT):=nz f337 2 [N1] [nh 1 []] [] (zg [0,1,2] [t0,t1,t2]) w K
def mE(t0 t1 t2 w)(K:KT):=nz f337 1 [] [(1,[],λs v j w f=>jN (s 0) (s 1) (s 2) w (f 0) K)] [] (zg [0,1,2] [t0,t1,t2]) w K
theorem sJ:mE t0 t1 t2 w k0->Calls ah 337 #[t0,t1,t2] w k0:=cz [] [(0,[])] func337
def jD(a c d b w)(N1:JT)(K:KT):=
 bnx .lss 3 b d w K λe w=>IfX e (HeldX w (λS2 w=>HDo ah (λ_=>True) (mNil a) λf=>HDo ah (λ_=>True) (mFA 278 f 1) λg=>HDo ah S2 (aH 53 g) λh=>HDo ah (λ_=>True) (mNil a) λi=>HDo ah (λ_=>True) (mFA 278 i 1) λj=>HDo ah S2 (aH 53 j) λk=>HDo ah (λ_=>True) (mNil a) λl=>HDo ah (λ_=>True) (mFA 278 l 1) λm=>HDo ah S2 (aH 53 m) λn=>HDo ah (λ_=>True) (mB .len #[53] 3 #[au] #[n]) λo=>HDo ah (λ_=>True) (mBin .sub 3 o c) λp=>HDo ah (λ_=>True) (mIA 53 k p) λq=>HDo ah S2 (aH 5 q) λr=>DoX ah (bN 53 1 #[(0,r)]) w (ay 20 (pk K)) λs w=>S2 w∧(DoX ah (mB .append #[53,53] 53 #[au,au] #[h,s]) w (ay 20 (pk K)) λt w=>S2 w∧(HDo ah (λ_=>True) (mNil a) λu=>HDo ah (λ_=>True) (mFA 278 u 1) λv=>DoX ah (aN 53 v t) w (ay 20 (pk K)) λ_ w=>(bnx .add 3 b (iN 1) w K λx w=>N1 [x] w))))) (K (.returned (.tuple #[])) w)
def kP(t0 t1 t2 w)(K:KT):=nz f348 1 [] [(17,[57],λs v j w f=>jD (s 0) (s 8) (s 56) (vg v 0) w (f 0) K)] [] (zg [0,1,2] [t0,t1,t2]) w K
theorem qV:kP t0 t1 t2 w k0->Calls ah 348 #[t0,t1,t2] w k0:=cz [] [(8,[57])] func348
def jX(t3 w)(K:KT):=nz f274 15 [] [] [] (zg [3] [t3]) w K
def mD(t0 w)(K:KT):=nz f274 1 [] [(20,[],λs v j w f=>jX (s 3) w K)] [] (zg [0] [t0]) w K
theorem rR:mD t0 w k0->Calls ah 274 #[t0] w k0:=cz [(10,[])] [] func274
def Am(t0 t1 w)(K:KT):=nz f356 1 [] [] [] (zg [0,1] [t0,t1]) w K
theorem D2:Am t0 t1 w k0->Calls ah 356 #[t0,t1] w k0:=cw func356
def A7(t0 w)(K:KT):=nz f357 1 [] [] [] (zg [0] [t0]) w K
theorem DU:A7 t0 w k0->Calls ah 357 #[t0] w k0:=cw func357
def Cx(t0 t1 w)(K:KT):=nz f358 1 [] [] [] (zg [0,1] [t0,t1]) w K
theorem Fj:Cx t0 t1 w k0->Calls ah 358 #[t0,t1] w k0:=cw func358
def CI(t0 w)(K:KT):=nz f359 1 [] [] [] (zg [0] [t0]) w K
theorem Ft:CI t0 w k0->Calls ah 359 #[t0] w k0:=cw func359
def qC(t0 t1 t2 t6 t8 t9 w)(N1:JT)(K:KT):=nz f364 21 [N1] [nh 5 [1,9]] [] (zg [0,1,2,6,8,9] [t0,t1,t2,t6,t8,t9]) w K
def uN(t0 t1 t2 w)(K:KT):=nz f364 1 [] [(5,[1,9],λs v j w f=>qC (s 0) (vg v 0) (s 2) (s 6) (s 8) (vg v 1) w (f 0) K)] [] (zg [0,1,2] [t0,t1,t2]) w K
theorem Bl:uN t0 t1 t2 w k0->Calls ah 364 #[t0,t1,t2] w k0:=cz [] [(2,[1,9])] func364
def oQ(t0 t1 w)(K:KT):=nz f363 1 [] [] [] (zg [0,1] [t0,t1]) w K
theorem vT:oQ t0 t1 w k0->Calls ah 363 #[t0,t1] w k0:=cw func363
def sZ(t0 t8 t9 w)(N1:JT)(K:KT):=nz f294 21 [N1] [nh 5 [0,9]] [] (zg [0,8,9] [t0,t8,t9]) w K
def yV(w)(K:KT):=nz f294 1 [] [(5,[0,9],λs v j w f=>sZ (vg v 0) (s 8) (vg v 1) w (f 0) K)] [] (zg [] []) w K
theorem C9:yV w k0->Calls ah 294 #[] w k0:=cz [] [(2,[0,9])] func294
end
section
open Eng Go.RowKit
theorem nfI:lM ah 273=true:=krx
def upI (e:Int):PanicEntry:={ v:=.iface 273 (.agg #[.int .i64 e]),recovered:=au }
theorem ZE (e:Int)(w:ao):Ret ah 272 #[.bool av,.int .i64 e] w (λv w'=>v=.tuple #[]∧w=w'):=by
 refine aZ λK a=>sW ?_;unfold qS nz;simp only[rs,anH,i_f];exact a _ _ ⟨rfl,rfl⟩
theorem ZK (e:Int)(w:ao):Pan ah 272 #[.bool au,.int .i64 e] w (λc w'=>c=[upI e]∧w=w'):=by
 refine TA λK a=>sW ?_;unfold qS nz;simp only[rs,anK,i_t];have b:∀{PK:PKT} {K:VWP},DoX ah (aS 273 #[(0,.int .i64 e)]) w PK K=K (.agg #[.int .i64 e]) w:=aD krx;rw[b,Kn nfI,Gy];exact a _ _ ⟨rfl,rfl⟩
section
variable {w:ao}{PK:PKT}{K:VWP}{S:Nat->Prop}{w0:ao}{L:List Ent}
theorem iY {e:Int}(a:q=av->K (.tuple #[]) w)(b:q=au->PK [upI e] w):CallX ah 272 #[.bool q,.int .i64 e] w PK K:=by
 cases q with
|true=>exact c_eq (ZE e w) (a rfl)
|false=>exact Zy (ZK e w) λc w' ⟨d,hw⟩=>by subst d;subst hw;exact b rfl
theorem tG {n e:Int}(a:e=0->K (.int .i64 n) w)(b:e≠0->PK [upI e] w):CallX ah 331 #[.int .i64 n,.int .i64 e] w PK K:=by
 refine⟨wB ?_⟩;unfold qL nz;simp only[rs];exact iY (λh=>a (alZ h)) λh=>b (amR h)
theorem Qh {s:List UInt8}{e:Int}(a:e=0->K (.string ⟨s.toArray⟩) w)(b:e≠0->PK [upI e] w):CallX ah 335 #[.string ⟨s.toArray⟩,.int .i64 e] w PK K:=by
 refine⟨sB ?_⟩;unfold lS nz;simp only[rs];exact iY (λh=>a (alZ h)) λh=>b (amR h)
theorem ZA {s:List UInt8}(j:Nat)(c:OwnS S w0 w L)(d:L[j]?=ax (bqE b s way p))(hp:p<=8*s.length)(o:s.length<=1000000000)
  (k:∀W,OwnS S w0 W (L.set j (bqE b s 0 ((p+7) / 8*8)))->K (.tuple #[]) W):CallX ah 333 #[.pointer (ax ⟨b,0,aw⟩)] w PK K:=by
 have f:j < L.length:=(alY.1 d).1;refine fG (wP (k0:=RetK λv W=>v=.tuple #[]∧OwnS S w0 W (L.set j (bqE b s 0 ((p+7) / 8*8)))) ?_) (λe W ⟨v,he,i,c⟩=>by subst he;subst i;exact k W c);unfold qM nz;rw[Ei,i_f];refine join λJ l=>?_;have fin:∀(W:ao) (u a:Int),a=(((p+7) / 8:Nat):Int)->OwnS S w0 W (L.set j (rqE b s way u a))->J [] W:=by
  intro W u a m c;refine l _ _ λ_=>?_;unfold nC nz;have g:(L.set j (rqE b s way u a))[j]?=ax (rqE b s way u a):=by rw[aoS f]
  have n:∀{PK:PKT} {K:VWP},DoX ah (aS 315 #[]) W PK K=K (.agg #[.int .i64 0,.int .i64 0]) W:=aD krx;rw[n,bG,AF];refine xH j c g (new:=[.int .i64 0,.int .i64 0]) szSd dc (by show 0+2<=4;omega) λw2 c=>?_;rw[aqN] at c;refine retK ⟨rfl,?_⟩;subst m;have e:bqE b s 0 ((p+7) / 8*8)=rqE b s 0 0 (((p+7) / 8:Nat):Int):=by
   unfold rqE bqE bqC;rw[show (p+7) / 8*8 % 8=0 by omega,show (p+7) / 8*8 / 8=(p+7) / 8 by omega];rfl
  rw[e];exact c
 rw[bG,AF,sN,Oz c j d];simp only[rs,bG];by_cases h:(0:Int) < ((p % 8:Nat):Int)
 ·simp only[h,alK,i_t,rs,bG];rw[EO,acC c j d];simp only[rs,bG];rw[EO,aA om om];refine MX (a':=((p / 8:Nat):Int)+1) j c d λw3 c=>?_;exact fin w3 _ _ om c
 ·simp only[h,alL,i_f];refine fin w ((p % 8:Nat):Int) ((p / 8:Nat):Int) om ?_;rw[show rqE b s way ((p % 8:Nat):Int) ((p / 8:Nat):Int)=bqE b s way p from rfl,tH d];exact c
theorem akE {s:List UInt8}{n:Nat}(j:Nat)(a:OwnS S w0 w L)(f:L[j]?=ax (bqE b s way p))(k:p % 8=0)(hp:p<=8*s.length)(q:n<=1000000000)(r:s.length<=1000000000)
  (l:p+8*n<=8*s.length->∀W,OwnS S w0 W (L.set j (bqE b s way (p+8*n)))->K (.tuple #[.string ⟨((s.drop (p / 8)).take n).toArray⟩,.int .i64 0]) W)
  (m:8*s.length < p+8*n->∀W,OwnS S w0 W L->K (.tuple #[.string ⟨#[]⟩,.int .i64 4]) W):CallX ah 336 #[.pointer (ax ⟨b,0,aw⟩),.int .i64 (n:Int)] w PK K:=by
 have g:j < L.length:=(alY.1 f).1;refine fG (BE (k0:=RetK λv W=>(p+8*n<=8*s.length∧v=.tuple #[.string ⟨((s.drop (p / 8)).take n).toArray⟩,.int .i64 0]∧OwnS S w0 W (L.set j (bqE b s way (p+8*n))))∨(8*s.length < p+8*n∧v=.tuple #[.string ⟨#[]⟩,.int .i64 4]∧OwnS S w0 W L)) ?_) (λe W ⟨v,he,o⟩=>by
  subst he;rcases o with ⟨i,rfl,a⟩|⟨i,rfl,a⟩
  ·exact l i W a
  ·exact m i W a)
 unfold uK nz;rw[Ei];simp only[rs,show ai ((n:Int) < 0)=au from alJ om,bG];rw[AF,sN,Oz a j f,k];simp only[rs,show ai ((0:Int) < ((0:Nat):Int))=au from rfl];refine dK (λW=>OwnS S w0 W L) a.drew ?_;refine q_do _ (λ_=>dL) (q_do _ (λ_=>bC Qy) (q_at _ (λW h=>KR (h.at_ j f)) (XM alV ?_)));refine q_do _ (λ_=>dL) (q_do _ (λ_=>bC IJ) (q_at _ (λW h=>tE (h.at_ j f)) (q_do _ (λ_=>rB) ?_)));rw[aA om om];refine yS ?_;intro w2 a;by_cases c:(s.length:Int) - ((p / 8:Nat):Int) < (n:Int)
 ·simp only[c,alK,i_t];exact retK (.inr ⟨om,rfl,a⟩)
 simp only[c,alL,i_f,rs,bG];rw[EO,acC a j f];simp only[rs,bG];rw[EO,aA om om];refine MX (a':=((p / 8:Nat):Int)+n) j a f λw3 a=>?_;have e:rqE b s way ((p % 8:Nat):Int) (((p / 8:Nat):Int)+n)=bqE b s way (p+8*n):=by
  unfold rqE bqE bqC;rw[show (p+8*n) % 8=p % 8 by omega,show (p+8*n) / 8=p / 8+n by omega];rfl
 rw[e] at a;have d:(L.set j (bqE b s way (p+8*n)))[j]?=ax (bqE b s way (p+8*n)):=by rw[aoS g]
 refine dK (λW=>OwnS S w0 W (L.set j (bqE b s way (p+8*n)))) a.drew ?_;refine q_do _ (λ_=>dL) (q_do _ (λ_=>bC Qy) (q_at _ (λW h=>KR (h.at_ j d)) ?_));refine q_do _ (λ_=>dL) (q_do _ (λ_=>bC IJ) (q_at _ (λW h=>tE (h.at_ j d)) (q_do _ (λ_=>rB) ?_)));rw[show (p+8*n) / 8=p / 8+n by omega,aA om om];refine q_do _ (λ_=>dL) (q_do _ (λ_=>bC IJ) (q_at _ (λW h=>tE (h.at_ j d)) ?_));rw[show (p+8*n) / 8=p / 8+n by omega];refine q_do _ (λ_=>nS alV om om om) ?_;intro t a;refine retK (.inl ⟨om,?_,a⟩);rw[show (((p / 8+n:Nat):Int) - (n:Int)).toNat=p / 8 by omega,show ((p / 8+n:Nat):Int).toNat - p / 8=n by omega]
theorem ZL {s:List UInt8}(h:(bqE b s way p).is W)(hp:p<=8*s.length)(d:s.length<=1000000000):Ret ah 275 #[.pointer (ax ⟨b,0,aw⟩)] W (λv w'=>v=.int .i64 (((p+7) / 8:Nat):Int)∧Below W.heap.size W w'):=by
 refine aZ λK a=>BS ?_;unfold wZ nz;rw[Ei,i_f,bG,AF,sN];refine aD (Ee h) |>.mpr ?_;simp only[rs,bG];by_cases c:(0:Int) < ((p % 8:Nat):Int)
 ·simp only[c,alK,i_t,rs,bG];rw[EO];refine aD (tE h) |>.mpr ?_;simp only[rs];rw[aA om om];exact a _ _ ⟨by congr 1;omega,(Own.start W).done⟩
 ·simp only[c,alL,i_f,rs,bG];rw[EO];refine aD (tE h) |>.mpr ?_;exact a _ _ ⟨by congr 1;omega,(Own.start W).done⟩
end
end
section
open Eng
def uO(t8 w)(N1:JT)(K:KT):=nz f323 491 [N1] [nh 7 [8]] [] (zg [8] [t8]) w K
def uH(t2 t3 t6 t7 t8 w)(N1:JT)(K:KT):=nz f323 43 [N1] [nh 7 [8],(14,[],λs v j w f=>uO (s 8) w (f 0) K)] [] (zg [2,3,6,7,8] [t2,t3,t6,t7,t8]) w K
def AO(t0 w)(K:KT):=nz f323 1 [] [(7,[8],λs v j w f=>uH (s 2) (s 3) (s 6) (s 7) (vg v 0) w (f 0) K)] [] (zg [0] [t0]) w K
theorem D7:AO t0 w k0->Calls ah 323 #[t0] w k0:=cz [(7,[])] [(3,[8])] func323
def As(t5 t6 t7 t8 w)(a:JT)(K:KT):=nz f342 351 [a] [nh 25 [6,7,8]] [] (zg [5,6,7,8] [t5,t6,t7,t8]) w K
def Bb(t0 t12 t13 t14 w)(N1:JT)(K:KT):=nz f342 43 [N1] [nh 9 [14],(25,[6,7,8],λs v j w f=>As (s 5) (vg v 0) (vg v 1) (vg v 2) w (f 0) K)] [] (zg [0,12,13,14] [t0,t12,t13,t14]) w K
def Es(t0 w)(K:KT):=nz f342 1 [] [(9,[14],λs v j w f=>Bb (s 0) (s 12) (s 13) (vg v 0) w (f 0) K)] [] (zg [0] [t0]) w K
theorem Hf:Es t0 w k0->Calls ah 342 #[t0] w k0:=cz [] [(4,[14]),(12,[6,7,8])] func342
def yG(t1 t2 t3 t4 w)(N1:JT)(K:KT):=nz f324 43 [N1] [nh 7 [4]] [(5,11)] (zg [1,2,3,4] [t1,t2,t3,t4]) w K
def CM(t0 w)(K:KT):=nz f324 1 [] [(7,[4],λs v j w f=>yG (s 1) (s 2) (s 3) (vg v 0) w (f 0) K)] [] (zg [0] [t0]) w K
theorem Fi:CM t0 w k0->Calls ah 324 #[t0] w k0:=cz [] [(3,[4])] func324
def AG(t22 w)(N1:JT)(K:KT):=nz f321 1967 [N1] [nh 15 [22]] [] (zg [22] [t22]) w K
def AL(t5 t6 t20 t21 t22 w)(N1:JT)(K:KT):=nz f321 175 [N1] [nh 15 [22],(24,[],λs v j w f=>AG (s 22) w (f 0) K)] [] (zg [5,6,20,21,22] [t5,t6,t20,t21,t22]) w K
def EA(t0 w)(K:KT):=nz f321 1 [] [(15,[22],λs v j w f=>AL (s 5) (s 6) (s 20) (s 21) (vg v 0) w (f 0) K)] [] (zg [0] [t0]) w K
theorem G2:EA t0 w k0->Calls ah 321 #[t0] w k0:=cz [(12,[])] [(7,[22])] func321
def wR(t39 w)(a:JT)(K:KT):=nz f295 62815 [nj,a] [nh 15 [7],nh 21 [39]] [] (zg [39] [t39]) w K
def wK(t6 t7 t37 t38 t39 w)(N1 a:JT)(K:KT):=nz f295 5471 [N1,a] [nh 15 [7],nh 21 [39],(28,[],λs v j w f=>wR (s 39) w (f 0) K)] [] (zg [6,7,37,38,39] [t6,t7,t37,t38,t39]) w K
def xG(t0 t6 t7 w)(N1:JT)(K:KT):=nz f295 351 [N1] [nh 15 [7],(21,[39],λs v j w f=>wK (s 6) (s 7) (s 37) (s 38) (vg v 0) w (f 1) (f 0) K)] [] (zg [0,6,7] [t0,t6,t7]) w K
def D8(t0 w)(K:KT):=nz f295 1 [] [(15,[7],λs v j w f=>xG (s 0) (s 6) (vg v 0) w (f 0) K)] [] (zg [0] [t0]) w K
theorem BX:D8 t0 w k0->Calls ah 295 #[t0] w k0:=cz [(14,[])] [(7,[7]),(10,[39])] func295
def nU(t0 t1 t6 t7 t8 w)(N1:JT)(K:KT):=nz f347 175 [N1] [nh 13 [6,7,8]] [] (zg [0,1,6,7,8] [t0,t1,t6,t7,t8]) w K
def rN(t0 t1 w)(K:KT):=nz f347 1 [] [(13,[6,7,8],λs v j w f=>nU (s 0) (s 1) (vg v 0) (vg v 1) (vg v 2) w (f 0) K)] [] (zg [0,1] [t0,t1]) w K
theorem Aj:rN t0 t1 w k0->Calls ah 347 #[t0,t1] w k0:=cz [] [(6,[6,7,8])] func347
end
section
open Eng Go.RowKit
def nsC (f:Nat->Int):List Value:=[.int .i64 (f 0),.int .i64 (f 1),.int .i64 (f 2),.int .i64 (f 3),.int .i64 (f 4),.int .i64 (f 5),.int .i64 (f 6),.int .i64 (f 7),.int .i64 (f 8),.int .i64 (f 9),.int .i64 (f 10),.int .i64 (f 11),.int .i64 (f 12),.int .i64 (f 13),.int .i64 (f 14),.int .i64 (f 15)]
def nsV (f:Nat->Int):Value:=.agg (nsC f).toArray
def nsE (b:Nat)(f:Nat->Int):Ent:=.cells b (nsC f) 334
theorem UN (f:Nat->Int):∀v∈nsC f,v.oneCell'=true:=by
 intro v a;simp only[nsC,alN,anA,or_false] at a;rcases a with rfl|rfl|rfl|rfl|rfl|rfl|rfl|rfl|rfl|rfl|rfl|rfl|rfl|rfl|rfl|rfl<;>rfl
theorem lt16 (hi:i < 16):i=0∨i=1∨i=2∨i=3∨i=4∨i=5∨i=6∨i=7∨i=8∨i=9∨i=10∨i=11∨i=12∨i=13∨i=14∨i=15:=om
theorem HK (f:Nat->Int)(hi:i < 16):(nsC f)[i]?=ax (.int .i64 (f i)):=by
 rcases lt16 hi with rfl|rfl|rfl|rfl|rfl|rfl|rfl|rfl|rfl|rfl|rfl|rfl|rfl|rfl|rfl|rfl<;>rfl
theorem YL (f:Nat->Int)(x:Int)(hi:i < 16):(nsC f).set i (.int .i64 x)=nsC (λj=>if j=i then x else f j):=by
 rcases lt16 hi with rfl|rfl|rfl|rfl|rfl|rfl|rfl|rfl|rfl|rfl|rfl|rfl|rfl|rfl|rfl|rfl<;>rfl
theorem aaM:aggN ah 334=ax 16:=krx
theorem szNs:(Tryz.prog.info? 334).map (·.size)=ax 16:=krx
section
variable {w:ao}{PK:PKT}{K:VWP}{S:Nat->Prop}{w0:ao}{L:List Ent}
theorem F2 {off:Nat}(hi:i < 16):(mIA 334 (.pointer (ax ⟨b,off,aw⟩)) (.int .i64 (i:Int))).run ah W=.ok (.value (.pointer (ax ⟨b,off+i,aw⟩))) W:=by
 rcases lt16 hi with rfl|rfl|rfl|rfl|rfl|rfl|rfl|rfl|rfl|rfl|rfl|rfl|rfl|rfl|rfl|rfl<;>kernel_rfl
theorem GU {off:Nat}(hi:i < 16):DoX ah (mIA 334 (.pointer (ax ⟨b,off,aw⟩)) (.int .i64 (i:Int))) w PK K=K (.pointer (ax ⟨b,off+i,aw⟩)) w:=aD (F2 hi)
theorem Rl (a:OwnS S w0 w L)(k:∀b w',OwnS S w0 w' (nsE b (λ_=>0)::L)->K (.pointer (ax ⟨b,0,aw⟩)) w'):DoX ah (iL 334) w PK K:=
 bA (λb=>.pointer (ax ⟨b,0,aw⟩)) (nsC λ_=>0) 334 (λ_=>by kernel_rfl) a k
theorem ajF (f:Nat->Int)(a:OwnS S w0 w L)(k:∀b w',OwnS S w0 w' (nsE b f::L)->K (.pointer (ax ⟨b,0,aw⟩)) w'):DoX ah (mBox 334 (nsV f)) w PK K:=
 bA (λb=>.pointer (ax ⟨b,0,aw⟩)) (nsC f) 334 (λ_=>by kernel_rfl) a k
theorem Jg (c:OwnS S w0 w L)(j:Nat){f:Nat->Int}(hi:L[j]?=ax (nsE b f))(a:i < 16):DoX ah (aH 3 (.pointer (ax ⟨b,0+i,aw⟩))) w PK K=K (.int .i64 (f i)) w:=aJ aU (c.cell j hi (0+i) (by rw[alU];exact HK f a))
theorem TY (j:Nat){f:Nat->Int}{x:Int}(a:i < 16)(c:OwnS S w0 w L)(hi:L[j]?=ax (nsE b f))(k:∀w',OwnS S w0 w' (L.set j (nsE b (λm=>if m=i then x else f m)))->K undef w') :
  DoX ah (aN 3 (.pointer (ax ⟨b,0+i,aw⟩)) (.int .i64 x)) w PK K:=aK j c hi krx rfl (by show 0+i < 16;omega) λw' c=>k w' (by
   unfold nsE;rw[<-YL f x a,<-alU i];rw[alU i] at c ⊢;simpa using c)
theorem ns_v (a:OwnS S w0 w L)(j:Nat){f:Nat->Int}(hi:L[j]?=ax (nsE b f)):DoX ah (aH 334 (.pointer (ax ⟨b,0,aw⟩))) w PK K=K (nsV f) w:=l_at (a.agg j hi aaM)
theorem PW (j:Nat){f f':Nat->Int}(a:OwnS S w0 w L)(hi:L[j]?=ax (nsE b f))(k:∀w',OwnS S w0 w' (L.set j (nsE b f'))->K undef w') :
  DoX ah (aN 334 (.pointer (ax ⟨b,0,aw⟩)) (nsV f')) w PK K:=gY j a hi (new:=nsC f') szNs (UN f') rfl k
theorem Yf {K:Ending->ao->Prop}{f:Nat->Int}(i:Nat)(a:OwnS S w0 w L)(hi:L[i]?=ax (nsE b f))(k:K (.returned (nsV f)) w):RetX ah [.cell (.pointer (ax ⟨b,0,aw⟩)) 334] w K:=
 iC (bI (a.agg i hi aaM)) k
end
def cnt (lens:List Nat):Nat->Int:=λi=>if i=0 then 0 else ((lens.count i:Nat):Int)
def aV (l:List Nat):List Value:=l.map λn=>.int .i64 ((n:Nat):Int)
theorem mY (a:Sl w v 1 l.length (aV l))(hi:i < l.length) :
  ∃b off,(∀W,(mIA 123 v (.int .i64 (i:Int))).run ah W=.ok (.value (.pointer (ax ⟨b,off,aw⟩))) W)∧w.cell? ⟨b,off,aw⟩=ax (.int .i64 ((l[i]:Nat):Int)):=by
 obtain⟨b,off,cap,rfl,c⟩:=bX a om;refine⟨b,off+i,λW=>?_,c i _ (by simp[aV,hi])⟩;have:=dY (P:=ah) (T:=123) (b:=b) (off:=off) (cap:=cap) (n:=l.length) (k:=.i64) (i:=(i:Int)) (w:=W) amF (show _=ax 1 by kernel_rfl) om om;rw[alQ,amI] at this;exact this
theorem tQ (lens:List Nat)(v:aq)(M:Mem)(w:ao)(k:∀l∈lens,l<=15)(D:lens.length<=100000)(p:M.has w)(q:SlA M.A M.w v 1 lens.length (aV lens)) :
  RetM ah 323 #[v] M w (λr _=>r=nsV (cnt lens)):=by
 refine bB p λK x=>D7 ?_;unfold AO nz;refine Rl (OwnS.memS p) λb2 E c=>?_;refine Rl c λb3 w2 c=>?_;rw[bE amF (q.now (c.hasM 2 rfl))];refine loop (λvs W=>∃i:Nat,vs=[.int .i64 i]∧i<=lens.length∧OwnS M.A w W [nsE b3 (cnt (lens.take i)),nsE b2 (λ_=>0),.mem M]) (λvs _=>lens.length - n0 vs) ⟨0,rfl,om,?_⟩ ?_
 ·have e:cnt (lens.take 0)=λ_=>0:=by funext i;simp[cnt]
  rw[e];exact c
 clear c;rintro vs w3 ⟨i,rfl,hi,c⟩ _;simp only[uH,gd,rs,nz];by_cases g:(i:Int) < (lens.length:Int)
 ·have f:i < lens.length:=om
  simp only[g,alK,i_t];refine join λJ y=>?_;obtain⟨b,off,z,B⟩:=mY (q.now (c.hasM 2 rfl)) f;have s:=k _ (alX f);refine aD (z w3) |>.mpr (aD (aB aU B) |>.mpr ?_);have j:lens.take (i+1)=lens.take i++[lens[i]]:=by rw[amO f]
  have fin:∀W,OwnS M.A w W [nsE b3 (cnt (lens.take (i+1))),nsE b2 (λ_=>0),.mem M]->J [] W:=by
   intro W c;refine y _ _ λ_=>?_;simp only[uO,gd,rs,nz];rw[aA om om];exact aY ⟨i+1,rfl,om,c⟩ (by simp[n0,RowKit.intOf];omega)
  simp only[rs];by_cases t:(0:Int) < ((lens[i]:Nat):Int)
  ·simp only[t,alK,i_t];rw[GU om,Jg c 0 rfl om];simp only[rs];rw[GU om];have C:(lens.take i).count lens[i]<=100000:=by
    have:=aqK (a:=lens[i]) (l:=lens.take i);rw[alR] at this;omega
   have n:cnt (lens.take i) lens[i]=(((lens.take i).count lens[i]:Nat):Int):=by unfold cnt;rw[alG om]
   rw[n,aA om om];refine TY 0 om c rfl λu c=>fin u ?_;have e:(λm=>if m=lens[i] then (((lens.take i).count lens[i]:Nat):Int)+1 else cnt (lens.take i) m)=cnt (lens.take (i+1)):=by
    funext m
    unfold cnt;rw[j,apW,asG];by_cases hm:m=lens[i]
    ·subst hm;rw[alH rfl,alG om];simp
    ·rw[alG hm];by_cases d:m=0
     ·rw[alH d,alH d]
     ·rw[alG d,alG d];have:(lens[i]==m)=false:=by simp;exactλh=>hm h.symm
      rw[this];simp
   rw[<-e];exact c
  ·simp only[t,alL,i_f];refine fin w3 ?_;have e:cnt (lens.take (i+1))=cnt (lens.take i):=by
    funext m
    unfold cnt;rw[j,apW,asG];by_cases d:m=0
    ·rw[alH d,alH d]
    ·rw[alG d,alG d];have:(lens[i]==m)=false:=by simp;omega
     rw[this];simp
   rw[e];exact c
 ·simp only[g,alL,i_f];have o:i=lens.length:=om
  subst o;rw[anI] at c;rw[ns_v c 0 rfl];refine PW 1 c rfl λu c=>?_;exact Yf 1 c rfl (x _ _ M _ 2 c rfl M.le_refl rfl)
theorem DV (lens:List Nat)(M:Mem)(w:ao)(o:lens.length<=100000)(f:M.has w) :
  RetM ah 324 #[nsV (cnt lens)] M w (λr _=>r=nsV (λi=>((Fl.first lens (if i<=15 then i else 0):Nat):Int))):=by
 refine bB f λK p=>Fi ?_;unfold CM nz;refine ajF (cnt lens) (OwnS.memS f) λg x a=>?_;refine Rl a λb2 w2 a=>?_;refine Rl a λb3 w3 a=>?_;refine loop (λvs W=>∃l:Nat,vs=[.int .i64 l]∧1<=l∧l<=15∧OwnS M.A w W [nsE b3 (λi=>((Fl.first lens (if i<=l then i else 0):Nat):Int)),nsE b2 (λ_=>0),nsE g (cnt lens),.mem M]) (λvs _=>15 - n0 vs) ⟨1,rfl,om,om,?_⟩ ?_
 ·have e:(λi=>((Fl.first lens (if i<=1 then i else 0):Nat):Int))=λ_=>0:=by
   funext i
   by_cases h:i<=1
   ·rw[alH h];rcases (by omega:i=0∨i=1) with rfl|rfl<;>rfl
   ·rw[alG h];rfl
  rw[e];exact a
 clear a;rintro vs q ⟨l,rfl,s,j,a⟩ _;simp only[yG,gd,rs,nz];by_cases b:(l:Int) < 15
 ·simp only[b,alK,i_t];have t:=Fl.KJ (lens:=lens) l;have u:lens.count l<=lens.length:=aqK;have hp:4 ^ l<=4 ^ 15:=anN dc om;have v:(4:Nat) ^ 15=1073741824:=dc
  have n:4 ^ l*lens.length<=1073741824*100000:=aoR om o;have d:cnt lens l=((lens.count l:Nat):Int):=by unfold cnt;rw[alG om]
  refine dK (λW=>OwnS M.A w W [nsE b3 (λi=>((Fl.first lens (if i<=l then i else 0):Nat):Int)),nsE b2 (λ_=>0),nsE g (cnt lens),.mem M]) a.drew ?_;refine oY ?_;rw[aA om om];refine q_do _ (λ_=>F2 om) (q_at (.int .i64 (Fl.first lens l)) (λW h=>aB aU (h.cell 0 rfl (0+l) (by rw[alU];refine (HK _ om).trans ?_;rw[alH (alP l)]))) ?_);refine q_do _ (λ_=>F2 om) (q_at (.int .i64 (lens.count l:Nat)) (λW h=>aB aU (h.cell 2 rfl (0+l) (by rw[alU];refine (HK _ om).trans ?_;rw[d]))) ?_);refine oY ?_;rw[aA om om];refine q_do _ (λ_=>ZX) ?_;rw[aA om om];rw[show ((l:Nat):Int)+1=((l+1:Nat):Int) by omega];refine q_do _ (λ_=>F2 om) ?_;intro y a;refine TY 0 om a rfl λz a=>?_;refine aY ⟨l+1,rfl,om,om,?_⟩ (by simp[n0,RowKit.intOf];omega);have e:(λm=>if m=l+1 then (2:Int)*(((Fl.first lens l:Nat):Int)+((lens.count l:Nat):Int)) else ((Fl.first lens (if m<=l then m else 0):Nat):Int))=λi=>((Fl.first lens (if i<=l+1 then i else 0):Nat):Int):=by
   funext m
   by_cases hm:m=l+1
   ·subst hm;rw[alH rfl,alH (alP _)];obtain⟨k,rfl⟩:∃k,l=k+1:=⟨l - 1,om⟩;rw[Fl.first];push_cast;rfl
   ·rw[alG hm];by_cases c:m<=l
    ·rw[alH c,alH om]
    ·rw[alG c,alG om]
  rw[<-e];exact a
 ·simp only[b,alL,i_f];have:l=15:=om
  subst this;rw[ns_v a 0 rfl];refine PW 1 a rfl λq a=>?_;exact Yf 1 a rfl (p _ _ M _ 3 a rfl M.le_refl rfl)
end
section
open Eng Go.RowKit
def bh (lens:List Nat):Int:=if 288 < lens.length then 6 else Fl.check lens
theorem RN (lens:List Nat)(v:aq)(M:Mem)(w:ao)(m:∀l∈lens,l<=15)(n:lens.length<=100000)(s:M.has w)(t:SlA M.A M.w v 1 lens.length (aV lens)) :
  RetM ah 342 #[v] M w (λr _=>r=.int .i64 (bh lens)):=by
 refine bB s λK u=>Hf ?_;unfold Es nz;have d:OwnS M.A w w [.mem M]:=OwnS.memS s;rw[bE amF (t.now s)];simp only[rs];by_cases g:(288:Int) < (lens.length:Int)
 ·simp only[g,alK,i_t];exact u _ _ M _ 0 d rfl M.le_refl (by unfold bh;rw[alH om])
 have y:bh lens=Fl.check lens:=by unfold bh;rw[alG om]
 simp only[g,alL,i_f];rw[bE amF (t.now s)];refine loop (λvs W=>∃i:Nat,vs=[.int .i64 i]∧i<=lens.length∧OwnS M.A w W [.mem M]) (λvs _=>lens.length - n0 vs) ⟨0,rfl,om,d⟩ ?_;clear d;rintro vs w2 ⟨i,rfl,hi,d⟩ _;simp only[Bb,gd,rs,nz];by_cases f:(i:Int) < (lens.length:Int)
 ·have o:i < lens.length:=om
  simp only[f,alK,i_t];obtain⟨b,off,z,B⟩:=mY (t.now (d.hasM 0 rfl)) o;have p:=m _ (alX o);refine aD (z w2) |>.mpr (aD (aB aU B) |>.mpr ?_);simp only[rs,show ai (((lens[i]:Nat):Int) < 0)=au from alJ om,show ai ((15:Int) < ((lens[i]:Nat):Int))=au from alJ om];rw[aA om om];exact aY ⟨i+1,rfl,om,d⟩ (by simp[n0,RowKit.intOf];omega)
 simp only[f,alL,i_f];refine bH d 0 rfl (tQ lens v M w2 m n (d.hasM 0 rfl) t) ?_;rintro _ N w3 hle rfl d;refine Rl d λx G d=>?_;refine PW 0 d rfl λC d=>?_;have d:OwnS M.A w C [nsE x (cnt lens),.mem N]:=d;refine loop (λvs W=>∃l:Nat,vs=[.int .i64 (Fl.gD lens l),.int .i64 (Fl.bD lens l),.int .i64 ((l+1:Nat):Int)]∧l<=15∧OwnS M.A w W [nsE x (cnt lens),.mem N]) (λvs _=>16 - n2 vs) ⟨0,rfl,om,d⟩ ?_;clear d f hi;rintro vs D ⟨l,rfl,p,d⟩ _;simp only[As,gd,rs,nz];have j:∀k,k≠0->cnt lens k=((lens.count k:Nat):Int):=λk h=>by unfold cnt;rw[alG h]
 by_cases f:((l+1:Nat):Int)<=15
 ·simp only[f,alK,i_t];have E:lens.count (l+1)<=lens.length:=aqK;have s1:=Fl.P6 (lens:=lens) (l+1);have s2:=Fl.Hc (lens:=lens) (l+1);have H:(l+1)*(lens.length*32768)<=16*(100000*32768):=aoR om (anC _ n);have I:(l+1)*lens.length<=16*100000:=aoR om n;rw[Fl.gD] at s1;rw[Fl.bD] at s2;rw[GU om,Jg d 0 rfl om,j _ om]
  try simp only[rs]
  rw[aA om om,Fc om];rw[show min ((15:Int) - ((l+1:Nat):Int)).toNat IntKind.i64.bits=15 - (l+1) by show min ((15:Int) - ((l+1:Nat):Int)).toNat 64=15 - (l+1);omega];rw[show ((lens.count (l+1):Nat):Int)*2 ^ (15 - (l+1))=((lens.count (l+1)*2 ^ (15 - (l+1)):Nat):Int) by push_cast;rfl];generalize F:lens.count (l+1)*2 ^ (15 - (l+1))=q at s1 ⊢;rw[aA om om]
  try simp only[rs]
  rw[aA om om,GU om,Jg d 0 rfl om,j _ om]
  try simp only[rs]
  rw[aA om om,aA om om];refine aY ⟨l+1,?_,om,d⟩ (by simp[n2,RowKit.intOf];omega);rw[Fl.gD,Fl.bD,F];rfl
 ·have n:l=15:=om
  subst n;simp only[f,alL,i_f];have fin:∀e:Int,e=Fl.check lens->K (.returned (.int .i64 e)) D:=λe he=>u _ _ N _ 1 d rfl hle (by rw[y,he]);unfold Fl.check at fin;by_cases a:Fl.gD lens 15=32768
  ·simp only[show ai (((Fl.gD lens 15:Nat):Int)=32768)=av from alM om,rs,g_un];exact fin 0 (by rw[alH (.inl a)])
  simp only[show ai (((Fl.gD lens 15:Nat):Int)=32768)=au from alJ om,rs];by_cases b:Fl.bD lens 15=0
  ·simp only[show ai (((Fl.bD lens 15:Nat):Int)=0)=av from alM om,rs,g_un];exact fin 0 (by rw[alH (.inr (.inl b))])
  simp only[show ai (((Fl.bD lens 15:Nat):Int)=0)=au from alJ om,rs];by_cases c:Fl.bD lens 15=1
  ·simp only[show ai (((Fl.bD lens 15:Nat):Int)=1)=av from alM om,rs];rw[show ((1:Int))=((1:Nat):Int) from rfl,GU om,Jg d 0 rfl om,j 1 om];by_cases e:lens.count 1=1
   ·simp only[rs,show ai (((lens.count 1:Nat):Int)=((1:Nat):Int))=av from alM om];exact fin 0 (by rw[alH (.inr (.inr ⟨c,e⟩))])
   ·simp only[rs,show ai (((lens.count 1:Nat):Int)=((1:Nat):Int))=au from alJ om];exact fin 13 (by rw[alG (λh=>h.elim a λh=>h.elim b λh=>e h.2)])
  ·simp only[show ai (((Fl.bD lens 15:Nat):Int)=1)=au from alJ om,rs,g_un];exact fin 13 (by rw[alG (λh=>h.elim a λh=>h.elim b λh=>c h.1)])
end
section
open Eng Go.RowKit
def Nt (l:List Int):List Value:=l.map λn=>.int .i64 n
theorem rX {l:List Int}:∀x∈Nt l,x.oneCell'=true:=by
 intro x a;obtain⟨n,-,rfl⟩:=amM.1 a;rfl
theorem EH:eD ah 123=true:=krx
theorem ahT:elB ah 3 1 8=true:=krx
theorem Jn {K:aq->Prop}{a b:aq}(h:K a):HDo P C (mExt (.tuple #[a,b]) 0) K:=aR a (λ_=>rfl) h
theorem D1 {K:aq->Prop}{a b:aq}(h:K b):HDo P C (mExt (.tuple #[a,b]) 1) K:=aR b (λ_=>rfl) h
section
variable {w:ao}{PK:PKT}{K:VWP}{S:Nat->Prop}{w0:ao}{L:List Ent}
theorem Sb (a:OwnS S w0 w L)(k:∀v w',OwnS S w0 w' (.urow 3 1 v 0 []::L)->K v w'):DoX ah (bN 123 0 #[]) w PK K:=
 bA (λb=>.slice (ax ⟨b,0,aw⟩) 0 0) [] 3 (λ_=>by kernel_rfl) a λb c a=>k _ _ (a.toU 1 0 0 sm om om)
theorem tV (n:Int)(a:OwnS S w0 w L)(k:∀b w',OwnS S w0 w' (.cells b (Nt [n]) 3::L)->K (.slice (ax ⟨b,0,aw⟩) 1 1) w'):DoX ah (bN 123 1 #[(0,.int .i64 n)]) w PK K:=
 bA (λb=>.slice (ax ⟨b,0,aw⟩) 1 1) (Nt [n]) 3 (λ_=>by kernel_rfl) a k
theorem oK (i:Nat){n:Nat}(a:OwnS S w0 w L)(hi:L[i]?=ax (.urow 3 1 v n xs))(b:Sl w v2 1 m news)(c:∀u∈news,u.oneCell'=av)(d:n+m<=100000000000)
  (k:∀v' w',OwnS S w0 w' (L.set i (.urow 3 1 v' (n+m) (xs++news)))->K v' w'):DoX ah (mB .append #[123,123] 123 cb #[v,v2]) w PK K:=
 bR i amF ahT dc a hi b c om om k
end
end
section
open Eng Go.RowKit
theorem Pq (n:Nat):(Go.madeCells (Value.int .i64 0).cells (n*1))=(List.replicate n (Value.int .i64 0)).toArray:=by
 unfold Go.madeCells;refine Array.ext sm λi a b=>?_;have e:(Value.int .i64 0).cells=#[Value.int .i64 0]:=rfl;simp only[Array.getElem_map,List.getElem_toArray,List.getElem_replicate,e];simp[Nat.mod_one]
theorem Pd:∃i,Tryz.prog.info? 3=ax i∧i.zero=ax (Value.int .i64 0)∧i.size=1∧i.bytes=8:=⟨_,rfl,krx,krx,krx⟩
section
variable {w:ao}{PK:PKT}{K:VWP}{S:Nat->Prop}{w0:ao}{L:List Ent}
theorem wX {n:Nat}(f:n<=1000000)(a:OwnS S w0 w L)(k:∀b w',OwnS S w0 w' (.cells b (List.replicate n (.int .i64 0)) 3::L)->K (.slice (ax ⟨b,0,aw⟩) n n) w') :
  DoX ah (Hg 123 (.int .i64 (n:Int)) (.int .i64 (n:Int))) w PK K:=by
 obtain⟨i,hi,c,d,e⟩:=Pd;refine bA (λb=>.slice (ax ⟨b,0,aw⟩) n n) (List.replicate n (.int .i64 0)) 3 (λW=>?_) a k;have:=Go.run_make (P:=ah) W 123 3 i (Value.int .i64 0) amF hi c .i64 .i64 (n:Int) (n:Int) om om (by rw[e];omega) om;rw[d,alQ,Pq] at this;exact cJ this
end
def cg (lens:List Nat)(i:Nat):Nat:=if lens.getD i 0=0 then 0 else Fl.first lens (lens.getD i 0)+(lens.take i).count (lens.getD i 0)
def il (lens:List Nat):List Nat:=(List.range lens.length).map (cg lens)
theorem iu (lens:List Nat):(il lens).length=lens.length:=by simp[il]
theorem ri {lens:List Nat}(hi:i < lens.length):(il lens)[i]?=ax (cg lens i):=by
 simp[il,hi]
def gE (lens:List Nat)(i:Nat):List Value:=aV ((il lens).take i)++List.replicate (lens.length - i) (.int .i64 0)
theorem NS {lens:List Nat}(hi:i<=lens.length):(gE lens i).length=lens.length:=by
 unfold gE aV;rw[alI,amT,alR,amY,iu];omega
theorem GN {lens:List Nat}(hi:i < lens.length):(gE lens i).set i (.int .i64 ((cg lens i:Nat):Int))=gE lens (i+1):=by
 unfold gE;have a:(aV ((il lens).take i)).length=i:=by unfold aV;rw[amT,alR,iu];omega
 rw[aqF _ _ om,a,aoH];obtain⟨k,b⟩:∃k,lens.length - i=k+1:=⟨lens.length - i - 1,om⟩;rw[b,asH,aoC,show lens.length - (i+1)=k by omega];rw[amO (by rw[iu];exact hi)];have e:(il lens)[i]'(by rw[iu];exact hi)=cg lens i:=by
  have:=ri hi;rw[alT (by rw[iu];exact hi)] at this;exact aoJ this
 rw[e];simp[aV]
theorem Lm {lens:List Nat}(hi:i < lens.length)(a:cg lens i=0):gE lens (i+1)=gE lens i:=by
 rw[<-GN hi,a];refine tH ?_;unfold gE;have b:(aV ((il lens).take i)).length=i:=by unfold aV;rw[amT,alR,iu];omega
 rw[aoB om,b,aoH,arO,alH om];rfl
def nxt (lens:List Nat)(i:Nat):Nat->Int:=λm=>((Fl.first lens (if m<=15 then m else 0)+(if m=0 then 0 else (lens.take i).count m):Nat):Int)
theorem Jz (lens:List Nat)(v:aq)(M:Mem)(w:ao)(o:∀l∈lens,l<=15)(z:lens.length<=100000)(C:M.has w)(q:SlA M.A M.w v 1 lens.length (aV lens)) :
  RetM ah 321 #[v] M w (λr N=>∃v',r=.tuple #[v',.int .i64 (bh lens)]∧v'.oneCell'=av∧(bh lens=0->SlA N.A N.w v' 1 lens.length (aV (il lens)))):=by
 refine bB C λK O=>G2 ?_;unfold EA nz;have c:OwnS M.A w w [.mem M]:=OwnS.memS C;refine aM c (R:=λr=>r=.int .i64 (bh lens)) (RetM.told (RN lens v M w o z C q)) ?_;rintro _ U rfl c;rw[eS];by_cases B:bh lens=0
 case neg=>
  simp only[B,ne_eq,apF,alK,i_t];exact O _ _ M _ 0 c rfl M.le_refl ⟨_,rfl,rfl,λh=>absurd h B⟩
 simp only[B,ne_eq,not_true,alL,i_f];refine aM c (R:=λr=>r=nsV (cnt lens)) (RetM.told (tQ lens v M U o z (c.hasM 0 rfl) q)) ?_;rintro _ w2 rfl c;refine aM c (R:=λr=>r=nsV (λi=>((Fl.first lens (if i<=15 then i else 0):Nat):Int))) (RetM.told (DV lens M w2 z (c.hasM 0 rfl))) ?_;rintro _ w3 rfl c;refine Rl c λD w4 c=>?_;refine PW 0 c rfl λw5 c=>?_;rw[bE amF (q.now (c.hasM 1 rfl))];refine wX om c λs w6 c=>?_;rw[bE amF (q.now (c.hasM 2 rfl))];refine loop (λvs W=>∃i:Nat,vs=[.int .i64 i]∧i<=lens.length∧OwnS M.A w W [.cells s (gE lens i) 3,nsE D (nxt lens i),.mem M]) (λvs _=>lens.length - n0 vs) ⟨0,rfl,om,?_⟩ ?_
 ·have F:gE lens 0=List.replicate lens.length (.int .i64 0):=by simp[gE,aV]
  have G:nxt lens 0=λi=>((Fl.first lens (if i<=15 then i else 0):Nat):Int):=by
   funext m;unfold nxt;simp
  rw[F,G];exact c
 clear c;rintro vs H ⟨i,rfl,hi,c⟩ _;simp only[AL,gd,rs,nz];by_cases t:(i:Int) < (lens.length:Int)
 ·have d:i < lens.length:=om
  simp only[t,alK,i_t];refine join λJ V=>?_;obtain⟨b,off,X,Y⟩:=mY (q.now (c.hasM 2 rfl)) d;have f:=o _ (alX d);have u:lens.getD i 0=lens[i]:=by rw[alO,alT d];rfl
  refine aD (X H) |>.mpr (aD (aB aU Y) |>.mpr ?_);have p:lens.take (i+1)=lens.take i++[lens[i]]:=by rw[amO d]
  have fin:∀W,OwnS M.A w W [.cells s (gE lens (i+1)) 3,nsE D (nxt lens (i+1)),.mem M]->J [] W:=by
   intro W c;refine V _ _ λ_=>?_;simp only[AG,gd,rs,nz];rw[aA om om];exact aY ⟨i+1,rfl,om,c⟩ (by simp[n0,RowKit.intOf];omega)
  simp only[rs];by_cases Q:(0:Int) < ((lens[i]:Nat):Int)
  ·simp only[Q,alK,i_t];have Z:=Fl.KJ (lens:=lens) lens[i];have hp:4 ^ lens[i]<=4 ^ 15:=anN dc f;have a1:(4:Nat) ^ 15=1073741824:=dc
   have S:4 ^ lens[i]*lens.length<=1073741824*100000:=aoR om z;have a6:(lens.take i).count lens[i]<=100000:=by
    have:=aqK (a:=lens[i]) (l:=lens.take i);rw[alR] at this;omega
   have x:cg lens i=Fl.first lens lens[i]+(lens.take i).count lens[i]:=by
    unfold cg;rw[u,alG om]
   have y:nxt lens i lens[i]=((cg lens i:Nat):Int):=by
    unfold nxt;rw[alH f,alG om,x]
   rw[GU om,Jg c 1 rfl om,y];have I:=dY (P:=ah) (T:=123) (b:=s) (off:=0) (cap:=lens.length) (n:=lens.length) (k:=.i64) (i:=(i:Int)) (w:=H) amF (show _=ax 1 by kernel_rfl) om om;refine aD I |>.mpr ?_;rw[alQ,amI,alU];refine aK 0 c rfl krx rfl (by rw[NS hi];exact d) λw8 c=>?_;rw[GN d] at c;have c:OwnS M.A w w8 [.cells s (gE lens (i+1)) 3,nsE D (nxt lens i),.mem M]:=c;rw[GU om,Jg c 1 rfl om,y];simp only[rs];rw[GU om,aA om om];refine TY 1 om c rfl λw9 c=>fin w9 ?_;have e:(λm=>if m=lens[i] then ((cg lens i:Nat):Int)+1 else nxt lens i m)=nxt lens (i+1):=by
    funext m
    by_cases hm:m=lens[i]
    ·subst hm;rw[alH rfl];unfold nxt;rw[alH f,alG om,p,apW,asG,x];simp;omega
    ·rw[alG hm];unfold nxt;rw[p,apW,asG];have:(lens[i]==m)=false:=by simp;exactλh=>hm h.symm
     rw[this];simp
   rw[<-e];exact c
  ·simp only[Q,alL,i_f];have hz:lens[i]=0:=om
   refine fin H ?_;have F:gE lens (i+1)=gE lens i:=Lm d (by unfold cg;rw[u,alH hz]);have G:nxt lens (i+1)=nxt lens i:=by
    funext m
    unfold nxt;rw[p,apW,asG];by_cases g:m=0
    ·rw[alH g,alH g]
    ·rw[alG g,alG g];have:(lens[i]==m)=false:=by simp;omega
     rw[this];simp
   rw[F,G];exact c
 ·simp only[t,alL,i_f];have L:i=lens.length:=om
  subst L;have er:gE lens lens.length=aV (il lens):=by
   unfold gE;rw[amP (by rw[iu];omega)];simp
  rw[er] at c;have c:=OwnS.toU (b:=s) (cs:=aV (il lens)) (E:=3) c 1 lens.length lens.length (by unfold aV;rw[amT,iu];omega) om om;obtain⟨N,hle,j,c⟩:=OwnS.bJ c 1 rfl;rw[amP (by unfold aV;rw[amT,iu];omega)] at j;exact O _ _ N _ 1 c rfl hle ⟨_,by rw[B],rfl,λ_=>j⟩
end
section
open Eng
def kM(t0 w)(K:KT):=nz f322 1 [] [] [] (zg [0] [t0]) w K
theorem qY:kM t0 w k0->Calls ah 322 #[t0] w k0:=cw func322
def iI(a b w)(j:JT)(K:KT):=
 lnx 123 a w K λc w=>bnx .lss 3 b c w K λd w=>IfX d (QuietX w (λi=>QDo ah i (eG 123 a (ax b) aw aw) λe=>QDo ah i (eG 123 a aw (ax b) aw) λf=>
 ∀w,i w ->
 DoX ah (mB .copy #[123,123] 3 #[au,au] #[e,f]) w (ay 5 (pk K)) λg w=>DoX ah (mBin .add 3 b g) w (ay 5 (pk K)) λh w=>j [h] w)) (K (.returned a) w)
def iM(t0 t6 w)(K:KT):=nz f320 31 [] [(17,[8],λs v j w f=>iI (s 7) (vg v 0) w (f 0) K)] [] (zg [0,6] [t0,t6]) w K
def iO(t0 t1 w)(K:KT):=nz f320 7 [] [(12,[],λs v j w f=>iM (s 0) (s 6) w K)] [] (zg [0,1] [t0,t1]) w K
def jY(t0 t1 w)(K:KT):=nz f320 1 [] [(6,[],λs v j w f=>iO (s 0) (s 1) w K)] [] (zg [0,1] [t0,t1]) w K
theorem oZ:jY t0 t1 w k0->Calls ah 320 #[t0,t1] w k0:=cz [(3,[]),(6,[])] [(8,[8])] func320
end
section
open Eng Go.RowKit
theorem Da :∀x∈aV l,x.oneCell'=true:=by
 intro x a;obtain⟨n,-,rfl⟩:=amM.1 a;rfl
theorem eP (l:List Nat):(aV l).length=l.length:=by simp[aV]
theorem Y8 {off n c:Nat}:DoX ah (mEq .eql 123 xo yo (.slice (ax ⟨b,off,aw⟩) n c) (.slice aw 0 0)) w PK K=K (.bool au) w:=aD krx
theorem I9 (l:List Nat)(v:aq)(M:Mem)(w:ao)(i:l.length<=100000)(j:0 < l.length)(e:M.has w)(f:SlA M.A M.w v 1 l.length (aV l)) :
  RetM ah 322 #[v] M w (λr N=>SlA N.A N.w r 1 l.length (aV l)):=by
 refine bB e λK g=>qY ?_;unfold kM nz;have a:OwnS M.A w w [.mem M]:=OwnS.memS e;have go:∀{b off n c:Nat},v=.slice (ax ⟨b,off,aw⟩) n c->DoX ah (mEq .eql 123 (.tmp 3) (.const (.slice aw 0 0)) v (.slice aw 0 0)) w (Eng.pk K) λt4 w=>IfX t4 (K (.returned (.slice aw 0 0)) w) (DoX ah (bN 123 0 #[]) w (Eng.pk K) λt5 w=>
   DoX ah (mB .append #[123,123] 123 #[au,au] #[t5,v]) w (Eng.pk K) λt7 w=>K (.returned t7) w):=by
  rintro b off n c rfl;rw[Y8,i_f];refine Sb a λv0 k a=>?_;refine oK 0 a rfl (f.now (a.hasM 1 rfl)) Da om λv1 w2 a=>?_;obtain⟨N,hle,d,a⟩:=OwnS.bJ (L:=[.mem M]) a 0 rfl;refine g _ _ N _ 0 a rfl hle ?_;rw[alU] at d;exact d
 obtain⟨b,off,cap,h,-⟩:=bX f.1 om;exact go h
def tbC (a b:aq)(f g:Nat->Int)(o:aq):List Value:=a::b::(nsC f++(nsC g++[o]))
def tbV (a b:aq)(f g:Nat->Int)(o:aq):Value:=.agg (tbC a b f g o).toArray
def tbE (c:Nat)(a b:aq)(f g:Nat->Int)(o:aq):Ent:=.cells c (tbC a b f g o) 337
theorem X5:fOff ah 337 0=ax 0:=krx
theorem agK:fOff ah 337 1=ax 1:=krx
theorem afU:fOff ah 337 2=ax 2:=krx
theorem aeY:fOff ah 337 3=ax 18:=krx
theorem afQ:fOff ah 337 4=ax 34:=krx
def jz (lens:List Nat)(l:Nat):List Nat:=(List.range lens.length).filter λi=>ai (lens.getD i 0=l)
def bg (lens:List Nat):Nat->List Nat
|0=>[]
|l+1=>bg lens l++jz lens (l+1)
end
section
open Eng Go.RowKit
abbrev fstW (lens:List Nat):Nat->Int:=λi=>((Fl.first lens (if i<=15 then i else 0):Nat):Int)
def TbAt (A:Nat->Prop)(w:ao)(b:Nat)(lens:List Nat):Prop:=∃a c o,A b∧(tbE b a c (cnt lens) (fstW lens) o).is w∧SlA A w o 1 (bg lens 15).length (aV (bg lens 15))
theorem Qt:eD ah 294=true:=krx
section
variable {w:ao}{PK:PKT}{K:VWP}{S:Nat->Prop}{w0:ao}{L:List Ent}
theorem Qz {off:Nat}:DoX ah (mFA 337 (.pointer (ax ⟨b,off,aw⟩)) 2) w PK K=K (.pointer (ax ⟨b,off+2,aw⟩)) w:=aO afU
theorem T9 {off:Nat}:DoX ah (mFA 337 (.pointer (ax ⟨b,off,aw⟩)) 3) w PK K=K (.pointer (ax ⟨b,off+18,aw⟩)) w:=aO aeY
theorem K1 {off:Nat}:DoX ah (mFA 337 (.pointer (ax ⟨b,off,aw⟩)) 4) w PK K=K (.pointer (ax ⟨b,off+34,aw⟩)) w:=aO afQ
theorem m_tb {a:aq}{f:Nat->Int}(b:a.oneCell'=av)(d:c.oneCell'=av):DoX ah (aS 337 #[(0,a),(1,c),(2,nsV f)]) w PK K=K (tbV a c f (λ_=>0) nilS) w:=by
 cases a<;>first|(cases b;done)|skip
 all_goals cases c<;>first|(cases d;done)|exact aD krx
theorem abP {a:aq}{f g:Nat->Int}(d:a.oneCell'=av)(e:c.oneCell'=av)(h:OwnS S w0 w L)(k:∀b w',OwnS S w0 w' (tbE b a c f g nilS::L)->K (.pointer (ax ⟨b,0,aw⟩)) w'):DoX ah (mBox 337 (tbV a c f g nilS)) w PK K:=by
 cases a<;>first|(cases d;done)|skip
 all_goals cases c<;>first|(cases e;done)|exact bA (λb=>.pointer (ax ⟨b,0,aw⟩)) (tbC _ _ f g nilS) 337 (λ_=>by kernel_rfl) h k
theorem tb_n (d:OwnS S w0 w L)(j:Nat){a o:aq}{f g:Nat->Int}(hi:L[j]?=ax (tbE b a c f g o)):DoX ah (aH 334 (.pointer (ax ⟨b,0+2,aw⟩))) w PK K=K (nsV f) w:=l_at (d.Th j hi (0+2) (nsC f) rfl aaM)
theorem PQ (d:OwnS S w0 w L)(j:Nat){a o:aq}{f g:Nat->Int}(hi:L[j]?=ax (tbE b a c f g o)):DoX ah (aH 123 (.pointer (ax ⟨b,0+34,aw⟩))) w PK K=K o w:=aJ EH (d.cell j hi 34 rfl)
theorem Va (j:Nat){a o:aq}{f g d:Nat->Int}(e:OwnS S w0 w L)(hi:L[j]?=ax (tbE b a c f g o))(k:∀w',OwnS S w0 w' (L.set j (tbE b a c f d o))->K undef w') :
  DoX ah (aN 334 (.pointer (ax ⟨b,0+18,aw⟩)) (nsV d)) w PK K:=xH j e hi (new:=nsC d) szNs (UN d) (by show 0+18+16<=35;omega) k
theorem TD (j:Nat){a o o':aq}{f g:Nat->Int}(h:o'.oneCell'=av)(d:OwnS S w0 w L)(hi:L[j]?=ax (tbE b a c f g o))(k:∀w',OwnS S w0 w' (L.set j (tbE b a c f g o'))->K undef w') :
  DoX ah (aN 123 (.pointer (ax ⟨b,0+34,aw⟩)) o') w PK K:=aK j d hi krx h (by show 0+34 < 35;omega) k
end
def cj (lens:List Nat)(l i:Nat):List Nat:=(List.range i).filter λi=>ai (lens.getD i 0=l)
theorem pg (lens:List Nat)(l i:Nat):(cj lens l i).length<=i:=by
 have:=asU (λi=>ai (lens.getD i 0=l)) (List.range i);rw[asV] at this;exact this
theorem ph (lens:List Nat):∀l,(bg lens l).length<=l*lens.length
|0=>by simp[bg]
|l+1=>by
  have a:=ph lens l;have b:=pg lens (l+1) lens.length;have e:jz lens (l+1)=cj lens (l+1) lens.length:=rfl;rw[bg,alI,e,anS];omega
theorem mK (a b:List Nat):aV (a++b)=aV a++aV b:=by simp[aV]
theorem BN (lens:List Nat)(v:aq)(M:Mem)(w:ao)(j:∀l∈lens,l<=15)(g:lens.length<=100000)(P:0 < lens.length)(z:M.has w)(y:SlA M.A M.w v 1 lens.length (aV lens)) :
  RetM ah 295 #[v] M w (λr N=>if bh lens≠0 then r=.tuple #[.pointer aw,.int .i64 (bh lens)] else ∃b,r=.tuple #[.pointer (ax ⟨b,0,aw⟩),.int .i64 0]∧TbAt N.A N.w b lens):=by
 refine bB z λK G=>BX ?_;unfold D8 nz;have a:OwnS M.A w w [.mem M]:=OwnS.memS z;refine bH a 0 rfl (Jz lens v M w j g z y) ?_;rintro _ N1 Q g1 ⟨cv,rfl,k,m⟩ a;simp only[ex,eS];by_cases n:bh lens=0
 case neg=>
  simp only[n,ne_eq,apF,alK,i_t];exact G _ _ N1 _ 0 a rfl g1 (by rw[alH n])
 have m:=m n;simp only[n,ne_eq,not_true,alL,i_f];refine bH a 0 rfl (I9 lens v N1 Q g P (a.hasM 0 rfl) (y.le g1)) λd e w2 g2 o a=>?_;refine aM a (R:=λr=>r=nsV (cnt lens)) (RetM.told (tQ lens v e w2 j g (a.hasM 0 rfl) (y.le (g1.trans g2)))) ?_;rintro _ w3 rfl a;rw[m_tb o.one k];refine abP o.one k a λb S a=>?_;rw[bG,Qz,tb_n a 0 rfl];refine aM a (R:=λr=>r=nsV (fstW lens)) (RetM.told (DV lens e S g (a.hasM 1 rfl))) ?_;rintro _ w5 rfl a;rw[bG,T9];refine Va 0 a rfl λT a=>?_;have p:=y.le (g1.trans g2);have a:OwnS M.A w T [.urow 3 1 nilS 0 [],tbE b d cv (cnt lens) (fstW lens) nilS,.mem e]:=OwnS.nilU (L:=[tbE b d cv (cnt lens) (fstW lens) nilS,.mem e]) a _ _;refine loop (λvs W=>∃(l:Nat) (ov:aq),vs=[.int .i64 ((l+1:Nat):Int)]∧l<=15∧OwnS M.A w W [.urow 3 1 ov (bg lens l).length (aV (bg lens l)),tbE b d cv (cnt lens) (fstW lens) ov,.mem e]) (λvs _=>16 - n0 vs) ⟨0,nilS,rfl,om,a⟩ ?_;clear a;rintro vs U ⟨l,ov,rfl,q,a⟩ _;simp only[xG,gd,rs,nz];by_cases s:((l+1:Nat):Int)<=15
 ·simp only[s,alK,i_t];rw[bE amF (p.now (a.hasM 2 rfl))];have V:=ph lens l;have H:l*lens.length<=15*100000:=aoR q g;refine loop (λvs W=>∃(i:Nat) (ov:aq),vs=[.int .i64 i]∧i<=lens.length∧OwnS M.A w W [.urow 3 1 ov (bg lens l++cj lens (l+1) i).length (aV (bg lens l++cj lens (l+1) i)),tbE b d cv (cnt lens) (fstW lens) ov,.mem e]) (λvs _=>lens.length - n0 vs) ⟨0,ov,rfl,om,by
   rw[show cj lens (l+1) 0=[] from rfl,amE];exact a⟩ ?_
  clear a;rintro vs I ⟨i,ov,rfl,hi,a⟩ _;simp only[wK,gd,rs,nz];by_cases f:(i:Int) < (lens.length:Int)
  ·have t:i < lens.length:=om
   simp only[f,alK,i_t];refine join λJ X=>?_;obtain⟨b2,off,Y,Z⟩:=mY (p.now (a.hasM 2 rfl)) t;have B:lens.getD i 0=lens[i]:=by rw[alO,alT t];rfl
   refine aD (Y I) |>.mpr (aD (aB aU Z) |>.mpr ?_);have a1:=pg lens (l+1) i;have c:cj lens (l+1) (i+1)=cj lens (l+1) i++(if lens[i]=l+1 then [i] else []):=by
    unfold cj;rw[aqT,asW]
    congr 1
    rw[<-B];by_cases h:lens.getD i 0=l+1
    ·rw[alH h];exact List.filter_cons_of_pos (alM h)
    ·rw[alG h];exact List.filter_cons_of_neg (by rw[alJ h];decide)
   have fin:∀(W:ao) (ov:aq),OwnS M.A w W [.urow 3 1 ov (bg lens l++cj lens (l+1) (i+1)).length (aV (bg lens l++cj lens (l+1) (i+1))),tbE b d cv (cnt lens) (fstW lens) ov,.mem e]->J [] W:=by
    intro W ov a;refine X _ _ λ_=>?_;simp only[wR,gd,rs,nz];rw[aA om om];exact aY ⟨i+1,ov,rfl,om,a⟩ (by simp[n0,RowKit.intOf];omega)
   simp only[rs];by_cases he:lens[i]=l+1
   ·rw[alH he] at c;simp only[show ai (((lens[i]:Nat):Int)=((l+1:Nat):Int))=av from alM om,i_t,rs,bG];rw[K1,PQ a 1 rfl];refine tV (i:Int) a λb3 w9 a=>?_;refine oK 1 a rfl (a.sl 0 rfl 1 1 1 rfl) rX (by rw[alI];omega) λv' a6 a=>?_
    try simp only[rs,bG]
    rw[K1];refine TD 2 (cQ (a.at_ 1 rfl)) a rfl λC a=>?_;refine fin C v' ?_;have e1:aV (bg lens l++cj lens (l+1) (i+1))=aV (bg lens l++cj lens (l+1) i)++Nt [(i:Int)]:=by
     rw[c,<-alS,mK];rfl
    have e2:(bg lens l++cj lens (l+1) (i+1)).length=(bg lens l++cj lens (l+1) i).length+1:=by
     rw[c,<-alS,alI];rfl
    rw[e1,e2];exact a.tail
   ·rw[alG he,amE] at c;simp only[show ai (((lens[i]:Nat):Int)=((l+1:Nat):Int))=au from alJ om,i_f];refine fin I ov ?_;rw[c];exact a
  ·simp only[f,alL,i_f];have D:i=lens.length:=om
   subst D;rw[aA om om];exact aY ⟨l+1,ov,rfl,om,a⟩ (by simp[n0,RowKit.intOf];omega)
 ·have g:l=15:=om
  subst g;simp only[s,alL,i_f];obtain⟨O,g3,u,a⟩:=OwnS.bJ (L:=[tbE b d cv (cnt lens) (fstW lens) ov,.mem e]) a 1 rfl;have a:OwnS M.A w U [tbE b d cv (cnt lens) (fstW lens) ov,.mem O]:=a;have E:=a.at_ 0 rfl;obtain⟨N4,g4,F,x,a⟩:=OwnS.freeze (L:=[.mem O]) a 0 rfl;refine G _ _ N4 _ 0 a rfl (g1.trans (g2.trans (g3.trans g4))) ?_;rw[alG (by simp[n])];exact⟨b,rfl,d,cv,ov,x b rfl,by rw[F];exact E,u.le g4⟩
end
section
open Eng Go.RowKit
def gz (lens:List Nat)(s:List UInt8):Nat->Nat->Nat->Nat->Nat×Nat×Int
|0,_,p,_=>(0,p,13)
|f+1,l,p,code=>if Fl.bD lens 15<=Fl.bD lens l then (0,p,13) else if 8*s.length<=p then (0,p,4)
  else if 2*code+Fl.bit s p < Fl.first lens (l+1)+lens.count (l+1) then ((bg lens 15).getD (Fl.bD lens l+(2*code+Fl.bit s p - Fl.first lens (l+1))) 0,p+1,0)
  else gz lens s f (l+1) (p+1) (2*code+Fl.bit s p)
def dk (lens:List Nat)(s:List UInt8)(p:Nat):Nat×Nat×Int:=gz lens s 16 0 p 0
theorem rj (lens:List Nat):(List.range lens.length).map (λi=>lens.getD i 0)=lens:=by
 refine asX sm λi b a=>?_;rw[List.getElem_map,List.getElem_range,alO,alT a];rfl
theorem pj (lens:List Nat)(l:Nat):(jz lens l).length=lens.count l:=by
 conv=>rhs;rw[<-rj lens]
 rw[List.count_eq_countP,List.countP_map,List.countP_eq_length_filter];unfold jz
 congr 1
theorem my (lens:List Nat):∀l,(bg lens l).length=Fl.bD lens l
|0=>rfl
|l+1=>by rw[bg,alI,my lens l,pj,Fl.bD]
theorem mg (lens:List Nat){a:Nat}(h:a<=b):Fl.bD lens a<=Fl.bD lens b:=by
 induction b with
|zero=>
  have:a=0:=om
  subst this;exact alP _
|succ b c=>
  rcases amL a (b+1) with d|d
  ·have:=c om;rw[Fl.bD];omega
  ·have:a=b+1:=om
   subst this;exact alP _
theorem acA {c:Nat}(a:b < 2)(d:c<=1000000):bOr .i64 ((c*2:Nat):Int) (b:Int)=((2*c+b:Nat):Int):=by
 have e:c*2 ||| b=2*c+b:=by
  have:=asT (i:=1) (b:=b) (by simpa using a) c;rw[aoD c];simpa using this.symm
 unfold bOr;show IntKind.wrap .i64 (((BitVec.ofInt 64 ((c*2:Nat):Int) ||| BitVec.ofInt 64 (b:Int)).toNat:Nat):Int)=_;rw[BitVec.ofInt_natCast,BitVec.ofInt_natCast,BitVec.toNat_or,BitVec.toNat_ofNat,BitVec.toNat_ofNat,anD om,anD om,e];exact aA om om
theorem VS {a o:aq}{f g:Nat->Int}(d:M.A b)(h:(tbE b a c f g o).is M.w)(e:M.has W):(tbE b a c f g o).is W:=by
 show W.heap[b]?=_;rw[e b d];exact h
section
variable {W:ao}{b:Nat}{a c o:aq}{f g:Nat->Int}
theorem ZR (h:(tbE b a c f g o).is W):(aH 123 (.pointer (ax ⟨b,0+34,aw⟩))).run ah W=.ok (.value o) W:=aB EH (aI (T:=337) (cs:=tbC a c f g o) h rfl)
theorem Uv (h:(tbE b a c f g o).is W)(hi:i < 16):(aH 3 (.pointer (ax ⟨b,0+2+i,aw⟩))).run ah W=.ok (.value (.int .i64 (f i))) W:=aB aU (aI (T:=337) (cs:=tbC a c f g o) h (by
 unfold tbC;rw[show 0+2+i=i+1+1 by omega,amS,amS,anV (by show i < 16;exact hi)];exact HK f hi))
theorem ZV (h:(tbE b a c f g o).is W)(hi:i < 16):(aH 3 (.pointer (ax ⟨b,0+18+i,aw⟩))).run ah W=.ok (.value (.int .i64 (g i))) W:=aB aU (aI (T:=337) (cs:=tbC a c f g o) h (by
 unfold tbC;rw[show 0+18+i=(i+16)+1+1 by omega,amS,amS,aoB (by show 16<=i+16;omega)];show (nsC g++[o])[i+16 - 16]?=_;rw[apV,anV (by show i < 16;exact hi)];exact HK g hi))
end
theorem Hv {a:Option Addr}{l:Nat}{p:Addr}(h:subA a l cap sz=ax p):∃q:Addr,a=ax q∧q.block=p.block:=by
 unfold subA at h;split at h
 ·exact⟨p,h,rfl⟩
 ·obtain⟨q,b,rfl⟩:=anP.1 h;exact⟨q,b,by unfold Addr.add;split<;>rfl⟩
theorem SlA.Yi {a:Option Addr}{n:Nat}(h:SlA A w (.slice a n cap) sz n cs)(hi:i<=n):SlA A w (.slice (subA a i cap sz) (n - i) (cap - i)) sz (n - i) (cs.drop (i*sz)):=by
 have b:=h.2.2 _ _ _ rfl;refine⟨Sl.from h.1 hi b,λp l c e g=>?_,λa' l c e=>?_⟩
 ·injection e with e _ _
  obtain⟨q,d,f⟩:=Hv e;have:=h.2.1 q n cap (by rw[d]) om
  rwa [<-f]
 ·injection e with _ j k
  omega
theorem Vf :DoX ah (mEq .eql 294 xo yo (.pointer (ax ⟨b,0,aw⟩)) (.pointer aw)) w PK K=K (.bool au) w:=aD krx
section
variable {w:ao}{PK:PKT}{K:VWP}{S:Nat->Prop}{w0:ao}{L:List Ent}
theorem Ni {s:List UInt8}{lens:List Nat}(j jm:Nat)(D:jm≠j)(a:OwnS S w0 w L)(P:L[j]?=ax (bqE b s way p))(hm:L[jm]?=ax (.mem M))(ht:TbAt M.A M.w tb lens)(hl:lens.length<=1000)(hw:way=0∨way=1)(hp:p<=8*s.length)(hs:s.length<=1000000000)
  (k:∀way' W,way'=0∨way'=1->(dk lens s p).2.1<=8*s.length->OwnS S w0 W (L.set j (bqE b s way' (dk lens s p).2.1))->K (.tuple #[.int .i64 (dk lens s p).1,.int .i64 (dk lens s p).2.2]) W) :
  CallX ah 347 #[.pointer (ax ⟨tb,0,aw⟩),.pointer (ax ⟨b,0,aw⟩)] w PK K:=by
 have E:j < L.length:=(alY.1 P).1;generalize hR:dk lens s p=R at k;refine fG (Aj (k0:=RetK λv W=>∃way',(way'=0∨way'=1)∧R.2.1<=8*s.length∧v=.tuple #[.int .i64 R.1,.int .i64 R.2.2]∧OwnS S w0 W (L.set j (bqE b s way' R.2.1))) ?_) (λe W ⟨v,he,way',F,h2,hv,a⟩=>by subst he;subst hv;exact k way' W F h2 a);unfold rN nz;obtain⟨ta,tc,tv,Q,g,m⟩:=ht;rw[Vf];simp only[rs];rw[Ei];simp only[rs,bG];have o:∀x:Int×Nat,(L.set j (bqE b s x.1 x.2))[jm]?=ax (.mem M):=λx=>by rw[aqO (Ne.symm D)];exact hm
 rw[K1];refine aD (ZR (VS Q g (a.hasM jm hm))) |>.mpr ?_;have hlen:=my lens 15;refine loop (λvs W=>∃(l q code:Nat) (way:Int) (G:aq),vs=[G,.int .i64 code,.int .i64 ((l+1:Nat):Int)]∧SlA M.A M.w G 1 (Fl.bD lens 15 - Fl.bD lens l) (aV ((bg lens 15).drop (Fl.bD lens l)))∧l<=15∧code < 2 ^ l∧Fl.first lens (l+1)<=2*code∧(way=0∨way=1)∧q<=8*s.length ∧
  gz lens s (16 - l) l q code=R∧OwnS S w0 W (L.set j (bqE b s way q))) (λvs _=>16 - n2 vs) ⟨0,p,0,way,tv,rfl,?_,om,dc,by simp[Fl.first],hw,hp,hR,by rw[tH P];exact a⟩ ?_
 ·rw[show Fl.bD lens 0=0 from rfl,aoL,arZ,<-hlen];exact m
 clear a;rintro vs w2 ⟨l,q,code,way,G,rfl,f,r,a1,a6,hw,H,c,a⟩ _;simp only[nU,gd,nz];rw[bE amF (f.now (a.hasM jm (o (way,q))))];simp only[rs];have a7:=mg lens r;have a8:=Fl.Hc (lens:=lens) 15;have I:16 - l=(15 - l)+1:=om
 rw[I,gz] at c;have J:(L.set j (bqE b s way q))[j]?=ax (bqE b s way q):=by rw[aoS E]
 by_cases t:(0:Int) < ((Fl.bD lens 15 - Fl.bD lens l:Nat):Int)
 case neg=>
  simp only[t,alL,i_f];rw[alH om] at c;subst c;exact retK ⟨way,hw,H,rfl,a⟩
 have T:l < 15:=by
  rcases amL l 15 with h|h
  ·exact h
  ·have:l=15:=om
   subst this;omega
 rw[alG om] at c;simp only[t,alK,i_t];refine afI (n:=1) j a J hw H om hs (λF W a=>?_) (λF W a=>?_)
 ·rw[alH dc,aqN] at a;rw[alG om] at c;have u:Fl.num s q 1=Fl.bit s q:=by simp[Fl.num]
  simp only[ex,eS,show ai ((0:Int)≠0)=au by decide,i_f];have hb:=Fl.St s q;have U:2 ^ l<=2 ^ 14:=anN dc om;have V:(2:Nat) ^ 14=16384:=dc
  rw[Fc dc];rw[show (code:Int)*2 ^ (min (1:Int).toNat IntKind.i64.bits)=((code*2:Nat):Int) by
   rw[show min (1:Int).toNat IntKind.i64.bits=1 from rfl];push_cast;omega]
  rw[aA om om,u,b_or,acA hb om];have X:=a.hasM jm (o (1,q+1));have d:=VS Q g X
  try simp only[rs,bG]
  rw[T9,GU om];refine aD (ZV d om) |>.mpr ?_;have y:fstW lens (l+1)=((Fl.first lens (l+1):Nat):Int):=by show ((Fl.first lens (if l+1<=15 then l+1 else 0):Nat):Int)=_;rw[alH om]
  have z:cnt lens (l+1)=((lens.count (l+1):Nat):Int):=by unfold cnt;rw[alG om]
  have b0:lens.count (l+1)<=lens.length:=aqK;rw[y]
  try simp only[rs,bG]
  rw[aA om om,Qz,GU om];refine aD (Uv d om) |>.mpr ?_;rw[z]
  try simp only[rs]
  have N:Fl.bD lens (l+1)=Fl.bD lens l+lens.count (l+1):=by rw[Fl.bD]
  have Y:=mg lens (show l+1<=15 by omega);by_cases B:((2*code+Fl.bit s q:Nat):Int) - ((Fl.first lens (l+1):Nat):Int) < ((lens.count (l+1):Nat):Int)
  ·simp only[B,alK,i_t];rw[alH om] at c;have O:((bg lens 15).drop (Fl.bD lens l)).length=Fl.bD lens 15 - Fl.bD lens l:=by rw[alW,hlen]
   have C:2*code+Fl.bit s q - Fl.first lens (l+1) < ((bg lens 15).drop (Fl.bD lens l)).length:=om
   obtain⟨b2,off,r1,r2⟩:=mY (l:=(bg lens 15).drop (Fl.bD lens l)) (by rw[O];exact f.now X) C;rw[show ((2*code+Fl.bit s q:Nat):Int) - ((Fl.first lens (l+1):Nat):Int)=((2*code+Fl.bit s q - Fl.first lens (l+1):Nat):Int) by omega];refine aD (r1 W) |>.mpr (aD (aB aU r2) |>.mpr ?_);have e0:((bg lens 15).drop (Fl.bD lens l))[2*code+Fl.bit s q - Fl.first lens (l+1)]=(bg lens 15).getD (Fl.bD lens l+(2*code+Fl.bit s q - Fl.first lens (l+1))) 0:=by
    rw[List.getElem_drop,alO,alT (by rw[alW] at C;omega)];rfl
   rw[e0];generalize (bg lens 15).getD (Fl.bD lens l+(2*code+Fl.bit s q - Fl.first lens (l+1))) 0=sym at c;subst c;exact retK ⟨1,.inr rfl,by show q+1<=_;omega,rfl,a⟩
  ·simp only[B,alL,i_f];rw[alG om] at c
   try simp only[rs,bG]
   rw[Qz,GU om];refine aD (Uv d om) |>.mpr ?_;rw[z];obtain⟨oa,oc,rfl,Z⟩:=f.form;refine aD (dS amF (show _=ax 1 by kernel_rfl) om om) |>.mpr ?_;rw[alQ]
   try simp only[rs]
   rw[aA om om];refine aY ⟨l+1,q+1,2*code+Fl.bit s q,1,_,rfl,?_,om,?_,?_,.inr rfl,om,?_,a⟩ (by simp[n2,RowKit.intOf];omega)
   ·have:=f.Yi (i:=lens.count (l+1)) om;rw[show Fl.bD lens 15 - Fl.bD lens (l+1)=Fl.bD lens 15 - Fl.bD lens l - lens.count (l+1) by omega];have e:(aV ((bg lens 15).drop (Fl.bD lens l))).drop (lens.count (l+1)*1)=aV ((bg lens 15).drop (Fl.bD lens (l+1))):=by
     unfold aV;rw[amI,<-List.map_drop,apN,N]
    rw[<-e];exact this
   ·rw[anL];omega
   ·rw[Fl.first];omega
   ·rw[show 16 - (l+1)=15 - l by omega];exact c
 ·simp only[ex,eS,show ai ((4:Int)≠0)=av by decide,i_t];rw[alH om] at c;subst c;exact retK ⟨way,hw,H,rfl,a⟩
end
end
section
open Eng Go.RowKit
def flC (rb:Nat)(ov:aq)(most:Int):List Value:=[.pointer (ax ⟨rb,0,aw⟩),ov,.int .i64 most]
def flE (b rb:Nat)(ov:aq)(most:Int):Ent:=.cells b (flC rb ov most) 278
def outR (ov:aq)(out:List UInt8):Ent:=.urow 5 1 ov out.length (aP out)
theorem UA:fOff ah 278 0=ax 0:=krx
theorem yN:fOff ah 278 1=ax 1:=krx
theorem abJ:fOff ah 278 2=ax 2:=krx
theorem XY:eD ah 275=true:=krx
theorem NH:eD ah 53=true:=krx
section
variable {w:ao}{PK:PKT}{K:VWP}{S:Nat->Prop}{w0:ao}{L:List Ent}
theorem MA {off:Nat}:DoX ah (mFA 278 (.pointer (ax ⟨b,off,aw⟩)) 0) w PK K=K (.pointer (ax ⟨b,off,aw⟩)) w:=aO UA
theorem Vj (a:OwnS S w0 w L)(j:Nat){ov:aq}{most:Int}(hi:L[j]?=ax (flE b rb ov most)):DoX ah (aH 275 (.pointer (ax ⟨b,0,aw⟩))) w PK K=K (.pointer (ax ⟨rb,0,aw⟩)) w:=aJ XY (a.cell j hi 0 rfl)
theorem oI {ov:aq}{most:Int}{s:List UInt8}{n:Nat}(e j:Nat)(a:OwnS S w0 w L)(c:L[e]?=ax (flE fb b ov most))(f:L[j]?=ax (bqE b s way p))(hw:way=0∨way=1)(hp:p<=8*s.length)(g:n<=24)(i:s.length<=1000000000)
  (k:p+n<=8*s.length->∀W,OwnS S w0 W (L.set j (bqE b s (if 0 < n then 1 else way) (p+n)))->K (.int .i64 (Fl.num s p n)) W)
  (l:8*s.length < p+n->∀W,OwnS S w0 W L->PK [upI 4] W):CallX ah 305 #[.pointer (ax ⟨fb,0,aw⟩),.int .i64 (n:Int)] w PK K:=by
 refine⟨uA ?_⟩;unfold nI nz;rw[bG,MA,Vj a e c];refine afI j a f hw hp g i (λd W a=>?_) (λd W a=>?_)
 ·simp only[ex];exact tG (λ_=>k d W a) (λh=>absurd rfl h)
 ·simp only[ex];exact tG (λh=>absurd h dc) (λ_=>l d W a)
theorem UM {ov:aq}{n:Nat}{out:List UInt8}(e g:Nat)(d:OwnS S w0 w L)(c:L[e]?=ax (flE fb b ov most))(f:L[g]?=ax (outR ov out))(l:n<=1000000000)(hm:most<=1000000000)(i:out.length<=1000000000)
  (j:out.length+n<=most->∀W,OwnS S w0 W L->K (.tuple #[]) W) (k:most < out.length+n->∀W,OwnS S w0 W L->PK [upI 5] W):CallX ah 334 #[.pointer (ax ⟨fb,0,aw⟩),.int .i64 (n:Int)] w PK K:=by
 refine⟨tN ?_⟩;unfold nG nz;refine dK (λW=>OwnS S w0 W L) d.drew ?_;refine q_do _ (λ_=>dL) (q_do _ (λ_=>bC yN) (q_at ov (λW h=>aB NH (h.cell e c 1 rfl)) ?_));refine q_at (.int .i64 (out.length:Int)) (λW h=>?_) ?_
 ·have:=h.slU g f;obtain⟨_,a,cap,rfl,_⟩:=this;simp[mB,builtin,Builtin.len_,run_underlying amJ,goInt]
 refine oY ?_;rw[aA om om];refine q_do _ (λ_=>dL) (q_do _ (λ_=>bC abJ) (q_at (.int .i64 (most:Int)) (λW h=>aB aU (h.cell e c 2 rfl)) (Z2 ?_)));intro w2 d;exact iY (λh=>j (by have:=alZ h;omega) w2 d) (λh=>k (by have:=amR h;omega) w2 d)
theorem qI {e:Int}(a:e=0->K v w)(b:e≠0->PK [upI e] w):CallX ah 338 #[v,.int .i64 e] w PK K:=by
 refine⟨iG ?_⟩;unfold eR nz;simp only[rs];exact iY (λh=>a (alZ h)) λh=>b (amR h)
end
end
section
open Eng Go.RowKit
def fm (each first:Nat):Nat->Nat
|0=>first
|i+1=>fm each first i+2 ^ (i / each - 1)
theorem pn (each first:Nat):∀i,i<=40->fm each first i<=first+i*2 ^ 40
|0,_=>by simp[fm]
|i+1,h=>by
  have a:=pn each first i om
  have b:i / each<=i:=aqM _ _;have c:2 ^ (i / each - 1)<=2 ^ 40:=anN dc om;rw[fm,anS];omega
def snC (a b:Int):List Value:=[.int .i64 a,.int .i64 b]
def snV (a b:Int):Value:=.agg (snC a b).toArray
def snE (c:Nat)(a b:Int):Ent:=.cells c (snC a b) 371
theorem aiY:aggN ah 371=ax 2:=krx
theorem szSn:(Tryz.prog.info? 371).map (·.size)=ax 2:=krx
theorem agY:fOff ah 371 0=ax 0:=krx
theorem adI:fOff ah 371 1=ax 1:=krx
section
variable {w:ao}{PK:PKT}{K:VWP}{S:Nat->Prop}{w0:ao}{L:List Ent}
theorem aaQ (a:OwnS S w0 w L)(k:∀b w',OwnS S w0 w' (snE b 0 0::L)->K (.pointer (ax ⟨b,0,aw⟩)) w'):DoX ah (iL 371) w PK K:=
 bA (λb=>.pointer (ax ⟨b,0,aw⟩)) (snC 0 0) 371 (λ_=>by kernel_rfl) a k
theorem ahG (a c:Int)(d:OwnS S w0 w L)(k:∀b w',OwnS S w0 w' (snE b a c::L)->K (.pointer (ax ⟨b,0,aw⟩)) w'):DoX ah (mBox 371 (snV a c)) w PK K:=
 bA (λb=>.pointer (ax ⟨b,0,aw⟩)) (snC a c) 371 (λ_=>by kernel_rfl) d k
theorem m_sn {c:Int}:DoX ah (aS 371 #[(0,.int .i64 a),(1,.int .i64 c)]) w PK K=K (snV a c) w:=aD krx
theorem alD :DoX ah (aS 371 #[(0,.int .i64 a)]) w PK K=K (snV a 0) w:=aD krx
theorem O4 (j:Nat){c a' d:Int}(f:OwnS S w0 w L)(hi:L[j]?=ax (snE b a c))(k:∀w',OwnS S w0 w' (L.set j (snE b a' d))->K undef w') :
  DoX ah (aN 371 (.pointer (ax ⟨b,0,aw⟩)) (snV a' d)) w PK K:=gY j f hi (new:=snC a' d) szSn (by intro v e;simp only[snC,alN,anA,or_false] at e;rcases e with rfl|rfl<;>rfl) rfl k
theorem Qp {K:Ending->ao->Prop}{c:Int}(i:Nat)(d:OwnS S w0 w L)(hi:L[i]?=ax (snE b a c))(k:K (.returned (snV a c)) w):RetX ah [.cell (.pointer (ax ⟨b,0,aw⟩)) 371] w K:=
 iC (bI (d.agg i hi aiY)) k
end
theorem Jy (i first each:Nat)(w:ao)(hi:i<=40)(he:1<=each)(o:first<=1000):Ret ah 364 #[.int .i64 (i:Int),.int .i64 (first:Int),.int .i64 (each:Int)] w (λv w'=>v=snV (fm each first i) ((i / each - 1:Nat):Int)∧Below w.heap.size w w'):=by
 refine aZ λK j=>Bl ?_;unfold uN nz;refine aaQ (Own.start w) λb l a=>?_;have a:Own w l [snE b 0 0]:=a;have more:∀q:Nat,max 0 (((q:Nat):Int) - 1)=((q - 1:Nat):Int):=λq=>by omega
 have quo:∀k:Nat,((k:Nat):Int).tdiv (each:Int)=((k / each:Nat):Int):=λk=>by
  rw[Int.tdiv_eq_ediv_of_nonneg om];rfl
 refine loop (λvs W=>∃k:Nat,vs=[.int .i64 (fm each first k),.int .i64 k]∧k<=i∧Own w W [snE b 0 0]) (λvs _=>i - n1 vs) ⟨0,rfl,om,a⟩ ?_;clear a;rintro vs w2 ⟨k,rfl,p,a⟩ _;simp only[qC,gd,rs,nz];by_cases e:(k:Int) < (i:Int)
 ·simp only[e,alK,i_t];have g:k / each<=k:=aqM _ _;have c:=pn each first (k+1)
  rw[fm] at c;have f:fm each first (k+1)=fm each first k+2 ^ (k / each - 1):=rfl
  rw[Ww om,quo];generalize k / each=d at *;rw[aA om om]
  try simp only[rs]
  rw[aA om om,yI,more,Fc om];have c:=c om;have m:(2:Nat) ^ 40=1099511627776:=dc
  have n:2 ^ (d - 1)<=2 ^ 40:=anN dc om;rw[show min ((d - 1:Nat):Int).toNat IntKind.i64.bits=d - 1 by show min ((d - 1:Nat):Int).toNat 64=d - 1;omega];rw[show (1:Int)*2 ^ (d - 1)=((2 ^ (d - 1):Nat):Int) by push_cast;omega];have hm:(k+1)*2 ^ 40<=41*2 ^ 40:=anC _ om;generalize r:2 ^ (d - 1)=q at *;rw[aA om om]
  try simp only[rs]
  rw[aA om om,aA om om];exact aY ⟨k+1,by rw[f];rfl,om,a⟩ (by simp[n1,RowKit.intOf];omega)
 ·simp only[e,alL,i_f];have h:k=i:=om
  subst h;have g:k / each<=k:=aqM _ _;have c:=pn each first (k+1)
  rw[fm] at c;have f:fm each first (k+1)=fm each first k+2 ^ (k / each - 1):=rfl
  rw[Ww om,quo];generalize k / each=d at *;rw[aA om om]
  try simp only[rs]
  rw[aA om om,yI,more,m_sn];have a:OwnS NoB w w2 [snE b 0 0]:=a;refine O4 0 a rfl λw3 a=>?_;exact Qp 0 a rfl (j _ _ ⟨rfl,a.below⟩)
end
section
open Eng Go.RowKit
def iw (i:Nat):Nat:=if i=28 then 258 else fm 4 3 i
def ey (i:Nat):Nat:=if i=28 then 0 else i / 4 - 1
def ej (i:Nat):Nat:=fm 2 1 i
def dm (i:Nat):Nat:=i / 2 - 1
theorem LR (i:Nat)(w:ao)(hi:i<=28):Ret ah 357 #[.int .i64 (i:Int)] w (λv w'=>v=snV (iw i) (ey i)∧Below w.heap.size w w'):=by
 refine aZ λK c=>DU ?_;unfold A7 nz;refine aaQ (Own.start w) λb d a=>?_;have a:OwnS NoB w d [snE b 0 0]:=a;simp only[rs];by_cases h:(i:Int)=28
 ·have hi:i=28:=om
  subst hi;simp only[h,alK,i_t];rw[alD];refine O4 0 a rfl λw3 a=>?_;exact Qp 0 a rfl (c _ _ ⟨rfl,a.below⟩)
 ·simp only[h,alL,i_f];refine aM a (R:=λv=>v=snV (fm 4 3 i) ((i / 4 - 1:Nat):Int)) (Jy i 3 4 d om om om) ?_;rintro _ w2 rfl a;refine O4 0 a rfl λw3 a=>?_;refine Qp 0 a rfl (c _ _ ⟨?_,a.below⟩);unfold iw ey;rw[alG om,alG om]
theorem Qj (i:Nat)(w:ao)(hi:i<=30):Ret ah 359 #[.int .i64 (i:Int)] w (λv w'=>v=snV (ej i) (dm i)∧Below w.heap.size w w'):=by
 refine aZ λK d=>Ft ?_;unfold CI nz;refine aaQ (Own.start w) λb c a=>?_;have a:OwnS NoB w c [snE b 0 0]:=a;refine aM a (R:=λv=>v=snV (fm 2 1 i) ((i / 2 - 1:Nat):Int)) (Jy i 1 2 c om om om) ?_;rintro _ w2 rfl a;refine O4 0 a rfl λw3 a=>?_;exact Qp 0 a rfl (d _ _ ⟨rfl,a.below⟩)
theorem LO (a e m:Nat)(w:ao)(h:a<=1000000000)(he:e<=30)(hm:m < 2 ^ e):Ret ah 363 #[snV (a:Int) (e:Int),.int .i64 (m:Int)] w (λv w'=>v=.tuple #[.int .i64 ((a+m:Nat):Int),.int .i64 0]∧Below w.heap.size w w'):=by
 refine aZ λK d=>vT ?_;unfold oQ nz;refine ahG _ _ (Own.start w) λb f c=>?_;have c:OwnS NoB w f [snE b a e]:=c;have hp:2 ^ e<=2 ^ 30:=anN dc he;have g:(2:Nat) ^ 30=1073741824:=dc
 simp only[rs,show ai ((m:Int) < 0)=au from alJ om];rw[aO adI,aJ aU (c.cell 0 rfl 1 rfl),Fc om];rw[show min (e:Int).toNat IntKind.i64.bits=e by show min (e:Int).toNat 64=e;omega];rw[show (1:Int)*2 ^ e=((2 ^ e:Nat):Int) by push_cast;omega,aA om om];simp only[rs,show ai (((2 ^ e:Nat):Int)<=(m:Int))=au from alJ om];rw[aO agY,aJ aU (c.cell 0 rfl 0 rfl)];simp only[rs];rw[aA om om];exact d _ _ ⟨rfl,c.below⟩
theorem rk (h:i<=28):iw i<=1000∧ey i<=5:=by
 have:i=0∨i=1∨i=2∨i=3∨i=4∨i=5∨i=6∨i=7∨i=8∨i=9∨i=10∨i=11∨i=12∨i=13∨i=14∨i=15∨i=16∨i=17∨i=18∨i=19∨i=20∨i=21∨i=22∨i=23∨i=24∨i=25∨i=26∨i=27∨i=28:=om
 rcases this with rfl|rfl|rfl|rfl|rfl|rfl|rfl|rfl|rfl|rfl|rfl|rfl|rfl|rfl|rfl|rfl|rfl|rfl|rfl|rfl|rfl|rfl|rfl|rfl|rfl|rfl|rfl|rfl|rfl<;>decide
theorem rm (h:i<=29):ej i<=100000∧dm i<=13:=by
 have:i=0∨i=1∨i=2∨i=3∨i=4∨i=5∨i=6∨i=7∨i=8∨i=9∨i=10∨i=11∨i=12∨i=13∨i=14∨i=15∨i=16∨i=17∨i=18∨i=19∨i=20∨i=21∨i=22∨i=23∨i=24∨i=25∨i=26∨i=27∨i=28∨i=29:=om
 rcases this with rfl|rfl|rfl|rfl|rfl|rfl|rfl|rfl|rfl|rfl|rfl|rfl|rfl|rfl|rfl|rfl|rfl|rfl|rfl|rfl|rfl|rfl|rfl|rfl|rfl|rfl|rfl|rfl|rfl|rfl<;>decide
theorem Vn (i m:Nat)(w:ao)(hi:i<=28)(hm:m < 2 ^ ey i):Ret ah 356 #[.int .i64 ((257+i:Nat):Int),.int .i64 (m:Int)] w (λv w'=>v=.tuple #[.int .i64 ((iw i+m:Nat):Int),.int .i64 0]∧Below w.heap.size w w'):=by
 refine aZ λK b=>D2 ?_;unfold Am nz;have a:OwnS NoB w w []:=Own.start w;obtain⟨c,d⟩:=rk hi;simp only[rs,show ai (((257+i:Nat):Int) < 257)=au from alJ om,show ai ((285:Int) < ((257+i:Nat):Int))=au from alJ om];rw[aA om om,show ((257+i:Nat):Int) - 257=(i:Int) by omega];refine aM a (R:=λv=>v=snV (iw i) (ey i)) (LR i w hi) ?_;rintro _ w2 rfl a;refine aM a (R:=λv=>v=.tuple #[.int .i64 ((iw i+m:Nat):Int),.int .i64 0]) (LO _ _ m w2 om om hm) ?_;rintro _ w3 rfl a;simp only[ex];exact b _ _ ⟨rfl,a.below⟩
theorem VZ (i m:Nat)(w:ao)(hi:i<=29)(hm:m < 2 ^ dm i):Ret ah 358 #[.int .i64 (i:Int),.int .i64 (m:Int)] w (λv w'=>v=.tuple #[.int .i64 ((ej i+m:Nat):Int),.int .i64 0]∧Below w.heap.size w w'):=by
 refine aZ λK b=>Fj ?_;unfold Cx nz;have a:OwnS NoB w w []:=Own.start w;obtain⟨c,d⟩:=rm hi;simp only[rs,show ai ((i:Int) < 0)=au from alJ om,show ai ((29:Int) < (i:Int))=au from alJ om];refine aM a (R:=λv=>v=snV (ej i) (dm i)) (Qj i w om) ?_;rintro _ w2 rfl a;refine aM a (R:=λv=>v=.tuple #[.int .i64 ((ej i+m:Nat):Int),.int .i64 0]) (LO _ _ m w2 om om hm) ?_;rintro _ w3 rfl a;simp only[ex];exact b _ _ ⟨rfl,a.below⟩
end
section
namespace Eng
open Go.RowKit
theorem Ll {g:Nat}(h:w'.heap[g]?=w.heap[g]?):w'.cell? ⟨g,j,aw⟩=w.cell? ⟨g,j,aw⟩:=by
 unfold World.cell?;simp only[h]
theorem Ng {T E:TypeId}{cs:Array Bool}{g n bytes:Nat}(H:P.underlying T=ax (.slice E))(he:elB P E sz bytes=av)(L:0 < sz)
  (d:(Ent.urow E sz (.slice (ax ⟨g,0,aw⟩) n cap) n xs).is w) (M:Sl w v2 sz m news) (hm:0 < m) (N:∀u∈news,u.oneCell'=av) (O:(n+m)*bytes<=140737488355328) (Q:n+m<=140737488355328)
  (r:(mB .append #[T,T] U cs #[.slice (ax ⟨g,0,aw⟩) n cap,v2]).run P w=.ok (.value v') w') (l:(Ent.urow E sz v' (n+m) (xs++news)).is w') {j:Nat} {u:aq} (o:xs[j]?=ax u):w'.cell? ⟨g,j,aw⟩=ax u:=by
 obtain⟨i,z,hi,R,v,x,S⟩:=jR he;subst v;subst x;have d:w.ownsRow 0 E i.size (.slice (ax ⟨g,0,aw⟩) n cap) n xs:=d;have l:w'.ownsRow 0 E i.size v' (n+m) (xs++news):=l;obtain⟨y,a,c,rfl,V,W⟩:=M;have A:n+m<=maxLen:=by simp only[maxLen];omega
 cases a with
|none=>have:=V rfl;omega
|some p=>
  have I:∀j u,news[j]?=ax u->w.cell? (p.add j)=ax u:=by
   intro j u o;obtain⟨B,f⟩:=W p rfl;have:=B hm;obtain⟨b,off,spot⟩:=p;simp only at this f;subst this;rw[cK];exact f j u o
  have holds:∀j u,xs[j]?=ax u->w.cell? ((⟨g,0,aw⟩:Addr).add j)=ax u:=d.cells (g:=g) rfl;have C:=d.1;rcases d.2 with ⟨h,_⟩|⟨g',J,cur,X,Y,K,Z,a1,D,F⟩
  ·cases h
  injection X with q e2 e3
  injection q with q
  injection q with q
  subst q;subst e3;by_cases k:n+m<=cap
  ·have s:n*i.size+news.length<=cur.size:=by rw[y,D,<-aoA];exact anC _ k
   have G:=run_append_room (P:=P) w T U E i H hi g n cap cur K p m c news y I N k s;have:(mB .append #[T,T] U cs #[.slice (ax ⟨g,0,aw⟩) n cap,.slice (ax p) m c]).run P w=.ok (.value (.slice (ax ⟨g,0,aw⟩) (n+m) cap)) (w.setRow g (cur.toList.take (n*i.size)++news++cur.toList.drop (n*i.size+news.length)).toArray):=by simp[mB,builtin,G]
   rw[this] at r;cases r;have:=l.cells (g:=g) rfl j u (by rw[anV (alY.1 o).1];exact o);rw[cK,alU] at this;exact this
  ·have G:=run_append_grow (P:=P) w T U E i z H hi R ⟨g,0,aw⟩ n cap xs C holds p m c news y I om (by simp only[maxLen] at A;omega) (growslice_fits om O);have:(mB .append #[T,T] U cs #[.slice (ax ⟨g,0,aw⟩) n cap,.slice (ax p) m c]).run P w=.ok (.value (.slice (ax ⟨w.heap.size,0,aw⟩) (n+m) (grownCap w (n+m) cap E)))
    (w.drew.alloc (.cells (xs.toArray++news.toArray++Builtin.zeroCells z.cells (grownCap w (n+m) cap E - (n+m))) E)):=by simp[mB,builtin,G]
   rw[this] at r;cases r;have t:g < w.heap.size:=(arB.1 K).1;have e:(w.drew.alloc (.cells (xs.toArray++news.toArray++Builtin.zeroCells z.cells (grownCap w (n+m) cap E - (n+m))) E)).heap[g]?=w.heap[g]?:=by first|exact heap_alloc_old w.drew _ t|exact heap_alloc_old w.drew _ _ t
   rw[Ll e];have:=holds j u o;rw[cK,alU] at this;exact this
theorem BW {T d E:TypeId}{cs:Array Bool}{n:Nat}{l:List UInt8}(k:P.underlying T=ax (.slice E))(hu:P.underlying d=ax .string)(he:elB P E 1 1=av)(o:P.underlying E=ax (.int .u8))
  (b:(P.info? E).bind (·.zero)=ax (.int .u8 0)) (a:w.ownsRow 0 E 1 v n xs) (e:n+l.length<=140737488355328) :
  ∃v' w',(mB .append #[T,d] U cs #[v,.string ⟨l.toArray⟩]).run P w=.ok (.value v') w'∧Turn (.urow E 1 v n xs) (.urow E 1 v' (n+l.length) (xs++aP l)) w w':=by
 obtain⟨v',w',r,t,_⟩:=DI (P:=P) (U:=U) (cs:=cs) k hu he o b (World.ownsRowF_of a) e;refine⟨v',w',r,t.grew,?_,t.new⟩;obtain⟨i,z,hi,s,f,g,p⟩:=jR he;have h:i.zero=ax (.int .u8 0):=by rw[hi] at b;exact b
 have c:=dM l;have j:n+(⟨l.toArray⟩:ByteArray).size<=maxLen:=by rw[c];simp only[maxLen];omega
 obtain⟨v2,w2,q,m,u,x⟩:=Lib.run_append_own_string (P:=P) w 0 T d U E i k hu hi h f g v n xs a ⟨l.toArray⟩ j (by rw[c];omega) (amN _);rw[wM,c] at m;have:(mB .append #[T,d] U cs #[v,.string ⟨l.toArray⟩]).run P w=.ok (.value v2) w2:=by simp[mB,builtin,q]
 rw[this] at r;cases r;exact m
section
variable {S:Nat->Prop}{P:Program}{w:ao}{PK:PKT}{K:VWP}
theorem UU (i:Nat){T E:TypeId}{cs:Array Bool}{g bytes n:Nat}(d:P.underlying T=ax (.slice E))(he:elB P E sz bytes=av)(a:0 < sz)
  (c:OwnS S w0 w L) (hi:L[i]?=ax (.urow E sz (.slice (ax ⟨g,0,aw⟩) n cap) n xs)) (e:Sl w v2 sz m news) (hm:0 < m) (f:∀u∈news,u.oneCell'=av) (h:(n+m)*bytes<=140737488355328) (b:n+m<=140737488355328)
  (k:∀v' w',(∀j u,xs[j]?=ax u->w'.cell? ⟨g,j,aw⟩=ax u)->OwnS S w0 w' (L.set i (.urow E sz v' (n+m) (xs++news)))->K v' w'):DoX P (mB .append #[T,T] U cs #[.slice (ax ⟨g,0,aw⟩) n cap,v2]) w PK K:=by
 obtain⟨v',w',r,t⟩:=wY (cs:=cs) (U:=U) d he a (c.at_ i hi) e f h b;exact rS r (k _ _ (λj u l=>Ng d he a (c.at_ i hi) e hm f h b r t.is l) (c.turn i hi t))
theorem IF (i:Nat){T c E:TypeId}{cs:Array Bool}{n:Nat}{l:List UInt8}(e:P.underlying T=ax (.slice E))(hu:P.underlying c=ax .string)(he:elB P E 1 1=av)(f:P.underlying E=ax (.int .u8))
  (a:(P.info? E).bind (·.zero)=ax (.int .u8 0)) (d:OwnS S w0 w L) (hi:L[i]?=ax (.urow E 1 v n xs)) (b:n+l.length<=140737488355328)
  (k:∀v' w',OwnS S w0 w' (L.set i (.urow E 1 v' (n+l.length) (xs++aP l)))->K v' w'):DoX P (mB .append #[T,c] U cs #[v,.string ⟨l.toArray⟩]) w PK K:=by
 obtain⟨v',w',r,t⟩:=BW (cs:=cs) (U:=U) e hu he f a (d.at_ i hi) b;exact rS r (k _ _ (d.turn i hi t))
end
end Eng
end
section
open Eng Go.RowKit
def gx (d:Nat):Nat->List UInt8->List UInt8
|0,out=>out
|n+1,out=>gx d n (out++[out.getD (out.length - d) 0])
theorem rn (d:Nat):∀(n:Nat) (out:List UInt8),(gx d n out).length=out.length+n
|0,out=>rfl
|n+1,out=>by rw[gx,rn d n,alI,anO];omega
theorem yx (i:Nat):1<=ej i:=by
 unfold ej
 induction i with
|zero=>decide
|succ i a=>exact aoM a (Nat.le_add_right _ _)
def dp (far:List Nat)(s:List UInt8)(p sign:Nat)(out:List UInt8)(most:Nat):List UInt8×Nat×Int:=
 if 285 < sign then (out,p,13)
 else if 8*s.length < p+ey (sign - 257) then (out,p,4)
 else
  let size:=iw (sign - 257)+Fl.num s p (ey (sign - 257))
  let r:=dk far s (p+ey (sign - 257))
  if r.2.2≠0 then (out,p,r.2.2)
  else if 29 < r.1 then (out,p,13)
  else if 8*s.length < r.2.1+dm r.1 then (out,p,4)
  else
   let d:=ej r.1+Fl.num s r.2.1 (dm r.1)
   if out.length < d then (out,p,14)
   else if most < out.length+size then (out,p,5)
   else (gx d size out,r.2.1+dm r.1,0)
theorem Zu {b:Int}:(mFld 371 (snV a b) 1).run ah W=.ok (.value (.int .i64 b)) W:=krx
theorem adJ {b:Int}:DoX ah (mFld 371 (snV a b) 1) w PK K=K (.int .i64 b) w:=aD Zu
section
variable {w:ao}{PK:PKT}{K:VWP}{S:Nat->Prop}{w0:ao}{L:List Ent}
theorem XR (a:OwnS S w0 w L)(j:Nat){ov:aq}{most:Int}(hi:L[j]?=ax (flE b rb ov most)):DoX ah (aH 53 (.pointer (ax ⟨b,0+1,aw⟩))) w PK K=K ov w:=aJ NH (a.cell j hi 1 rfl)
theorem Og (j:Nat){ov a:aq}{most:Int}(h:a.oneCell'=av)(c:OwnS S w0 w L)(hi:L[j]?=ax (flE b rb ov most))(k:∀w',OwnS S w0 w' (L.set j (flE b rb a most))->K undef w') :
  DoX ah (aN 53 (.pointer (ax ⟨b,0+1,aw⟩)) a) w PK K:=aK j c hi krx h (by show 0+1 < 3;omega) k
theorem elU8:elB ah 5 1 1=true:=krx
theorem U6 (c:UInt8)(a:OwnS S w0 w L)(k:∀b w',OwnS S w0 w' (.cells b (aP [c]) 5::L)->K (.slice (ax ⟨b,0,aw⟩) 1 1) w'):DoX ah (bN 53 1 #[(0,.int .u8 (c.toNat:Int))]) w PK K:=
 bA (λb=>.slice (ax ⟨b,0,aw⟩) 1 1) (aP [c]) 5 (λ_=>by kernel_rfl) a k
abbrev Fs (fb rb:Nat)(s:List UInt8)(most:Nat)(ov:aq)(way:Int)(p:Nat)(out:List UInt8)(R:List Ent):List Ent:=flE fb rb ov (most:Int)::bqE rb s way p::outR ov out::R
theorem Gz {ov:aq}{most:Int}(h:(flE b rb ov most).is W):(aH 53 (.pointer (ax ⟨b,0+1,aw⟩))).run ah W=.ok (.value ov) W:=aB NH (aI (T:=278) (cs:=flC rb ov most) h rfl)
theorem wT {ov:aq}{out:List UInt8}(h:(outR ov out).is W):Sl W ov 1 out.length (aP out):=Sl.urow h
theorem jC {l:List UInt8}(hi:i < l.length):(aP l)[i]?=ax (.int .u8 (l[i].toNat:Int)):=by
 unfold aP;rw[apP,alT hi];rfl
theorem Wn {l:List UInt8}(a:Sl w v 1 l.length (aP l))(hi:i < l.length) :
  ∃b off,(∀W,(mIA 53 v (.int .i64 (i:Int))).run ah W=.ok (.value (.pointer (ax ⟨b,off+i,aw⟩))) W)∧w.cell? ⟨b,off+i,aw⟩=ax (.int .u8 (l[i].toNat:Int)):=by
 obtain⟨b,off,cap,rfl,c⟩:=bX a om;refine⟨b,off,λW=>?_,c i _ (jC hi)⟩;have:=dY (P:=ah) (T:=53) (b:=b) (off:=off) (cap:=cap) (n:=l.length) (k:=.i64) (i:=(i:Int)) (w:=W) amJ (show _=ax 1 by kernel_rfl) om om
 rwa [alQ,amI] at this
theorem nU8l:eD ah 5=true:=krx
theorem eW {l:List UInt8}:∀u∈aP l,u.oneCell'=true:=by
 unfold aP;intro u hu;obtain⟨c,_,rfl⟩:=amM.1 hu;rfl
theorem Wg {ov:aq}{s:List UInt8}{out:List UInt8}{lens:List Nat}{R:List Ent}(jm:Nat)(f:OwnS S w0 w (Fs fb rb s most ov way p out R))(hm:R[jm]?=ax (.mem M))(ht:TbAt M.A M.w tb lens)(hl:lens.length<=1000)(hw:way=0∨way=1)(hp:p<=8*s.length)(Q:s.length<=1000000000)(b2:most<=1000000000)(b3:out.length<=most)(hi:i<=1000)
  (H:(dp lens s p (257+i) out most).2.2=0->(dp lens s p (257+i) out most).2.1<=8*s.length->(dp lens s p (257+i) out most).1.length<=most->∀way' l W,(way'=0∨way'=1)->OwnS S w0 W (Fs fb rb s most l way' (dp lens s p (257+i) out most).2.1 (dp lens s p (257+i) out most).1 R)->K (.tuple #[]) W)
  (y:(dp lens s p (257+i) out most).2.2≠0->∀l way' p' a W,OwnS S w0 W (Fs fb rb s most l way' p' a R)->PK [upI (dp lens s p (257+i) out most).2.2] W) :
  CallX ah 348 #[.pointer (ax ⟨fb,0,aw⟩),.int .i64 ((257+i:Nat):Int),.pointer (ax ⟨tb,0,aw⟩)] w PK K:=by
 generalize g:dp lens s p (257+i) out most=X at H y;refine⟨qV ?_⟩;unfold kP nz;unfold dp at g;simp only[rs];refine iY (λI=>?_) (λI=>?_)
 rotate_left
 ·have:=amR I;rw[alH om] at g;subst g;exact y (by dsimp only;decide) _ _ _ _ _ f
 have I:=alZ I;have u:i<=28:=om
 rw[alG om,aqW] at g;obtain⟨b4,U⟩:=rk u;rw[aA om om,show ((257+i:Nat):Int) - 257=(i:Int) by omega];refine aM f (R:=λv=>v=snV (iw i) (ey i)) (LR i w u) ?_;rintro _ w1 rfl f;rw[adJ];refine oI 0 1 f rfl rfl hw hp om Q (λh2 W f=>?_) (λh2 W f=>?_)
 rotate_left
 ·rw[alH h2] at g;subst g;exact y (by dsimp only;decide) _ _ _ _ _ f
 rw[alG om] at g;dsimp only at g;have x:(if 0 < ey i then (1:Int) else way)=0∨(if 0 < ey i then (1:Int) else way)=1:=by split;exact .inr rfl;exact hw
 have f:OwnS S w0 W (Fs fb rb s most ov (if 0 < ey i then 1 else way) (p+ey i) out R):=f;generalize (if 0 < ey i then (1:Int) else way)=a8 at f x;have C:=Fl.xA s p (ey i);refine aM f (R:=λv=>v=.tuple #[.int .i64 ((iw i+Fl.num s p (ey i):Nat):Int),.int .i64 0]) (Vn i _ W u C) ?_;rintro _ w2 rfl f;simp only[ex];refine tG (λ_=>?_) (λh=>absurd rfl h);have V:iw i+Fl.num s p (ey i)<=100000:=by
  have:2 ^ ey i<=2 ^ 5:=anN dc U;omega
 generalize iw i+Fl.num s p (ey i)=sz at g V
 try rw[bG]
 rw[MA,Vj f 0 rfl];refine Ni 1 (jm+3) om f rfl hm ht hl x om Q λj W3 E D f=>?_;have f:OwnS S w0 W3 (Fs fb rb s most ov j (dk lens s (p+ey i)).2.1 out R):=f;generalize dk lens s (p+ey i)=T at g f D;obtain⟨fi,q,e⟩:=T;dsimp only at g f D;simp only[ex];refine tG (λJ=>?_) (λJ=>?_)
 rotate_left
 ·rw[alH J] at g;subst g;exact y J _ _ _ _ _ f
 rw[alG (by rw[J];decide)] at g;simp only[rs];refine iY (λL=>?_) (λL=>?_)
 rotate_left
 ·have:=amR L;rw[alH om] at g;subst g;exact y (by dsimp only;decide) _ _ _ _ _ f
 have L:=alZ L;have z:fi<=29:=om
 rw[alG om] at g;obtain⟨b5,b6⟩:=rm z;refine aM f (R:=λv=>v=snV (ej fi) (dm fi)) (Qj fi W3 om) ?_;rintro _ w4 rfl f;rw[adJ];refine oI 0 1 f rfl rfl E D om Q (λh5 W f=>?_) (λh5 W f=>?_)
 rotate_left
 ·rw[alH h5] at g;subst g;exact y (by dsimp only;decide) _ _ _ _ _ f
 rw[alG om] at g;have x:(if 0 < dm fi then (1:Int) else j)=0∨(if 0 < dm fi then (1:Int) else j)=1:=by split;exact .inr rfl;exact E
 have f:OwnS S w0 W (Fs fb rb s most ov (if 0 < dm fi then 1 else j) (q+dm fi) out R):=f;generalize (if 0 < dm fi then (1:Int) else j)=o at f x;have C:=Fl.xA s q (dm fi);refine aM f (R:=λv=>v=.tuple #[.int .i64 ((ej fi+Fl.num s q (dm fi):Nat):Int),.int .i64 0]) (VZ fi _ W z C) ?_;rintro _ w6 rfl f;simp only[ex];refine tG (λ_=>?_) (λh=>absurd rfl h);have b7:=yx fi;have Y:1<=ej fi+Fl.num s q (dm fi):=om
 generalize ej fi+Fl.num s q (dm fi)=d at g Y
 try rw[bG]
 rw[aO yN,XR f 0 rfl,bE amJ (wT (f.at_ 2 rfl))];simp only[rs];refine iY (λN=>?_) (λN=>?_)
 rotate_left
 ·have:=amR N;rw[alH om] at g;subst g;exact y (by dsimp only;decide) _ _ _ _ _ f
 have N:=alZ N;rw[alG om] at g;refine UM (n:=sz) 0 2 f rfl rfl om om om (λh7 W f=>?_) (λh7 W f=>?_)
 rotate_left
 ·rw[alH om] at g;subst g;exact y (by dsimp only;decide) _ _ _ _ _ f
 rw[alG om] at g;refine loop (λvs W=>∃(k:Nat) (l:aq) (a:List UInt8),vs=[.int .i64 k]∧k<=sz∧d<=a.length∧a.length+(sz - k)<=most∧gx d (sz - k) a=X.1∧OwnS S w0 W (Fs fb rb s most l o (q+dm fi) a R)) (λvs _=>sz - n0 vs) ⟨0,ov,out,rfl,om,om,om,by rw[<-g];rfl,f⟩ ?_;clear f;rintro vs w7 ⟨k,l,a,rfl,hk,b9,c0,t,f⟩ _;simp only[jD,gd,rs,iN,bnx];by_cases F:(k:Int) < (sz:Int)
 ·simp only[F,alK,i_t];have f:=f.drew;have r:a.length - d < a.length:=om
  obtain⟨O,B,rfl⟩:=mO (f.at_ 2 rfl) om;obtain⟨cb,b0,b1,m,Z⟩:=bX (wT (f.at_ 2 rfl)) om
  injection m with m e2 e3
  injection m with m
  injection m with m e4
  subst m;subst e4;refine⟨λW=>(flE fb rb (.slice (ax ⟨O,0,aw⟩) a.length B) most).is W∧W.cell? ⟨O,a.length - d,aw⟩=ax (.int .u8 (a[a.length - d].toNat:Int)),⟨f.at_ 0 rfl,?_⟩,?_⟩
  ·have:=Z _ _ (jC r)
   rwa [alU] at this
  refine aR _ (λ_=>dL) (aR _ (λ_=>bC yN) (jI _ (λW h=>Gz h.1) ?_));refine aR _ (λ_=>dL) (aR _ (λ_=>bC yN) (jI _ (λW h=>Gz h.1) ?_));refine aR _ (λ_=>dL) (aR _ (λ_=>bC yN) (jI _ (λW h=>Gz h.1) ?_));refine aR (.int .i64 (a.length:Int)) (λW=>by simp[mB,builtin,Builtin.len_,run_underlying amJ,goInt]) ?_;refine aR _ (λW=>cJ (by simp[binOp];rfl)) ?_;rw[aA om om,show (a.length:Int) - (d:Int)=((a.length - d:Nat):Int) by omega];refine aR (.pointer (ax ⟨O,a.length - d,aw⟩)) (λW=>?_) ?_
  ·have:=dY (P:=ah) (T:=53) (b:=O) (off:=0) (cap:=B) (n:=a.length) (k:=.i64) (i:=((a.length - d:Nat):Int)) (w:=W) amJ (show _=ax 1 by kernel_rfl) om om
   rwa [alQ,amI,alU] at this
  refine jI _ (λW h=>aB nU8l h.2) ?_;generalize hc:a[a.length - d]=c;refine U6 c f λb8 w8 f=>?_;refine⟨⟨f.at_ 1 rfl,?_⟩,?_⟩
  ·obtain⟨_,_,_,m,Z⟩:=bX (wT (f.at_ 3 rfl)) om
   injection m with m e2 e3
   injection m with m
   injection m with m e4
   subst m;subst e4;have:=Z _ _ (jC r);rw[alU,hc] at this;exact this
  refine UU 3 amJ elU8 dc f rfl (oD (f.at_ 0 rfl) dc rfl) dc eW om om λv' w9 a1 f=>?_;have a6:v'.oneCell'=true:=cQ (f.at_ 3 rfl);refine⟨⟨f.at_ 1 rfl,?_⟩,?_⟩
  ·have:=a1 _ _ (jC r);rw[hc] at this;exact this
  refine aR _ (λ_=>dL) (aR _ (λ_=>bC yN) ?_);refine Og 1 a6 f rfl λG f=>?_;have f:OwnS S w0 G (.cells b8 (aP [c]) 5::Fs fb rb s most v' o (q+dm fi) (a++[c]) R):=by
   have e:outR v' (a++[c])=.urow 5 1 v' (a.length+1) (aP a++aP [c]):=by
    unfold outR aP;rw[alI,amW];rfl
   show OwnS S w0 G (.cells b8 (aP [c]) 5::flE fb rb v' (most:Int)::bqE rb s o (q+dm fi)::outR v' (a++[c])::R);rw[e];exact f
  rw[aA om om];refine aY ⟨k+1,v',a++[c],rfl,om,by rw[alI];omega,by rw[alI,anO];omega,?_,f.tail⟩ (by simp[n0,RowKit.intOf];omega);rw[<-t,show sz - k=(sz - (k+1))+1 by omega,gx,alO,alT r,<-hc];rfl
 ·simp only[F,alL,i_f];have a7:k=sz:=om
  subst a7;rw[aoH,gx] at t;rw[<-g] at t;rw[<-g] at H;dsimp only at t H;have:=H rfl om (by rw[<-t];omega) o l w7 x (by rw[<-t];exact f);exact this
end
end
section
open Eng Go.RowKit
def bqAt (b:Nat)(w:ao):Nat:=match w.cell? ⟨b,1,aw⟩,w.cell? ⟨b,3,aw⟩ with|some (.int _ u),ax (.int _ a)=>8*a.toNat+u.toNat|_,_=>0
theorem Gg {s:List UInt8}(h:(bqE b s way p).is w):bqAt b w=p:=by
 unfold bqAt;rw[show w.cell? ⟨b,1,aw⟩=ax (.int .i64 ((p % 8:Nat):Int)) from aI (T:=317) (cs:=bqC s way p) h rfl,show w.cell? ⟨b,3,aw⟩=ax (.int .i64 ((p / 8:Nat):Int)) from aI (T:=317) (cs:=bqC s way p) h rfl];show 8*((p / 8:Nat):Int).toNat+((p % 8:Nat):Int).toNat=p;omega
theorem rp (lens:List Nat)(s:List UInt8):∀(f l p code:Nat),(gz lens s f l p code).2.2=0->p < (gz lens s f l p code).2.1
|0,_,_,_,h=>by simp[gz] at h
|f+1,l,p,code,h=>by
  unfold gz at h ⊢;split
  ·rename_i a;rw[alH a] at h;simp at h
  rename_i a;rw[alG a] at h
  split
  ·rename_i b;rw[alH b] at h;simp at h
  rename_i b;rw[alG b] at h
  split
  ·exact Nat.lt_succ_self _
  rename_i c;rw[alG c] at h
  have:=rp lens s f (l+1) (p+1) (2*code+Fl.bit s p) h;omega
theorem mz {lens:List Nat}{s:List UInt8}{p:Nat}(h:(dk lens s p).2.2=0):p < (dk lens s p).2.1:=rp lens s 16 0 p 0 h
theorem rq {far:List Nat}{s:List UInt8}{p sign most:Nat}{out:List UInt8}(h:(dp far s p sign out most).2.2=0):p<=(dp far s p sign out most).2.1:=by
 unfold dp at h ⊢;split
 ·exact alP _
 rename_i b;rw[alG b] at h
 split
 ·exact alP _
 rename_i c;rw[alG c] at h
 dsimp only at h ⊢;split
 ·exact alP _
 rename_i a;rw[alG a] at h
 have:=mz (Decidable.not_not.1 a);split
 ·exact alP _
 rename_i d;rw[alG d] at h
 split
 ·exact alP _
 rename_i e;rw[alG e] at h
 split
 ·exact alP _
 rename_i f;rw[alG f] at h
 split
 ·exact alP _
 dsimp only;omega
def jg (near far:List Nat)(s:List UInt8)(most:Nat):Nat->Nat->List UInt8->List UInt8×Nat×Int
|0,p,out=>(out,p,13)
|f+1,p,out=>
  let r:=dk near s p
  if r.2.2≠0 then (out,p,r.2.2)
  else if r.1 < 256 then if most < out.length+1 then (out,p,5) else jg near far s most f r.2.1 (out++[UInt8.ofNat r.1])
  else if r.1=256 then (out,r.2.1,0)
  else
   let c:=dp far s r.2.1 r.1 out most
   if c.2.2≠0 then (out,p,c.2.2) else jg near far s most f c.2.1 c.1
def fl (near far:List Nat)(s:List UInt8)(most p:Nat)(out:List UInt8):List UInt8×Nat×Int:=jg near far s most (8*s.length+1 - p) p out
theorem ru (lens:List Nat):∀(l i:Nat),i∈bg lens l->i < lens.length
|0,i,h=>by cases h
|l+1,i,h=>by
  rw[bg,amK] at h;rcases h with h|h
  ·exact ru lens l i h
  ·unfold jz at h;have:=(List.mem_filter.1 h).1;exact anJ.1 this
theorem po {lens:List Nat}(s:List UInt8)(a:0 < lens.length):∀(f l p code:Nat),(gz lens s f l p code).1 < lens.length
|0,_,_,_=>by simpa[gz] using a
|f+1,l,p,code=>by
  unfold gz;split
  ·exact a
  split
  ·exact a
  split
  ·dsimp only;rw[alO];rcases h:(bg lens 15)[Fl.bD lens l+(2*code+Fl.bit s p - Fl.first lens (l+1))]? with _|x
   ·exact a
   ·exact ru lens 15 x (aoZ h)
  ·exact po s a f _ _ _
theorem xp {lens:List Nat}(s:List UInt8)(p:Nat):(dk lens s p).1<=lens.length:=by
 rcases anU lens.length with h|h
 ·have:lens=[]:=aqB h;subst this;simp[dk,gz,Fl.bD]
 ·exact Nat.le_of_lt (po s h 16 0 p 0)
theorem cU8 {n:Nat}(h:n < 256):(sE 3 5 (.int .i64 (n:Int))).run ah W=.ok (.value (.int .u8 ((UInt8.ofNat n).toNat:Int))) W:=by
 have:=dU (P:=ah) (S:=3) (D:=5) (k:=.i64) (n:=(n:Int)) (w:=W) krx anQ;rw[this]
 congr 3
section
variable {w:ao}{PK:PKT}{K:VWP}{S:Nat->Prop}{w0:ao}
theorem Sj {O:Nat}{ov:aq}{s:List UInt8}{out:List UInt8}{far:List Nat}{R:List Ent}(jm:Nat)(a:OwnS S w0 w (Fs fb rb s most ov way p out R))(hm:R[jm]?=ax (.mem M))(ht:TbAt M.A M.w tb near)(F:TbAt M.A M.w O far)(hl:near.length<=1000)(G:far.length<=1000)(hw:way=0∨way=1)(hp:p<=8*s.length)(P:s.length<=1000000000)(H:most<=1000000000)(h:out.length<=most)
  (Q:(fl near far s most p out).2.2=0->(fl near far s most p out).2.1<=8*s.length->(fl near far s most p out).1.length<=most->∀way' r W,(way'=0∨way'=1)->OwnS S w0 W (Fs fb rb s most r way' (fl near far s most p out).2.1 (fl near far s most p out).1 R)->K (.tuple #[]) W)
  (E:(fl near far s most p out).2.2≠0->∀r way' p' v W,OwnS S w0 W (Fs fb rb s most r way' p' v R)->PK [upI (fl near far s most p out).2.2] W) :
  CallX ah 337 #[.pointer (ax ⟨fb,0,aw⟩),.pointer (ax ⟨tb,0,aw⟩),.pointer (ax ⟨O,0,aw⟩)] w PK K:=by
 generalize b:fl near far s most p out=X at Q E;refine⟨sJ ?_⟩;unfold mE nz;refine loop (λvs W=>∃(p:Nat) (way:Int) (ov:aq) (out:List UInt8),vs=[]∧(way=0∨way=1)∧p<=8*s.length∧out.length<=most∧(∃f,8*s.length+1 - p<=f∧jg near far s most f p out=X)∧OwnS S w0 W (Fs fb rb s most ov way p out R)) (λ_ w=>8*s.length+1 - bqAt rb w) ⟨p,way,ov,out,rfl,hw,hp,h,⟨_,alP _,b⟩,a⟩ ?_;clear a b hp hw h;rintro vs I ⟨p,way,ov,out,rfl,hw,hp,h,⟨f,hf,b⟩,a⟩ _;have x:bqAt rb I=p:=Gg (a.at_ 1 rfl);unfold jN nz;obtain⟨f,rfl⟩:∃f',f=f'+1:=⟨f - 1,om⟩;rw[jg] at b;dsimp only at b;rw[bG,MA,Vj a 0 rfl];refine Ni 1 (jm+3) om a rfl hm ht hl hw hp P λc W3 t j a=>?_;have a:OwnS S w0 W3 (Fs fb rb s most ov c (dk near s p).2.1 out R):=a;have d:=@mz near s p;have hle:=@xp near s p;generalize dk near s p=T at b a j d hle;obtain⟨g,q,e⟩:=T;dsimp only at b a j d hle;simp only[ex];refine tG (λy=>?_) (λy=>?_)
 rotate_left
 ·rw[alH y] at b;subst b;exact E y _ _ _ _ _ a
 rw[alG (by rw[y];decide)] at b;have d:=d y;simp only[rs];by_cases m:(g:Int) < 256
 ·simp only[m,alK,i_t];rw[alH om] at b;refine UM (n:=1) 0 2 a rfl rfl om om om (λh7 W a=>?_) (λh7 W a=>?_)
  rotate_left
  ·rw[alH om] at b;subst b;exact E (by dsimp only;decide) _ _ _ _ _ a
  rw[alG om] at b
  try rw[bG]
  rw[aO yN,XR a 0 rfl];refine aD (cU8 om) |>.mpr ?_;refine U6 _ a λU w8 a=>?_;refine bR 3 amJ elU8 dc a rfl (oD (a.at_ 0 rfl) dc rfl) eW om om λv' w9 a=>?_;have J:v'.oneCell'=true:=cQ (a.at_ 3 rfl)
  try rw[bG]
  rw[aO yN];refine Og 1 J a rfl λl a=>?_;have a:OwnS S w0 l (.cells U (aP [UInt8.ofNat g]) 5::Fs fb rb s most v' c q (out++[UInt8.ofNat g]) R):=by
   have e:outR v' (out++[UInt8.ofNat g])=.urow 5 1 v' (out.length+1) (aP out++aP [UInt8.ofNat g]):=by
    unfold outR aP;rw[alI,amW];rfl
   show OwnS S w0 l (.cells U (aP [UInt8.ofNat g]) 5::flE fb rb v' (most:Int)::bqE rb s c q::outR v' (out++[UInt8.ofNat g])::R);rw[e];exact a
  have k:bqAt rb l=q:=Gg (a.at_ 2 rfl);refine aY ⟨q,c,v',_,rfl,t,j,by rw[alI,anO];omega,⟨f,om,b⟩,a.tail⟩ (by show 8*s.length+1 - bqAt rb l < 8*s.length+1 - bqAt rb I;rw[x,k];omega)
 simp only[m,alL,i_f];rw[alG om] at b
 try simp only[rs]
 by_cases V:(g:Int)=256
 ·simp only[V,alK,i_t];rw[alH om] at b;subst b;exact Q rfl j h _ _ _ t a
 simp only[V,alL,i_f];rw[alG om] at b;obtain⟨i,rfl⟩:∃i,g=257+i:=⟨g - 257,om⟩;have u:=@rq far s q (257+i) most out;refine Wg jm a hm F G t j P H h om (λz Y B o D L N a=>?_) (λz D o p4 Z L a=>?_)
 rotate_left
 ·rw[alH z] at b;subst b;exact E z _ _ _ _ _ a
 rw[alG (by rw[z];decide)] at b;have u:=u z;generalize dp far s q (257+i) out most=C at b a u Y B;have k:bqAt rb L=C.2.1:=Gg (a.at_ 1 rfl);refine aY ⟨C.2.1,o,D,C.1,rfl,N,Y,B,⟨f,om,b⟩,a⟩ (by show 8*s.length+1 - bqAt rb L < 8*s.length+1 - bqAt rb I;rw[x,k];omega)
end
end
def lu (lens:List Nat):Nat:=(lens.map λl=>if l=0 then 0 else 2 ^ (15 - l)).sum
theorem yy (m:Nat):Fl.gD [] m=0:=by
 induction m with
|zero=>rfl
|succ m a=>simp[Fl.gD,a]
theorem yz (l:Nat)(ls:List Nat)(m:Nat):Fl.gD (l::ls) m=Fl.gD ls m+(if l=0 then 0 else if l<=m then 2 ^ (15 - l) else 0):=by
 induction m with
|zero=>
  simp only[Fl.gD];split;·rfl
  ·rw[alG om]
|succ m b=>
  rw[Fl.gD,b,Fl.gD,List.count_cons];by_cases h:l=m+1
  ·subst h;simp only[beq_self_eq_true,if_true,aoA,aqV];rw[alG om,alG om,alG om,alH (alP _)];omega
  ·have c:(l==m+1)=false:=by simp[h]
   rw[c];simp only[apT,if_false,anF];by_cases a:l=0
   ·simp[a]
   ·rw[alG a,alG a];by_cases hm:l<=m
    ·rw[alH hm,alH om];omega
    ·rw[alG hm,alG om];simp
theorem ry:∀{lens:List Nat},(∀l∈lens,l<=15)->lu lens=Fl.gD lens 15
|[],_=>by rw[yy];rfl
|l::ls,h=>by
  have a:=ry (lens:=ls) λx b=>h x (amG _ b);have c:=h l (amV ..);unfold lu at a ⊢;rw[anE,aqA,a,yz,alH c];omega
theorem rz (lens:List Nat)(l:Nat):∀m,l<=m->∃t,bg lens m=bg lens l++t
|0,h=>by
  obtain rfl:l=0:=om
  exact⟨[],sm⟩
|m+1,h=>by
  rcases amL l (m+1) with a|a
  ·obtain⟨t,b⟩:=rz lens l m om;exact⟨t++jz lens (m+1),by rw[bg,b,alS]⟩
  ·have:l=m+1:=om
   subst this;exact⟨[],sm⟩
theorem za {lens:List Nat}{l k:Nat}(c:l < 15)(a:k < lens.count (l+1)):(bg lens 15).getD (Fl.bD lens l+k) 0=(jz lens (l+1)).getD k 0:=by
 obtain⟨t,b⟩:=rz lens (l+1) 15 om;rw[b,bg,alS,alO,aoB (by rw[my];omega),my,aqW,
  anV (by rw[pj];exact a),alO]
end Go.Proofs.YtlipjfcbjemicaaGreatDoor


namespace Go.Proofs.YtlipjfcbjemicaaGreatDoor
variable{A:Nat->Prop}{C:ao->Prop}{D U:TypeId}{K:VWP}{L:List Eng.Ent}{M:Eng.Mem}{P:Program}{PK:PKT}{R:Ending->FrameMode->ao->Prop}{W w w' w0:ao}{a way:Int}{b cap fb i j m most p rb sz tb:Nat}{c t0 v v' v2:aq}{cb:Array Bool}{cl l near:List Nat}{cs news xs:List aq}{q:Bool}{u:FrameMode}{xo yo:Operand}{α:Type}{t0 t1 t2:aq}{k0:Eng.KT}
section
open Eng Go.RowKit
theorem akD (a b:Nat):((a:Nat):Int).tmod ((b:Nat):Int)=((a % b:Nat):Int):=rfl
end
section
open Eng Go.RowKit
def dy (s:List UInt8)(most p:Nat)(out:List UInt8):List UInt8×Nat×Int:=
 let a:=(p+7) / 8*8
 if 8*s.length < a+16 then (out,p,4)
 else if 8*s.length < a+32 then (out,p,4)
 else if Fl.num s a 16+Fl.num s (a+16) 16≠65535 then (out,p,3)
 else if most < out.length+Fl.num s a 16 then (out,p,5)
 else if 8*s.length < a+32+8*Fl.num s a 16 then (out,p,4)
 else (out++(s.drop (a / 8+4)).take (Fl.num s a 16),a+32+8*Fl.num s a 16,0)
theorem pK {a b:List UInt8}:outR v (a++b)=.urow 5 1 v (a.length+b.length) (aP a++aP b):=by
 unfold outR aP;rw[alI,amW]
theorem PO {ov:aq}{most:Int}(h:(flE b rb ov most).is W):(aH 275 (.pointer (ax ⟨b,0,aw⟩))).run ah W=.ok (.value (.pointer (ax ⟨rb,0,aw⟩))) W:=aB XY (aI (T:=278) (cs:=flC rb ov most) h rfl)
theorem z8U:(Tryz.prog.info? 5).bind (·.zero)=ax (.int .u8 0):=krx
section
variable {w:ao}{PK:PKT}{K:VWP}{S:Nat->Prop}{w0:ao}
theorem WD {ov:aq}{s:List UInt8}{out:List UInt8}{R:List Ent}(b:OwnS S w0 w (Fs fb rb s most ov way p out R))(hw:way=0∨way=1)(hp:p<=8*s.length)(l:s.length<=1000000000)(y:most<=1000000000)(z:out.length<=most)
  (t:(dy s most p out).2.2=0->(dy s most p out).2.1<=8*s.length->(dy s most p out).1.length<=most->∀way' d W,(way'=0∨way'=1)->OwnS S w0 W (Fs fb rb s most d way' (dy s most p out).2.1 (dy s most p out).1 R)->K (.tuple #[]) W)
  (g:(dy s most p out).2.2≠0->∀d way' A i W,OwnS S w0 W (Fs fb rb s most d way' A i R)->PK [upI (dy s most p out).2.2] W) :
  CallX ah 306 #[.pointer (ax ⟨fb,0,aw⟩)] w PK K:=by
 generalize c:dy s most p out=X at t g;refine⟨qX ?_⟩;unfold kR iN ldx bnx fax nlx eqx cx;unfold dy at c;dsimp only at c;rw[bG,MA,Vj b 0 rfl];refine ZA 1 b rfl hp l λB b=>?_;have b:OwnS S w0 B (Fs fb rb s most ov 0 ((p+7) / 8*8) out R):=b;have m:(p+7) / 8*8 % 8=0:=om
 have j:(p+7) / 8*8<=8*s.length:=om
 generalize (p+7) / 8*8=a at c b m j;refine oI (n:=16) 0 1 b rfl rfl (.inl rfl) j om l (λo u b=>?_) (λo u b=>?_)
 rotate_left
 ·rw[alH o] at c;subst c;exact g (by dsimp only;decide) _ _ _ _ _ b
 rw[alG om] at c;have b:OwnS S w0 u (Fs fb rb s most ov 1 (a+16) out R):=b;refine oI (n:=16) 0 1 b rfl rfl (.inr rfl) o om l (λC v b=>?_) (λC v b=>?_)
 rotate_left
 ·rw[alH om] at c;subst c;exact g (by dsimp only;decide) _ _ _ _ _ b
 rw[alG om] at c;have b:OwnS S w0 v (Fs fb rb s most ov 1 (a+16+16) out R):=b;have q:=Fl.xA s a 16;have D:=Fl.xA s (a+16) 16;have E:(2:Nat) ^ 16=65536:=dc
 simp only[rs];rw[aA om om];refine iY (λk=>?_) (λk=>?_)
 rotate_left
 ·have:=amR k;rw[alH om] at c;subst c;exact g (by dsimp only;decide) _ _ _ _ _ b
 have k:=alZ k;rw[alG om] at c;generalize Fl.num s a 16=n at c q k;refine UM (n:=n) 0 2 b rfl rfl om om om (λF G b=>?_) (λF G b=>?_)
 rotate_left
 ·rw[alH om] at c;subst c;exact g (by dsimp only;decide) _ _ _ _ _ b
 rw[alG om] at c;have b:=b.drew;refine⟨λW=>(flE fb rb ov most).is W,b.at_ 0 rfl,?_⟩;refine aR _ (λ_=>dL) (aR _ (λ_=>bC yN) (jI _ (λW h=>Gz h) ?_));refine aR _ (λ_=>dL) (aR _ (λ_=>bC UA) (jI _ (λW h=>PO h) ?_));refine akE (n:=n) 1 b rfl om om om l (λH x b=>?_) (λH x b=>?_)
 rotate_left
 ·rw[alH om] at c;subst c;refine⟨b.at_ 0 rfl,?_⟩;refine Jn (D1 ?_);refine Qh (s:=[]) (λh=>absurd h dc) λ_=>?_
  repeat intro _
  exact g (by dsimp only;decide) _ _ _ _ _ b
 rw[alG om] at c;have b:OwnS S w0 x (Fs fb rb s most ov 1 (a+16+16+8*n) out R):=b;refine⟨b.at_ 0 rfl,?_⟩;refine Jn (D1 ?_);refine Qh (λ_=>?_) λh=>absurd rfl h;refine⟨b.at_ 0 rfl,?_⟩;have e:((s.drop ((a+16+16) / 8)).take n).length=n:=by rw[alR,alW];omega
 refine IF 2 amJ alV elU8 anQ z8U b rfl (by rw[e];omega) λv' I b=>?_;have r:v'.oneCell'=true:=cQ (b.at_ 2 rfl);refine⟨b.at_ 0 rfl,?_⟩;refine aR _ (λ_=>dL) (aR _ (λ_=>bC yN) ?_);refine Og 0 r b rfl λf b=>?_;have b:OwnS S w0 f (Fs fb rb s most v' 1 (a+16+16+8*n) (out++(s.drop ((a+16+16) / 8)).take n) R):=by
  show OwnS S w0 f (flE fb rb v' (most:Int)::bqE rb s 1 (a+16+16+8*n)::outR v' (out++(s.drop ((a+16+16) / 8)).take n)::R);rw[pK];exact b
 rw[show (a+16+16) / 8=a / 8+4 by omega] at b e;subst c;exact t rfl (by dsimp only;omega) (by dsimp only;rw[alI,e];omega) 1 v' f (.inr rfl) b
end
end
section
open Eng Go.RowKit
theorem szI1:(Tryz.prog.info? 3).map (·.size)=ax 1:=krx
theorem tY {l:List α}{n:Nat}{v:α}(h:(l.take n)[j]?=ax v):l[j]?=ax v:=by
 obtain⟨a,b⟩:=alY.1 h;rw[alR] at a;rw[alT om,<-b,arI]
section
variable {w:ao}{PK:PKT}{K:VWP}{S:Nat->Prop}{w0:ao}{L:List Ent}
theorem Se {r k:Nat}{x:aq}(i:Nat)(c:OwnS S w0 w L)(hi:L[i]?=ax (.cells r [x] 3))(G:x.oneCell'=av)(U:k<=1000)
  (H:∀b w',OwnS S w0 w' (.cells b (List.replicate k x) 3::L)->K (.slice (ax ⟨b,0,aw⟩) k k) w') :
  CallX ah 320 #[.slice (ax ⟨r,0,aw⟩) 1 1,.int .i64 (k:Int)] w PK K:=by
 refine⟨oZ ?_⟩;unfold jY nz;refine join λJ I=>?_;rw[afB,alJ om,i_f];refine I _ _ λ_=>?_;unfold iO nz;rw[bE amF (oD (sz:=1) (c.at_ i hi) dc rfl)];refine aD (dU krx arG) |>.mpr (aD (dU krx arG) |>.mpr ?_);rw[show IntKind.u64.wrap ((1:Nat):Int)=((1:Nat):Int) from rfl,show IntKind.u64.wrap (k:Int)=(k:Int) by unfold IntKind.wrap;simp[IntKind.bits,IntKind.signed];omega];refine fG (Tryz.bits_Mul 1 k dc om w) (λe W ⟨he,M⟩=>?_);subst he;subst M;have N:1*k / 18446744073709551616=0:=om
 have O:1*k % 18446744073709551616=k:=om
 rw[N,O];show Cont _ _ _ _;simp only[Cont,ex];refine join λV u=>?_;simp only[rs,show ai ((0:Int) < ((0:Nat):Int))=au from rfl,show ai ((9223372036854775807:Int) < (k:Int))=au from alJ om];refine u _ _ λ_=>?_;unfold iM nz;refine aD (dU krx anG) |>.mpr ?_;rw[show IntKind.i64.wrap (k:Int)=(k:Int) from aA om om];refine wX om c λg Q c=>?_;have y:(.cells g (List.replicate k (.int .i64 0)) 3::L)[i+1]?=ax (.cells r [x] 3):=hi;have z:(List.replicate k (Value.int .i64 0)).length=k:=amY;have l:=HE (P:=ah) (dT:=123) (sT:=123) (ty:=3) (T:=3) (E:=3) (cb:=#[au,au]) (g:=g) (o:=0) (dLen:=k) (dCap:=k) (sz:=1) (a:=⟨r,0,aw⟩) (sLen:=1) (sCap:=1) (w:=Q) (cur:=List.replicate k (Value.int .i64 0)) (src:=[x].take (Nat.min 1 k)) amF szI1 (c.at_ 0 rfl) (by rw[alR,anO];simp) (λj v A=>by
  have d:[x][j]?=ax v:=tY A;rw[cK,alU];exact aI (T:=3) (c.at_ (i+1) y) d) (by rw[alR,anO,z];have s:Nat.min 1 k=min 1 k:=rfl;omega) (by
  intro v t;have:=anT t;rw[amH] at this;rw[this];exact G)
 refine rS l ?_;have c:=gK c 0 rfl ((List.replicate k (Value.int .i64 0)).take 0++[x].take (Nat.min 1 k)++(List.replicate k (Value.int .i64 0)).drop (0+([x].take (Nat.min 1 k)).length));refine loop (λvs W=>∃(n:Nat) (cur:List aq),vs=[.int .i64 n]∧n<=k∧(n=0->k=0)∧cur.length=k∧cur.take n=List.replicate n x∧OwnS S w0 W (.cells g cur 3::L)) (λvs _=>k - n0 vs) ⟨Nat.min 1 k,_,rfl,Nat.min_le_right _ _,?_,?_,?_,c⟩ ?_
 ·intro h;rcases anU k with d|d
  ·exact d
  ·have:Nat.min 1 k=1:=amQ d;omega
 ·rcases anU k with d|d
  ·subst d;rfl
  ·rw[show Nat.min 1 k=1 from amQ d];simp;omega
 ·rcases anU k with d|d
  ·subst d;rfl
  ·rw[show Nat.min 1 k=1 from amQ d];rfl
 clear c l;rintro vs w2 ⟨n,cur,rfl,X,R,p,f,c⟩ _;simp only[iI,gd,bnx,lnx];rw[bE amF (Sl.cells (c.at_ 0 rfl) 1 k k (by rw[p,amI]))];simp only[rs];by_cases q:(n:Int) < (k:Int)
 ·simp only[q,alK,i_t];refine dK (λW=>OwnS S w0 W (.cells g cur 3::L)) c.drew ?_;refine q_do _ (λ_=>dS amF szI1 om om) (q_do _ (λ_=>jM amF szI1 om om) ?_);intro w3 c;rw[alQ,fJ om,show subA (ax ⟨g,0,aw⟩) 0 k 1=ax ⟨g,0,aw⟩ from EZ (a:=⟨g,0,aw⟩),alU,amI];have l:=HE (P:=ah) (dT:=123) (sT:=123) (ty:=3) (T:=3) (E:=3) (cb:=#[au,au]) (g:=g) (o:=n) (dLen:=k - n) (dCap:=k - n) (sz:=1) (a:=⟨g,0,aw⟩) (sLen:=n) (sCap:=k) (w:=w3) (cur:=cur) (src:=cur.take (Nat.min n (k - n))) amF szI1 (c.at_ 0 rfl) (by
    rw[alR,p,amI];have Y:=Nat.min_le_left n (k - n);have s:Nat.min n (k - n)=min n (k - n):=rfl;omega) (λj v A=>by
   have d:cur[j]?=ax v:=tY A;rw[cK,alU];exact aI (T:=3) (c.at_ 0 rfl) d) (by
    rw[alR,p];have s:Nat.min n (k - n)=min n (k - n):=rfl;omega) (by
   intro v t;have B:cur.take (Nat.min n (k - n))=(cur.take n).take (Nat.min n (k - n)):=by
    rw[aqC]
    congr 1
    have s:Nat.min n (k - n)=min n (k - n):=rfl;omega
   rw[B,f] at t;have:=aoV (anT t);rw[this];exact G)
  refine rS l ?_;have c:=gK c 0 rfl (cur.take n++cur.take (Nat.min n (k - n))++cur.drop (n+(cur.take (Nat.min n (k - n))).length));have s:Nat.min n (k - n)=min n (k - n):=rfl;have C:1<=Nat.min n (k - n):=om
  have D:Nat.min n (k - n)<=k - n:=om
  have F:Nat.min n (k - n)<=n:=om
  generalize Nat.min n (k - n)=m at c C D F;rw[show goInt m=.int .i64 (m:Int) from rfl];simp only[rs];rw[aA om om];refine aY ⟨n+m,_,rfl,om,om,?_,?_,c⟩ (by simp[n0,RowKit.intOf];omega)
  ·simp only[alI,alR,alW,p];omega
  ·have B:cur.take m=List.replicate m x:=by
    have:cur.take m=(cur.take n).take m:=by rw[aqC];congr 1;omega
    rw[this,f,List.take_replicate];congr 1;omega
   rw[f,B,asO sm,amP sm,List.replicate_append_replicate]
 ·simp only[q,alL,i_f];have:n=k:=om
  subst this;rw[amP om] at f;subst f;exact H g w2 c
end
end
section
namespace Eng
open Go.RowKit
def intK (k:Int):Value:=.int .i64 k
def QB (w:ao)(b:Nat)(a:List (Int×aq)):Prop:=∃es clock,w.heap[b]?=ax (.map es clock)∧es.toList.map (λe=>(e.key,e.val))=a.map λp=>(intK p.1,p.2)
def tL (a:List (Int×aq))(k:Int):Option Value:=(a.find? λp=>ai (p.1=k)).map (·.2)
theorem GX (k:Int):∀(es:List MapEntry) (a:List (Int×aq)) (i:Nat),es.map (λe=>(e.key,e.val))=a.map (λp=>(intK p.1,p.2)) ->
  ∃r,Instr.findNow (.int .i64) (intK k) es i=ax r∧r.map (·.2)=tL a k
|[],[],i,_=>⟨aw,rfl,rfl⟩
|e::es,p::a,i,h=>by
  simp only[anE,aqJ,apJ] at h;obtain⟨⟨j,l⟩,m⟩:=h;have g:Instr.sameNow (.int .i64) (intK k) e.key=ax (ai (k=p.1)):=by
   rw[j];show ax (k==p.1)=_
   congr 1
  by_cases b:k=p.1
  ·refine⟨ax (i,e.val),?_,?_⟩
   ·rw[Instr.findNow,g];simp[b]
   ·simp[tL,b,l]
  ·obtain⟨r,c,d⟩:=GX k es a (i+1) m;refine⟨r,?_,?_⟩
   ·rw[Instr.findNow,g];simp[b,c]
   ·have f:¬p.1=k:=λe=>b e.symm;rw[d];simp[tL,f]
|[],_::_,_,h=>by simp at h
|_::_,[],_,h=>by simp at h
section
variable {S:Nat->Prop}{P:Program}{w w0:ao}{L:List Ent}{PK:PKT}{K:VWP}
theorem Ep {k:TypeId}{e:Bool}(a:P.underlying k=ax (.int .i64))(x:Int):(Instr.checkKey e 10000 k (intK x)).run P w=.ok () w:=by
 show (Instr.checkKey e (9999+1) k (intK x)).run P w=_;rw[Instr.checkKey];simp[run_underlying a,intK]
theorem M5 {k:TypeId}(b:P.underlying k=ax (.int .i64))(x:Int){es:List MapEntry}{a:List (Int×aq)}(h:es.map (λe=>(e.key,e.val))=a.map (λp=>(intK p.1,p.2))) :
  ∃r,(Instr.findKey k (intK x) es).run P w=.ok r w∧r.map (·.2)=tL a x:=by
 obtain⟨r,c,d⟩:=GX x es a 0 h;refine⟨r,?_,d⟩;simp[Instr.findKey,run_underlying b,c]
theorem U9 {T k e:TypeId}{ok:Bool}{a:List (Int×aq)}{z:aq}(g:P.underlying T=ax (.map k e))(c:P.underlying k=ax (.int .i64))(m:(P.info? e).bind (·.zero)=ax z)(h:QB w b a)(x:Int) :
  (Tv T (.map (ax b)) (intK x) ok).run P w=.ok (.value (if ok then .tuple #[(tL a x).getD z,.bool (tL a x).isSome] else (tL a x).getD z)) w:=by
 obtain⟨es,clock,j,n⟩:=h;obtain⟨r,l,o⟩:=M5 (P:=P) (w:=w) c x n;have d:(zeroValue e).run P w=.ok z w:=by
  obtain⟨i,hi,f⟩:=aqU.1 m;simp[zeroValue,typeInfo,hi,f]
 refine cJ ?_;rw[<-o];cases r with
|none=>simp[Instr.lookup,run_underlying g,getObj,Sem.run,j,Ep c x,l,d]
|some p=>
  obtain⟨i,v⟩:=p;simp[Instr.lookup,run_underlying g,getObj,Sem.run,j,Ep c x,l]
end
section
variable {S:Nat->Prop}{P:Program}{w w0:ao}{L:List Ent}{PK:PKT}{K:VWP}
end
end Eng
end
section
open Eng Go.RowKit
abbrev frT:TypeId:=330
abbrev frA:TypeId:=331
def fxL:List (Nat×Nat):=[(144,8),(112,9),(24,7),(8,8)]
def fxC:List Value:=fxL.flatMap λp=>[.int .i64 (p.1:Int),.int .i64 (p.2:Int)]
def Ix (i:Nat):List Nat:=(fxL.take i).flatMap λp=>List.replicate p.1 p.2
def cr:List Nat:=Ix 4
def db:List Nat:=List.replicate 32 5
theorem Vq (hi:i<=4):(Ix i).length<=288:=by
 rcases (by omega:i=0∨i=1∨i=2∨i=3∨i=4) with rfl|rfl|rfl|rfl|rfl<;>decide +kernel
theorem Ra (hi:i < 4):Ix (i+1)=Ix i++List.replicate (fxL.getD i (0,0)).1 (fxL.getD i (0,0)).2:=by
 rcases (by omega:i=0∨i=1∨i=2∨i=3) with rfl|rfl|rfl|rfl<;>decide +kernel
theorem aeW (hi:i < 4):(fxL.getD i (0,0)).1<=144∧1<=(fxL.getD i (0,0)).1:=by
 rcases (by omega:i=0∨i=1∨i=2∨i=3) with rfl|rfl|rfl|rfl<;>decide
theorem HI (k n:Nat):aV (List.replicate k n)=List.replicate k (.int .i64 (n:Int)):=by simp[aV]
section
variable {w:ao}{PK:PKT}{K:VWP}{S:Nat->Prop}{w0:ao}{L:List Ent}
theorem m_fr {b:Int}:DoX ah (aS frT #[(0,.int .i64 a),(1,.int .i64 b)]) w PK K=K (.agg #[.int .i64 a,.int .i64 b]) w:=aD krx
theorem ahC:DoX ah (aS frA #[(0,.agg #[.int .i64 144,.int .i64 8]),(1,.agg #[.int .i64 112,.int .i64 9]),(2,.agg #[.int .i64 24,.int .i64 7]),(3,.agg #[.int .i64 8,.int .i64 8])]) w PK K=K (.agg fxC.toArray) w:=aD krx
theorem afY (hi:i < 4):(mIx frA (.agg fxC.toArray) (.int .i64 (i:Int))).run ah w=.ok (.value (.agg #[.int .i64 ((fxL.getD i (0,0)).1:Int),.int .i64 ((fxL.getD i (0,0)).2:Int)])) w:=by
 rcases (by omega:i=0∨i=1∨i=2∨i=3) with rfl|rfl|rfl|rfl<;>kernel_rfl
def frC (a b:Int):List Value:=[.int .i64 a,.int .i64 b]
theorem Nk {b:Int}:∀u∈frC a b,u.oneCell'=true:=by
 intro u hu;simp only[frC,alN,anA,or_false] at hu;rcases hu with rfl|rfl<;>rfl
theorem afF:fOff ah frT 0=ax 0:=krx
theorem afC:fOff ah frT 1=ax 1:=krx
theorem szFr:(Tryz.prog.info? frT).map (·.size)=ax 2:=krx
theorem IY (M:Mem)(w:ao)(j:M.has w):RetM ah 294 #[] M w (λv N=>∃a b,v=.tuple #[a,b]∧SlA N.A N.w a 1 cr.length (aV cr)∧SlA N.A N.w b 1 db.length (aV db)):=by
 refine bB j λK l=>C9 ?_;unfold yV nz;have c:OwnS M.A w w [.mem M]:=OwnS.memS j;rw[m_fr,m_fr,m_fr,m_fr,ahC];have c:OwnS M.A w w [.urow 3 1 nilS 0 [],.mem M]:=OwnS.nilU (L:=[.mem M]) c _ _;refine loop (λvs W=>∃(i:Nat) (ov:aq),vs=[ov,.int .i64 (i:Int)]∧i<=4∧OwnS M.A w W [.urow 3 1 ov (Ix i).length (aV (Ix i)),.mem M]) (λvs _=>4 - n1 vs) ⟨0,nilS,rfl,om,c⟩ ?_;clear c;rintro vs s ⟨i,ov,rfl,hi,c⟩ _;simp only[sZ,gd,rs,nz];by_cases g:(i:Int) < 4
 ·simp only[g,alK,i_t];have d:i < 4:=om
  have m:=Vq (Nat.le_of_lt d);have hle:=aeW d;have f:=Ra d;refine aD (afY d) |>.mpr ?_;generalize fxL.getD i (0,0)=e at hle f;obtain⟨k,n⟩:=e;dsimp only at hle f ⊢;refine bA (λb=>.pointer (ax ⟨b,0,aw⟩)) (frC 0 0) frT (λ_=>by kernel_rfl) c λb w2 c=>?_;refine gY 0 c rfl (new:=frC k n) szFr Nk rfl λw3 c=>?_;rw[aO afC,aJ aU (c.cell 0 rfl 1 rfl)];refine tV (n:Int) c λb2 o c=>?_;rw[aO afF,aJ aU (c.cell 1 rfl 0 rfl)];refine Se 0 c rfl rfl om λb3 p c=>?_;refine oK 3 c rfl (Sl.cells (c.at_ 0 rfl) 1 k k (by rw[amY,amI])) (λu hu=>by rw[aoV hu];rfl) om λv' t c=>?_
  try simp only[rs]
  rw[aA om om];refine aY ⟨i+1,v',rfl,om,?_⟩ (by simp[n1,RowKit.intOf];omega);rw[f,mK,HI,alI,amY];exact c.tail.tail.tail
 ·simp only[g,alL,i_f];have:i=4:=om
  subst this;refine tV 5 c λb2 o c=>?_;refine Se (k:=32) 0 c rfl rfl om λb3 p c=>?_;have c:=c.sub (L':=[.cells b3 (List.replicate 32 (.int .i64 5)) 3,.urow 3 1 ov (Ix 4).length (aV (Ix 4)),.mem M]) (.cons_cons _ (.cons _ (aqP _)));have c:=OwnS.toU (b:=b3) c 1 32 32 (by rw[amY]) om om;obtain⟨N1,g1,h,c⟩:=OwnS.bJ (L:=[.urow 3 1 ov (Ix 4).length (aV (Ix 4)),.mem M]) c 1 rfl;obtain⟨q,g2,r,c⟩:=OwnS.bJ (L:=[.mem N1]) c 0 rfl;refine l _ _ q _ 0 c rfl (g1.trans g2) ⟨_,_,rfl,r,?_⟩;have h:=h.le g2;rw[show db.length=32 from rfl,show aV db=List.replicate 32 (.int .i64 5) from HI 32 5];exact h
end
def dn (g:Nat):Nat:=if g=18 then 11 else 3
def cm (g:Nat):Nat:=if g=16 then 2 else if g=17 then 3 else 7
def jh (cl:List Nat)(s:List UInt8)(n:Nat):Nat->Nat->List Nat->List Nat×Nat×Int
|0,p,l=>(l,p,13)
|f+1,p,l=>
  if n<=l.length then (l,p,0)
  else
   let r:=dk cl s p
   if r.2.2≠0 then (l,p,r.2.2)
   else if r.1 < 16 then jh cl s n f r.2.1 (l++[r.1])
   else if r.1=16∧l.length=0 then (l,p,3)
   else if 8*s.length < r.2.1+cm r.1 then (l,p,4)
   else if n < l.length+(dn r.1+Fl.num s r.2.1 (cm r.1)) then (l,p,3)
   else jh cl s n f (r.2.1+cm r.1) (l++List.replicate (dn r.1+Fl.num s r.2.1 (cm r.1)) (if r.1=16 then l.getD (l.length - 1) 0 else 0))
def Fl.lens (cl:List Nat)(s:List UInt8)(n p:Nat):List Nat×Nat×Int:=jh cl s n (n+1) p []
def rpM:List (Int×aq):=[(16,.agg #[.int .i64 3,.int .i64 2]),(17,.agg #[.int .i64 3,.int .i64 3]),(18,.agg #[.int .i64 11,.int .i64 7])]
def Rp (M:Mem):Prop:=∃a,M.A 3∧M.w.cell? ⟨3,0,aw⟩=ax (.map (ax a))∧M.A a∧∃b,(∀k:Int,tL b k=tL rpM k)∧QB M.w a b
theorem Mem.cell {M:Mem}{w:ao}(h:M.has w){b j:Nat}{v:aq}(a:M.A b)(c:M.w.cell? ⟨b,j,aw⟩=ax v):w.cell? ⟨b,j,aw⟩=ax v:=(Ll (h b a)).trans c
theorem Rp.le {M N:Mem}(h:M.le N)(k:Rp M):Rp N:=by
 obtain⟨b,c,e,d,f,a,es,cl,g,i⟩:=k;exact⟨b,h.A _ c,Mem.cell h.has c e,h.A _ d,f,a,es,cl,(h.has b d).trans g,i⟩
theorem ahJ {g:Nat}(h:g < 16):tL rpM (g:Int)=none:=by
 simp[tL,rpM];omega
theorem ajI {g:Nat}(h:16<=g)(a:g < 19):tL rpM (g:Int)=ax (.agg #[.int .i64 (dn g:Int),.int .i64 (cm g:Int)]):=by
 rcases (by omega:g=16∨g=17∨g=18) with rfl|rfl|rfl<;>rfl
theorem mpRp:Tryz.prog.underlying 365=ax (.map 3 363):=underlying365
theorem zRp:(Tryz.prog.info? 363).bind (·.zero)=ax (.agg #[.int .i64 0,.int .i64 0]):=krx
theorem afV:eD ah 365=true:=krx
theorem agX:fOff ah 363 0=ax 0:=krx
theorem afJ:fOff ah 363 1=ax 1:=krx
theorem szRp:(Tryz.prog.info? 363).map (·.size)=ax 2:=krx
theorem zb (g:Nat):cm g<=7:=by
 unfold cm;split
 ·omega
 ·split<;>omega
theorem zd (g:Nat):3<=dn g∧dn g<=11:=by unfold dn;split<;>omega
def lenV:aq->Nat|.slice _ n _=>n|_=>0
def aiJ (vs:List aq):Nat:=lenV (vs.getD 0 undef)
theorem NU {n:Nat}(h:Sl w v sz n cs):lenV v=n:=by
 obtain⟨_,a,cap,rfl,_⟩:=h;rfl
section
variable {w:ao}{PK:PKT}{K:VWP}{S:Nat->Prop}{w0:ao}{L:List Ent}
theorem Xf {n:Nat}(f:n<=1000000)(a:OwnS S w0 w L)(k:∀v w',OwnS S w0 w' (.urow 3 1 v 0 []::L)->K v w') :
  DoX ah (Hg 123 (.int .i64 0) (.int .i64 (n:Int))) w PK K:=by
 obtain⟨i,hi,c,d,e⟩:=Pd;refine bA (λb=>.slice (ax ⟨b,0,aw⟩) 0 n) (List.replicate n (.int .i64 0)) 3 (λW=>?_) a λb w' a=>k _ _ ?_
 ·have:=Go.run_make (P:=ah) W 123 3 i (Value.int .i64 0) amF hi c .i64 .i64 (0:Int) (n:Int) om om (by rw[e];omega) om;rw[d,alQ,Pq] at this;exact cJ this
 ·have:=OwnS.toU (b:=b) a 1 0 n (by rw[amY,amI]) om om;exact this
theorem Y9 {a:Nat}{b:List (Int×aq)}(c:∀k:Int,tL b k=tL rpM k)(d:M.has w)(e:M.A a)(h:QB M.w a b)(g:Nat):(Tv 365 (.map (ax a)) (.int .i64 (g:Int)) av).run ah w=.ok (.value (.tuple #[(tL rpM (g:Int)).getD (.agg #[.int .i64 0,.int .i64 0]),.bool (tL rpM (g:Int)).isSome])) w:=by
 have hw:QB w a b:=by
  obtain⟨es,cl,f,i⟩:=h;exact⟨es,cl,(d a e).trans f,i⟩
 rw[<-c];exact U9 (ok:=av) mpRp anG zRp hw (g:Int)
theorem SJ {n:Nat}{ov:aq}{s:List UInt8}{out:List UInt8}{R:List Ent}(jm:Nat)(a:OwnS S w0 w (Fs fb rb s most ov way p out R))(hm:R[jm]?=ax (.mem M))(ht:TbAt M.A M.w tb cl)(hl:cl.length=19)(N:Rp M)(hw:way=0∨way=1)(hp:p<=8*s.length)(hs:s.length<=1000000000)(hn:n<=1000)
  (k1:(Fl.lens cl s n p).2.2=0->(Fl.lens cl s n p).2.1<=8*s.length->(Fl.lens cl s n p).1.length=n->(∀x∈(Fl.lens cl s n p).1,x<=15)->∀way' i W,(way'=0∨way'=1)->OwnS S w0 W (.urow 3 1 i (Fl.lens cl s n p).1.length (aV (Fl.lens cl s n p).1)::Fs fb rb s most ov way' (Fl.lens cl s n p).2.1 out R)->K i W)
  (E:(Fl.lens cl s n p).2.2≠0->∀way' p' W,OwnS S w0 W (Fs fb rb s most ov way' p' out R)->PK [upI (Fl.lens cl s n p).2.2] W) :
  CallX ah 339 #[.pointer (ax ⟨fb,0,aw⟩),.pointer (ax ⟨tb,0,aw⟩),.int .i64 (n:Int)] w PK K:=by
 generalize c:Fl.lens cl s n p=X at k1 E;unfold Fl.lens at c;refine⟨pE ?_⟩;unfold jS nz;refine Xf om a λi w1 a=>?_;refine loop (λvs W=>∃(p:Nat) (way:Int) (l:List Nat) (i:aq),vs=[i]∧(way=0∨way=1)∧p<=8*s.length∧l.length<=n∧(∀x∈l,x<=15)∧(∃f,n+1 - l.length<=f∧jh cl s n f p l=X)∧OwnS S w0 W (.urow 3 1 i l.length (aV l)::Fs fb rb s most ov way p out R)) (λvs _=>n - aiJ vs) ⟨p,way,[],i,rfl,hw,hp,amN _,(λx o=>by cases o),⟨_,alP _,c⟩,a⟩ ?_;clear a c hp hw;rintro vs w1 ⟨p,way,l,i,rfl,hw,hp,a8,j,⟨f,hf,c⟩,a⟩ _;have b0:lenV i=l.length:=NU (a.slU 0 rfl);simp only[iR,gd,nz];obtain⟨f,rfl⟩:∃f',f=f'+1:=⟨f - 1,om⟩;rw[jh] at c;dsimp only at c;rw[bE amF (a.slU 0 rfl)]
 try simp only[rs]
 by_cases F:(l.length:Int) < (n:Int)
 case neg=>
  simp only[F,alL,i_f];rw[alH om] at c;subst c;exact k1 rfl hp (by dsimp only;omega) j _ _ _ hw a
 simp only[F,alK,i_t];rw[alG om] at c
 try rw[bG]
 rw[MA,Vj a 1 rfl];refine Ni 2 (jm+4) om a rfl hm ht om hw hp hs λd W3 v r a=>?_;have a:OwnS S w0 W3 (.urow 3 1 i l.length (aV l)::Fs fb rb s most ov d (dk cl s p).2.1 out R):=a;have m:(dk cl s p).1 < cl.length:=po s om 16 0 p 0;rw[hl] at m;generalize dk cl s p=T at c a r m;obtain⟨g,q,e⟩:=T;dsimp only at c a r m;simp only[ex];refine tG (λJ=>?_) (λJ=>?_)
 rotate_left
 ·rw[alH J] at c;subst c;exact E J _ _ _ a.tail
 rw[alG (by rw[J];decide)] at c;obtain⟨mb,O,P,Q,al,U,V⟩:=N;have hM:=a.hasM (jm+4) hm;rw[aJ afV (Mem.cell hM O P)];refine aD (Y9 U hM Q V g) |>.mpr ?_;simp only[ex];refine bA (λb=>.pointer (ax ⟨b,0,aw⟩)) (frC 0 0) 363 (λ_=>by kernel_rfl) a λy w4 a=>?_;by_cases z:g < 16
 ·rw[alH z] at c;rw[ahJ z];simp only[Option.getD_none,apU];refine gY 0 a rfl (new:=frC 0 0) szRp Nk rfl λw5 a=>?_;simp only[rs,nn_f];refine tV (g:Int) a λb2 w6 a=>?_;refine oK 2 a rfl (a.sl 0 rfl 1 1 1 rfl) rX om λv' w7 a=>?_;have G:lenV v'=l.length+1:=NU (a.slU 2 rfl);refine aY ⟨q,d,l++[g],v',rfl,v,r,by rw[alI,anO];omega,?_,⟨f,by rw[alI,anO];omega,c⟩,?_⟩ (by show n - lenV v' < n - lenV i;omega)
  ·intro x o;rcases amK.1 o with o|o
   ·exact j x o
   ·rw[amH.1 o];omega
  ·rw[mK,alI];exact a.tail.tail
 rw[alG z] at c;rw[ajI om m];simp only[apA,aqD];refine gY 0 a rfl (new:=frC (dn g) (cm g)) szRp Nk rfl λw5 a=>?_;simp only[rs,nn_t];have hB:=zb g;have hL:=zd g;refine join λJ2 Y=>?_;have rest:∀(W:ao) (D:Nat),(D=if g=16 then l.getD (l.length - 1) 0 else 0)->D<=15->¬(g=16∧l.length=0)->OwnS S w0 W (.cells y (frC (dn g) (cm g)) 363::.urow 3 1 i l.length (aV l)::Fs fb rb s most ov d q out R)->J2 [.int .i64 (D:Int)] W:=by
  intro W D Z B a1 a;rw[alG a1,<-Z] at c;refine Y _ _ λ_=>?_;simp only[iP,gd,iN,dx,bnx,lnx,apx,cx];have a:=a.drew;refine⟨λW=>(Ent.cells y (frC (dn g) (cm g)) 363).is W,a.at_ 0 rfl,?_⟩;refine aR _ (λ_=>bC agX) (jI _ (λW h=>aB aU (aI (T:=363) h rfl)) ?_);refine aR _ (λ_=>bC afJ) (jI _ (λW h=>aB aU (aI (T:=363) h rfl)) ?_);refine oI (n:=cm g) 2 3 a rfl rfl v r om hs (λh5 W5 a=>?_) (λh5 W5 a=>?_)
  rotate_left
  ·rw[alH h5] at c;subst c
   repeat intro _
   exact E (by dsimp only;decide) _ _ _ a.tail.tail
  rw[alG om] at c;have H:(if 0 < cm g then (1:Int) else d)=0∨(if 0 < cm g then (1:Int) else d)=1:=by split;exact .inr rfl;exact v
  have a:OwnS S w0 W5 (.cells y (frC (dn g) (cm g)) 363::.urow 3 1 i l.length (aV l)::Fs fb rb s most ov (if 0 < cm g then 1 else d) (q+cm g) out R):=a;generalize (if 0 < cm g then (1:Int) else d)=I at a H;have b1:=Fl.xA s q (cm g);have b4:2 ^ cm g<=2 ^ 7:=anN dc hB;have a7:(2:Nat) ^ 7=128:=dc
  refine⟨a.at_ 0 rfl,?_⟩;refine aR _ (λ_=>Ia) ?_;rw[aA om om,show (dn g:Int)+(Fl.num s q (cm g):Int)=((dn g+Fl.num s q (cm g):Nat):Int) by omega];generalize hk:dn g+Fl.num s q (cm g)=k at c;rw[bE amF (a.slU 1 rfl)]
  try simp only[rs]
  rw[aA om om];refine iY (λt=>?_) (λt=>?_)
  rotate_left
  ·have:=amR t;rw[alH om] at c;subst c;exact E (by dsimp only;decide) _ _ _ a.tail.tail
  have t:=alZ t;rw[alG om] at c;refine tV (D:Int) a λb2 w6 a=>?_;refine Se 0 a rfl rfl om λb3 w7 a=>?_;refine oK 3 a rfl (Sl.cells (a.at_ 0 rfl) 1 k k (by rw[amY,amI])) (λu hu=>by rw[aoV hu];rfl) om λv' w8 a=>?_;have G:lenV v'=l.length+k:=NU (a.slU 3 rfl);refine aY ⟨q+cm g,I,l++List.replicate k D,v',rfl,H,h5,by rw[alI,amY];omega,?_,⟨f,by rw[alI,amY];omega,c⟩,?_⟩ (by show n - lenV v' < n - lenV i;omega)
  ·intro x o;rcases amK.1 o with o|o
   ·exact j x o
   ·rw[aoV o];exact B
  ·rw[mK,HI,alI,amY];exact a.tail.tail.tail
 by_cases L:g=16
 case neg=>
  simp only[show ai ((g:Int)=16)=au from alJ om,i_f];exact rest _ 0 (by rw[alG L]) om (λh=>L h.1) a
 simp only[show ai ((g:Int)=16)=av from alM om,i_t];rw[bE amF (a.slU 1 rfl)]
 try simp only[rs]
 refine iY (λt=>?_) (λt=>?_)
 rotate_left
 ·have:=amR t;rw[alH ⟨L,om⟩] at c;subst c;exact E (by dsimp only;decide) _ _ _ a.tail.tail
 have t:=alZ t;rw[bE amF (a.slU 1 rfl)]
 try simp only[rs]
 rw[aA om om,show (l.length:Int) - 1=((l.length - 1:Nat):Int) by omega];have C:l.length - 1 < l.length:=om
 obtain⟨b2,off,r1,r2⟩:=mY (a.slU 1 rfl) C;refine aD (r1 w5) |>.mpr (aD (aB aU r2) |>.mpr ?_);have a6:l.getD (l.length - 1) 0=l[l.length - 1]:=by rw[alO,alT C];rfl
 exact rest _ _ (by rw[alH L,a6]) (j _ (alX C)) (λh=>by omega) a
end
end
section
open Eng Go.RowKit
theorem TbAt.le {M N:Mem}(h:M.le N){b:Nat}{lens:List Nat}(k:TbAt M.A M.w b lens):TbAt N.A N.w b lens:=by
 obtain⟨a,c,o,d,e,f⟩:=k;exact⟨a,c,o,h.A b d,(tbE b a c (cnt lens) (fstW lens) o).keep e (λk g=>by cases g;exact h.has b d),f.le h⟩
theorem xq:∀l∈cr,l<=15:=by
 intro l a;have h:cr.all (λl=>ai (l<=15))=true:=by decide +kernel
 exact alZ (aoF.1 h l a)
theorem zf:∀l∈db,l<=15:=by
 intro l a;rw[aoV a];decide
theorem pq:cr.length=288:=by decide +kernel
theorem mh:db.length=32:=by decide +kernel
theorem nc:bh cr=0:=by decide +kernel
theorem nd:bh db=0:=by decide +kernel
def cd:List Nat:=[16,17,18,0,8,7,9,6,10,5,11,4,12,3,13,2,14,1,15]
theorem zh (h:i < 19):cd.getD i 0 < 19:=by
 have a:(List.range 19).all (λi=>ai (cd.getD i 0 < 19))=true:=by decide +kernel
 exact alZ (aoF.1 a i (anJ.2 h))
def Od (M:Mem):Prop:=M.A 2∧∀i,i < 19->M.w.cell? ⟨2,i,aw⟩=ax (.int .i64 ((cd.getD i 0:Nat):Int))
theorem Od.le {M N:Mem}(h:M.le N)(k:Od M):Od N:=⟨h.A _ k.1,λi hi=>Mem.cell h.has k.1 (k.2 i hi)⟩
theorem lt19 (h:i < 19):i=0∨i=1∨i=2∨i=3∨i=4∨i=5∨i=6∨i=7∨i=8∨i=9∨i=10∨i=11∨i=12∨i=13∨i=14∨i=15∨i=16∨i=17∨i=18:=om
def fo (s:List UInt8)(p:Nat):Nat->List Nat
|0=>List.replicate 19 0
|i+1=>(fo s p i).set (cd.getD i 0) (Fl.num s (p+3*i) 3)
theorem mi (s:List UInt8)(p:Nat):∀i,(fo s p i).length=19
|0=>rfl
|i+1=>by rw[fo,anZ,mi s p i]
theorem sd (s:List UInt8)(p:Nat):∀i,∀x∈fo s p i,x<=7
|0,x,h=>by rw[aoV h];decide
|i+1,x,h=>by
  rcases arP h with h|h
  ·exact sd s p i x h
  ·have:=Fl.xA s (p+3*i) 3;rw[h];omega
def gi (s:List UInt8)(most p:Nat)(out:List UInt8):List UInt8×Nat×Int:=
 if 8*s.length < p+5 then (out,p,4)
 else if 29 < Fl.num s p 5 then (out,p,3)
 else if 8*s.length < p+10 then (out,p,4)
 else if 29 < Fl.num s (p+5) 5 then (out,p,3)
 else if 8*s.length < p+14 then (out,p,4)
 else if 8*s.length < p+14+3*(Fl.num s (p+10) 4+4) then (out,p,4)
 else
  let cl:=fo s (p+14) (Fl.num s (p+10) 4+4)
  if bh cl≠0 then (out,p,bh cl)
  else
   let r:=Fl.lens cl s (Fl.num s p 5+257+(Fl.num s (p+5) 5+1)) (p+14+3*(Fl.num s (p+10) 4+4))
   if r.2.2≠0 then (out,p,r.2.2)
   else if r.1.getD 256 0=0 then (out,p,13)
   else if bh (r.1.take (Fl.num s p 5+257))≠0 then (out,p,bh (r.1.take (Fl.num s p 5+257)))
   else if bh (r.1.drop (Fl.num s p 5+257))≠0 then (out,p,bh (r.1.drop (Fl.num s p 5+257)))
   else fl (r.1.take (Fl.num s p 5+257)) (r.1.drop (Fl.num s p 5+257)) s most r.2.1 out
def dd (s:List UInt8)(most p:Nat)(out:List UInt8):List UInt8×Nat×Int:=
 if 8*s.length < p+2 then (out,p,4)
 else if Fl.num s p 2=0 then dy s most (p+2) out
 else if Fl.num s p 2=1 then fl cr db s most (p+2) out
 else if Fl.num s p 2=2 then gi s most (p+2) out
 else (out,p,3)
theorem SlA.SB {a:Option Addr}{n:Nat}(h:SlA A w (.slice a n cap) sz n cs)(hi:i<=n)(d:0 < i->0 < n):SlA A w (.slice (subA a 0 cap sz) i cap) sz i (cs.take (i*sz)):=by
 obtain⟨f,g,j⟩:=h;have r:=j _ _ _ rfl;refine⟨Sl.upto f hi,λp l c e k=>?_,λa l c e=>?_⟩
 ·injection e with b _ _
  obtain⟨q,m,o⟩:=Hv b;have:=g q n cap (by rw[m]) (d k)
  rwa [<-o]
 ·injection e with b s t
  omega
section
variable {w:ao}{PK:PKT}{K:VWP}{S:Nat->Prop}{w0:ao}{L:List Ent}
abbrev arT:TypeId:=308
theorem Vx :(eG arT (.pointer (ax ⟨b,0,aw⟩)) aw aw aw).run ah W=.ok (.value (.slice (ax ⟨b,0,aw⟩) 19 19)) W:=krx
theorem Z5 {h:Nat}(c:h<=19):(eG arT (.pointer (ax ⟨b,0,aw⟩)) aw (ax (.int .i64 (h:Int))) aw).run ah W=.ok (.value (.slice (ax ⟨b,0,aw⟩) h 19)) W:=by
 rcases (by omega:h=19∨h < 19) with rfl|a
 ·kernel_rfl
 ·rcases lt19 a with rfl|rfl|rfl|rfl|rfl|rfl|rfl|rfl|rfl|rfl|rfl|rfl|rfl|rfl|rfl|rfl|rfl|rfl|rfl<;>kernel_rfl
theorem Xi (hi:i < 19):(mIA arT (.pointer (ax ⟨b,0,aw⟩)) (.int .i64 (i:Int))).run ah W=.ok (.value (.pointer (ax ⟨b,i,aw⟩))) W:=by
 rcases lt19 hi with rfl|rfl|rfl|rfl|rfl|rfl|rfl|rfl|rfl|rfl|rfl|rfl|rfl|rfl|rfl|rfl|rfl|rfl|rfl<;>kernel_rfl
theorem aaY {ov:aq}{s:List UInt8}{out:List UInt8}{T:List Ent}(c:OwnS S w0 w (Fs fb rb s most ov way p out (.mem M::T)))(hw:way=0∨way=1)(hp:p<=8*s.length)(t:s.length<=1000000000)(g:most<=1000000000)(i:out.length<=most)
  (u:(fl cr db s most p out).2.2=0->(fl cr db s most p out).2.1<=8*s.length->(fl cr db s most p out).1.length<=most->∀N way' d W,M.le N->(way'=0∨way'=1)->OwnS S w0 W (Fs fb rb s most d way' (fl cr db s most p out).2.1 (fl cr db s most p out).1 (.mem N::T))->K (.tuple #[]) W)
  (x:(fl cr db s most p out).2.2≠0->∀N d way' j e W,M.le N->OwnS S w0 W (Fs fb rb s most d way' j e (.mem N::T))->PK [upI (fl cr db s most p out).2.2] W) :
  CallX ah 307 #[.pointer (ax ⟨fb,0,aw⟩)] w PK K:=by
 refine⟨rO ?_⟩;unfold lP nz;refine bH c 3 rfl (IY M w (c.hasM 3 rfl)) ?_;rintro _ N1 q g1 ⟨a,b,rfl,y,z⟩ c;have c:OwnS S w0 q (Fs fb rb s most ov way p out (.mem N1::T)):=c;simp only[ex];refine bH c 3 rfl (BN cr a N1 q xq (by rw[pq];omega) (by rw[pq];omega) (c.hasM 3 rfl) y) ?_;intro v r w2 g2 f c;rw[alG (by rw[nc];decide)] at f;obtain⟨tb,rfl,k⟩:=f;have c:OwnS S w0 w2 (Fs fb rb s most ov way p out (.mem r::T)):=c;simp only[ex];refine qI (λ_=>?_) (λh=>absurd rfl h);refine bH c 3 rfl (BN db b r w2 zf (by rw[mh];omega) (by rw[mh];omega) (c.hasM 3 rfl) (z.le g2)) ?_;intro v l w3 g3 f c;rw[alG (by rw[nd];decide)] at f;obtain⟨C,rfl,m⟩:=f;have c:OwnS S w0 w3 (Fs fb rb s most ov way p out (.mem l::T)):=c;simp only[ex];refine qI (λ_=>?_) (λh=>absurd rfl h);have hle:=g1.trans (g2.trans g3);exact Sj 0 c rfl (k.le g3) m (by rw[pq];omega) (by rw[mh];omega) hw hp t g i (λn A B way' d W o c=>u n A B l way' d W hle o c) (λn d way' j e W c=>x n l d way' j e W hle c)
theorem TW (l:List Nat)(i n:Nat):aV (l.set i n)=(aV l).set i (.int .i64 (n:Int)):=by simp[aV,arQ]
theorem TF {ov:aq}{s:List UInt8}{out:List UInt8}{T:List Ent}(d:OwnS S w0 w (Fs fb rb s most ov way p out (.mem M::T)))(b2:Rp M)(Y:Od M)(hw:way=0∨way=1)(hp:p<=8*s.length)(U:s.length<=1000000000)(b3:most<=1000000000)(b4:out.length<=most)
  (k1:(gi s most p out).2.2=0->(gi s most p out).2.1<=8*s.length->(gi s most p out).1.length<=most->∀N way' u W,M.le N->(way'=0∨way'=1)->OwnS S w0 W (Fs fb rb s most u way' (gi s most p out).2.1 (gi s most p out).1 (.mem N::T))->K (.tuple #[]) W)
  (z:(gi s most p out).2.2≠0->∀N u way' p' C W,M.le N->OwnS S w0 W (Fs fb rb s most u way' p' C (.mem N::T))->PK [upI (gi s most p out).2.2] W) :
  CallX ah 308 #[.pointer (ax ⟨fb,0,aw⟩)] w PK K:=by
 generalize f:gi s most p out=X at k1 z;unfold gi at f;dsimp only at f;refine⟨pA ?_⟩;unfold jV nz;have h5:(2:Nat) ^ 5=32:=dc
 have h4:(2:Nat) ^ 4=16:=dc
 refine oI (n:=5) 0 1 d rfl rfl hw hp om U (λD W1 d=>?_) (λD W1 d=>?_)
 rotate_left
 ·rw[alH D] at f;subst f;exact z (by dsimp only;decide) M _ _ _ _ _ M.le_refl d
 rw[alG om] at f;have d:OwnS S w0 W1 (Fs fb rb s most ov 1 (p+5) out (.mem M::T)):=d;have n1:=Fl.xA s p 5;generalize Fl.num s p 5=g at f n1
 try simp only[rs]
 rw[aA om om];refine iY (λE=>?_) (λE=>?_)
 rotate_left
 ·have:=amR E;rw[alH om] at f;subst f;exact z (by dsimp only;decide) M _ _ _ _ _ M.le_refl d
 have E:=alZ E;rw[alG om] at f;refine oI (n:=5) 0 1 d rfl rfl (.inr rfl) D om U (λO W2 d=>?_) (λO W2 d=>?_)
 rotate_left
 ·rw[alH om] at f;subst f;exact z (by dsimp only;decide) M _ _ _ _ _ M.le_refl d
 rw[alG om] at f;have d:OwnS S w0 W2 (Fs fb rb s most ov 1 (p+5+5) out (.mem M::T)):=d;have n2:=Fl.xA s (p+5) 5;generalize Fl.num s (p+5) 5=hd at f n2
 try simp only[rs]
 rw[aA om om];refine iY (λF=>?_) (λF=>?_)
 rotate_left
 ·have:=amR F;rw[alH om] at f;subst f;exact z (by dsimp only;decide) M _ _ _ _ _ M.le_refl d
 have F:=alZ F;rw[alG om] at f;refine bA (λb=>.pointer (ax ⟨b,0,aw⟩)) (aV (List.replicate 19 0)) arT (λ_=>by kernel_rfl) d λZ W3 d=>?_;refine oI (n:=4) 1 2 d rfl rfl (.inr rfl) O om U (λV W4 d=>?_) (λV W4 d=>?_)
 rotate_left
 ·rw[alH om] at f;subst f;exact z (by dsimp only;decide) M _ _ _ _ _ M.le_refl d.tail
 rw[alG om] at f;have d:OwnS S w0 W4 (.cells Z (aV (List.replicate 19 0)) arT::Fs fb rb s most ov 1 (p+14) out (.mem M::T)):=d;have n3:=Fl.xA s (p+10) 4;rw[show Fl.num s (p+5+5) 4=Fl.num s (p+10) 4 from rfl];generalize Fl.num s (p+10) 4=o at f n3
 try simp only[rs]
 rw[aA om om,show (o:Int)+4=((o+4:Nat):Int) by omega];refine aD (Z5 om) |>.mpr ?_;have hlen:∀W:ao,DoX ah (mB .len #[123] 3 #[au] #[.slice (ax ⟨2,0,aw⟩) (o+4) 19]) W (Eng.pk λ_ _=>True) (λv _=>v=.int .i64 ((o+4:Nat):Int)):=λW=>by
  refine rS (v:=.int .i64 ((o+4:Nat):Int)) (w':=W) ?_ rfl;simp[mB,builtin,Builtin.len_,run_underlying amF,goInt]
 clear hlen;refine rS (v:=.int .i64 ((o+4:Nat):Int)) (w':=W4) (by simp[mB,builtin,Builtin.len_,run_underlying amF,goInt]) ?_;have b5:aV (List.replicate 19 0)=aV (fo s (p+14) 0):=rfl;rw[b5] at d;refine loop (λvs W=>∃i:Nat,vs=[.int .i64 (i:Int)]∧i<=o+4∧p+14+3*i<=8*s.length∧OwnS S w0 W (.cells Z (aV (fo s (p+14) i)) arT::Fs fb rb s most ov 1 (p+14+3*i) out (.mem M::T))) (λvs _=>o+4 - n0 vs) ⟨0,rfl,om,om,d⟩ ?_;clear d;rintro vs w5 ⟨i,rfl,hi,a1,d⟩ _;simp only[iQ,gd,rs,iN,ldx,bnx,iax,exx,stx,slx,cx];by_cases a6:(i:Int) < ((o+4:Nat):Int)
 ·simp only[a6,alK,i_t];have H:i < 19:=om
  have a7:=dY (P:=ah) (T:=123) (b:=2) (off:=0) (cap:=19) (n:=o+4) (k:=.i64) (i:=(i:Int)) (w:=w5) amF szI1 om om;rw[alQ,amI,alU] at a7;refine aD a7 |>.mpr ?_;rw[aJ aU (Mem.cell (d.hasM 4 rfl) Y.1 (Y.2 i H))];refine oI (n:=3) 1 2 d rfl rfl (.inr rfl) a1 om U (λe6 W6 d=>?_) (λe6 W6 d=>?_)
  rotate_left
  ·rw[alH om] at f;subst f;exact z (by dsimp only;decide) M _ _ _ _ _ M.le_refl d.tail
  have d:OwnS S w0 W6 (.cells Z (aV (fo s (p+14) i)) arT::Fs fb rb s most ov 1 (p+14+3*i+3) out (.mem M::T)):=d;have I:=zh H;refine aD (Xi I) |>.mpr ?_;refine aK 0 d rfl krx rfl (by rw[eP,mi];exact I) λw7 d=>?_
  try simp only[rs]
  rw[aA om om];refine aY ⟨i+1,rfl,om,om,?_⟩ (by simp[n0,RowKit.intOf];omega);rw[fo,TW];exact d
 simp only[a6,alL,i_f];have b7:i=o+4:=om
 subst b7;rw[alG om] at f;have G:=mi s (p+14) (o+4);have a8:=sd s (p+14) (o+4);generalize fo s (p+14) (o+4)=cl at f G a8 d;refine aD Vx |>.mpr ?_;have b8:=d.at_ 0 rfl;obtain⟨N1,g1,b9,b0,d⟩:=OwnS.freeze (L:=Fs fb rb s most ov 1 (p+14+3*(o+4)) out (.mem M::T)) d 3 rfl;have d:OwnS S w0 w5 (Fs fb rb s most ov 1 (p+14+3*(o+4)) out (.mem N1::T)):=d;have c0:SlA N1.A N1.w (.slice (ax ⟨Z,0,aw⟩) 19 19) 1 cl.length (aV cl):=by
  rw[b9,G];refine⟨Sl.cells b8 1 19 19 (by rw[eP,G]),λq l c e _=>?_,λa l c e=>?_⟩
  ·injection e with D E O
   cases D;exact b0 Z rfl
  ·injection e with D E O
   omega
 refine bH d 3 rfl (BN cl _ N1 w5 (λl h=>by have:=a8 l h;omega) om om (d.hasM 3 rfl) c0) ?_;intro v N2 w6 g2 y d;have d:OwnS S w0 w6 (Fs fb rb s most ov 1 (p+14+3*(o+4)) out (.mem N2::T)):=d;by_cases B:bh cl=0
 case neg=>
  rw[alH B] at y;subst y;rw[alH B] at f;subst f;simp only[ex];refine qI (λh=>absurd h B) (λ_=>?_);exact z B N2 _ _ _ _ _ (g1.trans g2) d
 rw[alG (by simp[B])] at y;obtain⟨tb,rfl,c1⟩:=y;rw[alG (by simp[B])] at f;simp only[ex];refine qI (λ_=>?_) (λh=>absurd rfl h)
 try simp only[rs]
 rw[aA om om,show (g:Int)+257+((hd:Int)+1)=((g+257+(hd+1):Nat):Int) by omega];have g12:=g1.trans g2;refine SJ 0 d rfl c1 G (b2.le g12) (.inr rfl) a1 U om (λD E O F way' lv W Q d=>?_) (λD way' p' W d=>?_)
 rotate_left
 ·rw[alH D] at f;subst f;exact z D N2 _ _ _ _ _ g12 d
 rw[alG (by rw[D];decide)] at f;generalize Fl.lens cl s (g+257+(hd+1)) (p+14+3*(o+4))=r at f E O F d;obtain⟨l,q,e⟩:=r;dsimp only at f E O F d;obtain⟨R,g3,t,d⟩:=OwnS.bJ (L:=Fs fb rb s most ov way' q out (.mem N2::T)) d 3 rfl;have d:OwnS S w0 W (Fs fb rb s most ov way' q out (.mem R::T)):=d;have g13:=g12.trans g3;have J:256 < l.length:=om
 obtain⟨b6,off,r1,r2⟩:=mY (t.now (d.hasM 3 rfl)) J;refine aD (r1 W) |>.mpr (aD (aB aU r2) |>.mpr ?_);have b1:l.getD 256 0=l[256]:=by rw[alO,alT J];rfl
 try simp only[rs]
 refine iY (λV=>?_) (λV=>?_)
 rotate_left
 ·have:=amR V;rw[alH (by rw[b1];omega)] at f;subst f;exact z (by dsimp only;decide) R _ _ _ _ _ g13 d
 have V:=alZ V;rw[alG (by rw[b1];omega)] at f;obtain⟨la,lc,c2,c5⟩:=t.form;rw[c2] at t ⊢;have d:=d.drew;refine⟨λ_=>True,trivial,?_⟩;refine aR _ (λ_=>jM amF szI1 om om) (aR _ (λ_=>dS amF szI1 om om) ?_);have hA:SlA R.A R.w (.slice (subA la 0 lc 1) (g+257) lc) 1 (l.take (g+257)).length (aV (l.take (g+257))):=by
  have:=t.SB (i:=g+257) om om;rw[alR,amQ om];rw[amI] at this;have e:aV (l.take (g+257))=(aV l).take (g+257):=by unfold aV;rw[arR]
  rw[e];exact this
 have hB:SlA R.A R.w (.slice (subA la (g+257) lc 1) (l.length - (g+257)) (lc - (g+257))) 1 (l.drop (g+257)).length (aV (l.drop (g+257))):=by
  have:=t.Yi (i:=g+257) om;rw[alW];rw[amI] at this;have e:aV (l.drop (g+257))=(aV l).drop (g+257):=by unfold aV;rw[List.map_drop]
  rw[e];exact this
 rw[show ((g:Int)+257).toNat=g+257 by omega];have t15:∀x∈l.take (g+257),x<=15:=λx hx=>F x (anT hx);have d15:∀x∈l.drop (g+257),x<=15:=λx hx=>F x (apI hx);have tl:(l.take (g+257)).length=g+257:=by rw[alR];omega
 have dl:(l.drop (g+257)).length=hd+1:=by rw[alW];omega
 generalize l.take (g+257)=near at f hA t15 tl;generalize l.drop (g+257)=far at f hB d15 dl;refine bH d 3 rfl (BN near _ R _ t15 om om (d.hasM 3 rfl) hA) ?_;intro v N4 w8 g4 y d;have d:OwnS S w0 w8 (Fs fb rb s most ov way' q out (.mem N4::T)):=d;have g14:=g13.trans g4;refine⟨trivial,?_⟩;by_cases j:bh near=0
 case neg=>
  rw[alH j] at y;subst y;rw[alH j] at f;subst f;refine Jn (D1 ?_);refine qI (λh=>absurd h j) (λ_=>?_)
  repeat intro _
  exact z j N4 _ _ _ _ _ g14 d
 rw[alG (by simp[j])] at y;obtain⟨tn,rfl,c3⟩:=y;rw[alG (by simp[j])] at f;refine Jn (D1 ?_);refine qI (λ_=>?_) (λh=>absurd rfl h);refine⟨trivial,?_⟩;refine bH d 3 rfl (BN far _ N4 _ d15 om om (d.hasM 3 rfl) (hB.le g4)) ?_;intro v N5 w9 g5 y d;have d:OwnS S w0 w9 (Fs fb rb s most ov way' q out (.mem N5::T)):=d;have g15:=g14.trans g5;refine⟨trivial,?_⟩;by_cases m:bh far=0
 case neg=>
  rw[alH m] at y;subst y;rw[alH m] at f;subst f;refine Jn (D1 ?_);refine qI (λh=>absurd h m) (λ_=>?_)
  repeat intro _
  exact z m N5 _ _ _ _ _ g15 d
 rw[alG (by simp[m])] at y;obtain⟨tf,rfl,c4⟩:=y;rw[alG (by simp[m])] at f;refine Jn (D1 ?_);refine qI (λ_=>?_) (λh=>absurd rfl h);refine⟨trivial,?_⟩;refine Sj 0 d rfl (c3.le g5) c4 om om Q E U b3 b4 (λh1 h2 h3 way' u W Q d=>?_) (λh1 u way' p' C W d=>?_)
 ·refine⟨trivial,?_⟩;rw[f] at h1 h2 h3 d;exact k1 h1 h2 h3 N5 way' u W g15 Q d
 ·rw[f] at h1 ⊢
  repeat intro _
  exact z h1 N5 u way' p' C W g15 d
theorem ZJ {ov:aq}{s:List UInt8}{out:List UInt8}{T:List Ent}(b:OwnS S w0 w (Fs fb rb s most ov way p out (.mem M::T)))(y:Rp M)(z:Od M)(hw:way=0∨way=1)(hp:p<=8*s.length)(o:s.length<=1000000000)(k:most<=1000000000)(l:out.length<=most)
  (k0:8*s.length < p+1->∀N a way' m c W,M.le N->OwnS S w0 W (Fs fb rb s most a way' m c (.mem N::T))->PK [upI 4] W)
  (x:p+1<=8*s.length->(dd s most (p+1) out).2.2=0->(dd s most (p+1) out).2.1<=8*s.length->(dd s most (p+1) out).1.length<=most->∀N way' a W,M.le N->(way'=0∨way'=1)->OwnS S w0 W (Fs fb rb s most a way' (dd s most (p+1) out).2.1 (dd s most (p+1) out).1 (.mem N::T))->K (.bool (ai (Fl.num s p 1=1))) W)
  (j:p+1<=8*s.length->(dd s most (p+1) out).2.2≠0->∀N a way' m c W,M.le N->OwnS S w0 W (Fs fb rb s most a way' m c (.mem N::T))->PK [upI (dd s most (p+1) out).2.2] W) :
  CallX ah 274 #[.pointer (ax ⟨fb,0,aw⟩)] w PK K:=by
 refine⟨rR ?_⟩;unfold mD nz;refine oI (n:=1) 0 1 b rfl rfl hw hp om o (λq A b=>?_) (λq A b=>?_)
 rotate_left
 ·exact k0 q M _ _ _ _ _ M.le_refl b
 have b:OwnS S w0 A (Fs fb rb s most ov 1 (p+1) out (.mem M::T)):=b;have x:=x q;have j:=j q;generalize e:dd s most (p+1) out=X at x j;unfold dd at e
 try simp only[rs]
 rw[show ai ((Fl.num s p 1:Int)=1)=ai (Fl.num s p 1=1) by congr 1;exact propext om];refine join λJ C=>?_;have fin:∀N way' a W,M.le N->(way'=0∨way'=1)->X.2.2=0->X.2.1<=8*s.length->X.1.length<=most->OwnS S w0 W (Fs fb rb s most a way' X.2.1 X.1 (.mem N::T))->J [] W:=by
  intro N way' a W hle f d g i b;refine C _ _ λ_=>?_;simp only[jX,nz];exact x d g i N way' a W hle f b
 refine oI (n:=2) 0 1 b rfl rfl (.inr rfl) q om o (λr B b=>?_) (λr B b=>?_)
 rotate_left
 ·rw[alH r] at e;subst e;exact j (by dsimp only;decide) M _ _ _ _ _ M.le_refl b
 rw[alG om] at e;have b:OwnS S w0 B (Fs fb rb s most ov 1 (p+1+2) out (.mem M::T)):=b
 try simp only[rs]
 by_cases t:Fl.num s (p+1) 2=0
 ·simp only[show ai ((Fl.num s (p+1) 2:Int)=0)=av from alM om,i_t];rw[alH t] at e;refine WD b (.inr rfl) r o k l (λd g i way' a W f b=>?_) (λd a way' m c W b=>?_)
  ·rw[e] at d g i b;exact fin M way' a W M.le_refl f d g i b
  ·rw[e] at d ⊢;exact j d M _ _ _ _ _ M.le_refl b
 simp only[show ai ((Fl.num s (p+1) 2:Int)=0)=au from alJ om,i_f];rw[alG t] at e
 try simp only[rs]
 by_cases u:Fl.num s (p+1) 2=1
 ·simp only[show ai ((Fl.num s (p+1) 2:Int)=1)=av from alM om,i_t];rw[alH u] at e;refine aaY b (.inr rfl) r o k l (λd g i N way' a W hle f b=>?_) (λd N a way' m c W hle b=>?_)
  ·rw[e] at d g i b;exact fin N way' a W hle f d g i b
  ·rw[e] at d ⊢;exact j d N _ _ _ _ _ hle b
 simp only[show ai ((Fl.num s (p+1) 2:Int)=1)=au from alJ om,i_f];rw[alG u] at e
 try simp only[rs]
 by_cases v:Fl.num s (p+1) 2=2
 ·simp only[show ai ((Fl.num s (p+1) 2:Int)=2)=av from alM om,i_t];rw[alH v] at e;refine TF b y z (.inr rfl) r o k l (λd g i N way' a W hle f b=>?_) (λd N a way' m c W hle b=>?_)
  ·rw[e] at d g i b;exact fin N way' a W hle f d g i b
  ·rw[e] at d ⊢;exact j d N _ _ _ _ _ hle b
 simp only[show ai ((Fl.num s (p+1) 2:Int)=2)=au from alJ om,i_f];rw[alG v] at e;subst e;exact iY (λh=>absurd h dc) λ_=>j (by dsimp only;decide) M _ _ _ _ _ M.le_refl b
end
end
section
open Eng
def bO (a:Deferred)(b:aq)(c:aq)(d:aq)(K:Ending->ao->Prop):=pd ah [.cell b 9,.cell c 3,.cell d 30] K [a]
def wN(a b c d d1 w)(p:JT)(K:KT):=
 CallX ah 274 #[d] w (bO d1 a b c K) λe w=>DoX ah (mUn .not e) w (bO d1 a b c K) λf w=>IfX f (AtX [d1] [d1] (p [] w)) (QuietX w (λo=>QDo ah o (mNil d) λg=>QDo ah o (mFA 278 g 1) λh=>QDo ah o (aH 53 h) λi=>QDo ah o (sE 53 9 i) λj=>QDo ah o (mNil d) λk=>QDo ah o (mFA 278 k 0) λl=>QDo ah o (aH 275 l) λm=>QCall ah o 275 #[m] λn=>
 ∀w,o w ->
 DoX ah (aN 9 a j) w (bO d1 a b c K) λ_ w=>DoX ah (aN 3 b n) w (bO d1 a b c K) λ_ w=>DoX ah (aN 30 c (iN 0)) w (bO d1 a b c K) λ_ w=>Bp ah [.cell a 9,.cell b 3,.cell c 30] K [d1] .returning w))
def Dw(e d w)(K:KT):=
 alx 9 w K λa w=>alx 3 w K λb w=>alx 30 w K λc w=>dx (NJ (.func 271) #[] #[a,b,c]) w K λf w=>DfrX (dfrV f #[]) (λd1=>DoX ah (mBin .geq 3 d (iN 0)) w (bO d1 a b c K) λg w=>CallX ah 272 #[g,(iN 1)] w (bO d1 a b c K) λl w=>CallX ah 273 #[e] w (bO d1 a b c K) λh w=>DoX ah (mB .min #[3,3] 3 #[au,av] #[d,(iN 1048576)]) w (bO d1 a b c K) λi w=>DoX ah (aS 278 #[(0,h),(2,i)]) w (bO d1 a b c K) λj w=>DoX ah (mBox 278 j) w (bO d1 a b c K) λk w=>LoopX [] w (λm w n=>∀_:Sg,wN a b c k d1 w n K))
theorem FL:Dw t0 t1 w k0->Calls ah 239 #[t0,t1] w k0:=cz [] [(4,[])] func239
end
section
open Eng
def dO(w)(K:KT):=
 K (.returned (.tuple #[])) w
def kD(d a b r w)(K:KT):=
 eqx .eql 20 (.tmp 6) (.const .nilIface) r .nilIface w K λg w=>IfX g (K (.returned (.tuple #[])) w) (dx (mTA r 20 273 av) w K λf w=>exx f 1 w K λh w=>exx f 0 w K λi w=>IfX h (alx 273 w K λc w=>stx 273 c i w K λ_ w=>DrawX w (λw=>(fax 273 c 0 w K λe w=>(ldx 30 e w K λj w=>stx 9 d (.string ⟨#[]⟩) w K λ_ w=>stx 3 a (iN 0) w K λ_ w=>stx 30 b j w K λ_ w=>dO w K)∧(stx 9 d (.string ⟨#[]⟩) w K λ_ w=>(ldx 30 e w K λl w=>stx 3 a (iN 0) w K λ_ w=>stx 30 b l w K λ_ w=>dO w K)∧(stx 3 a (iN 0) w K λ_ w=>ldx 30 e w K λm w=>stx 30 b m w K λ_ w=>dO w K)))∧(stx 9 d (.string ⟨#[]⟩) w K λ_ w=>(fax 273 c 0 w K λk w=>(ldx 30 k w K λn w=>stx 3 a (iN 0) w K λ_ w=>stx 30 b n w K λ_ w=>dO w K)∧(stx 3 a (iN 0) w K λ_ w=>ldx 30 k w K λo w=>stx 30 b o w K λ_ w=>dO w K))∧(stx 3 a (iN 0) w K λ_ w=>fax 273 c 0 w K λp w=>ldx 30 p w K λq w=>stx 30 b q w K λ_ w=>dO w K)))) (dx (Ev r) w K λ_ w=>K (.returned (.tuple #[])) w))
theorem Dh (t0 t1 t2 r:aq)(w:ao)(K:Ending->ao->Prop):wpX ah 14 [] [] aw (Xy (A5 f271)) (topD ah [] K) (upd (kI [t0,t1,t2]) 6 r) [] w=kD t0 t1 t2 r w K:=krx
theorem oN {t1 t2:aq}(h:kD t0 t1 t2 (recV u) w (λe w=>R e (recM u) w)):CallsD ah 271 #[t0,t1,t2] u w R:=
 Aq func271 rfl rfl rfl rfl rfl rfl rfl rfl (Eq.mpr (Dh t0 t1 t2 (recV u) w _) h)
end
section
open Eng Go.RowKit
theorem nf (near far:List Nat)(s:List UInt8)(most:Nat):∀(f p:Nat) (out:List UInt8),(jg near far s most f p out).2.2=0->p<=(jg near far s most f p out).2.1
|0,_,_,h=>by simp[jg] at h
|f+1,p,out,h=>by
  unfold jg at h ⊢;dsimp only at h ⊢;split
  ·exact alP _
  rename_i c;rw[alG c] at h
  have:=mz (Decidable.not_not.1 c);split
  ·rename_i a;rw[alH a] at h
   split
   ·exact alP _
   rename_i b;rw[alG b] at h
   have:=nf near far s most f _ _ h;omega
  rename_i a;rw[alG a] at h
  split
  ·dsimp only;omega
  rename_i b;rw[alG b] at h
  split
  ·exact alP _
  rename_i d;rw[alG d] at h
  have e:=rq (Decidable.not_not.1 d);have:=nf near far s most f _ _ h;omega
theorem pr (cl:List Nat)(s:List UInt8)(n:Nat):∀(f p:Nat) (l:List Nat),(jh cl s n f p l).2.2=0->p<=(jh cl s n f p l).2.1
|0,_,_,h=>by simp[jh] at h
|f+1,p,l,h=>by
  unfold jh at h ⊢;dsimp only at h ⊢;split
  ·exact alP _
  rename_i c;rw[alG c] at h
  split
  ·exact alP _
  rename_i b;rw[alG b] at h
  have:=mz (Decidable.not_not.1 b);split
  ·rename_i a;rw[alH a] at h
   have:=pr cl s n f _ _ h;omega
  rename_i a;rw[alG a] at h
  split
  ·exact alP _
  rename_i d;rw[alG d] at h
  split
  ·exact alP _
  rename_i e;rw[alG e] at h
  split
  ·exact alP _
  rename_i g;rw[alG g] at h
  have:=pr cl s n f _ _ h;omega
theorem zi {s:List UInt8}{out:List UInt8}(h:(dy s most p out).2.2=0):p<=(dy s most p out).2.1:=by
 unfold dy at h ⊢;dsimp only at h ⊢
 repeat' split
 all_goals first|exact alP _|(dsimp only;omega)
theorem zj {s:List UInt8}{out:List UInt8}(h:(gi s most p out).2.2=0):p<=(gi s most p out).2.1:=by
 unfold gi at h ⊢;by_cases g:8*s.length < p+5
 ·rw[alH g];exact alP _
 rw[alG g] at h ⊢;by_cases i:29 < Fl.num s p 5
 ·rw[alH i];exact alP _
 rw[alG i] at h ⊢;by_cases j:8*s.length < p+10
 ·rw[alH j];exact alP _
 rw[alG j] at h ⊢;by_cases k:29 < Fl.num s (p+5) 5
 ·rw[alH k];exact alP _
 rw[alG k] at h ⊢;by_cases m:8*s.length < p+14
 ·rw[alH m];exact alP _
 rw[alG m] at h ⊢;by_cases o:8*s.length < p+14+3*(Fl.num s (p+10) 4+4)
 ·rw[alH o];exact alP _
 rw[alG o] at h ⊢;have w:p<=p+14+3*(Fl.num s (p+10) 4+4):=om
 generalize p+14+3*(Fl.num s (p+10) 4+4)=q at h w ⊢;generalize fo s (p+14) (Fl.num s (p+10) 4+4)=cl at h ⊢;generalize Fl.num s p 5+257=b at h ⊢;generalize b+(Fl.num s (p+5) 5+1)=n at h ⊢;have a:(Fl.lens cl s n q).2.2=0->q<=(Fl.lens cl s n q).2.1:=pr cl s n _ _ _;dsimp only at h ⊢;generalize Fl.lens cl s n q=r at h a ⊢;obtain⟨l,t,e⟩:=r;dsimp only at h a ⊢;by_cases u:bh cl≠0
 ·rw[alH u];exact alP _
 rw[alG u] at h ⊢;by_cases f:e≠0
 ·rw[alH f];exact alP _
 rw[alG f] at h ⊢;by_cases v:l.getD 256 0=0
 ·rw[alH v];exact alP _
 rw[alG v] at h ⊢;by_cases c:bh (l.take b)≠0
 ·rw[alH c];exact alP _
 rw[alG c] at h ⊢;by_cases d:bh (l.drop b)≠0
 ·rw[alH d];exact alP _
 rw[alG d] at h ⊢;have x:t<=(fl (l.take b) (l.drop b) s most t out).2.1:=nf _ _ _ _ _ _ _ h;have:=a (Decidable.not_not.1 f);omega
theorem zl {s:List UInt8}{most p:Nat}{out:List UInt8}(h:(dd s most p out).2.2=0):p<=(dd s most p out).2.1:=by
 unfold dd at h ⊢;split
 ·exact alP _
 rename_i c;rw[alG c] at h
 split
 ·rename_i a;rw[alH a] at h
  have:=zi h;omega
 rename_i a;rw[alG a] at h
 split
 ·rename_i b;rw[alH b] at h
  have:=nf _ _ _ _ _ _ _ h;unfold fl;omega
 rename_i b;rw[alG b] at h
 split
 ·rename_i d;rw[alH d] at h
  have:=zj h;omega
 exact alP _
namespace Eng
section
variable {P:Program}{w:ao}
theorem Mn {S E:TypeId}{l:List UInt8}(j:P.underlying S=ax (.slice E))(he:P.underlying E=ax (.int .u8))(k:P.underlying D=ax .string)(h:Sl w v 1 l.length (aP l)):(sE S D v).run P w=.ok (.value (.string ⟨l.toArray⟩)) w:=by
 obtain⟨q,a,cap,rfl,n,o⟩:=h;cases a with
|none=>
  have g:=n rfl;have:l=[]:=aqB g;subst this;exact cJ (run_convert_bytes_nil w S E j he _ _ D k)
|some p=>
  obtain⟨f,d⟩:=o p rfl;by_cases g:l=[]
  ·subst g;refine cJ ?_;have m:(loadCells p 0).run P w=.ok (([]:List Int).map (Value.int .u8)).toArray w:=rfl;rw[show ([]:List UInt8).length=0 from rfl,run_convert_bytes_string w S D E _ 0 cap j he k,run_bytesToString w p 0 cap [] m];rfl
  replace f:=f (aqH.2 g)
  obtain⟨b,off,spot⟩:=p;simp only at f d;subst f;have:=run_convert_bytes_arg (P:=P) w S E j he b off l.length cap (l.map λc=>(c.toNat:Int)) sm (λi hi=>by
   refine d i _ ?_;simp[aP,alT hi]) D k
  refine cJ ?_;rw[this];have e:strOfNums (l.map λc=>(c.toNat:Int))=⟨l.toArray⟩:=by
   unfold strOfNums;rw[arF]
   congr 2
   conv=>rhs;rw[<-List.map_id l]
   refine aqS λc _=>?_;simp
  rw[e]
end
end Eng
def jn (s:List UInt8)(most:Nat):Nat->Nat->List UInt8->List UInt8×Nat×Int
|0,_,_=>([],0,13)
|f+1,p,out=>
  if 8*s.length < p+1 then ([],0,4)
  else
   let r:=dd s most (p+1) out
   if r.2.2≠0 then ([],0,r.2.2)
   else if Fl.num s p 1=1 then (r.1,(r.2.1+7) / 8,0)
   else jn s most f r.2.1 r.1
def jq (s:List UInt8)(most:Int):List UInt8×Nat×Int:=if most < 0 then ([],0,1) else jn s (min most.toNat 1048576) (8*s.length+1) 0 []
def flT (x:List UInt8×Nat×Int):Value:=.tuple #[.string ⟨x.1.toArray⟩,.int .i64 (x.2.1:Int),.int .i64 x.2.2]
abbrev NG (b:Nat)(l:List UInt8):Ent:=.cells b [.string ⟨l.toArray⟩] 9
abbrev MZ (b:Nat)(n:Int):Ent:=.cells b [.int .i64 n] 3
abbrev Nh (b:Nat)(e:Int):Ent:=.cells b [.int .i64 e] 30
theorem I5:cO ah 271=true:=krx
theorem nfUp:lM ah 273=true:=krx
theorem akN:fOff ah 273 0=ax 0:=krx
theorem szUp:(Tryz.prog.info? 273).map (·.size)=ax 1:=krx
section
variable {w:ao}{PK:PKT}{K:VWP}{S:Nat->Prop}{w0:ao}{L:List Ent}
theorem Sv (s:List UInt8)(a:OwnS S w0 w L)(k:∀b w',OwnS S w0 w' (bqE b s 0 0::L)->K (.pointer (ax ⟨b,0,aw⟩)) w'):CallX ah 273 #[.string ⟨s.toArray⟩] w PK K:=by
 refine fG (Kp (k0:=RetK λv W=>∃b,v=.pointer (ax ⟨b,0,aw⟩)∧OwnS S w0 W (bqE b s 0 0::L)) ?_) (λe W ⟨v,he,b,c,a⟩=>by subst he;subst c;exact k b W a);unfold Jt nz;have e:∀W:ao,(aS 317 #[(1,.string ⟨s.toArray⟩)]).run ah W=.ok (.value (.agg (bqC s 0 0).toArray)) W:=λW=>by kernel_rfl
 refine aD (e w) |>.mpr ?_;exact bA (λb=>.pointer (ax ⟨b,0,aw⟩)) (bqC s 0 0) 317 (λ_=>by kernel_rfl) a λb w' a=>retK ⟨b,rfl,a⟩
end
theorem WS (s:List UInt8)(most:Int)(M:Mem)(w:ao)(y:Rp M)(z:Od M)(R:s.length<=1000000000)(S:M.has w) :
  RetM ah 239 #[.string ⟨s.toArray⟩,.int .i64 most] M w (λv _=>v=flT (jq s most)∧(jq s most).2.1<=s.length∧(jq s most).1.length<=1048576):=by
 refine bB S λK C=>FL ?_;generalize c:jq s most=X at C;unfold jq at c;unfold Dw iN dx alx;refine bA (λb=>.pointer (ax ⟨b,0,aw⟩)) [.string ⟨#[]⟩] 9 (λ_=>by kernel_rfl) (OwnS.memS S) λj Z a=>?_;refine bA (λb=>.pointer (ax ⟨b,0,aw⟩)) [.int .i64 0] 3 (λ_=>by kernel_rfl) a λk w2 a=>?_;refine bA (λb=>.pointer (ax ⟨b,0,aw⟩)) [.int .i64 0] 30 (λ_=>by kernel_rfl) a λl w3 a=>?_;have a:OwnS M.A w w3 ([Nh l 0,MZ k 0,NG j []]++([.mem M]++[])):=a;have a:=a.front;rw[pY];refine⟨_,rfl,?_⟩;have fail:∀{W:ao} {L:List Ent} {e:Int} {N:Mem},OwnS M.A w W (L++([.mem N,Nh l 0,MZ k 0,NG j []]++[]))->M.le N->X=([],0,e) ->
   bO { target:=.fn (.func 271) #[.pointer (ax ⟨j,0,aw⟩),.pointer (ax ⟨k,0,aw⟩),.pointer (ax ⟨l,0,aw⟩)],args:=#[]++#[] } (.pointer (ax ⟨j,0,aw⟩)) (.pointer (ax ⟨k,0,aw⟩)) (.pointer (ax ⟨l,0,aw⟩)) K [upI e] W:=by
  intro W L e N a hle D;have a:=a.front;have a:OwnS M.A w W (.mem N::Nh l 0::MZ k 0::NG j []::(L++[])):=a;show pd ah _ K _ [upI e] W;unfold pd;refine nM sm I5 (oN (t0:=.pointer (ax ⟨j,0,aw⟩)) (t1:=.pointer (ax ⟨k,0,aw⟩)) (t2:=.pointer (ax ⟨l,0,aw⟩)) ?_);simp only[kD,recV,recM,upI,Eng.YE aqE,rs,VG nfUp,ex,i_t,i_f,iN,dx,ldx,fax,exx,stx,eqx,alx];refine bA (λb=>.pointer (ax ⟨b,0,aw⟩)) [.int .i64 0] 273 (λ_=>by kernel_rfl) a λb7 E a=>?_;refine gY 0 a rfl (new:=[.int .i64 e]) szUp (λu hu=>by rw[amH.1 hu];rfl) rfl λF a=>?_;refine⟨?_⟩;have a:=a.drew
  repeat' first
  |apply And.intro
  |refine aD (bC akN) |>.mpr ?_
  |refine aD (aB Hh (a.cell 0 rfl 0 rfl)) |>.mpr ?_
  |refine aK 4 a rfl krx rfl sm (λ_ a=>?_)
  |refine aK 3 a rfl krx rfl sm (λ_ a=>?_)
  |refine aK 2 a rfl krx rfl sm (λ_ a=>?_)
  all_goals
   unfold dO;refine OD (bI (AtV.cell YQ (a.cell 4 rfl 0 rfl))) (bI (AtV.cell aU (a.cell 3 rfl 0 rfl))) (bI (AtV.cell Hh (a.cell 2 rfl 0 rfl))) (C _ _ N _ 1 a rfl hle ⟨by rw[D];rfl,by rw[D];exact amN _,by rw[D];exact amN _⟩)
 try simp only[rs]
 refine iY (λo=>?_) (λo=>?_)
 rotate_left
 ·have:=amR o;rw[alH om] at c;exact fail (L:=[]) a M.le_refl c.symm
 have o:=alZ o;rw[alG om] at c;refine Sv s a λrb U a=>?_;rw[ajU,show min most 1048576=((min most.toNat 1048576:Nat):Int) by omega];have G:min most.toNat 1048576<=1048576:=Nat.min_le_right _ _;generalize min most.toNat 1048576=i at c G;have e:∀W:ao,(aS 278 #[(0,.pointer (ax ⟨rb,0,aw⟩)),(2,.int .i64 (i:Int))]).run ah W=.ok (.value (.agg (flC rb nilS (i:Int)).toArray)) W:=λW=>by kernel_rfl
 refine aD (e U) |>.mpr ?_;refine bA (λb=>.pointer (ax ⟨b,0,aw⟩)) (flC rb nilS (i:Int)) 278 (λ_=>by kernel_rfl) a λfb E a=>?_;have a:=OwnS.nilU a 5 1;have a:OwnS M.A w E ([outR nilS []]++([flE fb rb nilS (i:Int),bqE rb s 0 0]++[.mem M,Nh l 0,MZ k 0,NG j []])):=a;have a:OwnS M.A w E (Fs fb rb s i nilS 0 0 [] (.mem M::[Nh l 0,MZ k 0,NG j []])):=(OwnS.front a).perm (apX _);refine loop (λvs W=>∃(p:Nat) (way:Int) (ov:aq) (out:List UInt8) (N:Mem),vs=[]∧(way=0∨way=1)∧p<=8*s.length∧out.length<=i∧M.le N∧(∃f,8*s.length+1 - p<=f∧jn s i f p out=X)∧OwnS M.A w W (Fs fb rb s i ov way p out (.mem N::[Nh l 0,MZ k 0,NG j []]))) (λ_ w=>8*s.length+1 - bqAt rb w) ⟨0,0,nilS,[],M,rfl,.inl rfl,om,sm,M.le_refl,⟨_,om,c⟩,a⟩ ?_;clear a c;rintro vs F ⟨p,way,ov,out,N,rfl,hw,hp,H,hle,⟨f,hf,c⟩,a⟩ _;have I:bqAt rb F=p:=Gg (a.at_ 1 rfl);simp only[wN,iN];obtain⟨f,rfl⟩:∃f',f=f'+1:=⟨f - 1,om⟩;rw[jn] at c;dsimp only at c;have m:=@zl s i (p+1) out;refine ZJ a (y.le hle) (z.le hle) hw hp R om H (λJ q g way' O n W d a=>?_) (λJ r P T q way' g W d Q a=>?_) (λJ r q g way' O n W d a=>?_)
 ·rw[alH J] at c;exact fail (L:=[flE fb rb g (i:Int),bqE rb s way' O,outR g n]) a (hle.trans d) c.symm
 rotate_left
 ·rw[alG om,alH r] at c;exact fail (L:=[flE fb rb g (i:Int),bqE rb s way' O,outR g n]) a (hle.trans d) c.symm
 rw[alG om,alG (by rw[r];decide)] at c;have m:=m r;generalize dd s i (p+1) out=B at c a r P T m
 try simp only[rs]
 by_cases x:Fl.num s p 1=1
 case neg=>
  rw[alG x] at c;simp only[x,alL,anK,i_t];have t:bqAt rb W=B.2.1:=Gg (a.at_ 1 rfl);refine⟨rfl,?_⟩;refine aY ⟨B.2.1,way',g,B.1,q,rfl,Q,P,T,hle.trans d,⟨f,om,c⟩,a⟩ (by show 8*s.length+1 - bqAt rb W < 8*s.length+1 - bqAt rb F;rw[I,t];omega)
 rw[alH x] at c;simp only[x,alK,anH,i_f];refine dK (λW=>OwnS M.A w W (Fs fb rb s i g way' B.2.1 B.1 (.mem q::[Nh l 0,MZ k 0,NG j []]))) a.drew ?_;refine q_do _ (λ_=>dL) (q_do _ (λ_=>bC yN) (q_at _ (λW h=>Gz (h.at_ 0 rfl)) ?_));refine q_at (.string ⟨B.1.toArray⟩) (λW h=>Mn amJ anQ alV (wT (h.at_ 2 rfl))) ?_;refine q_do _ (λ_=>dL) (q_do _ (λ_=>bC UA) (q_at _ (λW h=>PO (h.at_ 0 rfl)) ?_));refine lO (.int .i64 (((B.2.1+7) / 8:Nat):Int)) (λW h=>(ZL (h.at_ 1 rfl) P R).mono λv w' ⟨o,V⟩=>⟨o,h.grow V⟩) ?_;intro w7 a;refine aK 6 a rfl krx rfl sm λw8 a=>?_;refine aK 5 a rfl krx rfl sm λw9 a=>?_;refine aK 4 a rfl krx rfl sm λY a=>?_;refine nM sm I5 (oN (t0:=.pointer (ax ⟨j,0,aw⟩)) (t1:=.pointer (ax ⟨k,0,aw⟩)) (t2:=.pointer (ax ⟨l,0,aw⟩)) ?_);simp only[kD,recV,recM,Eng.WM aqE,rs,i_t,i_f,iN,dx,ldx,fax,exx,stx,eqx,alx];refine OD (bI (AtV.cell YQ (a.cell 6 rfl 0 rfl))) (bI (AtV.cell aU (a.cell 5 rfl 0 rfl))) (bI (AtV.cell Hh (a.cell 4 rfl 0 rfl))) (C _ _ q _ 3 a rfl (hle.trans d) ⟨by rw[<-c];rfl,by rw[<-c];dsimp only;omega,by rw[<-c];dsimp only;omega⟩)
end
end Go.Proofs.YtlipjfcbjemicaaGreatDoor



namespace Go.Proofs.YtlipjfcbjemicaaGreatDoor
variable{A:Nat->Prop}{C:ao->Prop}{D U:TypeId}{K:VWP}{L:List Eng.Ent}{M:Eng.Mem}{P:Program}{PK:PKT}{R:Ending->FrameMode->ao->Prop}{W w w' w0:ao}{a way:Int}{b cap fb i j m most p rb sz tb:Nat}{c t0 v v' v2:aq}{cb:Array Bool}{cl l near:List Nat}{cs news xs:List aq}{q:Bool}{u:FrameMode}{xo yo:Operand}{α:Type}{t0 t1 t2:aq}{k0:Eng.KT}
section
open Eng
def BM(t1 t5 t15 t16 w)(N1:JT)(K:KT):=nz f270 43 [N1] [nh 7 [16]] [(5,5)] (zg [1,5,15,16] [t1,t5,t15,t16]) w K
def HB(t0 t1 w)(K:KT):=nz f270 1 [] [(7,[16],λs v j w f=>BM (s 1) (s 5) (s 15) (vg v 0) w (f 0) K)] [] (zg [0,1] [t0,t1]) w K
theorem Io:HB t0 t1 w k0->Calls ah 270 #[t0,t1] w k0:=cz [] [(3,[16])] func270
def Ju(t0 w)(K:KT):=nz f237 1 [] [] [] (zg [0] [t0]) w K
theorem KN:Ju t0 w k0->Calls ah 237 #[t0] w k0:=cw func237
def CA(t0 t1 w)(K:KT):=nz f304 1 [] [] [] (zg [0,1] [t0,t1]) w K
theorem Fy:CA t0 t1 w k0->Calls ah 304 #[t0,t1] w k0:=cw func304
def Gt(t0 w)(K:KT):=nz f236 1 [] [] [] (zg [0] [t0]) w K
theorem Ib:Gt t0 w k0->Calls ah 236 #[t0] w k0:=cw func236
def CH(t0 w)(K:KT):=nz f238 1 [] [] [(3,8)] (zg [0] [t0]) w K
theorem Fw:CH t0 w k0->Calls ah 238 #[t0] w k0:=cw func238
def Du(t0 t1 w)(K:KT):=nz f192 1 [] [] [(10,10)] (zg [0,1] [t0,t1]) w K
theorem Fg:Du t0 t1 w k0->Calls ah 192 #[t0,t1] w k0:=cw func192
end
end Go.Proofs.YtlipjfcbjemicaaGreatDoor

