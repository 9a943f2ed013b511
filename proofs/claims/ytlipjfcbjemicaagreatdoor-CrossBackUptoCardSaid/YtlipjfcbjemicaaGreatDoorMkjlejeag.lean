/- Texts that go together: SSlcS DfE DfF DfG DfH SCodeW DfI SBitW DfA InfGx DfB SDefl DfC DfJ. -/
import Derived.Test.YtlipjfcbjemicaaGreatDoorRows
import Derived.Test.YtlipjfcbjemicaaGreatDoorMjckbdplf
set_option linter.defProp false
set_option linter.unusedSimpArgs false
set_option linter.unusedVariables false
set_option maxRecDepth 20000
open Go.Proofs.Tryz
open Go.Proofs.Tryz renaming prog->ah
open Option renaming some->ax,none->aw
open Bool renaming true->av,false->au
open Go renaming Value->aq,World->ao
open Decidable renaming decide->ai
namespace Go.Proofs.YtlipjfcbjemicaaGreatDoor
variable{A S:Nat->Prop}{C:ao->Prop}{K:VWP}{M N:Eng.Mem}{P:Program}{PK:PKT}{Sy l:List Nat}{T1 U:TypeId}{W w w0:ao}{a way:Int}{args ca fa:Array aq}{b cap f fb i j jm m t tb:Nat}{cb:Array Bool}{cs:List aq}{cv v va:aq}{k':IntKind}{r:List Cn}{xo yo:Operand}{α:Type}{t0 t1 t2 t3 t4:aq}{k0:Eng.KT}
section
open Eng
def bT(t6 t25 t26 t27 w)(a:JT)(K:KT):=nz f350 175 [a] [nh 23 [6,27]] [] (zg [6,25,26,27] [t6,t25,t26,t27]) w K
def bX(t3 t11 w)(N1:JT)(K:KT):=nz f350 491 [N1] [nh 7 [3,11]] [] (zg [3,11] [t3,t11]) w K
def bV(t0 t3 t9 t10 t11 w)(N1:JT)(K:KT):=nz f350 43 [N1] [nh 7 [3,11],(16,[3],λs v j w f=>bX (vg v 0) (s 11) w (f 0) K),(23,[6,27],λs v j w f=>bT (vg v 0) (s 25) (s 26) (vg v 1) w (f 0) K)] [] (zg [0,3,9,10,11] [t0,t3,t9,t10,t11]) w K
def cA(t0 w)(K:KT):=nz f350 1 [] [(7,[3,11],λs v j w f=>bV (s 0) (vg v 0) (s 9) (s 10) (vg v 1) w (f 0) K)] [] (zg [0] [t0]) w K
theorem eB:cA t0 w k0->Calls ah 350 #[t0] w k0:=cz [(8,[3])] [(3,[3,11]),(11,[6,27])] func350
def cF(t0 w)(K:KT):=nz f360 15 [] [] [] (zg [0] [t0]) w K
def cC(t0 t1 w)(K:KT):=nz f360 7 [] [(12,[0],λs v j w f=>cF (vg v 0) w K)] [] (zg [0,1] [t0,t1]) w K
def cI(t0 t1 w)(K:KT):=nz f360 1 [] [(6,[],λs v j w f=>cC (s 0) (s 1) w K)] [] (zg [0,1] [t0,t1]) w K
theorem eE:cI t0 t1 w k0->Calls ah 360 #[t0,t1] w k0:=cz [(3,[]),(6,[0])] [] func360
def bP(t0 t1 w)(K:KT):=nz f351 1 [] [] [] (zg [0,1] [t0,t1]) w K
theorem dD:bP t0 t1 w k0->Calls ah 351 #[t0,t1] w k0:=cw func351
def cH(c d e f b w)(N1 H:JT)(K:KT):=
 QuietX w (λF=>QDo ah F (mBin .gtr 3 b d) λa=>GQ a av (λE=>E e) λg=>GQ a av (λE=>E c) λh=>GQ a av (λE=>E b) λi=>GQ a av (λE=>QDo ah F (mIA 341 h i) E) λj=>GQ a av (λE=>QDo ah F (aH 342 j) E) λk=>GQ a av (λE=>E c) λl=>GQ a av (λE=>E b) λm=>GQ a av (λE=>QDo ah F (mBin .sub 3 m (iN 1)) E) λn=>GQ a av (λE=>QDo ah F (mIA 341 l n) E) λo=>GQ a av (λE=>QDo ah F (aH 342 o) E) λp=>GQ a av (λE=>QDo ah F (fY g #[k,p]) E) λq=>GQ a av (λE=>QDo ah F (mBin .lss 3 q (iN 0)) E) λr=>QDo ah F (lC a r (.bool au)) λs=>
 ∀w,F w ->
 IfX s (QuietX w (λG=>PDo ah (mBin .sub 3 b (iN 1)) λt=>QDo ah G (mBin .sub 3 b (iN 1)) λu=>QDo ah G (mIA 341 c u) λv=>QDo ah G (aH 342 v) λx=>QDo ah G (mIA 341 c b) λy=>QDo ah G (aH 342 y) λz=>QDo ah G (mIA 341 c b) λA=>
 ∀w,G w ->
 DoX ah (aN 342 A x) w (ay 3 (pk K)) λ_ w=>DoX ah (mIA 341 c t) w (ay 3 (pk K)) λB w=>DoX ah (aN 342 B z) w (ay 3 (pk K)) λ_ w=>bnx .sub 3 b (iN 1) w K λC w=>H [C] w)) (bnx .add 3 f (iN 1) w K λD w=>N1 [D] w))
def cG(t0 t1 t2 t3 t8 w)(N1:JT)(K:KT):=nz f365 5 [N1] [nh 3 [8],(9,[9],λs v j w f=>cH (s 0) (s 1) (s 3) (s 8) (vg v 0) w (f 1) (f 0) K)] [] (zg [0,1,2,3,8] [t0,t1,t2,t3,t8]) w K
def cO(t0 t1 t2 t3 w)(K:KT):=nz f365 1 [] [(3,[8],λs v j w f=>cG (s 0) (s 1) (s 2) (s 3) (vg v 0) w (f 0) K)] [] (zg [0,1,2,3] [t0,t1,t2,t3]) w K
theorem eK:cO t0 t1 t2 t3 w k0->Calls ah 365 #[t0,t1,t2,t3] w k0:=cz [] [(1,[8]),(4,[9])] func365
def dH(t0 t2 t4 t10 t11 w)(N1:JT)(K:KT):=nz f367 19 [N1] [nh 5 [10,11]] [] (zg [0,2,4,10,11] [t0,t2,t4,t10,t11]) w K
def dQ(t0 t1 t2 t3 t4 w)(K:KT):=nz f367 1 [] [(5,[10,11],λs v j w f=>dH (s 0) (s 2) (s 4) (vg v 0) (vg v 1) w (f 0) K)] [] (zg [0,1,2,3,4] [t0,t1,t2,t3,t4]) w K
theorem fM:dQ t0 t1 t2 t3 t4 w k0->Calls ah 367 #[t0,t1,t2,t3,t4] w k0:=cz [] [(2,[10,11])] func367
def dJ(t6 w)(a:JT)(K:KT):=nz f361 1007 [a] [nh 15 [6]] [] (zg [6] [t6]) w K
def dF(t0 t1 t2 t6 t7 t8 w)(a b:JT)(K:KT):=nz f361 623 [a,b] [nh 15 [6],nh 19 [7,8],(32,[],λs v j w f=>dJ (s 6) w (f 0) K)] [] (zg [0,1,2,6,7,8] [t0,t1,t2,t6,t7,t8]) w K
def dG(t0 t1 t2 t6 w)(a:JT)(K:KT):=nz f361 47 [a] [nh 15 [6],(19,[7,8],λs v j w f=>dF (s 0) (s 1) (s 2) (s 6) (vg v 0) (vg v 1) w (f 1) (f 0) K)] [] (zg [0,1,2,6] [t0,t1,t2,t6]) w K
def dI(t0 t1 t2 t6 t7 t8 w)(N1:JT)(K:KT):=nz f361 19 [N1] [nh 5 [7,8],(15,[6],λs v j w f=>dG (s 0) (s 1) (s 2) (vg v 0) w (f 0) K)] [] (zg [0,1,2,6,7,8] [t0,t1,t2,t6,t7,t8]) w K
def dP(t0 t1 t2 w)(K:KT):=nz f361 1 [] [(5,[7,8],λs v j w f=>dI (s 0) (s 1) (s 2) (s 6) (vg v 0) (vg v 1) w (f 0) K)] [] (zg [0,1,2] [t0,t1,t2]) w K
theorem fL:dP t0 t1 t2 w k0->Calls ah 361 #[t0,t1,t2] w k0:=cz [(16,[])] [(2,[7,8]),(7,[6]),(9,[7,8])] func361
def cP(b c d e a w)(N1:JT)(K:KT):=
 bnx .lss 3 a e w K λf w=>IfX f (QuietX w (λr=>PDo ah (mBin .add 3 d a) λg=>QDo ah r (mBin .add 3 c a) λh=>QDo ah r (mBin .add 3 d a) λi=>QDo ah r (mIA 341 b i) λj=>QDo ah r (aH 342 j) λk=>QDo ah r (mBin .add 3 c a) λl=>QDo ah r (mIA 341 b l) λm=>QDo ah r (aH 342 m) λn=>QDo ah r (mIA 341 b h) λo=>
 ∀w,r w ->
 DoX ah (aN 342 o k) w (ay 4 (pk K)) λ_ w=>DoX ah (mIA 341 b g) w (ay 4 (pk K)) λp w=>DoX ah (aN 342 p n) w (ay 4 (pk K)) λ_ w=>bnx .add 3 a (iN 1) w K λq w=>N1 [q] w)) (K (.returned (.tuple #[])) w)
def dC(t0 t1 t2 t3 t4 w)(K:KT):=nz f368 1 [] [(3,[10],λs v j w f=>cP (s 0) (s 1) (s 2) (s 3) (vg v 0) w (f 0) K)] [] (zg [0,1,2,3,4] [t0,t1,t2,t3,t4]) w K
theorem eZ:dC t0 t1 t2 t3 t4 w k0->Calls ah 368 #[t0,t1,t2,t3,t4] w k0:=cz [] [(1,[10])] func368
def cY(t0 t3 t4 t18 t24 w)(K:KT):=nz f366 4095 [] [] [] (zg [0,3,4,18,24] [t0,t3,t4,t18,t24]) w K
def cR(t0 t1 t3 t4 t18 t20 t24 w)(K:KT):=nz f366 2047 [] [(86,[],λs v j w f=>cY (s 0) (s 3) (s 4) (s 18) (s 24) w K)] [] (zg [0,1,3,4,18,20,24] [t0,t1,t3,t4,t18,t20,t24]) w K
def dA(t0 t1 t2 t3 t4 t18 t19 t20 t21 t22 w)(a:JT)(K:KT):=nz f366 639 [a] [nh 67 [20,21],(82,[],λs v j w f=>cR (s 0) (s 1) (s 3) (s 4) (s 18) (s 20) (s 24) w K)] [(35,14)] (zg [0,1,2,3,4,18,19,20,21,22] [t0,t1,t2,t3,t4,t18,t19,t20,t21,t22]) w K
def dB(t0 t1 t2 t3 t4 t18 t19 t20 t21 w)(K:KT):=nz f366 127 [] [(67,[20,21],λs v j w f=>dA (s 0) (s 1) (s 2) (s 3) (s 4) (s 18) (s 19) (vg v 0) (vg v 1) (s 22) w (f 0) K)] [] (zg [0,1,2,3,4,18,19,20,21] [t0,t1,t2,t3,t4,t18,t19,t20,t21]) w K
def cS(b c a w)(o:JT)(K:KT):=
 bnx .gtr 3 a c w K λd w=>IfX d (QuietX w (λn=>PDo ah (mBin .sub 3 a (iN 1)) λe=>QDo ah n (mBin .sub 3 a (iN 1)) λf=>QDo ah n (mIA 341 b f) λg=>QDo ah n (aH 342 g) λh=>QDo ah n (mIA 341 b a) λi=>QDo ah n (aH 342 i) λj=>QDo ah n (mIA 341 b a) λk=>
 ∀w,n w ->
 DoX ah (aN 342 k h) w (ay 3 (pk K)) λ_ w=>DoX ah (mIA 341 b e) w (ay 3 (pk K)) λl w=>DoX ah (aN 342 l j) w (ay 3 (pk K)) λ_ w=>bnx .sub 3 a (iN 1) w K λm w=>o [m] w)) (K (.returned (.tuple #[])) w)
def cX(t0 t2 t4 t14 t15 w)(a:JT)(K:KT):=nz f366 309 [a] [nh 31 [14,15],(43,[17],λs v j w f=>cS (s 0) (s 14) (vg v 0) w (f 0) K)] [(17,12)] (zg [0,2,4,14,15] [t0,t2,t4,t14,t15]) w K
def cZ(b c a w)(p:JT)(K:KT):=
 bnx .sub 3 c (iN 1) w K λd w=>bnx .lss 3 a d w K λe w=>IfX e (QuietX w (λo=>PDo ah (mBin .add 3 a (iN 1)) λf=>QDo ah o (mBin .add 3 a (iN 1)) λg=>QDo ah o (mIA 341 b g) λh=>QDo ah o (aH 342 h) λi=>QDo ah o (mIA 341 b a) λj=>QDo ah o (aH 342 j) λk=>QDo ah o (mIA 341 b a) λl=>
 ∀w,o w ->
 DoX ah (aN 342 l i) w (ay 3 (pk K)) λ_ w=>DoX ah (mIA 341 b f) w (ay 3 (pk K)) λm w=>DoX ah (aN 342 m k) w (ay 3 (pk K)) λ_ w=>bnx .add 3 a (iN 1) w K λn w=>p [n] w)) (K (.returned (.tuple #[])) w)
def cT(t0 t1 t4 t10 t11 w)(N1:JT)(K:KT):=nz f366 154 [N1] [nh 7 [10,11],(19,[13],λs v j w f=>cZ (s 0) (s 10) (vg v 0) w (f 0) K)] [(5,11)] (zg [0,1,4,10,11] [t0,t1,t4,t10,t11]) w K
def dE(t0 t1 t2 t3 t4 w)(K:KT):=nz f366 1 [] [(7,[10,11],λs v j w f=>cT (s 0) (s 1) (s 4) (vg v 0) (vg v 1) w (f 0) K),(31,[14,15],λs v j w f=>cX (s 0) (s 2) (s 4) (vg v 0) (vg v 1) w (f 0) K),(64,[20,21],λs v j w f=>dB (s 0) (s 1) (s 2) (s 3) (s 4) (s 18) (s 19) (vg v 0) (vg v 1) w K)] [] (zg [0,1,2,3,4] [t0,t1,t2,t3,t4]) w K
theorem fF:dE t0 t1 t2 t3 t4 w k0->Calls ah 366 #[t0,t1,t2,t3,t4] w k0:=cz [(32,[20,21]),(41,[]),(43,[])] [(3,[10,11]),(9,[13]),(15,[14,15]),(21,[17]),(33,[20,21])] func366
end
section
open Eng Go.RowKit
theorem Eng.XD {K:aq->Prop}(hp:cN P f=av)(v:aq)(h:∀w,C w->Ret P f (fa++args++ca) w (λv' w'=>v'=v∧C w'))(k:K v):QDo P C (fY (.func (.func f) fa ca) args) K:=
 ⟨v,λw hw=>by
  have e:(fY (.func (.func f) fa ca) args).run P w=.ok (.enter f (fa++args++ca)) w:=by
   unfold fY;simp only[Deferred.ofValue,invoke,bind,pure,Sem.bind];exact iF hp _ _
  rw[e];exact⟨rfl,Calls.mono (h w hw) λ_ _ ⟨_,he,a,b⟩=>⟨by rw[he,a],b⟩⟩,k⟩
abbrev Pc:=aq×Cn
def pd:Pc:=(undef,.leaf 0 0)
def pcW (ps:List Pc):List Value:=ps.map (·.1)
abbrev pcE (v:aq)(ps:List Pc):Ent:=.urow 342 1 v ps.length (pcW ps)
def pw (x:Pc):Nat:=x.2.wt
def cmpI (a b:Nat):Int:=if a < b then -1 else if b < a then 1 else 0
theorem Ln (a b:Nat):ai (cmpI a b < 0)=ai (a < b):=by
 unfold cmpI;split
 ·rename_i h;simp[h]
 ·rename_i h;split<;>simp[h]
structure CmpOk (M:Mem) (cv:aq) (ok:Pc->Prop):Prop where
 ptr:∀x,ok x->x.1.oneCell'=av∧x.1.cells=#[x.1]
 run:∃f fa ca,cv=.func (.func f) fa ca∧cN ah f=av∧∀W x y,M.has W->ok x->ok y->Ret ah f (fa++#[x.1,y.1]++ca) W (λv w'=>v=.int .i64 (cmpI (pw x) (pw y))∧Below W.heap.size W w')
theorem ML:eD ah 342=true:=krx
theorem Eu:(Tryz.prog.info? 342).map (·.size)=ax 1:=krx
theorem ml {d:α}{xs:List α}(hi:i < xs.length)(a:j < xs.length){x:α}(h:x∈Srt.sw d xs i j):x∈xs:=by
 unfold Srt.sw at h;rcases asL h with h|h
 ·rcases asL h with h|h
  ·exact h
  ·rw[h,amI,amN a];exact amR a
 ·rw[h,amI,amN hi];exact amR hi
theorem sH {ps:List Pc}(hi:i < ps.length):ps.getD i pd∈ps:=by
 rw[amI,amN hi];exact amR hi
theorem SC {ps:List Pc}(hi:i < ps.length):(pcW ps)[i]?=ax (ps.getD i pd).1:=by
 unfold pcW;rw[aqL,amI,amN hi];rfl
theorem pP {g n:Nat}(hi:i < n)(W:ao):(mIA 341 (.slice (ax ⟨g,0,aw⟩) n cap) (.int .i64 (i:Int))).run ah W=.ok (.value (.pointer (ax ⟨g,i,aw⟩))) W:=by
 have:=dX (P:=ah) (T:=341) (b:=g) (off:=0) (cap:=cap) (n:=n) (k:=.i64) (i:=(i:Int)) (w:=W) aoZ Eu om om
 rwa [amK,anC,amO] at this
theorem xF {g n:Nat}{ps:List Pc}(h:(pcE (.slice (ax ⟨g,0,aw⟩) n cap) ps).is W)(hi:i < ps.length):(aH 342 (.pointer (ax ⟨g,i,aw⟩))).run ah W=.ok (.value (ps.getD i pd).1) W:=by
 obtain⟨k,c,d,e,j⟩:=bY (Sl.urow h) om
 injection e with b l m
 injection b with b
 have f:=congrArg Addr.block b;have a:=congrArg Addr.off b;dsimp only at f a;subst f;subst a;have:=j i _ (SC hi);rw[amO] at this;exact aB ML this
section
variable {w:ao}{PK PK2 PK3:PKT}{K:VWP}{S:Nat->Prop}{w0:ao}{L T:List Ent}
theorem TZ {ps:List Pc}{x:Pc}(hi:i < ps.length):(pcW ps).take i++[x.1]++(pcW ps).drop (i+[x.1].length)=pcW (ps.set i x):=by
 unfold pcW;rw[asM,auX,amB (by simpa using hi)];simp
theorem o_sw {g:Nat}{ps:List Pc}{N:ao->Prop}{ok:Pc->Prop}(f:CmpOk M cv ok)(a:OwnS S w0 w (pcE (.slice (ax ⟨g,0,aw⟩) ps.length cap) ps::T))(b:∀x∈ps,ok x)(hi:i < ps.length)(c:j < ps.length)
  (k:∀W,OwnS S w0 W (pcE (.slice (ax ⟨g,0,aw⟩) ps.length cap) (Srt.sw pd ps i j)::T)->N W) :
  DoX ah (aN 342 (.pointer (ax ⟨g,i,aw⟩)) (ps.getD j pd).1) w PK λ_ w=>DoX ah (mIA 341 (.slice (ax ⟨g,0,aw⟩) ps.length cap) (.int .i64 (j:Int))) w PK2 λt w=>DoX ah (aN 342 t (ps.getD i pd).1) w PK3 λ_ w=>N w:=by
 obtain⟨l,m⟩:=f.ptr _ (b _ (sH hi));obtain⟨n,o⟩:=f.ptr _ (b _ (sH c));refine Aa (sz:=1) (new:=[(ps.getD j pd).1]) 0 a rfl (by rw[o]) Eu (λu hu=>by rw[anB.1 hu];exact n) (by simp;omega) λh a=>?_;have a:OwnS S w0 h (.urow 342 1 (.slice (ax ⟨g,0,aw⟩) (ps.set i (ps.getD j pd)).length cap) (ps.set i (ps.getD j pd)).length (pcW (ps.set i (ps.getD j pd)))::T):=by
  rw[<-TZ hi,aoV];exact a
 have d:j < (ps.set i (ps.getD j pd)).length:=by rw[aoV];exact c
 refine aD (pP c h) |>.mpr ?_;refine Aa (sz:=1) (new:=[(ps.getD i pd).1]) 0 a rfl (by rw[m]) Eu (λu hu=>by rw[anB.1 hu];exact l) (by simp;omega) λp a=>?_;refine k p ?_;unfold Srt.sw pcE;rw[<-TZ d];have e:((ps.set i (ps.getD j pd)).set j (ps.getD i pd)).length=(ps.set i (ps.getD j pd)).length:=aoV;rw[e];have q:(ps.set i (ps.getD j pd)).length=ps.length:=aoV;rw[q] at a ⊢;exact a
theorem Zv {g n a:Nat}{ps:List Pc}{o:aq}{ok:Pc->Prop}(q:CmpOk M o ok)(c:OwnS S w0 w (pcE (.slice (ax ⟨g,0,aw⟩) ps.length cap) ps::T))(p:∀x∈ps,ok x)(A:a+n<=ps.length)(B:b+n<=ps.length)(C:ps.length<=1000000000)
  (k:∀W,(∀x∈Srt.swr pd n a b ps,ok x)->OwnS S w0 W (pcE (.slice (ax ⟨g,0,aw⟩) ps.length cap) (Srt.swr pd n a b ps)::T)->K (.tuple #[]) W) :
  CallX ah 368 #[.slice (ax ⟨g,0,aw⟩) ps.length cap,.int .i64 (a:Int),.int .i64 (b:Int),.int .i64 (n:Int),cv] w PK K:=by
 generalize r:Srt.swr pd n a b ps=R at k;refine fH (eZ (k0:=RetK λv W=>v=.tuple #[]∧(∀x∈R,ok x)∧OwnS S w0 W (pcE (.slice (ax ⟨g,0,aw⟩) ps.length cap) R::T)) ?_) (λe W ⟨v,he,s,t,c⟩=>by subst he;subst s;exact k W t c);unfold dC nz;generalize u:ps.length=N at *;refine loop (λvs W=>∃(i:Nat) (d:List Pc),vs=[.int .i64 (i:Int)]∧i<=n∧d.length=N∧(∀x∈d,ok x)∧Srt.swr pd (n - i) (a+i) (b+i) d=R∧OwnS S w0 W (pcE (.slice (ax ⟨g,0,aw⟩) N cap) d::T)) (λvs _=>n - n0 vs) ⟨0,ps,rfl,om,u,p,r,c⟩ ?_;clear c;rintro vs D ⟨i,d,rfl,hi,y,f,j,c⟩ _;simp only[cP,gd,rs,iN,bnx];by_cases l:(i:Int) < (n:Int)
 ·simp only[l,amD,i_t];obtain⟨m,hm⟩:∃m,n - i=m+1:=⟨n - i - 1,om⟩;rw[hm] at j;unfold Srt.swr at j;refine dW (λW=>OwnS S w0 W (pcE (.slice (ax ⟨g,0,aw⟩) N cap) d::T)) c.drew ?_;refine p_do _ (λ_=>Iy) ?_;rw[aA om om,show (b:Int)+(i:Int)=((b+i:Nat):Int) by omega];refine pJ ?_;rw[aA om om,show (a:Int)+(i:Int)=((a+i:Nat):Int) by omega];refine pJ ?_;rw[aA om om,show (b:Int)+(i:Int)=((b+i:Nat):Int) by omega];refine q_do _ (λW=>pP om W) (q_at _ (λW h=>xF (h.at_ 0 rfl) om) ?_);refine pJ ?_;rw[aA om om,show (a:Int)+(i:Int)=((a+i:Nat):Int) by omega];refine q_do _ (λW=>pP om W) (q_at _ (λW h=>xF (h.at_ 0 rfl) om) ?_);refine q_do _ (λW=>pP om W) ?_;intro w2 c;subst y;refine o_sw q c f om om λw3 c=>?_
  try simp only[rs]
  rw[aA om om];refine aY ⟨i+1,Srt.sw pd d (a+i) (b+i),rfl,om,Srt.E6,λx z=>f x (ml om om z),?_,c⟩ (by simp[n0,RowKit.intOf];omega);rw[show n - (i+1)=m by omega];exact j
 ·simp only[l,amF,i_f];rw[show n - i=0 by omega] at j;unfold Srt.swr at j;subst j;exact retK ⟨rfl,f,c⟩
end
end
section
open Eng Go.RowKit
section
variable {w:ao}{PK PK2 PK3:PKT}{K:VWP}{S:Nat->Prop}{w0:ao}{L T:List Ent}
theorem akH {g a N:Nat}{ps:List Pc}{r:aq}{ok:Pc->Prop}(s:CmpOk M r ok)(u:ps.length=N)(c:OwnS S w0 w (pcE (.slice (ax ⟨g,0,aw⟩) N cap) ps::T))(t:∀x∈ps,ok x)(D:a < m)(hm:m < b)(E:b<=N)(F:N<=1000000000)
  (k:∀W,(∀x∈Srt.rot pd (b - a) (m - a) (b - m) m ps,ok x)->OwnS S w0 W (pcE (.slice (ax ⟨g,0,aw⟩) N cap) (Srt.rot pd (b - a) (m - a) (b - m) m ps)::T)->K (.tuple #[]) W) :
  CallX ah 367 #[.slice (ax ⟨g,0,aw⟩) N cap,.int .i64 (a:Int),.int .i64 (m:Int),.int .i64 (b:Int),cv] w PK K:=by
 generalize y:Srt.rot pd (b - a) (m - a) (b - m) m ps=R at k;refine fH (fM (k0:=RetK λv W=>v=.tuple #[]∧(∀x∈R,ok x)∧OwnS S w0 W (pcE (.slice (ax ⟨g,0,aw⟩) N cap) R::T)) ?_) (λe W ⟨v,he,z,d,c⟩=>by subst he;subst z;exact k W d c);unfold dQ nz;simp only[rs];rw[aA om om,aA om om,show (m:Int) - (a:Int)=((m - a:Nat):Int) by omega,show (b:Int) - (m:Int)=((b - m:Nat):Int) by omega];refine loop (λvs W=>∃(i j f:Nat) (o:List Pc),vs=[.int .i64 (i:Int),.int .i64 (j:Int)]∧i+j<=f∧0 < i∧0 < j∧i<=m∧m+j<=N∧o.length=N∧(∀x∈o,ok x)∧Srt.rot pd f i j m o=R∧OwnS S w0 W (pcE (.slice (ax ⟨g,0,aw⟩) N cap) o::T)) (λvs _=>n0 vs+n1 vs) ⟨m - a,b - m,b - a,ps,rfl,om,om,om,om,om,u,t,y,c⟩ ?_;clear c;rintro vs G ⟨i,j,f,o,rfl,H,hi,I,A,B,C,l,h,c⟩ _;simp only[dH,gd,rs,nz];obtain⟨f,rfl⟩:∃q,f=q+1:=⟨f - 1,om⟩;unfold Srt.rot at h;subst C;by_cases he:i=j
 ·subst he;simp only[show ai ((i:Int)≠(i:Int))=au from amE sm,i_f];rw[amB rfl] at h;rw[aA om om,show (m:Int) - (i:Int)=((m - i:Nat):Int) by omega];refine Zv s c l om om om λw2 d c=>?_;rw[h] at d c;exact retK ⟨rfl,d,c⟩
 ·rw[amA he] at h;simp only[show ai ((i:Int)≠(j:Int))=av from amG om,i_t];by_cases p:j < i
  ·rw[amB p] at h;simp only[show ai ((j:Int) < (i:Int))=av from amG om,i_t];rw[aA om om,show (m:Int) - (i:Int)=((m - i:Nat):Int) by omega];refine Zv s c l om om om λw2 d c=>?_
   try simp only[rs]
   rw[aA om om,show (i:Int) - (j:Int)=((i - j:Nat):Int) by omega];exact aY ⟨i - j,j,f,_,rfl,om,om,om,om,om,Srt.El _ _ _ _,d,h,c⟩ (by simp[n0,n1,RowKit.intOf];omega)
  ·rw[amA p] at h;simp only[show ai ((j:Int) < (i:Int))=au from amE om,i_f];rw[aA (n:=(m:Int) - (i:Int)) om om,aA (n:=(m:Int)+(j:Int)) om om,aA (n:=(m:Int)+(j:Int) - (i:Int)) om om,show (m:Int) - (i:Int)=((m - i:Nat):Int) by omega,show (m:Int)+(j:Int) - (i:Int)=((m+j - i:Nat):Int) by omega];refine Zv s c l om om om λw2 d c=>?_
   try simp only[rs]
   rw[aA om om,show (j:Int) - (i:Int)=((j - i:Nat):Int) by omega];exact aY ⟨i,j - i,f,_,rfl,om,om,om,om,om,Srt.El _ _ _ _,d,h,c⟩ (by simp[n0,n1,RowKit.intOf];omega)
theorem ahG {g a N:Nat}{ps:List Pc}{ok:Pc->Prop}(A:CmpOk M cv ok)(hm:T[jm]?=ax (.mem M))(C:ps.length=N)(d:OwnS S w0 w (pcE (.slice (ax ⟨g,0,aw⟩) N cap) ps::T))(s:∀x∈ps,ok x)(U:b<=N)(V:a<=N)(X:N<=1000000000)
  (k:∀W,(∀x∈Srt.ins pd pw ps a b,ok x)->OwnS S w0 W (pcE (.slice (ax ⟨g,0,aw⟩) N cap) (Srt.ins pd pw ps a b)::T)->K (.tuple #[]) W) :
  CallX ah 365 #[.slice (ax ⟨g,0,aw⟩) N cap,.int .i64 (a:Int),.int .i64 (b:Int),cv] w PK K:=by
 unfold Srt.ins at k;generalize D:Srt.insI pd pw a (b - (a+1)) (a+1) ps=R at k;refine fH (eK (k0:=RetK λv W=>v=.tuple #[]∧(∀x∈R,ok x)∧OwnS S w0 W (pcE (.slice (ax ⟨g,0,aw⟩) N cap) R::T)) ?_) (λe W ⟨v,he,E,F,d⟩=>by subst he;subst E;exact k W F d);unfold cO nz;obtain⟨Y,G,H,t,u,y⟩:=A.run;have z:∀{W:ao} {e:Ent},OwnS S w0 W (e::T)->M.has W:=λd=>d.hasM (jm+1) (by rw[anM];exact hm);simp only[rs];rw[aA om om];refine loop (λvs W=>∃(i:Nat) (c:List Pc),vs=[.int .i64 (i:Int)]∧a+1<=i∧i<=max b (a+1)∧c.length=N∧(∀x∈c,ok x)∧Srt.insI pd pw a (b - i) i c=R∧OwnS S w0 W (pcE (.slice (ax ⟨g,0,aw⟩) N cap) c::T)) (λvs _=>b - n0 vs) ⟨a+1,ps,rfl,om,om,C,s,D,d⟩ ?_;clear d;rintro vs I ⟨i,c,rfl,hi,J,n,f,l,d⟩ _;simp only[cG,gd,rs,nz];by_cases o:(i:Int) < (b:Int)
 ·simp only[o,amD,i_t];obtain⟨q,L⟩:∃q,b - i=q+1:=⟨b - i - 1,om⟩;rw[L] at l;unfold Srt.insI at l;refine loop (λvs W=>∃(j:Nat) (c:List Pc),vs=[.int .i64 (j:Int)]∧a<=j∧j<=i∧c.length=N∧(∀x∈c,ok x)∧Srt.insI pd pw a q (i+1) (Srt.insJ pd pw a j c)=R∧OwnS S w0 W (pcE (.slice (ax ⟨g,0,aw⟩) N cap) c::T)) (λvs _=>n0 vs) ⟨i,c,rfl,om,om,n,f,l,d⟩ ?_;clear d l f n;rintro vs w2 ⟨j,c,rfl,O,P,n,f,l,d⟩ _;simp only[cH,gd,iN,bnx];have stop:∀W,Srt.insJ pd pw a j c=c->OwnS S w0 W (pcE (.slice (ax ⟨g,0,aw⟩) N cap) c::T)->Rb (λvs W=>∃(i:Nat) (c:List Pc),vs=[.int .i64 (i:Int)]∧a+1<=i∧i<=max b (a+1)∧c.length=N∧(∀x∈c,ok x)∧Srt.insI pd pw a (b - i) i c=R∧OwnS S w0 W (pcE (.slice (ax ⟨g,0,aw⟩) N cap) c::T)) (λvs _=>b - n0 vs) [.int .i64 (i:Int)] I [.int .i64 (IntKind.i64.wrap ((i:Int)+1))] W:=by
   intro W he d;rw[aA om om];rw[he] at l;refine aY ⟨i+1,c,rfl,om,om,n,f,?_,d⟩ (by simp[n0,RowKit.intOf];omega);rw[show b - (i+1)=q by omega];exact l
  refine dW (λW=>OwnS S w0 W (pcE (.slice (ax ⟨g,0,aw⟩) N cap) c::T)) d.drew ?_;refine KD ?_;by_cases B:a < j
  ·obtain⟨j,rfl⟩:∃p,j=p+1:=⟨j - 1,om⟩;rw[amG (show (a:Int) < ((j+1:Nat):Int) by omega)];simp only[gq];refine q_do _ (λW=>pP om W) (q_at _ (λW h=>xF (h.at_ 0 rfl) om) ?_);refine q_do _ (λ_=>sR) ?_;rw[aA om om,show ((j+1:Nat):Int) - 1=(j:Int) by omega];refine q_do _ (λW=>pP om W) (q_at _ (λW h=>xF (h.at_ 0 rfl) om) ?_);subst t;refine XD u (.int .i64 (cmpI (pw (c.getD (j+1) pd)) (pw (c.getD j pd)))) (λW h=>(y W _ _ (z h) (f _ (sH om)) (f _ (sH om))).mono λv w' r=>⟨r.1,h.grow r.2⟩) ?_;refine NO (q_pt ?_);rw[Ln];intro w3 d;unfold Srt.insJ at l stop;by_cases m:pw (c.getD (j+1) pd) < pw (c.getD j pd)
   ·rw[amB ⟨B,amG m⟩] at l;simp only[m,amD,i_t];refine dW (λW=>OwnS S w0 W (pcE (.slice (ax ⟨g,0,aw⟩) N cap) c::T)) d.drew ?_;refine p_do _ (λ_=>sR) ?_;rw[aA om om,show ((j+1:Nat):Int) - 1=(j:Int) by omega];refine q_do _ (λ_=>sR) ?_;rw[aA om om,show ((j+1:Nat):Int) - 1=(j:Int) by omega];refine q_do _ (λW=>pP om W) (q_at _ (λW h=>xF (h.at_ 0 rfl) om) ?_);refine q_do _ (λW=>pP om W) (q_at _ (λW h=>xF (h.at_ 0 rfl) om) ?_);refine q_do _ (λW=>pP om W) ?_;intro Z d;subst n;refine o_sw A d f om om λw5 d=>?_
    try simp only[rs]
    rw[aA om om,show ((j+1:Nat):Int) - 1=(j:Int) by omega];exact aY ⟨j,_,rfl,om,om,Srt.E6,λx Q=>f x (ml om om Q),l,d⟩ (by simp[n0,RowKit.intOf])
   ·simp only[m,amF,i_f,rs];exact stop w3 (amA λh=>m (amU h.2)) d
  ·rw[amE (show ¬(a:Int) < (j:Int) by omega)];simp only[gq];refine q_pf ?_;intro w3 d;simp only[i_f,rs];refine stop w3 ?_ d;cases j with
  |zero=>rfl
  |succ j=>
    unfold Srt.insJ;rw[amA (λh=>B h.1)]
 ·simp only[o,amF,i_f];rw[show b - i=0 by omega] at l;unfold Srt.insI at l;subst l;exact retK ⟨rfl,f,d⟩
end
end
section
open Eng Go.RowKit
theorem og {wt:α->Nat}{x y:α}(h:wt x < wt y):Srt.lt wt x y=true:=amG h
theorem oh {wt:α->Nat}{x y:α}(h:¬wt x < wt y):¬Srt.lt wt x y=true:=λk=>h (amU k)
section
variable {w:ao}{PK PK2 PK3:PKT}{K:VWP}{S:Nat->Prop}{w0:ao}{L T:List Ent}
theorem YV {b:Bool}:(mUn .not (.bool b)).run P W=.ok (.value (.bool (!b))) W:=cJ (by simp[Op.unary])
theorem Pe {n:Nat}(h:n<=4000000000):DoX ah (tP 3 84 (.int .i64 (n:Int))) w PK (λt w=>DoX ah (mBin .shr 84 t (.int .u64 1)) w PK2 λt w=>DoX ah (tP 84 3 t) w PK3 K)=K (.int .i64 ((n / 2:Nat):Int)) w:=by
 rw[Ws (show (Tryz.prog.underlying 3).isSome=av by kernel_rfl) asW,GH om,shr1 om om,
  Ws (show (Tryz.prog.underlying 84).isSome=av by kernel_rfl) anT,aA om om]
 rfl
theorem V1 {g cap N jm:Nat}{cv:aq}{ok:Pc->Prop}{M:Mem}(hc:CmpOk M cv ok)(hm:T[jm]?=ax (.mem M))(hl:N<=1000000000):∀(f a m b:Nat) {w:ao} {PK:PKT} {K:VWP} {ps:List Pc},b - a<=f->a < m->m < b->b<=N->ps.length=N->OwnS S w0 w (pcE (.slice (ax ⟨g,0,aw⟩) N cap) ps::T)->(∀x∈ps,ok x) ->
  (∀W,(∀x∈Srt.sym pd pw f a m b ps,ok x)->OwnS S w0 W (pcE (.slice (ax ⟨g,0,aw⟩) N cap) (Srt.sym pd pw f a m b ps)::T)->K (.tuple #[]) W) ->
  CallX ah 366 #[.slice (ax ⟨g,0,aw⟩) N cap,.int .i64 (a:Int),.int .i64 (m:Int),.int .i64 (b:Int),cv] w PK K
|0,a,m,b,_,_,_,_,hf,a8,b0,_,_,_,_,_=>by omega
|f+1,a,m,b,w,PK,K,ps,hf,a8,b0,b1,V,l,B,k=>by
  generalize u:Srt.sym pd pw (f+1) a m b ps=R at k;refine fH (fF (k0:=RetK λv W=>v=.tuple #[]∧(∀x∈R,ok x)∧OwnS S w0 W (pcE (.slice (ax ⟨g,0,aw⟩) N cap) R::T)) ?_) (λe W ⟨v,he,hv,L,l⟩=>by subst he;subst hv;exact k W L l);unfold dE nz;obtain⟨cf,c4,c5,b2,b3,b4⟩:=hc.run;have b5:∀{W:ao} {e:Ent},OwnS S w0 W (e::T)->M.has W:=λl=>l.hasM (jm+1) (by rw[anM];exact hm);have cmp:∀{C:aq->Prop} {y:List Pc} {i j:Nat},y.length=N->(∀x∈y,ok x)->i < N->j < N->C (.int .i64 (cmpI (pw (y.getD i pd)) (pw (y.getD j pd))))->QDo ah (λW=>OwnS S w0 W (pcE (.slice (ax ⟨g,0,aw⟩) N cap) y::T)) (fY cv #[(y.getD i pd).1,(y.getD j pd).1]) C:=by
   intro C y i j hz A hi hj hC;subst b2;exact XD b3 _ (λW h=>(b4 W _ _ (b5 h) (A _ (sH om)) (A _ (sH om))).mono λv w' r=>⟨r.1,h.grow r.2⟩) hC
  unfold Srt.sym at u;simp only[rs];rw[aA om om,show (m:Int) - (a:Int)=((m - a:Nat):Int) by omega];by_cases L:m - a=1
  ·rw[amB L] at u;simp only[show ai (((m - a:Nat):Int)=1)=av from amG om,i_t];generalize Y:Srt.bs (λh=>!Srt.lt pw (ps.getD h pd) (ps.getD a pd)) (b - m) m b=s at u;refine loop (λvs W=>∃(i j f:Nat),vs=[.int .i64 (i:Int),.int .i64 (j:Int)]∧m<=i∧i<=j∧j<=b∧j - i<=f∧Srt.bs (λh=>!Srt.lt pw (ps.getD h pd) (ps.getD a pd)) f i j=s∧OwnS S w0 W (pcE (.slice (ax ⟨g,0,aw⟩) N cap) ps::T)) (λvs _=>n1 vs - n0 vs) ⟨m,b,b - m,rfl,om,om,om,om,Y,l⟩ ?_;clear l Y;rintro vs w1 ⟨i,j,f',rfl,hi,a1,hj,a6,z,l⟩ _;simp only[cT,gd,rs,nz];by_cases D:(i:Int) < (j:Int)
   ·simp only[D,amD,i_t];obtain⟨f',rfl⟩:∃q,f'=q+1:=⟨f' - 1,om⟩;unfold Srt.bs at z;rw[amB om] at z;rw[aA om om,show (i:Int)+(j:Int)=((i+j:Nat):Int) by omega,Pe om];refine dW (λW=>OwnS S w0 W (pcE (.slice (ax ⟨g,0,aw⟩) N cap) ps::T)) l.drew ?_;refine q_do _ (λW=>pP om W) (q_at _ (λW h=>xF (h.at_ 0 rfl) om) ?_);refine q_do _ (λW=>pP om W) (q_at _ (λW h=>xF (h.at_ 0 rfl) om) ?_);refine cmp V B om om (NO ?_);rw[Ln];intro w2 l;by_cases o:pw (ps.getD ((i+j) / 2) pd) < pw (ps.getD a pd)
    ·rw[amA (by have e:Srt.lt pw (ps.getD ((i+j) / 2) pd) (ps.getD a pd)=true:=amG o;rw[e];decide)] at z;simp only[o,amD,i_t,rs];rw[aA om om,show (((i+j) / 2:Nat):Int)+1=(((i+j) / 2+1:Nat):Int) by omega];exact aY ⟨(i+j) / 2+1,j,f',rfl,om,om,om,om,z,l⟩ (by simp[n0,n1,RowKit.intOf];omega)
    ·rw[amB (by have e:Srt.lt pw (ps.getD ((i+j) / 2) pd) (ps.getD a pd)=false:=amE o;rw[e];rfl)] at z;simp only[o,amF,i_f];exact aY ⟨i,(i+j) / 2,f',rfl,om,om,om,om,z,l⟩ (by simp[n0,n1,RowKit.intOf];omega)
   ·simp only[D,amF,i_f];have P:s=i:=by
     rw[<-z];cases f' with
    |zero=>rfl
    |succ q=>unfold Srt.bs;rw[amA om]
    subst P;refine loop (λvs W=>∃(q:Nat) (y:List Pc),vs=[.int .i64 (q:Int)]∧a<=q∧(q<=s - 1∨q=a)∧y.length=N∧(∀x∈y,ok x)∧Srt.up pd (s - 1 - q) q y=R∧OwnS S w0 W (pcE (.slice (ax ⟨g,0,aw⟩) N cap) y::T)) (λvs _=>s - n0 vs) ⟨a,ps,rfl,om,.inr rfl,V,B,u,l⟩ ?_;clear l;rintro vs w2 ⟨q,y,rfl,hq,c6,hz,A,t,l⟩ _;simp only[cZ,gd,rs,iN,bnx];rw[aA (n:=(s:Int) - 1) om om];by_cases E:(q:Int) < (s:Int) - 1
    ·simp only[E,amD,i_t];obtain⟨r,hr⟩:∃r,s - 1 - q=r+1:=⟨s - 1 - q - 1,om⟩;rw[hr] at t;unfold Srt.up at t;refine dW (λW=>OwnS S w0 W (pcE (.slice (ax ⟨g,0,aw⟩) N cap) y::T)) l.drew ?_;refine p_do _ (λ_=>Iy) ?_;rw[aA om om,show (q:Int)+1=((q+1:Nat):Int) by omega];refine pJ ?_;rw[aA om om,show (q:Int)+1=((q+1:Nat):Int) by omega];refine q_do _ (λW=>pP om W) (q_at _ (λW h=>xF (h.at_ 0 rfl) om) ?_);refine q_do _ (λW=>pP om W) (q_at _ (λW h=>xF (h.at_ 0 rfl) om) ?_);refine q_do _ (λW=>pP om W) ?_;intro w3 l;subst hz;refine o_sw hc l A om om λw4 l=>?_
     try simp only[rs]
     try rw[aA (n:=(q:Int)+1) om om,show (q:Int)+1=((q+1:Nat):Int) by omega]
     refine aY ⟨q+1,_,rfl,om,.inl om,Srt.E6,λx hx=>A x (ml om om hx),?_,l⟩ (by simp[n0,RowKit.intOf];omega);rw[show s - 1 - (q+1)=r by omega];exact t
    ·simp only[E,amF,i_f];rw[show s - 1 - q=0 by omega] at t;unfold Srt.up at t;subst t;exact retK ⟨rfl,A,l⟩
  rw[amA L] at u;simp only[show ai (((m - a:Nat):Int)=1)=au from amE om,i_f];rw[aA om om,show (b:Int) - (m:Int)=((b - m:Nat):Int) by omega];by_cases h2:b - m=1
  ·rw[amB h2] at u;simp only[show ai (((b - m:Nat):Int)=1)=av from amG om,i_t];generalize Y:Srt.bs (λh=>Srt.lt pw (ps.getD m pd) (ps.getD h pd)) (m - a) a m=s at u;refine loop (λvs W=>∃(i j f:Nat),vs=[.int .i64 (i:Int),.int .i64 (j:Int)]∧a<=i∧i<=j∧j<=m∧j - i<=f∧Srt.bs (λh=>Srt.lt pw (ps.getD m pd) (ps.getD h pd)) f i j=s∧OwnS S w0 W (pcE (.slice (ax ⟨g,0,aw⟩) N cap) ps::T)) (λvs _=>n1 vs - n0 vs) ⟨a,m,m - a,rfl,om,om,om,om,Y,l⟩ ?_;clear l Y;rintro vs w1 ⟨i,j,f',rfl,hi,a1,hj,a6,z,l⟩ _;simp only[cX,gd,rs,nz];by_cases D:(i:Int) < (j:Int)
   ·simp only[D,amD,i_t];obtain⟨f',rfl⟩:∃q,f'=q+1:=⟨f' - 1,om⟩;unfold Srt.bs at z;rw[amB om] at z;rw[aA om om,show (i:Int)+(j:Int)=((i+j:Nat):Int) by omega,Pe om];refine dW (λW=>OwnS S w0 W (pcE (.slice (ax ⟨g,0,aw⟩) N cap) ps::T)) l.drew ?_;refine q_do _ (λW=>pP om W) (q_at _ (λW h=>xF (h.at_ 0 rfl) om) ?_);refine q_do _ (λW=>pP om W) (q_at _ (λW h=>xF (h.at_ 0 rfl) om) ?_);refine cmp V B om om (NO ?_);rw[Ln];refine q_do _ (λW=>YV) ?_;intro w2 l;by_cases o:pw (ps.getD m pd) < pw (ps.getD ((i+j) / 2) pd)
    ·rw[amB (og o)] at z;simp only[o,amD,aoB,i_f];exact aY ⟨i,(i+j) / 2,f',rfl,om,om,om,om,z,l⟩ (by simp[n0,n1,RowKit.intOf];omega)
    ·rw[amA (oh o)] at z;simp only[o,amF,aoD,i_t,rs];rw[aA om om,show (((i+j) / 2:Nat):Int)+1=(((i+j) / 2+1:Nat):Int) by omega];exact aY ⟨(i+j) / 2+1,j,f',rfl,om,om,om,om,z,l⟩ (by simp[n0,n1,RowKit.intOf];omega)
   ·simp only[D,amF,i_f];have P:s=i:=by
     rw[<-z];cases f' with
    |zero=>rfl
    |succ q=>unfold Srt.bs;rw[amA om]
    subst P;refine loop (λvs W=>∃(q:Nat) (y:List Pc),vs=[.int .i64 (q:Int)]∧s<=q∧q<=m∧y.length=N∧(∀x∈y,ok x)∧Srt.down pd (q - s) q y=R∧OwnS S w0 W (pcE (.slice (ax ⟨g,0,aw⟩) N cap) y::T)) (λvs _=>n0 vs) ⟨m,ps,rfl,om,om,V,B,u,l⟩ ?_;clear l;rintro vs w2 ⟨q,y,rfl,hq,c7,hz,A,t,l⟩ _;simp only[cS,gd,rs,iN,bnx];by_cases E:(s:Int) < (q:Int)
    ·simp only[E,amD,i_t];obtain⟨q,rfl⟩:∃p,q=p+1:=⟨q - 1,om⟩;obtain⟨r,hr⟩:∃r,q+1 - s=r+1:=⟨q - s,om⟩;rw[hr] at t;unfold Srt.down at t;rw[aqQ] at t;refine dW (λW=>OwnS S w0 W (pcE (.slice (ax ⟨g,0,aw⟩) N cap) y::T)) l.drew ?_;refine p_do _ (λ_=>sR) ?_;rw[aA om om,show ((q+1:Nat):Int) - 1=(q:Int) by omega];refine q_do _ (λ_=>sR) ?_;rw[aA om om,show ((q+1:Nat):Int) - 1=(q:Int) by omega];refine q_do _ (λW=>pP om W) (q_at _ (λW h=>xF (h.at_ 0 rfl) om) ?_);refine q_do _ (λW=>pP om W) (q_at _ (λW h=>xF (h.at_ 0 rfl) om) ?_);refine q_do _ (λW=>pP om W) ?_;intro w3 l;subst hz;refine o_sw hc l A om om λw4 l=>?_
     try simp only[rs]
     try rw[aA (n:=((q+1:Nat):Int) - 1) om om,show ((q+1:Nat):Int) - 1=(q:Int) by omega]
     refine aY ⟨q,_,rfl,om,om,Srt.E6,λx hx=>A x (ml om om hx),?_,l⟩ (by simp[n0,RowKit.intOf]);rw[show q - s=r by omega];exact t
    ·simp only[E,amF,i_f];rw[show q - s=0 by omega] at t;unfold Srt.down at t;subst t;exact retK ⟨rfl,A,l⟩
  rw[amA h2] at u;simp only[show ai (((b - m:Nat):Int)=1)=au from amE om,i_f];rw[aA (n:=(a:Int)+(b:Int)) om om,show (a:Int)+(b:Int)=((a+b:Nat):Int) by omega,Pe om];dsimp only at u;unfold Srt.symS at u;generalize b9:(a+b) / 2=d at u;simp only[rs];rw[aA (n:=(d:Int)+(m:Int)) om om,show (d:Int)+(m:Int)=((d+m:Nat):Int) by omega];generalize X:(if d < m then d+m - b else a)=lo at u;generalize Z:(if d < m then d else m)=hi at u;have c0:a<=lo∧d+m - b<=lo∧(lo=a∨lo=d+m - b):=by
   rw[<-X];split<;>omega
  have c3:hi<=m∧hi<=d∧lo<=hi∧(hi=m∨hi=d):=by
   rw[<-Z,<-X];split<;>omega
  refine join λJ hJ=>?_;have fin:∀W,OwnS S w0 W (pcE (.slice (ax ⟨g,0,aw⟩) N cap) ps::T)->J [.int .i64 (lo:Int),.int .i64 (hi:Int)] W:=by
   intro W l;refine hJ _ _ λ_=>?_;simp only[dB,gd,rs,nz];rw[aA (n:=((d+m:Nat):Int) - 1) om om,show ((d+m:Nat):Int) - 1=((d+m - 1:Nat):Int) by omega];generalize Y:Srt.bs (λc=>Srt.lt pw (ps.getD (d+m - 1 - c) pd) (ps.getD c pd)) (b - a) lo hi=s at u;refine loop (λvs W=>∃(i j f:Nat),vs=[.int .i64 (i:Int),.int .i64 (j:Int)]∧lo<=i∧i<=j∧j<=hi∧j - i<=f∧Srt.bs (λc=>Srt.lt pw (ps.getD (d+m - 1 - c) pd) (ps.getD c pd)) f i j=s∧OwnS S w0 W (pcE (.slice (ax ⟨g,0,aw⟩) N cap) ps::T)) (λvs _=>n1 vs - n0 vs) ⟨lo,hi,b - a,rfl,om,om,om,om,Y,l⟩ ?_;clear l Y;rintro vs w1 ⟨i,j,f',rfl,c8,a1,hj,a6,z,l⟩ _;simp only[dA,gd,rs,nz];by_cases D:(i:Int) < (j:Int)
   ·simp only[D,amD,i_t];obtain⟨f',rfl⟩:∃q,f'=q+1:=⟨f' - 1,om⟩;unfold Srt.bs at z;rw[amB om] at z;rw[aA (n:=(i:Int)+(j:Int)) om om,show (i:Int)+(j:Int)=((i+j:Nat):Int) by omega,Pe om];refine dW (λW=>OwnS S w0 W (pcE (.slice (ax ⟨g,0,aw⟩) N cap) ps::T)) l.drew ?_;refine q_do _ (λ_=>sR) ?_;rw[aA (n:=((d+m - 1:Nat):Int) - (((i+j) / 2:Nat):Int)) om om,show ((d+m - 1:Nat):Int) - (((i+j) / 2:Nat):Int)=((d+m - 1 - (i+j) / 2:Nat):Int) by omega];refine q_do _ (λW=>pP om W) (q_at _ (λW h=>xF (h.at_ 0 rfl) om) ?_);refine q_do _ (λW=>pP om W) (q_at _ (λW h=>xF (h.at_ 0 rfl) om) ?_);refine cmp V B om om (NO ?_);rw[Ln];refine q_do _ (λW=>YV) ?_;intro w2 l;by_cases o:pw (ps.getD (d+m - 1 - (i+j) / 2) pd) < pw (ps.getD ((i+j) / 2) pd)
    ·rw[amB (og o)] at z;simp only[o,amD,aoB,i_f];exact aY ⟨i,(i+j) / 2,f',rfl,om,om,om,om,z,l⟩ (by simp[n0,n1,RowKit.intOf];omega)
    ·rw[amA (oh o)] at z;simp only[o,amF,aoD,i_t,rs];rw[aA om om,show (((i+j) / 2:Nat):Int)+1=(((i+j) / 2+1:Nat):Int) by omega];exact aY ⟨(i+j) / 2+1,j,f',rfl,om,om,om,om,z,l⟩ (by simp[n0,n1,RowKit.intOf];omega)
   ·simp only[D,amF,i_f];have P:s=i:=by
     rw[<-z];cases f' with
    |zero=>rfl
    |succ q=>unfold Srt.bs;rw[amA om]
    subst P;rw[aA (n:=((d+m:Nat):Int) - (s:Int)) om om,show ((d+m:Nat):Int) - (s:Int)=((d+m - s:Nat):Int) by omega];generalize he:d+m - s=e at u;have a7:∀(y x1:List Pc) (W1:ao),(if s < m∧m < e then Srt.rot pd (e - s) (m - s) (e - m) m ps else ps)=x1->True:=λ_ _ _ _=>trivial;generalize H:(if s < m∧m < e then Srt.rot pd (e - s) (m - s) (e - m) m ps else ps)=x1 at u;refine join λJ2 b6=>?_;have fin2:∀W,x1.length=N->(∀x∈x1,ok x)->OwnS S w0 W (pcE (.slice (ax ⟨g,0,aw⟩) N cap) x1::T)->J2 [] W:=by
     intro W O F l;refine b6 _ _ λ_=>?_;simp only[cR,gd,rs,nz];generalize I:(if a < s∧s < d then Srt.sym pd pw f a s d x1 else x1)=x2 at u;refine join λJ3 b7=>?_;have fin3:∀W,x2.length=N->(∀x∈x2,ok x)->OwnS S w0 W (pcE (.slice (ax ⟨g,0,aw⟩) N cap) x2::T)->J3 [] W:=by
      intro W b8 G l;refine b7 _ _ λ_=>?_;simp only[cY,gd,rs,nz];by_cases Q:d < e
      ·simp only[show ai ((d:Int) < (e:Int))=av from amG om,rs];by_cases U:e < b
       ·simp only[show ai ((e:Int) < (b:Int))=av from amG om,i_t,rs];rw[amB ⟨Q,U⟩] at u;refine V1 hc hm hl f d e b om Q U b1 b8 l G λW L l=>?_;rw[u] at L l;exact retK ⟨rfl,L,l⟩
       ·simp only[show ai ((e:Int) < (b:Int))=au from amE om,i_f,rs];rw[amA (λh=>U h.2)] at u;rw[u] at G l;exact retK ⟨rfl,G,l⟩
      ·simp only[show ai ((d:Int) < (e:Int))=au from amE om,i_f,rs];rw[amA (λh=>Q h.1)] at u;rw[u] at G l;exact retK ⟨rfl,G,l⟩
     by_cases Q:a < s
     ·simp only[show ai ((a:Int) < (s:Int))=av from amG om,rs];by_cases U:s < d
      ·simp only[show ai ((s:Int) < (d:Int))=av from amG om,i_t,rs];rw[amB ⟨Q,U⟩] at I;refine V1 hc hm hl f a s d om Q U om O l F λW L l=>?_;rw[I] at L l;exact fin3 W (by rw[<-I,Srt.Gt];exact O) L l
      ·simp only[show ai ((s:Int) < (d:Int))=au from amE om,i_f,rs];rw[amA (λh=>U h.2)] at I;rw[I] at O F l;exact fin3 W O F l
     ·simp only[show ai ((a:Int) < (s:Int))=au from amE om,i_f,rs];rw[amA (λh=>Q h.1)] at I;rw[I] at O F l;exact fin3 W O F l
    by_cases Q:s < m
    ·simp only[show ai ((s:Int) < (m:Int))=av from amG om,rs];by_cases U:m < e
     ·simp only[show ai ((m:Int) < (e:Int))=av from amG om,i_t,rs];rw[amB ⟨Q,U⟩] at H;refine akH hc V l B Q U om hl λW L l=>?_;rw[H] at L l;exact fin2 W (by rw[<-H,Srt.Kx];exact V) L l
     ·simp only[show ai ((m:Int) < (e:Int))=au from amE om,i_f,rs];rw[amA (λh=>U h.2)] at H;subst H;exact fin2 w1 V B l
    ·simp only[show ai ((s:Int) < (m:Int))=au from amE om,i_f,rs];rw[amA (λh=>Q h.1)] at H;subst H;exact fin2 w1 V B l
  by_cases c:d < m
  ·simp only[show ai ((d:Int) < (m:Int))=av from amG om,i_t,rs];rw[amB c] at X Z;rw[aA (n:=((d+m:Nat):Int) - (b:Int)) om om,show ((d+m:Nat):Int) - (b:Int)=(lo:Int) by omega,show (d:Int)=(hi:Int) by omega];exact fin w l
  ·simp only[show ai ((d:Int) < (m:Int))=au from amE om,i_f,rs];rw[amA c] at X Z;rw[show (a:Int)=(lo:Int) by omega,show (m:Int)=(hi:Int) by omega];exact fin w l
end
end
section
open Eng Go.RowKit
section
variable {w:ao}{PK PK2 PK3:PKT}{K:VWP}{S:Nat->Prop}{w0:ao}{L T:List Ent}
theorem WY {g N:Nat}{ok:Pc->Prop}{ps:List Pc}(t:CmpOk M cv ok)(hm:T[jm]?=ax (.mem M))(V:N<=100000000)(B:ps.length=N)(b:OwnS S w0 w (pcE (.slice (ax ⟨g,0,aw⟩) N cap) ps::T))(u:∀x∈ps,ok x)
  (k:∀W,(∀x∈Srt.JG pd pw ps,ok x)->OwnS S w0 W (pcE (.slice (ax ⟨g,0,aw⟩) N cap) (Srt.JG pd pw ps)::T)->K (.tuple #[]) W) :
  CallX ah 361 #[.slice (ax ⟨g,0,aw⟩) N cap,.int .i64 (N:Int),cv] w PK K:=by
 unfold Srt.JG at k;rw[B] at k;generalize y:Srt.rounds pd pw (N+1) 20 (Srt.blk pd pw 20 (N+1) 0 ps)=R at k;refine fH (fL (k0:=RetK λv W=>v=.tuple #[]∧(∀x∈R,ok x)∧OwnS S w0 W (pcE (.slice (ax ⟨g,0,aw⟩) N cap) R::T)) ?_) (λe W ⟨v,he,G,m,b⟩=>by subst he;subst G;exact k W m b);unfold dP nz;generalize C:Srt.blk pd pw 20 (N+1) 0 ps=Z at y;refine loop (λvs W=>∃(a f:Nat) (d:List Pc),vs=[.int .i64 (a:Int),.int .i64 ((a+20:Nat):Int)]∧a<=N∧N < a+f∧d.length=N∧(∀x∈d,ok x)∧Srt.blk pd pw 20 f a d=Z∧OwnS S w0 W (pcE (.slice (ax ⟨g,0,aw⟩) N cap) d::T)) (λvs _=>N+20 - n0 vs) ⟨0,N+1,ps,rfl,om,om,B,u,C,b⟩ ?_;clear b C;rintro vs X ⟨a,f,d,rfl,D,hf,j,h,l,b⟩ _;simp only[dI,gd,rs,nz];obtain⟨f,rfl⟩:∃q,f=q+1:=⟨f - 1,om⟩;unfold Srt.blk at l;rw[j] at l;by_cases r:((a+20:Nat):Int)<=(N:Int)
 ·simp only[r,amD,i_t];rw[amB om] at l;refine ahG t hm j b h om D om λw2 m b=>?_
  try simp only[rs]
  rw[aA om om];exact aY ⟨a+20,f,_,by congr 2,om,om,by rw[Srt.Uy];exact j,m,l,b⟩ (by simp[n0,RowKit.intOf];omega)
 ·simp only[r,amF,i_f];rw[amA om] at l;refine ahG t hm j b h om D om λw2 m b=>?_;rw[l] at m b;have s:Z.length=N:=by rw[<-l,Srt.Uy];exact j
  refine loop (λvs W=>∃(n f:Nat) (d:List Pc),vs=[.int .i64 (n:Int)]∧1<=n∧N < f+n∧d.length=N∧(∀x∈d,ok x)∧Srt.rounds pd pw f n d=R∧OwnS S w0 W (pcE (.slice (ax ⟨g,0,aw⟩) N cap) d::T)) (λvs _=>N - n0 vs) ⟨20,N+1,Z,rfl,om,om,s,m,y,b⟩ ?_;clear b y l m s;rintro vs w3 ⟨n,f2,d,rfl,hn,H,j,h,l,b⟩ _;simp only[dG,gd,rs,nz];by_cases o:(n:Int) < (N:Int)
  ·simp only[o,amD,i_t];obtain⟨f2,rfl⟩:∃q,f2=q+1:=⟨f2 - 1,om⟩;unfold Srt.rounds at l;rw[j,amB om] at l;rw[aA om om];generalize E:Srt.mrg pd pw n (N+1) 0 d=Y at l;have back:∀W,Y.length=N->(∀x∈Y,ok x)->OwnS S w0 W (pcE (.slice (ax ⟨g,0,aw⟩) N cap) Y::T)->Rb (λvs W=>∃(n f:Nat) (d:List Pc),vs=[.int .i64 (n:Int)]∧1<=n∧N < f+n∧d.length=N∧(∀x∈d,ok x)∧Srt.rounds pd pw f n d=R∧OwnS S w0 W (pcE (.slice (ax ⟨g,0,aw⟩) N cap) d::T)) (λvs _=>N - n0 vs) [.int .i64 (n:Int)] w3 [.int .i64 (IntKind.i64.wrap ((n:Int)*2))] W:=by
    intro W I z b;rw[aA om om,show (n:Int)*2=((2*n:Nat):Int) by omega];exact aY ⟨2*n,f2,Y,rfl,om,om,I,z,l,b⟩ (by simp[n0,RowKit.intOf];omega)
   refine loop (λvs W=>∃(a f:Nat) (d:List Pc),vs=[.int .i64 (a:Int),.int .i64 ((a+2*n:Nat):Int)]∧a<=N∧N < a+f∧d.length=N∧(∀x∈d,ok x)∧Srt.mrg pd pw n f a d=Y∧OwnS S w0 W (pcE (.slice (ax ⟨g,0,aw⟩) N cap) d::T)) (λvs _=>N+2*n - n0 vs) ⟨0,N+1,d,by congr 3;omega,om,om,j,h,E,b⟩ ?_;clear b E h j;rintro vs L ⟨a2,f3,d,rfl,O,P,j,h,i,b⟩ _;simp only[dF,gd,rs,nz];obtain⟨f3,rfl⟩:∃q,f3=q+1:=⟨f3 - 1,om⟩;unfold Srt.mrg at i;rw[j] at i;rw[aA (n:=(a2:Int)+(n:Int)) om om,show (a2:Int)+(n:Int)=((a2+n:Nat):Int) by omega];by_cases p:((a2+2*n:Nat):Int)<=(N:Int)
   ·simp only[p,amD,i_t];rw[amB om] at i;refine V1 t hm om (2*n) a2 (a2+n) (a2+2*n) om om om om j b h λF m b=>?_
    try simp only[rs]
    rw[aA (n:=(2:Int)*(n:Int)) om om,aA om om];exact aY ⟨a2+2*n,f3,_,by congr 4<;>omega,om,om,by rw[Srt.Gt];exact j,m,i,b⟩ (by simp[n0,RowKit.intOf];omega)
   ·simp only[p,amF,i_f];rw[amA om] at i;refine join λJ Q=>?_;have fin:∀W,Y.length=N->(∀x∈Y,ok x)->OwnS S w0 W (pcE (.slice (ax ⟨g,0,aw⟩) N cap) Y::T)->J [] W:=by
     intro W m U b;refine Q _ _ λ_=>?_;simp only[dJ,gd,rs,nz];exact back W m U b
    by_cases c:a2+n < N
    ·simp only[show ai (((a2+n:Nat):Int) < (N:Int))=av from amG om,i_t];rw[amB c] at i;refine V1 t hm om (N - a2) a2 (a2+n) N om om c om j b h λF m b=>?_;rw[i] at m b;exact fin F (by rw[<-i,Srt.Gt];exact j) m b
    ·simp only[show ai (((a2+n:Nat):Int) < (N:Int))=au from amE om,i_f];rw[amA c] at i;rw[i] at j h b;exact fin L j h b
  ·simp only[o,amF,i_f];have A:d=R:=by
    cases f2 with
   |zero=>exact l
   |succ q=>
     unfold Srt.rounds at l;rw[j,amA om] at l;exact l
   rw[A] at h b;exact retK ⟨rfl,h,b⟩
theorem Ze {g N:Nat}{ok:Pc->Prop}{ps:List Pc}(d:CmpOk M cv ok)(hm:T[jm]?=ax (.mem M))(e:N<=100000000)(f:ps.length=N)(a:OwnS S w0 w (pcE (.slice (ax ⟨g,0,aw⟩) N cap) ps::T))(b:∀x∈ps,ok x)
  (k:∀W c,c.Perm ps->Srt.srt pw c->OwnS S w0 W (pcE (.slice (ax ⟨g,0,aw⟩) N cap) c::T)->K (.tuple #[]) W) :
  CallX ah 351 #[.slice (ax ⟨g,0,aw⟩) N cap,cv] w PK K:=by
 refine⟨dD ?_⟩;unfold bP nz;rw[bQ aoZ];refine WY d hm e f a b λW h a=>?_;obtain⟨p,q⟩:=Srt.Vh pd pw ps;exact k W _ p q a
end
end
section
open Eng
def nF(t0 t1 t2 t8 w)(N1:JT)(K:KT):=nz f302 175 [N1] [nh 15 [8]] [] (zg [0,1,2,8] [t0,t1,t2,t8]) w K
def pY(t0 t1 t2 w)(K:KT):=nz f302 1 [] [(15,[8],λs v j w f=>nF (s 0) (s 1) (s 2) (vg v 0) w (f 0) K)] [] (zg [0,1,2] [t0,t1,t2]) w K
theorem zC:pY t0 t1 t2 w k0->Calls ah 302 #[t0,t1,t2] w k0:=cz [] [(7,[8])] func302
def nB(t0 t1 w)(K:KT):=nz f329 1 [] [] [] (zg [0,1] [t0,t1]) w K
theorem oD:nB t0 t1 w k0->Calls ah 329 #[t0,t1] w k0:=cw func329
def uY(t9 t85 t86 t87 w)(a:JT)(K:KT):=nz f298 45055 [a] [nh 57 [87]] [] (zg [9,85,86,87] [t9,t85,t86,t87]) w K
def uU(t6 t9 t10 t72 t73 w)(a:JT)(K:KT):=nz f298 22527 [a] [nh 49 [10,73],(57,[87],λs v j w f=>uY (s 9) (s 85) (s 86) (vg v 0) w (f 0) K)] [] (zg [6,9,10,72,73] [t6,t9,t10,t72,t73]) w K
def vR(t1 t6 t9 w)(K:KT):=nz f298 511 [] [(49,[10,73],λs v j w f=>uU (s 6) (s 9) (vg v 0) (s 72) (vg v 1) w (f 0) K)] [] (zg [1,6,9] [t1,t6,t9]) w K
def uZ(t6 t24 w)(N1:JT)(K:KT):=nz f298 1967 [N1] [nh 15 [6,24]] [] (zg [6,24] [t6,t24]) w K
def vP(t0 t1 t6 t22 t23 t24 w)(N1:JT)(K:KT):=nz f298 175 [N1] [nh 15 [6,24],(26,[6],λs v j w f=>uZ (vg v 0) (s 24) w (f 0) K),(38,[],λs v j w f=>vR (s 1) (s 6) (s 9) w K)] [(18,8)] (zg [0,1,6,22,23,24] [t0,t1,t6,t22,t23,t24]) w K
def Bn(t0 t1 w)(K:KT):=nz f298 1 [] [(15,[6,24],λs v j w f=>vP (s 0) (s 1) (vg v 0) (s 22) (s 23) (vg v 1) w (f 0) K)] [] (zg [0,1] [t0,t1]) w K
theorem Eh:Bn t0 t1 w k0->Calls ah 298 #[t0,t1] w k0:=cz [(13,[6]),(19,[])] [(7,[6,24]),(24,[10,73]),(28,[87])] func298
def qR(t0 t1 w)(K:KT):=nz f330 1 [] [] [] (zg [0,1] [t0,t1]) w K
theorem yH:qR t0 t1 w k0->Calls ah 330 #[t0,t1] w k0:=cw func330
def Dr(t0 t1 w)(K:KT):=nz f327 1 [] [] [] (zg [0,1] [t0,t1]) w K
theorem FT:Dr t0 t1 w k0->Calls ah 327 #[t0,t1] w k0:=cw func327
def zV(t0 w)(K:KT):=nz f345 1 [] [] [] (zg [0] [t0]) w K
theorem DF:zV t0 w k0->Calls ah 345 #[t0] w k0:=cw func345
def Bh(b c a w)(N1:JT)(K:KT):=
 bnx .add 3 a (iN 1) w K λd w=>lnx 341 b w K λe w=>bnx .lss 3 d e w K λf w=>IfX f (QuietX w (λD=>QDo ah D (mIA 341 b a) λg=>QDo ah D (aH 342 g) λh=>QDo ah D (mNil h) λi=>QDo ah D (mFA 344 i 0) λj=>QDo ah D (aH 3 j) λk=>QDo ah D (mBin .add 3 a (iN 1)) λl=>QDo ah D (mIA 341 b l) λm=>QDo ah D (aH 342 m) λn=>QDo ah D (mNil n) λo=>QDo ah D (mFA 344 o 0) λp=>QDo ah D (aH 3 p) λq=>QDo ah D (mBin .add 3 k q) λr=>QDo ah D (mIA 341 b a) λs=>QDo ah D (aH 342 s) λt=>QDo ah D (mBin .add 3 a (iN 1)) λu=>QDo ah D (mIA 341 b u) λv=>QDo ah D (aH 342 v) λx=>QDo ah D (aS 344 #[(0,r),(2,t),(3,x)]) λy=>
 ∀w,D w ->
 DoX ah (mBox 344 y) w (ay 9 (pk K)) λz w=>DoX ah (bN 341 1 #[(0,z)]) w (ay 9 (pk K)) λA w=>DoX ah (mB .append #[341,341] 341 #[au,au] #[c,A]) w (ay 9 (pk K)) λB w=>bnx .add 3 a (iN 2) w K λC w=>N1 [B,C] w)) (K (.returned c) w)
def EJ(t0 w)(K:KT):=nz f328 1 [] [(7,[3,4],λs v j w f=>Bh (s 0) (vg v 0) (vg v 1) w (f 0) K)] [] (zg [0] [t0]) w K
theorem GZ:EJ t0 w k0->Calls ah 328 #[t0] w k0:=cz [] [(3,[3,4])] func328
def fA(t0 t1 t2 w)(K:KT):=nz f344 1 [] [] [] (zg [0,1,2] [t0,t1,t2]) w K
theorem jG:fA t0 t1 t2 w k0->Calls ah 344 #[t0,t1,t2] w k0:=cw func344
def eP(t0 t1 t2 w)(K:KT):=nz f352 1 [] [] [(1,8)] (zg [0,1,2] [t0,t1,t2]) w K
theorem iL:eP t0 t1 t2 w k0->Calls ah 352 #[t0,t1,t2] w k0:=cw func352
end
section
open Eng Go.RowKit
def cnC (w s:Nat)(a b:aq):List Value:=[.int .i64 (w:Int),.int .i64 (s:Int),a,b]
abbrev cnE (c w s:Nat)(a b:aq):Ent:=.cells c (cnC w s a b) 344
theorem S8:fOff ah 344 0=ax 0:=krx
theorem YI:fOff ah 344 1=ax 1:=krx
theorem Uv:fOff ah 344 2=ax 2:=krx
theorem aeD:fOff ah 344 3=ax 3:=krx
def CnAt (A:Nat->Prop)(w:ao):aq->Cn->Prop
|v,.leaf wt s=>∃b,v=.pointer (ax ⟨b,0,aw⟩)∧A b∧(cnE b wt s (.pointer aw) (.pointer aw)).is w
|v,.node x y=>∃b va a,v=.pointer (ax ⟨b,0,aw⟩)∧A b∧(cnE b (x.wt+y.wt) 0 va a).is w∧CnAt A w va x∧CnAt A w a y
theorem PG (h:M.le N){T:TypeId}(a:M.A b)(k:(Ent.cells b cs T).is M.w):(Ent.cells b cs T).is N.w:=by
 show N.w.heap[b]?=_;rw[h.has b a];exact k
theorem CnAt.le {M N:Mem}(h:M.le N):∀{c:Cn} {v:aq},CnAt M.A M.w v c->CnAt N.A N.w v c
|.leaf wt s,v,⟨b,d,a,e⟩=>⟨b,d,h.A b a,PG h a e⟩
|.node x y,v,⟨b,va,f,d,a,e,g,i⟩=>⟨b,va,f,d,h.A b a,PG h a e,CnAt.le h g,CnAt.le h i⟩
theorem jU (a:M.has W){T:TypeId}(c:M.A b)(k:(Ent.cells b cs T).is M.w):(Ent.cells b cs T).is W:=by
 show W.heap[b]?=_;rw[a b c];exact k
theorem CnAt.ptr {c:Cn}(h:CnAt A w v c):∃b,v=.pointer (ax ⟨b,0,aw⟩)∧A b:=by
 cases c with
|leaf wt s=>obtain⟨b,a,d,_⟩:=h;exact⟨b,a,d⟩
|node x y=>obtain⟨b,_,_,a,d,_⟩:=h;exact⟨b,a,d⟩
theorem CnAt.wt {M:Mem}{v:aq}{c:Cn}(h:CnAt M.A M.w v c):∃b s va a,v=.pointer (ax ⟨b,0,aw⟩)∧M.A b∧(cnE b c.wt s va a).is M.w:=by
 cases c with
|leaf wt s=>obtain⟨b,d,e,f⟩:=h;exact⟨b,s,_,_,d,e,f⟩
|node x y=>obtain⟨b,va,a,d,e,f,_⟩:=h;exact⟨b,0,va,a,d,e,f⟩
def okM (M:Mem)(x:Pc):Prop:=CnAt M.A M.w x.1 x.2
theorem Mu (a b:Nat)(w:ao):Ret ah 353 #[.int .i64 (a:Int),.int .i64 (b:Int)] w (λv w'=>v=.int .i64 (cmpI a b)∧w=w'):=by
 refine aZ λK c=>Aw ?_;unfold sF nz;refine c_eq (Jj a w) (c_eq (Jj b w) ?_);unfold cmpI at c;simp only[rs];by_cases d:a < b
 ·simp only[show ai ((a:Int) < (b:Int))=av from amG om,i_t];rw[amB d] at c;exact c _ _ ⟨rfl,rfl⟩
 ·simp only[show ai ((a:Int) < (b:Int))=au from amE om,i_f];rw[amA d] at c;by_cases e:b < a
  ·simp only[show ai ((b:Int) < (a:Int))=av from amG om,i_t];rw[amB e] at c;exact c _ _ ⟨rfl,rfl⟩
  ·simp only[show ai ((b:Int) < (a:Int))=au from amE om,i_f];rw[amA e] at c;exact c _ _ ⟨rfl,rfl⟩
theorem Hh {c:Cn}(a:M.has W)(h:CnAt M.A M.w v c):Ret ah 345 #[v] W (λr w'=>r=.int .i64 (c.wt:Int)∧W=w'):=by
 refine aZ λK d=>DF ?_;unfold zV nz;obtain⟨b,s,va,e,rfl,f,g⟩:=h.wt;rw[bG,aO S8];refine aD (aB aU (aI (T:=344) (cs:=cnC c.wt s va e) (jU a f g) (i:=0) rfl)) |>.mpr ?_;exact d _ _ ⟨rfl,rfl⟩
theorem Di:cN ah 345=true:=krx
theorem Lg:cN ah 352=true:=krx
theorem aiE:eD ah 359=true:=krx
def wtF:Value:=.func (.func 345) #[] #[]
abbrev fcE (b:Nat):Ent:=.cells b [wtF] 359
theorem XA {x y:Pc}(b:M.has W)(e:M.A fb)(f:(fcE fb).is M.w)(g:okM M x)(j:okM M y) :
  Ret ah 352 #[x.1,y.1,.pointer (ax ⟨fb,0,aw⟩)] W (λv w'=>v=.int .i64 (cmpI (pw x) (pw y))∧Below W.heap.size W w'):=by
 refine aZ λK k=>iL ?_;unfold eP nz;have d:∀{W:ao},M.has W->(aH 359 (.pointer (ax ⟨fb,0,aw⟩))).run ah W=.ok (.value wtF) W:=λb=>aB aiE (aI (T:=359) (cs:=[wtF]) (jU b e f) (i:=0) rfl);have c:=Own.start W;refine dW (λV=>Own W V []) c.drew ?_;have a:∀{V:ao},Own W V []->M.has V:=λh=>Mem.Mh b h.below;refine q_at _ (λV h=>d (a h)) ?_;refine XD Di (.int .i64 (pw x:Int)) (λV h=>(Hh (a h) g).mono λv w' r=>⟨r.1,by rw[<-r.2];exact h⟩) ?_;refine q_at _ (λV h=>d (a h)) ?_;refine XD Di (.int .i64 (pw y:Int)) (λV h=>(Hh (a h) j).mono λv w' r=>⟨r.1,by rw[<-r.2];exact h⟩) ?_;refine mG (.int .i64 (cmpI (pw x) (pw y))) (λV h=>(Mu (pw x) (pw y) V).mono λv w' r=>⟨r.1,by rw[<-r.2];exact h⟩) ?_;intro V l;exact k _ _ ⟨rfl,l.done⟩
theorem agA (c:M.A fb)(d:(fcE fb).is M.w):CmpOk M (.func (.func 352) #[] #[.pointer (ax ⟨fb,0,aw⟩)]) (okM M) where
 ptr:=λx a=>by
  obtain⟨b,e,_⟩:=CnAt.ptr a;rw[e];exact⟨rfl,rfl⟩
 run:=⟨_,_,_,rfl,Lg,λW x y f a g=>XA f c d a g⟩
theorem KN:elB ah 342 1 8=true:=krx
theorem adD:eD ah 341=true:=krx
section
variable {w:ao}{PK:PKT}{K:VWP}{S:Nat->Prop}{w0:ao}{L T:List Ent}
theorem U4 {ps:List Pc}(h:∀x∈ps,okM M x):∀u∈pcW ps,u.oneCell'=true:=by
 intro u hu;obtain⟨x,a,rfl⟩:=anK.1 hu;obtain⟨b,c,_⟩:=CnAt.ptr (h x a);rw[c];rfl
theorem NI (a b:List Pc):pcW (a++b)=pcW a++pcW b:=by simp[pcW]
theorem abN (o:OwnS S w0 w L)(p:0 < m)(t:m<=1000000000)
  (k:∀b c w',m<=c->OwnS S w0 w' (.urow 342 1 (.slice (ax ⟨b,0,aw⟩) 0 c) 0 []::L)->K (.slice (ax ⟨b,0,aw⟩) m c) w') :
  DoX ah (mB .append #[341,3] 341 cb #[.slice aw 0 0,.int .i64 (m:Int)]) w PK K:=by
 obtain⟨i,z,hi,q,r,f,n⟩:=kD KN;have a:(Builtin.firstCells i.size 0 (.slice aw 0 0)).run ah w.drew=.ok ([]:List aq).toArray w.drew:=by
  simp[Builtin.firstCells]
 have g:=grownCap_ge w (0+m) 0 342;have hle:=grownCap_le_maxLen w (0+m) 0 342 (by simp only[maxLen];omega);have s:=Lib.run_append_grow_zeros (P:=ah) w 341 3 341 342 i z .i64 .i64 aoZ anT hi q aw 0 0 [] a m p om om om (by
   rw[f];omega) (by rw[f];exact growslice_fits om om)
 have h:∀x,(Builtin.zeroCells z.cells x).toList.length=x*1:=by intro x;simp[Builtin.zeroCells,n]
 obtain⟨d,j⟩:∃d,d=(Builtin.zeroCells z.cells m).toList++(Builtin.zeroCells z.cells (grownCap w (0+m) 0 342 - (0+m))).toList:=⟨_,rfl⟩;have hlen:d.length=grownCap w (0+m) 0 342:=by
  rw[j,amC,h,h];omega
 have key:=(o.drew).alloc d 342;have e:d.toArray=([]:List aq).toArray++Builtin.zeroCells z.cells m++Builtin.zeroCells z.cells (grownCap w (0+m) 0 342 - (0+m)):=by
  rw[j];simp
 have l:(mB .append #[341,3] 341 cb #[.slice aw 0 0,.int .i64 (m:Int)]).run ah w=.ok (.value (.slice (ax ⟨w.heap.size,0,aw⟩) (0+m) (grownCap w (0+m) 0 342))) (w.drew.alloc (.cells d.toArray 342)):=by
  rw[e];simp[mB,builtin,s]
 have hu:=key.toU 1 0 (grownCap w (0+m) 0 342) om om (by simp only[maxLen] at hle;exact hle);rw[apI,apX] at hu;rw[amO] at l hu g;exact tG l (k _ _ _ g hu)
theorem agF:(Tryz.prog.info? 341).map (·.size)=ax 1:=krx
theorem agN (d:OwnS S w0 w L)(g:0 < m)(h:m<=1000000000)(k:∀v W,OwnS S w0 W (.urow 342 1 v 0 []::L)->K v W):CallX ah 360 #[.slice aw 0 0,.int .i64 (m:Int)] w PK K:=by
 refine fH (eE (k0:=RetK λv W=>OwnS S w0 W (.urow 342 1 v 0 []::L)) ?_) (λe W ⟨v,he,d⟩=>by subst he;exact k v W d);unfold cI nz;refine join λJ i=>?_;simp only[rs,show ai ((m:Int) < 0)=au from amE om,i_f];refine i _ _ λ_=>?_;unfold cC nz;refine join λl f=>?_;rw[Py aoZ,bQ aoZ];simp only[rs];have j:IntKind.i64.wrap (((0:Nat):Int) - ((0:Nat):Int))=0:=aA om om;rw[j];rw[aA om om];simp only[show ai ((0:Int) < (m:Int) - 0)=av from amG om,i_t];rw[Py aoZ,Int.sub_zero];have es:∀{PK:PKT} {K:VWP},DoX ah (eI 341 (.slice aw 0 0) aw (ax (.int .i64 ((0:Nat):Int))) aw) w PK K=K (.slice aw 0 0) w:=aD krx;rw[es];refine abN d g h λb c w2 n d=>?_;rw[bQ aoZ];refine aD (jT aoZ Eu om om) |>.mpr ?_;refine f _ _ λ_=>?_;simp only[cF,gd,nz];have e:subA (ax ⟨b,0,aw⟩) 0 c 1=ax ⟨b,0,aw⟩:=EM (a:=⟨b,0,aw⟩);rw[e];exact retK d
theorem XO {g:Nat}{h:aq}{a c:List Pc}(hm:T[jm]?=ax (.mem M))(d:OwnS S w0 w (.cells g [va,h] 341::T))(I:SlA M.A M.w va 1 a.length (pcW a))(L:SlA M.A M.w h 1 c.length (pcW c))
  (B:∀x∈a,okM M x) (C:∀x∈c,okM M x) (Q:0 < a.length) (j:a.length<=100000000) (q:c.length<=100000000)
  (k:∀v W,OwnS S w0 W (pcE v (a++c)::.cells g [va,h] 341::T)->K v W) :
  CallX ah 350 #[.slice (ax ⟨g,0,aw⟩) 2 2] w PK K:=by
 refine fH (eB (k0:=RetK λv W=>OwnS S w0 W (pcE v (a++c)::.cells g [va,h] 341::T)) ?_) (λe W ⟨v,he,d⟩=>by subst he;exact k v W d);unfold cA nz;rw[bQ auV];have D:∀{W:ao} {e:Ent},OwnS S w0 W (e::T)->M.has W:=λd=>d.hasM (jm+1) (by rw[anM];exact hm);have E:∀{W:ao} {e e':Ent},OwnS S w0 W (e::e'::T)->M.has W:=λd=>d.hasM (jm+2) (by rw[anM,anM];exact hm);have r:∀{i:Nat} (W:ao),i < 2->(mIA 373 (.slice (ax ⟨g,0,aw⟩) 2 2) (.int .i64 (i:Int))).run ah W=.ok (.value (.pointer (ax ⟨g,i,aw⟩))) W:=λ{i} W hi=>by
  have:=dX (P:=ah) (T:=373) (b:=g) (off:=0) (cap:=2) (n:=2) (k:=.i64) (i:=(i:Int)) (w:=W) auV agF om om
  rwa [amK,anC,amO] at this
 have s:∀{i:Nat} {W:ao},i < 2->M.has W->Sl W ([va,h].getD i undef) 1 ([a,c].getD i []).length (pcW ([a,c].getD i [])):=λ{i W} hi F=>by
  rcases (by omega:i=0∨i=1) with rfl|rfl
  ·exact I.now F
  ·exact L.now F
 have t:∀{i:Nat},i < 2->[va,h][i]?=ax ([va,h].getD i undef):=λ{i} hi=>by
  rcases (by omega:i=0∨i=1) with rfl|rfl<;>rfl
 refine loop (λvs W=>∃i sz:Nat,vs=[.int .i64 (sz:Int),.int .i64 (i:Int)]∧i<=2∧sz=(([a,c].take i).flatten).length∧OwnS S w0 W (.cells g [va,h] 341::T)) (λvs _=>2 - n1 vs) ⟨0,0,rfl,om,rfl,d⟩ ?_;clear d;rintro vs N ⟨i,sz,rfl,hi,l,d⟩ _;simp only[bV,gd,rs,nz];by_cases y:(i:Int) < ((2:Nat):Int)
 ·simp only[y,amD,i_t];have f:i < 2:=om
  refine join λJ O=>?_;refine aD (r N f) |>.mpr (aD (aB adD (d.cell 0 rfl i (t f))) |>.mpr ?_);rw[bD aoZ (s f (D d))];have hle:([a,c].getD i []).length<=100000000:=by
   rcases (by omega:i=0∨i=1) with rfl|rfl
   ·exact j
   ·exact q
  have G:sz<=100000000:=by
   rw[l];rcases (by omega:i=0∨i=1) with rfl|rfl
   ·simp
   ·simpa using j
  have o:sz+([a,c].getD i []).length=(([a,c].take (i+1)).flatten).length:=by
   rw[l];rcases (by omega:i=0∨i=1) with rfl|rfl<;>simp
  simp only[rs];rw[aA om om];simp only[show ai ((sz:Int)+((([a,c].getD i []).length:Nat):Int) < 0)=au from amE om,i_f];refine O _ _ λ_=>?_;simp only[bX,gd,rs,nz];rw[aA om om];exact aY ⟨i+1,sz+([a,c].getD i []).length,by congr 2,om,o,d⟩ (by simp[n1,RowKit.intOf];omega)
 ·simp only[y,amF,i_f];have p:i=2:=om
  subst p;have l:sz=a.length+c.length:=by rw[l];simp
  refine agN d om om λv0 w2 d=>?_;rw[bQ auV];refine loop (λvs W=>∃(i:Nat) (v:aq),vs=[v,.int .i64 (i:Int)]∧i<=2∧OwnS S w0 W (pcE v (([a,c].take i).flatten)::.cells g [va,h] 341::T)) (λvs _=>2 - n1 vs) ⟨0,v0,rfl,om,d⟩ ?_;clear d;rintro vs w3 ⟨i,v,rfl,hi,d⟩ _;simp only[bT,gd,rs,nz];by_cases m:(i:Int) < ((2:Nat):Int)
  ·simp only[m,amD,i_t];have f:i < 2:=om
   refine aD (r w3 f) |>.mpr (aD (aB adD (d.cell 1 rfl i (t f))) |>.mpr ?_);have hle:([a,c].getD i []).length<=100000000:=by
    rcases (by omega:i=0∨i=1) with rfl|rfl
    ·exact j
    ·exact q
   have H:(([a,c].take i).flatten).length<=100000000:=by
    rcases (by omega:i=0∨i=1) with rfl|rfl
    ·simp
    ·simpa using j
   have z:∀u∈pcW ([a,c].getD i []),u.oneCell'=true:=by
    rcases (by omega:i=0∨i=1) with rfl|rfl
    ·exact U4 B
    ·exact U4 C
   have o:([a,c].take (i+1)).flatten=([a,c].take i).flatten++[a,c].getD i []:=by
    rcases (by omega:i=0∨i=1) with rfl|rfl<;>simp
   refine bR 0 aoZ KN dc d rfl (s f (E d)) z om om λv' R d=>?_
   try simp only[rs]
   rw[aA om om];refine aY ⟨i+1,v',by congr 2,om,?_⟩ (by simp[n1,RowKit.intOf];omega);rw[o];unfold pcE;rw[NI,amC];exact d
  ·simp only[m,amF,i_f];have p:i=2:=om
   subst p;have e:([a,c].take 2).flatten=a++c:=sm
   rw[e] at d;exact retK d
end
theorem okM.le {M N:Mem}(h:M.le N){x:Pc}(k:okM M x):okM N x:=CnAt.le h k
theorem HH (c d:List Pc)(va e:aq)(M:Mem)(w:ao)(y:M.has w)(B:SlA M.A M.w va 1 c.length (pcW c))(C:SlA M.A M.w e 1 d.length (pcW d))(j:∀x∈c,okM M x)(k:∀x∈d,okM M x)(D:0 < c.length)(E:c.length<=10000000)(F:d.length<=10000000)
  (o:va.oneCell'=av) (p:e.oneCell'=av) :
  RetM ah 327 #[va,e] M w (λr N=>∃f:List Pc,f.Perm (c++d)∧Srt.srt pw f∧(∀x∈f,okM N x)∧r.oneCell'=av∧SlA N.A N.w r 1 f.length (pcW f)):=by
 refine bB y λK G=>FT ?_;unfold Dr nz;have a:OwnS M.A w w [.mem M]:=OwnS.memS y;refine⟨jG ?_⟩;unfold fA nz;refine bA (λb=>.pointer (ax ⟨b,0,aw⟩)) [wtF] 359 (λ_=>by kernel_rfl) a λfb Q a=>?_;have q:=a.at_ 0 rfl;obtain⟨N1,g1,s,l,a⟩:=OwnS.freeze (L:=[.mem M]) a 0 rfl;have t:N1.A fb:=l fb rfl;have m:(fcE fb).is N1.w:=by rw[s];exact q
 have H:∀W:ao,(bN 373 2 #[(0,va),(1,e)]).run ah W=.ok (.value (.slice (ax ⟨W.heap.size,0,aw⟩) 2 2)) (W.alloc (.cells [va,e].toArray 341)):=λW=>by
  cases va<;>first|(cases o;done)|(cases e<;>first|(cases p;done)|kernel_rfl)
 refine bA (λb=>.slice (ax ⟨b,0,aw⟩) 2 2) [va,e] 341 H a λz w2 a=>?_;refine XO (jm:=0) rfl a (B.le g1) (C.le g1) (λx i=>(j x i).le g1) (λx i=>(k x i).le g1) D om om λv w3 a=>?_;have n:∀x∈c++d,okM N1 x:=λx i=>by
  rcases anF.1 i with h|h
  ·exact (j x h).le g1
  ·exact (k x h).le g1
 have hlen:(c++d).length=c.length+d.length:=amC;obtain⟨g,cap,rfl⟩:=mN (a.at_ 0 rfl) om;rw[qB];refine Ze (jm:=1) (agA t m) rfl om rfl a n λI f hp J a=>?_;have O:=hp.length_eq;have a:OwnS M.A w I (.urow 342 1 (.slice (ax ⟨g,0,aw⟩) (c++d).length cap) f.length (pcW f)::[.cells z [va,e] 341,.mem N1]):=a;obtain⟨P,g2,u,a⟩:=OwnS.bI (L:=[.cells z [va,e] 341,.mem N1]) a 1 rfl;exact G _ _ P _ 1 a rfl (g1.trans g2) ⟨f,hp,J,λx i=>(n x (hp.mem_iff.1 i)).le g2,rfl,u⟩
theorem pcAt {ps:List Pc}(a:SlA M.A M.w v 1 ps.length (pcW ps))(hi:i < ps.length) :
  ∃p,(∀W,(mIA 341 v (.int .i64 (i:Int))).run ah W=.ok (.value (.pointer (ax p))) W)∧∀W,M.has W->(aH 342 (.pointer (ax p))).run ah W=.ok (.value ps[i].1) W:=by
 obtain⟨b,off,cap,rfl,_⟩:=bY a.1 om;refine⟨⟨b,off+i,aw⟩,λW=>?_,λW e=>?_⟩
 ·have:=dX (P:=ah) (T:=341) (b:=b) (off:=off) (cap:=cap) (n:=ps.length) (k:=.i64) (i:=(i:Int)) (w:=W) aoZ Eu om om;rw[amK,anC] at this;exact this
 ·obtain⟨g,c,d,he,f⟩:=bY (a.now e) om;cases he;refine aB ML (f i _ ?_);rw[SC hi,amI,amN hi];rfl
theorem R7 (ps:List Pc)(v:aq)(M:Mem)(w:ao)(m:M.has w)(G:SlA M.A M.w v 1 ps.length (pcW ps))(n:∀x∈ps,okM M x)(hl:ps.length<=1000000)(o:∀x∈ps,pw x<=1000000000000000) :
  RetM ah 328 #[v] M w (λr N=>∃c:List Pc,c.map (·.2)=Cn.bF (ps.map (·.2))∧(∀x∈c,okM N x)∧r.oneCell'=av∧SlA N.A N.w r 1 c.length (pcW c)):=by
 refine bB m λK hK=>GZ ?_;unfold EJ nz;have a:OwnS M.A w w [.mem M]:=OwnS.memS m;have a:OwnS M.A w w [.urow 342 1 nilS 0 [],.mem M]:=OwnS.nilU (L:=[.mem M]) a _ _;refine loop (λvs W=>∃(i:Nat) (v':aq) (c:List Pc) (N:Mem),vs=[v',.int .i64 (i:Int)]∧i<=ps.length+1∧M.le N∧c.length=i / 2∧i % 2=0∧c.map (·.2)++Cn.bF ((ps.drop i).map (·.2))=Cn.bF (ps.map (·.2))∧(∀x∈c,okM N x)∧OwnS M.A w W [pcE v' c,.mem N]) (λvs _=>ps.length+2 - n1 vs) ⟨0,nilS,[],M,rfl,om,M.le_refl,rfl,rfl,rfl,(λx J=>by cases J),a⟩ ?_;clear a;rintro vs w1 ⟨i,v',c,N,rfl,hi,hle,b7,b8,O,p,a⟩ _;simp only[Bh,gd,rs,iN,bnx,lnx];rw[aA om om,bD aoZ (G.now (Mem.MJ hle (a.hasM 1 rfl)))];simp only[rs];by_cases q:(i:Int)+1 < (ps.length:Int)
 ·simp only[q,amD,i_t];have b9:i+1 < ps.length:=om
  have c0:=λ{j:Nat} (hj:j < ps.length)=>pcAt G hj;have d:∀{V:ao},OwnS M.A w V [pcE v' c,.mem N]->M.has V:=λh=>Mem.MJ hle (h.hasM 1 rfl);obtain⟨p0,s,e⟩:=pcAt G (i:=i) om;obtain⟨p1,z,f⟩:=pcAt G (i:=i+1) om;have g:=n _ (amR (show i < ps.length by omega));have k:=n _ (amR (show i+1 < ps.length by omega));have B:=o _ (amR (show i < ps.length by omega));have C:=o _ (amR (show i+1 < ps.length by omega));have l:ps.drop i=ps[i]::ps[i+1]::ps.drop (i+2):=by
   rw[anX (show i < ps.length by omega),anX (show i+1 < ps.length by omega)]
  generalize ps[i]=x at e g B l;generalize ps[i+1]=y at f k C l;have D:=g.le hle;have E:=k.le hle;obtain⟨H,s0,P,Q,R,S,U⟩:=CnAt.wt g;obtain⟨I,s1,X,Y,Z,a1,a6⟩:=CnAt.wt k;have l0:∀{V:ao},M.has V->(aH 3 (.pointer (ax ⟨H,0+0,aw⟩))).run ah V=.ok (.value (.int .i64 (x.2.wt:Int))) V:=λm=>aB aU (aI (T:=344) (cs:=cnC x.2.wt s0 P Q) (jU m S U) (i:=0) rfl);have l1:∀{V:ao},M.has V->(aH 3 (.pointer (ax ⟨I,0+0,aw⟩))).run ah V=.ok (.value (.int .i64 (y.2.wt:Int))) V:=λm=>aB aU (aI (T:=344) (cs:=cnC y.2.wt s1 X Y) (jU m a1 a6) (i:=0) rfl);refine dW (λV=>OwnS M.A w V [pcE v' c,.mem N]) a.drew ?_;refine q_do _ s (q_at _ (λV h=>e V (d h)) ?_);rw[R];refine q_do _ (λ_=>dK) (q_do _ (λ_=>bE S8) (q_at _ (λV h=>l0 (d h)) ?_));refine pJ ?_;rw[aA om om,show (i:Int)+1=((i+1:Nat):Int) by omega];refine q_do _ z (q_at _ (λV h=>f V (d h)) ?_);rw[Z];refine q_do _ (λ_=>dK) (q_do _ (λ_=>bE S8) (q_at _ (λV h=>l1 (d h)) ?_));have b5:x.2.wt<=1000000000000000:=B;have b6:y.2.wt<=1000000000000000:=C;refine pJ ?_;rw[aA om om,show (x.2.wt:Int)+(y.2.wt:Int)=((x.2.wt+y.2.wt:Nat):Int) by omega];refine q_do _ s (q_at _ (λV h=>e V (d h)) ?_);refine pJ ?_;rw[aA om om,show (i:Int)+1=((i+1:Nat):Int) by omega];refine q_do _ z (q_at _ (λV h=>f V (d h)) ?_);rw[R,Z];refine q_do (.agg (cnC (x.2.wt+y.2.wt) 0 (.pointer (ax ⟨H,0,aw⟩)) (.pointer (ax ⟨I,0,aw⟩))).toArray) (λ_=>by kernel_rfl) ?_;intro w2 a;refine bA (λb=>.pointer (ax ⟨b,0,aw⟩)) (cnC (x.2.wt+y.2.wt) 0 (.pointer (ax ⟨H,0,aw⟩)) (.pointer (ax ⟨I,0,aw⟩))) 344 (λ_=>by kernel_rfl) a λnb w3 a=>?_;have a7:=a.at_ 0 rfl;obtain⟨N1,g1,a8,F,a⟩:=OwnS.freeze (L:=[pcE v' c,.mem N]) a 1 rfl;have hz:okM N1 (.pointer (ax ⟨nb,0,aw⟩),.node x.2 y.2):=by
   refine⟨nb,.pointer (ax ⟨H,0,aw⟩),.pointer (ax ⟨I,0,aw⟩),rfl,F nb rfl,by rw[a8];exact a7,?_,?_⟩
   ·have:=D.le g1;unfold okM at this;rw[R] at this;exact this
   ·have:=E.le g1;unfold okM at this;rw[Z] at this;exact this
  have a:OwnS M.A w w3 [pcE v' c,.mem N1]:=a;refine bA (λb=>.slice (ax ⟨b,0,aw⟩) 1 1) [.pointer (ax ⟨nb,0,aw⟩)] 342 (λ_=>by kernel_rfl) a λsb w4 a=>?_;refine bR 1 aoZ KN dc a rfl (pA (a.at_ 0 rfl) dc rfl) (λu hu=>by rw[anB.1 hu];rfl) om om λv2 w5 a=>?_
  try simp only[rs]
  rw[aA om om];have a:OwnS M.A w w5 [pcE v2 (c++[(.pointer (ax ⟨nb,0,aw⟩),.node x.2 y.2)]),.mem N1]:=by
   unfold pcE;rw[NI,amC];exact a.tail
  refine aY ⟨i+2,v2,_,N1,rfl,om,hle.trans g1,by rw[amC,aoI];omega,om,?_,λu hu=>?_,a⟩ (by simp[n1,RowKit.intOf];omega)
  ·rw[<-O,l,anN,amM];rfl
  ·rcases anF.1 hu with h|h
   ·exact (p u h).le g1
   ·rw[anB.1 h];exact hz
 ·simp only[q,amF,i_f];have b2:=cQ (a.at_ 0 rfl);have b3:Cn.bF ((ps.drop i).map (·.2))=[]:=by
   have hd:(ps.drop i).length<=1:=by rw[amQ];omega
   rcases hp:ps.drop i with _|⟨x,_|⟨y,t⟩⟩
   ·rfl
   ·rfl
   ·rw[hp] at hd;simp at hd
  rw[b3,amY] at O;obtain⟨N2,g2,b4,a⟩:=OwnS.bI (L:=[.mem N]) a 0 rfl;exact hK _ _ N2 _ 0 a rfl (hle.trans g2) ⟨c,O,λx J=>(p x J).le g2,b2,b4⟩
end
section
open Eng
def Mg(w)(K:KT):=nz f287 1 [] [] [] (zg [] []) w K
theorem LR:Mg w k0->Calls ah 287 #[] w k0:=cw func287
def qJ(t0 t1 t2 w)(K:KT):=nz f341 3 [] [] [(2,22)] (zg [0,1,2] [t0,t1,t2]) w K
def uX(t0 t1 t2 w)(K:KT):=nz f341 1 [] [(4,[],λs v j w f=>qJ (s 0) (s 1) (s 2) w K)] [] (zg [0,1,2] [t0,t1,t2]) w K
theorem Bv:uX t0 t1 t2 w k0->Calls ah 341 #[t0,t1,t2] w k0:=cz [(2,[])] [] func341
def qC(w)(K:KT):=nz f317 31 [] [] [] (zg [] []) w K
def qG(t0 t1 t3 t9 t38 w)(N1:JT)(K:KT):=nz f317 1899 [N1] [nh 9 [38]] [] (zg [0,1,3,9,38] [t0,t1,t3,t9,t38]) w K
def qI(t0 t1 t2 t3 t37 t38 w)(N1:JT)(K:KT):=nz f317 43 [N1] [nh 9 [38],(16,[9],λs v j w f=>qG (s 0) (s 1) (s 3) (vg v 0) (s 38) w (f 0) K),(24,[],λs v j w f=>qC w K)] [] (zg [0,1,2,3,37,38] [t0,t1,t2,t3,t37,t38]) w K
def vI(t0 t1 t2 t3 w)(K:KT):=nz f317 1 [] [(9,[38],λs v j w f=>qI (s 0) (s 1) (s 2) (s 3) (s 37) (vg v 0) w (f 0) K)] [] (zg [0,1,2,3] [t0,t1,t2,t3]) w K
theorem BA:vI t0 t1 t2 t3 w k0->Calls ah 317 #[t0,t1,t2,t3] w k0:=cz [(8,[9]),(12,[])] [(4,[38])] func317
def uT(t0 t1 t2 w)(K:KT):=nz f288 1 [] [] [] (zg [0,1,2] [t0,t1,t2]) w K
theorem BR:uT t0 t1 t2 w k0->Calls ah 288 #[t0,t1,t2] w k0:=cw func288
def qQ(t0 w)(K:KT):=nz f289 1 [] [] [] (zg [0] [t0]) w K
theorem yX:qQ t0 w k0->Calls ah 289 #[t0] w k0:=cw func289
def pR(t0 t1 w)(K:KT):=nz f290 7 [] [] [] (zg [0,1] [t0,t1]) w K
def uR(t0 t1 w)(K:KT):=nz f290 1 [] [(6,[],λs v j w f=>pR (s 0) (s 1) w K)] [] (zg [0,1] [t0,t1]) w K
theorem BM:uR t0 t1 w k0->Calls ah 290 #[t0,t1] w k0:=cz [(3,[])] [] func290
def tJ(t0 w)(K:KT):=nz f291 1 [] [] [] (zg [0] [t0]) w K
theorem Al:tJ t0 w k0->Calls ah 291 #[t0] w k0:=cw func291
def jA(t0 w)(K:KT):=nz f318 1 [] [] [] (zg [0] [t0]) w K
theorem oJ:jA t0 w k0->Calls ah 318 #[t0] w k0:=cw func318
end
section
open Eng Go.RowKit
theorem F0:∀(t:List Nat) (x:Nat),t.length < 8->bo (t++[x]) 0=bo t 0+x*2 ^ t.length
|[],x,_=>by simp[bo]
|[a],x,_=>by simp[bo];omega
|[a,b],x,_=>by simp[bo];omega
|[a,b,c],x,_=>by simp[bo];omega
|[a,b,c,d],x,_=>by simp[bo];omega
|[a,b,c,d,e],x,_=>by simp[bo];omega
|[a,b,c,d,e,f],x,_=>by simp[bo];omega
|[a,b,c,d,e,f,g],x,_=>by simp[bo];omega
|_::_::_::_::_::_::_::_::_,_,h=>by simp at h;omega
theorem yd:∀(t:List Nat),bn t->t.length < 8->bo t 0 < 2 ^ t.length
|[],_,_=>by simp[bo]
|[a],h,_=>by have:=h a sm;simp[bo];omega
|[a,b],h,_=>by have:=h a sm;have:=h b sm;simp[bo];omega
|[a,b,c],h,_=>by have:=h a sm;have:=h b sm;have:=h c sm;simp[bo];omega
|[a,b,c,d],h,_=>by have:=h a sm;have:=h b sm;have:=h c sm;have:=h d sm;simp[bo];omega
|[a,b,c,d,e],h,_=>by have:=h a sm;have:=h b sm;have:=h c sm;have:=h d sm;have:=h e sm;simp[bo];omega
|[a,b,c,d,e,f],h,_=>by have:=h a sm;have:=h b sm;have:=h c sm;have:=h d sm;have:=h e sm;have:=h f sm;simp[bo];omega
|[a,b,c,d,e,f,g],h,_=>by have:=h a sm;have:=h b sm;have:=h c sm;have:=h d sm;have:=h e sm;have:=h f sm;have:=h g sm;simp[bo];omega
|_::_::_::_::_::_::_::_::_,_,h=>by simp at h;omega
theorem xe (h:bn l){x:Nat}(p:x < 2):∃P c,c < 2 ^ (l.length % 8)∧(if l.length % 8=0 then az l++[0] else az l)=P++[UInt8.ofNat c]∧az (l++[x])=P++[UInt8.ofNat (c+x*2 ^ (l.length % 8))]:=by
 have f:l=l.take (8*(l.length / 8))++l.drop (8*(l.length / 8)):=(anR ..).symm;have e:(l.take (8*(l.length / 8))).length=8*(l.length / 8):=by rw[amL];omega
 have j:(l.drop (8*(l.length / 8))).length=l.length % 8:=by rw[amQ];omega
 have d:bn (l.drop (8*(l.length / 8))):=λb o=>h b (aqF o);generalize l.take (8*(l.length / 8))=a at f e;generalize l.drop (8*(l.length / 8))=t at f j d;generalize l.length / 8=k at e;rw[<-j,f,amM,ly e,ly e];have m:t.length < 8:=om
 have g:=yd t d m;have n:az (t++[x])=[UInt8.ofNat (bo t 0+x*2 ^ t.length)]:=by
  rw[<-F0 t x m];unfold az;rw[amC,aoI,show (t.length+1+7) / 8=1 by omega];rfl
 by_cases i:t.length=0
 ·have:t=[]:=apZ.1 i;subst this;refine⟨az a,0,dc,?_,?_⟩
  ·rw[amB i];simp[az]
  ·rw[n];simp[bo]
 ·refine⟨az a,bo t 0,g,?_,by rw[n]⟩;rw[amA i]
  congr 1
  unfold az;rw[show (t.length+7) / 8=1 by omega];rfl
theorem vw (l:List Nat):(az l).length<=l.length:=by rw[ky];omega
def wrC (way:Int)(n:Nat)(v:aq):List Value:=[.int .i64 way,.int .i64 ((n % 8:Nat):Int),v]
abbrev wrE (b:Nat)(way:Int)(n:Nat)(v:aq):Ent:=.cells b (wrC way n v) 326
abbrev Wr (b:Nat)(way:Int)(l:List Nat)(v:aq)(T:List Ent):List Ent:=wrE b way l.length v::outR v (az l)::T
theorem Yt:fOff ah 326 0=ax 0:=krx
theorem UB:fOff ah 326 1=ax 2:=krx
section
variable {W:ao}{b n:Nat}{way:Int}{v:aq}
theorem aaJ (h:(wrE b way n v).is W):(aH 3 (.pointer (ax ⟨b,0,aw⟩))).run ah W=.ok (.value (.int .i64 way)) W:=aB aU (aI (T:=326) (cs:=wrC way n v) h (i:=0) rfl)
theorem aaB (h:(wrE b way n v).is W):(aH 3 (.pointer (ax ⟨b,0+1,aw⟩))).run ah W=.ok (.value (.int .i64 ((n % 8:Nat):Int))) W:=aB aU (aI (T:=326) (cs:=wrC way n v) h (i:=1) rfl)
theorem To (h:(wrE b way n v).is W):(aH 53 (.pointer (ax ⟨b,0+2,aw⟩))).run ah W=.ok (.value v) W:=aB On (aI (T:=326) (cs:=wrC way n v) h (i:=2) rfl)
theorem Ro (h:(wrE b way n v).is W):Ret ah 349 #[.pointer (ax ⟨b,0,aw⟩),.int .i64 1] W (λv w'=>v=.int .i64 ((n % 8:Nat):Int)∧Below W.heap.size W w'):=by
 refine aZ λK a=>pD ?_;unfold nD nz;simp only[rs,amD,bG];rw[sX];refine aD (aaB h) |>.mpr ?_;exact a _ _ ⟨rfl,(Own.start W).done⟩
theorem Rm (h:(wrE b way n v).is W)(hw:way=0∨way=1):Ret ah 340 #[.pointer (ax ⟨b,0,aw⟩),.int .i64 1] W (λv w'=>v=.bool au∧Below W.heap.size W w'):=by
 refine aZ λK a=>oI ?_;unfold mX nz;have r:=aaJ h;rw[bG,JK];refine aD r |>.mpr ?_;rcases hw with rfl|rfl
 ·simp only[rs,ne_eq,not_true,amF,g_un];exact a _ _ ⟨rfl,(Own.start W).done⟩
 ·simp only[rs,show ai ((1:Int)≠0)=av by decide,bG];rw[JK];refine aD r |>.mpr ?_;simp only[rs,ne_eq,not_true,amF];exact a _ _ ⟨rfl,(Own.start W).done⟩
end
theorem Zf:∀a:Fin 256,∀k:Fin 8,a.val < 2 ^ k.val->bOr .u8 (a.val:Int) ((2 ^ k.val:Nat):Int)=((a.val+2 ^ k.val:Nat):Int):=by decide +kernel
theorem aiH:∀a:Fin 256,bOr .u8 (a.val:Int) 0=(a.val:Int):=by decide +kernel
theorem or8 {c x k:Nat}(a:k < 8)(b:c < 2 ^ k)(d:x < 2):bOr .u8 (c:Int) ((x*2 ^ k:Nat):Int)=((c+x*2 ^ k:Nat):Int):=by
 have hp:2 ^ k<=2 ^ 7:=aoH dc om;have e:(2:Nat) ^ 7=128:=rfl;rcases (by omega:x=0∨x=1) with rfl|rfl
 ·rw[apI];exact aiH ⟨c,om⟩
 ·rw[arP];exact Zf ⟨c,om⟩ ⟨k,a⟩ b
theorem Kv :DoX ah (mEq .eql 284 xo yo (.pointer (ax ⟨b,0,aw⟩)) (.pointer aw)) w PK K=K (.bool au) w:=aD krx
theorem abA :DoX ah (mEq .neq 284 xo yo (.pointer (ax ⟨b,0,aw⟩)) (.pointer aw)) w PK K=K (.bool av) w:=aD krx
section
variable {w:ao}{PK:PKT}{K:VWP}{S:Nat->Prop}{w0:ao}{L T:List Ent}
theorem Hj {off:Nat}:DoX ah (mFA 326 (.pointer (ax ⟨b,off,aw⟩)) 0) w PK K=K (.pointer (ax ⟨b,off,aw⟩)) w:=aO Yt
theorem L3 {off:Nat}:DoX ah (mFA 326 (.pointer (ax ⟨b,off,aw⟩)) 1) w PK K=K (.pointer (ax ⟨b,off+2,aw⟩)) w:=aO UB
theorem wr_v (a:OwnS S w0 w L)(j:Nat){n:Nat}(hi:L[j]?=ax (wrE b way n v)):DoX ah (aH 53 (.pointer (ax ⟨b,0+2,aw⟩))) w PK K=K v w:=aJ On (a.cell j hi 2 rfl)
theorem wr_u (a:OwnS S w0 w L)(j:Nat){n:Nat}(hi:L[j]?=ax (wrE b way n v)):DoX ah (aH 3 (.pointer (ax ⟨b,0+1,aw⟩))) w PK K=K (.int .i64 ((n % 8:Nat):Int)) w:=aJ aU (a.cell j hi 1 rfl)
theorem St (a:OwnS S w0 w T)(k:∀b W,OwnS S w0 W (Wr b 0 [] nilS T)->K (.pointer (ax ⟨b,0,aw⟩)) W):CallX ah 287 #[] w PK K:=by
 refine fH (LR (k0:=RetK λv W=>∃b,v=.pointer (ax ⟨b,0,aw⟩)∧OwnS S w0 W (Wr b 0 [] nilS T)) ?_) (λe W ⟨v,he,b,c,a⟩=>by subst he;subst c;exact k b W a);unfold Mg nz;have e:∀W:ao,(aS 326 #[]).run ah W=.ok (.value (.agg (wrC 0 0 nilS).toArray)) W:=λW=>by kernel_rfl
 refine aD (e w) |>.mpr ?_;have a:=a.nilU 5 1;refine bA (λb=>.pointer (ax ⟨b,0,aw⟩)) (wrC 0 0 nilS) 326 (λ_=>by kernel_rfl) a λb d a=>?_;exact retK ⟨b,rfl,a⟩
theorem acQ {x:Nat}(a:OwnS S w0 w (Wr b way l v T))(q:bn l)(y:x < 2)(V:l.length<=100000000000)
  (k:∀v' W,OwnS S w0 W (Wr b way (l++[x]) v' T)->K (.tuple #[]) W):CallX ah 341 #[.pointer (ax ⟨b,0,aw⟩),.int .i64 (x:Int),.int .i64 1] w PK K:=by
 refine fH (Bv (k0:=RetK λv W=>v=.tuple #[]∧∃v',OwnS S w0 W (Wr b way (l++[x]) v' T)) ?_) (λe W ⟨v,he,F,v',a⟩=>by subst he;subst F;exact k v' W a);unfold uX nz;obtain⟨P,c,G,f,z⟩:=xe q y;have H:=vw l;have I:2 ^ (l.length % 8)<=2 ^ 7:=aoH dc om;have X:(2:Nat) ^ 7=128:=rfl;have L:x*2 ^ (l.length % 8)<=128:=by
  have:x*2 ^ (l.length % 8)<=1*2 ^ (l.length % 8):=anY _ om;omega
 have M:P.length<=100000000000:=by
  have:=congrArg List.length f;rw[amC,aoI] at this;have Y:(if l.length % 8=0 then az l++[0] else az l).length<=(az l).length+1:=by
   split
   ·simp
   ·omega
  omega
 refine join λJ N=>?_;have fin:∀(W:ao) (v':aq),OwnS S w0 W (wrE b way l.length v'::outR v' (P++[UInt8.ofNat c])::T)->J [] W:=by
  intro W v' a;refine N _ _ λ_=>?_;unfold qJ nz;have hlen:(P++[UInt8.ofNat c]).length=P.length+1:=sm
  obtain⟨g,cap,rfl⟩:=mN (a.at_ 1 rfl) om;rw[hlen] at a;refine dW (λW=>OwnS S w0 W (wrE b way l.length (.slice (ax ⟨g,0,aw⟩) (P.length+1) cap)::outR (.slice (ax ⟨g,0,aw⟩) (P.length+1) cap) (P++[UInt8.ofNat c])::T)) a.drew ?_;refine q_do _ (λ_=>dK) (q_do _ (λ_=>bE UB) (q_at _ (λW h=>To (h.at_ 0 rfl)) ?_));refine q_do _ (λ_=>dK) (q_do _ (λ_=>bE UB) (q_at _ (λW h=>To (h.at_ 0 rfl)) ?_));refine q_do _ (λ_=>Jq anD) (q_do _ (λ_=>sR) ?_);rw[aA om om,show ((P.length+1:Nat):Int) - 1=(P.length:Int) by omega];have j:∀W:ao,(mIA 53 (.slice (ax ⟨g,0,aw⟩) (P.length+1) cap) (.int .i64 (P.length:Int))).run ah W=.ok (.value (.pointer (ax ⟨g,P.length,aw⟩))) W:=λW=>by
   have:=dX (P:=ah) (T:=53) (b:=g) (off:=0) (cap:=cap) (n:=P.length+1) (k:=.i64) (i:=(P.length:Int)) (w:=W) anD (show _=ax 1 by kernel_rfl) om om
   rwa [amK,anC,amO] at this
  refine q_do _ j ?_;have d:(aP (P++[UInt8.ofNat c]))[P.length]?=ax (.int .u8 (c:Int)):=by
   rw[jC om,auQ (amJ _)];simp only[apD,atI,aqN];rw[anZ om]
  refine q_at (.int .u8 (c:Int)) (λW h=>?_) ?_
  ·have A:=yO (h.at_ 1 rfl);rw[hlen] at A;obtain⟨Z,B,C,e,O⟩:=bY A om
   injection e with p e2 e3
   injection p with p
   have D:=congrArg Addr.block p;have m:=congrArg Addr.off p;dsimp only at D m;subst D;subst m;have:=O P.length _ d;rw[amO] at this;exact aB nU8l this
  refine q_do _ (λ_=>dK) (q_do _ (λ_=>bE Yt) ?_);refine mG (.int .i64 ((l.length % 8:Nat):Int)) (λW h=>(Ro (h.at_ 0 rfl)).mono λv w' r=>⟨r.1,h.grow r.2⟩) ?_;refine q_do _ (λ_=>ZO om) ?_;rw[show min ((l.length % 8:Nat):Int).toNat IntKind.i64.bits=l.length % 8 by show min ((l.length % 8:Nat):Int).toNat 64=l.length % 8;omega];rw[show ((x:Nat):Int)*2 ^ (l.length % 8)=((x*2 ^ (l.length % 8):Nat):Int) by push_cast;rfl,aA om om];refine q_do _ (λW=>cU8 om) ?_;have Q:(((UInt8.ofNat (x*2 ^ (l.length % 8))).toNat:Nat):Int)=((x*2 ^ (l.length % 8):Nat):Int):=by rw[aqN,anZ om]
  try rw[Q]
  refine q_do _ (λ_=>r_or) ?_;rw[or8 (apO _ dc) G y];refine q_do _ j ?_;intro W2 a;refine Aa (sz:=1) (new:=[.int .u8 ((c+x*2 ^ (l.length % 8):Nat):Int)]) 1 a (by show ax (outR _ _)=ax _;unfold outR;rw[hlen]) rfl krx (λu hu=>by rw[anB.1 hu];rfl) sm λR a=>?_;have o:(aP (P++[UInt8.ofNat c])).take P.length++[.int .u8 ((c+x*2 ^ (l.length % 8):Nat):Int)]++(aP (P++[UInt8.ofNat c])).drop (P.length+[(.int .u8 ((c+x*2 ^ (l.length % 8):Nat):Int):aq)].length)=aP (az (l++[x])):=by
   rw[z];unfold aP;rw[anN,anN,aoG sm,asH sm,amY]
   congr 1
   simp only[anS,apW,aqN];rw[anZ (show c+x*2 ^ (l.length % 8) < 2 ^ 8 by omega)]
  have a:OwnS S w0 R (wrE b way l.length (.slice (ax ⟨g,0,aw⟩) (P.length+1) cap)::outR (.slice (ax ⟨g,0,aw⟩) (P.length+1) cap) (az (l++[x]))::T):=by
   unfold outR;rw[<-o,z,amC,aoI];exact a
  rw[bG,Hj,sX,wr_u a 0 rfl];simp only[rs];rw[aA om om,KX dc]
  try rw[bG]
  rw[Hj,sX];have U:(((l.length % 8:Nat):Int)+1).tmod 8=(((l.length+1) % 8:Nat):Int):=by
   rw[auP om];omega
  rw[U];refine aK 0 a rfl krx rfl (by show 0+1 < 3;omega) λW4 a=>?_;refine retK ⟨rfl,.slice (ax ⟨g,0,aw⟩) (P.length+1) cap,?_⟩;unfold Wr wrE;rw[amC,aoI];exact a
 rw[bG,Hj,sX,wr_u a 0 rfl];simp only[rs];by_cases E:((l.length % 8:Nat):Int)=0
 ·simp only[E,amD,i_t];rw[amB om] at f
  try rw[bG]
  rw[L3,wr_v a 0 rfl];refine TO 0 a λb8 w8 a=>?_;refine bR 2 anD elU8 dc a rfl (pA (a.at_ 0 rfl) dc rfl) eW om om λv' w9 a=>?_;have s:v'.oneCell'=true:=cQ (a.at_ 2 rfl)
  try rw[bG]
  rw[L3];refine aK 1 a rfl krx s (by show 0+2 < 3;omega) λt a=>?_;refine fin t v' ?_;rw[<-f,qM];exact a.tail
 ·simp only[E,amF,i_f];rw[amA om] at f;refine fin w v ?_;rw[<-f];exact a
theorem G0 (v n:Nat):bf v (n+1)=bf v n++[v / 2 ^ n % 2]:=by
 unfold bf;rw[arO,anN];rfl
theorem agR {a:Nat}(h:a < 2 ^ 62):bAnd .i64 (a:Int) 1=((a % 2:Nat):Int):=by
 have b:(2:Nat) ^ 62=4611686018427387904:=rfl;unfold bAnd;show IntKind.wrap .i64 (((BitVec.ofInt 64 (a:Int) &&& BitVec.ofInt 64 ((1:Nat):Int)).toNat:Nat):Int)=_;rw[BitVec.ofInt_natCast,BitVec.ofInt_natCast,BitVec.toNat_and,BitVec.toNat_ofNat,BitVec.toNat_ofNat,anZ om,anZ om,Nat.and_one_is_mod];exact aA om om
theorem nL {x n:Nat}(a:OwnS S w0 w (Wr b way l v T))(g:bn l)(hw:way=0∨way=1)(q:n<=24)(y:x < 2 ^ n)(z:l.length<=10000000000)
  (k:∀way' v' W,(way'=0∨way'=1)->OwnS S w0 W (Wr b way' (l++bf x n) v' T)->K (.int .i64 0) W):CallX ah 288 #[.pointer (ax ⟨b,0,aw⟩),.int .i64 (x:Int),.int .i64 (n:Int)] w PK K:=by
 refine fH (BR (k0:=RetK λv W=>v=.int .i64 0∧∃way' v',(way'=0∨way'=1)∧OwnS S w0 W (Wr b way' (l++bf x n) v' T)) ?_) (λe W ⟨v,he,h,way',v',c,a⟩=>by subst he;subst h;exact k way' v' W c a);unfold uT nz;have r:2 ^ n<=2 ^ 24:=aoH dc q;have s:(2:Nat) ^ 24=16777216:=rfl;refine fH (BA (k0:=RetK λv W=>v=.int .i64 0∧∃way' v',(way'=0∨way'=1)∧OwnS S w0 W (Wr b way' (l++bf x n) v' T)) ?_) (λe W ⟨v,he,h,way',v',c,a⟩=>by
  subst he;subst h;exact⟨_,rfl,rfl,way',v',c,a⟩)
 unfold vI nz;rw[Kv];have d:IntKind.i64.wrap ((1:Int)*2 ^ min ((n:Nat):Int).toNat IntKind.i64.bits)=((2 ^ n:Nat):Int):=by
  rw[show min ((n:Nat):Int).toNat IntKind.i64.bits=n by show min ((n:Nat):Int).toNat 64=n;omega,Int.one_mul,show (2:Int) ^ n=((2 ^ n:Nat):Int) by push_cast;rfl];exact aA om om
 simp only[rs,show ai ((n:Int) < 0)=au from amE om,show ai ((24:Int) < (n:Int))=au from amE om,show ai ((x:Int) < 0)=au from amE om];rw[FV om,d];simp only[rs,show ai (((2 ^ n:Nat):Int)<=(x:Int))=au from amE om]
 try rw[bG]
 rw[Hj];refine aL a (R:=λv=>v=.bool au) (Rm (a.at_ 0 rfl) hw) ?_;rintro _ w2 rfl a;simp only[rs];refine loop (λvs W=>∃(i:Nat) (v':aq),vs=[.int .i64 i]∧i<=n∧OwnS S w0 W (Wr b way (l++bf x i) v' T)) (λvs _=>n - n0 vs) ⟨0,v,rfl,om,by show OwnS S w0 w2 (Wr b way (l++[]) v T);rw[amY];exact a⟩ ?_;clear a;rintro vs t ⟨i,v',rfl,hi,a⟩ _;simp only[qI,gd,rs,nz];by_cases f:(i:Int) < (n:Int)
 ·simp only[f,amD,i_t];refine join λJ j=>?_;simp only[show ai ((1:Int)=2)=au from rfl,i_f,rs];refine j _ _ λ_=>?_;simp only[qG,gd,nz];rw[GH om,show min ((i:Nat):Int).toNat IntKind.i64.bits=i by show min ((i:Nat):Int).toNat 64=i;omega,RS,Vo];have u:x / 2 ^ i<=x:=arH _ _;rw[agR om];refine acQ a (br g (dr _ _)) (apO _ dc) (by rw[amC,bp];omega) λv2 o a=>?_;rw[amM,<-G0] at a;simp only[rs];rw[aA om om];exact aY ⟨i+1,v2,rfl,om,a⟩ (by simp[n0,RowKit.intOf];omega)
 ·simp only[f,amF,i_f];have m:i=n:=om
  subst m;refine join λJ j=>?_;have fin:∀W way',(way'=0∨way'=1)->OwnS S w0 W (Wr b way' (l++bf x i) v' T)->J [] W:=by
   intro W way' c a;refine j _ _ λ_=>?_;simp only[qC,nz];exact retK ⟨rfl,way',v',c,a⟩
  by_cases p:(0:Int) < (i:Int)
  ·simp only[p,amD,i_t,rs,bG];rw[Hj,JK];refine aK 0 a rfl krx rfl (by show 0 < 3;omega) λo a=>?_;exact fin o 1 (.inr rfl) a
  ·simp only[p,amF,i_f,rs];exact fin t way hw a
theorem PA (a:OwnS S w0 w (Wr b way l v T))
  (k:∀W,OwnS S w0 W (Wr b 0 (fk l) v T)->K (.tuple #[]) W):CallX ah 289 #[.pointer (ax ⟨b,0,aw⟩)] w PK K:=by
 refine fH (yX (k0:=RetK λu W=>u=.tuple #[]∧OwnS S w0 W (Wr b 0 (fk l) v T)) ?_) (λe W ⟨u,he,c,a⟩=>by subst he;subst c;exact k W a);unfold qQ nz;rw[abA,i_t];have d:∀{PK:PKT} {K:VWP},DoX ah (aS 315 #[]) w PK K=K (.agg #[.int .i64 0,.int .i64 0]) w:=aD krx;rw[d,bG,Hj];refine xR 0 a rfl (new:=[.int .i64 0,.int .i64 0]) szSd dc (by show 0+2<=3;omega) λw2 a=>?_;refine retK ⟨rfl,?_⟩;have e:wrC 0 (fk l).length v=[.int .i64 0,.int .i64 0,v]:=by
  unfold wrC;rw[nm,Nat.mul_mod_right];rfl
 unfold Wr wrE;rw[e,ui];exact a
theorem H0 {k:Nat}(h:l.length=8*k)(s:List UInt8):az (l++fj s)=az l++s:=by
 have:=ni [] s;rw[amY] at this;rw[ly h,this];show _++(s++[])=_;rw[amY]
theorem agO {s:List UInt8}(a:OwnS S w0 w (Wr b way l v T))(d:l.length=8*j)(m:j<=1000000000)(n:s.length<=1000000000)
  (k:∀v' W,OwnS S w0 W (Wr b way (l++fj s) v' T)->K (.tuple #[]) W):CallX ah 290 #[.pointer (ax ⟨b,0,aw⟩),.string ⟨s.toArray⟩] w PK K:=by
 refine fH (BM (k0:=RetK λu W=>u=.tuple #[]∧∃v',OwnS S w0 W (Wr b way (l++fj s) v' T)) ?_) (λe W ⟨u,he,f,v',a⟩=>by subst he;subst f;exact k v' W a);unfold uR nz;rw[Kv,i_f];have g:(az l).length=j:=by rw[ky];omega
 refine join λJ h=>?_;rw[bG,Hj,sX,wr_u a 0 rfl,show l.length % 8=0 by omega];simp only[rs,show ai ((0:Int) < ((0:Nat):Int))=au from rfl,i_f];refine h _ _ λ_=>?_;unfold pR nz;rw[bG,L3,wr_v a 0 rfl];refine I2 1 anD amP elU8 aoK z8U a rfl om λv' o a=>?_;have c:v'.oneCell'=true:=cQ (a.at_ 1 rfl)
 try rw[bG]
 rw[L3];refine aK 0 a rfl krx c (by show 0+2 < 3;omega) λi a=>?_;refine retK ⟨rfl,v',?_⟩;unfold Wr wrE;rw[H0 d,qM];have e:wrC way (l++fj s).length v'=[.int .i64 way,.int .i64 ((l.length % 8:Nat):Int),v']:=by
  unfold wrC;rw[amC,qc];congr 3;omega
 rw[e];exact a
theorem adK {off n c:Nat}:DoX ah (mEq .eql 53 xo yo (.slice (ax ⟨b,off,aw⟩) n c) (.slice aw 0 0)) w PK K=K (.bool au) w:=aD krx
theorem ajY (a:OwnS S w0 w L)(k:∀v w',OwnS S w0 w' (.urow 5 1 v 0 []::L)->K v w'):DoX ah (bN 53 0 #[]) w PK K:=
 bA (λb=>.slice (ax ⟨b,0,aw⟩) 0 0) [] 5 (λ_=>by kernel_rfl) a λb c a=>k _ _ (a.toU 1 0 0 sm om om)
theorem Ot (a:OwnS S w0 w (Wr b way l v T))(h:0 < l.length)(i:l.length<=10000000000)
  (k:∀W,OwnS S w0 W T->K (.string ⟨(az l).toArray⟩) W):CallX ah 291 #[.pointer (ax ⟨b,0,aw⟩)] w PK K:=by
 refine fH (Al (k0:=RetK λu W=>u=.string ⟨(az l).toArray⟩∧OwnS S w0 W T) ?_) (λe W ⟨u,he,c,a⟩=>by subst he;subst c;exact k W a);unfold tJ nz;have d:=vw l;obtain⟨g,cap,rfl⟩:=mN (a.at_ 1 rfl) (by rw[ky];omega);rw[Kv,i_f,bG,L3,wr_v a 0 rfl];refine fH (oJ (k0:=RetK λu W=>OwnS S w0 W (outR u (az l)::T)) ?_) (λe W ⟨u,he,a⟩=>?_)
 ·unfold jA nz;rw[adK,i_f];refine ajY a λv0 j a=>?_;refine bR 0 anD elU8 dc a rfl (yO (a.at_ 2 rfl)) eW om om λv' f a=>?_;rw[amO,anV] at a;have a:OwnS S w0 f ([outR v' (az l)]++([wrE b way l.length (.slice (ax ⟨g,0,aw⟩) (az l).length cap),outR (.slice (ax ⟨g,0,aw⟩) (az l).length cap) (az l)]++T)):=a;exact retK a.front.tail.tail
 ·subst he;refine aD (LY anD aoK amP (yO (a.at_ 0 rfl))) |>.mpr ?_;exact retK ⟨rfl,a.tail⟩
end
end
section
open Eng Go.RowKit
def TbW (A:Nat->Prop)(w:ao)(b:Nat)(lens:List Nat):Prop:=∃a c o,A b∧(tbE b a c (cnt lens) (fstW lens) o).is w∧SlA A w o 1 (bg lens 15).length (aV (bg lens 15))∧SlA A w a 1 lens.length (aV lens)∧SlA A w c 1 lens.length (aV (ij lens))
theorem zO (lens:List Nat)(v:aq)(M:Mem)(w:ao)(m:∀l∈lens,l<=15)(g:lens.length<=100000)(P:0 < lens.length)(z:M.has w)(y:SlA M.A M.w v 1 lens.length (aV lens)) :
  RetM ah 295 #[v] M w (λr N=>if bh lens≠0 then r=.tuple #[.pointer aw,.int .i64 (bh lens)] else ∃b,r=.tuple #[.pointer (ax ⟨b,0,aw⟩),.int .i64 0]∧TbW N.A N.w b lens):=by
 refine bB z λK G=>Cd ?_;unfold DM nz;have a:OwnS M.A w w [.mem M]:=OwnS.memS z;refine bH a 0 rfl (JE lens v M w m g z y) ?_;rintro _ N1 Q g1 ⟨cv,rfl,n,j⟩ a;simp only[ex,eN];by_cases o:bh lens=0
 case neg=>
  simp only[o,ne_eq,aqD,amD,i_t];exact G _ _ N1 _ 0 a rfl g1 (by rw[amB o])
 have j:=j o;simp only[o,ne_eq,not_true,amF,i_f];refine bH a 0 rfl (I4 lens v N1 Q g P (a.hasM 0 rfl) (y.le g1)) λd e w2 g2 k a=>?_;refine aL a (R:=λr=>r=nsV (cnt lens)) (RetM.told (tX lens v e w2 m g (a.hasM 0 rfl) (y.le (g1.trans g2)))) ?_;rintro _ w3 rfl a;rw[m_tb k.one n];refine afZ k.one n a λb S a=>?_;rw[bG,O3,tb_n a 0 rfl];refine aL a (R:=λr=>r=nsV (fstW lens)) (RetM.told (DX lens e S g (a.hasM 1 rfl))) ?_;rintro _ w5 rfl a;rw[bG,Vn];refine Tp 0 a rfl λT a=>?_;have p:=y.le (g1.trans g2);have a:OwnS M.A w T [.urow 3 1 nilS 0 [],tbE b d cv (cnt lens) (fstW lens) nilS,.mem e]:=OwnS.nilU (L:=[tbE b d cv (cnt lens) (fstW lens) nilS,.mem e]) a _ _;refine loop (λvs W=>∃(l:Nat) (ov:aq),vs=[.int .i64 ((l+1:Nat):Int)]∧l<=15∧OwnS M.A w W [.urow 3 1 ov (bg lens l).length (aV (bg lens l)),tbE b d cv (cnt lens) (fstW lens) ov,.mem e]) (λvs _=>16 - n0 vs) ⟨0,nilS,rfl,om,a⟩ ?_;clear a;rintro vs U ⟨l,ov,rfl,q,a⟩ _;simp only[xI,gd,rs,nz];by_cases s:((l+1:Nat):Int)<=15
 ·simp only[s,amD,i_t];rw[bD amZ (p.now (a.hasM 2 rfl))];have V:=ph lens l;have H:l*lens.length<=15*100000:=apM q g;refine loop (λvs W=>∃(i:Nat) (ov:aq),vs=[.int .i64 i]∧i<=lens.length∧OwnS M.A w W [.urow 3 1 ov (bg lens l++cj lens (l+1) i).length (aV (bg lens l++cj lens (l+1) i)),tbE b d cv (cnt lens) (fstW lens) ov,.mem e]) (λvs _=>lens.length - n0 vs) ⟨0,ov,rfl,om,by
   rw[show cj lens (l+1) 0=[] from rfl,amY];exact a⟩ ?_
  clear a;rintro vs I ⟨i,ov,rfl,hi,a⟩ _;simp only[zL,gd,rs,nz];by_cases f:(i:Int) < (lens.length:Int)
  ·have t:i < lens.length:=om
   simp only[f,amD,i_t];refine join λJ X=>?_;obtain⟨b2,off,Y,Z⟩:=mU (p.now (a.hasM 2 rfl)) t;have B:lens.getD i 0=lens[i]:=by rw[amI,amN t];rfl
   refine aD (Y I) |>.mpr (aD (aB aU Z) |>.mpr ?_);have a1:=pg lens (l+1) i;have c:cj lens (l+1) (i+1)=cj lens (l+1) i++(if lens[i]=l+1 then [i] else []):=by
    unfold cj;rw[arO,atS]
    congr 1
    rw[<-B];by_cases h:lens.getD i 0=l+1
    ·rw[amB h];exact List.filter_cons_of_pos (amG h)
    ·rw[amA h];exact List.filter_cons_of_neg (by rw[amE h];decide)
   have fin:∀(W:ao) (ov:aq),OwnS M.A w W [.urow 3 1 ov (bg lens l++cj lens (l+1) (i+1)).length (aV (bg lens l++cj lens (l+1) (i+1))),tbE b d cv (cnt lens) (fstW lens) ov,.mem e]->J [] W:=by
    intro W ov a;refine X _ _ λ_=>?_;simp only[xP,gd,rs,nz];rw[aA om om];exact aY ⟨i+1,ov,rfl,om,a⟩ (by simp[n0,RowKit.intOf];omega)
   simp only[rs];by_cases he:lens[i]=l+1
   ·rw[amB he] at c;simp only[show ai (((lens[i]:Nat):Int)=((l+1:Nat):Int))=av from amG om,i_t,rs,bG];rw[Mj,PR a 1 rfl];refine uN (i:Int) a λb3 w9 a=>?_;refine oA 1 a rfl (a.sl 0 rfl 1 1 1 rfl) tD (by rw[amC];omega) λv' a6 a=>?_
    try simp only[rs,bG]
    rw[Mj];refine VM 2 (cQ (a.at_ 1 rfl)) a rfl λC a=>?_;refine fin C v' ?_;have e1:aV (bg lens l++cj lens (l+1) (i+1))=aV (bg lens l++cj lens (l+1) i)++NZ [(i:Int)]:=by
     rw[c,<-amM,mS];rfl
    have e2:(bg lens l++cj lens (l+1) (i+1)).length=(bg lens l++cj lens (l+1) i).length+1:=by
     rw[c,<-amM,amC];rfl
    rw[e1,e2];exact a.tail
   ·rw[amA he,amY] at c;simp only[show ai (((lens[i]:Nat):Int)=((l+1:Nat):Int))=au from amE om,i_f];refine fin I ov ?_;rw[c];exact a
  ·simp only[f,amF,i_f];have D:i=lens.length:=om
   subst D;rw[aA om om];exact aY ⟨l+1,ov,rfl,om,a⟩ (by simp[n0,RowKit.intOf];omega)
 ·have g:l=15:=om
  subst g;simp only[s,amF,i_f];obtain⟨O,g3,u,a⟩:=OwnS.bI (L:=[tbE b d cv (cnt lens) (fstW lens) ov,.mem e]) a 1 rfl;have a:OwnS M.A w U [tbE b d cv (cnt lens) (fstW lens) ov,.mem O]:=a;have E:=a.at_ 0 rfl;obtain⟨N4,g4,F,x,a⟩:=OwnS.freeze (L:=[.mem O]) a 0 rfl;refine G _ _ N4 _ 0 a rfl (g1.trans (g2.trans (g3.trans g4))) ?_;rw[amA (by simp[o])];exact⟨b,rfl,d,cv,ov,x b rfl,by rw[F];exact E,u.le g4,k.le (g3.trans g4),j.le (g2.trans (g3.trans g4))⟩
end
section
open Eng Go.RowKit
theorem IN {v n k:Nat}(h:k < n):(ie v n).take (k+1)=(ie v n).take k++[v / 2 ^ (n - 1 - k) % 2]:=by
 rw[anH (by rw[sq];exact h)]
 congr 2
 simp[ie]
section
variable {w:ao}{PK:PKT}{K:VWP}{S:Nat->Prop}{w0:ao}{L T:List Ent}
theorem Ca {lens:List Nat}(a:OwnS S w0 w (Wr b way l v T))(hm:T[jm]?=ax (.mem M))(V:TbW M.A M.w tb lens)(X:bh lens=0)(m:∀l∈lens,l<=15)(hi:0 < lens.getD i 0)
  (x:bn l) (hw:way=0∨way=1) (hl:l.length<=1000000000) (k:∀way' v' W,(way'=0∨way'=1)->OwnS S w0 W (Wr b way' (l++dh lens i) v' T)->K (.int .i64 0) W) :
  CallX ah 302 #[.pointer (ax ⟨tb,0,aw⟩),.pointer (ax ⟨b,0,aw⟩),.int .i64 (i:Int)] w PK K:=by
 refine fH (zC (k0:=RetK λv W=>v=.int .i64 0∧∃way' v',(way'=0∨way'=1)∧OwnS S w0 W (Wr b way' (l++dh lens i) v' T)) ?_) (λe W ⟨v,he,Y,way',v',y,a⟩=>by subst he;subst Y;exact k way' v' W y a);unfold pY nz;obtain⟨z,B,I,J,o,L,g,C⟩:=V;have c:i < lens.length:=by
  rcases anE i lens.length with h|h
  ·exact h
  ·rw[amI,aoU h] at hi;exact absurd hi (arB _)
 have j:lens.getD i 0=lens[i]:=by rw[amI,amN c];rfl
 have p:lens[i]<=15:=m _ (amR c);have D:=tj (sy (tg X)) m hi;rw[j] at hi D;have N:2 ^ lens[i]<=2 ^ 15:=aoH dc p;have Z:(2:Nat) ^ 15=32768:=rfl;have d:∀{W:ao} {way:Int} {l:List Nat} {v:aq},OwnS S w0 W (Wr b way l v T)->M.has W:=λa=>a.hasM (jm+2) (by rw[anM,anM];exact hm);have hlen:=g.1.1;have q:∀{W:ao},M.has W->(aH 123 (.pointer (ax ⟨tb,0,aw⟩))).run ah W=.ok (.value z) W:=λE=>aB Ez (aI (T:=337) (cs:=tbC z B (cnt lens) (fstW lens) I) (Wx J o E) (i:=0) rfl);have F:∀{W:ao},M.has W->(aH 123 (.pointer (ax ⟨tb,0+1,aw⟩))).run ah W=.ok (.value B) W:=λE=>aB Ez (aI (T:=337) (cs:=tbC z B (cnt lens) (fstW lens) I) (Wx J o E) (i:=1) rfl);rw[Vu];simp only[rs];rw[Kv];simp only[rs,show ai ((i:Int) < 0)=au from amE om,bG];rw[aO Yw];refine aD (q (d a)) |>.mpr ?_;rw[bD amZ (g.now (d a))];simp only[rs,show ai ((lens.length:Int)<=(i:Int))=au from amE om,bG];rw[aO Yw];refine aD (q (d a)) |>.mpr ?_;obtain⟨b2,off,O,P⟩:=mU (g.now (d a)) c;refine aD (O w) |>.mpr (aD (aB aU P) |>.mpr ?_);simp only[rs,show ai (((lens[i]:Nat):Int)=0)=au from amE om,i_f];rw[aA om om];have r:dh lens i=ie (cg lens i) lens[i]:=by unfold dh;rw[j]
 refine loop (λvs W=>∃(k:Nat) (way':Int) (v':aq),vs=[.int .i64 ((lens[i]:Int) - 1 - k)]∧k<=lens[i]∧(way'=0∨way'=1)∧OwnS S w0 W (Wr b way' (l++(dh lens i).take k) v' T)) (λvs _=>((RowKit.intOf (vs.getD 0 undef))+1).toNat) ⟨0,way,v,sm,om,hw,by rw[apX,amY];exact a⟩ ?_;clear a hw O P;rintro vs w4 ⟨k,way',v',rfl,hk,hw,a⟩ _;simp only[nF,gd,rs,nz];by_cases s:(0:Int)<=(lens[i]:Int) - 1 - k
 ·simp only[s,amD,i_t,bG];rw[aO adL];refine aD (F (d a)) |>.mpr ?_;have f:=C.now (d a);rw[show lens.length=(ij lens).length by rw[ir]] at f;obtain⟨b3,Q,r3,R⟩:=mU f (i:=i) (by rw[ir];exact c);have G:(ij lens)[i]'(by rw[ir];exact c)=cg lens i:=by
   have:=qz c;rw[amN (by rw[ir];exact c)] at this;exact apF this
  rw[G] at R;refine aD (r3 w4) |>.mpr (aD (aB aU R) |>.mpr ?_);have t:(lens[i]:Int) - 1 - k=((lens[i] - 1 - k:Nat):Int):=om
  rw[GH om,t,show min ((lens[i] - 1 - k:Nat):Int).toNat IntKind.i64.bits=lens[i] - 1 - k by show min ((lens[i] - 1 - k:Nat):Int).toNat 64=_;omega,RS,Vo];have a1:cg lens i / 2 ^ (lens[i] - 1 - k)<=cg lens i:=arH _ _;rw[agR om];have U:cg lens i / 2 ^ (lens[i] - 1 - k) % 2 < 2:=apO _ dc;refine nL (n:=1) a (br x (λb hb=>km _ _ b (aoO hb))) hw om om (by rw[amC,amL];omega) λu v2 w5 H a=>?_;have e1:bf (cg lens i / 2 ^ (lens[i] - 1 - k) % 2) 1=[cg lens i / 2 ^ (lens[i] - 1 - k) % 2]:=by
   show [cg lens i / 2 ^ (lens[i] - 1 - k) % 2 / 2 ^ 0 % 2]=_;rw[Nat.pow_zero,Nat.div_one,Nat.mod_mod]
  rw[e1,amM,r,<-IN om,<-r] at a;simp only[rs,show ai ((0:Int)≠0)=au from rfl,i_f];rw[aA om om];exact aY ⟨k+1,u,v2,by congr 2<;>omega,om,H,a⟩ (by simp[RowKit.intOf]<;>omega)
 ·simp only[s,amF,i_f];have t:k=lens[i]:=om
  rw[anJ (by rw[ez,j];omega)] at a;exact retK ⟨rfl,way',v',hw,a⟩
end
end
section
open Eng
def sL(t0 t1 t2 t3 t9 w)(N1:JT)(K:KT):=nz f319 19 [N1] [nh 5 [9]] [(2,16)] (zg [0,1,2,3,9] [t0,t1,t2,t3,t9]) w K
def yN(t0 t1 t2 t3 w)(K:KT):=nz f319 1 [] [(5,[9],λs v j w f=>sL (s 0) (s 1) (s 2) (s 3) (vg v 0) w (f 0) K)] [] (zg [0,1,2,3] [t0,t1,t2,t3]) w K
theorem Cr:yN t0 t1 t2 t3 w k0->Calls ah 319 #[t0,t1,t2,t3] w k0:=cz [] [(2,[9])] func319
def mM(d c e a w)(N1:JT)(K:KT):=
 bnx .lss 3 a e w K λb w=>etx b a w λf w=>gtx b (mBin .add 3 f (iN 3)) w K λg w=>etx b c w λh w=>gtx b (mB .len #[9] 3 #[au] #[h]) w K λi w=>gtx b (mBin .leq 3 g i) w K λj w=>dx (lC b j (.bool au)) w K λk w=>IfX k (HeldX w (λS2 w=>HDo ah (λ_=>True) (mBin .add 3 a (iN 3)) λl=>HDo ah (λ_=>True) (eI 9 c (ax a) (ax l) aw) λm=>HDo ah (λ_=>True) (mBin .add 3 a (iN 3)) λn=>HDo ah (λ_=>True) (eI 9 c (ax a) (ax n) aw) λo=>HDo ah S2 (Sn 289 d o au) λp=>DoX ah (bN 123 1 #[(0,a)]) w (ay 14 (pk K)) λq w=>S2 w∧(DoX ah (mB .append #[123,123] 123 #[au,au] #[p,q]) w (ay 14 (pk K)) λr w=>(DoX ah (SU 289 d m r) w (ay 14 (pk K)) λ_ w=>(bnx .add 3 a (iN 1) w K λs w=>N1 [s] w))))) (K (.returned (.tuple #[])) w)
def oH(t0 t1 t2 t3 w)(K:KT):=nz f293 1 [] [(3,[8],λs v j w f=>mM (s 0) (s 1) (s 3) (vg v 0) w (f 0) K)] [] (zg [0,1,2,3] [t0,t1,t2,t3]) w K
theorem wH:oH t0 t1 t2 t3 w k0->Calls ah 293 #[t0,t1,t2,t3] w k0:=cz [] [(1,[8])] func293
def iY(t10 w)(N1:JT)(K:KT):=nz f292 1887 [N1] [nh 15 [10]] [] (zg [10] [t10]) w K
def fG(t1 t2 t6 t7 t8 t9 t10 w)(N1:JT)(K:KT):=nz f292 351 [N1] [nh 15 [10],(16,[],λs v j w f=>iY (s 10) w (f 0) K)] [] (zg [1,2,6,7,8,9,10] [t1,t2,t6,t7,t8,t9,t10]) w K
def kI(t0 t1 t2 w)(K:KT):=nz f292 1 [] [(15,[10],λs v j w f=>fG (s 1) (s 2) (s 6) (s 7) (s 8) (s 9) (vg v 0) w (f 0) K)] [] (zg [0,1,2] [t0,t1,t2]) w K
theorem rH:kI t0 t1 t2 w k0->Calls ah 292 #[t0,t1,t2] w k0:=cz [(8,[])] [(7,[10])] func292
def sC(t0 t3 t4 t5 t6 t7 w)(N1:JT)(K:KT):=nz f266 4015 [N1] [nh 13 [3,5]] [] (zg [0,3,4,5,6,7] [t0,t3,t4,t5,t6,t7]) w K
def rV(t0 t3 t4 t5 w)(N1:JT)(K:KT):=nz f266 175 [N1] [nh 13 [3,5],(22,[],λs v j w f=>sC (s 0) (s 3) (s 4) (s 5) (s 6) (s 7) w (f 0) K)] [] (zg [0,3,4,5] [t0,t3,t4,t5]) w K
def xL(t0 w)(K:KT):=nz f266 1 [] [(13,[3,5],λs v j w f=>rV (s 0) (vg v 0) (s 4) (vg v 1) w (f 0) K)] [] (zg [0] [t0]) w K
theorem CL:xL t0 w k0->Calls ah 266 #[t0] w k0:=cz [(11,[])] [(6,[3,5])] func266
def vY(t0 t2 t6 t8 w)(N1:JT)(K:KT):=nz f343 87 [N1] [nh 11 [0,6,8]] [(8,14)] (zg [0,2,6,8] [t0,t2,t6,t8]) w K
def A8(t0 t1 t2 w)(K:KT):=nz f343 1 [] [(11,[0,6,8],λs v j w f=>vY (vg v 0) (s 2) (vg v 1) (vg v 2) w (f 0) K)] [] (zg [0,1,2] [t0,t1,t2]) w K
theorem D8:A8 t0 t1 t2 w k0->Calls ah 343 #[t0,t1,t2] w k0:=cz [] [(5,[0,6,8])] func343
def Bk(t0 w)(K:KT):=nz f325 1 [] [] [] (zg [0] [t0]) w K
theorem DS:Bk t0 w k0->Calls ah 325 #[t0] w k0:=cw func325
def Bo(t0 w)(K:KT):=nz f326 1 [] [] [] (zg [0] [t0]) w K
theorem Ed:Bo t0 w k0->Calls ah 326 #[t0] w k0:=cw func326
def qA(t0 t3 t4 t5 w)(N1:JT)(K:KT):=nz f265 123 [N1] [nh 5 [0]] [] (zg [0,3,4,5] [t0,t3,t4,t5]) w K
def qU(t0 t3 w)(N1:JT)(K:KT):=nz f265 11 [N1] [nh 5 [0],(12,[5],λs v j w f=>qA (s 0) (s 3) (s 4) (vg v 0) w (f 0) K)] [] (zg [0,3] [t0,t3]) w K
def uO(t0 w)(K:KT):=nz f265 1 [] [(5,[0],λs v j w f=>qU (vg v 0) (s 3) w (f 0) K)] [] (zg [0] [t0]) w K
theorem Bz:uO t0 w k0->Calls ah 265 #[t0] w k0:=cz [(6,[5])] [(2,[0])] func265
def kN(t14 w)(N1:JT)(K:KT):=nz f296 245 [N1] [nh 5 [14]] [] (zg [14] [t14]) w K
def kJ(t1 t3 t12 t13 t14 w)(N1:JT)(K:KT):=nz f296 21 [N1] [nh 5 [14],(24,[],λs v j w f=>kN (s 14) w (f 0) K)] [] (zg [1,3,12,13,14] [t1,t3,t12,t13,t14]) w K
def nH(t0 t1 t2 w)(K:KT):=nz f296 1 [] [(5,[14],λs v j w f=>kJ (s 1) (s 3) (s 12) (s 13) (vg v 0) w (f 0) K)] [] (zg [0,1,2] [t0,t1,t2]) w K
theorem tR:nH t0 t1 t2 w k0->Calls ah 296 #[t0,t1,t2] w k0:=cz [(12,[])] [(2,[14])] func296
def wX(t0 w)(K:KT):=nz f267 1 [] [] [] (zg [0] [t0]) w K
theorem B2:wX t0 w k0->Calls ah 267 #[t0] w k0:=cw func267
def nZ(t20 w)(N1:JT)(K:KT):=nz f297 983 [N1] [nh 9 [20]] [] (zg [20] [t20]) w K
def oX(t2 t3 t18 t19 t20 w)(N1:JT)(K:KT):=nz f297 87 [N1] [nh 9 [20],(24,[],λs v j w f=>nZ (s 20) w (f 0) K)] [] (zg [2,3,18,19,20] [t2,t3,t18,t19,t20]) w K
def eG(a b c w)(K:KT):=
 iax 123 b (iN 256) w K λd w=>stx 3 d (iN 1) w K λ_ w=>lnx 269 a w K λe w=>LoopX [(iN 0)] w (λf w N1=>∀_:Sg,oX b c a e (f.getD 0 undef) w N1 K)
def sQ(a w)(K:KT):=
 DrawX w (λw=>(dx (G5 123 (iN 286) (iN 286)) w K λb w=>(dx (G5 123 (iN 30) (iN 30)) w K λc w=>eG a b c w K)∧(dx (G5 123 (iN 30) (iN 30)) w K λd w=>eG a b d w K))∧(dx (G5 123 (iN 30) (iN 30)) w K λe w=>dx (G5 123 (iN 286) (iN 286)) w K λf w=>eG a f e w K))
theorem Am:sQ t0 w k0->Calls ah 297 #[t0] w k0:=cz [(12,[])] [(4,[20])] func297
def wZ(t0 t1 t5 w)(N1:JT)(K:KT):=nz f299 19 [N1] [nh 5 [5]] [] (zg [0,1,5] [t0,t1,t5]) w K
def DH(t0 t1 w)(K:KT):=nz f299 1 [] [(5,[5],λs v j w f=>wZ (s 0) (s 1) (vg v 0) w (f 0) K)] [] (zg [0,1] [t0,t1]) w K
theorem Fj:DH t0 t1 w k0->Calls ah 299 #[t0,t1] w k0:=cz [] [(2,[5])] func299
def eF(t3 t4 t5 w)(N1:JT)(K:KT):=nz f300 1003 [N1] [nh 7 [3,4]] [] (zg [3,4,5] [t3,t4,t5]) w K
def rT(t0 t3 t4 t5 w)(N1 a:JT)(K:KT):=nz f300 619 [N1,a] [nh 7 [3,4],nh 11 [5],(34,[3,5],λs v j w f=>eF (vg v 0) (s 4) (vg v 1) w (f 0) K)] [(5,19)] (zg [0,3,4,5] [t0,t3,t4,t5]) w K
def rO(t0 t3 t4 w)(N1:JT)(K:KT):=nz f300 43 [N1] [nh 7 [3,4],(11,[5],λs v j w f=>rT (s 0) (s 3) (s 4) (vg v 0) w (f 1) (f 0) K)] [] (zg [0,3,4] [t0,t3,t4]) w K
def yZ(t0 w)(K:KT):=nz f300 1 [] [(7,[3,4],λs v j w f=>rO (s 0) (vg v 0) (vg v 1) w (f 0) K)] [] (zg [0] [t0]) w K
theorem DG:yZ t0 w k0->Calls ah 300 #[t0] w k0:=cz [(17,[3,5])] [(3,[3,4]),(5,[5])] func300
def uQ(w)(K:KT):=nz f301 1 [] [] [] (zg [] []) w K
theorem BJ:uQ w k0->Calls ah 301 #[] w k0:=cw func301
def xU(t0 t9 t16 t21 t132 t133 t134 w)(a:JT)(K:KT):=nz f268 92274687 [a] [nh 73 [134]] [] (zg [0,9,16,21,132,133,134] [t0,t9,t16,t21,t132,t133,t134]) w K
def pB(t0 t9 t10 t16 t21 t122 t123 t124 w)(a:JT)(K:KT):=nz f268 46137343 [a] [nh 63 [124],(73,[134],λs v j w f=>xU (s 0) (s 9) (s 16) (s 21) (s 132) (s 133) (vg v 0) w (f 0) K)] [] (zg [0,9,10,16,21,122,123,124] [t0,t9,t10,t16,t21,t122,t123,t124]) w K
def yL(t0 t5 t7 t9 t10 t14 t16 t18 t88 t89 w)(a:JT)(K:KT):=nz f268 180223 [a] [nh 39 [18,89],(63,[124],λs v j w f=>pB (s 0) (s 9) (s 10) (s 16) (s 21) (s 122) (s 123) (vg v 0) w (f 0) K)] [] (zg [0,5,7,9,10,14,16,18,88,89] [t0,t5,t7,t9,t10,t14,t16,t18,t88,t89]) w K
def zE(t0 t5 t7 t9 t10 t11 t64 t65 t66 w)(N1:JT)(K:KT):=nz f268 11263 [N1] [nh 23 [66],(39,[18,89],λs v j w f=>yL (s 0) (s 5) (s 7) (s 9) (s 10) (s 14) (s 16) (vg v 0) (s 88) (vg v 1) w (f 0) K)] [] (zg [0,5,7,9,10,11,64,65,66] [t0,t5,t7,t9,t10,t11,t64,t65,t66]) w K
def De(t0 w)(K:KT):=nz f268 1 [] [(23,[66],λs v j w f=>zE (s 0) (s 5) (s 7) (s 9) (s 10) (s 11) (s 64) (s 65) (vg v 0) w (f 0) K)] [] (zg [0] [t0]) w K
theorem Fk:De t0 w k0->Calls ah 268 #[t0] w k0:=cz [] [(11,[66]),(19,[18,89]),(31,[124]),(36,[134])] func268
def zS(t6 w)(K:KT):=nz f235 255 [] [] [] (zg [6] [t6]) w K
def xQ(t1 t6 t7 w)(K:KT):=nz f235 127 [] [(32,[6],λs v j w f=>zS (vg v 0) w K)] [] (zg [1,6,7] [t1,t6,t7]) w K
def Cx(t0 t1 w)(K:KT):=nz f235 1 [] [(24,[6],λs v j w f=>xQ (s 1) (vg v 0) (s 7) w K)] [] (zg [0,1] [t0,t1]) w K
theorem FD:Cx t0 t1 w k0->Calls ah 235 #[t0,t1] w k0:=cz [(12,[6]),(16,[6])] [] func235
end
section
open Eng Go.RowKit
def ptC (x:bj):List Value:=[.int .u8 (x.1.toNat:Int),.int .i64 (x.2.1:Int),.int .i64 (x.2.2:Int)]
def ptV (x:bj):Value:=.agg (ptC x).toArray
abbrev ptE (b:Nat)(x:bj):Ent:=.cells b (ptC x) 291
theorem Zo (x:bj):(ptC x).length=3:=rfl
theorem TE {x:bj}:∀u∈ptC x,u.oneCell'=true:=by
 intro u hu;simp only[ptC,amH,anW,or_false] at hu;rcases hu with rfl|rfl|rfl<;>rfl
theorem aaN:aggN ah 291=ax 3:=krx
theorem szPt:(Tryz.prog.info? 291).map (·.size)=ax 3:=krx
theorem UR:fOff ah 291 0=ax 0:=krx
theorem EO:fOff ah 291 1=ax 1:=krx
theorem YO:fOff ah 291 2=ax 2:=krx
theorem ptAt {l:List bj}(a:SlA M.A M.w v 3 l.length (l.flatMap ptC))(hi:i < l.length) :
  ∃p,(∀W,(mIA 269 v (.int .i64 (i:Int))).run ah W=.ok (.value (.pointer (ax p))) W)∧∀W,M.has W->(aH 291 (.pointer (ax p))).run ah W=.ok (.value (ptV l[i])) W:=by
 obtain⟨b,off,cap,rfl,_⟩:=bY a.1 om;refine⟨⟨b,off+i*3,aw⟩,λW=>?_,λW e=>?_⟩
 ·have:=dX (P:=ah) (T:=269) (b:=b) (off:=off) (cap:=cap) (n:=l.length) (k:=.i64) (i:=(i:Int)) (w:=W) auA szPt om om;rw[amK] at this;exact this
 ·obtain⟨h,c,d,he,f⟩:=bY (a.now e) om;cases he;refine aW (AtV.agg aaN (cs:=ptC l[i]) rfl λj u g=>?_);rw[aoS];exact f _ _ (Eng.qK Zo hi g)
theorem WG {n k:Nat}(b:k<=30)(d:n<=1000000000):bAnd .i64 (n:Int) ((2 ^ k - 1:Nat):Int)=((n % 2 ^ k:Nat):Int):=by
 have hp:2 ^ k<=2 ^ 30:=aoH dc b;have c:(2:Nat) ^ 30=1073741824:=rfl;have hm:n % 2 ^ k<=n:=Nat.mod_le _ _;unfold bAnd;show IntKind.wrap .i64 (((BitVec.ofInt 64 (n:Int) &&& BitVec.ofInt 64 ((2 ^ k - 1:Nat):Int)).toNat:Nat):Int)=_;rw[BitVec.ofInt_natCast,BitVec.ofInt_natCast,BitVec.toNat_and,BitVec.toNat_ofNat,BitVec.toNat_ofNat,anZ om,anZ (a:=2 ^ k - 1) om,Nat.and_two_pow_sub_one_eq_mod];exact aA om om
theorem V2 {a k:Nat}(b:k<=40)(h:a*2 ^ k<=4611686018427387904):IntKind.i64.wrap ((a:Int)*2 ^ min ((k:Nat):Int).toNat IntKind.i64.bits)=((a*2 ^ k:Nat):Int):=by
 rw[show min ((k:Nat):Int).toNat IntKind.i64.bits=k by show min ((k:Nat):Int).toNat 64=k;omega,show (a:Int)*2 ^ k=((a*2 ^ k:Nat):Int) by push_cast;rfl];exact aA om om
def sdT (r:Nat×Nat×Nat):Value:=.tuple #[.int .i64 (r.1:Int),.int .i64 (r.2.1:Int),.int .i64 (r.2.2:Int)]
theorem O5 (n b group:Nat)(w:ao)(F:n<=40000)(G:b<=8)(t:1<=group∧group<=4):Ret ah 343 #[.int .i64 (n:Int),.int .i64 (b:Int),.int .i64 (group:Int)] w (λv w'=>v=sdT (ja n b group)∧Below w.heap.size w w'):=by
 refine aZ λK o=>D8 ?_;unfold A8 nz;generalize e:ja n b group=R at o;unfold ja at e;simp only[rs];by_cases h:(n:Int) < (b:Int)
 ·simp only[h,amD,i_t];rw[amB om] at e;subst e;exact o _ _ ⟨rfl,(Own.start w).done⟩
 simp only[h,amF,i_f];rw[amA om] at e;rw[aA om om];have u:(2:Nat) ^ (1+20)=2097152:=rfl;refine loop (λvs W=>∃(m d bits f:Nat),vs=[.int .i64 (m:Int),.int .i64 (d:Int),.int .i64 (bits:Int)]∧m<=40000∧bits+f=21∧d<=8+4*bits∧m < group*2 ^ (bits+f)∧ko group f m d bits=R∧Own w W []) (λvs _=>n0 vs) ⟨n - b,b,1,20,by congr 2;omega,om,rfl,om,om,e,Own.start w⟩ ?_;rintro vs H ⟨m,d,bits,f,rfl,hm,A,B,p,c,l⟩ _;simp only[vY,gd,nz];have C:2 ^ bits<=2 ^ 21:=aoH dc om;have D:(2:Nat) ^ 21=2097152:=rfl;have r:=atF bits;have E:group*2 ^ bits<=4*2097152:=apM t.2 om;have x:1*1<=group*2 ^ bits:=apM t.1 r;rw[FV om,V2 om om];simp only[rs];by_cases y:((group*2 ^ bits:Nat):Int)<=(m:Int)
 ·simp only[y,amD,i_t];obtain⟨f,rfl⟩:∃g,f=g+1:=⟨f - 1,by
   rcases aoP f with z|z
   ·subst z;rw[aoC] at p;omega
   ·omega⟩
  unfold ko at c;rw[amB om] at c;rw[FV om,V2 om om];simp only[rs];rw[aA om om,aA om om,aA om om];rw[show (m:Int) - ((group*2 ^ bits:Nat):Int)=((m - group*2 ^ bits:Nat):Int) by omega];refine aY ⟨m - group*2 ^ bits,d+group,bits+1,f,rfl,om,om,om,?_,c,l⟩ (by show ((m - group*2 ^ bits:Nat):Int).toNat < ((m:Nat):Int).toNat;omega);rw[show bits+1+f=bits+(f+1) by omega];omega
 ·simp only[y,amF,i_f];have i:(d+m / 2 ^ bits,m % 2 ^ bits,bits)=R:=by
   cases f with
  |zero=>exact c
  |succ f=>
    unfold ko at c;rw[amA om] at c;exact c
  have s:m / 2 ^ bits<=m:=arH _ _;have j:=V2 (a:=1) (k:=bits) om om;refine dW (λW=>Own w W []) l.drew ?_;refine q_do _ (λ_=>aaR om) ?_;rw[show min ((bits:Nat):Int).toNat IntKind.i64.bits=bits by show min ((bits:Nat):Int).toNat 64=bits;omega,RS];generalize m / 2 ^ bits=q at s i ⊢;refine pJ ?_;rw[aA om om];refine q_do _ (λ_=>ZO om) ?_;rw[show ((1:Int))=((1:Nat):Int) from rfl,j,arP];refine q_do _ (λ_=>sR) ?_;rw[aA om om,show ((2 ^ bits:Nat):Int) - ((1:Nat):Int)=((2 ^ bits - 1:Nat):Int) by omega];refine q_do _ (λ_=>aaL) ?_;rw[WG om om];intro W l;refine o _ _ ⟨?_,l.done⟩;rw[<-i];rfl
theorem Mw (n:Nat)(w:ao)(c:3<=n)(h:n<=258):Ret ah 325 #[.int .i64 (n:Int)] w (λv w'=>v=.tuple #[.int .i64 ((bu n).1:Int),.int .i64 ((bu n).2.1:Int),.int .i64 ((bu n).2.2:Int),.int .i64 0]∧Below w.heap.size w w'):=by
 refine aZ λK a=>DS ?_;unfold Bk nz;obtain⟨s1,s2,_⟩:=lx c h;unfold bu at a s1 s2;simp only[rs,show ai ((n:Int) < 3)=au from amE om,show ai ((258:Int) < (n:Int))=au from amE om,i_f];by_cases b:(n:Int)=258
 ·simp only[b,amD,i_t];rw[amB om] at a;exact a _ _ ⟨rfl,(Own.start w).done⟩
 ·simp only[b,amF,i_f];rw[amA om] at a s1 s2;rw[aA om om,show (n:Int) - 3=((n - 3:Nat):Int) by omega];refine aL (Own.start w) (R:=λv=>v=sdT (ja (n - 3) 8 4)) (O5 (n - 3) 8 4 w om om om) ?_;rintro _ w2 rfl d;unfold sdT;simp only[ex,rs];rw[aA om om];exact a _ _ ⟨sm,d.done⟩
theorem Lz (n:Nat)(w:ao)(c:1<=n)(h:n<=32768):Ret ah 326 #[.int .i64 (n:Int)] w (λv w'=>v=.tuple #[.int .i64 ((di n).1:Int),.int .i64 ((di n).2.1:Int),.int .i64 ((di n).2.2:Int),.int .i64 0]∧Below w.heap.size w w'):=by
 refine aZ λK a=>Ed ?_;unfold Bo nz;simp only[rs,show ai ((n:Int) < 1)=au from amE om,show ai ((32768:Int) < (n:Int))=au from amE om,i_f];rw[aA om om,show (n:Int) - 1=((n - 1:Nat):Int) by omega];refine aL (Own.start w) (R:=λv=>v=sdT (ja (n - 1) 4 2)) (O5 (n - 1) 4 2 w om om om) ?_;rintro _ w2 rfl b;unfold sdT;simp only[ex,rs];exact a _ _ ⟨rfl,b.done⟩
theorem IS (last n:Nat)(l:List Nat)(s:List UInt8){k:Nat}(a:l.length=8*k):fk (l++bf last 1++bf 0 2)++bf n 16++bf (65535 - n) 16++fj s=l++jq last n s:=by
 unfold jq fk;rw[show (8 - (l++bf last 1++bf 0 2).length % 8) % 8=5 by simp only[amC,bp];omega];simp only[amM]
theorem Ie {T2:TypeId}{k:IntKind}{b:Int}:DoX ah (mB .min #[T1,T2] U cb #[.int k a,.int k' b]) w PK K=K (.int k (min a b)) w:=aD (by
 have e:(if b < a then b else a)=min a b:=by split<;>omega
 simp[mB,builtin,Builtin.min_,Builtin.min2,e])
section
variable {w:ao}{PK:PKT}{K:VWP}{S:Nat->Prop}{w0:ao}{L T:List Ent}
theorem TD {s:List UInt8}(a:OwnS S w0 w T)(hs:s.length<=1048576)(k:∀W,OwnS S w0 W T->K (.string ⟨(az (fu s)).toArray⟩) W):CallX ah 265 #[.string ⟨s.toArray⟩] w PK K:=by
 refine fH (Bz (k0:=RetK λu W=>u=.string ⟨(az (fu s)).toArray⟩∧OwnS S w0 W T) ?_) (λe W ⟨u,he,hv,a⟩=>by subst he;subst hv;exact k W a);unfold uO nz;refine St a λb w1 a=>?_;unfold fu;generalize hf:s.length / 65535+1=f;have F:s.length < f*65535:=om
 have G:f<=20:=om
 generalize hR:gz f s=R;refine loop (λvs W=>∃(t:List UInt8) (l:List Nat) (j g:Nat) (way:Int) (v:aq),vs=[.string ⟨t.toArray⟩]∧t.length<=1048576∧t.length < g*65535∧g<=20∧l.length=8*j∧j+t.length+5*g<=1048776∧bn l∧l++gz g t=R∧(way=0∨way=1)∧OwnS S w0 W (Wr b way l v T)) (λvs _=>yE (vs.getD 0 undef)) ⟨s,[],0,f,0,nilS,rfl,hs,F,G,rfl,om,(λb hb=>by cases hb),by rw[<-hR];rfl,.inl rfl,a⟩ ?_;clear a;rintro vs w2 ⟨t,l,j,g,way,v,rfl,ht,a8,hg,H,b0,r,i,hw,a⟩ _;simp only[qU,gd,nz];rw[gM amP,Ie];obtain⟨g,rfl⟩:∃q,g=q+1:=⟨g - 1,om⟩;unfold gz at i;have hn:min (t.length:Int) 65535=((min t.length 65535:Nat):Int):=om
 rw[hn];refine join λJ hJ=>?_;rw[gM amP];simp only[rs];have go:∀last:Nat,last < 2->(last=1↔t.length<=65535)->J [.int .i64 (last:Int)] w2:=by
  intro last I m;refine hJ _ _ λ_=>?_;simp only[qA,gd,nz];generalize b1:min t.length 65535=n;have X:n<=65535:=om
  have b2:n<=t.length:=om
  have b3:l.length<=10000000:=om
  refine nL (n:=1) a r hw om om om λY v1 w3 L a=>?_;have o:=br r (dr last 1);refine nL (x:=0) (n:=2) a o L om dc (by rw[amC,bp];omega) λZ v2 w4 b4 a=>?_;have A:=br o (dr 0 2);refine PA a λw5 a=>?_;have c:=uj A;have M:(fk (l++bf last 1++bf 0 2)).length=8*(j+1):=by
   rw[nm];simp only[amC,bp];omega
  generalize B:fk (l++bf last 1++bf 0 2)=N at a c M;refine nL (x:=n) (n:=16) a c (.inl rfl) om om om λa1 v4 w6 O a=>?_;have p:=br c (dr n 16);simp only[rs];rw[aA om om,show (65535:Int) - (n:Int)=((65535 - n:Nat):Int) by omega];refine nL (x:=65535 - n) (n:=16) a p O om om (by rw[amC,bp];omega) λa6 v5 w7 b5 a=>?_;have a7:=br p (dr (65535 - n) 16);have C:(N++bf n 16++bf (65535 - n) 16).length=8*(j+5):=by
   simp only[amC,bp];omega
  have P:fk (N++bf n 16++bf (65535 - n) 16)=N++bf n 16++bf (65535 - n) 16:=by
   unfold fk;rw[C,show (8 - 8*(j+5) % 8) % 8=0 by omega];exact amY _
  refine PA a λw8 a=>?_;rw[P] at a;rw[aeP amP om om,amK];have D:(t.take n).length=n:=by rw[amL];omega
  refine agO (j:=j+5) a C om om λv6 w9 a=>?_;rw[Qa amP om om,amK];have d:=IS last n l (t.take n) H;rw[B] at d;rw[d] at a;have E:=br r (oe last n (t.take n));have Q:(l++jq last n (t.take n)).length=8*(j+5+n):=by rw[amC,jt,D];omega
  try simp only[rs]
  by_cases y:t.length<=65535
  ·have U:=m.2 y;subst U;simp only[show ai (((1:Nat):Int)=1)=av from rfl,i_t];rw[amB y] at i;have z:n=t.length:=om
   rw[z,aoA,i] at a;refine Ot a (by rw[<-i,amC,jt];omega) (by rw[<-i,amC,jt];omega) λW a=>?_;exact⟨_,rfl,rfl,a⟩
  ·have V:last=0:=by
    have:¬last=1:=λe=>y (m.1 e);omega
   subst V;simp only[show ai (((0:Nat):Int)=1)=au from rfl,i_f];rw[amA y] at i;have z:n=65535:=om
   subst z;rw[<-amM] at i;have ld:(t.drop 65535).length=t.length - 65535:=amQ;exact aY ⟨t.drop 65535,_,j+5+65535,g,0,v6,rfl,om,om,om,Q,om,E,i,.inl rfl,a⟩ (by
    show yE (.string ⟨(t.drop 65535).toArray⟩) < yE (.string ⟨t.toArray⟩);rw[sA,sA];omega)
 by_cases y:t.length<=65535
 ·simp only[show ai (((min t.length 65535:Nat):Int)=(t.length:Int))=av from amG om,i_t];exact go 1 dc ⟨λ_=>y,λ_=>rfl⟩
 ·simp only[show ai (((min t.length 65535:Nat):Int)=(t.length:Int))=au from amE om,i_f];exact go 0 dc ⟨(λh=>by cases h),λh=>absurd h y⟩
end
end
section
open Eng Go.RowKit
theorem Cn.Mn:∀l:List Cn,Cn.sum Cn.wt (Cn.bF l)<=Cn.sum Cn.wt l
|[]=>amJ _
|[a]=>anG _
|a::b::l=>by
  have c:=Cn.Mn l;show Cn.sum Cn.wt (.node a b::Cn.bF l)<=_;rw[Cn.sum_cons,Cn.sum_cons,Cn.sum_cons];show a.wt+b.wt+_<=_;omega
theorem Cn.Row.acC {L:List Cn}(h:Cn.Row L t r):Cn.sum Cn.wt r<=(t+1)*Cn.sum Cn.wt L:=by
 induction h with
|zero _ hp=>
  rw[Cn.KK hp];omega
|@succ t q r a _ hp b=>
  have:=Cn.Mn q;rw[Cn.KK hp,Cn.Gy,aoM];omega
def nu (counts:List Nat)(i:Nat):List Nat:=(List.range i).filter λs=>ai (0 < counts.getD s 0)
def kg (counts:List Nat)(i:Nat):List Cn:=(nu counts i).map λs=>.leaf (counts.getD s 0) s
theorem vx (counts:List Nat):kg counts counts.length=ke counts:=rfl
theorem vy (counts:List Nat)(i:Nat):kg counts (i+1)=kg counts i++(if 0 < counts.getD i 0 then [.leaf (counts.getD i 0) i] else []):=by
 unfold kg nu;rw[arO,atS,anN]
 congr 1
 by_cases h:0 < counts.getD i 0
 ·rw[amB h,arU,amB (amG h)];rfl
 ·rw[amA h,arU,amA (λk=>h (amU k))];rfl
theorem IT (counts:List Nat)(i:Nat):(kg counts i).length<=i:=by
 unfold kg nu;rw[anP];have:=atP (λs=>ai (0 < counts.getD s 0)) (List.range i)
 rwa [atQ] at this
theorem vz {counts:List Nat}(h:∀c∈counts,c<=2147483647):∀i,Cn.sum Cn.wt (kg counts i)<=i*2147483647
|0=>by simp[kg,nu,Cn.sum]
|i+1=>by
  have a:=vz h i;rw[vy,Cn.Gy,aoM];have b:counts.getD i 0<=2147483647:=im h dc i;have e:Cn.sum Cn.wt (if 0 < counts.getD i 0 then [.leaf (counts.getD i 0) i] else [])<=counts.getD i 0:=by
   split
   ·simp[Cn.sum,Cn.wt]
   ·simp[Cn.sum]
  omega
theorem Ac (l:List Nat)(i n:Nat):(aV l).set i (.int .i64 (n:Int))=aV (l.set i n):=by unfold aV;rw[asM]
theorem D7 (h:i < l.length):(aV l)[i]?=ax (.int .i64 ((l.getD i 0:Nat):Int)):=by
 unfold aV;rw[aqL,amI,amN h];rfl
theorem LO:(Tryz.prog.info? 3).map (·.size)=ax 1:=krx
theorem Vw {g n:Nat}(hi:i < n)(W:ao):(mIA 123 (.slice (ax ⟨g,0,aw⟩) n cap) (.int .i64 (i:Int))).run ah W=.ok (.value (.pointer (ax ⟨g,i,aw⟩))) W:=by
 have:=dX (P:=ah) (T:=123) (b:=g) (off:=0) (cap:=cap) (n:=n) (k:=.i64) (i:=(i:Int)) (w:=W) amZ LO om om
 rwa [amK,anC,amO] at this
abbrev lnE (a g n:Nat):Ent:=.cells a [.slice (ax ⟨g,0,aw⟩) n n] 123
abbrev lrE (g:Nat)(out:List Nat):Ent:=.cells g (aV out) 3
def adN (a:Nat):Value:=.func (.func 330) #[] #[.pointer (ax ⟨a,0,aw⟩)]
theorem Is:cN ah 330=true:=krx
section
variable {w:ao}{PK:PKT}{K:VWP}{S:Nat->Prop}{w0:ao}{L T:List Ent}
theorem aaM :DoX ah (mEq .eql 342 xo yo (.pointer (ax ⟨b,0,aw⟩)) (.pointer aw)) w PK K=K (.bool au) w:=aD krx
theorem WQ :DoX ah (mEq .eql 342 xo yo (.pointer aw) (.pointer aw)) w PK K=K (.bool av) w:=aD krx
theorem acX {b g s:Nat}{out:List Nat}(a:OwnS S w0 w (lnE b g out.length::lrE g out::T))(c:s < out.length)(f:out.getD s 0<=1000000000)
  (k:∀W,OwnS S w0 W (lnE b g out.length::lrE g (out.set s (out.getD s 0+1))::T)->K (.tuple #[]) W):DoX ah (fY (adN b) #[.int .i64 (s:Int)]) w PK K:=by
 refine IG Is ?_;show CallX ah 330 #[.int .i64 (s:Int),.pointer (ax ⟨b,0,aw⟩)] w PK K;refine fH (yH (k0:=RetK λv W=>v=.tuple #[]∧OwnS S w0 W (lnE b g out.length::lrE g (out.set s (out.getD s 0+1))::T)) ?_) (λe W ⟨v,he,d,a⟩=>by subst he;subst d;exact k W a);unfold qR nz;rw[aJ Ez (a.cell 0 rfl 0 rfl)];refine aD (Vw c w) |>.mpr ?_;rw[aJ aU (a.cell 1 rfl s (D7 c))];simp only[rs];rw[aA om om,show ((out.getD s 0:Nat):Int)+1=((out.getD s 0+1:Nat):Int) by omega];refine aD (Vw c w) |>.mpr ?_;refine aK 1 a rfl krx rfl (by rw[eO];exact c) λw2 a=>?_;rw[Ac] at a;exact retK ⟨rfl,a⟩
theorem Uq {o g jm:Nat}{M:Mem}(hm:T[jm]?=ax (.mem M)):∀(c:Cn) {v:aq} {w:ao} {PK:PKT} {K:VWP} {out:List Nat},OwnS S w0 w (lnE o g out.length::lrE g out::T)->CnAt M.A M.w v c ->
  (∀s,0 < c.cnt s->s < out.length)->(∀s,out.getD s 0+c.cnt s<=1000000000) ->
  (∀W a,a.length=out.length->(∀s,a.getD s 0=out.getD s 0+c.cnt s)->OwnS S w0 W (lnE o g a.length::lrE g a::T)->K (.tuple #[]) W) ->
  CallX ah 329 #[v,adN o] w PK K
|.leaf wt s,v,w,PK,K,out,d,l,j,C,k=>by
  refine fH (oD (k0:=RetK λv W=>v=.tuple #[]∧∃a,a.length=out.length∧(∀t,a.getD t 0=out.getD t 0+(Cn.leaf wt s).cnt t)∧OwnS S w0 W (lnE o g a.length::lrE g a::T)) ?_) (λe W ⟨v,he,l,a,D,E,d⟩=>by subst he;subst l;exact k W a D E d);unfold nB nz;obtain⟨b,rfl,p,q⟩:=l;have n:M.has w:=d.hasM (jm+2) (by rw[anM,anM];exact hm);rw[bG,aO Uv];refine aD (aB ML (aI (T:=344) (cs:=cnC wt s (.pointer aw) (.pointer aw)) (jU n p q) (i:=2) rfl)) |>.mpr ?_;rw[WQ,i_t,bG,aO YI];refine aD (aB aU (aI (T:=344) (cs:=cnC wt s (.pointer aw) (.pointer aw)) (jU n p q) (i:=1) rfl)) |>.mpr ?_;have J:s < out.length:=j s (by simp[Cn.cnt]);have O:=C s;refine acX d J om λW d=>?_;refine retK ⟨rfl,out.set s (out.getD s 0+1),aoV,λt=>?_,by rw[aoV];exact d⟩;rw[amI];by_cases h:s=t
  ·subst h;rw[apN J];simp[Cn.cnt]
  ·rw[arJ h,<-amI];simp[Cn.cnt,h]
|.node x y,v,w,PK,K,out,d,l,j,C,k=>by
  refine fH (oD (k0:=RetK λv W=>v=.tuple #[]∧∃a,a.length=out.length∧(∀t,a.getD t 0=out.getD t 0+(Cn.node x y).cnt t)∧OwnS S w0 W (lnE o g a.length::lrE g a::T)) ?_) (λe W ⟨v,he,l,a,D,E,d⟩=>by subst he;subst l;exact k W a D E d);unfold nB nz;obtain⟨b,va,F,rfl,p,q,L,P⟩:=l;have m:∀{W:ao} {e e':Ent},OwnS S w0 W (e::e'::T)->M.has W:=λd=>d.hasM (jm+2) (by rw[anM,anM];exact hm);obtain⟨R,Q,_⟩:=CnAt.ptr L;have r:∀{W:ao},M.has W->(aH 342 (.pointer (ax ⟨b,0+2,aw⟩))).run ah W=.ok (.value va) W:=λn=>aB ML (aI (T:=344) (cs:=cnC (x.wt+y.wt) 0 va F) (jU n p q) (i:=2) rfl);have G:∀{W:ao},M.has W->(aH 342 (.pointer (ax ⟨b,0+3,aw⟩))).run ah W=.ok (.value F) W:=λn=>aB ML (aI (T:=344) (cs:=cnC (x.wt+y.wt) 0 va F) (jU n p q) (i:=3) rfl);have f:∀t,(Cn.node x y).cnt t=x.cnt t+y.cnt t:=λt=>rfl;rw[bG,aO Uv];refine aD (r (m d)) |>.mpr ?_;rw[Q,aaM,i_f]
  try rw[bG]
  rw[aO Uv];refine aD (r (m d)) |>.mpr ?_;refine Uq hm x d L (λs h=>j s (by rw[f];omega)) (λs=>by have:=C s;rw[f] at this;omega) λU N u z d=>?_
  try rw[bG]
  rw[aO aeD];refine aD (G (m d)) |>.mpr ?_;refine Uq hm y d P (λs h=>by rw[u];exact j s (by rw[f];omega)) (λs=>by have:=C s;rw[f] at this;rw[z];omega) λV B H I d=>?_;exact retK ⟨rfl,B,by rw[H,u],λt=>by rw[I,z,f];omega,d⟩
end
theorem H9 {ps:List Pc}(h:(pcE v ps).is w):DoX ah (mB .len #[341] 3 #[au] #[v]) w PK K=K (.int .i64 (ps.length:Int)) w:=bD aoZ (Sl.urow h)
theorem Yk {d b:Nat}{out:List Nat}{R:List Ent}(a:OwnS S w0 w (lnE d b out.length::lrE b out::R))(e:R[j]?=ax (Ent.mem N))(k:out.length<=1000000) :
  ∃c:Mem,N.le c∧SlA c.A c.w (.slice (ax ⟨b,0,aw⟩) out.length out.length) 1 out.length (aV out)∧∃(f:List Ent) (h:Nat),OwnS S w0 w f∧f[h]?=ax (Ent.mem c):=by
 have a:OwnS S w0 w ([lnE d b out.length]++([lrE b out]++R)):=a;have a:OwnS S w0 w (.cells b (aV out) 3::(lnE d b out.length::R)):=a.front;have a:=a.toU 1 out.length out.length (by rw[eO,anC]) (amJ _) om;rw[anC,anJ (by rw[eO];exact amJ _)] at a;obtain⟨c,g,i,a⟩:=OwnS.bI a (j+1) (by rw[anM];exact e);refine⟨c,g,i,_,j+1,a,?_⟩;rw[apN (by
  have:=(amS.1 e).1;simp only[amW];omega)]
theorem BG {ps:List Pc}{l:List Cn}(h:ps.map (·.2)=l):ps.length=l.length:=by rw[<-h,anP]
theorem Cn.Xn {L:List Cn}(hL:Cn.Lv L Sy)(h:Cn.Row L t r){n:Nat}(a:∀s∈Sy,s < n):∀x∈r,∀s,0 < x.cnt s->s < n:=by
 intro x b s c;by_cases hm:s∈Sy
 ·exact a s hm
 ·have:=h.none hL hm x b;omega
theorem qw {ps:List Pc}(h:Srt.srt pw ps):Cn.sorted (ps.map (·.2)):=by
 unfold Cn.sorted;rw[List.pairwise_map];exact h
theorem zP (counts:List Nat)(most:Nat)(v:aq)(M:Mem)(w:ao)(hM:M.has w)(hs:SlA M.A M.w v 1 counts.length (aV counts))(hl:counts.length<=288)(l7:0 < counts.length)(hc:∀c∈counts,c<=2147483647)(hm:1<=most)(h6:most<=15)(hu:(da counts).length<=2 ^ most) :
  RetM ah 298 #[v,.int .i64 (most:Int)] M w (λr N=>∃lens r',r=.tuple #[r',.int .i64 0]∧Df.LV counts lens most∧r'.oneCell'=av∧SlA N.A N.w r' 1 lens.length (aV lens)):=by
 refine bB hM λK hK=>Eh ?_;unfold Bn nz;have d:OwnS M.A w w [.mem M]:=OwnS.memS hM;rw[bD amZ (hs.now hM)];simp only[rs,show ai ((288:Int) < (counts.length:Int))=au from amE om,show ai ((most:Int) < 1)=au from amE om,show ai ((15:Int) < (most:Int))=au from amE om,i_f];rw[bD amZ (hs.now hM)];have d:OwnS M.A w w [.urow 342 1 nilS 0 [],.mem M]:=OwnS.nilU (L:=[.mem M]) d _ _;refine loop (λvs W=>∃(i:Nat) (v':aq) (o:List Pc) (N:Mem),vs=[v',.int .i64 (i:Int)]∧i<=counts.length∧M.le N∧o.map (·.2)=kg counts i∧(∀x∈o,okM N x)∧OwnS M.A w W [pcE v' o,.mem N]) (λvs _=>counts.length - n1 vs) ⟨0,nilS,[],M,rfl,om,M.le_refl,rfl,(λx z=>by cases z),d⟩ ?_;clear d;rintro vs w1 ⟨i,v',o,N,rfl,hi,hle,O,P,d⟩ _;simp only[vP,gd,rs,nz];have l8:=BG O;have l9:=IT counts i;by_cases c0:(i:Int) < (counts.length:Int)
 ·simp only[c0,amD,i_t];have a7:i < counts.length:=om
  refine join λJ hJ=>?_;obtain⟨b2,off,r1,r2⟩:=mU (hs.now (Mem.MJ hle (d.hasM 1 rfl))) a7;refine aD (r1 w1) |>.mpr (aD (aB aU r2) |>.mpr ?_);have h7:=hc _ (amR a7);have h8:counts.getD i 0=counts[i]:=by rw[amI,amN a7];rfl
  have l:=vy counts i;rw[h8] at l;generalize counts[i]=ci at h7 l;simp only[rs,show ai ((ci:Int) < 0)=au from amE om,show ai ((2147483647:Int) < (ci:Int))=au from amE om,i_f];have fin:∀(W:ao) (v2:aq) (F:List Pc) (I:Mem),N.le I->F.map (·.2)=kg counts (i+1)->(∀x∈F,okM I x)->OwnS M.A w W [pcE v2 F,.mem I]->J [v2] W:=by
   intro W v2 F I g U Q d;refine hJ _ _ λ_=>?_;simp only[uZ,gd,rs,nz];rw[aA om om];exact aY ⟨i+1,v2,F,I,rfl,om,hle.trans g,U,Q,d⟩ (by simp[n1,RowKit.intOf];omega)
  by_cases h0:0 < ci
  ·simp only[show ai ((0:Int) < (ci:Int))=av from amG om,i_t];rw[amB h0] at l;have mb:∀{PK:PKT} {K:VWP},DoX ah (aS 344 #[(0,.int .i64 (ci:Int)),(1,.int .i64 (i:Int))]) w1 PK K=K (.agg (cnC ci i (.pointer aw) (.pointer aw)).toArray) w1:=aD krx;rw[mb];refine bA (λb=>.pointer (ax ⟨b,0,aw⟩)) (cnC ci i (.pointer aw) (.pointer aw)) 344 (λ_=>by kernel_rfl) d λnb w3 d=>?_;have h9:=d.at_ 0 rfl;obtain⟨N1,g1,j0,c4,d⟩:=OwnS.freeze (L:=[pcE v' o,.mem N]) d 1 rfl;have hz:okM N1 (.pointer (ax ⟨nb,0,aw⟩),.leaf ci i):=⟨nb,rfl,c4 nb rfl,by rw[j0];exact h9⟩;have d:OwnS M.A w w3 [pcE v' o,.mem N1]:=d;refine bA (λb=>.slice (ax ⟨b,0,aw⟩) 1 1) [.pointer (ax ⟨nb,0,aw⟩)] 342 (λ_=>by kernel_rfl) d λsb w4 d=>?_;refine bR 1 aoZ KN dc d rfl (pA (d.at_ 0 rfl) dc rfl) (λu hu=>by rw[anB.1 hu];rfl) om om λv2 w5 d=>?_;have d:OwnS M.A w w5 [pcE v2 (o++[(.pointer (ax ⟨nb,0,aw⟩),.leaf ci i)]),.mem N1]:=by
    unfold pcE;rw[NI,amC];exact d.tail
   refine fin w5 v2 _ N1 g1 (by rw[anN,O,l];rfl) (λu hu=>?_) d;rcases anF.1 hu with h|h
   ·exact (P u h).le g1
   ·rw[anB.1 h];exact hz
  ·simp only[show ai ((0:Int) < (ci:Int))=au from amE om,i_f];rw[amA h0,amY] at l;exact fin w1 v' o N N.le_refl (by rw[O,l]) P d
 ·simp only[c0,amF,i_f];have j1:i=counts.length:=om
  subst j1;rw[vx] at O;have B:=vh counts;have c5:o.length=(da counts).length:=by rw[BG O,B.len]
  have m0:2 ^ most<=2 ^ 15:=aoH dc h6;have m1:(2:Nat) ^ 15=32768:=rfl;rw[H9 (d.at_ 0 rfl),FV om];have t:=V2 (a:=1) (k:=most) om om;rw[arP] at t;have t:IntKind.i64.wrap ((1:Int)*2 ^ min ((most:Nat):Int).toNat IntKind.i64.bits)=((2 ^ most:Nat):Int):=t;rw[t];simp only[rs,show ai (((2 ^ most:Nat):Int) < (o.length:Int))=au from amE om,i_f];rw[bD amZ (hs.now (Mem.MJ hle (d.hasM 1 rfl)))];refine wR om d λq w2 d=>?_;refine bA (λb=>.pointer (ax ⟨b,0,aw⟩)) [.slice aw 0 0] 123 (λ_=>by kernel_rfl) d λX w3 d=>?_;refine aK 0 d rfl krx rfl (by show 0 < 1;omega) λw4 d=>?_;have j3:aV (List.replicate counts.length 0)=List.replicate counts.length (.int .i64 0):=by simp[aV]
  have d:OwnS M.A w w4 (lnE X q (List.replicate counts.length 0).length::lrE q (List.replicate counts.length 0)::[pcE v' o,.mem N]):=by
   unfold lrE;rw[j3,anU];exact d
  refine join λJ3 j4=>?_;rw[H9 (d.at_ 2 rfl)];simp only[rs];have fin:∀(W:ao) (out:List Nat),out.length=counts.length->(o.length < 2->Df.LV counts out most)->(2<=o.length->out=List.replicate counts.length 0)->OwnS M.A w W (lnE X q out.length::lrE q out::[pcE v' o,.mem N])->J3 [] W:=by
   intro W out R U Q d;refine j4 _ _ λ_=>?_;unfold vR nz;rw[H9 (d.at_ 2 rfl)];simp only[rs];by_cases j5:o.length < 2
   ·simp only[show ai ((o.length:Int) < 2)=av from amG om,i_t];rw[aJ Ez (d.cell 0 rfl 0 rfl)];obtain⟨I,g2,C,L2,j2,a8,b0⟩:=Yk (j:=1) d rfl om;exact hK _ _ I L2 j2 a8 b0 (hle.trans g2) ⟨out,_,rfl,U j5,rfl,C⟩
   ·simp only[show ai ((o.length:Int) < 2)=au from amE om,i_f];have Q:=Q om;subst Q;have j6:=cQ (d.at_ 2 rfl);have d:OwnS M.A w W ([lnE X q (List.replicate counts.length 0).length,lrE q (List.replicate counts.length 0)]++([pcE v' o]++[.mem N])):=d;obtain⟨I,g2,j7,d⟩:=OwnS.bI (L:=[lnE X q (List.replicate counts.length 0).length,lrE q (List.replicate counts.length 0)]++[.mem N]) d.front 2 rfl;have d:OwnS M.A w W [lnE X q (List.replicate counts.length 0).length,lrE q (List.replicate counts.length 0),.mem I]:=d;refine bH d 2 rfl (HH o [] v' nilS I W (d.hasM 2 rfl) j7 (SlA.nil _ _ _ _) (λx z=>(P x z).le g2) (λx z=>by cases z) om om sm j6 rfl) ?_;rintro lv N3 w5 g3 ⟨ls,b1,j8,c6,c7,G⟩ d;rw[amY] at b1;have c8:(ls.map (·.2)).Perm (ke counts):=by rw[<-O];exact b1.map _
    have m2:ls.length=(da counts).length:=by rw[b1.length_eq,c5]
    have S:=B.len;have m3:(da counts).length<=288:=by
     have:=atP (λs=>ai (0 < counts.getD s 0)) (List.range counts.length);rw[atQ] at this;have e:(da counts).length<=counts.length:=this;omega
    rw[aA om om];refine loop (λvs V=>∃(k:Nat) (rv:aq) (rs:List Pc) (N':Mem),vs=[rv,.int .i64 (k:Int)]∧k<=most - 1∧N3.le N'∧Cn.Row (ke counts) k (rs.map (·.2))∧(∀x∈rs,okM N' x)∧rv.oneCell'=av∧SlA N'.A N'.w rv 1 rs.length (pcW rs)∧OwnS M.A w V [lnE X q (List.replicate counts.length 0).length,lrE q (List.replicate counts.length 0),.mem N']) (λvs _=>most - n1 vs) ⟨0,lv,ls,N3,rfl,om,N3.le_refl,.zero (qw j8) c8,c6,c7,G,d⟩ ?_;clear d;rintro vs w6 ⟨k,rv,rws,N4,rfl,hk,g4,f,c9,m4,y,d⟩ _;simp only[uU,gd,rs,nz];have j9:=f.lt om;rw[anP,S] at j9;by_cases Y:(k:Int) < (most:Int) - 1
    ·simp only[Y,amD,i_t];have l4:=f.acC;have e0:=vz hc counts.length;rw[vx] at e0;have m5:(k+1)*Cn.sum Cn.wt (ke counts)<=15*(288*2147483647):=apM om (apG e0 (apM hl (amJ _)));have k0:∀x∈rws,pw x<=1000000000000000:=λx z=>by
      have U:x.2.wt<=Cn.sum Cn.wt (rws.map (·.2)):=Cn.Ou (anK.2 ⟨x,z,rfl⟩);show x.2.wt<=_;omega
     refine bH d 2 rfl (R7 rws rv N4 w6 (d.hasM 2 rfl) y c9 om k0) ?_;rintro pv N5 w7 g5 ⟨qq,e3,e4,e5,e6⟩ d;have l5:qq.length<=1000000:=by
      rw[BG e3,Cn.B8,anP];omega
     refine bH d 2 rfl (HH ls qq lv pv N5 w7 (d.hasM 2 rfl) (G.le (g4.trans g5)) e6 (λx z=>(c6 x z).le (g4.trans g5)) e4 om om om c7 e5) ?_;rintro k1 N6 w8 g6 ⟨k2,k3,k4,e7,k5,b3⟩ d
     try simp only[rs]
     rw[aA om om];refine aY ⟨k+1,k1,k2,N6,rfl,om,g4.trans (g5.trans g6),.succ f (qw k4) ?_,e7,k5,b3,d⟩ (by simp[n1,RowKit.intOf];omega);have:=k3.map (·.2);rw[anN,e3] at this;exact this.trans (c8.append_right _)
    ·simp only[Y,amF,i_f];have b4:k=most - 1:=om
     obtain⟨c1,c2,c3⟩:=f.code B om (by rw[b4,show most - 1+1=most by omega,S];exact hu);rw[anP,S] at c1;rw[S] at c2 c3;rw[bD aoZ ((G.le g4).now (d.hasM 2 rfl))];simp only[rs];rw[aA (n:=(2:Int)*(ls.length:Int)) om om,aA om om,show (2:Int)*(ls.length:Int) - 2=((2*(da counts).length - 2:Nat):Int) by omega];generalize hD:2*(da counts).length - 2=D at c1 c2 c3;obtain⟨rb,e8,Z,rfl,_⟩:=bY y.1 om;have l6:=y.2.2 _ _ _ rfl;refine aD (jT aoZ Eu om om) |>.mpr ?_;rw[amK];have E:=SlA.TP y (i:=D) c1 (λh=>by omega);rw[anC] at E;generalize m6:Value.slice (subA (ax ⟨rb,e8,aw⟩) 0 Z 1) D Z=sv at E;have e9:pcW (rws.take D)=(pcW rws).take D:=by unfold pcW;rw[asN]
     have a1:(rws.take D).length=D:=by rw[amL];omega
     have E:SlA N4.A N4.w sv 1 (rws.take D).length (pcW (rws.take D)):=by rw[e9,a1];exact E
     rw[bD aoZ (E.now (d.hasM 2 rfl)),a1];have k6:((rws.map (·.2)).take D).Nodup:=(atK _ _).nodup (f.nodup B).1;have h3:=f.levels B _ k6 (λx z=>aoO z) (Cn.Qf f.sorted D);have k7:∀s∈da counts,s < counts.length:=λs hs=>by
      have:=kd.1 hs;rcases anE s counts.length with h'|h'
      ·exact h'
      ·rw[amI,aoU h'] at this;exact absurd this (arB _)
     have b5:=Cn.Xn B f k7;refine loop (λvs V=>∃(i:Nat) (out:List Nat),vs=[.int .i64 (i:Int)]∧i<=D∧out.length=counts.length∧(∀s,out.getD s 0=Cn.sum (Cn.cnt s) ((rws.take i).map (·.2)))∧OwnS M.A w V [lnE X q out.length,lrE q out,.mem N4]) (λvs _=>D - n0 vs) ⟨0,List.replicate counts.length 0,rfl,om,anU,λs=>by
      rw[amI,asK];split<;>rfl,d⟩ ?_
     clear d;rintro vs w7 ⟨j,out,rfl,hj,R,H,d⟩ _;simp only[uY,gd,rs,nz];by_cases a6:(j:Int) < (D:Int)
     ·simp only[a6,amD,i_t];have k8:j < (rws.take D).length:=om
      have b6:j < rws.length:=om
      obtain⟨p,ia,ld⟩:=pcAt E k8;refine aD (ia w7) |>.mpr (aD (ld w7 (d.hasM 2 rfl)) |>.mpr ?_)
      try rw[qB]
      rw[asC];have z:=c9 _ (amR b6);have h4:∀s,Cn.sum (Cn.cnt s) ((rws.take (j+1)).map (·.2))=Cn.sum (Cn.cnt s) ((rws.take j).map (·.2))+rws[j].2.cnt s:=λs=>by
       rw[anH b6,anN,Cn.Gy];rfl
      have k9:∀s,Cn.sum (Cn.cnt s) ((rws.take (j+1)).map (·.2))<=k+1:=λs=>by
       have U:=(h3 s).1;have Q:(rws.map (·.2)).take D=(rws.take (j+1)).map (·.2)++((rws.drop (j+1)).take (D - (j+1))).map (·.2):=by
        rw[<-asN,<-anN]
        congr 1
        conv=>lhs;rw[show D=j+1+(D - (j+1)) by omega,List.take_add]
       rw[Q,Cn.Gy] at U;omega
      refine Uq (jm:=0) (T:=[.mem N4]) rfl rws[j].2 d z (λs h=>by rw[R];exact b5 _ (anK.2 ⟨rws[j],amR b6,rfl⟩) s h) (λs=>by rw[H,<-h4];have:=k9 s;omega) λW2 h5 U Q d=>?_
      try simp only[rs]
      rw[aA om om];exact aY ⟨j+1,h5,rfl,om,by rw[U,R],λs=>by rw[Q,H,h4],d⟩ (by simp[n0,RowKit.intOf];omega)
     ·simp only[a6,amF,i_f];have l0:j=D:=om
      subst l0;rw[aJ Ez (d.cell 0 rfl 0 rfl)];obtain⟨N5,g5,C,L2,j2,a8,b0⟩:=Yk (j:=0) d rfl om;refine hK _ _ N5 L2 j2 a8 b0 (hle.trans (g2.trans (g3.trans (g4.trans g5)))) ⟨out,_,rfl,?_,rfl,C⟩;have:=BY (counts:=counts) (lens:=out) (m:=k) om f om (by rw[b4,show most - 1+1=most by omega];exact hu) hl R λs _=>by
       rw[H,hD,asN]
      rw[b4,show most - 1+1=most by omega] at this;exact this
  by_cases l1:o.length=1
  ·simp only[show ai ((o.length:Int)=1)=av from amG om,i_t];obtain⟨u,rfl⟩:=atZ.1 l1;have b7:=P u (atY u);obtain⟨s,b8⟩:∃s,da counts=[s]:=atZ.1 (by rw[<-c5];rfl);have l2:u.2=.leaf (counts.getD s 0) s:=by
    unfold ke at O;rw[b8] at O;exact (List.cons.inj O).1
   have C:s < counts.length:=by
    have:s∈da counts:=by rw[b8];exact atY s
    have:=kd.1 this;rcases anE s counts.length with h'|h'
    ·exact h'
    ·rw[amI,aoU h'] at this;exact absurd this (arB _)
   unfold okM at b7;rw[l2] at b7;obtain⟨ub,l3,hA,b9⟩:=b7;obtain⟨g,cap,rfl⟩:=mN (d.at_ 2 rfl) sm;refine dW (λV=>OwnS M.A w V (lnE X q (List.replicate counts.length 0).length::lrE q (List.replicate counts.length 0)::[pcE (.slice (ax ⟨g,0,aw⟩) [u].length cap) [u],.mem N])) d.drew ?_;refine q_at _ (λV h=>aB Ez (h.cell 0 rfl 0 rfl)) ?_;refine q_do _ (λV=>pP (i:=0) sm V) (q_at u.1 (λV h=>xF (i:=0) (h.at_ 2 rfl) sm) ?_);rw[l3];refine q_do _ (λ_=>dK) (q_do _ (λ_=>bE YI) (q_at (.int .i64 (s:Int)) (λV h=>aB aU (aI (T:=344) (cs:=cnC (counts.getD s 0) s (.pointer aw) (.pointer aw)) (jU (h.hasM 3 rfl) hA b9) (i:=1) rfl)) ?_));refine q_do _ (λV=>Vw (by rw[anU];exact C) V) ?_;intro w5 d;refine aK 1 d rfl krx rfl (by rw[eO,anU];exact C) λw6 d=>?_;have e1:(aV (List.replicate counts.length 0)).set s (.int .i64 1)=aV ((List.replicate counts.length 0).set s 1):=Ac _ _ _;rw[e1] at d;refine fin w6 ((List.replicate counts.length 0).set s 1) sm (λ_=>C0 hl b8 hm) (λh=>absurd h sm) ?_;have e2:((List.replicate counts.length 0).set s 1).length=(List.replicate counts.length 0).length:=aoV;rw[e2];exact d
  ·simp only[show ai ((o.length:Int)=1)=au from amE om,i_f];refine fin w4 _ anU (λh=>?_) (λ_=>rfl) d;exact B0 hl (apZ.1 om) most
end
end Go.Proofs.YtlipjfcbjemicaaGreatDoor
